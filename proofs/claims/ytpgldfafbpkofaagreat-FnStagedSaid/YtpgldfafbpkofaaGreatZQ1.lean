/-
  Laws on walking, and the functions walked, each once: what this claim comes to.
-/
import Derived.Test.YtpgldfafbpkofaaGreatZQ0
set_option linter.unusedVariables false
set_option linter.unusedSimpArgs false
set_option maxHeartbeats 8000000
open Array renaming getElem?_eq_getElem->Ń,getElem?_eq_some_iff->ø,getElem?_setIfInBounds_ne->Ĉ,getElem?_toList->Ş
open Bool renaming and_assoc->Õ,and_false->ŀ,false->â,true->ã,true_and->Þ
open Go renaming Addr->ô,FuncId->Ŕ,Oper->ą,Operand->Â,Program->Æ,TypeId->ì,Value->è,World->ä,execOp->À,invoke->X_,maxLen->Ë,resolve->ũ,run_underlying->þ,typeInfo->Y?
open Go.Builtin renaming append_->Ô,clear_->ŝ,zeroCells->Ø
open Go.Proofs.Tryz renaming prog->ê,underlying0->L?,underlying111->Ŵ,underlying133->ŵ,underlying136->Ŷ,underlying148->ŷ,underlying182->Ÿ,underlying2->M?,underlying205->Ź,underlying207->ź,underlying208->Ż,underlying212->ż,underlying215->Ž,underlying217->ž,underlying22->k?,underlying227->ſ,underlying231->a?,underlying237->b?,underlying238->c?,underlying25->l?,underlying27->m?,underlying28->n?,underlying29->o?,underlying3->N?,underlying31->p?,underlying33->q?,underlying4->O?,underlying5->P?,underlying53->r?,underlying54->s?,underlying57->t?,underlying76->u?,underlying87->v?,underlying9->Q?,underlying90->w?,underlying92->x?,underlying93->y?
open Go.Value renaming bool->ó,int->é
open Inhabited renaming default->à
open Int renaming tdiv_eq_ediv_of_nonneg->Ċ
open List renaming all_eq_true->û,any_eq_false->ē,any_eq_true->ī,cons_append->R?,eq_nil_of_length_eq_zero->í,ext_getElem->Ü,ext_getElem?->ĉ,filter_append->ă,filter_cons_of_neg->đ,filter_cons_of_pos->Ą,filter_eq_nil_iff->ċ,findIdx?_eq_some_iff_getElem->Ĭ,flatMap_cons->Œ,getD->ū,getD_eq_getElem?_getD->ï,getElem?_drop->Ñ,getElem?_eq_none->Í,getElem?_eq_some_iff->ñ,getElem?_set->ų,getElem?_set_self->ÿ,getElem?_take->Ð,getElem_map->ħ,getElem_of_mem->ð,getElem_range->Ĝ,getElem_set->z?,map_cons->Ï,mem_filter->Ģ,mem_of_getElem?->æ,nodup_append->ë,nodup_cons->ù,range->õ,range_succ->č,replicate->å,set_set->Ò,take->J?,take_take->ń
open Nat renaming beq->î,ble->ĭ,blt->ò,le_of_ble_eq_true->ü,mul_one->ā,zero_le->ý
open Option renaming none->ç,some->á
open Prod.mk renaming injEq->ú
namespace Go.Wk
open Go.Proofs
theorem bV:Ty ê 2 (.int .i64 0) 1 8:=⟨κ⟩
theorem Qj:Ty ê 3 (.int .i64 0) 1 8:=⟨κ⟩
theorem PN:Ty ê 4 (.bool â) 1 1:=⟨κ⟩
theorem b6:Ty ê 5 (.int .u8 0) 1 1:=⟨κ⟩
theorem Jl:Ty ê 9 (.string ⟨#[]⟩) 1 16:=⟨κ⟩
theorem cw:Ty ê 22 (.slice ç 0 0) 1 24:=⟨κ⟩
theorem iV:Ty ê 53 (.slice ç 0 0) 1 24:=⟨κ⟩
theorem e8:Ty ê 57 (.agg #[.bool â,.slice ç 0 0]) 2 32:=⟨κ⟩
theorem be:Ty ê 76 (.agg #[.int .i64 0,.int .i64 0,.string ⟨#[]⟩,.int .i64 0,.int .i64 0,.int .i64 0,.slice ç 0 0,.slice ç 0 0,.slice ç 0 0]) 9 128:=⟨κ⟩
theorem ni:Ty ê 87 (.agg #[.int .i64 0,.slice ç 0 0]) 2 32:=⟨κ⟩
theorem lO:Ty ê 92 (.agg #[.bool â,.slice ç 0 0]) 2 32:=⟨κ⟩
theorem MW:Pl ê 25 [.int .i64 0,.int .i64 0,.int .i64 0,.int .i64 0,.int .i64 0,.int .i64 0,.int .i64 0,.int .i64 0,.int .i64 0] [(0,1),(1,1),(2,1),(3,1),(4,1),(5,1),(6,1),(7,1),(8,1)]:=⟨κ⟩
theorem vt:Pl ê 31 [.int .i64 0,.int .i64 0,.int .i64 0,.int .i64 0,.int .i64 0,.int .i64 0,.int .i64 0,.int .i64 0,.int .i64 0,.slice ç 0 0,.slice ç 0 0,.slice ç 0 0,.int .i64 0,.int .i64 0,.bool â] [(0,9),(9,1),(10,1),(11,1),(12,1),(13,1),(14,1)]:=⟨κ⟩
theorem dQ:Pl ê 33 [.int .i64 0,.int .i64 0,.int .i64 0,.int .i64 0,.int .i64 0,.int .i64 0,.int .i64 0,.int .i64 0,.int .i64 0,.int .i64 0,.slice ç 0 0,.slice ç 0 0,.slice ç 0 0,.int .i64 0,.int .i64 0,.bool â] [(0,1),(1,15)]:=⟨κ⟩
theorem nE:Pl ê 40 [.int .i64 0,.int .i64 0] [(0,1),(1,1)]:=⟨κ⟩
theorem sj:Pl ê 44 [.int .i64 0,.slice ç 0 0] [(0,1),(1,1)]:=⟨κ⟩
theorem ne:Pl ê 57 [.bool â,.slice ç 0 0] [(0,1),(1,1)]:=⟨κ⟩
theorem eD:Pl ê 76 [.int .i64 0,.int .i64 0,.string ⟨#[]⟩,.int .i64 0,.int .i64 0,.int .i64 0,.slice ç 0 0,.slice ç 0 0,.slice ç 0 0] [(0,1),(1,1),(2,1),(3,1),(4,1),(5,1),(6,1),(7,1),(8,1)]:=⟨κ⟩
theorem M1:Pl ê 85 [.slice ç 0 0,.int .i64 0] [(0,1),(1,1)]:=⟨κ⟩
theorem jp:Pl ê 87 [.int .i64 0,.slice ç 0 0] [(0,1),(1,1)]:=⟨κ⟩
theorem u6:Pl ê 92 [.bool â,.slice ç 0 0] [(0,1),(1,1)]:=⟨κ⟩
theorem Kn:Pl ê 139 [.int .i64 0,.int .i64 0] [(0,1),(1,1)]:=⟨κ⟩
theorem M5:NG Tryz.f83:=by decide
theorem JJ:NG Tryz.f130:=by decide
theorem KS:NG Tryz.f142:=by decide
theorem K6:NG Tryz.f145:=by decide
theorem Kr:NG Tryz.f147:=by decide
theorem Kg:NG Tryz.f176:=by decide
theorem CY:NG Tryz.f184:=by decide
theorem K4:NG Tryz.f208:=by decide
theorem Ki:NG Tryz.f212:=by decide
theorem KY:NG Tryz.f232:=by decide
theorem K3:NG Tryz.f235:=by decide
end Go.Wk
namespace Go.Wk
open Rp (sz own)
variable {x B:Â}{b j n u:Nat}{P:Æ}{g:Option (Nat × Bool)}{A:Option ô}{L:Env}{l:Array Edge}{s C y:Prop}{D:Option Tmp}{E:IntKind}{m e:ì}{z:Int}
structure Cd (k:Nat):Prop where
structure Hid (p:Prop):Prop where
 o:p
def Vc:Nat->Nat
 | 1=>36
 | 2=>7
 | 3=>3
 | 4=>8
 | 5=>1
 | 6=>2
 | 7=>37
 | 8=>252
 | 9=>46
 | 10=>253
 | 11=>72
 | 12=>43
 | 13=>40
 | 14=>5
 | _=>0
def UL (k:Nat):Nat:=match î (k % 16) 15 with
 | true=>k / 16 % 256
 | false=>Vc (k % 16)
def Vj (k:Nat):Nat:=match î (k % 16) 15 with
 | true=>k / 4096
 | false=>k / 16
theorem Cd.d{k:Nat}(_:Cd k)(_:ĭ 1 k=ã):Cd (Vj k):=⟨⟩
theorem Cd.h{k:Nat}(_:Cd k)(i:Nat)(_:UL k / 36=i):True:=trivial
theorem Cd.w{k:Nat}(_:Cd k)(i:Nat)(_:UL k % 36=i):True:=trivial
class Und (P:Æ) (t:ì) (td:outParam TypeDesc):Prop where
 h:P.underlying t=á td
class Szo (P:Æ) (t:ì) (n:outParam Nat):Prop where
 h:∀w,(sizeOf t).run P w = .ok n w
class Fno (P:Æ) (f:Ŕ) (fn:outParam Func):Prop where
 h:P.funcs[f]? = á fn
 n:(fn.name == "runtime.NumGoroutine")=â
section
variable {a:Array ą}{Q:Post}{w t:ä}{d:Nat}{f:Ŕ}{v:è}{q:List ą}{M:Nat->Prop}{k F:List Rsc}{S:ä->Prop}{i:Nat}{c:List (Nat × Bool)}{o:ą}{r:Op}{p:String}
theorem Ih(h:(ò d n)=ã)(H:Py P n L w ⟨á d,r,m,p,l,ç⟩ v)(k:RL P n a Q q ((d,v)::L) w):RL P n a Q (⟨á d,r,m,p,l,ç⟩::q) L w:=bc (wn rfl) (pm2 rfl h) H k
theorem Te(H:a.toList[i]? = á ⟨á d,r,m,p,l,ç⟩)(h:(ò d n)=ã)(b:∀x,S x->Py P n L x ⟨á d,r,m,p,l,ç⟩ v)(k:DL P n a Q S c ((d,v)::L) w):DL P n a Q S ((i,ã)::c) L w:=eS H (wn rfl) (pm2 rfl h) b k
theorem Td(H:a.toList[i]? = á ⟨á d,r,m,p,l,ç⟩)(h:(ò d n)=ã)(b:Py P n L w ⟨á d,r,m,p,l,ç⟩ v)(k:DL P n a Q S c ((d,v)::L) w):DL P n a Q S ((i,â)::c) L w:=dD H (wn rfl) (pm2 rfl h) b k
theorem S8{b:Bool}(h:(ò d n)=ã)(H:evG a L j b=ã)(k:RL P n a Q q ((d,undef)::L) w):RL P n a Q (⟨á d,r,m,p,l,á (j,b)⟩::q) L w:=Kj (zH rfl H) rfl h k
theorem S1{b:Bool}(H:a.toList[i]? = á ⟨á d,r,m,p,l,á (j,b)⟩)(h:(ò d n)=ã)(e:evG a L j b=ã)(k:DL P n a Q S c ((d,undef)::L) w):DL P n a Q S ((i,ã)::c) L w:=eK H (zH rfl e) (pm2 rfl h) k
theorem Tf{b:Bool}(H:a.toList[i]? = á ⟨á d,r,m,p,l,á (j,b)⟩)(h:(ò d n)=ã)(e:evG a L j b=ã)(k:DL P n a Q S c ((d,undef)::L) w):DL P n a Q S ((i,â)::c) L w:=LZ H (zH rfl e) rfl h k
theorem SZ{t:Nat}{b:Bool}(h:(ò d n,ll a j,look L t)=(ã,á t,á (.bool b)))(H:Py P n L w ⟨á d,r,m,p,l,á (j,b)⟩ v)(k:RL P n a Q q ((d,v)::L) w):RL P n a Q (⟨á d,r,m,p,l,á (j,b)⟩::q) L w:=by
 simp only[ú] at h
 exact bc (wg (pm3 rfl h.2.1 h.2.2)) (pm2 rfl h.1) H k
theorem Tg{t:Nat}{b:Bool}(H:a.toList[i]? = á ⟨á d,r,m,p,l,á (j,b)⟩)(h:(ò d n,ll a j,look L t)=(ã,á t,á (.bool b)))(e:∀x,S x->Py P n L x ⟨á d,r,m,p,l,á (j,b)⟩ v)(k:DL P n a Q S c ((d,v)::L) w):DL P n a Q S ((i,ã)::c) L w:=by
 simp only[ú] at h
 exact eS H (wg (pm3 rfl h.2.1 h.2.2)) (pm2 rfl h.1) e k
theorem S9{t:Nat}{b:Bool}(H:a.toList[i]? = á ⟨á d,r,m,p,l,á (j,b)⟩)(h:(ò d n,ll a j,look L t)=(ã,á t,á (.bool b)))(e:Py P n L w ⟨á d,r,m,p,l,á (j,b)⟩ v)(k:DL P n a Q S c ((d,v)::L) w):DL P n a Q S ((i,â)::c) L w:=by
 simp only[ú] at h
 exact dD H (wg (pm3 rfl h.2.1 h.2.2)) (pm2 rfl h.1) e k
theorem UU{t:Nat}{b e:Bool}(H:e=b)(h:(ò d n,ll a j,look L t)=(ã,á t,á (.bool e)))(c:Py P n L w ⟨á d,r,m,p,l,á (j,b)⟩ v)(k:RL P n a Q q ((d,v)::L) w):RL P n a Q (⟨á d,r,m,p,l,á (j,b)⟩::q) L w:=by
 simp only[ú] at h
 exact bc (wgE (pm3 rfl h.2.1 h.2.2) H) (pm2 rfl h.1) c k
theorem Pw(h:evB L r=á v):Py P n L w ⟨D,r,m,p,l,g⟩ v:=J4 h
theorem Od{s:ì}{F:Array Field}{o i S O:Nat}{f:Field}[u:Und P s (.struct F)](h:(evL L x,F[i]?,o+f.offset)=(á (.pointer (á ⟨b,o,ç⟩)),á f,O))(H:Szo P f.type (S+1)):Py P n L w ⟨D,.fieldAddr s x i,m,p,l,g⟩ (.pointer (á ⟨b,O,ç⟩)):=by
 simp only[ú] at h
 exact bd u.h h.2.1 H.h (pm2 h.1 h.2.2)
theorem mm{t T}{a:ô}[u:Und P t T](h:(single T,evL L x)=(ã,á (.pointer (á a))))(H:w.cell? a=á v):Py P n L w ⟨D,.load t x,m,p,l,g⟩ v:=by
 simp only[ú] at h
 exact bp u.h (pm2 h.1 h.2) H
theorem QO{t T}{o:Nat}{c:List è}{s}[u:Und P t T][d:Szo P t s](h:(single T,evL L x)=(â,á (.pointer (á ⟨b,o,ç⟩))))(a:c.length=s)(H:At w b o c):Py P n L w ⟨D,.load t x,m,p,l,g⟩ (.agg c.toArray):=by
 simp only[ú] at h
 exact eB u.h h.1 d.h (pm2 h.2 a) H
theorem CA{t T}{o:Nat}{c:List è}{s}[u:Und P t T][d:Szo P t s](h:(single T,evL L x)=(â,á (.pointer (á ⟨b,o,ç⟩))))(H:At w b o c)(a:c.length=s):Py P n L w ⟨D,.load t x,m,p,l,g⟩ (.agg c.toArray):=QO h a H
theorem G4{t d}{c:List è}{s T f}[u:Und P t d][e:Szo P t s](h:(single d,evL L x)=(â,á (.pointer (á ⟨b,0,ç⟩))))(H:w.heap[b]? = á (.cells c.toArray T f))(a:c.length=s):Py P n L w ⟨D,.load t x,m,p,l,g⟩ (.agg c.toArray):=QO h a (At.whole H)
theorem Hd{t d}{o:Nat}{c:List è}{s T f}[u:Und P t d][e:Szo P t s](h:(single d,evL L x)=(â,á (.pointer (á ⟨b,o,ç⟩))))(H:w.heap[b]? = á (.cells c.toArray T f))(a:((c.drop o).take s).length=s):Py P n L w ⟨D,.load t x,m,p,l,g⟩ (.agg ((c.drop o).take s).toArray):=QO h a (At.sub H s)
theorem Q1{a:ì}{b:Nat}[h:Und P a (.slice e)](H:evL L x=á (.slice A b u)):Py P n L w ⟨D,.call ⟨.builtin .len,#[x],#[a]⟩,m,p,l,g⟩ (.int .i64 b):=od h.h H
theorem LN{o:Nat}{c:List è}{T f v}(h:w.heap[b]? = á (.cells c.toArray T f))(hv:c[o]? = á v):w.cell? ⟨b,o,ç⟩=á v:=bD h hv
theorem SV(H:Sep M t k F w){o:Obj}(h:box b o∈k):w.heap[b]? = á o:=H.rs _ h
theorem SY(H:Sep M t k F w){o:Obj}(h:box b o∈F):w.heap[b]? = á o:=H.fs _ h
end
section
variable {w:ä}{p:String}{v:è}
theorem Fy{o:Nat}{c:List è}(h:At w b o c)(H:c[j]? = á v):w.cell? ⟨b,o+j,ç⟩=á v:=h j v H
theorem Fo{o:Nat}{c:List è}(h:At w b o c)(H:c[0]? = á v):w.cell? ⟨b,o,ç⟩=á v:=h 0 v H
theorem Lh{s:ì}{o a S k:Nat}[f:Und P s (.slice e)][d:Szo P e S](h:(evL L x,evL L B)=(á (.slice A a u),á (.int E z)))(H:A=á ⟨b,o,ç⟩)(i:z=k)(c:k<a):Py P n L w ⟨D,.indexAddr s x B,m,p,l,g⟩ (.pointer (á ⟨b,o+k*S,ç⟩)):=by
 simp only[ú] at h
 exact bR f.h d.h (pm2 h.1 h.2) H k i c
theorem KZ{s:ì}{o a S:Nat}[f:Und P s (.slice e)][d:Szo P e S](h:(evL L x,evL L B)=(á (.slice A a u),á (.int E z)))(c:A=á ⟨b,o,ç⟩)(H:0<=z/\z.toNat<a):Py P n L w ⟨D,.indexAddr s x B,m,p,l,g⟩ (.pointer (á ⟨b,o+z.toNat*S,ç⟩)):=
 Lh h c (bQ H.1).symm H.2
end
theorem Fg{p:Prop}(H:p){w:ä}{o:Obj}(h:w.heap[b]? = á o:=by first|exact SV H (by(repeat (first|(with_reducible exact List.mem_cons_self)|refine List.mem_cons_of_mem _ ?_));first|done|fail)|exact SY H (by(repeat (first|(with_reducible exact List.mem_cons_self)|refine List.mem_cons_of_mem _ ?_));first|done|fail)):w.heap[b]? = á o:=h
theorem PL{p q:Prop}(H:p)(hx:q){w:ä}{o:Obj}(h:w.heap[b]? = á o:=by first|exact Ext.heap hx (SV H (by(repeat (first|(with_reducible exact List.mem_cons_self)|refine List.mem_cons_of_mem _ ?_));first|done|fail))|exact Ext.heap hx (SY H (by(repeat (first|(with_reducible exact List.mem_cons_self)|refine List.mem_cons_of_mem _ ?_));first|done|fail))):w.heap[b]? = á o:=h
theorem Bx(H:C){w:ä}{o:ą}{v:è}(h:Py P n L w o v:=by
  first
  | (have:=Cd.w q 0 rfl);exact bL rfl
  | (have:=Cd.w q 1 rfl);exact cr rfl
  | (have:=Cd.w q 2 rfl);exact pD rfl
  | (have:=Cd.w q 3 rfl);exact tc rfl rfl
  | (have:=Cd.w q 4 rfl);exact Pw rfl
  | (have:=Cd.w q 5 rfl);exact xM rfl rfl
  | (have:=Cd.w q 6 rfl);exact py_sneq rfl rfl
  | (have:=Cd.w q 7 rfl);exact jr rfl rfl (zk ⟨ω,ω⟩)
  | (have:=Cd.w q 8 rfl);exact sT rfl rfl (zk ⟨ω,ω⟩)
  | (have:=Cd.w q 9 rfl);exact qP rfl rfl (zk ⟨ω,ω⟩)
  | (have:=Cd.w q 10 rfl);exact Od rfl zO
  | (have:=Cd.w q 11 rfl);exact Q1 rfl
  | (have:=Cd.w q 12 rfl);exact Ob rfl zO gY
  | (have:=Cd.w q 14 rfl);exact dJ rfl rfl
  | (have:=Cd.w q 15 rfl);exact fL rfl rfl
  | (have:=Cd.w q 16 rfl);exact cX (pm2 rfl rfl)
  | (have:=Cd.w q 17 rfl);exact ko rfl rfl
  | (have:=Cd.w q 18 rfl);exact BU rfl
  | (have:=Cd.w q 19 rfl);exact mm rfl (LN (Fg H) gY)
  | (have:=Cd.w q 20 rfl);exact mm rfl oy
  | (have:=Cd.w q 21 rfl);exact mm rfl (Fo y8 gY)
  | (have:=Cd.w q 22 rfl);exact mm rfl (Fy y8 gY)
  | (have:=Cd.w q 23 rfl);exact CA rfl y8 gY
  | (have:=Cd.w q 24 rfl);exact mm rfl (Fo oy gY)
  | (have:=Cd.w q 25 rfl);exact mm rfl (Fy oy gY)
  | (have:=Cd.w q 26 rfl);exact Lh rfl oy gY ω
  | (have:=Cd.w q 27 rfl);exact KZ rfl oy ω
  | (have:=Cd.w q 28 rfl);exact CA rfl oy gY
  | (have:=Cd.w q 29 rfl);exact G4 rfl (Fg H) gY
  | (have:=Cd.w q 30 rfl);exact Hd rfl (Fg H) gY):Py P n L w o v:=h
theorem S6(H:C){w:ä}{o:ą}{v:è}(h:Py P n L w o v:=by
  first
  | (have:=Cd.w q 0 rfl);exact bL rfl
  | (have:=Cd.w q 1 rfl);exact cr rfl
  | (have:=Cd.w q 2 rfl);exact pD rfl
  | (have:=Cd.w q 3 rfl);exact tc rfl rfl
  | (have:=Cd.w q 4 rfl);exact Pw rfl
  | (have:=Cd.w q 5 rfl);exact xM rfl rfl
  | (have:=Cd.w q 6 rfl);exact py_sneq rfl rfl
  | (have:=Cd.w q 7 rfl);exact jr rfl rfl (zk ⟨ω,ω⟩)
  | (have:=Cd.w q 8 rfl);exact sT rfl rfl (zk ⟨ω,ω⟩)
  | (have:=Cd.w q 9 rfl);exact qP rfl rfl (zk ⟨ω,ω⟩)
  | (have:=Cd.w q 10 rfl);exact Od rfl zO
  | (have:=Cd.w q 11 rfl);exact Q1 rfl
  | (have:=Cd.w q 12 rfl);exact Ob rfl zO gY
  | (have:=Cd.w q 14 rfl);exact dJ rfl rfl
  | (have:=Cd.w q 15 rfl);exact fL rfl rfl
  | (have:=Cd.w q 16 rfl);exact cX (pm2 rfl rfl)
  | (have:=Cd.w q 17 rfl);exact ko rfl rfl
  | (have:=Cd.w q 18 rfl);exact BU rfl
  | (have:=Cd.w q 19 rfl);exact mm rfl (LN (Fg H) gY)
  | (have:=Cd.w q 20 rfl);exact mm rfl oy
  | (have:=Cd.w q 21 rfl);exact mm rfl (Fo y8 gY)
  | (have:=Cd.w q 22 rfl);exact mm rfl (Fy y8 gY)
  | (have:=Cd.w q 23 rfl);exact CA rfl y8 gY
  | (have:=Cd.w q 24 rfl);exact mm rfl (Fo GD gY)
  | (have:=Cd.w q 25 rfl);exact mm rfl (Fy GD gY)
  | (have:=Cd.w q 26 rfl);exact Lh rfl oy gY (by first|omega|(simp only[bz,aP,bI,bJ,als_Bool_not_eq_true_,Bool.not_eq_false',ab,aa] at hg;omega))
  | (have:=Cd.w q 27 rfl);exact KZ rfl oy (by first|omega|(simp only[bz,aP,bI,bJ,als_Bool_not_eq_true_,Bool.not_eq_false',ab,aa] at hg;omega))
  | (have:=Cd.w q 28 rfl);exact CA rfl GD gY
  | (have:=Cd.w q 29 rfl);exact G4 rfl (Fg H) gY
  | (have:=Cd.w q 30 rfl);exact Hd rfl (Fg H) gY):Py P n L w o v:=h
theorem LS{q1:Prop}(H:C)(hx:q1){w:ä}{o:ą}{v:è}(h:Py P n L w o v:=by
  first
  | (have:=Cd.w q 0 rfl);exact bL rfl
  | (have:=Cd.w q 1 rfl);exact cr rfl
  | (have:=Cd.w q 2 rfl);exact pD rfl
  | (have:=Cd.w q 3 rfl);exact tc rfl rfl
  | (have:=Cd.w q 4 rfl);exact Pw rfl
  | (have:=Cd.w q 5 rfl);exact xM rfl rfl
  | (have:=Cd.w q 6 rfl);exact py_sneq rfl rfl
  | (have:=Cd.w q 7 rfl);exact jr rfl rfl (zk ⟨ω,ω⟩)
  | (have:=Cd.w q 8 rfl);exact sT rfl rfl (zk ⟨ω,ω⟩)
  | (have:=Cd.w q 9 rfl);exact qP rfl rfl (zk ⟨ω,ω⟩)
  | (have:=Cd.w q 10 rfl);exact Od rfl zO
  | (have:=Cd.w q 11 rfl);exact Q1 rfl
  | (have:=Cd.w q 12 rfl);exact Ob rfl zO gY
  | (have:=Cd.w q 14 rfl);exact dJ rfl rfl
  | (have:=Cd.w q 15 rfl);exact fL rfl rfl
  | (have:=Cd.w q 16 rfl);exact cX (pm2 rfl rfl)
  | (have:=Cd.w q 17 rfl);exact ko rfl rfl
  | (have:=Cd.w q 18 rfl);exact BU rfl
  | (have:=Cd.w q 19 rfl);exact mm rfl (LN (PL H hx) gY)
  | (have:=Cd.w q 20 rfl);exact mm rfl (by first|exact Ext.cell hx oy)
  | (have:=Cd.w q 24 rfl);exact mm rfl (Fo GP gY)
  | (have:=Cd.w q 25 rfl);exact mm rfl (Fy GP gY)
  | (have:=Cd.w q 26 rfl);exact Lh rfl oy gY ω
  | (have:=Cd.w q 27 rfl);exact KZ rfl oy ω
  | (have:=Cd.w q 28 rfl);exact CA rfl GP gY
  | (have:=Cd.w q 29 rfl);exact G4 rfl (PL H hx) gY
  | (have:=Cd.w q 30 rfl);exact Hd rfl (PL H hx) gY
  | (have:=Cd.w q 31 rfl);exact mm rfl (LN F5 gY)
  | (have:=Cd.w q 32 rfl);exact G4 rfl F5 gY
  | (have:=Cd.w q 33 rfl);exact Hd rfl F5 gY
  | (have:=Cd.w q 34 rfl);exact mm rfl (Fo (by first|exact Sep.s2Hol H hx 3 rfl rfl rfl rfl rfl|exact Sep.s2Hol H hx 4 rfl rfl rfl rfl rfl|exact Sep.s2Hol H hx 5 rfl rfl rfl rfl rfl|exact Sep.s2Hol H hx 6 rfl rfl rfl rfl rfl|exact Sep.s2Hol H hx 7 rfl rfl rfl rfl rfl|exact Sep.s2Hol H hx 8 rfl rfl rfl rfl rfl|exact Sep.s2Hol H hx 9 rfl rfl rfl rfl rfl|exact Sep.s2Hol H hx 10 rfl rfl rfl rfl rfl|exact Sep.s2Hol H hx 11 rfl rfl rfl rfl rfl|exact Sep.s2Hol H hx 12 rfl rfl rfl rfl rfl|exact Sep.s2Hol H hx 13 rfl rfl rfl rfl rfl) gY)
  | (have:=Cd.w q 35 rfl);exact mm rfl (Fy (by first|exact Sep.s2Hol H hx 3 rfl rfl rfl rfl rfl|exact Sep.s2Hol H hx 4 rfl rfl rfl rfl rfl|exact Sep.s2Hol H hx 5 rfl rfl rfl rfl rfl|exact Sep.s2Hol H hx 6 rfl rfl rfl rfl rfl|exact Sep.s2Hol H hx 7 rfl rfl rfl rfl rfl|exact Sep.s2Hol H hx 8 rfl rfl rfl rfl rfl|exact Sep.s2Hol H hx 9 rfl rfl rfl rfl rfl|exact Sep.s2Hol H hx 10 rfl rfl rfl rfl rfl|exact Sep.s2Hol H hx 11 rfl rfl rfl rfl rfl|exact Sep.s2Hol H hx 12 rfl rfl rfl rfl rfl|exact Sep.s2Hol H hx 13 rfl rfl rfl rfl rfl) gY)):Py P n L w o v:=h
theorem ld{p q r g:Prop}(k:Nat)(H:p)(hg:q)(kk:r)(i:Cd k->p->q->r->g:=by
  intro q H hg kk
  try dsimp only[List.nil_append,List.cons_append,List.set_cons_zero,List.set_cons_succ] at H
  repeat
   (have q1:=Cd.d q rfl
    first
    | (have:=Cd.h q 4 rfl);refine UU hg rfl (S6 H) ?_
    | (have:=Cd.h q 1 rfl);refine Ih rfl (S6 H) ?_
    replace q:=q1)
  exact kk _ _ (by(repeat refine kx rfl ?_);exact k0) rfl Ext.refl):g:=i ⟨⟩ H hg kk
theorem S4{p g:Prop}{k:Nat}(q:Cd k)(H:p)(h:Hid s)(i:Cd k->p->Hid s->g:=by
  intro q H h
  try dsimp only[List.nil_append,List.cons_append,List.set_cons_zero,List.set_cons_succ] at H
  repeat
   (have q1:=Cd.d q rfl
    first
    | (have:=Cd.h q 1 rfl);refine Ih rfl (Bx H) ?_
    | (have:=Cd.h q 2 rfl);refine Te rfl rfl (λzw hx=>LS H hx) ?_
    | (have:=Cd.h q 0 rfl);first
      | (have:=Cd.w q 1 rfl);refine aW ?_
      | (have:=Cd.w q 2 rfl);refine ce ?_
      | (have:=Cd.w q 3 rfl);refine aH ?_
      | (have:=Cd.w q 4 rfl);refine dO ?_
      | (have:=Cd.w q 5 rfl);refine bi ?_
      | (have:=Cd.w q 6 rfl);refine bP ?_
      | (have:=Cd.w q 7 rfl);refine aT ?_
      | (have:=Cd.w q 8 rfl);refine Ih rfl (cr rfl) (aH ?_)
    | (have:=Cd.h q 3 rfl);refine Td rfl rfl (Bx H) ?_
    | (have:=Cd.h q 4 rfl);refine SZ rfl (Bx H) ?_
    | (have:=Cd.h q 5 rfl);refine Tg rfl rfl (λzw hx=>LS H hx) ?_
    | (have:=Cd.h q 6 rfl);refine S9 rfl rfl (Bx H) ?_
    | (have:=Cd.h q 7 rfl);first
      | (have:=Cd.w q 0 rfl);refine S8 rfl rfl ?_
      | (have:=Cd.w q 1 rfl);refine S1 rfl rfl rfl ?_
      | (have:=Cd.w q 2 rfl);refine Tf rfl rfl rfl ?_
    replace q:=q1)
  exact h.o):g:=i q H h
theorem aX{p g:Prop}(k:Nat)(H:p)(h:s)(i:Cd k->p->Hid s->g:=by
  intro q H h
  exact S4 q H h):g:=i ⟨⟩ H ⟨h⟩
theorem aG{g:Prop}(k:Nat)(h:s)(i:Cd k->Hid s->g:=by
  intro q h
  exact S4 q trivial h):g:=i ⟨⟩ ⟨h⟩
theorem Th{p g:Prop}{k:Nat}(q:Cd k)(H:p)(h:Hid s)(h2:Hid y)(i:Cd k->p->Hid s->Hid y->g:=by
  intro q H h h2
  try dsimp only[List.nil_append,List.cons_append,List.set_cons_zero,List.set_cons_succ] at H
  repeat
   (have q1:=Cd.d q rfl
    first
    | (have:=Cd.h q 1 rfl);refine Ih rfl (Bx H) ?_
    | (have:=Cd.h q 2 rfl);refine Te rfl rfl (λzw hx=>LS H hx) ?_
    | (have:=Cd.h q 0 rfl);first
      | (have:=Cd.w q 1 rfl);refine aW ?_
      | (have:=Cd.w q 2 rfl);refine ce ?_
      | (have:=Cd.w q 3 rfl);refine aH ?_
      | (have:=Cd.w q 4 rfl);refine dO ?_
      | (have:=Cd.w q 5 rfl);refine bi ?_
      | (have:=Cd.w q 6 rfl);refine bP ?_
      | (have:=Cd.w q 7 rfl);refine aT ?_
      | (have:=Cd.w q 8 rfl);refine Ih rfl (cr rfl) (aH ?_)
    | (have:=Cd.h q 3 rfl);refine Td rfl rfl (Bx H) ?_
    | (have:=Cd.h q 4 rfl);refine SZ rfl (Bx H) ?_
    | (have:=Cd.h q 5 rfl);refine Tg rfl rfl (λzw hx=>LS H hx) ?_
    | (have:=Cd.h q 6 rfl);refine S9 rfl rfl (Bx H) ?_
    | (have:=Cd.h q 7 rfl);first
      | (have:=Cd.w q 0 rfl);refine S8 rfl rfl ?_
      | (have:=Cd.w q 1 rfl);refine S1 rfl rfl rfl ?_
      | (have:=Cd.w q 2 rfl);refine Tf rfl rfl rfl ?_
    replace q:=q1)
  first
  | (have:=Cd.w q 9 rfl);exact l9 rfl h.o h2.o
  | exact gG rfl h.o h2.o):g:=i q H h h2
theorem ge{p g:Prop}(k:Nat)(H:p)(h:s)(h2:y)(i:Cd k->p->Hid s->Hid y->g:=by
  intro q H h h2
  exact Th q H h h2):g:=i ⟨⟩ H ⟨h⟩ ⟨h2⟩
theorem br{g:Prop}(k:Nat)(h:s)(h2:y)(i:Cd k->Hid s->Hid y->g:=by
  intro q h h2
  exact Th q trivial h h2):g:=i ⟨⟩ ⟨h⟩ ⟨h2⟩
end Go.Wk
namespace Go.Wk
open Go.Proofs
instance:type_of%(Und.mk L?):=⟨L?⟩
instance:type_of%(Und.mk M?):=⟨M?⟩
instance:type_of%(Und.mk N?):=⟨N?⟩
instance:type_of%(Und.mk O?):=⟨O?⟩
instance:type_of%(Und.mk P?):=⟨P?⟩
instance:type_of%(Und.mk Q?):=⟨Q?⟩
instance:type_of%(Und.mk k?):=⟨k?⟩
instance:type_of%(Und.mk l?):=⟨l?⟩
instance:type_of%(Und.mk m?):=⟨m?⟩
instance:type_of%(Und.mk n?):=⟨n?⟩
instance:type_of%(Und.mk o?):=⟨o?⟩
instance:type_of%(Und.mk p?):=⟨p?⟩
instance:type_of%(Und.mk q?):=⟨q?⟩
instance:type_of%(Und.mk Tryz.underlying40):=⟨Tryz.underlying40⟩
instance:type_of%(Und.mk Tryz.underlying44):=⟨Tryz.underlying44⟩
instance:type_of%(Und.mk r?):=⟨r?⟩
instance:type_of%(Und.mk s?):=⟨s?⟩
instance:type_of%(Und.mk t?):=⟨t?⟩
instance:type_of%(Und.mk Tryz.underlying71):=⟨Tryz.underlying71⟩
instance:type_of%(Und.mk u?):=⟨u?⟩
instance:type_of%(Und.mk Tryz.underlying85):=⟨Tryz.underlying85⟩
instance:type_of%(Und.mk v?):=⟨v?⟩
instance:type_of%(Und.mk w?):=⟨w?⟩
instance:type_of%(Und.mk x?):=⟨x?⟩
instance:type_of%(Und.mk y?):=⟨y?⟩
instance:type_of%(Und.mk Ŵ):=⟨Ŵ⟩
instance:type_of%(Und.mk ŵ):=⟨ŵ⟩
instance:type_of%(Und.mk Ŷ):=⟨Ŷ⟩
instance:type_of%(Und.mk Tryz.underlying139):=⟨Tryz.underlying139⟩
instance:type_of%(Und.mk ŷ):=⟨ŷ⟩
instance:type_of%(Und.mk Ÿ):=⟨Ÿ⟩
instance:type_of%(Und.mk Ź):=⟨Ź⟩
instance:type_of%(Und.mk ź):=⟨ź⟩
instance:type_of%(Und.mk Ż):=⟨Ż⟩
instance:type_of%(Und.mk ż):=⟨ż⟩
instance:type_of%(Und.mk Ž):=⟨Ž⟩
instance:type_of%(Und.mk ž):=⟨ž⟩
instance:type_of%(Und.mk ſ):=⟨ſ⟩
instance:type_of%(Und.mk a?):=⟨a?⟩
instance:type_of%(Und.mk b?):=⟨b?⟩
instance:type_of%(Und.mk c?):=⟨c?⟩
instance:type_of%(Szo.mk Tryz.sizeOf0):=⟨Tryz.sizeOf0⟩
instance:type_of%(Szo.mk Tryz.sizeOf2):=⟨Tryz.sizeOf2⟩
instance:type_of%(Szo.mk Tryz.sizeOf3):=⟨Tryz.sizeOf3⟩
instance:type_of%(Szo.mk Tryz.sizeOf4):=⟨Tryz.sizeOf4⟩
instance:type_of%(Szo.mk Tryz.sizeOf5):=⟨Tryz.sizeOf5⟩
instance:type_of%(Szo.mk Tryz.sizeOf9):=⟨Tryz.sizeOf9⟩
instance:type_of%(Szo.mk Tryz.sizeOf22):=⟨Tryz.sizeOf22⟩
instance:type_of%(Szo.mk Tryz.sizeOf25):=⟨Tryz.sizeOf25⟩
instance:type_of%(Szo.mk Tryz.sizeOf27):=⟨Tryz.sizeOf27⟩
instance:type_of%(Szo.mk Tryz.sizeOf28):=⟨Tryz.sizeOf28⟩
instance:type_of%(Szo.mk Tryz.sizeOf29):=⟨Tryz.sizeOf29⟩
instance:type_of%(Szo.mk Tryz.sizeOf31):=⟨Tryz.sizeOf31⟩
instance:type_of%(Szo.mk Tryz.sizeOf33):=⟨Tryz.sizeOf33⟩
instance:type_of%(Szo.mk Tryz.sizeOf40):=⟨Tryz.sizeOf40⟩
instance:type_of%(Szo.mk Tryz.sizeOf44):=⟨Tryz.sizeOf44⟩
instance:type_of%(Szo.mk Tryz.sizeOf53):=⟨Tryz.sizeOf53⟩
instance:type_of%(Szo.mk Tryz.sizeOf54):=⟨Tryz.sizeOf54⟩
instance:type_of%(Szo.mk Tryz.sizeOf57):=⟨Tryz.sizeOf57⟩
instance:type_of%(Szo.mk Tryz.sizeOf76):=⟨Tryz.sizeOf76⟩
instance:type_of%(Szo.mk Tryz.sizeOf87):=⟨Tryz.sizeOf87⟩
instance:type_of%(Szo.mk Tryz.sizeOf90):=⟨Tryz.sizeOf90⟩
instance:type_of%(Szo.mk Tryz.sizeOf92):=⟨Tryz.sizeOf92⟩
instance:type_of%(Szo.mk Tryz.sizeOf111):=⟨Tryz.sizeOf111⟩
instance:type_of%(Szo.mk Tryz.sizeOf136):=⟨Tryz.sizeOf136⟩
instance:type_of%(Szo.mk Tryz.sizeOf139):=⟨Tryz.sizeOf139⟩
instance:type_of%(Szo.mk Tryz.sizeOf182):=⟨Tryz.sizeOf182⟩
instance:type_of%(Szo.mk Tryz.sizeOf207):=⟨Tryz.sizeOf207⟩
instance:type_of%(Szo.mk Tryz.sizeOf208):=⟨Tryz.sizeOf208⟩
instance:type_of%(Szo.mk Tryz.sizeOf212):=⟨Tryz.sizeOf212⟩
instance:type_of%(Szo.mk Tryz.sizeOf215):=⟨Tryz.sizeOf215⟩
instance:type_of%(Szo.mk Tryz.sizeOf217):=⟨Tryz.sizeOf217⟩
instance:type_of%(Szo.mk Tryz.sizeOf227):=⟨Tryz.sizeOf227⟩
instance:type_of%(Szo.mk Tryz.sizeOf231):=⟨Tryz.sizeOf231⟩
instance:type_of%(Szo.mk Tryz.sizeOf237):=⟨Tryz.sizeOf237⟩
instance:type_of%(Szo.mk Tryz.sizeOf238):=⟨Tryz.sizeOf238⟩
end Go.Wk
namespace Go.Wk
open Rp (sz own)
variable {M N:Nat->Prop}{g:Option (Nat × Bool)}{F A:List Rsc}{n i m k j O f_ l C1 d_ e_ i_ C9:Nat}{J w':ä}{af:Array Edge}{P:Æ}{C:Array ą}{ty T e:ì}{fp U X Y j_ f2 f g_ f9 fu gg:List Nat}{ad A1 b_ c_ h_ A9:Option ô}{p:String}{L:Env}{a_:List (Nat × Bool)}{Q:Post}{S:ä->Prop}{I:List View}{o o':Obj}{z V v0:è}{s s0:Bool}{ys ws:List UInt8}{td:TypeDesc}{fs:Array Field}{ck:List è}{l_:Array ì}{E:Array è}{ls:List (List UInt8)}{fn:Func}{R:è->ä->Prop}{k_:Int}{ri rj:Rsc}
theorem bt{p q:Prop}(h:p)(i:p->q:=by
 intro h
 try dsimp only[List.nil_append,List.cons_append,List.set_cons_zero,List.set_cons_succ,FO] at h
 exact h):q:=i h
theorem cx{p q:Prop}(h:p)(i:p->q:=by
 intro h
 try unfold Wld.Ok at h
 try unfold Aw.Ok at h
 try unfold Rec.Ok at h
 try unfold Drive.Ok at h
 try unfold Block.Ok at h
 try unfold Tape.Ok at h
 try unfold A0.Ok at h
 try unfold Ak at h
 try unfold maxLen at h
 exact h):q:=i h
theorem UH{M:Env}(h:M.map (λp=>look L p.1)=M.map (λp=>á p.2)):sub L M:=by
 induction M with
 | nil=>trivial
 | cons p M i=>
  simp only[Ï,List.cons.injEq] at h
  exact⟨h.1,i h.2⟩
theorem bf{p:Prop}(h:p:=by exact UH rfl):p:=h
def Jj {a:Type _}:Nat->List a->List a
 | _,[]=>[]
 | m,x::X=>match m % 2 with
  | 0=>Jj (m / 2) X
  | _=>x::Jj (m / 2) X
theorem zc{a:Type _}:∀(X:List a) (m:Nat),(Jj m X).Sublist X
 | [],_ => .slnil
 | x::X,m=>by
  unfold Jj
  split
  · exact .cons _ (zc X _)
  · exact .cons_cons _ (zc X _)
theorem gP{p:Prop}(h:p:=by(repeat refine kx rfl ?_);exact k0):p:=h
theorem dT{w:ä}{t:Nat}{b sz:Nat}{cs:List è}{fr:Nat × Nat}(hQ:∀L w,fin P fn R .ret L w->Q .ret L w)(hb:w.heap[b]? = á (.cells cs.toArray T fr))(hr:(fn.results,look L t)=(#[.cell t ty],á (.pointer (á ⟨b,0,ç⟩))))(h:R (.agg cs.toArray) w)(hu:P.underlying ty=á td:=by exact Und.h)(hs:∀w,(sizeOf ty).run P w = .ok sz w:=by exact Szo.h)(h1:(single td,cs.length)=(â,sz):=by exact rfl):W P n .ret Q L w:=by
 simp only[ú] at hr h1
 exact dY (hQ _ _ (I6 hr.1 hr.2 (cm hu h1.1 hs h1.2 (At.whole hb)) h))
theorem τ6 {p:Prop}(h:p:=by exact λ_=>Ext.refl.drawn _):p:=h
theorem ep{w:ä}{id:Nat}(H:Sep M J A F w)(l:List (Nat × Bool))(h:∀k,Sep M J A F { w with drawn:=k }->DL P n C Q (Ext No w) l L { w with drawn:=k })(hm:P.follows .mixedOrders=true:=by kernel_rfl)(hc:AA C C.size l (Array.replicate C.size â)=true:=by kernel_rfl)(hs:Region.noSelect C=true:=by kernel_rfl):W P n (.region id C ã) Q L w:=eE l hm hc hs rfl τ6 (λk=>h k (H.drawn k))
theorem Sep.au_pk{w:ä}(h:Sep M J A F w)(m:Nat):Sep M J (Jj m A) F w:=h.sub (zc A m)
def encK (x:List UInt8) (n:Nat) (k:Int):List UInt8:=mixTo (chunks x 4 n) (kY n k 0) 4 (chunks x 4 n).length
def jX (n m:Nat) (x:List UInt8):List (List UInt8):=(õ m).map λk:Nat=>encK x n (k:Int)
def BK (n s:Nat) (x:List UInt8):List (List UInt8):=chunks x 4 n++(õ s).map λj:Nat=>encK x n ((n:Int)+(j:Int))
theorem rZ{x}:(jX n m x).length=m:=by simp[jX]
theorem xW{x}:(BK n m x).length=n+m:=by simp[BK,fJ]
theorem NO{x}:jX n m x++[encK x n m]=jX n (m+1) x:=by simp[jX,č]
theorem Fn{x}:BK n 0 x=chunks x 4 n:=by simp[BK]
theorem MP{x}:BK n j x++[encK x n ((n:Int)+j)]=BK n (j+1) x:=by simp[BK,č]
theorem AU{a:Type}{x:List a}:chunks x m i++[cut x (i*m) (i*m+m)]=chunks x m (i+1):=by simp[chunks,č]
theorem lG{a:Type}{x:List a}(h:x.length=n*m):∀i,i<(chunks x m n).length->((chunks x m n).getD i []).length=m:=λi H=>by
  rw[fJ] at H
  rw[m8 H,fb (by have:=uI h H;omega)]
  omega
theorem te(x:List UInt8):cK x 1=x:=by simp[cK,AD]
theorem Bw(x:List UInt8):cK x 0=å x.length 0:=by
  refine Ü (by simp[cK]) λi h H=>?_
  simp[cK,kf]
theorem Ip{x:List UInt8}(h:i<x.length)(H:i<ys.length):(eH x ys).getD i 0=x.getD i 0 ^^^ ys.getD i 0:=by
  simp[eH,List.getElem?_zipWith,h,H]
theorem uv{x:List UInt8}(h:x.length=m):eH x (å m 0)=x:=by
  refine js (d:=0) (by rw[ip gX]) λk H=>?_
  rw[ip gX] at H
  rw[Ip H xw]
  have:k<m:=by omega
  simp[ū,this]
theorem um{x:List UInt8}(h:x.length=m):eH (å m 0) x=x:=by
  refine js (d:=0) (by rw[ip gX];simp[h]) λk hk=>?_
  rw[ip gX] at hk
  simp at hk
  rw[Ip oi ω]
  simp[ū,hk]
theorem Iv{c:List UInt8}(h:∀i,i<ls.length->(ls.getD i []).length=n)(a:∀i,i<ls.length->c.getD i 0=if i=j then 1 else 0)(H:j<ls.length):
    ∀k,k<=ls.length->mixTo ls c n k=if j<k then ls.getD j [] else å n 0
  | 0,_=>by simp[mixTo]
  | k+1,b=>by
    have I:=Iv h a H k ω
    rw[mixTo,I,a k ω]
    by_cases e:k=j
    · subst e
      rw[ac ω,ae rfl,ae ω,te,um (h k H)]
    · rw[ac e,Bw,h k ω]
      by_cases E:j<k
      · rw[ae E,ae ω,uv (h j H)]
      · rw[ac E,ac ω,uv σ]
theorem Qo{p b:Int}(h:i<n):(kY n p b).getD i 0=genAt n p b i:=by
  simp[kY,h]
theorem H8{x:List UInt8}(h:x.length=n*4)(a:j<n):encK x n j=(chunks x 4 n).getD j []:=by
  have l:(chunks x 4 n).length=n:=fJ
  rw[encK,Iv (j:=j) (lG h) (λi H=>?_) ω _ (aN _),ae ω]
  rw[Qo ω,genAt,ac ω]
  by_cases e:i=j
  · subst e;rw[ae rfl,ae rfl]
  · rw[ac ω,ac e]
theorem Lm{s:Nat}{x:List UInt8}(h:x.length=n*4):BK n s x=jX n (n+s) x:=by
  refine Ü (by rw[xW,rZ]) λk a b=>?_
  simp only[jX,ħ,Ĝ]
  by_cases H:k<n
  · rw[H8 h H]
    simp only[BK]
    simp[fJ,H]
  · simp only[BK]
    rw[List.getElem_append_right (by rw[fJ];omega)]
    simp only[ħ,Ĝ,fJ]
    congr 1
    omega
theorem oX{x:List UInt8}(h:x.length=n*4)(k:Nat)(H:k<m):((jX n m x).getD k []).length=4:=by
  have:(jX n m x).getD k []=encK x n k:=by simp[jX,H]
  rw[this,encK,lS (lG h) (aN _)]
theorem Sep.part{M W f F}{w:ä}(h:Sep M W f F w)(i:Nat){r:Rsc}(d:f[i]? = á r)(R:List Rsc)(s:∀q∈R,q.φ w)(c:blocks R=r.fp):Sep M W (f.set i gone++R) F w:=by
  have k:=kr d h.nd
  have j:∀b,b∈blocks (f.set i gone)->b∈blocks f:=λb c=>by
    rcases fR d b c with h|h
    · simp[gone] at h
    · exact h
  have m:∀b∈r.fp,b∈blocks f:=λb c=>cG.2 ⟨r,æ d,c⟩
  refine⟨h.ext,λq a=>?_,?_,λb H=>?_,h.fs,λq a b g H=>?_⟩
  · rcases aI.1 a with a|a
    · rcases kN d h.nd q a with rfl|⟨a,_⟩
      · trivial
      · exact h.rs q a
    · exact s q a
  · rw[eu,c]
    refine ë.2 ⟨nc d h.nd df df,h.Aj d,λx l y n e=>?_⟩
    subst e
    exact k x n l
  · rw[eu,c] at H
    rcases aI.1 H with H | H
    · exact h.new b (j b H)
    · exact h.new b (m b H)
  · rw[eu,c] at H
    rcases aI.1 H with H | H
    · exact h.ap q a b g (j b H)
    · exact h.ap q a b g (m b H)
section
variable {w:ä}{d:Option Tmp}
theorem ke{f:Ŕ}{x:Â}{X:Array Â}{V c:List è}(q:evL L x=á (.func (.func f) #[] c.toArray))(j:P.funcs[f]? = á fn)(b:fn.body.isNone=â)(m:(fn.name == "runtime.NumGoroutine")=â)
    (hv:kX L X.toList=á V):Pc P n L w ⟨d,.call ⟨.value x,X,l_⟩,ty,p,af,g⟩ f (V++c).toArray:=λa H=>by
  have k:X.map a.eval=V.toArray:=by
    have K:∀(l:List Â) (V:List è),kX L l=á V->l.map a.eval=V:=by
      intro l
      induction l with
      | nil=>intro V h;simp[kX] at h;simp[h]
      | cons x l I=>
        intro V h
        unfold kX at h
        split at h
        · rename_i v u hv s
          cases h
          simp[H.eval hv,I u s]
        · cases h
    have:=K _ _ hv
    apply Array.toList_inj.1
    simpa using this
  have i:¬ fn.body=none:=λe=>by rw[e] at b;simp at b
  have o:¬ fn.name = "runtime.NumGoroutine" := λe=>by rw[e] at m;simp at m
  simp[À,ũ,Deferred.ofValue,X_,callFunc,j,i,o,k,H.eval q]
def strB (x:List UInt8):ByteArray:=⟨x.toArray⟩
theorem OF{x:List UInt8}:strB x=strB ys↔x=ys:=by
  constructor
  · intro h
    have:(strB x).data.toList=(strB ys).data.toList:=by rw[h]
    simpa[strB] using this
  · rintro rfl;rfl
theorem UQ(X:List UInt8):strOfNums (X.map λx=>(x.toNat:Int))=strB X:=by
  simp only[strOfNums,List.map_map]
  congr 2
  refine(List.map_congr_left λa _=>?_).trans (List.map_id X)
  simp
theorem RQ{S d:ì}(k:P.underlying S=á (.slice e))(j:P.underlying e=á (.int .u8))(g:P.underlying d=á .string){s A n c}{X:List UInt8}{f}(h:own s w [.slice A n c] X f):
    (convert S d (.slice A n c)).run P w = .ok (.string (strB X)) w:=by
  obtain rfl:=gA h
  cases A with
  | none=>
    have:X=[]:=by
      by_cases H:0<X.length
      · obtain⟨_,_,_,_,e,_⟩:=Cn h H;cases e
      · exact í ω
    subst this
    rw[run_convert_bytes_nil w S e k j _ _ d g]
    rfl
  | some a=>
    by_cases H:0<X.length
    · obtain⟨b,o,_,_,E,_⟩:=Cn h H
      cases E
      rw[run_convert_bytes_arg w S e k j b o X.length c (X.map λx=>_) σ (λi m=>?_) d g,UQ]
      obtain⟨B,O,p,l⟩:=dN h i m
      cases p
      rw[ā] at l
      rw[l]
      simp[m]
    · have:X=[]:=í ω
      subst this
      rw[run_convert_bytes_string w S d e _ _ c k j g]
      rfl
theorem OB{S D:ì}{x:Â}{s A m c}{X:List UInt8}{f}(j:P.underlying S=á (.slice e))(i:P.underlying e=á (.int .u8))(b:P.underlying D=á .string)(k:evL L x=á (.slice A m c))
    (h:own s w [.slice A m c] X f):Py P n L w ⟨d,.convert S D x,ty,p,af,g⟩ (.string (strB X)):=λa H=>by
  simp[À,H.eval k,RQ j i b h]
theorem OD{b o s:Nat}:slA (á ⟨b,o,ç⟩) 0 m s=á ⟨b,o,ç⟩:=by
  unfold slA;split
  · rfl
  · simp[lu]
theorem Lg{t:ì}{x i:Â}{b o l s:Nat}{k:IntKind}{h:Int}(u:P.underlying t=á (.slice e))(f:∀w,(sizeOf e).run P w = .ok s w)
    (j:evL L x=á (.slice (á ⟨b,o,ç⟩) l O)) (c:evL L i=á (.int k h)) (H:Nat) (E:h=H) (a:H<=O) :
    Py P n L w ⟨d,.slice t x ç (á i) ç,ty,p,af,g⟩ (.slice (á ⟨b,o,ç⟩) H O):=by
  have:=L8 (n:=n) (w:=w) (d:=d) (E:=ty) (p:=p) (I:=af) (g:=g) u f j c H E a
  rwa[OD] at this
theorem IP{t u:ì}{s:Nat}(o:P.underlying t=á (.slice e))(p:P.underlying u=á (.int .i64))(T:Ty P e z s f_)(y:z.cells.size=s)(h:0<m*s)(v:m<=4611686018427387904)(r:m*f_<=140737488355328):
    (Ô #[t,u] ty #[.slice ç 0 0,.int .i64 m]).run P w =
      .ok (.slice (á ⟨w.heap.size,0,ç⟩) m (grownCap w m 0 e)) (w.drew.alloc (.cells (Ø z.cells m++Ø z.cells (grownCap w m 0 e-m)) e)):=by
  obtain⟨i,c,d,f,g⟩:=T.parts
  have j:0<m:=by
    cases m with
    | zero=>simp at h
    | succ k=>omega
  have n:m≠0:=by omega
  have b:¬ (9223372036854775807<(m:Int)):=by omega
  have q:=zk (x:=(m:Int)) ⟨ω,ω⟩
  have l:¬ ((m:Int)<0):=by omega
  have H:¬ (281474976710656<Builtin.nextslicecap m 0*f_):=by rw[nextslicecap_zero j];omega
  have a:¬ (281474976710656<(m:Int)*(f_:Int)):=by
    omega
  simp[Ô,þ o,þ p,sizeOf,Y?,zeroValue,c,d,f,g,n,q,l,b,H,a,Question.forced,run_firstCells_none,newRow,grownCap,asInt,asIntOf]
  omega
end
theorem Py.to{w:ä}{o:ą}{v v':è}(h:Py P n L w o v)(e:v=v'):Py P n L w o v':=e ▸ h
def fO {a:Type}(p:a->Bool) (x:List a):Int:=match x.findIdx? p with
  | some k=>k
  | none => -1
theorem tB{a:Type}{p:a->Bool}{x:List a}{d:a}(H:k<x.length)(h:p (x.getD k d)=ã)(n:∀i,i<k->p (x.getD i d)=â):fO p x=k:=by
  have:x.findIdx? p=á k:=by
    rw[Ĭ]
    refine⟨H,?_,λj b=>?_⟩
    · simpa[H] using h
    · have:=n j b
      have c:j<x.length:=by omega
      simpa[c] using this
  simp[fO,this]
theorem sW{a:Type}{p:a->Bool}{X:List a}{d:a}(H:∀i,i<X.length->p (X.getD i d)=â):fO p X = -1:=by
  have:X.findIdx? p=none:=by
    rw[List.findIdx?_eq_none_iff]
    intro x b
    obtain⟨i,h,rfl⟩:=ð b
    have:=H i h
    simpa[h] using this
  simp[fO,this]
theorem nX{a:Type}{p:a->Bool}{x:List a}:decide (0<=fO p x)=x.any p:=by
  unfold fO
  cases h:x.findIdx? p with
  | none=>
    have:x.any p=false:=by simpa using h
    simp[this]
  | some k=>
    rw[Ĭ] at h
    obtain⟨H,b,_⟩:=h
    have:=ī.2 ⟨_,bx H,b⟩
    simp[this]
theorem Mx(a b:UInt8):a ^^^ b=b ^^^ a:=UInt8.xor_comm a b
theorem MV{x:List UInt8}:eH x ys=eH ys x:=by
  unfold eH
  rw[List.zipWith_comm]
  congr 1
  funext a b
  exact Mx _ _
section
variable {w:ä}{d:Tmp}
theorem dm{t:ì}{x y:Â}{b o:Nat}{c:List è}{T v}(r:C.toList[i]? = á ⟨ç,.store t x y,ty,p,af,g⟩)(z:Wn C n L ⟨ç,.store t x y,ty,p,af,g⟩)(u:∀w,(sizeOf t).run P w = .ok 1 w)(e:(evL L x,evL L y,v.oneCell')=(á (.pointer (á ⟨b,o,ç⟩)),á v,ã))
    (H:Sep M J A F w) (j:Nat) (f:(A[j]?,ò o c.length)=(á (box b (.cells c.toArray T)),ã)) (l:∀w',S w->Ext (· = b) w w'->a_≠[]->S w')
    (k:∀w',Ext (· = b) w w'->Sep M J (A.set j (box b (.cells (c.set o v).toArray T))) F w'->DL P n C Q S a_ L w') :
    DL P n C Q S ((i,â)::a_) L w:=by
  have⟨B,D,d⟩:=pj3 e;have⟨a,q⟩:=pj2 f;have h:=k _ (Ext.refl.put (.inl rfl)) (H.put j _ a)
  rw[<- List.setIfInBounds_toArray] at h
  exact G5 r z rfl (jM u B D d (H.box j a) (by rw[List.size_toArray];exact ü q)) (λm s=>l _ m (Ext.refl.put (.inl rfl)) s) h
end
theorem sH{a b c:List UInt8}:eH (eH a b) c=eH a (eH b c):=by
  unfold eH
  induction a generalizing b c with
  | nil=>simp
  | cons x a i=>cases b<;>cases c<;>simp[i,UInt8.xor_assoc]
theorem NP{a b c d:List UInt8}:eH (eH a b) (eH c d)=eH (eH a c) (eH b d):=by
  rw[sH,sH,<- sH (a:=b),<- sH (a:=c),MV (ys:=c)]
theorem KN{a b:List UInt8}{c:UInt8}:cK (eH a b) c=eH (cK a c) (cK b c):=by
  unfold cK eH
  induction a generalizing b with
  | nil=>simp
  | cons x a i=>cases b<;>simp[jS]
theorem RS{x:List UInt8}{h:Nat}:cut (eH x ys) l h=eH (cut x l h) (cut ys l h):=by
  unfold cut eH;rw[List.drop_zipWith,List.take_zipWith]
theorem Ep:eH (å n 0) (å n 0)=å n 0:=um σ
theorem EW{m N:List (List UInt8)}{c:List UInt8}(h:∀i,N.getD i []=eH (ls.getD i []) (m.getD i [])):∀ {k:Nat},mixTo N c n k=eH (mixTo ls c n k) (mixTo m c n k)
  | 0=>Ep.symm
  | k+1=>by
    rw[mixTo,mixTo,mixTo,EW h,h k,KN,NP]
theorem PT:eH [] []=[]:=rfl
theorem JL{x:List UInt8}{q:Nat}(i:Nat):(chunks (eH x ys) m q).getD i []=eH ((chunks x m q).getD i []) ((chunks ys m q).getD i []):=by
  by_cases h:i<q
  · rw[m8 h,m8 h,m8 h,RS]
  · simp[chunks,h,PT]
theorem P3{x:List UInt8}{k:Int}:encK (eH x ys) n k=eH (encK x n k) (encK ys n k):=by
  unfold encK
  rw[fJ,fJ,fJ]
  exact EW JL
theorem Ho{x:List UInt8}(h:i<m):(jX n m x).getD i []=encK x n i:=by simp[jX,h]
def BoxTo (w W:ä) (b:Nat) (o:Obj):Prop:=Ext (· = b) w W/\W.heap[b]? = á o
section
variable {w:ä}
theorem Sep.Ay(h:Sep M J A F w)(i:Nat){b:Nat}(c:A[i]? = á (Wk.box b o))(e:Ext (· = b) w w')(a:w'.heap[b]? = á o'):Sep M J (A.set i (Wk.box b o')) F w':=
  h.set c (e.mono λx _ H=>by simp[Wk.box,H]) a iQ λx H => .inl H
theorem Sep.beginBox{b:Nat}(H:w.heap[b]? = á o):Sep (· = b) w [Wk.box b o] [] w:=
  ⟨Ext.refl,by intro r h;simp at h;subst h;exact H,by simp[blocks,Wk.box],λx a => .inl (by simpa[blocks,Wk.box] using a),σ,σ⟩
theorem Sep.newBox(h:Sep M J A F w)(e:Ext No w w'){b:Nat}(H:w'.heap[b]? = á o)(f:w.heap.size<=b):Sep M J (A++[Wk.box b o]) F w':=
  h.add e H iQ (by simpa[Wk.box] using f)
theorem Sep.B5(h:Sep M J A F w)(j:Nat){r:Rsc}(a:F[j]? = á r)(i:Nat){b:Nat}(H:A[i]? = á (Wk.box b o)):∀x∈r.fp,x≠b:=λx c e=>by
  subst e
  exact h.ap r (æ a) x c (cG.2 ⟨_,æ H,iQ⟩)
theorem Sep.outB{d:Type}[Rp d]{b:Nat}(h:Sep (· = b) J A F w)(j:Nat)(g:A[j]? = á (Wk.box b o))(i:Nat){c:List è}{x:d}(H:A[i]? = á (Wk.A4 c x fp))(f:î j i=â):Res J w c x:=by
  refine⟨fp,h.A4 i H,h.Aj H,λy a=>?_⟩
  rcases h.new y (cG.2 ⟨_,æ H,a⟩) with e|e
  · subst e
    exact absurd a (h.apart H g f y iQ)
  · exact e
end
theorem Sep.resBox{g:Type}[Rp g]{w:ä}(h:Sep M J A F w)(i:Nat){b:Nat}(f:A[i]? = á (Wk.box b o))(e:Ext (· = b) w w')(l:w'.heap[b]? = á o'){C:List è}{x:g}(a:Res w w' C x):
    ∃fp,Sep M J (A.set i (Wk.box b o')++[Wk.A4 C x fp]) F w':=by
  obtain⟨fp,j,k,d⟩:=a
  have p:=h.Ay i f e l
  have t:∀x∈blocks (A.set i (Wk.box b o')),x<w.heap.size:=λx H=>by
    rcases fR f x H with H|H
    · simp only[Wk.box,aD] at H
      subst H
      exact h.lt _ (cG.2 ⟨_,æ f,iQ⟩)
    · exact h.lt x H
  refine⟨fp,p.ext,λr a=>?_,?_,λx H=>?_,p.fs,λr a x H c=>?_⟩
  · rcases aI.1 a with a|a
    · exact p.rs r a
    · simp at a;subst a;exact j
  · rw[eu]
    refine ë.2 ⟨p.nd,by simpa[blocks,Wk.A4] using k,λx H y m e=>?_⟩
    subst e
    have:=t x H
    have:=d x (by simpa[blocks,Wk.A4] using m)
    omega
  · rw[eu] at H
    rcases aI.1 H with H|H
    · exact p.new x H
    · have:=d x (by simpa[blocks,Wk.A4] using H)
      have:=h.ext.size
      exact .inr ω
  · rw[eu] at c
    rcases aI.1 c with c|c
    · exact p.ap r a x H c
    · have n:=d x (by simpa[blocks,Wk.A4] using c)
      have:=r.lt (h.fs r a) x H
      omega
section
variable {w:ä}{d:Option Tmp}
theorem T8{s:ì}{x:Â}{f:Field}{c:Array è}{v:è}(u:P.underlying s=á (.struct fs))(b:fs[i]? = á f)(t:P.underlying f.type=á td)(h:single td=ã)
    (e:evL L x=á (.agg c)) (hv:c[f.offset]? = á v):Py P n L w ⟨d,.field s x i,ty,p,af,g⟩ v:=λa H=>by
  simp[À,H.eval e,Instr.field,þ u,b,part,asAgg,u9 t,h,hv]
theorem Gv{s:ì}{x:Â}{S:Nat}{f:Field}{c:Array è}(u:P.underlying s=á (.struct fs))(b:fs[i]? = á f)(t:P.underlying f.type=á td)(e:∀w,(sizeOf f.type).run P w = .ok S w)(h:single td=â)
    (j:evL L x=á (.agg c)):Py P n L w ⟨d,.field s x i,ty,p,af,g⟩ (.agg (c.extract f.offset (f.offset+S))):=λa H=>by
  simp[À,H.eval j,Instr.field,þ u,b,part,asAgg,u9 t,h,e]
theorem Eo{t:ì}{a:Option ô}{c:Nat}(u:P.underlying t=á (.slice e)):(binOp .eql t (.slice a m c) (.slice ç 0 0)).run P w = .ok (.bool a.isNone) w:=by
  have h:∀d,(Op.equalIn (d+1) t (.slice a m c) (.slice ç 0 0)).run P w = .ok a.isNone w:=by
    cases a<;>simp[Op.equalIn,þ u]
  have H:(Op.equal t _ _).run P w = .ok a.isNone w:=h 9999
  simp only[binOp]
  simp[H]
theorem Cv{t:ì}{x y:Â}{Y:ì}{a:Option ô}{c:Nat}(H:P.underlying t=á (.slice e))(b:evL L x=á (.slice a m c))(f:evL L y=á (.slice ç 0 0)):
    Py P n L w ⟨d,.binOp .eql t x y Y,ty,p,af,g⟩ (.bool a.isNone):=λa h=>by
  simp[À,h.eval b,h.eval f,eqGuard,Eo H]
end
theorem Cu{d:Type}[Rp d]{s w a m c}{x:List d}{f}(h:own s w [.slice a m c] x f)(g:a.isNone=ã):x=[]:=by
  by_cases H:0<x.length
  · obtain⟨b,o,_,_,e,_⟩:=Cn h H
    subst e;simp at g
  · exact í ω
theorem RA{a b:Int}(h:0<=a)(H:0<b):0<=a.tdiv b/\a.tdiv b<=a:=by
  rw[Ċ h]
  exact⟨Int.ediv_nonneg h ω,Int.ediv_le_self _ h⟩
theorem xL{a b:Int}(h:0<=a)(H:0<b):0<=a.tmod b/\a.tmod b<b:=⟨Int.tmod_nonneg _ h,Int.tmod_lt_of_pos _ H⟩
theorem C4{w:ä}:∀ {X:List Int},(∀x∈X,Ak x)->dg ã w (X.map (é .i64)) X []
  | [],_=>rfl
  | x::X,h=>⟨[],[],rfl,⟨by simp[sz],rfl,h x σ⟩,by simpa[sz] using C4 λy H=>h y (by simp[H])⟩
section
variable {w:ä}{c:List ą}{d:Nat}
theorem eY{t:ì}{s:Array (Nat × Â)}(X:List Int)(K:Wn C n L ⟨á d,.buildSlice t X.length s,ty,p,af,g⟩)(y:ò d n=ã)(E:P.underlying t=á (.slice e))(T:Ty P e z 1 f_)
    (o:(s.toList.map (·.1),kX L (s.toList.map (·.2)))=(õ X.length,á (X.map (é .i64)))) (u:∀x∈X,Ak x) (m:0<X.length) (O:X.length<=1000) (H:Sep M J A F w)
    (k:∀b w',Ext No w w'->w.heap.size<=b->Sep M J (A++[A4 [.slice (á ⟨b,0,ç⟩) X.length X.length] X [b]]) F w'->RL P n C Q c ((d,.slice (á ⟨b,0,ç⟩) X.length X.length)::L) w') :
    RL P n C Q (⟨á d,.buildSlice t X.length s,ty,p,af,g⟩::c) L w:=by
  have⟨r,hv⟩:=pj2 o;have D:∀a,Good n a L->(s.map λ(i,x)=>(i,a.eval x)).toList=((X.map _).zipIdx 0).map λx=>_:=λa q=>by
    have N:∀(l:List (Nat × Â)) (I:List è) (k:Nat),l.map (·.1)=List.range' k I.length->kX L (l.map (·.2))=á I->l.map (λx=>(x.1,a.eval x.2))=(I.zipIdx k).map λx=>(x.2,x.1):=by
      intro l
      induction l with
      | nil=>intro I k f h;simp[kX] at h;subst h;rfl
      | cons x l j=>
        intro I k f h
        simp at f h ⊢
        unfold kX at h
        split at h
        · rename_i v U hv G
          cases h
          rw[aR,List.range'_succ] at f
          simp at f
          rw[List.zipIdx_cons,Ï,<- j U (k+1) f.2 G,q.eval hv,f.1]
        · cases h
    rw[Array.toList_map]
    refine N s.toList _ 0 ?_ hv
    rw[r,aS,List.range_eq_range']
  have B:=zr (w:=w) (C:=ty) (p:=p) (D:=af) (g:=g) (d:=á d) E T ω σ D Hl m ω
  refine ue K rfl y B (k _ _ (Ext.refl.alloc _) (aN _) ?_)
  refine H.add (Ext.refl.alloc _) (.inr (.inr ⟨w.heap.size,0,_,_,e,(0,0),[],rfl,rfl,heap_alloc_new w _,λ_=>rfl,aN _,db,?_,?_⟩)) q8 q8
  · have:∀l:List Int,(l.map (é .i64)).flatMap (λv=>v.cells.toList)=l.map (é .i64):=by
      intro l;induction l with
      | nil=>rfl
      | cons x l j=>simp only[Ï,Œ,j];rfl
    simp[this,sz]
  · have:∀l:List Int,(l.map (é .i64)).flatMap (λv=>v.cells.toList)=l.map (é .i64):=by
      intro l;induction l with
      | nil=>rfl
      | cons x l j=>simp only[Ï,Œ,j];rfl
    simp only[this]
    exact C4 u
end
section
variable {w:ä}{D:Option Tmp}{v:è}
theorem Ob{s:ì}{x:Â}{f:Field}{c:Array è}[u:Und P s (.struct fs)](h:(fs[i]?,evL L x)=(á f,á (.agg c)))(t:Und P f.type td)(H:(single td,c[f.offset]?)=(ã,á v)):Py P n L w ⟨D,.field s x i,ty,p,af,g⟩ v:=by
 simp only[ú] at h H
 exact T8 u.h h.1 t.h H.1 h.2 H.2
end
section
variable {w wE wE0:ä}{M2:Nat->Prop}{Δ2 F2:List Rsc}{d:Nat}{f:Ŕ}{a:List ą}{rest2:List (Nat × Bool)}{i2 j2:Nat}{u:Array Â}{t:List è}{α β:Type}[Rp α] {B:Bool}{c:List è}{x:α}{b:Nat}{o2:Obj}{g:β->è}{q:β->Prop}
theorem cY(H:Sep M J A F w)(hi:(A[0]?,F[0]?)=(á (box b o),á (Ab B c x fp)))(hf:P.funcs[f]? = á fn)(hb:(ò d n,fn.body.isNone,kX L u.toList)=(ã,â,á t))
  (hc:w.heap[b]? = á o->Rp.own â w c x fp->(∀y∈fp,y≠b)->Ret P f t.toArray w λv w'=>BoxTo w w' b o'/\∃y,v=g y/\q y)
  (k:∀y w',Ext (· = b) w w'->Sep M J (A.set 0 (box b o')) F w'->q y->RL P n C Q a ((d,g y)::L) w') (hm:(fn.name == "runtime.NumGoroutine")=false:=by decide):RL P n C Q (⟨á d,.call ⟨.value (.func f),u,l_⟩,ty,p,af,ç⟩::a) L w:=by
 simp only[ú] at hi
 refine sC hf hb (hm:=hm) (hc (H.box 0 hi.1) (aJ (H.Ab 0 hi.2)) (H.B5 0 hi.2 0 hi.1)) λv w' r=>?_
 obtain⟨⟨e,h⟩,y,rfl,hy⟩:=r
 exact k y w' e (H.Ay 0 hi.1 e h) hy
end
abbrev Mat:=List (List UInt8)
def entry (m:Mat) (i c:Nat):UInt8:=(m.getD i []).getD c 0
def rr (m:Mat) (c r:Nat):Nat:=r+(m.drop r).findIdx (λk_=>k_.getD c 0 != 0)
theorem oZ{a:Type}{x:List a}{r:Nat}{d:a}:(x.drop r).getD j d=x.getD (r+j) d:=by
  simp[ū]
theorem yE{m:Mat}{c r:Nat}(g:r<=k)(i:k<=m.length)(a:∀j,r<=j->j<k->entry m j c=0)(H:k=m.length\/entry m k c≠0):rr m c r=k:=by
  have l:(m.drop r).length=m.length-r:=bZ
  have e:(m.drop r).findIdx (λk_=>k_.getD c 0 != 0)=k-r:=by
    rcases H with rfl|H
    · rw[<- l,List.findIdx_eq_length]
      intro x f
      obtain⟨j,b,rfl⟩:=ð f
      have:=a (r+j) ω ω
      rw[entry,<- oZ] at this
      have e:m.getD (r+j) []=m[r+j]'(by omega):=by simp[show r+j<m.length by omega]
      rw[oZ,e] at this
      simpa using this
    · have t:k<m.length:=Decidable.byContradiction λh=>H (by
        have:m.getD k []=[]:=by simp[Í (Nat.le_of_not_lt h)]
        rw[entry,this];rfl)
      have d:k-r<(m.drop r).length:=by omega
      rw[List.findIdx_eq d]
      refine⟨?_,λj b=>?_⟩
      · rw[entry,show k=r+(k-r) by omega,<- oZ] at H
        have e:m.getD (r+(k-r)) []=m[r+(k-r)]'(by omega):=by simp[show r+(k-r)<m.length by omega]
        rw[oZ,e] at H
        simpa using H
      · have:=a (r+j) ω ω
        rw[entry,<- oZ] at this
        have e:m.getD (r+j) []=m[r+j]'(by omega):=by simp[show r+j<m.length by omega]
        rw[oZ,e] at this
        simpa using this
  rw[rr];omega
def EI (m:Mat) (r a:Nat):Mat:=(m.set r (m.getD a [])).set a (m.getD r [])
def r3 (m:Mat) (c r a:Nat):Mat:=(m.set a (m.getD r [])).set r (cK (m.getD a []) (pm (entry m a c)))
def eX (m:Mat) (c r k:Nat):Mat:=(õ m.length).map λi=>if i<k/\i≠r then eH (m.getD i []) (cK (m.getD r []) (entry m i c)) else m.getD i []
def stepM (m:Mat) (c r:Nat):Mat × Nat:=if m.length<=rr m c r then(m,r) else(eX (r3 m c r (rr m c r)) c r m.length,r+1)
def jW (m:Mat):Nat->Mat × Nat
  | 0=>(m,0)
  | c+1=>stepM (jW m c).1 c (jW m c).2
theorem zp{a:Type}{X:List a}{x d:a}:(X.set i x).getD j d=if j=i/\i<X.length then x else X.getD j d:=by
  simp only[ï,ų]
  by_cases h:i=j
  · subst h
    by_cases H:i<X.length
    · simp[H]
    · simp[H]
  · rw[ac h,ac (λe=>h e.1.symm)]
theorem K0{m:Mat}{c r:Nat}:(eX m c r k).length=m.length:=by simp[eX]
theorem Sa{m:Mat}{r a:Nat}(H:r<m.length)(b:a<m.length):(EI m r a).getD r []=m.getD a []:=by
  rw[EI,zp,zp]
  by_cases h:r=a
  · subst h;simp
  · simp[h,H]
theorem M4{m:Mat}{c r a:Nat}:(EI m r a).set r (cK (m.getD a []) (pm (entry m a c)))=r3 m c r a:=by
  rw[EI,r3]
  by_cases h:r=a
  · subst h;simp
  · rw[List.set_comm _ _ h,Ò]
theorem AY{m:Mat}{c r:Nat}:eX m c r 0=m:=by
  refine Ü (by simp[eX]) λi H h=>?_
  simp[eX,h]
theorem xf{m:Mat}{c r:Nat}(h:i<m.length):(eX m c r k).getD i []=if i<k/\i≠r then eH (m.getD i []) (cK (m.getD r []) (entry m i c)) else m.getD i []:=by
  simp[eX,h]
theorem zz{m:Mat}{c r:Nat}(h:k<m.length):(eX m c r k).getD k []=m.getD k []:=by rw[xf h,ac ω]
theorem JG{m:Mat}{c r:Nat}(h:r<m.length):(eX m c r k).getD r []=m.getD r []:=by rw[xf h,ac ω]
theorem Db{m:Mat}{c r:Nat}(f:k<m.length)(H:k≠r){z:List UInt8}(a:z=eH (m.getD k []) (cK (m.getD r []) (entry m k c))):(eX m c r k).set k z=eX m c r (k+1):=by
  refine Ü (by simp[eX]) λi b d=>?_
  rw[z?]
  simp only[eX,ħ,Ĝ]
  by_cases e:k=i
  · subst e
    rw[ae rfl,ae ⟨ω,H⟩,a]
  · rw[ac e]
    by_cases h:i<k/\i≠r
    · rw[ae h,ae ⟨ω,h.2⟩]
    · rw[ac h,ac ω]
theorem Bv{m:Mat}{c r:Nat}(n:k=r\/eX m c r (k+1)=eX m c r k):eX m c r k=eX m c r (k+1):=by
  rcases n with rfl|h
  · refine Ü (by simp[eX]) λi a b=>?_
    simp only[eX,ħ,Ĝ]
    by_cases H:i<k/\i≠k
    · rw[ae H,ae ω]
    · rw[ac H,ac ω]
  · exact h.symm
def Rect (m:Mat) (k l:Nat):Prop:=m.length=k/\∀i,i<k->(m.getD i []).length=l
theorem Gu{m:Mat}{c r K:Nat}(R:Rect m K l)(d:k<K)(e:r<K)(h:entry m k c=0):eX m c r k=eX m c r (k+1):=by
  obtain⟨f,a⟩:=R
  refine Ü (by simp[eX]) λi g j=>?_
  simp only[eX,ħ,Ĝ]
  by_cases H:i<k/\i≠r
  · rw[ae H,ae ⟨ω,H.2⟩]
  · rw[ac H]
    by_cases b:i<k+1/\i≠r
    · obtain rfl:i=k:=by omega
      rw[ae b,h,Bw,uv]
      rw[a _ d,a _ e]
    · rw[ac b]
theorem Rect.set{m:Mat}{K:Nat}{x:List UInt8}(h:Rect m K l)(a:x.length=l):Rect (m.set i x) K l:=by
  refine⟨by simpa using h.1,λj H=>?_⟩
  rw[zp]
  split
  · exact a
  · exact h.2 j H
theorem Rect.swap{m:Mat}{K r a:Nat}(h:Rect m K l)(b:r<K)(H:a<K):Rect (EI m r a) K l:=(h.set (h.2 a H)).set (h.2 r b)
theorem Rect.norm{m:Mat}{K c r a:Nat}(h:Rect m K l)(b:r<K)(H:a<K):Rect (r3 m c r a) K l:=(h.set (h.2 r b)).set (by rw[ik];exact h.2 a H)
theorem Rect.elim{m:Mat}{K c r:Nat}(h:Rect m K l)(a:r<K):Rect (eX m c r k) K l:=by
  refine⟨by rw[K0];exact h.1,λi H=>?_⟩
  rw[xf (by rw[h.1];exact H)]
  split
  · rw[ip (by rw[ik,h.2 i H,h.2 r a];exact aN _)];exact h.2 i H
  · exact h.2 i H
theorem Jg{m:Mat}{c r:Nat}:r<=rr m c r:=Nat.le_add_right _ _
theorem Rect.step{m:Mat}{K c r:Nat}(h:Rect m K l)(H:r<=K):Rect (stepM m c r).1 K l/\(stepM m c r).2<=K:=by
  unfold stepM
  split
  · exact⟨h,H⟩
  · have a:=h.1
    have:=Jg (m:=m) (c:=c) (r:=r)
    exact⟨(h.norm ω ω).elim ω,by show r+1<=K;omega⟩
theorem Rect.red{m:Mat}{K:Nat}(h:Rect m K l):∀n,Rect (jW m n).1 K l/\(jW m n).2<=K
  | 0=>⟨h,ý _⟩
  | n+1=>(h.red n).1.step (h.red n).2
theorem O2{m:Mat}{c:Nat}(h:(jW m c).2=(jW m c).1.length):∀n,c<=n->jW m n=jW m c:=by
  intro n H
  induction n with
  | zero=>have e:c=0:=(by omega);rw[e]
  | succ n i=>
    by_cases e:c=n+1
    · rw[e]
    · have i:=i ω
      show stepM (jW m n).1 n (jW m n).2=_
      rw[i,stepM,ae (by rw[<- h];exact Jg)]
section
variable {d:Type}[Rp d]
theorem gu{w A n C}{x:List (List d)}{f g s}(h:own s w [.slice A n C] I f)(u:dg â w (I.map View.val) x g)(z:I.length=x.length)(k:Nat)(i:k<x.length):
    ∃b o a c F,A=á ⟨b,o,ç⟩/\w.cell? ⟨b,o+k*1,ç⟩=á (.slice a (x.getD k []).length c)/\own â w [.slice a (x.getD k []).length c] (x.getD k []) F/\(∀b∈F,b∈g)/\b∈f:=by
  obtain⟨b,o,v,y,l,m,p,_,q⟩:=gh h k ω
  obtain⟨F,H,r⟩:=u.get k i
  have j:=p.1
  have t:k<(I.map View.val).length:=by simp;omega
  have e:((I.map View.val).drop (k*sz (List d))).take (sz (List d))=[(I[k]'(by omega)).val]:=by
    show((I.map View.val).drop (k*1)).take 1=_
    rw[ā,List.drop_eq_getElem_cons t,List.take_succ_cons]
    simp
  rw[e] at H
  obtain⟨a,c,E⟩:=aL H
  rw[E] at H
  rw[show x.getD k []=x[k] from by simp[i]]
  refine⟨b,o,a,c,F,l,?_,H,r,q⟩
  have:=m 0 _ (by rw[j,E];rfl)
  exact this
theorem Qz{w:ä}{X:List (List d)}{g:List Nat}(h:dg â w (I.map View.val) X g)(hl:I.length=X.length){u:View}{y:List d}{f}(l:own â w [u.val] y f):
    ∀k,k<X.length->∃G,dg â w ((I.set k u).map View.val) (X.set k y) G/\∀b∈G,b∈g\/b∈f:=by
  induction I generalizing X g with
  | nil=>intro k hk;simp at hl;omega
  | cons v I m=>
    intro k hk
    cases X with
    | nil=>simp at hl
    | cons x X=>
      obtain⟨U,f2,e,a,i⟩:=h
      subst e
      have c:own â w [v.val] x U:=by simpa[sz] using a
      have H:dg â w (I.map View.val) X f2:=by simpa[sz] using i
      cases k with
      | zero=>
        refine⟨f++f2,⟨f,f2,rfl,?_,?_⟩,λb hb=>?_⟩
        · simpa[sz] using l
        · simpa[sz] using H
        · rcases aI.1 hb with hb|hb
          · exact .inr hb
          · exact .inl mb
      | succ k=>
        obtain⟨G,j,s⟩:=m H y9 k oi
        refine⟨U++G,⟨U,G,rfl,?_,?_⟩,λb hb=>?_⟩
        · simpa[sz] using c
        · simpa[sz] using j
        · rcases aI.1 hb with hb|hb
          · exact .inl mb
          · rcases s b hb with hb|hb
            · exact .inl mb
            · exact .inr hb
variable {w:ä}
theorem Sep.rowsAt(h:Sep M J A F w)(j:Nat){x:List (List d)}{g}(H:F[j]? = á (rows I x g)):dg â w (I.map View.val) x g:=h.fs _ (æ H)
theorem Sep.lookR(h:Sep M J A F w)(j:Nat){x:List (List d)}{g}(a:F[j]? = á (rows I x g)){s c f}{y:List d}(o:own s w c y f)(e:∀b∈f,b∈g):Sep M J A (F++[Wk.Ab s c y f]) w:=
  h.look o λb H=>h.ap _ (æ a) b (e b H)
theorem Sep.fset(h:Sep M J A F w)(j:Nat){r:Rsc}(a:r.φ w)(d:∀b∈r.fp,b ∉ blocks A):Sep M J A (F.set j r) w:=
  h.fto λq H=>by
    rcases List.mem_or_eq_of_mem_set H with H|rfl
    · exact⟨h.fs q H,h.ap q H⟩
    · exact⟨a,d⟩
theorem Sep.rowSet(h:Sep M J A F w)(i j e:Nat){p n C}{X:List (List d)}{f g}(z:A[i]? = á (Wk.A4 [.slice p n C] I f))(B:F[j]? = á (rows I X g)){a m c}{y:List d}{L}(v:F[e]? = á (Wk.Ab s [.slice a m c] y L))
    (S:I.length=X.length) (k:Nat) (R:k<X.length) :
    ∃b o E T,p=á ⟨b,o,ç⟩/\w.heap[b]? = á (.cells E T (0,0))/\o+k<E.size/\b∈f /\
      ∃q G,Sep M J (A.set i (Wk.A4 [.slice p n C] (I.set k ⟨a,m,c⟩) q)) (F.set j (rows (I.set k ⟨a,m,c⟩) (X.set k y) G)) (Wk.put w b (.cells (E.setIfInBounds (o+k) (.slice a m c)) T (0,0))):=by
  obtain⟨b,o,E,T,r,N,V,D⟩:=h.elset i z k ω
  obtain⟨W,Y,_,_,t,_,_,_,O⟩:=gh (h.A4 i z) k ω
  rw[r] at t;cases t
  have U:(sz View)=1:=rfl
  rw[U] at V D
  obtain⟨q,H⟩:=D [.slice a m c] ⟨a,m,c⟩ ⟨rfl,rfl⟩
  have K:lay E (o+k*1) [.slice a m c]=E.setIfInBounds (o+k) (.slice a m c):=by rw[ā];rfl
  rw[K] at H
  obtain⟨G,P,Q⟩:=Qz (u:=⟨a,m,c⟩) (H.rowsAt j B) S (aJ (H.Ab e v)) k R
  refine⟨b,o,E,T,r,N,ω,O,q,G,H.fset j P λx l=>?_⟩
  rcases Q x l with l|l
  · exact H.ap _ (æ B) x l
  · exact H.ap _ (æ v) x l
theorem Sep.parted(h:Sep M J A F w)(i:Nat){j n C}{X:List (List d)}{f}(k:A[i]? = á (Wk.A4 [.slice j n C] X f)):
    ∃I a g,I.length=X.length/\Sep M J (A.set i (Wk.A4 [.slice j n C] (I:List View) a)) (F++[rows I X g]) w:=by
  have O:=h.Aj k
  have a_:∃(I:List View) (a g:List Nat),I.length=X.length/\own ã w [.slice j n C] I a/\dg â w (I.map View.val) X g/\(∀x∈a,x∈f)/\a.Nodup/\(∀x∈g,x∈f/\x ∉ a):=by
    rcases h.A4 i k with ⟨c,_⟩|⟨c,rfl,rfl⟩|⟨b,o,u,E,T,v,fs,c,y,z,B,h5,D,r,G⟩
    · cases c
    · exact⟨[],[],[],rfl,.inr (.inl ⟨c,rfl,rfl⟩),rfl,σ,.nil,σ⟩
    · subst y
      have L:((E.toList.drop o).take X.length).length=X.length:=by
        have e:E.toList.length=E.size:=by simp
        have:sz (List d)=1:=rfl
        rw[this] at r
        rw[aY,bZ];omega
      have m:=G.congr (by show J? (X.length*1) _=J? (X.length*1) _;rw[ā,ń,Nat.min_self])
      obtain⟨I,p,l⟩:=DJ m L
      rw[p] at m
      have K:=(ù.1 O).1
      refine⟨I,[b],fs,l,.inr (.inr ⟨b,o,u,E,T,v,[],by rw[c,l],rfl,z,B,ω,D,r,?_⟩),m.weak',σ,σ,λx hx=>⟨sv,by simp;exact λe=>K (e ▸ hx)⟩⟩
      refine(Fe).congr ?_
      show J? (I.length*1) _=J? (I.length*1) _
      rw[ā,<- p,l,ń,Nat.min_self]
  obtain⟨I,a,g,R,S,U,V,W,Y⟩:=a_
  have H:=h.set k (q:=Wk.A4 [.slice j n C] I a) Ext.refl S W λx hx => .inl (V x hx)
  refine⟨I,a,g,R,H.look U λx hx N=>?_⟩
  have s:=Y x hx
  obtain⟨b_,P,t⟩:=cG.1 N
  rcases kN k h.nd b_ P with rfl|⟨_,Q⟩
  · exact s.2 t
  · exact Q x t s.1
end
section
variable {w:ä}{d:Tmp}{q:List ą}{r:Type}[Rp r]
theorem HW{t:ì}{x y:Â}{b u:Nat}{s:Nat}{X:List (List r)}{a_ a m c}{z:List r}{v}(Y:Wn C n L ⟨ç,.store t x y,ty,p,af,g⟩)(V:∀w,(sizeOf t).run P w = .ok 1 w)
    (H:Sep M J A F w) (i j e:Nat) (N:A[i]? = á (A4 [.slice ad s O] I f)) (R:F[j]? = á (rows I X gg)) (K:F[e]? = á (Ab a_ [.slice a m c] z v)) (U:I.length=X.length) (k:Nat) (S:k<X.length)
    (o:evL L x=á (.pointer (á ⟨b,u+k*1,ç⟩))) (B:ad=á ⟨b,u,ç⟩) (hy:evL L y=á (.slice a m c))
    (kk:∀w' d G,Sep M J (A.set i (A4 [.slice ad s O] (I.set k ⟨a,m,c⟩) d)) (F.set j (rows (I.set k ⟨a,m,c⟩) (X.set k z) G)) w'->RL P n C Q q L w') :
    RL P n C Q (⟨ç,.store t x y,ty,p,af,g⟩::q) L w:=by
  obtain⟨b',o',E,T,l,D,W,_,d,G,h⟩:=H.rowSet i j e N R K U k S
  rw[B] at l
  obtain⟨rfl,rfl⟩:=l
  rw[ā] at o
  exact GW Y rfl (jM V o hy rfl D W) (kk _ d G h)
end
section
variable {w:ä}{d:Tmp}{q:Type}[Rp q]
theorem uc{t:ì}{x y:Â}{b K:Nat}{D:Nat}{X:List (List q)}{b_ a m c}{z:List q}{N}(ho:C.toList[l]? = á ⟨ç,.store t x y,ty,p,af,g⟩)(hw:Wn C n L ⟨ç,.store t x y,ty,p,af,g⟩)(hs:∀w,(sizeOf t).run P w = .ok 1 w)
    (H:Sep M J A F w) (i j e:Nat) (W:A[i]? = á (A4 [.slice ad D O] I f)) (Y:F[j]? = á (rows I X gg)) (V:F[e]? = á (Ab b_ [.slice a m c] z N)) (hl:I.length=X.length) (k:Nat) (hk:k<X.length)
    (B:evL L x=á (.pointer (á ⟨b,K+k*1,ç⟩))) (s:ad=á ⟨b,K,ç⟩) (hy:evL L y=á (.slice a m c)) (R:∀(b o:Nat) (E:Array è) (T:ì),ad=á ⟨b,o,ç⟩->w.heap[b]? = á (.cells E T (0,0))->o+k<E.size->S w->a_≠[]->S (put w b (.cells (E.setIfInBounds (o+k) (.slice a m c)) T (0,0))))
    (kk:∀w' d G,Sep M J (A.set i (A4 [.slice ad D O] (I.set k ⟨a,m,c⟩) d)) (F.set j (rows (I.set k ⟨a,m,c⟩) (X.set k z) G)) w'->DL P n C Q S a_ L w') :
    DL P n C Q S ((l,â)::a_) L w:=by
  obtain⟨b',o',E,T,r,u,v,c_,d,G,h⟩:=H.rowSet i j e W Y V hl k hk
  rw[s] at r
  obtain⟨rfl,rfl⟩:=r
  rw[ā] at B
  exact G5 ho hw rfl (jM hs B hy rfl u v) (λU hr=>R _ _ E T s u v U hr) (kk _ d G h)
end
theorem MR{w:ä}{b o a r:Nat}{v:è}(h:w.heap[b]? = á (.cells E T (0,0)))(d:o+r<E.size)(H:w.cell? ⟨b,o+a*1,ç⟩=á v):
    (put w b (.cells (E.setIfInBounds (o+r) v) T (0,0))).cell? ⟨b,o+a*1,ç⟩=á v:=by
  rw[ā] at H ⊢
  refine qm (kJ h) ?_
  have c:E[o+a]? = á v:=by simpa[World.cell?,h] using H
  by_cases e:r=a
  · subst e;simp[d]
  · rw[Ĉ ω];exact c
def RowsMut {a:Type}[Rp a] (w W:ä) (F:List Nat) (V:è) (K:Nat) (m:List (List a)):Prop:=
  ∃(I:List View) (f g:List Nat),I.length=K/\Ext (· ∈ F) w W/\own ã W [V] I f/\f.Nodup/\(∀b∈f,b∈F\/w.heap.size<=b)/\dg â W (I.map View.val) m g/\∀b∈g,b ∉ f
section
variable {a:Type}[Rp a] {w:ä}
theorem Sep.rowsOut{w:ä}{g:List Nat}{m:List (List a)}{K:Nat}(h:Sep (· ∈ fp) w [Wk.A4 [V] I f] [rows I m g] w')(l:I.length=K):RowsMut w w' fp V K m:=
  ⟨I,f,g,l,h.ext,h.A4 0 rfl,h.Aj (i:=0) rfl,λb H=>h.new b (by simpa[blocks,Wk.A4] using H),h.rowsAt 0 rfl,λb H=>h.off 0 rfl 0 rfl H⟩
theorem Sep.beginRows{g:List Nat}{m:List (List a)}(o:own ã w [V] I fp)(n:fp.Nodup)(r:dg â w (I.map View.val) m g)(H:∀b∈g,b ∉ fp):Sep (· ∈ fp) w [Wk.A4 [V] I fp] [rows I m g] w:=
  (Sep.begin o n).look r λb h c=>H b h (by simpa[blocks,Wk.A4] using c)
theorem Sep.rowsMut(h:Sep M J A F w)(i:Nat)(e:A[i]? = á (Wk.A4 [V] I fp))(y:∀b∈blocks A,b∈fp){K:Nat}{m:List (List a)}(d:RowsMut w w' fp V K m):
    ∃v f g,v.length=K/\Sep M J (A.set i (Wk.A4 [V] (v:List View) f)) (F++[rows v m g]) w':=by
  obtain⟨v,f,g,j,k,l,n,o,p,s⟩:=d
  have H:=h.set e (q:=Wk.A4 [V] v f) k l n o
  refine⟨v,f,g,j,H.look p λb t d=>?_⟩
  obtain⟨r,u,c⟩:=cG.1 d
  rcases kN e h.nd r u with rfl|⟨x,z⟩
  · exact s b t c
  · exact z b c (y b (cG.2 ⟨r,x,c⟩))
end
theorem Fj{m M:Mat}{c r:Nat}(h:jW m c=(M,r))(H:M.length<=rr M c r):jW m (c+1)=(M,r):=by
  show stepM (jW m c).1 c (jW m c).2=_
  rw[h]
  exact ae H
theorem EN{m M:Mat}{c r:Nat}(h:jW m c=(M,r))(H:rr M c r=j)(a:j<M.length):jW m (c+1)=(eX (r3 M c r j) c r M.length,r+1):=by
  show stepM (jW m c).1 c (jW m c).2=_
  rw[h]
  show stepM M c r=_
  rw[stepM,ac ω,H]
theorem R0{N:Mat}{c r:Nat}{x:UInt8}(h:(decide ((i:Int)≠(r:Int)) && decide ((x.toNat:Int)≠0))=ã):i≠r:=by
  simp at h;omega
theorem MJ{N:Mat}{K c r:Nat}(H:Rect N K l)(a:i<K)(b:r<K)(h:(decide ((i:Int)≠(r:Int)) && decide (((((eX N c r i).getD i []).getD c 0).toNat:Int)≠0))=â):
    eX N c r i=eX N c r (i+1):=by
  by_cases e:i=r
  · exact Bv (.inl e)
  · refine Gu H a b ?_
    rw[zz (by rw[H.1];exact a)] at h
    have E:decide ((i:Int)≠(r:Int))=true:=by simp;omega
    rw[E,Þ,aa,Decidable.not_not] at h
    exact qv h
theorem Rn{M:Mat}{c r:Nat}(H:r<M.length)(h:j<M.length):
    ((M.set r (M.getD j [])).set j (M.getD r [])).set r (cK (((M.set r (M.getD j [])).set j (M.getD r [])).getD r []) (eN 1 (pm ((((M.set r (M.getD j [])).set j (M.getD r [])).getD r []).getD c 0))))=r3 M c r j:=by
  have e:=Sa H h
  rw[EI] at e
  rw[e,pf]
  exact M4
theorem Sep.resN{d:Type}[Rp d]{M W a F}{w:ä}{c:List è}{x:d}(h:Sep M W a F w)(e:Ext No w w')(r:Res w w' c x):∃fp,Sep M W (a++[Wk.A4 c x fp]) F w'/\∀b∈fp,w.heap.size<=b:=by
  obtain⟨fp,f,g,H⟩:=r
  exact⟨fp,h.add e f g H,H⟩
section
variable {w c:ä}{r:Nat->Prop}{d:Tmp}{a:Type}[Rp a]
theorem d_S{l:List (Nat × Bool)}(h:S w->DL P n C Q S l L w)(c:l≠[]):DL P n C Q S l L w:=λs a b H=>h (H c) s a b H
theorem gm{x y:Â}{t:ì}{v:è}{X:List a}{B E:Nat}{T}{s:List è}{u:a}(ho:C.toList[i]? = á ⟨á d,.call ⟨.builtin .append,#[x,y],#[t,t]⟩,ty,p,af,g⟩)(hw:Wn C n L ⟨á d,.call ⟨.builtin .append,#[x,y],#[t,t]⟩,ty,p,af,g⟩)(hn:ò d n=ã)
    (ht:P.underlying t=á (.slice e)) (U:Ty P e z (sz a) f_) (R:(z.cells.size,evL L x,evL L y)=(sz a,á v,á (.slice (á ⟨B,0,ç⟩) 1 E)))
    (H:Sep M J A F w) (q j:Nat) (S:(A[q]?,A[j]?)=(á (A4 [v] X fp),á (box B (.cells s.toArray T)))) (m:own ã w s u []) (O:X.length+1<=Ë) (W:(X.length+1)*f_<=140737488355328)
    (Y:∀b∈fp,c.heap.size<=b)
    (b_:∀V w' f,(∀b∈f,b∈fp\/w.heap.size<=b)->Sep M J (A.set q (A4 [V] (X++[u]) f)) F w'->DL P n C Q (Ext r c) a_ ((d,V)::L) w') :
    DL P n C Q (Ext r c) ((i,â)::a_) L w:=by
  have⟨hz,hx,hy⟩:=pj3 R;have⟨l,hj⟩:=pj2 S;obtain⟨V,w',f,G,I,o,K,N⟩:=nh ht U hz (H.A4 q l) (by rw[Rp.len m];simp) rfl (At.whole (H.box j hj)) (Rp.one m) (.one m) σ (H.Aj l) .nil σ O W
  have D:∀b∈f,b∈fp\/w.heap.size<=b:=λb k=>by rcases K b k with h|h|h;exact .inl h;simp at h;exact .inr h
  exact tO ho hw rfl hn (pU hx hy G) (λh _=>h.step o λb k => .inr (Y b k)) (b_ _ _ _ D (H.set l o I N D))
theorem dh[Flat a]{x y:Â}{t:ì}{v:è}{X Y:List a}{u:List Nat}{c_ k m l}(S:C.toList[i]? = á ⟨á d,.call ⟨.builtin .append,#[x,y],#[t,t]⟩,ty,p,af,g⟩)(hw:Wn C n L ⟨á d,.call ⟨.builtin .append,#[x,y],#[t,t]⟩,ty,p,af,g⟩)(R:ò d n=ã)
    (U:P.underlying t=á (.slice e)) (T:Ty P e z (sz a) f_) (I:(z.cells.size,evL L x,evL L y)=(sz a,á v,á (.slice k m l)))
    (H:Sep M J A F w) (q:Nat) (j:A[q]? = á (A4 [v] X fp)) (W:own c_ w [.slice k m l] Y u) (G:X.length+Y.length<=Ë) (N:(X.length+Y.length)*f_<=140737488355328)
    (O:∀b∈fp,c.heap.size<=b)
    (b_:∀V w' f,(∀b∈f,b∈fp\/w.heap.size<=b)->Sep M J (A.set q (A4 [V] (X++Y) f)) F w'->DL P n C Q (Ext r c) a_ ((d,V)::L) w') :
    DL P n C Q (Ext r c) ((i,â)::a_) L w:=by
  have⟨hz,hx,hy⟩:=pj3 I;obtain⟨V,w',f,B,D,o,s,E⟩:=un U T hz (H.A4 q j) W (H.Aj j) G N
  exact tO S hw rfl R (pU hx hy B) (λh _=>h.step o λb K => .inr (O b K)) (b_ _ _ _ s (H.set j o D E s))
theorem Mm{t:ì}{x y:Â}{b o:Nat}{v:è}{c:Nat}{X:List a}{u:a}(G:C.toList[i]? = á ⟨ç,.store t x y,ty,p,af,g⟩)(N:Wn C n L ⟨ç,.store t x y,ty,p,af,g⟩)(s:∀w,(sizeOf t).run P w = .ok (sz a) w)(d:sz a=1)
    (H:Sep M J A F w) (l j:Nat) (z:A[l]? = á (A4 [.slice ad c O] X fp)) (h:A[j]? = á (A4 [v] u fu)) (B:î j l=â) (q:Nat) (I:q<X.length) (R:evL L x=á (.pointer (á ⟨b,o+q*sz a,ç⟩))) (m:ad=á ⟨b,o,ç⟩) (U:evL L y=á v)
    (k:∀w' f,Sep M J ((A.set j gone).set l (A4 [.slice ad c O] (X.set q u) f)) F w'->DL P n C Q S [] L w') :
    DL P n C Q S [(i,â)] L w:=by
  obtain⟨V,o',E,T,f,e,r,W,D⟩:=H.elset2 l j z h B q I
  rw[m] at e
  obtain⟨rfl,rfl⟩:=e
  exact G5 G N rfl (jM (by rw[d] at s;exact s) R U (Rp.one (H.A4 j h) v σ) r ω) (λ_ K=>absurd rfl K) (k _ f D)
end
def augTo (m:Mat) (b:List UInt8) (k:Nat):Mat:=(õ k).map λi=>m.getD i []++[b.getD i 0]
def aug (m:Mat) (b:List UInt8):Mat:=augTo m b m.length
theorem nB{m:Mat}{b k}:(augTo m b k).length=k:=by simp[augTo]
theorem tx{m:Mat}{b k}:augTo m b k++[m.getD k []++[b.getD k 0]]=augTo m b (k+1):=by simp[augTo,č]
def augIn (m:Mat) (b:List UInt8) (k:Nat):Mat:=augTo m b k++å (m.length-k) []
theorem K2{m:Mat}{b}:augIn m b 0=å m.length []:=by simp[augIn,augTo]
theorem FE{m:Mat}{b}:augIn m b m.length=aug m b:=by simp[augIn,aug]
theorem AT{m:Mat}{b k}(h:k<=m.length):(augIn m b k).length=m.length:=by simp[augIn,nB];omega
theorem FG{m:Mat}{b k}(h:k<m.length):(augIn m b k).set k (m.getD k []++[b.getD k 0])=augIn m b (k+1):=by
  rw[augIn,List.set_append_right _ _ (by rw[nB];exact aN _),nB,Nat.sub_self,augIn,<- tx]
  have:å (m.length-k) ([]:List UInt8)=[]::å (m.length-(k+1)) []:=by
    rw[show m.length-k=(m.length-(k+1))+1 by omega];rfl
  rw[this];simp
theorem Jm{m:Mat}{b:List UInt8}(h:Rect m n n):Rect (aug m b) n (n+1):=by
  obtain⟨H,c⟩:=h
  refine⟨by rw[aug,nB];exact H,λi a=>?_⟩
  have:(aug m b).getD i []=m.getD i []++[b.getD i 0]:=by simp[aug,augTo,H,a]
  rw[this,aO,c i a];rfl
def wx (m:Mat) (c k:Nat):List UInt8:=(õ k).map λi=>entry m i c
theorem zG{m:Mat}{c k}:(wx m c k).length=k:=by simp[wx]
theorem C3{m:Mat}{c k}:wx m c k++[(m.getD k []).getD c 0]=wx m c (k+1):=by simp[wx,č,entry]
def yg (m:Mat) (b:List UInt8):Bool:=decide (m.length<=(jW (aug m b) m.length).2)
def zt (m:Mat) (b:List UInt8):List UInt8:=if yg m b=ã then wx (jW (aug m b) m.length).1 m.length m.length else[]
theorem O3{m:Mat}{b}(h:(jW (aug m b) m.length).2<m.length):yg m b=â/\zt m b=[]:=by
  have:yg m b=false:=by rw[yg,a8 ω]
  exact⟨this,by rw[zt,this];rfl⟩
theorem F9{m:Mat}{b}(h:¬ (jW (aug m b) m.length).2<m.length):yg m b=ã/\zt m b=wx (jW (aug m b) m.length).1 m.length m.length:=by
  have:yg m b=true:=by rw[yg,aU ω]
  exact⟨this,by rw[zt,ae this]⟩
theorem N6{m:Mat}{b}:(zt m b).length<=m.length:=by
  unfold zt;split
  · rw[zG];exact aN _
  · exact ý _
def hole {i:Type}[Rp i] (b o k:Nat) (C:Array è) (T:ì) (A:Option ô) (n p:Nat) (s:List (List i)) (f F:List Nat):Rsc:=
  ⟨b::(f++F),λw=>w.heap[b]? = á (.cells C T (0,0))/\(∀x∈b::(f++F),x<w.heap.size) /\
    ∀w' c X a,w'.heap[b]? = á (.cells c T (0,0))->c.size=C.size->(∀j,j<o+k\/o+(k+1)<=j->c[j]? = C[j]?)->(∀b∈f,w'.heap[b]? = w.heap[b]?)->(∀b∈F,w'.heap[b]? = w.heap[b]?) ->
        own ã w' ((c.toList.drop (o+k)).take 1) X a->own ã w' [.slice A n p] (s.set k X) (b::(f++(a++F))),
   λh e=>⟨(e b σ).trans h.1,λx g=>by
      have d:=h.2.1 x g
      have H:=e x g
      rw[Ń d] at H
      exact(ø.1 H).1,λw' c X a d H l m q r=>h.2.2 w' c X a d H l (λb hb=>(m b hb).trans (e b mb)) (λb hb=>(q b hb).trans (e b mb)) r⟩,
   λh=>h.2.1⟩
def reord (r:Rsc) (f:List Nat) (h:∀b,b∈f↔b∈r.fp):Rsc:=⟨f,r.φ,λa e=>r.st a λb H=>e b ((h b).2 H),λa b H=>r.lt a b ((h b).1 H)⟩
section
variable {w:ä}{d:Type}[Rp d]
theorem l6{a b:Rsc}{t:List Rsc}:∀ {A:List Rsc}{i:Nat},i<A.length->(A.set i a++b::t).Perm (A.set i b++a::t)
  | [],_,h=>by simp at h
  | x::A,0,_=>by
    exact(List.perm_middle.cons a).trans ((List.Perm.swap _ _ _).trans (List.perm_middle.symm.cons b))
  | x::A,i+1,h=>(l6 lN).cons x
theorem Sep.unhook(h:Sep M J A F w)(i:Nat){r n C}{X:List (List d)}{fp}(g:A[i]? = á (Wk.A4 [.slice r n C] X fp))(k:Nat)(L:k<X.length):
    ∃b o E T U f2 f a c,r=á ⟨b,o,ç⟩/\o+k<E.size/\w.cell? ⟨b,o+k*1,ç⟩=á (.slice a (X.getD k []).length c)/\b ∉ f/\Sep M J (A.set i (hole b o k E T r n C X U f2)++[Wk.A4 [.slice a (X.getD k []).length c] (X.getD k []) f]) F w:=by
  have e_:=h.Aj g
  obtain⟨b,o,E,T,U,f,f2,Y,e2,I,f_,l,b_⟩:=yK (h.A4 i g) k L
  have u:sz (List d)=1:=rfl
  rw[u,ā] at f_ l
  have d_:=Rp.lt (h.A4 i g)
  subst e2
  obtain⟨N,O⟩:=ù.1 e_
  rw[ë,ë] at O
  obtain⟨R,⟨S,V,W⟩,D⟩:=O
  have t:∀x,x∈(b::(U++f2))++f↔x∈b::(U++(f++f2)):=λx=>by
    simp only[R?,aM,aI]
    constructor
    · rintro(h|(h|h)|h)
      · exact .inl h
      · exact .inr (.inl h)
      · exact .inr (.inr (.inr h))
      · exact .inr (.inr (.inl h))
    · rintro(h|h|h|h)
      · exact .inl h
      · exact .inr (.inl (.inl h))
      · exact .inr (.inr h)
      · exact .inr (.inl (.inr h))
  have P:=h.set g (q:=reord (Wk.A4 [.slice r n C] X _) _ t) Ext.refl (h.A4 i g)
    (by
      refine ë.2 ⟨ù.2 ⟨λm=>N (by rcases aI.1 m with m|m<;>simp[m]),ë.2 ⟨R,V,λp H q hq e=>D p H q rd e⟩⟩,S,λp H q hq e=>?_⟩
      subst e
      rcases aM.1 H with rfl|H
      · exact N rd
      · rcases aI.1 H with H|H
        · exact D p H p rd rfl
        · exact W p hq p H rfl)
    (λx l => .inl ((t x).1 l))
  have g_:((E.toList.drop (o+k)).take 1).length=1:=by
    have e:E.toList.length=E.size:=by simp
    rw[aY,bZ];omega
  obtain⟨v,G⟩:=List.length_eq_one_iff.1 g_
  have s:=l
  rw[G] at s
  obtain⟨a,c,z⟩:=aL s
  have B:X.getD k []=X[k]:=by simp[L]
  have c_:E[o+k]? = á v:=by
    have:(E.toList.drop (o+k))[0]? = á v:=by
      have:((E.toList.drop (o+k)).take 1)[0]? = á v:=by rw[G];rfl
      simpa using this
    simpa using this
  rw[z] at s
  have K:=(ñ.1 g).1
  refine⟨b,o,E,T,U,f2,f,a,c,Y,ω,?_,λm=>N (by simp[m]),?_⟩
  · rw[ā,B,<- (List.cons.inj z).1]
    exact qm I c_
  · have y:=P.part i (by rw[ÿ K]) [hole b o k E T r n C X U f2,Wk.A4 [.slice a (X.getD k []).length c] (X.getD k []) f] ?_ ?_
    · rw[Ò] at y
      exact(y.perm (l6 K)).sub ((List.Sublist.refl _).append (.cons _ (.refl _)))
    · refine all_cons ⟨I,λx l=>d_ x ((t x).1 (by simp only[aI];exact .inl l)),λw' Q x' a_ q1 q2 q3 q4 q5 q6=>b_ w' Q x' a_ q1 q2 (λj hj=>q3 j (by rw[u] at hj;omega)) q4 q5 (by rw[u,ā];exact q6)⟩ (all_cons ?_ σ)
      rw[B];exact s
    · simp[blocks,hole,Wk.A4,reord]
theorem Sep.hook(h:Sep M J A F w)(i j:Nat){b o k c T r n C}{X:List (List d)}{s t v g}{x:List d}(l:A[i]? = á (hole b o k c T r n C X s t))(f:A[j]? = á (Wk.A4 [v] x g))(z:î j i=â)(S:o+k<c.size):
    Sep M J ((A.set j gone).set i (Wk.A4 [.slice r n C] (X.set k x) (b::(s++(g++t))))) F (Wk.put w b (.cells (c.setIfInBounds (o+k) v) T (0,0))):=by
  obtain⟨L,D,O⟩:(hole b o k c T r n C X s t).φ w:=h.rs _ (æ l)
  have a:=h.A4 j f
  have P:=h.Aj l
  have Q:=h.Aj f
  have u:∀x∈g,x ∉ b::_:=λx a H=>h.apart l f z x a H
  obtain⟨N,R⟩:=ù.1 P
  obtain⟨G,I,K⟩:=ë.1 R
  have E:Ext (· = b) w (Wk.put w b (.cells (c.setIfInBounds (o+k) v) T (0,0))):=Ext.refl.put (.inl rfl)
  have y:=λH=>u b H σ
  refine h.set2 l f z (E.mono λB _ e=>by subst e;simp[hole]) ?_ ?_ ?_
  · refine O _ _ x g (kJ L) σ (λj f=>Ĉ ω) (λB hb'=>E.block B (D B jT) λe=>?_) (λB hb'=>E.block B (D B jT) λe=>?_) ?_
    · subst e;exact N jT
    · subst e;exact N jT
    · have e:((c.setIfInBounds (o+k) v).toList.drop (o+k)).take 1=[v]:=by
        have:=Dj [v] c (o+k) (by show o+k+1<=c.size;omega)
        exact this
      rw[e]
      exact Rp.st a λB hb'=>E.block B (Rp.lt a B hb') λe=>by subst e;exact y hb'
  · refine ù.2 ⟨λH=>?_,ë.2 ⟨G,ë.2 ⟨Q,I,λp m q hq e=>?_⟩,λp m q hq e=>?_⟩⟩
    · simp at H N
      rcases H with H|H|H
      · exact N.1 H
      · exact y H
      · exact N.2 H
    · subst e;exact u p m rd
    · subst e
      rcases aI.1 hq with hq|hq
      · exact u p hq (by simp[m])
      · exact K p m p hq rfl
  · intro x a
    change x∈b::_ at a
    simp at a
    rcases a with h|h|h|h
    · exact .inl (by simp[hole,h])
    · exact .inl (by simp[hole,h])
    · exact .inr (.inl h)
    · exact .inl (by simp[hole,h])
end
section
variable {w:ä}{d:Tmp}{a:Type}[Rp a]
theorem Tn{r:List ą}{t:ì}{x y:Â}{b o:Nat}{c T}{l:Nat}{X:List (List a)}{m:List Nat}{v:è}{z:List a}(D:Wn C n L ⟨ç,.store t x y,ty,p,af,g⟩)(B:∀w,(sizeOf t).run P w = .ok 1 w)
    (H:Sep M J A F w) (i j:Nat) (h:A[i]? = á (hole b o k c T ad l O X U f2)) (d:A[j]? = á (A4 [v] z m)) (u:î j i=â) (e:o+k<c.size)
    (f:evL L x=á (.pointer (á ⟨b,o+k*1,ç⟩))) (E:evL L y=á v)
    (K:∀w' q,Sep M J ((A.set j gone).set i (A4 [.slice ad l O] (X.set k z) q)) F w'->RL P n C Q r L w') :
    RL P n C Q (⟨ç,.store t x y,ty,p,af,g⟩::r) L w:=by
  obtain⟨s,_,_⟩:(hole b o k c T ad l O X U f2).φ w:=H.rs _ (æ h)
  rw[ā] at f
  exact GW D rfl (jM B f E (Rp.one (H.A4 j d) v σ) s e) (K _ _ (H.hook i j h d u e))
theorem Pg{t:ì}{x y:Â}{b o:Nat}{c T}{d:Nat}{X:List (List a)}{q:List Nat}{v:è}{z:List a}(B:C.toList[l]? = á ⟨ç,.store t x y,ty,p,af,g⟩)(G:Wn C n L ⟨ç,.store t x y,ty,p,af,g⟩)(E:∀w,(sizeOf t).run P w = .ok 1 w)
    (H:Sep M J A F w) (i j:Nat) (h:A[i]? = á (hole b o k c T ad d O X U f2)) (e:A[j]? = á (A4 [v] z q)) (u:î j i=â) (f:o+k<c.size)
    (m:evL L x=á (.pointer (á ⟨b,o+k*1,ç⟩))) (I:evL L y=á v)
    (K:∀w' r,Sep M J ((A.set j gone).set i (A4 [.slice ad d O] (X.set k z) r)) F w'->DL P n C Q S [] L w') :
    DL P n C Q S [(l,â)] L w:=by
  obtain⟨s,_,_⟩:(hole b o k c T ad d O X U f2).φ w:=H.rs _ (æ h)
  rw[ā] at m
  exact G5 B G rfl (jM E m I (Rp.one (H.A4 j e) v σ) s f) (λ_ D=>absurd rfl D) (K _ _ (H.hook i j h e u f))
end
def trF (g:Nat->List UInt8) (n j i:Nat):Mat:=(õ n).map λx=>(õ (if x<i then j+1 else j)).map λt=>(g t).getD x 0
theorem xZ{g n j i}:(trF g n j i).length=n:=by simp[trF]
theorem x0{g n j i x}(h:x<n):(trF g n j i).getD x []=(õ (if x<i then j+1 else j)).map λt=>(g t).getD x 0:=by simp[trF,h]
theorem DU{g n}:trF g n 0 0=å n []:=by
  refine Ü (by simp[trF]) λi h H=>?_
  simp[trF]
theorem D3{g n j i}(h:i<n):(trF g n j i).set i ((trF g n j i).getD i []++[(g j).getD i 0])=trF g n j (i+1):=by
  refine Ü (by simp[trF]) λx a b=>?_
  rw[z?]
  simp only[trF,ħ,Ĝ]
  by_cases e:i=x
  · subst e
    have e:=x0 (g:=g) (j:=j) (i:=i) h
    rw[ac ω] at e
    rw[ae rfl,ae ω,č,List.map_append]
    exact congrArg (· ++ _) e
  · rw[ac e]
    by_cases H:x<i
    · rw[ae H,ae ω]
    · rw[ac H,ac ω]
theorem Dg{g n j}:trF g n j n=trF g n (j+1) 0:=by
  refine Ü (by simp[trF]) λx h H=>?_
  have:x<n:=by simpa[trF] using h
  simp[trF,this]
theorem Oy{g n m}:Rect (trF g n m 0) n m:=⟨xZ,λi h=>by rw[x0 h];simp⟩
def hv (n:Nat) (h:List Int) (b:Int) (t:Nat):List UInt8:=kY n (h.getD t 0) b
def wo (n:Nat) (h:List Int) (b:Int):Mat:=trF (hv n h b) n n 0
def betw (n:Nat) (h:List Int) (w b:Int):List UInt8:=zt (wo n h b) (kY n w b)
theorem so{n h b}:(wo n h b).length=n:=xZ
theorem xk{n h b}:Rect (wo n h b) (wo n h b).length (wo n h b).length:=by rw[so];exact Oy
theorem yy{n h x b}:(betw n h x b).length<=n:=by
  have:=N6 (m:=wo n h b) (b:=kY n x b)
  rw[so] at this
  exact this
theorem wou{o:ą}{j t b}(H:(o.guard,ll C j,look L t)=(á (j,b),á t,á undef)):Wo C n L o:=have⟨h,d,c⟩:=pj3 H;λa g=>by
  have y:yielded C a.tmps j=none:=by
    have h:=g.cov t _ c
    have e:(C[j]?).bind (·.dst)=á t:=by simpa[ll] using d
    simp only[yielded,e,Option.bind_some]
    simp at h
    cases f:a.tmps[t]? with
    | none=>rfl
    | some v=>rw[f] at h;simp at h;subst h;rfl
  simp[Region.wanted,h,y]
def kz (x:List Int) (m:Int) (i:Nat):Bool:=decide (0<=x.getD i 0) && decide (x.getD i 0<=m) && (decide (i=0) || decide (x.getD (i-1) 0<x.getD i 0))
def rises (x:List Int) (m:Int):Bool:=(õ x.length).all (kz x m)
theorem vI{x m}(h:∀i,i<x.length->kz x m i=ã):rises x m=true:=by
  rw[rises,û]
  exact λi hi=>h i uq
theorem yb{x m}(i:Nat)(hi:i<x.length)(h:kz x m i=â):rises x m=false:=by
  cases H:rises x m with
  | false=>rfl
  | true=>
    rw[rises,û] at H
    rw[H i uq] at h
    cases h
theorem pi{x m}(h:rises x m=ã)(i:Nat)(hi:i<x.length):0<=x.getD i 0/\x.getD i 0<=m:=by
  rw[rises,û] at h
  have:=h i uq
  simp only[kz,aP,ab] at this
  exact this.1
theorem FD{s w c}{x:A0}{f}(h:own s w c x f):c=[.int .i64 x.A2,.int .i64 x.A5,.int .i64 x.Data,.int .i64 x.Af,.int .i64 x.Rows,.int .i64 x.Cap,.int .i64 x.An,.int .i64 x.Ao,.int .i64 x.Ap]/\f=[]/\x.Ok:=by
  obtain⟨_,_,_,_,rfl,E,H,k0⟩:=dw h
  obtain⟨rfl,rfl,I⟩:=gj H
  obtain⟨_,_,_,_,rfl,B,a,K⟩:=dw k0
  obtain⟨rfl,rfl,k⟩:=gj a
  obtain⟨_,_,_,_,rfl,C,b,t⟩:=dw K
  obtain⟨rfl,rfl,l⟩:=gj b
  obtain⟨_,_,_,_,rfl,D,d,u⟩:=dw t
  obtain⟨rfl,rfl,m⟩:=gj d
  obtain⟨_,_,_,_,rfl,F,e,v⟩:=dw u
  obtain⟨rfl,rfl,n⟩:=gj e
  obtain⟨_,_,_,_,rfl,G,g,y⟩:=dw v
  obtain⟨rfl,rfl,o⟩:=gj g
  obtain⟨_,_,_,_,rfl,J,i,z⟩:=dw y
  obtain⟨rfl,rfl,p⟩:=gj i
  obtain⟨_,_,_,_,rfl,L,j,A⟩:=dw z
  obtain⟨rfl,rfl,q⟩:=gj j
  obtain⟨rfl,rfl,r⟩:=gj A
  exact⟨rfl,qL,⟨I,k,l,m,n,o,p,q,r⟩⟩
theorem A0.own_mk{w:ä}{x:A0}(o:x.Ok):own s w [.int .i64 x.A2,.int .i64 x.A5,.int .i64 x.Data,.int .i64 x.Af,.int .i64 x.Rows,.int .i64 x.Cap,.int .i64 x.An,.int .i64 x.Ao,.int .i64 x.Ap] x ([]):=by
  obtain⟨i,I,a,b,c,d,e,f,g⟩:=o
  have h:own s w _ _ _:=(ew (gU i) (ew (gU I) (ew (gU a) (ew (gU b) (ew (gU c) (ew (gU d) (ew (gU e) (ew (gU f) (gU g)))))))))
  refine lM h ?_
  simp
theorem Ix{w:ä}:own ã w [.int .i64 0,.int .i64 0,.string ⟨#[]⟩,.int .i64 0,.int .i64 0,.int .i64 0,.slice ç 0 0,.slice ç 0 0,.slice ç 0 0] (à:Rec) []:=lM (Rec.own_mk (x:=(à:Rec)) ⟨(show Ak 0 by unfold Ak;omega),(show Ak 0 by unfold Ak;omega),(ý _),(show Ak 0 by unfold Ak;omega),(show Ak 0 by unfold Ak;omega),(show Ak 0 by unfold Ak;omega)⟩ (.inr (.inl ⟨rfl,rfl,rfl⟩)) (.inr (.inl ⟨rfl,rfl,rfl⟩)) (.inr (.inl ⟨rfl,rfl,rfl⟩))) (by first|rfl|simp)
structure Block where
  Stamp:Int
  Bytes:List UInt8
instance:Rp Block:=Rp.via λx=>(x.Stamp,x.Bytes)
instance:Inhabited Block:=⟨⟨0,[]⟩⟩
def Block.val (x:Block) (A:Option ô) (C:Nat):è := .agg #[.int .i64 x.Stamp,.slice A x.Bytes.length C]
def Block.Ok (x:Block):Prop:=Ak x.Stamp
theorem nt{s w c}{x:Block}{f}(h:own s w c x f):∃(A1:Option ô) (C1:Nat) (U:List Nat) ,c=[.int .i64 x.Stamp,.slice A1 x.Bytes.length C1]/\f=U/\x.Ok/\own s w [.slice A1 x.Bytes.length C1] x.Bytes U:=by
  obtain⟨_,_,_,_,rfl,e,H,k0⟩:=dw h
  obtain⟨rfl,rfl,i⟩:=gj H
  obtain⟨A1,C1,rfl⟩:=aL k0
  exact⟨A1,C1,_,rfl,qL,i,k0⟩
theorem Block.own_mk{w:ä}{x:Block}(O:x.Ok)(o:own s w [.slice A1 x.Bytes.length C1] x.Bytes U):own s w [.int .i64 x.Stamp,.slice A1 x.Bytes.length C1] x (U):=by
  have i:=O
  have h:=(ew (gU i) o)
  refine lM h ?_
  simp
theorem Block.out{w:ä}{x:Block}(h:Sep No J [A4 [.slice A1 x.Bytes.length C1] x.Bytes U] F w)(o:x.Ok):Res J w [.int .i64 x.Stamp,.slice A1 x.Bytes.length C1] x:=
  ⟨_,Block.own_mk o (h.A4 0 rfl),AL,λb hb=>(h.new b AH).resolve_left id⟩
theorem JR{w:ä}:own ã w [.int .i64 0,.slice ç 0 0] (à:Block) []:=lM (Block.own_mk (x:=(à:Block)) (show Ak 0 by unfold Ak;omega) (.inr (.inl ⟨rfl,rfl,rfl⟩))) (by first|rfl|simp)
structure Drive where
  Au:Bool
  Ai:List Block
instance:Rp Drive:=Rp.via λx=>(x.Au,x.Ai)
instance:Inhabited Drive:=⟨⟨â,[]⟩⟩
def Drive.val (x:Drive) (A:Option ô) (C:Nat):è := .agg #[.bool x.Au,.slice A x.Ai.length C]
def Drive.Ok (x:Drive):Prop:=True
theorem iS{s w c}{x:Drive}{f}(h:own s w c x f):∃(A1:Option ô) (C1:Nat) (U:List Nat) ,c=[.bool x.Au,.slice A1 x.Ai.length C1]/\f=U/\x.Ok/\own s w [.slice A1 x.Ai.length C1] x.Ai U:=by
  obtain⟨_,_,_,_,rfl,e,H,k0⟩:=dw h
  obtain⟨rfl,rfl⟩:=H
  obtain⟨A1,C1,rfl⟩:=aL k0
  exact⟨A1,C1,_,rfl,qL,trivial,k0⟩
theorem Drive.own_mk{w:ä}{x:Drive}(O:x.Ok)(o:own s w [.slice A1 x.Ai.length C1] x.Ai U):own s w [.bool x.Au,.slice A1 x.Ai.length C1] x (U):=by
  have h:own s w _ (x.Au,x.Ai) _:=(ew xU o)
  refine lM h ?_
  simp
theorem Drive.out{w:ä}{x:Drive}(h:Sep No J [A4 [.slice A1 x.Ai.length C1] x.Ai U] F w)(o:x.Ok):Res J w [.bool x.Au,.slice A1 x.Ai.length C1] x:=
  ⟨_,Drive.own_mk o (h.A4 0 rfl),AL,λb hb=>(h.new b AH).resolve_left id⟩
theorem Kc{w:ä}:own ã w [.bool â,.slice ç 0 0] (à:Drive) []:=lM (Drive.own_mk (x:=(à:Drive)) trivial (.inr (.inl ⟨rfl,rfl,rfl⟩))) (by first|rfl|simp)
structure Tape where
  Au:Bool
  Ah:List Rec
instance:Rp Tape:=Rp.via λx=>(x.Au,x.Ah)
instance:Inhabited Tape:=⟨⟨â,[]⟩⟩
def Tape.val (x:Tape) (A:Option ô) (C:Nat):è := .agg #[.bool x.Au,.slice A x.Ah.length C]
def Tape.Ok (x:Tape):Prop:=True
theorem fd{s w c}{x:Tape}{f}(h:own s w c x f):∃(A1:Option ô) (C1:Nat) (U:List Nat) ,c=[.bool x.Au,.slice A1 x.Ah.length C1]/\f=U/\x.Ok/\own s w [.slice A1 x.Ah.length C1] x.Ah U:=by
  obtain⟨_,_,_,_,rfl,e,H,k0⟩:=dw h
  obtain⟨rfl,rfl⟩:=H
  obtain⟨A1,C1,rfl⟩:=aL k0
  exact⟨A1,C1,_,rfl,qL,trivial,k0⟩
theorem Tape.own_mk{w:ä}{x:Tape}(O:x.Ok)(o:own s w [.slice A1 x.Ah.length C1] x.Ah U):own s w [.bool x.Au,.slice A1 x.Ah.length C1] x (U):=by
  have h:own s w _ (x.Au,x.Ah) _:=(ew xU o)
  refine lM h ?_
  simp
theorem u7{w:ä}:own ã w [.bool â,.slice ç 0 0] (à:Tape) []:=lM (Tape.own_mk (x:=(à:Tape)) trivial (.inr (.inl ⟨rfl,rfl,rfl⟩))) (by first|rfl|simp)
structure Wld where
  A0:A0
  A2:List (List Drive)
  On:List Int
  A3:List Tape
  Aa:Int
  Stop:Int
  Down:Bool
instance:Rp Wld:=Rp.via λx=>(x.A0,x.A2,x.On,x.A3,x.Aa,x.Stop,x.Down)
def Wld.val (x:Wld) (b:Option ô) (d:Nat) (A:Option ô) (C:Nat) (a:Option ô) (c:Nat):è := .agg #[.int .i64 x.A0.A2,.int .i64 x.A0.A5,.int .i64 x.A0.Data,.int .i64 x.A0.Af,.int .i64 x.A0.Rows,.int .i64 x.A0.Cap,.int .i64 x.A0.An,.int .i64 x.A0.Ao,.int .i64 x.A0.Ap,.slice b x.A2.length d,.slice A x.On.length C,.slice a x.A3.length c,.int .i64 x.Aa,.int .i64 x.Stop,.bool x.Down]
def Wld.Ok (x:Wld):Prop:=x.A0.Ok/\Ak x.Aa/\Ak x.Stop
theorem LC{s w c}{x:Wld}{f}(h:own s w c x f):∃(A9:Option ô) (C9:Nat) (b_:Option ô) (d_:Nat) (c_:Option ô) (e_:Nat) (f9:List Nat) (X:List Nat) (Y:List Nat) ,c=[.int .i64 x.A0.A2,.int .i64 x.A0.A5,.int .i64 x.A0.Data,.int .i64 x.A0.Af,.int .i64 x.A0.Rows,.int .i64 x.A0.Cap,.int .i64 x.A0.An,.int .i64 x.A0.Ao,.int .i64 x.A0.Ap,.slice A9 x.A2.length C9,.slice b_ x.On.length d_,.slice c_ x.A3.length e_,.int .i64 x.Aa,.int .i64 x.Stop,.bool x.Down]/\f=f9++(X++(Y))/\x.Ok/\own s w [.slice A9 x.A2.length C9] x.A2 f9/\own s w [.slice b_ x.On.length d_] x.On X/\own s w [.slice c_ x.A3.length e_] x.A3 Y:=by
  obtain⟨_,_,_,_,rfl,E,d,k0⟩:=dw h
  obtain⟨rfl,rfl,i⟩:=FD d
  obtain⟨_,_,_,_,rfl,o,H,k⟩:=dw k0
  obtain⟨A9,C9,rfl⟩:=aL H
  obtain⟨_,_,_,_,rfl,p,a,K⟩:=dw k
  obtain⟨b_,d_,rfl⟩:=aL a
  obtain⟨_,_,_,_,rfl,q,b,l⟩:=dw K
  obtain⟨c_,e_,rfl⟩:=aL b
  obtain⟨_,_,_,_,rfl,r,e,m⟩:=dw l
  obtain⟨rfl,rfl,I⟩:=gj e
  obtain⟨_,_,_,_,rfl,t,g,n⟩:=dw m
  obtain⟨rfl,rfl,j⟩:=gj g
  obtain⟨rfl,rfl⟩:=n
  exact⟨A9,C9,b_,d_,c_,e_,_,_,_,rfl,qL,⟨i,I,j⟩,H,a,b⟩
theorem l5{s w b d A C a c}{x:Wld}{f}(h:own s w [.int .i64 x.A0.A2,.int .i64 x.A0.A5,.int .i64 x.A0.Data,.int .i64 x.A0.Af,.int .i64 x.A0.Rows,.int .i64 x.A0.Cap,.int .i64 x.A0.An,.int .i64 x.A0.Ao,.int .i64 x.A0.Ap,.slice b x.A2.length d,.slice A x.On.length C,.slice a x.A3.length c,.int .i64 x.Aa,.int .i64 x.Stop,.bool x.Down] x f):∃(f9:List Nat) (X:List Nat) (Y:List Nat),f=f9++(X++(Y))/\x.Ok/\own s w [.slice b x.A2.length d] x.A2 f9/\own s w [.slice A x.On.length C] x.On X/\own s w [.slice a x.A3.length c] x.A3 Y:=by
  obtain⟨_,_,_,_,_,_,f9,X,Y,e,E,k,g,o,O⟩:=LC h
  obtain⟨⟨rfl,rfl⟩,⟨rfl,rfl⟩,⟨rfl,rfl⟩⟩:=e
  exact⟨f9,X,Y,E,k,g,o,O⟩
theorem Wld.own_mk{w:ä}{x:Wld}(k:x.Ok)(b:own s w [.slice A9 x.A2.length C9] x.A2 f9)(o:own s w [.slice b_ x.On.length d_] x.On X)(O:own s w [.slice c_ x.A3.length e_] x.A3 Y):own s w [.int .i64 x.A0.A2,.int .i64 x.A0.A5,.int .i64 x.A0.Data,.int .i64 x.A0.Af,.int .i64 x.A0.Rows,.int .i64 x.A0.Cap,.int .i64 x.A0.An,.int .i64 x.A0.Ao,.int .i64 x.A0.Ap,.slice A9 x.A2.length C9,.slice b_ x.On.length d_,.slice c_ x.A3.length e_,.int .i64 x.Aa,.int .i64 x.Stop,.bool x.Down] x (f9++(X++(Y))):=by
  obtain⟨i,I,a⟩:=k
  have h:own s w _ (x.A0,x.A2,x.On,x.A3,x.Aa,x.Stop,x.Down) _:=(ew (A0.own_mk i) (ew b (ew o (ew O (ew (gU I) (ew (gU a) xU))))))
  refine lM h ?_
  simp
theorem Wld.out{w:ä}{x:Wld}(h:Sep No J [A4 [.slice A9 x.A2.length C9] x.A2 f9,A4 [.slice b_ x.On.length d_] x.On X,A4 [.slice c_ x.A3.length e_] x.A3 Y] F w)(o:x.Ok):Res J w [.int .i64 x.A0.A2,.int .i64 x.A0.A5,.int .i64 x.A0.Data,.int .i64 x.A0.Af,.int .i64 x.A0.Rows,.int .i64 x.A0.Cap,.int .i64 x.A0.An,.int .i64 x.A0.Ao,.int .i64 x.A0.Ap,.slice A9 x.A2.length C9,.slice b_ x.On.length d_,.slice c_ x.A3.length e_,.int .i64 x.Aa,.int .i64 x.Stop,.bool x.Down] x:=
  ⟨_,Wld.own_mk o (h.A4 0 rfl) (h.A4 1 rfl) (h.A4 2 rfl),AL,λb hb=>(h.new b AH).resolve_left id⟩
structure WldResult where
  Code:Int
  Wd:Wld
instance:Rp WldResult:=Rp.via λx=>(x.Code,x.Wd)
def WldResult.val (x:WldResult) (A:Option ô) (C:Nat) (a:Option ô) (c:Nat) (b:Option ô) (d:Nat):è := .agg #[.int .i64 x.Code,.int .i64 x.Wd.A0.A2,.int .i64 x.Wd.A0.A5,.int .i64 x.Wd.A0.Data,.int .i64 x.Wd.A0.Af,.int .i64 x.Wd.A0.Rows,.int .i64 x.Wd.A0.Cap,.int .i64 x.Wd.A0.An,.int .i64 x.Wd.A0.Ao,.int .i64 x.Wd.A0.Ap,.slice A x.Wd.A2.length C,.slice a x.Wd.On.length c,.slice b x.Wd.A3.length d,.int .i64 x.Wd.Aa,.int .i64 x.Wd.Stop,.bool x.Wd.Down]
def WldResult.Ok (x:WldResult):Prop:=Ak x.Code/\x.Wd.Ok
theorem Er{s w c}{x:WldResult}{f}(h:own s w c x f):∃(b_:Option ô) (d_:Nat) (c_:Option ô) (e_:Nat) (h_:Option ô) (i_:Nat) (X:List Nat) (Y:List Nat) (g_:List Nat) ,c=[.int .i64 x.Code,.int .i64 x.Wd.A0.A2,.int .i64 x.Wd.A0.A5,.int .i64 x.Wd.A0.Data,.int .i64 x.Wd.A0.Af,.int .i64 x.Wd.A0.Rows,.int .i64 x.Wd.A0.Cap,.int .i64 x.Wd.A0.An,.int .i64 x.Wd.A0.Ao,.int .i64 x.Wd.A0.Ap,.slice b_ x.Wd.A2.length d_,.slice c_ x.Wd.On.length e_,.slice h_ x.Wd.A3.length i_,.int .i64 x.Wd.Aa,.int .i64 x.Wd.Stop,.bool x.Wd.Down]/\f=X++(Y++(g_))/\x.Ok/\own s w [.slice b_ x.Wd.A2.length d_] x.Wd.A2 X/\own s w [.slice c_ x.Wd.On.length e_] x.Wd.On Y/\own s w [.slice h_ x.Wd.A3.length i_] x.Wd.A3 g_:=by
  obtain⟨_,_,_,_,rfl,e,H,k0⟩:=dw h
  obtain⟨rfl,rfl,i⟩:=gj H
  obtain⟨b_,d_,c_,e_,h_,i_,g,G,b,rfl,rfl,I,o,O,a⟩:=LC k0
  exact⟨b_,d_,c_,e_,h_,i_,_,_,_,rfl,qL,⟨i,I⟩,o,O,a⟩
theorem iC{s w A C a c b d}{x:WldResult}{f}(h:own s w [.int .i64 x.Code,.int .i64 x.Wd.A0.A2,.int .i64 x.Wd.A0.A5,.int .i64 x.Wd.A0.Data,.int .i64 x.Wd.A0.Af,.int .i64 x.Wd.A0.Rows,.int .i64 x.Wd.A0.Cap,.int .i64 x.Wd.A0.An,.int .i64 x.Wd.A0.Ao,.int .i64 x.Wd.A0.Ap,.slice A x.Wd.A2.length C,.slice a x.Wd.On.length c,.slice b x.Wd.A3.length d,.int .i64 x.Wd.Aa,.int .i64 x.Wd.Stop,.bool x.Wd.Down] x f):∃(X:List Nat) (Y:List Nat) (g_:List Nat),f=X++(Y++(g_))/\x.Ok/\own s w [.slice A x.Wd.A2.length C] x.Wd.A2 X/\own s w [.slice a x.Wd.On.length c] x.Wd.On Y/\own s w [.slice b x.Wd.A3.length d] x.Wd.A3 g_:=by
  obtain⟨_,_,_,_,_,_,X,Y,g_,e,E,k,o,O,g⟩:=Er h
  obtain⟨⟨rfl,rfl⟩,⟨rfl,rfl⟩,⟨rfl,rfl⟩⟩:=e
  exact⟨X,Y,g_,E,k,o,O,g⟩
theorem WldResult.own_mk{w:ä}{x:WldResult}(k:x.Ok)(o:own s w [.slice b_ x.Wd.A2.length d_] x.Wd.A2 X)(O:own s w [.slice c_ x.Wd.On.length e_] x.Wd.On Y)(a:own s w [.slice h_ x.Wd.A3.length i_] x.Wd.A3 g_):own s w [.int .i64 x.Code,.int .i64 x.Wd.A0.A2,.int .i64 x.Wd.A0.A5,.int .i64 x.Wd.A0.Data,.int .i64 x.Wd.A0.Af,.int .i64 x.Wd.A0.Rows,.int .i64 x.Wd.A0.Cap,.int .i64 x.Wd.A0.An,.int .i64 x.Wd.A0.Ao,.int .i64 x.Wd.A0.Ap,.slice b_ x.Wd.A2.length d_,.slice c_ x.Wd.On.length e_,.slice h_ x.Wd.A3.length i_,.int .i64 x.Wd.Aa,.int .i64 x.Wd.Stop,.bool x.Wd.Down] x (X++(Y++(g_))):=by
  obtain⟨i,I⟩:=k
  have h:=(ew (gU i) (Wld.own_mk I o O a))
  refine lM h ?_
  simp
theorem WldResult.out{w:ä}{x:WldResult}(h:Sep No J [A4 [.slice b_ x.Wd.A2.length d_] x.Wd.A2 X,A4 [.slice c_ x.Wd.On.length e_] x.Wd.On Y,A4 [.slice h_ x.Wd.A3.length i_] x.Wd.A3 g_] F w)(o:x.Ok):Res J w [.int .i64 x.Code,.int .i64 x.Wd.A0.A2,.int .i64 x.Wd.A0.A5,.int .i64 x.Wd.A0.Data,.int .i64 x.Wd.A0.Af,.int .i64 x.Wd.A0.Rows,.int .i64 x.Wd.A0.Cap,.int .i64 x.Wd.A0.An,.int .i64 x.Wd.A0.Ao,.int .i64 x.Wd.A0.Ap,.slice b_ x.Wd.A2.length d_,.slice c_ x.Wd.On.length e_,.slice h_ x.Wd.A3.length i_,.int .i64 x.Wd.Aa,.int .i64 x.Wd.Stop,.bool x.Wd.Down] x:=
  ⟨_,WldResult.own_mk o (h.A4 0 rfl) (h.A4 1 rfl) (h.A4 2 rfl),AL,λb hb=>(h.new b AH).resolve_left id⟩
structure IntResult where
  Code:Int
  Val:Int
def IntResult.val (x:IntResult):è := .agg #[.int .i64 x.Code,.int .i64 x.Val]
structure IntsResult where
  Code:Int
  Lst:List Int
abbrev ag (x:Int):è := .int .i64 x
abbrev au (b:Nat):è := .pointer (á ⟨b,0,ç⟩)
abbrev ax (b:Nat):Option ô:=á ⟨b,0,ç⟩
abbrev ak {b:Type _}(a:Option ô) (x:List b) (c:Nat):è := .slice a x.length c
abbrev an {a:Type _}(b:Nat) (x:List a):è := .slice (á ⟨b,0,ç⟩) x.length x.length
abbrev aj {b:Type}[Rp b] (w:ä) (a:Option ô) (x:List b) (c:Nat):Prop:=Ag w [.slice a x.length c] x
abbrev ah {b:Type}[Rp b] (w:ä) (a:Option ô) (x:List b) (c:Nat) (f:List Nat):Prop:=Rp.own â w [.slice a x.length c] x f
abbrev am (f:Nat) (a:List è) (w:ä) (R:è->ä->Prop):Prop:=Ret ê f a.toArray w λv w'=>Ext No w w'/\R v w'
abbrev ay (z:Wld) (c:Option ô) (f:Nat) (a:Option ô) (d:Nat) (b:Option ô) (e:Nat):Obj := .cells [.int .i64 z.A0.A2,.int .i64 z.A0.A5,.int .i64 z.A0.Data,.int .i64 z.A0.Af,.int .i64 z.A0.Rows,.int .i64 z.A0.Cap,.int .i64 z.A0.An,.int .i64 z.A0.Ao,.int .i64 z.A0.Ap,.slice c z.A2.length f,.slice a z.On.length d,.slice b z.A3.length e,.int .i64 z.Aa,.int .i64 z.Stop,.bool z.Down].toArray 31
abbrev aA (r:Rec) (R:Option ô) (c:Nat) (a:Option ô) (d:Nat) (b:Option ô) (e:Nat):Obj := .cells [.int .i64 r.Kind,.int .i64 r.Seq,.string r.Name,.int .i64 r.Length,.int .i64 r.Group,.int .i64 r.Row,.slice R r.Rows.length c,.slice a r.Data.length d,.slice b r.Ad.length e].toArray 76
abbrev az (c:Option ô) (e:List UInt8) (C:Nat) (t:Int):Obj := .cells [.slice c e.length C,.int .i64 t].toArray 85
abbrev ao:Obj := .cells [.int .i64 0,.int .i64 0,.int .i64 0,.int .i64 0,.int .i64 0,.int .i64 0,.int .i64 0,.int .i64 0,.int .i64 0,.slice ç 0 0,.slice ç 0 0,.slice ç 0 0,.int .i64 0,.int .i64 0,.bool â].toArray 31
theorem Sep.Bd{w:ä}(h:Sep M J A F w)(j:Nat){b:Nat}(H:F[j]? = á (Wk.box b o)):w.heap[b]? = á o:=h.fs _ (æ H)
theorem Sep.foff{w:ä}(h:Sep M J A F w)(j:Nat){b:Nat}(c:F[j]? = á (Wk.box b o))(i:Nat){r:Rsc}(a:A[i]? = á r)(H:r.fp=fp):b ∉ fp:=λm=>
  h.ap _ (æ c) b iQ (cG.2 ⟨r,æ a,H ▸ m⟩)
theorem Ext.atM{w:ä}(h:Ext M w w'){b o:Nat}{c:List è}(m:¬ M b)(H:At w b o c):At w' b o c:=λj v a=>h.cellM m (H j v a)
theorem cR{a:Type}[Rp a][Inhabited a]{s w A n C}{x:List a}{F}(h:own s w [.slice A n C] x F)(k:Nat)(H:k<x.length):
    ∃b o c f,A=á ⟨b,o,ç⟩/\At w b (o+k*sz a) c/\own s w c (x.getD k à) f/\(∀b∈f,b∈F)/\b∈F:=by
  obtain⟨b,o,c,f,d,e,g,i,j⟩:=gh h k H
  rw[show x.getD k à=x[k] from by simp[H]]
  exact⟨b,o,c,f,d,e,g,i,j⟩
section
variable {w:ä}{a:Type}[Rp a]
theorem Pb{r:List ą}{t:ì}{x y:Â}{b o:Nat}{v:List è}{l:Nat}{X:List a}{u:a}(K:Wn C n L ⟨ç,.store t x y,ty,p,af,g⟩)(G:∀w,(sizeOf t).run P w = .ok (sz a) w)
    (H:Sep M J A F w) (i j:Nat) (s:A[i]? = á (A4 [.slice ad l O] X fp)) (h:A[j]? = á (A4 v u fu)) (z:î j i=â) (q:Nat) (D:q<X.length) (N:evL L x=á (.pointer (á ⟨b,o+q*sz a,ç⟩))) (d:ad=á ⟨b,o,ç⟩) (R:evL L y=á (.agg v.toArray))
    (k:∀w' f,Sep M J ((A.set j gone).set i (A4 [.slice ad l O] (X.set q u) f)) F w'->RL P n C Q r L w') :
    RL P n C Q (⟨ç,.store t x y,ty,p,af,g⟩::r) L w:=by
  obtain⟨S,o',E,T,f,e,c,I,B⟩:=H.elset2 i j s h z q D
  rw[d] at e
  obtain⟨rfl,rfl⟩:=e
  have m:=H.A4 j h
  exact GW K rfl (o4 G N R (Rp.len m) (Rp.one m) c I) (k _ f B)
theorem l8{t:ì}{x y:Â}{b o:Nat}{v:List è}{c:Nat}{X:List a}{u:a}(D:C.toList[l]? = á ⟨ç,.store t x y,ty,p,af,g⟩)(R:Wn C n L ⟨ç,.store t x y,ty,p,af,g⟩)(K:∀w,(sizeOf t).run P w = .ok (sz a) w)
    (H:Sep M J A F w) (i j:Nat) (s:A[i]? = á (A4 [.slice ad c O] X fp)) (h:A[j]? = á (A4 v u fu)) (z:î j i=â) (q:Nat) (G:q<X.length) (U:evL L x=á (.pointer (á ⟨b,o+q*sz a,ç⟩))) (d:ad=á ⟨b,o,ç⟩) (V:evL L y=á (.agg v.toArray))
    (k:∀w' f,Sep M J ((A.set j gone).set i (A4 [.slice ad c O] (X.set q u) f)) F w'->DL P n C Q S [] L w') :
    DL P n C Q S [(l,â)] L w:=by
  obtain⟨W,o',E,T,f,e,r,N,B⟩:=H.elset2 i j s h z q G
  rw[d] at e
  obtain⟨rfl,rfl⟩:=e
  have m:=H.A4 j h
  exact G5 D R rfl (o4 K U V (Rp.len m) (Rp.one m) r N) (λ_ I=>absurd rfl I) (k _ f B)
end
def szL {a:Type}[Inhabited a] (f:a->Nat) (x:List a):Nat:=x.length+my (λi=>f (x.getD i à)) x.length
theorem lr{a:Type}[Inhabited a]{f:a->Nat}{x:List a}(h:szL f x<=m)(k:Nat)(b:k<x.length):f (x.getD k à)<=m/\x.length<=m:=by
  have:my (λi=>f _) (k+1)<=my (λi=>f (x.getD i à)) x.length:=LH ω
  have H:my (λi=>f (x.getD i à)) (k+1)=my (λi=>f (x.getD i à)) k+f (x.getD k à):=rfl
  unfold szL at h
  omega
def fH (x:Rec):Nat:=x.Name.size+x.Rows.length+x.Data.length+x.Ad.length
def yw (x:Block):Nat:=x.Bytes.length
def kc (x:Drive):Nat:=szL yw x.Ai
def ou (x:Tape):Nat:=szL fH x.Ah
def fY (x:Wld):Nat:=szL (szL kc) x.A2+x.On.length+szL ou x.A3
def mkL {a:Type}[Inhabited a] (f:a->Nat) (x:List a):Nat:=my (λi=>f (x.getD i à)) x.length
def AZ (x:Rec):Nat:=6+x.Rows.length+x.Data.length+x.Ad.length
def Ry (x:Block):Nat:=1+x.Bytes.length
def SE (x:Drive):Nat:=1+mkL Ry x.Ai
def C0 (x:Tape):Nat:=1+mkL AZ x.Ah
def qD (x:Wld):Nat:=mkL (mkL SE) x.A2+x.On.length+mkL C0 x.A3
def apartAt (x:List Int) (m:Int) (i:Nat):Bool:=ins (x.getD i 0) 0 m && !decide (x.getD i 0∈x.take i)
def apartL (x:List Int) (m:Int):Bool:=(õ x.length).all (apartAt x m)
theorem jn{p:Nat->Bool}(h:∀i,i<n->p i=ã):(õ n).all p=true:=by
  rw[û];exact λi hi=>h i uq
theorem nH{p:Nat->Bool}(h:(õ n).all p=ã)(i:Nat)(hi:i<n):p i=true:=by
  rw[û] at h;exact h i uq
theorem sG{p:Nat->Bool}(i:Nat)(H:i<n)(h:p i=â):(õ n).all p=false:=by
  cases r:(õ n).all p with
  | false=>rfl
  | true=>rw[nH r i H] at h;cases h
def dd (s:A0) (l:Int):Int:=(l-1).tdiv (s.Data*4)+1
def dL (s:A0) (l:Int):Int:=if l<1 then 6 else if 3*(s.Data*4)<l then 2 else 0
def fZ (s:A0) (r:Rec):Bool:=
  if r.Length = -1 then decide (r.Data.length=0) && decide (r.Rows.length=0)
  else decide (dL s r.Length=0) && if 0<r.Data.length then decide ((r.Data.length:Int)=r.Length) && decide (r.Rows.length=0) else decide ((r.Rows.length:Int)=dd s r.Length) && apartL r.Rows (s.Rows-1)
def weightsOK (s:A0) (r:Rec):Bool:=
  decide ((r.Ad.length:Int)=s.A2+s.A5) && decide (((r.Ad.getD r.Group.toNat 0).toNat:Int)=0) && (õ r.Rows.length).all λi=>decide (¬ ((r.Ad.getD (r.Rows.getD i 0).toNat 0).toNat:Int)=0)
def gT (s:A0) (r:Rec):Bool:=
  ins r.Group 0 (s.A2+s.A5-1) && ins r.Row 0 (s.Rows-1) && rises r.Rows (s.A2+s.A5-1) && decide ((r.Data.length:Int)=s.Data*4) && weightsOK s r
def mv (s:A0) (r:Rec):Bool:=ins r.Group 0 (s.A2-1) && ins r.Row 0 (s.Rows-1) && decide ((r.Data.length:Int)=s.Data*4) && decide ((r.Ad.length:Int)=s.Data*4)
def noName (r:Rec):Bool:=decide (r.Name=⟨#[]⟩)
def bareOK (r:Rec):Bool:=
  if r.Kind=1 then decide (r.Group=0) && decide (r.Row=0) && decide (r.Ad.length=0)
  else if r.Kind=2 then noName r && decide (r.Length=0) && decide (r.Rows.length=0)
  else if r.Kind=3 then noName r && decide (r.Length=0) && decide (r.Row=0) && decide (r.Rows.length=0) && decide (r.Data.length=0) && decide (r.Ad.length=0)
  else noName r && decide (r.Length=0)
def fm (s:A0) (r:Rec):Int:=
  if r.Kind=1 then if bU r.Name≠0 then bU r.Name else if fZ s r then 0 else 3
  else if r.Kind=2 then if mv s r then 0 else 3
  else if r.Kind=3 then if ins r.Group 0 (s.A2+s.A5-1) then 0 else 3
  else if gT s r then 0 else 3
def recF (s:A0) (r:Rec):Int:=
  if ins r.Kind 1 4 then if ins r.Seq 1 1000000000 then if fm s r≠0 then fm s r else if bareOK r then 0 else 1 else 3 else 5
def gK (b:Block):Bool:=ins b.Stamp 0 1000000000 && decide (b.Bytes.length=4)
def fK (s:A0) (d:Drive):Bool:=decide ((d.Ai.length:Int)=s.Rows) && (õ d.Ai.length).all λi=>gK (d.Ai.getD i à)
def iK (s:A0) (g:List Drive):Bool:=decide ((g.length:Int)=s.Data+s.Af) && (õ g.length).all λi=>fK s (g.getD i à)
def b7 (w:Wld):Bool:=decide ((w.A2.length:Int)=w.A0.A2+w.A0.A5) && (õ w.A2.length).all λi=>iK w.A0 (w.A2.getD i [])
def rm (w:Wld):Bool:=apartL w.On (w.A0.A2+w.A0.A5-1) && decide ((w.On.length:Int)<=w.A0.Cap) && (decide (w.On.length=0) || !w.Down)
def ij (s:A0) (r:List Rec):Nat->Int
  | 0=>0
  | k+1=>if ij s r k≠0 then ij s r k else recF s (r.getD k à)
def gV (s:A0) (t:List Tape):Nat->Int
  | 0=>0
  | k+1=>if gV s t k≠0 then gV s t k else ij s (t.getD k à).Ah (t.getD k à).Ah.length
def fT (t:Tape):Bool:=decide ((200:Int)<t.Ah.length)
def fa (t:Tape):Bool:=t.Au && decide ((0:Int)<t.Ah.length)
def il (w:Wld):Int:=
  if w.A3.any fT then 2 else if gV w.A0 w.A3 w.A3.length≠0 then gV w.A0 w.A3 w.A3.length else if w.A3.any fa then 1 else 0
def c7 (w:Wld):Int:=
  if w.A0.fault≠0 then w.A0.fault
  else if b7 w && rm w && decide (w.A3.length=2) then if il w≠0 then il w else if ins w.Aa 0 1000000000 && ins w.Stop (-1) 1000000000 then 0 else 3
  else 1
section
variable {s:A0}{a:Int}
theorem EG(H:1<=s.Data/\s.Data<=3)(h:1<=a):3<(a-1).tdiv (s.Data*4)+1↔3*(s.Data*4)<a:=by
  rw[Ċ ω]
  have:s.Data=1\/s.Data=2\/s.Data=3:=by omega
  rcases this with e|e|e<;>rw[e]<;>omega
theorem EE(H:1<=s.Data/\s.Data<=3)(h:1<=a):(a+s.Data*4-1).tdiv (s.Data*4)=dd s a:=by
  rw[dd,Ċ ω,Ċ ω]
  have:s.Data=1\/s.Data=2\/s.Data=3:=by omega
  rcases this with e|e|e<;>rw[e]<;>omega
theorem Jb(H:1<=s.Data/\s.Data<=3)(h:1<=a):0<=(a-1).tdiv (s.Data*4)/\(a-1).tdiv (s.Data*4)<a:=by
  rw[Ċ ω]
  have:s.Data=1\/s.Data=2\/s.Data=3:=by omega
  rcases this with e|e|e<;>rw[e]<;>omega
def oB (s:A0) (l:Int):Int:=if dL s l=0 then dd s l else 0
theorem H0(h:a<1):dL s a=6/\oB s a=0:=by
  have:dL s a=6:=by rw[dL,ae h]
  exact⟨this,by rw[oB,this];rfl⟩
theorem FM(h:¬ a<1)(H:3*(s.Data*4)<a):dL s a=2/\oB s a=0:=by
  have:dL s a=2:=by rw[dL,ac h,ae H]
  exact⟨this,by rw[oB,this];rfl⟩
theorem LJ(h:¬ a<1)(H:¬ 3*(s.Data*4)<a):dL s a=0/\oB s a=dd s a:=by
  have:dL s a=0:=by rw[dL,ac h,ac H]
  exact⟨this,by rw[oB,ae this]⟩
theorem fV(h:dL s a=0):1<=a/\¬ 3*(s.Data*4)<a:=by
  unfold dL at h
  split at h
  · cases h
  · split at h
    · cases h
    · exact⟨ω,ω⟩
end
theorem r7{p:Nat->Bool}:(õ (n+1)).all p=((õ n).all p && p n):=by
  rw[č];simp
theorem ky{a:Type}{x:List a}:cut x 0 i=x.take i:=by simp[cut]
theorem pE{s:A0}{r:List Rec}(h:ij s r j≠0):∀m,j<=m->ij s r m=ij s r j:=by
  intro m H
  induction m with
  | zero=>rw[show j=0 by omega]
  | succ m i=>
    by_cases e:j=m+1
    · rw[e]
    · have i:=i ω
      rw[ij,ae (by rw[i];exact h),i]
theorem kG{s:A0}{r:List Rec}(h:ij s r j=0):ij s r (j+1)=recF s (r.getD j à):=by rw[ij,ac ω]
theorem NS{s:A0}{r:List Rec}(a:j<r.length)(h:ij s r j=0)(H:recF s (r.getD j à)≠0):ij s r r.length=recF s (r.getD j à):=by
  have e:=kG h
  rw[pE (by rw[e];exact H) _ ω,e]
theorem py{s:A0}{t:List Tape}(h:gV s t j≠0):∀m,j<=m->gV s t m=gV s t j:=by
  intro m H
  induction m with
  | zero=>rw[show j=0 by omega]
  | succ m i=>
    by_cases e:j=m+1
    · rw[e]
    · have i:=i ω
      rw[gV,ae (by rw[i];exact h),i]
theorem ks{s:A0}{t:List Tape}(h:gV s t j=0):gV s t (j+1)=ij s (t.getD j à).Ah (t.getD j à).Ah.length:=by rw[gV,ac ω]
theorem NL{s:A0}{t:List Tape}(c:j<t.length)(h:gV s t j=0)(b:i<(t.getD j à).Ah.length)(a:ij s (t.getD j à).Ah i=0)(H:recF s ((t.getD j à).Ah.getD i à)≠0):
    gV s t t.length=recF s ((t.getD j à).Ah.getD i à):=by
  have e:=ks h
  rw[NS b a H] at e
  rw[py (by rw[e];exact H) _ ω,e]
theorem G6{a:Type}[Inhabited a]{x:List a}{p:a->Bool}(k:Nat)(H:k<x.length)(h:p (x.getD k à)=ã):x.any p=true:=by
  rw[ī]
  exact⟨x[k],bx H,by simpa[H] using h⟩
theorem CP{a:Type}[Inhabited a]{X:List a}{p:a->Bool}(h:∀i,i<X.length->p (X.getD i à)=â):X.any p=false:=by
  rw[ē]
  intro x b
  obtain⟨i,H,rfl⟩:=ð b
  have:=h i H
  simpa[H] using this
def upF (w:Wld):Int:=if c7 w≠0 then c7 w else if w.Down=ã then 9 else 0
def jk (w:Wld) (g:Int):Int:=if ins g 0 (w.A0.A2+w.A0.A5-1)=ã then if g∈w.On then 0 else 8 else 3
def Ub (w:Wld) (g r:Int):Int:=if ins g 0 (w.A0.A2+w.A0.A5-1)=ã/\ins r 0 (w.A0.Rows-1)=â then 3 else jk w g
def wS (w:Wld) (g r:Int):Int:=if upF w≠0 then upF w else Ub w g r
theorem c5{w:Wld}(h:c7 w=0):w.A0.ok=ã/\b7 w=ã/\rm w=ã/\w.A3.length=2/\il w=0:=by
  unfold c7 at h
  split at h
  · rename_i a;exact absurd h a
  · have c:=gS (s:=w.A0) ω
    split at h
    · rename_i H
      simp at H
      split at h
      · rename_i b;exact absurd h b
      · exact⟨c,H.1.1,H.1.2,H.2,ω⟩
    · cases h
theorem uL{w:Wld}(h:upF w=0):c7 w=0/\w.Down=false:=by
  unfold upF at h
  split at h
  · rename_i H;exact absurd h H
  · split at h
    · cases h
    · rename_i H h2
      exact⟨ω,sr⟩
theorem fI{w:Wld}(h:b7 w=ã):(w.A2.length:Int)=w.A0.A2+w.A0.A5/\∀g,g<w.A2.length->((w.A2.getD g []).length:Int)=w.A0.Data+w.A0.Af /\
    ∀d,d<(w.A2.getD g []).length->((((w.A2.getD g []).getD d à).Ai.length:Int)=w.A0.Rows) /\
      ∀i,i<((w.A2.getD g []).getD d à).Ai.length->gK (((w.A2.getD g []).getD d à).Ai.getD i à)=true:=by
  simp only[b7,aP,ab] at h
  refine⟨h.1,λg c=>?_⟩
  have H:=nH h.2 g c
  simp only[iK,aP,ab] at H
  refine⟨H.1,λd b=>?_⟩
  have a:=nH H.2 d b
  simp only[fK,aP,ab] at a
  exact⟨a.1,λi e=>nH a.2 i e⟩
theorem qj{b:Block}(h:gK b=ã):0<=b.Stamp/\b.Stamp<=1000000000/\b.Bytes.length=4:=by
  simp only[gK,aP,bH,ab] at h
  exact⟨h.1.1,h.1.2,h.2⟩
theorem eqB{a b:Bool}(h:a=b):á (ó a)=á (ó b):=by rw[h]
def Bt (s:A0) (r:Rec):Int:=if bU r.Name≠0 then bU r.Name else if fZ s r=ã then 0 else 3
theorem DZ{s r}(h:bU r.Name≠0):Bt s r=bU r.Name:=by rw[Bt,ae h]
theorem uE{s r}(h:¬ bU r.Name≠0)(H:fZ s r=ã):Bt s r=0:=by rw[Bt,ac h,ae H]
theorem r5{s r}(h:¬ bU r.Name≠0)(H:fZ s r=â):Bt s r=3:=by rw[Bt,ac h,ac (by simp[H])]
section
variable {c:Code}{w:ä}
theorem pQ{L:Env}:∀ {A B:Env},sub L A->sub L B->sub L (A++B)
  | [],_,_,h=>h
  | _::_,_,h,k=>⟨h.1,pQ h.2 k⟩
theorem dr{a:Type}(H:Sep M J A F w)(e:Env)(f:sub L e)(E:a->Env)(I:a->Prop)(b:a->Nat)(G:a)(s:sub L (E G))(d:I G)
  (r:∀g w,Sep M J A F w->I g->W P n c (again (λg=>E g++e) (λg w'=>Sep M J A F w'/\I g) b g Q) (E g++e) w):W P n (.loop c) Q L w:=
 cp (λg=>E g++e) (λg w'=>Sep M J A F w'/\I g) b G (pQ s f) ⟨H,d⟩ λg w h=>r g w h.1 h.2
theorem Hc{x y:Code}{b:Type}(H:Sep M J A F w)(e:Env)(c:sub L e)(E:b->Env)(I:b->Prop)
  (h:W P n x (meets (λg=>E g++e) (λg w'=>Sep M J A F w'/\I g) Q) L w)
  (k:∀g w',Sep M J A F w'->I g->W P n y Q (E g++e) w'):W P n (.seq x y) Q L w:=
 tT (λg=>E g++e) (λg w'=>Sep M J A F w'/\I g) h λg w' a=>k g w' a.1 a.2
end
theorem Lz{s:A0}{r:Rec}{a b c d:Bool}(i:r.Length ≠ -1)(h:dL s r.Length=0)(e:a=decide ((r.Data.length:Int)=r.Length))(E:b=decide ((r.Rows.length:Int)=0))
    (f:c=decide ((r.Data.length:Int)=0)) (g:d=decide ((r.Rows.length:Int)=dd s r.Length)):(a && b || (c && d && apartL r.Rows (s.Rows-1)))=fZ s r:=by
  subst e;subst E;subst f;subst g
  have z:=fV h
  rw[fZ,ac i,aU h]
  by_cases H:0<r.Data.length
  · rw[ae H,a8 (by omega:¬ ((r.Data.length:Int)=0))]
    simp
  · rw[ac H,aU (by omega:((r.Data.length:Int)=0)),a8 (by omega:¬ _)]
    simp
theorem Do{s:A0}{r:Rec}(h:r.Length = -1):fZ s r=(decide (r.Data.length=0) && decide (r.Rows.length=0)):=by rw[fZ,ae h]
theorem Fv{s:A0}{r:Rec}(h:r.Length ≠ -1)(H:dL s r.Length≠0):fZ s r=false:=by rw[fZ,ac h,a8 H];rfl
theorem u3{s:A0}{l:Int}(h:dL s l=0):oB s l=dd s l:=by rw[oB,ae h]
def qF (r:Rec):Bool:=noName r && decide (r.Length=0) && decide (r.Group=0) && decide (r.Row=0) && decide (r.Rows.length=0) && decide (r.Data.length=0) && decide (r.Ad.length=0)
def jB (r:Rec):Rec:=
  if r.Kind=1 then⟨r.Kind,r.Seq,r.Name,r.Length,0,0,r.Rows,r.Data,[]⟩
  else if r.Kind=2 then⟨r.Kind,r.Seq,⟨#[]⟩,0,r.Group,r.Row,[],r.Data,r.Ad⟩
  else if r.Kind=3 then⟨r.Kind,r.Seq,⟨#[]⟩,0,r.Group,0,[],[],[]⟩
  else if r.Kind=4 then⟨r.Kind,r.Seq,⟨#[]⟩,0,r.Group,r.Row,r.Rows,r.Data,r.Ad⟩
  else⟨r.Kind,r.Seq,⟨#[]⟩,0,0,0,[],[],[]⟩
theorem DH{r:Rec}(h:1<=r.Kind/\r.Kind<=4):decide (r=jB r)=bareOK r:=by
  obtain⟨k,q,n,l,g,rw,R,d,D⟩:=r
  have:k=1\/k=2\/k=3\/k=4:=by simp only at h;omega
  rcases this with rfl|rfl|rfl|rfl<;>simp[jB,bareOK,noName,Õ]
theorem JE{a b:Rec}:(decide (a.Kind=b.Kind) && (decide (a.Seq=b.Seq) && ((a.Name.toList == b.Name.toList) && (decide (a.Length=b.Length) && (decide (a.Group=b.Group) && (decide (a.Row=b.Row) && (decide (a.Rows=b.Rows) && (decide (a.Data=b.Data) && decide (a.Ad=b.Ad)))))))))=decide (a=b):=by
  obtain⟨k,q,n,l,g,rw,r,d,e⟩:=a
  obtain⟨K,Q,N,L,G,f,R,D,c⟩:=b
  simp[Hb]
theorem Ee{s:A0}{r:Rec}(h:¬ ((r.Ad.getD r.Group.toNat 0).toNat:Int)=0):weightsOK s r=false:=by rw[weightsOK,a8 h];simp
theorem CB{s:A0}{r:Rec}(k:Nat)(H:k<r.Rows.length)(h:((r.Ad.getD (r.Rows.getD k 0).toNat 0).toNat:Int)=0):weightsOK s r=false:=by
  rw[weightsOK,sG k H (by rw[a8 lN])];simp
theorem Ft{s:A0}{r:Rec}(h:(r.Ad.length:Int)=s.A2+s.A5)(H:((r.Ad.getD r.Group.toNat 0).toNat:Int)=0)(a:∀i,i<r.Rows.length->¬ ((r.Ad.getD (r.Rows.getD i 0).toNat 0).toNat:Int)=0):weightsOK s r=true:=by
  rw[weightsOK,aU h,aU H,jn λi b=>aU (a i b)];rfl
theorem Ky{s:A0}{r:Rec}(h:¬ (r.Ad.length:Int)=s.A2+s.A5):weightsOK s r=false:=by rw[weightsOK,a8 h];rfl
theorem wX{s:A0}{r:Rec}(h:r.Length ≠ -1)(H:dL s r.Length=0):fZ s r=if 0<r.Data.length then decide ((r.Data.length:Int)=r.Length) && decide (r.Rows.length=0) else decide ((r.Rows.length:Int)=dd s r.Length) && apartL r.Rows (s.Rows-1):=by
  rw[fZ,ac h,aU H,Þ]
theorem II{a:Type}{d:a}{X:List a}{p:a->Bool}(h:X.any p=ã):∃i,i<X.length/\p (X.getD i d)=true:=by
  rw[ī] at h
  obtain⟨x,c,b⟩:=h
  obtain⟨i,H,rfl⟩:=ð c
  exact⟨i,H,by simpa[H] using b⟩
theorem FR{a:Type}{d:a}{x:List a}{p:a->Bool}(h:x.any p=â)(i:Nat)(H:i<x.length):p (x.getD i d)=false:=by
  rw[ē] at h
  have:=h x[i] (bx H)
  simpa[H] using this
theorem Kd{s:A0}{r:Rec}(h:r.Rows.any (λk=>decide (((r.Ad.getD k.toNat 0).toNat:Int)=0))=ã):weightsOK s r=false:=by
  obtain⟨i,H,h⟩:=II h
  exact CB i H lN
theorem IR{s:A0}{r:Rec}(h:(r.Ad.length:Int)=s.A2+s.A5)(H:((r.Ad.getD r.Group.toNat 0).toNat:Int)=0)(a:r.Rows.any (λk=>decide (((r.Ad.getD k.toNat 0).toNat:Int)=0))=â):weightsOK s r=true:=
  Ft h H λi b=>by simpa using FR a i b
theorem SD{r:Rec}(h:r.Kind=1):jB r=⟨r.Kind,r.Seq,r.Name,r.Length,0,0,r.Rows,r.Data,[]⟩:=by rw[jB,ae h]
theorem RI{r:Rec}(h:¬ r.Kind=1)(H:r.Kind=2):jB r=⟨r.Kind,r.Seq,⟨#[]⟩,0,r.Group,r.Row,[],r.Data,r.Ad⟩:=by rw[jB,ac h,ae H]
theorem Sz{r:Rec}(h:¬ r.Kind=1)(H:¬ r.Kind=2)(a:r.Kind=3):jB r=⟨r.Kind,r.Seq,⟨#[]⟩,0,r.Group,0,[],[],[]⟩:=by rw[jB,ac h,ac H,ae a]
theorem R9{r:Rec}(h:¬ r.Kind=1)(H:¬ r.Kind=2)(a:¬ r.Kind=3)(b:r.Kind=4):jB r=⟨r.Kind,r.Seq,⟨#[]⟩,0,r.Group,r.Row,r.Rows,r.Data,r.Ad⟩:=by rw[jB,ac h,ac H,ac a,ae b]
theorem RJ{r:Rec}(h:¬ r.Kind=1)(H:¬ r.Kind=2)(a:¬ r.Kind=3)(b:¬ r.Kind=4):jB r=⟨r.Kind,r.Seq,⟨#[]⟩,0,0,0,[],[],[]⟩:=by rw[jB,ac h,ac H,ac a,ac b]
theorem Qs{r:Rec}(h:r.Ok):(jB r).Ok:=by
  unfold Rec.Ok Ak at h ⊢
  unfold jB
  have:(⟨#[]⟩:ByteArray).size<=Ë:=ý _
  split
  · simp only;omega
  · split
    · simp only;omega
    · split
      · simp only;omega
      · split
        · simp only;omega
        · simp only;omega
section
variable {s:A0}{r:Rec}
theorem vi(h:ins r.Kind 1 4=â):recF s r=5:=by rw[recF,ac gX]
theorem xJ(h:ins r.Kind 1 4=ã)(H:ins r.Seq 1 1000000000=â):recF s r=3:=by rw[recF,ae h,ac (by simp[H])]
theorem iF(h:ins r.Kind 1 4=ã)(H:ins r.Seq 1 1000000000=ã)(a:fm s r≠0):recF s r=fm s r:=by rw[recF,ae h,ae H,ae a]
theorem oY(h:ins r.Kind 1 4=ã)(H:ins r.Seq 1 1000000000=ã)(b:fm s r=0)(a:bareOK r=â):recF s r=1:=by rw[recF,ae h,ae H,ac ω,ac (by simp[a])]
theorem lA(h:ins r.Kind 1 4=ã)(H:ins r.Seq 1 1000000000=ã)(b:fm s r=0)(a:bareOK r=ã):recF s r=0:=by rw[recF,ae h,ae H,ac ω,ae a]
theorem pL(h:r.Kind=1):fm s r=Bt s r:=by rw[fm,ae h];rfl
theorem g9(h:r.Kind=4):fm s r=if gT s r=ã then 0 else 3:=by rw[fm,ac ω,ac ω,ac ω]
theorem we(h:r.Kind=3)(H:ins r.Group 0 (s.A2+s.A5-1)=â):fm s r=3:=by rw[fm,ac ω,ac ω,ae h,ac (by simp[H])]
theorem qX(h:r.Kind=3)(H:ins r.Group 0 (s.A2+s.A5-1)=ã):fm s r=0:=by rw[fm,ac ω,ac ω,ae h,ae H]
theorem iA(h:r.Kind=2)(H:mv s r=â):fm s r=3:=by rw[fm,ac ω,ae h,ac (by simp[H])]
theorem qK(h:r.Kind=2)(H:mv s r=ã):fm s r=0:=by rw[fm,ac ω,ae h,ae H]
end
section
variable {c:Code}{w:ä}
theorem r9{a:List Rsc}{r:Rsc}(h:a[i]? = á r):a.set i r=a:=by
  apply ĉ
  intro j
  rw[ų]
  split
  · rename_i e;subst e
    obtain⟨H,_⟩:=ñ.1 h
    rw[ae H,h]
  · rfl
theorem fc{b:Type}[Rp b]{a:Type}(f:a->List b)(G:a)(H:Sep M J A F w)(i:Nat)(l:A[i]? = á (A4 [v0] (f G) j_))(t:Nat)(m:look L t=á v0)
  (e:Env) (k:sub L e) (E:a->Env) (I:a->Prop) (d:a->Nat) (s:sub L (E G)) (j:I G)
  (r:∀g v fp w,Sep M J (A.set i (A4 [v] (f g) fp)) F w->I g->W P n c (again (λx:a × è × List Nat=>(t,x.2.1)::(E x.1++e)) (λx w'=>Sep M J (A.set i (A4 [x.2.1] (f x.1) x.2.2)) F w'/\I x.1) (λx=>d x.1) (g,v,fp) Q) ((t,v)::(E g++e)) w):W P n (.loop c) Q L w:=
 cp (λx:a × è × List Nat=>_::(E x.1++e)) (λx w'=>Sep M J _ F w'/\I x.1) (λx=>d x.1) (G,v0,j_) ⟨m,pQ s k⟩ ⟨by rw[r9 l];exact H,j⟩ λx w h=>r x.1 x.2.1 x.2.2 w h.1 h.2
end
section
variable {s:A0}{r:Rec}
theorem Q8(h:r.Ok):(⟨r.Kind,r.Seq,⟨#[]⟩,0,r.Group,r.Row,[],[],r.Ad⟩:Rec).Ok:=by
  unfold Rec.Ok Ak at h ⊢
  have:(⟨#[]⟩:ByteArray).size<=Ë:=ý _
  simp only;omega
theorem N5(h:r.Ok):(⟨r.Kind,r.Seq,r.Name,r.Length,0,0,r.Rows,[],[]⟩:Rec).Ok:=by
  unfold Rec.Ok Ak at h ⊢
  simp only;omega
theorem Oj(h:r.Ok):(⟨r.Kind,r.Seq,r.Name,r.Length,0,r.Row,r.Rows,r.Data,r.Ad⟩:Rec).Ok:=by
  unfold Rec.Ok Ak at h ⊢
  simp only;omega
theorem O6(h:r.Ok):(⟨r.Kind,r.Seq,r.Name,r.Length,0,0,[],[],[]⟩:Rec).Ok:=by
  unfold Rec.Ok Ak at h ⊢
  simp only;omega
theorem DT(h:r.Kind=1):qF ⟨r.Kind,r.Seq,⟨#[]⟩,0,r.Group,r.Row,[],[],r.Ad⟩=bareOK r:=by rw[bareOK,ae h];simp[qF,noName]
theorem D4(h:r.Kind=2):qF ⟨r.Kind,r.Seq,r.Name,r.Length,0,0,r.Rows,[],[]⟩=bareOK r:=by rw[bareOK,ac ω,ae h];simp[qF,noName]
theorem DF(h:r.Kind=3):qF ⟨r.Kind,r.Seq,r.Name,r.Length,0,r.Row,r.Rows,r.Data,r.Ad⟩=bareOK r:=by rw[bareOK,ac ω,ac ω,ae h];simp[qF,noName]
theorem Ef(h:r.Kind=4):qF ⟨r.Kind,r.Seq,r.Name,r.Length,0,0,[],[],[]⟩=bareOK r:=by rw[bareOK,ac ω,ac ω,ac ω];simp[qF,noName]
end
section
variable {z:Wld}{s:A0}{g:List Drive}{d:Drive}
theorem KH{a:Type}[Inhabited a]{x:List a}{p:a->Bool}(h:(x.any λb => !p b)=â):((õ x.length).all λi=>p (x.getD i à))=true:=
  jn λi H=>by simpa using FR h i H
theorem Di{a:Type}[Inhabited a]{x:List a}{p:a->Bool}(h:(x.any λb => !p b)=ã):((õ x.length).all λi=>p (x.getD i à))=false:=by
  obtain⟨i,H,h⟩:=II h
  exact sG i H lN
theorem AX(h:¬ (d.Ai.length:Int)=s.Rows):fK s d=false:=by rw[fK,a8 h];rfl
theorem Jz(h:(d.Ai.any λb => !gK b)=ã):fK s d=false:=by rw[fK,Di h,ŀ]
theorem Hy(h:(d.Ai.length:Int)=s.Rows)(H:(d.Ai.any λb => !gK b)=â):fK s d=true:=by rw[fK,aU h,KH H];rfl
theorem Ig(h:(d.Ai.length:Int)=s.Rows)(H:∀i,i<d.Ai.length->gK (d.Ai.getD i à)=ã):fK s d=true:=by rw[fK,aU h,jn H];rfl
theorem JX(i:Nat)(H:i<d.Ai.length)(h:gK (d.Ai.getD i à)=â):fK s d=false:=by rw[fK,sG i H h,ŀ]
theorem BD(h:¬ (g.length:Int)=s.Data+s.Af):iK s g=false:=by rw[iK,a8 h];rfl
theorem sZ(k:Nat)(H:k<g.length)(h:fK s (g.getD k à)=â):iK s g=false:=by rw[iK,sG k H h,ŀ]
theorem Bk(h:(g.length:Int)=s.Data+s.Af)(H:∀i,i<g.length->fK s (g.getD i à)=ã):iK s g=true:=by rw[iK,aU h,jn H];rfl
theorem xR(h:¬ (z.A2.length:Int)=z.A0.A2+z.A0.A5):b7 z=false:=by rw[b7,a8 h];rfl
theorem lT(k:Nat)(H:k<z.A2.length)(h:iK z.A0 (z.A2.getD k [])=â):b7 z=false:=by rw[b7,sG k H h,ŀ]
theorem xN(h:(z.A2.length:Int)=z.A0.A2+z.A0.A5)(H:∀i,i<z.A2.length->iK z.A0 (z.A2.getD i [])=ã):b7 z=true:=by rw[b7,aU h,jn H];rfl
end
section
variable {z:Wld}
theorem Dv(h:(õ z.On.length).all (apartAt z.On (z.A0.A2+z.A0.A5-1))=â):rm z=false:=by rw[rm,apartL,h];rfl
theorem AO(h:(õ z.On.length).all (apartAt z.On (z.A0.A2+z.A0.A5-1))=ã){b:Bool}(H:b=(decide ((z.On.length:Int)<=z.A0.Cap) && (decide (z.On.length=0) || !z.Down))):rm z=b:=by rw[rm,apartL,h,H];simp
theorem nQ(h:z.A3.any fT=ã):il z=2:=by rw[il,ae h]
theorem xo(h:z.A3.any fT=â){K:Nat}(b:k<z.A3.length)(d:gV z.A0 z.A3 k=0)(c:K<(z.A3.getD k à).Ah.length)(a:ij z.A0 (z.A3.getD k à).Ah K=0)
    (H:recF z.A0 ((z.A3.getD k à).Ah.getD K à)≠0):il z=recF z.A0 ((z.A3.getD k à).Ah.getD K à):=by
  have e:=NL b d c a H
  rw[il,ac gX,ae (by rw[e];exact H),e]
theorem uH(h:z.A3.any fT=â)(a:gV z.A0 z.A3 z.A3.length=0)(H:z.A3.any fa=ã):il z=1:=by rw[il,ac gX,ac ω,ae H]
theorem vh(h:z.A3.any fT=â)(a:gV z.A0 z.A3 z.A3.length=0)(H:z.A3.any fa=â):il z=0:=by rw[il,ac gX,ac ω,ac (by simp[H])]
end
section
variable {z:Wld}{b:Block}
theorem K5(h:(!ins b.Stamp 0 1000000000 || decide ((b.Bytes.length:Int)≠4))=ã):gK b=false:=by
  rw[gK]
  simp only[bJ,ab] at h
  rcases h with h|h
  · rw[fX h];rfl
  · rw[a8 ω,ŀ]
theorem Js(h:(!ins b.Stamp 0 1000000000 || decide ((b.Bytes.length:Int)≠4))=â):gK b=true:=by
  rw[bz] at h
  have H:=of_decide_eq_false h.2
  rw[gK,not_false h.1,aU ω];rfl
theorem Cm{a:Type}[Inhabited a]{x:List a}{p:a->Bool}(h:x.length=2)(H:p (x.getD 0 à)=ã\/p (x.getD 1 à)=ã):x.any p=true:=by
  rcases H with H|H
  · exact G6 0 ω H
  · exact G6 1 ω H
theorem Bm{a:Type}[Inhabited a]{x:List a}{p:a->Bool}(h:x.length=2)(H:p (x.getD 0 à)=â)(b:p (x.getD 1 à)=â):x.any p=false:=
  CP λi c=>by
    have:i=0\/i=1:=by omega
    rcases this with rfl|rfl
    · exact H
    · exact b
theorem GY:(b7 z && (apartL z.On (z.A0.A2+z.A0.A5-1) && (decide ((z.On.length:Int)<=z.A0.Cap) && ((decide (z.On.length=0) || !z.Down) && decide (z.A3.length=2)))))=(b7 z && rm z && decide (z.A3.length=2)):=by
  rw[rm];simp only[Õ]
end
theorem gJ{w:ä}{b o:Nat}{c:List è}(h:At w b o c)(j:Nat){v:è}(H:c[j]? = á v):w.cell? ⟨b,o+j,ç⟩=á v:=h j v H
section
variable {z:Wld}{s:A0}{g d:Int}
theorem Nx(h:ins g 0 (z.A0.A2+z.A0.A5-1)=â):jk z g=3:=by rw[jk,ac gX]
theorem Kw(h:ins g 0 (z.A0.A2+z.A0.A5-1)=ã)(H:¬ g∈z.On):jk z g=8:=by rw[jk,ae h,ac H]
theorem vn(h:ins g 0 (z.A0.A2+z.A0.A5-1)=ã)(H:g∈z.On):jk z g=0:=by rw[jk,ae h,ae H]
def Uo (s:A0) (g d r:Int):Bool:=ins g 0 (s.A2+s.A5-1) && (ins d 0 (s.Data+s.Af-1) && ins r 0 (s.Rows-1))
theorem Jo(h:jk z g=0):ins g 0 (z.A0.A2+z.A0.A5-1)=ã/\g∈z.On:=by
  unfold jk at h
  split at h
  · rename_i H
    split at h
    · rename_i a;exact⟨H,a⟩
    · cases h
  · cases h
end
section
variable {z:Wld}{s:A0}{r:Rec}{g d:Int}
theorem Pa:0<=s.fault/\s.fault<=3:=by unfold A0.fault;split<;>omega
theorem Rj{b:ByteArray}:0<=bU b/\bU b<=5:=by unfold bU;split<;>omega
theorem Og:0<=fm s r/\fm s r<=5:=by
  have:=Rj (b:=r.Name)
  unfold fm
  all_goals omega
theorem Rq:0<=recF s r/\recF s r<=5:=by
  have:=Og (s:=s) (r:=r)
  unfold recF
  all_goals omega
theorem Iu{R:List Rec}:∀k,0<=ij s R k/\ij s R k<=5
  | 0=>by simp[ij]
  | k+1=>by
    have h:=Iu (R:=R) k
    have H:=Rq (s:=s) (r:=R.getD k à)
    rw[ij]
    split<;>omega
theorem H9{t:List Tape}:∀k,0<=gV s t k/\gV s t k<=5
  | 0=>by simp[gV]
  | k+1=>by
    have h:=H9 (t:=t) k
    have H:=Iu (s:=s) (R:=(t.getD k à).Ah) (t.getD k à).Ah.length
    rw[gV]
    split<;>omega
theorem NW:0<=il z/\il z<=5:=by
  have:=H9 (s:=z.A0) (t:=z.A3) z.A3.length
  unfold il
  all_goals omega
theorem MI:0<=c7 z/\c7 z<=5:=by
  have h:=Pa (s:=z.A0)
  have H:=NW (z:=z)
  unfold c7
  all_goals omega
theorem To:0<=upF z/\upF z<=9:=by
  have h:=MI (z:=z)
  unfold upF
  all_goals omega
end
def cat (r q:Rsc):Rsc:=⟨r.fp++q.fp,λw=>r.φ w/\q.φ w,λh k=>⟨r.st h.1 λb hb=>k b mb,q.st h.2 λb hb=>k b mb⟩,λh b hb=>(aI.1 hb).elim (r.lt h.1 b) (q.lt h.2 b)⟩
section
variable {w:ä}
theorem Sep.join2(h:Sep M J A F w)(i j:Nat){r q:Rsc}(H:A[i]? = á r)(c:A[j]? = á q)(f:î j i=â):Sep M J ((A.set j gone).set i (cat r q)) F w:=
  h.set2 H c f Ext.refl ⟨h.r i H,h.r j c⟩ (ë.2 ⟨h.Aj H,h.Aj c,λa g b d e=>by subst e;exact h.apart H c f a d g⟩)
    λb d=>(aI.1 d).elim .inl λh => .inr (.inl h)
theorem Sep.conv(h:Sep M J A F w)(i:Nat){r:Rsc}(q:Rsc)(a:A[i]? = á r)(c:q.φ w)(p:∀b∈q.fp,b∈r.fp)(n:q.fp.Nodup):Sep M J (A.set i q) F w:=
  h.set a Ext.refl c n λb H => .inl (p b H)
theorem Sep.partLast{A:List Rsc}{r:Rsc}(h:Sep M J (A++[r]) F w)(R:List Rsc)(s:∀q∈R,q.φ w)(b:blocks R=r.fp):Sep M J (A++gone::R) F w:=by
  have H:=h.part A.length σ R s b
  simpa using H
def hol {a:Type}[Rp a] (A:Option ô) (n C:Nat) (B:List a) (k b o:Nat) (T:ì) (i:List è) (f F:List Nat):Rsc:=
  ⟨b::(f++F),λw=>∃E:Array è,w.heap[b]? = á (.cells E T (0,0))/\o+sz a<=E.size/\(E.toList.drop o).take (sz a)=i/\(∀x∈b::(f++F),x<w.heap.size) /\
    ∀w' c X d,w'.heap[b]? = á (.cells c T (0,0))->c.size=E.size->(∀j,j<o\/o+sz a<=j->c[j]? = E[j]?)->(∀b∈f,w'.heap[b]? = w.heap[b]?)->(∀b∈F,w'.heap[b]? = w.heap[b]?) ->
        own ã w' ((c.toList.drop o).take (sz a)) X d->own ã w' [.slice A n C] (B.set k X) (b::(f++(d++F))),
   λh e=>by
      obtain⟨E,l,m,p,q,r⟩:=h
      refine⟨E,(e b σ).trans l,m,p,λx g=>?_,λw' c X d Q t u v y z=>r w' c X d Q t u (λb hb=>(v b hb).trans (e b mb)) (λb hb=>(y b hb).trans (e b mb)) z⟩
      have s:=q x g
      have H:=e x g
      rw[Ń s] at H
      exact(ø.1 H).1,
   λh=>by obtain⟨_,_,_,_,h,_⟩:=h;exact h⟩
variable {c:Type}[Rp c]
theorem Sep.focus{d:c}(h:Sep M J A F w)(i:Nat){l n C}{X:List c}{R}(a:A[i]? = á (Wk.A4 [.slice l n C] X R))(k:Nat)(v:k<X.length):
    ∃b o T ck U f2 f,l=á ⟨b,o,ç⟩/\own ã w ck (X.getD k d) f/\Sep M J (A.set i (hol l n C X k b (o+k*sz c) T ck U f2)++[Wk.A4 ck (X.getD k d) f]) F w:=by
  have b_:=h.Aj a
  obtain⟨b,o,E,T,U,f,f2,O,P,S,c_,g,V⟩:=yK (h.A4 i a) k v
  have a_:=Rp.lt (h.A4 i a)
  have Y:(k+1)*sz c=k*sz c+sz c:=by rw[b8,Nat.one_mul]
  subst P
  obtain⟨N,y⟩:=ù.1 b_
  rw[ë,ë] at y
  obtain⟨G,⟨I,K,L⟩,D⟩:=y
  have r:∀x,x∈(b::(U++f2))++f↔x∈b::(U++(f++f2)):=λx=>by
    simp only[R?,aM,aI]
    constructor
    · rintro(h|(h|h)|h)
      · exact .inl h
      · exact .inr (.inl h)
      · exact .inr (.inr (.inr h))
      · exact .inr (.inr (.inl h))
    · rintro(h|h|h|h)
      · exact .inl h
      · exact .inr (.inl (.inl h))
      · exact .inr (.inr h)
      · exact .inr (.inl (.inr h))
  have z:=h.set a (q:=reord (Wk.A4 [.slice l n C] X _) _ r) Ext.refl (h.A4 i a)
    (by
      refine ë.2 ⟨ù.2 ⟨λm=>N (by rcases aI.1 m with m|m<;>simp[m]),ë.2 ⟨G,K,λp H q hq e=>D p H q rd e⟩⟩,I,λp H q hq e=>?_⟩
      subst e
      rcases aM.1 H with rfl|H
      · exact N rd
      · rcases aI.1 H with H|H
        · exact D p H p rd rfl
        · exact L p hq p H rfl)
    (λx g => .inl ((r x).1 g))
  have u:=(ñ.1 a).1
  have t:X.getD k d=X[k]:=by simp[v]
  refine⟨b,o,T,_,U,f2,f,O,by rw[t];exact g,?_⟩
  have s:=z.part i (by rw[ÿ u]) [hol l n C X k b (o+k*sz c) T ((E.toList.drop (o+k*sz c)).take (sz c)) U f2,Wk.A4 ((E.toList.drop (o+k*sz c)).take (sz c)) (X.getD k d) f] ?_ ?_
  · rw[Ò] at s
    exact(s.perm (l6 u)).sub ((List.Sublist.refl _).append (.cons _ (.refl _)))
  · refine all_cons ⟨E,S,c_,rfl,λx g=>a_ x ((r x).1 (by simp only[aI];exact .inl g)),λw' B x' Q q1 q2 q3 q4 q5 q6=>V w' B x' Q q1 q2 (λj W=>q3 j (by rw[Y] at W;omega)) q4 q5 q6⟩ (all_cons ?_ σ)
    rw[t];exact g
  · simp[blocks,hol,Wk.A4,reord]
variable {b a:Nat}{d:List c}
theorem Sep.Be(h:Sep M J A F w)(i:Nat)(e:A[i]? = á (hol ad n O d k b a T ck U f2)):At w b a ck:=by
  obtain⟨E,H,f,c,_⟩:=h.r i e
  rw[<- c]
  exact xG H _
theorem Sep.hset(h:Sep M J A F w)(i:Nat)(g:A[i]? = á (hol ad n O d k b a T ck U f2))(j:Nat)(K:j<ck.length)(v:è):
    ∃E:Array è,w.heap[b]? = á (.cells E T (0,0))/\a+j<E.size/\Sep M J (A.set i (hol ad n O d k b a T (ck.set j v) U f2)) F (Wk.put w b (.cells (E.setIfInBounds (a+j) v) T (0,0))):=by
  obtain⟨E,m,h2,o,f,r⟩:(hol ad n O d k b a T ck U f2).φ w:=h.r i g
  have p:=h.Aj g
  obtain⟨N,_⟩:=ù.1 p
  have L:j<sz c:=by
    have:=congrArg List.length o
    rw[aY] at this;omega
  have H:Ext (· = b) w (Wk.put w b (.cells (E.setIfInBounds (a+j) v) T (0,0))):=Ext.refl.put (.inl rfl)
  refine⟨E,m,ω,h.set g (H.mono λB _ e=>by subst e;simp[hol]) ?_ p (λb s => .inl s)⟩
  refine⟨E.setIfInBounds _ v,kJ m,sr,?_,λx u=>by have:=f x u;have:=H.size;omega,λw' C X q Q y z D G I=>?_⟩
  · rw[Array.toList_setIfInBounds,List.drop_set,ac ω,List.take_set,o,Nat.add_sub_cancel_left]
  · refine r w' C X q Q (by simpa using y) (λl t=>?_) (λB hb'=>?_) (λB hb'=>?_) I
    · rw[z l t,Ĉ ω]
    · rw[D B hb'];exact H.block B (f B jT) λe=>N (by subst e;simp[hb'])
    · rw[G B hb'];exact H.block B (f B jT) λe=>N (by subst e;simp[hb'])
theorem Sep.fill(h:Sep M J A F w)(i j:Nat){g}{x:c}(l:A[i]? = á (hol ad n O d k b a T ck U f2))(m:A[j]? = á (Wk.A4 ck x g))(s:î j i=â):
    ∃v,Sep M J ((A.set j gone).set i (Wk.A4 [.slice ad n O] (d.set k x) v)) F w:=by
  obtain⟨E,y,L,z,P,B⟩:(hol ad n O d k b a T ck U f2).φ w:=h.r i l
  have f:=h.A4 j m
  have G:=h.Aj l
  have I:=h.Aj m
  have r:∀x∈g,x ∉ b::_:=λx f H=>h.apart l m s x f H
  obtain⟨N,K⟩:=ù.1 G
  obtain⟨D,t,u⟩:=ë.1 K
  have C:=λH=>r b H σ
  refine⟨b::(U++(g++f2)),h.set2 l m s Ext.refl ?_ ?_ ?_⟩
  · exact B w E x g y rfl (λ_ _=>rfl) (λ_ _=>rfl) (λ_ _=>rfl) (by rw[z];exact f)
  · refine ù.2 ⟨λH=>?_,ë.2 ⟨D,ë.2 ⟨I,t,λp o q hq e=>?_⟩,λp o q hq e=>?_⟩⟩
    · simp at H N
      rcases H with H|H|H
      · exact N.1 H
      · exact C H
      · exact N.2 H
    · subst e;exact r p o rd
    · subst e
      rcases aI.1 hq with hq|hq
      · exact r p hq (by simp[o])
      · exact u p o p hq rfl
  · intro x f
    change x∈b::_ at f
    simp at f
    rcases f with h|h|h|h
    · exact .inl (by simp[hol,h])
    · exact .inl (by simp[hol,h])
    · exact .inr (.inl h)
    · exact .inl (by simp[hol,h])
theorem Sep.focusL{g:Type}[Rp g](h:Sep M J A F w)(i:Nat){d n C}{x:List (List g)}{p}(j:A[i]? = á (Wk.A4 [.slice d n C] x p))(k:Nat)(l:k<x.length):
    ∃b o T U f2 a c f,d=á ⟨b,o,ç⟩/\Sep M J (A.set i (hol d n C x k b (o+k*1) T [.slice a (x.getD k []).length c] U f2)++[Wk.A4 [.slice a (x.getD k []).length c] (x.getD k []) f]) F w:=by
  obtain⟨b,o,T,ck,U,f2,f,e,m,H⟩:=h.focus i j k l
  obtain⟨a,c,rfl⟩:=aL m
  exact⟨b,o,T,U,f2,a,c,f,e,H⟩
end
section
variable {w:ä}{d:Tmp}{a:Type}[Rp a]
theorem mo{r:List ą}{t:ì}{x y:Â}{b o:Nat}{X:List a}{v:è}(u:Wn C n L ⟨ç,.store t x y,ty,p,af,g⟩)(s:∀w,(sizeOf t).run P w = .ok 1 w)
    (H:Sep M J A F w) (i j:Nat) (d:(A[i]?,ò j ck.length,evL L x,evL L y,v.oneCell')=(á (hol ad m O X k b o T ck U f2),ã,á (.pointer (á ⟨b,o+j,ç⟩)),á v,ã))
    (K:∀w',Sep M J (A.set i (hol ad m O X k b o T (ck.set j v) U f2)) F w'->RL P n C Q r L w'):RL P n C Q (⟨ç,.store t x y,ty,p,af,g⟩::r) L w:=by
  have⟨f,l,z,B,c⟩:=pj5 d;obtain⟨E,e,q,h⟩:=H.hset i f j (ü l) v
  exact GW u rfl (jM s z B c e q) (K _ h)
end
section
variable {c:Code}{w:ä}
theorem mK{m:Type}[Rp m]{a:Type}{b T}{C:List è}(f:a->List m)(G:a)(H:Sep M J A F w)(i j q:Nat)(u:(A[i]?,A[j]?,C[q]?,î j i)=(á (A4 [v0] (f G) j_),á (box b (.cells C.toArray T)),á v0,â))
  (d:Env) (t:sub L d) (E:a->Env) (I:a->Prop) (o:a->Nat) (D:sub L (E G)) (s:I G)
  (R:∀g v fp w,Sep M J ((A.set i (A4 [v] (f g) fp)).set j (box b (.cells (C.set q v).toArray T))) F w->I g->W P n c (again (λx:a × è × List Nat=>E x.1++d) (λx w'=>Sep M J ((A.set i (A4 [x.2.1] (f x.1) x.2.2)).set j (box b (.cells (C.set q x.2.1).toArray T))) F w'/\I x.1) (λx=>o x.1) (g,v,fp) Q) (E g++d) w):W P n (.loop c) Q L w:=by
 have⟨y,z,k,K⟩:=pj4 u;have p:(A.set i (A4 [v0] (f G) j_)).set j (box b (.cells (C.set q v0).toArray T))=A:=by
  have r:C.set q v0=C:=by
   apply ĉ
   intro l
   rw[ų]
   split
   .rename_i e;subst e
    obtain⟨B,_⟩:=ñ.1 k
    rw[ae B,k]
   rfl
  rw[r9 y,r,r9 z]
 exact cp (λx:a × è × List Nat=>E x.1++d) (λx w'=>Sep M J _ F w'/\I x.1) (λx=>o x.1) (G,v0,j_) (pQ D t) ⟨by rw[p];exact H,s⟩ λx w h=>R x.1 x.2.1 x.2.2 w h.1 h.2
theorem Sep.nilW{a:Type}[Rp a](h:Sep M J A F w):Sep M J (A++[Wk.A4 [.slice ç 0 0] ([]:List a) []]) F w:=
  h.add Ext.refl (.inr (.inl ⟨rfl,rfl,rfl⟩)) q8 q8
end
theorem Block.focus{w:ä}(h:Sep M J A F w)(i:Nat){a n c}{x:List Block}{f}(j:A[i]? = á (A4 [.slice a n c] x f))(k:Nat)(l:k<x.length):∃b o T U f2 A1 C1 g,a=á ⟨b,o,ç⟩/\(x.getD k à).Ok/\Sep M J (A.set i (hol a n c x k b (o+k*sz Block) T [.int .i64 (x.getD k à).Stamp,.slice A1 (x.getD k à).Bytes.length C1] U f2)++[gone,A4 [.slice A1 (x.getD k à).Bytes.length C1] (x.getD k à).Bytes g]) F w:=by
  obtain⟨b,o,T,ck,U,f2,q,e,m,H⟩:=h.focus i j k l
  obtain⟨A1,C1,g,rfl,E,p,O⟩:=nt m
  have d:=H.partLast [A4 [.slice A1 (x.getD k à).Bytes.length C1] (x.getD k à).Bytes g] (all_cons O σ) (by simp[blocks,A4,E])
  exact⟨b,o,T,U,f2,A1,C1,g,e,p,d⟩
theorem Block.fill{w:ä}(h:Sep M J A F w)(i j:Nat){l n p k b O T q r}{x:List Block}{s:Int}{a C m}{y:List UInt8}{g}(u:A[i]? = á (hol l n p x k b O T [.int .i64 s,.slice a m C] q r))(c:A[j]? = á (A4 [.slice a m C] y g))(D:î j i=â)(v:(⟨s,y⟩:Block).Ok):∃f,Sep M J ((A.set j gone).set i (A4 [.slice l n p] (x.set k (⟨s,y⟩:Block)) f)) F w:=by
  have o:=h.A4 j c
  obtain rfl:=gA o
  have N:j≠i:=λe=>by subst e;simp at D
  have H:=h.conv j (A4 [.int .i64 s,.slice a y.length C] _ (g)) c (Block.own_mk v o) (λb t=>t) (show(A4 [.slice a y.length C] y g).fp.Nodup from h.Aj c)
  obtain⟨f,d⟩:=H.fill i j (by rw[bh N];exact u) (by rw[ÿ (ñ.1 c).1]) D
  rw[Ò] at d
  exact⟨f,d⟩
theorem Drive.focus{w:ä}(h:Sep M J A F w)(i:Nat){a n c}{x:List Drive}{f}(j:A[i]? = á (A4 [.slice a n c] x f))(k:Nat)(l:k<x.length):∃b o T U f2 A1 C1 g,a=á ⟨b,o,ç⟩/\(x.getD k à).Ok/\Sep M J (A.set i (hol a n c x k b (o+k*sz Drive) T [.bool (x.getD k à).Au,.slice A1 (x.getD k à).Ai.length C1] U f2)++[gone,A4 [.slice A1 (x.getD k à).Ai.length C1] (x.getD k à).Ai g]) F w:=by
  obtain⟨b,o,T,ck,U,f2,q,e,m,H⟩:=h.focus i j k l
  obtain⟨A1,C1,g,rfl,E,p,O⟩:=iS m
  have d:=H.partLast [A4 [.slice A1 (x.getD k à).Ai.length C1] (x.getD k à).Ai g] (all_cons O σ) (by simp[blocks,A4,E])
  exact⟨b,o,T,U,f2,A1,C1,g,e,p,d⟩
theorem Drive.fill{w:ä}(h:Sep M J A F w)(i j:Nat){l n p k b O T q r}{x:List Drive}{a C m}{y:List Block}{g}(t:A[i]? = á (hol l n p x k b O T [.bool s0,.slice a m C] q r))(c:A[j]? = á (A4 [.slice a m C] y g))(D:î j i=â)(u:(⟨s0,y⟩:Drive).Ok):∃f,Sep M J ((A.set j gone).set i (A4 [.slice l n p] (x.set k (⟨s0,y⟩:Drive)) f)) F w:=by
  have o:=h.A4 j c
  obtain rfl:=gA o
  have N:j≠i:=λe=>by subst e;simp at D
  have H:=h.conv j (A4 [.bool s0,.slice a y.length C] _ (g)) c (Drive.own_mk u o) (λb s=>s) (show(A4 [.slice a y.length C] y g).fp.Nodup from h.Aj c)
  obtain⟨f,d⟩:=H.fill i j (by rw[bh N];exact t) (by rw[ÿ (ñ.1 c).1]) D
  rw[Ò] at d
  exact⟨f,d⟩
theorem Tape.focus{w:ä}(h:Sep M J A F w)(i:Nat){a n c}{x:List Tape}{f}(j:A[i]? = á (A4 [.slice a n c] x f))(k:Nat)(l:k<x.length):∃b o T U f2 A1 C1 g,a=á ⟨b,o,ç⟩/\(x.getD k à).Ok/\Sep M J (A.set i (hol a n c x k b (o+k*sz Tape) T [.bool (x.getD k à).Au,.slice A1 (x.getD k à).Ah.length C1] U f2)++[gone,A4 [.slice A1 (x.getD k à).Ah.length C1] (x.getD k à).Ah g]) F w:=by
  obtain⟨b,o,T,ck,U,f2,q,e,m,H⟩:=h.focus i j k l
  obtain⟨A1,C1,g,rfl,E,p,O⟩:=fd m
  have d:=H.partLast [A4 [.slice A1 (x.getD k à).Ah.length C1] (x.getD k à).Ah g] (all_cons O σ) (by simp[blocks,A4,E])
  exact⟨b,o,T,U,f2,A1,C1,g,e,p,d⟩
theorem Tape.fill{w:ä}(h:Sep M J A F w)(i j:Nat){l n p k b O T q r}{x:List Tape}{a C m}{y:List Rec}{g}(t:A[i]? = á (hol l n p x k b O T [.bool s0,.slice a m C] q r))(c:A[j]? = á (A4 [.slice a m C] y g))(D:î j i=â)(u:(⟨s0,y⟩:Tape).Ok):∃f,Sep M J ((A.set j gone).set i (A4 [.slice l n p] (x.set k (⟨s0,y⟩:Tape)) f)) F w:=by
  have o:=h.A4 j c
  obtain rfl:=gA o
  have N:j≠i:=λe=>by subst e;simp at D
  have H:=h.conv j (A4 [.bool s0,.slice a y.length C] _ (g)) c (Tape.own_mk u o) (λb s=>s) (show(A4 [.slice a y.length C] y g).fp.Nodup from h.Aj c)
  obtain⟨f,d⟩:=H.fill i j (by rw[bh N];exact t) (by rw[ÿ (ñ.1 c).1]) D
  rw[Ò] at d
  exact⟨f,d⟩
def wipedTo (g:List Drive):Nat->List Int
  | 0=>[]
  | k+1=>if(g.getD k à).Au=ã then wipedTo g k++[(k:Int)] else wipedTo g k
def re (z:Wld) (g:Int):List Int:=wipedTo (z.A2.getD g.toNat []) (z.A2.getD g.toNat []).length
def dP (z:Wld) (g:Int):Bool:=decide (z.A0.Af<((re z g).length:Int))
section
variable {G:List Drive}{z:Wld}
theorem vy(h:(G.getD k à).Au=ã):wipedTo G (k+1)=wipedTo G k++[(k:Int)]:=by rw[wipedTo,ae h]
theorem uJ(h:(G.getD k à).Au=â):wipedTo G (k+1)=wipedTo G k:=by rw[wipedTo,ac wZ]
theorem zU:∀ {k:Nat},(wipedTo G k).length<=k
  | 0=>aN _
  | k+1=>by
    have:=zU (k:=k)
    rw[wipedTo];split
    · rw[aO];simp;omega
    · omega
def UM (z:Wld) (g r:Int):Int:=if c7 z≠0 then c7 z else if Uo z.A0 g 0 r=ã then 0 else 3
def LQ (z:Wld) (g:Int):IntsResult:=if UM z g 0≠0 then⟨UM z g 0,[]⟩ else⟨0,re z g⟩
end
theorem ku{c:Type}{a b:List c}{d:c}(h:i<a.length):(a++b).getD i d=a.getD i d:=by simp[List.getElem?_append_left h]
theorem lL{c:Type}{a b:List c}{d:c}(h:a.length<=i):(a++b).getD i d=b.getD (i-a.length) d:=by simp[List.getElem?_append_right h]
theorem bX{a:Type}{l:List a}{d:a}(h:i<l.length):l.getD i d=l[i]:=by simp[h]
section
variable {w:ä}{d:Option Tmp}
theorem Q6{t u:ì}{s:Nat}{a:Option ô}{c:Nat}(f:P.underlying t=á (.slice e))(g:P.underlying u=á (.int .i64))(h:Ty P e z s f_)(H:m<=c):
    (Ô #[t,u] ty #[.slice a m c,.int .i64 0]).run P w = .ok (.slice a m c) w:=by
  obtain⟨i,b,k,d,l⟩:=h.parts
  have j:IntKind.i64.wrap 0=0:=zk ⟨ω,ω⟩
  cases a<;>simp[Ô,þ f,þ g,sizeOf,Y?,b,d,j,asInt,asIntOf,H,storeCells]
end
section
variable {z:Wld}{g:Int}
def cQ (z:Wld) (g:Int):Nat->List Int
  | 0=>[]
  | k+1=>if(k:Int)≠g/\dP z k=â/\((cQ z g k).length:Int)<z.A0.A2 then cQ z g k++[(k:Int)] else cQ z g k
theorem Da(h:(k:Int)≠g/\dP z k=â/\((cQ z g k).length:Int)<z.A0.A2):cQ z g (k+1)=cQ z g k++[(k:Int)]:=by rw[cQ,ae h]
theorem vG(h:¬ ((k:Int)≠g/\dP z k=â/\((cQ z g k).length:Int)<z.A0.A2)):cQ z g (k+1)=cQ z g k:=by rw[cQ,ac h]
theorem Kh:∀k,(cQ z g k).length<=k
  | 0=>by simp[cQ]
  | k+1=>by
    have:=Kh k
    rw[cQ]
    split
    · simp;omega
    · omega
theorem zm:∀k x,x∈cQ z g k->0<=x/\x<k/\x≠g
  | 0,x,h=>by simp[cQ] at h
  | k+1,x,h=>by
    have H:=zm k x
    rw[cQ] at h
    split at h
    · rcases aI.1 h with h|h
      · have:=H h;omega
      · have e:=aD.1 h;omega
    · have:=H h;omega
theorem DR(H:0<=z.A0.A2):∀k,((cQ z g k).length:Int)<=z.A0.A2
  | 0=>by simpa[cQ] using H
  | k+1=>by
    have:=DR H k
    rw[cQ]
    split
    · next h=>simp;omega
    · exact this
theorem vw:∀k i,i<(cQ z g k).length->0<=(cQ z g k).getD i 0/\(cQ z g k).getD i 0<k:=by
  intro k i h
  have H:(cQ z g k).getD i 0∈cQ z g k:=by rw[bX h];exact bx h
  have:=zm k _ H
  omega
theorem By:∀k i j,i<j->j<(cQ z g k).length->(cQ z g k).getD i 0<(cQ z g k).getD j 0
  | 0,i,j,_,h=>by simp[cQ] at h
  | k+1,i,j,a,h=>by
    have I:=By k i j a
    by_cases H:(k:Int)≠g/\dP z k=â/\((cQ z g k).length:Int)<z.A0.A2
    · rw[Da H] at h ⊢
      simp at h
      have G:=vw (z:=z) (g:=g) k i ω
      rw[ku ω]
      by_cases e:j<(cQ z g k).length
      · rw[ku e];exact I e
      · rw[lL ω,show j-(cQ z g k).length=0 by omega]
        simpa using G.2
    · rw[vG H] at h ⊢;exact I h
def putAt (h:List Int) (w:List UInt8) (N:Nat):Nat->List UInt8
  | 0=>å N 0
  | k+1=>(putAt h w N k).set (h.getD k 0).toNat (w.getD k 0)
section
variable {c:List Int}{N:Nat}
theorem JN:putAt c ws N 0=å N 0:=rfl
theorem ph:∀ {k},(putAt c ws N k).length=N
  | 0=>by simp[putAt]
  | k+1=>by rw[putAt,bE];exact ph
theorem AK:∀k,(∀i,i<k->(c.getD i 0).toNat≠j)->(putAt c ws N k).getD j 0=0
  | 0,_=>by
    rw[putAt,ï,List.getElem?_replicate]
    split<;>rfl
  | k+1,h=>by
    have I:=AK k λi a=>h i ω
    have H:=h k ω
    rw[putAt,ï,bh H]
    exact I
theorem Qa{l:List UInt8}{x:UInt8}(h:l.getD j 0=x):l.set j x=l:=by
  refine Ü σ λi a H=>?_
  rw[z?]
  split
  · next e=>subst e;rw[<- h,bX H]
  · rfl
theorem FH(H:∀i j,i<j->j<c.length->c.getD i 0<c.getD j 0)(h:∀i,i<c.length->0<=c.getD i 0):∀ {k},ws.length<=k->k<=c.length->putAt c ws N k=putAt c ws N ws.length
  | 0,d,_=>by rw[show ws.length=0 by omega]
  | k+1,d,g=>by
    by_cases e:ws.length=k+1
    · rw[e]
    · rw[<- FH H h (k:=k) ω ω,putAt,show ws.getD k 0=0 from by rw[ï,Í ω];rfl]
      refine Qa (AK k λi f=>?_)
      have a:=H i k f ω
      have b:=h i ω
      omega
end
def JM (w:List UInt8) (m:Nat):List UInt8:=mP (λi=>w.getD i 0) m w.length
theorem Pu(h:ws.length<=m):(JM ws m).length=m:=Fd h
theorem PG:(JM ws m).getD i 0=ws.getD i 0:=by
  unfold JM mP
  by_cases h:i<ws.length
  · rw[ku lN]
    simp[h]
  · rw[lL xw,ï,ï,List.getElem?_replicate,Í (by omega:ws.length<=i)]
    split<;>rfl
def ur (z:Wld) (g:Int):List Int:=cQ z g (z.A0.A2+z.A0.A5).toNat
def byG (z:Wld) (g:Int):List UInt8:=betw z.A0.A2.toNat (ur z g) g 8
def FB (z:Wld) (g:Int):List UInt8:=putAt (ur z g) (byG z g) (z.A0.A2+z.A0.A5).toNat (byG z g).length
def qt (z:Wld) (g:Int):Bool:=decide (((ur z g).length:Int)=z.A0.A2)
def BQ (z:Wld) (g:Int):List UInt8:=if qt z g=ã then FB z g else[]
theorem TG(h:¬ ((ur z g).length:Int)=z.A0.A2):qt z g=â/\BQ z g=[]:=by
  have e:qt z g=false:=a8 h
  exact⟨e,ac (by simp[e])⟩
theorem Mi(h:((ur z g).length:Int)=z.A0.A2):qt z g=ã/\BQ z g=FB z g:=by
  have e:=aU h
  exact⟨e,ae e⟩
theorem ND(h:((ur z g).length:Int)=z.A0.A2):putAt (ur z g) (byG z g) (z.A0.A2+z.A0.A5).toNat (ur z g).length=FB z g:=
  FH (By _) (λi H=>(vw _ i H).1) (by have:=yy (n:=z.A0.A2.toNat) (h:=ur z g) (x:=g) (b:=8);unfold byG;omega) (aN _)
end
def OwnW (w:ä) (b:Nat) (T:ì) (z:Wld) (f:List Nat):Prop:=
  ∃A9 C9 b_ d_ c_ e_ f9 X Y,w.heap[b]? = á (.cells [.int .i64 z.A0.A2,.int .i64 z.A0.A5,.int .i64 z.A0.Data,.int .i64 z.A0.Af,.int .i64 z.A0.Rows,.int .i64 z.A0.Cap,.int .i64 z.A0.An,.int .i64 z.A0.Ao,.int .i64 z.A0.Ap,.slice A9 z.A2.length C9,.slice b_ z.On.length d_,.slice c_ z.A3.length e_,.int .i64 z.Aa,.int .i64 z.Stop,.bool z.Down].toArray T)/\own ã w [.slice A9 z.A2.length C9] z.A2 f9/\own ã w [.slice b_ z.On.length d_] z.On X/\own ã w [.slice c_ z.A3.length e_] z.A3 Y/\z.Ok/\f=b::(f9++(X++Y))
theorem OwnW.st{w:ä}{b T z f}(h:OwnW w b T z f)(k:∀x∈f,w'.heap[x]? = w.heap[x]?):OwnW w' b T z f:=by
  obtain⟨A9,C9,b_,d_,c_,e_,f9,X,Y,H,a,c,d,e,g⟩:=h
  subst g
  exact⟨A9,C9,b_,d_,c_,e_,f9,X,Y,(k b σ).trans H,Rp.st a λx hx=>k x sv,Rp.st c λx hx=>k x sv,Rp.st d λx hx=>k x sv,e,rfl⟩
theorem OwnW.lt{w:ä}{b T z f}(h:OwnW w b T z f):∀x∈f,x<w.heap.size:=by
  obtain⟨A9,C9,b_,d_,c_,e_,f9,X,Y,a,c,d,e,i,g⟩:=h
  subst g
  intro x H
  simp at H
  rcases H with rfl|H|H|H
  · exact(ø.1 a).1
  · exact Rp.lt c x H
  · exact Rp.lt d x H
  · exact Rp.lt e x H
def Bf (b:Nat) (T:ì) (z:Wld) (f:List Nat):Rsc:=⟨f,λw=>OwnW w b T z f,λh k=>h.st k,λh=>h.lt⟩
def MutW (w W:ä) (F:List Nat) (b:Nat) (T:ì) (z:Wld):Prop:=
  Ext (· ∈ F) w W/\∃f,OwnW W b T z f/\f.Nodup/\∀x∈f,x∈F\/w.heap.size<=x
section
variable {w:ä}{b:Nat}{z a:Wld}
theorem Sep.beginW(h:OwnW w b T z fp)(n:fp.Nodup):Sep (· ∈ fp) w [Bf b T z fp] [] w:=
  ⟨Ext.refl,by simpa[Bf] using h,by simpa[blocks,Bf] using n,λb H => .inl (by simpa[blocks,Bf] using H),σ,σ⟩
theorem Sep.seeF{a:Type}[Rp a](h:Sep M J [Bf b T z fp] F w){c:List è}{x:a}{f}(e:own â w c x f)(d:∀b∈f,b ∉ fp):Sep M J [Bf b T z fp] (F++[Wk.Ab â c x f]) w:=
  h.look e λb H m=>d b H (by simpa[blocks,Bf] using m)
theorem Sep.B1(h:Sep M J A F w)(i:Nat)(H:A[i]? = á (Bf b T z fp)):OwnW w b T z fp:=h.r i H
theorem Sep.Ax{a:List Rsc}(h:Sep (· ∈ j_) J (Bf b T z fp::a) F w):MutW J w j_ b T z:=
  ⟨h.ext,fp,h.r 0 rfl,h.Aj (i:=0) rfl,λx H=>h.new x (by simp[blocks,Bf,H])⟩
theorem Sep.Bb(h:Sep M J A F w)(i:Nat)(g:A[i]? = á (Bf b T z fp))(m:MutW w w' fp b T a):∃f,Sep M J (A.set i (Bf b T a f)) F w':=by
  obtain⟨e,f,H,c,d⟩:=m
  exact⟨f,h.set g e H c d⟩
theorem Sep.B3(h:Sep M J A F w)(i:Nat)(H:A[i]? = á (Bf b T z fp)):
    ∃A9 C9 b_ d_ c_ e_ f9 X Y,z.Ok/\Sep M J (A.set i (Wk.box b (.cells [.int .i64 z.A0.A2,.int .i64 z.A0.A5,.int .i64 z.A0.Data,.int .i64 z.A0.Af,.int .i64 z.A0.Rows,.int .i64 z.A0.Cap,.int .i64 z.A0.An,.int .i64 z.A0.Ao,.int .i64 z.A0.Ap,.slice A9 z.A2.length C9,.slice b_ z.On.length d_,.slice c_ z.A3.length e_,.int .i64 z.Aa,.int .i64 z.Stop,.bool z.Down].toArray T))++[gone,Wk.A4 [.slice A9 z.A2.length C9] z.A2 f9,Wk.A4 [.slice b_ z.On.length d_] z.On X,Wk.A4 [.slice c_ z.A3.length e_] z.A3 Y]) F w:=by
  obtain⟨A9,C9,b_,d_,c_,e_,f9,X,Y,c,d,e,f,g,j⟩:OwnW w b T z fp:=h.r i H
  have l:=(ñ.1 H).1
  have p:(Wk.box b _).φ w:=c
  have a:=h.part i H [Wk.box b _,Wk.A4 [.slice A9 z.A2.length C9] z.A2 f9,Wk.A4 [.slice b_ z.On.length d_] z.On X,Wk.A4 [.slice c_ z.A3.length e_] z.A3 Y] (all_cons p (all_cons d (all_cons e (all_cons f σ)))) (by simp[blocks,Wk.A4,Wk.box,Bf,j])
  exact⟨A9,C9,b_,d_,c_,e_,f9,X,Y,g,a.perm (l6 l)⟩
theorem Sep.Ar(h:Sep M J A F w)(i d j m:Nat)(z:Wld){n o c C f l s p q U P Q}(hJ:(A[i]?,A[d]?,A[j]?,A[m]?,î d i,î j i,î m i,î j d,î m d,î m j)=(á (Wk.box b (.cells [.int .i64 z.A0.A2,.int .i64 z.A0.A5,.int .i64 z.A0.Data,.int .i64 z.A0.Af,.int .i64 z.A0.Rows,.int .i64 z.A0.Cap,.int .i64 z.A0.An,.int .i64 z.A0.Ao,.int .i64 z.A0.Ap,.slice n U o,.slice c P C,.slice f Q l,.int .i64 z.Aa,.int .i64 z.Stop,.bool z.Down].toArray T)),á (Wk.A4 [.slice n U o] z.A2 s),á (Wk.A4 [.slice c P C] z.On p),á (Wk.A4 [.slice f Q l] z.A3 q),â,â,â,â,â,â))(ok:z.Ok):
    ∃fp,Sep M J ((((A.set m gone).set j gone).set d gone).set i (Bf b T z fp)) F w:=by
  have⟨v,u,t,K,E,d2,d3,G,d5,I⟩:=pj10 hJ;obtain rfl:=gA (h.A4 d u)
  obtain rfl:=gA (h.A4 j t)
  obtain rfl:=gA (h.A4 m K)
  have N:d≠i:=λe=>by subst e;simp at E
  have x:j≠i:=λe=>by subst e;simp at d2
  have y:m≠i:=λe=>by subst e;simp at d3
  have R:j≠d:=λe=>by subst e;simp at G
  have S:m≠d:=λe=>by subst e;simp at d5
  have n6:m≠j:=λe=>by subst e;simp at I
  have g:∀ {L:List Rsc}{k:Nat}{a r:Rsc},L[k]? = á r->(L.set k a)[k]? = á a:=λh=>ÿ (ñ.1 h).1
  have V:=h.join2 j m t K I
  have W:((A.set m gone).set j (cat (Wk.A4 [.slice c z.On.length C] z.On p) (Wk.A4 [.slice f z.A3.length l] z.A3 q)))[j]? = á (cat (Wk.A4 [.slice c z.On.length C] z.On p) (Wk.A4 [.slice f z.A3.length l] z.A3 q)):=g (r:=Wk.A4 [.slice c z.On.length C] z.On p) (by rw[bh n6];exact t)
  have X:((A.set m gone).set j (cat (Wk.A4 [.slice c z.On.length C] z.On p) (Wk.A4 [.slice f z.A3.length l] z.A3 q)))[d]? = á (Wk.A4 [.slice n z.A2.length o] z.A2 s):=by rw[bh R,bh S];exact u
  have B:=V.join2 d j X W G
  rw[Ò] at B
  have Y:((((A.set m gone).set j gone).set d (cat (Wk.A4 [.slice n z.A2.length o] z.A2 s) (cat (Wk.A4 [.slice c z.On.length C] z.On p) (Wk.A4 [.slice f z.A3.length l] z.A3 q)))))[i]? = á (Wk.box b (.cells [.int .i64 z.A0.A2,.int .i64 z.A0.A5,.int .i64 z.A0.Data,.int .i64 z.A0.Af,.int .i64 z.A0.Rows,.int .i64 z.A0.Cap,.int .i64 z.A0.An,.int .i64 z.A0.Ao,.int .i64 z.A0.Ap,.slice n z.A2.length o,.slice c z.On.length C,.slice f z.A3.length l,.int .i64 z.Aa,.int .i64 z.Stop,.bool z.Down].toArray T)):=by rw[bh N,bh x,bh y];exact v
  have b9:((((A.set m gone).set j gone).set d (cat (Wk.A4 [.slice n z.A2.length o] z.A2 s) (cat (Wk.A4 [.slice c z.On.length C] z.On p) (Wk.A4 [.slice f z.A3.length l] z.A3 q)))))[d]? = á (cat (Wk.A4 [.slice n z.A2.length o] z.A2 s) (cat (Wk.A4 [.slice c z.On.length C] z.On p) (Wk.A4 [.slice f z.A3.length l] z.A3 q))):=g (r:=Wk.A4 [.slice n z.A2.length o] z.A2 s) (by rw[bh R,bh S];exact u)
  have H:=B.join2 i d Y b9 E
  rw[Ò] at H
  obtain⟨q1,q2,q3,q4⟩:(cat (Wk.box b (.cells [.int .i64 z.A0.A2,.int .i64 z.A0.A5,.int .i64 z.A0.Data,.int .i64 z.A0.Af,.int .i64 z.A0.Rows,.int .i64 z.A0.Cap,.int .i64 z.A0.An,.int .i64 z.A0.Ao,.int .i64 z.A0.Ap,.slice n z.A2.length o,.slice c z.On.length C,.slice f z.A3.length l,.int .i64 z.Aa,.int .i64 z.Stop,.bool z.Down].toArray T)) (cat (Wk.A4 [.slice n z.A2.length o] z.A2 s) (cat (Wk.A4 [.slice c z.On.length C] z.On p) (Wk.A4 [.slice f z.A3.length l] z.A3 q)))).φ w:=H.r i (g (by rw[bh N,bh x,bh y];exact v))
  have O:=g (a:=cat (Wk.box b (.cells [.int .i64 z.A0.A2,.int .i64 z.A0.A5,.int .i64 z.A0.Data,.int .i64 z.A0.Af,.int .i64 z.A0.Rows,.int .i64 z.A0.Cap,.int .i64 z.A0.An,.int .i64 z.A0.Ao,.int .i64 z.A0.Ap,.slice n z.A2.length o,.slice c z.On.length C,.slice f z.A3.length l,.int .i64 z.Aa,.int .i64 z.Stop,.bool z.Down].toArray T)) (cat (Wk.A4 [.slice n z.A2.length o] z.A2 s) (cat (Wk.A4 [.slice c z.On.length C] z.On p) (Wk.A4 [.slice f z.A3.length l] z.A3 q)))) (r:=Wk.box b (.cells [.int .i64 z.A0.A2,.int .i64 z.A0.A5,.int .i64 z.A0.Data,.int .i64 z.A0.Af,.int .i64 z.A0.Rows,.int .i64 z.A0.Cap,.int .i64 z.A0.An,.int .i64 z.A0.Ao,.int .i64 z.A0.Ap,.slice n z.A2.length o,.slice c z.On.length C,.slice f z.A3.length l,.int .i64 z.Aa,.int .i64 z.Stop,.bool z.Down].toArray T)) (L:=((A.set m gone).set j gone).set d gone) (k:=i) (by rw[bh N,bh x,bh y];exact v)
  have hn:=H.Aj O
  have D:=H.conv i (Bf b T z (b::(s++(p++q)))) O ⟨n,o,c,C,f,l,s,p,q,q1,q2,q3,q4,ok,rfl⟩ (λa_ hx=>hx) hn
  rw[Ò] at D
  exact⟨_,D⟩
end
def Sep.SB{w:ä}(_:Sep M J A F w):ä->Prop:=Ext (· ∈ blocks A) w
section
variable {w a c:ä}
theorem Sep.inB(_:Sep M J A F w)(i:Nat){r:Rsc}(H:A[i]? = á r){b:Nat}(h:b∈r.fp):b∈blocks A:=cG.2 ⟨r,æ H,h⟩
theorem Sep.sbBox(h:Sep M J A F w)(x:h.SB a)(j:Nat){b:Nat}(H:F[j]? = á (Wk.box b o)):a.heap[b]? = á o:=
  Ext.heapM x (λm=>h.ap _ (æ H) b iQ m) (h.fs _ (æ H))
theorem Sep.sbCall(h:Sep M J A F w)(H:h.SB a)(e:Ext No a c):h.SB c:=Ext.trans H e.no
theorem Sep.sbIn(h:Sep M J A F w)(S:h.SB a)(i:Nat){r:Rsc}(f:A[i]? = á r)(e:Ext N a c)(H:∀b,N b->b∈r.fp):h.SB c:=Ext.step S e λb d => .inl (h.inB i f (H b d))
end
def cN (z:Wld):Bool:=decide (z.Stop ≠ -1) && decide (z.Stop<=z.Aa)
def FQ (z:Wld):Wld:={z with On:=[],Down:=ã}
def kR (z:Wld):Wld:={z with Aa:=z.Aa+1}
def pk (z:Wld) (y:Wld):Wld:=if cN z=ã then FQ z else kR y
theorem lw{z y:Wld}(h:cN z=ã):pk z y=FQ z:=ae h
theorem eW{z y:Wld}(h:cN z=â):pk z y=kR y:=ac gX
def layT (t:Nat) (r:Rec) (z:Wld):Wld:={z with A3:=z.A3.set t ⟨â,(z.A3.getD t à).Ah++[r]⟩}
def gc (t:Nat) (r:Rec) (z:Wld):Wld:=pk z (layT t r z)
def jL (z:Wld) (r:Rec):Bool := !cN z && !cN (gc 0 r z)
def lj (z:Wld) (r:Rec):Wld:=if cN z=ã then FQ z else gc 1 r (gc 0 r z)
def dI (z:Wld):Bool:=decide (200<((z.A3.getD 0 à).Ah.length:Int)+1) || decide (200<((z.A3.getD 1 à).Ah.length:Int)+1)
def noWld:Wld:=⟨⟨0,0,0,0,0,0,0,0,0⟩,[],[],[],0,0,â⟩
theorem kL{t:Nat}{r:Rec}{z:Wld}:(gc t r z).A3.length=z.A3.length:=by
  unfold gc pk;split
  · rfl
  · simp[kR,layT]
theorem Fi{t:Nat}{r:Rec}{z:Wld}:(gc t r z).Stop=z.Stop:=by
  unfold gc pk;split<;>rfl
theorem lW{t:Nat}{r:Rec}{z:Wld}:z.Aa<=(gc t r z).Aa/\(gc t r z).Aa<=z.Aa+1:=by
  unfold gc pk;split
  · show z.Aa<=z.Aa/\z.Aa<=z.Aa+1;omega
  · show z.Aa<=z.Aa+1/\z.Aa+1<=z.Aa+1;omega
theorem zS{t u:Nat}{r:Rec}{z:Wld}:((gc t r z).A3.getD u à).Ah.length<=(z.A3.getD u à).Ah.length+1:=by
  unfold gc pk;split
  · show(z.A3.getD u à).Ah.length<=_;omega
  · show((z.A3.set t _).getD u à).Ah.length<=_
    rw[d8];split
    · next h=>rw[h.1];simp
    · omega
theorem yV{f g:Nat->Nat}:∀k,my (λi=>f i+g i) k=my f k+my g k
  | 0=>rfl
  | k+1=>by
    show my (λi=>f i+g i) k+(f k+g k)=my f k+f k+(my g k+g k)
    rw[yV k];omega
theorem Dq{c:Nat}:∀k,my (λj=>if j=i then c else 0) k=if i<k then c else 0
  | 0=>rfl
  | k+1=>by
    show my (λj=>if j=i then c else 0) k+(if k=i then c else 0)=_
    rw[Dq k]
    by_cases h:k=i
    · subst h;rw[ac ω,ae rfl,ae ω];omega
    · rw[ac h]
      by_cases H:i<k
      · rw[ae H,ae ω];omega
      · rw[ac H,ac ω]
section
variable {α:Type}[Inhabited α] {f:α->Nat}{a:List α}{y:α}
theorem OK:mkL f (a++[y])=mkL f a+f y:=by
  unfold mkL
  rw[aO]
  show my _ a.length+f ((a++[y]).getD a.length à)=_
  have E:(a++[y]).getD a.length à=y:=by simp
  rw[E,wJ λj h=>by
    have e:(a++[y]).getD j à=a.getD j default:=by rw[ku h]
    rw[e]]
end
theorem Q0{z:Wld}:qD (FQ z)<=qD z:=by
  unfold qD FQ;simp
theorem ii{a:Type}{x:List a}{d:a}(h:k<x.length):x.take k++[x.getD k d]=x.take (k+1):=by
  rw[bX h];exact List.take_append_getElem h
theorem kM{w:Wld}(h:c7 w=0):0<=w.Aa/\w.Aa<=1000000000 /\ -1<=w.Stop/\w.Stop<=1000000000:=by
  unfold c7 at h
  split at h
  · rename_i H;exact absurd h H
  · split at h
    · split at h
      · rename_i H;exact absurd h H
      · split at h
        · rename_i H
          simp only[aP,bH] at H
          omega
        · omega
    · omega
theorem Sep.asSt{a d:Type}[Rp a][Rp d]{w:ä}(h:Sep M J A F w)(i:Nat){C c:List è}{x:a}(y:d)(H:A[i]? = á (Wk.A4 C x fp))(q:own ã w c y fp):Sep M J (A.set i (Wk.A4 c y fp)) F w:=
  have n:=h.Aj H
  h.conv i _ H q (λb e=>e) n
section
variable {w:ä}
theorem lI{t:ì}{x y:Â}{b o s:Nat}{c:List è}{T}{v:List è}(u:C.toList[i]? = á ⟨ç,.store t x y,ty,p,af,g⟩)(D:Wn C n L ⟨ç,.store t x y,ty,p,af,g⟩)(B:∀w,(sizeOf t).run P w = .ok s w)(f:(evL L x,evL L y,v.length,CS v)=(á (.pointer (á ⟨b,o,ç⟩)),á (.agg v.toArray),s,ã))(H:Sep M J A F w)(j:Nat)(d:A[j]? = á (Wk.box b (.cells c.toArray T)))(r:ĭ (o+s) c.length=ã)(m:∀w',S w->Ext (· = b) w w'->a_≠[]->S w')
    (k:∀w',Ext (· = b) w w'->Sep M J (A.set j (Wk.box b (.cells (FO c o v).toArray T))) F w'->DL P n C Q S a_ L w') :
    DL P n C Q S ((i,â)::a_) L w:=by
  have⟨E,G,l,e⟩:=pj4 f;have a:=ü r
  have h:=k _ (Ext.refl.put (.inl rfl)) (H.put j _ d)
  rw[<- DP (by rw[l];exact a)] at h
  exact G5 u D rfl (o4 B E G l (qw e) (H.box j d) (by simpa using a)) (λq z=>m _ q (Ext.refl.put (.inl rfl)) z) h
end
section
variable {w a c:ä}{b:Nat}{z:Wld}{d:List Nat}
theorem Sep.boxFar(h:Sep M J A F w)(i j:Nat){c:Nat}(f:(A[i]?,A[j]?,î j i)=(á (Bf b T z fp),á (Wk.box c o),â))(s:∀x∈d,x∈fp\/w.heap.size<=x)(E:Ext (· ∈ fp) w a):
    a.heap[c]? = á o/\c ∉ d:=by
  have⟨g,e,k⟩:=pj3 f;have H:=h.r j e
  have n:=h.apart g e k c iQ
  exact⟨E.heapM n H,λm=>(s c m).elim n λl=>by have:=(ø.1 H).1;omega⟩
theorem Sep.seeFar{k:Type}[Rp k](h:Sep M J A F w)(i j:Nat){c:List è}{x:k}(o:A[i]? = á (Bf b T z fp))(e:F[j]? = á (Wk.Ab s c x f))(S:∀x∈d,x∈fp\/w.heap.size<=x)(E:Ext (· ∈ fp) w a):
    own â a c x f/\∀b∈f,b ∉ d:=by
  have g:=h.fs _ (æ e)
  have n:=λb H m=>h.ap _ (æ e) b H (h.inB i o m)
  have l:=Rp.lt g
  exact⟨aJ (Rp.st g λb H=>E.block b (l b H) (n b H)),λb H m=>(S b m).elim (n b H) λp=>by have:=l b H;omega⟩
theorem Sep.boxF(h:Sep M J [Bf b T z fp] F w){c:Nat}(a:w.heap[c]? = á o)(d:c ∉ fp):Sep M J [Bf b T z fp] (F++[Wk.box c o]) w:=
  h.look a λx e H=>by
    rw[show x=c by simpa[Wk.box] using e] at H
    exact d (by simpa[blocks,Bf] using H)
def Sep.S2 {M:Nat->Prop}{W w:ä}{a F:List Rsc}(_:Sep M W a F w) (i j:Nat):ä->Prop:=Ext (λb=>b∈(a.getD i gone).fp\/b∈(a.getD j gone).fp) w
theorem lR{r d:Rsc}(h:A[i]? = á r):A.getD i d=r:=by simp[h]
theorem Sep.s2Call(h:Sep M J A F w)(H:h.S2 i j a)(e:Ext No a c):h.S2 i j c:=Ext.trans H e.no
theorem Sep.s2In(h:Sep M J A F w)(S:h.S2 i j a)(k:Nat){r:Rsc}(f:A[k]? = á r)(g:k=i\/k=j)(e:Ext N a c)(H:∀b,N b->b∈r.fp):h.S2 i j c:=
  Ext.step S e λb d => .inl (by
    rcases g with rfl|rfl
    · exact .inl (by rw[lR f];exact H b d)
    · exact .inr (by rw[lR f];exact H b d))
theorem Sep.s2FBox(h:Sep M J A F w)(x:h.S2 i j a)(k:Nat){c:Nat}(e:F[k]? = á (Wk.box c o))(b:A[i]? = á ri)(d:A[j]? = á rj):a.heap[c]? = á o:=
  Ext.heapM x (λH=>h.ap _ (æ e) c iQ (by
    rcases H with H|H
    · rw[lR b] at H;exact h.inB i b H
    · rw[lR d] at H;exact h.inB j d H)) (h.fs _ (æ e))
theorem Sep.s2Box(h:Sep M J A F w)(x:h.S2 i j a)(k:Nat){c:Nat}(b:A[k]? = á (Wk.box c o))(d:A[i]? = á ri)(e:A[j]? = á rj)(D:î k i=â)(f:î k j=â):a.heap[c]? = á o:=
  Ext.heapM x (λH=>by
    rcases H with H|H
    · rw[lR d] at H;exact h.apart d b D c iQ H
    · rw[lR e] at H;exact h.apart e b f c iQ H) (h.r k b)
end
section
variable {w:ä}{a:Type}[Rp a] 
theorem jy{t:ì}{x y:Â}{b o:Nat}{X:List a}{v:è}(z:C.toList[i]? = á ⟨ç,.store t x y,ty,p,af,g⟩)(G:Wn C n L ⟨ç,.store t x y,ty,p,af,g⟩)(D:∀w,(sizeOf t).run P w = .ok 1 w)
    (H:Sep M J A F w) (j q:Nat) (d:(A[j]?,ò q ck.length,evL L x,evL L y,v.oneCell')=(á (hol ad m O X k b o T ck U f2),ã,á (.pointer (á ⟨b,o+q,ç⟩)),á v,ã)) (e:∀w',S w->Ext (· = b) w w'->a_≠[]->S w')
    (N:∀w',Sep M J (A.set j (hol ad m O X k b o T (ck.set q v) U f2)) F w'->DL P n C Q S a_ L w'):DL P n C Q S ((i,â)::a_) L w:=by
  have⟨r,s,I,K,c⟩:=pj5 d;obtain⟨E,l,u,h⟩:=H.hset j r q (ü s) v
  exact G5 z G rfl (jM D I K c l u) (λf B=>e _ f (Ext.refl.put (.inl rfl)) B) (N _ h)
end
theorem Cc{z:Wld}(h:c7 z=0):(z.A3.getD 0 à).Ah.length<=200/\(z.A3.getD 1 à).Ah.length<=200:=by
  obtain⟨_,_,_,b,H⟩:=c5 h
  have m:z.A3.any fT=false:=by
    cases q:z.A3.any fT with
    | false=>rfl
    | true=>unfold il at H;rw[ae q] at H;omega
  have k:∀i,i<z.A3.length->(z.A3.getD i à).Ah.length<=200:=λi a=>by
    have:=FR (d:=à) m i a
    unfold fT at this
    simp only[aa] at this;omega
  exact⟨k 0 ω,k 1 ω⟩
theorem sy{t:Nat}{r:Rec}{z:Wld}(h:z.Ok):(layT t r z).Ok:=h
theorem Cb{z:Wld}(h:z.Ok):(FQ z).Ok:=h
theorem rV{z:Wld}(h:z.Ok)(a:z.Aa<=2000000000):(kR z).Ok:=by
  refine⟨h.1,?_,h.2.2⟩
  have H:=h.2.1
  show Ak (z.Aa+1)
  unfold Ak at H ⊢;omega
def eU (z:Wld) (m:Int):Bool:=decide (200<((z.A3.getD 0 à).Ah.length:Int)+m) || decide (200<((z.A3.getD 1 à).Ah.length:Int)+m)
def rL (z:Wld):Int:=200-max ((z.A3.getD 0 à).Ah.length:Int) ((z.A3.getD 1 à).Ah.length:Int)
theorem N1{z:Wld}(h:rL z<1):dI z=true:=by
  unfold rL at h;unfold dI
  simp only[bJ,ab];omega
theorem QI{z:Wld}(h:¬ rL z<1):dI z=false:=by
  unfold rL at h;unfold dI
  simp only[bz,aa];omega
theorem ui{z:Wld}(h:dI z=â):(z.A3.getD 0 à).Ah.length<200/\(z.A3.getD 1 à).Ah.length<200:=by
  unfold dI at h
  simp only[bz,aa] at h;omega
theorem uS{z:Wld}(h:¬ z.Stop = -1)(H:z.Aa >= z.Stop):cN z=true:=by
  unfold cN;simp;exact⟨h,H⟩
theorem nD{z:Wld}(h:z.Stop = -1\/¬ z.Aa >= z.Stop):cN z=false:=by
  unfold cN;simp only[bI,aa]
  rcases h with h|h
  · exact .inl gX
  · exact .inr ω
theorem vH{t:Nat}{r:Rec}{z:Wld}(h:cN z=â):(gc t r z).Down=z.Down:=by
  unfold gc;rw[eW h];rfl
theorem vB{z:Wld}{r:Rec}(h:cN z=ã):lj z r=gc 0 r z/\jL z r=false:=by
  unfold lj jL gc
  rw[h,lw h];exact⟨rfl,rfl⟩
theorem nW{z:Wld}{r:Rec}(h:cN z=â):lj z r=gc 1 r (gc 0 r z)/\jL z r = !cN (gc 0 r z):=by
  unfold lj jL
  rw[h];exact⟨rfl,rfl⟩
theorem PB:noWld.Ok:=by unfold Wld.Ok A0.Ok Ak noWld;dsimp only;omega
theorem iJ{w:ä}{c:Int}(h:Ak c):Res w w' [.int .i64 c,.int .i64 0,.int .i64 0,.int .i64 0,.int .i64 0,.int .i64 0,.int .i64 0,.int .i64 0,.int .i64 0,.int .i64 0,.slice ç 0 0,.slice ç 0 0,.slice ç 0 0,.int .i64 0,.int .i64 0,.bool â] (⟨c,noWld⟩:WldResult):=
  ⟨_,WldResult.own_mk (x:=⟨c,noWld⟩) ⟨h,PB⟩ (.inr (.inl ⟨rfl,rfl,rfl⟩)) (.inr (.inl ⟨rfl,rfl,rfl⟩)) (.inr (.inl ⟨rfl,rfl,rfl⟩)),List.nodup_nil,σ⟩
theorem Ln{t:Nat}{r:Rec}{z:Wld}(h:z.Ok)(H:z.Aa<=2000000000):(gc t r z).Ok:=by
  unfold gc pk;split
  · exact Cb h
  · exact rV (z:=layT t r z) (sy h) H
section
variable {w:ä}{d:Nat}
theorem Mc{t:ì}(o:C.toList[i]? = á ⟨á d,.alloc t,ty,p,af,g⟩)(c:Wn C n L ⟨á d,.alloc t,ty,p,af,g⟩)(a:ò d n=ã)(e:∀w,(zeroValue t).run P w = .ok z w)(H:Sep M J A F w)(h:∀w',S w->Ext No w w'->S w')
    (k:∀b w',Ext No w w'->w.heap.size<=b->Sep M J (A++[box b (.cells z.cells t)]) F w'->DL P n C Q S a_ ((d,.pointer (á ⟨b,0,ç⟩))::L) w'):DL P n C Q S ((i,â)::a_) L w:=
  Lq (v:=λb => .pointer (á ⟨b,0,ç⟩)) o c rfl a (IB e) H h k
end
structure Ac where
  r:Rec
  A6:Option ô
  C6:Nat
  A7:Option ô
  C7:Nat
  A8:Option ô
  C8:Nat
def Ac.cs (v:Ac):List è:=[.int .i64 v.r.Kind,.int .i64 v.r.Seq,.string v.r.Name,.int .i64 v.r.Length,.int .i64 v.r.Group,.int .i64 v.r.Row,.slice v.A6 v.r.Rows.length v.C6,.slice v.A7 v.r.Data.length v.C7,.slice v.A8 v.r.Ad.length v.C8]
instance:Inhabited Ac:=⟨⟨à,ç,0,ç,0,ç,0⟩⟩
theorem Ac.one{v:Ac}:∀x∈v.cs,x.oneCell'=true:=by
  intro x h
  simp only[Ac.cs,aM,aQ,bB] at h
  rcases h with rfl|rfl|rfl|rfl|rfl|rfl|rfl|rfl|rfl<;>rfl
instance:Rp Ac where
  sz:=9
  pos:=by decide
  own _ _ cs v fp:=cs=v.cs/\fp=[]/\v.r.Ok
  len h:=by rw[h.1];rfl
  one h v hv:=by rw[h.1] at hv;exact Ac.one v hv
  st h _:=h
  lt h b hb:=by rw[h.2.1] at hb;simp at hb
  weak h:=h
def se (w:ä):List Ac->List Nat->Prop
  | [],f=>f=[]
  | v::I,f=>∃U f2,f=U++f2/\own ã w v.cs v.r U/\se w I f2
theorem se.st{w:ä}:∀ {I f},se w I f->(∀b∈f,w'.heap[b]? = w.heap[b]?)->se w' I f
  | [],_,h,_=>h
  | v::I,f,⟨U,f2,e,H,a⟩,k=>by
    subst e
    exact⟨U,f2,rfl,Rp.st H λb hb=>k b mb,se.st a λb hb=>k b mb⟩
theorem se.lt{w:ä}:∀ {I f},se w I f->∀b∈f,b<w.heap.size
  | [],f,h,b,H=>by rw[show f=[] from h] at H;simp at H
  | v::I,f,⟨U,f2,e,a,c⟩,b,H=>by
    subst e
    rcases aI.1 H with H|H
    · exact Rp.lt a b H
    · exact se.lt c b H
theorem Jv{w:ä}:∀ {r:List Rec}{c fp},dg ã w c r fp->∃I:List Ac,I.map Ac.r=r/\dg ã w c I []/\se w I fp
  | [],c,fp,h=>⟨[],rfl,rfl,h⟩
  | x::X,c,fp,⟨U,f2,e,H,i⟩=>by
    obtain⟨A,C,a,d,b,f,F,m,n,E,l,o,O,p,q⟩:=dX H
    obtain⟨I,g,j,k⟩:=Jv i
    refine⟨⟨x,A,C,a,d,b,f⟩::I,by simp[g],⟨[],[],rfl,⟨E,rfl,o⟩,j⟩,⟨U,f2,e,?_,k⟩⟩
    rw[E] at H;exact H
theorem tu{w:ä}:∀ {I:List Ac}{c f} (i:Nat),dg ã w c I f->dg ã w c (I.take i) []/\f=[]
  | [],_,_,i,h=>by rw[List.take_nil];exact⟨rfl,h⟩
  | v::I,c,f,0,⟨g,G,e,⟨a,E,o⟩,H⟩=>by
    have:=(tu 0 H).2
    exact⟨rfl,by rw[e,E,this];rfl⟩
  | v::I,c,f,i+1,⟨g,G,e,⟨a,E,o⟩,H⟩=>by
    obtain⟨b,d⟩:=tu i H
    exact⟨⟨[],[],rfl,⟨a,rfl,o⟩,b⟩,by rw[e,E,d];rfl⟩
theorem RW{w:ä}{a n c}{r:List Rec}{F}(h:own ã w [.slice a n c] r F):∃(I:List Ac) (f U:List Nat),I.map Ac.r=r/\F=f++U/\own ã w [.slice a n c] I f/\se w I U:=by
  rcases h with ⟨s,_⟩|⟨e,rfl,rfl⟩|⟨b,o,C,E,T,g,fs,h1,i,j,k,h5,l,m,p⟩
  · cases s
  · exact⟨[],[],[],rfl,rfl,.inr (.inl ⟨e,rfl,rfl⟩),rfl⟩
  · obtain⟨I,d,q,H⟩:=Jv p
    have el:I.length=r.length:=by rw[<- d,aS]
    exact⟨I,[b],fs,d,by rw[i];rfl,.inr (.inr ⟨b,o,C,E,T,g,[],Dn,rfl,j,k,zx,l,m,q⟩),H⟩
def Bg (v:List Ac) (f:List Nat):Rsc:=⟨f,λw=>se w v f,λh k=>h.st k,λh=>h.lt⟩
section
variable {w:ä}
theorem Sep.B2(h:Sep M J A F w)(i:Nat){a n c}{v:List Ac}{f}(d:A[i]? = á (Wk.A4 [.slice a n c] v f))(k:Nat)(H:k<v.length):
    ∃b o,a=á ⟨b,o,ç⟩/\At w b (o+k*9) (v.getD k à).cs/\(v.getD k à).r.Ok:=by
  obtain⟨b,o,C,g,e,t,x,_⟩:=gh (h.A4 i d) k H
  rw[bX H]
  obtain⟨E,_,O⟩:=x
  exact⟨b,o,e,by rw[<- E];exact t,O⟩
end
section
variable {w:ä}{d:Option Tmp}{r:List ą}
theorem SM{t:ì}{x y:Â}{b o:Nat}{l:Nat}{X:List Ac}{u:Ac}(v:Wn C n L ⟨ç,.store t x y,ty,p,af,g⟩)(s:∀w,(sizeOf t).run P w = .ok 9 w)
    (H:Sep M J A F w) (i:Nat) (c:A[i]? = á (Wk.A4 [.slice ad l O] X fp)) (q:Nat) (m:q<X.length) (B:evL L x=á (.pointer (á ⟨b,o+q*9,ç⟩))) (d:ad=á ⟨b,o,ç⟩) (D:evL L y=á (.agg u.cs.toArray)) (G:u.r.Ok)
    (k:∀w' f,Sep M J (A.set i (Wk.A4 [.slice ad l O] (X.set q u) f)) F w'->RL P n C Q r L w') :
    RL P n C Q (⟨ç,.store t x y,ty,p,af,g⟩::r) L w:=by
  obtain⟨I,o',E,T,e,a,z,j⟩:=H.elset i c q m
  rw[d] at e
  obtain⟨rfl,rfl⟩:=e
  obtain⟨f,h⟩:=j u.cs u ⟨rfl,rfl,G⟩
  exact GW v rfl (o4 s B D rfl Ac.one a z) (k _ f h)
theorem OE{c:Array è}(h:∀v∈c.toList,v.oneCell'=ã):∀v∈(Ø c m).toList,v.oneCell'=true:=by
  intro v hv
  simp only[Ø,Array.toList_map,bY,List.mem_range] at hv
  obtain⟨i,H,rfl⟩:=hv
  have s:0<c.size:=by
    rcases Nat.eq_zero_or_pos c.size with e|e
    · rw[e] at H;simp at H
    · exact e
  have t:=Nat.mod_lt i s
  rw[getElem!_pos c _ t]
  exact h _ σ
theorem Px{o:ą}{v:è}(b:Wn C n L o)(d:o.dst=ç)(p:Pn P n L w o v w')
    (k:RL P n C Q r L w'):RL P n C Q (o::r) L w:=λa h=>wpList_step λK H=>by
  rw[ae (b a h)]
  unfold Oper.wp
  rw[p a h,Oper.upon_value,d]
  exact H _ _ (k _ h)
theorem Gn{l L:List è}{o n:Nat}(h:∀j,j<o+n->L[j]? = l[j]?):(L.drop o).take n=(l.drop o).take n:=by
  apply ĉ
  intro j
  rw[Ð,Ð]
  split
  · rw[Ñ,Ñ];exact h _ ω
  · rfl
theorem JQ{t:ì}{a:Option ô}{c:Nat}{w:ä}(h:P.underlying t=á (.slice e)):(ŝ #[t] ty #[.slice a 0 c]).run P w = .ok (.tuple #[]) w:=by
  cases a<;>simp[ŝ,þ h]
theorem KR{t:ì}{s c b o:Nat}{w:ä}(f:P.underlying t=á (.slice e))(h:Ty P e z s f_)(g:z.cells.size=s)(j:∀v∈z.cells.toList,v.oneCell'=ã)(H:w.heap[b]? = á (.cells E T (0,0)))(n:0<m)(p:o+m*s<=E.size):
    (ŝ #[t] ty #[.slice (á ⟨b,o,ç⟩) m c]).run P w = .ok (.tuple #[]) (Wk.put w b (.cells (lay E o (Ø z.cells m).toList) T (0,0))):=by
  obtain⟨i,a,d,k,l⟩:=h.parts
  have r:=kp (P:=P) (Ø z.cells m).toList w o 0 E H (OE j) (by simp only[Array.length_toList,size_zeroCells,g];omega)
  obtain⟨M,rfl⟩:∃M,m=M+1:=⟨m-1,ω⟩
  simp[ŝ,þ f,zeroValue,Y?,a,d,r]
theorem P9{t:ì}{x:Â}{b f c:Nat}{X:List Ac}(U:Wn C n L ⟨ç,.call ⟨.builtin .clear,#[x],#[t]⟩,ty,p,af,g⟩)(S:P.underlying t=á (.slice e))(hT:Ty P e z 9 f_)(hz:z.cells.size=9)(e_:∀v∈z.cells.toList,v.oneCell'=ã)
    (h:evL L x=á (.slice (slA (á ⟨b,f,ç⟩) k O 9) l c)) (hl:l=X.length-k) (hk:k<=X.length)
    (H:Sep M J A F w) (i:Nat) (q:A[i]? = á (Wk.A4 [.slice (á ⟨b,f,ç⟩) m O] X fp))
    (V:∀w',Sep M J (A.set i (Wk.A4 [.slice (á ⟨b,f,ç⟩) k O] (X.take k) fp)) F w'->RL P n C Q r L w') :
    RL P n C Q (⟨ç,.call ⟨.builtin .clear,#[x],#[t]⟩,ty,p,af,g⟩::r) L w:=by
  subst hl
  have o:=H.A4 i q
  rcases o with ⟨hf,_⟩|⟨W,_⟩|⟨D,o',g_,E,T,fr,fs,G,h2,u,h4,h5,I,y,h8⟩
  · cases hf
  · simp at W
  · simp at G
    obtain⟨⟨rfl,rfl⟩,hm,hc⟩:=G
    subst hc
    have c_:=h4 rfl
    subst c_
    obtain⟨K,a_⟩:=tu k h8
    subst a_
    subst h2
    have R:=H.Aj q
    have Y:sz Ac=9:=rfl
    have d:(X.take k).length=k:=by rw[aY];omega
    rcases Nat.eq_zero_or_pos (X.length-k) with e|e
    · have s:=JQ (ty:=ty) (w:=w) (a:=slA (á ⟨b,f,ç⟩) k O 9) (c:=c) S
      rw[<- e] at s
      refine Px U rfl (v := .tuple #[]) (w':=w) (λa B=>?_) (V _ (H.conv i _ q (.inr (.inr ⟨b,f,O,E,T,(0,0),[],by rw[d],rfl,u,λ_=>rfl,by rw[d];omega,I,y,K⟩)) (λb hb=>hb) R))
      simp[À,ũ,X_,builtin,B.eval h,s]
    · have ea:slA (á ⟨b,f,ç⟩) k O 9=á ⟨b,f+k*9,ç⟩:=by
        unfold slA;rw[ac ω];simp[lu]
      rw[ea] at h
      have d_:f+k*9+(X.length-k)*9<=E.size:=by rw[Y] at y;omega
      have s:=KR (ty:=ty) (c:=c) S hT hz e_ u e d_
      have hE:Ext (· = b) w (Wk.put w b (.cells (lay E (f+k*9) (Ø z.cells (X.length-k)).toList) T (0,0))):=Ext.refl.put (.inl rfl)
      refine Px U rfl (v := .tuple #[]) (w':=Wk.put w b _) (λa B=>?_) (V _ (H.set q (hE.mono λD _ e=>by subst e;simp[Wk.A4])
        (.inr (.inr ⟨b,f,O,_,T,(0,0),[],by rw[d],rfl,kJ u,λ_=>rfl,by rw[d];omega,I,by rw[rp];exact y,(K.congr (Gn λj N=>?_)).st λx h=>by simp at h⟩)) R (λD b_ => .inl b_)))
      · simp[À,ũ,X_,builtin,B.eval h,s]
      · rw[d] at N
        rw[Ş,Ş]
        exact Cj _ _ _ _ (.inl N)
end
def wv (p:Rec->Bool) (R:List Rec):List Rec:=R.filter λr => !p r
def mt (p:Rec->Bool) (V:List Ac):List Ac:=V.filter λv => !p v.r
theorem zg{p:Rec->Bool}{v:List Ac}:(mt p v).map Ac.r=wv p (v.map Ac.r):=by
  unfold mt wv;rw[List.filter_map];rfl
theorem vz{p:Rec->Bool}{v:List Ac}:(mt p v).Sublist v:=List.filter_sublist
theorem AS{p:Rec->Bool}{v:List Ac}(H:k<v.length)(h:p (v.getD k à).r=â):mt p (v.take (k+1))=mt p (v.take k)++[v.getD k à]:=by
  rw[<- ii (d:=à) H]
  unfold mt
  rw[ă,Ą (by simp only[h,Bool.not_false]),List.filter_nil]
theorem Cx{p:Rec->Bool}{v:List Ac}(H:k<v.length)(h:p (v.getD k à).r=ã):mt p (v.take (k+1))=mt p (v.take k):=by
  rw[<- ii (d:=à) H]
  unfold mt
  rw[ă,đ (by simp only[h];exact Bool.false_ne_true),List.filter_nil,List.append_nil]
theorem ED{p:Rec->Bool}{v:List Ac}:∀ {k:Nat},k<=v.length->(∀i,i<k->p (v.getD i à).r=â)->mt p (v.take k)=v.take k
  | 0,_,_=>by simp[mt]
  | k+1,a,h=>by
    rw[AS ω (h k ω),ED ω λi H=>h i ω,ii ω]
theorem MH{p:Rec->Bool}{v:List Ac}:(mt p (v.take k)).length<=k:=by
  have h:(mt p _).length<=(v.take k).length:=List.length_filter_le _ _
  rw[aY] at h;omega
theorem J1{p:Rec->Bool}{r:List Rec}(h:fO p r = -1):wv p r=r:=by
  unfold fO at h
  cases H:r.findIdx? p with
  | some k=>rw[H] at h;simp only at h;omega
  | none=>
    rw[List.findIdx?_eq_none_iff] at H
    unfold wv
    rw[List.filter_eq_self]
    intro a b
    have:=H a b
    simpa using this
theorem Bz{a:Type}{p:a->Bool}{x:List a}{d:a}(h:¬ fO p x = -1):∃k:Nat,fO p x=k/\k<x.length/\p (x.getD k d)=ã/\∀i,i<k->p (x.getD i d)=false:=by
  unfold fO at h ⊢
  cases H:x.findIdx? p with
  | none=>rw[H] at h;simp at h
  | some k=>
    rw[Ĭ] at H
    obtain⟨b,c,e⟩:=H
    refine⟨k,rfl,b,by rw[bX b];exact c,λi f=>?_⟩
    have:=e i f
    rw[bX ω]
    simpa using this
theorem H5{v:List Ac}:(v.map Ac.r).getD k à=(v.getD k à).r:=by
  simp
  cases v[k]? <;> rfl
def DInv (p:Rec->Bool) (v w:List Ac) (i j:Nat):Prop:=j<=v.length/\w.length=v.length/\i<j/\w.take i=mt p (v.take j)/\w.drop j=v.drop j
section
variable {p:Rec->Bool}{a b:List Ac}
theorem Ss(h:DInv p a b i j):b.getD j à=a.getD j default:=by
  have:=congrArg (λl=>l.getD 0 à) h.2.2.2.2
  simpa using this
theorem JZ(b:k<a.length)(h:p (a.getD k à).r=ã)(H:∀i,i<k->p (a.getD i à).r=â):DInv p a a k (k+1):=
  ⟨ω,rfl,ω,by rw[Cx b h,ED ω H],rfl⟩
theorem Rh(h:DInv p a b i j)(e:j<a.length)(f:p (a.getD j à).r=ã):DInv p a b i (j+1):=by
  obtain⟨g,H,k,c,d⟩:=h
  refine⟨ω,H,ω,by rw[Cx e f];exact c,?_⟩
  have:=congrArg (List.drop 1) d
  simpa using this
theorem O0(h:DInv p a b i j)(f:j<a.length)(g:p (a.getD j à).r=â):DInv p a (b.set i (a.getD j à)) (i+1) (j+1):=by
  obtain⟨k,H,l,c,e⟩:=h
  refine⟨ω,by rw[bE];exact H,ω,?_,?_⟩
  · rw[AS f g,<- c,<- ii (d:=à) np,List.take_set_of_le ω]
    congr 2
    rw[d8,ae ⟨rfl,ω⟩]
  · rw[List.drop_set_of_lt ω]
    have:=congrArg (List.drop 1) e
    simpa using this
theorem Qb(h:DInv p a b i j)(H:j=a.length):b.take i=mt p a:=by
  subst H
  have:=h.2.2.2.1
  rwa[List.take_length] at this
end
theorem dK{w:ä}{v:Ac}(o:v.r.Ok):own ã w v.cs v []:=⟨rfl,rfl,o⟩
section
variable {w:ä}
theorem Sep.viewSeen(h:Sep M J A F w)(i:Nat){a n C}{v:List Ac}{f}(d:F[i]? = á (Wk.Ab s [.slice a n C] v f))(k:Nat)(c:k<v.length):
    ∃b o,a=á ⟨b,o,ç⟩/\At w b (o+k*9) (v.getD k à).cs/\(v.getD k à).r.Ok:=by
  have H:=h.fs _ (æ d)
  obtain⟨b,o,g,j,e,t,H,_⟩:=gh H k c
  rw[bX c]
  obtain⟨E,_,O⟩:=H
  exact⟨b,o,e,by rw[<- E];exact t,O⟩
end
structure LinO {K:Type}(lt:K->K->Prop):Prop where
  irr:∀a,¬ lt a a
  tr:∀a b c,lt a b->lt b c->lt a c
  tot:∀a b,lt a b\/a=b\/lt b a
section
variable {α K:Type}{lt:K->K->Prop}{key:α->K}
inductive Ord (lt:K->K->Prop) (key:α->K):List α->Prop
  | nil:Ord lt key []
  | cons {x xs}:(∀y∈xs,¬ lt (key y) (key x))->Ord lt key xs->Ord lt key (x::xs)
theorem Ord.app{X Y:List α}(h:Ord lt key X)(k:Ord lt key Y)(c:∀x∈X,∀y∈Y,¬ lt (key y) (key x)):Ord lt key (X++Y):=by
  induction h with
  | nil=>exact k
  | cons d g i=>
    rename_i x l
    refine .cons (λy H=>?_) (i λa e b f=>c a (by simp[e]) b f)
    rcases aI.1 H with H|H
    · exact d y H
    · exact c x σ y H
theorem Ord.left{X Y:List α}(h:Ord lt key (X++Y)):Ord lt key X:=by
  induction X with
  | nil=>exact .nil
  | cons x X i=>
    cases h with
    | cons H a=>exact .cons (λy b=>H y (by simp[b])) (i a)
theorem Ord.right{X y:List α}(h:Ord lt key (X++y)):Ord lt key y:=by
  induction X with
  | nil=>exact h
  | cons x X i=>
    cases h with
    | cons a H=>exact i H
theorem Ord.le{X Y:List α}(h:Ord lt key (X++Y)):∀x∈X,∀y∈Y,¬ lt (key y) (key x):=by
  induction X with
  | nil=>simp
  | cons x X i=>
    cases h with
    | cons c d=>
      intro a H b hb
      rcases aM.1 H with rfl|H
      · exact c b mb
      · exact i d a H b hb
end
section
variable {q K:Type}[DecidableEq K] {r:K->K->Prop}{d:q->K}
def fw (y:q->K) (X Y:List q):Prop:=∀k,(Y.filter λx=>decide (y x=k))=X.filter λx=>decide (y x=k)
def Stable (l:K->K->Prop) (k:q->K) (x y:List q):Prop:=Ord l k y/\fw k x y
theorem fw.refl{xs:List q}:fw d xs xs:=λ_=>rfl
theorem fw.trans{x y z:List q}(h:fw d x y)(k:fw d y z):fw d x z:=λc=>(k c).trans (h c)
theorem fw.symm{x y:List q}(h:fw d x y):fw d y x:=λc=>(h c).symm
theorem fw.app{x y X Y:List q}(h:fw d x y)(k:fw d X Y):fw d (x++X) (y++Y):=λc=>by
  rw[ă,ă,h c,k c]
theorem fw.mem{X Y:List q}(h:fw d X Y){x:q}(H:x∈Y):x∈X:=by
  have:x∈Y.filter λy=>decide (d y=d x):=by rw[Ģ];exact⟨H,σ⟩
  rw[h (d x),Ģ] at this
  exact this.1
theorem fw.len{X Y:List q}:fw d X Y->Y.length=X.length:=by
  induction X generalizing Y with
  | nil=>
    intro h
    cases Y with
    | nil=>rfl
    | cons y Y=>exact absurd (h.mem (x:=y) σ) σ
  | cons x X I=>
    intro h
    have j:=h (d x)
    rw[Ą σ] at j
    have K:∀(l:List q) (r:List q),(l.filter λy=>decide (d y=d x))=x::r->∃L a,l=L++x::a/\(∀y∈L,d y≠d x)/\(a.filter λy=>decide (d y=d x))=r:=by
      intro l
      induction l with
      | nil=>intro r h;simp at h
      | cons y l o=>
        intro r h
        by_cases c:d y=d x
        · rw[Ą (by simp[c])] at h
          injection h with H b
          exact⟨[],l,by rw[H];rfl,σ,b⟩
        · rw[đ (by simp[c])] at h
          obtain⟨L,a,e,H,b⟩:=o r h
          exact⟨y::L,a,by rw[e];rfl,λz i=>by rcases aM.1 i with rfl|i;exact c;exact H z i,b⟩
    obtain⟨L,a,e,H,b⟩:=K Y _ j
    have m:fw d X (L++a):=λk=>by
      have f:=h k
      rw[e,ă] at f
      rw[ă]
      by_cases g:d x=k
      · subst g
        rw[show _=[] from ċ.2 λy c=>by simp[H y c]]
        exact b
      · rw[đ (by simp[g]),đ (by simp[g])] at f
        exact f
    have n:=I m
    rw[e,aO,aR,aR]
    rw[aO] at n
    omega
theorem Iz(l:LinO r):∀ {ys s:List q},Ord r d ys->Ord r d s->fw d ys s->ys=s
  | [],s,_,_,h=>by
    have:=h.len
    exact(í this).symm
  | y::ys,[],_,_,h=>by have:=h.len;simp at this
  | y::ys,z::s,.cons A b,.cons B f,h=>by
    have j:d y=d z:=by
      rcases l.tot (d y) (d z) with c|c|c
      · have H:y∈z::s:=(fw.symm h).mem σ
        rcases aM.1 H with e|e
        · rw[e]
        · exact absurd c (B y e)
      · exact c
      · have H:z∈y::ys:=h.mem σ
        rcases aM.1 H with e|e
        · rw[e]
        · exact absurd c (A z e)
    have a:=h (d y)
    rw[Ą (by simp[j]),Ą σ] at a
    injection a with g m
    subst g
    have i:=λk=>by
      have:=h k
      by_cases e:d z=k
      · rw[Ą (by simp[e]),Ą (by simp[e])] at this
        exact(List.cons.inj this).2
      · rw[đ (by simp[e]),đ (by simp[e])] at this
        exact this
    rw[Iz l b f i]
theorem wy(H:LinO r){x y z:List q}(h:Stable r d x y)(k:Stable r d x z):y=z:=
  Iz H h.1 k.1 (h.2.symm.trans k.2)
theorem fw.swap{X Y:List q}(h:∀x∈X,∀y∈Y,d x≠d y):fw d (X++Y) (Y++X):=λk=>by
  rw[ă,ă]
  by_cases H:∃x∈X,d x=k
  · obtain⟨x,H,e⟩:=H
    rw[show _=[] from ċ.2 λy a=>by
      have:=h x H y a
      simp;intro E;exact this (e.trans E.symm)]
    simp
  · rw[show(X.filter λy=>decide _)=[] from ċ.2 λy a=>by
      simp;intro E;exact H ⟨y,a,E⟩]
    simp
theorem lf(l:LinO r){X A B:List q}{x:q}(h:Stable r d X (A++B))(f:∀y∈B,r (d x) (d y))(j:∀y∈A,¬ r (d x) (d y)):Stable r d (X++[x]) (A++x::B):=by
  refine⟨?_,?_⟩
  · refine h.1.left.app (.cons (λy c t=>l.irr _ (l.tr _ _ _ t (f y c))) h.1.right) λa g b H=>?_
    rcases aM.1 H with rfl|H
    · exact j a g
    · exact h.1.le a g b H
  · have i:fw d ((A++B)++[x]) (A++(x::B)):=by
      rw[List.append_assoc]
      refine fw.refl.app (fw.swap λb H y c e=>?_)
      rw[aD] at c
      subst c
      have:=f b H
      rw[e] at this
      exact l.irr _ this
    exact(h.2.app (fw.refl)).trans i
end
section
variable {d:Type}
def seg (l:List d) (a b:Nat):List d:=(l.take b).drop a
theorem iX{l:List d}{a b:Nat}(h:b<=l.length):(seg l a b).length=b-a:=by
  unfold seg;rw[bZ,aY];omega
theorem fP{l:List d}{a b c:Nat}(h:a<=b)(H:b<=c):seg l a b++seg l b c=seg l a c:=by
  apply ĉ
  intro j
  unfold seg
  rw[List.getElem?_append]
  simp only[bZ,aY,Ñ,Ð]
  by_cases e:b<=l.length
  · rw[show min b l.length=b by omega]
    by_cases C:j<b-a
    · rw[ae C,ae ω,ae ω]
    · rw[ac C]
      rw[show b+_=a+j by omega]
  · rw[show min b l.length=l.length by omega]
    by_cases C:j<l.length-a
    · rw[ae C,ae ω,ae ω]
    · rw[ac C]
      rw[Í (show l.length<=b+_ by omega),Í (show l.length<=a+j by omega)]
      split<;>split<;>rfl
def kT (l:List d) (x y z:Nat):List d:=l.take x++(seg l y z++(seg l x y++l.drop z))
theorem oU{l:List d}{x y z:Nat}(h:x<=y)(H:y<=z)(a:z<=l.length):(kT l x y z).length=l.length:=by
  unfold kT
  rw[aO,aO,aO,iX ω,iX ω,aY,bZ];omega
end
section
variable {c:Type}[Inhabited c]
def mV (l:List c) (a b:Nat):Nat->List c
  | 0=>l
  | i+1=>((mV l a b i).set (a+i) ((mV l a b i).getD (b+i) à)).set (b+i) ((mV l a b i).getD (a+i) à)
theorem iU{l:List c}{a b:Nat}:∀ {n},(mV l a b n).length=l.length
  | 0=>rfl
  | n+1=>by rw[mV,bE,bE];exact iU
theorem yq{l:List c}{a b:Nat}:∀ {n:Nat},a+n<=b->b+n<=l.length->∀j,(mV l a b n).getD j à=l.getD (if a<=j/\j<a+n then b+(j-a) else if b<=j/\j<b+n then a+(j-b) else j) à
  | 0,_,_,j=>by rw[ac ω,ac ω];rfl
  | n+1,H,d,j=>by
    have i:=yq (l:=l) (a:=a) (b:=b) (n:=n) ω ω
    have f:=iU (l:=l) (a:=a) (b:=b) (n:=n)
    rw[mV,d8,d8,bE,i,i,i]
    by_cases e:j=b+n
    · subst e
      rw[ae ⟨rfl,ω⟩,ac ω,ac ω,ac ω,ae ω]
      congr 1;omega
    · rw[ac (λh=>e h.1)]
      by_cases E:j=a+n
      · subst E
        rw[ae ⟨rfl,ω⟩,ac ω,ac ω,ae ω]
        congr 1;omega
      · rw[ac (λh=>E h.1)]
        congr 1
        (repeat' split)<;>omega
theorem kQ{l:List c}{a b:Nat}(h:a+j<b):(seg l a b).getD j à=l.getD (a+j) default:=by
  unfold seg;simp only[ū,Ñ,Ð];rw[ae h]
theorem tF{l:List c}{x y z:Nat}(h:x<=y)(H:y<=z)(g:z<=l.length)(j:Nat):(kT l x y z).getD j à=l.getD (if j<x then j else if j<x+(z-y) then y+(j-x) else if j<z then x+(j-x-(z-y)) else j) default:=by
  have E:=iX (a:=y) ω
  have f:=iX (l:=l) (a:=x) (b:=y) ω
  unfold kT
  by_cases C:j<x
  · rw[ae C,ku (by rw[aY];omega)]
    simp only[ū,Ð];rw[ae C]
  · rw[ac C,lL (by rw[aY];omega),aY,show min x l.length=x by omega]
    by_cases d:j<x+(z-y)
    · rw[ae d,ku ω,kQ ω]
    · rw[ac d,lL ω,E]
      by_cases e:j<z
      · rw[ae e,ku ω,kQ ω]
      · rw[ac e,lL ω]
        simp
        congr 2;omega
theorem yA{x y:List c}(h:x.length=y.length)(k:∀j,x.getD j à=y.getD j à):x=y:=js h λj _=>k j
theorem RG{l:List c}(H:i<=m)(h:m+i<=l.length):mV l (m-i) m i=kT l (m-i) m (m+i):=
  yA (by rw[iU,oU ω ω h]) λj=>by
    rw[yq ω h,tF ω ω h]
    congr 1
    split<;>(repeat' split)<;>omega
theorem QW{l:List c}(a:j<i)(H:i<=m)(h:m+j<=l.length):kT (mV l (m-i) m j) (m-i+j) m (m+j)=kT l (m-i) m (m+j):=
  yA (by rw[oU ω ω (by rw[iU];omega),iU,oU ω ω h]) λq=>by
    rw[tF ω ω (by rw[iU];omega),yq ω h,tF ω ω h]
    congr 1
    (repeat' split)<;>omega
theorem NE{l:List c}(a:i<j)(H:i<=m)(h:m+j<=l.length):kT (mV l (m-i) (m+j-i) i) (m-i) m (m+j-i)=kT l (m-i) m (m+j):=
  yA (by rw[oU ω ω (by rw[iU];omega),iU,oU ω ω h]) λq=>by
    rw[tF ω ω (by rw[iU];omega),yq ω ω,tF ω ω h]
    congr 1
    (repeat' split)<;>omega
end
def kLt (a b:Int × Int × Int):Prop:=a.1<b.1\/a.1=b.1/\(a.2.1<b.2.1\/a.2.1=b.2.1/\a.2.2<b.2.2)
theorem su:LinO kLt where
  irr a h:=by unfold kLt at h;omega
  tr a b c h k:=by unfold kLt at h k ⊢;omega
  tot a b:=by
    by_cases h:kLt a b
    · exact .inl h
    · by_cases k:kLt b a
      · exact .inr (.inr k)
      · refine .inr (.inl ?_)
        obtain⟨A,d,e⟩:=a
        obtain⟨B,f,g⟩:=b
        unfold kLt at h k
        dsimp only at h k
        rw[show A=B by omega,show d=f by omega,show e=g by omega]
def eQ (r:Rec):Int × Int × Int:=(r.Seq,r.Kind,r.Group)
def gD (v:Ac):Int × Int × Int:=eQ v.r
def rW (a b:Int):Int:=if a<b then -1 else if b<a then 1 else 0
def cfR (x y:Rec):Int:=if rW x.Seq y.Seq≠0 then rW x.Seq y.Seq else if rW x.Kind y.Kind≠0 then rW x.Kind y.Kind else rW x.Group y.Group
theorem ww{x y:Rec}:cfR x y<0↔kLt (eQ x) (eQ y):=by
  unfold cfR rW kLt eQ
  dsimp only
  all_goals omega
section
variable {w:ä}
theorem jo{t:ì}{x y:Â}{b o:Nat}{a:Nat}{X:List Ac}{u:Ac}(z:C.toList[l]? = á ⟨ç,.store t x y,ty,p,af,g⟩)(K:Wn C n L ⟨ç,.store t x y,ty,p,af,g⟩)(G:∀w,(sizeOf t).run P w = .ok 9 w)
    (H:Sep M J A F w) (i:Nat) (s:A[i]? = á (Wk.A4 [.slice ad a O] X fp)) (q:Nat) (B:q<X.length) (c:(evL L x,ad,evL L y)=(á (.pointer (á ⟨b,o+q*9,ç⟩)),á ⟨b,o,ç⟩,á (.agg u.cs.toArray))) (U:u.r.Ok)
    (d:∀w',S w->Ext (· = b) w w'->a_≠[]->S w')
    (k:∀w' f,Sep M J (A.set i (Wk.A4 [.slice ad a O] (X.set q u) f)) F w'->DL P n C Q S a_ L w') :
    DL P n C Q S ((l,â)::a_) L w:=by
  have⟨N,m,R⟩:=pj3 c;obtain⟨V,o',E,T,e,r,I,v⟩:=H.elset i s q B
  rw[m] at e
  obtain⟨rfl,rfl⟩:=e
  obtain⟨f,h⟩:=v u.cs u ⟨rfl,rfl,U⟩
  exact G5 z K rfl (o4 G N R rfl Ac.one r I) (λj D=>d _ j (Ext.refl.put (.inl rfl)) D) (k _ f h)
end
end Go.Wk
