/-
  Laws on walking, and the functions walked, each once: what this claim comes to.
-/
import Derived.Test.YtpgldfafbpkofaaGreatZQ3
set_option linter.unusedVariables false
set_option linter.unusedSimpArgs false
set_option maxHeartbeats 8000000
open Array renaming getElem?_eq_some_iff->ø
open Bool renaming eq_false_iff->ŉ,false->â,true->ã,true_and->Þ
open Go renaming Addr->ô,Operand->Â,TypeId->ì,Value->è,World->ä,maxLen->Ë
open Go.Proofs.Tryz renaming func47->Ā,func67->Ļ,zeroValue31->Ç,zeroValue57->Ķ,zeroValue76->Ä
open Go.Value renaming string->į
open Inhabited renaming default->à
open Int renaming le_refl->ĩ,tdiv_eq_ediv_of_nonneg->Ċ
open List renaming all_eq_true->û,any_eq_false->ē,append_assoc->Î,append_nil->Į,dropLast_concat_getLast->ĺ,eq_nil_of_length_eq_zero->í,filter_append->ă,flatMap_cons->Œ,foldl_append->ı,getD->ū,getD_cons_succ->ę,getD_cons_zero->ŭ,getElem?_eq_getElem->Ã,getElem?_eq_some_iff->ñ,getElem?_set_self->ÿ,getElem_of_mem->ð,getElem_replicate->ć,length_singleton->È,map_cons->Ï,mem_append_left->Ó,mem_append_right->Ù,mem_cons_of_mem->Đ,mem_cons_self->ď,mem_filter->Ģ,mem_flatten->ĕ,mem_of_getElem?->æ,mem_of_mem_take->š,mem_or_eq_of_mem_set->Ņ,mem_replicate->Ğ,nil_append->Ý,nodup_append->ë,nodup_cons->ù,pairwise_append->Ţ,pairwise_iff_getElem->Ň,perm_append_comm->ş,replicate->å,set_set->Ò,take_add_one->ĥ,take_length->ö
open Nat renaming beq->î,blt->ò,mul_le_mul_right->Å,one_mul->ľ,zero_le->ý
open Option renaming none->ç,some->á
namespace Go.Wk
open Go.Proofs Rp Go.Proofs.Tryz
set_option maxRecDepth 10000
variable {O F:Option ô}{P G W R q u y T:Nat}{z:Wld}
theorem d9{w:ä}{x:List Int}(S:aj w O x P)(l:x.length<=100000000):am 67 [ak O x P] w λv W=>Res w W [v] x:=by
 obtain⟨F,X⟩:=S;refine bv Ļ Z (λQ f N=>?_);have H:=Sep.start (aC X ba);refine aG 75074 ?_;refine sV Z (Cv cS Z Z) (aH (gG Z (λa=>?_) (λa=>?_)))
 .refine aT (rA f Z Z ?_);have e:x=[]:=Cu X a;exact⟨H.ext,e ▸ ⟨[],.inr (.inl ⟨Z,Z,Z⟩),.nil,σ⟩⟩
 refine bi (aT (dG (f:=Int) aB Z cS bV H (λH a b c d=>sM Z (ma aB Z cS bV Z d 0 Z (d.Ab 0 Z) ic ia (λH a b c=>rA f Z Z ?_)))))
 exact⟨c.ext,by
  have h:=c.out 0 Z
  rwa[Ý] at h⟩

theorem cq{w:ä}{x:List UInt8}(S:aj w O x P)(l:x.length<=100000000):am 47 [ak O x P] w λv W=>Res w W [v] x:=by
 obtain⟨F,X⟩:=S;refine bv Ā Z (λQ f N=>?_);have H:=Sep.start (aC X ba);refine aG 75074 ?_;refine sV Z (Cv cJ Z Z) (aH (gG Z (λa=>?_) (λa=>?_)))
 .refine aT (rA f Z Z ?_);have e:x=[]:=Cu X a;exact⟨H.ext,e ▸ ⟨[],.inr (.inl ⟨Z,Z,Z⟩),.nil,σ⟩⟩
 refine bi (aT (dG (f:=UInt8) aB Z cJ b6 H (λH a b c d=>sM Z (ma aB Z cJ b6 Z d 0 Z (d.Ab 0 Z) ic ia (λH a b c=>rA f Z Z ?_)))))
 exact⟨c.ext,by
  have h:=c.out 0 Z
  rwa[Ý] at h⟩

theorem jG{w:ä}{r:Rec}{R D E:Option ô}(K:r.Ok)(F:aj w R r.Rows q)(G:aj w D r.Data u)(I:aj w E r.Ad y)(J:fH r<=1048576):am 111 [r.val R q D u E y] w λv W=>∃A C e z x B,v=r.val A C e z x B/\Res w W [ag r.Kind,ag r.Seq,.string r.Name,ag r.Length,ag r.Group,ag r.Row,ak A r.Rows C,ak e r.Data z,ak x r.Ad B] r:=by
 have H:=cx K;have H:=sL F;obtain⟨H,a⟩:=F;have H:=sL G;obtain⟨H,b⟩:=G;have H:=sL I;obtain⟨H,c⟩:=I;unfold fH at J;refine bv func111 Z (λQ h N=>?_);have H:=Sep.start (aC a (aC b (aC c ba)));refine aT (ci aB Z H (λH a b c d=>cz aB Z Ä d (λa b c d f=>aH (aW (eE (S:=Ext (· ∈ [H]) _) (oQ [1,7,13,2178,2,2064,4,2040,8,2018,10,14,19,16,20,23,24,27,28,14,19,10,16,20,23,24,27,28,14,8,19,10,16,20,23,24,27,28,2064,8,2040,4,2018,10,14,19,16,20,23,24,27,28,14,19,10,16,20,23,24,27,28,14,4,19,10,16,20,23,24,27,28,14,2020,4,8,19,10,16,20,23,24,27,28,8,4,19,10,16,20,23,24,27,28,2090,8,2064,2,2040,4,2018,10,14,19,16,20,23,24,27,28,14,19,10,16,20,23,24,27,28,14,4,19,10,16,20,23,24,27,28,14,2,4,19,10,16,20,23,24,27,28,14,2044,2,2020,4,8,19,10,16,20,23,24,27,28,8,4,19,10,16,20,23,24,27,28,8,2,4,19,10,16,20,23,24,27,28]) κ κ κ Z τ6 (λH=>?_))))));have g:=f.drawn H;refine aG 22268802351 ?_;refine dF Z ?_ ?_
 .refine dD Z aB Z (bp cS Z (bD (g.box 0 Z) Z)) (dF Z ?_ ?_)
  .refine dC Ļ Z (d9 (g.Ae 0 Z) ω) (λH a b=>?_);obtain⟨H,b⟩:=b;obtain⟨a,i⟩:=g.res H b;obtain⟨H,a,j⟩:=aL (i.A4 2 Z);cases j;refine dF Z ?_ ?_
   .refine dD Z aB Z (bp cJ Z (bD (i.box 0 Z) Z)) (dF Z ?_ ?_)
    .refine dC Ā Z (cq (i.Ae 1 Z) ω) (λH a b=>?_);obtain⟨H,b⟩:=b;obtain⟨a,k⟩:=i.res H b;obtain⟨H,a,l⟩:=aL (k.A4 3 Z);cases l;refine aX 5437439 k ?_;refine dC Ā Z (cq (k.Ae 2 Z) ω) (λH a b=>?_);obtain⟨H,b⟩:=b;obtain⟨a,m⟩:=k.res H b;obtain⟨H,a,n⟩:=aL (m.A4 4 Z);cases n;refine dm Z aB eF Z m 0 Z τ (λH a b=>dV Z τ2 (dm Z aB cH Z b 0 Z τ (λH a b=>dV Z τ2 (dm Z aB cH Z b 0 Z τ (λH a b=>aX 69148751 b ?_)))));refine bw aB cy Z b 1 Z (λH a b=>?_);replace b:=bt b;exact aH (dT h (b.box 1 Z) Z ⟨b.ext,_,_,_,_,_,_,Z,Rec.out (b.au_pk 28) η⟩)
    refine aX 5437439 i ?_;refine dC Ā Z (cq (i.Ae 1 Z) ω) (λH a b=>?_);obtain⟨H,b⟩:=b;obtain⟨a,o⟩:=i.res H b;obtain⟨H,a,p⟩:=aL (o.A4 3 Z);cases p;refine dC Ā Z (cq (o.Ae 2 Z) ω) (λH a b=>?_);obtain⟨H,b⟩:=b;obtain⟨a,s⟩:=o.res H b;obtain⟨H,a,t⟩:=aL (s.A4 4 Z);cases t;refine dm Z aB eF Z s 0 Z τ (λH a b=>dV Z τ2 (dm Z aB cH Z b 0 Z τ (λH a b=>dV Z τ2 (dm Z aB cH Z b 0 Z τ (λH a b=>aX 69148751 b ?_)))));refine bw aB cy Z b 1 Z (λH a b=>?_);replace b:=bt b;exact aH (dT h (b.box 1 Z) Z ⟨b.ext,_,_,_,_,_,_,Z,Rec.out (b.au_pk 28) η⟩)
   refine aX 22271752191 i ?_;refine dC Ā Z (cq (i.Ae 1 Z) ω) (λH a b=>?_);obtain⟨H,b⟩:=b;obtain⟨a,c⟩:=i.res H b;obtain⟨H,a,d⟩:=aL (c.A4 3 Z);cases d;refine dC Ā Z (cq (c.Ae 2 Z) ω) (λH a b=>?_);obtain⟨H,b⟩:=b;obtain⟨a,f⟩:=c.res H b;obtain⟨H,a,i⟩:=aL (f.A4 4 Z);cases i;refine dm Z aB eF Z f 0 Z τ (λH a b=>dV Z τ2 (dm Z aB cH Z b 0 Z τ (λH a b=>dV Z τ2 (dm Z aB cH Z b 0 Z τ (λH a b=>aX 69148751 b ?_)))));refine bw aB cy Z b 1 Z (λH a b=>?_);replace b:=bt b;exact aH (dT h (b.box 1 Z) Z ⟨b.ext,_,_,_,_,_,_,Z,Rec.out (b.au_pk 28) η⟩)
  refine dF Z ?_ ?_
  .refine dD Z aB Z (bp cJ Z (bD (g.box 0 Z) Z)) (dF Z ?_ ?_)
   .refine dC Ļ Z (d9 (g.Ae 0 Z) ω) (λH a b=>?_);obtain⟨H,b⟩:=b;obtain⟨a,j⟩:=g.res H b;obtain⟨H,a,k⟩:=aL (j.A4 2 Z);cases k;refine dF Z ?_ ?_
    .refine dC Ā Z (cq (j.Ae 1 Z) ω) (λH a b=>?_);obtain⟨H,b⟩:=b;obtain⟨a,l⟩:=j.res H b;obtain⟨H,a,m⟩:=aL (l.A4 3 Z);cases m;refine aX 5437439 l ?_;refine dC Ā Z (cq (l.Ae 2 Z) ω) (λH a b=>?_);obtain⟨H,b⟩:=b;obtain⟨a,n⟩:=l.res H b;obtain⟨H,a,o⟩:=aL (n.A4 4 Z);cases o;refine dm Z aB eF Z n 0 Z τ (λH a b=>dV Z τ2 (dm Z aB cH Z b 0 Z τ (λH a b=>dV Z τ2 (dm Z aB cH Z b 0 Z τ (λH a b=>aX 69148751 b ?_)))));refine bw aB cy Z b 1 Z (λH a b=>?_);replace b:=bt b;exact aH (dT h (b.box 1 Z) Z ⟨b.ext,_,_,_,_,_,_,Z,Rec.out (b.au_pk 28) η⟩)
    refine aX 5437439 j ?_;refine dC Ā Z (cq (j.Ae 1 Z) ω) (λH a b=>?_);obtain⟨H,b⟩:=b;obtain⟨a,p⟩:=j.res H b;obtain⟨H,a,s⟩:=aL (p.A4 3 Z);cases s;refine dC Ā Z (cq (p.Ae 2 Z) ω) (λH a b=>?_);obtain⟨H,b⟩:=b;obtain⟨a,c⟩:=p.res H b;obtain⟨H,a,d⟩:=aL (c.A4 4 Z);cases d;refine dm Z aB eF Z c 0 Z τ (λH a b=>dV Z τ2 (dm Z aB cH Z b 0 Z τ (λH a b=>dV Z τ2 (dm Z aB cH Z b 0 Z τ (λH a b=>aX 69148751 b ?_)))));refine bw aB cy Z b 1 Z (λH a b=>?_);replace b:=bt b;exact aH (dT h (b.box 1 Z) Z ⟨b.ext,_,_,_,_,_,_,Z,Rec.out (b.au_pk 28) η⟩)
   refine dD Z aB Z (bp cJ Z (bD (g.box 0 Z) Z)) (dC Ļ Z (d9 (g.Ae 0 Z) ω) (λH a b=>?_));obtain⟨H,b⟩:=b;obtain⟨a,f⟩:=g.res H b;obtain⟨H,a,i⟩:=aL (f.A4 2 Z);cases i;refine dV Z υ0 (dC Ā Z (cq (f.Ae 1 Z) ω) (λH a b=>?_));obtain⟨H,b⟩:=b;obtain⟨a,j⟩:=f.res H b;obtain⟨H,a,k⟩:=aL (j.A4 3 Z);cases k;refine dC Ā Z (cq (j.Ae 2 Z) ω) (λH a b=>?_);obtain⟨H,b⟩:=b;obtain⟨a,l⟩:=j.res H b;obtain⟨H,a,m⟩:=aL (l.A4 4 Z);cases m;refine dm Z aB eF Z l 0 Z τ (λH a b=>dV Z τ2 (dm Z aB cH Z b 0 Z τ (λH a b=>dV Z τ2 (dm Z aB cH Z b 0 Z τ (λH a b=>aX 69148751 b ?_)))));refine bw aB cy Z b 1 Z (λH a b=>?_);replace b:=bt b;exact aH (dT h (b.box 1 Z) Z ⟨b.ext,_,_,_,_,_,_,Z,Rec.out (b.au_pk 28) η⟩)
  refine dD Z aB Z (bp cJ Z (bD (g.box 0 Z) Z)) (dF Z ?_ ?_)
  .refine dC Ļ Z (d9 (g.Ae 0 Z) ω) (λH a b=>?_);obtain⟨H,b⟩:=b;obtain⟨a,n⟩:=g.res H b;obtain⟨H,a,o⟩:=aL (n.A4 2 Z);cases o;refine aX 5437439 n ?_;refine dC Ā Z (cq (n.Ae 1 Z) ω) (λH a b=>?_);obtain⟨H,b⟩:=b;obtain⟨a,p⟩:=n.res H b;obtain⟨H,a,s⟩:=aL (p.A4 3 Z);cases s;refine dC Ā Z (cq (p.Ae 2 Z) ω) (λH a b=>?_);obtain⟨H,b⟩:=b;obtain⟨a,c⟩:=p.res H b;obtain⟨H,a,d⟩:=aL (c.A4 4 Z);cases d;refine dm Z aB eF Z c 0 Z τ (λH a b=>dV Z τ2 (dm Z aB cH Z b 0 Z τ (λH a b=>dV Z τ2 (dm Z aB cH Z b 0 Z τ (λH a b=>aX 69148751 b ?_)))));refine bw aB cy Z b 1 Z (λH a b=>?_);replace b:=bt b;exact aH (dT h (b.box 1 Z) Z ⟨b.ext,_,_,_,_,_,_,Z,Rec.out (b.au_pk 28) η⟩)
  refine dD Z aB Z (bp cJ Z (bD (g.box 0 Z) Z)) (dC Ļ Z (d9 (g.Ae 0 Z) ω) (λH a b=>?_));obtain⟨H,b⟩:=b;obtain⟨a,f⟩:=g.res H b;obtain⟨H,a,i⟩:=aL (f.A4 2 Z);cases i;refine dV Z υ0 (dC Ā Z (cq (f.Ae 1 Z) ω) (λH a b=>?_));obtain⟨H,b⟩:=b;obtain⟨a,j⟩:=f.res H b;obtain⟨H,a,k⟩:=aL (j.A4 3 Z);cases k;refine dC Ā Z (cq (j.Ae 2 Z) ω) (λH a b=>?_);obtain⟨H,b⟩:=b;obtain⟨a,l⟩:=j.res H b;obtain⟨H,a,m⟩:=aL (l.A4 4 Z);cases m;refine dm Z aB eF Z l 0 Z τ (λH a b=>dV Z τ2 (dm Z aB cH Z b 0 Z τ (λH a b=>dV Z τ2 (dm Z aB cH Z b 0 Z τ (λH a b=>aX 69148751 b ?_)))));refine bw aB cy Z b 1 Z (λH a b=>?_);replace b:=bt b;exact aH (dT h (b.box 1 Z) Z ⟨b.ext,_,_,_,_,_,_,Z,Rec.out (b.au_pk 28) η⟩)
 refine dF Z ?_ ?_
 .refine dD Z aB Z (bp cJ Z (bD (g.box 0 Z) Z)) (dF Z ?_ ?_)
  .refine dD Z aB Z (bp cS Z (bD (g.box 0 Z) Z)) (dF Z ?_ ?_)
   .refine dC Ļ Z (d9 (g.Ae 0 Z) ω) (λH a b=>?_);obtain⟨H,b⟩:=b;obtain⟨a,n⟩:=g.res H b;obtain⟨H,a,o⟩:=aL (n.A4 2 Z);cases o;refine dF Z ?_ ?_
    .refine dC Ā Z (cq (n.Ae 1 Z) ω) (λH a b=>?_);obtain⟨H,b⟩:=b;obtain⟨a,p⟩:=n.res H b;obtain⟨H,a,s⟩:=aL (p.A4 3 Z);cases s;refine aX 5437439 p ?_;refine dC Ā Z (cq (p.Ae 2 Z) ω) (λH a b=>?_);obtain⟨H,b⟩:=b;obtain⟨a,c⟩:=p.res H b;obtain⟨H,a,d⟩:=aL (c.A4 4 Z);cases d;refine dm Z aB eF Z c 0 Z τ (λH a b=>dV Z τ2 (dm Z aB cH Z b 0 Z τ (λH a b=>dV Z τ2 (dm Z aB cH Z b 0 Z τ (λH a b=>aX 69148751 b ?_)))));refine bw aB cy Z b 1 Z (λH a b=>?_);replace b:=bt b;exact aH (dT h (b.box 1 Z) Z ⟨b.ext,_,_,_,_,_,_,Z,Rec.out (b.au_pk 28) η⟩)
    refine aX 5437439 n ?_;refine dC Ā Z (cq (n.Ae 1 Z) ω) (λH a b=>?_);obtain⟨H,b⟩:=b;obtain⟨a,f⟩:=n.res H b;obtain⟨H,a,i⟩:=aL (f.A4 3 Z);cases i;refine dC Ā Z (cq (f.Ae 2 Z) ω) (λH a b=>?_);obtain⟨H,b⟩:=b;obtain⟨a,j⟩:=f.res H b;obtain⟨H,a,k⟩:=aL (j.A4 4 Z);cases k;refine dm Z aB eF Z j 0 Z τ (λH a b=>dV Z τ2 (dm Z aB cH Z b 0 Z τ (λH a b=>dV Z τ2 (dm Z aB cH Z b 0 Z τ (λH a b=>aX 69148751 b ?_)))));refine bw aB cy Z b 1 Z (λH a b=>?_);replace b:=bt b;exact aH (dT h (b.box 1 Z) Z ⟨b.ext,_,_,_,_,_,_,Z,Rec.out (b.au_pk 28) η⟩)
   refine dD Z aB Z (bp cJ Z (bD (g.box 0 Z) Z)) (dC Ļ Z (d9 (g.Ae 0 Z) ω) (λH a b=>?_));obtain⟨H,b⟩:=b;obtain⟨a,l⟩:=g.res H b;obtain⟨H,a,m⟩:=aL (l.A4 2 Z);cases m;refine dV Z υ0 (dC Ā Z (cq (l.Ae 1 Z) ω) (λH a b=>?_));obtain⟨H,b⟩:=b;obtain⟨a,n⟩:=l.res H b;obtain⟨H,a,o⟩:=aL (n.A4 3 Z);cases o;refine dC Ā Z (cq (n.Ae 2 Z) ω) (λH a b=>?_);obtain⟨H,b⟩:=b;obtain⟨a,p⟩:=n.res H b;obtain⟨H,a,s⟩:=aL (p.A4 4 Z);cases s;refine dm Z aB eF Z p 0 Z τ (λH a b=>dV Z τ2 (dm Z aB cH Z b 0 Z τ (λH a b=>dV Z τ2 (dm Z aB cH Z b 0 Z τ (λH a b=>aX 69148751 b ?_)))));refine bw aB cy Z b 1 Z (λH a b=>?_);replace b:=bt b;exact aH (dT h (b.box 1 Z) Z ⟨b.ext,_,_,_,_,_,_,Z,Rec.out (b.au_pk 28) η⟩)
  refine aX 8386559 g ?_;refine dC Ļ Z (d9 (g.Ae 0 Z) ω) (λH a b=>?_);obtain⟨H,b⟩:=b;obtain⟨a,c⟩:=g.res H b;obtain⟨H,a,d⟩:=aL (c.A4 2 Z);cases d;refine dV Z υ0 (dC Ā Z (cq (c.Ae 1 Z) ω) (λH a b=>?_));obtain⟨H,b⟩:=b;obtain⟨a,f⟩:=c.res H b;obtain⟨H,a,t⟩:=aL (f.A4 3 Z);cases t;refine dC Ā Z (cq (f.Ae 2 Z) ω) (λH a b=>?_);obtain⟨H,b⟩:=b;obtain⟨a,i⟩:=f.res H b;obtain⟨H,a,j⟩:=aL (i.A4 4 Z);cases j;refine dm Z aB eF Z i 0 Z τ (λH a b=>dV Z τ2 (dm Z aB cH Z b 0 Z τ (λH a b=>dV Z τ2 (dm Z aB cH Z b 0 Z τ (λH a b=>aX 69148751 b ?_)))));refine bw aB cy Z b 1 Z (λH a b=>?_);replace b:=bt b;exact aH (dT h (b.box 1 Z) Z ⟨b.ext,_,_,_,_,_,_,Z,Rec.out (b.au_pk 28) η⟩)
 refine dD Z aB Z (bp cJ Z (bD (g.box 0 Z) Z)) (dF Z ?_ ?_)
 .refine dD Z aB Z (bp cS Z (bD (g.box 0 Z) Z)) (dF Z ?_ ?_)
  .refine dC Ļ Z (d9 (g.Ae 0 Z) ω) (λH a b=>?_);obtain⟨H,b⟩:=b;obtain⟨a,k⟩:=g.res H b;obtain⟨H,a,l⟩:=aL (k.A4 2 Z);cases l;refine aX 5437439 k ?_;refine dC Ā Z (cq (k.Ae 1 Z) ω) (λH a b=>?_);obtain⟨H,b⟩:=b;obtain⟨a,m⟩:=k.res H b;obtain⟨H,a,n⟩:=aL (m.A4 3 Z);cases n;refine dC Ā Z (cq (m.Ae 2 Z) ω) (λH a b=>?_);obtain⟨H,b⟩:=b;obtain⟨a,o⟩:=m.res H b;obtain⟨H,a,p⟩:=aL (o.A4 4 Z);cases p;refine dm Z aB eF Z o 0 Z τ (λH a b=>dV Z τ2 (dm Z aB cH Z b 0 Z τ (λH a b=>dV Z τ2 (dm Z aB cH Z b 0 Z τ (λH a b=>aX 69148751 b ?_)))));refine bw aB cy Z b 1 Z (λH a b=>?_);replace b:=bt b;exact aH (dT h (b.box 1 Z) Z ⟨b.ext,_,_,_,_,_,_,Z,Rec.out (b.au_pk 28) η⟩)
  refine dD Z aB Z (bp cJ Z (bD (g.box 0 Z) Z)) (dC Ļ Z (d9 (g.Ae 0 Z) ω) (λH a b=>?_));obtain⟨H,b⟩:=b;obtain⟨a,c⟩:=g.res H b;obtain⟨H,a,d⟩:=aL (c.A4 2 Z);cases d;refine dV Z υ0 (dC Ā Z (cq (c.Ae 1 Z) ω) (λH a b=>?_));obtain⟨H,b⟩:=b;obtain⟨a,f⟩:=c.res H b;obtain⟨H,a,s⟩:=aL (f.A4 3 Z);cases s;refine dC Ā Z (cq (f.Ae 2 Z) ω) (λH a b=>?_);obtain⟨H,b⟩:=b;obtain⟨a,i⟩:=f.res H b;obtain⟨H,a,j⟩:=aL (i.A4 4 Z);cases j;refine dm Z aB eF Z i 0 Z τ (λH a b=>dV Z τ2 (dm Z aB cH Z b 0 Z τ (λH a b=>dV Z τ2 (dm Z aB cH Z b 0 Z τ (λH a b=>aX 69148751 b ?_)))));refine bw aB cy Z b 1 Z (λH a b=>?_);replace b:=bt b;exact aH (dT h (b.box 1 Z) Z ⟨b.ext,_,_,_,_,_,_,Z,Rec.out (b.au_pk 28) η⟩)
 refine aX 8386559 g ?_;refine dC Ļ Z (d9 (g.Ae 0 Z) ω) (λH a b=>?_);obtain⟨H,b⟩:=b;obtain⟨a,k⟩:=g.res H b;obtain⟨H,a,g⟩:=aL (k.A4 2 Z);cases g;refine dV Z υ0 (dC Ā Z (cq (k.Ae 1 Z) ω) (λH a b=>?_));obtain⟨H,b⟩:=b;obtain⟨a,l⟩:=k.res H b;obtain⟨H,a,m⟩:=aL (l.A4 3 Z);cases m;refine dC Ā Z (cq (l.Ae 2 Z) ω) (λH a b=>?_);obtain⟨H,b⟩:=b;obtain⟨a,n⟩:=l.res H b;obtain⟨H,a,o⟩:=aL (n.A4 4 Z);cases o;refine dm Z aB eF Z n 0 Z τ (λH a b=>dV Z τ2 (dm Z aB cH Z b 0 Z τ (λH a b=>dV Z τ2 (dm Z aB cH Z b 0 Z τ (λH a b=>aX 69148751 b ?_)))));refine bw aB cy Z b 1 Z (λH a b=>?_);replace b:=bt b;exact aH (dT h (b.box 1 Z) Z ⟨b.ext,_,_,_,_,_,_,Z,Rec.out (b.au_pk 28) η⟩)

theorem gx{w:ä}{r:Rec}{R o p:Option ô}(K:r.Ok)(s:aj w R r.Rows q)(t:aj w o r.Data u)(x:aj w p r.Ad y)(B:fH r<=1048576):am 116 [r.val R q o u p y] w λv W=>∃A C k m l n,v=r.val A C k m l n/\Res w W [ag r.Kind,ag r.Seq,.string r.Name,ag r.Length,ag r.Group,ag r.Row,ak A r.Rows C,ak k r.Data m,ak l r.Ad n] r:=by
 have H:=cx K;have H:=sL s;obtain⟨H,a⟩:=s;have H:=sL t;obtain⟨H,b⟩:=t;have H:=sL x;obtain⟨H,c⟩:=x;unfold fH at B;refine bv func116 Z (λQ z N=>?_);have H:=Sep.start (aC a (aC b (aC c ba)));refine aT (ci aB Z H (λH a b c d=>cz aB Z Ä d (λH a b c d=>aH (aT (dG (f:=Int) aB Z cS bV d (λH a b c d=>aX 14329 d ?_))))));refine ma aB Z cS bV Z d 2 Z (d.Ab 0 Z) ic ia (λH a b e=>?_);obtain⟨H,a,f⟩:=aL (e.A4 2 Z);cases f;refine sF cu Z eF (cL aB eF Z e 0 Z (λH a b=>aH (aT (dG (f:=UInt8) aB Z cJ b6 b (λH a b c d=>aX 14329 d ?_)))));refine ma aB Z cJ b6 Z d 3 Z (d.Ab 1 Z) ic ia (λH a b g=>?_);obtain⟨H,a,h⟩:=aL (g.A4 3 Z);cases h;refine sF cu Z cH (cL aB cH Z g 0 Z (λH a b=>aH (aT (dG (f:=UInt8) aB Z cJ b6 b (λH a b c d=>aX 14329 d ?_)))));refine ma aB Z cJ b6 Z d 4 Z (d.Ab 2 Z) ic ia (λH a b i=>?_);obtain⟨H,a,j⟩:=aL (i.A4 4 Z);cases j;refine sF cu Z cH (cL aB cH Z i 0 Z (λH a b=>aX 270115 b ?_));refine bw aB cy Z b 1 Z (λH a b=>?_);replace b:=bt b;exact aH (dT z (b.box 1 Z) Z ⟨b.ext,_,_,_,_,_,_,Z,Rec.out (b.au_pk 28) η⟩)

theorem vP{w:ä}{x:List Rec}(X:aj w O x P)(y:szL fH x<=1048576):am 69 [ak O x P] w λv W=>Res w W [v] x:=by
 have c_:=sL X;obtain⟨b_,S⟩:=X;have H:x.length<=1048576:=by unfold szL at y;omega
 refine bv func69 Z (λQ R T=>?_);have H:=Sep.start (aC S ba);refine aT (sA Z (aH (aT (dG (f:=Rec) aB Z cd be H (λH a c e f=>aG 7641065525844 ?_)))));refine fc (b:=Rec) (a:=Nat) (λk=>x.take k) 0 f 0 Z 3 Z [(2,_),(7,_),(8,_)] bf (λk=>[(9,ag k)]) (λk=>k<=x.length/\True) (λk=>x.length-k) ⟨Z,trivial⟩ ⟨ω,trivial⟩ (λk H a c g ⟨V,_⟩=>?_);dsimp only[jf,lNA,lSZ,sk] at g ⊢;refine br 10441682 (λH=>?_) (λH=>?_)
 .obtain⟨U,H⟩:=lr y k ω;have Y:=aY (i:=k) (l:=x);obtain⟨H,a,c,e,f,h,j,m,n⟩:=cR (g.Ab 0 Z) k ω;obtain⟨o,p,q,r,s,t,u,a_,d_,rfl,z,A,B,C,D⟩:=dX j;have H:=cx A;refine bi (aW (bP (aW ?_)));have H:=g.look1 0 Z B (λb hb=>m b tA);have a:=H.look1 0 Z C (λb hb=>m b tA);have H:=a.look1 0 Z D (λb hb=>m b tA);refine aG 68108022 ?_;refine cz aB Z Ä H (λH a c e f=>bw aB cy Z f 1 Z (λH a E=>aX 4321635 E ?_));refine sC func111 Z (jG η (E.Ae 1 Z) (E.Ae 2 Z) (E.Ae 3 Z) ξ) (λH a F=>?_);obtain⟨G,I,J,K,L,M,N,rfl,F⟩:=F;obtain⟨H,a⟩:=E.res G F;refine dx aB Z cd be Z a (λH a c e f=>kC aB Z cd be Z f 0 3 2 Z db ω (λH a c e=>aG 203876 ?_));exact⟨(k+1,_,_),bf,⟨by dsimp only;rw[<- ii (x:=x) (d:=à) ω];exact((e.Aq 1).dtake 1),ω,trivial⟩,θ⟩
 refine bu ?_;obtain rfl:k=x.length:=by omega
 rw[ö] at g;exact aT (sR 2 Z (aH (rT R Z ⟨g.ext,g.out 0 Z⟩)))

theorem uf{w:ä}{x:List Rec}(X:aj w O x P)(y:szL fH x<=1048576):am 74 [ak O x P] w λv W=>Res w W [v] x:=by
 have c_:=sL X;obtain⟨b_,S⟩:=X;have H:x.length<=1048576:=by unfold szL at y;omega
 refine bv func74 Z (λQ R T=>?_);have H:=Sep.start (aC S ba);refine aT (sA Z (aH (aT (dG (f:=Rec) aB Z cd be H (λH a c e f=>aG 7291476 ?_)))));refine fc (b:=Rec) (a:=Nat) (λk=>x.take k) 0 f 0 Z 3 Z [(0,_),(2,_)] bf (λk=>[(4,ag k)]) (λk=>k<=x.length/\True) (λk=>x.length-k) ⟨Z,trivial⟩ ⟨ω,trivial⟩ (λk H a c g ⟨V,_⟩=>?_);dsimp only[jf,lNA,lSZ,sk] at g ⊢;refine br 0x9f3d2ff1125 (λH=>?_) (λH=>?_)
 .obtain⟨U,H⟩:=lr y k ω;have Y:=aY (i:=k) (l:=x);obtain⟨H,a,c,e,f,h,j,m,n⟩:=cR (g.Ab 0 Z) k ω;obtain⟨o,p,q,r,s,t,u,a_,d_,rfl,z,A,B,C,D⟩:=dX j;have H:=cx A;refine bi (aW (bP ?_));have H:=g.look1 0 Z B (λb hb=>m b tA);have a:=H.look1 0 Z C (λb hb=>m b tA);have E:=a.look1 0 Z D (λb hb=>m b tA);refine aG 278970437910 ?_;refine sC func116 Z (gx η (E.Ae 1 Z) (E.Ae 2 Z) (E.Ae 3 Z) ξ) (λH a F=>?_);obtain⟨G,I,J,K,L,M,N,rfl,F⟩:=F;obtain⟨H,a⟩:=E.res G F;refine dx aB Z cd be Z a (λH a c e f=>kC aB Z cd be Z f 0 2 1 Z db ω (λH a c e=>aG 311652 ?_));exact⟨(k+1,_,_),bf,⟨by dsimp only;rw[<- ii (x:=x) (d:=à) ω];exact((e.Aq 1).dtake 1),ω,trivial⟩,θ⟩
 refine bu ?_;obtain rfl:k=x.length:=by omega
 rw[ö] at g;exact aT (sR 2 Z (aH (rT R Z ⟨g.ext,g.out 0 Z⟩)))

theorem τ3 {p:Prop}(h:p:=by exact λ_ _ _ hr=>absurd Z hr):p:=h
theorem υ3 {p:Prop}(h:p:=by exact λzw hx=>bM jp Z Z):p:=h
theorem tV{w:ä}{x:Block}(X:x.Ok)(k:aj w F x.Bytes G)(h:yw x<=1048576):am 73 [x.val F G] w λv W=>∃A C,v=x.val A C/\Res w W [ag x.Stamp,ak A x.Bytes C] x:=by
 have H:=cx X;obtain⟨H,a⟩:=k;unfold yw at h;refine bv func73 Z (λQ e N=>?_);have H:=Sep.start (aC a ba);refine aT (ci aB Z H (λH a c d f=>cz aB Z zeroValue87 f (λH a c d f=>aH (aW (ep f [(0,ã),(1,ã),(3,ã),(4,ã),(2,â),(5,â),(6,ã),(7,â)] (λH a=>aX 0x5bf52f5bf52f a ?_))))));refine d_S (λH=>?_) σ;refine jD (a:=UInt8) Z aB Z cJ b6 a τ0 (λa c d f g=>d_S (λa=>?_) σ);refine dh Z aB Z cJ b6 Z g 2 Z (g.Ab 0 Z) ic ia (λb h=>by simp only[aD] at h;rw[h];exact aF H.size f) (λH a c d i=>?_);obtain⟨H,a,j⟩:=aL (i.A4 2 Z);cases j;exact dV Z υ3 (lI Z aB zV Z i 1 Z Z τ3 (λH a c=>dO (dT e (c.box 1 Z) Z ⟨c.ext,_,_,Z,Block.out (c.au_pk 4) η⟩)))

theorem τ9 {p:Prop}(h:p:=by exact λ_ h e=>h.trans e):p:=h
theorem υ2 {p:Prop}(h:p:=by exact λzw hx=>bd BI Z xY Z):p:=h
theorem uR{w:ä}{x:Drive}(P:x.Ok)(X:aj w F x.Ai G)(e:kc x<=1048576):am 68 [x.val F G] w λv W=>∃J K,v=x.val J K/\Res w W [.bool x.Au,ak J x.Ai K] x:=by
 have H:=sL X;obtain⟨H,a⟩:=X;unfold kc at e;have H:x.Ai.length<=1048576:=by unfold szL at e;omega
 refine bv func68 Z (λQ L N=>?_);have H:=Sep.start (aC a ba);refine aT (ci aB Z H (λH a c f g=>cz aB Z Ķ g (λH a c f g=>aX 3668259 g ?_)));refine sV Z (bM ne Z Z) (cz aB Z Ķ g (λH a c f g=>bw aB oT Z g 2 Z (λH a c=>aX 0x6f312ff37f9253 c ?_)));have H:=c.nilW (a:=Block);refine mK (m:=Block) (a:=Nat) (λk=>x.Ai.take k) 0 H 3 2 1 Z [(2,_),(3,_),(10,_),(11,_)] bf (λk=>[(12,ag k)]) (λk=>k<=x.Ai.length/\True) (λk=>x.Ai.length-k) ⟨Z,trivial⟩ ⟨ω,trivial⟩ (λk H j a m ⟨O,_⟩=>?_);dsimp only[jf,lNA,lSZ,sk] at m ⊢;refine br 10441682 (λH=>?_) (λH=>?_)
 .obtain⟨M,H⟩:=lr e k ω;unfold yw at M;have T:=aY (i:=k) (l:=x.Ai);obtain⟨H,a,c,f,g,n,o,p,q⟩:=cR (m.Ab 0 Z) k ω;obtain⟨r,s,t,rfl,u,y,z⟩:=nt o;have H:=cx y;refine bi (aW (bP (aW ?_)));have H:=m.look1 0 Z z (λb e=>p b (by rw[u];simp[e]));refine aG 68108022 ?_;refine cz aB Z zeroValue87 H (λH a c f g=>bw aB zV Z g 4 Z (λH a c=>aH (eE (S:=Ext (· ∈ j) _) (oQ [1,3,5,7,9,11,12,15,16,18,21,22]) κ κ κ Z τ6 (λH=>?_))));have a:=c.drawn H;refine dV Z υ2 (dV Z (λI h=>bp wN Z (bD (h.heapM (a.Bh 2 Z 3 Z) (a.box 2 Z)) Z)) (dV Z (λI h=>bd Po Z ts2 Z) (dV Z (λI h=>bp tu2 Z (bD (h.heapM (a.Bh 4 Z 3 Z) (a.box 4 Z)) Z)) (dV Z (λI h=>bd Po Z cH Z) (dV Z (λI h=>bp cJ Z (bD (h.heapM (a.Bh 4 Z 3 Z) (a.box 4 Z)) Z)) (dC Ā Z (cq (a.Ae 1 Z) ω) (λH c f=>?_)))))));obtain⟨H,f⟩:=f;obtain⟨c,A⟩:=a.res H f;obtain⟨H,a,B⟩:=aL (A.A4 5 Z);cases B;refine dV Z υ3 (dB Z aB Z wN ni Z A τ0 (λH a c f g=>?_));have H:=bt (g.asSt 5 ((x.Ai.getD k à):Block) Z (Block.own_mk (x:=(x.Ai.getD k à)) η (g.A4 5 Z)));refine kj Z aB Z wN ni Z H 3 6 5 Z db ω τ9 (λH a c C=>?_);obtain⟨H,a,D⟩:=aL (C.A4 3 Z);cases D;refine dV Z υ2 (dm Z aB xY Z C 2 Z τ3 (λH a c=>?_));replace c:=bt c;refine aG 52191311 ?_;exact⟨(k+1,_,_),bf,⟨by dsimp only;rw[<- ii (x:=x.Ai) (d:=à) ω];exact((c.Aq 1).dtake 4),ω,trivial⟩,θ⟩
 refine bu ?_;obtain rfl:k=x.Ai.length:=by omega
 rw[ö] at m;obtain⟨H,a,E⟩:=aL (m.A4 3 Z);cases E;refine aX 16882 m ?_;exact bw aB oT Z m 1 Z (λH a c=>aH (dT L (c.box 1 Z) Z ⟨c.ext,_,_,Z,Drive.out (c.au_pk 8) η⟩))

theorem υ8 {p:Prop}(h:p:=by exact λzw hx=>bd eC Z oP Z):p:=h
theorem fU{w:ä}{U P Q:Option ô}(zK:z.Ok)(Y:aj w U z.A2 T)(V:aj w P z.On W)(X:aj w Q z.A3 R)(hb:fY z<=1048576):am 33 [z.val U T P W Q R] w λd_ w'=>∃J N v K y L,d_=z.val J N v K y L/\Res w w' [ag z.A0.A2,ag z.A0.A5,ag z.A0.Data,ag z.A0.Af,ag z.A0.Rows,ag z.A0.Cap,ag z.A0.An,ag z.A0.Ao,ag z.A0.Ap,ak J z.A2 N,ak v z.On K,ak y z.A3 L,ag z.Aa,ag z.Stop,.bool z.Down] z:=by
 have H:=cx zK;have H:=sL Y;obtain⟨H,a⟩:=Y;have H:=sL V;obtain⟨H,c⟩:=V;have H:=sL X;obtain⟨H,f⟩:=X;have i_:fY z=szL (szL kc) z.A2+z.On.length+szL ou z.A3:=Z;have g:szL (szL kc) z.A2<=1048576:=by omega
 have j:szL ou z.A3<=1048576:=by omega
 have l_:z.A2.length<=1048576:=by unfold szL at g;omega
 have m_:z.A3.length<=1048576:=by unfold szL at j;omega
 refine bv func33 Z (λh_ hQ hN=>?_);have H:=Sep.start (aC a (aC c (aC f ba)));refine aT (ci aB Z H (λH a c f m=>cz aB Z Ç m (λH a c f m=>aX 270115 m ?_)));refine cz aB Z Ç m (λH a c f m=>bw aB ff Z m 2 Z (λH a c=>aX 3668259 c ?_));refine sC Ļ Z (d9 (c.Ae 1 Z) ω) (λH a f=>?_);obtain⟨H,f⟩:=f;obtain⟨a,n⟩:=c.res H f;obtain⟨H,a,o⟩:=aL (n.A4 3 Z);cases o;refine sF eC Z pS (cL aB pS Z n 2 Z (λH a c=>sF eC Z eF (cL aB eF Z c 2 Z (λH a c=>sF eC Z oP (cL aB oP Z c 2 Z (λH a c=>?_))))));replace c:=bt c;refine aX 0x6f312ff37f9253 c ?_;have H:=c.nilW (a:=(List Drive));refine mK (m:=(List Drive)) (a:=Nat) (λk=>z.A2.take k) 0 H 4 2 9 Z [(1,_),(2,_),(3,_),(19,_),(20,_)] bf (λk=>[(21,ag k)]) (λk=>k<=z.A2.length/\True) (λk=>z.A2.length-k) ⟨Z,trivial⟩ ⟨ω,trivial⟩ (λk H a c p ⟨hk,_⟩=>?_);dsimp only[jf,lNA,lSZ,sk] at p ⊢;refine br 10441682 (λH=>?_) (λH=>?_)
 .have O:szL kc (z.A2.getD k [])<=1048576:=(lr g k ω).1;refine bi (aW (bP (aW ?_)));have k_:(z.A2.getD k []).length<=1048576:=by unfold szL at O;omega
  have o_:=aY (i:=k) (l:=z.A2);obtain⟨H,a,c,f,g,m,n,o,q⟩:=fA (p.Ab 0 Z) k ω;have H:=p.look1 0 Z o q;refine aG 9723395830 ?_;refine dG (f:=Drive) aB Z kZ e8 H (λH a c f g=>aG 7641065525844 ?_);refine fc (b:=Drive) (a:=Nat) (λr=>(z.A2.getD k []).take r) 0 g 5 Z 6 Z [(1,_),(2,_),(3,_),(19,_),(20,_),(21,_),(26,_),(27,_)] bf (λr=>[(28,ag r)]) (λr=>r<=(z.A2.getD k []).length/\True) (λr=>(z.A2.getD k []).length-r) ⟨Z,trivial⟩ ⟨ω,trivial⟩ (λr H a c s ⟨f,_⟩=>?_);dsimp only[jf,lNA,lSZ,sk] at s ⊢;refine br 10441682 (λH=>?_) (λH=>?_)
  .have j_:kc ((z.A2.getD k []).getD r à)<=1048576:=(lr O r ω).1;have n_:=aY (i:=r) (l:=(z.A2.getD k []));obtain⟨H,a,c,f,g,m,t,u,n⟩:=cR (s.Ab 3 Z) r ω;obtain⟨e_,A,B,rfl,C,D,E⟩:=iS t;refine bi (aW (bP (aW ?_)));have H:=s.look1 3 Z E (λb hb=>u b qR);refine aG 68108022 ?_;refine cz aB Z Ķ H (λH a c f g=>bw aB oT Z g 6 Z (λH a F=>aX 4321635 F ?_));refine sC func68 Z (uR η (F.Ae 4 Z) ξ) (λH a G=>?_);obtain⟨I,f_,g_,rfl,G⟩:=G;obtain⟨H,a⟩:=F.res I G;refine dx aB Z kZ e8 Z a (λH a c f g=>kC aB Z kZ e8 Z g 5 8 7 Z db ω (λH a c f=>aG 203876 ?_));exact⟨(r+1,_,_),bf,⟨by dsimp only;rw[<- ii (x:=(z.A2.getD k [])) (d:=à) ω];exact((f.Aq 4).dtake 6),ω,trivial⟩,θ⟩
  refine bu ?_;obtain rfl:r=(z.A2.getD k []).length:=by omega
  rw[ö] at s;obtain⟨H,a,a_⟩:=aL (s.A4 5 Z);cases a_;refine aX 1277846 s ?_;refine dx aB Z ie iV Z s (λH a c f g=>kC aB Z ie iV Z g 4 6 5 Z db ω (λH a c M=>?_));obtain⟨H,a,b_⟩:=aL (M.A4 4 Z);cases b_;refine sF eC Z pS (cL aB pS Z M 2 Z (λH a c=>?_));replace c:=bt c;refine aG 203875 ?_;exact⟨(k+1,_,_),bf,⟨by dsimp only;rw[<- ii (x:=z.A2) (d:=[]) ω];exact((c.Aq 3).dtake 5),ω,trivial⟩,θ⟩
 refine bu ?_;obtain rfl:k=z.A2.length:=by omega
 rw[ö] at p;refine aX 0x6f312ff37f925 p ?_;have H:=bt (p.nilW (a:=Tape));refine mK (m:=Tape) (a:=Nat) (λk=>z.A3.take k) 0 H 5 2 11 Z [(2,_),(3,_),(46,_),(47,_)] bf (λk=>[(48,ag k)]) (λk=>k<=z.A3.length/\True) (λk=>z.A3.length-k) ⟨Z,trivial⟩ ⟨ω,trivial⟩ (λk H m a n ⟨hk,_⟩=>?_);dsimp only[jf,lNA,lSZ,sk] at n ⊢;refine br 10441682 (λH=>?_) (λH=>?_)
 .have c_:ou (z.A3.getD k à)<=1048576:=(lr j k ω).1;unfold ou at c_;have p_:=aY (i:=k) (l:=z.A3);obtain⟨H,a,c,f,g,j,o,p,q⟩:=cR (n.Ab 2 Z) k ω;obtain⟨r,s,t,rfl,u,e_,A⟩:=fd o;refine bi (aW (bP (aW ?_)));have H:=n.look1 2 Z A (λb hb=>p b (by rw[u];simp[hb]));refine aG 68108022 ?_;refine cz aB Z zeroValue92 H (λH a c f g=>bw aB yS Z g 6 Z (λH a c=>aH (eE (S:=Ext (· ∈ m) _) (oQ [1,3,5,7,9,11,12,15,16,18,21,22]) κ κ κ Z τ6 (λH=>?_))));have a:=c.drawn H;refine dV Z υ8 (dV Z (λe h=>bp jP Z (bD (h.heapM (a.Bh 2 Z 5 Z) (a.box 2 Z)) Z)) (dV Z (λe h=>bd FZ Z ts4 Z) (dV Z (λe h=>bp tu4 Z (bD (h.heapM (a.Bh 6 Z 5 Z) (a.box 6 Z)) Z)) (dV Z (λe h=>bd FZ Z rJ Z) (dV Z (λe h=>bp cd Z (bD (h.heapM (a.Bh 6 Z 5 Z) (a.box 6 Z)) Z)) (dC func69 Z (vP (a.Ae 3 Z) ξ) (λH c f=>?_)))))));obtain⟨H,f⟩:=f;obtain⟨c,B⟩:=a.res H f;obtain⟨H,a,C⟩:=aL (B.A4 7 Z);cases C;refine dV Z (λe h=>bM u6 Z Z) (dB Z aB Z jP lO Z B τ0 (λH a c f g=>?_));have H:=g.asSt 7 ((z.A3.getD k à):Tape) Z (Tape.own_mk (x:=(z.A3.getD k à)) η (g.A4 7 Z));refine kj Z aB Z jP lO Z H 5 8 7 Z db ω τ9 (λH a c D=>?_);obtain⟨H,a,E⟩:=aL (D.A4 5 Z);cases E;refine dV Z υ8 (dm Z aB oP Z D 2 Z τ3 (λH a c=>?_));replace c:=bt c;refine aG 52191311 ?_;exact⟨(k+1,_,_),bf,⟨by dsimp only;rw[<- ii (x:=z.A3) (d:=à) ω];exact((c.Aq 3).dtake 6),ω,trivial⟩,θ⟩
 refine bu ?_;obtain rfl:k=z.A3.length:=by omega
 rw[ö] at n;obtain⟨H,a,F⟩:=aL (n.A4 4 Z);cases F;obtain⟨H,a,G⟩:=aL (n.A4 5 Z);cases G;refine aX 16882 n ?_;refine bw aB ff Z n 1 Z (λH a c=>?_);replace c:=bt c;exact aH (dT hQ (c.box 1 Z) Z ⟨c.ext,_,_,_,_,_,_,Z,Wld.out ((c.sub (.cons _ (.cons _ (.cons _ (.cons_cons _ (.cons_cons _ (.cons_cons _ List.Sublist.slnil))))))).perm (.swap _ _ _)) η⟩)

theorem m0{w:ä}{c_ a_ b_:Option ô}(zK:z.Ok)(f_:aj w c_ z.A2 T)(d_:aj w a_ z.On W)(e_:aj w b_ z.A3 R)(v:fY z<=1048576):am 37 [z.val c_ T a_ W b_ R] w λn_ w'=>∃O U L P N Q,n_=z.val O U L P N Q/\Res w w' [ag z.A0.A2,ag z.A0.A5,ag z.A0.Data,ag z.A0.Af,ag z.A0.Rows,ag z.A0.Cap,ag z.A0.An,ag z.A0.Ao,ag z.A0.Ap,ak O z.A2 U,ak L z.On P,ak N z.A3 Q,ag z.Aa,ag z.Stop,.bool z.Down] z:=by
 have H:=cx zK;have H:=sL f_;obtain⟨H,a⟩:=f_;have H:=sL d_;obtain⟨H,c⟩:=d_;have H:=sL e_;obtain⟨H,f⟩:=e_;have v_:fY z=szL (szL kc) z.A2+z.On.length+szL ou z.A3:=Z;have H:szL (szL kc) z.A2<=1048576:=by omega
 have g:szL ou z.A3<=1048576:=by omega
 have x_:z.A2.length<=1048576:=by unfold szL at H;omega
 have y_:z.A3.length<=1048576:=by unfold szL at g;omega
 refine bv func37 Z (λp_ hQ hN=>?_);have j:=Sep.start (aC a (aC c (aC f ba)));refine aT (ci aB Z j (λa c f j m=>cz aB Z Ç m (λa c f j m=>aX 270115 m ?_)));refine cz aB Z Ç m (λa c f j m=>bw aB ff Z m 2 Z (λa c f=>aH (aT (sF eC Z pS (cL aB pS Z f 2 Z (λa c f=>?_))))));have a:=f.nilW (a:=(List Drive));refine aG 7291475 ?_;refine mK (m:=(List Drive)) (a:=Nat) (λk=>z.A2.take k) 0 a 3 2 9 Z [(1,_),(2,_),(3,_)] bf (λk=>[(4,ag k)]) (λk=>k<=z.A2.length/\True) (λk=>z.A2.length-k) ⟨Z,trivial⟩ ⟨ω,trivial⟩ (λk a c f n ⟨hk,_⟩=>?_);dsimp only[jf,lNA,lSZ,sk] at n ⊢;refine ge 0x9f3d2ff37f9125 n (λa=>?_) (λa=>?_)
 .have X:szL kc (z.A2.getD k [])<=1048576:=(lr H k ω).1;refine bi (aW (bP (aW ?_)));have w_:(z.A2.getD k []).length<=1048576:=by unfold szL at X;omega
  have B_:=aY (i:=k) (l:=z.A2);refine ce (dG (f:=Drive) aB Z kZ e8 n (λH a c f j=>aG 7291476 ?_));refine fc (b:=Drive) (a:=Nat) (λo=>(z.A2.getD k []).take o) 0 j 4 Z 5 Z [(1,_),(2,_),(3,_),(4,_)] bf (λo=>[(6,ag o)]) (λo=>o<=(z.A2.getD k []).length/\True) (λo=>(z.A2.getD k []).length-o) ⟨Z,trivial⟩ ⟨ω,trivial⟩ (λo H a c f ⟨j,_⟩=>?_);dsimp only[jf,lNA,lSZ,sk] at f ⊢;obtain⟨H,a,c,j,m,p,q,r,s⟩:=fA (f.Ab 0 Z) k ω;have t:=f.look1 0 Z r s;refine aG 37157 ?_;refine sLd ie (t.box 0 Z) Z (br 0x9f3d2ff38f3ef1 (λH=>?_) (λH=>?_))
  .have K:kc ((z.A2.getD k []).getD o à)<=1048576:=(lr X o ω).1;have A_:=aY (i:=o) (l:=(z.A2.getD k []));obtain⟨H,a,c,f,j,u,m,p,q⟩:=fA (t.Ab 0 Z) k ω;have y:=t.look1 0 Z p q;obtain⟨H,a,c,f,j,m,A,B,p⟩:=cR (y.Ab 4 Z) o ω;obtain⟨C,D,E,rfl,F,G,I⟩:=iS A;refine bi (aW (bP (aW ?_)));have H:=y.look1 4 Z I (λb v=>B b (by rw[F];simp[v]));have a:=oL I;refine ce (sF eC Z pS (sLd ie (H.box 0 Z) Z (sM Z (sV Z (bR ie nn Z u k ω ω) (aG 4190075032463 ?_)))));refine sV Z (bM ne Z Z) (cz aB Z Ķ H (λH a c f j=>bw aB oT Z j 5 Z (λH a c=>?_)));replace c:=bt c;have H:=c.nilW (a:=Block);refine aG 7291475 ?_;refine mK (m:=Block) (a:=Nat) (λJ=>((z.A2.getD k []).getD o à).Ai.take J) 0 H 6 5 1 Z [(1,_),(2,_),(3,_),(4,_),(5,_),(6,_),(7,_)] bf (λJ=>[(8,ag J)]) (λJ=>J<=((z.A2.getD k []).getD o à).Ai.length/\True) (λJ=>((z.A2.getD k []).getD o à).Ai.length-J) ⟨Z,trivial⟩ ⟨ω,trivial⟩ (λJ H g_ a c ⟨f,_⟩=>?_);dsimp only[jf,lNA,lSZ,sk] at c ⊢;refine aW (aW ?_)
   skip
   obtain⟨H,a,f,j,m,h_,p,q,r⟩:=fA (c.Ab 0 Z) k ω;have M:=c.look1 0 Z q r;obtain⟨H,a,c,f,j,m,i_,j_,p⟩:=cR (M.Ab 6 Z) o ω;obtain⟨o_,q_,r_,rfl,k_,s_,l_⟩:=iS i_;have Y:=M.look1 6 Z l_ (λb v=>j_ b (by rw[k_];simp[v]));refine ce (sM Z (sF eC Z pS (sLd ie (Y.box 0 Z) Z (sM Z (sV Z (bR ie nn Z h_ k ω ω) (br 0x9f3d2ff3df93ef138f (λH=>?_) (λH=>?_)))))))
   .refine bi (aW (bP ?_));have u_:((z.A2.getD k []).getD o à).Ai.length<=1048576:=by unfold kc szL at K;omega
    have t_:yw (((z.A2.getD k []).getD o à).Ai.getD J à)<=1048576:=(lr (by unfold kc at K;exact K) J ω).1;have z_:=aY (i:=J) (l:=((z.A2.getD k []).getD o à).Ai);obtain⟨H,a,c,f,j,H',a',m,p,b'⟩:=Ib (Y.Ab 0 Z) k ω;have V:=Y.look1 0 Z m p;obtain⟨H,a,c,f,d',e',f',g',h'⟩:=cR (V.Ab 8 Z) o ω;obtain⟨i',j',k',rfl,l',m',n'⟩:=iS f';have s:=V.look1 8 Z n' (λb v=>g' b (by rw[l'];simp[v]));obtain⟨H,a,c,f,j,o',p',q',r'⟩:=cR (s.Ab 9 Z) J ω;obtain⟨s',t',u',rfl,v',x',y'⟩:=nt p';have H:=cx x';have H:=s.look1 9 Z y' (λb v=>q' b (by rw[v'];simp[v]));refine eE (S:=Ext (· ∈ g_) _) (oQ [1,3,5,7,9,11,13,15,17,19,21,23,25,27,28,30,32,35,36]) κ κ κ Z τ6 (λa=>?_);have u:=H.drawn a;refine dV Z υ2 (dV Z (λe h=>bp wN Z (bD (h.heapM (u.Bh 5 Z 6 Z) (u.box 5 Z)) Z)) (dV Z (λe h=>bd eC Z pS Z) (dV Z (λe h=>bp ie Z (bD (h.heapM (u.Bh 0 Z 6 Z) (u.box 0 Z)) Z)) (dM Z (dV Z (λe h=>bR ie nn Z H' k ω ω) (dV Z (λe h=>bp kZ Z (h.cellM (u.off 0 Z 6 Z b') a')) (dM Z (dV Z (λe h=>bR kZ oT Z d' o ω ω) (dV Z υ2 (dV Z (λe h=>bp wN Z (gJ (h.atM (u.off 8 Z 6 Z h') e') 1 Z)) (aG 25339 ?_)))))))))));refine dV Z (λe h=>eB Po Z zV Z (h.atM (u.off 9 Z 6 Z r') o')) (dC func73 Z (tV η (u.Ae 10 Z) ξ) (λH a y=>?_));obtain⟨A,B,C,rfl,y⟩:=y;obtain⟨H,a⟩:=u.res A y;refine dB Z aB Z wN ni Z a τ0 (λH a c f j=>kj Z aB Z wN ni Z j 6 8 7 Z db ω τ9 (λH a c D=>?_));obtain⟨H,a,E⟩:=aL (D.A4 6 Z);cases E;refine dV Z υ2 (dm Z aB xY Z D 5 Z τ3 (λH a c=>?_));replace c:=bt c;refine aG 79781967 ?_;exact⟨(J+1,_,_),bf,⟨by dsimp only;rw[<- ii (x:=((z.A2.getD k []).getD o à).Ai) (d:=à) ω];exact((c.Aq 6).dtake 7),ω,trivial⟩,θ⟩
   refine bu ?_;obtain rfl:J=((z.A2.getD k []).getD o à).Ai.length:=by omega
   rw[ö] at Y;refine ce (sM Z (sV Z (eB BI Z oT Z (At.whole (Y.box 5 Z))) (dx aB Z kZ e8 Z Y (λH a c f q=>?_))));obtain⟨H,a,r⟩:=aL (q.A4 6 Z);cases r;have H:=q.asSt 6 (((z.A2.getD k []).getD o à):Drive) Z (Drive.own_mk (x:=((z.A2.getD k []).getD o à)) η (q.A4 6 Z));refine kC aB Z kZ e8 Z H 4 7 6 Z db ω (λH a c f=>aG 311652 ?_);exact⟨(o+1,_,_),bf,⟨by dsimp only;rw[<- ii (x:=(z.A2.getD k [])) (d:=à) ω];exact((f.Aq 3).dtake 5),ω,trivial⟩,θ⟩
  refine bu ?_;obtain rfl:o=(z.A2.getD k []).length:=by omega
  rw[ö] at t;refine ce (sF eC Z pS (sV Z (bp ie Z (bD (t.box 2 Z) Z)) ?_));obtain⟨H,a,m⟩:=aL (t.A4 4 Z);cases m;refine sM Z (dx aB Z ie iV Z t (λH a c f j=>kC aB Z ie iV Z j 3 5 4 Z db ω (λH a c o=>?_)));obtain⟨H,a,p⟩:=aL (o.A4 3 Z);cases p;refine sF eC Z pS (cL aB pS Z o 2 Z (λH a c=>?_));replace c:=bt c;refine aG 311651 ?_;exact⟨(k+1,_,_),bf,⟨by dsimp only;rw[<- ii (x:=z.A2) (d:=[]) ω];exact((c.Aq 3).dtake 4),ω,trivial⟩,θ⟩
 refine bu ?_;obtain rfl:k=z.A2.length:=by omega
 rw[ö] at n;refine aT (dG (f:=Int) aB Z cS bV n (λH a c f j=>aX 14329 j ?_));refine ma aB Z cS bV Z j 4 Z (j.Ab 1 Z) ic ia (λH a c n=>?_);obtain⟨H,a,s⟩:=aL (n.A4 4 Z);cases s;refine sF eC Z eF (cL aB eF Z n 2 Z (λH a c=>aH (aT (sF eC Z oP (cL aB oP Z c 2 Z (λH a c=>?_))))));have H:=c.nilW (a:=Tape);refine aG 7291475 ?_;refine mK (m:=Tape) (a:=Nat) (λk=>z.A3.take k) 0 H 5 2 11 Z [(1,_),(2,_),(3,_)] bf (λk=>[(9,ag k)]) (λk=>k<=z.A3.length/\True) (λk=>z.A3.length-k) ⟨Z,trivial⟩ ⟨ω,trivial⟩ (λk H q a r ⟨hk,_⟩=>?_);dsimp only[jf,lNA,lSZ,sk] at r ⊢;refine ge 0x9f3d2ff37f9125 r (λH=>?_) (λH=>?_)
 .have m_:ou (z.A3.getD k à)<=1048576:=(lr g k ω).1;unfold ou at m_;have C_:=aY (i:=k) (l:=z.A3);obtain⟨H,a,c,f,g,t,u,y,A⟩:=cR (r.Ab 2 Z) k ω;obtain⟨B,C,D,rfl,E,F,G⟩:=fd u;refine bi (aW (bP ?_));have H:=r.look1 2 Z G (λb v=>y b (by rw[E];simp[v]));refine eE (S:=Ext (· ∈ q) _) (oQ [1,3,5,7,9,11,13,15,17,19,21,23,25,27,28,31,32,34,37,38]) κ κ κ Z τ6 (λa=>?_);have c:=H.drawn a;refine dV Z υ8 (dV Z (λe h=>bp jP Z (bD (h.heapM (c.Bh 2 Z 5 Z) (c.box 2 Z)) Z)) (dV Z υ8 (dV Z (λe h=>bp jP Z (bD (h.heapM (c.Bh 0 Z 5 Z) (c.box 0 Z)) Z)) (aG 86991611 ?_))));refine dV Z (λe h=>bp tu4 Z (gJ (h.atM (c.off 2 Z 5 Z A) t) 0 Z)) (dV Z υ8 (dV Z (λe h=>bp jP Z (bD (h.heapM (c.Bh 0 Z 5 Z) (c.box 0 Z)) Z)) (aG 86991611 ?_)));refine dV Z (λe h=>bp cd Z (gJ (h.atM (c.off 2 Z 5 Z A) t) 1 Z)) (dC func74 Z (uf (c.Ae 3 Z) ξ) (λH a f=>?_));obtain⟨H,f⟩:=f;obtain⟨a,m⟩:=c.res H f;obtain⟨H,a,o⟩:=aL (m.A4 6 Z);cases o;refine dV Z (λe h=>bM u6 Z Z) (dB Z aB Z jP lO Z m τ0 (λH a c f g=>?_));have H:=bt (g.asSt 6 ((z.A3.getD k à):Tape) Z (Tape.own_mk (x:=(z.A3.getD k à)) η (g.A4 6 Z)));refine kj Z aB Z jP lO Z H 5 7 6 Z db ω τ9 (λH a c p=>?_);obtain⟨H,a,I⟩:=aL (p.A4 5 Z);cases I;refine dV Z υ8 (dm Z aB oP Z p 2 Z τ3 (λH a c=>?_));replace c:=bt c;refine aG 79781967 ?_;exact⟨(k+1,_,_),bf,⟨by dsimp only;rw[<- ii (x:=z.A3) (d:=à) ω];exact((c.Aq 3).dtake 6),ω,trivial⟩,θ⟩
 refine bu ?_;obtain rfl:k=z.A3.length:=by omega
 rw[ö] at r;obtain⟨H,a,j⟩:=aL (r.A4 3 Z);cases j;obtain⟨H,a,n⟩:=aL (r.A4 5 Z);cases n;refine aX 16882 r ?_;exact bw aB ff Z r 1 Z (λH a c=>aH (dT hQ (c.box 1 Z) Z ⟨c.ext,_,_,_,_,_,_,Z,Wld.out (c.au_pk 56) η⟩))

end Go.Wk
namespace Go.Wk
open Rp (sz own)
variable {f l:List (Ac × Nat)}{R:è->ä->Prop}{P:Program}{x:Â}{L:Env}{z:Wld}
theorem rM{d:Type}:∀ {l m:List d},l.Nodup->(∀x∈l,x∈m)->l.length<=m.length
  | [],_,_,_=>ý _
  | a::l,m,h,b=>by
    rw[ù] at h
    obtain⟨s,t,rfl⟩:=List.append_of_mem (b a (ď ..))
    have:=rM h.2 λx c=>by
      have H:=b x (Đ _ c)
      rw[aI,aM] at H
      rw[aI]
      rcases H with H|rfl|H
      · exact .inl H
      · exact absurd c h.1
      · exact .inr H
    simp at this ⊢
    omega
def nxV (b:Bool) (q:Ac × Nat):è := .tuple (match b with
  | false => #[.bool â]
  | true => #[.bool ã,.string q.1.r.Name,.agg q.1.cs.toArray])
section
variable {n:Nat}{a:Array Oper}{Q:Post}{w o:ä}{M:Nat->Prop}{m F:List Rsc}{e:List Oper}{d:Nat}{u:ì}{p:String}{t:Array Edge}{g:Option (Nat × Bool)}
theorem TC{b:Bool}{q:Ac × Nat}{o:Option Tmp}(h:evL L x=á (nxV b q)):Py P n L w ⟨o,.extract x 0,u,p,t,g⟩ (.bool b):=by
  cases b
  · exact tc h rfl
  · exact tc h rfl
theorem OW{r b c:Nat}(I:Wn a n L ⟨á d,.next x â,u,p,t,g⟩)(G:ò d n=ã)(J:evL L x=á (.pointer (á ⟨r,0,ç⟩)))(H:Sep M o m F w)
    (i j:Nat) (v:m[i]? = á (box r (.mapIter (á b) c (je l) c))) (E:m[j]? = á (box b (.map (nv f) c))) (O:MapOK f c) (C:∀q∈l,q∈f)
    (k:∀B q D W,(B=â->l=D/\∀q∈f,q∈l)->(B=ã->l++[q]=D/\q∈f/\q ∉ l)->Sep M o (m.set i (box r (.mapIter (á b) c (je D) c))) F W->RL P n a Q e ((d,nxV B q)::L) W) :
    RL P n a Q (⟨á d,.next x â,u,p,t,g⟩::e) L w:=
  SJ (c_:=0) I G J H i j v E O C
    (λh=>k â à l w (λ_=>⟨rfl,h⟩) (λh=>by cases h) (by rw[r9 v];exact H))
    (λq W y z A=>k ã q _ W (λh=>by cases h) (λ_=>⟨rfl,y,z⟩) A)
end
section
variable {a b:List Ac}{c k:Nat}
theorem E0(h:k<a.length):(a.map Ac.r).take (k+1)=(a.map Ac.r).take k++[(a.getD k à).r]:=by
  rw[ĥ,List.getElem?_map,Ã h,bX h];rfl
theorem NM:MapIs ((a.map Ac.r).take 0) []:=MapIs.nil
theorem Qk(h:MapIs ((a.map Ac.r).take k) f)(H:k<a.length)(r:(a.getD k à).r.Kind≠1):MapIs ((a.map Ac.r).take (k+1)) f:=by
  rw[E0 H];exact h.skip r
theorem Sl(h:MapIs ((a.map Ac.r).take k) f)(o:MapOK f c)(H:k<a.length)(r:(a.getD k à).r.Kind=1):MapIs ((a.map Ac.r).take (k+1)) (mJ (a.getD k à) c f):=by
  rw[E0 H];exact h.put o.names r
theorem T0(o:MapOK f c)(h:∀p∈f,p.1∈a)(b:k<a.length):∀p∈mJ (a.getD k à) c f,p.1∈a:=λp d=>by
  rcases JH o.names d with e|⟨H,_⟩
  · rw[e,bX b];exact bx _
  · exact h p H
theorem Ru(h:∀q∈l,q∈f)(H:∀p∈f,p.1∈a)(c:b.Perm (pr l)):∀v∈b,v∈a:=λv hv=>by
  have:=c.mem_iff.1 hv
  obtain⟨q,d,e⟩:=bY.1 (Ģ.1 this).1
  rw[<- e];exact H q (h q d)
theorem EZ:∀ {b:List Ac},Ord nLt Eh b->Ord nLt eI (b.map Ac.r)
  | [],_ => .nil
  | _ :: _,.cons h H => .cons (λy a=>by
      obtain⟨v,hv,e⟩:=bY.1 a
      rw[<- e];exact h v hv) (EZ H)
theorem PI(M:a.map Ac.r=cI z)(m:MapIs ((a.map Ac.r).take a.length) f)(O:MapOK f c)(d:l.Nodup)(h:∀q∈l,q∈f)(H:∀q∈f,q∈l)(p:b.Perm (pr l))(o:Ord nLt Eh b):b.map Ac.r=bT z:=by
  rw[List.take_of_length_le σ,M] at m
  exact ER ((p.map Ac.r).trans (NJ m O d h H)) (EZ o)
end
theorem L6{f:Func}{w:ä}{t y:Nat}{u:ì}{x:ô}{v V:è}(r:f.results = #[.cell t u,.tmp y])(c:look L t=á (.pointer (á x)))(l:(loadVar u x).run P w = .ok v w)(d:look L y=á V)(h:R (.tuple #[v,V]) w):fin P f R .ret L w:=λ_ a g=>
  ⟨_,by have H:=g.cov t _ c;have b:=g.cov y _ d;simp at H b;simp[results,r,H,b,asAddr,l],h⟩
def nmP (n:ByteArray) (r:Rec):Bool:=r.Name.toList == n.toList
section
variable {a:ByteArray}{r:Rec}
theorem Mh:nmP a r=ã↔r.Name=a:=by unfold nmP;rw[beq_iff_eq,Ch]
theorem HD(h:fO (nmP a) (bT z)<0):itO z a=â/\itR z a=default:=by
  refine U9 λr b e=>?_
  have H:=List.any_eq_true.2 ⟨r,b,Mh.2 e⟩
  rw[<- nX,ab] at H
  omega
theorem Pk(h:0<=fO (nmP a) (bT z)):(fO (nmP a) (bT z)).toNat<(bT z).length/\itO z a=ã/\itR z a=(bT z).getD (fO (nmP a) (bT z)).toNat default:=by
  obtain⟨k,b,l,p,_⟩:=Bz (d:=à) (show ¬ fO (nmP a) (bT z) = -1 by omega)
  have e:(fO (nmP a) (bT z)).toNat=k:=by omega
  rw[e]
  have H:=So (by rw[bX l];exact bx _) (Mh.1 p)
  exact⟨l,H.1,H.2⟩
end
end Go.Wk
namespace Go.Wk
open Go.Proofs Rp Go.Proofs.Tryz
set_option maxRecDepth 10000
variable {q:ByteArray}{z:Wld}{r L:Nat}
theorem ir{w:ä}{zb X:Nat}{U S T:Option ô}{h_ g_ Q:List Nat}(zB:w.heap[zb]? = á (ay z U X S r T L))(zK:z.Ok)(j_:ah w U z.A2 X h_)(i_:ah w S z.On r g_)(Y:ah w T z.A3 L Q)(hT:z.A3.length=2)(q_:∀k,(z.A3.getD k à).Ah.length<=200000):am 81 [au zb] w λv W=>∃M,Res w W [v] M/\RdV W Q M/\M.map Ac.r=bT z:=by
 have H:=cx zK;refine bv func81 Z (λn_ hQ hN=>?_);have H:=Sep.start (dc zB (aC j_ (aC i_ (aC Y ba))));refine aT (sA Z (aH (aT (SA aB Z H (λa H b d e=>aG 4692 ?_)))));refine sC func121 Z (ju (e.Bd 0 Z) η (aJ (e.Ab 1 Z)) (aJ (e.Ab 2 Z)) (aJ (e.Ab 3 Z)) ξ ξ) (λH b d=>?_);obtain⟨H,g,d,h,j⟩:=d;obtain⟨l,m⟩:=e.res H d;obtain⟨n,o,e_⟩:=aL (m.A4 1 Z);cases e_;have H:g.length=(cI z).length:=by rw[<- j,aS]
 have H:=jY (z:=z) ξ η;have t:RdV w Q g:=h.back m.ext (Rp.lt Y);refine aG 116593407 ?_;refine cp (j:=Nat × List (Ac × Nat) × Nat) (λ(k,P,c)=>[(11,ak n g o),(12,ag g.length),(13,ag k),(3,.map (á a))]) (λ(k,P,c) W=>Sep No w [box a (.map (nv P) c),A4 [ak n g o] g l] _ W/\k<=g.length/\MapOK P c/\MapIs ((g.map Ac.r).take k) P/\(∀p∈P,p.1∈g)/\P.length<=k) (λ(k,P,c)=>g.length-k) (0,[],0) bf ⟨m,bj,MapOK.nil,NM,(λp s=>by cases s),by(try dsimp only);exact aN _⟩ (λ(k,P,c) H b=>?_);obtain⟨b,hk,y,N,K,p_⟩:=b;refine br 10441682 (λH=>?_) (λH=>?_)
 .obtain⟨H,d,e,h,m⟩:=b.B2 1 Z k ω;refine aG 71416433110878 ?_;refine cz aB Z Ä b (λH d e h m=>bw aB cy Z m 2 Z (λH d e=>ge 683926878499 e (λH=>?_) (λH=>?_)))
  .refine aX 17703631126 e ?_;refine Ux (v:=g.getD k à) aB SX tu9 Z Z Z e 0 Z y (λH d h m=>aG 203875 ?_);exact⟨(k+1,mJ (g.getD k à) c P,_),bf,⟨(m.dtake 2),bj,h,Sl N y ω ω,T0 y K ω,by have:=O1 (v:=g.getD k à) (c:=c) (f:=P);(try dsimp only);omega⟩,θ⟩
  refine aG 203886 ?_;exact⟨(k+1,P,c),bf,⟨(e.dtake 2),bj,y,Qk N ω ω,K,bj⟩,θ⟩
 refine bu (aT (dG (f:=Ac) aB Z cd be b (λH b d e f_=>aG 4692 ?_)));refine Ps aB Z SX Z f_ 0 Z (λx r_ k_ l_ a_=>aH (bP (cp (j:=List (Ac × Nat) × è × List Nat) (λ(D,V,f)=>[(27,au x),(6,V)]) (λ(D,V,f) W=>Sep No w [box a (.map (nv P) c),A4 [ak n g o] g l,A4 [V] (pr D) f,box x (.mapIter (á a) c (je D) c)] _ W/\D.Nodup/\∀q∈D,q∈P) (λ(D,V,f)=>P.length-D.length) ([],_,_) bf ⟨a_,.nil,λq hq=>by cases hq⟩ (λ(D,V,f) m_ E=>?_))));obtain⟨E,B,u⟩:=E;refine aT (OW aB Z Z E 3 0 Z Z y u (λbb q H a b_ G I=>?_));replace I:=bt I;refine sV Z (TC Z) (aH (aW (gG Z (λJ=>?_) (λJ=>?_))))
 .have G:=G J;obtain rfl:=G.1;have H:=rM B u;refine bi (bP (aT (sV Z (MD Z I 3 0 Z Z y G.2.1) (sV Z (tc Z Z) (cz aB Z Ä I (λa b d e h=>bw aB cy Z h 4 Z (λa b d=>ge 683926878499 d (λa=>?_) (λa=>?_))))))))
  .have d_:q.1.r.Ok:=(RdV.Ae t (K q G.2.1)).1;have o_:=E6 (g:=D);refine aX 270102 d ?_;refine dx aB Z cd be Z d (λb e h l m=>fC aB Z cd be Z m 2 5 Z (dK (v:=q.1) d_) db ω (λb e h l=>?_));have C:=pK B G.2.2;refine sA Z (aH ?_);have F:∀p∈D++[q],p∈P:=λp s=>by
    rcases aI.1 s with s|s
    .exact u p s
    rw[aD] at s;rw[s];exact G.2.1
   have O:=rM C F;rw[aO,È] at O;have A:=(l.dtake 4);rw[<- Ns (g:=D) (q:=q) (by simpa using a)] at A;exact⟨(D++[q],_,_),bf,⟨A,C,F⟩,by dsimp only;rw[aO,È];omega⟩
  have C:=pK B G.2.2;refine bi ?_;have F:∀p∈D++[q],p∈P:=λp s=>by
   rcases aI.1 s with s|s
   .exact u p s
   rw[aD] at s;rw[s];exact G.2.1
  have O:=rM C F;rw[aO,È] at O;have A:=(d.dtake 4);rw[<- OQ (g:=D) (q:=q) (by simpa using a)] at A;exact⟨(D++[q],_,_),bf,⟨A,C,F⟩,by dsimp only;rw[aO,È];omega⟩
 obtain⟨rfl,c_⟩:=b_ J;have H:=rM B u;refine bu ?_;obtain⟨oa,H,oq⟩:=aL (I.A4 2 Z);cases oq;refine aT (sM Z (sC func122 Z (KW (V:=pr D) (I.A4 2 Z) (I.Aj (i:=2) Z) (by have:=E6 (g:=D);omega)) (λH a b=>?_)));obtain⟨us,H,R,hS⟩:=b;obtain⟨a,b⟩:=I.mut 2 Z H;refine aG 16675 ?_;exact rT hQ Z ⟨b.ext,us,b.out 2 Z,(t.sub (Ru u K R)).to b.ext,PI j (by rwa[show k=g.length by omega] at N) y B u c_ R hS⟩

theorem ss{w:ä}{r:Rec}{R e f:Option ô}{g i j B:Nat}(h:w.heap[B]? = á (.cells [.string q].toArray 9)):am 83 [r.val R g e i f j,au B] w λv W=>v = .bool (nmP q r):=by
 refine bv func83 Z (λQ d N=>?_);have H:=Sep.start (dc h ba);refine aT (ci aB Z H (λB H a b c=>aX 0x429f37f37f924 c ?_));exact rT d Z ⟨c.ext,Z⟩

theorem u0{w:ä}{M I:Nat}{G E F:Option ô}{P O t:List Nat}(N:w.heap[M]? = á (ay z G I E r F L))(R:z.Ok)(T:ah w G z.A2 I P)(S:ah w E z.On r O)(J:ah w F z.A3 L t)(V:z.A3.length=2)(X:∀k,(z.A3.getD k à).Ah.length<=200000):am 46 [au M,.string q] w λv W=>∃A C u y x B,v = .tuple #[(itR z q).val A C u y x B,.bool (itO z q)]/\InF W t (Ac.mk (itR z q) A C u y x B).cs (itR z q):=by
 have H:=cx R;refine bv func46 Z (λQ D U=>?_);have H:=Sep.start (dc N (aC T (aC S (aC J ba))));refine aT (ci aB Z H (λH a b c d=>cz aB Z Ä d (λH c d e f=>sA Z (aH (aT (sM Z (sC func81 Z (ir (f.Bd 0 Z) η (aJ (f.Ab 1 Z)) (aJ (f.Ab 2 Z)) (aJ (f.Ab 3 Z)) ξ ξ) (λH c d=>?_))))))));obtain⟨H,g,d,h,i⟩:=d;obtain⟨c,j⟩:=f.res H d;obtain⟨H,c,l⟩:=aL (j.A4 2 Z);cases l;have H:g.length=(bT z).length:=by rw[<- i,aS]
 have H:RdV w t g:=h.back j.ext (Rp.lt J);refine sA Z (aH (aT (sM Z (sV Z (qo Z) ?_))));have s:=lD (s:=g.map Ac.r) (p:=nmP q) (by dsimp only[aj,ak];rw[aS];exact(H.to j.ext).list (j.A4 2 Z)) func83 Z M5 (λa b a c d e f g h l K m n o=>ss (b.heap (j.box 0 Z)));(try dsimp only[aj,ak] at s);rw[aS,i] at s;refine sE func82 Z s j (λa b c=>br 2671579732 (λa=>?_) (λa=>?_))
 .refine aT (sV Z (bM eD Z Z) (bw aB cy Z c 1 Z (λa b d=>sA Z (aH (dY (D _ _ (L6 Z Z (cm cu Z cy Z (At.whole (d.box 1 Z))) Z ?_)))))));obtain⟨a,b⟩:=HD (z:=z) (a:=q) ω;rw[a,b];exact⟨d.ext,ç,0,ç,0,ç,0,Z,Qw⟩
 obtain⟨a,b,a⟩:=Pk (z:=z) (a:=q) ω;obtain⟨d,e,f,g,h⟩:=c.B2 2 Z (fO (nmP q) (bT z)).toNat ω;refine bi (aT (sR 2 Z (sV Z (bR cd cy Z f (fO (nmP q) (bT z)).toNat ω ω) (sV Z (eB cu Z cy Z g) (bw aB cy Z c 1 Z (λc d e=>sA Z (aH (dY (D _ _ (L6 Z Z (cm cu Z cy Z (At.whole (e.box 1 Z))) Z ?_))))))))));rw[b,a,<- ey i ω];exact⟨e.ext,_,_,_,_,_,_,Z,(H.Bi (k:=(fO (nmP q) (bT z)).toNat) ω).to e.ext⟩

end Go.Wk
namespace Go.Wk
open Rp (sz own)
variable {M:Nat->Prop}{B F a_:List Rsc}{I ft J f2 d_ f3 fq U Y f6 f7 f8 f9:List Nat}{C w':ä}{b m c c_:Nat}{us O ps:List Ac}{ad A:Option ô}{xs:List UInt8}{H:ByteArray}{T ty e:ì}{af:Array Edge}{P:Program}{y:Wld}{p:String}{b_:Array Oper}{L:Env}{l:List Drive}{f:Int}{wi:Bool}{e_:List Oper}{c1 c2 c3:List è}{Q:Post}{o':Obj}{fn:Func}
def iLt (a b:Int):Prop:=a<b
def sB (X:List Int) (x:Int):Nat->Bool
  | 0=>â
  | k+1=>sB X x k || decide (x<X.getD k 0)
def oG (X:List Int) (x:Int):Nat->List Int
  | 0=>[]
  | k+1=>if x<X.getD k 0/\sB X x k=â then oG X x k++[x]++[X.getD k 0] else oG X x k++[X.getD k 0]
def Dc (X:List Int) (x:Int):List Int:=if sB X x X.length=ã then oG X x X.length else oG X x X.length++[x]
section
variable {a ys:List Int}{x:Int}{k:Nat}
theorem F0(h:x<a.getD k 0)(H:sB a x k=â):oG a x (k+1)=oG a x k++[x]++[a.getD k 0]/\sB a x (k+1)=true:=⟨ae ⟨h,H⟩,by rw[sB,aU h,Bool.or_true]⟩
theorem DX(h:¬ x<a.getD k 0\/sB a x k=ã):oG a x (k+1)=oG a x k++[a.getD k 0]/\sB a x (k+1)=sB a x k:=by
  constructor
  · refine ac (λq=>?_)
    rcases h with h|h
    · exact h q.1
    · rw[q.2] at h;cases h
  · show(sB a x k || decide _)=sB a x k
    rcases h with h|h
    · rw[a8 h,Bool.or_false]
    · rw[h,Bool.true_or]
theorem Lb(h:sB a x a.length=ã):Dc a x=oG a x a.length:=ae h
theorem QR(h:sB a x a.length=â):Dc a x=oG a x a.length++[x]:=ac gX
theorem GF:∀ {k},(oG a x k).length=k+(if sB a x k=ã then 1 else 0)
  | 0=>rfl
  | k+1=>by
    have i:=GF (k:=k)
    by_cases h:x<a.getD k 0/\sB a x k=â
    · obtain⟨e,E⟩:=F0 h.1 h.2
      rw[e,E,aO,aO,i,h.2];rfl
    · obtain⟨e,E⟩:=DX (by
        by_cases q:x<a.getD k 0
        · exact .inr (by cases c:sB a x k with|true=>rfl|false=>exact absurd ⟨q,c⟩ h)
        · exact .inl q)
      rw[e,E,aO]
      simp;omega
theorem Fa(o:Ord iLt id a):∀ {k},k<=a.length->(sB a x k=â/\oG a x k=a.take k/\∀y∈a.take k,¬ x<y) \/
    (sB a x k=ã/\∃A B,a.take k=A++B/\oG a x k=A++x::B/\(∀y∈A,¬ x<y)/\(∀y∈B,x<y)/\B≠[])
  | 0,_ => .inl ⟨rfl,rfl,σ⟩
  | k+1,p=>by
    have t:a.take (k+1)=a.take k++[a.getD k 0]:=by rw[ĥ,Ã ω,bX ω];rfl
    rcases Fa o (k:=k) ω with ⟨H,c,d⟩|⟨H,A,B,c,d,i,f,j⟩
    · by_cases q:x<a.getD k 0
      · obtain⟨e,E⟩:=F0 q H
        refine .inr ⟨E,a.take k,[a.getD k 0],t,by rw[e,c];simp,d,by simpa using q,σ⟩
      · obtain⟨e,E⟩:=DX (.inl q)
        refine .inl ⟨E.trans H,by rw[e,c,t],λy h=>?_⟩
        rw[t,aI,aD] at h
        rcases h with h|rfl
        · exact d y h
        · exact q
    · obtain⟨e,E⟩:=DX (.inr H)
      refine .inr ⟨E.trans H,A,B++[a.getD k 0],by rw[t,c];simp,by rw[e,d];simp,i,λy h=>?_,σ⟩
      rw[aI,aD] at h
      rcases h with h|rfl
      · exact f y h
      · cases B with
        | nil=>exact absurd rfl j
        | cons b B=>
          have l:b∈a.take k:=by rw[c];simp
          have m:a.getD k 0∈a.drop k:=by
            rw[List.drop_eq_getElem_cons ω,bX ω];exact ď ..
          have g:=Ord.le (by rw[List.take_append_drop];exact o) b l _ m
          have n:=f b (ď ..)
          unfold iLt at g
          simp only[id] at g
          omega
end
section
variable {d:List Int}{x m:Int}
theorem E8(h:∀i,i+1<d.length->d.getD i 0<d.getD (i+1) 0):∀ {i j},i<j->j<d.length->d.getD i 0<d.getD j 0:=by
  intro i j a H
  induction j with
  | zero=>omega
  | succ j I=>
    by_cases e:i=j
    · subst e;exact h i H
    · exact Int.lt_trans (I ω ω) (h j H)
theorem wT(h:rises d m=ã)(i:Nat)(hi:i+1<d.length):d.getD i 0<d.getD (i+1) 0:=by
  rw[rises,û] at h
  have:=h (i+1) uq
  unfold kz at this
  simp only[aP,bJ,ab] at this
  rcases this.2 with q|q
  · omega
  · exact q
theorem M7(h:∀i j,i<j->j<d.length->d.getD i 0<d.getD j 0):Ord iLt id d:=by
  induction d with
  | nil=>exact .nil
  | cons a l I=>
    refine .cons (λy H=>?_) (I λi j b h2=>?_)
    · obtain⟨k,hk,e⟩:=ð H
      have:=h 0 (k+1) ω oi
      have E:(a::l).getD (k+1) 0=y:=by rw[ę,bX hk,e]
      rw[E] at this
      unfold iLt
      simp at this ⊢
      omega
    · have:=h (i+1) (j+1) ω sr
      simpa using this
theorem EX(h:rises d m=ã):Ord iLt id d:=M7 λ_ _=>E8 (wT h)
theorem JT(h:rises d m=ã):d.Pairwise (· < ·):=by
  rw[Ň]
  intro i j a H b
  have:=E8 (wT h) b H
  rwa[bX a,bX H] at this
theorem Km(h:d.Pairwise (· < ·))(b:∀y∈d,0<=y/\y<=m):rises d m=true:=by
  refine vI λi hi=>?_
  have H:=b (d.getD i 0) FX
  unfold kz
  rw[aU H.1,aU H.2,Þ,Þ,bJ,ab,ab]
  by_cases e:i=0
  · exact .inl e
  · refine .inr ?_
    have:=Ň.1 h (i-1) i ω hi ω
    rw[bX ω,bX hi];exact this
theorem E1(o:Ord iLt id d):∃A B,d=A++B/\Dc d x=A++x::B/\(∀y∈A,¬ x<y)/\∀y∈B,x<y:=by
  rcases Fa o (aN _) with ⟨a,h,H⟩|⟨a,A,B,h,H,b,c,_⟩
  · rw[ö] at h H
    exact⟨d,[],σ,by rw[QR a,h],H,σ⟩
  · rw[ö] at h
    exact⟨A,B,h,by rw[Lb a,H],b,c⟩
theorem Mt(o:Ord iLt id d){y:Int}:y∈Dc d x↔y∈d\/y=x:=by
  obtain⟨A,B,H,a,_,_⟩:=E1 o
  rw[a,H]
  simp
  constructor
  · rintro(h|h|h)
    · exact .inl (.inl h)
    · exact .inr h
    · exact .inl (.inr h)
  · rintro((h|h)|h)
    · exact .inl h
    · exact .inr (.inr h)
    · exact .inr (.inl h)
theorem ME(h:rises d m=ã)(s:0<=x/\x<=m)(r:x ∉ d):rises (Dc d x) m=true:=by
  have o:=EX h
  refine Km ?_ λy g=>?_
  · obtain⟨A,B,j,l,n,p⟩:=E1 o
    have H:=JT h
    rw[j,Ţ] at H
    rw[l,Ţ]
    refine⟨H.1,List.pairwise_cons.2 ⟨p,H.2.1⟩,λa c b f=>?_⟩
    have q:a<x:=by
      have t:=n a c
      have u:a≠x:=λe=>r (by rw[j,<- e];exact Ó _ c)
      omega
    rcases aM.1 f with rfl|f
    · exact q
    · exact H.2.2 a c b f
  · rcases(Mt o).1 g with g|rfl
    · obtain⟨i,k,e⟩:=ð g
      have:=pi h i k
      rwa[bX k,e] at this
    · exact s
end
noncomputable def gvD (z:Wld) (f g r:Int):UInt8:=(opR z g r).Ad.getD f.toNat 0
noncomputable def p7 (z:Wld) (f g r:Int):Bool:=qZ z g r && (!decide ((gvD z f g r).toNat=0) && !decide (f∈(opR z g r).Rows))
noncomputable def gvR (z:Wld) (f g r:Int):Rec:=⟨(opR z g r).Kind,(opR z g r).Seq,(opR z g r).Name,(opR z g r).Length,(opR z g r).Group,(opR z g r).Row,Dc (opR z g r).Rows f,eH (opR z g r).Data (cK (pI z f r) (gvD z f g r)),(opR z g r).Ad⟩
noncomputable def gvC (z:Wld) (f g r:Int):Int:=if p7 z f g r=ã then nxC z (gvR z f g r) else 0
noncomputable def gvZ (z:Wld) (f g r:Int):Wld:=if p7 z f g r=ã then nxZ z (gvR z f g r) else z
section
variable {z:Wld}{g a:Int}
theorem S0(h:p7 z f g a=â):gvC z f g a=0/\gvZ z f g a=z:=⟨ac gX,ac gX⟩
theorem U5(h:p7 z f g a=ã):gvC z f g a=nxC z (gvR z f g a)/\gvZ z f g a=nxZ z (gvR z f g a):=⟨ae h,ae h⟩
def RecsOK (z:Wld):Prop:=AllR (λr=>recF z.A0 r=0) z
theorem Me(h:p7 z f g a=ã):qZ z g a=ã/\(gvD z f g a).toNat≠0/\f ∉ (opR z g a).Rows:=by
  unfold p7 at h
  simp at h
  exact⟨h.1,h.2.1,h.2.2⟩
theorem xV(H:RecsOK z)(h:qZ z g a=ã):recF z.A0 (opR z g a)=0:=AllR.cnt H (R2 (Mp h))
theorem w6(h:recF z.A0 (opR z g a)=0)(k:(opR z g a).Kind=4):ins (opR z g a).Group 0 (z.A0.A2+z.A0.A5-1)=ã/\ins (opR z g a).Row 0 (z.A0.Rows-1)=ã/\rises (opR z g a).Rows (z.A0.A2+z.A0.A5-1)=ã/\((opR z g a).Data.length:Int)=z.A0.Data*4/\weightsOK z.A0 (opR z g a)=true:=by
  have H:=De h k
  unfold gT at H
  simp at H
  exact⟨H.1.1.1.1,H.1.1.1.2,H.1.1.2,H.1.2,H.2⟩
theorem LU(s:z.A0.ok=ã)(G:b7 z=ã)(c:ins f 0 (z.A0.A2+z.A0.A5-1)=ã)(b:dP z f=â)(A:RecsOK z)(h:p7 z f g a=ã):((gvR z f g a).Data.length:Int)=z.A0.Data*4/\(opR z g a).Data.length=(cK (pI z f a) (gvD z f g a)).length:=by
  obtain⟨H,_,_⟩:=Me h
  obtain⟨k,_,w⟩:=xQ H
  obtain⟨_,d,_,D,_⟩:=w6 (xV A H) k
  rw[w] at d
  have l:=l4 s G c d b
  have e:(opR z g a).Data.length=(cK (pI z f a) (gvD z f g a)).length:=by rw[ik];omega
  refine⟨?_,e⟩
  show((eH (opR z g a).Data _).length:Int)=_
  rw[ip ω];exact D
theorem I2(w:z.A0.ok=ã)(G:b7 z=ã)(c:ins f 0 (z.A0.A2+z.A0.A5-1)=ã)(p:dP z f=â)(A:RecsOK z)(h:p7 z f g a=ã):gT z.A0 (gvR z f g a)=true:=by
  obtain⟨b,m,n⟩:=Me h
  obtain⟨u,_,y⟩:=xQ b
  obtain⟨k,l,D,x,d⟩:=w6 (xV A b) u
  have r:=bH.1 c
  have o:=(LU w G c p A h).1
  have v:=EX D
  unfold gT
  simp
  refine⟨⟨⟨⟨k,l⟩,ME D r n⟩,o⟩,?_⟩
  unfold weightsOK at d ⊢
  simp only[aP] at d ⊢
  refine⟨d.1,?_⟩
  rw[û]
  intro i s
  have t:i<(Dc (opR z g a).Rows f).length:=List.mem_range.1 s
  rw[ab]
  show ¬ (((opR z g a).Ad.getD ((Dc (opR z g a).Rows f).getD i 0).toNat 0).toNat:Int)=0
  have H:(Dc (opR z g a).Rows f).getD i 0∈Dc (opR z g a).Rows f:=by rw[bX t];exact bx _
  rcases(Mt v).1 H with H|H
  · obtain⟨j,hj,e⟩:=ð H
    have:=û.1 d.2 j sD
    rw[ab,bX hj,e] at this
    exact this
  · rw[H]
    intro q
    exact m (by unfold gvD;omega)
theorem m7{s:A0}{r:Rec}(h:recF s r=0):ins r.Kind 1 4=ã/\bareOK r=true:=by
  cases H:ins r.Kind 1 4 with
  | false=>rw[vi H] at h;exact absurd h ω
  | true=>
    refine⟨rfl,?_⟩
    cases q:ins r.Seq 1 1000000000 with
    | false=>rw[xJ H q] at h;exact absurd h ω
    | true=>
      by_cases a:fm s r=0
      · cases b:bareOK r with
        | true=>rfl
        | false=>rw[oY H q a b] at h;exact absurd h ω
      · rw[iF H q a] at h;exact absurd h a
theorem Lu(s:z.A0.ok=ã)(G:b7 z=ã)(c:ins f 0 (z.A0.A2+z.A0.A5-1)=ã)(d:dP z f=â)(A:RecsOK z)(h:p7 z f g a=ã){q:Int}(e:1<=q/\q<=1000000000):recF z.A0 (seqR (gvR z f g a) q)=0:=by
  obtain⟨H,_,_⟩:=Me h
  obtain⟨k,_,_⟩:=xQ H
  obtain⟨P,p⟩:=m7 (xV A H)
  have i:=I2 s G c d A h
  have b:(seqR (gvR z f g a) q).Kind=4:=k
  refine lA (by rw[b];decide) (bH.2 e) ?_ ?_
  · rw[g9 b,ae]
    exact i
  · unfold bareOK at p ⊢
    rw[ac ω,ac ω,ac ω] at p
    rw[ac ω,ac ω,ac ω]
    exact p
end
section
variable {z:Wld}{r:Rec}{t u:Nat}
theorem ta(h:cN z=â)(H:t<z.A3.length):((gc t r z).A3.getD u à).Ah.length=(z.A3.getD u à).Ah.length+(if u=t then 1 else 0):=by
  unfold gc;rw[eW h]
  show((z.A3.set t _).getD u à).Ah.length=_
  rw[d8];split
  · next h=>rw[h.1];simp
  · next h=>rw[ac (λe=>h ⟨e,H⟩)];rfl
theorem K1(T:z.A3.length=2)(h:mg z r=0):(layZ z r).Aa=z.Aa+2/\((layZ z r).A3.getD 0 à).Ah.length=(z.A3.getD 0 à).Ah.length+1 /\
    ((layZ z r).A3.getD 1 à).Ah.length=(z.A3.getD 1 à).Ah.length+1/\(z.A3.getD 0 à).Ah.length<200/\(z.A3.getD 1 à).Ah.length<200:=by
  obtain⟨a,H⟩:=Fu h
  obtain⟨J,f2⟩:=ui a
  unfold jL at H
  simp at H
  rw[(fM a).2,(nW H.1).1]
  have e:(gc 0 r z).Aa=z.Aa+1:=by unfold gc;rw[eW H.1];rfl
  have E:(gc 1 r (gc 0 r z)).Aa=(gc 0 r z).Aa+1:=by
    show(pk _ _).Aa=_
    rw[eW H.2];rfl
  have A:=ta (t:=0) (u:=0) (r:=r) H.1 ω
  have b:=ta (t:=0) (u:=1) (r:=r) H.1 ω
  have B:=ta (t:=1) (u:=0) (r:=r) H.2 (by rw[kL];omega)
  have c:=ta (t:=1) (u:=1) (r:=r) H.2 (by rw[kL];omega)
  rw[ae rfl] at A c
  rw[ac dv] at b B
  exact⟨ω,ω,ω,J,f2⟩
theorem Sq(h:nxC z r=0):¬ 1000000000<nxQ z/\mg z (seqR r (nxQ z))=0:=by
  by_cases c:1000000000<nxQ z
  · rw[(lx c).1] at h;exact absurd h dv
  · exact⟨c,by rw[(kE c).1] at h;exact h⟩
end
theorem HX{x:List Int}{m:Int}(h:rises x m=ã):∀ {i:Nat},i<x.length->(i:Int)<=x.getD i 0
  | 0,H=>(pi h 0 H).1
  | i+1,H=>by
    have a:=HX h (i:=i) ω
    have b:=wT h i H
    omega
theorem AM{x:List Int}{m:Int}(h:rises x m=ã)(b:0<=m):(x.length:Int)<=m+1:=by
  by_cases c:x.length=0
  · omega
  · have H:=HX h (i:=x.length-1) ω
    have a:=(pi h (x.length-1) ω).2
    omega
noncomputable def gwC (z:Wld) (f g r:Int):Int:=if dP z f=ã then 0 else gvC z f g r
noncomputable def gwZ (z:Wld) (f g r:Int):Wld:=if dP z f=ã then z else gvZ z f g r
structure GvI (z0 z:Wld):Prop where
  sh:z.A0=z0.A0
  gr:z.A2=z0.A2
  tp:z.A3.length=2
  sq:SeqOK z
  rc:RecsOK z
  dn:z.Down=z0.Down
  r0:(z.A3.getD 0 à).Ah.length<=200
  r1:(z.A3.getD 1 à).Ah.length<=200
  wr:z.Aa<=z0.Aa+((z.A3.getD 0 à).Ah.length:Int)+((z.A3.getD 1 à).Ah.length:Int)
  mw:qD z<=qD z0+200*(z.A3.getD 0 à).Ah.length
  ok:z.Ok
section
variable {z d:Wld}{g a:Int}
theorem GvI.start(h:c7 z=0)(o:z.Ok):GvI z z:=by
  obtain⟨H,a⟩:=Cc h
  exact⟨rfl,rfl,(c5 h).2.2.2.1,nT h,tm h,rfl,H,a,ω,ω,o⟩
theorem Im(s:z.A0.ok=ã)(G:b7 z=ã)(e:ins f 0 (z.A0.A2+z.A0.A5-1)=ã)(c:dP z f=â)(A:RecsOK z)(h:p7 z f g a=ã):fH (gvR z f g a)<=40/\AZ (gvR z f g a)<=50:=by
  have S:=bm s
  obtain⟨b,_,_⟩:=Me h
  obtain⟨l,_,_⟩:=xQ b
  have H:=I2 s G e c A h
  obtain⟨_,p⟩:=m7 (xV A b)
  unfold bareOK at p
  rw[ac ω,ac ω,ac ω] at p
  simp only[aP,ab,noName] at p
  unfold gT weightsOK at H
  simp at H
  obtain⟨⟨⟨⟨D,i⟩,d⟩,j⟩,⟨k,_⟩,_⟩:=H
  have m:=AM d ω
  have n:(gvR z f g a).Name.size=0:=by
    show(opR z g a).Name.size=0
    rw[p.1];rfl
  unfold fH AZ
  omega
theorem Cr(h:dP z f=ã):gwC z f g a=0/\gwZ z f g a=z:=⟨ae h,ae h⟩
theorem Br(h:p7 z f g a=â):gwC z f g a=0/\gwZ z f g a=z:=by
  unfold gwC gwZ;rw[(S0 h).1,(S0 h).2]
  constructor<;>split<;>rfl
theorem Mu(H:dP z f=â)(h:p7 z f g a=ã):gwC z f g a=nxC z (gvR z f g a)/\gwZ z f g a=nxZ z (gvR z f g a):=by
  unfold gwC gwZ;rw[ac (by simp[H]),ac (by simp[H])];exact U5 h
theorem Mw{r:Rec}(h:RecsOK z)(a:¬ 1000000000<nxQ z->recF z.A0 (seqR r (nxQ z))=0):RecsOK (nxZ z r):=by
  have H:=Mj h a
  unfold RecsOK;rw[pX.1];exact H
theorem GvI.hyp(I:GvI d z)(s:d.A0.ok=ã)(h:b7 d=ã)(H:ins f 0 (d.A0.A2+d.A0.A5-1)=ã):z.A0.ok=ã/\b7 z=ã/\ins f 0 (z.A0.A2+z.A0.A5-1)=true:=
  ⟨by rw[I.sh];exact s,wh I.sh I.gr h,by rw[I.sh];exact H⟩
theorem GvI.step(I:GvI d z)(s:d.A0.ok=ã)(G:b7 d=ã)(w:d.Aa<=1000000000)(l:ins f 0 (d.A0.A2+d.A0.A5-1)=ã)(h:gwC z f g a=0):GvI d (gwZ z f g a):=by
  obtain⟨i,b,e⟩:=I.hyp s G l
  cases H:dP z f with
  | true=>rw[(Cr H).2];exact I
  | false=>
    cases hv:p7 z f g a with
    | false=>rw[(Br hv).2];exact I
    | true=>
      obtain⟨E,j⟩:=Mu H hv
      rw[E] at h
      obtain⟨q,Q⟩:=Sq h
      obtain⟨x,X,o,C,D⟩:=K1 I.tp Q
      obtain⟨S,B⟩:=Im i b e H I.rc hv
      obtain⟨N,v,y,A⟩:=Nq I.tp
      have p:=lK I.sq
      have n:=Mw I.rc λc=>Lu i b e H I.rc hv ⟨ω,ω⟩
      have t:=I.wr;have u:=I.mw
      have m:=TJ (r:=gvR z f g a) I.ok ω
      have k:=(kE (r:=gvR z f g a) q).2
      rw[j]
      rw[<- k] at x X o
      exact⟨pX.1.trans I.sh,pX.2.trans I.gr,N,RZ I.sq,n,(QS h).trans I.dn,ω,ω,ω,ω,m⟩
end
noncomputable def gaR (f g:Int):Nat->Nat->Wld->Int × Wld
  | 0,_,z=>(0,z)
  | n+1,j,z=>if gwC z f g j=0 then gaR f g n (j+1) (gwZ z f g j) else(gwC z f g j,gwZ z f g j)
noncomputable def gaG (f:Int) (m:Nat):Nat->Nat->Wld->Int × Wld
  | 0,_,z=>(0,z)
  | n+1,k,z=>if(gaR f k m 0 z).1=0 then gaG f m n (k+1) (gaR f k m 0 z).2 else gaR f k m 0 z
noncomputable def gaP (z:Wld) (f:Int):Int × Wld:=gaG f z.A0.Rows.toNat (z.A0.A2+z.A0.A5).toNat 0 z
section
variable {z z0:Wld}{g row:Int}{n j k:Nat}
theorem RK(h:n=0):gaR f g n j z=(0,z):=by subst h;rfl
theorem TB(H:n=m+1)(h:gwC z f g j=0):gaR f g n j z=gaR f g m (j+1) (gwZ z f g j):=by subst H;rw[gaR,ae h]
theorem O5(H:n=m+1)(h:gwC z f g j≠0):gaR f g n j z=(gwC z f g j,gwZ z f g j):=by subst H;rw[gaR,ac h]
theorem SQ(h:n=0):gaG f m n k z=(0,z):=by subst h;rfl
theorem Uh{q:Nat}(H:n=q+1)(h:(gaR f k m 0 z).1=0):gaG f m n k z=gaG f m q (k+1) (gaR f k m 0 z).2:=by subst H;rw[gaG,ae h]
theorem PM{q:Nat}(H:n=q+1)(h:(gaR f k m 0 z).1≠0):gaG f m n k z=gaR f k m 0 z:=by subst H;rw[gaG,ac h]
end
section
variable {z:Wld}{g:Int}
theorem ti:rL z<m↔eU z m=true:=by
  unfold eU rL
  simp only[bJ,ab]
  omega
end
section
theorem Ms{a:List Rec}:∀ {n:Nat}{b:List Rec},b.length=n->b.foldl ddR a=a++(dds b).filter (λr => !decide (r∈a))
  | 0,b,h=>by rw[í h];simp[dds]
  | n+1,b,h=>by
    obtain⟨c,x,rfl⟩:∃c x,b=c++[x]:=⟨b.dropLast,b.getLast (by intro e;rw[e] at h;simp at h),(ĺ _).symm⟩
    have g:c.length=n:=by simpa using h
    have i:=Ms (a:=a) g
    have E:(c++[x]).foldl ddR a=ddR (c.foldl ddR a) x:=by rw[ı];rfl
    have f:dds (c++[x])=ddR (dds c) x:=by unfold dds;rw[ı];rfl
    rw[E,i,f]
    by_cases H:x∈a
    · rw[zZ (Ó _ H)]
      unfold ddR;split
      · rfl
      · rw[ă,List.filter_cons_of_neg (by simp[H]),List.filter_nil,Į]
    · by_cases d:x∈dds c
      · rw[zZ d,zZ (Ù _ (Ģ.2 ⟨d,by simp[H]⟩))]
      · rw[Bq d,Bq (λq=>(aI.1 q).elim H λq=>d (Ģ.1 q).1),ă,List.filter_cons_of_pos (by simp[H]),List.filter_nil,Î]
theorem LK{a b:List Rec}:dds (a++b)=dds a++(dds b).filter (λr => !decide (r∈dds a)):=by
  have e:dds (a++b)=b.foldl ddR (dds a):=by unfold dds;rw[ı]
  rw[e,Ms rfl]
theorem Mo{r:Rec}:∀ {n:Nat}{b:List Rec},b.length=n->(r∈dds b↔r∈b)
  | 0,b,h=>by rw[í h];simp[dds]
  | n+1,b,h=>by
    obtain⟨c,x,rfl⟩:∃c x,b=c++[x]:=⟨b.dropLast,b.getLast (by intro e;rw[e] at h;simp at h),(ĺ _).symm⟩
    have i:=Mo (r:=r) (show c.length=n by simpa using h)
    have E:dds (c++[x])=ddR (dds c) x:=by unfold dds;rw[ı];rfl
    rw[E,aI,aD,<- i]
    unfold ddR;split
    · next c1=>exact⟨.inl,λq=>q.elim id λe=>e ▸ c1⟩
    · rw[aI,aD]
theorem Df:∀ {n:Nat}{b:List Rec},b.length=n->b.Nodup->dds b=b
  | 0,b,h,_=>by rw[í h];rfl
  | n+1,b,h,H=>by
    obtain⟨c,x,rfl⟩:∃c x,b=c++[x]:=⟨b.dropLast,b.getLast (by intro e;rw[e] at h;simp at h),(ĺ _).symm⟩
    obtain⟨N,_,a⟩:=ë.1 H
    have i:=Df (show c.length=n by simpa using h) N
    have E:dds (c++[x])=ddR (dds c) x:=by unfold dds;rw[ı];rfl
    rw[E,i]
    exact Bq λq=>a x q x (aD.2 rfl) rfl
end
section
variable {z:Wld}{r:Rec}{t:Nat}
theorem E3(H:z.A3.length=2):z.A3=[z.A3.getD 0 à,z.A3.getD 1 à]:=by
  match h:z.A3,H with
  | [a,b],_=>rfl
theorem CO(h:z.A3.length=2):allR z z.A3.length=(z.A3.getD 0 à).Ah++(z.A3.getD 1 à).Ah:=by
  unfold allR
  rw[E3 h]
  simp
end
structure Al where
  Au:Bool
  Ah:List Ac
instance:Rp Al:=Rp.via λx=>(x.Au,x.Ah)
instance:Inhabited Al:=⟨⟨â,[]⟩⟩
def Al.Ok (x:Al):Prop:=True
theorem pb{s w c}{x:Al}{f}(h:own s w c x f):∃(A:Option ô) (C:Nat) (J:List Nat) ,c=[.bool x.Au,.slice A x.Ah.length C]/\f=J/\x.Ok/\own s w [.slice A x.Ah.length C] x.Ah J:=by
  obtain⟨_,_,_,_,rfl,e,H,k0⟩:=dw h
  obtain⟨rfl,rfl⟩:=H
  obtain⟨A,C,rfl⟩:=aL k0
  exact⟨A,C,_,rfl,qL,trivial,k0⟩
theorem Al.own_mk{s:Bool}{w:ä}{x:Al}{A1:Option ô}{C1:Nat}(O:x.Ok)(o:own s w [.slice A1 x.Ah.length C1] x.Ah J):own s w [.bool x.Au,.slice A1 x.Ah.length C1] x (J):=by
  have h:own s w _ (x.Au,x.Ah) _:=(ew xU o)
  refine lM h ?_
  simp
structure Aw where
  A0:A0
  A2:List (List Drive)
  On:List Int
  A3:List Al
  Aa:Int
  Stop:Int
  Down:Bool
instance:Rp Aw:=Rp.via λx=>(x.A0,x.A2,x.On,x.A3,x.Aa,x.Stop,x.Down)
def Aw.val (x:Aw) (b:Option ô) (d:Nat) (A:Option ô) (C:Nat) (a:Option ô) (c:Nat):è := .agg #[.int .i64 x.A0.A2,.int .i64 x.A0.A5,.int .i64 x.A0.Data,.int .i64 x.A0.Af,.int .i64 x.A0.Rows,.int .i64 x.A0.Cap,.int .i64 x.A0.An,.int .i64 x.A0.Ao,.int .i64 x.A0.Ap,.slice b x.A2.length d,.slice A x.On.length C,.slice a x.A3.length c,.int .i64 x.Aa,.int .i64 x.Stop,.bool x.Down]
def Aw.Ok (x:Aw):Prop:=x.A0.Ok/\Ak x.Aa/\Ak x.Stop
theorem Oz{s w e}{x:Aw}{f}(h:own s w e x f):∃(b:Option ô) (d:Nat) (A:Option ô) (C:Nat) (a:Option ô) (c:Nat) (f9:List Nat) (U:List Nat) (Y:List Nat) ,e=[.int .i64 x.A0.A2,.int .i64 x.A0.A5,.int .i64 x.A0.Data,.int .i64 x.A0.Af,.int .i64 x.A0.Rows,.int .i64 x.A0.Cap,.int .i64 x.A0.An,.int .i64 x.A0.Ao,.int .i64 x.A0.Ap,.slice b x.A2.length d,.slice A x.On.length C,.slice a x.A3.length c,.int .i64 x.Aa,.int .i64 x.Stop,.bool x.Down]/\f=f9++(U++(Y))/\x.Ok/\own s w [.slice b x.A2.length d] x.A2 f9/\own s w [.slice A x.On.length C] x.On U/\own s w [.slice a x.A3.length c] x.A3 Y:=by
  obtain⟨_,_,_,_,rfl,E,j,k0⟩:=dw h
  obtain⟨rfl,rfl,I⟩:=FD j
  obtain⟨_,_,_,_,rfl,t,H,K⟩:=dw k0
  obtain⟨b,d,rfl⟩:=aL H
  obtain⟨_,_,_,_,rfl,u,g,o⟩:=dw K
  obtain⟨A,C,rfl⟩:=aL g
  obtain⟨_,_,_,_,rfl,v,i,p⟩:=dw o
  obtain⟨a,c,rfl⟩:=aL i
  obtain⟨_,_,_,_,rfl,y,k,q⟩:=dw p
  obtain⟨rfl,rfl,m⟩:=gj k
  obtain⟨_,_,_,_,rfl,z,l,r⟩:=dw q
  obtain⟨rfl,rfl,n⟩:=gj l
  obtain⟨rfl,rfl⟩:=r
  exact⟨b,d,A,C,a,c,_,_,_,rfl,qL,⟨I,m,n⟩,H,g,i⟩
theorem y7{s w b d A C a c}{x:Aw}{f}(h:own s w [.int .i64 x.A0.A2,.int .i64 x.A0.A5,.int .i64 x.A0.Data,.int .i64 x.A0.Af,.int .i64 x.A0.Rows,.int .i64 x.A0.Cap,.int .i64 x.A0.An,.int .i64 x.A0.Ao,.int .i64 x.A0.Ap,.slice b x.A2.length d,.slice A x.On.length C,.slice a x.A3.length c,.int .i64 x.Aa,.int .i64 x.Stop,.bool x.Down] x f):∃(f9:List Nat) (U:List Nat) (Y:List Nat),f=f9++(U++(Y))/\x.Ok/\own s w [.slice b x.A2.length d] x.A2 f9/\own s w [.slice A x.On.length C] x.On U/\own s w [.slice a x.A3.length c] x.A3 Y:=by
  obtain⟨_,_,_,_,_,_,f9,U,Y,e,E,k,g,o,O⟩:=Oz h
  obtain⟨⟨rfl,rfl⟩,⟨rfl,rfl⟩,⟨rfl,rfl⟩⟩:=e
  exact⟨f9,U,Y,E,k,g,o,O⟩
theorem Aw.own_mk{s:Bool}{w:ä}{x:Aw}{b:Option ô}{d:Nat}{A:Option ô}{C:Nat}{a:Option ô}{c:Nat}(k:x.Ok)(f:own s w [.slice b x.A2.length d] x.A2 f9)(o:own s w [.slice A x.On.length C] x.On U)(O:own s w [.slice a x.A3.length c] x.A3 Y):own s w [.int .i64 x.A0.A2,.int .i64 x.A0.A5,.int .i64 x.A0.Data,.int .i64 x.A0.Af,.int .i64 x.A0.Rows,.int .i64 x.A0.Cap,.int .i64 x.A0.An,.int .i64 x.A0.Ao,.int .i64 x.A0.Ap,.slice b x.A2.length d,.slice A x.On.length C,.slice a x.A3.length c,.int .i64 x.Aa,.int .i64 x.Stop,.bool x.Down] x (f9++(U++(Y))):=by
  obtain⟨i,I,e⟩:=k
  have h:own s w _ (x.A0,x.A2,x.On,x.A3,x.Aa,x.Stop,x.Down) _:=(ew (A0.own_mk i) (ew f (ew o (ew O (ew (gU I) (ew (gU e) xU))))))
  refine lM h ?_
  simp
theorem Al.focus{w:ä}(h:Sep M C B F w)(i:Nat){a n p}{x:List Al}{f}(j:B[i]? = á (A4 [.slice a n p] x f))(k:Nat)(l:k<x.length):∃b o T J f2 A c g,a=á ⟨b,o,ç⟩/\(x.getD k à).Ok/\Sep M C (B.set i (hol a n p x k b (o+k*sz Al) T [.bool (x.getD k à).Au,.slice A (x.getD k à).Ah.length c] J f2)++[gone,A4 [.slice A (x.getD k à).Ah.length c] (x.getD k à).Ah g]) F w:=by
  obtain⟨b,o,T,r,J,f2,s,e,m,H⟩:=h.focus i j k l
  obtain⟨A,c,g,rfl,E,q,O⟩:=pb m
  have d:=H.partLast [A4 [.slice A (x.getD k à).Ah.length c] (x.getD k à).Ah g] (all_cons O σ) (by simp[blocks,A4,E])
  exact⟨b,o,T,J,f2,A,c,g,e,q,d⟩
theorem Al.fill{w:ä}(h:Sep M C B F w)(i j:Nat){l n p k b O T q r}{x:List Al}{s:Bool}{A c m}{y:List Ac}{g}(u:B[i]? = á (hol l n p x k b O T [.bool s,.slice A m c] q r))(a:B[j]? = á (A4 [.slice A m c] y g))(D:î j i=â)(v:(⟨s,y⟩:Al).Ok):∃f,Sep M C ((B.set j gone).set i (A4 [.slice l n p] (x.set k (⟨s,y⟩:Al)) f)) F w:=by
  have o:=h.A4 j a
  obtain rfl:=gA o
  have N:j≠i:=λe=>by subst e;simp at D
  have H:=h.conv j (A4 [.bool s,.slice A y.length c] _ (g)) a (Al.own_mk v o) (λb t=>t) (show(A4 [.slice A y.length c] y g).fp.Nodup from h.Aj a)
  obtain⟨f,d⟩:=H.fill i j (by rw[bh N];exact u) (by rw[ÿ (ñ.1 a).1]) D
  rw[Ò] at d
  exact⟨f,d⟩
def OwnWV (w:ä) (b:Nat) (T:ì) (z:Aw) (f:List Nat):Prop:=
  ∃c e A C a d f9 U Y,w.heap[b]? = á (.cells [.int .i64 z.A0.A2,.int .i64 z.A0.A5,.int .i64 z.A0.Data,.int .i64 z.A0.Af,.int .i64 z.A0.Rows,.int .i64 z.A0.Cap,.int .i64 z.A0.An,.int .i64 z.A0.Ao,.int .i64 z.A0.Ap,.slice c z.A2.length e,.slice A z.On.length C,.slice a z.A3.length d,.int .i64 z.Aa,.int .i64 z.Stop,.bool z.Down].toArray T)/\own ã w [.slice c z.A2.length e] z.A2 f9/\own ã w [.slice A z.On.length C] z.On U/\own ã w [.slice a z.A3.length d] z.A3 Y/\z.Ok/\f=b::(f9++(U++Y))
theorem OwnWV.st{w:ä}{b T z f}(h:OwnWV w b T z f)(k:∀x∈f,w'.heap[x]? = w.heap[x]?):OwnWV w' b T z f:=by
  obtain⟨c,e,A,C,a,d,f9,U,Y,H,g,i,j,l,m⟩:=h
  subst m
  exact⟨c,e,A,C,a,d,f9,U,Y,(k b σ).trans H,Rp.st g λx hx=>k x sv,Rp.st i λx hx=>k x sv,Rp.st j λx hx=>k x sv,l,rfl⟩
theorem OwnWV.lt{w:ä}{b T z f}(h:OwnWV w b T z f):∀x∈f,x<w.heap.size:=by
  obtain⟨j,l,A,C,i,k,f9,U,Y,a,c,d,e,m,g⟩:=h
  subst g
  intro x H
  simp at H
  rcases H with rfl|H|H|H
  · exact(ø.1 a).1
  · exact Rp.lt c x H
  · exact Rp.lt d x H
  · exact Rp.lt e x H
theorem OwnWV.ok{w:ä}{b T z f}(h:OwnWV w b T z f):z.Ok:=by
  obtain⟨_,_,_,_,_,_,_,_,_,_,_,_,_,H,_⟩:=h
  exact H
def Az (b:Nat) (T:ì) (z:Aw) (f:List Nat):Rsc:=⟨f,λw=>OwnWV w b T z f,λh k=>h.st k,λh=>h.lt⟩
def MutWV (w W:ä) (F:List Nat) (b:Nat) (T:ì) (z:Aw):Prop:=
  Ext (· ∈ F) w W/\∃f,OwnWV W b T z f/\f.Nodup/\∀x∈f,x∈F\/w.heap.size<=x
section
variable {w:ä}{z a:Aw}
theorem Sep.beginWV(h:OwnWV w b T z I)(n:I.Nodup):Sep (· ∈ I) w [Az b T z I] [] w:=
  ⟨Ext.refl,by simpa[Az] using h,by simpa[blocks,Az] using n,λb H => .inl (by simpa[blocks,Az] using H),σ,σ⟩
theorem Sep.seeFV{a:Type}[Rp a](h:Sep M C [Az b T z I] F w){c:List è}{x:a}{f}(e:own â w c x f)(d:∀b∈f,b ∉ I):Sep M C [Az b T z I] (F++[Wk.Ab â c x f]) w:=
  h.look e λb H m=>d b H (by simpa[blocks,Az] using m)
theorem Sep.wldVAt(h:Sep M C B F w)(i:Nat)(H:B[i]? = á (Az b T z I)):OwnWV w b T z I:=h.r i H
theorem Sep.doneWV(h:Sep (· ∈ d_) C (Az b T z I::a_) F w):MutWV C w d_ b T z:=
  ⟨h.ext,I,h.r 0 rfl,h.Aj (i:=0) rfl,λx H=>h.new x (by simp[blocks,Az,H])⟩
theorem Sep.mutWV(h:Sep M C B F w)(i:Nat)(g:B[i]? = á (Az b T z I))(m:MutWV w w' I b T a):∃f,Sep M C (B.set i (Az b T a f)) F w':=by
  obtain⟨e,f,H,c,d⟩:=m
  exact⟨f,h.set g e H c d⟩
theorem Sep.B4(h:Sep M C B F w)(i:Nat)(H:B[i]? = á (Az b T z I)):
    ∃c f A d a e f9 U Y,z.Ok/\Sep M C (B.set i (Wk.box b (.cells [.int .i64 z.A0.A2,.int .i64 z.A0.A5,.int .i64 z.A0.Data,.int .i64 z.A0.Af,.int .i64 z.A0.Rows,.int .i64 z.A0.Cap,.int .i64 z.A0.An,.int .i64 z.A0.Ao,.int .i64 z.A0.Ap,.slice c z.A2.length f,.slice A z.On.length d,.slice a z.A3.length e,.int .i64 z.Aa,.int .i64 z.Stop,.bool z.Down].toArray T))++[gone,Wk.A4 [.slice c z.A2.length f] z.A2 f9,Wk.A4 [.slice A z.On.length d] z.On U,Wk.A4 [.slice a z.A3.length e] z.A3 Y]) F w:=by
  obtain⟨c,f,A,d,a,e,f9,U,Y,j,k,l,m,n,o⟩:OwnWV w b T z I:=h.r i H
  have p:=(ñ.1 H).1
  have P:(Wk.box b _).φ w:=j
  have g:=h.part i H [Wk.box b _,Wk.A4 [.slice c z.A2.length f] z.A2 f9,Wk.A4 [.slice A z.On.length d] z.On U,Wk.A4 [.slice a z.A3.length e] z.A3 Y] (all_cons P (all_cons k (all_cons l (all_cons m σ)))) (by simp[blocks,Wk.A4,Wk.box,Az,o])
  exact⟨c,f,A,d,a,e,f9,U,Y,n,g.perm (l6 p)⟩
theorem Sep.Av(h:Sep M C B F w)(i J j l:Nat)(z:Aw){m n A c d f q o p V Q R}(hJ:(B[i]?,B[J]?,B[j]?,B[l]?,î J i,î j i,î l i,î j J,î l J,î l j)=(á (Wk.box b (.cells [.int .i64 z.A0.A2,.int .i64 z.A0.A5,.int .i64 z.A0.Data,.int .i64 z.A0.Af,.int .i64 z.A0.Rows,.int .i64 z.A0.Cap,.int .i64 z.A0.An,.int .i64 z.A0.Ao,.int .i64 z.A0.Ap,.slice m V n,.slice A Q c,.slice d R f,.int .i64 z.Aa,.int .i64 z.Stop,.bool z.Down].toArray T)),á (Wk.A4 [.slice m V n] z.A2 q),á (Wk.A4 [.slice A Q c] z.On o),á (Wk.A4 [.slice d R f] z.A3 p),â,â,â,â,â,â))(ok:z.Ok):
    ∃I,Sep M C ((((B.set l gone).set j gone).set J gone).set i (Az b T z I)) F w:=by
  have⟨u,t,s,O,E,d2,d3,G,d5,K⟩:=pj10 hJ;obtain rfl:=gA (h.A4 J t)
  obtain rfl:=gA (h.A4 j s)
  obtain rfl:=gA (h.A4 l O)
  have N:J≠i:=λe=>by subst e;simp at E
  have v:j≠i:=λe=>by subst e;simp at d2
  have x:l≠i:=λe=>by subst e;simp at d3
  have S:j≠J:=λe=>by subst e;simp at G
  have U:l≠J:=λe=>by subst e;simp at d5
  have n6:l≠j:=λe=>by subst e;simp at K
  have g:∀ {L:List Rsc}{k:Nat}{a r:Rsc},L[k]? = á r->(L.set k a)[k]? = á a:=λh=>ÿ (ñ.1 h).1
  have W:=h.join2 j l s O K
  have X:((B.set l gone).set j (cat (Wk.A4 [.slice A z.On.length c] z.On o) (Wk.A4 [.slice d z.A3.length f] z.A3 p)))[j]? = á (cat (Wk.A4 [.slice A z.On.length c] z.On o) (Wk.A4 [.slice d z.A3.length f] z.A3 p)):=g (r:=Wk.A4 [.slice A z.On.length c] z.On o) (by rw[bh n6];exact s)
  have Y:((B.set l gone).set j (cat (Wk.A4 [.slice A z.On.length c] z.On o) (Wk.A4 [.slice d z.A3.length f] z.A3 p)))[J]? = á (Wk.A4 [.slice m z.A2.length n] z.A2 q):=by rw[bh S,bh U];exact t
  have y:=W.join2 J j Y X G
  rw[Ò] at y
  have ai:((((B.set l gone).set j gone).set J (cat (Wk.A4 [.slice m z.A2.length n] z.A2 q) (cat (Wk.A4 [.slice A z.On.length c] z.On o) (Wk.A4 [.slice d z.A3.length f] z.A3 p)))))[i]? = á (Wk.box b (.cells [.int .i64 z.A0.A2,.int .i64 z.A0.A5,.int .i64 z.A0.Data,.int .i64 z.A0.Af,.int .i64 z.A0.Rows,.int .i64 z.A0.Cap,.int .i64 z.A0.An,.int .i64 z.A0.Ao,.int .i64 z.A0.Ap,.slice m z.A2.length n,.slice A z.On.length c,.slice d z.A3.length f,.int .i64 z.Aa,.int .i64 z.Stop,.bool z.Down].toArray T)):=by rw[bh N,bh v,bh x];exact u
  have b9:((((B.set l gone).set j gone).set J (cat (Wk.A4 [.slice m z.A2.length n] z.A2 q) (cat (Wk.A4 [.slice A z.On.length c] z.On o) (Wk.A4 [.slice d z.A3.length f] z.A3 p)))))[J]? = á (cat (Wk.A4 [.slice m z.A2.length n] z.A2 q) (cat (Wk.A4 [.slice A z.On.length c] z.On o) (Wk.A4 [.slice d z.A3.length f] z.A3 p))):=g (r:=Wk.A4 [.slice m z.A2.length n] z.A2 q) (by rw[bh S,bh U];exact t)
  have H:=y.join2 i J ai b9 E
  rw[Ò] at H
  obtain⟨q1,q2,q3,q4⟩:(cat (Wk.box b (.cells [.int .i64 z.A0.A2,.int .i64 z.A0.A5,.int .i64 z.A0.Data,.int .i64 z.A0.Af,.int .i64 z.A0.Rows,.int .i64 z.A0.Cap,.int .i64 z.A0.An,.int .i64 z.A0.Ao,.int .i64 z.A0.Ap,.slice m z.A2.length n,.slice A z.On.length c,.slice d z.A3.length f,.int .i64 z.Aa,.int .i64 z.Stop,.bool z.Down].toArray T)) (cat (Wk.A4 [.slice m z.A2.length n] z.A2 q) (cat (Wk.A4 [.slice A z.On.length c] z.On o) (Wk.A4 [.slice d z.A3.length f] z.A3 p)))).φ w:=H.r i (g (by rw[bh N,bh v,bh x];exact u))
  have P:=g (a:=cat (Wk.box b (.cells [.int .i64 z.A0.A2,.int .i64 z.A0.A5,.int .i64 z.A0.Data,.int .i64 z.A0.Af,.int .i64 z.A0.Rows,.int .i64 z.A0.Cap,.int .i64 z.A0.An,.int .i64 z.A0.Ao,.int .i64 z.A0.Ap,.slice m z.A2.length n,.slice A z.On.length c,.slice d z.A3.length f,.int .i64 z.Aa,.int .i64 z.Stop,.bool z.Down].toArray T)) (cat (Wk.A4 [.slice m z.A2.length n] z.A2 q) (cat (Wk.A4 [.slice A z.On.length c] z.On o) (Wk.A4 [.slice d z.A3.length f] z.A3 p)))) (r:=Wk.box b (.cells [.int .i64 z.A0.A2,.int .i64 z.A0.A5,.int .i64 z.A0.Data,.int .i64 z.A0.Af,.int .i64 z.A0.Rows,.int .i64 z.A0.Cap,.int .i64 z.A0.An,.int .i64 z.A0.Ao,.int .i64 z.A0.Ap,.slice m z.A2.length n,.slice A z.On.length c,.slice d z.A3.length f,.int .i64 z.Aa,.int .i64 z.Stop,.bool z.Down].toArray T)) (L:=((B.set l gone).set j gone).set J gone) (k:=i) (by rw[bh N,bh v,bh x];exact u)
  have hn:=H.Aj P
  have D:=H.conv i (Az b T z (b::(q++(o++p)))) P ⟨m,n,A,c,d,f,q,o,p,q1,q2,q3,q4,ok,rfl⟩ (λa_ hx=>hx) hn
  rw[Ò] at D
  exact⟨_,D⟩
end
def Al.t (x:Al):Tape:=⟨x.Au,x.Ah.map Ac.r⟩
def Aw.w (z:Aw):Wld:={z with A3:=z.A3.map Al.t}
def Am (t:List Al):List Ac:=(t.map Al.Ah).flatten
theorem uK{w:ä}:∀ {a b:List Ac}{f g:List Nat},se w a f->se w b g->se w (a++b) (f++g)
  | [],b,f,g,h,k=>by rw[show f=[] from h];exact k
  | v::a,b,f,g,⟨J,f2,e,H,c⟩,k=>⟨J,f2++g,by rw[e,Î],H,uK c k⟩
theorem IZ{w:ä}{v:Ac}:∀ {O f},v∈O->se w O f->∃F,own ã w v.cs v.r F/\∀b∈F,b∈f
  | [],_,h,_=>by cases h
  | u::O,f,hv,⟨J,f2,e,a,c⟩=>by
    subst e
    rcases aM.1 hv with rfl|hv
    · exact⟨J,a,λb H=>Ó _ H⟩
    · obtain⟨F,d,g⟩:=IZ hv c
      exact⟨F,d,λb H=>Ù _ (g b H)⟩
theorem SH{w:ä}{f}(h:se w O f):RdV w f O:=λv hv=>by
  obtain⟨F,H,a⟩:=IZ hv h
  exact⟨F,aJ H,a⟩
theorem UC{a b c d g:List Nat}(h:g.Perm (b++d)):(a++c++g).Perm ((a++b)++(c++d)):=by
  rw[List.perm_iff_count] at h ⊢
  intro x
  have:=h x
  simp at this ⊢
  omega
theorem Ff{w:ä}:∀ {t:List Tape}{c I},dg ã w c t I->∃(O:List Al) (f J:List Nat),O.map Al.t=t/\I.Perm (f++J)/\dg ã w c O f/\se w (Am O) J
  | [],c,I,h=>⟨[],[],[],rfl,by rw[show I=[] from h];exact .refl _,rfl,rfl⟩
  | x::xs,c,I,⟨G,u,e,H,p⟩=>by
    obtain⟨A,C,g,i,n,v,o⟩:=fd H
    obtain⟨us,a,d,E,j,q,P⟩:=RW o
    obtain⟨O,b,B,k,m,r,s⟩:=Ff p
    have l:us.length=x.Ah.length:=by rw[<- E,aS]
    refine⟨⟨x.Au,us⟩::O,a++b,d++B,by simp[Al.t,E,k],?_,⟨a,b,rfl,?_,r⟩,?_⟩
    · rw[e,n,j];exact UC m
    · show own ã w (c.take (sz Tape)) _ _
      rw[i]
      have h:=Al.own_mk (x:=⟨x.Au,us⟩) trivial (by rw[l];exact q)
      rw[l] at h;exact h
    · exact uK P s
theorem Qm{w:ä}{a n c}{t:List Tape}{F}(h:own ã w [.slice a n c] t F):∃(O:List Al) (f J:List Nat),O.map Al.t=t/\F.Perm (f++J)/\own ã w [.slice a n c] O f/\se w (Am O) J:=by
  rcases h with ⟨s,_⟩|⟨e,rfl,rfl⟩|⟨b,o,C,r,T,g,u,h1,i,j,k,h5,l,m,p⟩
  · cases s
  · exact⟨[],[],[],rfl,.refl _,.inr (.inl ⟨e,rfl,rfl⟩),rfl⟩
  · obtain⟨O,f,J,E,d,q,H⟩:=Ff p
    have el:O.length=t.length:=by rw[<- E,aS]
    exact⟨O,b::f,J,E,by rw[i];exact d.cons b,.inr (.inr ⟨b,o,C,r,T,g,f,Dn,rfl,j,k,zx,l,m,q⟩),H⟩
theorem UP{g G:List Nat}(h:Y.Perm (g++G)):(b::(f9++(U++Y))).Perm ((b::(f9++(U++g)))++G):=by
  rw[List.perm_iff_count] at h ⊢
  intro x
  have:=h x
  simp only[List.count_append,List.count_cons] at this ⊢
  omega
theorem OwnW.toV{w:ä}{z:Wld}(h:OwnW w b T z I):∃(v:Aw) (f fq:List Nat),v.w=z/\OwnWV w b T v f/\se w (Am v.A3) fq/\I.Perm (f++fq):=by
  obtain⟨c,g,A,C,a,d,f9,U,Y,H,k,l,m,n,o⟩:=h
  obtain⟨O,G,j,e,i,p,P⟩:=Qm m
  have E:O.length=z.A3.length:=by rw[<- e,aS]
  refine⟨{z with A3:=O},b::_,j,?_,⟨c,g,A,C,a,d,f9,U,G,by dsimp only;rw[E];exact H,k,l,by dsimp only;rw[E];exact p,n,rfl⟩,P,?_⟩
  · unfold Aw.w;rw[e]
  · rw[o];exact UP i
section
variable {w:ä}{z:Wld}{a d:Aw}{g:List Nat}
theorem Sep.toWV(h:Sep M C B F w)(i:Nat)(H:B[i]? = á (Bf b T z I)):∃(a:Aw) (g fq:List Nat),a.w=z/\Sep M C (B.set i (Az b T a g)++[gone,Bg (Am a.A3) fq]) F w:=by
  obtain⟨a,g,fq,e,o,p,d⟩:=OwnW.toV (h.B1 i H)
  have n:=h.Aj H
  have hil:=(ñ.1 H).1
  have o':(Az b T a g).φ w:=o
  have P:(Bg _ fq).φ w:=p
  have f:=h.conv i (cat _ _) H ⟨o',P⟩ (λx k=>d.mem_iff.2 k) (d.nodup_iff.1 n)
  have j:=f.part i (ÿ hil) [Az b T a g,Bg _ fq] (all_cons o' (all_cons P σ)) (by simp[blocks,cat])
  have c:=j.perm (l6 zQ)
  rw[Ò] at c
  exact⟨a,g,fq,e,c⟩
def MutPV (w W:ä) (F:List Nat) (b:Nat) (T:ì) (z:Aw) (u:List Ac):Prop:=
  Ext (· ∈ F) w W/\∃f fq,OwnWV W b T z f/\se W u fq/\(f++fq).Nodup/\∀x∈f++fq,x∈F\/w.heap.size<=x
theorem MutWV.pv(h:MutWV w w' I b T a):MutPV w w' I b T a []:=by
  obtain⟨e,f,H,h2,c⟩:=h
  exact⟨e,f,[],H,rfl,sr,by simpa using c⟩
theorem Sep.mutPV(h:Sep M C B F w)(i:Nat)(c:B[i]? = á (Az b T a I))(m:MutPV w w' I b T d us):∃f fq,Sep M C (B.set i (Az b T d f)++[gone,Bg us fq]) F w':=by
  obtain⟨e,f,fq,k,l,n,o⟩:=m
  have hil:=(ñ.1 c).1
  have o':(Az b T d f).φ w':=k
  have p:(Bg us fq).φ w':=l
  have g:=h.set c (q:=cat _ _) e ⟨o',p⟩ n o
  have j:=g.part i (ÿ hil) [Az b T d f,Bg us fq] (all_cons o' (all_cons p σ)) (by simp[blocks,cat])
  have H:=j.perm (l6 zQ)
  rw[Ò] at H
  exact⟨f,fq,H⟩
theorem Sep.donePV(h:Sep (· ∈ d_) C (Az b T a I::a_) F w)(j:Nat)(f:a_[j]? = á (Bg us fq)):MutPV C w d_ b T a us:=by
  have d:(Az b T a I::a_)[0]? = á _:=rfl
  have e:(Az b T a I::a_)[j+1]? = á (Bg us fq):=by rw[List.getElem?_cons_succ];exact f
  have H:=h.join2 0 (j+1) d e rfl
  have g:(((Az b T a I::a_).set (j+1) gone).set 0 (cat (Az b T a I) (Bg us fq)))[0]? = á _:=rfl
  have c:=H.r 0 g
  exact⟨H.ext,I,fq,c.1,c.2,H.Aj g,λx i=>H.new x (cG.2 ⟨_,æ g,i⟩)⟩
theorem Sep.poolJoin{f g:List Nat}(h:Sep M C B F w)(i j:Nat)(b:B[i]? = á (Bg O f))(e:B[j]? = á (Bg us g))(d:î j i=â):Sep M C ((B.set j gone).set i (Bg (O++us) (f++g))) F w:=by
  have H:=h.join2 i j b e d
  have G:((B.set j gone).set i (cat (Bg O f) (Bg us g)))[i]? = á _:=
    ÿ (by have:=(ñ.1 b).1;simpa using this)
  have c:=H.r i G
  have n:=H.Aj G
  have a:=H.conv i (Bg _ (f++g)) G (uK c.1 c.2) (λx k=>k) n
  rw[Ò] at a
  exact a
end
def Kv (t:Nat) (u:List Ac) (z:Aw):Aw:={z with A3:=z.A3.set t ⟨â,(z.A3.getD t à).Ah++u⟩}
def Uk (z:Aw):Aw:={z with On:=[],Down:=ã}
def Ir (z:Aw):Aw:={z with Aa:=z.Aa+1}
section
variable {z:Aw}{t k:Nat}{u:Ac}{a:List Al}
theorem R1(h:z.Ok):(Uk z).Ok:=h
theorem Hn(h:z.Ok):(Kv t us z).Ok:=h
theorem Ja(h:z.Ok)(H:z.Aa<=2000000000):(Ir z).Ok:=rV (z:=z.w) h H
theorem AC:(a.map Al.t).getD k à=(a.getD k à).t:=by
  simp
  cases a[k]? <;> rfl
theorem SF:z.w.A3.getD k à=(z.A3.getD k à).t:=AC
theorem L5:(z.w.A3.getD k à).Ah=(z.A3.getD k à).Ah.map Ac.r:=by rw[SF];rfl
theorem uj:(z.w.A3.getD k à).Ah.length=(z.A3.getD k à).Ah.length:=by rw[L5,aS]
theorem Un:z.w.A3.length=z.A3.length:=aS _
theorem OZ:(Kv t [u] z).w=layT t u.r z.w:=by
  unfold Aw.w Kv layT
  rw[AC]
  simp[Al.t]
theorem Jh{b:Bool}:∀ {a:List Al}{t:Nat},t<a.length->(Am (a.set t ⟨b,(a.getD t à).Ah++us⟩)).Perm (Am a++us)
  | [],t,h=>by simp at h
  | x::a,0,_=>by
    show(_++Am a).Perm ((x.Ah++Am a)++us)
    rw[Î,Î]
    exact ş.append_left _
  | x::a,t+1,h=>by
    show(x.Ah++Am _).Perm ((x.Ah++Am a)++us)
    rw[Î]
    exact(Jh lN).append_left _
theorem DV(h:t<z.A3.length):(Am (Kv t us z).A3).Perm (Am z.A3++us):=Jh h
theorem Sc(hk:k<a.length){j:Nat}(h:j<(a.getD k à).Ah.length):(a.getD k à).Ah.getD j à∈Am a:=by
  unfold Am
  rw[ĕ]
  exact⟨(a.getD k à).Ah,bY.2 ⟨a.getD k à,Gs,rfl⟩,by rw[bX h];exact bx _⟩
end
section
variable {w:ä}
theorem Sep.toPool1(h:Sep M C B F w)(j:Nat)(u:Ac)(H:B[j]? = á (Wk.A4 u.cs u.r fq)):Sep M C (B.set j (Bg [u] fq)) F w:=by
  have n:=h.Aj H
  exact h.conv j _ H ⟨fq,[],σ,h.A4 j H,rfl⟩ (λb a=>a) n
end
section
variable {z:Aw}{k j:Nat}
theorem wEl(h:j<(z.A3.getD k à).Ah.length):(z.w.A3.getD k à).Ah.getD j à=((z.A3.getD k à).Ah.getD j à).r:=by
  rw[L5];exact(ey rfl h).symm
theorem zf(h:j<(z.A3.getD k à).Ah.length):iG z.w k (j+1)=ddR (iG z.w k j) ((z.A3.getD k à).Ah.getD j à).r:=by
  rw[nr (by rw[uj];exact h),wEl h]
theorem MN(h:k<z.A3.length):iG z.w k (z.A3.getD k à).Ah.length=iG z.w (k+1) 0:=by
  rw[<- uj,w9 (by rw[Un];exact h)]
theorem O4(H:z.A3.length=2){y:List Rec}(h:Stable kLt eQ (iG z.w 2 0) y):y=cI z.w:=AG (by rw[Un,H];exact h)
theorem va{v:Ac}(h:∀x∈O,x∈ps)(hv:v∈ps):∀x∈O++[v],x∈ps:=λx H=>by
  rcases aI.1 H with H|H
  · exact h x H
  · rw[aD] at H;rw[H];exact hv
theorem yZ(h:∀x∈O,x∈ps)(k:∀x∈us,x∈ps):∀x∈O++us,x∈ps:=λx H=>(aI.1 H).elim (h x) (k x)
theorem nZ{l h:Nat}(hv:∀x∈O,x∈ps):∀x∈cut O l h,x∈ps:=λx H=>hv x (fN x H)
end
def mkV (z:Wld) (t:List Al):Aw:={z with A3:=t}
def OwnWT (t:List Al) (w:ä) (b:Nat) (T:ì) (z:Wld) (f:List Nat):Prop:=OwnWV w b T (mkV z t) f
def Bc (t:List Al) (b:Nat) (T:ì) (z:Wld) (f:List Nat):Rsc:=Az b T (mkV z t) f
def MutWT (t:List Al) (w W:ä) (f:List Nat) (b:Nat) (T:ì) (z:Wld):Prop:=MutWV w W f b T (mkV z t)
def MutPT (t:List Al) (w W:ä) (f:List Nat) (b:Nat) (T:ì) (z:Wld) (u:List Ac):Prop:=MutPV w W f b T (mkV z t) u
section
variable {w w1 w2:ä}{z j:Wld}{d:Aw}{a g:List Al}{fp1:List Nat}
theorem JB(h:a.map Al.t=z.A3):(mkV z a).w=z:=by unfold mkV Aw.w;rw[h]
theorem OU(h:d.w=z)(H:d.A3=a):d=mkV z a:=by subst h;subst H;rfl
theorem Sep.beginWT(h:OwnWT a w b T z I)(H:I.Nodup):Sep (· ∈ I) w [Bc a b T z I] [] w:=Sep.beginWV h H
theorem Sep.seeFT{d:Type}[Rp d](h:Sep M C [Bc a b T z I] F w){c:List è}{x:d}{f}(e:own â w c x f)(H:∀b∈f,b ∉ I):Sep M C [Bc a b T z I] (F++[Wk.Ab â c x f]) w:=Sep.seeFV h e H
theorem Sep.wldTAt(h:Sep M C B F w)(i:Nat)(H:B[i]? = á (Bc a b T z I)):OwnWT a w b T z I:=h.r i H
theorem Sep.mutPT(h:Sep M C B F w)(i:Nat)(H:B[i]? = á (Bc a b T z I))(m:MutPT g w w' I b T j us):∃f fq,Sep M C (B.set i (Bc g b T j f)++[gone,Bg us fq]) F w':=Sep.mutPV (d:=mkV j g) h i H m
theorem Sep.donePT(h:Sep (· ∈ d_) C (Bc a b T z I::a_) F w)(j:Nat)(H:a_[j]? = á (Bg us fq)):MutPT a C w d_ b T z us:=Sep.donePV h j H
theorem MutWV.t(h:MutWV w w' I b T d)(H:d.w=z)(c:d.A3=a):MutWT a w w' I b T z:=by
  rw[OU H c] at h;exact h
theorem MutPV.t(h:MutPV w w' I b T d us)(H:d.w=z)(c:d.A3=a):MutPT a w w' I b T z us:=by
  rw[OU H c] at h;exact h
theorem Sep.openWT(h:Sep M C B F w)(i:Nat)(H:B[i]? = á (Bc a b T z I)):
    ∃d g A e c f f9 U Y,z.Ok/\Sep M C (B.set i (Wk.box b (.cells [.int .i64 z.A0.A2,.int .i64 z.A0.A5,.int .i64 z.A0.Data,.int .i64 z.A0.Af,.int .i64 z.A0.Rows,.int .i64 z.A0.Cap,.int .i64 z.A0.An,.int .i64 z.A0.Ao,.int .i64 z.A0.Ap,.slice d z.A2.length g,.slice A z.On.length e,.slice c a.length f,.int .i64 z.Aa,.int .i64 z.Stop,.bool z.Down].toArray T))++[gone,Wk.A4 [.slice d z.A2.length g] z.A2 f9,Wk.A4 [.slice A z.On.length e] z.On U,Wk.A4 [.slice c a.length f] a Y]) F w:=Sep.B4 h i H
theorem Sep.B0(h:Sep M C B F w)(i c j J:Nat)(z:Wld){e k A f d g u s t l n N}(y:(B[i]?,B[c]?,B[j]?,B[J]?,î c i,î j i,î J i,î j c,î J c,î J j)=(á (Wk.box b (.cells [.int .i64 z.A0.A2,.int .i64 z.A0.A5,.int .i64 z.A0.Data,.int .i64 z.A0.Af,.int .i64 z.A0.Rows,.int .i64 z.A0.Cap,.int .i64 z.A0.An,.int .i64 z.A0.Ao,.int .i64 z.A0.Ap,.slice e l k,.slice A n f,.slice d N g,.int .i64 z.Aa,.int .i64 z.Stop,.bool z.Down].toArray T)),á (Wk.A4 [.slice e l k] z.A2 u),á (Wk.A4 [.slice A n f] z.On s),á (Wk.A4 [.slice d N g] a t),â,â,â,â,â,â))(O:z.Ok):
    ∃I,Sep M C ((((B.set J gone).set j gone).set c gone).set i (Bc a b T z I)) F w:=have⟨E,x,H,v,D,m,o,p,q,r⟩:=pj10 y;Sep.Av h i c j J _ (pm10 E x H v D m o p q r) O
theorem MC{f:Type}{a b c d e:List f}(h:b.Perm (a++d))(H:c.Perm (b++e)):c.Perm (a++(d++e)):=by
  rw[<- Î];exact H.trans (h.append_right e)
end
section
variable {w:ä}
theorem Sep.poolRd(h:Sep M C B F w)(i:Nat)(H:B[i]? = á (Bg O fq)):RdV w fq O:=SH (h.r i H)
end
section
variable {a:List Al}{k:Nat}{x:Ac}
theorem Rk(hk:k<a.length)(h:x∈(a.getD k à).Ah):x∈Am a:=by
  unfold Am
  rw[ĕ]
  exact⟨(a.getD k à).Ah,bY.2 ⟨a.getD k à,Gs,rfl⟩,h⟩
end
section
variable {w:ä}{α:Type}[Rp α]
theorem Bo{d:Type}(L:List d)(i j:Nat)(h:i≠j)(a b c:d):((L.set i a).set j b).set i c=(L.set j b).set i c:=by
  rw[List.set_comm _ _ h,Ò]
end
theorem Jf{w:ä}:∀ {xs:List Str},(∀x∈xs,x.b.size<=Ë)->dg ã w (xs.map λx=>į x.b) xs []
  | [],_=>rfl
  | x::xs,h=>⟨[],[],rfl,⟨by simp[sz],rfl,h x σ⟩,by simpa[sz] using Jf λy H=>h y (by simp[H])⟩
instance:Inhabited Str:=⟨⟨⟨#[]⟩⟩⟩
theorem I4{s w a n c}{x:List Str}{F}(h:own s w [.slice a n c] x F)(k:Nat)(H:k<x.length):
    ∃b o,a=á ⟨b,o,ç⟩/\w.cell? ⟨b,o+k*1,ç⟩=á (.string (x.getD k à).b):=by
  obtain⟨b,o,C,f,d,e,h3,_⟩:=gh h k H
  rw[show x.getD k à=x[k] from by simp[H]]
  exact⟨b,o,d,e 0 _ zT⟩
section
variable {n:Nat}{w:ä}{d:Nat}{g:Option (Nat × Bool)}
theorem Q3{t:ì}{s:Array (Nat × Â)}{z:è}(X:List Str)(D:Wn b_ n L ⟨á d,.buildSlice t X.length s,ty,p,af,g⟩)(q:ò d n=ã)(y:P.underlying t=á (.slice e))(T:Ty P e z 1 c_)
    (m:s.toList.map (·.1)=List.range X.length) (hv:kX L (s.toList.map (·.2))=á (X.map λx=>į x.b)) (o:∀x∈X,x.b.size<=Ë) (f:0<X.length) (E:X.length<=1000) (H:Sep M C B F w)
    (k:∀b w',Ext No w w'->w.heap.size<=b->Sep M C (B++[A4 [.slice (á ⟨b,0,ç⟩) X.length X.length] X [b]]) F w'->RL P n b_ Q e_ ((d,.slice (á ⟨b,0,ç⟩) X.length X.length)::L) w') :
    RL P n b_ Q (⟨á d,.buildSlice t X.length s,ty,p,af,g⟩::e_) L w:=by
  have u:∀a,Good n a L->(s.map λ(i,x)=>(i,a.eval x)).toList=((X.map λx=>į x.b).zipIdx 0).map λx=>_:=λa j=>by
    have K:∀(l:List (Nat × Â)) (O:List è) (k:Nat),l.map (·.1)=List.range' k O.length->kX L (l.map (·.2))=á O->l.map (λx=>(x.1,a.eval x.2))=(O.zipIdx k).map λx=>(x.2,x.1):=by
      intro l
      induction l with
      | nil=>intro O k c h;simp[kX] at h;subst h;rfl
      | cons x l I=>
        intro O k c h
        simp at c h ⊢
        unfold kX at h
        split at h
        · rename_i v us hv A
          cases h
          rw[aR,List.range'_succ] at c
          simp at c
          rw[List.zipIdx_cons,Ï,<- I us (k+1) c.2 A,j.eval hv,c.1]
        · cases h
    rw[Array.toList_map]
    refine K s.toList _ 0 ?_ hv
    rw[m,aS,List.range_eq_range']
  have r:=zr (w:=w) (C:=ty) (p:=p) (D:=af) (g:=g) (d:=á d) y T ω σ u Hl f ω
  refine ue D rfl q r (k _ _ (Ext.refl.alloc _) (aN _) ?_)
  refine H.add (Ext.refl.alloc _) (.inr (.inr ⟨w.heap.size,0,_,_,e,(0,0),[],rfl,rfl,heap_alloc_new w _,λ_=>rfl,aN _,db,?_,?_⟩)) q8 q8
  · have:∀l:List Str,(l.map λx=>į x.b).flatMap (λv=>v.cells.toList)=l.map λx=>į x.b:=by
      intro l;induction l with
      | nil=>rfl
      | cons x l I=>simp only[Ï,Œ,I];rfl
    simp[this,sz]
  · have:∀l:List Str,(l.map λx=>į x.b).flatMap (λv=>v.cells.toList)=l.map λx=>į x.b:=by
      intro l;induction l with
      | nil=>rfl
      | cons x l I=>simp only[Ï,Œ,I];rfl
    simp only[this]
    exact Jf o
end
section
variable {w a d:ä}
theorem Sep.s2Hol{g:Type}[Rp g](h:Sep M C B F w){i j:Nat}(x:h.S2 i j a)(k:Nat){n p K o:Nat}{X:List g}{d:List è}(c:B[k]? = á (hol ad n p X K b o T d J f2)){r R:Rsc}(e:B[i]? = á r)(f:B[j]? = á R)(D:î k i=â)(l:î k j=â):At a b o d:=
  Ext.atM x (λH=>by
    rcases H with H|H
    · rw[lR e] at H;exact h.apart e c D b (by simp[hol]) H
    · rw[lR f] at H;exact h.apart f c l b (by simp[hol]) H) (h.Be k c)
theorem Sep.s2Bx(h:Sep M C B F w){i j:Nat}(H:h.S2 i j a){o:Obj}(f:B[i]? = á (Wk.box b o))(e:BoxTo a d b o'):h.S2 i j d:=
  h.s2In H i f (.inl rfl) e.1 λ_ c=>by rw[c];exact ď ..
def rdR (V:List Ac) (f:List Nat):Rsc:=⟨f,λw=>RdV w f V/\∀b∈f,b<w.heap.size,λh k=>⟨λv hv=>by
    obtain⟨g,d,a⟩:=h.1 v hv
    exact⟨g,Rp.st d λb H=>k b (a b H),a⟩,λb H=>by
    have e:=h.2 b H
    have c:=k b H
    rw[Array.getElem?_eq_getElem e] at c
    exact(ø.1 c).1⟩,λh=>h.2⟩
theorem DB{s:Bool}{w:ä}:∀ {O:List Al}{c F},dg s w c O F->RdV w ft (Am O)->∃f,dg â w c (O.map Al.t) f/\∀b∈f,b∈F\/b∈ft
  | [],c,F,h,p=>⟨[],rfl,σ⟩
  | v::O,c,F,⟨G,u,e,i,j⟩,p=>by
    obtain⟨A,C,g,E,d,y,o⟩:=pb i
    have k:=p.sub λx a=>by
      exact Ó _ a
    have m:=p.sub λx a=>by
      exact Ù _ a
    obtain⟨J,n,S⟩:=JC o k
    obtain⟨f2,r,t⟩:=DB j m
    refine⟨J++f2,⟨J,f2,rfl,?_,r⟩,λb H=>?_⟩
    · show own â w (c.take (sz Al)) _ _
      rw[E]
      have h:=Tape.own_mk (x:=v.t) trivial (show own â w [.slice A (v.Ah.map Ac.r).length C] _ J by rw[aS];exact n)
      have l:v.t.Ah.length=v.Ah.length:=aS _
      rw[l] at h;exact h
    · rw[e,d]
      rcases aI.1 H with H|H
      · rcases S b H with q|q
        · exact .inl (Ó _ q)
        · exact .inr q
      · rcases t b H with q|q
        · exact .inl (Ù _ q)
        · exact .inr q
theorem rq{s:Bool}{w:ä}{a n c}{v:List Al}{F}(h:own s w [.slice a n c] v F)(u:RdV w ft (Am v)):∃f,own â w [.slice a n c] (v.map Al.t) f/\∀b∈f,b∈F\/b∈ft:=by
  rcases aJ h with ⟨D,A,C,e,rfl,rfl⟩|⟨e,rfl,rfl⟩|⟨b,o,d,g,T,i,z,h1,H,k,B,h5,l,m,p⟩
  · exact⟨[],.inl ⟨rfl,A,C,e,rfl,rfl⟩,σ⟩
  · exact⟨[],.inr (.inl ⟨e,rfl,rfl⟩),σ⟩
  · obtain⟨f,t,j⟩:=DB p u
    have el:(v.map Al.t).length=v.length:=aS _
    exact⟨b::f,.inr (.inr ⟨b,o,d,g,T,i,f,Dn,rfl,k,λq=>(by cases q),zx,l,m,t⟩),λx y=>(aM.1 y).elim (λq => .inl (by rw[H,q];exact ď ..)) λq=>(j x q).elim (λr => .inl (by rw[H];exact Đ _ r)) .inr⟩
end
section
variable {n:Nat}{w wE wE0:ä}{M2:Nat->Prop}{Δ2 F2:List Rsc}{d:Nat}{f:FuncId}{rest2:List (Nat × Bool)}{i i2 j2:Nat}{xs:Array Â}{ats:Array ì}{vs:List è}{α β:Type}[Rp α] {sb:Bool}{cs:List è}{x:α}{o o2:Obj}{g:β->è}{q:β->Prop}
end
def EK {g:Type}[Rp g] (b:Nat) (T:ì) (x:g) (F:List Nat):Rsc:=
  ⟨F,λw=>∃C f,w.heap[b]? = á (.cells (List.toArray C) T)/\own ã w C x f/\F=b::f,
   λh k=>by
    obtain⟨C,f,a,d,e⟩:=h
    subst e
    exact⟨C,f,(k b σ).trans a,Rp.st d λc H=>k c (by simp[H]),rfl⟩,
   λh c H=>by
    obtain⟨C,f,a,d,e⟩:=h
    subst e
    rcases aM.1 H with rfl|H
    · exact(ø.1 a).1
    · exact Rp.lt d c H⟩
section
variable {w:ä}{d:Type}[Rp d]
theorem Tb:(b::(J++(f2++f3))).Perm ((([b]++f3)++f2)++J):=by
  have h:(J++(f2++f3)).Perm _:=ş.trans (ş.append_right J)
  have H:=h.cons b
  simpa using H
theorem Sep.close3{q r t:Type}[Rp q][Rp r][Rp t]{x:d}(h:Sep M C B F w)(i f j a:Nat){s:List è}{k:q}{g:r}{X:t}(o:B[i]? = á (Wk.box b (.cells s.toArray T)))
    (P:B[f]? = á (Wk.A4 c1 k J)) (Q:B[j]? = á (Wk.A4 c2 g f2)) (R:B[a]? = á (Wk.A4 c3 X f3))
    (D:î f i=â) (n:î j i=â) (v:î a i=â) (y:î j f=â) (z:î a f=â) (A:î a j=â)
    (V:∀w,own ã w c1 k J->own ã w c2 g f2->own ã w c3 X f3->own ã w s x (J++(f2++f3))) :
    ∃I,Sep M C ((((B.set a gone).set j gone).set f gone).set i (EK b T x I)) F w:=by
  have N:i≠f:=λe=>by subst e;simp at D
  have p:i≠j:=λe=>by subst e;simp at n
  have Y:j≠f:=λe=>by subst e;simp at y
  have a_:a≠f:=λe=>by subst e;simp at z
  have b_:a≠j:=λe=>by subst e;simp at A
  have hil:i<B.length:=(ñ.1 o).1
  have u:=h.join2 i a o R v
  have E:((B.set a gone).set i (cat (Wk.box b (.cells s.toArray T)) (Wk.A4 c3 X f3)))[j]? = á (Wk.A4 c2 g f2):=by
    rw[bh p,bh b_];exact Q
  have L:((B.set a gone).set i (cat (Wk.box b (.cells s.toArray T)) (Wk.A4 c3 X f3)))[i]? = á (cat (Wk.box b (.cells s.toArray T)) (Wk.A4 c3 X f3)):=ÿ zQ
  have l:=u.join2 i j L E n
  rw[Bo _ i j p] at l
  have K:(((B.set a gone).set j gone).set i (cat (cat (Wk.box b (.cells s.toArray T)) (Wk.A4 c3 X f3)) (Wk.A4 c2 g f2)))[f]? = á (Wk.A4 c1 k J):=by
    rw[bh N,bh Y,bh a_];exact P
  have O:(((B.set a gone).set j gone).set i (cat (cat (Wk.box b (.cells s.toArray T)) (Wk.A4 c3 X f3)) (Wk.A4 c2 g f2)))[i]? = á (cat (cat (Wk.box b (.cells s.toArray T)) (Wk.A4 c3 X f3)) (Wk.A4 c2 g f2)):=ÿ zQ
  have H:=l.join2 i f O K D
  rw[Bo _ i f N] at H
  have G:((((B.set a gone).set j gone).set f gone).set i (cat (cat (cat (Wk.box b (.cells s.toArray T)) (Wk.A4 c3 X f3)) (Wk.A4 c2 g f2)) (Wk.A4 c1 k J)))[i]? = á (cat (cat (cat (Wk.box b (.cells s.toArray T)) (Wk.A4 c3 X f3)) (Wk.A4 c2 g f2)) (Wk.A4 c1 k J)):=ÿ zQ
  have W:=H.r i G
  have U:=H.Aj G
  obtain⟨⟨⟨q0,q3⟩,q2⟩,q1⟩:=W
  have m:=H.conv i (EK b T x (b::(J++(f2++f3)))) G ⟨s,_,q0,V w q1 q2 q3,rfl⟩ (λc S=>Tb.mem_iff.1 S) (Tb.nodup_iff.2 U)
  rw[Ò] at m
  exact⟨_,m⟩
theorem Sep.open3{x:d}(h:Sep M C B F w)(i:Nat)(H:B[i]? = á (EK b T x I)):
    ∃s f,own ã w s x f/\Sep M C (B.set i (Wk.box b (.cells (List.toArray s) T))++[gone,Wk.A4 s x f]) F w:=by
  have o:=h.r i H
  obtain⟨s,f,k,e,l⟩:=o
  have n:=h.Aj H
  have hil:=(ñ.1 H).1
  subst l
  have o':(Wk.box b _).φ w:=k
  have p:(Wk.A4 s x f).φ w:=e
  have g:=h.conv i (cat _ _) H ⟨o',p⟩ (λc m=>m) n
  have j:=g.part i (ÿ hil) [Wk.box b _,Wk.A4 s x f] (all_cons o' (all_cons p σ)) (by simp[blocks,cat])
  have a:=j.perm (l6 zQ)
  rw[Ò] at a
  exact⟨s,f,e,a⟩
theorem Sep.res3x{k A D:Type}[Rp k][Rp A][Rp D]{x:d}{o:Obj}(h:Sep (· = b) C B F w)(i p q r:Nat){t:List è}{X:k}{v:A}{z:D}(O:B[i]? = á (Wk.box b o))
    (l:B[p]? = á (Wk.A4 c1 X J)) (m:B[q]? = á (Wk.A4 c2 v f2)) (n:B[r]? = á (Wk.A4 c3 z f3))
    (E:î i p=â) (G:î i q=â) (I:î i r=â) (K:î q p=â) (L:î r p=â) (M:î r q=â)
    (P:∀w,own ã w c1 X J->own ã w c2 v f2->own ã w c3 z f3->own ã w t x (J++(f2++f3))):own ã w t x (J++(f2++f3))/\(J++(f2++f3)).Nodup/\∀c∈J++(f2++f3),C.heap.size<=c:=by
  have Q:=h.Aj l
  have R:=h.Aj m
  have S:=h.Aj n
  have s:∀ {j:Nat}{k:Type}[Rp k] {c:List è}{y:k}{f:List Nat},B[j]? = á (Wk.A4 c y f)->î i j=â->∀c∈f,C.heap.size<=c:=fun {j k _ c y f} u N a H=>by
    rcases h.new a (cG.2 ⟨_,æ u,H⟩) with e|e
    · subst e;exact absurd H (h.apart u O N a iQ)
    · exact e
  refine⟨P w (h.A4 p l) (h.A4 q m) (h.A4 r n),?_,λa H=>?_⟩
  · refine ë.2 ⟨Q,ë.2 ⟨R,S,λa H c g e=>?_⟩,λa H c g e=>?_⟩
    · subst e;exact h.apart m n M a g H
    · subst e
      rcases aI.1 g with g|g
      · exact h.apart l m K a g H
      · exact h.apart l n L a g H
  · rcases aI.1 H with H|H
    · exact s l E a H
    · rcases aI.1 H with H|H
      · exact s m G a H
      · exact s n I a H
theorem Sep.res3{g k l:Type}[Rp g][Rp k][Rp l]{x:d}{o:Obj}(h:Sep (· = b) C B F w)(i j a c:Nat){s:List è}{X:g}{e:k}{f:l}(v:(B[i]?,B[j]?,B[a]?,B[c]?,î i j,î i a,î i c,î a j,î c j,î c a)=(á (Wk.box b o),á (Wk.A4 c1 X J),á (Wk.A4 c2 e f2),á (Wk.A4 c3 f f3),â,â,â,â,â,â))
    (z:∀w,own ã w c1 X J->own ã w c2 e f2->own ã w c3 f f3->own ã w s x (J++(f2++f3))):Res C w s x:=have⟨y,H,t,u,D,m,n,p,q,r⟩:=pj10 v;⟨_,h.res3x i j a c y H t u D m n p q r z⟩
end
section
variable {n:Nat}{w:ä}{d:Option Tmp}{h i:ì}{g:Option (Nat × Bool)}{x y:Â}
theorem SG{a b:UInt8}(H:evL L x=á (.int .u8 a.toNat))(c:evL L y=á (.int .u8 b.toNat)):Py P n L w ⟨d,.binOp .add h x y i,ty,p,af,g⟩ (.int .u8 (a+b).toNat):=by
  have e:((a+b).toNat:Int)=IntKind.u8.wrap ((a.toNat:Int)+(b.toNat:Int)):=by
    rw[IntKind.wrap_u8,UInt8.toNat_add]
    omega
  exact Rz H c
end
section
variable {w:ä}
theorem Rec.closeB(h:Sep M C B F w)(i j J a:Nat){v:Int}{V:Int}{c:ByteArray}{d:Int}{e:Int}{f:Int}{g:List Int}{A:Option ô}{N o:Nat}{k:List UInt8}{m:Option ô}{u p:Nat}{l:List UInt8}{n:Option ô}{y q:Nat}(O:(B[i]?,B[j]?,B[J]?,B[a]?,î j i,î J i,î a i,î J j,î a j,î a J)=(á (Wk.box b (.cells ([.int .i64 v,.int .i64 V,.string c,.int .i64 d,.int .i64 e,.int .i64 f,.slice A N o,.slice m u p,.slice n y q]:List è).toArray T)),á (Wk.A4 [.slice A N o] g f6),á (Wk.A4 [.slice m u p] k f7),á (Wk.A4 [.slice n y q] l f8),â,â,â,â,â,â))(U:(⟨v,V,c,d,e,f,g,k,l⟩:Rec).Ok):
    ∃x I,x=(⟨v,V,c,d,e,f,g,k,l⟩:Rec)/\Sep M C ((((B.set a gone).set J gone).set j gone).set i (EK b T x I)) F w:=by
  have⟨P,r,s,t,D,z,E,G,K,L⟩:=pj10 O;obtain rfl:=gA (h.A4 j r)
  obtain rfl:=gA (h.A4 J s)
  obtain rfl:=gA (h.A4 a t)
  obtain⟨I,H⟩:=h.close3 i j J a P r s t D z E G K L (λw Q R S=>Rec.own_mk U Q R S)
  exact⟨_,I,rfl,H⟩
end
def A0.few (x:A0):Prop := -5<=x.A2/\x.A2<=500 /\ -5<=x.A5/\x.A5<=500 /\ -5<=x.Data/\x.Data<=500 /\ -5<=x.Af/\x.Af<=500 /\ -5<=x.Rows/\x.Rows<=500 /\ -5<=x.Cap/\x.Cap<=500 /\ -5<=x.An/\x.An<=500 /\ -5<=x.Ao/\x.Ao<=500 /\ -5<=x.Ap/\x.Ap<=500
theorem NT{x:A0}(h:1<=x.A2/\x.A2<=4)(H:0<=x.A5/\x.A5<=2)(a:1<=x.Data/\x.Data<=3)(b:0<=x.Af/\x.Af<=2)(c:1<=x.Rows/\x.Rows<=6)(d:1<=x.Cap/\x.Cap<=6)(e:1<=x.An/\x.An<=4)(f:1<=x.Ao/\x.Ao<=6)(g:0<=x.Ap/\x.Ap<=400):x.ok=true:=by
  unfold A0.ok cOK rOK ins
  simp[h.1,h.2,H.1,H.2,a.1,a.2,b.1,b.2,c.1,c.2,d.1,d.2,e.1,e.2,f.1,f.2,g.1,g.2]
theorem dS{x:A0}(h:x.ok=ã):x.few:=by
  have:=bm h
  unfold A0.few;omega
theorem Hj{x:A0}(h:x.few):x.Ok:=by
  unfold A0.few at h
  unfold A0.Ok Ak;omega
def Rec.few (r:Rec):Prop:=r.Name.size<=9/\r.Rows.length<=20/\r.Data.length<=40/\r.Ad.length<=40 /\ -100<=r.Kind/\r.Kind<=100 /\ -100<=r.Seq/\r.Seq<=2000000000 /\ -100<=r.Length/\r.Length<=2000 /\ -100<=r.Group/\r.Group<=2000 /\ -100<=r.Row/\r.Row<=2000
def Rec.few0 (r:Rec):Prop:=r.Name.size<=9/\r.Rows.length<=19/\r.Data.length<=40/\r.Ad.length<=39 /\ -100<=r.Kind/\r.Kind<=100 /\ -100<=r.Seq/\r.Seq<=2000000000 /\ -100<=r.Length/\r.Length<=1999 /\ -100<=r.Group/\r.Group<=2000 /\ -100<=r.Row/\r.Row<=2000
theorem yo{r:Rec}(h:r.few0):r.few:=by
  unfold Rec.few0 at h
  unfold Rec.few;omega
theorem eT{r:Rec}(h:r.few):r.Ok:=by
  unfold Rec.few at h
  unfold Rec.Ok Ak Ë;omega
theorem P8{X:List Str}{k n:Nat}(h:∀x∈X,x.b.size<=n):(X.getD k à).b.size<=n:=by
  by_cases c:k<X.length
  · rw[bX c];exact h _ (bx _)
  · rw[ū,List.getElem?_eq_none ω];exact ý _
section
variable {w:ä}{d:Type}[Rp d]
theorem Sep.res3N{g t u:Type}[Rp g][Rp t][Rp u]{x:d}(h:Sep No C B F w)(m n o:Nat){s:List è}{X:g}{p:t}{q:u}
    (A:(B[m]?,B[n]?,B[o]?,î n m,î o m,î o n)=(á (Wk.A4 c1 X J),á (Wk.A4 c2 p f2),á (Wk.A4 c3 q f3),â,â,â))
    (G:∀w,own ã w c1 X J->own ã w c2 p f2->own ã w c3 q f3->own ã w s x (J++(f2++f3))):Res C w s x:=by
  have⟨i,k,l,D,v,z⟩:=pj6 A;have N:=h.Aj i
  have I:=h.Aj k
  have K:=h.Aj l
  have r:∀ {j:Nat}{g:Type}[Rp g] {c:List è}{y:g}{f:List Nat},B[j]? = á (Wk.A4 c y f)->∀c∈f,C.heap.size<=c:=fun {j g _ c y f} E a H=>
    (h.new a (cG.2 ⟨_,æ E,H⟩)).resolve_left id
  refine⟨J++_,G w (h.A4 m i) (h.A4 n k) (h.A4 o l),?_,λa H=>?_⟩
  · refine ë.2 ⟨N,ë.2 ⟨I,K,λa H c b e=>?_⟩,λa H c b e=>?_⟩
    · subst e;exact h.apart k l z a b H
    · subst e
      rcases aI.1 b with b|b
      · exact h.apart i k D a b H
      · exact h.apart i l v a b H
  · rcases aI.1 H with H|H
    · exact r i a H
    · rcases aI.1 H with H|H
      · exact r k a H
      · exact r l a H
end
section
variable {n:Nat}{S:ä->Prop}{w:ä}{a:List (Nat × Bool)}{d i:Nat}{g:Option (Nat × Bool)}{h:Type}[Rp h]
theorem xH{t:ì}{x:Â}{z:è}{y:h}(o:b_.toList[i]? = á ⟨á d,.makeSlice t x x,ty,p,af,g⟩)(r:Wn b_ n L ⟨á d,.makeSlice t x x,ty,p,af,g⟩)(l:ò d n=ã)(q:P.underlying t=á (.slice e))(T:Ty P e z (sz h) c_)(u:∀w,own ã w z.cells.toList y [])
    (s:evL L x=á (.int .i64 m)) (c:c_*m<=281474976710656) (f:m<=Ë) (H:Sep M C B F w) (j:∀w',S w->Ext No w w'->S w')
    (k:∀b w',Ext No w w'->w.heap.size<=b->Sep M C (B++[A4 [.slice (á ⟨b,0,ç⟩) (å m y).length m] (å m y) [b]]) F w'->DL P n b_ Q S a ((d,.slice (á ⟨b,0,ç⟩) (å m y).length m)::L) w') :
    DL P n b_ Q S ((i,â)::a) L w:=by
  have e:(å m y).length=m:=aZ
  rw[e] at k
  exact Uj o r l q T u s c f H j k
end
theorem cB{c v:List è}(h:v.length=c.length):FO c 0 v=v:=by
  unfold FO
  rw[List.take_zero,Ý,Nat.zero_add,h,List.drop_length,Į]
def kH:Block:=⟨0,å 4 0⟩
def freshD (s:A0):Drive:=⟨â,å s.Rows.toNat kH⟩
def sQ (s:A0):List Drive:=å (s.Data+s.Af).toNat (freshD s)
def eM (s:A0):Wld:=⟨s,å (s.A2+s.A5).toNat (sQ s),[],å 2 à,0,-1,â⟩
def fg (s:A0):WldResult:=if s.fault≠0 then⟨s.fault,noWld⟩ else⟨0,eM s⟩
theorem vr{s:A0}(h:s.fault≠0):fg s=⟨s.fault,noWld⟩:=ae h
theorem pM{s:A0}(h:s.fault=0):fg s=⟨0,eM s⟩:=ac ω
theorem tD{s:A0}(h:s.Ok):(eM s).Ok:=by
  unfold eM Wld.Ok Ak;dsimp only
  exact⟨h,ω,ω⟩
theorem pV{s:A0}(h:s.ok=ã):s.fault=0:=by unfold A0.fault;rw[ae h]
theorem jA{s:A0}(h:s.ok=ã):s.Ok:=Hj (dS h)
theorem pu{a:Type}{k:Nat}{x:a}:å k x++[x]=å (k+1) x:=List.replicate_succ'.symm
def Ue (b:Block):Prop:=b.Bytes.length<=10
def Vg (d:Drive):Prop:=d.Ai.length<=10/\∀b∈d.Ai,Ue b
def U1 (g:List Drive):Prop:=g.length<=10/\∀d∈g,Vg d
def N3 (G:List (List Drive)):Prop:=G.length<=10/\∀g∈G,U1 g
def Tl (s:A0) (d:Drive):Prop:=(d.Ai.length:Int)=s.Rows/\∀b∈d.Ai,Ue b
def R8 (s:A0) (g:List Drive):Prop:=(g.length:Int)=s.Data+s.Af/\∀d∈g,Tl s d
def Kp (s:A0) (G:List (List Drive)):Prop:=(G.length:Int)=s.A2+s.A5/\∀g∈G,R8 s g
def Vf (n:Nat) (V:List Ac):Prop:=V.length<=n/\∀v∈V,v.r.few
def NV (n:Nat) (T:List Al):Prop:=∀t∈T,Vf n t.Ah
theorem oN{a:Type}{p:a->Prop}{X:List a}{i:Nat}{x:a}(h:∀y∈X,p y)(b:p x):∀y∈X.set i x,p y:=λy c=>by
  rcases Ņ c with H|H
  · exact h y H
  · rw[H];exact b
theorem nG{a:Type}{p:a->Prop}{X:List a}{x:a}(h:∀y∈X,p y)(b:p x):∀y∈X++[x],p y:=λy c=>by
  rcases aI.1 c with H|H
  · exact h y H
  · rw[aD.1 H];exact b
theorem fQ{a:Type}{p:a->Prop}{x:List a}{i:Nat}{d:a}(h:∀y∈x,p y)(hi:i<x.length):p (x.getD i d):=h _ FX
section
variable {s:A0}{G:List (List Drive)}{g i k:Nat}{b:Block}{d:Drive}
theorem Il(h:Kp s G)(H:R8 s l):Kp s (G.set g l):=⟨wW,oN h.2 H⟩
theorem C5(h:R8 s l)(H:Tl s d):R8 s (l.set i d):=⟨wW,oN h.2 H⟩
theorem CG(h:Kp s G)(e:g<G.length)(f:i<(G.getD g []).length)(c:Ue b):Kp s (G.set g ((G.getD g []).set i ⟨((G.getD g []).getD i à).Au,((G.getD g []).getD i à).Ai.set k b⟩)):=by
  have H:=fQ (d:=[]) h.2 e
  have a:=fQ (d:=à) H.2 f
  exact Il h (C5 H ⟨by rw[bE];exact a.1,oN a.2 c⟩)
theorem Ro(c:s.ok=ã):Kp s (eM s).A2:=by
  have f:=bm c
  refine⟨?_,λl a=>?_⟩
  · show((å _ (sQ s)).length:Int)=_
    rw[aZ];omega
  · have e:=(Ğ.1 a).2
    rw[e]
    refine⟨?_,λd H=>?_⟩
    · show((å _ _).length:Int)=_
      rw[aZ];omega
    · rw[(Ğ.1 H).2]
      refine⟨?_,λb h=>?_⟩
      · show((å _ kH).length:Int)=_
        rw[aZ];omega
      · rw[(Ğ.1 h).2];show(å 4 _).length<=10;simp
theorem My(H:s.ok=ã):Tl s (freshD s):=by
  have a:=bm H
  refine⟨?_,λb h=>?_⟩
  · show((å _ kH).length:Int)=_
    rw[aZ];omega
  · rw[(Ğ.1 h).2];show(å 4 _).length<=10;simp
theorem FV(h:Kp s G)(b:s.ok=ã):N3 G:=by
  have c:=bm b
  refine⟨by have:=h.1;omega,λl H=>⟨by have:=(h.2 l H).1;omega,λd a=>⟨by have:=((h.2 l H).2 d a).1;omega,((h.2 l H).2 d a).2⟩⟩⟩
theorem Hv(h:N3 G)(H:U1 l):N3 (G.set g l):=⟨wW,oN h.2 H⟩
end
structure Aw.dim (n:Nat) (z:Aw):Prop where
  sh:z.A0.ok=ã
  gr:Kp z.A0 z.A2
  on:z.On.length<=10
  tl:z.A3.length=2
  tp:NV n z.A3
  wr:0<=z.Aa/\z.Aa<=5
  st : -1<=z.Stop/\z.Stop<=10
structure Aw.few (n:Nat) (z:Aw):Prop where
  sh:z.A0.few
  gr:N3 z.A2
  on:z.On.length<=20
  tl:z.A3.length<=2
  tp:NV n z.A3
  wr : -1<=z.Aa/\(z.Aa<=5\/z.Aa=1000000001)
  st : -2<=z.Stop/\z.Stop<=1000000100
theorem Aw.dim.few{n:Nat}{z:Aw}(h:z.dim n):z.few n:=⟨dS h.sh,FV h.gr h.sh,by have:=h.on;omega,by have:=h.tl;omega,h.tp,Du,by have:=h.st;omega⟩
theorem Aw.few.ok{n:Nat}{z:Aw}(h:z.few n):z.Ok:=by
  have H:=h.wr
  have a:=h.st
  exact⟨Hj h.sh,gQ,gQ⟩
theorem eJ{n:Nat}{T:List Al}(h:NV n T)(a:n<=m):NV m T:=λt H=>⟨aF (h t H).1 a,(h t H).2⟩
def lh (t:Nat) (w:Bool) (v:Ac) (T:List Al):List Al:=T.set t ⟨w,(T.getD t à).Ah++[v]⟩
theorem uw{n t:Nat}{v:Ac}{T:List Al}(h:NV n T)(b:t<T.length)(hv:v.r.few):NV (n+1) (lh t wi v T):=by
  have H:=fQ (d:=à) h b
  refine oN (λy a=>⟨by have:=(h y a).1;omega,(h y a).2⟩) ⟨?_,nG H.2 hv⟩
  rw[aO]
  have:=H.1
  show(T.getD t à).Ah.length+1<=n+1
  omega
theorem yC{t:Nat}{v:Ac}{T:List Al}(e:t<T.length):∀x∈Am (lh t wi v T),x∈Am T\/x=v:=λx a=>by
  obtain⟨l,d,b⟩:=ĕ.1 a
  obtain⟨y,c,rfl⟩:=bY.1 d
  have p:∀y∈T,∀x∈y.Ah,x∈Am T:=λy c x a=>ĕ.2 ⟨y.Ah,bY.2 ⟨y,c,rfl⟩,a⟩
  rcases Ņ c with h|h
  · exact .inl (p y h x b)
  · rw[h] at b
    rcases aI.1 b with H|H
    · exact .inl (p _ (by rw[bX e];exact bx _) x H)
    · exact .inr (aD.1 H)
theorem yY{t:Nat}{y:Al}{T:List Al}:∀x∈Am (T.set t y),x∈Am T\/x∈y.Ah:=λx c=>by
  obtain⟨l,a,H⟩:=ĕ.1 c
  obtain⟨q,b,rfl⟩:=bY.1 a
  rcases Ņ b with h|h
  · exact .inl (ĕ.2 ⟨q.Ah,bY.2 ⟨q,h,rfl⟩,H⟩)
  · rw[h] at H;exact .inr H
section
variable {w:ä}{a:List Rsc}
theorem Sep.B9(h:Sep M C B F w)(b:∀r∈a,r∈F):Sep M C B a w:=⟨h.ext,h.rs,h.nd,h.new,λr H=>h.fs r (b r H),λr H=>h.ap r (b r H)⟩
theorem Sep.rdAt(h:Sep M C B F w)(i:Nat)(H:F[i]? = á (rdR O ft)):RdV w ft O:=(h.fs _ (æ H)).1
theorem Sep.rdAdd{S y z:Bool}(h:Sep M C B F w)(i J k l:Nat)(v:Ac)(f:F[i]? = á (rdR O ft))(c:F[J]? = á (Wk.Ab S [.slice v.A6 v.r.Rows.length v.C6] v.r.Rows f6))(d:F[k]? = á (Wk.Ab y [.slice v.A7 v.r.Data.length v.C7] v.r.Data f7))(e:F[l]? = á (Wk.Ab z [.slice v.A8 v.r.Ad.length v.C8] v.r.Ad f8))(t:v.r.Ok)(u:∀x∈us,x∈O\/x=v):
    Sep M C B (F++[rdR us (ft++(f6++(f7++f8)))]) w:=by
  have p:=h.fs _ (æ c)
  have q:=h.fs _ (æ d)
  have s:=h.fs _ (æ e)
  have r:=h.fs _ (æ f)
  have o:=Rec.own_mk t (aJ p) (aJ q) (aJ s)
  refine h.look ⟨λx j=>?_,λb H=>?_⟩ λb H m=>?_
  · rcases u x j with a|a
    · obtain⟨g,K,n⟩:=r.1 x a
      exact⟨g,K,λb H=>Ó _ (n b H)⟩
    · rw[a]
      exact⟨_,o,λb H=>Ù _ H⟩
  · rcases aI.1 H with H|H
    · exact r.2 b H
    · exact Rp.lt o b H
  · rcases aI.1 H with H|H
    · exact h.ap _ (æ f) b H m
    · rcases aI.1 H with H|H
      · exact h.ap _ (æ c) b H m
      · rcases aI.1 H with H|H
        · exact h.ap _ (æ d) b H m
        · exact h.ap _ (æ e) b H m
theorem Sep.rdNil(h:Sep M C B F w):Sep M C B (F++[rdR [] []]) w:=h.look ⟨RdV.nil,σ⟩ (by simp[rdR])
theorem Sep.rdSub(h:Sep M C B F w)(i:Nat)(H:F[i]? = á (rdR O ft))(s:∀x∈us,x∈O):Sep M C B (F++[rdR us ft]) w:=by
  have r:=h.fs _ (æ H)
  exact h.look ⟨r.1.sub s,r.2⟩ λb a m=>h.ap _ (æ H) b a m
end
def ResV (w W:ä) (c:List è) (z:Aw):Prop:=∃I ft,own ã W c z I/\I.Nodup/\(∀b∈I,w.heap.size<=b)/\RdV W ft (Am z.A3)/\(∀b∈ft,w.heap.size<=b/\b<W.heap.size)/\∀b∈ft,b ∉ I
section
variable {w:ä}
theorem Sep.outV{n q t:Type}[Rp n][Rp q][Rp t]{z:Aw}{o:Obj}(h:Sep (· = b) C B F w)(i j a c k:Nat){s:List è}{x:n}{X:q}{m:t}(G:(B[i]?,B[j]?,B[a]?,B[c]?,î i j,î i a,î i c,î a j,î c j,î c a,F[k]?)=(á (Wk.box b o),á (Wk.A4 c1 x J),á (Wk.A4 c2 X f2),á (Wk.A4 c3 m f3),â,â,â,â,â,â,á (rdR (Am z.A3) ft)))(I:∀b∈ft,C.heap.size<=b)
    (L:∀w,own ã w c1 x J->own ã w c2 X f2->own ã w c3 m f3->own ã w s z (J++(f2++f3))):ResV C w s z:=by
  have⟨K,e,f,g,D,u,v,y,A,E,l⟩:=pj11 G;obtain⟨Q,M,N⟩:=h.res3x i j a c K e f g D u v y A E L
  have r:=h.fs _ (æ l)
  refine⟨_,ft,Q,M,N,r.1,λb d=>⟨I b d,r.2 b d⟩,λb d H=>?_⟩
  have p:=h.ap _ (æ l) b d
  rcases aI.1 H with H|H
  · exact p (cG.2 ⟨_,æ e,H⟩)
  · rcases aI.1 H with H|H
    · exact p (cG.2 ⟨_,æ f,H⟩)
    · exact p (cG.2 ⟨_,æ g,H⟩)
theorem Sep.resBoxE{k:Type}[Rp k]{M:Nat->Prop}{j w W:ä}{d F:List Rsc}(h:Sep M j d F w)(i:Nat){o:Obj}(g:d[i]? = á (Wk.box b o))(e:Ext (· = b) w W)(n:W.heap[b]? = á o'){C:List è}{x:k}(l:own ã W C x I)(m:I.Nodup)(f:∀b∈I,w.heap.size<=b):
    Sep M j (d.set i (Wk.box b o')++[Wk.A4 C x I]) F W:=by
  have p:=h.Ay i g e n
  have t:∀x∈blocks (d.set i (Wk.box b o')),x<w.heap.size:=λx H=>by
    rcases fR g x H with H|H
    · simp only[Wk.box,aD] at H
      subst H
      exact h.lt _ (cG.2 ⟨_,æ g,iQ⟩)
    · exact h.lt x H
  refine⟨p.ext,λr a=>?_,?_,λx H=>?_,p.fs,λr a x H c=>?_⟩
  · rcases aI.1 a with a|a
    · exact p.rs r a
    · simp at a;subst a;exact l
  · rw[eu]
    refine ë.2 ⟨p.nd,by simpa[blocks,Wk.A4] using m,λx H y q e=>?_⟩
    subst e
    have:=t x H
    have:=f x (by simpa[blocks,Wk.A4] using q)
    omega
  · rw[eu] at H
    rcases aI.1 H with H|H
    · exact p.new x H
    · have:=f x (by simpa[blocks,Wk.A4] using H)
      have:=h.ext.size
      exact .inr ω
  · rw[eu] at c
    rcases aI.1 c with c|c
    · exact p.ap r a x H c
    · have s:=f x (by simpa[blocks,Wk.A4] using c)
      have:=r.lt (h.fs r a) x H
      omega
theorem Sep.resV{z:Aw}{o:Obj}{s:List è}(h:Sep M C B F w)(i:Nat)(f:B[i]? = á (Wk.box b o))(e:Ext (· = b) w w')(d:w'.heap[b]? = á o')(r:ResV w w' s z):
    ∃I ft,Sep M C (B.set i (Wk.box b o')++[Wk.A4 s z I]) (F++[rdR (Am z.A3) ft]) w'/\∀b∈ft,w.heap.size<=b:=by
  obtain⟨I,ft,Q,g,j,l,q,n⟩:=r
  have H:=h.resBoxE i f e d Q g j
  refine⟨I,ft,H.look ⟨l,λb d=>(q b d).2⟩ (λc a m=>?_),λc a=>(q c a).1⟩
  rw[eu] at m
  rcases aI.1 m with m|m
  · have p:=(q c a).1
    have t:c<w.heap.size:=by
      rcases fR f c m with k|k
      · simp only[Wk.box,aD] at k
        subst k
        exact h.lt _ (cG.2 ⟨_,æ f,iQ⟩)
      · exact h.lt c k
    omega
  · exact n c a (by simpa[blocks,Wk.A4] using m)
end
theorem OR{T:List Al}(h:∀t∈T,t.Ah=[]):Am T=[]:=by
  unfold Am
  rw[List.flatten_eq_nil_iff]
  intro l H
  obtain⟨t,a,rfl⟩:=bY.1 H
  exact h t a
theorem Nt{z:Aw}{s:A0}(c:s.ok=ã)(e:z.w=eM s):z.dim 0/\Am z.A3=[]:=by
  have a:z.A0=s:=congrArg Wld.A0 e
  have d:z.A2=(eM s).A2:=congrArg Wld.A2 e
  have f:z.On=[]:=congrArg Wld.On e
  have b:z.A3.map Al.t=å 2 default:=congrArg Wld.A3 e
  have i:z.Aa=0:=congrArg Wld.Aa e
  have j:z.Stop = -1:=congrArg Wld.Stop e
  have E:∀t∈z.A3,t.Ah=[]:=λt h=>by
    have H:t.t∈z.A3.map Al.t:=bY.2 ⟨t,h,rfl⟩
    rw[b] at H
    have g:=congrArg Tape.Ah (Ğ.1 H).2
    exact List.map_eq_nil_iff.1 g
  refine⟨⟨by rw[a];exact c,by rw[a,d];exact Ro c,by rw[f];exact ý _,?_,λt h=>⟨by rw[E t h];exact aN _,by rw[E t h];simp⟩,ω,ω⟩,OR E⟩
  have:=congrArg List.length b
  simpa using this
section
variable {w:ä}
theorem Sep.fresh_{o:Obj}{r:Rsc}(h:Sep (· = b) C B F w)(i j:Nat)(g:B[i]? = á (Wk.box b o))(d:B[j]? = á r)(f:î i j=â):∀c∈r.fp,C.heap.size<=c:=λa H=>by
  rcases h.new a (cG.2 ⟨_,æ d,H⟩) with e|e
  · subst e;exact absurd H (h.apart d g f a iQ)
  · exact e
theorem oW{w:ä}{a b:List Nat}(h:∀c∈a,w.heap.size<=c)(H:∀c∈b,w.heap.size<=c):∀c∈a++b,w.heap.size<=c:=λc d=>(aI.1 d).elim (h c) (H c)
end
theorem nO{t:Nat}{v:Ac}{T:List Al}:(lh t wi v T).length=T.length:=bE
theorem Ol{t:List Al}{v:Ac}{a b:Bool}(h:t.length=2):∀x∈Am (lh 1 b v (lh 0 a v t)),x∈Am t\/x=v:=λx c=>by
  rcases yC (by rw[nO];omega) x c with H|H
  · exact yC ω x H
  · exact .inr H
theorem EH{w:ä}:own ã w [.int .i64 0,.int .i64 0,.string ⟨#[]⟩,.int .i64 0,.int .i64 0,.int .i64 0,.slice ç 0 0,.slice ç 0 0,.slice ç 0 0] (à:Ac) []:=
  dK (v:=à) (by show Rec.Ok ⟨0,0,⟨#[]⟩,0,0,0,[],[],[]⟩;unfold Rec.Ok Ak;dsimp only;exact⟨ω,ω,ý _,ω,ω,ω⟩)
theorem QB{z:Aw}{s:A0}(e:z.w=eM s):z.On.length=0:=by
  rw[show z.On=[] from congrArg Wld.On e];rfl
section
variable {a:Type}[Rp a]
theorem M8{w:ä}{n:Nat}{X:List a}(h:own ã w [.slice ad n c] X I)(d:1<=X.length)(l:I.Nodup):
    ∃f,own ã w [.slice (slA ad 1 c (sz a)) (X.drop 1).length (c-1)] (X.drop 1) f/\(∀b∈f,b∈I)/\f.Nodup:=by
  rcases h with ⟨j,_⟩|⟨e,rfl,rfl⟩|⟨b,o,v,C,T,F,z,p,r,k,K,i,B,D,t⟩
  · cases j
  · simp at d
  · match X,d with
    | x::X,_=>
      obtain⟨J,f2,e,E,Q⟩:=t
      obtain⟨rfl,rfl,rfl⟩:=p
      subst r e
      rw[List.drop_succ_cons,List.drop_zero]
      by_cases g:c=1
      · subst g
        have m:X=[]:=í (by rw[aR] at i;omega)
        subst m
        have A:=Q
        refine⟨b::[],.inr (.inr ⟨b,o,0,C,T,F,[],?_,rfl,k,K,aN _,ω,?_,rfl⟩),λy H=>by simp at H;simp[H],σ⟩
        · unfold slA;rw[ae rfl]
        · omega
      · have s:slA (á (⟨b,o,ç⟩:ô)) 1 c (sz a)=á ⟨b,o+sz a,ç⟩:=by
          unfold slA;rw[ac g];simp[Addr.add]
        refine⟨b::f2,.inr (.inr ⟨b,o+sz a,c-1,C,T,F,f2,by rw[s],rfl,k,K,by rw[aR] at i;omega,ω,?_,by rw[<- List.drop_drop];exact Q⟩),λy H=>?_,?_⟩
        · have:c*sz a=(c-1)*sz a+sz a:=by
            have:c=(c-1)+1:=by omega
            rw[this,b8,ľ];rfl
          omega
        · rcases aM.1 H with rfl|H
          · simp
          · simp[H]
        · obtain⟨N,u⟩:=ù.1 l
          exact ù.2 ⟨λq=>N (Ù _ q),(ë.1 u).2.1⟩
theorem NH{w:ä}{n:Nat}{X:List a}(h:own ã w [.slice ad n c] X I)(d:1<=X.length)(i:I.Nodup):
    ∃f,own ã w [.slice (slA ad 0 c (sz a)) (X.take 1).length (c-0)] (X.take 1) f/\(∀b∈f,b∈I)/\f.Nodup:=by
  rcases h with ⟨g,_⟩|⟨e,rfl,rfl⟩|⟨b,o,v,C,T,F,z,k,K,j,l,m,p,r,t⟩
  · cases g
  · simp at d
  · match X,d with
    | x::X,_=>
      obtain⟨J,f2,e,Q,A⟩:=t
      obtain⟨rfl,rfl,rfl⟩:=k
      subst K e
      have s:slA (á (⟨b,o,ç⟩:ô)) 0 c (sz a)=á ⟨b,o,ç⟩:=by
        unfold slA;split<;>simp[Addr.add]
      refine⟨b::J,.inr (.inr ⟨b,o,c,C,T,F,J,by rw[s];rfl,rfl,j,l,by rw[aR] at m;simp;omega,p,r,⟨J,[],(Į J).symm,Q,rfl⟩⟩),λy H=>?_,?_⟩
      · rcases aM.1 H with rfl|H
        · simp
        · simp[H]
      · obtain⟨N,u⟩:=ù.1 i
        exact ù.2 ⟨λq=>N (Ó _ q),(ë.1 u).1⟩
variable {w:ä}
theorem Sep.drop1(h:Sep M C B F w)(i:Nat){n:Nat}{x:List a}(H:B[i]? = á (Wk.A4 [.slice ad n c] x I))(b:1<=x.length):
    ∃f,Sep M C (B.set i (Wk.A4 [.slice (slA ad 1 c (sz a)) (x.drop 1).length (c-1)] (x.drop 1) f)) F w:=by
  obtain⟨f,k,K,d⟩:=M8 (h.A4 i H) b (h.Aj H)
  exact⟨f,h.conv i _ H k K d⟩
theorem Sep.take1(h:Sep M C B F w)(i:Nat){n:Nat}{x:List a}(H:B[i]? = á (Wk.A4 [.slice ad n c] x I))(b:1<=x.length):
    ∃f,Sep M C (B.set i (Wk.A4 [.slice (slA ad 0 c (sz a)) (x.take 1).length (c-0)] (x.take 1) f)) F w:=by
  obtain⟨f,k,K,d⟩:=NH (h.A4 i H) b (h.Aj H)
  exact⟨f,h.conv i _ H k K d⟩
end
theorem NZ{a:Type}{p:a->Prop}{x:List a}(h:∀y∈x,p y):∀y∈x.drop 1,p y:=λy H=>h y (List.mem_of_mem_drop H)
theorem MU{a:Type}{p:a->Prop}{x:List a}(h:∀y∈x,p y):∀y∈x.take 1,p y:=λy H=>h y (š H)
theorem Mz{T:List Al}:∀x∈Am (T.take 1),x∈Am T:=λx a=>by
  obtain⟨l,h,b⟩:=ĕ.1 a
  obtain⟨t,H,rfl⟩:=bY.1 h
  exact ĕ.2 ⟨_,bY.2 ⟨t,š H,rfl⟩,b⟩
section
variable {w:ä}
theorem Se{w:ä}{f:List Nat}:RdV w f [(à:Ac)]:=λv hv=>by
  rw[aD.1 hv]
  exact⟨[],aJ (Ix),σ⟩
theorem Sep.rdZ(h:Sep M C B F w)(i:Nat)(H:F[i]? = á (rdR O ft))(s:∀x∈us,x∈O\/x=à):Sep M C B (F++[rdR us ft]) w:=by
  have r:=h.fs _ (æ H)
  refine h.look ⟨λx c=>?_,r.2⟩ λb a m=>h.ap _ (æ H) b a m
  rcases s x c with k|k
  · exact r.1 x k
  · exact Se x (aD.2 k)
end
theorem BE:(à:Ac).r.few:=by
  show Rec.few ⟨0,0,⟨#[]⟩,0,0,0,[],[],[]⟩
  have e:(⟨#[]⟩:ByteArray).size=0:=rfl
  unfold Rec.few;dsimp only
  refine⟨ω,ý _,ý _,ý _,ω,ω,ω,ω,ω,ω,ω,ω,ω,ω⟩
theorem Sep.mineNil{d:Type}[Rp d]{w:ä}(h:Sep M C B F w)(c:List è)(x:d)(o:∀w,own ã w c x []):Sep M C (B++[Wk.A4 c x []]) F w:=
  ⟨h.ext,λr a=>(aI.1 a).elim (h.rs r) λq=>by rw[aD.1 q];exact o w,by have:=h.nd;rw[eu];simpa[blocks,Wk.A4] using this,λb H=>h.new b (by rw[eu] at H;simpa[blocks,Wk.A4] using H),h.fs,λr a b H m=>h.ap r a b H (by rw[eu] at m;simpa[blocks,Wk.A4] using m)⟩
theorem Aw.few.mono{n:Nat}{z:Aw}(h:z.few n)(H:n<=m):z.few m:=⟨h.sh,h.gr,h.on,h.tl,eJ h.tp H,h.wr,h.st⟩
def mX (r:Rec):Ac:=⟨r,ç,0,ç,0,ç,0⟩
theorem RD{w:ä}{r:Rec}(o:r.Ok)(h:r.Rows=[])(H:r.Data=[])(a:r.Ad=[]):InF w ft (mX r).cs (mX r).r:=by
  refine⟨[],?_,σ⟩
  exact lM (Rec.own_mk (x:=r) o (.inr (.inl ⟨by rw[h];rfl,h,rfl⟩)) (.inr (.inl ⟨by rw[H];rfl,H,rfl⟩)) (.inr (.inl ⟨by rw[a];rfl,a,rfl⟩))) rfl
section
variable {w:ä}
theorem Sep.rdBare(h:Sep M C B F w)(i:Nat)(H:F[i]? = á (rdR O ft)){r:Rec}(o:r.Ok)(c:r.Rows=[])(d:r.Data=[])(e:r.Ad=[])(s:∀x∈us,x∈O\/x=mX r):Sep M C B (F++[rdR us ft]) w:=by
  have a:=h.fs _ (æ H)
  refine h.look ⟨λx g=>?_,a.2⟩ λb f m=>h.ap _ (æ H) b f m
  rcases s x g with k|k
  · exact a.1 x k
  · rw[k];exact RD o c d e
end
theorem vF{c:Type}{a b:List c}{v:c}:∀x∈a++(b++[v]),x∈a++b\/x=v:=λx H=>by
  rcases aI.1 H with h|h
  · exact .inl (Ó _ h)
  · rcases aI.1 h with h|h
    · exact .inl (Ù _ h)
    · exact .inr (aD.1 h)
theorem NC{t:Nat}{v:Ac}{T:List Al}{r:List Ac}(H:t<T.length)(hv:v∈r):∀x∈Am (lh t wi v T)++r,x∈Am T++r:=λx a=>by
  rcases aI.1 a with h|h
  · rcases yC H x h with k|k
    · exact Ó _ k
    · rw[k];exact Ù _ hv
  · exact Ù _ h
theorem xj{z:Aw}:z.w.A3.length=z.A3.length:=aS _
theorem JD{f:Nat->Nat}:∀ {n:Nat},(∀i,i<n->f i<=m)->my f n<=n*m
  | 0,_=>by simp[my]
  | n+1,h=>by
    have H:=JD (n:=n) λi b=>h i ω
    have a:=h n ω
    rw[b8]
    show my f n+f n<=_
    omega
theorem yx{a:Type}[Inhabited a]{f:a->Nat}{X:List a}{k:Nat}(H:X.length<=k)(h:∀x∈X,f x<=m):szL f X<=k+k*m:=by
  unfold szL
  have b:=JD (f:=λi=>f (X.getD i à)) λi hi=>h _ FX
  have c:=Å m H
  omega
theorem In{z:Wld}(G:N3 z.A2)(o:z.On.length<=20)(l:z.A3.length<=2)(T:∀t∈z.A3,t.Ah.length<=500/\∀r∈t.Ah,r.few):fY z<=200000:=by
  have i:szL (szL kc) z.A2<=10+10*1220:=yx G.1 λg h=>by
    refine aF (yx (m:=110+11) (G.2 g h).1 λd H=>?_) ω
    exact aF (yx ((G.2 g h).2 d H).1 λb e=>((G.2 g h).2 d H).2 b e) ω
  have j:szL ou z.A3<=2+2*60500:=yx l λt a=>by
    refine aF (yx (m:=120) (T t a).1 λr f=>?_) ω
    have c:=(T t a).2 r f
    unfold Rec.few at c
    unfold fH;omega
  unfold fY;omega
section
variable {w:ä}
theorem Sep.outS{a:Type}[Rp a]{c:List è}{x:a}{f:List Nat}(h:Sep No C B F w)(j:Nat)(H:B[j]? = á (Wk.A4 c x f)):ResS C w c x:=
  ⟨f,aJ (h.A4 j H),λb d=>(h.new b (cG.2 ⟨_,æ H,d⟩)).resolve_left id⟩
end
theorem mn{R:è->ä->Prop}{w:ä}{t y:Nat}{u:ì}{x:ô}{v V:è}(r:fn.results = #[.cell t u,.tmp y])(c:look L t=á (.pointer (á x)))(l:(loadVar u x).run P w = .ok v w)(d:look L y=á V)(h:R (.tuple #[v,V]) w):fin P fn R .ret L w:=λ_ a g=>
  ⟨_,by have H:=g.cov t _ c;have b:=g.cov y _ d;simp at H b;simp[results,r,H,b,asAddr,l],h⟩
theorem Sep.lookF{a:Type}[Rp a]{w:ä}{f:List Rsc}{c:List è}{x:a}(H:Sep M C B f w')(h:Sep M C B F w)(r:ResS w w' c x):∃I,Sep M C B (f++[Wk.Ab â c x I]) w':=by
  obtain⟨I,d,e⟩:=r
  exact⟨I,H.look d (λb g i=>by have:=e b g;have:=h.lt b i;omega)⟩
section
variable {z z1:Wld}{r:Rec}{t:Nat}
theorem AQ{s:A0}{R:List Rec}(h:∀r∈R,recF s r=0):∀n,n<=R.length->ij s R n=0
  | 0,_=>rfl
  | n+1,H=>by
    rw[kG (AQ h n ω)]
    exact h _ Gx
theorem DE(h:z.A3.length=2):r∈cI z↔r∈(z.A3.getD 0 à).Ah\/r∈(z.A3.getD 1 à).Ah:=by
  rw[lF D1,Mo rfl,CO h,aI]
end
section
variable {a:List (List UInt8)}{g:Int}{r:Rec}
theorem iE{z:Wld}(h:z.Stop = -1):cN z=false:=by unfold cN;rw[h];rfl
theorem L7{z:Wld}{k i:Nat}{b:Block}{r:Nat}(p:z.Stop = -1)(h:k<z.A2.length)(H:i<(z.A2.getD k []).length):dH (lY k i r b z) k i=⟨(dH z k i).Au,(dH z k i).Ai.set r b⟩:=by
  rw[uP (iE p)]
  have e:(kR (lq k i r b z)).A2=z.A2.set k _:=rfl
  have E:(z.A2.set k ((z.A2.getD k []).set i ⟨(dH z k i).Au,(dH z k i).Ai.set r b⟩)).getD k []=(z.A2.getD k []).set i ⟨(dH z k i).Au,(dH z k i).Ai.set r b⟩:=by rw[d8,ae ⟨rfl,h⟩]
  have a:dH (kR (lq k i r b z)) k i=((kR (lq k i r b z)).A2.getD k []).getD i default:=rfl
  rw[a,e,E,d8,ae ⟨rfl,H⟩]
theorem zJ:∀(n i:Nat) (z:Wld),z.Stop = -1->g.toNat<z.A2.length->i+n<=(z.A2.getD g.toNat []).length->(∀j,i<=j->j<i+n->r.Row.toNat<(dH z g.toNat j).Ai.length) ->
    (redoI a g r n i z).1=ã/\(redoI a g r n i z).2.On=z.On/\(redoI a g r n i z).2.Stop = -1/\(redoI a g r n i z).2.Down=z.Down/\(∀j,j<i->dH (redoI a g r n i z).2 g.toNat j=dH z g.toNat j)/\(∀j,i<=j->j<i+n->iM (redoI a g r n i z).2 g.toNat j r=ã)/\z.Aa<=(redoI a g r n i z).2.Aa
  | 0,i,z,h,_,_,_=>⟨rfl,rfl,h,rfl,λ_ _=>rfl,λj H d=>by omega,ĩ _⟩
  | n+1,i,z,h,f,C,s=>by
    rw[redoI]
    by_cases c:iM z g.toNat i r=ã
    · rw[ae c]
      obtain⟨k,l,m,o,A,p,q⟩:=zJ n (i+1) z h f ω λj H d=>s j ω ω
      refine⟨k,l,m,o,λj w=>A j ω,λj H d=>?_,q⟩
      by_cases e:j=i
      · subst e
        have:=A j ω
        unfold iM ig at c ⊢
        rw[this];exact c
      · exact p j ω ω
    · rw[ac c,ac (by rw[iE h];simp)]
      obtain⟨t,u,B⟩:=iD (i:=i) f ω
      have y:=uP (g:=g.toNat) (i:=i) (d:=r.Row.toNat) (b:=⟨r.Seq,gE z g i r (a.getD i [])⟩) (iE h)
      have v:=L7 (i:=i) (b:=⟨r.Seq,gE z g i r (a.getD i [])⟩) (r:=r.Row.toNat) h f ω
      have x:=s i (aN _) ω
      obtain⟨k,l,m,o,A,p,q⟩:=zJ n (i+1) (lY g.toNat i r.Row.toNat ⟨r.Seq,gE z g i r _⟩ z) (by rw[y];exact h) (by rw[t];exact f) (by rw[u];omega) (λj H d=>by rw[B j ω];exact s j ω ω)
      refine⟨k,l.trans (by rw[y];rfl),m,o.trans (by rw[y];rfl),λj w=>(A j ω).trans (B j ω),λj H d=>?_,Int.le_trans iy.1 q⟩
      by_cases e:j=i
      · subst e
        have:=A j ω
        unfold iM ig
        rw[this,v]
        rw[d8,ae ⟨rfl,x⟩]
        simp
      · exact p j ω ω
end
theorem Dp{z:Wld}(s:z.A0.ok=ã)(G:b7 z=ã):N3 z.A2:=by
  have S:=bm s
  obtain⟨r,a⟩:=fI G
  refine⟨ω,λl q=>?_⟩
  obtain⟨k,p,rfl⟩:=ð q
  obtain⟨c,h⟩:=a k ω
  rw[bX p] at c h
  refine⟨ω,λd m=>?_⟩
  obtain⟨i,n,rfl⟩:=ð m
  obtain⟨e,H⟩:=h i ω
  rw[bX n] at e H
  refine⟨ω,λb g=>?_⟩
  obtain⟨j,o,rfl⟩:=ð g
  have f:=(qj (H j ω)).2.2
  rw[bX o] at f
  show _<=10
  omega
def dZ (z:Wld) (g:Int):WldResult:=
  if upF z≠0 then⟨upF z,noWld⟩ else if ins g 0 (z.A0.A2+z.A0.A5-1)=ã then
    if g∈z.On then⟨0,z⟩ else if(z.On.length:Int)=z.A0.Cap then⟨7,noWld⟩ else⟨0,{z with On:=z.On++[g]}⟩
  else⟨3,noWld⟩
section
variable {z:Wld}{st g:Int}
theorem Kq(h:upF z≠0):dZ z g=⟨upF z,noWld⟩:=ae h
theorem Ka(h:upF z=0)(H:ins g 0 (z.A0.A2+z.A0.A5-1)=â):dZ z g=⟨3,noWld⟩:=by rw[dZ,ac ω,ac (by rw[H];simp)]
theorem CJ(h:upF z=0)(H:ins g 0 (z.A0.A2+z.A0.A5-1)=ã)(a:g∈z.On):dZ z g=⟨0,z⟩:=by rw[dZ,ac ω,ae H,ae a]
theorem Iq(h:upF z=0)(H:ins g 0 (z.A0.A2+z.A0.A5-1)=ã)(a:¬ g∈z.On)(b:(z.On.length:Int)=z.A0.Cap):dZ z g=⟨7,noWld⟩:=by rw[dZ,ac ω,ae H,ac a,ae b]
theorem zL(h:upF z=0)(H:ins g 0 (z.A0.A2+z.A0.A5-1)=ã)(a:¬ g∈z.On)(b:¬ (z.On.length:Int)=z.A0.Cap):dZ z g=⟨0,{z with On:=z.On++[g]}⟩:=by rw[dZ,ac ω,ae H,ac a,ac b]
end
section
variable {g:Int}{r:Rec}{z:Wld}
theorem vj(s:z.A0.ok=ã)(h:b7 z=ã)(H:rm z=ã)(T:z.A3.length=2)(t:il z=0)(i:0<=z.Aa/\z.Aa<=1000000000)(I : -1<=z.Stop/\z.Stop<=1000000000):c7 z=0:=by
  unfold c7
  have f:z.A0.fault=0:=pV s
  rw[ac ω,ae (by rw[h,H,T];rfl),ac ω,ae (by rw[bH.2 i,bH.2 I];rfl)]
theorem jv(h:y.A0=z.A0)(H:y.A2=z.A2):b7 y=b7 z:=by
  unfold b7;rw[h,H]
end
def wk (n k:Nat):List Block:=å k kH++å (n-k) à
theorem NI{n k:Nat}(h:k<=n):(wk n k).length=n:=by unfold wk;rw[aO,aZ,aZ];omega
theorem ML{n:Nat}:wk n n=å n kH:=by unfold wk;simp
theorem Qf{n k:Nat}(h:k<n):(wk n k).getD k à=default:=by
  unfold wk
  rw[ū,List.getElem?_append_right (by rw[aZ];exact aN _),aZ,List.getElem?_replicate,ae ω];rfl
theorem NB{n k:Nat}(h:k<n):(wk n k).set k kH=wk n (k+1):=by
  obtain⟨m,rfl⟩:∃m,n=k+1+m:=⟨n-(k+1),ω⟩
  unfold wk
  rw[List.set_append_right _ _ (by rw[aZ];exact aN _),aZ,Nat.sub_self,show k+1+m-k=m+1 by omega,show k+1+m-(k+1)=m by omega,List.replicate_succ,<- pu,Î]
  rfl
section
variable {G:List Drive}{n s a:Nat}{D:List UInt8}
theorem OX(h:G.length=n+s)(H:∀d,d<n+s->(G.getD d à).Au=â->((G.getD d à).Ai.getD a à).Bytes=encK D n d):Some_ n s D (mD G a G.length):=by
  refine⟨by rw[vk];exact h,λi b=>?_⟩
  rw[Cq ω]
  unfold blkAt
  by_cases c:(G.getD i à).Au=ã
  · rw[ae c];exact .inr rfl
  · rw[ac c];exact .inl (H i b (by simpa using c))
theorem I9(b:G.length=n+s)(h:∀d,d<n+s->(G.getD d à).Au=â->((G.getD d à).Ai.getD a à).Bytes=encK D n d)(H:D.length=n*4):∀m,m<=n+s->nils (mD G a G.length) m=(wipedTo G m).length
  | 0,_=>rfl
  | m+1,f=>by
    have i:=I9 b h H m ω
    have e:nils _ (m+1)=nils _ m+if((mD G a G.length).getD m []).length=0 then 1 else 0:=rfl
    rw[e,i,Cq ω]
    by_cases c:(G.getD m à).Au=ã
    · rw[vy c,blkAt,ae c,aO];rfl
    · have C:(G.getD m à).Au=false:=by simpa using c
      rw[uJ C,blkAt,ac c,h m ω C,ac (by rw[Dh H];decide)];rfl
theorem L0(e:1<=n/\n<=3)(c:s<=2)(h:G.length=n+s)(b:∀d,d<n+s->(G.getD d à).Au=â->((G.getD d à).Ai.getD a à).Bytes=encK D n d)(l:D.length=n*4)(w:(wipedTo G G.length).length<=s):yu n (mD G a G.length)=D:=by
  have H:=OX h b
  have k:=RC H (by rw[I9 h b l _ (aN _),<- h];exact w)
  rw[Ph k]
  exact Sb e c l H k
theorem t8:∀n,(∀k,k<n->(G.getD k à).Au=â)->wipedTo G n=[]
  | 0,_=>rfl
  | n+1,h=>by rw[uJ (h n ω),t8 n λk H=>h k ω]
end
structure Gd (s:A0) (g:Int) (X:Nat->List UInt8) (W:Int) (k:Nat) (z:Wld):Prop where
  sh:z.A0=s
  gk:b7 z=ã
  on:z.On=[g]
  st:z.Stop = -1
  dn:z.Down=â
  wr:0<=z.Aa/\z.Aa<=W
  tl:z.A3.length=2
  tf:il z=0
  tp:∀t∈z.A3,t.Ah.length<=5/\∀r∈t.Ah,r.few
  kd:AllR (λr=>r.Kind≠4) z
  gd:∀d,d<s.Data.toNat+s.Af.toNat->(dH z g.toNat d).Au=â->∀i,i<s.Rows.toNat->(ig z g.toNat d i).Bytes=encK (X i) s.Data.toNat d
  wp:(re z g).length<=k
  pw:0<k->0<(re z g).length
structure Fx (s:A0) (g:Int) (X:Nat->List UInt8):Prop where
  hs:s.ok=ã
  hg:ins g 0 (s.A2-1)=ã
  hx:∀i,(X i).length=s.Data.toNat*4
section
variable {s:A0}{g row d W:Int}{X:Nat->List UInt8}{k:Nat}{z:Wld}
theorem zl{m:Int}(h:ins g 0 m=ã):apartL [g] m=true:=by
  refine jn λi H=>?_
  have e:i=0:=by simp at H;omega
  subst e
  show(ins g 0 m && !decide _)=ã
  rw[h];simp
theorem Fx.all(f:Fx s g X):ins g 0 (s.A2+s.A5-1)=true:=by
  have S:=bm f.hs
  have h:=bH.1 f.hg
  exact bH.2 ω
theorem Gd.on_ok(h:Gd s g X W k z)(f:Fx s g X):rm z=true:=by
  have S:=bm f.hs
  unfold rm
  rw[h.on,h.sh,h.dn,zl f.all,aU (show _<=s.Cap by simp;omega)]
  simp
theorem Gd.world(h:Gd s g X W k z)(f:Fx s g X)(H:W<=1000000):c7 z=0:=
  vj (by rw[h.sh];exact f.hs) h.gk (h.on_ok f) h.tl h.tf Du (by rw[h.st];omega)
theorem Gd.len(h:Gd s g X W k z)(f:Fx s g X):g.toNat<z.A2.length/\(z.A2.getD g.toNat []).length=s.Data.toNat+s.Af.toNat/\∀d,d<s.Data.toNat+s.Af.toNat->(dH z g.toNat d).Ai.length=s.Rows.toNat:=by
  have S:=bm f.hs
  have j:=bH.1 f.hg
  obtain⟨H,a⟩:=fI h.gk
  rw[h.sh] at H
  obtain⟨b,c⟩:=a g.toNat ω
  rw[h.sh] at b
  refine⟨ω,ω,λd i=>?_⟩
  have e:=(c d ω).1
  rw[h.sh] at e
  unfold dH
  omega
theorem Gd.dead(h:Gd s g X W k z)(H:(k:Int)<=s.Af):dP z g=false:=by
  unfold dP
  have:=h.wp
  rw[h.sh]
  exact a8 ω
theorem Gd.rowX(h:Gd s g X W k z)(f:Fx s g X)(j:(k:Int)<=s.Af){i:Nat}(b:i<s.Rows.toNat):pI z g i=X i:=by
  have S:=bm f.hs
  obtain⟨c,H,e⟩:=h.len f
  unfold pI mW
  rw[h.sh]
  exact L0 ω ω H (λd a w=>h.gd d a w i b) (f.hx i) (by have:=h.wp;unfold re at this;omega)
theorem Gd.holds(h:Gd s g X W k z)(f:Fx s g X)(j:W<=1000000)(b:(k:Int)<=s.Af):QD z g=true:=by
  obtain⟨m,e,n⟩:=h.len f
  unfold QD
  rw[aU (h.world f j),h.sh,f.all,KB (h.dead b) λi a d H=>?_];rfl
  rw[h.sh] at a
  rw[e] at H
  unfold T9 S5
  rw[h.sh,h.rowX f b a,Ho H]
  by_cases c:((z.A2.getD g.toNat []).getD d à).Au=ã
  · rw[c];rfl
  · have l:(((z.A2.getD g.toNat []).getD d à).Ai.getD i à).Bytes=encK (X i) s.Data.toNat d:=h.gd d H (ŉ.2 c) i a
    rw[aU l];simp
theorem Gd.none(h:Gd s g X W 0 z):(LQ z g).Lst=[]:=by
  unfold LQ
  split
  · rfl
  · exact í (by have:=h.wp;show(re z g).length=0;omega)
theorem DN{g j:Nat}{D:Drive}(h:b7 z=ã)(d:g<z.A2.length)(c:fK z.A0 D=ã)(S:y.A0=z.A0)(G:y.A2=z.A2.set g ((z.A2.getD g []).set j D)):b7 y=true:=by
  simp only[b7,aP,ab] at h
  have H:=nH h.2
  have b:=BF (i:=j) (H g d) c
  unfold b7
  rw[S,G,aU wW]
  refine Ce λk a=>?_
  rw[bE] at a
  rw[d8]
  split
  · exact b
  · exact H k a
end
section
variable {n k:Nat}{a:List UInt8}
theorem PP{l:Nat}(h:l+4<=m):cut (å m (0:UInt8)) l (l+4)=å 4 0:=by
  unfold cut
  rw[List.drop_replicate,List.take_replicate]
  congr 1;omega
theorem Kf{c:UInt8}:cK (å 4 0) c=å 4 0:=by
  unfold cK
  rw[List.map_replicate,jI]
theorem IY:∀k,k<=n->mixTo (chunks (å (n*4) 0) 4 n) a 4 k=å 4 0
  | 0,_=>rfl
  | k+1,h=>by
    rw[mixTo,IY k ω,m8 ω,PP (by have:=uI (i:=k) (n:=n*4) rfl ω;omega),Kf];rfl
theorem Pr{d:Int}:encK (å (n*4) 0) n d=å 4 0:=by
  unfold encK
  rw[fJ]
  exact IY n (aN _)
end
section
variable {s:A0}{g row:Int}{z z0:Wld}{d:List Rec}{r:Rec}
theorem EJ(h:∀r∈d,recF s r=0):∀k,k<=d.length->ij s d k=0
  | 0,_=>rfl
  | k+1,H=>by
    rw[kG (EJ h k ω),bX ω]
    exact h _ (bx _)
theorem EB(h:z.A3=[⟨â,d⟩,⟨â,d⟩])(l:d.length<=200)(c:∀r∈d,recF z.A0 r=0):il z=0:=by
  have H:z.A3.any fT=false:=by
    rw[h]
    have e:fT ⟨â,d⟩=false:=a8 (by show ¬ _<(d.length:Int);omega)
    simp[e]
  have a:gV z.A0 z.A3 z.A3.length=0:=by
    rw[h]
    have e:=EJ c d.length (aN _)
    show(if(if _≠0 then 0 else ij z.A0 d d.length)≠0 then _ else ij z.A0 d d.length)=0
    rw[e];rfl
  have b:z.A3.any fa=false:=by rw[h];simp[fa]
  unfold il
  rw[H,a,b];rfl
theorem R5(H:z.A3=[⟨â,d⟩,⟨â,d⟩])(h:z.Stop = -1)(l:d.length<200):
    mg z r=0/\layZ z r={z with A3:=[⟨â,d++[r]⟩,⟨â,d++[r]⟩],Aa:=z.Aa+1+1}:=by
  have e:gc 0 r z={z with A3:=[⟨â,d++[r]⟩,⟨â,d⟩],Aa:=z.Aa+1}:=by
    unfold gc
    rw[eW (iE h)]
    unfold layT kR
    rw[H];rfl
  have f:dI z=false:=by
    unfold dI
    rw[H,bz]
    exact⟨a8 (by show ¬ _<(d.length:Int)+1;omega),a8 (by show ¬ _<(d.length:Int)+1;omega)⟩
  have k:jL z r=true:=by
    unfold jL
    rw[iE h,iE (Fi.trans h)];rfl
  obtain⟨a,b⟩:=fM f
  refine⟨by rw[a,ae k],?_⟩
  rw[b]
  unfold lj
  rw[ac (by rw[iE h];simp),e]
  unfold gc
  rw[eW (by exact iE h)]
  rfl
theorem Ct(a:s.ok=ã)(S:z.A0=s)(H:z.A2=å (s.A2+s.A5).toNat (sQ s)):b7 z=true:=by
  have d:=bm a
  unfold b7
  rw[H,S,aU wR]
  refine jn λi h=>?_
  rw[bX h,ć]
  unfold iK sQ
  rw[aU wR]
  refine jn λi h=>?_
  rw[bX h,ć]
  unfold fK freshD
  rw[aU wR]
  refine jn λi h=>?_
  rw[bX h,ć]
  rfl
theorem EP(H:s.ok=ã):c7 (eM s)=0:=by
  have S:=bm H
  refine vj H (Ct H rfl rfl) ?_ rfl (EB rfl σ (λr h=>by cases h)) (by show 0<=(0:Int)/\(0:Int)<=1000000000;omega) (by show -1<=(-1:Int)/\(-1:Int)<=1000000000;omega)
  unfold rm eM
  rw[aU (show _ by simp;omega)]
  rfl
end
def Ud (d:Desk):List Ticket:=d.Queues.flatten++d.Aside
section
variable {s:A0}{d:Desk}{id:Int}
theorem PH:(Ud d).length=d.Queues.flatten.length+d.Aside.length:=by unfold Ud;rw[aO]
theorem JY{a:Type}[Inhabited a]{X:List a}{x:a}(h:x∈X):∃i,i<X.length/\X.getD i à=x:=by
  obtain⟨i,H,e⟩:=List.mem_iff_getElem.1 h
  exact⟨i,H,by rw[bX H];exact e⟩
end
section
variable {α:Type}[Inhabited α] {p:α->Bool}{vs ws:List α}{i j:Nat}
omit [Inhabited α] in
omit [Inhabited α] in
end
structure Desk.few (d:Desk):Prop where
  qn:d.Queues.length<=10
  ql:∀q∈d.Queues,q.length<=50
  al:d.Aside.length<=100
  nl:d.Answers.length<=400
  bl:∀a∈d.Answers,a.Bytes.length<=1000
  nx : -1000<=d.Next/\d.Next<=2000000000
  tn : -1000<=d.Turn/\d.Turn<=2000000000
section
variable {s:A0}{d:Desk}{id:Int}
theorem Cw{a:Type}:∀ {qs:List (List a)},(∀q∈qs,q.length<=m)->qs.flatten.length<=qs.length*m
  | [],_=>by simp
  | q::qs,h=>by
    have b:=h q (ď ..)
    have c:=Cw (qs:=qs) λr H=>h r (Đ _ H)
    simp only[List.flatten_cons,aO,aR,b8,ľ]
    omega
theorem Desk.few.all(h:d.few):(Ud d).length<=600:=by
  have H:=Cw h.ql
  have a:=h.al
  have b:=h.qn
  rw[PH]
  omega
end
instance:Flat Int:=⟨λh=>by
  obtain⟨e1,e2,ok⟩:=gj h
  subst e1
  exact⟨e2,λ_ _=>⟨rfl,rfl,ok⟩⟩⟩
structure MK (z0:Wld) (g N R row:Nat) (q:Int) (E:Nat->List UInt8) (i:Nat) (z:Wld):Prop where
  sh:z.A0=z0.A0
  st:z.Stop = -1
  on:z.On=z0.On
  dn:z.Down=z0.Down
  wl:z0.Aa<=z.Aa
  gn:g<z.A2.length
  gl:(z.A2.getD g []).length=N
  wp:∀d,d<N->(dH z g d).Au=â
  bn:∀d,d<N->(dH z g d).Ai.length=R
  ot:∀d,d<N->∀j,j<R->(j≠row\/i<=d)->ig z g d j=ig z0 g d j
  up:∀d,d<N->d<i->ig z g d row=⟨q,E d⟩
  el:∀j,j≠g->z.A2.getD j []=z0.A2.getD j []
  tp:z.A3=z0.A3
section
variable {k:Wld}{g o:Int}{N R:Nat}{E:Nat->List UInt8}{r:Rec}{a:List (List UInt8)}
theorem Ia(s:r.Row.toNat<R)(v:∀d,d<N->(ig k g.toNat d r.Row.toNat).Stamp<r.Seq)(t:∀(z:Wld) (d:Nat),z.A0=k.A0->d<N->ig z g.toNat d r.Row.toNat=ig k g.toNat d r.Row.toNat->gE z g d r (a.getD d [])=E d):
    ∀(n i:Nat) (z:Wld),i+n=N->MK k g.toNat N R r.Row.toNat r.Seq E i z->(redoI a g r n i z).1=ã/\MK k g.toNat N R r.Row.toNat r.Seq E N (redoI a g r n i z).2
  | 0,i,z,A,h=>⟨rfl,by
      obtain rfl:i=N:=by omega
      exact h⟩
  | n+1,i,z,A,h=>by
    have l:i<N:=by omega
    have C:iM z g.toNat i r=false:=by
      unfold iM
      rw[h.wp i l,h.ot i l _ s (.inr (aN _)),a8 (by have:=v i l;omega)];rfl
    rw[redoI,ac (by rw[C];simp),ac (by rw[iE h.st];simp)]
    obtain⟨w,x,B⟩:=iD h.gn (by rw[h.gl];exact l)
    have y:=uP (g:=g.toNat) (i:=i) (d:=r.Row.toNat) (b:=⟨r.Seq,gE z g i r (a.getD i [])⟩) (iE h.st)
    have p:=L7 (b:=⟨r.Seq,gE z g i r (a.getD i [])⟩) (r:=r.Row.toNat) h.st h.gn (by rw[h.gl];exact l)
    refine Ia s v t n (i+1) _ ω ⟨by rw[y];exact h.sh,by rw[y];exact h.st,by rw[y];exact h.on,by rw[y];exact h.dn,by rw[y];show k.Aa<=z.Aa+1;have:=h.wl;omega,by rw[w];exact h.gn,by rw[x];exact h.gl,λd H=>?_,λd H=>?_,λd H j m f=>?_,λd H D=>?_,λj m=>?_,by rw[y];exact h.tp⟩
    · by_cases e:d=i
      · subst e;rw[p];exact h.wp d H
      · rw[B d e];exact h.wp d H
    · by_cases e:d=i
      · subst e;rw[p]
        rw[bE];exact h.bn d H
      · rw[B d e];exact h.bn d H
    · by_cases e:d=i
      · subst e
        have u:j≠r.Row.toNat:=by
          rcases f with f|f
          · exact f
          · omega
        have c:=h.ot d H j m (.inl u)
        unfold ig at c ⊢
        rw[p]
        rw[d8,ac (λq=>u q.1)];exact c
      · have c:=h.ot d H j m (by rcases f with f|f;exact .inl f;exact .inr ω)
        unfold ig at c ⊢
        rw[B d e];exact c
    · by_cases e:d=i
      · subst e
        unfold ig
        rw[p]
        rw[d8,ae ⟨rfl,by rw[h.bn d H];exact s⟩,t z d h.sh H (h.ot d H _ s (.inr (aN _)))]
      · have c:=h.up d H ω
        unfold ig at c ⊢
        rw[B d e];exact c
    · rw[y]
      show(z.A2.set g.toNat _).getD j []=_
      rw[d8,ac (λq=>m q.1)];exact h.el j m
end
def Oo (s:A0) (o:List Int):Prop:=o=[]\/∃h,o=[h]/\ins h 0 (s.A2+s.A5-1)=ã
structure Rs (s:A0) (rs:List Rec):Prop where
  len:rs.length<=20
  ok:∀r∈rs,recF s r=0/\r.few
structure Cg (s:A0) (o:List Int) (X:Nat->Nat->List UInt8) (q:Nat->Int) (W:Int) (K:Nat->Nat->Prop) (rs:List Rec) (z:Wld):Prop where
  sh:z.A0=s
  gk:b7 z=ã
  on:z.On=o
  st:z.Stop = -1
  dn:z.Down=â
  wr:0<=z.Aa/\z.Aa<=W
  tp:z.A3=[⟨â,rs⟩,⟨â,rs⟩]
  wp:∀h d,h<(s.A2+s.A5).toNat->d<s.Data.toNat+s.Af.toNat->((dH z h d).Au=ã↔K h d)
  bl:∀h d,h<(s.A2+s.A5).toNat->d<s.Data.toNat+s.Af.toNat->¬ K h d->∀i,i<s.Rows.toNat->(ig z h d i).Bytes=encK (X h i) s.Data.toNat d/\(ig z h d i).Stamp<=q h
section
variable {s:A0}{o:List Int}{X:Nat->Nat->List UInt8}{q:Nat->Int}{W a:Int}{K:Nat->Nat->Prop}{i:List Rec}{z:Wld}{r:Rec}
theorem Cg.on_ok(h:Cg s o X q W K i z)(b:s.ok=ã)(a:Oo s o):rm z=true:=by
  have S:=bm b
  unfold rm
  rw[h.on,h.sh,h.dn]
  rcases a with e|⟨g,e,H⟩
  · subst e
    rw[aU (show _ by simp;omega)];rfl
  · subst e
    rw[zl H,aU (show _<=s.Cap by simp;omega)];simp
theorem Cg.world(h:Cg s o X q W K i z)(a:s.ok=ã)(b:Oo s o)(H:Rs s i)(d:W<=1000000):c7 z=0:=
  vj (by rw[h.sh];exact a) h.gk (h.on_ok a b) (by rw[h.tp];rfl) (EB h.tp (by have:=H.len;omega) λr c=>by rw[h.sh];exact(H.ok r c).1) Du (by rw[h.st];omega)
theorem Cg.up(h:Cg s o X q W K i z)(b:s.ok=ã)(a:Oo s o)(r:Rs s i)(H:W<=1000000):upF z=0:=by
  unfold upF
  rw[ac (by rw[h.world b a r H];simp),ac (by rw[h.dn];simp)]
theorem Cg.ok(h:Cg s o X q W K i z)(H:s.ok=ã)(b:W<=1000000):z.Ok:=by
  have a:=h.wr
  exact⟨by rw[h.sh];exact jA H,gQ,by rw[h.st];unfold Ak;omega⟩
theorem Cg.sz(h:Cg s o X q W K i z)(d:s.ok=ã)(b:Oo s o)(H:Rs s i):fY z<=200000:=by
  refine In (Dp (by rw[h.sh];exact d) h.gk) ?_ (by rw[h.tp];simp) λt a=>?_
  · rw[h.on];rcases b with e|⟨g,e,_⟩<;>subst e<;>simp
  · have e:t=⟨â,i⟩:=by rw[h.tp] at a;simpa using a
    subst e
    exact⟨by have:=H.len;show i.length<=500;omega,λq c=>(H.ok q c).2⟩
theorem Cg.len(h:Cg s o X q W K i z)(f:s.ok=ã){g:Nat}(k:g<(s.A2+s.A5).toNat):g<z.A2.length/\(z.A2.getD g []).length=s.Data.toNat+s.Af.toNat/\∀d,d<s.Data.toNat+s.Af.toNat->(dH z g d).Ai.length=s.Rows.toNat:=by
  have S:=bm f
  obtain⟨H,a⟩:=fI h.gk
  rw[h.sh] at H
  obtain⟨b,c⟩:=a g ω
  rw[h.sh] at b
  refine⟨ω,ω,λd j=>?_⟩
  have e:=(c d ω).1
  rw[h.sh] at e
  unfold dH
  omega
theorem Cg.turnOn(h:Cg s [] X q W K i z)(H:s.ok=ã)(r:Rs s i)(b:W<=1000000)(c:ins a 0 (s.A2+s.A5-1)=ã):(dZ z a).Code=0/\Cg s [a] X q W K i (dZ z a).Wd:=by
  have S:=bm H
  have e:=zL (h.up H (.inl rfl) r b) (by rw[h.sh];exact c) (by rw[h.on];simp) (by rw[h.on,h.sh];simp;omega)
  rw[e]
  exact⟨rfl,h.sh,h.gk,by show z.On++[a]=[a];rw[h.on];rfl,h.st,h.dn,h.wr,h.tp,h.wp,h.bl⟩
end
def NR (X:Nat->Nat->List UInt8) (a j:Nat) (v:List UInt8):Nat->Nat->List UInt8:=λh i=>if h=a/\i=j then v else X h i
def Kb (q:Nat->Int) (a:Nat) (v:Int):Nat->Int:=λh=>if h=a then v else q h
def RN (s:A0) (a:Int) (r:Rec) (X:Nat->Nat->List UInt8):List UInt8:=if a<s.A2 then r.Data else eH (cK r.Ad (cauchy (8+(a-s.A2)) r.Group)) (X a.toNat r.Row.toNat)
section
variable {s:A0}{o:List Int}{X:Nat->Nat->List UInt8}{q:Nat->Int}{W a d:Int}{K:Nat->Nat->Prop}{g:List Rec}{z:Wld}{r:Rec}
theorem I5{g n m:Int}(h:ins g 0 (n+m-1)=ã):ins g 0 (n-1)=decide (g<n):=by
  have:=bH.1 h
  by_cases c:g<n
  · rw[aU c];exact bH.2 ω
  · rw[a8 c]
    exact ŉ.2 λq=>by have:=bH.1 q;omega
theorem Cg.redo(h:Cg s [a] X q W K g z)(f:s.ok=ã)(I:Rs s g)(hW:W<=100000)(b:ins a 0 (s.A2+s.A5-1)=ã)(t:recF s r=0)(p:r.Kind=2)(hq:q a.toNat<r.Seq)(k:∀d,¬ K a.toNat d)(F:a<s.A2->r.Group=a):
    (Hr z a r).Code=0/\Cg s [a] (NR X a.toNat r.Row.toNat (RN s a r X)) (Kb q a.toNat r.Seq) (W+5) K g (Hr z a r).Wd:=by
  have d_:=bm f
  have a_:=bH.1 b
  have L:a.toNat<(s.A2+s.A5).toNat:=by omega
  obtain⟨Q,S,w⟩:=h.len f L
  have J:=h.up f (.inr ⟨a,rfl,b⟩) I ω
  have M:wS z a 0=0:=by rw[HM J];exact vn (by rw[h.sh];exact b) (by rw[h.on];simp)
  have D:vC z a r=false:=by
    unfold vC
    rw[h.sh,a8 (by rw[t];simp),a8 (by rw[p];simp),I5 b]
    by_cases c:a<s.A2
    · rw[a8 (show ¬ r.Group≠a from λe=>e (F c))];simp
    · rw[a8 c];rfl
  have u:ins a 0 (z.A0.A2+z.A0.A5-1)=true:=by rw[h.sh];exact b
  obtain⟨m1,m2,T,m4,m5,m6⟩:=lE (by rw[h.sh];exact f) h.gk u (by rw[h.sh];exact t) p
  obtain⟨U,V,Y,p4⟩:=uz (by rw[h.sh];exact f) h.gk u (by rw[h.sh];exact t) p
  have N:lX z=s.Data.toNat+s.Af.toNat:=by unfold lX;rw[h.sh]
  have R:r.Row.toNat<s.Rows.toNat:=by
    have:=(T 0 ω).1
    rw[w 0 ω] at this;exact this
  have G:=λd H=>ŉ.2 λe=>k d ((h.wp _ d L H).1 e)
  have B:∀(y:Wld) (d:Nat),y.A0=z.A0->d<s.Data.toNat+s.Af.toNat->ig y a.toNat d r.Row.toNat=ig z a.toNat d r.Row.toNat->gE y a d r ((ud z a r).getD d [])=encK (RN s a r X) s.Data.toNat d:=λy d O H C=>by
    unfold gE ud RN
    rw[O,h.sh,I5 b]
    by_cases c:a<s.A2
    · rw[aU c,ae rfl,ae c]
      unfold fl;rw[h.sh];exact Ho H
    · rw[a8 c,ac σ,ac σ,ac c]
      unfold addedL
      rw[h.sh,Ho H,C,(h.bl _ d L H (k d) _ R).1,P3]
  obtain⟨A,m⟩:=Ia R
    (λd H=>by have:=(h.bl _ d L H (k d) _ R).2;omega) B (s.Data.toNat+s.Af.toNat) 0 z ω
    ⟨rfl,h.st,rfl,rfl,ĩ _,Q,S,G,w,λ_ _ _ _ _=>rfl,λd _ h=>absurd h ω,λ_ _=>rfl,rfl⟩
  have P:redoI (ud z a r) a r (s.Data.toNat+s.Af.toNat) 0 z=redoP z a r:=by unfold redoP;rw[N]
  rw[P] at A m
  have x:Hr z a r=⟨0,(redoP z a r).2⟩:=by rw[HG M D,A];rfl
  have c_:=h.wr
  have b_:=m.wl
  rw[x]
  refine⟨rfl,U.trans h.sh,V,m.on.trans h.on,m.st,m.dn.trans h.dn,⟨θ,θ⟩,Y.trans h.tp,λj d l H=>?_,λj d l H v i o=>?_⟩
  · by_cases e:j=a.toNat
    · subst e
      rw[m.wp d H]
      exact⟨λq=>(by cases q),λq=>absurd q (k d)⟩
    · have E:dH (redoP z a r).2 j d=dH z j d:=by unfold dH;rw[m.el j e]
      rw[E];exact h.wp j d l H
  · by_cases e:j=a.toNat
    · subst e
      by_cases n:i=r.Row.toNat
      · subst n
        rw[m.up d H H]
        unfold NR Kb
        rw[ae ⟨rfl,rfl⟩,ae rfl]
        exact⟨rfl,ĩ _⟩
      · rw[m.ot d H i o (.inl n)]
        unfold NR Kb
        rw[ac (λq=>n q.2)]
        have:=h.bl _ d l H v i o
        exact⟨this.1,ω⟩
    · have E:ig (redoP z a r).2 j d i=ig z j d i:=by unfold ig dH;rw[m.el j e]
      rw[E]
      unfold NR Kb
      rw[ac (λq=>e q.1),ac e]
      exact h.bl j d l H v i o
end
structure Ds (g row:Int) (rs:List Rec):Prop where
  kd:∀j,j<rs.length->(rs.getD j à).Kind=4/\(rs.getD j à).Group=g/\(rs.getD j à).Row=row/\(rs.getD j à).Seq=(j:Int)+1
section
variable {g d g' row':Int}{a:List Rec}{z:Wld}{r:Rec}
theorem Ds.mem(h:Ds g d a)(b:r∈a):r.Kind=4/\r.Group=g/\r.Row=d/\1<=r.Seq/\r.Seq<=a.length:=by
  obtain⟨j,H,e⟩:=JY b
  have:=h.kd j H
  rw[e] at this
  exact⟨this.1,this.2.1,this.2.2.1,ω,ω⟩
theorem Mn:∀ {a:List Rec}{k:Int},(∀j,j<a.length->(a.getD j à).Seq=(j:Int)+k)->Ord kLt eQ a
  | [],_,_ => .nil
  | x::xs,k,h=>by
    refine .cons (λy c l=>?_) (Mn (k:=k+1) λj hj=>by
      have:=h (j+1) sD
      rw[ę] at this
      omega)
    have H:=h 0 σ
    obtain⟨j,hj,e⟩:=JY c
    have b:=h (j+1) sD
    rw[ę,e] at b
    rw[ŭ] at H
    unfold kLt eQ at l
    omega
theorem EC:∀ {a:List Rec}{k:Int},(∀j,j<a.length->(a.getD j à).Seq=(j:Int)+k)->a.Nodup
  | [],_,_ => .nil
  | x :: xs,k,h=>ù.2 ⟨λm=>by
      have H:=h 0 σ
      obtain⟨j,hj,e⟩:=JY m
      have b:=h (j+1) sD
      rw[ę,e] at b
      rw[ŭ] at H
      omega,EC (k:=k+1) λj hj=>by
      have:=h (j+1) sD
      rw[ę] at this
      omega⟩
theorem Ds.cnt(h:Ds g d a)(t:z.A3=[⟨â,a⟩,⟨â,a⟩]):cI z=a:=by
  have H:=λj b=>(h.kd j b).2.2.2
  have n:=EC H
  have e:allR z z.A3.length=a++a:=by
    rw[CO (by rw[t];rfl),t];rfl
  have E:dds (a++a)=a:=by
    rw[LK,Df rfl n,List.filter_eq_nil_iff.2 (λr c=>by simp[c]),Į]
  unfold cI
  rw[e,E]
  exact(Gm ⟨Mn H,fw.refl⟩).symm
theorem KF{p:Rec->Bool}:∀n,0<n->(∀j,j<n->p (a.getD j à)=ã)->jC p a n=(n:Int)-1
  | n+1,_,h=>by rw[sx (h n ω)];omega
theorem Ds.open(h:Ds g d a)(H:z.A3=[⟨â,a⟩,⟨â,a⟩])(b:0<a.length):opR z g d=a.getD (a.length-1) à/\qZ z g d=true:=by
  have e:mB z g d=((a.length-1:Nat):Int):=by
    unfold mB jz
    rw[h.cnt H,KF _ b λj c=>by
      have:=h.kd j c
      unfold shP
      rw[this.1,this.2.1,this.2.2.1];simp]
    omega
  have E:opR z g d=a.getD (a.length-1) default:=by rw[TM e,h.cnt H]
  refine⟨E,?_⟩
  unfold qZ
  rw[E,h.cnt H,aU ω,Þ,als_Bool_not_eq_true_,ē]
  intro x f
  have m:=h.mem f
  have l:=(h.kd (a.length-1) ω).2.2.2
  unfold spS
  rw[m.1,a8 (show ¬ (a.getD _ à).Seq<x.Seq by omega)]
  simp
end
def KD (g:Int) (h _:Nat):Prop:=h=g.toNat
section
variable {s:A0}{o:List Int}{X:Nat->Nat->List UInt8}{q:Nat->Int}{W g a row:Int}{K:Nat->Nat->Prop}{rs:List Rec}{z:Wld}{r:Rec}
theorem Cg.lay(h:Cg s o X q W K rs z)(H:rs.length<200):mg z r=0/\Cg s o X q (W+2) K (rs++[r]) (layZ z r):=by
  obtain⟨a,b⟩:=R5 h.tp h.st H
  refine⟨a,?_⟩
  rw[b]
  have w:=h.wr
  exact⟨h.sh,(jv rfl rfl).trans h.gk,h.on,h.st,h.dn,⟨θ,θ⟩,rfl,h.wp,h.bl⟩
theorem Cg.rowX(h:Cg s o X q W K rs z)(c:s.ok=ã){j i:Nat}(a:j<(s.A2+s.A5).toNat)(b:∀d,¬ K j d)(g:i<s.Rows.toNat)(f:(X j i).length=s.Data.toNat*4):pI z j i=X j i:=by
  have S:=bm c
  obtain⟨L,l,k⟩:=h.len c a
  unfold pI mW
  rw[h.sh]
  refine L0 ω ω l (λd H w=>(h.bl j d a H (b d) i g).1) f ?_
  rw[show(_:Int).toNat=j from rfl,l,t8 _ λd H=>ŉ.2 λe=>b d ((h.wp j d a H).1 e)]
  exact ý _
def T6 (X:Nat->Nat->List UInt8) (r:Nat) (a:List UInt8) (m:Nat):Nat->List UInt8
  | 0=>å m 0
  | k+1=>if(a.getD k 0).toNat=0 then T6 X r a m k else eH (T6 X r a m k) (cK (X k r) (a.getD k 0))
structure Sg (s:A0) (o:List Int) (X:Nat->Nat->List UInt8) (q:Nat->Int) (W:Int) (g row:Int) (δ:List UInt8) (k:Nat) (z:Wld) (rs:List Rec):Prop where
  cg:Cg s o X q W (KD g) rs z
  ds:Ds g row rs
  rk:Rs s rs
  ln:0<rs.length/\rs.length<=k+1
  dl:(rs.getD (rs.length-1) à).Ad=δ
  dt:(rs.getD (rs.length-1) à).Data=T6 X row.toNat δ (s.Data.toNat*4) k
  rl:(rs.getD (rs.length-1) à).Rows.length<=k
  rx:∀x:Int,x∈(rs.getD (rs.length-1) à).Rows↔0<=x/\x<k/\(δ.getD x.toNat 0).toNat≠0
end
section
variable {s:A0}{o:List Int}{X u:Nat->Nat->List UInt8}{q v:Nat->Int}{W t g a row:Int}{K r:Nat->Nat->Prop}{w:List Rec}{z:Wld}{δ:List UInt8}{k n:Nat}{L:List (List UInt8)}
theorem Cg.conv(h:Cg s o X q W K w z)(k:∀h i,h<(s.A2+s.A5).toNat->i<s.Rows.toNat->u h i=X h i)(l:∀h,h<(s.A2+s.A5).toNat->q h<=v h)(m:W<=t)(f:∀h d,h<(s.A2+s.A5).toNat->d<s.Data.toNat+s.Af.toNat->(K h d↔r h d)):Cg s o u v t r w z:=by
  have p:=h.wr
  refine⟨h.sh,h.gk,h.on,h.st,h.dn,ω,h.tp,λj d H c=>(h.wp j d H c).trans (f j d H c),λj d H c n i g=>?_⟩
  obtain⟨a,b⟩:=h.bl j d H c (λe=>n ((f j d H c).1 e)) i g
  rw[k j i H g]
  exact⟨a,Int.le_trans b (l j H)⟩
end
def noK (_ _:Nat):Prop:=False
section
variable {s:A0}{row g0 d:Int}{L:List (List UInt8)}{g hi k:Nat}{z:Wld}{x:List UInt8}{X:Nat->Nat->List UInt8}{q:Nat->Int}{W:Int}{rs:List Rec}
theorem IQ(a:s.ok=ã){h d:Nat}(H:h<(s.A2+s.A5).toNat)(b:d<s.Data.toNat+s.Af.toNat):dH (eM s) h d=freshD s:=by
  have S:=bm a
  unfold dH eM
  dsimp only
  rw[bX (l:=å (s.A2+s.A5).toNat (sQ s)) (by rw[aZ];exact H),ć]
  unfold sQ
  rw[bX wR,ć]
end
section
variable {p q:Rec->Bool}{xs:List Rec}{z z0:Wld}{r:Rec}{s:A0}{kd sq:Int}
theorem EQ{R:List Rec}:r∈wv p R↔r∈R/\p r=false:=by unfold wv;rw[Ģ];simp
end
section
variable {z:Wld}{p:Rec->Bool}{r:Rec}{g:Int}
theorem yr(h:il z=0):z.A3.any fT=â/\z.A3.any fa=false:=by
  unfold il at h
  cases c:z.A3.any fT
  · rw[c,ac σ] at h
    refine⟨rfl,?_⟩
    split at h
    · next q=>exact absurd h q
    · cases d:z.A3.any fa
      · rfl
      · rw[d,ae rfl] at h;cases h
  · rw[c,ae rfl] at h;cases h
end
section
variable {d g:List Rec}{r:Rec}{k a:Nat}{z:Wld}
theorem o5(a:k<d.length)(h:(d.getD k à).Kind=1)(b:¬ (d.getD k à).Length<0)(H:jz (itP (d.getD k à).Name) d=k):lV d k=true:=by
  unfold lV
  rw[JA a (qx.2 ⟨h,rfl⟩),aU h,aU (show(d.getD k à).Length ≠ -1 by omega),aU H]
  rfl
theorem w7(h:(d.getD k à).Kind≠1):lV d k=false:=by unfold lV;rw[a8 h];rfl
theorem Nw(l:(d.getD k à).Kind=1 -> -1<=(d.getD k à).Length)(H:(d.getD k à).Length<0):lV d k=false:=by
  by_cases h:(d.getD k à).Kind=1
  · unfold lV
    rw[a8 (show ¬ (d.getD k à).Length ≠ -1 by omega)]
    simp
  · exact w7 h
theorem M6(a:k<d.length)(H:jz (itP (d.getD k à).Name) d≠k):lV d k=false:=by
  by_cases h:(d.getD k à).Kind=1
  · unfold lV
    rw[JA a (qx.2 ⟨h,rfl⟩),a8 H]
    simp
  · exact w7 h
theorem E4(h:lV d k=ã):l7 d (k+1)=l7 d k++[d.getD k à]:=by rw[l7,ae h]
theorem Dm(h:lV d k=â):l7 d (k+1)=l7 d k:=by rw[l7,ac gX]
theorem RM(h:∀i,a<=i->i<g.length->nLt (eI r) (eI (g.getD i à))):∀y∈g.drop a,nLt (eI r) (eI y):=λy b=>by
  obtain⟨i,H,e⟩:=ð b
  rw[bZ] at H
  rw[List.getElem_drop] at e
  have:=h (a+i) ω ω
  rw[bX ω,e] at this
  exact this
theorem Nk(h:Ord nLt eI g){i j:Nat}(d:i<j)(H:j<g.length):¬ nLt (eI (g.getD j à)) (eI (g.getD i à)):=by
  induction g generalizing i j with
  | nil=>simp at H
  | cons x l I=>
    cases h with
    | cons b c=>
      cases j with
      | zero=>omega
      | succ j=>
        have a:j<l.length:=by simpa using H
        cases i with
        | zero=>
          show ¬ nLt (eI (l.getD j à)) _
          rw[bX a]
          exact b _ (bx _)
        | succ i=>exact I c ω a
theorem RB(o:Ord nLt eI g)(f:a<=g.length)(h:a=0\/¬ nLt (eI r) (eI (g.getD (a-1) à))):∀y∈g.take a,¬ nLt (eI r) (eI y):=λy d t=>by
  obtain⟨i,b,e⟩:=ð d
  rw[aY] at b
  rw[List.getElem_take] at e
  rcases h with h|h
  · omega
  · have E:g.getD i à=y:=by rw[bX ω,e]
    by_cases c:i=a-1
    · subst c;rw[E] at h;exact h t
    · have H:=Nk o (show i<a-1 by omega) ω
      rw[E] at H
      rcases CN.tot _ _ with q|q|q
      · exact h q
      · rw[<- q] at H;exact H t
      · exact H (CN.tr _ _ _ q t)
theorem IT(h:Stable nLt eI d g)(b:a<=g.length)(H:a=0\/¬ nLt (eI r) (eI (g.getD (a-1) à)))(B:∀i,a<=i->i<g.length->nLt (eI r) (eI (g.getD i à))):
    Stable nLt eI (d++[r]) (g.take a++r::g.drop a):=
  lf CN G9 (RM B) (RB h.1 b H)
theorem MF:Stable nLt eI (l7 d 0) []:=⟨.nil,.refl⟩
theorem Sw{s:A0}(h:recF s r=0)(H:r.Kind=1): -1<=r.Length:=by
  unfold recF fm at h
  rw[ae H] at h
  by_cases c:r.Length = -1
  · omega
  · by_cases q:r.Length<1
    · exfalso
      have i:fZ s r=false:=by unfold fZ dL;rw[ac c,ae q];rfl
      have A:(if bU r.Name≠0 then bU r.Name else if fZ s r=ã then 0 else 3)≠(0:Int):=by
        by_cases n:bU r.Name=0
        · rw[ac (by simp[n]),i];simp
        · rw[ae n];exact n
      split at h
      · split at h
        · exact A h
        · omega
      · omega
    · omega
theorem Eb(w:c7 z=0)(H:r∈cI z)(h:r.Kind=1): -1<=r.Length:=Sw (pT w H) h
end
theorem rH{b:ByteArray}(h:bU b=0):b.size<=8:=by
  unfold bU at h
  split at h
  · next e=>
    simp only[ow,aP,ab] at e
    omega
  · omega
section
variable {z:Wld}{k:Nat}{r:Rec}
theorem zP(b:fY z<=1048576)(h:r∈bT z):r.Data.length<=1048576:=by
  have H:=JS (pt h)
  have a:r.Data.length<=fH r:=by unfold fH;omega
  omega
theorem BX(h:fY z<=1048576)(l:(bT z).length<=600000)(H:k<=(bT z).length):0<=jm (bT z) k/\jm (bT z) k<=700000000000:=by
  obtain⟨b,c⟩:=Fz (λr a=>zP h a) H
  have d:(k:Int)<=600000:=by omega
  omega
theorem BC{d:Int}(h:d=((bT z).getD k à).Data.length):jm (bT z) k+d=jm (bT z) (k+1):=by rw[jm,h]
end
section
variable {n:Nat}{w:ä}{d:Option Tmp}{g:Option (Nat × Bool)}
theorem Or{t:ì}{x i j:Â}{l c s:Nat}{k K:IntKind}{h m:Int}(y:P.underlying t=á (.slice e))(v:∀w,(sizeOf e).run P w = .ok s w)
    (z:evL L x=á (.slice ad l c)) (r:evL L i=á (.int k h)) (u:evL L j=á (.int K m)) (H M:Nat) (E:h=H) (o:m=M) (A:H<=M) (B:M<=c) :
    Py P n L w ⟨d,.slice t x ç (á i) (á j),ty,p,af,g⟩ (.slice (slA ad 0 M s) (H-0) (M-0)):=λa b=>by
  obtain⟨f,q⟩:=yz y
  have:=run_slice_hm w t ad l c f k K h m ω ω ω
  rw[q,v] at this
  subst E o
  simp[execOp,b.eval z,b.eval r,b.eval u,run_sliceAt_slice w t _ _ _ _ f,this,sliced,slA]
end
theorem wG{w:ä}:∀ {xs:List UInt8}{c f} (i:Nat),dg ã w c xs f->dg ã w c (xs.take i) []/\f=[]
  | [],_,_,i,h=>by rw[List.take_nil];exact⟨rfl,h⟩
  | v::O,c,f,0,⟨g,G,e,⟨a,E⟩,H⟩=>by
    have:=(wG 0 H).2
    exact⟨rfl,by rw[e,E,this];rfl⟩
  | v::O,c,f,i+1,⟨g,G,e,⟨a,E⟩,H⟩=>by
    obtain⟨b,d⟩:=wG i H
    exact⟨⟨[],[],rfl,⟨a,rfl⟩,b⟩,by rw[e,E,d];rfl⟩
theorem N0{w:ä}{n i:Nat}(h:own ã w [.slice A n c] xs I)(s:i<=xs.length)(z:i<=m)(q:m<=c):own ã w [.slice (slA A 0 m 1) (i-0) (m-0)] (xs.take i) I:=by
  rcases h with ⟨r,_⟩|⟨e,rfl,rfl⟩|⟨b,o,u,C,T,f,F,H,g,j,k,v,x,y,l⟩
  · cases r
  · obtain⟨rfl,rfl,rfl⟩:=e
    have E:i=0:=by simpa using s
    have a:m=0:=by omega
    subst E a
    exact .inr (.inl ⟨rfl,rfl,rfl⟩)
  · obtain⟨rfl,rfl,rfl⟩:=H
    have t:(xs.take i).length=i:=by rw[aY];omega
    have d:slA (á (⟨b,o,ç⟩:ô)) 0 m 1=á ⟨b,o,ç⟩:=by unfold slA;split<;>rfl
    obtain⟨p,rfl⟩:=wG i l
    refine .inr (.inr ⟨b,o,m,C,T,f,[],by rw[d,t];rfl,g,j,k,ω,ω,?_,p⟩)
    have:=Å (sz UInt8) q
    omega
theorem Ny{w:ä}{n i:Nat}(h:Res w w' [.slice A n c] xs)(e:i<=xs.length)(f:i<=m)(d:m<=c):Res w w' [.slice (slA A 0 m 1) (i-0) (m-0)] (xs.take i):=by
  obtain⟨I,H,a,b⟩:=h
  exact⟨I,N0 H e f d,a,b⟩
def oz (z:Wld) (g:Int) (rows:List Int):Nat->List UInt8
  | 0=>[]
  | k+1=>oz z g rows k++pI z g (rows.getD k 0)
def RowsIn (z:Wld) (rows:List Int):Prop:=∀i,i<rows.length->ins (rows.getD i 0) 0 (z.A0.Rows-1)=ã
section
variable {z:Wld}{g:Int}{a:List Int}{k:Nat}{r:Rec}{s:A0}
theorem wD(s:z.A0.ok=ã)(h:b7 z=ã)(b:ins g 0 (z.A0.A2+z.A0.A5-1)=ã)(H:dP z g=â)(i:RowsIn z a):∀ {k},k<=a.length->((oz z g a k).length:Int)=k*(z.A0.Data*4)
  | 0,_=>by simp[oz]
  | k+1,e=>by
    have c:=wD s h b H i (k:=k) ω
    have d:=l4 s h b (i k ω) H
    rw[oz,aO,Int.natCast_add,c,d,Int.natCast_add,Int.add_mul]
    simp
theorem R4(a:s.ok=ã):ins (dy s H) 0 (s.A2+s.A5-1)=true:=by
  have S:=bm a
  have h:0<=pN H H.size:=(rF _).1
  have b:dy s H=(pN H H.size) % s.A2:=by unfold dy;rw[Int.tmod_eq_emod_of_nonneg h]
  have c:=Int.emod_nonneg (pN H H.size) (show s.A2≠0 by omega)
  have d:=Int.emod_lt_of_pos (pN H H.size) (show 0<s.A2 by omega)
  exact bH.2 ω
theorem vv(f:recF z.A0 r=0)(c:r.Kind=1)(b:r.Length ≠ -1):dL z.A0 r.Length=0/\(0<r.Data.length->(r.Data.length:Int)=r.Length)/\(¬ 0<r.Data.length->(r.Rows.length:Int)=dd z.A0 r.Length/\RowsIn z r.Rows):=by
  have H:fZ z.A0 r=true:=by
    cases e:fZ z.A0 r with
    | true=>rfl
    | false=>
      exfalso
      have A:(if bU r.Name≠0 then bU r.Name else if fZ z.A0 r=ã then 0 else 3)≠(0:Int):=by
        by_cases n:bU r.Name=0
        · rw[ac (by simp[n]),e];simp
        · rw[ae n];exact n
      unfold recF fm at f
      split at f
      · split at f
        · exact A f
        · omega
      · omega
  unfold fZ at H
  rw[ac b,aP,ab] at H
  refine⟨H.1,λh=>?_,λh=>?_⟩
  · have:=H.2
    rw[ae h,aP,ab] at this
    exact this.1
  · have:=H.2
    rw[ac h,aP,ab] at this
    refine⟨this.1,λi H=>?_⟩
    have a:=nH this.2 i H
    unfold apartAt at a
    rw[aP] at a
    exact a.1
theorem Dr(H:s.ok=ã){l:Int}(h:1<=l):l<=dd s l*(s.Data*4)/\1<=dd s l:=by
  have S:=bm H
  rw[dd,Ċ ω]
  have:s.Data=1\/s.Data=2\/s.Data=3:=by omega
  rcases this with e|e|e<;>rw[e]<;>omega
end
noncomputable def itB (z:Wld) (n:ByteArray):List UInt8:=if 0<(itR z n).Data.length then(itR z n).Data else(oz z (dy z.A0 n) (itR z n).Rows (itR z n).Rows.length).take (itR z n).Length.toNat
noncomputable def itC (z:Wld) (n:ByteArray):Int:=if itO z n=ã then if 0<(itR z n).Data.length then 0 else uY z (dy z.A0 n) else 4
noncomputable def jU (z:Wld) (n:ByteArray):BytesResult:=if upF z=0 then if bU n=0 then if itC z n=0 then⟨0,itB z n⟩ else⟨itC z n,[]⟩ else⟨bU n,[]⟩ else⟨upF z,[]⟩
section
variable {z:Wld}
theorem P5(h:upF z≠0):jU z H=⟨upF z,[]⟩:=ac h
theorem KG(h:upF z=0)(a:bU H≠0):jU z H=⟨bU H,[]⟩:=by rw[jU,ae h,ac a]
theorem ET(h:upF z=0)(a:bU H=0)(b:itC z H≠0):jU z H=⟨itC z H,[]⟩:=by rw[jU,ae h,ae a,ac b]
theorem I3(h:upF z=0)(a:bU H=0)(b:itC z H=0):jU z H=⟨0,itB z H⟩:=by rw[jU,ae h,ae a,ae b]
theorem TL(h:itO z H=â):itC z H=4:=by rw[itC,ac gX]
theorem Jk(h:itO z H=ã)(a:0<(itR z H).Data.length):itC z H=0/\itB z H=(itR z H).Data:=⟨by rw[itC,ae h,ae a],by rw[itB,ae a]⟩
theorem Jc(h:itO z H=ã)(a:¬ 0<(itR z H).Data.length):itC z H=uY z (dy z.A0 H)/\itB z H=(oz z (dy z.A0 H) (itR z H).Rows (itR z H).Rows.length).take (itR z H).Length.toNat:=⟨by rw[itC,ae h,ac a],by rw[itB,ac a]⟩
theorem TH:0<=itC z H/\itC z H<=10:=by
  unfold itC uY jk
  all_goals omega
theorem Nj{g:Int}(a:ins g 0 (z.A0.A2+z.A0.A5-1)=ã)(h:g∈z.On)(H:dP z g=â):uY z g=0:=by
  have e:jk z g=0:=by rw[jk,ae a,ae h]
  rw[uY,ae e,ac (by simp[H])]
end
structure Gw (W:Int) (z:Wld):Prop where
  hs:z.A0.ok=ã
  gk:b7 z=ã
  on:rm z=ã
  tl:z.A3.length=2
  rc:RecsOK z
  rl:∀t∈z.A3,t.Ah.length<=200/\fa t=â
  st:z.Stop = -1
  dn:z.Down=â
  wr:0<=z.Aa/\z.Aa<=W
section
variable {z:Wld}{W V:Int}{r:Rec}{g a:Int}
theorem Kk(a:z.A3.length=2)(R:RecsOK z)(l:∀t∈z.A3,t.Ah.length<=200/\fa t=â):il z=0:=by
  have m:∀k,k<2->z.A3.getD k à∈z.A3:=λk b=>by rw[bX ω];exact bx _
  refine vh ?_ ?_ ?_
  · rw[ē]
    intro t H
    have:=(l t H).1
    unfold fT
    simp;omega
  · rw[a]
    have e:gV z.A0 z.A3 1=0:=by rw[ks rfl];exact AQ (λr h=>R _ (m 0 ω) r h) _ (aN _)
    rw[ks e];exact AQ (λr h=>R _ (m 1 ω) r h) _ (aN _)
  · rw[ē]
    intro t H
    rw[(l t H).2];simp
theorem Gw.world(h:Gw W z)(H:W<=1000000000):c7 z=0:=
  vj h.hs h.gk h.on h.tl (Kk h.tl h.rc h.rl) Du (by rw[h.st];omega)
theorem Gw.of(h:c7 z=0)(f:z.Stop = -1)(g:z.Down=â)(i:z.Aa<=W):Gw W z:=by
  obtain⟨a,b,c,d,e⟩:=c5 h
  obtain⟨p,q⟩:=yr e
  rw[ē] at p q
  refine⟨a,b,c,d,tm h,λt H=>⟨?_,by simpa using q t H⟩,f,g,(kM h).1,i⟩
  have:=p t H
  unfold fT at this
  simp at this;omega
theorem Gw.up(h:Gw W z)(H:W<=1000000000):upF z=0:=by
  unfold upF
  rw[ac (by rw[h.world H];simp),ac (by rw[h.dn];simp)]
theorem Gw.mono(h:Gw W z)(H:W<=V):Gw V z:=⟨h.hs,h.gk,h.on,h.tl,h.rc,h.rl,h.st,h.dn,h.wr.1,Int.le_trans h.wr.2 H⟩
theorem Gw.Ok(h:Gw W z)(a:W<=1000000000):z.Ok:=by
  have H:=h.wr
  exact⟨jA h.hs,gQ,by rw[h.st];unfold Ak;omega⟩
theorem Gw.seq(h:Gw W z):SeqOK z:=h.rc.imp λr H=>by have:=rR H;omega
theorem Gw.setOn(h:Gw W z)(H:ins g 0 (z.A0.A2+z.A0.A5-1)=ã):Gw W {z with On:=[g]}:=by
  have s:=bm h.hs
  refine⟨h.hs,(jv rfl rfl).trans h.gk,?_,h.tl,h.rc,h.rl,h.st,h.dn,h.wr⟩
  unfold rm
  rw[zl H,h.dn,aU (show _<=z.A0.Cap by simp;omega)];simp
theorem Gy(H:z.A3.length=2)(h:z.Stop = -1)(f:dI z=â):
    mg z r=0/\layZ z r={z with A3:=[⟨â,(z.A3.getD 0 à).Ah++[r]⟩,⟨â,(z.A3.getD 1 à).Ah++[r]⟩],Aa:=z.Aa+1+1}:=by
  have c:=E3 H
  have e:gc 0 r z={z with A3:=[⟨â,(z.A3.getD 0 à).Ah++[r]⟩,z.A3.getD 1 à],Aa:=z.Aa+1}:=by
    unfold gc
    rw[eW (iE h)]
    unfold layT kR
    rw[c]
    rfl
  have k:jL z r=true:=by
    unfold jL
    rw[iE h,iE (Fi.trans h)];rfl
  obtain⟨a,b⟩:=fM f
  refine⟨by rw[a,ae k],?_⟩
  rw[b]
  unfold lj
  rw[ac (by rw[iE h];simp),e]
  unfold gc
  rw[eW (by exact iE h)]
  rfl
theorem Gw.lay(h:Gw W z)(c:recF z.A0 r=0):Gw (W+2) (layZ z r):=by
  cases H:dI z with
  | true=>rw[(iR H).2];exact h.mono ω
  | false=>
    obtain⟨_,e⟩:=Gy h.tl h.st H
    have w:=h.wr
    have A:RecsOK (layZ z r):=by
      have b:=AllR.layZ h.rc c
      unfold RecsOK;rw[jh.1];exact b
    obtain⟨J,f2⟩:=ui H
    rw[e] at A ⊢
    refine⟨h.hs,(jv rfl rfl).trans h.gk,h.on,rfl,A,λt a=>?_,h.st,h.dn,θ⟩
    simp only[aM,aQ,bB] at a
    rcases a with rfl|rfl<;>exact⟨by simp only[aO,È];omega,rfl⟩
theorem Gw.nx(h:Gw W z)(H:∀q,1<=q/\q<=1000000000->recF z.A0 (seqR r q)=0):Gw (W+2) (nxZ z r):=by
  have a:=lK h.seq
  by_cases c:1000000000<nxQ z
  · rw[(lx c).2];exact h.mono ω
  · rw[(kE c).2];exact h.lay (H _ ω)
theorem Gw.done(h:Gw W z){q:Int}(a:1<=q/\q<=1000000000)(H:ins g 0 (z.A0.A2+z.A0.A5-1)=ã):recF z.A0 (kA q g)=0:=by
  refine lA rfl (bH.2 a) ?_ rfl
  unfold fm
  exact ae H
theorem Gw.redo(h:Gw W z)(H:ins g 0 (z.A0.A2+z.A0.A5-1)=ã)(m:recF z.A0 r=0)(k:r.Kind=2):(redoP z g r).1=ã/\Gw (W+5) (redoP z g r).2/\(redoP z g r).2.A3=z.A3/\(redoP z g r).2.A0=z.A0:=by
  obtain⟨M,q,f,s,t,u⟩:=lE h.hs h.gk H m k
  obtain⟨p,i,P,v⟩:=uz h.hs h.gk H m k
  obtain⟨A,b,c,a,l,n,d⟩:=zJ (lX z) 0 z h.st M ω λj _ o=>(f j ω).1
  have e:redoI _ g r (lX z) 0 z=redoP z g r:=rfl
  rw[e] at A b c a d
  have w:=h.wr
  refine⟨A,⟨by rw[p];exact h.hs,i,?_,by rw[P];exact h.tl,?_,by rw[P];exact h.rl,c,a.trans h.dn,ω⟩,P,p⟩
  · have:=h.on
    unfold rm at this ⊢
    rw[b,p,a];exact this
  · have:=h.rc
    unfold RecsOK AllR at this ⊢
    rw[P,p];exact this
theorem Gw.mw(h:Gw W z)(d:ins g 0 (z.A0.A2-1)=ã)(r:ins a 0 (z.A0.Rows-1)=ã)(x:(xs.length:Int)=z.A0.Data*4)(i:dP z g=â):Gw (W+9) (mwP z g a xs).2/\(mwP z g a xs).2.A0=z.A0:=by
  have S:=bm h.hs
  have p:=bH.1 d
  have H:ins g 0 (z.A0.A2+z.A0.A5-1)=true:=bH.2 ω
  have l:=l4 h.hs h.gk H r i
  have s:=lK h.seq
  by_cases c:1000000000<nxQ z\/eU z 2=ã
  · rw[tH c];exact⟨h.mono ω,rfl⟩
  · have m:=uC ω d r x l
    obtain⟨e,E,o⟩:=jh
    have k:=h.lay m
    by_cases c2:mg z (cD z g a xs)=0
    · obtain⟨f,b,n,B⟩:=k.redo (by rw[e];exact H) (by rw[e];exact m) rfl
      rw[DY c c2 f]
      have j:=b.done (q:=nxQ z) ω (by rw[B,e];exact H)
      exact⟨(b.lay j).mono ω,jh.1.trans (B.trans e)⟩
    · rw[GB c c2];exact⟨k.mono ω,e⟩
theorem LY{s:A0}{q:Int}(n:bU H=0)(h:dL s xs.length=0)(c:1<=q/\q<=1000000000):recF s (seqR (po H xs) q)=0:=by
  have d:=(fV h).1
  refine lA rfl (bH.2 c) ?_ rfl
  unfold fm
  rw[ae (show(seqR _ q).Kind=1 from rfl),ac (λe=>e n)]
  have i:fZ s (seqR (po H xs) q)=true:=by
    unfold fZ
    have E:(seqR (po H xs) q).Length=xs.length:=rfl
    have a:(seqR (po H xs) q).Data=xs:=rfl
    have b:(seqR (po H xs) q).Rows=[]:=rfl
    rw[E,a,b,ae (show 0<xs.length by omega),h]
    simp
  rw[ae i]
theorem Gw.put(h:Gw W z)(n:bU H=0):Gw (W+2) (puZ z H xs)/\(puZ z H xs).A0=z.A0:=by
  unfold puZ
  split
  · exact⟨h.mono ω,rfl⟩
  · split
    · exact⟨h.mono ω,rfl⟩
    · exact⟨h.nx λq a=>LY n ω a,pX.1⟩
theorem PX(h:qt z g=ã)(a:0<=g):(BQ z g).length=(z.A0.A2+z.A0.A5).toNat/\(BQ z g).getD g.toNat 0=0:=by
  have l:=of_decide_eq_true h
  rw[(Mi l).2]
  refine⟨ph,AK _ λi c=>?_⟩
  have b:(byG z g).length<=z.A0.A2.toNat:=yy
  have H:i<(cQ z g (z.A0.A2+z.A0.A5).toNat).length:=by
    have:(ur z g).length=(cQ z g (z.A0.A2+z.A0.A5).toNat).length:=rfl
    omega
  have m:(ur z g).getD i 0∈cQ z g (z.A0.A2+z.A0.A5).toNat:=by
    show(cQ z g (z.A0.A2+z.A0.A5).toNat).getD i 0∈_
    rw[bX H];exact bx _
  have:=zm _ _ m
  omega
theorem Qg(s:z.A0.ok=ã)(h:qt z g=ã)(H:ins g 0 (z.A0.A2+z.A0.A5-1)=ã)(r:ins a 0 (z.A0.Rows-1)=ã){q:Int}(f:1<=q/\q<=1000000000):recF z.A0 (seqR (bgR z g a) q)=0:=by
  have S:=bm s
  have i:=bH.1 H
  obtain⟨k,d⟩:=PX h i.1
  refine lA rfl (bH.2 f) ?_ rfl
  rw[g9 rfl]
  unfold gT weightsOK
  have e:(seqR (bgR z g a) q).Group=g:=rfl
  have E:(seqR (bgR z g a) q).Row=a:=rfl
  have j:(seqR (bgR z g a) q).Rows=[]:=rfl
  have b:(seqR (bgR z g a) q).Data=å (z.A0.Data*4).toNat 0:=rfl
  have c:(seqR (bgR z g a) q).Ad=BQ z g:=rfl
  rw[e,E,b,c,H,r,d,aU wR,aU ω]
  rfl
theorem Gw.bg(h:Gw W z)(H:ins g 0 (z.A0.A2+z.A0.A5-1)=ã)(r:ins a 0 (z.A0.Rows-1)=ã):Gw (W+2) (bgZ z g a)/\(bgZ z g a).A0=z.A0:=by
  unfold bgZ
  split
  · next c=>
    split
    · exact⟨h.mono ω,rfl⟩
    · exact⟨h.nx λq b=>Qg h.hs c H r b,pX.1⟩
  · exact⟨h.mono ω,rfl⟩
theorem Gw.gw(h:Gw W z)(b:ins f 0 (z.A0.A2+z.A0.A5-1)=ã):Gw (W+2) (gwZ z f g a)/\(gwZ z f g a).A0=z.A0/\(gwZ z f g a).A2=z.A2:=by
  cases H:dP z f with
  | true=>rw[(Cr H).2];exact⟨h.mono ω,rfl,rfl⟩
  | false=>
    cases hv:p7 z f g a with
    | false=>rw[(Br hv).2];exact⟨h.mono ω,rfl,rfl⟩
    | true=>rw[(Mu H hv).2];exact⟨h.nx λq c=>Lu h.hs h.gk b H h.rc hv c,pX⟩
theorem Gw.gaR:∀ {n j:Nat}{z:Wld}{W:Int},Gw W z->ins f 0 (z.A0.A2+z.A0.A5-1)=ã->Gw (W+2*(n:Int)) (gaR f g n j z).2/\(Wk.gaR f g n j z).2.A0=z.A0
  | 0,_,z,W,h,_=>⟨by simpa[Wk.gaR] using h,rfl⟩
  | n+1,j,z,W,h,H=>by
    obtain⟨a,b,_⟩:=h.gw H
    rw[Wk.gaR]
    split
    · obtain⟨c,d⟩:=Gw.gaR a (by rw[b];exact H)
      exact⟨c.mono ω,d.trans b⟩
    · exact⟨a.mono ω,b⟩
theorem Gw.gaG(e:m<=6):∀ {n k:Nat}{z:Wld}{W:Int},Gw W z->ins f 0 (z.A0.A2+z.A0.A5-1)=ã->Gw (W+12*(n:Int)) (gaG f m n k z).2/\(Wk.gaG f m n k z).2.A0=z.A0
  | 0,_,z,W,h,_=>⟨by simpa[Wk.gaG] using h,rfl⟩
  | n+1,k,z,W,h,H=>by
    obtain⟨a,b⟩:=h.gaR H
    rw[Wk.gaG]
    split
    · obtain⟨c,d⟩:=Gw.gaG e a (by rw[b];exact H)
      exact⟨c.mono ω,d.trans b⟩
    · exact⟨a.mono ω,b⟩
theorem Gw.ga(h:Gw W z)(H:ins f 0 (z.A0.A2+z.A0.A5-1)=ã):Gw (W+72) (gaP z f).2/\(gaP z f).2.A0=z.A0:=by
  have s:=bm h.hs
  obtain⟨a,b⟩:=h.gaG (m:=z.A0.Rows.toNat) ω H
  exact⟨a.mono ω,b⟩
end
def tkI (s:A0) (g k:Int) (r:Rec):Bool:=decide (dy s r.Name=g) && decide (k∈r.Rows)
def tkM (g k:Int) (r:Rec):Bool:=((decide (r.Kind=2) && decide (r.Group=g)) || decide (r.Kind=4)) && decide (r.Row=k)
noncomputable def q9 (z:Wld) (g k:Int):Bool:=(bT z).any (tkI z.A0 g k) || (cI z).any (tkM g k)
noncomputable def jF (z:Wld) (g:Int):Nat->List Int
  | 0=>[]
  | k+1=>if q9 z g k=ã then jF z g k else jF z g k++[(k:Int)]
noncomputable def iZ (z:Wld) (g:Int):List Int:=jF z g z.A0.Rows.toNat
section
variable {z:Wld}{g row:Int}{r:Rec}{k n:Nat}
theorem s5:∀k,(jF z g k).length<=k
  | 0=>aN _
  | k+1=>by
    have:=s5 k
    rw[jF];split
    · omega
    · rw[aO,È];omega
theorem vm:∀k,∀x∈jF z g k,0<=x/\x<k
  | 0,x,h=>by cases h
  | k+1,x,h=>by
    rw[jF] at h;split at h
    · have:=vm k x h;omega
    · rcases aI.1 h with h|h
      · have:=vm k x h;omega
      · rw[aD.1 h];omega
theorem ub:∀k,(jF z g k).Pairwise (· < ·)
  | 0 => .nil
  | k+1=>by
    rw[jF];split
    · exact ub k
    · rw[Ţ]
      refine⟨ub k,List.pairwise_singleton _ _,λa h b H=>?_⟩
      rw[aD.1 H]
      exact(vm k a h).2
theorem Ni(h:z.A0.ok=ã):(iZ z g).length<=6:=by
  have s:=bm h
  have:=s5 (z:=z) (g:=g) z.A0.Rows.toNat
  unfold iZ;omega
theorem KV{X:List Int}{m:Int}(h:X.Pairwise (· < ·))(b:∀x∈X,0<=x/\x<=m):apartL X m=true:=by
  refine jn λi hi=>?_
  unfold apartAt
  have H:=b (X.getD i 0) FX
  rw[bH.2 H,Þ,als_Bool_not_eq_true_,aa]
  intro c
  obtain⟨j,a,e⟩:=ð c
  rw[aY] at a
  rw[List.getElem_take] at e
  have:=Ň.1 h j i ω hi ω
  rw[bX hi] at e
  omega
theorem u5(s:z.A0.ok=ã):apartL ((iZ z g).take n) (z.A0.Rows-1)=ã/\∀i,i<((iZ z g).take n).length->ins (((iZ z g).take n).getD i 0) 0 (z.A0.Rows-1)=true:=by
  have h:∀x∈(iZ z g).take n,0<=x/\x<=z.A0.Rows-1:=λx a=>by
    have:=vm z.A0.Rows.toNat x (š a)
    omega
  refine⟨KV ((ub _).sublist (List.take_sublist _ _)) h,λi H=>bH.2 (h _ ?_)⟩
  rw[bX H];exact bx _
end
def im (m n:Nat) (x:List UInt8) (k:Nat):List UInt8:=cut (x++å (n*m-x.length) 0) (k*m) (k*m+m)
section
variable {n k:Nat}
theorem pB(h:k<n)(x:xs.length<=n*m):(im m n xs k).length=m:=by
  unfold im
  have H:k*m+m<=n*m:=by
    rw[<- Nat.succ_mul];exact Å _ h
  rw[fb (by rw[aO,aZ];omega)];omega
end
def uo (z:Wld) (g:Int) (r:Rec):Bool:=decide (r.Data.length=0) || decide (dy z.A0 r.Name≠g)
noncomputable def nj (z:Wld) (g:Int):List Rec:=wv (uo z g) (bT z)
noncomputable def AF (z:Wld) (g:Int) (r:Rec):Bool:=decide (dd z.A0 r.Length<=((iZ z g).length:Int))
noncomputable def mvL (g:Int) (rows:List Int) (m N:Nat) (x:List UInt8):Nat->Nat->Wld->Int × Wld
  | 0,_,z=>(0,z)
  | n+1,k,z=>if(mwP z g (rows.getD k 0) (im m N x k)).1=0 then mvL g rows m N x n (k+1) (mwP z g (rows.getD k 0) (im m N x k)).2 else mwP z g (rows.getD k 0) (im m N x k)
def oD (r:Rec) (rows:List Int):Rec:=⟨1,0,r.Name,r.Length,0,0,rows,[],[]⟩
def pnN (z:Wld) (r:Rec):Nat:=(dd z.A0 r.Length).toNat
noncomputable def du (z:Wld) (g:Int) (r:Rec):List Int:=(iZ z g).take (pnN z r)
noncomputable def mvA (z:Wld) (g:Int) (r:Rec):Int × Wld:=mvL g (du z g r) (z.A0.Data*4).toNat (pnN z r) r.Data (pnN z r) 0 z
noncomputable def dsP (z:Wld) (g:Int) (r:Rec):Int × Wld:=
  if 1000000000<nxQ z+pnN z r\/eU z (2*pnN z r+1)=ã then(2,z)
  else if(mvA z g r).1≠0 then mvA z g r
  else(nxC (mvA z g r).2 (oD r (du z g r)),nxZ (mvA z g r).2 (oD r (du z g r)))
noncomputable def nxI (z:Wld) (g:Int):Nat->Int
  | 0 => -1
  | k+1=>if(!uo z g ((bT z).getD k à) && AF z g ((bT z).getD k à))=ã/\(nxI z g k<0\/((bT z).getD k à).Seq<((bT z).getD (nxI z g k).toNat à).Seq) then k else nxI z g k
noncomputable def nxR (z:Wld) (g:Int):Rec:=(bT z).getD (nxI z g (bT z).length).toNat à
noncomputable def dsS (z:Wld) (g:Int):Int × Wld:=if dP z g=ã then(10,z) else if nxI z g (bT z).length<0 then(4,z) else dsP z g (nxR z g)
noncomputable def nxO (z:Wld) (g:Int):Option Rec:=(nj z g).find? (AF z g)
noncomputable def dsI (z:Wld) (g:Int):Int × Wld:=if dP z g=ã then(10,z) else match nxO z g with
  | none=>(4,z)
  | some r=>dsP z g r
section
variable {z:Wld}{g a:Int}{r:Rec}{k n:Nat}{W:Int}{rows:List Int}
theorem Dx:∀k,-1<=nxI z g k/\nxI z g k<k/\(0<=nxI z g k->uo z g ((bT z).getD (nxI z g k).toNat à)=â/\AF z g ((bT z).getD (nxI z g k).toNat à)=ã)
  | 0=>⟨ĩ _,by show(-1:Int)<_;decide,λh=>absurd h (by show ¬ _ <= -1;decide)⟩
  | k+1=>by
    obtain⟨H,b,a⟩:=Dx k
    rw[nxI];split
    · next c=>
      have c1:=c.1
      simp at c1
      exact⟨ω,ω,λ_=>c1⟩
    · exact⟨H,ω,a⟩
theorem vK(h:0<=nxI z g (bT z).length):nxR z g∈bT z/\uo z g (nxR z g)=â/\AF z g (nxR z g)=true:=by
  obtain⟨a,b,H⟩:=Dx (bT z).length
  refine⟨?_,H h⟩
  unfold nxR
  rw[bX ω];exact bx _
structure Due (z:Wld) (g:Int) (r:Rec):Prop where
  nf:bU r.Name=0
  lg:dL z.A0 r.Length=0
  dl:(r.Data.length:Int)=r.Length
  hm:dy z.A0 r.Name=g
  pn:1<=pnN z r/\pnN z r<=3
  pe:(pnN z r:Int)=dd z.A0 r.Length
  fx:r.Data.length<=pnN z r*(z.A0.Data*4).toNat
  rw_:(du z g r).length=pnN z r
theorem qA{s:A0}(c:s.ok=ã){l:Int}(h:dL s l=0):1<=dd s l/\dd s l<=3/\l<=dd s l*(s.Data*4):=by
  obtain⟨H,d⟩:=fV h
  obtain⟨a,b⟩:=Dr c H
  refine⟨b,?_,a⟩
  unfold dd
  rw[Ċ ω]
  have e:(l-1) / (s.Data*4)<3:=Int.ediv_lt_of_lt_mul ω ω
  omega
theorem vq(s:z.A0.ok=ã)(R:RecsOK z)(m:r∈bT z)(H:uo z g r=â)(f:AF z g r=ã):Due z g r:=by
  have n:=mf.1 (pF.1 m)
  have a:=pt m
  have h:=AllR.cnt R a
  have k:=(ng n.2.2).2.1
  have j:=n.2.1
  obtain⟨i,I,p⟩:=vv h k j
  unfold uo at H
  simp only[bz,aa,Decidable.not_not] at H
  have o:bU r.Name=0:=by
    have d:=m7 h
    unfold recF fm at h
    rw[ae d.1,ae (bH.2 (rR (AllR.cnt R a))),ae k] at h
    by_cases c:bU r.Name=0
    · exact c
    · rw[ae c,ae c] at h;exact absurd h c
  obtain⟨P,q,t⟩:=qA s i
  have b:(pnN z r:Int)=dd z.A0 r.Length:=by unfold pnN;omega
  have l:=I ω
  have S:=bm s
  refine⟨o,i,l,H.2,ω,b,?_,?_⟩
  · have e:((pnN z r*(z.A0.Data*4).toNat:Nat):Int)=dd z.A0 r.Length*(z.A0.Data*4):=by
      rw[Int.natCast_mul,b,bQ ω]
    omega
  · unfold AF at f
    simp at f
    unfold du
    rw[aY];omega
theorem rO{s:A0}(a:s.ok=ã):ins (dy s H) 0 (s.A2-1)=true:=by
  have S:=bm a
  have h:0<=pN H H.size:=(rF _).1
  unfold dy
  rw[Int.tmod_eq_emod_of_nonneg h]
  have b:=Int.emod_nonneg (pN H H.size) (show s.A2≠0 by omega)
  have c:=Int.emod_lt_of_pos (pN H H.size) (show 0<s.A2 by omega)
  exact bH.2 ω
def SameW (y z:Wld):Prop:=y.A0=z.A0/\y.A2.length=z.A2.length/\(∀j,(y.A2.getD j []).length=(z.A2.getD j []).length)/\∀j d,(dH y j d).Au=(dH z j d).Au
theorem SameW.refl:SameW z z:=⟨rfl,rfl,λ_=>rfl,λ_ _=>rfl⟩
theorem SameW.trans{x:Wld}(h:SameW x y)(k:SameW y z):SameW x z:=⟨h.1.trans k.1,h.2.1.trans k.2.1,λj=>(h.2.2.1 j).trans (k.2.2.1 j),λj d=>(h.2.2.2 j d).trans (k.2.2.2 j d)⟩
theorem SameW.of(h:y.A0=z.A0)(k:y.A2=z.A2):SameW y z:=⟨h,by rw[k],λ_=>by rw[k],λ_ _=>by unfold dH;rw[k]⟩
theorem N9{g i r:Nat}{b:Block}(h:g<z.A2.length)(H:i<(z.A2.getD g []).length):SameW (lY g i r b z) z:=by
  unfold lY pk
  split
  · exact SameW.of rfl rfl
  · refine⟨rfl,?_,λj=>?_,λj d=>?_⟩
    · show(z.A2.set g _).length=_
      rw[bE]
    · show((z.A2.set g _).getD j []).length=_
      rw[d8];split
      · next c=>rw[bE,c.1]
      · rfl
    · unfold dH
      show(((z.A2.set g _).getD j []).getD d à).Au=_
      rw[d8];split
      · next c=>
        rw[d8];split
        · next c2=>rw[c.1,c2.1];rfl
        · rw[c.1]
      · rfl
theorem w5{R:List (List UInt8)}:∀ {n i:Nat}{z:Wld},g.toNat<z.A2.length->i+n<=(z.A2.getD g.toNat []).length->SameW (redoI R g r n i z).2 z
  | 0,_,_,_,_=>SameW.refl
  | n+1,i,z,H,a=>by
    have h:=N9 (i:=i) (r:=r.Row.toNat) (b:=⟨r.Seq,gE z g i r (R.getD i [])⟩) H ω
    rw[redoI];split
    · exact w5 H ω
    · split
      · exact h
      · exact(w5 (by rw[h.2.1];exact H) (by rw[h.2.2.1];omega)).trans h
theorem SameW.dead(h:SameW y z):dP y g=dP z g:=by
  have e:∀k,wipedTo (y.A2.getD g.toNat []) k=wipedTo (z.A2.getD g.toNat []) k:=λk=>by
    induction k with
    | zero=>rfl
    | succ k i=>
      have:=h.2.2.2 g.toNat k
      unfold dH at this
      rw[wipedTo,wipedTo,i,this]
  unfold dP re
  rw[h.1,h.2.2.1,e]
theorem Gw.mw_same(h:Gw W z)(b:ins g 0 (z.A0.A2-1)=ã)(r:ins a 0 (z.A0.Rows-1)=ã)(x:(xs.length:Int)=z.A0.Data*4)(i:dP z g=â):SameW (mwP z g a xs).2 z:=by
  have u:=bm h.hs
  have q:=bH.1 b
  have d:ins g 0 (z.A0.A2+z.A0.A5-1)=true:=bH.2 ω
  have l:=l4 h.hs h.gk d r i
  have t:=lK h.seq
  by_cases c:1000000000<nxQ z\/eU z 2=ã
  · rw[tH c];exact SameW.refl
  · have H:=uC ω b r x l
    obtain⟨e,E,p⟩:=jh
    have k:=h.lay H
    have s:=SameW.of e E
    by_cases c2:mg z (cD z g a xs)=0
    · have f:ins g 0 ((layZ z (cD z g a xs)).A0.A2+(layZ z (cD z g a xs)).A0.A5-1)=true:=by rw[e];exact d
      obtain⟨B,j,n,o⟩:=k.redo f (by rw[e];exact H) rfl
      obtain⟨m,M,_⟩:=lE k.hs k.gk f (by rw[e];exact H) rfl
      have S:SameW (redoP _ g (cD z g a xs)).2 _:=w5 m ω
      rw[DY c c2 B]
      exact((SameW.of jh.1 jh.2.1).trans S).trans s
    · rw[GB c c2];exact s
theorem TV(h:n=m+1){r:List Int}{p q:Nat}(c:(mwP z g (r.getD k 0) (im p q xs k)).1=0):mvL g r p q xs n k z=mvL g r p q xs m (k+1) (mwP z g (r.getD k 0) (im p q xs k)).2:=by subst h;rw[mvL,ae c]
theorem OM(h:n=m+1){r:List Int}{p q:Nat}(c:(mwP z g (r.getD k 0) (im p q xs k)).1≠0):mvL g r p q xs n k z=mwP z g (r.getD k 0) (im p q xs k):=by subst h;rw[mvL,ac c]
theorem Sp(h:n=0){r:List Int}{p q:Nat}:mvL g r p q xs n k z=(0,z):=by subst h;rfl
theorem Gw.mvs{s:A0}{N:Nat}(w:∀i,i<N->ins (rows.getD i 0) 0 (s.Rows-1)=ã)(f:ins g 0 (s.A2-1)=ã)(x:xs.length<=N*(s.Data*4).toNat):
    ∀ {n k:Nat}{z:Wld}{W:Int},k+n=N->z.A0=s->Gw W z->dP z g=â->Gw (W+9*(n:Int)) (mvL g rows (s.Data*4).toNat N xs n k z).2/\(mvL g rows (s.Data*4).toNat N xs n k z).2.A0=s
  | 0,_,z,W,_,j,h,_=>⟨by simpa[mvL] using h,j⟩
  | n+1,k,z,W,m,j,h,H=>by
    have S:=bm h.hs
    subst j
    have l:((im (z.A0.Data*4).toNat N xs k).length:Int)=z.A0.Data*4:=by rw[pB ω x];omega
    obtain⟨a,b⟩:=h.mw f (w k ω) l H
    have c:=h.mw_same f (w k ω) l H
    rw[mvL];split
    · obtain⟨d,e⟩:=Gw.mvs w f x (n:=n) (k:=k+1) ω b a (by rw[c.dead];exact H)
      exact⟨d.mono ω,e⟩
    · exact⟨a.mono ω,b⟩
theorem LL{s:A0}{q:Int}(n:bU r.Name=0)(h:dL s r.Length=0)(d:(rows.length:Int)=dd s r.Length)(H:apartL rows (s.Rows-1)=ã)(c:1<=q/\q<=1000000000):recF s (seqR (oD r rows) q)=0:=by
  have f:=(fV h).1
  refine lA rfl (bH.2 c) ?_ rfl
  unfold fm
  rw[ae (show(seqR _ q).Kind=1 from rfl),ac (λe=>e n)]
  have i:fZ s (seqR (oD r rows) q)=true:=by
    unfold fZ
    have E:(seqR (oD r rows) q).Length=r.Length:=rfl
    have a:(seqR (oD r rows) q).Data=[]:=rfl
    have b:(seqR (oD r rows) q).Rows=rows:=rfl
    rw[E,a,b,ac ω,h,d,H]
    simp
  rw[ae i]
theorem Gw.dsP(h:Gw W z)(d:Due z g r)(a:dP z g=â):Gw (W+40) (dsP z g r).2/\(Wk.dsP z g r).2.A0=z.A0:=by
  have p:=d.pn
  have b:ins g 0 (z.A0.A2-1)=true:=by rw[<- d.hm];exact rO h.hs
  obtain⟨t,T⟩:=u5 h.hs
  have l:((iZ z g).take _).length=pnN z r:=d.rw_
  have H:=Gw.mvs (rows:=du z g r) (λi f=>T i ω) b d.fx (n:=pnN z r) (k:=0) ω rfl h a
  have e:mvL g _ (z.A0.Data*4).toNat _ r.Data _ 0 z=mvA z g r:=rfl
  unfold Wk.dsP
  split
  · exact⟨h.mono ω,rfl⟩
  · split
    · exact⟨H.1.mono ω,H.2⟩
    · refine⟨(H.1.nx λq c=>?_).mono ω,pX.1.trans H.2⟩
      rw[H.2]
      exact LL d.nf d.lg (by rw[show(du z g r).length=pnN z r from d.rw_,d.pe]) t c
theorem Gw.dsS(h:Gw W z):Gw (W+40) (dsS z g).2/\(Wk.dsS z g).2.A0=z.A0:=by
  unfold Wk.dsS
  split
  · exact⟨h.mono ω,rfl⟩
  · next H=>
    split
    · exact⟨h.mono ω,rfl⟩
    · obtain⟨a,b,c⟩:=vK (z:=z) (g:=g) ω
      exact h.dsP (vq h.hs h.rc a b c) (by simpa using H)
theorem Tv:0<=(dsP z g r).1/\(dsP z g r).1<=9:=by
  have h:∀(n k:Nat) (z:Wld),0<=(mvL g (du z g r) (z.A0.Data*4).toNat (pnN z r) r.Data n k z).1:=λn k z=>by
    have:∀(m p:Nat) (R:List Int) (n k:Nat) (z:Wld),0<=(mvL g R m p r.Data n k z).1:=λm p R n=>by
      induction n with
      | zero=>intro k z;exact ĩ _
      | succ n i=>intro k z;rw[mvL];split;exact i _ _;exact Q7.1
    exact this _ _ _ _ _ _
  have H:∀(m p:Nat) (R:List Int) (n k:Nat) (z:Wld),(mvL g R m p r.Data n k z).1<=9:=λm p R n=>by
    induction n with
    | zero=>intro k z;show(0:Int)<=9;decide
    | succ n i=>intro k z;rw[mvL];split;exact i _ _;exact Q7.2
  unfold dsP
  split
  · omega
  · split
    · exact⟨h _ _ _,H _ _ _ _ _ _⟩
    · have:=OH (z:=(mvA z g r).2) (r:=oD r (du z g r));omega
end
end Go.Wk
