/-
  Laws on walking, and the functions walked, each once: what this claim comes to.
-/
import Derived.Test.YtpgldfafbpkofaaGreatZQ4
set_option linter.unusedVariables false
set_option linter.unusedSimpArgs false
set_option maxHeartbeats 8000000
open Bool renaming and_assoc->Õ,false->â,or_assoc->ĸ,true->ã,true_and->Þ
open Go renaming Addr->ô,TypeId->ì,Value->è,World->ä,maxLen->Ë,run_underlying->þ
open Go.Builtin renaming append_->Ô,zeroCells->Ø
open Go.Proofs.Tryz renaming func158->Ś,func31->É,func47->Ā,func63->œ,prog->ê,zeroValue33->Č,zeroValue76->Ä
open Go.Value renaming bool->ó,int->é
open Inhabited renaming default->à
open Int renaming natCast_mul->Ľ
open List renaming append_assoc->Î,append_nil->Į,drop_zero->ě,ext_getElem->Ü,getElem?_append_right->Z_,getElem?_drop->Ñ,getElem?_eq_getElem->Ã,getElem?_map->A?,getElem_drop->Ĵ,getElem_of_mem->ð,getElem_replicate->ć,mem_of_getElem?->æ,nil_append->Ý,nodup_cons->ù,replicate->å,size_toArray->ĵ,take_add_one->ĥ,take_left'->Y_,take_length->ö
open List.Sublist renaming slnil->Ê
open Nat renaming blt->ò,mul_le_mul_right->Å,mul_one->ā,succ_mul->Ō,zero_add->K?,zero_le->ý
open Option renaming none->ç,some->á
namespace Go.Wk
open Rp (sz own)
open Go.Shelf Go.Lib Go.Sort Go.Proofs
theorem nU{p:Rec->Bool}{x:List Rec}{k:Nat}(h:k<x.length):(x.take (k+1)).any p=((x.take k).any p || p (x.getD k à)):=by
  rw[ĥ,List.any_append,Ã h,bX h];simp
structure TkA (z:Wld) (g:Int) (k:Nat) (tk:List Bool):Prop where
  ln:tk.length=z.A0.Rows.toNat
  at_:∀i,i<z.A0.Rows.toNat->tk.getD i â=((bT z).take k).any (tkI z.A0 g (i:Int))
structure TkB (z:Wld) (g:Int) (k j:Nat) (tk:List Bool):Prop where
  ln:tk.length=z.A0.Rows.toNat
  at_:∀i,i<z.A0.Rows.toNat->tk.getD i â=(((bT z).take k).any (tkI z.A0 g (i:Int)) || decide ((i:Int)∈((bT z).getD k à).Rows.take j))
structure TkC (z:Wld) (g:Int) (k:Nat) (tk:List Bool):Prop where
  ln:tk.length=z.A0.Rows.toNat
  at_:∀i,i<z.A0.Rows.toNat->tk.getD i â=((bT z).any (tkI z.A0 g (i:Int)) || ((cI z).take k).any (tkM g (i:Int)))
section
variable {z:Wld}{g q:Int}{k j:Nat}{a:List Bool}
theorem HL{l:List Bool}{n i:Nat}(h:i<l.length):(l.set n ã).getD i â=(l.getD i â || decide (i=n)):=by
  rw[d8]
  by_cases c:i=n
  · subst c;rw[ae ⟨rfl,h⟩];simp
  · simp[c]
theorem NY:TkA z g 0 (å z.A0.Rows.toNat â):=⟨aZ,λi h=>by
  rw[bX (by rw[aZ];exact h),ć];rfl⟩
theorem Pt(h:TkA z g k a)(b:k<(bT z).length)(n:dy z.A0 ((bT z).getD k à).Name≠g):TkA z g (k+1) a:=⟨h.ln,λi H=>by
  rw[nU b,h.at_ i H]
  unfold tkI
  rw[a8 n];simp⟩
theorem Np(h:TkA z g k a):TkB z g k 0 a:=⟨h.ln,λi H=>by rw[h.at_ i H];simp⟩
theorem Ow(h:TkB z g k j a)(b:j<((bT z).getD k à).Rows.length)(c:0<=((bT z).getD k à).Rows.getD j 0):TkB z g k (j+1) (a.set (((bT z).getD k à).Rows.getD j 0).toNat ã):=⟨by rw[bE];exact h.ln,λi H=>by
  rw[HL (by rw[h.ln];exact H),h.at_ i H,ĥ,Ã b,ĸ]
  congr 1
  rw[bX b] at c ⊢
  rw[<- Bool.decide_or]
  refine decide_eq_decide.2 ?_
  simp only[Option.toList_some,aI,aD]
  constructor
  · rintro(q|q)
    · exact .inl q
    · exact .inr ω
  · rintro(q|q)
    · exact .inl q
    · exact .inr ω⟩
theorem R3(h:TkB z g k j a)(b:j=((bT z).getD k à).Rows.length)(c:k<(bT z).length)(n:dy z.A0 ((bT z).getD k à).Name=g):TkA z g (k+1) a:=⟨h.ln,λi H=>by
  rw[nU c,h.at_ i H,b,ö]
  unfold tkI
  rw[aU n,Þ]⟩
theorem M0(h:TkA z g k a)(b:k=(bT z).length):TkC z g 0 a:=⟨h.ln,λi H=>by
  rw[h.at_ i H,b];simp⟩
theorem Qq(h:TkC z g k a)(b:k<(cI z).length)(n:(((decide (((cI z).getD k à).Kind=2) && decide (((cI z).getD k à).Group=g)) || decide (((cI z).getD k à).Kind=4)))=â):TkC z g (k+1) a:=⟨h.ln,λi H=>by
  rw[nU b,h.at_ i H]
  have e:tkM g (i:Int) ((cI z).getD k à)=false:=by unfold tkM;rw[n];rfl
  rw[e,Bool.or_false]⟩
theorem QL(h:TkC z g k a)(b:k<(cI z).length)(n:(((decide (((cI z).getD k à).Kind=2) && decide (((cI z).getD k à).Group=g)) || decide (((cI z).getD k à).Kind=4)))=ã)(c:0<=((cI z).getD k à).Row):TkC z g (k+1) (a.set ((cI z).getD k à).Row.toNat ã):=⟨by rw[bE];exact h.ln,λi H=>by
  rw[HL (by rw[h.ln];exact H),nU b,h.at_ i H,ĸ]
  have e:tkM g (i:Int) ((cI z).getD k à)=decide (i=((cI z).getD k à).Row.toNat):=by
    unfold tkM
    rw[n]
    exact decide_eq_decide.2 ω
  rw[e]⟩
theorem Lw(h:TkC z g k a)(b:k=(cI z).length){i:Nat}(H:i<z.A0.Rows.toNat):a.getD i â=q9 z g i:=by
  rw[h.at_ i H,b,ö];rfl
theorem Dw(h:q9 z g k=â):jF z g (k+1)=jF z g k++[(k:Int)]:=by rw[jF,ac wZ]
theorem Fm(h:q9 z g k=ã):jF z g (k+1)=jF z g k:=by rw[jF,ae h]
theorem tz{s:A0}{r:Rec}(h:recF s r=0):fm s r=0:=by
  have H:=m7 h
  have q:=rR h
  by_cases c:fm s r=0
  · exact c
  · rw[iF H.1 (bH.2 q) c] at h;exact absurd h c
theorem MB(w:c7 z=0)(d:k<(bT z).length):∀i,i<((bT z).getD k à).Rows.length->0<=((bT z).getD k à).Rows.getD i 0/\((bT z).getD k à).Rows.getD i 0<z.A0.Rows:=λi a=>by
  obtain⟨r,b⟩:∃r,r=(bT z).getD k default:=⟨_,rfl⟩
  have m:r∈bT z:=by rw[b,bX d];exact bx _
  rw[<- b] at a ⊢
  have H:=mf.1 (pF.1 m)
  have f:=pT w (pt m)
  obtain⟨g,j,I⟩:=vv f H.1 H.2.1
  by_cases c:0<r.Data.length
  · have o:fZ z.A0 r=true:=by
      have h:=tz f
      unfold fm at h
      rw[ae H.1] at h
      cases e:fZ z.A0 r with
      | true=>rfl
      | false=>
        rw[e] at h
        by_cases C:bU r.Name=0
        · rw[ac (λq=>q C)] at h;exact absurd h dv
        · rw[ae C] at h;exact absurd h C
    unfold fZ at o
    rw[ac H.2.1,ae c] at o
    simp only[aP,ab] at o
    omega
  · have:=bH.1 ((I c).2 i a)
    omega
theorem pH(w:c7 z=0)(a:k<(bT z).length):((bT z).getD k à).Name.size<=8:=by
  have H:(bT z).getD k à∈bT z:=by rw[bX a];exact bx _
  have n:=mf.1 (pF.1 H)
  have f:=pT w (pt H)
  have h:=tz f
  unfold fm at h
  rw[ae n.1] at h
  by_cases c:bU ((bT z).getD k à).Name=0
  · exact(jE c).2
  · rw[ae c] at h;exact absurd h c
theorem zh(w:c7 z=0)(b:k<(bT z).length):1<=((bT z).getD k à).Length/\dL z.A0 ((bT z).getD k à).Length=0/\((bT z).getD k à).Length<=36:=by
  have h:(bT z).getD k à∈bT z:=by rw[bX b];exact bx _
  have H:=mf.1 (pF.1 h)
  have f:=pT w (pt h)
  obtain⟨i,_,_⟩:=vv f H.1 H.2.1
  have a:=fV i
  have s:=bm (c5 w).1
  exact⟨a.1,i,ω⟩
theorem Lt(w:c7 z=0)(b:k<(cI z).length)(H:(((decide (((cI z).getD k à).Kind=2) && decide (((cI z).getD k à).Group=g)) || decide (((cI z).getD k à).Kind=4)))=ã):0<=((cI z).getD k à).Row/\((cI z).getD k à).Row<z.A0.Rows:=by
  obtain⟨r,a⟩:∃r,r=(cI z).getD k default:=⟨_,rfl⟩
  have m:r∈cI z:=by rw[a,bX b];exact bx _
  rw[<- a] at H ⊢
  have f:=pT w m
  have h:=tz f
  unfold fm at h
  simp at H
  rcases H with H|H
  · rw[ac ω,ae H.1] at h
    cases e:mv z.A0 r with
    | false=>rw[e] at h;exact absurd h dv
    | true=>
      unfold mv at e
      simp at e
      have:=bH.1 e.1.1.2;omega
  · rw[ac ω,ac ω,ac ω] at h
    cases e:gT z.A0 r with
    | false=>rw[e] at h;exact absurd h dv
    | true=>
      unfold gT at e
      simp at e
      have:=bH.1 e.1.1.1.2;omega
end
def cfQ (x y:Ac):Int:=Lib.compareInt x.r.Seq y.r.Seq
theorem Kz{x y:Ac}:cfQ x y<0↔x.r.Seq<y.r.Seq:=by
  unfold cfQ Lib.compareInt
  all_goals omega
theorem Sm:SWO (ltOf cfQ) where
  irrefl x:=by
    unfold ltOf
    rw[a8]
    rw[Kz];omega
  trans x y z h1 h2:=by
    unfold ltOf at *
    rw[ab,Kz] at *
    omega
  ntrans x y z h1 h2:=by
    unfold ltOf at *
    rw[aa,Kz] at *
    omega
theorem M3{P:Program}{c:Go.Shelf.Ren}{w:ä}{A:Option ô}{n C:Nat}{V:List Ac}{f:List Nat}{g:FuncId}(L:SlLaysF0.n6 P c)(E:∀w,(isAgg (c.t 24)).run P w = .ok ã w)(S:∀w,(Go.sizeOf (c.t 24)).run P w = .ok 9 w)(r:∀s w,(callFunc g s).run P w = .ok (.enter g s) w)
    (J:∀(W:ä) (x y:Ac),Calls P g #[.agg x.cs.toArray,.agg y.cs.toArray] W λe a=>e = .returned (.int .i64 (cfQ x y))/\∃q p,a=Go.Sort.grow (W.drewN q) p)
    (o:own ã w [.slice A n C] V f) (N:f.Nodup) (Y:V.length<=1000000):Ret P (c.f 6) #[.slice A n C,.func (.func g) #[] #[]] w λv a=>∃U:List Ac,Mut w a f [.slice A n C] U/\List.Perm U V:=by
  obtain rfl:=gA o
  by_cases t:V.length=0
  · have e:=List.eq_nil_of_length_eq_zero t
    subst e
    exact Calls.mono (Go.Proofs.AnyF.slices_SortFunc_none L A C _ w) λe a ⟨i,B⟩=>⟨_,i,[],by subst B;exact⟨Ext.refl,f,o,N,λb G => .inl G⟩,.refl _⟩
  · obtain⟨b,O,D⟩:=gq o 0 ω
    obtain rfl:A=á ⟨b,O,ç⟩:=D
    obtain⟨F,I⟩:=Mg o ω
    have M:∀u∈V,u.r.Ok:=λu j=>by
      obtain⟨k,K,e⟩:=ð j
      obtain⟨_,_,_,_,_,_,R,_⟩:=gh o k K
      rw[<- e];exact R.2.2
    have l:=Go.Proofs.AnyQ.slices_SortFunc L 9 E S Ac.cs (λ_=>rfl) (λ_ v hv=>Ac.one v hv) cfQ Sm g #[] b O C V.toArray w r (λm os T _ x y=>J _ x y) F I xw
    simp only[ĵ] at l
    refine Calls.mono l λe a ⟨i,d,n',p,H,X,Q⟩=>⟨_,i,d.toList,?_,?_⟩
    · have z:d.size=V.length:=by have:=H.1;simpa using this
      rw[Q]
      refine Jx o N ω z λu j=>M u ?_
      have h:=H.2.2
      rw[show d.extract 0 V.length=d by rw[<- z];simp] at h
      simpa using h.mem_iff.1 j
    · have z:d.size=V.length:=by have:=H.1;simpa using this
      have h:=H.2.2
      rw[show d.extract 0 V.length=d by rw[<- z];simp] at h
      simpa using h
theorem Pm{a:Type}{u V:List a}(h:u.Perm V)(H:V.length<=1):u=V:=by
  match V,H with
  | [],_=>exact h.eq_nil
  | [v],_=>exact List.perm_singleton.1 h
section
variable {p:Rec->Bool}{b:List Rec}{k:Nat}
theorem Sn(H:k<b.length)(h:∀i,i<k->p (b.getD i à)=â)(f:p (b.getD k à)=ã):b.find? p=á (b.getD k à):=by
  rw[List.find?_eq_some_iff_append]
  refine⟨f,b.take k,b.drop (k+1),?_,λa c=>?_⟩
  · rw[bX H]
    have:=List.take_append_drop k b
    rw[List.drop_eq_getElem_cons H] at this
    exact this.symm
  · obtain⟨i,d,e⟩:=ð c
    rw[aY] at d
    rw[List.getElem_take] at e
    have:=h i ω
    rw[bX ω,e] at this
    simp[this]
theorem Nc(h:∀i,i<b.length->p (b.getD i à)=â):b.find? p=none:=by
  rw[List.find?_eq_none]
  intro a c
  obtain⟨i,H,e⟩:=ð c
  have:=h i H
  rw[bX H,e] at this
  simp[this]
end
end Go.Wk
namespace Go.Wk
open Rp (sz own)
noncomputable def nxD (z:Wld) (g:Int):Rec:=(nxO z g).getD à
section
variable {z:Wld}{g:Int}{k:Nat}{r:Rec}
theorem TS(h:nxO z g=ç):nxD z g=default:=by unfold nxD;rw[h];rfl
theorem RH(h:nxO z g=á r):nxD z g=r:=by unfold nxD;rw[h];rfl
theorem Ik(h:k<(nj z g).length):(nj z g).getD k à∈bT z:=by
  have H:(nj z g).getD k à∈nj z g:=by rw[bX h];exact bx _
  exact(EQ.1 H).1
theorem PA(w:c7 z=0)(H:k<(nj z g).length):1<=((nj z g).getD k à).Length/\dL z.A0 ((nj z g).getD k à).Length=0/\((nj z g).getD k à).Length<=36:=by
  obtain⟨i,h,e⟩:=ð (Ik H)
  have:=zh w h
  rwa[bX h,e] at this
theorem Tp(H:fY z<=1048576)(h:k<(nj z g).length):fH ((nj z g).getD k à)<=1048576:=by
  have:=JS (pt (Ik h));omega
end
end Go.Wk
namespace Go.Wk
open Go.Proofs Rp Go.Proofs.Tryz
set_option maxRecDepth 10000
variable {z x:Wld}{W P X G d ft a_ a b_:List Nat}{Y M N O b T U Q o q w n C:Nat}{e B D E J R V A f k v:Option ô}{K:ByteArray}{L:List UInt8}{I:List Ac}{c g:Int}
theorem lm{w:ä}(zB:w.heap[Y]? = á (ay z V Q J T R U))(zK:z.Ok)(e_:ah w V z.A2 Q b_)(d_:ah w J z.On T a_)(O:ah w R z.A3 U a)(B:c7 z=0):am 91 [au Y,ag g] w λc_ w'=>Res w w' [c_] (iZ z g):=by
 have H:=cx zK;have X:=(c5 B).1;have S:=(c5 B).2.2.2.1;have W:=nF B;have l_:=bm X;have j_:=pz (z:=z);have g_:=jY (z:=z) S W;refine bv func91 Z (λf_ P hN=>?_);have H:=Sep.start (dc zB (aC e_ (aC d_ (aC O ba))));refine aG 41111458370 ?_;refine sV Z (Py.to (v' := ag (z.A0.Rows.toNat:Nat)) (bp tu2 Z (bD (H.Bd 0 Z) Z)) (congrArg (é .i64) ω)) (mj aB Z Tc PN Tm Z ω db H (λH r b c d=>aG 4692 ?_));refine sC func81 Z (ir (d.Bd 0 Z) η (aJ (d.Ab 1 Z)) (aJ (d.Ab 2 Z)) (aJ (d.Ab 3 Z)) ξ ξ) (λH r b=>?_);obtain⟨H,e,b,f,h⟩:=b;obtain⟨r,i⟩:=d.res H b;obtain⟨H,r,l⟩:=aL (i.A4 1 Z);cases l;have H:e.length=(bT z).length:=by rw[<- h,aS]
 have H:RdV w a e:=f.back i.ext (Rp.lt O);refine aG 116593407 ?_;refine fc (b:=Bool) (a:=Nat × List Bool) (λ(k,v)=>v) (0,_) i 0 Z 5 Z [(0,_),(1,_),(4,_),(22,_),(23,_)] bf (λ(k,v)=>[(24,ag k)]) (λ(k,v)=>k<=(bT z).length/\TkA z g k v) (λ(k,v)=>(bT z).length-k) ⟨Z,trivial⟩ ⟨bj,NY⟩ (λ(k,v) r b c m ⟨hk,E⟩=>?_);dsimp only[jf,lNA,lSZ,sk] at m ⊢;refine br 10441682 (λr=>?_) (λr=>?_)
 .obtain⟨r,b,c,k_,d,f,i,M⟩:=m.recF 3 Z (x:=(e.getD k à).r) (A6:=(e.getD k à).A6) (C6:=(e.getD k à).C6) (A7:=(e.getD k à).A7) (C7:=(e.getD k à).C7) (A8:=(e.getD k à).A8) (C8:=(e.getD k à).C8) ((H.to m.ext).Bi (k:=k) ω);unfold Ë at d f i;have hel:(e.getD k à).r=(bT z).getD k default:=ey h ω;have H:=pH B (k:=k) ω;have I:=MB B (k:=k) ω;rw[<- hel] at H I;obtain⟨H,r,b,c,d⟩:=M.B2 1 Z k ω;refine aG 71416433110878 ?_;refine cz aB Z Ä M (λH r b c d=>bw aB cy Z d 2 Z (λH r b=>aH (aW (ep b (oQ [1,3,5,7,9,11,15,12,16]) (λH n=>aX 0xb5bf52f66f52f4afb n ?_)))));refine dC func41 Z (gZ ω ω) (λH r o=>?_);obtain⟨p,rfl⟩:=o;have s:=n.to p;refine br 2667902735 (λH=>?_) (λH=>?_)
  .refine aX 0x6f312ff37f92 s ?_;refine fc (b:=Bool) (a:=Nat × List Bool) (λ(j,u)=>u) (0,v) s 0 Z 5 Z [(0,_),(1,_),(4,_),(22,_),(23,_),(24,_),(38,_),(39,_)] bf (λ(j,u)=>[(40,ag j)]) (λ(j,u)=>j<=(e.getD k à).r.Rows.length/\TkB z g k j u) (λ(j,u)=>(e.getD k à).r.Rows.length-j) ⟨Z,trivial⟩ ⟨bj,Np E⟩ (λ(j,u) H r b y ⟨hj,F⟩=>?_);dsimp only[jf,lNA,lSZ,sk] at y ⊢;refine br 10441682 (λH=>?_) (λH=>?_)
   .obtain⟨H,r,b,c⟩:=dW (y.Ab 4 Z) j ω;have i_:=I j ω;have L:=F.ln;obtain⟨H,r,A⟩:=aL (y.A4 0 Z);cases A;refine aG 0x438f3ef206f5e ?_;obtain⟨H,r,b,c⟩:=y6 (y.A4 0 Z) ((e.getD k à).r.Rows.getD j 0).toNat ω;refine ce (sR 2 Z (sV Z (bR Tc ts4 Z b ((e.getD k à).r.Rows.getD j 0).toNat ω ω) (w4 aB ts4 Z y 0 Z ((e.getD k à).r.Rows.getD j 0).toNat ω Z b Z N7 (λH r b c=>aG 203875 ?_))));have H:=Ow F qM (by rw[<- hel];exact(I j ω).1);rw[<- hel] at H;exact⟨((j+1,_),_,_),bf,⟨c,bj,H⟩,θ⟩
   refine bu (aG 12742 ?_);have H:=R3 F qM ω (by rw[<- hel];assumption);exact⟨((k+1,u),_,_),bf,⟨((y.Aq 4).dtake 2),bj,H⟩,θ⟩
  refine aG 203886 ?_;exact⟨((k+1,v),_,_),bf,⟨((s.Aq 4).dtake 2),bj,Pt E ω (by rw[<- hel];assumption)⟩,θ⟩
 refine bu (aW (aT (sM Z (sC func121 Z (ju (m.Bd 0 Z) η (aJ (m.Ab 1 Z)) (aJ (m.Ab 2 Z)) (aJ (m.Ab 3 Z)) ξ ξ) (λH r b=>?_)))));obtain⟨H,d,b,r,e⟩:=b;obtain⟨r,f⟩:=m.res H b;obtain⟨H,r,h⟩:=aL (f.A4 2 Z);cases h;have H:d.length=(cI z).length:=by rw[<- e,aS]
 refine aG 116593407 ?_;refine fc (b:=Bool) (a:=Nat × List Bool) (λ(k,v)=>v) (0,v) f 0 Z 5 Z [(1,_),(4,_),(50,_),(51,_)] bf (λ(k,v)=>[(52,ag k)]) (λ(k,v)=>k<=(cI z).length/\TkC z g k v) (λ(k,v)=>(cI z).length-k) ⟨Z,trivial⟩ ⟨bj,M0 E ω⟩ (λ(k,v) H r b c ⟨f,C⟩=>?_);dsimp only[jf,lNA,lSZ,sk] at c ⊢;refine br 10441682 (λH=>?_) (λH=>?_)
 .obtain⟨H,r,b,f,h⟩:=c.B2 2 Z k ω;refine aG 71416433110878 ?_;refine cz aB Z Ä c (λH r b f h=>bw aB cy Z h 3 Z (λH r b=>?_));have D:(d.getD k à).r=(cI z).getD k default:=ey e ω;refine aX 490207523 b ?_;refine cU 4 (j:=3) (E:=ã) (t:=63) Z (λH r=>ld 0x94f90fa3f9af b H r) (λH r=>?_);have H:=b.to r;refine sV Z (cX Z) (sM Z (cU 3 (j:=9) (E:=â) (t:=68) Z (λr b=>ld 39990852015 H r b) (λr b=>?_)));have i:=H.to b;refine br 11481951 (λl=>?_) (λl=>?_)
  .have G:(((decide (((cI z).getD k à).Kind=2) && decide (((cI z).getD k à).Group=g)) || decide (((cI z).getD k à).Kind=4)))=true:=by rw[<- D];simpa using l
   have N:=λq=>Lt B (k:=k) (g:=g) ω q
   have H:=N G;rw[<- D] at H;have L:=C.ln;obtain⟨H,r,m⟩:=aL (i.A4 0 Z);cases m;obtain⟨H,r,b,e⟩:=y6 (i.A4 0 Z) (d.getD k à).r.Row.toNat ω;refine aX 17166760214 i ?_;refine w4 aB ts4 Z i 0 Z (d.getD k à).r.Row.toNat ω Z b Z N7 (λH r b d=>?_);have H:=QL C ω G (N G).1;rw[<- D] at H;refine aG 203875 ?_;exact⟨((k+1,_),_,_),bf,⟨(d.dtake 3),bj,H⟩,θ⟩
  refine aG 203886 ?_;exact⟨((k+1,v),_,_),bf,⟨(i.dtake 3),bj,Qq C ω (by rw[<- D];simpa using l)⟩,θ⟩
 refine bu (aT (dG (f:=Int) aB Z cS bV c (λH r b c n=>?_)));obtain⟨H,r,o⟩:=aL (n.A4 0 Z);cases o;refine aG 7641065525844 ?_;refine fc (b:=Int) (a:=Nat) (λk=>(jF z g k)) 0 n 3 Z 12 Z [(4,_),(76,_),(77,_)] bf (λk=>[(78,ag k)]) (λk=>k<=z.A0.Rows.toNat/\True) (λk=>z.A0.Rows.toNat-k) ⟨Z,trivial⟩ ⟨ω,trivial⟩ (λk H r b d ⟨c,_⟩=>?_);dsimp only[jf,lNA,lSZ,sk] at d ⊢;refine br 10441682 (λH=>?_) (λH=>?_)
 .have L:=C.ln;have h_:=s5 (z:=z) (g:=g) k;obtain⟨H,r,b,c⟩:=y6 (d.A4 0 Z) k ω;refine aG 0x124738f3ef1206f5e ?_;refine sV Z (cj Z) (aH (gG Z (λH=>?_) (λH=>?_)))
  .refine ce (sR 2 Z (dx aB Z cS bV Z d (λr b c e f=>fC aB Z cS bV Z f 3 4 Z (mh l0) db ω (λr b c e=>aG 203876 ?_))));have K:=Dw (k:=k) (by rw[<- Lw C ω ω];simpa using H);exact⟨(k+1,_,_),bf,⟨by rw[K];exact(e.dtake 4),bj,trivial⟩,θ⟩
  refine aG 203886 ?_;have K:=Fm (k:=k) (by rw[<- Lw C ω ω];simpa using H);exact⟨(k+1,_,_),bf,⟨by rw[K];exact d,bj,trivial⟩,θ⟩
 refine bu (aT (sR 2 Z (rN P Z ?_)));have L:=C.ln;obtain rfl:k=z.A0.Rows.toNat:=by omega
 exact⟨d.ext,d.out 3 Z⟩

theorem jc{w:ä}(L:w.heap[Y]? = á (ay z V Q J T R U))(zK:z.Ok)(O:aj w V z.A2 Q)(M:aj w J z.On T)(N:aj w R z.A3 U)(X:z.A3.length=2):am 89 [au Y] w λv w'=>v = ag (rL z):=by
 obtain⟨H,a⟩:=O;obtain⟨H,c⟩:=M;obtain⟨H,d⟩:=N;refine bv func89 Z (λS u W=>?_);have e:=Sep.start (dc L (aC a (aC c (aC d ba))));obtain⟨H,a,c,d,f,g,h,i,j⟩:=cR (e.Ab 3 Z) 0 ω;obtain⟨k,l,m,rfl,n,o,p⟩:=fd h;refine aT (sA Z (aH (aW ?_)));have q:=e.look1 3 Z p (λb hb=>i b (by rw[n];simp[hb]));have H:=oL p;obtain⟨H,a,c,d,e,g,r,s,h⟩:=cR (q.Ab 3 Z) 1 ω;obtain⟨t,a_,x,rfl,y,A,B⟩:=fd r;have H:=q.look1 3 Z B (λb hb=>s b zn);have a:=oL B;refine ep H (oQ [1,3,5,7,9,11,13,17,19,21,23,25,27,29,14,30,33,35,36]) (λH C=>aX 394955541243 C ?_);refine dV Z (λP K=>bR jP yS Z f 0 ω ω) (aX 0x61f52f63f5bf52f4afb61f52f C ?_);refine dC func134 Z (wd (C.Ae 4 Z)) (λH a D=>?_);obtain⟨E,rfl⟩:=D;have F:=C.to E;refine dC func134 Z (wd (F.Ae 5 Z)) (λH a G=>?_);obtain⟨I,rfl⟩:=G;have H:=F.to I;refine dV Z (λP K=>TE Z Z) (aG 1332606223 ?_);refine rT u Z ?_;exact⟨H.ext,congrArg (é .i64) (by unfold rL;split<;>omega)⟩

theorem nz{w:ä}{m:Int}(K:w.heap[Y]? = á (ay z V Q J T R U))(zK:z.Ok)(N:aj w V z.A2 Q)(L:aj w J z.On T)(M:aj w R z.A3 U)(S:z.A3.length=2)(W:0<=m/\m<=10)(X:(z.A3.getD 0 à).Ah.length<=1000/\(z.A3.getD 1 à).Ah.length<=1000):am 102 [au Y,ag m] w λv w'=>v = .bool (eU z m):=by
 obtain⟨H,a⟩:=N;obtain⟨H,c⟩:=L;obtain⟨H,d⟩:=M;refine bv func102 Z (λO I P=>?_);have e:=Sep.start (dc K (aC a (aC c (aC d ba))));obtain⟨H,a,c,d,f,g,h,i,j⟩:=cR (e.Ab 3 Z) 0 ω;obtain⟨k,l,n,rfl,o,q,r⟩:=fd h;refine aT (sA Z (aH (aW ?_)));have s:=e.look1 3 Z r (λb G=>i b (by rw[o];simp[G]));refine aG 9596694 ?_;refine sLd jP (s.Bd 0 Z) Z (aG 8375186023748607 ?_);refine cZ (t:=16) Z (λu=>?_) (λu=>?_)
 .replace u:=φ u
  refine aG 0x432f88888888888 ?_;refine rT I Z ?_;exact⟨s.ext,congrArg ó (by unfold eU;rw[aU (p:=200<((z.A3.getD 0 à).Ah.length:Int)+m) u];rfl)⟩
 replace u:=φ u
 refine aG 41600350479 ?_;refine bc (wg Z) Z (bp jP Z (bD (s.Bd 0 Z) Z)) ?_;obtain⟨H,a,c,d,e,f,x,y,g⟩:=cR (s.Ab 3 Z) 1 ω;obtain⟨A,B,C,rfl,D,E,F⟩:=fd x;have H:=s.look1 3 Z F (λb G=>y b (by rw[D];simp[G]));refine aG 0x433f94f97f90f9bfa9f9afabf ?_;refine rT I Z ?_;exact⟨H.ext,congrArg ó (by unfold eU;rw[a8 (p:=200<((z.A3.getD 0 à).Ah.length:Int)+m) u];rfl)⟩

theorem rU{w:ä}{d:Bool}: am 166 [.bool d] w λv W=>v = ag (if d=ã then 0 else 9):=by
 refine bv func166 Z (λQ h N=>?_);have H:=Sep.start (w:=w) (F:=[]) σ;refine aG 75074 ?_;refine sV Z (cj Z) (aH (gG Z (λa=>?_) (λa=>?_)))
 .refine aT (rA h Z Z ?_);exact⟨H.ext,mZ⟩
 refine bi (aT (rA h Z Z ?_));exact⟨H.ext,mZ⟩

theorem vM{w:ä}(o:OwnW w Y 31 z W)(n:W.Nodup):Ret ê 242 #[au Y] w λv m=>(MutW w m W Y 31 (FQ z)):=by
 refine bv func242 Z (λQ p N=>?_);have H:=Sep.beginW o n;obtain⟨a,b,c,d,e,f,g,h,i,j,k⟩:=H.B3 0 Z;refine aG 153547030 ?_;refine cL aB ts4 Z k 0 Z (λH a b=>sV Z (pD Z) (sF eC Z eF (cL aB eF Z b 0 Z (λH a b=>aH (N _ _ (pR Z ?_))))));have H:=bt (b.nilW (a:=Int));obtain⟨a,b⟩:=H.Ar 0 2 5 4 (FQ z) Z (Cb j);have l:=b.Ax;exact l

theorem oI{w:ä}{y:Wld}{u:FuncId}{D:List è}{s:Func}(o:OwnW w Y 31 z W)(K:W.Nodup)(I:ê.funcs[u]? = á s)(E:s.body.isNone=â)(N:NG s)(G:∀r F,OwnW r Y 31 z F->F.Nodup->(∀x∈F,x∈W\/w.heap.size<=x)->Ext (· ∈ W) w r->Ret ê u D.toArray r λv C=>MutW r C F Y 31 y)(J:y.Aa<=2000000000):Ret ê 207 #[au Y,.func (.func u) #[] D.toArray] w λv C=>(v = .bool (!cN z)/\MutW w C W Y 31 (pk z y)):=by
 refine bv func207 Z (λQ A L=>?_);have H:=Sep.beginW o K;obtain⟨a,b,c,d,e,f,g,h,j,k,l⟩:=H.B3 0 Z;refine aT (sA Z (aH (aW (aW (ep l (oQ [1,3,5,7,9,11,13,15,17,19,21,23,25,27,29,30]) (λH a=>aX 0xb4cf5bf52f4afb a ?_))))));refine dU (t:=10) Z (λH=>?_) (λH=>?_)
 .replace H:=φ H
  refine ge 0x9f04f7afb8fc7fbefb6fb4fc7fbefb6fb4f a (λb=>?_) (λb=>?_)
  .have hnp:cN z=true:=uS ω ω;obtain⟨F,b⟩:=a.Ar 0 2 3 4 z Z k;refine aT (sM Z (sC func242 Z (vM (b.B1 0 Z) (b.Aj (i:=0) Z)) (λc r d=>?_)));have c:=d;obtain⟨d,e⟩:=b.Bb 0 Z c;refine aH (aT (rA A Z Z ?_));have q:=e.Ax;rw[<- lw (y:=y) hnp] at q;exact⟨kI,q⟩
  have hnp:cN z=false:=nD (.inr ω);obtain⟨b,c⟩:=bt (a.Ar 0 2 3 4 z Z k);refine bi (aT (sM Z (dE aB Z (ke (c:=D) Z I E N Z) (G _ _ (c.B1 0 Z) (c.Aj (i:=0) Z) (λx B=>c.new x (c.inB 0 Z B)) c.ext) (λb d e=>?_))));obtain⟨b,d⟩:=c.Bb 0 Z e;obtain⟨b,c,e,f,g,h,j,l,m,n,p⟩:=d.B3 0 Z;have b:=cx n;refine aX 0x926fc37f926f123 p ?_;refine cL aB ts2 Z p 0 Z (λb c d=>aH (aT (rA A Z Z ?_)));obtain⟨b,c⟩:=bt (d.Ar 0 6 7 8 (kR y) Z (rV n J));have q:=c.Ax;rw[<- eW hnp] at q;exact⟨kI,q⟩
 replace H:=φ H
 refine aG 0x4f7bfaaaaaaaaa ?_;refine gW Z ?_;have hnp:cN z=false:=nD (.inl ω);obtain⟨H,b⟩:=a.Ar 0 2 3 4 z Z k;refine bi (aT (sM Z (dE aB Z (ke (c:=D) Z I E N Z) (G _ _ (b.B1 0 Z) (b.Aj (i:=0) Z) (λx B=>b.new x (b.inB 0 Z B)) b.ext) (λH a c=>?_))));obtain⟨H,a⟩:=b.Bb 0 Z c;obtain⟨H,b,c,d,e,f,g,h,j,k,l⟩:=a.B3 0 Z;have H:=cx k;refine aX 0x926fc37f926f123 l ?_;refine cL aB ts2 Z l 0 Z (λH a b=>?_);replace b:=bt b;refine aH (aT (rA A Z Z ?_));obtain⟨H,a⟩:=b.Ar 0 6 7 8 (kR y) Z (rV k J);have q:=a.Ax;rw[<- eW hnp] at q;exact⟨kI,q⟩

theorem τ5 {p:Prop}(h:p:=by exact λ_ hb=>by rw[hb];exact List.mem_cons_self):p:=h
theorem oM{w:ä}{t o p v:Nat}{r:Rec}(e_:OwnW w Y 31 z W)(nd:W.Nodup)(h1:w.heap[o]? = á (.cells [au Y].toArray 71))(Q:o ∉ W)(h2:w.heap[p]? = á (.cells [ag (t:Nat)].toArray 2))(V:p ∉ W)(h3:w.heap[v]? = á (aA r B M D N E O))(d3:v ∉ W)(j_:ah w B r.Rows M P)(g_:∀b∈P,b ∉ W)(k_:ah w D r.Data N X)(h_:∀b∈X,b ∉ W)(l_:ah w E r.Ad O G)(i_:∀b∈G,b ∉ W)(rK:r.Ok)(ht:t<z.A3.length)(k:fH r<=1048576)(hl:(z.A3.getD t à).Ah.length<=100000):Ret ê 208 #[au o,au p,au v] w λw_ w'=>(MutW w w' W Y 31 (layT t r z)):=by
 have H:=cx rK;refine bv func208 Z (λv_ hQ y=>?_);have H:=(((((((Sep.beginW e_ nd).boxF h1 Q).boxF h2 V).boxF h3 d3).seeF j_ g_).seeF k_ h_).seeF l_ i_);obtain⟨a,c,d,f,g,a_,b_,c_,d_,m,n⟩:=H.B3 0 Z;obtain⟨H,a,c,d,f,g,a_,b_,c_,d_,f_⟩:=Tape.focus n 4 Z t ω;refine aW (ep f_ (oQ [1,3,5,7,9,11,12]) (λH q=>aX 0x4f6df62f5bf5bf52f4af5bf q ?_));refine eE (S:=q.S2 4 6) (oQ [1,3,5,7,9,13,2020,10,14,16,18,21,23,24,27,29,30,14,2018,10,16,18,21,23,24,27,29,30,16,10,18,21,23,24,27,29,30]) κ κ κ Z (λ_=>show q.S2 4 6 _ from Ext.refl.drawn _) (λH=>?_);have s:=q.drawn H;refine aX 0x68f52f4afbbb q ?_;refine dF Z ?_ ?_
 .refine aX 2095 s ?_;refine cb Z aB Z (pcK func111 Z) (jG η (s.Ae 3 Z) (s.Ae 4 Z) (s.Ae 5 Z) ξ) (λK _ _ r _=>q.s2Call K r.1) (λH a u=>?_);obtain⟨x,x_,A,m_,C,n_,o_,rfl,u⟩:=u;obtain⟨H,a⟩:=s.res x u;refine dB Z aB Z cd be Z a (λ_ h e=>q.s2Call h e) (λo H a c d=>kj Z aB Z cd be Z d 6 8 7 Z db ω (λ_ h e=>q.s2In h 6 Z (.inr Z) e (λ_ k=>k)) (λH a c F=>?_));obtain⟨H,a,L⟩:=aL (F.A4 6 Z);cases L;refine dV Z (λj i=>pD Z) (dV Z (λj i=>bd FZ Z rJ Z) (jy Z aB rJ F 4 1 Z (λ_ h e _=>q.s2In h 4 Z (.inl Z) e τ5) (λH a=>?_)));replace a:=bt a;refine dV Z (λj i=>pD Z) (dV Z (λj i=>bd FZ Z ts4 Z) (jy Z aB ts4 a 4 0 Z (λ_ h e _=>q.s2In h 4 Z (.inl Z) e τ5) (λH a=>dO (y _ _ (pR Z ?_)))));obtain⟨H,c⟩:=Tape.fill a 4 6 Z Z Z trivial;obtain⟨H,a⟩:=c.Ar 0 2 3 4 (layT t r z) Z (sy m);have l:=a.Ax;exact l
 refine cb Z aB Z (pcK func111 Z) (jG η (s.Ae 3 Z) (s.Ae 4 Z) (s.Ae 5 Z) ξ) (λK _ _ r _=>q.s2Call K r.1) (λH a I=>?_);obtain⟨J,p_,q_,r_,s_,t_,u_,rfl,I⟩:=I;obtain⟨H,R⟩:=s.res J I;refine dF Z ?_ ?_
 .refine aX 2095 R ?_;refine dB Z aB Z cd be Z R (λ_ h e=>q.s2Call h e) (λp H a c d=>kj Z aB Z cd be Z d 6 8 7 Z db ω (λ_ h e=>q.s2In h 6 Z (.inr Z) e (λ_ k=>k)) (λH a c T=>?_));obtain⟨H,a,U⟩:=aL (T.A4 6 Z);cases U;refine dV Z (λj i=>pD Z) (dV Z (λj i=>bd FZ Z rJ Z) (jy Z aB rJ T 4 1 Z (λ_ h e _=>q.s2In h 4 Z (.inl Z) e τ5) (λH a=>?_)));replace a:=bt a;refine dV Z (λj i=>pD Z) (dV Z (λj i=>bd FZ Z ts4 Z) (jy Z aB ts4 a 4 0 Z (λ_ h e _=>q.s2In h 4 Z (.inl Z) e τ5) (λH a=>dO (y _ _ (pR Z ?_)))));obtain⟨H,c⟩:=Tape.fill a 4 6 Z Z Z trivial;obtain⟨H,a⟩:=c.Ar 0 2 3 4 (layT t r z) Z (sy m);have l:=a.Ax;exact l
 refine dB Z aB Z cd be Z R (λ_ h e=>q.s2Call h e) (λv H a c d=>aX 2095 d ?_);refine kj Z aB Z cd be Z d 6 8 7 Z db ω (λ_ h e=>q.s2In h 6 Z (.inr Z) e (λ_ k=>k)) (λH a c f=>?_);obtain⟨H,a,g⟩:=aL (f.A4 6 Z);cases g;refine dV Z (λj i=>pD Z) (dV Z (λj i=>bd FZ Z rJ Z) (jy Z aB rJ f 4 1 Z (λ_ h e _=>q.s2In h 4 Z (.inl Z) e τ5) (λH a=>?_)));replace a:=bt a;refine dV Z (λj i=>pD Z) (dV Z (λj i=>bd FZ Z ts4 Z) (jy Z aB ts4 a 4 0 Z (λ_ h e _=>q.s2In h 4 Z (.inl Z) e τ5) (λH a=>dO (y _ _ (pR Z ?_)))));obtain⟨H,c⟩:=Tape.fill a 4 6 Z Z Z trivial;obtain⟨H,a⟩:=c.Ar 0 2 3 4 (layT t r z) Z (sy m);have l:=a.Ax;exact l

theorem kS{w:ä}{t:Nat}{r:Rec}(o:OwnW w Y 31 z W)(s:W.Nodup)(K:r.Ok)(A:ah w B r.Rows M P)(R:∀b∈P,b ∉ W)(C:ah w D r.Data N X)(u:∀b∈X,b ∉ W)(F:ah w E r.Ad O G)(x:∀b∈G,b ∉ W)(q:t<z.A3.length)(n:fH r<=1048576)(p:(z.A3.getD t à).Ah.length<=100000)(L:z.Aa<=2000000000):Ret ê 167 #[au Y,ag t,r.val B M D N E O] w λv I=>(v = .bool (!cN z)/\MutW w I W Y 31 (gc t r z)):=by
 refine bv func167 Z (λQ m J=>?_);have H:=(((Sep.beginW o s).seeF (A) R).seeF (C) u).seeF (F) x;refine aT (ci aB Z H (λH a c d e=>ci aB Z e (λH d e f g=>ci aB Z g (λH d e f h=>aX 229156 h ?_))));refine sV Z (qo Z) (sC func207 Z (oI (h.B1 0 Z) (h.Aj (i:=0) Z) (y:=layT t r z) func208 Z K4 (λa j H a d c=>oM H a (h.boxFar 0 1 Z d c).1 (h.boxFar 0 1 Z d c).2 (h.boxFar 0 2 Z d c).1 (h.boxFar 0 2 Z d c).2 (h.boxFar 0 3 Z d c).1 (h.boxFar 0 3 Z d c).2 (h.seeFar 0 0 Z Z d c).1 (h.seeFar 0 0 Z Z d c).2 (h.seeFar 0 1 Z Z d c).1 (h.seeFar 0 1 Z Z d c).2 (h.seeFar 0 2 Z Z d c).1 (h.seeFar 0 2 Z Z d c).2 K q n p) ξ) (λH a k=>?_));obtain⟨rfl,l⟩:=k;obtain⟨j,H⟩:=h.Bb 0 Z l;exact sA Z (aH (rT m Z ⟨Z,H.Ax⟩))

theorem t6{w:ä}{r:Rec}(o:OwnW w Y 31 z W)(q:W.Nodup)(K:r.Ok)(u:ah w B r.Rows M P)(R:∀b∈P,b ∉ W)(x:ah w D r.Data N X)(s:∀b∈X,b ∉ W)(y:ah w E r.Ad O G)(t:∀b∈G,b ∉ W)(n:dI z=ã)(T:z.A3.length=2)(F:fH r<=1048576)(I:z.Aa<=1500000000):Ret ê 112 #[au Y,r.val B M D N E O] w λv A=>(v = ag 2/\MutW w A W Y 31 (z)):=by
 refine bv func112 Z (λQ m C=>?_);have H:=(((Sep.beginW o q).seeF (u) R).seeF (x) s).seeF (y) t;refine aT (ci aB Z H (λH a c d e=>?_));obtain⟨H,a,c,d,f,g,h,i,j,k,l⟩:=e.B3 0 Z;have H:=cx k;refine aG 4692 ?_;refine sE func89 Z (jc (l.box 0 Z) η (l.As 3 Z) (l.As 4 Z) (l.As 5 Z) ξ) l (λH a c=>br 40765 (λH=>?_) (λH=>?_))
 .refine aT (rA m Z Z ?_);obtain⟨a,d⟩:=c.Ar 0 3 4 5 z Z k;have p:=d.Ax;exact⟨Z,p⟩
 exact absurd (QI H) (by simp[n])

theorem vQ{w:ä}{r:Rec}(o:OwnW w Y 31 z W)(F:W.Nodup)(K:r.Ok)(L:ah w B r.Rows M P)(R:∀b∈P,b ∉ W)(S:ah w D r.Data N X)(I:∀b∈X,b ∉ W)(T:ah w E r.Ad O G)(J:∀b∈G,b ∉ W)(C:dI z=â)(hT:z.A3.length=2)(h:fH r<=1048576)(hw:z.Aa<=1500000000):Ret ê 112 #[au Y,r.val B M D N E O] w λv U=>(v = ag (if jL z r=ã then 0 else 9)/\MutW w U W Y 31 (lj z r)):=by
 have H:=cx K;have aw:=(lW (t:=0) (r:=r) (z:=z)).2;have a_:=kL (t:=0) (r:=r) (z:=z);have V:=zS (t:=0) (u:=1) (r:=r) (z:=z);have c_:=ui C;refine bv func112 Z (λQ k hN=>?_);have H:=(((Sep.beginW o F).seeF (L) R).seeF (S) I).seeF (T) J;refine aT (ci aB Z H (λH a c d e=>?_));obtain⟨H,a,c,d,b_,g,d_,e_,f_,l,m⟩:=e.B3 0 Z;have H:=cx l;refine aG 4692 ?_;refine sE func89 Z (jc (m.box 0 Z) η (m.As 3 Z) (m.As 4 Z) (m.As 5 Z) ξ) m (λH a c=>br 40765 (λH=>?_) (λH=>?_))
 .exact absurd (N1 H) (by simp[C])
 refine aX 4321582 c ?_;obtain⟨H,n⟩:=c.Ar 0 3 4 5 z Z l;refine sC func167 Z (kS (n.B1 0 Z) (n.Aj (i:=0) Z) η (aJ (n.Ab 0 Z)) (λb h=>n.off 0 Z 0 Z h) (aJ (n.Ab 1 Z)) (λb h=>n.off 1 Z 0 Z h) (aJ (n.Ab 2 Z)) (λb h=>n.off 2 Z 0 Z h) ξ ξ ξ ξ (t:=0)) (λH a p=>?_);obtain⟨rfl,q⟩:=p;obtain⟨H,s⟩:=bt (n.Bb 0 Z q);refine sM Z (cZ (t:=11) Z (λx=>?_) (λx=>?_))
 .replace x:=φ x
  refine aX 11401487 s ?_;refine dE (wg Z) Z (pcK func167 Z) (kS (s.B1 0 Z) (s.Aj (i:=0) Z) η (aJ (s.Ab 0 Z)) (λb h=>s.off 0 Z 0 Z h) (aJ (s.Ab 1 Z)) (λb h=>s.off 1 Z 0 Z h) (aJ (s.Ab 2 Z)) (λb h=>s.off 2 Z 0 Z h) ξ ξ ξ ξ (t:=1)) (λH a y=>?_);obtain⟨rfl,A⟩:=y;obtain⟨H,a⟩:=s.Bb 0 Z A;refine sV Z (dJ Z Z) (sE func166 Z rU a (λH a c=>rA k Z Z ?_));have f:cN z=false:=by simpa using x
  have j:=c.Ax;rw[<- (nW (r:=r) f).1] at j;exact⟨(by rw[(nW (r:=r) f).2]),j⟩
 replace x:=φ x
 refine aG 3405960 ?_;refine sE func166 Z rU s (λH a c=>rA k Z Z ?_);have f:cN z=true:=by simpa using x
 have j:=c.Ax;rw[<- (vB (r:=r) f).1] at j;exact⟨(by rw[(vB (r:=r) f).2]),j⟩

theorem nI{W:ä}(K:x.Ok)(i:aj W v x.A2 w)(X:aj W f x.On o)(g:aj W k x.A3 q)(j:c≠0/\c≠9):am 35 [x.val v w f o k q,ag c] W λV l=>V=(⟨c,noWld⟩:WldResult).val ç 0 ç 0 ç 0:=by
 obtain⟨H,a⟩:=i;obtain⟨H,b⟩:=X;obtain⟨H,d⟩:=g;refine bv func35 Z (λQ h N=>?_);have H:=Sep.start (aC a (aC b (aC d ba)));refine aT (ci aB Z H (λH a b d e=>cz aB Z Č e (λH a b d e=>aG 1905235 ?_)));refine cZ (t:=7) Z (λH=>?_) (λH=>?_)
 .replace H:=φ H
  refine br 0x9f332f94f90f (λH=>?_) (λH=>?_)
  .exact aT (sM Z (sV Z (bM dQ Z Z) (bw aB jl Z e 1 Z (λH a b=>aH (dT h (b.box 1 Z) Z ⟨b.ext,Z⟩)))))
  exfalso;simp_all
 exfalso;simp_all

theorem mU{W:ä}(K:x.Ok)(i:aj W v x.A2 w)(X:aj W f x.On o)(g:aj W k x.A3 q)(j:c=0\/c=9):am 35 [x.val v w f o k q,ag c] W λV l=>V=(⟨c,x⟩:WldResult).val v w f o k q:=by
 obtain⟨H,a⟩:=i;obtain⟨H,b⟩:=X;obtain⟨H,d⟩:=g;refine bv func35 Z (λQ h N=>?_);have H:=Sep.start (aC a (aC b (aC d ba)));refine aT (ci aB Z H (λH a b d e=>cz aB Z Č e (λH a b d e=>aG 1905235 ?_)));refine cZ (t:=7) Z (λH=>?_) (λH=>?_)
 .replace H:=φ H
  refine br 0x9f332f94f90f (λa=>?_) (λa=>?_)
  .exfalso;simp_all
  refine aX 4321582 e ?_;exact sV Z (bM dQ Z Z) (bw aB jl Z e 1 Z (λa b d=>aH (dT h (d.box 1 Z) Z ⟨d.ext,Z⟩)))
 replace H:=φ H
 refine aG 3358600 ?_;refine gW Z (aX 4321582 e ?_);exact sV Z (bM dQ Z Z) (bw aB jl Z e 1 Z (λH a b=>aH (dT h (b.box 1 Z) Z ⟨b.ext,Z⟩)))

theorem oe{w:ä}(o:OwnW w Y 31 z W)(N:W.Nodup)(r:z.Down=â)(n:z.Aa<=2000000000):Ret ê 154 #[au Y] w λv p=>(v = .bool (!cN z)/\MutW w p W Y 31 (pk z z)):=by
 refine bv func154 Z (λQ m q=>?_);have H:=Sep.beginW o N;obtain⟨a,b,c,d,e,f,g,h,i,j,k⟩:=H.B3 0 Z;have H:=cx j;refine ge 0xaf337f926f12542 k (λH=>?_) (λH=>?_)
 .exfalso;simp_all
 refine bi (aW (aW (ep k (oQ [1,3,5,7,9,11,13,15,17,19,21,23,25,27,29,30]) (λH a=>aX 0xb4cf5bf52f4afb a ?_))));refine dU (t:=12) Z (λH=>?_) (λH=>?_)
 .replace H:=φ H
  refine ge 0x9f04f7afb8fc7fbefb6fb4fc7fbefb6fb4f a (λb=>?_) (λb=>?_)
  .have hnp:cN z=true:=uS ω ω;refine aG 9596690 ?_;refine cL aB ts4 Z a 0 Z (λb c d=>aG 153547043 ?_);refine cL aB eF Z d 0 Z (λb c d=>aH (aT (rA m Z Z ?_)));have b:=bt (d.nilW (a:=Int));obtain⟨c,d⟩:=b.Ar 0 2 5 4 (FQ z) Z (Cb j);have l:=d.Ax;rw[<- lw (y:=z) hnp] at l;exact⟨kI,l⟩
  have hnp:cN z=false:=nD (.inr ω);refine aX 0x926fc37f926f112e a ?_;refine cL aB ts2 Z a 0 Z (λb c d=>aH (aT (rA m Z Z ?_)));obtain⟨b,c⟩:=d.Ar 0 2 3 4 (kR z) Z (rV j n);have l:=c.Ax;rw[<- eW hnp] at l;exact⟨kI,l⟩
 replace H:=φ H
 refine aG 0x4f7bfaaaaaaaaa ?_;refine gW Z ?_;have hnp:cN z=false:=nD (.inl ω);refine aX 0x926fc37f926f112e a ?_;refine cL aB ts2 Z a 0 Z (λH a b=>?_);replace b:=bt b;refine aH (aT (rA m Z Z ?_));obtain⟨H,a⟩:=b.Ar 0 2 3 4 (kR z) Z (rV j n);have l:=a.Ax;rw[<- eW hnp] at l;exact⟨kI,l⟩

theorem pW{w:ä}{t:Nat}{r:Rec}(a_:OwnW w Y 31 z W)(nd:W.Nodup)(rK:r.Ok)(f_:ah w B r.Rows M P)(c_:∀b∈P,b ∉ W)(g_:ah w D r.Data N X)(d_:∀b∈X,b ∉ W)(h_:ah w E r.Ad O G)(e_:∀b∈G,b ∉ W)(hd:z.Down=â)(T:t<z.A3.length)(q:fH r<=1048576)(R:(z.A3.getD t à).Ah.length<=100000)(hw:z.Aa<=2000000000):Ret ê 155 #[au Y,ag t,r.val B M D N E O] w λi_ w'=>(i_ = .bool (!cN z)/\MutW w w' W Y 31 (gc t r z)):=by
 have H:=cx rK;refine bv func155 Z (λs_ Q hN=>?_);have H:=(((Sep.beginW a_ nd).seeF (f_) c_).seeF (g_) d_).seeF (h_) e_;refine aT (ci aB Z H (λH a c d f=>aG 4692 ?_));refine sC func154 Z (oe (f.B1 0 Z) (f.Aj (i:=0) Z) ξ ξ) (λH a g=>?_);obtain⟨rfl,j⟩:=g;obtain⟨H,a⟩:=f.Bb 0 Z j;refine sV Z (cj Z) (aH (gG Z (λH=>?_) (λH=>?_)))
 .refine aT (rA Q Z Z ?_);have hnp:cN z=true:=by simpa using H
  have o:=a.Ax;rw[lw hnp] at o;exact⟨kI,(by unfold gc;rw[lw hnp];exact o)⟩
 have hnp:cN z=false:=by simpa using H
 obtain⟨k,l⟩:∃k,k=kR z:=⟨_,Z⟩;have v:=a;rw[eW hnp,<- l] at v;refine bi (aW ?_);have H:t<k.A3.length:=by rw[l];exact T
 have H:(k.A3.getD t à).Ah.length<=100000:=by rw[l];exact R
 obtain⟨H,a,c,d,f,g,j,m,n,p,b_⟩:=v.B3 0 Z;obtain⟨H,a,c,d,f,g,j,m,n,v_,u⟩:=bt (Tape.focus b_ 5 Z t ω);refine eE (S:=u.S2 5 7) (oQ [1,3,5,7,9,11,13,15,17,19,21,23,27,2014,24,28,30,32,35,37,38,28,2012,24,30,32,35,37,38,30,24,32,35,37,38]) κ κ κ Z (λ_=>show u.S2 5 7 _ from Ext.refl.drawn _) (λH=>?_);have x:=u.drawn H;refine aX 0x68f52f62fb67f52f4afbb67f52f4afb u ?_;refine dF Z ?_ ?_
 .refine aX 2095 x ?_;refine cb Z aB Z (pcK func116 Z) (gx η (x.Ae 0 Z) (x.Ae 1 Z) (x.Ae 2 Z) ξ) (λs _ _ r _=>u.s2Call s r.1) (λH a y=>?_);obtain⟨A,j_,C,k_,l_,m_,n_,rfl,y⟩:=y;obtain⟨H,a⟩:=x.res A y;refine dB Z aB Z cd be Z a (λ_ h e=>u.s2Call h e) (λH a c d f=>kj Z aB Z cd be Z f 7 9 8 Z db ω (λ_ h e=>u.s2In h 7 Z (.inr Z) e (λ_ q=>q)) (λH a c I=>?_));obtain⟨H,a,J⟩:=aL (I.A4 7 Z);cases J;refine aG 5436975 ?_;refine jy Z aB rJ I 5 1 Z (λ_ h e _=>u.s2In h 5 Z (.inl Z) e τ5) (λH a=>aX 0x93ef137f926f1204f a ?_);refine mo aB ts4 a 5 0 Z (λH a=>aH (aT (rA Q Z Z ?_)));obtain⟨H,c⟩:=Tape.fill a 5 7 Z Z Z trivial;obtain⟨H,a⟩:=bt (c.Ar 0 3 4 5 (layT t r k) Z (sy p));have o:=a.Ax;rw[show layT t r k=gc t r z from by unfold gc;rw[eW hnp,l];rfl] at o;exact⟨kI,o⟩
 refine cb Z aB Z (pcK func116 Z) (gx η (x.Ae 0 Z) (x.Ae 1 Z) (x.Ae 2 Z) ξ) (λs _ _ r _=>u.s2Call s r.1) (λH a K=>?_);obtain⟨L,o_,p_,q_,r_,t_,u_,rfl,K⟩:=K;obtain⟨H,U⟩:=x.res L K;refine dF Z ?_ ?_
 .refine aX 2095 U ?_;refine dB Z aB Z cd be Z U (λ_ h e=>u.s2Call h e) (λH a c d f=>kj Z aB Z cd be Z f 7 9 8 Z db ω (λ_ h e=>u.s2In h 7 Z (.inr Z) e (λ_ q=>q)) (λH a c V=>?_));obtain⟨H,a,F⟩:=aL (V.A4 7 Z);cases F;refine aG 5436975 ?_;refine jy Z aB rJ V 5 1 Z (λ_ h e _=>u.s2In h 5 Z (.inl Z) e τ5) (λH a=>aX 0x93ef137f926f1204f a ?_);refine mo aB ts4 a 5 0 Z (λH a=>aH (aT (rA Q Z Z ?_)));obtain⟨H,c⟩:=Tape.fill a 5 7 Z Z Z trivial;obtain⟨H,a⟩:=bt (c.Ar 0 3 4 5 (layT t r k) Z (sy p));have o:=a.Ax;rw[show layT t r k=gc t r z from by unfold gc;rw[eW hnp,l];rfl] at o;exact⟨kI,o⟩
 refine dB Z aB Z cd be Z U (λ_ h e=>u.s2Call h e) (λH a c d f=>aX 2095 f ?_);refine kj Z aB Z cd be Z f 7 9 8 Z db ω (λ_ h e=>u.s2In h 7 Z (.inr Z) e (λ_ q=>q)) (λH a c g=>?_);obtain⟨H,a,j⟩:=aL (g.A4 7 Z);cases j;refine aG 5436975 ?_;refine jy Z aB rJ g 5 1 Z (λ_ h e _=>u.s2In h 5 Z (.inl Z) e τ5) (λH a=>aX 0x93ef137f926f1204f a ?_);refine mo aB ts4 a 5 0 Z (λH a=>aH (aT (rA Q Z Z ?_)));obtain⟨H,c⟩:=Tape.fill a 5 7 Z Z Z trivial;obtain⟨H,a⟩:=bt (c.Ar 0 3 4 5 (layT t r k) Z (sy p));have o:=a.Ax;rw[show layT t r k=gc t r z from by unfold gc;rw[eW hnp,l];rfl] at o;exact⟨kI,o⟩

theorem oF{w:ä}{r:Rec}(o:OwnW w Y 31 z W)(y:W.Nodup)(K:r.Ok)(F:ah w B r.Rows M P)(R:∀b∈P,b ∉ W)(I:ah w D r.Data N X)(A:∀b∈X,b ∉ W)(J:ah w E r.Ad O G)(C:∀b∈G,b ∉ W)(x:dI z=â)(s:z.Down=â)(hT:z.A3.length=2)(m:fH r<=1048576)(hw:z.Aa<=1500000000):Ret ê 103 #[au Y,r.val B M D N E O] w λv L=>(v = .bool (jL z r)/\MutW w L W Y 31 (lj z r)):=by
 have H:=cx K;have V:=(lW (t:=0) (r:=r) (z:=z)).2;have U:=kL (t:=0) (r:=r) (z:=z);have T:=zS (t:=0) (u:=1) (r:=r) (z:=z);have a_:=ui x;refine bv func103 Z (λQ q hN=>?_);have H:=(((Sep.beginW o y).seeF (F) R).seeF (I) A).seeF (J) C;refine aT (ci aB Z H (λH a c d e=>aX 4321572 e ?_));refine sC func155 Z (pW (e.B1 0 Z) (e.Aj (i:=0) Z) η (aJ (e.Ab 0 Z)) (λb m=>e.off 0 Z 0 Z m) (aJ (e.Ab 1 Z)) (λb m=>e.off 1 Z 0 Z m) (aJ (e.Ab 2 Z)) (λb m=>e.off 2 Z 0 Z m) ξ ξ ξ ξ ξ (t:=0)) (λH a f=>?_);obtain⟨rfl,g⟩:=f;obtain⟨H,h⟩:=e.Bb 0 Z g;refine sM Z (cZ (t:=8) Z (λj=>?_) (λj=>?_))
 .have H:cN z=false:=by simpa using j
  have S:(gc 0 r z).Down=false:=(vH (t:=0) (r:=r) H).trans s;refine aX 11401487 h ?_;refine dE (wg Z) Z (pcK func155 Z) (pW (h.B1 0 Z) (h.Aj (i:=0) Z) η (aJ (h.Ab 0 Z)) (λb m=>h.off 0 Z 0 Z m) (aJ (h.Ab 1 Z)) (λb m=>h.off 1 Z 0 Z m) (aJ (h.Ab 2 Z)) (λb m=>h.off 2 Z 0 Z m) ξ ξ ξ ξ ξ (t:=1)) (λH a k=>?_);obtain⟨rfl,l⟩:=k;obtain⟨H,a⟩:=h.Bb 0 Z l;refine sV Z (dJ Z Z) (rA q Z Z ?_);have p:cN z=false:=by simpa using j
  have n:=a.Ax;rw[<- (nW (r:=r) p).1] at n;exact⟨(by rw[(nW (r:=r) p).2]),n⟩
 replace j:=φ j
 refine aG 70514824 ?_;refine rT q Z ?_;have p:cN z=true:=by simpa using j
 have n:=h.Ax;rw[<- (vB (r:=r) p).1] at n;exact⟨(by rw[(vB (r:=r) p).2]),n⟩

theorem yO{w:ä}{X:List Rec}{q:Int}(S:aj w e X b):am 149 [ak e X b,ag q,ag g] w λv W=>v = .bool (X.any (dnP q g)):=by
 have V:=sL S;obtain⟨d,R⟩:=S;refine bv func149 Z (λQ M T=>?_);have H:=Sep.start (aC R ba);refine aG 116663618 ?_;refine dr (a:=Nat) H [(0,_),(1,_),(2,_)] bf (λk=>[(7,ag k)]) (λk=>k<=X.length/\(∀i,i<k->dnP q g (X.getD i à)=â)) (λk=>X.length-k) 0 ⟨Z,trivial⟩ ⟨ω,λi O=>by omega⟩ (λk H a ⟨U,N⟩=>?_);dsimp only[jf,lNA];refine br 0x9f3d2ff1125 (λH=>?_) (λH=>?_)
 .obtain⟨H,c,J,f,h,l,m,n,o⟩:=cR (a.Ab 0 Z) k ω;obtain⟨p,r,s,u,x,y,z,A,B,rfl,C,D,E,F,G⟩:=dX m;have H:=cx D;refine bi (aW (bP (aW ?_)));have H:=a.look1 0 Z E (λK hb=>n K qR);have c:=oL E;have c:=H.look1 0 Z F (λK hb=>n K qR);have H:=oL F;have H:=c.look1 0 Z G (λK hb=>n K qR);have c:=oL G;refine aG 32147716894998 ?_;refine cU 7 (j:=6) (E:=ã) (t:=27) Z (λc J=>bc (wgE Z c) Z (bL Z) (bc (wgE Z c) Z (bL Z) (bc (wgE Z c) Z (bR cd cy Z h k GJ ω) (bc (wgE Z c) Z (bd cu Z ts2 Z) (bc (wgE Z c) Z (bp tu2 Z (gJ l 1 Z)) (bc (wgE Z c) Z (bL Z) (bc (wgE Z c) Z (ji Z Z) (J _ _ gP Z Ext.refl)))))))) (λc J=>?_);have c:=H.to J;refine sV Z (cX Z) (sM Z (cU 7 (j:=15) (E:=ã) (t:=36) Z (λH f=>bc (wgE Z H) Z (bL Z) (bc (wgE Z H) Z (bL Z) (bc (wgE Z H) Z (bR cd cy Z h k wY ω) (bc (wgE Z H) Z (bd cu Z ts2 Z) (bc (wgE Z H) Z (bp tu2 Z (gJ (J.at l) 4 Z)) (bc (wgE Z H) Z (bL Z) (bc (wgE Z H) Z (ji Z Z) (f _ _ gP Z Ext.refl)))))))) (λH J=>?_)));have H:=c.to J;refine br 11481935 (λI=>?_) (λI=>?_)
  .refine aT (rA M Z Z ?_);exact⟨H.ext,congrArg ó (by rw[Jy (k:=k) ω (by have L:=I;simpa[dnP,Õ] using L)])⟩
  refine aG 311662 ?_;refine⟨k+1,bf,⟨(H.Aq 1),ω,λi O=>?_⟩,θ⟩
  by_cases P:i=k
  .subst P;have L:=I
   simpa[dnP,Õ] using L
  exact N i ω
 exact bu (aT (sA Z (aH (rT M Z ⟨a.ext,congrArg ó (by rw[EO (λi O=>N i ω)])⟩))))

theorem wI{w:ä}{X:List Rec}(S:aj w e X b):am 172 [ak e X b,.string K] w λv W=>v = ag (jz (itP K) X):=by
 have L:=sL S;obtain⟨d,O⟩:=S;refine bv func172 Z (λQ F N=>?_);have H:=Sep.start (aC O ba);refine aG 29865886274 ?_;refine dr (a:=Nat) H [(0,_),(1,_),(4,_)] bf (λk=>[(5,ag (jC (itP K) X k)),(6,ag k)]) (λk=>k<=X.length/\True) (λk=>X.length-k) 0 bf ⟨ω,trivial⟩ (λk H a ⟨I,_⟩=>?_);dsimp only[jf,lNA];refine br 0x9f3d2ff1125 (λH=>?_) (λH=>?_)
 .obtain⟨H,c,E,G,f,g,h,i,l⟩:=cR (a.Ab 0 Z) k ω;obtain⟨m,n,o,p,q,r,s,u,x,rfl,y,z,A,B,C⟩:=dX h;refine bi (aW (bP (aW ?_)));have H:=a.look1 0 Z A (λD hb=>i D zn);have c:=H.look1 0 Z B (λD hb=>i D zn);have H:=c.look1 0 Z C (λD hb=>i D zn);refine aG 32147716894998 ?_;refine cU 7 (j:=6) (E:=ã) (t:=26) Z (λc E=>bc (wgE Z c) Z (bL Z) (bc (wgE Z c) Z (bL Z) (bc (wgE Z c) Z (bR cd cy Z f k GJ ω) (bc (wgE Z c) Z (bd cu Z ts9 Z) (bc (wgE Z c) Z (bp tu9 Z (gJ g 2 Z)) (bc (wgE Z c) Z (bL Z) (bc (wgE Z c) Z (xM Z Z) (E _ _ gP Z Ext.refl)))))))) (λc E=>?_);have c:=H.to E;refine br 11481935 (λH=>?_) (λH=>?_)
  .refine aG 79782934 ?_;refine⟨k+1,⟨eqI (sx (by simpa[itP] using H)).symm,Z,Z,Z,Z,trivial⟩,⟨(c.Aq 1),ω,trivial⟩,θ⟩
  refine aG 311662 ?_;refine⟨k+1,⟨eqI (yW (by simpa[itP] using H)).symm,Z,Z,Z,Z,trivial⟩,⟨(c.Aq 1),ω,trivial⟩,θ⟩
 refine bu (aT (sR 2 Z (rN F Z ?_)));obtain rfl:k=X.length:=by omega
 exact⟨a.ext,Z⟩

theorem nu{w:ä}{X:List Rec}(Y:Ag w [.slice A n C] I)(R:RdV w ft I)(N:I.map Ac.r=X)(hl:X.length<=600000)(T:∀r∈X,r.Kind=1 -> -1<=r.Length):am 117 [.slice A n C] w λv W=>∃P,Res w W [v] P/\RdV W ft P/\Stable nLt eI (CI X) (P.map Ac.r):=by
 obtain⟨H,V⟩:=Y;obtain rfl:=gA V;have c_:I.length=X.length:=by rw[<- N,aS]
 refine bv func117 Z (λa_ Q hN=>?_);have H:=Sep.start (aC V ba);refine aT (sA Z (aH (aT (dG (f:=Ac) aB Z cd be H (λH c d f g=>aG 7291476 ?_)))));refine fc (b:=Ac) (a:=Nat × List Ac) (λ(k,U)=>U) (0,[]) g 0 Z 3 Z [(0,_),(2,_)] bf (λ(k,U)=>[(4,ag k)]) (λ(k,U)=>k<=X.length/\RdV w ft U/\Stable nLt eI (l7 X k) (U.map Ac.r)) (λ(k,U)=>X.length-k) ⟨Z,trivial⟩ ⟨bj,RdV.nil,MF⟩ (λ(k,U) H c d j ⟨hk,J,m⟩=>?_);dsimp only[jf,lNA,lSZ,sk] at j ⊢;refine br 0x9f3d2ff1125 (λH=>?_) (λH=>?_)
 .obtain⟨H,c,o⟩:=aL (j.A4 0 Z);cases o;have hel:(I.getD k à).r=(X.getD k à):=ey N ω;refine bi (aW (bP (aW ?_)));have d_:U.length=(l7 X k).length:=by have:=m.2.len;rwa[aS] at this
  have b_:=zq (x:=X) (k:=k);obtain⟨H,c,d,f,g⟩:=j.viewSeen 0 Z k ω;refine aG 17435652374 ?_;refine cz aB Z Ä j (λH c d f g=>bw aB cy Z g 1 Z (λH c o=>?_));replace o:=bt o;refine aX 7843320403 o ?_;refine cZ (t:=21) Z (λH=>?_) (λH=>?_)
  .replace H:=φ H
   refine aG 0x332f888888132f888 ?_;refine eL Z (bu (aG 19478 ?_));exact⟨((k+1,U),_,_),bf,⟨(o.dtake 1),bj,J,by(try dsimp only);rw[Dm (w7 qM)];exact m⟩,θ⟩
  replace H:=φ H
  refine aX 338620852730287 o ?_;refine cZ (t:=26) Z (λH=>?_) (λH=>?_)
  .replace H:=φ H
   refine aG 219840809096 ?_;refine eL Z (bu (aG 19478 ?_));exact⟨((k+1,U),_,_),bf,⟨(o.dtake 1),bj,J,by(try dsimp only);rw[Dm (Nw (T _ Gx) kW)];exact m⟩,θ⟩
  replace H:=φ H
  refine aX 44016793871 o ?_;have O:=wI (X:=I.map Ac.r) (K:=(I.getD k à).r.Name) (by dsimp only[aj,ak];rw[aS];exact(R.to o.ext).list (o.Ab 0 Z));(try dsimp only[aj,ak] at O);rw[aS,N] at O;refine dE (wg Z) Z (pcK func172 Z) O (λH c p=>?_);obtain⟨q,rfl⟩:=p;have H:=o.to q;refine br 0x9f333f94f90f (λc=>?_) (λc=>?_)
  .refine bu (aG 19478 ?_);exact⟨((k+1,U),_,_),bf,⟨(H.dtake 1),bj,J,by(try dsimp only);rw[Dm (M6 ω kW)];exact m⟩,θ⟩
  have S:=H.Ba 0 Z;replace S:=bt S;have e_:=U.length_map Ac.r;refine aG 478153797934 ?_;refine dr (a:=Nat) S [(0,_),(2,_),(3,_),(4,_),(5,_)] bf (λa=>[(6,ag a)]) (λa=>a<=U.length/\(∀i,a<=i->i<U.length->nLt (eI (I.getD k à).r) (eI (U.getD i à).r))) (λa=>a) U.length ⟨Z,trivial⟩ ⟨ω,λi d f=>by omega⟩ (λa H c ⟨ha,hB⟩=>?_);dsimp only[jf,lNA];refine aW (aW (ep c [(0,ã),(1,ã),(2,ã),(3,ã),(4,ã),(5,ã),(6,ã),(7,ã),(8,ã),(9,ã),(10,ã),(11,ã),(12,â)] (λH g=>dR 3 Z (dU (t:=38) Z (λo=>?_) (λo=>?_)))))
  .replace o:=φ o
   obtain⟨H,c,p,q,s⟩:=g.viewSeen 1 Z (a-1) ω;refine aX 0xbcfb4fb4fc7fbef g ?_;refine eS Z (wg Z) Z (λM L=>bR cd cy Z p (a-1) ω ω) (aG 13499375 ?_);refine eS Z (wg Z) Z (λM L=>Rw Z Z) (br 2936338351 (λu=>?_) (λu=>?_))
   .refine aG 286942168830 ?_;refine⟨a-1,⟨eqI ω,Z,Z,Z,Z,Z,trivial⟩,⟨g,ω,λi d f=>?_⟩,θ⟩
    by_cases e:i=a-1
    .subst e;simpa[nLt,eI] using u
    exact hB i ω f
   refine bu (ep g [(1,ã),(2,ã),(3,ã),(5,ã),(8,ã),(9,ã),(10,ã),(1012,â),(0,â),(1005,â),(4,â),(6,â),(7,â),(11,â),(12,â),(6,â),(4,â),(7,â),(11,â),(12,â),(6,â),(0,â),(4,â),(7,â),(11,â),(12,â)] (λH c=>?_));have H:=di (c.Ab 1 Z);obtain⟨H,p,q⟩:=fG (c.Ab 1 Z) (0) (a) _ ω ω ω (aN _);have H:=c.look1 1 Z p q;have p:=fb (x:=U) (l:=0) (h:=a) ω;refine dR 2 Z (dV Z (λM L=>fW cd cy Z (a) ω ω p) ?_);have p:=di (H.Ab 1 Z);obtain⟨p,q,s⟩:=fG (H.Ab 1 Z) (a) (U.length) _ ω ω ω (aN _);refine aX 767583 c ?_;have c:=H.look1 1 Z q s;have H:=fb (x:=U) (l:=a) (h:=U.length) ω;refine dV Z (λM L=>pZ cd cy Z Z (a) ω ω H) (dF Z ?_ ?_)
   .refine d_S (λH=>?_) σ;refine jD (a:=Ac) Z aB Z cd be c τ0 (λp q s x y=>dF Z ?_ ?_)
    .refine d_S (λp=>?_) σ;refine dh Z aB Z cd be Z y 2 Z (y.Ab 2 Z) dp dj (λb G=>by simp only[aD] at G;rw[G];exact aF H.size x) (λq s z B D=>?_);replace D:=bt D;refine dB Z aB Z cd be Z D τ0 (λq s z D E=>d_S (λq=>?_) σ);refine gm Z aB Z cd be Z E 2 3 Z (dK (v:=(I.getD k à)) η) dp dj (λb G=>(B b G).elim (((λb G=>by simp only[aD] at G;rw[G];exact aF H.size x):∀b∈_,_<=b) b) (λh=>aF p.size h)) (λs z D E F=>?_);replace F:=bt F;refine d_S (λs=>?_) σ;refine dh Z aB Z cd be Z F 2 Z (F.Ab 3 Z) dp dj (λb G=>(E b G).elim (((λb G=>(B b G).elim (((λb G=>by simp only[aD] at G;rw[G];exact aF H.size x):∀b∈_,_<=b) b) (λh=>aF p.size h)):∀b∈_,_<=b) b) (λh=>aF q.size h)) (λp q s z B=>?_);replace B:=bt B;refine aG 326786938591 ?_;have hny:lV X k=true:=o5 ω qM kW kW;exact⟨((k+1,_),_,_),bf,⟨(B.Aq 1).au_pk 4,bj,((J.sub fN).snoc (R.Bi (k:=k) ω)).app (J.sub fN),Hp⟩,θ⟩
    refine dB Z aB Z cd be Z y τ0 (λp q s y z=>d_S (λp=>?_) σ);refine dh Z aB Z cd be Z z 2 Z (z.Ab 2 Z) dp dj (λb G=>by simp only[aD] at G;rw[G];exact aF H.size x) (λq s y z B=>?_);replace B:=bt B;refine d_S (λq=>?_) σ;refine gm Z aB Z cd be Z B 2 3 Z (dK (v:=(I.getD k à)) η) dp dj (λb G=>(z b G).elim (((λb G=>by simp only[aD] at G;rw[G];exact aF H.size x):∀b∈_,_<=b) b) (λh=>aF p.size h)) (λs y B D E=>?_);replace E:=bt E;refine d_S (λs=>?_) σ;refine dh Z aB Z cd be Z E 2 Z (E.Ab 3 Z) dp dj (λb G=>(D b G).elim (((λb G=>(z b G).elim (((λb G=>by simp only[aD] at G;rw[G];exact aF H.size x):∀b∈_,_<=b) b) (λh=>aF p.size h)):∀b∈_,_<=b) b) (λh=>aF q.size h)) (λH p q s x=>?_);replace x:=bt x;refine aG 326786938591 ?_;have hny:lV X k=true:=o5 ω qM kW kW;exact⟨((k+1,_),_,_),bf,⟨(x.Aq 1).au_pk 4,bj,((J.sub fN).snoc (R.Bi (k:=k) ω)).app (J.sub fN),Hp⟩,θ⟩
   refine dB Z aB Z cd be Z c τ0 (λH c p q s=>d_S (λH=>?_) σ);refine jD (a:=Ac) Z aB Z cd be s τ0 (λc p q s x=>d_S (λc=>?_) σ);refine dh Z aB Z cd be Z x 3 Z (x.Ab 2 Z) dp dj (λb G=>by simp only[aD] at G;rw[G];exact aF H.size s) (λp q x y z=>?_);replace z:=bt z;refine d_S (λp=>?_) σ;refine gm Z aB Z cd be Z z 3 2 Z (dK (v:=(I.getD k à)) η) dp dj (λb G=>(y b G).elim (((λb G=>by simp only[aD] at G;rw[G];exact aF H.size s):∀b∈_,_<=b) b) (λh=>aF c.size h)) (λq x z B D=>?_);replace D:=bt D;refine d_S (λq=>?_) σ;refine dh Z aB Z cd be Z D 3 Z (D.Ab 3 Z) dp dj (λb G=>(B b G).elim (((λb G=>(y b G).elim (((λb G=>by simp only[aD] at G;rw[G];exact aF H.size s):∀b∈_,_<=b) b) (λh=>aF c.size h)):∀b∈_,_<=b) b) (λh=>aF p.size h)) (λH c p q s=>?_);replace s:=bt s;refine aG 326786938591 ?_;have hny:lV X k=true:=o5 ω qM kW kW;exact⟨((k+1,_),_,_),bf,⟨(s.Aq 1).au_pk 8,bj,((J.sub fN).snoc (R.Bi (k:=k) ω)).app (J.sub fN),Hp⟩,θ⟩
  replace o:=φ o
  refine aG 0x4f7bfaaaaaaaaa ?_;refine gW Z (bu (ep g [(1,ã),(2,ã),(3,ã),(5,ã),(8,ã),(9,ã),(10,ã),(1012,â),(0,â),(1005,â),(4,â),(6,â),(7,â),(11,â),(12,â),(6,â),(4,â),(7,â),(11,â),(12,â),(6,â),(0,â),(4,â),(7,â),(11,â),(12,â)] (λH c=>?_)));obtain⟨H,g,o⟩:=fG (c.Ab 1 Z) (0) (a) _ ω ω ω (aN _);have H:=c.look1 1 Z g o;have g:=fb (x:=U) (l:=0) (h:=a) ω;refine dR 2 Z (dV Z (λM L=>fW cd cy Z (a) ω ω g) ?_);have g:=di (H.Ab 1 Z);obtain⟨g,o,p⟩:=fG (H.Ab 1 Z) (a) (U.length) _ ω ω ω (aN _);refine aX 767583 c ?_;have c:=H.look1 1 Z o p;have H:=fb (x:=U) (l:=a) (h:=U.length) ω;refine dV Z (λM L=>pZ cd cy Z Z (a) ω ω H) (dF Z ?_ ?_)
  .refine d_S (λH=>?_) σ;refine jD (a:=Ac) Z aB Z cd be c τ0 (λg o p q s=>dF Z ?_ ?_)
   .refine d_S (λg=>?_) σ;refine dh Z aB Z cd be Z s 2 Z (s.Ab 2 Z) dp dj (λb G=>by simp only[aD] at G;rw[G];exact aF H.size q) (λo p u x y=>?_);replace y:=bt y;refine dB Z aB Z cd be Z y τ0 (λo p u y z=>d_S (λo=>?_) σ);refine gm Z aB Z cd be Z z 2 3 Z (dK (v:=(I.getD k à)) η) dp dj (λb G=>(x b G).elim (((λb G=>by simp only[aD] at G;rw[G];exact aF H.size q):∀b∈_,_<=b) b) (λh=>aF g.size h)) (λp u y z B=>?_);replace B:=bt B;refine d_S (λp=>?_) σ;refine dh Z aB Z cd be Z B 2 Z (B.Ab 3 Z) dp dj (λb G=>(z b G).elim (((λb G=>(x b G).elim (((λb G=>by simp only[aD] at G;rw[G];exact aF H.size q):∀b∈_,_<=b) b) (λh=>aF g.size h)):∀b∈_,_<=b) b) (λh=>aF o.size h)) (λg o p u x=>?_);replace x:=bt x;refine aG 326786938591 ?_;have hny:lV X k=true:=o5 ω qM kW kW;exact⟨((k+1,_),_,_),bf,⟨(x.Aq 1).au_pk 4,bj,((J.sub fN).snoc (R.Bi (k:=k) ω)).app (J.sub fN),Gz⟩,θ⟩
   refine dB Z aB Z cd be Z s τ0 (λg o p s u=>d_S (λg=>?_) σ);refine dh Z aB Z cd be Z u 2 Z (u.Ab 2 Z) dp dj (λb G=>by simp only[aD] at G;rw[G];exact aF H.size q) (λo p s u x=>?_);replace x:=bt x;refine d_S (λo=>?_) σ;refine gm Z aB Z cd be Z x 2 3 Z (dK (v:=(I.getD k à)) η) dp dj (λb G=>(u b G).elim (((λb G=>by simp only[aD] at G;rw[G];exact aF H.size q):∀b∈_,_<=b) b) (λh=>aF g.size h)) (λp s x y z=>?_);replace z:=bt z;refine d_S (λp=>?_) σ;refine dh Z aB Z cd be Z z 2 Z (z.Ab 3 Z) dp dj (λb G=>(y b G).elim (((λb G=>(u b G).elim (((λb G=>by simp only[aD] at G;rw[G];exact aF H.size q):∀b∈_,_<=b) b) (λh=>aF g.size h)):∀b∈_,_<=b) b) (λh=>aF o.size h)) (λH g o p q=>?_);replace q:=bt q;refine aG 326786938591 ?_;have hny:lV X k=true:=o5 ω qM kW kW;exact⟨((k+1,_),_,_),bf,⟨(q.Aq 1).au_pk 4,bj,((J.sub fN).snoc (R.Bi (k:=k) ω)).app (J.sub fN),Gz⟩,θ⟩
  refine dB Z aB Z cd be Z c τ0 (λH c g o p=>d_S (λH=>?_) σ);refine jD (a:=Ac) Z aB Z cd be p τ0 (λc g o p q=>d_S (λc=>?_) σ);refine dh Z aB Z cd be Z q 3 Z (q.Ab 2 Z) dp dj (λb G=>by simp only[aD] at G;rw[G];exact aF H.size p) (λg o q s u=>?_);replace u:=bt u;refine d_S (λg=>?_) σ;refine gm Z aB Z cd be Z u 3 2 Z (dK (v:=(I.getD k à)) η) dp dj (λb G=>(s b G).elim (((λb G=>by simp only[aD] at G;rw[G];exact aF H.size p):∀b∈_,_<=b) b) (λh=>aF c.size h)) (λo q u x y=>?_);replace y:=bt y;refine d_S (λo=>?_) σ;refine dh Z aB Z cd be Z y 3 Z (y.Ab 3 Z) dp dj (λb G=>(x b G).elim (((λb G=>(s b G).elim (((λb G=>by simp only[aD] at G;rw[G];exact aF H.size p):∀b∈_,_<=b) b) (λh=>aF c.size h)):∀b∈_,_<=b) b) (λh=>aF g.size h)) (λH c g o p=>?_);replace p:=bt p;refine aG 326786938591 ?_;have hny:lV X k=true:=o5 ω qM kW kW;exact⟨((k+1,_),_,_),bf,⟨(p.Aq 1).au_pk 8,bj,((J.sub fN).snoc (R.Bi (k:=k) ω)).app (J.sub fN),Gz⟩,θ⟩
 refine bu (aT (sR 2 Z (rN Q Z ?_)));obtain rfl:k=X.length:=by omega
 exact⟨j.ext,U,j.out 0 Z,J.to j.ext,m⟩

theorem oE{w:ä}{r:Rec}(o:OwnW w Y 31 z W)(n:W.Nodup)(K:r.Ok)(f:ah w B r.Rows M P)(R:∀b∈P,b ∉ W)(g:ah w D r.Data N X)(d:∀b∈X,b ∉ W)(i:ah w E r.Ad O G)(e:∀b∈G,b ∉ W)(H:z.A3.length=2)(a:fH r<=1048576)(c:z.Aa<=1500000000):Ret ê 112 #[au Y,r.val B M D N E O] w λv j=>(v = ag (mg z r)/\MutW w j W Y 31 (layZ z r)):=by
 cases h:dI z
 .rw[(fM h).1,(fM h).2];exact vQ o n K f R g d i e h H a c
 rw[(iR h).1,(iR h).2];exact t6 o n K f R g d i e h H a c

theorem CU{w:ä}{a b:Int}: am 137 [ag a,ag b] w λv W=>v=(kA a b).val ç 0 ç 0 ç 0:=by
 refine bv func137 Z (λQ h N=>?_);have H:=Sep.start (w:=w) (F:=[]) σ;exact aT (cz aB Z Ä H (λH c d e f=>aH (aT (sR 2 Z (sV Z (bM eD Z Z) (bw aB cy Z f 0 Z (λH c d=>aH (dT h (d.box 0 Z) Z ⟨d.ext,Z⟩))))))))

theorem wc{W:ä}(K:x.Ok)(i:aj W v x.A2 w)(X:aj W f x.On o)(g:aj W k x.A3 q)(j:c≠0/\c≠9):am 39 [x.val v w f o k q,ag c] W λV l=>V=(⟨c,noWld⟩:WldResult).val ç 0 ç 0 ç 0:=by
 obtain⟨H,a⟩:=i;obtain⟨H,b⟩:=X;obtain⟨H,d⟩:=g;refine bv func39 Z (λQ h N=>?_);have H:=Sep.start (aC a (aC b (aC d ba)));refine aT (ci aB Z H (λH a b d e=>cz aB Z Č e (λH a b d e=>aG 1905235 ?_)));refine cZ (t:=7) Z (λH=>?_) (λH=>?_)
 .replace H:=φ H
  refine br 0x9f332f94f90f (λH=>?_) (λH=>?_)
  .exact aT (sM Z (sV Z (bM dQ Z Z) (bw aB jl Z e 1 Z (λH a b=>aH (dT h (b.box 1 Z) Z ⟨b.ext,Z⟩)))))
  exfalso;simp_all
 exfalso;simp_all

theorem D9{W:ä}(K:x.Ok)(i:aj W v x.A2 w)(X:aj W f x.On o)(g:aj W k x.A3 q)(j:c=0\/c=9):am 39 [x.val v w f o k q,ag c] W λV l=>V=(⟨c,x⟩:WldResult).val v w f o k q:=by
 obtain⟨H,a⟩:=i;obtain⟨H,b⟩:=X;obtain⟨H,d⟩:=g;refine bv func39 Z (λQ h N=>?_);have H:=Sep.start (aC a (aC b (aC d ba)));refine aT (ci aB Z H (λH a b d e=>cz aB Z Č e (λH a b d e=>aG 1905235 ?_)));refine cZ (t:=7) Z (λH=>?_) (λH=>?_)
 .replace H:=φ H
  refine br 0x9f332f94f90f (λa=>?_) (λa=>?_)
  .exfalso;simp_all
  refine aX 4321582 e ?_;exact sV Z (bM dQ Z Z) (bw aB jl Z e 1 Z (λa b d=>aH (dT h (d.box 1 Z) Z ⟨d.ext,Z⟩)))
 replace H:=φ H
 refine aG 3358600 ?_;refine gW Z (aX 4321582 e ?_);exact sV Z (bM dQ Z Z) (bw aB jl Z e 1 Z (λH a b=>aH (dT h (b.box 1 Z) Z ⟨b.ext,Z⟩)))

theorem jw{w:ä}(B:w.heap[Y]? = á (ay z V Q J T R U))(K:z.Ok)(m:ah w V z.A2 Q b_)(j:ah w J z.On T a_)(l:ah w R z.A3 U a)(q:SeqOK z)(o:z.A3.length=2)(r:∀k,(z.A3.getD k à).Ah.length<=200000):am 88 [au Y] w λv W=>v = .tuple #[ag (nsV z),ag (nsC z)]:=by
 have H:=cx K;have p:=lK q;refine bv func88 Z (λn i N=>?_);have H:=Sep.start (dc B (aC m (aC j (aC l ba))));refine aG 74866 ?_;refine sC func121 Z (ju (H.Bd 0 Z) η (aJ (H.Ab 1 Z)) (aJ (H.Ab 2 Z)) (aJ (H.Ab 3 Z)) ξ ξ) (λA b c=>?_);obtain⟨A,d,c,b,e⟩:=c;obtain⟨b,f⟩:=H.res A c;obtain⟨H,A,g⟩:=aL (f.A4 0 Z);cases g;have H:d.length=(cI z).length:=by rw[<- e,aS]
 have H:=jY (z:=z) ξ η;refine br 0x9f3d2ff12547 (λH=>?_) (λH=>?_)
 .have x:=TK e ω;obtain⟨H,A,b,c,g⟩:=f.B2 0 Z (d.length-1) ω;refine aG 12065960214 ?_;refine sV Z (bR cd cy Z b (d.length-1) ω ω) (br 0x9f3d1254c3df9 (λH=>?_) (λH=>?_))
  .exact aT (sR 2 Z (aH (dY (i _ _ (r4 Z ⟨f.ext,by rw[nsV,nsC,ae ω,ae ω]⟩)))))
  refine aG 291118 ?_;refine dY (i _ _ (r4 Z ?_));have h:¬ 1000000000<nxQ z:=by omega
  exact⟨f.ext,by rw[nsV,nsC,ac h,ac h,x]⟩
 refine br 2671579742 (λH=>?_) (λH=>?_)
 .refine aT (sR 2 Z (aH (dY (i _ _ (r4 Z ?_)))));have x:=HI e ω;exact⟨f.ext,by rw[nsV,nsC,ae ω,ae ω]⟩
 refine aG 291118 ?_;refine dY (i _ _ (r4 Z ?_));have x:=HI e ω;have h:¬ 1000000000<nxQ z:=by omega
 exact⟨f.ext,by rw[nsV,nsC,ac h,ac h,x]⟩

theorem mH{w:ä}(S:Ag w [.slice A n C] I)(f:I.length<=1000000):am 105 [.slice A n C] w λv W=>v = ag (qT (I.map Ac.r)):=by
 obtain⟨H,V⟩:=S;obtain rfl:=gA V;refine bv func105 Z (λQ h N=>?_);have H:=Sep.start (aC V ba);refine br 0x9f3d2ff12542 (λa=>?_) (λa=>?_)
 .exact aT (sA Z (aH (rT h Z ⟨H.ext,congrArg (é .i64) (E5 ω).symm⟩)))
 obtain⟨a,b,c,d,e⟩:=H.viewSeen 0 Z (I.length-1) ω;refine aG 193055363374 ?_;refine sV Z (bR cd cy Z c (I.length-1) ω ω) (aG 278009 ?_);exact rT h Z ⟨H.ext,congrArg (é .i64) (LV).symm⟩

theorem eG{w:ä}{r:Rec}(o:OwnW w Y 31 z W)(F:W.Nodup)(K:r.Ok)(L:ah w B r.Rows M P)(R:∀b∈P,b ∉ W)(S:ah w D r.Data N X)(I:∀b∈X,b ∉ W)(T:ah w E r.Ad O G)(J:∀b∈G,b ∉ W)(C:SeqOK z)(hT:z.A3.length=2)(b_:∀k,(z.A3.getD k à).Ah.length<=200000)(hw:z.Aa<=1500000000)(j:fH r<=1048576):Ret ê 71 #[au Y,r.val B M D N E O] w λv U=>(v = ag (nxC z r)/\MutW w U W Y 31 ((nxZ z r))):=by
 refine bv func71 Z (λQ x V=>?_);have H:=(((Sep.beginW o F).seeF (L) R).seeF (S) I).seeF (T) J;refine aT (ci aB Z H (λH a c d e=>?_));obtain⟨H,a,c,d,f,g,h,d_,e_,m,n⟩:=e.B3 0 Z;have H:=cx m;refine sA Z (aH (aT (sM Z (sE func88 Z (jw (n.box 0 Z) η (aJ (n.A4 3 Z)) (aJ (n.A4 4 Z)) (aJ (n.A4 5 Z)) ξ ξ ξ) n (λH a c=>br 0x9f3d1254727f27f1 (λH=>?_) (λH=>?_))))))
 .refine aT (sR 2 Z (rN x Z ?_));obtain⟨a,d⟩:=c.Ar 0 3 4 5 z Z m;have y:1000000000<nxQ z:=by
   by_cases q:1000000000<nxQ z
   .exact q
   exfalso;rw[nsC,ac q] at H;exact H rfl
  have l:=d.Ax;rw[(lx (r:=r) y).1,(lx (r:=r) y).2];exact⟨by rw[nsC,ae y];rfl,l⟩
 refine bi (aW ?_)
 skip
 refine ce (sM Z (sF cu Z ts2 (cL aB ts2 Z c 1 Z (λa c d=>?_))));replace d:=bt d;refine aH (aW ?_);have u:¬ 1000000000<nxQ z:=by intro q;rw[nsC,ae q] at H;exact absurd dv H
 have A:nsV z=nxQ z:=ac u;have a_:=lK C;have c_:(seqR r (nsV z)).Ok:=Gj K gQ;refine aX 270102 d ?_;obtain⟨H,p⟩:=d.Ar 0 3 4 5 z Z m;refine sC func112 Z (oE (p.B1 0 Z) (p.Aj (i:=0) Z) η (aJ (p.Ab 0 Z)) (λb j=>p.off 0 Z 0 Z j) (aJ (p.Ab 1 Z)) (λb j=>p.off 1 Z 0 Z j) (aJ (p.Ab 2 Z)) (λb j=>p.off 2 Z 0 Z j) ξ ξ ξ (r:=(seqR r (nsV z)))) (λH a s=>?_);obtain⟨rfl,t⟩:=s;obtain⟨H,a⟩:=p.Bb 0 Z t;refine rA x Z Z ?_;have l:=a.Ax;rw[A] at l;rw[(kE (r:=r) u).1,(kE (r:=r) u).2];exact⟨by rw[A],l⟩

theorem ru{w:ä}{r:Rec}(o:OwnW w Y 31 z W)(F:W.Nodup)(S:r.Ok)(T:ah w B r.Rows M P)(R:∀b∈P,b ∉ W)(U:ah w D r.Data N X)(J:∀b∈X,b ∉ W)(V:ah w E r.Ad O G)(K:∀b∈G,b ∉ W)(hd:z.Down=â)(f_:(z.A3.getD 0 à).Ah.length<=1000/\(z.A3.getD 1 à).Ah.length<=1000)(C:SeqOK z)(hT:z.A3.length=2)(e_:∀k,(z.A3.getD k à).Ah.length<=200000)(hw:z.Aa<=1500000000)(v:fH r<=1048576):Ret ê 79 #[au Y,r.val B M D N E O] w λa_ w'=>(a_ = ag (nxC z r)/\MutW w w' W Y 31 ((nxZ z r))):=by
 have H:=lK C;have H:nxQ z=qT (cI z)+1:=Z;refine bv func79 Z (λc_ Q hN=>?_);have H:=(((Sep.beginW o F).seeF (T) R).seeF (U) J).seeF (V) K;refine aT (ci aB Z H (λH a c d e=>?_));obtain⟨H,a,c,d,f,g,d_,h_,i_,m,n⟩:=e.B3 0 Z;have H:=cx m;refine sA Z (aH (aT (sM Z (sC func78 Z (gt (n.box 0 Z) η (aJ (n.A4 3 Z)) (aJ (n.A4 4 Z)) (aJ (n.A4 5 Z)) ξ ξ) (λH a c=>?_)))));obtain⟨H,p,c,a,q⟩:=c;obtain⟨a,s⟩:=n.res H c;obtain⟨H,a,u⟩:=aL (s.A4 6 Z);cases u;have H:p.length=(cI z).length:=by rw[<- q,aS]
 have H:=jY (z:=z) ξ η;have L:=mH (I:=p) ⟨_,aJ (s.A4 6 Z)⟩ ω;rw[q] at L;refine sE func105 Z L s (λH a c=>aG 156 ?_);refine cL aB ts2 Z c 1 Z (λH a x=>aX 7843320403 x ?_);refine cZ (t:=13) Z (λH=>?_) (λH=>?_)
 .replace H:=φ H
  refine aG 3354504 ?_;refine eL Z (aT (rA Q Z Z ?_));obtain⟨a,c⟩:=bt (x.Ar 0 3 4 5 z Z m);have l:=c.Ax
  by_cases h:1000000000<nxQ z
  .rw[(lx (r:=r) h).1,(lx (r:=r) h).2];exact⟨rfl,l⟩
  have j:dI z=true:=by rw[<- rX];first|assumption|(exfalso;apply h;show 1000000000<qT (cI z)+1;omega)
  rw[(kE (r:=r) h).1,(kE (r:=r) h).2,(iR j).1,(iR j).2];exact⟨rfl,l⟩
 replace H:=φ H
 refine bc (wg Z) Z (bL Z) (dE (wg Z) Z (pcK func102 Z) (nz (x.box 0 Z) η (x.As 3 Z) (x.As 4 Z) (x.As 5 Z) ξ ξ ξ) (λH a b_=>?_));obtain⟨A,rfl⟩:=b_;have H:=x.to A;refine br 11481919 (λa=>?_) (λa=>?_)
 .refine aT (rA Q Z Z ?_);obtain⟨c,d⟩:=H.Ar 0 3 4 5 z Z m;have l:=d.Ax
  by_cases h:1000000000<nxQ z
  .rw[(lx (r:=r) h).1,(lx (r:=r) h).2];exact⟨rfl,l⟩
  have j:dI z=true:=by rw[<- rX];first|assumption|(exfalso;apply h;show 1000000000<qT (cI z)+1;omega)
  rw[(kE (r:=r) h).1,(kE (r:=r) h).2,(iR j).1,(iR j).2];exact⟨rfl,l⟩
 refine bi (aW (aW ?_));have h:¬ 1000000000<nxQ z:=by show ¬ 1000000000<qT (cI z)+1;omega
 have j:dI z=false:=by rw[<- rX];simpa using a
 have g_:(seqR r (nxQ z)).Ok:=Gj S gQ;refine aX 270102 H ?_;obtain⟨a,e⟩:=H.Ar 0 3 4 5 z Z m;refine sC func103 Z (oF (e.B1 0 Z) (e.Aj (i:=0) Z) η (aJ (e.Ab 0 Z)) (λb v=>e.off 0 Z 0 Z v) (aJ (e.Ab 1 Z)) (λb v=>e.off 1 Z 0 Z v) (aJ (e.Ab 2 Z)) (λb v=>e.off 2 Z 0 Z v) η η ξ ξ ξ (r:=(seqR r (nxQ z)))) (λH a f=>?_);obtain⟨rfl,g⟩:=f;obtain⟨H,a⟩:=e.Bb 0 Z g;refine sV Z (cj Z) (aH (gG Z (λH=>?_) (λH=>?_)))
 .refine aT (rA Q Z Z ?_);have l:=a.Ax;have y:jL z (seqR r (nxQ z))=false:=by simpa using H
  rw[(kE (r:=r) h).1,(kE (r:=r) h).2,(fM j).1,(fM j).2,y];exact⟨Z,l⟩
 refine bi (aT (rA Q Z Z ?_));have l:=a.Ax;have y:jL z (seqR r (nxQ z))=true:=by simpa using H
 rw[(kE (r:=r) h).1,(kE (r:=r) h).2,(fM j).1,(fM j).2,y];exact⟨Z,l⟩

theorem kD{w:ä}(e:z.Ok)(i:aj w V z.A2 Q)(f:aj w J z.On T)(g:aj w R z.A3 U)(m:K.size<=1048576):am 32 [z.val V Q J T R U,.string K] w λv W=>v = ag (if upF z=0 then bU K else upF z):=by
 have H:=cx e;obtain⟨H,a⟩:=i;obtain⟨H,b⟩:=f;obtain⟨H,c⟩:=g;have j:K.size<=Ë:=by unfold Ë;omega
 refine bv func32 Z (λq h N=>?_);have H:=Sep.start (aC a (aC b (aC c ba)));refine aT (ci aB Z H (λH a b c d=>aX 4321876 d ?_));refine sE func42 Z (kb η (d.Ae 0 Z) (d.Ae 1 Z) (d.Ae 2 Z)) d (λH a b=>br 166973732 (λH=>?_) (λH=>?_))
 .exact aT (sR 2 Z (aH (rT h Z ⟨b.ext,congrArg (é .i64) (ac ω).symm⟩)))
 have u:upF z=0:=by omega
 exact bi (aT (sM Z (sE func40 Z (kV η) b (λH a b=>sA Z (aH (rT h Z ⟨b.ext,congrArg (é .i64) (ae u).symm⟩))))))

theorem lQ{w:ä}(B:w.heap[Y]? = á (ay z V Q J T R U))(K:z.Ok)(s:ah w V z.A2 Q b_)(r:ah w J z.On T a_)(l:ah w R z.A3 U a)(n:z.A3.length=2)(q:∀k,(z.A3.getD k à).Ah.length<=200000)(j:fY z<=1048576):am 55 [au Y] w λv W=>v = ag (oJ z):=by
 have H:=cx K;have y:=pz (z:=z);have u:=jY (z:=z) n q;refine bv func55 Z (λt m N=>?_);have H:=Sep.start (dc B (aC s (aC r (aC l ba))));refine aG 19219010 ?_;refine sC func81 Z (ir (H.Bd 0 Z) η (aJ (H.Ab 1 Z)) (aJ (H.Ab 2 Z)) (aJ (H.Ab 3 Z)) ξ ξ) (λA b c=>?_);obtain⟨A,d,c,e,f⟩:=c;obtain⟨b,g⟩:=H.res A c;obtain⟨H,A,h⟩:=aL (g.A4 0 Z);cases h;have H:d.length=(bT z).length:=by rw[<- f,aS]
 have H:RdV w a d:=e.back g.ext (Rp.lt l);refine aG 116593407 ?_;refine dr (a:=Nat) g [(2,_),(7,_),(8,_)] bf (λk=>[(3,ag (jm (bT z) k)),(9,ag k)]) (λk=>k<=(bT z).length/\True) (λk=>(bT z).length-k) 0 bf ⟨ω,trivial⟩ (λk A i ⟨x,_⟩=>?_);dsimp only[jf,lNA];refine br 10441682 (λA=>?_) (λA=>?_)
 .obtain⟨A,b,c,e,g⟩:=i.B2 0 Z k ω;refine aG 71416433110878 ?_;refine cz aB Z Ä i (λA b c e g=>bw aB cy Z g 1 Z (λA b c=>?_));have C:=BX j ω (show k<=(bT z).length by omega);have o:=zP j (FK (z:=z) (k:=k) ω);have p:=ey f (show k<d.length by omega);refine aH ?_;have A:(d.getD k à).r.Data.length<=1048576:=by rw[p];exact o
  refine aX 3668246 c ?_;refine sE func70 Z (gp (((H.to c.ext).Ae (v:=d.getD k à) Gx).2.2.1)) c (λH A b=>aG 3262028 ?_);exact⟨k+1,⟨eqI (BC (by rw[ey f ω])),eqI ω,Z,Z,Z,trivial⟩,⟨(b.dtake 1),bj,trivial⟩,θ⟩
 refine bu (aT (sR 2 Z (rN m Z ?_)));obtain rfl:k=(bT z).length:=by omega
 exact⟨i.ext,Z⟩

theorem vN{w:ä}(S:Ag w [.slice A n C] I)(R:RdV w ft I)(M:I.map Ac.r=cI z)(s:I.length<=600000)(p:c7 z=0)(i:fY z<=1048576):am 77 [.slice A n C] w λv W=>v = ag (oJ z):=by
 obtain⟨H,V⟩:=S;obtain rfl:=gA V;have u:I.length=(cI z).length:=by rw[<- M,aS]
 have t:=pz (z:=z);refine bv func77 Z (λQ j N=>?_);have H:=Sep.start (aC V ba);refine aG 4674 ?_;refine sC func117 Z (nu (X:=cI z) (ft:=ft) (H.Ae 0 Z) (R.to H.ext) M ω (λr o=>Eb p o)) (λa b c=>?_);obtain⟨a,d,c,b,e⟩:=c;obtain⟨b,f⟩:=H.res a c;obtain⟨H,a,g⟩:=aL (f.A4 0 Z);cases g;have H:d.map Ac.r=bT z:=Ci e;have a:d.length=(bT z).length:=by rw[<- H,aS]
 refine aG 1866617892 ?_;refine dr (a:=Nat) f [(2,_),(3,_)] bf (λk=>[(4,ag (jm (bT z) k)),(5,ag k)]) (λk=>k<=(bT z).length/\True) (λk=>(bT z).length-k) 0 bf ⟨ω,trivial⟩ (λk a h ⟨q,_⟩=>?_);dsimp only[jf,lNA];refine br 0x9f3d2ff1125 (λa=>?_) (λa=>?_)
 .have x:=BX i ω (show k<=(bT z).length by omega);have l:=zP i (FK (z:=z) (k:=k) ω);have m:=ey H (show k<d.length by omega);refine bi (aW (bP ?_));have a:(d.getD k à).r.Data.length<=1048576:=by rw[m];exact l
  obtain⟨a,b,c,d,e⟩:=h.B2 0 Z k ω;refine aG 0x4c164c2ff3df93ef1116 ?_;exact⟨k+1,⟨eqI (BC (by rw[ey H ω])),eqI ω,Z,Z,trivial⟩,⟨h,bj,trivial⟩,θ⟩
 refine bu (aT (sR 2 Z (rN j Z ?_)));obtain rfl:k=(bT z).length:=by omega
 exact⟨h.ext,Z⟩

theorem lU{w:ä}(o:OwnW w Y 31 z W)(U:W.Nodup)(a_:ah w e L b d)(X:∀M∈d,M ∉ W)(S:z.A0.ok=ã)(hq:SeqOK z)(T:z.A3.length=2)(R:∀k,(z.A3.getD k à).Ah.length<=200000)(hw:z.Aa<=1400000000)(i_:K.size<=8)(l_:L.length<=1048576)(O:fY z<=1048576):Ret ê 34 #[au Y,.string K,ak e L b] w λv V=>(v = ag (puC z K L)/\MutW w V W Y 31 ((puZ z K L))):=by
 have n_:=bm S;have P:K.size<=Ë:=by unfold Ë;omega
 have g_:=pz (z:=z);have d_:=jY (z:=z) T R;refine bv func34 Z (λc_ Q hN=>?_);have H:=(Sep.beginW o U).seeF a_ X;obtain⟨a,c,y,N,f,g,h,l,m_,n,p⟩:=H.B3 0 Z;have H:=cx n;refine aT (sA Z (aH (aW (aW (ep p (oQ [1,3,5,7,9,10,12,15,17,19,21,22]) (λH q=>aX 0xb66f52f4afb q ?_))))));refine dC func70 Z (gp (q.Ae 0 Z)) (λH a t=>?_);obtain⟨u,rfl⟩:=t;have x:=q.to u;refine dC func53 Z (iL η gQ) (λH a b_=>?_);obtain⟨A,rfl⟩:=b_;have H:=x.to A;refine br 0x9f3d1204f6df49f4bf4bfb (λa=>?_) (λa=>?_)
 .refine aT (sR 2 Z (rN Q Z ?_));obtain⟨a,c⟩:=H.Ar 0 2 3 4 z Z n;have m:=c.Ax;obtain⟨B,C⟩:=GM (z:=z) (d:=K) (a:=L) ω;rw[B,C];exact⟨Z,m⟩
 have j_:=BX (z:=z) (k:=(bT z).length) O ω (aN _);have k_:jm (bT z) (bT z).length=oJ z:=Z;refine bi (aW (aW (ep H (oQ [1,5,11,13,15,17,19,2,6,9,20]) (λH D=>aX 0x5bf52f52f4afbbb D ?_))));refine dC func55 Z (lQ (D.box 0 Z) η (aJ (D.A4 2 Z)) (aJ (D.A4 3 Z)) (aJ (D.A4 4 Z)) ξ ξ ξ) (λH a E=>?_);obtain⟨F,rfl⟩:=E;have G:=D.to F;refine dC func70 Z (gp (G.Ae 0 Z)) (λH a I=>?_);obtain⟨J,rfl⟩:=I;have H:=G.to J;refine br 0x9f04f70f4ff (λa=>?_) (λa=>?_)
 .refine aT (rA Q Z Z ?_);obtain⟨a,c⟩:=bt (H.Ar 0 2 3 4 z Z n);have m:=c.Ax;obtain⟨B,C⟩:=G3 (z:=z) (d:=K) (a:=L) ω ω;rw[B,C];exact⟨Z,m⟩
 have h_:=fV (s:=z.A0) (a:=L.length) ω;refine bi (aW ?_);have e_:(po K L).Ok:=by unfold Rec.Ok po;refine⟨?_,?_,P,?_,?_,?_⟩<;>(unfold Ak;dsimp only;omega)
 have f_:fH (po K L)=K.size+L.length:=by show K.size+0+L.length+0=_;omega
 refine aG 4374 ?_;refine sE func70 Z (gp (H.Ae 0 Z)) H (λH a c=>sM Z (sC Ā Z (cq (c.Ae 0 Z) ω) (λH a y=>?_)));obtain⟨H,y⟩:=y;obtain⟨a,N⟩:=c.res H y;obtain⟨H,a,f⟩:=aL (N.A4 5 Z);cases f;refine sV Z (bM eD Z Z) ?_;obtain⟨H,g⟩:=N.Ar 0 2 3 4 z Z n;refine sC func71 Z (eG (g.B1 0 Z) (g.Aj (i:=0) Z) η (.inr (.inl ⟨Z,Z,Z⟩)) σ (aJ (g.A4 5 Z)) (λM O=>g.apart (i:=0) (j:=5) Z Z Z M O) (.inr (.inl ⟨Z,Z,Z⟩)) σ ξ ξ ξ ξ ξ (r:=(po K L))) (λH a h=>?_);obtain⟨rfl,l⟩:=h;obtain⟨H,a⟩:=g.Bb 0 Z l;refine rA Q Z Z ?_;have m:=a.Ax;obtain⟨B,C⟩:=QP (z:=z) (d:=K) (a:=L) ω ω;rw[B,C];exact⟨Z,m⟩

theorem tQ{w:ä}(o:OwnW w Y 31 z W)(n:W.Nodup)(X:ah w e L b d)(x:∀B∈d,B ∉ W)(q:bU K≠0)(m:K.size<=1048576):Ret ê 38 #[au Y,.string K,ak e L b] w λv g=>(v = ag (bU K)/\MutW w g W Y 31 (z)):=by
 have i:K.size<=Ë:=by unfold Ë;omega
 refine bv func38 Z (λQ h N=>?_);have H:=(Sep.beginW o n).seeF X x;refine aG 75074 ?_;refine sE func75 Z (k9 η) H (λH a c=>br 166973732 (λH=>?_) (λH=>?_))
 .refine aT (sR 2 Z (rN h Z ?_));have f:=c.Ax;exact⟨Z,f⟩
 exfalso;omega

theorem qJ{w:ä}(o:OwnW w Y 31 z W)(O:W.Nodup)(R:ah w e L b d)(X:∀G∈d,G ∉ W)(S:bU K=0)(N:c7 z=0)(hd:z.Down=â)(f_:(z.A3.getD 0 à).Ah.length<=1000/\(z.A3.getD 1 à).Ah.length<=1000)(M:z.A0.ok=ã)(hq:SeqOK z)(T:z.A3.length=2)(J:∀k,(z.A3.getD k à).Ah.length<=200000)(hw:z.Aa<=1400000000)(e_:K.size<=8)(i_:L.length<=1048576)(l:fY z<=1048576):Ret ê 38 #[au Y,.string K,ak e L b] w λv P=>(v = ag (puC z K L)/\MutW w P W Y 31 ((puZ z K L))):=by
 have l_:=bm M;have I:K.size<=Ë:=by unfold Ë;omega
 have c_:=pz (z:=z);have V:=jY (z:=z) T J;refine bv func38 Z (λQ F U=>?_);have H:=(Sep.beginW o O).seeF R X;refine aG 75074 ?_;refine sE func75 Z (k9 η) H (λH a c=>br 166973732 (λH=>?_) (λH=>?_))
 .exfalso;omega
 obtain⟨H,a,D,E,f,g,h,j_,k_,m,n⟩:=c.B3 0 Z;have H:=cx m;refine aX 0x2ff142f926f125e n ?_;refine sE func76 Z (rP η) n (λH a c=>br 166973732 (λH=>?_) (λH=>?_))
 .refine aT (sR 2 Z (rN F Z ?_));obtain⟨H,a⟩:=c.Ar 0 2 3 4 z Z m;have j:=a.Ax;obtain⟨p,q⟩:=GM (z:=z) (d:=K) (a:=L) ω;rw[p,q];exact⟨Z,j⟩
 have g_:=BX (z:=z) (k:=(bT z).length) l ω (aN _);have h_:jm (bT z) (bT z).length=oJ z:=Z;refine bi (aW (aW (ep c (oQ [1,7,9,13,15,17,19,21,2,4,11,22]) (λH a=>aX 0x5bf52f52f4afb53fbb a ?_))));refine dC func78 Z (gt (a.box 0 Z) η (aJ (a.A4 2 Z)) (aJ (a.A4 3 Z)) (aJ (a.A4 4 Z)) ξ ξ) (λH c D=>?_);obtain⟨H,t,D,u,x⟩:=D;obtain⟨c,y⟩:=a.res H D;obtain⟨H,a,A⟩:=aL (y.A4 5 Z);cases A;have H:t.length=(cI z).length:=by rw[<- x,aS]
 refine dC func77 Z (vN (z:=z) (y.As 5 Z) u x ω N l) (λH a B=>?_);obtain⟨C,rfl⟩:=B;have H:=y.to C;refine br 0x9f04f70f4ff (λa=>?_) (λa=>?_)
 .refine aT (rA F Z Z ?_);obtain⟨a,c⟩:=bt (H.Ar 0 2 3 4 z Z m);have j:=c.Ax;obtain⟨p,q⟩:=G3 (z:=z) (d:=K) (a:=L) ω ω;rw[p,q];exact⟨Z,j⟩
 have d_:=fV (s:=z.A0) (a:=L.length) ω;refine bi (aW ?_);have a_:(po K L).Ok:=by unfold Rec.Ok po;refine⟨?_,?_,I,?_,?_,?_⟩<;>(unfold Ak;dsimp only;omega)
 have b_:fH (po K L)=K.size+L.length:=by show K.size+0+L.length+0=_;omega
 refine aG 318705942 ?_;refine sV Z (bM eD Z Z) ?_;obtain⟨a,E⟩:=H.Ar 0 2 3 4 z Z m;refine sC func79 Z (ru (E.B1 0 Z) (E.Aj (i:=0) Z) η (.inr (.inl ⟨Z,Z,Z⟩)) σ (aJ (E.Ab 0 Z)) (λG l=>E.off 0 Z 0 Z l) (.inr (.inl ⟨Z,Z,Z⟩)) σ ξ ξ ξ ξ ξ ξ ξ (r:=(po K L))) (λH a f=>?_);obtain⟨rfl,g⟩:=f;obtain⟨H,a⟩:=E.Bb 0 Z g;refine rA F Z Z ?_;have j:=a.Ax;obtain⟨p,q⟩:=QP (z:=z) (d:=K) (a:=L) ω ω;rw[p,q];exact⟨Z,j⟩

end Go.Wk
namespace Go.Wk
open Rp (sz own)
variable {A:List UInt8}{P:Program}{a:List (Nat × Bool)}{B:Array Oper}{C:List Nat}{I:Array Edge}{f n m i:Nat}{E e u:ì}{M:Nat->Prop}{p:String}{L:Env}{D F:List Rsc}{G:ä}{s:Bool}{Q:Post}{R:è->ä->Prop}{x y:Operand}
section
variable {s:A0}{r:Rec}{z y zi:Wld}{W:Int}{g:Int}{k:Nat}{nm:ByteArray}
theorem It{s:A0}{r:Rec}(h:fm s r=0)(H:r.Kind=2):mv s r=true:=by
  unfold fm at h
  rw[ac ω,ae H] at h
  cases e:mv s r with
  | true=>rfl
  | false=>rw[e] at h;exact absurd h dv
theorem H7{s:A0}{r:Rec}(h:fm s r=0)(H:r.Kind=1):bU r.Name=0/\fZ s r=true:=by
  unfold fm at h
  rw[ae H] at h
  by_cases c:bU r.Name=0
  · rw[ac (λq=>q c)] at h
    cases e:fZ s r with
    | true=>exact⟨c,rfl⟩
    | false=>rw[e] at h;exact absurd h dv
  · rw[ae c] at h;exact absurd h c
theorem Je{s:A0}{r:Rec}(h:fm s r=0)(H:r.Kind=3):ins r.Group 0 (s.A2+s.A5-1)=true:=by
  unfold fm at h
  rw[ac ω,ac ω,ae H] at h
  cases e:ins r.Group 0 _ with
  | true=>rfl
  | false=>rw[e] at h;exact absurd h dv
theorem y5{r:Rec}(h:noName r=ã):r.Name.size=0:=by
  rw[of_decide_eq_true h];rfl
theorem JI(i:s.ok=ã)(h:recF s r=0):r.few:=by
  have S:=bm i
  have f:=tz h
  obtain⟨l,b⟩:=m7 h
  have p:=bH.1 l
  have u:=rR h
  unfold bareOK at b
  have m:r.Kind=1\/r.Kind=2\/r.Kind=3\/r.Kind=4:=by omega
  rcases m with c|c|c|c
  · obtain⟨j,H⟩:=H7 f c
    have n:=jE j
    rw[ae c] at b
    simp only[aP,ab] at b
    unfold fZ at H
    unfold Rec.few
    by_cases C:r.Length = -1
    · rw[ae C] at H
      simp only[aP,ab] at H
      omega
    · rw[ac C] at H
      simp only[aP,ab] at H
      have t:=qA i H.1
      have q:=fV H.1
      have a:=H.2
      by_cases g:0<r.Data.length
      · rw[ae g] at a
        simp only[aP,ab] at a
        omega
      · rw[ac g] at a
        simp at a
        omega
  · have H:=It f c
    rw[ac ω,ae c] at b
    simp only[aP,ab] at b
    have n:=y5 b.1.1
    unfold mv at H
    simp at H
    obtain⟨⟨⟨a,d⟩,e⟩,k⟩:=H
    have a:=bH.1 a
    have d:=bH.1 d
    unfold Rec.few;omega
  · have H:=bH.1 (Je f c)
    rw[ac ω,ac ω,ae c] at b
    simp only[aP,ab] at b
    have n:=y5 b.1.1.1.1.1
    unfold Rec.few;omega
  · have H:=De h c
    rw[ac ω,ac ω,ac ω] at b
    simp at b
    have n:=y5 b.1
    unfold gT weightsOK at H
    simp at H
    obtain⟨⟨⟨⟨a,d⟩,e⟩,k⟩,⟨o,_⟩,_⟩:=H
    have a:=bH.1 a
    have d:=bH.1 d
    have e:=AM e ω
    unfold Rec.few;omega
theorem Gw.sz(h:Gw W z):fY z<=200000:=by
  have s:=bm h.hs
  refine In (Dp h.hs h.gk) ?_ (by rw[h.tl];exact aN _) λt a=>⟨by have:=(h.rl t a).1;omega,λr b=>JI h.hs (h.rc t a r b)⟩
  have H:=h.on
  unfold rm at H
  simp at H
  omega
theorem Gw.recs(h:Gw W z):(z.A3.getD 0 à).Ah.length<=200/\(z.A3.getD 1 à).Ah.length<=200:=
  ⟨(h.rl _ (by rw[bX (by rw[h.tl];decide)];exact bx _)).1,(h.rl _ (by rw[bX (by rw[h.tl];decide)];exact bx _)).1⟩
theorem Gw.all(h:Gw W z):∀k,(z.A3.getD k à).Ah.length<=200000:=by
  have:=h.recs
  exact yB h.tl ω
structure DsW (z:Wld) (g:Int) (r:Rec) (k:Nat) (zi:Wld):Prop where
  gw:Gw (100000000+9*k) zi
  sm:SameW zi z
  kn:k<=pnN z r
  eq:mvA z g r=mvL g (du z g r) (z.A0.Data*4).toNat (pnN z r) r.Data (pnN z r-k) k zi
noncomputable def D2 (z:Wld) (g:Int) (r:Rec) (k:Nat):Int:=(du z g r).getD k 0
def uG (z:Wld) (r:Rec) (k:Nat):List UInt8:=im (z.A0.Data*4).toNat (pnN z r) r.Data k
theorem DsW.start(h:Gw 100000000 z):DsW z g r 0 z:=⟨h,SameW.refl,ý _,rfl⟩
theorem DsW.facts(I:DsW z g r k zi)(d:Due z g r)(H:dP z g=â)(h:z.A0.ok=ã)(a:k<pnN z r):
    zi.A0.ok=ã/\b7 zi=ã/\ins g 0 (zi.A0.A2-1)=ã/\ins (D2 z g r k) 0 (zi.A0.Rows-1)=ã/\((uG z r k).length:Int)=zi.A0.Data*4/\dP zi g=â/\SeqOK zi/\zi.A3.length=2/\zi.Aa<=1200000000/\((zi.A3.getD 0 à).Ah.length<=200/\(zi.A3.getD 1 à).Ah.length<=200)/\zi.Down=false:=by
  have s:=bm h
  have p:=d.pn
  have w:=I.gw.wr
  obtain⟨T,t⟩:=u5 h
  have l:((iZ z g).take _).length=pnN z r:=d.rw_
  have e:=I.sm.1
  refine⟨I.gw.hs,I.gw.gk,by rw[e,<- d.hm];exact rO h,by rw[e];exact t k ω,?_,by rw[I.sm.dead];exact H,I.gw.seq,I.gw.tl,ω,I.gw.recs,I.gw.dn⟩
  rw[e]
  unfold uG
  rw[pB a d.fx];omega
theorem DsW.step(I:DsW z g r k zi)(d:Due z g r)(l:dP z g=â)(s:z.A0.ok=ã)(j:k<pnN z r)(h:(mwP zi g (D2 z g r k) (uG z r k)).1=0):DsW z g r (k+1) (mwP zi g (D2 z g r k) (uG z r k)).2:=by
  obtain⟨m,p,H,e,f,i,q,t,u,n,o⟩:=I.facts d l s j
  obtain⟨a,b⟩:=I.gw.mw H e f i
  have c:=I.gw.mw_same H e f i
  refine⟨a.mono ω,c.trans I.sm,j,?_⟩
  rw[I.eq]
  exact TV ω h
theorem DsW.stop(I:DsW z g r k zi)(H:k<pnN z r)(h:(mwP zi g (D2 z g r k) (uG z r k)).1≠0):mvA z g r=mwP zi g (D2 z g r k) (uG z r k):=by
  rw[I.eq]
  exact OM (m:=pnN z r-(k+1)) ω h
theorem DsW.done(I:DsW z g r k zi)(h:k=pnN z r):mvA z g r=(0,zi):=by
  rw[I.eq]
  exact Sp ω
theorem ul(h:1000000000<nxQ z+pnN z r\/eU z (2*pnN z r+1)=ã):dsP z g r=(2,z):=ae h
theorem Eg(h:¬ (1000000000<nxQ z+pnN z r\/eU z (2*pnN z r+1)=ã))(H:(mvA z g r).1≠0):dsP z g r=mvA z g r:=by rw[dsP,ac h,ae H]
theorem wB(h:¬ (1000000000<nxQ z+pnN z r\/eU z (2*pnN z r+1)=ã))(H:mvA z g r=(0,y)):dsP z g r=(nxC y (oD r (du z g r)),nxZ y (oD r (du z g r))):=by rw[dsP,ac h,H,ac σ]
theorem Ov(h:dP z g=ã):dsI z g=(10,z):=by rw[dsI,ae h]
theorem Q5(h:dP z g=â)(H:nxO z g=ç):dsI z g=(4,z):=by rw[dsI,ac gX,H]
theorem OT(h:dP z g=â)(H:nxO z g=á r):dsI z g=dsP z g r:=by rw[dsI,ac gX,H]
theorem PS(h:dP z g=ã):dsS z g=(10,z):=ae h
theorem Qc(h:dP z g=â)(H:nxI z g (bT z).length<0):dsS z g=(4,z):=by rw[dsS,ac gX,ae H]
theorem Of(h:dP z g=â)(H:0<=nxI z g (bT z).length):dsS z g=dsP z g (nxR z g):=by rw[dsS,ac gX,ac ω]
theorem Sx(s:z.A0.ok=ã)(R:RecsOK z)(h:nxO z g=á r):Due z g r:=by
  have m:=List.mem_of_find?_eq_some h
  have p:=List.find?_some h
  obtain⟨H,a⟩:=EQ.1 m
  exact vq s R H a p
theorem QN(h:(nxO z g).isSome=ã):nxO z g=á (nxD z g):=by
  unfold nxD
  cases e:nxO z g with
  | none=>rw[e] at h;cases h
  | some r=>rfl
theorem RP(h:(nxO z g).isSome=â):nxO z g=none:=by
  cases e:nxO z g with
  | none=>rfl
  | some r=>rw[e] at h;cases h
theorem Due.cover(d:Due z g r)(s:z.A0.ok=ã):∀i,i<pnN z r->i*(z.A0.Data*4).toNat<r.Data.length:=λi f=>by
  have S:=bm s
  have a:=(fV d.lg).1
  have h:=d.pe
  unfold dd at h
  rw[Int.tdiv_eq_ediv_of_nonneg ω] at h
  have H:(i:Int)<=(r.Length-1) / (z.A0.Data*4):=by omega
  have b:=(Int.le_ediv_iff_mul_le ω).1 H
  have c:((i*(z.A0.Data*4).toNat:Nat):Int)=(i:Int)*(z.A0.Data*4):=by
    rw[Ľ,bQ ω]
  have e:=d.dl
  omega
theorem K8(d:Due z g r):fH (oD r (du z g r))<=20:=by
  have h:=jE d.nf
  have H:=d.rw_
  have a:=d.pn
  show r.Name.size+(du z g r).length+0+0<=20
  omega
theorem Lo(d:Due z g r)(h:z.A0.ok=ã):(oD r (du z g r)).Ok:=by
  have H:=jE d.nf
  have a:=fV d.lg
  have s:=bm h
  unfold Rec.Ok oD Ak Ë
  dsimp only
  omega
end
section
variable {z:Wld}{g:Int}
theorem QH:0<=(dsI z g).1/\(dsI z g).1<=10:=by
  unfold dsI
  split
  · omega
  · split
    · omega
    · next r _=>have:=Tv (z:=z) (g:=g) (r:=r);omega
end
theorem EY{w:ä}:∀ {A:List UInt8}{C:List è},(∀k (hk:k<A.length),C[k]? = á (.int .u8 (A[k]).toNat))->dg s w C A []
  | [],_,_=>rfl
  | x::A,C,h=>by
    have H:=h 0 σ
    cases C with
    | nil=>simp at H
    | cons c C=>
      simp at H
      refine⟨[],[],rfl,⟨by rw[H];rfl,rfl⟩,EY λk hk=>?_⟩
      have:=h (k+1) oi
      exact this
theorem FC{w:ä}:∀ {A:List UInt8}{C:List è}{f:List Nat},dg s w C A f->f=[]/\∀k (hk:k<A.length),C[k]? = á (.int .u8 (A[k]).toNat)
  | [],_,_,h=>⟨h,λk hk=>by simp at hk⟩
  | x::A,C,f,⟨F,l,e,b,d⟩=>by
    obtain⟨a,g⟩:=FC d
    obtain⟨H,j⟩:=Tz b
    refine⟨by rw[e,j,a];rfl,λk hk=>?_⟩
    cases C with
    | nil=>simp at H
    | cons c C=>
      have i:c = .int .u8 x.toNat:=by
        have E:sz UInt8=1:=rfl
        rw[E] at H
        simpa using H
      cases k with
      | zero=>simp[i]
      | succ k=>
        have:=g k oi
        exact this
section
variable {w:ä}{d:Tmp}{g:Option (Nat × Bool)}{h:List Oper}
theorem RT{t t2:ì}{u_:è}{b o i c_ c:Nat}{sp:Option ô}{Y:List UInt8}{fs:List Nat}(hw:Wn B n L ⟨á d,.call ⟨.builtin .copy,#[x,y],#[t,t2]⟩,E,p,I,g⟩)(hn:ò d n=ã)(ht:P.underlying t=á (.slice e))(hT:Ty P e u_ 1 f)
    (hx:evL L x=á (.slice (á ⟨b,o,ç⟩) m i)) (hy:evL L y=á (.slice sp c_ c)) (H:Sep M G D F w) (b_:Nat) (X:D[b_]? = á (Wk.A4 [.slice (á ⟨b,o,ç⟩) m i] A C)) (hs:own s w [.slice sp c_ c] Y fs) (h0:0<Y.length) (n_:Y.length<=A.length)
    (k:∀w',Sep M G (D.set b_ (Wk.A4 [.slice (á ⟨b,o,ç⟩) m i] (Y++A.drop Y.length) C)) F w'->RL P n B Q h ((d,.int .i64 (Y.length:Nat))::L) w') :
    RL P n B Q (⟨á d,.call ⟨.builtin .copy,#[x,y],#[t,t2]⟩,E,p,I,g⟩::h) L w:=by
  obtain⟨a0,q_⟩:∃d_:ô,sp=á d_:=by
    obtain⟨z,o',_,_,K,_⟩:=gh hs 0 h0
    exact⟨_,K⟩
  subst q_
  have hl:=gA hs
  have o_:=H.Aj X
  have t_:=H.A4 b_ X
  have r_:∀j v,(Y.map λu:UInt8=>é .u8 u.toNat)[j]? = á v->w.cell? (a0.add j)=á v:=λj v q=>by
    rw[A?] at q
    cases hq:Y[j]? with
    | none=>rw[hq] at q;cases q
    | some u=>
      rw[hq] at q
      obtain⟨g_,m_⟩:=List.getElem?_eq_some_iff.1 hq
      obtain⟨z,o',a,J⟩:=dN hs j g_
      cases a
      rw[lu,<- q]
      have e3:Y.getD j 0=u:=by rw[bX g_,m_]
      rw[e3,ā] at J
      exact J
  rcases t_ with ⟨hf,_⟩|⟨a,_⟩|⟨z,o',v_,r,T,fr,w_,K,h2,O,h4,h5,h6,S,h8⟩
  · cases hf
  · simp at a
  · simp at K
    obtain⟨⟨rfl,rfl⟩,hm,hc⟩:=K
    subst hc
    have j_:=h4 rfl
    subst j_
    obtain⟨h9,e_⟩:=FC h8
    subst h9
    subst h2
    obtain⟨B_,k_,z_,l_,A_⟩:=hT.parts
    have x_:o+i<=r.size:=by
      have a:sz UInt8=1:=rfl
      rw[a,ā] at S;exact S
    have hr:=run_copy_row (P:=P) w t t2 E e b o m i a0 c_ c r T _ ht (by rw[k_];simp[l_]) O (by rw[aS,hl,hm];exact(Nat.min_eq_left n_).symm) r_ (by rw[aS];omega) (λv hv=>by
      obtain⟨u,_,rfl⟩:=bY.1 hv;rfl)
    obtain⟨N,R⟩:∃N:Array è,N=(r.toList.take o++Y.map (λu:UInt8=>é .u8 u.toNat)++r.toList.drop (o+(Y.map λu:UInt8=>é .u8 u.toNat).length)).toArray:=⟨_,rfl⟩
    rw[<- R] at hr
    have s_:N.size=r.size:=by
      rw[R];simp;omega
    have p_:w.setRow b N=Wk.put w b (.cells N T (0,0)):=by
      unfold World.setRow Wk.put
      congr 1
      refine Array.ext_getElem? λk=>?_
      rw[Array.getElem?_modify,Array.getElem?_setIfInBounds]
      by_cases U:b=k
      · subst U
        rw[ae rfl,ae rfl,O,ae (Array.getElem?_eq_some_iff.1 O).1];rfl
      · rw[ac U,ac U]
    rw[p_] at hr
    have hE:Ext (· = b) w (Wk.put w b (.cells N T (0,0))):=Ext.refl.put (.inl rfl)
    have el:(Y++A.drop Y.length).length=A.length:=by rw[aO,bZ];omega
    refine ue hw rfl hn (W:=Wk.put w b _) (λd_ ha=>?_) (k _ (H.set X (hE.mono λz _ e=>by subst e;simp[Wk.A4])
      (.inr (.inr ⟨b,o,i,N,T,(0,0),[],by rw[el,hm],rfl,kJ O,λ_=>rfl,zx,h6,by rw[s_];exact S,EY λk hk=>?_⟩)) o_ (λz i_ => .inl i_)))
    · simp[execOp,resolve,invoke,builtin,ha.eval hx,ha.eval hy,hr,goInt]
    · rw[el] at hk
      obtain⟨V,a_⟩:∃V:List è,V=Y.map λu:UInt8=>é .u8 u.toNat:=⟨_,rfl⟩
      have h_:V.length=Y.length:=by rw[a_,aS]
      obtain⟨l,W⟩:∃l,l=r.toList:=⟨_,rfl⟩
      have y_:l.length=r.size:=by rw[W,Array.length_toList]
      rw[<- a_,<- W] at R
      rw[<- W] at e_
      have e0:N.toList=l.take o++(V++l.drop (o+Y.length)):=by rw[R,h_];simp
      have a:(l.take o).length=o:=by rw[aY];omega
      rw[Ñ,e0,Z_ ω,a,Nat.add_sub_cancel_left]
      by_cases c1:k<Y.length
      · rw[List.getElem?_append_left ω,a_,A?,Ã c1,List.getElem_append_left c1];rfl
      · rw[Z_ ω,h_,Ñ,List.getElem_append_right ω]
        have f_:=e_ k hk
        rw[Ñ] at f_
        rw[show o+Y.length+_=o+k by omega,f_,Ĵ]
        have J:Y.length+(k-Y.length)=k:=by omega
        simp only[J]
end
def c6 (m n:Nat) (x:List UInt8) (i:Nat):List (List UInt8):=(List.range i).map (im m n x)
section
variable {k:Nat}
theorem qe:(c6 m n A i).length=i:=by simp[c6]
theorem BA(h:k<i):(c6 m n A i).getD k []=im m n A k:=by simp[c6,h]
theorem oS:c6 m n A i++[im m n A i]=c6 m n A (i+1):=by simp[c6,List.range_succ]
def jd (m n i:Nat):Nat:=i*m+min m (n-i*m)
theorem MS(j:i*m<A.length)(x:A.length<=n*m):cut A (i*m) (jd m A.length i)++(å m (0:UInt8)).drop (cut A (i*m) (jd m A.length i)).length=im m n A i:=by
  have b:i<n:=by
    rcases Nat.lt_or_ge i n with c|c
    · exact c
    · have:=Å m c;omega
  have o:i*m+m<=n*m:=by rw[<- Ō];exact Å _ b
  have f:jd m A.length i<=A.length:=by unfold jd;omega
  have H:(cut A (i*m) (jd m A.length i)).length=min m (A.length-i*m):=by
    rw[fb f];unfold jd;omega
  have p:=pB b x
  refine Ü (by rw[aO,bZ,aZ,p];omega) λk g a=>?_
  rw[p] at a
  have e:(im m n A i)[k]'(by rw[p];exact a)=(A++å (n*m-A.length) 0).getD (i*m+k) 0:=by
    have:=LI (x:=A++å (n*m-A.length) (0:UInt8)) (l:=i*m) (h:=i*m+m) (i:=k) (d:=0) ω
    rw[<- this]
    rw[bX (by rw[fb (by rw[aO,aZ];omega)];omega)]
    rfl
  rw[e]
  by_cases c:k<min m (A.length-i*m)
  · rw[List.getElem_append_left (by rw[H];exact c)]
    have:=LI (x:=A) (l:=i*m) (h:=jd m A.length i) (i:=k) (d:=0) (by unfold jd;omega)
    rw[bX (by rw[H];exact c)] at this
    rw[this,ku ω]
  · rw[List.getElem_append_right (by rw[H];omega),Ĵ,ć,lL ω,bX wR,ć]
end
theorem qY{f:Func}{w:ä}{t y Y:Nat}{u:ì}{x:ô}{v V e:è}(r:f.results = #[.cell t u,.tmp y,.tmp Y])(g:look L t=á (.pointer (á x)))(l:(loadVar u x).run P w = .ok v w)(i:look L y=á V)(j:look L Y=á e)(h:R (.tuple #[v,V,e]) w):fin P f R .ret L w:=λ_ a H=>
  ⟨_,by have b:=H.cov t _ g;have c:=H.cov y _ i;have d:=H.cov Y _ j;simp at b c d;simp[results,r,b,c,d,asAddr,l],h⟩
section
variable {w:ä}{c:List Nat}
theorem Sep.recO(h:Sep No G D F w){x:Rec}{A:Option ô}{C:Nat}{i:Option ô}{k:Nat}{j:Option ô}{l:Nat}(z:InF G c (Ac.mk x A C i k j l).cs x):
    ∃a d g,x.Ok/\x.Rows.length<=Ë/\x.Data.length<=Ë/\x.Ad.length<=Ë/\Sep No G D (F++[Wk.Ab â [.slice A x.Rows.length C] x.Rows a,Wk.Ab â [.slice i x.Data.length k] x.Data d,Wk.Ab â [.slice j x.Ad.length l] x.Ad g]) w:=by
  obtain⟨f,m,_⟩:=z
  have t:=λb H=>Rp.lt m b H
  have v:=Rp.st m λb H=>h.ext.block b (t b H) id
  obtain⟨a,d,g,e,B,o,O,n⟩:=me v
  have K:=λb H y=>(h.new b y).elim id λq=>by have:=t b H;omega
  have p:=h.look (r:=Wk.Ab â [.slice A x.Rows.length C] x.Rows a) o λb H=>K b (by rw[e];simp[show b∈a from H])
  have s:=p.look (r:=Wk.Ab â [.slice i x.Data.length k] x.Data d) O λb H=>K b (by rw[e];simp[show b∈d from H])
  have u:=s.look (r:=Wk.Ab â [.slice j x.Ad.length l] x.Ad g) n λb H=>K b (by rw[e];simp[show b∈g from H])
  refine⟨a,d,g,B,kw o,kw O,kw n,?_⟩
  simpa using u
theorem Sep.outCut{d:Type}[Rp d]{x:List d}{a:Option ô}{c:Nat}{k:List Nat}(h:Sep No G D F w)(j:Nat)(H:D[j]? = á (Wk.A4 [.slice a n c] x k))(m:Nat)(i:m<=x.length):ResS G w [.slice (slA a 0 c (sz d)) m (c-0)] (x.take m):=by
  obtain⟨f,g,l⟩:=fG (aJ (h.A4 j H)) 0 m c (ý _) i (aF i (di (h.A4 j H))) (aN _)
  have e:(cut x 0 m).length=m:=by rw[ky,aY];omega
  rw[e] at g
  exact⟨f,g,λb o=>(h.new b (cG.2 ⟨_,æ H,l b o⟩)).resolve_left id⟩
end
structure UsA (z:Wld) (g:Int) (k:Nat) (us:List Int):Prop where
  at_:∀q,q∈us↔((bT z).take k).any (tkI z.A0 g q)=ã
  ln:us.length<=20*k
structure UsC (z:Wld) (g:Int) (k:Nat) (us:List Int):Prop where
  at_:∀q,q∈us↔((bT z).any (tkI z.A0 g q) || ((cI z).take k).any (tkM g q))=ã
  ln:us.length<=20*(bT z).length+k
section
variable {z:Wld}{g q:Int}{k:Nat}{b:List Int}
theorem NU:UsA z g 0 []:=⟨λq=>by simp,ý _⟩
theorem Qx(h:UsA z g k b)(H:k<(bT z).length)(n:dy z.A0 ((bT z).getD k à).Name≠g):UsA z g (k+1) b:=⟨λq=>by
  rw[nU H,h.at_]
  unfold tkI
  rw[a8 n];simp,by have:=h.ln;omega⟩
theorem PW(h:UsA z g k b)(H:k<(bT z).length)(n:dy z.A0 ((bT z).getD k à).Name=g)(l:((bT z).getD k à).Rows.length<=20):UsA z g (k+1) (b++((bT z).getD k à).Rows):=⟨λq=>by
  rw[nU H,aI,h.at_,bJ]
  unfold tkI
  rw[aU n];simp,by have:=h.ln;rw[aO];omega⟩
theorem Na(h:UsA z g k b)(H:k=(bT z).length):UsC z g 0 b:=⟨λq=>by
  rw[h.at_,H];simp,by have:=h.ln;omega⟩
theorem Ox(h:UsC z g k b)(H:k<(cI z).length)(n:(((decide (((cI z).getD k à).Kind=2) && decide (((cI z).getD k à).Group=g)) || decide (((cI z).getD k à).Kind=4)))=â):UsC z g (k+1) b:=⟨λq=>by
  rw[nU H,h.at_]
  have e:tkM g q ((cI z).getD k à)=false:=by unfold tkM;rw[n];rfl
  rw[e,Bool.or_false],by have:=h.ln;omega⟩
theorem P2(h:UsC z g k b)(H:k<(cI z).length)(n:(((decide (((cI z).getD k à).Kind=2) && decide (((cI z).getD k à).Group=g)) || decide (((cI z).getD k à).Kind=4)))=ã):UsC z g (k+1) (b++[((cI z).getD k à).Row]):=⟨λq=>by
  rw[nU H,aI,h.at_,aD,<- ĸ,bJ (_ || _)]
  refine or_congr Iff.rfl ?_
  unfold tkM
  rw[n,Þ,ab]
  exact eq_comm,by have:=h.ln;rw[aO,List.length_singleton];omega⟩
theorem Lx(h:UsC z g k b)(H:k=(cI z).length):decide (q∈b)=q9 z g q:=by
  have:=h.at_ q
  rw[H,ö] at this
  unfold q9
  cases e:(bT z).any _ || (cI z).any _
  · rw[e] at this;exact a8 λh=>by have:=this.1 h;cases this
  · rw[e] at this;exact aU (this.2 rfl)
theorem OA(h:c7 z=0)(H:k<(bT z).length):((bT z).getD k à).few:=by
  have m:(bT z).getD k à∈bT z:=by rw[bX H];exact bx _
  exact JI (c5 h).1 (pT h (pt m))
theorem L4(h:(!uo z g ((bT z).getD k à) && AF z g ((bT z).getD k à))=ã)(H:nxI z g k<0\/((bT z).getD k à).Seq<((bT z).getD (nxI z g k).toNat à).Seq):nxI z g (k+1)=k:=by rw[nxI,ae ⟨h,H⟩]
theorem F3(h:(!uo z g ((bT z).getD k à) && AF z g ((bT z).getD k à))=â):nxI z g (k+1)=nxI z g k:=by rw[nxI,ac (λq=>by rw[h] at q;exact absurd q.1 σ)]
theorem SC(h:¬ (nxI z g k<0\/((bT z).getD k à).Seq<((bT z).getD (nxI z g k).toNat à).Seq)):nxI z g (k+1)=nxI z g k:=by rw[nxI,ac (λq=>h q.2)]
noncomputable def nxX (z:Wld) (g:Int):Rec:=if nxI z g (bT z).length<0 then à else nxR z g
noncomputable def Ed (z:Wld) (g:Int):List Int:=if nxI z g (bT z).length<0 then[] else du z g (nxR z g)
theorem Ts(h:nxI z g (bT z).length<0):nxX z g=à/\Ed z g=[]:=⟨ae h,ae h⟩
theorem oV(h:¬ nxI z g (bT z).length<0):nxX z g=nxR z g/\Ed z g=du z g (nxR z g):=⟨ac h,ac h⟩
end
theorem Jr:(Ø (é .u8 0).cells m).toList=å m (é .u8 0):=by
  apply Ü
  · simp[Ø,Value.cells]
  · intro i h H
    simp[Ø,Value.cells,Nat.mod_one]
theorem DI{w:ä}:∀ {m:Nat},dg ã w (å m (é .u8 0)) (å m (0:UInt8)) []
  | 0=>rfl
  | m+1=>⟨[],[],rfl,by have h:own ã w [é .u8 ((0:UInt8).toNat:Nat)] (0:UInt8) []:=iB;exact h,by rw[List.replicate_succ];exact DI⟩
section
variable {t:ì}{w:ä}
theorem Jw(U:P.underlying t=á (.slice e))(V:P.underlying u=á (.int .i64))(hT:Ty P e (.int .u8 0) (sz UInt8) f)
    {p_:è}(c_:own ã w [p_] A C)(n1:C.Nodup) (x_:0<m) (L:A.length+m<=1000000) (v:(A.length+m)*f<=140737488355328) :
    ∃v' W F,(Ô #[t,u] E #[p_,.int .i64 m]).run P w = .ok v' W/\own ã W [v'] (A++å m 0) F/\Ext (· ∈ C) w W /\
      (∀b∈F,b∈C\/w.heap.size<=b)/\F.Nodup:=by
  obtain⟨i,f_,g_,B,h_⟩:=hT.parts
  have j:A.length+m<=Ë:=by unfold Ë;omega
  have hz:(é .u8 0).cells.size=sz UInt8:=rfl
  have a:sz UInt8=1:=rfl
  obtain⟨n,Q⟩:∃ns,ns=å m (é .u8 0):=⟨_,rfl⟩
  obtain⟨y,Y⟩:∃ns,ns=å m (0:UInt8):=⟨_,rfl⟩
  have l:y.length=m:=by rw[Y,aZ]
  have k:n.length=y.length*sz UInt8:=by rw[Q,l,aZ,a,ā]
  have X:dg ã w n y []:=by rw[Q,Y];exact DI
  have A_:∀u∈n,u.oneCell'=true:=X.one' k
  have a_:Ø (é .u8 0).cells m=n.toArray:=by
    apply Array.ext'
    rw[Jr,Q]
  rw[<- Y]
  rw[<- l] at j L v x_
  have D_:A.length+y.length<=9223372036854775807:=by simp only[Ë] at j;omega
  have C_:m*f<=(A.length+y.length)*f:=Å _ ω
  have hw:=zk (x:=(m:Int)) ⟨ω,ω⟩
  have j_:¬ ((m:Int)<0):=by omega
  have i_:m≠0:=by omega
  have d_:¬ (281474976710656<(m:Int)*(f:Int)):=by
    have:((m*f:Nat):Int)=(m:Int)*f:=Ľ _ _
    omega
  have b_:∀(O:Nat) (q:List è) (s:List Nat),q.length=A.length*sz UInt8->dg ã w q A s->(∀b∈s,b∈C)->s.Nodup->∀W,W= w.drew.alloc (.cells (q.toArray++n.toArray++Ø (é .u8 0).cells (grownCap w (A.length+y.length) O e-(A.length+y.length))) e) ->
      ∃F,own ã W [.slice (á ⟨w.heap.size,0,ç⟩) (A.length+y.length) (grownCap w (A.length+y.length) O e)] (A++y) F/\Ext (· ∈ C) w W /\
      (∀b∈F,b∈C\/w.heap.size<=b)/\F.Nodup:=by
    intro O q s H m_ e_ y_ W o_
    have hE:Ext No w W:=by subst o_;exact(Ext.refl.drawn _).alloc _
    have w_:=grownCap_ge w (A.length+y.length) O e
    have M:grownCap w (A.length+y.length) O e<=Ë:=grownCap_le_maxLen w (A.length+y.length) O e j
    refine⟨w.heap.size::s,.inr (.inr ⟨w.heap.size,0,_,_,e,(0,0),s,σ,rfl,by subst o_;exact heap_alloc_new w.drew _,λ_=>rfl,by simpa using w_,M,?_,?_⟩),hE.no,λb h=>?_,?_⟩
    · simp only[Array.size_append,ĵ,size_zeroCells,hz,H,k,<- b8,K?]
      exact Nat.le_of_eq (by congr 1;omega)
    · have h9:=m_.append H X
      rw[Į] at h9
      have:=h9.st (w':=W) λb h=>hE.block b (m_.lt b h) id
      refine this.congr ?_
      have N:(A++y).length*sz UInt8=(q++n).length:=by rw[aO,aO,b8,H,k]
      rw[N]
      simp only[ě,Array.toList_append]
      rw[ö,Y_ rfl]
    · simp only[aM] at h
      rcases h with rfl|h
      · exact .inr (aN _)
      · exact .inl (e_ b h)
    · refine ù.2 ⟨λhx=>?_,y_⟩
      have:=Rp.lt c_ _ (e_ _ hx);omega
  rcases c_ with ⟨hf,_⟩|⟨hv,rfl,rfl⟩|⟨b,o,p,c,T,fr,s,hv,d,h,u_,hc,M,t_,l_⟩
  · cases hf
  · simp at hv;subst hv
    simp only[aV,K?] at j L v
    rw[l] at v j L
    have hr:=IP (P:=P) (w:=w) (ty:=E) (m:=m) U V hT hz (by rw[a];omega) ω ω
    rw[a_] at hr
    obtain⟨F,g,G,I,J⟩:=b_ 0 [] [] σ rfl σ .nil _ rfl
    simp only[aV,K?,Ý] at g G ⊢
    rw[l] at g G
    refine⟨_,_,F,hr,?_,?_,I,J⟩
    · simpa using g
    · simpa using G
  · simp at hv;subst hv
    have v_:=u_ rfl
    subst v_
    have E_:A.length*sz UInt8<=p*sz UInt8:=Å _ hc
    by_cases n_:A.length+y.length<=p
    ·
      have z:o+A.length*sz UInt8+n.length<=c.size:=by
        have:(A.length+y.length)*sz UInt8<=p*sz UInt8:=Å _ n_
        rw[b8] at this
        rw[k];omega
      have S:=kp (P:=P) n w (o+A.length*sz UInt8) 0 c h A_ (by simpa using z)
      refine⟨.slice (á ⟨b,o,ç⟩) (A.length+y.length) p,put w b (.cells (lay c (o+A.length*sz UInt8) n) T (0,0)),b::s,?_,.inr (.inr ⟨b,o,p,_,T,(0,0),s,σ,rfl,kJ h,λ_=>rfl,by simpa using n_,M,by rw[rp];exact t_,?_⟩),?_,λD r=>?_,?_⟩
      · have B_:A.length+m<=p:=by omega
        have R:i.size≠0:=by rw[B];omega
        simp only[Nat.add_zero] at S
        simp[Ô,þ U,þ V,sizeOf,typeInfo,zeroValue,f_,g_,B,h_,i_,R,a,hw,j_,d_,B_,asInt,asIntOf,lu,a_,l]
        rw[a,ā] at S
        rw[S]
        rfl
      · have s_:Ext (· = b) w (put w b (.cells (lay c (o+A.length*sz UInt8) n) T (0,0))):=Ext.refl.put (.inl rfl)
        have H:((c.toList.drop o).take (A.length*sz UInt8)).length=A.length*sz UInt8:=by
          rw[aY,bZ]
          have:c.toList.length=c.size:=by simp
          omega
        have K:=(l_.congr (cs':=(c.toList.drop o).take (A.length*sz UInt8)) Dl).append H X
        rw[Į] at K
        have h3:=K.st (w':=put w b (.cells (lay c (o+A.length*sz UInt8) n) T (0,0))) λD r=>s_.block D (K.lt D r) λe=>by
          subst e;subst d
          exact(ù.1 n1).1 r
        refine h3.congr ?_
        have N:(A++y).length*sz UInt8=((c.toList.drop o).take (A.length*sz UInt8)++n).length:=by rw[aO,aO,b8,H,k]
        rw[N,ö,px _ _ _ z,Î,List.drop_append]
        have h5:(c.toList.take (o+A.length*sz UInt8)).length=o+A.length*sz UInt8:=by
          rw[aY]
          have:c.toList.length=c.size:=by simp
          omega
        rw[h5,List.drop_take,show o+A.length*sz UInt8-o=A.length*sz UInt8 from by omega,show o-(o+A.length*sz UInt8)=0 from by omega,ě,<- Î,Y_ rfl]
      · exact Ext.refl.put (.inl (by subst d;simp))
      · subst d
        exact .inl r
      · subst d
        exact n1
    · have hg:p<A.length+y.length:=by omega
      have z_:=xG h (o:=o) (A.length*sz UInt8)
      have H:((c.toList.drop o).take (A.length*sz UInt8)).length=A.length*sz UInt8:=by
        rw[aY,bZ]
        have:c.toList.length=c.size:=by simp
        omega
      have k_:=run_firstCells_some (P:=P) w.drew (sz UInt8) A.length ⟨b,o,ç⟩ A.length p _ H (by simpa using Cf z_)
      have hn:¬ (A.length+m<=p):=by omega
      have r_:¬ (9223372036854775807<((A.length:Int)+(m:Int))):=by omega
      have z:=growslice_fits (bytes:=f) hg v
      have q_:¬ (281474976710656<Builtin.nextslicecap (A.length+m) p*f):=by rw[l] at z;omega
      have R:i.size≠0:=by rw[B];omega
      obtain⟨F,g,G,I,J⟩:=b_ p _ s H (l_.congr Dl) (λb h=>by subst d;simp[h]) (by subst d;exact(ù.1 n1).2) _ rfl
      refine⟨_,_,F,?_,g,G,I,J⟩
      rw[a] at k_
      simp[Ô,þ U,þ V,sizeOf,typeInfo,zeroValue,f_,g_,B,h_,i_,R,a,hw,j_,d_,hn,r_,q_,asInt,asIntOf,Question.forced,k_,newRow,grownCap,l]
      rw[a_]
      congr 2
      apply Array.ext'
      simp[Î]
end
section
variable {S:ä->Prop}{w:ä}{d:Tmp}{g:Option (Nat × Bool)}
theorem TW{t:ì}{v:è}{k:Int}(z:B.toList[i]? = á ⟨á d,.call ⟨.builtin .append,#[x,y],#[t,u]⟩,E,p,I,g⟩)(N:Wn B n L ⟨á d,.call ⟨.builtin .append,#[x,y],#[t,u]⟩,E,p,I,g⟩)(s:ò d n=ã)
    (J:P.underlying t=á (.slice e)) (K:P.underlying u=á (.int .i64)) (T:Ty P e (.int .u8 0) (sz UInt8) f) (O:evL L x=á v) (R:evL L y=á (.int .i64 k)) (m:Nat) (hk:k=m)
    (H:Sep M G D F w) (q:Nat) (b:D[q]? = á (Wk.A4 [v] A C)) (a_:A.length+m<=1000000) (b_:(A.length+m)*f<=140737488355328)
    (o:∀W,S w->Ext (· ∈ C) w W->S W)
    (k:∀V W c,Sep M G (D.set q (Wk.A4 [V] (A++å m 0) c)) F W->DL P n B Q S a ((d,V)::L) W) :
    DL P n B Q S ((i,â)::a) L w:=by
  subst hk
  by_cases Y:0<m
  · obtain⟨V,W,c,h1,h2,l,h4,h5⟩:=Jw (E:=E) J K T (H.A4 q b) (H.Aj b) Y a_ b_
    exact tO z N rfl s (pU O R h1) (λh _=>o _ h l) (k _ _ _ (H.set b (q:=Wk.A4 [V] (A++å m 0) c) l h2 h5 h4))
  · obtain rfl:m=0:=by omega
    obtain⟨U,X,j⟩:=aL (H.A4 q b)
    simp only[List.cons.injEq,and_true] at j
    subst j
    obtain⟨_,hc⟩:=Ml (H.A4 q b)
    refine tO z N rfl s (pU O R (Q6 J K T hc)) (λh _=>o _ h Ext.refl) (k _ _ _ (H.set b (q:=Wk.A4 [_] (A++å 0 0) C) Ext.refl ?_ (show C.Nodup from H.Aj (r:=Wk.A4 [Value.slice U A.length X] A C) b) λc_ hb => .inl hb))
    have h9:=H.A4 q b
    simpa[Wk.A4] using h9
end
section
variable {w c:ä}{j:Nat->Prop}{d:Tmp}{g:Option (Nat × Bool)}
theorem RX{t:ì}{v:è}{k:Int}(O:B.toList[i]? = á ⟨á d,.call ⟨.builtin .append,#[x,y],#[t,u]⟩,E,p,I,g⟩)(U:Wn B n L ⟨á d,.call ⟨.builtin .append,#[x,y],#[t,u]⟩,E,p,I,g⟩)(N:ò d n=ã)
    (R:P.underlying t=á (.slice e)) (S:P.underlying u=á (.int .i64)) (T:Ty P e (.int .u8 0) (sz UInt8) f) (X:evL L x=á v) (Y:evL L y=á (.int .i64 k)) (m:Nat) (K:k=m)
    (H:Sep M G D F w) (q:Nat) (J:D[q]? = á (Wk.A4 [v] A C)) (o:A.length+m<=1000000) (s:(A.length+m)*f<=140737488355328)
    (z:∀b∈C,c.heap.size<=b)
    (k:∀V W l,Sep M G (D.set q (Wk.A4 [V] (A++å m 0) l)) F W->DL P n B Q (Ext j c) a ((d,V)::L) W) :
    DL P n B Q (Ext j c) ((i,â)::a) L w:=TW O U N R S T X Y m K H q J o s (λ_ h e=>h.step e λb r => .inr (z b r)) k
end
end Go.Wk
namespace Go.Wk
open Go.Proofs Rp Go.Proofs.Tryz
set_option maxRecDepth 10000
variable {N C A:Option ô}{O n D m I T U:Nat}{R:List (List UInt8)}{a b c:UInt8}{s:List UInt8}{G:List Nat}{z:Wld}{g E:Int}{J:Nat->ä->Prop}{x:Block}
theorem ze{w:ä}{V:List Ac}{C:Nat}{F:List Nat}(T:Ag w [.slice A n C] V)(J:RdV w F V)(M:V.map Ac.r=cI z)(hl:V.length<=600000)(y:c7 z=0)(L:∀b∈F,b<w.heap.size):am 156 [z.A0.v,.slice A n C,ag g] w λv W=>Res w W [v] (iZ z g):=by
 obtain⟨H,O⟩:=T;obtain rfl:=gA O;have c_:V.length=(cI z).length:=by rw[<- M,aS]
 have b_:=pz (z:=z);have S:=(c5 y).1;have f_:=bm S;refine bv func156 Z (λQ I Y=>?_);have H:=Sep.start (aC O ba);refine aT (ci aB Z H (λH a c d e=>sA Z (aH (aT (dG (f:=Int) aB Z cS bV e (λH a c d e=>sA Z (aH (aT (sM Z (sC func117 Z (nu (X:=cI z) (ft:=F) (e.Ae 0 Z) (J.to e.ext) M ω (λe_ P=>Eb y P)) (λH a c=>?_)))))))))));obtain⟨H,f,c,h,i⟩:=c;obtain⟨a,l⟩:=e.res H c;obtain⟨H,a,m⟩:=aL (l.A4 2 Z);cases m;have H:f.map Ac.r=bT z:=Ci i;have a:f.length=(bT z).length:=by rw[<- H,aS]
 have K:RdV w F f:=h.back l.ext L;refine aG 7291476 ?_;refine fc (b:=Int) (a:=Nat × List Int) (λ(k,X)=>X) (0,[]) l 1 Z 7 Z [(1,_),(2,_),(3,_),(6,_),(8,_)] bf (λ(k,X)=>[(9,ag k)]) (λ(k,X)=>k<=(bT z).length/\UsA z g k X) (λ(k,X)=>(bT z).length-k) ⟨Z,trivial⟩ ⟨bj,NU⟩ (λ(k,X) a c d o ⟨hk,B⟩=>?_);dsimp only[jf,lNA,lSZ,sk] at o ⊢;refine br 0x9f3d2ff1125 (λa=>?_) (λa=>?_)
 .obtain⟨a,c,d,d_,e,h,i,U⟩:=o.recO (x:=(f.getD k à).r) (A:=(f.getD k à).A6) (C:=(f.getD k à).C6) (i:=(f.getD k à).A7) (k:=(f.getD k à).C7) (j:=(f.getD k à).A8) (l:=(f.getD k à).C8) (K.Bi (k:=k) ω);unfold Ë at e h i;have hel:(f.getD k à).r=(bT z).getD k default:=ey H ω;have H:=pH y (k:=k) ω;have E:=OA y (k:=k) ω;unfold Rec.few at E;rw[<- hel] at H E;obtain⟨H,a,c,d,e⟩:=U.B2 2 Z k ω;refine bi (aW (bP (aW (ep U (oQ [1,3,5,7,9,11,15,12,16]) (λH p=>aX 0xb61f52f62fbb65f p ?_)))));refine dC func157 Z (rY ω ω) (λH a q=>?_);obtain⟨s,rfl⟩:=q;have H:=p.to s;refine br 2667902735 (λa=>?_) (λa=>?_)
  .have G:=B.ln;obtain⟨a,c,d,e,f⟩:=H.B2 2 Z k ω;refine aG 4258794508566 ?_;refine ma aB Z cS bV Z H 1 Z (H.Ab 1 Z) ic ia (λa c d e=>aG 311652 ?_);have a:=PW B ω kW qM;rw[<- hel] at a;exact⟨((k+1,_),_,_),bf,⟨(e.Aq 1),bj,a⟩,θ⟩
  refine aG 311662 ?_;exact⟨((k+1,X),_,_),bf,⟨(H.Aq 1),bj,Qx B ω kW⟩,θ⟩
 refine bu (aW (aT (sA Z (aH (bP (fc (b:=Int) (a:=Nat × List Int) (λ(k,X)=>X) (0,X) o 1 Z 7 Z [(1,_),(2,_),(3,_),(6,_)] bf (λ(k,X)=>[(10,ag k)]) (λ(k,X)=>k<=(cI z).length/\UsC z g k X) (λ(k,X)=>(cI z).length-k) ⟨Z,trivial⟩ ⟨bj,Na B ω⟩ (λ(k,X) H a c d ⟨e,r⟩=>?_)))))));dsimp only[jf,lNA,lSZ,sk] at d ⊢;refine br 0x9f3d2ff1125 (λH=>?_) (λH=>?_)
 .have u:(V.getD k à).r=(cI z).getD k default:=ey M ω;obtain⟨H,a,c,e,f⟩:=d.viewSeen 0 Z k ω;refine aG 0x1d3cf93ef11206f5e ?_;refine cU 7 (j:=6) (E:=ã) (t:=57) Z (λH a=>bc (wgE Z H) Z (bL Z) (bc (wgE Z H) Z (bL Z) (bc (wgE Z H) Z (bR cd cy Z c k wY ω) (bc (wgE Z H) Z (bd cu Z ts2 Z) (bc (wgE Z H) Z (bp tu2 Z (gJ e 4 Z)) (bc (wgE Z H) Z (bL Z) (bc (wgE Z H) Z (ji Z Z) (a _ _ gP Z Ext.refl)))))))) (λH a=>?_);have H:=d.to a;refine sV Z (cX Z) (sM Z (cU 6 (j:=15) (E:=â) (t:=65) Z (λf h=>bc (wgE Z f) Z (bL Z) (bc (wgE Z f) Z (bL Z) (bc (wgE Z f) Z (bR cd cy Z c k (by first|omega|(simp only[bz,aP,bI,bJ,als_Bool_not_eq_true_,Bool.not_eq_false',ab,aa] at f;omega)) ω) (bc (wgE Z f) Z (bd cu Z ts2 Z) (bc (wgE Z f) Z (bp tu2 Z (gJ (a.at e) 0 Z)) (bc (wgE Z f) Z (ji Z Z) (h _ _ gP Z Ext.refl))))))) (λa c=>?_)));have a:=H.to c;refine br 11481951 (λH=>?_) (λH=>?_)
  .have G:=r.ln;have N:(((decide (((cI z).getD k à).Kind=2) && decide (((cI z).getD k à).Group=g)) || decide (((cI z).getD k à).Kind=4)))=true:=by rw[<- u];simpa using H
   have c:=Lt y (k:=k) (g:=g) ω N;rw[<- u] at c;obtain⟨c,e,f,h,i⟩:=a.viewSeen 0 Z k ω;refine aG 4258794508566 ?_;refine dx aB Z cS bV Z a (λc e f h i=>fC aB Z cS bV Z i 1 3 Z (mh l0) db ω (λc e f h=>aG 311652 ?_));have c:=P2 r ω (by rw[<- u];simpa using H);rw[<- u] at c;exact⟨((k+1,_),_,_),bf,⟨(h.dtake 3),bj,c⟩,θ⟩
  refine aG 311662 ?_;exact⟨((k+1,X),_,_),bf,⟨a,bj,Ox r ω (by rw[<- u];simpa using H)⟩,θ⟩
 refine bu (aT (dG (f:=Int) aB Z cS bV d (λH a c d e=>aG 7291476 ?_)));refine fc (b:=Int) (a:=Nat) (λk=>(jF z g k)) 0 e 3 Z 11 Z [(3,_),(6,_),(7,_)] bf (λk=>[(12,ag k)]) (λk=>k<=z.A0.Rows.toNat/\True) (λk=>z.A0.Rows.toNat-k) ⟨Z,trivial⟩ ⟨ω,trivial⟩ (λk H a c l ⟨d,_⟩=>?_);dsimp only[jf,lNA,lSZ,sk] at l ⊢;refine ge 0x9f3d37f9125 l (λH=>?_) (λH=>?_)
 .have G:=r.ln;obtain⟨H,a,m⟩:=aL (l.A4 1 Z);cases m;refine aG 287338334 ?_;refine sE func162 Z (ly (l.As 1 Z)) l (λH a c=>sV Z (cj Z) (aH (gG Z (λH=>?_) (λH=>?_))))
  .have a_:=s5 (z:=z) (g:=g) k;refine ce (sR 2 Z (dx aB Z cS bV Z c (λa d e f h=>fC aB Z cS bV Z h 3 4 Z (mh l0) db ω (λa d e f=>aG 311652 ?_))));have D:=Dw (k:=k) (by rw[<- Lx r ω];simpa using H);exact⟨(k+1,_,_),bf,⟨by rw[D];exact(f.dtake 4),bj,trivial⟩,θ⟩
  refine aG 311662 ?_;have D:=Fm (k:=k) (by rw[<- Lx r ω];simpa using H);exact⟨(k+1,_,_),bf,⟨by rw[D];exact c,bj,trivial⟩,θ⟩
 refine bu (aT (sR 2 Z (rN I Z ?_)));obtain rfl:k=z.A0.Rows.toNat:=by omega
 exact⟨l.ext,l.out 3 Z⟩

theorem τ4 {p:Prop}(h:p:=by exact λhS _ _ r _=>trivial):p:=h
theorem zD{w:ä}{h_ f_ g_:Nat}{e_ c_ d_:Option ô}{s_ r_ O:List Nat}(zB:w.heap[U]? = á (ay z e_ h_ c_ f_ d_ g_))(zK:z.Ok)(u_:ah w e_ z.A2 h_ s_)(t_:ah w c_ z.On f_ r_)(a_:ah w d_ z.A3 g_ O)(I:c7 z=0):am 104 [au U,ag g] w λq_ w'=>∃P W T X V Y rA rC,q_ = .tuple #[(nxX z g).val P W T X V Y,.slice rA (Ed z g).length rC,.bool (decide (0<=nxI z g (bT z).length))]/\(0<=nxI z g (bT z).length->InF w' O (Ac.mk (nxX z g) P W T X V Y).cs (nxX z g))/\ResS w w' [.slice rA (Ed z g).length rC] (Ed z g):=by
 have H:=cx zK;have hs:=(c5 I).1;have hT:=(c5 I).2.2.2.1;have n_:=nF I;have E_:=bm hs;have A_:=pz (z:=z);have w_:=jY (z:=z) hT n_;have z_:=Ni (z:=z) (g:=g) hs;refine bv func104 Z (λv_ Q hN=>?_);have H:=Sep.start (dc zB (aC u_ (aC t_ (aC a_ ba))));refine aT (cz aB Z Ä H (λH a c d e=>aG 4679 ?_));refine sC func78 Z (gt (e.Bd 0 Z) η (aJ (e.Ab 1 Z)) (aJ (e.Ab 2 Z)) (aJ (e.Ab 3 Z)) ξ ξ) (λH a d=>?_);obtain⟨f,h,d,i,j⟩:=d;obtain⟨H,l⟩:=e.res f d;obtain⟨H,a,m⟩:=aL (l.A4 1 Z);cases m;have H:h.length=(cI z).length:=by rw[<- j,aS]
 have H:=jY (z:=z) ξ η;have n:RdV w O h:=i.back l.ext (Rp.lt a_);refine sA Z (aH (aT (sM Z (sC func117 Z (nu (X:=cI z) (ft:=O) (l.As 1 Z) (n.to l.ext) j ω (λD_ hr=>Eb I hr)) (λH a d=>?_)))));obtain⟨o,p,d,s,u⟩:=d;obtain⟨H,y⟩:=l.res o d;obtain⟨H,a,A⟩:=aL (y.A4 2 Z);cases A;have B:p.map Ac.r=bT z:=Ci u;have H:p.length=(bT z).length:=by rw[<- B,aS]
 have C:RdV w O p:=s.back y.ext (Rp.lt a_);refine aX 18979345592612 y ?_;refine sC func156 Z (ze (z:=z) (F:=O) (y.As 1 Z) (n.to y.ext) j ω I (λb hb=>Nat.lt_of_lt_of_le (Rp.lt a_ b hb) y.ext.size)) (λH a d=>?_);obtain⟨D,d⟩:=d;obtain⟨H,E⟩:=y.res D d;obtain⟨H,a,F⟩:=aL (E.A4 3 Z);cases F;refine aG 1866617892 ?_;refine dr (a:=Nat) E [(0,_),(1,_),(4,_),(5,_),(6,_),(8,_),(9,_)] bf (λk=>[(10,ag (nxI z g k)),(11,ag k)]) (λk=>k<=(bT z).length/\True) (λk=>(bT z).length-k) 0 bf ⟨ω,trivial⟩ (λk H e ⟨hk,_⟩=>?_);dsimp only[jf,lNA];refine br 0x9f3d2ff1125 (λH=>?_) (λH=>?_)
 .obtain⟨h,i,j,o_,l,m,n,L⟩:=e.recO (x:=(p.getD k à).r) (A:=(p.getD k à).A6) (C:=(p.getD k à).C6) (i:=(p.getD k à).A7) (k:=(p.getD k à).C7) (j:=(p.getD k à).A8) (l:=(p.getD k à).C8) (C.Bi (k:=k) ω);unfold Ë at l m n;have M:(p.getD k à).r=(bT z).getD k default:=ey B ω;have s:=pH I (k:=k) ω;obtain⟨u,y,A⟩:=zh I (k:=k) ω;rw[<- M] at s u y A;have m_:=Dx (z:=z) (g:=g) k;obtain⟨H,a,d,E,F⟩:=L.B2 2 Z k ω;refine aG 0x40f3ef11206f5e ?_;refine cz aB Z Ä L (λH a d E F=>bw aB cy Z F 4 Z (λH a d=>aH (aW (aW ?_))));have hdp:uo z g ((bT z).getD k à)=(decide ((p.getD k à).r.Data.length=0) || decide (dy z.A0 (p.getD k à).r.Name≠g)):=by rw[<- M];rfl
  have hfp:AF z g ((bT z).getD k à)=decide (dd z.A0 (p.getD k à).r.Length<=((iZ z g).length:Int)):=by rw[<- M];rfl
  refine ep d (oQ [1,3,5,7,9,11,13,15,17,19,21,25,22,27,29,31,33,35,37,39,41,43,47,49,44,51,52]) (λH G=>aX 0xb4cf53f5bf52f G ?_);refine dU (t:=38) Z (λH=>?_) (λH=>?_)
  .replace H:=φ H
   refine aG 0x4f7afafefaaaaaaaab56fafefaaaaaaa ?_;refine eL Z (bu (aG 19478 ?_));exact⟨k+1,⟨eqI (F3 G0).symm,Z,Z,Z,Z,Z,Z,Z,Z,trivial⟩,⟨((G.Aq 4).dtake 4),bj,trivial⟩,θ⟩
  replace H:=φ H
  refine aX 0xb4fc7fbefd2fbefb6fb4f G ?_;refine cb Z (wg Z) Z (pcK func157 Z) (rY ω ω) τ1 (λH a i_=>?_);obtain⟨J,rfl⟩:=i_;have b_:=G.to J;refine aG 190315407 ?_;refine dU (t:=49) Z (λH=>?_) (λH=>?_)
  .replace H:=φ H
   refine aG 0x4f7afafefaaaaaaaa ?_;refine eL Z (bu (aG 19478 ?_));exact⟨k+1,⟨eqI (F3 G0).symm,Z,Z,Z,Z,Z,Z,Z,Z,trivial⟩,⟨((b_.Aq 4).dtake 4),bj,trivial⟩,θ⟩
  replace H:=φ H
  refine aX 0xbffb4fc7fbefd2fbefb6fb4f G ?_;refine cb Z (wg Z) Z (pcK Ś Z) (d7 η ω) τ1 (λH a j_=>?_);obtain⟨k_,rfl⟩:=j_;have H:=b_.to k_;refine br 0x9f04f7bfb8f (λa=>?_) (λa=>?_)
  .refine bu (aG 19478 ?_);exact⟨k+1,⟨eqI (F3 G0).symm,Z,Z,Z,Z,Z,Z,Z,Z,trivial⟩,⟨((H.Aq 4).dtake 4),bj,trivial⟩,θ⟩
  refine bi (aW (ep H (oQ [1,3,5,7,9,11,13,15,17,19,21,22]) (λH a=>dR 3 Z (dU (t:=63) Z (λH=>?_) (λH=>?_)))))
  .replace H:=φ H
   refine aG 0x4f7afaaaaaaaa ?_;refine eL Z (aG 79782934 ?_);exact⟨k+1,⟨eqI (L4 (by rw[hdp,hfp,aP,als_Bool_not_eq_true_,bz,aa,aa,ab];omega) (.inl ω)).symm,Z,Z,Z,Z,Z,Z,Z,Z,trivial⟩,⟨((a.Aq 4).dtake 4),bj,trivial⟩,θ⟩
  replace H:=φ H
  obtain⟨H,d,E,F,G⟩:=a.B2 2 Z (nxI z g k).toNat ω;refine ge 0x9f04f7bfb8fcdfbefcffb4fb4fc7fbef a (λH=>?_) (λH=>?_)
  .have H:(p.getD (nxI z g k).toNat à).r=(bT z).getD (nxI z g k).toNat default:=ey B ω;refine aG 79782934 ?_;exact⟨k+1,⟨eqI (L4 (by rw[hdp,hfp,aP,als_Bool_not_eq_true_,bz,aa,aa,ab];omega) (.inr (by rw[<- M,<- H];omega))).symm,Z,Z,Z,Z,Z,Z,Z,Z,trivial⟩,⟨((a.Aq 4).dtake 4),bj,trivial⟩,θ⟩
  have H:(p.getD (nxI z g k).toNat à).r=(bT z).getD (nxI z g k).toNat default:=ey B ω;refine aG 311662 ?_;exact⟨k+1,⟨eqI (SC (by rw[<- M,<- H];omega)).symm,Z,Z,Z,Z,Z,Z,Z,Z,trivial⟩,⟨((a.Aq 4).dtake 4),bj,trivial⟩,θ⟩
 refine bu ?_;obtain rfl:k=(bT z).length:=by omega
 have m_:=Dx (z:=z) (g:=g) (bT z).length;refine br 166973733 (λH=>?_) (λH=>?_)
 .refine aT (sV Z (bM eD Z Z) (bw aB cy Z e 0 Z (λH a d=>sR 2 Z (aH (dY (Q _ _ (qY Z Z (cm cu Z cy Z (At.whole (d.box 0 Z))) Z Z ?_)))))));obtain⟨c,f⟩:=Ts (z:=z) (g:=g) ω;rw[c,f,a8 (show ¬ 0<=(nxI z g (bT z).length) by omega)];exact⟨d.ext,ç,0,ç,0,ç,0,ç,0,Z,λp_=>absurd p_ ω,⟨[],.inr (.inl ⟨Z,Z,Z⟩),σ⟩⟩
 obtain⟨h,i,j,o_,l,m,n,L⟩:=e.recO (x:=(p.getD (nxI z g (bT z).length).toNat à).r) (A:=(p.getD (nxI z g (bT z).length).toNat à).A6) (C:=(p.getD (nxI z g (bT z).length).toNat à).C6) (i:=(p.getD (nxI z g (bT z).length).toNat à).A7) (k:=(p.getD (nxI z g (bT z).length).toNat à).C7) (j:=(p.getD (nxI z g (bT z).length).toNat à).A8) (l:=(p.getD (nxI z g (bT z).length).toNat à).C8) (C.Bi (k:=(nxI z g (bT z).length).toNat) ω);unfold Ë at l m n;replace L:=bt L;have M:(p.getD (nxI z g (bT z).length).toNat à).r=(bT z).getD (nxI z g (bT z).length).toNat default:=ey B ω;have s:=pH I (k:=(nxI z g (bT z).length).toNat) ω;obtain⟨u,y,A⟩:=zh I (k:=(nxI z g (bT z).length).toNat) ω;rw[<- M] at s u y A;have v:0<=(nxI z g (bT z).length):=by omega
 have K:(p.getD (nxI z g (bT z).length).toNat à).r=nxR z g:=M;obtain⟨-,x_,l_⟩:=vK v;have C_:dd z.A0 (nxR z g).Length<=((iZ z g).length:Int):=of_decide_eq_true l_;have H:=qA hs y;refine bi (aW ?_);have B_:dd z.A0 (p.getD (nxI z g (bT z).length).toNat à).r.Length=((pnN z (nxR z g)):Nat):=by rw[K] at H ⊢;unfold pnN;omega
 have N:(pnN z (nxR z g))<=(iZ z g).length:=by unfold pnN;omega
 have y_:=di (L.A4 3 Z);obtain⟨H,a,d,e,h⟩:=L.B2 2 Z (nxI z g (bT z).length).toNat ω;refine eE (S:=λ_=>True) (oQ [1,3,5,9,11,13,15,19,21,23,25,2032,6,2014,16,26,28,31,32,35,36,26,16,28,31,32,35,36,2046,16,2014,6,26,28,31,32,35,36,26,2012,6,28,31,32,35,36,28,31,6,32,35,36,26,2014,6,16,28,31,32,35,36,16,2012,6,28,31,32,35,36,28,31,6,32,35,36]) κ κ κ Z (λ_=>trivial) (λH=>?_);have i:=L.drawn H;refine dR 2 Z (dV Z (λr q=>bR cd cy Z d (nxI z g (bT z).length).toNat ω ω) (aG 804550651835 ?_));refine dV Z (λr q=>bR cd cy Z d (nxI z g (bT z).length).toNat ω ω) (dV Z τ8 (dF Z ?_ ?_))
 .refine dD Z aB Z (eB cu Z cy Z e) (dF Z ?_ ?_)
  .refine aX 8779951 i ?_;refine cb Z aB Z (pcK Ś Z) (d7 η ω) τ4 (λH a j=>?_);obtain⟨l,rfl⟩:=j;have H:=i.to l;refine dV Z (λr q=>fW cS ts2 Z ((pnN z (nxR z g))) ω ω (show(pnN z (nxR z g))=(pnN z (nxR z g))-0 from Z)) (lI Z aB cy Z H 0 Z Z uF (λH a d=>dV Z (λr q=>cr Z) (dD Z aB Z (cr Z) (dO (dY (Q _ _ (qY Z Z (cm cu Z cy Z (At.whole (d.box 0 Z))) Z Z ?_)))))));obtain⟨c,f⟩:=oV (z:=z) (g:=g) ω;have o:nxX z g=(p.getD (nxI z g (bT z).length).toNat à).r:=c.trans K.symm;have D:(du z g (nxR z g)).length=(pnN z (nxR z g)):=by unfold du;rw[aY];omega
   rw[o,f,D,aU v];exact⟨d.ext,_,_,_,_,_,_,_,_,Z,λ_=>(C.to d.ext).Bi (k:=(nxI z g (bT z).length).toNat) ω,d.outCut 3 Z (pnN z (nxR z g)) N⟩
  refine aX 9107551 i ?_;refine cb Z aB Z (pcK Ś Z) (d7 η ω) τ4 (λH a m=>?_);obtain⟨n,rfl⟩:=m;have H:=i.to n;refine dV Z (λr q=>fW cS ts2 Z ((pnN z (nxR z g))) ω ω (show(pnN z (nxR z g))=(pnN z (nxR z g))-0 from Z)) (lI Z aB cy Z H 0 Z Z uF (λH a d=>dV Z (λr q=>cr Z) (dD Z aB Z (cr Z) (dO (dY (Q _ _ (qY Z Z (cm cu Z cy Z (At.whole (d.box 0 Z))) Z Z ?_)))))));obtain⟨c,f⟩:=oV (z:=z) (g:=g) ω;have o:nxX z g=(p.getD (nxI z g (bT z).length).toNat à).r:=c.trans K.symm;have D:(du z g (nxR z g)).length=(pnN z (nxR z g)):=by unfold du;rw[aY];omega
  rw[o,f,D,aU v];exact⟨d.ext,_,_,_,_,_,_,_,_,Z,λ_=>(C.to d.ext).Bi (k:=(nxI z g (bT z).length).toNat) ω,d.outCut 3 Z (pnN z (nxR z g)) N⟩
 refine dF Z ?_ ?_
 .refine aX 2223 i ?_;refine dF Z ?_ ?_
  .refine aG 8779919 ?_;refine cb Z aB Z (pcK Ś Z) (d7 η ω) τ4 (λH a s=>?_);obtain⟨u,rfl⟩:=s;have H:=i.to u;refine dV Z (λr q=>fW cS ts2 Z ((pnN z (nxR z g))) ω ω (show(pnN z (nxR z g))=(pnN z (nxR z g))-0 from Z)) (lI Z aB cy Z H 0 Z Z uF (λH a d=>dV Z (λr q=>cr Z) (dD Z aB Z (cr Z) (dO (dY (Q _ _ (qY Z Z (cm cu Z cy Z (At.whole (d.box 0 Z))) Z Z ?_)))))));obtain⟨c,f⟩:=oV (z:=z) (g:=g) ω;have o:nxX z g=(p.getD (nxI z g (bT z).length).toNat à).r:=c.trans K.symm;have D:(du z g (nxR z g)).length=(pnN z (nxR z g)):=by unfold du;rw[aY];omega
   rw[o,f,D,aU v];exact⟨d.ext,_,_,_,_,_,_,_,_,Z,λ_=>(C.to d.ext).Bi (k:=(nxI z g (bT z).length).toNat) ω,d.outCut 3 Z (pnN z (nxR z g)) N⟩
  refine dD Z aB Z (bp tu2 Z (gJ e 3 Z)) (dF Z ?_ ?_)
  .refine dD Z aB Z (eB cu Z cy Z e) (cb Z aB Z (pcK Ś Z) (d7 η ω) τ4 (λH a h=>?_));obtain⟨j,rfl⟩:=h;have H:=i.to j;refine dV Z (λr q=>fW cS ts2 Z ((pnN z (nxR z g))) ω ω (show(pnN z (nxR z g))=(pnN z (nxR z g))-0 from Z)) (lI Z aB cy Z H 0 Z Z uF (λH a d=>?_));replace d:=bt d;refine dV Z (λr q=>cr Z) (dD Z aB Z (cr Z) (dO (dY (Q _ _ (qY Z Z (cm cu Z cy Z (At.whole (d.box 0 Z))) Z Z ?_)))));obtain⟨c,f⟩:=oV (z:=z) (g:=g) ω;have o:nxX z g=(p.getD (nxI z g (bT z).length).toNat à).r:=c.trans K.symm;have D:(du z g (nxR z g)).length=(pnN z (nxR z g)):=by unfold du;rw[aY];omega
   rw[o,f,D,aU v];exact⟨d.ext,_,_,_,_,_,_,_,_,Z,λ_=>(C.to d.ext).Bi (k:=(nxI z g (bT z).length).toNat) ω,d.outCut 3 Z (pnN z (nxR z g)) N⟩
  refine cb Z aB Z (pcK Ś Z) (d7 η ω) τ4 (λH a l=>?_);obtain⟨m,rfl⟩:=l;have H:=i.to m;refine dV Z (λr q=>fW cS ts2 Z ((pnN z (nxR z g))) ω ω (show(pnN z (nxR z g))=(pnN z (nxR z g))-0 from Z)) (dD Z aB Z (eB cu Z cy Z (m.at e)) (lI Z aB cy Z H 0 Z Z uF (λH a d=>dV Z (λr q=>cr Z) (dD Z aB Z (cr Z) (dO (dY (Q _ _ (qY Z Z (cm cu Z cy Z (At.whole (d.box 0 Z))) Z Z ?_))))))));obtain⟨c,f⟩:=oV (z:=z) (g:=g) ω;have o:nxX z g=(p.getD (nxI z g (bT z).length).toNat à).r:=c.trans K.symm;have D:(du z g (nxR z g)).length=(pnN z (nxR z g)):=by unfold du;rw[aY];omega
  rw[o,f,D,aU v];exact⟨d.ext,_,_,_,_,_,_,_,_,Z,λ_=>(C.to d.ext).Bi (k:=(nxI z g (bT z).length).toNat) ω,d.outCut 3 Z (pnN z (nxR z g)) N⟩
 refine dD Z aB Z (bp tu2 Z (gJ e 3 Z)) (dF Z ?_ ?_)
 .refine aX 9107599 i ?_;refine cb Z aB Z (pcK Ś Z) (d7 η ω) τ4 (λH a n=>?_);obtain⟨s,rfl⟩:=n;have H:=i.to s;refine dV Z (λr q=>fW cS ts2 Z ((pnN z (nxR z g))) ω ω (show(pnN z (nxR z g))=(pnN z (nxR z g))-0 from Z)) (lI Z aB cy Z H 0 Z Z uF (λH a d=>dV Z (λr q=>cr Z) (dD Z aB Z (cr Z) (dO (dY (Q _ _ (qY Z Z (cm cu Z cy Z (At.whole (d.box 0 Z))) Z Z ?_)))))));obtain⟨c,f⟩:=oV (z:=z) (g:=g) ω;have o:nxX z g=(p.getD (nxI z g (bT z).length).toNat à).r:=c.trans K.symm;have D:(du z g (nxR z g)).length=(pnN z (nxR z g)):=by unfold du;rw[aY];omega
  rw[o,f,D,aU v];exact⟨d.ext,_,_,_,_,_,_,_,_,Z,λ_=>(C.to d.ext).Bi (k:=(nxI z g (bT z).length).toNat) ω,d.outCut 3 Z (pnN z (nxR z g)) N⟩
 refine aX 2223 i ?_;refine dF Z ?_ ?_
 .refine dD Z aB Z (eB cu Z cy Z e) (cb Z aB Z (pcK Ś Z) (d7 η ω) τ4 (λH a h=>?_));obtain⟨j,rfl⟩:=h;have H:=i.to j;refine dV Z (λr q=>fW cS ts2 Z ((pnN z (nxR z g))) ω ω (show(pnN z (nxR z g))=(pnN z (nxR z g))-0 from Z)) (lI Z aB cy Z H 0 Z Z uF (λH a d=>dV Z (λr q=>cr Z) (dD Z aB Z (cr Z) (dO (dY (Q _ _ (qY Z Z (cm cu Z cy Z (At.whole (d.box 0 Z))) Z Z ?_)))))));obtain⟨c,f⟩:=oV (z:=z) (g:=g) ω;have o:nxX z g=(p.getD (nxI z g (bT z).length).toNat à).r:=c.trans K.symm;have D:(du z g (nxR z g)).length=(pnN z (nxR z g)):=by unfold du;rw[aY];omega
  rw[o,f,D,aU v];exact⟨d.ext,_,_,_,_,_,_,_,_,Z,λ_=>(C.to d.ext).Bi (k:=(nxI z g (bT z).length).toNat) ω,d.outCut 3 Z (pnN z (nxR z g)) N⟩
 refine cb Z aB Z (pcK Ś Z) (d7 η ω) τ4 (λH a l=>?_);obtain⟨u,rfl⟩:=l;have H:=i.to u;refine dV Z (λr q=>fW cS ts2 Z ((pnN z (nxR z g))) ω ω (show(pnN z (nxR z g))=(pnN z (nxR z g))-0 from Z)) (dD Z aB Z (eB cu Z cy Z (u.at e)) (lI Z aB cy Z H 0 Z Z uF (λH a d=>?_)));replace d:=bt d;refine dV Z (λr q=>cr Z) (dD Z aB Z (cr Z) (dO (dY (Q _ _ (qY Z Z (cm cu Z cy Z (At.whole (d.box 0 Z))) Z Z ?_)))));obtain⟨c,f⟩:=oV (z:=z) (g:=g) ω;have o:nxX z g=(p.getD (nxI z g (bT z).length).toNat à).r:=c.trans K.symm;have D:(du z g (nxR z g)).length=(pnN z (nxR z g)):=by unfold du;rw[aY];omega
 rw[o,f,D,aU v];exact⟨d.ext,_,_,_,_,_,_,_,_,Z,λ_=>(C.to d.ext).Bi (k:=(nxI z g (bT z).length).toNat) ω,d.outCut 3 Z (pnN z (nxR z g)) N⟩

theorem gO{w:ä}{s:A0}(e:s.ok=ã):am 63 [s.v] w λv W=>v = ag ((s.Data*4).toNat:Nat):=by
 have S:=bm e;refine bv œ Z (λQ h N=>?_);have H:=Sep.start (w:=w) (F:=[]) σ;refine aT (ci aB Z H (λH a b c d=>aX 287212828964 d ?_));refine rT h Z (⟨d.ext,?_⟩);rw[bQ ω]

theorem υ6 {p:Prop}(h:p:=by exact λzw hx=>qP Z Z iO):p:=h
theorem x9{w:ä}{s:A0}{C:Nat}{X:List UInt8}(xS:Ag w [.slice A m C] X)(hs:s.ok=ã)(hL:1<=X.length/\X.length<=36)(hn:(n:Int)=dd s X.length)(b_:n<=3)(M:X.length<=n*(s.Data*4).toNat):am 106 [s.v,.slice A m C] w λe_ w'=>Res w w' [e_] (c6 (s.Data*4).toNat n X n):=by
 have h_:=bm hs;obtain⟨H,Y⟩:=xS;obtain rfl:=gA Y;have W:n*(s.Data*4).toNat<=3*12:=Nat.mul_le_mul b_ ω;have a:dd s X.length*((s.Data*4).toNat:Nat)=((n*(s.Data*4).toNat:Nat):Int):=by rw[<- hn,Ľ]
 obtain⟨P,R⟩:∃d_,d_=X++å (n*(s.Data*4).toNat-X.length) (0:UInt8):=⟨_,Z⟩;have V:P.length=n*(s.Data*4).toNat:=by rw[R,aO,aZ];omega
 refine bv func106 Z (λf_ hQ hN=>?_);have H:=Sep.start (aC Y ba);refine aT (ci aB Z H (λH c d f g=>aX 12869443364 g ?_));refine sE Ś Z (d7 η ω) g (λH c d=>sA Z (aH (aW (ep d [(1,ã),(3,ã),(4,ã),(7,ã),(8,ã),(0,â),(2,â),(5,â),(6,ã),(9,ã),(10,â),(11,â)] (λH c=>aX 22543753147 c ?_)))));refine d_S (λj=>?_) σ;refine jD (a:=UInt8) Z aB Z cJ b6 c τ0 (λH c d o f=>d_S (λr=>?_) σ);refine dh Z aB Z cJ b6 Z f 1 Z (f.Ab 0 Z) ic ia (λb v=>by simp only[aD] at v;rw[v];exact aF j.size o) (λH c d t u=>d_S (λH=>?_) σ);refine dC œ Z (gO η) (λH c x=>?_);obtain⟨y,rfl⟩:=x;have H:=u.to y;refine aG 5305631 ?_;refine RX Z aB Z cJ tu2 b6 Z Z (n*(s.Data*4).toNat-X.length) ω H 1 Z (by(try simp only[aO,aV]);omega) (by(try simp only[aO,aV]);omega) (λb v=>(t b v).elim (((λb v=>by simp only[aD] at v;rw[v];exact aF j.size o):∀b∈_,_<=b) b) (λh=>aF r.size h)) (λH c d z=>dD Z aB Z (cr Z) (dO (aW ?_)));have c_:[]++X++å (n*(s.Data*4).toNat-X.length) 0=P:=by rw[R];simp
 obtain⟨pa,pc,pq⟩:=aL (z.A4 1 Z);cases pq;have T:=z.Ba 1 Z
 first|rw[c_] at T|rw[<- R] at T
 refine ce (dG (f:=List UInt8) aB Z c8 cw T (λH c d f g=>aG 7291476 ?_));refine fc (b:=List UInt8) (a:=Nat) (λk=>(c6 (s.Data*4).toNat n X k)) 0 g 2 Z 7 Z [(2,_),(4,_),(5,_),(6,_)] bf (λk=>[(8,ag k)]) (λk=>k<=n/\True) (λk=>n-k) ⟨Z,trivial⟩ ⟨ω,trivial⟩ (λk H c d j ⟨hk,_⟩=>?_);dsimp only[jf,lNA,lSZ,sk] at j ⊢;refine br 2671579429 (λH=>?_) (λH=>?_)
 .obtain⟨e,N⟩:∃q,q=k*(s.Data*4).toNat:=⟨_,Z⟩;obtain⟨p,Q⟩:∃q,q=(s.Data*4).toNat:=⟨_,Z⟩;refine bi (aW (bP ?_));have H:e+p<=P.length:=by rw[V,N,Q,<- Ō];exact Å _ ω
  have H:((k:Int)+1)*((s.Data*4).toNat:Nat)=((e+p:Nat):Int):=by rw[N,Q,<- Ō,Ľ];rfl
  have H:(k:Int)*((s.Data*4).toNat:Nat)=(e:Int):=by rw[N];exact(Ľ _ _).symm
  have H:P.length<=36:=by rw[V];exact W
  have U:cut P e (e+p)=im (s.Data*4).toNat n X k:=by rw[N,Q,R];rfl
  have g_:=qe (m:=(s.Data*4).toNat) (n:=n) (A:=X) (i:=k);have H:(p:Int)=s.Data*4:=by rw[Q];omega
  clear W a V M N
  refine eE (S:=Ext (· ∈ c) _) [(0,ã),(2,ã),(3,ã),(4,ã),(7,ã),(8,ã),(9,ã),(1010,â),(1,â),(5,â),(6,ã),(10,â),(11,ã),(12,ã),(13,â),(14,â),(15,â),(16,â),(5,â),(6,ã),(1008,â),(1,â),(10,â),(11,ã),(12,ã),(13,â),(14,â),(15,â),(16,â),(10,â),(11,ã),(12,ã),(1,â),(13,â),(14,â),(15,â),(16,â)] κ κ κ Z τ6 (λH=>?_);have a:=j.drawn H;refine dR 3 Z (dV Z (λO M=>eB kB Z lZ Z (At.whole (M.heapM (a.Bh 0 Z 2 Z) (a.box 0 Z)))) (dM Z (dV Z (λO M=>jr Z Z iO) (dV Z (λO M=>eB kB Z lZ Z (At.whole (M.heapM (a.Bh 0 Z 2 Z) (a.box 0 Z)))) (dF Z ?_ ?_)))))
  .refine d_S (λo=>?_) σ;refine jD (a:=UInt8) Z aB Z cJ b6 a τ0 (λH c d r t=>d_S (λH=>?_) σ);refine dC œ Z (gO η) (λH c u=>?_);obtain⟨x,rfl⟩:=u;have y:=t.to x;refine dV Z υ6 (d_S (λH=>?_) σ);refine dC œ Z (gO η) (λH c B=>?_);obtain⟨D,rfl⟩:=B;have H:=y.to D;have c:=di (H.Ab 1 Z);obtain⟨c,d,f⟩:=fG (H.Ab 1 Z) (e) (e+p) _ ω ω ω (aN _);have c:=H.look1 1 Z d f;have H:=fb (x:=P) (l:=e) (h:=e+p) ω;refine dV Z υ6 (dV Z (λO M=>BY cJ ts5 Z Z Z (e) (e+p) ω ω ω ω H) (d_S (λH=>?_) σ));refine dh Z aB Z cJ b6 Z c 3 Z (c.Ab 2 Z) ic ia (λb v=>by simp only[aD] at v;rw[v];exact aF o.size r) (λH c d f g=>?_);replace g:=bt g;obtain⟨H,c,z⟩:=aL (g.A4 3 Z);cases z;refine dB Z aB Z c8 cw Z g τ0 (λH c d f g=>kj Z aB Z c8 cw Z g 2 4 3 Z db ω τ9 (λH c d f=>?_));have E:(c6 (s.Data*4).toNat n X k)++[[]++cut P e (e+p)]=(c6 (s.Data*4).toNat n X (k+1)):=by rw[Ý,U,oS]
   refine aG 326786938591 ?_;exact⟨(k+1,_,_),bf,⟨by rw[<- E];exact((f.Aq 2).dtake 3),bj,trivial⟩,θ⟩
  refine d_S (λH=>?_) σ;refine dC œ Z (gO η) (λH c F=>?_);obtain⟨G,rfl⟩:=F;have I:=a.to G;refine dV Z υ6 (dF Z ?_ ?_)
  .refine d_S (λa=>?_) σ;refine jD (a:=UInt8) Z aB Z cJ b6 I τ0 (λH c d J K=>d_S (λH=>?_) σ);refine dC œ Z (gO η) (λH c L=>?_);obtain⟨a_,rfl⟩:=L;have H:=K.to a_;have c:=di (H.Ab 1 Z);obtain⟨c,d,f⟩:=fG (H.Ab 1 Z) (e) (e+p) _ ω ω ω (aN _);have c:=H.look1 1 Z d f;have H:=fb (x:=P) (l:=e) (h:=e+p) ω;refine dV Z υ6 (dV Z (λO M=>BY cJ ts5 Z Z Z (e) (e+p) ω ω ω ω H) (d_S (λH=>?_) σ));refine dh Z aB Z cJ b6 Z c 3 Z (c.Ab 2 Z) ic ia (λb v=>by simp only[aD] at v;rw[v];exact aF a.size J) (λH a c d o=>?_);obtain⟨H,a,r⟩:=aL (o.A4 3 Z);cases r;refine dB Z aB Z c8 cw Z o τ0 (λH a c d f=>kj Z aB Z c8 cw Z f 2 4 3 Z db ω τ9 (λH a c d=>?_));have E:(c6 (s.Data*4).toNat n X k)++[[]++cut P e (e+p)]=(c6 (s.Data*4).toNat n X (k+1)):=by rw[Ý,U,oS]
   refine aG 326786938591 ?_;exact⟨(k+1,_,_),bf,⟨by rw[<- E];exact((d.Aq 2).dtake 3),bj,trivial⟩,θ⟩
  refine d_S (λH=>?_) σ;refine dC œ Z (gO η) (λH a g=>?_);obtain⟨t,rfl⟩:=g;have H:=I.to t;have a:=di (H.Ab 1 Z);obtain⟨a,c,d⟩:=fG (H.Ab 1 Z) (e) (e+p) _ ω ω ω (aN _);have a:=H.look1 1 Z c d;have H:=fb (x:=P) (l:=e) (h:=e+p) ω;refine dV Z υ6 (dV Z (λO M=>BY cJ ts5 Z Z Z (e) (e+p) ω ω ω ω H) (d_S (λH=>?_) σ));refine jD (a:=UInt8) Z aB Z cJ b6 a τ0 (λa c d f g=>d_S (λa=>?_) σ);refine dh Z aB Z cJ b6 Z g 3 Z (g.Ab 2 Z) ic ia (λb v=>by simp only[aD] at v;rw[v];exact aF H.size f) (λH a c d u=>?_);obtain⟨H,a,x⟩:=aL (u.A4 3 Z);cases x;refine dB Z aB Z c8 cw Z u τ0 (λH a c d f=>kj Z aB Z c8 cw Z f 2 4 3 Z db ω τ9 (λH a c d=>?_));have E:(c6 (s.Data*4).toNat n X k)++[[]++cut P e (e+p)]=(c6 (s.Data*4).toNat n X (k+1)):=by rw[Ý,U,oS]
  refine aG 326786938591 ?_;exact⟨(k+1,_,_),bf,⟨by rw[<- E];exact((d.Aq 2).dtake 3),bj,trivial⟩,θ⟩
 refine bu (aT (sR 2 Z (rN hQ Z ?_)));obtain rfl:k=n:=by omega
 exact⟨j.ext,j.out 2 Z⟩

theorem ox{w:ä}{i v y F:Nat}{M:List Nat}{K:Option ô}{L:Nat}(a_:OwnW w U 31 z G)(nd:G.Nodup)(Y:w.heap[I]? = á (.cells [ag x.Stamp,ak K x.Bytes L].toArray 87))(P:I ∉ G)(h2:w.heap[T]? = á (.cells [au U].toArray 71))(Q:T ∉ G)(h3:w.heap[v]? = á (.cells [ag g].toArray 2))(R:v ∉ G)(h4:w.heap[y]? = á (.cells [ag (i:Nat)].toArray 2))(V:y ∉ G)(h5:w.heap[F]? = á (.cells [ag E].toArray 2))(W:F ∉ G)(xO:ah w K x.Bytes L M)(xD:∀b∈M,b ∉ G)(X:x.Ok)(hg:0<=g/\g.toNat<z.A2.length)(hi:i<(z.A2.getD g.toNat []).length)(hr:0<=E/\E.toNat<((z.A2.getD g.toNat []).getD i à).Ai.length)(hl:x.Bytes.length<=1000000):Ret ê 232 #[au I,au T,au v,au y,au F] w λd_ w'=>(MutW w w' G U 31 (lq g.toNat i E.toNat x z)):=by
 refine bv func232 Z (λc_ hQ N=>?_);have H:=((((((Sep.beginW a_ nd).boxF Y P).boxF h2 Q).boxF h3 R).boxF h4 V).boxF h5 W).seeF xO xD;obtain⟨a,c,d,e,f,h,j,k,l,m,n⟩:=H.B3 0 Z;obtain⟨H,a,c,d,e,f,h,j,k,l⟩:=n.focusL 2 Z g.toNat ω;obtain⟨H,a,c,d,e,f,h,j,p,n,q⟩:=bt (Drive.focus l 5 Z i ω);obtain⟨H,a,s⟩:=gq (q.A4 7 Z) E.toNat ω;refine eE (S:=q.S2 2 5) (oQ [1,3,5,7,9,11,15,23,25,27,29,31,2028,12,17,19,2010,20,32,35,37,38,32,35,20,37,38,32,35,12,17,19,20,37,38]) κ κ κ Z (λ_=>show q.S2 2 5 _ from Ext.refl.drawn _) (λH=>?_);have t:=q.drawn H;refine aX 0x67f67f52f4af67f q ?_;refine dV Z (λO J=>bR ie nn Z k g.toNat ω ω) (aX 0x67f52f67f52f67f67f q ?_);refine dF Z ?_ ?_
 .refine aX 2079 t ?_;refine dV Z (λO J=>bR kZ oT Z p i ω ω) (dV Z υ2 (dF Z ?_ ?_))
  .refine aX 2095 t ?_;refine cb Z aB Z (pcK Ā Z) (cq (t.Ae 5 Z) ω) (λo _ _ r _=>q.s2Call o r.1) (λH a c=>?_);obtain⟨H,c⟩:=c;obtain⟨a,u⟩:=t.res H c;obtain⟨H,a,b_⟩:=aL (u.A4 8 Z);cases b_;refine dV Z υ3 ?_;have H:=u.packB 8 x.Stamp Z X;refine aG 1599 ?_;refine l8 Z aB zV H 7 8 Z Z Z E.toNat ω Z s Z (λH a c=>dO (N _ _ (pR Z ?_)));obtain⟨H,a⟩:=Drive.fill c 5 7 Z Z Z trivial;obtain⟨H,c⟩:=bt (a.fill 2 5 Z Z Z);obtain⟨H,a⟩:=c.Ar 0 2 3 4 (lq g.toNat i E.toNat x z) Z (jH m);exact a.Ax
  refine cb Z aB Z (pcK Ā Z) (cq (t.Ae 5 Z) ω) (λo _ _ r _=>q.s2Call o r.1) (λH a c=>?_);obtain⟨H,c⟩:=c;obtain⟨a,A⟩:=t.res H c;obtain⟨H,a,B⟩:=aL (A.A4 8 Z);cases B;refine dV Z υ3 (aX 6551599 A ?_);have H:=A.packB 8 x.Stamp Z X;refine l8 Z aB zV H 7 8 Z Z Z E.toNat ω Z s Z (λH a c=>dO (N _ _ (pR Z ?_)));obtain⟨H,a⟩:=bt (Drive.fill c 5 7 Z Z Z trivial);obtain⟨H,c⟩:=a.fill 2 5 Z Z Z;obtain⟨H,a⟩:=c.Ar 0 2 3 4 (lq g.toNat i E.toNat x z) Z (jH m);exact a.Ax
 refine cb Z aB Z (pcK Ā Z) (cq (t.Ae 5 Z) ω) (λo _ _ r _=>q.s2Call o r.1) (λH a c=>?_);obtain⟨H,c⟩:=c;obtain⟨a,C⟩:=t.res H c;obtain⟨H,a,D⟩:=aL (C.A4 8 Z);cases D;refine dV Z υ3 (aX 2079 C ?_);refine dV Z (λO J=>bR kZ oT Z p i ω ω) (aX 26835350831 C ?_);have H:=C.packB 8 x.Stamp Z X;refine l8 Z aB zV H 7 8 Z Z Z E.toNat ω Z s Z (λH a c=>?_);replace c:=bt c;refine dO (N _ _ (pR Z ?_));obtain⟨H,a⟩:=Drive.fill c 5 7 Z Z Z trivial;obtain⟨H,c⟩:=a.fill 2 5 Z Z Z;obtain⟨H,a⟩:=c.Ar 0 2 3 4 (lq g.toNat i E.toNat x z) Z (jH m);exact a.Ax

theorem kK{w:ä}{i:Nat}{X:Option ô}{n:Nat}{p:List Nat}(o:OwnW w U 31 z G)(N:G.Nodup)(K:x.Ok)(B:ah w X x.Bytes n p)(A:∀b∈p,b ∉ G)(r:0<=g/\g.toNat<z.A2.length)(s:i<(z.A2.getD g.toNat []).length)(u:0<=E/\E.toNat<((z.A2.getD g.toNat []).getD i à).Ai.length)(t:x.Bytes.length<=1000000)(D:z.Aa<=2000000000):Ret ê 188 #[au U,ag g,ag i,ag E,x.val X n] w λv W=>(v = .bool (!cN z)/\MutW w W G U 31 (lY g.toNat i E.toNat x z)):=by
 refine bv func188 Z (λQ q C=>?_);have H:=(Sep.beginW o N).seeF (B) A;refine aT (ci aB Z H (λH a c d e=>ci aB Z e (λH d e f h=>ci aB Z h (λH d e f h=>ci aB Z h (λH d e f h=>ci aB Z h (λH d e f j=>aX 229156 j ?_))))));refine sV Z (qo Z) (sC func207 Z (oI (j.B1 0 Z) (j.Aj (i:=0) Z) (y:=lq g.toNat i E.toNat x z) func232 Z KY (λa k H a d c=>ox H a (j.boxFar 0 5 Z d c).1 (j.boxFar 0 5 Z d c).2 (j.boxFar 0 1 Z d c).1 (j.boxFar 0 1 Z d c).2 (j.boxFar 0 2 Z d c).1 (j.boxFar 0 2 Z d c).2 (j.boxFar 0 3 Z d c).1 (j.boxFar 0 3 Z d c).2 (j.boxFar 0 4 Z d c).1 (j.boxFar 0 4 Z d c).2 (j.seeFar 0 0 Z Z d c).1 (j.seeFar 0 0 Z Z d c).2 K r s u t) ξ) (λH a l=>?_));obtain⟨rfl,m⟩:=l;obtain⟨k,H⟩:=j.Bb 0 Z m;exact sA Z (aH (rT q Z ⟨Z,H.Ax⟩))

theorem kv{w:ä}: am 249 [.int .u8 a.toNat,.int .u8 b.toNat] w λv W=>v = .int .u8 (eN a b).toNat:=by
 refine bv func249 Z (λQ f N=>?_);have H:=Sep.start (w:=w) (F:=[]) σ;refine aG 116736578 ?_;refine cp (j:=UInt8 × UInt8 × UInt8) (λ(x,y,o)=>[(0,.int .u8 x.toNat),(1,.int .u8 y.toNat),(5,.int .u8 o.toNat)]) (λ(x,y,o) W=>Sep No w [] [] W/\oO 8 x y o=eN a b) (λ(x,y,o)=>y.toNat) (a,b,0) bf ⟨H,Z⟩ (λ(x,y,o) H c=>?_);obtain⟨c,h⟩:=c;refine br 166973733 (λH=>?_) (λH=>?_)
 .refine aG 307261278 ?_;refine sV Z (Co (b:=1) Z Z) (br 40765 (λH=>?_) (λH=>?_))
  .refine ce (sR 2 Z (sV Z (qC Z Z) (sA Z (aH (aT (sM Z (sV Z (Co (b:=128) Z Z) (br 40765 (λd=>?_) (λd=>?_)))))))))
   .refine ce (sM Z (sV Z (Ca (k:=1) ω Z Z) (sV Z (qC (b:=29) Z Z) (sA Z (aH (ce (sM Z (sV Z (yf (k:=1) Z Z) (sA Z (aH (⟨(_,_,_),bf,⟨c,?_⟩,?_⟩)))))))))))
    .rw[<- h,tG x y o,xt,ac (λe=>d ((oo (b:=0)).2 e)),ae ((oo (b:=1)).1 H)]
    dsimp only;rw[jg]
    omega
   refine ce (sM Z (sV Z (Ca (k:=1) ω Z Z) (sA Z (aH (ce (sM Z (sV Z (yf (k:=1) Z Z) (sA Z (aH (⟨(_,_,_),bf,⟨c,?_⟩,?_⟩))))))))))
   .rw[<- h,tG x y o,xt,ae (qv ω),ae ((oo (b:=1)).1 H)]
   dsimp only;rw[jg]
   omega
  refine bi (aT (sM Z (sV Z (Co (b:=128) Z Z) (br 40765 (λd=>?_) (λd=>?_)))))
  .refine ce (sM Z (sV Z (Ca (k:=1) ω Z Z) (sV Z (qC (b:=29) Z Z) (sA Z (aH (ce (sM Z (sV Z (yf (k:=1) Z Z) (sA Z (aH (⟨(_,_,_),bf,⟨c,?_⟩,?_⟩)))))))))))
   .rw[<- h,tG x y o,xt,ac (λe=>d ((oo (b:=0)).2 e)),ac (λe=>H ((oo (b:=1)).2 e))]
   dsimp only;rw[jg]
   omega
  refine ce (sM Z (sV Z (Ca (k:=1) ω Z Z) (sA Z (aH (ce (sM Z (sV Z (yf (k:=1) Z Z) (sA Z (aH (⟨(_,_,_),bf,⟨c,?_⟩,?_⟩))))))))))
  .rw[<- h,tG x y o,xt,ae (qv ω),ac (λe=>H ((oo (b:=1)).2 e))]
  dsimp only;rw[jg]
  omega
 refine bu (aT (sR 2 Z (rN f Z ?_)));obtain rfl:y=0:=qv ω;exact⟨c.ext,by rw[<- h,Ey]⟩

theorem pj{w:ä}: am 199 [.int .u8 a.toNat,.int .u8 b.toNat] w λv W=>v = .int .u8 (eN a b).toNat:=by
 have A:=a.toNat_lt;refine bv func199 Z (λQ f N=>?_);have H:=Sep.start (w:=w) (F:=[]) σ;refine aG 1196610 ?_;refine sV Z (jZ tu5 tu3 Z iO) (aG 7291476 ?_);refine cp (j:=Nat × UInt8 × UInt8) (λ(k,x,o)=>[(1,.int .u8 b.toNat),(5,ag o.toNat),(6,ag x.toNat),(7,ag k)]) (λ(k,x,o) W=>Sep No w [] [] W/\k<=8/\oO (8-k) x (sd b k) o=eN a b) (λ(k,x,o)=>8-k) (0,a,0) bf ⟨H,ω,by rw[MX];rfl⟩ (λ(k,x,o) H c=>?_);obtain⟨c,g,h⟩:=c;refine br 166973733 (λH=>?_) (λH=>?_)
 .refine aG 4602228574 ?_;refine sV Z (jZ tu3 wm Z (IM ω)) (sV Z (yf (k:=k) Z Z) (sV Z (Co (b:=1) Z Z) (br 40765 (λH=>?_) (λH=>?_))))
  .refine ce (sR 2 Z (sV Z (Rx o x Z Z) ?_));have X:=x.toNat_lt;refine br 0x9f3d1242df124 (λd=>?_) (λd=>?_)
   .refine ce (sM Z (sV Z (GO Z Z) (aG 311652 ?_)));refine⟨(k+1,xt x,_),⟨Z,Z,eqI (QG x ω),Z,trivial⟩,⟨c,ω,?_⟩,θ⟩;rw[vx (k:=k) ω x b o,ae (P1 H)] at h;exact h
   refine aG 311662 ?_;refine⟨(k+1,xt x,_),⟨Z,Z,eqI (ID x ω),Z,trivial⟩,⟨c,ω,?_⟩,θ⟩;rw[vx (k:=k) ω x b o,ae (P1 H)] at h;exact h
  have X:=x.toNat_lt;refine br 0x9f3d1242df12e (λd=>?_) (λd=>?_)
  .refine ce (sM Z (sV Z (GO Z Z) (aG 311652 ?_)));refine⟨(k+1,xt x,_),⟨Z,Z,eqI (QG x ω),Z,trivial⟩,⟨c,ω,?_⟩,θ⟩;rw[vx (k:=k) ω x b o,ac (λe=>H ((oo (b:=1)).2 e))] at h;exact h
  refine aG 311662 ?_;refine⟨(k+1,xt x,_),⟨Z,Z,eqI (ID x ω),Z,trivial⟩,⟨c,ω,?_⟩,θ⟩;rw[vx (k:=k) ω x b o,ac (λe=>H ((oo (b:=1)).2 e))] at h;exact h
 refine bu (aT (sM Z (sV Z (mr tu3 tu5 Z) (rA f Z Z ?_))));obtain rfl:k=8:=by omega
 exact⟨c.ext,by rw[QE,<- h];rfl⟩

theorem Ek{w:ä}: am 238 [.int .u8 a.toNat,ag 254] w λv W=>v = .int .u8 (pm a).toNat:=by
 refine bv func238 Z (λQ l N=>?_);have H:=Sep.start (w:=w) (F:=[]) σ;refine br 42745275714 (λb=>?_) (λb=>?_)
 .exact absurd b dv
 refine aG 1905246 ?_;refine cU 2 (j:=2) (E:=ã) (t:=12) Z (λb c=>ld 9763087 l b c) (λb c=>?_);have d:=H.to c;refine br 11481935 (λH=>?_) (λH=>?_)
 .refine ce (sM Z (sV Z (uh Z Z ω) (aG 1905236 ?_)));refine cU 2 (j:=2) (E:=ã) (t:=20) Z (λH b=>ld 9763087 l H b) (λH b=>?_);have e:=d.to b;refine br 11481935 (λf=>?_) (λf=>?_)
  .refine aT (rA l Z Z ?_);obtain rfl:a=0:=qv (by simp at f;omega);exact⟨e.ext,by rw[IA];rfl⟩
  refine aG 7296046 ?_;refine cp (j:=Nat × UInt8) (λ(m,o)=>[(0,.int .u8 a.toNat),(1,ag m),(5,.int .u8 o.toNat)]) (λ(m,o) W=>Sep No w [] [] W/\m<=254/\eN o (pw a m)=pm a) (λ(m,o)=>m) (254,1) ⟨Z,eqI dv,Z,trivial⟩ ⟨e,ω,pf _⟩ (λ(m,o) H g=>?_);obtain⟨g,n,hI⟩:=g;refine br 166973733 (λH=>?_) (λH=>?_)
  .refine aG 291532638 ?_;refine sE func199 Z pj g (λH b h=>?_);obtain⟨m,rfl⟩:∃j,m=j+1:=⟨m-1,ω⟩;refine aG 70054244 ?_;refine⟨(m,_),⟨Z,eqI ω,Z,trivial⟩,⟨h,ω,by rw[<- hI,GA]⟩,θ⟩
  refine bu (aT (sR 2 Z (rN l Z ?_)));obtain rfl:m=0:=by omega
  exact⟨g.ext,GT⟩
 refine aG 1905246 ?_;refine cU 2 (j:=2) (E:=ã) (t:=20) Z (λH b=>ld 9763087 l H b) (λH b=>?_);have i:=d.to b;refine br 11481935 (λk=>?_) (λk=>?_)
 .refine aT (rA l Z Z ?_);obtain rfl:a=0:=qv (by simp at k;omega);exact⟨i.ext,by rw[IA];rfl⟩
 refine aG 7296046 ?_;refine cp (j:=Nat × UInt8) (λ(m,o)=>[(0,.int .u8 a.toNat),(1,ag m),(5,.int .u8 o.toNat)]) (λ(m,o) W=>Sep No w [] [] W/\m<=254/\eN o (pw a m)=pm a) (λ(m,o)=>m) (254,1) ⟨Z,eqI dv,Z,trivial⟩ ⟨i,ω,pf _⟩ (λ(m,o) H c=>?_);obtain⟨c,n,hI⟩:=c;refine br 166973733 (λH=>?_) (λH=>?_)
 .refine aG 291532638 ?_;refine sE func199 Z pj c (λH b d=>?_);obtain⟨m,rfl⟩:∃j,m=j+1:=⟨m-1,ω⟩;refine aG 70054244 ?_;refine⟨(m,_),⟨Z,eqI ω,Z,trivial⟩,⟨d,ω,by rw[<- hI,GA]⟩,θ⟩
 refine bu (aT (sR 2 Z (rN l Z ?_)));obtain rfl:m=0:=by omega
 exact⟨c.ext,GT⟩

theorem DW{w:ä}: am 259 [.int .u8 a.toNat,ag 254] w λv W=>v = .int .u8 (pm a).toNat:=by
 refine bv func259 Z (λQ h N=>?_);have H:=Sep.start (w:=w) (F:=[]) σ;refine br 42745275714 (λb=>?_) (λb=>?_)
 .exact absurd b dv
 refine aG 7296046 ?_;refine cp (j:=Nat × UInt8 × UInt8) (λ(m,x,o)=>[(0,.int .u8 x.toNat),(1,ag m),(5,.int .u8 o.toNat)]) (λ(m,x,o) W=>Sep No w [] [] W/\m<=254/\eN o (pw x m)=pm a) (λ(m,x,o)=>m) (254,a,1) bf ⟨H,ω,pf _⟩ (λ(m,x,o) H c=>?_);obtain⟨c,e,hI⟩:=c;refine br 166973733 (λH=>?_) (λH=>?_)
 .refine aG 307261278 ?_;refine sV Z (Oh (m:=m) ω Z Z) (br 40765 (λH=>?_) (λH=>?_))
  .refine ce (sR 2 Z (sE func249 Z kv c (λH b d=>aG 4452 ?_)));refine sE func249 Z kv d (λH b d=>sA Z (aH (ce (sM Z (sV Z (Ii (m:=m) Z Z) (sA Z (aH (⟨(m / 2,_,_),bf,⟨d,ω,by rw[<- hI];exact(TP o x (m:=m) ω).symm⟩,θ⟩))))))))
  refine bi (ce (sR 2 Z (sE func249 Z kv c (λH b d=>sA Z (aH (ce (sM Z (sV Z (Ii (m:=m) Z Z) (sA Z (aH (⟨(m / 2,_,_),bf,⟨d,ω,by rw[<- hI];exact(SI o x (m:=m) ω).symm⟩,θ⟩)))))))))))
 refine bu (aT (sR 2 Z (rN h Z ?_)));obtain rfl:m=0:=by omega
 exact⟨c.ext,GT⟩

theorem qO{w:ä}: am 253 [.int .u8 a.toNat,.int .u8 b.toNat] w λv W=>v = .int .u8 (eN a (pm b)).toNat:=by
 refine bv func253 Z (λQ h N=>?_);have H:=Sep.start (w:=w) (F:=[]) σ;refine aG 70210 ?_;exact sE func259 Z DW H (λH c d=>sE func249 Z kv d (λH c d=>sA Z (aH (rT h Z ⟨d.ext,Z⟩))))

theorem tR{w:ä}: am 198 [.int .u8 a.toNat] w λv W=>v = .int .u8 (pm a).toNat:=by
 refine bv func198 Z (λQ h N=>?_);have H:=Sep.start (w:=w) (F:=[]) σ;refine aG 4674 ?_;exact sE func238 Z Ek H (λH b c=>sA Z (aH (rT h Z ⟨c.ext,Z⟩)))

theorem yQ{w:ä}{j i:Int}(d:0<=j/\j<=1000):am 250 [ag j,ag i] w λv W=>v = .int .u8 (cauchy j i).toNat:=by
 refine bv func250 Z (λQ h N=>?_);have H:=Sep.start (w:=w) (F:=[]) σ;refine aG 791106 ?_;refine sV Z (mr tu2 tu5 Z) (sM Z (sV Z (mr tu2 tu5 Z) (sV Z (qC Z Z) (sE func253 Z (qO (a:=1)) H (λH b c=>rA h Z Z ?_)))));exact⟨c.ext,by rw[pf,cauchy]⟩

theorem pO{w:ä}{j i:Int}(c:0<=j/\j<=1000):am 151 [ag j,ag i] w λv W=>v = .int .u8 (cauchy j i).toNat:=by
 refine bv func151 Z (λQ h N=>?_);have H:=Sep.start (w:=w) (F:=[]) σ;refine aG 791106 ?_;refine sV Z (mr tu2 tu5 Z) (sM Z (sV Z (mr tu2 tu5 Z) (sV Z (qC Z Z) (sE func198 Z tR H (λH a b=>rA h Z Z ?_)))));exact⟨b.ext,by rw[cauchy]⟩

theorem iW{w:ä}{x:List UInt8}(S:aj w N x O)(n:x.length<=1048576):am 152 [ak N x O,.int .u8 c.toNat] w λv W=>Res w W [v] (cK x c):=by
 obtain⟨X,j⟩:=S;refine bv func152 Z (λQ i l=>?_);have H:=Sep.start (aC j ba);refine aT (sA Z (aH (aT (dG (f:=UInt8) aB Z cJ b6 H (λH a b d e=>aG 7291476 ?_)))));refine cp (j:=Nat × è × List Nat) (λ(k,V,f)=>[(0,ak N x O),(1,.int .u8 c.toNat),(5,V),(6,ag k)]) (λ(k,V,f) W=>Sep No w [A4 [V] (cK (x.take k) c) f] [Ab â [ak N x O] x X] W/\k<=x.length) (λ(k,V,f)=>x.length-k) (0,_,_) bf ⟨e,ω⟩ (λ(k,V,f) H g=>?_);obtain⟨g,m⟩:=g;refine br 0x9f3d2ff1125 (λH=>?_) (λH=>?_)
 .have s:=ik (x.take k) c;rw[aY] at s;obtain⟨H,a,b,d⟩:=dN (g.Ab 0 Z) k ω;refine aG 0x138f3ef111606f5e ?_;refine sE func199 Z pj g (λH a b=>dx aB Z cJ b6 Z b (λH a b d e=>fC aB Z cJ b6 Z e 0 1 Z iB db ω (λH a b d=>aG 311652 ?_)));refine⟨(k+1,_,_),bf,⟨Bu (D:=x) (c:=c) (k:=k) ω ▸ (d.dtake 1),ω⟩,θ⟩
 refine bu (aT (sR 2 Z (rN i Z ?_)));obtain rfl:k=x.length:=by omega
 exact⟨g.ext,by
  have h:=g.out 0 Z
  rwa[ö] at h⟩

theorem jN{w:ä}{x:List UInt8}(p:aj w N x O)(y:aj w C s D)(u:x.length<=1048576/\x.length<=s.length):am 153 [ak N x O,ak C s D] w λv W=>Res w W [v] (eH x s):=by
 obtain⟨X,o⟩:=p;have L:=sL y;obtain⟨Y,q⟩:=y;refine bv func153 Z (λQ m r=>?_);have H:=Sep.start (aC o (aC q ba));refine aT (sA Z (aH (aT (dG (f:=UInt8) aB Z cJ b6 H (λH a b c d=>aG 7291476 ?_)))));refine cp (j:=Nat × è × List Nat) (λ(k,V,f)=>[(0,ak N x O),(1,ak C s D),(5,V),(6,ag k)]) (λ(k,V,f) W=>Sep No w [A4 [V] (eH (x.take k) (s.take k)) f] [Ab â [ak N x O] x X,Ab â [ak C s D] s Y] W/\k<=x.length) (λ(k,V,f)=>x.length-k) (0,_,_) bf ⟨d,ω⟩ (λ(k,V,f) H g=>?_);obtain⟨g,t⟩:=g;refine br 0x9f3d2ff1125 (λH=>?_) (λH=>?_)
 .refine bi (aW (bP ?_));have n:=ip (D:=x.take k) (T:=s.take k) (by rw[aY,aY];omega);rw[aY] at n;obtain⟨H,a,b,c,d⟩:=r8 (g.Ab 0 Z) k ω;obtain⟨H,a,i,j,l⟩:=r8 (g.Ab 1 Z) k ω;refine eE (S:=Ext (· ∈ f) _) (oQ [1,3,5,7,9,11,13,15,17,19,20,22,24]) κ κ κ Z τ6 (λH=>?_);have a:=g.drawn H;refine dR 3 Z (dV Z (λz e=>bR cJ ts5 Z b k ω ω) (dV Z (λz e=>bp tu5 Z (e.cellM (a.off 0 Z 0 Z d) c)) (aG 405435 ?_)));refine dV Z (λz e=>bp tu5 Z (e.cellM (a.off 1 Z 0 Z l) j)) (dV Z (λz e=>qC Z Z) (dB Z aB Z cJ b6 Z a τ0 (λH a b c d=>pY Z aB Z cJ b6 Z d 0 1 Z Z iB db ω τ9 (λH a b c=>aG 326786938591 ?_))));refine⟨(k+1,_,_),bf,⟨NF (D:=x) (T:=s) (k:=k) ω ω ▸ (c.dtake 1),ω⟩,θ⟩
 refine bu (aT (sR 2 Z (rN m Z ?_)));obtain rfl:k=x.length:=by omega
 exact⟨g.ext,by
  have h:=g.out 0 Z
  rwa[ö,NX ω] at h⟩

theorem rn{w:ä}{x:List UInt8}{g:List Nat}(o:own ã w [.slice N n O] x G)(z:G.Nodup)(Y:ah w C s D g)(y:∀b∈g,b ∉ G)(q:x.length=s.length):Ret ê 225 #[.slice N n O,ak C s D,.int .u8 c.toNat] w λv W=>(Mut w W G [.slice N n O] (eH x (cK s c))):=by
 obtain rfl:=gA o;have L:=oL o;refine bv func225 Z (λQ A t=>?_);have H:=(Sep.begin o z).look (r:=Ab â [ak C s D] s g) Y (λb u=>by simpa[blocks,A4] using y b u);refine aG 29847912210 ?_;refine cp (j:=Nat × List Nat) (λ(k,f)=>[(0,ak N x O),(2,.int .u8 c.toNat),(8,ak C s D),(9,ag s.length),(10,ag k)]) (λ(k,f) W=>Sep (· ∈ G) w [A4 [ak N x O] (BG x s c k) f] [Ab â [ak C s D] s g] W/\k<=x.length) (λ(k,f)=>x.length-k) (0,G) bf ⟨(by rw[MA];exact H),ω⟩ (λ(k,f) H a=>?_);obtain⟨a,B⟩:=a;refine br 10441682 (λH=>?_) (λH=>?_)
 .obtain⟨H,d,e,i⟩:=dN (a.Ab 0 Z) k ω;have F:=DO (D:=x) (T:=s) (c:=c) (k:=k) q;have P:=PQ (D:=x) (T:=s) (c:=c) (k:=k) q ω;refine aG 0x4738f3ef1206f5e ?_;obtain⟨H,d,j,e⟩:=dN (a.A4 0 Z) k (by rw[DO q];omega);refine ep a (oQ [1,3,5,7,9,11,12,15,17,18]) (λH l=>aG 804718522299 ?_);refine dC func249 Z kv (λH d m=>?_);obtain⟨p,rfl⟩:=m;have H:=l.to p;refine dV Z (λI E=>qC Z Z) (aG 1583 ?_);refine Ko Z aB ts5 Z H 0 Z k (by rw[DO q];omega) Z j Z iB τ3 (λH d e i=>aG 52191311 ?_)
  refine⟨(k+1,_),bf,⟨by
   have h:=i;rw[P,MZ q ω] at h
   exact h,ω⟩,θ⟩
 refine bu (t _ _ (pR Z ?_));obtain rfl:k=x.length:=by omega
 have h:=a.done;rw[QV rfl q.symm] at h;exact h

theorem tN{w:ä}(X:aj w N R O)(y:aj w C s D)(t:0<R.length)(K:R.length<=s.length)(x:∀i,i<R.length->(R.getD i []).length=n)(I:n<=1048576):am 196 [ak N R O,ak C s D] w λv W=>Res w W [v] (mixTo R s n R.length):=by
 have T:=sL X;obtain⟨F,A⟩:=X;have U:=sL y;obtain⟨Y,B⟩:=y;obtain rfl:=x 0 t;refine bv func196 Z (λQ u E=>?_);have H:=Sep.start (aC A (aC B ba));obtain⟨a,b,c,d,e,g,h,j,l⟩:=fA (H.Ab 0 Z) 0 ω;have a:=H.look1 0 Z j l;refine aG 843570030252610 ?_;refine mj aB Z cJ b6 ol Z ω db a (λH a b c d=>aG 7291476 ?_);refine cp (j:=Nat × è × List Nat) (λ(k,V,f)=>[(0,ak N R O),(1,ak C s D),(5,V),(6,ag k)]) (λ(k,V,f) W=>Sep No w [A4 [V] (mixTo R s (R.getD 0 []).length k) f] [Ab â [ak N R O] R F,Ab â [ak C s D] s Y] W/\k<=R.length) (λ(k,V,f)=>R.length-k) (0,_,_) bf ⟨(d.Aq 2),ω⟩ (λ(k,V,f) H m=>?_);obtain⟨m,G⟩:=m;refine br 0x9f3d2ff1125 (λH=>?_) (λH=>?_)
 .have M:=lS (c:=s) x (k:=k) ω;have S:=ik (R.getD k []) (s.getD k 0);have J:=x k ω;obtain⟨L,P,z⟩:=aL (m.A4 0 Z);cases z;obtain⟨H,a,b,c,d,e,g,h,j⟩:=fA (m.Ab 0 Z) k ω;have H:=m.look1 0 Z h j;obtain⟨a,b,c,d⟩:=dN (H.Ab 1 Z) k ω;refine bi (aW (bP (ep H (oQ [1,3,5,7,9,11,13,15,17,18,20,22]) (λH a=>dR 3 Z (dV Z (λzw x=>bR c8 cH Z e k ω ω) (aG 6388277032399 ?_))))));refine dC func152 Z (iW (a.Ae 2 Z) ω) (λH b c=>?_);obtain⟨H,c⟩:=c;obtain⟨b,o⟩:=a.res H c;obtain⟨H,a,p⟩:=aL (o.A4 1 Z);cases p;refine dC func153 Z (jN (o.As 0 Z) (o.As 1 Z) ω) (λH a b=>?_);obtain⟨H,b⟩:=b;obtain⟨a,q⟩:=o.res H b;obtain⟨H,a,r⟩:=aL (q.A4 2 Z);cases r;refine aG 326786938591 ?_;refine⟨(k+1,_,_),bf,⟨q.Aq 2 |>.sub (.cons _ (.cons _ (.cons_cons _ Ê))),ω⟩,θ⟩
 refine bu (aT (sR 2 Z (rN u Z ?_)));obtain rfl:k=R.length:=by omega
 exact⟨m.ext,m.out 0 Z⟩

theorem tU{w:ä}(X:aj w N R O)(y:aj w C s D)(p:0<R.length)(G:R.length<=s.length)(x:∀i,i<R.length->(R.getD i []).length=n)(B:n<=1048576):am 181 [ak N R O,ak C s D] w λv W=>Res w W [v] (mixTo R s n R.length):=by
 have L:=sL X;obtain⟨F,t⟩:=X;have I:=sL y;obtain⟨Y,u⟩:=y;obtain rfl:=x 0 p;refine bv func181 Z (λQ q z=>?_);have H:=Sep.start (aC t (aC u ba));obtain⟨a,c,d,e,g,h,j,l,m⟩:=fA (H.Ab 0 Z) 0 ω;have a:=H.look1 0 Z l m;refine aG 843570030252610 ?_;refine mj aB Z cJ b6 ol Z ω db a (λH a c d e=>aG 7641065525844 ?_);refine cp (j:=Nat × List Nat) (λ(k,f)=>[(1,ak C s D),(5,.slice (ax H) (R.getD 0 []).length (R.getD 0 []).length),(13,ak N R O),(14,ag R.length),(15,ag k)]) (λ(k,f) W=>Sep No w [A4 [.slice (ax H) (R.getD 0 []).length (R.getD 0 []).length] (mixTo R s (R.getD 0 []).length k) f] [Ab â [ak N R O] R F,Ab â [ak C s D] s Y] W/\k<=R.length) (λ(k,f)=>R.length-k) (0,_) bf ⟨(e.Aq 2),ω⟩ (λ(k,f) H o=>?_);obtain⟨o,A⟩:=o;refine br 10441682 (λH=>?_) (λH=>?_)
 .obtain⟨H,a,c,d,e,g,h,j,l⟩:=fA (o.Ab 0 Z) k ω;have H:=o.look1 0 Z j l;have M:=lS (c:=s) x (k:=k) ω;have E:=x k ω;refine aG 0x4738f3ef1206f5e ?_;obtain⟨a,c,d,e⟩:=dN (H.Ab 1 Z) k ω;refine aG 3913771192598 ?_;refine sC func225 Z (rn (H.A4 0 Z) (H.Aj (i:=0) Z) (aJ (H.Ab 2 Z)) (λb r=>H.off 2 Z 0 Z r) ξ) (λa c d=>?_);obtain⟨a,c⟩:=H.mut 0 Z d;refine aG 203875 ?_;refine⟨(k+1,_),bf,⟨(c.Aq 2),ω⟩,θ⟩
 refine bu (aT (sR 2 Z (rN q Z ?_)));obtain rfl:k=R.length:=by omega
 exact⟨o.ext,o.out 0 Z⟩

theorem jQ{w:ä}{p B:Int}(j:n<=100/\0<=B/\B<=100/\0<=p/\p<=500):am 197 [ag n,ag p,ag B] w λv W=>Res w W [v] (kY n p B):=by
 refine bv func197 Z (λQ g N=>?_);have H:=Sep.start (w:=w) (F:=[]) σ;refine aG 4674 ?_;refine mj aB Z cJ b6 ol Z ω db H (λH a b c d=>aG 7291476 ?_);refine cp (j:=Nat × List Nat) (λ(k,f)=>[(0,ag n),(1,ag p),(2,ag B),(7,.slice (ax H) n n),(8,ag k)]) (λ(k,f) W=>Sep No w [A4 [.slice (ax H) n n] (mP (genAt n p B) n k) f] [] W/\k<=n) (λ(k,f)=>n-k) (0,[H]) bf ⟨(by rw[wM];exact d),ω⟩ (λ(k,f) H e=>?_);obtain⟨e,i⟩:=e;refine br 2671579429 (λH=>?_) (λH=>?_)
 .refine br 0x9f3d11206f5e (λH=>?_) (λH=>?_)
  .obtain⟨H,a,b,c⟩:=dN (e.A4 0 Z) k qH;refine aG 1292546150678 ?_;refine sE func151 Z (pO ω) e (λH a c=>aG 1007 ?_);refine w4 aB ts5 Z c 0 Z k qH Z b Z iB (λH a b c=>aG 311651 ?_)
   refine⟨(k+1,_),bf,⟨by
    have h:=c;rw[sa ω (by rw[genAt,ae ω])] at h
    exact h,ω⟩,θ⟩
  refine br 166973714 (λH=>?_) (λH=>?_)
  .obtain⟨H,a,b,c⟩:=dN (e.A4 0 Z) k qH;refine aG 4124950 ?_;refine w4 aB ts5 Z e 0 Z k qH Z b Z (iB (x:=1)) (λH a b c=>aG 311651 ?_)
   refine⟨(k+1,_),bf,⟨by
    have h:=c;rw[sa ω (by rw[genAt,ac ω,ae ω])] at h
    exact h,ω⟩,θ⟩
  refine aG 311662 ?_
  refine⟨(k+1,_),bf,⟨by
   have h:=e;rw[CW ω (by rw[genAt,ac ω,ac ω])] at h
   exact h,ω⟩,θ⟩
 refine bu (aT (sR 2 Z (rN g Z ?_)));obtain rfl:k=n:=by omega
 exact⟨e.ext,by
  have h:=e.out 0 Z
  rwa[FF] at h⟩

theorem iN{w:ä}{s p:Int}(l:n<=100/\0<=p/\p<=500):am 226 [.agg #[ag n,ag s],ag p] w λv W=>Res w W [v] (kY n p 0):=by
 refine bv func226 Z (λQ i N=>?_);have H:=Sep.start (w:=w) (F:=[]) σ;refine aT (ci aB Z H (λH a b c d=>aX 3668260 d ?_));refine mj aB Z cJ b6 ol Z ω db d (λa b c d e=>aX 7641073947220 e ?_);refine cp (j:=Nat × List Nat) (λ(k,f)=>[(1,ag p),(2,au H),(5,.slice (ax a) n n),(11,ag n),(12,ag k)]) (λ(k,f) W=>Sep No w [box H (.cells #[ag n,ag s] 139),A4 [.slice (ax a) n n] (mP (genAt n p 0) n k) f] [] W/\k<=n) (λ(k,f)=>n-k) (0,[a]) bf ⟨(by rw[wM];exact e),ω⟩ (λ(k,f) H g=>?_);obtain⟨g,j⟩:=g;refine br 10441682 (λH=>?_) (λH=>?_)
 .refine ge 0x9f4d37f91206f41206f5e g (λH=>?_) (λH=>?_)
  .obtain⟨H,a,b,c⟩:=dN (g.A4 1 Z) k qH;refine aX 20681206599958 g ?_;refine sE func250 Z (yQ ω) g (λH a c=>aG 1007 ?_);refine w4 aB ts5 Z c 1 Z k qH Z b Z iB (λH a b c=>aG 203875 ?_)
   refine⟨(k+1,_),bf,⟨by
    have h:=c;rw[sa ω (by rw[genAt,ae ω];congr 1;omega)] at h
    exact h,ω⟩,θ⟩
  refine br 167039250 (λH=>?_) (λH=>?_)
  .obtain⟨H,a,b,c⟩:=dN (g.A4 1 Z) k qH;refine aG 4124950 ?_;refine w4 aB ts5 Z g 1 Z k qH Z b Z (iB (x:=1)) (λH a b c=>aG 203875 ?_)
   refine⟨(k+1,_),bf,⟨by
    have h:=c;rw[sa ω (by rw[genAt,ac ω,ae ω])] at h
    exact h,ω⟩,θ⟩
  refine aG 203886 ?_
  refine⟨(k+1,_),bf,⟨by
   have h:=g;rw[CW ω (by rw[genAt,ac ω,ac ω])] at h
   exact h,ω⟩,θ⟩
 refine bu (aT (sR 2 Z (rN i Z ?_)));obtain rfl:k=n:=by omega
 exact⟨g.ext,by
  have h:=g.out 1 Z
  rwa[FF] at h⟩

theorem q7{w:ä}{n s:Int}(e:0<=n/\n<=1000/\0<=s/\s<=1000):am 229 [.agg #[ag n,ag s]] w λv W=>v = ag (n+s):=by
 refine bv func229 Z (λQ h N=>?_);have H:=Sep.start (w:=w) (F:=[]) σ;refine aT (ci aB Z H (λH a b c d=>aX 83803288107300 d ?_));exact rT h Z ⟨d.ext,Z⟩

theorem F4{w:ä}{l q:Nat}(E:1<=m/\m<=1000000)(o:n=q*m/\n<=O/\n<=4611686018427387904)(z:∀i W k,J i W->J i { W with drawn:=k })
  (t:∀i W,J i W->W.heap[I]? = á (.cells [.slice N n O].toArray 22)/\W.heap[T]? = á (.cells [ag m].toArray 3))
  (Y:∀i W,J i W->i<q->YieldAt (inF ç) 2 ê l #[.slice (slA N (i*m) (i*m+m) 1) (i*m+m-i*m) (i*m+m-i*m)] W λe u=>e = .returned (.bool ã)/\J (i+1) u) (v:J 0 w) :
  Ret ê 184 #[.func (.yield l) #[] #[],au I,au T] w λ_ s=>J q s:=by
 refine bv func184 Z (λQ D A=>aT (sA Z (aH (bP (cp (j:=Nat) (λi=>[(0,.func (.yield l) #[] #[]),(1,au I),(2,au T),(4,ag ((i*m:Nat):Int))]) (λi s=>i<=q/\J i s) (λi=>q-i) 0 ⟨Z,Z,Z,eqI σ,trivial⟩ ⟨ý _,v⟩ (λi H y=>?_))))));obtain⟨C,r⟩:=y;obtain⟨a,b⟩:=t i H r;have c:i*m<=n:=by rw[o.1];exact Å _ C
 have d:¬ i<q->i*m=n:=λh=>by rw[o.1];congr 1;omega
 refine aW (aT (sM Z (sV Z (bp cJ Z (bD a Z)) (br 166974207 (λf=>?_) (λf=>?_)))))
 .have p:i<q:=Decidable.byContradiction λh=>by have:=d h;omega
  have d:=uI o.1 p;refine bi (aW (bP (aW (eE (S:=λx=>x.heap=H.heap) (oQ [1,3,5,7,9,11,12]) κ κ κ Z (λ_=>Z) (λK=>eS Z aB Z (λx j=>bp tu3 Z (bD (by rw[j];exact b) Z)) (eS Z aB Z (λx j=>bp cJ Z (bD (by rw[j];exact a) Z)) (eS Z aB Z (λx j=>bL Z) (eS Z aB Z (λx j=>Cp cJ ts5 Z Z (i*m) Z c) (eS Z aB Z (λx j=>od cJ Z) (eS Z aB Z (λx j=>Rf Z Z) (dD Z aB Z (cr Z) ((dO (QC (M:=[(0,.func (.yield l) #[] #[]),(1,au I),(2,au T),(4,ag ((i*m:Nat):Int)),(5,ag m)]) ⟨Z,Z,Z,Z,eqI (ac ω),trivial⟩ (aW (U7 (th (iz aB Z (bL Z) (iz aB Z (bp cJ Z (bD a Z)) (iz aB Z (bL Z) (iz aB Z (bL Z) (iz aB Z (bL Z) (iz aB Z (jr Z Z iO) (iz aB Z (bL Z) (iz aB Z (bL Z) (iz aB Z (jr Z Z iO) (iz aB Z (K9 cJ ts5 Z Z Z Z (i*m) (i*m+m) (i*m+m) Z ω ω ω (aN _) ω) (Mq Z Z Z (Y i _ (z _ _ _ r) p) (λe H B=>?_)))))))))))))))))))))))))))));obtain⟨rfl,g⟩:=B;refine⟨_,Z,?_⟩;refine iz aB Z (cj Z) (yG (gW Z (bi (ce (sM Z (sV Z (bp tu3 Z (bD (t _ _ g).2 Z)) (aG 76 ?_)))))));refine⟨i+1,⟨Z,Z,Z,eqI (by rw[Ō];omega),trivial⟩,⟨p,g⟩,θ⟩
 have p:¬ i<q:=λh=>by have:=uI o.1 h;omega
 obtain rfl:i=q:=by omega
 exact bu (A _ _ (pR Z r))

theorem CQ{w:ä}{q:Nat}(hm:1<=m/\m<=1000000)(S:n=q*m/\n<=O/\n<=1000000000)
  (X:w.heap[I]? = á (.cells [.slice N n O].toArray 22)) (Y:w.heap[T]? = á (.cells [ag m].toArray 3)) :
  am 252 [.slice ç 0 0,.func (.func 184) #[] #[au I,au T]] w λv r=>Res w r [v] (ny N m q):=by
 refine Fp (H:=[.slice ç 0 0,.func (.func 184) #[] #[au I,au T]]) func252 Z Z Z (λa ha=>?_);have qn:q<=n:=by rw[S.1];exact Nat.le_mul_of_pos_right _ ω
 have c:Sep No w [] [box I (.cells [.slice N n O].toArray 22),box T (.cells [ag m].toArray 3)] w:=Sep.start (by intro b_ Q;simp at Q;rcases Q with rfl|rfl;exact X;exact Y);refine KX (L:=wu 0 _) (B:=λE r=>∃b,sub E [(1,.func (.func 184) #[] #[au I,au T]),(2,au b)]/\Sep No w [box b (.cells [.slice ç 0 0].toArray 111)] [box I (.cells [.slice N n O].toArray 22),box T (.cells [ag m].toArray 3)] r) ha ?_ (λd f g h F=>?_)
 .exact th (Us aB Z Z c (λb g _ _ j=>iz aB Z (cr Z) (yG ⟨Z,b,bf,j⟩)))
 obtain⟨e,hs,j⟩:=F;have c:=h.weak hs;refine wpIn_seq (KX (B:=λE r=>sub E [(6,.func (.func 184) #[] #[au I,au T]),(2,au e)]/\r=g) c ?_ (λl c p s F=>?_))
 .exact th (iz aB Z (bL Z) (yG ⟨Z,bf,Z⟩))
 obtain⟨t,rfl⟩:=F;have x:=s.weak t;refine wpIn_block ?_
 let y:List Rsc:=[box I (.cells [.slice N n O].toArray 22),box T (.cells [ag m].toArray 3)]
 refine HY x (l := #[au I,au T]) Z func184 Z CY
  (K:=λW=>∃v G o,Sep No w [box e (.cells [v].toArray 111),A4 [v] (ny N m q) G,box p.heap.size (.deferred (á [])),box (p.heap.size+1) o] y W) (λR fn hR=>?_) (λW hK=>?_)
 .have c:(p.alloc (.deferred (á []))).heap.size=p.heap.size+1:=by simp
  have U:=(j.alloc (.deferred (á []))).alloc (.loop (R .ready ç));rw[c] at U;have k:=U.perm (e:=[box e (.cells [.slice ç 0 0].toArray 111),box p.heap.size (.deferred (á [])),box (p.heap.size+1) (.loop (R .ready ç))]) σ;have V:Sep No w [box e (.cells [.slice ç 0 0].toArray 111),A4 [.slice ç 0 0] ((ny N m q).take 0) [],box p.heap.size (.deferred (á [])),box (p.heap.size+1) (.loop (R .ready ç))] y ((p.alloc (.deferred (á []))).alloc (.loop (R .ready ç))):=
   ⟨k.ext,by
    intro b_ Q
    simp only[aM,aQ,bB] at Q
    rcases Q with rfl|rfl|rfl|rfl
    .exact k.rs _ σ
    .exact .inr (.inl ⟨Z,σ,Z⟩)
    .exact k.rs _ σ
    exact k.rs _ σ,by simpa[blocks,A4,Wk.box] using k.nd,by simpa[blocks,A4,Wk.box] using k.new,k.fs,by simpa[blocks,A4,Wk.box,y] using k.ap⟩
  refine Ret.mono (F4 (N:=N) (J:=λi W=>∃v G,Sep No w [box e (.cells [v].toArray 111),A4 [v] ((ny N m q).take i) G,box p.heap.size (.deferred (á [])),box (p.heap.size+1) (.loop (R .ready ç))] y W) hm ⟨S.1,S.2.1,ω⟩ ?_ ?_ ?_ ⟨_,_,V⟩) ?_
  .rintro i W a_ ⟨v,G,H⟩
   exact⟨v,G,H.drawn a_⟩
  .rintro i W ⟨v,G,H⟩
   exact⟨H.fs (box I _) (by simp[y]),H.fs (box T _) (by simp[y])⟩
  .rintro i W ⟨v,G,H⟩ iq
   have cl:((ny N m q).take i).length=i:=by rw[aY,w8];omega
   have hy:=I0 (P:=ê) (u := .slice (slA N (i*m) (i*m+m) 1) (i*m+m-i*m) (i*m+m-i*m)) hR x.1 Z (H.box 3 Z)
    (L2:=[(5,.slice (slA N (i*m) (i*m+m) 1) (i*m+m-i*m) (i*m+m-i*m)),(2,au e)])
    (B:=λd=>∃v G,Sep No w [box e (.cells [v].toArray 111),A4 [v] ((ny N m q).take (i+1)) G,box p.heap.size (.deferred (á [])),box (p.heap.size+1) (.loop (R .busy ç))] y d)
    (by
     refine th (iz aB Z (cr Z) ?_)
     exact yG ⟨Z,Z,bf⟩)
    (by
     have f:=bt (H.put 3 (.loop (R .busy ç)) Z);refine JF (th (iz aB Z (bp c8 Z (bD (f.box 0 Z) Z)) (iz aB Z (bL Z) (Tq aB Z c8 cw Z Z Z Z f (λb c _ _ g=>Um (h:=View) (u:=⟨slA N (i*m) (i*m+m) 1,i*m+m-i*m,i*m+m-i*m⟩) aB Z c8 cw Z Z Z g 1 4 Z Z ⟨Z,Z⟩ db ω (λv' h e_ j=>?_))))));obtain⟨a',c',M⟩:=aL (j.A4 1 Z);cases M;refine Uq aB PY Z Z Z j 0 Z Z (λc _ j=>?_);have c:=j.dtake 4;have s:i*m+m-i*m=m:=by omega
     have t:=IW (A:=N) (m:=m) iq;rw[s,t] at c
     exact yG ⟨Z,j.box 3 Z,_,_,c⟩)
   obtain⟨c,j,s,t,y,z⟩:=hy;refine⟨c,j,s,t,y,z.mono λd_ W' M=>?_⟩;obtain⟨M,d,⟨C,D,f⟩,c_,rfl⟩:=M;have g:=f.put 3 (.loop (R .ready ç)) Z;exact⟨M,C,D,g⟩
  rintro _ d ⟨v,G,H⟩
  have g:=H.put 3 (.loop (R .exhausted ç)) Z;rw[List.take_of_length_le (by rw[w8];exact aN _)] at g;exact⟨H.box 3 Z,v,G,_,g⟩
 obtain⟨v,G,o,H⟩:=hK
 show Code.wpIn _ _ _ _ _ _ _
 have c:GoodD [{ target := .collected p.heap.size,args := #[] }] 13 { l with defers:=[{ target := .collected p.heap.size,args := #[] }] } [(2,au e)]:=
  ⟨by have:=x.1;exact this.weak ⟨rfl,trivial⟩,rfl⟩
 refine KX (B:=λE r=>sub E [(4,v)]/\r=W) c ?_ (λc d h l F=>?_)
 .exact th (iz aB Z (bp c8 Z (bD (H.box 0 Z) Z)) (iz aB Z (cr Z) (yG ⟨Z,⟨Z,trivial⟩,Z⟩)))
 obtain⟨x,rfl⟩:=F;refine wpIn_ret ?_;have c:=H.put 2 (.deferred ç) Z;refine⟨.inr Z,p.heap.size,[(4,v)],l.weak x,H.box 2 Z,TF Z Z ?_⟩;exact⟨c.ext,c.out 1 Z⟩

theorem GZ{w:ä}{q:Nat}(c:1<=m/\m<=1000000)(d:n=q*m/\n<=O/\n<=1000000000)
  (h:w.heap[I]? = á (.cells [.slice N n O].toArray 22)) (a:w.heap[T]? = á (.cells [ag m].toArray 3)) :
  am 228 [.func (.func 184) #[] #[au I,au T]] w λv W=>Res w W [v] (ny N m q):=by
 refine bv func228 Z (λQ b e=>aG 4674 ?_);exact sC func252 Z (CQ c d h a) (λv H r=>sA Z (aH (rT b Z r)))

theorem Ku{w:ä}(e:1<=m):
  am 133 [.slice N n O,ag m] w λv W=>∃I T,v = .func (.func 184) #[] #[au I,au T]/\W.heap[I]? = á (.cells [.slice N n O].toArray 22)/\W.heap[T]? = á (.cells [ag m].toArray 3):=by
 refine bv func133 Z (λQ h d=>?_);have H:=Sep.start (w:=w) (F:=[]) σ;refine aT (ci aB Z H (λI H a b c=>ci aB Z c (λT H a b c=>?_)));replace c:=bt c;refine ge 683926876756 c (λH=>?_) (λH=>?_)
 .exact absurd H ω
 exact bi (aT (sV Z (qo Z) (sA Z (aH (rT h Z ⟨c.ext,I,T,Z,c.box 0 Z,c.box 1 Z⟩)))))

theorem lk{w:ä}{x y:Int}{s:Nat}{X:List UInt8}(U:x=n)(V:y=s)(hn:1<=n/\n<=3/\s<=2)(t:X.length=n*4)(S:aj w N X O):am 186 [.agg #[ag x,ag y],ak N X O] w λb_ W=>Res w W [b_] (jX n (n+s) X):=by
 subst U;subst V;have i_:=sL S;obtain⟨c_,d_⟩:=S;refine bv func186 Z (λe_ R hN=>?_);have H:=Sep.start (aC d_ ba);refine aT (ci aB Z H (λa H c d e=>sA Z (aH (aT (sM Z (sC func133 Z (Ku (m:=4) ω) (λf_ H g=>?_)))))));obtain⟨j,g_,h_,rfl,p,a_⟩:=g;have u:=e.to j;have xc:=di (u.Ab 0 Z);refine sC func228 Z (GZ (m:=4) (q:=n) ω ⟨ω,ω,ω⟩ p a_) (λcv z A=>?_);obtain⟨B,cf,M,cn,L⟩:=A;have C:=u.to B;obtain⟨cg,Y,sg⟩:=KO (C.Ab 0 Z) (m:=4) (q:=n) ω t ω;obtain⟨o,K,sh⟩:=yP M Y (by rw[w8,fJ]);obtain⟨l,dC,P⟩:=aL K;cases P
 have H:=C.look (r:=Ab â [.slice l (chunks X 4 n).length dC] (chunks X 4 n) o) K (λb T c=>by
  rcases sh b T with h|h
  .have:=L b h;have:=u.lt b c;omega
  exact C.ap _ (æ (i:=0) Z) b (sg b h) c)
 have cl:(chunks X 4 n).length=n:=fJ;have ca:=lG t;refine sA Z (aH (aT (dG (f:=(List UInt8)) aB Z c8 cw H (λH z B c d=>aX 4321876 d ?_))));refine sE func229 Z (q7 ω) d (λH c d=>sM Z (aH (bP (cp (j:=Nat × è × List Nat) (λ(k,v,f)=>[(2,au a),(5,.slice l (chunks X 4 n).length dC),(6,v),(13,ag ((n:Int)+s)),(14,ag k)]) (λ(k,v,f) W=>Sep No w [box a (.cells #[ag n,ag s] 139),A4 [v] (jX n k X) f] [Ab â [ak N X O] X c_,Ab â [.slice l (chunks X 4 n).length dC] (chunks X 4 n) o] W/\k<=n+s) (λ(k,v,f)=>n+s-k) (0,_,_) bf ⟨d,ω⟩ (λ(k,v,f) H D=>?_)))));obtain⟨D,hk⟩:=D;refine br 10441682 (λH=>?_) (λH=>?_)
 .have gl:(kY n k 0).length=n:=nN;have Q:mixTo (chunks X 4 n) (kY n k 0) 4 (chunks X 4 n).length=encK X n k:=Z;have el:=rZ (n:=n) (m:=k) (x:=X);refine aX 90618545408339806 D ?_;refine sC func226 Z (iN ω) (λH a A=>?_);obtain⟨H,A⟩:=A;obtain⟨a,E⟩:=D.res H A;obtain⟨H,a,F⟩:=aL (E.A4 2 Z);cases F;refine sC func181 Z (tU (E.Ae 1 Z) (E.As 2 Z) ω ω η ω) (λH a c=>?_);obtain⟨H,c⟩:=c;obtain⟨a,G⟩:=E.res H c;obtain⟨H,a,I⟩:=aL (G.A4 3 Z);cases I;refine dx aB Z c8 cw Z G (λH a c d e=>kC aB Z c8 cw Z e 1 4 3 Z db ω (λH a c d=>?_));have J:=d.Aq 2 |>.sub (.cons_cons _ (.cons_cons _ (.cons _ (.cons _ (.cons _ Ê)))))
  rw[Q,NO] at J;refine aG 203876 ?_;refine⟨(k+1,_,_),bf,⟨J,ω⟩,θ⟩
 refine bu (aT (sR 2 Z (rN R Z ?_)));obtain rfl:k=n+s:=by omega
 exact⟨D.ext,D.out 1 Z⟩

theorem oK{w:ä}(X:aj w N R O):am 90 [ak N R O] w λv W=>v = ag R.length:=by
 obtain⟨F,x⟩:=X;refine bv func90 Z (λQ h a=>?_);have H:=Sep.start (aC x ba);refine aG 1124012610 ?_;exact rT h Z ⟨H.ext,Z⟩

end Go.Wk
namespace Go.Wk
open Rp (sz own)
theorem IC(s:A0):Ak s.fault:=by
  unfold A0.fault Ak;split<;>omega
end Go.Wk
namespace Go.Wk
open Go.Proofs Rp Go.Proofs.Tryz
set_option maxRecDepth 10000
variable {s u B:List UInt8}{y m f x:Option ô}{D:List Nat}{t n:Int}{o z g b A:Nat}
theorem bk{w:ä}(k:w.heap[b]? = á (az y s z t))(C:ah w y s z D)(l:∀x∈D,x≠b)(o:0<=t/\t<=1000000)(m:s.length<=1048576)(p:1<=n/\n<=1000):Ret ê 31 #[au b,ag n] w λv W=>(BoxTo w W b (az y s z (t+1))/\∃x:Int,v = ag x/\0<=x/\x<n):=by
 refine bv É Z (λQ j N=>?_);have H:=(Sep.beginBox k).look (r:=Ab â [ak y s z] s D) C (λx h hm=>l x h km);refine aX 0x926fc37f926f11242 H ?_;refine cL aB ts2 Z H 0 Z (λH c d=>br 2671579731 (λH=>?_) (λH=>?_))
 .exact aT (sA Z (aH (rT j Z (absurd H ω))))
 refine ge 0x9f3d12542ff37f926f1242cf37f926f12e d (λH=>?_) (λH=>?_)
 .refine aG 1236754 ?_;exact sV Z (uh Z Z ω) (sA Z (aH (rT j Z ⟨⟨d.ext,d.box 0 Z⟩,_,Z,xL ω ω⟩)))
 have H:=xL (a:=t+1-1) (b:=(s.length:Int)) ω ω;have H:=RA (a:=t+1-1) (b:=(s.length:Int)) ω ω;have c:=(s.getD ((t+1-1).tmod s.length).toNat 0).toNat_lt;obtain⟨c,e,f,g⟩:=dN (d.Ab 0 Z) ((t+1-1).tmod s.length).toNat ω;refine bi (aW (ep d (oQ [1,3,5,7,9,11,13,15,17,19,21,23,25,27,29,30]) (λH H=>aX 0xbb5bf52f4afb H ?_)));refine dV Z (λi h=>uh Z Z ω) (dV Z (λi h=>bR cJ ts5 Z f ((t+1-1).tmod s.length).toNat ω ω) (aG 1487 ?_));refine dV Z (λi h=>jZ tu5 tu2 Z iO) (dR 2 Z (dV Z (λi h=>KM Z Z ω iO) (br 0x9f3d12504f6df4ff51f (λc=>?_) (λc=>?_))))
 .have c:=xL (a:=t+1-1+1) (b:=(s.length:Int)) ω ω;have c:=(s.getD ((t+1-1+1).tmod s.length).toNat 0).toNat_lt;obtain⟨c,d,e,f⟩:=dN (H.Ab 0 Z) ((t+1-1+1).tmod s.length).toNat ω;refine ep H (oQ [1,3,5,7,9,11,13,15,17,19,21,23,25,27,29,31,33,34]) (λc d=>aX 0xb4ffb5bf52f4afb51fb d ?_);refine dV Z (λi h=>uh Z Z ω) (dV Z (λi h=>bR cJ ts5 Z e ((t+1-1+1).tmod s.length).toNat ω ω) (aG 1487 ?_));refine dV Z (λi h=>jZ tu5 tu2 Z iO) (aG 0x11204f6df4ffb4ff51f ?_);exact sV Z (uh Z Z ω) (sA Z (aH (rT j Z ⟨⟨d.ext,d.box 0 Z⟩,_,Z,xL ω ω⟩)))
 exact bi (aT (sR 2 Z (sV Z (uh Z Z ω) (sA Z (aH (rT j Z ⟨⟨H.ext,H.box 0 Z⟩,_,Z,xL ω ω⟩))))))

theorem cE{w:ä}(f:w.heap[b]? = á (az y s z t))(C:ah w y s z D)(g:∀x∈D,x≠b)(j:0<=t/\t<=1000000)(l:s.length<=1048576)(k:1<=n/\n<=1000):Ret ê 59 #[au b,ag n] w λv W=>(BoxTo w W b (az y s z (t+1))/\∃x:Int,v = .bool (decide (x=0))/\0<=x/\x<n):=by
 refine bv func59 Z (λQ h N=>?_);have H:=(Sep.beginBox f).look (r:=Ab â [ak y s z] s D) C (λx i hm=>g x i km);refine aG 70210 ?_;refine cY H Z É Z (bk · · · ω ω ω) (λH a c d e=>sR 2 Z (rN h Z ?_));exact⟨⟨d.ext,d.box 0 Z⟩,_,Z,ω,ω⟩

theorem bW{w:ä}{F:List Nat}{X:List Int}(j:w.heap[b]? = á (az y s z t))(C:ah w y s z D)(l:∀x∈D,x≠b)(A:0<=t/\t<=1000000)(u:s.length<=1048576)(O:ah w m X o F)(n:∀x∈F,x≠b)(h:1<=X.length/\X.length<=1000):Ret ê 30 #[au b,ak m X o] w λv W=>(BoxTo w W b (az y s z (t+1))/\∃x:Int,v = ag x/\x∈X):=by
 refine bv func30 Z (λQ i N=>?_);have H:=(Sep.beginBox j).look (r:=Ab â [ak y s z] s D) C (λx h hm=>l x h km);have H:=H.look (r:=Ab â [ak m X o] X F) O (λx h hm=>n x h km);refine aG 12869243458 ?_;refine cY H Z É Z (bk · · · ω ω ω) (λH a c e f=>?_);obtain⟨p,q,g,E⟩:=dW (e.Ab 1 Z) H.toNat ω;exact sV Z (bR cS ts2 Z g H.toNat ω ω) ((sV Z (bp tu2 Z E) (sA Z (aH (rT i Z ⟨⟨e.ext,e.box 0 Z⟩,_,Z,yj (d:=0) (k:=H.toNat) ω Z⟩)))))

theorem ψ {p q:Prop}(h:p)(i:p->q:=by
 intro h
 try simp only[aM,aQ,bB] at h
 exact h):q:=i h
theorem z6{w:ä}(l:w.heap[b]? = á (az y s z t))(O:ah w y s z D)(m:∀x∈D,x≠b)(o:0<=t/\t<=900000)(n:s.length<=1048576):Ret ê 66 #[au b] w λv W=>(∃C:Int,(t<=C/\C<=t+3)/\BoxTo w W b (az y s z C)/\∃x:UInt8,v = .int .u8 x.toNat/\True):=by
 refine bv func66 Z (λQ k N=>?_);have H:=(Sep.beginBox l).look (r:=Ab â [ak y s z] s D) O (λx h hm=>m x h km);refine aG 70210 ?_;refine cY H Z É Z (bk · · · ω ω ω) (λH a c d f=>sM Z (cY d Z É Z (bk · · · ω ω ω) (λa c d f g=>eY ([H,a,0,1,2,255]) aB Z cS bV Z fF σ σ f (λH a c d f=>cY f Z func30 Z (bW · · · ω ω (aJ (f.A4 1 Z)) (λx h e=>f.apart (i:=0) (j:=1) Z Z Z x h gR) σ) (λH a c d f=>?_)))))
 replace f:=ψ f
 refine sV Z (mr tu2 tu5 Z) (rA k Z Z ?_);exact⟨_,ω,⟨d.ext,d.box 0 Z⟩,_,Z,trivial⟩

theorem eO{w:ä}{m:Nat}(I:w.heap[b]? = á (az y s z t))(O:ah w y s z D)(J:∀x∈D,x≠b)(R:0<=t/\t<=800000)(P:s.length<=1048576)(T:n=m/\m<=1000):Ret ê 29 #[au b,ag n] w λv W=>(∃F:Int,(t<=F/\F<=t+3*(m:Int))/\BoxTo w W b (az y s z F)/\∃(u:List UInt8) (A:Option ô) (C:Nat),v = ak A u C/\u.length=m/\Res w W [ak A u C] u):=by
 refine bv func29 Z (λQ G N=>?_);have H:=(Sep.beginBox I).look (r:=Ab â [ak y s z] s D) O (λx K hm=>J x K km);refine aT (sA Z (aH (aT (dG (f:=UInt8) aB Z cJ b6 H (λH a c d e=>sA Z (aH (aW (bP (cp (j:=Nat × è × List Nat × List UInt8 × Int) (λ(k,V,f,B,E)=>[(0,au b),(1,ag (n-k)),(5,V)]) (λ(k,V,f,B,E) W=>Sep (· = b) w [box b (az y s z E),A4 [V] B f] [Ab â [ak y s z] s D] W/\k<=m/\B.length=k/\t<=E/\E<=t+3*k) (λ(k,V,f,B,E)=>m-k) (0,_,_,[],t) ⟨Z,eqI ω,Z,trivial⟩ ⟨e,ω,Z,ω,ω⟩ (λ(k,V,f,B,E) H g=>?_))))))))));obtain⟨g,S,Y,H,a⟩:=g;refine br 166973733 (λH=>?_) (λH=>?_)
 .refine aG 291532638 ?_;refine sC func66 Z (z6 (g.box 0 Z) (aJ (g.Ab 0 Z)) (g.B5 0 Z 0 Z) ω ω) (λH a h=>?_);obtain⟨i,j,⟨l,o⟩,p,rfl,q⟩:=h;have H:=g.Ay 0 Z l o
  replace q:=ψ q
  refine dx aB Z cJ b6 Z H (λH a c d e=>fC aB Z cJ b6 Z e 1 2 Z iB db ω (λH a c d=>?_));have L:=d.sub (.cons_cons _ (.cons_cons _ (.cons _ Ê)));refine aG 70054244 ?_;refine⟨(k+1,_,_,_,_),⟨Z,eqI ω,Z,trivial⟩,⟨L,ω,by rw[aO];simp[Y],ω,ω⟩,θ⟩
 refine bu (aT (sR 2 Z (rN G Z ?_)));obtain⟨U,X,M⟩:=aL (g.A4 1 Z);cases M;exact⟨_,ω,⟨g.ext,g.box 0 Z⟩,_,_,_,Z,ω,g.outB 0 Z 1 Z Z⟩

theorem pJ{w:ä}(S:aj w f s g):am 19 [ak f s g] w λv W=>∃b,v = au b/\W.heap[b]? = á (az f s g 0)/\w.heap.size<=b:=by
 obtain⟨codeF,C⟩:=S;refine bv func19 Z (λQ h N=>?_);have H:=Sep.start (aC C ba);refine aG 4674 ?_;exact sV Z (bM M1 Z Z) (ci aB Z H (λH a c d e=>sA Z (aH (rT h Z ⟨e.ext,_,Z,e.box 0 Z,e.freshD 0 Z _ iQ⟩))))

theorem BS{w:ä}(C:aj w f s g):am 4 [ak f s g] w λv W=>v = .bool (decide (1048576<(s.length:Int))):=by
 obtain⟨codeF,c⟩:=C;refine bv func4 Z (λQ h N=>?_);have H:=Sep.start (aC c ba);refine aG 20719800898 ?_;exact rT h Z ⟨H.ext,Z⟩

theorem md{w:ä}(X:aj w m u o)(y:aj w x B A):am 16 [ak m u o,ak x B A] w λv W=>v = .bool (decide (u=B)):=by
 have L:=sL X;obtain⟨F,O⟩:=X;have z:=sL y;obtain⟨Y,r⟩:=y;refine bv func16 Z (λQ n N=>?_);have H:=Sep.start (aC O (aC r ba));refine br 0x9f3d2ff12ff12542 (λa=>?_) (λa=>?_)
 .refine aT (sA Z (aH (rT n Z (⟨H.ext,?_⟩))));rw[a8 (λe=>by subst e;exact a rfl)]
 refine aG 7291486 ?_;refine cp (j:=Nat) (λk=>[(0,ak m u o),(1,ak x B A),(5,ag k)]) (λk W=>Sep No w [] [Ab â [ak m u o] u F,Ab â [ak x B A] B Y] W/\k<=u.length/\(∀i,i<k->u.getD i 0=B.getD i 0)) (λk=>u.length-k) 0 bf ⟨H,ω,λi q=>by omega⟩ (λk H b=>?_);obtain⟨b,s,p⟩:=b;refine br 0x9f3d2ff1125 (λH=>?_) (λH=>?_)
 .obtain⟨H,a,c,f⟩:=dN (b.Ab 0 Z) k ω;obtain⟨H,a,f,g⟩:=dN (b.Ab 1 Z) k ω;refine bi (aW (bP (aW (ep b (oQ [1,3,5,7,9,11,13,15,16]) (λH h=>dR 2 Z (dV Z (λC t=>bR cJ ts5 Z c k ω ω) (br 0x9f04f70f5cf62fbb5cf (λj=>?_) (λj=>?_))))))))
  .refine aT (sA Z (aH (rT n Z (⟨h.ext,?_⟩))));rw[a8 (λe=>by subst e;exact j rfl)]
  refine aG 311662 ?_;have l:u.getD k 0=B.getD k 0:=by apply oo.1;omega
  refine⟨k+1,bf,⟨h,ω,λi q=>?_⟩,θ⟩
  by_cases e:i=k
  .subst e;exact l
  exact p i ω
 refine bu (aT (sA Z (aH (rT n Z (⟨b.ext,?_⟩)))));rw[aU (js (d:=0) ω λi q=>p i ω)]

theorem iw{w:ä}(X:aj w m u o)(l:u.length<=100000000):am 47 [ak m u o] w λv W=>Res w W [v] u:=by
 obtain⟨F,x⟩:=X;refine bv Ā Z (λQ f N=>?_);have H:=Sep.start (aC x ba);refine aG 75074 ?_;refine sV Z (Cv cJ Z Z) (aH (gG Z (λa=>?_) (λa=>?_)))
 .refine aT (rA f Z Z ?_);have e:u=[]:=Cu x a;exact⟨H.ext,e ▸ ⟨[],.inr (.inl ⟨Z,Z,Z⟩),.nil,σ⟩⟩
 refine bi (aT (dG (f:=UInt8) aB Z cJ b6 H (λH a b c d=>sM Z (ma aB Z cJ b6 Z d 0 Z (d.Ab 0 Z) ic ia (λH a b c=>rA f Z Z ?_)))))
 exact⟨c.ext,by
  have h:=c.out 0 Z
  rwa[Ý] at h⟩

theorem qW{w:ä}{c:UInt8}(S:aj w m u o)(Y:aj w x B A)(l:u.length=B.length/\u.length<=100000):am 185 [ak m u o,ak x B A,.int .u8 c.toNat] w λv W=>Res w W [v] (eH u (cK B c)):=by
 obtain⟨F,X⟩:=S;obtain⟨k,y⟩:=Y;refine bv func185 Z (λQ h N=>?_);have H:=Sep.start (aC X (aC y ba));refine aG 4674 ?_;refine sC Ā Z (iw (H.Ae 0 Z) ω) (λa d e=>?_);obtain⟨a,e⟩:=e;obtain⟨d,f⟩:=H.res a e;obtain⟨H,a,g⟩:=aL (f.A4 0 Z);cases g;refine aG 69924 ?_;refine sC func225 Z (rn (f.A4 0 Z) (f.Aj (i:=0) Z) (aJ (f.Ab 1 Z)) (λb j=>f.off 1 Z 0 Z j) ξ) (λH a d=>?_);obtain⟨H,a⟩:=f.mut 0 Z d;refine aG 16675 ?_;exact rT h Z ⟨a.ext,a.out 0 Z⟩

end Go.Wk
