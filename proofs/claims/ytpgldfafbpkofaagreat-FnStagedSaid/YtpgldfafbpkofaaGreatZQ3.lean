/-
  Laws on walking, and the functions walked, each once: what this claim comes to.
-/
import Derived.Test.YtpgldfafbpkofaaGreatZQ2
set_option linter.unusedVariables false
set_option linter.unusedSimpArgs false
set_option maxHeartbeats 8000000
open Bool renaming and_assoc->Õ,false->â,false_and->Ę,true->ã,true_and->Þ
open Go renaming Addr->ô,Value->è,World->ä,maxLen->Ë
open Go.Proofs.Tryz renaming func26->Ĥ,func57->Ĳ,func63->œ,func65->ğ,prog->ê,zeroValue25->Ŭ,zeroValue57->Ķ,zeroValue76->Ä
open Go.Value renaming bool->ó,int->é
open Inhabited renaming default->à
open List renaming getD_eq_getElem?_getD->ï,range->õ
open Option renaming none->ç,some->á
namespace Go.Wk
open Go.Proofs Rp Go.Proofs.Tryz
set_option maxRecDepth 10000
variable {M A U T Q J K B f a_ c_:Option ô}{P:List è}{N V O Y I E o C k w n b_ d_ a e_ f_ g_:Nat}{X:FuncId}{v:Func}{R:List Int}{z:Wld}{L:List Nat}{W:List Ac}{g x xm m xa xb:Int}{p:Block->Bool}{ys:List UInt8}{b:Block}
theorem τ7 {p:Prop}(h:p:=by exact λ_ _ _ _=>trivial):p:=h
theorem fE{w:ä}{b m:Nat}(o:own ã w [.slice A n C] W L)(y:L.Nodup)(r:xa=(a:Nat))(s:xb=(b:Nat))(t:xm=(m:Nat))(D:a+m<=b)(E:b+m<=W.length)(B:0<W.length):Ret ê 261 #[.slice A n C,ag xa,ag xb,ag xm,.func (.func X) #[] P.toArray] w λv p=>(∃q,Mut w p L [.slice A n C] q/\q=mV W a b m):=by
 subst r;subst s;subst t;obtain rfl:=gA o;obtain⟨H,c,d⟩:=gq o 0 ω;subst d;have J:=oL o;refine bv func261 Z (λQ F N=>?_);have d:=Sep.begin o y;refine aT (sA Z (aH (bP (cp (j:=Nat × List Nat) (λ(i,f)=>[(0,.slice (á ⟨H,c,ç⟩) W.length C),(1,ag a),(2,ag b),(3,ag m),(10,ag i)]) (λ(i,f) p=>Sep (· ∈ L) w [A4 [.slice (á ⟨H,c,ç⟩) W.length C] (mV W a b i) f] [] p/\i<=m) (λ(i,f)=>m-i) (0,L) bf ⟨d,ω⟩ (λ(i,f) H e=>?_)))));obtain⟨e,G⟩:=e;refine br 2671579429 (λH=>?_) (λH=>?_)
 .have I:=iU (l:=W) (a:=a) (b:=b) (n:=i);obtain⟨H,c,d,g,h⟩:=e.B2 0 Z (a+i) ω;obtain⟨H,c,g,j,k⟩:=e.B2 0 Z (b+i) ω;refine bi (aW (bP (eE (S:=λ_=>True) (oQ [1,3,5,7,9,11,13,15,17,19,21,23,25,29,31,33,35,37,2012,26,38,41,42,45,46,38,26,41,42,45,46]) κ κ κ Z (λ_=>trivial) (λH=>?_))));have c:=e.drawn H;refine aG 0x4ffbbb4ffbbb4ffbbb ?_;refine dV Z (λz x=>bR cd cy Z g (b+i) ω ω) (aG 5241787 ?_);refine dV Z (λz x=>bR cd cy Z d (a+i) ω ω) (dF Z ?_ ?_)
  .refine aG 8976527 ?_;refine dV Z (λz x=>bR cd cy Z Z (a+i) ω ω) (jo (u:=((mV W a b i).getD (b+i) à)) Z aB cy c 0 Z (a+i) ω Z k τ7 (λH d g=>dV Z (λz x=>bR cd cy Z Z (b+i) ω ω) (jo (u:=((mV W a b i).getD (a+i) à)) Z aB cy g 0 Z (b+i) np Z h τ7 (λH d g=>aG 79781967 ?_))));refine⟨(i+1,_),bf,⟨g,ω⟩,θ⟩
  refine aG 8976527 ?_;refine dV Z (λz x=>bR cd cy Z Z (a+i) ω ω) (jo (u:=((mV W a b i).getD (b+i) à)) Z aB cy c 0 Z (a+i) ω Z k τ7 (λH c d=>dV Z (λz x=>bR cd cy Z Z (b+i) ω ω) (jo (u:=((mV W a b i).getD (a+i) à)) Z aB cy d 0 Z (b+i) np Z h τ7 (λH c d=>?_))));replace d:=bt d;refine aG 79781967 ?_;refine⟨(i+1,_),bf,⟨d,ω⟩,θ⟩
 refine bu (N _ _ (pR Z ?_));obtain rfl:i=m:=by omega
 exact⟨_,e.done,Z⟩

theorem lH{w:ä}{m b:Nat}(o:own ã w [.slice A n C] W L)(I:L.Nodup)(E:xa=(a:Nat))(G:xm=(m:Nat))(F:xb=(b:Nat))(J:a<m)(K:m<b)(M:b<=W.length):Ret ê 257 #[.slice A n C,ag xa,ag xm,ag xb,.func (.func X) #[] P.toArray] w λv z=>(∃D,Mut w z L [.slice A n C] D/\D=kT W a m b):=by
 subst E;subst G;subst F;obtain rfl:=gA o;obtain⟨H,c,d⟩:=gq o 0 ω;subst d;have T:=oL o;refine bv func257 Z (λQ O N=>?_);have d:=Sep.begin o I;refine aG 0x6f542cf11242cf112 ?_;refine cp (j:=Nat × Nat × List Ac × List Nat) (λ(i,j,l,f)=>[(0,.slice (á ⟨H,c,ç⟩) W.length C),(1,ag a),(2,ag m),(3,ag b),(4,.func (.func X) #[] P.toArray),(10,ag i),(11,ag j)]) (λ(i,j,l,f) z=>Sep (· ∈ L) w [A4 [.slice (á ⟨H,c,ç⟩) W.length C] l f] [] z/\1<=i/\1<=j/\i<=m/\m+j<=W.length/\l.length=W.length/\kT l (m-i) m (m+j)=kT W a m b) (λ(i,j,l,f)=>i+j) (m-a,b-m,W,L) ⟨Z,Z,Z,Z,Z,eqI ω,eqI ω,trivial⟩ ⟨d,ω,ω,ω,ω,Z,by rw[show m-(m-a)=a by omega,show m+(b-m)=b by omega]⟩ (λ(i,j,l,f) H e=>?_);obtain⟨e,H,c,R,S,B,y⟩:=e;refine br 2671579429 (λH=>?_) (λH=>?_)
 .refine br 0x9f3d11206fe (λH=>?_) (λH=>?_)
  .refine aG 73330004242 ?_;refine sC func261 Z (fE (a:=m-i) (b:=m) (m:=j) (e.A4 0 Z) (e.Aj (i:=0) Z) ω ω ω ω ω ω) (λH c g=>?_);obtain⟨h,k,rfl⟩:=g;obtain⟨H,c⟩:=e.mut 0 Z k;refine aG 1120866659 ?_;refine⟨(i-j,j,mV l (m-i) m j,_),⟨Z,Z,Z,Z,Z,eqI ω,eqI ω,trivial⟩,⟨c,ω,ω,ω,ω,by rw[iU];exact B,?_⟩,θ⟩;rw[show m-(i-j)=m-i+j by omega,QW ω ω ω];exact y
  refine aG 0x112cf1c112cf1112 ?_;refine sC func261 Z (fE (a:=m-i) (b:=m+j-i) (m:=i) (e.A4 0 Z) (e.Aj (i:=0) Z) ω ω ω ω ω ω) (λH c p=>?_);obtain⟨q,r,rfl⟩:=p;obtain⟨H,c⟩:=e.mut 0 Z r;refine aG 1120866659 ?_;refine⟨(i,j-i,mV l (m-i) (m+j-i) i,_),⟨Z,Z,Z,Z,Z,eqI ω,eqI ω,trivial⟩,⟨c,ω,ω,ω,ω,by rw[iU];exact B,?_⟩,θ⟩;rw[show m+(j-i)=m+j-i by omega,NE ω ω ω];exact y
 refine bu (aG 73330004246 ?_);refine sC func261 Z (fE (a:=m-i) (b:=m) (m:=i) (e.A4 0 Z) (e.Aj (i:=0) Z) ω ω ω ω ω ω) (λH c s=>?_);obtain⟨t,u,rfl⟩:=s;obtain⟨H,x⟩:=e.mut 0 Z u;refine aH (N _ _ (pR Z ?_));obtain rfl:i=j:=by omega
 exact⟨_,x.done,by rw[RG ω ω];exact y⟩

theorem gz{w:ä}{b:Nat}(o:own ã w [.slice A n C] W L)(nd:L.Nodup)(ha:xa=(a:Nat))(hb:xb=(b:Nat))(gH:ê.funcs[X]? = á v)(gB:v.body.isNone=â)(gN:NG v)(gC:∀F,Ext (· ∈ L) w F->∀(x y:Rec) (M:Option ô) (Y:Nat) (N:Option ô) (C7:Nat) (Q:Option ô) (C8:Nat) (R:Option ô) (D6:Nat) (T:Option ô) (D7:Nat) (U:Option ô) (D8:Nat),Ret ê X (([x.val M Y N C7 Q C8,y.val R D6 T D7 U D8]:List è)++P).toArray F λV r=>Ext No F r/\V = ag (cfR x y))(h1:a<=b)(h2:b<=W.length)(h0:0<W.length)(hL:W.length<=1000000):Ret ê 214 #[.slice A n C,ag xa,ag xb,.func (.func X) #[] P.toArray] w λV r=>(∃K,Mut w r L [.slice A n C] K/\SortSeg W K a b):=by
 subst ha;subst hb;obtain rfl:=gA o;obtain⟨H,c,d⟩:=gq o 0 ω;subst d;refine bv func214 Z (λc_ hQ hN=>?_);have d:=Sep.begin o nd;refine aG 7293970 ?_;refine cp (j:=Nat × List Ac × List Nat) (λ(i,l,f)=>[(0,.slice (á ⟨H,c,ç⟩) W.length C),(1,ag a),(2,ag b),(3,.func (.func X) #[] P.toArray),(8,ag i)]) (λ(i,l,f) r=>Sep (· ∈ L) w [A4 [.slice (á ⟨H,c,ç⟩) W.length C] l f] [] r/\a<i/\InsO W l a b i) (λ(i,l,f)=>b-i) (a+1,W,L) ⟨Z,Z,Z,Z,eqI ω,trivial⟩ ⟨d,ω,JV h2⟩ (λ(i,l,f) F e=>?_);obtain⟨e,G,O⟩:=e;refine br 2671579429 (λd=>?_) (λd=>?_)
 .have E:i<W.length:=by omega
  have hS:=Pp O G ω;refine aG 477834014558 ?_;refine cp (j:=Nat × List Ac × List Nat) (λ(j,l,f)=>[(0,.slice (á ⟨H,c,ç⟩) W.length C),(1,ag a),(2,ag b),(3,.func (.func X) #[] P.toArray),(8,ag i),(9,ag j)]) (λ(j,l,f) r=>Sep (· ∈ L) w [A4 [.slice (á ⟨H,c,ç⟩) W.length C] l f] [] r/\InsInv W l a i j) (λ(j,l,f)=>j) (i,l,f) bf ⟨e,Fw hS ω⟩ (λ(j,l,f) H c=>?_);obtain⟨c,I⟩:=c;have e_:=I.2.1;have d_:=I.1;have a_:=I.2.2.1;refine aW (aW (ep c (oQ [1,3,5,7,9,11,13,15,17,19,21,23,25,27,28,31,32]) (λH g=>aG 11849659 ?_)));refine dU (t:=21) Z (λh=>?_) (λh=>?_)
  .try simp only[ab] at h
   obtain⟨H,c,d,k,m⟩:=g.B2 0 Z j ω;refine aG 0xbcfb4fb4fd0fcefb4fb4fb4f ?_;obtain⟨H,c,d,k,m⟩:=g.B2 0 Z (j-1) ω;refine eS Z (wg Z) Z (λD s=>bR cd cy Z d (j-1) ω ω) (aG 3343 ?_);refine cb Z (wg Z) Z (ke (c:=P) Z gH gB gN Z) (gC _ g.ext (l.getD j à).r (l.getD (j-1) à).r (l.getD j à).A6 (l.getD j à).C6 (l.getD j à).A7 (l.getD j à).C7 (l.getD j à).A8 (l.getD j à).C8 (l.getD (j-1) à).A6 (l.getD (j-1) à).C6 (l.getD (j-1) à).A7 (l.getD (j-1) à).C7 (l.getD (j-1) à).A8 (l.getD (j-1) à).C8) τ1 (λH c p=>?_);obtain⟨q,rfl⟩:=p;have H:=g.to q;refine br 0x9f04f7afb8f (λc=>?_) (λc=>?_)
   .have a_:=I.2.2.1;obtain⟨d,k,m,p,q⟩:=H.B2 0 Z j ω;refine bi (aW (bP (eE (S:=λ_=>True) (oQ [1,3,5,7,9,11,13,15,17,21,23,25,2012,18,26,29,30,33,34,26,18,29,30,33,34]) κ κ κ Z (λ_=>trivial) (λd=>?_))));have k:=H.drawn d;obtain⟨d,p,b_,z,B⟩:=k.B2 0 Z (j-1) ω;refine aG 89042004720571 ?_;refine dV Z (λD s=>bR cd cy Z b_ (j-1) ω ω) (dR 2 Z (dV Z (λD s=>bR cd cy Z m j ω ω) (dF Z ?_ ?_)))
    .refine aG 8976527 ?_;refine dV Z (λD s=>bR cd cy Z Z (j) ω ω) (jo (u:=(l.getD (j-1) à)) Z aB cy k 0 Z (j) ω Z B τ7 (λd m p=>dV Z (λD s=>bR cd cy Z Z (j-1) ω ω) (jo (u:=(l.getD j à)) Z aB cy p 0 Z (j-1) np Z q τ7 (λd m p=>aG 17933885519 ?_))));refine⟨(j-1,_,_),⟨Z,Z,Z,Z,Z,eqI ω,trivial⟩,⟨p,DK I ω E ω⟩,θ⟩
    refine aG 8976527 ?_;refine dV Z (λD s=>bR cd cy Z Z (j) ω ω) (jo (u:=(l.getD (j-1) à)) Z aB cy k 0 Z (j) ω Z B τ7 (λd k m=>dV Z (λD s=>bR cd cy Z Z (j-1) ω ω) (jo (u:=(l.getD j à)) Z aB cy m 0 Z (j-1) np Z q τ7 (λd k m=>?_))));replace m:=bt m;refine aG 17933885519 ?_;refine⟨(j-1,_,_),⟨Z,Z,Z,Z,Z,eqI ω,trivial⟩,⟨m,DK I ω E ω⟩,θ⟩
   refine bu ?_;have J:=Gr I E (.inr c);refine aG 19478 ?_;refine⟨(i+1,l,_),bf,⟨H,ω,FJ J G ω⟩,θ⟩
  try simp only[aa] at h
  refine aG 0x4f7bfafefaaaaaaaaaa ?_;refine gW Z (bu (aG 19478 ?_));have J:=Gr I E (.inl (by have:=I.1;omega));refine⟨(i+1,l,_),bf,⟨g,ω,FJ J G ω⟩,θ⟩
 exact bu (hN _ _ (pR Z ⟨_,e.done,OG O ω⟩))

def CV (G:FuncId) (g:List è) (N:Nat):Prop:=∀(w:ä) (W:List Ac) (A:Option ô) (n C:Nat) (L:List Nat) (a m b:Nat) (xa xm xb:Int),own ã w [.slice A n C] W L->L.Nodup->xa=(a:Nat)->xm=(m:Nat)->xb=(b:Nat)->(∀d,Ext (· ∈ L) w d->∀(x y:Rec) (f:Option ô) (l:Nat) (h:Option ô) (o:Nat) (i:Option ô) (p:Nat) (B:Option ô) (D:Nat) (j:Option ô) (q:Nat) (k:Option ô) (r:Nat),Ret ê G (([x.val f l h o i p,y.val B D j q k r]:List è)++g).toArray d λv c=>Ext No d c/\v = .int .i64 (cfR x y))->a<m->m<b->b<=W.length->W.length<=1000000->Ord kLt gD (seg W a m)->Ord kLt gD (seg W m b)->b-a<=N->Ret ê 243 #[.slice A n C,.int .i64 xa,.int .i64 xm,.int .i64 xb,.func (.func G) #[] g.toArray] w λv c=>∃e,Mut w c L [.slice A n C] e/\SortSeg W e a b
theorem φ {p q:Prop}(h:p)(i:p->q:=by
 intro h
 try simp only[ab,aa] at h
 exact h):q:=i h
theorem En{w:ä}{m b:Nat}(d_:own ã w [.slice A n C] W L)(nd:L.Nodup)(ha:xa=(a:Nat))(hm:xm=(m:Nat))(hb:xb=(b:Nat))(gH:ê.funcs[X]? = á v)(gB:v.body.isNone=â)(gN:NG v)(gC:∀R,Ext (· ∈ L) w R->∀(x c_:Rec) (A6:Option ô) (C6:Nat) (A7:Option ô) (C7:Nat) (A8:Option ô) (C8:Nat) (B6:Option ô) (D6:Nat) (B7:Option ô) (D7:Nat) (B8:Option ô) (D8:Nat),Ret ê X (([x.val A6 C6 A7 C7 A8 C8,c_.val B6 D6 B7 D7 B8 D8]:List è)++P).toArray R λh_ y=>Ext No R y/\h_ = ag (cfR x c_))(h1:a<m)(h2:m<b)(O:b<=W.length)(hL:W.length<=1000000)(hA:Ord kLt gD (seg W a m))(hB:Ord kLt gD (seg W m b)){f_:Nat}(hN:b-a<=f_+1)(IH:CV X P f_):Ret ê 243 #[.slice A n C,ag xa,ag xm,ag xb,.func (.func X) #[] P.toArray] w λh_ y=>(∃i_,Mut w y L [.slice A n C] i_/\SortSeg W i_ a b):=by
 subst ha;subst hm;subst hb;obtain rfl:=gA d_;obtain⟨H,c,d⟩:=gq d_ 0 ω;subst d;refine bv func243 Z (λp_ hQ hN=>?_);have e:=Sep.begin d_ nd;refine br 0x9f3d2cf1125 (λd=>?_) (λd=>?_)
 .refine aG 29884490770 ?_;refine cp (j:=Nat × Nat × List Nat) (λ(i,j,f)=>[(0,.slice (á ⟨H,c,ç⟩) W.length C),(1,ag a),(2,ag m),(3,ag b),(4,.func (.func X) #[] P.toArray),(10,ag i),(11,ag j)]) (λ(i,j,f) y=>Sep (· ∈ L) w [A4 [.slice (á ⟨H,c,ç⟩) W.length C] W f] [] y/\LoInv W a m b i j) (λ(i,j,f)=>j-i) (m,b,_) bf ⟨e,PV ω⟩ (λ(i,j,f) R g=>?_);obtain⟨g,o⟩:=g;refine br 2671579429 (λd=>?_) (λd=>?_)
  .have h:=o.1;have p:=o.2.1;have q:=o.2.2.1;refine aG 3239184126 ?_;refine sV Z (jZ tu3 wm Z (IM ω)) (sV Z (yi (m:=i+j) Z Z Z) (sV Z (jZ wm tu3 Z iO) ?_));have h:=o.1;have p:=o.2.1;have q:=o.2.2.1;obtain⟨d,B,D,E,F⟩:=g.B2 0 Z ((i+j) / 2) ω;obtain⟨d,B,E,F,G⟩:=g.B2 0 Z a ω;refine sA Z (aH (aW (ep g (oQ [1,3,5,7,9,11,13,15,17,18,20]) (λd I=>dR 3 Z (dV Z (λN M=>bR cd cy Z D ((i+j) / 2) ω ω) (aG 6938032846415 ?_))))));refine cb Z aB Z (ke (c:=P) Z gH gB gN Z) (gC _ I.ext (W.getD ((i+j) / 2) à).r (W.getD a à).r (W.getD ((i+j) / 2) à).A6 (W.getD ((i+j) / 2) à).C6 (W.getD ((i+j) / 2) à).A7 (W.getD ((i+j) / 2) à).C7 (W.getD ((i+j) / 2) à).A8 (W.getD ((i+j) / 2) à).C8 (W.getD a à).A6 (W.getD a à).C6 (W.getD a à).A7 (W.getD a à).C7 (W.getD a à).A8 (W.getD a à).C8) τ1 (λd B J=>?_);obtain⟨h,rfl⟩:=J;have d:=I.to h;refine br 2667902735 (λB=>?_) (λB=>?_)
   .refine aG 19478 ?_;refine⟨(((i+j) / 2)+1,j,_),bf,⟨d,Tx o O hB ω ω B⟩,θ⟩
   refine ce (sR 2 Z (aH (⟨(i,((i+j) / 2),_),bf,⟨d,U2 o O hB ω ω B⟩,θ⟩)))
  refine bu ?_;have m_:=o;have h:=o.1;have p:=o.2.1;have q:=o.2.2.1;refine aG 7291173 ?_;refine cp (j:=Nat × List Ac × List Nat) (λ(k,l,f)=>[(0,.slice (á ⟨H,c,ç⟩) W.length C),(1,ag a),(10,ag i),(13,ag k)]) (λ(k,l,f) y=>Sep (· ∈ L) w [A4 [.slice (á ⟨H,c,ç⟩) W.length C] l f] [] y/\UpInv W l a k/\k<i) (λ(k,l,f)=>i-k) (a,W,_) bf ⟨g,Oe ω,ω⟩ (λ(k,l,f) d g=>?_);obtain⟨g,hU,t_⟩:=g;refine aW (aW ?_)
  skip
  refine br 683926155542 (λd=>?_) (λd=>?_)
  .have u_:=hU.2.2.1;obtain⟨d,B,D,E,F⟩:=g.B2 0 Z k ω;obtain⟨d,B,E,G,I⟩:=g.B2 0 Z (k+1) ω;refine bi (aW (bP (eE (S:=λ_=>True) (oQ [1,3,5,7,9,11,13,15,17,21,23,25,2012,18,26,29,30,33,34,26,18,29,30,33,34]) κ κ κ Z (λ_=>trivial) (λd=>?_))));have B:=g.drawn d;refine aG 87942492044219 ?_;refine dV Z (λN M=>bR cd cy Z E (k+1) ω ω) (dR 2 Z (dV Z (λN M=>bR cd cy Z D k ω ω) (dF Z ?_ ?_)))
   .refine aG 8976527 ?_;refine dV Z (λN M=>bR cd cy Z Z (k) ω ω) (jo (u:=(l.getD (k+1) à)) Z aB cy B 0 Z (k) ω Z I τ7 (λd D E=>dV Z (λN M=>bR cd cy Z Z (k+1) ω ω) (jo (u:=(l.getD k à)) Z aB cy E 0 Z (k+1) np Z F τ7 (λd D E=>aG 79781967 ?_))));refine⟨(k+1,_,_),bf,⟨E,Ls hU ω,ω⟩,θ⟩
   refine aG 8976527 ?_;refine dV Z (λN M=>bR cd cy Z Z (k) ω ω) (jo (u:=(l.getD (k+1) à)) Z aB cy B 0 Z (k) ω Z I τ7 (λd B D=>dV Z (λN M=>bR cd cy Z Z (k+1) ω ω) (jo (u:=(l.getD k à)) Z aB cy D 0 Z (k+1) np Z F τ7 (λd B D=>?_))));replace D:=bt D;refine aG 79781967 ?_;refine⟨(k+1,_,_),bf,⟨D,Ls hU ω,ω⟩,θ⟩
  refine bu (dY (hQ _ _ (pR Z ?_)));obtain rfl:i=k+1:=by omega
  obtain rfl:j=k+1:=by omega
  obtain rfl:m=a+1:=by omega
  exact⟨_,g.done,TR hU m_ O hB⟩
 refine br 0x9f3d2cf1125e (λd=>?_) (λd=>?_)
 .refine aG 29884490770 ?_;refine cp (j:=Nat × Nat × List Nat) (λ(i,j,f)=>[(0,.slice (á ⟨H,c,ç⟩) W.length C),(1,ag a),(2,ag m),(3,ag b),(4,.func (.func X) #[] P.toArray),(14,ag i),(15,ag j)]) (λ(i,j,f) y=>Sep (· ∈ L) w [A4 [.slice (á ⟨H,c,ç⟩) W.length C] W f] [] y/\HiInv W a m i j) (λ(i,j,f)=>j-i) (a,m,_) bf ⟨e,QF ω⟩ (λ(i,j,f) d g=>?_);obtain⟨g,o⟩:=g;refine br 2671579429 (λd=>?_) (λd=>?_)
  .have h:=o.1;have p:=o.2.1;have q:=o.2.2.1;refine aG 3239184126 ?_;refine sV Z (jZ tu3 wm Z (IM ω)) (sV Z (yi (m:=i+j) Z Z Z) (sV Z (jZ wm tu3 Z iO) ?_));have h:=o.1;have p:=o.2.1;have q:=o.2.2.1;obtain⟨d,B,D,E,F⟩:=g.B2 0 Z m ω;obtain⟨d,B,E,F,G⟩:=g.B2 0 Z ((i+j) / 2) ω;refine sA Z (aH (aW (ep g (oQ [1,3,5,7,9,11,13,15,17,18,21,22]) (λd J=>dR 3 Z (dV Z (λN M=>bR cd cy Z D m ω ω) (aG 767567 ?_))))));refine dV Z (λN M=>bR cd cy Z E ((i+j) / 2) ω ω) (aG 1615 ?_);refine cb Z aB Z (ke (c:=P) Z gH gB gN Z) (gC _ J.ext (W.getD m à).r (W.getD ((i+j) / 2) à).r (W.getD m à).A6 (W.getD m à).C6 (W.getD m à).A7 (W.getD m à).C7 (W.getD m à).A8 (W.getD m à).C8 (W.getD ((i+j) / 2) à).A6 (W.getD ((i+j) / 2) à).C6 (W.getD ((i+j) / 2) à).A7 (W.getD ((i+j) / 2) à).C7 (W.getD ((i+j) / 2) à).A8 (W.getD ((i+j) / 2) à).C8) τ1 (λd B K=>?_);obtain⟨p,rfl⟩:=K;have d:=J.to p;refine br 0x9f04f7ef4cf (λB=>?_) (λB=>?_)
   .refine aG 19478 ?_;refine⟨(((i+j) / 2)+1,j,_),bf,⟨d,TQ o ω hA ω ω B⟩,θ⟩
   refine ce (sR 2 Z (aH (⟨(i,((i+j) / 2),_),bf,⟨d,UN o ω hA ω ω ω⟩,θ⟩)))
  refine bu ?_;have h:=o.1;have p:=o.2.1;have q:=o.2.2.1;obtain rfl:i=j:=by omega
  have b_:=o;refine aG 7291173 ?_;refine cp (j:=Nat × List Ac × List Nat) (λ(k,l,f)=>[(0,.slice (á ⟨H,c,ç⟩) W.length C),(2,ag m),(14,ag i),(17,ag k)]) (λ(k,l,f) y=>Sep (· ∈ L) w [A4 [.slice (á ⟨H,c,ç⟩) W.length C] l f] [] y/\DnInv W l a m i k) (λ(k,l,f)=>k) (m,W,_) bf ⟨g,Pv b_ hA⟩ (λ(k,l,f) d g=>?_);obtain⟨g,V⟩:=g;refine br 2671579429 (λd=>?_) (λd=>?_)
  .have s_:=V.2.1.2.2.1;have r_:=V.2.1.2.1;obtain⟨d,B,D,E,F⟩:=g.B2 0 Z k ω;refine bi (aW (bP (eE (S:=λ_=>True) (oQ [1,3,5,7,9,11,13,15,17,21,23,25,2012,18,26,29,30,33,34,26,18,29,30,33,34]) κ κ κ Z (λ_=>trivial) (λd=>?_))));have B:=g.drawn d;obtain⟨d,E,G,I,J⟩:=B.B2 0 Z (k-1) ω;refine aG 89042004720571 ?_;refine dV Z (λN M=>bR cd cy Z G (k-1) ω ω) (dR 2 Z (dV Z (λN M=>bR cd cy Z D k ω ω) (dF Z ?_ ?_)))
   .refine aG 8976527 ?_;refine dV Z (λN M=>bR cd cy Z Z (k) ω ω) (jo (u:=(l.getD (k-1) à)) Z aB cy B 0 Z (k) ω Z J τ7 (λd D E=>dV Z (λN M=>bR cd cy Z Z (k-1) ω ω) (jo (u:=(l.getD k à)) Z aB cy E 0 Z (k-1) np Z F τ7 (λd D E=>aG 17933885519 ?_))));refine⟨(k-1,_,_),⟨Z,Z,Z,eqI ω,trivial⟩,⟨E,Mf V b_ ω ω⟩,θ⟩
   refine aG 8976527 ?_;refine dV Z (λN M=>bR cd cy Z Z (k) ω ω) (jo (u:=(l.getD (k-1) à)) Z aB cy B 0 Z (k) ω Z J τ7 (λd B D=>dV Z (λN M=>bR cd cy Z Z (k-1) ω ω) (jo (u:=(l.getD k à)) Z aB cy D 0 Z (k-1) np Z F τ7 (λd B D=>?_))));replace D:=bt D;refine aG 17933885519 ?_;refine⟨(k-1,_,_),⟨Z,Z,Z,eqI ω,trivial⟩,⟨D,Mf V b_ ω ω⟩,θ⟩
  refine bu (dY (hQ _ _ (pR Z ?_)));have d:=V.1;obtain rfl:k=i:=by omega
  obtain rfl:b=m+1:=by omega
  exact⟨_,g.done,T4 V b_ ω⟩
 refine aG 790830 ?_;refine sV Z (jZ tu3 wm Z (IM ω)) (sV Z (yi (m:=a+b) Z Z Z) (sV Z (jZ wm tu3 Z iO) (aG 19097456932 ?_)));refine Hc (b:=Nat × Nat) e [(1,_),(2,_),(3,_),(4,_),(18,_),(19,_)] bf (λ(s,r)=>[(0,.slice (á ⟨H,c,ç⟩) W.length C),(20,ag s),(21,ag r)]) (λ(s,r)=>MidOK W a m b (((a+b) / 2)+m-1) s r/\(s=a\/(((a+b) / 2)+m-1)+1=b+s)/\(r=m\/(((a+b) / 2)+m-1)+1=m+r)) ?_ (λ(s,r) d g ⟨Q,E,F⟩=>?_)
 .refine br 166973714 (λd=>?_) (λd=>?_)
  .refine aG 280853541138 ?_;exact⟨(((a+b) / 2)+m-b,((a+b) / 2)),⟨Z,eqI ω,Z,Z,Z,Z,Z,Z,Z,trivial⟩,e,⟨ω,ω,ω,ω,O,hA,hB,ω⟩,ω,ω⟩
  refine aG 4285458 ?_;exact⟨(a,m),bf,e,⟨ω,ω,ω,ω,O,hA,hB,ω⟩,ω,ω⟩
 dsimp only[jf,lNA];refine aG 29884600082 ?_;refine cp (j:=Nat × Nat × List Nat) (λ(e,K,f)=>[(0,.slice (á ⟨H,c,ç⟩) W.length C),(1,ag a),(2,ag m),(3,ag b),(4,.func (.func X) #[] P.toArray),(18,ag (((a+b) / 2):Nat)),(19,ag (((a+b) / 2)+m:Nat)),(20,ag e),(21,ag K),(22,ag ((((a+b) / 2)+m-1):Nat))]) (λ(e,K,f) y=>Sep (· ∈ L) w [A4 [.slice (á ⟨H,c,ç⟩) W.length C] W f] [] y/\MidInv W (((a+b) / 2)+m-1) s r e K) (λ(e,K,f)=>K-e) (s,r,_) ⟨Z,Z,Z,Z,Z,Z,Z,Z,Z,eqI ω,trivial⟩ ⟨g,N2 (by rcases Q with ⟨_,_,_,_,_⟩;omega)⟩ (λ(e,K,f) d G=>?_);obtain⟨G,o⟩:=G;refine br 2671579429 (λd=>?_) (λd=>?_)
 .have h:=o.1;have p:=o.2.1;have q:=o.2.2.1;obtain⟨I,J,a_,e_,_,_,_,_⟩:=id Q;refine aG 3239184126 ?_;refine sV Z (jZ tu3 wm Z (IM ω)) (sV Z (yi (m:=e+K) Z Z Z) (sV Z (jZ wm tu3 Z iO) ?_));have h:=o.1;have p:=o.2.1;have q:=o.2.2.1;obtain⟨I,J,a_,e_,_,_,_,_⟩:=id Q;obtain⟨d,g,B,D,j_⟩:=G.B2 0 Z ((((a+b) / 2)+m-1)-((e+K) / 2)) ω;obtain⟨d,g,D,j_,o_⟩:=G.B2 0 Z ((e+K) / 2) ω;refine sA Z (aH (aW (ep G (oQ [1,3,5,7,9,11,13,15,17,19,21,22,25,26]) (λd g_=>aG 84917179 ?_))));refine dV Z (λN M=>bR cd cy Z B ((((a+b) / 2)+m-1)-((e+K) / 2)) ω ω) (aG 767567 ?_);refine dV Z (λN M=>bR cd cy Z D ((e+K) / 2) ω ω) (aG 1615 ?_);refine cb Z aB Z (ke (c:=P) Z gH gB gN Z) (gC _ g_.ext (W.getD ((((a+b) / 2)+m-1)-((e+K) / 2)) à).r (W.getD ((e+K) / 2) à).r (W.getD ((((a+b) / 2)+m-1)-((e+K) / 2)) à).A6 (W.getD ((((a+b) / 2)+m-1)-((e+K) / 2)) à).C6 (W.getD ((((a+b) / 2)+m-1)-((e+K) / 2)) à).A7 (W.getD ((((a+b) / 2)+m-1)-((e+K) / 2)) à).C7 (W.getD ((((a+b) / 2)+m-1)-((e+K) / 2)) à).A8 (W.getD ((((a+b) / 2)+m-1)-((e+K) / 2)) à).C8 (W.getD ((e+K) / 2) à).A6 (W.getD ((e+K) / 2) à).C6 (W.getD ((e+K) / 2) à).A7 (W.getD ((e+K) / 2) à).C7 (W.getD ((e+K) / 2) à).A8 (W.getD ((e+K) / 2) à).C8) τ1 (λd g k_=>?_);obtain⟨q,rfl⟩:=k_;have d:=g_.to q;refine br 0x9f04f7ef4cf (λg=>?_) (λg=>?_)
  .refine aG 19478 ?_;refine⟨(((e+K) / 2)+1,K,_),bf,⟨d,ST o Q ω ω g⟩,θ⟩
  refine ce (sR 2 Z (aH (⟨(e,((e+K) / 2),_),bf,⟨d,TA o Q ω ω ω⟩,θ⟩)))
 refine bu ?_;have h:=o.1;have p:=o.2.1;have q:=o.2.2.1;obtain⟨I,J,a_,e_,_,_,_,_⟩:=id Q;obtain rfl:e=K:=by omega
 refine aG 70054162 ?_;refine tT (c:=List Nat) (λf=>[(0,.slice (á ⟨H,c,ç⟩) W.length C),(1,ag a),(2,ag m),(3,ag b),(4,.func (.func X) #[] P.toArray),(18,ag (((a+b) / 2):Nat)),(20,ag e),(24,ag ((((a+b) / 2)+m-e):Nat))]) (λf y=>Sep (· ∈ L) w [A4 [.slice (á ⟨H,c,ç⟩) W.length C] (kT W e m (((a+b) / 2)+m-e)) f] [] y) ?_ (λf d p=>?_)
 .refine aG 119058 ?_;refine cZ (t:=181) Z (λq=>?_) (λq=>?_)
  .replace q:=φ q
   refine br 0x9f332f94f90f90f (λd=>?_) (λd=>?_)
   .refine aG 1118486 ?_;refine sC func257 Z (lH (a:=e) (m:=m) (b:=(((a+b) / 2)+m-e)) (G.A4 0 Z) (G.Aj (i:=0) Z) ω ω ω ω ω ω) (λd g K=>?_);obtain⟨q_,l_,rfl⟩:=K;obtain⟨d,g⟩:=G.mut 0 Z l_;exact aH ⟨_,⟨Z,Z,Z,Z,Z,Z,Z,eqI ω,trivial⟩,g⟩
   refine bi ?_;exact⟨f,⟨Z,Z,Z,Z,Z,Z,Z,eqI ω,trivial⟩,by rw[Ic ω ω ω ω];exact G⟩
  replace q:=φ q
  refine aG 53737608 ?_;refine gW Z (bi ?_);exact⟨f,⟨Z,Z,Z,Z,Z,Z,Z,eqI ω,trivial⟩,by rw[Ic ω ω ω ω];exact G⟩
 skip
 refine tT (c:=List Ac × List Nat) (λ(d,f)=>[(0,.slice (á ⟨H,c,ç⟩) W.length C),(1,ag a),(2,ag m),(3,ag b),(4,.func (.func X) #[] P.toArray),(18,ag (((a+b) / 2):Nat)),(20,ag e),(24,ag ((((a+b) / 2)+m-e):Nat))]) (λ(d,f) y=>Sep (· ∈ L) w [A4 [.slice (á ⟨H,c,ç⟩) W.length C] d f] [] y/\SortSeg (kT W e m (((a+b) / 2)+m-e)) d a ((a+b) / 2)) ?_ (λ(d,f) H c=>?_)
 .have n_:=oU (l:=W) (x:=e) (y:=m) (z:=(((a+b) / 2)+m-e)) ω ω ω;have Y:SymL W (kT W e m (((a+b) / 2)+m-e)) a e ((a+b) / 2) (((a+b) / 2)+m-e) b:=IJ o Q E F ω ω;obtain⟨_,_,_,_,H,g,q,B⟩:=id Y;refine aG 119058 ?_;refine cZ (t:=195) Z (λD=>?_) (λD=>?_)
  .replace D:=φ D
   refine br 0x9f332f94f90f90f (λG=>?_) (λG=>?_)
   .refine aG 1118486 ?_;refine sC func243 Z (IH _ _ _ _ _ _ a e ((a+b) / 2) _ _ _ (p.A4 0 Z) (p.Aj (i:=0) Z) ω ω ω (λR h=>gC R (p.ext.step h λb hb=>p.new b (p.inB 0 Z hb))) ω ω ω ω H g ω) (λG I J=>?_);obtain⟨G,I,K⟩:=J;obtain⟨J,a_⟩:=p.mut 0 Z I;exact aH ⟨(G,_),bf,a_,K⟩
   obtain U:e=((a+b) / 2):=by omega
   have T:Ord kLt gD (seg (kT W e m (((a+b) / 2)+m-e)) a ((a+b) / 2)):=Eq.mp (congrArg (λz=>Ord kLt gD (seg (kT W e m (((a+b) / 2)+m-e)) a z)) U) H;exact bi ⟨((kT W e m (((a+b) / 2)+m-e)),_),bf,p,rG T⟩
  replace D:=φ D
  refine aG 53737608 ?_;refine gW Z ?_;obtain U:e=a:=by omega
  have T:Ord kLt gD (seg (kT W e m (((a+b) / 2)+m-e)) a ((a+b) / 2)):=Eq.mp (congrArg (λz=>Ord kLt gD (seg (kT W e m (((a+b) / 2)+m-e)) z ((a+b) / 2))) U) g;exact bi ⟨((kT W e m (((a+b) / 2)+m-e)),_),bf,p,rG T⟩
 obtain⟨c,p⟩:=c;have n_:=oU (l:=W) (x:=e) (y:=m) (z:=(((a+b) / 2)+m-e)) ω ω ω;have Y:SymL W (kT W e m (((a+b) / 2)+m-e)) a e ((a+b) / 2) (((a+b) / 2)+m-e) b:=IJ o Q E F ω ω;obtain⟨_,_,_,_,H,g,q,B⟩:=id Y;have H:=p.1;refine aW ?_;have H:Ord kLt gD (seg d (((a+b) / 2)+m-e) b):=by rw[Cy p ω ω];exact B
 have g:Ord kLt gD (seg d ((a+b) / 2) (((a+b) / 2)+m-e)):=by rw[Cy p ω ω];exact q
 refine aG 119062 ?_;refine cZ (t:=209) Z (λq=>?_) (λq=>?_)
 .replace q:=φ q
  refine br 0x9f332f94f90f90f (λB=>?_) (λB=>?_)
  .refine aG 1118486 ?_;refine sC func243 Z (IH _ _ _ _ _ _ ((a+b) / 2) (((a+b) / 2)+m-e) b _ _ _ (c.A4 0 Z) (c.Aj (i:=0) Z) ω ω ω (λR h=>gC R (c.ext.step h λb hb=>c.new b (c.inB 0 Z hb))) ω ω ω ω g H ω) (λh B D=>?_);obtain⟨h,B,E⟩:=D;obtain⟨h,D⟩:=c.mut 0 Z B;exact aH (hN _ _ (pR Z ⟨_,D.done,Ec Y p E ω ω O⟩))
  refine bi (hN _ _ (pR Z ?_));have U:(((a+b) / 2)+m-e)=b:=by omega
  have T:Ord kLt gD (seg d ((a+b) / 2) b):=Eq.mp (congrArg (λz=>Ord kLt gD (seg d ((a+b) / 2) z)) U) g;exact⟨_,c.done,Ec Y p (rG T) ω ω O⟩
 replace q:=φ q
 refine aG 53737608 ?_;refine gW Z (bi (hN _ _ (pR Z ?_)));have U:(((a+b) / 2)+m-e)=((a+b) / 2):=by omega
 have T:Ord kLt gD (seg d ((a+b) / 2) b):=Eq.mp (congrArg (λz=>Ord kLt gD (seg d z b)) U) H;exact⟨_,c.done,Ec Y p (rG T) ω ω O⟩

theorem sU(G:ê.funcs[X]? = á v)(g:v.body.isNone=â)(d:NG v):∀N,CV X P N
 | 0=>λ_ _ _ _ _ _ a m b _ _ _ _ _ _ _ _ _ H c _ _ _ _ h=>absurd (Nat.lt_trans H c) ω
 | N+1=>λ_ _ _ _ _ _ _ _ _ _ _ _ o n i k j C H c e L A B f=>En o n i k j G g d C H c e L A B f (sU G g d N)
theorem lC{w:ä}{m:Nat}(o:own ã w [.slice A n C] W L)(nd:L.Nodup)(hm:xm=(m:Nat))(u:ê.funcs[X]? = á v)(G:v.body.isNone=â)(N:NG v)(t:∀p,Ext (· ∈ L) w p->∀(x y:Rec) (I:Option ô) (R:Nat) (J:Option ô) (S:Nat) (K:Option ô) (U:Nat) (M:Option ô) (Y:Nat) (O:Option ô) (D7:Nat) (Q:Option ô) (D8:Nat),Ret ê X (([x.val I R J S K U,y.val M Y O D7 Q D8]:List è)++P).toArray p λV q=>Ext No p q/\V = ag (cfR x y))(d_:m=W.length)(h0:0<W.length)(hL:W.length<=1000000):Ret ê 213 #[.slice A n C,ag xm,.func (.func X) #[] P.toArray] w λV q=>(∃F,Mut w q L [.slice A n C] F/\SortSeg W F 0 W.length):=by
 subst hm;obtain rfl:=gA o;obtain⟨H,c,d⟩:=gq o 0 ω;subst d;refine bv func213 Z (λe_ hQ hN=>?_);have e:=Sep.begin o nd;subst d_;refine aG 29884879426 ?_;refine cp (j:=Nat × List Ac × List Nat) (λ(a,l,f)=>[(0,.slice (á ⟨H,c,ç⟩) W.length C),(1,ag W.length),(2,.func (.func X) #[] P.toArray),(6,ag 20),(7,ag a),(8,ag (a+20:Nat))]) (λ(a,l,f) q=>Sep (· ∈ L) w [A4 [.slice (á ⟨H,c,ç⟩) W.length C] l f] [] q/\Ai W l 20 a) (λ(a,l,f)=>W.length-a) (0,W,_) bf ⟨e,OI⟩ (λ(a,l,f) p d=>?_);obtain⟨d,s⟩:=d;refine br 2671579429 (λe=>?_) (λe=>?_)
 .have b_:=s.1;have a_:=s.2.2.2.1;refine aG 4581361406 ?_;refine sC func214 Z (gz (a:=a) (b:=(a+20)) (d.A4 0 Z) (d.Aj (i:=0) Z) ω ω u G N (λp e=>t p (d.ext.step e λb r=>d.new b (d.inB 0 Z r))) ω ω ω ω) (λg h j=>?_);obtain⟨g,h,k⟩:=j;obtain⟨g,j⟩:=d.mut 0 Z h;refine aG 20419330339 ?_;refine⟨(a+20,_,_),⟨Z,Z,Z,Z,Z,eqI ω,trivial⟩,⟨j,LO s ω ω k⟩,θ⟩
 refine bu ?_;have b_:=s.1;have a_:=s.2.2.2.1;refine aG 69906 ?_;refine sC func214 Z (gz (a:=a) (b:=W.length) (d.A4 0 Z) (d.Aj (i:=0) Z) ω ω u G N (λp e=>t p (d.ext.step e λb r=>d.new b (d.inB 0 Z r))) ω ω ω ω) (λg h j=>?_);obtain⟨g,h,k⟩:=j;obtain⟨g,j⟩:=d.mut 0 Z h;refine aH (bP (cp (j:=Nat × List Ac × List Nat) (λ(B,l,f)=>[(0,.slice (á ⟨H,c,ç⟩) W.length C),(1,ag W.length),(2,.func (.func X) #[] P.toArray),(6,ag B)]) (λ(B,l,f) q=>Sep (· ∈ L) w [A4 [.slice (á ⟨H,c,ç⟩) W.length C] l f] [] q/\AllB W l B/\0<B) (λ(B,l,f)=>W.length-B) (20,_,_) bf ⟨j,Lr s ω k,ω⟩ (λ(B,l,f) d g=>?_)));obtain⟨g,z,d⟩:=g;have f_:=z.1;refine br 2671579429 (λh=>?_) (λh=>?_)
 .refine aG 0x6f5472df1206fe ?_;refine cp (j:=Nat × List Ac × List Nat) (λ(a,l,f)=>[(0,.slice (á ⟨H,c,ç⟩) W.length C),(1,ag W.length),(2,.func (.func X) #[] P.toArray),(6,ag B),(7,ag a),(8,ag (a+2*B:Nat))]) (λ(a,l,f) q=>Sep (· ∈ L) w [A4 [.slice (á ⟨H,c,ç⟩) W.length C] l f] [] q/\TwoB W l B a/\0<B/\B<W.length) (λ(a,l,f)=>W.length-a) (0,_,_) ⟨Z,Z,Z,Z,Z,eqI ω,trivial⟩ ⟨g,MM z,d,ω⟩ (λ(a,l,f) H c=>?_);obtain⟨c,T,d,c_⟩:=c;have E:=T.1.1;have D:=T.1.2.2.2.1;refine br 2671579429 (λH=>?_) (λH=>?_)
  .have E:=T.1.1;have D:=T.1.2.2.2.1;refine aG 19520912754430 ?_;refine sC func243 Z (sU u G N _ _ _ _ _ _ _ a (a+B) (a+2*B) _ _ _ (c.A4 0 Z) (c.Aj (i:=0) Z) ω ω ω (λp e=>t p (c.ext.step e λb r=>c.new b (c.inB 0 Z r))) ω ω ω ω (Ta T ω d) (S7 T ω ω) (aN _)) (λH h j=>?_);obtain⟨H,h,k⟩:=j;obtain⟨H,j⟩:=c.mut 0 Z h;refine aG 83760202006819 ?_;refine⟨(a+2*B,_,_),⟨Z,Z,Z,Z,Z,eqI ω,trivial⟩,⟨j,Oq T d ω (show SortSeg l _ a (a+2*B) from k),d,c_⟩,θ⟩
  refine bu ?_;have E:=T.1.1;have D:=T.1.2.2.2.1;refine br 0x9f3d1124c1125 (λH=>?_) (λH=>?_)
  .have E:=T.1.1;have D:=T.1.2.2.2.1;refine aG 1118486 ?_;refine sC func243 Z (sU u G N _ _ _ _ _ _ _ a (a+B) W.length _ _ _ (c.A4 0 Z) (c.Aj (i:=0) Z) ω ω ω (λp e=>t p (c.ext.step e λb r=>c.new b (c.inB 0 Z r))) ω ω ω ω (Ta T ω d) (S7 T ω ω) (aN _)) (λH e h=>?_);obtain⟨H,e,j⟩:=h;obtain⟨H,h⟩:=bt (c.mut 0 Z e);refine aG 70119779 ?_;refine⟨(2*B,_,_),⟨Z,Z,Z,eqI ω,trivial⟩,⟨h,Hs T ω j,ω⟩,θ⟩
  refine aG 70119790 ?_;refine⟨(2*B,_,_),⟨Z,Z,Z,eqI ω,trivial⟩,⟨c,PJ T d ω,ω⟩,θ⟩
 exact bu (hN _ _ (pR Z ⟨_,g.done,Ri z ω h0⟩))

theorem yI{w:ä}(x:aj w M R N)(u : -1000<=m/\m<=1000000):am 233 [ak M R N,ag m] w λv W=>v = .bool (rises R (m-1)):=by
 have L:=sL x;obtain⟨X,O⟩:=x;refine bv func233 Z (λQ o r=>?_);have H:=Sep.start (aC O ba);refine aG 0x6f312ff12542 ?_;refine cp (j:=Nat) (λk=>[(0,ak M R N),(1,ag m),(7,ak M R N),(8,ag R.length),(9,ag k)]) (λk W=>Sep No w [] [Ab â [ak M R N] R X] W/\k<=R.length/\(∀i,i<k->kz R (m-1) i=ã)) (λk=>R.length-k) 0 bf ⟨H,ω,λi q=>by omega⟩ (λk H a=>?_);obtain⟨a,s,p⟩:=a;refine br 10441682 (λH=>?_) (λH=>?_)
 .obtain⟨H,b,c,d⟩:=dW (a.Ab 0 Z) k ω;have H:=gM (a.Ab 0 Z) k ω;refine aG 0x54738f3ef1206f5e ?_;obtain⟨H,b,c,d⟩:=dW (a.Ab 0 Z) (k-1) ω;have H:=gM (a.Ab 0 Z) (k-1) ω;refine aG 2945302 ?_;refine sE Ĳ Z cT a (λH b f=>sV Z (cj Z) (sM Z (cU 11 (j:=5) (E:=â) (t:=30) Z (λH g=>bc (wgE Z H) Z (bL Z) (bc (wgE Z H) Z (pG Z Z) (bc (wgE Z H) Z (bL Z) (cU 7 (j:=8) (E:=ã) (t:=29) Z (λh l=>bc (wgE Z h) Z (bL Z) (bc (wgE Z h) Z (bL Z) (bc (wgE Z h) Z (sT Z Z iO) (bc (wgE Z h) Z (bR cS ts2 Z c (k-1) (by first|omega|(simp only[bz,aP,bI,bJ,als_Bool_not_eq_true_,Bool.not_eq_false',ab,aa] at H h;omega)) ω) (bc (wgE Z h) Z (bp tu2 Z (b.cell d)) (bc (wgE Z h) Z (bL Z) (bc (wgE Z h) Z (JP Z Z) (l _ _ gP Z Ext.refl)))))))) (λb c=>bc (wgE Z H) Z (cX Z) (g _ _ gP Z (Ext.refl.trans c))))))) (λH b=>?_))));have H:=f.to b;refine br 11481951 (λn=>?_) (λn=>?_)
  .refine aT (sA Z (aH (rT o Z (⟨H.ext,?_⟩))))
   rw[yb k ω (by
    simp[ins,-ï] at n;simp[kz,-ï]
    omega)]
  refine aG 203886 ?_;refine⟨k+1,bf,⟨H,ω,λi q=>?_⟩,θ⟩
  by_cases e:i=k
  .subst e;simp[ins,-ï] at n;simp[kz,-ï]
   omega
  exact p i ω
 exact bu (aT (sA Z (aH (rT o Z ⟨a.ext,by rw[vI (λi q=>p i ω)]⟩))))

theorem z7{w:ä}(X:aj w M R N)(p : -1000<=m/\m<=1000000):am 169 [ak M R N,ag m] w λv W=>v = .bool (rises R m):=by
 have L:=sL X;obtain⟨F,O⟩:=X;refine bv func169 Z (λQ h n=>?_);have H:=Sep.start (aC O ba);refine aG 116663618 ?_;refine cp (j:=Nat) (λk=>[(0,ak M R N),(1,ag m),(5,ag k)]) (λk W=>Sep No w [] [Ab â [ak M R N] R F] W/\k<=R.length/\(∀i,i<k->kz R m i=ã)) (λk=>R.length-k) 0 bf ⟨H,ω,λi l=>by omega⟩ (λk H a=>?_);obtain⟨a,o,j⟩:=a;refine br 0x9f3d2ff1125 (λH=>?_) (λH=>?_)
 .obtain⟨H,b,c,d⟩:=dW (a.Ab 0 Z) k ω;have H:=gM (a.Ab 0 Z) k ω;refine bi (aW (bP (aW (ep a (oQ [1,3,5,7,9,11,13,15,17,19,21,23,25,27,29,31,33,35,37,39,41,43,45,47,49,51,53,55,56]) (λH f=>aG 0xb4cf5cf62fbb ?_)))));refine dU (t:=17) Z (λH=>?_) (λH=>?_)
  .replace H:=φ H
   refine aG 0xaaab56faaaaaa ?_;refine eK Z (wou Z) Z (eK Z (wou Z) Z (eK Z (wou Z) Z (eK Z (wou Z) Z (eK Z (wou Z) Z (eK Z (wou Z) Z (eK Z (wou Z) Z (eK Z (wou Z) Z (eK Z (wou Z) Z (eK Z (wou Z) Z (dKt Z Z Z Z (dD Z aB Z (dJ Z Z) (dO (eL Z (aT (sA Z (aH (rT h Z (⟨f.ext,?_⟩))))))))))))))))))
   rw[yb k ω (by
    simp[kz,-ï]
    omega)]
  replace H:=φ H
  refine aG 0xb57fb8fb4fc8fcefb4fb4f ?_;refine dU (t:=25) Z (λH=>?_) (λH=>?_)
  .replace H:=φ H
   refine aG 2730 ?_;refine eK Z (wou Z) Z (eK Z (wou Z) Z (eK Z (wou Z) Z (eK Z (wou Z) Z (eK Z (wou Z) Z (eK Z (wou Z) Z (eK Z (wou Z) Z (eK Z (wou Z) Z (eK Z (wou Z) Z (eK Z (wou Z) Z (dKt Z Z Z Z (dD Z aB Z (dJ Z Z) (dO (eL Z (aT (sA Z (aH (rT h Z (⟨f.ext,?_⟩))))))))))))))))))
   rw[yb k ω (by
    simp[kz,-ï]
    omega)]
  replace H:=φ H
  refine eS Z (wg Z) Z (λz x=>bL Z) (eS Z (wg Z) Z (λz x=>pG Z Z) (eS Z (wg Z) Z (λz x=>bL Z) (dU (t:=28) Z (λg=>?_) (λg=>?_))))
  .replace g:=φ g
   refine aG 0xbcfb4fb4fc8fcefb4fb4f ?_;obtain⟨H,b,c,d⟩:=dW (f.Ab 0 Z) (k-1) ω;have H:=gM (f.Ab 0 Z) (k-1) ω;refine eS Z (wg Z) Z (λz x=>bR cS ts2 Z c (k-1) ω ω) (br 0x9f04f7bfc2fb8fc8f (λH=>?_) (λH=>?_))
   .refine aT (sA Z (aH (rT h Z (⟨f.ext,?_⟩))))
    rw[yb k ω (by
     simp[kz,-ï]
     omega)]
   refine aG 311662 ?_;refine⟨k+1,bf,⟨f,ω,λi l=>?_⟩,θ⟩
   by_cases e:i=k
   .subst e;simp[kz,-ï]
    omega
   exact j i ω
  replace g:=φ g
  refine aG 0x4f7bfc3faaaaaaaaaa ?_;refine gW Z (aG 311662 ?_);refine⟨k+1,bf,⟨f,ω,λi l=>?_⟩,θ⟩
  by_cases e:i=k
  .subst e;simp[kz,-ï]
   omega
  exact j i ω
 exact bu (aT (sA Z (aH (rT h Z ⟨a.ext,by rw[vI (λi l=>j i ω)]⟩))))

theorem uQ{w:ä}(x:aj w M R N){p:Int->Bool}(o:ê.funcs[X]? = á v)(G:v.body.isNone=â)(q:NG v)(C:∀W,Ext No w W->∀(I:Nat),I<R.length->Ret ê X (([ag (R.getD I 0)]:List è)++P).toArray W λV n=>Ext No W n/\V = .bool (p (R.getD I 0))):am 254 [ak M R N,.func (.func X) #[] P.toArray] w λV n=>V = ag (fO p R):=by
 have L:=sL x;obtain⟨F,O⟩:=x;refine bv func254 Z (λQ l r=>?_);have H:=Sep.start (aC O ba);refine aG 0x6f312ff12542 ?_;refine dr (a:=Nat) H [(0,_),(1,_),(7,_)] bf (λk=>[(8,ag k)]) (λk=>k<=R.length/\(∀i,i<k->p (R.getD i 0)=â)) (λk=>R.length-k) 0 ⟨Z,trivial⟩ ⟨ω,λi m=>by omega⟩ (λk W a ⟨s,j⟩=>?_);dsimp only[jf,lNA];refine br 10441682 (λH=>?_) (λH=>?_)
 .obtain⟨H,b,c,f⟩:=dW (a.Ab 0 Z) k ω;have H:=gM (a.Ab 0 Z) k ω;refine aG 0x38f3ef111241206f5e ?_;refine dE aB Z (ke (c:=P) Z o G q Z) (C _ a.ext k ω) (λH b g=>?_);obtain⟨h,rfl⟩:=g;have H:=a.to h;refine aH (gG Z (λb=>?_) (λb=>?_))
  .exact aT (sR 2 Z (aH (rT l Z ⟨H.ext,congrArg (é .i64) (tB (d:=0) ω η j).symm⟩)))
  refine aG 203886 ?_;refine⟨k+1,bf,⟨H,ω,λi m=>?_⟩,θ⟩
  by_cases e:i=k
  .subst e
   assumption
  exact j i ω
 exact bu (aT (sA Z (aH (rT l Z ⟨a.ext,congrArg (é .i64) (sW (d:=0) (λi m=>j i ω)).symm⟩))))

theorem rD{w:ä}(S:aj w M R N){p:Int->Bool}(c:ê.funcs[X]? = á v)(g:v.body.isNone=â)(d:NG v)(G:∀W,Ext No w W->∀(i:Nat),i<R.length->Ret ê X (([ag (R.getD i 0)]:List è)++P).toArray W λV b=>Ext No W b/\V = .bool (p (R.getD i 0))):am 234 [ak M R N,.func (.func X) #[] P.toArray] w λV b=>V = .bool (R.any p):=by
 obtain⟨F,x⟩:=S;refine bv func234 Z (λQ h e=>?_);have H:=Sep.start (aC x ba);refine aG 70210 ?_;refine sE func254 Z (uQ (H.Ae 0 Z) c g d (λW a=>G W (H.ext.trans a))) H (λW a H=>sR 2 Z (rN h Z ?_));exact⟨H.ext,by rw[<- nX]⟩

theorem uU{w:ä}{A:List Block}(S:aj w M A N)(L:ê.funcs[X]? = á v)(J:v.body.isNone=â)(O:NG v)(K:∀W,Ext No w W->∀(I:Nat),I<A.length->∀(C:Option ô) (D:Nat) (_:(A.getD I à).Ok) (_:Ag W [.slice C (A.getD I à).Bytes.length D] (A.getD I à).Bytes),Ret ê X (([(A.getD I à).val C D]:List è)++P).toArray W λV G=>Ext No W G/\V = .bool (p (A.getD I à))):am 189 [ak M A N,.func (.func X) #[] P.toArray] w λV G=>V = ag (fO p A):=by
 have b_:=sL S;obtain⟨a_,T⟩:=S;refine bv func189 Z (λQ E U=>?_);have H:=Sep.start (aC T ba);refine aG 0x6f312ff12542 ?_;refine dr (a:=Nat) H [(0,_),(1,_),(7,_)] bf (λk=>[(8,ag k)]) (λk=>k<=A.length/\(∀i,i<k->p (A.getD i à)=â)) (λk=>A.length-k) 0 ⟨Z,trivial⟩ ⟨ω,λi F=>by omega⟩ (λk W a ⟨Y,B⟩=>?_);dsimp only[jf,lNA];refine br 10441682 (λH=>?_) (λH=>?_)
 .obtain⟨H,c,f,g,h,j,l,m,n⟩:=cR (a.Ab 0 Z) k ω;obtain⟨o,q,r,rfl,s,t,u⟩:=nt l;have H:=cx t;refine aG 22567481182 ?_;have x:=a.look1 0 Z u (λb R=>m b (by rw[s];simp[R]));have H:=oL u;refine aG 278970437910 ?_;refine dE aB Z (ke (c:=P) Z L J O Z) (K _ x.ext k ω _ _ η (x.Ae 1 Z)) (λH c y=>?_);obtain⟨z,rfl⟩:=y;have H:=x.to z;refine aH (gG Z (λc=>?_) (λc=>?_))
  .exact aT (sR 2 Z (aH (rT E Z ⟨H.ext,congrArg (é .i64) (tB (d:=à) ω η B).symm⟩)))
  refine aG 203886 ?_;refine⟨k+1,bf,⟨(H.Aq 1),ω,λi F=>?_⟩,θ⟩
  by_cases e:i=k
  .subst e
   assumption
  exact B i ω
 exact bu (aT (sA Z (aH (rT E Z ⟨a.ext,congrArg (é .i64) (sW (d:=à) (λi F=>B i ω)).symm⟩))))

theorem rI{w:ä}{x:List Block}(S:aj w M x N)(c:ê.funcs[X]? = á v)(g:v.body.isNone=â)(d:NG v)(G:∀W,Ext No w W->∀(i:Nat),i<x.length->∀(A:Option ô) (C:Nat) (_:(x.getD i à).Ok) (_:Ag W [.slice A (x.getD i à).Bytes.length C] (x.getD i à).Bytes),Ret ê X (([(x.getD i à).val A C]:List è)++P).toArray W λV b=>Ext No W b/\V = .bool (p (x.getD i à))):am 141 [ak M x N,.func (.func X) #[] P.toArray] w λV b=>V = .bool (x.any p):=by
 obtain⟨F,O⟩:=S;refine bv func141 Z (λQ h e=>?_);have H:=Sep.start (aC O ba);refine aG 70210 ?_;refine sE func189 Z (uU (H.Ae 0 Z) c g d (λW a=>G W (H.ext.trans a))) H (λW a H=>sR 2 Z (rN h Z ?_));exact⟨H.ext,by rw[<- nX]⟩

theorem vL{w:ä}{A:List Tape}(S:aj w M A N){p:Tape->Bool}(L:ê.funcs[X]? = á v)(J:v.body.isNone=â)(O:NG v)(K:∀W,Ext No w W->∀(I:Nat),I<A.length->∀(C:Option ô) (D:Nat) (_:(A.getD I à).Ok) (_:Ag W [.slice C (A.getD I à).Ah.length D] (A.getD I à).Ah),Ret ê X (([(A.getD I à).val C D]:List è)++P).toArray W λV G=>Ext No W G/\V = .bool (p (A.getD I à))):am 190 [ak M A N,.func (.func X) #[] P.toArray] w λV G=>V = ag (fO p A):=by
 have b_:=sL S;obtain⟨a_,T⟩:=S;refine bv func190 Z (λQ E U=>?_);have H:=Sep.start (aC T ba);refine aG 0x6f312ff12542 ?_;refine dr (a:=Nat) H [(0,_),(1,_),(7,_)] bf (λk=>[(8,ag k)]) (λk=>k<=A.length/\(∀i,i<k->p (A.getD i à)=â)) (λk=>A.length-k) 0 ⟨Z,trivial⟩ ⟨ω,λi F=>by omega⟩ (λk W a ⟨Y,B⟩=>?_);dsimp only[jf,lNA];refine br 10441682 (λH=>?_) (λH=>?_)
 .obtain⟨H,c,f,g,h,j,l,m,n⟩:=cR (a.Ab 0 Z) k ω;obtain⟨o,q,r,rfl,s,t,u⟩:=fd l;refine aG 22567481182 ?_;have x:=a.look1 0 Z u (λb R=>m b (by rw[s];simp[R]));have H:=oL u;refine aG 278970437910 ?_;refine dE aB Z (ke (c:=P) Z L J O Z) (K _ x.ext k ω _ _ η (x.Ae 1 Z)) (λH c y=>?_);obtain⟨z,rfl⟩:=y;have H:=x.to z;refine aH (gG Z (λc=>?_) (λc=>?_))
  .exact aT (sR 2 Z (aH (rT E Z ⟨H.ext,congrArg (é .i64) (tB (d:=à) ω η B).symm⟩)))
  refine aG 203886 ?_;refine⟨k+1,bf,⟨(H.Aq 1),ω,λi F=>?_⟩,θ⟩
  by_cases e:i=k
  .subst e
   assumption
  exact B i ω
 exact bu (aT (sA Z (aH (rT E Z ⟨a.ext,congrArg (é .i64) (sW (d:=à) (λi F=>B i ω)).symm⟩))))

theorem mq{w:ä}{x:List Tape}(S:aj w M x N){p:Tape->Bool}(c:ê.funcs[X]? = á v)(g:v.body.isNone=â)(d:NG v)(G:∀W,Ext No w W->∀(i:Nat),i<x.length->∀(A:Option ô) (C:Nat) (_:(x.getD i à).Ok) (_:Ag W [.slice A (x.getD i à).Ah.length C] (x.getD i à).Ah),Ret ê X (([(x.getD i à).val A C]:List è)++P).toArray W λV b=>Ext No W b/\V = .bool (p (x.getD i à))):am 144 [ak M x N,.func (.func X) #[] P.toArray] w λV b=>V = .bool (x.any p):=by
 obtain⟨F,O⟩:=S;refine bv func144 Z (λQ h e=>?_);have H:=Sep.start (aC O ba);refine aG 70210 ?_;refine sE func190 Z (vL (H.Ae 0 Z) c g d (λW a=>G W (H.ext.trans a))) H (λW a H=>sR 2 Z (rN h Z ?_));exact⟨H.ext,by rw[<- nX]⟩

theorem lD{w:ä}{s:List Rec}(S:aj w M s N){p:Rec->Bool}(T:ê.funcs[X]? = á v)(O:v.body.isNone=â)(U:NG v)(R:∀W,Ext No w W->∀(f:Nat),f<s.length->∀(o:Option ô) (t:Nat) (q:Option ô) (u:Nat) (r:Option ô) (y:Nat) (_:(s.getD f à).Ok) (_:Ag W [.slice o (s.getD f à).Rows.length t] (s.getD f à).Rows) (_:Ag W [.slice q (s.getD f à).Data.length u] (s.getD f à).Data) (_:Ag W [.slice r (s.getD f à).Ad.length y] (s.getD f à).Ad),Ret ê X (([(s.getD f à).val o t q u r y]:List è)++P).toArray W λV L=>Ext No W L/\V = .bool (p (s.getD f à))):am 82 [ak M s N,.func (.func X) #[] P.toArray] w λV L=>V = ag (fO p s):=by
 have k_:=sL S;obtain⟨j_,Y⟩:=S;refine bv func82 Z (λQ J hN=>?_);have H:=Sep.start (aC Y ba);refine aG 0x6f312ff12542 ?_;refine dr (a:=Nat) H [(0,_),(1,_),(7,_)] bf (λk=>[(8,ag k)]) (λk=>k<=s.length/\(∀i,i<k->p (s.getD i à)=â)) (λk=>s.length-k) 0 ⟨Z,trivial⟩ ⟨ω,λi K=>by omega⟩ (λk W a ⟨hk,j⟩=>?_);dsimp only[jf,lNA];refine br 10441682 (λH=>?_) (λH=>?_)
 .obtain⟨H,c,a_,g,b_,c_,l,m,n⟩:=cR (a.Ab 0 Z) k ω;obtain⟨d_,e_,f_,g_,h_,i_,x,l_,z,rfl,A,B,C,D,E⟩:=dX l;have H:=cx B;refine aG 22567481182 ?_;have H:=a.look1 0 Z C (λb h=>m b (by rw[A];simp[h]));have c:=oL C;have c:=H.look1 0 Z D (λb h=>m b (by rw[A];simp[h]));have H:=oL D;have F:=c.look1 0 Z E (λb h=>m b (by rw[A];simp[h]));have H:=oL E;refine aG 278970437910 ?_;refine dE aB Z (ke (c:=P) Z T O U Z) (R _ F.ext k ω _ _ _ _ _ _ η (F.Ae 1 Z) (F.Ae 2 Z) (F.Ae 3 Z)) (λH c G=>?_);obtain⟨I,rfl⟩:=G;have H:=F.to I;refine aH (gG Z (λc=>?_) (λc=>?_))
  .exact aT (sR 2 Z (aH (rT J Z ⟨H.ext,congrArg (é .i64) (tB (d:=à) ω η j).symm⟩)))
  refine aG 203886 ?_;refine⟨k+1,bf,⟨(H.Aq 1),ω,λi K=>?_⟩,θ⟩
  by_cases e:i=k
  .subst e
   assumption
  exact j i ω
 exact bu (aT (sA Z (aH (rT J Z ⟨a.ext,congrArg (é .i64) (sW (d:=à) (λi K=>j i ω)).symm⟩))))

theorem tX{w:ä}{x:List Rec}(S:aj w M x N){p:Rec->Bool}(h:ê.funcs[X]? = á v)(g:v.body.isNone=â)(j:NG v)(G:∀W,Ext No w W->∀(i:Nat),i<x.length->∀(A:Option ô) (C:Nat) (b:Option ô) (d:Nat) (c:Option ô) (e:Nat) (_:(x.getD i à).Ok) (_:Ag W [.slice A (x.getD i à).Rows.length C] (x.getD i à).Rows) (_:Ag W [.slice b (x.getD i à).Data.length d] (x.getD i à).Data) (_:Ag W [.slice c (x.getD i à).Ad.length e] (x.getD i à).Ad),Ret ê X (([(x.getD i à).val A C b d c e]:List è)++P).toArray W λV f=>Ext No W f/\V = .bool (p (x.getD i à))):am 211 [ak M x N,.func (.func X) #[] P.toArray] w λV f=>V = .bool (x.any p):=by
 obtain⟨F,O⟩:=S;refine bv func211 Z (λQ k l=>?_);have H:=Sep.start (aC O ba);refine aG 70210 ?_;refine sE func82 Z (lD (H.Ae 0 Z) h g j (λW a=>G W (H.ext.trans a))) H (λW a H=>sR 2 Z (rN k Z ?_));exact⟨H.ext,by rw[<- nX]⟩

theorem lJ{w:ä}{s:A0}(e:s.ok=ã):am 97 [s.v] w λv W=>v = ag (s.Data+s.Af):=by
 have S:=bm e;refine bv func97 Z (λQ h N=>?_);have H:=Sep.start (w:=w) (F:=[]) σ;refine aT (ci aB Z H (λH a b c d=>aX 83803288107300 d ?_));exact rT h Z ⟨d.ext,Z⟩

theorem go{w:ä}{s:A0}(e:s.ok=ã):am 22 [s.v] w λv W=>v = ag (s.Data+s.Af):=by
 have S:=bm e;refine bv func22 Z (λQ h N=>?_);have H:=Sep.start (w:=w) (F:=[]) σ;refine aT (ci aB Z H (λH a b c d=>aX 83803288107300 d ?_));exact rT h Z ⟨d.ext,Z⟩

theorem fB{w:ä}{s:A0}(e:s.ok=ã):am 63 [s.v] w λv W=>v = ag (s.Data*4):=by
 have S:=bm e;refine bv œ Z (λQ h N=>?_);have H:=Sep.start (w:=w) (F:=[]) σ;refine aT (ci aB Z H (λH a b c d=>aX 287212828964 d ?_));exact rT h Z ⟨d.ext,Z⟩

theorem gI{w:ä}{s:A0}(e:s.ok=ã):am 93 [s.v] w λv W=>v = ag (s.Data*4):=by
 have S:=bm e;refine bv func93 Z (λQ h N=>?_);have H:=Sep.start (w:=w) (F:=[]) σ;refine aT (ci aB Z H (λH a b c d=>aX 287212828964 d ?_));exact rT h Z ⟨d.ext,Z⟩

theorem iI{w:ä}{s:A0}(e:s.ok=ã):am 193 [s.v,ag x] w λv W=>v = .bool (ins x 0 (s.Rows-1)):=by
 have S:=bm e;refine bv func193 Z (λQ h N=>?_);have H:=Sep.start (w:=w) (F:=[]) σ;refine aT (ci aB Z H (λH a b c d=>aX 193063784740 d ?_));exact sE Ĳ Z cT d (λH a b=>sA Z (aH (rT h Z ⟨b.ext,Z⟩)))

theorem iu{w:ä}{s:A0}(e:s.ok=ã):am 50 [s.v,ag x] w λv W=>v = .bool (ins x 0 (s.A2-1)):=by
 have S:=bm e;refine bv func50 Z (λQ h N=>?_);have H:=Sep.start (w:=w) (F:=[]) σ;refine aT (ci aB Z H (λH a b c d=>aX 193063784740 d ?_));exact sE Ĳ Z cT d (λH a b=>sA Z (aH (rT h Z ⟨b.ext,Z⟩)))

theorem iL{w:ä}{s:A0}{l:Int}(f:s.ok=ã)(L:Ak l):am 53 [s.v,ag l] w λv W=>v = .tuple #[ag (oB s l),ag (dL s l)]:=by
 have S:=bm f;unfold Ak at L;refine bv func53 Z (λQ e N=>?_);have H:=Sep.start (w:=w) (F:=[]) σ;refine aT (ci aB Z H (λH a b c d=>br 42745275719 (λH=>?_) (λH=>?_)))
 .refine aT (sR 2 Z (aH (dY (e _ _ (r4 Z ?_)))));obtain⟨b,a⟩:=H0 (s:=s) H;exact⟨d.ext,by rw[b,a]⟩
 have g:=Jb (s:=s) (a:=l) ω ω;refine aX 17702908206 d ?_;refine sE func93 Z (gI η) d (λc a d=>sV Z (KM Z Z ω iO) (br 42745275724 (λc=>?_) (λc=>?_)))
 .refine aT (sR 2 Z (aH (dY (e _ _ (r4 Z ?_)))));have p:=(EG (s:=s) (a:=l) ω ω).1 ω;obtain⟨b,a⟩:=FM (s:=s) H p;exact⟨d.ext,by rw[b,a]⟩
 refine aG 291118 ?_;refine dY (e _ _ (r4 Z ?_));have p:¬ 3*(s.Data*4)<l:=λh=>absurd ((EG (s:=s) (a:=l) ω ω).2 h) ω
 obtain⟨b,a⟩:=LJ (s:=s) H p;exact⟨d.ext,by rw[b,a];rfl⟩

theorem rP{w:ä}{s:A0}{l:Int}(e:s.ok=ã):am 76 [s.v,ag l] w λv W=>v = ag (dL s l):=by
 have S:=bm e;refine bv func76 Z (λQ h N=>?_);have H:=Sep.start (w:=w) (F:=[]) σ;refine aT (ci aB Z H (λH a b c d=>br 2671579732 (λH=>?_) (λH=>?_)))
 .exact aT (sA Z (aH (rT h Z ⟨d.ext,by rw[(H0 (s:=s) H).1]⟩)))
 refine aX 69145182 d ?_;refine sE œ Z (fB η) d (λa b c=>br 166974175 (λa=>?_) (λa=>?_))
 .exact aT (sA Z (aH (rT h Z ⟨c.ext,by rw[(FM (s:=s) H ω).1]⟩)))
 exact bi (aT (sA Z (aH (rT h Z ⟨c.ext,by rw[(LJ (s:=s) H ω).1]⟩))))

theorem d7{w:ä}{s:A0}{l:Int}(m:s.ok=ã)(L:1<=l/\l<=1000):am 158 [s.v,ag l] w λv W=>v = ag (dd s l):=by
 have S:=bm m;have n:=Jb (s:=s) (a:=l) ω ω;have q:(l+s.Data*4-1).tdiv (s.Data*4)=dd s l:=EE ω ω;unfold dd at q;refine bv func158 Z (λQ k N=>?_);have H:=Sep.start (w:=w) (F:=[]) σ;refine aT (ci aB Z H (λH a b c d=>sA Z (aH (aW (ep d (oQ [1,3,11,4,7,9,12,15,16]) (λH e=>aX 106915323 e ?_))))));refine dC œ Z (fB η) (λH a f=>?_);obtain⟨g,rfl⟩:=f;have h:=e.to g;refine aG 5305599 ?_;refine dC œ Z (fB η) (λH a i=>?_);obtain⟨j,rfl⟩:=i;have H:=h.to j;exact dV Z (λz x=>KM Z Z ω iO) (dD Z aB Z (cr Z) (dO (rT k Z ⟨H.ext,by rw[EE ω ω]⟩)))

theorem wa{w:ä}{x:List (List Drive)}(S:aj w M x N):am 138 [ak M x N] w λv W=>v = ag x.length:=by
 obtain⟨F,X⟩:=S;refine bv func138 Z (λQ h a=>?_);have H:=Sep.start (aC X ba);refine aG 1124012610 ?_;exact rT h Z ⟨H.ext,Z⟩

theorem BL{w:ä}{x:List Drive}(S:aj w M x N):am 139 [ak M x N] w λv W=>v = ag x.length:=by
 obtain⟨F,X⟩:=S;refine bv func139 Z (λQ h a=>?_);have H:=Sep.start (aC X ba);refine aG 1124012610 ?_;exact rT h Z ⟨H.ext,Z⟩

theorem BP{w:ä}{x:List Block}(S:aj w M x N):am 140 [ak M x N] w λv W=>v = ag x.length:=by
 obtain⟨F,X⟩:=S;refine bv func140 Z (λQ h a=>?_);have H:=Sep.start (aC X ba);refine aG 1124012610 ?_;exact rT h Z ⟨H.ext,Z⟩

theorem gp{w:ä}{x:List UInt8}(S:aj w M x N):am 70 [ak M x N] w λv W=>v = ag x.length:=by
 obtain⟨F,X⟩:=S;refine bv func70 Z (λQ h a=>?_);have H:=Sep.start (aC X ba);refine aG 1124012610 ?_;exact rT h Z ⟨H.ext,Z⟩

theorem iT{w:ä}(X:aj w M R N):am 45 [ak M R N] w λv W=>v = ag R.length:=by
 obtain⟨F,x⟩:=X;refine bv func45 Z (λQ h a=>?_);have H:=Sep.start (aC x ba);refine aG 1124012610 ?_;exact rT h Z ⟨H.ext,Z⟩

theorem wd{w:ä}{x:List Rec}(S:aj w M x N):am 134 [ak M x N] w λv W=>v = ag x.length:=by
 obtain⟨F,X⟩:=S;refine bv func134 Z (λQ h a=>?_);have H:=Sep.start (aC X ba);refine aG 1124012610 ?_;exact rT h Z ⟨H.ext,Z⟩

theorem yn{W:ä}{x:List UInt8}(S:aj W M x N)(Y:aj W f ys w):am 237 [ak M x N,ak f ys w] W λv b=>v = .bool (decide (x=ys)):=by
 obtain⟨F,X⟩:=S;obtain⟨c,y⟩:=Y;refine bv func237 Z (λQ h a=>?_);have H:=Sep.start (aC X (aC y ba));refine aG 4674 ?_;refine sV Z (OB cJ tu5 tu9 Z (H.Ab 0 Z)) (sM Z (sV Z (OB cJ tu5 tu9 Z (H.Ab 1 Z)) (sV Z (xM Z Z) (rA h Z Z ?_))));exact⟨H.ext,by simp[Hb,OF]⟩

theorem nL{W:ä}{y:List Int}(x:aj W M R N)(Y:aj W f y w):am 236 [ak M R N,ak f y w] W λv r=>v = .bool (decide (R=y)):=by
 have L:=sL x;obtain⟨s,X⟩:=x;have u:=sL Y;obtain⟨t,O⟩:=Y;refine bv func236 Z (λQ l o=>?_);have H:=Sep.start (aC X (aC O ba));refine br 0x9f3d2ff12ff12542 (λa=>?_) (λa=>?_)
 .refine aT (sA Z (aH (rT l Z (⟨H.ext,?_⟩))));rw[a8 (λe=>by subst e;exact a rfl)]
 refine aG 7641065525854 ?_;refine dr (a:=Nat) H [(0,_),(1,_),(12,_)] bf (λk=>[(13,ag k)]) (λk=>k<=R.length/\(∀i,i<k->R.getD i 0=y.getD i 0)) (λk=>R.length-k) 0 ⟨Z,trivial⟩ ⟨ω,λi n=>by omega⟩ (λk H b ⟨p,m⟩=>?_);dsimp only[jf,lNA];refine br 10441682 (λH=>?_) (λH=>?_)
 .obtain⟨H,a,c,F⟩:=dW (b.Ab 0 Z) k ω;have H:=gM (b.Ab 0 Z) k ω;obtain⟨H,a,F,g⟩:=dW (b.Ab 1 Z) k ω;have H:=gM (b.Ab 1 Z) k ω;refine aG 22567481182 ?_;refine ep b (oQ [1,3,5,7,9,11,13,15,16]) (λH h=>dR 2 Z (dV Z (λz q=>bR cS ts2 Z c k ω ω) (br 0x9f04f70f5cf62fbb5cf (λj=>?_) (λj=>?_))))
  .refine aT (sA Z (aH (rT l Z (⟨h.ext,?_⟩))));rw[a8 (λe=>by subst e;exact j rfl)]
  refine aG 203886 ?_;refine⟨k+1,bf,⟨h,ω,λi n=>?_⟩,θ⟩
  by_cases e:i=k
  .subst e
   simpa using j
  exact m i ω
 refine bu (aT (sA Z (aH (rT l Z (⟨b.ext,?_⟩)))));rw[aU (js (d:=0) ω λi n=>m i ω)]

theorem τ2 {p:Prop}(h:p:=by exact λzw hx=>bd cu Z cH Z):p:=h
theorem τ8 {p:Prop}(h:p:=by exact λzw hx=>bd cu Z ts2 Z):p:=h
theorem υ0 {p:Prop}(h:p:=by exact λzw hx=>bd cu Z eF Z):p:=h
theorem υ4 {p:Prop}(h:p:=by exact λzw hx=>dJ Z Z):p:=h
theorem υ9 {p:Prop}(h:p:=by exact λzw hx=>fL Z Z):p:=h
theorem vW{w:ä}{s:A0}{r:Rec}(P:r.Ok)(G:aj w J r.Rows I)(T:aj w K r.Data E)(U:aj w B r.Ad o)(W:s.ok=ã):am 191 [s.v,r.val J I K E B o] w λv X=>v = ag (Bt s r):=by
 have H:=P;unfold Rec.Ok at H
 try unfold Ak at H
 try unfold Ë at H
 have H:r.Name.size<=Ë:=by unfold Ë;omega
 have H:=sL G;obtain⟨H,a⟩:=G;obtain⟨H,b⟩:=T;obtain⟨H,c⟩:=U;refine bv func191 Z (λQ A V=>?_);have H:=Sep.start (aC a (aC b (aC c ba)));refine aT (ci aB Z H (λH a b c d=>ci aB Z d (λH a b c d=>sA Z (aH (aW (aT (sF cu Z ts9 (sLd tu9 (d.box 1 Z) Z (sE func40 Z (kV η) d (λH a b=>sA Z (aH (aT (sR 2 Z (aH (l9 Z (λH=>?_) (λH=>?_))))))))))))))))
 .exact aT (sR 2 Z (aH (rT A Z ⟨b.ext,congrArg (é .i64) (DZ ω).symm⟩)))
 refine bi (aW (aT (sF cu Z ts2 (sLd tu2 (b.box 1 Z) Z (sV Z (ji Z Z) (aH (l9 Z (λH=>?_) (λH=>?_))))))))
 .refine aW (aT (sF cu Z cH (sLd cJ (b.box 1 Z) Z (sV Z (od cJ Z) (sR 2 Z (cU 4 (j:=4) (E:=â) (t:=29) Z (λH a=>bc (wgE Z H) Z (bd cu Z eF Z) (bc (wgE Z H) Z (bp cS Z (bD (b.box 1 Z) Z)) (bc (wgE Z H) Z (od cS Z) (bc (wgE Z H) Z (pG Z Z) (a _ _ (kx Z (kx Z (kx Z (kx Z k0)))) Z Ext.refl))))) (λH a=>?_)))))));have H:=b.to a;refine sV Z (ko Z Z) (aH (gG Z (λa=>?_) (λa=>?_)))
  .refine aT (rA A Z Z ?_);exact⟨H.ext,congrArg (é .i64) (r5 ω (by rw[Do ω];by_cases L:r.Data=[]<;>by_cases M:r.Rows=[]<;>simp_all)).symm⟩
  refine bi (aT (rA A Z Z ?_));exact⟨H.ext,congrArg (é .i64) (uE ω (by rw[Do ω];by_cases L:r.Data=[]<;>by_cases M:r.Rows=[]<;>simp_all)).symm⟩
 refine bi (aT (sV Z (eB kB Z lZ Z (At.whole (b.box 0 Z))) (sF cu Z ts2 (sLd tu2 (b.box 1 Z) Z (sE func53 Z (iL η gQ) b (λH a b=>sR 5 Z (aH (aW (aT (sR 2 Z (aH (l9 Z (λH=>?_) (λH=>?_)))))))))))))
 .exact aT (sA Z (aH (rT A Z ⟨b.ext,congrArg (é .i64) (r5 ω (Fv ω ω)).symm⟩)))
 refine bi (aW (eE (S:=Ext No _) (oQ [1,3,7,9,4,11,13,15,17,19,21,23,24]) κ κ κ Z τ6 (λH=>?_)));have e:=b.drawn H;refine dV Z τ2 (dV Z (λF C=>bp cJ Z (bD (C.heap (e.box 1 Z)) Z)) (dV Z τ8 (dV Z (λF C=>bp tu2 Z (bD (C.heap (e.box 1 Z)) Z)) (dC func70 Z (gp (e.Ae 1 Z)) (λH a f=>?_)))));obtain⟨g,rfl⟩:=f;have i:=e.to g;refine dR 2 Z (dU (t:=46) Z (λm=>?_) (λm=>?_))
 .replace m:=φ m
  refine eS Z (wg Z) Z υ0 (eS Z (wg Z) Z (λF C=>bp cS Z (bD (C.heap (e.box 1 Z)) Z)) (eS Z (wg Z) Z (λF C=>od cS Z) (eS Z (wg Z) Z (λF C=>ji Z Z) (dV Z υ4 (dD Z aB Z (cr Z) (dO (aT (sF cu Z cH (sLd cJ (i.box 1 Z) Z (sV Z (od cJ Z) (sR 2 Z (cU 5 (j:=4) (E:=ã) (t:=61) Z (λH a=>bc (wgE Z H) Z (bd cu Z eF Z) (bc (wgE Z H) Z (bp cS Z (bD (i.box 1 Z) Z)) (fD (wgE Z H) Z (pcK func45 Z) (iT (i.Ae 0 Z)) (λb c=>bc (wgE Z H) Z (bL Z) (bc (wgE Z H) Z (ji Z Z) (a _ _ (kx Z (kx Z (kx Z (kx Z (kx Z k0))))) Z (Ext.refl.trans c))))))) (λH a=>?_)))))))))))));have H:=i.to a;refine sV Z (cX Z) (sA Z (aH (aW (aT (sF cu Z eF (sLd cS (H.box 1 Z) Z (sV Z (od cS Z) (sM Z (aH (bP (dr (a:=Nat) H [(2,_),(3,_),(4,_),(8,_),(64,_),(65,_)] ⟨Z,Z,Z,Z,Z,Z,trivial⟩ (λk=>[(9,.bool (decide ((r.Data.length:Int)=0) && decide ((r.Rows.length:Int)=dd s r.Length) && (õ k).all (apartAt r.Rows (s.Rows-1)))),(66,ag k)]) (λk=>k<=r.Rows.length/\True) (λk=>r.Rows.length-k) 0 ⟨eqB (by simp[u3 (show dL s r.Length=0 by omega)]),Z,trivial⟩ ⟨ω,trivial⟩ (λk H n ⟨N,_⟩=>?_))))))))))));dsimp only[jf,lNA];refine aT (sV Z (AI Z Z) (aH (aW (l9 Z (λH=>?_) (λH=>?_)))))
  .refine bi (aW (bP (aW ?_)));obtain⟨H,a,b,c⟩:=dW (n.Ab 0 Z) k ω;refine ce (sM Z (sV Z (bR cS ts2 Z b k ω ω) (sV Z (bp tu2 Z c) (sR 2 Z (aH (ce (sR 2 Z (cZ (t:=72) Z (λO=>?_) (λO=>?_)))))))))
   .replace O:=φ O
    refine bc (wg Z) Z (eB kB Z lZ Z (At.whole (n.box 0 Z))) (bc (wg Z) Z (bL Z) (dE (wg Z) Z (pcK func193 Z) (iI η) (λH a p=>?_)));obtain⟨q,rfl⟩:=p;have d:=n.to q;refine sV Z (dJ Z Z) (sM Z (cZ (t:=77) Z (λu=>?_) (λu=>?_)))
    .replace u:=φ u
     refine bc (wg Z) Z (bd cu Z eF Z) (bc (wg Z) Z (bp cS Z (bD (d.box 1 Z) Z)) (bc (wg Z) Z (bL Z) ?_));have H:=di (d.Ab 0 Z);obtain⟨H,a,b⟩:=fG (d.Ab 0 Z) (0) (k) _ ω ω ω (aN _);have x:=d.look1 0 Z a b;have H:=fb (x:=r.Rows) (l:=0) (h:=k) ω;refine bc (wg Z) Z (fW cS ts2 Z (k) ω ω H) ((bc (wg Z) Z (bL Z) (dE (wg Z) Z (pcK func80 Z) (eV (x.Ae 3 Z)) (λH a y=>?_))));obtain⟨z,rfl⟩:=y;have H:=x.to z;refine bc (wg Z) Z (cj Z) (sV Z (dJ Z Z) (sA Z (aH (ce (sV Z (jr Z Z iO) (sM Z (aH (⟨k+1,⟨eqB (by simp only[r7,apartAt,ky,<- Õ,O,u,Þ,Ę]),Z,Z,Z,Z,Z,Z,Z,trivial⟩,⟨(H.Aq 3),ω,trivial⟩,θ⟩))))))))
    replace u:=φ u
    refine sR 7 Z (sV Z (fL Z Z) (sA Z (aH (ce (sV Z (jr Z Z iO) (sM Z (aH (⟨k+1,⟨eqB (by simp only[r7,apartAt,ky,<- Õ,O,u,Þ,Ę]),Z,Z,Z,Z,Z,Z,Z,trivial⟩,⟨d,ω,trivial⟩,θ⟩))))))))
   replace O:=φ O
   refine sR 3 Z (sV Z (fL Z Z) (sR 8 Z (sV Z (fL Z Z) (sA Z (aH (ce (sV Z (jr Z Z iO) (sM Z (aH (⟨k+1,⟨eqB (by simp only[r7,apartAt,ky,<- Õ,O,Þ,Ę]),Z,Z,Z,Z,Z,Z,Z,trivial⟩,⟨n,ω,trivial⟩,θ⟩))))))))))
  refine bu (aW (aW ?_));obtain rfl:k=r.Rows.length:=by omega
  have D:=Lz (s:=s) (r:=r) ω ω (aU m).symm Z Z Z;simp only[Þ,Ę,Bool.false_or] at D;refine ce (sM Z (sV Z (BU Z) (sM Z (cU 2 (j:=2) (E:=ã) (t:=91) Z (λH a=>bc (wgE Z H) Z (bL Z) (bc (wgE Z H) Z (cj Z) (a _ _ (kx Z (kx Z k0)) Z Ext.refl))) (λH a=>?_)))));have H:=n.to a;refine sV Z (cX Z) (aH (gG Z (λa=>?_) (λa=>?_)))
  .refine aT (rA A Z Z ?_);exact⟨H.ext,congrArg (é .i64) (r5 ω (by rw[<- D];exact fX (by rw[Bool.not_or,<- decide_not];exact a))).symm⟩
  refine bi (aT (rA A Z Z ?_));exact⟨H.ext,congrArg (é .i64) (uE ω (by rw[<- D];exact not_false (by rw[Bool.not_or,<- decide_not];exact a))).symm⟩
 replace m:=φ m
 refine dR 4 Z (dV Z υ9 (dD Z aB Z (cr Z) (dO (aT (sF cu Z cH (sLd cJ (i.box 1 Z) Z (sV Z (od cJ Z) (sR 2 Z (cU 5 (j:=4) (E:=ã) (t:=61) Z (λH a=>bc (wgE Z H) Z (bd cu Z eF Z) (bc (wgE Z H) Z (bp cS Z (bD (i.box 1 Z) Z)) (fD (wgE Z H) Z (pcK func45 Z) (iT (i.Ae 0 Z)) (λb c=>bc (wgE Z H) Z (bL Z) (bc (wgE Z H) Z (ji Z Z) (a _ _ (kx Z (kx Z (kx Z (kx Z (kx Z k0))))) Z (Ext.refl.trans c))))))) (λH a=>?_))))))))));have H:=i.to a;refine sV Z (cX Z) (sA Z (aH (aW (aT (sF cu Z eF (sLd cS (H.box 1 Z) Z (sV Z (od cS Z) (sM Z (aH (bP (dr (a:=Nat) H [(2,_),(3,_),(4,_),(8,_),(64,_),(65,_)] ⟨Z,Z,Z,Z,Z,Z,trivial⟩ (λk=>[(9,.bool (decide ((r.Data.length:Int)=0) && decide ((r.Rows.length:Int)=dd s r.Length) && (õ k).all (apartAt r.Rows (s.Rows-1)))),(66,ag k)]) (λk=>k<=r.Rows.length/\True) (λk=>r.Rows.length-k) 0 ⟨eqB (by simp[u3 (show dL s r.Length=0 by omega)]),Z,trivial⟩ ⟨ω,trivial⟩ (λk H d ⟨N,_⟩=>?_))))))))))));dsimp only[jf,lNA];refine aT (sV Z (AI Z Z) (aH (aW (l9 Z (λH=>?_) (λH=>?_)))))
 .refine bi (aW (bP (aW ?_)));obtain⟨H,a,b,c⟩:=dW (d.Ab 0 Z) k ω;refine ce (sM Z (sV Z (bR cS ts2 Z b k ω ω) (sV Z (bp tu2 Z c) (sR 2 Z (aH (ce (sR 2 Z (cZ (t:=72) Z (λe=>?_) (λe=>?_)))))))))
  .replace e:=φ e
   refine bc (wg Z) Z (eB kB Z lZ Z (At.whole (d.box 0 Z))) (bc (wg Z) Z (bL Z) (dE (wg Z) Z (pcK func193 Z) (iI η) (λH a f=>?_)));obtain⟨g,rfl⟩:=f;have i:=d.to g;refine sV Z (dJ Z Z) (sM Z (cZ (t:=77) Z (λn=>?_) (λn=>?_)))
   .replace n:=φ n
    refine bc (wg Z) Z (bd cu Z eF Z) (bc (wg Z) Z (bp cS Z (bD (i.box 1 Z) Z)) (bc (wg Z) Z (bL Z) ?_));have H:=di (i.Ab 0 Z);obtain⟨H,a,b⟩:=fG (i.Ab 0 Z) (0) (k) _ ω ω ω (aN _);have O:=i.look1 0 Z a b;have H:=fb (x:=r.Rows) (l:=0) (h:=k) ω;refine bc (wg Z) Z (fW cS ts2 Z (k) ω ω H) ((bc (wg Z) Z (bL Z) (dE (wg Z) Z (pcK func80 Z) (eV (O.Ae 3 Z)) (λH a p=>?_))));obtain⟨q,rfl⟩:=p;have H:=O.to q;refine bc (wg Z) Z (cj Z) (sV Z (dJ Z Z) (sA Z (aH (ce (sV Z (jr Z Z iO) (sM Z (aH (⟨k+1,⟨eqB (by simp only[r7,apartAt,ky,<- Õ,e,n,Þ,Ę]),Z,Z,Z,Z,Z,Z,Z,trivial⟩,⟨(H.Aq 3),ω,trivial⟩,θ⟩))))))))
   replace n:=φ n
   refine sR 7 Z (sV Z (fL Z Z) (sA Z (aH (ce (sV Z (jr Z Z iO) (sM Z (aH (⟨k+1,⟨eqB (by simp only[r7,apartAt,ky,<- Õ,e,n,Þ,Ę]),Z,Z,Z,Z,Z,Z,Z,trivial⟩,⟨i,ω,trivial⟩,θ⟩))))))))
  replace e:=φ e
  refine sR 3 Z (sV Z (fL Z Z) (sR 8 Z (sV Z (fL Z Z) (sA Z (aH (ce (sV Z (jr Z Z iO) (sM Z (aH (⟨k+1,⟨eqB (by simp only[r7,apartAt,ky,<- Õ,e,Þ,Ę]),Z,Z,Z,Z,Z,Z,Z,trivial⟩,⟨d,ω,trivial⟩,θ⟩))))))))))
 refine bu (aW (aW ?_));obtain rfl:k=r.Rows.length:=by omega
 have D:=Lz (s:=s) (r:=r) ω ω (a8 m).symm Z Z Z;simp only[Þ,Ę,Bool.false_or] at D;refine ce (sM Z (sV Z (cj Z) (sM Z (bc (wg Z) Z (bL Z) (bc (wg Z) Z (cj Z) (sV Z (dJ Z Z) (aH (gG Z (λH=>?_) (λH=>?_)))))))))
 .refine aT (rA A Z Z ?_);exact⟨d.ext,congrArg (é .i64) (r5 ω (by rw[<- D];exact fX (id H))).symm⟩
 refine bi (aT (rA A Z Z ?_));exact⟨d.ext,congrArg (é .i64) (uE ω (by rw[<- D];exact not_false (id H))).symm⟩
theorem vX{w:ä}{s:A0}{r:Rec}(u:r.Ok)(R:aj w J r.Rows I)(x:aj w K r.Data E)(y:aj w B r.Ad o)(q:s.ok=ã)(z:0<=r.Group/\r.Group<s.A2+s.A5)(p:∀i,i<r.Rows.length->0<=r.Rows.getD i 0/\r.Rows.getD i 0<s.A2+s.A5):am 170 [s.v,r.val J I K E B o] w λv W=>v = .bool (weightsOK s r):=by
 have H:=cx u;have H:=sL R;obtain⟨H,a⟩:=R;obtain⟨H,b⟩:=x;obtain⟨H,c⟩:=y;have S:=bm q;refine bv func170 Z (λQ l N=>?_);have H:=Sep.start (aC a (aC b (aC c ba)));refine aT (ci aB Z H (λH a b c d=>ci aB Z d (λH a b c d=>sA Z (aH (aW (aW (ep d (oQ [1,3,5,7,8,11,13,15,17,19,21,23,25,27,28]) (λH f=>aX 0x65f53f5bf52f f ?_))))))));refine dC ğ Z (cP η) (λH a g=>?_);obtain⟨h,rfl⟩:=g;have H:=f.to h;refine dR 2 Z (dU (t:=12) Z (λa=>?_) (λa=>?_))
 .replace a:=φ a
  refine aG 87389610093226 ?_;exact eL Z (aT (sA Z (aH (rT l Z ⟨H.ext,congrArg ó ((Ky ω).symm)⟩))))
 replace a:=φ a
 obtain⟨a,b,c,d⟩:=dN (f.Ab 2 Z) r.Group.toNat ω;refine ge 0x9f04f7bfb8fc8fcffc7fbefc7fbef f (λa=>?_) (λa=>?_)
 .exact aT (sA Z (aH (rT l Z ⟨H.ext,congrArg ó ((Ee ω).symm)⟩)))
 refine aG 7291486 ?_;refine dr (a:=Nat) H [(3,_)] ⟨Z,trivial⟩ (λk=>[(5,ag k)]) (λk=>k<=r.Rows.length/\(∀i,i<k->¬ ((r.Ad.getD (r.Rows.getD i 0).toNat 0).toNat:Int)=0)) (λk=>r.Rows.length-k) 0 ⟨Z,trivial⟩ ⟨ω,λi n=>by omega⟩ (λk H j ⟨A,m⟩=>?_);dsimp only[jf,lNA];refine ge 0x9f3d2ff37f9125 j (λH=>?_) (λH=>?_)
 .have C:=p k ω;obtain⟨H,a,b,c⟩:=dW (j.Ab 0 Z) k ω;have H:=gM (j.Ab 0 Z) k ω;obtain⟨H,a,c,d⟩:=dN (j.Ab 2 Z) (r.Rows.getD k 0).toNat ω;refine bi (aW (bP (aW (ep j (oQ [1,3,5,7,9,11,13,15,17,18]) (λH a=>aX 0xb5bf52f5bf52f a ?_)))));refine dV Z (λF D=>bR cS ts2 Z b k ω ω) (br 0x9f04f70f5cf63f5cf (λH=>?_) (λH=>?_))
  .exact aT (sA Z (aH (rT l Z ⟨a.ext,congrArg ó ((CB k ω H).symm)⟩)))
  refine aG 311662 ?_;refine⟨k+1,bf,⟨a,ω,λi n=>?_⟩,θ⟩
  by_cases e:i=k
  .subst e
   assumption
  exact m i ω
 exact bu (aT (sA Z (aH (rT l Z ⟨j.ext,congrArg ó ((Ft ω ω (λi n=>m i ω)).symm)⟩))))

theorem ka{w:ä}{r:Rec}(g:r.Ok)(R:aj w J r.Rows I)(e:aj w K r.Data E)(f:aj w B r.Ad o):am 171 [r.val J I K E B o] w λv W=>v = .bool (qF r):=by
 obtain⟨H,a⟩:=R;obtain⟨H,b⟩:=e;obtain⟨H,c⟩:=f;refine bv func171 Z (λQ h N=>?_);have H:=Sep.start (aC a (aC b (aC c ba)));refine aT (ci aB Z H (λH a b c d=>aX 79980656932 d ?_));refine cU 3 (j:=3) (E:=ã) (t:=9) Z (λH a=>ld 39990852015 d H a) (λH a=>?_);have H:=d.to a;refine sV Z (cX Z) (sM Z (cU 3 (j:=8) (E:=ã) (t:=14) Z (λa b=>ld 39990852015 H a b) (λa b=>?_)));have a:=H.to b;refine sV Z (cX Z) (sM Z (cU 3 (j:=13) (E:=ã) (t:=19) Z (λH b=>ld 39990852015 a H b) (λH b=>?_)));have H:=a.to b;refine sV Z (cX Z) (sM Z (cU 4 (j:=18) (E:=ã) (t:=25) Z (λa b=>ld 0x94f9bfa3f9af H a b) (λa b=>?_)));have a:=H.to b;refine sV Z (cX Z) (sM Z (cU 4 (j:=24) (E:=ã) (t:=31) Z (λH b=>ld 0x94f9bfa3f9af a H b) (λH b=>?_)));have H:=a.to b;refine sV Z (cX Z) (sM Z (cU 4 (j:=30) (E:=ã) (t:=37) Z (λa b=>ld 0x94f9bfa3f9af H a b) (λa b=>?_)));have a:=H.to b;refine sV Z (cX Z) (rA h Z Z ?_);exact⟨a.ext,congrArg ó (by simp only[qF,noName,Hb,Õ];simp)⟩

theorem qd{w:ä}(X:aj w M R N):am 114 [ak M R N,ag m] w λv W=>v = .bool (apartL R m):=by
 have L:=sL X;obtain⟨F,O⟩:=X;refine bv func114 Z (λQ q u=>?_);have H:=Sep.start (aC O ba);refine aG 116663618 ?_;refine dr (a:=Nat) H [(0,_),(1,_)] bf (λk=>[(5,ag k)]) (λk=>k<=R.length/\(∀i,i<k->apartAt R m i=ã)) (λk=>R.length-k) 0 ⟨Z,trivial⟩ ⟨ω,λi s=>by omega⟩ (λk H a ⟨y,r⟩=>?_);dsimp only[jf,lNA];refine br 0x9f3d2ff1125 (λH=>?_) (λH=>?_)
 .obtain⟨H,b,c,d⟩:=dW (a.Ab 0 Z) k ω;have H:=gM (a.Ab 0 Z) k ω;refine bi (aW (bP (aW (ep a (oQ [1,3,5,7,9,10,13,15,17,19,21,23,25,27,29,30,32]) (λH f=>aG 48804278203 ?_)))));refine dC Ĥ Z cV (λH b g=>?_);obtain⟨j,rfl⟩:=g;have H:=f.to j;refine dV Z (λz x=>cj Z) (dM Z (dU (t:=19) Z (λb=>?_) (λb=>?_)))
  .replace b:=φ b
   refine aG 0x4f7affefaaaaaaa ?_;refine eL Z (aT (rA q Z Z ?_));exact⟨H.ext,congrArg ó ((sG k ω F1).symm)⟩
  replace b:=φ b
  have b:=di (H.Ab 0 Z);obtain⟨b,c,d⟩:=fG (H.Ab 0 Z) (0) (k) _ ω ω ω (aN _);have n:=H.look1 0 Z c d;have H:=fb (x:=R) (l:=0) (h:=k) ω;refine eS Z (wg Z) Z (λz x=>bL Z) (eS Z (wg Z) Z (λz x=>bL Z) (eS Z (wg Z) Z (λz x=>fW cS ts2 Z (k) ω ω H) (aG 0xc8fcefb4fb4f ?_)));refine cb Z (wg Z) Z (pcK func162 Z) (ly (n.Ae 1 Z)) τ1 (λH b o=>?_);obtain⟨p,rfl⟩:=o;have H:=n.to p;refine br 2936338367 (λb=>?_) (λb=>?_)
  .refine aT (rA q Z Z ?_);exact⟨H.ext,congrArg ó ((sG k ω F1).symm)⟩
  refine aG 311662 ?_;refine⟨k+1,bf,⟨(H.Aq 1),ω,λi s=>?_⟩,θ⟩
  by_cases e:i=k
  .subst e;simp only[apartAt,ky] at *;simp_all
  exact r i ω
 exact bu (aT (sA Z (aH (rT q Z ⟨a.ext,congrArg ó ((jn λi s=>r i ω).symm)⟩))))

theorem zY{w:ä}{s:A0}{r:Rec}(p:r.Ok)(q:aj w J r.Rows I)(R:aj w K r.Data E)(u:aj w B r.Ad o)(n:s.ok=ã):am 168 [s.v,r.val J I K E B o] w λv W=>v = .bool (fZ s r):=by
 have H:=cx p;obtain⟨H,a⟩:=q;have H:=sL R;obtain⟨H,b⟩:=R;obtain⟨H,c⟩:=u;have S:=bm n;refine bv func168 Z (λQ m N=>?_);have H:=Sep.start (aC a (aC b (aC c ba)));refine aT (ci aB Z H (λH a b c d=>ci aB Z d (λH a b c d=>ge 0x9f3d37f9254 d (λH=>?_) (λH=>?_))))
 .refine aX 125358538642 d ?_;refine cU 4 (j:=4) (E:=ã) (t:=16) Z (λH a=>ld 0x94f9bfa3f9af d H a) (λH a=>?_);have H:=d.to a;refine sV Z (cX Z) (rA m Z Z ?_);exact⟨H.ext,congrArg ó (by rw[Do ω];simp)⟩
 refine aX 240405049950 d ?_;refine sE func76 Z (rP η) d (λH a b=>br 40765 (λH=>?_) (λH=>?_))
 .exact aT (sA Z (aH (rT m Z ⟨b.ext,congrArg ó ((Fv ω ω).symm)⟩)))
 refine ge 0x9f3d2ff37f925e b (λH=>?_) (λH=>?_)
 .refine aX 8224317715480466 b ?_;refine cU 4 (j:=6) (E:=ã) (t:=37) Z (λH a=>ld 0x94f9bfa3f9af b H a) (λH a=>?_);have H:=b.to a;refine sV Z (cX Z) (rA m Z Z ?_);exact⟨H.ext,congrArg ó (by rw[wX ω ω,ae ω];simp)⟩
 have z:=fV (s:=s) (a:=r.Length) ω;refine bi (aW (ep b (oQ [1,3,5,7,9,11,12,15,17,19,21,23,25,27,28,31,32]) (λH e=>aX 0x5bf52f65f53f5bf52f e ?_)));refine dC func158 Z (d7 η ω) (λH a f=>?_);obtain⟨g,rfl⟩:=f;have h:=e.to g;refine dR 2 Z (dU (t:=47) Z (λi=>?_) (λi=>?_))
 .replace i:=φ i
  refine aX 0xbcfc7fbefc7fbef e ?_;refine cb Z (wg Z) Z (pcK func114 Z) (qd (h.Ae 0 Z)) τ1 (λH a k=>?_);obtain⟨l,rfl⟩:=k;have H:=h.to l;refine dV Z υ4 (dD Z aB Z (cr Z) (dO (rT m Z ?_)));exact⟨H.ext,congrArg ó (by rw[wX ω ω,ac ω];simp_all)⟩
 replace i:=φ i
 refine aG 0x4f6df57ffefaaaaa ?_;refine rT m Z ?_;exact⟨h.ext,congrArg ó (by rw[wX ω ω,ac ω];simp_all)⟩

theorem sS{w:ä}{e:Nat}{r:Rec}(f:w.heap[e]? = á (aA r J I K E B o))(k:r.Ok)(g:aj w J r.Rows I)(i:aj w K r.Data E)(R:aj w B r.Ad o)(j:0<=x/\x<r.Ad.length):am 235 [ag x,au e] w λv W=>v = .bool (decide (((r.Ad.getD (x).toNat 0).toNat:Int)=0)):=by
 obtain⟨H,a⟩:=g;obtain⟨H,b⟩:=i;have H:=sL R;obtain⟨H,c⟩:=R;refine bv func235 Z (λQ h N=>?_);have H:=Sep.start (dc f (aC a (aC b (aC c ba))));obtain⟨a,b,c,d⟩:=dN (H.Ab 3 Z) x.toNat ω;refine aX 0x4d38f3ff137f9242 H ?_;exact rT h Z ⟨H.ext,Z⟩

theorem ux{w:ä}{s:A0}{r:Rec}(rK:r.Ok)(d_:aj w J r.Rows I)(e_:aj w K r.Data E)(v:aj w B r.Ad o)(Y:s.ok=ã):am 192 [s.v,r.val J I K E B o] w λf_ w'=>f_ = ag (if gT s r=ã then 0 else 3):=by
 have H:=cx rK;obtain⟨H,a⟩:=d_;obtain⟨H,b⟩:=e_;have H:=sL v;obtain⟨H,c⟩:=v;have i_:=bm Y;refine bv func192 Z (λh_ Q hN=>?_);have H:=Sep.start (aC a (aC b (aC c ba)));refine aT (ci aB Z H (λH d e a b=>ci aB Z b (λH a b c f=>sA Z (aH (aW (ep f (oQ [1,3,5,6,9,11,13,15,16,19,21,23,25,27,28,30,33,35,37,39,43,40,44,47,49,51,53,55,59,56,60,63,65,66]) (λH g=>aX 24684721759 g ?_)))))));refine dC func43 Z (fS η) (λH a h=>?_);obtain⟨a_,rfl⟩:=h;have l:=g.to a_;refine dM Z (dU (t:=10) Z (λm=>?_) (λm=>?_))
 .replace m:=φ m
  refine aX 53682830623 g ?_;refine cb Z (wg Z) Z (pcK func193 Z) (iI η) τ1 (λH a n=>?_);obtain⟨c_,rfl⟩:=n;have q:=l.to c_;refine dV Z υ4 (dM Z (dU (t:=16) Z (λu=>?_) (λu=>?_)))
  .replace u:=φ u
   refine aX 56367774703 g ?_;refine cb Z (wg Z) Z (pcK func21 Z) (gy η) τ1 (λH a x=>?_);obtain⟨g_,rfl⟩:=x;have z:=q.to g_;refine cb Z (wg Z) Z (pcK func233 Z) (yI (z.Ae 0 Z) ω) τ1 (λH a A=>?_);obtain⟨y,rfl⟩:=A;have C:=z.to y;refine dV Z υ4 (dM Z (dU (t:=23) Z (λD=>?_) (λD=>?_)))
   .replace D:=φ D
    refine aX 56367774703 g ?_;refine cb Z (wg Z) Z (pcK func70 Z) (gp (C.Ae 1 Z)) τ1 (λH a S=>?_);obtain⟨F,rfl⟩:=S;have G:=C.to F;refine cb Z (wg Z) Z (pcK func93 Z) (gI η) τ1 (λH a T=>?_);obtain⟨U,rfl⟩:=T;have k:=G.to U;refine aG 190249871 ?_;refine dU (t:=31) Z (λL=>?_) (λL=>?_)
    .replace L:=φ L
     refine aX 56367774703 g ?_;refine cb Z (wg Z) Z (pcK func70 Z) (gp (k.Ae 2 Z)) τ1 (λH a M=>?_);obtain⟨N,rfl⟩:=M;have O:=k.to N;refine cb Z (wg Z) Z (pcK func21 Z) (gy η) τ1 (λH a P=>?_);obtain⟨R,rfl⟩:=P;have H:=O.to R;refine aG 0x5504f6df56fb8f ?_
     try have j:=bH.1 m
     refine aG 1273622 ?_;refine cZ (t:=41) Z (λa=>?_) (λa=>?_)
     .replace a:=φ a
      refine aG 3517452945544 ?_;exact eL Z (aT (sA Z (aH (rT Q Z ⟨H.ext,congrArg (é .i64) (ac (by simp[gT,weightsOK,-ï,m,u,D,L,a])).symm⟩))))
     replace a:=φ a
     obtain⟨b,c,f,g⟩:=dN (H.Ab 2 Z) r.Group.toNat ω;refine ge 0x9f333f94fa4fabfa3f9afa3f9af H (λb=>?_) (λb=>?_)
     .exact aT (sA Z (aH (rT Q Z ⟨H.ext,congrArg (é .i64) (ac (by simp[gT,Ee b])).symm⟩)))
     have V:(r.Ad.length:Int)=s.A2+s.A5:=by omega
     refine bi (aW (aW ?_));have W:∀i,i<r.Rows.length->0<=r.Rows.getD i 0/\r.Rows.getD i 0<r.Ad.length:=λi X=>by have:=pi D i X;omega
     refine aX 229270 H ?_;refine sV Z (qo Z) (sE func234 Z (rD (H.Ae 0 Z) (p:=(λb_=>decide (((r.Ad.getD (b_).toNat 0).toNat:Int)=0))) func235 Z K3 (λd e b c=>sS ((H.to e).box 1 Z) η ((H.to e).Ae 0 Z) ((H.to e).Ae 1 Z) ((H.to e).Ae 2 Z) (W b c))) H (λH b c=>aH (gG Z (λH=>?_) (λH=>?_))))
     .exact aT (sA Z (aH (rT Q Z ⟨c.ext,congrArg (é .i64) (ac (by simp[gT,Kd η])).symm⟩)))
     refine bi (aT (rA Q Z Z ?_));exact⟨c.ext,congrArg (é .i64) (ae (by rw[gT,IR V ω η];simp[m,u,D,L,a])).symm⟩
    replace L:=φ L
    refine aG 0x5504f6df57fafeffefaaa ?_
    try have j:=bH.1 m
    refine ce (sM Z (sV Z (cj Z) (aG 56279247128705 ?_)));exact eL Z (aT (sA Z (aH (rT Q Z ⟨k.ext,congrArg (é .i64) (ac (by simp[gT,weightsOK,-ï,m,u,D,L])).symm⟩))))
   replace D:=φ D
   refine aG 0x5504f6df57fafeffefaaab57fafeffefaaa ?_
   try have j:=bH.1 m
   refine ce (sM Z (sV Z (cj Z) (aG 56279247128705 ?_)));exact eL Z (aT (sA Z (aH (rT Q Z ⟨C.ext,congrArg (é .i64) (ac (by simp[gT,weightsOK,-ï,m,u,D])).symm⟩))))
  replace u:=φ u
  refine aG 0x5504f6df57fafeffefaaab57fafeffefaaab57ffeffefaaa ?_
  try have j:=bH.1 m
  refine ce (sM Z (sV Z (cj Z) (aG 56279247128705 ?_)));exact eL Z (aT (sA Z (aH (rT Q Z ⟨q.ext,congrArg (é .i64) (ac (by simp[gT,weightsOK,-ï,m,u])).symm⟩))))
 replace m:=φ m
 refine aG 0x5504f6df57fafeffefaaab57fafeffefaaab57ffeffefaaab57ffefaaa ?_
 try have j:=bH.1 m
 refine ce (sM Z (sV Z (cj Z) (aG 56279247128705 ?_)));exact eL Z (aT (sA Z (aH (rT Q Z ⟨l.ext,congrArg (é .i64) (ac (by simp[gT,weightsOK,-ï,m])).symm⟩))))

theorem τ {p:Prop}(h:p:=by exact λ_ h e _=>h.trans (e.mono λ_ _ q=>by simp[q])):p:=h
theorem wA{w:ä}{r:Rec}(s:r.Ok)(R:aj w J r.Rows I)(p:aj w K r.Data E)(q:aj w B r.Ad o):am 195 [r.val J I K E B o] w λv W=>∃A C k m l n,v=(jB r).val A C k m l n/\Ag W [.slice A (jB r).Rows.length C] (jB r).Rows/\Ag W [.slice k (jB r).Data.length m] (jB r).Data/\Ag W [.slice l (jB r).Ad.length n] (jB r).Ad:=by
 obtain⟨H,a⟩:=R;obtain⟨H,b⟩:=p;obtain⟨H,c⟩:=q;refine bv func195 Z (λQ j N=>?_);have H:=Sep.start (aC a (aC b (aC c ba)));refine aT (ci aB Z H (λH a b c d=>cz aB Z Ä d (λH a b c d=>aX 240404396323 d ?_)));refine sV Z (bM eD Z Z) (cz aB Z Ä d (λH a b c d=>bw aB cy Z d 2 Z (λa b c=>ge 0x9f4d206f337f9253 c (λa=>?_) (λa=>?_))))
 .refine eE (S:=Ext (· ∈ [H]) _) (oQ [1,3,5,7,9,11,13,15,17,18,21,22,25,26,29,30]) κ κ κ Z τ6 (λb=>?_);have d:=c.drawn b;refine dV Z (λz h=>bd cu Z ts9 Z) (dV Z (λz h=>bp tu9 Z (bD (h.heapM (d.Bh 0 Z 2 Z) (d.box 0 Z)) Z)) (dV Z τ8 (dV Z (λz h=>bp tu2 Z (bD (h.heapM (d.Bh 0 Z 2 Z) (d.box 0 Z)) Z)) (dV Z τ2 (dV Z (λz h=>bp cJ Z (bD (h.heapM (d.Bh 0 Z 2 Z) (d.box 0 Z)) Z)) (dV Z υ0 (dV Z (λz h=>bp cS Z (bD (h.heapM (d.Bh 0 Z 2 Z) (d.box 0 Z)) Z)) (dV Z (λz h=>bd cu Z ts9 Z) (dm Z aB ts9 Z d 2 Z τ (λb d f=>dV Z τ8 (dm Z aB ts2 Z f 2 Z τ (λb d f=>dV Z τ2 (dm Z aB cH Z f 2 Z τ (λb d f=>?_))))))))))))));replace f:=bt f;refine dV Z υ0 (dm Z aB eF Z f 2 Z τ (λb d f=>aX 69148751 f ?_));refine bw aB cy Z f 1 Z (λb d f=>aH (dT j (f.box 1 Z) Z ?_));have e:jB r=_:=SD a;refine⟨f.ext,?_⟩;rw[e];exact⟨_,_,_,_,_,_,Z,(f.Ae 0 Z),(f.Ae 1 Z),⟨[],.inr (.inl ⟨Z,Z,Z⟩)⟩⟩
 refine br 652498 (λb=>?_) (λb=>?_)
 .refine eE (S:=Ext (· ∈ [H]) _) (oQ [1,3,5,7,9,11,13,15,17,18,21,22,25,26,29,30]) κ κ κ Z τ6 (λd=>?_);have f:=c.drawn d;refine dV Z τ8 (dV Z (λz h=>bp tu2 Z (bD (h.heapM (f.Bh 0 Z 2 Z) (f.box 0 Z)) Z)) (dV Z τ8 (dV Z (λz h=>bp tu2 Z (bD (h.heapM (f.Bh 0 Z 2 Z) (f.box 0 Z)) Z)) (dV Z τ2 (dV Z (λz h=>bp cJ Z (bD (h.heapM (f.Bh 0 Z 2 Z) (f.box 0 Z)) Z)) (dV Z τ2 (dV Z (λz h=>bp cJ Z (bD (h.heapM (f.Bh 0 Z 2 Z) (f.box 0 Z)) Z)) (dV Z τ8 (dm Z aB ts2 Z f 2 Z τ (λd f g=>dV Z τ8 (dm Z aB ts2 Z g 2 Z τ (λd f g=>?_))))))))))));replace g:=bt g;refine dV Z τ2 (dm Z aB cH Z g 2 Z τ (λd f g=>dV Z τ2 (dm Z aB cH Z g 2 Z τ (λd f g=>aX 69148751 g ?_))));refine bw aB cy Z g 1 Z (λd f g=>aH (dT j (g.box 1 Z) Z ?_));have e:jB r=_:=RI a b;refine⟨g.ext,?_⟩;rw[e];exact⟨_,_,_,_,_,_,Z,⟨[],.inr (.inl ⟨Z,Z,Z⟩)⟩,(g.Ae 1 Z),(g.Ae 2 Z)⟩
 refine br 652498 (λd=>?_) (λd=>?_)
 .refine aX 9666454 c ?_;refine cL aB ts2 Z c 2 Z (λf g i=>?_);replace i:=bt i;refine aX 270115 i ?_;refine bw aB cy Z i 1 Z (λf g i=>aH (dT j (i.box 1 Z) Z ?_));have e:jB r=_:=Sz a b d;refine⟨i.ext,?_⟩;rw[e];exact⟨_,_,_,_,_,_,Z,⟨[],.inr (.inl ⟨Z,Z,Z⟩)⟩,⟨[],.inr (.inl ⟨Z,Z,Z⟩)⟩,⟨[],.inr (.inl ⟨Z,Z,Z⟩)⟩⟩
 refine br 652498 (λf=>?_) (λf=>?_)
 .refine eE (S:=Ext (· ∈ [H]) _) (oQ [1,3,5,7,9,11,13,15,17,19,21,22,25,26,29,30,33,34,37,38]) κ κ κ Z τ6 (λH=>?_);have g:=c.drawn H;refine dV Z τ8 (dV Z (λz h=>bp tu2 Z (bD (h.heapM (g.Bh 0 Z 2 Z) (g.box 0 Z)) Z)) (dV Z τ8 (dV Z (λz h=>bp tu2 Z (bD (h.heapM (g.Bh 0 Z 2 Z) (g.box 0 Z)) Z)) (dV Z υ0 (dV Z (λz h=>bp cS Z (bD (h.heapM (g.Bh 0 Z 2 Z) (g.box 0 Z)) Z)) (dV Z τ2 (dV Z (λz h=>bp cJ Z (bD (h.heapM (g.Bh 0 Z 2 Z) (g.box 0 Z)) Z)) (dV Z τ2 (dV Z (λz h=>bp cJ Z (bD (h.heapM (g.Bh 0 Z 2 Z) (g.box 0 Z)) Z)) (dV Z τ8 (dm Z aB ts2 Z g 2 Z τ (λH g i=>dV Z τ8 (dm Z aB ts2 Z i 2 Z τ (λH g i=>dV Z υ0 (dm Z aB eF Z i 2 Z τ (λH g i=>?_))))))))))))))));replace i:=bt i;refine dV Z τ2 (dm Z aB cH Z i 2 Z τ (λH g i=>dV Z τ2 (dm Z aB cH Z i 2 Z τ (λH g i=>aX 69148751 i ?_))));refine bw aB cy Z i 1 Z (λH g i=>aH (dT j (i.box 1 Z) Z ?_));have e:jB r=_:=R9 a b d f;refine⟨i.ext,?_⟩;rw[e];exact⟨_,_,_,_,_,_,Z,(i.Ae 0 Z),(i.Ae 1 Z),(i.Ae 2 Z)⟩
 refine aX 270126 c ?_;refine bw aB cy Z c 1 Z (λH c g=>?_);replace g:=bt g;refine aH (dT j (g.box 1 Z) Z ?_);have e:jB r=_:=RJ a b d f;refine⟨g.ext,?_⟩;rw[e];exact⟨_,_,_,_,_,_,Z,⟨[],.inr (.inl ⟨Z,Z,Z⟩)⟩,⟨[],.inr (.inl ⟨Z,Z,Z⟩)⟩,⟨[],.inr (.inl ⟨Z,Z,Z⟩)⟩⟩

theorem qE{w:ä}{a b:Rec}{A i k B o p:Option ô}{l m n q r s:Nat}(K:a.Ok)(u:aj w A a.Rows l)(x:aj w i a.Data m)(y:aj w k a.Ad n)(F:b.Ok)(z:aj w B b.Rows q)(C:aj w o b.Data r)(D:aj w p b.Ad s):am 194 [a.val A l i m k n,b.val B q o r p s] w λv W=>v = .bool (decide (a=b)):=by
 obtain⟨H,c⟩:=u;obtain⟨H,d⟩:=x;obtain⟨H,e⟩:=y;obtain⟨H,f⟩:=z;obtain⟨H,g⟩:=C;obtain⟨H,h⟩:=D;refine bv func194 Z (λQ E N=>?_);have H:=Sep.start (aC c (aC d (aC e (aC f (aC g (aC h ba))))));refine aT (ci aB Z H (λH c d e f=>ci aB Z f (λH c d e f=>aX 32126241601828 f ?_)));refine cU 5 (j:=5) (E:=ã) (t:=15) Z (λH c=>ld 0x94fa3f9afa3f9af f H c) (λH c=>?_);have H:=f.to c;refine sV Z (cX Z) (sM Z (cU 5 (j:=12) (E:=ã) (t:=22) Z (λc d=>ld 0x95fa3f9afa3f9af H c d) (λc d=>?_)));have c:=H.to d;refine sV Z (cX Z) (sM Z (cU 5 (j:=19) (E:=ã) (t:=29) Z (λH d=>ld 0x94fa3f9afa3f9af c H d) (λH d=>?_)));have H:=c.to d;refine sV Z (cX Z) (sM Z (cU 5 (j:=26) (E:=ã) (t:=36) Z (λc d=>ld 0x94fa3f9afa3f9af H c d) (λc d=>?_)));have c:=H.to d;refine sV Z (cX Z) (sM Z (cU 5 (j:=33) (E:=ã) (t:=43) Z (λH d=>ld 0x94fa3f9afa3f9af c H d) (λH d=>?_)));have H:=c.to d;refine sV Z (cX Z) (sM Z (cU 5 (j:=40) (E:=ã) (t:=50) Z (λc d=>bc (wgE Z c) Z (bd cu Z eF Z) (bc (wgE Z c) Z (bp cS Z (bD (H.box 0 Z) Z)) (bc (wgE Z c) Z (bd cu Z eF Z) (bc (wgE Z c) Z (bp cS Z (bD (H.box 1 Z) Z)) (fD (wgE Z c) Z (pcK func236 Z) (nL (H.Ae 0 Z) (H.Ae 3 Z)) (λc e=>d _ _ gP Z (Ext.refl.trans e))))))) (λc d=>?_)));have c:=H.to d;refine sV Z (cX Z) (sM Z (cU 5 (j:=47) (E:=ã) (t:=57) Z (λH d=>bc (wgE Z H) Z (bd cu Z cH Z) (bc (wgE Z H) Z (bp cJ Z (bD (c.box 0 Z) Z)) (bc (wgE Z H) Z (bd cu Z cH Z) (bc (wgE Z H) Z (bp cJ Z (bD (c.box 1 Z) Z)) (fD (wgE Z H) Z (pcK func237 Z) (yn (c.Ae 1 Z) (c.Ae 4 Z)) (λH e=>d _ _ gP Z (Ext.refl.trans e))))))) (λH d=>?_)));have H:=c.to d;refine sV Z (cX Z) (sM Z (cU 5 (j:=54) (E:=ã) (t:=64) Z (λc d=>bc (wgE Z c) Z (bd cu Z cH Z) (bc (wgE Z c) Z (bp cJ Z (bD (H.box 0 Z) Z)) (bc (wgE Z c) Z (bd cu Z cH Z) (bc (wgE Z c) Z (bp cJ Z (bD (H.box 1 Z) Z)) (fD (wgE Z c) Z (pcK func237 Z) (yn (H.Ae 2 Z) (H.Ae 5 Z)) (λc e=>d _ _ gP Z (Ext.refl.trans e))))))) (λc d=>?_)));have c:=H.to d;refine sV Z (cX Z) (rA E Z Z ?_);exact⟨c.ext,congrArg ó (by rw[<- JE];simp only[Õ])⟩

theorem wH{w:ä}{s:A0}{r:Rec}(T:r.Ok)(U:aj w J r.Rows I)(V:aj w K r.Data E)(W:aj w B r.Ad o)(hs:s.ok=ã):am 146 [s.v,r.val J I K E B o] w λv w'=>v = ag (recF s r):=by
 have H:=cx T;obtain⟨H,a⟩:=U;obtain⟨H,b⟩:=V;obtain⟨H,c⟩:=W;refine bv func146 Z (λQ M Y=>?_);have H:=Sep.start (aC a (aC b (aC c ba)));refine aT (ci aB Z H (λH a b c d=>ci aB Z d (λH a b c d=>aG 1060 ?_)));refine Hc (b:=Unit) d [(3,_)] ⟨Z,trivial⟩ (λ_=>[(5,ag (fm s r))]) (λ_=>ins r.Kind 1 4=ã/\ins r.Seq 1 1000000000=ã) ?_ (λ_ H e ⟨L,S⟩=>?_)
 .refine aX 939073647 d ?_;refine sE Ĳ Z cT d (λH a b=>sV Z (cj Z) (br 2804 (λf=>?_) (λf=>?_)))
  .exact aT (sA Z (aH (rT M Z ⟨b.ext,congrArg (é .i64) (vi (fX f)).symm⟩)))
  refine aX 229266 b ?_;refine sE Ĳ Z cT b (λH a b=>sV Z (cj Z) (br 2804 (λg=>?_) (λg=>?_)))
  .exact aT (sA Z (aH (rT M Z ⟨b.ext,congrArg (é .i64) (xJ (not_false f) (fX g)).symm⟩)))
  refine ge 42762207122 b (λH=>?_) (λH=>?_)
  .refine aX 69157366 b ?_;refine sE func191 Z (vW η (b.Ae 0 Z) (b.Ae 1 Z) (b.Ae 2 Z) η) b (λa c d=>?_);have h:=bH.1 (not_false f);exact sA Z (aH ⟨(),⟨eqI (pL H).symm,Z,trivial⟩,d,not_false f,not_false g⟩)
  refine ge 42762207122 b (λH=>?_) (λH=>?_)
  .refine aX 69157366 b ?_;refine sE func192 Z (ux η (b.Ae 0 Z) (b.Ae 1 Z) (b.Ae 2 Z) η) b (λH a c=>?_);have h:=bH.1 (not_false f);exact sA Z (aH ⟨(),⟨eqI (g9 ω).symm,Z,trivial⟩,c,not_false f,not_false g⟩)
  refine ge 42762207122 b (λH=>?_) (λH=>?_)
  .refine aX 939082226 b ?_;refine sE func43 Z (fS η) b (λH a c=>sV Z (cj Z) (aH (gG Z (λH=>?_) (λH=>?_))))
   .have h:=bH.1 (not_false f);exact ce (sA Z (aH ⟨(),⟨eqI (we ω (fX H)).symm,Z,trivial⟩,c,not_false f,not_false g⟩))
   have h:=bH.1 (not_false f);exact bi ⟨(),⟨eqI (qX ω (not_false H)).symm,Z,trivial⟩,c,not_false f,not_false g⟩
  refine aW (ep b (oQ [1,3,5,6,9,11,13,15,17,18,21,23,25,27,29,33,30,34,37,39,41,43,45,49,46,50,53,55,56]) (λH i=>aX 24684721759 i ?_));refine dC func50 Z (iu η) (λH a j=>?_);obtain⟨k,rfl⟩:=j;have l:=i.to k;refine dV Z (λO N=>cj Z) (dM Z (dU (t:=45) Z (λH=>?_) (λH=>?_)))
  .replace H:=φ H
   refine aG 0x4f6df56fafeffefaaab56fafeffefaaab56fafefaaa ?_;refine eL Z ?_;have h:=bH.1 (not_false f);exact ce (sA Z (aH ⟨(),⟨eqI (iA ω pP).symm,Z,trivial⟩,l,not_false f,not_false g⟩))
  replace H:=φ H
  refine aX 53682830623 i ?_;refine cb Z (wg Z) Z (pcK func193 Z) (iI η) τ1 (λH a m=>?_);obtain⟨n,rfl⟩:=m;have b:=l.to n;refine eS Z (wg Z) Z (λO N=>cj Z) (dV Z υ9 (dM Z (dU (t:=52) Z (λH=>?_) (λH=>?_))))
  .replace H:=φ H
   refine aG 0x4f6df56fafeffefaaab56fafeffefaaa ?_;refine eL Z ?_;have h:=bH.1 (not_false f);exact ce (sA Z (aH ⟨(),⟨eqI (iA ω pP).symm,Z,trivial⟩,b,not_false f,not_false g⟩))
  replace H:=φ H
  refine aX 56367774703 i ?_;refine cb Z (wg Z) Z (pcK func70 Z) (gp (b.Ae 1 Z)) τ1 (λH a R=>?_);obtain⟨p,rfl⟩:=R;have d:=b.to p;refine cb Z (wg Z) Z (pcK func93 Z) (gI η) τ1 (λH a q=>?_);obtain⟨u,rfl⟩:=q;have c:=d.to u;refine aG 190315407 ?_;refine dU (t:=60) Z (λH=>?_) (λH=>?_)
  .replace H:=φ H
   refine aG 0x4f6df56fafeffefaaa ?_;refine eL Z ?_;have h:=bH.1 (not_false f);exact ce (sA Z (aH ⟨(),⟨eqI (iA ω pP).symm,Z,trivial⟩,c,not_false f,not_false g⟩))
  replace H:=φ H
  refine aX 56367774703 i ?_;refine cb Z (wg Z) Z (pcK func70 Z) (gp (c.Ae 2 Z)) τ1 (λH a x=>?_);obtain⟨y,rfl⟩:=x;have i:=c.to y;refine cb Z (wg Z) Z (pcK func93 Z) (gI η) τ1 (λH a j=>?_);obtain⟨z,rfl⟩:=j;have H:=i.to z;refine br 0x9f04f6df57fb8f (λa=>?_) (λa=>?_)
  .have h:=bH.1 (not_false f);exact ce (sA Z (aH ⟨(),⟨eqI (iA ω pP).symm,Z,trivial⟩,H,not_false f,not_false g⟩))
  have h:=bH.1 (not_false f);exact bi ⟨(),⟨eqI (qK ω pP).symm,Z,trivial⟩,H,not_false f,not_false g⟩
 dsimp only[jf,lNA];refine aW (aW (ep e (oQ [1,3,5,7,9,10,12,15,16]) (λH e=>dR 3 Z (dU (t:=70) Z (λf=>?_) (λf=>?_)))))
 .replace f:=φ f
  refine aX 13761823 e ?_;refine cb Z (wg Z) Z (pcK func195 Z) (wA η (e.Ae 0 Z) (e.Ae 1 Z) (e.Ae 2 Z)) τ1 (λH a g=>?_);obtain⟨h,k,l,m,n,A,X,rfl,C,D,P⟩:=g;have b:=e.to h;refine cb Z (wg Z) Z (pcK func194 Z) (qE η (b.Ae 0 Z) (b.Ae 1 Z) (b.Ae 2 Z) (Qs η) C D P) τ1 (λH a F=>?_);obtain⟨G,rfl⟩:=F;have H:=b.to G;refine eS Z (wg Z) Z (λO N=>cj Z) (br 2936338351 (λa=>?_) (λa=>?_))
  .refine aG 266822 ?_;refine rT M Z ?_;exact⟨H.ext,congrArg (é .i64) ((oY L S ω (by rw[<- DH (bH.1 L)];exact fX a)).trans Z).symm⟩
  refine aG 16686 ?_;refine rT M Z ?_;exact⟨H.ext,congrArg (é .i64) ((lA L S ω (by rw[<- DH (bH.1 L)];exact not_false a)).trans ω).symm⟩
 replace f:=φ f
 refine aG 0x4f7bfafeffefaa ?_;refine gW Z (aG 16686 ?_);exact rT M Z ⟨e.ext,congrArg (é .i64) (iF L S ω).symm⟩

theorem Nf{w:ä}: am 214 [.slice A 0 C,ag (0:Nat),ag (0:Nat),.func (.func X) #[] P.toArray] w λv W=>True:=by
 refine bv func214 Z (λQ b h=>?_);have H:=Sep.start (w:=w) (F:=[]) σ;refine aG 7293970 ?_;refine dr (a:=Unit) H [(0,_),(1,_),(2,_),(3,_)] bf (λ_=>[(8,ag (1:Nat))]) (λ_=>True/\True) (λ_=>0) () ⟨Z,trivial⟩ ⟨trivial,trivial⟩ (λ_ H a ⟨_,_⟩=>?_);dsimp only[jf,lNA];refine br 2671579429 (λH=>?_) (λH=>?_)
 .exfalso
  omega
 exact bu (h _ _ (pR Z ⟨a.ext,trivial⟩))

theorem Kt{w:ä}: am 213 [.slice A 0 C,ag (0:Nat),.func (.func X) #[] P.toArray] w λv W=>True:=by
 refine bv func213 Z (λQ d h=>?_);have H:=Sep.start (w:=w) (F:=[]) σ;refine aG 29884879426 ?_;refine dr (a:=Unit) H [(0,_),(1,_),(2,_),(6,_)] bf (λ_=>[(7,ag (0:Nat)),(8,ag (20:Nat))]) (λ_=>True/\True) (λ_=>0) () bf ⟨trivial,trivial⟩ (λ_ H a ⟨_,_⟩=>?_);dsimp only[jf,lNA];refine br 2671579429 (λH=>?_) (λH=>?_)
 .exfalso
  omega
 refine bu (aG 69906 ?_);refine sC func214 Z (Nf) (λH b c=>?_);have H:=a.to c.1;refine aH (bP (dr (a:=Unit) H [(0,_),(1,_),(2,_)] bf (λ_=>[(6,ag (20:Nat))]) (λ_=>True/\True) (λ_=>0) () ⟨Z,trivial⟩ ⟨trivial,trivial⟩ (λ_ H a ⟨_,_⟩=>?_)));dsimp only[jf,lNA];refine br 2671579429 (λH=>?_) (λH=>?_)
 .exfalso
  omega
 exact bu (h _ _ (pR Z ⟨a.ext,trivial⟩))

theorem nK{w:ä}: am 183 [ag x] w λv W=>v = .bool false:=by
 refine bv func183 Z (λQ h N=>?_);have H:=Sep.start (w:=w) (F:=[]) σ;refine aG 80810562 ?_;exact rT h Z ⟨H.ext,congrArg ó σ⟩

theorem jt{w:ä}(o:own ã w [.slice A n C] W L)(O:L.Nodup)(F:ê.funcs[X]? = á v)(G:v.body.isNone=â)(N:NG v)(E:∀f,Ext (· ∈ L) w f->∀(x y:Rec) (j:Option ô) (r:Nat) (k:Option ô) (s:Nat) (l:Option ô) (t:Nat) (B:Option ô) (D:Nat) (p:Option ô) (u:Nat) (q:Option ô) (z:Nat),Ret ê X (([x.val j r k s l t,y.val B D p u q z]:List è)++P).toArray f λV g=>Ext No f g/\V = ag (cfR x y))(I:0<W.length)(J:W.length<=1000000):Ret ê 175 #[.slice A n C,.func (.func X) #[] P.toArray] w λV g=>(∃h,Mut w g L [.slice A n C] h/\Stable kLt gD W h):=by
 obtain rfl:=gA o;obtain⟨H,a,c⟩:=gq o 0 ω;subst c;refine bv func175 Z (λQ R K=>?_);have H:=Sep.begin o O;refine aG 19919126 ?_;refine sC func213 Z (lC (m:=W.length) (H.A4 0 Z) (H.Aj (i:=0) Z) Z F G N (λf a=>E f (H.ext.step a λb M=>H.new b (H.inB 0 Z M))) Z I J) (λa f c=>?_);obtain⟨a,d,e⟩:=c;obtain⟨a,c⟩:=H.mut 0 Z d;exact aH (K _ _ (pR Z ⟨_,c.done,Pe e⟩))

theorem MQ{w:ä}: am 175 [.slice A 0 C,.func (.func X) #[] P.toArray] w λv W=>True:=by
 refine bv func175 Z (λQ d h=>?_);have H:=Sep.start (w:=w) (F:=[]) σ;refine aG 19919126 ?_;refine sC func213 Z (Kt) (λa b c=>?_);have a:=H.to c.1;exact aH (h _ _ (pR Z ⟨a.ext,trivial⟩))

theorem PE{w:ä}(o:own ã w [.slice A n C] W L)(N:L.Nodup)(H:ê.funcs[X]? = á v)(G:v.body.isNone=â)(s:NG v)(r:∀b,Ext (· ∈ L) w b->∀(x y:Rec) (d:Option ô) (k:Nat) (f:Option ô) (l:Nat) (g:Option ô) (m:Nat) (B:Option ô) (D:Nat) (i:Option ô) (p:Nat) (j:Option ô) (q:Nat),Ret ê X (([x.val d k f l g m,y.val B D i p j q]:List è)++P).toArray b λV a=>Ext No b a/\V = ag (cfR x y))(t:W.length<=1000000):Ret ê 175 #[.slice A n C,.func (.func X) #[] P.toArray] w λV a=>∃c,Mut w a L [.slice A n C] c/\Stable kLt gD W c:=by
 rcases Nat.eq_zero_or_pos W.length with e|e
 .obtain rfl:=List.eq_nil_of_length_eq_zero e;obtain rfl:=gA o;exact Ret.mono MQ λV a h=>⟨[],.none h.1 o N,Ke⟩
 exact jt o N H G s r e t

theorem jK{w:ä}{y:Int}: am 132 [ag x,ag y] w λv W=>v = ag (rW x y):=by
 refine bv func132 Z (λQ h N=>?_);have H:=Sep.start (w:=w) (F:=[]) σ;refine aG 4674 ?_;refine sE func183 Z nK H (λH a b=>sA Z (aH (aT (sM Z (sE func183 Z nK b (λH a b=>br 183702100 (λH=>?_) (λH=>?_)))))))
 .refine br 11481381 (λH=>?_) (λH=>?_)
  .refine aT (rA h Z Z ?_);exact⟨b.ext,congrArg (é .i64) zW⟩
  refine bi (aT (rA h Z Z ?_));exact⟨b.ext,congrArg (é .i64) zW⟩
 refine br 183702110 (λH=>?_) (λH=>?_)
 .refine aT (rA h Z Z ?_);exact⟨b.ext,congrArg (é .i64) zW⟩
 refine br 42745270878 (λH=>?_) (λH=>?_)
 .refine aT (rA h Z Z ?_);exact⟨b.ext,congrArg (é .i64) zW⟩
 refine br 42745270878 (λH=>?_) (λH=>?_)
 .refine aT (rA h Z Z ?_);exact⟨b.ext,congrArg (é .i64) zW⟩
 refine bi (aT (rA h Z Z ?_));exact⟨b.ext,congrArg (é .i64) zW⟩

theorem BR{w:ä}(x:aj w M R N):am 177 [ak M R N] w λv W=>v = ag (orI R):=by
 have L:=sL x;obtain⟨F,X⟩:=x;refine bv func177 Z (λQ f j=>?_);have H:=Sep.start (aC X ba);refine aG 0x6f312ff1254242 ?_;refine dr (a:=Nat) H [(3,_),(6,_),(7,_)] bf (λk=>[(8,ag k)]) (λk=>k<=R.length/\(∀i,i<k->R.getD i 0=0)) (λk=>R.length-k) 0 ⟨Z,trivial⟩ ⟨ω,λi g=>by omega⟩ (λk H a ⟨l,h⟩=>?_);dsimp only[jf,lNA];refine br 10441682 (λH=>?_) (λH=>?_)
 .obtain⟨H,b,c,d⟩:=dW (a.Ab 0 Z) k ω;have H:=gM (a.Ab 0 Z) k ω;refine br 0x9f3d112438f3ef206f5e (λH=>?_) (λH=>?_)
  .exact aT (sR 2 Z (aH (rT f Z ⟨a.ext,congrArg (é .i64) (QZ (k:=k) ω h H).symm⟩)))
  refine aG 203886 ?_;refine⟨k+1,bf,⟨a,ω,λi g=>?_⟩,θ⟩
  by_cases e:i=k
  .subst e
   omega
  exact h i ω
 exact bu (aT (sR 2 Z (aH (rT f Z ⟨a.ext,congrArg (é .i64) (SW (λi g=>h i ω)).symm⟩))))

theorem τ0 {p:Prop}(h:p:=by exact λ_ h e=>h.trans e.no):p:=h
theorem qb{w:ä}{x y:Rec}{X e z Y A B:Option ô}{C D E:Nat}: am 176 [x.val X e_ e f_ z g_,y.val Y C A D B E] w λv W=>v = ag (cfR x y):=by
 have H:=Hf (a:=x.Seq) (b:=y.Seq);have c:=Hf (a:=x.Kind) (b:=y.Kind);have d:=Hf (a:=x.Group) (b:=y.Group);refine bv func176 Z (λQ h N=>?_);have f:=Sep.start (w:=w) (F:=[]) σ;refine aT (ci aB Z f (λH H f g i=>ci aB Z i (λc H c f g=>sA Z (aH (aW (ep g (oQ [1,3,5,7,11,13,15,17,21,23,25,27,8,18,28,30,32,34]) (λH j=>aX 0x5bf52f5bf52f5bf52f5bf52f5bf52f5bf52f j ?_)))))));refine dC func132 Z jK (λH c k=>?_);obtain⟨l,rfl⟩:=k;have m:=j.to l;refine dC func132 Z jK (λH c n=>?_);obtain⟨o,rfl⟩:=n;have p:=m.to o;refine dC func132 Z jK (λH c q=>?_);obtain⟨r,rfl⟩:=q;have H:=p.to r;refine sJ ([rW x.Seq y.Seq,rW x.Kind y.Kind,rW x.Group y.Group]) Z aB Z U4 Qj Z Z fF σ σ H τ0 (λd H c d s=>dC func177 Z (BR (s.As 2 Z)) (λH c t=>?_));obtain⟨u,rfl⟩:=t;have H:=s.to u;exact dD Z aB Z (cr Z) (dO (rT h Z ⟨H.ext,congrArg (é .i64) U0⟩))

theorem BT{w:ä}{x r:Rec}{X g h:Option ô}{R:Nat}(p:x.Ok)(q:aj w X x.Rows e_)(s:aj w g x.Data f_)(t:aj w h x.Ad g_)(j:w.heap[R]? = á (aA r J I K E B o))(k:r.Ok)(l:aj w J r.Rows I)(m:aj w K r.Data E)(n:aj w B r.Ad o):am 212 [x.val X e_ g f_ h g_,au R] w λv W=>v = .bool (decide (x=r)):=by
 have H:=cx p;obtain⟨H,a⟩:=q;obtain⟨H,b⟩:=s;obtain⟨H,c⟩:=t;have H:=cx k;obtain⟨H,d⟩:=l;obtain⟨H,e⟩:=m;obtain⟨H,f⟩:=n;refine bv func212 Z (λQ i N=>?_);have H:=Sep.start (aC a (aC b (aC c (dc j (aC d (aC e (aC f ba)))))));refine aT (ci aB Z H (λH a b c d=>aX 1106517796 d ?_));exact sE func194 Z (qE η (d.Ae 0 Z) (d.Ae 1 Z) (d.Ae 2 Z) η (d.Ae 4 Z) (d.Ae 5 Z) (d.Ae 6 Z)) d (λH a b=>sA Z (aH (rT i Z ⟨b.ext,Z⟩)))

theorem Em{w:ä}{X:List Rec}{r:Rec}(S:aj w M X N)(R:r.Ok)(g:aj w J r.Rows I)(i:aj w K r.Data E)(j:aj w B r.Ad o):am 174 [ak M X N,r.val J I K E B o] w λv W=>v = .bool (decide (r∈X)):=by
 obtain⟨F,k⟩:=S;have H:=cx R;obtain⟨H,a⟩:=g;obtain⟨H,b⟩:=i;obtain⟨H,c⟩:=j;refine bv func174 Z (λQ h l=>?_);have H:=Sep.start (aC k (aC a (aC b (aC c ba))));exact aT (ci aB Z H (λH a b c d=>sA Z (aH (aT (sM Z (sV Z (qo Z) (sE func211 Z (tX (d.Ae 0 Z) (p:=(λx=>decide (x=r))) func212 Z Ki (λa b H a _ _ _ _ _ _ c O e f=>BT c O e f ((d.to b).box 0 Z) η ((d.to b).Ae 1 Z) ((d.to b).Ae 2 Z) ((d.to b).Ae 3 Z))) d (λH a b=>sA Z (aH (rT h Z ⟨b.ext,congrArg ó T1⟩))))))))))

theorem zd{W:ä}{y:List Int}(x:aj W M R N)(Y:aj W f y w):am 209 [ak M R N,ak f y w] W λv r=>v = .bool (decide (R=y)):=by
 have L:=sL x;obtain⟨s,X⟩:=x;have u:=sL Y;obtain⟨t,O⟩:=Y;refine bv func209 Z (λQ l o=>?_);have H:=Sep.start (aC X (aC O ba));refine br 0x9f3d2ff12ff12542 (λa=>?_) (λa=>?_)
 .refine aT (sA Z (aH (rT l Z (⟨H.ext,?_⟩))));rw[a8 (λe=>by subst e;exact a rfl)]
 refine aG 7291486 ?_;refine dr (a:=Nat) H [(0,_),(1,_)] bf (λk=>[(5,ag k)]) (λk=>k<=R.length/\(∀i,i<k->R.getD i 0=y.getD i 0)) (λk=>R.length-k) 0 ⟨Z,trivial⟩ ⟨ω,λi n=>by omega⟩ (λk H b ⟨p,m⟩=>?_);dsimp only[jf,lNA];refine br 0x9f3d2ff1125 (λH=>?_) (λH=>?_)
 .obtain⟨H,a,c,F⟩:=dW (b.Ab 0 Z) k ω;have H:=gM (b.Ab 0 Z) k ω;obtain⟨H,a,F,g⟩:=dW (b.Ab 1 Z) k ω;have H:=gM (b.Ab 1 Z) k ω;refine bi (aW (bP (aW (ep b (oQ [1,3,5,7,9,11,13,15,16]) (λH h=>dR 2 Z (dV Z (λz q=>bR cS ts2 Z c k ω ω) (br 0x9f04f70f5cf62fbb5cf (λj=>?_) (λj=>?_))))))))
  .refine aT (sA Z (aH (rT l Z (⟨h.ext,?_⟩))));rw[a8 (λe=>by subst e;exact j rfl)]
  refine aG 311662 ?_;refine⟨k+1,bf,⟨h,ω,λi n=>?_⟩,θ⟩
  by_cases e:i=k
  .subst e
   omega
  exact m i ω
 refine bu (aT (sA Z (aH (rT l Z (⟨b.ext,?_⟩)))));rw[aU (js (d:=0) ω λi n=>m i ω)]

theorem wj{W:ä}{x:List UInt8}(X:aj W M x N)(y:aj W f ys w):am 210 [ak M x N,ak f ys w] W λv r=>v = .bool (decide (x=ys)):=by
 have L:=sL X;obtain⟨s,O⟩:=X;have u:=sL y;obtain⟨t,Y⟩:=y;refine bv func210 Z (λQ l o=>?_);have H:=Sep.start (aC O (aC Y ba));refine br 0x9f3d2ff12ff12542 (λa=>?_) (λa=>?_)
 .refine aT (sA Z (aH (rT l Z (⟨H.ext,?_⟩))));rw[a8 (λe=>by subst e;exact a rfl)]
 refine aG 7291486 ?_;refine dr (a:=Nat) H [(0,_),(1,_)] bf (λk=>[(5,ag k)]) (λk=>k<=x.length/\(∀i,i<k->x.getD i 0=ys.getD i 0)) (λk=>x.length-k) 0 ⟨Z,trivial⟩ ⟨ω,λi n=>by omega⟩ (λk H b ⟨p,m⟩=>?_);dsimp only[jf,lNA];refine br 0x9f3d2ff1125 (λH=>?_) (λH=>?_)
 .obtain⟨H,a,c,F⟩:=dN (b.Ab 0 Z) k ω;obtain⟨H,a,F,g⟩:=dN (b.Ab 1 Z) k ω;refine bi (aW (bP (aW (ep b (oQ [1,3,5,7,9,11,13,15,16]) (λH h=>dR 2 Z (dV Z (λz q=>bR cJ ts5 Z c k ω ω) (br 0x9f04f70f5cf62fbb5cf (λj=>?_) (λj=>?_))))))))
  .refine aT (sA Z (aH (rT l Z (⟨h.ext,?_⟩))));rw[a8 (λe=>by subst e;exact j rfl)]
  refine aG 311662 ?_;refine⟨k+1,bf,⟨h,ω,λi n=>?_⟩,θ⟩
  by_cases e:i=k
  .subst e
   (apply oo.1;omega)
  exact m i ω
 refine bu (aT (sA Z (aH (rT l Z (⟨b.ext,?_⟩)))));rw[aU (js (d:=0) ω λi n=>m i ω)]

theorem ye{w:ä}{a b:Rec}{A i k B o p:Option ô}{l m n q r s:Nat}(K:a.Ok)(u:aj w A a.Rows l)(x:aj w i a.Data m)(y:aj w k a.Ad n)(F:b.Ok)(z:aj w B b.Rows q)(C:aj w o b.Data r)(D:aj w p b.Ad s):am 173 [a.val A l i m k n,b.val B q o r p s] w λv W=>v = .bool (decide (a=b)):=by
 obtain⟨H,c⟩:=u;obtain⟨H,d⟩:=x;obtain⟨H,e⟩:=y;obtain⟨H,f⟩:=z;obtain⟨H,g⟩:=C;obtain⟨H,h⟩:=D;refine bv func173 Z (λQ E N=>?_);have H:=Sep.start (aC c (aC d (aC e (aC f (aC g (aC h ba))))));refine aT (ci aB Z H (λH c d e f=>ci aB Z f (λH c d e f=>aX 32126241601828 f ?_)));refine cU 5 (j:=5) (E:=ã) (t:=15) Z (λH c=>ld 0x94fa3f9afa3f9af f H c) (λH c=>?_);have H:=f.to c;refine sV Z (cX Z) (sM Z (cU 5 (j:=12) (E:=ã) (t:=22) Z (λc d=>ld 0x95fa3f9afa3f9af H c d) (λc d=>?_)));have c:=H.to d;refine sV Z (cX Z) (sM Z (cU 5 (j:=19) (E:=ã) (t:=29) Z (λH d=>ld 0x94fa3f9afa3f9af c H d) (λH d=>?_)));have H:=c.to d;refine sV Z (cX Z) (sM Z (cU 5 (j:=26) (E:=ã) (t:=36) Z (λc d=>ld 0x94fa3f9afa3f9af H c d) (λc d=>?_)));have c:=H.to d;refine sV Z (cX Z) (sM Z (cU 5 (j:=33) (E:=ã) (t:=43) Z (λH d=>ld 0x94fa3f9afa3f9af c H d) (λH d=>?_)));have H:=c.to d;refine sV Z (cX Z) (sM Z (cU 5 (j:=40) (E:=ã) (t:=50) Z (λc d=>bc (wgE Z c) Z (bd cu Z eF Z) (bc (wgE Z c) Z (bp cS Z (bD (H.box 0 Z) Z)) (bc (wgE Z c) Z (bd cu Z eF Z) (bc (wgE Z c) Z (bp cS Z (bD (H.box 1 Z) Z)) (fD (wgE Z c) Z (pcK func209 Z) (zd (H.Ae 0 Z) (H.Ae 3 Z)) (λc e=>d _ _ gP Z (Ext.refl.trans e))))))) (λc d=>?_)));have c:=H.to d;refine sV Z (cX Z) (sM Z (cU 5 (j:=47) (E:=ã) (t:=57) Z (λH d=>bc (wgE Z H) Z (bd cu Z cH Z) (bc (wgE Z H) Z (bp cJ Z (bD (c.box 0 Z) Z)) (bc (wgE Z H) Z (bd cu Z cH Z) (bc (wgE Z H) Z (bp cJ Z (bD (c.box 1 Z) Z)) (fD (wgE Z H) Z (pcK func210 Z) (wj (c.Ae 1 Z) (c.Ae 4 Z)) (λH e=>d _ _ gP Z (Ext.refl.trans e))))))) (λH d=>?_)));have H:=c.to d;refine sV Z (cX Z) (sM Z (cU 5 (j:=54) (E:=ã) (t:=64) Z (λc d=>bc (wgE Z c) Z (bd cu Z cH Z) (bc (wgE Z c) Z (bp cJ Z (bD (H.box 0 Z) Z)) (bc (wgE Z c) Z (bd cu Z cH Z) (bc (wgE Z c) Z (bp cJ Z (bD (H.box 1 Z) Z)) (fD (wgE Z c) Z (pcK func210 Z) (wj (H.Ae 2 Z) (H.Ae 5 Z)) (λc e=>d _ _ gP Z (Ext.refl.trans e))))))) (λc d=>?_)));have c:=H.to d;refine sV Z (cX Z) (rA E Z Z ?_);exact⟨c.ext,congrArg ó (by rw[<- JE];simp only[Õ])⟩

theorem qi{w:ä}{X:List Rec}{r:Rec}(S:aj w M X N)(R:r.Ok)(O:aj w J r.Rows I)(P:aj w K r.Data E)(T:aj w B r.Ad o):am 118 [ak M X N,r.val J I K E B o] w λv w'=>v = .bool (decide (r∈X)):=by
 have f_:=sL S;obtain⟨e_,U⟩:=S;have H:=cx R;obtain⟨H,a⟩:=O;obtain⟨H,c⟩:=P;obtain⟨H,d⟩:=T;refine bv func118 Z (λQ u V=>?_);have H:=Sep.start (aC U (aC a (aC c (aC d ba))));refine aT (ci aB Z H (λH a c d f=>aG 7291476 ?_));refine dr (a:=Nat) f [(0,_),(3,_)] bf (λk=>[(5,ag k)]) (λk=>k<=X.length/\(∀i,i<k->decide (X.getD i à=r)=â)) (λk=>X.length-k) 0 ⟨Z,trivial⟩ ⟨ω,λi L=>by omega⟩ (λk H g ⟨W,y⟩=>?_);dsimp only[jf,lNA];refine br 0x9f3d2ff1125 (λH=>?_) (λH=>?_)
 .obtain⟨H,a,c,d,f,h,j,l,m⟩:=cR (g.Ab 0 Z) k ω;obtain⟨n,Y,p,a_,b_,c_,d_,x,g_,rfl,z,A,t,C,D⟩:=dX j;have H:=cx A;refine bi (aW (bP (aW ?_)));have H:=g.look1 0 Z t (λb hb=>l b tA);have a:=oL t;have a:=H.look1 0 Z C (λb hb=>l b tA);have H:=oL C;have H:=a.look1 0 Z D (λb hb=>l b tA);have a:=oL D;refine ep H (oQ [1,3,5,7,9,10]) (λH q=>aX 7006785515451 q ?_);refine dC func173 Z (ye η (q.Ae 4 Z) (q.Ae 5 Z) (q.Ae 6 Z) η (q.Ae 1 Z) (q.Ae 2 Z) (q.Ae 3 Z)) (λH a F=>?_);obtain⟨G,rfl⟩:=F;have H:=q.to G;refine dO (gG Z (λs=>?_) (λs=>?_))
  .exact aT (sA Z (aH (rT u Z ⟨H.ext,congrArg ó (SS (k:=k) ω (by simpa using s))⟩)))
  refine aG 311662 ?_;refine⟨k+1,bf,⟨(H.Aq 4),ω,λi L=>?_⟩,θ⟩
  by_cases e:i=k
  .subst e
   simpa using s
  exact y i ω
 exact bu (aT (sA Z (aH (rT u Z ⟨g.ext,congrArg ó (TU (λi L=>y i ω))⟩))))

theorem qz{w:ä}{x y:Rec}{X e f Y g i:Option ô}{j k l:Nat}: am 119 [x.val X e_ e f_ f g_,y.val Y j g k i l] w λv W=>v = .bool (decide (kLt (eQ x) (eQ y))):=by
 refine bv func119 Z (λQ h N=>?_);have H:=Sep.start (w:=w) (F:=[]) σ;refine aT (ci aB Z H (λH a b c d=>ci aB Z d (λH a b c d=>ge 0x9f3d37f937f9254 d (λH=>?_) (λH=>?_))))
 .refine aX 5306424983442 d ?_;refine rT h Z ?_;exact⟨d.ext,congrArg ó (decide_eq_decide.2 Hh)⟩
 refine ge 0x9f3d37f937f925e d (λH=>?_) (λH=>?_)
 .refine aX 5306424983442 d ?_;refine rT h Z ?_;exact⟨d.ext,congrArg ó (decide_eq_decide.2 Hh)⟩
 refine aX 84902799735086 d ?_;refine rT h Z ?_;exact⟨d.ext,congrArg ó (decide_eq_decide.2 Hh)⟩

theorem ju{w:ä}{n_ m_ t:List Nat}(zB:w.heap[k]? = á (ay z Q Y U V T O))(zK:z.Ok)(p_:ah w Q z.A2 Y n_)(o_:ah w U z.On V m_)(e_:ah w T z.A3 O t)(hT:z.A3.length=2)(y:∀o,(z.A3.getD o à).Ah.length<=200000):am 121 [au k] w λd_ w'=>∃v,Res w w' [d_] v/\RdV w' t v/\v.map Ac.r=cI z:=by
 refine bv func121 Z (λs_ hQ hN=>?_);have H:=Sep.start (dc zB (aC p_ (aC o_ (aC e_ ba))));refine aT (sA Z (aH (aT (dG (f:=Ac) aB Z cd be H (λH a c d e=>aX 0x6f312ff37f926f1254 e ?_)))));refine fc (b:=Ac) (a:=Nat × List Ac) (λ(o,v)=>v) (0,[]) e 0 Z 3 Z [(2,_),(12,_),(13,_)] bf (λ(o,v)=>[(14,ag o)]) (λ(o,v)=>o<=z.A3.length/\RdV w t v/\v.map Ac.r=iG z o 0) (λ(o,v)=>z.A3.length-o) ⟨Z,trivial⟩ ⟨bj,RdV.nil,by(try dsimp only);rw[xy];rfl⟩ (λ(o,v) H d e f ⟨hk,hR,u⟩=>?_);dsimp only[jf,lNA,lSZ,sk] at f ⊢;refine br 10441682 (λH=>?_) (λH=>?_)
 .obtain⟨H,d,e,g,h,l,m,n,l_⟩:=cR (f.Ab 3 Z) o ω;obtain⟨p,u_,v_,rfl,c_,w_,A⟩:=fd m;refine bi (aW (bP (aW ?_)));have H:=f.look1 3 Z A (λb q=>n b (by rw[c_];simp[q]));have d:=oL A;refine aG 68108022 ?_;refine cz aB Z zeroValue92 H (λH d e g h=>bw aB yS Z h 1 Z (λH d e=>?_));replace e:=bt e;refine aX 0x6f312ff37f923 e ?_;refine fc (b:=Ac) (a:=Nat × List Ac) (λ(j,B)=>B) (0,v) e 0 Z 3 Z [(2,_),(12,_),(13,_),(14,_),(19,_),(20,_)] bf (λ(j,B)=>[(21,ag j)]) (λ(j,B)=>j<=(z.A3.getD o à).Ah.length/\RdV w t B/\B.map Ac.r=iG z o j) (λ(j,B)=>(z.A3.getD o à).Ah.length-j) ⟨Z,trivial⟩ ⟨bj,hR,u⟩ (λ(j,B) H d e C ⟨hj,D,E⟩=>?_);dsimp only[jf,lNA,lSZ,sk] at C ⊢;refine br 10441682 (λH=>?_) (λH=>?_)
  .obtain⟨H,d,e,g,h,l,a_,G,m⟩:=cR (C.Ab 4 Z) j ω;obtain⟨I,J,K,L,M,N,q_,r_,t_,rfl,S,f_,g_,h_,i_⟩:=dX a_;have H:=cx f_;refine bi (aW (bP (aW ?_)));have H:=C.look1 4 Z g_ (λb q=>G b (by rw[S];simp[q]));have d:=H.look1 4 Z h_ (λb q=>G b (by rw[S];simp[q]));have b_:=d.look1 4 Z i_ (λb q=>G b (by rw[S];simp[q]));refine aG 68108022 ?_;refine cz aB Z Ä b_ (λH d e g h=>bw aB cy Z h 2 Z (λH d s=>?_));replace s:=bt s;obtain⟨oa,a',X⟩:=aL (s.A4 0 Z);cases X;refine aH (aW ?_);have hE:=(InF.back (ft:=t) (cs:=((Ac.mk ((z.A3.getD o à).Ah.getD j à) I J K L M N)).cs) (x:=((z.A3.getD o à).Ah.getD j à)) ⟨_,a_,(λb q=>(λb q=>n b (by rw[c_];simp[q])) b (G b q))⟩ b_.ext (Rp.lt e_));have k_:B.length=(iG z o j).length:=by rw[<- E,aS]
   have j_:=uB hT y (k:=o) (j:=j) ω (by have:=y o;omega);refine aX 270102 s ?_;refine sE func174 Z (by have F:=Em (X:=B.map Ac.r) (r:=((z.A3.getD o à).Ah.getD j à)) (by dsimp only[aj,ak];rw[aS];exact(D.to s.ext).list (s.A4 0 Z)) η (s.Ae 5 Z) (s.Ae 6 Z) (s.Ae 7 Z);dsimp only[aj,ak] at F;rw[aS] at F;exact F) s (λH d e=>sV Z (cj Z) (aH (gG Z (λH=>?_) (λH=>?_))))
   .refine aX 270102 e ?_;refine dx aB Z cd be Z e (λd g h l m=>fC aB Z cd be Z m 0 3 Z (dK (v:=(Ac.mk ((z.A3.getD o à).Ah.getD j à) I J K L M N)) η) db ω (λd g h l=>aG 203876 ?_));exact⟨((j+1,B++[(Ac.mk ((z.A3.getD o à).Ah.getD j à) I J K L M N)]),_,_),bf,⟨((l.Aq 5).dtake 2),bj,D.snoc hE,by(try dsimp only);rw[List.map_append,E,nr ω,Bq (by rw[<- E];simpa using H)];rfl⟩,θ⟩
   refine aG 203886 ?_;exact⟨((j+1,B),_,_),bf,⟨((e.Aq 5).dtake 2),bj,D,by(try dsimp only);rw[E,nr ω,zZ (by rw[<- E];simpa using H)]⟩,θ⟩
  refine bu ?_;obtain rfl:j=(z.A3.getD o à).Ah.length:=by omega
  refine aG 12742 ?_;exact⟨((o+1,B),_,_),bf,⟨((C.Aq 4).dtake 1),bj,D,by(try dsimp only);rw[E,w9 ω]⟩,θ⟩
 refine bu ?_;obtain rfl:o=z.A3.length:=by omega
 have k_:v.length=(iG z z.A3.length 0).length:=by rw[<- u,aS]
 have j_:=uB hT y (k:=z.A3.length) (j:=0) ω ω;obtain⟨oa,a',X⟩:=aL (f.A4 0 Z);cases X;refine aT (sM Z (sC func175 Z (PE (W:=v) (P:=[]) (f.A4 0 Z) (f.Aj (i:=0) Z) func176 Z Kg (λa c x x_ H a c d e g h l m n l_ p=>qb) ω) (λH a c=>?_)));obtain⟨us,H,hS⟩:=c;obtain⟨a,c⟩:=bt (f.mut 0 Z H);refine aG 16675 ?_;exact rT hQ Z ⟨c.ext,us,c.out 0 Z,(hR.stable hS).to c.ext,Si u hS⟩

theorem gt{w:ä}{o_ n_ a_:List Nat}(zB:w.heap[k]? = á (ay z Q Y U V T O))(zK:z.Ok)(q_:ah w Q z.A2 Y o_)(p_:ah w U z.On V n_)(j_:ah w T z.A3 O a_)(hT:z.A3.length=2)(i_:∀K,(z.A3.getD K à).Ah.length<=200000):am 78 [au k] w λv w'=>∃s,Res w w' [v] s/\RdV w' a_ s/\s.map Ac.r=cI z:=by
 refine bv func78 Z (λu_ hQ hN=>?_);have H:=Sep.start (dc zB (aC q_ (aC p_ (aC j_ ba))));refine aT (sA Z (aH (aT (dG (f:=Ac) aB Z cd be H (λH c d f g=>aG 7291476 ?_)))));refine fc (b:=Ac) (a:=Nat × List Ac) (λ(K,s)=>s) (0,[]) g 0 Z 3 Z [(0,_),(2,_)] bf (λ(K,s)=>[(4,ag K)]) (λ(K,s)=>K<=2/\RdV w a_ s/\Stable kLt eQ (iG z K 0) (s.map Ac.r)) (λ(K,s)=>2-K) ⟨Z,trivial⟩ ⟨bj,RdV.nil,by(try dsimp only);rw[xy];exact⟨.nil,.refl⟩⟩ (λ(K,s) H c d m ⟨hk,hR,hM⟩=>?_);dsimp only[jf,lNA,lSZ,sk] at m ⊢;refine br 166973733 (λH=>?_) (λH=>?_)
 .refine aG 29865570142 ?_;refine fc (b:=Ac) (a:=Nat × List Ac) (λ(j,n)=>n) (0,s) m 0 Z 3 Z [(0,_),(2,_),(4,_)] bf (λ(j,n)=>[(5,ag j)]) (λ(j,n)=>j<=(z.A3.getD K à).Ah.length/\RdV w a_ n/\Stable kLt eQ (iG z K j) (n.map Ac.r)) (λ(j,n)=>(z.A3.getD K à).Ah.length-j) ⟨Z,trivial⟩ ⟨bj,hR,hM⟩ (λ(j,n) H c d o ⟨hj,p,q⟩=>?_);dsimp only[jf,lNA,lSZ,sk] at o ⊢;obtain⟨H,c,d,f,g,d_,u,y,A⟩:=cR (o.Ab 3 Z) K ω;obtain⟨B,C,D,rfl,E,F,G⟩:=fd u;refine aW (aW ?_);have b_:=o.look1 3 Z G (λb e=>y b (by rw[E];simp[e]));have H:=oL G;refine aG 153547030 ?_;refine sLd jP (b_.Bd 0 Z) Z (br 0x9f3d2ff3df93ef1 (λH=>?_) (λH=>?_))
  .obtain⟨H,c,d,f,J,g,k_,e_,o⟩:=cR (b_.Ab 3 Z) K ω;obtain⟨r_,s_,t_,rfl,f_,v_,l_⟩:=fd k_;refine bi (aW (bP (aW ?_)));have g_:=b_.look1 3 Z l_ (λb e=>e_ b (by rw[f_];simp[e]));obtain⟨H,c,d,f,g,o,h_,c_,d_⟩:=cR (g_.Ab 5 Z) j ω;obtain⟨X,L,I,N,P,S,d',e',f',rfl,g',h',i',j',k'⟩:=dX h_;have H:=cx h';have H:=g_.look1 5 Z i' (λb e=>c_ b (by rw[g'];simp[e]));have c:=H.look1 5 Z j' (λb e=>c_ b (by rw[g'];simp[e]));have l':=c.look1 5 Z k' (λb e=>c_ b (by rw[g'];simp[e]));refine aG 9596694 ?_;refine sLd jP (l'.Bd 0 Z) Z (sM Z (sV Z (bR jP yS Z J K ω ω) (aG 4463527017977 ?_)));refine cz aB Z Ä l' (λH c d f g=>bw aB cy Z g 1 Z (λH c M=>?_));replace M:=bt M;obtain⟨oa,H,oq⟩:=aL (M.A4 0 Z);cases oq;refine aH (aW (aW ?_));have W:=(InF.back (ft:=a_) (cs:=((Ac.mk ((z.A3.getD K à).Ah.getD j à) X L I N P S)).cs) (x:=((z.A3.getD K à).Ah.getD j à)) ⟨_,h_,(λb e=>(λb e=>e_ b (by rw[f_];simp[e])) b (c_ b e))⟩ l'.ext (Rp.lt j_));have x_:n.length=(iG z K j).length:=by have:=q.2.len;rwa[aS] at this
   have w_:=uB hT i_ (k:=K) (j:=j) ω (by have:=i_ K;omega);refine aX 270102 M ?_;refine sE func118 Z (by have lc:=qi (X:=n.map Ac.r) (r:=((z.A3.getD K à).Ah.getD j à)) (by dsimp only[aj,ak];rw[aS];exact(p.to M.ext).list (M.A4 0 Z)) η (M.Ae 6 Z) (M.Ae 7 Z) (M.Ae 8 Z);dsimp only[aj,ak] at lc;rw[aS] at lc;exact lc) M (λH c d=>aH (gG Z (λH=>?_) (λH=>?_)))
   .refine bu (aG 19478 ?_);exact⟨((j+1,n),_,_),bf,⟨((d.Aq 4).dtake 1),bj,p,by(try dsimp only);rw[nr ω,zZ ((lF q _).1 m9)];exact q⟩,θ⟩
   have hno:=H;have HS:=bt (d.Ba 0 Z);have y_:=n.length_map Ac.r;refine aG 478153797934 ?_;refine dr (a:=Nat) HS [(0,_),(2,_),(3,_),(4,_),(5,_),(6,_)] bf (λa=>[(7,ag a)]) (λa=>a<=n.length/\(∀i,a<=i->i<n.length->kLt (eQ ((z.A3.getD K à).Ah.getD j à)) (eQ (n.getD i à).r))) (λa=>a) n.length ⟨Z,trivial⟩ ⟨ω,λi o d_=>by omega⟩ (λa H c ⟨ha,hB⟩=>?_);dsimp only[jf,lNA];refine aW (aW (ep c [(0,ã),(1,ã),(2,ã),(3,ã),(4,ã),(5,ã),(6,ã),(7,ã),(8,ã),(9,â),(10,â)] (λH u=>dR 3 Z (dU (t:=44) Z (λy=>?_) (λy=>?_)))))
   .replace y:=φ y
    obtain⟨H,c,d,f,g⟩:=u.viewSeen 9 Z (a-1) ω;refine aX 0xbcfb4fb4fd1f u ?_;refine eS Z (wg Z) Z (λzw hx=>bR cd cy Z d (a-1) ω ω) (aG 3343 ?_);refine cb Z (wg Z) Z (pcK func119 Z) qz τ1 (λH c A=>?_);obtain⟨B,rfl⟩:=A;have C:=u.to B;refine br 2936338351 (λD=>?_) (λD=>?_)
    .refine aG 286942168830 ?_;refine⟨a-1,⟨eqI ω,Z,Z,Z,Z,Z,Z,trivial⟩,⟨C,ω,λi o d_=>?_⟩,θ⟩
     by_cases m_:i=a-1
     .subst m_;exact of_decide_eq_true D
     exact hB i ω d_
    refine bu (ep C [(1,ã),(2,ã),(3,ã),(5,ã),(8,ã),(9,ã),(10,ã),(1012,â),(0,â),(1005,â),(4,â),(6,â),(7,â),(11,â),(12,â),(6,â),(4,â),(7,â),(11,â),(12,â),(6,â),(0,â),(4,â),(7,â),(11,â),(12,â)] (λH c=>?_));have H:=di (c.Ab 9 Z);obtain⟨H,d,f⟩:=fG (c.Ab 9 Z) (0) (a) _ ω ω ω (aN _);have H:=c.look1 9 Z d f;have d:=fb (x:=n) (l:=0) (h:=a) ω;refine dR 2 Z (dV Z (λzw hx=>fW cd cy Z (a) ω ω d) ?_);have d:=di (H.Ab 9 Z);obtain⟨d,f,g⟩:=fG (H.Ab 9 Z) (a) (n.length) _ ω ω ω (aN _);refine aX 767583 c ?_;have c:=H.look1 9 Z f g;have H:=fb (x:=n) (l:=a) (h:=n.length) ω;refine dV Z (λzw hx=>pZ cd cy Z Z (a) ω ω H) (dF Z ?_ ?_)
    .refine d_S (λH=>?_) σ;refine jD (a:=Ac) Z aB Z cd be c τ0 (λd f g A B=>dF Z ?_ ?_)
     .refine d_S (λd=>?_) σ;refine dh Z aB Z cd be Z B 2 Z (B.Ab 10 Z) dp dj (λb e=>by simp only[aD] at e;rw[e];exact aF H.size A) (λf g C E F=>?_);replace F:=bt F;refine dB Z aB Z cd be Z F τ0 (λf g C F G=>d_S (λf=>?_) σ);refine gm Z aB Z cd be Z G 2 3 Z (dK (v:=(Ac.mk ((z.A3.getD K à).Ah.getD j à) X L I N P S)) η) dp dj (λb e=>(E b e).elim (((λb e=>by simp only[aD] at e;rw[e];exact aF H.size A):∀b∈_,_<=b) b) (λh=>aF d.size h)) (λg C F G J=>?_);replace J:=bt J;refine d_S (λg=>?_) σ;refine dh Z aB Z cd be Z J 2 Z (J.Ab 11 Z) dp dj (λb e=>(G b e).elim (((λb e=>(E b e).elim (((λb e=>by simp only[aD] at e;rw[e];exact aF H.size A):∀b∈_,_<=b) b) (λh=>aF d.size h)):∀b∈_,_<=b) b) (λh=>aF f.size h)) (λd f g C E=>?_);replace E:=bt E;refine aG 326786938591 ?_;exact⟨((j+1,_),_,_),bf,⟨(E.Aq 4).au_pk 4,bj,((p.sub fN).snoc W).app (p.sub fN),GQ⟩,θ⟩
     refine dB Z aB Z cd be Z B τ0 (λd f g B C=>d_S (λd=>?_) σ);refine dh Z aB Z cd be Z C 2 Z (C.Ab 10 Z) dp dj (λb e=>by simp only[aD] at e;rw[e];exact aF H.size A) (λf g B C E=>?_);replace E:=bt E;refine d_S (λf=>?_) σ;refine gm Z aB Z cd be Z E 2 3 Z (dK (v:=(Ac.mk ((z.A3.getD K à).Ah.getD j à) X L I N P S)) η) dp dj (λb e=>(C b e).elim (((λb e=>by simp only[aD] at e;rw[e];exact aF H.size A):∀b∈_,_<=b) b) (λh=>aF d.size h)) (λg B E F G=>?_);replace G:=bt G;refine d_S (λg=>?_) σ;refine dh Z aB Z cd be Z G 2 Z (G.Ab 11 Z) dp dj (λb e=>(F b e).elim (((λb e=>(C b e).elim (((λb e=>by simp only[aD] at e;rw[e];exact aF H.size A):∀b∈_,_<=b) b) (λh=>aF d.size h)):∀b∈_,_<=b) b) (λh=>aF f.size h)) (λH d f g A=>?_);replace A:=bt A;refine aG 326786938591 ?_;exact⟨((j+1,_),_,_),bf,⟨(A.Aq 4).au_pk 4,bj,((p.sub fN).snoc W).app (p.sub fN),GQ⟩,θ⟩
    refine dB Z aB Z cd be Z c τ0 (λH c d f g=>d_S (λH=>?_) σ);refine jD (a:=Ac) Z aB Z cd be g τ0 (λc d f g A=>d_S (λc=>?_) σ);refine dh Z aB Z cd be Z A 3 Z (A.Ab 10 Z) dp dj (λb e=>by simp only[aD] at e;rw[e];exact aF H.size g) (λd f A B C=>?_);replace C:=bt C;refine d_S (λd=>?_) σ;refine gm Z aB Z cd be Z C 3 2 Z (dK (v:=(Ac.mk ((z.A3.getD K à).Ah.getD j à) X L I N P S)) η) dp dj (λb e=>(B b e).elim (((λb e=>by simp only[aD] at e;rw[e];exact aF H.size g):∀b∈_,_<=b) b) (λh=>aF c.size h)) (λf A C E F=>?_);replace F:=bt F;refine d_S (λf=>?_) σ;refine dh Z aB Z cd be Z F 3 Z (F.Ab 11 Z) dp dj (λb e=>(E b e).elim (((λb e=>(B b e).elim (((λb e=>by simp only[aD] at e;rw[e];exact aF H.size g):∀b∈_,_<=b) b) (λh=>aF c.size h)):∀b∈_,_<=b) b) (λh=>aF d.size h)) (λH c d f g=>?_);replace g:=bt g;refine aG 326786938591 ?_;exact⟨((j+1,_),_,_),bf,⟨(g.Aq 4).au_pk 8,bj,((p.sub fN).snoc W).app (p.sub fN),GQ⟩,θ⟩
   replace y:=φ y
   refine aG 0x4f7bffefaaaaaa ?_;refine gW Z (bu (ep u [(1,ã),(2,ã),(3,ã),(5,ã),(8,ã),(9,ã),(10,ã),(1012,â),(0,â),(1005,â),(4,â),(6,â),(7,â),(11,â),(12,â),(6,â),(4,â),(7,â),(11,â),(12,â),(6,â),(0,â),(4,â),(7,â),(11,â),(12,â)] (λH c=>?_)));obtain⟨H,d,f⟩:=fG (c.Ab 9 Z) (0) (a) _ ω ω ω (aN _);have H:=c.look1 9 Z d f;have d:=fb (x:=n) (l:=0) (h:=a) ω;refine dR 2 Z (dV Z (λzw hx=>fW cd cy Z (a) ω ω d) ?_);have d:=di (H.Ab 9 Z);obtain⟨d,f,g⟩:=fG (H.Ab 9 Z) (a) (n.length) _ ω ω ω (aN _);refine aX 767583 c ?_;have c:=H.look1 9 Z f g;have H:=fb (x:=n) (l:=a) (h:=n.length) ω;refine dV Z (λzw hx=>pZ cd cy Z Z (a) ω ω H) (dF Z ?_ ?_)
   .refine d_S (λH=>?_) σ;refine jD (a:=Ac) Z aB Z cd be c τ0 (λd f g u y=>dF Z ?_ ?_)
    .refine d_S (λd=>?_) σ;refine dh Z aB Z cd be Z y 2 Z (y.Ab 10 Z) dp dj (λb e=>by simp only[aD] at e;rw[e];exact aF H.size u) (λf g A B C=>?_);replace C:=bt C;refine dB Z aB Z cd be Z C τ0 (λf g A C D=>d_S (λf=>?_) σ);refine gm Z aB Z cd be Z D 2 3 Z (dK (v:=(Ac.mk ((z.A3.getD K à).Ah.getD j à) X L I N P S)) η) dp dj (λb e=>(B b e).elim (((λb e=>by simp only[aD] at e;rw[e];exact aF H.size u):∀b∈_,_<=b) b) (λh=>aF d.size h)) (λg A C D E=>?_);replace E:=bt E;refine d_S (λg=>?_) σ;refine dh Z aB Z cd be Z E 2 Z (E.Ab 11 Z) dp dj (λb e=>(D b e).elim (((λb e=>(B b e).elim (((λb e=>by simp only[aD] at e;rw[e];exact aF H.size u):∀b∈_,_<=b) b) (λh=>aF d.size h)):∀b∈_,_<=b) b) (λh=>aF f.size h)) (λd f g A B=>?_);replace B:=bt B;refine aG 326786938591 ?_;exact⟨((j+1,_),_,_),bf,⟨(B.Aq 4).au_pk 4,bj,((p.sub fN).snoc W).app (p.sub fN),Hg⟩,θ⟩
    refine dB Z aB Z cd be Z y τ0 (λd f g y A=>d_S (λd=>?_) σ);refine dh Z aB Z cd be Z A 2 Z (A.Ab 10 Z) dp dj (λb e=>by simp only[aD] at e;rw[e];exact aF H.size u) (λf g y A B=>?_);replace B:=bt B;refine d_S (λf=>?_) σ;refine gm Z aB Z cd be Z B 2 3 Z (dK (v:=(Ac.mk ((z.A3.getD K à).Ah.getD j à) X L I N P S)) η) dp dj (λb e=>(A b e).elim (((λb e=>by simp only[aD] at e;rw[e];exact aF H.size u):∀b∈_,_<=b) b) (λh=>aF d.size h)) (λg y B C D=>?_);replace D:=bt D;refine d_S (λg=>?_) σ;refine dh Z aB Z cd be Z D 2 Z (D.Ab 11 Z) dp dj (λb e=>(C b e).elim (((λb e=>(A b e).elim (((λb e=>by simp only[aD] at e;rw[e];exact aF H.size u):∀b∈_,_<=b) b) (λh=>aF d.size h)):∀b∈_,_<=b) b) (λh=>aF f.size h)) (λH d f g u=>?_);replace u:=bt u;refine aG 326786938591 ?_;exact⟨((j+1,_),_,_),bf,⟨(u.Aq 4).au_pk 4,bj,((p.sub fN).snoc W).app (p.sub fN),Hg⟩,θ⟩
   refine dB Z aB Z cd be Z c τ0 (λH c d f g=>d_S (λH=>?_) σ);refine jD (a:=Ac) Z aB Z cd be g τ0 (λc d f g u=>d_S (λc=>?_) σ);refine dh Z aB Z cd be Z u 3 Z (u.Ab 10 Z) dp dj (λb e=>by simp only[aD] at e;rw[e];exact aF H.size g) (λd f u y A=>?_);replace A:=bt A;refine d_S (λd=>?_) σ;refine gm Z aB Z cd be Z A 3 2 Z (dK (v:=(Ac.mk ((z.A3.getD K à).Ah.getD j à) X L I N P S)) η) dp dj (λb e=>(y b e).elim (((λb e=>by simp only[aD] at e;rw[e];exact aF H.size g):∀b∈_,_<=b) b) (λh=>aF c.size h)) (λf u A B C=>?_);replace C:=bt C;refine d_S (λf=>?_) σ;refine dh Z aB Z cd be Z C 3 Z (C.Ab 11 Z) dp dj (λb e=>(B b e).elim (((λb e=>(y b e).elim (((λb e=>by simp only[aD] at e;rw[e];exact aF H.size g):∀b∈_,_<=b) b) (λh=>aF c.size h)):∀b∈_,_<=b) b) (λh=>aF d.size h)) (λH c d f g=>?_);replace g:=bt g;refine aG 326786938591 ?_;exact⟨((j+1,_),_,_),bf,⟨(g.Aq 4).au_pk 8,bj,((p.sub fN).snoc W).app (p.sub fN),Hg⟩,θ⟩
  refine bu ?_;obtain rfl:j=(z.A3.getD K à).Ah.length:=by omega
  refine aG 19478 ?_;exact⟨((K+1,n),_,_),bf,⟨(b_.Aq 4),bj,p,by(try dsimp only);rw[<- w9 ω];exact q⟩,θ⟩
 refine bu (aT (sR 2 Z (rN hQ Z ?_)));obtain rfl:K=2:=by omega
 exact⟨m.ext,s,m.out 0 Z,hR.to m.ext,AG (by rw[hT];exact hM)⟩

theorem vZ{w:ä}{s:A0}{q:List Rec}(S:aj w M q N)(ha:a<q.length)(u:(q.getD a à).Kind=4):am 205 [s.v,ak M q N,ag a] w λv w'=>v = .bool (q.any (spS (q.getD a à))):=by
 have l_:=sL S;obtain⟨k_,T⟩:=S;refine bv func205 Z (λc_ Q hN=>?_);have H:=Sep.start (aC T ba);refine aT (ci aB Z H (λH c d f g=>?_));obtain⟨H,c,d,f,h,l,m,n,o⟩:=cR (g.Ab 0 Z) a ω;obtain⟨p,h_,i_,j_,x,m_,z,A,B,rfl,C,D,E,F,G⟩:=dX m;refine sA Z (aH (aW ?_));have H:=g.look1 0 Z E (λb hb=>n b qR);have c:=H.look1 0 Z F (λb hb=>n b qR);have H:=c.look1 0 Z G (λb hb=>n b qR);refine aG 17435652374 ?_;refine cz aB Z Ä H (λH c d f g=>bw aB cy Z g 1 Z (λH c d=>ge 0x9f3d37f9253 d (λH=>?_) (λH=>?_)))
 .exact absurd H ω
 refine ge 0x9f3d37f925e d (λH=>?_) (λH=>?_)
 .exact absurd H ω
 refine aG 7291486 ?_;refine dr (a:=Nat) d [(1,_),(7,_)] bf (λk=>[(8,ag k)]) (λk=>k<=q.length/\(∀i,i<k->spS (q.getD a à) (q.getD i à)=â)) (λk=>q.length-k) 0 ⟨Z,trivial⟩ ⟨ω,λi R=>by omega⟩ (λk H I ⟨hk,P⟩=>?_);dsimp only[jf,lNA];refine br 0x9f3d2ff1125 (λH=>?_) (λH=>?_)
 .obtain⟨H,c,d,f,g,h,J,K,l⟩:=cR (I.Ab 0 Z) k ω;obtain⟨L,U,W,a_,b_,d_,e_,f_,g_,rfl,V,X,Y,y,O⟩:=dX J;have H:=cx X;refine bi (aW (bP (aW ?_)));have H:=I.look1 0 Z Y (λb hb=>K b (by rw[V];simp[hb]));have c:=oL Y;have c:=H.look1 0 Z y (λb hb=>K b (by rw[V];simp[hb]));have H:=oL y;have H:=c.look1 0 Z O (λb hb=>K b (by rw[V];simp[hb]));have c:=oL O;refine aG 17435652374 ?_;refine cz aB Z Ä H (λH c d f g=>bw aB cy Z g 2 Z (λH c d=>aX 7843320403 d ?_));refine cU 3 (j:=3) (E:=ã) (t:=46) Z (λH c=>ld 39990852015 d H c) (λH c=>?_);have H:=d.to c;refine sV Z (cX Z) (sM Z (cU 5 (j:=8) (E:=ã) (t:=53) Z (λc d=>ld 0x94fa3f9afa3f9af H c d) (λc d=>?_)));have c:=H.to d;refine br 11481935 (λH=>?_) (λH=>?_)
  .exfalso;rw[u] at H;simp at H
  refine aX 490207534 c ?_;refine cU 36 (j:=3) (E:=ã) (t:=94) Z (λH d=>bc (wgE Z H) Z (bd cu Z ts2 Z) (bc (wgE Z H) Z (bp tu2 Z (bD (c.box 2 Z) Z)) (bc (wgE Z H) Z (ji Z Z) (bc (wgE Z H) Z (bL Z) (cU 5 (j:=7) (E:=ã) (t:=67) Z (λf g=>bc (wgE Z f) Z (bd cu Z ts2 Z) (bc (wgE Z f) Z (bp tu2 Z (bD (c.box 2 Z) Z)) (bc (wgE Z f) Z (bd cu Z ts2 Z) (bc (wgE Z f) Z (bp tu2 Z (bD (c.box 1 Z) Z)) (bc (wgE Z f) Z (ji Z Z) (g _ _ gP Z Ext.refl)))))) (λf g=>bc (wgE Z H) Z (cX Z) (bc (wgE Z H) Z (bL Z) (cU 24 (j:=14) (E:=â) (t:=93) Z (λf h=>bc (wgE Z f) Z (bd cu Z ts2 Z) (bc (wgE Z f) Z (bp tu2 Z (bD ((c.to g).box 2 Z) Z)) (bc (wgE Z f) Z (ji Z Z) (bc (wgE Z f) Z (bL Z) (cU 5 (j:=18) (E:=ã) (t:=78) Z (λl m=>bc (wgE Z l) Z (bd cu Z ts2 Z) (bc (wgE Z l) Z (bp tu2 Z (bD ((c.to g).box 2 Z) Z)) (bc (wgE Z l) Z (bd cu Z ts2 Z) (bc (wgE Z l) Z (bp tu2 Z (bD ((c.to g).box 1 Z) Z)) (bc (wgE Z l) Z (ji Z Z) (m _ _ gP Z Ext.refl)))))) (λl m=>bc (wgE Z f) Z (cX Z) (bc (wgE Z f) Z (bL Z) (cU 5 (j:=25) (E:=ã) (t:=85) Z (λl n=>bc (wgE Z l) Z (bd cu Z ts2 Z) (bc (wgE Z l) Z (bp tu2 Z (bD (((c.to g).to m).box 2 Z) Z)) (bc (wgE Z l) Z (bd cu Z ts2 Z) (bc (wgE Z l) Z (bp tu2 Z (bD (((c.to g).to m).box 1 Z) Z)) (bc (wgE Z l) Z (ji Z Z) (n _ _ gP Z Ext.refl)))))) (λl n=>bc (wgE Z f) Z (cX Z) (bc (wgE Z f) Z (bL Z) (cU 5 (j:=32) (E:=ã) (t:=92) Z (λl o=>bc (wgE Z l) Z (bd cu Z ts2 Z) (bc (wgE Z l) Z (bp tu2 Z (bD ((((c.to g).to m).to n).box 2 Z) Z)) (bc (wgE Z l) Z (bd cu Z ts2 Z) (bc (wgE Z l) Z (bp tu2 Z (bD ((((c.to g).to m).to n).box 1 Z) Z)) (bc (wgE Z l) Z (pG Z Z) (o _ _ gP Z Ext.refl)))))) (λl o=>bc (wgE Z f) Z (cX Z) (h _ _ gP Z (((Ext.refl.trans m).trans n).trans o)))))))))))))) (λf h=>bc (wgE Z H) Z (ko Z Z) (d _ _ gP Z ((Ext.refl.trans g).trans h))))))))))) (λH d=>?_);have H:=c.to d;refine br 11481935 (λp=>?_) (λp=>?_)
  .refine aT (rA Q Z Z ?_);exact⟨H.ext,congrArg ó (by rw[Jy (k:=k) ω (by have r:=p;simp only[u] at r;simpa[spS,Õ] using r)])⟩
  refine aG 311662 ?_;refine⟨k+1,bf,⟨((H.Aq 4).dtake 2),ω,λi R=>?_⟩,θ⟩
  by_cases e:i=k
  .subst e;have r:=p;simp only[u] at r
   simpa[spS,Õ] using r
  exact P i ω
 refine bu (aX 80969618 I ?_);refine rT Q Z ?_;exact⟨I.ext,congrArg ó (by rw[EO (λi R=>P i ω),u];rfl)⟩

theorem si{w:ä}{s:A0}{X:List Rec}{R:Int}(S:aj w M X N):am 164 [s.v,ak M X N,ag g,ag R] w λv Y=>v = ag (opI X g R):=by
 have b_:=sL S;obtain⟨a_,T⟩:=S;refine bv func164 Z (λQ y U=>?_);have H:=Sep.start (aC T ba);refine aT (ci aB Z H (λH c d e f=>aG 1866617892 ?_));refine dr (a:=Nat) f [(1,_),(2,_),(3,_),(4,_),(8,_)] bf (λk=>[(9,ag (jC (shP g R) X k)),(10,ag k)]) (λk=>k<=X.length/\True) (λk=>X.length-k) 0 bf ⟨ω,trivial⟩ (λk H h ⟨V,_⟩=>?_);dsimp only[jf,lNA];refine br 0x9f3d2ff1125 (λH=>?_) (λH=>?_)
 .obtain⟨H,c,d,e,i,l,m,n,f⟩:=cR (h.Ab 0 Z) k ω;obtain⟨o,q,r,u,x,c_,z,A,B,rfl,C,D,E,F,G⟩:=dX m;refine bi (aW (bP (aW ?_)));have H:=h.look1 0 Z E (λb hb=>n b qR);have c:=H.look1 0 Z F (λb hb=>n b qR);have H:=c.look1 0 Z G (λb hb=>n b qR);refine aG 32147716894998 ?_;refine cU 7 (j:=6) (E:=ã) (t:=30) Z (λc d=>bc (wgE Z c) Z (bL Z) (bc (wgE Z c) Z (bL Z) (bc (wgE Z c) Z (bR cd cy Z i k GJ ω) (bc (wgE Z c) Z (bd cu Z ts2 Z) (bc (wgE Z c) Z (bp tu2 Z (gJ l 4 Z)) (bc (wgE Z c) Z (bL Z) (bc (wgE Z c) Z (ji Z Z) (d _ _ gP Z Ext.refl)))))))) (λc d=>?_);have c:=H.to d;refine sV Z (cX Z) (sM Z (cU 7 (j:=15) (E:=ã) (t:=39) Z (λH e=>bc (wgE Z H) Z (bL Z) (bc (wgE Z H) Z (bL Z) (bc (wgE Z H) Z (bR cd cy Z i k wY ω) (bc (wgE Z H) Z (bd cu Z ts2 Z) (bc (wgE Z H) Z (bp tu2 Z (gJ (d.at l) 5 Z)) (bc (wgE Z H) Z (bL Z) (bc (wgE Z H) Z (ji Z Z) (e _ _ gP Z Ext.refl)))))))) (λH d=>?_)));have H:=c.to d;refine br 11481935 (λc=>?_) (λc=>?_)
  .refine aG 79782934 ?_;refine⟨k+1,⟨eqI (sx (by simpa[shP,Õ] using c)).symm,Z,Z,Z,Z,Z,Z,trivial⟩,⟨(H.Aq 1),ω,trivial⟩,θ⟩
  refine aG 311662 ?_;refine⟨k+1,⟨eqI (yW (by simpa[shP,Õ] using c)).symm,Z,Z,Z,Z,Z,Z,trivial⟩,⟨(H.Aq 1),ω,trivial⟩,θ⟩
 refine bu ?_;obtain rfl:k=X.length:=by omega
 have W:=yD (p:=shP g R) (d:=X);refine aG 119077 ?_;refine cZ (t:=44) Z (λI=>?_) (λI=>?_)
 .have J:0<=(jz (shP g R) X):=of_decide_eq_true I;refine aX 38915865311 h ?_;refine dE (wg Z) Z (pcK func205 Z) (by have P:Ag _ [ak M X N] X:=⟨_,aJ (h.Ab 0 Z)⟩;have O:=vZ (s:=s) (a:=(jz (shP g R) X).toNat) P ω ((Iy (wO J)).1);rw[bQ J] at O;exact O) (λH c K=>?_);obtain⟨L,rfl⟩:=K;have H:=h.to L;refine br 11481903 (λc=>?_) (λc=>?_)
  .exact aT (sA Z (aH (rT y Z ⟨H.ext,congrArg (é .i64) (Nh ω c).symm⟩)))
  refine aG 16686 ?_;exact rT y Z ⟨H.ext,congrArg (é .i64) (OO ω (by simpa using c)).symm⟩
 have J:¬ 0<=(jz (shP g R) X):=of_decide_eq_false I;refine aG 859801736 ?_;refine gW Z (aG 16686 ?_);exact rT y Z ⟨h.ext,congrArg (é .i64) (MO J).symm⟩

theorem jJ{w:ä}{s:A0}{r:Rec}(R:r.Ok)(S:aj w J r.Rows I)(T:aj w K r.Data E)(U:aj w B r.Ad o):am 115 [s.v,r.val J I K E B o] w λv Y=>v = ag (if s.fault≠0 then s.fault else recF s r):=by
 have H:=cx R;have H:r.Name.size<=Ë:=by unfold Ë;omega
 obtain⟨H,a⟩:=S;obtain⟨H,b⟩:=T;obtain⟨H,c⟩:=U;refine bv func115 Z (λQ D V=>?_);have H:=Sep.start (aC a (aC b (aC c ba)));refine aT (ci aB Z H (λH a b c d=>ci aB Z d (λH a b c d=>aX 4321876 d ?_)));refine sE func7 Z iY d (λH a b=>br 166973732 (λH=>?_) (λH=>?_))
 .exact aT (sR 2 Z (aH (rT D Z ⟨b.ext,congrArg (é .i64) (ae ω).symm⟩)))
 have P:=gS (s:=s) ω;have X:=bm P;refine aX 58692190 b ?_;refine sE Ĥ Z cV b (λH a b=>sV Z (cj Z) (aH (gG Z (λc=>?_) (λc=>?_))))
 .exact aT (sA Z (aH (rT D Z ⟨b.ext,congrArg (é .i64) ((ac ω).trans (vi (fX c))).symm⟩)))
 refine aX 58692190 b ?_;refine sE Ĥ Z cV b (λH a b=>sV Z (cj Z) (aH (gG Z (λd=>?_) (λd=>?_))))
 .exact aT (sA Z (aH (rT D Z ⟨b.ext,congrArg (é .i64) ((ac ω).trans (xJ (not_false c) (fX d))).symm⟩)))
 refine aX 270126 b ?_;refine cz aB Z Ä b (λH a b e f=>bw aB cy Z f 2 Z (λH a g=>?_));have H:=bH.1 (not_false c);refine ge 0x9f4d206f337f9253 g (λH=>?_) (λH=>?_)
 .refine aX 3668261 g ?_;refine sE func75 Z (k9 η) g (λH a b=>br 166973732 (λH=>?_) (λH=>?_))
  .refine aT (sR 2 Z (rN D Z ?_));have C:=(pL (s:=s) ω).trans (DZ ω);have F:=iF (s:=s) (not_false c) (not_false d) ω;exact⟨b.ext,congrArg (é .i64) ((ac ω).trans (F.trans C)).symm⟩
  refine aX 17704284766 b ?_;refine sE func168 Z (zY η (b.Ae 0 Z) (b.Ae 1 Z) (b.Ae 2 Z) η) b (λH a b=>sV Z (cj Z) (aH (gG Z (λH=>?_) (λH=>?_))))
  .refine aT (rA D Z Z ?_);have C:=(pL (s:=s) ω).trans (r5 ω (fX H));have F:=iF (s:=s) (not_false c) (not_false d) ω;exact⟨b.ext,congrArg (é .i64) ((ac ω).trans (F.trans C)).symm⟩
  refine bi (aT (sF cu Z ts9 (cL aB ts9 Z b 2 Z (λa b e=>aH (aT (sF cu Z ts2 (cL aB ts2 Z e 2 Z (λa b e=>aH (aT (sF cu Z eF (cL aB eF Z e 2 Z (λa b e=>?_))))))))))));replace e:=bt e;refine aH (ce (sF cu Z cH (cL aB cH Z e 2 Z (λa b e=>aX 4321875 e ?_))));refine sE func171 Z (ka (r:=⟨r.Kind,r.Seq,⟨#[]⟩,0,r.Group,r.Row,[],[],r.Ad⟩) (Q8 R) ⟨[],.inr (.inl ⟨Z,Z,Z⟩)⟩ ⟨[],.inr (.inl ⟨Z,Z,Z⟩)⟩ (e.Ae 2 Z)) e (λa b e=>sV Z (cj Z) (aH (gG Z (λa=>?_) (λa=>?_))))
  .refine aT (rA D Z Z ?_);have C:=(pL (s:=s) ω).trans (uE ω (not_false H));exact⟨e.ext,congrArg (é .i64) ((ac ω).trans (oY (not_false c) (not_false d) C (by rw[<- DT ω];exact fX a))).symm⟩
  refine bi (aT (rA D Z Z ?_));have C:=(pL (s:=s) ω).trans (uE ω (not_false H));exact⟨e.ext,congrArg (é .i64) ((ac ω).trans (lA (not_false c) (not_false d) C (by rw[<- DT ω];exact not_false a))).symm⟩
 refine br 652498 (λH=>?_) (λH=>?_)
 .refine aW (aW (ep g (oQ [1,3,5,7,9,10,13,15,17,19,21,23,25,26,29,31,33,35,37,39,41,42,45,47,49,51,53,55,57,58,61,62]) (λH h=>aX 0x50f5bf52f5bf52f h ?_)));refine dC Ĥ Z cV (λH a j=>?_);obtain⟨k,rfl⟩:=j;have f:=h.to k;refine dV Z (λL G=>cj Z) (dM Z (dU (t:=49) Z (λH=>?_) (λH=>?_)))
  .replace H:=φ H
   refine aG 0x4f7afafefaaaab56fafefaaaab56fafefaaaaa ?_;refine eL Z (aT (rA D Z Z ?_));have C:=iA (s:=s) ω pP;have F:=iF (s:=s) (not_false c) (not_false d) ω;exact⟨f.ext,congrArg (é .i64) ((ac ω).trans (F.trans C)).symm⟩
  replace H:=φ H
  refine aX 0xbcfc7fbefc7fbef h ?_;refine cb Z (wg Z) Z (pcK Ĥ Z) cV τ1 (λH a l=>?_);obtain⟨m,rfl⟩:=l;have n:=f.to m;refine eS Z (wg Z) Z (λL G=>cj Z) (dV Z υ9 (dM Z (dU (t:=58) Z (λH=>?_) (λH=>?_))))
  .replace H:=φ H
   refine aG 0x4f7afafefaaaab56fafefaaaa ?_;refine eL Z (aT (rA D Z Z ?_));have C:=iA (s:=s) ω pP;have F:=iF (s:=s) (not_false c) (not_false d) ω;exact⟨n.ext,congrArg (é .i64) ((ac ω).trans (F.trans C)).symm⟩
  replace H:=φ H
  refine aX 0xd1fbffc7fbef h ?_;refine cb Z (wg Z) Z (pcK œ Z) (fB η) τ1 (λH a O=>?_);obtain⟨p,rfl⟩:=O;have b:=n.to p;refine aG 190315407 ?_;refine dU (t:=66) Z (λH=>?_) (λH=>?_)
  .replace H:=φ H
   refine aG 0x4f7afafefaaaa ?_;refine eL Z (aT (rA D Z Z ?_));have C:=iA (s:=s) ω pP;have F:=iF (s:=s) (not_false c) (not_false d) ω;exact⟨b.ext,congrArg (é .i64) ((ac ω).trans (F.trans C)).symm⟩
  replace H:=φ H
  refine aX 0xd1fbffc7fbef h ?_;refine cb Z (wg Z) Z (pcK œ Z) (fB η) τ1 (λH a e=>?_);obtain⟨q,rfl⟩:=e;have H:=b.to q;refine br 0x9f04f7bfb8f (λa=>?_) (λa=>?_)
  .refine aT (rA D Z Z ?_);have C:=iA (s:=s) ω pP;have F:=iF (s:=s) (not_false c) (not_false d) ω;exact⟨H.ext,congrArg (é .i64) ((ac ω).trans (F.trans C)).symm⟩
  refine bi (aT (sF cu Z ts2 (cL aB ts2 Z H 2 Z (λH a b=>aH (aT (sF cu Z ts2 (cL aB ts2 Z b 2 Z (λH a b=>aH (aT (sF cu Z cH (cL aB cH Z b 2 Z (λH a b=>?_))))))))))));replace b:=bt b;refine aH (ce (sF cu Z cH (cL aB cH Z b 2 Z (λH a b=>aX 4321875 b ?_))));refine sE func171 Z (ka (r:=⟨r.Kind,r.Seq,r.Name,r.Length,0,0,r.Rows,[],[]⟩) (N5 R) (b.Ae 0 Z) ⟨[],.inr (.inl ⟨Z,Z,Z⟩)⟩ ⟨[],.inr (.inl ⟨Z,Z,Z⟩)⟩) b (λH a b=>sV Z (cj Z) (aH (gG Z (λH=>?_) (λH=>?_))))
  .refine aT (rA D Z Z ?_);have C:=qK (s:=s) ω pP;exact⟨b.ext,congrArg (é .i64) ((ac ω).trans (oY (not_false c) (not_false d) C (by rw[<- D4 ω];exact fX H))).symm⟩
  refine bi (aT (rA D Z Z ?_));have C:=qK (s:=s) ω pP;exact⟨b.ext,congrArg (é .i64) ((ac ω).trans (lA (not_false c) (not_false d) C (by rw[<- D4 ω];exact not_false H))).symm⟩
 refine br 652498 (λH=>?_) (λH=>?_)
 .refine aW (aW (ep g (oQ [1,3,5,6,9,10,12]) (λH f=>aX 27369665839 f ?_)));refine dC ğ Z (cP η) (λH a h=>?_);obtain⟨j,rfl⟩:=h;have k:=f.to j;refine dV Z (λL G=>sT Z Z iO) (dC Ĥ Z cV (λH a l=>?_));obtain⟨m,rfl⟩:=l;have H:=k.to m;refine dD Z aB Z (cj Z) (dO (gG Z (λa=>?_) (λa=>?_)))
  .refine aT (rA D Z Z ?_);have C:=we (s:=s) ω (fX a);have F:=iF (s:=s) (not_false c) (not_false d) ω;exact⟨H.ext,congrArg (é .i64) ((ac ω).trans (F.trans C)).symm⟩
  refine bi (ce (sF cu Z ts2 (cL aB ts2 Z H 2 Z (λH b e=>aX 4321875 e ?_))));refine sE func171 Z (ka (r:=⟨r.Kind,r.Seq,r.Name,r.Length,0,r.Row,r.Rows,r.Data,r.Ad⟩) (Oj R) (e.Ae 0 Z) (e.Ae 1 Z) (e.Ae 2 Z)) e (λH b e=>sV Z (cj Z) (aH (gG Z (λH=>?_) (λH=>?_))))
  .refine aT (rA D Z Z ?_);have C:=qX (s:=s) ω (not_false a);exact⟨e.ext,congrArg (é .i64) ((ac ω).trans (oY (not_false c) (not_false d) C (by rw[<- DF ω];exact fX H))).symm⟩
  refine bi (aT (rA D Z Z ?_));have C:=qX (s:=s) ω (not_false a);exact⟨e.ext,congrArg (é .i64) ((ac ω).trans (lA (not_false c) (not_false d) C (by rw[<- DF ω];exact not_false H))).symm⟩
 refine br 652498 (λH=>?_) (λH=>?_)
 .refine aW (aW (ep g (oQ [1,3,5,6,9,10,13,15,17,19,21,23,25,26,29,31,33,35,37,39,40,43,44,47,49,51,53,55,57,59,60,63,65,67,69,71,72,75,76]) (λH g=>aX 27369665839 g ?_)));refine dC ğ Z (cP η) (λH a n=>?_);obtain⟨O,rfl⟩:=n;have p:=g.to O;refine dV Z (λL G=>sT Z Z iO) (dC Ĥ Z cV (λH a q=>?_));obtain⟨u,rfl⟩:=q;have x:=p.to u;refine dV Z (λL G=>cj Z) (dM Z (dU (t:=97) Z (λy=>?_) (λy=>?_)))
  .replace y:=φ y
   refine aG 0x4f7afafefaab56fafefaaaab56fafefafefaaab56fafefaaaaa ?_;refine eL Z (aT (rA D Z Z ?_));have C:=(g9 (s:=s) ω).trans (ac wU);have F:=iF (s:=s) (not_false c) (not_false d) ω;exact⟨x.ext,congrArg (é .i64) ((ac ω).trans (F.trans C)).symm⟩
  replace y:=φ y
  refine aX 0xbcfc7fbefc7fbef g ?_;refine cb Z (wg Z) Z (pcK Ĥ Z) cV τ1 (λH a z=>?_);obtain⟨A,rfl⟩:=z;have f:=x.to A;refine eS Z (wg Z) Z (λL G=>cj Z) (dV Z υ9 (dM Z (dU (t:=106) Z (λH=>?_) (λH=>?_))))
  .replace H:=φ H
   refine aG 0x4f7afafefaab56fafefaaaab56fafefafefaaa ?_;refine eL Z (aT (rA D Z Z ?_));have C:=(g9 (s:=s) ω).trans (ac wU);have F:=iF (s:=s) (not_false c) (not_false d) ω;exact⟨f.ext,congrArg (é .i64) ((ac ω).trans (F.trans C)).symm⟩
  replace H:=φ H
  refine aX 56367774703 g ?_;refine cb Z (wg Z) Z (pcK ğ Z) (cP η) τ1 (λH a h=>?_);obtain⟨j,rfl⟩:=h;have b:=f.to j;refine eS Z (wg Z) Z (λL G=>sT Z Z iO) (cb Z (wg Z) Z (pcK func169 Z) (z7 (b.Ae 0 Z) ω) τ1 (λH a e=>?_));obtain⟨k,rfl⟩:=e;have l:=b.to k;refine eS Z (wg Z) Z (λL G=>cj Z) (dV Z υ9 (dM Z (dU (t:=115) Z (λm=>?_) (λm=>?_))))
  .replace m:=φ m
   refine aG 0x4f7afafefaab56fafefaaaa ?_;refine eL Z (aT (rA D Z Z ?_));have C:=(g9 (s:=s) ω).trans (ac wU);have F:=iF (s:=s) (not_false c) (not_false d) ω;exact⟨l.ext,congrArg (é .i64) ((ac ω).trans (F.trans C)).symm⟩
  replace m:=φ m
  refine aX 0xd1fbffc7fbef g ?_;refine cb Z (wg Z) Z (pcK œ Z) (fB η) τ1 (λH a n=>?_);obtain⟨O,rfl⟩:=n;have f:=l.to O;refine aG 190315407 ?_;refine dU (t:=123) Z (λH=>?_) (λH=>?_)
  .replace H:=φ H
   refine aG 5461850976170 ?_;refine eL Z (aT (rA D Z Z ?_));have C:=(g9 (s:=s) ω).trans (ac wU);have F:=iF (s:=s) (not_false c) (not_false d) ω;exact⟨f.ext,congrArg (é .i64) ((ac ω).trans (F.trans C)).symm⟩
  have W:=bH.1 (not_false y);have N:∀i,i<r.Rows.length->0<=r.Rows.getD i 0/\r.Rows.getD i 0<s.A2+s.A5:=λi M=>by have:=pi (not_false m) i M;omega
  refine aX 13761823 g ?_;refine cb Z (wg Z) Z (pcK func170 Z) (vX η (f.Ae 0 Z) (f.Ae 1 Z) (f.Ae 2 Z) η ω N) τ1 (λH a g=>?_);obtain⟨p,rfl⟩:=g;have H:=f.to p;refine eS Z (wg Z) Z (λL G=>cj Z) (br 2936338367 (λa=>?_) (λa=>?_))
  .refine aT (rA D Z Z ?_);have C:=(g9 (s:=s) ω).trans (ac wU);have F:=iF (s:=s) (not_false c) (not_false d) ω;exact⟨H.ext,congrArg (é .i64) ((ac ω).trans (F.trans C)).symm⟩
  refine bi (aT (sF cu Z cH (cL aB cH Z H 2 Z (λH a b=>aH (aT (sF cu Z ts2 (cL aB ts2 Z b 2 Z (λH a b=>?_))))))));replace b:=bt b;refine aH (aT (sF cu Z ts2 (cL aB ts2 Z b 2 Z (λH a b=>aH (aT (sF cu Z eF (cL aB eF Z b 2 Z (λH a b=>aH (ce (sF cu Z cH (cL aB cH Z b 2 Z (λH a b=>aX 4321875 b ?_))))))))))));refine sE func171 Z (ka (r:=⟨r.Kind,r.Seq,r.Name,r.Length,0,0,[],[],[]⟩) (O6 R) ⟨[],.inr (.inl ⟨Z,Z,Z⟩)⟩ ⟨[],.inr (.inl ⟨Z,Z,Z⟩)⟩ ⟨[],.inr (.inl ⟨Z,Z,Z⟩)⟩) b (λH a b=>sV Z (cj Z) (aH (gG Z (λH=>?_) (λH=>?_))))
  .refine aT (rA D Z Z ?_);have C:=(g9 (s:=s) ω).trans (ae wU);exact⟨b.ext,congrArg (é .i64) ((ac ω).trans (oY (not_false c) (not_false d) C (by rw[<- Ef ω];exact fX H))).symm⟩
  refine bi (aT (rA D Z Z ?_));have C:=(g9 (s:=s) ω).trans (ae wU);exact⟨b.ext,congrArg (é .i64) ((ac ω).trans (lA (not_false c) (not_false d) C (by rw[<- Ef ω];exact not_false H))).symm⟩
 exfalso;omega

theorem yk{w:ä}(K:b.Ok)(B:aj w a_ b.Bytes b_):am 143 [b.val a_ b_] w λv W=>v = .bool (gK b):=by
 obtain⟨H,a⟩:=B;refine bv func143 Z (λQ h N=>?_);have H:=Sep.start (aC a ba);refine aT (ci aB Z H (λH a c d e=>aX 3668260 e ?_));refine sE Ĳ Z cT e (λH a c=>sM Z (cU 4 (j:=3) (E:=ã) (t:=10) Z (λH a=>ld 0x94f9bfa3f9af c H a) (λH a=>?_)));have H:=c.to a;refine sV Z (cX Z) (rA h Z Z ?_);exact⟨H.ext,congrArg ó (by simp only[gK];congr 1;exact decide_eq_decide.2 ω)⟩

theorem uO{w:ä}(B:b.Ok)(f:aj w a_ b.Bytes b_):am 142 [b.val a_ b_] w λv W=>v = .bool (!gK b):=by
 have H:=cx B;obtain⟨H,a⟩:=f;refine bv func142 Z (λQ h N=>?_);have H:=Sep.start (aC a ba);refine aT (ci aB Z H (λH a c d e=>aX 270116 e ?_));exact sE func143 Z (yk η (e.Ae 0 Z)) e (λH a c=>sV Z (cj Z) (sA Z (aH (rT h Z ⟨c.ext,Z⟩))))

theorem xh{w:ä}(zK:z.Ok)(L:aj w Q z.A2 Y)(b_:aj w U z.On V)(c_:aj w T z.A3 O)(W:z.A0.ok=ã):am 94 [z.val Q Y U V T O] w λv w'=>v = .bool (b7 z):=by
 have H:=cx zK;have H:=sL L;obtain⟨H,a⟩:=L;obtain⟨H,c⟩:=b_;obtain⟨H,d⟩:=c_;have i_:=bm W;refine bv func94 Z (λh_ r hN=>?_);have H:=Sep.start (aC a (aC c (aC d ba)));refine aT (ci aB Z H (λH f g a c=>aX 4389156 c ?_));refine cz aB Z Ŭ c (λH a c d h=>bw aB lZ Z h 1 Z (λH a c=>aH (aW (aW (ep c (oQ [1,3,7,4,8,10]) (λH j=>aX 27369665839 j ?_))))));refine dC func138 Z (wa (j.Ae 0 Z)) (λH a l=>?_);obtain⟨m,rfl⟩:=l;have n:=j.to m;refine dC func21 Z (gy η) (λH a o=>?_);obtain⟨q,rfl⟩:=o;have H:=n.to q;refine br 2667902735 (λa=>?_) (λa=>?_)
 .exact aT (sA Z (aH (rT r Z ⟨H.ext,congrArg ó (xR ω).symm⟩)))
 refine aX 0x6f312ff37f925e H ?_;refine dr (a:=Nat) H [(3,_),(17,_),(18,_)] bf (λk=>[(19,ag k)]) (λk=>k<=z.A2.length/\(∀i,i<k->iK z.A0 (z.A2.getD i [])=ã)) (λk=>z.A2.length-k) 0 ⟨Z,trivial⟩ ⟨ω,λi y=>by omega⟩ (λk H s ⟨hk,K⟩=>?_);dsimp only[jf,lNA];refine br 10441682 (λH=>?_) (λH=>?_)
 .obtain⟨H,a,c,d,h,j,l,m,n⟩:=fA (s.Ab 0 Z) k ω;have H:=s.look1 0 Z m n;refine aG 0x55438f3ef206f5e ?_;refine ep H (oQ [1,5,2,6,8]) (λH u=>aX 26107 u ?_);refine dC func139 Z (BL (u.Ae 3 Z)) (λH a x=>?_);obtain⟨a_,rfl⟩:=x;have A:=u.to a_;refine dC func22 Z (go η) (λH a B=>?_);obtain⟨C,rfl⟩:=B;have H:=A.to C;refine br 2667902735 (λa=>?_) (λa=>?_)
  .exact aT (sA Z (aH (rT r Z ⟨H.ext,congrArg ó (lT k ω (BD ω)).symm⟩)))
  refine aG 477566595374 ?_;refine dr (a:=Nat) H [(3,_),(17,_),(18,_),(19,_),(28,_),(29,_)] bf (λD=>[(30,ag D)]) (λD=>D<=(z.A2.getD k []).length/\(∀i,i<D->fK z.A0 ((z.A2.getD k []).getD i à)=ã)) (λD=>(z.A2.getD k []).length-D) 0 ⟨Z,trivial⟩ ⟨ω,λi y=>by omega⟩ (λD H E ⟨a,F⟩=>?_);dsimp only[jf,lNA];refine br 10441682 (λH=>?_) (λH=>?_)
  .obtain⟨H,a,c,d,h,j,G,I,l⟩:=cR (E.Ab 3 Z) D ω;obtain⟨d_,e_,f_,rfl,M,g_,J⟩:=iS G;refine bi (aW (bP (aW ?_)));have H:=E.look1 3 Z J (λb N=>I b (by rw[M];simp[N]));have a:=oL J;refine aG 68108022 ?_;refine cz aB Z Ķ H (λH a c d h=>bw aB oT Z h 2 Z (λH a c=>aH (aW (ep c (oQ [1,3,7,9,4,11,13,15,17,18,20]) (λH P=>aX 0x5bf52f5bf52f P ?_)))));refine dC func140 Z (BP (P.Ae 4 Z)) (λH a R=>?_);obtain⟨S,rfl⟩:=R;have o:=P.to S;refine dR 2 Z (dU (t:=40) Z (λH=>?_) (λH=>?_))
   .replace H:=φ H
    refine aG 341366009770 ?_;exact eL Z (aT (sA Z (aH (rT r Z ⟨o.ext,congrArg ó (lT k ω (sZ D ω (AX ω))).symm⟩))))
   replace H:=φ H
   refine aX 13106159 P ?_;refine cb Z (wg Z) Z (pcK func141 Z) (rI (o.Ae 4 Z) (p:=(λb => !gK b)) func142 Z KS (λf g H a _ _ c X=>uO c X)) τ1 (λH a f=>?_);obtain⟨g,rfl⟩:=f;have H:=o.to g;refine br 2936338367 (λm=>?_) (λm=>?_)
   .exact aT (sA Z (aH (rT r Z ⟨H.ext,congrArg ó (lT k ω (sZ D ω (Jz m))).symm⟩)))
   refine aG 203886 ?_;refine⟨D+1,bf,⟨((H.Aq 4).dtake 2),ω,λi y=>?_⟩,θ⟩
   by_cases e:i=D
   .subst e;exact Hy ω m
   exact F i ω
  refine bu (aG 12742 ?_);refine⟨k+1,bf,⟨(E.Aq 3),ω,λi y=>?_⟩,θ⟩
  by_cases e:i=k
  .subst e;exact Bk ω (λi y=>F i ω)
  exact K i ω
 exact bu (aT (sA Z (aH (rT r Z ⟨s.ext,congrArg ó (xN ω (λi y=>K i ω)).symm⟩))))

theorem El{w:ä}(K:z.Ok)(y:aj w Q z.A2 Y)(u:aj w U z.On V)(x:aj w T z.A3 O)(C:z.A0.ok=ã):am 95 [z.val Q Y U V T O] w λv W=>v = .bool (rm z):=by
 obtain⟨H,a⟩:=y;have H:=sL u;obtain⟨H,b⟩:=u;obtain⟨H,c⟩:=x;refine bv func95 Z (λA q N=>?_);have H:=Sep.start (aC a (aC b (aC c ba)));refine aT (ci aB Z H (λH a b c d=>aX 0x6f312ff37f9254 d ?_));refine dr (a:=Nat) d [(1,_),(6,_),(7,_)] bf (λk=>[(8,ag k)]) (λk=>k<=z.On.length/\(∀i,i<k->apartAt z.On (z.A0.A2+z.A0.A5-1) i=ã)) (λk=>z.On.length-k) 0 ⟨Z,trivial⟩ ⟨ω,λi s=>by omega⟩ (λk H f ⟨B,r⟩=>?_);dsimp only[jf,lNA];refine br 10441682 (λH=>?_) (λH=>?_)
 .obtain⟨H,a,b,c⟩:=dW (f.Ab 1 Z) k ω;have H:=gM (f.Ab 1 Z) k ω;refine aX 0x142f924738f3ef1206f5e f ?_;refine sE func43 Z (fS η) f (λH a b=>sV Z (cj Z) (sM Z (cZ (t:=18) Z (λH=>?_) (λH=>?_))))
  .replace H:=φ H
   refine aG 219840809096 ?_;refine eL Z (aT (rA q Z Z ?_));exact⟨b.ext,congrArg ó (Dv (sG k ω F1)).symm⟩
  replace H:=φ H
  have H:=di (b.Ab 1 Z);obtain⟨H,a,c⟩:=fG (b.Ab 1 Z) (0) (k) _ ω ω ω (aN _);refine aX 38917110191 b ?_;have g:=b.look1 1 Z a c;have H:=fb (x:=z.On) (l:=0) (h:=k) ω;refine bc (wg Z) Z (fW cS ts2 Z (k) ω ω H) ((bc (wg Z) Z (bL Z) (dE (wg Z) Z (pcK func80 Z) (eV (g.Ae 3 Z)) (λH a j=>?_))));obtain⟨m,rfl⟩:=j;have H:=g.to m;refine br 11481919 (λa=>?_) (λa=>?_)
  .refine aT (rA q Z Z ?_);exact⟨H.ext,congrArg ó (Dv (sG k ω F1)).symm⟩
  refine aG 203886 ?_;refine⟨k+1,bf,⟨(H.Aq 3),ω,λi s=>?_⟩,θ⟩
  by_cases e:i=k
  .subst e;simp only[apartAt,ky] at *;simp_all
  exact r i ω
 refine bu (aW (ep f (oQ [1,3,7,9,11,4,13,15,17,19,21,23,25,27,29,31,33,35,36]) (λH n=>aX 0x5bf52f52f5bf52f n ?_)));refine dC func45 Z (iT (n.Ae 1 Z)) (λH a o=>?_);obtain⟨p,rfl⟩:=o;have H:=n.to p;refine dR 2 Z (dU (t:=34) Z (λa=>?_) (λa=>?_))
 .replace a:=φ a
  refine aX 0xb4fb8fbffc7fbef n ?_;refine dU (t:=39) Z (λb=>?_) (λb=>?_)
  .replace b:=φ b
   refine aG 0x4f6df56fc2faaa ?_;exact rT q Z ⟨H.ext,congrArg ó (AO (jn λi s=>r i ω) mZ).symm⟩
  replace b:=φ b
  refine aX 13106159 n ?_;refine eS Z (wg Z) Z (λE D=>cj Z) (aG 5458355485759 ?_);exact rT q Z ⟨H.ext,congrArg ó (AO (jn λi s=>r i ω) mZ).symm⟩
 replace a:=φ a
 refine aG 699050 ?_;refine eK Z (wou Z) Z (eK Z (wou Z) Z (eK Z (wou Z) Z (dKf Z Z Z Z (dV Z υ9 (dD Z aB Z (cr Z) (dO (rT q Z ?_)))))));exact⟨H.ext,congrArg ó (AO (jn λi s=>r i ω) (by rw[a8 ω];rfl)).symm⟩

theorem sX{w:ä}{t:Tape}(K:t.Ok)(T:aj w c_ t.Ah d_):am 145 [t.val c_ d_] w λv W=>v = .bool (fT t):=by
 obtain⟨H,a⟩:=T;refine bv func145 Z (λQ h N=>?_);have H:=Sep.start (aC a ba);refine aT (ci aB Z H (λH a b c d=>aX 5304271501604 d ?_));exact rT h Z ⟨d.ext,Z⟩

theorem tC{w:ä}{t:Tape}(K:t.Ok)(T:aj w c_ t.Ah d_):am 147 [t.val c_ d_] w λv W=>v = .bool (fa t):=by
 obtain⟨H,a⟩:=T;refine bv func147 Z (λQ h N=>?_);have H:=Sep.start (aC a ba);refine aT (ci aB Z H (λH a b c d=>aX 20445476 d ?_));refine cU 4 (j:=2) (E:=ã) (t:=9) Z (λH a=>ld 0x94f9bfa3f9af d H a) (λH a=>?_);have H:=d.to a;exact sV Z (cX Z) (sA Z (aH (rT h Z ⟨H.ext,congrArg ó (by simp[fa])⟩)))

theorem uM{w:ä}(zK:z.Ok)(X:aj w Q z.A2 Y)(W:aj w U z.On V)(L:aj w T z.A3 O)(hs:z.A0.ok=ã):am 96 [z.val Q Y U V T O] w λv w'=>v = ag (il z):=by
 obtain⟨H,a⟩:=X;obtain⟨H,c⟩:=W;have H:=sL L;obtain⟨H,d⟩:=L;refine bv func96 Z (λg_ r hN=>?_);have H:=Sep.start (aC a (aC c (aC d ba)));refine aT (ci aB Z H (λH e f a c=>aX 58692180 c ?_));refine sE func144 Z (mq (c.Ae 2 Z) (p:=fT) func145 Z K6 (λe f g h _ _ i I=>sX i I)) c (λH a c=>aH (gG Z (λH=>?_) (λH=>?_)))
 .exact aT (sA Z (aH (rT r Z ⟨c.ext,congrArg (é .i64) (nQ H).symm⟩)))
 have M:=H;refine aX 0x6f312ff37f925e c ?_;refine dr (a:=Nat) c [(1,_),(12,_),(13,_)] bf (λk=>[(14,ag k)]) (λk=>k<=z.A3.length/\gV z.A0 z.A3 k=0) (λk=>z.A3.length-k) 0 ⟨Z,trivial⟩ ⟨ω,Z⟩ (λk H j ⟨hk,t⟩=>?_);dsimp only[jf,lNA];refine br 10441682 (λH=>?_) (λH=>?_)
 .obtain⟨H,a,c,d,l,m,n,o,h_⟩:=cR (j.Ab 2 Z) k ω;obtain⟨i_,j_,k_,rfl,u,x,y⟩:=fd n;refine bi (aW (bP (aW ?_)));have H:=j.look1 2 Z y (λb q=>o b (by rw[u];simp[q]));have a:=oL y;refine aG 68108022 ?_;refine cz aB Z zeroValue92 H (λH a c d l=>bw aB yS Z l 1 Z (λH a c=>aX 0x6f312ff37f923 c ?_));refine dr (a:=Nat) c [(1,_),(12,_),(13,_),(14,_),(19,_),(20,_)] bf (λK=>[(21,ag K)]) (λK=>K<=(z.A3.getD k à).Ah.length/\ij z.A0 (z.A3.getD k à).Ah K=0) (λK=>(z.A3.getD k à).Ah.length-K) 0 ⟨Z,trivial⟩ ⟨ω,Z⟩ (λK H A ⟨a,B⟩=>?_);dsimp only[jf,lNA];refine br 10441682 (λH=>?_) (λH=>?_)
  .obtain⟨H,a,c,d,l,m,C,D,n⟩:=cR (A.Ab 3 Z) K ω;obtain⟨E,F,G,a_,b_,c_,d_,e_,f_,rfl,s,P,R,S,N⟩:=dX C;have H:=cx P;refine bi (aW (bP (aW ?_)));have H:=A.look1 3 Z R (λb q=>D b (by rw[s];simp[q]));have a:=H.look1 3 Z S (λb q=>D b (by rw[s];simp[q]));have H:=a.look1 3 Z N (λb q=>D b (by rw[s];simp[q]));refine aG 68108022 ?_;refine cz aB Z Ä H (λH a c d l=>bw aB cy Z l 2 Z (λH a c=>aX 17704352035 c ?_));refine sE func146 Z (wH η (c.Ae 4 Z) (c.Ae 5 Z) (c.Ae 6 Z) η) c (λH a c=>br 166973732 (λH=>?_) (λH=>?_))
   .exact aT (sR 2 Z (aH (rT r Z ⟨c.ext,congrArg (é .i64) ((xo M (k:=k) (K:=K) ω t ω B ω)).symm⟩)))
   refine aG 203886 ?_;refine⟨K+1,bf,⟨((c.Aq 4).dtake 2),ω,(kG B).trans ω⟩,θ⟩
  refine bu ?_;obtain rfl:K=(z.A3.getD k à).Ah.length:=by omega
  refine aG 12742 ?_;refine⟨k+1,bf,⟨((A.Aq 3).dtake 1),ω,(ks t).trans B⟩,θ⟩
 refine bu ?_;obtain rfl:k=z.A3.length:=by omega
 have J:=t;refine aX 3668261 j ?_;refine sE func144 Z (mq (j.Ae 2 Z) (p:=fa) func147 Z Kr (λe f g h _ _ i I=>tC i I)) j (λH a c=>aH (gG Z (λH=>?_) (λH=>?_)))
 .exact aT (sA Z (aH (rT r Z ⟨c.ext,congrArg (é .i64) (uH M J H).symm⟩)))
 exact bi (aT (sA Z (aH (rT r Z ⟨c.ext,congrArg (é .i64) (vh M J H).symm⟩))))

theorem xX{w:ä}(zK:z.Ok)(G:aj w Q z.A2 Y)(c_:aj w U z.On V)(d_:aj w T z.A3 O)(hs:z.A0.ok=ã):am 113 [z.val Q Y U V T O] w λb_ w'=>b_ = .bool (b7 z):=by
 have H:=cx zK;have H:=sL G;obtain⟨H,a⟩:=G;obtain⟨H,c⟩:=c_;obtain⟨H,d⟩:=d_;have l_:=bm hs;refine bv func113 Z (λh_ v hN=>?_);have H:=Sep.start (aC a (aC c (aC d ba)));refine aT (ci aB Z H (λH a c d f=>aX 4389156 f ?_));refine cz aB Z Ŭ f (λH a c d f=>bw aB lZ Z f 1 Z (λH a c=>aH (aW (aW (ep c (oQ [1,3,5,7,8,10]) (λH g=>aX 0x65f53f5bf52f g ?_))))));refine dC ğ Z (cP η) (λH a h=>?_);obtain⟨l,rfl⟩:=h;have H:=g.to l;refine br 2667902735 (λa=>?_) (λa=>?_)
 .exact aT (sA Z (aH (rT v Z ⟨H.ext,congrArg ó (xR ω).symm⟩)))
 refine aG 7291486 ?_;refine dr (a:=Nat) H [(1,_),(3,_)] bf (λk=>[(4,ag k)]) (λk=>k<=z.A2.length/\(∀i,i<k->iK z.A0 (z.A2.getD i [])=ã)) (λk=>z.A2.length-k) 0 ⟨Z,trivial⟩ ⟨ω,λi q=>by omega⟩ (λk H m ⟨hk,E⟩=>?_);dsimp only[jf,lNA];refine ge 0x9f3d2ff37f9125 m (λH=>?_) (λH=>?_)
 .obtain⟨H,a,c,d,f,g,h,l,n⟩:=fA (m.Ab 0 Z) k ω;have H:=m.look1 0 Z l n;refine bi (aW (bP (aW (aW (ep H (oQ [1,3,5,7,9,11,13,14,16]) (λH o=>aX 0x65f53f5cf62fb5bf52f o ?_))))));refine dC func97 Z (lJ η) (λH a p=>?_);obtain⟨a_,rfl⟩:=p;have H:=o.to a_;refine br 2667902735 (λa=>?_) (λa=>?_)
  .exact aT (sA Z (aH (rT v Z ⟨H.ext,congrArg ó (lT k ω (BD ω)).symm⟩)))
  refine aG 455726 ?_;refine dr (a:=Nat) H [(1,_),(3,_),(4,_)] bf (λr=>[(5,ag r)]) (λr=>r<=(z.A2.getD k []).length/\(∀i,i<r->fK z.A0 ((z.A2.getD k []).getD i à)=ã)) (λr=>(z.A2.getD k []).length-r) 0 ⟨Z,trivial⟩ ⟨ω,λi q=>by omega⟩ (λr H a ⟨c,s⟩=>?_);dsimp only[jf,lNA];obtain⟨H,c,d,f,g,h,l,n,o⟩:=fA (a.Ab 0 Z) k ω;have u:=a.look1 0 Z n o;refine aG 37157 ?_;refine sLd ie (u.box 0 Z) Z (br 0x9f3d2ff38f3ef1 (λH=>?_) (λH=>?_))
  .obtain⟨H,a,c,d,f,x,g,h,l⟩:=fA (u.Ab 0 Z) k ω;have y:=u.look1 0 Z h l;obtain⟨H,a,c,d,f,g,A,B,h⟩:=cR (y.Ab 5 Z) r ω;obtain⟨C,e_,f_,rfl,F,g_,I⟩:=iS A;refine bi (aW (bP (aW ?_)));have H:=y.look1 5 Z I (λb D=>B b (by rw[F];simp[D]));have a:=oL I;refine ce (sF eC Z pS (sLd ie (H.box 0 Z) Z (sM Z (sV Z (bR ie nn Z x k ω ω) (aG 0x92ff12543df93ef138f ?_)))));refine sLd tu2 (H.box 1 Z) Z (br 40765 (λa=>?_) (λa=>?_))
   .exact aT (sA Z (aH (rT v Z ⟨H.ext,congrArg ó (lT k ω (sZ r ω (AX ω))).symm⟩)))
   refine aG 455726 ?_;refine dr (a:=Nat) H [(1,_),(3,_),(4,_),(5,_),(6,_)] bf (λJ=>[(7,ag J)]) (λJ=>J<=((z.A2.getD k []).getD r à).Ai.length/\(∀i,i<J->gK (((z.A2.getD k []).getD r à).Ai.getD i à)=ã)) (λJ=>((z.A2.getD k []).getD r à).Ai.length-J) 0 ⟨Z,trivial⟩ ⟨ω,λi q=>by omega⟩ (λJ H K ⟨a,L⟩=>?_);dsimp only[jf,lNA];refine br 0x9f3d2ff1125 (λH=>?_) (λH=>?_)
   .obtain⟨H,a,c,d,M,N,R,P,f⟩:=cR (K.Ab 6 Z) J ω;obtain⟨i_,j_,k_,rfl,S,W,X⟩:=nt R;have H:=cx W;refine bi (aW (bP (aW ?_)));have H:=K.look1 6 Z X (λb D=>P b (by rw[S];simp[D]));have a:=oL X;refine aG 261879689494 ?_;refine sE Ĥ Z cV H (λH a c=>sV Z (cj Z) (sM Z (cU 7 (j:=7) (E:=â) (t:=76) Z (λH d=>bc (wgE Z H) Z (bL Z) (bc (wgE Z H) Z (bL Z) (bc (wgE Z H) Z (bR wN zV Z M J wY ω) (bc (wgE Z H) Z (bd Po Z cH Z) (bc (wgE Z H) Z (bp cJ Z (gJ (a.at N) 1 Z)) (bc (wgE Z H) Z (od cJ Z) (bc (wgE Z H) Z (J9 Z Z) (d _ _ gP Z Ext.refl)))))))) (λH a=>?_))));have H:=c.to a;refine br 11481951 (λa=>?_) (λa=>?_)
    .exact aT (sA Z (aH (rT v Z ⟨H.ext,congrArg ó (lT k ω (sZ r ω (JX J ω (K5 a)))).symm⟩)))
    refine aG 311662 ?_;refine⟨J+1,bf,⟨(H.Aq 7),ω,λi q=>?_⟩,θ⟩
    by_cases e:i=J
    .subst e;exact Js η
    exact L i ω
   refine bu (aG 19478 ?_);refine⟨r+1,bf,⟨(K.Aq 4),ω,λi q=>?_⟩,θ⟩
   by_cases e:i=r
   .subst e;exact Ig ω (λi q=>L i ω)
   exact s i ω
  refine bu (aG 19478 ?_);refine⟨k+1,bf,⟨(u.Aq 3),ω,λi q=>?_⟩,θ⟩
  by_cases e:i=k
  .subst e;exact Bk ω (λi q=>s i ω)
  exact E i ω
 exact bu (aT (sA Z (aH (rT v Z ⟨m.ext,congrArg ó (xN ω (λi q=>E i ω)).symm⟩))))

theorem nV{w:ä}(K:z.Ok)(l:aj w Q z.A2 Y)(j:aj w U z.On V)(k:aj w T z.A3 O):am 54 [z.val Q Y U V T O] w λv W=>v = ag (c7 z):=by
 have H:=cx K;obtain⟨H,a⟩:=l;obtain⟨H,b⟩:=j;obtain⟨H,c⟩:=k;refine bv func54 Z (λq i N=>?_);have H:=Sep.start (aC a (aC b (aC c ba)));refine aT (ci aB Z H (λH a b c d=>aX 70226516 d ?_));refine sE func20 Z i9 d (λH a b=>br 166973732 (λH=>?_) (λH=>?_))
 .exact aT (sR 2 Z (aH (rT i Z ⟨b.ext,congrArg (é .i64) (ae ω).symm⟩)))
 have m:=gS (s:=z.A0) ω;refine aX 4321886 b ?_;refine sE func94 Z (xh η (b.Ae 0 Z) (b.Ae 1 Z) (b.Ae 2 Z) η) b (λH a e=>sV Z (cj Z) (sM Z (cZ (t:=14) Z (λH=>?_) (λH=>?_))))
 .replace H:=φ H
  refine aG 0x332f8888132f888 ?_;refine eL Z (aT (rA i Z Z ?_));exact⟨e.ext,congrArg (é .i64) ((ac ω).trans (ac jV)).symm⟩
 replace H:=φ H
 refine aX 2783 e ?_;refine dE (wg Z) Z (pcK func95 Z) (El η (e.Ae 0 Z) (e.Ae 1 Z) (e.Ae 2 Z) η) (λH a f=>?_);obtain⟨g,rfl⟩:=f;have H:=e.to g;refine bc (wg Z) Z (cj Z) (sV Z (fL Z Z) (sM Z (cZ (t:=19) Z (λa=>?_) (λa=>?_))))
 .replace a:=φ a
  refine aG 858753160 ?_;refine eL Z (aT (rA i Z Z ?_));exact⟨H.ext,congrArg (é .i64) ((ac ω).trans (ac jV)).symm⟩
 replace a:=φ a
 refine ge 0x9f333f94f9bfa3f9af H (λa=>?_) (λa=>?_)
 .refine aT (rA i Z Z ?_);exact⟨H.ext,congrArg (é .i64) ((ac ω).trans (ac jV)).symm⟩
 refine aX 4321886 H ?_;refine sE func96 Z (uM η (H.Ae 0 Z) (H.Ae 1 Z) (H.Ae 2 Z) η) H (λH a b=>br 166973732 (λH=>?_) (λH=>?_))
 .refine aT (sR 2 Z (rN i Z ?_));exact⟨b.ext,congrArg (é .i64) ((ac ω).trans ((ae jV).trans (ae ω))).symm⟩
 refine aX 58692190 b ?_;refine sE Ĳ Z cT b (λH a c=>sV Z (cj Z) (sM Z (cZ (t:=34) Z (λH=>?_) (λH=>?_))))
 .replace H:=φ H
  refine aG 858753160 ?_;refine eL Z (aT (rA i Z Z ?_));exact⟨c.ext,congrArg (é .i64) ((ac ω).trans ((ae jV).trans ((ac ω).trans (ac jV)))).symm⟩
 replace H:=φ H
 refine aX 10746287 c ?_;refine dE (wg Z) Z (pcK Ĳ Z) cT (λH a d=>?_);obtain⟨h,rfl⟩:=d;have H:=c.to h;refine bc (wg Z) Z (cj Z) (br 11481919 (λa=>?_) (λa=>?_))
 .refine aT (rA i Z Z ?_);exact⟨H.ext,congrArg (é .i64) ((ac ω).trans ((ae jV).trans ((ac ω).trans (ac jV)))).symm⟩
 refine bi (aT (rA i Z Z ?_));exact⟨H.ext,congrArg (é .i64) ((ac ω).trans ((ae jV).trans ((ac ω).trans (ae jV)))).symm⟩

theorem kb{w:ä}(K:z.Ok)(g:aj w Q z.A2 Y)(e:aj w U z.On V)(f:aj w T z.A3 O):am 42 [z.val Q Y U V T O] w λv W=>v = ag (upF z):=by
 have H:=cx K;obtain⟨H,a⟩:=g;obtain⟨H,b⟩:=e;obtain⟨H,c⟩:=f;refine bv func42 Z (λq h N=>?_);have H:=Sep.start (aC a (aC b (aC c ba)));refine aT (ci aB Z H (λH a b c d=>aX 4321876 d ?_));refine sE func54 Z (nV η (d.Ae 0 Z) (d.Ae 1 Z) (d.Ae 2 Z)) d (λH a b=>br 166973732 (λH=>?_) (λH=>?_))
 .exact aT (sR 2 Z (aH (rT h Z ⟨b.ext,congrArg (é .i64) (ae ω).symm⟩)))
 refine ge 752483275358 b (λH=>?_) (λH=>?_)
 .exact aT (sA Z (aH (rT h Z ⟨b.ext,congrArg (é .i64) ((ac ω).trans (ae η)).symm⟩)))
 refine bi (aT (rA h Z Z ?_));exact⟨b.ext,congrArg (é .i64) ((ac ω).trans (ac jV)).symm⟩

theorem ja{e_:ä}(zK:z.Ok)(o_:aj e_ Q z.A2 Y)(m_:aj e_ U z.On V)(n_:aj e_ T z.A3 O):am 72 [z.val Q Y U V T O] e_ λl_ w'=>l_ = ag (c7 z):=by
 have H:=cx zK;obtain⟨H,a⟩:=o_;obtain⟨H,c⟩:=m_;obtain⟨H,d⟩:=n_;refine bv func72 Z (λp_ v hN=>?_);have H:=Sep.start (aC a (aC c (aC d ba)));refine aT (ci aB Z H (λH a c d f=>aX 70226516 f ?_));refine sE func7 Z iY f (λH a c=>br 166973732 (λH=>?_) (λH=>?_))
 .exact aT (sR 2 Z (aH (rT v Z ⟨c.ext,congrArg (é .i64) (ae ω).symm⟩)))
 have hs:=gS (s:=z.A0) ω;have q_:=bm hs;refine bi (aW (aW (ep c (oQ [1,2,5,7,9,11,13,15,16,19,20,23,25,27,29,31,33,35,37,39,41,43,45,47,49,51,53,55,57,59,61,63,65,67,69,71,73,74]) (λH g=>aX 1631 g ?_))));refine dC func113 Z (xX η (g.Ae 0 Z) (g.Ae 1 Z) (g.Ae 2 Z) η) (λH a h=>?_);obtain⟨j,rfl⟩:=h;have l:=g.to j;refine dV Z (λzw hx=>cj Z) (dM Z (dU (t:=17) Z (λm=>?_) (λm=>?_)))
 .replace m:=φ m
  refine aG 0xaaab56faaaaaaab56fafefafefaaaa ?_;refine eK Z (wou Z) Z (eK Z (wou Z) Z (eK Z (wou Z) Z (eK Z (wou Z) Z (dKt Z Z Z Z (dV Z υ4 (dR 5 Z (dD Z aB Z (dJ Z Z) (dO (eL Z (aT (rA v Z Z ?_)))))))))));exact⟨l.ext,congrArg (é .i64) ((ac ω).trans (ac zR)).symm⟩
 replace m:=φ m
 refine aX 0xd2fbefc7fbef g ?_;refine cb Z (wg Z) Z (pcK ğ Z) (cP η) τ1 (λH a n=>?_);obtain⟨o,rfl⟩:=n;have p:=l.to o;refine eS Z (wg Z) Z (λzw hx=>sT Z Z iO) (cb Z (wg Z) Z (pcK func114 Z) (qd (p.Ae 1 Z)) τ1 (λH a q=>?_));obtain⟨u,rfl⟩:=q;have x:=p.to u;refine eS Z (wg Z) Z (λzw hx=>cj Z) (dV Z υ9 (dM Z (dU (t:=27) Z (λy=>?_) (λy=>?_))))
 .replace y:=φ y
  refine aG 0xaaab56faaaaaaa ?_;refine eK Z (wou Z) Z (eK Z (wou Z) Z (eK Z (wou Z) Z (eK Z (wou Z) Z (dKt Z Z Z Z (dV Z υ4 (dR 5 Z (dD Z aB Z (dJ Z Z) (dO (eL Z (aT (rA v Z Z ?_)))))))))));exact⟨x.ext,congrArg (é .i64) ((ac ω).trans (ac zR)).symm⟩
 replace y:=φ y
 refine aX 0xb57fb8fc7fbefbefbffc7fbef g ?_;refine dU (t:=36) Z (λc=>?_) (λc=>?_)
 .replace c:=φ c
  refine aG 2730 ?_;refine eK Z (wou Z) Z (eK Z (wou Z) Z (eK Z (wou Z) Z (eK Z (wou Z) Z (dKt Z Z Z Z (dV Z υ4 (dR 5 Z (dD Z aB Z (dJ Z Z) (dO (eL Z (aT (rA v Z Z ?_)))))))))));exact⟨x.ext,congrArg (é .i64) ((ac ω).trans (ac zR)).symm⟩
 replace c:=φ c
 refine aX 48583146479 g ?_;refine dU (t:=39) Z (λd=>?_) (λd=>?_)
 .replace d:=φ d
  refine aX 0xb57fc2fb8fbffc7fbef g ?_;refine dU (t:=46) Z (λf=>?_) (λf=>?_)
  .replace f:=φ f
   refine aG 21335354026 ?_;refine eL Z (aT (rA v Z Z ?_));exact⟨x.ext,congrArg (é .i64) ((ac ω).trans (ac zR)).symm⟩
  replace f:=φ f
  refine ge 0x9f04f7bfb8fbffc7fbef g (λH=>?_) (λH=>?_)
  .refine aT (rA v Z Z ?_);exact⟨x.ext,congrArg (é .i64) ((ac ω).trans (ac zR)).symm⟩
  refine bi (aW (aW ?_));have G:(b7 z && rm z && decide (z.A3.length=2))=true:=by rw[<- GY];simp_all<;>omega
  have a:z.A3.length=2:=by simp_all<;>omega
  obtain⟨H,c,f,h,j,l,m,n,o⟩:=cR (x.Ab 2 Z) 0 ω;obtain⟨p,q,u,rfl,y,A,B⟩:=fd m;have C:=x.look1 2 Z B (λb hb=>n b zn);refine ce (sF eC Z oP (sLd jP (C.box 0 Z) Z (aG 32091792184319 ?_)));refine cZ (t:=59) Z (λH=>?_) (λH=>?_)
  .replace H:=φ H
   refine aG 3517452945544 ?_;refine eL Z (aW ?_);have w:=nQ (z:=z) (Cm a u2);exact ce (sA Z (aH (rT v Z ⟨C.ext,congrArg (é .i64) ((ac ω).trans ((ae G).trans ((ae ω).trans w))).symm⟩)))
  replace H:=φ H
  refine bc (wg Z) Z (bd eC Z oP Z) (bc (wg Z) Z (bp jP Z (bD (C.box 0 Z) Z)) ?_);obtain⟨H,c,f,h,j,l,D,E,m⟩:=cR (C.Ab 2 Z) 1 ω;obtain⟨F,a_,I,rfl,J,K,b_⟩:=fd D;have H:=C.look1 2 Z b_ (λb hb=>E b (by rw[J];simp[hb]));refine br 0x9f333f94f9bfa9f9afabf (λc=>?_) (λc=>?_)
  .refine aW ?_;have w:=nQ (z:=z) (Cm a u2);exact ce (sA Z (aH (rT v Z ⟨H.ext,congrArg (é .i64) ((ac ω).trans ((ae G).trans ((ae ω).trans w))).symm⟩)))
  refine bi (aW (aW ?_));have L:z.A3.any fT=false:=Bm a u2 u2;refine ce (sA Z (aH (bP (dr (a:=Nat) H [(1,_)] ⟨Z,trivial⟩ (λk=>[(4,ag k)]) (λk=>k<=z.A3.length/\gV z.A0 z.A3 k=0) (λk=>z.A3.length-k) 0 ⟨Z,trivial⟩ ⟨ω,Z⟩ (λk H M ⟨hk,W⟩=>?_)))));dsimp only[jf,lNA];refine br 166973733 (λH=>?_) (λH=>?_)
  .refine aG 29865570142 ?_;refine dr (a:=Nat) M [(1,_),(4,_)] bf (λr=>[(5,ag r)]) (λr=>r<=(z.A3.getD k à).Ah.length/\ij z.A0 (z.A3.getD k à).Ah r=0) (λr=>(z.A3.getD k à).Ah.length-r) 0 ⟨Z,trivial⟩ ⟨ω,Z⟩ (λr H c_ ⟨i_,P⟩=>?_);dsimp only[jf,lNA];obtain⟨H,c,f,h,j,l,R,j_,m⟩:=cR (c_.Ab 2 Z) k ω;obtain⟨f_,k_,g_,rfl,h_,d_,H'⟩:=fd R;refine aW (aW ?_);have n:=c_.look1 2 Z H' (λb hb=>j_ b (by rw[h_];simp[hb]));have H:=oL H';refine ce (sM Z (sF eC Z oP (sLd jP (n.box 0 Z) Z (br 0x9f3d2ff3df93ef1 (λH=>?_) (λH=>?_)))))
   .obtain⟨H,c,f,h,o,j,p,q,l⟩:=cR (n.Ab 2 Z) k ω;obtain⟨u,y,A,rfl,B,C,a'⟩:=fd p;refine bi (aW (bP (aW ?_)));have b':=n.look1 2 Z a' (λb hb=>q b (by rw[B];simp[hb]));obtain⟨H,c,f,h,j,l,c',d',m⟩:=cR (b'.Ab 6 Z) r ω;obtain⟨e',f',g',h',i',j',k',l',m',rfl,n',o',p',q',r'⟩:=dX c';have H:=cx o';have H:=b'.look1 6 Z p' (λb hb=>d' b (by rw[n'];simp[hb]));have c:=H.look1 6 Z q' (λb hb=>d' b (by rw[n'];simp[hb]));have H:=c.look1 6 Z r' (λb hb=>d' b (by rw[n'];simp[hb]));refine ep H (oQ [1,3,5,7,9,11,13,15,17,19,21,22,24]) (λH D=>aX 0xb5bf52f66f52f D ?_);refine dV Z (λzw hx=>bR jP yS Z o k ω ω) (aG 0x64f62fb61f52f ?_);refine dC func115 Z (jJ η (D.Ae 7 Z) (D.Ae 8 Z) (D.Ae 9 Z)) (λH c E=>?_);obtain⟨F,rfl⟩:=E;have H:=D.to F;refine br 0x9f3d1204f6df (λc=>?_) (λc=>?_)
    .refine aT (sR 2 Z (rN v Z ?_));have w:=xo L (k:=k) (K:=r) ω W ω P ω;exact⟨H.ext,congrArg (é .i64) ((ac ω).trans (((ac ω).trans ((ae G).trans ((ae ω).trans w)))).symm)⟩
    refine aG 311662 ?_;refine⟨r+1,bf,⟨(H.Aq 5),ω,(kG P).trans ω⟩,θ⟩
   refine bu ?_;obtain rfl:r=(z.A3.getD k à).Ah.length:=by omega
   refine aG 19478 ?_;refine⟨k+1,bf,⟨(n.Aq 5),ω,(ks W).trans P⟩,θ⟩
  refine bu ?_;obtain rfl:k=z.A3.length:=by omega
  have X:=W;refine aW (aT (sA Z (aH (bP (dr (a:=Nat) M [(1,_)] ⟨Z,trivial⟩ (λk=>[(7,ag k)]) (λk=>k<=2/\(∀i,i<k->fa (z.A3.getD i à)=â)) (λk=>2-k) 0 ⟨Z,trivial⟩ ⟨ω,λi S=>by omega⟩ (λk H n ⟨hk,N⟩=>?_))))));dsimp only[jf,lNA];refine br 166973733 (λH=>?_) (λH=>?_)
  .obtain⟨H,c,f,h,j,l,a_,I,m⟩:=cR (n.Ab 2 Z) k ω;obtain⟨J,K,b_,rfl,M,c_,R⟩:=fd a_;refine bi (aW (bP (aW ?_)));have o:=n.look1 2 Z R (λb hb=>I b (by rw[M];simp[hb]));have H:=oL R;refine ce (sF eC Z oP (sLd jP (o.box 0 Z) Z (aG 5317934833 ?_)));refine cZ (t:=108) Z (λp=>?_) (λp=>?_)
   .replace p:=φ p
    refine bc (wg Z) Z (bd eC Z oP Z) (bc (wg Z) Z (bp jP Z (bD (o.box 0 Z) Z)) (br 0x9f332f94f9bfa9f9afaaf90f (λH=>?_) (λH=>?_)))
    .refine aT (rA v Z Z ?_);have w:=uH L X (G6 k ω (by rw[fa];simp_all<;>omega));exact⟨o.ext,congrArg (é .i64) ((ac ω).trans ((ae G).trans ((ae ω).trans w))).symm⟩
    refine aG 311662 ?_;refine⟨k+1,bf,⟨(o.Aq 5),ω,λi S=>?_⟩,θ⟩
    by_cases e:i=k
    .subst e;rw[fa];simp_all<;>omega
    exact N i ω
   replace p:=φ p
   refine aG 56347966605448 ?_;refine gW Z (aG 311662 ?_);refine⟨k+1,bf,⟨(o.Aq 5),ω,λi S=>?_⟩,θ⟩
   by_cases e:i=k
   .subst e;rw[fa];simp_all<;>omega
   exact N i ω
  refine bu ?_;have w:=vh L X (CP (λi S=>N i ω));refine aX 3668261 n ?_;refine sE Ĥ Z cV n (λH c f=>sV Z (cj Z) (sM Z (cZ (t:=122) Z (λH=>?_) (λH=>?_))))
  .replace H:=φ H
   refine aG 858753160 ?_;refine eL Z (aT (rA v Z Z ?_));exact⟨f.ext,congrArg (é .i64) ((ac ω).trans ((ae G).trans ((ac ω).trans (ac jV)))).symm⟩
  replace H:=φ H
  refine aX 10746287 f ?_;refine dE (wg Z) Z (pcK Ĥ Z) cV (λH c h=>?_);obtain⟨j,rfl⟩:=h;have H:=f.to j;refine bc (wg Z) Z (cj Z) (br 11481919 (λc=>?_) (λc=>?_))
  .refine aT (rA v Z Z ?_);exact⟨H.ext,congrArg (é .i64) ((ac ω).trans ((ae G).trans ((ac ω).trans (ac jV)))).symm⟩
  refine bi (aT (rA v Z Z ?_));exact⟨H.ext,congrArg (é .i64) ((ac ω).trans ((ae G).trans ((ac ω).trans (ae jV)))).symm⟩
 replace d:=φ d
 refine ge 0x9f04f7bfb8fbffc7fbefb57fc3faaaa g (λH=>?_) (λH=>?_)
 .refine aT (rA v Z Z ?_);exact⟨x.ext,congrArg (é .i64) ((ac ω).trans (ac zR)).symm⟩
 refine bi (aW (aW ?_));have G:(b7 z && rm z && decide (z.A3.length=2))=true:=by rw[<- GY];simp_all<;>omega
 have a:z.A3.length=2:=by simp_all<;>omega
 obtain⟨H,c,d,f,g,h,l,m,j⟩:=cR (x.Ab 2 Z) 0 ω;obtain⟨n,o,p,rfl,q,u,y⟩:=fd l;have A:=x.look1 2 Z y (λb hb=>m b (by rw[q];simp[hb]));refine ce (sF eC Z oP (sLd jP (A.box 0 Z) Z (aG 32091792184319 ?_)));refine cZ (t:=59) Z (λH=>?_) (λH=>?_)
 .replace H:=φ H
  refine aG 3517452945544 ?_;refine eL Z (aW ?_);have w:=nQ (z:=z) (Cm a u2);exact ce (sA Z (aH (rT v Z ⟨A.ext,congrArg (é .i64) ((ac ω).trans ((ae G).trans ((ae ω).trans w))).symm⟩)))
 replace H:=φ H
 refine bc (wg Z) Z (bd eC Z oP Z) (bc (wg Z) Z (bp jP Z (bD (A.box 0 Z) Z)) ?_);obtain⟨H,c,d,f,g,h,x,B,j⟩:=cR (A.Ab 2 Z) 1 ω;obtain⟨C,D,E,rfl,F,a_,I⟩:=fd x;have H:=A.look1 2 Z I (λb hb=>B b (by rw[F];simp[hb]));refine br 0x9f333f94f9bfa9f9afabf (λc=>?_) (λc=>?_)
 .refine aW ?_;have w:=nQ (z:=z) (Cm a u2);exact ce (sA Z (aH (rT v Z ⟨H.ext,congrArg (é .i64) ((ac ω).trans ((ae G).trans ((ae ω).trans w))).symm⟩)))
 refine bi (aW (aW ?_));have L:z.A3.any fT=false:=Bm a u2 u2;refine ce (sA Z (aH (bP (dr (a:=Nat) H [(1,_)] ⟨Z,trivial⟩ (λk=>[(4,ag k)]) (λk=>k<=z.A3.length/\gV z.A0 z.A3 k=0) (λk=>z.A3.length-k) 0 ⟨Z,trivial⟩ ⟨ω,Z⟩ (λk H a ⟨hk,W⟩=>?_)))));dsimp only[jf,lNA];refine br 166973733 (λH=>?_) (λH=>?_)
 .refine aG 29865570142 ?_;refine dr (a:=Nat) a [(1,_),(4,_)] bf (λr=>[(5,ag r)]) (λr=>r<=(z.A3.getD k à).Ah.length/\ij z.A0 (z.A3.getD k à).Ah r=0) (λr=>(z.A3.getD k à).Ah.length-r) 0 ⟨Z,trivial⟩ ⟨ω,Z⟩ (λr H J ⟨i_,P⟩=>?_);dsimp only[jf,lNA];obtain⟨H,c,d,f,g,h,K,b_,j⟩:=cR (J.Ab 2 Z) k ω;obtain⟨M,c_,i_,rfl,R,j_,f_⟩:=fd K;refine aW (aW ?_);have l:=J.look1 2 Z f_ (λb hb=>b_ b (by rw[R];simp[hb]));have H:=oL f_;refine ce (sM Z (sF eC Z oP (sLd jP (l.box 0 Z) Z (br 0x9f3d2ff3df93ef1 (λH=>?_) (λH=>?_)))))
  .obtain⟨H,c,d,f,m,g,n,o,h⟩:=cR (l.Ab 2 Z) k ω;obtain⟨p,q,u,rfl,y,A,k_⟩:=fd n;refine bi (aW (bP (aW ?_)));have g_:=l.look1 2 Z k_ (λb hb=>o b zn);obtain⟨H,c,d,f,g,h,h_,d_,j⟩:=cR (g_.Ab 6 Z) r ω;obtain⟨H',a',b',c',d',e',f',g',h',rfl,i',j',k',l',m'⟩:=dX h_;have H:=cx j';have H:=g_.look1 6 Z k' (λb hb=>d_ b (by rw[i'];simp[hb]));have c:=H.look1 6 Z l' (λb hb=>d_ b (by rw[i'];simp[hb]));have H:=c.look1 6 Z m' (λb hb=>d_ b (by rw[i'];simp[hb]));refine ep H (oQ [1,3,5,7,9,11,13,15,17,19,21,22,24]) (λH x=>aX 0xb5bf52f66f52f x ?_);refine dV Z (λzw hx=>bR jP yS Z m k ω ω) (aG 0x64f62fb61f52f ?_);refine dC func115 Z (jJ η (x.Ae 7 Z) (x.Ae 8 Z) (x.Ae 9 Z)) (λH c B=>?_);obtain⟨C,rfl⟩:=B;have H:=x.to C;refine br 0x9f3d1204f6df (λc=>?_) (λc=>?_)
   .refine aT (sR 2 Z (rN v Z ?_));have w:=xo L (k:=k) (K:=r) ω W ω P ω;exact⟨H.ext,congrArg (é .i64) ((ac ω).trans (((ac ω).trans ((ae G).trans ((ae ω).trans w)))).symm)⟩
   refine aG 311662 ?_;refine⟨r+1,bf,⟨(H.Aq 5),ω,(kG P).trans ω⟩,θ⟩
  refine bu ?_;obtain rfl:r=(z.A3.getD k à).Ah.length:=by omega
  refine aG 19478 ?_;refine⟨k+1,bf,⟨(l.Aq 5),ω,(ks W).trans P⟩,θ⟩
 refine bu ?_;obtain rfl:k=z.A3.length:=by omega
 have X:=W;refine aW (aT (sA Z (aH (bP (dr (a:=Nat) a [(1,_)] ⟨Z,trivial⟩ (λk=>[(7,ag k)]) (λk=>k<=2/\(∀i,i<k->fa (z.A3.getD i à)=â)) (λk=>2-k) 0 ⟨Z,trivial⟩ ⟨ω,λi S=>by omega⟩ (λk H a ⟨hk,N⟩=>?_))))));dsimp only[jf,lNA];refine br 166973733 (λH=>?_) (λH=>?_)
 .obtain⟨H,c,d,f,g,h,l,D,j⟩:=cR (a.Ab 2 Z) k ω;obtain⟨E,F,a_,rfl,I,J,K⟩:=fd l;refine bi (aW (bP (aW ?_)));have m:=a.look1 2 Z K (λb hb=>D b (by rw[I];simp[hb]));have H:=oL K;refine ce (sF eC Z oP (sLd jP (m.box 0 Z) Z (aG 5317934833 ?_)));refine cZ (t:=108) Z (λn=>?_) (λn=>?_)
  .replace n:=φ n
   refine bc (wg Z) Z (bd eC Z oP Z) (bc (wg Z) Z (bp jP Z (bD (m.box 0 Z) Z)) (br 0x9f332f94f9bfa9f9afaaf90f (λH=>?_) (λH=>?_)))
   .refine aT (rA v Z Z ?_);have w:=uH L X (G6 k ω (by rw[fa];simp_all<;>omega));exact⟨m.ext,congrArg (é .i64) ((ac ω).trans ((ae G).trans ((ae ω).trans w))).symm⟩
   refine aG 311662 ?_;refine⟨k+1,bf,⟨(m.Aq 5),ω,λi S=>?_⟩,θ⟩
   by_cases e:i=k
   .subst e;rw[fa];simp_all<;>omega
   exact N i ω
  replace n:=φ n
  refine aG 56347966605448 ?_;refine gW Z (aG 311662 ?_);refine⟨k+1,bf,⟨(m.Aq 5),ω,λi S=>?_⟩,θ⟩
  by_cases e:i=k
  .subst e;rw[fa];simp_all<;>omega
  exact N i ω
 refine bu ?_;have w:=vh L X (CP (λi S=>N i ω));refine aX 3668261 a ?_;refine sE Ĥ Z cV a (λH a c=>sV Z (cj Z) (sM Z (cZ (t:=122) Z (λH=>?_) (λH=>?_))))
 .replace H:=φ H
  refine aG 858753160 ?_;refine eL Z (aT (rA v Z Z ?_));exact⟨c.ext,congrArg (é .i64) ((ac ω).trans ((ae G).trans ((ac ω).trans (ac jV)))).symm⟩
 replace H:=φ H
 refine aX 10746287 c ?_;refine dE (wg Z) Z (pcK Ĥ Z) cV (λH a d=>?_);obtain⟨f,rfl⟩:=d;have H:=c.to f;refine bc (wg Z) Z (cj Z) (br 11481919 (λa=>?_) (λa=>?_))
 .refine aT (rA v Z Z ?_);exact⟨H.ext,congrArg (é .i64) ((ac ω).trans ((ae G).trans ((ac ω).trans (ac jV)))).symm⟩
 refine bi (aT (rA v Z Z ?_));exact⟨H.ext,congrArg (é .i64) ((ac ω).trans ((ae G).trans ((ac ω).trans (ae jV)))).symm⟩

theorem mG{w:ä}(K:z.Ok)(g:aj w Q z.A2 Y)(e:aj w U z.On V)(f:aj w T z.A3 O):am 36 [z.val Q Y U V T O] w λv W=>v = ag (upF z):=by
 have H:=cx K;obtain⟨H,a⟩:=g;obtain⟨H,b⟩:=e;obtain⟨H,c⟩:=f;refine bv func36 Z (λq h N=>?_);have H:=Sep.start (aC a (aC b (aC c ba)));refine aT (ci aB Z H (λH a b c d=>aX 4321876 d ?_));refine sE func72 Z (ja η (d.Ae 0 Z) (d.Ae 1 Z) (d.Ae 2 Z)) d (λH a b=>br 166973732 (λH=>?_) (λH=>?_))
 .exact aT (sR 2 Z (aH (rT h Z ⟨b.ext,congrArg (é .i64) (ae ω).symm⟩)))
 refine ge 752483275358 b (λH=>?_) (λH=>?_)
 .exact aT (sA Z (aH (rT h Z ⟨b.ext,congrArg (é .i64) ((ac ω).trans (ae η)).symm⟩)))
 refine bi (aT (rA h Z Z ?_));exact⟨b.ext,congrArg (é .i64) ((ac ω).trans (ac jV)).symm⟩

theorem jb{w:ä}(B:w.heap[k]? = á (ay z Q Y U V T O))(K:z.Ok)(f:aj w Q z.A2 Y)(d:aj w U z.On V)(e:aj w T z.A3 O):am 44 [au k,ag g] w λv W=>v = .bool (decide (g∈z.On)):=by
 obtain⟨H,a⟩:=f;obtain⟨H,b⟩:=d;obtain⟨H,c⟩:=e;refine bv func44 Z (λq h N=>?_);have H:=Sep.start (dc B (aC a (aC b (aC c ba))));refine aX 21438638527042 H ?_;exact sE func80 Z (eV (H.Ae 2 Z)) H (λH a b=>sA Z (aH (rT h Z ⟨b.ext,Z⟩)))

theorem iH{w:ä}(B:w.heap[k]? = á (ay z Q Y U V T O))(K:z.Ok)(f:aj w Q z.A2 Y)(d:aj w U z.On V)(e:aj w T z.A3 O)(s:z.A0.ok=ã):am 51 [au k,ag g] w λv W=>v = ag (jk z g):=by
 have H:=cx K;obtain⟨H,a⟩:=f;obtain⟨H,b⟩:=d;obtain⟨H,c⟩:=e;refine bv func51 Z (λq h N=>?_);have H:=Sep.start (dc B (aC a (aC b (aC c ba))));refine aX 0x142f926f1206f542 H ?_;refine sE func43 Z (fS η) H (λH a b=>sV Z (cj Z) (br 2804 (λH=>?_) (λH=>?_)))
 .exact aT (sA Z (aH (rT h Z ⟨b.ext,congrArg (é .i64) (Nx (fX H)).symm⟩)))
 refine aT (sR 2 Z (sE func44 Z (jb (b.Bd 0 Z) η (b.Ae 1 Z) (b.Ae 2 Z) (b.Ae 3 Z)) b (λa b c=>sV Z (cj Z) (br 2804 (λa=>?_) (λa=>?_)))))
 .exact aT (sA Z (aH (rT h Z ⟨c.ext,congrArg (é .i64) (Kw (not_false H) (of_decide_eq_false (fX a))).symm⟩)))
 exact bi (aT (sA Z (aH (rT h Z ⟨c.ext,congrArg (é .i64) (vn (not_false H) (of_decide_eq_true (not_false a))).symm⟩))))

theorem tW{w:ä}(D:w.heap[k]? = á (ay z Q Y U V T O))(E:z.Ok)(J:aj w Q z.A2 Y)(F:aj w U z.On V)(I:aj w T z.A3 O)(C:z.A0.ok=ã)(t:b7 z=ã)(A:ins g 0 (z.A0.A2+z.A0.A5-1)=ã):am 125 [au k,ag g] w λv W=>Res w W [v] (re z g):=by
 have H:=cx E;obtain⟨H,a⟩:=J;obtain⟨H,c⟩:=F;obtain⟨H,d⟩:=I;have X:=bm C;have B:=fI t;have R:=bH.1 A;obtain⟨P,M⟩:=B.2 g.toNat ω;refine bv func125 Z (λL x N=>?_);have H:=Sep.start (dc D (aC a (aC c (aC d ba))));refine aT (sA Z (aH (aT (dG (f:=Int) aB Z cS bV H (λH a c d e=>?_)))));obtain⟨H,a,c,d,f,h,i,j,l⟩:=fA (e.Ab 1 Z) g.toNat ω;have H:=e.look1 1 Z j l;refine aG 2456752724 ?_;refine sLd ie (H.Bd 0 Z) Z (aG 0x6f312ff38f3ff1 ?_);refine fc (b:=Int) (a:=Nat) (λK=>wipedTo (z.A2.getD g.toNat []) K) 0 H 0 Z 5 Z [(4,_),(15,_),(16,_)] bf (λK=>[(17,ag K)]) (λK=>K<=(z.A2.getD g.toNat []).length/\True) (λK=>(z.A2.getD g.toNat []).length-K) ⟨Z,trivial⟩ ⟨ω,trivial⟩ (λK H a c m ⟨S,_⟩=>?_);dsimp only[jf,lNA,lSZ,sk] at m ⊢;refine br 10441682 (λH=>?_) (λH=>?_)
 .obtain⟨H,a,c,d,e,f,n,o,h⟩:=cR (m.Ab 4 Z) K ω;obtain⟨p,q,r,rfl,s,a_,u⟩:=iS n;refine bi (aW (bP (aW ?_)));have H:=m.look1 4 Z u (λb y=>o b (by rw[s];simp[y]));refine aG 1089728278 ?_;refine cz aB Z Ķ H (λH a c d e=>sA Z (bw aB oT Z e 1 Z (λH a c=>?_)));replace c:=bt c;refine ge 47030204707 c (λH=>?_) (λH=>?_)
  .have wl:=zU (G:=(z.A2.getD g.toNat [])) (k:=K);refine ce (sR 2 Z (dx aB Z cS bV Z c (λa d e f h=>fC aB Z cS bV Z h 0 2 Z (mh l0) db ω (λa d e f=>?_))));rw[<- vy H] at f;refine aG 203876 ?_;exact⟨(K+1,_,_),bf,⟨((f.Aq 5).dtake 1),ω,trivial⟩,θ⟩
  rw[<- uJ H] at c;refine aG 203886 ?_;exact⟨(K+1,_,_),bf,⟨((c.Aq 5).dtake 1),ω,trivial⟩,θ⟩
 refine bu (aT (sR 2 Z (rN x Z ?_)));obtain rfl:K=(z.A2.getD g.toNat []).length:=by omega
 exact⟨m.ext,m.out 0 Z⟩

theorem nY{w:ä}(B:w.heap[k]? = á (ay z Q Y U V T O))(K:z.Ok)(m:aj w Q z.A2 Y)(j:aj w U z.On V)(l:aj w T z.A3 O)(s:z.A0.ok=ã)(G:b7 z=ã)(n:ins g 0 (z.A0.A2+z.A0.A5-1)=ã):am 84 [au k,ag g] w λv W=>v = .bool (dP z g):=by
 have H:=cx K;obtain⟨H,a⟩:=m;obtain⟨H,b⟩:=j;obtain⟨H,c⟩:=l;refine bv func84 Z (λq i N=>?_);have H:=Sep.start (dc B (aC a (aC b (aC c ba))));refine aT (sA Z (aH (aW (ep H (oQ [1,3,9,11,13,15,17,4,6,19,20]) (λH a=>aX 0x5bf52f52f4afbbb a ?_)))));refine dC func125 Z (tW (a.Bd 0 Z) η (a.Ae 1 Z) (a.Ae 2 Z) (a.Ae 3 Z) η η η) (λH b c=>?_);obtain⟨H,c⟩:=c;obtain⟨b,d⟩:=a.res H c;obtain⟨H,a,e⟩:=aL (d.A4 0 Z);cases e;refine dC func45 Z (iT (d.As 0 Z)) (λH a f=>?_);obtain⟨h,rfl⟩:=f;have H:=d.to h;exact dV Z (λo x=>pG Z Z) (dD Z aB Z (cr Z) (dO (rT i Z ⟨H.ext,Z⟩)))

theorem nA{w:ä}(E:w.heap[k]? = á (ay z Q Y U V T O))(F:z.Ok)(L:aj w Q z.A2 Y)(I:aj w U z.On V)(J:aj w T z.A3 O)(D:z.A0.ok=ã)(s:b7 z=ã)(B:ins g 0 (z.A0.A2+z.A0.A5-1)=ã):am 99 [au k,ag g] w λv w'=>v = .bool (dP z g):=by
 have H:=cx F;obtain⟨H,a⟩:=L;obtain⟨H,c⟩:=I;obtain⟨H,d⟩:=J;have b_:=bm D;have C:=fI s;have S:=bH.1 B;obtain⟨R,P⟩:=C.2 g.toNat ω;refine bv func99 Z (λM t N=>?_);have H:=Sep.start (dc E (aC a (aC c (aC d ba))));refine aG 29865886274 ?_;refine dr (a:=Nat) H [(0,_),(1,_),(4,_)] bf (λK=>[(5,ag ((wipedTo (z.A2.getD g.toNat []) K).length:Nat)),(6,ag K)]) (λK=>K<=(z.A2.getD g.toNat []).length/\True) (λK=>(z.A2.getD g.toNat []).length-K) 0 bf ⟨ω,trivial⟩ (λK H a ⟨X,_⟩=>?_);dsimp only[jf,lNA];obtain⟨H,c,d,e,f,h,i,j,l⟩:=fA (a.Ab 1 Z) g.toNat ω;have m:=a.look1 1 Z j l;refine aG 2456752421 ?_;refine sLd ie (m.Bd 0 Z) Z (br 0x9f3d2ff38f3ff1 (λH=>?_) (λH=>?_))
 .obtain⟨H,a,c,d,e,n,f,h,i⟩:=fA (m.Ab 1 Z) g.toNat ω;have o:=m.look1 1 Z h i;obtain⟨H,a,c,d,e,f,p,q,h⟩:=cR (o.Ab 5 Z) K ω;obtain⟨r,a_,c_,rfl,u,x,y⟩:=iS p;refine bi (aW (bP (aW ?_)));have H:=o.look1 5 Z y (λb A=>q b (by rw[u];simp[A]));refine aG 9596694 ?_;refine sLd ie (H.Bd 0 Z) Z (sM Z (sV Z (bR ie nn Z n g.toNat ω ω) (br 0xaf33cf93ef138f (λa=>?_) (λa=>?_))))
  .have wl:=zU (G:=(z.A2.getD g.toNat [])) (k:=K);have W:=vy a;refine aG 1276529686 ?_;exact⟨K+1,⟨eqI (by rw[W];simp),Z,Z,Z,Z,trivial⟩,⟨(H.Aq 4),ω,trivial⟩,θ⟩
  have W:=uJ a;refine aG 311662 ?_;exact⟨K+1,⟨eqI (by rw[W]),Z,Z,Z,Z,trivial⟩,⟨(H.Aq 4),ω,trivial⟩,θ⟩
 refine bu (aG 2569466130 ?_);refine sLd tu2 (m.Bd 0 Z) Z (sR 2 Z (rN t Z ?_));obtain rfl:K=(z.A2.getD g.toNat []).length:=by omega
 exact⟨m.ext,Z⟩

end Go.Wk
