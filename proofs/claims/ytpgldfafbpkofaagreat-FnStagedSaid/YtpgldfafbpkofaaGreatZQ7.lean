/-
  Laws on walking, and the functions walked, each once: what this claim comes to.
-/
import Derived.Test.YtpgldfafbpkofaaGreatZQ6
set_option linter.unusedVariables false
set_option linter.unusedSimpArgs false
set_option maxHeartbeats 8000000
open Bool renaming false->â,true->ã
open Go renaming Addr->ô,Value->è,World->ä,maxLen->Ë
open Go.Proofs.Tryz renaming func29->ű,func30->Ă,func31->É,func59->Ħ,func63->œ,func65->ğ,func67->Ļ,prog->ê,zeroValue25->Ŭ,zeroValue31->Ç,zeroValue33->Č,zeroValue57->Ķ,zeroValue76->Ä
open Go.Value renaming agg->ţ,bool->ó
open Inhabited renaming default->à
open Int renaming le_refl->ĩ
open List renaming any_eq_false->ē,filter_eq_nil_iff->ċ,getD_cons_succ->ę,getD_cons_zero->ŭ,length_range->d?,length_singleton->È,mem_append_left->Ó,mem_replicate->Ğ,replicate->å
open Nat renaming succ_mul->Ō,zero_le->ý
open Option renaming none->ç,some->á
namespace Go.Wk
open Go.Proofs Rp Go.Proofs.Tryz
set_option maxRecDepth 10000
variable {W:List UInt8}{Y:Option ô}{V O Q:List Nat}{X T f:Int}{v b P:Nat}{U:List Al}{z:Wld}
theorem υ1 {p:Prop}(h:p:=by exact λ_ h => .inl h):p:=h
theorem ua{w:ä}{M N S:List Nat}{r:Rec}{R F G:Option ô}{I J K:Nat}(b_:OwnWT U w P 31 z O)(nd:O.Nodup)(n_:U.map Al.t=z.A3)(V:RdV w Q (Am U))(W:∀x∈Q,x<w.heap.size)(X:∀x∈Q,x ∉ O)(rK:r.Ok)(f_:ah w R r.Rows I M)(c_:∀b∈M,b ∉ O)(g_:ah w F r.Data J N)(d_:∀b∈N,b ∉ O)(h_:ah w G r.Ad K S)(e_:∀b∈S,b ∉ O)(hd:z.Down=â)(m_:(z.A3.getD 0 à).Ah.length<=1000/\(z.A3.getD 1 à).Ah.length<=1000)(Y:SeqOK z)(hT:z.A3.length=2)(l_:∀k,(z.A3.getD k à).Ah.length<=200000)(hw:z.Aa<=1500000000)(u:fH r<=1048576):Ret ê 79 #[au P,r.val R I F J G K] w λj_ w'=>(j_ = ag (nxC z r)/\∃T,T.map Al.t=((nxZ z r)).A3/\MutRT T w w' O P 31 ((nxZ z r)) Q):=by
 have H:=lK Y;have H:nxQ z=qT (cI z)+1:=Z;refine bv func79 Z (λk_ v hN=>?_);have H:=((((Sep.beginWT b_ nd).seeFT (f_) c_).seeFT (g_) d_).seeFT (h_) e_).seeRT V W X;refine aT (ci aB Z H (λH a c d e=>?_));obtain⟨H,a,c,d,f,g,j,a_,n,p,q⟩:=e.openWT 0 Z;replace p:z.Ok:=p;refine sA Z (aH (aT (sM Z (sC func78 Z (nC (z:=mkV z U) (q.box 0 Z) p (aJ (q.A4 3 Z)) (aJ (q.A4 4 Z)) (aJ (q.A4 5 Z)) (q.rdAt 3 Z) (tsl η η) (tsr η η)) (λH a c=>?_)))));obtain⟨H,s,c,a,i_⟩:=c;obtain⟨a,y⟩:=q.res H c;obtain⟨H,a,A⟩:=aL (y.A4 6 Z);cases A;have H:s.map Ac.r=cI z:=by rw[i_,JB η]
 have a:s.length=(cI z).length:=by rw[<- H,aS]
 have a:=jY (z:=z) ξ η;have L:=mH (I:=s) ⟨_,aJ (y.A4 6 Z)⟩ ω;rw[H] at L;refine sE func105 Z L y (λH a c=>aG 156 ?_);refine cL aB ts2 Z c 1 Z (λH a B=>aX 7843320403 B ?_);refine cZ (t:=13) Z (λH=>?_) (λH=>?_)
 .replace H:=φ H
  refine aG 3354504 ?_;refine eL Z (aT (rA v Z Z ?_));obtain⟨a,c⟩:=bt (B.B0 0 3 4 5 z Z p);have o:=c.doneRX η 3 Z υ1
  by_cases h:1000000000<nxQ z
  .rw[(lx (r:=r) h).1,(lx (r:=r) h).2];exact⟨rfl,o⟩
  have l:dI z=true:=by rw[<- rX];first|assumption|(exfalso;apply h;show 1000000000<qT (cI z)+1;omega)
  rw[(kE (r:=r) h).1,(kE (r:=r) h).2,(iR l).1,(iR l).2];exact⟨rfl,o⟩
 replace H:=φ H
 have H:=Et (z:=mkV z U) (m:=1) (B.box 0 Z) p (aJ (B.A4 3 Z)) (aJ (B.A4 4 Z)) (aJ (B.A4 5 Z)) (tsl η η) ω (tsb η η);rw[JB η] at H;refine bc (wg Z) Z (bL Z) (dE (wg Z) Z (pcK func102 Z) H (λH a C=>?_));obtain⟨D,rfl⟩:=C;have H:=B.to D;refine br 11481919 (λa=>?_) (λa=>?_)
 .refine aT (rA v Z Z ?_);obtain⟨c,d⟩:=H.B0 0 3 4 5 z Z p;have o:=d.doneRX η 3 Z υ1
  by_cases h:1000000000<nxQ z
  .rw[(lx (r:=r) h).1,(lx (r:=r) h).2];exact⟨rfl,o⟩
  have l:dI z=true:=by rw[<- rX];first|assumption|(exfalso;apply h;show 1000000000<qT (cI z)+1;omega)
  rw[(kE (r:=r) h).1,(kE (r:=r) h).2,(iR l).1,(iR l).2];exact⟨rfl,o⟩
 refine bi (aW (aW ?_));have h:¬ 1000000000<nxQ z:=by show ¬ 1000000000<qT (cI z)+1;omega
 have l:dI z=false:=by rw[<- rX];simpa using a
 have o_:(seqR r (nxQ z)).Ok:=Gj rK gQ;refine aX 270102 H ?_;obtain⟨a,e⟩:=H.B0 0 3 4 5 z Z p;refine sC func103 Z (Gt (e.wldTAt 0 Z) (e.Aj (i:=0) Z) η η (aJ (e.Ab 0 Z)) (λb u=>e.off 0 Z 0 Z u) (aJ (e.Ab 1 Z)) (λb u=>e.off 1 Z 0 Z u) (aJ (e.Ab 2 Z)) (λb u=>e.off 2 Z 0 Z u) η η ξ ξ ξ (r:=(seqR r (nxQ z)))) (λH a f=>?_);obtain⟨rfl,g,j,a_,n,p⟩:=f;obtain⟨H,a,c⟩:=e.mutPT 0 Z p;obtain⟨H,a⟩:=bt (c.poolRead 8 3 Z Z n υ1);refine sV Z (cj Z) (aH (gG Z (λc=>?_) (λc=>?_)))
 .refine aT (rA v Z Z ?_);have o:=H.doneRX η 4 Z a;have E:jL z (seqR r (nxQ z))=false:=by simpa using c
  rw[(kE (r:=r) h).1,(kE (r:=r) h).2,(fM l).1,(fM l).2,E];exact⟨Z,o⟩
 refine bi (aT (rA v Z Z ?_));have o:=H.doneRX η 4 Z a;have E:jL z (seqR r (nxQ z))=true:=by simpa using c
 rw[(kE (r:=r) h).1,(kE (r:=r) h).2,(fM l).1,(fM l).2,E];exact⟨Z,o⟩

theorem tL{w:ä}{g:Int}(b_:OwnWT U w P 31 z O)(nd:O.Nodup)(m_:U.map Al.t=z.A3)(S:RdV w Q (Am U))(V:∀x∈Q,x<w.heap.size)(W:∀x∈Q,x ∉ O)(hd:z.Down=â)(k_:(z.A3.getD 0 à).Ah.length<=1000/\(z.A3.getD 1 à).Ah.length<=1000)(N:z.A0.ok=ã)(hG:b7 z=ã)(X:ins g 0 (z.A0.A2+z.A0.A5-1)=ã)(hq:SeqOK z)(hT:z.A3.length=2)(j_:∀k,(z.A3.getD k à).Ah.length<=200000)(hw:z.Aa<=1400000000)(l_:0<=T/\T<=1000):Ret ê 109 #[au P,ag g,ag T] w λc_ w'=>(c_ = ag (bgC z g T)/\∃R,R.map Al.t=((bgZ z g T)).A3/\MutRT R w w' O P 31 ((bgZ z g T)) Q):=by
 have n_:=bm N;have i_:=bH.1 X;have h_:=Tr (g:=g) (row:=T) N;have g_:(bgR z g T).Ok:=T5 gQ gQ;have B:=Ld (z:=z) (g:=g) (row:=T);refine bv func109 Z (λf_ o hN=>?_);have H:=(Sep.beginWT b_ nd).seeRT S V W;obtain⟨a,c,d,e,f,l,m,a_,p,q,u⟩:=H.openWT 0 Z;replace q:z.Ok:=q;have H:=cx q;obtain⟨_,H,_⟩:=rq (u.A4 4 Z) (u.rdAt 0 Z);rw[<- tsn (a:=U) (z:=z) η,show U.map Al.t=(z).A3 by assumption] at H;have a:=u.box 0 Z;rw[<- tsn (a:=U) (z:=z) η] at a;refine aG 70210 ?_;refine sC func163 Z (vY (z:=z) a q ⟨_,aJ (u.A4 2 Z)⟩ ⟨_,aJ (u.A4 3 Z)⟩ ⟨_,H⟩ ξ ξ ξ) (λH a y=>?_);obtain⟨A,d_,e_,rfl,y⟩:=y;obtain⟨H,a⟩:=u.res A y;refine aG 20153907488753 ?_;refine sV Z (cj Z) (aH (gG Z (λH=>?_) (λH=>?_)))
 .refine aT (rA o Z Z ?_);obtain⟨c,d⟩:=a.B0 0 2 3 4 z Z q;have h:=d.doneRX η 0 Z υ1;have v:qt z g=false:=by simpa using H
  rw[(LA (row:=T) v).1,(LA (row:=T) v).2];exact⟨Z,h⟩
 have n:qt z g=true:=by simpa using H
 refine bi (aW (aW (ep a (oQ [1,3,5,7,9,13,15,10,16,18]) (λH a=>aX 0xbbb66f52f4afb a ?_))));refine dC func78 Z (nC (z:=mkV z U) (a.box 0 Z) q (aJ (a.A4 2 Z)) (aJ (a.A4 3 Z)) (aJ (a.A4 4 Z)) (a.rdAt 0 Z) (tsl η η) (tsr η η)) (λH c d=>?_);obtain⟨H,D,d,E,F⟩:=d;obtain⟨c,G⟩:=a.res H d;obtain⟨H,a,I⟩:=aL (G.A4 6 Z);cases I;have H:D.map Ac.r=cI z:=by rw[F,JB η]
 have a:=(G.rdAt 0 Z).sub E;have L:=si (s:=z.A0) (X:=D.map Ac.r) (g:=g) (R:=T) (by dsimp only[aj,ak];rw[aS];exact a.list (G.A4 6 Z));(try dsimp only[aj,ak] at L);rw[aS,H,LB] at L;refine dC func164 Z L (λH a J=>?_);obtain⟨K,rfl⟩:=J;have H:=G.to K;refine br 2667902735 (λa=>?_) (λa=>?_)
 .have M:qZ z g T=true:=by rw[B,aU ω]
  refine aT (rA o Z Z ?_);obtain⟨a,c⟩:=bt (H.B0 0 2 3 4 z Z q);have h:=c.doneRX η 0 Z υ1;rw[(IL (row:=T) n M).1,(IL (row:=T) n M).2];exact⟨Z,h⟩
 have C:qZ z g T=false:=by rw[B,a8 ω]
 refine aX 0x42f926f111112e H ?_;refine sE œ Z (wV η) H (λH a c=>xT aB Z cJ b6 ol Z qN qQ c (λH a c d e=>sV Z (bM eD Z Z) ?_));obtain⟨H,f⟩:=e.B0 0 2 3 4 z Z q;refine sC func79 Z (ua (f.wldTAt 0 Z) (f.Aj (i:=0) Z) η (f.rdAt 0 Z) (f.rdLt 0 Z) (λx Y=>f.off 0 Z 0 Z Y) η (.inr (.inl ⟨Z,Z,Z⟩)) σ (aJ (f.A4 7 Z)) (λb t=>f.apart (i:=0) (j:=7) Z Z Z b t) (aJ (f.A4 5 Z)) (λb t=>f.apart (i:=0) (j:=5) Z Z Z b t) ξ ξ ξ ξ ξ ξ ξ (r:=(bgR z g T))) (λH a l=>?_);obtain⟨rfl,m,a_,p⟩:=l;obtain⟨H,a,c,d⟩:=f.mutRT 0 0 Z Z p υ1;refine rA o Z Z ?_;have h:=c.doneRX η 1 Z d;rw[(Tk (row:=T) n C).1,(Tk (row:=T) n C).2];exact⟨Z,h⟩

theorem DG{w:ä}{g:Int}(j_:OwnWT U w P 31 z O)(nd:O.Nodup)(A_:U.map Al.t=z.A3)(hP:RdV w Q (Am U))(f_:∀x∈Q,x<w.heap.size)(g_:∀x∈Q,x ∉ O)(hd:z.Down=â)(y_:(z.A3.getD 0 à).Ah.length<=1000/\(z.A3.getD 1 à).Ah.length<=1000)(S:z.A0.ok=ã)(W:b7 z=ã)(K:ins f 0 (z.A0.A2+z.A0.A5-1)=ã)(hg:ins g 0 (z.A0.A2+z.A0.A5-1)=ã)(z_:ins T 0 (z.A0.Rows-1)=ã)(J:RecsOK z)(hq:SeqOK z)(hT:z.A3.length=2)(x_:∀k,(z.A3.getD k à).Ah.length<=200000)(hw:z.Aa<=1500000000):Ret ê 165 #[au P,ag f,ag g,ag T] w λk_ w'=>(k_ = ag (gwC z f g T)/\∃c_,c_.map Al.t=((gwZ z f g T)).A3/\MutRT c_ w w' O P 31 ((gwZ z f g T)) Q):=by
 have B_:=bm S;refine bv func165 Z (λs_ G hN=>?_);have H:=(Sep.beginWT j_ nd).seeRT hP f_ g_;obtain⟨a,c,d,e,l,m,n,q,u,y,A⟩:=H.openWT 0 Z;replace y:z.Ok:=y;refine aG 4674 ?_;refine sC func78 Z (nC (z:=mkV z U) (A.box 0 Z) y (aJ (A.A4 2 Z)) (aJ (A.A4 3 Z)) (aJ (A.A4 4 Z)) (A.rdAt 0 Z) (tsl η η) (tsr η η)) (λH a c=>?_);obtain⟨H,B,c,C,D⟩:=c;obtain⟨a,E⟩:=A.res H c;obtain⟨H,a,F⟩:=aL (E.A4 5 Z);cases F;have H:B.map Ac.r=cI z:=by rw[D,JB η]
 have a:B.length=(cI z).length:=by rw[<- H,aS]
 have a:=(E.rdAt 0 Z).sub C;refine aX 300454322303268 E ?_;have V:=si (s:=z.A0) (X:=B.map Ac.r) (g:=g) (R:=T) (by dsimp only[aj,ak];rw[aS];exact a.list (E.A4 5 Z));(try dsimp only[aj,ak] at V);rw[aS,H,LB] at V;refine sE func164 Z V E (λc d e=>?_);have v_:=St (z:=z) (g:=g) (row:=T);have a_:=Ld (z:=z) (g:=g) (row:=T);have u_:=bH.1 K;refine aG 1905236 ?_;refine cZ (t:=26) Z (λc=>?_) (λc=>?_)
 .replace c:=φ c
  refine aG 0x332f8888888132f888888888 ?_;refine eL Z (aT (rA G Z Z ?_));obtain⟨l,m⟩:=e.B0 0 2 3 4 z Z y;have hv:p7 z f g T=false:=by unfold p7;rw[show qZ z g T=â by rw[a_,a8 ω]];rfl
  have h:=m.doneRX η 0 Z υ1;rw[(Br hv).1,(Br hv).2];exact⟨Z,h⟩
 try simp only[aa] at c
 have M:qZ z g T=true:=by rw[a_,aU ω]
 have o:(B.getD (mT z g T).toNat à).r=(opR z g T):=by rw[ey H ω];exact(TZ ω).symm
 have L:=((a.to (Ext.refl.trans d)).Bi (k:=(mT z g T).toNat) ω);obtain⟨H,_,i_⟩:=xQ M;have b_:=xV J M;obtain⟨c,n,l,m,q⟩:=w6 b_ H;have u:((opR z g T).Ad.length:Int)=z.A0.A2+z.A0.A5:=by
  unfold weightsOK at q;simp only[aP,ab] at q;exact q.1.1
 have H:=AM l ω;rw[<- o] at u;obtain⟨H,c⟩:=L.Ae.2.2;obtain⟨eb,eo,ee,ec⟩:=dN c f.toNat ω;obtain⟨vb,vo,ve,vc,C_⟩:=e.B2 5 Z (mT z g T).toNat ω;have X:gvD z f g T=(B.getD (mT z g T).toNat à).r.Ad.getD f.toNat 0:=by rw[o];rfl
 refine bc (wg Z) Z (bL Z) (bc (wg Z) Z (bL Z) (bc (wg Z) Z (bR cd cy Z ve (mT z g T).toNat ω ω) (bc (wg Z) Z (bd cu Z cH Z) (bc (wg Z) Z (bp cJ Z (gJ vc 8 Z)) (bc (wg Z) Z (bL Z) (bc (wg Z) Z (bR cJ ts5 Z ee f.toNat ω ω) (bc (wg Z) Z (bp tu5 Z ec) (aG 20183375 ?_))))))));refine cZ (t:=37) Z (λH=>?_) (λH=>?_)
 .replace H:=φ H
  refine aG 3517452945544 ?_;refine eL Z (aT (rA G Z Z ?_));obtain⟨c,l⟩:=bt (e.B0 0 2 3 4 z Z y);have hv:p7 z f g T=false:=by unfold p7;rw[X,aU ω];simp
  have h:=l.doneRX η 0 Z υ1;rw[(Br hv).1,(Br hv).2];exact⟨Z,h⟩
 replace H:=φ H
 refine bc (wg Z) Z (bL Z) (bc (wg Z) Z (bL Z) (bc (wg Z) Z (bR cd cy Z ve (mT z g T).toNat ω ω) (bc (wg Z) Z (bd cu Z eF Z) (bc (wg Z) Z (bp cS Z (gJ vc 6 Z)) (bc (wg Z) Z (bL Z) (dE (wg Z) Z (pcK func162 Z) (ly L.Ae.1) (λH c A=>?_)))))));obtain⟨C,rfl⟩:=A;have m:=e.to C;refine br 11481919 (λH=>?_) (λH=>?_)
 .refine aT (rA G Z Z ?_);obtain⟨c,e⟩:=m.B0 0 2 3 4 z Z y;have hv:p7 z f g T=false:=by unfold p7;rw[<- o,aU (p:=f∈(B.getD (mT z g T).toNat à).r.Rows) m9];simp
  have h:=e.doneRX η 0 Z υ1;rw[(Br hv).1,(Br hv).2];exact⟨Z,h⟩
 refine bi (aW ?_);have hv:p7 z f g T=true:=by unfold p7;rw[X,M,<- o,a8 ω,a8 m9];rfl
 have H:ins T 0 (z.A0.Rows-1)=true:=by rw[<- i_];exact n
 obtain⟨_,H,_⟩:=rq (m.A4 4 Z) (m.rdAt 0 Z);rw[<- tsn (a:=U) (z:=z) η,show U.map Al.t=(z).A3 by assumption] at H;have c:=m.box 0 Z;rw[<- tsn (a:=U) (z:=z) η] at c;refine aG 4374 ?_;refine sC func200 Z (qr (z:=z) c y ⟨_,aJ (m.A4 2 Z)⟩ ⟨_,aJ (m.A4 3 Z)⟩ ⟨_,H⟩ ξ ξ ξ ξ) (λH c n=>?_);obtain⟨q,D,E,rfl,n⟩:=n;obtain⟨H,e⟩:=m.res q n;refine aG 20153907488753 ?_;refine sV Z (cj Z) (aH (gG Z (λH=>?_) (λH=>?_)))
 .refine aT (rA G Z Z ?_);obtain⟨c,l⟩:=e.B0 0 2 3 4 z Z y;have v:dP z f=true:=by simpa using H
  have h:=l.doneRX η 0 Z υ1;rw[(Cr v).1,(Cr v).2];exact⟨Z,h⟩
 obtain⟨c,l,m,n,A⟩:=e.B2 5 Z (mT z g T).toNat ω;have v:dP z f=false:=by simpa using H
 obtain⟨H,c⟩:=Im S W K v J hv;obtain⟨H,c⟩:=LU S W K v J hv;rw[ik] at c;refine bi (aW ?_);have h_:fH (B.getD (mT z g T).toNat à).r<=1048576:=by
  rw[o];obtain⟨_,H⟩:=m7 b_;unfold bareOK at H;rw[ac ω,ac ω,ac ω] at H;simp only[aP,ab,noName] at H;have hn:(opR z g T).Name.size=0:=by rw[H.1];rfl
  rw[o] at u;unfold fH;omega
 refine ce (sR 2 Z (sV Z (bR cd cy Z m (mT z g T).toNat ω ω) (sV Z (eB cu Z cy Z n) ?_)));have H:=((a.to (((Ext.refl.trans d).trans C).trans q)).Bi (k:=(mT z g T).toNat) ω);refine sC func116 Z (gx (r:=(B.getD (mT z g T).toNat à).r) H.ok H.Ae.1 H.Ae.2.1 H.Ae.2.2 h_) (λH a d=>?_);obtain⟨C,F,l_,m_,n_,o_,p_,rfl,d⟩:=d;obtain⟨H,a⟩:=e.res C d;obtain⟨H,c,d,e,l,m,n,q⟩:=me (a.A4 7 Z);have l:=a.part 7 Z [A4 [.slice _ (B.getD (mT z g T).toNat à).r.Rows.length _] (B.getD (mT z g T).toNat à).r.Rows H,A4 [.slice _ (B.getD (mT z g T).toNat à).r.Data.length _] (B.getD (mT z g T).toNat à).r.Data c,A4 [.slice _ (B.getD (mT z g T).toNat à).r.Ad.length _] (B.getD (mT z g T).toNat à).r.Ad d] (all_cons m (all_cons n (all_cons q σ))) zy;refine cz aB Z Ä l (λH a c d e=>bw aB cy Z e 11 Z (λH a c=>?_));replace c:=bt c;have R:=c;rw[o] at R u;refine aH (aW ?_);have w_:(gvR z f g T).Ok:=by
  have Y:=L.ok;rw[o] at Y;exact Y
 have t_:Ak f:=by unfold Ak;omega
 have H:=ik (pI z f T) ((opR z g T).Ad.getD f.toNat 0);refine aX 1277846 R ?_;refine sC func206 Z (BM (R.As 8 Z) ξ ξ) (λH a c=>?_);obtain⟨H,c⟩:=c;obtain⟨a,u⟩:=R.res H c;obtain⟨H,a,A⟩:=aL (u.A4 12 Z);cases A;refine sF cu Z eF (cL aB eF Z u 11 Z (λH a c=>aH (aW (ep c (oQ [1,3,5,7,9,11,13,15,16,18,21,22]) (λH a=>?_)))));obtain⟨H,c,d,e⟩:=dN (a.A4 10 Z) f.toNat ω;refine aX 0x5cf63fb5bf52fb5bf52f a ?_;refine dC func152 Z (iW (a.As 6 Z) ω) (λH c d=>?_);obtain⟨H,d⟩:=d;obtain⟨c,B⟩:=a.res H d;obtain⟨H,a,D⟩:=aL (B.A4 13 Z);cases D;refine dC func153 Z (jN (B.As 9 Z) (B.As 13 Z) ω) (λH a c=>?_);obtain⟨H,c⟩:=c;obtain⟨a,E⟩:=B.res H c;obtain⟨H,a,d_⟩:=aL (E.A4 14 Z);cases d_;refine dV Z τ2 (dm Z aB cH Z E 11 Z τ3 (λH a c=>aX 1106321487 c ?_));obtain⟨H,N⟩:=c.B0 0 2 3 4 z Z y;refine sC func79 Z (ua (N.wldTAt 0 Z) (N.Aj (i:=0) Z) η (N.rdAt 0 Z) (N.rdLt 0 Z) (λx hx=>N.off 0 Z 0 Z hx) η (aJ (N.A4 12 Z)) (λb I=>N.apart (i:=0) (j:=12) Z Z Z b I) (aJ (N.A4 14 Z)) (λb I=>N.apart (i:=0) (j:=14) Z Z Z b I) (aJ (N.A4 10 Z)) (λb I=>N.apart (i:=0) (j:=10) Z Z Z b I) ξ ξ ξ ξ ξ ξ ξ (r:=(gvR z f g T))) (λH a y=>?_);obtain⟨rfl,q_,r_,e_⟩:=y;obtain⟨H,a,c,d⟩:=bt (N.mutRT 0 0 Z Z e_ υ1);refine rA G Z Z ?_;have h:=c.doneRX η 1 Z d;rw[(Mu v hv).1,(Mu v hv).2];exact⟨Z,h⟩

theorem qu{w:ä}(o:OwnWT U w P 31 z O)(nd:O.Nodup)(t_:U.map Al.t=z.A3)(hP:RdV w Q (Am U))(h_:∀x∈Q,x<w.heap.size)(i_:∀x∈Q,x ∉ O)(hd:z.Down=â)(K:c7 z=0)(S:ins f 0 (z.A0.A2+z.A0.A5-1)=ã):Ret ê 110 #[au P,ag f] w λn_ W=>(n_ = ag (gaP z f).1/\∃a_,a_.map Al.t=((gaP z f).2).A3/\MutRT a_ w W O P 31 ((gaP z f).2) Q):=by
 obtain⟨v,M,hO⟩:=c5 K;obtain⟨H,a,_,_⟩:=kM K;have x_:=bm v;have b:=GvI.start K (show z.Ok from OwnWV.ok o);refine bv func110 Z (λp_ N hN=>?_);have H:=bt ((Sep.beginWT o nd).seeRT hP h_ i_);refine aG 116663618 ?_;have c:=H.B9 (a:=[rdR (Am U) Q]) (λr g=>by simp only[aM,aQ,bB] at g;rcases g with rfl;simp);refine cp (j:=Nat × Wld × List Nat × List Al × List Nat) (λ(k,e,p,t,l)=>[(0,au P),(1,ag f),(5,ag k)]) (λ(k,e,p,t,l) W=>Sep (· ∈ O) w [Bc t P 31 e p] [rdR (Am t) l] W/\k<=(z.A0.A2+z.A0.A5).toNat/\gaG f z.A0.Rows.toNat (z.A0.A2+z.A0.A5).toNat 0 z=gaG f z.A0.Rows.toNat ((z.A0.A2+z.A0.A5).toNat-k) k e/\GvI z e/\t.map Al.t=e.A3/\(∀x∈l,x∈Q\/x∈O\/w.heap.size<=x)) (λ(k,e,p,t,l)=>(z.A0.A2+z.A0.A5).toNat-k) (0,z,_,U,Q) bf ⟨c.au_pk 1,bj,Z,b,η,υ1⟩ (λ(k,e,p,t,l) H b=>?_);obtain⟨b,hk,J,h,u_,V⟩:=b;have Y:e.A0=z.A0:=h.sh;refine aW (aW ?_);have H:e.A0.ok=true:=by rw[Y];exact v
 have q_:e.A0.A2+e.A0.A5=z.A0.A2+z.A0.A5:=by rw[Y]
 obtain⟨H,c,e_,f_,g_,j_,k_,l_,m_,u,y⟩:=b.openWT 0 Z;replace u:e.Ok:=u;refine aX 287647920406 y ?_;refine sE ğ Z (cP η) y (λH A B=>br 40765 (λH=>?_) (λH=>?_))
 .obtain⟨H,b⟩:=B.B0 0 2 3 4 e Z u;replace b:=bt b;refine aG 29865570142 ?_;have C:=b.B9 (a:=[rdR (Am t) l]) (λr g=>by simp only[aM,aQ,bB] at g;rcases g with rfl;simp);refine cp (j:=Nat × Wld × List Nat × List Al × List Nat) (λ(j,d,s,T,n)=>[(0,au P),(1,ag f),(5,ag k),(6,ag j)]) (λ(j,d,s,T,n) W=>Sep (· ∈ O) w [Bc T P 31 d s] [rdR (Am T) n] W/\j<=z.A0.Rows.toNat/\gaR f k z.A0.Rows.toNat 0 e=gaR f k (z.A0.Rows.toNat-j) j d/\GvI z d/\T.map Al.t=d.A3/\(∀x∈n,x∈Q\/x∈O\/w.heap.size<=x)) (λ(j,d,s,T,n)=>z.A0.Rows.toNat-j) (0,e,_,t,l) bf ⟨C.au_pk 1,bj,Z,h,η,V⟩ (λ(j,d,s,T,n) H b=>?_);obtain⟨b,hj,G,h,v_,X⟩:=b;have H:d.A0.Rows=z.A0.Rows:=by rw[h.sh]
  obtain⟨H,c,e_,f_,g_,j_,k_,l_,m_,D,E⟩:=bt (b.openWT 0 Z);replace D:d.Ok:=D;have H:=cx D;refine ge 0x9f3d37f9926f1125 E (λH=>?_) (λH=>?_)
  .obtain⟨H,b,c⟩:=h.hyp v M S;have H:d.Down=false:=h.dn.trans hd;have H:=h.tp;refine bi (aW (bP (aW ?_)));have H:(d.A3.getD 0 à).Ah.length<=1000/\(d.A3.getD 1 à).Ah.length<=1000:=⟨by have:=h.r0;omega,by have:=h.r1;omega⟩;have b:=yB h.tp H;have r_:ins (k:Int) 0 (d.A0.A2+d.A0.A5-1)=true:=by rw[h.sh];exact bH.2 ω
   have s_:ins (j:Int) 0 (d.A0.Rows-1)=true:=by rw[h.sh];exact bH.2 ω
   have H:=h.rc;have H:=h.sq;have w_:d.Aa<=1500000000:=by have:=h.wr;have:=h.r0;have:=h.r1;omega
   obtain⟨H,F⟩:=E.B0 0 2 3 4 d Z D;refine aG 69910 ?_;refine sC func165 Z (DG (F.wldTAt 0 Z) (F.Aj (i:=0) Z) η (F.rdAt 0 Z) (F.rdLt 0 Z) (λx hx=>F.off 0 Z 0 Z hx) ξ ξ ξ ξ ξ ξ ξ ξ ξ ξ ξ ξ) (λH b b_=>?_);obtain⟨rfl,I,o_,c_⟩:=b_;obtain⟨H,y,b,C⟩:=bt (F.mutRT 0 0 Z Z c_ X);refine br 166973732 (λH=>?_) (λH=>?_)
   .refine aT (sR 2 Z (rN N Z ?_));have R:gwC d f k j≠0:=by omega
    have A:gaR f k z.A0.Rows.toNat 0 e=(gwC d f k j,gwZ d f k j):=by rw[G];exact O5 (m:=z.A0.Rows.toNat-(j+1)) ω R
    have L:gaP z f=(gwC d f k j,gwZ d f k j):=by rw[gaP,J,PM (q:=(z.A0.A2+z.A0.A5).toNat-(k+1)) ω (by rw[A];exact R),A]
    rw[L];exact⟨Z,b.doneRX η 1 Z C⟩
   refine aG 311662 ?_;have d_:=b.B9 (a:=[rdR (Am I) y]) (λr g=>by simp only[aM,aQ,bB] at g;rcases g with rfl;simp);have H:gwC d f k j=0:=by omega
   exact⟨(j+1,gwZ d f k j,_,I,y),bf,⟨(d_.dtake 1),bj,by(try dsimp only);rw[G,TB (m:=z.A0.Rows.toNat-(j+1)) ω H],h.step v M a S H,η,C⟩,θ⟩
  refine bu ?_;obtain⟨H,a⟩:=bt (E.B0 0 2 3 4 d Z D);refine aG 19478 ?_;have c:=a.B9 (a:=[rdR (Am T) n]) (λr g=>by simp only[aM,aQ,bB] at g;rcases g with rfl;simp);obtain rfl:j=z.A0.Rows.toNat:=by omega
  have A:gaR f k z.A0.Rows.toNat 0 e=(0,d):=by rw[G];exact RK ω
  exact⟨(k+1,d,_,T,n),bf,⟨(c.dtake 1),bj,by(try dsimp only);rw[J,Uh (q:=(z.A0.A2+z.A0.A5).toNat-(k+1)) ω (by rw[A]),A],h,η,X⟩,θ⟩
 refine bu (aT (rA N Z Z ?_));obtain⟨H,a⟩:=bt (B.B0 0 2 3 4 e Z u);have L:gaP z f=(0,e):=by rw[gaP,J];exact SQ ω
 rw[L];exact⟨Z,a.doneRX η 0 Z V⟩

theorem mc{w:ä}(t:w.heap[b]? = á (az Y W v X))(O:ah w Y W v V)(u:∀x∈V,x≠b)(B:0<=X/\X<=700000)(A:W.length<=1048576):Ret ê 56 #[au b] w λy z=>(∃C:Int,(X<=C/\C<=X+9)/\BoxTo w z b (az Y W v C)/\∃x:A0,y=x.v/\x.ok=ã):=by
 refine bv func56 Z (λQ s N=>?_);have H:=(Sep.beginBox t).look (r:=Ab â [ak Y W v] W V) O (λx q hm=>u x q km);refine aT (cz aB Z Ŭ H (λH a c d f=>aH (aT (sM Z (eY ([2,3,1,4]) aB Z cS bV Z fF σ σ f (λH a c d f=>cY f Z Ă Z (bW · · · ω ω (aJ (f.A4 2 Z)) (λx q e=>f.apart (i:=0) (j:=2) Z Z Z x q gR) σ) (λH a c d f=>?_)))))))
 replace f:=ψ f
 have a:=d.conv 2 gone Z trivial df df;have c:1<=H/\H<=4:=by omega
 clear f
 refine sM Z (eY ([1,2,1,0]) aB Z cS bV Z fF σ σ a (λa c d f g=>cY g Z Ă Z (bW · · · ω ω (aJ (g.A4 3 Z)) (λx q e=>g.apart (i:=0) (j:=3) Z Z Z x q gR) σ) (λa c d f g=>?_)))
 replace g:=ψ g
 have c:=bt (f.conv 3 gone Z trivial df df);have d:0<=a/\a<=2:=by omega
 clear g
 refine sM Z (eY ([2,1,3]) aB Z cS bV Z fF σ σ c (λc d f g h=>cY h Z Ă Z (bW · · · ω ω (aJ (h.A4 4 Z)) (λx q e=>h.apart (i:=0) (j:=4) Z Z Z x q gR) σ) (λc d f g h=>?_)))
 replace h:=ψ h
 have d:=g.conv 4 gone Z trivial df df;have f:1<=c/\c<=3:=by omega
 clear h
 refine sM Z (eY ([1,0,2]) aB Z cS bV Z fF σ σ d (λd f g h k=>cY k Z Ă Z (bW · · · ω ω (aJ (k.A4 5 Z)) (λx q e=>k.apart (i:=0) (j:=5) Z Z Z x q gR) σ) (λd f g h k=>?_)))
 replace k:=ψ k
 have f:=bt (h.conv 5 gone Z trivial df df);have g:0<=d/\d<=2:=by omega
 clear k
 refine sM Z (eY ([2,3,4]) aB Z cS bV Z fF σ σ f (λf g h k l=>cY l Z Ă Z (bW · · · ω ω (aJ (l.A4 6 Z)) (λx q e=>l.apart (i:=0) (j:=6) Z Z Z x q gR) σ) (λf g h k l=>?_)))
 replace l:=ψ l
 have g:=k.conv 6 gone Z trivial df df;have h:2<=f/\f<=4:=by omega
 clear l
 refine sM Z (eY ([1,2,3]) aB Z cS bV Z fF σ σ g (λg h k l m=>cY m Z Ă Z (bW · · · ω ω (aJ (m.A4 7 Z)) (λx q e=>m.apart (i:=0) (j:=7) Z Z Z x q gR) σ) (λg h k l m=>?_)))
 replace m:=ψ m
 have h:=bt (l.conv 7 gone Z trivial df df);have k:1<=g/\g<=3:=by omega
 clear m
 refine sM Z (eY ([1,2]) aB Z cS bV Z fF σ σ h (λh k l m n=>cY n Z Ă Z (bW · · · ω ω (aJ (n.A4 8 Z)) (λx q e=>n.apart (i:=0) (j:=8) Z Z Z x q gR) σ) (λh k l m n=>?_)))
 replace n:=ψ n
 have k:=m.conv 8 gone Z trivial df df;have l:1<=h/\h<=2:=by omega
 clear n
 refine sM Z (eY ([1,2,3]) aB Z cS bV Z fF σ σ k (λk l m n o=>cY o Z Ă Z (bW · · · ω ω (aJ (o.A4 9 Z)) (λx q e=>o.apart (i:=0) (j:=9) Z Z Z x q gR) σ) (λk l m n o=>?_)))
 replace o:=ψ o
 have l:=bt (n.conv 9 gone Z trivial df df);have m:1<=k/\k<=3:=by omega
 clear o
 refine sM Z (eY ([60,20,100,400]) aB Z cS bV Z fF σ σ l (λl m n o p=>cY p Z Ă Z (bW · · · ω ω (aJ (p.A4 10 Z)) (λx q e=>p.apart (i:=0) (j:=10) Z Z Z x q gR) σ) (λl m n o p=>?_)))
 replace p:=ψ p
 have m:=o.conv 10 gone Z trivial df df;have n:20<=l/\l<=400:=by omega
 clear p
 refine sV Z (bM (c:=[ag H,ag a,ag c,ag d,ag f,ag g,ag h,ag k,ag l]) MW Z κ) (bw aB lZ Z m 1 Z (λm n o=>aH (dT s (o.box 1 Z) Z ?_)));exact⟨_,ω,⟨o.ext,o.box 0 Z⟩,⟨H,a,c,d,f,g,h,k,l⟩,Z,NT θ θ θ θ θ θ θ θ θ⟩

theorem rE{w:ä}(t:w.heap[b]? = á (az Y W v X))(O:ah w Y W v V)(u:∀x∈V,x≠b)(B:0<=X/\X<=690000)(A:W.length<=1048576):Ret ê 18 #[au b] w λy z=>(∃C:Int,(X<=C/\C<=X+11)/\BoxTo w z b (az Y W v C)/\∃x:A0,y=x.v/\x.few):=by
 refine bv func18 Z (λQ q N=>?_);have H:=(Sep.beginBox t).look (r:=Ab â [ak Y W v] W V) O (λx p hm=>u x p km);refine aT (cz aB Z Ŭ H (λH a c d f=>aH (aT (sM Z (sC func56 Z (mc (f.box 0 Z) (aJ (f.Ab 0 Z)) (f.B5 0 Z 0 Z) ω ω) (λH a g=>?_))))));obtain⟨h,k,⟨l,m⟩,n,rfl,o⟩:=g;have H:=f.Ay 0 Z l m;refine cz aB Z Ŭ H (λH a c d f=>bw aB lZ Z f 2 Z (λH a c=>aH (aW (aT (sM Z (cY c Z É Z (bk · · · ω ω ω) (λH a c d f=>br 42762110707 (λH=>?_) (λH=>?_))))))))
 .refine ce (sM Z (eY ([0,5]) aB Z cS bV Z fF σ σ d (λH a c f g=>cY g Z Ă Z (bW · · · ω ω (aJ (g.A4 3 Z)) (λx p e=>g.apart (i:=0) (j:=3) Z Z Z x p gR) σ) (λH a c f g=>?_))));replace f:=bt f
  replace g:=ψ g
  have a:=f.conv 3 gone Z trivial df df;have c:0<=H/\H<=5:=by omega
  clear g
  refine sF kB Z ts2 (cL aB ts2 Z a 2 Z (λa c f=>aX 270115 f ?_));refine bw aB lZ Z f 1 Z (λa c f=>aH (dT q (f.box 1 Z) Z ?_));have s:=dS o;unfold A0.few at s;exact⟨_,ω,⟨f.ext,f.box 0 Z⟩,⟨H,n.A5,n.Data,n.Af,n.Rows,n.Cap,n.An,n.Ao,n.Ap⟩,Z,qG⟩
 refine br 652498 (λH=>?_) (λH=>?_)
 .refine ce (sM Z (eY ([-1,3]) aB Z cS bV Z fF σ σ d (λH a c f g=>cY g Z Ă Z (bW · · · ω ω (aJ (g.A4 3 Z)) (λx p e=>g.apart (i:=0) (j:=3) Z Z Z x p gR) σ) (λH a c f g=>?_))));replace f:=bt f
  replace g:=ψ g
  have a:=f.conv 3 gone Z trivial df df;have c : -1<=H/\H<=3:=by omega
  clear g
  refine sF kB Z ts2 (cL aB ts2 Z a 2 Z (λa c f=>aX 270115 f ?_));refine bw aB lZ Z f 1 Z (λa c f=>aH (dT q (f.box 1 Z) Z ?_));have s:=dS o;unfold A0.few at s;exact⟨_,ω,⟨f.ext,f.box 0 Z⟩,⟨n.A2,H,n.Data,n.Af,n.Rows,n.Cap,n.An,n.Ao,n.Ap⟩,Z,qG⟩
 refine br 652498 (λH=>?_) (λH=>?_)
 .refine ce (sM Z (eY ([0,4]) aB Z cS bV Z fF σ σ d (λH a c f g=>cY g Z Ă Z (bW · · · ω ω (aJ (g.A4 3 Z)) (λx p e=>g.apart (i:=0) (j:=3) Z Z Z x p gR) σ) (λH a c f g=>?_))));replace f:=bt f
  replace g:=ψ g
  have a:=f.conv 3 gone Z trivial df df;have c:0<=H/\H<=4:=by omega
  clear g
  refine sF kB Z ts2 (cL aB ts2 Z a 2 Z (λa c f=>aX 270115 f ?_));refine bw aB lZ Z f 1 Z (λa c f=>aH (dT q (f.box 1 Z) Z ?_));have s:=dS o;unfold A0.few at s;exact⟨_,ω,⟨f.ext,f.box 0 Z⟩,⟨n.A2,n.A5,H,n.Af,n.Rows,n.Cap,n.An,n.Ao,n.Ap⟩,Z,qG⟩
 refine br 652498 (λH=>?_) (λH=>?_)
 .refine ce (sM Z (eY ([-1,3]) aB Z cS bV Z fF σ σ d (λH a c f g=>cY g Z Ă Z (bW · · · ω ω (aJ (g.A4 3 Z)) (λx p e=>g.apart (i:=0) (j:=3) Z Z Z x p gR) σ) (λH a c f g=>?_))));replace f:=bt f
  replace g:=ψ g
  have a:=f.conv 3 gone Z trivial df df;have c : -1<=H/\H<=3:=by omega
  clear g
  refine sF kB Z ts2 (cL aB ts2 Z a 2 Z (λa c f=>aX 270115 f ?_));refine bw aB lZ Z f 1 Z (λa c f=>aH (dT q (f.box 1 Z) Z ?_));have s:=dS o;unfold A0.few at s;exact⟨_,ω,⟨f.ext,f.box 0 Z⟩,⟨n.A2,n.A5,n.Data,H,n.Rows,n.Cap,n.An,n.Ao,n.Ap⟩,Z,qG⟩
 refine br 652498 (λH=>?_) (λH=>?_)
 .refine ce (sM Z (eY ([0,7,6]) aB Z cS bV Z fF σ σ d (λH a c f g=>cY g Z Ă Z (bW · · · ω ω (aJ (g.A4 3 Z)) (λx p e=>g.apart (i:=0) (j:=3) Z Z Z x p gR) σ) (λH a c f g=>?_))));replace f:=bt f
  replace g:=ψ g
  have a:=f.conv 3 gone Z trivial df df;have c:0<=H/\H<=7:=by omega
  clear g
  refine sF kB Z ts2 (cL aB ts2 Z a 2 Z (λa c f=>aX 270115 f ?_));refine bw aB lZ Z f 1 Z (λa c f=>aH (dT q (f.box 1 Z) Z ?_));have s:=dS o;unfold A0.few at s;exact⟨_,ω,⟨f.ext,f.box 0 Z⟩,⟨n.A2,n.A5,n.Data,n.Af,H,n.Cap,n.An,n.Ao,n.Ap⟩,Z,qG⟩
 refine br 652498 (λH=>?_) (λH=>?_)
 .refine ce (sM Z (eY ([0,7,6]) aB Z cS bV Z fF σ σ d (λH a c f g=>cY g Z Ă Z (bW · · · ω ω (aJ (g.A4 3 Z)) (λx p e=>g.apart (i:=0) (j:=3) Z Z Z x p gR) σ) (λH a c f g=>?_))));replace f:=bt f
  replace g:=ψ g
  have a:=f.conv 3 gone Z trivial df df;have c:0<=H/\H<=7:=by omega
  clear g
  refine sF kB Z ts2 (cL aB ts2 Z a 2 Z (λa c f=>aX 270115 f ?_));refine bw aB lZ Z f 1 Z (λa c f=>aH (dT q (f.box 1 Z) Z ?_));have s:=dS o;unfold A0.few at s;exact⟨_,ω,⟨f.ext,f.box 0 Z⟩,⟨n.A2,n.A5,n.Data,n.Af,n.Rows,H,n.An,n.Ao,n.Ap⟩,Z,qG⟩
 refine br 652498 (λH=>?_) (λH=>?_)
 .refine ce (sM Z (eY ([0,5,4]) aB Z cS bV Z fF σ σ d (λH a c f g=>cY g Z Ă Z (bW · · · ω ω (aJ (g.A4 3 Z)) (λx p e=>g.apart (i:=0) (j:=3) Z Z Z x p gR) σ) (λH a c f g=>?_))));replace f:=bt f
  replace g:=ψ g
  have a:=f.conv 3 gone Z trivial df df;have c:0<=H/\H<=5:=by omega
  clear g
  refine sF kB Z ts2 (cL aB ts2 Z a 2 Z (λa c f=>aX 270115 f ?_));refine bw aB lZ Z f 1 Z (λa c f=>aH (dT q (f.box 1 Z) Z ?_));have s:=dS o;unfold A0.few at s;exact⟨_,ω,⟨f.ext,f.box 0 Z⟩,⟨n.A2,n.A5,n.Data,n.Af,n.Rows,n.Cap,H,n.Ao,n.Ap⟩,Z,qG⟩
 refine br 652498 (λH=>?_) (λH=>?_)
 .refine ce (sM Z (eY ([0,7,6]) aB Z cS bV Z fF σ σ d (λH a c f g=>cY g Z Ă Z (bW · · · ω ω (aJ (g.A4 3 Z)) (λx p e=>g.apart (i:=0) (j:=3) Z Z Z x p gR) σ) (λH a c f g=>?_))));replace f:=bt f
  replace g:=ψ g
  have a:=f.conv 3 gone Z trivial df df;have c:0<=H/\H<=7:=by omega
  clear g
  refine sF kB Z ts2 (cL aB ts2 Z a 2 Z (λa c f=>aX 270115 f ?_));refine bw aB lZ Z f 1 Z (λa c f=>aH (dT q (f.box 1 Z) Z ?_));have s:=dS o;unfold A0.few at s;exact⟨_,ω,⟨f.ext,f.box 0 Z⟩,⟨n.A2,n.A5,n.Data,n.Af,n.Rows,n.Cap,n.An,H,n.Ap⟩,Z,qG⟩
 refine br 652498 (λH=>?_) (λH=>?_)
 .refine ce (sM Z (eY ([-1,401,0]) aB Z cS bV Z fF σ σ d (λH a c f g=>cY g Z Ă Z (bW · · · ω ω (aJ (g.A4 3 Z)) (λx p e=>g.apart (i:=0) (j:=3) Z Z Z x p gR) σ) (λH a c f g=>?_))));replace f:=bt f
  replace g:=ψ g
  have a:=f.conv 3 gone Z trivial df df;have c : -1<=H/\H<=401:=by omega
  clear g
  refine sF kB Z ts2 (cL aB ts2 Z a 2 Z (λa c f=>aX 270115 f ?_));refine bw aB lZ Z f 1 Z (λa c f=>aH (dT q (f.box 1 Z) Z ?_));have s:=dS o;unfold A0.few at s;exact⟨_,ω,⟨f.ext,f.box 0 Z⟩,⟨n.A2,n.A5,n.Data,n.Af,n.Rows,n.Cap,n.An,n.Ao,H⟩,Z,qG⟩
 refine aX 270126 d ?_;refine bw aB lZ Z d 1 Z (λH a c=>?_);replace c:=bt c;refine aH (dT q (c.box 1 Z) Z ?_);have s:=dS o;unfold A0.few at s;exact⟨_,ω,⟨c.ext,c.box 0 Z⟩,⟨n.A2,n.A5,n.Data,n.Af,n.Rows,n.Cap,n.An,n.Ao,n.Ap⟩,Z,qG⟩

theorem kO{w:ä}(g:w.heap[b]? = á (az Y W v X))(O:ah w Y W v V)(i:∀x∈V,x≠b)(t:0<=X/\X<=700000)(m:W.length<=1048576):Ret ê 62 #[au b] w λk l=>(∃C:Int,(X<=C/\C<=X+1)/\BoxTo w l b (az Y W v C)/\∃x:ByteArray,k = .string x/\x.size<=9):=by
 refine bv func62 Z (λQ h N=>?_);have H:=(Sep.beginBox g).look (r:=Ab â [ak Y W v] W V) O (λx j hm=>i x j km);refine aT (sA Z (aH (aT (Q3 ([⟨⟨#[97]⟩⟩,⟨⟨#[98]⟩⟩,⟨⟨#[99]⟩⟩,⟨⟨#[100,49]⟩⟩,⟨⟨#[108,111,103]⟩⟩,⟨⟨#[122,122]⟩⟩]:List Str) aB Z Sy Jl Z Z dv σ σ H (λH a c d e=>sM Z (cY e Z É Z (bk · · · ω ω ω) (λH a c d e=>?_)))))));obtain⟨a,c,e,f⟩:=I4 (d.A4 1 Z) H.toNat (show _<6 by omega);refine sV Z (bR Sy ts9 Z e H.toNat ω (show _<6 by omega)) (aG 17295 ?_);exact rT h Z ⟨_,ω,⟨d.ext,d.box 0 Z⟩,_,Z,P8 dv⟩

theorem nS{w:ä}(p:w.heap[b]? = á (az Y W v X))(O:ah w Y W v V)(q:∀x∈V,x≠b)(z:0<=X/\X<=690000)(y:W.length<=1048576):Ret ê 28 #[au b] w λt u=>(∃C:Int,(X<=C/\C<=X+2)/\BoxTo w u b (az Y W v C)/\∃x:ByteArray,t = .string x/\x.size<=9):=by
 refine bv func28 Z (λQ o N=>?_);have H:=(Sep.beginBox p).look (r:=Ab â [ak Y W v] W V) O (λx s hm=>q x s km);refine aG 75074 ?_;refine cY H Z Ħ Z (cE · · · ω ω ω) (λH a c d e=>aH (l9 Z (λH=>?_) (λH=>?_)))
 .refine aT (Q3 ([⟨⟨#[]⟩⟩,⟨⟨#[49,97]⟩⟩,⟨⟨#[65]⟩⟩,⟨⟨#[97,98,99,100,101,102,103,104,105]⟩⟩,⟨⟨#[97,98,99,100,101,102,103,104]⟩⟩,⟨⟨#[97,32,98]⟩⟩,⟨⟨#[97,45]⟩⟩]:List Str) aB Z Sy Jl Z Z dv σ σ d (λH a c e f=>sM Z (cY f Z É Z (bk · · · ω ω ω) (λH a c e f=>?_))));obtain⟨a,c,f,g⟩:=I4 (e.A4 1 Z) H.toNat (show _<7 by omega);refine sV Z (bR Sy ts9 Z f H.toNat ω (show _<7 by omega)) (aG 17295 ?_);exact rT o Z ⟨_,ω,⟨e.ext,e.box 0 Z⟩,_,Z,P8 dv⟩
 refine bi (aT (sM Z (sC func62 Z (kO (d.box 0 Z) (aJ (d.Ab 0 Z)) (d.B5 0 Z 0 Z) ω ω) (λH a h=>?_))));obtain⟨i,j,⟨k,l⟩,m,rfl,n⟩:=h;have H:=d.Ay 0 Z k l;refine rA o Z Z ?_;exact⟨_,ω,⟨H.ext,H.box 0 Z⟩,_,Z,n⟩

theorem tI{w:ä}{s:A0}(hb:w.heap[b]? = á (az Y W v X))(cO:ah w Y W v V)(hd:∀x∈V,x≠b)(j_:0<=X/\X<=500000)(i_:W.length<=1048576)(hs:s.ok=ã):Ret ê 202 #[au b,s.v] w λg_ w'=>(∃e_:Int,(X<=e_/\e_<=X+100)/\BoxTo w w' b (az Y W v e_)/\∃(r:Rec) (A6:Option ô) (C6:Nat) (A7:Option ô) (C7:Nat) (A8:Option ô) (C8:Nat),g_=r.val A6 C6 A7 C7 A8 C8/\r.few/\Res w w' [ag r.Kind,ag r.Seq,.string r.Name,ag r.Length,ag r.Group,ag r.Row,ak A6 r.Rows C6,ak A7 r.Data C7,ak A8 r.Ad C8] r):=by
 have n_:=bm hs;have H:(⟨#[]⟩:ByteArray).size=0:=Z;refine bv func202 Z (λh_ hQ hN=>?_);have H:=(Sep.beginBox hb).look (r:=Ab â [ak Y W v] W V) cO (λx l hm=>hd x l km);refine aT (ci aB Z H (λc H d f g=>cz aB Z Ä g (λc_ H d f g=>aX 270115 g ?_)));refine sE œ Z (fB η) g (λH d f=>sA Z (aH (aT (sM Z (eY ([1,1,2,3,4]) aB Z cS bV Z fF σ σ f (λH d f g m=>cY m Z Ă Z (bW · · · ω ω (aJ (m.A4 3 Z)) (λx l e=>m.apart (i:=0) (j:=3) Z Z Z x l gR) σ) (λH d f g m=>?_)))))))
 replace m:=ψ m
 have d:=g.conv 3 gone Z trivial df df;have f:1<=H/\H<=4:=by omega
 clear m
 refine sM Z (cY d Z É Z (bk · · · ω ω ω) (λH d f g m=>sV Z (jr Z Z iO) (sV Z (bM eD Z Z) (cz aB Z Ä g (λo H d f g=>bw aB cy Z g 4 Z (λH d p=>?_))))));replace p:=bt p;refine aH (tT (c:=Int × Rec × List Nat) (λ(cc,x,fx)=>[(0,au b),(3,au c),(4,au c_),(6,au o)]) (λ(cc,x,fx) w'=>Sep (· = b) w [box b (az Y W v cc),box c (.cells [ag s.A2,ag s.A5,ag s.Data,ag s.Af,ag s.Rows,ag s.Cap,ag s.An,ag s.Ao,ag s.Ap].toArray 25),box c_ (.cells [ag 0,ag 0,.string ⟨#[]⟩,ag 0,ag 0,ag 0,.slice ç 0 0,.slice ç 0 0,.slice ç 0 0].toArray 76),EK o 76 x fx] [Ab â [ak Y W v] W V] w'/\X<=cc/\cc<=X+80/\x.few0) ?_ (λ(cc,x,fx) H q=>?_))
 .refine ge 0x9f4d206f337f92 p (λH=>?_) (λH=>?_)
  .try unfold Rec.few0 at h
   refine aT (sM Z (sC func62 Z (kO (p.box 0 Z) (aJ (p.Ab 0 Z)) (p.B5 0 Z 0 Z) ω ω) (λH d u=>?_)));obtain⟨y,z,⟨A,B⟩,C,rfl,D⟩:=u;have H:=p.Ay 0 Z A B;refine sF cu Z ts9 (cL aB ts9 Z H 4 Z (λH d f=>aG 69923 ?_));refine cY f Z É Z (bk · · · ω ω ω) (λH d f g m=>aG 284 ?_);refine cY g Z É Z (bk · · · ω ω ω) (λd f g m u=>?_);replace m:=bt m;refine sV Z (jr Z Z iO) (eY ([-1,(1+H),(1+d)]) aB Z cS bV Z fF σ σ m (λH d f g m=>cY m Z Ă Z (bW · · · ω ω (aJ (m.A4 5 Z)) (λx l e=>m.apart (i:=0) (j:=5) Z Z Z x l gR) σ) (λH d f g m=>?_)))
   replace m:=ψ m
   have H:=g.conv 5 gone Z trivial df df;refine sF cu Z ts2 (cL aB ts2 Z H 4 Z (λH d E=>aX 490207523 E ?_));refine cZ (t:=39) Z (λF=>?_) (λF=>?_)
   .replace F:=φ F
    refine bc (wg Z) Z (bL Z) (dE (wg Z) Z (pcK Ħ Z) (cE (E.box 0 Z) (aJ (E.Ab 0 Z)) (E.B5 0 Z 0 Z) ω ω ω) (λH d G=>?_));obtain⟨⟨I,J⟩,K,rfl,L⟩:=G;have M:=bt (E.Ay 0 Z I J);refine br 10433327 (λH=>?_) (λH=>?_)
    .refine aX 3668246 M ?_;refine cY M Z É Z (bk · · · ω ω ω) (λH d f g m=>eY ([H]) aB Z cS bV Z fF σ σ g (λH d f g m=>sF cu Z eF (cL aB eF Z m 4 Z (λH d f=>?_))));have H:=f.nilW (a:=UInt8);have d:=bt (H.nilW (a:=UInt8));refine aH ?_;obtain⟨H,f,g,m⟩:=Rec.closeB d 4 6 7 8 Z iP;exact⟨(_,_,_),bf,m.au_pk 23,ω,ω,tw⟩
    refine ge 42745429906 M (λH=>?_) (λH=>?_)
    .refine aX 3668246 M ?_;refine sC ű Z (eO (M.box 0 Z) (aJ (M.Ab 0 Z)) (M.B5 0 Z 0 Z) ω ω ⟨(bQ ω).symm,ω⟩) (λH d N=>?_);obtain⟨O,P,⟨R,T⟩,U,n,a_,rfl,b_,Q⟩:=N;obtain⟨H,d⟩:=M.resBox 0 Z R T Q;refine sF cu Z cH (cL aB cH Z d 4 Z (λH d f=>?_));have H:=bt (f.nilW (a:=Int));have d:=H.nilW (a:=UInt8);refine aH ?_;obtain⟨H,f,g,m⟩:=Rec.closeB d 4 7 6 8 Z iP;exact⟨(_,_,_),bf,m.au_pk 23,ω,ω,tw⟩
    have H:=M.nilW (a:=Int);have d:=bt (H.nilW (a:=UInt8));have H:=d.nilW (a:=UInt8);refine bi ?_;obtain⟨d,f,g,m⟩:=Rec.closeB H 4 6 7 8 Z iP;exact⟨(_,_,_),bf,m.au_pk 23,ω,ω,tw⟩
   replace F:=φ F
   refine aG 3358600 ?_;refine gW Z (ge 42745429906 E (λH=>?_) (λH=>?_))
   .refine aX 3668246 E ?_;refine sC ű Z (eO (E.box 0 Z) (aJ (E.Ab 0 Z)) (E.B5 0 Z 0 Z) ω ω ⟨(bQ ω).symm,ω⟩) (λH d u=>?_);obtain⟨y,z,⟨A,B⟩,C,D,F,rfl,G,I⟩:=u;obtain⟨H,d⟩:=E.resBox 0 Z A B I;refine sF cu Z cH (cL aB cH Z d 4 Z (λH d f=>?_));replace f:=bt f;have H:=f.nilW (a:=Int);have d:=H.nilW (a:=UInt8);refine aH ?_;obtain⟨H,f,g,m⟩:=Rec.closeB d 4 7 6 8 Z iP;exact⟨(_,_,_),bf,m.au_pk 23,ω,ω,tw⟩
   have H:=E.nilW (a:=Int);replace H:=bt H;have d:=H.nilW (a:=UInt8);have H:=d.nilW (a:=UInt8);refine bi ?_;obtain⟨d,f,g,m⟩:=Rec.closeB H 4 6 7 8 Z iP;exact⟨(_,_,_),bf,m.au_pk 23,ω,ω,tw⟩
  refine br 652498 (λH=>?_) (λH=>?_)
  .try unfold Rec.few0 at h
   refine aX 3668242 p ?_;refine cY p Z É Z (bk · · · ω ω ω) (λH d f g m=>?_);replace g:=bt g;refine sF cu Z ts2 (cL aB ts2 Z g 4 Z (λH d f=>aX 58691875 f ?_));refine cY f Z É Z (bk · · · ω ω ω) (λH d f g m=>sF cu Z ts2 (cL aB ts2 Z g 4 Z (λH d E=>aH (aT (sR 2 Z (sC ű Z (eO (E.box 0 Z) (aJ (E.Ab 0 Z)) (E.B5 0 Z 0 Z) ω ω ⟨(bQ ω).symm,ω⟩) (λH d J=>?_)))))));obtain⟨K,L,⟨M,N⟩,O,P,R,rfl,T,U⟩:=J;obtain⟨H,d⟩:=bt (E.resBox 0 Z M N U);refine sF cu Z cH (cL aB cH Z d 4 Z (λH d u=>aH (ce (sR 2 Z (sC ű Z (eO (u.box 0 Z) (aJ (u.Ab 0 Z)) (u.B5 0 Z 0 Z) ω ω ⟨(bQ ω).symm,ω⟩) (λH d y=>?_))))));obtain⟨z,A,⟨B,C⟩,D,F,G,rfl,I,n⟩:=y;obtain⟨H,d⟩:=u.resBox 0 Z B C n;refine sF cu Z cH (cL aB cH Z d 4 Z (λH d f=>?_));have H:=bt (f.nilW (a:=Int));refine aH ?_;obtain⟨d,f,g,m⟩:=Rec.closeB H 4 7 5 6 Z iP;exact⟨(_,_,_),bf,m.au_pk 23,ω,ω,tw⟩
  refine br 652498 (λH=>?_) (λH=>?_)
  .try unfold Rec.few0 at h
   refine aX 270102 p ?_;refine sE ğ Z (cP η) p (λH d f=>cY f Z É Z (bk · · · ω ω ω) (λH d f g m=>sF cu Z ts2 (cL aB ts2 Z g 4 Z (λH d f=>?_))));have H:=bt (f.nilW (a:=Int));have d:=H.nilW (a:=UInt8);have H:=d.nilW (a:=UInt8);refine aH ?_;obtain⟨d,f,g,m⟩:=Rec.closeB H 4 5 6 7 Z iP;exact⟨(_,_,_),bf,m.au_pk 23,ω,ω,tw⟩
  refine br 652498 (λH=>?_) (λH=>?_)
  .try unfold Rec.few0 at h
   refine aX 270098 p ?_;refine sE ğ Z (cP η) p (λH d f=>cY f Z É Z (bk · · · ω ω ω) (λH d f g m=>?_));replace g:=bt g;refine sF cu Z ts2 (cL aB ts2 Z g 4 Z (λH d f=>aX 58691875 f ?_));refine cY f Z É Z (bk · · · ω ω ω) (λH d f g m=>sF cu Z ts2 (cL aB ts2 Z g 4 Z (λH d f=>?_)));obtain⟨na,l_⟩:∃f_:Nat,s.A2+s.A5=f_:=⟨(s.A2+s.A5).toNat,ω⟩;refine aX 270115 f ?_;refine sE ğ Z (qf η) f (λH d f=>mj aB Z cJ b6 ol Z ω db f (λH d f g m=>sF cu Z cH (cL aB cH Z m 4 Z (λH d f=>?_))));replace f:=bt f;have H:=f.nilW (a:=Int);have d:=H.nilW (a:=UInt8);refine aG 7291475 ?_;obtain⟨H,f,g,m⟩:=Rec.closeB d 4 6 7 5 Z iP;refine cp (j:=Nat × Int × Rec × List Nat) (λ(k,cc,x,fx)=>[(0,au b),(3,au c),(4,au c_),(6,au o),(5,ag (s.Data*4)),(7,ag k)]) (λ(k,cc,x,fx) w'=>Sep (· = b) w [box b (az Y W v cc),box c (.cells [ag s.A2,ag s.A5,ag s.Data,ag s.Af,ag s.Rows,ag s.Cap,ag s.An,ag s.Ao,ag s.Ap].toArray 25),box c_ (.cells [ag 0,ag 0,.string ⟨#[]⟩,ag 0,ag 0,ag 0,.slice ç 0 0,.slice ç 0 0,.slice ç 0 0].toArray 76),EK o 76 x fx] _ w'/\(k:Int)<=s.A2+s.A5/\X<=cc/\cc<=X+10+3*k/\x.few0/\(x.Ad.length:Int)=s.A2+s.A5/\x.Rows.length<=k) (λ(k,cc,x,fx)=>(s.A2+s.A5).toNat-k) (0,_,_,_) bf ⟨m.au_pk 23,bj,bj,bj,tw,GU,(by(try dsimp only);rw[g];simp)⟩ (λ(k,cc,x,fx) H c=>?_);obtain⟨c,hk,c_,o,h,k_,m_⟩:=c;refine aX 4321573 c ?_;refine sE ğ Z (cP η) c (λH c u=>br 40765 (λH=>?_) (λH=>?_))
   .obtain⟨H,c,y,z⟩:=u.open3 3 Z;replace z:=bt z;obtain⟨A,B,C,D,E,F,G,I,J,rfl,rfl,K,L,M,N⟩:=dX y;have d:=z.part 5 Z [A4 [ak A x.Rows B] x.Rows G,A4 [ak C x.Data D] x.Data I,A4 [ak E x.Ad F] x.Ad J] (all_cons L (all_cons M (all_cons N σ))) jx;have H:=cx K
    try unfold Rec.few0 at h
    refine aX 8224317218254686 d ?_;refine cZ (t:=110) Z (λH=>?_) (λH=>?_)
    .replace H:=φ H
     refine aG 3354504 ?_;refine eL Z (bu (aG 19478 ?_));obtain⟨c,f,g,m⟩:=Rec.closeB d 3 6 7 8 Z iP;exact⟨(k+1,_,_,_),bf,⟨m.au_pk 15,bj,bj,bj,tw,GU,GU⟩,θ⟩
    replace H:=φ H
    refine bc (wg Z) Z (bL Z) (dE (wg Z) Z (pcK Ħ Z) (cE (d.box 0 Z) (aJ (d.Ab 0 Z)) (d.B5 0 Z 0 Z) ω ω ω) (λH c O=>?_));obtain⟨⟨P,R⟩,T,rfl,U⟩:=O;have H:=d.Ay 0 Z P R;refine br 10433343 (λc=>?_) (λc=>?_)
    .refine bu (aG 19478 ?_);obtain⟨c,d,f,g⟩:=bt (Rec.closeB H 3 6 7 8 Z iP);exact⟨(k+1,_,_,_),bf,⟨g.au_pk 15,bj,bj,bj,Gi,FW,FW⟩,θ⟩
    obtain⟨c,d,m,f,g⟩:=r8 (H.A4 8 Z) k ω;refine bi (aW (eE (S:=H.S2 0 0) (oQ [1,3,5,7,8,11,13,15,16]) κ κ κ Z (λ_=>show H.S2 0 0 _ from Ext.refl.drawn _) (λc=>?_)));have y:=H.drawn c;refine aX 3144152367 H ?_;refine cb Z aB Z (pcK É Z) (bk (y.box 0 Z) (aJ (y.Ab 0 Z)) (y.B5 0 Z 0 Z) ω ω ω) (λhS _ _ r _=>H.s2Bx hS Z r.1) (λH c z=>?_);obtain⟨⟨A,B⟩,C,rfl,D⟩:=z;have H:=y.Ay 0 Z A B;refine dV Z (λzw l=>mr tu2 tu5 Z) (dV Z (λzw l=>SG (a:=1) Z Z) (aG 1583 ?_));refine Ko Z aB ts5 Z H 8 Z k ω Z m Z iB τ3 (λH c d f=>dO (aT (sM Z (cY f Z Ħ Z (cE · · · ω ω ω) (λH c d E f=>aH (l9 Z (λH=>?_) (λH=>?_)))))))
    .refine aX 1277846 E ?_;refine eY ([(k:Int)]) aB Z cS bV Z fF σ σ E (λH c d f g=>ma aB Z cS bV Z g 6 Z (g.A4 9 Z) dp dj (λH c d F=>?_));obtain⟨H,c,G⟩:=aL (F.A4 6 Z);cases G;refine sF cu Z eF (cL aB eF Z F 3 Z (λH c d=>aG 311651 ?_));obtain⟨H,c,f,g⟩:=bt (Rec.closeB d 3 6 7 8 Z iP);exact⟨(k+1,_,_,_),bf,⟨g.au_pk 15,bj,bj,bj,Gi,FW,FW⟩,θ⟩
    refine aG 311662 ?_;obtain⟨H,c,d,f⟩:=Rec.closeB E 3 6 7 8 Z iP;exact⟨(k+1,_,_,_),bf,⟨f.au_pk 15,bj,bj,bj,(by rw[d];unfold Rec.few0;(try dsimp only);(try simp only[aO,bE,aR,aV,aZ]);omega),(by(try dsimp only);rw[d];(try dsimp only);(try simp only[aO,bE,aR,aV,aZ]);omega),(by(try dsimp only);rw[d];(try dsimp only);(try simp only[aO,bE,aR,aV,aZ]);omega)⟩,θ⟩
   refine bu ?_;obtain⟨H,c,g,m⟩:=u.open3 3 Z;obtain⟨u,y,z,A,B,C,D,E,F,rfl,rfl,G,I,J,K⟩:=dX g;have L:=m.part 5 Z [A4 [ak u x.Rows y] x.Rows D,A4 [ak z x.Data A] x.Data E,A4 [ak B x.Ad C] x.Ad F] (all_cons I (all_cons J (all_cons K σ))) jx;have H:=cx G
   try unfold Rec.few0 at h
   refine ce (sR 2 Z (sC ű Z (eO (L.box 0 Z) (aJ (L.Ab 0 Z)) (L.B5 0 Z 0 Z) ω ω ⟨(bQ ω).symm,ω⟩) (λH c M=>?_)));obtain⟨N,O,⟨P,R⟩,T,U,n,rfl,a_,b_⟩:=M;obtain⟨H,c⟩:=bt (L.resBox 0 Z P R b_);refine sF cu Z cH (cL aB cH Z c 3 Z (λH c d=>aH ?_));obtain⟨H,c,f,g⟩:=Rec.closeB d 3 6 9 8 Z iP;exact⟨(_,_,_),bf,g.au_pk 15,ω,ω,Gi⟩
  have H:=p.nilW (a:=Int);have c:=bt (H.nilW (a:=UInt8));have H:=c.nilW (a:=UInt8);refine bi ?_;obtain⟨c,d,f,g⟩:=Rec.closeB H 4 5 6 7 Z iP;exact⟨(_,_,_),bf,g.au_pk 23,ω,ω,Gi⟩
 obtain⟨q,c_,o,h⟩:=q;refine aW (aT (sM Z (cY q Z Ħ Z (cE · · · ω ω ω) (λH c d c_ f=>aH (l9 Z (λH=>?_) (λH=>?_))))))
 .refine aT (sM Z (cY c_ Z É Z (bk · · · ω ω ω) (λH c d o f=>?_)));replace o:=bt o;refine br 42762110707 (λH=>?_) (λH=>?_)
  .obtain⟨H,c,p,q⟩:=o.open3 3 Z;obtain⟨Q,a',b',c',d',e',f',g',h',rfl,rfl,i',j',k',l'⟩:=dX p;have H:=q.part 5 Z [A4 [ak Q x.Rows a'] x.Rows f',A4 [ak b' x.Data c'] x.Data g',A4 [ak d' x.Ad e'] x.Ad h'] (all_cons j' (all_cons k' (all_cons l' σ))) jx
   try unfold Rec.few0 at h
   refine ce (sM Z (eY ([0,5,1,2,3,4]) aB Z cS bV Z fF σ σ H (λH c d f g=>cY g Z Ă Z (bW · · · ω ω (aJ (g.A4 9 Z)) (λx l e=>g.apart (i:=0) (j:=9) Z Z Z x l gR) σ) (λH c d f g=>?_))))
   replace g:=ψ g
   have c:=bt (f.conv 9 gone Z trivial df df);have d:0<=H/\H<=5:=by omega
   clear g
   refine sF cu Z ts2 (cL aB ts2 Z c 3 Z (λH c d=>aH (aW ?_)));obtain⟨m,H,c,f⟩:=Rec.closeB d 3 6 7 8 Z iP;have u:m.few:=u1;obtain⟨H,c,y,z⟩:=f.open3 3 Z;obtain⟨A,B,C,D,E,F,G,I,J,rfl,rfl,K,L,M,N⟩:=dX y;have H:=bt (z.part 11 Z [A4 [ak A m.Rows B] m.Rows G,A4 [ak C m.Data D] m.Data I,A4 [ak E m.Ad F] m.Ad J] (all_cons L (all_cons M (all_cons N σ))) jx);refine aX 16886 H ?_;exact bw aB cy Z H 2 Z (λH c d=>aH (dT hQ (d.box 2 Z) Z ⟨_,ω,⟨d.ext,d.box 0 Z⟩,m,_,_,_,_,_,_,Z,u,d.res3 0 12 13 14 Z (λw O P R=>Rec.own_mk (eT u) O P R)⟩))
  refine br 652498 (λH=>?_) (λH=>?_)
  .obtain⟨H,c,T,U⟩:=o.open3 3 Z;obtain⟨n,a_,b_,m',n',o',p',q',r',rfl,rfl,s',t',u',v'⟩:=dX T;have H:=U.part 5 Z [A4 [ak n x.Rows a_] x.Rows p',A4 [ak b_ x.Data m'] x.Data q',A4 [ak n' x.Ad o'] x.Ad r'] (all_cons t' (all_cons u' (all_cons v' σ))) jx
   try unfold Rec.few0 at h
   refine ce (sM Z (eY ([0,1000000000,1000000001]) aB Z cS bV Z fF σ σ H (λH c d f g=>cY g Z Ă Z (bW · · · ω ω (aJ (g.A4 9 Z)) (λx l e=>g.apart (i:=0) (j:=9) Z Z Z x l gR) σ) (λH c d f g=>?_))));replace f:=bt f
   replace g:=ψ g
   have c:=f.conv 9 gone Z trivial df df;have d:0<=H/\H<=1000000001:=by omega
   clear g
   refine sF cu Z ts2 (cL aB ts2 Z c 3 Z (λH c d=>aH (aW ?_)));obtain⟨m,H,c,f⟩:=Rec.closeB d 3 6 7 8 Z iP;have p:m.few:=u1;obtain⟨H,c,q,Q⟩:=bt (f.open3 3 Z);obtain⟨a',b',c',d',e',f',g',h',i',rfl,rfl,j',k',l',x'⟩:=dX q;have H:=Q.part 11 Z [A4 [ak a' m.Rows b'] m.Rows g',A4 [ak c' m.Data d'] m.Data h',A4 [ak e' m.Ad f'] m.Ad i'] (all_cons k' (all_cons l' (all_cons x' σ))) jx;refine aX 16886 H ?_;exact bw aB cy Z H 2 Z (λH c d=>aH (dT hQ (d.box 2 Z) Z ⟨_,ω,⟨d.ext,d.box 0 Z⟩,m,_,_,_,_,_,_,Z,p,d.res3 0 12 13 14 Z (λw O P R=>Rec.own_mk (eT p) O P R)⟩))
  refine br 652498 (λH=>?_) (λH=>?_)
  .obtain⟨H,c,u,y'⟩:=o.open3 3 Z;obtain⟨z',A',B',C',D',E',F',G',I',rfl,rfl,J',K',L',M'⟩:=dX u;have y:=bt (y'.part 5 Z [A4 [ak z' x.Rows A'] x.Rows F',A4 [ak B' x.Data C'] x.Data G',A4 [ak D' x.Ad E'] x.Ad I'] (all_cons K' (all_cons L' (all_cons M' σ))) jx)
   try unfold Rec.few0 at h
   refine ce (sM Z (sC func28 Z (nS (y.box 0 Z) (aJ (y.Ab 0 Z)) (y.B5 0 Z 0 Z) ω ω) (λH c z=>?_)));obtain⟨N',O',⟨P',Q'⟩,R',rfl,S'⟩:=z;have H:=y.Ay 0 Z P' Q';refine sF cu Z ts9 (cL aB ts9 Z H 3 Z (λH c d=>aH (aW ?_)));obtain⟨g,H,c,f⟩:=Rec.closeB d 3 6 7 8 Z iP;have A:g.few:=u1;obtain⟨H,c,B,C⟩:=bt (f.open3 3 Z);obtain⟨D,E,F,G,I,J,K,L,M,rfl,rfl,N,T,U,n⟩:=dX B;have H:=C.part 10 Z [A4 [ak D g.Rows E] g.Rows K,A4 [ak F g.Data G] g.Data L,A4 [ak I g.Ad J] g.Ad M] (all_cons T (all_cons U (all_cons n σ))) jx;refine aX 16886 H ?_;exact bw aB cy Z H 2 Z (λH c d=>aH (dT hQ (d.box 2 Z) Z ⟨_,ω,⟨d.ext,d.box 0 Z⟩,g,_,_,_,_,_,_,Z,A,d.res3 0 11 12 13 Z (λw O P R=>Rec.own_mk (eT A) O P R)⟩))
  refine br 652498 (λH=>?_) (λH=>?_)
  .obtain⟨H,c,m,a_⟩:=o.open3 3 Z;obtain⟨b_,m',n',o',p',q',r',s',t',rfl,rfl,u',v',T',U'⟩:=dX m;have H:=bt (a_.part 5 Z [A4 [ak b_ x.Rows m'] x.Rows r',A4 [ak n' x.Data o'] x.Data s',A4 [ak p' x.Ad q'] x.Ad t'] (all_cons v' (all_cons T' (all_cons U' σ))) jx)
   try unfold Rec.few0 at h
   refine aX 204994838 H ?_;refine eY ([0,-2,1000,(x.Length+1)]) aB Z cS bV Z fF σ σ H (λH c d f g=>cY g Z Ă Z (bW · · · ω ω (aJ (g.A4 9 Z)) (λx l e=>g.apart (i:=0) (j:=9) Z Z Z x l gR) σ) (λH c d f g=>?_))
   replace g:=ψ g
   have H:=f.conv 9 gone Z trivial df df;refine sF cu Z ts2 (cL aB ts2 Z H 3 Z (λH c d=>aH (aW ?_)));obtain⟨p,H,c,f⟩:=bt (Rec.closeB d 3 6 7 8 Z iP);have q:p.few:=u1;obtain⟨H,c,u,y⟩:=f.open3 3 Z;obtain⟨z,Q,a',b',c',d',e',f',g',rfl,rfl,h',i',j',k'⟩:=dX u;have H:=y.part 11 Z [A4 [ak z p.Rows Q] p.Rows e',A4 [ak a' p.Data b'] p.Data f',A4 [ak c' p.Ad d'] p.Ad g'] (all_cons i' (all_cons j' (all_cons k' σ))) jx;refine aX 16886 H ?_;exact bw aB cy Z H 2 Z (λH c d=>aH (dT hQ (d.box 2 Z) Z ⟨_,ω,⟨d.ext,d.box 0 Z⟩,p,_,_,_,_,_,_,Z,q,d.res3 0 12 13 14 Z (λw O P R=>Rec.own_mk (eT q) O P R)⟩))
  refine br 652498 (λH=>?_) (λH=>?_)
  .obtain⟨H,c,A,l'⟩:=o.open3 3 Z;replace l':=bt l';obtain⟨x',y',z',A',B',C',D',E',F',rfl,rfl,G',I',J',K'⟩:=dX A;have B:=l'.part 5 Z [A4 [ak x' x.Rows y'] x.Rows D',A4 [ak z' x.Data A'] x.Data E',A4 [ak B' x.Ad C'] x.Ad F'] (all_cons I' (all_cons J' (all_cons K' σ))) jx
   try unfold Rec.few0 at h
   refine eE (S:=B.S2 0 0) (oQ [1,3,5,7,8,10,12,15,16]) κ κ κ Z (λ_=>show B.S2 0 0 _ from Ext.refl.drawn _) (λH=>?_);have C:=B.drawn H;refine aX 450812138235 B ?_;refine cb Z aB Z (pcK ğ Z) (cP η) (λhS _ _ r _=>B.s2Call hS r.1) (λH c D=>?_);obtain⟨E,rfl⟩:=D;have H:=C.to E;refine sJ ([-1,s.A2,(s.A2+s.A5)]) Z aB Z cS bV Z Z fF σ σ H (λ_ d_ e=>B.s2Call d_ e) (λH c d f m=>cb Z aB Z (pcK Ă Z) (bW (m.box 0 Z) (aJ (m.Ab 0 Z)) (m.B5 0 Z 0 Z) ω ω (aJ (m.A4 9 Z)) (λx l e=>m.apart (i:=0) (j:=9) Z Z Z x l gR) σ) (λhS _ _ r _=>B.s2Bx hS Z r.1) (λH c F=>?_));obtain⟨⟨G,I⟩,J,rfl,K⟩:=F;have H:=m.Ay 0 Z G I
   replace K:=ψ K
   have c:=H.conv 9 gone Z trivial df df;refine dV Z τ8 (dm Z aB ts2 Z c 3 Z τ3 (λH c d=>?_));replace d:=bt d;refine dO (aW ?_);obtain⟨g,H,c,f⟩:=Rec.closeB d 3 6 7 8 Z iP;have p:g.few:=u1;obtain⟨H,c,q,L⟩:=f.open3 3 Z;obtain⟨M,N,T,U,n,a_,b_,m',n',rfl,rfl,o',p',q',r'⟩:=dX q;have H:=L.part 11 Z [A4 [ak M g.Rows N] g.Rows b_,A4 [ak T g.Data U] g.Data m',A4 [ak n g.Ad a_] g.Ad n'] (all_cons p' (all_cons q' (all_cons r' σ))) jx;refine aX 16886 H ?_;refine bw aB cy Z H 2 Z (λH c d=>?_);replace d:=bt d;exact aH (dT hQ (d.box 2 Z) Z ⟨_,ω,⟨d.ext,d.box 0 Z⟩,g,_,_,_,_,_,_,Z,p,d.res3 0 12 13 14 Z (λw O P R=>Rec.own_mk (eT p) O P R)⟩)
  refine br 652498 (λH=>?_) (λH=>?_)
  .obtain⟨H,c,u,y⟩:=o.open3 3 Z;obtain⟨z,A,Q,a',b',c',d',e',f',rfl,rfl,g',h',i',j'⟩:=dX u;have H:=y.part 5 Z [A4 [ak z x.Rows A] x.Rows d',A4 [ak Q x.Data a'] x.Data e',A4 [ak b' x.Ad c'] x.Ad f'] (all_cons h' (all_cons i' (all_cons j' σ))) jx
   try unfold Rec.few0 at h
   refine aX 3668246 H ?_;refine eY ([-1,s.Rows]) aB Z cS bV Z fF σ σ H (λH c d f g=>cY g Z Ă Z (bW · · · ω ω (aJ (g.A4 9 Z)) (λx l e=>g.apart (i:=0) (j:=9) Z Z Z x l gR) σ) (λH c d f g=>?_))
   replace g:=ψ g
   have H:=bt (f.conv 9 gone Z trivial df df);refine sF cu Z ts2 (cL aB ts2 Z H 3 Z (λH c d=>aH (aW ?_)));obtain⟨m,H,c,f⟩:=Rec.closeB d 3 6 7 8 Z iP;have B:m.few:=u1;obtain⟨H,c,C,D⟩:=f.open3 3 Z;obtain⟨E,F,G,I,J,K,k',l',s',rfl,rfl,t',u',v',x'⟩:=dX C;have H:=bt (D.part 11 Z [A4 [ak E m.Rows F] m.Rows k',A4 [ak G m.Data I] m.Data l',A4 [ak J m.Ad K] m.Ad s'] (all_cons u' (all_cons v' (all_cons x' σ))) jx);refine aX 16886 H ?_;exact bw aB cy Z H 2 Z (λH c d=>aH (dT hQ (d.box 2 Z) Z ⟨_,ω,⟨d.ext,d.box 0 Z⟩,m,_,_,_,_,_,_,Z,B,d.res3 0 12 13 14 Z (λw O P R=>Rec.own_mk (eT B) O P R)⟩))
  refine br 652498 (λH=>?_) (λH=>?_)
  .obtain⟨H,c,p,y'⟩:=o.open3 3 Z;obtain⟨z',A',B',C',D',E',F',G',I',rfl,rfl,J',K',L',M'⟩:=dX p;have q:=y'.part 5 Z [A4 [ak z' x.Rows A'] x.Rows F',A4 [ak B' x.Data C'] x.Data G',A4 [ak D' x.Ad E'] x.Ad I'] (all_cons K' (all_cons L' (all_cons M' σ))) jx;have H:=cx J'
   try unfold Rec.few0 at h
   refine eE (S:=q.S2 0 6) (oQ [1,3,5,7,9,10,12,14,16,19,20]) κ κ κ Z (λ_=>show q.S2 0 6 _ from Ext.refl.drawn _) (λH=>?_);have c:=q.drawn H;refine aX 0x67f52fb67f52f q ?_;refine sJ ([0,-1,s.Rows]) Z aB Z cS bV Z Z fF σ σ c (λ_ d_ e=>q.s2Call d_ e) (λH c d f L=>cb Z aB Z (pcK Ă Z) (bW (L.box 0 Z) (aJ (L.Ab 0 Z)) (L.B5 0 Z 0 Z) ω ω (aJ (L.A4 9 Z)) (λx l e=>L.apart (i:=0) (j:=9) Z Z Z x l gR) σ) (λhS _ _ r _=>q.s2Bx hS Z r.1) (λH c M=>?_));obtain⟨⟨N,T⟩,U,rfl,n⟩:=M;have H:=bt (L.Ay 0 Z N T)
   replace n:=ψ n
   have c:=H.conv 9 gone Z trivial df df;refine sJ ([U]) Z aB Z cS bV Z Z fF σ σ c (λ_ d_ e=>q.s2Call d_ e) (λH c d f g=>KC Z aB Z cS bV Z Z Z g 6 Z (g.A4 10 Z) dp dj (λ_ d_ e=>q.s2In d_ 6 Z (.inr Z) e (λ_ hb=>hb)) (λH c d u=>?_));obtain⟨H,c,y⟩:=aL (u.A4 6 Z);cases y;refine dV Z υ0 (dm Z aB eF Z u 3 Z τ3 (λH c d=>dO (aW ?_)));obtain⟨m,H,c,f⟩:=Rec.closeB d 3 6 7 8 Z iP;have z:m.few:=u1;obtain⟨H,c,A,B⟩:=bt (f.open3 3 Z);obtain⟨C,D,E,F,G,I,J,K,a_,rfl,rfl,b_,Q,a',b'⟩:=dX A;have H:=B.part 12 Z [A4 [ak C m.Rows D] m.Rows J,A4 [ak E m.Data F] m.Data K,A4 [ak G m.Ad I] m.Ad a_] (all_cons Q (all_cons a' (all_cons b' σ))) jx;refine aX 16886 H ?_;exact bw aB cy Z H 2 Z (λH c d=>aH (dT hQ (d.box 2 Z) Z ⟨_,ω,⟨d.ext,d.box 0 Z⟩,m,_,_,_,_,_,_,Z,z,d.res3 0 13 14 15 Z (λw O P R=>Rec.own_mk (eT z) O P R)⟩))
  refine br 652498 (λH=>?_) (λH=>?_)
  .obtain⟨H,c,p,q⟩:=o.open3 3 Z;obtain⟨c',d',e',f',g',h',i',j',k',rfl,rfl,l',m',n',o'⟩:=dX p;have H:=bt (q.part 5 Z [A4 [ak c' x.Rows d'] x.Rows i',A4 [ak e' x.Data f'] x.Data j',A4 [ak g' x.Ad h'] x.Ad k'] (all_cons m' (all_cons n' (all_cons o' σ))) jx);have c:=cx l'
   try unfold Rec.few0 at h
   refine aX 229270 H ?_;refine dx aB Z cJ b6 Z H (λH c d f g=>fC aB Z cJ b6 Z g 8 9 Z (iB (x:=1)) dp dj (λH c d L=>?_));obtain⟨H,c,M⟩:=aL (L.A4 8 Z);cases M;refine sF cu Z cH (cL aB cH Z L 3 Z (λH c d=>aH (aW ?_)));obtain⟨u,H,c,f⟩:=Rec.closeB d 3 6 7 8 Z iP;have y:u.few:=u1;obtain⟨H,c,N,T⟩:=f.open3 3 Z;obtain⟨U,n,p',q',r',s',t',u',v',rfl,rfl,x',y',z',A'⟩:=dX N;have H:=bt (T.part 11 Z [A4 [ak U u.Rows n] u.Rows t',A4 [ak p' u.Data q'] u.Data u',A4 [ak r' u.Ad s'] u.Ad v'] (all_cons y' (all_cons z' (all_cons A' σ))) jx);refine aX 16886 H ?_;exact bw aB cy Z H 2 Z (λH c d=>aH (dT hQ (d.box 2 Z) Z ⟨_,ω,⟨d.ext,d.box 0 Z⟩,u,_,_,_,_,_,_,Z,y,d.res3 0 12 13 14 Z (λw O P R=>Rec.own_mk (eT y) O P R)⟩))
  obtain⟨H,c,m,B'⟩:=o.open3 3 Z;obtain⟨o,C',D',E',F',G',I',J',K',rfl,rfl,L',M',N',O'⟩:=dX m;have H:=B'.part 5 Z [A4 [ak o x.Rows C'] x.Rows I',A4 [ak D' x.Data E'] x.Data J',A4 [ak F' x.Ad G'] x.Ad K'] (all_cons M' (all_cons N' (all_cons O' σ))) jx;refine aX 270126 H ?_;refine bw aB cy Z H 2 Z (λH c d=>?_);replace d:=bt d;exact aH (dT hQ (d.box 2 Z) Z ⟨_,ω,⟨d.ext,d.box 0 Z⟩,x,_,_,_,_,_,_,Z,(yo h),d.res3 0 6 7 8 Z (λw O P R=>Rec.own_mk (eT (yo h)) O P R)⟩)
 obtain⟨H,c,z,A⟩:=c_.open3 3 Z;obtain⟨c_,B,C,D,E,F,G,I,J,rfl,rfl,K,a_,b_,Q⟩:=dX z;have H:=A.part 5 Z [A4 [ak c_ x.Rows B] x.Rows G,A4 [ak C x.Data D] x.Data I,A4 [ak E x.Ad F] x.Ad J] (all_cons a_ (all_cons b_ (all_cons Q σ))) jx;refine aX 270126 H ?_;exact bw aB cy Z H 2 Z (λH c d=>aH (dT hQ (d.box 2 Z) Z ⟨_,ω,⟨d.ext,d.box 0 Z⟩,x,_,_,_,_,_,_,Z,(yo h),d.res3 0 6 7 8 Z (λw O P R=>Rec.own_mk (eT (yo h)) O P R)⟩))

theorem x8{w:ä}: am 148 [] w λv W=>∃A C,v=kH.val A C/\Res w W [ag kH.Stamp,ak A kH.Bytes C] kH:=by
 refine bv func148 Z (λQ h N=>?_);have H:=Sep.start (w:=w) (F:=[]) σ;refine aT (cz aB Z zeroValue87 H (λH a b c d=>aH (aT (xT aB Z cJ b6 ol Z qN qQ d (λH a b c d=>sV Z (bM jp Z Z) (bw aB zV Z d 0 Z (λH a b=>aH (dT h (b.box 0 Z) Z ?_))))))));exact⟨b.ext,_,_,Z,Block.out (x:=kH) (b.au_pk 2) C2⟩

theorem mI{w:ä}{s:A0}(e:s.ok=ã):am 98 [s.v] w λv W=>∃A C,v=(freshD s).val A C/\Res w W [.bool (freshD s).Au,.slice A (freshD s).Ai.length C] (freshD s):=by
 have y:=bm e;refine bv func98 Z (λQ h N=>?_);have H:=Sep.start (w:=w) (F:=[]) σ;refine aT (ci aB Z H (λH b c d f=>cz aB Z Ķ f (λH b c d f=>aH (aT (sV Z (bM ne Z Z) (cz aB Z Ķ f (λH b c d f=>bw aB oT Z f 2 Z (λH b c=>?_))))))));have H:=c.nilW (a:=Block);refine aG 7291475 ?_;refine mK (m:=Block) (a:=Nat) (λk=>å k kH) 0 H 3 2 1 Z [(1,_),(2,_),(3,_)] bf (λk=>[(4,ag k)]) (λk=>(k:Int)<=s.Rows/\True) (λk=>s.Rows.toNat-k) ⟨Z,trivial⟩ ⟨ω,trivial⟩ (λk H b c g ⟨u,_⟩=>?_);dsimp only[jf,lNA,lSZ,sk] at g ⊢;refine ge 0x9f3d37f9125 g (λH=>?_) (λH=>?_)
 .have H:=aZ (n:=k) (a:=kH);refine bi (aW (bP (eE (S:=Ext (· ∈ b) _) (oQ [1,3,4,6,8,11,12]) κ κ κ Z τ6 (λH=>?_))));have i:=g.drawn H;refine dV Z υ2 (dV Z (λz t=>bp wN Z (bD (t.heapM (i.Bh 2 Z 3 Z) (i.box 2 Z)) Z)) (dC func148 Z x8 (λH b j=>?_)));obtain⟨l,m,o,rfl,j⟩:=j;obtain⟨H,b⟩:=i.res l j;refine dB Z aB Z wN ni Z b τ0 (λH b c d f=>kj Z aB Z wN ni Z f 3 5 4 Z db ω τ9 (λH b c p=>?_));obtain⟨H,b,q⟩:=aL (p.A4 3 Z);cases q;refine dV Z υ2 (dm Z aB xY Z p 2 Z τ3 (λH b c=>aG 79781967 ?_));exact⟨(k+1,_,_),bf,⟨by dsimp only;rw[<- pu (k:=k) (x:=kH)];exact(c.dtake 4),ω,trivial⟩,θ⟩
 refine bu ?_;obtain rfl:k=s.Rows.toNat:=by omega
 obtain⟨H,b,r⟩:=aL (g.A4 3 Z);cases r;refine aX 16882 g ?_;refine bw aB oT Z g 1 Z (λH b c=>?_);replace c:=bt c;exact aH (dT h (c.box 1 Z) Z ⟨c.ext,_,_,Z,Drive.out (x:=freshD s) (c.au_pk 8) trivial⟩)

theorem χ {p q:Prop}(h:p)(i:p->q:=by
 intro h
 try simp only[cB,aR,aV] at h
 exact h):q:=i h
theorem xp{w:ä}{s:A0}(S:s.Ok):am 58 [s.v] w λv W=>∃e I E J G K,v=(fg s).val e I E J G K/\Res w W [ag (fg s).Code,ag (fg s).Wd.A0.A2,ag (fg s).Wd.A0.A5,ag (fg s).Wd.A0.Data,ag (fg s).Wd.A0.Af,ag (fg s).Wd.A0.Rows,ag (fg s).Wd.A0.Cap,ag (fg s).Wd.A0.An,ag (fg s).Wd.A0.Ao,ag (fg s).Wd.A0.Ap,.slice e (fg s).Wd.A2.length I,.slice E (fg s).Wd.On.length J,.slice G (fg s).Wd.A3.length K,ag (fg s).Wd.Aa,ag (fg s).Wd.Stop,.bool (fg s).Wd.Down] (fg s):=by
 refine bv func58 Z (λQ h R=>?_);have H:=Sep.start (w:=w) (F:=[]) σ;refine aT (ci aB Z H (λH b c d f=>cz aB Z Č f (λH b c d f=>aX 4321875 f ?_)));refine sE func7 Z iY f (λH b c=>br 166973732 (λH=>?_) (λH=>?_))
 .refine aT (sM Z (sV Z (bM dQ Z Z) (bw aB (o:=0) jl Z c 1 Z (λH b d=>?_))))
  replace d:=χ d
  refine aH (dT h (d.box 1 Z) Z ?_);rw[vr ω];exact⟨d.ext,ç,0,ç,0,ç,0,Z,iJ (IC s)⟩
 have N:=gS (s:=s) ω;have T:=bm N;refine bi (aW (ep c (oQ [1,2008,2,5,6,8,6,2,5,8]) (λH g=>aX 1631 g ?_)));refine dF Z ?_ ?_
 .refine xH Z aB Z jP lO (show ∀w,own ã w (ţ #[.bool â,.slice ç 0 0]).cells.toList (à:Tape) [] from λ_=>u7) Z qN qQ g τ0 (λi H b c d=>dV Z (λP O=>bM (c:=[ag s.A2,ag s.A5,ag s.Data,ag s.Af,ag s.Rows,ag s.Cap,ag s.An,ag s.Ao,ag s.Ap,.slice ç 0 0,.slice ç 0 0,.slice (ax i) (å 2 (à:Tape)).length 2,ag 0,ag (-1),.bool â]) vt Z κ) (Mc Z aB Z Ç d τ0 (λH b c d f=>lI Z aB (o:=0) ff Z f 3 Z Z τ3 (λH b c=>?_))))
  replace c:=χ c
  have H:=c.nilW (a:=(List Drive));refine aG 1866616911 ?_;refine mK (m:=(List Drive)) (a:=Nat) (λk=>å k (sQ s)) 0 H 4 3 9 Z [(1,_),(2,_),(4,_)] bf (λk=>[(5,ag k)]) (λk=>(k:Int)<=s.A2+s.A5/\True) (λk=>(s.A2+s.A5).toNat-k) ⟨Z,trivial⟩ ⟨ω,trivial⟩ (λk H b c d ⟨L,_⟩=>?_);dsimp only[jf,lNA,lSZ,sk] at d ⊢;refine aX 4321573 d ?_;refine sE ğ Z (cP η) d (λH b j=>br 40765 (λH=>?_) (λH=>?_))
  .refine bi (aW (bP (aT (dG (f:=Drive) aB Z kZ e8 j (λH b c d f=>aG 7291476 ?_)))));refine fc (b:=Drive) (a:=Nat) (λm=>å m (freshD s)) 0 f 5 Z 6 Z [(1,_),(2,_),(4,_),(5,_)] bf (λm=>[(7,ag m)]) (λm=>(m:Int)<=s.Data+s.Af/\True) (λm=>(s.Data+s.Af).toNat-m) ⟨Z,trivial⟩ ⟨ω,trivial⟩ (λm H b c d ⟨M,_⟩=>?_);dsimp only[jf,lNA,lSZ,sk] at d ⊢;refine aX 4321573 d ?_;refine sE func97 Z (lJ η) d (λH b l=>br 40765 (λH=>?_) (λH=>?_))
   .have o:=aZ (n:=m) (a:=freshD s);refine aX 283222503262 l ?_;refine sC func98 Z (mI η) (λH b p=>?_);obtain⟨q,r,t,rfl,p⟩:=p;obtain⟨H,b⟩:=l.res q p;refine dx aB Z kZ e8 Z b (λH b c d f=>kC aB Z kZ e8 Z f 5 7 6 Z db ω (λH b c d=>aG 311652 ?_));exact⟨(m+1,_,_),bf,⟨by dsimp only;rw[<- pu (k:=m) (x:=freshD s)];exact(d.dtake 6),ω,trivial⟩,θ⟩
   refine bu ?_;obtain rfl:m=(s.Data+s.Af).toNat:=by omega
   have u:=aZ (n:=k) (a:=sQ s);obtain⟨H,b,y⟩:=aL (l.A4 5 Z);cases y;refine aX 1277846 l ?_;refine dx aB Z ie iV Z l (λH b c d f=>kC aB Z ie iV Z f 4 6 5 Z db ω (λH b c z=>?_));obtain⟨H,b,A⟩:=aL (z.A4 4 Z);cases A;refine sF eC Z pS (cL aB (o:=9) pS Z z 3 Z (λH b c=>?_));replace c:=bt c;refine aG 311651 ?_;exact⟨(k+1,_,_),bf,⟨GX,ω,trivial⟩,θ⟩
  refine bu ?_;obtain rfl:k=(s.A2+s.A5).toNat:=by omega
  obtain⟨B,C,D⟩:=aL (j.A4 4 Z);cases D;refine aX 16882 j ?_;refine sV Z (bM (c:=[ag 0,ag s.A2,ag s.A5,ag s.Data,ag s.Af,ag s.Rows,ag s.Cap,ag s.An,ag s.Ao,ag s.Ap,.slice B (å (s.A2+s.A5).toNat (sQ s)).length C,.slice ç 0 0,.slice (ax i) (å 2 (à:Tape)).length 2,ag 0,ag (-1),.bool â]) dQ Z κ) (bw aB (o:=0) jl Z j 1 Z (λH b c=>?_))
  replace c:=χ c
  refine aH (dT h (c.box 1 Z) Z ?_);have H:=c.nilW (a:=Int);rw[pM ω];exact⟨H.ext,_,_,ç,0,_,_,Z,H.res3N 4 5 2 Z (λw d f i=>WldResult.own_mk (x:=⟨0,eM s⟩) ⟨C2,tD S⟩ d f i)⟩
 refine Mc Z aB Z Ç g τ0 (λH b c g j=>xH Z aB Z jP lO (show ∀w,own ã w (ţ #[.bool â,.slice ç 0 0]).cells.toList (à:Tape) [] from λ_=>u7) Z qN qQ j τ0 (λl H b c g=>dV Z (λP O=>bM (c:=[ag s.A2,ag s.A5,ag s.Data,ag s.Af,ag s.Rows,ag s.Cap,ag s.An,ag s.Ao,ag s.Ap,.slice ç 0 0,.slice ç 0 0,.slice (ax l) (å 2 (à:Tape)).length 2,ag 0,ag (-1),.bool â]) vt Z κ) (lI Z aB (o:=0) ff Z g 2 Z Z τ3 (λH b c=>?_))))
 replace c:=χ c
 have H:=bt (c.nilW (a:=(List Drive)));refine aG 1866616911 ?_;refine mK (m:=(List Drive)) (a:=Nat) (λk=>å k (sQ s)) 0 H 4 2 9 Z [(1,_),(2,_),(4,_)] bf (λk=>[(5,ag k)]) (λk=>(k:Int)<=s.A2+s.A5/\True) (λk=>(s.A2+s.A5).toNat-k) ⟨Z,trivial⟩ ⟨ω,trivial⟩ (λk H b c g ⟨L,_⟩=>?_);dsimp only[jf,lNA,lSZ,sk] at g ⊢;refine aX 4321573 g ?_;refine sE ğ Z (cP η) g (λH b p=>br 40765 (λH=>?_) (λH=>?_))
 .refine bi (aW (bP (aT (dG (f:=Drive) aB Z kZ e8 p (λH b c g j=>aG 7291476 ?_)))));refine fc (b:=Drive) (a:=Nat) (λm=>å m (freshD s)) 0 j 5 Z 6 Z [(1,_),(2,_),(4,_),(5,_)] bf (λm=>[(7,ag m)]) (λm=>(m:Int)<=s.Data+s.Af/\True) (λm=>(s.Data+s.Af).toNat-m) ⟨Z,trivial⟩ ⟨ω,trivial⟩ (λm H b c g ⟨M,_⟩=>?_);dsimp only[jf,lNA,lSZ,sk] at g ⊢;refine aX 4321573 g ?_;refine sE func97 Z (lJ η) g (λH b q=>br 40765 (λH=>?_) (λH=>?_))
  .have o:=aZ (n:=m) (a:=freshD s);refine aX 283222503262 q ?_;refine sC func98 Z (mI η) (λH b o=>?_);obtain⟨r,t,y,rfl,o⟩:=o;obtain⟨H,b⟩:=q.res r o;refine dx aB Z kZ e8 Z b (λH b c g j=>kC aB Z kZ e8 Z j 5 7 6 Z db ω (λH b c g=>aG 311652 ?_));exact⟨(m+1,_,_),bf,⟨by dsimp only;rw[<- pu (k:=m) (x:=freshD s)];exact(g.dtake 6),ω,trivial⟩,θ⟩
  refine bu ?_;obtain rfl:m=(s.Data+s.Af).toNat:=by omega
  have u:=aZ (n:=k) (a:=sQ s);obtain⟨H,b,u⟩:=aL (q.A4 5 Z);cases u;refine aX 1277846 q ?_;refine dx aB Z ie iV Z q (λH b c g j=>kC aB Z ie iV Z j 4 6 5 Z db ω (λH b c z=>?_));obtain⟨H,b,A⟩:=aL (z.A4 4 Z);cases A;refine sF eC Z pS (cL aB (o:=9) pS Z z 2 Z (λH b c=>aG 311651 ?_));exact⟨(k+1,_,_),bf,⟨GX,ω,trivial⟩,θ⟩
 refine bu ?_;obtain rfl:k=(s.A2+s.A5).toNat:=by omega
 obtain⟨B,C,D⟩:=aL (p.A4 4 Z);cases D;refine aX 16882 p ?_;refine sV Z (bM (c:=[ag 0,ag s.A2,ag s.A5,ag s.Data,ag s.Af,ag s.Rows,ag s.Cap,ag s.An,ag s.Ao,ag s.Ap,.slice B (å (s.A2+s.A5).toNat (sQ s)).length C,.slice ç 0 0,.slice (ax l) (å 2 (à:Tape)).length 2,ag 0,ag (-1),.bool â]) dQ Z κ) (bw aB (o:=0) jl Z p 1 Z (λH b c=>?_))
 replace c:=χ c
 refine aH (dT h (c.box 1 Z) Z ?_);have H:=c.nilW (a:=Int);rw[pM ω];exact⟨H.ext,_,_,ç,0,_,_,Z,H.res3N 4 5 3 Z (λw d f i=>WldResult.own_mk (x:=⟨0,eM s⟩) ⟨C2,tD S⟩ d f i)⟩

theorem mY{w:ä}{s:A0}(S:s.Ok)(H:s.ok=ã):am 58 [s.v] w λv W=>∃A C a c b d,v=(⟨0,eM s⟩:WldResult).val A C a c b d/\Res w W [ag (⟨0,eM s⟩:WldResult).Code,ag (⟨0,eM s⟩:WldResult).Wd.A0.A2,ag (⟨0,eM s⟩:WldResult).Wd.A0.A5,ag (⟨0,eM s⟩:WldResult).Wd.A0.Data,ag (⟨0,eM s⟩:WldResult).Wd.A0.Af,ag (⟨0,eM s⟩:WldResult).Wd.A0.Rows,ag (⟨0,eM s⟩:WldResult).Wd.A0.Cap,ag (⟨0,eM s⟩:WldResult).Wd.A0.An,ag (⟨0,eM s⟩:WldResult).Wd.A0.Ao,ag (⟨0,eM s⟩:WldResult).Wd.A0.Ap,.slice A (⟨0,eM s⟩:WldResult).Wd.A2.length C,.slice a (⟨0,eM s⟩:WldResult).Wd.On.length c,.slice b (⟨0,eM s⟩:WldResult).Wd.A3.length d,ag (⟨0,eM s⟩:WldResult).Wd.Aa,ag (⟨0,eM s⟩:WldResult).Wd.Stop,.bool (⟨0,eM s⟩:WldResult).Wd.Down] (⟨0,eM s⟩:WldResult):=by
 have h:=xp (w:=w) S;rw[pM (pV H)] at h;exact h

theorem tE{w:ä}{x y:Int}: am 203 [ag x,ag y] w λv W=>∃m:Int,v = ag m/\x<=m/\(m=x\/m=y):=by
 refine bv func203 Z (λQ h N=>?_);have H:=Sep.start (w:=w) (F:=[]) σ;refine br 683924333890 (λa=>?_) (λa=>?_)
 .refine aT (sR 2 Z (rN h Z ?_));exact⟨H.ext,_,Z,ω,.inl Z⟩
 refine aG 16686 ?_;refine rT h Z ?_;exact⟨H.ext,_,Z,ω,.inr Z⟩

theorem υ7 {p:Prop}(h:p:=by exact λzw hx=>bM eD Z Z):p:=h
theorem yN{w:ä}(hb:w.heap[b]? = á (az Y W v X))(cO:ah w Y W v V)(hd:∀x∈V,x≠b)(B_:0<=X/\X<=300000)(z_:W.length<=1048576):Ret ê 201 #[au b] w λo_ w'=>(∃q_:Int,(X<=q_/\q_<=X+3000)/\BoxTo w w' b (az Y W v q_)/\∃(z:Aw) (A9:Option ô) (C9:Nat) (r_:Option ô) (t_:Nat) (s_:Option ô) (u_:Nat),o_=z.val A9 C9 r_ t_ s_ u_/\z.few 300/\ResV w w' [ag z.A0.A2,ag z.A0.A5,ag z.A0.Data,ag z.A0.Af,ag z.A0.Rows,ag z.A0.Cap,ag z.A0.An,ag z.A0.Ao,ag z.A0.Ap,ak A9 z.A2 C9,ak r_ z.On t_,ak s_ z.A3 u_,ag z.Aa,ag z.Stop,.bool z.Down] z):=by
 refine bv func201 Z (λy_ hQ hN=>?_);have H:=(Sep.beginBox hb).look (r:=Ab â [ak Y W v] W V) cO (λx R hm=>hd x R km);refine aT (cz aB Z Ç H (λa H c f g=>aH (aT (sM Z (sC func56 Z (mc (g.box 0 Z) (aJ (g.Ab 0 Z)) (g.B5 0 Z 0 Z) ω ω) (λH c l=>?_))))));obtain⟨o,p,⟨s,u⟩,y,rfl,A⟩:=l;have B:=g.Ay 0 Z s u;refine sC func58 Z (mY (by first|assumption|exact jA η) η) (λH c C=>?_);obtain⟨D,E,F,G,d_,J,K,rfl,C⟩:=C;obtain⟨H,c⟩:=B.res D C;obtain⟨H,f,g,l,o,p,s,u⟩:=iC (c.A4 2 Z);have o:=c.part 2 Z [A4 [.slice _ (⟨0,eM y⟩:WldResult).Wd.A2.length _] (⟨0,eM y⟩:WldResult).Wd.A2 H,A4 [.slice _ (⟨0,eM y⟩:WldResult).Wd.On.length _] (⟨0,eM y⟩:WldResult).Wd.On f,A4 [.slice _ (⟨0,eM y⟩:WldResult).Wd.A3.length _] (⟨0,eM y⟩:WldResult).Wd.A3 g] (all_cons p (all_cons s (all_cons u σ))) (by simp[blocks,A4,l]);refine sV Z (Gv Eu Z eC ff Z Z) (cz aB Z Ç o (λL H c f g=>bw aB ff Z g 6 Z (λH c f=>?_)));obtain⟨H,c⟩:=bt (f.Ar 6 3 4 5 (eM y) Z (tD (jA A)));obtain⟨zv,fv,fq,w_,HT⟩:=c.toWV 6 Z;obtain⟨M,H⟩:=Nt A w_;have b_:=QB w_;have HR:=HT.rdNil;rw[show rdR [] []=rdR (Am zv.A3) [] by rw[H]] at HR;replace HR:=bt HR;refine aH (aW (aW ?_));have HQ:=HR.B9 (a:=[Ab â [ak Y W v] W V,rdR (Am zv.A3) []]) (λr U=>by simp only[aM,aQ,bB] at U;rcases U with rfl|rfl<;>simp);refine ce (sM Z (cY HQ Z É Z (bk · · · ω ω ω) (λH c f g l=>sA Z (aH (bP (cp (j:=Int × Int × Aw × List Nat × List Nat) (λ(n,I,z,O,Q)=>[(0,au b),(2,au a),(3,au L),(4,ag n)]) (λ(n,I,z,O,Q) w'=>Sep (· = b) w [box b (az Y W v I),box a ao,Az L 31 z O] [Ab â [ak Y W v] W V,rdR (Am z.A3) Q] w'/\0<=n/\n<=12/\(X<=I/\I<=X+20+20*(12-n))/\z.dim 0/\z.On.length=0/\(∀b∈Q,w.heap.size<=b)) (λ(n,I,z,O,Q)=>n.toNat) (H,_,_,_,_) bf ⟨g.au_pk 67,bj,bj,bj,M,b_,by(try dsimp only);simp⟩ (λ(n,I,z,O,Q) H p=>?_)))))));obtain⟨p,s,u,m_,k,b_,N⟩:=p;refine br 166973733 (λH=>?_) (λH=>?_)
 .have y:=k.sh;have h_:=bm k.sh;have A:=k.gr.1;obtain⟨H,c,f,g,l,o,B,C,D,E,F⟩:=bt (p.B4 2 Z);have H:=oL (F.A4 4 Z);refine aX 0x2ff37f91206f5e F ?_;refine cY F Z É Z (bk · · · ω ω ω) (λG H c f g=>?_);have T:=fQ (i:=G.toNat) (d:=[]) k.gr.2 ω;have d_:=T.1;obtain⟨H,c,g,l,o,B,C,D,F,J⟩:=f.focusL 4 Z G.toNat ω;refine aX 0x2ff39f3ff137f9124 J ?_;refine cY J Z É Z (bk · · · ω ω ω) (λK H c f g=>?_);have f_:=fQ (i:=K.toNat) (d:=à) T.2 ω;have j_:=f_.1;obtain⟨H,c,g,l,o,B,C,D,J,M,P⟩:=bt (Drive.focus f 7 Z K.toNat ω);refine sA Z (aH (eE (S:=P.S2 0 0) (oQ [1,3,5,7,9,11,13,15,17,19,21,23,25,29,33,26,30,34,37,39,40]) κ κ κ Z (λ_=>show P.S2 0 0 _ from Ext.refl.drawn _) (λH=>?_)));have c_:=P.drawn H;refine aX 191362351 P ?_;refine dV Z (λzw R=>bR ie nn Z F G.toNat ω ω) (aX 0xbb67f52f52fb6bf52f63fb6af P ?_);refine cb Z aB Z (pcK É Z) (bk (c_.box 0 Z) (aJ (c_.Ab 0 Z)) (c_.B5 0 Z 0 Z) ω ω ω) (λhS _ _ r _=>P.s2Bx hS Z r.1) (λH c e_=>?_);obtain⟨⟨g_,i_⟩,k_,rfl,p_⟩:=e_;have H':=c_.Ay 0 Z g_ i_;refine cb Z aB Z (pcK É Z) (bk (H'.box 0 Z) (aJ (H'.Ab 0 Z)) (H'.B5 0 Z 0 Z) ω ω ω) (λhS _ _ r _=>P.s2Bx hS Z r.1) (λH c a'=>?_);obtain⟨⟨b',c'⟩,d',rfl,e'⟩:=a';have f':=H'.Ay 0 Z b' c';refine cb Z aB Z (pcK ű Z) (eO (f'.box 0 Z) (aJ (f'.Ab 0 Z)) (f'.B5 0 Z 0 Z) ω ω ⟨(bQ ω).symm,ω⟩) (λhS _ _ r _=>(let ⟨_,_,l_,_⟩:=r;P.s2Bx hS Z l_)) (λH c g'=>?_);obtain⟨h',i',⟨j',k'⟩,l',m',n',rfl,o',p'⟩:=g';obtain⟨H,c⟩:=f'.resBox 0 Z j' k' p';refine dV Z υ3 ?_;obtain⟨H,f,g⟩:=gq (c_.A4 9 Z) k_.toNat ω;refine aG 1599 ?_;have H:=bt (c.packB 10 d' Z gQ);refine l8 Z aB zV H 9 10 Z Z Z k_.toNat ω Z g Z (λH c f=>?_);obtain⟨H,c⟩:=Drive.fill f 7 9 Z Z Z trivial;obtain⟨H,f⟩:=c.fill 4 7 Z Z Z;obtain⟨H,c⟩:=bt (f.Av 2 4 5 6 ({z with A2:=z.A2.set G.toNat ((z.A2.getD G.toNat []).set K.toNat ⟨((z.A2.getD G.toNat []).getD K.toNat à).Au,((z.A2.getD G.toNat []).getD K.toNat à).Ai.set k_.toNat ⟨d',l'⟩⟩)}:Aw) Z E);refine aG 17933885519 ?_;exact⟨(n-1,_,({z with A2:=z.A2.set G.toNat ((z.A2.getD G.toNat []).set K.toNat ⟨((z.A2.getD G.toNat []).getD K.toNat à).Au,((z.A2.getD G.toNat []).getD K.toNat à).Ai.set k_.toNat ⟨d',l'⟩⟩)}:Aw),_,_),bf,⟨c.au_pk 7,bj,bj,bj,⟨k.sh,CG k.gr ω ω (by show l'.length<=10;omega),k.on,k.tl,k.tp,k.wr,k.st⟩,b_,N⟩,θ⟩
 refine bu (aW (aT (sM Z (cY p Z É Z (bk · · · ω ω ω) (λH c f g l=>sA Z (aH (bP (cp (j:=Int × Int × Aw × List Nat × List Nat) (λ(n,I,z,O,Q)=>[(0,au b),(2,au a),(3,au L),(7,ag n)]) (λ(n,I,z,O,Q) w'=>Sep (· = b) w [box b (az Y W v I),box a ao,Az L 31 z O] [Ab â [ak Y W v] W V,rdR (Am z.A3) Q] w'/\0<=n/\n<=4/\(X<=I/\I<=X+300+110*(4-n))/\z.dim (8-2*n.toNat)/\z.On.length=0/\(∀b∈Q,w.heap.size<=b)) (λ(n,I,z,O,Q)=>n.toNat) (H,_,_,_,_) bf ⟨g.au_pk 7,bj,bj,bj,⟨k.sh,k.gr,k.on,k.tl,eJ k.tp (ý _),k.wr,k.st⟩,b_,N⟩ (λ(n,I,z,O,Q) H o=>?_)))))))));obtain⟨o,s,u,m_,k,b_,N⟩:=o;refine br 166973733 (λH=>?_) (λH=>?_)
 .have y:=k.sh;have h_:=bm k.sh;obtain⟨H,c,f,g,l,p,s,u,B,C,D⟩:=o.B4 2 Z;refine aX 4602344795998 D ?_;refine sC func202 Z (tI (D.box 0 Z) (aJ (D.Ab 0 Z)) (D.B5 0 Z 0 Z) ω ω η) (λH c E=>?_);obtain⟨F,G,⟨J,K⟩,M,P,q',r',s',t',u',rfl,v',x'⟩:=E;obtain⟨H,c⟩:=D.resBox 0 Z J K x';obtain⟨c_,e_,g_,H,f,g,l,p⟩:=me (c.A4 7 Z);have f:=bt (c.part 7 Z [A4 [ak _ M.Rows _] M.Rows c_,A4 [ak _ M.Data _] M.Data e_,A4 [ak _ M.Ad _] M.Ad g_] (all_cons g (all_cons l (all_cons p σ))) (by simp[blocks,A4,H]));refine cz aB Z Ä f (λH c f g l=>bw aB cy Z l 11 Z (λH c f=>aX 17704352035 f ?_));refine sE func115 Z (jJ η (f.As 8 Z) (f.As 9 Z) (f.As 10 Z)) f (λH c i_=>br 40765 (λH=>?_) (λH=>?_))
  .have k_:=i_.fresh_ 0 8 Z Z Z;have p_:=i_.fresh_ 0 9 Z Z Z;have H':=i_.fresh_ 0 10 Z Z Z;have H:=i_.Ba 8 Z;have c:=H.Ba 9 Z;have H:=bt (c.Ba 10 Z);have n_:=k.tl;have a':(z.A3.getD 0 à).Ah.length<=_:=(fQ (i:=0) (d:=à) k.tp ω).1;obtain⟨c,f,g,l,p,s,u,B,D,E,F⟩:=Al.focus H 6 Z 0 ω;refine aW (eE (S:=F.S2 13 13) (oQ [1,3,5,7,9,11,13,15,16,18,21,23,24]) κ κ κ Z (λ_=>show F.S2 13 13 _ from Ext.refl.drawn _) (λH=>?_));have c:=F.drawn H;refine aX 0x68f6bf52f63f67f52f67f52f F ?_;refine dB Z aB Z cd be Z c (λ_ h e=>F.s2Call h e) (λH c f g l=>pY Z aB Z cd be Z l 13 14 Z Z (dK (v:=(Ac.mk M P q' r' s' t' u')) (eT v')) dp dj (λ_ h e=>F.s2In h 13 Z (.inr Z) e (λ_ hb=>hb)) (λH c f b'=>?_));obtain⟨H,c,c'⟩:=aL (b'.A4 13 Z);cases c';refine aG 5436991 ?_;refine jy Z aB rJ b' 6 1 Z τ3 (λH c=>?_);obtain⟨H,f⟩:=Al.fill c 6 13 Z Z Z trivial;refine dO ?_;have G:((lh 0 (z.A3.getD 0 à).Au (Ac.mk M P q' r' s' t' u') z.A3).getD 1 à).Ah.length<=_:=(fQ (i:=1) (d:=à) (uw (wi:=(z.A3.getD 0 à).Au) k.tp ω v') (by rw[nO];omega)).1;unfold lh at G;obtain⟨H,c,g,l,p,s,u,B,D,E,F⟩:=bt (Al.focus f 6 Z 1 np);refine eE (S:=F.S2 16 16) (oQ [1,3,5,7,9,11,13,15,16,18,21,23,24]) κ κ κ Z (λ_=>show F.S2 16 16 _ from Ext.refl.drawn _) (λH=>?_);have c:=F.drawn H;refine aX 0x68f6bf52f63f67f52f67f52f F ?_;refine dB Z aB Z cd be Z c (λ_ h e=>F.s2Call h e) (λH c f g l=>pY Z aB Z cd be Z l 16 17 Z Z (dK (v:=(Ac.mk M P q' r' s' t' u')) (eT v')) dp dj (λ_ h e=>F.s2In h 16 Z (.inr Z) e (λ_ hb=>hb)) (λH c f J=>?_));obtain⟨H,c,K⟩:=aL (J.A4 16 Z);cases K;refine aG 5436991 ?_;refine jy Z aB rJ J 6 1 Z τ3 (λH c=>?_);obtain⟨H,f⟩:=Al.fill c 6 16 Z Z Z trivial;obtain⟨H,c⟩:=f.Av 2 4 5 6 ({z with A3:=(lh 1 ((lh 0 (z.A3.getD 0 à).Au (Ac.mk M P q' r' s' t' u') z.A3).getD 1 à).Au (Ac.mk M P q' r' s' t' u') (lh 0 (z.A3.getD 0 à).Au (Ac.mk M P q' r' s' t' u') z.A3))}:Aw) Z C;have H:=c.rdAdd (us:=Am (lh 1 ((lh 0 (z.A3.getD 0 à).Au (Ac.mk M P q' r' s' t' u') z.A3).getD 1 à).Au (Ac.mk M P q' r' s' t' u') (lh 0 (z.A3.getD 0 à).Au (Ac.mk M P q' r' s' t' u') z.A3))) 1 2 3 4 (Ac.mk M P q' r' s' t' u') Z Z Z Z (eT v') (Ol k.tl);refine aG 17933885519 ?_;have d':=H.B9 (a:=[Ab â [ak Y W v] W V,rdR (Am (lh 1 ((lh 0 (z.A3.getD 0 à).Au (Ac.mk M P q' r' s' t' u') z.A3).getD 1 à).Au (Ac.mk M P q' r' s' t' u') (lh 0 (z.A3.getD 0 à).Au (Ac.mk M P q' r' s' t' u') z.A3))) (Q++(c_++(e_++g_)))]) (λr U=>by simp only[aM,aQ,bB] at U;rcases U with rfl|rfl<;>simp);exact⟨(n-1,_,({z with A3:=(lh 1 ((lh 0 (z.A3.getD 0 à).Au (Ac.mk M P q' r' s' t' u') z.A3).getD 1 à).Au (Ac.mk M P q' r' s' t' u') (lh 0 (z.A3.getD 0 à).Au (Ac.mk M P q' r' s' t' u') z.A3))}:Aw),_,(Q++(c_++(e_++g_)))),bf,⟨d'.au_pk 7,bj,bj,bj,⟨k.sh,k.gr,k.on,by show(lh 1 _ _ _).length=2;rw[nO,nO];exact k.tl,eJ (uw (uw k.tp ω v') (by rw[nO];omega) v') ω,k.wr,k.st⟩,b_,oW N (oW k_ (oW p_ H'))⟩,θ⟩
  obtain⟨H,c⟩:=i_.Av 2 4 5 6 z Z C;replace c:=bt c;refine aG 70054254 ?_;exact⟨(n-1,_,z,_,_),bf,⟨c.au_pk 7,bj,bj,bj,⟨k.sh,k.gr,k.on,k.tl,eJ k.tp ω,k.wr,k.st⟩,b_,N⟩,θ⟩
 refine bu (aW (aT (sA Z (aH (bP (cp (j:=Nat × Int × Aw × List Nat × List Nat) (λ(a_,I,z,O,Q)=>[(0,au b),(2,au a),(3,au L),(9,ag a_)]) (λ(a_,I,z,O,Q) w'=>Sep (· = b) w [box b (az Y W v I),box a ao,Az L 31 z O] [Ab â [ak Y W v] W V,rdR (Am z.A3) Q] w'/\a_<=6/\(X<=I/\I<=X+800+a_)/\z.dim 8/\z.On.length<=a_/\(∀b∈Q,w.heap.size<=b)) (λ(a_,I,z,O,Q)=>6-a_) (0,_,_,_,_) bf ⟨o.au_pk 7,bj,bj,⟨k.sh,k.gr,k.on,k.tl,eJ k.tp ω,k.wr,k.st⟩,bj,N⟩ (λ(a_,I,z,O,Q) H c=>?_)))))));obtain⟨c,hk,m_,k,hol,N⟩:=c;have y:=k.sh;have h_:=bm k.sh;obtain⟨H,f,g,l,o,p,s,u,B,C,D⟩:=c.B4 2 Z;have H:=oL (D.A4 5 Z);refine aX 70226213 D ?_;refine sE ğ Z (cP η) D (λH c E=>br 40765 (λH=>?_) (λH=>?_))
 .have y:=k.sh;have h_:=bm k.sh;have x_:=k.on;refine aX 0x1d37f992ff37f9206f5e E ?_;refine cZ (t:=107) Z (λA=>?_) (λA=>?_)
  .replace A:=φ A
   refine bc (wg Z) Z (bL Z) (dE (wg Z) Z (pcK Ħ Z) (cE (E.box 0 Z) (aJ (E.Ab 0 Z)) (E.B5 0 Z 0 Z) ω ω ω) (λH c F=>?_));obtain⟨⟨J,K⟩,M,rfl,b_⟩:=F;have P:=E.Ay 0 Z J K;refine br 10433327 (λH=>?_) (λH=>?_)
   .refine aX 1277846 P ?_;refine eY ([(a_:Int)]) aB Z cS bV Z fF σ σ P (λH c f g l=>ma aB Z cS bV Z l 5 Z (l.A4 7 Z) dp dj (λH c f c_=>?_));obtain⟨H,c,e_⟩:=aL (c_.A4 5 Z);cases e_;refine sF eC Z eF (cL aB eF Z c_ 2 Z (λH c f=>?_));obtain⟨H,c⟩:=bt (f.Av 2 4 5 6 ({z with On:=z.On++[(a_:Int)]}:Aw) Z C);refine aG 311651 ?_;exact⟨(a_+1,_,({z with On:=z.On++[(a_:Int)]}:Aw),_,_),bf,⟨c.au_pk 7,bj,bj,⟨k.sh,k.gr,by show(z.On++[(a_:Int)]).length<=10;rw[aO];simp;omega,k.tl,k.tp,k.wr,k.st⟩,by show(z.On++[(a_:Int)]).length<=a_+1;rw[aO];simp;omega,N⟩,bj⟩
   obtain⟨H,c⟩:=P.Av 2 4 5 6 z Z C;refine aG 311662 ?_;exact⟨(a_+1,_,z,_,_),bf,⟨c.au_pk 7,bj,bj,k,bj,N⟩,bj⟩
  replace A:=φ A
  refine aG 3358600 ?_;refine gW Z ?_;obtain⟨H,c⟩:=E.Av 2 4 5 6 z Z C;refine aG 311662 ?_;exact⟨(a_+1,_,z,_,_),bf,⟨c.au_pk 7,bj,bj,k,bj,N⟩,bj⟩
 refine bu (aT (sM Z (cY E Z É Z (bk · · · ω ω ω) (λH c f g l=>sF eC Z ts2 (cL aB ts2 Z g 2 Z (λc f g=>?_))))));replace g:=bt g;refine aH (tT (c:=Int × Aw × List Nat × List Nat) (λ(I,z,O,Q)=>[(0,au b),(2,au a),(3,au L)]) (λ(I,z,O,Q) w'=>Sep (· = b) w [box b (az Y W v I),box a ao,Az L 31 z O] [Ab â [ak Y W v] W V,rdR (Am z.A3) Q] w'/\(X<=I/\I<=X+900)/\z.dim 8/\(∀b∈Q,w.heap.size<=b)) ?_ (λ(I,z,O,Q) c f=>?_))
 .refine aX 0xc37f937f916 g ?_;refine eY ([-1,-1,-1,H,(H+1),0]) aB Z cS bV Z fF σ σ g (λc g l o p=>cY p Z Ă Z (bW · · · ω ω (aJ (p.A4 7 Z)) (λx R e=>p.apart (i:=0) (j:=7) Z Z Z x R gR) σ) (λc g l o p=>?_))
  replace p:=ψ p
  have g:=o.conv 7 gone Z trivial df df;refine sF eC Z ts2 (cL aB ts2 Z g 2 Z (λg l o=>aH ?_));obtain⟨g,l⟩:=bt (o.Av 2 4 5 6 ({z with Aa:=H,Stop:=c}:Aw) Z ⟨C.1,AR,AR⟩);exact⟨(_,({z with Aa:=H,Stop:=c}:Aw),_,_),bf,l.au_pk 7,ω,⟨k.sh,k.gr,k.on,k.tl,k.tp,θ,θ⟩,N⟩
 obtain⟨f,m_,k,N⟩:=f;refine tT (c:=Int × Aw × List Nat × List Nat) (λ(I,z,O,Q)=>[(0,au b),(2,au a),(3,au L)]) (λ(I,z,O,Q) w'=>Sep (· = b) w [box b (az Y W v I),box a ao,Az L 31 z O] [Ab â [ak Y W v] W V,rdR (Am z.A3) Q] w'/\(X<=I/\I<=X+930)/\z.dim 8/\(∀b∈Q,w.heap.size<=b)) ?_ (λ(I,z,O,Q) H s=>?_)
 .refine aT (sM Z (cY f Z Ħ Z (cE · · · ω ω ω) (λH c f u g=>aH (l9 Z (λH=>?_) (λH=>?_)))))
  .have y:=k.sh;have h_:=bm k.sh;have A:=k.gr.1;obtain⟨H,c,f,g,l,o,p,B,C,D,E⟩:=u.B4 2 Z;have H:=oL (E.A4 4 Z);refine aX 12871792914 E ?_;refine cY E Z É Z (bk · · · ω ω ω) (λF H c f g=>?_);have T:=fQ (i:=F.toNat) (d:=[]) k.gr.2 ω;have d_:=T.1;obtain⟨H,c,g,l,o,p,B,C,J,E⟩:=bt (f.focusL 4 Z F.toNat ω);obtain⟨H,c,K⟩:=gq (E.A4 7 Z) 0 ω;refine sA Z (aH (aW (ep E (oQ [1,3,5,7,9,11,13,14,17,18]) (λH M=>aX 190575919 M ?_))));refine dV Z (λzw R=>bR ie nn Z J F.toNat ω ω) (dV Z (λzw R=>bp kZ Z (gJ (R.at (M.Be 4 Z)) 0 Z)) (aX 6747439 M ?_));refine dC func98 Z (mI η) (λH c b_=>?_);obtain⟨P,c_,e_,rfl,b_⟩:=b_;obtain⟨H,c⟩:=M.res P b_;refine aG 1599 ?_;refine l8 Z aB oT c 7 8 Z Z Z 0 ω Z K Z (λH c f=>dO ?_);obtain⟨H,c,g,l,o,p,B,C,E,K,M⟩:=Drive.focus f 7 Z 0 np;refine aX 1277846 M ?_;refine sV Z (bR ie nn Z J F.toNat ω ω) (aX 155186079 M ?_);refine mo aB ts4 M 7 0 Z (λH c=>?_);have v_:=C5 (i:=0) T (My k.sh);refine aH ?_;have H:=fQ (i:=0) (d:=à) v_.2 np;obtain⟨f,g⟩:=Drive.fill c 7 10 Z Z Z trivial;obtain⟨c,f⟩:=bt (g.fill 4 7 Z Z Z);obtain⟨c,g⟩:=f.Av 2 4 5 6 ({z with A2:=z.A2.set F.toNat (((z.A2.getD F.toNat []).set 0 (freshD z.A0)).set 0 ⟨ã,(((z.A2.getD F.toNat []).set 0 (freshD z.A0)).getD 0 à).Ai⟩)}:Aw) Z D;exact⟨(_,({z with A2:=z.A2.set F.toNat (((z.A2.getD F.toNat []).set 0 (freshD z.A0)).set 0 ⟨ã,(((z.A2.getD F.toNat []).set 0 (freshD z.A0)).getD 0 à).Ai⟩)}:Aw),_,_),bf,g.au_pk 7,ω,⟨k.sh,Il k.gr (C5 v_ ⟨H.1,H.2⟩),k.on,k.tl,k.tp,k.wr,k.st⟩,N⟩
  refine bi ?_;exact⟨(_,z,_,_),bf,u.au_pk 7,ω,k,N⟩
 obtain⟨s,m_,k,N⟩:=s;refine tT (c:=Int × Aw × List Nat × List Nat) (λ(I,z,O,Q)=>[(0,au b),(2,au a),(3,au L)]) (λ(I,z,O,Q) w'=>Sep (· = b) w [box b (az Y W v I),box a ao,Az L 31 z O] [Ab â [ak Y W v] W V,rdR (Am z.A3) Q] w'/\(X<=I/\I<=X+940)/\z.dim 8/\(∀b∈Q,w.heap.size<=b)) ?_ (λ(I,z,O,Q) H c=>?_)
 .refine aT (sM Z (cY s Z Ħ Z (cE · · · ω ω ω) (λH f g l o=>aH (l9 Z (λH=>?_) (λH=>?_)))))
  .obtain⟨H,f,g,o,p,s,u,B,C,D,E⟩:=l.B4 2 Z;refine aT (sF eC Z ts4 (cL aB ts4 Z E 2 Z (λH f g=>?_)));replace g:=bt g;refine aH (ce (sF eC Z eF (cL aB eF Z g 2 Z (λH f g=>?_))));have H:=g.nilW (a:=Int);obtain⟨f,g⟩:=H.Av 2 4 7 6 ({z with On:=[],Down:=ã}:Aw) Z D;refine aH ?_;exact⟨(_,({z with On:=[],Down:=ã}:Aw),_,_),bf,g.au_pk 7,ω,⟨k.sh,k.gr,ý _,k.tl,k.tp,k.wr,k.st⟩,N⟩
  refine bi ?_;exact⟨(_,z,_,_),bf,l.au_pk 7,ω,k,N⟩
 obtain⟨c,m_,k,N⟩:=c;refine tT (c:=Int × Aw × List Nat × List Nat) (λ(I,z,O,Q)=>[(0,au b),(2,au a),(3,au L)]) (λ(I,z,O,Q) w'=>Sep (· = b) w [box b (az Y W v I),box a ao,Az L 31 z O] [Ab â [ak Y W v] W V,rdR (Am z.A3) Q] w'/\(X<=I/\I<=X+980)/\z.few 300/\(∀b∈Q,w.heap.size<=b)) ?_ (λ(I,z,O,Q) H a=>?_)
 .refine aT (sM Z (cY c Z É Z (bk · · · ω ω ω) (λH c f g l=>?_)));replace g:=bt g;refine br 42762110707 (λH=>?_) (λH=>?_)
  .have y:=k.sh;have h_:=bm k.sh;have A:=k.gr.1;obtain⟨H,c,f,l,o,p,s,u,B,C,D⟩:=g.B4 2 Z;have H:=oL (D.A4 4 Z);refine aX 229270 D ?_;refine sV Z (pZ (m:=(z.A2.drop 1).length) ie nn Z Z 1 Z ω bZ) ?_;obtain⟨H,c⟩:=D.drop1 4 Z ω;refine sF eC Z pS (cL aB pS Z c 2 Z (λH c f=>?_));have q:=k.few;obtain⟨H,c⟩:=bt (f.Av 2 4 5 6 ({z with A2:=z.A2.drop 1}:Aw) Z C);refine aH ?_;exact⟨(_,({z with A2:=z.A2.drop 1}:Aw),_,_),bf,c.au_pk 7,ω,⟨q.sh,⟨by rw[bZ];have:=q.gr.1;omega,NZ q.gr.2⟩,q.on,q.tl,(eJ q.tp ω),q.wr,q.st⟩,N⟩
  refine br 652498 (λH=>?_) (λH=>?_)
  .have y:=k.sh;have h_:=bm k.sh;have A:=k.gr.1;have T:=fQ (i:=0) (d:=[]) k.gr.2 ω;have d_:=T.1;have f_:=fQ (i:=0) (d:=à) T.2 ω;have j_:=f_.1;obtain⟨H,c,f,l,o,p,s,u,B,E,C⟩:=g.B4 2 Z;have H:=oL (C.A4 4 Z);obtain⟨H,c,f,l,o,p,s,u,B,D⟩:=C.focusL 4 Z 0 ω;refine eE (S:=D.S2 7 7) (oQ [1,3,5,7,9,11,13,14,16,19,20]) κ κ κ Z (λ_=>show D.S2 7 7 _ from Ext.refl.drawn _) (λH=>?_);have c:=D.drawn H;refine aX 0x6af63f67f52f67f52f D ?_;refine dV Z (λzw R=>bM ne Z Z) (dB Z aB Z kZ e8 Z c (λ_ h e=>D.s2Call h e) (λH c f l o=>pY Z aB Z kZ e8 Z o 7 8 Z Z Kc dp dj (λ_ h e=>D.s2In h 7 Z (.inr Z) e (λ_ hb=>hb)) (λH c f F=>?_)));obtain⟨H,c,J⟩:=aL (F.A4 7 Z);cases J;refine aG 1599 ?_;refine jy Z aB nn F 4 0 Z τ3 (λH c=>?_);have q:=k.few;obtain⟨H,f⟩:=bt (c.fill 4 7 Z Z Z);obtain⟨H,c⟩:=f.Av 2 4 5 6 ({z with A2:=z.A2.set 0 ((z.A2.getD 0 [])++[à])}:Aw) Z E;refine dO ?_;exact⟨(_,({z with A2:=z.A2.set 0 ((z.A2.getD 0 [])++[à])}:Aw),_,_),bf,c.au_pk 7,ω,⟨q.sh,(Hv q.gr ⟨F6,nG (fQ (i:=0) (d:=[]) q.gr.2 ω).2 ⟨ý _,by intro b hb;cases hb⟩⟩),q.on,q.tl,(eJ q.tp ω),q.wr,q.st⟩,N⟩
  refine br 652498 (λH=>?_) (λH=>?_)
  .have y:=k.sh;have h_:=bm k.sh;have A:=k.gr.1;have T:=fQ (i:=0) (d:=[]) k.gr.2 ω;have d_:=T.1;have f_:=fQ (i:=0) (d:=à) T.2 ω;have j_:=f_.1;obtain⟨H,c,f,l,o,p,s,u,B,C,D⟩:=g.B4 2 Z;have H:=oL (D.A4 4 Z);obtain⟨H,c,f,l,o,p,s,u,B,E⟩:=D.focusL 4 Z 0 ω;obtain⟨H,c,f,l,o,p,s,u,D,F,J⟩:=bt (Drive.focus E 7 Z 0 ω);obtain⟨H,c,f,l,o,p,s,u,E,F,K⟩:=Block.focus J 9 Z 0 ω;have H:=cx F;refine eE (S:=K.S2 0 0) (oQ [1,3,5,7,9,11,13,15,16,19,21,22]) κ κ κ Z (λ_=>show K.S2 0 0 _ from Ext.refl.drawn _) (λH=>?_);have L:=K.drawn H;refine aX 6812975 K ?_;refine dV Z (λzw R=>bR ie nn Z B 0 ω ω) (aX 1711 K ?_);refine dV Z (λzw R=>bR kZ oT Z D 0 ω ω) (aX 191624495 K ?_);refine cb Z aB Z (pcK ű Z) (eO (L.box 0 Z) (aJ (L.Ab 0 Z)) (L.B5 0 Z 0 Z) ω ω ⟨(bQ ω).symm,ω⟩) (λhS _ _ r _=>(let ⟨_,_,l_,_⟩:=r;K.s2Bx hS Z l_)) (λH c M=>?_);obtain⟨b_,P,⟨c_,e_⟩,g_,i_,k_,rfl,p_,H'⟩:=M;obtain⟨H,c⟩:=L.resBox 0 Z c_ e_ H';refine aG 5436991 ?_;refine jy Z aB cH c 9 1 Z τ3 (λH c=>?_);have q:=k.few;refine dO ?_;obtain⟨H,f⟩:=bt (Block.fill c 9 12 Z Z Z (by first|assumption|(unfold Block.Ok Ak;dsimp only;omega)));obtain⟨H,c⟩:=Drive.fill f 7 9 Z Z Z trivial;obtain⟨H,f⟩:=c.fill 4 7 Z Z Z;obtain⟨H,c⟩:=f.Av 2 4 5 6 ({z with A2:=z.A2.set 0 ((z.A2.getD 0 []).set 0 ⟨((z.A2.getD 0 []).getD 0 à).Au,((z.A2.getD 0 []).getD 0 à).Ai.set 0 ⟨(((z.A2.getD 0 []).getD 0 à).Ai.getD 0 à).Stamp,g_⟩⟩)}:Aw) Z C;exact⟨(_,({z with A2:=z.A2.set 0 ((z.A2.getD 0 []).set 0 ⟨((z.A2.getD 0 []).getD 0 à).Au,((z.A2.getD 0 []).getD 0 à).Ai.set 0 ⟨(((z.A2.getD 0 []).getD 0 à).Ai.getD 0 à).Stamp,g_⟩⟩)}:Aw),_,_),bf,c.au_pk 7,ω,⟨q.sh,(FV (CG k.gr ω ω (by show g_.length<=10;omega)) k.sh),q.on,q.tl,(eJ q.tp ω),q.wr,q.st⟩,N⟩
  refine br 652498 (λH=>?_) (λH=>?_)
  .have y:=k.sh;have h_:=bm k.sh;have A:=k.gr.1;have T:=fQ (i:=0) (d:=[]) k.gr.2 ω;have d_:=T.1;have f_:=fQ (i:=0) (d:=à) T.2 ω;have j_:=f_.1;obtain⟨H,c,f,l,o,p,s,u,B,C,D⟩:=bt (g.B4 2 Z);have H:=oL (D.A4 4 Z);obtain⟨H,c,f,l,o,p,s,u,B,E⟩:=D.focusL 4 Z 0 ω;obtain⟨H,c,f,l,o,p,s,u,D,F,J⟩:=Drive.focus E 7 Z 0 ω;obtain⟨H,c,f,l,o,p,s,u,E,F,K⟩:=Block.focus J 9 Z 0 ω;refine eE (S:=K.S2 0 0) (oQ [1,3,5,7,9,11,13,15,16,18,21,23,24]) κ κ κ Z (λ_=>show K.S2 0 0 _ from Ext.refl.drawn _) (λH=>?_);have c:=K.drawn H;refine aX 6812975 K ?_;refine dV Z (λzw R=>bR ie nn Z B 0 ω ω) (aX 1711 K ?_);refine dV Z (λzw R=>bR kZ oT Z D 0 ω ω) (aX 191624495 K ?_);refine sJ ([-1,1000000000,1000000001]) Z aB Z cS bV Z Z fF σ σ c (λ_ h e=>K.s2Call h e) (λH c f l L=>cb Z aB Z (pcK Ă Z) (bW (L.box 0 Z) (aJ (L.Ab 0 Z)) (L.B5 0 Z 0 Z) ω ω (aJ (L.A4 12 Z)) (λx R e=>L.apart (i:=0) (j:=12) Z Z Z x R gR) σ) (λhS _ _ r _=>K.s2Bx hS Z r.1) (λH c b'=>?_));obtain⟨⟨c',d'⟩,e',rfl,f'⟩:=b';have H:=bt (L.Ay 0 Z c' d')
   replace f':=ψ f'
   have c:=H.conv 12 gone Z trivial df df;have H : -1<=e'/\e'<=1000000001:=by omega
   clear f'
   refine aG 5436991 ?_;refine jy Z aB ts2 c 9 0 Z τ3 (λH c=>?_);have q:=k.few;refine dO ?_;obtain⟨H,f⟩:=Block.fill c 9 11 Z Z Z (by first|assumption|(unfold Block.Ok Ak;dsimp only;omega));obtain⟨H,c⟩:=bt (Drive.fill f 7 9 Z Z Z trivial);obtain⟨H,f⟩:=c.fill 4 7 Z Z Z;obtain⟨H,c⟩:=f.Av 2 4 5 6 ({z with A2:=z.A2.set 0 ((z.A2.getD 0 []).set 0 ⟨((z.A2.getD 0 []).getD 0 à).Au,((z.A2.getD 0 []).getD 0 à).Ai.set 0 ⟨e',(((z.A2.getD 0 []).getD 0 à).Ai.getD 0 à).Bytes⟩⟩)}:Aw) Z C;exact⟨(_,({z with A2:=z.A2.set 0 ((z.A2.getD 0 []).set 0 ⟨((z.A2.getD 0 []).getD 0 à).Au,((z.A2.getD 0 []).getD 0 à).Ai.set 0 ⟨e',(((z.A2.getD 0 []).getD 0 à).Ai.getD 0 à).Bytes⟩⟩)}:Aw),_,_),bf,c.au_pk 7,ω,⟨q.sh,(FV (CG k.gr ω ω (fQ (i:=0) (d:=à) f_.2 ω)) k.sh),q.on,q.tl,(eJ q.tp ω),q.wr,q.st⟩,N⟩
  refine br 652498 (λH=>?_) (λH=>?_)
  .have y:=k.sh;have h_:=bm k.sh;have A:=k.gr.1;have T:=fQ (i:=0) (d:=[]) k.gr.2 ω;have d_:=T.1;have f_:=fQ (i:=0) (d:=à) T.2 ω;have j_:=f_.1;obtain⟨H,c,f,l,o,p,s,u,y,A,B⟩:=g.B4 2 Z;have H:=oL (B.A4 4 Z);obtain⟨H,c,f,l,o,p,s,u,y,C⟩:=bt (B.focusL 4 Z 0 ω);obtain⟨H,c,f⟩:=gq (C.A4 7 Z) 0 ω;refine aX 229270 C ?_;refine sV Z (bR ie nn Z y 0 ω ω) (aX 927 C ?_);refine sV Z (bM ne Z Z) ?_;have H:=C.mineNil [.bool ã,.slice ç 0 0] (⟨ã,[]⟩:Drive) (λw=>Drive.own_mk (x:=⟨ã,[]⟩) trivial (.inr (.inl ⟨Z,Z,Z⟩)));refine aG 1023 ?_;refine Pb aB oT H 7 8 Z Z Z 0 ω Z f Z (λH c f=>?_);have q:=k.few;obtain⟨H,c⟩:=f.fill 4 7 Z Z Z;obtain⟨H,f⟩:=bt (c.Av 2 4 5 6 ({z with A2:=z.A2.set 0 ((z.A2.getD 0 []).set 0 ⟨ã,[]⟩)}:Aw) Z A);refine aH ?_;exact⟨(_,({z with A2:=z.A2.set 0 ((z.A2.getD 0 []).set 0 ⟨ã,[]⟩)}:Aw),_,_),bf,f.au_pk 7,ω,⟨q.sh,(Hv q.gr ⟨np,oN (fQ (i:=0) (d:=[]) q.gr.2 ω).2 ⟨ý _,by intro b hb;cases hb⟩⟩),q.on,q.tl,(eJ q.tp ω),q.wr,q.st⟩,N⟩
  refine br 652498 (λH=>?_) (λH=>?_)
  .have x_:=k.on;obtain⟨H,c,f,l,o,p,s,u,y,D,E⟩:=g.B4 2 Z;refine eE (S:=E.S2 0 5) (oQ [1,3,5,6,8,10,12,15,16]) κ κ κ Z (λ_=>show E.S2 0 5 _ from Ext.refl.drawn _) (λH=>?_);have c:=E.drawn H;refine aX 191362351 E ?_;refine sJ ([0,-1,9]) Z aB Z cS bV Z Z fF σ σ c (λ_ h e=>E.s2Call h e) (λH c f l F=>cb Z aB Z (pcK Ă Z) (bW (F.box 0 Z) (aJ (F.Ab 0 Z)) (F.B5 0 Z 0 Z) ω ω (aJ (F.A4 7 Z)) (λx R e=>F.apart (i:=0) (j:=7) Z Z Z x R gR) σ) (λhS _ _ r _=>E.s2Bx hS Z r.1) (λH c d_=>?_));obtain⟨⟨J,K⟩,L,rfl,M⟩:=d_;have H:=F.Ay 0 Z J K
   replace M:=ψ M
   have c:=H.conv 7 gone Z trivial df df;have H : -1<=L/\L<=9:=by omega
   clear M
   refine sJ ([L]) Z aB Z cS bV Z Z fF σ σ c (λ_ h e=>E.s2Call h e) (λH c f l o=>KC Z aB Z cS bV Z Z Z o 5 Z (o.A4 8 Z) dp dj (λ_ h e=>E.s2In h 5 Z (.inr Z) e (λ_ hb=>hb)) (λH c f A=>?_));obtain⟨H,c,B⟩:=aL (A.A4 5 Z);cases B;refine dV Z (λzw R=>bd eC Z eF Z) (dm Z aB eF Z A 2 Z τ3 (λH c f=>?_));replace f:=bt f;have q:=k.few;obtain⟨H,c⟩:=f.Av 2 4 5 6 ({z with On:=z.On++[L]}:Aw) Z D;refine dO ?_;exact⟨(_,({z with On:=z.On++[L]}:Aw),_,_),bf,c.au_pk 7,ω,⟨q.sh,q.gr,(by show(z.On++[L]).length<=20;rw[aO];have:=k.on;simp;omega),q.tl,(eJ q.tp ω),q.wr,q.st⟩,N⟩
  refine br 652498 (λH=>?_) (λH=>?_)
  .have n_:=k.tl;have a':(z.A3.getD 0 à).Ah.length<=_:=(fQ (i:=0) (d:=à) k.tp ω).1;have G:(z.A3.getD 1 à).Ah.length<=_:=(fQ (i:=1) (d:=à) k.tp ω).1;obtain⟨H,c,f,l,o,p,s,u,y,A,B⟩:=g.B4 2 Z;have A_:=di (B.A4 6 Z);refine aX 229270 B ?_;refine sV Z (fW (m:=(z.A3.take 1).length) jP yS Z 1 Z ω (by rw[aY];omega)) ?_;obtain⟨H,c⟩:=B.take1 6 Z ω;refine sF eC Z oP (cL aB oP Z c 2 Z (λH c f=>?_));replace f:=bt f;have q:=k.few;obtain⟨H,c⟩:=f.Av 2 4 5 6 ({z with A3:=z.A3.take 1}:Aw) Z A;have H:=c.rdSub (us:=(Am (z.A3.take 1))) 1 Z Mz;refine aH ?_;have C:=H.B9 (a:=[Ab â [ak Y W v] W V,rdR (Am (z.A3.take 1)) Q]) (λr U=>by simp only[aM,aQ,bB] at U;rcases U with rfl|rfl<;>simp);exact⟨(_,({z with A3:=z.A3.take 1}:Aw),_,_),bf,C.au_pk 7,ω,⟨q.sh,q.gr,q.on,(by show(z.A3.take 1).length<=2;rw[aY];omega),(MU (eJ k.tp ω)),q.wr,q.st⟩,N⟩
  refine br 652498 (λH=>?_) (λH=>?_)
  .have n_:=k.tl;have a':(z.A3.getD 0 à).Ah.length<=_:=(fQ (i:=0) (d:=à) k.tp ω).1;have G:(z.A3.getD 1 à).Ah.length<=_:=(fQ (i:=1) (d:=à) k.tp ω).1;obtain⟨H,c,f,l,o,p,s,u,y,D,A⟩:=g.B4 2 Z;obtain⟨H,c,f,l,o,p,s,u,y,B,C⟩:=Al.focus A 6 Z 1 ω;refine eE (S:=C.S2 8 8) (oQ [1,3,5,7,9,11,13,15,16,18,21,23,24]) κ κ κ Z (λ_=>show C.S2 8 8 _ from Ext.refl.drawn _) (λH=>?_);have c:=C.drawn H;refine aX 0x6bf52f63f67f52f67f52f C ?_;refine dV Z υ7 (dB Z aB Z cd be Z c (λ_ h e=>C.s2Call h e) (λH c f l o=>pY Z aB Z cd be Z o 8 9 Z Z EH dp dj (λ_ h e=>C.s2In h 8 Z (.inr Z) e (λ_ hb=>hb)) (λH c f E=>?_)));obtain⟨H,c,F⟩:=aL (E.A4 8 Z);cases F;refine aG 5436991 ?_;refine jy Z aB rJ E 6 1 Z τ3 (λH c=>?_);replace c:=bt c;have q:=k.few;obtain⟨H,f⟩:=Al.fill c 6 8 Z Z Z trivial;obtain⟨H,c⟩:=f.Av 2 4 5 6 ({z with A3:=(lh 1 (z.A3.getD 1 à).Au à z.A3)}:Aw) Z D;have H:=c.rdZ (us:=(Am ((lh 1 (z.A3.getD 1 à).Au à z.A3)))) 1 Z (yC ω);refine dO ?_;have d_:=H.B9 (a:=[Ab â [ak Y W v] W V,rdR (Am ((lh 1 (z.A3.getD 1 à).Au à z.A3))) Q]) (λr U=>by simp only[aM,aQ,bB] at U;rcases U with rfl|rfl<;>simp);exact⟨(_,({z with A3:=(lh 1 (z.A3.getD 1 à).Au à z.A3)}:Aw),_,_),bf,d_.au_pk 7,ω,⟨q.sh,q.gr,q.on,(by show(lh 1 _ _ _).length<=2;rw[nO];omega),(eJ (uw k.tp ω BE) ω),q.wr,q.st⟩,N⟩
  refine br 652498 (λH=>?_) (λH=>?_)
  .have n_:=k.tl;have a':(z.A3.getD 0 à).Ah.length<=_:=(fQ (i:=0) (d:=à) k.tp ω).1;have G:(z.A3.getD 1 à).Ah.length<=_:=(fQ (i:=1) (d:=à) k.tp ω).1;obtain⟨H,c,f,l,o,p,s,u,y,A,B⟩:=g.B4 2 Z;obtain⟨H,c,f,l,o,p,s,u,y,C,D⟩:=bt (Al.focus B 6 Z 0 ω);refine aX 39727628182 D ?_;refine mo aB ts4 D 6 0 Z (λH c=>?_);have q:=k.few;obtain⟨H,f⟩:=Al.fill c 6 8 Z Z Z trivial;obtain⟨H,c⟩:=f.Av 2 4 5 6 ({z with A3:=z.A3.set 0 ⟨ã,(z.A3.getD 0 à).Ah⟩}:Aw) Z A;have H:=c.rdSub (us:=(Am ((z.A3.set 0 ⟨ã,(z.A3.getD 0 à).Ah⟩)))) 1 Z (λx R=>(yY x R).elim id λl_=>Rk ω l_);refine aH ?_;have J:=H.B9 (a:=[Ab â [ak Y W v] W V,rdR (Am ((z.A3.set 0 ⟨ã,(z.A3.getD 0 à).Ah⟩))) Q]) (λr U=>by simp only[aM,aQ,bB] at U;rcases U with rfl|rfl<;>simp);exact⟨(_,({z with A3:=z.A3.set 0 ⟨ã,(z.A3.getD 0 à).Ah⟩}:Aw),_,_),bf,J.au_pk 7,ω,⟨q.sh,q.gr,q.on,(by show(z.A3.set 0 _).length<=2;rw[bE];omega),(oN (eJ k.tp ω) (fQ (i:=0) (d:=à) (eJ k.tp ω) ω)),q.wr,q.st⟩,N⟩
  refine br 652498 (λH=>?_) (λH=>?_)
  .obtain⟨H,c,f,l,o,p,s,u,y,A,B⟩:=g.B4 2 Z;replace B:=bt B;refine ce (sM Z (eY ([-1,1000000001]) aB Z cS bV Z fF σ σ B (λH c f l o=>cY o Z Ă Z (bW · · · ω ω (aJ (o.A4 7 Z)) (λx R e=>o.apart (i:=0) (j:=7) Z Z Z x R gR) σ) (λH c f l o=>?_))))
   replace o:=ψ o
   have c:=l.conv 7 gone Z trivial df df;refine sF eC Z ts2 (cL aB ts2 Z c 2 Z (λc f l=>?_));have q:=k.few;refine aH ?_;obtain⟨c,f⟩:=bt (l.Av 2 4 5 6 ({z with Aa:=H}:Aw) Z ⟨A.1,AR,A.2.2⟩);exact⟨(_,({z with Aa:=H}:Aw),_,_),bf,f.au_pk 7,ω,⟨q.sh,q.gr,q.on,q.tl,(eJ q.tp ω),θ,q.st⟩,N⟩
  refine br 652498 (λH=>?_) (λH=>?_)
  .obtain⟨H,c,f,l,o,p,s,u,y,A,B⟩:=g.B4 2 Z;refine ce (sM Z (eY ([-2,1000000001]) aB Z cS bV Z fF σ σ B (λH c f l o=>cY o Z Ă Z (bW · · · ω ω (aJ (o.A4 7 Z)) (λx R e=>o.apart (i:=0) (j:=7) Z Z Z x R gR) σ) (λH c f l o=>?_))))
   replace o:=ψ o
   have c:=l.conv 7 gone Z trivial df df;have f : -2<=H/\H<=1000000001:=by omega
   clear o
   refine sF eC Z ts2 (cL aB ts2 Z c 2 Z (λc f l=>?_));replace l:=bt l;have q:=k.few;refine aH ?_;obtain⟨c,f⟩:=l.Av 2 4 5 6 ({z with Stop:=H}:Aw) Z ⟨A.1,A.2.1,AR⟩;exact⟨(_,({z with Stop:=H}:Aw),_,_),bf,f.au_pk 7,ω,⟨q.sh,q.gr,q.on,q.tl,(eJ q.tp ω),q.wr,θ⟩,N⟩
  refine br 652498 (λH=>?_) (λH=>?_)
  .have n_:=k.tl;have a':(z.A3.getD 0 à).Ah.length<=_:=(fQ (i:=0) (d:=à) k.tp ω).1;have G:(z.A3.getD 1 à).Ah.length<=_:=(fQ (i:=1) (d:=à) k.tp ω).1;obtain⟨H,c,f,l,o,p,s,u,y,A,B⟩:=g.B4 2 Z;obtain⟨H,c,f,l,o,p,s,u,y,C,D⟩:=Al.focus B 6 Z 0 ω;refine ep D (oQ [1,3,4,7,9,10]) (λH c=>aX 6026543 c ?_);refine xH Z aB Z cd be (show ∀w,own ã w (ţ #[ag 0,ag 0,.string ⟨#[]⟩,ag 0,ag 0,ag 0,.slice ç 0 0,.slice ç 0 0,.slice ç 0 0]).cells.toList (à:Ac) [] from λ_=>EH) Z qN qQ c τ0 (λH c f l o=>aG 5436991 ?_);refine jy Z aB rJ o 6 1 Z τ3 (λH c=>?_);replace c:=bt c;have q:=k.few;obtain⟨H,f⟩:=Al.fill c 6 9 Z Z Z trivial;obtain⟨H,c⟩:=f.Av 2 4 5 6 ({z with A3:=z.A3.set 0 ⟨(z.A3.getD 0 à).Au,å 201 à⟩}:Aw) Z A;have H:=c.rdZ (us:=(Am ((z.A3.set 0 ⟨(z.A3.getD 0 à).Au,å 201 à⟩)))) 1 Z (λx R=>(yY x R).imp id λl_=>(Ğ.1 l_).2);refine dO ?_;have E:=H.B9 (a:=[Ab â [ak Y W v] W V,rdR (Am ((z.A3.set 0 ⟨(z.A3.getD 0 à).Au,å 201 à⟩))) Q]) (λr U=>by simp only[aM,aQ,bB] at U;rcases U with rfl|rfl<;>simp);exact⟨(_,({z with A3:=z.A3.set 0 ⟨(z.A3.getD 0 à).Au,å 201 à⟩}:Aw),_,_),bf,E.au_pk 7,ω,⟨q.sh,q.gr,q.on,(by show(z.A3.set 0 _).length<=2;rw[bE];omega),(oN (eJ k.tp ω) ⟨by show(å 201 (à:Ac)).length<=300;rw[aZ];omega,λo_ hv=>by rw[(Ğ.1 hv).2];exact BE⟩),q.wr,q.st⟩,N⟩
  refine br 652498 (λH=>?_) (λH=>?_)
  .obtain⟨H,c,f,l,o,p,s,u,y,F,G⟩:=g.B4 2 Z;refine ce (sM Z (sC func18 Z (rE (G.box 0 Z) (aJ (G.Ab 0 Z)) (G.B5 0 Z 0 Z) ω ω) (λH c d_=>?_)));obtain⟨J,K,⟨L,M⟩,b_,rfl,j_⟩:=d_;have H:=bt (G.Ay 0 Z L M);refine sF eC Z lZ (bw aB lZ Z H 2 Z (λH c f=>?_));have q:=k.few;obtain⟨H,c⟩:=f.Av 2 4 5 6 ({z with A0:=b_}:Aw) Z ⟨Hj j_,F.2⟩;exact aH ⟨(_,({z with A0:=b_}:Aw),_,_),bf,c.au_pk 7,ω,⟨j_,q.gr,q.on,q.tl,(eJ q.tp ω),q.wr,q.st⟩,N⟩
  have q:=k.few;exact bi ⟨(_,z,_,_),bf,g.au_pk 7,ω,⟨q.sh,q.gr,q.on,q.tl,(eJ q.tp ω),q.wr,q.st⟩,N⟩
 obtain⟨a,m_,k,N⟩:=a;obtain⟨H,c,f,g,l,o,p,s,u,y,A⟩:=a.B4 2 Z;refine aX 16882 A ?_;refine bw aB ff Z A 1 Z (λH a c=>?_);replace c:=bt c;exact aH (dT hQ (c.box 1 Z) Z ⟨_,ω,⟨c.ext,c.box 0 Z⟩,z,_,_,_,_,_,_,Z,k,c.outV 0 4 5 6 1 Z N (λw H a c=>Aw.own_mk y H a c)⟩)

theorem yp{w:ä}(hb:w.heap[b]? = á (az Y W v X))(cO:ah w Y W v V)(hd:∀f_∈V,f_≠b)(B_:0<=X/\X<=200000)(A_:W.length<=1048576):Ret ê 160 #[au b] w λN P=>(∃q_:Int,(X<=q_/\q_<=X+5000)/\BoxTo w P b (az Y W v q_)/\∃(z:Aw) (A9:Option ô) (C9:Nat) (r_:Option ô) (t_:Nat) (s_:Option ô) (u_:Nat),N=z.val A9 C9 r_ t_ s_ u_/\z.few 500/\ResV w P [ag z.A0.A2,ag z.A0.A5,ag z.A0.Data,ag z.A0.Af,ag z.A0.Rows,ag z.A0.Cap,ag z.A0.An,ag z.A0.Ao,ag z.A0.Ap,ak A9 z.A2 C9,ak r_ z.On t_,ak s_ z.A3 u_,ag z.Aa,ag z.Stop,.bool z.Down] z):=by
 refine bv func160 Z (λz_ hQ hN=>?_);have H:=(Sep.beginBox hb).look (r:=Ab â [ak Y W v] W V) cO (λf_ hx hm=>hd f_ hx km);refine aT (cz aB Z Ç H (λa H c g j=>aH (aT (sM Z (sC func201 Z (yN (j.box 0 Z) (aJ (j.Ab 0 Z)) (j.B5 0 Z 0 Z) ω ω) (λH c l=>?_))))));obtain⟨m,o,⟨p,s⟩,u,A,B,C,D,E,F,rfl,G,g_⟩:=l;obtain⟨H,c,g,J⟩:=j.resV 0 Z p s g_;replace J:∀b∈c,w.heap.size<=b:=λb hb=>aF j.ext.size (J b hb)
 obtain⟨H,j,l,m,o,p,s,A⟩:=y7 (g.A4 2 Z);have o:=g.part 2 Z [A4 [ak _ u.A2 _] u.A2 H,A4 [ak _ u.On _] u.On j,A4 [ak _ u.A3 _] u.A3 l] (all_cons p (all_cons s (all_cons A σ))) (by simp[blocks,A4,m]);refine cz aB Z Ç o (λa_ H g j l=>bw aB (o:=0) ff Z l 6 Z (λH g j=>?_))
 replace j:=χ j
 obtain⟨_,H,_⟩:=rq (j.A4 5 Z) (j.rdAt 1 Z);refine aX 4321875 j ?_;have g:=ja (z:=u.w) G.ok ⟨_,aJ (j.A4 3 Z)⟩ ⟨_,aJ (j.A4 4 Z)⟩ ⟨_,(by rw[xj];exact H)⟩;unfold Wld.val at g;rw[xj] at g;refine sE func72 Z g j (λH g j=>br 40765 (λH=>?_) (λH=>?_))
 .refine aX 16882 j ?_;refine bw aB (o:=0) ff Z j 1 Z (λH g l=>?_)
  replace l:=χ l
  replace l:=bt l;exact aH (dT hQ (l.box 1 Z) Z ⟨_,ω,⟨l.ext,l.box 0 Z⟩,u,_,_,_,_,_,_,Z,(G.mono ω),l.outV 0 3 4 5 1 Z J (λw l_ m_ n_=>Aw.own_mk (x:=u) G.ok l_ m_ n_)⟩)
 have x_:c7 u.w=0:=by omega
 have hs:u.A0.ok=true:=(c5 x_).1;have E_:=bm hs;refine bi (aW ?_);have j_:u.A3.length=2:=by rw[<- xj];exact(c5 x_).2.2.2.1
 refine ce (sM Z (cY j Z É Z (bk · · · ω ω ω) (λb_ H g j l=>sA Z (aH (aT (dG (f:=Ac) aB Z cd be j (λH g j l m=>aG 4692 ?_)))))));refine cY m Z É Z (bk · · · ω ω ω) (λo_ H g j l=>?_);obtain⟨H,g⟩:=j.Av 6 3 4 5 u Z G.ok;have H:=g.rdSub (us:=Am u.A3++[]) 1 Z (λf_ hx=>by simpa using hx);refine sA Z (aH (bP ?_));have h_:=H.B9 (a:=[Ab â [ak Y W v] W V,rdR (Am u.A3++[]) c]) (λr I=>by simp only[aM,aQ,bB] at I;rcases I with rfl|rfl<;>simp);refine cp (j:=Int × Int × Int × è × List Ac × List Nat × List Nat × List Nat) (λ(n,q,e,L,R,f,Q,x)=>[(0,au b),(2,au a),(3,au a_),(4,ag q),(5,L),(6,ag n)]) (λ(n,q,e,L,R,f,Q,x) P=>Sep (· = b) w [box b (az Y W v e),box a ao,Az a_ 31 u x,A4 [L] R f] [Ab â [ak Y W v] W V,rdR (Am u.A3++R) Q] P/\0<=n/\n<=9/\(0<=q/\q<=5+2*(9-n))/\(X<=e/\e<=X+3100+130*(9-n))/\R.length<=8*(9-n.toNat)/\(∀N∈R,N.r.few)/\(∀b∈Q,w.heap.size<=b)) (λ(n,q,e,L,R,f,Q,x)=>n.toNat) (o_,b_,_,_,[],_,_,_) bf ⟨h_.au_pk 195,bj,bj,bj,bj,by(try dsimp only);simp,by(try dsimp only);simp,J⟩ (λ(n,q,e,L,R,f,Q,x) H c=>?_);obtain⟨c,H,g,j,p_,v_,K,M⟩:=c;refine br 166973733 (λH=>?_) (λH=>?_)
 .refine aG 7535095646 ?_;refine cY c Z É Z (bk · · · ω ω ω) (λH g j l m=>?_);replace l:=bt l;obtain⟨q,hq⟩:∃y_:Int,y_=q+1+H:=⟨_,Z⟩;refine aG 1356 ?_;rw[<- hq];obtain⟨H,g,j,m,o,p,s,A,B,C,D⟩:=l.B4 2 Z;refine aX 4389142 D ?_;refine sC func202 Z (tI (D.box 0 Z) (aJ (D.Ab 0 Z)) (D.B5 0 Z 0 Z) ω ω η) (λH g E=>?_);obtain⟨F,g_,⟨J,T⟩,U,c_,d_,e_,H',a',O,rfl,b',c'⟩:=E;obtain⟨H,g⟩:=D.resBox 0 Z J T c';obtain⟨j,l,m,H,o,p,s,A⟩:=me (g.A4 8 Z);have o:=g.part 8 Z [A4 [ak _ U.Rows _] U.Rows j,A4 [ak _ U.Data _] U.Data l,A4 [ak _ U.Ad _] U.Ad m] (all_cons p (all_cons s (all_cons A σ))) (by simp[blocks,A4,H]);refine cz aB Z Ä o (λB H g o p=>bw aB (o:=0) cy Z p 12 Z (λH g o=>?_))
  replace o:=χ o
  replace o:=bt o;refine aG 37155 ?_;refine cL aB (o:=1) ts2 Z o 12 Z (λH g o=>aH (aW (aW ?_)));have D:(⟨U.Kind,q,U.Name,U.Length,U.Group,U.Row,U.Rows,U.Data,U.Ad⟩:Rec).few:=by
   have h:=b';unfold Rec.few at h ⊢;dsimp only
   omega
  have H:(⟨U.Kind,q,U.Name,U.Length,U.Group,U.Row,U.Rows,U.Data,U.Ad⟩:Rec).Ok:=eT D;refine aX 1106522006 o ?_;refine sE func115 Z (jJ η (o.As 9 Z) (o.As 10 Z) (o.As 11 Z) (r:=(⟨U.Kind,q,U.Name,U.Length,U.Group,U.Row,U.Rows,U.Data,U.Ad⟩:Rec)) (J:=c_) (I:=d_) (K:=e_) (E:=H') (B:=a') (o:=O)) o (λg o p=>br 40765 (λg=>?_) (λg=>?_))
  .refine bu ?_;obtain⟨g,o⟩:=p.Av 2 5 6 7 u Z C;refine aG 4378390 ?_;exact⟨(n-1,q,_,_,R,_,Q,_),bf,⟨o.au_pk 15,bj,bj,bj,bj,bj,K,M⟩,bj⟩
  have E:=p.fresh_ 0 9 Z Z Z;have F:=p.fresh_ 0 10 Z Z Z;have g_:=p.fresh_ 0 11 Z Z Z;have g:=p.Ba 9 Z;have o:=bt (g.Ba 10 Z);have g:=o.Ba 11 Z;refine aX 4321582 g ?_;refine dx aB Z cd be Z g (λg o p s A=>fC aB Z cd be Z A 3 13 Z (dK (v:=(Ac.mk (⟨U.Kind,q,U.Name,U.Length,U.Group,U.Row,U.Rows,U.Data,U.Ad⟩:Rec) c_ d_ e_ H' a' O)) H) dp dj (λg o p s=>sA Z (aH (tT (c:=Int × è × List Ac × List Nat × List Nat × List Nat) (λ(e,L,R,f,Q,x)=>[(0,au b),(2,au a),(3,au a_),(4,ag q),(5,L),(7,au B),(6,ag n)]) (λ(e,L,R,f,Q,x) P=>Sep (· = b) w [box b (az Y W v e),box a ao,Az a_ 31 u x,A4 [L] R f,box B (.cells [ag U.Kind,ag q,.string U.Name,ag U.Length,ag U.Group,ag U.Row,ak c_ U.Rows d_,ak e_ U.Data H',ak a' U.Ad O].toArray 76)] [Ab â [ak Y W v] W V,rdR (Am u.A3++R) Q] P/\(X<=e/\e<=X+3215+130*(9-n))/\R.length<=8*(9-n.toNat)+7/\(∀N∈R,N.r.few)/\(∀b∈Q,w.heap.size<=b)) ?_ (λ(e,L,R,f,Q,x) g J=>?_)))))
  .have g:=s.rdAdd (us:=(Am u.A3++(R++[(Ac.mk (⟨U.Kind,q,U.Name,U.Length,U.Group,U.Row,U.Rows,U.Data,U.Ad⟩:Rec) c_ d_ e_ H' a' O)]))) 1 2 3 4 (Ac.mk (⟨U.Kind,q,U.Name,U.Length,U.Group,U.Row,U.Rows,U.Data,U.Ad⟩:Rec) c_ d_ e_ H' a' O) Z Z Z Z H vF;refine aW ?_;have b_:=g.B9 (a:=[Ab â [ak Y W v] W V,rdR (Am u.A3++(R++[(Ac.mk (⟨U.Kind,q,U.Name,U.Length,U.Group,U.Row,U.Rows,U.Data,U.Ad⟩:Rec) c_ d_ e_ H' a' O)])) (Q++(j++(l++m)))]) (λr I=>by simp only[aM,aQ,bB] at I;rcases I with rfl|rfl<;>simp);have H:∀b∈(Q++(j++(l++m))),w.heap.size<=b:=oW M (oW E (oW F g_));obtain⟨g,o_⟩:=b_.Av 2 5 6 7 u Z C;refine ge 42745429910 o_ (λg=>?_) (λg=>?_)
   .refine aT (sA Z (aH (bP (cp (j:=Nat × Int × è × List Ac × List Nat × List Nat × List Nat) (λ(k,e,L,R,f,Q,x)=>[(0,au b),(2,au a),(3,au a_),(4,ag q),(5,L),(7,au B),(6,ag n),(8,ag k)]) (λ(k,e,L,R,f,Q,x) P=>Sep (· = b) w [box b (az Y W v e),box a ao,Az a_ 31 u x,A4 [L] R f,box B (.cells [ag U.Kind,ag q,.string U.Name,ag U.Length,ag U.Group,ag U.Row,ak c_ U.Rows d_,ak e_ U.Data H',ak a' U.Ad O].toArray 76)] [Ab â [ak Y W v] W V,rdR (Am u.A3++R) Q] P/\k<=6/\(X<=e/\e<=X+3205+130*(9-n)+k)/\R.length<=8*(9-n.toNat)+1+k/\(∀N∈R,N.r.few)/\(∀b∈Q,w.heap.size<=b)) (λ(k,e,L,R,f,Q,x)=>6-k) (0,_,_,(R++[(Ac.mk (⟨U.Kind,q,U.Name,U.Length,U.Group,U.Row,U.Rows,U.Data,U.Ad⟩:Rec) c_ d_ e_ H' a' O)]),_,(Q++(j++(l++m))),_) bf ⟨o_.au_pk 4111,bj,bj,(by show(R++[(Ac.mk (⟨U.Kind,q,U.Name,U.Length,U.Group,U.Row,U.Rows,U.Data,U.Ad⟩:Rec) c_ d_ e_ H' a' O)]).length<=_;rw[aO,È];omega),nG K D,H⟩ (λ(k,e,L,R,f,Q,x) g o=>?_)))));obtain⟨o,hk,p_,v_,K,M⟩:=o;obtain⟨g,p,s,A,B,C,E,F,g_,h_,b_⟩:=o.B4 2 Z;refine aX 70226213 b_ ?_;refine sE ğ Z (cP η) b_ (λg o T=>br 40765 (λg=>?_) (λg=>?_))
    .refine aX 514019825839966 T ?_;refine cZ (t:=60) Z (λc'=>?_) (λc'=>?_)
     .replace c':=φ c'
      refine aG 0x90f132f88888 ?_;refine dE (wg Z) Z (pcK Ħ Z) (cE (T.box 0 Z) (aJ (T.Ab 0 Z)) (T.B5 0 Z 0 Z) ω ω ω) (λg o d'=>?_);obtain⟨⟨e',f'⟩,g',rfl,h'⟩:=d';have i':=bt (T.Ay 0 Z e' f');refine br 42734909999 (λg=>?_) (λg=>?_)
      .refine aG 4374 ?_;refine sV Z (bM eD Z Z) (dx aB Z cd be Z i' (λg o p s A=>fC aB Z cd be Z A 3 9 Z (dK (v:=mX ⟨3,q,⟨#[]⟩,0,(k:Int),0,[],[],[]⟩) (by show Rec.Ok ⟨3,q,⟨#[]⟩,0,(k:Int),0,[],[],[]⟩;have h:=b';unfold Rec.few at h;unfold Rec.Ok Ak Ë;dsimp only;exact⟨ω,ω,ý _,ω,ω,ω⟩)) dp dj (λg o p s=>?_)));obtain⟨g,o⟩:=s.Av 2 6 7 8 u Z h_;refine aG 311652 ?_;have i_:Rec.few ⟨3,q,⟨#[]⟩,0,(k:Int),0,[],[],[]⟩:=by
        have k_:(⟨#[]⟩:ByteArray).size=0:=Z;have h:=b';unfold Rec.few at h ⊢;dsimp only[List.length_nil];omega
       have g:=o.rdBare (us:=(Am u.A3++(R++[mX ⟨3,q,⟨#[]⟩,0,(k:Int),0,[],[],[]⟩]))) 1 Z (r:=⟨3,q,⟨#[]⟩,0,(k:Int),0,[],[],[]⟩) (eT i_) Z Z Z vF;have j':=g.B9 (a:=[Ab â [ak Y W v] W V,rdR (Am u.A3++(R++[mX ⟨3,q,⟨#[]⟩,0,(k:Int),0,[],[],[]⟩])) Q]) (λr I=>by simp only[aM,aQ,bB] at I;rcases I with rfl|rfl<;>simp);exact⟨(k+1,_,_,(R++[mX ⟨3,q,⟨#[]⟩,0,(k:Int),0,[],[],[]⟩]),_,Q,_),bf,⟨j'.au_pk 31,bj,bj,(by show(R++[mX ⟨3,q,⟨#[]⟩,0,(k:Int),0,[],[],[]⟩]).length<=_;rw[aO,È];omega),nG K i_,M⟩,bj⟩
      obtain⟨g,o⟩:=i'.Av 2 6 7 8 u Z h_;refine aG 311662 ?_;exact⟨(k+1,_,_,R,_,Q,_),bf,⟨o.au_pk 31,bj,bj,bj,K,M⟩,bj⟩
     replace c':=φ c'
     refine aX 0x133f94fa3f9af9af90f T ?_;refine cZ (t:=67) Z (λB=>?_) (λB=>?_)
     .replace B:=φ B
      refine bc (wg Z) Z (bL Z) (dE (wg Z) Z (pcK Ħ Z) (cE (T.box 0 Z) (aJ (T.Ab 0 Z)) (T.B5 0 Z 0 Z) ω ω ω) (λg o C=>?_));obtain⟨⟨E,F⟩,g_,rfl,b_⟩:=C;have p:=T.Ay 0 Z E F;refine br 42734909999 (λg=>?_) (λg=>?_)
      .refine aG 4374 ?_;refine sV Z (bM eD Z Z) (dx aB Z cd be Z p (λg o s A C=>fC aB Z cd be Z C 3 9 Z (dK (v:=mX ⟨3,q,⟨#[]⟩,0,(k:Int),0,[],[],[]⟩) (by show Rec.Ok ⟨3,q,⟨#[]⟩,0,(k:Int),0,[],[],[]⟩;have h:=b';unfold Rec.few at h;unfold Rec.Ok Ak Ë;dsimp only;exact⟨ω,ω,ý _,ω,ω,ω⟩)) dp dj (λg o s A=>?_)));obtain⟨g,o⟩:=bt (A.Av 2 6 7 8 u Z h_);refine aG 311652 ?_;have i_:Rec.few ⟨3,q,⟨#[]⟩,0,(k:Int),0,[],[],[]⟩:=by
        have k_:(⟨#[]⟩:ByteArray).size=0:=Z;have h:=b';unfold Rec.few at h ⊢;dsimp only[List.length_nil];omega
       have g:=o.rdBare (us:=(Am u.A3++(R++[mX ⟨3,q,⟨#[]⟩,0,(k:Int),0,[],[],[]⟩]))) 1 Z (r:=⟨3,q,⟨#[]⟩,0,(k:Int),0,[],[],[]⟩) (eT i_) Z Z Z vF;have c':=g.B9 (a:=[Ab â [ak Y W v] W V,rdR (Am u.A3++(R++[mX ⟨3,q,⟨#[]⟩,0,(k:Int),0,[],[],[]⟩])) Q]) (λr I=>by simp only[aM,aQ,bB] at I;rcases I with rfl|rfl<;>simp);exact⟨(k+1,_,_,(R++[mX ⟨3,q,⟨#[]⟩,0,(k:Int),0,[],[],[]⟩]),_,Q,_),bf,⟨c'.au_pk 31,bj,bj,(by show(R++[mX ⟨3,q,⟨#[]⟩,0,(k:Int),0,[],[],[]⟩]).length<=_;rw[aO,È];omega),nG K i_,M⟩,bj⟩
      obtain⟨g,o⟩:=p.Av 2 6 7 8 u Z h_;refine aG 311662 ?_;exact⟨(k+1,_,_,R,_,Q,_),bf,⟨o.au_pk 31,bj,bj,bj,K,M⟩,bj⟩
     replace B:=φ B
     refine aG 53737608 ?_;refine gW Z ?_;obtain⟨g,o⟩:=T.Av 2 6 7 8 u Z h_;refine aG 311662 ?_;exact⟨(k+1,_,_,R,_,Q,_),bf,⟨o.au_pk 31,bj,bj,bj,K,M⟩,bj⟩
    refine bu ?_;obtain⟨g,o⟩:=T.Av 2 6 7 8 u Z h_;exact⟨(_,_,R,_,Q,_),bf,o.au_pk 31,ω,ω,K,M⟩
   refine bi ?_;exact⟨(_,_,(R++[(Ac.mk (⟨U.Kind,q,U.Name,U.Length,U.Group,U.Row,U.Rows,U.Data,U.Ad⟩:Rec) c_ d_ e_ H' a' O)]),_,(Q++(j++(l++m))),_),bf,o_.au_pk 4111,ω,(by show(R++[(Ac.mk (⟨U.Kind,q,U.Name,U.Length,U.Group,U.Row,U.Rows,U.Data,U.Ad⟩:Rec) c_ d_ e_ H' a' O)]).length<=_;rw[aO,È];omega),nG K D,H⟩
  obtain⟨J,p_,v_,K,M⟩:=J;refine aX 30637970 J ?_;refine cZ (t:=81) Z (λH=>?_) (λH=>?_)
  .replace H:=φ H
   refine bc (wg Z) Z (bL Z) (dE (wg Z) Z (pcK Ħ Z) (cE (J.box 0 Z) (aJ (J.Ab 0 Z)) (J.B5 0 Z 0 Z) ω ω ω) (λg j l=>?_));obtain⟨⟨m,p⟩,s,rfl,A⟩:=l;have B:=bt (J.Ay 0 Z m p);refine br 10433327 (λg=>?_) (λg=>?_)
   .refine aX 58691862 B ?_;refine sV Z (bM eD Z Z) (dx aB Z cd be Z B (λg j l m o=>fC aB Z cd be Z o 3 5 Z (dK (v:=mX ⟨3,q,⟨#[]⟩,0,U.Group,0,[],[],[]⟩) (by show Rec.Ok ⟨3,q,⟨#[]⟩,0,U.Group,0,[],[],[]⟩;have h:=b';unfold Rec.few at h;unfold Rec.Ok Ak Ë;dsimp only;exact⟨ω,ω,ý _,ω,ω,ω⟩)) dp dj (λg j l m=>aG 70054244 ?_)));have i_:Rec.few ⟨3,q,⟨#[]⟩,0,U.Group,0,[],[],[]⟩:=by
     have k_:(⟨#[]⟩:ByteArray).size=0:=Z;have h:=b';unfold Rec.few at h ⊢;dsimp only[List.length_nil];omega
    have g:=m.rdBare (us:=(Am u.A3++(R++[mX ⟨3,q,⟨#[]⟩,0,U.Group,0,[],[],[]⟩]))) 1 Z (r:=⟨3,q,⟨#[]⟩,0,U.Group,0,[],[],[]⟩) (eT i_) Z Z Z vF;have C:=g.B9 (a:=[Ab â [ak Y W v] W V,rdR (Am u.A3++(R++[mX ⟨3,q,⟨#[]⟩,0,U.Group,0,[],[],[]⟩])) Q]) (λr I=>by simp only[aM,aQ,bB] at I;rcases I with rfl|rfl<;>simp);exact⟨(n-1,q,_,_,(R++[mX ⟨3,q,⟨#[]⟩,0,U.Group,0,[],[],[]⟩]),_,Q,_),bf,⟨C.au_pk 15,bj,bj,bj,bj,(by show(R++[mX ⟨3,q,⟨#[]⟩,0,U.Group,0,[],[],[]⟩]).length<=_;rw[aO,È];omega),nG K i_,M⟩,bj⟩
   refine aG 70054254 ?_;exact⟨(n-1,q,_,_,R,_,Q,_),bf,⟨B.au_pk 15,bj,bj,bj,bj,bj,K,M⟩,bj⟩
  replace H:=φ H
  refine aG 3358600 ?_;refine gW Z (aG 70054254 ?_);exact⟨(n-1,q,_,_,R,_,Q,_),bf,⟨J.au_pk 15,bj,bj,bj,bj,bj,K,M⟩,bj⟩
 refine bu ?_;obtain⟨H,o,p⟩:=aL (c.A4 3 Z);cases p;refine aW (aT (sA Z (aH (bP (cp (j:=Nat × Int × Aw × List Nat) (λ(t,e,z,x)=>[(0,au b),(2,au a),(3,au a_),(5,ak H R o),(9,ag t)]) (λ(t,e,z,x) P=>Sep (· = b) w [box b (az Y W v e),box a ao,Az a_ 31 z x,A4 [ak H R o] R f] [Ab â [ak Y W v] W V,rdR (Am z.A3++R) Q] P/\t<=2/\(X<=e/\e<=X+4400+80*t)/\z.few (300+80*t)/\z.A3.length=2) (λ(t,e,z,x)=>2-t) (0,_,u,_) bf ⟨c.au_pk 15,bj,bj,G,j_⟩ (λ(t,e,z,x) c g=>?_))))));obtain⟨g,D_,p_,y,j_⟩:=g;refine br 166973733 (λc=>?_) (λc=>?_)
 .refine aG 29865570142 ?_;refine cp (j:=Nat × Int × Aw × List Nat) (λ(i,e,z,x)=>[(0,au b),(2,au a),(3,au a_),(5,ak H R o),(9,ag t),(10,ag i)]) (λ(i,e,z,x) P=>Sep (· = b) w [box b (az Y W v e),box a ao,Az a_ 31 z x,A4 [ak H R o] R f] [Ab â [ak Y W v] W V,rdR (Am z.A3++R) Q] P/\i<=R.length/\(X<=e/\e<=X+4400+80*t+i)/\z.few (300+80*t+i)/\z.A3.length=2) (λ(i,e,z,x)=>R.length-i) (0,_,_,_) bf ⟨g.au_pk 15,bj,bj,y,j_⟩ (λ(i,e,z,x) H a=>?_);obtain⟨a,hi,p_,y,j_⟩:=a;refine br 0x9f3d2ff1125 (λH=>?_) (λH=>?_)
  .refine bi (aW (bP (aT (sM Z (cY a Z Ħ Z (cE · · · ω ω ω) (λH c j l m=>br 10433391 (λH=>?_) (λH=>?_)))))))
   .have C_:(z.A3.getD t à).Ah.length<=_:=(fQ (i:=t) (d:=à) y.tp ω).1;obtain⟨H,c,j,m,o,p,s,u,A,B,C⟩:=l.B4 2 Z;obtain⟨H,c,j,m,o,p,s,u,A,D,E⟩:=Al.focus C 7 Z t ω;obtain⟨H,c,j,m,o⟩:=E.B2 3 Z i ω;refine eE (S:=E.S2 9 9) (oQ [1,3,5,7,9,11,13,15,17,19,21,23,24,26,28,31,33,34]) κ κ κ Z (λ_=>show E.S2 9 9 _ from Ext.refl.drawn _) (λH=>?_);have c:=E.drawn H;refine aX 0xb67f52fb67f52f E ?_;refine dV Z (λzw hx=>bR jP yS Z A t ω ω) (aX 0x88f62fbb6bf52f E ?_);refine dB Z aB Z cd be Z c (λ_ h k_=>E.s2Call h k_) (λH c j m o=>pY Z aB Z cd be Z o 9 10 Z Z (dK (v:=(R.getD i à)) (eT (fQ (d:=à) K ω))) dp dj (λ_ h k_=>E.s2In h 9 Z (.inr Z) k_ (λ_ hb=>hb)) (λH c j F=>dV Z (λzw hx=>bR jP yS Z A t ω ω) ?_));obtain⟨H,c,G⟩:=aL (F.A4 9 Z);cases G;refine dV Z (λzw hx=>bd FZ Z rJ Z) (jy Z aB rJ F 7 1 Z τ3 (λH c=>?_));replace c:=bt c;obtain⟨H,j⟩:=Al.fill c 7 9 Z Z Z trivial;obtain⟨H,c⟩:=j.Av 2 5 6 7 ({z with A3:=(lh t (z.A3.getD t à).Au (R.getD i à) z.A3)}:Aw) Z B;refine aG 79781967 ?_;have w_:(R.getD i à)∈R:=by rw[bX ω];exact bx _
    have H:=c.rdSub (us:=(Am (lh t (z.A3.getD t à).Au (R.getD i à) z.A3)++R)) 1 Z (NC ω w_);have g_:=H.B9 (a:=[Ab â [ak Y W v] W V,rdR (Am (lh t (z.A3.getD t à).Au (R.getD i à) z.A3)++R) Q]) (λr I=>by simp only[aM,aQ,bB] at I;rcases I with rfl|rfl<;>simp);exact⟨(i+1,_,({z with A3:=(lh t (z.A3.getD t à).Au (R.getD i à) z.A3)}:Aw),_),bf,⟨g_.au_pk 15,bj,bj,⟨y.sh,y.gr,y.on,by show(lh _ _ _ _).length<=2;rw[nO];omega,eJ (uw y.tp ω (K _ w_)) ω,y.wr,y.st⟩,by show(lh _ _ _ _).length=2;rw[nO];exact j_⟩,bj⟩
   refine aG 311662 ?_;exact⟨(i+1,_,z,_),bf,⟨l.au_pk 15,bj,bj,y.mono ω,j_⟩,bj⟩
  refine bu (aG 19478 ?_);exact⟨(t+1,_,z,_),bf,⟨a.au_pk 15,bj,bj,y.mono ω,j_⟩,bj⟩
 refine bu (aW (aT (sM Z (cY g Z Ħ Z (cE · · · ω ω ω) (λH a c g j=>aH (l9 Z (λH=>?_) (λH=>?_)))))))
 .obtain⟨H,a,c,j,l,m,o,p,s,u,A⟩:=g.B4 2 Z;replace A:=bt A;refine eE (S:=A.S2 0 0) (oQ [1,3,5,9,6,11,12]) κ κ κ Z (λ_=>show A.S2 0 0 _ from Ext.refl.drawn _) (λH=>?_);have B:=A.drawn H;refine aX 191362351 A ?_;refine dV Z (λzw hx=>bM u6 Z Z) (cb Z aB Z (pcK É Z) (bk (B.box 0 Z) (aJ (B.Ab 0 Z)) (B.B5 0 Z 0 Z) ω ω ω) (λhS _ _ r _=>A.s2Bx hS Z r.1) (λH a C=>?_));obtain⟨⟨D,E⟩,J,rfl,a_⟩:=C;have H:=B.Ay 0 Z D E;obtain⟨a,c,j⟩:=gq (B.A4 7 Z) J.toNat ω;have a:=H.mineNil [.bool ã,.slice ç 0 0] (⟨ã,[]⟩:Al) (λw=>Al.own_mk (x:=⟨ã,[]⟩) trivial (.inr (.inl ⟨Z,Z,Z⟩)));refine aG 1599 ?_;refine l8 Z aB yS a 7 8 Z Z Z J.toNat ω Z j Z (λH a c=>?_);obtain⟨H,a⟩:=bt (c.Av 2 5 6 7 ({z with A3:=(z.A3.set J.toNat ⟨ã,[]⟩)}:Aw) Z u);obtain⟨H,c,j,l,m,o,p,s,u,F,A⟩:=a.B4 2 Z;refine aX 69148751 A ?_;refine bw aB (o:=0) ff Z A 1 Z (λH a G=>?_)
  replace G:=χ G
  refine aH (dT hQ (G.box 1 Z) Z ?_);have b_:=G.rdSub (us:=Am (z.A3.set J.toNat ⟨ã,[]⟩)) 1 Z (λf_ hx=>Ó _ ((yY f_ hx).elim id λq=>by cases q));exact⟨_,ω,⟨b_.ext,b_.box 0 Z⟩,({z with A3:=(z.A3.set J.toNat ⟨ã,[]⟩)}:Aw),_,_,_,_,_,_,Z,⟨y.sh,y.gr,y.on,by show(z.A3.set _ _).length<=2;rw[bE];omega,oN (eJ y.tp ω) ⟨ý _,by intro N hv;cases hv⟩,y.wr,y.st⟩,b_.outV 0 10 11 12 2 Z M (λw l_ m_ n_=>Aw.own_mk (x:=({z with A3:=(z.A3.set J.toNat ⟨ã,[]⟩)}:Aw)) F l_ m_ n_)⟩
 obtain⟨H,a,c,j,l,m,o,p,s,u,A⟩:=g.B4 2 Z;refine aX 270126 A ?_;refine bw aB (o:=0) ff Z A 1 Z (λH a c=>?_)
 replace c:=χ c
 replace c:=bt c;refine aH (dT hQ (c.box 1 Z) Z ?_);have H:=c.rdSub (us:=Am z.A3) 1 Z (λf_ hx=>Ó _ hx);exact⟨_,ω,⟨H.ext,H.box 0 Z⟩,z,_,_,_,_,_,_,Z,(y.mono ω),H.outV 0 5 6 7 2 Z M (λw l_ m_ n_=>Aw.own_mk (x:=z) u l_ m_ n_)⟩

theorem zX{w:ä}{M l T q U s v6 v7 v8 P R:Int}{S:Bool}{B A y:Option ô}{N F J D K E:Nat}(G:w.heap[b]? = á (az Y W v X))(O:ah w Y W v V)(I:∀x∈V,x≠b)(f_:0<=X/\X<=500000)(e_:W.length<=1048576)(g_:N<=100):Ret ê 161 #[au b,.agg #[ag M,ag l,ag T,ag q,ag U,ag s,ag v6,ag v7,ag v8,.slice B N F,.slice A J D,.slice y K E,ag P,ag R,.bool S]] w λL w'=>(∃C:Int,(X<=C/\C<=X+4)/\BoxTo w w' b (az Y W v C)/\∃x:Int,L = ag x /\ -1<=x/\x<=100):=by
 refine bv func161 Z (λd_ Q hN=>?_);have H:=(Sep.beginBox G).look (r:=Ab â [ak Y W v] W V) O (λx k hm=>I x k km);refine aT (ci aB Z H (λH a c d f=>aX 4805153563080996 f ?_));refine sC func203 Z tE (λl H g=>?_);obtain⟨h,h_,rfl,i_⟩:=g;have H:=f.to h;refine cY H Z É Z (bk · · · ω ω ω) (λm H a n c=>sR 2 Z (sC func203 Z tE (λq H o=>?_)));obtain⟨p,j_,rfl,k_⟩:=o;have H:=n.to p;refine cY H Z É Z (bk · · · ω ω ω) (λt H a u c=>sR 2 Z (sC func203 Z tE (λs H a_=>?_)));obtain⟨z,b_,rfl,c_⟩:=a_;have H:=u.to z;refine cY H Z É Z (bk · · · ω ω ω) (λH a c d f=>sM Z (eY ([m,t,H,-1,(N:Int)]) aB Z cS bV Z fF σ σ d (λH a c d f=>cY f Z Ă Z (bW · · · ω ω (aJ (f.A4 2 Z)) (λx k e=>f.apart (i:=0) (j:=2) Z Z Z x k gR) σ) (λH a c d f=>?_))));replace d:=bt d
 replace f:=ψ f
 refine rA Q Z Z ?_;exact⟨_,ω,⟨d.ext,d.box 0 Z⟩,_,Z,ω,ω⟩

theorem yF{w:ä}(T:w.heap[b]? = á (az Y W v X))(cO:ah w Y W v V)(hd:∀x∈V,x≠b)(t_:0<=X/\X<=100000)(s_:W.length<=1048576):Ret ê 108 #[au b] w λm_ I=>(∃J:Int,(X<=J/\J<=X+5100)/\BoxTo w I b (az Y W v J)/\∃(z:Aw) (A9:Option ô) (C9:Nat) (a_:Option ô) (d_:Nat) (b_:Option ô) (e_:Nat) (g:Int),m_ = .tuple #[z.val A9 C9 a_ d_ b_ e_,ag g]/\(-1<=g/\g<=100)/\z.few 500/\ResV w I [ag z.A0.A2,ag z.A0.A5,ag z.A0.Data,ag z.A0.Af,ag z.A0.Rows,ag z.A0.Cap,ag z.A0.An,ag z.A0.Ao,ag z.A0.Ap,ak A9 z.A2 C9,ak a_ z.On d_,ak b_ z.A3 e_,ag z.Aa,ag z.Stop,.bool z.Down] z):=by
 refine bv func108 Z (λq_ Q hN=>?_);have H:=(Sep.beginBox T).look (r:=Ab â [ak Y W v] W V) cO (λx r hm=>hd x r km);refine aT (cz aB Z Ç H (λa H c d e=>sA Z (aH (aT (sM Z (sC func160 Z (yp (e.box 0 Z) (aJ (e.Ab 0 Z)) (e.B5 0 Z 0 Z) ω ω) (λH c f=>?_)))))));obtain⟨h,i,⟨j,k⟩,l,m,n,o,p,q,s,rfl,u,y⟩:=f;obtain⟨H,A,c,B⟩:=e.resV 0 Z j k y;replace B:∀b∈A,w.heap.size<=b:=λb T=>aF e.ext.size (B b T)
 obtain⟨H,d,e,f,h,i,j,k⟩:=y7 (c.A4 2 Z);have h:=c.part 2 Z [A4 [ak _ l.A2 _] l.A2 H,A4 [ak _ l.On _] l.On d,A4 [ak _ l.A3 _] l.A3 e] (all_cons i (all_cons j (all_cons k σ))) (by simp[blocks,A4,f]);refine cz aB Z Ç h (λc_ H c d e=>bw aB (o:=0) ff Z e 6 Z (λH c D=>?_))
 replace D:=χ D
 have H:=u.gr.1;refine aX 4321571 D ?_;refine sC func161 Z (zX (D.box 0 Z) (aJ (D.Ab 0 Z)) (D.B5 0 Z 0 Z) ω ω ξ) (λH c g_=>?_);obtain⟨n_,o_,⟨h_,i_⟩,K,rfl,p_⟩:=g_;have H:=bt (D.Ay 0 Z h_ i_);refine sA Z (aH (tT (c:=Int × Aw × List Nat) (λ(F,z,L)=>[(0,au b),(2,au a),(4,au c_),(5,ag K)]) (λ(F,z,L) I=>Sep (· = b) w [box b (az Y W v F),box a ao,Az c_ 31 z L] [Ab â [ak Y W v] W V,rdR (Am l.A3) A] I/\(X<=F/\F<=X+5050)/\z.few 500/\z.A3=l.A3) ?_ (λ(F,z,L) a M=>?_)))
 .obtain⟨_,a,_⟩:=rq (H.A4 5 Z) (H.rdAt 1 Z);refine aX 16882 H ?_;have c:=ja (z:=l.w) u.ok ⟨_,aJ (H.A4 3 Z)⟩ ⟨_,aJ (H.A4 4 Z)⟩ ⟨_,(by rw[xj];exact a)⟩;unfold Wld.val at c;rw[xj] at c;refine sE func72 Z c H (λH a N=>sR 2 Z (cZ (t:=14) Z (λO=>?_) (λO=>?_)))
  .replace O:=φ O
   refine aX 10746287 N ?_;refine bc (wg Z) Z (cj Z) (sV Z (dJ Z Z) (sM Z (cZ (t:=19) Z (λP=>?_) (λP=>?_))))
   .replace P:=φ P
    refine aG 82402670863 ?_;refine cZ (t:=23) Z (λR=>?_) (λR=>?_)
    .replace R:=φ R
     refine aX 46969583887 N ?_;refine dE (wg Z) Z (pcK ğ Z) (cP (c5 (show c7 l.w=0 by assumption)).1) (λH a j_=>?_);obtain⟨k_,rfl⟩:=j_;have G:=N.to k_;refine aG 20117839 ?_;refine cZ (t:=30) Z (λE=>?_) (λE=>?_)
     .replace E:=φ E
      refine aX 38917110191 G ?_;refine dE (wg Z) Z (pcK func162 Z) (ly (G.As 4 Z)) (λH a l_=>?_);obtain⟨H',rfl⟩:=l_;have m:=G.to H';refine bc (wg Z) Z (cj Z) (sV Z (dJ Z Z) (sM Z (cZ (t:=37) Z (λn=>?_) (λn=>?_))))
      .replace n:=φ n
       refine bc (wg Z) Z (bL Z) (dE (wg Z) Z (pcK Ħ Z) (cE (m.box 0 Z) (aJ (m.Ab 0 Z)) (m.B5 0 Z 0 Z) ω ω ω) (λH a o=>?_));obtain⟨⟨p,q⟩,s,rfl,y⟩:=o;have H:=m.Ay 0 Z p q;refine br 42734909999 (λa=>?_) (λa=>?_)
       .refine ce (sM Z (eY ([K]) aB Z cS bV Z fF σ σ H (λa c d e f=>sF eC Z eF (cL aB (o:=10) eF Z f 6 Z (λa c d=>?_)))));obtain⟨a,c⟩:=d.Av 6 3 7 5 ({l with On:=[K]}:Aw) Z η;refine aH ?_;exact⟨(_,({l with On:=[K]}:Aw),_),bf,c.au_pk 67,ω,⟨u.sh,u.gr,(by show[K].length<=20;simp),u.tl,u.tp,u.wr,u.st⟩,Z⟩
       obtain⟨a,c⟩:=H.Av 6 3 4 5 l Z u.ok;replace c:=bt c;refine bi ?_;exact⟨(_,l,_),bf,c.au_pk 67,ω,u,Z⟩
      replace n:=φ n
      refine aG 53737608 ?_;refine gW Z ?_;obtain⟨H,a⟩:=m.Av 6 3 4 5 l Z u.ok;refine bi ?_;exact⟨(_,l,_),bf,a.au_pk 67,ω,u,Z⟩
     replace E:=φ E
     refine aG 0x333f888133f88888 ?_;refine gW Z ?_;obtain⟨H,a⟩:=G.Av 6 3 4 5 l Z u.ok;refine bi ?_;exact⟨(_,l,_),bf,a.au_pk 67,ω,u,Z⟩
    replace R:=φ R
    refine aG 0x333f888133f88888133f88888 ?_;refine gW Z ?_;obtain⟨H,a⟩:=N.Av 6 3 4 5 l Z u.ok;refine bi ?_;exact⟨(_,l,_),bf,a.au_pk 67,ω,u,Z⟩
   replace P:=φ P
   refine aG 0x333f888133f88888133f88888133f88 ?_;refine gW Z ?_;obtain⟨H,a⟩:=bt (N.Av 6 3 4 5 l Z u.ok);refine bi ?_;exact⟨(_,l,_),bf,a.au_pk 67,ω,u,Z⟩
  replace O:=φ O
  refine aG 0x333f888133f88888133f88888133f88133f888 ?_;refine gW Z ?_;obtain⟨H,a⟩:=N.Av 6 3 4 5 l Z u.ok;refine bi ?_;exact⟨(_,l,_),bf,a.au_pk 67,ω,u,Z⟩
 obtain⟨M,r_,C,U⟩:=M;have u_:=C.wr;obtain⟨H,a,c,d,e,f,h,i,j,k,l⟩:=M.B4 2 Z;have H:=cx k;refine aW (aT (sM Z (cY l Z Ħ Z (cE · · · ω ω ω) (λH a c m d=>sM Z (cZ (t:=47) Z (λn=>?_) (λn=>?_))))))
 .replace n:=φ n
  refine ge 0x9f332f94fa3f9af m (λH=>?_) (λH=>?_)
  .refine eE (S:=m.S2 0 0) (oQ [1,3,5,6,9,11,12]) κ κ κ Z (λ_=>show m.S2 0 0 _ from Ext.refl.drawn _) (λH=>?_);have o:=m.drawn H;refine aX 191362351 m ?_;refine cb Z aB Z (pcK É Z) (bk (o.box 0 Z) (aJ (o.Ab 0 Z)) (o.B5 0 Z 0 Z) ω ω ω) (λhS _ _ f_ _=>m.s2Bx hS Z f_.1) (λH a p=>?_);obtain⟨⟨q,s⟩,u,rfl,y⟩:=p;have H:=bt (o.Ay 0 Z q s);refine aG 5436671 ?_;refine dm Z aB (o:=13) ts2 Z H 2 Z τ3 (λH a c=>dO (aW ?_));obtain⟨H,a⟩:=c.Av 2 4 5 6 ({z with Stop:=(z.Aa+u)}:Aw) Z ⟨k.1,k.2.1,AR⟩;obtain⟨H,c,d,e,f,h,i,j,l,o,p⟩:=a.B4 2 Z;refine aX 82422 p ?_;refine bw aB (o:=0) ff Z p 1 Z (λH a c=>?_)
   replace c:=χ c
   replace c:=bt c;refine sA Z (aH (dY (Q _ _ (mn Z Z (cm eC Z ff Z (At.whole (c.box 1 Z))) Z ?_))));have H:=c.rdSub (us:=Am z.A3) 1 Z (λx r=>by rw[U] at r;exact r);exact⟨_,ω,⟨H.ext,H.box 0 Z⟩,({z with Stop:=(z.Aa+u)}:Aw),_,_,_,_,_,_,K,Z,ω,⟨C.sh,C.gr,C.on,C.tl,C.tp,C.wr,θ⟩,H.outV 0 8 9 10 2 Z B (λw H a c=>Aw.own_mk (x:=({z with Stop:=(z.Aa+u)}:Aw)) o H a c)⟩
  refine aX 1318702 m ?_;refine bw aB (o:=0) ff Z m 1 Z (λd e f=>?_)
  replace f:=χ f
  refine sA Z (aH (dY (Q _ _ (mn Z Z (cm eC Z ff Z (At.whole (f.box 1 Z))) Z ?_))));have d:=f.rdSub (us:=Am z.A3) 1 Z (λx r=>by rw[U] at r;exact r);exact⟨_,ω,⟨d.ext,d.box 0 Z⟩,z,_,_,_,_,_,_,K,Z,ω,C,d.outV 0 4 5 6 2 Z B (λw H a c=>Aw.own_mk (x:=z) k H a c)⟩
 replace n:=φ n
 refine aG 53737608 ?_;refine gW Z (aX 1318702 m ?_);refine bw aB (o:=0) ff Z m 1 Z (λd e f=>?_)
 replace f:=χ f
 refine sA Z (aH (dY (Q _ _ (mn Z Z (cm eC Z ff Z (At.whole (f.box 1 Z))) Z ?_))));have d:=f.rdSub (us:=Am z.A3) 1 Z (λx r=>by rw[U] at r;exact r);exact⟨_,ω,⟨d.ext,d.box 0 Z⟩,z,_,_,_,_,_,_,K,Z,ω,C,d.outV 0 4 5 6 2 Z B (λw H a c=>Aw.own_mk (x:=z) k H a c)⟩

end Go.Wk
namespace Go.Wk
open Rp (sz own)
section
variable {M:Nat->Prop}{g w:ä}{d F:List Rsc}{b:Nat}{T:TypeId}{a:Aw}{z:Wld}{f:List Nat}{W:Int}{c i:Nat}
theorem Sep.asT(h:Sep M g d F w)(i:Nat)(H:d[i]? = á (Az b T a f)):∃(z:Wld) (t:List Al),t.map Al.t=z.A3/\a.w=z/\t=a.A3/\Sep M g (d.set i (Bc t b T z f)) F w:=by
  refine⟨a.w,a.A3,rfl,rfl,rfl,?_⟩
  have e:d.set i (Bc a.A3 b T a.w f)=d:=by
    apply List.ext_getElem?
    intro j
    by_cases q:i=j
    · subst q
      have l:=(List.getElem?_eq_some_iff.1 H).1
      rw[List.getElem?_set_self l,H];rfl
    · rw[bh q]
  rw[e];exact h
theorem Gw.stop(h:c7 z=0)(f:z.Down=â)(g:z.Aa<=W):Gw W {z with Stop:=-1}:=by
  obtain⟨a,b,c,d,e⟩:=c5 h
  obtain⟨p,q⟩:=yr e
  rw[ē] at p q
  refine⟨a,(jv rfl rfl).trans b,c,d,(show RecsOK z from tm h),λt H=>⟨?_,by simpa using q t H⟩,rfl,f,(kM h).1,g⟩
  have:=p t H
  unfold fT at this
  simp at this;omega
theorem Gw.wipe(h:Gw W z)(H:c<z.A2.length)(a:i<(z.A2.getD c []).length):Gw W {z with A2:=z.A2.set c ((z.A2.getD c []).set i ⟨ã,((z.A2.getD c []).getD i à).Ai⟩)}:=by
  have d:=(fI h.gk).2 c H
  refine⟨h.hs,DN h.gk H ?_ rfl rfl,h.on,h.tl,h.rc,h.rl,h.st,h.dn,h.wr⟩
  have k:=d.2 i a
  unfold fK
  rw[aU k.1]
  exact jn λj b=>k.2 j b
theorem Gw.dims(h:Gw W z){g:Int}(c:ins g 0 (z.A0.A2+z.A0.A5-1)=ã):g.toNat<z.A2.length/\(z.A2.length:Int)=z.A0.A2+z.A0.A5/\((z.A2.getD g.toNat []).length:Int)=z.A0.Data+z.A0.Af:=by
  have H:=fI h.gk
  have d:=bH.1 c
  have b:=H.1
  have a:g.toNat<z.A2.length:=by omega
  exact⟨a,b,(H.2 g.toNat a).1⟩
end
end Go.Wk
namespace Go.Wk
open Go.Proofs Rp Go.Proofs.Tryz
set_option maxRecDepth 10000
theorem ym{a_:ä}{g:List UInt8}{J:Option ô}{M b:Nat}{O:List Nat}{Q:Int}(hb:a_.heap[b]? = á (az J g M Q))(cO:ah a_ J g M O)(hd:∀l_∈O,l_≠b)(H_:0<=Q/\Q<=90000)(G_:g.length<=1048576):Ret ê 64 #[au b] a_ λE_ W=>(∃t_:Int,(Q<=t_/\t_<=Q+5300)/\BoxTo a_ W b (az J g M t_)/\∃(z:Aw) (A9:Option ô) (C9:Nat) (y_:Option ô) (A_:Nat) (z_:Option ô) (B_:Nat) (D_:Int),E_ = .tuple #[z.val A9 C9 y_ A_ z_ B_,ag D_]/\z.A0.few):=by
 refine bv func64 Z (λF_ hQ hN=>?_);have H:=(Sep.beginBox hb).look (r:=Ab â [ak J g M] g O) cO (λl_ hx hm=>hd l_ hx km);refine aT (cz aB Z Ç H (λa H c d e=>sA Z (aH (aT (sM Z (sC func108 Z (yF (e.box 0 Z) (aJ (e.Ab 0 Z)) (e.B5 0 Z 0 Z) ω ω) (λH c f=>?_)))))));obtain⟨j,l,⟨m,o⟩,p,q,s,u,y,A,B,C,rfl,D,E,F⟩:=f;obtain⟨H,c,d,f⟩:=e.resV 0 Z m o F;replace f:∀b∈c,a_.heap.size<=b:=λb hb=>aF e.ext.size (f b hb)
 obtain⟨H,e,f,j,l,m,o,q⟩:=y7 (d.A4 2 Z);have l:=d.part 2 Z [A4 [ak _ p.A2 _] p.A2 H,A4 [ak _ p.On _] p.On e,A4 [ak _ p.A3 _] p.A3 f] (all_cons m (all_cons o (all_cons q σ))) (by simp[blocks,A4,j]);refine sR 3 Z (cz aB Z Ç l (λH d e f j=>bw aB (o:=0) ff Z j 6 Z (λd e f=>?_)))
 replace f:=χ f
 obtain⟨_,d,_⟩:=rq (f.A4 5 Z) (f.rdAt 1 Z);refine aX 4321876 f ?_;have e:=ja (z:=p.w) E.ok ⟨_,aJ (f.A4 3 Z)⟩ ⟨_,aJ (f.A4 4 Z)⟩ ⟨_,(by rw[xj];exact d)⟩;unfold Wld.val at e;rw[xj] at e;refine sE func72 Z e f (λd e f=>sR 2 Z (cZ (t:=22) Z (λd=>?_) (λd=>?_)))
 .replace d:=φ d
  refine aG 3354504 ?_;refine eL Z (aX 82418 f ?_);refine bw aB (o:=0) ff Z f 1 Z (λe j l=>?_)
  replace l:=χ l
  replace l:=bt l;refine sA Z (aH (dY (hQ _ _ (mn Z Z (cm eC Z ff Z (At.whole (l.box 1 Z))) Z ?_))));exact⟨_,ω,⟨l.ext,l.box 0 Z⟩,p,_,_,_,_,_,_,C,Z,E.sh⟩
 replace d:=φ d
 refine ge 0xaf333fa3f9af f (λd=>?_) (λd=>?_)
 .refine aX 82418 f ?_;refine bw aB (o:=0) ff Z f 1 Z (λe j l=>?_)
  replace l:=χ l
  refine sA Z (aH (dY (hQ _ _ (mn Z Z (cm eC Z ff Z (At.whole (l.box 1 Z))) Z ?_))));exact⟨_,ω,⟨l.ext,l.box 0 Z⟩,p,_,_,_,_,_,_,C,Z,E.sh⟩
 obtain⟨e,j⟩:=f.Av 6 3 4 5 p Z E.ok;obtain⟨f,m,o,e,l,HT⟩:=j.asT 6 Z;rw[<- l] at HT;refine bi (aW ?_);have x_:c7 f=0:=by rw[<- e];omega
 have j:f.Down=false:=by rw[<- e];show p.Down=â;simpa using d
 have d:f.Aa<=5:=by have d:=E.wr;have d:=(kM x_).2.1;rw[<- e] at d ⊢;first|omega|(have d:p.w.Aa=p.Aa:=Z;omega)
 have p:Gw 10 ({f with Stop:=-1}:Wld):=Gw.stop x_ j ω;have d:=p.hs;have P:f.A0.ok=true:=d;have I_:=bm P;obtain⟨d,e,j,l,q,s,u,y,A,B,D⟩:=bt (HT.openWT 6 Z);replace B:f.Ok:=B;refine aX 2453897110 D ?_;refine cL aB (o:=13) ts2 Z D 6 Z (λd e j=>aX 70226211 j ?_);refine sE ğ Z (cP P) j (λd e j=>cY j Z É Z (bk · · · ω ω ω) (λE d e j l=>?_));have F:ins E 0 (f.A0.A2+f.A0.A5-1)=true:=bH.2 ω;obtain⟨d,e⟩:=bt (j.B0 6 8 9 10 ({f with Stop:=-1}:Wld) Z (p.Ok dv));refine aG 7291476 ?_;have G:=e.B9 (a:=[Ab â [ak J g M] g O,rdR (Am m) c]) (λr w=>by simp only[aM,aQ,bB] at w;rcases w with rfl|rfl<;>simp);refine cp (j:=Nat × Int × Wld × List Nat) (λ(k,v,z,x)=>[(0,au b),(2,au a),(4,au H),(5,ag C),(6,ag f.Stop),(7,ag E),(8,ag k)]) (λ(k,v,z,x) W=>Sep (· = b) a_ [box b (az J g M v),box a ao,Bc m H 31 z x] [Ab â [ak J g M] g O,rdR (Am m) c] W/\(k:Int)<=f.A0.Af+1/\(Q<=v/\v<=Q+5150+k)/\Gw 10 z/\z.A0=f.A0/\m.map Al.t=z.A3) (λ(k,v,z,x)=>(f.A0.Af+1).toNat-k) (0,_,({f with Stop:=-1}:Wld),_) bf ⟨(G.au_pk 67),bj,bj,p,Z,o⟩ (λ(k,v,z,x) d e=>?_);obtain⟨e,hk,n_,h,N,e_⟩:=e;have P:z.A0.ok=true:=h.hs;have i_:=bm P;refine aW (aW ?_);have w_:z.A0.Data=f.A0.Data/\z.A0.Af=f.A0.Af/\z.A0.A2=f.A0.A2/\z.A0.A5=f.A0.A5:=by rw[N];exact⟨Z,Z,Z,Z⟩
 obtain⟨d,j,l,o,p,q,s,u,y,A,I⟩:=bt (e.openWT 2 Z);replace A:z.Ok:=A;refine aX 7843322134 I ?_;refine cZ (t:=41) Z (λb_=>?_) (λb_=>?_)
 .replace b_:=φ b_
  refine bc (wg Z) Z (bL Z) (dE (wg Z) Z (pcK Ħ Z) (cE (I.box 0 Z) (aJ (I.Ab 0 Z)) (I.B5 0 Z 0 Z) ω ω ω) (λd e K=>?_));obtain⟨⟨L,d_⟩,m_,rfl,g_⟩:=K;have B:=I.Ay 0 Z L d_;refine br 42734909999 (λd=>?_) (λd=>?_)
  .refine bi (aW (bP ?_));have Y:ins E 0 (z.A0.A2+z.A0.A5-1)=true:=by rw[N];exact F
   obtain⟨h_,v_,u_⟩:=h.dims Y;obtain⟨d,e,j,l,o,p,q,s,u,y⟩:=B.focusL 4 Z E.toNat ω;obtain⟨d,e,j,l,o,p,q,s,A,D,G⟩:=Drive.focus y 7 Z k ω;refine aX 1277846 G ?_;refine sV Z (bR ie nn Z u E.toNat ω ω) (aX 2481918879 G ?_);refine mo aB ts4 G 7 0 Z (λd e=>?_);replace e:=bt e;obtain⟨d,j⟩:=Drive.fill e 7 9 Z Z Z trivial;obtain⟨d,e⟩:=j.fill 4 7 Z Z Z;obtain⟨d,j⟩:=bt (e.B0 2 4 5 6 ({z with A2:=z.A2.set E.toNat ((z.A2.getD E.toNat []).set k ⟨ã,((z.A2.getD E.toNat []).getD k à).Ai⟩)}:Wld) Z ((h.wipe h_ ω).Ok dv));refine aG 311651 ?_;have j_:=j.B9 (a:=[Ab â [ak J g M] g O,rdR (Am m) c]) (λr w=>by simp only[aM,aQ,bB] at w;rcases w with rfl|rfl<;>simp);exact⟨(k+1,_,({z with A2:=z.A2.set E.toNat ((z.A2.getD E.toNat []).set k ⟨ã,((z.A2.getD E.toNat []).getD k à).Ai⟩)}:Wld),_),bf,⟨(j_.au_pk 7),bj,bj,h.wipe h_ ω,N,e_⟩,bj⟩
  refine bu (aW (aT (sM Z (cY B Z É Z (bk · · · ω ω ω) (λR d e j l=>?_)))));replace j:=bt j;obtain⟨d,e⟩:=bt (j.B0 2 4 5 6 z Z (h.Ok ω));refine sA Z (aH (bP ?_));have k_:=e.B9 (a:=[Ab â [ak J g M] g O,rdR (Am m) c]) (λr w=>by simp only[aM,aQ,bB] at w;rcases w with rfl|rfl<;>simp);refine cp (j:=Int × Int × Wld × List Nat × List Al × List Nat) (λ(n,v,z,x,T,X)=>[(0,au b),(2,au a),(4,au H),(5,ag C),(6,ag f.Stop),(7,ag E),(9,ag n)]) (λ(n,v,z,x,T,X) W=>Sep (· = b) a_ [box b (az J g M v),box a ao,Bc T H 31 z x] [Ab â [ak J g M] g O,rdR (Am T) X] W/\(0<=n/\n<=2)/\(Q<=v/\v<=Q+5200+10*(2-n))/\Gw (10+2*(2-n)) z/\z.A0=f.A0/\T.map Al.t=z.A3) (λ(n,v,z,x,T,X)=>n.toNat) (R,_,z,_,m,c) bf ⟨(k_.au_pk 7),bj,bj,h.mono bj,N,η⟩ (λ(n,v,z,x,T,X) d o=>?_);obtain⟨o,hn,n_,h,N,e_⟩:=o;refine br 166973733 (λd=>?_) (λd=>?_)
  .have P:z.A0.ok=true:=h.hs;have i_:=bm P;have hG:=h.gk;have hd:=h.dn;have p_:=h.recs;have hq:=h.seq;have hT:=h.tl;have o_:=h.all;have f_:=h.wr;have q_:c7 z=0:=h.world ω;refine bi (aW (bP ?_));have Y:ins E 0 (z.A0.A2+z.A0.A5-1)=true:=by rw[N];exact F
   obtain⟨d,e,j,l,p,q,s,u,y,A,B⟩:=o.openWT 2 Z;replace A:z.Ok:=A;have d:=cx A;refine aX 939102486 B ?_;refine cY B Z É Z (bk · · · ω ω ω) (λD d e j l=>?_);obtain⟨d,G⟩:=bt (j.B0 2 4 5 6 z Z A);refine sC func109 Z (tL (G.wldTAt 2 Z) (G.Aj (i:=2) Z) η (G.rdAt 1 Z) (G.rdLt 1 Z) (λl_ hx=>G.off 1 Z 2 Z hx) ξ ξ ξ ξ ξ ξ ξ ξ ξ ξ) (λd e K=>?_);obtain⟨rfl,L,d_,m_⟩:=K;obtain⟨d,g_,e,j⟩:=bt (G.mutRT 2 1 Z Z m_ υ1);refine aG 70054243 ?_;have j_:=e.B9 (a:=[Ab â [ak J g M] g O,rdR (Am L) g_]) (λr w=>by simp only[aM,aQ,bB] at w;rcases w with rfl|rfl<;>simp);have c_:=h.bg (a:=D) Y (bH.2 ω);exact⟨(n-1,_,bgZ z E D,_,L,g_),bf,⟨(j_.au_pk 7),bj,bj,c_.1.mono bj,c_.2.trans N,η⟩,bj⟩
  refine bu (aW (aT (sM Z (cY o Z É Z (bk · · · ω ω ω) (λR d e j l=>?_)))));replace j:=bt j;refine sA Z (aH (bP ?_));have k_:=j.B9 (a:=[Ab â [ak J g M] g O,rdR (Am T) X]) (λr w=>by simp only[aM,aQ,bB] at w;rcases w with rfl|rfl<;>simp);refine cp (j:=Int × Int × Wld × List Nat × List Al × List Nat) (λ(n,v,z,x,tsb,U)=>[(0,au b),(2,au a),(4,au H),(5,ag C),(6,ag f.Stop),(7,ag E),(10,ag n)]) (λ(n,v,z,x,tsb,U) W=>Sep (· = b) a_ [box b (az J g M v),box a ao,Bc tsb H 31 z x] [Ab â [ak J g M] g O,rdR (Am tsb) U] W/\(0<=n/\n<=3)/\(Q<=v/\v<=Q+5250+10*(3-n))/\Gw (100+72*(3-n)) z/\z.A0=f.A0/\tsb.map Al.t=z.A3) (λ(n,v,z,x,tsb,U)=>n.toNat) (R,_,z,_,T,X) bf ⟨(k_.au_pk 7),bj,bj,h.mono bj,N,η⟩ (λ(n,v,z,x,tsb,U) d o=>?_);obtain⟨o,hn,n_,h,N,e_⟩:=o;refine br 166973733 (λd=>?_) (λd=>?_)
  .have P:z.A0.ok=true:=h.hs;have i_:=bm P;have hG:=h.gk;have hd:=h.dn;have p_:=h.recs;have hq:=h.seq;have hT:=h.tl;have o_:=h.all;have f_:=h.wr;have q_:c7 z=0:=h.world ω;obtain⟨d,e,j,l,p,q,s,u,y,A,B⟩:=o.openWT 2 Z;replace A:z.Ok:=A;refine aX 4602344795998 B ?_;refine sE ğ Z (cP P) B (λd e j=>cY j Z É Z (bk · · · ω ω ω) (λD d e j l=>?_));replace j:=bt j;have Y:ins D 0 (z.A0.A2+z.A0.A5-1)=true:=bH.2 ω;obtain⟨d,G⟩:=j.B0 2 4 5 6 z Z A;refine sA Z (aH (ce (sM Z (sC func110 Z (qu (G.wldTAt 2 Z) (G.Aj (i:=2) Z) η (G.rdAt 1 Z) (G.rdLt 1 Z) (λl_ hx=>G.off 1 Z 2 Z hx) ξ ξ ξ) (λd e K=>?_)))));obtain⟨rfl,L,d_,m_⟩:=K;obtain⟨d,g_,e,j⟩:=bt (G.mutRT 2 1 Z Z m_ υ1);refine aG 70054243 ?_;have j_:=e.B9 (a:=[Ab â [ak J g M] g O,rdR (Am L) g_]) (λr w=>by simp only[aM,aQ,bB] at w;rcases w with rfl|rfl<;>simp);have c_:=h.ga Y;exact⟨(n-1,_,(gaP z D).2,_,L,g_),bf,⟨(j_.au_pk 7),bj,bj,c_.1.mono bj,c_.2.trans N,η⟩,bj⟩
  refine bu (aW (aT (sM Z (cY o Z Ħ Z (cE · · · ω ω ω) (λd e j o l=>aH (l9 Z (λd=>?_) (λd=>?_)))))))
  .have P:z.A0.ok=true:=h.hs;have i_:=bm P;have hG:=h.gk;have hd:=h.dn;have p_:=h.recs;have hq:=h.seq;have hT:=h.tl;have o_:=h.all;have f_:=h.wr;have q_:c7 z=0:=h.world ω;obtain⟨d,e,j,l,p,q,s,u,y,A,B⟩:=bt (o.openWT 2 Z);replace A:z.Ok:=A;refine aX 4389138 B ?_;refine sE ğ Z (cP P) B (λd e j=>cY j Z É Z (bk · · · ω ω ω) (λR d e j l=>sA Z (aH (aW ?_))));have k_:ins R 0 (f.A0.A2+f.A0.A5-1)=true:=bH.2 (by rw[<- N];omega);have r_:=h.mono (V:=400) ω;obtain⟨d,e⟩:=bt (j.B0 2 4 5 6 z Z (h.Ok ω));refine ce (sA Z (aH (bP ?_)));have s_:=e.B9 (a:=[Ab â [ak J g M] g O,rdR (Am tsb) U]) (λr w=>by simp only[aM,aQ,bB] at w;rcases w with rfl|rfl<;>simp);refine cp (j:=Nat × Int × Wld × List Nat) (λ(k,v,z,x)=>[(0,au b),(2,au a),(4,au H),(5,ag C),(6,ag f.Stop),(7,ag E),(12,ag R),(13,ag k)]) (λ(k,v,z,x) W=>Sep (· = b) a_ [box b (az J g M v),box a ao,Bc tsb H 31 z x] [Ab â [ak J g M] g O,rdR (Am tsb) U] W/\(k:Int)<=f.A0.Data+f.A0.Af/\(Q<=v/\v<=Q+5290)/\Gw 400 z/\z.A0=f.A0/\tsb.map Al.t=z.A3) (λ(k,v,z,x)=>(f.A0.Data+f.A0.Af).toNat-k) (0,_,z,_) bf ⟨(s_.au_pk 7),bj,bj,r_,N,η⟩ (λ(k,v,z,x) d e=>?_);obtain⟨e,hk,n_,h,N,e_⟩:=e;refine aW (aW ?_);have Y:ins R 0 (z.A0.A2+z.A0.A5-1)=true:=by rw[N];exact k_
   obtain⟨h_,v_,u_⟩:=h.dims Y;have i_:=bm h.hs;have w_:z.A0.Data=f.A0.Data/\z.A0.Af=f.A0.Af/\z.A0.A2=f.A0.A2/\z.A0.A5=f.A0.A5:=by rw[N];exact⟨Z,Z,Z,Z⟩
   obtain⟨d,j,l,p,q,s,u,y,A,B,D⟩:=e.openWT 2 Z;replace B:z.Ok:=B;have d:=cx B;obtain⟨d,e,j,l,p,q,s,u,y,G⟩:=bt (D.focusL 4 Z R.toNat ω);refine ge 0x9f3d2ff39f3ff137f916 G (λd=>?_) (λd=>?_)
   .obtain⟨d,e,j,l,p,q,s,u,A,B,D⟩:=Drive.focus G 7 Z k ω;refine aX 1339918675806 D ?_;refine sV Z (bR ie nn Z y R.toNat ω ω) (aX 2481918879 D ?_);refine mo aB ts4 D 7 0 Z (λd e=>?_);obtain⟨d,j⟩:=Drive.fill e 7 9 Z Z Z trivial;obtain⟨d,e⟩:=bt (j.fill 4 7 Z Z Z);obtain⟨d,j⟩:=bt (e.B0 2 4 5 6 ({z with A2:=z.A2.set R.toNat ((z.A2.getD R.toNat []).set k ⟨ã,((z.A2.getD R.toNat []).getD k à).Ai⟩)}:Wld) Z ((h.wipe h_ ω).Ok dv));refine aG 311651 ?_;have K:=j.B9 (a:=[Ab â [ak J g M] g O,rdR (Am tsb) U]) (λr w=>by simp only[aM,aQ,bB] at w;rcases w with rfl|rfl<;>simp);exact⟨(k+1,_,({z with A2:=z.A2.set R.toNat ((z.A2.getD R.toNat []).set k ⟨ã,((z.A2.getD R.toNat []).getD k à).Ai⟩)}:Wld),_),bf,⟨(K.au_pk 7),bj,bj,h.wipe h_ ω,N,e_⟩,bj⟩
   refine bu ?_;have f_:=h.wr;refine br 166973733 (λd=>?_) (λd=>?_)
   .refine eE (S:=G.S2 0 0) (oQ [1,3,5,6,9,11,12]) κ κ κ Z (λ_=>show G.S2 0 0 _ from Ext.refl.drawn _) (λd=>?_);have L:=G.drawn d;refine aX 191362351 G ?_;refine cb Z aB Z (pcK É Z) (bk (L.box 0 Z) (aJ (L.Ab 0 Z)) (L.B5 0 Z 0 Z) ω ω ω) (λhS _ _ r _=>G.s2Bx hS Z r.1) (λd e d_=>?_);obtain⟨⟨m_,g_⟩,j_,rfl,R⟩:=d_;have d:=L.Ay 0 Z m_ g_;refine aG 5436671 ?_;refine dm Z aB (o:=13) ts2 Z d 2 Z τ3 (λd e j=>aX 337584207 j ?_);refine bw aB (o:=0) ff Z j 1 Z (λd e j=>?_)
    replace j:=χ j
    replace j:=bt j;exact sA Z (aH (dY (hQ _ _ (mn Z Z (cm eC Z ff Z (At.whole (j.box 1 Z))) Z ⟨_,ω,⟨j.ext,j.box 0 Z⟩,mkV ({z with Stop:=(z.Aa+j_)}:Wld) tsb,_,_,_,_,_,_,C,Z,dS h.hs⟩))))
   refine aX 1318702 G ?_;refine bw aB (o:=0) ff Z G 1 Z (λd e j=>?_)
   replace j:=χ j
   exact sA Z (aH (dY (hQ _ _ (mn Z Z (cm eC Z ff Z (At.whole (j.box 1 Z))) Z ⟨_,ω,⟨j.ext,j.box 0 Z⟩,mkV (⟨z.A0,z.A2,z.On,z.A3,z.Aa,z.Stop,z.Down⟩:Wld) tsb,_,_,_,_,_,_,C,Z,dS h.hs⟩))))
  have f_:=h.wr;refine br 2671579742 (λd=>?_) (λd=>?_)
  .obtain⟨d,e,j,l,p,q,s,u,y,A,B⟩:=o.openWT 2 Z;replace A:z.Ok:=A;refine eE (S:=B.S2 0 0) (oQ [1,3,5,6,9,11,12]) κ κ κ Z (λ_=>show B.S2 0 0 _ from Ext.refl.drawn _) (λd=>?_);have D:=B.drawn d;refine aX 191362351 B ?_;refine cb Z aB Z (pcK É Z) (bk (D.box 0 Z) (aJ (D.Ab 0 Z)) (D.B5 0 Z 0 Z) ω ω ω) (λhS _ _ r _=>B.s2Bx hS Z r.1) (λd e G=>?_);obtain⟨⟨s_,C_⟩,H',rfl,a'⟩:=G;have d:=D.Ay 0 Z s_ C_;refine aG 5436671 ?_;refine dm Z aB (o:=13) ts2 Z d 2 Z τ3 (λd e j=>?_);replace j:=bt j;refine aX 337584207 j ?_;refine bw aB (o:=0) ff Z j 1 Z (λd e j=>?_)
   replace j:=χ j
   exact sA Z (aH (dY (hQ _ _ (mn Z Z (cm eC Z ff Z (At.whole (j.box 1 Z))) Z ⟨_,ω,⟨j.ext,j.box 0 Z⟩,mkV ({z with Stop:=(z.Aa+H')}:Wld) tsb,_,_,_,_,_,_,C,Z,dS h.hs⟩))))
  obtain⟨d,e,j,l,p,q,s,u,y,A,B⟩:=o.openWT 2 Z;replace A:z.Ok:=A;refine aX 1318702 B ?_;refine bw aB (o:=0) ff Z B 1 Z (λd e j=>?_)
  replace j:=χ j
  exact sA Z (aH (dY (hQ _ _ (mn Z Z (cm eC Z ff Z (At.whole (j.box 1 Z))) Z ⟨_,ω,⟨j.ext,j.box 0 Z⟩,mkV (⟨z.A0,z.A2,z.On,z.A3,z.Aa,z.Stop,z.Down⟩:Wld) tsb,_,_,_,_,_,_,C,Z,dS h.hs⟩))))
 replace b_:=φ b_
 refine aG 53737608 ?_;refine gW Z (bu (aW (aT (sM Z (cY I Z É Z (bk · · · ω ω ω) (λo d e j l=>?_))))));replace j:=bt j;obtain⟨d,e⟩:=bt (j.B0 2 4 5 6 z Z (h.Ok ω));refine sA Z (aH (bP ?_));have I:=e.B9 (a:=[Ab â [ak J g M] g O,rdR (Am m) c]) (λr w=>by simp only[aM,aQ,bB] at w;rcases w with rfl|rfl<;>simp);refine cp (j:=Int × Int × Wld × List Nat × List Al × List Nat) (λ(n,v,z,x,T,X)=>[(0,au b),(2,au a),(4,au H),(5,ag C),(6,ag f.Stop),(7,ag E),(9,ag n)]) (λ(n,v,z,x,T,X) W=>Sep (· = b) a_ [box b (az J g M v),box a ao,Bc T H 31 z x] [Ab â [ak J g M] g O,rdR (Am T) X] W/\(0<=n/\n<=2)/\(Q<=v/\v<=Q+5200+10*(2-n))/\Gw (10+2*(2-n)) z/\z.A0=f.A0/\T.map Al.t=z.A3) (λ(n,v,z,x,T,X)=>n.toNat) (o,_,z,_,m,c) bf ⟨(I.au_pk 7),bj,bj,h.mono bj,N,η⟩ (λ(n,v,z,x,T,X) c m=>?_);obtain⟨m,hn,n_,h,N,e_⟩:=m;refine br 166973733 (λc=>?_) (λc=>?_)
 .have P:z.A0.ok=true:=h.hs;have i_:=bm P;have hG:=h.gk;have hd:=h.dn;have p_:=h.recs;have hq:=h.seq;have hT:=h.tl;have o_:=h.all;have f_:=h.wr;have q_:c7 z=0:=h.world ω;refine bi (aW (bP ?_));have Y:ins E 0 (z.A0.A2+z.A0.A5-1)=true:=by rw[N];exact F
  obtain⟨c,d,e,j,l,o,p,q,s,u,y⟩:=m.openWT 2 Z;replace u:z.Ok:=u;have c:=cx u;refine aX 939102486 y ?_;refine cY y Z É Z (bk · · · ω ω ω) (λA c d e j=>?_);obtain⟨c,B⟩:=bt (e.B0 2 4 5 6 z Z u);refine sC func109 Z (tL (B.wldTAt 2 Z) (B.Aj (i:=2) Z) η (B.rdAt 1 Z) (B.rdLt 1 Z) (λl_ hx=>B.off 1 Z 2 Z hx) ξ ξ ξ ξ ξ ξ ξ ξ ξ ξ) (λc d D=>?_);obtain⟨rfl,F,G,b_⟩:=D;obtain⟨c,K,d,e⟩:=bt (B.mutRT 2 1 Z Z b_ υ1);refine aG 70054243 ?_;have L:=d.B9 (a:=[Ab â [ak J g M] g O,rdR (Am F) K]) (λr w=>by simp only[aM,aQ,bB] at w;rcases w with rfl|rfl<;>simp);have c_:=h.bg (a:=A) Y (bH.2 ω);exact⟨(n-1,_,bgZ z E A,_,F,K),bf,⟨(L.au_pk 7),bj,bj,c_.1.mono bj,c_.2.trans N,η⟩,bj⟩
 refine bu (aW (aT (sM Z (cY m Z É Z (bk · · · ω ω ω) (λI c d e j=>?_)))));replace e:=bt e;refine sA Z (aH (bP ?_));have d_:=e.B9 (a:=[Ab â [ak J g M] g O,rdR (Am T) X]) (λr w=>by simp only[aM,aQ,bB] at w;rcases w with rfl|rfl<;>simp);refine cp (j:=Int × Int × Wld × List Nat × List Al × List Nat) (λ(n,v,z,x,tsb,U)=>[(0,au b),(2,au a),(4,au H),(5,ag C),(6,ag f.Stop),(7,ag E),(10,ag n)]) (λ(n,v,z,x,tsb,U) W=>Sep (· = b) a_ [box b (az J g M v),box a ao,Bc tsb H 31 z x] [Ab â [ak J g M] g O,rdR (Am tsb) U] W/\(0<=n/\n<=3)/\(Q<=v/\v<=Q+5250+10*(3-n))/\Gw (100+72*(3-n)) z/\z.A0=f.A0/\tsb.map Al.t=z.A3) (λ(n,v,z,x,tsb,U)=>n.toNat) (I,_,z,_,T,X) bf ⟨(d_.au_pk 7),bj,bj,h.mono bj,N,η⟩ (λ(n,v,z,x,tsb,U) c l=>?_);obtain⟨l,hn,n_,h,N,e_⟩:=l;refine br 166973733 (λc=>?_) (λc=>?_)
 .have P:z.A0.ok=true:=h.hs;have i_:=bm P;have hG:=h.gk;have hd:=h.dn;have p_:=h.recs;have hq:=h.seq;have hT:=h.tl;have o_:=h.all;have f_:=h.wr;have q_:c7 z=0:=h.world ω;obtain⟨c,d,e,j,m,o,p,q,s,u,y⟩:=l.openWT 2 Z;replace u:z.Ok:=u;refine aX 4602344795998 y ?_;refine sE ğ Z (cP P) y (λc d e=>cY e Z É Z (bk · · · ω ω ω) (λA c d e j=>?_));replace e:=bt e;have Y:ins A 0 (z.A0.A2+z.A0.A5-1)=true:=bH.2 ω;obtain⟨c,B⟩:=e.B0 2 4 5 6 z Z u;refine sA Z (aH (ce (sM Z (sC func110 Z (qu (B.wldTAt 2 Z) (B.Aj (i:=2) Z) η (B.rdAt 1 Z) (B.rdLt 1 Z) (λl_ hx=>B.off 1 Z 2 Z hx) ξ ξ ξ) (λc d D=>?_)))));obtain⟨rfl,F,G,b_⟩:=D;obtain⟨c,K,d,e⟩:=bt (B.mutRT 2 1 Z Z b_ υ1);refine aG 70054243 ?_;have L:=d.B9 (a:=[Ab â [ak J g M] g O,rdR (Am F) K]) (λr w=>by simp only[aM,aQ,bB] at w;rcases w with rfl|rfl<;>simp);have c_:=h.ga Y;exact⟨(n-1,_,(gaP z A).2,_,F,K),bf,⟨(L.au_pk 7),bj,bj,c_.1.mono bj,c_.2.trans N,η⟩,bj⟩
 refine bu (aW (aT (sM Z (cY l Z Ħ Z (cE · · · ω ω ω) (λc d e l j=>aH (l9 Z (λc=>?_) (λc=>?_)))))))
 .have P:z.A0.ok=true:=h.hs;have i_:=bm P;have hG:=h.gk;have hd:=h.dn;have p_:=h.recs;have hq:=h.seq;have hT:=h.tl;have o_:=h.all;have f_:=h.wr;have q_:c7 z=0:=h.world ω;obtain⟨c,d,e,j,m,o,p,q,s,u,y⟩:=bt (l.openWT 2 Z);replace u:z.Ok:=u;refine aX 4389138 y ?_;refine sE ğ Z (cP P) y (λc d e=>cY e Z É Z (bk · · · ω ω ω) (λI c d e j=>sA Z (aH (aW ?_))));have k_:ins I 0 (f.A0.A2+f.A0.A5-1)=true:=bH.2 (by rw[<- N];omega);have r_:=h.mono (V:=400) ω;obtain⟨c,d⟩:=bt (e.B0 2 4 5 6 z Z (h.Ok ω));refine ce (sA Z (aH (bP ?_)));have d_:=d.B9 (a:=[Ab â [ak J g M] g O,rdR (Am tsb) U]) (λr w=>by simp only[aM,aQ,bB] at w;rcases w with rfl|rfl<;>simp);refine cp (j:=Nat × Int × Wld × List Nat) (λ(k,v,z,x)=>[(0,au b),(2,au a),(4,au H),(5,ag C),(6,ag f.Stop),(7,ag E),(12,ag I),(13,ag k)]) (λ(k,v,z,x) W=>Sep (· = b) a_ [box b (az J g M v),box a ao,Bc tsb H 31 z x] [Ab â [ak J g M] g O,rdR (Am tsb) U] W/\(k:Int)<=f.A0.Data+f.A0.Af/\(Q<=v/\v<=Q+5290)/\Gw 400 z/\z.A0=f.A0/\tsb.map Al.t=z.A3) (λ(k,v,z,x)=>(f.A0.Data+f.A0.Af).toNat-k) (0,_,z,_) bf ⟨(d_.au_pk 7),bj,bj,r_,N,η⟩ (λ(k,v,z,x) H a=>?_);obtain⟨a,hk,n_,h,N,e_⟩:=a;refine aW (aW ?_);have Y:ins I 0 (z.A0.A2+z.A0.A5-1)=true:=by rw[N];exact k_
  obtain⟨h_,v_,u_⟩:=h.dims Y;have i_:=bm h.hs;have w_:z.A0.Data=f.A0.Data/\z.A0.Af=f.A0.Af/\z.A0.A2=f.A0.A2/\z.A0.A5=f.A0.A5:=by rw[N];exact⟨Z,Z,Z,Z⟩
  obtain⟨H,c,d,e,f,j,m,o,p,q,s⟩:=a.openWT 2 Z;replace q:z.Ok:=q;have H:=cx q;obtain⟨H,a,c,d,e,f,j,m,o,A⟩:=bt (s.focusL 4 Z I.toNat ω);refine ge 0x9f3d2ff39f3ff137f916 A (λH=>?_) (λH=>?_)
  .obtain⟨H,a,c,d,e,f,j,m,p,q,s⟩:=Drive.focus A 7 Z k ω;refine aX 1339918675806 s ?_;refine sV Z (bR ie nn Z o I.toNat ω ω) (aX 2481918879 s ?_);refine mo aB ts4 s 7 0 Z (λH a=>?_);obtain⟨H,c⟩:=Drive.fill a 7 9 Z Z Z trivial;obtain⟨H,a⟩:=bt (c.fill 4 7 Z Z Z);obtain⟨H,c⟩:=bt (a.B0 2 4 5 6 ({z with A2:=z.A2.set I.toNat ((z.A2.getD I.toNat []).set k ⟨ã,((z.A2.getD I.toNat []).getD k à).Ai⟩)}:Wld) Z ((h.wipe h_ ω).Ok dv));refine aG 311651 ?_;have B:=c.B9 (a:=[Ab â [ak J g M] g O,rdR (Am tsb) U]) (λr w=>by simp only[aM,aQ,bB] at w;rcases w with rfl|rfl<;>simp);exact⟨(k+1,_,({z with A2:=z.A2.set I.toNat ((z.A2.getD I.toNat []).set k ⟨ã,((z.A2.getD I.toNat []).getD k à).Ai⟩)}:Wld),_),bf,⟨(B.au_pk 7),bj,bj,h.wipe h_ ω,N,e_⟩,bj⟩
  refine bu ?_;have f_:=h.wr;refine br 166973733 (λH=>?_) (λH=>?_)
  .refine eE (S:=A.S2 0 0) (oQ [1,3,5,6,9,11,12]) κ κ κ Z (λ_=>show A.S2 0 0 _ from Ext.refl.drawn _) (λH=>?_);have u:=A.drawn H;refine aX 191362351 A ?_;refine cb Z aB Z (pcK É Z) (bk (u.box 0 Z) (aJ (u.Ab 0 Z)) (u.B5 0 Z 0 Z) ω ω ω) (λhS _ _ r _=>A.s2Bx hS Z r.1) (λH a y=>?_);obtain⟨⟨D,E⟩,F,rfl,G⟩:=y;have H:=u.Ay 0 Z D E;refine aG 5436671 ?_;refine dm Z aB (o:=13) ts2 Z H 2 Z τ3 (λH a c=>aX 337584207 c ?_);refine bw aB (o:=0) ff Z c 1 Z (λH a c=>?_)
   replace c:=χ c
   replace c:=bt c;exact sA Z (aH (dY (hQ _ _ (mn Z Z (cm eC Z ff Z (At.whole (c.box 1 Z))) Z ⟨_,ω,⟨c.ext,c.box 0 Z⟩,mkV ({z with Stop:=(z.Aa+F)}:Wld) tsb,_,_,_,_,_,_,C,Z,dS h.hs⟩))))
  refine aX 1318702 A ?_;refine bw aB (o:=0) ff Z A 1 Z (λH a c=>?_)
  replace c:=χ c
  exact sA Z (aH (dY (hQ _ _ (mn Z Z (cm eC Z ff Z (At.whole (c.box 1 Z))) Z ⟨_,ω,⟨c.ext,c.box 0 Z⟩,mkV (⟨z.A0,z.A2,z.On,z.A3,z.Aa,z.Stop,z.Down⟩:Wld) tsb,_,_,_,_,_,_,C,Z,dS h.hs⟩))))
 have f_:=h.wr;refine br 2671579742 (λH=>?_) (λH=>?_)
 .obtain⟨H,a,c,d,e,f,j,m,o,p,q⟩:=l.openWT 2 Z;replace p:z.Ok:=p;refine eE (S:=q.S2 0 0) (oQ [1,3,5,6,9,11,12]) κ κ κ Z (λ_=>show q.S2 0 0 _ from Ext.refl.drawn _) (λH=>?_);have s:=q.drawn H;refine aX 191362351 q ?_;refine cb Z aB Z (pcK É Z) (bk (s.box 0 Z) (aJ (s.Ab 0 Z)) (s.B5 0 Z 0 Z) ω ω ω) (λhS _ _ r _=>q.s2Bx hS Z r.1) (λH a A=>?_);obtain⟨⟨I,b_⟩,K,rfl,L⟩:=A;have H:=s.Ay 0 Z I b_;refine aG 5436671 ?_;refine dm Z aB (o:=13) ts2 Z H 2 Z τ3 (λH a c=>?_);replace c:=bt c;refine aX 337584207 c ?_;refine bw aB (o:=0) ff Z c 1 Z (λH a c=>?_)
  replace c:=χ c
  exact sA Z (aH (dY (hQ _ _ (mn Z Z (cm eC Z ff Z (At.whole (c.box 1 Z))) Z ⟨_,ω,⟨c.ext,c.box 0 Z⟩,mkV ({z with Stop:=(z.Aa+K)}:Wld) tsb,_,_,_,_,_,_,C,Z,dS h.hs⟩))))
 obtain⟨H,a,c,d,e,f,j,m,o,p,q⟩:=l.openWT 2 Z;replace p:z.Ok:=p;refine aX 1318702 q ?_;refine bw aB (o:=0) ff Z q 1 Z (λH a c=>?_)
 replace c:=χ c
 exact sA Z (aH (dY (hQ _ _ (mn Z Z (cm eC Z ff Z (At.whole (c.box 1 Z))) Z ⟨_,ω,⟨c.ext,c.box 0 Z⟩,mkV (⟨z.A0,z.A2,z.On,z.A3,z.Aa,z.Stop,z.Down⟩:Wld) tsb,_,_,_,_,_,_,C,Z,dS h.hs⟩))))

end Go.Wk
namespace Go.Wk
open Rp (sz own)
variable {xs:List UInt8}{nm:ByteArray}{g:Int}
noncomputable def putA (z:Wld) (nm:ByteArray) (xs:List UInt8):Int × Wld:=if bU nm=0 then(puC z nm xs,puZ z nm xs) else(bU nm,z)
structure Dz (z:Wld):Prop where
  hs:z.A0.ok=ã
  gk:b7 z=ã
  tl:z.A3.length=2
  wr:0<=z.Aa/\z.Aa<=100000000
  st : -1<=z.Stop/\z.Stop<=100001000
section
variable {z:Wld}{W:Int}{a i:Nat}
theorem CD(h:bU nm=0):putA z nm xs=(puC z nm xs,puZ z nm xs):=ae h
theorem FU(h:bU nm≠0):putA z nm xs=(bU nm,z):=ac h
theorem Gw.putA(h:Gw W z):Gw (W+2) (putA z nm xs).2/\(Wk.putA z nm xs).2.A0=z.A0:=by
  by_cases q:bU nm=0
  · rw[CD q];exact h.put q
  · rw[FU q];exact⟨h.mono ω,rfl⟩
theorem Gw.new{s:A0}(h:s.ok=ã):Gw 10 (eM s):=Gw.of (EP h) rfl rfl (by show(0:Int)<=10;omega)
theorem Gw.dz(h:Gw W z)(H:W<=100000000):Dz z:=⟨h.hs,h.gk,h.tl,Du,by have:=h.st;omega⟩
theorem Dz.Ok(h:Dz z):z.Ok:=by
  have H:=h.wr
  have a:=h.st
  exact⟨jA h.hs,gQ,gQ⟩
theorem Dz.wipe(h:Dz z)(H:a<z.A2.length)(b:i<(z.A2.getD a []).length):Dz {z with A2:=z.A2.set a ((z.A2.getD a []).set i ⟨ã,((z.A2.getD a []).getD i à).Ai⟩)}:=by
  have d:=(fI h.gk).2 a H
  refine⟨h.hs,DN h.gk H ?_ rfl rfl,h.tl,h.wr,h.st⟩
  have k:=d.2 i b
  unfold fK
  rw[aU k.1]
  exact jn λj c=>k.2 j c
theorem Dz.dims(h:Dz z)(c:ins g 0 (z.A0.A2+z.A0.A5-1)=ã):g.toNat<z.A2.length/\(z.A2.length:Int)=z.A0.A2+z.A0.A5/\((z.A2.getD g.toNat []).length:Int)=z.A0.Data+z.A0.Af:=by
  have H:=fI h.gk
  have d:=bH.1 c
  have b:=H.1
  have a:g.toNat<z.A2.length:=by omega
  exact⟨a,b,(H.2 g.toNat a).1⟩
theorem Qn{s:A0}(h:s.ok=ã):(⟨s.A2,s.A5,s.Data,s.Af,s.Rows,s.Cap,s.An,s.Ao,400⟩:A0).ok=true:=by
  unfold A0.ok at h ⊢
  simp at h ⊢
  exact⟨h.1,dv⟩
end
def Nu (z:Wld):Prop:=∀r,r∈cI z->r.Kind=2->∃d∈cI z,d.Kind=3/\d.Seq=r.Seq/\d.Group=r.Group
section
variable {z y:Wld}{W:Int}{r:Rec}{a:Int}
theorem Nu.und(n:Nu z)(b:ins g 0 (z.A0.A2-1)=ã):TX z g=[]:=ċ.2 λr c=>by
  unfold sP
  rw[b]
  by_cases h:r.Kind=2
  · by_cases e:r.Group=g
    · obtain⟨d,a,H,s,G⟩:=n r c h
      have:(cI z).any (dnP r.Seq g)=true:=List.any_eq_true.2 ⟨d,a,by unfold dnP;simp[H,s,G,e]⟩
      simp[this]
    · simp[e]
  · simp[h]
theorem Nu.of(n:Nu z)(h:y.A3=z.A3):Nu y:=by
  have e:cI y=cI z:=by unfold cI allR;rw[h]
  unfold Nu;rw[e];exact n
theorem Gw.layM(h:Gw W z)(H:dI z=â):∀x,x∈cI (layZ z r)↔x∈cI z\/x=r:=λx=>by
  obtain⟨_,e⟩:=Gy (r:=r) h.tl h.st H
  rw[DE h.tl,DE (by rw[e];rfl),e]
  simp only[ŭ,ę,aI,aD]
  grind
theorem Nu.lay(n:Nu z)(h:Gw W z)(k:r.Kind≠2):Nu (layZ z r):=by
  cases f:dI z with
  | true=>rw[(iR f).2];exact n
  | false=>
    have m:=h.layM (r:=r) f
    intro x H a
    rcases(m x).1 H with H|rfl
    · obtain⟨d,b,q⟩:=n x H a
      exact⟨d,(m d).2 (.inl b),q⟩
    · exact absurd a k
theorem Nu.nx(n:Nu z)(h:Gw W z)(H:r.Kind≠2):Nu (nxZ z r):=by
  unfold nxZ;split
  · exact n
  · exact n.lay h H
theorem Nu.mw(n:Nu z)(h:Gw W z)(k:ins g 0 (z.A0.A2-1)=ã)(p:ins a 0 (z.A0.Rows-1)=ã)(H:(xs.length:Int)=z.A0.Data*4)(f:dP z g=â):Nu (mwP z g a xs).2:=by
  have S:=bm h.hs
  have F:=bH.1 k
  have l:ins g 0 (z.A0.A2+z.A0.A5-1)=true:=bH.2 ω
  have w:=l4 h.hs h.gk l p f
  have G:=lK h.seq
  by_cases c:1000000000<nxQ z\/eU z 2=ã
  · rw[tH c];exact n
  · have o:=uC ω k p H w
    obtain⟨E,A,D⟩:=jh (z:=z) (r:=cD z g a xs)
    have K:=h.lay o
    have b:eU z 2=false:=by simp_all
    have j:dI z=false:=by unfold eU at b;unfold dI;simp only[bz,aa] at b ⊢;omega
    obtain⟨C,e⟩:=Gy (r:=cD z g a xs) h.tl h.st j
    obtain⟨t,u,B,y⟩:=K.redo (g:=g) (r:=cD z g a xs) (by rw[E];exact l) (by rw[E];exact o) rfl
    rw[DY c C t]
    have v:dI (redoP (layZ z (cD z g a xs)) g (cD z g a xs)).2=false:=by
      unfold eU at b;unfold dI;rw[B,e]
      simp only[bz,aa,ŭ,ę,aO,È] at b ⊢;omega
    have M:=h.layM (r:=cD z g a xs) j
    have m:=u.layM (r:=kA (nxQ z) g) v
    have s:cI (redoP (layZ z (cD z g a xs)) g (cD z g a xs)).2=cI (layZ z (cD z g a xs)):=by unfold cI allR;rw[B]
    intro x H i
    rw[m,s,M] at H
    rcases H with (H|rfl)|rfl
    · obtain⟨d,f,q⟩:=n x H i
      exact⟨d,by rw[m,s,M];exact .inl (.inl f),q⟩
    · exact⟨kA (nxQ z) g,by rw[m];exact .inr rfl,rfl,rfl,rfl⟩
    · exact absurd i (by show ¬ (3:Int)=2;decide)
theorem Nu.mvs{s:A0}{rows:List Int}{N:Nat}(w:∀i,i<N->ins (rows.getD i 0) 0 (s.Rows-1)=ã)(d:ins g 0 (s.A2-1)=ã)(x:xs.length<=N*(s.Data*4).toNat):
    ∀ {n k:Nat}{z:Wld}{W:Int},k+n=N->z.A0=s->Gw W z->Nu z->dP z g=â->Nu (mvL g rows (s.Data*4).toNat N xs n k z).2
  | 0,_,z,W,_,e,h,n,_=>n
  | m+1,k,z,W,j,e,h,n,H=>by
    have S:=bm h.hs
    subst e
    have l:((im (z.A0.Data*4).toNat N xs k).length:Int)=z.A0.Data*4:=by rw[pB ω x];omega
    obtain⟨a,b⟩:=h.mw d (w k ω) l H
    have c:=h.mw_same d (w k ω) l H
    have f:=n.mw h d (w k ω) l H
    rw[mvL];split
    · exact Nu.mvs w d x (n:=m) (k:=k+1) ω b a f (by rw[c.dead];exact H)
    · exact f
theorem Nu.dsS(n:Nu z)(h:Gw W z):Nu (dsS z g).2:=by
  unfold Wk.dsS
  split
  · exact n
  · next H=>
    split
    · exact n
    · obtain⟨a,b,c⟩:=vK (z:=z) (g:=g) ω
      have d:=vq h.hs h.rc a b c
      have H:dP z g=false:=by simpa using H
      have p:=d.pn
      have f:ins g 0 (z.A0.A2-1)=true:=by rw[<- d.hm];exact rO h.hs
      obtain⟨T,t⟩:=u5 (z:=z) (g:=g) (n:=pnN z (nxR z g)) h.hs
      have m:((iZ z g).take (pnN z (nxR z g))).length=pnN z (nxR z g):=d.rw_
      have e:∀i,i<pnN z (nxR z g)->ins ((du z g (nxR z g)).getD i 0) 0 (z.A0.Rows-1)=true:=λi l=>t i ω
      have j:=Gw.mvs (s:=z.A0) (xs:=(nxR z g).Data) e f d.fx (n:=pnN z (nxR z g)) (k:=0) ω rfl h H
      have N:=Nu.mvs (s:=z.A0) (xs:=(nxR z g).Data) e f d.fx (n:=pnN z (nxR z g)) (k:=0) ω rfl h n H
      unfold Wk.dsP
      split
      · exact n
      · split
        · exact N
        · exact N.nx j.1 (show ¬ (1:Int)=2 by decide)
theorem Nu.putA(n:Nu z)(h:Gw W z):Nu (putA z nm xs).2:=by
  by_cases q:bU nm=0
  · rw[CD q]
    show Nu (puZ z nm xs)
    unfold puZ
    split
    · exact n
    · split
      · exact n
      · exact n.nx h (show ¬ (1:Int)=2 by decide)
  · rw[FU q];exact n
theorem Nu.new{s:A0}(H:(eM s).A3.length=2):Nu (eM s):=λr h=>by
  rw[DE H] at h
  have:∀i,((eM s).A3.getD i à).Ah=[]:=λi=>by
    unfold eM
    rcases i with _|_|i<;>rfl
  rw[this,this] at h
  simp at h
end
end Go.Wk
namespace Go.Wk
open Go.Proofs Rp Go.Proofs.Tryz
set_option maxRecDepth 10000
theorem vT{w:ä}{G C A B:Nat}{z:Wld}{y u x:Option ô}{O N D:List Nat}{g:Int}(M:w.heap[G]? = á (ay z y C u A x B))(P:z.Ok)(F:ah w y z.A2 C O)(E:ah w u z.On A N)(r:ah w x z.A3 B D)(q:c7 z=0)(I:ins g 0 (z.A0.A2-1)=ã)(L:TX z g=[]):am 60 [au G,ag g] w λv Y=>v = ag 0:=by
 have H:=cx P;have H:=oL F;have H:=oL E;have H:=oL r;have K:=(c5 q).1;have R:=(c5 q).2.1;have T:=(c5 q).2.2.2.1;have J:=nF q;have X:=bm K;have V:=bH.1 I;have H:ins g 0 (z.A0.A2+z.A0.A5-1)=true:=bH.2 ω;have U:=jY (z:=z) T J;refine bv func60 Z (λQ s S=>?_);have H:=Sep.start (dc M (aC F (aC E (aC r ba))));refine aX 0x1d37f9926f112542 H ?_;refine cU 3 (j:=7) (E:=ã) (t:=17) Z (λa b=>bc (wgE Z a) Z (bL Z) (bc (wgE Z a) Z (bL Z) (fD (wgE Z a) Z (pcK func99 Z) (nA (H.Bd 0 Z) η (H.Ae 1 Z) (H.Ae 2 Z) (H.Ae 3 Z) η η η) (λa c=>b _ _ gP Z (Ext.refl.trans c))))) (λa b=>?_);have a:=H.to b;refine br 11481935 (λH=>?_) (λH=>?_)
 .exact aT (sA Z (aH (rT s Z ⟨a.ext,Z⟩)))
 refine bi (aW (ep a (oQ [1,3,5,7,9,13,10,14,16]) (λH a=>aX 0xbb66f52f4afb a ?_)));refine dC func78 Z (gt (a.Bd 0 Z) η (aJ (a.Ab 1 Z)) (aJ (a.Ab 2 Z)) (aJ (a.Ab 3 Z)) ξ ξ) (λH b c=>?_);obtain⟨H,d,c,e,h⟩:=c;obtain⟨b,i⟩:=a.res H c;obtain⟨H,a,l⟩:=aL (i.A4 0 Z);cases l;have H:d.length=(cI z).length:=by rw[<- h,aS]
 have H:=jY (z:=z) ξ η;have H:RdV w D d:=e.back i.ext (Rp.lt r);refine dC func100 Z (xq (z:=z) (X:=cI z) (V:=d) (i.As 0 Z) (H.to i.ext) h ω ω) (λH a b=>?_);obtain⟨H,m,b,a,n,c⟩:=b;obtain⟨a,o⟩:=i.res H b;obtain⟨H,a,p⟩:=aL (o.A4 1 Z);cases p;have H:m.length=(TX z g).length:=by rw[<- aS (f:=Ac.r),n];rfl
 refine dD Z aB Z (cr Z) (dO (aW (aW ?_)));have H:m.length=0:=by rw[<- aS (f:=Ac.r),n];exact congrArg List.length L
 refine ce (sA Z (aH (bP (dr (a:=Nat) o [(0,_),(1,_),(5,_)] bf (λk=>[(6,ag k)]) (λk=>k=0/\True) (λk=>0) 0 ⟨Z,trivial⟩ ⟨ω,trivial⟩ (λk H a ⟨W,_⟩=>?_)))));dsimp only[jf,lNA];refine br 0x9f3d2ff1125 (λH=>?_) (λH=>?_)
 .exact absurd H ω
 exact bu (aT (sA Z (aH (rT s Z ⟨a.ext,Z⟩))))

end Go.Wk
namespace Go.Wk
open Go.Proofs Rp Go.Proofs.Tryz
set_option maxRecDepth 10000
variable {E:Option ô}{O:List Nat}{Q T:List UInt8}{z:Wld}{G R n:Nat}{N:List Ac}{J:Nat->ä->Prop}{g:Int}
theorem uD{w:ä}{n:ByteArray}{X:List Nat}(o:OwnW w R 31 z O)(N:O.Nodup)(a:ah w E T G X)(x:∀b∈X,b ∉ O)(h:Gw 100000000 z)(c:n.size<=9)(H:T.length<=1048576):Ret ê 38 #[au R,.string n,ak E T G] w λv W=>(v = ag (putA z n T).1/\MutW w W O R 31 ((putA z n T).2)):=by
 by_cases q:bU n=0
 .rw[CD q];exact qJ o N a x q (h.world dv) h.dn ⟨by have:=h.recs;omega,by have:=h.recs;omega⟩ h.hs h.seq h.tl h.all (by have:=h.wr;omega) (rH q) H (by have:=h.sz;omega)
 rw[FU q];exact tQ o N a x q ω

theorem vV{w:ä}{s:A0}(f:s.few):am 65 [s.v] w λv W=>v = ag (s.A2+s.A5):=by
 unfold A0.few at f;refine bv ğ Z (λQ h N=>?_);have H:=Sep.start (w:=w) (F:=[]) σ;refine aT (ci aB Z H (λH a b c d=>aX 83803288107300 d ?_));exact rT h Z ⟨d.ext,Z⟩

theorem υ {p:Prop}(h:p:=by exact λ_ hb=>by rw[hb];exact List.mem_cons_self ..):p:=h
theorem yh{w:ä}{N:Option ô}{O b:Nat}{cF:List Nat}{y:Int}(hb:w.heap[b]? = á (az N Q O y))(cO:ah w N Q O cF)(R:∀x∈cF,x≠b)(N_:0<=y/\y<=60000)(M_:Q.length<=1048576):Ret ê 27 #[au b] w λJ_ W=>(∃u_:Int,(y<=u_/\u_<=y+7000)/\BoxTo w W b (az N Q O u_)/\∃(s:A0) (A9:Option ô) (n9 C9:Nat) (e_:Option ô) (i_ g_:Nat) (f_:Option ô) (j_ h_:Nat) (b_ c_:Int) (d_:Bool) (g:Int),J_ = .tuple #[.agg #[ag s.A2,ag s.A5,ag s.Data,ag s.Af,ag s.Rows,ag s.Cap,ag s.An,ag s.Ao,ag s.Ap,.slice A9 n9 C9,.slice e_ i_ g_,.slice f_ j_ h_,ag b_,ag c_,.bool d_],ag g]):=by
 refine bv func27 Z (λL_ hQ hN=>?_);have H:=(Sep.beginBox hb).look (r:=Ab â [ak N Q O] Q cF) cO (λx X hm=>R x X km);refine aT (cz aB Z Ç H (λa H c d f=>sA Z (aH (aT (sM Z (sC func56 Z (mc (f.box 0 Z) (aJ (f.Ab 0 Z)) (f.B5 0 Z 0 Z) ω ω) (λH c l=>?_)))))));obtain⟨m,o,⟨p,q⟩,t,rfl,u⟩:=l;have A:=f.Ay 0 Z p q;refine sC func58 Z (mY (by first|assumption|exact jA η) η) (λH c B=>?_);obtain⟨C,D,E,F,G,I,J,rfl,B⟩:=B;obtain⟨H,c⟩:=A.res C B;obtain⟨H,d,f,l,m,o,p,q⟩:=iC (c.A4 2 Z);have m:=c.part 2 Z [A4 [.slice _ (⟨0,eM t⟩:WldResult).Wd.A2.length _] (⟨0,eM t⟩:WldResult).Wd.A2 H,A4 [.slice _ (⟨0,eM t⟩:WldResult).Wd.On.length _] (⟨0,eM t⟩:WldResult).Wd.On d,A4 [.slice _ (⟨0,eM t⟩:WldResult).Wd.A3.length _] (⟨0,eM t⟩:WldResult).Wd.A3 f] (all_cons o (all_cons p (all_cons q σ))) (by simp[blocks,A4,l]);refine sV Z (Gv Eu Z eC ff Z Z) (cz aB Z Ç m (λH c d f l=>bw aB (o:=0) ff Z l 6 Z (λc d f=>?_)))
 replace f:=χ f
 refine aG 39203 ?_;refine cL aB (o:=8) ts2 Z f 6 Z (λc d f=>?_);replace f:=bt f;have c:(⟨t.A2,t.A5,t.Data,t.Af,t.Rows,t.Cap,t.An,t.Ao,400⟩:A0).ok=true:=Qn u;obtain⟨d,l⟩:=f.Ar 6 3 4 5 (eM (⟨t.A2,t.A5,t.Data,t.Af,t.Rows,t.Cap,t.An,t.Ao,400⟩:A0)) Z (tD (jA c));obtain⟨d,f⟩:∃z,z=eM (⟨t.A2,t.A5,t.Data,t.Af,t.Rows,t.Cap,t.An,t.Ao,400⟩:A0):=⟨_,Z⟩;rw[<- f] at l;refine aH (aW (aW ?_));have m:Gw 10 d:=by rw[f];exact Gw.new c
 have c:Nu d:=by rw[f];exact Nu.new (by rw[<- f];exact m.tl)
 have v:=m.hs;have R_:=bm v;refine ce (sM Z (cY l Z É Z (bk · · · ω ω ω) (λf l o p q=>sA Z (aH (bP (cp (j:=Int × Int × Wld × List Nat) (λ(n,h,z,L)=>[(0,au b),(2,au a),(4,au H),(5,ag n)]) (λ(n,h,z,L) W=>Sep (· = b) w [box b (az N Q O h),box a ao,Bf H 31 z L] [Ab â [ak N Q O] Q cF] W/\(0<=n/\n<=6)/\(y<=h/\h<=y+20+200*(6-n))/\Gw (10+4300000*(6-n)) z/\z.A0=d.A0/\Nu z) (λ(n,h,z,L)=>n.toNat) (f,_,d,_) bf ⟨(p.au_pk 67),bj,bj,m.mono bj,Z,c⟩ (λ(n,h,z,L) c m=>?_)))))));obtain⟨m,hn,w_,P,M,z_⟩:=m;refine br 166973733 (λc=>?_) (λc=>?_)
 .have v:z.A0.ok=true:=P.hs;have o_:=bm v;have G_:=P.mono (V:=100000000) ω;refine bi (aW (bP (aT (sM Z (cY m Z Ħ Z (cE · · · ω ω ω) (λc f l t o=>aH (l9 Z (λc=>?_) (λc=>?_))))))))
  .obtain⟨c,f,l,o,p,q,u,A,B,C,D⟩:=t.B3 2 Z;replace D:=bt D;refine aX 58693906 D ?_;refine cY D Z É Z (bk · · · ω ω ω) (λE c f l o=>sA Z (aH (aT (sM Z (eY ([E]) aB Z cS bV Z fF σ σ l (λc f l o p=>sF eC Z eF (cL aB (o:=10) eF Z p 2 Z (λc f l=>?_))))))));obtain⟨c,f⟩:=l.Ar 2 4 7 6 ({z with On:=[E]}:Wld) Z C;have c:ins E 0 (z.A0.A2+z.A0.A5-1)=true:=bH.2 ω;have a_:Gw (10+4300000*(6-n)) ({z with On:=[E]}:Wld):=P.setOn c;obtain⟨zo,n_⟩:∃K_,K_=({z with On:=[E]}:Wld):=⟨_,Z⟩;have A_:zo.A0=z.A0:=by rw[n_]
   rw[<- n_] at a_;rw[<- A_] at c;have c:=a_.world ω;refine aH (aW ?_);have F:fY zo<=1048576:=by have:=a_.sz;omega
   have c:=a_.dn;have D_:Nu zo:=z_.of (by rw[n_]);have c:ins E 0 (zo.A0.A2-1)=true:=by rw[A_];exact bH.2 ω
   have l:=D_.und c;rw[<- n_] at f;obtain⟨c,l,o,p,q,u,A,B,C,D,G⟩:=bt (f.B3 2 Z);refine ce (sM Z (sE func60 Z (vT (G.box 2 Z) η (aJ (G.A4 9 Z)) (aJ (G.A4 10 Z)) (aJ (G.A4 11 Z)) ξ ξ ξ) G (λc f l=>?_)));obtain⟨c,I⟩:=l.Ar 2 9 10 11 zo Z D;have c:Gw 100000000 zo:=a_.mono ω;have C_:=a_.dsS (g:=E);refine aH (ce (sM Z (sC func61 Z (vU (I.B1 2 Z) (I.Aj (i:=2) Z) ξ ξ) (λc f J=>?_))));obtain⟨rfl,K⟩:=J;obtain⟨c,f⟩:=I.Bb 2 Z K;refine aG 70054243 ?_;exact⟨(n-1,_,(dsS zo E).2,_),bf,⟨(f.au_pk 7),bj,bj,C_.1.mono bj,C_.2.trans (A_.trans M),D_.dsS a_⟩,bj⟩
  have G_:=P.mono (V:=100000000) ω;have v:z.A0.ok=true:=P.hs;have o_:=bm v;obtain⟨c,f,l,o,p,q,u,A,B,E,C⟩:=t.B3 2 Z;have c:=cx E;refine eE (S:=λ_=>True) (oQ [1,5,7,9,2016,2,10,12,15,16,19,20,22,10,2,12,15,16,19,20,22]) κ κ κ Z (λ_=>trivial) (λc=>?_);have t:=C.drawn c;refine aG 5438395 ?_;refine dF Z ?_ ?_
  .refine cb Z aB Z (pcK func62 Z) (kO (t.box 0 Z) (aJ (t.Ab 0 Z)) (t.B5 0 Z 0 Z) ω ω) τ4 (λc f k_=>?_);obtain⟨p_,l_,⟨q_,B_⟩,r_,rfl,E_⟩:=k_;have s_:=bt (t.Ay 0 Z q_ B_);refine aX 2223 s_ ?_;refine cb Z aB Z (pcK œ Z) (fB η) τ4 (λc f t_=>?_);obtain⟨Y,rfl⟩:=t_;have H':=s_.to Y;refine dV Z υ6 (cb Z aB Z (pcK É Z) (bk (H'.box 0 Z) (aJ (H'.Ab 0 Z)) (H'.B5 0 Z 0 Z) ω ω ω) τ4 (λc f a'=>?_));obtain⟨⟨b',c'⟩,d',rfl,e'⟩:=a';have f':=H'.Ay 0 Z b' c';refine dV Z (λzw X=>jr Z Z iO) (cb Z aB Z (pcK ű Z) (eO (f'.box 0 Z) (aJ (f'.Ab 0 Z)) (f'.B5 0 Z 0 Z) ω ω ⟨(bQ ω).symm,ω⟩) τ4 (λc f g'=>?_));obtain⟨h',i',⟨j',k'⟩,l',m',n',rfl,o',p'⟩:=g';obtain⟨c,f⟩:=f'.resBox 0 Z j' k' p';obtain⟨c,q'⟩:=f.Ar 2 4 5 6 z Z E;refine cb Z aB Z (pcK func38 Z) (uD (q'.B1 2 Z) (q'.Aj (i:=2) Z) (aJ (q'.A4 7 Z)) (λb hb=>q'.apart (i:=2) (j:=7) Z Z Z b hb) ξ ξ ξ) τ4 (λb_ c r'=>?_);obtain⟨rfl,s'⟩:=r';obtain⟨c,f⟩:=bt (q'.Bb 2 Z s');have m_:=P.putA (nm:=r_) (xs:=l');refine aG 17933885519 ?_;exact⟨(n-1,_,(putA z r_ l').2,_),bf,⟨(f.au_pk 7),bj,bj,m_.1.mono bj,m_.2.trans M,z_.putA P⟩,bj⟩
  refine aX 2223 t ?_;refine cb Z aB Z (pcK func62 Z) (kO (t.box 0 Z) (aJ (t.Ab 0 Z)) (t.B5 0 Z 0 Z) ω ω) τ4 (λc_ c D=>?_);obtain⟨G,I,⟨J,K⟩,t',rfl,u'⟩:=D;have v':=t.Ay 0 Z J K;refine cb Z aB Z (pcK œ Z) (fB η) τ4 (λd_ c x'=>?_);obtain⟨y',rfl⟩:=x';have z':=v'.to y';refine dV Z υ6 (cb Z aB Z (pcK É Z) (bk (z'.box 0 Z) (aJ (z'.Ab 0 Z)) (z'.B5 0 Z 0 Z) ω ω ω) τ4 (λc f A'=>?_));obtain⟨⟨B',F⟩,C',rfl,D'⟩:=A';have l:=z'.Ay 0 Z B' F;refine dV Z (λzw X=>jr Z Z iO) (cb Z aB Z (pcK ű Z) (eO (l.box 0 Z) (aJ (l.Ab 0 Z)) (l.B5 0 Z 0 Z) ω ω ⟨(bQ ω).symm,ω⟩) τ4 (λc f o=>?_));obtain⟨p,q,⟨u,A⟩,B,C,F,rfl,E',F'⟩:=o;obtain⟨c,f⟩:=l.resBox 0 Z u A F';obtain⟨c,t⟩:=bt (f.Ar 2 4 5 6 z Z E);refine cb Z aB Z (pcK func38 Z) (uD (t.B1 2 Z) (t.Aj (i:=2) Z) (aJ (t.A4 7 Z)) (λb hb=>t.apart (i:=2) (j:=7) Z Z Z b hb) ξ ξ ξ) τ4 (λc f E=>?_);obtain⟨rfl,G'⟩:=E;obtain⟨c,f⟩:=t.Bb 2 Z G';have m_:=P.putA (nm:=t') (xs:=B);refine aG 17933885519 ?_;exact⟨(n-1,_,(putA z t' B).2,_),bf,⟨(f.au_pk 7),bj,bj,m_.1.mono bj,m_.2.trans M,z_.putA P⟩,bj⟩
 refine bu ?_;have v:z.A0.ok=true:=P.hs;have o_:=bm v;obtain⟨c,f,l,o,p,q,t,u,A,B,C⟩:=m.B3 2 Z;refine aX 58693906 C ?_;refine cY C Z É Z (bk · · · ω ω ω) (λm c f l o=>?_);have Q_:=P.wr;have U:Dz z:=P.dz ω;refine sA Z (aH (aW ?_));have D:ins m 0 (d.A0.A2+d.A0.A5-1)=true:=by rw[<- M];exact bH.2 ω
 refine ce (sM Z (eY ([m]) aB Z cS bV Z fF σ σ l (λc f l o p=>sF eC Z eF (cL aB (o:=10) eF Z p 2 Z (λc f l=>?_)))));replace l:=bt l;refine aH (tT (c:=Int × Wld × List Nat) (λ(h,z,L)=>[(0,au b),(2,au a),(4,au H),(7,ag m)]) (λ(h,z,L) W=>Sep (· = b) w [box b (az N Q O h),box a ao,Bf H 31 z L] [Ab â [ak N Q O] Q cF] W/\(y<=h/\h<=y+1300)/\Dz z/\z.A0=d.A0) ?_ (λ(h,z,L) c G=>?_))
 .refine aT (sM Z (cY l Z Ħ Z (cE · · · ω ω ω) (λc f l I o=>aH (l9 Z (λc=>?_) (λc=>?_)))))
  .refine eE (S:=I.S2 0 0) (oQ [1,3,5,6,9,11,12]) κ κ κ Z (λ_=>show I.S2 0 0 _ from Ext.refl.drawn _) (λc=>?_);have J:=I.drawn c;refine aX 191362351 I ?_;refine cb Z aB Z (pcK É Z) (bk (J.box 0 Z) (aJ (J.Ab 0 Z)) (J.B5 0 Z 0 Z) ω ω ω) (λhS _ _ r _=>I.s2Bx hS Z r.1) (λc f K=>?_);obtain⟨⟨k_,p_⟩,l_,rfl,q_⟩:=K;have c:=J.Ay 0 Z k_ p_;refine aG 5436671 ?_;refine dm Z aB (o:=13) ts2 Z c 2 Z τ3 (λc f l=>dO ?_);have c:Dz ({z with On:=[m],Stop:=(z.Aa+l_)}:Wld):=⟨U.hs,(jv (z:=z) Z Z).trans U.gk,U.tl,U.wr,by have f:=U.st;(try dsimp only);omega⟩;obtain⟨o,p⟩:=bt (l.Ar 2 4 7 6 ({z with On:=[m],Stop:=(z.Aa+l_)}:Wld) Z c.Ok);exact⟨(_,({z with On:=[m],Stop:=(z.Aa+l_)}:Wld),_),bf,(p.au_pk 7),ω,c,M⟩
  refine bi ?_;have c:Dz ({z with On:=[m]}:Wld):=⟨U.hs,(jv (z:=z) Z Z).trans U.gk,U.tl,U.wr,by have f:=U.st;(try dsimp only);omega⟩;obtain⟨f,l⟩:=I.Ar 2 4 7 6 ({z with On:=[m]}:Wld) Z c.Ok;exact⟨(_,({z with On:=[m]}:Wld),_),bf,(l.au_pk 7),ω,c,M⟩
 obtain⟨G,w_,R,M⟩:=G;refine tT (c:=Int × A0 × (Option ô × Nat × Nat) × (Option ô × Nat × Nat) × (Option ô × Nat × Nat) × Int × Int × Bool) (λ(h,s,(A9,n9,C9),(e_,i_,g_),(f_,j_,h_),b_,c_,d_)=>[(0,au b),(2,au a),(4,au H),(7,ag m)]) (λ(h,s,(A9,n9,C9),(e_,i_,g_),(f_,j_,h_),b_,c_,d_) W=>Sep (· = b) w [box b (az N Q O h),box a ao,box H (.cells [ag s.A2,ag s.A5,ag s.Data,ag s.Af,ag s.Rows,ag s.Cap,ag s.An,ag s.Ao,ag s.Ap,.slice A9 n9 C9,.slice e_ i_ g_,.slice f_ j_ h_,ag b_,ag c_,.bool d_].toArray 31)] [Ab â [ak N Q O] Q cF] W/\(y<=h/\h<=y+6900)/\s.few) ?_ (λ(h,s,(A9,n9,C9),(e_,i_,g_),(f_,j_,h_),b_,c_,d_) c f=>?_)
 .have v:z.A0.ok=true:=R.hs;have o_:=bm v;refine aW ?_;have y_:ins m 0 (z.A0.A2+z.A0.A5-1)=true:=by rw[M];exact D
  obtain⟨x_,I_,H_⟩:=R.dims y_;refine ce (sM Z (cY G Z É Z (bk · · · ω ω ω) (λc l o p q=>br 42762110707 (λc=>?_) (λc=>?_))))
  .obtain⟨c,l,o,q,t,u,A,B,C,E,F⟩:=p.B3 2 Z;refine ce (sF eC Z eF (cL aB (o:=10) eF Z F 2 Z (λc l o=>?_)));replace o:=bt o;exact aH ⟨(_,z.A0,(_,_,_),(_,_,_),(_,_,_),_,_,_),bf,(o.au_pk 7),ω,(dS v)⟩
  refine br 652498 (λc=>?_) (λc=>?_)
  .refine aT (sA Z (aH (bP (cp (j:=Nat × Int × Wld × List Nat) (λ(k,h,z,L)=>[(0,au b),(2,au a),(4,au H),(7,ag m),(8,ag k)]) (λ(k,h,z,L) W=>Sep (· = b) w [box b (az N Q O h),box a ao,Bf H 31 z L] [Ab â [ak N Q O] Q cF] W/\(k:Int)<=d.A0.Data+d.A0.Af/\(y<=h/\h<=y+1310)/\Dz z/\z.A0=d.A0) (λ(k,h,z,L)=>(d.A0.Data+d.A0.Af).toNat-k) (0,_,z,_) bf ⟨(p.au_pk 7),bj,bj,R,M⟩ (λ(k,h,z,L) H a=>?_)))));obtain⟨a,hk,w_,R,M⟩:=a;refine aW (aW ?_);have y_:ins m 0 (z.A0.A2+z.A0.A5-1)=true:=by rw[M];exact D
   obtain⟨x_,I_,H_⟩:=R.dims y_;have v:z.A0.ok=true:=R.hs;have o_:=bm v;have O_:z.A0.Data=d.A0.Data/\z.A0.Af=d.A0.Af:=by rw[M];exact⟨Z,Z⟩
   obtain⟨H,c,d,l,o,q,t,u,A,B,C⟩:=a.B3 2 Z;obtain⟨H,a,c,d,l,o,q,t,u,A⟩:=C.focusL 4 Z m.toNat ω;refine ge 0x9f3d2ff39f3ff137f916 A (λH=>?_) (λH=>?_)
   .obtain⟨H,a,c,d,l,o,q,t,B,C,D⟩:=Drive.focus A 7 Z k ω;refine aX 1339918675806 D ?_;refine sV Z (bR ie nn Z u m.toNat ω ω) (aX 2481918879 D ?_);refine mo aB ts4 D 7 0 Z (λH a=>?_);replace a:=bt a;obtain⟨H,c⟩:=Drive.fill a 7 9 Z Z Z trivial;obtain⟨H,a⟩:=c.fill 4 7 Z Z Z;obtain⟨H,c⟩:=a.Ar 2 4 5 6 ({z with A2:=z.A2.set m.toNat ((z.A2.getD m.toNat []).set k ⟨ã,((z.A2.getD m.toNat []).getD k à).Ai⟩)}:Wld) Z (R.wipe x_ ω).Ok;refine aG 311651 ?_;exact⟨(k+1,_,({z with A2:=z.A2.set m.toNat ((z.A2.getD m.toNat []).set k ⟨ã,((z.A2.getD m.toNat []).getD k à).Ai⟩)}:Wld),_),bf,⟨(c.au_pk 7),bj,bj,R.wipe x_ ω,M⟩,bj⟩
   exact bu ⟨(_,z.A0,(_,_,_),(_,_,_),(_,_,_),_,_,_),bf,(A.au_pk 7),ω,(dS v)⟩
  refine br 652498 (λH=>?_) (λH=>?_)
  .obtain⟨H,a,c,d,l,o,q,t,u,A,B⟩:=p.B3 2 Z;replace B:=bt B;obtain⟨H,a,c,d,l,o,q,t,u,A⟩:=B.focusL 4 Z m.toNat ω;obtain⟨H,a,c,d,l,o,q,t,B,C,D⟩:=Drive.focus A 7 Z 0 ω;refine aX 1277846 D ?_;refine sV Z (bR ie nn Z u m.toNat ω ω) (aX 155186079 D ?_);exact mo aB ts4 D 7 0 Z (λH a=>aH ⟨(_,z.A0,(_,_,_),(_,_,_),(_,_,_),_,_,_),bf,(a.au_pk 7),ω,(dS v)⟩)
  refine br 652498 (λH=>?_) (λH=>?_)
  .obtain⟨H,a,c,d,l,o,q,t,u,A,B⟩:=p.B3 2 Z;replace B:=bt B;refine ce (sM Z (eY ([20,0,401]) aB Z cS bV Z fF σ σ B (λH a c d l=>cY l Z Ă Z (bW · · · ω ω (aJ (l.A4 7 Z)) (λx X e=>l.apart (i:=0) (j:=7) Z Z Z x X gR) σ) (λH a c d l=>?_))))
   replace l:=ψ l
   have a:=d.conv 7 gone Z trivial df df;have c:0<=H/\H<=401:=by omega
   clear l
   refine sF eC Z lZ (sF kB Z ts2 (cL aB (o:=8) ts2 Z a 2 Z (λa c d=>aH ?_)));exact⟨(_,(⟨z.A0.A2,z.A0.A5,z.A0.Data,z.A0.Af,z.A0.Rows,z.A0.Cap,z.A0.An,z.A0.Ao,H⟩:A0),(_,_,_),(_,_,_),(_,_,_),_,_,_),bf,(d.au_pk 7),ω,(by have hf:=dS v;unfold A0.few at hf ⊢;dsimp only;omega)⟩
  refine br 652498 (λH=>?_) (λH=>?_)
  .obtain⟨H,a,c,d,l,o,q,t,u,A,E⟩:=p.B3 2 Z;replace E:=bt E;refine ce (sM Z (sC func64 Z (ym (E.box 0 Z) (aJ (E.Ab 0 Z)) (E.B5 0 Z 0 Z) ω ω) (λH a F=>?_)));obtain⟨G,I,⟨J,K⟩,k_,p_,l_,q_,B_,r_,E_,s_,rfl,t_⟩:=F;have H:=E.Ay 0 Z J K;refine sR 3 Z (bw aB (o:=0) ff Z H 2 Z (λH a c=>?_))
   replace c:=χ c
   refine aH ?_;exact⟨(_,k_.A0,(_,_,_),(_,_,_),(_,_,_),_,_,_),bf,(c.au_pk 7),ω,t_⟩
  refine br 652498 (λH=>?_) (λH=>?_)
  .have P_:=R.tl;obtain⟨H,a,c,d,l,o,q,t,u,A,B⟩:=p.B3 2 Z;refine eE (S:=B.S2 0 0) (oQ [1,3,5,9,6,11,12]) κ κ κ Z (λ_=>show B.S2 0 0 _ from Ext.refl.drawn _) (λH=>?_);have Y:=B.drawn H;refine aX 191362351 B ?_;refine dV Z (λzw X=>bM u6 Z Z) (cb Z aB Z (pcK É Z) (bk (Y.box 0 Z) (aJ (Y.Ab 0 Z)) (Y.B5 0 Z 0 Z) ω ω ω) (λhS _ _ r _=>B.s2Bx hS Z r.1) (λH a H'=>?_));obtain⟨⟨a',b'⟩,c',rfl,d'⟩:=H';have H:=bt (Y.Ay 0 Z a' b');obtain⟨a,c,d⟩:=gq (Y.A4 6 Z) c'.toNat ω;have a:=H.mineNil [.bool ã,.slice ç 0 0] (⟨ã,[]⟩:Tape) (λw=>Tape.own_mk (x:=⟨ã,[]⟩) trivial (.inr (.inl ⟨Z,Z,Z⟩)));refine aG 1599 ?_;exact l8 Z aB yS a 6 7 Z Z Z c'.toNat ω Z d Z (λH a c=>dO ⟨(_,z.A0,(_,_,_),(_,_,_),(_,_,_),_,_,_),bf,(c.au_pk 7),ω,(dS v)⟩)
  obtain⟨H,a,c,d,l,o,q,t,u,A,B⟩:=p.B3 2 Z;have H:=cx A;have H:=oL (B.A4 4 Z);have H:=oL (B.A4 5 Z);have H:=oL (B.A4 6 Z);exact bi ⟨(_,z.A0,(_,_,_),(_,_,_),(_,_,_),_,_,_),bf,(B.au_pk 7),ω,(dS v)⟩
 obtain⟨f,w_,F_⟩:=f;have hf:=F_;unfold A0.few at hf;refine aW (eE (S:=f.S2 0 1) (oQ [1,3,5,7,9,11,13,15,17,19,21,23,25,27,28,30,32,34,36]) κ κ κ Z (λ_=>show f.S2 0 1 _ from Ext.refl.drawn _) (λH=>?_));have p:=f.drawn H;refine aX 0x69f52f67f52f52fbbbbbbbb68f f ?_;refine cb Z aB Z (pcK ğ Z) (vV η) (λhS _ _ r _=>f.s2Call hS r.1) (λH a C=>?_);obtain⟨D,rfl⟩:=C;have H:=p.to D;refine sJ ([m,m,m,m,m,m,m,-1,s.A2,(s.A2+s.A5)]) Z aB Z cS bV Z Z fF σ σ H (λ_ v_ e=>f.s2Call v_ e) (λH a c d m=>cb Z aB Z (pcK Ă Z) (bW (m.box 0 Z) (aJ (m.Ab 0 Z)) (m.B5 0 Z 0 Z) ω ω (aJ (m.A4 3 Z)) (λx X e=>m.apart (i:=0) (j:=3) Z Z Z x X gR) σ) (λhS _ _ r _=>f.s2Bx hS Z r.1) (λH a E=>?_));obtain⟨⟨e',f'⟩,g',rfl,h'⟩:=E;have H:=bt (m.Ay 0 Z e' f')
 replace h':=ψ h'
 have a:=H.conv 3 gone Z trivial df df;refine lI Z aB (o:=0) ff Z a 1 Z Z (λ_ v_ e _=>f.s2In v_ 1 Z (.inr Z) e υ) (λH a c=>?_)
 replace c:=χ c
 refine dD Z aB Z (cr Z) (dO (dY (hQ _ _ (mn Z Z (cm eC Z ff Z (At.whole (c.box 1 Z))) Z ?_))));exact⟨_,ω,⟨c.ext,c.box 0 Z⟩,s,A9,n9,C9,e_,i_,g_,f_,j_,h_,b_,c_,d_,_,Z⟩

theorem t7{w:ä}{t:Option ô}{v:Nat}(i_:aj w t Q v)(A_:Q.length<=1048576):am 8 [ak t Q v] w λr_ w'=>∃(s:A0) (O:Option ô) (n9 W:Nat) (M:Option ô) (m_ U:Nat) (N:Option ô) (n_ V:Nat) (s_ t_:Int) (u_:Bool) (x:ByteArray) (y:List UInt8) (A:Option ô) (C:Nat),r_ = .tuple #[.agg #[ag s.A2,ag s.A5,ag s.Data,ag s.Af,ag s.Rows,ag s.Cap,ag s.An,ag s.Ao,ag s.Ap,.slice O n9 W,.slice M m_ U,.slice N n_ V,ag s_,ag t_,.bool u_],.string x,ak A y C]/\x.size<=9/\y.length<=40/\Res w w' [ak A y C] y:=by
 obtain⟨codeF,h_⟩:=i_;refine bv func8 Z (λx_ hQ hN=>?_);have H:=Sep.start (aC h_ ba);refine aT (cz aB Z Ç H (λH a b c d=>aG 4679 ?_));refine sC func19 Z (pJ (d.Ae 0 Z)) (λH a j_=>?_);obtain⟨g,B_,rfl,k_,l_⟩:=j_;have n:=d.newBox g k_ l_;refine sA Z (aH (aT (sM Z (sC func27 Z (yh (n.box 1 Z) (aJ (n.Ab 0 Z)) (n.B5 0 Z 1 Z) ω ω) (λH a o_=>?_)))));obtain⟨C_,D_,⟨q_,v_⟩,z,B,D,E,F,G,I,J,K,a_,b_,c_,d_,w_,rfl⟩:=o_;have H:=n.Ay 1 Z q_ v_;refine sR 3 Z (cz aB Z Ç H (λH a b c d=>bw aB (o:=0) ff Z d 2 Z (λH a R=>?_)))
 replace R:=χ R
 refine sA Z (aH (aT (sM Z (sC func28 Z (nS (R.box 1 Z) (aJ (R.Ab 0 Z)) (R.B5 0 Z 1 Z) ω ω) (λH a e_=>?_)))));obtain⟨y_,z_,⟨f_,g_⟩,Y,rfl,a'⟩:=e_;have H:=bt (R.Ay 1 Z f_ g_);have f:=H.shareB 2 Z;refine sA Z (aH (aW (eE (S:=f.SB) (oQ [1,3,5,7,9,15,10,13,16,19,20,22,24,26,29,30]) κ κ κ Z (λ_=>show f.SB _ from Ext.refl.drawn _) (λH=>?_))));have m:=f.drawn H;refine dV Z (λq l=>eB eC Z ff Z (At.whole (f.sbBox l 1 Z))) (aG 768955 ?_);refine cb Z aB Z (pcK É Z) (bk (m.box 1 Z) (aJ (m.Ab 0 Z)) (m.B5 0 Z 1 Z) ω ω ω) (λk _ _ r _=>f.sbIn k 1 Z r.1.1 υ) (λH a d'=>?_);obtain⟨⟨e',f'⟩,g',rfl,h'⟩:=d';have p:=m.Ay 1 Z e' f';refine dV Z (λq l=>jr Z Z iO) (cb Z aB Z (pcK É Z) (bk (p.box 1 Z) (aJ (p.Ab 0 Z)) (p.B5 0 Z 1 Z) ω ω ω) (λk _ _ r _=>f.sbIn k 1 Z r.1.1 υ) (λH a j'=>?_));obtain⟨⟨k',l'⟩,m',rfl,n'⟩:=j';have H:=p.Ay 1 Z k' l';refine dV Z (λq l=>jr Z Z iO) (sJ ([(1+g'),(1+m'),12,0,37]) Z aB Z cS bV Z Z fF σ σ H (λ_ h e=>f.sbCall h e) (λH a b c o=>cb Z aB Z (pcK Ă Z) (bW (o.box 1 Z) (aJ (o.Ab 0 Z)) (o.B5 0 Z 1 Z) ω ω (aJ (o.A4 3 Z)) (λx l e=>o.apart (i:=1) (j:=3) Z Z Z x l gR) σ) (λk _ _ r _=>f.sbIn k 1 Z r.1.1 υ) (λH a p'=>?_)));obtain⟨⟨q',r'⟩,s',rfl,T⟩:=p';have H:=bt (o.Ay 1 Z q' r')
 replace T:=ψ T
 have u:=H.conv 3 gone Z trivial df df;refine cb Z aB Z (pcK ű Z) (eO (u.box 1 Z) (aJ (u.Ab 0 Z)) (u.B5 0 Z 1 Z) ω ω ⟨(bQ ω).symm,ω⟩) (λk _ _ r _=>(let ⟨_,_,p_,_⟩:=r;f.sbIn k 1 Z p_.1 υ)) (λH a v'=>?_);obtain⟨x',y',⟨z',L⟩,P,C',D',rfl,E',X⟩:=v';obtain⟨H,a⟩:=u.resBox 1 Z z' L X;refine lI Z aB (o:=0) ff Z a 0 Z Z (λ_ h e _=>f.sbIn h 0 Z e υ) (λH a b=>?_)
 replace b:=χ b
 refine dV Z (λq l=>cr Z) (dD Z aB Z (cr Z) (dO (dY (hQ _ _ (qY Z Z (cm eC Z ff Z (At.whole (b.box 0 Z))) Z Z ?_)))));exact⟨b.ext,z,B,D,E,F,G,I,J,K,a_,b_,c_,d_,Y,P,_,_,Z,a',ω,b.out 4 Z⟩

theorem nJ{w:ä}{r:Rec}{l m n y u x:Option ô}{o p q B h E C D:Nat}(j:w.heap[B]? = á (.cells [au R].toArray 71))(k:w.heap[h]? = á (.cells [ag g].toArray 2))(A:w.heap[R]? = á (ay z y E u C x D))(s:z.A0.ok=ã)(F:r.Name.size<=1000):am 130 [r.val l o m p n q,au B,au h] w λv W=>v = .bool (uo z g r):=by
 have S:=bm s;refine bv func130 Z (λQ i N=>?_);have H:=Sep.start (dc j (dc k (dc A ba)));refine aT (ci aB Z H (λB H a b c=>sA Z (aH (aW (ep c (oQ [1,3,5,7,9,11,13,15,17,19,21,25,22,27,29,30]) (λH d=>aX 0xb4cf53f5bf52f d ?_))))));refine dU (t:=9) Z (λH=>?_) (λH=>?_)
 .replace H:=φ H
  refine aG 0x4f6df56fafefaaaaaaa ?_;refine rT i Z ?_;exact⟨d.ext,congrArg ó (by unfold uo;simp_all)⟩
 replace H:=φ H
 refine aX 0xc7fc7fbefd2fbefb6fc7f d ?_;refine cb Z (wg Z) Z (pcK func41 Z) (gZ ω ω) τ1 (λH a e=>?_);obtain⟨f,rfl⟩:=e;have H:=d.to f;refine aG 5458355551119 ?_;refine rT i Z ?_;exact⟨H.ext,congrArg ó (by unfold uo;simp_all)⟩

theorem Ks{w:ä}{A:Option ô}{C:Nat}{ft:List Nat}{l:FuncId}{G:List è}{q:Func}{p:Rec->Bool}(o:own ã w [.slice A n C] N O)(nd:O.Nodup)(hR:RdV w ft N)(M:ê.funcs[l]? = á q)(D:q.body.isNone=â)(P:NG q)(K:∀W,Ext (· ∈ O) w W->∀(y:Rec),y∈N.map Ac.r->∀(S:Option ô) (X:Nat) (U:Option ô) (Y:Nat) (V:Option ô) (C8:Nat),Ret ê l (([y.val S X U Y V C8]:List è)++G).toArray W λv k=>Ext No W k/\v = .bool (p y)):Ret ê 129 #[.slice A n C,.func (.func l) #[] G.toArray] w λv k=>(∃m,v = .slice A m C/\Mut w k O [.slice A m C] (mt p N)):=by
 obtain rfl:=gA o;refine bv func129 Z (λo_ Q hN=>?_);have H:=Sep.begin o nd;refine aG 70210 ?_;have L:=lD (s:=N.map Ac.r) (p:=p) (by dsimp only[aj,ak];rw[aS];exact hR.list (H.A4 0 Z)) M D P (λW a b c e g e_ k_ l_ m_ n_ r_ s_ t_=>K W (H.ext.trans a.no) _ (by rw[bX c];exact bx _) e g e_ k_ l_ m_);(try dsimp only[aj,ak] at L);rw[aS] at L;refine sE func82 Z L H (λW a z=>br 2671579732 (λH=>?_) (λH=>?_))
 .refine aT (sR 2 Z (rN Q Z ?_));exact⟨_,Z,by rw[J0 H];exact z.done⟩
 obtain⟨B,a_,h_,R,i_⟩:=Bz (d:=à) H;rw[aS] at h_;obtain⟨E,F,b_⟩:=gq (z.A4 0 Z) 0 ω;subst b_;rw[H5] at R;refine bi (aW (aW ?_));have H:∀i,i<B->p (N.getD i à).r=false:=λi hi=>by have:=i_ i hi;rwa[H5] at this
 have q_:=oL (z.A4 0 Z);refine aG 7293974 ?_;refine cp (j:=Nat × Nat × List Ac × List Nat) (λ(i,j,s,f)=>[(0,.slice (á ⟨E,F,ç⟩) N.length C),(1,.func (.func l) #[] G.toArray),(5,ag i),(6,ag j)]) (λ(i,j,s,f) k=>Sep (· ∈ O) w [A4 [.slice (á ⟨E,F,ç⟩) N.length C] s f] [] k/\DInv p N s i j) (λ(i,j,s,f)=>N.length-j) (B,B+1,N,_) ⟨Z,Z,eqI a_,eqI ω,trivial⟩ ⟨z,JZ ω R H⟩ (λ(i,j,s,f) H I=>?_);obtain⟨I,h⟩:=I;refine br 0x9f3d2ff1125 (λH=>?_) (λH=>?_)
 .refine bi (aW (bP (aW ?_)));obtain⟨eb,eo,ea,t,x⟩:=I.B2 0 Z j (by have:=h.2.1;omega);rw[Ss h] at t x;cases ea;have j_:=h.2.1;have g_:=h.2.2.1;refine ce (sR 2 Z (sV Z (bR cd cy Z Z j ω ω) (sV Z (eB cu Z cy Z t) (cz aB Z Ä I (λH a b c e=>bw aB cy Z e 1 Z (λH a J=>aX 4321571 J ?_))))));refine dE aB Z (ke (c:=G) Z M D P Z) (K _ J.ext (N.getD j à).r (bY.2 ⟨_,Gx,Z⟩) (N.getD j à).A6 (N.getD j à).C6 (N.getD j à).A7 (N.getD j à).C7 (N.getD j à).A8 (N.getD j à).C8) (λH a c_=>?_);obtain⟨d_,rfl⟩:=c_;have H:=J.to d_;refine sV Z (cj Z) (aH (gG Z (λa=>?_) (λa=>?_)))
  .refine aX 4321554 H ?_;refine sV Z (bR cd cy Z Z i ω ω) (SM (u:=(N.getD j à)) aB cy H 0 Z i ω Z Z Z x (λb c e=>aG 20424474979 ?_));refine⟨(i+1,j+1,_,_),bf,⟨(e.dtake 1),O0 h ω (by simpa using a)⟩,θ⟩
  refine aG 311662 ?_;refine⟨(i,j+1,_,_),bf,⟨(H.dtake 1),Rh h ω (by simpa using a)⟩,θ⟩
 refine bu ?_;have j_:=h.2.1;have g_:=h.2.2.1;have p_:=h.1;refine aT (sR 2 Z (sV Z (Cp cd cy Z Z i Z ω) (P9 aB cd be Z (qw Z) Z ω ω I 0 Z (λH a=>?_))));have f_:=di (a.A4 0 Z);rw[aY] at f_;refine aH (aT (sR 2 Z (sV Z (Lg cd cy Z Z i Z ω) (rA Q Z Z ?_))));have r:=a;rw[Qb h ω] at r;exact⟨_,Z,r.done⟩

section
open Go.Shelf Go.RowKit Go.Lib Go.Sort Go.Proofs
def Iw:Go.Shelf.Ren:=⟨λx=>match x with|5=>132|7=>183|n=>n,λx=>match x with|22=>2|3=>3|4=>4|n=>n,λx=>x⟩
theorem IE:SlLaysC2.n5 ê Iw where
 mixed:=by kernel_rfl
 f5:=⟨ "cmp.Compare[int64]",dv,func132.trans (congrArg á κ)⟩
 f7:=⟨ "cmp.isNaN[int64]",dv,func183.trans (congrArg á κ)⟩
 t3:=tu3
 a3:=isAgg3
 z3:=ts3
 v3:=zeroValue3
 t4:=tu4
 a4:=isAgg4
 z4:=ts4
 v4:=zeroValue4
 t22:=tu2
 a22:=isAgg2
 z22:=ts2
 v22:=zeroValue2
theorem J8(x y:Ac)(W:ä):Calls ê 131 #[.agg x.cs.toArray,.agg y.cs.toArray] W λe w=>e = .returned (.int .i64 (cfQ x y))/\∃q o,w=Go.Sort.grow (W.drewN q) o:=by
 have h:=λa=>AnyG.cmp_Compare_int IE x.r.Seq y.r.Seq a
 change ∀a,Calls ê 132 _ _ _ at h
 change Calls ê 131 _ _ λe w=>e = .returned (.int .i64 (Lib.compareInt x.r.Seq y.r.Seq))/\_
 generalize Lib.compareInt x.r.Seq y.r.Seq=r at h ⊢
 unfold Ac.cs
 go_enter func131,ntmps131
 go_wp2_with (go_at_call 132;refine(h _).mono ?_;rintro e w ⟨rfl,rfl⟩)
 go_ret
 exact⟨Z,0,_,by rw[alloc_eq_grow,alloc_eq_grow,grow_grow];rfl⟩
theorem J5{w:ä}{a:Option ô}{c:Nat}(o:own ã w [.slice a n c] N O)(d:O.Nodup)(h:N.length<=1000000):Ret ê 122 #[.slice a n c,.func (.func 131) #[] #[]] w λv b=>∃u:List Ac,Mut w b O [.slice a n c] u/\List.Perm u N:=
 M3 (g:=131) wt Tryz.isAgg76 cy (enters_of Tryz.func131 κ rfl) (λW x y=>J8 x y W) o d h
end
theorem oR{w:ä}{b_ Y a_:Nat}{X V W:Option ô}{m_ l_ K:List Nat}(zB:w.heap[R]? = á (ay z X b_ V Y W a_))(zK:z.Ok)(o_:ah w X z.A2 b_ m_)(n_:ah w V z.On Y l_)(c_:ah w W z.A3 a_ K)(v:c7 z=0)(hb:fY z<=1048576)(h1:(nj z g).length<=1):am 86 [au R,ag g] w λj_ w'=>∃L O E F M P,j_ = .tuple #[(nxD z g).val L O E F M P,.bool (nxO z g).isSome]/\ResS w w' [.slice E (nxD z g).Data.length F] (nxD z g).Data:=by
 have H:=cx zK;have hs:=(c5 v).1;have hT:=(c5 v).2.2.2.1;have u_:=nF v;refine bv func86 Z (λs_ S hN=>?_);have H:=Sep.start (dc zB (aC o_ (aC n_ (aC c_ ba))));refine aT (ci aB Z H (λH a b c d=>ci aB Z d (λH c d f h=>cz aB Z Ä h (λH c d f h=>aX 229156 h ?_))));refine sC func81 Z (ir (h.Bd 0 Z) η (aJ (h.Ab 1 Z)) (aJ (h.Ab 2 Z)) (aJ (h.Ab 3 Z)) ξ ξ) (λH c d=>?_);obtain⟨H,l,d,m,n⟩:=d;obtain⟨c,o⟩:=h.res H d;obtain⟨H,c,q⟩:=aL (o.A4 3 Z);cases q;have s:RdV w K l:=m.back o.ext (Rp.lt c_);refine sV Z (qo Z) ?_;have g_:∀y∈l.map Ac.r,y.Name.size<=1000:=λy C=>by
  rw[n] at C;obtain⟨i,r,e⟩:=List.getElem_of_mem C;have H:=pH v (k:=i) r;rw[bX r,e] at H;omega
 refine sC func129 Z (Ks (p:=uo z g) (o.A4 3 Z) (o.Aj (i:=3) Z) (s.to o.ext) func130 Z JJ (λa b y C H a c d f h=>nJ (b.heapM (o.apart (i:=3) (j:=0) Z Z Z _ (aD.2 Z)) (o.box 0 Z)) (b.heapM (o.apart (i:=3) (j:=1) Z Z Z _ (aD.2 Z)) (o.box 1 Z)) (b.heapM (o.foff 0 Z 3 Z Z) (o.Bd 0 Z)) hs (g_ y C))) (λH a t=>?_);obtain⟨i_,rfl,A⟩:=t;obtain⟨u,I⟩:∃u,u=mt (uo z g) l:=⟨_,Z⟩;rw[<- I] at A;have Q:u.map Ac.r=nj z g:=by rw[I,zg,n];rfl
 have f_:RdV w K u:=by rw[I];exact s.sub λk_ hx=>(vz (p:=uo z g)).mem hx
 have v_:u.length=(nj z g).length:=by rw[<- Q,aS]
 obtain⟨H,B⟩:=o.mut 3 Z A;obtain⟨H,a,d_⟩:=aL (B.A4 3 Z);cases d_;refine sA Z (aH (aT (sM Z (sC func122 Z (J5 (N:=u) (B.A4 3 Z) (B.Aj (i:=3) Z) ω) (λH a b=>?_)))));obtain⟨H,a,c⟩:=b;rw[Pm c ω] at a;obtain⟨H,b⟩:=B.mut 3 Z a;refine aX 938704675 b ?_;refine sC func91 Z (lm (b.Bd 0 Z) η (aJ (b.Ab 1 Z)) (aJ (b.Ab 2 Z)) (aJ (b.Ab 3 Z)) ξ) (λH a c=>?_);obtain⟨H,c⟩:=c;obtain⟨a,D⟩:=b.res H c;obtain⟨H,a,e_⟩:=aL (D.A4 4 Z);cases e_;refine sE func45 Z (iT (D.As 4 Z)) D (λH a b=>aG 7641065525844 ?_);refine dr (a:=Nat) b [(2,_),(4,_),(7,_),(22,_),(23,_)] bf (λk=>[(24,ag k)]) (λk=>k<=(nj z g).length/\(∀i,i<k->AF z g ((nj z g).getD i à)=â)) (λk=>(nj z g).length-k) 0 ⟨Z,trivial⟩ ⟨ω,λi r=>absurd r (Nat.not_lt_zero i)⟩ (λk H l ⟨hk,G⟩=>?_);dsimp only[jf,lNA];refine br 10441682 (λH=>?_) (λH=>?_)
 .obtain⟨H,a,b,w_,c,d,f,U⟩:=l.recF 3 Z (x:=(u.getD k à).r) (A6:=(u.getD k à).A6) (C6:=(u.getD k à).C6) (A7:=(u.getD k à).A7) (C7:=(u.getD k à).C7) (A8:=(u.getD k à).A8) (C8:=(u.getD k à).C8) ((f_.to l.ext).Bi (k:=k) ω);unfold Ë at c d f;have x:(u.getD k à).r=(nj z g).getD k default:=ey Q ω;obtain⟨H,m,a⟩:=PA v (k:=k) (g:=g) ω;rw[<- x] at H m a;have h_:=Tp hb (k:=k) (g:=g) ω;rw[<- x] at h_;obtain⟨H,a,b,c,d⟩:=U.B2 3 Z k ω;refine aG 71416433110878 ?_;refine cz aB Z Ä U (λH a b c d=>bw aB cy Z d 5 Z (λH a b=>?_));replace b:=bt b;refine aH (aW (ep b (oQ [1,3,5,7,9,11,12,15,17,19,21,22]) (λH n=>aX 0x5bf52f66f52f4af5bf n ?_)));refine dC func53 Z (iL η gQ) (λH a o=>?_);obtain⟨q,rfl⟩:=o;have h:=n.to q;refine aG 0x504f6df49f4bf4bfb ?_;have T:AF z g ((nj z g).getD k à)=decide (dd z.A0 (u.getD k à).r.Length<=((iZ z g).length:Int)):=by rw[<- x];rfl
  have t_:oB z.A0 (u.getD k à).r.Length=dd z.A0 (u.getD k à).r.Length:=u3 m;refine br 166973718 (λH=>?_) (λH=>?_)
  .refine aX 16882 h ?_;refine sC func111 Z (jG η (h.Ae 4 Z) (h.Ae 5 Z) (h.Ae 6 Z) ξ) (λH a s=>?_);obtain⟨t,i_,A,p_,q_,r_,J,rfl,s⟩:=s;obtain⟨H,a⟩:=h.res t s;obtain⟨H,b,c,d,f,m,n,o⟩:=me (a.A4 6 Z);have f:=a.part 6 Z [A4 [.slice _ (u.getD k à).r.Rows.length _] (u.getD k à).r.Rows H,A4 [.slice _ (u.getD k à).r.Data.length _] (u.getD k à).r.Data b,A4 [.slice _ (u.getD k à).r.Ad.length _] (u.getD k à).r.Ad c] (all_cons m (all_cons n (all_cons o σ))) DQ;refine bw aB cy Z f 2 Z (λH a b=>sA Z (aH (dY (S _ _ (L6 Z Z (cm cu Z cy Z (At.whole (b.box 2 Z))) Z ?_)))));have H:nxO z g=á ((nj z g).getD k à):=Sn ω G (by rw[T];exact aU ω);rw[RH H,H,<- x];exact⟨b.ext,_,_,_,_,_,_,Z,b.outS 8 Z⟩
  refine aG 203886 ?_;refine⟨k+1,bf,⟨((h.Aq 4).dtake 5),bj,λi r=>?_⟩,θ⟩
  by_cases e:i=k
  .subst e;rw[T];exact a8 ω
  exact G i ω
 refine bu (aT (sV Z (bM eD Z Z) (bw aB cy Z l 2 Z (λH a b=>sA Z (aH (dY (S _ _ (L6 Z Z (cm cu Z cy Z (At.whole (b.box 2 Z))) Z ?_))))))));have H:nxO z g=none:=Nc λi r=>G i ω
 rw[TS H,H];exact⟨b.ext,ç,0,ç,0,ç,0,Z,⟨[],.inr (.inl ⟨Z,Z,Z⟩),σ⟩⟩

theorem ry{w:ä}{s:A0}(e:s.ok=ã):am 93 [s.v] w λv W=>v = ag ((s.Data*4).toNat:Nat):=by
 have S:=bm e;refine bv func93 Z (λQ h N=>?_);have H:=Sep.start (w:=w) (F:=[]) σ;refine aT (ci aB Z H (λH a b c d=>aX 287212828964 d ?_));refine rT h Z (⟨d.ext,?_⟩);rw[bQ ω]

theorem Ev{w:ä}{l B j q m:Nat}(F:1<=m/\m<=1000000)(A:n<=q*m/\n<=G/\n<=1000000000)(s:∀i,i<q->i*m<n)(y:∀i W k,J i W->J i { W with drawn:=k })
  (r:∀i W,J i W->W.heap[B]? = á (.cells [.slice E n G].toArray 22)/\W.heap[j]? = á (.cells [ag m].toArray 3))
  (Y:∀i W,J i W->i<q->YieldAt (inF ç) 2 ê l #[.slice (slA E (i*m) (jd m n i) 1) (jd m n i-i*m) (jd m n i-i*m)] W λe t=>e = .returned (.bool ã)/\J (i+1) t) (u:J 0 w) :
  Ret ê 184 #[.func (.yield l) #[] #[],au B,au j] w λ_ p=>J q p:=by
 refine bv func184 Z (λQ C N=>aT (sA Z (aH (bP (cp (j:=Nat) (λi=>[(0,.func (.yield l) #[] #[]),(1,au B),(2,au j),(4,ag ((i*m:Nat):Int))]) (λi p=>i<=q/\J i p) (λi=>q-i) 0 ⟨Z,Z,Z,eqI σ,trivial⟩ ⟨ý _,u⟩ (λi H v=>?_))))));obtain⟨D,o⟩:=v;obtain⟨a,b⟩:=r i H o;have c:¬ i<q->n<=i*m:=λh=>by
  have:i=q:=by omega
  rw[this];exact A.1
 refine aW (aT (sM Z (sV Z (bp cJ Z (bD a Z)) (br 166974207 (λd=>?_) (λd=>?_)))))
 .have I:i<q:=Decidable.byContradiction λh=>by have:=c h;omega
  have c:=s i I;have d:jd m n i=i*m+min m (n-i*m):=Z;refine bi (aW (bP (aW (eE (S:=λx=>x.heap=H.heap) (oQ [1,3,5,7,9,11,12]) κ κ κ Z (λ_=>Z) (λK=>eS Z aB Z (λx g=>bp tu3 Z (bD (by rw[g];exact b) Z)) (eS Z aB Z (λx g=>bp cJ Z (bD (by rw[g];exact a) Z)) (eS Z aB Z (λx g=>bL Z) (eS Z aB Z (λx g=>Cp cJ ts5 Z Z (i*m) Z (Nat.le_of_lt c)) (eS Z aB Z (λx g=>od cJ Z) (eS Z aB Z (λx g=>Rf Z Z) (dD Z aB Z (cr Z) ((dO (QC (M:=[(0,.func (.yield l) #[] #[]),(1,au B),(2,au j),(4,ag ((i*m:Nat):Int)),(5,ag (min m (n-i*m):Nat))]) ⟨Z,Z,Z,Z,eqI (by split<;>omega),trivial⟩ (aW (U7 (th (iz aB Z (bL Z) (iz aB Z (bp cJ Z (bD a Z)) (iz aB Z (bL Z) (iz aB Z (bL Z) (iz aB Z (bL Z) (iz aB Z (jr Z Z iO) (iz aB Z (bL Z) (iz aB Z (bL Z) (iz aB Z (jr Z Z iO) (iz aB Z (K9 cJ ts5 Z Z Z Z (i*m) (jd m n i) (jd m n i) Z ω ω ω (aN _) ω) (Mq Z Z Z (Y i _ (y _ _ _ o) I) (λe H z=>?_)))))))))))))))))))))))))))));obtain⟨rfl,f⟩:=z;refine⟨_,Z,?_⟩;refine iz aB Z (cj Z) (yG (gW Z (bi (ce (sM Z (sV Z (bp tu3 Z (bD (r _ _ f).2 Z)) (aG 76 ?_)))))));refine⟨i+1,⟨Z,Z,Z,eqI (by rw[Ō];omega),trivial⟩,⟨I,f⟩,θ⟩
 have I:¬ i<q:=λh=>by have:=s i h;omega
 obtain rfl:i=q:=by omega
 exact bu (N _ _ (pR Z o))

theorem IF{w:ä}{m:Nat}(g:1<=m):
  am 133 [.slice E n G,ag m] w λv W=>∃B f,v = .func (.func 184) #[] #[au B,au f]/\W.heap[B]? = á (.cells [.slice E n G].toArray 22)/\W.heap[f]? = á (.cells [ag m].toArray 3)/\w.heap.size<=B/\w.heap.size<=f:=by
 refine bv func133 Z (λQ h N=>?_);have H:=Sep.start (w:=w) (F:=[]) σ;refine aT (ci aB Z H (λB H a b c=>ci aB Z c (λf H c d e=>?_)));replace e:=bt e;refine ge 683926876756 e (λH=>?_) (λH=>?_)
 .exact absurd H ω
 exact bi (aT (sV Z (qo Z) (sA Z (aH (rT h Z ⟨e.ext,B,f,Z,e.box 0 Z,e.box 1 Z,b,aF a.size d⟩)))))

theorem tY{w:ä}{s:A0}(n_:aj w E T G)(hs:s.ok=ã)(hx:T.length<=n*(s.Data*4).toNat)(hn:∀i,i<n->i*(s.Data*4).toNat<T.length)(hl:T.length<=1000000):am 87 [s.v,ak E T G] w λm_ a=>Res w a [m_] (c6 (s.Data*4).toNat n T n):=by
 have v_:=bm hs;have u_:4<=(s.Data*4).toNat/\(s.Data*4).toNat<=12:=by omega
 obtain⟨X,c_⟩:=n_;have w_:=di c_;refine Fp (H:=[s.v,ak E T G]) func87 Z Z Z (λo_ ha=>?_);have c:=Sep.start (aC c_ ba);refine KX (L:=wu 0 _) (B:=λb a=>∃d,sub b [(1,ak E T G),(2,au d)]/\Sep No w [box d (.cells (A0.v s).cells 25)] [Ab â [ak E T G] T X] a) ha ?_ (λg j p t e=>?_)
 .exact vd Z (ci aB Z c (λc j x y p=>sA Z (aH ⟨Z,_,bf,p⟩)))
 obtain⟨d,z,A⟩:=e;replace t:=t.weak z;refine KX (B:=λb a=>∃C v U,sub b [(1,ak E T G),(2,au d),(5,au C)]/\Sep No w [box d (.cells (A0.v s).cells 25),A4 [v] (c6 (s.Data*4).toNat n T 0) U,box C (.cells [v].toArray 111)] [Ab â [ak E T G] T X] a) t ?_ (λt L2 z D e=>?_)
 .exact vd Z (dG (f:=(List UInt8)) aB Z c8 cw A (λc j x y p=>cz aB Z zeroValue111 p (λc j d_ a_ p=>cL aB PY Z p 2 Z (λc e_ j=>aH ⟨Z,_,_,_,bf,j⟩))))
 obtain⟨C,v,U,c,j⟩:=e;replace D:=D.weak c;refine wpIn_seq (KX (B:=λb a=>∃I M,sub b [(12,.func (.func 184) #[] #[au I,au M]),(2,au d),(5,au C)]/\Sep No w [box d (.cells (A0.v s).cells 25),A4 [v] (c6 (s.Data*4).toNat n T 0) U,box C (.cells [v].toArray 111)] [Ab â [ak E T G] T X,box I (.cells [ak E T G].toArray 22),box M (.cells [ag ((s.Data*4).toNat:Nat)].toArray 3)] a) D ?_ (λf_ c O Q e=>?_))
 .refine vd Z (aX 16881 j ?_);refine sE func93 Z (ry η) j (λc x S=>sC func133 Z (IF (m:=(s.Data*4).toNat) ω) (λp_ g_ h_=>?_));obtain⟨i_,I,M,rfl,j_,Y,y,a_⟩:=h_;have c:=S.to i_;have H':=c.look (r:=box I (.cells [ak E T G].toArray 22)) (by exact j_) (λk_ k hm=>by simp only[Wk.box,aD] at k;subst k;have:=S.lt _ hm;omega);have a':=H'.look (r:=box M (.cells [ag ((s.Data*4).toNat:Nat)].toArray 3)) (by exact Y) (λk_ k hm=>by simp only[Wk.box,aD] at k;subst k;have:=S.lt _ hm;omega);exact aH ⟨Z,_,_,bf,a'⟩
 obtain⟨I,M,c,j⟩:=e;replace Q:=Q.weak c;refine wpIn_block (HY Q (l := #[au I,au M]) Z func184 Z CY (K:=λW=>∃v f b_,Sep No w [box d (.cells (A0.v s).cells 25),A4 [v] (c6 (s.Data*4).toNat n T n) f,box C (.cells [v].toArray 111),box O.heap.size (.deferred (á [])),box (O.heap.size+1) b_] [Ab â [ak E T G] T X,box I (.cells [ak E T G].toArray 22),box M (.cells [ag ((s.Data*4).toNat:Nat)].toArray 3)] W) (λR fn hR=>?_) (λW hK=>?_))
 .have x:(O.alloc (.deferred (á []))).heap.size=O.heap.size+1:=by simp
  have HA:=(j.alloc (.deferred (á []))).alloc (.loop (R .ready ç));rw[x] at HA;refine Ret.mono (Ev (E:=E) (q:=n) (J:=λi W=>∃v f,Sep No w [box d (.cells (A0.v s).cells 25),A4 [v] (c6 (s.Data*4).toNat n T i) f,box C (.cells [v].toArray 111),box O.heap.size (.deferred (á [])),box (O.heap.size+1) (.loop (R .ready ç))] [Ab â [ak E T G] T X,box I (.cells [ak E T G].toArray 22),box M (.cells [ag ((s.Data*4).toNat:Nat)].toArray 3)] W) (m:=(s.Data*4).toNat) ω ⟨hx,ω,ω⟩ hn ?_ ?_ ?_ ⟨_,_,HA⟩) ?_
  .rintro i W l_ ⟨v,f,H⟩
   exact⟨v,f,H.drawn l_⟩
  .rintro i W ⟨v,f,H⟩
   exact⟨H.Bd 1 Z,H.Bd 2 Z⟩
  .rintro i W ⟨v,f,H⟩ iq
   have Y:=hn i iq;have t_:(c6 (s.Data*4).toNat n T i).length=i:=qe;have c:i<=1000000:=by have:i*1<=i*(s.Data*4).toNat:=Nat.mul_le_mul_left _ ω;omega
   have hy:=I0 (P:=ê) (u := .slice (slA E (i*(s.Data*4).toNat) (jd (s.Data*4).toNat T.length i) 1) (jd (s.Data*4).toNat T.length i-i*(s.Data*4).toNat) (jd (s.Data*4).toNat T.length i-i*(s.Data*4).toNat)) hR Q.1 Z (H.box 4 Z)
    (L2:=[(6,.slice (slA E (i*(s.Data*4).toNat) (jd (s.Data*4).toNat T.length i) 1) (jd (s.Data*4).toNat T.length i-i*(s.Data*4).toNat) (jd (s.Data*4).toNat T.length i-i*(s.Data*4).toNat)),(2,au d),(5,au C)])
    (B:=λp=>∃v f,Sep No w [box d (.cells (A0.v s).cells 25),A4 [v] (c6 (s.Data*4).toNat n T (i+1)) f,box C (.cells [v].toArray 111),box O.heap.size (.deferred (á [])),box (O.heap.size+1) (.loop (R .busy ç))] [Ab â [ak E T G] T X,box I (.cells [ak E T G].toArray 22),box M (.cells [ag ((s.Data*4).toNat:Nat)].toArray 3)] p)
    (by
     refine th (iz aB Z (cr Z) ?_)
     exact yG ⟨Z,Z,bf⟩)
    (by
     have c:=H.put 4 (.loop (R .busy ç)) Z;refine JF (QX (vd Z (sV Z (eB kB Z lZ Z (At.whole (c.box 0 Z))) (sE func93 Z (ry η) c (λc x d=>xT aB Z cJ b6 ol Z qN qQ d (λc d d_ y j=>sA Z (aH (QX (vd Z (sM Z (sM Z ?_)))))))))));have c:jd (s.Data*4).toNat T.length i<=T.length/\i*(s.Data*4).toNat<jd (s.Data*4).toNat T.length i:=by unfold jd;omega
     have s_:=fb (x:=T) (l:=i*(s.Data*4).toNat) (h:=jd (s.Data*4).toNat T.length i) c.1;have r_:jd (s.Data*4).toNat T.length i-i*(s.Data*4).toNat<=(s.Data*4).toNat:=by unfold jd;omega
     obtain⟨cf,oc,_⟩:=FT (j.Ab 0 Z) (i*(s.Data*4).toNat) (jd (s.Data*4).toNat T.length i) (jd (s.Data*4).toNat T.length i) ω c.1 (aN _) ω;refine RT (Y:=cut T (i*(s.Data*4).toNat) (jd (s.Data*4).toNat T.length i)) aB Z cJ b6 Z Z j 5 Z (by exact oc) ω wR (λg_ c=>?_);rw[MS Y hx] at c;replace c:=bt c;refine aH (vd Z (sLd c8 (c.box 2 Z) Z (sM Z (dx aB Z c8 cw Z c (λc d e_ a_ j=>kC aB Z c8 cw Z j 1 6 5 Z db ω (λt c d x=>?_))))));obtain⟨g,g,y⟩:=aL (x.A4 1 Z);cases y;refine cL aB PY Z x 2 Z (λc d j=>?_);replace j:=bt j;refine aH ?_;have F:=j.sub (.cons_cons _ (.cons_cons _ (.cons_cons _ (.cons_cons _ (.cons_cons _ (.cons _ (.cons _ List.Sublist.slnil)))))));rw[oS] at F
     exact⟨Z,F.box 4 Z,_,_,F⟩)
   obtain⟨c,d,j,x,y,g⟩:=hy;refine⟨c,d,j,x,y,g.mono λq_ W' V=>?_⟩;obtain⟨V,p,⟨t,z,A⟩,D,rfl⟩:=V;exact⟨V,t,z,A.put 4 (.loop (R .ready ç)) Z⟩
  rintro _ p ⟨v,f,H⟩
  exact⟨H.box 4 Z,v,f,_,H.put 4 (.loop (R .exhausted ç)) Z⟩
 obtain⟨v,f,b_,o⟩:=hK
 show Code.wpIn _ _ _ _ _ _ _
 have c:GoodD [{ target := .collected O.heap.size,args := #[] }] 25 { f_ with defers:=[{ target := .collected O.heap.size,args := #[] }] } [(5,au C)]:=
  ⟨by have:=Q.1;exact this.weak ⟨rfl,trivial⟩,rfl⟩
 refine KX (B:=λb a=>sub b [(4,v)]/\a=W) c ?_ (λc d g p e=>?_)
 .exact th (iz aB Z (bp c8 Z (bD (o.box 2 Z) Z)) (iz aB Z (cr Z) (yG ⟨Z,⟨Z,trivial⟩,Z⟩)))
 obtain⟨C,rfl⟩:=e;refine wpIn_ret ?_;have HF:=o.put 3 (.deferred ç) Z;refine⟨.inr Z,O.heap.size,[(4,v)],p.weak C,o.box 3 Z,TF Z Z ?_⟩;exact⟨HF.ext,HF.out 1 Z⟩

theorem ki{b_:ä}(o_:OwnW b_ R 31 z O)(nd:O.Nodup)(K:Gw 100000000 z)(n_:ins g 0 (z.A0.A2-1)=ã)(h1:(nj z g).length<=1):Ret ê 52 #[au R,ag g] b_ λp_ w'=>(p_ = ag (dsI z g).1/\MutW b_ w' O R 31 ((dsI z g).2)):=by
 have H:=K.world dv;have N:=K.hs;have hG:=K.gk;have hT:=K.tl;have D_:=K.all;have v:fY z<=1048576:=by have:=K.sz;omega
 have hq:=K.seq;have G_:=bm N;have v_:=bH.1 n_;have hg:ins g 0 (z.A0.A2+z.A0.A5-1)=true:=bH.2 ω;have B_:=lK hq;have x_:0<=nsV z/\nsV z<=1000000001:=by unfold nsV;split<;>omega
 refine bv func52 Z (λq_ Q hN=>?_);have H:=Sep.beginW o_ nd;obtain⟨a,c,d,e,f,p,s,u,x,y,A⟩:=H.B3 0 Z;have H:=cx y;refine aG 1123650 ?_;refine sE func84 Z (nY (A.box 0 Z) η (A.As 2 Z) (A.As 3 Z) (A.As 4 Z) zC zC zC) A (λH a B=>aH (gG Z (λH=>?_) (λH=>?_)))
 .refine aT (rA Q Z Z ?_);obtain⟨a,c⟩:=B.Ar 0 2 3 4 z Z y;have h:=c.Ax;rw[Ov m9];exact⟨Z,h⟩
 have a_:dP z g=false:=by simpa using H
 refine bi (aT (sR 2 Z (sC func86 Z (oR (B.box 0 Z) η (aJ (B.A4 2 Z)) (aJ (B.A4 3 Z)) (aJ (B.A4 4 Z)) ξ ξ ξ) (λH a C=>?_))));obtain⟨D,E,F,G,i_,J,j_,rfl,c_⟩:=C;have H:=B.to D;obtain⟨a,c⟩:=H.lookF B c_;refine sR 3 Z (cz aB Z Ä c (λd H a c e=>bw aB cy Z e 5 Z (λH a c=>?_)));replace c:=bt c;refine aG 4692 ?_;refine sV Z (cj Z) (aH (gG Z (λH=>?_) (λH=>?_)))
 .refine aT (rA Q Z Z ?_);obtain⟨a,e⟩:=c.Ar 0 2 3 4 z Z y;have h:=e.Ax;rw[Q5 a_ (RP m9)];exact⟨Z,h⟩
 have h_:nxO z g=á (nxD z g):=QN m9;have I:Due z g (nxD z g):=Sx N K.rc h_;have s_:=I.pn;have m_:=I.rw_;refine bi (aW ?_);have u_:(pnN z (nxD z g))<=(iZ z g).length:=by
  have d_:=m_;unfold du at d_;rw[aY] at d_;omega
 have w:=OT a_ h_;have t_:=I.dl;have w_:=fV I.lg;have A_:(c6 (z.A0.Data*4).toNat (pnN z (nxD z g)) (nxD z g).Data (pnN z (nxD z g))).length=(pnN z (nxD z g)):=qe;refine ep c (oQ [1,3,5,7,9,11,12,14]) (λH a=>aX 0x5bf52f66f52f4afb a ?_);refine dC func87 Z (tY (a.Ae 0 Z) η (by first|assumption|exact I.fx) (by first|assumption|exact I.cover N) ξ (n:=(pnN z (nxD z g)))) (λH c e=>?_);obtain⟨H,e⟩:=e;obtain⟨f,p⟩:=a.res H e;obtain⟨s,u,x⟩:=aL (p.A4 6 Z);cases x;refine dD Z aB Z (cr Z) (dO (aT (sM Z (sE func88 Z (jw (p.box 0 Z) η (aJ (p.A4 2 Z)) (aJ (p.A4 3 Z)) (aJ (p.A4 4 Z)) ξ ξ ξ) p (λH a A=>aG 8182928232097777 ?_)))));refine cZ (t:=39) Z (λH=>?_) (λH=>?_)
 .replace H:=φ H
  refine aG 0x332f88888132f8888888 ?_;refine eL Z (aT (rA Q Z Z ?_));obtain⟨a,c⟩:=A.Ar 0 2 3 4 z Z y;have U:(1000000000<nxQ z+(pnN z (nxD z g))\/eU z (2*(pnN z (nxD z g))+1)=ã):=by
   by_cases q:1000000000<nxQ z
   .exact .inl ω
   have V:nsC z=0:=ac q;have e_:nsV z=nxQ z:=ac q
   by_cases x:rL z<((2*(pnN z (nxD z g))+1:Nat):Int)
   .exact .inr (ti.1 x)
   refine .inl ?_;first|omega|(exfalso;omega)
  have h:=c.Ax;rw[w,ul U];exact⟨Z,h⟩
 replace H:=φ H
 refine bc (wg Z) Z (bL Z) (dE (wg Z) Z (pcK func89 Z) (jc (A.box 0 Z) η (A.As 2 Z) (A.As 3 Z) (A.As 4 Z) ξ) (λH a B=>?_));obtain⟨C,rfl⟩:=B;have D:=A.to C;refine bc (wg Z) Z (bL Z) (dE (wg Z) Z (pcK func90 Z) (oK (D.As 6 Z)) (λH a c_=>?_));obtain⟨k_,rfl⟩:=c_;have c:=D.to k_;refine aG 338620851943839 ?_;refine cZ (t:=48) Z (λe=>?_) (λe=>?_)
 .replace e:=φ e
  refine aG 13740050568 ?_;refine eL Z (aT (rA Q Z Z ?_));obtain⟨H,a⟩:=c.Ar 0 2 3 4 z Z y;have U:(1000000000<nxQ z+(pnN z (nxD z g))\/eU z (2*(pnN z (nxD z g))+1)=ã):=by
   by_cases q:1000000000<nxQ z
   .exact .inl ω
   have V:nsC z=0:=ac q;have e_:nsV z=nxQ z:=ac q
   by_cases x:rL z<((2*(pnN z (nxD z g))+1:Nat):Int)
   .exact .inr (ti.1 x)
   refine .inl ?_;first|omega|(exfalso;omega)
  have h:=a.Ax;rw[w,ul U];exact⟨Z,h⟩
 replace e:=φ e
 refine bc (wg Z) Z (bL Z) (bc (wg Z) Z (bL Z) (dE (wg Z) Z (pcK func90 Z) (oK (c.As 6 Z)) (λH a p=>?_)));obtain⟨A,rfl⟩:=p;have H:=c.to A;refine br 0x9f333f94f97f (λa=>?_) (λa=>?_)
 .refine aT (rA Q Z Z ?_);obtain⟨a,c⟩:=bt (H.Ar 0 2 3 4 z Z y);have U:(1000000000<nxQ z+(pnN z (nxD z g))\/eU z (2*(pnN z (nxD z g))+1)=ã):=by
   by_cases q:1000000000<nxQ z
   .exact .inl ω
   have V:nsC z=0:=ac q;have e_:nsV z=nxQ z:=ac q
   by_cases x:rL z<((2*(pnN z (nxD z g))+1:Nat):Int)
   .exact .inr (ti.1 x)
   refine .inl ?_;first|omega|(exfalso;omega)
  have h:=c.Ax;rw[w,ul U];exact⟨Z,h⟩
 have V:nsC z=0:=by omega
 refine bi (aW ?_);have a:¬ 1000000000<nxQ z:=by intro q;rw[nsC,ae q] at V;exact absurd V dv
 have e_:nsV z=nxQ z:=ac a;have L:¬ (1000000000<nxQ z+(pnN z (nxD z g))\/eU z (2*(pnN z (nxD z g))+1)=ã):=by
  intro q
  rcases q with q|q
  .omega
  have:=(ti (m:=2*(pnN z (nxD z g))+1)).2 q;omega
 refine ce (sR 2 Z (sC func91 Z (lm (H.box 0 Z) η (aJ (H.A4 2 Z)) (aJ (H.A4 3 Z)) (aJ (H.A4 4 Z)) ξ) (λa c p=>?_)));obtain⟨a,p⟩:=p;obtain⟨c,x⟩:=H.res a p;obtain⟨B,C,D⟩:=aL (x.A4 7 Z);cases D;have H:=x.Ba 7 Z;have a:=di (H.Ab 1 Z);obtain⟨A,a,c⟩:=fG (H.Ab 1 Z) (0) ((pnN z (nxD z g))) _ ω ω ω (aN _);have p:=H.look1 1 Z a c;have H:=fb (x:=(iZ z g)) (l:=0) (h:=(pnN z (nxD z g))) ω;refine sM Z (sV Z (od c8 Z) (sV Z (fW cS ts2 Z ((pnN z (nxD z g))) ω ω H) ?_));have l_:cut (iZ z g) 0 (pnN z (nxD z g))=(du z g (nxD z g)):=ky;rw[l_] at p ⊢;have H:=p.Ba 6 Z;obtain⟨a,c⟩:=bt (H.Ar 0 2 3 4 z Z y);refine aG 7641065525844 ?_;have y:=c.B9 (a:=[Ab ã [.slice s (c6 (z.A0.Data*4).toNat (pnN z (nxD z g)) (nxD z g).Data (pnN z (nxD z g))).length u] (c6 (z.A0.Data*4).toNat (pnN z (nxD z g)) (nxD z g).Data (pnN z (nxD z g))) f,Ab â [.slice (slA B 0 C (sz Int)) (du z g (nxD z g)).length (C-0)] (du z g (nxD z g)) A]) (λr hr=>by simp only[aM,aQ,bB] at hr;rcases hr with rfl|rfl<;>simp);refine cp (j:=Nat × Wld × List Nat) (λ(k,o,Y)=>[(0,au R),(1,ag g),(5,au d),(10,.slice (slA B 0 C (sz Int)) (du z g (nxD z g)).length (C-0)),(61,.slice s (c6 (z.A0.Data*4).toNat (pnN z (nxD z g)) (nxD z g).Data (pnN z (nxD z g))).length u),(62,ag (c6 (z.A0.Data*4).toNat (pnN z (nxD z g)) (nxD z g).Data (pnN z (nxD z g))).length),(63,ag k)]) (λ(k,o,Y) w'=>Sep (· ∈ O) b_ [Bf R 31 o Y,box d (.cells [ag (nxD z g).Kind,ag (nxD z g).Seq,.string (nxD z g).Name,ag (nxD z g).Length,ag (nxD z g).Group,ag (nxD z g).Row,.slice E (nxD z g).Rows.length F,.slice G (nxD z g).Data.length i_,.slice J (nxD z g).Ad.length j_].toArray 76)] [Ab ã [.slice s (c6 (z.A0.Data*4).toNat (pnN z (nxD z g)) (nxD z g).Data (pnN z (nxD z g))).length u] (c6 (z.A0.Data*4).toNat (pnN z (nxD z g)) (nxD z g).Data (pnN z (nxD z g))) f,Ab â [.slice (slA B 0 C (sz Int)) (du z g (nxD z g)).length (C-0)] (du z g (nxD z g)) A] w'/\k<=(pnN z (nxD z g))/\DsW z g (nxD z g) k o) (λ(k,o,Y)=>(pnN z (nxD z g))-k) (0,z,_) bf ⟨y.au_pk 33,bj,DsW.start K⟩ (λ(k,o,Y) H d=>?_);obtain⟨d,hk,P⟩:=d;refine br 10441682 (λH=>?_) (λH=>?_)
 .obtain⟨H,a,c,f,p,s,u,x,y⟩:=fA (d.Ab 0 Z) k ω;have E:=d.look1 0 Z x y;obtain⟨H,a,e,c,e,f,p,s,u,x,y⟩:=P.facts I a_ N ω;have W:uG z (nxD z g) k=((c6 (z.A0.Data*4).toNat (pnN z (nxD z g)) (nxD z g).Data (pnN z (nxD z g))).getD k []):=(BA ω).symm;have X:D2 z g (nxD z g) k=((du z g (nxD z g)).getD k 0):=Z;rw[W] at e;rw[X] at c;refine aG 0x54738f3ef1206f5e ?_;obtain⟨H,a,c,e⟩:=dW (E.Ab 1 Z) k ω;refine aG 21505957237014 ?_;refine sC func92 Z (sf (E.B1 0 Z) (E.Aj (i:=0) Z) (aJ (E.Ab 2 Z)) (λb v=>E.off 2 Z 0 Z v) ξ ξ ξ ξ ξ ξ ξ ξ ξ ξ (z:=o) (g:=g) (W:=((du z g (nxD z g)).getD k 0)) (P:=((c6 (z.A0.Data*4).toNat (pnN z (nxD z g)) (nxD z g).Data (pnN z (nxD z g))).getD k []))) (λH a F=>?_);obtain⟨rfl,G⟩:=F;obtain⟨H,a⟩:=bt (E.Bb 0 Z G);refine br 166973732 (λH=>?_) (λH=>?_)
  .refine aT (sR 2 Z (rN Q Z ?_));have g_:(mwP o g ((du z g (nxD z g)).getD k 0) ((c6 (z.A0.Data*4).toNat (pnN z (nxD z g)) (nxD z g).Data (pnN z (nxD z g))).getD k [])).1≠0:=by omega
   have f_:=P.stop ω (by rw[W,X];exact g_);rw[W,X] at f_;have h:=a.Ax;rw[w,Eg L (by rw[f_];exact g_),f_];exact⟨Z,h⟩
  have H:(mwP o g ((du z g (nxD z g)).getD k 0) ((c6 (z.A0.Data*4).toNat (pnN z (nxD z g)) (nxD z g).Data (pnN z (nxD z g))).getD k [])).1=0:=by omega
  refine aG 203886 ?_;have c:=P.step I a_ N ω (by rw[W,X];exact H);rw[W,X] at c;exact⟨(k+1,(mwP o g ((du z g (nxD z g)).getD k 0) ((c6 (z.A0.Data*4).toNat (pnN z (nxD z g)) (nxD z g).Data (pnN z (nxD z g))).getD k [])).2,_),bf,⟨(a.Aq 2),bj,c⟩,θ⟩
 refine bu ?_;obtain rfl:k=(pnN z (nxD z g)):=by omega
 have M:=P.done Z;have hgz:=P.gw;have F_:=hgz.wr;have C_:=hgz.seq;have r_:=hgz.tl;have E_:=hgz.all;have z_:=K8 I;have y_:(oD (nxD z g) (du z g (nxD z g))).Ok:=Lo I N;refine aW (eE (S:=λ_=>True) (oQ [1,3,7,11,2024,4,2010,8,12,15,16,18,12,8,15,16,18,2024,8,2010,4,12,15,16,18,12,4,15,16,18,12,2010,4,8,15,16,18,8,4,15,16,18]) κ κ κ Z (λ_=>trivial) (λH=>?_));have e:=d.drawn H;refine aG 3039777531 ?_;refine dF Z ?_ ?_
 .refine dD Z aB Z (bp tu9 Z (bD (e.box 1 Z) Z)) (dF Z ?_ ?_)
  .refine dD Z aB Z (bp tu2 Z (bD (e.box 1 Z) Z)) (cb Z aB Z (pcK Ļ Z) (d9 (e.Ae 1 Z) ω) τ4 (λH a c=>?_));obtain⟨H,c⟩:=c;obtain⟨a,d⟩:=e.res H c;obtain⟨H,a,f⟩:=aL (d.A4 2 Z);cases f;refine dV Z υ7 (cb Z aB Z (pcK func71 Z) (eG (d.B1 0 Z) (d.Aj (i:=0) Z) η (aJ (d.A4 2 Z)) (λb v=>d.apart (i:=0) (j:=2) Z Z Z b v) (.inr (.inl ⟨Z,Z,Z⟩)) σ (.inr (.inl ⟨Z,Z,Z⟩)) σ ξ ξ ξ ξ ξ (z:=o) (r:=(oD (nxD z g) (du z g (nxD z g))))) τ4 (λH a p=>?_));obtain⟨rfl,s⟩:=p;obtain⟨H,a⟩:=d.Bb 0 Z s;refine dD Z aB Z (cr Z) (dO (rT Q Z ?_));have h:=a.Ax;rw[w,wB L M];exact⟨Z,h⟩
  refine cb Z aB Z (pcK Ļ Z) (d9 (e.Ae 1 Z) ω) τ4 (λH a c=>?_);obtain⟨H,c⟩:=c;obtain⟨a,u⟩:=e.res H c;obtain⟨H,a,x⟩:=aL (u.A4 2 Z);cases x;refine dD Z aB Z (bp tu2 Z (bD (u.box 1 Z) Z)) (dV Z υ7 (cb Z aB Z (pcK func71 Z) (eG (u.B1 0 Z) (u.Aj (i:=0) Z) η (aJ (u.A4 2 Z)) (λb v=>u.apart (i:=0) (j:=2) Z Z Z b v) (.inr (.inl ⟨Z,Z,Z⟩)) σ (.inr (.inl ⟨Z,Z,Z⟩)) σ ξ ξ ξ ξ ξ (z:=o) (r:=(oD (nxD z g) (du z g (nxD z g))))) τ4 (λH a y=>?_)));obtain⟨rfl,A⟩:=y;obtain⟨H,a⟩:=u.Bb 0 Z A;refine dD Z aB Z (cr Z) (dO (rT Q Z ?_));have h:=a.Ax;rw[w,wB L M];exact⟨Z,h⟩
 refine dF Z ?_ ?_
 .refine dD Z aB Z (bp tu2 Z (bD (e.box 1 Z) Z)) (dF Z ?_ ?_)
  .refine dD Z aB Z (bp tu9 Z (bD (e.box 1 Z) Z)) (cb Z aB Z (pcK Ļ Z) (d9 (e.Ae 1 Z) ω) τ4 (λH a c=>?_));obtain⟨H,c⟩:=c;obtain⟨a,B⟩:=e.res H c;obtain⟨H,a,C⟩:=aL (B.A4 2 Z);cases C;refine dV Z υ7 (cb Z aB Z (pcK func71 Z) (eG (B.B1 0 Z) (B.Aj (i:=0) Z) η (aJ (B.A4 2 Z)) (λb v=>B.apart (i:=0) (j:=2) Z Z Z b v) (.inr (.inl ⟨Z,Z,Z⟩)) σ (.inr (.inl ⟨Z,Z,Z⟩)) σ ξ ξ ξ ξ ξ (z:=o) (r:=(oD (nxD z g) (du z g (nxD z g))))) τ4 (λH a D=>?_));obtain⟨rfl,E⟩:=D;obtain⟨H,a⟩:=B.Bb 0 Z E;refine dD Z aB Z (cr Z) (dO (rT Q Z ?_));have h:=a.Ax;rw[w,wB L M];exact⟨Z,h⟩
  refine cb Z aB Z (pcK Ļ Z) (d9 (e.Ae 1 Z) ω) τ4 (λH a c=>?_);obtain⟨H,c⟩:=c;obtain⟨a,F⟩:=e.res H c;obtain⟨H,a,G⟩:=aL (F.A4 2 Z);cases G;refine dD Z aB Z (bp tu9 Z (bD (F.box 1 Z) Z)) (dV Z υ7 (cb Z aB Z (pcK func71 Z) (eG (F.B1 0 Z) (F.Aj (i:=0) Z) η (aJ (F.A4 2 Z)) (λb v=>F.apart (i:=0) (j:=2) Z Z Z b v) (.inr (.inl ⟨Z,Z,Z⟩)) σ (.inr (.inl ⟨Z,Z,Z⟩)) σ ξ ξ ξ ξ ξ (z:=o) (r:=(oD (nxD z g) (du z g (nxD z g))))) τ4 (λH a d=>?_)));obtain⟨rfl,f⟩:=d;obtain⟨H,a⟩:=bt (F.Bb 0 Z f);refine dD Z aB Z (cr Z) (dO (rT Q Z ?_));have h:=a.Ax;rw[w,wB L M];exact⟨Z,h⟩
 refine cb Z aB Z (pcK Ļ Z) (d9 (e.Ae 1 Z) ω) τ4 (λH a c=>?_);obtain⟨H,c⟩:=c;obtain⟨a,p⟩:=e.res H c;obtain⟨H,a,e⟩:=aL (p.A4 2 Z);cases e;refine dF Z ?_ ?_
 .refine aX 8386559 p ?_;refine dV Z υ7 (cb Z aB Z (pcK func71 Z) (eG (p.B1 0 Z) (p.Aj (i:=0) Z) η (aJ (p.A4 2 Z)) (λb v=>p.apart (i:=0) (j:=2) Z Z Z b v) (.inr (.inl ⟨Z,Z,Z⟩)) σ (.inr (.inl ⟨Z,Z,Z⟩)) σ ξ ξ ξ ξ ξ (z:=o) (r:=(oD (nxD z g) (du z g (nxD z g))))) τ4 (λH a s=>?_));obtain⟨rfl,u⟩:=s;obtain⟨H,a⟩:=p.Bb 0 Z u;refine dD Z aB Z (cr Z) (dO (rT Q Z ?_));have h:=a.Ax;rw[w,wB L M];exact⟨Z,h⟩
 refine aX 8386559 p ?_;refine dV Z υ7 (cb Z aB Z (pcK func71 Z) (eG (p.B1 0 Z) (p.Aj (i:=0) Z) η (aJ (p.A4 2 Z)) (λb v=>p.apart (i:=0) (j:=2) Z Z Z b v) (.inr (.inl ⟨Z,Z,Z⟩)) σ (.inr (.inl ⟨Z,Z,Z⟩)) σ ξ ξ ξ ξ ξ (z:=o) (r:=(oD (nxD z g) (du z g (nxD z g))))) τ4 (λH a x=>?_));obtain⟨rfl,y⟩:=x;obtain⟨H,a⟩:=p.Bb 0 Z y;refine dD Z aB Z (cr Z) (dO (rT Q Z ?_));have h:=a.Ax;rw[w,wB L M];exact⟨Z,h⟩

end Go.Wk
namespace Go.Wk
open Rp (sz own)
variable {d:ByteArray}{X:Nat->Nat->List UInt8}
def dsQ (z:Wld) (g:Int):Int:=if ins g 0 (z.A0.A2-1)=ã then jk z g else 3
noncomputable def dsF (z:Wld) (g:Int):WldResult:=xI z (dsQ z g) (dsI z g).1 (dsI z g).2
noncomputable def CZ (z:Wld):IntResult:=if c7 z=0 then⟨0,oJ z⟩ else⟨c7 z,0⟩
theorem Gf{z:Wld}{g:Int}(h:ins g 0 (z.A0.A2-1)=â):dsQ z g=3:=ac gX
theorem PC{z:Wld}{g:Int}(h:ins g 0 (z.A0.A2-1)=ã):dsQ z g=jk z g:=ae h
theorem Lf{z:Wld}{g:Int}(h:dsQ z g=0):ins g 0 (z.A0.A2-1)=true:=by
  cases e:ins g 0 _ with
  | true=>rfl
  | false=>rw[Gf e] at h;cases h
theorem Qd{z:Wld}{g:Int}:0<=dsQ z g/\dsQ z g<=8:=by
  unfold dsQ jk
  all_goals omega
def xd (s:A0) (n:ByteArray):IntResult:=if s.fault=0 then if bU n=0 then⟨0,dy s n⟩ else⟨bU n,0⟩ else⟨s.fault,0⟩
def BV (s:A0) (l:Int):IntResult:=if s.fault=0 then⟨dL s l,oB s l⟩ else⟨s.fault,0⟩
section
variable {s:A0}{z:Wld}{a:Int}
theorem OC(h:s.fault≠0):xd s d=⟨s.fault,0⟩:=ac h
theorem Rv(h:s.fault=0)(H:bU d≠0):xd s d=⟨bU d,0⟩:=by rw[xd,ae h,ac H]
theorem FI(h:s.fault=0)(H:bU d=0):xd s d=⟨0,dy s d⟩:=by rw[xd,ae h,ae H]
theorem Nn(h:s.fault≠0):BV s a=⟨s.fault,0⟩:=ac h
theorem DM(h:s.fault=0):BV s a=⟨dL s a,oB s a⟩:=ae h
theorem J2(h:c7 z≠0):CZ z=⟨c7 z,0⟩:=ac h
theorem yU(h:c7 z=0):CZ z=⟨0,oJ z⟩:=ae h
end
section
variable {z:Wld}{rs:List Rec}{r:Rec}{g k:Int}
theorem TI{a b:Int × Int × Int}(h:kLt a b):¬ kLt b a:=by unfold kLt at *;omega
theorem I8:∀ {rs:List Rec},rs.Pairwise (λa b=>kLt (eQ a) (eQ b))->Ord kLt eQ rs
  | [],_ => .nil
  | x::X,h=>by
    rw[List.pairwise_cons] at h
    exact .cons (λy H=>TI (h.1 y H)) (I8 h.2)
theorem JU(h:rs.Pairwise (λa b=>kLt (eQ a) (eQ b))):rs.Nodup:=h.imp fun {a b} k e=>by
  subst e
  unfold kLt at k;omega
theorem rt(h:rs.Pairwise (λa b=>kLt (eQ a) (eQ b)))(H:z.A3=[⟨â,rs⟩,⟨â,rs⟩]):cI z=rs:=by
  have n:=JU h
  have e:allR z z.A3.length=rs++rs:=by rw[CO (by rw[H];rfl),H];rfl
  have E:dds (rs++rs)=rs:=by
    rw[LK,Df rfl n,ċ.2 (λr c=>by simp[c]),List.append_nil]
  unfold cI
  rw[e,E]
  exact(Gm ⟨I8 h,fw.refl⟩).symm
structure Sk (it:Rec) (k:Nat) (rs:List Rec):Prop where
  hd:∃ms,rs=it::ms/\∀r∈ms,r.Kind≠1
  pw:rs.Pairwise (λa b=>kLt (eQ a) (eQ b))
  tp:∀r∈rs,r.Seq<=1+(k:Int)
  ls:(rs.getD (rs.length-1) à).Seq=1+(k:Int)
  ln:rs.length=1+2*k
theorem Sk.start{it:Rec}(h:it.Seq=1):Sk it 0 [it]:=
  ⟨⟨[],rfl,λr h=>by cases h⟩,List.pairwise_singleton _ _,λr H=>by rw[aD.1 H,h];decide,by show it.Seq=_;rw[h];rfl,rfl⟩
theorem Sk.next{i:Rec}{k:Nat}(h:Sk i k rs)(H:z.A3=[⟨â,rs⟩,⟨â,rs⟩]):nxQ z=2+(k:Int):=by
  unfold nxQ qT
  rw[rt h.pw H,h.ls];omega
theorem AJ{r:Rec}(h:rs.Pairwise (λa b=>kLt (eQ a) (eQ b)))(d:∀x∈rs,kLt (eQ x) (eQ r)):(rs++[r]).Pairwise (λa b=>kLt (eQ a) (eQ b)):=by
  rw[List.pairwise_append]
  exact⟨h,List.pairwise_singleton _ _,λa H b c=>by rw[aD.1 c];exact d a H⟩
theorem Gh{a b:Rec}(h:a.Seq<b.Seq):kLt (eQ a) (eQ b) := .inl h
theorem Sk.two{i a b:Rec}{k:Nat}(h:Sk i k rs)(d:a.Kind=2/\a.Seq=2+(k:Int))(f:b.Kind=3/\b.Seq=2+(k:Int)):Sk i (k+1) (rs++[a]++[b]):=by
  obtain⟨M,e,m⟩:=h.hd
  refine⟨⟨M++[a]++[b],by rw[e];simp,λr H=>?_⟩,AJ (AJ h.pw λx c=>Gh ?_) λx c=>?_,λr H=>?_,?_,?_⟩
  · simp only[aI,aD] at H
    rcases H with (H|H)|H
    · exact m r H
    · rw[H,d.1];decide
    · rw[H,f.1];decide
  · have:=h.tp x c;omega
  · rcases aI.1 c with c|c
    · have:=h.tp x c
      exact Gh ω
    · rw[aD.1 c]
      refine .inr ⟨?_,.inl ?_⟩
      · show a.Seq=b.Seq;omega
      · show a.Kind<b.Kind;omega
  · simp only[aI,aD] at H
    rcases H with (H|H)|H
    · have:=h.tp r H;omega
    · rw[H];omega
    · rw[H];omega
  · rw[aO,È,Nat.add_sub_cancel,lL (aN _),Nat.sub_self]
    show b.Seq=_
    omega
  · simp
    have:=h.ln;omega
theorem CF(h:∀r∈rs,r.Kind≠1):lastIt d rs=none:=by
  rw[uV,ē]
  intro x H
  unfold itP
  rw[a8 (h x H)];simp
theorem LT{r:Rec}(h:r.Kind=1):itP r.Name r=true:=by
  unfold itP
  rw[aU h];simp
theorem Sk.last{i:Rec}{k:Nat}(h:Sk i k rs)(H:i.Kind=1):lastIt i.Name rs=á i:=by
  obtain⟨m,e,a⟩:=h.hd
  rw[e,show i::m=[i]++m from rfl,Cz,CF a]
  show lastIt i.Name ([]++[i])=á i
  rw[qy,ae (LT H)]
theorem Md(h:lastIt d (cI z)=á r)(a:r.Length ≠ -1):itO z d=ã/\itR z d=r:=by
  have H:itO z d=true:=by unfold itO;rw[h];simpa using a
  exact⟨H,by unfold itR;rw[ae H,h];rfl⟩
theorem Om(h:∀q,q∈CI (cI z)↔q=r):bT z=[r]:=by
  refine(ER ?_ (.cons (λy H=>by cases H) .nil)).symm
  refine(List.perm_ext_iff_of_nodup (List.nodup_cons.2 ⟨σ,.nil⟩) ((List.pairwise_map.1 wz).imp λh e=>h (congrArg _ e))).2 λq=>?_
  rw[h q,aD]
theorem EM(H:r.Kind=1)(d:r.Length ≠ -1)(h:lastIt r.Name (cI z)=á r)(e:∀q∈cI z,q.Kind=1->q.Name=r.Name):bT z=[r]:=Om λq=>by
  rw[mf]
  constructor
  · rintro⟨a,b,c⟩
    have f:=ng c
    rw[e q f.1 a,h] at c
    exact(Option.some.inj c).symm
  · rintro rfl
    exact⟨H,d,h⟩
theorem CL(h:∀k,q9 z g k=â):∀k,jF z g k=(List.range k).map λi:Nat=>(i:Int)
  | 0=>rfl
  | k+1=>by rw[jF,ac wZ,CL h k,List.range_succ,List.map_append];rfl
theorem FA{n:Nat}(h:∀k,q9 z g k=â)(a:n<=z.A0.Rows.toNat):(iZ z g).length=z.A0.Rows.toNat/\((iZ z g).take n).length=n/\∀i,i<n->((iZ z g).take n).getD i 0=i:=by
  unfold iZ
  rw[CL h]
  refine⟨by rw[aS,d?],by rw[aY,aS,d?];omega,λi H=>?_⟩
  rw[bX (by rw[aY,aS,d?];omega),List.getElem_take,List.getElem_map,List.getElem_range]
end
section
variable {s:A0}{q:Nat->Int}{W g a:Int}{rs:List Rec}{z y:Wld}{r it:Rec}{xs:List UInt8}{k n m:Nat}
theorem Cg.redoP(h:Cg s [g] X q W noK rs z)(a:s.ok=ã)(f:Rs s rs)(i:W<=100000)(l:ins g 0 (s.A2-1)=ã)(m:recF s r=0)(k:r.Kind=2)(n:q g.toNat<r.Seq)(d:r.Group=g):
    (redoP z g r).1=ã/\Cg s [g] (NR X g.toNat r.Row.toNat r.Data) (Kb q g.toNat r.Seq) (W+5) noK rs (Wk.redoP z g r).2:=by
  have S:=bm a
  have p:=bH.1 l
  have H:ins g 0 (s.A2+s.A5-1)=true:=bH.2 ω
  obtain⟨b,C⟩:=h.redo a f i H m k n (λ_ q=>q) λ_=>d
  have u:=h.up a (.inr ⟨g,rfl,H⟩) f ω
  have o:wS z g 0=0:=by rw[HM u];exact vn (by rw[h.sh];exact H) (by rw[h.on];simp)
  have j:vC z g r=false:=by
    unfold vC
    rw[h.sh,a8 (by rw[m];simp),a8 (by rw[k];simp),a8 (λe=>e d)];simp
  have e:=HG o j
  have B:(Wk.redoP z g r).1=true:=by
    cases c:(Wk.redoP z g r).1
    · rw[e,c] at b;exact absurd b (by show ¬ (9:Int)=0;decide)
    · rfl
  rw[e] at C
  have E:RN s g r X=r.Data:=ae ω
  rw[E] at C
  exact⟨B,C⟩
theorem Cg.alive(h:Cg s [g] X q W noK rs z)(H:s.ok=ã)(b:ins g 0 (s.A2-1)=ã):dP z g=false:=by
  have S:=bm H
  have i:=bH.1 b
  obtain⟨L,l,c⟩:=h.len H (g:=g.toNat) ω
  unfold dP re
  rw[l,t8 _ λd a=>Bool.eq_false_iff.2 λe=>(h.wp g.toNat d ω a).1 e,h.sh]
  exact a8 (by show ¬ s.Af<((0:Nat):Int);omega)
def XK (s:A0) (g:Int) (x:List UInt8) (n k:Nat):Nat->Nat->List UInt8:=λh i=>if h=g.toNat/\i<k then im (s.Data*4).toNat n x i else å (s.Data.toNat*4) 0
structure Mk (s:A0) (g:Int) (it:Rec) (xs:List UInt8) (n k:Nat) (z:Wld):Prop where
  ex:∃rs q,Sk it k rs/\Rs s rs/\q g.toNat<=1+(k:Int)/\Cg s [g] (XK s g xs n k) q (10+10*k) noK rs z
theorem O7(a:s.ok=ã)(H:xs.length<=n*(s.Data*4).toNat)(h:k<n):(im (s.Data*4).toNat n xs k).length=s.Data.toNat*4:=by
  rw[pB h H];omega
theorem Mk.step(h:Mk s g it xs n k z)(b:s.ok=ã)(d:ins g 0 (s.A2-1)=ã)(R:xs.length<=n*(s.Data*4).toNat)(L:k<n)(Y:n<=s.Rows.toNat)(a_:n<=3):
    (mwP z g k (im (s.Data*4).toNat n xs k)).1=0/\Mk s g it xs n (k+1) (mwP z g k (im (s.Data*4).toNat n xs k)).2:=by
  have b_:=bm b
  have T:=bH.1 d
  have I:ins g 0 (s.A2+s.A5-1)=true:=bH.2 ω
  obtain⟨rs,q,m,P,hq,H⟩:=h.ex
  have W:=m.ln
  have N:=O7 b R L
  have O:ins (k:Int) 0 (s.Rows-1)=true:=bH.2 ω
  obtain⟨p,t⟩:∃p,p=im (s.Data*4).toNat n xs k:=⟨_,rfl⟩
  rw[<- t] at N ⊢
  have x:=m.next H.tp
  have X:((XK s g xs n k) g.toNat k)=å (s.Data.toNat*4) 0:=ac ω
  have f:pI z g k=å (s.Data.toNat*4) 0:=by
    have:=H.rowX b (j:=g.toNat) (i:=k) ω (λ_ q=>q) ω (by rw[X,aZ])
    rw[X,show((g.toNat:Nat):Int)=g by omega] at this
    exact this
  have M:¬ (1000000000<nxQ z\/eU z 2=ã):=by
    rw[x]
    intro c
    rcases c with c|c
    · omega
    · unfold eU at c
      rw[H.tp] at c
      simp only[bJ,ab] at c
      rcases c with c|c<;>(replace c:(200:Int)<(rs.length:Int)+2:=c;omega)
  have l:recF s (cD z g k p)=0:=by
    have:=uC (z:=z) (g:=g) (row:=k) (d:=p) ω (by rw[H.sh];exact d) (by rw[H.sh];exact O) (by rw[H.sh];omega) (by rw[f,aZ,H.sh];omega)
    rw[H.sh] at this;exact this
  obtain⟨v,hv⟩:∃v,v=cD z g k p:=⟨_,rfl⟩
  have V:v.Kind=2/\v.Seq=2+(k:Int):=by rw[hv];exact⟨rfl,x⟩
  have o:v.Group=g/\v.Row=(k:Int)/\v.Data=p:=by rw[hv];exact⟨rfl,rfl,rfl⟩
  have S:v.few:=by
    have E:(⟨#[]⟩:ByteArray).size=0:=rfl
    rw[hv]
    unfold Rec.few cD
    dsimp only
    rw[E,x,ip (by rw[f,aZ];omega),f,aZ]
    simp only[aV]
    omega
  rw[<- hv] at l
  obtain⟨y,A⟩:=H.lay (r:=v) ω
  have u:Rs s (rs++[v]):=⟨F6,nG P.ok ⟨l,S⟩⟩
  obtain⟨B,w⟩:=A.redoP b u ω d l V.1 ω o.1
  have J:(kA (nxQ z) g).Kind=3/\(kA (nxQ z) g).Seq=2+(k:Int):=⟨rfl,x⟩
  obtain⟨F,G⟩:=w.lay (r:=kA (nxQ z) g) F6
  have Q:=m.two V J
  have e:=DY (z:=z) (g:=g) (row:=k) (d:=p) M (by rw[<- hv];exact y) (by rw[<- hv];exact B)
  rw[<- hv] at e
  rw[e]
  refine⟨F,⟨_,Kb q g.toNat v.Seq,Q,?_,?_,?_⟩⟩
  · refine⟨by simp only[aO,È];omega,nG u.ok ⟨?_,?_⟩⟩
    · refine lA rfl (bH.2 (by rw[x];show 1<=2+(k:Int)/\2+(k:Int)<=1000000000;omega)) ?_ rfl
      unfold fm
      exact ae I
    · have E:(⟨#[]⟩:ByteArray).size=0:=rfl
      unfold Rec.few kA
      dsimp only
      rw[E,x]
      simp only[aV]
      omega
  · unfold Kb
    rw[ae rfl,V.2];omega
  · refine Cg.conv G (λj i K U=>?_) (λj K=>ĩ _) ω λ_ _ _ _=>Iff.rfl
    unfold NR XK
    rw[o.2.1,o.2.2,show((k:Int)).toNat=k from rfl]
    by_cases c:j=g.toNat/\i=k
    · rw[ae c,ae ⟨c.1,ω⟩,c.2,t]
    · rw[ac c]
      by_cases C:j=g.toNat/\i<k
      · rw[ae C,ae ⟨C.1,ω⟩]
      · rw[ac C,ac (λq=>by
          by_cases D:i=k
          · exact c ⟨q.1,D⟩
          · exact C ⟨q.1,ω⟩)]
theorem Mk.all(e:s.ok=ã)(H:ins g 0 (s.A2-1)=ã)(x:xs.length<=n*(s.Data*4).toNat)(c:n<=s.Rows.toNat)(d:n<=3){rows:List Int}(r:∀i,i<n->rows.getD i 0=i):
    ∀ {m k:Nat}{z:Wld},k+m=n->Mk s g it xs n k z->(mvL g rows (s.Data*4).toNat n xs m k z).1=0/\Mk s g it xs n n (mvL g rows (s.Data*4).toNat n xs m k z).2
  | 0,k,z,f,h=>⟨rfl,by
      obtain rfl:k=n:=by omega
      exact h⟩
  | m+1,k,z,f,h=>by
    obtain⟨a,b⟩:=h.step e H x ω c d
    rw[mvL,r k ω,ae a]
    exact Mk.all e H x c d r ω b
def itX (n:ByteArray) (x:List UInt8):Rec:=seqR (po n x) 1
theorem TY(b:s.ok=ã):Cg s [] (λ_ _=>å (s.Data.toNat*4) 0) (λ_=>0) 0 noK [] (eM s):=by
  refine⟨rfl,Ct b rfl rfl,rfl,rfl,rfl,⟨ĩ _,ĩ _⟩,rfl,λh d a H=>?_,λh d a H _ i c=>?_⟩
  · rw[IQ b a H]
    exact⟨λq=>(by cases q),λq=>absurd q (λq=>q)⟩
  · unfold ig
    rw[IQ b a H]
    have e:(freshD s).Ai.getD i à=kH:=by
      unfold freshD
      rw[bX (by rw[aZ];exact c),List.getElem_replicate]
    rw[e,Pr]
    exact⟨rfl,ĩ _⟩
theorem PU:nxQ (eM s)=1:=by
  have e:cI (eM s)=[]:=rt (rs:=[]) .nil rfl
  unfold nxQ qT
  rw[e];rfl
theorem Qh(a:s.ok=ã)(h:(bG (eM s) d xs).Code=0):
    bU d=0/\dL s xs.length=0/\bG (eM s) d xs=⟨0,layZ (eM s) (itX d xs)⟩/\recF s (itX d xs)=0/\(itX d xs).few /\
      Cg s [] (λ_ _=>å (s.Data.toNat*4) 0) (λ_=>0) 2 noK [itX d xs] (layZ (eM s) (itX d xs)):=by
  have S:=bm a
  have u:upF (eM s)=0:=by
    unfold upF
    rw[ac (by rw[EP a];simp),ac (by show ¬ â=ã;simp)]
  have H:bU d=0:=by
    by_cases c:bU d=0
    · exact c
    · unfold bG at h
      rw[r6 u c] at h;exact absurd h c
  have g:dL s xs.length=0:=by
    by_cases c:dL s xs.length=0
    · exact c
    · have e:=(GM (z:=eM s) (d:=d) (a:=xs) c).1
      unfold bG at h
      rw[e] at h
      have f:dL s xs.length≠9:=by
        unfold dL
        split
        · decide
        · split<;>decide
      rw[show(eM s).A0=s from rfl,u4 u H ⟨c,f⟩] at h
      exact absurd h c
  have t:¬ (eM s).A0.Ap<oJ (eM s)+(xs.length:Int):=by
    intro c
    have e:=(G3 (z:=eM s) (d:=d) (a:=xs) g c).1
    unfold bG at h
    rw[e,u4 u H dv] at h
    exact absurd h dv
  obtain⟨E,i⟩:=QP (z:=eM s) (d:=d) (a:=xs) g t
  obtain⟨n,N⟩:=kE (z:=eM s) (r:=po d xs) (by rw[PU];decide)
  rw[PU] at n N
  obtain⟨C,b⟩:=(TY a).lay (r:=itX d xs) dv
  have l:=fV g
  have j:=jE H
  refine⟨H,g,?_,LY H g dv,?_,b⟩
  · unfold bG
    rw[E,i,n,N,show seqR (po d xs) 1=itX d xs from rfl,C]
    exact yL u H (.inl rfl)
  · unfold Rec.few itX seqR po
    dsimp only
    simp only[aV]
    omega
theorem RR(h:Cg s [g] X q W noK rs z)(H:Sk (itX d xs) k rs):itO z d=ã/\itR z d=itX d xs:=by
  have e:=rt H.pw h.tp
  refine Md ?_ ?_
  · rw[e];exact H.last (i:=itX d xs) rfl
  · show((xs.length:Nat):Int) ≠ -1;omega
theorem Ly{o:List Int}(h:Cg s o X q W noK [itX d xs] z):bT z=[itX d xs]:=by
  have e:=rt (Sk.start (it:=itX d xs) rfl).pw h.tp
  refine EM rfl (by show((xs.length:Nat):Int) ≠ -1;omega) ?_ λq H _=>?_
  · rw[e];exact(Sk.start (it:=itX d xs) rfl).last rfl
  · rw[e,aD] at H;rw[H]
theorem JO{P:List UInt8}{m:Nat}:∀k,P.take (k*m)++cut P (k*m) (k*m+m)=P.take (k*m+m):=λk=>by
  unfold cut
  rw[Nat.add_sub_cancel_left,List.take_add]
theorem Fc{rows:List Int}(H:s.ok=ã)(h:Cg s [g] (XK s g xs n n) q W noK rs z)(a:ins g 0 (s.A2-1)=ã)(x:xs.length<=n*(s.Data*4).toNat)(c:n<=s.Rows.toNat)(r:∀i,i<n->rows.getD i 0=i):
    ∀k,k<=n->oz z g rows k=(xs++å (n*(s.Data*4).toNat-xs.length) 0).take (k*(s.Data*4).toNat)
  | 0,_=>by simp[oz]
  | k+1,e=>by
    have S:=bm H
    have d:=bH.1 a
    have X:XK s g xs n n g.toNat k=im (s.Data*4).toNat n xs k:=ae ⟨rfl,ω⟩
    have b:=h.rowX H (j:=g.toNat) (i:=k) ω (λ_ q=>q) ω (by rw[X];exact O7 H x ω)
    rw[X,show((g.toNat:Nat):Int)=g by omega] at b
    rw[oz,Fc H h a x c r k ω,r k ω,b]
    unfold im
    rw[JO,Ō]
theorem Ie(h:s.ok=ã)(e_:(bG (eM s) d xs).Code=0):
    bU d=0/\(xs.length:Int)<=36/\dL s xs.length=0/\∃y w,bG (eM s) d xs=⟨0,y⟩/\dZ y (dy s d)=⟨0,w⟩/\y.Ok/\w.Ok/\fY y<=200000/\fY w<=200000/\c7 y=0 /\
      jU w d=⟨0,xs⟩/\oJ y=xs.length/\(nj w (dy s d)).length<=1 /\
      (s.Rows<dd s xs.length->(dsF w (dy s d)).Code=4) /\
      (dd s xs.length<=s.Rows->∃x,dsF w (dy s d)=⟨0,x⟩/\x.Ok/\fY x<=200000/\c7 x=0/\jU x d=⟨0,xs⟩/\oJ x=0):=by
  have E_:=bm h
  obtain⟨u,B,hp,r_,j_,j⟩:=Qh h e_
  have i:ins (dy s d) 0 (s.A2-1)=true:=rO h
  have k_:=bH.1 i
  have f:ins (dy s d) 0 (s.A2+s.A5-1)=true:=bH.2 ω
  have hl:=fV B
  have o:Rs s [itX d xs]:=⟨by show 1<=20;decide,λr H=>by rw[aD.1 H];exact⟨r_,j_⟩⟩
  obtain⟨T,t⟩:=j.turnOn h o dv f
  obtain⟨y,hy⟩:∃y,y=layZ (eM s) (itX d xs):=⟨_,rfl⟩
  rw[<- hy] at hp j T t
  obtain⟨w,M⟩:∃w,w=(dZ y (dy s d)).Wd:=⟨_,rfl⟩
  rw[<- M] at t
  obtain⟨g,I⟩:∃g,g=dy s d:=⟨_,rfl⟩
  rw[<- I] at i k_ f T t M ⊢
  have d_:dZ y g=⟨0,w⟩:=by rw[M,<- T]
  have C:Sk (itX d xs) 0 [itX d xs]:=Sk.start rfl
  have p:Oo s [g] := .inr ⟨g,rfl,f⟩
  have L:=t.up h p o dv
  obtain⟨i1,i2⟩:=RR t C
  have D:(itX d xs).Data=xs:=rfl
  have ib:jU w d=⟨0,xs⟩:=by
    obtain⟨a,b⟩:=Jk i1 (by rw[i2,D];omega)
    unfold jU
    rw[ae L,ae u,ae a,b,i2];rfl
  have lv:=Ly t
  have y_:=Ly j
  have v_:oJ y=xs.length:=by
    unfold oJ
    rw[y_]
    show jm [itX d xs] 1=_
    rw[jm,jm]
    show(0:Int)+((itX d xs).Data.length:Int)=_
    rw[D];omega
  have h_:uo w g (itX d xs)=false:=by
    unfold uo
    have E:dy w.A0 (itX d xs).Name=g:=by rw[t.sh,I];rfl
    rw[E,D,a8 ω];simp
  have G:nj w g=[itX d xs]:=by
    unfold nj wv
    rw[lv]
    simp[h_]
  have b_:∀k,q9 w g k=false:=λk=>by
    unfold q9
    rw[lv,rt C.pw t.tp]
    simp[tkI,tkM,itX,seqR,po]
  have C_:=qA h B
  obtain⟨n,X⟩:∃n,n=(dd s xs.length).toNat:=⟨_,rfl⟩
  have i_:=(FA (z:=w) (g:=g) (n:=0) b_ ω).1
  have U:AF w g (itX d xs)=decide (dd s xs.length<=s.Rows):=by
    unfold AF
    rw[i_,t.sh]
    show decide (dd s ((xs.length:Nat):Int)<=((s.Rows.toNat:Nat):Int))=_
    congr 1
    rw[bQ ω]
  have R:=t.alive h i
  have S:dsQ w g=0:=by
    unfold dsQ
    rw[t.sh,ae i]
    exact vn (by rw[t.sh];exact f) (by rw[t.on];simp)
  refine⟨u,ω,B,y,w,hp,d_,j.ok h dv,t.ok h dv,j.sz h (.inl rfl) o,t.sz h p o,j.world h (.inl rfl) o dv,ib,v_,by rw[G];exact aN 1,λB_=>?_,λw_=>?_⟩
  · have E:dsI w g=(4,w):=by
      unfold dsI nxO
      rw[ac (by rw[R];simp),G]
      simp[U,show ¬ dd s xs.length<=s.Rows by omega]
    unfold dsF
    rw[E,u4 L S ⟨by show(4:Int)≠0;decide,by show(4:Int)≠9;decide⟩]
  · have E:dsI w g=dsP w g (itX d xs):=by
      unfold dsI nxO
      rw[ac (by rw[R];simp),G]
      simp[U,w_]
    have J:pnN w (itX d xs)=n:=by
      unfold pnN
      rw[t.sh,X];rfl
    have c_:xs.length<=n*(s.Data*4).toNat:=by
      have e:((n*(s.Data*4).toNat:Nat):Int)=dd s xs.length*(s.Data*4):=by
        rw[Int.natCast_mul,X,bQ ω,bQ ω]
      omega
    obtain⟨_,F,N⟩:=FA (z:=w) (g:=g) (n:=n) b_ (by rw[t.sh];omega)
    have a_:du w g (itX d xs)=(iZ w g).take n:=by unfold du;rw[J]
    have f_:Mk s g (itX d xs) xs n 0 w:=⟨_,_,C,o,by show(0:Int)<=_;omega,Cg.conv t (λx_ D_ hj hi=>by unfold XK;rw[ac ω]) (λx_ hj=>ĩ _) ω λ_ _ _ _=>Iff.rfl⟩
    have n_:mvA w g (itX d xs)=mvL g ((iZ w g).take n) (s.Data*4).toNat n xs n 0 w:=by
      unfold mvA
      rw[a_,J,t.sh];rfl
    obtain⟨m1,m2⟩:=Mk.all h i c_ ω ω N (m:=n) (k:=0) ω f_
    rw[<- n_] at m1 m2
    obtain⟨rs,q,A,s_,hq,P⟩:=m2.ex
    have Y:=A.next P.tp
    have o_:=C.next t.tp
    have z_:=A.ln
    obtain⟨v,hv⟩:∃v,v=seqR (oD (itX d xs) ((iZ w g).take n)) (2+(n:Int)):=⟨_,rfl⟩
    have O:=(u5 (z:=w) (g:=g) (n:=n) (by rw[t.sh];exact h)).1
    have u_:recF s v=0:=by
      rw[hv]
      refine LL u B ?_ (by rw[t.sh] at O;exact O) ω
      rw[F]
      show((n:Nat):Int)=dd s ((xs.length:Nat):Int)
      omega
    have V:v.Kind=1/\v.Seq=2+(n:Int)/\v.Name=d/\v.Length=xs.length/\v.Rows=(iZ w g).take n/\v.Data=[]:=by rw[hv];exact⟨rfl,rfl,rfl,rfl,rfl,rfl⟩
    have A_:=jE u
    have v2:v.few:=by
      rw[hv]
      unfold Rec.few seqR oD
      dsimp only
      rw[F]
      simp only[aV]
      have e:(itX d xs).Name=d:=rfl
      have e2:(itX d xs).Length=xs.length:=rfl
      rw[e,e2]
      omega
    obtain⟨l1,l⟩:=P.lay (r:=v) ω
    have K:Rs s (rs++[v]):=⟨F6,nG s_.ok ⟨u_,v2⟩⟩
    obtain⟨x,hx⟩:∃x,x=layZ (mvA w g (itX d xs)).2 v:=⟨_,rfl⟩
    rw[<- hx] at l
    have p_:(rs++[v]).Pairwise (λa b=>kLt (eQ a) (eQ b)):=AJ A.pw λa f=>Gh (by have:=A.tp a f;omega)
    have Q:=rt p_ l.tp
    have W:lastIt d (cI x)=á v:=by
      rw[Q,qy,ae]
      rw[<- V.2.2.1];exact LT V.1
    have g_:dsP w g (itX d xs)=(0,x):=by
      unfold dsP
      obtain⟨n1,n2⟩:=kE (z:=(mvA w g (itX d xs)).2) (r:=oD (itX d xs) ((iZ w g).take n)) (by rw[Y];omega)
      rw[Y,<- hv] at n1 n2
      rw[J,a_,ac,ac (by rw[m1];simp),n1,n2,l1,hx]
      rw[o_]
      intro c
      rcases c with c|c
      · omega
      · unfold eU at c
        rw[t.tp] at c
        simp only[bJ,ab] at c
        rcases c with c|c<;>(replace c:(200:Int)<((1:Nat):Int)+((2*n+1:Nat):Int):=c;omega)
    refine⟨x,?_,l.ok h ω,l.sz h p K,l.world h p K ω,?_,?_⟩
    · unfold dsF
      rw[E,g_]
      exact yL L S (.inl rfl)
    · obtain⟨j1,j2⟩:=Md W (by rw[V.2.2.2.1];omega)
      have t_:=l.up h p K ω
      have hh:dy x.A0 d=g:=by rw[l.sh,I]
      obtain⟨q1,q2⟩:=Jc j1 (by rw[j2,V.2.2.2.2.2];simp)
      rw[hh] at q1 q2
      have l_:uY x g=0:=Nj (by rw[l.sh];exact f) (by rw[l.on];simp) (l.alive h i)
      unfold jU
      rw[ae t_,ae u,ae (q1.trans l_),q2,j2,V.2.2.2.2.1,V.2.2.2.1,F,Fc h l i c_ ω N n (aN _)]
      congr 1
      rw[List.take_take,Nat.min_eq_left ω,show((xs.length:Nat):Int).toNat=xs.length from rfl,List.take_left]
    · have m_:bT x=[v]:=by
        refine EM V.1 (by rw[V.2.2.2.1];omega) (by rw[V.2.2.1];exact W) λr H q_=>?_
        rw[Q] at H
        obtain⟨ms,em,hm⟩:=A.hd
        rcases aI.1 H with H|H
        · rw[em] at H
          rcases aM.1 H with H|H
          · rw[H,V.2.2.1];rfl
          · exact absurd q_ (hm r H)
        · rw[aD.1 H]
      unfold oJ
      rw[m_]
      show jm [v] 1=0
      rw[jm,jm]
      show(0:Int)+(v.Data.length:Int)=0
      rw[V.2.2.2.2.2];rfl
end
end Go.Wk
namespace Go.Wk
open Go.Proofs Rp Go.Proofs.Tryz
set_option maxRecDepth 10000
variable {nm:ByteArray}{u A B E:Option ô}{t:List UInt8}{z:Wld}{C D G y:Nat}{g:Int}
theorem p8{w:ä}(M:z.Ok)(S:aj w E z.A2 G)(P:aj w A z.On C)(R:aj w B z.A3 D)(s:Gw 100000000 z)(T:(nj z g).length<=1)(N:(dsI z g).1≠0/\(dsI z g).1≠9):am 14 [z.val E G A C B D,ag g] w λv W=>∃t y u F x I,v=(dsF z g).val t y u F x I/\Res w W [ag (dsF z g).Code,ag (dsF z g).Wd.A0.A2,ag (dsF z g).Wd.A0.A5,ag (dsF z g).Wd.A0.Data,ag (dsF z g).Wd.A0.Af,ag (dsF z g).Wd.A0.Rows,ag (dsF z g).Wd.A0.Cap,ag (dsF z g).Wd.A0.An,ag (dsF z g).Wd.A0.Ao,ag (dsF z g).Wd.A0.Ap,.slice t (dsF z g).Wd.A2.length y,.slice u (dsF z g).Wd.On.length F,.slice x (dsF z g).Wd.A3.length I,ag (dsF z g).Wd.Aa,ag (dsF z g).Wd.Stop,.bool (dsF z g).Wd.Down] (dsF z g):=by
 have H:=cx M;obtain⟨H,a⟩:=S;obtain⟨H,b⟩:=P;obtain⟨H,c⟩:=R;have L:=s.up dv;have H:=s.hs;refine bv func14 Z (λQ K U=>?_);have H:=Sep.start (aC a (aC b (aC c ba)));refine aT (ci aB Z H (λH a b c d=>cz aB Z Č d (λH a b c d=>aX 270115 d ?_)));refine sE func42 Z (kb η (d.Ae 0 Z) (d.Ae 1 Z) (d.Ae 2 Z)) d (λH a b=>sA Z (aH (Hc (b:=Unit) b [(1,_),(2,_),(4,_)] bf (λ_=>[(5,ag (dsQ z g))]) (λ_=>True) ?_ (λ_ H e _=>?_))))
 .refine br 42762051695 (λH=>?_) (λH=>?_)
  .exfalso;omega
  refine aX 1322898 b ?_;refine sE func50 Z (iu η) b (λH a b=>sV Z (cj Z) (br 2804 (λH=>?_) (λH=>?_)))
  .exact ce (sA Z (aH ⟨(),⟨eqI (Gf m9).symm,Z,Z,Z,trivial⟩,b,trivial⟩))
  exact ce (sM Z (sE func51 Z (iH (b.box 0 Z) η (b.Ae 0 Z) (b.Ae 1 Z) (b.Ae 2 Z) η) b (λa b c=>sA Z (aH ⟨(),⟨eqI (PC m9).symm,Z,Z,Z,trivial⟩,c,trivial⟩))))
 dsimp only[jf,lNA];refine br 166973733 (λH=>?_) (λH=>?_)
 .refine aT (sM Z (sV Z (bM dQ Z Z) (bw aB jl Z e 1 Z (λH a b=>aH (dT K (b.box 1 Z) Z ?_)))));rw[dsF,r6 L ω];exact⟨b.ext,ç,0,ç,0,ç,0,Z,iJ (by unfold Ak;have:=Qd (z:=z) (g:=g);(try dsimp only);omega)⟩
 have O:=L;have J:dsQ z g=0:=by omega
 have H:=Lf J;refine bi (aW ?_);have V:fY z<=1048576:=by have:=s.sz;omega
 refine aX 16886 e ?_;refine sC func33 Z (fU η (e.Ae 0 Z) (e.Ae 1 Z) (e.Ae 2 Z) ξ) (λH a f=>?_);obtain⟨h,j,k,l,m,n,o,rfl,f⟩:=f;obtain⟨H,a⟩:=e.res h f;obtain⟨H,b,c,d,e,f,h,j⟩:=l5 (a.A4 2 Z);have e:=a.part 2 Z [A4 [ak _ z.A2 _] z.A2 H,A4 [ak _ z.On _] z.On b,A4 [ak _ z.A3 _] z.A3 c] (all_cons f (all_cons h (all_cons j σ))) DQ;refine cz aB Z Ç e (λH a b c d=>bw aB ff Z d 6 Z (λH a b=>?_));obtain⟨H,p⟩:=bt (b.Ar 6 3 4 5 z Z M);refine aH (aT (sM Z (sC func52 Z (ki (p.B1 6 Z) (p.Aj (i:=6) Z) ξ ξ ξ) (λH a q=>?_))));obtain⟨rfl,r⟩:=q;obtain⟨H,a⟩:=p.Bb 6 Z r;obtain⟨H,b,c,d,e,f,h,j,k,l,m⟩:=a.B3 6 Z;have H:=cx l;refine aX 1318692 m ?_;refine sE func35 Z (nI η (m.As 8 Z) (m.As 9 Z) (m.As 10 Z) ξ) m (λH a b=>bw aB jl Z b 1 Z (λH a b=>aH (dT K (b.box 1 Z) Z ?_)));rw[dsF,u4 O J N];exact⟨b.ext,ç,0,ç,0,ç,0,Z,iJ (by unfold Ak;have:=QH (z:=z) (g:=g);(try dsimp only);omega)⟩

theorem rQ{w:ä}(N:z.Ok)(T:aj w E z.A2 G)(R:aj w A z.On C)(S:aj w B z.A3 D)(s:Gw 100000000 z)(U:(nj z g).length<=1)(O:(dsI z g).1=0\/(dsI z g).1=9):am 14 [z.val E G A C B D,ag g] w λv W=>∃t F u I y J,v=(dsF z g).val t F u I y J/\Res w W [ag (dsF z g).Code,ag (dsF z g).Wd.A0.A2,ag (dsF z g).Wd.A0.A5,ag (dsF z g).Wd.A0.Data,ag (dsF z g).Wd.A0.Af,ag (dsF z g).Wd.A0.Rows,ag (dsF z g).Wd.A0.Cap,ag (dsF z g).Wd.A0.An,ag (dsF z g).Wd.A0.Ao,ag (dsF z g).Wd.A0.Ap,.slice t (dsF z g).Wd.A2.length F,.slice u (dsF z g).Wd.On.length I,.slice y (dsF z g).Wd.A3.length J,ag (dsF z g).Wd.Aa,ag (dsF z g).Wd.Stop,.bool (dsF z g).Wd.Down] (dsF z g):=by
 have H:=cx N;obtain⟨H,a⟩:=T;obtain⟨H,b⟩:=R;obtain⟨H,c⟩:=S;have M:=s.up dv;have H:=s.hs;refine bv func14 Z (λQ L V=>?_);have H:=Sep.start (aC a (aC b (aC c ba)));refine aT (ci aB Z H (λH a b c d=>cz aB Z Č d (λH a b c d=>aX 270115 d ?_)));refine sE func42 Z (kb η (d.Ae 0 Z) (d.Ae 1 Z) (d.Ae 2 Z)) d (λH a b=>sA Z (aH (Hc (b:=Unit) b [(1,_),(2,_),(4,_)] bf (λ_=>[(5,ag (dsQ z g))]) (λ_=>True) ?_ (λ_ H e _=>?_))))
 .refine br 42762051695 (λH=>?_) (λH=>?_)
  .exfalso;omega
  refine aX 1322898 b ?_;refine sE func50 Z (iu η) b (λH a b=>sV Z (cj Z) (br 2804 (λH=>?_) (λH=>?_)))
  .exact ce (sA Z (aH ⟨(),⟨eqI (Gf m9).symm,Z,Z,Z,trivial⟩,b,trivial⟩))
  exact ce (sM Z (sE func51 Z (iH (b.box 0 Z) η (b.Ae 0 Z) (b.Ae 1 Z) (b.Ae 2 Z) η) b (λa b c=>sA Z (aH ⟨(),⟨eqI (PC m9).symm,Z,Z,Z,trivial⟩,c,trivial⟩))))
 dsimp only[jf,lNA];refine br 166973733 (λH=>?_) (λH=>?_)
 .refine aT (sM Z (sV Z (bM dQ Z Z) (bw aB jl Z e 1 Z (λH a b=>aH (dT L (b.box 1 Z) Z ?_)))));rw[dsF,r6 M ω];exact⟨b.ext,ç,0,ç,0,ç,0,Z,iJ (by unfold Ak;have:=Qd (z:=z) (g:=g);(try dsimp only);omega)⟩
 have P:=M;have K:dsQ z g=0:=by omega
 have H:=Lf K;refine bi (aW ?_);have X:fY z<=1048576:=by have:=s.sz;omega
 refine aX 16886 e ?_;refine sC func33 Z (fU η (e.Ae 0 Z) (e.Ae 1 Z) (e.Ae 2 Z) ξ) (λH a f=>?_);obtain⟨h,j,k,l,m,n,o,rfl,f⟩:=f;obtain⟨H,a⟩:=e.res h f;obtain⟨H,b,c,d,e,f,h,j⟩:=l5 (a.A4 2 Z);have e:=a.part 2 Z [A4 [ak _ z.A2 _] z.A2 H,A4 [ak _ z.On _] z.On b,A4 [ak _ z.A3 _] z.A3 c] (all_cons f (all_cons h (all_cons j σ))) DQ;refine cz aB Z Ç e (λH a b c d=>bw aB ff Z d 6 Z (λH a b=>?_));obtain⟨H,p⟩:=bt (b.Ar 6 3 4 5 z Z N);refine aH (aT (sM Z (sC func52 Z (ki (p.B1 6 Z) (p.Aj (i:=6) Z) ξ ξ ξ) (λH a q=>?_))));obtain⟨rfl,r⟩:=q;obtain⟨H,a⟩:=p.Bb 6 Z r;obtain⟨H,b,c,d,e,f,h,j,k,l,m⟩:=a.B3 6 Z;have H:=cx l;refine aX 1318692 m ?_;refine sE func35 Z (mU η (m.As 8 Z) (m.As 9 Z) (m.As 10 Z) Hm) m (λH a b=>bw aB jl Z b 1 Z (λH a b=>aH (dT L (b.box 1 Z) Z ?_)));rw[dsF,yL P K O];exact⟨b.ext,_,_,_,_,_,_,Z,WldResult.out (x:=⟨(dsI z g).1,(dsI z g).2⟩) (b.au_pk 1792) ⟨(by have:=QH (z:=z) (g:=g);show Ak ((dsI z g).1);unfold Ak;omega),η⟩⟩

theorem ut{w:ä}(K:z.Ok)(l:aj w E z.A2 G)(j:aj w A z.On C)(k:aj w B z.A3 D)(i:Gw 100000000 z)(h:(nj z g).length<=1):am 14 [z.val E G A C B D,ag g] w λv W=>∃a d b e c f,v=(dsF z g).val a d b e c f/\Res w W [ag (dsF z g).Code,ag (dsF z g).Wd.A0.A2,ag (dsF z g).Wd.A0.A5,ag (dsF z g).Wd.A0.Data,ag (dsF z g).Wd.A0.Af,ag (dsF z g).Wd.A0.Rows,ag (dsF z g).Wd.A0.Cap,ag (dsF z g).Wd.A0.An,ag (dsF z g).Wd.A0.Ao,ag (dsF z g).Wd.A0.Ap,.slice a (dsF z g).Wd.A2.length d,.slice b (dsF z g).Wd.On.length e,.slice c (dsF z g).Wd.A3.length f,ag (dsF z g).Wd.Aa,ag (dsF z g).Wd.Stop,.bool (dsF z g).Wd.Down] (dsF z g):=by
 by_cases H:(dsI z g).1=0\/(dsI z g).1=9
 .exact rQ K l j k i h H
 exact p8 K l j k i h ω

theorem y3{w:ä}{s:A0}(m:nm.size<=1048576):am 11 [s.v,.string nm] w λv W=>v=(xd s nm).val:=by
 have g:nm.size<=Ë:=by unfold Ë;omega
 refine bv func11 Z (λQ h N=>?_);have H:=Sep.start (w:=w) (F:=[]) σ;refine aT (ci aB Z H (λH a c d e=>cz aB Z zeroValue40 e (λH a c d e=>aX 4321875 e ?_)));refine sE func20 Z i9 e (λH a c=>br 166973732 (λH=>?_) (λH=>?_))
 .refine aT (sM Z (sV Z (bM nE Z Z) (bw aB K7 Z c 1 Z (λH a d=>aH (dT h (d.box 1 Z) Z (⟨d.ext,?_⟩))))));rw[OC ω]
  rfl
 have f:=gS (s:=s) ω;have S:=bm f;refine bi (aW (aT (sM Z (sE func40 Z (kV η) c (λH a c=>br 166973732 (λH=>?_) (λH=>?_))))))
 .refine aT (sM Z (sV Z (bM nE Z Z) (bw aB K7 Z c 1 Z (λH a d=>aH (dT h (d.box 1 Z) Z (⟨d.ext,?_⟩))))));rw[Rv ω ω]
  rfl
 have n:=jE (b:=nm) ω;refine aX 1318702 c ?_;refine sE func41 Z (gZ ω ω) c (λH a c=>sV Z (bM nE Z Z) (bw aB K7 Z c 1 Z (λH a c=>aH (dT h (c.box 1 Z) Z (⟨c.ext,?_⟩)))));rw[FI ω ω]
 rfl

theorem wK{w:ä}{s:A0}{l:Int}(L:Ak l):am 15 [s.v,ag l] w λv W=>v=(BV s l).val:=by
 have H:=cx L;refine bv func15 Z (λQ h N=>?_);have H:=Sep.start (w:=w) (F:=[]) σ;refine aT (ci aB Z H (λH a b c d=>cz aB Z zeroValue40 d (λH a b c d=>aX 4321875 d ?_)));refine sE func20 Z i9 d (λH a b=>br 166973732 (λH=>?_) (λH=>?_))
 .refine aT (sM Z (sV Z (bM nE Z Z) (bw aB K7 Z b 1 Z (λH a c=>aH (dT h (c.box 1 Z) Z (⟨c.ext,?_⟩))))));rw[Nn ω]
  rfl
 have e:=gS (s:=s) ω;refine aX 1318702 b ?_;refine sE func53 Z (iL η gQ) b (λH a b=>aG 18848237430769 ?_);refine sV Z (bM nE Z Z) (bw aB K7 Z b 1 Z (λH a b=>aH (dT h (b.box 1 Z) Z (⟨b.ext,?_⟩))));rw[DM ω]
 rfl

theorem mM{w:ä}(K:z.Ok)(i:aj w E z.A2 G)(f:aj w A z.On C)(g:aj w B z.A3 D)(j:fY z<=1048576):am 17 [z.val E G A C B D] w λv W=>v=(CZ z).val:=by
 have H:=cx K;obtain⟨H,a⟩:=i;obtain⟨H,b⟩:=f;obtain⟨H,c⟩:=g;refine bv func17 Z (λQ e N=>?_);have H:=Sep.start (aC a (aC b (aC c ba)));refine aT (ci aB Z H (λH a b c d=>cz aB Z zeroValue40 d (λH a b c d=>aX 4321875 d ?_)));refine sE func54 Z (nV η (d.Ae 0 Z) (d.Ae 1 Z) (d.Ae 2 Z)) d (λH a b=>br 166973732 (λH=>?_) (λH=>?_))
 .refine aT (sM Z (sV Z (bM nE Z Z) (bw aB K7 Z b 1 Z (λH a c=>aH (dT e (c.box 1 Z) Z (⟨c.ext,?_⟩))))));rw[J2 ω]
  rfl
 have h:c7 z=0:=by omega
 have T:=(c5 h).2.2.2.1;have l:=nF h;refine bi (aT (sE func55 Z (lQ (b.box 0 Z) η (aJ (b.Ab 0 Z)) (aJ (b.Ab 1 Z)) (aJ (b.Ab 2 Z)) ξ ξ ξ) b (λH a b=>sV Z (bM nE Z Z) (bw aB K7 Z b 1 Z (λH a b=>aH (dT e (b.box 1 Z) Z (⟨b.ext,?_⟩)))))));rw[yU h]
 rfl

theorem tj{w:ä}(P:z.Ok)(V:aj w E z.A2 G)(T:aj w A z.On C)(U:aj w B z.A3 D)(S:aj w u t y)(O:fY z<=1048576)(b_:nm.size<=1048576)(d_:t.length<=1048576)(R:puC z nm t≠0/\puC z nm t≠9):am 9 [z.val E G A C B D,.string nm,ak u t y] w λv W=>∃F K I L J M,v=(bG z nm t).val F K I L J M/\Res w W [ag (bG z nm t).Code,ag (bG z nm t).Wd.A0.A2,ag (bG z nm t).Wd.A0.A5,ag (bG z nm t).Wd.A0.Data,ag (bG z nm t).Wd.A0.Af,ag (bG z nm t).Wd.A0.Rows,ag (bG z nm t).Wd.A0.Cap,ag (bG z nm t).Wd.A0.An,ag (bG z nm t).Wd.A0.Ao,ag (bG z nm t).Wd.A0.Ap,.slice F (bG z nm t).Wd.A2.length K,.slice I (bG z nm t).Wd.On.length L,.slice J (bG z nm t).Wd.A3.length M,ag (bG z nm t).Wd.Aa,ag (bG z nm t).Wd.Stop,.bool (bG z nm t).Wd.Down] (bG z nm t):=by
 have H:=cx P;obtain⟨H,a⟩:=V;obtain⟨H,c⟩:=T;obtain⟨H,d⟩:=U;obtain⟨g_,X⟩:=S;refine bv func9 Z (λQ N hN=>?_);have H:=Sep.start (aC a (aC c (aC d (aC X ba))));refine aT (ci aB Z H (λH a c d e=>cz aB Z Č e (λH a c d e=>aX 21099091 e ?_)));refine sE func32 Z (kD η (e.Ae 0 Z) (e.Ae 1 Z) (e.Ae 2 Z) ξ) e (λH a f=>br 166973732 (λH=>?_) (λH=>?_))
 .refine aT (sM Z (sV Z (bM dQ Z Z) (bw aB jl Z f 1 Z (λa c d=>aH (dT N (d.box 1 Z) Z ?_)))))
  by_cases q:upF z=0
  .have o:bU nm≠0:=by have:=H;rwa[ae q] at this
   rw[bG,r6 q o,ae q];exact⟨d.ext,ç,0,ç,0,ç,0,Z,iJ G2⟩
  rw[bG,xE q,ac q];exact⟨d.ext,ç,0,ç,0,ç,0,Z,iJ xz⟩
 refine bi (aW ?_);have x:upF z=0:=by
  by_cases q:upF z=0
  .exact q
  have:=H;rw[ac q] at this;omega
 obtain⟨n,a_⟩:=uL x;obtain⟨hs,Y,hO⟩:=c5 n;have hT:=(c5 n).2.2.2.1;obtain⟨a,c,_,_⟩:=kM n;have c_:=nF n;have hq:=nT n;have o:bU nm=0:=by have:=H;rw[ae x] at this;omega
 have H:=rH o;refine aX 16886 f ?_;refine sC func33 Z (fU η (f.Ae 0 Z) (f.Ae 1 Z) (f.Ae 2 Z) ξ) (λH a g=>?_);obtain⟨h,j,k,l,m,e_,f_,rfl,g⟩:=g;obtain⟨H,a⟩:=f.res h g;obtain⟨H,c,d,e,f,g,h,j⟩:=l5 (a.A4 2 Z);have f:=a.part 2 Z [A4 [ak _ z.A2 _] z.A2 H,A4 [ak _ z.On _] z.On c,A4 [ak _ z.A3 _] z.A3 d] (all_cons g (all_cons h (all_cons j σ))) zy;refine cz aB Z Ç f (λH a c d e=>bw aB ff Z e 6 Z (λH a c=>?_));obtain⟨H,p⟩:=bt (c.Ar 6 3 4 5 z Z P);refine aH (aT (sR 2 Z (sC func34 Z (lU (p.B1 6 Z) (p.Aj (i:=6) Z) (aJ (p.Ab 3 Z)) (λb O=>p.off 3 Z 6 Z O) ξ ξ ξ ξ ξ ξ ξ ξ) (λH a r=>?_))));obtain⟨rfl,s⟩:=r;obtain⟨H,a⟩:=p.Bb 6 Z s;obtain⟨H,c,d,e,f,g,h,j,k,l,m⟩:=a.B3 6 Z;have H:=cx l;refine aX 1318692 m ?_;refine sE func35 Z (nI η (m.As 8 Z) (m.As 9 Z) (m.As 10 Z) ξ) m (λH a c=>bw aB jl Z c 1 Z (λH a c=>aH (dT N (c.box 1 Z) Z ?_)));rw[bG,u4 x o R];exact⟨c.ext,ç,0,ç,0,ç,0,Z,iJ (by unfold Ak;have:=Ha (z:=z) (d:=nm) (a:=t);(try dsimp only);omega)⟩

theorem uk{w:ä}(R:z.Ok)(Y:aj w E z.A2 G)(U:aj w A z.On C)(V:aj w B z.A3 D)(T:aj w u t y)(P:fY z<=1048576)(b_:nm.size<=1048576)(d_:t.length<=1048576)(S:puC z nm t=0\/puC z nm t=9):am 9 [z.val E G A C B D,.string nm,ak u t y] w λv W=>∃I L J M K N,v=(bG z nm t).val I L J M K N/\Res w W [ag (bG z nm t).Code,ag (bG z nm t).Wd.A0.A2,ag (bG z nm t).Wd.A0.A5,ag (bG z nm t).Wd.A0.Data,ag (bG z nm t).Wd.A0.Af,ag (bG z nm t).Wd.A0.Rows,ag (bG z nm t).Wd.A0.Cap,ag (bG z nm t).Wd.A0.An,ag (bG z nm t).Wd.A0.Ao,ag (bG z nm t).Wd.A0.Ap,.slice I (bG z nm t).Wd.A2.length L,.slice J (bG z nm t).Wd.On.length M,.slice K (bG z nm t).Wd.A3.length N,ag (bG z nm t).Wd.Aa,ag (bG z nm t).Wd.Stop,.bool (bG z nm t).Wd.Down] (bG z nm t):=by
 have H:=cx R;obtain⟨H,a⟩:=Y;obtain⟨H,c⟩:=U;obtain⟨H,d⟩:=V;obtain⟨g_,X⟩:=T;refine bv func9 Z (λQ O hN=>?_);have H:=Sep.start (aC a (aC c (aC d (aC X ba))));refine aT (ci aB Z H (λH a c d e=>cz aB Z Č e (λH a c d e=>aX 21099091 e ?_)));refine sE func32 Z (kD η (e.Ae 0 Z) (e.Ae 1 Z) (e.Ae 2 Z) ξ) e (λH a f=>br 166973732 (λH=>?_) (λH=>?_))
 .refine aT (sM Z (sV Z (bM dQ Z Z) (bw aB jl Z f 1 Z (λa c d=>aH (dT O (d.box 1 Z) Z ?_)))))
  by_cases q:upF z=0
  .have o:bU nm≠0:=by have:=H;rwa[ae q] at this
   rw[bG,r6 q o,ae q];exact⟨d.ext,ç,0,ç,0,ç,0,Z,iJ G2⟩
  rw[bG,xE q,ac q];exact⟨d.ext,ç,0,ç,0,ç,0,Z,iJ xz⟩
 refine bi (aW ?_);have F:upF z=0:=by
  by_cases q:upF z=0
  .exact q
  have:=H;rw[ac q] at this;omega
 obtain⟨n,a_⟩:=uL F;obtain⟨hs,hG,hO⟩:=c5 n;have hT:=(c5 n).2.2.2.1;obtain⟨a,c,_,_⟩:=kM n;have c_:=nF n;have hq:=nT n;have o:bU nm=0:=by have:=H;rw[ae F] at this;omega
 have H:=rH o;refine aX 16886 f ?_;refine sC func33 Z (fU η (f.Ae 0 Z) (f.Ae 1 Z) (f.Ae 2 Z) ξ) (λH a g=>?_);obtain⟨h,j,k,l,m,e_,f_,rfl,g⟩:=g;obtain⟨H,a⟩:=f.res h g;obtain⟨H,c,d,e,f,g,h,j⟩:=l5 (a.A4 2 Z);have f:=a.part 2 Z [A4 [ak _ z.A2 _] z.A2 H,A4 [ak _ z.On _] z.On c,A4 [ak _ z.A3 _] z.A3 d] (all_cons g (all_cons h (all_cons j σ))) zy;refine cz aB Z Ç f (λH a c d e=>bw aB ff Z e 6 Z (λH a c=>?_));obtain⟨H,p⟩:=bt (c.Ar 6 3 4 5 z Z R);refine aH (aT (sR 2 Z (sC func34 Z (lU (p.B1 6 Z) (p.Aj (i:=6) Z) (aJ (p.Ab 3 Z)) (λb P=>p.off 3 Z 6 Z P) ξ ξ ξ ξ ξ ξ ξ ξ) (λH a r=>?_))));obtain⟨rfl,s⟩:=r;obtain⟨H,a⟩:=p.Bb 6 Z s;obtain⟨H,c,d,e,f,g,h,j,k,l,m⟩:=a.B3 6 Z;have H:=cx l;refine aX 1318692 m ?_;refine sE func35 Z (mU η (m.As 8 Z) (m.As 9 Z) (m.As 10 Z) Hm) m (λH a c=>bw aB jl Z c 1 Z (λH a c=>aH (dT O (c.box 1 Z) Z ?_)));rw[bG,yL F o S];exact⟨c.ext,_,_,_,_,_,_,Z,WldResult.out (x:=⟨puC z nm t,puZ z nm t⟩) (c.au_pk 1792) ⟨(by have:=Ha (z:=z) (d:=nm) (a:=t);show Ak (puC z nm t);unfold Ak;omega),η⟩⟩

theorem ya{w:ä}(K:z.Ok)(j:aj w E z.A2 G)(g:aj w A z.On C)(i:aj w B z.A3 D)(x:aj w u t y)(h:fY z<=1048576)(m:nm.size<=1048576)(l:t.length<=1048576):am 9 [z.val E G A C B D,.string nm,ak u t y] w λv W=>∃a d b e c f,v=(bG z nm t).val a d b e c f/\Res w W [ag (bG z nm t).Code,ag (bG z nm t).Wd.A0.A2,ag (bG z nm t).Wd.A0.A5,ag (bG z nm t).Wd.A0.Data,ag (bG z nm t).Wd.A0.Af,ag (bG z nm t).Wd.A0.Rows,ag (bG z nm t).Wd.A0.Cap,ag (bG z nm t).Wd.A0.An,ag (bG z nm t).Wd.A0.Ao,ag (bG z nm t).Wd.A0.Ap,.slice a (bG z nm t).Wd.A2.length d,.slice b (bG z nm t).Wd.On.length e,.slice c (bG z nm t).Wd.A3.length f,ag (bG z nm t).Wd.Aa,ag (bG z nm t).Wd.Stop,.bool (bG z nm t).Wd.Down] (bG z nm t):=by
 by_cases H:puC z nm t=0\/puC z nm t=9
 .exact uk K j g i x h m l H
 exact tj K j g i x h m l ω

theorem p9{w:ä}(O:z.Ok)(U:aj w E z.A2 G)(R:aj w A z.On C)(T:aj w B z.A3 D)(S:aj w u t y)(M:fY z<=1048576)(b_:nm.size<=1048576)(d_:t.length<=1048576)(K:bU nm=0)(P:puC z nm t≠0/\puC z nm t≠9):am 10 [z.val E G A C B D,.string nm,ak u t y] w λv W=>∃o F s I x J,v=(bG z nm t).val o F s I x J/\Res w W [ag (bG z nm t).Code,ag (bG z nm t).Wd.A0.A2,ag (bG z nm t).Wd.A0.A5,ag (bG z nm t).Wd.A0.Data,ag (bG z nm t).Wd.A0.Af,ag (bG z nm t).Wd.A0.Rows,ag (bG z nm t).Wd.A0.Cap,ag (bG z nm t).Wd.A0.An,ag (bG z nm t).Wd.A0.Ao,ag (bG z nm t).Wd.A0.Ap,.slice o (bG z nm t).Wd.A2.length F,.slice s (bG z nm t).Wd.On.length I,.slice x (bG z nm t).Wd.A3.length J,ag (bG z nm t).Wd.Aa,ag (bG z nm t).Wd.Stop,.bool (bG z nm t).Wd.Down] (bG z nm t):=by
 have H:=cx O;obtain⟨H,a⟩:=U;obtain⟨H,c⟩:=R;obtain⟨H,d⟩:=T;obtain⟨g_,X⟩:=S;refine bv func10 Z (λQ L Y=>?_);have H:=Sep.start (aC a (aC c (aC d (aC X ba))));refine aT (ci aB Z H (λH a c d e=>cz aB Z Č e (λH a c d e=>aX 4321875 e ?_)));refine sE func36 Z (mG η (e.Ae 0 Z) (e.Ae 1 Z) (e.Ae 2 Z)) e (λH a f=>br 166973732 (λH=>?_) (λH=>?_))
 .refine aT (sM Z (sV Z (bM dQ Z Z) (bw aB jl Z f 1 Z (λH a c=>aH (dT L (c.box 1 Z) Z ?_)))));rw[bG,xE ω];exact⟨c.ext,ç,0,ç,0,ç,0,Z,iJ xz⟩
 have N:upF z=0:=by omega
 obtain⟨n,a_⟩:=uL N;obtain⟨hs,V,hO⟩:=c5 n;have hT:=(c5 n).2.2.2.1;obtain⟨H,a,_,_⟩:=kM n;have c_:=nF n;have H:=Cc n;have hq:=nT n;have H:=rH K;refine aX 270126 f ?_;refine sC func37 Z (m0 η (f.Ae 0 Z) (f.Ae 1 Z) (f.Ae 2 Z) ξ) (λH a g=>?_);obtain⟨h,j,k,l,m,e_,f_,rfl,g⟩:=g;obtain⟨H,a⟩:=f.res h g;obtain⟨H,c,d,e,f,g,h,j⟩:=l5 (a.A4 2 Z);have f:=a.part 2 Z [A4 [ak _ z.A2 _] z.A2 H,A4 [ak _ z.On _] z.On c,A4 [ak _ z.A3 _] z.A3 d] (all_cons g (all_cons h (all_cons j σ))) zy;refine cz aB Z Ç f (λH a c d e=>bw aB ff Z e 6 Z (λH a c=>?_));obtain⟨H,p⟩:=bt (c.Ar 6 3 4 5 z Z O);refine aH (aT (sR 2 Z (sC func38 Z (qJ (p.B1 6 Z) (p.Aj (i:=6) Z) (aJ (p.Ab 3 Z)) (λb M=>p.off 3 Z 6 Z M) ξ ξ ξ ξ ξ ξ ξ ξ ξ ξ ξ ξ) (λH a q=>?_))));obtain⟨rfl,r⟩:=q;obtain⟨H,a⟩:=p.Bb 6 Z r;obtain⟨H,c,d,e,f,g,h,j,k,l,m⟩:=a.B3 6 Z;have H:=cx l;refine aX 1318692 m ?_;refine sE func39 Z (wc η (m.As 8 Z) (m.As 9 Z) (m.As 10 Z) ξ) m (λH a c=>bw aB jl Z c 1 Z (λH a c=>aH (dT L (c.box 1 Z) Z ?_)));rw[bG,u4 N K P];exact⟨c.ext,ç,0,ç,0,ç,0,Z,iJ (by unfold Ak;have:=Ha (z:=z) (d:=nm) (a:=t);(try dsimp only);omega)⟩

theorem rz{w:ä}(P:z.Ok)(V:aj w E z.A2 G)(T:aj w A z.On C)(U:aj w B z.A3 D)(S:aj w u t y)(N:fY z<=1048576)(b_:nm.size<=1048576)(d_:t.length<=1048576)(L:bU nm=0)(R:puC z nm t=0\/puC z nm t=9):am 10 [z.val E G A C B D,.string nm,ak u t y] w λv W=>∃o I s J F K,v=(bG z nm t).val o I s J F K/\Res w W [ag (bG z nm t).Code,ag (bG z nm t).Wd.A0.A2,ag (bG z nm t).Wd.A0.A5,ag (bG z nm t).Wd.A0.Data,ag (bG z nm t).Wd.A0.Af,ag (bG z nm t).Wd.A0.Rows,ag (bG z nm t).Wd.A0.Cap,ag (bG z nm t).Wd.A0.An,ag (bG z nm t).Wd.A0.Ao,ag (bG z nm t).Wd.A0.Ap,.slice o (bG z nm t).Wd.A2.length I,.slice s (bG z nm t).Wd.On.length J,.slice F (bG z nm t).Wd.A3.length K,ag (bG z nm t).Wd.Aa,ag (bG z nm t).Wd.Stop,.bool (bG z nm t).Wd.Down] (bG z nm t):=by
 have H:=cx P;obtain⟨H,a⟩:=V;obtain⟨H,c⟩:=T;obtain⟨H,d⟩:=U;obtain⟨g_,X⟩:=S;refine bv func10 Z (λQ M hN=>?_);have H:=Sep.start (aC a (aC c (aC d (aC X ba))));refine aT (ci aB Z H (λH a c d e=>cz aB Z Č e (λH a c d e=>aX 4321875 e ?_)));refine sE func36 Z (mG η (e.Ae 0 Z) (e.Ae 1 Z) (e.Ae 2 Z)) e (λH a f=>br 166973732 (λH=>?_) (λH=>?_))
 .refine aT (sM Z (sV Z (bM dQ Z Z) (bw aB jl Z f 1 Z (λH a c=>aH (dT M (c.box 1 Z) Z ?_)))));rw[bG,xE ω];exact⟨c.ext,ç,0,ç,0,ç,0,Z,iJ xz⟩
 have O:upF z=0:=by omega
 obtain⟨n,a_⟩:=uL O;obtain⟨hs,Y,hO⟩:=c5 n;have hT:=(c5 n).2.2.2.1;obtain⟨H,a,_,_⟩:=kM n;have c_:=nF n;have H:=Cc n;have hq:=nT n;have H:=rH L;refine aX 270126 f ?_;refine sC func37 Z (m0 η (f.Ae 0 Z) (f.Ae 1 Z) (f.Ae 2 Z) ξ) (λH a g=>?_);obtain⟨h,j,k,l,m,e_,f_,rfl,g⟩:=g;obtain⟨H,a⟩:=f.res h g;obtain⟨H,c,d,e,f,g,h,j⟩:=l5 (a.A4 2 Z);have f:=a.part 2 Z [A4 [ak _ z.A2 _] z.A2 H,A4 [ak _ z.On _] z.On c,A4 [ak _ z.A3 _] z.A3 d] (all_cons g (all_cons h (all_cons j σ))) zy;refine cz aB Z Ç f (λH a c d e=>bw aB ff Z e 6 Z (λH a c=>?_));obtain⟨H,p⟩:=bt (c.Ar 6 3 4 5 z Z P);refine aH (aT (sR 2 Z (sC func38 Z (qJ (p.B1 6 Z) (p.Aj (i:=6) Z) (aJ (p.Ab 3 Z)) (λb N=>p.off 3 Z 6 Z N) ξ ξ ξ ξ ξ ξ ξ ξ ξ ξ ξ ξ) (λH a q=>?_))));obtain⟨rfl,r⟩:=q;obtain⟨H,a⟩:=p.Bb 6 Z r;obtain⟨H,c,d,e,f,g,h,j,k,l,m⟩:=a.B3 6 Z;have H:=cx l;refine aX 1318692 m ?_;refine sE func39 Z (D9 η (m.As 8 Z) (m.As 9 Z) (m.As 10 Z) Hm) m (λH a c=>bw aB jl Z c 1 Z (λH a c=>aH (dT M (c.box 1 Z) Z ?_)));rw[bG,yL O L R];exact⟨c.ext,_,_,_,_,_,_,Z,WldResult.out (x:=⟨puC z nm t,puZ z nm t⟩) (c.au_pk 1792) ⟨(by have:=Ha (z:=z) (d:=nm) (a:=t);show Ak (puC z nm t);unfold Ak;omega),η⟩⟩

theorem uX{w:ä}(K:z.Ok)(j:aj w E z.A2 G)(g:aj w A z.On C)(i:aj w B z.A3 D)(x:aj w u t y)(h:fY z<=1048576)(m:nm.size<=1048576)(l:t.length<=1048576)(q:bU nm=0):am 10 [z.val E G A C B D,.string nm,ak u t y] w λv W=>∃a d b e c f,v=(bG z nm t).val a d b e c f/\Res w W [ag (bG z nm t).Code,ag (bG z nm t).Wd.A0.A2,ag (bG z nm t).Wd.A0.A5,ag (bG z nm t).Wd.A0.Data,ag (bG z nm t).Wd.A0.Af,ag (bG z nm t).Wd.A0.Rows,ag (bG z nm t).Wd.A0.Cap,ag (bG z nm t).Wd.A0.An,ag (bG z nm t).Wd.A0.Ao,ag (bG z nm t).Wd.A0.Ap,.slice a (bG z nm t).Wd.A2.length d,.slice b (bG z nm t).Wd.On.length e,.slice c (bG z nm t).Wd.A3.length f,ag (bG z nm t).Wd.Aa,ag (bG z nm t).Wd.Stop,.bool (bG z nm t).Wd.Down] (bG z nm t):=by
 by_cases H:puC z nm t=0\/puC z nm t=9
 .exact rz K j g i x h m l q H
 exact p9 K j g i x h m l q ω

theorem tv{w:ä}(M:z.Ok)(T:aj w E z.A2 G)(P:aj w A z.On C)(R:aj w B z.A3 D)(S:aj w u t y)(L:fY z<=1048576)(V:nm.size<=1048576)(Y:t.length<=1048576)(O:bU nm≠0):am 10 [z.val E G A C B D,.string nm,ak u t y] w λv W=>∃o F s I x J,v=(bG z nm t).val o F s I x J/\Res w W [ag (bG z nm t).Code,ag (bG z nm t).Wd.A0.A2,ag (bG z nm t).Wd.A0.A5,ag (bG z nm t).Wd.A0.Data,ag (bG z nm t).Wd.A0.Af,ag (bG z nm t).Wd.A0.Rows,ag (bG z nm t).Wd.A0.Cap,ag (bG z nm t).Wd.A0.An,ag (bG z nm t).Wd.A0.Ao,ag (bG z nm t).Wd.A0.Ap,.slice o (bG z nm t).Wd.A2.length F,.slice s (bG z nm t).Wd.On.length I,.slice x (bG z nm t).Wd.A3.length J,ag (bG z nm t).Wd.Aa,ag (bG z nm t).Wd.Stop,.bool (bG z nm t).Wd.Down] (bG z nm t):=by
 have H:=cx M;obtain⟨H,a⟩:=T;obtain⟨H,c⟩:=P;obtain⟨H,d⟩:=R;obtain⟨b_,X⟩:=S;refine bv func10 Z (λQ K U=>?_);have H:=Sep.start (aC a (aC c (aC d (aC X ba))));refine aT (ci aB Z H (λH a c d e=>cz aB Z Č e (λH a c d e=>aX 4321875 e ?_)));refine sE func36 Z (mG η (e.Ae 0 Z) (e.Ae 1 Z) (e.Ae 2 Z)) e (λH a f=>br 166973732 (λH=>?_) (λH=>?_))
 .refine aT (sM Z (sV Z (bM dQ Z Z) (bw aB jl Z f 1 Z (λH a c=>aH (dT K (c.box 1 Z) Z ?_)))));rw[bG,xE ω];exact⟨c.ext,ç,0,ç,0,ç,0,Z,iJ xz⟩
 have N:upF z=0:=by omega
 refine bi (aW ?_);have H:bU nm≠9:=by unfold bU;split<;>omega
 refine aX 16886 f ?_;refine sC func37 Z (m0 η (f.Ae 0 Z) (f.Ae 1 Z) (f.Ae 2 Z) ξ) (λH a g=>?_);obtain⟨h,j,k,l,m,n,a_,rfl,g⟩:=g;obtain⟨H,a⟩:=f.res h g;obtain⟨H,c,d,e,f,g,h,j⟩:=l5 (a.A4 2 Z);have f:=a.part 2 Z [A4 [ak _ z.A2 _] z.A2 H,A4 [ak _ z.On _] z.On c,A4 [ak _ z.A3 _] z.A3 d] (all_cons g (all_cons h (all_cons j σ))) zy;refine cz aB Z Ç f (λH a c d e=>bw aB ff Z e 6 Z (λH a c=>?_));obtain⟨H,p⟩:=bt (c.Ar 6 3 4 5 z Z M);refine aH (aT (sR 2 Z (sC func38 Z (tQ (p.B1 6 Z) (p.Aj (i:=6) Z) (aJ (p.Ab 3 Z)) (λb L=>p.off 3 Z 6 Z L) ξ ξ) (λH a q=>?_))));obtain⟨rfl,r⟩:=q;obtain⟨H,a⟩:=p.Bb 6 Z r;obtain⟨H,c,d,e,f,g,h,j,k,l,m⟩:=a.B3 6 Z;have H:=cx l;refine aX 1318692 m ?_;refine sE func39 Z (wc η (m.As 8 Z) (m.As 9 Z) (m.As 10 Z) ξ) m (λH a c=>bw aB jl Z c 1 Z (λH a c=>aH (dT K (c.box 1 Z) Z ?_)));rw[bG,r6 N O];exact⟨c.ext,ç,0,ç,0,ç,0,Z,iJ G2⟩

theorem yM{w:ä}(K:z.Ok)(j:aj w E z.A2 G)(g:aj w A z.On C)(i:aj w B z.A3 D)(x:aj w u t y)(h:fY z<=1048576)(H:nm.size<=1048576)(l:t.length<=1048576):am 10 [z.val E G A C B D,.string nm,ak u t y] w λv W=>∃a d b e c f,v=(bG z nm t).val a d b e c f/\Res w W [ag (bG z nm t).Code,ag (bG z nm t).Wd.A0.A2,ag (bG z nm t).Wd.A0.A5,ag (bG z nm t).Wd.A0.Data,ag (bG z nm t).Wd.A0.Af,ag (bG z nm t).Wd.A0.Rows,ag (bG z nm t).Wd.A0.Cap,ag (bG z nm t).Wd.A0.An,ag (bG z nm t).Wd.A0.Ao,ag (bG z nm t).Wd.A0.Ap,.slice a (bG z nm t).Wd.A2.length d,.slice b (bG z nm t).Wd.On.length e,.slice c (bG z nm t).Wd.A3.length f,ag (bG z nm t).Wd.Aa,ag (bG z nm t).Wd.Stop,.bool (bG z nm t).Wd.Down] (bG z nm t):=by
 by_cases q:bU nm=0
 .exact uX K j g i x h H l q
 exact tv K j g i x h H l q

theorem rh{w:ä}{I u y F:Nat}{R s t:Option ô}{V T U:List Nat}{r:Rec}(P:w.heap[I]? = á (ay z E G A C B D))(X:z.Ok)(b_:ah w E z.A2 G V)(Y:ah w A z.On C T)(a_:ah w B z.A3 D U)(L:r.Ok)(M:aj w R r.Rows u)(N:aj w s r.Data y)(O:aj w t r.Ad F)(h:z.A0.ok=ã)(e:b7 z=ã)(o:dP z (dy z.A0 r.Name)=â)(q:RowsIn z r.Rows)(j_:r.Name.size<=8)(i_:0<=r.Length)(f_:r.Length<=r.Rows.length*(z.A0.Data*4))(k_:r.Rows.length<=1048576):am 49 [au I,r.val R u s y t F] w λv W=>Res w W [v] ((oz z (dy z.A0 r.Name) r.Rows r.Rows.length).take r.Length.toNat):=by
 have H:=cx X;have H:=cx L;obtain⟨H,a⟩:=M;obtain⟨H,b⟩:=N;obtain⟨H,c⟩:=O;have l_:=bm h;have p:=R4 (H:=r.Name) h;have h_:=wD h e p o q (k:=r.Rows.length) (aN _);refine bv func49 Z (λc_ Q hN=>?_);have H:=Sep.start (dc P (aC b_ (aC Y (aC a_ (aC a (aC b (aC c ba)))))));refine aT (ci aB Z H (λH a b c d=>sA Z (aH (aT (dG (f:=UInt8) aB Z cJ b6 d (λH a b c d=>aX 0x6f312ff37f9254 d ?_))))));refine fc (b:=UInt8) (a:=Nat) (λk=>(oz z (dy z.A0 r.Name) r.Rows k)) 0 d 1 Z 5 Z [(0,_),(3,_),(4,_),(10,_),(11,_)] bf (λk=>[(12,ag k)]) (λk=>k<=r.Rows.length/\True) (λk=>r.Rows.length-k) ⟨Z,trivial⟩ ⟨ω,trivial⟩ (λk H a b f ⟨hk,_⟩=>?_);dsimp only[jf,lNA,lSZ,sk] at f ⊢;refine br 10441682 (λH=>?_) (λH=>?_)
 .obtain⟨H,b,c,d⟩:=dW (f.Ab 4 Z) k ω;have g_:=wD h e p o q (k:=k) ω;have K:=q k ω;have H:=l4 h e p K o;refine aG 0x438f3ef206f5e ?_;have e_:(k:Int)*(z.A0.Data*4)<=1048576*12:=by
   have H:(k:Int)*(z.A0.Data*4)<=1048576*(z.A0.Data*4):=Int.mul_le_mul_of_nonneg_right ω ω
   omega
  refine eE (S:=Ext (· ∈ a) _) (oQ [1,3,5,7,9,11,13,15,19,16,20,22,24]) κ κ κ Z τ6 (λH=>?_);have g:=f.drawn H;refine aG 22268279739 ?_;refine dV Z (λJ x=>eB kB Z lZ Z (At.sub (x.heapM (g.foff 0 Z 1 Z Z) (g.Bd 0 Z)) 9)) (dV Z (λJ x=>bd cu Z ts9 Z) (dV Z (λJ x=>bp tu9 Z (bD (x.heapM (g.Bh 0 Z 1 Z) (g.box 0 Z)) Z)) (dM Z ?_)));refine dC func41 Z (gZ ω ω) (λH a i=>?_);obtain⟨j,rfl⟩:=i;have H:=g.to j;refine dC func85 Z (lp (H.Bd 0 Z) η (aJ (H.Ab 1 Z)) (aJ (H.Ab 2 Z)) (aJ (H.Ab 3 Z)) η η η η) (λa b c=>?_);obtain⟨a,c⟩:=c;obtain⟨b,l⟩:=H.res a c;obtain⟨H,a,m⟩:=aL (l.A4 2 Z);cases m;refine KC Z aB Z cJ b6 Z Z Z l 1 Z (l.A4 2 Z) ic ia τ9 (λH a b c=>aG 213775611615 ?_);exact⟨(k+1,_,_),bf,⟨(c.dtake 2),bj,trivial⟩,θ⟩
 refine bu ?_;obtain⟨H,a,n⟩:=aL (f.A4 1 Z);cases n;obtain rfl:k=r.Rows.length:=by omega
 refine aT (sM Z (sF cu Z ts2 (sLd tu2 (f.box 0 Z) Z (sF cu Z ts2 (sLd tu2 (f.box 0 Z) Z (sV Z (Or cJ ts5 Z Z Z r.Length.toNat r.Length.toNat ω ω (aN _) (by have:=di (f.A4 1 Z);omega)) (rA Q Z Z ?_)))))));have d_:=di (f.A4 1 Z);exact⟨f.ext,Ny (f.out 1 Z) ω (aN _) ω⟩

theorem oH{w:ä}(S:z.Ok)(V:aj w E z.A2 G)(T:aj w A z.On C)(U:aj w B z.A3 D)(hb:fY z<=1048576)(d_:nm.size<=1048576):am 13 [z.val E G A C B D,.string nm] w λv W=>∃I J,v=(jU z nm).val I J/\Res w W [ag (jU z nm).Code,.slice I (jU z nm).Bytes.length J] (jU z nm):=by
 have H:=cx S;obtain⟨H,a⟩:=V;obtain⟨H,b⟩:=T;obtain⟨H,c⟩:=U;refine bv func13 Z (λQ o Y=>?_);have H:=Sep.start (aC a (aC b (aC c ba)));refine aT (ci aB Z H (λH a b c d=>cz aB Z zeroValue44 d (λH a b c d=>aX 21099091 d ?_)));refine sE func32 Z (kD η (d.Ae 0 Z) (d.Ae 1 Z) (d.Ae 2 Z) ξ) d (λH a f=>br 166973732 (λH=>?_) (λH=>?_))
 .refine aT (sM Z (sV Z (bM sj Z Z) (bw aB KU Z f 1 Z (λa b c=>aH (dT o (c.box 1 Z) Z ?_)))))
  by_cases q:upF z=0
  .have m:bU nm≠0:=by have:=H;rwa[ae q] at this
   rw[KG q m,ae q];exact⟨c.ext,ç,0,Z,vD G2⟩
  rw[P5 q,ac q];exact⟨c.ext,ç,0,Z,vD xz⟩
 refine bi (aW ?_);have n:upF z=0:=by
  by_cases q:upF z=0
  .exact q
  have:=H;rw[ac q] at this;omega
 have m:bU nm=0:=by have:=H;rw[ae n] at this;omega
 obtain⟨g,c_⟩:=uL n;obtain⟨M,X,hO⟩:=c5 g;have hT:=(c5 g).2.2.2.1;have e_:=nF g;have h:=rH m;have l_:=bm M;have g_:=Ul (z:=z) (d:=nm);have b_:(itR z nm).Data.length<=fH (itR z nm):=by unfold fH;omega
 have f_:(itR z nm).Rows.length<=fH (itR z nm):=by unfold fH;omega
 refine ce (sM Z (sC func46 Z (u0 (f.box 0 Z) η (aJ (f.Ab 0 Z)) (aJ (f.Ab 1 Z)) (aJ (f.Ab 2 Z)) ξ ξ) (λH a i=>?_)));obtain⟨j,k,l,h_,i_,j_,k_,rfl,s⟩:=i;have H:=f.to j;obtain⟨a,b,c,d,f,i,j,k⟩:=H.recF 2 Z s;unfold Ë at f i j;refine sR 3 Z (cz aB Z Ä k (λH a b c d=>bw aB cy Z d 2 Z (λH a t=>aG 18902868 ?_)));refine sV Z (cj Z) (br 2804 (λH=>?_) (λH=>?_))
 .refine aT (sV Z (bM sj Z Z) (bw aB KU Z t 1 Z (λa b c=>?_)));replace c:=bt c;refine aH (dT o (c.box 1 Z) Z ?_);have N:=TL (z:=z) (H:=nm) m9;rw[ET n m ω,N];exact⟨c.ext,ç,0,Z,vD AR⟩
 have F:itO z nm=true:=by simpa using H
 refine ge 0x9f4d2ff37f92 t (λH=>?_) (λH=>?_)
 .refine aX 229266 t ?_;refine sC func47 Z (cq (t.Ae 4 Z) ω) (λH a b=>?_);obtain⟨H,b⟩:=b;obtain⟨a,u⟩:=t.res H b;obtain⟨H,a,y⟩:=aL (u.A4 3 Z);cases y;refine sV Z (bM sj Z Z) (bw aB KU Z u 1 Z (λH a b=>aH (dT o (b.box 1 Z) Z ?_)));obtain⟨H,c⟩:=Jk F ω;rw[I3 n m H,c];exact⟨b.ext,_,_,Z,BytesResult.out (x:=⟨0,(itR z nm).Data⟩) (b.au_pk 8) yT⟩
 have L:¬ 0<(itR z nm).Data.length:=by omega
 obtain⟨a,b,d,f⟩:=LR F;obtain⟨i,j,k⟩:=vv (pT g a) d f;obtain⟨y,g⟩:=k L;have P:=fV i;have R:=Dr M P.1;rw[<- y] at R;have K:dy z.A0 (itR z nm).Name=dy z.A0 nm:=by rw[b]
 obtain⟨H,c⟩:=Jc F L;refine bi (aW (aW ?_));have a_:(itR z nm).Name.size<=8:=by rw[b];exact h
 refine aX 1322902 t ?_;refine sE func41 Z (gZ ω ω) t (λa b d=>sE func48 Z (p5 (d.box 0 Z) η (d.Ae 0 Z) (d.Ae 1 Z) (d.Ae 2 Z) η η) d (λa b h=>br 166973732 (λa=>?_) (λa=>?_)))
 .refine aT (sM Z (sV Z (bM sj Z Z) (bw aB KU Z h 1 Z (λa b d=>aH (dT o (d.box 1 Z) Z ?_)))));rw[ET n m ω,H];exact⟨d.ext,ç,0,Z,vD (by unfold Ak;have:=TH (z:=z) (H:=nm);dsimp only;omega)⟩
 have p:uY z (dy z.A0 nm)=0:=by omega
 refine bi (aW ?_);have O:dP z (dy z.A0 nm)=false:=by
  cases e:dP z (dy z.A0 nm) with
  | false=>rfl
  | true=>exfalso;unfold uY at p;rw[e] at p;split at p<;>(first|(simp at p;done)|omega)
 have H:dP z (dy z.A0 (itR z nm).Name)=false:=by rw[K];exact O
 refine aX 16886 h ?_;refine sC func49 Z (rh (h.box 0 Z) η (aJ (h.Ab 0 Z)) (aJ (h.Ab 1 Z)) (aJ (h.Ab 2 Z)) η (h.Ae 3 Z) (h.Ae 4 Z) (h.Ae 5 Z) ξ ξ ξ ξ ξ ξ ξ ξ (r:=(itR z nm))) (λH a b=>?_);obtain⟨H,b⟩:=b;obtain⟨a,l⟩:=h.res H b;obtain⟨H,a,g⟩:=aL (l.A4 3 Z);cases g;refine sV Z (bM sj Z Z) (bw aB KU Z l 1 Z (λH a b=>aH (dT o (b.box 1 Z) Z ?_)));rw[I3 n m ω,c,<- K];exact⟨b.ext,_,_,Z,BytesResult.out (x:=⟨0,((oz z (dy z.A0 (itR z nm).Name) (itR z nm).Rows (itR z nm).Rows.length).take (itR z nm).Length.toNat)⟩) (b.au_pk 8) yT⟩

theorem tJ{w:ä}{n:Int}(t:0<=n/\n<=1000):am 23 [ag n] w λv W=>Res w W [v] (å n.toNat kH):=by
 have s:=aZ (n:=n.toNat) (a:=(à:Block));refine bv func23 Z (λQ q N=>?_);have H:=Sep.start (w:=w) (F:=[]) σ;refine aT (sA Z (aH (aT (sV Z (Py.to (v' := ag (n.toNat:Nat)) (bL Z) (congrArg (Value.int .i64) ω)) (xT aB Z wN ni (show ∀w,own ã w (ţ #[ag 0,.slice ç 0 0]).cells.toList (à:Block) [] from λ_=>JR) Z qN qQ H (λH b c d e=>aG 7641065525844 ?_))))));refine cp (j:=Nat × List Nat) (λ(k,f)=>[(3,.slice (ax H) (å n.toNat (à:Block)).length n.toNat),(8,ag (å n.toNat (à:Block)).length),(9,ag k)]) (λ(k,f) W=>Sep No w [A4 [.slice (ax H) (å n.toNat (à:Block)).length n.toNat] (wk n.toNat k) f] [] W/\k<=n.toNat) (λ(k,f)=>n.toNat-k) (0,_) bf ⟨e,ω⟩ (λ(k,f) H g=>?_);obtain⟨g,r⟩:=g;refine br 10441682 (λH=>?_) (λH=>?_)
 .have L:=NI r;obtain⟨H,b,c,d,e,i,j,l,m,o,p⟩:=Block.focus g 0 Z k ω;refine aG 1195093552990 ?_;refine xT aB Z cJ b6 ol Z qN qQ p (λH b c d e=>aG 37871 ?_);refine mo aB cH e 0 1 Z (λH b=>?_);obtain⟨H,c⟩:=Block.fill b 0 3 Z Z Z o;have z:=(c.dtake 1);rw[Qf ω,show(⟨(à:Block).Stamp,å 4 0⟩:Block)=kH from rfl,NB ω] at z;refine aG 203875 ?_;exact⟨(k+1,_),bf,⟨z,ω⟩,θ⟩
 refine bu (aT (sR 2 Z (rN q Z ?_)));obtain rfl:k=n.toNat:=by omega
 exact⟨g.ext,by
  have h:=g.out 0 Z
  rwa[ML] at h⟩

theorem xe{w:ä}{s:A0}(S:s.Ok):am 6 [s.v] w λv W=>∃e E C G D I,v=(fg s).val e E C G D I/\Res w W [ag (fg s).Code,ag (fg s).Wd.A0.A2,ag (fg s).Wd.A0.A5,ag (fg s).Wd.A0.Data,ag (fg s).Wd.A0.Af,ag (fg s).Wd.A0.Rows,ag (fg s).Wd.A0.Cap,ag (fg s).Wd.A0.An,ag (fg s).Wd.A0.Ao,ag (fg s).Wd.A0.Ap,.slice e (fg s).Wd.A2.length E,.slice C (fg s).Wd.On.length G,.slice D (fg s).Wd.A3.length I,ag (fg s).Wd.Aa,ag (fg s).Wd.Stop,.bool (fg s).Wd.Down] (fg s):=by
 refine bv func6 Z (λQ h O=>?_);have H:=Sep.start (w:=w) (F:=[]) σ;refine aT (ci aB Z H (λH b c d f=>cz aB Z Č f (λH b c d f=>aX 4321875 f ?_)));refine sE func20 Z i9 f (λH b c=>br 166973732 (λH=>?_) (λH=>?_))
 .refine aT (sM Z (sV Z (bM dQ Z Z) (bw aB (o:=0) jl Z c 1 Z (λH b d=>?_))))
  replace d:=χ d
  refine aH (dT h (d.box 1 Z) Z ?_);rw[vr ω];exact⟨d.ext,ç,0,ç,0,ç,0,Z,iJ (IC s)⟩
 have L:=gS (s:=s) ω;have P:=bm L;refine bi (aW (ep c (oQ [1,2008,2,5,6,8,6,2,5,8]) (λH g=>aX 1631 g ?_)));refine dF Z ?_ ?_
 .refine xH Z aB Z jP lO (show ∀w,own ã w (ţ #[.bool â,.slice ç 0 0]).cells.toList (à:Tape) [] from λ_=>u7) Z qN qQ g τ0 (λi H b c d=>dV Z (λN M=>bM (c:=[ag s.A2,ag s.A5,ag s.Data,ag s.Af,ag s.Rows,ag s.Cap,ag s.An,ag s.Ao,ag s.Ap,.slice ç 0 0,.slice ç 0 0,.slice (ax i) (å 2 (à:Tape)).length 2,ag 0,ag (-1),.bool â]) vt Z κ) (Mc Z aB Z Ç d τ0 (λH b c d f=>lI Z aB (o:=0) ff Z f 3 Z Z τ3 (λH b c=>?_))))
  replace c:=χ c
  refine aX 1106399311 c ?_;refine sE func21 Z (gy η) c (λH b c=>?_);have H:=c.nilW (a:=(List Drive));refine sM Z (aH (bP (mK (m:=(List Drive)) (a:=Nat) (λk=>å k (sQ s)) 0 H 4 3 9 Z [(1,_),(2,_),(4,_)] bf (λk=>[(16,ag (s.A2+s.A5)),(17,ag k)]) (λk=>(k:Int)<=s.A2+s.A5/\True) (λk=>(s.A2+s.A5).toNat-k) bf ⟨ω,trivial⟩ (λk H b c j ⟨J,_⟩=>?_))));dsimp only[jf,lNA,lSZ,sk] at j ⊢;refine br 10441682 (λH=>?_) (λH=>?_)
  .refine bi (aW (bP (aT (dG (f:=Drive) aB Z kZ e8 j (λH b c d f=>aX 4321876 f ?_)))));refine sE func22 Z (go η) f (λH b c=>sM Z (aH (bP (fc (b:=Drive) (a:=Nat) (λm=>å m (freshD s)) 0 c 5 Z 5 Z [(1,_),(2,_),(4,_),(16,_),(17,_)] bf (λm=>[(21,ag (s.Data+s.Af)),(22,ag m)]) (λm=>(m:Int)<=s.Data+s.Af/\True) (λm=>(s.Data+s.Af).toNat-m) bf ⟨ω,trivial⟩ (λm H b c l ⟨K,_⟩=>?_)))));dsimp only[jf,lNA,lSZ,sk] at l ⊢;refine br 10441682 (λH=>?_) (λH=>?_)
   .have o:=aZ (n:=m) (a:=freshD s);refine aX 3846434746206 l ?_;refine sC func23 Z (tJ ω) (λH b c=>?_);obtain⟨H,c⟩:=c;obtain⟨b,p⟩:=l.res H c;obtain⟨H,b,q⟩:=aL (p.A4 6 Z);cases q;refine sV Z (bM ne Z Z) (dx aB Z kZ e8 Z p (λH b c d f=>?_));have H:=bt (f.asSt 6 ((freshD s):Drive) Z (Drive.own_mk (x:=(freshD s)) trivial (f.A4 6 Z)));refine kC aB Z kZ e8 Z H 5 7 6 Z db ω (λH b c d=>aG 203876 ?_);exact⟨(m+1,_,_),bf,⟨by dsimp only;rw[<- pu (k:=m) (x:=freshD s)];exact(d.dtake 6),ω,trivial⟩,θ⟩
   refine bu ?_;obtain rfl:m=(s.Data+s.Af).toNat:=by omega
   have r:=aZ (n:=k) (a:=sQ s);obtain⟨H,b,t⟩:=aL (l.A4 5 Z);cases t;refine aX 1277846 l ?_;refine dx aB Z ie iV Z l (λH b c d f=>kC aB Z ie iV Z f 4 6 5 Z db ω (λH b c u=>?_));obtain⟨H,b,y⟩:=aL (u.A4 4 Z);cases y;refine sF eC Z pS (cL aB (o:=9) pS Z u 3 Z (λH b c=>aG 203875 ?_));exact⟨(k+1,_,_),bf,⟨GX,ω,trivial⟩,θ⟩
  refine bu ?_;obtain rfl:k=(s.A2+s.A5).toNat:=by omega
  obtain⟨z,A,B⟩:=aL (j.A4 4 Z);cases B;refine aX 16882 j ?_;refine sV Z (bM (c:=[ag 0,ag s.A2,ag s.A5,ag s.Data,ag s.Af,ag s.Rows,ag s.Cap,ag s.An,ag s.Ao,ag s.Ap,.slice z (å (s.A2+s.A5).toNat (sQ s)).length A,.slice ç 0 0,.slice (ax i) (å 2 (à:Tape)).length 2,ag 0,ag (-1),.bool â]) dQ Z κ) (bw aB (o:=0) jl Z j 1 Z (λH b c=>?_))
  replace c:=χ c
  refine aH (dT h (c.box 1 Z) Z ?_);have H:=c.nilW (a:=Int);rw[pM ω];exact⟨H.ext,_,_,ç,0,_,_,Z,H.res3N 4 5 2 Z (λw d f i=>WldResult.own_mk (x:=⟨0,eM s⟩) ⟨C2,tD S⟩ d f i)⟩
 refine Mc Z aB Z Ç g τ0 (λH b c g j=>xH Z aB Z jP lO (show ∀w,own ã w (ţ #[.bool â,.slice ç 0 0]).cells.toList (à:Tape) [] from λ_=>u7) Z qN qQ j τ0 (λl H b c g=>dV Z (λN M=>bM (c:=[ag s.A2,ag s.A5,ag s.Data,ag s.Af,ag s.Rows,ag s.Cap,ag s.An,ag s.Ao,ag s.Ap,.slice ç 0 0,.slice ç 0 0,.slice (ax l) (å 2 (à:Tape)).length 2,ag 0,ag (-1),.bool â]) vt Z κ) (lI Z aB (o:=0) ff Z g 2 Z Z τ3 (λH b c=>?_))))
 replace c:=χ c
 replace c:=bt c;refine aX 1106399311 c ?_;refine sE func21 Z (gy η) c (λH b c=>?_);have H:=c.nilW (a:=(List Drive));refine sM Z (aH (bP (mK (m:=(List Drive)) (a:=Nat) (λk=>å k (sQ s)) 0 H 4 2 9 Z [(1,_),(2,_),(4,_)] bf (λk=>[(16,ag (s.A2+s.A5)),(17,ag k)]) (λk=>(k:Int)<=s.A2+s.A5/\True) (λk=>(s.A2+s.A5).toNat-k) bf ⟨ω,trivial⟩ (λk H b c p ⟨J,_⟩=>?_))));dsimp only[jf,lNA,lSZ,sk] at p ⊢;refine br 10441682 (λH=>?_) (λH=>?_)
 .refine bi (aW (bP (aT (dG (f:=Drive) aB Z kZ e8 p (λH b c g j=>aX 4321876 j ?_)))));refine sE func22 Z (go η) j (λH b c=>sM Z (aH (bP (fc (b:=Drive) (a:=Nat) (λm=>å m (freshD s)) 0 c 5 Z 5 Z [(1,_),(2,_),(4,_),(16,_),(17,_)] bf (λm=>[(21,ag (s.Data+s.Af)),(22,ag m)]) (λm=>(m:Int)<=s.Data+s.Af/\True) (λm=>(s.Data+s.Af).toNat-m) bf ⟨ω,trivial⟩ (λm H b c q ⟨K,_⟩=>?_)))));dsimp only[jf,lNA,lSZ,sk] at q ⊢;refine br 10441682 (λH=>?_) (λH=>?_)
  .have o:=aZ (n:=m) (a:=freshD s);refine aX 3846434746206 q ?_;refine sC func23 Z (tJ ω) (λH b c=>?_);obtain⟨H,c⟩:=c;obtain⟨b,o⟩:=q.res H c;obtain⟨H,b,t⟩:=aL (o.A4 6 Z);cases t;refine sV Z (bM ne Z Z) (dx aB Z kZ e8 Z o (λH b c g j=>?_));have H:=j.asSt 6 ((freshD s):Drive) Z (Drive.own_mk (x:=(freshD s)) trivial (j.A4 6 Z));refine kC aB Z kZ e8 Z H 5 7 6 Z db ω (λH b c g=>aG 203876 ?_);exact⟨(m+1,_,_),bf,⟨by dsimp only;rw[<- pu (k:=m) (x:=freshD s)];exact(g.dtake 6),ω,trivial⟩,θ⟩
  refine bu ?_;obtain rfl:m=(s.Data+s.Af).toNat:=by omega
  have r:=aZ (n:=k) (a:=sQ s);obtain⟨H,b,r⟩:=aL (q.A4 5 Z);cases r;refine aX 1277846 q ?_;refine dx aB Z ie iV Z q (λH b c g j=>kC aB Z ie iV Z j 4 6 5 Z db ω (λH b c u=>?_));obtain⟨H,b,y⟩:=aL (u.A4 4 Z);cases y;refine sF eC Z pS (cL aB (o:=9) pS Z u 2 Z (λH b c=>aG 203875 ?_));exact⟨(k+1,_,_),bf,⟨GX,ω,trivial⟩,θ⟩
 refine bu ?_;obtain rfl:k=(s.A2+s.A5).toNat:=by omega
 obtain⟨z,A,B⟩:=aL (p.A4 4 Z);cases B;refine aX 16882 p ?_;refine sV Z (bM (c:=[ag 0,ag s.A2,ag s.A5,ag s.Data,ag s.Af,ag s.Rows,ag s.Cap,ag s.An,ag s.Ao,ag s.Ap,.slice z (å (s.A2+s.A5).toNat (sQ s)).length A,.slice ç 0 0,.slice (ax l) (å 2 (à:Tape)).length 2,ag 0,ag (-1),.bool â]) dQ Z κ) (bw aB (o:=0) jl Z p 1 Z (λH b c=>?_))
 replace c:=χ c
 replace c:=bt c;refine aH (dT h (c.box 1 Z) Z ?_);have H:=c.nilW (a:=Int);rw[pM ω];exact⟨H.ext,_,_,ç,0,_,_,Z,H.res3N 4 5 3 Z (λw d f i=>WldResult.own_mk (x:=⟨0,eM s⟩) ⟨C2,tD S⟩ d f i)⟩

end Go.Wk
namespace Go.Wk
open Rp (sz own)
variable {s:A0}{a:ByteArray}{b:List UInt8}{y w:Wld}
theorem Nb(H:s.ok=ã)(h:(bG (eM s) a b).Code=0)(f:bG (eM s) a b=⟨0,y⟩)(g:dZ y (dy s a)=⟨0,w⟩):Gw 100000000 w:=by
  have S:=bm H
  obtain⟨u,q,p,m,j,i⟩:=Qh H h
  have k:ins (dy s a) 0 _=true:=rO H
  have n:=bH.1 k
  have c:ins (dy s a) 0 (s.A2+s.A5-1)=true:=bH.2 ω
  have d:Rs s [itX a b]:=⟨by show 1<=20;decide,λr l=>by rw[aD.1 l];exact⟨m,j⟩⟩
  obtain⟨T,t⟩:=i.turnOn H d dv c
  have e:y=layZ (eM s) _:=congrArg WldResult.Wd (f.symm.trans p)
  have E:w=(dZ (layZ (eM s) (itX a b)) (dy s a)).Wd:=by rw[<- e,g]
  rw[<- E] at t
  have o:Oo s [dy s a] := .inr ⟨_,rfl,c⟩
  exact Gw.of (uL (t.up H o d dv)).1 t.st t.dn (Int.le_trans t.wr.2 dv)
end Go.Wk
namespace Go.Wk
open Go.Proofs Rp Go.Proofs.Tryz
set_option maxRecDepth 10000
variable {r:Option ô}{Q:List UInt8}{W:Nat}
theorem qU{w:ä}(S:aj w r Q W)(u:Q.length<=1048576):am 5 [ak r Q W] w λv y=>∃x:A0,v=x.v/\x.few:=by
 obtain⟨codeF,C⟩:=S;refine bv func5 Z (λt s N=>?_);have H:=Sep.start (aC C ba);refine aT (cz aB Z Ŭ H (λH a b c d=>aH (aT (sM Z (sC func19 Z (pJ (d.Ae 0 Z)) (λH a e=>?_))))));obtain⟨f,g,rfl,h,i⟩:=e;have j:=d.newBox f h i;refine sC func18 Z (rE (j.box 1 Z) (aJ (j.Ab 0 Z)) (j.B5 0 Z 1 Z) ω ω) (λH a k=>?_);obtain⟨l,m,⟨n,o⟩,p,rfl,q⟩:=k;have H:=j.Ay 1 Z n o;exact bw aB lZ Z H 0 Z (λH a b=>aH (dT s (b.box 0 Z) Z ⟨b.ext,p,Z,q⟩))

theorem xn{j_:ä}(e_:aj j_ r Q W):am 3 [ak r Q W] j_ λw_ w'=>w_ = .bool true:=by
 have y_:=sL e_;obtain⟨codeF,o_⟩:=e_;refine bv func3 Z (λx_ v hN=>?_);have H:=Sep.start (aC o_ ba);refine aG 75074 ?_;refine sE func4 Z (BS (H.Ae 0 Z)) H (λH a c=>aH (l9 Z (λH=>?_) (λH=>?_)))
 .exact aT (sA Z (aH (rT v Z ⟨c.ext,Z⟩)))
 refine bi (aT (sM Z (sC func5 Z (qU (c.Ae 0 Z) ω) (λH a d=>?_))));obtain⟨f,h,rfl,i⟩:=d;have H:=c.to f;refine cz aB Z Ŭ H (λH a c d f=>bw aB (o:=0) lZ Z f 0 Z (λH a j=>?_))
 replace j:=χ j
 have F_:=Hj i;refine aX 270115 j ?_;refine sC func6 Z (xe η) (λH a k=>?_);obtain⟨l,m,n,o,p,s,u,rfl,k⟩:=k;obtain⟨H,a⟩:=j.res l k;have H:=a.Ba 1 Z;obtain⟨a,c,d,f,i,j,k,l⟩:=iC (H.Ab 1 Z);have a:=H.look1 1 Z j (λb e=>by rw[f];simp[e]);have H:=a.look1 1 Z k (λb e=>by rw[f];simp[e]);have a:=H.look1 1 Z l (λb e=>by rw[f];simp[e]);refine cz aB Z Č a (λH a c d f=>bw aB (o:=0) jl Z f 2 Z (λH a A=>?_))
 replace A:=χ A
 refine ge 0x9f3d37f9253 A (λB=>?_) (λB=>?_)
 .refine aW (ep A (oQ [1,5,7,2,9,10]) (λH C=>aX 24684721759 C ?_));refine dC func7 Z iY (λH a D=>?_);obtain⟨E,rfl⟩:=D;have H:=C.to E;refine dV Z (λzw hx=>ji Z Z) (dD Z aB Z (cr Z) (dO (rT v Z ?_)));exact⟨H.ext,congrArg ó (aU (show h.fault=(fg h).Code by rw[vr (λq=>by have:=B;rw[pM q] at this;exact this Z)]))⟩
 refine bi (aW ?_);have y:h.ok=true:=by
  by_cases q:h.fault=0
  .exact gS q
  have H:(fg h).Code=0:=by omega
  rw[vr q] at H;exact absurd H q
 have t_:=pM (pV y);have U:(fg h).Wd=eM h:=by rw[t_]
 have z_:(fg h).Wd.Ok:=by rw[U];exact tD (jA y)
 have A_:fY (fg h).Wd<=1048576:=by rw[U];have:=(Gw.new y).sz;omega
 refine ce (sM Z (sC func8 Z (t7 (A.Ae 0 Z) ω) (λH a F=>?_)));obtain⟨G,I,J,K,L,M,N,O,a_,b_,c_,d_,m_,n_,Y,w,a',b',rfl,c',d',F⟩:=F;obtain⟨H,a⟩:=A.res G F;refine aG 171572144113 ?_;refine cz aB Z Ç a (λH a c d f=>bw aB (o:=0) ff Z f 4 Z (λH a i=>?_))
 replace i:=χ i
 obtain⟨P,T⟩:∃R,R=bG (fg h).Wd Y w:=⟨_,Z⟩;refine aX 4633629255 i ?_;refine sC func9 Z (ya η (i.Ae 2 Z) (i.Ae 3 Z) (i.Ae 4 Z) (i.As 3 Z) ξ ξ ξ (z:=(fg h).Wd)) (λH a j=>?_);rw[<- T] at j;obtain⟨k,l,m,n,o,p,s,rfl,j⟩:=j;obtain⟨H,a⟩:=i.res k j;have H:=a.Ba 5 Z;obtain⟨a,c,d,f,i,j,k,l⟩:=iC (H.Ab 5 Z);have a:=H.look1 5 Z j (λb e=>by rw[f];simp[e]);have H:=a.look1 5 Z k (λb e=>by rw[f];simp[e]);have a:=H.look1 5 Z l (λb e=>by rw[f];simp[e]);refine cz aB Z Č a (λH a c d f=>bw aB (o:=0) jl Z f 6 Z (λH a u=>?_))
 replace u:=χ u
 replace u:=bt u;refine ge 0x9f3d37f9253 u (λH=>?_) (λH=>?_)
 .refine aW (ep u (oQ [1,3,5,7,13,15,8,11,17,18]) (λH A=>aX 0x5bf52fbb66f52f A ?_));refine dC func10 Z (yM η (A.Ae 2 Z) (A.Ae 3 Z) (A.Ae 4 Z) (A.As 3 Z) ξ ξ ξ (z:=(fg h).Wd)) (λH a B=>?_);obtain⟨C,D,E,e',f',g',h',rfl,B⟩:=B;obtain⟨H,a⟩:=A.res C B;have H:=a.Ba 7 Z;obtain⟨a,c,d,f,i,j,k,l⟩:=iC (H.Ab 9 Z);have a:=H.look1 9 Z j (λb e=>by rw[f];simp[e]);have H:=a.look1 9 Z k (λb e=>by rw[f];simp[e]);have a:=H.look1 9 Z l (λb e=>by rw[f];simp[e]);refine aG 5458354828623 ?_;exact rT v Z ⟨a.ext,congrArg ó (aU (by rw[T]))⟩
 refine bi (aW ?_);have i_:(bG (eM h) Y w).Code=0:=by rw[<- U,<- T];omega
 obtain⟨F,H,G,l_,I,a,J,c,d,f,i,K,L,M,j,N,O⟩:=Ie y i_;have B_:=Nb y i_ a J;have q_:P=⟨0,l_⟩:=by rw[T,U];exact a
 obtain rfl:l_=P.Wd:=by rw[q_]
 have s_:(xd h Y).Val=(dy h Y):=by rw[FI (pV y) F]
 have C_:=fV G;refine aX 82422 u ?_;refine sE func11 Z (y3 ξ) u (λH a m=>aG 344847 ?_);rw[s_];obtain⟨S,f_⟩:∃R,R=dZ P.Wd (dy h Y):=⟨_,Z⟩;obtain rfl:I=S.Wd:=by rw[f_,J]
 refine aX 1322902 m ?_;refine sC func12 Z (xi η (m.Ae 6 Z) (m.Ae 7 Z) (m.Ae 8 Z) ξ (z:=P.Wd) (g:=(dy h Y))) (λH a n=>?_);rw[<- f_] at n;obtain⟨o,p,s,a_,b_,c_,d_,rfl,n⟩:=n;obtain⟨H,a⟩:=m.res o n;have H:=a.Ba 7 Z;obtain⟨a,c,d,f,i,j,k,l⟩:=iC (H.Ab 9 Z);have a:=H.look1 9 Z j (λb e=>by rw[f];simp[e]);have H:=a.look1 9 Z k (λb e=>by rw[f];simp[e]);have a:=H.look1 9 Z l (λb e=>by rw[f];simp[e]);refine sV Z (Py.to (v':=S.Wd.val p s a_ b_ c_ d_) (Gv Eu Z eC ff Z Z) Z) (cz aB Z Ç a (λH a c d f=>bw aB (o:=0) ff Z f 8 Z (λH a u=>?_)))
 replace u:=χ u
 obtain⟨Rc,V⟩:∃R,R=jU S.Wd Y:=⟨_,Z⟩;have H:Rc.Code=0:=by rw[V,L]
 have h_:Rc.Bytes=w:=by rw[V,L]
 refine aX 1318691 u ?_;refine sC func13 Z (oH η (u.Ae 10 Z) (u.Ae 11 Z) (u.Ae 12 Z) ξ ξ (z:=S.Wd)) (λH a A=>?_);rw[<- V] at A;obtain⟨B,C,D,rfl,A⟩:=A;obtain⟨H,a⟩:=u.res B A;have H:=a.Ba 9 Z;obtain⟨a,c,d,f⟩:=rv (H.Ab 13 Z);have a:=H.look1 13 Z f (λb e=>by rw[c];simp[e]);refine cz aB Z zeroValue44 a (λH a c d f=>bw aB (o:=0) KU Z f 10 Z (λH a E=>?_))
 replace E:=χ E
 obtain⟨x,g_⟩:∃R,R=dsF S.Wd (dy h Y):=⟨_,Z⟩;rw[<- g_] at N O;refine aX 1318691 E ?_;refine sC func14 Z (ut η (E.Ae 10 Z) (E.Ae 11 Z) (E.Ae 12 Z) ξ ξ (z:=S.Wd) (g:=(dy h Y))) (λH a F=>?_);rw[<- g_] at F;obtain⟨I,J,L,m_,n_,a',b',rfl,F⟩:=F;obtain⟨H,a⟩:=E.res I F;have H:=a.Ba 11 Z;obtain⟨a,c,d,f,i,j,k,l⟩:=iC (H.Ab 15 Z);have a:=H.look1 15 Z j (λb e=>by rw[f];simp[e]);have H:=a.look1 15 Z k (λb e=>by rw[f];simp[e]);have a:=H.look1 15 Z l (λb e=>by rw[f];simp[e]);refine cz aB Z Č a (λH a c d f=>bw aB (o:=0) jl Z f 12 Z (λH a m=>?_))
 replace m:=χ m
 refine ge 0x9f3d37f9253 m (λH=>?_) (λH=>?_)
 .refine aW ?_;have E_:(BV h ((w.length:Nat):Int)).Val=dd h (w.length:Nat):=by rw[DM (pV y)];exact u3 G
  have D_:h.Rows<dd h (w.length:Nat):=by
   by_cases q:dd h (w.length:Nat)<=h.Rows
   .obtain⟨k_,p_,_⟩:=O q;have:x.Code=0:=by rw[p_]
    omega
   omega
  refine ep m (oQ [1,3,5,11,13,6,9,15,17,19,21,23,24,27,28]) (λH n=>aX 0x5bf52f53fb65f n ?_);refine dC func15 Z (wK gQ) (λH a o=>?_);obtain⟨p,rfl⟩:=o;have s:=n.to p;refine aG 189592911 ?_;refine dU (t:=77) Z (λu=>?_) (λu=>?_)
  .replace u:=φ u
   refine aX 48583146479 n ?_;refine cb Z (wg Z) Z (pcK func16 Z) (md (s.Ae 14 Z) (s.As 3 Z)) τ1 (λH a A=>?_);obtain⟨B,rfl⟩:=A;have H:=s.to B;exact dV Z υ4 (dD Z aB Z (cr Z) (dO (rT v Z ⟨H.ext,congrArg ó (aU h_)⟩)))
  replace u:=φ u
  refine aG 0x4f6df57ffefaaa ?_;refine rT v Z ?_
  exfalso;omega
 refine bi (aW ?_);have v_:dd h (w.length:Nat)<=h.Rows:=by
  by_cases q:dd h (w.length:Nat)<=h.Rows
  .exact q
  have:=N ω;omega
 obtain⟨k_,h,H,a,i,j,k⟩:=O v_;obtain rfl:k_=x.Wd:=by rw[h]
 have H:x.Code=0:=by rw[h]
 obtain⟨Re,X⟩:∃R,R=jU x.Wd Y:=⟨_,Z⟩;have H:Re.Code=0:=by rw[X,j]
 have r_:Re.Bytes=w:=by rw[X,j]
 refine aX 1322902 m ?_;refine sC func13 Z (oH η (m.Ae 16 Z) (m.Ae 17 Z) (m.Ae 18 Z) ξ ξ (z:=x.Wd)) (λH a c=>?_);rw[<- X] at c;obtain⟨d,f,l,rfl,c⟩:=c;obtain⟨H,a⟩:=m.res d c;have H:=a.Ba 13 Z;obtain⟨a,c,d,f⟩:=rv (H.Ab 19 Z);have a:=H.look1 19 Z f (λb e=>by rw[c];simp[e]);refine cz aB Z zeroValue44 a (λH a c d f=>bw aB (o:=0) KU Z f 14 Z (λH a m=>?_))
 replace m:=χ m
 replace m:=bt m;refine aH (aW ?_);have G_:(CZ P.Wd).Val=(w.length:Nat):=by rw[yU K];exact M
 have u_:(CZ x.Wd).Val=0:=by rw[yU i];exact k
 refine aX 30637974 m ?_;refine cZ (t:=90) Z (λn=>?_) (λn=>?_)
 .replace n:=φ n
  refine aX 337521341102511 m ?_;refine cZ (t:=95) Z (λo=>?_) (λo=>?_)
  .replace o:=φ o
   refine aX 337521341102511 m ?_;refine cZ (t:=100) Z (λp=>?_) (λp=>?_)
   .replace p:=φ p
    refine aX 38917110191 m ?_;refine dE (wg Z) Z (pcK func16 Z) (md (m.Ae 14 Z) (m.As 3 Z)) (λH a s=>?_);obtain⟨u,rfl⟩:=s;have A:=m.to u;refine sV Z (dJ Z Z) (sM Z (cZ (t:=106) Z (λB=>?_) (λB=>?_)))
    .replace B:=φ B
     refine aX 38917110191 A ?_;refine dE (wg Z) Z (pcK func16 Z) (md (A.Ae 20 Z) (A.As 3 Z)) (λH a C=>?_);obtain⟨D,rfl⟩:=C;have h:=A.to D;refine sV Z (dJ Z Z) (sM Z (cZ (t:=112) Z (λi=>?_) (λi=>?_)))
     .replace i:=φ i
      refine aX 11467183 h ?_;refine dE (wg Z) Z (pcK func17 Z) (mM η (h.Ae 6 Z) (h.Ae 7 Z) (h.Ae 8 Z) ξ (z:=P.Wd)) (λH a j=>?_);obtain⟨k,rfl⟩:=j;have l:=h.to k;refine aG 0x132f94f9bf90f9cf ?_;refine cZ (t:=121) Z (λE=>?_) (λE=>?_)
      .replace E:=φ E
       refine aX 11467183 l ?_;refine dE (wg Z) Z (pcK func17 Z) (mM η (l.Ae 16 Z) (l.Ae 17 Z) (l.Ae 18 Z) ξ (z:=x.Wd)) (λH a F=>?_);obtain⟨G,rfl⟩:=F;have H:=l.to G;refine aG 288561101263 ?_;exact rT v Z ⟨H.ext,congrArg ó (aU u_)⟩
      replace E:=φ E
      refine aG 18051795080 ?_;refine rT v Z ?_
      exfalso;omega
     replace i:=φ i
     refine aG 0x433f88888133f8888888 ?_;refine rT v Z ?_;exact absurd i (by rw[r_];simp)
    replace B:=φ B
    refine aG 0x433f88888133f8888888133f8888 ?_;refine rT v Z ?_;exact absurd B (by rw[h_];simp)
   replace p:=φ p
   refine aG 0x433f88888133f8888888133f8888133f8888 ?_;refine rT v Z ?_
   exfalso;omega
  replace o:=φ o
  refine aG 0x433f88888133f8888888133f8888133f8888133f888 ?_;refine rT v Z ?_
  exfalso;omega
 replace n:=φ n
 refine aG 0x433f88888133f8888888133f8888133f8888133f888133f888 ?_;refine rT v Z ?_
 exfalso;omega

end Go.Wk
