/-
  Laws on walking, and the functions walked, each once: what this claim comes to.
-/
import Derived.Test.YtikenamkplgabaaGreatZB3
set_option linter.unusedVariables false
set_option linter.unusedSimpArgs false
namespace Go.Wk
open Go.Proofs Rp Go.Proofs.Tryz
set_option maxRecDepth 10000
theorem mj {w:World}{zb zC9 zC10 zC11:Nat}{z:Wld}{zA9 zA10 zA11:Option Addr}{zF9 zF10 zF11:List Nat}{g:Int}(zB:w.heap[zb]? = some (.cells [.int .i64 z.Shape.Groups,.int .i64 z.Shape.Column,.int .i64 z.Shape.Data,.int .i64 z.Shape.Spare,.int .i64 z.Shape.Rows,.int .i64 z.Shape.Cap,.int .i64 z.Shape.Batch,.int .i64 z.Shape.Queue,.int .i64 z.Shape.Stage,.slice zA9 z.Groups.length zC9,.slice zA10 z.On.length zC10,.slice zA11 z.Tapes.length zC11,.int .i64 z.Writes,.int .i64 z.Stop,.bool z.Down].toArray 31)) (zK:z.Ok) (zO9:own false w [.slice zA9 z.Groups.length zC9] z.Groups zF9) (zO10:own false w [.slice zA10 z.On.length zC10] z.On zF10) (zO11:own false w [.slice zA11 z.Tapes.length zC11] z.Tapes zF11) (hs:z.Shape.ok=true) (hG:aN z=true) (hg:ins g 0 (z.Shape.Groups+z.Shape.Column-1)=true):Ret Tryz.prog 77 #[.pointer (some ⟨zb,0,none⟩),.int .i64 g] w fun v w'=>Ext No w w'∧(v = .bool (mV z g)):=by
 have zK2:=zK;unfold Wld.Ok Shape.Ok at zK2
 try unfold I64ok at zK2
 try unfold maxLen at zK2
 have zL9:=oL zO9;have zL10:=oL zO10;have zL11:=oL zO11;have sbd:=aG hs;have hgg:=cw hG;have hgl:=hgg.1;have hgi:=aJ.1 hg;obtain ⟨hdl,hdd⟩:=hgg.2 g.toNat ω;have gln:(z.Groups.getD g.toNat []).length=z.Shape.Data.toNat+z.Shape.Spare.toNat:=by omega
 refine aH func77 Z ntmps77 Z (fun Q hQ hN=>?_);have H0:=Sep.start (bX zB (ab zO9 (ab zO10 (ab zO11 aA))));refine ac (sA Z Z (aa (ae (ac (sR 2 Z (sE func80 jE Z (cV (H0.fbox 0 Z) η (H0.sees 1 Z) (H0.sees 2 Z) (H0.sees 3 Z) (by first | assumption | exact hgz (by simp_all)) (by first | assumption | exact hgz (by simp_all)) (by first | assumption | exact hgz (by simp_all))) H0 (fun w1 e1 H1=>aa (cx Z (fun c1=>?_) (fun c1=>?_)))))))))
 ·refine ac (rA hQ results77 Z ?_);exact ⟨H1.ext,congrArg Value.bool (x5 (by simp_all)).symm⟩
 ·refine au (ae (ac (sR 2 Z (sF be Z bk (sF bi Z ts2 (sLd tu2 (H1.fbox 0 Z) Z (sM Z Z (aa (ax (dJ (γ:=Nat) H1 [(0,_),(1,_),(16,_)] ⟨Z,Z,Z,trivial⟩ (fun k=>[(17,.int .i64 k)]) (fun k=>k≤z.Shape.Rows.toNat∧(∀ i,i<k→∀ d,d<(z.Groups.getD g.toNat []).length→xw z g i d=true)) (fun k=>z.Shape.Rows.toNat-k) 0 ⟨Z,trivial⟩ ⟨ω,fun i hi=>by omega⟩ (fun k w2 H2 ⟨hk,he⟩=>?_)))))))))));dsimp only[lCA,lNA];refine ac (sV Z (aX Z Z) (aa (ae (aC Z (fun c2=>?_) (fun c2=>?_)))))
  ·refine au (ae (ax (ac (sR 2 Z (aa (ae ?_))))));have hrk:ins (k:Int) 0 (z.Shape.Rows-1)=true:=aJ.2 ω;have rl:=lg hs hG hg hrk (by simp_all);refine am (sR 2 Z (sF be Z bk (sV Z (ak bi Z bk Z Z (At.sub (H2.fbox 0 Z) 9)) (sE func136 iJ Z (dc η) H2 (fun w3 e2 H3=>sR 3 Z (sC func81 lk Z (cJ (H3.fbox 0 Z) η (az (H3.seen 1 Z)) (az (H3.seen 2 Z)) (az (H3.seen 3 Z)) η η η η) (fun v3 w4 r3=>?_)))))));obtain ⟨e3,r3⟩:=r3;obtain ⟨fp1,H4⟩:=H3.res e3 r3;obtain ⟨a1,k1,q1⟩:=an (H4.mine 0 Z);cases q1;refine sC func137 jM Z (cL (n:=z.Shape.Data.toNat) (s:=z.Shape.Spare.toNat) ω ω ω ω ⟨_,az (H4.mine 0 Z)⟩) (fun v4 w5 r4=>?_);obtain ⟨e4,r4⟩:=r4;obtain ⟨fp2,H5⟩:=H4.res e4 r4;obtain ⟨a2,k2,q2⟩:=an (H5.mine 1 Z);cases q2;refine sA Z Z (aa (ae ?_));obtain ⟨wa,wc,wq⟩:=an (H5.mine 1 Z);cases wq;have H6:=H5.share 1 Z
   try dsimp only[lNA,lCA,lSZ,lSS] at H6
   have wl:(ki z.Shape.Data.toNat (z.Shape.Data.toNat+z.Shape.Spare.toNat) (jb z g k)).length=z.Shape.Data.toNat+z.Shape.Spare.toNat:=mq;refine am (sR 3 Z (sC func138 ss Z (ii (H6.fbox 0 Z) η (az (H6.seen 1 Z)) (az (H6.seen 2 Z)) (az (H6.seen 3 Z)) η η η η) (fun v5 w6 r5=>?_)));obtain ⟨e5,fpS1,oS1,hS1⟩:=r5;have H7:=H6.lookS e5 1 Z oS1 hS1;obtain ⟨a3,k3,q3⟩:=an (H7.seen 5 Z);cases q3;refine sV Z (aS dj Z) (sM Z Z (aa (ax (dJ (γ:=Nat) H7 [(0,_),(1,_),(6,_),(16,_),(17,_),(33,_),(34,_)] ⟨Z,Z,Z,Z,Z,Z,Z,trivial⟩ (fun k2=>[(35,.int .i64 k2)]) (fun k2=>k2≤(z.Groups.getD g.toNat []).length∧(∀ i,i<k2→xw z g k i=true)) (fun k2=>(z.Groups.getD g.toNat []).length-k2) 0 ⟨Z,trivial⟩ ⟨ω,fun i hi=>by omega⟩ (fun k2 w7 H8 ⟨hk2,hek2⟩=>?_)))));dsimp only[lCA,lNA];refine ae ?_;have bl:(je z g k).length=(z.Groups.getD g.toNat []).length:=pV;refine am (sV Z (aX Z Z) (aa (ae (aC Z (fun c3=>?_) (fun c3=>?_)))))
   ·refine au (ae (ax (ae ?_)));obtain ⟨eb1,eo1,ea1,ek1,ef1,ee1,ec1,eO1,eH1⟩:=fo (H8.seen 5 Z) k2 ω;have eP1:=H8.look1 5 Z eO1 eH1;refine am (sM Z Z (sV Z (aB dj bf Z Z ee1 k2 ω ω) (sV Z (aj aZ Z Z ec1) (sR 2 Z (aa (ae ?_))))));obtain ⟨_,hb2⟩:=hdd k2 ω;have aq:=Dh (z:=z) (g:=g) (i:=k) (d:=k2) ω (fun _=>(eU (hb2 k ω)).2.2);unfold AD at aq;obtain ⟨eb2,eo2,ea2,ek2,ef2,ee2,ec2,eO2,eH2⟩:=fo (eP1.seen 4 Z) k2 ω;have eP2:=eP1.look1 4 Z eO2 eH2;refine am (sM Z Z (sV Z (aS aZ Z) (sR 2 Z (bR 7 (j:=3) (want:=true) (t:=50) Z Z Z Z (fun hg1 kk1=>ao (wgE Z Z Z hg1) Z Z (aL Z) (ao (wgE Z Z Z hg1) Z Z (aL Z) (ao (wgE Z Z Z hg1) Z Z (aL Z) (ao (wgE Z Z Z hg1) Z Z (aB dj bf Z Z ee2 k2 (by first | omega | (simp only [Bool.or_eq_false_iff,Bool.and_eq_true,Bool.and_eq_false_iff,Bool.or_eq_true,Bool.not_eq_true',Bool.not_eq_false',decide_eq_true_eq,decide_eq_false_iff_not] at hg1; omega)) ω) (ao (wgE Z Z Z hg1) Z Z (aj aZ Z Z ec2) (cj (wgE Z Z Z hg1) Z Z (aR func139 Z of Z) (lU (eP2.sees 6 Z) (eP2.sees 7 Z)) (fun w9 e7=>ao (wgE Z Z Z hg1) Z Z (bh Z) (kk1 _ _ (kx Z (kx Z (kx Z (kx Z (kx Z (kx Z (kx Z k0))))))) Z (Ext.refl.trans e7))))))))) (fun w8 e6=>?_)))));have H9:=eP2.to e6;refine sV Z (bz Z Z) (aa (cx Z (fun c4=>?_) (fun c4=>?_)))
    ·refine ac (rA hQ results77 Z ?_);exact ⟨H9.ext,congrArg Value.bool (Cd (i:=k) (d:=k2) ω ω (by rw [aq]; clear aq; simp_all)).symm⟩
    ·refine au (am (sV Z (aE Z Z iO) (sM Z Z (aa (⟨k2+1,⟨Z,Z,Z,Z,Z,Z,Z,Z,trivial⟩,⟨(H9.ftake 6),ω,fun i hi=>?_⟩,θ⟩)))))
     by_cases e:i=k2
     ·subst e
      (rw [aq]; clear aq; simp_all; exact (Nat.eq_zero_or_pos _).imp List.eq_nil_of_length_eq_zero c4)
     ·exact hek2 i ω
   ·refine aT (am (sV Z (aE Z Z iO) (sM Z Z (aa (⟨k+1,⟨Z,Z,Z,Z,trivial⟩,⟨((H8.ftake 4).dtake 0),ω,fun i hi=>?_⟩,θ⟩)))))
    by_cases e:i=k
    ·subst e
     intro d hd
     exact hek2 d ω
    ·exact he i ω
  ·refine aT (ac (rA hQ results77 Z ?_));exact ⟨H2.ext,congrArg Value.bool (tH (by simp_all) (fun i hi=>he i ω)).symm⟩
theorem jg {w:World}{z:Wld}{zA9 zA10 zA11:Option Addr}{zC9 zC10 zC11:Nat}{g:Int}(zK:z.Ok) (zS9:Sees w [.slice zA9 z.Groups.length zC9] z.Groups) (zS10:Sees w [.slice zA10 z.On.length zC10] z.On) (zS11:Sees w [.slice zA11 z.Tapes.length zC11] z.Tapes):Ret Tryz.prog 24 #[z.val zA9 zC9 zA10 zC10 zA11 zC11,.int .i64 g] w fun v w'=>Ext No w w'∧(v = .bool (tY z g)):=by
 have zK2:=zK;unfold Wld.Ok Shape.Ok at zK2
 try unfold I64ok at zK2
 try unfold maxLen at zK2
 have zL9:=sL zS9;obtain ⟨zF9,zO9⟩:=zS9;have zL10:=sL zS10;obtain ⟨zF10,zO10⟩:=zS10;have zL11:=sL zS11;obtain ⟨zF11,zO11⟩:=zS11;have hw:cz z=0→z.Shape.ok=true∧aN z=true:=fun h=>⟨(bx (w:=z) h).1,(bx (w:=z) h).2.1⟩
 refine aH func24 Z ntmps24 Z (fun Q hQ hN=>?_);have H0:=Sep.start (ab zO9 (ab zO10 (ab zO11 aA)));refine ac (bu ah Z Z H0 (fun b1 w1 e1 g1 H1=>sA Z Z (aa (ac (sV Z (ak be Z cy Z Z (At.whole (H1.box 0 Z))) (sE func69 nf Z (et η (H1.sees 0 Z) (H1.sees 1 Z) (H1.sees 2 Z)) H1 (fun w2 e2 H2=>sR 2 Z (bR 4 (j:=3) (want:=true) (t:=12) Z Z Z Z (fun hg1 kk1=>ao (wgE Z Z Z hg1) Z Z (ag be Z bk Z Z) (ao (wgE Z Z Z hg1) Z Z (ak bi Z bk Z Z (At.sub (H2.box 0 Z) 9)) (ao (wgE Z Z Z hg1) Z Z (aL Z) (cj (wgE Z Z Z hg1) Z Z (aR func58 Z fM Z) (bD (by first | assumption | exact (hw (by simp_all)).1 | exact (hw (by simp_all)).2 | (have hws:=(hw (by simp_all)).1; rw [← gR hws]; simp_all; done) | (simp_all; done))) (fun w4 e4=>kk1 _ _ (kx Z (kx Z (kx Z (kx Z k0)))) Z (Ext.refl.trans e4)))))) (fun w3 e3=>?_)))))))));have H3:=H2.to e3;refine sV Z (bz Z Z) (sM Z Z (bR 2 (j:=9) (want:=true) (t:=16) Z Z Z Z (fun hg2 kk2=>ao (wgE Z Z Z hg2) Z Z (aL Z) (cj (wgE Z Z Z hg2) Z Z (aR func77 Z CK Z) (mj (H3.box 0 Z) η (az (H3.seen 0 Z)) (az (H3.seen 1 Z)) (az (H3.seen 2 Z)) (by first | assumption | exact (hw (by simp_all)).1 | exact (hw (by simp_all)).2 | (have hws:=(hw (by simp_all)).1; rw [← gR hws]; simp_all; done) | (simp_all; done)) (by first | assumption | exact (hw (by simp_all)).1 | exact (hw (by simp_all)).2 | (have hws:=(hw (by simp_all)).1; rw [← gR hws]; simp_all; done) | (simp_all; done)) (by first | assumption | exact (hw (by simp_all)).1 | exact (hw (by simp_all)).2 | (have hws:=(hw (by simp_all)).1; rw [← gR hws]; simp_all; done) | (simp_all; done))) (fun w6 e6=>kk2 _ _ (kx Z (kx Z k0)) Z (Ext.refl.trans e6)))) (fun w5 e5=>?_)));have H4:=H3.to e5;refine sV Z (bz Z Z) (rA hQ results24 Z ?_);exact ⟨H4.ext,Z⟩
end Go.Wk
namespace Go.Wk
open Go.Proofs Rp Go.Proofs.Tryz
set_option maxRecDepth 10000
theorem qm {w:World}{i j:Int}(hj:0≤j∧j≤900):Ret Tryz.prog 215 #[.int .i64 i,.int .i64 j] w fun v w'=>Ext No w w'∧(v = .int .u8 (cauchy (8+j) i).toNat):=by
 refine aH func215 Z ntmps215 Z (fun Q hQ hN=>?_);have H0:=Sep.start (w:=w) (F:=[]) σ;refine ac (sA Z Z (aa (ac (sM Z Z (sV Z (aE Z Z iO) (sV Z (mT tu2 tu5 Z) (sM Z Z (sV Z (mT tu2 tu5 Z) (sV Z (nu Z Z) (sE func264 oF Z (kE (a:=1)) H0 (fun w1 e1 H1=>rA hQ results215 Z ?_)))))))))));exact ⟨H1.ext,by rw [np,cauchy,show (128:Int)+(8+j)=136+j by omega]⟩
end Go.Wk
namespace Go.Wk
open Rp (sz own)
def dw (z:Wld) (g:Int) (r:Rec):List (List UInt8):=
  ki z.Shape.Data.toNat (z.Shape.Data.toNat+z.Shape.Spare.toNat) (bV r.Delta (cauchy (8+(g-z.Shape.Groups)) r.Group))
def eS (z:Wld) (r:Rec):List (List UInt8):=ki z.Shape.Data.toNat (z.Shape.Data.toNat+z.Shape.Spare.toNat) r.Data
def nU (z:Wld) (g:Int) (r:Rec):List (List UInt8):=if ins g 0 (z.Shape.Groups-1)=true then eS z r else dw z g r
def eG (z:Wld) (g i row:Nat):Block:=(aV z g i).Blocks.getD row default
def fV (z:Wld) (g:Int) (i:Nat) (r:Rec) (row:List UInt8):List UInt8:=if ins g 0 (z.Shape.Groups-1)=true then row else eO row (eG z g.toNat i r.Row.toNat).Bytes
def jt (z:Wld) (g i:Nat) (r:Rec):Bool:=(aV z g i).Wiped || decide (r.Seq≤(eG z g i r.Row.toNat).Stamp)
def redoI (rows:List (List UInt8)) (g:Int) (r:Rec):Nat→Nat→Wld→Bool × Wld
  | 0,_,z=>(true,z)
  | n + 1,i,z=>if jt z g.toNat i r=true then redoI rows g r n (i+1) z else
      if bv z=true then (false,dT g.toNat i r.Row.toNat ⟨r.Seq,fV z g i r (rows.getD i [])⟩ z)
      else redoI rows g r n (i+1) (dT g.toNat i r.Row.toNat ⟨r.Seq,fV z g i r (rows.getD i [])⟩ z)
def lG (z:Wld):Nat:=z.Shape.Data.toNat+z.Shape.Spare.toNat
def eq (z:Wld) (g:Int) (r:Rec):Bool × Wld:=redoI (nU z g r) g r (lG z) 0 z
section
variable {z:Wld}{g i row j n:Nat}{b:Block}{r:Rec}{rows:List (List UInt8)}
theorem tz {α:Type}{xs:List α}{k:Nat}{d:α}(h:k<xs.length):xs.set k (xs.getD k d)=xs:=by
  rw [bI h]; exact List.set_getElem_self h
theorem nl (hg:g<z.Groups.length) (hi:i<(z.Groups.getD g []).length) (hr:row<((z.Groups.getD g []).getD i default).Blocks.length):jx g i row (eG z g i row) z=z:=by
  unfold jx eG aV
  rw [tz hr]
  have e:(⟨((z.Groups.getD g []).getD i default).Wiped,((z.Groups.getD g []).getD i default).Blocks⟩:Drive)=(z.Groups.getD g []).getD i default:=rfl
  rw [e,tz hi,tz hg]
theorem vm {g:Int}(h:¬ i<n):redoI rows g r (n-i) i z=(true,z):=by rw [show n-i=0 by omega]; rfl
theorem se {g:Int}(h:i<n) (c:jt z g.toNat i r=true):redoI rows g r (n-i) i z=redoI rows g r (n-(i+1)) (i+1) z:=by
  rw [show n-i=(n-(i+1))+1 by omega,redoI,if_pos c]
theorem wF {g:Int}(h:i<n) (c:jt z g.toNat i r=false) (p:bv z=false):redoI rows g r (n-i) i z=redoI rows g r (n-(i+1)) (i+1) (dT g.toNat i r.Row.toNat ⟨r.Seq,fV z g i r (rows.getD i [])⟩ z):=by
  rw [show n-i=(n-(i+1))+1 by omega,redoI,if_neg (by rw [c]; simp),if_neg (by rw [p]; simp)]
theorem s6 {g:Int}(h:i<n) (c:jt z g.toNat i r=false) (p:bv z=true):redoI rows g r (n-i) i z=(false,dT g.toNat i r.Row.toNat ⟨r.Seq,fV z g i r (rows.getD i [])⟩ z):=by
  rw [show n-i=(n-(i+1))+1 by omega,redoI,if_neg (by rw [c]; simp),if_pos p]
theorem fF (hg:g<z.Groups.length) (hi:i<(z.Groups.getD g []).length) :
    (dT g i row b z).Groups.length=z.Groups.length∧((dT g i row b z).Groups.getD g []).length=(z.Groups.getD g []).length∧∀ j,j≠i→aV (dT g i row b z) g j=aV z g j:=by
  unfold dT kD
  split
  · exact ⟨rfl,rfl,fun _ _=>rfl⟩
  · have e:(hX (jx g i row b z)).Groups=z.Groups.set g ((z.Groups.getD g []).set i ⟨(aV z g i).Wiped,(aV z g i).Blocks.set row b⟩):=rfl
    have e2:(z.Groups.set g ((z.Groups.getD g []).set i ⟨(aV z g i).Wiped,(aV z g i).Blocks.set row b⟩)).getD g []=(z.Groups.getD g []).set i ⟨(aV z g i).Wiped,(aV z g i).Blocks.set row b⟩:=by rw [bM,if_pos ⟨rfl,hg⟩]
    refine ⟨by rw [e,List.length_set],by rw [e,e2,List.length_set],fun j hj=>?_⟩
    unfold aV
    rw [e,e2,bM,if_neg (fun q=>hj q.1)]
theorem oK {g:Int}(hs:z.Shape.ok=true) (hG:aN z=true) (hg:ins g 0 (z.Shape.Groups+z.Shape.Column-1)=true) (hm:recF z.Shape r=0) (hk:r.Kind=2) :
    g.toNat<z.Groups.length∧(z.Groups.getD g.toNat []).length=lG z∧(∀ i,i<lG z→r.Row.toNat<(aV z g.toNat i).Blocks.length∧((aV z g.toNat i).Blocks.getD r.Row.toNat default).Bytes.length=4) ∧
      r.Data.length=z.Shape.Data.toNat*4∧(r.Delta.length:Int)=z.Shape.Data*4∧(1≤r.Seq∧r.Seq≤1000000000∧0≤r.Row∧0≤r.Group∧r.Group<z.Shape.Groups):=by
  have sbd:=aG hs
  have hgi:=aJ.1 hg
  obtain ⟨h1,h2⟩:=cw hG
  obtain ⟨h3,h4⟩:=h2 g.toNat ω
  have hd:lG z=z.Shape.Data.toNat+z.Shape.Spare.toNat:=rfl
  have hi:ins r.Kind 1 4=true:=by rw [hk]; rfl
  unfold recF at hm
  rw [if_pos hi] at hm
  have hq:ins r.Seq 1 1000000000=true:=by
    cases c:ins r.Seq 1 1000000000
    · rw [c] at hm; simp at hm
    · rfl
  rw [if_pos hq] at hm
  have hkf:eD z.Shape r=0:=by
    by_cases c:eD z.Shape r≠0
    · rw [if_pos c] at hm; exact absurd hm c
    · omega
  have hmv:iN z.Shape r=true:=by
    unfold eD at hkf
    rw [if_neg ω,if_pos hk] at hkf
    cases c:iN z.Shape r
    · rw [c] at hkf; simp at hkf
    · rfl
  unfold iN at hmv
  simp only [Bool.and_eq_true,decide_eq_true_eq,aJ] at hmv
  have hq2:=aJ.1 hq
  refine ⟨ω,ω,fun i hi=>?_,ω,hmv.2,ω⟩
  obtain ⟨h5,h6⟩:=h4 i ω
  have h7:r.Row.toNat<(aV z g.toNat i).Blocks.length:=by unfold aV; omega
  exact ⟨h7,(eU (h6 r.Row.toNat (by unfold aV at h7; exact h7))).2.2⟩
theorem lH:(dT g i row b z).Shape=z.Shape:=by unfold dT kD; split<;>rfl
theorem gJ:z.Writes≤(dT g i row b z).Writes∧(dT g i row b z).Writes≤z.Writes+1:=by
  unfold dT kD; split
  · show z.Writes≤z.Writes∧z.Writes≤z.Writes+1; omega
  · show z.Writes≤z.Writes+1∧z.Writes+1≤z.Writes+1; omega
theorem Ce (h:bv z=false):(dT g i row b z).Down=z.Down:=by unfold dT; rw [jP h]; rfl
theorem sH (h:bv z=false):dT g i row b z=hX (jx g i row b z):=by unfold dT; exact jP h
end
section
variable {z:Wld}{g:Int}{r:Rec}
theorem Cr (h:z.Shape.ok=true):p5 z g 0=groupF z g:=by
  have sbd:=aG h
  unfold p5 groupF
  rw [show ins 0 0 (z.Shape.Rows-1)=true from aJ.2 ω]
  simp
theorem la (h:upF z=0):dp z g 0=groupF z g:=by
  rw [dp,if_neg ω,Cr (bx (hZ h).1).1]
theorem FG {gn i row:Nat}{b:Block}(h:z.Ok) (h2:z.Writes≤2000000000):(dT gn i row b z).Ok:=by
  unfold dT kD; split
  · exact vM h
  · exact po (kz h) h2
theorem FF {gn i row:Nat}{b:Block}(hg:gn<z.Groups.length) (hi:i<(z.Groups.getD gn []).length) (hr:row<((z.Groups.getD gn []).getD i default).Blocks.length):dk (jx gn i row b z)≤dk z+lZ b:=by
  have h1:=kZ (f:=mkL iU) (xs:=z.Groups) (i:=gn) (y:=(z.Groups.getD gn []).set i ⟨(aV z gn i).Wiped,(aV z gn i).Blocks.set row b⟩) hg
  have h2:=kZ (f:=iU) (xs:=z.Groups.getD gn []) (i:=i) (y:=⟨(aV z gn i).Wiped,(aV z gn i).Blocks.set row b⟩) hi
  have h3:=kZ (f:=lZ) (xs:=((z.Groups.getD gn []).getD i default).Blocks) (i:=row) (y:=b) hr
  have e0:z.Groups.getD gn default=z.Groups.getD gn []:=rfl
  rw [e0] at h1
  have h4:iU ⟨(aV z gn i).Wiped,(aV z gn i).Blocks.set row b⟩≤iU ((z.Groups.getD gn []).getD i default)+lZ b:=by
    unfold iU aV; dsimp only; omega
  unfold dk jx; dsimp only; omega
theorem FU {xs ys:List UInt8}:(eO xs ys).length≤xs.length:=by unfold eO; simp; omega
theorem Ft {gn i row:Nat}{b:Block}(hg:gn<z.Groups.length) (hi:i<(z.Groups.getD gn []).length) (hr:row<((z.Groups.getD gn []).getD i default).Blocks.length):dk (dT gn i row b z)≤dk z+lZ b:=by
  have h1:=FF (b:=b) hg hi hr
  unfold dT kD; split
  · have:=vD (z:=z); omega
  · exact h1
end
end Go.Wk
namespace Go.Wk
open Go.Proofs Rp Go.Proofs.Tryz
set_option maxRecDepth 10000
theorem mn {w:World}{zb zC9 zC10 zC11 rC6 rC7 rC8:Nat}{z:Wld}{zA9 zA10 zA11 rA6 rA7 rA8:Option Addr}{g:Int}{r:Rec}(zB:w.heap[zb]? = some (.cells [.int .i64 z.Shape.Groups,.int .i64 z.Shape.Column,.int .i64 z.Shape.Data,.int .i64 z.Shape.Spare,.int .i64 z.Shape.Rows,.int .i64 z.Shape.Cap,.int .i64 z.Shape.Batch,.int .i64 z.Shape.Queue,.int .i64 z.Shape.Stage,.slice zA9 z.Groups.length zC9,.slice zA10 z.On.length zC10,.slice zA11 z.Tapes.length zC11,.int .i64 z.Writes,.int .i64 z.Stop,.bool z.Down].toArray 31)) (zK:z.Ok) (zS9:Sees w [.slice zA9 z.Groups.length zC9] z.Groups) (zS10:Sees w [.slice zA10 z.On.length zC10] z.On) (zS11:Sees w [.slice zA11 z.Tapes.length zC11] z.Tapes) (rK:r.Ok) (rS6:Sees w [.slice rA6 r.Rows.length rC6] r.Rows) (rS7:Sees w [.slice rA7 r.Data.length rC7] r.Data) (rS8:Sees w [.slice rA8 r.Delta.length rC8] r.Delta) (hs:z.Shape.ok=true) (hg:z.Shape.Groups≤g∧g≤100) (hd:(r.Delta.length:Int)=z.Shape.Data*4):Ret Tryz.prog 145 #[.pointer (some ⟨zb,0,none⟩),.int .i64 g,r.val rA6 rC6 rA7 rC7 rA8 rC8] w fun v w'=>Ext No w w'∧(Res w w' [v] (dw z g r)):=by
 have zK2:=zK;unfold Wld.Ok Shape.Ok at zK2
 try unfold I64ok at zK2
 try unfold maxLen at zK2
 have zL9:=sL zS9;obtain ⟨zF9,zO9⟩:=zS9;have zL10:=sL zS10;obtain ⟨zF10,zO10⟩:=zS10;have zL11:=sL zS11;obtain ⟨zF11,zO11⟩:=zS11;have rK2:=rK;unfold Rec.Ok at rK2
 try unfold I64ok at rK2
 try unfold maxLen at rK2
 have rN2:r.Name.size≤maxLen:=by unfold maxLen; omega
 have rL6:=sL rS6;obtain ⟨rF6,rO6⟩:=rS6;have rL7:=sL rS7;obtain ⟨rF7,rO7⟩:=rS7;have rL8:=sL rS8;obtain ⟨rF8,rO8⟩:=rS8;have sbd:=aG hs;refine aH func145 Z ntmps145 Z (fun Q hQ hN=>?_);have H0:=Sep.start (bX zB (ab zO9 (ab zO10 (ab zO11 (ab rO6 (ab rO7 (ab rO8 aA)))))));refine ac (bu ah Z Z H0 (fun b1 w1 e1 g1 H1=>sA Z Z (aa (ae (cb (S:=Ext No _) (oQ [1,3,5,7,11,13,15,17,19,21,23,25,27,29,31,8,32,34,36,38]) κ κ κ Z (fun _=>Ext.refl.drawn _) (fun q1=>?_))))));have H2:=H1.drawn q1;refine dR 2 Z (dV Z Z (fun zw hx=>ag be Z bk Z Z) (dV Z Z (fun zw hx=>ak bi Z bk Z Z (At.sub (hx.heap (H2.fbox 0 Z)) 9)) (dV Z Z (fun zw hx=>ag aD Z bf Z Z) (dV Z Z (fun zw hx=>aj aZ Z Z (al (hx.heap (H2.box 0 Z)) Z)) (dV Z Z (fun zw hx=>ag aD Z ts2 Z Z) (dV Z Z (fun zw hx=>aj tu2 Z Z (al (hx.heap (H2.box 0 Z)) Z)) (dR 3 Z (dV Z Z (fun zw hx=>ag be Z bk Z Z) (dV Z Z (fun zw hx=>ag bi Z ts2 Z Z) (dV Z Z (fun zw hx=>aj tu2 Z Z (al (hx.heap (H2.fbox 0 Z)) Z)) (dV Z Z (fun zw hx=>ci Z Z iO) (dC func136 iJ Z (dc η) (fun v1 w2 r1=>?_)))))))))))));obtain ⟨e2,rfl⟩:=r1;have H3:=H2.to e2;refine dC func215 zE Z (qm ω) (fun v2 w3 r2=>?_);obtain ⟨e3,rfl⟩:=r2;have H4:=H3.to e3;refine dC func214 sf Z (kW (H4.sees 6 Z) ω) (fun v3 w4 r3=>?_);obtain ⟨e4,r3⟩:=r3;obtain ⟨fp1,H5⟩:=H4.res e4 r3;obtain ⟨a1,k1,q2⟩:=an (H5.mine 1 Z);cases q2;refine dC func137 jM Z (cL (n:=z.Shape.Data.toNat) (s:=z.Shape.Spare.toNat) ω ω ω (by rw [ex]; omega) ⟨_,az (H5.mine 1 Z)⟩) (fun v4 w5 r4=>?_);obtain ⟨e5,r4⟩:=r4;obtain ⟨fp2,H6⟩:=H5.res e5 r4;obtain ⟨a2,k2,q3⟩:=an (H6.mine 2 Z);cases q3;refine aW Z ah Z Z (bg Z) (bb (rT hQ results145 Z ?_));exact ⟨H6.ext,H6.out 2 Z⟩
theorem kS {w:World}{z:Wld}{zb rC6 rC7 rC8:Nat}{fp rF6 rF7 rF8:List Nat}{g:Int}{r:Rec}{rA6 rA7 rA8:Option Addr}(o:OwnW w zb 31 z fp) (nd:fp.Nodup) (rK:r.Ok) (rO6:own false w [.slice rA6 r.Rows.length rC6] r.Rows rF6) (rD6:∀ b∈rF6,b ∉ fp) (rO7:own false w [.slice rA7 r.Data.length rC7] r.Data rF7) (rD7:∀ b∈rF7,b ∉ fp) (rO8:own false w [.slice rA8 r.Delta.length rC8] r.Delta rF8) (rD8:∀ b∈rF8,b ∉ fp) (hs:z.Shape.ok=true) (hG:aN z=true) (hg:ins g 0 (z.Shape.Groups+z.Shape.Column-1)=true) (hm:recF z.Shape r=0) (hk:r.Kind=2) (hw:z.Writes≤1400000000):Ret Tryz.prog 83 #[.pointer (some ⟨zb,0,none⟩),.int .i64 g,r.val rA6 rC6 rA7 rC7 rA8 rC8] w fun v w'=>(v = .int .i64 (if (eq z g r).1=true then 0 else 9)∧MutW w w' fp zb 31 ((eq z g r).2)):=by
 have rK2:=rK;unfold Rec.Ok at rK2
 try unfold I64ok at rK2
 try unfold maxLen at rK2
 have rN2:r.Name.size≤maxLen:=by unfold maxLen; omega
 have rL6:=oL rO6;have rL7:=oL rO7;have rL8:=oL rO8;have sbd:=aG hs;have hdn:lG z=z.Shape.Data.toNat+z.Shape.Spare.toNat:=Z;obtain ⟨hgg,hgr,hro,hDl,hDe,hsq⟩:=oK hs hG hg hm hk;have hgi:=aJ.1 hg;refine aH func83 Z ntmps83 Z (fun Q hQ hN=>?_);have H0:=(((Sep.beginW o nd).seeF (rO6) rD6).seeF (rO7) rD7).seeF (rO8) rD8
 try dsimp only[lNA,lCA,lSZ,lSS] at H0
 refine ac (bu ah Z Z H0 (fun b1 w1 e1 g1 H1=>sA Z Z (aa (ae ?_))));obtain ⟨wA1,wC1,wA2,wC2,wA3,wC3,wf1,wf2,wf3,wok1,H2⟩:=H1.openW 0 Z
 try dsimp only[lNA,lCA,lSZ,lSS] at H2
 have wok1U:=wok1;unfold Wld.Ok Shape.Ok I64ok at wok1U;have wL1:=oL (H2.mine 3 Z);have wL2:=oL (H2.mine 4 Z);have wL3:=oL (H2.mine 5 Z);refine am (sR 2 Z (sF be Z bk (sV Z (ak bi Z bk Z Z (At.sub (H2.box 0 Z) 9)) (sM Z Z (sE func65 nh Z (dK η) H2 (fun w2 e2 H3=>sA Z Z (aa (ac (eZ (α:=(List UInt8)) ah Z dj dd H3 (fun b2 w3 e3 g2 H4=>sA Z Z (aa (ae (ac (sM Z Z (aa (cx Z (fun c1=>?_) (fun c1=>?_)))))))))))))))))
 ·refine cb (S:=Ext No _) (oQ [1,3,5,7,11,13,8,14,16]) κ κ κ Z (fun _=>Ext.refl.drawn _) (fun q1=>?_);have H5:=H4.drawn q1;refine dR 2 Z (dV Z Z (fun zw hx=>ag be Z bk Z Z) (dV Z Z (fun zw hx=>ak bi Z bk Z Z (At.sub (hx.heap (H5.box 0 Z)) 9)) (dV Z Z (fun zw hx=>ag aD Z bf Z Z) (dV Z Z (fun zw hx=>aj aZ Z Z (al (hx.heap (H5.box 1 Z)) Z)) (dC func136 iJ Z (dc η) (fun v2 w4 r2=>?_))))));obtain ⟨e4,rfl⟩:=r2;have H6:=H5.to e4;refine dC func137 jM Z (cL (n:=z.Shape.Data.toNat) (s:=z.Shape.Spare.toNat) ω ω ω ω ⟨_,az (H6.seen 1 Z)⟩) (fun v3 w5 r3=>?_);obtain ⟨e5,r3⟩:=r3;obtain ⟨fp1,H7⟩:=H6.res e5 r3;obtain ⟨a1,k1,q2⟩:=an (H7.mine 7 Z);cases q2;refine aW Z ah Z Z (bg Z) (bb (ae (ac (sR 2 Z (sF be Z bk (sV Z (ak bi Z bk Z Z (At.sub (H7.box 0 Z) 9)) (sE func37 jF Z (cD η) H7 (fun w6 e6 H8=>sM Z Z (aa (ax ?_))))))))));have H9:=H8.share 7 Z
  try dsimp only[lNA,lCA,lSZ,lSS] at H9
  obtain ⟨fp2,H10⟩:=H9.closeW 0 3 4 5 z Z Z Z Z Z Z Z Z Z Z wok1
  try dsimp only[lNA,lCA,lSZ,lSS] at H10
  have hRl:(eS z r).length=lG z:=by unfold eS; exact mq
  have hRe:nU z g r=(eS z r):=if_pos c1;refine bP (γ:=Nat × Wld × List Nat) (fun (i,zi,f)=>[(0,.pointer (some ⟨zb,0,none⟩)),(1,.int .i64 g),(5,.pointer (some ⟨b1,0,none⟩)),(7,.bool (ins g 0 (z.Shape.Groups-1))),(8,.slice a1 (eS z r).length k1),(37,.int .i64 (z.Shape.Data+z.Shape.Spare)),(38,.int .i64 i)]) (fun (i,zi,f) w'=>Sep (· ∈ fp) w [wldR zb 31 zi f,box b1 (.cells [.int .i64 r.Kind,.int .i64 r.Seq,.string r.Name,.int .i64 r.Length,.int .i64 r.Group,.int .i64 r.Row,.slice rA6 r.Rows.length rC6,.slice rA7 r.Data.length rC7,.slice rA8 r.Delta.length rC8].toArray 59)] [seen false [.slice rA6 r.Rows.length rC6] r.Rows rF6,seen false [.slice rA7 r.Data.length rC7] r.Data rF7,seen false [.slice rA8 r.Delta.length rC8] r.Delta rF8,seen true [.slice a1 (eS z r).length k1] (eS z r) fp1] w'∧i≤lG z∧eq z g r=redoI (eS z r) g r (lG z-i) i zi∧zi.Shape=z.Shape∧zi.Groups.length=z.Groups.length∧(zi.Groups.getD g.toNat []).length=(z.Groups.getD g.toNat []).length∧(∀ j,i≤j→aV zi g.toNat j=aV z g.toNat j)∧zi.Writes≤z.Writes+i) (fun (i,zi,f)=>lG z-i) (0,z,_) ⟨Z,Z,Z,Z,Z,Z,Z,trivial⟩ ⟨(H10.dtake 2),by (try dsimp only); omega,(by rw [← hRe]; rfl),Z,Z,Z,fun _ _=>Z,by (try dsimp only); omega⟩ (fun (i,zi,f) w7 H11=>?_);obtain ⟨H11,hi,hdl,hsh,hgl,hgn,hdv,hw2⟩:=H11;refine ac (sV Z (aX Z Z) (aa (ae (aC Z (fun c2=>?_) (fun c2=>?_)))))
  ·refine au (ae (ax (ac (sR 2 Z (aa (ae ?_))))));have hdr:=hdv i (Nat.le_refl i);have hq1:g.toNat<zi.Groups.length:=by omega
   have hq2:i<(zi.Groups.getD g.toNat []).length:=by omega
   have hq3:r.Row.toNat<((zi.Groups.getD g.toNat []).getD i default).Blocks.length:=by
    have e:(zi.Groups.getD g.toNat []).getD i default=(z.Groups.getD g.toNat []).getD i default:=hdr;rw [e]; exact (hro i ω).1
   have hq4:(eG zi g.toNat i r.Row.toNat).Bytes.length=4:=by
    unfold eG; rw [hdr]; exact (hro i ω).2
   obtain ⟨wA4,wC4,wA5,wC5,wA6,wC6,wf4,wf5,wf6,wok2,H12⟩:=H11.openW 0 Z
   try dsimp only[lNA,lCA,lSZ,lSS] at H12
   have wok2U:=wok2;unfold Wld.Ok Shape.Ok I64ok at wok2U;have wL4:=oL (H12.mine 3 Z);have wL5:=oL (H12.mine 4 Z);have wL6:=oL (H12.mine 5 Z);obtain ⟨eb1,eo1,eT1,eF1,eG1,ea1,ek1,eg1,ee1,eH1⟩:=H12.focusL 3 Z g.toNat ω
   try dsimp only[lNA,lCA,lSZ,lSS] at eH1
   obtain ⟨eb2,eo2,eT2,eF2,eG2,ea2,ek2,eg2,ee2,eK1,eH2⟩:=Drive.focus eH1 6 Z i ω;have eK1U:=eK1;unfold Drive.Ok at eK1U
   try unfold I64ok at eK1U
   try unfold maxLen at eK1U
   try dsimp only[lNA,lCA,lSZ,lSS] at eH2
   refine am (sR 2 Z (sF be Z kh (sLd fW (eH2.box 0 Z) Z (sM Z Z (sV Z (aB fW ud Z Z ee1 g.toNat ω ω) (sV Z (aj fl Z Z (eu (eH2.holAt 3 Z) 0 Z)) (sM Z Z (sV Z (aB fl gD Z Z ee2 i ω ω) (sV Z (ak iz Z gD Z Z (eH2.holAt 6 Z)) (bB ah Z zeroValue72 eH2 (fun b3 w8 e7 g3 H13=>aF ah gD Z Z Z Z H13 9 Z Z (fun w9 e8 H14=>?_))))))))))));dsimp only[lNA,lCA,lSZ,lSS,aI] at H14;refine aa (ae ?_);obtain ⟨eb3,eo3,eT3,eF3,eG3,ea3,ek3,eg3,ee3,eK2,eH3⟩:=Block.focus H14 8 Z r.Row.toNat ω;have eK2U:=eK2;unfold Block.Ok at eK2U
   try unfold I64ok at eK2U
   try unfold maxLen at eK2U
   try dsimp only[lNA,lCA,lSZ,lSS] at eH3
   refine am (sF iz Z rH (sLd iy (eH3.box 9 Z) Z (sF aD Z ts2 (sLd tu2 (eH3.box 1 Z) Z (sV Z (aB iy gc Z Z ee3 r.Row.toNat ω ω) (sV Z (ak jh Z gc Z Z (eH3.holAt 8 Z)) (bB ah Z zeroValue116 eH3 (fun b4 w10 e9 g4 H15=>aF ah gc Z Z Z Z H15 12 Z Z (fun w11 e10 H16=>?_)))))))));dsimp only[lNA,lCA,lSZ,lSS,aI] at H16;refine aa (ae (ac (sF iz Z ts4 (sLd tu4 (H16.box 9 Z) Z (sM Z Z (bR 5 (j:=2) (want:=false) (t:=64) Z Z Z Z (fun hg1 kk1=>ao (wgE Z Z Z hg1) Z Z (ag jh Z ts2 Z Z) (ao (wgE Z Z Z hg1) Z Z (aj tu2 Z Z (al (H16.box 12 Z) Z)) (ao (wgE Z Z Z hg1) Z Z (ag aD Z ts2 Z Z) (ao (wgE Z Z Z hg1) Z Z (aj tu2 Z Z (al (H16.box 1 Z) Z)) (ao (wgE Z Z Z hg1) Z Z (sS Z Z) (kk1 _ _ (kx Z (kx Z (kx Z (kx Z (kx Z k0))))) Z Ext.refl)))))) (fun w12 e11=>?_)))))));have H17:=H16.to e11;refine sV Z (fJ Z Z) (aa (cx Z (fun c3=>?_) (fun c3=>?_)))
   ·refine aT (am (sV Z (aE Z Z iO) (sM Z Z (aa ?_))));obtain ⟨fp3,H18⟩:=Block.fill H17 8 11 Z Z Z eK2
    try dsimp only[lNA,lCA,lSZ,lSS] at H18
    obtain ⟨fp4,H19⟩:=Drive.fill H18 6 8 Z Z Z eK1
    try dsimp only[lNA,lCA,lSZ,lSS] at H19
    obtain ⟨fp5,H20⟩:=H19.fill 3 6 Z Z Z
    try dsimp only[lNA,lCA,lSZ,lSS] at H20
    obtain ⟨fp6,H21⟩:=H20.closeW 0 3 4 5 (jx g.toNat i r.Row.toNat (eG zi g.toNat i r.Row.toNat) zi) Z Z Z Z Z Z Z Z Z Z (kz wok2)
    try dsimp only[lNA,lCA,lSZ,lSS] at H21
    rw [nl hq1 hq2 hq3] at H21;exact ⟨(i+1,zi,_),⟨Z,Z,Z,Z,Z,Z,Z,trivial⟩,⟨(H21.dtake 2),by (try dsimp only); omega,by (try dsimp only); rw [hdl,se ω (by unfold jt eG aV; simpa using c3)],hsh,hgl,hgn,fun j hj=>hdv j (by (try dsimp only at hj); omega),by (try dsimp only); omega⟩,θ⟩
   ·refine au (ae ?_);obtain ⟨eb4,eo4,ea4,ek4,ef1,ee4,ec4,eO1,eH4⟩:=fo (H17.seen 3 Z) i ω;have eP1:=H17.look1 3 Z eO1 eH4;refine am (sR 2 Z (sV Z (aB dj bf Z Z ee4 i ω ω) (sV Z (aj aZ Z Z ec4) (sA Z Z (aa (ae (ae ?_)))))));have hrw:((eS z r).getD i []).length=4:=by unfold eS; exact ly ω i ω
    have hq5:((((zi.Groups.getD g.toNat []).getD i default).Blocks.getD r.Row.toNat default).Bytes).length=4:=hq4;have hbl:((eS z r).getD i []).length=4:=by exact hrw
    refine am (sM Z Z (sV Z (bh Z) (aa (cx Z (fun c4=>?_) (fun c4=>?_)))))
    ·exact absurd c4 (by rw [c1]; simp)
    ·refine au (ae ?_);obtain ⟨fp7,H22⟩:=Block.fill eP1 8 11 Z Z Z eK2
     try dsimp only[lNA,lCA,lSZ,lSS] at H22
     obtain ⟨fp8,H23⟩:=Drive.fill H22 6 8 Z Z Z eK1
     try dsimp only[lNA,lCA,lSZ,lSS] at H23
     obtain ⟨fp9,H24⟩:=H23.fill 3 6 Z Z Z
     try dsimp only[lNA,lCA,lSZ,lSS] at H24
     obtain ⟨fp10,H25⟩:=H24.closeW 0 3 4 5 (jx g.toNat i r.Row.toNat (eG zi g.toNat i r.Row.toNat) zi) Z Z Z Z Z Z Z Z Z Z (kz wok2)
     try dsimp only[lNA,lCA,lSZ,lSS] at H25
     rw [nl hq1 hq2 hq3] at H25;have hxk:(⟨r.Seq,((eS z r).getD i [])⟩:Block).Ok:=by show I64ok r.Seq; unfold I64ok; omega
     have hxl:(⟨r.Seq,((eS z r).getD i [])⟩:Block).Bytes.length≤1000000:=by show ((eS z r).getD i []).length≤1000000; omega
     refine am (sR 3 Z (sF aD Z ts2 (sLd tu2 (H25.box 1 Z) Z (sF aD Z ts2 (sLd tu2 (H25.box 1 Z) Z (sM Z Z (sV Z (aP gz Z Z) (sC func134 oe Z (dS (H25.wldAt 0 Z) (H25.nodup1 (i:=0) Z) η (az (H25.seen 4 Z)) (fun b hb=>H25.off 4 Z 0 Z hb) ξ ξ ξ ξ ξ (x:=(⟨r.Seq,((eS z r).getD i [])⟩:Block))) (fun v5 w13 r5=>?_)))))))));obtain ⟨rfl,mm1⟩:=r5;obtain ⟨fp11,H26⟩:=H25.mutW 0 Z mm1
     try dsimp only[lNA,lCA,lSZ,lSS] at H26
     refine sV Z (bh Z) (aa (cx Z (fun c5=>?_) (fun c5=>?_)))
     ·refine ac (rA hQ results83 Z ?_);have hnb:fV zi g i r ((eS z r).getD i [])=((eS z r).getD i []):=by
       rw [fV,hsh,if_pos c1]
      have hsk:jt zi g.toNat i r=false:=by unfold jt eG aV; simpa using c3
      obtain ⟨hf1,hf2,hf3⟩:=fF (b:=⟨r.Seq,fV zi g i r ((eS z r).getD i [])⟩) (row:=r.Row.toNat) hq1 hq2;have hf4:=(gJ (g:=g.toNat) (i:=i) (row:=r.Row.toNat) (b:=⟨r.Seq,fV zi g i r ((eS z r).getD i [])⟩) (z:=zi)).2;have hnp:bv zi=true:=by simpa using c5
      have hz:=H26.doneW;rw [← hnb] at hz;rw [hdl,s6 ω hsk hnp];exact ⟨Z,hz⟩
     ·refine au (am (sV Z (aE Z Z iO) (sM Z Z (aa ?_))));have hnb:fV zi g i r ((eS z r).getD i [])=((eS z r).getD i []):=by
       rw [fV,hsh,if_pos c1]
      have hsk:jt zi g.toNat i r=false:=by unfold jt eG aV; simpa using c3
      obtain ⟨hf1,hf2,hf3⟩:=fF (b:=⟨r.Seq,fV zi g i r ((eS z r).getD i [])⟩) (row:=r.Row.toNat) hq1 hq2;have hf4:=(gJ (g:=g.toNat) (i:=i) (row:=r.Row.toNat) (b:=⟨r.Seq,fV zi g i r ((eS z r).getD i [])⟩) (z:=zi)).2;have hnp:bv zi=false:=by simpa using c5
      have hz:=((H26.ftake 4).dtake 2);rw [← hnb] at hz;exact ⟨(i+1,dT g.toNat i r.Row.toNat ⟨r.Seq,fV zi g i r ((eS z r).getD i [])⟩ zi,_),⟨Z,Z,Z,Z,Z,Z,Z,trivial⟩,⟨hz,by (try dsimp only); omega,by (try dsimp only); rw [hdl,wF ω hsk hnp],by (try dsimp only); rw [lH]; exact hsh,by (try dsimp only); omega,by (try dsimp only); omega,fun j hj=>(hf3 j (by (try dsimp only at hj); omega)).trans (hdv j (by (try dsimp only at hj); omega)),by (try dsimp only); omega⟩,θ⟩
  ·refine aT (ac (rA hQ results83 Z ?_));have hz:=H11.doneW;rw [hdl,vm ω];exact ⟨Z,hz⟩
 ·have hgc:z.Shape.Groups≤g:=by
   have hx:¬ (0≤g∧g≤z.Shape.Groups-1):=fun q=>by have:=aJ.2 q; rw [c1] at this; cases this
   omega
  refine am (sR 2 Z (sV Z (ak aD Z aO Z Z (At.whole (H4.box 1 Z))) (sC func145 Ap Z (mn (H4.box 0 Z) η (H4.msees 3 Z) (H4.msees 4 Z) (H4.msees 5 Z) η (H4.sees 0 Z) (H4.sees 1 Z) (H4.sees 2 Z) ξ ξ ξ) (fun v6 w14 r6=>?_))));obtain ⟨e13,r6⟩:=r6;obtain ⟨fp12,H27⟩:=H4.res e13 r6;obtain ⟨a2,k2,q3⟩:=an (H27.mine 7 Z);cases q3;refine sA Z Z (aa (ae (ac (sR 2 Z (sF be Z bk (sV Z (ak bi Z bk Z Z (At.sub (H27.box 0 Z) 9)) (sE func37 jF Z (cD η) H27 (fun w15 e14 H28=>sM Z Z (aa (ax ?_))))))))));have H29:=H28.share 7 Z
  try dsimp only[lNA,lCA,lSZ,lSS] at H29
  obtain ⟨fp13,H30⟩:=H29.closeW 0 3 4 5 z Z Z Z Z Z Z Z Z Z Z wok1
  try dsimp only[lNA,lCA,lSZ,lSS] at H30
  have hRl:(dw z g r).length=lG z:=by unfold dw; exact mq
  have hRe:nU z g r=(dw z g r):=if_neg (by rw [c1]; simp);refine bP (γ:=Nat × Wld × List Nat) (fun (i,zi,f)=>[(0,.pointer (some ⟨zb,0,none⟩)),(1,.int .i64 g),(5,.pointer (some ⟨b1,0,none⟩)),(7,.bool (ins g 0 (z.Shape.Groups-1))),(8,.slice a2 (dw z g r).length k2),(37,.int .i64 (z.Shape.Data+z.Shape.Spare)),(38,.int .i64 i)]) (fun (i,zi,f) w'=>Sep (· ∈ fp) w [wldR zb 31 zi f,box b1 (.cells [.int .i64 r.Kind,.int .i64 r.Seq,.string r.Name,.int .i64 r.Length,.int .i64 r.Group,.int .i64 r.Row,.slice rA6 r.Rows.length rC6,.slice rA7 r.Data.length rC7,.slice rA8 r.Delta.length rC8].toArray 59)] [seen false [.slice rA6 r.Rows.length rC6] r.Rows rF6,seen false [.slice rA7 r.Data.length rC7] r.Data rF7,seen false [.slice rA8 r.Delta.length rC8] r.Delta rF8,seen true [.slice a2 (dw z g r).length k2] (dw z g r) fp12] w'∧i≤lG z∧eq z g r=redoI (dw z g r) g r (lG z-i) i zi∧zi.Shape=z.Shape∧zi.Groups.length=z.Groups.length∧(zi.Groups.getD g.toNat []).length=(z.Groups.getD g.toNat []).length∧(∀ j,i≤j→aV zi g.toNat j=aV z g.toNat j)∧zi.Writes≤z.Writes+i) (fun (i,zi,f)=>lG z-i) (0,z,_) ⟨Z,Z,Z,Z,Z,Z,Z,trivial⟩ ⟨(H30.dtake 2),by (try dsimp only); omega,(by rw [← hRe]; rfl),Z,Z,Z,fun _ _=>Z,by (try dsimp only); omega⟩ (fun (i,zi,f) w16 H31=>?_);obtain ⟨H31,hi,hdl,hsh,hgl,hgn,hdv,hw2⟩:=H31;refine ac (sV Z (aX Z Z) (aa (ae (aC Z (fun c6=>?_) (fun c6=>?_)))))
  ·refine au (ae (ax (ac (sR 2 Z (aa (ae ?_))))));have hdr:=hdv i (Nat.le_refl i);have hq1:g.toNat<zi.Groups.length:=by omega
   have hq2:i<(zi.Groups.getD g.toNat []).length:=by omega
   have hq3:r.Row.toNat<((zi.Groups.getD g.toNat []).getD i default).Blocks.length:=by
    have e:(zi.Groups.getD g.toNat []).getD i default=(z.Groups.getD g.toNat []).getD i default:=hdr;rw [e]; exact (hro i ω).1
   have hq4:(eG zi g.toNat i r.Row.toNat).Bytes.length=4:=by
    unfold eG; rw [hdr]; exact (hro i ω).2
   obtain ⟨wA7,wC7,wA8,wC8,wA9,wC9,wf7,wf8,wf9,wok3,H32⟩:=H31.openW 0 Z
   try dsimp only[lNA,lCA,lSZ,lSS] at H32
   have wok3U:=wok3;unfold Wld.Ok Shape.Ok I64ok at wok3U;have wL7:=oL (H32.mine 3 Z);have wL8:=oL (H32.mine 4 Z);have wL9:=oL (H32.mine 5 Z);obtain ⟨eb5,eo5,eT4,eF4,eG4,ea5,ek5,eg4,ee5,eH5⟩:=H32.focusL 3 Z g.toNat ω
   try dsimp only[lNA,lCA,lSZ,lSS] at eH5
   obtain ⟨eb6,eo6,eT5,eF5,eG5,ea6,ek6,eg5,ee6,eK3,eH6⟩:=Drive.focus eH5 6 Z i ω;have eK3U:=eK3;unfold Drive.Ok at eK3U
   try unfold I64ok at eK3U
   try unfold maxLen at eK3U
   try dsimp only[lNA,lCA,lSZ,lSS] at eH6
   refine am (sR 2 Z (sF be Z kh (sLd fW (eH6.box 0 Z) Z (sM Z Z (sV Z (aB fW ud Z Z ee5 g.toNat ω ω) (sV Z (aj fl Z Z (eu (eH6.holAt 3 Z) 0 Z)) (sM Z Z (sV Z (aB fl gD Z Z ee6 i ω ω) (sV Z (ak iz Z gD Z Z (eH6.holAt 6 Z)) (bB ah Z zeroValue72 eH6 (fun b5 w17 e15 g5 H33=>aF ah gD Z Z Z Z H33 9 Z Z (fun w18 e16 H34=>?_))))))))))));dsimp only[lNA,lCA,lSZ,lSS,aI] at H34;refine aa (ae ?_);obtain ⟨eb7,eo7,eT6,eF6,eG6,ea7,ek7,eg6,ee7,eK4,eH7⟩:=Block.focus H34 8 Z r.Row.toNat ω;have eK4U:=eK4;unfold Block.Ok at eK4U
   try unfold I64ok at eK4U
   try unfold maxLen at eK4U
   try dsimp only[lNA,lCA,lSZ,lSS] at eH7
   refine am (sF iz Z rH (sLd iy (eH7.box 9 Z) Z (sF aD Z ts2 (sLd tu2 (eH7.box 1 Z) Z (sV Z (aB iy gc Z Z ee7 r.Row.toNat ω ω) (sV Z (ak jh Z gc Z Z (eH7.holAt 8 Z)) (bB ah Z zeroValue116 eH7 (fun b6 w19 e17 g6 H35=>aF ah gc Z Z Z Z H35 12 Z Z (fun w20 e18 H36=>?_)))))))));dsimp only[lNA,lCA,lSZ,lSS,aI] at H36;refine aa (ae (ac (sF iz Z ts4 (sLd tu4 (H36.box 9 Z) Z (sM Z Z (bR 5 (j:=2) (want:=false) (t:=64) Z Z Z Z (fun hg2 kk2=>ao (wgE Z Z Z hg2) Z Z (ag jh Z ts2 Z Z) (ao (wgE Z Z Z hg2) Z Z (aj tu2 Z Z (al (H36.box 12 Z) Z)) (ao (wgE Z Z Z hg2) Z Z (ag aD Z ts2 Z Z) (ao (wgE Z Z Z hg2) Z Z (aj tu2 Z Z (al (H36.box 1 Z) Z)) (ao (wgE Z Z Z hg2) Z Z (sS Z Z) (kk2 _ _ (kx Z (kx Z (kx Z (kx Z (kx Z k0))))) Z Ext.refl)))))) (fun w21 e19=>?_)))))));have H37:=H36.to e19;refine sV Z (fJ Z Z) (aa (cx Z (fun c7=>?_) (fun c7=>?_)))
   ·refine aT (am (sV Z (aE Z Z iO) (sM Z Z (aa ?_))));obtain ⟨fp14,H38⟩:=Block.fill H37 8 11 Z Z Z eK4
    try dsimp only[lNA,lCA,lSZ,lSS] at H38
    obtain ⟨fp15,H39⟩:=Drive.fill H38 6 8 Z Z Z eK3
    try dsimp only[lNA,lCA,lSZ,lSS] at H39
    obtain ⟨fp16,H40⟩:=H39.fill 3 6 Z Z Z
    try dsimp only[lNA,lCA,lSZ,lSS] at H40
    obtain ⟨fp17,H41⟩:=H40.closeW 0 3 4 5 (jx g.toNat i r.Row.toNat (eG zi g.toNat i r.Row.toNat) zi) Z Z Z Z Z Z Z Z Z Z (kz wok3)
    try dsimp only[lNA,lCA,lSZ,lSS] at H41
    rw [nl hq1 hq2 hq3] at H41;exact ⟨(i+1,zi,_),⟨Z,Z,Z,Z,Z,Z,Z,trivial⟩,⟨(H41.dtake 2),by (try dsimp only); omega,by (try dsimp only); rw [hdl,se ω (by unfold jt eG aV; simpa using c7)],hsh,hgl,hgn,fun j hj=>hdv j (by (try dsimp only at hj); omega),by (try dsimp only); omega⟩,θ⟩
   ·refine au (ae ?_);obtain ⟨eb8,eo8,ea8,ek8,ef2,ee8,ec8,eO2,eH8⟩:=fo (H37.seen 3 Z) i ω;have eP2:=H37.look1 3 Z eO2 eH8;refine am (sR 2 Z (sV Z (aB dj bf Z Z ee8 i ω ω) (sV Z (aj aZ Z Z ec8) (sA Z Z (aa (ae (ae ?_)))))));have hrw:((dw z g r).getD i []).length=4:=by unfold dw; exact ly (by rw [ex]; omega) i ω
    have hq5:((((zi.Groups.getD g.toNat []).getD i default).Blocks.getD r.Row.toNat default).Bytes).length=4:=hq4;have hbl:(eO ((dw z g r).getD i []) (bV ((((zi.Groups.getD g.toNat []).getD i default).Blocks.getD r.Row.toNat default).Bytes) 1)).length=4:=by rw [d9 (by rw [ex]; omega)]; exact hrw
    refine am (sM Z Z (sV Z (bh Z) (aa (cx Z (fun c8=>?_) (fun c8=>?_)))))
    ·refine am (sM Z Z (sF jh Z bf (sLd aZ (eP2.box 12 Z) Z (sC func146 ox Z (kP (eP2.sees 4 Z) (eP2.msees 11 Z) ξ (c:=1)) (fun v8 w22 r8=>?_)))));obtain ⟨e20,r8⟩:=r8;obtain ⟨fp18,H42⟩:=eP2.res e20 r8;obtain ⟨a3,k3,q4⟩:=an (H42.mine 13 Z);cases q4;refine sA Z Z (aa (ae ?_));obtain ⟨fp19,H43⟩:=Block.fill H42 8 11 Z Z Z eK4
     try dsimp only[lNA,lCA,lSZ,lSS] at H43
     obtain ⟨fp20,H44⟩:=Drive.fill H43 6 8 Z Z Z eK3
     try dsimp only[lNA,lCA,lSZ,lSS] at H44
     obtain ⟨fp21,H45⟩:=H44.fill 3 6 Z Z Z
     try dsimp only[lNA,lCA,lSZ,lSS] at H45
     obtain ⟨fp22,H46⟩:=H45.closeW 0 3 4 5 (jx g.toNat i r.Row.toNat (eG zi g.toNat i r.Row.toNat) zi) Z Z Z Z Z Z Z Z Z Z (kz wok3)
     try dsimp only[lNA,lCA,lSZ,lSS] at H46
     rw [nl hq1 hq2 hq3] at H46;have hxk:(⟨r.Seq,(eO ((dw z g r).getD i []) (bV ((((zi.Groups.getD g.toNat []).getD i default).Blocks.getD r.Row.toNat default).Bytes) 1))⟩:Block).Ok:=by show I64ok r.Seq; unfold I64ok; omega
     have hxl:(⟨r.Seq,(eO ((dw z g r).getD i []) (bV ((((zi.Groups.getD g.toNat []).getD i default).Blocks.getD r.Row.toNat default).Bytes) 1))⟩:Block).Bytes.length≤1000000:=by show (eO ((dw z g r).getD i []) (bV ((((zi.Groups.getD g.toNat []).getD i default).Blocks.getD r.Row.toNat default).Bytes) 1)).length≤1000000; omega
     refine am (sR 3 Z (sF aD Z ts2 (sLd tu2 (H46.box 1 Z) Z (sF aD Z ts2 (sLd tu2 (H46.box 1 Z) Z (sM Z Z (sV Z (aP gz Z Z) (sC func134 oe Z (dS (H46.wldAt 0 Z) (H46.nodup1 (i:=0) Z) η (az (H46.mine 13 Z)) (fun b hb=>H46.apart (i:=0) (j:=13) Z Z Z b hb) ξ ξ ξ ξ ξ (x:=(⟨r.Seq,(eO ((dw z g r).getD i []) (bV ((((zi.Groups.getD g.toNat []).getD i default).Blocks.getD r.Row.toNat default).Bytes) 1))⟩:Block))) (fun v9 w23 r9=>?_)))))))));obtain ⟨rfl,mm2⟩:=r9;obtain ⟨fp23,H47⟩:=H46.mutW 0 Z mm2
     try dsimp only[lNA,lCA,lSZ,lSS] at H47
     refine sV Z (bh Z) (aa (cx Z (fun c9=>?_) (fun c9=>?_)))
     ·refine ac (rA hQ results83 Z ?_);have hnb:fV zi g i r ((dw z g r).getD i [])=(eO ((dw z g r).getD i []) (bV ((((zi.Groups.getD g.toNat []).getD i default).Blocks.getD r.Row.toNat default).Bytes) 1)):=by
       rw [fV,hsh,if_neg (by rw [c1]; simp),mc]
       rfl
      have hsk:jt zi g.toNat i r=false:=by unfold jt eG aV; simpa using c7
      obtain ⟨hf1,hf2,hf3⟩:=fF (b:=⟨r.Seq,fV zi g i r ((dw z g r).getD i [])⟩) (row:=r.Row.toNat) hq1 hq2;have hf4:=(gJ (g:=g.toNat) (i:=i) (row:=r.Row.toNat) (b:=⟨r.Seq,fV zi g i r ((dw z g r).getD i [])⟩) (z:=zi)).2;have hnp:bv zi=true:=by simpa using c9
      have hz:=H47.doneW;rw [← hnb] at hz;rw [hdl,s6 ω hsk hnp];exact ⟨Z,hz⟩
     ·refine au (am (sV Z (aE Z Z iO) (sM Z Z (aa ?_))));have hnb:fV zi g i r ((dw z g r).getD i [])=(eO ((dw z g r).getD i []) (bV ((((zi.Groups.getD g.toNat []).getD i default).Blocks.getD r.Row.toNat default).Bytes) 1)):=by
       rw [fV,hsh,if_neg (by rw [c1]; simp),mc]
       rfl
      have hsk:jt zi g.toNat i r=false:=by unfold jt eG aV; simpa using c7
      obtain ⟨hf1,hf2,hf3⟩:=fF (b:=⟨r.Seq,fV zi g i r ((dw z g r).getD i [])⟩) (row:=r.Row.toNat) hq1 hq2;have hf4:=(gJ (g:=g.toNat) (i:=i) (row:=r.Row.toNat) (b:=⟨r.Seq,fV zi g i r ((dw z g r).getD i [])⟩) (z:=zi)).2;have hnp:bv zi=false:=by simpa using c9
      have hz:=((H47.ftake 4).dtake 2);rw [← hnb] at hz;exact ⟨(i+1,dT g.toNat i r.Row.toNat ⟨r.Seq,fV zi g i r ((dw z g r).getD i [])⟩ zi,_),⟨Z,Z,Z,Z,Z,Z,Z,trivial⟩,⟨hz,by (try dsimp only); omega,by (try dsimp only); rw [hdl,wF ω hsk hnp],by (try dsimp only); rw [lH]; exact hsh,by (try dsimp only); omega,by (try dsimp only); omega,fun j hj=>(hf3 j (by (try dsimp only at hj); omega)).trans (hdv j (by (try dsimp only at hj); omega)),by (try dsimp only); omega⟩,θ⟩
    ·exact absurd c8 (by rw [c1]; simp)
  ·refine aT (ac (rA hQ results83 Z ?_));have hz:=H31.doneW;rw [hdl,vm ω];exact ⟨Z,hz⟩
end Go.Wk
namespace Go.Wk
section
variable {z:Wld}{g i row:Nat}{b:Block}{s:Shape}
theorem pM {α:Type}{xs:List α}{p:α→Bool}{d:α}(h:∀ k,k<xs.length→p (xs.getD k d)=true):((List.range xs.length).all fun k=>p (xs.getD k d))=true:=by
  rw [List.all_eq_true]
  intro k hk
  exact h k (by simpa using hk)
theorem xS {x:Drive}(h:cX s x=true) (hb:dz b=true):cX s ⟨x.Wiped,x.Blocks.set row b⟩=true:=by
  simp only [cX,Bool.and_eq_true,decide_eq_true_eq] at h
  have h2:=ir h.2
  unfold cX
  dsimp only
  rw [decide_eq_true (by rw [List.length_set]; exact h.1),Bool.true_and]
  refine pM (p:=dz) fun k hk=>?_
  rw [List.length_set] at hk
  rw [bM]
  split
  · exact hb
  · exact h2 k hk
theorem mZ {xs:List Drive}{x:Drive}(h:dt s xs=true) (hx:cX s x=true):dt s (xs.set i x)=true:=by
  simp only [dt,Bool.and_eq_true,decide_eq_true_eq] at h
  have h2:=ir h.2
  unfold dt
  rw [decide_eq_true (by rw [List.length_set]; exact h.1),Bool.true_and]
  refine pM (p:=cX s) fun k hk=>?_
  rw [List.length_set] at hk
  rw [bM]
  split
  · exact hx
  · exact h2 k hk
theorem xy (h:aN z=true) (hb:dz b=true) (hg:g<z.Groups.length) (hi:i<(z.Groups.getD g []).length):aN (jx g i row b z)=true:=by
  have h0:=h
  simp only [aN,Bool.and_eq_true,decide_eq_true_eq] at h
  have h2:=ir h.2
  have h3:=h2 g hg
  have h4:cX z.Shape (aV z g i)=true:=by
    have h5:=h3
    simp only [dt,Bool.and_eq_true,decide_eq_true_eq] at h5
    exact ir h5.2 i hi
  have h6:=mZ (i:=i) h3 (xS (row:=row) h4 hb)
  unfold aN jx
  dsimp only
  rw [decide_eq_true (by rw [List.length_set]; exact h.1),Bool.true_and]
  refine pM (p:=dt z.Shape) fun k hk=>?_
  rw [List.length_set] at hk
  rw [bM]
  split
  · exact h6
  · exact h2 k hk
theorem qZ (h:aN z=true) (hb:dz b=true) (hg:g<z.Groups.length) (hi:i<(z.Groups.getD g []).length):aN (dT g i row b z)=true:=by
  unfold dT kD; split
  · exact h
  · exact xy h hb hg hi
end
end Go.Wk
namespace Go.Wk
section
variable {z:Wld}{g:Int}{r:Rec}{rows:List (List UInt8)}
theorem BU {i:Nat}{row:List UInt8}(h:row.length=4) (hb:(eG z g.toNat i r.Row.toNat).Bytes.length=4):(fV z g i r row).length=4:=by
  unfold fV; split
  · exact h
  · rw [d9 ω]; exact h
theorem n8 {gn i row:Nat}{b:Block}:(dT gn i row b z).Tapes=z.Tapes:=by unfold dT kD; split<;>rfl
theorem mP (hq:1≤r.Seq∧r.Seq≤1000000000) (hr0:0≤r.Row∧r.Row<z.Shape.Rows):∀ {n i:Nat}{z':Wld},z'.Shape=z.Shape→(∀ k,k<i+n→(rows.getD k []).length=4)→aN z'=true→g.toNat<z'.Groups.length→i+n≤(z'.Groups.getD g.toNat []).length →
    (redoI rows g r n i z').2.Shape=z.Shape∧aN (redoI rows g r n i z').2=true∧(redoI rows g r n i z').2.Tapes=z'.Tapes∧(redoI rows g r n i z').2.Writes≤z'.Writes+n
  | 0,_,z',hs,_,hG,_,_=>⟨hs,hG,rfl,by show z'.Writes≤z'.Writes+((0:Nat):Int); omega⟩
  | n+1,i,z',hs,hR,hG,hg,hi=>by
    obtain ⟨h1,h2⟩:=cw hG
    obtain ⟨h3,h4⟩:=h2 g.toNat hg
    obtain ⟨h5,h6⟩:=h4 i ω
    have hrow:r.Row.toNat<((z'.Groups.getD g.toNat []).getD i default).Blocks.length:=by rw [hs] at h5; omega
    have h7:=eU (h6 r.Row.toNat hrow)
    have hb:dz ⟨r.Seq,fV z' g i r (rows.getD i [])⟩=true:=by
      unfold dz
      dsimp only
      rw [aJ.2 ω,decide_eq_true (BU (hR i ω) h7.2.2)]; rfl
    have hG2:=qZ (g:=g.toNat) (i:=i) (row:=r.Row.toNat) hG hb hg ω
    obtain ⟨f1,f2,_⟩:=fF (b:=⟨r.Seq,fV z' g i r (rows.getD i [])⟩) (row:=r.Row.toNat) hg (show i<(z'.Groups.getD g.toNat []).length by omega)
    have f4:=(gJ (g:=g.toNat) (i:=i) (row:=r.Row.toNat) (b:=⟨r.Seq,fV z' g i r (rows.getD i [])⟩) (z:=z')).2
    have f5:(dT g.toNat i r.Row.toNat ⟨r.Seq,fV z' g i r (rows.getD i [])⟩ z').Shape=z.Shape:=by rw [lH]; exact hs
    rw [redoI]
    split
    · obtain ⟨a,b,c,d⟩:=mP hq hr0 (n:=n) (i:=i+1) hs (fun k hk=>hR k ω) hG hg ω
      exact ⟨a,b,c,ω⟩
    · split
      · exact ⟨f5,hG2,n8,θ⟩
      · obtain ⟨a,b,c,d⟩:=mP hq hr0 (n:=n) (i:=i+1) f5 (fun k hk=>hR k ω) hG2 ω ω
        exact ⟨a,b,by rw [c,n8],ω⟩
end
section
variable {z:Wld}{g:Int}{r:Rec}
theorem zc (hs:z.Shape.ok=true) (hG:aN z=true) (hg:ins g 0 (z.Shape.Groups+z.Shape.Column-1)=true) (hm:recF z.Shape r=0) (hk:r.Kind=2):∀ k,k<lG z→((nU z g r).getD k []).length=4:=fun k hk2=>by
  have sbd:=aG hs
  have hd:lG z=z.Shape.Data.toNat+z.Shape.Spare.toNat:=rfl
  obtain ⟨_,_,_,h4,h5,_⟩:=oK hs hG hg hm hk
  unfold nU; split
  · unfold eS; exact ly h4 k ω
  · unfold dw; exact ly (by rw [ex]; omega) k ω
theorem rt (hs:z.Shape.ok=true) (hG:aN z=true) (hg:ins g 0 (z.Shape.Groups+z.Shape.Column-1)=true) (hm:recF z.Shape r=0) (hk:r.Kind=2) :
    (eq z g r).2.Shape=z.Shape∧aN (eq z g r).2=true∧(eq z g r).2.Tapes=z.Tapes∧(eq z g r).2.Writes≤z.Writes+5:=by
  have sbd:=aG hs
  have hd:lG z=z.Shape.Data.toNat+z.Shape.Spare.toNat:=rfl
  obtain ⟨h1,h2,h3,h4,h5,h6⟩:=oK hs hG hg hm hk
  have hrow:r.Row<z.Shape.Rows:=by
    have h7:=(h3 0 ω).1
    obtain ⟨_,h8⟩:=cw hG
    obtain ⟨h9,h10⟩:=h8 g.toNat h1
    have h11:=(h10 0 ω).1
    unfold aV at h7; omega
  obtain ⟨a,b,c,d⟩:=mP (z:=z) (rows:=nU z g r) (g:=g) ⟨h6.1,h6.2.1⟩ ⟨h6.2.2.1,hrow⟩ (n:=lG z) (i:=0) (z':=z) rfl (fun k hk2=>zc hs hG hg hm hk k ω) hG h1 ω
  unfold eq
  exact ⟨a,b,c,ω⟩
end
section
variable {z:Wld}{g:Int}{r:Rec}{rs:List Rec}{i:Nat}
theorem uf {a b:Wld}(h1:a.Shape=b.Shape) (h2:a.Groups=b.Groups) (h:aN b=true):aN a=true:=by unfold aN at *; rw [h1,h2]; exact h
end
end Go.Wk
namespace Go.Wk
open Rp (sz own)
def AllR (P:Rec→Prop) (z:Wld):Prop:=∀ t∈z.Tapes,∀ r∈t.Recs,P r
section
variable {z:Wld}{r:Rec}{P:Rec→Prop}{t:Nat}
theorem AllR.cnt (h:AllR P z) (hr:r∈eE z):P r:=by
  obtain ⟨k,j,hk,hj,e⟩:=A2 hr
  refine h (z.Tapes.getD k default) (by rw [bI hk]; exact List.getElem_mem _) r ?_
  rw [← e,bI hj]; exact List.getElem_mem _
theorem AllR.imp {Q:Rec→Prop}(h:AllR P z) (k:∀ r,P r→Q r):AllR Q z:=fun t ht r hr=>k r (h t ht r hr)
theorem AllR.same {z':Wld}(h:AllR P z) (e:z'.Tapes=z.Tapes):AllR P z':=fun t ht r hr=>h t (e ▸ ht) r hr
theorem oT (h:cz z=0):AllR (fun r=>recF z.Shape r=0) z:=fun t ht q hq=>by
  obtain ⟨k,hk,e1⟩:=List.getElem_of_mem ht
  obtain ⟨j,hj,e2⟩:=List.getElem_of_mem hq
  have e3:z.Tapes.getD k default=t:=by rw [bI hk]; exact e1
  have e:(z.Tapes.getD k default).Recs.getD j default=q:=by rw [e3,bI hj]; exact e2
  have hj':j<(z.Tapes.getD k default).Recs.length:=by rw [e3]; exact hj
  have hT:=(bx h).2.2.2.2
  have h0:eH z.Shape z.Tapes z.Tapes.length=0:=by
    unfold dN at hT
    split at hT
    · cases hT
    · split at hT
      · next c2=>exact absurd hT c2
      · omega
  have hk0:eH z.Shape z.Tapes (k+1)=0:=by
    rcases Decidable.em (eH z.Shape z.Tapes (k+1)=0) with c2 | c2
    · exact c2
    · rw [oz c2 _ hk] at h0; exact absurd h0 c2
  have hk1:eH z.Shape z.Tapes k=0:=by
    rcases Decidable.em (eH z.Shape z.Tapes k=0) with c2 | c2
    · exact c2
    · rw [oz c2 _ (Nat.le_succ k)] at hk0; exact absurd hk0 c2
  rw [oS hk1] at hk0
  have hj0:eN z.Shape (z.Tapes.getD k default).Recs (j+1)=0:=by
    rcases Decidable.em (eN z.Shape (z.Tapes.getD k default).Recs (j+1)=0) with c2 | c2
    · exact c2
    · rw [oc c2 _ hj'] at hk0; exact absurd hk0 c2
  have hj1:eN z.Shape (z.Tapes.getD k default).Recs j=0:=by
    rcases Decidable.em (eN z.Shape (z.Tapes.getD k default).Recs j=0) with c2 | c2
    · exact c2
    · rw [oc c2 _ (Nat.le_succ j)] at hj0; exact absurd hj0 c2
  rw [lM hj1,e] at hj0
  exact hj0
def SeqOK (z:Wld):Prop:=AllR (fun r=>0≤r.Seq∧r.Seq≤1000000000) z
theorem vf {s:Shape}(h:recF s r=0):1≤r.Seq∧r.Seq≤1000000000:=by
  by_cases hk:ins r.Kind 1 4=true
  · by_cases hq:ins r.Seq 1 1000000000=true
    · exact aJ.1 hq
    · rw [wz hk (by simpa using hq)] at h; exact absurd h ω
  · rw [uF (by simpa using hk)] at h; exact absurd h ω
theorem gQ (h:cz z=0):SeqOK z:=(oT h).imp fun r hr=>by have:=vf hr; omega
noncomputable def nxQ (z:Wld):Int:=Eu (eE z)+1
theorem yi (h:SeqOK z):1≤nxQ z∧nxQ z≤1000000001:=by
  unfold nxQ Eu
  by_cases c:(eE z).length=0
  · rw [List.eq_nil_of_length_eq_zero c]
    show 1≤(0:Int)+1∧(0:Int)+1≤1000000001
    omega
  · have hm:(eE z).getD ((eE z).length-1) default∈eE z:=by rw [bI ω]; exact List.getElem_mem _
    have:=AllR.cnt h hm
    omega
theorem Au:(du z r).Shape=z.Shape∧(du z r).Groups=z.Groups∧(du z r).Stop=z.Stop:=by
  unfold du nK jj kD
  repeat' split
  all_goals exact ⟨rfl,rfl,rfl⟩
end
def codeF (c:Int) (y:Wld):WldResult:=if c=0∨c=9 then ⟨c,y⟩ else ⟨c,noWld⟩
section
variable {c:Int}{y:Wld}{n:Nat}
theorem Dn (h:c=0∨c=9):codeF c y=⟨c,y⟩:=if_pos h
theorem Gp (h:c≠0∧c≠9):codeF c y=⟨c,noWld⟩:=if_neg (fun q=>by omega)
end
def pk (z:Wld) (a c:Int) (y:Wld):WldResult:=if upF z=0 then if a=0 then codeF c y else ⟨a,noWld⟩ else ⟨upF z,noWld⟩
section
variable {z y:Wld}{a c:Int}{n:Nat}
theorem rJ (h:upF z≠0):pk z a c y=⟨upF z,noWld⟩:=if_neg h
theorem pi (h:upF z=0) (h2:a≠0):pk z a c y=⟨a,noWld⟩:=by rw [pk,if_pos h,if_neg h2]
theorem rS (h:upF z=0) (h2:a=0) (h3:c≠0∧c≠9):pk z a c y=⟨c,noWld⟩:=by rw [pk,if_pos h,if_pos h2,Gp h3]
theorem oW (h:upF z=0) (h2:a=0) (h3:c=0∨c=9):pk z a c y=⟨c,y⟩:=by rw [pk,if_pos h,if_pos h2,Dn h3]
end
end Go.Wk
namespace Go.Wk
noncomputable def nsV (z:Wld):Int:=if 1000000000<nxQ z then 0 else nxQ z
noncomputable def nsC (z:Wld):Int:=if 1000000000<nxQ z then 2 else 0
section
variable {z:Wld}{vs:List RecV}
theorem CW (h:vs.length=0):Eu (vs.map RecV.r)=0:=by
  rw [List.eq_nil_of_length_eq_zero h]; rfl
theorem FN:Eu (vs.map RecV.r)=(vs.getD (vs.length-1) default).r.Seq:=by
  unfold Eu
  rw [List.length_map]
  by_cases h:vs.length=0
  · rw [List.eq_nil_of_length_eq_zero h]; rfl
  · rw [jX rfl ω]
theorem Hb (hM:vs.map RecV.r=eE z) (_:0<vs.length):nxQ z=(vs.getD (vs.length-1) default).r.Seq+1:=by
  unfold nxQ; rw [← hM,FN]
theorem wS (hM:vs.map RecV.r=eE z) (h:vs.length=0):nxQ z=1:=by
  unfold nxQ; rw [← hM,CW h]; rfl
end
end Go.Wk
namespace Go.Wk
section
variable {z:Wld}{g:Int}{r:Rec}{n:Nat}
theorem EL (hT:z.Tapes.length=2) (h:(z.Tapes.getD 0 default).Recs.length≤1000∧(z.Tapes.getD 1 default).Recs.length≤1000):∀ k,(z.Tapes.getD k default).Recs.length≤200000:=fun k=>by
  rcases k with _ | _ | k
  · omega
  · show (z.Tapes.getD 1 default).Recs.length≤_; omega
  · rw [show z.Tapes.getD (k+1+1) default=default from by simp [List.getD,List.getElem?_eq_none (show z.Tapes.length≤k+1+1 by omega)]]
    exact Nat.zero_le _
end
end Go.Wk
namespace Go.Wk
open Rp (sz own)
section
variable {P:Program}{n:Nat}{ops:Array Oper}{Q:Post}{L:Env}{w w0:World}{M:Nat→Prop}{Δ F:List Rsc}{rest:List Oper}{d:Nat}{ty:TypeId}{p:String}{af:Array Edge}{g:Option (Nat × Bool)}{α:Type}[Rp α]
theorem Bt {t e:TypeId}{x:Operand}{z:Value}{bytes m:Nat}{y:α}(hw:Wn ops n L ⟨some d,.makeSlice t x x,ty,p,af,g⟩) (hn:Nat.blt d n=true) (ht:P.underlying t=some (.slice e)) (hT:Ty P e z (sz α) bytes) (hz:∀ w,own true w z.cells.toList y [])
    (hx:evL L x=some (.int .i64 m)) (h48:bytes*m≤281474976710656) (h63:m≤maxLen) (H:Sep M w0 Δ F w)
    (k:∀ b w',Ext No w w'→w.heap.size≤b→Sep M w0 (Δ++[mine [.slice (some ⟨b,0,none⟩) (List.replicate m y).length m] (List.replicate m y) [b]]) F w'→RL P n ops Q rest ((d,.slice (some ⟨b,0,none⟩) (List.replicate m y).length m)::L) w') :
    RL P n ops Q (⟨some d,.makeSlice t x x,ty,p,af,g⟩::rest) L w:=by
  have e:(List.replicate m y).length=m:=List.length_replicate
  rw [e] at k
  exact qD hw hn ht hT hz hx h48 h63 H k
end
end Go.Wk
namespace Go.Wk
noncomputable def bw (z:Wld) (g row:Int) (xs:List UInt8):Rec:=⟨2,nxQ z,⟨#[]⟩,0,g,row,[],xs,eO (jb z g row) xs⟩
noncomputable def mwP (z:Wld) (g row:Int) (xs:List UInt8):Int × Wld:=
  if 1000000000<nxQ z∨fT z 2=true then (2,z)
  else if jW z (bw z g row xs)≠0 then (jW z (bw z g row xs),du z (bw z g row xs))
  else if (eq (du z (bw z g row xs)) g (bw z g row xs)).1=false then (9,(eq (du z (bw z g row xs)) g (bw z g row xs)).2)
  else (jW (eq (du z (bw z g row xs)) g (bw z g row xs)).2 (cU (nxQ z) g),du (eq (du z (bw z g row xs)) g (bw z g row xs)).2 (cU (nxQ z) g))
section
variable {z:Wld}{g row:Int}{xs:List UInt8}
theorem Bp (h:1000000000<nxQ z∨fT z 2=true):mwP z g row xs=(2,z):=if_pos h
theorem GL (h:¬ (1000000000<nxQ z∨fT z 2=true)) (h2:jW z (bw z g row xs)≠0):mwP z g row xs=(jW z (bw z g row xs),du z (bw z g row xs)):=by rw [mwP,if_neg h,if_pos h2]
theorem FH (h:¬ (1000000000<nxQ z∨fT z 2=true)) (h2:jW z (bw z g row xs)=0) (h3:(eq (du z (bw z g row xs)) g (bw z g row xs)).1=false) :
    mwP z g row xs=(9,(eq (du z (bw z g row xs)) g (bw z g row xs)).2):=by rw [mwP,if_neg h,if_neg ω,if_pos h3]
theorem Gt (h:¬ (1000000000<nxQ z∨fT z 2=true)) (h2:jW z (bw z g row xs)=0) (h3:(eq (du z (bw z g row xs)) g (bw z g row xs)).1=true) :
    mwP z g row xs=(jW (eq (du z (bw z g row xs)) g (bw z g row xs)).2 (cU (nxQ z) g),du (eq (du z (bw z g row xs)) g (bw z g row xs)).2 (cU (nxQ z) g)):=by
  rw [mwP,if_neg h,if_neg ω,if_neg (by simp [h3])]
theorem Es:0≤(mwP z g row xs).1∧(mwP z g row xs).1≤9:=by
  unfold mwP
  repeat' split
  · dsimp only; omega
  · have:=vL (z:=z) (r:=bw z g row xs); dsimp only; omega
  · dsimp only; omega
  · have:=vL (z:=(eq (du z (bw z g row xs)) g (bw z g row xs)).2) (r:=cU (nxQ z) g); dsimp only; omega
theorem ny:fT z 2=true↔nW z<2:=by
  unfold fT nW
  simp only [Bool.or_eq_true,decide_eq_true_eq]
  omega
theorem xM (hd:1≤nxQ z∧nxQ z≤1000000000) (hg:ins g 0 (z.Shape.Groups-1)=true) (hr:ins row 0 (z.Shape.Rows-1)=true) (hx:(xs.length:Int)=z.Shape.Data*4) (hl:((jb z g row).length:Int)=z.Shape.Data*4):recF z.Shape (bw z g row xs)=0:=by
  refine vN (r:=bw z g row xs) rfl (aJ.2 hd) ?_ ?_
  · have hm:iN z.Shape (bw z g row xs)=true:=by
      unfold iN bw
      dsimp only
      rw [hg,hr,decide_eq_true hx,decide_eq_true (by rw [d9 ω]; exact hl)]; rfl
    unfold eD
    rw [if_neg (show ¬ (bw z g row xs).Kind=1 by show ¬ (2:Int)=1; decide),if_pos (show (bw z g row xs).Kind=2 from rfl),if_pos hm]
  · unfold bareOK noName
    rw [if_neg (show ¬ (bw z g row xs).Kind=1 by show ¬ (2:Int)=1; decide),if_pos (show (bw z g row xs).Kind=2 from rfl)]
    unfold bw
    simp
theorem El (hs:z.Shape.ok=true) (hx:(xs.length:Int)=z.Shape.Data*4) (hl:((jb z g row).length:Int)=z.Shape.Data*4):ff (bw z g row xs)≤30:=by
  have sbd:=aG hs
  show 0+0+xs.length+(eO (jb z g row) xs).length≤30
  rw [d9 ω]; omega
end
noncomputable def mwF (z:Wld) (g row:Int) (xs:List UInt8):WldResult:=pk z (jz z g row xs (z.Shape.Groups-1)) (mwP z g row xs).1 (mwP z g row xs).2
end Go.Wk
namespace Go.Wk
section
variable {z:Wld}{g row:Int}{xs:List UInt8}{r:Rec}{t u:Nat}
def HS (z:Wld) (q g row:Int) (xs:List UInt8):Rec:=⟨2,q,⟨#[]⟩,0,g,row,[],xs,eO (jb z g row) xs⟩
theorem Fj (hs:z.Shape.ok=true) (hG:aN z=true) (hT:z.Tapes.length=2) (hq:SeqOK z) (hm:¬ 1000000000<nxQ z) (hg:ins g 0 (z.Shape.Groups-1)=true) (hr:ins row 0 (z.Shape.Rows-1)=true) (hx:(xs.length:Int)=z.Shape.Data*4) (hd:cQ z g=false) :
    ff (bw z g row xs)≤30∧(du z (bw z g row xs)).Shape.ok=true∧aN (du z (bw z g row xs))=true∧ins g 0 ((du z (bw z g row xs)).Shape.Groups+(du z (bw z g row xs)).Shape.Column-1)=true∧recF (du z (bw z g row xs)).Shape (bw z g row xs)=0 ∧
      (du z (bw z g row xs)).Tapes.length=2∧(du z (bw z g row xs)).Writes≤z.Writes+2∧(eq (du z (bw z g row xs)) g (bw z g row xs)).2.Tapes=(du z (bw z g row xs)).Tapes∧(eq (du z (bw z g row xs)) g (bw z g row xs)).2.Writes≤z.Writes+7:=by
  have sbd:=aG hs
  have hgi:=aJ.1 hg
  have hg2:ins g 0 (z.Shape.Groups+z.Shape.Column-1)=true:=aJ.2 ω
  have hl:=lg hs hG hg2 hr hd
  have hqb:=yi hq
  have hmk:=xM ω hg hr hx hl
  have hz:=El hs hx hl
  obtain ⟨e1,e2,e3⟩:=Au (z:=z) (r:=bw z g row xs)
  obtain ⟨f1,f2,f3,f4⟩:=si (r:=bw z g row xs) hT
  have hs2:(du z (bw z g row xs)).Shape.ok=true:=by rw [e1]; exact hs
  have hG2:=uf e1 e2 hG
  have hg3:ins g 0 ((du z (bw z g row xs)).Shape.Groups+(du z (bw z g row xs)).Shape.Column-1)=true:=by rw [e1]; exact hg2
  have hm2:recF (du z (bw z g row xs)).Shape (bw z g row xs)=0:=by rw [e1]; exact hmk
  obtain ⟨q1,q2,q3,q4⟩:=rt hs2 hG2 hg3 hm2 rfl
  exact ⟨hz,hs2,hG2,hg3,hm2,f1,f2,q3,ω⟩
theorem Fg {q:Int}(h1:I64ok q) (h2:I64ok g) (h3:I64ok row):(HS z q g row xs).Ok:=by
  have h0:I64ok 0:=by unfold I64ok; omega
  exact ⟨by show I64ok 2; unfold I64ok; omega,h1,by show (0:Nat)≤maxLen; exact Nat.zero_le _,h0,h2,h3⟩
end
end Go.Wk
namespace Go.Wk
theorem sb {z:Wld}{g row:Int}{xs:List UInt8}(hs:z.Shape.ok=true) (h:upF z=0) (hg:ins g 0 (z.Shape.Groups-1)=true) (hr:ins row 0 (z.Shape.Rows-1)=true) (h3:(xs.length:Int)=z.Shape.Data*4):jz z g row xs (z.Shape.Groups-1)=liveF z g:=by
  have sbd:=aG hs
  have hgi:=aJ.1 hg
  rw [Br h ⟨hg,hr⟩ h3,liveF,groupF,if_pos (aJ.2 ω)]
  split<;>simp
end Go.Wk
namespace Go.Wk
open Rp (sz own)
section
variable {z:Wld}{f g row:Int}
def RecsOK (z:Wld):Prop:=AllR (fun r=>recF z.Shape r=0) z
theorem Bq (hA:RecsOK z) (h:ju z g row=true):recF z.Shape (opR z g row)=0:=AllR.cnt hA (AK (Bh h))
theorem tB (h:recF z.Shape (opR z g row)=0) (hk:(opR z g row).Kind=4):ins (opR z g row).Group 0 (z.Shape.Groups+z.Shape.Column-1)=true∧ins (opR z g row).Row 0 (z.Shape.Rows-1)=true∧rises (opR z g row).Rows (z.Shape.Groups+z.Shape.Column-1)=true∧((opR z g row).Data.length:Int)=z.Shape.Data*4∧weightsOK z.Shape (opR z g row)=true:=by
  have h1:=yM h hk
  unfold fP at h1
  simp only [Bool.and_eq_true,decide_eq_true_eq] at h1
  exact ⟨h1.1.1.1.1,h1.1.1.1.2,h1.1.1.2,h1.1.2,h1.2⟩
end
end Go.Wk
namespace Go.Wk
structure GvI (z0 z:Wld):Prop where
  sh:z.Shape=z0.Shape
  gr:z.Groups=z0.Groups
  tp:z.Tapes.length=2
  sq:SeqOK z
  rc:RecsOK z
  dn:z.Down=z0.Down
  r0:(z.Tapes.getD 0 default).Recs.length≤200
  r1:(z.Tapes.getD 1 default).Recs.length≤200
  wr:z.Writes≤z0.Writes+((z.Tapes.getD 0 default).Recs.length:Int)+((z.Tapes.getD 1 default).Recs.length:Int)
  mw:dk z≤dk z0+200*(z.Tapes.getD 0 default).Recs.length
  ok:z.Ok
end Go.Wk
namespace Go.Wk
section
variable {z y:Wld}{g row:Int}{b:Block}{gn i r n:Nat}
theorem Cf (h:y.Tapes=z.Tapes):eE y=eE z:=by unfold eE allR; rw [h]
theorem pU (h:y.Tapes=z.Tapes):opR y g row=opR z g row∧ju y g row=ju z g row:=by
  unfold ju opR gw; rw [Cf h]; exact ⟨rfl,rfl⟩
theorem xI (h:y.Tapes=z.Tapes):cR y g row=cR z g row:=by
  unfold cR; rw [(pU h).1,(pU h).2]
theorem nV {G G':List Drive}(h:∀ k,(G'.getD k default).Wiped=(G.getD k default).Wiped):∀ n,wipedTo G' n=wipedTo G n
  | 0=>rfl
  | n+1=>by rw [wipedTo,wipedTo,h n,nV h n]
theorem ko {G:List Drive}{x:Int}:∀ {n},x∈wipedTo G n→∃ j:Nat,j<n∧x=j
  | 0,h=>by cases h
  | n+1,h=>by
    rw [wipedTo] at h
    split at h
    · rcases List.mem_append.1 h with h | h
      · obtain ⟨j,h1,h2⟩:=ko h; exact ⟨j,ω,h2⟩
      · exact ⟨n,ω,by simpa using h⟩
    · obtain ⟨j,h1,h2⟩:=ko h; exact ⟨j,ω,h2⟩
theorem uA (k:Nat) (hk:k<(aM z g).length):0≤(aM z g).getD k 0∧((aM z g).getD k 0).toNat<(z.Groups.getD g.toNat []).length:=by
  have hm:(aM z g).getD k 0∈aM z g:=by rw [bI hk]; exact List.getElem_mem _
  obtain ⟨j,h1,h2⟩:=ko hm
  omega
theorem ze:aM (jx g.toNat i r b z) g=aM z g:=by
  unfold aM jx
  dsimp only
  by_cases hg:g.toNat<z.Groups.length
  · rw [bM,if_pos ⟨rfl,hg⟩,List.length_set]
    refine nV (fun k=>?_) _
    rw [bM]; split
    · next h=>rw [h.1]; rfl
    · rfl
  · rw [List.set_eq_of_length_le ω]
theorem zL:aM (dT g.toNat i r b z) g=aM z g:=by
  unfold dT kD; split
  · rfl
  · exact ze
theorem Fq (h1:y.Shape=z.Shape) (h2:aM y g=aM z g):cQ y g=cQ z g:=by unfold cQ; rw [h1,h2]
theorem re (hd:cQ z g=true):∀ {n},bZ z g n=[]→∀ k,k<n→cR z g k=0
  | 0,_,k,hk=>absurd hk ω
  | n+1,h,k,hk=>by
    rw [bZ] at h
    split at h
    · simp at h
    · next c=>
      by_cases e:k=n
      · subst e
        by_cases q:cR z g k=0
        · exact q
        · exact absurd ⟨hd,q⟩ c
      · exact re hd h k ω
theorem ta (h:cR z g row=0):ju z g row=true:=by
  unfold cR at h
  split at h
  · assumption
  · cases h
end
noncomputable def Az (z:Wld) (g row:Int):List UInt8:=if cQ z g=true then (opR z g row).Data else jb z g row
noncomputable def fK (z:Wld) (g row:Int):List (List UInt8):=ki z.Shape.Data.toNat (z.Shape.Data.toNat+z.Shape.Spare.toNat) (Az z g row)
noncomputable def gY (z:Wld) (g row:Int):Int:=if cQ z g=true then (opR z g row).Seq else dx (z.Groups.getD g.toNat []) row.toNat (z.Groups.getD g.toNat []).length
def wrD (g row:Nat) (bs:List (List UInt8)) (q:Int):List Int→Wld→Bool × Wld
  | [],z=>(true,z)
  | k::ks,z=>if bv z=true then (false,dT g k.toNat row ⟨q,bs.getD k.toNat []⟩ z) else wrD g row bs q ks (dT g k.toNat row ⟨q,bs.getD k.toNat []⟩ z)
noncomputable def rbR (g:Int) (ks:List Int):Nat→Nat→Wld→Bool × Wld
  | 0,_,z=>(true,z)
  | n+1,i,z=>if (wrD g.toNat i (fK z g i) (gY z g i) ks z).1=true then rbR g ks n (i+1) (wrD g.toNat i (fK z g i) (gY z g i) ks z).2 else (false,(wrD g.toNat i (fK z g i) (gY z g i) ks z).2)
def trT (g k:Nat) (z:Wld):Wld:=⟨z.Shape,z.Groups.set g ((z.Groups.getD g []).set k ⟨false,(aV z g k).Blocks⟩),z.On,z.Tapes,z.Writes,z.Stop,z.Down⟩
def trW (g k:Nat) (z:Wld):Wld:=kD z (trT g k z)
def trL (g:Nat):List Int→Wld→Bool × Wld
  | [],z=>(true,z)
  | k::ks,z=>if bv z=true then (false,trW g k.toNat z) else trL g ks (trW g k.toNat z)
noncomputable def dI (z:Wld) (g:Int):Nat→List Rec
  | 0=>[]
  | k+1=>if ju z g k=true then dI z g k++[opR z g k] else dI z g k
def doneL (g:Int):List Rec→Wld→Int × Wld
  | [],z=>(0,z)
  | r::rs,z=>if jW z (cU r.Seq g)=0 then doneL g rs (du z (cU r.Seq g)) else (jW z (cU r.Seq g),du z (cU r.Seq g))
noncomputable def rbP (z:Wld) (g:Int):Int × Wld:=
  if (aM z g).length=0 then (4,z) else if 0<(bZ z g z.Shape.Rows.toNat).length then (6,z) else if fT z ((dI z g z.Shape.Rows.toNat).length:Nat)=true then (2,z)
  else if (rbR g (aM z g) z.Shape.Rows.toNat 0 z).1=false then (9,(rbR g (aM z g) z.Shape.Rows.toNat 0 z).2)
  else if (trL g.toNat (aM z g) (rbR g (aM z g) z.Shape.Rows.toNat 0 z).2).1=false then (9,(trL g.toNat (aM z g) (rbR g (aM z g) z.Shape.Rows.toNat 0 z).2).2)
  else doneL g (dI z g z.Shape.Rows.toNat) (trL g.toNat (aM z g) (rbR g (aM z g) z.Shape.Rows.toNat 0 z).2).2
section
variable {z z0 y:Wld}{g row:Int}{b:Block}{gn i r n m j:Nat}{bs:List (List UInt8)}{q:Int}{ks:List Int}{rs:List Rec}
theorem Fs (h:¬ j<ks.length):wrD gn r bs q (ks.drop j) z=(true,z):=by rw [List.drop_of_length_le ω]; rfl
theorem pa {ks:List Int}(h:j<ks.length):ks.drop j=ks.getD j 0::ks.drop (j+1):=by
  rw [bI h]; exact List.drop_eq_getElem_cons h
theorem GM (h:j<ks.length) (p:bv z=false):wrD gn r bs q (ks.drop j) z=wrD gn r bs q (ks.drop (j+1)) (dT gn (ks.getD j 0).toNat r ⟨q,bs.getD (ks.getD j 0).toNat []⟩ z):=by
  rw [pa h,wrD,if_neg (by simp [p])]
theorem DZ (h:j<ks.length) (p:bv z=true):wrD gn r bs q (ks.drop j) z=(false,dT gn (ks.getD j 0).toNat r ⟨q,bs.getD (ks.getD j 0).toNat []⟩ z):=by
  rw [pa h,wrD,if_pos p]
theorem FX (h:n=0):rbR g ks n i z=(true,z):=by subst h; rfl
theorem Hg (hn:n=m+1) (h:(wrD g.toNat i (fK z g i) (gY z g i) ks z).1=true):rbR g ks n i z=rbR g ks m (i+1) (wrD g.toNat i (fK z g i) (gY z g i) ks z).2:=by subst hn; rw [rbR,if_pos h]
theorem DR (hn:n=m+1) (h:(wrD g.toNat i (fK z g i) (gY z g i) ks z).1=false):rbR g ks n i z=(false,(wrD g.toNat i (fK z g i) (gY z g i) ks z).2):=by subst hn; rw [rbR,if_neg (by simp [h])]
theorem Gi (h:¬ j<ks.length):trL gn (ks.drop j) z=(true,z):=by rw [List.drop_of_length_le ω]; rfl
theorem He (h:j<ks.length) (p:bv z=false):trL gn (ks.drop j) z=trL gn (ks.drop (j+1)) (trW gn (ks.getD j 0).toNat z):=by
  rw [pa h,trL,if_neg (by simp [p])]
theorem DE (h:j<ks.length) (p:bv z=true):trL gn (ks.drop j) z=(false,trW gn (ks.getD j 0).toNat z):=by rw [pa h,trL,if_pos p]
theorem DD (h:ju z g n=true):dI z g (n+1)=dI z g n++[opR z g n]:=by rw [dI,if_pos h]
theorem Gr (h:ju z g n=false):dI z g (n+1)=dI z g n:=by rw [dI,if_neg (by simp [h])]
theorem pQ:∀ {n},(dI z g n).length≤n
  | 0=>Nat.le_refl _
  | n+1=>by
    have:=pQ (n:=n)
    rw [dI]; split
    · rw [List.length_append]; simp; omega
    · omega
theorem BS (h:¬ j<rs.length):doneL g (rs.drop j) z=(0,z):=by rw [List.drop_of_length_le ω]; rfl
theorem E8 (h:j<rs.length) (h2:jW z (cU (rs.getD j default).Seq g)=0):doneL g (rs.drop j) z=doneL g (rs.drop (j+1)) (du z (cU (rs.getD j default).Seq g)):=by
  rw [Bo h,doneL,if_pos h2]
theorem zQ (h:j<rs.length) (h2:jW z (cU (rs.getD j default).Seq g)≠0):doneL g (rs.drop j) z=(jW z (cU (rs.getD j default).Seq g),du z (cU (rs.getD j default).Seq g)):=by
  rw [Bo h,doneL,if_neg h2]
structure WrI (z0 z:Wld) (n:Nat):Prop where
  sh:z.Shape=z0.Shape
  tp:z.Tapes=z0.Tapes
  gk:aN z=true
  dn:z.Down=z0.Down
  wr:z.Writes≤z0.Writes+n
  ok:z.Ok
  mw:dk z≤dk z0+10*n
theorem WrI.start (hG:aN z=true) (ho:z.Ok):WrI z z 0:=⟨rfl,rfl,hG,rfl,ω,ho,ω⟩
theorem WrI.le (I:WrI z0 z n) (h:n≤m):WrI z0 z m:=⟨I.sh,I.tp,I.gk,I.dn,by have:=I.wr; omega,I.ok,by have:=I.mw; omega⟩
theorem ni (hs:z.Shape.ok=true) (hG:aN z=true) (hg:ins g 0 (z.Shape.Groups+z.Shape.Column-1)=true) (hr:ins row 0 (z.Shape.Rows-1)=true) {k:Nat}(hk:k<(z.Groups.getD g.toNat []).length) :
    g.toNat<z.Groups.length∧(z.Groups.getD g.toNat []).length=z.Shape.Data.toNat+z.Shape.Spare.toNat∧row.toNat<((z.Groups.getD g.toNat []).getD k default).Blocks.length:=by
  have sbd:=aG hs
  have hgi:=aJ.1 hg
  have hri:=aJ.1 hr
  obtain ⟨h1,h2⟩:=cw hG
  obtain ⟨h3,h4⟩:=h2 g.toNat ω
  obtain ⟨h5,_⟩:=h4 k hk
  exact ⟨ω,ω,ω⟩
theorem qX (I:WrI z0 z n) (hs:z0.Shape.ok=true) (hw:z0.Writes≤1000000000) (hn:n≤100000) (hg:ins g 0 (z0.Shape.Groups+z0.Shape.Column-1)=true) (hr:ins row 0 (z0.Shape.Rows-1)=true) (hb:dz b=true) (hi:i<(z.Groups.getD g.toNat []).length) :
    (dT g.toNat i row.toNat b z).Ok∧dk (dT g.toNat i row.toNat b z)≤dk z0+10*(n+1)∧(bv z=false→WrI z0 (dT g.toNat i row.toNat b z) (n+1))∧((dT g.toNat i row.toNat b z).Groups.getD g.toNat []).length=(z.Groups.getD g.toNat []).length:=by
  have i1:=I.wr; have i2:=I.mw
  obtain ⟨p1,p2,p3⟩:=ni (z:=z) (row:=row) (by rw [I.sh]; exact hs) I.gk (by rw [I.sh]; exact hg) (by rw [I.sh]; exact hr) hi
  have hb4:=eU hb
  have k1:=FG (gn:=g.toNat) (i:=i) (row:=row.toNat) (b:=b) I.ok ω
  have k2:=Ft (b:=b) p1 hi p3
  have k3:lZ b=5:=by unfold lZ; omega
  have k4:=(gJ (g:=g.toNat) (i:=i) (row:=row.toNat) (b:=b) (z:=z)).2
  obtain ⟨_,k5,_⟩:=fF (b:=b) (row:=row.toNat) p1 hi
  exact ⟨k1,ω,fun p=>⟨lH.trans I.sh,n8.trans I.tp,qZ I.gk hb p1 hi,(Ce p).trans I.dn,ω,k1,ω⟩,k5⟩
theorem Am (h:aN z=true) (hg:gn<z.Groups.length) (hi:i<(z.Groups.getD gn []).length):aN (trT gn i z)=true:=by
  have h0:=h
  simp only [aN,Bool.and_eq_true,decide_eq_true_eq] at h
  have h2:=ir h.2
  have h3:=h2 gn hg
  have h4:cX z.Shape (aV z gn i)=true:=by
    have h5:=h3
    simp only [dt,Bool.and_eq_true,decide_eq_true_eq] at h5
    exact ir h5.2 i hi
  have h6:=mZ (i:=i) h3 (x:=⟨false,(aV z gn i).Blocks⟩) h4
  unfold aN trT
  dsimp only
  rw [decide_eq_true (by rw [List.length_set]; exact h.1),Bool.true_and]
  refine pM (p:=dt z.Shape) fun k hk=>?_
  rw [List.length_set] at hk
  rw [bM]
  split
  · exact h6
  · exact h2 k hk
theorem GI (hg:gn<z.Groups.length) (hi:i<(z.Groups.getD gn []).length):dk (trT gn i z)≤dk z:=by
  have h1:=kZ (f:=mkL iU) (xs:=z.Groups) (i:=gn) (y:=(z.Groups.getD gn []).set i ⟨false,(aV z gn i).Blocks⟩) hg
  have h2:=kZ (f:=iU) (xs:=z.Groups.getD gn []) (i:=i) (y:=⟨false,(aV z gn i).Blocks⟩) hi
  have e0:z.Groups.getD gn default=z.Groups.getD gn []:=rfl
  rw [e0] at h1
  have h4:iU ⟨false,(aV z gn i).Blocks⟩=iU ((z.Groups.getD gn []).getD i default):=rfl
  unfold dk trT; dsimp only; omega
theorem vn (I:WrI z0 z n) (hs:z0.Shape.ok=true) (hw:z0.Writes≤1000000000) (hn:n≤100000) (hg:ins g 0 (z0.Shape.Groups+z0.Shape.Column-1)=true) (hi:i<(z.Groups.getD g.toNat []).length) :
    (trW g.toNat i z).Ok∧dk (trW g.toNat i z)≤dk z0+10*n∧(bv z=false→WrI z0 (trW g.toNat i z) (n+1))∧((trW g.toNat i z).Groups.getD g.toNat []).length=(z.Groups.getD g.toNat []).length:=by
  have i1:=I.wr; have i2:=I.mw
  have sbd:=aG hs
  obtain ⟨p1,_,_⟩:=ni (z:=z) (row:=0) (by rw [I.sh]; exact hs) I.gk (by rw [I.sh]; exact hg) (by rw [I.sh]; exact aJ.2 ω) hi
  have k2:=GI p1 hi
  have k3:=vD (z:=z)
  unfold trW kD
  split
  · next c=>exact ⟨vM I.ok,ω,fun p=>absurd c (by simp [p]),rfl⟩
  · have kt:dk (hX (trT g.toNat i z))=dk (trT g.toNat i z):=rfl
    have kw:(hX (trT g.toNat i z)).Writes=z.Writes+1:=rfl
    have k1:(hX (trT g.toNat i z)).Ok:=po (z:=trT g.toNat i z) I.ok (by show z.Writes≤_; omega)
    refine ⟨k1,ω,fun _=>⟨I.sh,I.tp,Am I.gk p1 hi,I.dn,ω,k1,ω⟩,?_⟩
    show ((z.Groups.set g.toNat _).getD g.toNat []).length=_
    rw [bM,if_pos ⟨rfl,p1⟩,List.length_set]
theorem Eg (hs:z.Shape.ok=true) (hG:aN z=true) (hg:ins g 0 (z.Shape.Groups+z.Shape.Column-1)=true) (hr:ins row 0 (z.Shape.Rows-1)=true) (hA:RecsOK z) (ho:cQ z g=true→ju z g row=true) :
    ((Az z g row).length:Int)=z.Shape.Data*4∧(0≤gY z g row∧gY z g row≤1000000000)∧(fK z g row).length=z.Shape.Data.toNat+z.Shape.Spare.toNat∧∀ k,k<z.Shape.Data.toNat+z.Shape.Spare.toNat→dz ⟨gY z g row,(fK z g row).getD k []⟩=true:=by
  have sbd:=aG hs
  have key:((Az z g row).length:Int)=z.Shape.Data*4∧(0≤gY z g row∧gY z g row≤1000000000):=by
    unfold Az gY
    cases hd:cQ z g with
    | true=>
      have h1:=ho hd
      rw [if_pos rfl,if_pos rfl]
      obtain ⟨hk,_,_⟩:=Bw h1
      have h2:=Bq hA h1
      obtain ⟨_,_,_,d4,_⟩:=tB h2 hk
      have h3:=vf h2
      exact ⟨d4,ω,h3.2⟩
    | false=>
      rw [if_neg σ,if_neg σ]
      exact ⟨lg hs hG hg hr hd,DT hs hG hg hr⟩
  refine ⟨key.1,key.2,mq,fun k hk=>?_⟩
  unfold dz
  dsimp only
  rw [aJ.2 key.2,decide_eq_true (show ((fK z g row).getD k []).length=4 from ly ω k hk)]; rfl
end
section
variable {z z0:Wld}{g:Int}{n:Nat}
theorem WrI.recs (I:WrI z0 z n) (h:RecsOK z0):RecsOK z:=by
  unfold RecsOK; rw [I.sh]; exact h.same I.tp
structure RbI (g:Int) (z0 z:Wld) (n:Nat):Prop where
  wi:WrI z0 z n
  wp:aM z g=aM z0 g
theorem RbI.dead (I:RbI g z0 z n):cQ z g=cQ z0 g:=Fq I.wi.sh I.wp
theorem RbI.blk {i row:Nat}{b:Block}(I:RbI g z0 z n) (h:WrI z0 (dT g.toNat i row b z) (n+1)):RbI g z0 (dT g.toNat i row b z) (n+1):=⟨h,zL.trans I.wp⟩
theorem RbI.len (I:RbI g z0 z n) (hs:z0.Shape.ok=true) (hg:ins g 0 (z0.Shape.Groups+z0.Shape.Column-1)=true):(z.Groups.getD g.toNat []).length=z0.Shape.Data.toNat+z0.Shape.Spare.toNat:=by
  have sbd:=aG hs
  have hgi:=aJ.1 hg
  obtain ⟨h1,h2⟩:=cw I.wi.gk
  rw [I.wi.sh] at h1
  have h3:=(h2 g.toNat ω).1
  rw [I.wi.sh] at h3
  omega
theorem WrI.len (I:WrI z0 z n) (hs:z0.Shape.ok=true) (hg:ins g 0 (z0.Shape.Groups+z0.Shape.Column-1)=true):(z.Groups.getD g.toNat []).length=z0.Shape.Data.toNat+z0.Shape.Spare.toNat:=by
  have sbd:=aG hs
  have hgi:=aJ.1 hg
  obtain ⟨h1,h2⟩:=cw I.gk
  rw [I.sh] at h1
  have h3:=(h2 g.toNat ω).1
  rw [I.sh] at h3
  omega
theorem vd {row:Nat}{bs:List (List UInt8)}{q:Int}(hs:z0.Shape.ok=true) (hw:z0.Writes≤1000000000) (hg:ins g 0 (z0.Shape.Groups+z0.Shape.Column-1)=true) (hr:ins (row:Int) 0 (z0.Shape.Rows-1)=true) (hb:∀ k,k<z0.Shape.Data.toNat+z0.Shape.Spare.toNat→dz ⟨q,bs.getD k []⟩=true) :
    ∀ {ks:List Int}{z:Wld}{n:Nat},(∀ k∈ks,k.toNat<z0.Shape.Data.toNat+z0.Shape.Spare.toNat)→n+ks.length≤100000→RbI g z0 z n→((wrD g.toNat row bs q ks z).1=true→RbI g z0 (wrD g.toNat row bs q ks z).2 (n+ks.length))∧(wrD g.toNat row bs q ks z).2.Ok∧dk (wrD g.toNat row bs q ks z).2≤dk z0+10*(n+ks.length)
  | [],z,n,_,_,I=>⟨fun _=>I,I.wi.ok,by have:=I.wi.mw; show dk z≤_; simpa using this⟩
  | k::ks,z,n,hk,hn,I=>by
    rw [List.length_cons] at hn
    have hl:=I.len hs hg
    have h1:=hk k (List.mem_cons_self ..)
    obtain ⟨f1,f2,f3,_⟩:=qX I.wi hs hw ω hg hr (hb k.toNat h1) (i:=k.toNat) ω
    rw [Int.toNat_natCast] at f1 f2 f3
    rw [wrD,List.length_cons]
    split
    · exact ⟨fun c=>(by cases c),f1,θ⟩
    · next c=>
      have J:=I.blk (f3 (by simpa using c))
      obtain ⟨a,b,d⟩:=vd hs hw hg hr hb (ks:=ks) (n:=n+1) (fun x hx=>hk x (List.mem_cons_of_mem _ hx)) ω J
      rw [show n+(ks.length+1)=n+1+ks.length by omega]
      exact ⟨a,b,d⟩
theorem uC {ks:List Int}(hs:z0.Shape.ok=true) (hw:z0.Writes≤1000000000) (hg:ins g 0 (z0.Shape.Groups+z0.Shape.Column-1)=true) (hA:RecsOK z0) (hk:∀ k∈ks,k.toNat<z0.Shape.Data.toNat+z0.Shape.Spare.toNat) (hkl:ks.length≤10) (ho:cQ z0 g=true→∀ i:Nat,i<z0.Shape.Rows.toNat→ju z0 g i=true) :
    ∀ {m i:Nat}{z:Wld}{n:Nat},i+m≤z0.Shape.Rows.toNat→n+10*m≤1000→RbI g z0 z n→((rbR g ks m i z).1=true→RbI g z0 (rbR g ks m i z).2 (n+10*m))∧(rbR g ks m i z).2.Ok∧dk (rbR g ks m i z).2≤dk z0+10*(n+10*m)
  | 0,_,z,n,_,_,I=>⟨fun _=>I,I.wi.ok,by have:=I.wi.mw; show dk z≤_; simpa using this⟩
  | m+1,i,z,n,him,hn,I=>by
    have sbd:=aG hs
    have hr:ins (i:Int) 0 (z0.Shape.Rows-1)=true:=aJ.2 ω
    have hdu:=(Eg (z:=z) (g:=g) (row:=(i:Int)) (by rw [I.wi.sh]; exact hs) I.wi.gk (by rw [I.wi.sh]; exact hg) (by rw [I.wi.sh]; exact hr) (I.wi.recs hA) (fun hd=>by
      rw [(pU I.wi.tp).2]; exact ho (by rw [← I.dead]; exact hd) i ω)).2.2.2
    rw [I.wi.sh] at hdu
    obtain ⟨a,b,c⟩:=vd hs hw hg hr hdu (ks:=ks) (z:=z) (n:=n) hk ω I
    rw [rbR]
    split
    · next h=>
      have J:=a h
      obtain ⟨d,e,f⟩:=uC hs hw hg hA hk hkl ho (m:=m) (i:=i+1) (n:=n+10) ω ω (⟨J.wi.le ω,J.wp⟩)
      rw [show n+10*(m+1)=n+10+10*m by omega]
      exact ⟨d,e,f⟩
    · exact ⟨fun c=>(by cases c),b,θ⟩
theorem uS (hs:z0.Shape.ok=true) (hw:z0.Writes≤1000000000) (hg:ins g 0 (z0.Shape.Groups+z0.Shape.Column-1)=true) :
    ∀ {ks:List Int}{z:Wld}{n:Nat},(∀ k∈ks,k.toNat<z0.Shape.Data.toNat+z0.Shape.Spare.toNat)→n+ks.length≤100000→WrI z0 z n→((trL g.toNat ks z).1=true→WrI z0 (trL g.toNat ks z).2 (n+ks.length))∧(trL g.toNat ks z).2.Ok∧dk (trL g.toNat ks z).2≤dk z0+10*(n+ks.length)
  | [],z,n,_,_,I=>⟨fun _=>I,I.ok,by have:=I.mw; show dk z≤_; simpa using this⟩
  | k::ks,z,n,hk,hn,I=>by
    rw [List.length_cons] at hn
    have hl:=I.len hs hg
    have h1:=hk k (List.mem_cons_self ..)
    obtain ⟨f1,f2,f3,_⟩:=vn I hs hw ω hg (i:=k.toNat) ω
    rw [trL,List.length_cons]
    split
    · exact ⟨fun c=>(by cases c),f1,θ⟩
    · next c=>
      obtain ⟨a,b,d⟩:=uS hs hw hg (ks:=ks) (n:=n+1) (fun x hx=>hk x (List.mem_cons_of_mem _ hx)) ω (f3 (by simpa using c))
      rw [show n+(ks.length+1)=n+1+ks.length by omega]
      exact ⟨a,b,d⟩
theorem wO:∀ {rs:List Rec}{z:Wld},(doneL g rs z).1=0∨(doneL g rs z).1=2∨(doneL g rs z).1=9
  | [],_ => .inl rfl
  | r::rs,z=>by
    rw [doneL]; split
    · exact wO
    · exact vL
theorem wh:0≤(rbP z g).1∧(rbP z g).1≤9:=by
  unfold rbP
  repeat' split
  all_goals first | exact ⟨by decide,by decide⟩ | (have:=wO (g:=g) (rs:=dI z g z.Shape.Rows.toNat) (z:=(trL g.toNat (aM z g) (rbR g (aM z g) z.Shape.Rows.toNat 0 z).2).2); omega)
theorem qp (hs:z.Shape.ok=true) (hG:aN z=true) (hg:ins g 0 (z.Shape.Groups+z.Shape.Column-1)=true):(z.Groups.getD g.toNat []).length=z.Shape.Data.toNat+z.Shape.Spare.toNat:=by
  have sbd:=aG hs
  have hgi:=aJ.1 hg
  obtain ⟨h1,h2⟩:=cw hG
  have h3:=(h2 g.toNat ω).1
  omega
theorem nb (hs:z.Shape.ok=true) (hG:aN z=true) (hg:ins g 0 (z.Shape.Groups+z.Shape.Column-1)=true):(∀ k∈aM z g,k.toNat<z.Shape.Data.toNat+z.Shape.Spare.toNat)∧(aM z g).length≤5:=by
  have sbd:=aG hs
  have hl:=qp hs hG hg
  have h1:=yk (z:=z) (g:=g)
  refine ⟨fun k hk=>?_,ω⟩
  obtain ⟨j,h2,h3⟩:=ko hk
  omega
end
section
variable {z:Wld}{g:Int}
theorem BA (h:(aM z g).length=0):rbP z g=(4,z):=if_pos h
theorem FZ (h:¬ (aM z g).length=0) (h2:0<(bZ z g z.Shape.Rows.toNat).length):rbP z g=(6,z):=by rw [rbP,if_neg h,if_pos h2]
theorem FA (h:¬ (aM z g).length=0) (h2:¬ 0<(bZ z g z.Shape.Rows.toNat).length) (h3:fT z ((dI z g z.Shape.Rows.toNat).length:Nat)=true):rbP z g=(2,z):=by rw [rbP,if_neg h,if_neg h2,if_pos h3]
theorem HU (h:¬ (aM z g).length=0) (h2:¬ 0<(bZ z g z.Shape.Rows.toNat).length) (h3:fT z ((dI z g z.Shape.Rows.toNat).length:Nat)=false) (h4:(rbR g (aM z g) z.Shape.Rows.toNat 0 z).1=false):rbP z g=(9,(rbR g (aM z g) z.Shape.Rows.toNat 0 z).2):=by
  rw [rbP,if_neg h,if_neg h2,if_neg (by simp [h3]),if_pos h4]
theorem HW (h:¬ (aM z g).length=0) (h2:¬ 0<(bZ z g z.Shape.Rows.toNat).length) (h3:fT z ((dI z g z.Shape.Rows.toNat).length:Nat)=false) {y:Wld}(h4:rbR g (aM z g) z.Shape.Rows.toNat 0 z=(true,y)) (h5:(trL g.toNat (aM z g) y).1=false):rbP z g=(9,(trL g.toNat (aM z g) y).2):=by
  rw [rbP,if_neg h,if_neg h2,if_neg (by simp [h3]),h4,if_neg σ,if_pos h5]
theorem DM (h:¬ (aM z g).length=0) (h2:¬ 0<(bZ z g z.Shape.Rows.toNat).length) (h3:fT z ((dI z g z.Shape.Rows.toNat).length:Nat)=false) {y x:Wld}(h4:rbR g (aM z g) z.Shape.Rows.toNat 0 z=(true,y)) (h5:trL g.toNat (aM z g) y=(true,x)):rbP z g=doneL g (dI z g z.Shape.Rows.toNat) x:=by
  rw [rbP,if_neg h,if_neg h2,if_neg (by simp [h3]),h4,if_neg σ]
  dsimp only
  rw [h5,if_neg σ]
theorem tv {m:Nat}:nW z<m↔fT z m=true:=by
  unfold fT nW
  simp only [Bool.or_eq_true,decide_eq_true_eq]
  omega
end
noncomputable def rbF (z:Wld) (g:Int):WldResult:=pk z (dp z g 0) (rbP z g).1 (rbP z g).2
end Go.Wk
namespace Go.Wk
section
theorem AP {r:Rec}:∀ {n:Nat}{b:List Rec},b.length=n→(r∈dds b↔r∈b)
  | 0,b,h=>by rw [List.eq_nil_of_length_eq_zero h]; simp [dds]
  | n+1,b,h=>by
    obtain ⟨c,x,rfl⟩:∃ c x,b=c++[x]:=⟨b.dropLast,b.getLast (by intro e; rw [e] at h; simp at h),(List.dropLast_concat_getLast _).symm⟩
    have ih:=AP (r:=r) (show c.length=n by simpa using h)
    have e2:dds (c++[x])=ddR (dds c) x:=by unfold dds; rw [List.foldl_append]; rfl
    rw [e2,List.mem_append,List.mem_singleton,← ih]
    unfold ddR; split
    · next c1=>exact ⟨.inl,fun q=>q.elim id fun e=>e ▸ c1⟩
    · rw [List.mem_append,List.mem_singleton]
end
section
variable {z y:Wld}{r:Rec}{t:Nat}
theorem Ct (hT:z.Tapes.length=2):z.Tapes=[z.Tapes.getD 0 default,z.Tapes.getD 1 default]:=by
  match h:z.Tapes,hT with
  | [a,b],_=>rfl
theorem Ee (hT:z.Tapes.length=2):allR z z.Tapes.length=(z.Tapes.getD 0 default).Recs++(z.Tapes.getD 1 default).Recs:=by
  unfold allR
  rw [List.take_length,Ct hT]
  simp
end
end Go.Wk
namespace Go.Wk
open Rp (sz own)
structure TapeV where
  Wiped:Bool
  Recs:List RecV
instance:Rp TapeV:=Rp.via fun x=>(x.Wiped,x.Recs)
structure WldV where
  Shape:Shape
  Groups:List (List Drive)
  On:List Int
  Tapes:List TapeV
  Writes:Int
  Stop:Int
  Down:Bool
def WldV.Ok (x:WldV):Prop:=x.Shape.Ok∧I64ok x.Writes∧I64ok x.Stop
end Go.Wk
namespace Go.Wk
open Rp (sz own)
def OwnWV (w:World) (b:Nat) (T:TypeId) (z:WldV) (fp:List Nat):Prop:=
  ∃ A9 C9 A10 C10 A11 C11 f9 f10 f11,w.heap[b]? = some (.cells [.int .i64 z.Shape.Groups,.int .i64 z.Shape.Column,.int .i64 z.Shape.Data,.int .i64 z.Shape.Spare,.int .i64 z.Shape.Rows,.int .i64 z.Shape.Cap,.int .i64 z.Shape.Batch,.int .i64 z.Shape.Queue,.int .i64 z.Shape.Stage,.slice A9 z.Groups.length C9,.slice A10 z.On.length C10,.slice A11 z.Tapes.length C11,.int .i64 z.Writes,.int .i64 z.Stop,.bool z.Down].toArray T)∧own true w [.slice A9 z.Groups.length C9] z.Groups f9∧own true w [.slice A10 z.On.length C10] z.On f10∧own true w [.slice A11 z.Tapes.length C11] z.Tapes f11∧z.Ok∧fp=b::(f9++(f10++f11))
def MutWV (w w':World) (fp:List Nat) (b:Nat) (T:TypeId) (z:WldV):Prop:=
  Ext (· ∈ fp) w w'∧∃ fp',OwnWV w' b T z fp'∧fp'.Nodup∧∀ x∈fp',x∈fp∨w.heap.size≤x
end Go.Wk
namespace Go.Wk
open Rp (sz own)
def TapeV.t (x:TapeV):Tape:=⟨x.Wiped,x.Recs.map RecV.r⟩
def WldV.w (z:WldV):Wld:=⟨z.Shape,z.Groups,z.On,z.Tapes.map TapeV.t,z.Writes,z.Stop,z.Down⟩
section
variable {M:Nat→Prop}{w0 w w':World}{Δ F:List Rsc}{b:Nat}{T:TypeId}{z:Wld}{zv zv':WldV}{fp fv fq:List Nat}
def MutPV (w w':World) (fp:List Nat) (b:Nat) (T:TypeId) (z:WldV) (us:List RecV):Prop:=
  Ext (· ∈ fp) w w'∧∃ fp' fq,OwnWV w' b T z fp'∧Hv w' us fq∧(fp'++fq).Nodup∧∀ x∈fp'++fq,x∈fp∨w.heap.size≤x
end
end Go.Wk
namespace Go.Wk
open Rp (sz own)
def mkV (z:Wld) (ts:List TapeV):WldV:=⟨z.Shape,z.Groups,z.On,ts,z.Writes,z.Stop,z.Down⟩
def MutWT (ts:List TapeV) (w w':World) (fp:List Nat) (b:Nat) (T:TypeId) (z:Wld):Prop:=MutWV w w' fp b T (mkV z ts)
def MutPT (ts:List TapeV) (w w':World) (fp:List Nat) (b:Nat) (T:TypeId) (z:Wld) (us:List RecV):Prop:=MutPV w w' fp b T (mkV z ts) us
section
variable {M:Nat→Prop}{w0 w w' w1 w2:World}{Δ F:List Rsc}{b:Nat}{T:TypeId}{z z':Wld}{zv:WldV}{ts ts':List TapeV}{fp fp1 fq:List Nat}
theorem E0 (h1:zv.w=z) (h2:zv.Tapes=ts):zv=mkV z ts:=by subst h1; subst h2; rfl
theorem MutWV.t (h:MutWV w w' fp b T zv) (h1:zv.w=z) (h2:zv.Tapes=ts):MutWT ts w w' fp b T z:=by
  rw [E0 h1 h2] at h; exact h
theorem MutPV.t {us:List RecV}(h:MutPV w w' fp b T zv us) (h1:zv.w=z) (h2:zv.Tapes=ts):MutPT ts w w' fp b T z us:=by
  rw [E0 h1 h2] at h; exact h
end
end Go.Wk
namespace Go.Wk
open Rp (sz own)
section
variable {M:Nat→Prop}{w0 w:World}{Δ F:List Rsc}{α:Type}[Rp α]
theorem rf {β:Type}(L:List β) (i j:Nat) (h:i≠j) (a b c:β):((L.set i a).set j b).set i c=(L.set j b).set i c:=by
  rw [List.set_comm _ _ h,List.set_set]
end
end Go.Wk
namespace Go.Wk
open Rp (sz own)
section
variable {M:Nat→Prop}{w0 w w1 w2 w':World}{Δ F:List Rsc}
theorem Sep.s2Hol {α:Type}[Rp α] (h:Sep M w0 Δ F w) {i j:Nat}(hx:h.S2 i j w1) (k:Nat) {ad:Option Addr}{n cap kk b off:Nat}{xs:List α}{T:TypeId}{ck:List Value}{f1 f2:List Nat}(hk:Δ[k]? = some (hol ad n cap xs kk b off T ck f1 f2)) {ri rj:Rsc}(hi:Δ[i]? = some ri) (hj:Δ[j]? = some rj) (d1:Nat.beq k i=false) (d2:Nat.beq k j=false):At w1 b off ck:=
  Ext.atM hx (fun hm=>by
    rcases hm with hm | hm
    · rw [gV hi] at hm; exact h.apart (i:=i) (j:=k) hi hk d1 b (by simp [hol]) hm
    · rw [gV hj] at hm; exact h.apart (i:=j) (j:=k) hj hk d2 b (by simp [hol]) hm) (h.holAt k hk)
end
end Go.Wk
namespace Go.Wk
open Rp (sz own)
def uG {α:Type}[Rp α] (b:Nat) (T:TypeId) (x:α) (fp:List Nat):Rsc:=
  ⟨fp,fun w=>∃ cs f,w.heap[b]? = some (.cells (List.toArray cs) T)∧own true w cs x f∧fp=b::f,
   fun h k=>by
    obtain ⟨cs,f,h1,h2,h3⟩:=h
    subst h3
    exact ⟨cs,f,(k b σ).trans h1,Rp.st h2 fun c hc=>k c (by simp [hc]),rfl⟩,
   fun h c hc=>by
    obtain ⟨cs,f,h1,h2,h3⟩:=h
    subst h3
    rcases List.mem_cons.1 hc with rfl | hc
    · exact (Array.getElem?_eq_some_iff.1 h1).1
    · exact Rp.lt h2 c hc⟩
section
variable {M:Nat→Prop}{w0 w w':World}{Δ F:List Rsc}{α:Type}[Rp α]
theorem Gu {b:Nat}{f1 f2 f3:List Nat}:(b::(f1++(f2++f3))).Perm ((([b]++f3)++f2)++f1):=by
  have h1:(f1++(f2++f3)).Perm ((f3++f2)++f1):=List.perm_append_comm.trans (List.perm_append_comm.append_right f1)
  have h2:=h1.cons b
  simpa using h2
theorem Sep.close3 {β γ δ:Type}[Rp β] [Rp γ] [Rp δ] {x:α}(h:Sep M w0 Δ F w) (i j1 j2 j3:Nat) {b:Nat}{cs c1 c2 c3:List Value}{T:TypeId}{x1:β}{x2:γ}{x3:δ}{f1 f2 f3:List Nat}(hi:Δ[i]? = some (Wk.box b (.cells cs.toArray T)))
    (h1:Δ[j1]? = some (Wk.mine c1 x1 f1)) (h2:Δ[j2]? = some (Wk.mine c2 x2 f2)) (h3:Δ[j3]? = some (Wk.mine c3 x3 f3))
    (d1:Nat.beq j1 i=false) (d2:Nat.beq j2 i=false) (d3:Nat.beq j3 i=false) (d4:Nat.beq j2 j1=false) (d5:Nat.beq j3 j1=false) (d6:Nat.beq j3 j2=false)
    (ho:∀ w,own true w c1 x1 f1→own true w c2 x2 f2→own true w c3 x3 f3→own true w cs x (f1++(f2++f3))) :
    ∃ fp,Sep M w0 ((((Δ.set j3 gone).set j2 gone).set j1 gone).set i (uG b T x fp)) F w:=by
  have ne1:i≠j1:=fun e=>by subst e; simp at d1
  have ne2:i≠j2:=fun e=>by subst e; simp at d2
  have ne3:i≠j3:=fun e=>by subst e; simp at d3
  have ne4:j2≠j1:=fun e=>by subst e; simp at d4
  have ne5:j3≠j1:=fun e=>by subst e; simp at d5
  have ne6:j3≠j2:=fun e=>by subst e; simp at d6
  have hil:i<Δ.length:=(List.getElem?_eq_some_iff.1 hi).1
  have H1:=h.join2 i j3 hi h3 d3
  have g2:((Δ.set j3 gone).set i (cat (Wk.box b (.cells cs.toArray T)) (Wk.mine c3 x3 f3)))[j2]? = some (Wk.mine c2 x2 f2):=by
    rw [List.getElem?_set_ne ne2,List.getElem?_set_ne ne6]; exact h2
  have gi:((Δ.set j3 gone).set i (cat (Wk.box b (.cells cs.toArray T)) (Wk.mine c3 x3 f3)))[i]? = some (cat (Wk.box b (.cells cs.toArray T)) (Wk.mine c3 x3 f3)):=List.getElem?_set_self (by simpa using hil)
  have H2:=H1.join2 i j2 gi g2 d2
  rw [rf _ i j2 ne2] at H2
  have g3:(((Δ.set j3 gone).set j2 gone).set i (cat (cat (Wk.box b (.cells cs.toArray T)) (Wk.mine c3 x3 f3)) (Wk.mine c2 x2 f2)))[j1]? = some (Wk.mine c1 x1 f1):=by
    rw [List.getElem?_set_ne ne1,List.getElem?_set_ne ne4,List.getElem?_set_ne ne5]; exact h1
  have gi2:(((Δ.set j3 gone).set j2 gone).set i (cat (cat (Wk.box b (.cells cs.toArray T)) (Wk.mine c3 x3 f3)) (Wk.mine c2 x2 f2)))[i]? = some (cat (cat (Wk.box b (.cells cs.toArray T)) (Wk.mine c3 x3 f3)) (Wk.mine c2 x2 f2)):=List.getElem?_set_self (by simpa using hil)
  have H3:=H2.join2 i j1 gi2 g3 d1
  rw [rf _ i j1 ne1] at H3
  have gi3:((((Δ.set j3 gone).set j2 gone).set j1 gone).set i (cat (cat (cat (Wk.box b (.cells cs.toArray T)) (Wk.mine c3 x3 f3)) (Wk.mine c2 x2 f2)) (Wk.mine c1 x1 f1)))[i]? = some (cat (cat (cat (Wk.box b (.cells cs.toArray T)) (Wk.mine c3 x3 f3)) (Wk.mine c2 x2 f2)) (Wk.mine c1 x1 f1)):=List.getElem?_set_self (by simpa using hil)
  have hφ:(cat (cat (cat (Wk.box b (.cells cs.toArray T)) (Wk.mine c3 x3 f3)) (Wk.mine c2 x2 f2)) (Wk.mine c1 x1 f1)).φ w:=H3.r i gi3
  have hn:=H3.nodup1 gi3
  obtain ⟨⟨⟨q0,q3⟩,q2⟩,q1⟩:=hφ
  have H4:=H3.conv i (uG b T x (b::(f1++(f2++f3)))) gi3 ⟨cs,_,q0,ho w q1 q2 q3,rfl⟩ (fun c hc=>Gu.mem_iff.1 hc) (Gu.nodup_iff.2 hn)
  rw [List.set_set] at H4
  exact ⟨_,H4⟩
theorem Sep.open3 {x:α}{fp:List Nat}{b:Nat}{T:TypeId}(h:Sep M w0 Δ F w) (i:Nat) (hi:Δ[i]? = some (uG b T x fp)) :
    ∃ cs f,own true w cs x f∧Sep M w0 (Δ.set i (Wk.box b (.cells (List.toArray cs) T))++[gone,Wk.mine cs x f]) F w:=by
  have hφ:(uG b T x fp).φ w:=h.r i hi
  obtain ⟨cs,f,h1,h2,h3⟩:=hφ
  have hn:fp.Nodup:=h.nodup1 hi
  have hil:i<Δ.length:=(List.getElem?_eq_some_iff.1 hi).1
  subst h3
  have o':(Wk.box b (.cells cs.toArray T)).φ w:=h1
  have p':(Wk.mine cs x f).φ w:=h2
  have H1:=h.conv i (cat (Wk.box b (.cells cs.toArray T)) (Wk.mine cs x f)) hi ⟨o',p'⟩ (fun c hc=>hc) hn
  have H2:=H1.part i (r:=cat (Wk.box b (.cells cs.toArray T)) (Wk.mine cs x f)) (List.getElem?_set_self hil) [Wk.box b (.cells cs.toArray T),Wk.mine cs x f] (all_cons o' (all_cons p' σ)) (by simp [blocks,cat])
  have H3:=H2.perm (mE (by simpa using hil))
  rw [List.set_set] at H3
  exact ⟨cs,f,h2,H3⟩
end
def Shape.few (x:Shape):Prop := -5≤x.Groups∧x.Groups≤500 ∧ -5≤x.Column∧x.Column≤500 ∧ -5≤x.Data∧x.Data≤500 ∧ -5≤x.Spare∧x.Spare≤500 ∧ -5≤x.Rows∧x.Rows≤500 ∧ -5≤x.Cap∧x.Cap≤500 ∧ -5≤x.Batch∧x.Batch≤500 ∧ -5≤x.Queue∧x.Queue≤500 ∧ -5≤x.Stage∧x.Stage≤500
theorem BZ {x:Shape}(h1:1≤x.Groups∧x.Groups≤4) (h2:0≤x.Column∧x.Column≤2) (h3:1≤x.Data∧x.Data≤3) (h4:0≤x.Spare∧x.Spare≤2) (h5:1≤x.Rows∧x.Rows≤6) (h6:1≤x.Cap∧x.Cap≤6) (h7:1≤x.Batch∧x.Batch≤4) (h8:1≤x.Queue∧x.Queue≤6) (h9:0≤x.Stage∧x.Stage≤400):x.ok=true:=by
  unfold Shape.ok cOK rOK ins
  simp [h1.1,h1.2,h2.1,h2.2,h3.1,h3.2,h4.1,h4.2,h5.1,h5.2,h6.1,h6.2,h7.1,h7.2,h8.1,h8.2,h9.1,h9.2]
theorem eM {x:Shape}(h:x.ok=true):x.few:=by
  have:=aG h
  unfold Shape.few; omega
theorem EV {x:Shape}(h:x.few):x.Ok:=by
  unfold Shape.few at h
  unfold Shape.Ok I64ok; omega
def Rec.few (r:Rec):Prop:=r.Name.size≤9∧r.Rows.length≤20∧r.Data.length≤40∧r.Delta.length≤40 ∧ -100≤r.Kind∧r.Kind≤100 ∧ -100≤r.Seq∧r.Seq≤2000000000 ∧ -100≤r.Length∧r.Length≤2000 ∧ -100≤r.Group∧r.Group≤2000 ∧ -100≤r.Row∧r.Row≤2000
end Go.Wk
namespace Go.Wk
open Go.Proofs Rp Go.Proofs.Tryz
set_option maxRecDepth 10000
theorem pG {w:World}{code:List UInt8}{cA:Option Addr}{cC b:Nat}{cF:List Nat}{ct:Int}(hb:w.heap[b]? = some (.cells [.slice cA code.length cC,.int .i64 ct].toArray 114)) (cO:own false w [.slice cA code.length cC] code cF) (hd:∀ x∈cF,x≠b) (hct:0≤ct∧ct≤700000) (hcl:code.length≤1048576):Ret Tryz.prog 92 #[.pointer (some ⟨b,0,none⟩)] w fun v w'=>(∃ ct':Int,(ct≤ct'∧ct'≤ct+9)∧BoxTo w w' b (.cells [.slice cA code.length cC,.int .i64 ct'].toArray 114)∧∃ x:Shape,v=x.v∧x.ok=true):=by
 refine aH func92 Z ntmps92 Z (fun Q hQ hN=>?_);have H0:=(Sep.beginBox hb).look (r:=seen false [.slice cA code.length cC] code cF) cO (fun x hx hm=>hd x hx (by simpa [blocks,Wk.box] using hm));refine ac (bB ah Z zeroValue25 H0 (fun b1 w1 e1 g1 H1=>aa (ac (sM Z Z (fh ([2,3,1,4]) ah Z bH bG Z Z (by intro x hx; unfold I64ok; simp only [List.mem_cons,List.not_mem_nil,or_false] at hx; omega) σ σ H1 (fun b2 w2 e2 g2 H2=>sC func45 cI Z (bj (H2.box 0 Z) (az (H2.seen 0 Z)) (H2.offb 0 Z 0 Z) ω ω (az (H2.mine 2 Z)) (fun x hx e=>H2.apart (i:=0) (j:=2) Z Z Z x hx (by simp [Wk.box,e])) σ) (fun v1 w3 r1=>?_)))))));obtain ⟨⟨e3,hb1⟩,nx1,rfl,ny1⟩:=r1;have H3:=H2.putBox 0 Z e3 hb1
 try dsimp only[lNA,lCA,lSZ,lSS] at H3
 try simp only [List.mem_cons,List.not_mem_nil,or_false] at ny1
 have H3g:=H3.conv 2 gone Z trivial (by simp [gone]) (by simp [gone])
 try dsimp only[lNA,lCA,lSZ,lSS] at H3g
 have ny1B:1≤nx1∧nx1≤4:=by omega
 clear ny1
 refine sM Z Z (fh ([1,2,1,0]) ah Z bH bG Z Z (by intro x hx; unfold I64ok; simp only [List.mem_cons,List.not_mem_nil,or_false] at hx; omega) σ σ H3g (fun b3 w4 e4 g3 H4=>sC func45 cI Z (bj (H4.box 0 Z) (az (H4.seen 0 Z)) (H4.offb 0 Z 0 Z) ω ω (az (H4.mine 3 Z)) (fun x hx e=>H4.apart (i:=0) (j:=3) Z Z Z x hx (by simp [Wk.box,e])) σ) (fun v2 w5 r2=>?_)));obtain ⟨⟨e5,hb2⟩,nx2,rfl,ny2⟩:=r2;have H5:=H4.putBox 0 Z e5 hb2
 try dsimp only[lNA,lCA,lSZ,lSS] at H5
 try simp only [List.mem_cons,List.not_mem_nil,or_false] at ny2
 have H5g:=H5.conv 3 gone Z trivial (by simp [gone]) (by simp [gone])
 try dsimp only[lNA,lCA,lSZ,lSS] at H5g
 have ny2B:0≤nx2∧nx2≤2:=by omega
 clear ny2
 refine sM Z Z (fh ([2,1,3]) ah Z bH bG Z Z (by intro x hx; unfold I64ok; simp only [List.mem_cons,List.not_mem_nil,or_false] at hx; omega) σ σ H5g (fun b4 w6 e6 g4 H6=>sC func45 cI Z (bj (H6.box 0 Z) (az (H6.seen 0 Z)) (H6.offb 0 Z 0 Z) ω ω (az (H6.mine 4 Z)) (fun x hx e=>H6.apart (i:=0) (j:=4) Z Z Z x hx (by simp [Wk.box,e])) σ) (fun v3 w7 r3=>?_)));obtain ⟨⟨e7,hb3⟩,nx3,rfl,ny3⟩:=r3;have H7:=H6.putBox 0 Z e7 hb3
 try dsimp only[lNA,lCA,lSZ,lSS] at H7
 try simp only [List.mem_cons,List.not_mem_nil,or_false] at ny3
 have H7g:=H7.conv 4 gone Z trivial (by simp [gone]) (by simp [gone])
 try dsimp only[lNA,lCA,lSZ,lSS] at H7g
 have ny3B:1≤nx3∧nx3≤3:=by omega
 clear ny3
 refine sM Z Z (fh ([1,0,2]) ah Z bH bG Z Z (by intro x hx; unfold I64ok; simp only [List.mem_cons,List.not_mem_nil,or_false] at hx; omega) σ σ H7g (fun b5 w8 e8 g5 H8=>sC func45 cI Z (bj (H8.box 0 Z) (az (H8.seen 0 Z)) (H8.offb 0 Z 0 Z) ω ω (az (H8.mine 5 Z)) (fun x hx e=>H8.apart (i:=0) (j:=5) Z Z Z x hx (by simp [Wk.box,e])) σ) (fun v4 w9 r4=>?_)));obtain ⟨⟨e9,hb4⟩,nx4,rfl,ny4⟩:=r4;have H9:=H8.putBox 0 Z e9 hb4
 try dsimp only[lNA,lCA,lSZ,lSS] at H9
 try simp only [List.mem_cons,List.not_mem_nil,or_false] at ny4
 have H9g:=H9.conv 5 gone Z trivial (by simp [gone]) (by simp [gone])
 try dsimp only[lNA,lCA,lSZ,lSS] at H9g
 have ny4B:0≤nx4∧nx4≤2:=by omega
 clear ny4
 refine sM Z Z (fh ([2,3,4]) ah Z bH bG Z Z (by intro x hx; unfold I64ok; simp only [List.mem_cons,List.not_mem_nil,or_false] at hx; omega) σ σ H9g (fun b6 w10 e10 g6 H10=>sC func45 cI Z (bj (H10.box 0 Z) (az (H10.seen 0 Z)) (H10.offb 0 Z 0 Z) ω ω (az (H10.mine 6 Z)) (fun x hx e=>H10.apart (i:=0) (j:=6) Z Z Z x hx (by simp [Wk.box,e])) σ) (fun v5 w11 r5=>?_)));obtain ⟨⟨e11,hb5⟩,nx5,rfl,ny5⟩:=r5;have H11:=H10.putBox 0 Z e11 hb5
 try dsimp only[lNA,lCA,lSZ,lSS] at H11
 try simp only [List.mem_cons,List.not_mem_nil,or_false] at ny5
 have H11g:=H11.conv 6 gone Z trivial (by simp [gone]) (by simp [gone])
 try dsimp only[lNA,lCA,lSZ,lSS] at H11g
 have ny5B:2≤nx5∧nx5≤4:=by omega
 clear ny5
 refine sM Z Z (fh ([1,2,3]) ah Z bH bG Z Z (by intro x hx; unfold I64ok; simp only [List.mem_cons,List.not_mem_nil,or_false] at hx; omega) σ σ H11g (fun b7 w12 e12 g7 H12=>sC func45 cI Z (bj (H12.box 0 Z) (az (H12.seen 0 Z)) (H12.offb 0 Z 0 Z) ω ω (az (H12.mine 7 Z)) (fun x hx e=>H12.apart (i:=0) (j:=7) Z Z Z x hx (by simp [Wk.box,e])) σ) (fun v6 w13 r6=>?_)));obtain ⟨⟨e13,hb6⟩,nx6,rfl,ny6⟩:=r6;have H13:=H12.putBox 0 Z e13 hb6
 try dsimp only[lNA,lCA,lSZ,lSS] at H13
 try simp only [List.mem_cons,List.not_mem_nil,or_false] at ny6
 have H13g:=H13.conv 7 gone Z trivial (by simp [gone]) (by simp [gone])
 try dsimp only[lNA,lCA,lSZ,lSS] at H13g
 have ny6B:1≤nx6∧nx6≤3:=by omega
 clear ny6
 refine sM Z Z (fh ([1,2]) ah Z bH bG Z Z (by intro x hx; unfold I64ok; simp only [List.mem_cons,List.not_mem_nil,or_false] at hx; omega) σ σ H13g (fun b8 w14 e14 g8 H14=>sC func45 cI Z (bj (H14.box 0 Z) (az (H14.seen 0 Z)) (H14.offb 0 Z 0 Z) ω ω (az (H14.mine 8 Z)) (fun x hx e=>H14.apart (i:=0) (j:=8) Z Z Z x hx (by simp [Wk.box,e])) σ) (fun v7 w15 r7=>?_)));obtain ⟨⟨e15,hb7⟩,nx7,rfl,ny7⟩:=r7;have H15:=H14.putBox 0 Z e15 hb7
 try dsimp only[lNA,lCA,lSZ,lSS] at H15
 try simp only [List.mem_cons,List.not_mem_nil,or_false] at ny7
 have H15g:=H15.conv 8 gone Z trivial (by simp [gone]) (by simp [gone])
 try dsimp only[lNA,lCA,lSZ,lSS] at H15g
 have ny7B:1≤nx7∧nx7≤2:=by omega
 clear ny7
 refine sM Z Z (fh ([1,2,3]) ah Z bH bG Z Z (by intro x hx; unfold I64ok; simp only [List.mem_cons,List.not_mem_nil,or_false] at hx; omega) σ σ H15g (fun b9 w16 e16 g9 H16=>sC func45 cI Z (bj (H16.box 0 Z) (az (H16.seen 0 Z)) (H16.offb 0 Z 0 Z) ω ω (az (H16.mine 9 Z)) (fun x hx e=>H16.apart (i:=0) (j:=9) Z Z Z x hx (by simp [Wk.box,e])) σ) (fun v8 w17 r8=>?_)));obtain ⟨⟨e17,hb8⟩,nx8,rfl,ny8⟩:=r8;have H17:=H16.putBox 0 Z e17 hb8
 try dsimp only[lNA,lCA,lSZ,lSS] at H17
 try simp only [List.mem_cons,List.not_mem_nil,or_false] at ny8
 have H17g:=H17.conv 9 gone Z trivial (by simp [gone]) (by simp [gone])
 try dsimp only[lNA,lCA,lSZ,lSS] at H17g
 have ny8B:1≤nx8∧nx8≤3:=by omega
 clear ny8
 refine sM Z Z (fh ([60,20,100,400]) ah Z bH bG Z Z (by intro x hx; unfold I64ok; simp only [List.mem_cons,List.not_mem_nil,or_false] at hx; omega) σ σ H17g (fun b10 w18 e18 g10 H18=>sC func45 cI Z (bj (H18.box 0 Z) (az (H18.seen 0 Z)) (H18.offb 0 Z 0 Z) ω ω (az (H18.mine 10 Z)) (fun x hx e=>H18.apart (i:=0) (j:=10) Z Z Z x hx (by simp [Wk.box,e])) σ) (fun v9 w19 r9=>?_)));obtain ⟨⟨e19,hb9⟩,nx9,rfl,ny9⟩:=r9;have H19:=H18.putBox 0 Z e19 hb9
 try dsimp only[lNA,lCA,lSZ,lSS] at H19
 try simp only [List.mem_cons,List.not_mem_nil,or_false] at ny9
 have H19g:=H19.conv 10 gone Z trivial (by simp [gone]) (by simp [gone])
 try dsimp only[lNA,lCA,lSZ,lSS] at H19g
 have ny9B:20≤nx9∧nx9≤400:=by omega
 clear ny9
 refine sV Z (aP (cs:=[.int .i64 nx1,.int .i64 nx2,.int .i64 nx3,.int .i64 nx4,.int .i64 nx5,.int .i64 nx6,.int .i64 nx7,.int .i64 nx8,.int .i64 nx9]) CX Z κ) (aF ah bk Z Z Z Z H19g 1 Z Z (fun w20 e20 H20=>?_));dsimp only[lNA,lCA,lSZ,lSS,aI] at H20;refine aa (bc (hQ _ _ (cp results92 Z (ay bi Z bk Z (At.whole (H20.box 1 Z))) ?_)));exact ⟨_,ω,⟨H20.ext,H20.box 0 Z⟩,⟨nx1,nx2,nx3,nx4,nx5,nx6,nx7,nx8,nx9⟩,Z,BZ θ θ θ θ θ θ θ θ θ⟩
set_option maxHeartbeats 4000000 in
theorem p7 {w:World}{code:List UInt8}{cA:Option Addr}{cC b:Nat}{cF:List Nat}{ct:Int}(hb:w.heap[b]? = some (.cells [.slice cA code.length cC,.int .i64 ct].toArray 114)) (cO:own false w [.slice cA code.length cC] code cF) (hd:∀ x∈cF,x≠b) (hct:0≤ct∧ct≤690000) (hcl:code.length≤1048576):Ret Tryz.prog 33 #[.pointer (some ⟨b,0,none⟩)] w fun v w'=>(∃ ct':Int,(ct≤ct'∧ct'≤ct+11)∧BoxTo w w' b (.cells [.slice cA code.length cC,.int .i64 ct'].toArray 114)∧∃ x:Shape,v=x.v∧x.few):=by
 refine aH func33 Z ntmps33 Z (fun Q hQ hN=>?_);have H0:=(Sep.beginBox hb).look (r:=seen false [.slice cA code.length cC] code cF) cO (fun x hx hm=>hd x hx (by simpa [blocks,Wk.box] using hm));refine ac (bB ah Z zeroValue25 H0 (fun b1 w1 e1 g1 H1=>aa (ac (sM Z Z (sC func92 BV Z (pG (H1.box 0 Z) (az (H1.seen 0 Z)) (H1.offb 0 Z 0 Z) ω ω) (fun v1 w2 r1=>?_))))));obtain ⟨ct1,cb1,⟨e3,hb1⟩,sh1,rfl,hsh1⟩:=r1;have H2:=H1.putBox 0 Z e3 hb1
 try dsimp only[lNA,lCA,lSZ,lSS] at H2
 refine bB ah Z zeroValue25 H2 (fun b2 w3 e4 g2 H3=>aF ah bk Z Z Z Z H3 2 Z Z (fun w4 e5 H4=>?_));dsimp only[lNA,lCA,lSZ,lSS,aI] at H4;refine aa (ae (ac (sM Z Z (sC func46 uB Z (lj (H4.box 0 Z) (az (H4.seen 0 Z)) (H4.offb 0 Z 0 Z) ω ω ω) (fun v2 w5 r2=>?_)))));obtain ⟨⟨e6,hb2⟩,nx1,rfl,ny1⟩:=r2;have H5:=H4.putBox 0 Z e6 hb2
 try dsimp only[lNA,lCA,lSZ,lSS] at H5
 try simp only [List.mem_cons,List.not_mem_nil,or_false] at ny1
 refine aa (ax (ac (sR 2 Z (aa (aC Z (fun c1=>?_) (fun c1=>?_))))))
 ·refine am (sM Z Z (fh ([0,5]) ah Z bH bG Z Z (by intro x hx; unfold I64ok; simp only [List.mem_cons,List.not_mem_nil,or_false] at hx; omega) σ σ H5 (fun b3 w6 e7 g3 H6=>sC func45 cI Z (bj (H6.box 0 Z) (az (H6.seen 0 Z)) (H6.offb 0 Z 0 Z) ω ω (az (H6.mine 3 Z)) (fun x hx e=>H6.apart (i:=0) (j:=3) Z Z Z x hx (by simp [Wk.box,e])) σ) (fun v3 w7 r3=>?_))));obtain ⟨⟨e8,hb3⟩,nx2,rfl,ny2⟩:=r3;have H7:=H6.putBox 0 Z e8 hb3
  try dsimp only[lNA,lCA,lSZ,lSS] at H7
  try simp only [List.mem_cons,List.not_mem_nil,or_false] at ny2
  have H7g:=H7.conv 3 gone Z trivial (by simp [gone]) (by simp [gone])
  try dsimp only[lNA,lCA,lSZ,lSS] at H7g
  have ny2B:0≤nx2∧nx2≤5:=by omega
  clear ny2
  refine sF bi Z ts2 (fm ah ts2 Z Z Z H7g 2 Z Z (fun w8 e9 H8=>?_));dsimp only[lNA,lCA,lSZ,lSS,aI] at H8;refine aa (ac (sV Z (ak bi Z bk Z Z (At.whole (H8.box 2 Z))) (aF ah bk Z Z Z Z H8 1 Z Z (fun w9 e10 H9=>?_))));dsimp only[lNA,lCA,lSZ,lSS,aI] at H9;refine aa (bc (hQ _ _ (cp results33 Z (ay bi Z bk Z (At.whole (H9.box 1 Z))) ?_)));have sfw:=eM hsh1;unfold Shape.few at sfw;exact ⟨_,ω,⟨H9.ext,H9.box 0 Z⟩,⟨nx2,sh1.Column,sh1.Data,sh1.Spare,sh1.Rows,sh1.Cap,sh1.Batch,sh1.Queue,sh1.Stage⟩,Z,by unfold Shape.few; dsimp only; omega⟩
 ·refine ac (sR 2 Z (aa (aC Z (fun c2=>?_) (fun c2=>?_))))
  ·refine am (sM Z Z (fh ([-1,3]) ah Z bH bG Z Z (by intro x hx; unfold I64ok; simp only [List.mem_cons,List.not_mem_nil,or_false] at hx; omega) σ σ H5 (fun b4 w10 e11 g4 H10=>sC func45 cI Z (bj (H10.box 0 Z) (az (H10.seen 0 Z)) (H10.offb 0 Z 0 Z) ω ω (az (H10.mine 3 Z)) (fun x hx e=>H10.apart (i:=0) (j:=3) Z Z Z x hx (by simp [Wk.box,e])) σ) (fun v4 w11 r4=>?_))));obtain ⟨⟨e12,hb4⟩,nx3,rfl,ny3⟩:=r4;have H11:=H10.putBox 0 Z e12 hb4
   try dsimp only[lNA,lCA,lSZ,lSS] at H11
   try simp only [List.mem_cons,List.not_mem_nil,or_false] at ny3
   have H11g:=H11.conv 3 gone Z trivial (by simp [gone]) (by simp [gone])
   try dsimp only[lNA,lCA,lSZ,lSS] at H11g
   have ny3B : -1≤nx3∧nx3≤3:=by omega
   clear ny3
   refine sF bi Z ts2 (fm ah ts2 Z Z Z H11g 2 Z Z (fun w12 e13 H12=>?_));dsimp only[lNA,lCA,lSZ,lSS,aI] at H12;refine aa (ac (sV Z (ak bi Z bk Z Z (At.whole (H12.box 2 Z))) (aF ah bk Z Z Z Z H12 1 Z Z (fun w13 e14 H13=>?_))));dsimp only[lNA,lCA,lSZ,lSS,aI] at H13;refine aa (bc (hQ _ _ (cp results33 Z (ay bi Z bk Z (At.whole (H13.box 1 Z))) ?_)));have sfw:=eM hsh1;unfold Shape.few at sfw;exact ⟨_,ω,⟨H13.ext,H13.box 0 Z⟩,⟨sh1.Groups,nx3,sh1.Data,sh1.Spare,sh1.Rows,sh1.Cap,sh1.Batch,sh1.Queue,sh1.Stage⟩,Z,by unfold Shape.few; dsimp only; omega⟩
  ·refine ac (sR 2 Z (aa (aC Z (fun c3=>?_) (fun c3=>?_))))
   ·refine am (sM Z Z (fh ([0,4]) ah Z bH bG Z Z (by intro x hx; unfold I64ok; simp only [List.mem_cons,List.not_mem_nil,or_false] at hx; omega) σ σ H5 (fun b5 w14 e15 g5 H14=>sC func45 cI Z (bj (H14.box 0 Z) (az (H14.seen 0 Z)) (H14.offb 0 Z 0 Z) ω ω (az (H14.mine 3 Z)) (fun x hx e=>H14.apart (i:=0) (j:=3) Z Z Z x hx (by simp [Wk.box,e])) σ) (fun v5 w15 r5=>?_))));obtain ⟨⟨e16,hb5⟩,nx4,rfl,ny4⟩:=r5;have H15:=H14.putBox 0 Z e16 hb5
    try dsimp only[lNA,lCA,lSZ,lSS] at H15
    try simp only [List.mem_cons,List.not_mem_nil,or_false] at ny4
    have H15g:=H15.conv 3 gone Z trivial (by simp [gone]) (by simp [gone])
    try dsimp only[lNA,lCA,lSZ,lSS] at H15g
    have ny4B:0≤nx4∧nx4≤4:=by omega
    clear ny4
    refine sF bi Z ts2 (fm ah ts2 Z Z Z H15g 2 Z Z (fun w16 e17 H16=>?_));dsimp only[lNA,lCA,lSZ,lSS,aI] at H16;refine aa (ac (sV Z (ak bi Z bk Z Z (At.whole (H16.box 2 Z))) (aF ah bk Z Z Z Z H16 1 Z Z (fun w17 e18 H17=>?_))));dsimp only[lNA,lCA,lSZ,lSS,aI] at H17;refine aa (bc (hQ _ _ (cp results33 Z (ay bi Z bk Z (At.whole (H17.box 1 Z))) ?_)));have sfw:=eM hsh1;unfold Shape.few at sfw;exact ⟨_,ω,⟨H17.ext,H17.box 0 Z⟩,⟨sh1.Groups,sh1.Column,nx4,sh1.Spare,sh1.Rows,sh1.Cap,sh1.Batch,sh1.Queue,sh1.Stage⟩,Z,by unfold Shape.few; dsimp only; omega⟩
   ·refine ac (sR 2 Z (aa (aC Z (fun c4=>?_) (fun c4=>?_))))
    ·refine am (sM Z Z (fh ([-1,3]) ah Z bH bG Z Z (by intro x hx; unfold I64ok; simp only [List.mem_cons,List.not_mem_nil,or_false] at hx; omega) σ σ H5 (fun b6 w18 e19 g6 H18=>sC func45 cI Z (bj (H18.box 0 Z) (az (H18.seen 0 Z)) (H18.offb 0 Z 0 Z) ω ω (az (H18.mine 3 Z)) (fun x hx e=>H18.apart (i:=0) (j:=3) Z Z Z x hx (by simp [Wk.box,e])) σ) (fun v6 w19 r6=>?_))));obtain ⟨⟨e20,hb6⟩,nx5,rfl,ny5⟩:=r6;have H19:=H18.putBox 0 Z e20 hb6
     try dsimp only[lNA,lCA,lSZ,lSS] at H19
     try simp only [List.mem_cons,List.not_mem_nil,or_false] at ny5
     have H19g:=H19.conv 3 gone Z trivial (by simp [gone]) (by simp [gone])
     try dsimp only[lNA,lCA,lSZ,lSS] at H19g
     have ny5B : -1≤nx5∧nx5≤3:=by omega
     clear ny5
     refine sF bi Z ts2 (fm ah ts2 Z Z Z H19g 2 Z Z (fun w20 e21 H20=>?_));dsimp only[lNA,lCA,lSZ,lSS,aI] at H20;refine aa (ac (sV Z (ak bi Z bk Z Z (At.whole (H20.box 2 Z))) (aF ah bk Z Z Z Z H20 1 Z Z (fun w21 e22 H21=>?_))));dsimp only[lNA,lCA,lSZ,lSS,aI] at H21;refine aa (bc (hQ _ _ (cp results33 Z (ay bi Z bk Z (At.whole (H21.box 1 Z))) ?_)));have sfw:=eM hsh1;unfold Shape.few at sfw;exact ⟨_,ω,⟨H21.ext,H21.box 0 Z⟩,⟨sh1.Groups,sh1.Column,sh1.Data,nx5,sh1.Rows,sh1.Cap,sh1.Batch,sh1.Queue,sh1.Stage⟩,Z,by unfold Shape.few; dsimp only; omega⟩
    ·refine ac (sR 2 Z (aa (aC Z (fun c5=>?_) (fun c5=>?_))))
     ·refine am (sM Z Z (fh ([0,7,6]) ah Z bH bG Z Z (by intro x hx; unfold I64ok; simp only [List.mem_cons,List.not_mem_nil,or_false] at hx; omega) σ σ H5 (fun b7 w22 e23 g7 H22=>sC func45 cI Z (bj (H22.box 0 Z) (az (H22.seen 0 Z)) (H22.offb 0 Z 0 Z) ω ω (az (H22.mine 3 Z)) (fun x hx e=>H22.apart (i:=0) (j:=3) Z Z Z x hx (by simp [Wk.box,e])) σ) (fun v7 w23 r7=>?_))));obtain ⟨⟨e24,hb7⟩,nx6,rfl,ny6⟩:=r7;have H23:=H22.putBox 0 Z e24 hb7
      try dsimp only[lNA,lCA,lSZ,lSS] at H23
      try simp only [List.mem_cons,List.not_mem_nil,or_false] at ny6
      have H23g:=H23.conv 3 gone Z trivial (by simp [gone]) (by simp [gone])
      try dsimp only[lNA,lCA,lSZ,lSS] at H23g
      have ny6B:0≤nx6∧nx6≤7:=by omega
      clear ny6
      refine sF bi Z ts2 (fm ah ts2 Z Z Z H23g 2 Z Z (fun w24 e25 H24=>?_));dsimp only[lNA,lCA,lSZ,lSS,aI] at H24;refine aa (ac (sV Z (ak bi Z bk Z Z (At.whole (H24.box 2 Z))) (aF ah bk Z Z Z Z H24 1 Z Z (fun w25 e26 H25=>?_))));dsimp only[lNA,lCA,lSZ,lSS,aI] at H25;refine aa (bc (hQ _ _ (cp results33 Z (ay bi Z bk Z (At.whole (H25.box 1 Z))) ?_)));have sfw:=eM hsh1;unfold Shape.few at sfw;exact ⟨_,ω,⟨H25.ext,H25.box 0 Z⟩,⟨sh1.Groups,sh1.Column,sh1.Data,sh1.Spare,nx6,sh1.Cap,sh1.Batch,sh1.Queue,sh1.Stage⟩,Z,by unfold Shape.few; dsimp only; omega⟩
     ·refine ac (sR 2 Z (aa (aC Z (fun c6=>?_) (fun c6=>?_))))
      ·refine am (sM Z Z (fh ([0,7,6]) ah Z bH bG Z Z (by intro x hx; unfold I64ok; simp only [List.mem_cons,List.not_mem_nil,or_false] at hx; omega) σ σ H5 (fun b8 w26 e27 g8 H26=>sC func45 cI Z (bj (H26.box 0 Z) (az (H26.seen 0 Z)) (H26.offb 0 Z 0 Z) ω ω (az (H26.mine 3 Z)) (fun x hx e=>H26.apart (i:=0) (j:=3) Z Z Z x hx (by simp [Wk.box,e])) σ) (fun v8 w27 r8=>?_))));obtain ⟨⟨e28,hb8⟩,nx7,rfl,ny7⟩:=r8;have H27:=H26.putBox 0 Z e28 hb8
       try dsimp only[lNA,lCA,lSZ,lSS] at H27
       try simp only [List.mem_cons,List.not_mem_nil,or_false] at ny7
       have H27g:=H27.conv 3 gone Z trivial (by simp [gone]) (by simp [gone])
       try dsimp only[lNA,lCA,lSZ,lSS] at H27g
       have ny7B:0≤nx7∧nx7≤7:=by omega
       clear ny7
       refine sF bi Z ts2 (fm ah ts2 Z Z Z H27g 2 Z Z (fun w28 e29 H28=>?_));dsimp only[lNA,lCA,lSZ,lSS,aI] at H28;refine aa (ac (sV Z (ak bi Z bk Z Z (At.whole (H28.box 2 Z))) (aF ah bk Z Z Z Z H28 1 Z Z (fun w29 e30 H29=>?_))));dsimp only[lNA,lCA,lSZ,lSS,aI] at H29;refine aa (bc (hQ _ _ (cp results33 Z (ay bi Z bk Z (At.whole (H29.box 1 Z))) ?_)));have sfw:=eM hsh1;unfold Shape.few at sfw;exact ⟨_,ω,⟨H29.ext,H29.box 0 Z⟩,⟨sh1.Groups,sh1.Column,sh1.Data,sh1.Spare,sh1.Rows,nx7,sh1.Batch,sh1.Queue,sh1.Stage⟩,Z,by unfold Shape.few; dsimp only; omega⟩
      ·refine ac (sR 2 Z (aa (aC Z (fun c7=>?_) (fun c7=>?_))))
       ·refine am (sM Z Z (fh ([0,5,4]) ah Z bH bG Z Z (by intro x hx; unfold I64ok; simp only [List.mem_cons,List.not_mem_nil,or_false] at hx; omega) σ σ H5 (fun b9 w30 e31 g9 H30=>sC func45 cI Z (bj (H30.box 0 Z) (az (H30.seen 0 Z)) (H30.offb 0 Z 0 Z) ω ω (az (H30.mine 3 Z)) (fun x hx e=>H30.apart (i:=0) (j:=3) Z Z Z x hx (by simp [Wk.box,e])) σ) (fun v9 w31 r9=>?_))));obtain ⟨⟨e32,hb9⟩,nx8,rfl,ny8⟩:=r9;have H31:=H30.putBox 0 Z e32 hb9
        try dsimp only[lNA,lCA,lSZ,lSS] at H31
        try simp only [List.mem_cons,List.not_mem_nil,or_false] at ny8
        have H31g:=H31.conv 3 gone Z trivial (by simp [gone]) (by simp [gone])
        try dsimp only[lNA,lCA,lSZ,lSS] at H31g
        have ny8B:0≤nx8∧nx8≤5:=by omega
        clear ny8
        refine sF bi Z ts2 (fm ah ts2 Z Z Z H31g 2 Z Z (fun w32 e33 H32=>?_));dsimp only[lNA,lCA,lSZ,lSS,aI] at H32;refine aa (ac (sV Z (ak bi Z bk Z Z (At.whole (H32.box 2 Z))) (aF ah bk Z Z Z Z H32 1 Z Z (fun w33 e34 H33=>?_))));dsimp only[lNA,lCA,lSZ,lSS,aI] at H33;refine aa (bc (hQ _ _ (cp results33 Z (ay bi Z bk Z (At.whole (H33.box 1 Z))) ?_)));have sfw:=eM hsh1;unfold Shape.few at sfw;exact ⟨_,ω,⟨H33.ext,H33.box 0 Z⟩,⟨sh1.Groups,sh1.Column,sh1.Data,sh1.Spare,sh1.Rows,sh1.Cap,nx8,sh1.Queue,sh1.Stage⟩,Z,by unfold Shape.few; dsimp only; omega⟩
       ·refine ac (sR 2 Z (aa (aC Z (fun c8=>?_) (fun c8=>?_))))
        ·refine am (sM Z Z (fh ([0,7,6]) ah Z bH bG Z Z (by intro x hx; unfold I64ok; simp only [List.mem_cons,List.not_mem_nil,or_false] at hx; omega) σ σ H5 (fun b10 w34 e35 g10 H34=>sC func45 cI Z (bj (H34.box 0 Z) (az (H34.seen 0 Z)) (H34.offb 0 Z 0 Z) ω ω (az (H34.mine 3 Z)) (fun x hx e=>H34.apart (i:=0) (j:=3) Z Z Z x hx (by simp [Wk.box,e])) σ) (fun v10 w35 r10=>?_))));obtain ⟨⟨e36,hb10⟩,nx9,rfl,ny9⟩:=r10;have H35:=H34.putBox 0 Z e36 hb10
         try dsimp only[lNA,lCA,lSZ,lSS] at H35
         try simp only [List.mem_cons,List.not_mem_nil,or_false] at ny9
         have H35g:=H35.conv 3 gone Z trivial (by simp [gone]) (by simp [gone])
         try dsimp only[lNA,lCA,lSZ,lSS] at H35g
         have ny9B:0≤nx9∧nx9≤7:=by omega
         clear ny9
         refine sF bi Z ts2 (fm ah ts2 Z Z Z H35g 2 Z Z (fun w36 e37 H36=>?_));dsimp only[lNA,lCA,lSZ,lSS,aI] at H36;refine aa (ac (sV Z (ak bi Z bk Z Z (At.whole (H36.box 2 Z))) (aF ah bk Z Z Z Z H36 1 Z Z (fun w37 e38 H37=>?_))));dsimp only[lNA,lCA,lSZ,lSS,aI] at H37;refine aa (bc (hQ _ _ (cp results33 Z (ay bi Z bk Z (At.whole (H37.box 1 Z))) ?_)));have sfw:=eM hsh1;unfold Shape.few at sfw;exact ⟨_,ω,⟨H37.ext,H37.box 0 Z⟩,⟨sh1.Groups,sh1.Column,sh1.Data,sh1.Spare,sh1.Rows,sh1.Cap,sh1.Batch,nx9,sh1.Stage⟩,Z,by unfold Shape.few; dsimp only; omega⟩
        ·refine ac (sR 2 Z (aa (aC Z (fun c9=>?_) (fun c9=>?_))))
         ·refine am (sM Z Z (fh ([-1,401,0]) ah Z bH bG Z Z (by intro x hx; unfold I64ok; simp only [List.mem_cons,List.not_mem_nil,or_false] at hx; omega) σ σ H5 (fun b11 w38 e39 g11 H38=>sC func45 cI Z (bj (H38.box 0 Z) (az (H38.seen 0 Z)) (H38.offb 0 Z 0 Z) ω ω (az (H38.mine 3 Z)) (fun x hx e=>H38.apart (i:=0) (j:=3) Z Z Z x hx (by simp [Wk.box,e])) σ) (fun v11 w39 r11=>?_))));obtain ⟨⟨e40,hb11⟩,nx10,rfl,ny10⟩:=r11;have H39:=H38.putBox 0 Z e40 hb11
          try dsimp only[lNA,lCA,lSZ,lSS] at H39
          try simp only [List.mem_cons,List.not_mem_nil,or_false] at ny10
          have H39g:=H39.conv 3 gone Z trivial (by simp [gone]) (by simp [gone])
          try dsimp only[lNA,lCA,lSZ,lSS] at H39g
          have ny10B : -1≤nx10∧nx10≤401:=by omega
          clear ny10
          refine sF bi Z ts2 (fm ah ts2 Z Z Z H39g 2 Z Z (fun w40 e41 H40=>?_));dsimp only[lNA,lCA,lSZ,lSS,aI] at H40;refine aa (ac (sV Z (ak bi Z bk Z Z (At.whole (H40.box 2 Z))) (aF ah bk Z Z Z Z H40 1 Z Z (fun w41 e42 H41=>?_))));dsimp only[lNA,lCA,lSZ,lSS,aI] at H41;refine aa (bc (hQ _ _ (cp results33 Z (ay bi Z bk Z (At.whole (H41.box 1 Z))) ?_)));have sfw:=eM hsh1;unfold Shape.few at sfw;exact ⟨_,ω,⟨H41.ext,H41.box 0 Z⟩,⟨sh1.Groups,sh1.Column,sh1.Data,sh1.Spare,sh1.Rows,sh1.Cap,sh1.Batch,sh1.Queue,nx10⟩,Z,by unfold Shape.few; dsimp only; omega⟩
         ·refine au (ac (sV Z (ak bi Z bk Z Z (At.whole (H5.box 2 Z))) (aF ah bk Z Z Z Z H5 1 Z Z (fun w42 e43 H42=>?_))));dsimp only[lNA,lCA,lSZ,lSS,aI] at H42;refine aa (bc (hQ _ _ (cp results33 Z (ay bi Z bk Z (At.whole (H42.box 1 Z))) ?_)));have sfw:=eM hsh1;unfold Shape.few at sfw;exact ⟨_,ω,⟨H42.ext,H42.box 0 Z⟩,⟨sh1.Groups,sh1.Column,sh1.Data,sh1.Spare,sh1.Rows,sh1.Cap,sh1.Batch,sh1.Queue,sh1.Stage⟩,Z,by unfold Shape.few; dsimp only; omega⟩
end Go.Wk
namespace Go.Wk
open Rp (sz own)
section
variable {w0 w:World}{Δ F:List Rsc}{α:Type}[Rp α]
theorem Sep.res3N {β γ δ:Type}[Rp β] [Rp γ] [Rp δ] {x:α}(h:Sep No w0 Δ F w) (j1 j2 j3:Nat) {cs c1 c2 c3:List Value}{x1:β}{x2:γ}{x3:δ}{f1 f2 f3:List Nat}
    (h1:Δ[j1]? = some (Wk.mine c1 x1 f1)) (h2:Δ[j2]? = some (Wk.mine c2 x2 f2)) (h3:Δ[j3]? = some (Wk.mine c3 x3 f3))
    (d4:Nat.beq j2 j1=false) (d5:Nat.beq j3 j1=false) (d6:Nat.beq j3 j2=false)
    (ho:∀ w,own true w c1 x1 f1→own true w c2 x2 f2→own true w c3 x3 f3→own true w cs x (f1++(f2++f3))):Res w0 w cs x:=by
  have n1:=h.nodup1 h1
  have n2:=h.nodup1 h2
  have n3:=h.nodup1 h3
  have fr:∀ {j:Nat}{β:Type}[Rp β] {c:List Value}{y:β}{f:List Nat},Δ[j]? = some (Wk.mine c y f)→∀ c∈f,w0.heap.size≤c:=fun {j β _ c y f} hj a ha=>
    (h.new a (bJ.2 ⟨_,List.mem_of_getElem? hj,ha⟩)).resolve_left id
  refine ⟨f1++(f2++f3),ho w (h.mine j1 h1) (h.mine j2 h2) (h.mine j3 h3),?_,fun a ha=>?_⟩
  · refine List.nodup_append.2 ⟨n1,List.nodup_append.2 ⟨n2,n3,fun a ha c hc e=>?_⟩,fun a ha c hc e=>?_⟩
    · subst e; exact h.apart (i:=j2) (j:=j3) h2 h3 d6 a hc ha
    · subst e
      rcases List.mem_append.1 hc with hc | hc
      · exact h.apart (i:=j1) (j:=j2) h1 h2 d4 a hc ha
      · exact h.apart (i:=j1) (j:=j3) h1 h3 d5 a hc ha
  · rcases List.mem_append.1 ha with ha | ha
    · exact fr h1 a ha
    · rcases List.mem_append.1 ha with ha | ha
      · exact fr h2 a ha
      · exact fr h3 a ha
end
section
variable {P:Program}{n:Nat}{ops:Array Oper}{Q:Post}{S:World→Prop}{L:Env}{w w0:World}{M:Nat→Prop}{Δ F:List Rsc}{rest:List (Nat × Bool)}{d i:Nat}{ty:TypeId}{p:String}{af:Array Edge}{g:Option (Nat × Bool)}{α:Type}[Rp α]
theorem AY {t e:TypeId}{x:Operand}{z:Value}{bytes m:Nat}{y:α}(ho:ops.toList[i]? = some ⟨some d,.makeSlice t x x,ty,p,af,g⟩) (hw:Wn ops n L ⟨some d,.makeSlice t x x,ty,p,af,g⟩) (hn:Nat.blt d n=true) (ht:P.underlying t=some (.slice e)) (hT:Ty P e z (sz α) bytes) (hz:∀ w,own true w z.cells.toList y [])
    (hx:evL L x=some (.int .i64 m)) (h48:bytes*m≤281474976710656) (h63:m≤maxLen) (H:Sep M w0 Δ F w) (hS:∀ w',S w→Ext No w w'→S w')
    (k:∀ b w',Ext No w w'→w.heap.size≤b→Sep M w0 (Δ++[mine [.slice (some ⟨b,0,none⟩) (List.replicate m y).length m] (List.replicate m y) [b]]) F w'→DL P n ops Q S rest ((d,.slice (some ⟨b,0,none⟩) (List.replicate m y).length m)::L) w') :
    DL P n ops Q S ((i,false)::rest) L w:=by
  have e:(List.replicate m y).length=m:=List.length_replicate
  rw [e] at k
  exact Hj ho hw hn ht hT hz hx h48 h63 H hS k
end
theorem dP {cs vs:List Value}(h:vs.length=cs.length):aI cs 0 vs=vs:=by
  unfold aI
  rw [List.take_zero,List.nil_append,Nat.zero_add,h,List.drop_length,List.append_nil]
def kO:Block:=⟨0,List.replicate 4 0⟩
def freshD (s:Shape):Drive:=⟨false,List.replicate s.Rows.toNat kO⟩
def nB (s:Shape):List Drive:=List.replicate (s.Data+s.Spare).toNat (freshD s)
def pW (s:Shape):Wld:=⟨s,List.replicate (s.Groups+s.Column).toNat (nB s),[],List.replicate 2 default,0,-1,false⟩
def dg (s:Shape):WldResult:=if s.fault≠0 then ⟨s.fault,noWld⟩ else ⟨0,pW s⟩
theorem qs {s:Shape}(h:s.fault≠0):dg s=⟨s.fault,noWld⟩:=if_pos h
theorem py {s:Shape}(h:s.fault=0):dg s=⟨0,pW s⟩:=if_neg ω
theorem vS {s:Shape}(h:s.Ok):(pW s).Ok:=by
  unfold pW Wld.Ok I64ok; dsimp only
  exact ⟨h,ω,ω⟩
theorem tx {s:Shape}(h:s.ok=true):s.fault=0:=by unfold Shape.fault; rw [if_pos h]
theorem qK {s:Shape}(h:s.ok=true):s.Ok:=EV (eM h)
theorem mH {α:Type}{k:Nat}{x:α}:List.replicate k x++[x]=List.replicate (k+1) x:=List.replicate_succ'.symm
end Go.Wk
namespace Go.Wk
open Rp (sz own)
def Ic (b:Block):Prop:=b.Bytes.length≤10
def HY (d:Drive):Prop:=d.Blocks.length≤10∧∀ b∈d.Blocks,Ic b
def HT (g:List Drive):Prop:=g.length≤10∧∀ d∈g,HY d
def GG (G:List (List Drive)):Prop:=G.length≤10∧∀ g∈G,HT g
def HZ (n:Nat) (vs:List RecV):Prop:=vs.length≤n∧∀ v∈vs,v.r.few
def G2 (n:Nat) (ts:List TapeV):Prop:=∀ t∈ts,HZ n t.Recs
structure WldV.few (n:Nat) (z:WldV):Prop where
  sh:z.Shape.few
  gr:GG z.Groups
  on:z.On.length≤20
  tl:z.Tapes.length≤2
  tp:G2 n z.Tapes
  wr : -1≤z.Writes∧(z.Writes≤5∨z.Writes=1000000001)
  st : -2≤z.Stop∧z.Stop≤1000000100
theorem BN {n m:Nat}{ts:List TapeV}(h:G2 n ts) (hm:n≤m):G2 m ts:=fun t ht=>⟨Nat.le_trans (h t ht).1 hm,(h t ht).2⟩
end Go.Wk
namespace Go.Wk
open Rp (sz own)
theorem WldV.few.mono {n m:Nat}{z:WldV}(h:z.few n) (hm:n≤m):z.few m:=⟨h.sh,h.gr,h.on,h.tl,BN h.tp hm,h.wr,h.st⟩
end Go.Wk
namespace Go.Wk
open Rp (sz own)
theorem wZ {f:Nat→Nat}{m:Nat}:∀ {n:Nat},(∀ i,i<n→f i≤m)→gZ f n≤n*m
  | 0,_=>by simp [gZ]
  | n+1,h=>by
    have h1:=wZ (n:=n) fun i hi=>h i ω
    have h2:=h n ω
    rw [Nat.add_mul,Nat.one_mul]
    show gZ f n+f n≤_
    omega
theorem pO {α:Type}[Inhabited α] {f:α→Nat}{xs:List α}{m k:Nat}(hl:xs.length≤k) (h:∀ x∈xs,f x≤m):szL f xs≤k+k*m:=by
  unfold szL
  have h1:=wZ (f:=fun i=>f (xs.getD i default)) (m:=m) (n:=xs.length) fun i hi=>h _ (by rw [bI hi]; exact List.getElem_mem _)
  have h2:xs.length*m≤k*m:=Nat.mul_le_mul_right m hl
  omega
theorem DW {z:Wld}(gr:GG z.Groups) (on:z.On.length≤20) (tl:z.Tapes.length≤2) (tp:∀ t∈z.Tapes,t.Recs.length≤500∧∀ r∈t.Recs,r.few):eC z≤200000:=by
  have h1:szL (szL kv) z.Groups≤10+10*1220:=pO gr.1 fun g hg=>by
    refine Nat.le_trans (pO (m:=110+11) (gr.2 g hg).1 fun d hd=>?_) ω
    exact Nat.le_trans (pO (m:=10) ((gr.2 g hg).2 d hd).1 fun b hb=>((gr.2 g hg).2 d hd).2 b hb) ω
  have h2:szL mD z.Tapes≤2+2*60500:=pO tl fun t ht=>by
    refine Nat.le_trans (pO (m:=120) (tp t ht).1 fun r hr=>?_) ω
    have h3:=(tp t ht).2 r hr
    unfold Rec.few at h3
    unfold ff; omega
  unfold eC; omega
end Go.Wk

namespace Go.Wk
section
variable {z y z1:Wld}{r:Rec}{t:Nat}
theorem EX (hT:z.Tapes.length=2):r∈eE z↔r∈(z.Tapes.getD 0 default).Recs∨r∈(z.Tapes.getD 1 default).Recs:=by
  rw [zM s5,AP rfl,Ee hT,List.mem_append]
end
end Go.Wk
namespace Go.Wk
section
variable {rows:List (List UInt8)}{g:Int}{r:Rec}
theorem fd {z:Wld}(h:z.Stop = -1):bv z=false:=by unfold bv; rw [h]; rfl
theorem Be {z:Wld}{k i:Nat}{b:Block}{row:Nat}(hp:z.Stop = -1) (hg:k<z.Groups.length) (hi:i<(z.Groups.getD k []).length):aV (dT k i row b z) k i=⟨(aV z k i).Wiped,(aV z k i).Blocks.set row b⟩:=by
  rw [sH (fd hp)]
  have e:(hX (jx k i row b z)).Groups=z.Groups.set k ((z.Groups.getD k []).set i ⟨(aV z k i).Wiped,(aV z k i).Blocks.set row b⟩):=rfl
  have e2:(z.Groups.set k ((z.Groups.getD k []).set i ⟨(aV z k i).Wiped,(aV z k i).Blocks.set row b⟩)).getD k []=(z.Groups.getD k []).set i ⟨(aV z k i).Wiped,(aV z k i).Blocks.set row b⟩:=by rw [bM,if_pos ⟨rfl,hg⟩]
  have e3:aV (hX (jx k i row b z)) k i=((hX (jx k i row b z)).Groups.getD k []).getD i default:=rfl
  rw [e3,e,e2,bM,if_pos ⟨rfl,hi⟩]
end
theorem z5 {z:Wld}(hs:z.Shape.ok=true) (hG:aN z=true):GG z.Groups:=by
  have sbd:=aG hs
  obtain ⟨h1,h2⟩:=cw hG
  refine ⟨ω,fun l hl=>?_⟩
  obtain ⟨k,hk,rfl⟩:=List.getElem_of_mem hl
  obtain ⟨h3,h4⟩:=h2 k ω
  rw [bI hk] at h3 h4
  refine ⟨ω,fun d hd=>?_⟩
  obtain ⟨i,hi,rfl⟩:=List.getElem_of_mem hd
  obtain ⟨h5,h6⟩:=h4 i ω
  rw [bI hi] at h5 h6
  refine ⟨ω,fun b hb=>?_⟩
  obtain ⟨j,hj,rfl⟩:=List.getElem_of_mem hb
  have h7:=(eU (h6 j ω)).2.2
  rw [bI hj] at h7
  show _≤10
  omega
end Go.Wk
namespace Go.Wk
def bE (z:Wld) (g:Int):WldResult:=
  if upF z≠0 then ⟨upF z,noWld⟩ else if ins g 0 (z.Shape.Groups+z.Shape.Column-1)=true then
    if g∈z.On then ⟨0,z⟩ else if (z.On.length:Int)=z.Shape.Cap then ⟨7,noWld⟩ else ⟨0,⟨z.Shape,z.Groups,z.On++[g],z.Tapes,z.Writes,z.Stop,z.Down⟩⟩
  else ⟨3,noWld⟩
section
variable {z:Wld}{st g:Int}
theorem yD (h:upF z≠0):bE z g=⟨upF z,noWld⟩:=if_pos h
theorem zk (h:upF z=0) (h2:ins g 0 (z.Shape.Groups+z.Shape.Column-1)=false):bE z g=⟨3,noWld⟩:=by rw [bE,if_neg ω,if_neg (by rw [h2]; simp)]
theorem rY (h:upF z=0) (h2:ins g 0 (z.Shape.Groups+z.Shape.Column-1)=true) (h3:g∈z.On):bE z g=⟨0,z⟩:=by rw [bE,if_neg ω,if_pos h2,if_pos h3]
theorem wR (h:upF z=0) (h2:ins g 0 (z.Shape.Groups+z.Shape.Column-1)=true) (h3:¬ g∈z.On) (h4:(z.On.length:Int)=z.Shape.Cap):bE z g=⟨7,noWld⟩:=by rw [bE,if_neg ω,if_pos h2,if_neg h3,if_pos h4]
theorem qt (h:upF z=0) (h2:ins g 0 (z.Shape.Groups+z.Shape.Column-1)=true) (h3:¬ g∈z.On) (h4:¬ (z.On.length:Int)=z.Shape.Cap):bE z g=⟨0,⟨z.Shape,z.Groups,z.On++[g],z.Tapes,z.Writes,z.Stop,z.Down⟩⟩:=by rw [bE,if_neg ω,if_pos h2,if_neg h3,if_neg h4]
end
section
variable {g:Int}{r:Rec}{y z:Wld}
theorem uV (hs:z.Shape.ok=true) (hG:aN z=true) (hO:tR z=true) (hT:z.Tapes.length=2) (ht:dN z=0) (i1:0≤z.Writes∧z.Writes≤1000000000) (i2 : -1≤z.Stop∧z.Stop≤1000000000):cz z=0:=by
  unfold cz
  have f0:z.Shape.fault=0:=tx hs
  rw [if_neg ω,if_pos (by rw [hG,hO,hT]; rfl),if_neg ω,if_pos (by rw [aJ.2 i1,aJ.2 i2]; rfl)]
theorem mW (h1:y.Shape=z.Shape) (h2:y.Groups=z.Groups):aN y=aN z:=by
  unfold aN; rw [h1,h2]
theorem wy (h1:y.Shape=z.Shape) (h2:y.Tapes=z.Tapes):dN y=dN z:=by
  unfold dN; rw [h1,h2]
end
section
variable {P:Program}{n:Nat}{Q:Post}{L:Env}{w w0:World}{M:Nat→Prop}{Δ F:List Rsc}{c:Code}
theorem Gc {γ:Type}(H:Sep M w0 Δ F w) (i:Nat) (R:γ→List Nat→Rsc) (g0:γ) (fp0:List Nat) (hi:Δ[i]? = some (R g0 fp0)) (E2:Env) (h2:sub L E2) (E:γ→Env) (I:γ→Prop) (μ:γ→Nat) (hs:sub L (E g0)) (h0:I g0)
  (round:∀ g fp w,Sep M w0 (Δ.set i (R g fp)) F w→I g→W P n c (again (fun x:γ × List Nat=>E x.1++E2) (fun x w'=>Sep M w0 (Δ.set i (R x.1 x.2)) F w'∧I x.1) (fun x=>μ x.1) (g,fp) Q) (E g++E2) w):W P n (.loop c) Q L w:=
 bP (fun x:γ × List Nat=>E x.1++E2) (fun x w'=>Sep M w0 (Δ.set i (R x.1 x.2)) F w'∧I x.1) (fun x=>μ x.1) (g0,fp0) (iE hs h2) ⟨by rw [lu hi]; exact H,h0⟩ fun x w h=>round x.1 x.2 w h.1 h.2
end
end Go.Wk
namespace Go.Wk
open Go.Proofs Rp Go.Proofs.Tryz
set_option maxRecDepth 10000
theorem oA {w:World}{z:Wld}{zA9 zA10 zA11:Option Addr}{zC9 zC10 zC11:Nat}{g:Int}(zK:z.Ok) (zS9:Sees w [.slice zA9 z.Groups.length zC9] z.Groups) (zS10:Sees w [.slice zA10 z.On.length zC10] z.On) (zS11:Sees w [.slice zA11 z.Tapes.length zC11] z.Tapes) (hb:eC z≤1048576):Ret Tryz.prog 14 #[z.val zA9 zC9 zA10 zC10 zA11 zC11,.int .i64 g] w fun v w'=>Ext No w w'∧(∃ A10 C10 A11 C11 A12 C12,v=(bE z g).val A10 C10 A11 C11 A12 C12∧Res w w' [.int .i64 (bE z g).Code,.int .i64 (bE z g).Wd.Shape.Groups,.int .i64 (bE z g).Wd.Shape.Column,.int .i64 (bE z g).Wd.Shape.Data,.int .i64 (bE z g).Wd.Shape.Spare,.int .i64 (bE z g).Wd.Shape.Rows,.int .i64 (bE z g).Wd.Shape.Cap,.int .i64 (bE z g).Wd.Shape.Batch,.int .i64 (bE z g).Wd.Shape.Queue,.int .i64 (bE z g).Wd.Shape.Stage,.slice A10 (bE z g).Wd.Groups.length C10,.slice A11 (bE z g).Wd.On.length C11,.slice A12 (bE z g).Wd.Tapes.length C12,.int .i64 (bE z g).Wd.Writes,.int .i64 (bE z g).Wd.Stop,.bool (bE z g).Wd.Down] (bE z g)):=by
 have zK2:=zK;unfold Wld.Ok Shape.Ok at zK2
 try unfold I64ok at zK2
 try unfold maxLen at zK2
 have zL9:=sL zS9;obtain ⟨zF9,zO9⟩:=zS9;have zL10:=sL zS10;obtain ⟨zF10,zO10⟩:=zS10;have zL11:=sL zS11;obtain ⟨zF11,zO11⟩:=zS11;refine aH func14 Z ntmps14 Z (fun Q hQ hN=>?_);have H0:=Sep.start (ab zO9 (ab zO10 (ab zO11 aA)));refine ac (bu ah Z Z H0 (fun b1 w1 e1 g1 H1=>bB ah Z zeroValue33 H1 (fun b2 w2 e2 g2 H2=>aa (ac (sV Z (ak be Z cy Z Z (At.whole (H2.box 0 Z))) (sE func57 jH Z (dB η (H2.sees 0 Z) (H2.sees 1 Z) (H2.sees 2 Z)) H2 (fun w3 e3 H3=>sA Z Z (aa (ae (ax (ac (sR 3 Z (aa (aC Z (fun c1=>?_) (fun c1=>?_)))))))))))))))
 ·refine ac (sM Z Z (sV Z (aP ce Z Z) (aF ah cW Z Z Z Z H3 1 Z Z (fun w4 e4 H4=>?_))));dsimp only[lNA,lCA,lSZ,lSS,aI] at H4;refine aa (bc (hQ _ _ (cp results14 Z (ay eI Z cW Z (At.whole (H4.box 1 Z))) ?_)));rw [yD ω];exact ⟨H4.ext,none,0,none,0,none,0,Z,en (by unfold I64ok; have:=qG (z:=z); (try dsimp only); omega)⟩
 ·refine ae ?_;have hs:=(bx (hZ (w:=z) ω).1).1;refine am (sF be Z bk (sV Z (ak bi Z bk Z Z (At.sub (H3.box 0 Z) 9)) (sM Z Z (sE func58 fM Z (bD (by first | assumption | exact (hw (by simp_all)).1 | exact (hw (by simp_all)).2 | (have hws:=(hw (by simp_all)).1; rw [← gR hws]; simp_all; done) | (simp_all; done))) H3 (fun w5 e5 H5=>sV Z (bh Z) (sA Z Z (aa (cx Z (fun c2=>?_) (fun c2=>?_)))))))))
  ·refine ac (sV Z (aP ce Z Z) (aF ah cW Z Z Z Z H5 1 Z Z (fun w6 e6 H6=>?_)));dsimp only[lNA,lCA,lSZ,lSS,aI] at H6;refine aa (bc (hQ _ _ (cp results14 Z (ay eI Z cW Z (At.whole (H6.box 1 Z))) ?_)));rw [zk ω (fI c2)];exact ⟨H6.ext,none,0,none,0,none,0,Z,en (by unfold I64ok; have:=trivial; (try dsimp only); omega)⟩
  ·refine ae (cb (S:=Ext No _) (oQ [1,2,5,7,9,11,15,17,19,12,21,23,24]) κ κ κ Z (fun _=>Ext.refl.drawn _) (fun q1=>?_));have H7:=H5.drawn q1;refine dM Z Z Z (dC func59 nA Z (es (H7.box 0 Z) η (H7.sees 0 Z) (H7.sees 1 Z) (H7.sees 2 Z)) (fun v3 w7 r3=>?_));obtain ⟨e7,rfl⟩:=r3;have H8:=H7.to e7;refine dV Z Z (fun zw hx=>bh Z) (dM Z Z Z (fY (t:=25) Z (fun hg1=>?_) (fun hg1=>?_)))
   ·try simp only [decide_eq_true_eq,decide_eq_false_iff_not] at hg1
    refine bp Z (wg Z Z Z) Z Z (fun zw hx=>ag be Z cG Z Z) (bp Z (wg Z Z Z) Z Z (fun zw hx=>aj bH Z Z (al (hx.heap (H7.box 0 Z)) Z)) (bp Z (wg Z Z Z) Z Z (fun zw hx=>ag be Z bk Z Z) (bp Z (wg Z Z Z) Z Z (fun zw hx=>ag bi Z ts2 Z Z) (bp Z (wg Z Z Z) Z Z (fun zw hx=>aj tu2 Z Z (al (hx.heap (H7.box 0 Z)) Z)) (dh Z (wg Z Z Z) Z Z (aR func60 Z iK Z) (fc (H8.sees 1 Z)) (fun hS _ _ r _=>hS.trans r.1.no) (fun v4 w8 r4=>?_))))));obtain ⟨e8,rfl⟩:=r4;have H9:=H8.to e8;refine bp Z (wg Z Z Z) Z Z (fun zw hx=>cT Z Z) (dV Z Z (fun zw hx=>aY Z Z) (aW Z ah Z Z (bg Z) (bb (aC Z (fun c3=>?_) (fun c3=>?_)))))
    ·refine ac (sV Z (aP ce Z Z) (aF ah cW Z Z Z Z H9 1 Z Z (fun w9 e9 H10=>?_)));dsimp only[lNA,lCA,lSZ,lSS,aI] at H10;refine aa (bc (hQ _ _ (cp results14 Z (ay eI Z cW Z (At.whole (H10.box 1 Z))) ?_)));rw [wR ω (aU c2) (by simp_all) (by first | omega | simp_all)];exact ⟨H10.ext,none,0,none,0,none,0,Z,en (by unfold I64ok; have:=trivial; (try dsimp only); omega)⟩
    ·refine au (ac (sV Z (ak be Z cy Z Z (At.whole (H9.box 0 Z))) (sC func48 fR Z (bU η (H9.sees 0 Z) (H9.sees 1 Z) (H9.sees 2 Z) ξ) (fun v5 w10 r5=>?_))));obtain ⟨e10,sa1,sk1,sa2,sk2,sa3,sk3,rfl,r5⟩:=r5;obtain ⟨fp1,H11⟩:=H9.res e10 r5;obtain ⟨sf1,sf2,sf3,sq1,sok1,so1,so2,so3⟩:=ib (H11.mine 2 Z);have H12:=H11.part 2 Z [mine [.slice _ z.Groups.length _] z.Groups sf1,mine [.slice _ z.On.length _] z.On sf2,mine [.slice _ z.Tapes.length _] z.Tapes sf3] (all_cons so1 (all_cons so2 (all_cons so3 σ))) (by simp [blocks,mine,sq1])
     try dsimp only[lNA,lCA,lSZ,lSS] at H12
     refine bB ah Z zeroValue31 H12 (fun b3 w11 e11 g3 H13=>aF ah cy Z Z Z Z H13 6 Z Z (fun w12 e12 H14=>?_));dsimp only[lNA,lCA,lSZ,lSS,aI] at H14;refine aa (ae (ac (sM Z Z (sE func59 nA Z (es (H14.box 0 Z) η (H14.sees 0 Z) (H14.sees 1 Z) (H14.sees 2 Z)) H14 (fun w13 e13 H15=>sV Z (bh Z) (aa (cx Z (fun c4=>?_) (fun c4=>?_))))))))
     ·have hgi:=aJ.1 (aU c2);have sbd:=aG hs;have hol:z.On.length≤1048576:=by unfold eC at hb; omega
      refine am (sF be Z cG (sLd bH (H15.box 6 Z) Z (sM Z Z (eB ah Z bH bG Z Z Z Z H15 (fun b4 w14 e14 g4 H16=>jq ah Z bH bG Z Z Z H16 4 7 Z Z (tP (by first | assumption | (unfold I64ok; omega))) (by unfold maxLen; omega) ω (fun v7 w15 fp2 H17=>sV Z (ag be Z cG Z Z) ?_))))));obtain ⟨a1,k1,q2⟩:=an (H17.mine 4 Z);cases q2;refine fm ah cG Z Z Z H17 6 Z Z (fun w16 e15 H18=>?_);dsimp only[lNA,lCA,lSZ,lSS,aI] at H18;refine aa (ac (sV Z (ak be Z cy Z Z (At.whole (H18.box 6 Z))) (sV Z (aP ce Z Z) (aF ah cW Z Z Z Z H18 1 Z Z (fun w17 e16 H19=>?_)))));dsimp only[lNA,lCA,lSZ,lSS,aI] at H19;refine aa (bc (hQ _ _ (cp results14 Z (ay eI Z cW Z (At.whole (H19.box 1 Z))) ?_)));rw [qt ω (aU c2) (by simp_all) (by first | omega | simp_all)];exact ⟨H19.ext,_,_,_,_,_,_,Z,WldResult.out (x:=⟨0,⟨z.Shape,z.Groups,z.On++[g],z.Tapes,z.Writes,z.Stop,z.Down⟩⟩) (H19.sub (.cons _ (.cons _ (.cons _ (.cons_cons _ (.cons_cons _ (.cons_cons _ (.cons _ (.cons _ List.Sublist.slnil))))))))) ⟨by show I64ok 0; unfold I64ok; omega,zK⟩⟩
     ·refine au (ac (sV Z (ak be Z cy Z Z (At.whole (H15.box 6 Z))) (sV Z (aP ce Z Z) (aF ah cW Z Z Z Z H15 1 Z Z (fun w18 e17 H20=>?_)))));dsimp only[lNA,lCA,lSZ,lSS,aI] at H20;refine aa (bc (hQ _ _ (cp results14 Z (ay eI Z cW Z (At.whole (H20.box 1 Z))) ?_)));rw [rY ω (aU c2) (by simp_all)];exact ⟨H20.ext,_,_,_,_,_,_,Z,WldResult.out (x:=⟨0,z⟩) (H20.sub (.cons _ (.cons _ (.cons _ (.cons_cons _ (.cons_cons _ (.cons_cons _ (.cons _ List.Sublist.slnil)))))))) ⟨by show I64ok 0; unfold I64ok; omega,zK⟩⟩
   ·try simp only [decide_eq_true_eq,decide_eq_false_iff_not] at hg1
    refine dR 7 Z (dV Z Z (fun zw hx=>bm Z Z) (aW Z ah Z Z (bg Z) (bb (md Z (au (ac (sV Z (ak be Z cy Z Z (At.whole (H8.box 0 Z))) (sC func48 fR Z (bU η (H8.sees 0 Z) (H8.sees 1 Z) (H8.sees 2 Z) ξ) (fun v8 w19 r7=>?_)))))))));obtain ⟨e18,sa4,sk4,sa5,sk5,sa6,sk6,rfl,r7⟩:=r7;obtain ⟨fp3,H21⟩:=H8.res e18 r7;obtain ⟨sf4,sf5,sf6,sq2,sok2,so4,so5,so6⟩:=ib (H21.mine 2 Z);have H22:=H21.part 2 Z [mine [.slice _ z.Groups.length _] z.Groups sf4,mine [.slice _ z.On.length _] z.On sf5,mine [.slice _ z.Tapes.length _] z.Tapes sf6] (all_cons so4 (all_cons so5 (all_cons so6 σ))) (by simp [blocks,mine,sq2])
    try dsimp only[lNA,lCA,lSZ,lSS] at H22
    refine bB ah Z zeroValue31 H22 (fun b5 w20 e19 g5 H23=>aF ah cy Z Z Z Z H23 6 Z Z (fun w21 e20 H24=>?_));dsimp only[lNA,lCA,lSZ,lSS,aI] at H24;refine aa (ae (ac (sM Z Z (sE func59 nA Z (es (H24.box 0 Z) η (H24.sees 0 Z) (H24.sees 1 Z) (H24.sees 2 Z)) H24 (fun w22 e21 H25=>sV Z (bh Z) (aa (cx Z (fun c5=>?_) (fun c5=>?_))))))))
    ·have hgi:=aJ.1 (aU c2);have sbd:=aG hs;have hol:z.On.length≤1048576:=by unfold eC at hb; omega
     refine am (sF be Z cG (sLd bH (H25.box 6 Z) Z (sM Z Z (eB ah Z bH bG Z Z Z Z H25 (fun b6 w23 e22 g6 H26=>jq ah Z bH bG Z Z Z H26 4 7 Z Z (tP (by first | assumption | (unfold I64ok; omega))) (by unfold maxLen; omega) ω (fun v10 w24 fp4 H27=>sV Z (ag be Z cG Z Z) ?_))))));obtain ⟨a2,k2,q3⟩:=an (H27.mine 4 Z);cases q3;refine fm ah cG Z Z Z H27 6 Z Z (fun w25 e23 H28=>?_);dsimp only[lNA,lCA,lSZ,lSS,aI] at H28;refine aa (ac (sV Z (ak be Z cy Z Z (At.whole (H28.box 6 Z))) (sV Z (aP ce Z Z) (aF ah cW Z Z Z Z H28 1 Z Z (fun w26 e24 H29=>?_)))));dsimp only[lNA,lCA,lSZ,lSS,aI] at H29;refine aa (bc (hQ _ _ (cp results14 Z (ay eI Z cW Z (At.whole (H29.box 1 Z))) ?_)));rw [qt ω (aU c2) (by simp_all) (by first | omega | simp_all)];exact ⟨H29.ext,_,_,_,_,_,_,Z,WldResult.out (x:=⟨0,⟨z.Shape,z.Groups,z.On++[g],z.Tapes,z.Writes,z.Stop,z.Down⟩⟩) (H29.sub (.cons _ (.cons _ (.cons _ (.cons_cons _ (.cons_cons _ (.cons_cons _ (.cons _ (.cons _ List.Sublist.slnil))))))))) ⟨by show I64ok 0; unfold I64ok; omega,zK⟩⟩
    ·refine au (ac (sV Z (ak be Z cy Z Z (At.whole (H25.box 6 Z))) (sV Z (aP ce Z Z) (aF ah cW Z Z Z Z H25 1 Z Z (fun w27 e25 H30=>?_)))));dsimp only[lNA,lCA,lSZ,lSS,aI] at H30;refine aa (bc (hQ _ _ (cp results14 Z (ay eI Z cW Z (At.whole (H30.box 1 Z))) ?_)));rw [rY ω (aU c2) (by simp_all)];exact ⟨H30.ext,_,_,_,_,_,_,Z,WldResult.out (x:=⟨0,z⟩) (H30.sub (.cons _ (.cons _ (.cons _ (.cons_cons _ (.cons_cons _ (.cons_cons _ (.cons _ List.Sublist.slnil)))))))) ⟨by show I64ok 0; unfold I64ok; omega,zK⟩⟩
end Go.Wk
namespace Go.Wk
open Rp (own)
section
variable {α:Type}[Rp α] {M:Nat→Prop}{w0 w:World}{Δ F:List Rsc}
theorem Sep.packDr (h:Sep M w0 Δ F w) (j:Nat) {a:Option Addr}{n c:Nat}{bs:List Block}{f:List Nat}(q:Bool) (hj:Δ[j]? = some (Wk.mine [.slice a n c] bs f)) :
    Sep M w0 (Δ.set j (Wk.mine [.bool q,.slice a n c] (⟨q,bs⟩:Drive) f)) F w:=by
  have ho:=h.mine j hj
  obtain rfl:=fD ho
  have hn:f.Nodup:=h.nodup1 hj
  exact h.set hj (q:=Wk.mine [.bool q,.slice a bs.length c] (⟨q,bs⟩:Drive) f) Ext.refl (Drive.own_mk (x:=⟨q,bs⟩) trivial ho) hn (fun b hb => .inl hb)
theorem Sep.relen (h:Sep M w0 Δ F w) (j:Nat) {a:Option Addr}{n c m:Nat}{xs:List α}{f:List Nat}(hj:Δ[j]? = some (Wk.mine [.slice a n c] xs f)) (e:n=m) :
    Sep M w0 (Δ.set j (Wk.mine [.slice a m c] xs f)) F w:=by
  subst e
  have e:Δ.set j (Wk.mine [.slice a n c] xs f)=Δ:=List.ext_getElem? fun k=>by
    rw [List.getElem?_set]
    by_cases q:j=k
    · subst q
      have hlt:j<Δ.length:=(List.getElem?_eq_some_iff.1 hj).1
      rw [if_pos rfl,if_pos hlt]; exact hj.symm
    · rw [if_neg q]
  rw [e]; exact h
end
def nP (n k:Nat):List Block:=List.replicate k kO++List.replicate (n-k) default
theorem B5 {n k:Nat}(h:k≤n):(nP n k).length=n:=by unfold nP; rw [List.length_append,List.length_replicate,List.length_replicate]; omega
theorem CI {n:Nat}:nP n n=List.replicate n kO:=by unfold nP; simp
theorem E6 {n k:Nat}(h:k<n):(nP n k).getD k default=default:=by
  unfold nP
  rw [List.getD,List.getElem?_append_right (by rw [List.length_replicate]; exact Nat.le_refl _),List.length_replicate,Nat.sub_self,List.getElem?_replicate,if_pos ω]; rfl
theorem BP {n k:Nat}(h:k<n):(nP n k).set k kO=nP n (k+1):=by
  obtain ⟨m,rfl⟩:∃ m,n=k+1+m:=⟨n-(k+1),ω⟩
  unfold nP
  rw [List.set_append_right _ _ (by rw [List.length_replicate]; exact Nat.le_refl _),List.length_replicate,Nat.sub_self,show k+1+m-k=m+1 by omega,show k+1+m-(k+1)=m by omega,List.replicate_succ,List.set_cons_zero,← mH (k:=k),List.append_assoc]
  rfl
def pI (s:Shape):Drive:=⟨true,List.replicate s.Rows.toNat kO⟩
def ql (z:Wld) (g d:Int):Wld:=⟨z.Shape,z.Groups.set g.toNat ((z.Groups.getD g.toNat []).set d.toNat (pI z.Shape)),z.On,z.Tapes,z.Writes,z.Stop,z.Down⟩
def gj (z:Wld) (g d:Int):WldResult:=if cz z≠0 then ⟨cz z,noWld⟩ else if ins g 0 (z.Shape.Groups+z.Shape.Column-1)=true∧ins d 0 (z.Shape.Data+z.Shape.Spare-1)=true then ⟨0,ql z g d⟩ else ⟨3,noWld⟩
section
variable {z:Wld}{g d:Int}
theorem Fw (h:cz z≠0):gj z g d=⟨cz z,noWld⟩:=if_pos h
theorem Gf (h:cz z=0) (h2:¬ (ins g 0 (z.Shape.Groups+z.Shape.Column-1)=true∧ins d 0 (z.Shape.Data+z.Shape.Spare-1)=true)):gj z g d=⟨3,noWld⟩:=by rw [gj,if_neg ω,if_neg h2]
theorem DH (h:cz z=0) (h2:ins g 0 (z.Shape.Groups+z.Shape.Column-1)=true∧ins d 0 (z.Shape.Data+z.Shape.Spare-1)=true):gj z g d=⟨0,ql z g d⟩:=by rw [gj,if_neg ω,if_pos h2]
theorem Cz (hs:z.Shape.ok=true) (hG:aN z=true) (hg:ins g 0 (z.Shape.Groups+z.Shape.Column-1)=true) (hd:ins d 0 (z.Shape.Data+z.Shape.Spare-1)=true) :
    g.toNat<z.Groups.length∧d.toNat<(z.Groups.getD g.toNat []).length:=by
  have sbd:=aG hs
  have hgi:=aJ.1 hg
  have hdi:=aJ.1 hd
  obtain ⟨h1,h2⟩:=cw hG
  obtain ⟨h3,_⟩:=h2 g.toNat ω
  omega
end
end Go.Wk
namespace Go.Wk
open Go.Proofs Rp Go.Proofs.Tryz
set_option maxRecDepth 10000
theorem jp {w:World}{n:Int}(hn:0≤n∧n≤1000):Ret Tryz.prog 38 #[.int .i64 n] w fun v w'=>Ext No w w'∧(Res w w' [v] (List.replicate n.toNat kO)):=by
 have hRN:=List.length_replicate (n:=n.toNat) (a:=(default:Block));refine aH func38 Z ntmps38 Z (fun Q hQ hN=>?_);have H0:=Sep.start (w:=w) (F:=[]) σ;refine ac (sA Z Z (aa (ac (sV Z (Py.to (v' := .int .i64 (n.toNat:Nat)) (aL Z) (congrArg (Value.int .i64) ω)) (Bt ah Z iy oP (show ∀ w,own true w (Value.agg #[.int .i64 0,.slice none 0 0]).cells.toList (default:Block) [] from fun _=>zu) Z (by first | omega | decide) (by unfold maxLen; first | omega | decide) H0 (fun b1 w1 e1 g1 H1=>sA Z Z (aa (ae (ac (sM Z Z (sV Z (aS iy Z) (sM Z Z (aa (ax (bP (γ:=Nat × List Nat) (fun (k,f)=>[(3,.slice (some ⟨b1,0,none⟩) (List.replicate n.toNat (default:Block)).length n.toNat),(8,.int .i64 (List.replicate n.toNat (default:Block)).length),(9,.int .i64 k)]) (fun (k,f) w'=>Sep No w [mine [.slice (some ⟨b1,0,none⟩) (List.replicate n.toNat (default:Block)).length n.toNat] (nP n.toNat k) f] [] w'∧k≤n.toNat) (fun (k,f)=>n.toNat-k) (0,_) ⟨Z,Z,Z,trivial⟩ ⟨H1,ω⟩ (fun (k,f) w2 H2=>?_))))))))))))))));obtain ⟨H2,hk⟩:=H2;refine ac (sV Z (aX Z Z) (aa (ae (aC Z (fun c1=>?_) (fun c1=>?_)))))
 ·refine au (ae (ax (ac (sR 2 Z (aa ?_)))));have hFL:=B5 hk;obtain ⟨eb1,eo1,eT1,eF1,eG1,ea1,ek1,eg1,ee1,eK1,eH1⟩:=Block.focus H2 0 Z k ω;have eK1U:=eK1;unfold Block.Ok at eK1U
  try unfold I64ok at eK1U
  try unfold maxLen at eK1U
  try dsimp only[lNA,lCA,lSZ,lSS] at eH1
  refine am (sR 2 Z (Bt ah Z aZ cE vX Z (by first | omega | decide) (by unfold maxLen; first | omega | decide) eH1 (fun b2 w3 e2 g2 H3=>sV Z (aB iy gc Z Z ee1 k ω ω) (sF jh Z bf (GZ ah bf H3 0 1 Z Z Z Z Z (fun w4 H4=>?_))))));dsimp only[lNA,lCA,lSZ,lSS,aI] at H4;refine aa (am (sV Z (aE Z Z iO) (sM Z Z (aa ?_))));obtain ⟨fp1,H5⟩:=Block.fill H4 0 3 Z Z Z eK1
  try dsimp only[lNA,lCA,lSZ,lSS] at H5
  have hz:=(H5.dtake 1);rw [E6 ω,show (⟨(default:Block).Stamp,List.replicate 4 0⟩:Block)=kO from rfl,BP ω] at hz;exact ⟨(k+1,_),⟨Z,Z,Z,trivial⟩,⟨hz,ω⟩,θ⟩
 ·refine aT (ac (sR 2 Z (rN hQ results38 Z ?_)));obtain rfl:k=n.toNat:=by omega
  exact ⟨H2.ext,by
   have h:=H2.out 0 Z
   rwa [CI] at h⟩
theorem nN {w:World}{z:Wld}{zA9 zA10 zA11:Option Addr}{zC9 zC10 zC11:Nat}{g d:Int}(zK:z.Ok) (zS9:Sees w [.slice zA9 z.Groups.length zC9] z.Groups) (zS10:Sees w [.slice zA10 z.On.length zC10] z.On) (zS11:Sees w [.slice zA11 z.Tapes.length zC11] z.Tapes) (hb:eC z≤1048576):Ret Tryz.prog 22 #[z.val zA9 zC9 zA10 zC10 zA11 zC11,.int .i64 g,.int .i64 d] w fun v w'=>Ext No w w'∧(∃ A10 C10 A11 C11 A12 C12,v=(gj z g d).val A10 C10 A11 C11 A12 C12∧Res w w' [.int .i64 (gj z g d).Code,.int .i64 (gj z g d).Wd.Shape.Groups,.int .i64 (gj z g d).Wd.Shape.Column,.int .i64 (gj z g d).Wd.Shape.Data,.int .i64 (gj z g d).Wd.Shape.Spare,.int .i64 (gj z g d).Wd.Shape.Rows,.int .i64 (gj z g d).Wd.Shape.Cap,.int .i64 (gj z g d).Wd.Shape.Batch,.int .i64 (gj z g d).Wd.Shape.Queue,.int .i64 (gj z g d).Wd.Shape.Stage,.slice A10 (gj z g d).Wd.Groups.length C10,.slice A11 (gj z g d).Wd.On.length C11,.slice A12 (gj z g d).Wd.Tapes.length C12,.int .i64 (gj z g d).Wd.Writes,.int .i64 (gj z g d).Wd.Stop,.bool (gj z g d).Wd.Down] (gj z g d)):=by
 have zK2:=zK;unfold Wld.Ok Shape.Ok at zK2
 try unfold I64ok at zK2
 try unfold maxLen at zK2
 have zL9:=sL zS9;obtain ⟨zF9,zO9⟩:=zS9;have zL10:=sL zS10;obtain ⟨zF10,zO10⟩:=zS10;have zL11:=sL zS11;obtain ⟨zF11,zO11⟩:=zS11;refine aH func22 Z ntmps22 Z (fun Q hQ hN=>?_);have H0:=Sep.start (ab zO9 (ab zO10 (ab zO11 aA)));refine ac (bu ah Z Z H0 (fun b1 w1 e1 g1 H1=>bB ah Z zeroValue33 H1 (fun b2 w2 e2 g2 H2=>aa (ac (sV Z (ak be Z cy Z Z (At.whole (H2.box 0 Z))) (sE func69 nf Z (et η (H2.sees 0 Z) (H2.sees 1 Z) (H2.sees 2 Z)) H2 (fun w3 e3 H3=>sA Z Z (aa (ae (ax (ac (sR 3 Z (aa (aC Z (fun c1=>?_) (fun c1=>?_)))))))))))))))
 ·refine ac (sM Z Z (sV Z (aP ce Z Z) (aF ah cW Z Z Z Z H3 1 Z Z (fun w4 e4 H4=>?_))));dsimp only[lNA,lCA,lSZ,lSS,aI] at H4;refine aa (bc (hQ _ _ (cp results22 Z (ay eI Z cW Z (At.whole (H4.box 1 Z))) ?_)));rw [Fw ω];exact ⟨H4.ext,none,0,none,0,none,0,Z,en (by unfold I64ok; have:=ns (z:=z); (try dsimp only); omega)⟩
 ·refine ae ?_;have hs:=(bx (w:=z) ω).1;have sbd:=aG hs;refine am (sF be Z bk (sV Z (ak bi Z bk Z Z (At.sub (H3.box 0 Z) 9)) (sM Z Z (sE func58 fM Z (bD (by first | assumption | exact (hw (by simp_all)).1 | exact (hw (by simp_all)).2 | (have hws:=(hw (by simp_all)).1; rw [← gR hws]; simp_all; done) | (simp_all; done))) H3 (fun w5 e5 H5=>sV Z (bh Z) (sM Z Z (bR 5 (j:=5) (want:=false) (t:=27) Z Z Z Z (fun hg1 kk1=>ao (wgE Z Z Z hg1) Z Z (ag be Z bk Z Z) (ao (wgE Z Z Z hg1) Z Z (ak bi Z bk Z Z (At.sub (H5.box 0 Z) 9)) (ao (wgE Z Z Z hg1) Z Z (aL Z) (cj (wgE Z Z Z hg1) Z Z (aR func75 Z CZ Z) (lp η) (fun w7 e7=>ao (wgE Z Z Z hg1) Z Z (bh Z) (kk1 _ _ (kx Z (kx Z (kx Z (kx Z (kx Z k0))))) Z (Ext.refl.trans e7))))))) (fun w6 e6=>?_))))))));have H6:=H5.to e6;refine sV Z (fJ Z Z) (sA Z Z (aa (cx Z (fun c2=>?_) (fun c2=>?_))))
  ·refine ac (sV Z (aP ce Z Z) (aF ah cW Z Z Z Z H6 1 Z Z (fun w8 e8 H7=>?_)));dsimp only[lNA,lCA,lSZ,lSS,aI] at H7;refine aa (bc (hQ _ _ (cp results22 Z (ay eI Z cW Z (At.whole (H7.box 1 Z))) ?_)));rw [Gf ω (by intro hq; simp_all)];exact ⟨H7.ext,none,0,none,0,none,0,Z,en (by unfold I64ok; have:=trivial; (try dsimp only); omega)⟩
  ·refine au (ae ?_);have hgd:ins g 0 (z.Shape.Groups+z.Shape.Column-1)=true∧ins d 0 (z.Shape.Data+z.Shape.Spare-1)=true:=by simpa using c2
   have hgi:=aJ.1 hgd.1;have hdi:=aJ.1 hgd.2;have hG:=(bx (w:=z) ω).2.1;have hdp:=Cz hs hG hgd.1 hgd.2;refine am (sV Z (ak be Z cy Z Z (At.whole (H6.box 0 Z))) (sC func48 fR Z (bU η (H6.sees 0 Z) (H6.sees 1 Z) (H6.sees 2 Z) ξ) (fun v3 w9 r3=>?_)));obtain ⟨e9,sa1,sk1,sa2,sk2,sa3,sk3,rfl,r3⟩:=r3;obtain ⟨fp1,H8⟩:=H6.res e9 r3;obtain ⟨sf1,sf2,sf3,sq1,sok1,so1,so2,so3⟩:=ib (H8.mine 2 Z);have H9:=H8.part 2 Z [mine [.slice _ z.Groups.length _] z.Groups sf1,mine [.slice _ z.On.length _] z.On sf2,mine [.slice _ z.Tapes.length _] z.Tapes sf3] (all_cons so1 (all_cons so2 (all_cons so3 σ))) (by simp [blocks,mine,sq1])
   try dsimp only[lNA,lCA,lSZ,lSS] at H9
   refine bB ah Z zeroValue31 H9 (fun b3 w10 e10 g3 H10=>aF ah cy Z Z Z Z H10 6 Z Z (fun w11 e11 H11=>?_));dsimp only[lNA,lCA,lSZ,lSS,aI] at H11;refine aa (ae ?_);obtain ⟨eb1,eo1,eT1,eF1,eG1,ea1,ek1,eg1,ee1,eH1⟩:=H11.focusL 3 Z g.toNat ω
   try dsimp only[lNA,lCA,lSZ,lSS] at eH1
   obtain ⟨eb2,eo2,ee2⟩:=ic (eH1.mine 7 Z) d.toNat ω;refine cb (S:=eH1.S2 7 7) (oQ [1,3,5,7,9,11,13,15,17,18,21,23,24]) κ κ κ Z (fun _=>show eH1.S2 7 7 _ from Ext.refl.drawn _) (fun q1=>?_);have H12:=eH1.drawn q1;refine dV Z Z (fun zw hx=>ag be Z kh Z Z) (dV Z Z (fun zw hx=>aj fW Z Z (al (eH1.s2Box hx 6 Z Z Z Z Z) Z)) (dM Z Z Z (dV Z Z (fun zw hx=>aB fW ud Z Z ee1 g.toNat ω ω) (dV Z Z (fun zw hx=>aj fl Z Z (eu (eH1.s2Hol hx 3 Z Z Z Z Z) 0 Z)) (dM Z Z Z (dV Z Z (fun zw hx=>ag be Z bk Z Z) (dV Z Z (fun zw hx=>ag bi Z ts2 Z Z) (dV Z Z (fun zw hx=>aj tu2 Z Z (al (eH1.s2Box hx 0 Z Z Z Z Z) Z)) (dh Z ah Z Z (aR func38 Z qv Z) (jp ω) (fun hS _ _ r _=>eH1.s2Call hS r.1) (fun v4 w12 r4=>?_))))))))));obtain ⟨e12,r4⟩:=r4;obtain ⟨fp2,H13⟩:=H12.res e12 r4;obtain ⟨a1,k1,q2⟩:=an (H13.mine 8 Z);cases q2;refine dV Z Z (fun zw hx=>aP nt Z Z) (dV Z Z (fun zw hx=>aB fl gD Z Z ee2 d.toNat ω ω) ?_);have H15:=H13.packDr 8 true Z
   try dsimp only[lNA,lCA,lSZ,lSS] at H15
   refine pv Z ah gD H15 7 8 Z Z Z d.toNat ω Z ee2 Z (fun w13 fp3 H14=>?_)
   try dsimp only[lNA,lCA,lSZ,lSS] at H14
   refine bb (ac (sV Z (ak be Z cy Z Z (At.whole (H14.box 6 Z))) (sV Z (aP ce Z Z) (aF ah cW Z Z Z Z H14 1 Z Z (fun w14 e14 H16=>?_)))));dsimp only[lNA,lCA,lSZ,lSS,aI] at H16;refine aa (bc (hQ _ _ (cp results22 Z (ay eI Z cW Z (At.whole (H16.box 1 Z))) ?_)));obtain ⟨fp4,H17⟩:=H16.fill 3 7 Z Z Z
   try dsimp only[lNA,lCA,lSZ,lSS] at H17
   have H18:=H17.relen 3 Z (m:=(ql z g d).Groups.length) (by show _=(z.Groups.set _ _).length; rw [List.length_set])
   try dsimp only[lNA,lCA,lSZ,lSS] at H18
   rw [DH ω hgd];have hLn:(ql z g d).Groups.length=z.Groups.length:=by show (z.Groups.set _ _).length=_; rw [List.length_set]
   exact ⟨H18.ext,_,_,_,_,_,_,by unfold WldResult.val; dsimp only; rw [hLn]; rfl,WldResult.out (x:=⟨0,ql z g d⟩) (H18.sub (.cons _ (.cons _ (.cons _ (.cons_cons _ (.cons_cons _ (.cons_cons _ (.cons _ (.cons _ (.cons _ List.Sublist.slnil)))))))))) ⟨by show I64ok 0; unfold I64ok; omega,zK⟩⟩
theorem n0 {w:World}{s:Shape}(sK:s.Ok):Ret Tryz.prog 8 #[s.v] w fun v w'=>Ext No w w'∧(∃ A10 C10 A11 C11 A12 C12,v=(dg s).val A10 C10 A11 C11 A12 C12∧Res w w' [.int .i64 (dg s).Code,.int .i64 (dg s).Wd.Shape.Groups,.int .i64 (dg s).Wd.Shape.Column,.int .i64 (dg s).Wd.Shape.Data,.int .i64 (dg s).Wd.Shape.Spare,.int .i64 (dg s).Wd.Shape.Rows,.int .i64 (dg s).Wd.Shape.Cap,.int .i64 (dg s).Wd.Shape.Batch,.int .i64 (dg s).Wd.Shape.Queue,.int .i64 (dg s).Wd.Shape.Stage,.slice A10 (dg s).Wd.Groups.length C10,.slice A11 (dg s).Wd.On.length C11,.slice A12 (dg s).Wd.Tapes.length C12,.int .i64 (dg s).Wd.Writes,.int .i64 (dg s).Wd.Stop,.bool (dg s).Wd.Down] (dg s)):=by
 refine aH func8 Z ntmps8 Z (fun Q hQ hN=>?_);have H0:=Sep.start (w:=w) (F:=[]) σ;refine ac (bu ah Z Z H0 (fun b1 w1 e1 g1 H1=>bB ah Z zeroValue33 H1 (fun b2 w2 e2 g2 H2=>aa (ae (ac (sV Z (ak bi Z bk Z Z (At.whole (H2.box 0 Z))) (sE func35 u0 Z ji H2 (fun w3 e3 H3=>sA Z Z (aa (ac (sR 2 Z (aa (aC Z (fun c1=>?_) (fun c1=>?_))))))))))))))
 ·refine ac (sM Z Z (sV Z (aP ce Z Z) (aF ah (off:=0) cW Z Z Z Z H3 1 Z Z (fun w4 e4 H4=>?_))))
  try simp only [dP,List.length_cons,List.length_nil] at H4
  dsimp only[lNA,lCA,lSZ,lSS,aI] at H4;refine aa (bc (hQ _ _ (cp results8 Z (ay eI Z cW Z (At.whole (H4.box 1 Z))) ?_)));rw [qs ω];exact ⟨H4.ext,none,0,none,0,none,0,Z,en (Fe s)⟩
 ·refine au (ae ?_);have hs:=iR (s:=s) ω;have sbd:=aG hs;refine cb (S:=Ext No _) (oQ [1,2008,2,5,6,8,6,2,5,8]) κ κ κ Z (fun _=>Ext.refl.drawn _) (fun q1=>?_);have H5:=H3.drawn q1;refine dV Z Z (fun zw hx=>ak bi Z bk Z Z (At.whole (hx.heap (H5.box 0 Z)))) (dF Z ?_ ?_)
  ·refine AY Z ah Z jk lW (show ∀ w,own true w (Value.agg #[.bool false,.slice none 0 0]).cells.toList (default:Tape) [] from fun _=>uK) Z (by first | omega | decide) (by unfold maxLen; first | omega | decide) H5 (fun _ h e=>h.trans e.no) (fun b3 w5 e5 g3 H6=>dV Z Z (fun zw hx=>aP (cs:=[.int .i64 s.Groups,.int .i64 s.Column,.int .i64 s.Data,.int .i64 s.Spare,.int .i64 s.Rows,.int .i64 s.Cap,.int .i64 s.Batch,.int .i64 s.Queue,.int .i64 s.Stage,.slice none 0 0,.slice none 0 0,.slice (some ⟨b3,0,none⟩) (List.replicate 2 (default:Tape)).length 2,.int .i64 0,.int .i64 (-1),.bool false]) uT Z κ) (Gv Z ah Z zeroValue31 H6 (fun _ h e=>h.trans e.no) (fun b4 w6 e6 g4 H7=>qe Z ah (off:=0) cy Z Z Z Z H7 3 Z Z (fun _ _ _ hr=>absurd Z hr) (fun w7 e7 H8=>?_))))
   try simp only [dP,List.length_cons,List.length_nil] at H8
   dsimp only[lNA,lCA,lSZ,lSS,aI] at H8;refine bb (ae (ac (sV Z (ak bi Z bk Z Z (At.whole (H8.box 0 Z))) (sE func36 jK Z (cZ η) H8 (fun w8 e8 H9=>sM Z Z (aa (ax ?_)))))));have H11:=H9.nilW (α:=(List Drive))
   try dsimp only[lNA,lCA,lSZ,lSS] at H11
   refine pj (α:=(List Drive)) (γ:=Nat) (fun k=>List.replicate k (nB s)) 0 H11 4 3 9 Z Z Z Z [(1,_),(2,_),(4,_)] ⟨Z,Z,Z,trivial⟩ (fun k=>[(16,.int .i64 (s.Groups+s.Column)),(17,.int .i64 k)]) (fun k=>(k:Int)≤s.Groups+s.Column∧True) (fun k=>(s.Groups+s.Column).toNat-k) ⟨Z,Z,trivial⟩ ⟨ω,trivial⟩ (fun k vA1 fA1 w9 H10 ⟨hk,_⟩=>?_);dsimp only[lCA,lNA,lSZ,lSS] at H10 ⊢;refine ac (sV Z (aX Z Z) (aa (ae (aC Z (fun c2=>?_) (fun c2=>?_)))))
   ·refine au (ae (ax (ac (eZ (α:=Drive) ah Z fl fL H10 (fun b5 w10 e9 g5 H12=>sA Z Z (aa (ae (ac (sV Z (ak bi Z bk Z Z (At.whole (H12.box 0 Z))) (sE func37 jF Z (cD η) H12 (fun w11 e10 H13=>sM Z Z (aa (ax (iT (α:=Drive) (γ:=Nat) (fun m=>List.replicate m (freshD s)) 0 H13 5 Z 5 Z [(1,_),(2,_),(4,_),(16,_),(17,_)] ⟨Z,Z,Z,Z,Z,trivial⟩ (fun m=>[(21,.int .i64 (s.Data+s.Spare)),(22,.int .i64 m)]) (fun m=>(m:Int)≤s.Data+s.Spare∧True) (fun m=>(s.Data+s.Spare).toNat-m) ⟨Z,Z,trivial⟩ ⟨ω,trivial⟩ (fun m vA2 fA2 w12 H14 ⟨hm,_⟩=>?_)))))))))))))));dsimp only[lCA,lNA,lSZ,lSS] at H14 ⊢;refine ac (sV Z (aX Z Z) (aa (ae (aC Z (fun c3=>?_) (fun c3=>?_)))))
    ·refine au (ae (ax ?_));have rl12:=List.length_replicate (n:=m) (a:=freshD s);refine am (sM Z Z (sF bi Z ts2 (sLd tu2 (H14.box 0 Z) Z (sC func38 qv Z (jp ω) (fun v4 w13 r4=>?_)))));obtain ⟨e11,r4⟩:=r4;obtain ⟨fp1,H15⟩:=H14.res e11 r4;obtain ⟨a1,k1,q2⟩:=an (H15.mine 6 Z);cases q2;refine sV Z (aP nt Z Z) (eB ah Z fl fL Z Z Z Z H15 (fun b6 w14 e12 g6 H16=>?_));have H17:=H16.asSt 6 ((freshD s):Drive) Z (Drive.own_mk (x:=(freshD s)) trivial (H16.mine 6 Z))
     try dsimp only[lNA,lCA,lSZ,lSS] at H17
     refine ma ah Z fl fL Z Z Z H17 5 7 6 Z Z Z Z (by unfold maxLen; omega) ω (fun v5 w15 fp2 H18=>sA Z Z (aa (am (sV Z (aE Z Z iO) (sM Z Z (aa ?_))))));exact ⟨(m+1,_,_),⟨Z,Z,Z,Z,Z,Z,Z,Z,trivial⟩,⟨by dsimp only; rw [← mH (k:=m) (x:=freshD s)]; exact (H18.dtake 6),ω,trivial⟩,θ⟩
    ·refine aT ?_;obtain rfl:m=(s.Data+s.Spare).toNat:=by omega
     have rl13:=List.length_replicate (n:=k) (a:=nB s);refine am (sF be Z kh (sLd fW (H14.box 3 Z) Z (sM Z Z ?_)));obtain ⟨a2,k2,q3⟩:=an (H14.mine 5 Z);cases q3;refine eB ah Z fW jD Z Z Z Z H14 (fun b7 w16 e13 g7 H19=>ma ah Z fW jD Z Z Z H19 4 6 5 Z Z Z Z (by unfold maxLen; omega) ω (fun v6 w17 fp3 H20=>sV Z (ag be Z kh Z Z) ?_));obtain ⟨a3,k3,q4⟩:=an (H20.mine 4 Z);cases q4;refine fm ah (off:=9) kh Z Z Z H20 3 Z Z (fun w18 e14 H21=>?_);dsimp only[lNA,lCA,lSZ,lSS,aI] at H21;refine aa (am (sV Z (aE Z Z iO) (sM Z Z (aa ?_))));exact ⟨(k+1,_,_),⟨Z,Z,Z,Z,Z,trivial⟩,⟨by dsimp only; rw [← mH (k:=k) (x:=nB s)]; exact (H21.dtake 5),ω,trivial⟩,θ⟩
   ·refine aT (ae ?_);obtain rfl:k=(s.Groups+s.Column).toNat:=by omega
    obtain ⟨a4,k4,q5⟩:=an (H10.mine 4 Z);cases q5;refine am (sV Z (ak be Z cy Z Z (At.whole (H10.box 3 Z))) (sV Z (aP (cs:=[.int .i64 0,.int .i64 s.Groups,.int .i64 s.Column,.int .i64 s.Data,.int .i64 s.Spare,.int .i64 s.Rows,.int .i64 s.Cap,.int .i64 s.Batch,.int .i64 s.Queue,.int .i64 s.Stage,.slice a4 (List.replicate (s.Groups+s.Column).toNat (nB s)).length k4,.slice none 0 0,.slice (some ⟨b3,0,none⟩) (List.replicate 2 (default:Tape)).length 2,.int .i64 0,.int .i64 (-1),.bool false]) ce Z κ) (aF ah (off:=0) cW Z Z Z Z H10 1 Z Z (fun w19 e15 H22=>?_))))
    try simp only [dP,List.length_cons,List.length_nil] at H22
    dsimp only[lNA,lCA,lSZ,lSS,aI] at H22;refine aa (bc (hQ _ _ (cp results8 Z (ay eI Z cW Z (At.whole (H22.box 1 Z))) ?_)));have H23:=H22.nilW (α:=Int)
    try dsimp only[lNA,lCA,lSZ,lSS] at H23
    rw [py ω];exact ⟨H23.ext,_,_,none,0,_,_,Z,H23.res3N 4 5 2 Z Z Z Z Z Z (fun w o1 o2 o3=>WldResult.own_mk (x:=⟨0,pW s⟩) ⟨(by show I64ok (0:Int); unfold I64ok; omega),vS sK⟩ o1 o2 o3)⟩
  ·refine Gv Z ah Z zeroValue31 H5 (fun _ h e=>h.trans e.no) (fun b8 w20 e16 g8 H24=>AY Z ah Z jk lW (show ∀ w,own true w (Value.agg #[.bool false,.slice none 0 0]).cells.toList (default:Tape) [] from fun _=>uK) Z (by first | omega | decide) (by unfold maxLen; first | omega | decide) H24 (fun _ h e=>h.trans e.no) (fun b9 w21 e17 g9 H25=>dV Z Z (fun zw hx=>aP (cs:=[.int .i64 s.Groups,.int .i64 s.Column,.int .i64 s.Data,.int .i64 s.Spare,.int .i64 s.Rows,.int .i64 s.Cap,.int .i64 s.Batch,.int .i64 s.Queue,.int .i64 s.Stage,.slice none 0 0,.slice none 0 0,.slice (some ⟨b9,0,none⟩) (List.replicate 2 (default:Tape)).length 2,.int .i64 0,.int .i64 (-1),.bool false]) uT Z κ) (qe Z ah (off:=0) cy Z Z Z Z H25 2 Z Z (fun _ _ _ hr=>absurd Z hr) (fun w22 e18 H26=>?_))))
   try simp only [dP,List.length_cons,List.length_nil] at H26
   dsimp only[lNA,lCA,lSZ,lSS,aI] at H26;refine bb (ae (ac (sV Z (ak bi Z bk Z Z (At.whole (H26.box 0 Z))) (sE func36 jK Z (cZ η) H26 (fun w23 e19 H27=>sM Z Z (aa (ax ?_)))))));have H29:=H27.nilW (α:=(List Drive))
   try dsimp only[lNA,lCA,lSZ,lSS] at H29
   refine pj (α:=(List Drive)) (γ:=Nat) (fun k=>List.replicate k (nB s)) 0 H29 4 2 9 Z Z Z Z [(1,_),(2,_),(4,_)] ⟨Z,Z,Z,trivial⟩ (fun k=>[(16,.int .i64 (s.Groups+s.Column)),(17,.int .i64 k)]) (fun k=>(k:Int)≤s.Groups+s.Column∧True) (fun k=>(s.Groups+s.Column).toNat-k) ⟨Z,Z,trivial⟩ ⟨ω,trivial⟩ (fun k vA3 fA3 w24 H28 ⟨hk,_⟩=>?_);dsimp only[lCA,lNA,lSZ,lSS] at H28 ⊢;refine ac (sV Z (aX Z Z) (aa (ae (aC Z (fun c4=>?_) (fun c4=>?_)))))
   ·refine au (ae (ax (ac (eZ (α:=Drive) ah Z fl fL H28 (fun b10 w25 e20 g10 H30=>sA Z Z (aa (ae (ac (sV Z (ak bi Z bk Z Z (At.whole (H30.box 0 Z))) (sE func37 jF Z (cD η) H30 (fun w26 e21 H31=>sM Z Z (aa (ax (iT (α:=Drive) (γ:=Nat) (fun m=>List.replicate m (freshD s)) 0 H31 5 Z 5 Z [(1,_),(2,_),(4,_),(16,_),(17,_)] ⟨Z,Z,Z,Z,Z,trivial⟩ (fun m=>[(21,.int .i64 (s.Data+s.Spare)),(22,.int .i64 m)]) (fun m=>(m:Int)≤s.Data+s.Spare∧True) (fun m=>(s.Data+s.Spare).toNat-m) ⟨Z,Z,trivial⟩ ⟨ω,trivial⟩ (fun m vA4 fA4 w27 H32 ⟨hm,_⟩=>?_)))))))))))))));dsimp only[lCA,lNA,lSZ,lSS] at H32 ⊢;refine ac (sV Z (aX Z Z) (aa (ae (aC Z (fun c5=>?_) (fun c5=>?_)))))
    ·refine au (ae (ax ?_));have rl12:=List.length_replicate (n:=m) (a:=freshD s);refine am (sM Z Z (sF bi Z ts2 (sLd tu2 (H32.box 0 Z) Z (sC func38 qv Z (jp ω) (fun v9 w28 r7=>?_)))));obtain ⟨e22,r7⟩:=r7;obtain ⟨fp4,H33⟩:=H32.res e22 r7;obtain ⟨a5,k5,q6⟩:=an (H33.mine 6 Z);cases q6;refine sV Z (aP nt Z Z) (eB ah Z fl fL Z Z Z Z H33 (fun b11 w29 e23 g11 H34=>?_));have H35:=H34.asSt 6 ((freshD s):Drive) Z (Drive.own_mk (x:=(freshD s)) trivial (H34.mine 6 Z))
     try dsimp only[lNA,lCA,lSZ,lSS] at H35
     refine ma ah Z fl fL Z Z Z H35 5 7 6 Z Z Z Z (by unfold maxLen; omega) ω (fun v10 w30 fp5 H36=>sA Z Z (aa (am (sV Z (aE Z Z iO) (sM Z Z (aa ?_))))));exact ⟨(m+1,_,_),⟨Z,Z,Z,Z,Z,Z,Z,Z,trivial⟩,⟨by dsimp only; rw [← mH (k:=m) (x:=freshD s)]; exact (H36.dtake 6),ω,trivial⟩,θ⟩
    ·refine aT ?_;obtain rfl:m=(s.Data+s.Spare).toNat:=by omega
     have rl13:=List.length_replicate (n:=k) (a:=nB s);refine am (sF be Z kh (sLd fW (H32.box 2 Z) Z (sM Z Z ?_)));obtain ⟨a6,k6,q7⟩:=an (H32.mine 5 Z);cases q7;refine eB ah Z fW jD Z Z Z Z H32 (fun b12 w31 e24 g12 H37=>ma ah Z fW jD Z Z Z H37 4 6 5 Z Z Z Z (by unfold maxLen; omega) ω (fun v11 w32 fp6 H38=>sV Z (ag be Z kh Z Z) ?_));obtain ⟨a7,k7,q8⟩:=an (H38.mine 4 Z);cases q8;refine fm ah (off:=9) kh Z Z Z H38 2 Z Z (fun w33 e25 H39=>?_);dsimp only[lNA,lCA,lSZ,lSS,aI] at H39;refine aa (am (sV Z (aE Z Z iO) (sM Z Z (aa ?_))));exact ⟨(k+1,_,_),⟨Z,Z,Z,Z,Z,trivial⟩,⟨by dsimp only; rw [← mH (k:=k) (x:=nB s)]; exact (H39.dtake 5),ω,trivial⟩,θ⟩
   ·refine aT (ae ?_);obtain rfl:k=(s.Groups+s.Column).toNat:=by omega
    obtain ⟨a8,k8,q9⟩:=an (H28.mine 4 Z);cases q9;refine am (sV Z (ak be Z cy Z Z (At.whole (H28.box 2 Z))) (sV Z (aP (cs:=[.int .i64 0,.int .i64 s.Groups,.int .i64 s.Column,.int .i64 s.Data,.int .i64 s.Spare,.int .i64 s.Rows,.int .i64 s.Cap,.int .i64 s.Batch,.int .i64 s.Queue,.int .i64 s.Stage,.slice a8 (List.replicate (s.Groups+s.Column).toNat (nB s)).length k8,.slice none 0 0,.slice (some ⟨b9,0,none⟩) (List.replicate 2 (default:Tape)).length 2,.int .i64 0,.int .i64 (-1),.bool false]) ce Z κ) (aF ah (off:=0) cW Z Z Z Z H28 1 Z Z (fun w34 e26 H40=>?_))))
    try simp only [dP,List.length_cons,List.length_nil] at H40
    dsimp only[lNA,lCA,lSZ,lSS,aI] at H40;refine aa (bc (hQ _ _ (cp results8 Z (ay eI Z cW Z (At.whole (H40.box 1 Z))) ?_)));have H41:=H40.nilW (α:=Int)
    try dsimp only[lNA,lCA,lSZ,lSS] at H41
    rw [py ω];exact ⟨H41.ext,_,_,none,0,_,_,Z,H41.res3N 4 5 3 Z Z Z Z Z Z (fun w o1 o2 o3=>WldResult.own_mk (x:=⟨0,pW s⟩) ⟨(by show I64ok (0:Int); unfold I64ok; omega),vS sK⟩ o1 o2 o3)⟩
end Go.Wk
namespace Go.Wk
open Go.Proofs Rp Go.Proofs.Tryz
set_option maxRecDepth 10000
theorem jr {w:World}{z:Wld}{zb rC6 rC7 rC8:Nat}{fp rF6 rF7 rF8:List Nat}{r:Rec}{rA6 rA7 rA8:Option Addr}(o:OwnW w zb 31 z fp) (nd:fp.Nodup) (rK:r.Ok) (rO6:own false w [.slice rA6 r.Rows.length rC6] r.Rows rF6) (rD6:∀ b∈rF6,b ∉ fp) (rO7:own false w [.slice rA7 r.Data.length rC7] r.Data rF7) (rD7:∀ b∈rF7,b ∉ fp) (rO8:own false w [.slice rA8 r.Delta.length rC8] r.Delta rF8) (rD8:∀ b∈rF8,b ∉ fp) (hT:z.Tapes.length=2) (hb:ff r≤1048576) (hw:z.Writes≤1500000000):Ret Tryz.prog 128 #[.pointer (some ⟨zb,0,none⟩),r.val rA6 rC6 rA7 rC7 rA8 rC8] w fun v w'=>(v = .int .i64 (jW z r)∧MutW w w' fp zb 31 (du z r)):=by
 cases hf:fa z
 ·rw [(te hf).1,(te hf).2]; exact nL o nd rK rO6 rD6 rO7 rD7 rO8 rD8 hf hT hb hw
 ·rw [(uo hf).1,(uo hf).2]; exact mh o nd rK rO6 rD6 rO7 rD7 rO8 rD8 hf hT hb hw
theorem m0 {w:World}{a b:Int}  : Ret Tryz.prog 129 #[.int .i64 a,.int .i64 b] w fun v w'=>Ext No w w'∧(v=(cU a b).val none 0 none 0 none 0):=by
 refine aH func129 Z ntmps129 Z (fun Q hQ hN=>?_);have H0:=Sep.start (w:=w) (F:=[]) σ;refine ac (bB ah Z zeroValue59 H0 (fun b1 w1 e1 g1 H1=>aa (ac (sR 2 Z (sV Z (aP gU Z Z) (aF ah aO Z Z Z Z H1 0 Z Z (fun w2 e2 H2=>?_)))))));dsimp only[lNA,lCA,lSZ,lSS,aI] at H2;refine aa (bc (hQ _ _ (cp results129 Z (ay aD Z aO Z (At.whole (H2.box 0 Z))) ?_)));exact ⟨H2.ext,Z⟩
end Go.Wk
namespace Go.Wk
open Go.Proofs Rp Go.Proofs.Tryz
set_option maxRecDepth 10000
theorem lx {w:World}{zb zC9 zC10 zC11:Nat}{z:Wld}{zA9 zA10 zA11:Option Addr}{zF9 zF10 zF11:List Nat}(zB:w.heap[zb]? = some (.cells [.int .i64 z.Shape.Groups,.int .i64 z.Shape.Column,.int .i64 z.Shape.Data,.int .i64 z.Shape.Spare,.int .i64 z.Shape.Rows,.int .i64 z.Shape.Cap,.int .i64 z.Shape.Batch,.int .i64 z.Shape.Queue,.int .i64 z.Shape.Stage,.slice zA9 z.Groups.length zC9,.slice zA10 z.On.length zC10,.slice zA11 z.Tapes.length zC11,.int .i64 z.Writes,.int .i64 z.Stop,.bool z.Down].toArray 31)) (zK:z.Ok) (zO9:own false w [.slice zA9 z.Groups.length zC9] z.Groups zF9) (zO10:own false w [.slice zA10 z.On.length zC10] z.On zF10) (zO11:own false w [.slice zA11 z.Tapes.length zC11] z.Tapes zF11) (hq:SeqOK z) (hT:z.Tapes.length=2) (hrl:∀ k,(z.Tapes.getD k default).Recs.length≤200000):Ret Tryz.prog 121 #[.pointer (some ⟨zb,0,none⟩)] w fun v w'=>Ext No w w'∧(v = .tuple #[.int .i64 (nsV z),.int .i64 (nsC z)]):=by
 have zK2:=zK;unfold Wld.Ok Shape.Ok at zK2
 try unfold I64ok at zK2
 try unfold maxLen at zK2
 have zL9:=oL zO9;have zL10:=oL zO10;have zL11:=oL zO11;have hqb:=yi hq;refine aH func121 Z ntmps121 Z (fun Q hQ hN=>?_);have H0:=Sep.start (bX zB (ab zO9 (ab zO10 (ab zO11 aA))));refine ac (sR 2 Z (aa (ac (sM Z Z (sC func182 sx Z (gM (H0.fbox 0 Z) η (az (H0.seen 1 Z)) (az (H0.seen 2 Z)) (az (H0.seen 3 Z)) ξ ξ) (fun v1 w1 r1=>?_))))));obtain ⟨e1,vs1,r1,hR1,hM1⟩:=r1;obtain ⟨fp1,H1⟩:=H0.res e1 r1;obtain ⟨sa1,sk1,sq1⟩:=an (H1.mine 0 Z);cases sq1;have hl1:vs1.length=(eE z).length:=by rw [← hM1,List.length_map]
 have hb1:=vC (z:=z) ξ η;have hRw1:RdV w zF11 vs1:=hR1.back H1.ext (Rp.lt zO11);refine sR 2 Z (aa (ae (ac (sM Z Z (sV Z (aS br Z) (sV Z (mu Z Z) (aa (aC Z (fun c1=>?_) (fun c1=>?_)))))))))
 ·have hnx:=Hb hM1 ω;obtain ⟨eb1,eo1,ee1,ec1,eK1⟩:=H1.viewAt 0 Z (vs1.length-1) ω;refine am (sR 2 Z (sV Z (aS br Z) (sV Z (ci Z Z iO) (sV Z (aB br aO Z Z ee1 (vs1.length-1) ω ω) (sF aD Z ts2 (sV Z (aj tu2 Z Z (eu ec1 1 Z)) (sV Z (aE Z Z iO) (sA Z Z (aa (ae (ac (sR 2 Z (aa (aC Z (fun c2=>?_) (fun c2=>?_)))))))))))))))
  ·refine ac (sR 2 Z (aa (bc (hQ _ _ (qB results121 Z Z ?_)))));exact ⟨H1.ext,by rw [nsV,nsC,if_pos ω,if_pos ω]⟩
  ·refine au (ac (sR 3 Z (aa (bc (hQ _ _ (qB results121 Z Z ?_))))));have hnm:¬ 1000000000<nxQ z:=by omega
   exact ⟨H1.ext,by rw [nsV,nsC,if_neg hnm,if_neg hnm,hnx]⟩
 ·refine au (ae (ac (sR 2 Z (aa (aC Z (fun c3=>?_) (fun c3=>?_))))))
  ·refine ac (sR 2 Z (aa (bc (hQ _ _ (qB results121 Z Z ?_)))));have hnx:=wS hM1 ω;exact ⟨H1.ext,by rw [nsV,nsC,if_pos ω,if_pos ω]⟩
  ·refine au (ac (sR 3 Z (aa (bc (hQ _ _ (qB results121 Z Z ?_))))));have hnx:=wS hM1 ω;have hnm:¬ 1000000000<nxQ z:=by omega
   exact ⟨H1.ext,by rw [nsV,nsC,if_neg hnm,if_neg hnm,hnx]⟩
end Go.Wk
namespace Go.Wk
open Go.Proofs Rp Go.Proofs.Tryz
set_option maxRecDepth 10000
set_option maxHeartbeats 2000000 in
theorem gW {w:World}{z:Wld}{zb xsC:Nat}{fp xsF:List Nat}{g row:Int}{xs:List UInt8}{xsA:Option Addr}(o:OwnW w zb 31 z fp) (nd:fp.Nodup) (xsO:own false w [.slice xsA xs.length xsC] xs xsF) (xsD:∀ b∈xsF,b ∉ fp) (hs:z.Shape.ok=true) (hG:aN z=true) (hg0:ins g 0 (z.Shape.Groups-1)=true) (hr:ins row 0 (z.Shape.Rows-1)=true) (hx:(xs.length:Int)=z.Shape.Data*4) (hd:cQ z g=false) (hq:SeqOK z) (hT:z.Tapes.length=2) (hw:z.Writes≤1200000000) (hrr:(z.Tapes.getD 0 default).Recs.length≤200∧(z.Tapes.getD 1 default).Recs.length≤200):Ret Tryz.prog 74 #[.pointer (some ⟨zb,0,none⟩),.int .i64 g,.int .i64 row,.slice xsA xs.length xsC] w fun v w'=>(v = .int .i64 (mwP z g row xs).1∧MutW w w' fp zb 31 ((mwP z g row xs).2)):=by
 have xsL:=oL xsO;have sbd:=aG hs;have hgi:=aJ.1 hg0;have hri:=aJ.1 hr;have hg:ins g 0 (z.Shape.Groups+z.Shape.Column-1)=true:=aJ.2 ω;have hrr3:(z.Tapes.getD 0 default).Recs.length≤1000∧(z.Tapes.getD 1 default).Recs.length≤1000:=by omega
 have hrl:=EL hT hrr3;have rl:=lg hs hG hg hr hd;have hqb:=yi hq;have afl:(eO (jb z g row) xs).length=(jb z g row).length:=d9 ω;refine aH func74 Z ntmps74 Z (fun Q hQ hN=>?_);have H0:=(Sep.beginW o nd).seeF xsO xsD
 try dsimp only[lNA,lCA,lSZ,lSS] at H0
 refine ac (sA Z Z (aa (ae ?_)));obtain ⟨wA1,wC1,wA2,wC2,wA3,wC3,wf1,wf2,wf3,wok1,H1⟩:=H0.openW 0 Z
 try dsimp only[lNA,lCA,lSZ,lSS] at H1
 have wok1U:=wok1;unfold Wld.Ok Shape.Ok I64ok at wok1U;have wL1:=oL (H1.mine 2 Z);have wL2:=oL (H1.mine 3 Z);have wL3:=oL (H1.mine 4 Z);refine am (sM Z Z (sE func121 yo Z (lx (H1.box 0 Z) η (az (H1.mine 2 Z)) (az (H1.mine 3 Z)) (az (H1.mine 4 Z)) ξ ξ ξ) H1 (fun w1 e1 H2=>sR 5 Z (aa (ae (ac (sR 3 Z (eA (t:=21) Z (fun hg1=>?_) (fun hg1=>?_)))))))))
 ·try simp only [decide_eq_true_eq,decide_eq_false_iff_not] at hg1
  refine sR 3 Z (sV Z (aY Z Z) (aa (jR Z (ac (rA hQ results74 Z ?_)))));obtain ⟨fp1,H3⟩:=H2.closeW 0 2 3 4 z Z Z Z Z Z Z Z Z Z Z wok1
  try dsimp only[lNA,lCA,lSZ,lSS] at H3
  have hmn:1000000000<nxQ z∨fT z 2=true:=by
   by_cases q:1000000000<nxQ z
   ·exact .inl q
   ·refine .inr (ny.2 ?_);have hns:nsC z=0:=if_neg q
    first | (exact absurd hns ω) | omega
  have hz:=H3.doneW;rw [Bp hmn];exact ⟨Z,hz⟩
 ·try simp only [decide_eq_true_eq,decide_eq_false_iff_not] at hg1
  refine ao (wg Z Z Z) Z Z (aL Z) (dW (wg Z Z Z) Z Z (aR func122 Z lE Z) (ep (H2.box 0 Z) η (H2.msees 2 Z) (H2.msees 3 Z) (H2.msees 4 Z) ξ) (fun v2 w2 r2=>?_));obtain ⟨e2,rfl⟩:=r2;have H4:=H2.to e2;refine ao (wg Z Z Z) Z Z (aX Z Z) (sV Z (bm Z Z) (aa (aC Z (fun c1=>?_) (fun c1=>?_))))
  ·refine ac (rA hQ results74 Z ?_);obtain ⟨fp2,H5⟩:=H4.closeW 0 2 3 4 z Z Z Z Z Z Z Z Z Z Z wok1
   try dsimp only[lNA,lCA,lSZ,lSS] at H5
   have hmn:1000000000<nxQ z∨fT z 2=true:=by
    by_cases q:1000000000<nxQ z
    ·exact .inl q
    ·refine .inr (ny.2 ?_);have hns:nsC z=0:=if_neg q
     first | (exact absurd hns ω) | omega
   have hz:=H5.doneW;rw [Bp hmn];exact ⟨Z,hz⟩
  ·refine au (ae ?_);have hns:nsC z=0:=by omega
   have hgo:¬ 1000000000<nxQ z:=by intro q; rw [nsC,if_pos q] at hns; exact absurd hns (by decide)
   have hnsv:nsV z=nxQ z:=if_neg hgo;have hfl:fT z 2=false:=by
    cases q:fT z 2
    ·rfl
    ·have:=ny.1 q; omega
   have hno:¬ (1000000000<nxQ z∨fT z 2=true):=by rw [hfl]; simpa using hgo
   obtain ⟨hsz,hs2,hG2,hg2,hm2,hT2,hw2,hp3,hp4⟩:=Fj hs hG hT hq hgo hg0 hr hx hd;have hk2:(bw z g row xs).Kind=2:=Z;have hxk:(bw z g row xs).Ok:=Fg (by unfold I64ok; omega) (by unfold I64ok; omega) (by unfold I64ok; omega);have hT3:(eq (du z (bw z g row xs)) g (bw z g row xs)).2.Tapes.length=2:=by rw [hp3]; exact hT2
   have hdk:(cU (nxQ z) g).Ok:=xG (by unfold I64ok; omega) (by unfold I64ok; omega);have hszd:ff (cU (nxQ z) g)=0:=xT;rw [hnsv];refine am (sR 4 Z (sC func62 bd Z (aQ (H4.sees 0 Z) ω) (fun v3 w3 r3=>?_)));obtain ⟨e3,r3⟩:=r3;obtain ⟨fp3,H6⟩:=H4.res e3 r3;obtain ⟨a1,k1,q1⟩:=an (H6.mine 5 Z);cases q1;refine sR 4 Z (sC func127 z7 Z (nJ (H6.box 0 Z) η (az (H6.mine 2 Z)) (az (H6.mine 3 Z)) (az (H6.mine 4 Z)) (H6.sees 0 Z) η η η η η η) (fun v4 w4 r4=>?_));obtain ⟨e4,r4⟩:=r4;obtain ⟨fp4,H7⟩:=H6.res e4 r4;obtain ⟨a2,k2,q2⟩:=an (H7.mine 6 Z);cases q2;refine sV Z (aP gU Z Z) (bB ah Z zeroValue59 H7 (fun b1 w5 e5 g1 H8=>aF ah aO Z Z Z Z H8 7 Z Z (fun w6 e6 H9=>?_)));dsimp only[lNA,lCA,lSZ,lSS,aI] at H9;refine aa (ae (ac (sM Z Z (sV Z (ak aD Z aO Z Z (At.whole (H9.box 7 Z))) ?_))));obtain ⟨fp5,H10⟩:=H9.closeW 0 2 3 4 z Z Z Z Z Z Z Z Z Z Z wok1
   try dsimp only[lNA,lCA,lSZ,lSS] at H10
   refine sC func128 oO Z (jr (H10.wldAt 0 Z) (H10.nodup1 (i:=0) Z) η (.inr (.inl ⟨Z,Z,Z⟩)) σ (az (H10.mine 5 Z)) (fun b hb=>H10.apart (i:=0) (j:=5) Z Z Z b hb) (az (H10.mine 6 Z)) (fun b hb=>H10.apart (i:=0) (j:=6) Z Z Z b hb) ξ ξ ξ (r:=(bw z g row xs))) (fun v5 w7 r5=>?_);obtain ⟨rfl,mm1⟩:=r5;obtain ⟨fp6,H11⟩:=H10.mutW 0 Z mm1
   try dsimp only[lNA,lCA,lSZ,lSS] at H11
   refine sA Z Z (aa (ac (sR 2 Z (aa (aC Z (fun c2=>?_) (fun c2=>?_))))))
   ·refine ac (sR 2 Z (rN hQ results74 Z ?_));have hz:=H11.doneW;rw [GL hno ω];exact ⟨Z,hz⟩
   ·refine au (ae (ac (sR 2 Z (sV Z (ak aD Z aO Z Z (At.whole (H11.box 7 Z))) (sC func83 CC Z (kS (H11.wldAt 0 Z) (H11.nodup1 (i:=0) Z) η (.inr (.inl ⟨Z,Z,Z⟩)) σ (az (H11.mine 5 Z)) (fun b hb=>H11.apart (i:=0) (j:=5) Z Z Z b hb) (az (H11.mine 6 Z)) (fun b hb=>H11.apart (i:=0) (j:=6) Z Z Z b hb) ξ ξ ξ ξ ξ ξ (r:=(bw z g row xs))) (fun v6 w8 r6=>?_))))));obtain ⟨rfl,mm2⟩:=r6;obtain ⟨fp7,H12⟩:=H11.mutW 0 Z mm2
    try dsimp only[lNA,lCA,lSZ,lSS] at H12
    refine sA Z Z (aa (ac (sR 2 Z (aa (aC Z (fun c3=>?_) (fun c3=>?_))))))
    ·refine ac (sR 2 Z (rN hQ results74 Z ?_));have hp0:(eq (du z (bw z g row xs)) g (bw z g row xs)).1=false:=by
      cases q:(eq (du z (bw z g row xs)) g (bw z g row xs)).1
      ·rfl
      ·exfalso; have hx9:=c3; rw [q] at hx9; simp at hx9
     have hz:=H12.doneW;rw [FH hno ω hp0,hp0];exact ⟨Z,hz⟩
    ·refine au (ac (sR 3 Z (sE func129 tL Z m0 H12 (fun w9 e9 H13=>sC func128 oO Z (jr (H13.wldAt 0 Z) (H13.nodup1 (i:=0) Z) η (.inr (.inl ⟨Z,Z,Z⟩)) σ (.inr (.inl ⟨Z,Z,Z⟩)) σ (.inr (.inl ⟨Z,Z,Z⟩)) σ ξ ξ ξ (r:=cU (nxQ z) g)) (fun v8 w10 r8=>?_)))));obtain ⟨rfl,mm3⟩:=r8;obtain ⟨fp8,H14⟩:=H13.mutW 0 Z mm3
     try dsimp only[lNA,lCA,lSZ,lSS] at H14
     refine rA hQ results74 Z ?_;have hp0:(eq (du z (bw z g row xs)) g (bw z g row xs)).1=true:=by
      cases q:(eq (du z (bw z g row xs)) g (bw z g row xs)).1
      ·exfalso; have hx9:=c3; rw [q] at hx9; simp at hx9
      ·rfl
     have hz:=H14.doneW;rw [Gt hno ω hp0];exact ⟨Z,hz⟩
end Go.Wk
namespace Go.Wk
open Go.Proofs Rp Go.Proofs.Tryz
set_option maxRecDepth 10000
theorem lF {w:World}{z:Wld}{zA9 zA10 zA11 xsA:Option Addr}{zC9 zC10 zC11 xsC:Nat}{g row:Int}{xs:List UInt8}(zK:z.Ok) (zS9:Sees w [.slice zA9 z.Groups.length zC9] z.Groups) (zS10:Sees w [.slice zA10 z.On.length zC10] z.On) (zS11:Sees w [.slice zA11 z.Tapes.length zC11] z.Tapes) (xsS:Sees w [.slice xsA xs.length xsC] xs) (hb:eC z≤1048576) (hc:(mwP z g row xs).1≠0∧(mwP z g row xs).1≠9):Ret Tryz.prog 21 #[z.val zA9 zC9 zA10 zC10 zA11 zC11,.int .i64 g,.int .i64 row,.slice xsA xs.length xsC] w fun v w'=>Ext No w w'∧(∃ A10 C10 A11 C11 A12 C12,v=(mwF z g row xs).val A10 C10 A11 C11 A12 C12∧Res w w' [.int .i64 (mwF z g row xs).Code,.int .i64 (mwF z g row xs).Wd.Shape.Groups,.int .i64 (mwF z g row xs).Wd.Shape.Column,.int .i64 (mwF z g row xs).Wd.Shape.Data,.int .i64 (mwF z g row xs).Wd.Shape.Spare,.int .i64 (mwF z g row xs).Wd.Shape.Rows,.int .i64 (mwF z g row xs).Wd.Shape.Cap,.int .i64 (mwF z g row xs).Wd.Shape.Batch,.int .i64 (mwF z g row xs).Wd.Shape.Queue,.int .i64 (mwF z g row xs).Wd.Shape.Stage,.slice A10 (mwF z g row xs).Wd.Groups.length C10,.slice A11 (mwF z g row xs).Wd.On.length C11,.slice A12 (mwF z g row xs).Wd.Tapes.length C12,.int .i64 (mwF z g row xs).Wd.Writes,.int .i64 (mwF z g row xs).Wd.Stop,.bool (mwF z g row xs).Wd.Down] (mwF z g row xs)):=by
 have zK2:=zK;unfold Wld.Ok Shape.Ok at zK2
 try unfold I64ok at zK2
 try unfold maxLen at zK2
 have zL9:=sL zS9;obtain ⟨zF9,zO9⟩:=zS9;have zL10:=sL zS10;obtain ⟨zF10,zO10⟩:=zS10;have zL11:=sL zS11;obtain ⟨zF11,zO11⟩:=zS11;have xsL:=sL xsS;obtain ⟨xsF,xsO⟩:=xsS;refine aH func21 Z ntmps21 Z (fun Q hQ hN=>?_);have H0:=Sep.start (ab zO9 (ab zO10 (ab zO11 (ab xsO aA))));refine ac (bu ah Z Z H0 (fun b1 w1 e1 g1 H1=>bB ah Z zeroValue33 H1 (fun b2 w2 e2 g2 H2=>aa (ac (sV Z (ak be Z cy Z Z (At.whole (H2.box 0 Z))) (sE func57 jH Z (dB η (H2.sees 0 Z) (H2.sees 1 Z) (H2.sees 2 Z)) H2 (fun w3 e3 H3=>sA Z Z (aa (vU (γ:=Unit) H3 [(1,_),(2,_),(3,_),(4,_),(8,_)] ⟨Z,Z,Z,Z,Z,trivial⟩ (fun _=>[(9,.int .i64 (jz z g row xs (z.Shape.Groups-1)))]) (fun _=>True) ?_ (fun _ w4 H4 _=>?_))))))))))
 ·refine ax (ac (sR 3 Z (aa (aC Z (fun c1=>?_) (fun c1=>?_)))))
  ·refine au ?_;exact ⟨(),⟨eqI (rL ω).symm,Z,Z,Z,Z,Z,trivial⟩,H3,trivial⟩
  ·refine ae ?_;obtain ⟨hs,hG,hO⟩:=bx (hZ (w:=z) ω).1;have sbd:=aG hs;refine am (sF be Z bk (sV Z (ak bi Z bk Z Z (At.sub (H3.box 0 Z) 9)) (sM Z Z (sE func65 nh Z (dK η) H3 (fun w5 e4 H5=>sV Z (bh Z) (sM Z Z (bR 5 (j:=5) (want:=false) (t:=29) Z Z Z Z (fun hg1 kk1=>ao (wgE Z Z Z hg1) Z Z (ag be Z bk Z Z) (ao (wgE Z Z Z hg1) Z Z (ak bi Z bk Z Z (At.sub (H5.box 0 Z) 9)) (ao (wgE Z Z Z hg1) Z Z (aL Z) (cj (wgE Z Z Z hg1) Z Z (aR func71 Z iC Z) (cm η) (fun w7 e6=>ao (wgE Z Z Z hg1) Z Z (bh Z) (kk1 _ _ (kx Z (kx Z (kx Z (kx Z (kx Z k0))))) Z (Ext.refl.trans e6))))))) (fun w6 e5=>?_))))))));have H6:=H5.to e5;refine sV Z (fJ Z Z) (sA Z Z (aa (cx Z (fun c2=>?_) (fun c2=>?_))))
   ·refine am (sA Z Z (aa ?_));exact ⟨(),⟨eqI (x8 ω (by intro ⟨h1,h2⟩; simp_all)).symm,Z,Z,Z,Z,Z,trivial⟩,H6,trivial⟩
   ·refine ae (cb (S:=Ext No _) (oQ [1,5,7,2,8,11,12]) κ κ κ Z (fun _=>Ext.refl.drawn _) (fun q1=>?_));have H7:=H6.drawn q1;refine dM Z Z Z (dV Z Z (fun zw hx=>ag be Z bk Z Z) (dV Z Z (fun zw hx=>ak bi Z bk Z Z (At.sub (hx.heap (H7.box 0 Z)) 9)) (dC func72 iM Z (dQ (H7.sees 3 Z)) (fun v3 w8 r3=>?_))));obtain ⟨e7,rfl⟩:=r3;have H8:=H7.to e7;refine dC func73 jA Z (cd η) (fun v4 w9 r4=>?_);obtain ⟨e8,rfl⟩:=r4;have H9:=H8.to e8;refine dV Z Z (fun zw hx=>ez Z Z) (aW Z ah Z Z (bg Z) (bb (aC Z (fun c3=>?_) (fun c3=>?_))))
    ·refine am (sA Z Z (aa ?_));exact ⟨(),⟨eqI (wN ω (by simp_all) (by simp_all)).symm,Z,Z,Z,Z,Z,trivial⟩,H9,trivial⟩
    ·refine am (sM Z Z (sE func63 uM Z (fU (H9.box 0 Z) η (H9.sees 0 Z) (H9.sees 1 Z) (H9.sees 2 Z) η η) H9 (fun w10 e9 H10=>sA Z Z (aa ?_))));exact ⟨(),⟨eqI (sb hs ω (by simp_all) (by simp_all) (by simp_all)).symm,Z,Z,Z,Z,Z,trivial⟩,H10,trivial⟩
 ·dsimp only[lCA,lNA];refine ae (ac (sR 2 Z (aa (aC Z (fun c4=>?_) (fun c4=>?_)))))
  ·refine ac (sM Z Z (sV Z (aP ce Z Z) (aF ah cW Z Z Z Z H4 1 Z Z (fun w11 e10 H11=>?_))));dsimp only[lNA,lCA,lSZ,lSS,aI] at H11;refine aa (bc (hQ _ _ (cp results21 Z (ay eI Z cW Z (At.whole (H11.box 1 Z))) ?_)))
   by_cases hu:upF z=0
   ·rw [mwF,pi hu c4];exact ⟨H11.ext,none,0,none,0,none,0,Z,en (by unfold I64ok; have:=rM (z:=z) (g:=g) (row:=row) (xs:=xs) (most:=(z.Shape.Groups-1)); (try dsimp only); omega)⟩
   ·rw [mwF,rJ hu,← rL (g:=g) (row:=row) (xs:=xs) (most:=(z.Shape.Groups-1)) hu];exact ⟨H11.ext,none,0,none,0,none,0,Z,en (by unfold I64ok; have:=rM (z:=z) (g:=g) (row:=row) (xs:=xs) (most:=(z.Shape.Groups-1)); (try dsimp only); omega)⟩
  ·refine au (ae ?_);have ho0:(jz z g row xs (z.Shape.Groups-1))=0:=by
    have ho1:¬ ((jz z g row xs (z.Shape.Groups-1))≠0):=c4
    omega
   obtain ⟨hu,hg0,hr,hx,hon,hd⟩:=AG ho0;obtain ⟨hwf,hdn⟩:=hZ hu;obtain ⟨hs,hG,hO⟩:=bx hwf;have hT:=(bx hwf).2.2.2.1;obtain ⟨hw0,hw1,_,_⟩:=gE hwf;have hrl:=lD hwf;have hrl2:=lQ hwf;have hq:=gQ hwf;have aq:(jz z g row xs (z.Shape.Groups-1))=0:=ho0;refine am (sV Z (ak be Z cy Z Z (At.whole (H4.box 0 Z))) (sC func48 fR Z (bU η (H4.sees 0 Z) (H4.sees 1 Z) (H4.sees 2 Z) ξ) (fun v6 w12 r6=>?_)));obtain ⟨e11,sa1,sk1,sa2,sk2,sa3,sk3,rfl,r6⟩:=r6;obtain ⟨fp1,H12⟩:=H4.res e11 r6;obtain ⟨sf1,sf2,sf3,sq1,sok1,so1,so2,so3⟩:=ib (H12.mine 2 Z);have H13:=H12.part 2 Z [mine [.slice _ z.Groups.length _] z.Groups sf1,mine [.slice _ z.On.length _] z.On sf2,mine [.slice _ z.Tapes.length _] z.Tapes sf3] (all_cons so1 (all_cons so2 (all_cons so3 σ))) (by simp [blocks,mine,sq1])
   try dsimp only[lNA,lCA,lSZ,lSS] at H13
   refine bB ah Z zeroValue31 H13 (fun b3 w13 e12 g3 H14=>aF ah cy Z Z Z Z H14 6 Z Z (fun w14 e13 H15=>?_));dsimp only[lNA,lCA,lSZ,lSS,aI] at H15;refine aa (ac (sR 2 Z (sM Z Z ?_)));obtain ⟨fp2,H16⟩:=H15.closeW 6 3 4 5 z Z Z Z Z Z Z Z Z Z Z zK
   try dsimp only[lNA,lCA,lSZ,lSS] at H16
   refine sC func74 uj Z (gW (H16.wldAt 6 Z) (H16.nodup1 (i:=6) Z) (az (H16.seen 3 Z)) (fun b hb=>H16.off 3 Z 6 Z hb) ξ ξ ξ ξ ξ ξ ξ ξ ξ ξ) (fun v7 w15 r7=>?_);obtain ⟨rfl,mm1⟩:=r7;obtain ⟨fp3,H17⟩:=H16.mutW 6 Z mm1
   try dsimp only[lNA,lCA,lSZ,lSS] at H17
   refine sA Z Z (aa (ae ?_));obtain ⟨wA1,wC1,wA2,wC2,wA3,wC3,wf1,wf2,wf3,wok1,H18⟩:=H17.openW 6 Z
   try dsimp only[lNA,lCA,lSZ,lSS] at H18
   have wok1U:=wok1;unfold Wld.Ok Shape.Ok I64ok at wok1U;have wL1:=oL (H18.mine 8 Z);have wL2:=oL (H18.mine 9 Z);have wL3:=oL (H18.mine 10 Z);refine am (sV Z (ak be Z cy Z Z (At.whole (H18.box 6 Z))) (sM Z Z (sE func50 jG Z (fG η (H18.msees 8 Z) (H18.msees 9 Z) (H18.msees 10 Z) ξ) H18 (fun w16 e15 H19=>aF ah cW Z Z Z Z H19 1 Z Z (fun w17 e16 H20=>?_)))));dsimp only[lNA,lCA,lSZ,lSS,aI] at H20;refine aa (bc (hQ _ _ (cp results21 Z (ay eI Z cW Z (At.whole (H20.box 1 Z))) ?_)));rw [mwF,rS hu aq hc];exact ⟨H20.ext,none,0,none,0,none,0,Z,en (by unfold I64ok; have:=Es (z:=z) (g:=g) (row:=row) (xs:=xs); (try dsimp only); omega)⟩
theorem m8 {w:World}{z:Wld}{zA9 zA10 zA11 xsA:Option Addr}{zC9 zC10 zC11 xsC:Nat}{g row:Int}{xs:List UInt8}(zK:z.Ok) (zS9:Sees w [.slice zA9 z.Groups.length zC9] z.Groups) (zS10:Sees w [.slice zA10 z.On.length zC10] z.On) (zS11:Sees w [.slice zA11 z.Tapes.length zC11] z.Tapes) (xsS:Sees w [.slice xsA xs.length xsC] xs) (hb:eC z≤1048576) (hc:(mwP z g row xs).1=0∨(mwP z g row xs).1=9):Ret Tryz.prog 21 #[z.val zA9 zC9 zA10 zC10 zA11 zC11,.int .i64 g,.int .i64 row,.slice xsA xs.length xsC] w fun v w'=>Ext No w w'∧(∃ A10 C10 A11 C11 A12 C12,v=(mwF z g row xs).val A10 C10 A11 C11 A12 C12∧Res w w' [.int .i64 (mwF z g row xs).Code,.int .i64 (mwF z g row xs).Wd.Shape.Groups,.int .i64 (mwF z g row xs).Wd.Shape.Column,.int .i64 (mwF z g row xs).Wd.Shape.Data,.int .i64 (mwF z g row xs).Wd.Shape.Spare,.int .i64 (mwF z g row xs).Wd.Shape.Rows,.int .i64 (mwF z g row xs).Wd.Shape.Cap,.int .i64 (mwF z g row xs).Wd.Shape.Batch,.int .i64 (mwF z g row xs).Wd.Shape.Queue,.int .i64 (mwF z g row xs).Wd.Shape.Stage,.slice A10 (mwF z g row xs).Wd.Groups.length C10,.slice A11 (mwF z g row xs).Wd.On.length C11,.slice A12 (mwF z g row xs).Wd.Tapes.length C12,.int .i64 (mwF z g row xs).Wd.Writes,.int .i64 (mwF z g row xs).Wd.Stop,.bool (mwF z g row xs).Wd.Down] (mwF z g row xs)):=by
 have zK2:=zK;unfold Wld.Ok Shape.Ok at zK2
 try unfold I64ok at zK2
 try unfold maxLen at zK2
 have zL9:=sL zS9;obtain ⟨zF9,zO9⟩:=zS9;have zL10:=sL zS10;obtain ⟨zF10,zO10⟩:=zS10;have zL11:=sL zS11;obtain ⟨zF11,zO11⟩:=zS11;have xsL:=sL xsS;obtain ⟨xsF,xsO⟩:=xsS;refine aH func21 Z ntmps21 Z (fun Q hQ hN=>?_);have H0:=Sep.start (ab zO9 (ab zO10 (ab zO11 (ab xsO aA))));refine ac (bu ah Z Z H0 (fun b1 w1 e1 g1 H1=>bB ah Z zeroValue33 H1 (fun b2 w2 e2 g2 H2=>aa (ac (sV Z (ak be Z cy Z Z (At.whole (H2.box 0 Z))) (sE func57 jH Z (dB η (H2.sees 0 Z) (H2.sees 1 Z) (H2.sees 2 Z)) H2 (fun w3 e3 H3=>sA Z Z (aa (vU (γ:=Unit) H3 [(1,_),(2,_),(3,_),(4,_),(8,_)] ⟨Z,Z,Z,Z,Z,trivial⟩ (fun _=>[(9,.int .i64 (jz z g row xs (z.Shape.Groups-1)))]) (fun _=>True) ?_ (fun _ w4 H4 _=>?_))))))))))
 ·refine ax (ac (sR 3 Z (aa (aC Z (fun c1=>?_) (fun c1=>?_)))))
  ·refine au ?_;exact ⟨(),⟨eqI (rL ω).symm,Z,Z,Z,Z,Z,trivial⟩,H3,trivial⟩
  ·refine ae ?_;obtain ⟨hs,hG,hO⟩:=bx (hZ (w:=z) ω).1;have sbd:=aG hs;refine am (sF be Z bk (sV Z (ak bi Z bk Z Z (At.sub (H3.box 0 Z) 9)) (sM Z Z (sE func65 nh Z (dK η) H3 (fun w5 e4 H5=>sV Z (bh Z) (sM Z Z (bR 5 (j:=5) (want:=false) (t:=29) Z Z Z Z (fun hg1 kk1=>ao (wgE Z Z Z hg1) Z Z (ag be Z bk Z Z) (ao (wgE Z Z Z hg1) Z Z (ak bi Z bk Z Z (At.sub (H5.box 0 Z) 9)) (ao (wgE Z Z Z hg1) Z Z (aL Z) (cj (wgE Z Z Z hg1) Z Z (aR func71 Z iC Z) (cm η) (fun w7 e6=>ao (wgE Z Z Z hg1) Z Z (bh Z) (kk1 _ _ (kx Z (kx Z (kx Z (kx Z (kx Z k0))))) Z (Ext.refl.trans e6))))))) (fun w6 e5=>?_))))))));have H6:=H5.to e5;refine sV Z (fJ Z Z) (sA Z Z (aa (cx Z (fun c2=>?_) (fun c2=>?_))))
   ·refine am (sA Z Z (aa ?_));exact ⟨(),⟨eqI (x8 ω (by intro ⟨h1,h2⟩; simp_all)).symm,Z,Z,Z,Z,Z,trivial⟩,H6,trivial⟩
   ·refine ae (cb (S:=Ext No _) (oQ [1,5,7,2,8,11,12]) κ κ κ Z (fun _=>Ext.refl.drawn _) (fun q1=>?_));have H7:=H6.drawn q1;refine dM Z Z Z (dV Z Z (fun zw hx=>ag be Z bk Z Z) (dV Z Z (fun zw hx=>ak bi Z bk Z Z (At.sub (hx.heap (H7.box 0 Z)) 9)) (dC func72 iM Z (dQ (H7.sees 3 Z)) (fun v3 w8 r3=>?_))));obtain ⟨e7,rfl⟩:=r3;have H8:=H7.to e7;refine dC func73 jA Z (cd η) (fun v4 w9 r4=>?_);obtain ⟨e8,rfl⟩:=r4;have H9:=H8.to e8;refine dV Z Z (fun zw hx=>ez Z Z) (aW Z ah Z Z (bg Z) (bb (aC Z (fun c3=>?_) (fun c3=>?_))))
    ·refine am (sA Z Z (aa ?_));exact ⟨(),⟨eqI (wN ω (by simp_all) (by simp_all)).symm,Z,Z,Z,Z,Z,trivial⟩,H9,trivial⟩
    ·refine am (sM Z Z (sE func63 uM Z (fU (H9.box 0 Z) η (H9.sees 0 Z) (H9.sees 1 Z) (H9.sees 2 Z) η η) H9 (fun w10 e9 H10=>sA Z Z (aa ?_))));exact ⟨(),⟨eqI (sb hs ω (by simp_all) (by simp_all) (by simp_all)).symm,Z,Z,Z,Z,Z,trivial⟩,H10,trivial⟩
 ·dsimp only[lCA,lNA];refine ae (ac (sR 2 Z (aa (aC Z (fun c4=>?_) (fun c4=>?_)))))
  ·refine ac (sM Z Z (sV Z (aP ce Z Z) (aF ah cW Z Z Z Z H4 1 Z Z (fun w11 e10 H11=>?_))));dsimp only[lNA,lCA,lSZ,lSS,aI] at H11;refine aa (bc (hQ _ _ (cp results21 Z (ay eI Z cW Z (At.whole (H11.box 1 Z))) ?_)))
   by_cases hu:upF z=0
   ·rw [mwF,pi hu c4];exact ⟨H11.ext,none,0,none,0,none,0,Z,en (by unfold I64ok; have:=rM (z:=z) (g:=g) (row:=row) (xs:=xs) (most:=(z.Shape.Groups-1)); (try dsimp only); omega)⟩
   ·rw [mwF,rJ hu,← rL (g:=g) (row:=row) (xs:=xs) (most:=(z.Shape.Groups-1)) hu];exact ⟨H11.ext,none,0,none,0,none,0,Z,en (by unfold I64ok; have:=rM (z:=z) (g:=g) (row:=row) (xs:=xs) (most:=(z.Shape.Groups-1)); (try dsimp only); omega)⟩
  ·refine au (ae ?_);have ho0:(jz z g row xs (z.Shape.Groups-1))=0:=by
    have ho1:¬ ((jz z g row xs (z.Shape.Groups-1))≠0):=c4
    omega
   obtain ⟨hu,hg0,hr,hx,hon,hd⟩:=AG ho0;obtain ⟨hwf,hdn⟩:=hZ hu;obtain ⟨hs,hG,hO⟩:=bx hwf;have hT:=(bx hwf).2.2.2.1;obtain ⟨hw0,hw1,_,_⟩:=gE hwf;have hrl:=lD hwf;have hrl2:=lQ hwf;have hq:=gQ hwf;have aq:(jz z g row xs (z.Shape.Groups-1))=0:=ho0;refine am (sV Z (ak be Z cy Z Z (At.whole (H4.box 0 Z))) (sC func48 fR Z (bU η (H4.sees 0 Z) (H4.sees 1 Z) (H4.sees 2 Z) ξ) (fun v6 w12 r6=>?_)));obtain ⟨e11,sa1,sk1,sa2,sk2,sa3,sk3,rfl,r6⟩:=r6;obtain ⟨fp1,H12⟩:=H4.res e11 r6;obtain ⟨sf1,sf2,sf3,sq1,sok1,so1,so2,so3⟩:=ib (H12.mine 2 Z);have H13:=H12.part 2 Z [mine [.slice _ z.Groups.length _] z.Groups sf1,mine [.slice _ z.On.length _] z.On sf2,mine [.slice _ z.Tapes.length _] z.Tapes sf3] (all_cons so1 (all_cons so2 (all_cons so3 σ))) (by simp [blocks,mine,sq1])
   try dsimp only[lNA,lCA,lSZ,lSS] at H13
   refine bB ah Z zeroValue31 H13 (fun b3 w13 e12 g3 H14=>aF ah cy Z Z Z Z H14 6 Z Z (fun w14 e13 H15=>?_));dsimp only[lNA,lCA,lSZ,lSS,aI] at H15;refine aa (ac (sR 2 Z (sM Z Z ?_)));obtain ⟨fp2,H16⟩:=H15.closeW 6 3 4 5 z Z Z Z Z Z Z Z Z Z Z zK
   try dsimp only[lNA,lCA,lSZ,lSS] at H16
   refine sC func74 uj Z (gW (H16.wldAt 6 Z) (H16.nodup1 (i:=6) Z) (az (H16.seen 3 Z)) (fun b hb=>H16.off 3 Z 6 Z hb) ξ ξ ξ ξ ξ ξ ξ ξ ξ ξ) (fun v7 w15 r7=>?_);obtain ⟨rfl,mm1⟩:=r7;obtain ⟨fp3,H17⟩:=H16.mutW 6 Z mm1
   try dsimp only[lNA,lCA,lSZ,lSS] at H17
   refine sA Z Z (aa (ae ?_));obtain ⟨wA1,wC1,wA2,wC2,wA3,wC3,wf1,wf2,wf3,wok1,H18⟩:=H17.openW 6 Z
   try dsimp only[lNA,lCA,lSZ,lSS] at H18
   have wok1U:=wok1;unfold Wld.Ok Shape.Ok I64ok at wok1U;have wL1:=oL (H18.mine 8 Z);have wL2:=oL (H18.mine 9 Z);have wL3:=oL (H18.mine 10 Z);refine am (sV Z (ak be Z cy Z Z (At.whole (H18.box 6 Z))) (sM Z Z (sE func50 jG Z (fj η (H18.msees 8 Z) (H18.msees 9 Z) (H18.msees 10 Z) (by first | assumption | (split<;>simp))) H18 (fun w16 e15 H19=>aF ah cW Z Z Z Z H19 1 Z Z (fun w17 e16 H20=>?_)))));dsimp only[lNA,lCA,lSZ,lSS,aI] at H20;refine aa (bc (hQ _ _ (cp results21 Z (ay eI Z cW Z (At.whole (H20.box 1 Z))) ?_)));rw [mwF,oW hu aq hc];exact ⟨H20.ext,_,_,_,_,_,_,Z,WldResult.out (x:=⟨(mwP z g row xs).1,(mwP z g row xs).2⟩) (H20.sub (.cons _ (.cons _ (.cons _ (.cons _ (.cons _ (.cons _ (.cons _ (.cons _ (.cons_cons _ (.cons_cons _ (.cons_cons _ List.Sublist.slnil)))))))))))) ⟨(by have:=Es (z:=z) (g:=g) (row:=row) (xs:=xs); show I64ok ((mwP z g row xs).1); unfold I64ok; omega),η⟩⟩
theorem pH {w:World}{z:Wld}{zA9 zA10 zA11 xsA:Option Addr}{zC9 zC10 zC11 xsC:Nat}{g row:Int}{xs:List UInt8}(zK:z.Ok) (zS9:Sees w [.slice zA9 z.Groups.length zC9] z.Groups) (zS10:Sees w [.slice zA10 z.On.length zC10] z.On) (zS11:Sees w [.slice zA11 z.Tapes.length zC11] z.Tapes) (xsS:Sees w [.slice xsA xs.length xsC] xs) (hb:eC z≤1048576):Ret Tryz.prog 21 #[z.val zA9 zC9 zA10 zC10 zA11 zC11,.int .i64 g,.int .i64 row,.slice xsA xs.length xsC] w fun v w'=>Ext No w w'∧(∃ A10 C10 A11 C11 A12 C12,v=(mwF z g row xs).val A10 C10 A11 C11 A12 C12∧Res w w' [.int .i64 (mwF z g row xs).Code,.int .i64 (mwF z g row xs).Wd.Shape.Groups,.int .i64 (mwF z g row xs).Wd.Shape.Column,.int .i64 (mwF z g row xs).Wd.Shape.Data,.int .i64 (mwF z g row xs).Wd.Shape.Spare,.int .i64 (mwF z g row xs).Wd.Shape.Rows,.int .i64 (mwF z g row xs).Wd.Shape.Cap,.int .i64 (mwF z g row xs).Wd.Shape.Batch,.int .i64 (mwF z g row xs).Wd.Shape.Queue,.int .i64 (mwF z g row xs).Wd.Shape.Stage,.slice A10 (mwF z g row xs).Wd.Groups.length C10,.slice A11 (mwF z g row xs).Wd.On.length C11,.slice A12 (mwF z g row xs).Wd.Tapes.length C12,.int .i64 (mwF z g row xs).Wd.Writes,.int .i64 (mwF z g row xs).Wd.Stop,.bool (mwF z g row xs).Wd.Down] (mwF z g row xs)):=by
 by_cases h2:(mwP z g row xs).1=0∨(mwP z g row xs).1=9
 ·exact m8 zK zS9 zS10 zS11 xsS hb h2
 ·exact lF zK zS9 zS10 zS11 xsS hb ω
end Go.Wk
namespace Go.Wk
open Go.Proofs Rp Go.Proofs.Tryz
set_option maxRecDepth 10000
theorem kH {w:World}{zb zC9 zC10 zC11:Nat}{z:Wld}{zA9 zA10 zA11:Option Addr}{zF9 zF10 zF11:List Nat}{g:Int}(zB:w.heap[zb]? = some (.cells [.int .i64 z.Shape.Groups,.int .i64 z.Shape.Column,.int .i64 z.Shape.Data,.int .i64 z.Shape.Spare,.int .i64 z.Shape.Rows,.int .i64 z.Shape.Cap,.int .i64 z.Shape.Batch,.int .i64 z.Shape.Queue,.int .i64 z.Shape.Stage,.slice zA9 z.Groups.length zC9,.slice zA10 z.On.length zC10,.slice zA11 z.Tapes.length zC11,.int .i64 z.Writes,.int .i64 z.Stop,.bool z.Down].toArray 31)) (zK:z.Ok) (zO9:own false w [.slice zA9 z.Groups.length zC9] z.Groups zF9) (zO10:own false w [.slice zA10 z.On.length zC10] z.On zF10) (zO11:own false w [.slice zA11 z.Tapes.length zC11] z.Tapes zF11) (hs:z.Shape.ok=true) (hT:z.Tapes.length=2) (hrl:∀ k,(z.Tapes.getD k default).Recs.length≤200000) (hb:eC z≤1048576):Ret Tryz.prog 130 #[.pointer (some ⟨zb,0,none⟩),.int .i64 g] w fun v w'=>Ext No w w'∧(Res w w' [v] (dI z g z.Shape.Rows.toNat)):=by
 have zK2:=zK;unfold Wld.Ok Shape.Ok at zK2
 try unfold I64ok at zK2
 try unfold maxLen at zK2
 have zL9:=oL zO9;have zL10:=oL zO10;have zL11:=oL zO11;have sbd:=aG hs;refine aH func130 Z ntmps130 Z (fun Q hQ hN=>?_);have H0:=Sep.start (bX zB (ab zO9 (ab zO10 (ab zO11 aA))));refine ac (sA Z Z (aa (ac (eZ (α:=Rec) ah Z br dm H0 (fun b1 w1 e1 g1 H1=>sA Z Z (aa (ae (ac (sR 2 Z (sF be Z bk (sF bi Z ts2 (sLd tu2 (H1.fbox 0 Z) Z (sM Z Z (aa (ax (iT (α:=Rec) (γ:=Nat) (fun k=>(dI z g k)) 0 H1 0 Z 5 Z [(0,_),(1,_),(4,_),(14,_)] ⟨Z,Z,Z,Z,trivial⟩ (fun k=>[(15,.int .i64 k)]) (fun k=>k≤z.Shape.Rows.toNat∧True) (fun k=>z.Shape.Rows.toNat-k) ⟨Z,trivial⟩ ⟨ω,trivial⟩ (fun k vA1 fA1 w2 H2 ⟨hk,_⟩=>?_)))))))))))))))));dsimp only[lCA,lNA,lSZ,lSS] at H2 ⊢;refine ac (sV Z (aX Z Z) (aa (ae (aC Z (fun c1=>?_) (fun c1=>?_)))))
 ·refine au (ae (ax (ac (sR 2 Z (aa (ac (sR 3 Z (sC func150 oJ Z (dX (H2.fbox 0 Z) η (az (H2.seen 1 Z)) (az (H2.seen 2 Z)) (az (H2.seen 3 Z)) ξ ξ) (fun v1 w3 r1=>?_)))))))));obtain ⟨e2,pA1,pA2,pA3,pA4,pA5,pA6,rfl,hI1⟩:=r1;have H3:=H2.to e2;obtain ⟨pf1,pf2,pf3,pok1,pl1,pl2,pl3,H4⟩:=H3.recF 3 Z hI1;unfold maxLen at pl1 pl2 pl3
  try dsimp only[lNA,lCA,lSZ,lSS] at H4
  refine sR 3 Z (bB ah Z zeroValue59 H4 (fun b2 w4 e3 g2 H5=>aF ah aO Z Z Z Z H5 1 Z Z (fun w5 e4 H6=>?_)));dsimp only[lNA,lCA,lSZ,lSS,aI] at H6;refine sA Z Z (aa (ac (sM Z Z (aa (cx Z (fun c2=>?_) (fun c2=>?_))))))
  ·have hsz:=yA (z:=z) (g:=g) (row:=k);have hsl:=pQ (z:=z) (g:=g) (n:=k);refine am (sM Z Z (sV Z (ak aD Z aO Z Z (At.whole (H6.box 1 Z))) (sC func173 lz Z (eV η (H6.sees 4 Z) (H6.sees 5 Z) (H6.sees 6 Z) ξ) (fun v2 w6 r2=>?_))));obtain ⟨e5,sa1,sk1,sa2,sk2,sa3,sk3,rfl,r2⟩:=r2;obtain ⟨fp1,H7⟩:=H6.res e5 r2;refine eB ah Z br dm Z Z Z Z H7 (fun b3 w7 e6 g3 H8=>ma ah Z br dm Z Z Z H8 0 3 2 Z Z Z Z (by unfold maxLen; omega) ω (fun v3 w8 fp2 H9=>sA Z Z (aa (am (sV Z (aE Z Z iO) (sM Z Z (aa ?_)))))));rw [← DD (by simpa using c2)] at H9;exact ⟨(k+1,_,_),⟨Z,Z,Z,Z,Z,Z,trivial⟩,⟨((H9.ftake 4).dtake 1),ω,trivial⟩,θ⟩
  ·refine au (am (sV Z (aE Z Z iO) (sM Z Z (aa ?_))));rw [← Gr (by simpa using c2)] at H6;exact ⟨(k+1,_,_),⟨Z,Z,Z,Z,Z,Z,trivial⟩,⟨((H6.ftake 4).dtake 1),ω,trivial⟩,θ⟩
 ·refine aT (ac (sR 2 Z (rN hQ results130 Z ?_)));obtain rfl:k=z.Shape.Rows.toNat:=by omega
  exact ⟨H2.ext,H2.out 0 Z⟩
theorem o5 {w:World}{zb zC9 zC10 zC11:Nat}{z:Wld}{zA9 zA10 zA11:Option Addr}{zF9 zF10 zF11:List Nat}{g row:Int}(zB:w.heap[zb]? = some (.cells [.int .i64 z.Shape.Groups,.int .i64 z.Shape.Column,.int .i64 z.Shape.Data,.int .i64 z.Shape.Spare,.int .i64 z.Shape.Rows,.int .i64 z.Shape.Cap,.int .i64 z.Shape.Batch,.int .i64 z.Shape.Queue,.int .i64 z.Shape.Stage,.slice zA9 z.Groups.length zC9,.slice zA10 z.On.length zC10,.slice zA11 z.Tapes.length zC11,.int .i64 z.Writes,.int .i64 z.Stop,.bool z.Down].toArray 31)) (zK:z.Ok) (zO9:own false w [.slice zA9 z.Groups.length zC9] z.Groups zF9) (zO10:own false w [.slice zA10 z.On.length zC10] z.On zF10) (zO11:own false w [.slice zA11 z.Tapes.length zC11] z.Tapes zF11) (hT:z.Tapes.length=2) (hrl:∀ k,(z.Tapes.getD k default).Recs.length≤200000) (hbz:ff (opR z g row)≤1048576):Ret Tryz.prog 91 #[.pointer (some ⟨zb,0,none⟩),.int .i64 g,.int .i64 row] w fun v w'=>Ext No w w'∧(∃ A C A6 C6 A7 C7 A8 C8,v = .tuple #[.slice A (kT z g row).length C,(l4 z g row).val A6 C6 A7 C7 A8 C8,.int .i64 (cR z g row)]∧Res w w' [.slice A (kT z g row).length C] (kT z g row)∧InF w' zF11 (RecV.mk (l4 z g row) A6 C6 A7 C7 A8 C8).cs (l4 z g row)):=by
 have zK2:=zK;unfold Wld.Ok Shape.Ok at zK2
 try unfold I64ok at zK2
 try unfold maxLen at zK2
 have zL9:=oL zO9;have zL10:=oL zO10;have zL11:=oL zO11;have hszu:(opR z g row).Data.length≤ff (opR z g row):=by unfold ff; omega
 refine aH func91 Z ntmps91 Z (fun Q hQ hN=>?_);have H0:=Sep.start (bX zB (ab zO9 (ab zO10 (ab zO11 aA))));refine ac (sA Z Z (bB ah Z zeroValue59 H0 (fun b1 w1 e1 g1 H1=>sA Z Z (aa (ac (sR 3 Z (sC func150 oJ Z (dX (H1.fbox 0 Z) η (az (H1.seen 1 Z)) (az (H1.seen 2 Z)) (az (H1.seen 3 Z)) ξ ξ) (fun v1 w2 r1=>?_))))))));obtain ⟨e2,pA1,pA2,pA3,pA4,pA5,pA6,rfl,hI1⟩:=r1;have H2:=H1.to e2;obtain ⟨pf1,pf2,pf3,pok1,pl1,pl2,pl3,H3⟩:=H2.recF 3 Z hI1;unfold maxLen at pl1 pl2 pl3
 try dsimp only[lNA,lCA,lSZ,lSS] at H3
 refine sR 3 Z (bB ah Z zeroValue59 H3 (fun b2 w3 e3 g2 H4=>aF ah aO Z Z Z Z H4 1 Z Z (fun w4 e4 H5=>?_)));dsimp only[lNA,lCA,lSZ,lSS,aI] at H5;refine sA Z Z (aa (ae (ax (ac (sM Z Z (sV Z (bh Z) (sA Z Z (aa (cx Z (fun c1=>?_) (fun c1=>?_))))))))))
 ·refine ac (sV Z (aP gU Z Z) (sA Z Z (aF ah aO Z Z Z Z H5 0 Z Z (fun w5 e5 H6=>?_))));dsimp only[lNA,lCA,lSZ,lSS,aI] at H6;refine sA Z Z (aa (bc (hQ _ _ (qo results91 Z (ay aD Z aO Z (At.whole (H6.box 0 Z))) Z Z (⟨H6.ext,none,0,none,0,none,0,none,0,?_,?_,?_⟩)))))
  ·rw [gP (dO (by simpa using c1) ▸ by omega),gS (dO (by simpa using c1) ▸ by omega),dO (by simpa using c1)]; rfl
  ·rw [gP (dO (by simpa using c1) ▸ by omega)]; exact ⟨[],.inr (.inl ⟨rfl,rfl,rfl⟩),.nil,σ⟩
  ·rw [gS (dO (by simpa using c1) ▸ by omega)]; exact my
 ·refine ac (sV Z (ak aD Z aO Z Z (At.whole (H5.box 1 Z))) (sE func158 sr Z (ja η (H5.sees 4 Z) (H5.sees 5 Z) (H5.sees 6 Z)) H5 (fun w6 e6 H7=>sV Z (bh Z) (sA Z Z (aa (cx Z (fun c2=>?_) (fun c2=>?_)))))))
  ·refine ac (sV Z (aP gU Z Z) (sA Z Z (aF ah aO Z Z Z Z H7 0 Z Z (fun w7 e7 H8=>?_))));dsimp only[lNA,lCA,lSZ,lSS,aI] at H8;refine sA Z Z (aa (bc (hQ _ _ (qo results91 Z (ay aD Z aO Z (At.whole (H8.box 0 Z))) Z Z ?_))));have hcz:cR z g row=6:=qP (by simpa using c1) (by simpa using c2);refine ⟨H8.ext,none,0,none,0,none,0,none,0,?_,?_,?_⟩
   ·rw [gP ω,gS ω,hcz]; rfl
   ·rw [gP ω]; exact ⟨[],.inr (.inl ⟨rfl,rfl,rfl⟩),.nil,σ⟩
   ·rw [gS ω]; exact my
  ·refine au (ae (cb (S:=Ext (· ∈ [b1]) _) (oQ [1,3,7,4,9,10,12]) κ κ κ Z (fun _=>Ext.refl.drawn _) (fun q1=>?_)));have H9:=H7.drawn q1;refine dV Z Z (fun zw hx=>ag aD Z bf Z Z) (dV Z Z (fun zw hx=>aj aZ Z Z (al (hx.heapM (H9.boff 1 Z 0 Z Z) (H9.box 1 Z)) Z)) (dV Z Z (fun zw hx=>ak aD Z aO Z Z (At.whole (hx.heapM (H9.boff 1 Z 0 Z Z) (H9.box 1 Z)))) (dC func62 bd Z (aQ (H9.sees 5 Z) ω) (fun v3 w8 r3=>?_))));obtain ⟨e8,r3⟩:=r3;obtain ⟨fp1,H10⟩:=H9.res e8 r3;obtain ⟨a1,k1,q2⟩:=an (H10.mine 2 Z);cases q2;refine dV Z Z (fun zw hx=>bg Z) (qe Z ah aO Z Z Z Z H10 0 Z Z (fun _ h e _=>h.trans (e.mono fun _ _ q=>by simp [q])) (fun w9 e9 H11=>?_));dsimp only[lNA,lCA,lSZ,lSS,aI] at H11;refine aW Z ah Z Z (bg Z) (bb (bc (hQ _ _ (qo results91 Z (ay aD Z aO Z (At.whole (H11.box 0 Z))) Z Z ?_))));have hcz:cR z g row=0:=tc (by simpa using c1) (by simpa using c2);rw [lX hcz,oR hcz,hcz];exact ⟨H11.ext,_,_,pA1,pA2,pA3,pA4,pA5,pA6,Z,H11.out 2 Z,(hI1.back H2.ext (Rp.lt zO11)).to H11.ext⟩
theorem nG {w:World}{zb zC9 zC10 zC11:Nat}{z:Wld}{zA9 zA10 zA11:Option Addr}{zF9 zF10 zF11:List Nat}{g row:Int}(zB:w.heap[zb]? = some (.cells [.int .i64 z.Shape.Groups,.int .i64 z.Shape.Column,.int .i64 z.Shape.Data,.int .i64 z.Shape.Spare,.int .i64 z.Shape.Rows,.int .i64 z.Shape.Cap,.int .i64 z.Shape.Batch,.int .i64 z.Shape.Queue,.int .i64 z.Shape.Stage,.slice zA9 z.Groups.length zC9,.slice zA10 z.On.length zC10,.slice zA11 z.Tapes.length zC11,.int .i64 z.Writes,.int .i64 z.Stop,.bool z.Down].toArray 31)) (zK:z.Ok) (zO9:own false w [.slice zA9 z.Groups.length zC9] z.Groups zF9) (zO10:own false w [.slice zA10 z.On.length zC10] z.On zF10) (zO11:own false w [.slice zA11 z.Tapes.length zC11] z.Tapes zF11) (hs:z.Shape.ok=true) (hG:aN z=true) (hg:ins g 0 (z.Shape.Groups+z.Shape.Column-1)=true) (hr:ins row 0 (z.Shape.Rows-1)=true) (hT:z.Tapes.length=2) (hrl:∀ k,(z.Tapes.getD k default).Recs.length≤200000) (hbz:ff (opR z g row)≤1048576) (hA:RecsOK z) (ho:cQ z g=true→cR z g row=0):Ret Tryz.prog 133 #[.pointer (some ⟨zb,0,none⟩),.int .i64 g,.int .i64 row] w fun v w'=>Ext No w w'∧(∃ A C,v = .tuple #[.slice A (fK z g row).length C,.int .i64 (gY z g row)]∧Res w w' [.slice A (fK z g row).length C] (fK z g row)):=by
 have zK2:=zK;unfold Wld.Ok Shape.Ok at zK2
 try unfold I64ok at zK2
 try unfold maxLen at zK2
 have zL9:=oL zO9;have zL10:=oL zO10;have zL11:=oL zO11;have sbd:=aG hs;have hri:=aJ.1 hr;refine aH func133 Z ntmps133 Z (fun Q hQ hN=>?_);have H0:=Sep.start (bX zB (ab zO9 (ab zO10 (ab zO11 aA))));refine ac (sR 2 Z (aa (ae (ac (sR 2 Z (sE func80 jE Z (cV (H0.fbox 0 Z) η (H0.sees 1 Z) (H0.sees 2 Z) (H0.sees 3 Z) (by first | assumption | exact hgz (by simp_all)) (by first | assumption | exact hgz (by simp_all)) (by first | assumption | exact hgz (by simp_all))) H0 (fun w1 e1 H1=>aa (cx Z (fun c1=>?_) (fun c1=>?_)))))))))
 ·refine ac (sR 3 Z (sC func91 vk Z (o5 (H1.fbox 0 Z) η (az (H1.seen 1 Z)) (az (H1.seen 2 Z)) (az (H1.seen 3 Z)) ξ ξ ξ) (fun v2 w2 r2=>?_)));obtain ⟨e2,pA1,pA2,pA3,pA4,pA5,pA6,pA7,pA8,rfl,r2,hI1⟩:=r2;obtain ⟨fp1,H2⟩:=H1.res e2 r2;refine sR 4 Z (bB ah Z zeroValue59 H2 (fun b1 w3 e3 g1 H3=>sA Z Z (aF ah aO Z Z Z Z H3 1 Z Z (fun w4 e4 H4=>?_))));dsimp only[lNA,lCA,lSZ,lSS,aI] at H4;refine sA Z Z (aa (ae ?_));have hd:cQ z g=true:=by simpa using c1
  have hw0:=ho hd;have hop:=ta hw0;have hrl9:((kT z g row).length:Int)=z.Shape.Data*4:=by rw [lX hw0]; exact (tB (Bq hA hop) (Bw hop).1).2.2.2.1
  refine cb (S:=Ext No _) (oQ [1,3,5,7,11,15,17,8,12,19,20]) κ κ κ Z (fun _=>Ext.refl.drawn _) (fun q1=>?_);have H5:=H4.drawn q1;refine dR 2 Z (dV Z Z (fun zw hx=>ag be Z bk Z Z) (dV Z Z (fun zw hx=>ak bi Z bk Z Z (At.sub (hx.heap (H5.fbox 0 Z)) 9)) (dM Z Z Z (dV Z Z (fun zw hx=>ag aD Z ts2 Z Z) (dV Z Z (fun zw hx=>aj tu2 Z Z (al (hx.heap (H5.box 1 Z)) Z)) (dC func136 iJ Z (dc η) (fun v3 w5 r3=>?_)))))));obtain ⟨e5,rfl⟩:=r3;have H6:=H5.to e5;refine dC func137 jM Z (cL (n:=z.Shape.Data.toNat) (s:=z.Shape.Spare.toNat) ω ω ω ω ⟨_,az (H6.mine 0 Z)⟩) (fun v4 w6 r4=>?_);obtain ⟨e6,r4⟩:=r4;obtain ⟨fp2,H7⟩:=H6.res e6 r4;obtain ⟨a1,k1,q2⟩:=an (H7.mine 2 Z);cases q2;refine dV Z Z (fun zw hx=>bg Z) (aW Z ah Z Z (bg Z) (bb (bc (hQ _ _ (qB results133 Z Z ?_)))));have e1:(fK z g row)=ki z.Shape.Data.toNat (z.Shape.Data.toNat+z.Shape.Spare.toNat) (kT z g row):=by unfold fK Az; rw [if_pos hd,lX hw0]
  have e2:gY z g row=(l4 z g row).Seq:=by rw [oR hw0]; exact if_pos hd
  rw [e1,e2];exact ⟨H7.ext,_,_,Z,H7.out 2 Z⟩
 ·refine au (ae ?_);have hd:cQ z g=false:=by simpa using c1
  have hrl9:=lg hs hG hg hr hd;refine am (sR 2 Z (sF be Z bk (sV Z (ak bi Z bk Z Z (At.sub (H1.fbox 0 Z) 9)) (sE func136 iJ Z (dc η) H1 (fun w7 e7 H8=>sR 3 Z (sC func81 lk Z (cJ (H8.fbox 0 Z) η (az (H8.seen 1 Z)) (az (H8.seen 2 Z)) (az (H8.seen 3 Z)) η η η η) (fun v6 w8 r6=>?_)))))));obtain ⟨e8,r6⟩:=r6;obtain ⟨fp3,H9⟩:=H8.res e8 r6;obtain ⟨a2,k2,q3⟩:=an (H9.mine 0 Z);cases q3;refine sC func137 jM Z (cL (n:=z.Shape.Data.toNat) (s:=z.Shape.Spare.toNat) ω ω ω ω ⟨_,az (H9.mine 0 Z)⟩) (fun v7 w9 r7=>?_);obtain ⟨e9,r7⟩:=r7;obtain ⟨fp4,H10⟩:=H9.res e9 r7;obtain ⟨a3,k3,q4⟩:=an (H10.mine 1 Z);cases q4;refine sR 3 Z (sE func202 Aa Z (kI (H10.fbox 0 Z) η (H10.sees 1 Z) (H10.sees 2 Z) (H10.sees 3 Z) η η η η) H10 (fun w10 e10 H11=>sR 2 Z (aa (bc (hQ _ _ (qB results133 Z Z ?_))))));have e1:(fK z g row)=ki z.Shape.Data.toNat (z.Shape.Data.toNat+z.Shape.Spare.toNat) (jb z g row):=by unfold fK Az; rw [if_neg (by simp [hd])]
  have e2:gY z g row=dx (z.Groups.getD g.toNat []) row.toNat (z.Groups.getD g.toNat []).length:=if_neg (by simp [hd]);rw [e1,e2];exact ⟨H11.ext,_,_,Z,H11.out 1 Z⟩
theorem ld {w:World}{z:Wld}{zb i b1 b2 b3:Nat}{g:Int}{fp:List Nat}(o:OwnW w zb 31 z fp) (nd:fp.Nodup) (h1:w.heap[b1]? = some (.cells [.pointer (some ⟨zb,0,none⟩)].toArray 86)) (d1:b1 ∉ fp) (h2:w.heap[b2]? = some (.cells [.int .i64 g].toArray 2)) (d2:b2 ∉ fp) (h3:w.heap[b3]? = some (.cells [.int .i64 (i:Nat)].toArray 2)) (d3:b3 ∉ fp) (hg:0≤g∧g.toNat<z.Groups.length) (hi:i<(z.Groups.getD g.toNat []).length):Ret Tryz.prog 205 #[.pointer (some ⟨b1,0,none⟩),.pointer (some ⟨b2,0,none⟩),.pointer (some ⟨b3,0,none⟩)] w fun v w'=>(MutW w w' fp zb 31 (trT g.toNat i z)):=by
 refine aH func205 Z ntmps205 Z (fun Q hQ hN=>?_);have H0:=(((Sep.beginW o nd).boxF h1 d1).boxF h2 d2).boxF h3 d3
 try dsimp only[lNA,lCA,lSZ,lSS] at H0
 obtain ⟨wA1,wC1,wA2,wC2,wA3,wC3,wf1,wf2,wf3,wok1,H1⟩:=H0.openW 0 Z
 try dsimp only[lNA,lCA,lSZ,lSS] at H1
 have wok1U:=wok1;unfold Wld.Ok Shape.Ok I64ok at wok1U;have wL1:=oL (H1.mine 2 Z);have wL2:=oL (H1.mine 3 Z);have wL3:=oL (H1.mine 4 Z);obtain ⟨eb1,eo1,eT1,eF1,eG1,ea1,ek1,eg1,ee1,eH1⟩:=H1.focusL 2 Z g.toNat ω
 try dsimp only[lNA,lCA,lSZ,lSS] at eH1
 obtain ⟨eb2,eo2,eT2,eF2,eG2,ea2,ek2,eg2,ee2,eK1,eH2⟩:=Drive.focus eH1 5 Z i ω;have eK1U:=eK1;unfold Drive.Ok at eK1U
 try unfold I64ok at eK1U
 try unfold maxLen at eK1U
 try dsimp only[lNA,lCA,lSZ,lSS] at eH2
 refine cb (S:=Ext No _) (oQ [1,3,5,7,9,11,13,15,17,19,20]) κ κ κ Z (fun _=>Ext.refl.drawn _) (fun q1=>?_);have H2:=eH2.drawn q1;refine dV Z Z (fun zw hx=>aj xN Z Z (al (hx.heap (H2.fbox 0 Z)) Z)) (dV Z Z (fun zw hx=>fH Z) (dV Z Z (fun zw hx=>ag be Z kh Z Z) (dV Z Z (fun zw hx=>aj fW Z Z (al (hx.heap (H2.box 0 Z)) Z)) (dV Z Z (fun zw hx=>aj tu2 Z Z (al (hx.heap (H2.fbox 1 Z)) Z)) (dV Z Z (fun zw hx=>aB fW ud Z Z ee1 g.toNat ω ω) (dV Z Z (fun zw hx=>aj fl Z Z (eu (hx.at (H2.holAt 2 Z)) 0 Z)) (dV Z Z (fun zw hx=>aj tu2 Z Z (al (hx.heap (H2.fbox 2 Z)) Z)) (dV Z Z (fun zw hx=>aB fl gD Z Z ee2 i ω ω) (dV Z Z (fun zw hx=>ag iz Z ts4 Z Z) (oG Z ah ts4 H2 5 0 Z Z Z Z Z (fun _ _ _ hr=>absurd Z hr) (fun w1 H3=>?_)))))))))));dsimp only[lNA,lCA,lSZ,lSS,aI] at H3;refine bb (hN _ _ (jo results205 ?_));obtain ⟨fp1,H4⟩:=Drive.fill H3 5 7 Z Z Z trivial
 try dsimp only[lNA,lCA,lSZ,lSS] at H4
 obtain ⟨fp2,H5⟩:=H4.fill 2 5 Z Z Z
 try dsimp only[lNA,lCA,lSZ,lSS] at H5
 obtain ⟨fp3,H6⟩:=H5.closeW 0 2 3 4 (trT g.toNat i z) Z Z Z Z Z Z Z Z Z Z (show (trT g.toNat i z).Ok from wok1)
 try dsimp only[lNA,lCA,lSZ,lSS] at H6
 exact H6.doneW
theorem mi {w:World}{z:Wld}{zb i:Nat}{fp:List Nat}{g:Int}(o:OwnW w zb 31 z fp) (nd:fp.Nodup) (hg:0≤g∧g.toNat<z.Groups.length) (hi:i<(z.Groups.getD g.toNat []).length) (hw:z.Writes≤2000000000):Ret Tryz.prog 135 #[.pointer (some ⟨zb,0,none⟩),.int .i64 g,.int .i64 i] w fun v w'=>(v = .bool (!bv z)∧MutW w w' fp zb 31 (trW g.toNat i z)):=by
 refine aH func135 Z ntmps135 Z (fun Q hQ hN=>?_);have H0:=Sep.beginW o nd;refine ac (bu ah Z Z H0 (fun b1 w1 e1 g1 H1=>bu ah Z Z H1 (fun b2 w2 e2 g2 H2=>bu ah Z Z H2 (fun b3 w3 e3 g3 H3=>sA Z Z (aa (ac (sLd xN (H3.box 1 Z) Z (sV Z (kl Z) (sC func203 oo Z (ga (H3.wldAt 0 Z) (H3.nodup1 (i:=0) Z) (y:=trT g.toNat i z) func205 Z An (fun w1 fp1 o1 n1 s1 e1=>ld o1 n1 (H3.boxFar 0 1 Z Z Z s1 e1).1 (H3.boxFar 0 1 Z Z Z s1 e1).2 (H3.boxFar 0 2 Z Z Z s1 e1).1 (H3.boxFar 0 2 Z Z Z s1 e1).2 (H3.boxFar 0 3 Z Z Z s1 e1).1 (H3.boxFar 0 3 Z Z Z s1 e1).2 hg hi) ξ) (fun v1 w4 r1=>?_))))))))));obtain ⟨rfl,mm1⟩:=r1;obtain ⟨fp1,H4⟩:=H3.mutW 0 Z mm1
 try dsimp only[lNA,lCA,lSZ,lSS] at H4
 refine rA hQ results135 Z ?_;exact ⟨Z,H4.doneW⟩
end Go.Wk
namespace Go.Wk
open Go.Proofs Rp Go.Proofs.Tryz
set_option maxRecDepth 10000
set_option maxHeartbeats 1000000 in
theorem dD {w:World}{z:Wld}{zb:Nat}{fp:List Nat}{g:Int}(o:OwnW w zb 31 z fp) (nd:fp.Nodup) (hwf:cz z=0) (hg:ins g 0 (z.Shape.Groups+z.Shape.Column-1)=true) (hb:eC z≤1048576):Ret Tryz.prog 76 #[.pointer (some ⟨zb,0,none⟩),.int .i64 g] w fun v w'=>(v = .int .i64 (rbP z g).1∧MutW w w' fp zb 31 ((rbP z g).2)):=by
 obtain ⟨hs,hG,hO⟩:=bx hwf;have hT:=(bx hwf).2.2.2.1;obtain ⟨hw0,hw1,_,_⟩:=gE hwf;have hrl:=lD hwf;have hA:=oT hwf;have sbd:=aG hs;have hzok:z.Ok:=o.ok;have hk5:=(nb hs hG hg).2;have hsl:=pQ (z:=z) (g:=g) (n:=z.Shape.Rows.toNat);refine aH func76 Z ntmps76 Z (fun Q hQ hN=>?_);have H0:=Sep.beginW o nd;refine ac (sA Z Z (aa (ae ?_)));obtain ⟨wA1,wC1,wA2,wC2,wA3,wC3,wf1,wf2,wf3,wok1,H1⟩:=H0.openW 0 Z
 try dsimp only[lNA,lCA,lSZ,lSS] at H1
 have wok1U:=wok1;unfold Wld.Ok Shape.Ok I64ok at wok1U;have wL1:=oL (H1.mine 2 Z);have wL2:=oL (H1.mine 3 Z);have wL3:=oL (H1.mine 4 Z);refine am (sR 2 Z (sC func78 qJ Z (fi (H1.box 0 Z) η (H1.msees 2 Z) (H1.msees 3 Z) (H1.msees 4 Z) η η η) (fun v1 w1 r1=>?_)));obtain ⟨e1,r1⟩:=r1;obtain ⟨fp1,H2⟩:=H1.res e1 r1;obtain ⟨a1,k1,q1⟩:=an (H2.mine 5 Z);cases q1;refine sR 2 Z (sC func130 yY Z (kH (H2.box 0 Z) η (az (H2.mine 2 Z)) (az (H2.mine 3 Z)) (az (H2.mine 4 Z)) η ξ ξ ξ) (fun v2 w2 r2=>?_));obtain ⟨e2,r2⟩:=r2;obtain ⟨fp2,H3⟩:=H2.res e2 r2;obtain ⟨a2,k2,q2⟩:=an (H3.mine 6 Z);cases q2;refine sR 2 Z (aa (ae (ax (ac (sM Z Z (sV Z (aS bH Z) (sR 2 Z (aa (aC Z (fun c1=>?_) (fun c1=>?_))))))))))
 ·refine ac (rA hQ results76 Z ?_);obtain ⟨fp3,H4⟩:=H3.closeW 0 2 3 4 z Z Z Z Z Z Z Z Z Z Z wok1
  try dsimp only[lNA,lCA,lSZ,lSS] at H4
  have hrb:=BA (z:=z) (g:=g) (by have:=c1; omega);have hz:=H4.doneW;rw [hrb];exact ⟨Z,hz⟩
 ·refine ac (sR 2 Z (sC func131 yT Z (kG (H3.box 0 Z) η (az (H3.mine 2 Z)) (az (H3.mine 3 Z)) (az (H3.mine 4 Z)) η η η ξ ξ ξ) (fun v3 w3 r3=>?_)));obtain ⟨e3,r3⟩:=r3;obtain ⟨fp4,H5⟩:=H3.res e3 r3;obtain ⟨a3,k3,q3⟩:=an (H5.mine 7 Z);cases q3;refine sV Z (aS bH Z) (sR 2 Z (aa (aC Z (fun c2=>?_) (fun c2=>?_))))
  ·refine ac (rA hQ results76 Z ?_);obtain ⟨fp5,H6⟩:=H5.closeW 0 2 3 4 z Z Z Z Z Z Z Z Z Z Z wok1
   try dsimp only[lNA,lCA,lSZ,lSS] at H6
   have hrb:=FZ (z:=z) (g:=g) ω ω;have hz:=H6.doneW;rw [hrb];exact ⟨Z,hz⟩
  ·refine ac (sM Z Z (sE func122 lE Z (ep (H5.box 0 Z) η (H5.msees 2 Z) (H5.msees 3 Z) (H5.msees 4 Z) ξ) H5 (fun w4 e4 H7=>sM Z Z (sE func132 nY Z (kK (H7.msees 6 Z)) H7 (fun w5 e5 H8=>sR 2 Z (aa (aC Z (fun c3=>?_) (fun c3=>?_))))))))
   ·refine ac (rA hQ results76 Z ?_);obtain ⟨fp6,H9⟩:=H8.closeW 0 2 3 4 z Z Z Z Z Z Z Z Z Z Z wok1
    try dsimp only[lNA,lCA,lSZ,lSS] at H9
    have hrb:=FA (z:=z) (g:=g) ω ω (tv.1 ω);have hz:=H9.doneW;rw [hrb];exact ⟨Z,hz⟩
   ·refine au (ae (ac (sR 2 Z (sF be Z bk (sF bi Z ts2 (sLd tu2 (H8.box 0 Z) Z (sM Z Z (aa (ax ?_)))))))));have H10:=H8.share 5 Z
    try dsimp only[lNA,lCA,lSZ,lSS] at H10
    have H11:=H10.share 6 Z
    try dsimp only[lNA,lCA,lSZ,lSS] at H11
    obtain ⟨fp7,H12⟩:=H11.closeW 0 2 3 4 z Z Z Z Z Z Z Z Z Z Z wok1
    try dsimp only[lNA,lCA,lSZ,lSS] at H12
    have hfl:fT z ((dI z g z.Shape.Rows.toNat).length:Nat)=false:=by
     cases hq:fT z ((dI z g z.Shape.Rows.toNat).length:Nat)
     ·rfl
     ·exact absurd (tv.2 hq) ω
    have hno:cQ z g=true→∀ q:Nat,q<z.Shape.Rows.toNat→cR z g q=0:=fun hd q hq=>re hd (List.eq_nil_of_length_eq_zero ω) q hq
    refine bP (γ:=Nat × Wld × List Nat) (fun (i,zi,f)=>[(0,.pointer (some ⟨zb,0,none⟩)),(1,.int .i64 g),(5,.slice a1 (aM z g).length k1),(6,.slice a2 (dI z g z.Shape.Rows.toNat).length k2),(43,.int .i64 z.Shape.Rows),(44,.int .i64 i)]) (fun (i,zi,f) w'=>Sep (· ∈ fp) w [wldR zb 31 zi f] [seen true [.slice a1 (aM z g).length k1] (aM z g) fp1,seen true [.slice a2 (dI z g z.Shape.Rows.toNat).length k2] (dI z g z.Shape.Rows.toNat) fp2] w'∧i≤z.Shape.Rows.toNat∧rbR g (aM z g) z.Shape.Rows.toNat 0 z=rbR g (aM z g) (z.Shape.Rows.toNat-i) i zi∧RbI g z zi (10*i)) (fun (i,zi,f)=>z.Shape.Rows.toNat-i) (0,z,_) ⟨Z,Z,Z,Z,Z,Z,trivial⟩ ⟨(H12.dtake 1),ω,Z,⟨WrI.start hG hzok,Z⟩⟩ (fun (i,zi,f) w6 H13=>?_);obtain ⟨H13,hi,hdl,hI⟩:=H13;refine ac (sV Z (aX Z Z) (aa (ae (aC Z (fun c4=>?_) (fun c4=>?_)))))
    ·refine au (ae (ax (ac (sR 2 Z (aa (ae ?_))))));have hsh:=hI.wi.sh;have hs2:zi.Shape.ok=true:=by rw [hsh]; exact hs
     have hG2:=hI.wi.gk;have hg2:ins g 0 (zi.Shape.Groups+zi.Shape.Column-1)=true:=by rw [hsh]; exact hg
     have hr2:ins (i:Int) 0 (zi.Shape.Rows-1)=true:=by rw [hsh]; exact aJ.2 ω
     have hT2:zi.Tapes.length=2:=by rw [hI.wi.tp]; exact hT
     have hrl2:∀ k,(zi.Tapes.getD k default).Recs.length≤200000:=by rw [hI.wi.tp]; exact hrl
     have hA2:=hI.wi.recs hA;have ho2:cQ zi g=true→cR zi g i=0:=fun q=>by rw [xI hI.wi.tp]; exact hno (by rw [← hI.dead]; exact q) i ω
     have hbz:ff (opR zi g i)≤1048576:=by rw [(pU hI.wi.tp).1]; have:=yA (z:=z) (g:=g) (row:=i); omega
     obtain ⟨wA4,wC4,wA5,wC5,wA6,wC6,wf4,wf5,wf6,wok2,H14⟩:=H13.openW 0 Z
     try dsimp only[lNA,lCA,lSZ,lSS] at H14
     have wok2U:=wok2;unfold Wld.Ok Shape.Ok I64ok at wok2U;have wL4:=oL (H14.mine 2 Z);have wL5:=oL (H14.mine 3 Z);have wL6:=oL (H14.mine 4 Z);refine am (sR 3 Z (sC func133 Ax Z (nG (H14.box 0 Z) η (az (H14.mine 2 Z)) (az (H14.mine 3 Z)) (az (H14.mine 4 Z)) η η η η ξ ξ ξ η η) (fun v6 w7 r6=>?_)));obtain ⟨e6,sa1,sk1,rfl,r6⟩:=r6;obtain ⟨fp8,H15⟩:=H14.res e6 r6;refine sR 5 Z (aa (ac (sM Z Z (sV Z (aS bH Z) (sM Z Z (aa (ax ?_)))))));have H16:=H15.share 5 Z
     try dsimp only[lNA,lCA,lSZ,lSS] at H16
     obtain ⟨fp9,H18⟩:=H16.closeW 0 2 3 4 zi Z Z Z Z Z Z Z Z Z Z wok2
     try dsimp only[lNA,lCA,lSZ,lSS] at H18
     obtain ⟨hdX,hdS,hdL,hdB⟩:=Eg hs2 hG2 hg2 hr2 hA2 (fun q=>ta (ho2 q));rw [hsh] at hdL hdB;refine bP (γ:=Nat × Wld × List Nat) (fun (j,zj,f)=>[(0,.pointer (some ⟨zb,0,none⟩)),(1,.int .i64 g),(5,.slice a1 (aM z g).length k1),(6,.slice a2 (dI z g z.Shape.Rows.toNat).length k2),(43,.int .i64 z.Shape.Rows),(44,.int .i64 i),(7,.int .i64 i),(8,.slice sa1 (fK zi g i).length sk1),(9,.int .i64 (gY zi g i)),(54,.slice a1 (aM z g).length k1),(55,.int .i64 (aM z g).length),(56,.int .i64 j)]) (fun (j,zj,f) w'=>Sep (· ∈ fp) w [wldR zb 31 zj f] [seen true [.slice a1 (aM z g).length k1] (aM z g) fp1,seen true [.slice a2 (dI z g z.Shape.Rows.toNat).length k2] (dI z g z.Shape.Rows.toNat) fp2,seen true [.slice sa1 (fK zi g i).length sk1] (fK zi g i) fp8] w'∧j≤(aM z g).length∧wrD g.toNat i (fK zi g i) (gY zi g i) (aM z g) zi=wrD g.toNat i (fK zi g i) (gY zi g i) ((aM z g).drop j) zj∧RbI g z zj (10*i+j)) (fun (j,zj,f)=>(aM z g).length-j) (0,zi,_) ⟨Z,Z,Z,Z,Z,Z,Z,Z,Z,Z,Z,Z,trivial⟩ ⟨(H18.dtake 1),ω,by (try dsimp only); rw [List.drop_zero],hI⟩ (fun (j,zj,f) w8 H19=>?_);obtain ⟨H19,hj,hdj,hJ⟩:=H19;refine ac (sV Z (aX Z Z) (aa (ae (aC Z (fun c5=>?_) (fun c5=>?_)))))
     ·refine au (ae (ax (ae ?_)));obtain ⟨hk0,hk1⟩:=uA (z:=z) (g:=g) j ω;obtain ⟨kn,hkn⟩:∃ kn:Nat,(aM z g).getD j 0=kn:=⟨_,(Int.toNat_of_nonneg hk0).symm⟩;have hkt:((aM z g).getD j 0).toNat=kn:=by rw [hkn]; rfl
      have hgl:=qp hs hG hg;obtain ⟨eb1,eo1,ee1,ec1⟩:=ew (H19.seen 0 Z) j ω;have eI1:=eJ (H19.seen 0 Z) j ω;refine am (sV Z (aB bH ts2 Z Z ee1 j ω ω) (sV Z (aj tu2 Z Z (by have hc:=ec1; rw [hkn] at hc; exact hc)) (sA Z Z (aa (ae ?_)))));obtain ⟨hq1,hq2,hq3⟩:=ni (z:=zj) (g:=g) (row:=(i:Int)) (k:=kn) (by rw [hJ.wi.sh]; exact hs) hJ.wi.gk (by rw [hJ.wi.sh]; exact hg) (by rw [hJ.wi.sh]; exact aJ.2 ω) (by rw [hJ.len hs hg]; omega);have hq4:=hJ.len hs hg;have hbk:=hdB kn ω;have hb4:=eU hbk;have hxk:(⟨(gY zi g i),(fK zi g i).getD kn []⟩:Block).Ok:=by show I64ok (gY zi g i); unfold I64ok; omega
      have hxl:(⟨(gY zi g i),(fK zi g i).getD kn []⟩:Block).Bytes.length≤1000000:=by omega
      have hjw:=hJ.wi.wr;have hgi:=aJ.1 hg;obtain ⟨hf1,hf2,hf3,hf4⟩:=qX (b:=(⟨(gY zi g i),(fK zi g i).getD kn []⟩:Block)) (i:=kn) hJ.wi hs hw1 ω hg (row:=(i:Int)) (aJ.2 ω) hbk ω;obtain ⟨eb2,eo2,ea1,ek1,ef1,ee2,ec2,eO1,eH1⟩:=fo (H19.seen 2 Z) kn ω;have eP1:=H19.look1 2 Z eO1 eH1;refine am (sR 7 Z (sV Z (aB dj bf Z Z ee2 kn ω ω) (sV Z (aj aZ Z Z ec2) (sV Z (aP gz Z Z) (sC func134 oe Z (dS (eP1.wldAt 0 Z) (eP1.nodup1 (i:=0) Z) η (az (eP1.seen 3 Z)) (fun b hb=>eP1.off 3 Z 0 Z hb) ξ ξ ξ ξ ξ (x:=(⟨(gY zi g i),(fK zi g i).getD kn []⟩:Block))) (fun v7 w9 r7=>?_))))));obtain ⟨rfl,mm1⟩:=r7;obtain ⟨fp10,H20⟩:=eP1.mutW 0 Z mm1
      try dsimp only[lNA,lCA,lSZ,lSS] at H20
      refine sV Z (bh Z) (aa (cx Z (fun c6=>?_) (fun c6=>?_)))
      ·refine ac (rA hQ results76 Z ?_);have hnp:bv zj=true:=by simpa using c6
       have e1:wrD g.toNat i (fK zi g i) (gY zi g i) (aM z g) zi=(false,dT g.toNat kn i (⟨(gY zi g i),(fK zi g i).getD kn []⟩:Block) zj):=by rw [hdj,DZ ω hnp,hkt]
       have e2:rbR g (aM z g) z.Shape.Rows.toNat 0 z=(false,dT g.toNat kn i (⟨(gY zi g i),(fK zi g i).getD kn []⟩:Block) zj):=by rw [hdl,DR (m:=z.Shape.Rows.toNat-(i+1)) ω (by rw [e1]),e1]
       have hrb:=HU (z:=z) (g:=g) ω ω hfl (by rw [e2]);rw [e2] at hrb;have hz:=H20.doneW;rw [Int.toNat_natCast] at hz;rw [hrb];exact ⟨Z,hz⟩
      ·refine au (am (sV Z (aE Z Z iO) (sM Z Z (aa ?_))));have hnp:bv zj=false:=by simpa using c6
       have hz:=(H20.ftake 3);rw [Int.toNat_natCast] at hz hf3;exact ⟨(j+1,dT g.toNat kn i (⟨(gY zi g i),(fK zi g i).getD kn []⟩:Block) zj,_),⟨Z,Z,Z,Z,Z,Z,Z,Z,Z,Z,Z,Z,trivial⟩,⟨hz,by (try dsimp only); omega,by (try dsimp only); rw [hdj,GM ω hnp,hkt],hJ.blk (hf3 hnp)⟩,θ⟩
     ·refine aT (am (sV Z (aE Z Z iO) (sM Z Z (aa ?_))));obtain rfl:j=(aM z g).length:=by omega
      have e1:wrD g.toNat i (fK zi g i) (gY zi g i) (aM z g) zi=(true,zj):=by rw [hdj]; exact Fs ω
      have hk5:=(nb hs hG hg).2;exact ⟨(i+1,zj,_),⟨Z,Z,Z,Z,Z,Z,trivial⟩,⟨(H19.ftake 2),by (try dsimp only); omega,by (try dsimp only); rw [hdl,Hg (m:=z.Shape.Rows.toNat-(i+1)) ω (by rw [e1]),e1],⟨hJ.wi.le ω,hJ.wp⟩⟩,θ⟩
    ·refine aT (ae (ac (sM Z Z (sV Z (aS bH Z) (sM Z Z (aa (ax ?_)))))));obtain rfl:i=z.Shape.Rows.toNat:=by omega
     have eR:rbR g (aM z g) z.Shape.Rows.toNat 0 z=(true,zi):=by rw [hdl]; exact FX ω
     refine bP (γ:=Nat × Wld × List Nat) (fun (j,zj,f)=>[(0,.pointer (some ⟨zb,0,none⟩)),(1,.int .i64 g),(6,.slice a2 (dI z g z.Shape.Rows.toNat).length k2),(74,.slice a1 (aM z g).length k1),(75,.int .i64 (aM z g).length),(76,.int .i64 j)]) (fun (j,zj,f) w'=>Sep (· ∈ fp) w [wldR zb 31 zj f] [seen true [.slice a1 (aM z g).length k1] (aM z g) fp1,seen true [.slice a2 (dI z g z.Shape.Rows.toNat).length k2] (dI z g z.Shape.Rows.toNat) fp2] w'∧j≤(aM z g).length∧trL g.toNat (aM z g) zi=trL g.toNat ((aM z g).drop j) zj∧WrI z zj (10*z.Shape.Rows.toNat+j)) (fun (j,zj,f)=>(aM z g).length-j) (0,zi,_) ⟨Z,Z,Z,Z,Z,Z,trivial⟩ ⟨H13,ω,by (try dsimp only); rw [List.drop_zero],hI.wi⟩ (fun (j,zj,f) w10 H21=>?_);obtain ⟨H21,hj,hdj,hJ⟩:=H21;refine ac (sV Z (aX Z Z) (aa (ae (aC Z (fun c7=>?_) (fun c7=>?_)))))
     ·refine au (ae (ax (ae ?_)));obtain ⟨hk0,hk1⟩:=uA (z:=z) (g:=g) j ω;obtain ⟨kn,hkn⟩:∃ kn:Nat,(aM z g).getD j 0=kn:=⟨_,(Int.toNat_of_nonneg hk0).symm⟩;have hkt:((aM z g).getD j 0).toNat=kn:=by rw [hkn]; rfl
      have hgl:=qp hs hG hg;obtain ⟨eb3,eo3,ee3,ec3⟩:=ew (H21.seen 0 Z) j ω;have eI2:=eJ (H21.seen 0 Z) j ω;refine am (sV Z (aB bH ts2 Z Z ee3 j ω ω) (sV Z (aj tu2 Z Z (by have hc:=ec3; rw [hkn] at hc; exact hc)) (sA Z Z (aa (ae ?_)))));have hq4:=hJ.len hs hg;have hjw:=hJ.wr;have hgi:=aJ.1 hg;obtain ⟨hq1,_,_⟩:=ni (z:=zj) (g:=g) (row:=0) (k:=kn) (by rw [hJ.sh]; exact hs) hJ.gk (by rw [hJ.sh]; exact hg) (by rw [hJ.sh]; exact aJ.2 ω) ω;obtain ⟨hf1,hf2,hf3,hf4⟩:=vn (i:=kn) hJ hs hw1 ω hg ω;refine am (sR 3 Z (sC func135 zH Z (mi (H21.wldAt 0 Z) (H21.nodup1 (i:=0) Z) ξ ξ ξ) (fun v8 w11 r8=>?_)));obtain ⟨rfl,mm2⟩:=r8;obtain ⟨fp11,H22⟩:=H21.mutW 0 Z mm2
      try dsimp only[lNA,lCA,lSZ,lSS] at H22
      refine sV Z (bh Z) (aa (cx Z (fun c8=>?_) (fun c8=>?_)))
      ·refine ac (rA hQ results76 Z ?_);have hnp:bv zj=true:=by simpa using c8
       have e1:trL g.toNat (aM z g) zi=(false,trW g.toNat kn zj):=by rw [hdj,DE ω hnp,hkt]
       have hrb:=HW (z:=z) (g:=g) ω ω hfl eR (by rw [e1]);rw [e1] at hrb;have hz:=H22.doneW;rw [hrb];exact ⟨Z,hz⟩
      ·refine au (am (sV Z (aE Z Z iO) (sM Z Z (aa ?_))));have hnp:bv zj=false:=by simpa using c8
       exact ⟨(j+1,trW g.toNat kn zj,_),⟨Z,Z,Z,Z,Z,Z,trivial⟩,⟨H22,by (try dsimp only); omega,by (try dsimp only); rw [hdj,He ω hnp,hkt],hf3 hnp⟩,θ⟩
     ·refine aT (ae (ac (sM Z Z (sV Z (aS br Z) (sM Z Z (aa (ax ?_)))))));obtain rfl:j=(aM z g).length:=by omega
      have eT:trL g.toNat (aM z g) zi=(true,zj):=by rw [hdj]; exact Gi ω
      have hTj:zj.Tapes.length=2:=by rw [hJ.tp]; exact hT
      have hwj:=hJ.wr;have hk5:=(nb hs hG hg).2;have hsl:=pQ (z:=z) (g:=g) (n:=z.Shape.Rows.toNat);refine bP (γ:=Nat × Wld × List Nat) (fun (q,zq,f)=>[(0,.pointer (some ⟨zb,0,none⟩)),(1,.int .i64 g),(86,.slice a2 (dI z g z.Shape.Rows.toNat).length k2),(87,.int .i64 (dI z g z.Shape.Rows.toNat).length),(88,.int .i64 q)]) (fun (q,zq,f) w'=>Sep (· ∈ fp) w [wldR zb 31 zq f] [seen true [.slice a1 (aM z g).length k1] (aM z g) fp1,seen true [.slice a2 (dI z g z.Shape.Rows.toNat).length k2] (dI z g z.Shape.Rows.toNat) fp2] w'∧q≤(dI z g z.Shape.Rows.toNat).length∧doneL g (dI z g z.Shape.Rows.toNat) zj=doneL g ((dI z g z.Shape.Rows.toNat).drop q) zq∧zq.Tapes.length=2∧zq.Writes≤z.Writes+200+2*q) (fun (q,zq,f)=>(dI z g z.Shape.Rows.toNat).length-q) (0,zj,_) ⟨Z,Z,Z,Z,Z,trivial⟩ ⟨H21,ω,by (try dsimp only); rw [List.drop_zero],hTj,by (try dsimp only); omega⟩ (fun (q,zq,f) w12 H23=>?_);obtain ⟨H23,hq,hdq,hT2,hwq⟩:=H23;refine ac (sV Z (aX Z Z) (aa (ae (aC Z (fun c9=>?_) (fun c9=>?_)))))
      ·refine au (ae (ax (ae ?_)));obtain ⟨eb4,eo4,es1,ef2,ee4,ec4,eO2,eH2,em1⟩:=dr (H23.seen 1 Z) q ω;obtain ⟨ea2,ek2,ea3,ek3,ea4,ek4,eg1,eg2,eg3,rfl,eq1,eK1,eo5,eo6,eo7⟩:=l5 eO2;have eK1U:=eK1;unfold Rec.Ok at eK1U
       try unfold I64ok at eK1U
       try unfold maxLen at eK1U
       refine am (sV Z (aB br aO Z Z ee4 q ω ω) (sV Z (ak aD Z aO Z Z ec4) (bB ah Z zeroValue59 H23 (fun b1 w13 e9 g1 H24=>aF ah aO Z Z Z Z H24 1 Z Z (fun w14 e10 H25=>?_)))));dsimp only[lNA,lCA,lSZ,lSS,aI] at H25;refine aa (ae ?_);have hdk:(cU ((dI z g z.Shape.Rows.toNat).getD q default).Seq g).Ok:=xG eK1.2.1 (by have:=aJ.1 hg; unfold I64ok; omega);have hszd:=xT (s:=((dI z g z.Shape.Rows.toNat).getD q default).Seq) (g:=g);obtain ⟨hf1,hf2,hf3,hf4⟩:=si (r:=(cU ((dI z g z.Shape.Rows.toNat).getD q default).Seq g)) hT2;refine am (sM Z Z (sF aD Z ts2 (sLd tu2 (H25.box 1 Z) Z (sM Z Z (sE func129 tL Z m0 H25 (fun w15 e11 H26=>sC func128 oO Z (jr (H26.wldAt 0 Z) (H26.nodup1 (i:=0) Z) η (.inr (.inl ⟨Z,Z,Z⟩)) σ (.inr (.inl ⟨Z,Z,Z⟩)) σ (.inr (.inl ⟨Z,Z,Z⟩)) σ ξ ξ ξ) (fun v10 w16 r10=>?_)))))));obtain ⟨rfl,mm3⟩:=r10;obtain ⟨fp12,H27⟩:=H26.mutW 0 Z mm3
       try dsimp only[lNA,lCA,lSZ,lSS] at H27
       refine sA Z Z (aa (ac (sR 2 Z (aa (aC Z (fun c10=>?_) (fun c10=>?_))))))
       ·refine ac (sR 2 Z (rN hQ results76 Z ?_));have hrb:=DM (z:=z) (g:=g) ω ω hfl eR eT;have e1:doneL g (dI z g z.Shape.Rows.toNat) zj=(jW zq (cU ((dI z g z.Shape.Rows.toNat).getD q default).Seq g),du zq (cU ((dI z g z.Shape.Rows.toNat).getD q default).Seq g)):=by rw [hdq]; exact zQ ω ω
        rw [e1] at hrb;have hz:=H27.doneW;rw [hrb];exact ⟨Z,hz⟩
       ·refine au (am (sV Z (aE Z Z iO) (sM Z Z (aa ?_))));have hc0:jW zq (cU ((dI z g z.Shape.Rows.toNat).getD q default).Seq g)=0:=by omega
        exact ⟨(q+1,du zq (cU ((dI z g z.Shape.Rows.toNat).getD q default).Seq g),_),⟨Z,Z,Z,Z,Z,trivial⟩,⟨(H27.dtake 1),by (try dsimp only); omega,by (try dsimp only); rw [hdq,E8 ω hc0],hf1,by (try dsimp only); omega⟩,θ⟩
      ·refine aT (ac (rA hQ results76 Z ?_));have hrb:=DM (z:=z) (g:=g) ω ω hfl eR eT;have e1:doneL g (dI z g z.Shape.Rows.toNat) zj=(0,zq):=by rw [hdq]; exact BS ω
       rw [e1] at hrb;have hz:=H23.doneW;rw [hrb];exact ⟨Z,hz⟩
end Go.Wk
