/-
  Laws on walking, and the functions walked, each once: what this claim comes to.
-/
import Derived.Test.YtikenamkplgabaaGreatZB1
set_option linter.unusedVariables false
set_option linter.unusedSimpArgs false
namespace Go.Wk
open Go.Proofs Rp Go.Proofs.Tryz
set_option maxRecDepth 10000
theorem oX {w:World}{b:Block}{bA1:Option Addr}{bC1:Nat}(bK:b.Ok) (bS1:Sees w [.slice bA1 b.Bytes.length bC1] b.Bytes):Ret Tryz.prog 196 #[b.val bA1 bC1] w fun v w'=>Ext No w w'∧(v = .bool (dz b)):=by
 have bK2:=bK;unfold Block.Ok at bK2
 try unfold I64ok at bK2
 try unfold maxLen at bK2
 have bL1:=sL bS1;obtain ⟨bF1,bO1⟩:=bS1;refine aH func196 Z ntmps196 Z (fun Q hQ hN=>?_);have H0:=Sep.start (ab bO1 aA);refine ac (bu ah Z Z H0 (fun b1 w1 e1 g1 H1=>sA Z Z (aa (ac (sF jh Z ts2 (sLd tu2 (H1.box 0 Z) Z (sE func93 cq Z ba H1 (fun w2 e2 H2=>sM Z Z (bR 4 (j:=3) (want:=true) (t:=10) Z Z Z Z (fun hg1 kk1=>ao (wgE Z Z Z hg1) Z Z (ag jh Z bf Z Z) (ao (wgE Z Z Z hg1) Z Z (aj aZ Z Z (al (H2.box 0 Z) Z)) (ao (wgE Z Z Z hg1) Z Z (aS aZ Z) (ao (wgE Z Z Z hg1) Z Z (cT Z Z) (kk1 _ _ (kx Z (kx Z (kx Z (kx Z k0)))) Z Ext.refl))))) (fun w3 e3=>?_))))))))));have H3:=H2.to e3;refine sV Z (bz Z Z) (rA hQ results196 Z ?_);exact ⟨H3.ext,congrArg Value.bool (by simp only [dz]; congr 1; exact decide_eq_decide.2 ω)⟩
theorem mz {w:World}{b:Block}{bA1:Option Addr}{bC1:Nat}(bK:b.Ok) (bS1:Sees w [.slice bA1 b.Bytes.length bC1] b.Bytes):Ret Tryz.prog 195 #[b.val bA1 bC1] w fun v w'=>Ext No w w'∧(v = .bool (!dz b)):=by
 have bK2:=bK;unfold Block.Ok at bK2
 try unfold I64ok at bK2
 try unfold maxLen at bK2
 have bL1:=sL bS1;obtain ⟨bF1,bO1⟩:=bS1;refine aH func195 Z ntmps195 Z (fun Q hQ hN=>?_);have H0:=Sep.start (ab bO1 aA);refine ac (bu ah Z Z H0 (fun b1 w1 e1 g1 H1=>sA Z Z (aa (ac (sV Z (ak jh Z gc Z Z (At.whole (H1.box 0 Z))) (sE func196 yp Z (oX η (H1.sees 0 Z)) H1 (fun w2 e2 H2=>sV Z (bh Z) (rA hQ results195 Z ?_))))))));exact ⟨H2.ext,Z⟩
set_option maxHeartbeats 1000000 in
theorem oE {w:World}{z:Wld}{zA9 zA10 zA11:Option Addr}{zC9 zC10 zC11:Nat}(zK:z.Ok) (zS9:Sees w [.slice zA9 z.Groups.length zC9] z.Groups) (zS10:Sees w [.slice zA10 z.On.length zC10] z.On) (zS11:Sees w [.slice zA11 z.Tapes.length zC11] z.Tapes) (hs:z.Shape.ok=true):Ret Tryz.prog 124 #[z.val zA9 zC9 zA10 zC10 zA11 zC11] w fun v w'=>Ext No w w'∧(v = .bool (aN z)):=by
 have zK2:=zK;unfold Wld.Ok Shape.Ok at zK2
 try unfold I64ok at zK2
 try unfold maxLen at zK2
 have zL9:=sL zS9;obtain ⟨zF9,zO9⟩:=zS9;have zL10:=sL zS10;obtain ⟨zF10,zO10⟩:=zS10;have zL11:=sL zS11;obtain ⟨zF11,zO11⟩:=zS11;have sbd:=aG hs;refine aH func124 Z ntmps124 Z (fun Q hQ hN=>?_);have H0:=Sep.start (ab zO9 (ab zO10 (ab zO11 aA)));refine ac (bu ah Z Z H0 (fun b1 w1 e1 g1 H1=>sA Z Z (aa (ac (sF be Z bk (sV Z (ak bi Z bk Z Z (At.sub (H1.box 0 Z) 9)) (bB ah Z zeroValue25 H1 (fun b2 w2 e2 g2 H2=>aF ah bk Z Z Z Z H2 1 Z Z (fun w3 e3 H3=>?_)))))))));dsimp only[lNA,lCA,lSZ,lSS,aI] at H3;refine aa (ae (ae (cb (S:=Ext No _) (oQ [1,3,7,4,8,10]) κ κ κ Z (fun _=>Ext.refl.drawn _) (fun q1=>?_))));have H4:=H3.drawn q1;refine dV Z Z (fun zw hx=>ag be Z kh Z Z) (dV Z Z (fun zw hx=>aj fW Z Z (al (hx.heap (H4.box 0 Z)) Z)) (dV Z Z (fun zw hx=>ak bi Z bk Z Z (At.whole (hx.heap (H4.box 1 Z)))) (dC func191 zf Z (nM (H4.sees 0 Z)) (fun v1 w4 r1=>?_))));obtain ⟨e4,rfl⟩:=r1;have H5:=H4.to e4;refine dC func36 jK Z (cZ η) (fun v2 w5 r2=>?_);obtain ⟨e5,rfl⟩:=r2;have H6:=H5.to e5;refine aW Z ah Z Z (ez Z Z) (bb (aC Z (fun c1=>?_) (fun c1=>?_)))
 ·refine ac (rA hQ results124 Z ?_);exact ⟨H6.ext,congrArg Value.bool (vw ω).symm⟩
 ·refine au (ae (ac (sF be Z kh (sLd fW (H6.box 0 Z) Z (sV Z (aS fW Z) (sM Z Z (aa (ax (dJ (γ:=Nat) H6 [(3,_),(17,_),(18,_)] ⟨Z,Z,Z,trivial⟩ (fun k=>[(19,.int .i64 k)]) (fun k=>k≤z.Groups.length∧(∀ i,i<k→dt z.Shape (z.Groups.getD i [])=true)) (fun k=>z.Groups.length-k) 0 ⟨Z,trivial⟩ ⟨ω,fun i hi=>by omega⟩ (fun k w6 H7 ⟨hk,he⟩=>?_))))))))));dsimp only[lCA,lNA];refine ac (sV Z (aX Z Z) (aa (ae (aC Z (fun c2=>?_) (fun c2=>?_)))))
  ·refine au (ae (ax (ae ?_)));obtain ⟨eb1,eo1,ea1,ek1,ef1,ee1,ec1,eO1,eH1⟩:=fo (H7.seen 0 Z) k ω;have eP1:=H7.look1 0 Z eO1 eH1;refine am (sV Z (aB fW ud Z Z ee1 k ω ω) (sV Z (aj fl Z Z ec1) (sA Z Z (aa (ae (ae (cb (S:=Ext No _) (oQ [1,5,2,6,8]) κ κ κ Z (fun _=>Ext.refl.drawn _) (fun q2=>?_))))))));have H8:=eP1.drawn q2;refine dM Z Z Z (dV Z Z (fun zw hx=>ak bi Z bk Z Z (At.whole (hx.heap (H8.box 1 Z)))) (dC func192 AA Z (rz (H8.sees 3 Z)) (fun v3 w7 r3=>?_)));obtain ⟨e6,rfl⟩:=r3;have H9:=H8.to e6;refine dC func37 jF Z (cD η) (fun v4 w8 r4=>?_);obtain ⟨e7,rfl⟩:=r4;have H10:=H9.to e7;refine aW Z ah Z Z (ez Z Z) (bb (aC Z (fun c3=>?_) (fun c3=>?_)))
   ·refine ac (rA hQ results124 Z ?_);exact ⟨H10.ext,congrArg Value.bool (m6 k ω (wC ω)).symm⟩
   ·refine au (ac (sM Z Z (sV Z (aS fl Z) (sM Z Z (aa (ax (dJ (γ:=Nat) H10 [(3,_),(17,_),(18,_),(19,_),(28,_),(29,_)] ⟨Z,Z,Z,Z,Z,Z,trivial⟩ (fun k2=>[(30,.int .i64 k2)]) (fun k2=>k2≤(z.Groups.getD k []).length∧(∀ i,i<k2→cX z.Shape ((z.Groups.getD k []).getD i default)=true)) (fun k2=>(z.Groups.getD k []).length-k2) 0 ⟨Z,trivial⟩ ⟨ω,fun i hi=>by omega⟩ (fun k2 w9 H11 ⟨hk2,hek2⟩=>?_))))))));dsimp only[lCA,lNA];refine ac (sV Z (aX Z Z) (aa (ae (aC Z (fun c4=>?_) (fun c4=>?_)))))
    ·refine au (ae (ax (ae ?_)));obtain ⟨eb2,eo2,es1,ef2,ee2,ec2,eO2,eH2,em1⟩:=dr (H11.seen 3 Z) k2 ω;obtain ⟨ea2,ek2,eg1,rfl,eq1,eK1,eo3⟩:=jB eO2;have eP2:=H11.look1 3 Z eo3 (fun b hb=>eH2 b (by rw [eq1]; simp [hb]));have eL1:=oL eo3;refine am (sV Z (aB fl gD Z Z ee2 k2 ω ω) (sV Z (ak iz Z gD Z Z ec2) (bB ah Z zeroValue72 eP2 (fun b3 w10 e8 g3 H12=>aF ah gD Z Z Z Z H12 2 Z Z (fun w11 e9 H13=>?_)))));dsimp only[lNA,lCA,lSZ,lSS,aI] at H13;refine aa (ae (cb (S:=Ext No _) (oQ [1,3,7,9,4,11,13,15,17,18,20]) κ κ κ Z (fun _=>Ext.refl.drawn _) (fun q3=>?_)));have H14:=H13.drawn q3;refine dV Z Z (fun zw hx=>ag iz Z rH Z Z) (dV Z Z (fun zw hx=>aj iy Z Z (al (hx.heap (H14.box 2 Z)) Z)) (dV Z Z (fun zw hx=>ag bi Z ts2 Z Z) (dV Z Z (fun zw hx=>aj tu2 Z Z (al (hx.heap (H14.box 1 Z)) Z)) (dC func193 yU Z (rG (H14.sees 4 Z)) (fun v5 w12 r5=>?_)))));obtain ⟨e10,rfl⟩:=r5;have H15:=H14.to e10;refine dR 2 Z (fY (t:=40) Z (fun hg1=>?_) (fun hg1=>?_))
     ·try simp only [decide_eq_true_eq,decide_eq_false_iff_not] at hg1
      refine dR 3 Z (aW Z ah Z Z (aY Z Z) (bb (jR Z (ac (rA hQ results124 Z ?_)))));exact ⟨H15.ext,congrArg Value.bool (m6 k ω (sJ k2 ω (wA ω))).symm⟩
     ·try simp only [decide_eq_true_eq,decide_eq_false_iff_not] at hg1
      refine bp Z (wg Z Z Z) Z Z (fun zw hx=>ag iz Z rH Z Z) (bp Z (wg Z Z Z) Z Z (fun zw hx=>aj iy Z Z (al (hx.heap (H14.box 2 Z)) Z)) (dh Z (wg Z Z Z) Z Z (aR func194 Z yq Z) (lf (H15.sees 4 Z) (p:=(fun b => !dz b)) func195 Z Aj (fun w1 e1 i0 hi0 _ _ K0 o0_1=>mz K0 o0_1)) (fun hS _ _ r _=>hS.trans r.1.no) (fun v6 w13 r6=>?_)));obtain ⟨e11,rfl⟩:=r6;have H16:=H15.to e11;refine aW Z ah Z Z (bm Z Z) (bb (cx Z (fun c5=>?_) (fun c5=>?_)))
      ·refine ac (rA hQ results124 Z ?_);exact ⟨H16.ext,congrArg Value.bool (m6 k ω (sJ k2 ω (ye c5))).symm⟩
      ·refine au (am (sV Z (aE Z Z iO) (sM Z Z (aa (⟨k2+1,⟨Z,Z,Z,Z,Z,Z,Z,trivial⟩,⟨((H16.ftake 4).dtake 2),ω,fun i hi=>?_⟩,θ⟩)))))
       by_cases e:i=k2
       ·subst e;exact xi ω c5
       ·exact hek2 i ω
    ·refine aT (am (sV Z (aE Z Z iO) (sM Z Z (aa (⟨k+1,⟨Z,Z,Z,Z,trivial⟩,⟨(H11.ftake 3),ω,fun i hi=>?_⟩,θ⟩)))))
     by_cases e:i=k
     ·subst e;exact wW ω (fun i hi=>hek2 i ω)
     ·exact he i ω
  ·refine aT (ac (rA hQ results124 Z ?_));exact ⟨H7.ext,congrArg Value.bool (vy ω (fun i hi=>he i ω)).symm⟩
theorem sY {w:World}{z:Wld}{zA9 zA10 zA11:Option Addr}{zC9 zC10 zC11:Nat}(zK:z.Ok) (zS9:Sees w [.slice zA9 z.Groups.length zC9] z.Groups) (zS10:Sees w [.slice zA10 z.On.length zC10] z.On) (zS11:Sees w [.slice zA11 z.Tapes.length zC11] z.Tapes) (hs:z.Shape.ok=true):Ret Tryz.prog 125 #[z.val zA9 zC9 zA10 zC10 zA11 zC11] w fun v w'=>Ext No w w'∧(v = .bool (tR z)):=by
 have zK2:=zK;unfold Wld.Ok Shape.Ok at zK2
 try unfold I64ok at zK2
 try unfold maxLen at zK2
 have zL9:=sL zS9;obtain ⟨zF9,zO9⟩:=zS9;have zL10:=sL zS10;obtain ⟨zF10,zO10⟩:=zS10;have zL11:=sL zS11;obtain ⟨zF11,zO11⟩:=zS11;have sbd:=aG hs;refine aH func125 Z ntmps125 Z (fun Q hQ hN=>?_);have H0:=Sep.start (ab zO9 (ab zO10 (ab zO11 aA)));refine ac (bu ah Z Z H0 (fun b1 w1 e1 g1 H1=>sA Z Z (aa (ae (ac (sF be Z cG (sLd bH (H1.box 0 Z) Z (sV Z (aS bH Z) (sM Z Z (aa (ax (dJ (γ:=Nat) H1 [(1,_),(6,_),(7,_)] ⟨Z,Z,Z,trivial⟩ (fun k=>[(8,.int .i64 k)]) (fun k=>k≤z.On.length∧(∀ i,i<k→apartAt z.On (z.Shape.Groups+z.Shape.Column-1) i=true)) (fun k=>z.On.length-k) 0 ⟨Z,trivial⟩ ⟨ω,fun i hi=>by omega⟩ (fun k w2 H2 ⟨hk,he⟩=>?_)))))))))))));dsimp only[lCA,lNA];refine ac (sV Z (aX Z Z) (aa (ae (aC Z (fun c1=>?_) (fun c1=>?_)))))
 ·refine au (ae (ax (ae ?_)));obtain ⟨eb1,eo1,ee1,ec1⟩:=ew (H2.seen 1 Z) k ω;have eI1:=eJ (H2.seen 1 Z) k ω;refine am (sM Z Z (sV Z (aB bH ts2 Z Z ee1 k ω ω) (sV Z (aj tu2 Z Z ec1) (sR 2 Z (aa (ac (sF be Z bk (sV Z (ak bi Z bk Z Z (At.sub (H2.box 0 Z) 9)) (sM Z Z (sE func58 fM Z (bD η) H2 (fun w3 e2 H3=>sV Z (bh Z) (sM Z Z (eA (t:=18) Z (fun hg1=>?_) (fun hg1=>?_))))))))))))))
  ·try simp only [decide_eq_true_eq,decide_eq_false_iff_not] at hg1
   refine sR 6 Z (sV Z (aY Z Z) (aa (jR Z (ac (rA hQ results125 Z ?_)))));exact ⟨H3.ext,congrArg Value.bool (su (qI k ω (by simp only [apartAt,im] at *; simp_all))).symm⟩
  ·try simp only [decide_eq_true_eq,decide_eq_false_iff_not] at hg1
   refine ao (wg Z Z Z) Z Z (ag be Z cG Z Z) (ao (wg Z Z Z) Z Z (aj bH Z Z (al (H3.box 0 Z) Z)) (ao (wg Z Z Z) Z Z (aL Z) ?_));have sc1:=lA (H3.seen 1 Z);obtain ⟨sf1,so1,ss1⟩:=tX (H3.seen 1 Z) (0) (k) _ ω ω ω (Nat.le_refl _);have H4:=H3.look1 1 Z so1 ss1;have sl1:=nz (xs:=z.On) (l:=0) (h:=k) ω;refine ao (wg Z Z Z) Z Z (tj bH ts2 Z Z (k) ω ω sl1) ((ao (wg Z Z Z) Z Z (aL Z) (dW (wg Z Z Z) Z Z (aR func115 Z jV Z) (bT (H4.sees 3 Z)) (fun v2 w4 r2=>?_))));obtain ⟨e3,rfl⟩:=r2;have H5:=H4.to e3;refine sV Z (bm Z Z) (aa (cx Z (fun c2=>?_) (fun c2=>?_)))
   ·refine ac (rA hQ results125 Z ?_);exact ⟨H5.ext,congrArg Value.bool (su (qI k ω (by simp only [apartAt,im] at *; simp_all))).symm⟩
   ·refine au (am (sV Z (aE Z Z iO) (sM Z Z (aa (⟨k+1,⟨Z,Z,Z,Z,trivial⟩,⟨(H5.ftake 3),ω,fun i hi=>?_⟩,θ⟩)))))
    by_cases e:i=k
    ·subst e;simp only [apartAt,im] at *; simp_all
    ·exact he i ω
 ·refine aT (ae (cb (S:=Ext No _) (oQ [1,3,7,9,11,4,13,15,17,19,21,23,25,27,29,31,33,35,36]) κ κ κ Z (fun _=>Ext.refl.drawn _) (fun q1=>?_)));have H6:=H2.drawn q1;refine dV Z Z (fun zw hx=>ag be Z cG Z Z) (dV Z Z (fun zw hx=>aj bH Z Z (al (hx.heap (H6.box 0 Z)) Z)) (dV Z Z (fun zw hx=>ag be Z bk Z Z) (dV Z Z (fun zw hx=>ag bi Z ts2 Z Z) (dV Z Z (fun zw hx=>aj tu2 Z Z (al (hx.heap (H6.box 0 Z)) Z)) (dC func60 iK Z (fc (H6.sees 1 Z)) (fun v3 w5 r3=>?_))))));obtain ⟨e4,rfl⟩:=r3;have H7:=H6.to e4;refine dR 2 Z (fY (t:=34) Z (fun hg2=>?_) (fun hg2=>?_))
  ·try simp only [decide_eq_true_eq,decide_eq_false_iff_not] at hg2
   refine bp Z (wg Z Z Z) Z Z (fun zw hx=>ag be Z cG Z Z) (bp Z (wg Z Z Z) Z Z (fun zw hx=>aj bH Z Z (al (hx.heap (H6.box 0 Z)) Z)) (bp Z (wg Z Z Z) Z Z (fun zw hx=>aS bH Z) (bp Z (wg Z Z Z) Z Z (fun zw hx=>cT Z Z) (bp Z (wg Z Z Z) Z Z (fun zw hx=>aL Z) (fY (t:=39) Z (fun hg3=>?_) (fun hg3=>?_))))))
   ·try simp only [decide_eq_true_eq,decide_eq_false_iff_not] at hg3
    refine dR 3 Z (bp Z (wg Z Z Z) Z Z (fun zw hx=>aY Z Z) (dV Z Z (fun zw hx=>aY Z Z) (aW Z ah Z Z (bg Z) (bb (rT hQ results125 Z ?_)))));exact ⟨H7.ext,congrArg Value.bool (qx (gq fun i hi=>he i ω) (by simp_all)).symm⟩
   ·try simp only [decide_eq_true_eq,decide_eq_false_iff_not] at hg3
    refine bp Z (wg Z Z Z) Z Z (fun zw hx=>ag be Z ts4 Z Z) (bp Z (wg Z Z Z) Z Z (fun zw hx=>aj tu4 Z Z (al (hx.heap (H6.box 0 Z)) Z)) (bp Z (wg Z Z Z) Z Z (fun zw hx=>bh Z) (bp Z (wg Z Z Z) Z Z (fun zw hx=>bm Z Z) (dV Z Z (fun zw hx=>aY Z Z) (aW Z ah Z Z (bg Z) (bb (rT hQ results125 Z ?_)))))));exact ⟨H7.ext,congrArg Value.bool (qx (gq fun i hi=>he i ω) (by simp_all)).symm⟩
  ·try simp only [decide_eq_true_eq,decide_eq_false_iff_not] at hg2
   refine dR 5 Z (qj Z (wou Z Z Z) Z Z (qj Z (wou Z Z Z) Z Z (qj Z (wou Z Z Z) Z Z (dKf Z Z Z Z (dV Z Z (fun zw hx=>bm Z Z) (aW Z ah Z Z (bg Z) (bb (rT hQ results125 Z ?_))))))));exact ⟨H7.ext,congrArg Value.bool (qx (gq fun i hi=>he i ω) (by rw [decide_eq_false ω]; rfl)).symm⟩
theorem lR {w:World}{t:Tape}{tA1:Option Addr}{tC1:Nat}(tK:t.Ok) (tS1:Sees w [.slice tA1 t.Recs.length tC1] t.Recs):Ret Tryz.prog 198 #[t.val tA1 tC1] w fun v w'=>Ext No w w'∧(v = .bool (fg t)):=by
 have tK2:=tK;unfold Tape.Ok at tK2
 try unfold I64ok at tK2
 try unfold maxLen at tK2
 have tL1:=sL tS1;obtain ⟨tF1,tO1⟩:=tS1;refine aH func198 Z ntmps198 Z (fun Q hQ hN=>?_);have H0:=Sep.start (ab tO1 aA);refine ac (bu ah Z Z H0 (fun b1 w1 e1 g1 H1=>sA Z Z (aa (ac (sF gK Z jS (sLd br (H1.box 0 Z) Z (sV Z (aS br Z) (sR 2 Z (rN hQ results198 Z ?_)))))))));exact ⟨H1.ext,Z⟩
theorem l9 {w:World}{t:Tape}{tA1:Option Addr}{tC1:Nat}(tK:t.Ok) (tS1:Sees w [.slice tA1 t.Recs.length tC1] t.Recs):Ret Tryz.prog 199 #[t.val tA1 tC1] w fun v w'=>Ext No w w'∧(v = .bool (gX t)):=by
 have tK2:=tK;unfold Tape.Ok at tK2
 try unfold I64ok at tK2
 try unfold maxLen at tK2
 have tL1:=sL tS1;obtain ⟨tF1,tO1⟩:=tS1;refine aH func199 Z ntmps199 Z (fun Q hQ hN=>?_);have H0:=Sep.start (ab tO1 aA);refine ac (bu ah Z Z H0 (fun b1 w1 e1 g1 H1=>sA Z Z (aa (ac (sF gK Z ts4 (sLd tu4 (H1.box 0 Z) Z (sM Z Z (bR 4 (j:=2) (want:=true) (t:=9) Z Z Z Z (fun hg1 kk1=>ao (wgE Z Z Z hg1) Z Z (ag gK Z jS Z Z) (ao (wgE Z Z Z hg1) Z Z (aj br Z Z (al (H1.box 0 Z) Z)) (ao (wgE Z Z Z hg1) Z Z (aS br Z) (ao (wgE Z Z Z hg1) Z Z (mu Z Z) (kk1 _ _ (kx Z (kx Z (kx Z (kx Z k0)))) Z Ext.refl))))) (fun w2 e2=>?_)))))))));have H2:=H1.to e2;refine sV Z (bz Z Z) (rA hQ results199 Z ?_);exact ⟨H2.ext,congrArg Value.bool (by simp [gX])⟩
set_option maxHeartbeats 1000000 in
theorem mB {w:World}{z:Wld}{zA9 zA10 zA11:Option Addr}{zC9 zC10 zC11:Nat}(zK:z.Ok) (zS9:Sees w [.slice zA9 z.Groups.length zC9] z.Groups) (zS10:Sees w [.slice zA10 z.On.length zC10] z.On) (zS11:Sees w [.slice zA11 z.Tapes.length zC11] z.Tapes) (hs:z.Shape.ok=true):Ret Tryz.prog 126 #[z.val zA9 zC9 zA10 zC10 zA11 zC11] w fun v w'=>Ext No w w'∧(v = .int .i64 (dN z)):=by
 have zK2:=zK;unfold Wld.Ok Shape.Ok at zK2
 try unfold I64ok at zK2
 try unfold maxLen at zK2
 have zL9:=sL zS9;obtain ⟨zF9,zO9⟩:=zS9;have zL10:=sL zS10;obtain ⟨zF10,zO10⟩:=zS10;have zL11:=sL zS11;obtain ⟨zF11,zO11⟩:=zS11;have sbd:=aG hs;refine aH func126 Z ntmps126 Z (fun Q hQ hN=>?_);have H0:=Sep.start (ab zO9 (ab zO10 (ab zO11 aA)));refine ac (bu ah Z Z H0 (fun b1 w1 e1 g1 H1=>sA Z Z (aa (ae (ac (sF be Z pm (sLd jk (H1.box 0 Z) Z (sE func197 tE Z (ig (H1.sees 2 Z) (p:=fg) func198 Z zN (fun w1 e1 i0 hi0 _ _ K0 o0_1=>lR K0 o0_1)) H1 (fun w2 e2 H2=>aa (cx Z (fun c1=>?_) (fun c1=>?_)))))))))))
 ·refine ac (rA hQ results126 Z ?_);exact ⟨H2.ext,congrArg (Value.int .i64) (xV c1).symm⟩
 ·refine au (ae (ae ?_));have cM:=c1;refine am (sF be Z pm (sLd jk (H2.box 0 Z) Z (sV Z (aS jk Z) (sM Z Z (aa (ax (dJ (γ:=Nat) H2 [(1,_),(12,_),(13,_)] ⟨Z,Z,Z,trivial⟩ (fun k=>[(14,.int .i64 k)]) (fun k=>k≤z.Tapes.length∧eH z.Shape z.Tapes k=0) (fun k=>z.Tapes.length-k) 0 ⟨Z,trivial⟩ ⟨ω,Z⟩ (fun k w3 H3 ⟨hk,hkz⟩=>?_))))))));dsimp only[lCA,lNA];refine ac (sV Z (aX Z Z) (aa (ae (aC Z (fun c2=>?_) (fun c2=>?_)))))
  ·refine au (ae (ax (ae ?_)));obtain ⟨eb1,eo1,es1,ef1,ee1,ec1,eO1,eH1,em1⟩:=dr (H3.seen 2 Z) k ω;obtain ⟨ea1,ek1,eg1,rfl,eq1,eK1,eo2⟩:=jZ eO1;have eP1:=H3.look1 2 Z eo2 (fun b hb=>eH1 b (by rw [eq1]; simp [hb]));have eL1:=oL eo2;refine am (sV Z (aB jk kp Z Z ee1 k ω ω) (sV Z (ak gK Z kp Z Z ec1) (bB ah Z zeroValue121 eP1 (fun b2 w4 e3 g2 H4=>aF ah kp Z Z Z Z H4 1 Z Z (fun w5 e4 H5=>?_)))));dsimp only[lNA,lCA,lSZ,lSS,aI] at H5;refine aa (ac (sF gK Z jS (sLd br (H5.box 1 Z) Z (sV Z (aS br Z) (sM Z Z (aa (ax (dJ (γ:=Nat) H5 [(1,_),(12,_),(13,_),(14,_),(19,_),(20,_)] ⟨Z,Z,Z,Z,Z,Z,trivial⟩ (fun k2=>[(21,.int .i64 k2)]) (fun k2=>k2≤(z.Tapes.getD k default).Recs.length∧eN z.Shape (z.Tapes.getD k default).Recs k2=0) (fun k2=>(z.Tapes.getD k default).Recs.length-k2) 0 ⟨Z,trivial⟩ ⟨ω,Z⟩ (fun k2 w6 H6 ⟨hk2,hk2z⟩=>?_)))))))));dsimp only[lCA,lNA];refine ac (sV Z (aX Z Z) (aa (ae (aC Z (fun c3=>?_) (fun c3=>?_)))))
   ·refine au (ae (ax (ae ?_)));obtain ⟨eb2,eo3,es2,ef2,ee2,ec2,eO2,eH2,em2⟩:=dr (H6.seen 3 Z) k2 ω;obtain ⟨ea2,ek2,ea3,ek3,ea4,ek4,eg2,eg3,eg4,rfl,eq2,eK2,eo4,eo5,eo6⟩:=l5 eO2;have eK2U:=eK2;unfold Rec.Ok at eK2U
    try unfold I64ok at eK2U
    try unfold maxLen at eK2U
    have eP2:=H6.look1 3 Z eo4 (fun b hb=>eH2 b (by rw [eq2]; simp [hb]));have eL2:=oL eo4;have eP3:=eP2.look1 3 Z eo5 (fun b hb=>eH2 b (by rw [eq2]; simp [hb]));have eL3:=oL eo5;have eP4:=eP3.look1 3 Z eo6 (fun b hb=>eH2 b (by rw [eq2]; simp [hb]));have eL4:=oL eo6;refine am (sV Z (aB br aO Z Z ee2 k2 ω ω) (sV Z (ak aD Z aO Z Z ec2) (bB ah Z zeroValue59 eP4 (fun b3 w7 e5 g3 H7=>aF ah aO Z Z Z Z H7 2 Z Z (fun w8 e6 H8=>?_)))));dsimp only[lNA,lCA,lSZ,lSS,aI] at H8;refine aa (ac (sF be Z bk (sV Z (ak bi Z bk Z Z (At.sub (H8.box 0 Z) 9)) (sV Z (ak aD Z aO Z Z (At.whole (H8.box 2 Z))) (sE func82 C3 Z (oN η (H8.sees 4 Z) (H8.sees 5 Z) (H8.sees 6 Z) η) H8 (fun w9 e7 H9=>sA Z Z (aa (ac (sR 2 Z (aa (aC Z (fun c4=>?_) (fun c4=>?_))))))))))))
    ·refine ac (sR 2 Z (rN hQ results126 Z ?_));exact ⟨H9.ext,congrArg (Value.int .i64) ((zT cM (k:=k) (k2:=k2) ω hkz ω hk2z ω)).symm⟩
    ·refine au (am (sV Z (aE Z Z iO) (sM Z Z (aa (⟨k2+1,⟨Z,Z,Z,Z,Z,Z,Z,trivial⟩,⟨((H9.ftake 4).dtake 2),ω,(lM hk2z).trans ω⟩,θ⟩)))))
   ·refine aT (am (sV Z (aE Z Z iO) (sM Z Z (aa ?_))));obtain rfl:k2=(z.Tapes.getD k default).Recs.length:=by omega
    refine ⟨k+1,⟨Z,Z,Z,Z,trivial⟩,⟨((H6.ftake 3).dtake 1),ω,(oS hkz).trans hk2z⟩,θ⟩
  ·refine aT (ae (ae ?_));obtain rfl:k=z.Tapes.length:=by omega
   have hAll:=hkz;refine am (sF be Z pm (sLd jk (H3.box 0 Z) Z (sE func197 tE Z (ig (H3.sees 2 Z) (p:=gX) func199 Z yj (fun w1 e1 i0 hi0 _ _ K0 o0_1=>l9 K0 o0_1)) H3 (fun w10 e8 H10=>aa (cx Z (fun c5=>?_) (fun c5=>?_))))))
   ·refine ac (rA hQ results126 Z ?_);exact ⟨H10.ext,congrArg (Value.int .i64) (xQ cM hAll c5).symm⟩
   ·refine au (ac (rA hQ results126 Z ?_));exact ⟨H10.ext,congrArg (Value.int .i64) (BK cM hAll c5).symm⟩
end Go.Wk
namespace Go.Wk
open Go.Proofs Rp Go.Proofs.Tryz
set_option maxRecDepth 10000
theorem et {w:World}{z:Wld}{zA9 zA10 zA11:Option Addr}{zC9 zC10 zC11:Nat}(zK:z.Ok) (zS9:Sees w [.slice zA9 z.Groups.length zC9] z.Groups) (zS10:Sees w [.slice zA10 z.On.length zC10] z.On) (zS11:Sees w [.slice zA11 z.Tapes.length zC11] z.Tapes):Ret Tryz.prog 69 #[z.val zA9 zC9 zA10 zC10 zA11 zC11] w fun v w'=>Ext No w w'∧(v = .int .i64 (cz z)):=by
 have zK2:=zK;unfold Wld.Ok Shape.Ok at zK2
 try unfold I64ok at zK2
 try unfold maxLen at zK2
 have zL9:=sL zS9;obtain ⟨zF9,zO9⟩:=zS9;have zL10:=sL zS10;obtain ⟨zF10,zO10⟩:=zS10;have zL11:=sL zS11;obtain ⟨zF11,zO11⟩:=zS11;refine aH func69 Z ntmps69 Z (fun Q hQ hN=>?_);have H0:=Sep.start (ab zO9 (ab zO10 (ab zO11 aA)));refine ac (bu ah Z Z H0 (fun b1 w1 e1 g1 H1=>sA Z Z (aa (ae (ac (sF be Z bk (sV Z (ak bi Z bk Z Z (At.sub (H1.box 0 Z) 9)) (sE func35 u0 Z ji H1 (fun w2 e2 H2=>sA Z Z (aa (ac (sR 2 Z (aa (aC Z (fun c1=>?_) (fun c1=>?_)))))))))))))))
 ·refine ac (sR 2 Z (rN hQ results69 Z ?_));exact ⟨H2.ext,congrArg (Value.int .i64) (if_pos ω).symm⟩
 ·refine au (ae (ae ?_));have hs:=iR (s:=z.Shape) ω;refine am (sV Z (ak be Z cy Z Z (At.whole (H2.box 0 Z))) (sE func124 zr Z (oE η (H2.sees 0 Z) (H2.sees 1 Z) (H2.sees 2 Z) η) H2 (fun w3 e3 H3=>sV Z (bh Z) (sM Z Z (eA (t:=14) Z (fun hg1=>?_) (fun hg1=>?_))))))
  ·try simp only [decide_eq_true_eq,decide_eq_false_iff_not] at hg1
   refine sR 3 Z (sV Z (aY Z Z) (sR 5 Z (sV Z (aY Z Z) (aa (jR Z (ac (rA hQ results69 Z ?_)))))));exact ⟨H3.ext,congrArg (Value.int .i64) ((if_neg ω).trans (if_neg (by simp_all<;>omega))).symm⟩
  ·try simp only [decide_eq_true_eq,decide_eq_false_iff_not] at hg1
   refine ao (wg Z Z Z) Z Z (ak be Z cy Z Z (At.whole (H3.box 0 Z))) (dW (wg Z Z Z) Z Z (aR func125 Z As Z) (sY η (H3.sees 0 Z) (H3.sees 1 Z) (H3.sees 2 Z) η) (fun v3 w4 r3=>?_));obtain ⟨e4,rfl⟩:=r3;have H4:=H3.to e4;refine ao (wg Z Z Z) Z Z (bh Z) (sV Z (bm Z Z) (sM Z Z (eA (t:=19) Z (fun hg2=>?_) (fun hg2=>?_))))
   ·try simp only [decide_eq_true_eq,decide_eq_false_iff_not] at hg2
    refine sR 4 Z (sV Z (aY Z Z) (aa (jR Z (ac (rA hQ results69 Z ?_)))));exact ⟨H4.ext,congrArg (Value.int .i64) ((if_neg ω).trans (if_neg (by simp_all<;>omega))).symm⟩
   ·try simp only [decide_eq_true_eq,decide_eq_false_iff_not] at hg2
    refine ao (wg Z Z Z) Z Z (ag be Z pm Z Z) (ao (wg Z Z Z) Z Z (aj jk Z Z (al (H4.box 0 Z) Z)) (ao (wg Z Z Z) Z Z (aS jk Z) (ao (wg Z Z Z) Z Z (ez Z Z) (sV Z (bm Z Z) (aa (aC Z (fun c2=>?_) (fun c2=>?_)))))))
    ·refine ac (rA hQ results69 Z ?_);exact ⟨H4.ext,congrArg (Value.int .i64) ((if_neg ω).trans (if_neg (by simp_all<;>omega))).symm⟩
    ·refine au (ae (ac (sV Z (ak be Z cy Z Z (At.whole (H4.box 0 Z))) (sE func126 yr Z (mB η (H4.sees 0 Z) (H4.sees 1 Z) (H4.sees 2 Z) η) H4 (fun w5 e5 H5=>sA Z Z (aa (ac (sR 2 Z (aa (aC Z (fun c3=>?_) (fun c3=>?_)))))))))))
     ·refine ac (sR 2 Z (rN hQ results69 Z ?_));exact ⟨H5.ext,congrArg (Value.int .i64) ((if_neg ω).trans ((if_pos (by simp_all<;>omega)).trans (if_pos ω))).symm⟩
     ·refine au (ae (ac (sF be Z ts2 (sLd tu2 (H5.box 0 Z) Z (sE func93 cq Z ba H5 (fun w6 e6 H6=>sV Z (bh Z) (sM Z Z (eA (t:=34) Z (fun hg3=>?_) (fun hg3=>?_)))))))))
      ·try simp only [decide_eq_true_eq,decide_eq_false_iff_not] at hg3
       refine sR 4 Z (sV Z (aY Z Z) (aa (jR Z (ac (rA hQ results69 Z ?_)))));exact ⟨H6.ext,congrArg (Value.int .i64) ((if_neg ω).trans ((if_pos (by simp_all<;>omega)).trans ((if_neg ω).trans (if_neg (by simp_all<;>omega))))).symm⟩
      ·try simp only [decide_eq_true_eq,decide_eq_false_iff_not] at hg3
       refine ao (wg Z Z Z) Z Z (ag be Z ts2 Z Z) (ao (wg Z Z Z) Z Z (aj tu2 Z Z (al (H6.box 0 Z) Z)) (dW (wg Z Z Z) Z Z (aR func93 Z cq Z) ba (fun v6 w7 r6=>?_)));obtain ⟨e7,rfl⟩:=r6;have H7:=H6.to e7;refine ao (wg Z Z Z) Z Z (bh Z) (sV Z (bm Z Z) (aa (cx Z (fun c4=>?_) (fun c4=>?_))))
       ·refine ac (rA hQ results69 Z ?_);exact ⟨H7.ext,congrArg (Value.int .i64) ((if_neg ω).trans ((if_pos (by simp_all<;>omega)).trans ((if_neg ω).trans (if_neg (by simp_all<;>omega))))).symm⟩
       ·refine au (ac (rA hQ results69 Z ?_));exact ⟨H7.ext,congrArg (Value.int .i64) ((if_neg ω).trans ((if_pos (by simp_all<;>omega)).trans ((if_neg ω).trans (if_pos (by simp_all<;>omega))))).symm⟩
theorem dB {w:World}{z:Wld}{zA9 zA10 zA11:Option Addr}{zC9 zC10 zC11:Nat}(zK:z.Ok) (zS9:Sees w [.slice zA9 z.Groups.length zC9] z.Groups) (zS10:Sees w [.slice zA10 z.On.length zC10] z.On) (zS11:Sees w [.slice zA11 z.Tapes.length zC11] z.Tapes):Ret Tryz.prog 57 #[z.val zA9 zC9 zA10 zC10 zA11 zC11] w fun v w'=>Ext No w w'∧(v = .int .i64 (upF z)):=by
 have zK2:=zK;unfold Wld.Ok Shape.Ok at zK2
 try unfold I64ok at zK2
 try unfold maxLen at zK2
 have zL9:=sL zS9;obtain ⟨zF9,zO9⟩:=zS9;have zL10:=sL zS10;obtain ⟨zF10,zO10⟩:=zS10;have zL11:=sL zS11;obtain ⟨zF11,zO11⟩:=zS11;refine aH func57 Z ntmps57 Z (fun Q hQ hN=>?_);have H0:=Sep.start (ab zO9 (ab zO10 (ab zO11 aA)));refine ac (bu ah Z Z H0 (fun b1 w1 e1 g1 H1=>sA Z Z (aa (ae (ac (sV Z (ak be Z cy Z Z (At.whole (H1.box 0 Z))) (sE func69 nf Z (et η (H1.sees 0 Z) (H1.sees 1 Z) (H1.sees 2 Z)) H1 (fun w2 e2 H2=>sA Z Z (aa (ac (sR 2 Z (aa (aC Z (fun c1=>?_) (fun c1=>?_))))))))))))))
 ·refine ac (sR 2 Z (rN hQ results57 Z ?_));exact ⟨H2.ext,congrArg (Value.int .i64) (if_pos ω).symm⟩
 ·refine au (ae (ac (sF be Z ts4 (sLd tu4 (H2.box 0 Z) Z (aa (cx Z (fun c2=>?_) (fun c2=>?_)))))))
  ·refine ac (rA hQ results57 Z ?_);exact ⟨H2.ext,congrArg (Value.int .i64) ((if_neg ω).trans (if_pos η)).symm⟩
  ·refine au (ac (rA hQ results57 Z ?_));exact ⟨H2.ext,congrArg (Value.int .i64) ((if_neg ω).trans (if_neg (by simp_all<;>omega))).symm⟩
end Go.Wk
namespace Go.Wk
open Rp (sz own)
section
variable {z:Wld}{s:Shape}{g row d:Int}
theorem CO (h:ins g 0 (z.Shape.Groups+z.Shape.Column-1)=false):groupF z g=3:=by rw [groupF,if_neg (by simp [h])]
theorem zd (h:ins g 0 (z.Shape.Groups+z.Shape.Column-1)=true) (h2:¬ g∈z.On):groupF z g=8:=by rw [groupF,if_pos h,if_neg h2]
theorem uX (h:ins g 0 (z.Shape.Groups+z.Shape.Column-1)=true) (h2:g∈z.On):groupF z g=0:=by rw [groupF,if_pos h,if_pos h2]
def qh (s:Shape) (g d row:Int):Bool:=ins g 0 (s.Groups+s.Column-1) && (ins d 0 (s.Data+s.Spare-1) && ins row 0 (s.Rows-1))
theorem yR (h:s.ok=true):qh s g 0 row=(ins g 0 (s.Groups+s.Column-1) && ins row 0 (s.Rows-1)):=by
  have:=aG h
  have:ins 0 0 (s.Data+s.Spare-1)=true:=aJ.2 ω
  rw [qh,this,Bool.true_and]
theorem od (h:upF z=0) (h2:p5 z g row=0):dp z g row=0:=by rw [dp,if_neg ω]; exact h2
theorem qW (h:groupF z g=0):ins g 0 (z.Shape.Groups+z.Shape.Column-1)=true∧g∈z.On:=by
  unfold groupF at h
  split at h
  · rename_i h1
    split at h
    · rename_i h2; exact ⟨h1,h2⟩
    · cases h
  · cases h
theorem jC (h:dp z g row=0):z.Shape.ok=true∧aN z=true∧ins g 0 (z.Shape.Groups+z.Shape.Column-1)=true∧ins row 0 (z.Shape.Rows-1)=true∧g∈z.On:=by
  unfold dp at h
  split at h
  · rename_i h1; exact absurd h h1
  · rename_i h1
    have hw:=bx (hZ (w:=z) ω).1
    unfold p5 at h
    split at h
    · cases h
    · rename_i h2
      obtain ⟨h3,h4⟩:=qW h
      exact ⟨hw.1,hw.2.1,h3,by cases hr:ins row 0 (z.Shape.Rows-1)<;>simp_all,h4⟩
theorem uZ {b:Bool}(h:(!b)=true):¬ b=true:=by cases b<;>simp_all
theorem zZ {b:Bool}(h:(!b)=false):b=true:=by cases b<;>simp_all
theorem pE {g:List Drive}{row k:Nat}(h:¬ (g.getD k default).Wiped=true):dx g row (k+1)=if dx g row k≤((g.getD k default).Blocks.getD row default).Stamp then ((g.getD k default).Blocks.getD row default).Stamp else dx g row k:=by rw [dx,if_neg h]
theorem ua {g:List Drive}{row k:Nat}(h:(g.getD k default).Wiped=true):dx g row (k+1)=dx g row k:=by rw [dx,if_pos h]
end
end Go.Wk
namespace Go.Wk
section
variable {z:Wld}{s:Shape}{r:Rec}{g row d:Int}
theorem Et:0≤s.fault∧s.fault≤3:=by unfold Shape.fault; split<;>omega
theorem Gb {b:ByteArray}:0≤db b∧db b≤5:=by unfold db; split<;>omega
theorem E5:0≤eD s r∧eD s r≤5:=by
  have:=Gb (b:=r.Name)
  unfold eD
  repeat' split
  all_goals omega
theorem Gq:0≤recF s r∧recF s r≤5:=by
  have:=E5 (s:=s) (r:=r)
  unfold recF
  repeat' split
  all_goals omega
theorem wB {rs:List Rec}:∀ k,0≤eN s rs k∧eN s rs k≤5
  | 0=>by simp [eN]
  | k+1=>by
    have h1:=wB (rs:=rs) k
    have h2:=Gq (s:=s) (r:=rs.getD k default)
    rw [eN]
    split<;>omega
theorem xr {ts:List Tape}:∀ k,0≤eH s ts k∧eH s ts k≤5
  | 0=>by simp [eH]
  | k+1=>by
    have h1:=xr (ts:=ts) k
    have h2:=wB (s:=s) (rs:=(ts.getD k default).Recs) (ts.getD k default).Recs.length
    rw [eH]
    split<;>omega
theorem Cy:0≤dN z∧dN z≤5:=by
  have:=xr (s:=z.Shape) (ts:=z.Tapes) z.Tapes.length
  unfold dN
  repeat' split
  all_goals omega
theorem ns:0≤cz z∧cz z≤5:=by
  have h1:=Et (s:=z.Shape)
  have h2:=Cy (z:=z)
  unfold cz
  repeat' split
  all_goals omega
theorem qG:0≤upF z∧upF z≤9:=by
  have h1:=ns (z:=z)
  unfold upF
  repeat' split
  all_goals omega
theorem BL:0≤groupF z g∧groupF z g≤8:=by unfold groupF; repeat' split<;>omega
theorem AF:0≤p5 z g row∧p5 z g row≤8:=by
  have h1:=BL (z:=z) (g:=g)
  unfold p5; split<;>omega
theorem uw:0≤dp z g row∧dp z g row≤9:=by
  have h1:=qG (z:=z)
  have h2:=AF (z:=z) (g:=g) (row:=row)
  unfold dp; split<;>omega
theorem rX {G:List Drive}{row:Nat}(h:∀ d,d<G.length→0≤((G.getD d default).Blocks.getD row default).Stamp∧((G.getD d default).Blocks.getD row default).Stamp≤1000000000):∀ k,k≤G.length→0≤dx G row k∧dx G row k≤1000000000
  | 0,_=>by simp [dx]
  | k+1,hk=>by
    have h1:=rX h k ω
    have h2:=h k ω
    rw [dx]
    repeat' split
    all_goals omega
theorem DT (hs:z.Shape.ok=true) (hG:aN z=true) (hg:ins g 0 (z.Shape.Groups+z.Shape.Column-1)=true) (hr:ins row 0 (z.Shape.Rows-1)=true) :
    0≤dx (z.Groups.getD g.toNat []) row.toNat (z.Groups.getD g.toNat []).length∧dx (z.Groups.getD g.toNat []) row.toNat (z.Groups.getD g.toNat []).length≤1000000000:=by
  have hgg:=cw hG
  have hgi:=aJ.1 hg
  have hri:=aJ.1 hr
  obtain ⟨hl,hd⟩:=hgg.2 g.toNat ω
  refine rX (fun d hdl=>?_) _ (Nat.le_refl _)
  obtain ⟨h1,h2⟩:=hd d hdl
  have:=eU (h2 row.toNat ω)
  exact ⟨this.1,this.2.1⟩
end
end Go.Wk
namespace Go.Wk
open Go.Proofs Rp Go.Proofs.Tryz
set_option maxRecDepth 10000
theorem es {w:World}{zb zC9 zC10 zC11:Nat}{z:Wld}{zA9 zA10 zA11:Option Addr}{g:Int}(zB:w.heap[zb]? = some (.cells [.int .i64 z.Shape.Groups,.int .i64 z.Shape.Column,.int .i64 z.Shape.Data,.int .i64 z.Shape.Spare,.int .i64 z.Shape.Rows,.int .i64 z.Shape.Cap,.int .i64 z.Shape.Batch,.int .i64 z.Shape.Queue,.int .i64 z.Shape.Stage,.slice zA9 z.Groups.length zC9,.slice zA10 z.On.length zC10,.slice zA11 z.Tapes.length zC11,.int .i64 z.Writes,.int .i64 z.Stop,.bool z.Down].toArray 31)) (zK:z.Ok) (zS9:Sees w [.slice zA9 z.Groups.length zC9] z.Groups) (zS10:Sees w [.slice zA10 z.On.length zC10] z.On) (zS11:Sees w [.slice zA11 z.Tapes.length zC11] z.Tapes):Ret Tryz.prog 59 #[.pointer (some ⟨zb,0,none⟩),.int .i64 g] w fun v w'=>Ext No w w'∧(v = .bool (decide (g∈z.On))):=by
 have zK2:=zK;unfold Wld.Ok Shape.Ok at zK2
 try unfold I64ok at zK2
 try unfold maxLen at zK2
 have zL9:=sL zS9;obtain ⟨zF9,zO9⟩:=zS9;have zL10:=sL zS10;obtain ⟨zF10,zO10⟩:=zS10;have zL11:=sL zS11;obtain ⟨zF11,zO11⟩:=zS11;refine aH func59 Z ntmps59 Z (fun Q hQ hN=>?_);have H0:=Sep.start (bX zB (ab zO9 (ab zO10 (ab zO11 aA))));refine ac (sA Z Z (aa (ac (sR 2 Z (sF be Z cG (sLd bH (H0.fbox 0 Z) Z (sM Z Z (sE func115 jV Z (bT (H0.sees 2 Z)) H0 (fun w1 e1 H1=>rA hQ results59 Z ?_)))))))));exact ⟨H1.ext,Z⟩
theorem cu {w:World}{zb zC9 zC10 zC11:Nat}{z:Wld}{zA9 zA10 zA11:Option Addr}{g:Int}(zB:w.heap[zb]? = some (.cells [.int .i64 z.Shape.Groups,.int .i64 z.Shape.Column,.int .i64 z.Shape.Data,.int .i64 z.Shape.Spare,.int .i64 z.Shape.Rows,.int .i64 z.Shape.Cap,.int .i64 z.Shape.Batch,.int .i64 z.Shape.Queue,.int .i64 z.Shape.Stage,.slice zA9 z.Groups.length zC9,.slice zA10 z.On.length zC10,.slice zA11 z.Tapes.length zC11,.int .i64 z.Writes,.int .i64 z.Stop,.bool z.Down].toArray 31)) (zK:z.Ok) (zS9:Sees w [.slice zA9 z.Groups.length zC9] z.Groups) (zS10:Sees w [.slice zA10 z.On.length zC10] z.On) (zS11:Sees w [.slice zA11 z.Tapes.length zC11] z.Tapes) (hs:z.Shape.ok=true):Ret Tryz.prog 66 #[.pointer (some ⟨zb,0,none⟩),.int .i64 g] w fun v w'=>Ext No w w'∧(v = .int .i64 (groupF z g)):=by
 have zK2:=zK;unfold Wld.Ok Shape.Ok at zK2
 try unfold I64ok at zK2
 try unfold maxLen at zK2
 have zL9:=sL zS9;obtain ⟨zF9,zO9⟩:=zS9;have zL10:=sL zS10;obtain ⟨zF10,zO10⟩:=zS10;have zL11:=sL zS11;obtain ⟨zF11,zO11⟩:=zS11;have sbd:=aG hs;refine aH func66 Z ntmps66 Z (fun Q hQ hN=>?_);have H0:=Sep.start (bX zB (ab zO9 (ab zO10 (ab zO11 aA))));refine ac (sA Z Z (aa (ae (ax (ac (sR 2 Z (sF be Z bk (sV Z (ak bi Z bk Z Z (At.sub (H0.fbox 0 Z) 9)) (sM Z Z (sE func58 fM Z (bD η) H0 (fun w1 e1 H1=>sV Z (bh Z) (sA Z Z (aa (cx Z (fun c1=>?_) (fun c1=>?_)))))))))))))))
 ·refine ac (rA hQ results66 Z ?_);exact ⟨H1.ext,congrArg (Value.int .i64) (CO (fI c1)).symm⟩
 ·refine ac (sR 2 Z (sE func59 nA Z (es (H1.fbox 0 Z) η (H1.sees 1 Z) (H1.sees 2 Z) (H1.sees 3 Z)) H1 (fun w2 e2 H2=>sV Z (bh Z) (sA Z Z (aa (cx Z (fun c2=>?_) (fun c2=>?_)))))))
  ·refine ac (rA hQ results66 Z ?_);exact ⟨H2.ext,congrArg (Value.int .i64) (zd (aU c1) (of_decide_eq_false (fI c2))).symm⟩
  ·refine au (ac (rA hQ results66 Z ?_));exact ⟨H2.ext,congrArg (Value.int .i64) (uX (aU c1) (of_decide_eq_true (aU c2))).symm⟩
theorem kC {w:World}{zb zC9 zC10 zC11:Nat}{z:Wld}{zA9 zA10 zA11:Option Addr}{g row:Int}(zB:w.heap[zb]? = some (.cells [.int .i64 z.Shape.Groups,.int .i64 z.Shape.Column,.int .i64 z.Shape.Data,.int .i64 z.Shape.Spare,.int .i64 z.Shape.Rows,.int .i64 z.Shape.Cap,.int .i64 z.Shape.Batch,.int .i64 z.Shape.Queue,.int .i64 z.Shape.Stage,.slice zA9 z.Groups.length zC9,.slice zA10 z.On.length zC10,.slice zA11 z.Tapes.length zC11,.int .i64 z.Writes,.int .i64 z.Stop,.bool z.Down].toArray 31)) (zK:z.Ok) (zS9:Sees w [.slice zA9 z.Groups.length zC9] z.Groups) (zS10:Sees w [.slice zA10 z.On.length zC10] z.On) (zS11:Sees w [.slice zA11 z.Tapes.length zC11] z.Tapes) (hs:z.Shape.ok=true):Ret Tryz.prog 79 #[.pointer (some ⟨zb,0,none⟩),.int .i64 g,.int .i64 row] w fun v w'=>Ext No w w'∧(v = .int .i64 (p5 z g row)):=by
 have zK2:=zK;unfold Wld.Ok Shape.Ok at zK2
 try unfold I64ok at zK2
 try unfold maxLen at zK2
 have zL9:=sL zS9;obtain ⟨zF9,zO9⟩:=zS9;have zL10:=sL zS10;obtain ⟨zF10,zO10⟩:=zS10;have zL11:=sL zS11;obtain ⟨zF11,zO11⟩:=zS11;have sbd:=aG hs;refine aH func79 Z ntmps79 Z (fun Q hQ hN=>?_);have H0:=Sep.start (bX zB (ab zO9 (ab zO10 (ab zO11 aA))));refine ac (sA Z Z (aa (ae (ac (sR 2 Z (sF be Z bk (sV Z (ak bi Z bk Z Z (At.sub (H0.fbox 0 Z) 9)) (sM Z Z (sE func58 fM Z (bD η) H0 (fun w1 e1 H1=>sM Z Z (eA (t:=13) Z (fun hg1=>?_) (fun hg1=>?_))))))))))))
 ·try simp only [decide_eq_true_eq,decide_eq_false_iff_not] at hg1
  refine ao (wg Z Z Z) Z Z (aL Z) (ao (wg Z Z Z) Z Z (fH Z) (ao (wg Z Z Z) Z Z (ag be Z bk Z Z) (ao (wg Z Z Z) Z Z (ak bi Z bk Z Z (At.sub (H1.fbox 0 Z) 9)) (ao (wg Z Z Z) Z Z (aL Z) (dW (wg Z Z Z) Z Z (aR func71 Z iC Z) (cm η) (fun v2 w2 r2=>?_))))));obtain ⟨e2,rfl⟩:=r2;have H2:=H1.to e2;refine ao (wg Z Z Z) Z Z (bh Z) (sV Z (aY Z Z) (aa (cx Z (fun c1=>?_) (fun c1=>?_))))
  ·refine ac (rA hQ results79 Z ?_);exact ⟨H2.ext,congrArg (Value.int .i64) (if_pos (by simp_all)).symm⟩
  ·refine au (ac (sR 2 Z (sE func66 li Z (cu (H2.fbox 0 Z) η (H2.sees 1 Z) (H2.sees 2 Z) (H2.sees 3 Z) η) H2 (fun w3 e3 H3=>rA hQ results79 Z ?_))));exact ⟨H3.ext,congrArg (Value.int .i64) (if_neg (by simp_all)).symm⟩
 ·try simp only [decide_eq_true_eq,decide_eq_false_iff_not] at hg1
  refine sR 7 Z (sV Z (bm Z Z) (aa (md Z (au (ac (sR 2 Z (sE func66 li Z (cu (H1.fbox 0 Z) η (H1.sees 1 Z) (H1.sees 2 Z) (H1.sees 3 Z) η) H1 (fun w4 e4 H4=>rA hQ results79 Z ?_))))))));exact ⟨H4.ext,congrArg (Value.int .i64) (if_neg (by simp_all)).symm⟩
theorem kI {w:World}{zb zC9 zC10 zC11:Nat}{z:Wld}{zA9 zA10 zA11:Option Addr}{g row:Int}(zB:w.heap[zb]? = some (.cells [.int .i64 z.Shape.Groups,.int .i64 z.Shape.Column,.int .i64 z.Shape.Data,.int .i64 z.Shape.Spare,.int .i64 z.Shape.Rows,.int .i64 z.Shape.Cap,.int .i64 z.Shape.Batch,.int .i64 z.Shape.Queue,.int .i64 z.Shape.Stage,.slice zA9 z.Groups.length zC9,.slice zA10 z.On.length zC10,.slice zA11 z.Tapes.length zC11,.int .i64 z.Writes,.int .i64 z.Stop,.bool z.Down].toArray 31)) (zK:z.Ok) (zS9:Sees w [.slice zA9 z.Groups.length zC9] z.Groups) (zS10:Sees w [.slice zA10 z.On.length zC10] z.On) (zS11:Sees w [.slice zA11 z.Tapes.length zC11] z.Tapes) (hs:z.Shape.ok=true) (hG:aN z=true) (hg:ins g 0 (z.Shape.Groups+z.Shape.Column-1)=true) (hr:ins row 0 (z.Shape.Rows-1)=true):Ret Tryz.prog 202 #[.pointer (some ⟨zb,0,none⟩),.int .i64 g,.int .i64 row] w fun v w'=>Ext No w w'∧(v = .int .i64 (dx (z.Groups.getD g.toNat []) row.toNat (z.Groups.getD g.toNat []).length)):=by
 have zK2:=zK;unfold Wld.Ok Shape.Ok at zK2
 try unfold I64ok at zK2
 try unfold maxLen at zK2
 have zL9:=sL zS9;obtain ⟨zF9,zO9⟩:=zS9;have zL10:=sL zS10;obtain ⟨zF10,zO10⟩:=zS10;have zL11:=sL zS11;obtain ⟨zF11,zO11⟩:=zS11;have sbd:=aG hs;have hgg:=cw hG;have hgl:=hgg.1;have hgi:=aJ.1 hg;obtain ⟨hdl,hdd⟩:=hgg.2 g.toNat ω;have hri:=aJ.1 hr;refine aH func202 Z ntmps202 Z (fun Q hQ hN=>?_);have H0:=Sep.start (bX zB (ab zO9 (ab zO10 (ab zO11 aA))));refine ac (sA Z Z (aa (ac (sA Z Z (aa (ae (ae ?_)))))));obtain ⟨eb1,eo1,ea1,ek1,ef1,ee1,ec1,eO1,eH1⟩:=fo (H0.seen 1 Z) g.toNat ω;have eP1:=H0.look1 1 Z eO1 eH1;refine am (sR 2 Z (sF be Z kh (sLd fW (eP1.fbox 0 Z) Z (sM Z Z (sV Z (aB fW ud Z Z ee1 g.toNat ω ω) (sV Z (aj fl Z Z ec1) (sV Z (aS fl Z) (sM Z Z (aa (ax (dJ (γ:=Nat) eP1 [(2,_),(6,_),(16,_),(17,_)] ⟨Z,Z,Z,Z,trivial⟩ (fun k=>[(7,.int .i64 (dx (z.Groups.getD g.toNat []) row.toNat k)),(18,.int .i64 k)]) (fun k=>k≤(z.Groups.getD g.toNat []).length∧True) (fun k=>(z.Groups.getD g.toNat []).length-k) 0 ⟨Z,Z,trivial⟩ ⟨ω,trivial⟩ (fun k w1 H1 ⟨hk,_⟩=>?_))))))))))));dsimp only[lCA,lNA];refine ac (sV Z (aX Z Z) (aa (ae (aC Z (fun c1=>?_) (fun c1=>?_)))))
 ·refine au (ae (ax (ae ?_)));obtain ⟨eb2,eo2,es1,ef2,ee2,ec2,eO2,eH2,em1⟩:=dr (H1.seen 4 Z) k ω;obtain ⟨ea2,ek2,eg1,rfl,eq1,eK1,eo3⟩:=jB eO2;have eP2:=H1.look1 4 Z eo3 (fun b hb=>eH2 b (by rw [eq1]; simp [hb]));have eL1:=oL eo3;refine am (sV Z (aB fl gD Z Z ee2 k ω ω) (sV Z (ak iz Z gD Z Z ec2) (bB ah Z zeroValue72 eP2 (fun b1 w2 e1 g1 H2=>aF ah gD Z Z Z Z H2 0 Z Z (fun w3 e2 H3=>?_)))));dsimp only[lNA,lCA,lSZ,lSS,aI] at H3;refine aa (ac (sF iz Z ts4 (sLd tu4 (H3.box 0 Z) Z (sV Z (bh Z) (aa (cx Z (fun c2=>?_) (fun c2=>?_)))))))
  ·have hbl:=(hdd k ω).1;obtain ⟨eb3,eo4,es2,ef3,ee3,ec3,eO3,eH3,em2⟩:=dr (H3.seen 5 Z) row.toNat ω;obtain ⟨ea3,ek3,eg2,rfl,eq2,eK2,eo5⟩:=kV eO3;have eK2U:=eK2;unfold Block.Ok at eK2U
   try unfold I64ok at eK2U
   try unfold maxLen at eK2U
   have eP3:=H3.look1 5 Z eo5 (fun b hb=>eH3 b (by rw [eq2]; simp [hb]));have eL2:=oL eo5;refine am (sM Z Z (sF iz Z rH (sLd iy (eP3.box 0 Z) Z (sM Z Z (sV Z (aB iy gc Z Z ee3 row.toNat ω ω) (sF jh Z ts2 (sV Z (aj tu2 Z Z (eu ec3 0 Z)) (sV Z (DB Z Z) (sA Z Z (aa (am (sV Z (aE Z Z iO) (sM Z Z (aa (⟨k+1,⟨eqI (by first | exact (pE (uZ c2)).symm | (rw [pE (uZ c2)]; split<;>split<;>omega)),Z,Z,Z,Z,Z,trivial⟩,⟨((eP3.ftake 5).dtake 0),ω,trivial⟩,θ⟩)))))))))))))))
  ·refine au (am (sV Z (aE Z Z iO) (sM Z Z (aa (⟨k+1,⟨eqI ((ua (zZ c2)).symm),Z,Z,Z,Z,Z,trivial⟩,⟨((H3.ftake 5).dtake 0),ω,trivial⟩,θ⟩)))))
 ·refine aT (ac (sR 2 Z (rN hQ results202 Z ?_)));obtain rfl:k=(z.Groups.getD g.toNat []).length:=by omega
  exact ⟨H1.ext,Z⟩
end Go.Wk
namespace Go.Wk
open Rp (sz own)
def cat (r q:Rsc):Rsc:=⟨r.fp++q.fp,fun w=>r.φ w∧q.φ w,fun h k=>⟨r.st h.1 fun b hb=>k b (by simp [hb]),q.st h.2 fun b hb=>k b (by simp [hb])⟩,fun h b hb=>(List.mem_append.1 hb).elim (r.lt h.1 b) (q.lt h.2 b)⟩
section
variable {M:Nat→Prop}{w0 w w':World}{Δ F:List Rsc}
theorem Sep.join2 (h:Sep M w0 Δ F w) (i j:Nat) {r q:Rsc}(hi:Δ[i]? = some r) (hj:Δ[j]? = some q) (hij:Nat.beq j i=false):Sep M w0 ((Δ.set j gone).set i (cat r q)) F w:=
  h.set2 hi hj hij Ext.refl (q:=cat r q) ⟨h.r i hi,h.r j hj⟩ (List.nodup_append.2 ⟨h.nodup1 hi,h.nodup1 hj,fun a ha b hb e=>by subst e; exact h.apart hi hj hij a hb ha⟩)
    fun b hb=>(List.mem_append.1 hb).elim .inl fun h => .inr (.inl h)
theorem Sep.conv (h:Sep M w0 Δ F w) (i:Nat) {r:Rsc}(q:Rsc) (hi:Δ[i]? = some r) (hq:q.φ w) (hfp:∀ b∈q.fp,b∈r.fp) (hn:q.fp.Nodup):Sep M w0 (Δ.set i q) F w:=
  h.set hi Ext.refl hq hn fun b hb => .inl (hfp b hb)
theorem Sep.partLast {A:List Rsc}{r:Rsc}(h:Sep M w0 (A++[r]) F w) (rs:List Rsc) (hrs:∀ q∈rs,q.φ w) (hb:blocks rs=r.fp):Sep M w0 (A++gone::rs) F w:=by
  have H:=h.part A.length (r:=r) σ rs hrs hb
  rw [show (A++[r]).set A.length gone=A++[gone] by simp] at H
  simpa using H
def hol {α:Type}[Rp α] (ad:Option Addr) (n cap:Nat) (xs:List α) (k b off:Nat) (T:TypeId) (ck:List Value) (f1 f2:List Nat):Rsc:=
  ⟨b::(f1++f2),fun w=>∃ cur:Array Value,w.heap[b]? = some (.cells cur T (0,0))∧off+sz α≤cur.size∧(cur.toList.drop off).take (sz α)=ck∧(∀ x∈b::(f1++f2),x<w.heap.size) ∧
    ∀ w' cur' x' fk',w'.heap[b]? = some (.cells cur' T (0,0))→cur'.size=cur.size→(∀ j,j<off∨off+sz α≤j→cur'[j]? = cur[j]?)→(∀ b∈f1,w'.heap[b]? = w.heap[b]?)→(∀ b∈f2,w'.heap[b]? = w.heap[b]?) →
        own true w' ((cur'.toList.drop off).take (sz α)) x' fk'→own true w' [.slice ad n cap] (xs.set k x') (b::(f1++(fk'++f2))),
   fun h e=>by
      obtain ⟨cur,h1,h2,h3,h4,h5⟩:=h
      refine ⟨cur,(e b σ).trans h1,h2,h3,fun x hx=>?_,fun w' cur' x' fk' q1 q2 q3 q4 q5 q6=>h5 w' cur' x' fk' q1 q2 q3 (fun b hb=>(q4 b hb).trans (e b (by simp [hb]))) (fun b hb=>(q5 b hb).trans (e b (by simp [hb]))) q6⟩
      have h7:=h4 x hx
      have h8:=e x hx
      rw [Array.getElem?_eq_getElem h7] at h8
      exact (Array.getElem?_eq_some_iff.1 h8).1,
   fun h=>by obtain ⟨_,_,_,_,h,_⟩:=h; exact h⟩
variable {α:Type}[Rp α]
theorem Sep.focus {d:α}(h:Sep M w0 Δ F w) (i:Nat) {ad n cap} {xs:List α}{fp} (hi:Δ[i]? = some (Wk.mine [.slice ad n cap] xs fp)) (k:Nat) (hk:k<xs.length) :
    ∃ b o T ck f1 f2 fk,ad=some ⟨b,o,none⟩∧own true w ck (xs.getD k d) fk∧Sep M w0 (Δ.set i (hol ad n cap xs k b (o+k*sz α) T ck f1 f2)++[Wk.mine ck (xs.getD k d) fk]) F w:=by
  have hnd:=h.nodup1 hi
  obtain ⟨b,o,cur,T,f1,fk,f2,e1,e2,hb,hsz,hx,hback⟩:=pt (h.mine i hi) k hk
  have hlt:=Rp.lt (h.mine i hi)
  have hk1:(k+1)*sz α=k*sz α+sz α:=by rw [Nat.add_mul,Nat.one_mul]
  change fp.Nodup at hnd
  subst e2
  obtain ⟨n1,n2⟩:=List.nodup_cons.1 hnd
  rw [List.nodup_append,List.nodup_append] at n2
  obtain ⟨d1,⟨d2,d3,d4⟩,d5⟩:=n2
  have hmem:∀ x,x∈(b::(f1++f2))++fk↔x∈b::(f1++(fk++f2)):=fun x=>by
    simp only [List.cons_append,List.mem_cons,List.mem_append]
    constructor
    · rintro (h | (h | h) | h)
      · exact .inl h
      · exact .inr (.inl h)
      · exact .inr (.inr (.inr h))
      · exact .inr (.inr (.inl h))
    · rintro (h | h | h | h)
      · exact .inl h
      · exact .inr (.inl (.inl h))
      · exact .inr (.inr h)
      · exact .inr (.inl (.inr h))
  have H1:=h.set hi (q:=reord (Wk.mine [.slice ad n cap] xs (b::(f1++(fk++f2)))) ((b::(f1++f2))++fk) hmem) Ext.refl (h.mine i hi)
    (by
      change ((b::(f1++f2))++fk).Nodup
      refine List.nodup_append.2 ⟨List.nodup_cons.2 ⟨fun hm=>n1 (by rcases List.mem_append.1 hm with hm | hm<;>simp [hm]),List.nodup_append.2 ⟨d1,d3,fun p hp q hq e=>d5 p hp q (by simp [hq]) e⟩⟩,d2,fun p hp q hq e=>?_⟩
      subst e
      rcases List.mem_cons.1 hp with rfl | hp
      · exact n1 (by simp [hq])
      · rcases List.mem_append.1 hp with hp | hp
        · exact d5 p hp p (by simp [hq]) rfl
        · exact d4 p hq p hp rfl)
    (fun x hx => .inl ((hmem x).1 hx))
  have hil:i<Δ.length:=(List.getElem?_eq_some_iff.1 hi).1
  have ek:xs.getD k d=xs[k]:=by simp [List.getD,hk]
  refine ⟨b,o,T,_,f1,f2,fk,e1,by rw [ek]; exact hx,?_⟩
  have H2:=H1.part i (r:=reord (Wk.mine [.slice ad n cap] xs (b::(f1++(fk++f2)))) ((b::(f1++f2))++fk) hmem) (by rw [List.getElem?_set_self hil]) [hol ad n cap xs k b (o+k*sz α) T ((cur.toList.drop (o+k*sz α)).take (sz α)) f1 f2,Wk.mine ((cur.toList.drop (o+k*sz α)).take (sz α)) (xs.getD k d) fk] ?_ ?_
  · rw [List.set_set] at H2
    exact (H2.perm (mE hil)).sub ((List.Sublist.refl _).append (.cons _ (.refl _)))
  · refine all_cons ⟨cur,hb,hsz,rfl,fun x hx=>hlt x ((hmem x).1 (by simp only [List.mem_append]; exact .inl hx)),fun w' cur' x' fk' q1 q2 q3 q4 q5 q6=>hback w' cur' x' fk' q1 q2 (fun j hj=>q3 j (by rw [hk1] at hj; omega)) q4 q5 q6⟩ (all_cons ?_ σ)
    rw [ek]; exact hx
  · simp [blocks,hol,Wk.mine,reord]
variable {ad:Option Addr}{n cap k b off:Nat}{xs:List α}{T:TypeId}{ck:List Value}{f1 f2:List Nat}
theorem Sep.holAt (h:Sep M w0 Δ F w) (i:Nat) (hi:Δ[i]? = some (hol ad n cap xs k b off T ck f1 f2)):At w b off ck:=by
  obtain ⟨cur,h1,h2,h3,_⟩:=h.r i hi
  rw [← h3]
  exact tM h1 _
theorem Sep.hset (h:Sep M w0 Δ F w) (i:Nat) (hi:Δ[i]? = some (hol ad n cap xs k b off T ck f1 f2)) (j:Nat) (hj:j<ck.length) (v:Value) :
    ∃ cur:Array Value,w.heap[b]? = some (.cells cur T (0,0))∧off+j<cur.size∧Sep M w0 (Δ.set i (hol ad n cap xs k b off T (ck.set j v) f1 f2)) F (Wk.put w b (.cells (cur.setIfInBounds (off+j) v) T (0,0))):=by
  obtain ⟨cur,h1,h2,h3,h4,h5⟩:(hol ad n cap xs k b off T ck f1 f2).φ w:=h.r i hi
  have hnd:=h.nodup1 hi
  change (b::(f1++f2)).Nodup at hnd
  obtain ⟨n1,_⟩:=List.nodup_cons.1 hnd
  have hjs:j<sz α:=by
    have:=congrArg List.length h3
    rw [List.length_take,List.length_drop] at this; omega
  have hE:Ext (· = b) w (Wk.put w b (.cells (cur.setIfInBounds (off+j) v) T (0,0))):=Ext.refl.put (.inl rfl)
  refine ⟨cur,h1,ω,h.set hi (q:=hol ad n cap xs k b off T (ck.set j v) f1 f2) (hE.mono fun b' _ e=>by subst e; simp [hol]) ?_ hnd (fun b hb => .inl hb)⟩
  refine ⟨cur.setIfInBounds (off+j) v,jc h1,by simpa using h2,?_,fun x hx=>by have:=h4 x hx; have:=hE.size; omega,fun w' cur' x' fk' q1 q2 q3 q4 q5 q6=>?_⟩
  · rw [Array.toList_setIfInBounds,List.drop_set,if_neg ω,List.take_set,h3,Nat.add_sub_cancel_left]
  · refine h5 w' cur' x' fk' q1 (by simpa using q2) (fun l hl=>?_) (fun b' hb'=>?_) (fun b' hb'=>?_) q6
    · rw [q3 l hl,Array.getElem?_setIfInBounds_ne ω]
    · rw [q4 b' hb']; exact hE.block b' (h4 b' (by simp [hb'])) fun e=>n1 (by subst e; simp [hb'])
    · rw [q5 b' hb']; exact hE.block b' (h4 b' (by simp [hb'])) fun e=>n1 (by subst e; simp [hb'])
theorem Sep.fill (h:Sep M w0 Δ F w) (i j:Nat) {fk} {x:α}(hi:Δ[i]? = some (hol ad n cap xs k b off T ck f1 f2)) (hj:Δ[j]? = some (Wk.mine ck x fk)) (hij:Nat.beq j i=false) :
    ∃ fp',Sep M w0 ((Δ.set j gone).set i (Wk.mine [.slice ad n cap] (xs.set k x) fp')) F w:=by
  obtain ⟨cur,h1,h2,h3,h4,h5⟩:(hol ad n cap xs k b off T ck f1 f2).φ w:=h.r i hi
  have hx:=h.mine j hj
  have hnd:=h.nodup1 hi
  change (b::(f1++f2)).Nodup at hnd
  have hnk:=h.nodup1 hj
  change fk.Nodup at hnk
  have hap:∀ x∈fk,x ∉ b::(f1++f2):=fun x hx hm=>h.apart (i:=i) (j:=j) hi hj hij x hx hm
  obtain ⟨n1,n2⟩:=List.nodup_cons.1 hnd
  obtain ⟨d1,d2,d3⟩:=List.nodup_append.1 n2
  have hbk:b ∉ fk:=fun hm=>hap b hm σ
  refine ⟨b::(f1++(fk++f2)),h.set2 hi hj hij (q:=Wk.mine [.slice ad n cap] (xs.set k x) (b::(f1++(fk++f2)))) Ext.refl ?_ ?_ ?_⟩
  · exact h5 w cur x fk h1 rfl (fun _ _=>rfl) (fun _ _=>rfl) (fun _ _=>rfl) (by rw [h3]; exact hx)
  · change (b::(f1++(fk++f2))).Nodup
    refine List.nodup_cons.2 ⟨fun hm=>?_,List.nodup_append.2 ⟨d1,List.nodup_append.2 ⟨hnk,d2,fun p hp q hq e=>?_⟩,fun p hp q hq e=>?_⟩⟩
    · simp only [List.mem_append,not_or] at hm n1
      rcases hm with hm | hm | hm
      · exact n1.1 hm
      · exact hbk hm
      · exact n1.2 hm
    · subst e; exact hap p hp (by simp [hq])
    · subst e
      rcases List.mem_append.1 hq with hq | hq
      · exact hap p hq (by simp [hp])
      · exact d3 p hp p hq rfl
  · intro x hx
    change x∈b::(f1++(fk++f2)) at hx
    simp only [List.mem_cons,List.mem_append] at hx
    rcases hx with h | h | h | h
    · exact .inl (by simp [hol,h])
    · exact .inl (by simp [hol,h])
    · exact .inr (.inl h)
    · exact .inl (by simp [hol,h])
theorem Sep.focusL {β:Type}[Rp β] (h:Sep M w0 Δ F w) (i:Nat) {ad n cap} {xs:List (List β)}{fp} (hi:Δ[i]? = some (Wk.mine [.slice ad n cap] xs fp)) (k:Nat) (hk:k<xs.length) :
    ∃ b o T f1 f2 a c fk,ad=some ⟨b,o,none⟩∧Sep M w0 (Δ.set i (hol ad n cap xs k b (o+k*1) T [.slice a (xs.getD k []).length c] f1 f2)++[Wk.mine [.slice a (xs.getD k []).length c] (xs.getD k []) fk]) F w:=by
  obtain ⟨b,o,T,ck,f1,f2,fk,e,hx,H⟩:=h.focus (d:=([]:List β)) i hi k hk
  obtain ⟨a,c,rfl⟩:=an hx
  exact ⟨b,o,T,f1,f2,a,c,fk,e,H⟩
end
section
variable {P:Program}{n:Nat}{ops:Array Oper}{Q:Post}{L:Env}{w w0:World}{M:Nat→Prop}{Δ F:List Rsc}{d:Tmp}{ty:TypeId}{p:String}{af:Array Edge}{g:Option (Nat × Bool)}{α:Type}[Rp α]
theorem GZ {rest:List Oper}{t:TypeId}{x y:Operand}{ad:Option Addr}{m cap k b off:Nat}{xs:List α}{T:TypeId}{ck:List Value}{f1 f2:List Nat}{v:Value}(hw:Wn ops n L ⟨none,.store t x y,ty,p,af,g⟩) (hs:∀ w,(sizeOf t).run P w = .ok 1 w)
    (H:Sep M w0 Δ F w) (i j:Nat) (hi:Δ[i]? = some (hol ad m cap xs k b off T ck f1 f2)) (hj:Nat.blt j ck.length=true) (hx:evL L x=some (.pointer (some ⟨b,off+j,none⟩))) (hy:evL L y=some v) (h1:v.oneCell'=true)
    (kk:∀ w',Sep M w0 (Δ.set i (hol ad m cap xs k b off T (ck.set j v) f1 f2)) F w'→RL P n ops Q rest L w'):RL P n ops Q (⟨none,.store t x y,ty,p,af,g⟩::rest) L w:=by
  obtain ⟨cur,hb,hlt,H'⟩:=H.hset i hi j (Nat.le_of_ble_eq_true hj) v
  exact E9 hw rfl (ge hs hx hy h1 hb hlt) (kk _ H')
end
end Go.Wk
namespace Go.Wk
section
variable {P:Program}{n:Nat}{c:Code}{Q:Post}{L:Env}{w w0:World}{M:Nat→Prop}{Δ F:List Rsc}
theorem pj {α:Type}[Rp α] {γ:Type}{v0:Value}{fp0:List Nat}{b T} {cs:List Value}(f:γ→List α) (g0:γ) (H:Sep M w0 Δ F w) (i j q:Nat) (hi:Δ[i]? = some (mine [v0] (f g0) fp0)) (hj:Δ[j]? = some (box b (.cells cs.toArray T))) (hq:cs[q]? = some v0) (hij:Nat.beq j i=false)
  (E2:Env) (h2:sub L E2) (E:γ→Env) (I:γ→Prop) (μ:γ→Nat) (hs:sub L (E g0)) (h0:I g0)
  (round:∀ g v fp w,Sep M w0 ((Δ.set i (mine [v] (f g) fp)).set j (box b (.cells (cs.set q v).toArray T))) F w→I g→W P n c (again (fun x:γ × Value × List Nat=>E x.1++E2) (fun x w'=>Sep M w0 ((Δ.set i (mine [x.2.1] (f x.1) x.2.2)).set j (box b (.cells (cs.set q x.2.1).toArray T))) F w'∧I x.1) (fun x=>μ x.1) (g,v,fp) Q) (E g++E2) w):W P n (.loop c) Q L w:=by
 have hne:i≠j:=fun e=>by subst e; simp at hij
 have e0:(Δ.set i (mine [v0] (f g0) fp0)).set j (box b (.cells (cs.set q v0).toArray T))=Δ:=by
  have ec:cs.set q v0=cs:=by
   apply List.ext_getElem?
   intro l
   rw [List.getElem?_set]
   split
   ·rename_i e; subst e
    obtain ⟨hl,_⟩:=List.getElem?_eq_some_iff.1 hq
    rw [if_pos hl,hq]
   ·rfl
  rw [lu hi,ec,lu hj]
 exact bP (fun x:γ × Value × List Nat=>E x.1++E2) (fun x w'=>Sep M w0 ((Δ.set i (mine [x.2.1] (f x.1) x.2.2)).set j (box b (.cells (cs.set q x.2.1).toArray T))) F w'∧I x.1) (fun x=>μ x.1) (g0,v0,fp0) (iE hs h2) ⟨by rw [e0]; exact H,h0⟩ fun x w h=>round x.1 x.2.1 x.2.2 w h.1 h.2
theorem Sep.nilW {α:Type}[Rp α] (h:Sep M w0 Δ F w):Sep M w0 (Δ++[Wk.mine [.slice none 0 0] ([]:List α) []]) F w:=
  h.add Ext.refl (r:=Wk.mine [.slice none 0 0] ([]:List α) []) (.inr (.inl ⟨rfl,rfl,rfl⟩)) (by simp [Wk.mine]) (by simp [Wk.mine])
end
end Go.Wk
namespace Go.Wk
open Rp (sz own)
theorem Block.focus {M:Nat→Prop}{w0 w:World}{Δ F:List Rsc}(h:Sep M w0 Δ F w) (i:Nat) {ad n cap} {xs:List Block}{fp} (hi:Δ[i]? = some (mine [.slice ad n cap] xs fp)) (k:Nat) (hk:k<xs.length):∃ b o Ty f1 f2 A1 C1 g1,ad=some ⟨b,o,none⟩∧(xs.getD k default).Ok∧Sep M w0 (Δ.set i (hol ad n cap xs k b (o+k*sz Block) Ty [.int .i64 (xs.getD k default).Stamp,.slice A1 (xs.getD k default).Bytes.length C1] f1 f2)++[gone,mine [.slice A1 (xs.getD k default).Bytes.length C1] (xs.getD k default).Bytes g1]) F w:=by
  obtain ⟨b,o,Ty,ck,f1,f2,fk,e,hx,H⟩:=h.focus (d:=default) i hi k hk
  obtain ⟨A1,C1,g1,rfl,ef,ok,o1⟩:=kV hx
  have H2:=H.partLast [mine [.slice A1 (xs.getD k default).Bytes.length C1] (xs.getD k default).Bytes g1] (all_cons o1 σ) (by simp [blocks,mine,ef])
  exact ⟨b,o,Ty,f1,f2,A1,C1,g1,e,ok,H2⟩
theorem Block.fill {M:Nat→Prop}{w0 w:World}{Δ F:List Rsc}(h:Sep M w0 Δ F w) (i j1:Nat) {ad n cap k b off Ty f1 f2} {xs:List Block}{s0:Int}{A1 C1 m1} {y1:List UInt8}{g1} (hi:Δ[i]? = some (hol ad n cap xs k b off Ty [.int .i64 s0,.slice A1 m1 C1] f1 f2)) (h1:Δ[j1]? = some (mine [.slice A1 m1 C1] y1 g1)) (d1:Nat.beq j1 i=false)  (ok:(⟨s0,y1⟩:Block).Ok):∃ fp',Sep M w0 ((Δ.set j1 gone).set i (mine [.slice ad n cap] (xs.set k (⟨s0,y1⟩:Block)) fp')) F w:=by
  have o1:=h.mine j1 h1
  obtain rfl:=fD o1
  have n1:j1≠i:=fun e=>by subst e; simp at d1
  have H:=h.conv j1 (mine [.int .i64 s0,.slice A1 y1.length C1] (⟨s0,y1⟩:Block) (g1)) h1 (Block.own_mk ok o1) (fun b hb=>hb) (show (mine [.slice A1 y1.length C1] y1 g1).fp.Nodup from h.nodup1 h1)
  obtain ⟨fp',H2⟩:=H.fill i j1 (by rw [List.getElem?_set_ne n1]; exact hi) (by rw [List.getElem?_set_self (List.getElem?_eq_some_iff.1 h1).1]) d1
  rw [List.set_set] at H2
  exact ⟨fp',H2⟩
theorem Drive.focus {M:Nat→Prop}{w0 w:World}{Δ F:List Rsc}(h:Sep M w0 Δ F w) (i:Nat) {ad n cap} {xs:List Drive}{fp} (hi:Δ[i]? = some (mine [.slice ad n cap] xs fp)) (k:Nat) (hk:k<xs.length):∃ b o Ty f1 f2 A1 C1 g1,ad=some ⟨b,o,none⟩∧(xs.getD k default).Ok∧Sep M w0 (Δ.set i (hol ad n cap xs k b (o+k*sz Drive) Ty [.bool (xs.getD k default).Wiped,.slice A1 (xs.getD k default).Blocks.length C1] f1 f2)++[gone,mine [.slice A1 (xs.getD k default).Blocks.length C1] (xs.getD k default).Blocks g1]) F w:=by
  obtain ⟨b,o,Ty,ck,f1,f2,fk,e,hx,H⟩:=h.focus (d:=default) i hi k hk
  obtain ⟨A1,C1,g1,rfl,ef,ok,o1⟩:=jB hx
  have H2:=H.partLast [mine [.slice A1 (xs.getD k default).Blocks.length C1] (xs.getD k default).Blocks g1] (all_cons o1 σ) (by simp [blocks,mine,ef])
  exact ⟨b,o,Ty,f1,f2,A1,C1,g1,e,ok,H2⟩
theorem Drive.fill {M:Nat→Prop}{w0 w:World}{Δ F:List Rsc}(h:Sep M w0 Δ F w) (i j1:Nat) {ad n cap k b off Ty f1 f2} {xs:List Drive}{s0:Bool}{A1 C1 m1} {y1:List Block}{g1} (hi:Δ[i]? = some (hol ad n cap xs k b off Ty [.bool s0,.slice A1 m1 C1] f1 f2)) (h1:Δ[j1]? = some (mine [.slice A1 m1 C1] y1 g1)) (d1:Nat.beq j1 i=false)  (ok:(⟨s0,y1⟩:Drive).Ok):∃ fp',Sep M w0 ((Δ.set j1 gone).set i (mine [.slice ad n cap] (xs.set k (⟨s0,y1⟩:Drive)) fp')) F w:=by
  have o1:=h.mine j1 h1
  obtain rfl:=fD o1
  have n1:j1≠i:=fun e=>by subst e; simp at d1
  have H:=h.conv j1 (mine [.bool s0,.slice A1 y1.length C1] (⟨s0,y1⟩:Drive) (g1)) h1 (Drive.own_mk ok o1) (fun b hb=>hb) (show (mine [.slice A1 y1.length C1] y1 g1).fp.Nodup from h.nodup1 h1)
  obtain ⟨fp',H2⟩:=H.fill i j1 (by rw [List.getElem?_set_ne n1]; exact hi) (by rw [List.getElem?_set_self (List.getElem?_eq_some_iff.1 h1).1]) d1
  rw [List.set_set] at H2
  exact ⟨fp',H2⟩
theorem Tape.focus {M:Nat→Prop}{w0 w:World}{Δ F:List Rsc}(h:Sep M w0 Δ F w) (i:Nat) {ad n cap} {xs:List Tape}{fp} (hi:Δ[i]? = some (mine [.slice ad n cap] xs fp)) (k:Nat) (hk:k<xs.length):∃ b o Ty f1 f2 A1 C1 g1,ad=some ⟨b,o,none⟩∧(xs.getD k default).Ok∧Sep M w0 (Δ.set i (hol ad n cap xs k b (o+k*sz Tape) Ty [.bool (xs.getD k default).Wiped,.slice A1 (xs.getD k default).Recs.length C1] f1 f2)++[gone,mine [.slice A1 (xs.getD k default).Recs.length C1] (xs.getD k default).Recs g1]) F w:=by
  obtain ⟨b,o,Ty,ck,f1,f2,fk,e,hx,H⟩:=h.focus (d:=default) i hi k hk
  obtain ⟨A1,C1,g1,rfl,ef,ok,o1⟩:=jZ hx
  have H2:=H.partLast [mine [.slice A1 (xs.getD k default).Recs.length C1] (xs.getD k default).Recs g1] (all_cons o1 σ) (by simp [blocks,mine,ef])
  exact ⟨b,o,Ty,f1,f2,A1,C1,g1,e,ok,H2⟩
theorem Tape.fill {M:Nat→Prop}{w0 w:World}{Δ F:List Rsc}(h:Sep M w0 Δ F w) (i j1:Nat) {ad n cap k b off Ty f1 f2} {xs:List Tape}{s0:Bool}{A1 C1 m1} {y1:List Rec}{g1} (hi:Δ[i]? = some (hol ad n cap xs k b off Ty [.bool s0,.slice A1 m1 C1] f1 f2)) (h1:Δ[j1]? = some (mine [.slice A1 m1 C1] y1 g1)) (d1:Nat.beq j1 i=false)  (ok:(⟨s0,y1⟩:Tape).Ok):∃ fp',Sep M w0 ((Δ.set j1 gone).set i (mine [.slice ad n cap] (xs.set k (⟨s0,y1⟩:Tape)) fp')) F w:=by
  have o1:=h.mine j1 h1
  obtain rfl:=fD o1
  have n1:j1≠i:=fun e=>by subst e; simp at d1
  have H:=h.conv j1 (mine [.bool s0,.slice A1 y1.length C1] (⟨s0,y1⟩:Tape) (g1)) h1 (Tape.own_mk ok o1) (fun b hb=>hb) (show (mine [.slice A1 y1.length C1] y1 g1).fp.Nodup from h.nodup1 h1)
  obtain ⟨fp',H2⟩:=H.fill i j1 (by rw [List.getElem?_set_ne n1]; exact hi) (by rw [List.getElem?_set_self (List.getElem?_eq_some_iff.1 h1).1]) d1
  rw [List.set_set] at H2
  exact ⟨fp',H2⟩
end Go.Wk
namespace Go.Wk
open Rp (sz own)
def wipedTo (g:List Drive):Nat→List Int
  | 0=>[]
  | k+1=>if (g.getD k default).Wiped=true then wipedTo g k++[(k:Int)] else wipedTo g k
def aM (z:Wld) (g:Int):List Int:=wipedTo (z.Groups.getD g.toNat []) (z.Groups.getD g.toNat []).length
def cQ (z:Wld) (g:Int):Bool:=decide (z.Shape.Spare<((aM z g).length:Int))
section
variable {G:List Drive}{z:Wld}{k:Nat}
theorem kY (h:(G.getD k default).Wiped=true):wipedTo G (k+1)=wipedTo G k++[(k:Int)]:=by rw [wipedTo,if_pos h]
theorem lm (h:(G.getD k default).Wiped=false):wipedTo G (k+1)=wipedTo G k:=by rw [wipedTo,if_neg (by rw [h]; simp)]
theorem p8:∀ {k:Nat},(wipedTo G k).length≤k
  | 0=>Nat.le_refl _
  | k+1=>by
    have:=p8 (k:=k)
    rw [wipedTo]; split
    · rw [List.length_append]; simp; omega
    · omega
def qf (z:Wld) (g row:Int):Int:=if cz z≠0 then cz z else if qh z.Shape g 0 row=true then 0 else 3
def hF (z:Wld) (g:Int):IntsResult:=if qf z g 0≠0 then ⟨qf z g 0,[]⟩ else ⟨0,aM z g⟩
theorem uN {g row:Int}(h:cz z≠0):qf z g row=cz z:=by rw [qf,if_pos h]
theorem CM {g row:Int}(h:cz z=0) (h2:qh z.Shape g 0 row=false):qf z g row=3:=by rw [qf,if_neg ω,if_neg (by simp [h2])]
theorem Dt {g row:Int}(h:cz z=0) (h2:qh z.Shape g 0 row=true):qf z g row=0:=by rw [qf,if_neg ω,if_pos h2]
theorem gR {g:Int}(hs:z.Shape.ok=true):qh z.Shape g 0 0=ins g 0 (z.Shape.Groups+z.Shape.Column-1):=by
  have:ins 0 0 (z.Shape.Rows-1)=true:=aJ.2 (by have:=aG hs; omega)
  rw [yR hs,this,Bool.and_true]
theorem yk {g:Int}:(aM z g).length≤(z.Groups.getD g.toNat []).length:=p8
end
end Go.Wk
namespace Go.Wk
section
variable {z:Wld}{g:Int}
theorem qL (h:qf z g 0≠0):hF z g=⟨qf z g 0,[]⟩:=by rw [hF,if_pos h]
theorem yE (h:qf z g 0=0):hF z g=⟨0,aM z g⟩:=by rw [hF,if_neg ω]
theorem wQ {w0 w:World}{c:Int}(h:I64ok c):Res w0 w [.int .i64 c,.slice none 0 0] (⟨c,[]⟩:IntsResult):=
  ⟨_,IntsResult.own_mk (x:=⟨c,[]⟩) h (.inr (.inl ⟨rfl,rfl,rfl⟩)),List.nodup_nil,σ⟩
end
end Go.Wk

namespace Go.Wk
open Go.Proofs Rp Go.Proofs.Tryz
set_option maxRecDepth 10000
theorem fi {w:World}{zb zC9 zC10 zC11:Nat}{z:Wld}{zA9 zA10 zA11:Option Addr}{g:Int}(zB:w.heap[zb]? = some (.cells [.int .i64 z.Shape.Groups,.int .i64 z.Shape.Column,.int .i64 z.Shape.Data,.int .i64 z.Shape.Spare,.int .i64 z.Shape.Rows,.int .i64 z.Shape.Cap,.int .i64 z.Shape.Batch,.int .i64 z.Shape.Queue,.int .i64 z.Shape.Stage,.slice zA9 z.Groups.length zC9,.slice zA10 z.On.length zC10,.slice zA11 z.Tapes.length zC11,.int .i64 z.Writes,.int .i64 z.Stop,.bool z.Down].toArray 31)) (zK:z.Ok) (zS9:Sees w [.slice zA9 z.Groups.length zC9] z.Groups) (zS10:Sees w [.slice zA10 z.On.length zC10] z.On) (zS11:Sees w [.slice zA11 z.Tapes.length zC11] z.Tapes) (hs:z.Shape.ok=true) (hG:aN z=true) (hg:ins g 0 (z.Shape.Groups+z.Shape.Column-1)=true):Ret Tryz.prog 78 #[.pointer (some ⟨zb,0,none⟩),.int .i64 g] w fun v w'=>Ext No w w'∧(Res w w' [v] (aM z g)):=by
 have zK2:=zK;unfold Wld.Ok Shape.Ok at zK2
 try unfold I64ok at zK2
 try unfold maxLen at zK2
 have zL9:=sL zS9;obtain ⟨zF9,zO9⟩:=zS9;have zL10:=sL zS10;obtain ⟨zF10,zO10⟩:=zS10;have zL11:=sL zS11;obtain ⟨zF11,zO11⟩:=zS11;have sbd:=aG hs;have hgg:=cw hG;have hgl:=hgg.1;have hgi:=aJ.1 hg;obtain ⟨hdl,hdd⟩:=hgg.2 g.toNat ω;refine aH func78 Z ntmps78 Z (fun Q hQ hN=>?_);have H0:=Sep.start (bX zB (ab zO9 (ab zO10 (ab zO11 aA))));refine ac (sA Z Z (aa (ac (eZ (α:=Int) ah Z bH bG H0 (fun b1 w1 e1 g1 H1=>sA Z Z (aa (ae (ae ?_))))))));obtain ⟨eb1,eo1,ea1,ek1,ef1,ee1,ec1,eO1,eH1⟩:=fo (H1.seen 1 Z) g.toNat ω;have eP1:=H1.look1 1 Z eO1 eH1;refine am (sR 2 Z (sF be Z kh (sLd fW (eP1.fbox 0 Z) Z (sM Z Z (sV Z (aB fW ud Z Z ee1 g.toNat ω ω) (sV Z (aj fl Z Z ec1) (sV Z (aS fl Z) (sM Z Z (aa (ax (iT (α:=Int) (γ:=Nat) (fun k=>wipedTo (z.Groups.getD g.toNat []) k) 0 eP1 0 Z 5 Z [(4,_),(15,_),(16,_)] ⟨Z,Z,Z,trivial⟩ (fun k=>[(17,.int .i64 k)]) (fun k=>k≤(z.Groups.getD g.toNat []).length∧True) (fun k=>(z.Groups.getD g.toNat []).length-k) ⟨Z,trivial⟩ ⟨ω,trivial⟩ (fun k vA1 fA1 w2 H2 ⟨hk,_⟩=>?_))))))))))));dsimp only[lCA,lNA,lSZ,lSS] at H2 ⊢;refine ac (sV Z (aX Z Z) (aa (ae (aC Z (fun c1=>?_) (fun c1=>?_)))))
 ·refine au (ae (ax (ae ?_)));obtain ⟨eb2,eo2,es1,ef2,ee2,ec2,eO2,eH2,em1⟩:=dr (H2.seen 4 Z) k ω;obtain ⟨ea2,ek2,eg1,rfl,eq1,eK1,eo3⟩:=jB eO2;have eP2:=H2.look1 4 Z eo3 (fun b hb=>eH2 b (by rw [eq1]; simp [hb]));have eL1:=oL eo3;refine am (sM Z Z (sV Z (aB fl gD Z Z ee2 k ω ω) (sV Z (ak iz Z gD Z Z ec2) (bB ah Z zeroValue72 eP2 (fun b2 w3 e2 g2 H3=>sA Z Z (aF ah gD Z Z Z Z H3 1 Z Z (fun w4 e3 H4=>?_)))))));dsimp only[lNA,lCA,lSZ,lSS,aI] at H4;refine aa (ac (sF iz Z ts4 (sLd tu4 (H4.box 1 Z) Z (aa (cx Z (fun c2=>?_) (fun c2=>?_))))))
  ·have wl:=p8 (G:=(z.Groups.getD g.toNat [])) (k:=k);refine am (sR 2 Z (eB ah Z bH bG Z Z Z Z H4 (fun b3 w5 e4 g3 H5=>jq ah Z bH bG Z Z Z H5 0 2 Z Z (tP (by first | assumption | (unfold I64ok; omega))) (by unfold maxLen; omega) ω (fun v1 w6 fp1 H6=>sA Z Z (aa (am (sV Z (aE Z Z iO) (sM Z Z (aa ?_)))))))));rw [← kY c2] at H6;exact ⟨(k+1,_,_),⟨Z,Z,Z,Z,Z,trivial⟩,⟨((H6.ftake 5).dtake 1),ω,trivial⟩,θ⟩
  ·refine au (am (sV Z (aE Z Z iO) (sM Z Z (aa ?_))));rw [← lm c2] at H4;exact ⟨(k+1,_,_),⟨Z,Z,Z,Z,Z,trivial⟩,⟨((H4.ftake 5).dtake 1),ω,trivial⟩,θ⟩
 ·refine aT (ac (sR 2 Z (rN hQ results78 Z ?_)));obtain rfl:k=(z.Groups.getD g.toNat []).length:=by omega
  exact ⟨H2.ext,H2.out 0 Z⟩
theorem cV {w:World}{zb zC9 zC10 zC11:Nat}{z:Wld}{zA9 zA10 zA11:Option Addr}{g:Int}(zB:w.heap[zb]? = some (.cells [.int .i64 z.Shape.Groups,.int .i64 z.Shape.Column,.int .i64 z.Shape.Data,.int .i64 z.Shape.Spare,.int .i64 z.Shape.Rows,.int .i64 z.Shape.Cap,.int .i64 z.Shape.Batch,.int .i64 z.Shape.Queue,.int .i64 z.Shape.Stage,.slice zA9 z.Groups.length zC9,.slice zA10 z.On.length zC10,.slice zA11 z.Tapes.length zC11,.int .i64 z.Writes,.int .i64 z.Stop,.bool z.Down].toArray 31)) (zK:z.Ok) (zS9:Sees w [.slice zA9 z.Groups.length zC9] z.Groups) (zS10:Sees w [.slice zA10 z.On.length zC10] z.On) (zS11:Sees w [.slice zA11 z.Tapes.length zC11] z.Tapes) (hs:z.Shape.ok=true) (hG:aN z=true) (hg:ins g 0 (z.Shape.Groups+z.Shape.Column-1)=true):Ret Tryz.prog 80 #[.pointer (some ⟨zb,0,none⟩),.int .i64 g] w fun v w'=>Ext No w w'∧(v = .bool (cQ z g)):=by
 have zK2:=zK;unfold Wld.Ok Shape.Ok at zK2
 try unfold I64ok at zK2
 try unfold maxLen at zK2
 have zL9:=sL zS9;obtain ⟨zF9,zO9⟩:=zS9;have zL10:=sL zS10;obtain ⟨zF10,zO10⟩:=zS10;have zL11:=sL zS11;obtain ⟨zF11,zO11⟩:=zS11;have sbd:=aG hs;refine aH func80 Z ntmps80 Z (fun Q hQ hN=>?_);have H0:=Sep.start (bX zB (ab zO9 (ab zO10 (ab zO11 aA))));refine ac (sA Z Z (aa (ae (cb (S:=Ext No _) (oQ [1,3,9,11,13,15,17,4,6,19,20]) κ κ κ Z (fun _=>Ext.refl.drawn _) (fun q1=>?_)))));have H1:=H0.drawn q1;refine dR 4 Z (dV Z Z (fun zw hx=>ag be Z bk Z Z) (dV Z Z (fun zw hx=>ag bi Z ts2 Z Z) (dV Z Z (fun zw hx=>aj tu2 Z Z (al (hx.heap (H1.fbox 0 Z)) Z)) (dC func78 qJ Z (fi (H1.fbox 0 Z) η (H1.sees 1 Z) (H1.sees 2 Z) (H1.sees 3 Z) η η η) (fun v1 w1 r1=>?_)))));obtain ⟨e1,r1⟩:=r1;obtain ⟨fp1,H2⟩:=H1.res e1 r1;obtain ⟨a1,k1,q2⟩:=an (H2.mine 0 Z);cases q2;refine dC func60 iK Z (fc (H2.msees 0 Z)) (fun v2 w2 r2=>?_);obtain ⟨e2,rfl⟩:=r2;have H3:=H2.to e2;refine dV Z Z (fun zw hx=>mu Z Z) (aW Z ah Z Z (bg Z) (bb (rT hQ results80 Z ?_)));exact ⟨H3.ext,Z⟩
theorem pf {w:World}{z:Wld}{zA9 zA10 zA11:Option Addr}{zC9 zC10 zC11:Nat}{g:Int}(zK:z.Ok) (zS9:Sees w [.slice zA9 z.Groups.length zC9] z.Groups) (zS10:Sees w [.slice zA10 z.On.length zC10] z.On) (zS11:Sees w [.slice zA11 z.Tapes.length zC11] z.Tapes):Ret Tryz.prog 25 #[z.val zA9 zC9 zA10 zC10 zA11 zC11,.int .i64 g] w fun v w'=>Ext No w w'∧(∃ A1 C1,v=(hF z g).val A1 C1∧Res w w' [.int .i64 (hF z g).Code,.slice A1 (hF z g).Lst.length C1] (hF z g)):=by
 have zK2:=zK;unfold Wld.Ok Shape.Ok at zK2
 try unfold I64ok at zK2
 try unfold maxLen at zK2
 have zL9:=sL zS9;obtain ⟨zF9,zO9⟩:=zS9;have zL10:=sL zS10;obtain ⟨zF10,zO10⟩:=zS10;have zL11:=sL zS11;obtain ⟨zF11,zO11⟩:=zS11;refine aH func25 Z ntmps25 Z (fun Q hQ hN=>?_);have H0:=Sep.start (ab zO9 (ab zO10 (ab zO11 aA)));refine ac (bu ah Z Z H0 (fun b1 w1 e1 g1 H1=>bB ah Z zeroValue54 H1 (fun b2 w2 e2 g2 H2=>aa (ac (sV Z (ak be Z cy Z Z (At.whole (H2.box 0 Z))) (sE func69 nf Z (et η (H2.sees 0 Z) (H2.sees 1 Z) (H2.sees 2 Z)) H2 (fun w3 e3 H3=>sA Z Z (aa (ae (ax (ac (sR 3 Z (aa (aC Z (fun c1=>?_) (fun c1=>?_)))))))))))))))
 ·refine ac (sM Z Z (sV Z (aP qr Z Z) (aF ah Cv Z Z Z Z H3 1 Z Z (fun w4 e4 H4=>?_))));dsimp only[lNA,lCA,lSZ,lSS,aI] at H4;refine aa (bc (hQ _ _ (cp results25 Z (ay Fv Z Cv Z (At.whole (H4.box 1 Z))) ?_)));rw [qL (by rw [uN ω]; omega),uN ω];exact ⟨H4.ext,none,0,Z,wQ (by unfold I64ok; have:=ns (z:=z); dsimp only; omega)⟩
 ·refine ae ?_;obtain ⟨hs,hG,hO⟩:=bx (w:=z) ω;refine am (sF be Z bk (sV Z (ak bi Z bk Z Z (At.sub (H3.box 0 Z) 9)) (sM Z Z (sE func58 fM Z (bD η) H3 (fun w5 e5 H5=>sV Z (bh Z) (sA Z Z (aa (cx Z (fun c2=>?_) (fun c2=>?_)))))))))
  ·refine ae ?_;have aq:qf z g 0=3:=CM ω (by rw [gR hs]; exact fI c2);refine am (sV Z (aP qr Z Z) (aF ah Cv Z Z Z Z H5 1 Z Z (fun w6 e6 H6=>?_)));dsimp only[lNA,lCA,lSZ,lSS,aI] at H6;refine aa (bc (hQ _ _ (cp results25 Z (ay Fv Z Cv Z (At.whole (H6.box 1 Z))) ?_)));rw [qL (by rw [aq]; omega),aq];exact ⟨H6.ext,none,0,Z,wQ (by unfold I64ok; have:=ns (z:=z); dsimp only; omega)⟩
  ·refine au (ae ?_);have hg:=aU c2;have aq:qf z g 0=0:=Dt ω (by rw [gR hs]; exact hg);refine am (sM Z Z (sC func78 qJ Z (fi (H5.box 0 Z) η (H5.sees 0 Z) (H5.sees 1 Z) (H5.sees 2 Z) η η η) (fun v3 w7 r3=>?_)));obtain ⟨e7,r3⟩:=r3;obtain ⟨fp1,H7⟩:=H5.res e7 r3;obtain ⟨a1,k1,q1⟩:=an (H7.mine 2 Z);cases q1;refine sV Z (aP qr Z Z) (aF ah Cv Z Z Z Z H7 1 Z Z (fun w8 e8 H8=>?_));dsimp only[lNA,lCA,lSZ,lSS,aI] at H8;refine aa (bc (hQ _ _ (cp results25 Z (ay Fv Z Cv Z (At.whole (H8.box 1 Z))) ?_)));rw [yE ω];exact ⟨H8.ext,_,_,Z,IntsResult.out (x:=⟨0,aM z g⟩) (H8.sub (.cons _ (.cons _ (.cons_cons _ List.Sublist.slnil)))) (by show I64ok 0; unfold I64ok; omega)⟩
end Go.Wk
namespace Go.Wk
theorem lK {α:Type}{a b:List α}{d:α}{i:Nat}(h:i<a.length):(a++b).getD i d=a.getD i d:=by simp [List.getD,List.getElem?_append_left h]
theorem oM {α:Type}{a b:List α}{d:α}{i:Nat}(h:a.length≤i):(a++b).getD i d=b.getD (i-a.length) d:=by simp [List.getD,List.getElem?_append_right h]
theorem bI {α:Type}{l:List α}{d:α}{i:Nat}(h:i<l.length):l.getD i d=l[i]:=by simp [List.getD,h]
end Go.Wk
namespace Go.Wk
open Rp (sz own)
def OwnW (w:World) (b:Nat) (T:TypeId) (z:Wld) (fp:List Nat):Prop:=
  ∃ A9 C9 A10 C10 A11 C11 f9 f10 f11,w.heap[b]? = some (.cells [.int .i64 z.Shape.Groups,.int .i64 z.Shape.Column,.int .i64 z.Shape.Data,.int .i64 z.Shape.Spare,.int .i64 z.Shape.Rows,.int .i64 z.Shape.Cap,.int .i64 z.Shape.Batch,.int .i64 z.Shape.Queue,.int .i64 z.Shape.Stage,.slice A9 z.Groups.length C9,.slice A10 z.On.length C10,.slice A11 z.Tapes.length C11,.int .i64 z.Writes,.int .i64 z.Stop,.bool z.Down].toArray T)∧own true w [.slice A9 z.Groups.length C9] z.Groups f9∧own true w [.slice A10 z.On.length C10] z.On f10∧own true w [.slice A11 z.Tapes.length C11] z.Tapes f11∧z.Ok∧fp=b::(f9++(f10++f11))
theorem OwnW.st {w w':World}{b T z fp} (h:OwnW w b T z fp) (k:∀ x∈fp,w'.heap[x]? = w.heap[x]?):OwnW w' b T z fp:=by
  obtain ⟨A9,C9,A10,C10,A11,C11,f9,f10,f11,h1,h2,h3,h4,h5,h6⟩:=h
  subst h6
  exact ⟨A9,C9,A10,C10,A11,C11,f9,f10,f11,(k b σ).trans h1,Rp.st h2 fun x hx=>k x (by simp [hx]),Rp.st h3 fun x hx=>k x (by simp [hx]),Rp.st h4 fun x hx=>k x (by simp [hx]),h5,rfl⟩
theorem OwnW.lt {w:World}{b T z fp} (h:OwnW w b T z fp):∀ x∈fp,x<w.heap.size:=by
  obtain ⟨A9,C9,A10,C10,A11,C11,f9,f10,f11,h1,h2,h3,h4,h5,h6⟩:=h
  subst h6
  intro x hx
  simp only [List.mem_cons,List.mem_append] at hx
  rcases hx with rfl | hx | hx | hx
  · exact (Array.getElem?_eq_some_iff.1 h1).1
  · exact Rp.lt h2 x hx
  · exact Rp.lt h3 x hx
  · exact Rp.lt h4 x hx
theorem OwnW.ok {w:World}{b T z fp} (h:OwnW w b T z fp):z.Ok:=by
  obtain ⟨_,_,_,_,_,_,_,_,_,_,_,_,_,h5,_⟩:=h
  exact h5
def wldR (b:Nat) (T:TypeId) (z:Wld) (fp:List Nat):Rsc:=⟨fp,fun w=>OwnW w b T z fp,fun h k=>h.st k,fun h=>h.lt⟩
def MutW (w w':World) (fp:List Nat) (b:Nat) (T:TypeId) (z:Wld):Prop:=
  Ext (· ∈ fp) w w'∧∃ fp',OwnW w' b T z fp'∧fp'.Nodup∧∀ x∈fp',x∈fp∨w.heap.size≤x
section
variable {M:Nat→Prop}{w0 w w':World}{Δ F:List Rsc}{b:Nat}{T:TypeId}{z z':Wld}{fp:List Nat}
theorem Sep.beginW (h:OwnW w b T z fp) (hn:fp.Nodup):Sep (· ∈ fp) w [wldR b T z fp] [] w:=
  ⟨Ext.refl,by simpa [wldR] using h,by simpa [blocks,wldR] using hn,fun b hb => .inl (by simpa [blocks,wldR] using hb),σ,σ⟩
theorem Sep.seeF {α:Type}[Rp α] (h:Sep M w0 [wldR b T z fp] F w) {cs:List Value}{x:α}{f} (hx:own false w cs x f) (hd:∀ b∈f,b ∉ fp):Sep M w0 [wldR b T z fp] (F++[Wk.seen false cs x f]) w:=
  h.look (r:=Wk.seen false cs x f) hx fun b hb hm=>hd b hb (by simpa [blocks,wldR] using hm)
theorem Sep.wldAt (h:Sep M w0 Δ F w) (i:Nat) (hi:Δ[i]? = some (wldR b T z fp)):OwnW w b T z fp:=h.r i hi
theorem Sep.doneW {Δ':List Rsc}{fp0:List Nat}(h:Sep (· ∈ fp0) w0 (wldR b T z fp::Δ') F w):MutW w0 w fp0 b T z:=
  ⟨h.ext,fp,h.r 0 rfl,h.nodup1 (i:=0) rfl,fun x hx=>h.new x (by simp [blocks,wldR,hx])⟩
theorem Sep.mutW (h:Sep M w0 Δ F w) (i:Nat) (hi:Δ[i]? = some (wldR b T z fp)) (m:MutW w w' fp b T z'):∃ fp',Sep M w0 (Δ.set i (wldR b T z' fp')) F w':=by
  obtain ⟨e,fp',h1,h2,h3⟩:=m
  exact ⟨fp',h.set hi (q:=wldR b T z' fp') e h1 h2 h3⟩
theorem Sep.openW (h:Sep M w0 Δ F w) (i:Nat) (hi:Δ[i]? = some (wldR b T z fp)) :
    ∃ A9 C9 A10 C10 A11 C11 f9 f10 f11,z.Ok∧Sep M w0 (Δ.set i (Wk.box b (.cells [.int .i64 z.Shape.Groups,.int .i64 z.Shape.Column,.int .i64 z.Shape.Data,.int .i64 z.Shape.Spare,.int .i64 z.Shape.Rows,.int .i64 z.Shape.Cap,.int .i64 z.Shape.Batch,.int .i64 z.Shape.Queue,.int .i64 z.Shape.Stage,.slice A9 z.Groups.length C9,.slice A10 z.On.length C10,.slice A11 z.Tapes.length C11,.int .i64 z.Writes,.int .i64 z.Stop,.bool z.Down].toArray T))++[gone,Wk.mine [.slice A9 z.Groups.length C9] z.Groups f9,Wk.mine [.slice A10 z.On.length C10] z.On f10,Wk.mine [.slice A11 z.Tapes.length C11] z.Tapes f11]) F w:=by
  obtain ⟨A9,C9,A10,C10,A11,C11,f9,f10,f11,h1,h2,h3,h4,h5,h6⟩:OwnW w b T z fp:=h.r i hi
  have hil:i<Δ.length:=(List.getElem?_eq_some_iff.1 hi).1
  have p1:(Wk.box b (.cells [.int .i64 z.Shape.Groups,.int .i64 z.Shape.Column,.int .i64 z.Shape.Data,.int .i64 z.Shape.Spare,.int .i64 z.Shape.Rows,.int .i64 z.Shape.Cap,.int .i64 z.Shape.Batch,.int .i64 z.Shape.Queue,.int .i64 z.Shape.Stage,.slice A9 z.Groups.length C9,.slice A10 z.On.length C10,.slice A11 z.Tapes.length C11,.int .i64 z.Writes,.int .i64 z.Stop,.bool z.Down].toArray T)).φ w:=h1
  have H2:=h.part i hi [Wk.box b (.cells [.int .i64 z.Shape.Groups,.int .i64 z.Shape.Column,.int .i64 z.Shape.Data,.int .i64 z.Shape.Spare,.int .i64 z.Shape.Rows,.int .i64 z.Shape.Cap,.int .i64 z.Shape.Batch,.int .i64 z.Shape.Queue,.int .i64 z.Shape.Stage,.slice A9 z.Groups.length C9,.slice A10 z.On.length C10,.slice A11 z.Tapes.length C11,.int .i64 z.Writes,.int .i64 z.Stop,.bool z.Down].toArray T),Wk.mine [.slice A9 z.Groups.length C9] z.Groups f9,Wk.mine [.slice A10 z.On.length C10] z.On f10,Wk.mine [.slice A11 z.Tapes.length C11] z.Tapes f11] (all_cons p1 (all_cons h2 (all_cons h3 (all_cons h4 σ)))) (by simp [blocks,Wk.mine,Wk.box,wldR,h6])
  exact ⟨A9,C9,A10,C10,A11,C11,f9,f10,f11,h5,H2.perm (mE hil)⟩
theorem Sep.closeW (h:Sep M w0 Δ F w) (i j9 j10 j11:Nat) (z:Wld) {A9 C9 A10 C10 A11 C11 f9 f10 f11 n9 n10 n11} (hi:Δ[i]? = some (Wk.box b (.cells [.int .i64 z.Shape.Groups,.int .i64 z.Shape.Column,.int .i64 z.Shape.Data,.int .i64 z.Shape.Spare,.int .i64 z.Shape.Rows,.int .i64 z.Shape.Cap,.int .i64 z.Shape.Batch,.int .i64 z.Shape.Queue,.int .i64 z.Shape.Stage,.slice A9 n9 C9,.slice A10 n10 C10,.slice A11 n11 C11,.int .i64 z.Writes,.int .i64 z.Stop,.bool z.Down].toArray T))) (h9:Δ[j9]? = some (Wk.mine [.slice A9 n9 C9] z.Groups f9)) (h10:Δ[j10]? = some (Wk.mine [.slice A10 n10 C10] z.On f10)) (h11:Δ[j11]? = some (Wk.mine [.slice A11 n11 C11] z.Tapes f11))
    (d1:Nat.beq j9 i=false) (d2:Nat.beq j10 i=false) (d3:Nat.beq j11 i=false) (d4:Nat.beq j10 j9=false) (d5:Nat.beq j11 j9=false) (d6:Nat.beq j11 j10=false) (ok:z.Ok) :
    ∃ fp,Sep M w0 ((((Δ.set j11 gone).set j10 gone).set j9 gone).set i (wldR b T z fp)) F w:=by
  obtain rfl:=fD (h.mine j9 h9)
  obtain rfl:=fD (h.mine j10 h10)
  obtain rfl:=fD (h.mine j11 h11)
  have n1:j9≠i:=fun e=>by subst e; simp at d1
  have n2:j10≠i:=fun e=>by subst e; simp at d2
  have n3:j11≠i:=fun e=>by subst e; simp at d3
  have n4:j10≠j9:=fun e=>by subst e; simp at d4
  have n5:j11≠j9:=fun e=>by subst e; simp at d5
  have n6:j11≠j10:=fun e=>by subst e; simp at d6
  have g:∀ {L:List Rsc}{k:Nat}{a r:Rsc},L[k]? = some r→(L.set k a)[k]? = some a:=fun h=>List.getElem?_set_self (List.getElem?_eq_some_iff.1 h).1
  have H1:=h.join2 j10 j11 h10 h11 d6
  have a10:((Δ.set j11 gone).set j10 (cat (Wk.mine [.slice A10 z.On.length C10] z.On f10) (Wk.mine [.slice A11 z.Tapes.length C11] z.Tapes f11)))[j10]? = some (cat (Wk.mine [.slice A10 z.On.length C10] z.On f10) (Wk.mine [.slice A11 z.Tapes.length C11] z.Tapes f11)):=g (r:=Wk.mine [.slice A10 z.On.length C10] z.On f10) (by rw [List.getElem?_set_ne n6]; exact h10)
  have a9:((Δ.set j11 gone).set j10 (cat (Wk.mine [.slice A10 z.On.length C10] z.On f10) (Wk.mine [.slice A11 z.Tapes.length C11] z.Tapes f11)))[j9]? = some (Wk.mine [.slice A9 z.Groups.length C9] z.Groups f9):=by rw [List.getElem?_set_ne n4,List.getElem?_set_ne n5]; exact h9
  have H2:=H1.join2 j9 j10 a9 a10 d4
  rw [List.set_set] at H2
  have ai:((((Δ.set j11 gone).set j10 gone).set j9 (cat (Wk.mine [.slice A9 z.Groups.length C9] z.Groups f9) (cat (Wk.mine [.slice A10 z.On.length C10] z.On f10) (Wk.mine [.slice A11 z.Tapes.length C11] z.Tapes f11)))))[i]? = some (Wk.box b (.cells [.int .i64 z.Shape.Groups,.int .i64 z.Shape.Column,.int .i64 z.Shape.Data,.int .i64 z.Shape.Spare,.int .i64 z.Shape.Rows,.int .i64 z.Shape.Cap,.int .i64 z.Shape.Batch,.int .i64 z.Shape.Queue,.int .i64 z.Shape.Stage,.slice A9 z.Groups.length C9,.slice A10 z.On.length C10,.slice A11 z.Tapes.length C11,.int .i64 z.Writes,.int .i64 z.Stop,.bool z.Down].toArray T)):=by rw [List.getElem?_set_ne n1,List.getElem?_set_ne n2,List.getElem?_set_ne n3]; exact hi
  have b9:((((Δ.set j11 gone).set j10 gone).set j9 (cat (Wk.mine [.slice A9 z.Groups.length C9] z.Groups f9) (cat (Wk.mine [.slice A10 z.On.length C10] z.On f10) (Wk.mine [.slice A11 z.Tapes.length C11] z.Tapes f11)))))[j9]? = some (cat (Wk.mine [.slice A9 z.Groups.length C9] z.Groups f9) (cat (Wk.mine [.slice A10 z.On.length C10] z.On f10) (Wk.mine [.slice A11 z.Tapes.length C11] z.Tapes f11))):=g (r:=Wk.mine [.slice A9 z.Groups.length C9] z.Groups f9) (by rw [List.getElem?_set_ne n4,List.getElem?_set_ne n5]; exact h9)
  have H3:=H2.join2 i j9 ai b9 d1
  rw [List.set_set] at H3
  obtain ⟨q1,q2,q3,q4⟩:(cat (Wk.box b (.cells [.int .i64 z.Shape.Groups,.int .i64 z.Shape.Column,.int .i64 z.Shape.Data,.int .i64 z.Shape.Spare,.int .i64 z.Shape.Rows,.int .i64 z.Shape.Cap,.int .i64 z.Shape.Batch,.int .i64 z.Shape.Queue,.int .i64 z.Shape.Stage,.slice A9 z.Groups.length C9,.slice A10 z.On.length C10,.slice A11 z.Tapes.length C11,.int .i64 z.Writes,.int .i64 z.Stop,.bool z.Down].toArray T)) (cat (Wk.mine [.slice A9 z.Groups.length C9] z.Groups f9) (cat (Wk.mine [.slice A10 z.On.length C10] z.On f10) (Wk.mine [.slice A11 z.Tapes.length C11] z.Tapes f11)))).φ w:=H3.r i (g (r:=Wk.box b (.cells [.int .i64 z.Shape.Groups,.int .i64 z.Shape.Column,.int .i64 z.Shape.Data,.int .i64 z.Shape.Spare,.int .i64 z.Shape.Rows,.int .i64 z.Shape.Cap,.int .i64 z.Shape.Batch,.int .i64 z.Shape.Queue,.int .i64 z.Shape.Stage,.slice A9 z.Groups.length C9,.slice A10 z.On.length C10,.slice A11 z.Tapes.length C11,.int .i64 z.Writes,.int .i64 z.Stop,.bool z.Down].toArray T)) (by rw [List.getElem?_set_ne n1,List.getElem?_set_ne n2,List.getElem?_set_ne n3]; exact hi))
  have hg:=g (a:=cat (Wk.box b (.cells [.int .i64 z.Shape.Groups,.int .i64 z.Shape.Column,.int .i64 z.Shape.Data,.int .i64 z.Shape.Spare,.int .i64 z.Shape.Rows,.int .i64 z.Shape.Cap,.int .i64 z.Shape.Batch,.int .i64 z.Shape.Queue,.int .i64 z.Shape.Stage,.slice A9 z.Groups.length C9,.slice A10 z.On.length C10,.slice A11 z.Tapes.length C11,.int .i64 z.Writes,.int .i64 z.Stop,.bool z.Down].toArray T)) (cat (Wk.mine [.slice A9 z.Groups.length C9] z.Groups f9) (cat (Wk.mine [.slice A10 z.On.length C10] z.On f10) (Wk.mine [.slice A11 z.Tapes.length C11] z.Tapes f11)))) (r:=Wk.box b (.cells [.int .i64 z.Shape.Groups,.int .i64 z.Shape.Column,.int .i64 z.Shape.Data,.int .i64 z.Shape.Spare,.int .i64 z.Shape.Rows,.int .i64 z.Shape.Cap,.int .i64 z.Shape.Batch,.int .i64 z.Shape.Queue,.int .i64 z.Shape.Stage,.slice A9 z.Groups.length C9,.slice A10 z.On.length C10,.slice A11 z.Tapes.length C11,.int .i64 z.Writes,.int .i64 z.Stop,.bool z.Down].toArray T)) (L:=((Δ.set j11 gone).set j10 gone).set j9 gone) (k:=i) (by rw [List.getElem?_set_ne n1,List.getElem?_set_ne n2,List.getElem?_set_ne n3]; exact hi)
  have hn:=H3.nodup1 hg
  have H4:=H3.conv i (wldR b T z (b::(f9++(f10++f11)))) hg ⟨A9,C9,A10,C10,A11,C11,f9,f10,f11,q1,q2,q3,q4,ok,rfl⟩ (fun x hx=>hx) hn
  rw [List.set_set] at H4
  exact ⟨_,H4⟩
end
section
variable {M:Nat→Prop}{w0 w w1 w2:World}{Δ F:List Rsc}
theorem Sep.inB (_:Sep M w0 Δ F w) (i:Nat) {r:Rsc}(hi:Δ[i]? = some r) {b:Nat}(hb:b∈r.fp):b∈blocks Δ:=bJ.2 ⟨r,List.mem_of_getElem? hi,hb⟩
end
end Go.Wk
namespace Go.Wk
open Rp (sz own)
def bv (z:Wld):Bool:=decide (z.Stop ≠ -1) && decide (z.Stop≤z.Writes)
def wJ (z:Wld):Wld:=⟨z.Shape,z.Groups,[],z.Tapes,z.Writes,z.Stop,true⟩
def hX (z:Wld):Wld:=⟨z.Shape,z.Groups,z.On,z.Tapes,z.Writes+1,z.Stop,z.Down⟩
def kD (z:Wld) (y:Wld):Wld:=if bv z=true then wJ z else hX y
theorem AS {z y:Wld}(h:bv z=true):kD z y=wJ z:=if_pos h
theorem jP {z y:Wld}(h:bv z=false):kD z y=hX y:=if_neg (by simp [h])
def sG (t:Nat) (r:Rec) (z:Wld):Wld:=⟨z.Shape,z.Groups,z.On,z.Tapes.set t ⟨false,(z.Tapes.getD t default).Recs++[r]⟩,z.Writes,z.Stop,z.Down⟩
def jj (t:Nat) (r:Rec) (z:Wld):Wld:=kD z (sG t r z)
def px (z:Wld) (r:Rec):Bool := !bv z && !bv (jj 0 r z)
def nK (z:Wld) (r:Rec):Wld:=if bv z=true then wJ z else jj 1 r (jj 0 r z)
def fa (z:Wld):Bool:=decide (200<((z.Tapes.getD 0 default).Recs.length:Int)+1) || decide (200<((z.Tapes.getD 1 default).Recs.length:Int)+1)
def noWld:Wld:=⟨⟨0,0,0,0,0,0,0,0,0⟩,[],[],[],0,0,false⟩
theorem lN {t:Nat}{r:Rec}{z:Wld}:(jj t r z).Tapes.length=z.Tapes.length:=by
  unfold jj kD; split
  · rfl
  · simp [hX,sG]
theorem CY {t:Nat}{r:Rec}{z:Wld}:(jj t r z).Stop=z.Stop:=by
  unfold jj kD; split<;>rfl
theorem mr {t:Nat}{r:Rec}{z:Wld}:z.Writes≤(jj t r z).Writes∧(jj t r z).Writes≤z.Writes+1:=by
  unfold jj kD; split
  · show z.Writes≤z.Writes∧z.Writes≤z.Writes+1; omega
  · show z.Writes≤z.Writes+1∧z.Writes+1≤z.Writes+1; omega
theorem Ci {t u:Nat}{r:Rec}{z:Wld}:((jj t r z).Tapes.getD u default).Recs.length≤(z.Tapes.getD u default).Recs.length+1:=by
  unfold jj kD; split
  · show (z.Tapes.getD u default).Recs.length≤_; omega
  · show ((z.Tapes.set t _).getD u default).Recs.length≤_
    rw [bM]; split
    · next h=>rw [h.1]; simp
    · omega
theorem pX {f g:Nat→Nat}:∀ k,gZ (fun i=>f i+g i) k=gZ f k+gZ g k
  | 0=>rfl
  | k+1=>by
    show gZ (fun i=>f i+g i) k+(f k+g k)=gZ f k+f k+(gZ g k+g k)
    rw [pX k]; omega
theorem tA {i c:Nat}:∀ k,gZ (fun j=>if j=i then c else 0) k=if i<k then c else 0
  | 0=>rfl
  | k+1=>by
    show gZ (fun j=>if j=i then c else 0) k+(if k=i then c else 0)=_
    rw [tA k]
    by_cases h:k=i
    · subst h; rw [if_neg ω,if_pos rfl,if_pos ω]; omega
    · rw [if_neg h]
      by_cases h2:i<k
      · rw [if_pos h2,if_pos ω]; omega
      · rw [if_neg h2,if_neg ω]
section
variable {α:Type}[Inhabited α] {f:α→Nat}{xs:List α}{y:α}{i:Nat}
theorem DA:mkL f (xs++[y])=mkL f xs+f y:=by
  unfold mkL
  rw [List.length_append]
  show gZ _ xs.length+f ((xs++[y]).getD xs.length default)=_
  have e1:(xs++[y]).getD xs.length default=y:=by simp [List.getD]
  rw [e1,oB (g:=fun i=>f (xs.getD i default)) fun j hj=>by
    have e:(xs++[y]).getD j default=xs.getD j default:=by rw [lK hj]
    rw [e]]
end
theorem vD {z:Wld}:dk (wJ z)≤dk z:=by
  unfold dk wJ; dsimp only; simp
end Go.Wk
namespace Go.Wk
open Rp (sz own)
theorem kU {α:Type}{xs:List α}{k:Nat}{d:α}(h:k<xs.length):xs.take k++[xs.getD k d]=xs.take (k+1):=by
  rw [bI h]; exact List.take_append_getElem h
theorem gE {w:Wld}(h:cz w=0):0≤w.Writes∧w.Writes≤1000000000 ∧ -1≤w.Stop∧w.Stop≤1000000000:=by
  unfold cz at h
  split at h
  · rename_i h1; exact absurd h h1
  · split at h
    · split at h
      · rename_i h1; exact absurd h h1
      · split at h
        · rename_i h1
          simp only [Bool.and_eq_true,aJ] at h1
          omega
        · omega
    · omega
theorem Sep.asSt {α β:Type}[Rp α] [Rp β] {M:Nat→Prop}{w0 w:World}{Δ F:List Rsc}(h:Sep M w0 Δ F w) (i:Nat) {cs cs':List Value}{x:α}(y:β) {fp:List Nat}(hi:Δ[i]? = some (Wk.mine cs x fp)) (hq:own true w cs' y fp):Sep M w0 (Δ.set i (Wk.mine cs' y fp)) F w:=
  have hn:=h.nodup1 hi
  h.conv i (Wk.mine cs' y fp) hi hq (fun b hb=>hb) hn
section
variable {P:Program}{n:Nat}{ops:Array Oper}{Q:Post}{L:Env}{S:World→Prop}{w w0:World}{M:Nat→Prop}{Δ F:List Rsc}{ty:TypeId}{p:String}{af:Array Edge}{g:Option (Nat × Bool)}{i:Nat}{rest:List (Nat × Bool)}
theorem qe {t:TypeId}{x y:Operand}{b off sz:Nat}{cs:List Value}{T} {vs:List Value}(ho:ops.toList[i]? = some ⟨none,.store t x y,ty,p,af,g⟩) (hw:Wn ops n L ⟨none,.store t x y,ty,p,af,g⟩) (hs:∀ w,(sizeOf t).run P w = .ok sz w) (hx:evL L x=some (.pointer (some ⟨b,off,none⟩))) (hy:evL L y=some (.agg vs.toArray))
    (hl:vs.length=sz) (h1:qi vs=true) (H:Sep M w0 Δ F w) (j:Nat) (hi:Δ[j]? = some (Wk.box b (.cells cs.toArray T))) (hf:Nat.ble (off+sz) cs.length=true) (hS:∀ w',S w→Ext (· = b) w w'→rest≠[]→S w')
    (k:∀ w',Ext (· = b) w w'→Sep M w0 (Δ.set j (Wk.box b (.cells (aI cs off vs).toArray T))) F w'→DL P n ops Q S rest L w') :
    DL P n ops Q S ((i,false)::rest) L w:=by
  have hf':=Nat.le_of_ble_eq_true hf
  have h:=k _ (Ext.refl.put (.inl rfl)) (H.put j _ hi)
  rw [← pK (by rw [hl]; exact hf')] at h
  exact x7 ho hw rfl (lw hs hx hy hl (km h1) (H.box j hi) (by simpa using hf')) (fun hSw hr=>hS _ hSw (Ext.refl.put (.inl rfl)) hr) h
end
end Go.Wk
namespace Go.Wk
open Rp (sz own)
section
variable {M:Nat→Prop}{w0 w w1 w2:World}{Δ F:List Rsc}{b:Nat}{T:TypeId}{z:Wld}{fp fp1:List Nat}
theorem Sep.boxFar (h:Sep M w0 Δ F w) (i j:Nat) {c:Nat}{o:Obj}(hi:Δ[i]? = some (wldR b T z fp)) (hj:Δ[j]? = some (Wk.box c o)) (hij:Nat.beq j i=false) (s1:∀ x∈fp1,x∈fp∨w.heap.size≤x) (e1:Ext (· ∈ fp) w w1) :
    w1.heap[c]? = some o∧c ∉ fp1:=by
  have hb:w.heap[c]? = some o:=h.r j hj
  have hn:c ∉ fp:=h.apart (i:=i) (j:=j) hi hj hij c (by simp [Wk.box])
  exact ⟨e1.heapM hn hb,fun hm=>(s1 c hm).elim hn fun hg=>by have:=(Array.getElem?_eq_some_iff.1 hb).1; omega⟩
theorem Sep.seeFar {α:Type}[Rp α] (h:Sep M w0 Δ F w) (i j:Nat) {s:Bool}{cs:List Value}{x:α}{f:List Nat}(hi:Δ[i]? = some (wldR b T z fp)) (hj:F[j]? = some (Wk.seen s cs x f)) (s1:∀ x∈fp1,x∈fp∨w.heap.size≤x) (e1:Ext (· ∈ fp) w w1) :
    own false w1 cs x f∧∀ b∈f,b ∉ fp1:=by
  have hx:own s w cs x f:=h.fs _ (List.mem_of_getElem? hj)
  have hn:∀ b∈f,b ∉ fp:=fun b hb hm=>h.ap _ (List.mem_of_getElem? hj) b hb (h.inB i hi hm)
  have hl:=Rp.lt hx
  exact ⟨az (Rp.st hx fun b hb=>e1.block b (hl b hb) (hn b hb)),fun b hb hm=>(s1 b hm).elim (hn b hb) fun hg=>by have:=hl b hb; omega⟩
theorem Sep.boxF (h:Sep M w0 [wldR b T z fp] F w) {c:Nat}{o:Obj}(hb:w.heap[c]? = some o) (hd:c ∉ fp):Sep M w0 [wldR b T z fp] (F++[Wk.box c o]) w:=
  h.look (r:=Wk.box c o) hb fun x hx hm=>by
    rw [show x=c by simpa [Wk.box] using hx] at hm
    exact hd (by simpa [blocks,wldR] using hm)
def Sep.S2 {M:Nat→Prop}{w0 w:World}{Δ F:List Rsc}(_:Sep M w0 Δ F w) (i j:Nat):World→Prop:=Ext (fun b=>b∈(Δ.getD i gone).fp∨b∈(Δ.getD j gone).fp) w
theorem gV {r d:Rsc}{i:Nat}(h:Δ[i]? = some r):Δ.getD i d=r:=by simp [List.getD,h]
theorem Sep.s2Call (h:Sep M w0 Δ F w) {i j:Nat}(hS:h.S2 i j w1) (e:Ext No w1 w2):h.S2 i j w2:=Ext.trans hS e.no
theorem Sep.s2In (h:Sep M w0 Δ F w) {i j:Nat}(hS:h.S2 i j w1) (k:Nat) {r:Rsc}(hk:Δ[k]? = some r) (hij:k=i∨k=j) {N:Nat→Prop}(e:Ext N w1 w2) (hN:∀ b,N b→b∈r.fp):h.S2 i j w2:=
  Ext.step hS e fun b hb => .inl (by
    rcases hij with rfl | rfl
    · exact .inl (by rw [gV hk]; exact hN b hb)
    · exact .inr (by rw [gV hk]; exact hN b hb))
theorem Sep.s2FBox (h:Sep M w0 Δ F w) {i j:Nat}(hx:h.S2 i j w1) (k:Nat) {c:Nat}{o:Obj}(hk:F[k]? = some (Wk.box c o)) {ri rj:Rsc}(hi:Δ[i]? = some ri) (hj:Δ[j]? = some rj):w1.heap[c]? = some o:=
  Ext.heapM hx (fun hm=>h.ap _ (List.mem_of_getElem? hk) c (by simp [Wk.box]) (by
    rcases hm with hm | hm
    · rw [gV hi] at hm; exact h.inB i hi hm
    · rw [gV hj] at hm; exact h.inB j hj hm)) (h.fs _ (List.mem_of_getElem? hk))
theorem Sep.s2Box (h:Sep M w0 Δ F w) {i j:Nat}(hx:h.S2 i j w1) (k:Nat) {c:Nat}{o:Obj}(hk:Δ[k]? = some (Wk.box c o)) {ri rj:Rsc}(hi:Δ[i]? = some ri) (hj:Δ[j]? = some rj) (d1:Nat.beq k i=false) (d2:Nat.beq k j=false):w1.heap[c]? = some o:=
  Ext.heapM hx (fun hm=>by
    rcases hm with hm | hm
    · rw [gV hi] at hm; exact h.apart (i:=i) (j:=k) hi hk d1 c (by simp [Wk.box]) hm
    · rw [gV hj] at hm; exact h.apart (i:=j) (j:=k) hj hk d2 c (by simp [Wk.box]) hm) (h.r k hk)
end
section
variable {P:Program}{n:Nat}{ops:Array Oper}{Q:Post}{L:Env}{S:World→Prop}{w w0:World}{M:Nat→Prop}{Δ F:List Rsc}{ty:TypeId}{p:String}{af:Array Edge}{g:Option (Nat × Bool)}{α:Type}[Rp α] {i:Nat}{rest:List (Nat × Bool)}
theorem oG {t:TypeId}{x y:Operand}{ad:Option Addr}{m cap k b off:Nat}{xs:List α}{T:TypeId}{ck:List Value}{f1 f2:List Nat}{v:Value}(ho:ops.toList[i]? = some ⟨none,.store t x y,ty,p,af,g⟩) (hw:Wn ops n L ⟨none,.store t x y,ty,p,af,g⟩) (hs:∀ w,(sizeOf t).run P w = .ok 1 w)
    (H:Sep M w0 Δ F w) (j q:Nat) (hi:Δ[j]? = some (hol ad m cap xs k b off T ck f1 f2)) (hj:Nat.blt q ck.length=true) (hx:evL L x=some (.pointer (some ⟨b,off+q,none⟩))) (hy:evL L y=some v) (h1:v.oneCell'=true) (hS:∀ w',S w→Ext (· = b) w w'→rest≠[]→S w')
    (kk:∀ w',Sep M w0 (Δ.set j (hol ad m cap xs k b off T (ck.set q v) f1 f2)) F w'→DL P n ops Q S rest L w'):DL P n ops Q S ((i,false)::rest) L w:=by
  obtain ⟨cur,hb,hlt,H'⟩:=H.hset j hi q (Nat.le_of_ble_eq_true hj) v
  exact x7 ho hw rfl (ge hs hx hy h1 hb hlt) (fun hSw hr=>hS _ hSw (Ext.refl.put (.inl rfl)) hr) (kk _ H')
end
theorem lQ {z:Wld}(h:cz z=0):(z.Tapes.getD 0 default).Recs.length≤200∧(z.Tapes.getD 1 default).Recs.length≤200:=by
  obtain ⟨_,_,_,h2,h3⟩:=bx h
  have hm:z.Tapes.any fg=false:=by
    cases hq:z.Tapes.any fg with
    | false=>rfl
    | true=>unfold dN at h3; rw [if_pos hq] at h3; omega
  have key:∀ i,i<z.Tapes.length→(z.Tapes.getD i default).Recs.length≤200:=fun i hi=>by
    have:=wj (d:=default) hm i hi
    unfold fg at this
    simp only [decide_eq_false_iff_not] at this; omega
  exact ⟨key 0 ω,key 1 ω⟩
theorem vv {t:Nat}{r:Rec}{z:Wld}(h:z.Ok):(sG t r z).Ok:=h
theorem vM {z:Wld}(h:z.Ok):(wJ z).Ok:=h
theorem po {z:Wld}(h:z.Ok) (h2:z.Writes≤2000000000):(hX z).Ok:=by
  refine ⟨h.1,?_,h.2.2⟩
  have h3:=h.2.1
  show I64ok (z.Writes+1)
  unfold I64ok at h3 ⊢; omega
def fT (z:Wld) (m:Int):Bool:=decide (200<((z.Tapes.getD 0 default).Recs.length:Int)+m) || decide (200<((z.Tapes.getD 1 default).Recs.length:Int)+m)
def nW (z:Wld):Int:=200-max ((z.Tapes.getD 0 default).Recs.length:Int) ((z.Tapes.getD 1 default).Recs.length:Int)
theorem BD {z:Wld}(h:nW z<1):fa z=true:=by
  unfold nW at h; unfold fa
  simp only [Bool.or_eq_true,decide_eq_true_eq]; omega
theorem D2 {z:Wld}(h:¬ nW z<1):fa z=false:=by
  unfold nW at h; unfold fa
  simp only [Bool.or_eq_false_iff,decide_eq_false_iff_not]; omega
theorem Ey {z:Wld}(h:fa z=false):(z.Tapes.getD 0 default).Recs.length<200∧(z.Tapes.getD 1 default).Recs.length<200:=by
  unfold fa at h
  simp only [Bool.or_eq_false_iff,decide_eq_false_iff_not] at h; omega
theorem wM {z:Wld}(h:¬ z.Stop = -1) (h2:z.Writes ≥ z.Stop):bv z=true:=by
  unfold bv; simp only [Bool.and_eq_true,decide_eq_true_eq]; exact ⟨h,h2⟩
theorem tT {z:Wld}(h:z.Stop = -1∨¬ z.Writes ≥ z.Stop):bv z=false:=by
  unfold bv; simp only [Bool.and_eq_false_iff,decide_eq_false_iff_not]
  rcases h with h | h
  · exact .inl (by simp [h])
  · exact .inr ω
theorem Bl {z:Wld}{r:Rec}(h:bv z=true):nK z r=jj 0 r z∧px z r=false:=by
  unfold nK px jj
  rw [if_pos h,h,AS h]; exact ⟨rfl,rfl⟩
theorem xq {z:Wld}{r:Rec}(h:bv z=false):nK z r=jj 1 r (jj 0 r z)∧px z r = !bv (jj 0 r z):=by
  unfold nK px
  rw [if_neg (by simp [h]),h]; exact ⟨rfl,rfl⟩
end Go.Wk
namespace Go.Wk
open Rp (sz own)
theorem EQ:noWld.Ok:=by unfold Wld.Ok Shape.Ok I64ok noWld; dsimp only; omega
theorem en {w w':World}{c:Int}(h:I64ok c):Res w w' [.int .i64 c,.int .i64 0,.int .i64 0,.int .i64 0,.int .i64 0,.int .i64 0,.int .i64 0,.int .i64 0,.int .i64 0,.int .i64 0,.slice none 0 0,.slice none 0 0,.slice none 0 0,.int .i64 0,.int .i64 0,.bool false] (⟨c,noWld⟩:WldResult):=
  ⟨_,WldResult.own_mk (x:=⟨c,noWld⟩) ⟨h,EQ⟩ (.inr (.inl ⟨rfl,rfl,rfl⟩)) (.inr (.inl ⟨rfl,rfl,rfl⟩)) (.inr (.inl ⟨rfl,rfl,rfl⟩)),List.nodup_nil,σ⟩
section
variable {P:Program}{n:Nat}{ops:Array Oper}{Q:Post}{L:Env}{S:World→Prop}{w w0:World}{M:Nat→Prop}{Δ F:List Rsc}{d:Nat}{ty:TypeId}{p:String}{af:Array Edge}{g:Option (Nat × Bool)}{i:Nat}{rest:List (Nat × Bool)}
theorem Gv {t:TypeId}{z:Value}(ho:ops.toList[i]? = some ⟨some d,.alloc t,ty,p,af,g⟩) (hw:Wn ops n L ⟨some d,.alloc t,ty,p,af,g⟩) (hn:Nat.blt d n=true) (hz:∀ w,(zeroValue t).run P w = .ok z w) (H:Sep M w0 Δ F w) (hS:∀ w',S w→Ext No w w'→S w')
    (k:∀ b w',Ext No w w'→w.heap.size≤b→Sep M w0 (Δ++[box b (.cells z.cells t)]) F w'→DL P n ops Q S rest ((d,.pointer (some ⟨b,0,none⟩))::L) w'):DL P n ops Q S ((i,false)::rest) L w:=
  AH (v:=fun b => .pointer (some ⟨b,0,none⟩)) ho hw rfl hn (xp hz) H hS k
end
end Go.Wk
namespace Go.Wk
open Go.Proofs Rp Go.Proofs.Tryz
set_option maxRecDepth 10000
theorem cP {w:World}{xs:List Int}{xsA:Option Addr}{xsC:Nat}(xsS:Sees w [.slice xsA xs.length xsC] xs) (hl:xs.length≤100000000):Ret Tryz.prog 103 #[.slice xsA xs.length xsC] w fun v w'=>Ext No w w'∧(Res w w' [v] xs):=by
 have xsL:=sL xsS;obtain ⟨xsF,xsO⟩:=xsS;refine aH func103 Z ntmps103 Z (fun Q hQ hN=>?_);have H0:=Sep.start (ab xsO aA);refine ac (sA Z Z (aa (ae (ac (sM Z Z (sV Z (tC bH Z Z) (aa (cx Z (fun c1=>?_) (fun c1=>?_)))))))))
 ·refine ac (rA hQ results103 Z ?_);have e:xs=[]:=tJ xsO c1;exact ⟨H0.ext,e ▸ ⟨[],.inr (.inl ⟨Z,Z,Z⟩),.nil,σ⟩⟩
 ·refine au (ac (eZ (α:=Int) ah Z bH bG H0 (fun b1 w1 e1 g1 H1=>sM Z Z (vA ah Z bH bG Z Z Z H1 0 Z (H1.seen 0 Z) (by (try simp only [List.length_nil]); unfold maxLen; omega) (by (try simp only [List.length_nil]); omega) (fun v1 w2 fp1 H2=>rA hQ results103 Z ?_)))))
  exact ⟨H2.ext,by
   have h:=H2.out 0 Z
   rwa [List.nil_append] at h⟩
theorem aQ {w:World}{xs:List UInt8}{xsA:Option Addr}{xsC:Nat}(xsS:Sees w [.slice xsA xs.length xsC] xs) (hl:xs.length≤100000000):Ret Tryz.prog 62 #[.slice xsA xs.length xsC] w fun v w'=>Ext No w w'∧(Res w w' [v] xs):=by
 have xsL:=sL xsS;obtain ⟨xsF,xsO⟩:=xsS;refine aH func62 Z ntmps62 Z (fun Q hQ hN=>?_);have H0:=Sep.start (ab xsO aA);refine ac (sA Z Z (aa (ae (ac (sM Z Z (sV Z (tC aZ Z Z) (aa (cx Z (fun c1=>?_) (fun c1=>?_)))))))))
 ·refine ac (rA hQ results62 Z ?_);have e:xs=[]:=tJ xsO c1;exact ⟨H0.ext,e ▸ ⟨[],.inr (.inl ⟨Z,Z,Z⟩),.nil,σ⟩⟩
 ·refine au (ac (eZ (α:=UInt8) ah Z aZ cE H0 (fun b1 w1 e1 g1 H1=>sM Z Z (vA ah Z aZ cE Z Z Z H1 0 Z (H1.seen 0 Z) (by (try simp only [List.length_nil]); unfold maxLen; omega) (by (try simp only [List.length_nil]); omega) (fun v1 w2 fp1 H2=>rA hQ results62 Z ?_)))))
  exact ⟨H2.ext,by
   have h:=H2.out 0 Z
   rwa [List.nil_append] at h⟩
theorem eV {w:World}{r:Rec}{rA6 rA7 rA8:Option Addr}{rC6 rC7 rC8:Nat}(rK:r.Ok) (rS6:Sees w [.slice rA6 r.Rows.length rC6] r.Rows) (rS7:Sees w [.slice rA7 r.Data.length rC7] r.Data) (rS8:Sees w [.slice rA8 r.Delta.length rC8] r.Delta) (hb:ff r≤1048576):Ret Tryz.prog 173 #[r.val rA6 rC6 rA7 rC7 rA8 rC8] w fun v w'=>Ext No w w'∧(∃ A6 C6 A7 C7 A8 C8,v=r.val A6 C6 A7 C7 A8 C8∧Res w w' [.int .i64 r.Kind,.int .i64 r.Seq,.string r.Name,.int .i64 r.Length,.int .i64 r.Group,.int .i64 r.Row,.slice A6 r.Rows.length C6,.slice A7 r.Data.length C7,.slice A8 r.Delta.length C8] r):=by
 have rK2:=rK;unfold Rec.Ok at rK2
 try unfold I64ok at rK2
 try unfold maxLen at rK2
 have rN2:r.Name.size≤maxLen:=by unfold maxLen; omega
 have rL6:=sL rS6;obtain ⟨rF6,rO6⟩:=rS6;have rL7:=sL rS7;obtain ⟨rF7,rO7⟩:=rS7;have rL8:=sL rS8;obtain ⟨rF8,rO8⟩:=rS8;unfold ff at hb;refine aH func173 Z ntmps173 Z (fun Q hQ hN=>?_);have H0:=Sep.start (ab rO6 (ab rO7 (ab rO8 aA)));refine ac (bu ah Z Z H0 (fun b1 w1 e1 g1 H1=>bB ah Z zeroValue59 H1 (fun b2 w2 e2 g2 H2=>aa (ae (cb (S:=Ext (· ∈ [b1]) _) (oQ [1,7,13,2178,2,2064,4,2040,8,2018,10,14,19,16,20,23,24,27,28,14,19,10,16,20,23,24,27,28,14,8,19,10,16,20,23,24,27,28,2064,8,2040,4,2018,10,14,19,16,20,23,24,27,28,14,19,10,16,20,23,24,27,28,14,4,19,10,16,20,23,24,27,28,14,2020,4,8,19,10,16,20,23,24,27,28,8,4,19,10,16,20,23,24,27,28,2090,8,2064,2,2040,4,2018,10,14,19,16,20,23,24,27,28,14,19,10,16,20,23,24,27,28,14,4,19,10,16,20,23,24,27,28,14,2,4,19,10,16,20,23,24,27,28,14,2044,2,2020,4,8,19,10,16,20,23,24,27,28,8,4,19,10,16,20,23,24,27,28,8,2,4,19,10,16,20,23,24,27,28]) κ κ κ Z (fun _=>Ext.refl.drawn _) (fun q1=>?_))))));have H3:=H2.drawn q1;refine dV Z Z (fun zw hx=>ag aD Z cG Z Z) (dV Z Z (fun zw hx=>ag aD Z bf Z Z) (dV Z Z (fun zw hx=>ag aD Z bf Z Z) (dF Z ?_ ?_)))
 ·refine aW Z ah Z Z (aj bH Z Z (al (H3.box 0 Z) Z)) (dF Z ?_ ?_)
  ·refine dC func103 dH Z (cP (H3.sees 0 Z) ω) (fun v1 w3 r1=>?_);obtain ⟨e3,r1⟩:=r1;obtain ⟨fp1,H4⟩:=H3.res e3 r1;obtain ⟨a1,k1,q2⟩:=an (H4.mine 2 Z);cases q2;refine dF Z ?_ ?_
   ·refine aW Z ah Z Z (aj aZ Z Z (al (H4.box 0 Z) Z)) (dF Z ?_ ?_)
    ·refine dC func62 bd Z (aQ (H4.sees 1 Z) ω) (fun v2 w4 r2=>?_);obtain ⟨e4,r2⟩:=r2;obtain ⟨fp2,H5⟩:=H4.res e4 r2;obtain ⟨a2,k2,q3⟩:=an (H5.mine 3 Z);cases q3;refine aW Z ah Z Z (aj aZ Z Z (al (H5.box 0 Z) Z)) (dV Z Z (fun zw hx=>ag aD Z cG Z Z) (dC func62 bd Z (aQ (H5.sees 2 Z) ω) (fun v3 w5 r3=>?_)));obtain ⟨e5,r3⟩:=r3;obtain ⟨fp3,H6⟩:=H5.res e5 r3;obtain ⟨a3,k3,q4⟩:=an (H6.mine 4 Z);cases q4;refine bQ Z ah cG Z Z Z H6 0 Z Z (fun _ h e _=>h.trans (e.mono fun _ _ q=>by simp [q])) (fun w6 e6 H7=>?_);dsimp only[lNA,lCA,lSZ,lSS,aI] at H7;refine dV Z Z (fun zw hx=>ag aD Z bf Z Z) (bQ Z ah bf Z Z Z H7 0 Z Z (fun _ h e _=>h.trans (e.mono fun _ _ q=>by simp [q])) (fun w7 e7 H8=>?_));dsimp only[lNA,lCA,lSZ,lSS,aI] at H8;refine dV Z Z (fun zw hx=>ag aD Z bf Z Z) (bQ Z ah bf Z Z Z H8 0 Z Z (fun _ h e _=>h.trans (e.mono fun _ _ q=>by simp [q])) (fun w8 e8 H9=>?_));dsimp only[lNA,lCA,lSZ,lSS,aI] at H9;refine bb (ac (sV Z (ak aD Z aO Z Z (At.whole (H9.box 0 Z))) (aF ah aO Z Z Z Z H9 1 Z Z (fun w9 e9 H10=>?_))));dsimp only[lNA,lCA,lSZ,lSS,aI] at H10;refine aa (bc (hQ _ _ (cp results173 Z (ay aD Z aO Z (At.whole (H10.box 1 Z))) ?_)));exact ⟨H10.ext,_,_,_,_,_,_,Z,Rec.out (H10.sub (.cons _ (.cons _ (.cons_cons _ (.cons_cons _ (.cons_cons _ List.Sublist.slnil)))))) η⟩
    ·refine aW Z ah Z Z (aj aZ Z Z (al (H4.box 0 Z) Z)) (dV Z Z (fun zw hx=>ag aD Z cG Z Z) (dC func62 bd Z (aQ (H4.sees 1 Z) ω) (fun v4 w10 r4=>?_)));obtain ⟨e10,r4⟩:=r4;obtain ⟨fp4,H11⟩:=H4.res e10 r4;obtain ⟨a4,k4,q5⟩:=an (H11.mine 3 Z);cases q5;refine dC func62 bd Z (aQ (H11.sees 2 Z) ω) (fun v5 w11 r5=>?_);obtain ⟨e11,r5⟩:=r5;obtain ⟨fp5,H12⟩:=H11.res e11 r5;obtain ⟨a5,k5,q6⟩:=an (H12.mine 4 Z);cases q6;refine bQ Z ah cG Z Z Z H12 0 Z Z (fun _ h e _=>h.trans (e.mono fun _ _ q=>by simp [q])) (fun w12 e12 H13=>?_);dsimp only[lNA,lCA,lSZ,lSS,aI] at H13;refine dV Z Z (fun zw hx=>ag aD Z bf Z Z) (bQ Z ah bf Z Z Z H13 0 Z Z (fun _ h e _=>h.trans (e.mono fun _ _ q=>by simp [q])) (fun w13 e13 H14=>?_));dsimp only[lNA,lCA,lSZ,lSS,aI] at H14;refine dV Z Z (fun zw hx=>ag aD Z bf Z Z) (bQ Z ah bf Z Z Z H14 0 Z Z (fun _ h e _=>h.trans (e.mono fun _ _ q=>by simp [q])) (fun w14 e14 H15=>?_));dsimp only[lNA,lCA,lSZ,lSS,aI] at H15;refine bb (ac (sV Z (ak aD Z aO Z Z (At.whole (H15.box 0 Z))) (aF ah aO Z Z Z Z H15 1 Z Z (fun w15 e15 H16=>?_))));dsimp only[lNA,lCA,lSZ,lSS,aI] at H16;refine aa (bc (hQ _ _ (cp results173 Z (ay aD Z aO Z (At.whole (H16.box 1 Z))) ?_)));exact ⟨H16.ext,_,_,_,_,_,_,Z,Rec.out (H16.sub (.cons _ (.cons _ (.cons_cons _ (.cons_cons _ (.cons_cons _ List.Sublist.slnil)))))) η⟩
   ·refine aW Z ah Z Z (aj aZ Z Z (al (H4.box 0 Z) Z)) (aW Z ah Z Z (aj aZ Z Z (al (H4.box 0 Z) Z)) (dV Z Z (fun zw hx=>ag aD Z cG Z Z) (dC func62 bd Z (aQ (H4.sees 1 Z) ω) (fun v6 w16 r6=>?_))));obtain ⟨e16,r6⟩:=r6;obtain ⟨fp6,H17⟩:=H4.res e16 r6;obtain ⟨a6,k6,q7⟩:=an (H17.mine 3 Z);cases q7;refine dC func62 bd Z (aQ (H17.sees 2 Z) ω) (fun v7 w17 r7=>?_);obtain ⟨e17,r7⟩:=r7;obtain ⟨fp7,H18⟩:=H17.res e17 r7;obtain ⟨a7,k7,q8⟩:=an (H18.mine 4 Z);cases q8;refine bQ Z ah cG Z Z Z H18 0 Z Z (fun _ h e _=>h.trans (e.mono fun _ _ q=>by simp [q])) (fun w18 e18 H19=>?_);dsimp only[lNA,lCA,lSZ,lSS,aI] at H19;refine dV Z Z (fun zw hx=>ag aD Z bf Z Z) (bQ Z ah bf Z Z Z H19 0 Z Z (fun _ h e _=>h.trans (e.mono fun _ _ q=>by simp [q])) (fun w19 e19 H20=>?_));dsimp only[lNA,lCA,lSZ,lSS,aI] at H20;refine dV Z Z (fun zw hx=>ag aD Z bf Z Z) (bQ Z ah bf Z Z Z H20 0 Z Z (fun _ h e _=>h.trans (e.mono fun _ _ q=>by simp [q])) (fun w20 e20 H21=>?_));dsimp only[lNA,lCA,lSZ,lSS,aI] at H21;refine bb (ac (sV Z (ak aD Z aO Z Z (At.whole (H21.box 0 Z))) (aF ah aO Z Z Z Z H21 1 Z Z (fun w21 e21 H22=>?_))));dsimp only[lNA,lCA,lSZ,lSS,aI] at H22;refine aa (bc (hQ _ _ (cp results173 Z (ay aD Z aO Z (At.whole (H22.box 1 Z))) ?_)));exact ⟨H22.ext,_,_,_,_,_,_,Z,Rec.out (H22.sub (.cons _ (.cons _ (.cons_cons _ (.cons_cons _ (.cons_cons _ List.Sublist.slnil)))))) η⟩
  refine dF Z ?_ ?_
  ·refine aW Z ah Z Z (aj aZ Z Z (al (H3.box 0 Z) Z)) (dF Z ?_ ?_)
   ·refine dC func103 dH Z (cP (H3.sees 0 Z) ω) (fun v8 w22 r8=>?_);obtain ⟨e22,r8⟩:=r8;obtain ⟨fp8,H23⟩:=H3.res e22 r8;obtain ⟨a8,k8,q9⟩:=an (H23.mine 2 Z);cases q9;refine dF Z ?_ ?_
    ·refine dC func62 bd Z (aQ (H23.sees 1 Z) ω) (fun v9 w23 r9=>?_);obtain ⟨e23,r9⟩:=r9;obtain ⟨fp9,H24⟩:=H23.res e23 r9;obtain ⟨a9,k9,q10⟩:=an (H24.mine 3 Z);cases q10;refine aW Z ah Z Z (aj aZ Z Z (al (H24.box 0 Z) Z)) (dV Z Z (fun zw hx=>ag aD Z cG Z Z) (dC func62 bd Z (aQ (H24.sees 2 Z) ω) (fun v10 w24 r10=>?_)));obtain ⟨e24,r10⟩:=r10;obtain ⟨fp10,H25⟩:=H24.res e24 r10;obtain ⟨a10,k10,q11⟩:=an (H25.mine 4 Z);cases q11;refine bQ Z ah cG Z Z Z H25 0 Z Z (fun _ h e _=>h.trans (e.mono fun _ _ q=>by simp [q])) (fun w25 e25 H26=>?_);dsimp only[lNA,lCA,lSZ,lSS,aI] at H26;refine dV Z Z (fun zw hx=>ag aD Z bf Z Z) (bQ Z ah bf Z Z Z H26 0 Z Z (fun _ h e _=>h.trans (e.mono fun _ _ q=>by simp [q])) (fun w26 e26 H27=>?_));dsimp only[lNA,lCA,lSZ,lSS,aI] at H27;refine dV Z Z (fun zw hx=>ag aD Z bf Z Z) (bQ Z ah bf Z Z Z H27 0 Z Z (fun _ h e _=>h.trans (e.mono fun _ _ q=>by simp [q])) (fun w27 e27 H28=>?_));dsimp only[lNA,lCA,lSZ,lSS,aI] at H28;refine bb (ac (sV Z (ak aD Z aO Z Z (At.whole (H28.box 0 Z))) (aF ah aO Z Z Z Z H28 1 Z Z (fun w28 e28 H29=>?_))));dsimp only[lNA,lCA,lSZ,lSS,aI] at H29;refine aa (bc (hQ _ _ (cp results173 Z (ay aD Z aO Z (At.whole (H29.box 1 Z))) ?_)));exact ⟨H29.ext,_,_,_,_,_,_,Z,Rec.out (H29.sub (.cons _ (.cons _ (.cons_cons _ (.cons_cons _ (.cons_cons _ List.Sublist.slnil)))))) η⟩
    ·refine aW Z ah Z Z (aj aZ Z Z (al (H23.box 0 Z) Z)) (dV Z Z (fun zw hx=>ag aD Z cG Z Z) (dC func62 bd Z (aQ (H23.sees 1 Z) ω) (fun v11 w29 r11=>?_)));obtain ⟨e29,r11⟩:=r11;obtain ⟨fp11,H30⟩:=H23.res e29 r11;obtain ⟨a11,k11,q12⟩:=an (H30.mine 3 Z);cases q12;refine dC func62 bd Z (aQ (H30.sees 2 Z) ω) (fun v12 w30 r12=>?_);obtain ⟨e30,r12⟩:=r12;obtain ⟨fp12,H31⟩:=H30.res e30 r12;obtain ⟨a12,k12,q13⟩:=an (H31.mine 4 Z);cases q13;refine bQ Z ah cG Z Z Z H31 0 Z Z (fun _ h e _=>h.trans (e.mono fun _ _ q=>by simp [q])) (fun w31 e31 H32=>?_);dsimp only[lNA,lCA,lSZ,lSS,aI] at H32;refine dV Z Z (fun zw hx=>ag aD Z bf Z Z) (bQ Z ah bf Z Z Z H32 0 Z Z (fun _ h e _=>h.trans (e.mono fun _ _ q=>by simp [q])) (fun w32 e32 H33=>?_));dsimp only[lNA,lCA,lSZ,lSS,aI] at H33;refine dV Z Z (fun zw hx=>ag aD Z bf Z Z) (bQ Z ah bf Z Z Z H33 0 Z Z (fun _ h e _=>h.trans (e.mono fun _ _ q=>by simp [q])) (fun w33 e33 H34=>?_));dsimp only[lNA,lCA,lSZ,lSS,aI] at H34;refine bb (ac (sV Z (ak aD Z aO Z Z (At.whole (H34.box 0 Z))) (aF ah aO Z Z Z Z H34 1 Z Z (fun w34 e34 H35=>?_))));dsimp only[lNA,lCA,lSZ,lSS,aI] at H35;refine aa (bc (hQ _ _ (cp results173 Z (ay aD Z aO Z (At.whole (H35.box 1 Z))) ?_)));exact ⟨H35.ext,_,_,_,_,_,_,Z,Rec.out (H35.sub (.cons _ (.cons _ (.cons_cons _ (.cons_cons _ (.cons_cons _ List.Sublist.slnil)))))) η⟩
   ·refine aW Z ah Z Z (aj aZ Z Z (al (H3.box 0 Z) Z)) (dC func103 dH Z (cP (H3.sees 0 Z) ω) (fun v13 w35 r13=>?_));obtain ⟨e35,r13⟩:=r13;obtain ⟨fp13,H36⟩:=H3.res e35 r13;obtain ⟨a13,k13,q14⟩:=an (H36.mine 2 Z);cases q14;refine dV Z Z (fun zw hx=>ag aD Z cG Z Z) (dC func62 bd Z (aQ (H36.sees 1 Z) ω) (fun v14 w36 r14=>?_));obtain ⟨e36,r14⟩:=r14;obtain ⟨fp14,H37⟩:=H36.res e36 r14;obtain ⟨a14,k14,q15⟩:=an (H37.mine 3 Z);cases q15;refine dC func62 bd Z (aQ (H37.sees 2 Z) ω) (fun v15 w37 r15=>?_);obtain ⟨e37,r15⟩:=r15;obtain ⟨fp15,H38⟩:=H37.res e37 r15;obtain ⟨a15,k15,q16⟩:=an (H38.mine 4 Z);cases q16;refine bQ Z ah cG Z Z Z H38 0 Z Z (fun _ h e _=>h.trans (e.mono fun _ _ q=>by simp [q])) (fun w38 e38 H39=>?_);dsimp only[lNA,lCA,lSZ,lSS,aI] at H39;refine dV Z Z (fun zw hx=>ag aD Z bf Z Z) (bQ Z ah bf Z Z Z H39 0 Z Z (fun _ h e _=>h.trans (e.mono fun _ _ q=>by simp [q])) (fun w39 e39 H40=>?_));dsimp only[lNA,lCA,lSZ,lSS,aI] at H40;refine dV Z Z (fun zw hx=>ag aD Z bf Z Z) (bQ Z ah bf Z Z Z H40 0 Z Z (fun _ h e _=>h.trans (e.mono fun _ _ q=>by simp [q])) (fun w40 e40 H41=>?_));dsimp only[lNA,lCA,lSZ,lSS,aI] at H41;refine bb (ac (sV Z (ak aD Z aO Z Z (At.whole (H41.box 0 Z))) (aF ah aO Z Z Z Z H41 1 Z Z (fun w41 e41 H42=>?_))));dsimp only[lNA,lCA,lSZ,lSS,aI] at H42;refine aa (bc (hQ _ _ (cp results173 Z (ay aD Z aO Z (At.whole (H42.box 1 Z))) ?_)));exact ⟨H42.ext,_,_,_,_,_,_,Z,Rec.out (H42.sub (.cons _ (.cons _ (.cons_cons _ (.cons_cons _ (.cons_cons _ List.Sublist.slnil)))))) η⟩
  ·refine aW Z ah Z Z (aj aZ Z Z (al (H3.box 0 Z) Z)) (dF Z ?_ ?_)
   ·refine dC func103 dH Z (cP (H3.sees 0 Z) ω) (fun v16 w42 r16=>?_);obtain ⟨e42,r16⟩:=r16;obtain ⟨fp16,H43⟩:=H3.res e42 r16;obtain ⟨a16,k16,q17⟩:=an (H43.mine 2 Z);cases q17;refine aW Z ah Z Z (aj aZ Z Z (al (H43.box 0 Z) Z)) (dV Z Z (fun zw hx=>ag aD Z cG Z Z) (dC func62 bd Z (aQ (H43.sees 1 Z) ω) (fun v17 w43 r17=>?_)));obtain ⟨e43,r17⟩:=r17;obtain ⟨fp17,H44⟩:=H43.res e43 r17;obtain ⟨a17,k17,q18⟩:=an (H44.mine 3 Z);cases q18;refine dC func62 bd Z (aQ (H44.sees 2 Z) ω) (fun v18 w44 r18=>?_);obtain ⟨e44,r18⟩:=r18;obtain ⟨fp18,H45⟩:=H44.res e44 r18;obtain ⟨a18,k18,q19⟩:=an (H45.mine 4 Z);cases q19;refine bQ Z ah cG Z Z Z H45 0 Z Z (fun _ h e _=>h.trans (e.mono fun _ _ q=>by simp [q])) (fun w45 e45 H46=>?_);dsimp only[lNA,lCA,lSZ,lSS,aI] at H46;refine dV Z Z (fun zw hx=>ag aD Z bf Z Z) (bQ Z ah bf Z Z Z H46 0 Z Z (fun _ h e _=>h.trans (e.mono fun _ _ q=>by simp [q])) (fun w46 e46 H47=>?_));dsimp only[lNA,lCA,lSZ,lSS,aI] at H47;refine dV Z Z (fun zw hx=>ag aD Z bf Z Z) (bQ Z ah bf Z Z Z H47 0 Z Z (fun _ h e _=>h.trans (e.mono fun _ _ q=>by simp [q])) (fun w47 e47 H48=>?_));dsimp only[lNA,lCA,lSZ,lSS,aI] at H48;refine bb (ac (sV Z (ak aD Z aO Z Z (At.whole (H48.box 0 Z))) (aF ah aO Z Z Z Z H48 1 Z Z (fun w48 e48 H49=>?_))));dsimp only[lNA,lCA,lSZ,lSS,aI] at H49;refine aa (bc (hQ _ _ (cp results173 Z (ay aD Z aO Z (At.whole (H49.box 1 Z))) ?_)));exact ⟨H49.ext,_,_,_,_,_,_,Z,Rec.out (H49.sub (.cons _ (.cons _ (.cons_cons _ (.cons_cons _ (.cons_cons _ List.Sublist.slnil)))))) η⟩
   ·refine aW Z ah Z Z (aj aZ Z Z (al (H3.box 0 Z) Z)) (dC func103 dH Z (cP (H3.sees 0 Z) ω) (fun v19 w49 r19=>?_));obtain ⟨e49,r19⟩:=r19;obtain ⟨fp19,H50⟩:=H3.res e49 r19;obtain ⟨a19,k19,q20⟩:=an (H50.mine 2 Z);cases q20;refine dV Z Z (fun zw hx=>ag aD Z cG Z Z) (dC func62 bd Z (aQ (H50.sees 1 Z) ω) (fun v20 w50 r20=>?_));obtain ⟨e50,r20⟩:=r20;obtain ⟨fp20,H51⟩:=H50.res e50 r20;obtain ⟨a20,k20,q21⟩:=an (H51.mine 3 Z);cases q21;refine dC func62 bd Z (aQ (H51.sees 2 Z) ω) (fun v21 w51 r21=>?_);obtain ⟨e51,r21⟩:=r21;obtain ⟨fp21,H52⟩:=H51.res e51 r21;obtain ⟨a21,k21,q22⟩:=an (H52.mine 4 Z);cases q22;refine bQ Z ah cG Z Z Z H52 0 Z Z (fun _ h e _=>h.trans (e.mono fun _ _ q=>by simp [q])) (fun w52 e52 H53=>?_);dsimp only[lNA,lCA,lSZ,lSS,aI] at H53;refine dV Z Z (fun zw hx=>ag aD Z bf Z Z) (bQ Z ah bf Z Z Z H53 0 Z Z (fun _ h e _=>h.trans (e.mono fun _ _ q=>by simp [q])) (fun w53 e53 H54=>?_));dsimp only[lNA,lCA,lSZ,lSS,aI] at H54;refine dV Z Z (fun zw hx=>ag aD Z bf Z Z) (bQ Z ah bf Z Z Z H54 0 Z Z (fun _ h e _=>h.trans (e.mono fun _ _ q=>by simp [q])) (fun w54 e54 H55=>?_));dsimp only[lNA,lCA,lSZ,lSS,aI] at H55;refine bb (ac (sV Z (ak aD Z aO Z Z (At.whole (H55.box 0 Z))) (aF ah aO Z Z Z Z H55 1 Z Z (fun w55 e55 H56=>?_))));dsimp only[lNA,lCA,lSZ,lSS,aI] at H56;refine aa (bc (hQ _ _ (cp results173 Z (ay aD Z aO Z (At.whole (H56.box 1 Z))) ?_)));exact ⟨H56.ext,_,_,_,_,_,_,Z,Rec.out (H56.sub (.cons _ (.cons _ (.cons_cons _ (.cons_cons _ (.cons_cons _ List.Sublist.slnil)))))) η⟩
 refine dF Z ?_ ?_
 ·refine aW Z ah Z Z (aj aZ Z Z (al (H3.box 0 Z) Z)) (dF Z ?_ ?_)
  ·refine aW Z ah Z Z (aj bH Z Z (al (H3.box 0 Z) Z)) (dF Z ?_ ?_)
   ·refine dC func103 dH Z (cP (H3.sees 0 Z) ω) (fun v22 w56 r22=>?_);obtain ⟨e56,r22⟩:=r22;obtain ⟨fp22,H57⟩:=H3.res e56 r22;obtain ⟨a22,k22,q23⟩:=an (H57.mine 2 Z);cases q23;refine dF Z ?_ ?_
    ·refine dC func62 bd Z (aQ (H57.sees 1 Z) ω) (fun v23 w57 r23=>?_);obtain ⟨e57,r23⟩:=r23;obtain ⟨fp23,H58⟩:=H57.res e57 r23;obtain ⟨a23,k23,q24⟩:=an (H58.mine 3 Z);cases q24;refine aW Z ah Z Z (aj aZ Z Z (al (H58.box 0 Z) Z)) (dV Z Z (fun zw hx=>ag aD Z cG Z Z) (dC func62 bd Z (aQ (H58.sees 2 Z) ω) (fun v24 w58 r24=>?_)));obtain ⟨e58,r24⟩:=r24;obtain ⟨fp24,H59⟩:=H58.res e58 r24;obtain ⟨a24,k24,q25⟩:=an (H59.mine 4 Z);cases q25;refine bQ Z ah cG Z Z Z H59 0 Z Z (fun _ h e _=>h.trans (e.mono fun _ _ q=>by simp [q])) (fun w59 e59 H60=>?_);dsimp only[lNA,lCA,lSZ,lSS,aI] at H60;refine dV Z Z (fun zw hx=>ag aD Z bf Z Z) (bQ Z ah bf Z Z Z H60 0 Z Z (fun _ h e _=>h.trans (e.mono fun _ _ q=>by simp [q])) (fun w60 e60 H61=>?_));dsimp only[lNA,lCA,lSZ,lSS,aI] at H61;refine dV Z Z (fun zw hx=>ag aD Z bf Z Z) (bQ Z ah bf Z Z Z H61 0 Z Z (fun _ h e _=>h.trans (e.mono fun _ _ q=>by simp [q])) (fun w61 e61 H62=>?_));dsimp only[lNA,lCA,lSZ,lSS,aI] at H62;refine bb (ac (sV Z (ak aD Z aO Z Z (At.whole (H62.box 0 Z))) (aF ah aO Z Z Z Z H62 1 Z Z (fun w62 e62 H63=>?_))));dsimp only[lNA,lCA,lSZ,lSS,aI] at H63;refine aa (bc (hQ _ _ (cp results173 Z (ay aD Z aO Z (At.whole (H63.box 1 Z))) ?_)));exact ⟨H63.ext,_,_,_,_,_,_,Z,Rec.out (H63.sub (.cons _ (.cons _ (.cons_cons _ (.cons_cons _ (.cons_cons _ List.Sublist.slnil)))))) η⟩
    ·refine aW Z ah Z Z (aj aZ Z Z (al (H57.box 0 Z) Z)) (dV Z Z (fun zw hx=>ag aD Z cG Z Z) (dC func62 bd Z (aQ (H57.sees 1 Z) ω) (fun v25 w63 r25=>?_)));obtain ⟨e63,r25⟩:=r25;obtain ⟨fp25,H64⟩:=H57.res e63 r25;obtain ⟨a25,k25,q26⟩:=an (H64.mine 3 Z);cases q26;refine dC func62 bd Z (aQ (H64.sees 2 Z) ω) (fun v26 w64 r26=>?_);obtain ⟨e64,r26⟩:=r26;obtain ⟨fp26,H65⟩:=H64.res e64 r26;obtain ⟨a26,k26,q27⟩:=an (H65.mine 4 Z);cases q27;refine bQ Z ah cG Z Z Z H65 0 Z Z (fun _ h e _=>h.trans (e.mono fun _ _ q=>by simp [q])) (fun w65 e65 H66=>?_);dsimp only[lNA,lCA,lSZ,lSS,aI] at H66;refine dV Z Z (fun zw hx=>ag aD Z bf Z Z) (bQ Z ah bf Z Z Z H66 0 Z Z (fun _ h e _=>h.trans (e.mono fun _ _ q=>by simp [q])) (fun w66 e66 H67=>?_));dsimp only[lNA,lCA,lSZ,lSS,aI] at H67;refine dV Z Z (fun zw hx=>ag aD Z bf Z Z) (bQ Z ah bf Z Z Z H67 0 Z Z (fun _ h e _=>h.trans (e.mono fun _ _ q=>by simp [q])) (fun w67 e67 H68=>?_));dsimp only[lNA,lCA,lSZ,lSS,aI] at H68;refine bb (ac (sV Z (ak aD Z aO Z Z (At.whole (H68.box 0 Z))) (aF ah aO Z Z Z Z H68 1 Z Z (fun w68 e68 H69=>?_))));dsimp only[lNA,lCA,lSZ,lSS,aI] at H69;refine aa (bc (hQ _ _ (cp results173 Z (ay aD Z aO Z (At.whole (H69.box 1 Z))) ?_)));exact ⟨H69.ext,_,_,_,_,_,_,Z,Rec.out (H69.sub (.cons _ (.cons _ (.cons_cons _ (.cons_cons _ (.cons_cons _ List.Sublist.slnil)))))) η⟩
   ·refine aW Z ah Z Z (aj aZ Z Z (al (H3.box 0 Z) Z)) (dC func103 dH Z (cP (H3.sees 0 Z) ω) (fun v27 w69 r27=>?_));obtain ⟨e69,r27⟩:=r27;obtain ⟨fp27,H70⟩:=H3.res e69 r27;obtain ⟨a27,k27,q28⟩:=an (H70.mine 2 Z);cases q28;refine dV Z Z (fun zw hx=>ag aD Z cG Z Z) (dC func62 bd Z (aQ (H70.sees 1 Z) ω) (fun v28 w70 r28=>?_));obtain ⟨e70,r28⟩:=r28;obtain ⟨fp28,H71⟩:=H70.res e70 r28;obtain ⟨a28,k28,q29⟩:=an (H71.mine 3 Z);cases q29;refine dC func62 bd Z (aQ (H71.sees 2 Z) ω) (fun v29 w71 r29=>?_);obtain ⟨e71,r29⟩:=r29;obtain ⟨fp29,H72⟩:=H71.res e71 r29;obtain ⟨a29,k29,q30⟩:=an (H72.mine 4 Z);cases q30;refine bQ Z ah cG Z Z Z H72 0 Z Z (fun _ h e _=>h.trans (e.mono fun _ _ q=>by simp [q])) (fun w72 e72 H73=>?_);dsimp only[lNA,lCA,lSZ,lSS,aI] at H73;refine dV Z Z (fun zw hx=>ag aD Z bf Z Z) (bQ Z ah bf Z Z Z H73 0 Z Z (fun _ h e _=>h.trans (e.mono fun _ _ q=>by simp [q])) (fun w73 e73 H74=>?_));dsimp only[lNA,lCA,lSZ,lSS,aI] at H74;refine dV Z Z (fun zw hx=>ag aD Z bf Z Z) (bQ Z ah bf Z Z Z H74 0 Z Z (fun _ h e _=>h.trans (e.mono fun _ _ q=>by simp [q])) (fun w74 e74 H75=>?_));dsimp only[lNA,lCA,lSZ,lSS,aI] at H75;refine bb (ac (sV Z (ak aD Z aO Z Z (At.whole (H75.box 0 Z))) (aF ah aO Z Z Z Z H75 1 Z Z (fun w75 e75 H76=>?_))));dsimp only[lNA,lCA,lSZ,lSS,aI] at H76;refine aa (bc (hQ _ _ (cp results173 Z (ay aD Z aO Z (At.whole (H76.box 1 Z))) ?_)));exact ⟨H76.ext,_,_,_,_,_,_,Z,Rec.out (H76.sub (.cons _ (.cons _ (.cons_cons _ (.cons_cons _ (.cons_cons _ List.Sublist.slnil)))))) η⟩
  ·refine aW Z ah Z Z (aj aZ Z Z (al (H3.box 0 Z) Z)) (aW Z ah Z Z (aj bH Z Z (al (H3.box 0 Z) Z)) (dC func103 dH Z (cP (H3.sees 0 Z) ω) (fun v30 w76 r30=>?_)));obtain ⟨e76,r30⟩:=r30;obtain ⟨fp30,H77⟩:=H3.res e76 r30;obtain ⟨a30,k30,q31⟩:=an (H77.mine 2 Z);cases q31;refine dV Z Z (fun zw hx=>ag aD Z cG Z Z) (dC func62 bd Z (aQ (H77.sees 1 Z) ω) (fun v31 w77 r31=>?_));obtain ⟨e77,r31⟩:=r31;obtain ⟨fp31,H78⟩:=H77.res e77 r31;obtain ⟨a31,k31,q32⟩:=an (H78.mine 3 Z);cases q32;refine dC func62 bd Z (aQ (H78.sees 2 Z) ω) (fun v32 w78 r32=>?_);obtain ⟨e78,r32⟩:=r32;obtain ⟨fp32,H79⟩:=H78.res e78 r32;obtain ⟨a32,k32,q33⟩:=an (H79.mine 4 Z);cases q33;refine bQ Z ah cG Z Z Z H79 0 Z Z (fun _ h e _=>h.trans (e.mono fun _ _ q=>by simp [q])) (fun w79 e79 H80=>?_);dsimp only[lNA,lCA,lSZ,lSS,aI] at H80;refine dV Z Z (fun zw hx=>ag aD Z bf Z Z) (bQ Z ah bf Z Z Z H80 0 Z Z (fun _ h e _=>h.trans (e.mono fun _ _ q=>by simp [q])) (fun w80 e80 H81=>?_));dsimp only[lNA,lCA,lSZ,lSS,aI] at H81;refine dV Z Z (fun zw hx=>ag aD Z bf Z Z) (bQ Z ah bf Z Z Z H81 0 Z Z (fun _ h e _=>h.trans (e.mono fun _ _ q=>by simp [q])) (fun w81 e81 H82=>?_));dsimp only[lNA,lCA,lSZ,lSS,aI] at H82;refine bb (ac (sV Z (ak aD Z aO Z Z (At.whole (H82.box 0 Z))) (aF ah aO Z Z Z Z H82 1 Z Z (fun w82 e82 H83=>?_))));dsimp only[lNA,lCA,lSZ,lSS,aI] at H83;refine aa (bc (hQ _ _ (cp results173 Z (ay aD Z aO Z (At.whole (H83.box 1 Z))) ?_)));exact ⟨H83.ext,_,_,_,_,_,_,Z,Rec.out (H83.sub (.cons _ (.cons _ (.cons_cons _ (.cons_cons _ (.cons_cons _ List.Sublist.slnil)))))) η⟩
 ·refine aW Z ah Z Z (aj aZ Z Z (al (H3.box 0 Z) Z)) (dF Z ?_ ?_)
  ·refine aW Z ah Z Z (aj bH Z Z (al (H3.box 0 Z) Z)) (dF Z ?_ ?_)
   ·refine dC func103 dH Z (cP (H3.sees 0 Z) ω) (fun v33 w83 r33=>?_);obtain ⟨e83,r33⟩:=r33;obtain ⟨fp33,H84⟩:=H3.res e83 r33;obtain ⟨a33,k33,q34⟩:=an (H84.mine 2 Z);cases q34;refine aW Z ah Z Z (aj aZ Z Z (al (H84.box 0 Z) Z)) (dV Z Z (fun zw hx=>ag aD Z cG Z Z) (dC func62 bd Z (aQ (H84.sees 1 Z) ω) (fun v34 w84 r34=>?_)));obtain ⟨e84,r34⟩:=r34;obtain ⟨fp34,H85⟩:=H84.res e84 r34;obtain ⟨a34,k34,q35⟩:=an (H85.mine 3 Z);cases q35;refine dC func62 bd Z (aQ (H85.sees 2 Z) ω) (fun v35 w85 r35=>?_);obtain ⟨e85,r35⟩:=r35;obtain ⟨fp35,H86⟩:=H85.res e85 r35;obtain ⟨a35,k35,q36⟩:=an (H86.mine 4 Z);cases q36;refine bQ Z ah cG Z Z Z H86 0 Z Z (fun _ h e _=>h.trans (e.mono fun _ _ q=>by simp [q])) (fun w86 e86 H87=>?_);dsimp only[lNA,lCA,lSZ,lSS,aI] at H87;refine dV Z Z (fun zw hx=>ag aD Z bf Z Z) (bQ Z ah bf Z Z Z H87 0 Z Z (fun _ h e _=>h.trans (e.mono fun _ _ q=>by simp [q])) (fun w87 e87 H88=>?_));dsimp only[lNA,lCA,lSZ,lSS,aI] at H88;refine dV Z Z (fun zw hx=>ag aD Z bf Z Z) (bQ Z ah bf Z Z Z H88 0 Z Z (fun _ h e _=>h.trans (e.mono fun _ _ q=>by simp [q])) (fun w88 e88 H89=>?_));dsimp only[lNA,lCA,lSZ,lSS,aI] at H89;refine bb (ac (sV Z (ak aD Z aO Z Z (At.whole (H89.box 0 Z))) (aF ah aO Z Z Z Z H89 1 Z Z (fun w89 e89 H90=>?_))));dsimp only[lNA,lCA,lSZ,lSS,aI] at H90;refine aa (bc (hQ _ _ (cp results173 Z (ay aD Z aO Z (At.whole (H90.box 1 Z))) ?_)));exact ⟨H90.ext,_,_,_,_,_,_,Z,Rec.out (H90.sub (.cons _ (.cons _ (.cons_cons _ (.cons_cons _ (.cons_cons _ List.Sublist.slnil)))))) η⟩
   ·refine aW Z ah Z Z (aj aZ Z Z (al (H3.box 0 Z) Z)) (dC func103 dH Z (cP (H3.sees 0 Z) ω) (fun v36 w90 r36=>?_));obtain ⟨e90,r36⟩:=r36;obtain ⟨fp36,H91⟩:=H3.res e90 r36;obtain ⟨a36,k36,q37⟩:=an (H91.mine 2 Z);cases q37;refine dV Z Z (fun zw hx=>ag aD Z cG Z Z) (dC func62 bd Z (aQ (H91.sees 1 Z) ω) (fun v37 w91 r37=>?_));obtain ⟨e91,r37⟩:=r37;obtain ⟨fp37,H92⟩:=H91.res e91 r37;obtain ⟨a37,k37,q38⟩:=an (H92.mine 3 Z);cases q38;refine dC func62 bd Z (aQ (H92.sees 2 Z) ω) (fun v38 w92 r38=>?_);obtain ⟨e92,r38⟩:=r38;obtain ⟨fp38,H93⟩:=H92.res e92 r38;obtain ⟨a38,k38,q39⟩:=an (H93.mine 4 Z);cases q39;refine bQ Z ah cG Z Z Z H93 0 Z Z (fun _ h e _=>h.trans (e.mono fun _ _ q=>by simp [q])) (fun w93 e93 H94=>?_);dsimp only[lNA,lCA,lSZ,lSS,aI] at H94;refine dV Z Z (fun zw hx=>ag aD Z bf Z Z) (bQ Z ah bf Z Z Z H94 0 Z Z (fun _ h e _=>h.trans (e.mono fun _ _ q=>by simp [q])) (fun w94 e94 H95=>?_));dsimp only[lNA,lCA,lSZ,lSS,aI] at H95;refine dV Z Z (fun zw hx=>ag aD Z bf Z Z) (bQ Z ah bf Z Z Z H95 0 Z Z (fun _ h e _=>h.trans (e.mono fun _ _ q=>by simp [q])) (fun w95 e95 H96=>?_));dsimp only[lNA,lCA,lSZ,lSS,aI] at H96;refine bb (ac (sV Z (ak aD Z aO Z Z (At.whole (H96.box 0 Z))) (aF ah aO Z Z Z Z H96 1 Z Z (fun w96 e96 H97=>?_))));dsimp only[lNA,lCA,lSZ,lSS,aI] at H97;refine aa (bc (hQ _ _ (cp results173 Z (ay aD Z aO Z (At.whole (H97.box 1 Z))) ?_)));exact ⟨H97.ext,_,_,_,_,_,_,Z,Rec.out (H97.sub (.cons _ (.cons _ (.cons_cons _ (.cons_cons _ (.cons_cons _ List.Sublist.slnil)))))) η⟩
  ·refine aW Z ah Z Z (aj aZ Z Z (al (H3.box 0 Z) Z)) (aW Z ah Z Z (aj bH Z Z (al (H3.box 0 Z) Z)) (dC func103 dH Z (cP (H3.sees 0 Z) ω) (fun v39 w97 r39=>?_)));obtain ⟨e97,r39⟩:=r39;obtain ⟨fp39,H98⟩:=H3.res e97 r39;obtain ⟨a39,k39,q40⟩:=an (H98.mine 2 Z);cases q40;refine dV Z Z (fun zw hx=>ag aD Z cG Z Z) (dC func62 bd Z (aQ (H98.sees 1 Z) ω) (fun v40 w98 r40=>?_));obtain ⟨e98,r40⟩:=r40;obtain ⟨fp40,H99⟩:=H98.res e98 r40;obtain ⟨a40,k40,q41⟩:=an (H99.mine 3 Z);cases q41;refine dC func62 bd Z (aQ (H99.sees 2 Z) ω) (fun v41 w99 r41=>?_);obtain ⟨e99,r41⟩:=r41;obtain ⟨fp41,H100⟩:=H99.res e99 r41;obtain ⟨a41,k41,q42⟩:=an (H100.mine 4 Z);cases q42;refine bQ Z ah cG Z Z Z H100 0 Z Z (fun _ h e _=>h.trans (e.mono fun _ _ q=>by simp [q])) (fun w100 e100 H101=>?_);dsimp only[lNA,lCA,lSZ,lSS,aI] at H101;refine dV Z Z (fun zw hx=>ag aD Z bf Z Z) (bQ Z ah bf Z Z Z H101 0 Z Z (fun _ h e _=>h.trans (e.mono fun _ _ q=>by simp [q])) (fun w101 e101 H102=>?_));dsimp only[lNA,lCA,lSZ,lSS,aI] at H102;refine dV Z Z (fun zw hx=>ag aD Z bf Z Z) (bQ Z ah bf Z Z Z H102 0 Z Z (fun _ h e _=>h.trans (e.mono fun _ _ q=>by simp [q])) (fun w102 e102 H103=>?_));dsimp only[lNA,lCA,lSZ,lSS,aI] at H103;refine bb (ac (sV Z (ak aD Z aO Z Z (At.whole (H103.box 0 Z))) (aF ah aO Z Z Z Z H103 1 Z Z (fun w103 e103 H104=>?_))));dsimp only[lNA,lCA,lSZ,lSS,aI] at H104;refine aa (bc (hQ _ _ (cp results173 Z (ay aD Z aO Z (At.whole (H104.box 1 Z))) ?_)));exact ⟨H104.ext,_,_,_,_,_,_,Z,Rec.out (H104.sub (.cons _ (.cons _ (.cons_cons _ (.cons_cons _ (.cons_cons _ List.Sublist.slnil)))))) η⟩
theorem nH {w:World}{xs:List Rec}{xsA:Option Addr}{xsC:Nat}(xsS:Sees w [.slice xsA xs.length xsC] xs) (hl:szL ff xs≤1048576):Ret Tryz.prog 105 #[.slice xsA xs.length xsC] w fun v w'=>Ext No w w'∧(Res w w' [v] xs):=by
 have xsL:=sL xsS;obtain ⟨xsF,xsO⟩:=xsS;have hl0:xs.length≤1048576:=by unfold szL at hl; omega
 refine aH func105 Z ntmps105 Z (fun Q hQ hN=>?_);have H0:=Sep.start (ab xsO aA);refine ac (sA Z Z (aa (ac (eZ (α:=Rec) ah Z br dm H0 (fun b1 w1 e1 g1 H1=>sA Z Z (aa (ae (ac (sM Z Z (sV Z (aS br Z) (sM Z Z (aa (ax (iT (α:=Rec) (γ:=Nat) (fun k=>xs.take k) 0 H1 0 Z 3 Z [(2,_),(7,_),(8,_)] ⟨Z,Z,Z,trivial⟩ (fun k=>[(9,.int .i64 k)]) (fun k=>k≤xs.length∧True) (fun k=>xs.length-k) ⟨Z,trivial⟩ ⟨ω,trivial⟩ (fun k vA1 fA1 w2 H2 ⟨hk,_⟩=>?_)))))))))))))));dsimp only[lCA,lNA,lSZ,lSS] at H2 ⊢;refine ac (sV Z (aX Z Z) (aa (ae (aC Z (fun c1=>?_) (fun c1=>?_)))))
 ·refine au (ae (ax (ae ?_)));obtain ⟨hg,hg2⟩:=l0 hl k ω;have tl:=List.length_take (i:=k) (l:=xs);obtain ⟨eb1,eo1,es1,ef1,ee1,ec1,eO1,eH1,em1⟩:=dr (H2.seen 0 Z) k ω;obtain ⟨ea1,ek1,ea2,ek2,ea3,ek3,eg1,eg2,eg3,rfl,eq1,eK1,eo2,eo3,eo4⟩:=l5 eO1;have eK1U:=eK1;unfold Rec.Ok at eK1U
  try unfold I64ok at eK1U
  try unfold maxLen at eK1U
  have eP1:=H2.look1 0 Z eo2 (fun b hb=>eH1 b (by rw [eq1]; simp [hb]));have eL1:=oL eo2;have eP2:=eP1.look1 0 Z eo3 (fun b hb=>eH1 b (by rw [eq1]; simp [hb]));have eL2:=oL eo3;have eP3:=eP2.look1 0 Z eo4 (fun b hb=>eH1 b (by rw [eq1]; simp [hb]));have eL3:=oL eo4;refine am (sV Z (aB br aO Z Z ee1 k ω ω) (sV Z (ak aD Z aO Z Z ec1) (bB ah Z zeroValue59 eP3 (fun b2 w3 e2 g2 H3=>aF ah aO Z Z Z Z H3 1 Z Z (fun w4 e3 H4=>?_)))));dsimp only[lNA,lCA,lSZ,lSS,aI] at H4;refine aa (am (sM Z Z (sV Z (ak aD Z aO Z Z (At.whole (H4.box 1 Z))) (sC func173 lz Z (eV η (H4.sees 1 Z) (H4.sees 2 Z) (H4.sees 3 Z) ξ) (fun v1 w5 r1=>?_)))));obtain ⟨e4,sa1,sk1,sa2,sk2,sa3,sk3,rfl,r1⟩:=r1;obtain ⟨fp1,H5⟩:=H4.res e4 r1;refine eB ah Z br dm Z Z Z Z H5 (fun b3 w6 e5 g3 H6=>ma ah Z br dm Z Z Z H6 0 3 2 Z Z Z Z (by unfold maxLen; omega) ω (fun v2 w7 fp2 H7=>sA Z Z (aa (am (sV Z (aE Z Z iO) (sM Z Z (aa ?_)))))));exact ⟨(k+1,_,_),⟨Z,Z,Z,Z,Z,trivial⟩,⟨by dsimp only; rw [← kU (xs:=xs) (d:=default) ω]; exact ((H7.ftake 1).dtake 1),ω,trivial⟩,θ⟩
 ·refine aT (ae ?_);obtain rfl:k=xs.length:=by omega
  rw [List.take_length] at H2;refine am (sR 2 Z (rN hQ results105 Z ?_));exact ⟨H2.ext,H2.out 0 Z⟩
theorem mX {w:World}{x:Drive}{xA1:Option Addr}{xC1:Nat}(xK:x.Ok) (xS1:Sees w [.slice xA1 x.Blocks.length xC1] x.Blocks) (hb:kv x≤1048576):Ret Tryz.prog 104 #[x.val xA1 xC1] w fun v w'=>Ext No w w'∧(∃ A1 C1,v=x.val A1 C1∧Res w w' [.bool x.Wiped,.slice A1 x.Blocks.length C1] x):=by
 have xK2:=xK;unfold Drive.Ok at xK2
 try unfold I64ok at xK2
 try unfold maxLen at xK2
 have xL1:=sL xS1;obtain ⟨xF1,xO1⟩:=xS1;unfold kv at hb;have hl0:x.Blocks.length≤1048576:=by unfold szL at hb; omega
 refine aH func104 Z ntmps104 Z (fun Q hQ hN=>?_);have H0:=Sep.start (ab xO1 aA);refine ac (bu ah Z Z H0 (fun b1 w1 e1 g1 H1=>bB ah Z zeroValue72 H1 (fun b2 w2 e2 g2 H2=>aa (ac (sF iz Z ts4 (sLd tu4 (H2.box 0 Z) Z (sV Z (aP nt Z Z) (bB ah Z zeroValue72 H2 (fun b3 w3 e3 g3 H3=>aF ah gD Z Z Z Z H3 2 Z Z (fun w4 e4 H4=>?_))))))))));dsimp only[lNA,lCA,lSZ,lSS,aI] at H4;refine aa (ae (ac (sF iz Z rH (sLd iy (H4.box 0 Z) Z (sV Z (aS iy Z) (sM Z Z (aa (ax ?_))))))));have H6:=H4.nilW (α:=Block)
 try dsimp only[lNA,lCA,lSZ,lSS] at H6
 refine pj (α:=Block) (γ:=Nat) (fun k=>x.Blocks.take k) 0 H6 3 2 1 Z Z Z Z [(2,_),(3,_),(10,_),(11,_)] ⟨Z,Z,Z,Z,trivial⟩ (fun k=>[(12,.int .i64 k)]) (fun k=>k≤x.Blocks.length∧True) (fun k=>x.Blocks.length-k) ⟨Z,trivial⟩ ⟨ω,trivial⟩ (fun k vA1 fA1 w5 H5 ⟨hk,_⟩=>?_);dsimp only[lCA,lNA,lSZ,lSS] at H5 ⊢;refine ac (sV Z (aX Z Z) (aa (ae (aC Z (fun c1=>?_) (fun c1=>?_)))))
 ·refine au (ae (ax (ae ?_)));obtain ⟨hg,hg2⟩:=l0 hb k ω;unfold By at hg;have tl:=List.length_take (i:=k) (l:=x.Blocks);obtain ⟨eb1,eo1,es1,ef1,ee1,ec1,eO1,eH1,em1⟩:=dr (H5.seen 0 Z) k ω;obtain ⟨ea1,ek1,eg1,rfl,eq1,eK1,eo2⟩:=kV eO1;have eK1U:=eK1;unfold Block.Ok at eK1U
  try unfold I64ok at eK1U
  try unfold maxLen at eK1U
  have eP1:=H5.look1 0 Z eo2 (fun b hb=>eH1 b (by rw [eq1]; simp [hb]));have eL1:=oL eo2;refine am (sV Z (aB iy gc Z Z ee1 k ω ω) (sV Z (ak jh Z gc Z Z ec1) (bB ah Z zeroValue116 eP1 (fun b4 w6 e5 g4 H7=>aF ah gc Z Z Z Z H7 4 Z Z (fun w7 e6 H8=>?_)))));dsimp only[lNA,lCA,lSZ,lSS,aI] at H8;refine aa (cb (S:=Ext (· ∈ fA1) _) (oQ [1,3,5,7,9,11,12,15,16,18,21,22]) κ κ κ Z (fun _=>Ext.refl.drawn _) (fun q1=>?_));have H9:=H8.drawn q1;refine dV Z Z (fun zw hx=>ag iz Z rH Z Z) (dV Z Z (fun zw hx=>aj iy Z Z (al (hx.heapM (H9.boff 2 Z 3 Z Z) (H9.box 2 Z)) Z)) (dV Z Z (fun zw hx=>ag jh Z ts2 Z Z) (dV Z Z (fun zw hx=>aj tu2 Z Z (al (hx.heapM (H9.boff 4 Z 3 Z Z) (H9.box 4 Z)) Z)) (dV Z Z (fun zw hx=>ag jh Z bf Z Z) (dV Z Z (fun zw hx=>aj aZ Z Z (al (hx.heapM (H9.boff 4 Z 3 Z Z) (H9.box 4 Z)) Z)) (dC func62 bd Z (aQ (H9.sees 1 Z) ω) (fun v1 w8 r1=>?_)))))));obtain ⟨e7,r1⟩:=r1;obtain ⟨fp1,H10⟩:=H9.res e7 r1;obtain ⟨a1,k1,q2⟩:=an (H10.mine 5 Z);cases q2;refine dV Z Z (fun zw hx=>aP gz Z Z) (n7 Z ah Z iy oP Z Z Z Z H10 (fun _ h e=>h.trans e.no) (fun b5 w9 e8 g5 H11=>?_));have H12:=H11.asSt 5 ((x.Blocks.getD k default):Block) Z (Block.own_mk (x:=(x.Blocks.getD k default)) η (H11.mine 5 Z))
  try dsimp only[lNA,lCA,lSZ,lSS] at H12
  refine t4 Z ah Z iy oP Z Z Z H12 3 6 5 Z Z Z Z (by unfold maxLen; omega) ω (fun _ h e=>h.trans e) (fun v2 w10 fp2 H13=>dV Z Z (fun zw hx=>ag iz Z rH Z Z) ?_);obtain ⟨a2,k2,q3⟩:=an (H13.mine 3 Z);cases q3;refine bQ Z ah rH Z Z Z H13 2 Z Z (fun _ _ _ hr=>absurd Z hr) (fun w11 e9 H14=>?_);dsimp only[lNA,lCA,lSZ,lSS,aI] at H14;refine bb (am (sV Z (aE Z Z iO) (sM Z Z (aa ?_))));exact ⟨(k+1,_,_),⟨Z,Z,Z,Z,Z,trivial⟩,⟨by dsimp only; rw [← kU (xs:=x.Blocks) (d:=default) ω]; exact ((H14.ftake 1).dtake 4),ω,trivial⟩,θ⟩
 ·refine aT (ae ?_);obtain rfl:k=x.Blocks.length:=by omega
  rw [List.take_length] at H5;refine am (sV Z (ak iz Z gD Z Z (At.whole (H5.box 2 Z))) ?_);obtain ⟨a3,k3,q4⟩:=an (H5.mine 3 Z);cases q4;refine aF ah gD Z Z Z Z H5 1 Z Z (fun w12 e10 H15=>?_);dsimp only[lNA,lCA,lSZ,lSS,aI] at H15;refine aa (bc (hQ _ _ (cp results104 Z (ay iz Z gD Z (At.whole (H15.box 1 Z))) ?_)));exact ⟨H15.ext,_,_,Z,Drive.out (H15.sub (.cons _ (.cons _ (.cons _ (.cons_cons _ List.Sublist.slnil))))) η⟩
theorem bU {w:World}{z:Wld}{zA9 zA10 zA11:Option Addr}{zC9 zC10 zC11:Nat}(zK:z.Ok) (zS9:Sees w [.slice zA9 z.Groups.length zC9] z.Groups) (zS10:Sees w [.slice zA10 z.On.length zC10] z.On) (zS11:Sees w [.slice zA11 z.Tapes.length zC11] z.Tapes) (hb:eC z≤1048576):Ret Tryz.prog 48 #[z.val zA9 zC9 zA10 zC10 zA11 zC11] w fun v w'=>Ext No w w'∧(∃ A9 C9 A10 C10 A11 C11,v=z.val A9 C9 A10 C10 A11 C11∧Res w w' [.int .i64 z.Shape.Groups,.int .i64 z.Shape.Column,.int .i64 z.Shape.Data,.int .i64 z.Shape.Spare,.int .i64 z.Shape.Rows,.int .i64 z.Shape.Cap,.int .i64 z.Shape.Batch,.int .i64 z.Shape.Queue,.int .i64 z.Shape.Stage,.slice A9 z.Groups.length C9,.slice A10 z.On.length C10,.slice A11 z.Tapes.length C11,.int .i64 z.Writes,.int .i64 z.Stop,.bool z.Down] z):=by
 have zK2:=zK;unfold Wld.Ok Shape.Ok at zK2
 try unfold I64ok at zK2
 try unfold maxLen at zK2
 have zL9:=sL zS9;obtain ⟨zF9,zO9⟩:=zS9;have zL10:=sL zS10;obtain ⟨zF10,zO10⟩:=zS10;have zL11:=sL zS11;obtain ⟨zF11,zO11⟩:=zS11;have hcu:eC z=szL (szL kv) z.Groups+z.On.length+szL mD z.Tapes:=Z;have hg0:szL (szL kv) z.Groups≤1048576:=by omega
 have ht0:szL mD z.Tapes≤1048576:=by omega
 have hgl:z.Groups.length≤1048576:=by unfold szL at hg0; omega
 have htl:z.Tapes.length≤1048576:=by unfold szL at ht0; omega
 refine aH func48 Z ntmps48 Z (fun Q hQ hN=>?_);have H0:=Sep.start (ab zO9 (ab zO10 (ab zO11 aA)));refine ac (bu ah Z Z H0 (fun b1 w1 e1 g1 H1=>bB ah Z zeroValue31 H1 (fun b2 w2 e2 g2 H2=>aa (ac (sV Z (ak be Z cy Z Z (At.whole (H2.box 0 Z))) (bB ah Z zeroValue31 H2 (fun b3 w3 e3 g3 H3=>aF ah cy Z Z Z Z H3 2 Z Z (fun w4 e4 H4=>?_))))))));dsimp only[lNA,lCA,lSZ,lSS,aI] at H4;refine aa (ac (sF be Z cG (sLd bH (H4.box 0 Z) Z (sC func103 dH Z (cP (H4.sees 1 Z) ω) (fun v1 w5 r1=>?_)))));obtain ⟨e5,r1⟩:=r1;obtain ⟨fp1,H5⟩:=H4.res e5 r1;obtain ⟨a1,k1,q1⟩:=an (H5.mine 3 Z);cases q1;refine sF be Z kh (fm ah kh Z Z Z H5 2 Z Z (fun w6 e6 H6=>?_));dsimp only[lNA,lCA,lSZ,lSS,aI] at H6;refine sF be Z cG (fm ah cG Z Z Z H6 2 Z Z (fun w7 e7 H7=>?_));dsimp only[lNA,lCA,lSZ,lSS,aI] at H7;refine sF be Z pm (fm ah pm Z Z Z H7 2 Z Z (fun w8 e8 H8=>?_));dsimp only[lNA,lCA,lSZ,lSS,aI] at H8;refine aa (ae (ac (sF be Z kh (sLd fW (H8.box 0 Z) Z (sV Z (aS fW Z) (sM Z Z (aa (ax ?_))))))));have H10:=H8.nilW (α:=(List Drive))
 try dsimp only[lNA,lCA,lSZ,lSS] at H10
 refine pj (α:=(List Drive)) (γ:=Nat) (fun k=>z.Groups.take k) 0 H10 4 2 9 Z Z Z Z [(1,_),(2,_),(3,_),(19,_),(20,_)] ⟨Z,Z,Z,Z,Z,trivial⟩ (fun k=>[(21,.int .i64 k)]) (fun k=>k≤z.Groups.length∧True) (fun k=>z.Groups.length-k) ⟨Z,trivial⟩ ⟨ω,trivial⟩ (fun k vA1 fA1 w9 H9 ⟨hk,_⟩=>?_);dsimp only[lCA,lNA,lSZ,lSS] at H9 ⊢;refine ac (sV Z (aX Z Z) (aa (ae (aC Z (fun c1=>?_) (fun c1=>?_)))))
 ·refine au (ae (ax (ae ?_)));have hgk:szL kv (z.Groups.getD k [])≤1048576:=(l0 hg0 k ω).1;have hgkl:(z.Groups.getD k []).length≤1048576:=by unfold szL at hgk; omega
  have tlg:=List.length_take (i:=k) (l:=z.Groups);obtain ⟨eb1,eo1,ea1,ek1,ef1,ee1,ec1,eO1,eH1⟩:=fo (H9.seen 0 Z) k ω;have eP1:=H9.look1 0 Z eO1 eH1;refine am (sV Z (aB fW ud Z Z ee1 k ω ω) (sV Z (aj fl Z Z ec1) (sA Z Z (aa (ac (eZ (α:=Drive) ah Z fl fL eP1 (fun b4 w10 e9 g4 H11=>sA Z Z (aa (ae (ac (sM Z Z (sV Z (aS fl Z) (sM Z Z (aa (ax (iT (α:=Drive) (γ:=Nat) (fun m2=>(z.Groups.getD k []).take m2) 0 H11 5 Z 6 Z [(1,_),(2,_),(3,_),(19,_),(20,_),(21,_),(26,_),(27,_)] ⟨Z,Z,Z,Z,Z,Z,Z,Z,trivial⟩ (fun m2=>[(28,.int .i64 m2)]) (fun m2=>m2≤(z.Groups.getD k []).length∧True) (fun m2=>(z.Groups.getD k []).length-m2) ⟨Z,trivial⟩ ⟨ω,trivial⟩ (fun m2 vA2 fA2 w11 H12 ⟨hm2,_⟩=>?_)))))))))))))))));dsimp only[lCA,lNA,lSZ,lSS] at H12 ⊢;refine ac (sV Z (aX Z Z) (aa (ae (aC Z (fun c2=>?_) (fun c2=>?_)))))
  ·refine au (ae (ax (ae ?_)));have hdk:kv ((z.Groups.getD k []).getD m2 default)≤1048576:=(l0 hgk m2 ω).1;have tld:=List.length_take (i:=m2) (l:=(z.Groups.getD k []));obtain ⟨eb2,eo2,es1,ef2,ee2,ec2,eO2,eH2,em1⟩:=dr (H12.seen 3 Z) m2 ω;obtain ⟨ea2,ek2,eg1,rfl,eq1,eK1,eo3⟩:=jB eO2;have eP2:=H12.look1 3 Z eo3 (fun b hb=>eH2 b (by rw [eq1]; simp [hb]));have eL1:=oL eo3;refine am (sV Z (aB fl gD Z Z ee2 m2 ω ω) (sV Z (ak iz Z gD Z Z ec2) (bB ah Z zeroValue72 eP2 (fun b5 w12 e10 g5 H13=>aF ah gD Z Z Z Z H13 6 Z Z (fun w13 e11 H14=>?_)))));dsimp only[lNA,lCA,lSZ,lSS,aI] at H14;refine aa (am (sM Z Z (sV Z (ak iz Z gD Z Z (At.whole (H14.box 6 Z))) (sC func104 yQ Z (mX η (H14.sees 4 Z) ξ) (fun v2 w14 r2=>?_)))));obtain ⟨e12,sa1,sk1,rfl,r2⟩:=r2;obtain ⟨fp2,H15⟩:=H14.res e12 r2;refine eB ah Z fl fL Z Z Z Z H15 (fun b6 w15 e13 g6 H16=>ma ah Z fl fL Z Z Z H16 5 8 7 Z Z Z Z (by unfold maxLen; omega) ω (fun v3 w16 fp3 H17=>sA Z Z (aa (am (sV Z (aE Z Z iO) (sM Z Z (aa ?_)))))));exact ⟨(m2+1,_,_),⟨Z,Z,Z,Z,Z,Z,Z,Z,Z,Z,trivial⟩,⟨by dsimp only; rw [← kU (xs:=(z.Groups.getD k [])) (d:=default) ω]; exact ((H17.ftake 4).dtake 6),ω,trivial⟩,θ⟩
  ·refine aT ?_;obtain rfl:m2=(z.Groups.getD k []).length:=by omega
   rw [List.take_length] at H12;refine am (sF be Z kh (sLd fW (H12.box 2 Z) Z (sM Z Z ?_)));obtain ⟨a2,k2,q2⟩:=an (H12.mine 5 Z);cases q2;refine eB ah Z fW jD Z Z Z Z H12 (fun b7 w17 e14 g7 H18=>ma ah Z fW jD Z Z Z H18 4 6 5 Z Z Z Z (by unfold maxLen; omega) ω (fun v4 w18 fp4 H19=>sV Z (ag be Z kh Z Z) ?_));obtain ⟨a3,k3,q3⟩:=an (H19.mine 4 Z);cases q3;refine fm ah kh Z Z Z H19 2 Z Z (fun w19 e15 H20=>?_);dsimp only[lNA,lCA,lSZ,lSS,aI] at H20;refine aa (am (sV Z (aE Z Z iO) (sM Z Z (aa ?_))));exact ⟨(k+1,_,_),⟨Z,Z,Z,Z,Z,Z,trivial⟩,⟨by dsimp only; rw [← kU (xs:=z.Groups) (d:=[]) ω]; exact ((H20.ftake 3).dtake 5),ω,trivial⟩,θ⟩
 ·refine aT (ae (ae ?_));obtain rfl:k=z.Groups.length:=by omega
  rw [List.take_length] at H9;refine am (sF be Z pm (sLd jk (H9.box 0 Z) Z (sV Z (aS jk Z) (sM Z Z (aa (ax ?_))))));have H22:=H9.nilW (α:=Tape)
  try dsimp only[lNA,lCA,lSZ,lSS] at H22
  refine pj (α:=Tape) (γ:=Nat) (fun k=>z.Tapes.take k) 0 H22 5 2 11 Z Z Z Z [(2,_),(3,_),(46,_),(47,_)] ⟨Z,Z,Z,Z,trivial⟩ (fun k=>[(48,.int .i64 k)]) (fun k=>k≤z.Tapes.length∧True) (fun k=>z.Tapes.length-k) ⟨Z,trivial⟩ ⟨ω,trivial⟩ (fun k vA3 fA3 w20 H21 ⟨hk,_⟩=>?_);dsimp only[lCA,lNA,lSZ,lSS] at H21 ⊢;refine ac (sV Z (aX Z Z) (aa (ae (aC Z (fun c3=>?_) (fun c3=>?_)))))
  ·refine au (ae (ax (ae ?_)));have htk:mD (z.Tapes.getD k default)≤1048576:=(l0 ht0 k ω).1;unfold mD at htk;have tlt:=List.length_take (i:=k) (l:=z.Tapes);obtain ⟨eb3,eo4,es2,ef3,ee3,ec3,eO3,eH3,em2⟩:=dr (H21.seen 2 Z) k ω;obtain ⟨ea3,ek3,eg2,rfl,eq2,eK2,eo5⟩:=jZ eO3;have eP3:=H21.look1 2 Z eo5 (fun b hb=>eH3 b (by rw [eq2]; simp [hb]));have eL2:=oL eo5;refine am (sV Z (aB jk kp Z Z ee3 k ω ω) (sV Z (ak gK Z kp Z Z ec3) (bB ah Z zeroValue121 eP3 (fun b8 w21 e16 g8 H23=>aF ah kp Z Z Z Z H23 6 Z Z (fun w22 e17 H24=>?_)))));dsimp only[lNA,lCA,lSZ,lSS,aI] at H24;refine aa (cb (S:=Ext (· ∈ fA3) _) (oQ [1,3,5,7,9,11,12,15,16,18,21,22]) κ κ κ Z (fun _=>Ext.refl.drawn _) (fun q4=>?_));have H25:=H24.drawn q4;refine dV Z Z (fun zw hx=>ag be Z pm Z Z) (dV Z Z (fun zw hx=>aj jk Z Z (al (hx.heapM (H25.boff 2 Z 5 Z Z) (H25.box 2 Z)) Z)) (dV Z Z (fun zw hx=>ag gK Z ts4 Z Z) (dV Z Z (fun zw hx=>aj tu4 Z Z (al (hx.heapM (H25.boff 6 Z 5 Z Z) (H25.box 6 Z)) Z)) (dV Z Z (fun zw hx=>ag gK Z jS Z Z) (dV Z Z (fun zw hx=>aj br Z Z (al (hx.heapM (H25.boff 6 Z 5 Z Z) (H25.box 6 Z)) Z)) (dC func105 yV Z (nH (H25.sees 3 Z) ξ) (fun v5 w23 r3=>?_)))))));obtain ⟨e18,r3⟩:=r3;obtain ⟨fp5,H26⟩:=H25.res e18 r3;obtain ⟨a4,k4,q5⟩:=an (H26.mine 7 Z);cases q5;refine dV Z Z (fun zw hx=>aP yS Z Z) (n7 Z ah Z jk lW Z Z Z Z H26 (fun _ h e=>h.trans e.no) (fun b9 w24 e19 g9 H27=>?_));have H28:=H27.asSt 7 ((z.Tapes.getD k default):Tape) Z (Tape.own_mk (x:=(z.Tapes.getD k default)) η (H27.mine 7 Z))
   try dsimp only[lNA,lCA,lSZ,lSS] at H28
   refine t4 Z ah Z jk lW Z Z Z H28 5 8 7 Z Z Z Z (by unfold maxLen; omega) ω (fun _ h e=>h.trans e) (fun v6 w25 fp6 H29=>dV Z Z (fun zw hx=>ag be Z pm Z Z) ?_);obtain ⟨a5,k5,q6⟩:=an (H29.mine 5 Z);cases q6;refine bQ Z ah pm Z Z Z H29 2 Z Z (fun _ _ _ hr=>absurd Z hr) (fun w26 e20 H30=>?_);dsimp only[lNA,lCA,lSZ,lSS,aI] at H30;refine bb (am (sV Z (aE Z Z iO) (sM Z Z (aa ?_))));exact ⟨(k+1,_,_),⟨Z,Z,Z,Z,Z,trivial⟩,⟨by dsimp only; rw [← kU (xs:=z.Tapes) (d:=default) ω]; exact ((H30.ftake 3).dtake 6),ω,trivial⟩,θ⟩
  ·refine aT (ae ?_);obtain rfl:k=z.Tapes.length:=by omega
   rw [List.take_length] at H21;refine am (sV Z (ak be Z cy Z Z (At.whole (H21.box 2 Z))) ?_);obtain ⟨a6,k6,q7⟩:=an (H21.mine 4 Z);cases q7;obtain ⟨a7,k7,q8⟩:=an (H21.mine 5 Z);cases q8;refine aF ah cy Z Z Z Z H21 1 Z Z (fun w27 e21 H31=>?_);dsimp only[lNA,lCA,lSZ,lSS,aI] at H31;refine aa (bc (hQ _ _ (cp results48 Z (ay be Z cy Z (At.whole (H31.box 1 Z))) ?_)));exact ⟨H31.ext,_,_,_,_,_,_,Z,Wld.out ((H31.sub (.cons _ (.cons _ (.cons _ (.cons_cons _ (.cons_cons _ (.cons_cons _ List.Sublist.slnil))))))).perm (.swap _ _ _)) η⟩
end Go.Wk
namespace Go.Wk
open Go.Proofs Rp Go.Proofs.Tryz
set_option maxRecDepth 10000
theorem ep {w:World}{zb zC9 zC10 zC11:Nat}{z:Wld}{zA9 zA10 zA11:Option Addr}(zB:w.heap[zb]? = some (.cells [.int .i64 z.Shape.Groups,.int .i64 z.Shape.Column,.int .i64 z.Shape.Data,.int .i64 z.Shape.Spare,.int .i64 z.Shape.Rows,.int .i64 z.Shape.Cap,.int .i64 z.Shape.Batch,.int .i64 z.Shape.Queue,.int .i64 z.Shape.Stage,.slice zA9 z.Groups.length zC9,.slice zA10 z.On.length zC10,.slice zA11 z.Tapes.length zC11,.int .i64 z.Writes,.int .i64 z.Stop,.bool z.Down].toArray 31)) (zK:z.Ok) (zS9:Sees w [.slice zA9 z.Groups.length zC9] z.Groups) (zS10:Sees w [.slice zA10 z.On.length zC10] z.On) (zS11:Sees w [.slice zA11 z.Tapes.length zC11] z.Tapes) (hT:z.Tapes.length=2):Ret Tryz.prog 122 #[.pointer (some ⟨zb,0,none⟩)] w fun v w'=>Ext No w w'∧(v = .int .i64 (nW z)):=by
 have zK2:=zK;unfold Wld.Ok Shape.Ok at zK2
 try unfold I64ok at zK2
 try unfold maxLen at zK2
 have zL9:=sL zS9;obtain ⟨zF9,zO9⟩:=zS9;have zL10:=sL zS10;obtain ⟨zF10,zO10⟩:=zS10;have zL11:=sL zS11;obtain ⟨zF11,zO11⟩:=zS11;refine aH func122 Z ntmps122 Z (fun Q hQ hN=>?_);have H0:=Sep.start (bX zB (ab zO9 (ab zO10 (ab zO11 aA))));refine ac (sA Z Z (aa (ae ?_)));obtain ⟨eb1,eo1,es1,ef1,ee1,ec1,eO1,eH1,em1⟩:=dr (H0.seen 3 Z) 0 ω;obtain ⟨ea1,ek1,eg1,rfl,eq1,eK1,eo2⟩:=jZ eO1;have eP1:=H0.look1 3 Z eo2 (fun b hb=>eH1 b (by rw [eq1]; simp [hb]));have eL1:=oL eo2;obtain ⟨eb2,eo3,es2,ef2,ee2,ec2,eO2,eH2,em2⟩:=dr (eP1.seen 3 Z) 1 ω;obtain ⟨ea2,ek2,eg2,rfl,eq2,eK2,eo4⟩:=jZ eO2;have eP2:=eP1.look1 3 Z eo4 (fun b hb=>eH2 b (by rw [eq2]; simp [hb]));have eL2:=oL eo4;refine cb (S:=Ext No _) (oQ [1,3,5,7,9,11,13,17,19,21,23,25,27,29,14,30,33,35,36]) κ κ κ Z (fun _=>Ext.refl.drawn _) (fun q1=>?_);have H1:=eP2.drawn q1;refine dR 2 Z (dV Z Z (fun zw hx=>ag be Z pm Z Z) (dV Z Z (fun zw hx=>aj jk Z Z (al (hx.heap (H1.fbox 0 Z)) Z)) (dV Z Z (fun zw hx=>aB jk kp Z Z ee1 0 ω ω) (dV Z Z (fun zw hx=>ag gK Z jS Z Z) (dV Z Z (fun zw hx=>aj br Z Z (eu (hx.at ec1) 1 Z)) (dR 2 Z (dV Z Z (fun zw hx=>ag be Z pm Z Z) (dV Z Z (fun zw hx=>aj jk Z Z (al (hx.heap (H1.fbox 0 Z)) Z)) (dV Z Z (fun zw hx=>aB jk kp Z Z ee2 1 ω ω) (dV Z Z (fun zw hx=>ag gK Z jS Z Z) (dV Z Z (fun zw hx=>aj br Z Z (eu (hx.at ec2) 1 Z)) (dC func132 nY Z (kK (H1.sees 4 Z)) (fun v1 w1 r1=>?_)))))))))))));obtain ⟨e1,rfl⟩:=r1;have H2:=H1.to e1;refine dC func132 nY Z (kK (H2.sees 5 Z)) (fun v2 w2 r2=>?_);obtain ⟨e2,rfl⟩:=r2;have H3:=H2.to e2;refine dV Z Z (fun zw hx=>DB Z Z) (dV Z Z (fun zw hx=>ci Z Z iO) (aW Z ah Z Z (bg Z) (bb (rT hQ results122 Z ?_))));exact ⟨H3.ext,congrArg (Value.int .i64) (by unfold nW; split<;>omega)⟩
theorem kX {w:World}{d:Bool}  : Ret Tryz.prog 200 #[.bool d] w fun v w'=>Ext No w w'∧(v = .int .i64 (if d=true then 0 else 9)):=by
 refine aH func200 Z ntmps200 Z (fun Q hQ hN=>?_);have H0:=Sep.start (w:=w) (F:=[]) σ;refine ac (sA Z Z (aa (ae (ac (sM Z Z (sV Z (bh Z) (aa (cx Z (fun c1=>?_) (fun c1=>?_)))))))))
 ·refine ac (rA hQ results200 Z ?_);exact ⟨H0.ext,by simp_all⟩
 ·refine au (ac (rA hQ results200 Z ?_));exact ⟨H0.ext,by simp_all⟩
theorem nE {w:World}{z:Wld}{zb:Nat}{fp:List Nat}(o:OwnW w zb 31 z fp) (nd:fp.Nodup):Ret Tryz.prog 260 #[.pointer (some ⟨zb,0,none⟩)] w fun v w'=>(MutW w w' fp zb 31 (wJ z)):=by
 refine aH func260 Z ntmps260 Z (fun Q hQ hN=>?_);have H0:=Sep.beginW o nd;obtain ⟨wA1,wC1,wA2,wC2,wA3,wC3,wf1,wf2,wf3,wok1,H1⟩:=H0.openW 0 Z
 try dsimp only[lNA,lCA,lSZ,lSS] at H1
 have wok1U:=wok1;unfold Wld.Ok Shape.Ok I64ok at wok1U;have wL1:=oL (H1.mine 2 Z);have wL2:=oL (H1.mine 3 Z);have wL3:=oL (H1.mine 4 Z);refine am (sR 3 Z (sF be Z ts4 (fm ah ts4 Z Z Z H1 0 Z Z (fun w1 e1 H2=>?_))));dsimp only[lNA,lCA,lSZ,lSS,aI] at H2;refine sV Z (fH Z) (sF be Z cG (fm ah cG Z Z Z H2 0 Z Z (fun w2 e2 H3=>?_)));dsimp only[lNA,lCA,lSZ,lSS,aI] at H3;refine aa (hN _ _ (jo results260 ?_));have H4:=H3.nilW (α:=Int)
 try dsimp only[lNA,lCA,lSZ,lSS] at H4
 obtain ⟨fp1,H5⟩:=H4.closeW 0 2 5 4 (wJ z) Z Z Z Z Z Z Z Z Z Z (vM wok1)
 try dsimp only[lNA,lCA,lSZ,lSS] at H5
 have hz:=H5.doneW;exact hz
theorem ga {w:World}{z y:Wld}{zb:Nat}{fp:List Nat}{dof:FuncId}{doL:List Value}{doF:Func}(o:OwnW w zb 31 z fp) (nd:fp.Nodup) (doH:Tryz.prog.funcs[dof]? = some doF) (doB:doF.body.isNone=false) (doN:NG doF) (doC:∀ w1 fp1,OwnW w1 zb 31 z fp1→fp1.Nodup→(∀ x∈fp1,x∈fp∨w.heap.size≤x)→Ext (· ∈ fp) w w1→Ret Tryz.prog dof doL.toArray w1 fun v w'=>MutW w1 w' fp1 zb 31 y) (hy:y.Writes≤2000000000):Ret Tryz.prog 203 #[.pointer (some ⟨zb,0,none⟩),.func (.func dof) #[] doL.toArray] w fun v w'=>(v = .bool (!bv z)∧MutW w w' fp zb 31 (kD z y)):=by
 refine aH func203 Z ntmps203 Z (fun Q hQ hN=>?_);have H0:=Sep.beginW o nd;refine ac (sA Z Z (aa (ae (ae ?_))));obtain ⟨wA1,wC1,wA2,wC2,wA3,wC3,wf1,wf2,wf3,wok1,H1⟩:=H0.openW 0 Z
 try dsimp only[lNA,lCA,lSZ,lSS] at H1
 have wok1U:=wok1;unfold Wld.Ok Shape.Ok I64ok at wok1U;have wL1:=oL (H1.mine 2 Z);have wL2:=oL (H1.mine 3 Z);have wL3:=oL (H1.mine 4 Z);refine cb (S:=Ext No _) (oQ [1,3,5,7,9,11,13,15,17,19,21,23,25,27,29,30]) κ κ κ Z (fun _=>Ext.refl.drawn _) (fun q1=>?_);have H2:=H1.drawn q1;refine dR 2 Z (dV Z Z (fun zw hx=>ag be Z ts2 Z Z) (dV Z Z (fun zw hx=>aj tu2 Z Z (al (hx.heap (H2.box 0 Z)) Z)) (dR 2 Z (fY (t:=10) Z (fun hg1=>?_) (fun hg1=>?_)))))
 ·try simp only [decide_eq_true_eq,decide_eq_false_iff_not] at hg1
  refine bp Z (wg Z Z Z) Z Z (fun zw hx=>aL Z) (bp Z (wg Z Z Z) Z Z (fun zw hx=>fH Z) (bp Z (wg Z Z Z) Z Z (fun zw hx=>ag be Z ts2 Z Z) (bp Z (wg Z Z Z) Z Z (fun zw hx=>aj tu2 Z Z (al (hx.heap (H2.box 0 Z)) Z)) (bp Z (wg Z Z Z) Z Z (fun zw hx=>aL Z) (bp Z (wg Z Z Z) Z Z (fun zw hx=>fH Z) (bp Z (wg Z Z Z) Z Z (fun zw hx=>ag be Z ts2 Z Z) (bp Z (wg Z Z Z) Z Z (fun zw hx=>aj tu2 Z Z (al (hx.heap (H2.box 0 Z)) Z)) (bp Z (wg Z Z Z) Z Z (fun zw hx=>sS Z Z) (aW Z ah Z Z (aY Z Z) (bb (aC Z (fun c1=>?_) (fun c1=>?_))))))))))))
  ·refine ae ?_;have hnp:bv z=true:=wM ω ω;refine am (sM Z Z ?_);obtain ⟨fp1,H3⟩:=H2.closeW 0 2 3 4 z Z Z Z Z Z Z Z Z Z Z wok1
   try dsimp only[lNA,lCA,lSZ,lSS] at H3
   refine sC func260 zy Z (nE (H3.wldAt 0 Z) (H3.nodup1 (i:=0) Z)) (fun v1 w1 r1=>?_);have mm1:=r1;obtain ⟨fp2,H4⟩:=H3.mutW 0 Z mm1
   try dsimp only[lNA,lCA,lSZ,lSS] at H4
   refine aa (ac (rA hQ results203 Z ?_));have hz:=H4.doneW;rw [← AS (y:=y) hnp] at hz;exact ⟨(by rw [hnp]; rfl),hz⟩
  ·refine au (ae ?_);have hnp:bv z=false:=tT (.inr ω);refine am (sM Z Z ?_);obtain ⟨fp3,H5⟩:=H2.closeW 0 2 3 4 z Z Z Z Z Z Z Z Z Z Z wok1
   try dsimp only[lNA,lCA,lSZ,lSS] at H5
   refine dW ah Z Z (gh (lb:=doL) Z doH doB doN Z) (doC _ _ (H5.wldAt 0 Z) (H5.nodup1 (i:=0) Z) (fun x hx=>H5.new x (H5.inB 0 Z hx)) H5.ext) (fun v2 w2 r2=>?_);obtain ⟨fp4,H6⟩:=H5.mutW 0 Z r2
   try dsimp only[lNA,lCA,lSZ,lSS] at H6
   refine aa (ae ?_);obtain ⟨wA4,wC4,wA5,wC5,wA6,wC6,wf4,wf5,wf6,wok2,H7⟩:=H6.openW 0 Z
   try dsimp only[lNA,lCA,lSZ,lSS] at H7
   have wok2U:=wok2;unfold Wld.Ok Shape.Ok I64ok at wok2U;have wL4:=oL (H7.mine 6 Z);have wL5:=oL (H7.mine 7 Z);have wL6:=oL (H7.mine 8 Z);refine am (sR 2 Z (sF be Z ts2 (sLd tu2 (H7.box 0 Z) Z (sV Z (aE Z Z iO) (sV Z (fH Z) (sF be Z ts2 (fm ah ts2 Z Z Z H7 0 Z Z (fun w3 e2 H8=>?_))))))));dsimp only[lNA,lCA,lSZ,lSS,aI] at H8;refine aa (ac (rA hQ results203 Z ?_));obtain ⟨fp5,H9⟩:=H8.closeW 0 6 7 8 (hX y) Z Z Z Z Z Z Z Z Z Z (po wok2 hy)
   try dsimp only[lNA,lCA,lSZ,lSS] at H9
   have hz:=H9.doneW;rw [← jP hnp] at hz;exact ⟨(by rw [hnp]; rfl),hz⟩
 ·try simp only [decide_eq_true_eq,decide_eq_false_iff_not] at hg1
  refine dR 9 Z (aW Z ah Z Z (bm Z Z) (bb (md Z (au (ae ?_)))));have hnp:bv z=false:=tT (.inl ω);refine am (sM Z Z ?_);obtain ⟨fp6,H10⟩:=H2.closeW 0 2 3 4 z Z Z Z Z Z Z Z Z Z Z wok1
  try dsimp only[lNA,lCA,lSZ,lSS] at H10
  refine dW ah Z Z (gh (lb:=doL) Z doH doB doN Z) (doC _ _ (H10.wldAt 0 Z) (H10.nodup1 (i:=0) Z) (fun x hx=>H10.new x (H10.inB 0 Z hx)) H10.ext) (fun v3 w4 r3=>?_);obtain ⟨fp7,H11⟩:=H10.mutW 0 Z r3
  try dsimp only[lNA,lCA,lSZ,lSS] at H11
  refine aa (ae ?_);obtain ⟨wA7,wC7,wA8,wC8,wA9,wC9,wf7,wf8,wf9,wok3,H12⟩:=H11.openW 0 Z
  try dsimp only[lNA,lCA,lSZ,lSS] at H12
  have wok3U:=wok3;unfold Wld.Ok Shape.Ok I64ok at wok3U;have wL7:=oL (H12.mine 6 Z);have wL8:=oL (H12.mine 7 Z);have wL9:=oL (H12.mine 8 Z);refine am (sR 2 Z (sF be Z ts2 (sLd tu2 (H12.box 0 Z) Z (sV Z (aE Z Z iO) (sV Z (fH Z) (sF be Z ts2 (fm ah ts2 Z Z Z H12 0 Z Z (fun w5 e3 H13=>?_))))))));dsimp only[lNA,lCA,lSZ,lSS,aI] at H13;refine aa (ac (rA hQ results203 Z ?_));obtain ⟨fp8,H14⟩:=H13.closeW 0 6 7 8 (hX y) Z Z Z Z Z Z Z Z Z Z (po wok3 hy)
  try dsimp only[lNA,lCA,lSZ,lSS] at H14
  have hz:=H14.doneW;rw [← jP hnp] at hz;exact ⟨(by rw [hnp]; rfl),hz⟩
theorem jv {w:World}{z:Wld}{zb t b1 b2 b3 rC6 rC7 rC8:Nat}{fp rF6 rF7 rF8:List Nat}{r:Rec}{rA6 rA7 rA8:Option Addr}(o:OwnW w zb 31 z fp) (nd:fp.Nodup) (h1:w.heap[b1]? = some (.cells [.pointer (some ⟨zb,0,none⟩)].toArray 86)) (d1:b1 ∉ fp) (h2:w.heap[b2]? = some (.cells [.int .i64 (t:Nat)].toArray 2)) (d2:b2 ∉ fp) (h3:w.heap[b3]? = some (.cells [.int .i64 r.Kind,.int .i64 r.Seq,.string r.Name,.int .i64 r.Length,.int .i64 r.Group,.int .i64 r.Row,.slice rA6 r.Rows.length rC6,.slice rA7 r.Data.length rC7,.slice rA8 r.Delta.length rC8].toArray 59)) (d3:b3 ∉ fp) (rO6:own false w [.slice rA6 r.Rows.length rC6] r.Rows rF6) (rD6:∀ b∈rF6,b ∉ fp) (rO7:own false w [.slice rA7 r.Data.length rC7] r.Data rF7) (rD7:∀ b∈rF7,b ∉ fp) (rO8:own false w [.slice rA8 r.Delta.length rC8] r.Delta rF8) (rD8:∀ b∈rF8,b ∉ fp) (rK:r.Ok) (ht:t<z.Tapes.length) (hb:ff r≤1048576) (hl:(z.Tapes.getD t default).Recs.length≤100000):Ret Tryz.prog 259 #[.pointer (some ⟨b1,0,none⟩),.pointer (some ⟨b2,0,none⟩),.pointer (some ⟨b3,0,none⟩)] w fun v w'=>(MutW w w' fp zb 31 (sG t r z)):=by
 have rK2:=rK;unfold Rec.Ok at rK2
 try unfold I64ok at rK2
 try unfold maxLen at rK2
 have rN2:r.Name.size≤maxLen:=by unfold maxLen; omega
 have rL6:=oL rO6;have rL7:=oL rO7;have rL8:=oL rO8;refine aH func259 Z ntmps259 Z (fun Q hQ hN=>?_);have H0:=(((((((Sep.beginW o nd).boxF h1 d1).boxF h2 d2).boxF h3 d3).seeF rO6 rD6).seeF rO7 rD7).seeF rO8 rD8)
 try dsimp only[lNA,lCA,lSZ,lSS] at H0
 refine ae ?_;obtain ⟨wA1,wC1,wA2,wC2,wA3,wC3,wf1,wf2,wf3,wok1,H1⟩:=H0.openW 0 Z
 try dsimp only[lNA,lCA,lSZ,lSS] at H1
 have wok1U:=wok1;unfold Wld.Ok Shape.Ok I64ok at wok1U;have wL1:=oL (H1.mine 2 Z);have wL2:=oL (H1.mine 3 Z);have wL3:=oL (H1.mine 4 Z);obtain ⟨eb1,eo1,eT1,eF1,eG1,ea1,ek1,eg1,ee1,eK1,eH1⟩:=Tape.focus H1 4 Z t ω;have eK1U:=eK1;unfold Tape.Ok at eK1U
 try unfold I64ok at eK1U
 try unfold maxLen at eK1U
 try dsimp only[lNA,lCA,lSZ,lSS] at eH1
 refine cb (S:=Ext No _) (oQ [1,3,5,7,9,11,12]) κ κ κ Z (fun _=>Ext.refl.drawn _) (fun q1=>?_);have H2:=eH1.drawn q1;refine dV Z Z (fun zw hx=>aj xN Z Z (al (hx.heap (H2.fbox 0 Z)) Z)) (dV Z Z (fun zw hx=>fH Z) (dV Z Z (fun zw hx=>ag be Z pm Z Z) (dV Z Z (fun zw hx=>aj jk Z Z (al (hx.heap (H2.box 0 Z)) Z)) (dV Z Z (fun zw hx=>aj tu2 Z Z (al (hx.heap (H2.fbox 1 Z)) Z)) (dV Z Z (fun zw hx=>aB jk kp Z Z ee1 t ω ω) (aW Z ah Z Z (bg Z) (bb (cb (S:=H2.S2 4 6) (oQ [1,3,5,7,9,13,2020,10,14,16,18,21,23,24,27,29,30,14,2018,10,16,18,21,23,24,27,29,30,16,10,18,21,23,24,27,29,30]) κ κ κ Z (fun _=>show H2.S2 4 6 _ from Ext.refl.drawn _) (fun q2=>?_)))))))));have H3:=H2.drawn q2;refine dR 4 Z (dV Z Z (fun zw hx=>ag gK Z jS Z Z) (dV Z Z (fun zw hx=>ak aD Z aO Z Z (At.whole (H2.s2FBox hx 2 Z Z Z))) (dF Z ?_ ?_)))
 ·refine aW Z ah Z Z (aj br Z Z (eu (H3.holAt 4 Z) 1 Z)) (dh Z ah Z Z (aR func173 Z lz Z) (eV η (H3.sees 3 Z) (H3.sees 4 Z) (H3.sees 5 Z) ξ) (fun hS _ _ r _=>H2.s2Call hS r.1) (fun v1 w1 r1=>?_));obtain ⟨e1,sa1,sk1,sa2,sk2,sa3,sk3,rfl,r1⟩:=r1;obtain ⟨fp1,H4⟩:=H3.res e1 r1;refine n7 Z ah Z br dm Z Z Z Z H4 (fun _ h e=>H2.s2Call h e) (fun b1 w2 e2 g1 H5=>t4 Z ah Z br dm Z Z Z H5 6 8 7 Z Z Z Z (by unfold maxLen; omega) ω (fun _ h e=>H2.s2In h 6 Z (.inr Z) e (fun _ hb=>hb)) (fun v2 w3 fp2 H6=>dV Z Z (fun zw hx=>fH Z) (dV Z Z (fun zw hx=>ag gK Z jS Z Z) ?_)));obtain ⟨a1,k1,q3⟩:=an (H6.mine 6 Z);cases q3;refine oG Z ah jS H6 4 1 Z Z Z Z Z (fun _ h e _=>H2.s2In h 4 Z (.inl Z) e (fun _ hb=>by rw [hb]; exact List.mem_cons_self)) (fun w4 H7=>?_);dsimp only[lNA,lCA,lSZ,lSS,aI] at H7;refine dV Z Z (fun zw hx=>fH Z) (dV Z Z (fun zw hx=>ag gK Z ts4 Z Z) (oG Z ah ts4 H7 4 0 Z Z Z Z Z (fun _ h e _=>H2.s2In h 4 Z (.inl Z) e (fun _ hb=>by rw [hb]; exact List.mem_cons_self)) (fun w5 H8=>?_)));dsimp only[lNA,lCA,lSZ,lSS,aI] at H8;refine bb (hN _ _ (jo results259 ?_));obtain ⟨fp3,H9⟩:=Tape.fill H8 4 6 Z Z Z trivial
  try dsimp only[lNA,lCA,lSZ,lSS] at H9
  obtain ⟨fp4,H10⟩:=H9.closeW 0 2 3 4 (sG t r z) Z Z Z Z Z Z Z Z Z Z (vv wok1)
  try dsimp only[lNA,lCA,lSZ,lSS] at H10
  have hz:=H10.doneW;exact hz
 ·refine dh Z ah Z Z (aR func173 Z lz Z) (eV η (H3.sees 3 Z) (H3.sees 4 Z) (H3.sees 5 Z) ξ) (fun hS _ _ r _=>H2.s2Call hS r.1) (fun v3 w6 r2=>?_);obtain ⟨e5,sa4,sk4,sa5,sk5,sa6,sk6,rfl,r2⟩:=r2;obtain ⟨fp5,H11⟩:=H3.res e5 r2;refine dF Z ?_ ?_
  ·refine aW Z ah Z Z (aj br Z Z (eu (H11.holAt 4 Z) 1 Z)) (n7 Z ah Z br dm Z Z Z Z H11 (fun _ h e=>H2.s2Call h e) (fun b2 w7 e6 g2 H12=>t4 Z ah Z br dm Z Z Z H12 6 8 7 Z Z Z Z (by unfold maxLen; omega) ω (fun _ h e=>H2.s2In h 6 Z (.inr Z) e (fun _ hb=>hb)) (fun v4 w8 fp6 H13=>dV Z Z (fun zw hx=>fH Z) (dV Z Z (fun zw hx=>ag gK Z jS Z Z) ?_))));obtain ⟨a2,k2,q4⟩:=an (H13.mine 6 Z);cases q4;refine oG Z ah jS H13 4 1 Z Z Z Z Z (fun _ h e _=>H2.s2In h 4 Z (.inl Z) e (fun _ hb=>by rw [hb]; exact List.mem_cons_self)) (fun w9 H14=>?_);dsimp only[lNA,lCA,lSZ,lSS,aI] at H14;refine dV Z Z (fun zw hx=>fH Z) (dV Z Z (fun zw hx=>ag gK Z ts4 Z Z) (oG Z ah ts4 H14 4 0 Z Z Z Z Z (fun _ h e _=>H2.s2In h 4 Z (.inl Z) e (fun _ hb=>by rw [hb]; exact List.mem_cons_self)) (fun w10 H15=>?_)));dsimp only[lNA,lCA,lSZ,lSS,aI] at H15;refine bb (hN _ _ (jo results259 ?_));obtain ⟨fp7,H16⟩:=Tape.fill H15 4 6 Z Z Z trivial
   try dsimp only[lNA,lCA,lSZ,lSS] at H16
   obtain ⟨fp8,H17⟩:=H16.closeW 0 2 3 4 (sG t r z) Z Z Z Z Z Z Z Z Z Z (vv wok1)
   try dsimp only[lNA,lCA,lSZ,lSS] at H17
   have hz:=H17.doneW;exact hz
  ·refine n7 Z ah Z br dm Z Z Z Z H11 (fun _ h e=>H2.s2Call h e) (fun b3 w11 e9 g3 H18=>aW Z ah Z Z (aj br Z Z (eu (H18.holAt 4 Z) 1 Z)) (t4 Z ah Z br dm Z Z Z H18 6 8 7 Z Z Z Z (by unfold maxLen; omega) ω (fun _ h e=>H2.s2In h 6 Z (.inr Z) e (fun _ hb=>hb)) (fun v5 w12 fp9 H19=>dV Z Z (fun zw hx=>fH Z) (dV Z Z (fun zw hx=>ag gK Z jS Z Z) ?_))));obtain ⟨a3,k3,q5⟩:=an (H19.mine 6 Z);cases q5;refine oG Z ah jS H19 4 1 Z Z Z Z Z (fun _ h e _=>H2.s2In h 4 Z (.inl Z) e (fun _ hb=>by rw [hb]; exact List.mem_cons_self)) (fun w13 H20=>?_);dsimp only[lNA,lCA,lSZ,lSS,aI] at H20;refine dV Z Z (fun zw hx=>fH Z) (dV Z Z (fun zw hx=>ag gK Z ts4 Z Z) (oG Z ah ts4 H20 4 0 Z Z Z Z Z (fun _ h e _=>H2.s2In h 4 Z (.inl Z) e (fun _ hb=>by rw [hb]; exact List.mem_cons_self)) (fun w14 H21=>?_)));dsimp only[lNA,lCA,lSZ,lSS,aI] at H21;refine bb (hN _ _ (jo results259 ?_));obtain ⟨fp10,H22⟩:=Tape.fill H21 4 6 Z Z Z trivial
   try dsimp only[lNA,lCA,lSZ,lSS] at H22
   obtain ⟨fp11,H23⟩:=H22.closeW 0 2 3 4 (sG t r z) Z Z Z Z Z Z Z Z Z Z (vv wok1)
   try dsimp only[lNA,lCA,lSZ,lSS] at H23
   have hz:=H23.doneW;exact hz
theorem fS {w:World}{z:Wld}{zb t rC6 rC7 rC8:Nat}{fp rF6 rF7 rF8:List Nat}{r:Rec}{rA6 rA7 rA8:Option Addr}(o:OwnW w zb 31 z fp) (nd:fp.Nodup) (rK:r.Ok) (rO6:own false w [.slice rA6 r.Rows.length rC6] r.Rows rF6) (rD6:∀ b∈rF6,b ∉ fp) (rO7:own false w [.slice rA7 r.Data.length rC7] r.Data rF7) (rD7:∀ b∈rF7,b ∉ fp) (rO8:own false w [.slice rA8 r.Delta.length rC8] r.Delta rF8) (rD8:∀ b∈rF8,b ∉ fp) (ht:t<z.Tapes.length) (hb:ff r≤1048576) (hl:(z.Tapes.getD t default).Recs.length≤100000) (hw:z.Writes≤2000000000):Ret Tryz.prog 201 #[.pointer (some ⟨zb,0,none⟩),.int .i64 t,r.val rA6 rC6 rA7 rC7 rA8 rC8] w fun v w'=>(v = .bool (!bv z)∧MutW w w' fp zb 31 (jj t r z)):=by
 have rK2:=rK;unfold Rec.Ok at rK2
 try unfold I64ok at rK2
 try unfold maxLen at rK2
 have rN2:r.Name.size≤maxLen:=by unfold maxLen; omega
 have rL6:=oL rO6;have rL7:=oL rO7;have rL8:=oL rO8;refine aH func201 Z ntmps201 Z (fun Q hQ hN=>?_);have H0:=(((Sep.beginW o nd).seeF (rO6) rD6).seeF (rO7) rD7).seeF (rO8) rD8
 try dsimp only[lNA,lCA,lSZ,lSS] at H0
 refine ac (bu ah Z Z H0 (fun b1 w1 e1 g1 H1=>bu ah Z Z H1 (fun b2 w2 e2 g2 H2=>bu ah Z Z H2 (fun b3 w3 e3 g3 H3=>sA Z Z (aa (ac (sLd xN (H3.box 1 Z) Z (sV Z (kl Z) (sC func203 oo Z (ga (H3.wldAt 0 Z) (H3.nodup1 (i:=0) Z) (y:=sG t r z) func259 Z y9 (fun w1 fp1 o1 n1 s1 e1=>jv o1 n1 (H3.boxFar 0 1 Z Z Z s1 e1).1 (H3.boxFar 0 1 Z Z Z s1 e1).2 (H3.boxFar 0 2 Z Z Z s1 e1).1 (H3.boxFar 0 2 Z Z Z s1 e1).2 (H3.boxFar 0 3 Z Z Z s1 e1).1 (H3.boxFar 0 3 Z Z Z s1 e1).2 (H3.seeFar 0 0 Z Z s1 e1).1 (H3.seeFar 0 0 Z Z s1 e1).2 (H3.seeFar 0 1 Z Z s1 e1).1 (H3.seeFar 0 1 Z Z s1 e1).2 (H3.seeFar 0 2 Z Z s1 e1).1 (H3.seeFar 0 2 Z Z s1 e1).2 rK ht hb hl) ξ) (fun v1 w4 r1=>?_))))))))));obtain ⟨rfl,mm1⟩:=r1;obtain ⟨fp1,H4⟩:=H3.mutW 0 Z mm1
 try dsimp only[lNA,lCA,lSZ,lSS] at H4
 refine rA hQ results201 Z ?_;exact ⟨Z,H4.doneW⟩
theorem mh {w:World}{z:Wld}{zb rC6 rC7 rC8:Nat}{fp rF6 rF7 rF8:List Nat}{r:Rec}{rA6 rA7 rA8:Option Addr}(o:OwnW w zb 31 z fp) (nd:fp.Nodup) (rK:r.Ok) (rO6:own false w [.slice rA6 r.Rows.length rC6] r.Rows rF6) (rD6:∀ b∈rF6,b ∉ fp) (rO7:own false w [.slice rA7 r.Data.length rC7] r.Data rF7) (rD7:∀ b∈rF7,b ∉ fp) (rO8:own false w [.slice rA8 r.Delta.length rC8] r.Delta rF8) (rD8:∀ b∈rF8,b ∉ fp) (hf:fa z=true) (hT:z.Tapes.length=2) (hb:ff r≤1048576) (hw:z.Writes≤1500000000):Ret Tryz.prog 128 #[.pointer (some ⟨zb,0,none⟩),r.val rA6 rC6 rA7 rC7 rA8 rC8] w fun v w'=>(v = .int .i64 2∧MutW w w' fp zb 31 (z)):=by
 have rK2:=rK;unfold Rec.Ok at rK2
 try unfold I64ok at rK2
 try unfold maxLen at rK2
 have rN2:r.Name.size≤maxLen:=by unfold maxLen; omega
 have rL6:=oL rO6;have rL7:=oL rO7;have rL8:=oL rO8;refine aH func128 Z ntmps128 Z (fun Q hQ hN=>?_);have H0:=(((Sep.beginW o nd).seeF (rO6) rD6).seeF (rO7) rD7).seeF (rO8) rD8
 try dsimp only[lNA,lCA,lSZ,lSS] at H0
 refine ac (bu ah Z Z H0 (fun b1 w1 e1 g1 H1=>sA Z Z (aa (ae (ae ?_)))));obtain ⟨wA1,wC1,wA2,wC2,wA3,wC3,wf1,wf2,wf3,wok1,H2⟩:=H1.openW 0 Z
 try dsimp only[lNA,lCA,lSZ,lSS] at H2
 have wok1U:=wok1;unfold Wld.Ok Shape.Ok I64ok at wok1U;have wL1:=oL (H2.mine 3 Z);have wL2:=oL (H2.mine 4 Z);have wL3:=oL (H2.mine 5 Z);refine am (sM Z Z (sE func122 lE Z (ep (H2.box 0 Z) η (H2.msees 3 Z) (H2.msees 4 Z) (H2.msees 5 Z) ξ) H2 (fun w2 e2 H3=>sV Z (aX Z Z) (aa (aC Z (fun c1=>?_) (fun c1=>?_))))))
 ·refine ac (rA hQ results128 Z ?_);obtain ⟨fp1,H4⟩:=H3.closeW 0 3 4 5 z Z Z Z Z Z Z Z Z Z Z wok1
  try dsimp only[lNA,lCA,lSZ,lSS] at H4
  have hz:=H4.doneW;exact ⟨Z,hz⟩
 ·exact absurd (D2 c1) (by simp [hf])
theorem nL {w:World}{z:Wld}{zb rC6 rC7 rC8:Nat}{fp rF6 rF7 rF8:List Nat}{r:Rec}{rA6 rA7 rA8:Option Addr}(o:OwnW w zb 31 z fp) (nd:fp.Nodup) (rK:r.Ok) (rO6:own false w [.slice rA6 r.Rows.length rC6] r.Rows rF6) (rD6:∀ b∈rF6,b ∉ fp) (rO7:own false w [.slice rA7 r.Data.length rC7] r.Data rF7) (rD7:∀ b∈rF7,b ∉ fp) (rO8:own false w [.slice rA8 r.Delta.length rC8] r.Delta rF8) (rD8:∀ b∈rF8,b ∉ fp) (hf:fa z=false) (hT:z.Tapes.length=2) (hb:ff r≤1048576) (hw:z.Writes≤1500000000):Ret Tryz.prog 128 #[.pointer (some ⟨zb,0,none⟩),r.val rA6 rC6 rA7 rC7 rA8 rC8] w fun v w'=>(v = .int .i64 (if px z r=true then 0 else 9)∧MutW w w' fp zb 31 (nK z r)):=by
 have rK2:=rK;unfold Rec.Ok at rK2
 try unfold I64ok at rK2
 try unfold maxLen at rK2
 have rN2:r.Name.size≤maxLen:=by unfold maxLen; omega
 have rL6:=oL rO6;have rL7:=oL rO7;have rL8:=oL rO8;have aw:=(mr (t:=0) (r:=r) (z:=z)).2;have at_:=lN (t:=0) (r:=r) (z:=z);have ar:=Ci (t:=0) (u:=1) (r:=r) (z:=z);have fn_:=Ey hf;refine aH func128 Z ntmps128 Z (fun Q hQ hN=>?_);have H0:=(((Sep.beginW o nd).seeF (rO6) rD6).seeF (rO7) rD7).seeF (rO8) rD8
 try dsimp only[lNA,lCA,lSZ,lSS] at H0
 refine ac (bu ah Z Z H0 (fun b1 w1 e1 g1 H1=>sA Z Z (aa (ae (ae ?_)))));obtain ⟨wA1,wC1,wA2,wC2,wA3,wC3,wf1,wf2,wf3,wok1,H2⟩:=H1.openW 0 Z
 try dsimp only[lNA,lCA,lSZ,lSS] at H2
 have wok1U:=wok1;unfold Wld.Ok Shape.Ok I64ok at wok1U;have wL1:=oL (H2.mine 3 Z);have wL2:=oL (H2.mine 4 Z);have wL3:=oL (H2.mine 5 Z);refine am (sM Z Z (sE func122 lE Z (ep (H2.box 0 Z) η (H2.msees 3 Z) (H2.msees 4 Z) (H2.msees 5 Z) ξ) H2 (fun w2 e2 H3=>sV Z (aX Z Z) (aa (aC Z (fun c1=>?_) (fun c1=>?_))))))
 ·exact absurd (BD c1) (by simp [hf])
 ·refine au (ac (sM Z Z (sV Z (ak aD Z aO Z Z (At.whole (H3.box 1 Z))) ?_)));obtain ⟨fp1,H4⟩:=H3.closeW 0 3 4 5 z Z Z Z Z Z Z Z Z Z Z wok1
  try dsimp only[lNA,lCA,lSZ,lSS] at H4
  refine sC func201 tn Z (fS (H4.wldAt 0 Z) (H4.nodup1 (i:=0) Z) η (az (H4.seen 0 Z)) (fun b hb=>H4.off 0 Z 0 Z hb) (az (H4.seen 1 Z)) (fun b hb=>H4.off 1 Z 0 Z hb) (az (H4.seen 2 Z)) (fun b hb=>H4.off 2 Z 0 Z hb) ξ ξ ξ ξ (t:=0)) (fun v2 w3 r2=>?_);obtain ⟨rfl,mm1⟩:=r2;obtain ⟨fp2,H5⟩:=H4.mutW 0 Z mm1
  try dsimp only[lNA,lCA,lSZ,lSS] at H5
  refine sM Z Z (eA (t:=11) Z (fun hg1=>?_) (fun hg1=>?_))
  ·try simp only [decide_eq_true_eq,decide_eq_false_iff_not] at hg1
   refine ao (wg Z Z Z) Z Z (aL Z) (ao (wg Z Z Z) Z Z (ak aD Z aO Z Z (At.whole (H5.box 1 Z))) (dW (wg Z Z Z) Z Z (aR func201 Z tn Z) (fS (H5.wldAt 0 Z) (H5.nodup1 (i:=0) Z) η (az (H5.seen 0 Z)) (fun b hb=>H5.off 0 Z 0 Z hb) (az (H5.seen 1 Z)) (fun b hb=>H5.off 1 Z 0 Z hb) (az (H5.seen 2 Z)) (fun b hb=>H5.off 2 Z 0 Z hb) ξ ξ ξ ξ (t:=1)) (fun v3 w4 r3=>?_)));obtain ⟨rfl,mm2⟩:=r3;obtain ⟨fp3,H6⟩:=H5.mutW 0 Z mm2
   try dsimp only[lNA,lCA,lSZ,lSS] at H6
   refine sV Z (aY Z Z) (sE func200 ti Z kX H6 (fun w5 e5 H7=>rA hQ results128 Z ?_));have hnp:bv z=false:=by simpa using hg1
   have hz:=H7.doneW;rw [← (xq (r:=r) hnp).1] at hz;exact ⟨(by rw [(xq (r:=r) hnp).2]),hz⟩
  ·try simp only [decide_eq_true_eq,decide_eq_false_iff_not] at hg1
   refine sR 3 Z (sV Z (bm Z Z) (sE func200 ti Z kX H5 (fun w6 e6 H8=>rA hQ results128 Z ?_)));have hnp:bv z=true:=by simpa using hg1
   have hz:=H8.doneW;rw [← (Bl (r:=r) hnp).1] at hz;exact ⟨(by rw [(Bl (r:=r) hnp).2]),hz⟩
theorem fG {w:World}{x:Wld}{xA9 xA10 xA11:Option Addr}{xC9 xC10 xC11:Nat}{c:Int}(xK:x.Ok) (xS9:Sees w [.slice xA9 x.Groups.length xC9] x.Groups) (xS10:Sees w [.slice xA10 x.On.length xC10] x.On) (xS11:Sees w [.slice xA11 x.Tapes.length xC11] x.Tapes) (hc:c≠0∧c≠9):Ret Tryz.prog 50 #[x.val xA9 xC9 xA10 xC10 xA11 xC11,.int .i64 c] w fun v w'=>Ext No w w'∧(v=(⟨c,noWld⟩:WldResult).val none 0 none 0 none 0):=by
 have xK2:=xK;unfold Wld.Ok Shape.Ok at xK2
 try unfold I64ok at xK2
 try unfold maxLen at xK2
 have xL9:=sL xS9;obtain ⟨xF9,xO9⟩:=xS9;have xL10:=sL xS10;obtain ⟨xF10,xO10⟩:=xS10;have xL11:=sL xS11;obtain ⟨xF11,xO11⟩:=xS11;refine aH func50 Z ntmps50 Z (fun Q hQ hN=>?_);have H0:=Sep.start (ab xO9 (ab xO10 (ab xO11 aA)));refine ac (bu ah Z Z H0 (fun b1 w1 e1 g1 H1=>bB ah Z zeroValue33 H1 (fun b2 w2 e2 g2 H2=>aa (ae (ac (sR 3 Z (eA (t:=7) Z (fun hg1=>?_) (fun hg1=>?_))))))))
 ·try simp only [decide_eq_true_eq,decide_eq_false_iff_not] at hg1
  refine ao (wg Z Z Z) Z Z (aL Z) (ao (wg Z Z Z) Z Z (ez Z Z) (sV Z (aY Z Z) (aa (aC Z (fun c1=>?_) (fun c1=>?_)))))
  ·refine ac (sM Z Z (sV Z (aP ce Z Z) (aF ah cW Z Z Z Z H2 1 Z Z (fun w3 e3 H3=>?_))));dsimp only[lNA,lCA,lSZ,lSS,aI] at H3;refine aa (bc (hQ _ _ (cp results50 Z (ay eI Z cW Z (At.whole (H3.box 1 Z))) ?_)));exact ⟨H3.ext,Z⟩
  ·exfalso; simp_all
 ·exfalso; simp_all
theorem fj {w:World}{x:Wld}{xA9 xA10 xA11:Option Addr}{xC9 xC10 xC11:Nat}{c:Int}(xK:x.Ok) (xS9:Sees w [.slice xA9 x.Groups.length xC9] x.Groups) (xS10:Sees w [.slice xA10 x.On.length xC10] x.On) (xS11:Sees w [.slice xA11 x.Tapes.length xC11] x.Tapes) (hc:c=0∨c=9):Ret Tryz.prog 50 #[x.val xA9 xC9 xA10 xC10 xA11 xC11,.int .i64 c] w fun v w'=>Ext No w w'∧(v=(⟨c,x⟩:WldResult).val xA9 xC9 xA10 xC10 xA11 xC11):=by
 have xK2:=xK;unfold Wld.Ok Shape.Ok at xK2
 try unfold I64ok at xK2
 try unfold maxLen at xK2
 have xL9:=sL xS9;obtain ⟨xF9,xO9⟩:=xS9;have xL10:=sL xS10;obtain ⟨xF10,xO10⟩:=xS10;have xL11:=sL xS11;obtain ⟨xF11,xO11⟩:=xS11;refine aH func50 Z ntmps50 Z (fun Q hQ hN=>?_);have H0:=Sep.start (ab xO9 (ab xO10 (ab xO11 aA)));refine ac (bu ah Z Z H0 (fun b1 w1 e1 g1 H1=>bB ah Z zeroValue33 H1 (fun b2 w2 e2 g2 H2=>aa (ae (ac (sR 3 Z (eA (t:=7) Z (fun hg1=>?_) (fun hg1=>?_))))))))
 ·try simp only [decide_eq_true_eq,decide_eq_false_iff_not] at hg1
  refine ao (wg Z Z Z) Z Z (aL Z) (ao (wg Z Z Z) Z Z (ez Z Z) (sV Z (aY Z Z) (aa (aC Z (fun c1=>?_) (fun c1=>?_)))))
  ·exfalso; simp_all
  ·refine au (ac (sM Z Z (sV Z (ak be Z cy Z Z (At.whole (H2.box 0 Z))) (sV Z (aP ce Z Z) (aF ah cW Z Z Z Z H2 1 Z Z (fun w3 e3 H3=>?_))))));dsimp only[lNA,lCA,lSZ,lSS,aI] at H3;refine aa (bc (hQ _ _ (cp results50 Z (ay eI Z cW Z (At.whole (H3.box 1 Z))) ?_)));exact ⟨H3.ext,Z⟩
 ·try simp only [decide_eq_true_eq,decide_eq_false_iff_not] at hg1
  refine sR 2 Z (sV Z (bm Z Z) (aa (md Z (au (ac (sM Z Z (sV Z (ak be Z cy Z Z (At.whole (H2.box 0 Z))) (sV Z (aP ce Z Z) (aF ah cW Z Z Z Z H2 1 Z Z (fun w4 e4 H4=>?_))))))))));dsimp only[lNA,lCA,lSZ,lSS,aI] at H4;refine aa (bc (hQ _ _ (cp results50 Z (ay eI Z cW Z (At.whole (H4.box 1 Z))) ?_)));exact ⟨H4.ext,Z⟩
end Go.Wk
namespace Go.Wk
open Rp (sz own)
structure RecV where
  r:Rec
  A6:Option Addr
  C6:Nat
  A7:Option Addr
  C7:Nat
  A8:Option Addr
  C8:Nat
def RecV.cs (v:RecV):List Value:=[.int .i64 v.r.Kind,.int .i64 v.r.Seq,.string v.r.Name,.int .i64 v.r.Length,.int .i64 v.r.Group,.int .i64 v.r.Row,.slice v.A6 v.r.Rows.length v.C6,.slice v.A7 v.r.Data.length v.C7,.slice v.A8 v.r.Delta.length v.C8]
instance:Inhabited RecV:=⟨⟨default,none,0,none,0,none,0⟩⟩
theorem RecV.one {v:RecV}:∀ x∈v.cs,x.oneCell'=true:=by
  intro x hx
  simp only [RecV.cs,List.mem_cons,List.not_mem_nil,or_false] at hx
  rcases hx with rfl | rfl | rfl | rfl | rfl | rfl | rfl | rfl | rfl<;>rfl
instance:Rp RecV where
  sz:=9
  pos:=by decide
  own _ _ cs v fp:=cs=v.cs∧fp=[]∧v.r.Ok
  len h:=by rw [h.1]; rfl
  one h v hv:=by rw [h.1] at hv; exact RecV.one v hv
  st h _:=h
  lt h b hb:=by rw [h.2.1] at hb; simp at hb
  weak h:=h
def Hv (w:World):List RecV→List Nat→Prop
  | [],f=>f=[]
  | v::vs,f=>∃ f1 f2,f=f1++f2∧own true w v.cs v.r f1∧Hv w vs f2
section
variable {M:Nat→Prop}{w0 w:World}{Δ F:List Rsc}
theorem Sep.viewAt (h:Sep M w0 Δ F w) (i:Nat) {ad n cap} {vs:List RecV}{f} (hi:Δ[i]? = some (Wk.mine [.slice ad n cap] vs f)) (k:Nat) (hk:k<vs.length) :
    ∃ b o,ad=some ⟨b,o,none⟩∧At w b (o+k*9) (vs.getD k default).cs∧(vs.getD k default).r.Ok:=by
  obtain ⟨b,o,cs,fk,e,hat,hx,_⟩:=ij (h.mine i hi) k hk
  rw [bI hk]
  obtain ⟨e1,_,ok⟩:=hx
  exact ⟨b,o,e,by rw [← e1]; exact hat,ok⟩
end
end Go.Wk
namespace Go.Wk
open Rp (sz own)
theorem D4 {w:World}{v:RecV}(ok:v.r.Ok):own true w v.cs v []:=⟨rfl,rfl,ok⟩
end Go.Wk
namespace Go.Wk
structure LinO {K:Type}(lt:K→K→Prop):Prop where
  irr:∀ a,¬ lt a a
  tr:∀ a b c,lt a b→lt b c→lt a c
  tot:∀ a b,lt a b∨a=b∨lt b a
section
variable {α K:Type}{lt:K→K→Prop}{key:α→K}
inductive Ord (lt:K→K→Prop) (key:α→K):List α→Prop
  | nil:Ord lt key []
  | cons {x xs}:(∀ y∈xs,¬ lt (key y) (key x))→Ord lt key xs→Ord lt key (x::xs)
theorem Ord.app {xs ys:List α}(h:Ord lt key xs) (k:Ord lt key ys) (hh:∀ x∈xs,∀ y∈ys,¬ lt (key y) (key x)):Ord lt key (xs++ys):=by
  induction h with
  | nil=>exact k
  | cons h1 h2 ih=>
    rename_i x l
    refine .cons (fun y hy=>?_) (ih fun a ha b hb=>hh a (by simp [ha]) b hb)
    rcases List.mem_append.1 hy with hy | hy
    · exact h1 y hy
    · exact hh x σ y hy
theorem Ord.left {xs ys:List α}(h:Ord lt key (xs++ys)):Ord lt key xs:=by
  induction xs with
  | nil=>exact .nil
  | cons x xs ih=>
    cases h with
    | cons h1 h2=>exact .cons (fun y hy=>h1 y (by simp [hy])) (ih h2)
theorem Ord.right {xs ys:List α}(h:Ord lt key (xs++ys)):Ord lt key ys:=by
  induction xs with
  | nil=>exact h
  | cons x xs ih=>
    cases h with
    | cons h1 h2=>exact ih h2
theorem Ord.le {xs ys:List α}(h:Ord lt key (xs++ys)):∀ x∈xs,∀ y∈ys,¬ lt (key y) (key x):=by
  induction xs with
  | nil=>simp
  | cons x xs ih=>
    cases h with
    | cons h1 h2=>
      intro a ha b hb
      rcases List.mem_cons.1 ha with rfl | ha
      · exact h1 b (by simp [hb])
      · exact ih h2 a ha b hb
end
section
variable {α K:Type}[DecidableEq K] {lt:K→K→Prop}{key:α→K}
def cH (key:α→K) (xs ys:List α):Prop:=∀ k,(ys.filter fun x=>decide (key x=k))=xs.filter fun x=>decide (key x=k)
def Stable (lt:K→K→Prop) (key:α→K) (xs ys:List α):Prop:=Ord lt key ys∧cH key xs ys
theorem cH.refl {xs:List α}:cH key xs xs:=fun _=>rfl
theorem cH.trans {xs ys zs:List α}(h:cH key xs ys) (k:cH key ys zs):cH key xs zs:=fun c=>(k c).trans (h c)
theorem cH.symm {xs ys:List α}(h:cH key xs ys):cH key ys xs:=fun c=>(h c).symm
theorem cH.app {xs ys xs' ys':List α}(h:cH key xs ys) (k:cH key xs' ys'):cH key (xs++xs') (ys++ys'):=fun c=>by
  rw [List.filter_append,List.filter_append,h c,k c]
theorem cH.mem {xs ys:List α}(h:cH key xs ys) {x:α}(hx:x∈ys):x∈xs:=by
  have:x∈ys.filter fun y=>decide (key y=key x):=by rw [List.mem_filter]; exact ⟨hx,σ⟩
  rw [h (key x),List.mem_filter] at this
  exact this.1
theorem cH.len {xs ys:List α}:cH key xs ys→ys.length=xs.length:=by
  induction xs generalizing ys with
  | nil=>
    intro h
    cases ys with
    | nil=>rfl
    | cons y ys=>exact absurd (h.mem (x:=y) σ) σ
  | cons x xs ih=>
    intro h
    have hx:x∈ys:=(cH.symm h).mem σ
    have hk:=h (key x)
    rw [List.filter_cons_of_pos σ] at hk
    have key1:∀ (l:List α) (r:List α),(l.filter fun y=>decide (key y=key x))=x::r→∃ l1 l2,l=l1++x::l2∧(∀ y∈l1,key y≠key x)∧(l2.filter fun y=>decide (key y=key x))=r:=by
      intro l
      induction l with
      | nil=>intro r h; simp at h
      | cons y l ihl=>
        intro r h
        by_cases hy:key y=key x
        · rw [List.filter_cons_of_pos (by simp [hy])] at h
          injection h with h1 h2
          exact ⟨[],l,by rw [h1]; rfl,σ,h2⟩
        · rw [List.filter_cons_of_neg (by simp [hy])] at h
          obtain ⟨l1,l2,e,h1,h2⟩:=ihl r h
          exact ⟨y::l1,l2,by rw [e]; rfl,fun z hz=>by rcases List.mem_cons.1 hz with rfl | hz; exact hy; exact h1 z hz,h2⟩
    obtain ⟨l1,l2,e,h1,h2⟩:=key1 ys _ hk
    have h3:cH key xs (l1++l2):=fun k=>by
      have hkk:=h k
      rw [e,List.filter_append] at hkk
      rw [List.filter_append]
      by_cases hkx:key x=k
      · subst hkx
        rw [show (l1.filter fun y=>decide (key y=key x))=[] from List.filter_eq_nil_iff.2 fun y hy=>by simp [h1 y hy],List.nil_append]
        exact h2
      · rw [List.filter_cons_of_neg (by simp [hkx]),List.filter_cons_of_neg (by simp [hkx])] at hkk
        exact hkk
    have h4:=ih h3
    rw [e,List.length_append,List.length_cons,List.length_cons]
    rw [List.length_append] at h4
    omega
theorem x6 (hl:LinO lt):∀ {ys zs:List α},Ord lt key ys→Ord lt key zs→cH key ys zs→ys=zs
  | [],zs,_,_,h=>by
    have:=h.len
    exact (List.eq_nil_of_length_eq_zero this).symm
  | y::ys,[],_,_,h=>by have:=h.len; simp at this
  | y::ys,z::zs,.cons a1 a2,.cons b1 b2,h=>by
    have hk:key y=key z:=by
      rcases hl.tot (key y) (key z) with c | c | c
      · have hm:y∈z::zs:=(cH.symm h).mem σ
        rcases List.mem_cons.1 hm with e | e
        · rw [e]
        · exact absurd c (b1 y e)
      · exact c
      · have hm:z∈y::ys:=h.mem σ
        rcases List.mem_cons.1 hm with e | e
        · rw [e]
        · exact absurd c (a1 z e)
    have h1:=h (key y)
    rw [List.filter_cons_of_pos (by simp [hk]),List.filter_cons_of_pos σ] at h1
    injection h1 with h2 h3
    subst h2
    have h4:cH key ys zs:=fun k=>by
      have:=h k
      by_cases e:key z=k
      · rw [List.filter_cons_of_pos (by simp [e]),List.filter_cons_of_pos (by simp [e])] at this
        exact (List.cons.inj this).2
      · rw [List.filter_cons_of_neg (by simp [e]),List.filter_cons_of_neg (by simp [e])] at this
        exact this
    rw [x6 hl a2 b2 h4]
theorem uc (hl:LinO lt) {xs ys zs:List α}(h:Stable lt key xs ys) (k:Stable lt key xs zs):ys=zs:=
  x6 hl h.1 k.1 (h.2.symm.trans k.2)
theorem cH.swap {xs ys:List α}(h:∀ x∈xs,∀ y∈ys,key x≠key y):cH key (xs++ys) (ys++xs):=fun k=>by
  rw [List.filter_append,List.filter_append]
  by_cases hx:∃ x∈xs,key x=k
  · obtain ⟨x,hx,e⟩:=hx
    rw [show (ys.filter fun y=>decide (key y=k))=[] from List.filter_eq_nil_iff.2 fun y hy=>by
      have:=h x hx y hy
      simp only [decide_eq_true_eq]; intro e2; exact this (e.trans e2.symm)]
    simp
  · rw [show (xs.filter fun y=>decide (key y=k))=[] from List.filter_eq_nil_iff.2 fun y hy=>by
      simp only [decide_eq_true_eq]; intro e2; exact hx ⟨y,hy,e2⟩]
    simp
theorem nT (hl:LinO lt) {xs A B:List α}{x:α}(h:Stable lt key xs (A++B)) (hB:∀ y∈B,lt (key x) (key y)) (hA:∀ y∈A,¬ lt (key x) (key y)):Stable lt key (xs++[x]) (A++x::B):=by
  refine ⟨?_,?_⟩
  · refine h.1.left.app (.cons (fun y hy hlt=>hl.irr _ (hl.tr _ _ _ hlt (hB y hy))) h.1.right) fun a ha b hb=>?_
    rcases List.mem_cons.1 hb with rfl | hb
    · exact hA a ha
    · exact h.1.le a ha b hb
  · have h1:cH key ((A++B)++[x]) (A++(x::B)):=by
      rw [List.append_assoc]
      refine cH.refl.app (cH.swap (xs:=B) (ys:=[x]) fun b hb y hy e=>?_)
      rw [List.mem_singleton] at hy
      subst hy
      have:=hB b hb
      rw [e] at this
      exact hl.irr _ this
    exact (h.2.app (cH.refl (xs:=[x]))).trans h1
end
end Go.Wk
namespace Go.Wk
open Rp (sz own)
section
variable {α:Type}
def seg (l:List α) (a b:Nat):List α:=(l.take b).drop a
theorem dv {l:List α}{a b:Nat}(h:b≤l.length):(seg l a b).length=b-a:=by
  unfold seg; rw [List.length_drop,List.length_take]; omega
theorem cN {l:List α}{a b c:Nat}(h1:a≤b) (h2:b≤c):seg l a b++seg l b c=seg l a c:=by
  apply List.ext_getElem?
  intro j
  unfold seg
  rw [List.getElem?_append]
  simp only [List.length_drop,List.length_take,List.getElem?_drop,List.getElem?_take]
  by_cases hl:b≤l.length
  · rw [show min b l.length=b by omega]
    by_cases c1:j<b-a
    · rw [if_pos c1,if_pos ω,if_pos ω]
    · rw [if_neg c1]
      rw [show b+(j-(b-a))=a+j by omega]
  · rw [show min b l.length=l.length by omega]
    by_cases c1:j<l.length-a
    · rw [if_pos c1,if_pos ω,if_pos ω]
    · rw [if_neg c1]
      rw [List.getElem?_eq_none (show l.length≤b+(j-(l.length-a)) by omega),List.getElem?_eq_none (show l.length≤a+j by omega)]
      split<;>split<;>rfl
def fZ (l:List α) (x y z:Nat):List α:=l.take x++(seg l y z++(seg l x y++l.drop z))
theorem jw {l:List α}{x y z:Nat}(h1:x≤y) (h2:y≤z) (h3:z≤l.length):(fZ l x y z).length=l.length:=by
  unfold fZ
  rw [List.length_append,List.length_append,List.length_append,dv ω,dv ω,List.length_take,List.length_drop]; omega
end
section
variable {α:Type}[Inhabited α]
def iA (l:List α) (a b:Nat):Nat→List α
  | 0=>l
  | i+1=>((iA l a b i).set (a+i) ((iA l a b i).getD (b+i) default)).set (b+i) ((iA l a b i).getD (a+i) default)
theorem dZ {l:List α}{a b:Nat}:∀ {n},(iA l a b n).length=l.length
  | 0=>rfl
  | n+1=>by rw [iA,List.length_set,List.length_set]; exact dZ
theorem ph {l:List α}{a b:Nat}:∀ {n:Nat},a+n≤b→b+n≤l.length→∀ j,(iA l a b n).getD j default=l.getD (if a≤j∧j<a+n then b+(j-a) else if b≤j∧j<b+n then a+(j-b) else j) default
  | 0,_,_,j=>by rw [if_neg ω,if_neg ω]; rfl
  | n+1,h1,h2,j=>by
    have ih:=ph (l:=l) (a:=a) (b:=b) (n:=n) ω ω
    have hl:=dZ (l:=l) (a:=a) (b:=b) (n:=n)
    rw [iA,bM,bM,List.length_set,hl,ih,ih,ih]
    by_cases e1:j=b+n
    · subst e1
      rw [if_pos ⟨rfl,ω⟩,if_neg ω,if_neg ω,if_neg ω,if_pos ω]
      congr 1; omega
    · rw [if_neg (fun h=>e1 h.1)]
      by_cases e2:j=a+n
      · subst e2
        rw [if_pos ⟨rfl,ω⟩,if_neg ω,if_neg ω,if_pos ω]
        congr 1; omega
      · rw [if_neg (fun h=>e2 h.1)]
        congr 1
        (repeat' split)<;>omega
theorem fO {l:List α}{a b j:Nat}(h:a+j<b):(seg l a b).getD j default=l.getD (a+j) default:=by
  unfold seg; simp only [List.getD,List.getElem?_drop,List.getElem?_take]; rw [if_pos h]
theorem lJ {l:List α}{x y z:Nat}(h1:x≤y) (h2:y≤z) (h3:z≤l.length) (j:Nat):(fZ l x y z).getD j default=l.getD (if j<x then j else if j<x+(z-y) then y+(j-x) else if j<z then x+(j-x-(z-y)) else j) default:=by
  have e1:=dv (l:=l) (a:=y) (b:=z) ω
  have e2:=dv (l:=l) (a:=x) (b:=y) ω
  unfold fZ
  by_cases c1:j<x
  · rw [if_pos c1,lK (by rw [List.length_take]; omega)]
    simp only [List.getD,List.getElem?_take]; rw [if_pos c1]
  · rw [if_neg c1,oM (by rw [List.length_take]; omega),List.length_take,show min x l.length=x by omega]
    by_cases c2:j<x+(z-y)
    · rw [if_pos c2,lK ω,fO ω]
    · rw [if_neg c2,oM ω,e1]
      by_cases c3:j<z
      · rw [if_pos c3,lK ω,fO ω]
      · rw [if_neg c3,oM ω,e2]
        simp only [List.getD,List.getElem?_drop]
        congr 2; omega
theorem oY {xs ys:List α}(h:xs.length=ys.length) (k:∀ j,xs.getD j default=ys.getD j default):xs=ys:=fw (d:=default) h fun j _=>k j
theorem zFS {l:List α}{m i:Nat}(h1:i≤m) (h2:m+i≤l.length):iA l (m-i) m i=fZ l (m-i) m (m+i):=
  oY (by rw [dZ,jw ω ω h2]) fun j=>by
    rw [ph ω h2,lJ ω ω h2]
    congr 1
    split<;>(repeat' split)<;>omega
theorem D0 {l:List α}{m i j:Nat}(h1:j<i) (h0:i≤m) (h2:m+j≤l.length):fZ (iA l (m-i) m j) (m-i+j) m (m+j)=fZ l (m-i) m (m+j):=
  oY (by rw [jw ω ω (by rw [dZ]; omega),dZ,jw ω ω h2]) fun q=>by
    rw [lJ ω ω (by rw [dZ]; omega),ph ω h2,lJ ω ω h2]
    congr 1
    (repeat' split)<;>omega
theorem Cb {l:List α}{m i j:Nat}(h1:i<j) (h0:i≤m) (h2:m+j≤l.length):fZ (iA l (m-i) (m+j-i) i) (m-i) m (m+j-i)=fZ l (m-i) m (m+j):=
  oY (by rw [jw ω ω (by rw [dZ]; omega),dZ,jw ω ω h2]) fun q=>by
    rw [lJ ω ω (by rw [dZ]; omega),ph ω ω,lJ ω ω h2]
    congr 1
    (repeat' split)<;>omega
end
end Go.Wk
namespace Go.Wk
open Rp (sz own)
def kLt (a b:Int × Int × Int):Prop:=a.1<b.1∨a.1=b.1∧(a.2.1<b.2.1∨a.2.1=b.2.1∧a.2.2<b.2.2)
theorem mJ:LinO kLt where
  irr a h:=by unfold kLt at h; omega
  tr a b c h k:=by unfold kLt at h k ⊢; omega
  tot a b:=by
    by_cases h:kLt a b
    · exact .inl h
    · by_cases k:kLt b a
      · exact .inr (.inr k)
      · refine .inr (.inl ?_)
        obtain ⟨a1,a2,a3⟩:=a
        obtain ⟨b1,b2,b3⟩:=b
        unfold kLt at h k
        dsimp only at h k
        rw [show a1=b1 by omega,show a2=b2 by omega,show a3=b3 by omega]
def ka (r:Rec):Int × Int × Int:=(r.Seq,r.Kind,r.Group)
def cS (v:RecV):Int × Int × Int:=ka v.r
def jl (a b:Int):Int:=if a<b then -1 else if b<a then 1 else 0
def cfR (x y:Rec):Int:=if jl x.Seq y.Seq≠0 then jl x.Seq y.Seq else if jl x.Kind y.Kind≠0 then jl x.Kind y.Kind else jl x.Group y.Group
theorem nS {x y:Rec}:cfR x y<0↔kLt (ka x) (ka y):=by
  unfold cfR jl kLt ka
  dsimp only
  repeat' split
  all_goals omega
section
variable {P:Program}{n:Nat}{ops:Array Oper}{Q:Post}{L:Env}{S:World→Prop}{w w0:World}{M:Nat→Prop}{Δ F:List Rsc}{ty:TypeId}{p:String}{af:Array Edge}{g:Option (Nat × Bool)}{l:Nat}{rest:List (Nat × Bool)}
theorem eF {t:TypeId}{x y:Operand}{b off:Nat}{ad:Option Addr}{len cap:Nat}{xs:List RecV}{fp:List Nat}{u:RecV}(ho:ops.toList[l]? = some ⟨none,.store t x y,ty,p,af,g⟩) (hw:Wn ops n L ⟨none,.store t x y,ty,p,af,g⟩) (hs:∀ w,(sizeOf t).run P w = .ok 9 w)
    (H:Sep M w0 Δ F w) (i:Nat) (hi:Δ[i]? = some (Wk.mine [.slice ad len cap] xs fp)) (q:Nat) (hq:q<xs.length) (hx:evL L x=some (.pointer (some ⟨b,off+q*9,none⟩))) (had:ad=some ⟨b,off,none⟩) (hy:evL L y=some (.agg u.cs.toArray)) (ok:u.r.Ok)
    (hS:∀ w',S w→Ext (· = b) w w'→rest≠[]→S w')
    (k:∀ w' fp',Sep M w0 (Δ.set i (Wk.mine [.slice ad len cap] (xs.set q u) fp')) F w'→DL P n ops Q S rest L w') :
    DL P n ops Q S ((l,false)::rest) L w:=by
  obtain ⟨b',o',cur,T,e1,hb,hsz,hk⟩:=H.elset i hi q hq
  rw [had] at e1
  simp only [Option.some.injEq,Addr.mk.injEq,and_true] at e1
  obtain ⟨rfl,rfl⟩:=e1
  obtain ⟨fp',h⟩:=hk u.cs u ⟨rfl,rfl,ok⟩
  exact x7 ho hw rfl (lw hs hx hy rfl RecV.one hb hsz) (fun hSw hr=>hS _ hSw (Ext.refl.put (.inl rfl)) hr) (k _ fp' h)
end
end Go.Wk
namespace Go.Wk
section
variable {α:Type}
theorem rW {l:List α}{a b:Nat}(h:b≤a):seg l a b=[]:=by
  unfold seg; apply List.eq_nil_of_length_eq_zero; rw [List.length_drop,List.length_take]; omega
end
section
variable {α:Type}[Inhabited α] {l l2 ws:List α}{a b i j:Nat}
theorem il {xs ys:List α}{a b:Nat}(h1:b≤xs.length) (h2:b≤ys.length) (h:∀ j,a≤j→j<b→xs.getD j default=ys.getD j default):seg xs a b=seg ys a b:=
  fw (d:=default) (by rw [dv h1,dv h2]) fun j hj=>by
    rw [dv h1] at hj
    rw [fO ω,fO ω]
    exact h _ ω ω
theorem ky {l:List α}{a:Nat}(h:a<l.length):seg l a (a+1)=[l.getD a default]:=by
  apply fw (d:=default)
  · rw [dv ω]; simp
  · intro j hj
    rw [dv ω] at hj
    obtain rfl:j=0:=by omega
    rw [fO ω]; rfl
theorem ip {l:List α}{a b:Nat}{x:α}(h2:b≤l.length) (h:x∈seg l a b):∃ j,a≤j∧j<b∧l.getD j default=x:=by
  obtain ⟨j,hj,e⟩:=List.getElem_of_mem h
  rw [dv h2] at hj
  refine ⟨a+j,ω,ω,?_⟩
  rw [← fO (b:=b) ω,bI (by rw [dv h2]; omega)]; exact e
theorem vV {l:List α}{a b j:Nat}(h2:b≤l.length) (h:a≤j) (h3:j<b):l.getD j default∈seg l a b:=by
  have e:=fO (l:=l) (a:=a) (b:=b) (j:=j-a) ω
  rw [show a+(j-a)=j by omega] at e
  rw [← e,bI (by rw [dv h2]; omega)]
  exact List.getElem_mem _
end
section
variable {ws l l2:List RecV}{a b i j:Nat}
def SortSeg (ws l:List RecV) (a b:Nat):Prop:=l.length=ws.length∧(∀ q,q<a∨b≤q→l.getD q default=ws.getD q default)∧Stable kLt cS (seg ws a b) (seg l a b)
def InsInv (ws l:List RecV) (a i j:Nat):Prop:=a≤j∧j≤i∧l.length=ws.length∧(∀ q,q<a∨i+1≤q→l.getD q default=ws.getD q default)∧Stable kLt cS (seg ws a i) (seg l a j++seg l (j+1) (i+1)) ∧
  l.getD j default=ws.getD i default∧∀ q,j<q→q≤i→kLt (cS (ws.getD i default)) (cS (l.getD q default))
theorem zg (h:a+1≤ws.length):SortSeg ws ws a (a+1):=
  ⟨rfl,fun _ _=>rfl,by rw [ky ω]; exact .cons σ .nil,.refl⟩
theorem uE (h:b≤a):SortSeg ws ws a b:=⟨rfl,fun _ _=>rfl,by rw [rW h]; exact .nil,.refl⟩
theorem u7 (h:SortSeg ws l a i) (h1:a≤i):InsInv ws l a i i:=by
  obtain ⟨e1,e2,e3⟩:=h
  refine ⟨h1,Nat.le_refl _,e1,fun q hq=>e2 q ω,?_,e2 i ω,fun q h3 h4=>by omega⟩
  rw [rW (Nat.le_refl (i+1)),List.append_nil]; exact e3
theorem tu (h:InsInv ws l a i j) (h1:a<j) (h2:i<ws.length) (hc:cfR (l.getD j default).r (l.getD (j-1) default).r<0) :
    InsInv ws ((l.set j (l.getD (j-1) default)).set (j-1) (l.getD j default)) a i (j-1):=by
  obtain ⟨e1,e2,e3,e4,e5,e6,e7⟩:=h
  have hg:∀ q,((l.set j (l.getD (j-1) default)).set (j-1) (l.getD j default)).getD q default=if q=j-1 then l.getD j default else if q=j then l.getD (j-1) default else l.getD q default:=fun q=>by
    rw [bM,bM,List.length_set]
    by_cases c1:q=j-1
    · rw [if_pos ⟨c1,ω⟩,if_pos c1]
    · rw [if_neg (fun h=>c1 h.1),if_neg c1]
      by_cases c2:q=j
      · rw [if_pos ⟨c2,ω⟩,if_pos c2]
      · rw [if_neg (fun h=>c2 h.1),if_neg c2]
  have hlen:((l.set j (l.getD (j-1) default)).set (j-1) (l.getD j default)).length=ws.length:=by rw [List.length_set,List.length_set]; exact e3
  refine ⟨ω,ω,hlen,fun q hq=>?_,?_,?_,fun q h3 h4=>?_⟩
  · rw [hg,if_neg ω,if_neg ω]; exact e4 q hq
  · have s1:seg ((l.set j (l.getD (j-1) default)).set (j-1) (l.getD j default)) a (j-1)=seg l a (j-1):=il ω ω fun q h3 h4=>by rw [hg,if_neg ω,if_neg ω]
    have s2:seg ((l.set j (l.getD (j-1) default)).set (j-1) (l.getD j default)) (j-1+1) (i+1)=seg l (j-1) j++seg l (j+1) (i+1):=by
      rw [show j-1+1=j by omega,← cN (b:=j+1) ω ω,ky ω]
      congr 1
      · have:=ky (l:=l) (a:=j-1) ω
        rw [show j-1+1=j by omega] at this
        rw [this,hg,if_neg ω,if_pos rfl]
      · exact il ω ω fun q h3 h4=>by rw [hg,if_neg ω,if_neg ω]
    rw [s1,s2,← List.append_assoc,cN ω ω]; exact e5
  · rw [hg,if_pos rfl]; exact e6
  · rw [hg,if_neg ω]
    by_cases c:q=j
    · rw [if_pos c]
      have:=(nS (x:=(l.getD j default).r) (y:=(l.getD (j-1) default).r)).1 hc
      rw [e6] at this; exact this
    · rw [if_neg c]; exact e7 q ω h4
theorem vI (h:InsInv ws l a i j) (h2:i<ws.length) (hc:j=a∨¬ cfR (l.getD j default).r (l.getD (j-1) default).r<0):SortSeg ws l a (i+1):=by
  obtain ⟨e1,e2,e3,e4,e5,e6,e7⟩:=h
  refine ⟨e3,e4,?_⟩
  have sl:seg l a (i+1)=seg l a j++l.getD j default::seg l (j+1) (i+1):=by
    rw [← cN (b:=j) ω ω,← cN (l:=l) (a:=j) (b:=j+1) (c:=i+1) ω ω,ky ω]; rfl
  have sw:seg ws a (i+1)=seg ws a i++[ws.getD i default]:=by rw [← cN (b:=i) ω ω,ky ω]
  rw [sl,sw,e6]
  refine nT mJ e5 (fun y hy=>?_) fun y hy=>?_
  · obtain ⟨q,h3,h4,rfl⟩:=ip ω hy
    exact e7 q ω ω
  · obtain ⟨q,h3,h4,rfl⟩:=ip ω hy
    rcases hc with hc | hc
    · omega
    · rw [nS,e6] at hc
      change ¬ kLt (cS (ws.getD i default)) (cS (l.getD (j-1) default)) at hc
      by_cases c:q=j-1
      · rw [c]; exact hc
      · have ho:Ord kLt cS (seg l a (j-1)++seg l (j-1) j):=by rw [cN ω ω]; exact e5.1.left
        have hle:=ho.le _ (vV (l:=l) (a:=a) (b:=j-1) (j:=q) ω h3 ω) _ (vV (l:=l) (a:=j-1) (b:=j) (j:=j-1) ω ω ω)
        intro hlt
        rcases mJ.tot (cS (l.getD q default)) (cS (l.getD (j-1) default)) with c1 | c1 | c1
        · exact hc (mJ.tr _ _ _ hlt c1)
        · rw [c1] at hlt; exact hc hlt
        · exact hle c1
def InsO (ws l:List RecV) (a b i:Nat):Prop:=(b≤a∧l=ws)∨(a<b∧i≤b∧SortSeg ws l a i)
theorem zm (h:b≤ws.length):InsO ws ws a b (a+1):=by
  by_cases c:b≤a
  · exact .inl ⟨c,rfl⟩
  · exact .inr ⟨ω,ω,zg ω⟩
theorem Ed (h:InsO ws l a b i) (h1:a<i) (h2:i<b):SortSeg ws l a i:=by
  rcases h with ⟨h,_⟩ | ⟨_,_,h⟩
  · omega
  · exact h
theorem uq (h:SortSeg ws l a (i+1)) (h1:a<i) (h2:i<b):InsO ws l a b (i+1) := .inr ⟨ω,ω,h⟩
theorem EY (h:InsO ws l a b i) (h2:¬ i<b):SortSeg ws l a b:=by
  rcases h with ⟨h,e⟩ | ⟨_,h1,h⟩
  · rw [e]; exact uE h
  · rwa [show b=i by omega]
end
end Go.Wk
namespace Go.Wk
def kAt (l:List RecV) (q:Nat):Int × Int × Int:=cS (l.getD q default)
section
variable {ws l l2 l3:List RecV}{a b m i j k s r p h mid e:Nat}
theorem fX (ho:Ord kLt cS (seg ws a b)) (hb:b≤ws.length) {x y:Nat}(h1:a≤x) (h2:x<y) (h3:y<b):¬ kLt (kAt ws y) (kAt ws x):=by
  have h4:Ord kLt cS (seg ws a y++seg ws y b):=by rw [cN ω ω]; exact ho
  exact h4.le _ (vV ω h1 h2) _ (vV hb (Nat.le_refl _) h3)
theorem G5 (hb:b≤ws.length) (hh:∀ x y,a≤x→x<y→y<b→¬ kLt (kAt ws y) (kAt ws x)):Ord kLt cS (seg ws a b):=by
  have key:∀ n,∀ a,b-a≤n→(∀ x y,a≤x→x<y→y<b→¬ kLt (kAt ws y) (kAt ws x))→Ord kLt cS (seg ws a b):=by
    intro n
    induction n with
    | zero=>intro a h1 _; rw [rW ω]; exact .nil
    | succ n ih=>
      intro a h1 h2
      by_cases c:a<b
      · rw [← cN (b:=a+1) ω ω,ky ω]
        refine .cons (fun y hy=>?_) (ih (a+1) ω fun x y q1 q2 q3=>h2 x y ω q2 q3)
        obtain ⟨q,q1,q2,rfl⟩:=ip hb hy
        exact h2 a q (Nat.le_refl _) ω q2
      · rw [rW ω]; exact .nil
  exact key _ a (Nat.le_refl _) hh
theorem nq (ho:Ord kLt cS (seg ws a b)) (hb:b≤ws.length) {x y:Nat}(h1:a≤x) (h2:y≤b):Ord kLt cS (seg ws x y):=
  G5 ω fun p q q1 q2 q3=>fX ho hb ω q2 ω
theorem BM {x y z:Int × Int × Int}(h1:¬ kLt y x) (h2:¬ kLt z y):¬ kLt z x:=fun h3=>by
  rcases mJ.tot x y with c | c | c
  · exact h2 (mJ.tr _ _ _ h3 c)
  · rw [← c] at h2; exact h2 h3
  · exact h1 c
theorem rV {x y z:Int × Int × Int}(h1:kLt x y) (h2:¬ kLt z y):kLt x z:=by
  rcases mJ.tot y z with c | c | c
  · exact mJ.tr _ _ _ h1 c
  · rw [← c]; exact h1
  · exact absurd c h2
theorem vR {x y z:Int × Int × Int}(h1:¬ kLt y x) (h2:kLt y z):kLt x z:=by
  rcases mJ.tot x y with c | c | c
  · exact mJ.tr _ _ _ c h2
  · rw [c]; exact h2
  · exact absurd c h1
def LoInv (ws:List RecV) (a m b i j:Nat):Prop:=m≤i∧i≤j∧j≤b∧(∀ q,m≤q→q<i→kLt (kAt ws q) (kAt ws a))∧∀ q,j≤q→q<b→¬ kLt (kAt ws q) (kAt ws a)
theorem EI (h:m≤b):LoInv ws a m b m b:=⟨Nat.le_refl _,h,Nat.le_refl _,fun q h1 h2=>by omega,fun q h1 h2=>by omega⟩
theorem GH (hI:LoInv ws a m b i j) (hb:b≤ws.length) (ho:Ord kLt cS (seg ws m b)) (h1:i≤h) (h2:h<j) (hc:cfR (ws.getD h default).r (ws.getD a default).r<0):LoInv ws a m b (h+1) j:=by
  obtain ⟨e1,e2,e3,e4,e5⟩:=hI
  have hc':kLt (kAt ws h) (kAt ws a):=nS.1 hc
  refine ⟨ω,ω,e3,fun q q1 q2=>?_,e5⟩
  by_cases c:q=h
  · rw [c]; exact hc'
  · exact vR (fX ho hb q1 ω ω) hc'
theorem HE (hI:LoInv ws a m b i j) (hb:b≤ws.length) (ho:Ord kLt cS (seg ws m b)) (h1:i≤h) (h2:h<j) (hc:¬ cfR (ws.getD h default).r (ws.getD a default).r<0):LoInv ws a m b i h:=by
  obtain ⟨e1,e2,e3,e4,e5⟩:=hI
  have hc':¬ kLt (kAt ws h) (kAt ws a):=fun x=>hc (nS.2 x)
  refine ⟨e1,h1,ω,e4,fun q q1 q2=>?_⟩
  by_cases c:q=h
  · rw [c]; exact hc'
  · exact BM hc' (fX ho hb ω ω q2)
def UpInv (ws l:List RecV) (a k:Nat):Prop:=a≤k∧k<ws.length∧l.length=ws.length∧(∀ q,q<a∨k<q→l.getD q default=ws.getD q default)∧(∀ q,a≤q→q<k→l.getD q default=ws.getD (q+1) default)∧l.getD k default=ws.getD a default
theorem Do (h:a<ws.length):UpInv ws ws a a:=⟨Nat.le_refl _,h,rfl,fun _ _=>rfl,fun q h1 h2=>by omega,rfl⟩
theorem Bz (hI:UpInv ws l a k) (hk:k+1<ws.length):UpInv ws ((l.set k (l.getD (k+1) default)).set (k+1) (l.getD k default)) a (k+1):=by
  obtain ⟨e1,e2,e3,e4,e5,e6⟩:=hI
  have hg:∀ q,((l.set k (l.getD (k+1) default)).set (k+1) (l.getD k default)).getD q default=if q=k+1 then l.getD k default else if q=k then l.getD (k+1) default else l.getD q default:=fun q=>by
    rw [bM,bM,List.length_set]
    by_cases c1:q=k+1
    · rw [if_pos ⟨c1,ω⟩,if_pos c1]
    · rw [if_neg (fun h=>c1 h.1),if_neg c1]
      by_cases c2:q=k
      · rw [if_pos ⟨c2,ω⟩,if_pos c2]
      · rw [if_neg (fun h=>c2 h.1),if_neg c2]
  refine ⟨ω,hk,by rw [List.length_set,List.length_set]; exact e3,fun q hq=>?_,fun q q1 q2=>?_,by rw [hg,if_pos rfl]; exact e6⟩
  · rw [hg,if_neg ω,if_neg ω]; exact e4 q ω
  · rw [hg,if_neg ω]
    by_cases c:q=k
    · rw [if_pos c,c]; exact e4 _ ω
    · rw [if_neg c]; exact e5 q q1 ω
theorem Hc (hI:UpInv ws l a k) (hL:LoInv ws a (a+1) b (k+1) (k+1)) (hb:b≤ws.length) (ho:Ord kLt cS (seg ws (a+1) b)):SortSeg ws l a b:=by
  obtain ⟨e1,e2,e3,e4,e5,e6⟩:=hI
  obtain ⟨f1,f2,f3,f4,f5⟩:=hL
  have s1:seg l a k=seg ws (a+1) (k+1):=fw (d:=default) (by rw [dv ω,dv ω]; omega) fun q hq=>by
    rw [dv ω] at hq
    rw [fO ω,fO ω,e5 _ ω ω]
    congr 1; omega
  have s2:seg l (k+1) b=seg ws (k+1) b:=il ω hb fun q q1 q2=>e4 q ω
  have sl:seg l a b=seg ws (a+1) (k+1)++ws.getD a default::seg ws (k+1) b:=by
    rw [← cN (b:=k) ω ω,← cN (l:=l) (a:=k) (b:=k+1) (c:=b) ω ω,ky ω,s1,s2,e6]; rfl
  have sw:seg ws a b=[ws.getD a default]++(seg ws (a+1) (k+1)++seg ws (k+1) b):=by
    rw [cN ω ω,← cN (l:=ws) (a:=a) (b:=a+1) (c:=b) ω ω,ky ω]
  refine ⟨e3,fun q hq=>e4 q ω,?_,?_⟩
  · rw [sl]
    refine (nq ho hb (Nat.le_refl _) f3).app (.cons (fun y hy=>?_) (nq ho hb ω (Nat.le_refl _))) fun x hx y hy=>?_
    · obtain ⟨q,q1,q2,rfl⟩:=ip hb hy
      exact f5 q q1 q2
    · obtain ⟨q,q1,q2,rfl⟩:=ip ω hx
      rcases List.mem_cons.1 hy with rfl | hy
      · exact fun hlt=>mJ.irr _ (mJ.tr _ _ _ hlt (f4 q q1 q2))
      · obtain ⟨q',q3,q4,rfl⟩:=ip hb hy
        exact fX ho hb q1 ω q4
  · rw [sl,sw]
    have:cH cS ([ws.getD a default]++seg ws (a+1) (k+1)) (seg ws (a+1) (k+1)++[ws.getD a default]):=cH.swap fun x hx y hy ee=>by
      rw [List.mem_singleton] at hx
      subst hx
      obtain ⟨q,q1,q2,rfl⟩:=ip ω hy
      have:=f4 q q1 q2
      unfold kAt at this
      rw [ee] at this
      exact mJ.irr _ this
    have h2:=this.app (cH.refl (xs:=seg ws (k+1) b))
    rw [List.append_assoc,List.append_assoc] at h2
    exact h2
def HiInv (ws:List RecV) (a m i j:Nat):Prop:=a≤i∧i≤j∧j≤m∧(∀ q,a≤q→q<i→¬ kLt (kAt ws m) (kAt ws q))∧∀ q,j≤q→q<m→kLt (kAt ws m) (kAt ws q)
theorem EF (h:a≤m):HiInv ws a m a m:=⟨Nat.le_refl _,h,Nat.le_refl _,fun q h1 h2=>by omega,fun q h1 h2=>by omega⟩
theorem G6 (hI:HiInv ws a m i j) (hb:m≤ws.length) (ho:Ord kLt cS (seg ws a m)) (h1:i≤h) (h2:h<j) (hc:¬ cfR (ws.getD m default).r (ws.getD h default).r<0):HiInv ws a m (h+1) j:=by
  obtain ⟨e1,e2,e3,e4,e5⟩:=hI
  have hc':¬ kLt (kAt ws m) (kAt ws h):=fun x=>hc (nS.2 x)
  refine ⟨ω,ω,e3,fun q q1 q2=>?_,e5⟩
  by_cases c:q=h
  · rw [c]; exact hc'
  · exact BM (fX ho hb q1 (show q<h by omega) ω) hc'
theorem Hs (hI:HiInv ws a m i j) (hb:m≤ws.length) (ho:Ord kLt cS (seg ws a m)) (h1:i≤h) (h2:h<j) (hc:cfR (ws.getD m default).r (ws.getD h default).r<0):HiInv ws a m i h:=by
  obtain ⟨e1,e2,e3,e4,e5⟩:=hI
  have hc':kLt (kAt ws m) (kAt ws h):=nS.1 hc
  refine ⟨e1,h1,ω,e4,fun q q1 q2=>?_⟩
  by_cases c:q=h
  · rw [c]; exact hc'
  · exact rV hc' (fX ho hb ω (show h<q by omega) q2)
def DnInv (ws l:List RecV) (a m i k:Nat):Prop:=i≤k∧InsInv ws l a m k∧∀ q,q<k→l.getD q default=ws.getD q default
theorem EC (hH:HiInv ws a m i i) (ho:Ord kLt cS (seg ws a m)):DnInv ws ws a m i m:=
  ⟨hH.2.2.1,u7 ⟨rfl,fun _ _=>rfl,ho,.refl⟩ (by have:=hH.1; have:=hH.2.2.1; omega),fun _ _=>rfl⟩
theorem Ba (hI:DnInv ws l a m i k) (hH:HiInv ws a m i i) (h1:i<k) (h2:m<ws.length):DnInv ws ((l.set k (l.getD (k-1) default)).set (k-1) (l.getD k default)) a m i (k-1):=by
  obtain ⟨e1,e2,e3⟩:=hI
  have hk:k≤m:=e2.2.1
  have hlen:=e2.2.2.1
  have hai:=hH.1
  have hc:cfR (l.getD k default).r (l.getD (k-1) default).r<0:=by
    rw [nS,e2.2.2.2.2.2.1,e3 (k-1) ω]
    exact hH.2.2.2.2 (k-1) ω ω
  refine ⟨ω,tu e2 ω h2 hc,fun q hq=>?_⟩
  rw [bM,bM,List.length_set,if_neg ω,if_neg ω]
  exact e3 q ω
theorem GO (hI:DnInv ws l a m i i) (hH:HiInv ws a m i i) (h2:m<ws.length):SortSeg ws l a (m+1):=by
  obtain ⟨e1,e2,e3⟩:=hI
  refine vI e2 h2 ?_
  by_cases c:i=a
  · exact .inl c
  · refine .inr fun hc=>?_
    have h3:=e2.1
    rw [nS,e2.2.2.2.2.2.1,e3 (i-1) ω] at hc
    exact hH.2.2.2.1 (i-1) ω ω hc
end
end Go.Wk
namespace Go.Wk
section
variable {ws l l2 l3:List RecV}{a b m s r p s0 r0 h e mid:Nat}
theorem lq (h:Ord kLt cS (seg ws a b)):SortSeg ws ws a b:=⟨rfl,fun _ _=>rfl,h,.refl⟩
def MidInv (ws:List RecV) (p s0 r0 s r:Nat):Prop:=s0≤s∧s≤r∧r≤r0∧(∀ c,s0≤c→c<s→¬ kLt (kAt ws (p-c)) (kAt ws c))∧∀ c,r≤c→c<r0→kLt (kAt ws (p-c)) (kAt ws c)
theorem Cg (h:s0≤r0):MidInv ws p s0 r0 s0 r0:=⟨Nat.le_refl _,h,Nat.le_refl _,fun q h1 h2=>by omega,fun q h1 h2=>by omega⟩
def MidOK (ws:List RecV) (a m b p s0 r0:Nat):Prop:=a≤s0∧r0≤m∧m+r0≤p+1∧p<b+s0∧b≤ws.length∧Ord kLt cS (seg ws a m)∧Ord kLt cS (seg ws m b)∧m≤b
theorem Gk (hI:MidInv ws p s0 r0 s r) (hk:MidOK ws a m b p s0 r0) (h1:s≤h) (h2:h<r) (hc:¬ cfR (ws.getD (p-h) default).r (ws.getD h default).r<0):MidInv ws p s0 r0 (h+1) r:=by
  obtain ⟨e1,e2,e3,e4,e5⟩:=hI
  obtain ⟨k1,k2,k3,k4,k5,k6,k7,k8⟩:=hk
  have hc':¬ kLt (kAt ws (p-h)) (kAt ws h):=fun x=>hc (nS.2 x)
  refine ⟨ω,ω,e3,fun c q1 q2=>?_,e5⟩
  by_cases cc:c=h
  · rw [cc]; exact hc'
  · exact BM (fX k6 ω ω (show c<h by omega) ω) (BM hc' (fX k7 k5 ω (show p-h<p-c by omega) ω))
theorem Hl (hI:MidInv ws p s0 r0 s r) (hk:MidOK ws a m b p s0 r0) (h1:s≤h) (h2:h<r) (hc:cfR (ws.getD (p-h) default).r (ws.getD h default).r<0):MidInv ws p s0 r0 s h:=by
  obtain ⟨e1,e2,e3,e4,e5⟩:=hI
  obtain ⟨k1,k2,k3,k4,k5,k6,k7,k8⟩:=hk
  have hc':kLt (kAt ws (p-h)) (kAt ws h):=nS.1 hc
  refine ⟨e1,h1,ω,e4,fun c q1 q2=>?_⟩
  by_cases cc:c=h
  · rw [cc]; exact hc'
  · exact vR (fX k7 k5 ω (show p-c<p-h by omega) ω) (rV hc' (fX k6 ω ω (show h<c by omega) ω))
def SymL (ws l:List RecV) (a s mid e b:Nat):Prop:=l.length=ws.length∧(∀ q,q<a∨b≤q→l.getD q default=ws.getD q default)∧cH cS (seg ws a b) (seg l a b) ∧
  (∀ x,a≤x→x<mid→∀ y,mid≤y→y<b→¬ kLt (kAt l y) (kAt l x))∧Ord kLt cS (seg l a s)∧Ord kLt cS (seg l s mid)∧Ord kLt cS (seg l mid e)∧Ord kLt cS (seg l e b)
theorem xg (hI:MidInv ws p s0 r0 s s) (hk:MidOK ws a m b p s0 r0) (g1:s0=a∨p+1=b+s0) (g2:r0=m∨p+1=m+r0) (hmid:mid+m=p+1) (he:e+s=p+1):SymL ws (fZ ws s m e) a s mid e b:=by
  obtain ⟨e1,e2,e3,e4,e5⟩:=hI
  obtain ⟨k1,k2,k3,k4,k5,k6,k7,k8⟩:=hk
  have hs:s≤m:=by omega
  have hme:m≤e:=by omega
  have heb:e≤b:=by omega
  have hmd:mid=s+(e-m):=by omega
  have hlen:=jw (l:=ws) hs hme ω
  have hg:∀ q,(fZ ws s m e).getD q default=ws.getD (if q<s then q else if q<mid then m+(q-s) else if q<e then s+(q-mid) else q) default:=fun q=>by
    rw [lJ hs hme ω]
    congr 1
    (repeat' split)<;>omega
  have kg:∀ q,kAt (fZ ws s m e) q=kAt ws (if q<s then q else if q<mid then m+(q-s) else if q<e then s+(q-mid) else q):=fun q=>congrArg cS (hg q)
  have hx:∀ x,a≤x→x<s→∀ y,e≤y→y<b→¬ kLt (kAt ws y) (kAt ws x):=fun x h1 h2 y h3 h4=>by
    by_cases c:s0<s
    · have h5:=e4 (s-1) ω ω
      rw [show p-(s-1)=e by omega] at h5
      have h6:¬ kLt (kAt ws e) (kAt ws x):=by
        by_cases c2:x=s-1
        · rw [c2]; exact h5
        · exact BM (fX k6 ω h1 (show x<s-1 by omega) ω) h5
      by_cases c3:y=e
      · rw [c3]; exact h6
      · exact BM h6 (fX k7 k5 hme (show e<y by omega) h4)
    · rcases g1 with g1 | g1<;>omega
  have hy:∀ x,s≤x→x<m→∀ y,m≤y→y<e→kLt (kAt ws y) (kAt ws x):=fun x h1 h2 y h3 h4=>by
    by_cases c:s<r0
    · have h5:=e5 s (Nat.le_refl _) c
      have h6:kLt (kAt ws y) (kAt ws s):=by
        by_cases c2:y=p-s
        · rw [c2]; exact h5
        · exact vR (fX k7 k5 h3 (show y<p-s by omega) ω) h5
      by_cases c3:x=s
      · rw [c3]; exact h6
      · exact rV h6 (fX k6 ω ω (show s<x by omega) h2)
    · rcases g2 with g2 | g2<;>omega
  have s1:seg (fZ ws s m e) a s=seg ws a s:=il ω ω fun q q1 q2=>by rw [hg,if_pos ω]
  have s2:seg (fZ ws s m e) s mid=seg ws m e:=fw (d:=default) (by rw [dv ω,dv ω]; omega) fun q hq=>by
    rw [dv ω] at hq
    rw [fO ω,fO ω,hg,if_neg ω,if_pos ω]; congr 1; omega
  have s3:seg (fZ ws s m e) mid e=seg ws s m:=fw (d:=default) (by rw [dv ω,dv ω]; omega) fun q hq=>by
    rw [dv ω] at hq
    rw [fO ω,fO ω,hg,if_neg ω,if_neg ω,if_pos ω]; congr 1; omega
  have s4:seg (fZ ws s m e) e b=seg ws e b:=il ω ω fun q q1 q2=>by rw [hg,if_neg ω,if_neg ω,if_neg ω]
  refine ⟨hlen,fun q hq=>?_,?_,fun x q1 q2 y q3 q4=>?_,?_,?_,?_,?_⟩
  · rw [hg]
    by_cases c:q<s
    · rw [if_pos c]
    · rw [if_neg c,if_neg ω,if_neg ω]
  · have t1:seg (fZ ws s m e) a b=seg ws a s++((seg ws m e++seg ws s m)++seg ws e b):=by
      rw [← cN (b:=s) ω ω,← cN (l:=fZ ws s m e) (a:=s) (b:=e) (c:=b) ω ω,← cN (l:=fZ ws s m e) (a:=s) (b:=mid) (c:=e) ω ω,s1,s2,s3,s4]
    have t2:seg ws a b=seg ws a s++((seg ws s m++seg ws m e)++seg ws e b):=by
      rw [cN (a:=s) hs hme,cN ω heb,cN ω ω]
    rw [t1,t2]
    refine cH.refl.app ((cH.swap fun x hx' y hy' ee=>?_).app .refl)
    obtain ⟨q,q1,q2,rfl⟩:=ip ω hx'
    obtain ⟨q',q3,q4,rfl⟩:=ip ω hy'
    have:=hy q q1 q2 q' q3 q4
    unfold kAt at this
    rw [ee] at this
    exact mJ.irr _ this
  · rw [kg,kg,if_neg (show ¬ y<s by omega),if_neg (show ¬ y<mid by omega)]
    by_cases c1:x<s
    · rw [if_pos c1]
      by_cases c2:y<e
      · rw [if_pos c2]; exact fX k6 ω q1 ω ω
      · rw [if_neg c2]; exact hx x q1 c1 y ω q4
    · rw [if_neg c1,if_pos q2]
      by_cases c2:y<e
      · rw [if_pos c2]
        exact fun hlt=>mJ.irr _ (mJ.tr _ _ _ hlt (hy _ ω ω _ ω ω))
      · rw [if_neg c2]; exact fX k7 k5 ω ω q4
  · rw [s1]; exact nq k6 ω (Nat.le_refl _) hs
  · rw [s2]; exact nq k7 k5 (Nat.le_refl _) heb
  · rw [s3]; exact nq k6 ω ω (Nat.le_refl _)
  · rw [s4]; exact nq k7 k5 hme (Nat.le_refl _)
theorem wI (h:s=m∨e=m) (hs:s≤m) (hm:m≤e) (he:e≤ws.length):fZ ws s m e=ws:=
  oY (jw hs hm he) fun j=>by
    rw [lJ hs hm he]
    congr 1
    (repeat' split)<;>omega
theorem sP (hS:SymL ws l a s mid e b) (h1:SortSeg l l2 a mid) (h2:SortSeg l2 l3 mid b) (ha:a≤mid) (hm:mid≤b) (hb:b≤ws.length):SortSeg ws l3 a b:=by
  obtain ⟨e1,e2,e3,e4,_⟩:=hS
  obtain ⟨f1,f2,f3,f4⟩:=h1
  obtain ⟨g1,g2,g3,g4⟩:=h2
  have t1:seg l3 a mid=seg l2 a mid:=il ω ω fun q q1 q2=>g2 q ω
  have t2:seg l2 mid b=seg l mid b:=il ω ω fun q q1 q2=>f2 q ω
  rw [t2] at g4
  refine ⟨ω,fun q hq=>by rw [g2 q ω,f2 q ω,e2 q hq],?_,?_⟩
  · rw [← cN (b:=mid) ha hm,t1]
    refine f3.app g3 fun x hx y hy=>?_
    obtain ⟨q,q1,q2,rfl⟩:=ip (l:=l) ω (f4.mem hx)
    obtain ⟨q',q3,q4,rfl⟩:=ip (l:=l) ω (g4.mem hy)
    exact e4 q q1 q2 q' q3 q4
  · refine e3.trans ?_
    rw [← cN (l:=l) (b:=mid) ha hm,← cN (l:=l3) (b:=mid) ha hm,t1]
    exact f4.app g4
end
theorem sI {l l2:List RecV}{a mid x y:Nat}(h:SortSeg l l2 a mid) (h1:mid≤x) (h2:y≤l.length):seg l2 x y=seg l x y:=
  il (by have:=h.1; omega) h2 fun q q1 _=>h.2.1 q ω
section
variable {P:Program}{n:Nat}{L:Env}{w:World}{d:Option Tmp}{ty:TypeId}{p:String}{af:Array Edge}{g:Option (Nat × Bool)}
theorem pz {xt yt:TypeId}{x y:Operand}{k1 k2:IntKind}{m:Nat}(hx:evL L x=some (.int k1 (m:Nat))) (hy:evL L y=some (.int k2 1)) (hk:k1 = .u64):Py P n L w ⟨d,.binOp .shr xt x y yt,ty,p,af,g⟩ (.int k1 ((m / 2:Nat):Int)):=by
  subst hk
  have h:=y6 (P:=P) (n:=n) (w:=w) (d:=d) (ty:=ty) (p:=p) (af:=af) (g:=g) (xt:=xt) (yt:=yt) hx hy ω
  have e:(m:Int).fdiv (2^min (1:Int).toNat IntKind.u64.bits)=((m / 2:Nat):Int):=by
    show (m:Int).fdiv (2^1)=_
    rw [Int.fdiv_eq_ediv_of_nonneg _ ω]
    omega
  rw [e] at h
  exact h
end
end Go.Wk
namespace Go.Wk
section
variable {ws l:List RecV}{a b bs c e x y:Nat}
theorem ve {l l':List RecV}(h:SortSeg l l' a b) (hab:a≤b) (hb:b≤l.length):cH cS l l':=by
  obtain ⟨h1,h2,h3⟩:=h
  have e1:l=seg l 0 a++(seg l a b++seg l b l.length):=by
    rw [cN hab hb,cN (Nat.zero_le _) ω]; unfold seg; rw [List.take_length,List.drop_zero]
  have e2:l'=seg l 0 a++(seg l' a b++seg l b l.length):=by
    rw [il ω ω (fun j _ q=>(h2 j (.inl q)).symm) (a:=0) (b:=a) (xs:=l) (ys:=l'),il (Nat.le_refl _) ω (fun j q _=>(h2 j (.inr q)).symm) (a:=b) (b:=l.length) (xs:=l) (ys:=l')]
    rw [cN hab ω,cN (Nat.zero_le _) ω]; unfold seg; rw [← h1,List.take_length,List.drop_zero]
  intro k
  have:=(cH.app (cH.refl (key:=cS) (xs:=seg l 0 a)) (cH.app h3.2 (cH.refl (key:=cS) (xs:=seg l b l.length)))) k
  rw [e2]; conv=>rhs; rw [e1]
  exact this
theorem BW {l l':List RecV}(h:SortSeg l l' a b) (hx:y≤a∨b≤x) (hy:y≤l.length):seg l' x y=seg l x y:=
  il (by have:=h.1; omega) hy fun j q1 q2=>h.2.1 j ω
def OrdAt (l:List RecV) (bs c:Nat):Prop:=Ord kLt cS (seg l c (min (c+bs) l.length))
def Blocks (ws l:List RecV) (bs a:Nat):Prop:=l.length=ws.length∧cH cS ws l∧bs ∣ a∧a≤ws.length∧∀ c,bs ∣ c→c<a→OrdAt l bs c
def AllB (ws l:List RecV) (bs:Nat):Prop:=l.length=ws.length∧cH cS ws l∧∀ c,bs ∣ c→c<ws.length→OrdAt l bs c
theorem vJ {bs c a:Nat}(h1:bs ∣ c) (h2:bs ∣ a) (h:c<a):c+bs≤a:=by
  obtain ⟨x,rfl⟩:=h1; obtain ⟨y,rfl⟩:=h2
  have:x<y:=Nat.lt_of_mul_lt_mul_left h
  calc bs*x+bs=bs*(x+1):=by rw [Nat.mul_add,Nat.mul_one]
    _≤bs*y:=Nat.mul_le_mul_left _ this
theorem DU:Blocks ws ws bs 0:=⟨rfl,.refl,Nat.dvd_zero _,Nat.zero_le _,fun c _ h=>by omega⟩
theorem vH {l l':List RecV}(hs:SortSeg l l' a b) (hc:c+bs≤a∨b≤c) (h:OrdAt l bs c):OrdAt l' bs c:=by
  unfold OrdAt at h ⊢
  rw [hs.1,BW hs ω ω]; exact h
theorem AU {l l':List RecV}(hI:Blocks ws l bs a) (h0:0<bs) (h:a+bs≤ws.length) (hs:SortSeg l l' a (a+bs)):Blocks ws l' bs (a+bs):=by
  obtain ⟨h1,h2,h3,h4,h5⟩:=hI
  have e:=hs.1
  refine ⟨ω,h2.trans (ve hs ω ω),Nat.dvd_add h3 (Nat.dvd_refl _),h,fun c q1 q2=>?_⟩
  by_cases hc:c<a
  · exact vH hs (.inl (vJ q1 h3 hc)) (h5 c q1 hc)
  · have:c=a:=by
      by_cases hca:c=a
      · exact hca
      · have:=vJ h3 q1 ω; omega
    subst this
    unfold OrdAt; rw [show min (c+bs) l'.length=c+bs by omega]; exact hs.2.2.1
theorem Bf {l l':List RecV}(hI:Blocks ws l bs a) (h:ws.length<a+bs) (hs:SortSeg l l' a ws.length):AllB ws l' bs:=by
  obtain ⟨h1,h2,h3,h4,h5⟩:=hI
  have e:=hs.1
  refine ⟨ω,h2.trans (ve hs ω ω),fun c q1 q2=>?_⟩
  by_cases hc:c<a
  · exact vH hs (.inl (vJ q1 h3 hc)) (h5 c q1 hc)
  · have:c=a:=by
      by_cases hca:c=a
      · exact hca
      · have:=vJ h3 q1 ω; omega
    subst this
    unfold OrdAt; rw [show min (c+bs) l'.length=ws.length by omega]; exact hs.2.2.1
def TwoB (ws l:List RecV) (bs a:Nat):Prop:=Blocks ws l (2*bs) a∧∀ c,bs ∣ c→a≤c→c<ws.length→OrdAt l bs c
theorem CD (h:AllB ws l bs):TwoB ws l bs 0:=⟨⟨h.1,h.2.1,Nat.dvd_zero _,Nat.zero_le _,fun c _ q=>by omega⟩,fun c q _=>h.2.2 c q⟩
theorem sT {bs c:Nat}(h:2*bs ∣ c):bs ∣ c:=Nat.dvd_trans (Nat.dvd_mul_left _ _) h
theorem GB (h:TwoB ws l bs a) (h1:a+bs≤ws.length) (h0:0<bs):Ord kLt cS (seg l a (a+bs)):=by
  have:=h.2 a (sT h.1.2.2.1) (Nat.le_refl _) ω
  unfold OrdAt at this
  rwa [show min (a+bs) l.length=a+bs by have:=h.1.1; omega] at this
theorem Gw (h:TwoB ws l bs a) (h1:a+bs<ws.length) (he:e=min (a+bs+bs) ws.length):Ord kLt cS (seg l (a+bs) e):=by
  have:=h.2 (a+bs) (Nat.dvd_add (sT h.1.2.2.1) (Nat.dvd_refl _)) ω h1
  unfold OrdAt at this
  rw [h.1.1] at this
  rw [he]; exact this
theorem Dg {l l':List RecV}(hI:TwoB ws l bs a) (h0:0<bs) (h:a+2*bs≤ws.length) (hs:SortSeg l l' a (a+2*bs)):TwoB ws l' bs (a+2*bs):=
  ⟨AU hI.1 ω h hs,fun c q1 q2 q3=>vH hs (.inr q2) (hI.2 c q1 ω q3)⟩
theorem wE {l l':List RecV}(hI:TwoB ws l bs a) (h:ws.length<a+2*bs) (hs:SortSeg l l' a ws.length):AllB ws l' (2*bs):=Bf hI.1 h hs
theorem Di (hI:TwoB ws l bs a) (h0:0<bs) (h:ws.length≤a+bs):AllB ws l (2*bs):=by
  have e:=hI.1.1
  refine wE hI ω ?_
  by_cases ha:a<ws.length
  · have:=hI.2 a (sT hI.1.2.2.1) (Nat.le_refl _) ha
    unfold OrdAt at this
    rw [show min (a+bs) l.length=ws.length by omega] at this
    exact lq this
  · exact uE ω
theorem Gj (h:AllB ws l bs) (h1:ws.length≤bs) (h0:0<ws.length):SortSeg ws l 0 ws.length:=by
  have:=h.2.2 0 (Nat.dvd_zero _) h0
  unfold OrdAt at this
  rw [show min (0+bs) l.length=ws.length by have:=h.1; omega] at this
  refine ⟨h.1,fun q hq=>?_,this,?_⟩
  · have h':=h.1
    rw [List.getD_eq_getElem?_getD,List.getD_eq_getElem?_getD,List.getElem?_eq_none ω,List.getElem?_eq_none ω]
  · have e:∀ (x:List RecV),x.length=ws.length→seg x 0 ws.length=x:=fun x hx=>by unfold seg; rw [← hx,List.take_length,List.drop_zero]
    rw [e l h.1,e ws rfl]; exact h.2.1
theorem Ek (h:SortSeg ws l 0 ws.length):Stable kLt cS ws l:=by
  have e:∀ (x:List RecV),x.length=ws.length→seg x 0 ws.length=x:=fun x hx=>by unfold seg; rw [← hx,List.take_length,List.drop_zero]
  have:=h.2.2; rw [e l h.1,e ws rfl] at this; exact this
end
end Go.Wk
namespace Go.Wk
open Rp (sz own)
def RdV (w:World) (ft:List Nat) (vs:List RecV):Prop:=∀ v∈vs,∃ f,own false w v.cs v.r f∧∀ b∈f,b∈ft
section
variable {w w':World}{ft f:List Nat}{vs us:List RecV}
theorem RdV.to (h:RdV w ft vs) (e:Ext No w w'):RdV w' ft vs:=fun v hv=>by
  obtain ⟨f,h1,h2⟩:=h v hv
  exact ⟨f,Rp.st h1 fun b hb=>e.block b (Rp.lt h1 b hb) id,h2⟩
theorem RdV.sub (h:RdV w ft vs) (hs:∀ v∈us,v∈vs):RdV w ft us:=fun v hv=>h v (hs v hv)
theorem RdV.nil:RdV w ft []:=fun v hv=>by simp at hv
theorem RdV.app (h:RdV w ft vs) (k:RdV w ft us):RdV w ft (vs++us):=fun v hv=>by
  rcases List.mem_append.1 hv with hv | hv
  · exact h v hv
  · exact k v hv
theorem RdV.at {k:Nat}(h:RdV w ft vs) (hk:k<vs.length):RdV w ft [vs.getD k default]:=fun v hv=>by
  rw [List.mem_singleton] at hv
  rw [hv,bI hk]
  exact h _ (List.getElem_mem _)
theorem u5:∀ {vs:List RecV}{cs f0},bY false w cs vs f0→RdV w ft vs→∃ f,bY false w cs (vs.map RecV.r) f∧∀ b∈f,b∈ft
  | [],_,_,h,_=>⟨[],rfl,σ⟩
  | v::vs,cs,f0,⟨g1,g2,e0,⟨e1,eg,ok⟩,h2⟩,hr=>by
    obtain ⟨f1,k1,k2⟩:=hr v σ
    obtain ⟨f2,r1,r2⟩:=u5 h2 (hr.sub fun x hx=>by simp [hx])
    refine ⟨f1++f2,⟨f1,f2,rfl,?_,r1⟩,fun b hb=>?_⟩
    · rw [show cs.take (sz Rec)=v.cs from e1]; exact k1
    · rcases List.mem_append.1 hb with hb | hb
      · exact k2 b hb
      · exact r2 b hb
theorem DY {s:Bool}{ad n cap} {f0} (h:own s w [.slice ad n cap] vs f0) (hr:RdV w ft vs):∃ f,own false w [.slice ad n cap] (vs.map RecV.r) f∧∀ b∈f,b∈f0∨b∈ft:=by
  have el:(vs.map RecV.r).length=vs.length:=List.length_map _
  rcases az h with ⟨hf,A,C,e,rfl,rfl⟩ | ⟨e,rfl,rfl⟩ | ⟨b,o,cap',cur,T,fr,fs,h1,h2,h3,h4,h5,h6,h7,h8⟩
  · exact ⟨[],.inl ⟨rfl,A,C,e,rfl,rfl⟩,σ⟩
  · exact ⟨[],.inr (.inl ⟨e,rfl,rfl⟩),σ⟩
  · obtain ⟨f1,k1,k2⟩:=u5 h8 hr
    refine ⟨b::f1,.inr (.inr ⟨b,o,cap',cur,T,fr,f1,by rw [el]; exact h1,rfl,h3,h4,by rw [el]; exact h5,h6,h7,k1⟩),fun x hx=>?_⟩
    rcases List.mem_cons.1 hx with rfl | hx
    · left; rw [h2]; simp
    · exact .inr (k2 x hx)
end
theorem FE {vs:List RecV}(h:Ord kLt cS vs):Ord kLt ka (vs.map RecV.r):=by
  induction h with
  | nil=>exact .nil
  | cons h1 h2 ih=>exact .cons (fun y hy=>by obtain ⟨v,hv,rfl⟩:=List.mem_map.1 hy; exact h1 v hv) ih
theorem EM {vs us:List RecV}(h:cH cS vs us):cH ka (vs.map RecV.r) (us.map RecV.r):=fun k=>by
  rw [List.filter_map,List.filter_map]
  exact congrArg (List.map RecV.r) (h k)
theorem Ar {vs us:List RecV}(h:Stable kLt cS vs us):Stable kLt ka (vs.map RecV.r) (us.map RecV.r):=⟨FE h.1,EM h.2⟩
theorem FV {ys:List Rec}(x:Rec) (h:Ord kLt ka ys):∃ A B,ys=A++B∧(∀ y∈B,kLt (ka x) (ka y))∧∀ y∈A,¬ kLt (ka x) (ka y):=by
  induction h with
  | nil=>exact ⟨[],[],rfl,σ,σ⟩
  | cons h1 h2 ih=>
    rename_i y l
    by_cases c:kLt (ka x) (ka y)
    · refine ⟨[],y::l,rfl,fun z hz=>?_,σ⟩
      rcases List.mem_cons.1 hz with rfl | hz
      · exact c
      · exact rV c (h1 z hz)
    · obtain ⟨A,B,e,hB,hA⟩:=ih
      refine ⟨y::A,B,by rw [e]; rfl,hB,fun z hz=>?_⟩
      rcases List.mem_cons.1 hz with rfl | hz
      · exact c
      · exact hA z hz
theorem xd (xs:List Rec) (x:Rec) (h:∃ ys,Stable kLt ka xs ys):∃ ys,Stable kLt ka (xs++[x]) ys:=by
  obtain ⟨ys,hy⟩:=h
  obtain ⟨A,B,rfl,hB,hA⟩:=FV x hy.1
  exact ⟨_,nT mJ hy hB hA⟩
theorem nr (xs:List Rec):∃ ys,Stable kLt ka xs ys:=by
  have:∀ (n:Nat),∃ ys,Stable kLt ka (xs.take n) ys:=fun n=>by
    induction n with
    | zero=>exact ⟨[],by simp; exact ⟨.nil,.refl⟩⟩
    | succ n ih=>
      by_cases hn:n<xs.length
      · rw [List.take_add_one,List.getElem?_eq_getElem hn]; exact xd _ _ ih
      · rw [List.take_of_length_le ω] at ih ⊢; exact ih
  have:=this xs.length
  rwa [List.take_length] at this
noncomputable def Hz (xs:List Rec):List Rec:=(nr xs).choose
theorem Fm {xs ys:List Rec}(h:Stable kLt ka xs ys):ys=Hz xs:=uc mJ h (nr xs).choose_spec
noncomputable def ddR (out:List Rec) (r:Rec):List Rec:=if r∈out then out else out++[r]
noncomputable def allR (z:Wld) (k:Nat):List Rec:=((z.Tapes.take k).map Tape.Recs).flatten
noncomputable def dds (rs:List Rec):List Rec:=rs.foldl ddR []
noncomputable def eE (z:Wld):List Rec:=Hz (dds (allR z z.Tapes.length))
noncomputable def gT (z:Wld) (k j:Nat):List Rec:=dds (allR z k++(z.Tapes.getD k default).Recs.take j)
theorem yF {z:Wld}:gT z 0 0=[]:=by simp [gT,allR,dds]
theorem so {z:Wld}{k j:Nat}(h:j<(z.Tapes.getD k default).Recs.length):gT z k (j+1)=ddR (gT z k j) ((z.Tapes.getD k default).Recs.getD j default):=by
  unfold gT dds
  rw [List.take_add_one,List.getElem?_eq_getElem h,bI h,← List.append_assoc,List.foldl_append]
  rfl
theorem Aw {z:Wld}{k:Nat}(h:k<z.Tapes.length):gT z k (z.Tapes.getD k default).Recs.length=gT z (k+1) 0:=by
  unfold gT allR
  rw [List.take_length,List.take_add_one,List.getElem?_eq_getElem h,bI h,List.take_zero,List.append_nil,List.map_append,List.flatten_append]
  simp only [Option.toList_some,List.map_cons,List.map_nil,List.flatten_cons,List.flatten_nil,List.append_nil]
theorem Cx {z:Wld}{ys:List Rec}(h:Stable kLt ka (gT z z.Tapes.length 0) ys):ys=eE z:=by
  unfold eE
  rw [← Fm]
  unfold gT at h
  simpa using h
theorem GX {out:List Rec}{r:Rec}(h:r∈out):ddR out r=out:=if_pos h
theorem HI {out:List Rec}{r:Rec}(h:¬ r∈out):ddR out r=out++[r]:=if_neg h
theorem zM {xs ys:List Rec}(h:Stable kLt ka xs ys) (r:Rec):r∈ys↔r∈xs:=⟨fun q=>h.2.mem q,fun q=>h.2.symm.mem q⟩
theorem CG {z:Wld}:∀ {k j:Nat},(gT z k j).length≤(allR z k).length+j:=by
  intro k j
  have key:∀ (rs out:List Rec),(rs.foldl ddR out).length≤out.length+rs.length:=by
    intro rs
    induction rs with
    | nil=>intro out; simp
    | cons r rs ih=>
      intro out
      have:=ih (ddR out r)
      have h2:(ddR out r).length≤out.length+1:=by unfold ddR; split<;>simp
      simp only [List.foldl_cons,List.length_cons]
      omega
  have:=key (allR z k++(z.Tapes.getD k default).Recs.take j) []
  unfold gT dds
  simp only [List.length_nil,List.length_append,List.length_take] at this
  omega
def orI:List Int→Int
  | []=>0
  | x::xs=>if x=0 then orI xs else x
theorem Dk:∀ {xs:List Int}{k:Nat},k<xs.length→(∀ i,i<k→xs.getD i 0=0)→xs.getD k 0≠0→orI xs=xs.getD k 0
  | [],k,h,_,_=>by simp at h
  | x::xs,0,_,_,h2=>if_neg h2
  | x::xs,k+1,h,h1,h2=>by
    have h0:x=0:=h1 0 ω
    show (if x=0 then orI xs else x)=_
    rw [if_pos h0,Dk (k:=k) (by simpa using h) (fun i hi=>h1 (i+1) ω) h2]
    rfl
theorem Gx:∀ {xs:List Int},(∀ i,i<xs.length→xs.getD i 0=0)→orI xs=0
  | [],_=>rfl
  | x::xs,h=>by
    have h0:x=0:=h 0 σ
    show (if x=0 then orI xs else x)=_
    rw [if_pos h0]
    exact Gx fun i hi=>h (i+1) (by simpa using hi)
theorem HL {x y:Rec}:orI [jl x.Seq y.Seq,jl x.Kind y.Kind,jl x.Group y.Group]=cfR x y:=by
  unfold cfR orI orI orI orI
  by_cases a:jl x.Seq y.Seq=0<;>by_cases b:jl x.Kind y.Kind=0<;>by_cases c:jl x.Group y.Group=0<;>simp [a,b,c]
end Go.Wk
namespace Go.Wk
def nc (r:Rec) (i:Nat):Bool:=decide (r.Delta.getD i 0=0) || decide ((i:Int)∈r.Rows)
def fA (r:Rec):Bool:=decide (r.Kind=4) && (List.range r.Delta.length).all (nc r)
theorem CB {r:Rec}{k:Nat}(hk:k<r.Delta.length) (h:nc r k=false):fA r=false:=by
  unfold fA
  rw [Bool.and_eq_false_iff]
  refine .inr ?_
  rw [List.all_eq_false]
  exact ⟨k,List.mem_range.2 hk,by rw [h]; simp⟩
theorem wU {r:Rec}{k:Nat}:nc r k = !(decide (((r.Delta.getD k 0).toNat:Int)≠0) && !decide ((k:Int)∈r.Rows)):=by
  unfold nc
  have h:(((r.Delta.getD k 0).toNat:Int)=0)↔(r.Delta.getD k 0=0):=lO (b:=0)
  have h2:decide (((r.Delta.getD k 0).toNat:Int)≠0) = !decide (r.Delta.getD k 0=0):=by
    by_cases h1:r.Delta.getD k 0=0
    · rw [decide_eq_true h1,decide_eq_false (by rw [h.2 h1]; simp)]; rfl
    · rw [decide_eq_false h1,decide_eq_true (p:=((r.Delta.getD k 0).toNat:Int)≠0) (fun e=>h1 (h.1 e))]; rfl
  rw [h2]
  cases decide (r.Delta.getD k 0=0)<;>simp
theorem BF {r:Rec}(h:∀ i,i<r.Delta.length→nc r i=true):fA r=decide (r.Kind=4):=by
  unfold fA
  rw [List.all_eq_true.2 fun i hi=>h i (List.mem_range.1 hi),Bool.and_true]
end Go.Wk
namespace Go.Wk
open Rp (sz own)
def gt (p:Rec→Bool) (rs:List Rec):Nat→Int
  | 0 => -1
  | k+1=>if p (rs.getD k default)=true then (k:Int) else gt p rs k
def xU (p:Rec→Bool) (rs:List Rec):Int:=gt p rs rs.length
section
variable {p:Rec→Bool}{rs:List Rec}{k:Nat}
theorem Ao (h:p (rs.getD k default)=true):gt p rs (k+1)=k:=if_pos h
theorem uH (h:p (rs.getD k default)=false):gt p rs (k+1)=gt p rs k:=if_neg (by rw [h]; simp)
theorem uO:∀ (k:Nat),-1≤gt p rs k∧gt p rs k<k
  | 0=>by simp [gt]
  | k+1=>by
    have:=uO k
    rw [gt]
    split<;>omega
theorem DG : -1≤xU p rs∧xU p rs<rs.length:=uO rs.length
theorem va (h:p (rs.getD k default)=true):∀ {n:Nat},k<n→(∀ j,k<j→j<n→p (rs.getD j default)=false)→gt p rs n=k
  | 0,h1,_=>by omega
  | n+1,h1,h2=>by
    by_cases e:n=k
    · subst e; exact Ao h
    · rw [uH (h2 n ω ω)]
      exact va h ω fun j a b=>h2 j a ω
theorem ES (h1:k<rs.length) (h:p (rs.getD k default)=true) (h2:∀ j,k<j→j<rs.length→p (rs.getD j default)=false):xU p rs=k:=va h h1 h2
theorem ra:∀ {n:Nat},(∀ j,j<n→p (rs.getD j default)=false)→gt p rs n = -1
  | 0,_=>rfl
  | n+1,h=>by rw [uH (h n ω)]; exact ra fun j a=>h j ω
theorem sW (h:∀ j,j<rs.length→p (rs.getD j default)=false):xU p rs = -1:=ra h
theorem sN:∀ {n:Nat},0≤gt p rs n→p (rs.getD (gt p rs n).toNat default)=true
  | 0,h=>by simp [gt] at h
  | n+1,h=>by
    rw [gt] at h ⊢
    split
    · next e=>simpa using e
    · next e=>rw [if_neg e] at h; exact sN h
end
def shP (g row:Int) (r:Rec):Bool:=decide (r.Kind=4) && (decide (r.Group=g) && decide (r.Row=row))
def spS (r x:Rec):Bool:=(decide (x.Kind=3) && decide (x.Seq=r.Seq)) || (decide (x.Kind=4) && (decide (x.Group=r.Group) && (decide (x.Row=r.Row) && decide (r.Seq<x.Seq))))
noncomputable def gw (z:Wld) (g row:Int):Int:=xU (shP g row) (eE z)
noncomputable def opR (z:Wld) (g row:Int):Rec:=if 0≤gw z g row then (eE z).getD (gw z g row).toNat default else default
noncomputable def ju (z:Wld) (g row:Int):Bool:=decide (0≤gw z g row) && !((eE z).any (spS (opR z g row)))
section
variable {z:Wld}{g row:Int}{k:Nat}
theorem wH {r:Rec}(h:shP g row r=true):r.Kind=4∧r.Group=g∧r.Row=row:=by
  unfold shP at h; simp only [Bool.and_eq_true,decide_eq_true_eq] at h; exact h
theorem GJ (h:gw z g row=k):opR z g row=(eE z).getD k default:=by unfold opR; rw [if_pos ω,h]; rfl
theorem EK (h:gw z g row = -1):opR z g row=default:=by unfold opR; rw [if_neg ω]
theorem F5 (h:gw z g row = -1):ju z g row=false:=by unfold ju; rw [decide_eq_false ω]; rfl
theorem FC (h:0≤gw z g row):ju z g row = !((eE z).any (spS (opR z g row))):=by unfold ju; rw [decide_eq_true h]; rfl
end
noncomputable def cR (z:Wld) (g row:Int):Int:=if ju z g row=true then if fA (opR z g row)=true then 0 else 6 else 4
noncomputable def bZ (z:Wld) (g:Int):Nat→List Int
  | 0=>[]
  | k+1=>if cQ z g=true∧cR z g k≠0 then bZ z g k++[(k:Int)] else bZ z g k
section
variable {z:Wld}{g row:Int}{k:Nat}
theorem dO (h2:ju z g row=false):cR z g row=4:=by rw [cR,if_neg (by simp [h2])]
theorem qP (h2:ju z g row=true) (h3:fA (opR z g row)=false):cR z g row=6:=by rw [cR,if_pos h2,if_neg (by simp [h3])]
theorem tc (h2:ju z g row=true) (h3:fA (opR z g row)=true):cR z g row=0:=by rw [cR,if_pos h2,if_pos h3]
theorem xv (h:cQ z g=true) (h2:cR z g k≠0):bZ z g (k+1)=bZ z g k++[(k:Int)]:=by rw [bZ,if_pos ⟨h,h2⟩]
theorem zF (h:cQ z g=false∨cR z g k=0):bZ z g (k+1)=bZ z g k:=by
  rw [bZ,if_neg]
  rintro ⟨a,b⟩
  rcases h with h | h
  · rw [h] at a; cases a
  · exact b h
theorem qV:∀ k,(bZ z g k).length≤k
  | 0=>by simp [bZ]
  | k+1=>by
    have:=qV k
    rw [bZ]
    split
    · simp; omega
    · omega
end
end Go.Wk
namespace Go.Wk
open Rp (sz own)
section
variable {w w' w0:World}{ft f:List Nat}{vs us:List RecV}{M:Nat→Prop}{Δ F:List Rsc}
theorem RdV.back (h:RdV w' ft vs) (e:Ext No w w') (hl:∀ b∈ft,b<w.heap.size):RdV w ft vs:=fun v hv=>by
  obtain ⟨f,h1,h2⟩:=h v hv
  exact ⟨f,Rp.st h1 fun b hb=>(e.block b (hl b (h2 b hb)) id).symm,h2⟩
def InF {α:Type}[Rp α] (w:World) (ft:List Nat) (cs:List Value) (x:α):Prop:=∃ f,own false w cs x f∧∀ b∈f,b∈ft
theorem RdV.inAt {k:Nat}(h:RdV w ft vs) (hk:k<vs.length):InF w ft (vs.getD k default).cs (vs.getD k default).r:=h _ (by rw [bI hk]; exact List.getElem_mem _)
theorem InF.to {α:Type}[Rp α] {cs:List Value}{x:α}(h:InF w ft cs x) (e:Ext No w w'):InF w' ft cs x:=by
  obtain ⟨f,h1,h2⟩:=h
  exact ⟨f,Rp.st h1 fun b hb=>e.block b (Rp.lt h1 b hb) id,h2⟩
theorem InF.back {α:Type}[Rp α] {cs:List Value}{x:α}(h:InF w' ft cs x) (e:Ext No w w') (hl:∀ b∈ft,b<w.heap.size):InF w ft cs x:=by
  obtain ⟨f,h1,h2⟩:=h
  exact ⟨f,Rp.st h1 fun b hb=>(e.block b (hl b (h2 b hb)) id).symm,h2⟩
theorem InF.val {v:RecV}{x:Rec}(h:InF w ft v.cs v.r) (e:v.r=x):InF w ft (RecV.mk x v.A6 v.C6 v.A7 v.C7 v.A8 v.C8).cs x:=by subst e; exact h
theorem InF.rdv {v:RecV}(h:InF w ft v.cs v.r):RdV w ft [v]:=fun u hu=>by
  rw [List.mem_singleton] at hu; subst hu; exact h
theorem my:InF w ft (RecV.mk default none 0 none 0 none 0).cs (default:Rec):=⟨[],az DJ,σ⟩
theorem InF.ok {v:RecV}(h:InF w ft v.cs v.r):v.r.Ok:=by
  obtain ⟨f,h1,_⟩:=h
  obtain ⟨f6,f7,f8,_,ok,_⟩:=wX h1
  exact ok
theorem Sep.recF {β:Type}[Rp β] (h:Sep M w0 Δ F w) (j:Nat) {s:Bool}{cs0:List Value}{y:β}(hj:F[j]? = some (Wk.seen s cs0 y ft)) {x:Rec}{A6:Option Addr}{C6:Nat}{A7:Option Addr}{C7:Nat}{A8:Option Addr}{C8:Nat}(hx:InF w ft (RecV.mk x A6 C6 A7 C7 A8 C8).cs x) :
    ∃ f6 f7 f8,x.Ok∧x.Rows.length≤maxLen∧x.Data.length≤maxLen∧x.Delta.length≤maxLen∧Sep M w0 Δ (F++[Wk.seen false [.slice A6 x.Rows.length C6] x.Rows f6,Wk.seen false [.slice A7 x.Data.length C7] x.Data f7,Wk.seen false [.slice A8 x.Delta.length C8] x.Delta f8]) w:=by
  obtain ⟨f,h1,h2⟩:=hx
  obtain ⟨f6,f7,f8,e,ok,o6,o7,o8⟩:=wX (x:=x) h1
  have key:∀ b∈f,b ∉ blocks Δ:=fun b hb=>h.ap _ (List.mem_of_getElem? hj) b (h2 b hb)
  have H1:=h.look (r:=Wk.seen false [.slice A6 x.Rows.length C6] x.Rows f6) o6 fun b hb=>key b (by rw [e]; simp [show b∈f6 from hb])
  have H2:=H1.look (r:=Wk.seen false [.slice A7 x.Data.length C7] x.Data f7) o7 fun b hb=>key b (by rw [e]; simp [show b∈f7 from hb])
  have H3:=H2.look (r:=Wk.seen false [.slice A8 x.Delta.length C8] x.Delta f8) o8 fun b hb=>key b (by rw [e]; simp [show b∈f8 from hb])
  refine ⟨f6,f7,f8,ok,jN o6,jN o7,jN o8,?_⟩
  simpa using H3
theorem Mut.none {α:Type}[Rp α] {cs:List Value}{x:α}{fp:List Nat}(e:Ext No w w') (h:own true w cs x fp) (hn:fp.Nodup):Mut w w' fp cs x:=
  ⟨e.no,fp,Rp.st h fun b hb=>e.block b (Rp.lt h b hb) id,hn,fun b hb => .inl hb⟩
theorem yf:Stable kLt cS ([]:List RecV) []:=⟨.nil,.refl⟩
theorem RdV.stable (h:RdV w ft vs) (hs:Stable kLt cS vs us):RdV w ft us:=h.sub fun v hv=>hs.2.mem hv
theorem RdV.snoc {v:RecV}(h:RdV w ft vs) (hv:InF w ft v.cs v.r):RdV w ft (vs++[v]):=h.app hv.rdv
theorem RdV.okAt {k:Nat}(h:RdV w ft vs) (hk:k<vs.length):(vs.getD k default).r.Ok:=(h.inAt hk).ok
theorem RdV.list {s:Bool}{ad n cap} {f0:List Nat}(hr:RdV w ft vs) (h:own s w [.slice ad n cap] vs f0):Sees w [.slice ad n cap] (vs.map RecV.r):=by
  obtain ⟨f,h1,_⟩:=DY h hr
  exact ⟨f,h1⟩
end
theorem wv {a b:Int} : -1≤jl a b∧jl a b≤1:=by unfold jl; split<;>(try split)<;>omega
instance (a b:Int × Int × Int):Decidable (kLt a b):=by unfold kLt; infer_instance
theorem Hk {xs:List Rec}{r:Rec}:xs.any (fun x=>decide (x=r))=decide (r∈xs):=by
  rw [Bool.eq_iff_iff]; simp
theorem jX {vs:List RecV}{rs:List Rec}(e:vs.map RecV.r=rs) {k:Nat}(hk:k<vs.length):(vs.getD k default).r=rs.getD k default:=by
  rw [← e,bI hk]; simp [List.getD,hk]
theorem F2 {z:Wld}{vs us:List RecV}(hm:vs.map RecV.r=gT z z.Tapes.length 0) (hs:Stable kLt cS vs us):us.map RecV.r=eE z:=
  Cx (by rw [← hm]; exact Ar hs)
theorem ya {z:Wld}{B:Nat}(h:∀ k,(z.Tapes.getD k default).Recs.length≤B):∀ k,k≤z.Tapes.length→(allR z k).length≤k*B
  | 0,_=>by simp [allR]
  | k+1,hk=>by
    have ih:=ya h k ω
    have h1:=h k
    unfold allR at ih ⊢
    rw [List.take_add_one,List.getElem?_eq_getElem ω,List.map_append,List.flatten_append,List.length_append]
    simp only [Option.toList_some,List.map_cons,List.map_nil,List.flatten_cons,List.flatten_nil,List.append_nil]
    rw [← bI ω (d:=default)]
    rw [Nat.add_mul]; omega
theorem s8 {z:Wld}(hT:z.Tapes.length=2) (h:∀ k,(z.Tapes.getD k default).Recs.length≤200000) {k j:Nat}(hk:k≤2) (hj:j≤200000):(gT z k j).length≤600000:=by
  have h1:=CG (z:=z) (k:=k) (j:=j)
  have h2:=ya h k ω
  omega
theorem vC {z:Wld}(hT:z.Tapes.length=2) (h:∀ k,(z.Tapes.getD k default).Recs.length≤200000):(eE z).length≤600000:=by
  have h1:=s8 hT h (k:=2) (j:=0) ω ω
  have h2:Stable kLt ka (gT z z.Tapes.length 0) (eE z):=by
    unfold eE gT
    simp only [List.take_zero,List.append_nil]
    exact (nr _).choose_spec
  have:=h2.2.len
  rw [hT] at this
  omega
theorem lD {z:Wld}(h:cz z=0):∀ k,(z.Tapes.getD k default).Recs.length≤200000:=fun k=>by
  have hT:=(bx h).2.2.2.1
  obtain ⟨h1,h2⟩:=lQ h
  by_cases e:k<2
  · have:k=0∨k=1:=by omega
    rcases this with rfl | rfl<;>omega
  · have:z.Tapes.getD k default=default:=by simp [List.getD,List.getElem?_eq_none (show z.Tapes.length≤k by omega)]
    rw [this]; exact Nat.zero_le _
end Go.Wk
namespace Go.Wk
open Rp (sz own)
section
variable {P:Program}{n:Nat}{ops:Array Oper}{Q:Post}{L:Env}{w w0:World}{M:Nat→Prop}{Δ F:List Rsc}{d:Tmp}{ty:TypeId}{p:String}{af:Array Edge}{g:Option (Nat × Bool)}
theorem GV {l:Nat}{rl:List (Nat × Bool)}{S:World→Prop}{t e:TypeId}{parts:Array (Nat × Operand)}{z:Value}{bytes:Nat}(xs:List Int) (ho:ops.toList[l]? = some ⟨some d,.buildSlice t xs.length parts,ty,p,af,g⟩) (hw:Wn ops n L ⟨some d,.buildSlice t xs.length parts,ty,p,af,g⟩) (hn:Nat.blt d n=true) (ht:P.underlying t=some (.slice e)) (hT:Ty P e z 1 bytes)
    (hix:parts.toList.map (·.1)=List.range xs.length) (hv:iQ L (parts.toList.map (·.2))=some (xs.map (Value.int .i64))) (hk:∀ x∈xs,I64ok x) (h0:0<xs.length) (hl:xs.length≤1000) (H:Sep M w0 Δ F w) (hS:∀ w',S w→Ext No w w'→S w')
    (k:∀ b w',Ext No w w'→w.heap.size≤b→Sep M w0 (Δ++[mine [.slice (some ⟨b,0,none⟩) xs.length xs.length] xs [b]]) F w'→DL P n ops Q S rl ((d,.slice (some ⟨b,0,none⟩) xs.length xs.length)::L) w') :
    DL P n ops Q S ((l,false)::rl) L w:=by
  have hparts:∀ a,Good n a L→(parts.map fun (i,x)=>(i,a.eval x)).toList=((xs.map (Value.int .i64)).zipIdx 0).map fun x=>(x.2,x.1):=fun a ha=>by
    have key:∀ (l:List (Nat × Operand)) (vs:List Value) (k:Nat),l.map (·.1)=List.range' k vs.length→iQ L (l.map (·.2))=some vs→l.map (fun x=>(x.1,a.eval x.2))=(vs.zipIdx k).map fun x=>(x.2,x.1):=by
      intro l
      induction l with
      | nil=>intro vs k h1 h2; simp [iQ] at h2; subst h2; rfl
      | cons x l ih=>
        intro vs k h1 h2
        simp only [List.map_cons] at h1 h2 ⊢
        unfold iQ at h2
        split at h2
        · rename_i v us hv hus
          cases h2
          rw [List.length_cons,List.range'_succ] at h1
          simp only [List.cons.injEq] at h1
          rw [List.zipIdx_cons,List.map_cons,← ih us (k+1) h1.2 hus,ha.eval hv,h1.1]
        · cases h2
    rw [Array.toList_map]
    refine key parts.toList _ 0 ?_ hv
    rw [hix,List.length_map,List.range_eq_range']
  have hp:=sX (n:=n) (w:=w) (ty:=ty) (p:=p) (af:=af) (g:=g) (d:=some d) (parts:=parts) (vs:=xs.map (Value.int .i64)) (len:=xs.length) ht hT ω σ hparts (by intro v hv; simp at hv; obtain ⟨x,_,rfl⟩:=hv; rfl) h0 ω
  refine uv ho hw rfl hn hp (fun h _=>hS _ h (Ext.refl.alloc _)) (k _ _ (Ext.refl.alloc _) (Nat.le_refl _) ?_)
  refine H.add (Ext.refl.alloc _) (r:=Wk.mine [.slice (some ⟨w.heap.size,0,none⟩) xs.length xs.length] xs [w.heap.size]) (.inr (.inr ⟨w.heap.size,0,_,_,e,(0,0),[],rfl,rfl,heap_alloc_new w _,fun _=>rfl,Nat.le_refl _,by unfold maxLen; omega,?_,?_⟩)) (by simp [Wk.mine]) (by simp [Wk.mine])
  · have:∀ l:List Int,(l.map (Value.int .i64)).flatMap (fun v=>v.cells.toList)=l.map (Value.int .i64):=by
      intro l; induction l with
      | nil=>rfl
      | cons x l ih=>simp only [List.map_cons,List.flatMap_cons,ih]; rfl
    simp [this,sz]
  · have:∀ l:List Int,(l.map (Value.int .i64)).flatMap (fun v=>v.cells.toList)=l.map (Value.int .i64):=by
      intro l; induction l with
      | nil=>rfl
      | cons x l ih=>simp only [List.map_cons,List.flatMap_cons,ih]; rfl
    simp only [this,List.drop_zero]
    exact tq hk
end
end Go.Wk
