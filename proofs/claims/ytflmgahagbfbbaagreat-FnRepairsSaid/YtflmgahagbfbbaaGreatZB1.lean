/-
  Laws on walking, and the functions walked, each once: what this claim comes to.
-/
import Derived.Test.YtflmgahagbfbbaaGreatZB0
set_option linter.unusedVariables false
set_option linter.unusedSimpArgs false
namespace Go.Wk
open Go.Proofs Rp Go.Proofs.Tryz
set_option maxRecDepth 10000
theorem mc {w:World}{xs:List Int}{xsA:Option Addr}{xsC:Nat}{m:Int}(xsS:Sees w [.slice xsA xs.length xsC] xs) (hm : -1000≤m∧m≤1000000):Ret Tryz.prog 204 #[.slice xsA xs.length xsC,.int .i64 m] w fun v w'=>Ext No w w'∧(v = .bool (rises xs (m-1))):=by
 have xsL:=sL xsS;obtain ⟨xsF,xsO⟩:=xsS;refine aS func204 Z ntmps204 Z (fun Q hQ hN=>?_);have H0:=Sep.start (ak xsO aG);refine ac (sA Z Z (aa (ae (ac (sM Z Z (sV Z (aO bd Z) (sM Z Z (aa (au (cf (γ:=Nat) (fun k=>[(0,.slice xsA xs.length xsC),(1,.int .i64 m),(7,.slice xsA xs.length xsC),(8,.int .i64 xs.length),(9,.int .i64 k)]) (fun k w'=>Sep No w [] [seen false [.slice xsA xs.length xsC] xs xsF] w'∧k≤xs.length∧(∀ i,i<k→gl xs (m-1) i=true)) (fun k=>xs.length-k) 0 ⟨Z,Z,Z,Z,Z,trivial⟩ ⟨H0,ω,fun i hi=>by omega⟩ (fun k w1 H1=>?_)))))))))));obtain ⟨H1,hk,he⟩:=H1;refine ac (sV Z (bg Z Z) (aa (ae (az Z (fun c1=>?_) (fun c1=>?_)))))
 ·refine ar (ae (au (ae ?_)));obtain ⟨eb1,eo1,ee1,ec1⟩:=cT (H1.seen 0 Z) k ω;have eI1:=dc (H1.seen 0 Z) k ω;refine am (sM Z Z (sV Z (aA bd ts2 Z Z ee1 k ω ω) (sV Z (ag tu2 Z Z ec1) (sR 2 Z (aa (ae ?_))))));obtain ⟨eb2,eo2,ee2,ec2⟩:=cT (H1.seen 0 Z) (k-1) ω;have eI2:=dc (H1.seen 0 Z) (k-1) ω;refine am (sR 2 Z (sV Z (bG Z Z iO) (sE func77 cl Z bf H1 (fun w2 e1 H2=>sV Z (bl Z) (sM Z Z (bN 11 (j:=5) (want:=false) (t:=30) Z Z Z Z (fun hg1 kk1=>an (wgE Z Z Z hg1) Z Z (aN Z) (an (wgE Z Z Z hg1) Z Z (dv Z Z) (an (wgE Z Z Z hg1) Z Z (aN Z) (bN 7 (j:=8) (want:=true) (t:=29) Z Z Z Z (fun hg2 kk2=>an (wgE Z Z Z hg2) Z Z (aN Z) (an (wgE Z Z Z hg2) Z Z (aN Z) (an (wgE Z Z Z hg2) Z Z (bG Z Z iO) (an (wgE Z Z Z hg2) Z Z (aA bd ts2 Z Z ee2 (k-1) (by first | omega | (simp only [Bool.or_eq_false_iff,Bool.and_eq_true,Bool.and_eq_false_iff,Bool.or_eq_true,Bool.not_eq_true',Bool.not_eq_false',decide_eq_true_eq,decide_eq_false_iff_not] at hg1 hg2; omega)) ω) (an (wgE Z Z Z hg2) Z Z (ag tu2 Z Z (e1.cell ec2)) (an (wgE Z Z Z hg2) Z Z (aN Z) (an (wgE Z Z Z hg2) Z Z (lF Z Z) (kk2 _ _ (kx Z (kx Z (kx Z (kx Z (kx Z (kx Z (kx Z k0))))))) Z Ext.refl)))))))) (fun w4 e3=>an (wgE Z Z Z hg1) Z Z (bA Z Z) (kk1 _ _ (kx Z (kx Z (kx Z (kx Z (kx Z k0))))) Z (Ext.refl.trans e3))))))) (fun w3 e2=>?_)))))));have H4:=H2.to e2;refine sV Z (ex Z Z) (aa (cK Z (fun c2=>?_) (fun c2=>?_)))
  ·refine ac (sA Z Z (aa (rT hQ results204 Z (⟨H4.ext,?_⟩))))
   rw [mB k ω (by
    simp [ins,-List.getD_eq_getElem?_getD] at c2;simp [gl,-List.getD_eq_getElem?_getD]
    omega)]
  ·refine ar (am (sV Z (aE Z Z iO) (sM Z Z (aa (⟨k+1,⟨Z,Z,Z,Z,Z,trivial⟩,⟨H4,ω,fun i hi=>?_⟩,θ⟩)))))
   by_cases e:i=k
   ·subst e;simp [ins,-List.getD_eq_getElem?_getD] at c2;simp [gl,-List.getD_eq_getElem?_getD]
    omega
   ·exact he i ω
 ·refine aW (ac (rA hQ results204 Z ?_));exact ⟨H1.ext,by rw [pZ (fun i hi=>he i ω)]⟩
theorem mX {w:World}{xs:List Int}{xsA:Option Addr}{xsC:Nat}{m:Int}(xsS:Sees w [.slice xsA xs.length xsC] xs) (hm : -1000≤m∧m≤1000000):Ret Tryz.prog 140 #[.slice xsA xs.length xsC,.int .i64 m] w fun v w'=>Ext No w w'∧(v = .bool (rises xs m)):=by
 have xsL:=sL xsS;obtain ⟨xsF,xsO⟩:=xsS;refine aS func140 Z ntmps140 Z (fun Q hQ hN=>?_);have H0:=Sep.start (ak xsO aG);refine ac (sA Z Z (aa (ae (ac (sA Z Z (aa (au (cf (γ:=Nat) (fun k=>[(0,.slice xsA xs.length xsC),(1,.int .i64 m),(5,.int .i64 k)]) (fun k w'=>Sep No w [] [seen false [.slice xsA xs.length xsC] xs xsF] w'∧k≤xs.length∧(∀ i,i<k→gl xs m i=true)) (fun k=>xs.length-k) 0 ⟨Z,Z,Z,trivial⟩ ⟨H0,ω,fun i hi=>by omega⟩ (fun k w1 H1=>?_)))))))));obtain ⟨H1,hk,he⟩:=H1;refine ae (ac (sR 2 Z (sV Z (aO bd Z) (sV Z (bg Z Z) (aa (az Z (fun c1=>?_) (fun c1=>?_)))))))
 ·refine ar (ae (au (ae ?_)));obtain ⟨eb1,eo1,ee1,ec1⟩:=cT (H1.seen 0 Z) k ω;have eI1:=dc (H1.seen 0 Z) k ω;refine bx (S:=Ext No _) (oQ [1,3,5,7,9,11,13,15,17,19,21,23,25,27,29,31,33,35,37,39,41,43,45,47,49,51,53,55,56]) κ κ κ Z (fun _=>Ext.refl.drawn _) (fun q1=>?_);have H2:=H1.drawn q1;refine dR 2 Z (dV Z Z (fun zw hx=>aA bd ts2 Z Z ee1 k ω ω) (dV Z Z (fun zw hx=>ag tu2 Z Z (hx.cell ec1)) (dR 2 Z (bZ (t:=17) Z (fun hg1=>?_) (fun hg1=>?_)))))
  ·try simp only [decide_eq_true_eq,decide_eq_false_iff_not] at hg1
   refine dR 6 Z (dV Z Z (fun zw hx=>aD Z Z) (dR 4 Z (ca Z (wou Z Z Z) Z Z (ca Z (wou Z Z Z) Z Z (ca Z (wou Z Z Z) Z Z (ca Z (wou Z Z Z) Z Z (ca Z (wou Z Z Z) Z Z (ca Z (wou Z Z Z) Z Z (ca Z (wou Z Z Z) Z Z (ca Z (wou Z Z Z) Z Z (ca Z (wou Z Z Z) Z Z (ca Z (wou Z Z Z) Z Z (dKt Z Z Z Z (aV Z ah Z Z (aD Z Z) (aT (dl Z (ac (sA Z Z (aa (rT hQ results140 Z (⟨H2.ext,?_⟩)))))))))))))))))))))
   rw [mB k ω (by
    simp [gl,-List.getD_eq_getElem?_getD]
    omega)]
  ·try simp only [decide_eq_true_eq,decide_eq_false_iff_not] at hg1
   refine aC Z (wg Z Z Z) Z Z (fun zw hx=>aN Z) (aC Z (wg Z Z Z) Z Z (fun zw hx=>aN Z) (aC Z (wg Z Z Z) Z Z (fun zw hx=>aA bd ts2 Z Z ee1 k ω ω) (aC Z (wg Z Z Z) Z Z (fun zw hx=>ag tu2 Z Z (hx.cell ec1)) (aC Z (wg Z Z Z) Z Z (fun zw hx=>aN Z) (aC Z (wg Z Z Z) Z Z (fun zw hx=>dv Z Z) (dV Z Z (fun zw hx=>aH Z Z) (dM Z Z Z (bZ (t:=25) Z (fun hg2=>?_) (fun hg2=>?_)))))))))
   ·try simp only [decide_eq_true_eq,decide_eq_false_iff_not] at hg2
    refine dR 3 Z (ca Z (wou Z Z Z) Z Z (ca Z (wou Z Z Z) Z Z (ca Z (wou Z Z Z) Z Z (ca Z (wou Z Z Z) Z Z (ca Z (wou Z Z Z) Z Z (ca Z (wou Z Z Z) Z Z (ca Z (wou Z Z Z) Z Z (ca Z (wou Z Z Z) Z Z (ca Z (wou Z Z Z) Z Z (ca Z (wou Z Z Z) Z Z (dKt Z Z Z Z (aV Z ah Z Z (aD Z Z) (aT (dl Z (ac (sA Z Z (aa (rT hQ results140 Z (⟨H2.ext,?_⟩)))))))))))))))))))
    rw [mB k ω (by
     simp [gl,-List.getD_eq_getElem?_getD]
     omega)]
   ·try simp only [decide_eq_true_eq,decide_eq_false_iff_not] at hg2
    refine aC Z (wg Z Z Z) Z Z (fun zw hx=>aN Z) (aC Z (wg Z Z Z) Z Z (fun zw hx=>dv Z Z) (aC Z (wg Z Z Z) Z Z (fun zw hx=>aN Z) (bZ (t:=28) Z (fun hg3=>?_) (fun hg3=>?_))))
    ·try simp only [decide_eq_true_eq,decide_eq_false_iff_not] at hg3
     refine aC Z (wg Z Z Z) Z Z (fun zw hx=>aN Z) (aC Z (wg Z Z Z) Z Z (fun zw hx=>aN Z) (aC Z (wg Z Z Z) Z Z (fun zw hx=>aA bd ts2 Z Z ee1 k ω ω) (aC Z (wg Z Z Z) Z Z (fun zw hx=>ag tu2 Z Z (hx.cell ec1)) (aC Z (wg Z Z Z) Z Z (fun zw hx=>aN Z) (aC Z (wg Z Z Z) Z Z (fun zw hx=>aN Z) (aC Z (wg Z Z Z) Z Z (fun zw hx=>bG Z Z iO) ?_))))));obtain ⟨eb2,eo2,ee2,ec2⟩:=cT (H2.seen 0 Z) (k-1) ω;have eI2:=dc (H2.seen 0 Z) (k-1) ω;refine aC Z (wg Z Z Z) Z Z (fun zw hx=>aA bd ts2 Z Z ee2 (k-1) ω ω) (aC Z (wg Z Z Z) Z Z (fun zw hx=>ag tu2 Z Z (hx.cell ec2)) (aC Z (wg Z Z Z) Z Z (fun zw hx=>oG Z Z) (aC Z (wg Z Z Z) Z Z (fun zw hx=>aD Z Z) (aV Z ah Z Z (aH Z Z) (aT (az Z (fun c2=>?_) (fun c2=>?_)))))))
     ·refine ac (sA Z Z (aa (rT hQ results140 Z (⟨H2.ext,?_⟩))))
      rw [mB k ω (by
       simp [gl,-List.getD_eq_getElem?_getD]
       omega)]
     ·refine ar (am (sM Z Z (sV Z (aE Z Z iO) (sA Z Z (aa (⟨k+1,⟨Z,Z,Z,trivial⟩,⟨H2,ω,fun i hi=>?_⟩,θ⟩))))))
      by_cases e:i=k
      ·subst e;simp [gl,-List.getD_eq_getElem?_getD]
       omega
      ·exact he i ω
    ·try simp only [decide_eq_true_eq,decide_eq_false_iff_not] at hg3
     refine dR 10 Z (aC Z (wg Z Z Z) Z Z (fun zw hx=>aH Z Z) (aV Z ah Z Z (aH Z Z) (aT (eK Z (ar (am (sM Z Z (sV Z (aE Z Z iO) (sA Z Z (aa (⟨k+1,⟨Z,Z,Z,trivial⟩,⟨H2,ω,fun i hi=>?_⟩,θ⟩)))))))))))
     by_cases e:i=k
     ·subst e;simp [gl,-List.getD_eq_getElem?_getD]
      omega
     ·exact he i ω
 ·refine aW (ac (rA hQ results140 Z ?_));exact ⟨H1.ext,by rw [pZ (fun i hi=>he i ω)]⟩
end Go.Wk
namespace Go.Wk
open Go.Proofs Rp Go.Proofs.Tryz
set_option maxRecDepth 10000
theorem kY {w:World}{b:ByteArray}(hb:b.size≤maxLen):Ret Tryz.prog 138 #[.string b] w fun v w'=>Ext No w w'∧(v = .int .i64 (cE b)):=by
 unfold maxLen at hb;refine aS func138 Z ntmps138 Z (fun Q hQ hN=>?_);have H0:=Sep.start (w:=w) (F:=[]) σ;refine ac (sA Z Z (aa (ae (ac (sM Z Z (sV Z (my tu9 Z) (sR 2 Z (bN 3 (j:=3) (want:=false) (t:=10) Z Z Z Z (fun hg1 kk1=>an (wgE Z Z Z hg1) Z Z (aN Z) (an (wgE Z Z Z hg1) Z Z (my tu9 Z) (an (wgE Z Z Z hg1) Z Z (dv Z Z) (kk1 _ _ (kx Z (kx Z (kx Z k0))) Z Ext.refl)))) (fun w1 e1=>?_)))))))));have H1:=H0.to e1;refine sV Z (ex Z Z) (sM Z Z (bN 3 (j:=8) (want:=false) (t:=15) Z Z Z Z (fun hg2 kk2=>an (wgE Z Z Z hg2) Z Z (aN Z) (an (wgE Z Z Z hg2) Z Z (eX tu9 Z Z 0 ω (by first | omega | (simp only [Bool.or_eq_false_iff,Bool.and_eq_true,Bool.and_eq_false_iff,Bool.or_eq_true,Bool.not_eq_true',Bool.not_eq_false',decide_eq_true_eq,decide_eq_false_iff_not] at hg2; omega))) (an (wgE Z Z Z hg2) Z Z (bg Z Z) (kk2 _ _ (kx Z (kx Z (kx Z k0))) Z Ext.refl)))) (fun w2 e2=>?_)));have H2:=H1.to e2;refine sV Z (ex Z Z) (sM Z Z (bN 3 (j:=13) (want:=false) (t:=20) Z Z Z Z (fun hg3 kk3=>an (wgE Z Z Z hg3) Z Z (aN Z) (an (wgE Z Z Z hg3) Z Z (eX tu9 Z Z 0 ω (by first | omega | (simp only [Bool.or_eq_false_iff,Bool.and_eq_true,Bool.and_eq_false_iff,Bool.or_eq_true,Bool.not_eq_true',Bool.not_eq_false',decide_eq_true_eq,decide_eq_false_iff_not] at hg3; omega))) (an (wgE Z Z Z hg3) Z Z (dv Z Z) (kk3 _ _ (kx Z (kx Z (kx Z k0))) Z Ext.refl)))) (fun w3 e3=>?_)));have H3:=H2.to e3;refine sV Z (ex Z Z) (aa (cK Z (fun c1=>?_) (fun c1=>?_)))
 ·refine ac (sA Z Z (aa (rT hQ results138 Z (⟨H3.ext,nU ?_⟩))))
  by_cases hs:1≤b.size∧b.size≤8
  ·refine lT 0 ω ?_;simp only [sg,Bool.or_eq_true,Bool.or_eq_false_iff,Bool.and_eq_true,Bool.and_eq_false_iff,decide_eq_true_eq,decide_eq_false_iff_not] at c1 ⊢;simp
   omega
  ·simp [iN]; omega
 ·refine ar (ae (ac (sA Z Z (aa (au ?_)))));simp only [Bool.or_eq_true,Bool.or_eq_false_iff,Bool.and_eq_true,Bool.and_eq_false_iff,decide_eq_true_eq,decide_eq_false_iff_not] at c1;refine cf (γ:=Nat) (fun k=>[(0,.string b),(3,.int .i64 k)]) (fun k w'=>Sep No w [] [] w'∧k≤b.size∧rX b k=true) (fun k=>b.size-k) 0 ⟨Z,Z,trivial⟩ ⟨H3,ω,Z⟩ (fun k w4 H4=>?_);obtain ⟨H4,hk,hok⟩:=H4;refine ae (ac (sR 2 Z (sV Z (my tu9 Z) (sV Z (bg Z Z) (aa (az Z (fun c2=>?_) (fun c2=>?_)))))))
  ·refine ar (ae (au (ac (sR 2 Z (sV Z (eX tu9 Z Z k ω ω) (sR 2 Z (bN 4 (j:=4) (want:=false) (t:=36) Z Z Z Z (fun hg4 kk4=>an (wgE Z Z Z hg4) Z Z (aN Z) (an (wgE Z Z Z hg4) Z Z (aN Z) (an (wgE Z Z Z hg4) Z Z (eX tu9 Z Z k ω (by first | omega | (simp only [Bool.or_eq_false_iff,Bool.and_eq_true,Bool.and_eq_false_iff,Bool.or_eq_true,Bool.not_eq_true',Bool.not_eq_false',decide_eq_true_eq,decide_eq_false_iff_not] at hg4; omega))) (an (wgE Z Z Z hg4) Z Z (dv Z Z) (kk4 _ _ (kx Z (kx Z (kx Z (kx Z k0)))) Z Ext.refl))))) (fun w5 e4=>?_))))))));have H5:=H4.to e4;refine sV Z (ex Z Z) (sM Z Z (bN 10 (j:=10) (want:=true) (t:=48) Z Z Z Z (fun hg5 kk5=>an (wgE Z Z Z hg5) Z Z (aN Z) (an (wgE Z Z Z hg5) Z Z (aN Z) (an (wgE Z Z Z hg5) Z Z (eX tu9 Z Z k ω (by first | omega | (simp only [Bool.or_eq_false_iff,Bool.and_eq_true,Bool.and_eq_false_iff,Bool.or_eq_true,Bool.not_eq_true',Bool.not_eq_false',decide_eq_true_eq,decide_eq_false_iff_not] at hg5; omega))) (an (wgE Z Z Z hg5) Z Z (bg Z Z) (an (wgE Z Z Z hg5) Z Z (aN Z) (bN 4 (j:=15) (want:=false) (t:=47) Z Z Z Z (fun hg6 kk6=>an (wgE Z Z Z hg6) Z Z (aN Z) (an (wgE Z Z Z hg6) Z Z (aN Z) (an (wgE Z Z Z hg6) Z Z (eX tu9 Z Z k ω (by first | omega | (simp only [Bool.or_eq_false_iff,Bool.and_eq_true,Bool.and_eq_false_iff,Bool.or_eq_true,Bool.not_eq_true',Bool.not_eq_false',decide_eq_true_eq,decide_eq_false_iff_not] at hg5 hg6; omega))) (an (wgE Z Z Z hg6) Z Z (dv Z Z) (kk6 _ _ (kx Z (kx Z (kx Z (kx Z k0)))) Z Ext.refl))))) (fun w7 e6=>an (wgE Z Z Z hg5) Z Z (ex Z Z) (kk5 _ _ (kx Z (kx Z (kx Z (kx Z (kx Z (kx Z (kx Z k0))))))) Z (Ext.refl.trans e6))))))))) (fun w6 e5=>?_)));have H7:=H5.to e5;refine sV Z (bA Z Z) (aa (cK Z (fun c3=>?_) (fun c3=>?_)))
   ·refine ac (sA Z Z (aa (rT hQ results138 Z (⟨H7.ext,nU (lT k ω ?_)⟩))));simp only [sg,Bool.or_eq_true,Bool.or_eq_false_iff,Bool.and_eq_true,Bool.and_eq_false_iff,decide_eq_true_eq,decide_eq_false_iff_not] at c3 ⊢
    omega
   ·refine ar (am (sM Z Z (sV Z (aE Z Z iO) (sA Z Z (aa (⟨k+1,⟨Z,Z,trivial⟩,⟨H7,ω,?_⟩,θ⟩))))));rw [rX,hok,Bool.true_and];simp only [sg,Bool.or_eq_true,Bool.or_eq_false_iff,Bool.and_eq_true,Bool.and_eq_false_iff,decide_eq_true_eq,decide_eq_false_iff_not] at c3 ⊢;simp only [Bool.not_eq_true',decide_eq_false_iff_not]
    by_cases h0:k=0
    ·subst h0; omega
    ·omega
  ·refine aW (ac (sA Z Z (aa (rT hQ results138 Z (⟨H4.ext,rn ?_⟩)))));obtain rfl:k=b.size:=by omega
   simp only [iN,hok,Bool.and_true,Bool.or_eq_true,Bool.or_eq_false_iff,Bool.and_eq_true,Bool.and_eq_false_iff,decide_eq_true_eq,decide_eq_false_iff_not]
   omega
theorem kX {w:World}{b:ByteArray}(hb:b.size≤maxLen):Ret Tryz.prog 202 #[.string b] w fun v w'=>Ext No w w'∧(v = .int .i64 (cE b)):=by
 unfold maxLen at hb;refine aS func202 Z ntmps202 Z (fun Q hQ hN=>?_);have H0:=Sep.start (w:=w) (F:=[]) σ;refine ac (sA Z Z (aa (ae (ac (sM Z Z (sV Z (my tu9 Z) (sM Z Z (aa (au (cf (γ:=Nat) (fun k=>[(0,.string b),(6,.int .i64 b.size),(7,.int .i64 k)]) (fun k w'=>Sep No w [] [] w'∧k≤b.size∧rX b k=true) (fun k=>b.size-k) 0 ⟨Z,Z,Z,trivial⟩ ⟨H0,ω,Z⟩ (fun k w1 H1=>?_)))))))))));obtain ⟨H1,hk,hok⟩:=H1;refine ac (sV Z (bg Z Z) (aa (ae (az Z (fun c1=>?_) (fun c1=>?_)))))
 ·refine ar (ae (au (ac (sR 2 Z (aa (ac (sR 2 Z (sV Z (eX tu9 Z Z k ω ω) (sR 2 Z (bN 4 (j:=4) (want:=true) (t:=18) Z Z Z Z (fun hg1 kk1=>an (wgE Z Z Z hg1) Z Z (aN Z) (an (wgE Z Z Z hg1) Z Z (aN Z) (an (wgE Z Z Z hg1) Z Z (eX tu9 Z Z k ω (by first | omega | (simp only [Bool.or_eq_false_iff,Bool.and_eq_true,Bool.and_eq_false_iff,Bool.or_eq_true,Bool.not_eq_true',Bool.not_eq_false',decide_eq_true_eq,decide_eq_false_iff_not] at hg1; omega))) (an (wgE Z Z Z hg1) Z Z (oG Z Z) (kk1 _ _ (kx Z (kx Z (kx Z (kx Z k0)))) Z Ext.refl))))) (fun w2 e1=>?_)))))))))));have H2:=H1.to e1;refine sV Z (bA Z Z) (sA Z Z (aa (ac (sM Z Z (sV Z (bl Z) (sM Z Z (bN 14 (j:=2) (want:=true) (t:=36) Z Z Z Z (fun hg2 kk2=>an (wgE Z Z Z hg2) Z Z (aN Z) (an (wgE Z Z Z hg2) Z Z (cb Z Z) (an (wgE Z Z Z hg2) Z Z (aN Z) (bN 4 (j:=5) (want:=false) (t:=29) Z Z Z Z (fun hg3 kk3=>an (wgE Z Z Z hg3) Z Z (aN Z) (an (wgE Z Z Z hg3) Z Z (aN Z) (an (wgE Z Z Z hg3) Z Z (eX tu9 Z Z k ω (by first | omega | (simp only [Bool.or_eq_false_iff,Bool.and_eq_true,Bool.and_eq_false_iff,Bool.or_eq_true,Bool.not_eq_true',Bool.not_eq_false',decide_eq_true_eq,decide_eq_false_iff_not] at hg2 hg3; omega))) (an (wgE Z Z Z hg3) Z Z (bg Z Z) (kk3 _ _ (kx Z (kx Z (kx Z (kx Z k0)))) Z Ext.refl))))) (fun w4 e3=>an (wgE Z Z Z hg2) Z Z (ex Z Z) (an (wgE Z Z Z hg2) Z Z (aN Z) (bN 4 (j:=11) (want:=false) (t:=35) Z Z Z Z (fun hg4 kk4=>an (wgE Z Z Z hg4) Z Z (aN Z) (an (wgE Z Z Z hg4) Z Z (aN Z) (an (wgE Z Z Z hg4) Z Z (eX tu9 Z Z k ω (by first | omega | (simp only [Bool.or_eq_false_iff,Bool.and_eq_true,Bool.and_eq_false_iff,Bool.or_eq_true,Bool.not_eq_true',Bool.not_eq_false',decide_eq_true_eq,decide_eq_false_iff_not] at hg2 hg4; omega))) (an (wgE Z Z Z hg4) Z Z (dv Z Z) (kk4 _ _ (kx Z (kx Z (kx Z (kx Z k0)))) Z Ext.refl))))) (fun w5 e4=>an (wgE Z Z Z hg2) Z Z (ex Z Z) (kk2 _ _ (kx Z (kx Z (kx Z (kx Z (kx Z (kx Z (kx Z (kx Z k0)))))))) Z ((Ext.refl.trans e3).trans e4)))))))))) (fun w3 e2=>?_))))))));have H5:=H2.to e2;refine sV Z (bA Z Z) (aa (cK Z (fun c2=>?_) (fun c2=>?_)))
  ·refine ac (sA Z Z (aa (rT hQ results202 Z (⟨H5.ext,nU (lT k ω ?_)⟩))));simp only [sg,Bool.or_eq_true,Bool.or_eq_false_iff,Bool.and_eq_true,Bool.and_eq_false_iff,decide_eq_true_eq,decide_eq_false_iff_not,Bool.not_eq_true',Bool.not_eq_false'] at c2 ⊢
   omega
  ·refine ar (am (sV Z (aE Z Z iO) (sM Z Z (aa (⟨k+1,⟨Z,Z,Z,trivial⟩,⟨H5,ω,?_⟩,θ⟩)))));rw [rX,hok,Bool.true_and];simp only [sg,Bool.or_eq_true,Bool.or_eq_false_iff,Bool.and_eq_true,Bool.and_eq_false_iff,decide_eq_true_eq,decide_eq_false_iff_not,Bool.not_eq_true',Bool.not_eq_false'] at c2 ⊢
   omega
 ·refine aW (ae (ac (sM Z Z (sV Z (my tu9 Z) (sE func77 cl Z bf H1 (fun w6 e5 H6=>sV Z (bl Z) (aa (cK Z (fun c3=>?_) (fun c3=>?_)))))))))
  ·refine ac (sA Z Z (aa (rT hQ results202 Z (⟨H6.ext,nU ?_⟩))));have c4:=not_true c3;rw [zG] at c4;simp [iN]
   omega
  ·refine ar (ac (sA Z Z (aa (rT hQ results202 Z (⟨H6.ext,rn ?_⟩)))));have c4:=not_false c3;rw [cu] at c4;obtain rfl:k=b.size:=by omega
   simp only [iN,hok,Bool.and_true,Bool.or_eq_true,Bool.or_eq_false_iff,Bool.and_eq_true,Bool.and_eq_false_iff,decide_eq_true_eq,decide_eq_false_iff_not]
   omega
theorem bH {w:World}{s:Shape}(hs:s.ok=true):Ret Tryz.prog 116 #[s.v] w fun v w'=>Ext No w w'∧(v = .int .i64 (s.Groups+s.Column)):=by
 have sbd:=bk hs;refine aS func116 Z ntmps116 Z (fun Q hQ hN=>?_);have H0:=Sep.start (w:=w) (F:=[]) σ;refine ac (bt ah Z Z H0 (fun b1 w1 e1 g1 H1=>sA Z Z (aa (ac (sF bb Z ts2 (sLd tu2 (H1.box 0 Z) Z (sF bb Z ts2 (sLd tu2 (H1.box 0 Z) Z (sV Z (aE Z Z iO) (rA hQ results116 Z ?_))))))))));exact ⟨H1.ext,Z⟩
theorem dK {w:World}{s:Shape}(hs:s.ok=true):Ret Tryz.prog 148 #[s.v] w fun v w'=>Ext No w w'∧(v = .int .i64 (s.Groups+s.Column)):=by
 have sbd:=bk hs;refine aS func148 Z ntmps148 Z (fun Q hQ hN=>?_);have H0:=Sep.start (w:=w) (F:=[]) σ;refine ac (bt ah Z Z H0 (fun b1 w1 e1 g1 H1=>sA Z Z (aa (ac (sF bb Z ts2 (sLd tu2 (H1.box 0 Z) Z (sF bb Z ts2 (sLd tu2 (H1.box 0 Z) Z (sV Z (aE Z Z iO) (rA hQ results148 Z ?_))))))))));exact ⟨H1.ext,Z⟩
theorem dL {w:World}{s:Shape}{x:Int}(hs:s.ok=true):Ret Tryz.prog 78 #[s.v,.int .i64 x] w fun v w'=>Ext No w w'∧(v = .bool (ins x 0 (s.Groups+s.Column-1))):=by
 have sbd:=bk hs;refine aS func78 Z ntmps78 Z (fun Q hQ hN=>?_);have H0:=Sep.start (w:=w) (F:=[]) σ;refine ac (bt ah Z Z H0 (fun b1 w1 e1 g1 H1=>sA Z Z (aa (ac (sM Z Z (sV Z (aj bb Z bp Z Z (At.whole (H1.box 0 Z))) (sE func148 jz Z (dK η) H1 (fun w2 e2 H2=>sV Z (bG Z Z iO) (sE func77 cl Z bf H2 (fun w3 e3 H3=>rA hQ results78 Z ?_))))))))));exact ⟨H3.ext,Z⟩
end Go.Wk
namespace Go.Wk
open Rp (sz own)
theorem p8 {s w cs} {x:Shape}{fp} (h:own s w cs x fp):cs=[.int .i64 x.Groups,.int .i64 x.Column,.int .i64 x.Data,.int .i64 x.Spare,.int .i64 x.Rows,.int .i64 x.Cap,.int .i64 x.Batch,.int .i64 x.Queue,.int .i64 x.Stage]∧fp=[]∧x.Ok:=by
  obtain ⟨_,_,_,_,rfl,e0,h0,k0⟩:=bE h
  obtain ⟨rfl,rfl,i0⟩:=cS h0
  obtain ⟨_,_,_,_,rfl,e1,h1,k1⟩:=bE k0
  obtain ⟨rfl,rfl,i1⟩:=cS h1
  obtain ⟨_,_,_,_,rfl,e2,h2,k2⟩:=bE k1
  obtain ⟨rfl,rfl,i2⟩:=cS h2
  obtain ⟨_,_,_,_,rfl,e3,h3,k3⟩:=bE k2
  obtain ⟨rfl,rfl,i3⟩:=cS h3
  obtain ⟨_,_,_,_,rfl,e4,h4,k4⟩:=bE k3
  obtain ⟨rfl,rfl,i4⟩:=cS h4
  obtain ⟨_,_,_,_,rfl,e5,h5,k5⟩:=bE k4
  obtain ⟨rfl,rfl,i5⟩:=cS h5
  obtain ⟨_,_,_,_,rfl,e6,h6,k6⟩:=bE k5
  obtain ⟨rfl,rfl,i6⟩:=cS h6
  obtain ⟨_,_,_,_,rfl,e7,h7,k7⟩:=bE k6
  obtain ⟨rfl,rfl,i7⟩:=cS h7
  obtain ⟨rfl,rfl,i8⟩:=cS k7
  exact ⟨rfl,by subst_vars; simp,⟨i0,i1,i2,i3,i4,i5,i6,i7,i8⟩⟩
theorem Shape.own_mk {s:Bool}{w:World}{x:Shape}(ok:x.Ok):own s w [.int .i64 x.Groups,.int .i64 x.Column,.int .i64 x.Data,.int .i64 x.Spare,.int .i64 x.Rows,.int .i64 x.Cap,.int .i64 x.Batch,.int .i64 x.Queue,.int .i64 x.Stage] x ([]):=by
  obtain ⟨i0,i1,i2,i3,i4,i5,i6,i7,i8⟩:=ok
  have h:own s w _ (x.Groups,x.Column,x.Data,x.Spare,x.Rows,x.Cap,x.Batch,x.Queue,x.Stage) _:=(bQ (cZ i0) (bQ (cZ i1) (bQ (cZ i2) (bQ (cZ i3) (bQ (cZ i4) (bQ (cZ i5) (bQ (cZ i6) (bQ (cZ i7) (cZ i8)))))))))
  refine fP h ?_
  simp
theorem wB {w:World}:own true w [.int .i64 0,.int .i64 0,.string ⟨#[]⟩,.int .i64 0,.int .i64 0,.int .i64 0,.slice none 0 0,.slice none 0 0,.slice none 0 0] (default:Rec) []:=fP (Rec.own_mk (s:=true) (x:=(default:Rec)) ⟨(show I64ok 0 by unfold I64ok; omega),(show I64ok 0 by unfold I64ok; omega),(show (0:Nat)≤maxLen from Nat.zero_le _),(show I64ok 0 by unfold I64ok; omega),(show I64ok 0 by unfold I64ok; omega),(show I64ok 0 by unfold I64ok; omega)⟩ (.inr (.inl ⟨rfl,rfl,rfl⟩)) (.inr (.inl ⟨rfl,rfl,rfl⟩)) (.inr (.inl ⟨rfl,rfl,rfl⟩))) (by first | rfl | simp)
structure Block where
  Stamp:Int
  Bytes:List UInt8
instance:Rp Block:=Rp.via fun x=>(x.Stamp,x.Bytes)
instance:Inhabited Block:=⟨⟨0,[]⟩⟩
def Block.val (x:Block) (A1:Option Addr) (C1:Nat):Value := .agg #[.int .i64 x.Stamp,.slice A1 x.Bytes.length C1]
def Block.Ok (x:Block):Prop:=I64ok x.Stamp
theorem jc {s w cs} {x:Block}{fp} (h:own s w cs x fp):∃ (A1:Option Addr) (C1:Nat) (f1:List Nat) ,cs=[.int .i64 x.Stamp,.slice A1 x.Bytes.length C1]∧fp=f1∧x.Ok∧own s w [.slice A1 x.Bytes.length C1] x.Bytes f1:=by
  obtain ⟨_,_,_,_,rfl,e0,h0,k0⟩:=bE h
  obtain ⟨rfl,rfl,i0⟩:=cS h0
  obtain ⟨A1,C1,rfl⟩:=aw k0
  exact ⟨A1,C1,_,rfl,by subst_vars; simp,i0,k0⟩
theorem Block.own_mk {s:Bool}{w:World}{x:Block}{A1:Option Addr}{C1:Nat}{f1:List Nat}(ok:x.Ok) (o1:own s w [.slice A1 x.Bytes.length C1] x.Bytes f1):own s w [.int .i64 x.Stamp,.slice A1 x.Bytes.length C1] x (f1):=by
  have i0:=ok
  have h:own s w _ (x.Stamp,x.Bytes) _:=(bQ (cZ i0) o1)
  refine fP h ?_
  simp
theorem Block.out {w0 w:World}{F:List Rsc}{x:Block}{A1:Option Addr}{C1:Nat}{f1:List Nat}(h:Sep No w0 [mine [.slice A1 x.Bytes.length C1] x.Bytes f1] F w) (ok:x.Ok):Res w0 w [.int .i64 x.Stamp,.slice A1 x.Bytes.length C1] x:=
  ⟨_,Block.own_mk ok (h.mine 0 rfl),by have:=h.nd; simpa [blocks,mine] using this,fun b hb=>(h.new b (by simpa [blocks,mine] using hb)).resolve_left id⟩
structure Drive where
  Wiped:Bool
  Blocks:List Block
instance:Rp Drive:=Rp.via fun x=>(x.Wiped,x.Blocks)
instance:Inhabited Drive:=⟨⟨false,[]⟩⟩
def Drive.val (x:Drive) (A1:Option Addr) (C1:Nat):Value := .agg #[.bool x.Wiped,.slice A1 x.Blocks.length C1]
def Drive.Ok (x:Drive):Prop:=True
theorem gd {s w cs} {x:Drive}{fp} (h:own s w cs x fp):∃ (A1:Option Addr) (C1:Nat) (f1:List Nat) ,cs=[.bool x.Wiped,.slice A1 x.Blocks.length C1]∧fp=f1∧x.Ok∧own s w [.slice A1 x.Blocks.length C1] x.Blocks f1:=by
  obtain ⟨_,_,_,_,rfl,e0,h0,k0⟩:=bE h
  obtain ⟨rfl,rfl⟩:=h0
  obtain ⟨A1,C1,rfl⟩:=aw k0
  exact ⟨A1,C1,_,rfl,by subst_vars; simp,trivial,k0⟩
theorem Drive.own_mk {s:Bool}{w:World}{x:Drive}{A1:Option Addr}{C1:Nat}{f1:List Nat}(ok:x.Ok) (o1:own s w [.slice A1 x.Blocks.length C1] x.Blocks f1):own s w [.bool x.Wiped,.slice A1 x.Blocks.length C1] x (f1):=by
  have h:own s w _ (x.Wiped,x.Blocks) _:=(bQ md o1)
  refine fP h ?_
  simp
theorem Drive.out {w0 w:World}{F:List Rsc}{x:Drive}{A1:Option Addr}{C1:Nat}{f1:List Nat}(h:Sep No w0 [mine [.slice A1 x.Blocks.length C1] x.Blocks f1] F w) (ok:x.Ok):Res w0 w [.bool x.Wiped,.slice A1 x.Blocks.length C1] x:=
  ⟨_,Drive.own_mk ok (h.mine 0 rfl),by have:=h.nd; simpa [blocks,mine] using this,fun b hb=>(h.new b (by simpa [blocks,mine] using hb)).resolve_left id⟩
theorem tf {w:World}:own true w [.bool false,.slice none 0 0] (default:Drive) []:=fP (Drive.own_mk (s:=true) (x:=(default:Drive)) trivial (.inr (.inl ⟨rfl,rfl,rfl⟩))) (by first | rfl | simp)
structure Tape where
  Wiped:Bool
  Recs:List Rec
instance:Rp Tape:=Rp.via fun x=>(x.Wiped,x.Recs)
instance:Inhabited Tape:=⟨⟨false,[]⟩⟩
def Tape.val (x:Tape) (A1:Option Addr) (C1:Nat):Value := .agg #[.bool x.Wiped,.slice A1 x.Recs.length C1]
def Tape.Ok (x:Tape):Prop:=True
theorem cL {s w cs} {x:Tape}{fp} (h:own s w cs x fp):∃ (A1:Option Addr) (C1:Nat) (f1:List Nat) ,cs=[.bool x.Wiped,.slice A1 x.Recs.length C1]∧fp=f1∧x.Ok∧own s w [.slice A1 x.Recs.length C1] x.Recs f1:=by
  obtain ⟨_,_,_,_,rfl,e0,h0,k0⟩:=bE h
  obtain ⟨rfl,rfl⟩:=h0
  obtain ⟨A1,C1,rfl⟩:=aw k0
  exact ⟨A1,C1,_,rfl,by subst_vars; simp,trivial,k0⟩
theorem Tape.own_mk {s:Bool}{w:World}{x:Tape}{A1:Option Addr}{C1:Nat}{f1:List Nat}(ok:x.Ok) (o1:own s w [.slice A1 x.Recs.length C1] x.Recs f1):own s w [.bool x.Wiped,.slice A1 x.Recs.length C1] x (f1):=by
  have h:own s w _ (x.Wiped,x.Recs) _:=(bQ md o1)
  refine fP h ?_
  simp
theorem qx {w:World}:own true w [.bool false,.slice none 0 0] (default:Tape) []:=fP (Tape.own_mk (s:=true) (x:=(default:Tape)) trivial (.inr (.inl ⟨rfl,rfl,rfl⟩))) (by first | rfl | simp)
structure Wld where
  Shape:Shape
  Groups:List (List Drive)
  On:List Int
  Tapes:List Tape
  Writes:Int
  Stop:Int
  Down:Bool
instance:Rp Wld:=Rp.via fun x=>(x.Shape,x.Groups,x.On,x.Tapes,x.Writes,x.Stop,x.Down)
noncomputable instance:DecidableEq Wld:=fun _ _=>Classical.propDecidable _
def Wld.val (x:Wld) (A9:Option Addr) (C9:Nat) (A10:Option Addr) (C10:Nat) (A11:Option Addr) (C11:Nat):Value := .agg #[.int .i64 x.Shape.Groups,.int .i64 x.Shape.Column,.int .i64 x.Shape.Data,.int .i64 x.Shape.Spare,.int .i64 x.Shape.Rows,.int .i64 x.Shape.Cap,.int .i64 x.Shape.Batch,.int .i64 x.Shape.Queue,.int .i64 x.Shape.Stage,.slice A9 x.Groups.length C9,.slice A10 x.On.length C10,.slice A11 x.Tapes.length C11,.int .i64 x.Writes,.int .i64 x.Stop,.bool x.Down]
def Wld.Ok (x:Wld):Prop:=x.Shape.Ok∧I64ok x.Writes∧I64ok x.Stop
theorem uY {s w cs} {x:Wld}{fp} (h:own s w cs x fp):∃ (A9:Option Addr) (C9:Nat) (A10:Option Addr) (C10:Nat) (A11:Option Addr) (C11:Nat) (f9:List Nat) (f10:List Nat) (f11:List Nat) ,cs=[.int .i64 x.Shape.Groups,.int .i64 x.Shape.Column,.int .i64 x.Shape.Data,.int .i64 x.Shape.Spare,.int .i64 x.Shape.Rows,.int .i64 x.Shape.Cap,.int .i64 x.Shape.Batch,.int .i64 x.Shape.Queue,.int .i64 x.Shape.Stage,.slice A9 x.Groups.length C9,.slice A10 x.On.length C10,.slice A11 x.Tapes.length C11,.int .i64 x.Writes,.int .i64 x.Stop,.bool x.Down]∧fp=f9++(f10++(f11))∧x.Ok∧own s w [.slice A9 x.Groups.length C9] x.Groups f9∧own s w [.slice A10 x.On.length C10] x.On f10∧own s w [.slice A11 x.Tapes.length C11] x.Tapes f11:=by
  obtain ⟨_,_,_,_,rfl,e0,h0,k0⟩:=bE h
  obtain ⟨rfl,rfl,i0⟩:=p8 h0
  obtain ⟨_,_,_,_,rfl,e1,h1,k1⟩:=bE k0
  obtain ⟨A9,C9,rfl⟩:=aw h1
  obtain ⟨_,_,_,_,rfl,e2,h2,k2⟩:=bE k1
  obtain ⟨A10,C10,rfl⟩:=aw h2
  obtain ⟨_,_,_,_,rfl,e3,h3,k3⟩:=bE k2
  obtain ⟨A11,C11,rfl⟩:=aw h3
  obtain ⟨_,_,_,_,rfl,e4,h4,k4⟩:=bE k3
  obtain ⟨rfl,rfl,i4⟩:=cS h4
  obtain ⟨_,_,_,_,rfl,e5,h5,k5⟩:=bE k4
  obtain ⟨rfl,rfl,i5⟩:=cS h5
  obtain ⟨rfl,rfl⟩:=k5
  exact ⟨A9,C9,A10,C10,A11,C11,_,_,_,rfl,by subst_vars; simp,⟨i0,i4,i5⟩,h1,h2,h3⟩
theorem mt {s w A9 C9 A10 C10 A11 C11} {x:Wld}{fp} (h:own s w [.int .i64 x.Shape.Groups,.int .i64 x.Shape.Column,.int .i64 x.Shape.Data,.int .i64 x.Shape.Spare,.int .i64 x.Shape.Rows,.int .i64 x.Shape.Cap,.int .i64 x.Shape.Batch,.int .i64 x.Shape.Queue,.int .i64 x.Shape.Stage,.slice A9 x.Groups.length C9,.slice A10 x.On.length C10,.slice A11 x.Tapes.length C11,.int .i64 x.Writes,.int .i64 x.Stop,.bool x.Down] x fp):∃ (f9:List Nat) (f10:List Nat) (f11:List Nat),fp=f9++(f10++(f11))∧x.Ok∧own s w [.slice A9 x.Groups.length C9] x.Groups f9∧own s w [.slice A10 x.On.length C10] x.On f10∧own s w [.slice A11 x.Tapes.length C11] x.Tapes f11:=by
  obtain ⟨_,_,_,_,_,_,f9,f10,f11,e,ef,ok,o9,o10,o11⟩:=uY h
  simp only [List.cons.injEq,Value.slice.injEq,and_true,true_and] at e
  obtain ⟨⟨rfl,rfl⟩,⟨rfl,rfl⟩,⟨rfl,rfl⟩⟩:=e
  exact ⟨f9,f10,f11,ef,ok,o9,o10,o11⟩
theorem Wld.own_mk {s:Bool}{w:World}{x:Wld}{A9:Option Addr}{C9:Nat}{A10:Option Addr}{C10:Nat}{A11:Option Addr}{C11:Nat}{f9:List Nat}{f10:List Nat}{f11:List Nat}(ok:x.Ok) (o9:own s w [.slice A9 x.Groups.length C9] x.Groups f9) (o10:own s w [.slice A10 x.On.length C10] x.On f10) (o11:own s w [.slice A11 x.Tapes.length C11] x.Tapes f11):own s w [.int .i64 x.Shape.Groups,.int .i64 x.Shape.Column,.int .i64 x.Shape.Data,.int .i64 x.Shape.Spare,.int .i64 x.Shape.Rows,.int .i64 x.Shape.Cap,.int .i64 x.Shape.Batch,.int .i64 x.Shape.Queue,.int .i64 x.Shape.Stage,.slice A9 x.Groups.length C9,.slice A10 x.On.length C10,.slice A11 x.Tapes.length C11,.int .i64 x.Writes,.int .i64 x.Stop,.bool x.Down] x (f9++(f10++(f11))):=by
  obtain ⟨i0,i4,i5⟩:=ok
  have h:own s w _ (x.Shape,x.Groups,x.On,x.Tapes,x.Writes,x.Stop,x.Down) _:=(bQ (Shape.own_mk (x:=x.Shape) i0) (bQ o9 (bQ o10 (bQ o11 (bQ (cZ i4) (bQ (cZ i5) md))))))
  refine fP h ?_
  simp
theorem Wld.out {w0 w:World}{F:List Rsc}{x:Wld}{A9:Option Addr}{C9:Nat}{A10:Option Addr}{C10:Nat}{A11:Option Addr}{C11:Nat}{f9:List Nat}{f10:List Nat}{f11:List Nat}(h:Sep No w0 [mine [.slice A9 x.Groups.length C9] x.Groups f9,mine [.slice A10 x.On.length C10] x.On f10,mine [.slice A11 x.Tapes.length C11] x.Tapes f11] F w) (ok:x.Ok):Res w0 w [.int .i64 x.Shape.Groups,.int .i64 x.Shape.Column,.int .i64 x.Shape.Data,.int .i64 x.Shape.Spare,.int .i64 x.Shape.Rows,.int .i64 x.Shape.Cap,.int .i64 x.Shape.Batch,.int .i64 x.Shape.Queue,.int .i64 x.Shape.Stage,.slice A9 x.Groups.length C9,.slice A10 x.On.length C10,.slice A11 x.Tapes.length C11,.int .i64 x.Writes,.int .i64 x.Stop,.bool x.Down] x:=
  ⟨_,Wld.own_mk ok (h.mine 0 rfl) (h.mine 1 rfl) (h.mine 2 rfl),by have:=h.nd; simpa [blocks,mine] using this,fun b hb=>(h.new b (by simpa [blocks,mine] using hb)).resolve_left id⟩
structure WldResult where
  Code:Int
  Wd:Wld
instance:Rp WldResult:=Rp.via fun x=>(x.Code,x.Wd)
def WldResult.val (x:WldResult) (A10:Option Addr) (C10:Nat) (A11:Option Addr) (C11:Nat) (A12:Option Addr) (C12:Nat):Value := .agg #[.int .i64 x.Code,.int .i64 x.Wd.Shape.Groups,.int .i64 x.Wd.Shape.Column,.int .i64 x.Wd.Shape.Data,.int .i64 x.Wd.Shape.Spare,.int .i64 x.Wd.Shape.Rows,.int .i64 x.Wd.Shape.Cap,.int .i64 x.Wd.Shape.Batch,.int .i64 x.Wd.Shape.Queue,.int .i64 x.Wd.Shape.Stage,.slice A10 x.Wd.Groups.length C10,.slice A11 x.Wd.On.length C11,.slice A12 x.Wd.Tapes.length C12,.int .i64 x.Wd.Writes,.int .i64 x.Wd.Stop,.bool x.Wd.Down]
def WldResult.Ok (x:WldResult):Prop:=I64ok x.Code∧x.Wd.Ok
theorem pQ {s w cs} {x:WldResult}{fp} (h:own s w cs x fp):∃ (A10:Option Addr) (C10:Nat) (A11:Option Addr) (C11:Nat) (A12:Option Addr) (C12:Nat) (f10:List Nat) (f11:List Nat) (f12:List Nat) ,cs=[.int .i64 x.Code,.int .i64 x.Wd.Shape.Groups,.int .i64 x.Wd.Shape.Column,.int .i64 x.Wd.Shape.Data,.int .i64 x.Wd.Shape.Spare,.int .i64 x.Wd.Shape.Rows,.int .i64 x.Wd.Shape.Cap,.int .i64 x.Wd.Shape.Batch,.int .i64 x.Wd.Shape.Queue,.int .i64 x.Wd.Shape.Stage,.slice A10 x.Wd.Groups.length C10,.slice A11 x.Wd.On.length C11,.slice A12 x.Wd.Tapes.length C12,.int .i64 x.Wd.Writes,.int .i64 x.Wd.Stop,.bool x.Wd.Down]∧fp=f10++(f11++(f12))∧x.Ok∧own s w [.slice A10 x.Wd.Groups.length C10] x.Wd.Groups f10∧own s w [.slice A11 x.Wd.On.length C11] x.Wd.On f11∧own s w [.slice A12 x.Wd.Tapes.length C12] x.Wd.Tapes f12:=by
  obtain ⟨_,_,_,_,rfl,e0,h0,k0⟩:=bE h
  obtain ⟨rfl,rfl,i0⟩:=cS h0
  obtain ⟨A10,C10,A11,C11,A12,C12,g10,g11,g12,rfl,rfl,i1,o10,o11,o12⟩:=uY k0
  exact ⟨A10,C10,A11,C11,A12,C12,_,_,_,rfl,by subst_vars; simp,⟨i0,i1⟩,o10,o11,o12⟩
theorem hY {s w A10 C10 A11 C11 A12 C12} {x:WldResult}{fp} (h:own s w [.int .i64 x.Code,.int .i64 x.Wd.Shape.Groups,.int .i64 x.Wd.Shape.Column,.int .i64 x.Wd.Shape.Data,.int .i64 x.Wd.Shape.Spare,.int .i64 x.Wd.Shape.Rows,.int .i64 x.Wd.Shape.Cap,.int .i64 x.Wd.Shape.Batch,.int .i64 x.Wd.Shape.Queue,.int .i64 x.Wd.Shape.Stage,.slice A10 x.Wd.Groups.length C10,.slice A11 x.Wd.On.length C11,.slice A12 x.Wd.Tapes.length C12,.int .i64 x.Wd.Writes,.int .i64 x.Wd.Stop,.bool x.Wd.Down] x fp):∃ (f10:List Nat) (f11:List Nat) (f12:List Nat),fp=f10++(f11++(f12))∧x.Ok∧own s w [.slice A10 x.Wd.Groups.length C10] x.Wd.Groups f10∧own s w [.slice A11 x.Wd.On.length C11] x.Wd.On f11∧own s w [.slice A12 x.Wd.Tapes.length C12] x.Wd.Tapes f12:=by
  obtain ⟨_,_,_,_,_,_,f10,f11,f12,e,ef,ok,o10,o11,o12⟩:=pQ h
  simp only [List.cons.injEq,Value.slice.injEq,and_true,true_and] at e
  obtain ⟨⟨rfl,rfl⟩,⟨rfl,rfl⟩,⟨rfl,rfl⟩⟩:=e
  exact ⟨f10,f11,f12,ef,ok,o10,o11,o12⟩
theorem WldResult.own_mk {s:Bool}{w:World}{x:WldResult}{A10:Option Addr}{C10:Nat}{A11:Option Addr}{C11:Nat}{A12:Option Addr}{C12:Nat}{f10:List Nat}{f11:List Nat}{f12:List Nat}(ok:x.Ok) (o10:own s w [.slice A10 x.Wd.Groups.length C10] x.Wd.Groups f10) (o11:own s w [.slice A11 x.Wd.On.length C11] x.Wd.On f11) (o12:own s w [.slice A12 x.Wd.Tapes.length C12] x.Wd.Tapes f12):own s w [.int .i64 x.Code,.int .i64 x.Wd.Shape.Groups,.int .i64 x.Wd.Shape.Column,.int .i64 x.Wd.Shape.Data,.int .i64 x.Wd.Shape.Spare,.int .i64 x.Wd.Shape.Rows,.int .i64 x.Wd.Shape.Cap,.int .i64 x.Wd.Shape.Batch,.int .i64 x.Wd.Shape.Queue,.int .i64 x.Wd.Shape.Stage,.slice A10 x.Wd.Groups.length C10,.slice A11 x.Wd.On.length C11,.slice A12 x.Wd.Tapes.length C12,.int .i64 x.Wd.Writes,.int .i64 x.Wd.Stop,.bool x.Wd.Down] x (f10++(f11++(f12))):=by
  obtain ⟨i0,i1⟩:=ok
  have h:own s w _ (x.Code,x.Wd) _:=(bQ (cZ i0) (Wld.own_mk (x:=x.Wd) i1 o10 o11 o12))
  refine fP h ?_
  simp
theorem WldResult.out {w0 w:World}{F:List Rsc}{x:WldResult}{A10:Option Addr}{C10:Nat}{A11:Option Addr}{C11:Nat}{A12:Option Addr}{C12:Nat}{f10:List Nat}{f11:List Nat}{f12:List Nat}(h:Sep No w0 [mine [.slice A10 x.Wd.Groups.length C10] x.Wd.Groups f10,mine [.slice A11 x.Wd.On.length C11] x.Wd.On f11,mine [.slice A12 x.Wd.Tapes.length C12] x.Wd.Tapes f12] F w) (ok:x.Ok):Res w0 w [.int .i64 x.Code,.int .i64 x.Wd.Shape.Groups,.int .i64 x.Wd.Shape.Column,.int .i64 x.Wd.Shape.Data,.int .i64 x.Wd.Shape.Spare,.int .i64 x.Wd.Shape.Rows,.int .i64 x.Wd.Shape.Cap,.int .i64 x.Wd.Shape.Batch,.int .i64 x.Wd.Shape.Queue,.int .i64 x.Wd.Shape.Stage,.slice A10 x.Wd.Groups.length C10,.slice A11 x.Wd.On.length C11,.slice A12 x.Wd.Tapes.length C12,.int .i64 x.Wd.Writes,.int .i64 x.Wd.Stop,.bool x.Wd.Down] x:=
  ⟨_,WldResult.own_mk ok (h.mine 0 rfl) (h.mine 1 rfl) (h.mine 2 rfl),by have:=h.nd; simpa [blocks,mine] using this,fun b hb=>(h.new b (by simpa [blocks,mine] using hb)).resolve_left id⟩
structure RecsResult where
  Code:Int
  Recs:List Rec
instance:Rp RecsResult:=Rp.via fun x=>(x.Code,x.Recs)
def RecsResult.val (x:RecsResult) (A1:Option Addr) (C1:Nat):Value := .agg #[.int .i64 x.Code,.slice A1 x.Recs.length C1]
def RecsResult.Ok (x:RecsResult):Prop:=I64ok x.Code
theorem pi {s w cs} {x:RecsResult}{fp} (h:own s w cs x fp):∃ (A1:Option Addr) (C1:Nat) (f1:List Nat) ,cs=[.int .i64 x.Code,.slice A1 x.Recs.length C1]∧fp=f1∧x.Ok∧own s w [.slice A1 x.Recs.length C1] x.Recs f1:=by
  obtain ⟨_,_,_,_,rfl,e0,h0,k0⟩:=bE h
  obtain ⟨rfl,rfl,i0⟩:=cS h0
  obtain ⟨A1,C1,rfl⟩:=aw k0
  exact ⟨A1,C1,_,rfl,by subst_vars; simp,i0,k0⟩
theorem fe {s w A1 C1} {x:RecsResult}{fp} (h:own s w [.int .i64 x.Code,.slice A1 x.Recs.length C1] x fp):∃ (f1:List Nat),fp=f1∧x.Ok∧own s w [.slice A1 x.Recs.length C1] x.Recs f1:=by
  obtain ⟨_,_,f1,e,ef,ok,o1⟩:=pi h
  simp only [List.cons.injEq,Value.slice.injEq,and_true,true_and] at e
  obtain ⟨rfl,rfl⟩:=e
  exact ⟨f1,ef,ok,o1⟩
theorem RecsResult.own_mk {s:Bool}{w:World}{x:RecsResult}{A1:Option Addr}{C1:Nat}{f1:List Nat}(ok:x.Ok) (o1:own s w [.slice A1 x.Recs.length C1] x.Recs f1):own s w [.int .i64 x.Code,.slice A1 x.Recs.length C1] x (f1):=by
  have i0:=ok
  have h:own s w _ (x.Code,x.Recs) _:=(bQ (cZ i0) o1)
  refine fP h ?_
  simp
theorem RecsResult.out {w0 w:World}{F:List Rsc}{x:RecsResult}{A1:Option Addr}{C1:Nat}{f1:List Nat}(h:Sep No w0 [mine [.slice A1 x.Recs.length C1] x.Recs f1] F w) (ok:x.Ok):Res w0 w [.int .i64 x.Code,.slice A1 x.Recs.length C1] x:=
  ⟨_,RecsResult.own_mk ok (h.mine 0 rfl),by have:=h.nd; simpa [blocks,mine] using this,fun b hb=>(h.new b (by simpa [blocks,mine] using hb)).resolve_left id⟩
end Go.Wk
namespace Go.Wk
open Rp (sz own)
theorem Sep.fbox {M:Nat→Prop}{w0 w:World}{Δ F:List Rsc}(h:Sep M w0 Δ F w) (j:Nat) {b:Nat}{o:Obj}(hj:F[j]? = some (Wk.box b o)):w.heap[b]? = some o:=h.fs _ (List.mem_of_getElem? hj)
theorem Sep.foff {M:Nat→Prop}{w0 w:World}{Δ F:List Rsc}(h:Sep M w0 Δ F w) (j:Nat) {b:Nat}{o:Obj}(hj:F[j]? = some (Wk.box b o)) (i:Nat) {r:Rsc}{fp:List Nat}(hi:Δ[i]? = some r) (hf:r.fp=fp):b ∉ fp:=fun hm=>
  h.ap _ (List.mem_of_getElem? hj) b (by simp [Wk.box]) (be.2 ⟨r,List.mem_of_getElem? hi,hf ▸ hm⟩)
theorem Ext.atM {M:Nat→Prop}{w w':World}(h:Ext M w w') {b o:Nat}{cs:List Value}(hm:¬ M b) (hc:At w b o cs):At w' b o cs:=fun j v hj=>h.cellM hm (hc j v hj)
theorem bC {α:Type}[Rp α] [Inhabited α] {s w ad n cap} {xs:List α}{fp} (h:own s w [.slice ad n cap] xs fp) (k:Nat) (hk:k<xs.length) :
    ∃ b o cs f,ad=some ⟨b,o,none⟩∧At w b (o+k*sz α) cs∧own s w cs (xs.getD k default) f∧(∀ b∈f,b∈fp)∧b∈fp:=by
  obtain ⟨b,o,cs,f,h1,h2,h3,h4,h5⟩:=eJ h k hk
  rw [show xs.getD k default=xs[k] from by simp [List.getD,hk]]
  exact ⟨b,o,cs,f,h1,h2,h3,h4,h5⟩
section
variable {P:Program}{n:Nat}{ops:Array Oper}{Q:Post}{L:Env}{ty:TypeId}{p:String}{af:Array Edge}{g:Option (Nat × Bool)}{M:Nat→Prop}{w0 w:World}{Δ F:List Rsc}{α:Type}[Rp α]
theorem wO {rest:List Oper}{t:TypeId}{x y:Operand}{b off:Nat}{vs:List Value}{ad:Option Addr}{len cap:Nat}{xs:List α}{fp fu:List Nat}{u:α}(hw:Wn ops n L ⟨none,.store t x y,ty,p,af,g⟩) (hs:∀ w,(sizeOf t).run P w = .ok (sz α) w)
    (H:Sep M w0 Δ F w) (i j:Nat) (hi:Δ[i]? = some (mine [.slice ad len cap] xs fp)) (hj:Δ[j]? = some (mine vs u fu)) (hij:Nat.beq j i=false) (q:Nat) (hq:q<xs.length) (hx:evL L x=some (.pointer (some ⟨b,off+q*sz α,none⟩))) (had:ad=some ⟨b,off,none⟩) (hy:evL L y=some (.agg vs.toArray))
    (k:∀ w' fp',Sep M w0 ((Δ.set j gone).set i (mine [.slice ad len cap] (xs.set q u) fp')) F w'→RL P n ops Q rest L w') :
    RL P n ops Q (⟨none,.store t x y,ty,p,af,g⟩::rest) L w:=by
  obtain ⟨b',o',cur,T,fp',e1,hb,hsz,hk⟩:=H.elset2 i j hi hj hij q hq
  rw [had] at e1
  simp only [Option.some.injEq,Addr.mk.injEq,and_true] at e1
  obtain ⟨rfl,rfl⟩:=e1
  have hm:=H.mine j hj
  exact xN hw rfl (gV hs hx hy (Rp.len hm) (Rp.one hm) hb hsz) (k _ fp' hk)
theorem pf {S:World→Prop}{l:Nat}{t:TypeId}{x y:Operand}{b off:Nat}{vs:List Value}{ad:Option Addr}{len cap:Nat}{xs:List α}{fp fu:List Nat}{u:α}(ho:ops.toList[l]? = some ⟨none,.store t x y,ty,p,af,g⟩) (hw:Wn ops n L ⟨none,.store t x y,ty,p,af,g⟩) (hs:∀ w,(sizeOf t).run P w = .ok (sz α) w)
    (H:Sep M w0 Δ F w) (i j:Nat) (hi:Δ[i]? = some (mine [.slice ad len cap] xs fp)) (hj:Δ[j]? = some (mine vs u fu)) (hij:Nat.beq j i=false) (q:Nat) (hq:q<xs.length) (hx:evL L x=some (.pointer (some ⟨b,off+q*sz α,none⟩))) (had:ad=some ⟨b,off,none⟩) (hy:evL L y=some (.agg vs.toArray))
    (k:∀ w' fp',Sep M w0 ((Δ.set j gone).set i (mine [.slice ad len cap] (xs.set q u) fp')) F w'→DL P n ops Q S [] L w') :
    DL P n ops Q S [(l,false)] L w:=by
  obtain ⟨b',o',cur,T,fp',e1,hb,hsz,hk⟩:=H.elset2 i j hi hj hij q hq
  rw [had] at e1
  simp only [Option.some.injEq,Addr.mk.injEq,and_true] at e1
  obtain ⟨rfl,rfl⟩:=e1
  have hm:=H.mine j hj
  exact vH ho hw rfl (gV hs hx hy (Rp.len hm) (Rp.one hm) hb hsz) (fun _ hr=>absurd rfl hr) (k _ fp' hk)
end
def szL {α:Type}[Inhabited α] (f:α→Nat) (xs:List α):Nat:=xs.length+fS (fun i=>f (xs.getD i default)) xs.length
theorem fc {α:Type}[Inhabited α] {f:α→Nat}{xs:List α}{m:Nat}(h:szL f xs≤m) (k:Nat) (hk:k<xs.length):f (xs.getD k default)≤m∧xs.length≤m:=by
  have:fS (fun i=>f (xs.getD i default)) (k+1)≤fS (fun i=>f (xs.getD i default)) xs.length:=u9 ω
  have h2:fS (fun i=>f (xs.getD i default)) (k+1)=fS (fun i=>f (xs.getD i default)) k+f (xs.getD k default):=rfl
  unfold szL at h
  omega
def fN (x:Rec):Nat:=x.Name.size+x.Rows.length+x.Data.length+x.Delta.length
def mD (x:Block):Nat:=x.Bytes.length
def et (x:Drive):Nat:=szL mD x.Blocks
def gK (x:Tape):Nat:=szL fN x.Recs
def df (x:Wld):Nat:=szL (szL et) x.Groups+x.On.length+szL gK x.Tapes
def mkL {α:Type}[Inhabited α] (f:α→Nat) (xs:List α):Nat:=fS (fun i=>f (xs.getD i default)) xs.length
def nz (x:Rec):Nat:=6+x.Rows.length+x.Data.length+x.Delta.length
def yA (x:Block):Nat:=1+x.Bytes.length
def yb (x:Drive):Nat:=1+mkL yA x.Blocks
def pa (x:Tape):Nat:=1+mkL nz x.Recs
def je (x:Wld):Nat:=mkL (mkL yb) x.Groups+x.On.length+mkL pa x.Tapes
end Go.Wk
namespace Go.Wk
open Rp (sz own)
def apartAt (xs:List Int) (m:Int) (i:Nat):Bool:=ins (xs.getD i 0) 0 m && !decide (xs.getD i 0∈xs.take i)
def apartL (xs:List Int) (m:Int):Bool:=(List.range xs.length).all (apartAt xs m)
theorem gT {n:Nat}{p:Nat→Bool}(h:∀ i,i<n→p i=true):(List.range n).all p=true:=by
  rw [List.all_eq_true]; exact fun i hi=>h i (by simpa using hi)
theorem yw {n:Nat}{p:Nat→Bool}(h:(List.range n).all p=true) (i:Nat) (hi:i<n):p i=true:=by
  rw [List.all_eq_true] at h; exact h i (by simpa using hi)
theorem jK {n:Nat}{p:Nat→Bool}(i:Nat) (hi:i<n) (h:p i=false):(List.range n).all p=false:=by
  cases hr:(List.range n).all p with
  | false=>rfl
  | true=>rw [yw hr i hi] at h; cases h
def eN (s:Shape) (len:Int):Int:=(len-1).tdiv (s.Data*4)+1
def dG (s:Shape) (len:Int):Int:=if len<1 then 6 else if 3*(s.Data*4)<len then 2 else 0
def ge (s:Shape) (r:Rec):Bool:=
  if r.Length = -1 then decide (r.Data.length=0) && decide (r.Rows.length=0)
  else decide (dG s r.Length=0) && if 0<r.Data.length then decide ((r.Data.length:Int)=r.Length) && decide (r.Rows.length=0) else decide ((r.Rows.length:Int)=eN s r.Length) && apartL r.Rows (s.Rows-1)
def weightsOK (s:Shape) (r:Rec):Bool:=
  decide ((r.Delta.length:Int)=s.Groups+s.Column) && decide (((r.Delta.getD r.Group.toNat 0).toNat:Int)=0) && (List.range r.Rows.length).all fun i=>decide (¬ ((r.Delta.getD (r.Rows.getD i 0).toNat 0).toNat:Int)=0)
def dw (s:Shape) (r:Rec):Bool:=
  ins r.Group 0 (s.Groups+s.Column-1) && ins r.Row 0 (s.Rows-1) && rises r.Rows (s.Groups+s.Column-1) && decide ((r.Data.length:Int)=s.Data*4) && weightsOK s r
def fF (s:Shape) (r:Rec):Bool:=ins r.Group 0 (s.Groups-1) && ins r.Row 0 (s.Rows-1) && decide ((r.Data.length:Int)=s.Data*4) && decide ((r.Delta.length:Int)=s.Data*4)
def noName (r:Rec):Bool:=decide (r.Name=⟨#[]⟩)
def bareOK (r:Rec):Bool:=
  if r.Kind=1 then decide (r.Group=0) && decide (r.Row=0) && decide (r.Delta.length=0)
  else if r.Kind=2 then noName r && decide (r.Length=0) && decide (r.Rows.length=0)
  else if r.Kind=3 then noName r && decide (r.Length=0) && decide (r.Row=0) && decide (r.Rows.length=0) && decide (r.Data.length=0) && decide (r.Delta.length=0)
  else noName r && decide (r.Length=0)
def eS (s:Shape) (r:Rec):Int:=
  if r.Kind=1 then if cE r.Name≠0 then cE r.Name else if ge s r then 0 else 3
  else if r.Kind=2 then if fF s r then 0 else 3
  else if r.Kind=3 then if ins r.Group 0 (s.Groups+s.Column-1) then 0 else 3
  else if dw s r then 0 else 3
def fH (s:Shape) (r:Rec):Int:=
  if ins r.Kind 1 4 then if ins r.Seq 1 1000000000 then if eS s r≠0 then eS s r else if bareOK r then 0 else 1 else 3 else 5
def eu (b:Block):Bool:=ins b.Stamp 0 1000000000 && decide (b.Bytes.length=4)
def dU (s:Shape) (d:Drive):Bool:=decide ((d.Blocks.length:Int)=s.Rows) && (List.range d.Blocks.length).all fun i=>eu (d.Blocks.getD i default)
def fL (s:Shape) (g:List Drive):Bool:=decide ((g.length:Int)=s.Data+s.Spare) && (List.range g.length).all fun i=>dU s (g.getD i default)
def db (w:Wld):Bool:=decide ((w.Groups.length:Int)=w.Shape.Groups+w.Shape.Column) && (List.range w.Groups.length).all fun i=>fL w.Shape (w.Groups.getD i [])
def mZ (w:Wld):Bool:=apartL w.On (w.Shape.Groups+w.Shape.Column-1) && decide ((w.On.length:Int)≤w.Shape.Cap) && (decide (w.On.length=0) || !w.Down)
def dr (s:Shape) (rs:List Rec):Nat→Int
  | 0=>0
  | k+1=>if dr s rs k≠0 then dr s rs k else fH s (rs.getD k default)
def di (s:Shape) (ts:List Tape):Nat→Int
  | 0=>0
  | k+1=>if di s ts k≠0 then di s ts k else dr s (ts.getD k default).Recs (ts.getD k default).Recs.length
def cx (t:Tape):Bool:=decide ((200:Int)<t.Recs.length)
def cj (t:Tape):Bool:=t.Wiped && decide ((0:Int)<t.Recs.length)
def dN (w:Wld):Int:=
  if w.Tapes.any cx then 2 else if di w.Shape w.Tapes w.Tapes.length≠0 then di w.Shape w.Tapes w.Tapes.length else if w.Tapes.any cj then 1 else 0
def bV (w:Wld):Int:=
  if w.Shape.fault≠0 then w.Shape.fault
  else if db w && mZ w && decide (w.Tapes.length=2) then if dN w≠0 then dN w else if ins w.Writes 0 1000000000 && ins w.Stop (-1) 1000000000 then 0 else 3
  else 1
end Go.Wk
namespace Go.Wk
open Rp (sz own)
section
variable {s:Shape}{len:Int}
theorem qA (hd:1≤s.Data∧s.Data≤3) (h:1≤len):3<(len-1).tdiv (s.Data*4)+1↔3*(s.Data*4)<len:=by
  rw [Int.tdiv_eq_ediv_of_nonneg ω]
  have:s.Data=1∨s.Data=2∨s.Data=3:=by omega
  rcases this with e | e | e<;>rw [e]<;>omega
theorem qu (hd:1≤s.Data∧s.Data≤3) (h:1≤len):(len+s.Data*4-1).tdiv (s.Data*4)=eN s len:=by
  rw [eN,Int.tdiv_eq_ediv_of_nonneg ω,Int.tdiv_eq_ediv_of_nonneg ω]
  have:s.Data=1∨s.Data=2∨s.Data=3:=by omega
  rcases this with e | e | e<;>rw [e]<;>omega
theorem si (hd:1≤s.Data∧s.Data≤3) (h:1≤len):0≤(len-1).tdiv (s.Data*4)∧(len-1).tdiv (s.Data*4)<len:=by
  rw [Int.tdiv_eq_ediv_of_nonneg ω]
  have:s.Data=1∨s.Data=2∨s.Data=3:=by omega
  rcases this with e | e | e<;>rw [e]<;>omega
def jG (s:Shape) (len:Int):Int:=if dG s len=0 then eN s len else 0
theorem sb (h:len<1):dG s len=6∧jG s len=0:=by
  have:dG s len=6:=by rw [dG,if_pos h]
  exact ⟨this,by rw [jG,this]; rfl⟩
theorem qK (h:¬ len<1) (h2:3*(s.Data*4)<len):dG s len=2∧jG s len=0:=by
  have:dG s len=2:=by rw [dG,if_neg h,if_pos h2]
  exact ⟨this,by rw [jG,this]; rfl⟩
theorem vd (h:¬ len<1) (h2:¬ 3*(s.Data*4)<len):dG s len=0∧jG s len=eN s len:=by
  have:dG s len=0:=by rw [dG,if_neg h,if_neg h2]
  exact ⟨this,by rw [jG,if_pos this]⟩
theorem qI (h:dG s len=0):1≤len∧¬ 3*(s.Data*4)<len:=by
  unfold dG at h
  split at h
  · cases h
  · split at h
    · cases h
    · exact ⟨ω,ω⟩
end
theorem iU {n:Nat}{p:Nat→Bool}:(List.range (n+1)).all p=((List.range n).all p && p n):=by
  rw [List.range_succ,List.all_append]; simp
theorem eq {α:Type}{xs:List α}{i:Nat}:cut xs 0 i=xs.take i:=by simp [cut]
theorem hX {s:Shape}{rs:List Rec}{j:Nat}(h:dr s rs j≠0):∀ m,j≤m→dr s rs m=dr s rs j:=by
  intro m hm
  induction m with
  | zero=>rw [show j=0 by omega]
  | succ m ih=>
    by_cases e:j=m+1
    · rw [e]
    · have ih:=ih ω
      rw [dr,if_pos (by rw [ih]; exact h),ih]
theorem ff {s:Shape}{rs:List Rec}{j:Nat}(h:dr s rs j=0):dr s rs (j+1)=fH s (rs.getD j default):=by rw [dr,if_neg ω]
theorem wc {s:Shape}{rs:List Rec}{j:Nat}(hj:j<rs.length) (h:dr s rs j=0) (hr:fH s (rs.getD j default)≠0):dr s rs rs.length=fH s (rs.getD j default):=by
  have e:=ff h
  rw [hX (j:=j+1) (by rw [e]; exact hr) _ ω,e]
theorem hC {s:Shape}{ts:List Tape}{j:Nat}(h:di s ts j≠0):∀ m,j≤m→di s ts m=di s ts j:=by
  intro m hm
  induction m with
  | zero=>rw [show j=0 by omega]
  | succ m ih=>
    by_cases e:j=m+1
    · rw [e]
    · have ih:=ih ω
      rw [di,if_pos (by rw [ih]; exact h),ih]
theorem eH {s:Shape}{ts:List Tape}{j:Nat}(h:di s ts j=0):di s ts (j+1)=dr s (ts.getD j default).Recs (ts.getD j default).Recs.length:=by rw [di,if_neg ω]
theorem vA {s:Shape}{ts:List Tape}{j i:Nat}(hj:j<ts.length) (h:di s ts j=0) (hi:i<(ts.getD j default).Recs.length) (h2:dr s (ts.getD j default).Recs i=0) (hr:fH s ((ts.getD j default).Recs.getD i default)≠0) :
    di s ts ts.length=fH s ((ts.getD j default).Recs.getD i default):=by
  have e:=eH h
  rw [wc hi h2 hr] at e
  rw [hC (j:=j+1) (by rw [e]; exact hr) _ ω,e]
theorem qZ {α:Type}[Inhabited α] {xs:List α}{p:α→Bool}(k:Nat) (hk:k<xs.length) (h:p (xs.getD k default)=true):xs.any p=true:=by
  rw [List.any_eq_true]
  exact ⟨xs[k],List.getElem_mem hk,by simpa [List.getD,hk] using h⟩
theorem oW {α:Type}[Inhabited α] {xs:List α}{p:α→Bool}(h:∀ i,i<xs.length→p (xs.getD i default)=false):xs.any p=false:=by
  rw [List.any_eq_false]
  intro x hx
  obtain ⟨i,hi,rfl⟩:=List.getElem_of_mem hx
  have:=h i hi
  simpa [List.getD,hi] using this
end Go.Wk
namespace Go.Wk
def upF (w:Wld):Int:=if bV w≠0 then bV w else if w.Down=true then 9 else 0
theorem bR {w:Wld}(h:bV w=0):w.Shape.ok=true∧db w=true∧mZ w=true∧w.Tapes.length=2∧dN w=0:=by
  unfold bV at h
  split at h
  · rename_i h1; exact absurd h h1
  · rename_i h1
    have hs:=fa (s:=w.Shape) ω
    split at h
    · rename_i h2
      simp only [Bool.and_eq_true,decide_eq_true_eq] at h2
      split at h
      · rename_i h3; exact absurd h h3
      · rename_i h3
        exact ⟨hs,h2.1.1,h2.1.2,h2.2,ω⟩
    · cases h
theorem mO {w:Wld}(h:upF w=0):bV w=0∧w.Down=false:=by
  unfold upF at h
  split at h
  · rename_i h1; exact absurd h h1
  · split at h
    · cases h
    · rename_i h1 h2
      exact ⟨ω,by simpa using h2⟩
end Go.Wk
namespace Go.Wk
theorem eqB {a b:Bool}(h:a=b):some (Value.bool a)=some (Value.bool b):=by rw [h]
def nG (s:Shape) (r:Rec):Int:=if cE r.Name≠0 then cE r.Name else if ge s r=true then 0 else 3
theorem oU {s r} (h:cE r.Name≠0):nG s r=cE r.Name:=by rw [nG,if_pos h]
theorem kn {s r} (h:¬ cE r.Name≠0) (h2:ge s r=true):nG s r=0:=by rw [nG,if_neg h,if_pos h2]
theorem jg {s r} (h:¬ cE r.Name≠0) (h2:ge s r=false):nG s r=3:=by rw [nG,if_neg h,if_neg (by simp [h2])]
end Go.Wk
namespace Go.Wk
open Rp (sz own)
section
variable {P:Program}{n:Nat}{c:Code}{Q:Post}{L:Env}{w w0:World}{M:Nat→Prop}{Δ F:List Rsc}
theorem jC {L:Env}:∀ {A B:Env},sub L A→sub L B→sub L (A++B)
  | [],_,_,h=>h
  | _::_,_,h,k=>⟨h.1,jC h.2 k⟩
theorem bU {γ:Type}(H:Sep M w0 Δ F w) (E2:Env) (h2:sub L E2) (E:γ→Env) (I:γ→Prop) (μ:γ→Nat) (g0:γ) (hs:sub L (E g0)) (h0:I g0)
  (round:∀ g w,Sep M w0 Δ F w→I g→W P n c (again (fun g=>E g++E2) (fun g w'=>Sep M w0 Δ F w'∧I g) μ g Q) (E g++E2) w):W P n (.loop c) Q L w:=
 cf (fun g=>E g++E2) (fun g w'=>Sep M w0 Δ F w'∧I g) μ g0 (jC hs h2) ⟨H,h0⟩ fun g w h=>round g w h.1 h.2
theorem wZ {x y:Code}{γ:Type}(H:Sep M w0 Δ F w) (E2:Env) (h2:sub L E2) (E:γ→Env) (I:γ→Prop)
  (h:W P n x (meets (fun g=>E g++E2) (fun g w'=>Sep M w0 Δ F w'∧I g) Q) L w)
  (k:∀ g w',Sep M w0 Δ F w'→I g→W P n y Q (E g++E2) w'):W P n (.seq x y) Q L w:=
 lj (fun g=>E g++E2) (fun g w'=>Sep M w0 Δ F w'∧I g) h fun g w' hI=>k g w' hI.1 hI.2
end
end Go.Wk
namespace Go.Wk
theorem uU {s:Shape}{r:Rec}{a b c d:Bool}(h1:r.Length ≠ -1) (h2:dG s r.Length=0) (ea:a=decide ((r.Data.length:Int)=r.Length)) (eb:b=decide ((r.Rows.length:Int)=0))
    (ec:c=decide ((r.Data.length:Int)=0)) (ed:d=decide ((r.Rows.length:Int)=eN s r.Length)):(a && b || (c && d && apartL r.Rows (s.Rows-1)))=ge s r:=by
  subst ea; subst eb; subst ec; subst ed
  have hz:=qI h2
  rw [ge,if_neg h1,decide_eq_true h2,Bool.true_and]
  by_cases hd:0<r.Data.length
  · rw [if_pos hd,decide_eq_false (by omega:¬ ((r.Data.length:Int)=0))]
    simp
  · rw [if_neg hd,decide_eq_true (by omega:((r.Data.length:Int)=0)),decide_eq_false (by omega:¬ ((r.Data.length:Int)=r.Length))]
    simp
theorem pD {s:Shape}{r:Rec}(h1:r.Length = -1):ge s r=(decide (r.Data.length=0) && decide (r.Rows.length=0)):=by rw [ge,if_pos h1]
theorem p6 {s:Shape}{r:Rec}(h1:r.Length ≠ -1) (h2:dG s r.Length≠0):ge s r=false:=by rw [ge,if_neg h1,decide_eq_false h2]; rfl
theorem pW {s:Shape}{len:Int}(h:dG s len=0):jG s len=eN s len:=by rw [jG,if_pos h]
end Go.Wk
namespace Go.Wk
def iQ (r:Rec):Bool:=noName r && decide (r.Length=0) && decide (r.Group=0) && decide (r.Row=0) && decide (r.Rows.length=0) && decide (r.Data.length=0) && decide (r.Delta.length=0)
def dT (r:Rec):Rec:=
  if r.Kind=1 then ⟨r.Kind,r.Seq,r.Name,r.Length,0,0,r.Rows,r.Data,[]⟩
  else if r.Kind=2 then ⟨r.Kind,r.Seq,⟨#[]⟩,0,r.Group,r.Row,[],r.Data,r.Delta⟩
  else if r.Kind=3 then ⟨r.Kind,r.Seq,⟨#[]⟩,0,r.Group,0,[],[],[]⟩
  else if r.Kind=4 then ⟨r.Kind,r.Seq,⟨#[]⟩,0,r.Group,r.Row,r.Rows,r.Data,r.Delta⟩
  else ⟨r.Kind,r.Seq,⟨#[]⟩,0,0,0,[],[],[]⟩
theorem pp {r:Rec}(hk:1≤r.Kind∧r.Kind≤4):decide (r=dT r)=bareOK r:=by
  obtain ⟨k,q,nm,ln,g,rw,rs,da,de⟩:=r
  have:k=1∨k=2∨k=3∨k=4:=by simp only at hk; omega
  rcases this with rfl | rfl | rfl | rfl<;>simp [dT,bareOK,noName,Bool.and_assoc]
theorem rI {a b:Rec}:(decide (a.Kind=b.Kind) && (decide (a.Seq=b.Seq) && ((a.Name.toList == b.Name.toList) && (decide (a.Length=b.Length) && (decide (a.Group=b.Group) && (decide (a.Row=b.Row) && (decide (a.Rows=b.Rows) && (decide (a.Data=b.Data) && decide (a.Delta=b.Delta)))))))))=decide (a=b):=by
  obtain ⟨k,q,nm,ln,g,rw,rs,da,de⟩:=a
  obtain ⟨k2,q2,nm2,ln2,g2,rw2,rs2,da2,de2⟩:=b
  simp [rk]
theorem pO {s:Shape}{r:Rec}(h:¬ ((r.Delta.getD r.Group.toNat 0).toNat:Int)=0):weightsOK s r=false:=by rw [weightsOK,decide_eq_false h]; simp
theorem px {s:Shape}{r:Rec}(k:Nat) (hk:k<r.Rows.length) (h:((r.Delta.getD (r.Rows.getD k 0).toNat 0).toNat:Int)=0):weightsOK s r=false:=by
  rw [weightsOK,jK k hk (by rw [decide_eq_false (by simpa using h)])]; simp
theorem p9 {s:Shape}{r:Rec}(h:(r.Delta.length:Int)=s.Groups+s.Column) (h2:((r.Delta.getD r.Group.toNat 0).toNat:Int)=0) (h3:∀ i,i<r.Rows.length→¬ ((r.Delta.getD (r.Rows.getD i 0).toNat 0).toNat:Int)=0):weightsOK s r=true:=by
  rw [weightsOK,decide_eq_true h,decide_eq_true h2,gT fun i hi=>decide_eq_true (h3 i hi)]; rfl
theorem uk {s:Shape}{r:Rec}(h:¬ (r.Delta.length:Int)=s.Groups+s.Column):weightsOK s r=false:=by rw [weightsOK,decide_eq_false h]; rfl
end Go.Wk
namespace Go.Wk
theorem lW {s:Shape}{r:Rec}(h1:r.Length ≠ -1) (h2:dG s r.Length=0):ge s r=if 0<r.Data.length then decide ((r.Data.length:Int)=r.Length) && decide (r.Rows.length=0) else decide ((r.Rows.length:Int)=eN s r.Length) && apartL r.Rows (s.Rows-1):=by
  rw [ge,if_neg h1,decide_eq_true h2,Bool.true_and]
end Go.Wk
namespace Go.Wk
theorem sx {α:Type}{d:α}{xs:List α}{p:α→Bool}(h:xs.any p=true):∃ i,i<xs.length∧p (xs.getD i d)=true:=by
  rw [List.any_eq_true] at h
  obtain ⟨x,hx,hp⟩:=h
  obtain ⟨i,hi,rfl⟩:=List.getElem_of_mem hx
  exact ⟨i,hi,by simpa [List.getD,hi] using hp⟩
theorem mE {α:Type}{d:α}{xs:List α}{p:α→Bool}(h:xs.any p=false) (i:Nat) (hi:i<xs.length):p (xs.getD i d)=false:=by
  rw [List.any_eq_false] at h
  have:=h xs[i] (List.getElem_mem hi)
  simpa [List.getD,hi] using this
theorem ue {s:Shape}{r:Rec}(h:r.Rows.any (fun k=>decide (((r.Delta.getD k.toNat 0).toNat:Int)=0))=true):weightsOK s r=false:=by
  obtain ⟨i,hi,h⟩:=sx (d:=0) h
  exact px i hi (by simpa using h)
theorem ss {s:Shape}{r:Rec}(h:(r.Delta.length:Int)=s.Groups+s.Column) (h2:((r.Delta.getD r.Group.toNat 0).toNat:Int)=0) (h3:r.Rows.any (fun k=>decide (((r.Delta.getD k.toNat 0).toNat:Int)=0))=false):weightsOK s r=true:=
  p9 h h2 fun i hi=>by simpa using mE (d:=0) h3 i hi
end Go.Wk
namespace Go.Wk
theorem yi {r:Rec}(h:r.Kind=1):dT r=⟨r.Kind,r.Seq,r.Name,r.Length,0,0,r.Rows,r.Data,[]⟩:=by rw [dT,if_pos h]
theorem yG {r:Rec}(h:¬ r.Kind=1) (h2:r.Kind=2):dT r=⟨r.Kind,r.Seq,⟨#[]⟩,0,r.Group,r.Row,[],r.Data,r.Delta⟩:=by rw [dT,if_neg h,if_pos h2]
theorem yg {r:Rec}(h:¬ r.Kind=1) (h2:¬ r.Kind=2) (h3:r.Kind=3):dT r=⟨r.Kind,r.Seq,⟨#[]⟩,0,r.Group,0,[],[],[]⟩:=by rw [dT,if_neg h,if_neg h2,if_pos h3]
theorem yL {r:Rec}(h:¬ r.Kind=1) (h2:¬ r.Kind=2) (h3:¬ r.Kind=3) (h4:r.Kind=4):dT r=⟨r.Kind,r.Seq,⟨#[]⟩,0,r.Group,r.Row,r.Rows,r.Data,r.Delta⟩:=by rw [dT,if_neg h,if_neg h2,if_neg h3,if_pos h4]
theorem yE {r:Rec}(h:¬ r.Kind=1) (h2:¬ r.Kind=2) (h3:¬ r.Kind=3) (h4:¬ r.Kind=4):dT r=⟨r.Kind,r.Seq,⟨#[]⟩,0,0,0,[],[],[]⟩:=by rw [dT,if_neg h,if_neg h2,if_neg h3,if_neg h4]
theorem wP {r:Rec}(h:r.Ok):(dT r).Ok:=by
  unfold Rec.Ok I64ok at h ⊢
  unfold dT
  have:(⟨#[]⟩:ByteArray).size≤maxLen:=Nat.zero_le _
  split
  · simp only; omega
  · split
    · simp only; omega
    · split
      · simp only; omega
      · split
        · simp only; omega
        · simp only; omega
end Go.Wk
namespace Go.Wk
section
variable {s:Shape}{r:Rec}
theorem nb (h:ins r.Kind 1 4=false):fH s r=5:=by rw [fH,if_neg (by simp [h])]
theorem pF (h:ins r.Kind 1 4=true) (h2:ins r.Seq 1 1000000000=false):fH s r=3:=by rw [fH,if_pos h,if_neg (by simp [h2])]
theorem dP (h:ins r.Kind 1 4=true) (h2:ins r.Seq 1 1000000000=true) (h3:eS s r≠0):fH s r=eS s r:=by rw [fH,if_pos h,if_pos h2,if_pos h3]
theorem jh (h:ins r.Kind 1 4=true) (h2:ins r.Seq 1 1000000000=true) (h3:eS s r=0) (h4:bareOK r=false):fH s r=1:=by rw [fH,if_pos h,if_pos h2,if_neg ω,if_neg (by simp [h4])]
theorem mu (h:ins r.Kind 1 4=true) (h2:ins r.Seq 1 1000000000=true) (h3:eS s r=0) (h4:bareOK r=true):fH s r=0:=by rw [fH,if_pos h,if_pos h2,if_neg ω,if_pos h4]
theorem hJ (h:r.Kind=1):eS s r=nG s r:=by rw [eS,if_pos h]; rfl
theorem dS (h:r.Kind=4):eS s r=if dw s r=true then 0 else 3:=by rw [eS,if_neg ω,if_neg ω,if_neg ω]
theorem lp (h:r.Kind=3) (h2:ins r.Group 0 (s.Groups+s.Column-1)=false):eS s r=3:=by rw [eS,if_neg ω,if_neg ω,if_pos h,if_neg (by simp [h2])]
theorem iM (h:r.Kind=3) (h2:ins r.Group 0 (s.Groups+s.Column-1)=true):eS s r=0:=by rw [eS,if_neg ω,if_neg ω,if_pos h,if_pos h2]
theorem dp (h:r.Kind=2) (h2:fF s r=false):eS s r=3:=by rw [eS,if_neg ω,if_pos h,if_neg (by simp [h2])]
theorem iR (h:r.Kind=2) (h2:fF s r=true):eS s r=0:=by rw [eS,if_neg ω,if_pos h,if_pos h2]
end
end Go.Wk
namespace Go.Wk
section
variable {P:Program}{n:Nat}{c:Code}{Q:Post}{L:Env}{w w0:World}{M:Nat→Prop}{Δ F:List Rsc}
theorem oe {Δ:List Rsc}{i:Nat}{r:Rsc}(h:Δ[i]? = some r):Δ.set i r=Δ:=by
  apply List.ext_getElem?
  intro j
  rw [List.getElem?_set]
  split
  · rename_i e; subst e
    obtain ⟨hl,_⟩:=List.getElem?_eq_some_iff.1 h
    rw [if_pos hl,h]
  · rfl
theorem fd {α:Type}[Rp α] {γ:Type}{v0:Value}{fp0:List Nat}(f:γ→List α) (g0:γ) (H:Sep M w0 Δ F w) (i:Nat) (hi:Δ[i]? = some (mine [v0] (f g0) fp0)) (t:Nat) (ht:look L t=some v0)
  (E2:Env) (h2:sub L E2) (E:γ→Env) (I:γ→Prop) (μ:γ→Nat) (hs:sub L (E g0)) (h0:I g0)
  (round:∀ g v fp w,Sep M w0 (Δ.set i (mine [v] (f g) fp)) F w→I g→W P n c (again (fun x:γ × Value × List Nat=>(t,x.2.1)::(E x.1++E2)) (fun x w'=>Sep M w0 (Δ.set i (mine [x.2.1] (f x.1) x.2.2)) F w'∧I x.1) (fun x=>μ x.1) (g,v,fp) Q) ((t,v)::(E g++E2)) w):W P n (.loop c) Q L w:=
 cf (fun x:γ × Value × List Nat=>(t,x.2.1)::(E x.1++E2)) (fun x w'=>Sep M w0 (Δ.set i (mine [x.2.1] (f x.1) x.2.2)) F w'∧I x.1) (fun x=>μ x.1) (g0,v0,fp0) ⟨ht,jC hs h2⟩ ⟨by rw [oe hi]; exact H,h0⟩ fun x w h=>round x.1 x.2.1 x.2.2 w h.1 h.2
end
end Go.Wk
namespace Go.Wk
open Go.Proofs Rp Go.Proofs.Tryz
set_option maxRecDepth 10000
theorem kj {w:World}{xs:List Int}{xsA:Option Addr}{xsC:Nat}{gf:FuncId}{gL:List Value}{gF:Func}(xsS:Sees w [.slice xsA xs.length xsC] xs) {p:Int→Bool}(gH:Tryz.prog.funcs[gf]? = some gF) (gB:gF.body.isNone=false) (gN:NG gF) (gC:∀ w1,Ext No w w1→∀ (i0:Nat),i0<xs.length→Ret Tryz.prog gf (([.int .i64 (xs.getD i0 0)]:List Value)++gL).toArray w1 fun v w'=>Ext No w1 w'∧v = .bool (p (xs.getD i0 0))):Ret Tryz.prog 254 #[.slice xsA xs.length xsC,.func (.func gf) #[] gL.toArray] w fun v w'=>Ext No w w'∧(v = .int .i64 (dI p xs)):=by
 have xsL:=sL xsS;obtain ⟨xsF,xsO⟩:=xsS;refine aS func254 Z ntmps254 Z (fun Q hQ hN=>?_);have H0:=Sep.start (ak xsO aG);refine ac (sA Z Z (aa (ae (ac (sM Z Z (sV Z (aO bd Z) (sM Z Z (aa (au (bU (γ:=Nat) H0 [(0,_),(1,_),(7,_)] ⟨Z,Z,Z,trivial⟩ (fun k=>[(8,.int .i64 k)]) (fun k=>k≤xs.length∧(∀ i,i<k→p (xs.getD i 0)=false)) (fun k=>xs.length-k) 0 ⟨Z,trivial⟩ ⟨ω,fun i hi=>by omega⟩ (fun k w1 H1 ⟨hk,he⟩=>?_)))))))))));dsimp only[lCA,lNA];refine ac (sV Z (bg Z Z) (aa (ae (az Z (fun c1=>?_) (fun c1=>?_)))))
 ·refine ar (ae (au (ac (sR 2 Z (aa (ae ?_))))));obtain ⟨eb1,eo1,ee1,ec1⟩:=cT (H1.seen 0 Z) k ω;have eI1:=dc (H1.seen 0 Z) k ω;refine am (sR 3 Z (sV Z (aA bd ts2 Z Z ee1 k ω ω) (sV Z (ag tu2 Z Z ec1) (cW ah Z Z (ez (lb:=gL) Z gH gB gN Z) (gC _ H1.ext k ω) (fun v1 w2 r1=>?_)))));obtain ⟨e1,rfl⟩:=r1;have H2:=H1.to e1;refine aa (cK Z (fun c2=>?_) (fun c2=>?_))
  ·refine ac (sR 2 Z (rN hQ results254 Z ?_));exact ⟨H2.ext,congrArg (Value.int .i64) (jr (d:=0) ω η he).symm⟩
  ·refine ar (am (sV Z (aE Z Z iO) (sM Z Z (aa (⟨k+1,⟨Z,Z,Z,Z,trivial⟩,⟨H2,ω,fun i hi=>?_⟩,θ⟩)))))
   by_cases e:i=k
   ·subst e
    assumption
   ·exact he i ω
 ·refine aW (ac (rA hQ results254 Z ?_));exact ⟨H1.ext,congrArg (Value.int .i64) (jw (d:=0) (fun i hi=>he i ω)).symm⟩
theorem jf {w:World}{xs:List Int}{xsA:Option Addr}{xsC:Nat}{gf:FuncId}{gL:List Value}{gF:Func}(xsS:Sees w [.slice xsA xs.length xsC] xs) {p:Int→Bool}(gH:Tryz.prog.funcs[gf]? = some gF) (gB:gF.body.isNone=false) (gN:NG gF) (gC:∀ w1,Ext No w w1→∀ (i0:Nat),i0<xs.length→Ret Tryz.prog gf (([.int .i64 (xs.getD i0 0)]:List Value)++gL).toArray w1 fun v w'=>Ext No w1 w'∧v = .bool (p (xs.getD i0 0))):Ret Tryz.prog 205 #[.slice xsA xs.length xsC,.func (.func gf) #[] gL.toArray] w fun v w'=>Ext No w w'∧(v = .bool (xs.any p)):=by
 have xsL:=sL xsS;obtain ⟨xsF,xsO⟩:=xsS;refine aS func205 Z ntmps205 Z (fun Q hQ hN=>?_);have H0:=Sep.start (ak xsO aG);refine ac (sA Z Z (aa (ac (sR 2 Z (sE func254 tH Z (kj (H0.sees 0 Z) gH gB gN (fun w1 e1=>gC w1 (H0.ext.trans e1))) H0 (fun w1 e1 H1=>sR 2 Z (rN hQ results205 Z ?_)))))));exact ⟨H1.ext,by rw [← iF]⟩
theorem kc {w:World}{xs:List Block}{xsA:Option Addr}{xsC:Nat}{gf:FuncId}{gL:List Value}{gF:Func}(xsS:Sees w [.slice xsA xs.length xsC] xs) {p:Block→Bool}(gH:Tryz.prog.funcs[gf]? = some gF) (gB:gF.body.isNone=false) (gN:NG gF) (gC:∀ w1,Ext No w w1→∀ (i0:Nat),i0<xs.length→∀ (A0_1:Option Addr) (C0_1:Nat) (_:(xs.getD i0 default).Ok) (_:Sees w1 [.slice A0_1 (xs.getD i0 default).Bytes.length C0_1] (xs.getD i0 default).Bytes),Ret Tryz.prog gf (([(xs.getD i0 default).val A0_1 C0_1]:List Value)++gL).toArray w1 fun v w'=>Ext No w1 w'∧v = .bool (p (xs.getD i0 default))):Ret Tryz.prog 228 #[.slice xsA xs.length xsC,.func (.func gf) #[] gL.toArray] w fun v w'=>Ext No w w'∧(v = .int .i64 (dI p xs)):=by
 have xsL:=sL xsS;obtain ⟨xsF,xsO⟩:=xsS;refine aS func228 Z ntmps228 Z (fun Q hQ hN=>?_);have H0:=Sep.start (ak xsO aG);refine ac (sA Z Z (aa (ae (ac (sM Z Z (sV Z (aO fb Z) (sM Z Z (aa (au (bU (γ:=Nat) H0 [(0,_),(1,_),(7,_)] ⟨Z,Z,Z,trivial⟩ (fun k=>[(8,.int .i64 k)]) (fun k=>k≤xs.length∧(∀ i,i<k→p (xs.getD i default)=false)) (fun k=>xs.length-k) 0 ⟨Z,trivial⟩ ⟨ω,fun i hi=>by omega⟩ (fun k w1 H1 ⟨hk,he⟩=>?_)))))))))));dsimp only[lCA,lNA];refine ac (sV Z (bg Z Z) (aa (ae (az Z (fun c1=>?_) (fun c1=>?_)))))
 ·refine ar (ae (au (ac (sR 2 Z (aa (ae ?_))))));obtain ⟨eb1,eo1,es1,ef1,ee1,ec1,eO1,eH1,em1⟩:=bC (H1.seen 0 Z) k ω;obtain ⟨ea1,ek1,eg1,rfl,eq1,eK1,eo2⟩:=jc eO1;have eK1U:=eK1;unfold Block.Ok at eK1U
  try unfold I64ok at eK1U
  try unfold maxLen at eK1U
  have eP1:=H1.look1 0 Z eo2 (fun b hb=>eH1 b (by rw [eq1]; simp [hb]));have eL1:=oL eo2;refine am (sR 3 Z (sV Z (aA fb jP Z Z ee1 k ω ω) (sV Z (aj lh Z jP Z Z ec1) (cW ah Z Z (ez (lb:=gL) Z gH gB gN Z) (gC _ eP1.ext k ω _ _ η (eP1.sees 1 Z)) (fun v1 w2 r1=>?_)))));obtain ⟨e1,rfl⟩:=r1;have H2:=eP1.to e1;refine aa (cK Z (fun c2=>?_) (fun c2=>?_))
  ·refine ac (sR 2 Z (rN hQ results228 Z ?_));exact ⟨H2.ext,congrArg (Value.int .i64) (jr (d:=default) ω η he).symm⟩
  ·refine ar (am (sV Z (aE Z Z iO) (sM Z Z (aa (⟨k+1,⟨Z,Z,Z,Z,trivial⟩,⟨(H2.ftake 1),ω,fun i hi=>?_⟩,θ⟩)))))
   by_cases e:i=k
   ·subst e
    assumption
   ·exact he i ω
 ·refine aW (ac (rA hQ results228 Z ?_));exact ⟨H1.ext,congrArg (Value.int .i64) (jw (d:=default) (fun i hi=>he i ω)).symm⟩
theorem jd {w:World}{xs:List Block}{xsA:Option Addr}{xsC:Nat}{gf:FuncId}{gL:List Value}{gF:Func}(xsS:Sees w [.slice xsA xs.length xsC] xs) {p:Block→Bool}(gH:Tryz.prog.funcs[gf]? = some gF) (gB:gF.body.isNone=false) (gN:NG gF) (gC:∀ w1,Ext No w w1→∀ (i0:Nat),i0<xs.length→∀ (A0_1:Option Addr) (C0_1:Nat) (_:(xs.getD i0 default).Ok) (_:Sees w1 [.slice A0_1 (xs.getD i0 default).Bytes.length C0_1] (xs.getD i0 default).Bytes),Ret Tryz.prog gf (([(xs.getD i0 default).val A0_1 C0_1]:List Value)++gL).toArray w1 fun v w'=>Ext No w1 w'∧v = .bool (p (xs.getD i0 default))):Ret Tryz.prog 161 #[.slice xsA xs.length xsC,.func (.func gf) #[] gL.toArray] w fun v w'=>Ext No w w'∧(v = .bool (xs.any p)):=by
 have xsL:=sL xsS;obtain ⟨xsF,xsO⟩:=xsS;refine aS func161 Z ntmps161 Z (fun Q hQ hN=>?_);have H0:=Sep.start (ak xsO aG);refine ac (sA Z Z (aa (ac (sR 2 Z (sE func228 uK Z (kc (H0.sees 0 Z) gH gB gN (fun w1 e1=>gC w1 (H0.ext.trans e1))) H0 (fun w1 e1 H1=>sR 2 Z (rN hQ results161 Z ?_)))))));exact ⟨H1.ext,by rw [← iF]⟩
theorem kV {w:World}{xs:List Tape}{xsA:Option Addr}{xsC:Nat}{gf:FuncId}{gL:List Value}{gF:Func}(xsS:Sees w [.slice xsA xs.length xsC] xs) {p:Tape→Bool}(gH:Tryz.prog.funcs[gf]? = some gF) (gB:gF.body.isNone=false) (gN:NG gF) (gC:∀ w1,Ext No w w1→∀ (i0:Nat),i0<xs.length→∀ (A0_1:Option Addr) (C0_1:Nat) (_:(xs.getD i0 default).Ok) (_:Sees w1 [.slice A0_1 (xs.getD i0 default).Recs.length C0_1] (xs.getD i0 default).Recs),Ret Tryz.prog gf (([(xs.getD i0 default).val A0_1 C0_1]:List Value)++gL).toArray w1 fun v w'=>Ext No w1 w'∧v = .bool (p (xs.getD i0 default))):Ret Tryz.prog 229 #[.slice xsA xs.length xsC,.func (.func gf) #[] gL.toArray] w fun v w'=>Ext No w w'∧(v = .int .i64 (dI p xs)):=by
 have xsL:=sL xsS;obtain ⟨xsF,xsO⟩:=xsS;refine aS func229 Z ntmps229 Z (fun Q hQ hN=>?_);have H0:=Sep.start (ak xsO aG);refine ac (sA Z Z (aa (ae (ac (sM Z Z (sV Z (aO bB Z) (sM Z Z (aa (au (bU (γ:=Nat) H0 [(0,_),(1,_),(7,_)] ⟨Z,Z,Z,trivial⟩ (fun k=>[(8,.int .i64 k)]) (fun k=>k≤xs.length∧(∀ i,i<k→p (xs.getD i default)=false)) (fun k=>xs.length-k) 0 ⟨Z,trivial⟩ ⟨ω,fun i hi=>by omega⟩ (fun k w1 H1 ⟨hk,he⟩=>?_)))))))))));dsimp only[lCA,lNA];refine ac (sV Z (bg Z Z) (aa (ae (az Z (fun c1=>?_) (fun c1=>?_)))))
 ·refine ar (ae (au (ac (sR 2 Z (aa (ae ?_))))));obtain ⟨eb1,eo1,es1,ef1,ee1,ec1,eO1,eH1,em1⟩:=bC (H1.seen 0 Z) k ω;obtain ⟨ea1,ek1,eg1,rfl,eq1,eK1,eo2⟩:=cL eO1;have eP1:=H1.look1 0 Z eo2 (fun b hb=>eH1 b (by rw [eq1]; simp [hb]));have eL1:=oL eo2;refine am (sR 3 Z (sV Z (aA bB bX Z Z ee1 k ω ω) (sV Z (aj bT Z bX Z Z ec1) (cW ah Z Z (ez (lb:=gL) Z gH gB gN Z) (gC _ eP1.ext k ω _ _ η (eP1.sees 1 Z)) (fun v1 w2 r1=>?_)))));obtain ⟨e1,rfl⟩:=r1;have H2:=eP1.to e1;refine aa (cK Z (fun c2=>?_) (fun c2=>?_))
  ·refine ac (sR 2 Z (rN hQ results229 Z ?_));exact ⟨H2.ext,congrArg (Value.int .i64) (jr (d:=default) ω η he).symm⟩
  ·refine ar (am (sV Z (aE Z Z iO) (sM Z Z (aa (⟨k+1,⟨Z,Z,Z,Z,trivial⟩,⟨(H2.ftake 1),ω,fun i hi=>?_⟩,θ⟩)))))
   by_cases e:i=k
   ·subst e
    assumption
   ·exact he i ω
 ·refine aW (ac (rA hQ results229 Z ?_));exact ⟨H1.ext,congrArg (Value.int .i64) (jw (d:=default) (fun i hi=>he i ω)).symm⟩
theorem fG {w:World}{xs:List Tape}{xsA:Option Addr}{xsC:Nat}{gf:FuncId}{gL:List Value}{gF:Func}(xsS:Sees w [.slice xsA xs.length xsC] xs) {p:Tape→Bool}(gH:Tryz.prog.funcs[gf]? = some gF) (gB:gF.body.isNone=false) (gN:NG gF) (gC:∀ w1,Ext No w w1→∀ (i0:Nat),i0<xs.length→∀ (A0_1:Option Addr) (C0_1:Nat) (_:(xs.getD i0 default).Ok) (_:Sees w1 [.slice A0_1 (xs.getD i0 default).Recs.length C0_1] (xs.getD i0 default).Recs),Ret Tryz.prog gf (([(xs.getD i0 default).val A0_1 C0_1]:List Value)++gL).toArray w1 fun v w'=>Ext No w1 w'∧v = .bool (p (xs.getD i0 default))):Ret Tryz.prog 164 #[.slice xsA xs.length xsC,.func (.func gf) #[] gL.toArray] w fun v w'=>Ext No w w'∧(v = .bool (xs.any p)):=by
 have xsL:=sL xsS;obtain ⟨xsF,xsO⟩:=xsS;refine aS func164 Z ntmps164 Z (fun Q hQ hN=>?_);have H0:=Sep.start (ak xsO aG);refine ac (sA Z Z (aa (ac (sR 2 Z (sE func229 uC Z (kV (H0.sees 0 Z) gH gB gN (fun w1 e1=>gC w1 (H0.ext.trans e1))) H0 (fun w1 e1 H1=>sR 2 Z (rN hQ results164 Z ?_)))))));exact ⟨H1.ext,by rw [← iF]⟩
theorem ii {w:World}{xs:List Rec}{xsA:Option Addr}{xsC:Nat}{gf:FuncId}{gL:List Value}{gF:Func}(xsS:Sees w [.slice xsA xs.length xsC] xs) {p:Rec→Bool}(gH:Tryz.prog.funcs[gf]? = some gF) (gB:gF.body.isNone=false) (gN:NG gF) (gC:∀ w1,Ext No w w1→∀ (i0:Nat),i0<xs.length→∀ (A0_6:Option Addr) (C0_6:Nat) (A0_7:Option Addr) (C0_7:Nat) (A0_8:Option Addr) (C0_8:Nat) (_:(xs.getD i0 default).Ok) (_:Sees w1 [.slice A0_6 (xs.getD i0 default).Rows.length C0_6] (xs.getD i0 default).Rows) (_:Sees w1 [.slice A0_7 (xs.getD i0 default).Data.length C0_7] (xs.getD i0 default).Data) (_:Sees w1 [.slice A0_8 (xs.getD i0 default).Delta.length C0_8] (xs.getD i0 default).Delta),Ret Tryz.prog gf (([(xs.getD i0 default).val A0_6 C0_6 A0_7 C0_7 A0_8 C0_8]:List Value)++gL).toArray w1 fun v w'=>Ext No w1 w'∧v = .bool (p (xs.getD i0 default))):Ret Tryz.prog 224 #[.slice xsA xs.length xsC,.func (.func gf) #[] gL.toArray] w fun v w'=>Ext No w w'∧(v = .int .i64 (dI p xs)):=by
 have xsL:=sL xsS;obtain ⟨xsF,xsO⟩:=xsS;refine aS func224 Z ntmps224 Z (fun Q hQ hN=>?_);have H0:=Sep.start (ak xsO aG);refine ac (sA Z Z (aa (ae (ac (sM Z Z (sV Z (aO aU Z) (sM Z Z (aa (au (bU (γ:=Nat) H0 [(0,_),(1,_),(7,_)] ⟨Z,Z,Z,trivial⟩ (fun k=>[(8,.int .i64 k)]) (fun k=>k≤xs.length∧(∀ i,i<k→p (xs.getD i default)=false)) (fun k=>xs.length-k) 0 ⟨Z,trivial⟩ ⟨ω,fun i hi=>by omega⟩ (fun k w1 H1 ⟨hk,he⟩=>?_)))))))))));dsimp only[lCA,lNA];refine ac (sV Z (bg Z Z) (aa (ae (az Z (fun c1=>?_) (fun c1=>?_)))))
 ·refine ar (ae (au (ac (sR 2 Z (aa (ae ?_))))));obtain ⟨eb1,eo1,es1,ef1,ee1,ec1,eO1,eH1,em1⟩:=bC (H1.seen 0 Z) k ω;obtain ⟨ea1,ek1,ea2,ek2,ea3,ek3,eg1,eg2,eg3,rfl,eq1,eK1,eo2,eo3,eo4⟩:=bS eO1;have eK1U:=eK1;unfold Rec.Ok at eK1U
  try unfold I64ok at eK1U
  try unfold maxLen at eK1U
  have eP1:=H1.look1 0 Z eo2 (fun b hb=>eH1 b (by rw [eq1]; simp [hb]));have eL1:=oL eo2;have eP2:=eP1.look1 0 Z eo3 (fun b hb=>eH1 b (by rw [eq1]; simp [hb]));have eL2:=oL eo3;have eP3:=eP2.look1 0 Z eo4 (fun b hb=>eH1 b (by rw [eq1]; simp [hb]));have eL3:=oL eo4;refine am (sR 3 Z (sV Z (aA aU aJ Z Z ee1 k ω ω) (sV Z (aj ax Z aJ Z Z ec1) (cW ah Z Z (ez (lb:=gL) Z gH gB gN Z) (gC _ eP3.ext k ω _ _ _ _ _ _ η (eP3.sees 1 Z) (eP3.sees 2 Z) (eP3.sees 3 Z)) (fun v1 w2 r1=>?_)))));obtain ⟨e1,rfl⟩:=r1;have H2:=eP3.to e1;refine aa (cK Z (fun c2=>?_) (fun c2=>?_))
  ·refine ac (sR 2 Z (rN hQ results224 Z ?_));exact ⟨H2.ext,congrArg (Value.int .i64) (jr (d:=default) ω η he).symm⟩
  ·refine ar (am (sV Z (aE Z Z iO) (sM Z Z (aa (⟨k+1,⟨Z,Z,Z,Z,trivial⟩,⟨(H2.ftake 1),ω,fun i hi=>?_⟩,θ⟩)))))
   by_cases e:i=k
   ·subst e
    assumption
   ·exact he i ω
 ·refine aW (ac (rA hQ results224 Z ?_));exact ⟨H1.ext,congrArg (Value.int .i64) (jw (d:=default) (fun i hi=>he i ω)).symm⟩
theorem jU {w:World}{xs:List Rec}{xsA:Option Addr}{xsC:Nat}{gf:FuncId}{gL:List Value}{gF:Func}(xsS:Sees w [.slice xsA xs.length xsC] xs) {p:Rec→Bool}(gH:Tryz.prog.funcs[gf]? = some gF) (gB:gF.body.isNone=false) (gN:NG gF) (gC:∀ w1,Ext No w w1→∀ (i0:Nat),i0<xs.length→∀ (A0_6:Option Addr) (C0_6:Nat) (A0_7:Option Addr) (C0_7:Nat) (A0_8:Option Addr) (C0_8:Nat) (_:(xs.getD i0 default).Ok) (_:Sees w1 [.slice A0_6 (xs.getD i0 default).Rows.length C0_6] (xs.getD i0 default).Rows) (_:Sees w1 [.slice A0_7 (xs.getD i0 default).Data.length C0_7] (xs.getD i0 default).Data) (_:Sees w1 [.slice A0_8 (xs.getD i0 default).Delta.length C0_8] (xs.getD i0 default).Delta),Ret Tryz.prog gf (([(xs.getD i0 default).val A0_6 C0_6 A0_7 C0_7 A0_8 C0_8]:List Value)++gL).toArray w1 fun v w'=>Ext No w1 w'∧v = .bool (p (xs.getD i0 default))):Ret Tryz.prog 168 #[.slice xsA xs.length xsC,.func (.func gf) #[] gL.toArray] w fun v w'=>Ext No w w'∧(v = .bool (xs.any p)):=by
 have xsL:=sL xsS;obtain ⟨xsF,xsO⟩:=xsS;refine aS func168 Z ntmps168 Z (fun Q hQ hN=>?_);have H0:=Sep.start (ak xsO aG);refine ac (sA Z Z (aa (ac (sR 2 Z (sE func224 py Z (ii (H0.sees 0 Z) gH gB gN (fun w1 e1=>gC w1 (H0.ext.trans e1))) H0 (fun w1 e1 H1=>sR 2 Z (rN hQ results168 Z ?_)))))));exact ⟨H1.ext,by rw [← iF]⟩
end Go.Wk
namespace Go.Wk
open Go.Proofs Rp Go.Proofs.Tryz
set_option maxRecDepth 10000
theorem fl {w:World}{s:Shape}(hs:s.ok=true):Ret Tryz.prog 216 #[s.v] w fun v w'=>Ext No w w'∧(v = .int .i64 (s.Data+s.Spare)):=by
 have sbd:=bk hs;refine aS func216 Z ntmps216 Z (fun Q hQ hN=>?_);have H0:=Sep.start (w:=w) (F:=[]) σ;refine ac (bt ah Z Z H0 (fun b1 w1 e1 g1 H1=>sA Z Z (aa (ac (sF bb Z ts2 (sLd tu2 (H1.box 0 Z) Z (sF bb Z ts2 (sLd tu2 (H1.box 0 Z) Z (sV Z (aE Z Z iO) (rA hQ results216 Z ?_))))))))));exact ⟨H1.ext,Z⟩
theorem ju {w:World}{s:Shape}(hs:s.ok=true):Ret Tryz.prog 134 #[s.v] w fun v w'=>Ext No w w'∧(v = .int .i64 (s.Data+s.Spare)):=by
 have sbd:=bk hs;refine aS func134 Z ntmps134 Z (fun Q hQ hN=>?_);have H0:=Sep.start (w:=w) (F:=[]) σ;refine ac (bt ah Z Z H0 (fun b1 w1 e1 g1 H1=>sA Z Z (aa (ac (sF bb Z ts2 (sLd tu2 (H1.box 0 Z) Z (sF bb Z ts2 (sLd tu2 (H1.box 0 Z) Z (sV Z (aE Z Z iO) (rA hQ results134 Z ?_))))))))));exact ⟨H1.ext,Z⟩
theorem cU {w:World}{s:Shape}(hs:s.ok=true):Ret Tryz.prog 66 #[s.v] w fun v w'=>Ext No w w'∧(v = .int .i64 (s.Data*4)):=by
 have sbd:=bk hs;refine aS func66 Z ntmps66 Z (fun Q hQ hN=>?_);have H0:=Sep.start (w:=w) (F:=[]) σ;refine ac (bt ah Z Z H0 (fun b1 w1 e1 g1 H1=>sA Z Z (aa (ac (sF bb Z ts2 (sLd tu2 (H1.box 0 Z) Z (sV Z (ij Z Z iO) (rA hQ results66 Z ?_))))))));exact ⟨H1.ext,Z⟩
theorem cR {w:World}{s:Shape}(hs:s.ok=true):Ret Tryz.prog 129 #[s.v] w fun v w'=>Ext No w w'∧(v = .int .i64 (s.Data*4)):=by
 have sbd:=bk hs;refine aS func129 Z ntmps129 Z (fun Q hQ hN=>?_);have H0:=Sep.start (w:=w) (F:=[]) σ;refine ac (bt ah Z Z H0 (fun b1 w1 e1 g1 H1=>sA Z Z (aa (ac (sF bb Z ts2 (sLd tu2 (H1.box 0 Z) Z (sV Z (ij Z Z iO) (rA hQ results129 Z ?_))))))));exact ⟨H1.ext,Z⟩
theorem dx {w:World}{s:Shape}{x:Int}(hs:s.ok=true):Ret Tryz.prog 127 #[s.v,.int .i64 x] w fun v w'=>Ext No w w'∧(v = .bool (ins x 0 (s.Rows-1))):=by
 have sbd:=bk hs;refine aS func127 Z ntmps127 Z (fun Q hQ hN=>?_);have H0:=Sep.start (w:=w) (F:=[]) σ;refine ac (bt ah Z Z H0 (fun b1 w1 e1 g1 H1=>sA Z Z (aa (ac (sM Z Z (sF bb Z ts2 (sLd tu2 (H1.box 0 Z) Z (sV Z (bG Z Z iO) (sE func77 cl Z bf H1 (fun w2 e2 H2=>rA hQ results127 Z ?_))))))))));exact ⟨H2.ext,Z⟩
theorem jA {w:World}{s:Shape}{x:Int}(hs:s.ok=true):Ret Tryz.prog 71 #[s.v,.int .i64 x] w fun v w'=>Ext No w w'∧(v = .bool (ins x 0 (s.Groups-1))):=by
 have sbd:=bk hs;refine aS func71 Z ntmps71 Z (fun Q hQ hN=>?_);have H0:=Sep.start (w:=w) (F:=[]) σ;refine ac (bt ah Z Z H0 (fun b1 w1 e1 g1 H1=>sA Z Z (aa (ac (sM Z Z (sF bb Z ts2 (sLd tu2 (H1.box 0 Z) Z (sV Z (bG Z Z iO) (sE func77 cl Z bf H1 (fun w2 e2 H2=>rA hQ results71 Z ?_))))))))));exact ⟨H2.ext,Z⟩
theorem jT {w:World}{s:Shape}{len:Int}(hs:s.ok=true) (hL:I64ok len):Ret Tryz.prog 203 #[s.v,.int .i64 len] w fun v w'=>Ext No w w'∧(v = .tuple #[.int .i64 (jG s len),.int .i64 (dG s len)]):=by
 have sbd:=bk hs;unfold I64ok at hL;refine aS func203 Z ntmps203 Z (fun Q hQ hN=>?_);have H0:=Sep.start (w:=w) (F:=[]) σ;refine ac (bt ah Z Z H0 (fun b1 w1 e1 g1 H1=>sR 2 Z (aa (ae (ac (sR 2 Z (aa (az Z (fun c1=>?_) (fun c1=>?_)))))))))
 ·refine ac (sR 2 Z (aa (br (hQ _ _ (zr results203 Z Z ?_)))));obtain ⟨e1,e2⟩:=sb (s:=s) c1;exact ⟨H1.ext,by rw [e1,e2]⟩
 ·refine ar (ae ?_);have hb:=si (s:=s) (len:=len) ω ω;refine am (sM Z Z (sV Z (bG Z Z iO) (sV Z (aj bb Z bp Z Z (At.whole (H1.box 0 Z))) (sE func129 jI Z (cR η) H1 (fun w2 e2 H2=>sV Z (tT Z Z ω iO) (sV Z (aE Z Z iO) (sA Z Z (aa (ae (ac (sR 2 Z (aa (az Z (fun c2=>?_) (fun c2=>?_))))))))))))))
  ·refine ac (sR 2 Z (aa (br (hQ _ _ (zr results203 Z Z ?_)))));have hp:=(qA (s:=s) (len:=len) ω ω).1 ω;obtain ⟨e1,e2⟩:=qK (s:=s) c1 hp;exact ⟨H2.ext,by rw [e1,e2]⟩
  ·refine ar (ac (sR 3 Z (aa (br (hQ _ _ (zr results203 Z Z ?_))))));have hp:¬ 3*(s.Data*4)<len:=fun h=>absurd ((qA (s:=s) (len:=len) ω ω).2 h) ω
   obtain ⟨e1,e2⟩:=vd (s:=s) c1 hp;exact ⟨H2.ext,by rw [e1,e2]; rfl⟩
theorem m6 {w:World}{s:Shape}{len:Int}(hs:s.ok=true):Ret Tryz.prog 217 #[s.v,.int .i64 len] w fun v w'=>Ext No w w'∧(v = .int .i64 (dG s len)):=by
 have sbd:=bk hs;refine aS func217 Z ntmps217 Z (fun Q hQ hN=>?_);have H0:=Sep.start (w:=w) (F:=[]) σ;refine ac (bt ah Z Z H0 (fun b1 w1 e1 g1 H1=>sA Z Z (aa (ae (ac (sR 2 Z (aa (az Z (fun c1=>?_) (fun c1=>?_)))))))))
 ·refine ac (rA hQ results217 Z ?_);exact ⟨H1.ext,by rw [(sb (s:=s) c1).1]⟩
 ·refine ar (ae (ac (sM Z Z (sV Z (aj bb Z bp Z Z (At.whole (H1.box 0 Z))) (sE func66 gh Z (cU η) H1 (fun w2 e2 H2=>sV Z (ij Z Z iO) (sV Z (dv Z Z) (aa (az Z (fun c2=>?_) (fun c2=>?_))))))))))
  ·refine ac (rA hQ results217 Z ?_);exact ⟨H2.ext,by rw [(qK (s:=s) c1 ω).1]⟩
  ·refine ar (ac (rA hQ results217 Z ?_));exact ⟨H2.ext,by rw [(vd (s:=s) c1 ω).1]⟩
theorem mb {w:World}{s:Shape}{len:Int}(hs:s.ok=true) (hL:1≤len∧len≤1000):Ret Tryz.prog 218 #[s.v,.int .i64 len] w fun v w'=>Ext No w w'∧(v = .int .i64 (eN s len)):=by
 have sbd:=bk hs;have hb:=si (s:=s) (len:=len) ω ω;have hq:(len+s.Data*4-1).tdiv (s.Data*4)=eN s len:=qu ω ω;unfold eN at hq;refine aS func218 Z ntmps218 Z (fun Q hQ hN=>?_);have H0:=Sep.start (w:=w) (F:=[]) σ;refine ac (bt ah Z Z H0 (fun b1 w1 e1 g1 H1=>sA Z Z (aa (ae (bx (S:=Ext No _) (oQ [1,3,11,4,7,9,12,15,16]) κ κ κ Z (fun _=>Ext.refl.drawn _) (fun q1=>?_))))));have H2:=H1.drawn q1;refine dM Z Z Z (dV Z Z (fun zw hx=>aj bb Z bp Z Z (At.whole (hx.heap (H2.box 0 Z)))) (dV Z Z (fun zw hx=>aj bb Z bp Z Z (At.whole (hx.heap (H2.box 0 Z)))) (dC func66 gh Z (cU η) (fun v1 w2 r1=>?_))));obtain ⟨e2,rfl⟩:=r1;have H3:=H2.to e2;refine dV Z Z (fun zw hx=>aE Z Z iO) (dV Z Z (fun zw hx=>bG Z Z iO) (dC func66 gh Z (cU η) (fun v2 w3 r2=>?_)));obtain ⟨e3,rfl⟩:=r2;have H4:=H3.to e3;refine dV Z Z (fun zw hx=>tT Z Z ω iO) (aV Z ah Z Z (bw Z) (aT (rT hQ results218 Z ?_)));exact ⟨H4.ext,by rw [qu ω ω]⟩
theorem la {w:World}{xs:List (List Drive)}{xsA:Option Addr}{xsC:Nat}(xsS:Sees w [.slice xsA xs.length xsC] xs):Ret Tryz.prog 158 #[.slice xsA xs.length xsC] w fun v w'=>Ext No w w'∧(v = .int .i64 xs.length):=by
 have xsL:=sL xsS;obtain ⟨xsF,xsO⟩:=xsS;refine aS func158 Z ntmps158 Z (fun Q hQ hN=>?_);have H0:=Sep.start (ak xsO aG);refine ac (sA Z Z (aa (ac (sM Z Z (sV Z (aO cv Z) (rA hQ results158 Z ?_))))));exact ⟨H0.ext,Z⟩
theorem nL {w:World}{xs:List Drive}{xsA:Option Addr}{xsC:Nat}(xsS:Sees w [.slice xsA xs.length xsC] xs):Ret Tryz.prog 159 #[.slice xsA xs.length xsC] w fun v w'=>Ext No w w'∧(v = .int .i64 xs.length):=by
 have xsL:=sL xsS;obtain ⟨xsF,xsO⟩:=xsS;refine aS func159 Z ntmps159 Z (fun Q hQ hN=>?_);have H0:=Sep.start (ak xsO aG);refine ac (sA Z Z (aa (ac (sM Z Z (sV Z (aO dm Z) (rA hQ results159 Z ?_))))));exact ⟨H0.ext,Z⟩
theorem nI {w:World}{xs:List Block}{xsA:Option Addr}{xsC:Nat}(xsS:Sees w [.slice xsA xs.length xsC] xs):Ret Tryz.prog 160 #[.slice xsA xs.length xsC] w fun v w'=>Ext No w w'∧(v = .int .i64 xs.length):=by
 have xsL:=sL xsS;obtain ⟨xsF,xsO⟩:=xsS;refine aS func160 Z ntmps160 Z (fun Q hQ hN=>?_);have H0:=Sep.start (ak xsO aG);refine ac (sA Z Z (aa (ac (sM Z Z (sV Z (aO fb Z) (rA hQ results160 Z ?_))))));exact ⟨H0.ext,Z⟩
theorem eA {w:World}{xs:List UInt8}{xsA:Option Addr}{xsC:Nat}(xsS:Sees w [.slice xsA xs.length xsC] xs):Ret Tryz.prog 128 #[.slice xsA xs.length xsC] w fun v w'=>Ext No w w'∧(v = .int .i64 xs.length):=by
 have xsL:=sL xsS;obtain ⟨xsF,xsO⟩:=xsS;refine aS func128 Z ntmps128 Z (fun Q hQ hN=>?_);have H0:=Sep.start (ak xsO aG);refine ac (sA Z Z (aa (ac (sM Z Z (sV Z (aO bz Z) (rA hQ results128 Z ?_))))));exact ⟨H0.ext,Z⟩
theorem gO {w:World}{xs:List Int}{xsA:Option Addr}{xsC:Nat}(xsS:Sees w [.slice xsA xs.length xsC] xs):Ret Tryz.prog 80 #[.slice xsA xs.length xsC] w fun v w'=>Ext No w w'∧(v = .int .i64 xs.length):=by
 have xsL:=sL xsS;obtain ⟨xsF,xsO⟩:=xsS;refine aS func80 Z ntmps80 Z (fun Q hQ hN=>?_);have H0:=Sep.start (ak xsO aG);refine ac (sA Z Z (aa (ac (sM Z Z (sV Z (aO bd Z) (rA hQ results80 Z ?_))))));exact ⟨H0.ext,Z⟩
theorem mC {w:World}{xs ys:List UInt8}{xsA ysA:Option Addr}{xsC ysC:Nat}(xsS:Sees w [.slice xsA xs.length xsC] xs) (ysS:Sees w [.slice ysA ys.length ysC] ys):Ret Tryz.prog 181 #[.slice xsA xs.length xsC,.slice ysA ys.length ysC] w fun v w'=>Ext No w w'∧(v = .bool (decide (xs=ys))):=by
 have xsL:=sL xsS;obtain ⟨xsF,xsO⟩:=xsS;have ysL:=sL ysS;obtain ⟨ysF,ysO⟩:=ysS;refine aS func181 Z ntmps181 Z (fun Q hQ hN=>?_);have H0:=Sep.start (ak xsO (ak ysO aG));refine ac (sA Z Z (aa (ac (sM Z Z (sV Z (wJ bz tu5 tu9 Z (H0.seen 0 Z)) (sM Z Z (sV Z (wJ bz tu5 tu9 Z (H0.seen 1 Z)) (sV Z (oc Z Z) (rA hQ results181 Z ?_)))))))));exact ⟨H0.ext,by simp [rk,xx]⟩
theorem gA {w:World}{xs ys:List Int}{xsA ysA:Option Addr}{xsC ysC:Nat}(xsS:Sees w [.slice xsA xs.length xsC] xs) (ysS:Sees w [.slice ysA ys.length ysC] ys):Ret Tryz.prog 180 #[.slice xsA xs.length xsC,.slice ysA ys.length ysC] w fun v w'=>Ext No w w'∧(v = .bool (decide (xs=ys))):=by
 have xsL:=sL xsS;obtain ⟨xsF,xsO⟩:=xsS;have ysL:=sL ysS;obtain ⟨ysF,ysO⟩:=ysS;refine aS func180 Z ntmps180 Z (fun Q hQ hN=>?_);have H0:=Sep.start (ak xsO (ak ysO aG));refine ac (sA Z Z (aa (ae (ac (sM Z Z (sV Z (aO bd Z) (sM Z Z (sV Z (aO bd Z) (sV Z (cn Z Z) (aa (az Z (fun c1=>?_) (fun c1=>?_))))))))))))
 ·refine ac (sA Z Z (aa (rT hQ results180 Z (⟨H0.ext,?_⟩))));rw [decide_eq_false (fun e=>by subst e; exact c1 rfl)]
 ·refine ar (ae (ac (sM Z Z (sV Z (aO bd Z) (sM Z Z (aa (au (bU (γ:=Nat) H0 [(0,_),(1,_),(12,_)] ⟨Z,Z,Z,trivial⟩ (fun k=>[(13,.int .i64 k)]) (fun k=>k≤xs.length∧(∀ i,i<k→xs.getD i 0=ys.getD i 0)) (fun k=>xs.length-k) 0 ⟨Z,trivial⟩ ⟨ω,fun i hi=>by omega⟩ (fun k w1 H1 ⟨hk,he⟩=>?_)))))))));dsimp only[lCA,lNA];refine ac (sV Z (bg Z Z) (aa (ae (az Z (fun c2=>?_) (fun c2=>?_)))))
  ·refine ar (ae (au (ac (sR 2 Z (aa (ae ?_))))));obtain ⟨eb1,eo1,ee1,ec1⟩:=cT (H1.seen 0 Z) k ω;have eI1:=dc (H1.seen 0 Z) k ω;obtain ⟨eb2,eo2,ee2,ec2⟩:=cT (H1.seen 1 Z) k ω;have eI2:=dc (H1.seen 1 Z) k ω;refine bx (S:=Ext No _) (oQ [1,3,5,7,9,11,13,15,16]) κ κ κ Z (fun _=>Ext.refl.drawn _) (fun q1=>?_);have H2:=H1.drawn q1;refine dR 2 Z (dV Z Z (fun zw hx=>aA bd ts2 Z Z ee1 k ω ω) (dV Z Z (fun zw hx=>ag tu2 Z Z (hx.cell ec1)) (dR 2 Z (dV Z Z (fun zw hx=>aA bd ts2 Z Z ee2 k ω ω) (dV Z Z (fun zw hx=>ag tu2 Z Z (hx.cell ec2)) (aV Z ah Z Z (cn Z Z) (aT (az Z (fun c3=>?_) (fun c3=>?_)))))))))
   ·refine ac (sA Z Z (aa (rT hQ results180 Z (⟨H2.ext,?_⟩))));rw [decide_eq_false (fun e=>by subst e; exact c3 rfl)]
   ·refine ar (am (sV Z (aE Z Z iO) (sM Z Z (aa (⟨k+1,⟨Z,Z,Z,Z,trivial⟩,⟨H2,ω,fun i hi=>?_⟩,θ⟩)))))
    by_cases e:i=k
    ·subst e
     simpa using c3
    ·exact he i ω
  ·refine aW (ac (sA Z Z (aa (rT hQ results180 Z (⟨H1.ext,?_⟩)))));rw [decide_eq_true (fM (d:=0) ω fun i hi=>he i ω)]
theorem lg {w:World}{s:Shape}{r:Rec}{rA6 rA7 rA8:Option Addr}{rC6 rC7 rC8:Nat}(rK:r.Ok) (rS6:Sees w [.slice rA6 r.Rows.length rC6] r.Rows) (rS7:Sees w [.slice rA7 r.Data.length rC7] r.Data) (rS8:Sees w [.slice rA8 r.Delta.length rC8] r.Delta) (hs:s.ok=true):Ret Tryz.prog 125 #[s.v,r.val rA6 rC6 rA7 rC7 rA8 rC8] w fun v w'=>Ext No w w'∧(v = .int .i64 (nG s r)):=by
 have rK2:=rK;unfold Rec.Ok at rK2
 try unfold I64ok at rK2
 try unfold maxLen at rK2
 have rN2:r.Name.size≤maxLen:=by unfold maxLen; omega
 have rL6:=sL rS6;obtain ⟨rF6,rO6⟩:=rS6;have rL7:=sL rS7;obtain ⟨rF7,rO7⟩:=rS7;have rL8:=sL rS8;obtain ⟨rF8,rO8⟩:=rS8;have sbd:=bk hs;refine aS func125 Z ntmps125 Z (fun Q hQ hN=>?_);have H0:=Sep.start (ak rO6 (ak rO7 (ak rO8 aG)));refine ac (bt ah Z Z H0 (fun b1 w1 e1 g1 H1=>bt ah Z Z H1 (fun b2 w2 e2 g2 H2=>sA Z Z (aa (ae (ac (sF ax Z ts9 (sLd tu9 (H2.box 1 Z) Z (sE func202 t4 Z (kX η) H2 (fun w3 e3 H3=>sA Z Z (aa (ac (sR 2 Z (aa (az Z (fun c1=>?_) (fun c1=>?_))))))))))))))))
 ·refine ac (sR 2 Z (rN hQ results125 Z ?_));exact ⟨H3.ext,congrArg (Value.int .i64) (oU ω).symm⟩
 ·refine ar (ae (ac (sF ax Z ts2 (sLd tu2 (H3.box 1 Z) Z (sV Z (cb Z Z) (aa (az Z (fun c2=>?_) (fun c2=>?_))))))))
  ·refine ae (ac (sF ax Z bc (sLd bz (H3.box 1 Z) Z (sV Z (aO bz Z) (sR 2 Z (bN 4 (j:=4) (want:=false) (t:=29) Z Z Z Z (fun hg1 kk1=>an (wgE Z Z Z hg1) Z Z (ab ax Z bI Z Z) (an (wgE Z Z Z hg1) Z Z (ag bd Z Z (al (H3.box 1 Z) Z)) (an (wgE Z Z Z hg1) Z Z (aO bd Z) (an (wgE Z Z Z hg1) Z Z (dv Z Z) (kk1 _ _ (kx Z (kx Z (kx Z (kx Z k0)))) Z Ext.refl))))) (fun w4 e4=>?_)))))));have H4:=H3.to e4;refine sV Z (ex Z Z) (aa (cK Z (fun c3=>?_) (fun c3=>?_)))
   ·refine ac (rA hQ results125 Z ?_);exact ⟨H4.ext,congrArg (Value.int .i64) (jg ω (by rw [pD ω]; by_cases hd:r.Data=[]<;>by_cases he:r.Rows=[]<;>simp_all)).symm⟩
   ·refine ar (ac (rA hQ results125 Z ?_));exact ⟨H4.ext,congrArg (Value.int .i64) (kn ω (by rw [pD ω]; by_cases hd:r.Data=[]<;>by_cases he:r.Rows=[]<;>simp_all)).symm⟩
  ·refine ar (ac (sV Z (aj bb Z bp Z Z (At.whole (H3.box 0 Z))) (sF ax Z ts2 (sLd tu2 (H3.box 1 Z) Z (sE func203 uN Z (jT η (by unfold I64ok; omega)) H3 (fun w5 e5 H5=>sR 5 Z (aa (ae (ac (sR 2 Z (aa (az Z (fun c4=>?_) (fun c4=>?_)))))))))))))
   ·refine ac (rA hQ results125 Z ?_);exact ⟨H5.ext,congrArg (Value.int .i64) (jg ω (p6 ω ω)).symm⟩
   ·refine ar (ae (bx (S:=Ext No _) (oQ [1,3,7,9,4,11,13,15,17,19,21,23,24]) κ κ κ Z (fun _=>Ext.refl.drawn _) (fun q1=>?_)));have H6:=H5.drawn q1;refine dV Z Z (fun zw hx=>ab ax Z bc Z Z) (dV Z Z (fun zw hx=>ag bz Z Z (al (hx.heap (H6.box 1 Z)) Z)) (dV Z Z (fun zw hx=>ab ax Z ts2 Z Z) (dV Z Z (fun zw hx=>ag tu2 Z Z (al (hx.heap (H6.box 1 Z)) Z)) (dC func128 ia Z (eA (H6.sees 1 Z)) (fun v3 w6 r3=>?_)))));obtain ⟨e6,rfl⟩:=r3;have H7:=H6.to e6;refine dR 2 Z (bZ (t:=46) Z (fun hg2=>?_) (fun hg2=>?_))
    ·try simp only [decide_eq_true_eq,decide_eq_false_iff_not] at hg2
     refine aC Z (wg Z Z Z) Z Z (fun zw hx=>ab ax Z bI Z Z) (aC Z (wg Z Z Z) Z Z (fun zw hx=>ag bd Z Z (al (hx.heap (H6.box 1 Z)) Z)) (aC Z (wg Z Z Z) Z Z (fun zw hx=>aO bd Z) (aC Z (wg Z Z Z) Z Z (fun zw hx=>cb Z Z) (dV Z Z (fun zw hx=>aD Z Z) (aV Z ah Z Z (bw Z) (aT (ac (sF ax Z bc (sLd bz (H7.box 1 Z) Z (sV Z (aO bz Z) (sR 2 Z (bN 5 (j:=4) (want:=true) (t:=61) Z Z Z Z (fun hg3 kk2=>an (wgE Z Z Z hg3) Z Z (ab ax Z bI Z Z) (an (wgE Z Z Z hg3) Z Z (ag bd Z Z (al (H7.box 1 Z) Z)) (cH (wgE Z Z Z hg3) Z Z (aQ func80 Z np Z) (gO (H7.sees 0 Z)) (fun w8 e8=>an (wgE Z Z Z hg3) Z Z (aN Z) (an (wgE Z Z Z hg3) Z Z (cb Z Z) (kk2 _ _ (kx Z (kx Z (kx Z (kx Z (kx Z k0))))) Z (Ext.refl.trans e8))))))) (fun w7 e7=>?_)))))))))))));have H8:=H7.to e7;refine sV Z (bA Z Z) (sA Z Z (aa (ae (ac (sF ax Z bI (sLd bd (H8.box 1 Z) Z (sV Z (aO bd Z) (sM Z Z (aa (au (bU (γ:=Nat) H8 [(2,_),(3,_),(4,_),(8,_),(64,_),(65,_)] ⟨Z,Z,Z,Z,Z,Z,trivial⟩ (fun k=>[(9,.bool (decide ((r.Data.length:Int)=0) && decide ((r.Rows.length:Int)=eN s r.Length) && (List.range k).all (apartAt r.Rows (s.Rows-1)))),(66,.int .i64 k)]) (fun k=>k≤r.Rows.length∧True) (fun k=>r.Rows.length-k) 0 ⟨eqB (by simp [pW (show dG s r.Length=0 by omega)]),Z,trivial⟩ ⟨ω,trivial⟩ (fun k w9 H9 ⟨hk,_⟩=>?_))))))))))));dsimp only[lCA,lNA];refine ac (sV Z (bg Z Z) (aa (ae (az Z (fun c5=>?_) (fun c5=>?_)))))
     ·refine ar (ae (au (ae ?_)));obtain ⟨eb1,eo1,ee1,ec1⟩:=cT (H9.seen 0 Z) k ω;have eI1:=dc (H9.seen 0 Z) k ω;refine am (sM Z Z (sV Z (aA bd ts2 Z Z ee1 k ω ω) (sV Z (ag tu2 Z Z ec1) (sR 2 Z (aa (am (sR 2 Z (co (t:=72) Z (fun hg4=>?_) (fun hg4=>?_)))))))))
      ·try simp only [decide_eq_true_eq,decide_eq_false_iff_not] at hg4
       refine an (wg Z Z Z) Z Z (aj bb Z bp Z Z (At.whole (H9.box 0 Z))) (an (wg Z Z Z) Z Z (aN Z) (cW (wg Z Z Z) Z Z (aQ func127 Z jp Z) (dx η) (fun v4 w10 r4=>?_)));obtain ⟨e9,rfl⟩:=r4;have H10:=H9.to e9;refine sV Z (aD Z Z) (sM Z Z (co (t:=77) Z (fun hg5=>?_) (fun hg5=>?_)))
       ·try simp only [decide_eq_true_eq,decide_eq_false_iff_not] at hg5
        refine an (wg Z Z Z) Z Z (ab ax Z bI Z Z) (an (wg Z Z Z) Z Z (ag bd Z Z (al (H10.box 1 Z) Z)) (an (wg Z Z Z) Z Z (aN Z) ?_));have sc1:=dE (H10.seen 0 Z);obtain ⟨sf1,so1,ss1⟩:=gD (H10.seen 0 Z) (0) (k) _ ω ω ω (Nat.le_refl _);have H11:=H10.look1 0 Z so1 ss1;have sl1:=gm (xs:=r.Rows) (l:=0) (h:=k) ω;refine an (wg Z Z Z) Z Z (ib bd ts2 Z Z (k) ω ω sl1) ((an (wg Z Z Z) Z Z (aN Z) (cW (wg Z Z Z) Z Z (aQ func149 Z lO Z) (cJ (H11.sees 3 Z)) (fun v5 w11 r5=>?_))));obtain ⟨e10,rfl⟩:=r5;have H12:=H11.to e10;refine an (wg Z Z Z) Z Z (bl Z) (sV Z (aD Z Z) (sA Z Z (aa (am (sV Z (aE Z Z iO) (sM Z Z (aa (⟨k+1,⟨eqB (by simp only [iU,apartAt,eq,← Bool.and_assoc,hg4,hg5,Bool.true_and,Bool.false_and]),Z,Z,Z,Z,Z,Z,Z,trivial⟩,⟨(H12.ftake 3),ω,trivial⟩,θ⟩))))))))
       ·try simp only [decide_eq_true_eq,decide_eq_false_iff_not] at hg5
        refine sR 7 Z (sV Z (aH Z Z) (sA Z Z (aa (am (sV Z (aE Z Z iO) (sM Z Z (aa (⟨k+1,⟨eqB (by simp only [iU,apartAt,eq,← Bool.and_assoc,hg4,hg5,Bool.true_and,Bool.false_and]),Z,Z,Z,Z,Z,Z,Z,trivial⟩,⟨H10,ω,trivial⟩,θ⟩))))))))
      ·try simp only [decide_eq_true_eq,decide_eq_false_iff_not] at hg4
       refine sR 3 Z (sV Z (aH Z Z) (sR 8 Z (sV Z (aH Z Z) (sA Z Z (aa (am (sV Z (aE Z Z iO) (sM Z Z (aa (⟨k+1,⟨eqB (by simp only [iU,apartAt,eq,← Bool.and_assoc,hg4,Bool.true_and,Bool.false_and]),Z,Z,Z,Z,Z,Z,Z,trivial⟩,⟨H9,ω,trivial⟩,θ⟩))))))))))
     ·refine aW (ae (ae ?_));obtain rfl:k=r.Rows.length:=by omega
      have io:=uU (s:=s) (r:=r) ω ω (decide_eq_true hg2).symm Z Z Z;simp only [Bool.true_and,Bool.false_and,Bool.false_or] at io;refine am (sM Z Z (sV Z (iE Z) (sM Z Z (bN 2 (j:=2) (want:=true) (t:=91) Z Z Z Z (fun hg6 kk3=>an (wgE Z Z Z hg6) Z Z (aN Z) (an (wgE Z Z Z hg6) Z Z (bl Z) (kk3 _ _ (kx Z (kx Z k0)) Z Ext.refl))) (fun w12 e11=>?_)))));have H13:=H9.to e11;refine sV Z (bA Z Z) (aa (cK Z (fun c6=>?_) (fun c6=>?_)))
      ·refine ac (rA hQ results125 Z ?_);exact ⟨H13.ext,congrArg (Value.int .i64) (jg ω (by rw [← io]; exact not_true (by rw [Bool.not_or,← decide_not]; exact c6))).symm⟩
      ·refine ar (ac (rA hQ results125 Z ?_));exact ⟨H13.ext,congrArg (Value.int .i64) (kn ω (by rw [← io]; exact not_false (by rw [Bool.not_or,← decide_not]; exact c6))).symm⟩
    ·try simp only [decide_eq_true_eq,decide_eq_false_iff_not] at hg2
     refine dR 4 Z (dV Z Z (fun zw hx=>aH Z Z) (aV Z ah Z Z (bw Z) (aT (ac (sF ax Z bc (sLd bz (H7.box 1 Z) Z (sV Z (aO bz Z) (sR 2 Z (bN 5 (j:=4) (want:=true) (t:=61) Z Z Z Z (fun hg7 kk4=>an (wgE Z Z Z hg7) Z Z (ab ax Z bI Z Z) (an (wgE Z Z Z hg7) Z Z (ag bd Z Z (al (H7.box 1 Z) Z)) (cH (wgE Z Z Z hg7) Z Z (aQ func80 Z np Z) (gO (H7.sees 0 Z)) (fun w14 e13=>an (wgE Z Z Z hg7) Z Z (aN Z) (an (wgE Z Z Z hg7) Z Z (cb Z Z) (kk4 _ _ (kx Z (kx Z (kx Z (kx Z (kx Z k0))))) Z (Ext.refl.trans e13))))))) (fun w13 e12=>?_))))))))));have H14:=H7.to e12;refine sV Z (bA Z Z) (sA Z Z (aa (ae (ac (sF ax Z bI (sLd bd (H14.box 1 Z) Z (sV Z (aO bd Z) (sM Z Z (aa (au (bU (γ:=Nat) H14 [(2,_),(3,_),(4,_),(8,_),(64,_),(65,_)] ⟨Z,Z,Z,Z,Z,Z,trivial⟩ (fun k=>[(9,.bool (decide ((r.Data.length:Int)=0) && decide ((r.Rows.length:Int)=eN s r.Length) && (List.range k).all (apartAt r.Rows (s.Rows-1)))),(66,.int .i64 k)]) (fun k=>k≤r.Rows.length∧True) (fun k=>r.Rows.length-k) 0 ⟨eqB (by simp [pW (show dG s r.Length=0 by omega)]),Z,trivial⟩ ⟨ω,trivial⟩ (fun k w15 H15 ⟨hk,_⟩=>?_))))))))))));dsimp only[lCA,lNA];refine ac (sV Z (bg Z Z) (aa (ae (az Z (fun c7=>?_) (fun c7=>?_)))))
     ·refine ar (ae (au (ae ?_)));obtain ⟨eb2,eo2,ee2,ec2⟩:=cT (H15.seen 0 Z) k ω;have eI2:=dc (H15.seen 0 Z) k ω;refine am (sM Z Z (sV Z (aA bd ts2 Z Z ee2 k ω ω) (sV Z (ag tu2 Z Z ec2) (sR 2 Z (aa (am (sR 2 Z (co (t:=72) Z (fun hg8=>?_) (fun hg8=>?_)))))))))
      ·try simp only [decide_eq_true_eq,decide_eq_false_iff_not] at hg8
       refine an (wg Z Z Z) Z Z (aj bb Z bp Z Z (At.whole (H15.box 0 Z))) (an (wg Z Z Z) Z Z (aN Z) (cW (wg Z Z Z) Z Z (aQ func127 Z jp Z) (dx η) (fun v6 w16 r6=>?_)));obtain ⟨e14,rfl⟩:=r6;have H16:=H15.to e14;refine sV Z (aD Z Z) (sM Z Z (co (t:=77) Z (fun hg9=>?_) (fun hg9=>?_)))
       ·try simp only [decide_eq_true_eq,decide_eq_false_iff_not] at hg9
        refine an (wg Z Z Z) Z Z (ab ax Z bI Z Z) (an (wg Z Z Z) Z Z (ag bd Z Z (al (H16.box 1 Z) Z)) (an (wg Z Z Z) Z Z (aN Z) ?_));have sc2:=dE (H16.seen 0 Z);obtain ⟨sf2,so2,ss2⟩:=gD (H16.seen 0 Z) (0) (k) _ ω ω ω (Nat.le_refl _);have H17:=H16.look1 0 Z so2 ss2;have sl2:=gm (xs:=r.Rows) (l:=0) (h:=k) ω;refine an (wg Z Z Z) Z Z (ib bd ts2 Z Z (k) ω ω sl2) ((an (wg Z Z Z) Z Z (aN Z) (cW (wg Z Z Z) Z Z (aQ func149 Z lO Z) (cJ (H17.sees 3 Z)) (fun v7 w17 r7=>?_))));obtain ⟨e15,rfl⟩:=r7;have H18:=H17.to e15;refine an (wg Z Z Z) Z Z (bl Z) (sV Z (aD Z Z) (sA Z Z (aa (am (sV Z (aE Z Z iO) (sM Z Z (aa (⟨k+1,⟨eqB (by simp only [iU,apartAt,eq,← Bool.and_assoc,hg8,hg9,Bool.true_and,Bool.false_and]),Z,Z,Z,Z,Z,Z,Z,trivial⟩,⟨(H18.ftake 3),ω,trivial⟩,θ⟩))))))))
       ·try simp only [decide_eq_true_eq,decide_eq_false_iff_not] at hg9
        refine sR 7 Z (sV Z (aH Z Z) (sA Z Z (aa (am (sV Z (aE Z Z iO) (sM Z Z (aa (⟨k+1,⟨eqB (by simp only [iU,apartAt,eq,← Bool.and_assoc,hg8,hg9,Bool.true_and,Bool.false_and]),Z,Z,Z,Z,Z,Z,Z,trivial⟩,⟨H16,ω,trivial⟩,θ⟩))))))))
      ·try simp only [decide_eq_true_eq,decide_eq_false_iff_not] at hg8
       refine sR 3 Z (sV Z (aH Z Z) (sR 8 Z (sV Z (aH Z Z) (sA Z Z (aa (am (sV Z (aE Z Z iO) (sM Z Z (aa (⟨k+1,⟨eqB (by simp only [iU,apartAt,eq,← Bool.and_assoc,hg8,Bool.true_and,Bool.false_and]),Z,Z,Z,Z,Z,Z,Z,trivial⟩,⟨H15,ω,trivial⟩,θ⟩))))))))))
     ·refine aW (ae (ae ?_));obtain rfl:k=r.Rows.length:=by omega
      have io:=uU (s:=s) (r:=r) ω ω (decide_eq_false hg2).symm Z Z Z;simp only [Bool.true_and,Bool.false_and,Bool.false_or] at io;refine am (sM Z Z (sV Z (bl Z) (sM Z Z (an (wg Z Z Z) Z Z (aN Z) (an (wg Z Z Z) Z Z (bl Z) (sV Z (aD Z Z) (aa (cK Z (fun c8=>?_) (fun c8=>?_)))))))))
      ·refine ac (rA hQ results125 Z ?_);exact ⟨H15.ext,congrArg (Value.int .i64) (jg ω (by rw [← io]; exact not_true (id c8))).symm⟩
      ·refine ar (ac (rA hQ results125 Z ?_));exact ⟨H15.ext,congrArg (Value.int .i64) (kn ω (by rw [← io]; exact not_false (id c8))).symm⟩
theorem lf {w:World}{s:Shape}{r:Rec}{rA6 rA7 rA8:Option Addr}{rC6 rC7 rC8:Nat}(rK:r.Ok) (rS6:Sees w [.slice rA6 r.Rows.length rC6] r.Rows) (rS7:Sees w [.slice rA7 r.Data.length rC7] r.Data) (rS8:Sees w [.slice rA8 r.Delta.length rC8] r.Delta) (hs:s.ok=true) (hg:0≤r.Group∧r.Group<s.Groups+s.Column) (hr:∀ i,i<r.Rows.length→0≤r.Rows.getD i 0∧r.Rows.getD i 0<s.Groups+s.Column):Ret Tryz.prog 141 #[s.v,r.val rA6 rC6 rA7 rC7 rA8 rC8] w fun v w'=>Ext No w w'∧(v = .bool (weightsOK s r)):=by
 have rK2:=rK;unfold Rec.Ok at rK2
 try unfold I64ok at rK2
 try unfold maxLen at rK2
 have rN2:r.Name.size≤maxLen:=by unfold maxLen; omega
 have rL6:=sL rS6;obtain ⟨rF6,rO6⟩:=rS6;have rL7:=sL rS7;obtain ⟨rF7,rO7⟩:=rS7;have rL8:=sL rS8;obtain ⟨rF8,rO8⟩:=rS8;have sbd:=bk hs;refine aS func141 Z ntmps141 Z (fun Q hQ hN=>?_);have H0:=Sep.start (ak rO6 (ak rO7 (ak rO8 aG)));refine ac (bt ah Z Z H0 (fun b1 w1 e1 g1 H1=>bt ah Z Z H1 (fun b2 w2 e2 g2 H2=>sA Z Z (aa (ae (ae (bx (S:=Ext No _) (oQ [1,3,5,7,8,11,13,15,17,19,21,23,25,27,28]) κ κ κ Z (fun _=>Ext.refl.drawn _) (fun q1=>?_))))))));have H3:=H2.drawn q1;refine dV Z Z (fun zw hx=>ab ax Z bc Z Z) (dV Z Z (fun zw hx=>ag bz Z Z (al (hx.heap (H3.box 1 Z)) Z)) (dV Z Z (fun zw hx=>aO bz Z) (dV Z Z (fun zw hx=>aj bb Z bp Z Z (At.whole (hx.heap (H3.box 0 Z)))) (dC func116 cr Z (bH η) (fun v1 w3 r1=>?_)))));obtain ⟨e3,rfl⟩:=r1;have H4:=H3.to e3;refine dR 2 Z (bZ (t:=12) Z (fun hg1=>?_) (fun hg1=>?_))
 ·try simp only [decide_eq_true_eq,decide_eq_false_iff_not] at hg1
  refine dR 7 Z (aV Z ah Z Z (aD Z Z) (aT (dl Z (ac (rA hQ results141 Z ?_)))));exact ⟨H4.ext,congrArg Value.bool ((uk ω).symm)⟩
 ·try simp only [decide_eq_true_eq,decide_eq_false_iff_not] at hg1
  refine aC Z (wg Z Z Z) Z Z (fun zw hx=>ab ax Z bc Z Z) (aC Z (wg Z Z Z) Z Z (fun zw hx=>ag bz Z Z (al (hx.heap (H3.box 1 Z)) Z)) (aC Z (wg Z Z Z) Z Z (fun zw hx=>ab ax Z ts2 Z Z) (aC Z (wg Z Z Z) Z Z (fun zw hx=>ag tu2 Z Z (al (hx.heap (H3.box 1 Z)) Z)) ?_)));obtain ⟨eb1,eo1,ee1,ec1⟩:=gU (H3.seen 2 Z) r.Group.toNat ω;refine aC Z (wg Z Z Z) Z Z (fun zw hx=>aA bz ts5 Z Z ee1 r.Group.toNat ω ω) (aC Z (wg Z Z Z) Z Z (fun zw hx=>ag tu5 Z Z (hx.cell ec1)) (aC Z (wg Z Z Z) Z Z (fun zw hx=>cn Z Z) (aV Z ah Z Z (aH Z Z) (aT (az Z (fun c1=>?_) (fun c1=>?_))))))
  ·refine ac (rA hQ results141 Z ?_);exact ⟨H4.ext,congrArg Value.bool ((pO ω).symm)⟩
  ·refine ar (ae (ac (sA Z Z (aa (au (bU (γ:=Nat) H4 [(3,_)] ⟨Z,trivial⟩ (fun k=>[(5,.int .i64 k)]) (fun k=>k≤r.Rows.length∧(∀ i,i<k→¬ ((r.Delta.getD (r.Rows.getD i 0).toNat 0).toNat:Int)=0)) (fun k=>r.Rows.length-k) 0 ⟨Z,trivial⟩ ⟨ω,fun i hi=>by omega⟩ (fun k w4 H5 ⟨hk,he⟩=>?_)))))));dsimp only[lCA,lNA];refine ae (ac (sM Z Z (sF ax Z bI (sLd bd (H5.box 1 Z) Z (sV Z (aO bd Z) (sV Z (bg Z Z) (aa (az Z (fun c2=>?_) (fun c2=>?_)))))))))
   ·refine ar (ae (au (ae ?_)));have hrk:=hr k ω;obtain ⟨eb2,eo2,ee2,ec2⟩:=cT (H5.seen 0 Z) k ω;have eI1:=dc (H5.seen 0 Z) k ω;obtain ⟨eb3,eo3,ee3,ec3⟩:=gU (H5.seen 2 Z) (r.Rows.getD k 0).toNat ω;refine bx (S:=Ext No _) (oQ [1,3,5,7,9,11,13,15,17,18]) κ κ κ Z (fun _=>Ext.refl.drawn _) (fun q2=>?_);have H6:=H5.drawn q2;refine dV Z Z (fun zw hx=>ab ax Z bc Z Z) (dV Z Z (fun zw hx=>ag bz Z Z (al (hx.heap (H6.box 1 Z)) Z)) (dV Z Z (fun zw hx=>ab ax Z bI Z Z) (dV Z Z (fun zw hx=>ag bd Z Z (al (hx.heap (H6.box 1 Z)) Z)) (dM Z Z Z (dV Z Z (fun zw hx=>aA bd ts2 Z Z ee2 k ω ω) (dV Z Z (fun zw hx=>ag tu2 Z Z (hx.cell ec2)) (dV Z Z (fun zw hx=>aA bz ts5 Z Z ee3 (r.Rows.getD k 0).toNat ω ω) (dV Z Z (fun zw hx=>ag tu5 Z Z (hx.cell ec3)) (aV Z ah Z Z (cb Z Z) (aT (az Z (fun c3=>?_) (fun c3=>?_))))))))))))
    ·refine ac (rA hQ results141 Z ?_);exact ⟨H6.ext,congrArg Value.bool ((px k ω c3).symm)⟩
    ·refine ar (am (sM Z Z (sV Z (aE Z Z iO) (sA Z Z (aa (⟨k+1,⟨Z,Z,trivial⟩,⟨H6,ω,fun i hi=>?_⟩,θ⟩))))))
     by_cases e:i=k
     ·subst e
      assumption
     ·exact he i ω
   ·refine aW (ac (rA hQ results141 Z ?_));exact ⟨H5.ext,congrArg Value.bool ((p9 ω ω (fun i hi=>he i ω)).symm)⟩
theorem ev {w:World}{r:Rec}{rA6 rA7 rA8:Option Addr}{rC6 rC7 rC8:Nat}(rK:r.Ok) (rS6:Sees w [.slice rA6 r.Rows.length rC6] r.Rows) (rS7:Sees w [.slice rA7 r.Data.length rC7] r.Data) (rS8:Sees w [.slice rA8 r.Delta.length rC8] r.Delta):Ret Tryz.prog 142 #[r.val rA6 rC6 rA7 rC7 rA8 rC8] w fun v w'=>Ext No w w'∧(v = .bool (iQ r)):=by
 have rK2:=rK;unfold Rec.Ok at rK2
 try unfold I64ok at rK2
 try unfold maxLen at rK2
 have rN2:r.Name.size≤maxLen:=by unfold maxLen; omega
 have rL6:=sL rS6;obtain ⟨rF6,rO6⟩:=rS6;have rL7:=sL rS7;obtain ⟨rF7,rO7⟩:=rS7;have rL8:=sL rS8;obtain ⟨rF8,rO8⟩:=rS8;refine aS func142 Z ntmps142 Z (fun Q hQ hN=>?_);have H0:=Sep.start (ak rO6 (ak rO7 (ak rO8 aG)));refine ac (bt ah Z Z H0 (fun b1 w1 e1 g1 H1=>sA Z Z (aa (ac (sF ax Z ts9 (sLd tu9 (H1.box 0 Z) Z (sV Z (oc Z Z) (sM Z Z (bN 3 (j:=3) (want:=true) (t:=9) Z Z Z Z (fun hg1 kk1=>an (wgE Z Z Z hg1) Z Z (ab ax Z ts2 Z Z) (an (wgE Z Z Z hg1) Z Z (ag tu2 Z Z (al (H1.box 0 Z) Z)) (an (wgE Z Z Z hg1) Z Z (cb Z Z) (kk1 _ _ (kx Z (kx Z (kx Z k0))) Z Ext.refl)))) (fun w2 e2=>?_))))))))));have H2:=H1.to e2;refine sV Z (bA Z Z) (sM Z Z (bN 3 (j:=8) (want:=true) (t:=14) Z Z Z Z (fun hg2 kk2=>an (wgE Z Z Z hg2) Z Z (ab ax Z ts2 Z Z) (an (wgE Z Z Z hg2) Z Z (ag tu2 Z Z (al (H2.box 0 Z) Z)) (an (wgE Z Z Z hg2) Z Z (cb Z Z) (kk2 _ _ (kx Z (kx Z (kx Z k0))) Z Ext.refl)))) (fun w3 e3=>?_)));have H3:=H2.to e3;refine sV Z (bA Z Z) (sM Z Z (bN 3 (j:=13) (want:=true) (t:=19) Z Z Z Z (fun hg3 kk3=>an (wgE Z Z Z hg3) Z Z (ab ax Z ts2 Z Z) (an (wgE Z Z Z hg3) Z Z (ag tu2 Z Z (al (H3.box 0 Z) Z)) (an (wgE Z Z Z hg3) Z Z (cb Z Z) (kk3 _ _ (kx Z (kx Z (kx Z k0))) Z Ext.refl)))) (fun w4 e4=>?_)));have H4:=H3.to e4;refine sV Z (bA Z Z) (sM Z Z (bN 4 (j:=18) (want:=true) (t:=25) Z Z Z Z (fun hg4 kk4=>an (wgE Z Z Z hg4) Z Z (ab ax Z bI Z Z) (an (wgE Z Z Z hg4) Z Z (ag bd Z Z (al (H4.box 0 Z) Z)) (an (wgE Z Z Z hg4) Z Z (aO bd Z) (an (wgE Z Z Z hg4) Z Z (cb Z Z) (kk4 _ _ (kx Z (kx Z (kx Z (kx Z k0)))) Z Ext.refl))))) (fun w5 e5=>?_)));have H5:=H4.to e5;refine sV Z (bA Z Z) (sM Z Z (bN 4 (j:=24) (want:=true) (t:=31) Z Z Z Z (fun hg5 kk5=>an (wgE Z Z Z hg5) Z Z (ab ax Z bc Z Z) (an (wgE Z Z Z hg5) Z Z (ag bz Z Z (al (H5.box 0 Z) Z)) (an (wgE Z Z Z hg5) Z Z (aO bz Z) (an (wgE Z Z Z hg5) Z Z (cb Z Z) (kk5 _ _ (kx Z (kx Z (kx Z (kx Z k0)))) Z Ext.refl))))) (fun w6 e6=>?_)));have H6:=H5.to e6;refine sV Z (bA Z Z) (sM Z Z (bN 4 (j:=30) (want:=true) (t:=37) Z Z Z Z (fun hg6 kk6=>an (wgE Z Z Z hg6) Z Z (ab ax Z bc Z Z) (an (wgE Z Z Z hg6) Z Z (ag bz Z Z (al (H6.box 0 Z) Z)) (an (wgE Z Z Z hg6) Z Z (aO bz Z) (an (wgE Z Z Z hg6) Z Z (cb Z Z) (kk6 _ _ (kx Z (kx Z (kx Z (kx Z k0)))) Z Ext.refl))))) (fun w7 e7=>?_)));have H7:=H6.to e7;refine sV Z (bA Z Z) (rA hQ results142 Z ?_);exact ⟨H7.ext,congrArg Value.bool (by simp only [iQ,noName,rk,Bool.and_assoc]; simp)⟩
theorem iA {w:World}{xs:List Int}{xsA:Option Addr}{xsC:Nat}{m:Int}(xsS:Sees w [.slice xsA xs.length xsC] xs):Ret Tryz.prog 185 #[.slice xsA xs.length xsC,.int .i64 m] w fun v w'=>Ext No w w'∧(v = .bool (apartL xs m)):=by
 have xsL:=sL xsS;obtain ⟨xsF,xsO⟩:=xsS;refine aS func185 Z ntmps185 Z (fun Q hQ hN=>?_);have H0:=Sep.start (ak xsO aG);refine ac (sA Z Z (aa (ae (ac (sA Z Z (aa (au (bU (γ:=Nat) H0 [(0,_),(1,_)] ⟨Z,Z,trivial⟩ (fun k=>[(5,.int .i64 k)]) (fun k=>k≤xs.length∧(∀ i,i<k→apartAt xs m i=true)) (fun k=>xs.length-k) 0 ⟨Z,trivial⟩ ⟨ω,fun i hi=>by omega⟩ (fun k w1 H1 ⟨hk,he⟩=>?_)))))))));dsimp only[lCA,lNA];refine ae (ac (sR 2 Z (sV Z (aO bd Z) (sV Z (bg Z Z) (aa (az Z (fun c1=>?_) (fun c1=>?_)))))))
 ·refine ar (ae (au (ae ?_)));obtain ⟨eb1,eo1,ee1,ec1⟩:=cT (H1.seen 0 Z) k ω;have eI1:=dc (H1.seen 0 Z) k ω;refine bx (S:=Ext No _) (oQ [1,3,5,7,9,10,13,15,17,19,21,23,25,27,29,30,32]) κ κ κ Z (fun _=>Ext.refl.drawn _) (fun q1=>?_);have H2:=H1.drawn q1;refine dR 2 Z (dV Z Z (fun zw hx=>aA bd ts2 Z Z ee1 k ω ω) (dV Z Z (fun zw hx=>ag tu2 Z Z (hx.cell ec1)) (dM Z Z Z (dC func121 bO Z bi (fun v1 w2 r1=>?_)))));obtain ⟨e1,rfl⟩:=r1;have H3:=H2.to e1;refine dV Z Z (fun zw hx=>bl Z) (dM Z Z Z (bZ (t:=19) Z (fun hg1=>?_) (fun hg1=>?_)))
  ·try simp only [decide_eq_true_eq,decide_eq_false_iff_not] at hg1
   refine dR 8 Z (aV Z ah Z Z (aD Z Z) (aT (dl Z (ac (rA hQ results185 Z ?_)))));exact ⟨H3.ext,congrArg Value.bool ((jK k ω (by simp only [apartAt,eq] at *; simp_all)).symm)⟩
  ·try simp only [decide_eq_true_eq,decide_eq_false_iff_not] at hg1
   refine aC Z (wg Z Z Z) Z Z (fun zw hx=>aN Z) (aC Z (wg Z Z Z) Z Z (fun zw hx=>aN Z) ?_);have sc1:=dE (H3.seen 0 Z);obtain ⟨sf1,so1,ss1⟩:=gD (H3.seen 0 Z) (0) (k) _ ω ω ω (Nat.le_refl _);have H4:=H3.look1 0 Z so1 ss1;have sl1:=gm (xs:=xs) (l:=0) (h:=k) ω;refine aC Z (wg Z Z Z) Z Z (fun zw hx=>ib bd ts2 Z Z (k) ω ω sl1) (aC Z (wg Z Z Z) Z Z (fun zw hx=>aN Z) (aC Z (wg Z Z Z) Z Z (fun zw hx=>aN Z) (aC Z (wg Z Z Z) Z Z (fun zw hx=>aA bd ts2 Z Z ee1 k ω ω) (aC Z (wg Z Z Z) Z Z (fun zw hx=>ag tu2 Z Z (hx.cell ec1)) (bD Z (wg Z Z Z) Z Z (aQ func117 Z pE Z) (jL (H4.sees 1 Z)) (fun hS _ _ r _=>hS.trans r.1.no) (fun v2 w3 r2=>?_))))));obtain ⟨e2,rfl⟩:=r2;have H5:=H4.to e2;refine aV Z ah Z Z (aH Z Z) (aT (cK Z (fun c2=>?_) (fun c2=>?_)))
   ·refine ac (rA hQ results185 Z ?_);exact ⟨H5.ext,congrArg Value.bool ((jK k ω (by simp only [apartAt,eq] at *; simp_all)).symm)⟩
   ·refine ar (am (sM Z Z (sV Z (aE Z Z iO) (sA Z Z (aa (⟨k+1,⟨Z,Z,Z,trivial⟩,⟨(H5.ftake 1),ω,fun i hi=>?_⟩,θ⟩))))))
    by_cases e:i=k
    ·subst e;simp only [apartAt,eq] at *; simp_all
    ·exact he i ω
 ·refine aW (ac (rA hQ results185 Z ?_));exact ⟨H1.ext,congrArg Value.bool ((gT fun i hi=>he i ω).symm)⟩
theorem nn {w:World}{s:Shape}{r:Rec}{rA6 rA7 rA8:Option Addr}{rC6 rC7 rC8:Nat}(rK:r.Ok) (rS6:Sees w [.slice rA6 r.Rows.length rC6] r.Rows) (rS7:Sees w [.slice rA7 r.Data.length rC7] r.Data) (rS8:Sees w [.slice rA8 r.Delta.length rC8] r.Delta) (hs:s.ok=true):Ret Tryz.prog 139 #[s.v,r.val rA6 rC6 rA7 rC7 rA8 rC8] w fun v w'=>Ext No w w'∧(v = .bool (ge s r)):=by
 have rK2:=rK;unfold Rec.Ok at rK2
 try unfold I64ok at rK2
 try unfold maxLen at rK2
 have rN2:r.Name.size≤maxLen:=by unfold maxLen; omega
 have rL6:=sL rS6;obtain ⟨rF6,rO6⟩:=rS6;have rL7:=sL rS7;obtain ⟨rF7,rO7⟩:=rS7;have rL8:=sL rS8;obtain ⟨rF8,rO8⟩:=rS8;have sbd:=bk hs;refine aS func139 Z ntmps139 Z (fun Q hQ hN=>?_);have H0:=Sep.start (ak rO6 (ak rO7 (ak rO8 aG)));refine ac (bt ah Z Z H0 (fun b1 w1 e1 g1 H1=>bt ah Z Z H1 (fun b2 w2 e2 g2 H2=>sA Z Z (aa (ae (ac (sF ax Z ts2 (sLd tu2 (H2.box 1 Z) Z (sV Z (cb Z Z) (aa (az Z (fun c1=>?_) (fun c1=>?_))))))))))))
 ·refine ac (sF ax Z bc (sLd bz (H2.box 1 Z) Z (sV Z (aO bz Z) (sR 2 Z (bN 4 (j:=4) (want:=true) (t:=16) Z Z Z Z (fun hg1 kk1=>an (wgE Z Z Z hg1) Z Z (ab ax Z bI Z Z) (an (wgE Z Z Z hg1) Z Z (ag bd Z Z (al (H2.box 1 Z) Z)) (an (wgE Z Z Z hg1) Z Z (aO bd Z) (an (wgE Z Z Z hg1) Z Z (cb Z Z) (kk1 _ _ (kx Z (kx Z (kx Z (kx Z k0)))) Z Ext.refl))))) (fun w3 e3=>?_))))));have H3:=H2.to e3;refine sV Z (bA Z Z) (rA hQ results139 Z ?_);exact ⟨H3.ext,congrArg Value.bool (by rw [pD ω]; simp)⟩
 ·refine ar (ae (ac (sV Z (aj bb Z bp Z Z (At.whole (H2.box 0 Z))) (sF ax Z ts2 (sLd tu2 (H2.box 1 Z) Z (sE func217 tW Z (m6 η) H2 (fun w4 e4 H4=>sV Z (cn Z Z) (aa (az Z (fun c2=>?_) (fun c2=>?_))))))))))
  ·refine ac (rA hQ results139 Z ?_);exact ⟨H4.ext,congrArg Value.bool ((p6 ω ω).symm)⟩
  ·refine ar (ae (ac (sF ax Z bc (sLd bz (H4.box 1 Z) Z (sV Z (aO bz Z) (sV Z (dv Z Z) (aa (az Z (fun c3=>?_) (fun c3=>?_)))))))))
   ·refine ac (sF ax Z bc (sLd bz (H4.box 1 Z) Z (sV Z (aO bz Z) (sF ax Z ts2 (sLd tu2 (H4.box 1 Z) Z (sR 2 Z (bN 4 (j:=6) (want:=true) (t:=37) Z Z Z Z (fun hg2 kk2=>an (wgE Z Z Z hg2) Z Z (ab ax Z bI Z Z) (an (wgE Z Z Z hg2) Z Z (ag bd Z Z (al (H4.box 1 Z) Z)) (an (wgE Z Z Z hg2) Z Z (aO bd Z) (an (wgE Z Z Z hg2) Z Z (cb Z Z) (kk2 _ _ (kx Z (kx Z (kx Z (kx Z k0)))) Z Ext.refl))))) (fun w5 e5=>?_))))))));have H5:=H4.to e5;refine sV Z (bA Z Z) (rA hQ results139 Z ?_);exact ⟨H5.ext,congrArg Value.bool (by rw [lW ω ω,if_pos ω]; simp)⟩
   ·refine ar (ae ?_);have hz:=qI (s:=s) (len:=r.Length) ω;refine bx (S:=Ext No _) (oQ [1,3,5,7,9,11,12,15,17,19,21,23,25,27,28,31,32]) κ κ κ Z (fun _=>Ext.refl.drawn _) (fun q1=>?_);have H6:=H4.drawn q1;refine dV Z Z (fun zw hx=>ab ax Z bI Z Z) (dV Z Z (fun zw hx=>ag bd Z Z (al (hx.heap (H6.box 1 Z)) Z)) (dV Z Z (fun zw hx=>aO bd Z) (dV Z Z (fun zw hx=>aj bb Z bp Z Z (At.whole (hx.heap (H6.box 0 Z)))) (dV Z Z (fun zw hx=>ab ax Z ts2 Z Z) (dV Z Z (fun zw hx=>ag tu2 Z Z (al (hx.heap (H6.box 1 Z)) Z)) (dC func218 s5 Z (mb η ω) (fun v2 w6 r2=>?_)))))));obtain ⟨e6,rfl⟩:=r2;have H7:=H6.to e6;refine dR 2 Z (bZ (t:=47) Z (fun hg3=>?_) (fun hg3=>?_))
    ·try simp only [decide_eq_true_eq,decide_eq_false_iff_not] at hg3
     refine aC Z (wg Z Z Z) Z Z (fun zw hx=>ab ax Z bI Z Z) (aC Z (wg Z Z Z) Z Z (fun zw hx=>ag bd Z Z (al (hx.heap (H6.box 1 Z)) Z)) (aC Z (wg Z Z Z) Z Z (fun zw hx=>ab bb Z ts2 Z Z) (aC Z (wg Z Z Z) Z Z (fun zw hx=>ag tu2 Z Z (al (hx.heap (H6.box 0 Z)) Z)) (aC Z (wg Z Z Z) Z Z (fun zw hx=>bG Z Z iO) (bD Z (wg Z Z Z) Z Z (aQ func185 Z oO Z) (iA (H7.sees 0 Z)) (fun hS _ _ r _=>hS.trans r.1.no) (fun v3 w7 r3=>?_))))));obtain ⟨e7,rfl⟩:=r3;have H8:=H7.to e7;refine dV Z Z (fun zw hx=>aD Z Z) (aV Z ah Z Z (bw Z) (aT (rT hQ results139 Z ?_)));exact ⟨H8.ext,congrArg Value.bool (by rw [lW ω ω,if_neg ω]; simp_all)⟩
    ·try simp only [decide_eq_true_eq,decide_eq_false_iff_not] at hg3
     refine dR 6 Z (dV Z Z (fun zw hx=>aH Z Z) (aV Z ah Z Z (bw Z) (aT (rT hQ results139 Z ?_))));exact ⟨H7.ext,congrArg Value.bool (by rw [lW ω ω,if_neg ω]; simp_all)⟩
theorem jJ {w:World}{x:Int}{rb rC6 rC7 rC8:Nat}{r:Rec}{rA6 rA7 rA8:Option Addr}(rB:w.heap[rb]? = some (.cells [.int .i64 r.Kind,.int .i64 r.Seq,.string r.Name,.int .i64 r.Length,.int .i64 r.Group,.int .i64 r.Row,.slice rA6 r.Rows.length rC6,.slice rA7 r.Data.length rC7,.slice rA8 r.Delta.length rC8].toArray 47)) (rK:r.Ok) (rS6:Sees w [.slice rA6 r.Rows.length rC6] r.Rows) (rS7:Sees w [.slice rA7 r.Data.length rC7] r.Data) (rS8:Sees w [.slice rA8 r.Delta.length rC8] r.Delta) (hx:0≤x∧x<r.Delta.length):Ret Tryz.prog 206 #[.int .i64 x,.pointer (some ⟨rb,0,none⟩)] w fun v w'=>Ext No w w'∧(v = .bool (decide (((r.Delta.getD (x).toNat 0).toNat:Int)=0))):=by
 have rK2:=rK;unfold Rec.Ok at rK2
 try unfold I64ok at rK2
 try unfold maxLen at rK2
 have rN2:r.Name.size≤maxLen:=by unfold maxLen; omega
 have rL6:=sL rS6;obtain ⟨rF6,rO6⟩:=rS6;have rL7:=sL rS7;obtain ⟨rF7,rO7⟩:=rS7;have rL8:=sL rS8;obtain ⟨rF8,rO8⟩:=rS8;refine aS func206 Z ntmps206 Z (fun Q hQ hN=>?_);have H0:=Sep.start (eO rB (ak rO6 (ak rO7 (ak rO8 aG))));refine ac (sA Z Z (aa (ae ?_)));obtain ⟨eb1,eo1,ee1,ec1⟩:=gU (H0.seen 3 Z) x.toNat ω;refine am (sF ax Z bc (sLd bz (H0.fbox 0 Z) Z (sM Z Z (sV Z (aA bz ts5 Z Z ee1 x.toNat ω ω) (sV Z (ag tu5 Z Z ec1) (sR 2 Z (rN hQ results206 Z ?_)))))));exact ⟨H0.ext,Z⟩
theorem ku {w:World}{s:Shape}{r:Rec}{rA6 rA7 rA8:Option Addr}{rC6 rC7 rC8:Nat}(rK:r.Ok) (rS6:Sees w [.slice rA6 r.Rows.length rC6] r.Rows) (rS7:Sees w [.slice rA7 r.Data.length rC7] r.Data) (rS8:Sees w [.slice rA8 r.Delta.length rC8] r.Delta) (hs:s.ok=true):Ret Tryz.prog 126 #[s.v,r.val rA6 rC6 rA7 rC7 rA8 rC8] w fun v w'=>Ext No w w'∧(v = .int .i64 (if dw s r=true then 0 else 3)):=by
 have rK2:=rK;unfold Rec.Ok at rK2
 try unfold I64ok at rK2
 try unfold maxLen at rK2
 have rN2:r.Name.size≤maxLen:=by unfold maxLen; omega
 have rL6:=sL rS6;obtain ⟨rF6,rO6⟩:=rS6;have rL7:=sL rS7;obtain ⟨rF7,rO7⟩:=rS7;have rL8:=sL rS8;obtain ⟨rF8,rO8⟩:=rS8;have sbd:=bk hs;refine aS func126 Z ntmps126 Z (fun Q hQ hN=>?_);have H0:=Sep.start (ak rO6 (ak rO7 (ak rO8 aG)));refine ac (bt ah Z Z H0 (fun b1 w1 e1 g1 H1=>bt ah Z Z H1 (fun b2 w2 e2 g2 H2=>sA Z Z (aa (ae (bx (S:=Ext No _) (oQ [1,3,5,6,9,11,13,15,16,19,21,23,25,27,28,30,33,35,37,39,43,40,44,47,49,51,53,55,59,56,60,63,65,66]) κ κ κ Z (fun _=>Ext.refl.drawn _) (fun q1=>?_)))))));have H3:=H2.drawn q1;refine dV Z Z (fun zw hx=>aj bb Z bp Z Z (At.whole (hx.heap (H3.box 0 Z)))) (dV Z Z (fun zw hx=>ab ax Z ts2 Z Z) (dV Z Z (fun zw hx=>ag tu2 Z Z (al (hx.heap (H3.box 1 Z)) Z)) (dC func78 mQ Z (dL η) (fun v1 w3 r1=>?_))));obtain ⟨e3,rfl⟩:=r1;have H4:=H3.to e3;refine dM Z Z Z (bZ (t:=10) Z (fun hg1=>?_) (fun hg1=>?_))
 ·try simp only [decide_eq_true_eq,decide_eq_false_iff_not] at hg1
  refine aC Z (wg Z Z Z) Z Z (fun zw hx=>aj bb Z bp Z Z (At.whole (hx.heap (H3.box 0 Z)))) (aC Z (wg Z Z Z) Z Z (fun zw hx=>ab ax Z ts2 Z Z) (aC Z (wg Z Z Z) Z Z (fun zw hx=>ag tu2 Z Z (al (hx.heap (H3.box 1 Z)) Z)) (bD Z (wg Z Z Z) Z Z (aQ func127 Z jp Z) (dx η) (fun hS _ _ r _=>hS.trans r.1.no) (fun v2 w4 r2=>?_))));obtain ⟨e4,rfl⟩:=r2;have H5:=H4.to e4;refine dV Z Z (fun zw hx=>aD Z Z) (dM Z Z Z (bZ (t:=16) Z (fun hg2=>?_) (fun hg2=>?_)))
  ·try simp only [decide_eq_true_eq,decide_eq_false_iff_not] at hg2
   refine aC Z (wg Z Z Z) Z Z (fun zw hx=>ab ax Z bI Z Z) (aC Z (wg Z Z Z) Z Z (fun zw hx=>ag bd Z Z (al (hx.heap (H3.box 1 Z)) Z)) (aC Z (wg Z Z Z) Z Z (fun zw hx=>aj bb Z bp Z Z (At.whole (hx.heap (H3.box 0 Z)))) (bD Z (wg Z Z Z) Z Z (aQ func148 Z jz Z) (dK η) (fun hS _ _ r _=>hS.trans r.1.no) (fun v3 w5 r3=>?_))));obtain ⟨e5,rfl⟩:=r3;have H6:=H5.to e5;refine bD Z (wg Z Z Z) Z Z (aQ func204 Z ua Z) (mc (H6.sees 0 Z) ω) (fun hS _ _ r _=>hS.trans r.1.no) (fun v4 w6 r4=>?_);obtain ⟨e6,rfl⟩:=r4;have H7:=H6.to e6;refine dV Z Z (fun zw hx=>aD Z Z) (dM Z Z Z (bZ (t:=23) Z (fun hg3=>?_) (fun hg3=>?_)))
   ·try simp only [decide_eq_true_eq,decide_eq_false_iff_not] at hg3
    refine aC Z (wg Z Z Z) Z Z (fun zw hx=>ab ax Z bc Z Z) (aC Z (wg Z Z Z) Z Z (fun zw hx=>ag bz Z Z (al (hx.heap (H3.box 1 Z)) Z)) (aC Z (wg Z Z Z) Z Z (fun zw hx=>aj bb Z bp Z Z (At.whole (hx.heap (H3.box 0 Z)))) (bD Z (wg Z Z Z) Z Z (aQ func128 Z ia Z) (eA (H7.sees 1 Z)) (fun hS _ _ r _=>hS.trans r.1.no) (fun v5 w7 r5=>?_))));obtain ⟨e7,rfl⟩:=r5;have H8:=H7.to e7;refine bD Z (wg Z Z Z) Z Z (aQ func129 Z jI Z) (cR η) (fun hS _ _ r _=>hS.trans r.1.no) (fun v6 w8 r6=>?_);obtain ⟨e8,rfl⟩:=r6;have H9:=H8.to e8;refine aC Z (wg Z Z Z) Z Z (fun zw hx=>cb Z Z) (dV Z Z (fun zw hx=>aD Z Z) (dM Z Z Z (bZ (t:=31) Z (fun hg4=>?_) (fun hg4=>?_))))
    ·try simp only [decide_eq_true_eq,decide_eq_false_iff_not] at hg4
     refine aC Z (wg Z Z Z) Z Z (fun zw hx=>ab ax Z bc Z Z) (aC Z (wg Z Z Z) Z Z (fun zw hx=>ag bz Z Z (al (hx.heap (H3.box 1 Z)) Z)) (aC Z (wg Z Z Z) Z Z (fun zw hx=>aj bb Z bp Z Z (At.whole (hx.heap (H3.box 0 Z)))) (bD Z (wg Z Z Z) Z Z (aQ func128 Z ia Z) (eA (H9.sees 2 Z)) (fun hS _ _ r _=>hS.trans r.1.no) (fun v7 w9 r7=>?_))));obtain ⟨e9,rfl⟩:=r7;have H10:=H9.to e9;refine bD Z (wg Z Z Z) Z Z (aQ func148 Z jz Z) (dK η) (fun hS _ _ r _=>hS.trans r.1.no) (fun v8 w10 r8=>?_);obtain ⟨e10,rfl⟩:=r8;have H11:=H10.to e10;refine aC Z (wg Z Z Z) Z Z (fun zw hx=>cb Z Z) (dV Z Z (fun zw hx=>aD Z Z) (aV Z ah Z Z (bw Z) (aT (ae (ae ?_)))))
     try have hgb:=cu.1 hg1
     refine am (sM Z Z (sV Z (iE Z) (sM Z Z (co (t:=41) Z (fun hg5=>?_) (fun hg5=>?_)))))
     ·try simp only [decide_eq_true_eq,decide_eq_false_iff_not] at hg5
      refine sR 7 Z (sV Z (aD Z Z) (aa (dl Z (ac (rA hQ results126 Z ?_)))));exact ⟨H11.ext,congrArg (Value.int .i64) (if_neg (by simp [dw,weightsOK,-List.getD_eq_getElem?_getD,hg1,hg2,hg3,hg4,hg5])).symm⟩
     ·try simp only [decide_eq_true_eq,decide_eq_false_iff_not] at hg5
      refine an (wg Z Z Z) Z Z (ab ax Z bc Z Z) (an (wg Z Z Z) Z Z (ag bz Z Z (al (H11.box 1 Z) Z)) (an (wg Z Z Z) Z Z (ab ax Z ts2 Z Z) (an (wg Z Z Z) Z Z (ag tu2 Z Z (al (H11.box 1 Z) Z)) ?_)));obtain ⟨eb1,eo1,ee1,ec1⟩:=gU (H11.seen 2 Z) r.Group.toNat ω;refine an (wg Z Z Z) Z Z (aA bz ts5 Z Z ee1 r.Group.toNat ω ω) (an (wg Z Z Z) Z Z (ag tu5 Z Z ec1) (an (wg Z Z Z) Z Z (cn Z Z) (sV Z (aH Z Z) (aa (az Z (fun c1=>?_) (fun c1=>?_))))))
      ·refine ac (rA hQ results126 Z ?_);exact ⟨H11.ext,congrArg (Value.int .i64) (if_neg (by simp [dw,pO c1])).symm⟩
      ·refine ar (ae (ae ?_));have hL:(r.Delta.length:Int)=s.Groups+s.Column:=by omega
       have hR:∀ i,i<r.Rows.length→0≤r.Rows.getD i 0∧r.Rows.getD i 0<r.Delta.length:=fun i hi=>by have:=qt hg3 i hi; omega
       refine am (sF ax Z bI (sLd bd (H11.box 1 Z) Z (sV Z (nT Z) (sE func205 tA Z (jf (H11.sees 0 Z) (p:=(fun k=>decide (((r.Delta.getD (k).toNat 0).toNat:Int)=0))) func206 Z te (fun w1 e1 i0 hi0=>jJ ((H11.to e1).box 1 Z) η ((H11.to e1).sees 0 Z) ((H11.to e1).sees 1 Z) ((H11.to e1).sees 2 Z) (hR i0 hi0))) H11 (fun w11 e11 H12=>aa (cK Z (fun c2=>?_) (fun c2=>?_)))))))
       ·refine ac (rA hQ results126 Z ?_);exact ⟨H12.ext,congrArg (Value.int .i64) (if_neg (by simp [dw,ue η])).symm⟩
       ·refine ar (ac (rA hQ results126 Z ?_));exact ⟨H12.ext,congrArg (Value.int .i64) (if_pos (by rw [dw,ss hL ω η]; simp [hg1,hg2,hg3,hg4,hg5])).symm⟩
    ·try simp only [decide_eq_true_eq,decide_eq_false_iff_not] at hg4
     refine dR 6 Z (dV Z Z (fun zw hx=>aH Z Z) (aV Z ah Z Z (bw Z) (aT (ae (ae ?_)))))
     try have hgb:=cu.1 hg1
     refine am (sM Z Z (sV Z (bl Z) (sR 8 Z (sV Z (aD Z Z) (aa (dl Z (ac (rA hQ results126 Z ?_))))))));exact ⟨H9.ext,congrArg (Value.int .i64) (if_neg (by simp [dw,weightsOK,-List.getD_eq_getElem?_getD,hg1,hg2,hg3,hg4])).symm⟩
   ·try simp only [decide_eq_true_eq,decide_eq_false_iff_not] at hg3
    refine dR 6 Z (dV Z Z (fun zw hx=>aH Z Z) (dR 7 Z (dV Z Z (fun zw hx=>aH Z Z) (aV Z ah Z Z (bw Z) (aT (ae (ae ?_)))))))
    try have hgb:=cu.1 hg1
    refine am (sM Z Z (sV Z (bl Z) (sR 8 Z (sV Z (aD Z Z) (aa (dl Z (ac (rA hQ results126 Z ?_))))))));exact ⟨H7.ext,congrArg (Value.int .i64) (if_neg (by simp [dw,weightsOK,-List.getD_eq_getElem?_getD,hg1,hg2,hg3])).symm⟩
  ·try simp only [decide_eq_true_eq,decide_eq_false_iff_not] at hg2
   refine dR 5 Z (dV Z Z (fun zw hx=>aH Z Z) (dR 7 Z (dV Z Z (fun zw hx=>aH Z Z) (dR 7 Z (dV Z Z (fun zw hx=>aH Z Z) (aV Z ah Z Z (bw Z) (aT (ae (ae ?_)))))))))
   try have hgb:=cu.1 hg1
   refine am (sM Z Z (sV Z (bl Z) (sR 8 Z (sV Z (aD Z Z) (aa (dl Z (ac (rA hQ results126 Z ?_))))))));exact ⟨H5.ext,congrArg (Value.int .i64) (if_neg (by simp [dw,weightsOK,-List.getD_eq_getElem?_getD,hg1,hg2])).symm⟩
 ·try simp only [decide_eq_true_eq,decide_eq_false_iff_not] at hg1
  refine dR 4 Z (dV Z Z (fun zw hx=>aH Z Z) (dR 6 Z (dV Z Z (fun zw hx=>aH Z Z) (dR 7 Z (dV Z Z (fun zw hx=>aH Z Z) (dR 7 Z (dV Z Z (fun zw hx=>aH Z Z) (aV Z ah Z Z (bw Z) (aT (ae (ae ?_)))))))))))
  try have hgb:=cu.1 hg1
  refine am (sM Z Z (sV Z (bl Z) (sR 8 Z (sV Z (aD Z Z) (aa (dl Z (ac (rA hQ results126 Z ?_))))))));exact ⟨H4.ext,congrArg (Value.int .i64) (if_neg (by simp [dw,weightsOK,-List.getD_eq_getElem?_getD,hg1])).symm⟩
set_option maxHeartbeats 1000000 in
theorem lK {w:World}{r:Rec}{rA6 rA7 rA8:Option Addr}{rC6 rC7 rC8:Nat}(rK:r.Ok) (rS6:Sees w [.slice rA6 r.Rows.length rC6] r.Rows) (rS7:Sees w [.slice rA7 r.Data.length rC7] r.Data) (rS8:Sees w [.slice rA8 r.Delta.length rC8] r.Delta):Ret Tryz.prog 130 #[r.val rA6 rC6 rA7 rC7 rA8 rC8] w fun v w'=>Ext No w w'∧(∃ A6 C6 A7 C7 A8 C8,v=(dT r).val A6 C6 A7 C7 A8 C8∧Sees w' [.slice A6 (dT r).Rows.length C6] (dT r).Rows∧Sees w' [.slice A7 (dT r).Data.length C7] (dT r).Data∧Sees w' [.slice A8 (dT r).Delta.length C8] (dT r).Delta):=by
 have rK2:=rK;unfold Rec.Ok at rK2
 try unfold I64ok at rK2
 try unfold maxLen at rK2
 have rN2:r.Name.size≤maxLen:=by unfold maxLen; omega
 have rL6:=sL rS6;obtain ⟨rF6,rO6⟩:=rS6;have rL7:=sL rS7;obtain ⟨rF7,rO7⟩:=rS7;have rL8:=sL rS8;obtain ⟨rF8,rO8⟩:=rS8;refine aS func130 Z ntmps130 Z (fun Q hQ hN=>?_);have H0:=Sep.start (ak rO6 (ak rO7 (ak rO8 aG)));refine ac (bt ah Z Z H0 (fun b1 w1 e1 g1 H1=>bM ah Z zeroValue47 H1 (fun b2 w2 e2 g2 H2=>aa (ac (sF ax Z ts2 (sLd tu2 (H2.box 0 Z) Z (sF ax Z ts2 (sLd tu2 (H2.box 0 Z) Z (sV Z (bh gX Z Z) (bM ah Z zeroValue47 H2 (fun b3 w3 e3 g3 H3=>aR ah aJ Z Z Z Z H3 2 Z Z (fun w4 e4 H4=>?_))))))))))));dsimp only[lNA,lCA,lSZ,lSS,aF] at H4;refine aa (ae (ac (sF ax Z ts2 (sLd tu2 (H4.box 0 Z) Z (aa (au (ac (sR 2 Z (aa (az Z (fun c1=>?_) (fun c1=>?_)))))))))))
 ·refine bx (S:=Ext (· ∈ [b3]) _) (oQ [1,3,5,7,9,11,13,15,17,18,21,22,25,26,29,30]) κ κ κ Z (fun _=>Ext.refl.drawn _) (fun q1=>?_);have H5:=H4.drawn q1;refine dV Z Z (fun zw hx=>ab ax Z ts9 Z Z) (dV Z Z (fun zw hx=>ag tu9 Z Z (al (hx.heapM (H5.boff 0 Z 2 Z Z) (H5.box 0 Z)) Z)) (dV Z Z (fun zw hx=>ab ax Z ts2 Z Z) (dV Z Z (fun zw hx=>ag tu2 Z Z (al (hx.heapM (H5.boff 0 Z 2 Z Z) (H5.box 0 Z)) Z)) (dV Z Z (fun zw hx=>ab ax Z bc Z Z) (dV Z Z (fun zw hx=>ag bz Z Z (al (hx.heapM (H5.boff 0 Z 2 Z Z) (H5.box 0 Z)) Z)) (dV Z Z (fun zw hx=>ab ax Z bI Z Z) (dV Z Z (fun zw hx=>ag bd Z Z (al (hx.heapM (H5.boff 0 Z 2 Z Z) (H5.box 0 Z)) Z)) (dV Z Z (fun zw hx=>ab ax Z ts9 Z Z) (bJ Z ah ts9 Z Z Z H5 2 Z Z (fun _ h e _=>h.trans (e.mono fun _ _ q=>by simp [q])) (fun w5 e5 H6=>?_))))))))));dsimp only[lNA,lCA,lSZ,lSS,aF] at H6;refine dV Z Z (fun zw hx=>ab ax Z ts2 Z Z) (bJ Z ah ts2 Z Z Z H6 2 Z Z (fun _ h e _=>h.trans (e.mono fun _ _ q=>by simp [q])) (fun w6 e6 H7=>?_));dsimp only[lNA,lCA,lSZ,lSS,aF] at H7;refine dV Z Z (fun zw hx=>ab ax Z bc Z Z) (bJ Z ah bc Z Z Z H7 2 Z Z (fun _ h e _=>h.trans (e.mono fun _ _ q=>by simp [q])) (fun w7 e7 H8=>?_));dsimp only[lNA,lCA,lSZ,lSS,aF] at H8;refine dV Z Z (fun zw hx=>ab ax Z bI Z Z) (bJ Z ah bI Z Z Z H8 2 Z Z (fun _ h e _=>h.trans (e.mono fun _ _ q=>by simp [q])) (fun w8 e8 H9=>?_));dsimp only[lNA,lCA,lSZ,lSS,aF] at H9;refine aT (ac (sV Z (aj ax Z aJ Z Z (At.whole (H9.box 2 Z))) (aR ah aJ Z Z Z Z H9 1 Z Z (fun w9 e9 H10=>?_))));dsimp only[lNA,lCA,lSZ,lSS,aF] at H10;refine aa (br (hQ _ _ (cg results130 Z (ay ax Z aJ Z (At.whole (H10.box 1 Z))) ?_)));have eR:dT r=_:=yi c1;refine ⟨H10.ext,?_⟩;rw [eR];exact ⟨_,_,_,_,_,_,Z,(H10.sees 0 Z),(H10.sees 1 Z),⟨[],.inr (.inl ⟨Z,Z,Z⟩)⟩⟩
 ·refine ac (sR 2 Z (aa (az Z (fun c2=>?_) (fun c2=>?_))))
  ·refine bx (S:=Ext (· ∈ [b3]) _) (oQ [1,3,5,7,9,11,13,15,17,18,21,22,25,26,29,30]) κ κ κ Z (fun _=>Ext.refl.drawn _) (fun q2=>?_);have H11:=H4.drawn q2;refine dV Z Z (fun zw hx=>ab ax Z ts2 Z Z) (dV Z Z (fun zw hx=>ag tu2 Z Z (al (hx.heapM (H11.boff 0 Z 2 Z Z) (H11.box 0 Z)) Z)) (dV Z Z (fun zw hx=>ab ax Z ts2 Z Z) (dV Z Z (fun zw hx=>ag tu2 Z Z (al (hx.heapM (H11.boff 0 Z 2 Z Z) (H11.box 0 Z)) Z)) (dV Z Z (fun zw hx=>ab ax Z bc Z Z) (dV Z Z (fun zw hx=>ag bz Z Z (al (hx.heapM (H11.boff 0 Z 2 Z Z) (H11.box 0 Z)) Z)) (dV Z Z (fun zw hx=>ab ax Z bc Z Z) (dV Z Z (fun zw hx=>ag bz Z Z (al (hx.heapM (H11.boff 0 Z 2 Z Z) (H11.box 0 Z)) Z)) (dV Z Z (fun zw hx=>ab ax Z ts2 Z Z) (bJ Z ah ts2 Z Z Z H11 2 Z Z (fun _ h e _=>h.trans (e.mono fun _ _ q=>by simp [q])) (fun w10 e10 H12=>?_))))))))));dsimp only[lNA,lCA,lSZ,lSS,aF] at H12;refine dV Z Z (fun zw hx=>ab ax Z ts2 Z Z) (bJ Z ah ts2 Z Z Z H12 2 Z Z (fun _ h e _=>h.trans (e.mono fun _ _ q=>by simp [q])) (fun w11 e11 H13=>?_));dsimp only[lNA,lCA,lSZ,lSS,aF] at H13;refine dV Z Z (fun zw hx=>ab ax Z bc Z Z) (bJ Z ah bc Z Z Z H13 2 Z Z (fun _ h e _=>h.trans (e.mono fun _ _ q=>by simp [q])) (fun w12 e12 H14=>?_));dsimp only[lNA,lCA,lSZ,lSS,aF] at H14;refine dV Z Z (fun zw hx=>ab ax Z bc Z Z) (bJ Z ah bc Z Z Z H14 2 Z Z (fun _ h e _=>h.trans (e.mono fun _ _ q=>by simp [q])) (fun w13 e13 H15=>?_));dsimp only[lNA,lCA,lSZ,lSS,aF] at H15;refine aT (ac (sV Z (aj ax Z aJ Z Z (At.whole (H15.box 2 Z))) (aR ah aJ Z Z Z Z H15 1 Z Z (fun w14 e14 H16=>?_))));dsimp only[lNA,lCA,lSZ,lSS,aF] at H16;refine aa (br (hQ _ _ (cg results130 Z (ay ax Z aJ Z (At.whole (H16.box 1 Z))) ?_)));have eR:dT r=_:=yG c1 c2;refine ⟨H16.ext,?_⟩;rw [eR];exact ⟨_,_,_,_,_,_,Z,⟨[],.inr (.inl ⟨Z,Z,Z⟩)⟩,(H16.sees 1 Z),(H16.sees 2 Z)⟩
  ·refine ac (sR 2 Z (aa (az Z (fun c3=>?_) (fun c3=>?_))))
   ·refine am (sF ax Z ts2 (sLd tu2 (H4.box 0 Z) Z (sF ax Z ts2 (bv ah ts2 Z Z Z H4 2 Z Z (fun w15 e15 H17=>?_)))));dsimp only[lNA,lCA,lSZ,lSS,aF] at H17;refine aa (ac (sV Z (aj ax Z aJ Z Z (At.whole (H17.box 2 Z))) (aR ah aJ Z Z Z Z H17 1 Z Z (fun w16 e16 H18=>?_))));dsimp only[lNA,lCA,lSZ,lSS,aF] at H18;refine aa (br (hQ _ _ (cg results130 Z (ay ax Z aJ Z (At.whole (H18.box 1 Z))) ?_)));have eR:dT r=_:=yg c1 c2 c3;refine ⟨H18.ext,?_⟩;rw [eR];exact ⟨_,_,_,_,_,_,Z,⟨[],.inr (.inl ⟨Z,Z,Z⟩)⟩,⟨[],.inr (.inl ⟨Z,Z,Z⟩)⟩,⟨[],.inr (.inl ⟨Z,Z,Z⟩)⟩⟩
   ·refine ac (sR 2 Z (aa (az Z (fun c4=>?_) (fun c4=>?_))))
    ·refine bx (S:=Ext (· ∈ [b3]) _) (oQ [1,3,5,7,9,11,13,15,17,19,21,22,25,26,29,30,33,34,37,38]) κ κ κ Z (fun _=>Ext.refl.drawn _) (fun q3=>?_);have H19:=H4.drawn q3;refine dV Z Z (fun zw hx=>ab ax Z ts2 Z Z) (dV Z Z (fun zw hx=>ag tu2 Z Z (al (hx.heapM (H19.boff 0 Z 2 Z Z) (H19.box 0 Z)) Z)) (dV Z Z (fun zw hx=>ab ax Z ts2 Z Z) (dV Z Z (fun zw hx=>ag tu2 Z Z (al (hx.heapM (H19.boff 0 Z 2 Z Z) (H19.box 0 Z)) Z)) (dV Z Z (fun zw hx=>ab ax Z bI Z Z) (dV Z Z (fun zw hx=>ag bd Z Z (al (hx.heapM (H19.boff 0 Z 2 Z Z) (H19.box 0 Z)) Z)) (dV Z Z (fun zw hx=>ab ax Z bc Z Z) (dV Z Z (fun zw hx=>ag bz Z Z (al (hx.heapM (H19.boff 0 Z 2 Z Z) (H19.box 0 Z)) Z)) (dV Z Z (fun zw hx=>ab ax Z bc Z Z) (dV Z Z (fun zw hx=>ag bz Z Z (al (hx.heapM (H19.boff 0 Z 2 Z Z) (H19.box 0 Z)) Z)) (dV Z Z (fun zw hx=>ab ax Z ts2 Z Z) (bJ Z ah ts2 Z Z Z H19 2 Z Z (fun _ h e _=>h.trans (e.mono fun _ _ q=>by simp [q])) (fun w17 e17 H20=>?_))))))))))));dsimp only[lNA,lCA,lSZ,lSS,aF] at H20;refine dV Z Z (fun zw hx=>ab ax Z ts2 Z Z) (bJ Z ah ts2 Z Z Z H20 2 Z Z (fun _ h e _=>h.trans (e.mono fun _ _ q=>by simp [q])) (fun w18 e18 H21=>?_));dsimp only[lNA,lCA,lSZ,lSS,aF] at H21;refine dV Z Z (fun zw hx=>ab ax Z bI Z Z) (bJ Z ah bI Z Z Z H21 2 Z Z (fun _ h e _=>h.trans (e.mono fun _ _ q=>by simp [q])) (fun w19 e19 H22=>?_));dsimp only[lNA,lCA,lSZ,lSS,aF] at H22;refine dV Z Z (fun zw hx=>ab ax Z bc Z Z) (bJ Z ah bc Z Z Z H22 2 Z Z (fun _ h e _=>h.trans (e.mono fun _ _ q=>by simp [q])) (fun w20 e20 H23=>?_));dsimp only[lNA,lCA,lSZ,lSS,aF] at H23;refine dV Z Z (fun zw hx=>ab ax Z bc Z Z) (bJ Z ah bc Z Z Z H23 2 Z Z (fun _ h e _=>h.trans (e.mono fun _ _ q=>by simp [q])) (fun w21 e21 H24=>?_));dsimp only[lNA,lCA,lSZ,lSS,aF] at H24;refine aT (ac (sV Z (aj ax Z aJ Z Z (At.whole (H24.box 2 Z))) (aR ah aJ Z Z Z Z H24 1 Z Z (fun w22 e22 H25=>?_))));dsimp only[lNA,lCA,lSZ,lSS,aF] at H25;refine aa (br (hQ _ _ (cg results130 Z (ay ax Z aJ Z (At.whole (H25.box 1 Z))) ?_)));have eR:dT r=_:=yL c1 c2 c3 c4;refine ⟨H25.ext,?_⟩;rw [eR];exact ⟨_,_,_,_,_,_,Z,(H25.sees 0 Z),(H25.sees 1 Z),(H25.sees 2 Z)⟩
    ·refine ar (ac (sV Z (aj ax Z aJ Z Z (At.whole (H4.box 2 Z))) (aR ah aJ Z Z Z Z H4 1 Z Z (fun w23 e23 H26=>?_))));dsimp only[lNA,lCA,lSZ,lSS,aF] at H26;refine aa (br (hQ _ _ (cg results130 Z (ay ax Z aJ Z (At.whole (H26.box 1 Z))) ?_)));have eR:dT r=_:=yE c1 c2 c3 c4;refine ⟨H26.ext,?_⟩;rw [eR];exact ⟨_,_,_,_,_,_,Z,⟨[],.inr (.inl ⟨Z,Z,Z⟩)⟩,⟨[],.inr (.inl ⟨Z,Z,Z⟩)⟩,⟨[],.inr (.inl ⟨Z,Z,Z⟩)⟩⟩
theorem fQ {w:World}{a b:Rec}{aA6 aA7 aA8 bA6 bA7 bA8:Option Addr}{aC6 aC7 aC8 bC6 bC7 bC8:Nat}(aK:a.Ok) (aS6:Sees w [.slice aA6 a.Rows.length aC6] a.Rows) (aS7:Sees w [.slice aA7 a.Data.length aC7] a.Data) (aS8:Sees w [.slice aA8 a.Delta.length aC8] a.Delta) (bK:b.Ok) (bS6:Sees w [.slice bA6 b.Rows.length bC6] b.Rows) (bS7:Sees w [.slice bA7 b.Data.length bC7] b.Data) (bS8:Sees w [.slice bA8 b.Delta.length bC8] b.Delta):Ret Tryz.prog 94 #[a.val aA6 aC6 aA7 aC7 aA8 aC8,b.val bA6 bC6 bA7 bC7 bA8 bC8] w fun v w'=>Ext No w w'∧(v = .bool (decide (a=b))):=by
 have aK2:=aK;unfold Rec.Ok at aK2
 try unfold I64ok at aK2
 try unfold maxLen at aK2
 have aN2:a.Name.size≤maxLen:=by unfold maxLen; omega
 have aL6:=sL aS6;obtain ⟨aF6,aO6⟩:=aS6;have aL7:=sL aS7;obtain ⟨aF7,aO7⟩:=aS7;have aL8:=sL aS8;obtain ⟨aF8,aO8⟩:=aS8;have bK2:=bK;unfold Rec.Ok at bK2
 try unfold I64ok at bK2
 try unfold maxLen at bK2
 have bN2:b.Name.size≤maxLen:=by unfold maxLen; omega
 have bL6:=sL bS6;obtain ⟨bF6,bO6⟩:=bS6;have bL7:=sL bS7;obtain ⟨bF7,bO7⟩:=bS7;have bL8:=sL bS8;obtain ⟨bF8,bO8⟩:=bS8;refine aS func94 Z ntmps94 Z (fun Q hQ hN=>?_);have H0:=Sep.start (ak aO6 (ak aO7 (ak aO8 (ak bO6 (ak bO7 (ak bO8 aG))))));refine ac (bt ah Z Z H0 (fun b1 w1 e1 g1 H1=>bt ah Z Z H1 (fun b2 w2 e2 g2 H2=>sA Z Z (aa (ac (sF ax Z ts2 (sLd tu2 (H2.box 0 Z) Z (sF ax Z ts2 (sLd tu2 (H2.box 1 Z) Z (sR 2 Z (bN 5 (j:=5) (want:=true) (t:=15) Z Z Z Z (fun hg1 kk1=>an (wgE Z Z Z hg1) Z Z (ab ax Z ts2 Z Z) (an (wgE Z Z Z hg1) Z Z (ag tu2 Z Z (al (H2.box 0 Z) Z)) (an (wgE Z Z Z hg1) Z Z (ab ax Z ts2 Z Z) (an (wgE Z Z Z hg1) Z Z (ag tu2 Z Z (al (H2.box 1 Z) Z)) (an (wgE Z Z Z hg1) Z Z (cb Z Z) (kk1 _ _ (kx Z (kx Z (kx Z (kx Z (kx Z k0))))) Z Ext.refl)))))) (fun w3 e3=>?_))))))))))));have H3:=H2.to e3;refine sV Z (bA Z Z) (sM Z Z (bN 5 (j:=12) (want:=true) (t:=22) Z Z Z Z (fun hg2 kk2=>an (wgE Z Z Z hg2) Z Z (ab ax Z ts9 Z Z) (an (wgE Z Z Z hg2) Z Z (ag tu9 Z Z (al (H3.box 0 Z) Z)) (an (wgE Z Z Z hg2) Z Z (ab ax Z ts9 Z Z) (an (wgE Z Z Z hg2) Z Z (ag tu9 Z Z (al (H3.box 1 Z) Z)) (an (wgE Z Z Z hg2) Z Z (oc Z Z) (kk2 _ _ (kx Z (kx Z (kx Z (kx Z (kx Z k0))))) Z Ext.refl)))))) (fun w4 e4=>?_)));have H4:=H3.to e4;refine sV Z (bA Z Z) (sM Z Z (bN 5 (j:=19) (want:=true) (t:=29) Z Z Z Z (fun hg3 kk3=>an (wgE Z Z Z hg3) Z Z (ab ax Z ts2 Z Z) (an (wgE Z Z Z hg3) Z Z (ag tu2 Z Z (al (H4.box 0 Z) Z)) (an (wgE Z Z Z hg3) Z Z (ab ax Z ts2 Z Z) (an (wgE Z Z Z hg3) Z Z (ag tu2 Z Z (al (H4.box 1 Z) Z)) (an (wgE Z Z Z hg3) Z Z (cb Z Z) (kk3 _ _ (kx Z (kx Z (kx Z (kx Z (kx Z k0))))) Z Ext.refl)))))) (fun w5 e5=>?_)));have H5:=H4.to e5;refine sV Z (bA Z Z) (sM Z Z (bN 5 (j:=26) (want:=true) (t:=36) Z Z Z Z (fun hg4 kk4=>an (wgE Z Z Z hg4) Z Z (ab ax Z ts2 Z Z) (an (wgE Z Z Z hg4) Z Z (ag tu2 Z Z (al (H5.box 0 Z) Z)) (an (wgE Z Z Z hg4) Z Z (ab ax Z ts2 Z Z) (an (wgE Z Z Z hg4) Z Z (ag tu2 Z Z (al (H5.box 1 Z) Z)) (an (wgE Z Z Z hg4) Z Z (cb Z Z) (kk4 _ _ (kx Z (kx Z (kx Z (kx Z (kx Z k0))))) Z Ext.refl)))))) (fun w6 e6=>?_)));have H6:=H5.to e6;refine sV Z (bA Z Z) (sM Z Z (bN 5 (j:=33) (want:=true) (t:=43) Z Z Z Z (fun hg5 kk5=>an (wgE Z Z Z hg5) Z Z (ab ax Z ts2 Z Z) (an (wgE Z Z Z hg5) Z Z (ag tu2 Z Z (al (H6.box 0 Z) Z)) (an (wgE Z Z Z hg5) Z Z (ab ax Z ts2 Z Z) (an (wgE Z Z Z hg5) Z Z (ag tu2 Z Z (al (H6.box 1 Z) Z)) (an (wgE Z Z Z hg5) Z Z (cb Z Z) (kk5 _ _ (kx Z (kx Z (kx Z (kx Z (kx Z k0))))) Z Ext.refl)))))) (fun w7 e7=>?_)));have H7:=H6.to e7;refine sV Z (bA Z Z) (sM Z Z (bN 5 (j:=40) (want:=true) (t:=50) Z Z Z Z (fun hg6 kk6=>an (wgE Z Z Z hg6) Z Z (ab ax Z bI Z Z) (an (wgE Z Z Z hg6) Z Z (ag bd Z Z (al (H7.box 0 Z) Z)) (an (wgE Z Z Z hg6) Z Z (ab ax Z bI Z Z) (an (wgE Z Z Z hg6) Z Z (ag bd Z Z (al (H7.box 1 Z) Z)) (cH (wgE Z Z Z hg6) Z Z (aQ func180 Z tx Z) (gA (H7.sees 0 Z) (H7.sees 3 Z)) (fun w9 e9=>kk6 _ _ (kx Z (kx Z (kx Z (kx Z (kx Z k0))))) Z (Ext.refl.trans e9))))))) (fun w8 e8=>?_)));have H8:=H7.to e8;refine sV Z (bA Z Z) (sM Z Z (bN 5 (j:=47) (want:=true) (t:=57) Z Z Z Z (fun hg7 kk7=>an (wgE Z Z Z hg7) Z Z (ab ax Z bc Z Z) (an (wgE Z Z Z hg7) Z Z (ag bz Z Z (al (H8.box 0 Z) Z)) (an (wgE Z Z Z hg7) Z Z (ab ax Z bc Z Z) (an (wgE Z Z Z hg7) Z Z (ag bz Z Z (al (H8.box 1 Z) Z)) (cH (wgE Z Z Z hg7) Z Z (aQ func181 Z pN Z) (mC (H8.sees 1 Z) (H8.sees 4 Z)) (fun w11 e11=>kk7 _ _ (kx Z (kx Z (kx Z (kx Z (kx Z k0))))) Z (Ext.refl.trans e11))))))) (fun w10 e10=>?_)));have H9:=H8.to e10;refine sV Z (bA Z Z) (sM Z Z (bN 5 (j:=54) (want:=true) (t:=64) Z Z Z Z (fun hg8 kk8=>an (wgE Z Z Z hg8) Z Z (ab ax Z bc Z Z) (an (wgE Z Z Z hg8) Z Z (ag bz Z Z (al (H9.box 0 Z) Z)) (an (wgE Z Z Z hg8) Z Z (ab ax Z bc Z Z) (an (wgE Z Z Z hg8) Z Z (ag bz Z Z (al (H9.box 1 Z) Z)) (cH (wgE Z Z Z hg8) Z Z (aQ func181 Z pN Z) (mC (H9.sees 2 Z) (H9.sees 5 Z)) (fun w13 e13=>kk8 _ _ (kx Z (kx Z (kx Z (kx Z (kx Z k0))))) Z (Ext.refl.trans e13))))))) (fun w12 e12=>?_)));have H10:=H9.to e12;refine sV Z (bA Z Z) (rA hQ results94 Z ?_);exact ⟨H10.ext,congrArg Value.bool (by rw [← rI]; simp only [Bool.and_assoc])⟩
set_option maxHeartbeats 1000000 in
theorem lL {w:World}{s:Shape}{r:Rec}{rA6 rA7 rA8:Option Addr}{rC6 rC7 rC8:Nat}(rK:r.Ok) (rS6:Sees w [.slice rA6 r.Rows.length rC6] r.Rows) (rS7:Sees w [.slice rA7 r.Data.length rC7] r.Data) (rS8:Sees w [.slice rA8 r.Delta.length rC8] r.Delta) (hs:s.ok=true):Ret Tryz.prog 70 #[s.v,r.val rA6 rC6 rA7 rC7 rA8 rC8] w fun v w'=>Ext No w w'∧(v = .int .i64 (fH s r)):=by
 have rK2:=rK;unfold Rec.Ok at rK2
 try unfold I64ok at rK2
 try unfold maxLen at rK2
 have rN2:r.Name.size≤maxLen:=by unfold maxLen; omega
 have rL6:=sL rS6;obtain ⟨rF6,rO6⟩:=rS6;have rL7:=sL rS7;obtain ⟨rF7,rO7⟩:=rS7;have rL8:=sL rS8;obtain ⟨rF8,rO8⟩:=rS8;have sbd:=bk hs;refine aS func70 Z ntmps70 Z (fun Q hQ hN=>?_);have H0:=Sep.start (ak rO6 (ak rO7 (ak rO8 aG)));refine ac (bt ah Z Z H0 (fun b1 w1 e1 g1 H1=>bt ah Z Z H1 (fun b2 w2 e2 g2 H2=>sA Z Z (aa (ac (sA Z Z (aa (wZ (γ:=Unit) H2 [(3,_)] ⟨Z,trivial⟩ (fun _=>[(5,.int .i64 (eS s r))]) (fun _=>ins r.Kind 1 4=true∧ins r.Seq 1 1000000000=true) ?_ (fun _ w3 H3 ⟨hK,hS⟩=>?_)))))))))
 ·refine au (ac (sF ax Z ts2 (sLd tu2 (H2.box 1 Z) Z (sE func77 cl Z bf H2 (fun w4 e3 H4=>sV Z (bl Z) (sA Z Z (aa (cK Z (fun c1=>?_) (fun c1=>?_)))))))))
  ·refine ac (rA hQ results70 Z ?_);exact ⟨H4.ext,congrArg (Value.int .i64) (nb (not_true c1)).symm⟩
  ·refine ac (sF ax Z ts2 (sLd tu2 (H4.box 1 Z) Z (sE func77 cl Z bf H4 (fun w5 e4 H5=>sV Z (bl Z) (sA Z Z (aa (cK Z (fun c2=>?_) (fun c2=>?_))))))))
   ·refine ac (rA hQ results70 Z ?_);exact ⟨H5.ext,congrArg (Value.int .i64) (pF (not_false c1) (not_true c2)).symm⟩
   ·refine ac (sF ax Z ts2 (sLd tu2 (H5.box 1 Z) Z (sR 2 Z (aa (az Z (fun c3=>?_) (fun c3=>?_))))))
    ·refine am (sV Z (aj bb Z bp Z Z (At.whole (H5.box 0 Z))) (sV Z (aj ax Z aJ Z Z (At.whole (H5.box 1 Z))) (sE func125 uw Z (lg η (H5.sees 0 Z) (H5.sees 1 Z) (H5.sees 2 Z) η) H5 (fun w6 e5 H6=>sA Z Z (aa ?_)))));have hk1:=cu.1 (not_false c1);exact ⟨(),⟨eqI (hJ c3).symm,Z,trivial⟩,H6,not_false c1,not_false c2⟩
    ·refine ac (sF ax Z ts2 (sLd tu2 (H5.box 1 Z) Z (sR 2 Z (aa (az Z (fun c4=>?_) (fun c4=>?_))))))
     ·refine am (sV Z (aj bb Z bp Z Z (At.whole (H5.box 0 Z))) (sV Z (aj ax Z aJ Z Z (At.whole (H5.box 1 Z))) (sE func126 uL Z (ku η (H5.sees 0 Z) (H5.sees 1 Z) (H5.sees 2 Z) η) H5 (fun w7 e6 H7=>sA Z Z (aa ?_)))));have hk1:=cu.1 (not_false c1);exact ⟨(),⟨eqI (dS ω).symm,Z,trivial⟩,H7,not_false c1,not_false c2⟩
     ·refine ac (sF ax Z ts2 (sLd tu2 (H5.box 1 Z) Z (sR 2 Z (aa (az Z (fun c5=>?_) (fun c5=>?_))))))
      ·refine ac (sV Z (aj bb Z bp Z Z (At.whole (H5.box 0 Z))) (sF ax Z ts2 (sLd tu2 (H5.box 1 Z) Z (sE func78 mQ Z (dL η) H5 (fun w8 e7 H8=>sV Z (bl Z) (aa (cK Z (fun c6=>?_) (fun c6=>?_))))))))
       ·refine am (sA Z Z (aa ?_));have hk1:=cu.1 (not_false c1);exact ⟨(),⟨eqI (lp ω (not_true c6)).symm,Z,trivial⟩,H8,not_false c1,not_false c2⟩
       ·refine ar ?_;have hk1:=cu.1 (not_false c1);exact ⟨(),⟨eqI (iM ω (not_false c6)).symm,Z,trivial⟩,H8,not_false c1,not_false c2⟩
      ·refine ae (bx (S:=Ext No _) (oQ [1,3,5,6,9,11,13,15,17,18,21,23,25,27,29,33,30,34,37,39,41,43,45,49,46,50,53,55,56]) κ κ κ Z (fun _=>Ext.refl.drawn _) (fun q1=>?_));have H9:=H5.drawn q1;refine dV Z Z (fun zw hx=>aj bb Z bp Z Z (At.whole (hx.heap (H9.box 0 Z)))) (dV Z Z (fun zw hx=>ab ax Z ts2 Z Z) (dV Z Z (fun zw hx=>ag tu2 Z Z (al (hx.heap (H9.box 1 Z)) Z)) (dC func71 vE Z (jA η) (fun v6 w9 r6=>?_))));obtain ⟨e8,rfl⟩:=r6;have H10:=H9.to e8;refine dV Z Z (fun zw hx=>bl Z) (dM Z Z Z (bZ (t:=45) Z (fun hg1=>?_) (fun hg1=>?_)))
       ·try simp only [decide_eq_true_eq,decide_eq_false_iff_not] at hg1
        refine dR 5 Z (dV Z Z (fun zw hx=>aD Z Z) (dR 7 Z (dV Z Z (fun zw hx=>aD Z Z) (dR 7 Z (dV Z Z (fun zw hx=>aD Z Z) (aV Z ah Z Z (bw Z) (aT (dl Z (am (sA Z Z (aa ?_)))))))))));have hk1:=cu.1 (not_false c1);exact ⟨(),⟨eqI (dp ω (by simp_all [fF])).symm,Z,trivial⟩,H10,not_false c1,not_false c2⟩
       ·try simp only [decide_eq_true_eq,decide_eq_false_iff_not] at hg1
        refine aC Z (wg Z Z Z) Z Z (fun zw hx=>aj bb Z bp Z Z (At.whole (hx.heap (H9.box 0 Z)))) (aC Z (wg Z Z Z) Z Z (fun zw hx=>ab ax Z ts2 Z Z) (aC Z (wg Z Z Z) Z Z (fun zw hx=>ag tu2 Z Z (al (hx.heap (H9.box 1 Z)) Z)) (bD Z (wg Z Z Z) Z Z (aQ func127 Z jp Z) (dx η) (fun hS _ _ r _=>hS.trans r.1.no) (fun v7 w10 r7=>?_))));obtain ⟨e9,rfl⟩:=r7;have H11:=H10.to e9;refine aC Z (wg Z Z Z) Z Z (fun zw hx=>bl Z) (dV Z Z (fun zw hx=>aH Z Z) (dM Z Z Z (bZ (t:=52) Z (fun hg2=>?_) (fun hg2=>?_))))
        ·try simp only [decide_eq_true_eq,decide_eq_false_iff_not] at hg2
         refine dR 6 Z (dV Z Z (fun zw hx=>aD Z Z) (dR 7 Z (dV Z Z (fun zw hx=>aD Z Z) (aV Z ah Z Z (bw Z) (aT (dl Z (am (sA Z Z (aa ?_)))))))));have hk1:=cu.1 (not_false c1);exact ⟨(),⟨eqI (dp ω (by simp_all [fF])).symm,Z,trivial⟩,H11,not_false c1,not_false c2⟩
        ·try simp only [decide_eq_true_eq,decide_eq_false_iff_not] at hg2
         refine aC Z (wg Z Z Z) Z Z (fun zw hx=>ab ax Z bc Z Z) (aC Z (wg Z Z Z) Z Z (fun zw hx=>ag bz Z Z (al (hx.heap (H9.box 1 Z)) Z)) (aC Z (wg Z Z Z) Z Z (fun zw hx=>aj bb Z bp Z Z (At.whole (hx.heap (H9.box 0 Z)))) (bD Z (wg Z Z Z) Z Z (aQ func128 Z ia Z) (eA (H11.sees 1 Z)) (fun hS _ _ r _=>hS.trans r.1.no) (fun v8 w11 r8=>?_))));obtain ⟨e10,rfl⟩:=r8;have H12:=H11.to e10;refine bD Z (wg Z Z Z) Z Z (aQ func129 Z jI Z) (cR η) (fun hS _ _ r _=>hS.trans r.1.no) (fun v9 w12 r9=>?_);obtain ⟨e11,rfl⟩:=r9;have H13:=H12.to e11;refine aC Z (wg Z Z Z) Z Z (fun zw hx=>cn Z Z) (dV Z Z (fun zw hx=>aH Z Z) (dM Z Z Z (bZ (t:=60) Z (fun hg3=>?_) (fun hg3=>?_))))
         ·try simp only [decide_eq_true_eq,decide_eq_false_iff_not] at hg3
          refine dR 6 Z (dV Z Z (fun zw hx=>aD Z Z) (aV Z ah Z Z (bw Z) (aT (dl Z (am (sA Z Z (aa ?_)))))));have hk1:=cu.1 (not_false c1);exact ⟨(),⟨eqI (dp ω (by simp_all [fF])).symm,Z,trivial⟩,H13,not_false c1,not_false c2⟩
         ·try simp only [decide_eq_true_eq,decide_eq_false_iff_not] at hg3
          refine aC Z (wg Z Z Z) Z Z (fun zw hx=>ab ax Z bc Z Z) (aC Z (wg Z Z Z) Z Z (fun zw hx=>ag bz Z Z (al (hx.heap (H9.box 1 Z)) Z)) (aC Z (wg Z Z Z) Z Z (fun zw hx=>aj bb Z bp Z Z (At.whole (hx.heap (H9.box 0 Z)))) (bD Z (wg Z Z Z) Z Z (aQ func128 Z ia Z) (eA (H13.sees 2 Z)) (fun hS _ _ r _=>hS.trans r.1.no) (fun v10 w13 r10=>?_))));obtain ⟨e12,rfl⟩:=r10;have H14:=H13.to e12;refine bD Z (wg Z Z Z) Z Z (aQ func129 Z jI Z) (cR η) (fun hS _ _ r _=>hS.trans r.1.no) (fun v11 w14 r11=>?_);obtain ⟨e13,rfl⟩:=r11;have H15:=H14.to e13;refine aC Z (wg Z Z Z) Z Z (fun zw hx=>cn Z Z) (dV Z Z (fun zw hx=>aH Z Z) (aV Z ah Z Z (bw Z) (aT (az Z (fun c7=>?_) (fun c7=>?_)))))
          ·refine am (sA Z Z (aa ?_));have hk1:=cu.1 (not_false c1);exact ⟨(),⟨eqI (dp ω (by simp_all [fF])).symm,Z,trivial⟩,H15,not_false c1,not_false c2⟩
          ·refine ar ?_;have hk1:=cu.1 (not_false c1);exact ⟨(),⟨eqI (iR ω (by simp_all [fF])).symm,Z,trivial⟩,H15,not_false c1,not_false c2⟩
 ·dsimp only[lCA,lNA];refine ae (ae (bx (S:=Ext No _) (oQ [1,3,5,7,9,10,12,15,16]) κ κ κ Z (fun _=>Ext.refl.drawn _) (fun q2=>?_)));have H16:=H3.drawn q2;refine dR 3 Z (bZ (t:=70) Z (fun hg4=>?_) (fun hg4=>?_))
  ·try simp only [decide_eq_true_eq,decide_eq_false_iff_not] at hg4
   refine aC Z (wg Z Z Z) Z Z (fun zw hx=>aj ax Z aJ Z Z (At.whole (hx.heap (H16.box 1 Z)))) (aC Z (wg Z Z Z) Z Z (fun zw hx=>aj ax Z aJ Z Z (At.whole (hx.heap (H16.box 1 Z)))) (bD Z (wg Z Z Z) Z Z (aQ func130 Z tz Z) (lK η (H16.sees 0 Z) (H16.sees 1 Z) (H16.sees 2 Z)) (fun hS _ _ r _=>hS.trans r.1.no) (fun v12 w15 r12=>?_)));obtain ⟨e14,bA1,bA2,bA3,bA4,bA5,bA6,rfl,bS1,bS2,bS3⟩:=r12;have H17:=H16.to e14;refine bD Z (wg Z Z Z) Z Z (aQ func94 Z m5 Z) (fQ η (H17.sees 0 Z) (H17.sees 1 Z) (H17.sees 2 Z) (wP η) bS1 bS2 bS3) (fun hS _ _ r _=>hS.trans r.1.no) (fun v13 w16 r13=>?_);obtain ⟨e15,rfl⟩:=r13;have H18:=H17.to e15;refine aC Z (wg Z Z Z) Z Z (fun zw hx=>bl Z) (aV Z ah Z Z (aD Z Z) (aT (cK Z (fun c8=>?_) (fun c8=>?_))))
   ·refine am (sA Z Z (aa (ac (sR 2 Z (rN hQ results70 Z ?_)))));exact ⟨H18.ext,congrArg (Value.int .i64) ((jh hK hS ω (by rw [← pp (cu.1 hK)]; exact not_true c8)).trans Z).symm⟩
   ·refine ar (ac (sR 2 Z (rN hQ results70 Z ?_)));exact ⟨H18.ext,congrArg (Value.int .i64) ((mu hK hS ω (by rw [← pp (cu.1 hK)]; exact not_false c8)).trans ω).symm⟩
  ·try simp only [decide_eq_true_eq,decide_eq_false_iff_not] at hg4
   refine dR 5 Z (aV Z ah Z Z (aH Z Z) (aT (eK Z (ar (ac (sR 2 Z (rN hQ results70 Z ?_)))))));exact ⟨H16.ext,congrArg (Value.int .i64) (dP hK hS ω).symm⟩
end Go.Wk
namespace Go.Wk
open Rp (sz own)
section
variable {s:Shape}{r:Rec}
theorem xO (h:r.Ok):(⟨r.Kind,r.Seq,⟨#[]⟩,0,r.Group,r.Row,[],[],r.Delta⟩:Rec).Ok:=by
  unfold Rec.Ok I64ok at h ⊢
  have:(⟨#[]⟩:ByteArray).size≤maxLen:=Nat.zero_le _
  simp only; omega
theorem xd (h:r.Ok):(⟨r.Kind,r.Seq,r.Name,r.Length,0,0,r.Rows,[],[]⟩:Rec).Ok:=by
  unfold Rec.Ok I64ok at h ⊢
  simp only; omega
theorem xD (h:r.Ok):(⟨r.Kind,r.Seq,r.Name,r.Length,0,r.Row,r.Rows,r.Data,r.Delta⟩:Rec).Ok:=by
  unfold Rec.Ok I64ok at h ⊢
  simp only; omega
theorem xz (h:r.Ok):(⟨r.Kind,r.Seq,r.Name,r.Length,0,0,[],[],[]⟩:Rec).Ok:=by
  unfold Rec.Ok I64ok at h ⊢
  simp only; omega
theorem pA (h:r.Kind=1):iQ ⟨r.Kind,r.Seq,⟨#[]⟩,0,r.Group,r.Row,[],[],r.Delta⟩=bareOK r:=by rw [bareOK,if_pos h]; simp [iQ,noName]
theorem ou (h:r.Kind=2):iQ ⟨r.Kind,r.Seq,r.Name,r.Length,0,0,r.Rows,[],[]⟩=bareOK r:=by rw [bareOK,if_neg ω,if_pos h]; simp [iQ,noName]
theorem ot (h:r.Kind=3):iQ ⟨r.Kind,r.Seq,r.Name,r.Length,0,r.Row,r.Rows,r.Data,r.Delta⟩=bareOK r:=by rw [bareOK,if_neg ω,if_neg ω,if_pos h]; simp [iQ,noName,Bool.and_assoc]
theorem oX (h:r.Kind=4):iQ ⟨r.Kind,r.Seq,r.Name,r.Length,0,0,[],[],[]⟩=bareOK r:=by rw [bareOK,if_neg ω,if_neg ω,if_neg ω]; simp [iQ,noName]
end
end Go.Wk
namespace Go.Wk
section
variable {z:Wld}{s:Shape}{g:List Drive}{d:Drive}
theorem uE {α:Type}[Inhabited α] {xs:List α}{p:α→Bool}(h:(xs.any fun b => !p b)=false):((List.range xs.length).all fun i=>p (xs.getD i default))=true:=
  gT fun i hi=>by simpa using mE (d:=default) h i hi
theorem oD {α:Type}[Inhabited α] {xs:List α}{p:α→Bool}(h:(xs.any fun b => !p b)=true):((List.range xs.length).all fun i=>p (xs.getD i default))=false:=by
  obtain ⟨i,hi,h⟩:=sx (d:=default) h
  exact jK i hi (by simpa using h)
theorem nt (h:¬ (d.Blocks.length:Int)=s.Rows):dU s d=false:=by rw [dU,decide_eq_false h]; rfl
theorem ro (h:(d.Blocks.any fun b => !eu b)=true):dU s d=false:=by rw [dU,oD h,Bool.and_false]
theorem rZ (h:(d.Blocks.length:Int)=s.Rows) (h2:(d.Blocks.any fun b => !eu b)=false):dU s d=true:=by rw [dU,decide_eq_true h,uE h2]; rfl
theorem rr (h:(d.Blocks.length:Int)=s.Rows) (h2:∀ i,i<d.Blocks.length→eu (d.Blocks.getD i default)=true):dU s d=true:=by rw [dU,decide_eq_true h,gT h2]; rfl
theorem tj (i:Nat) (hi:i<d.Blocks.length) (h2:eu (d.Blocks.getD i default)=false):dU s d=false:=by rw [dU,jK i hi h2,Bool.and_false]
theorem ny (h:¬ (g.length:Int)=s.Data+s.Spare):fL s g=false:=by rw [fL,decide_eq_false h]; rfl
theorem jB (k:Nat) (hk:k<g.length) (h:dU s (g.getD k default)=false):fL s g=false:=by rw [fL,jK k hk h,Bool.and_false]
theorem nD (h:(g.length:Int)=s.Data+s.Spare) (h2:∀ i,i<g.length→dU s (g.getD i default)=true):fL s g=true:=by rw [fL,decide_eq_true h,gT h2]; rfl
theorem lZ (h:¬ (z.Groups.length:Int)=z.Shape.Groups+z.Shape.Column):db z=false:=by rw [db,decide_eq_false h]; rfl
theorem fB (k:Nat) (hk:k<z.Groups.length) (h:fL z.Shape (z.Groups.getD k [])=false):db z=false:=by rw [db,jK k hk h,Bool.and_false]
theorem mI (h:(z.Groups.length:Int)=z.Shape.Groups+z.Shape.Column) (h2:∀ i,i<z.Groups.length→fL z.Shape (z.Groups.getD i [])=true):db z=true:=by rw [db,decide_eq_true h,gT h2]; rfl
end
end Go.Wk
namespace Go.Wk
section
variable {z:Wld}
theorem pM (h:(List.range z.On.length).all (apartAt z.On (z.Shape.Groups+z.Shape.Column-1))=false):mZ z=false:=by rw [mZ,apartL,h]; rfl
theorem nh (h:(List.range z.On.length).all (apartAt z.On (z.Shape.Groups+z.Shape.Column-1))=true) {b:Bool}(hb:b=(decide ((z.On.length:Int)≤z.Shape.Cap) && (decide (z.On.length=0) || !z.Down))):mZ z=b:=by rw [mZ,apartL,h,hb]; simp [Bool.and_assoc]
theorem gy (h:z.Tapes.any cx=true):dN z=2:=by rw [dN,if_pos h]
theorem ly (h:z.Tapes.any cx=false) {k k2:Nat}(hk:k<z.Tapes.length) (hkz:di z.Shape z.Tapes k=0) (hk2:k2<(z.Tapes.getD k default).Recs.length) (h2:dr z.Shape (z.Tapes.getD k default).Recs k2=0)
    (hr:fH z.Shape ((z.Tapes.getD k default).Recs.getD k2 default)≠0):dN z=fH z.Shape ((z.Tapes.getD k default).Recs.getD k2 default):=by
  have e:=vA hk hkz hk2 h2 hr
  rw [dN,if_neg (by simp [h]),if_pos (by rw [e]; exact hr),e]
theorem kv (h:z.Tapes.any cx=false) (h2:di z.Shape z.Tapes z.Tapes.length=0) (h3:z.Tapes.any cj=true):dN z=1:=by rw [dN,if_neg (by simp [h]),if_neg ω,if_pos h3]
theorem kH (h:z.Tapes.any cx=false) (h2:di z.Shape z.Tapes z.Tapes.length=0) (h3:z.Tapes.any cj=false):dN z=0:=by rw [dN,if_neg (by simp [h]),if_neg ω,if_neg (by simp [h3])]
end
end Go.Wk
namespace Go.Wk
section
variable {z:Wld}{b:Block}
theorem tt (h:(!ins b.Stamp 0 1000000000 || decide ((b.Bytes.length:Int)≠4))=true):eu b=false:=by
  rw [eu]
  simp only [Bool.or_eq_true,decide_eq_true_eq] at h
  rcases h with h | h
  · rw [not_true h]; rfl
  · rw [decide_eq_false ω,Bool.and_false]
theorem rU (h:(!ins b.Stamp 0 1000000000 || decide ((b.Bytes.length:Int)≠4))=false):eu b=true:=by
  rw [Bool.or_eq_false_iff] at h
  have h2:=of_decide_eq_false h.2
  rw [eu,not_false h.1,decide_eq_true ω]; rfl
theorem nS {α:Type}[Inhabited α] {xs:List α}{p:α→Bool}(h:xs.length=2) (h2:p (xs.getD 0 default)=true∨p (xs.getD 1 default)=true):xs.any p=true:=by
  rcases h2 with h2 | h2
  · exact qZ 0 ω h2
  · exact qZ 1 ω h2
theorem ns {α:Type}[Inhabited α] {xs:List α}{p:α→Bool}(h:xs.length=2) (h0:p (xs.getD 0 default)=false) (h1:p (xs.getD 1 default)=false):xs.any p=false:=
  oW fun i hi=>by
    have:i=0∨i=1:=by omega
    rcases this with rfl | rfl
    · exact h0
    · exact h1
theorem iH:(db z && (apartL z.On (z.Shape.Groups+z.Shape.Column-1) && (decide ((z.On.length:Int)≤z.Shape.Cap) && ((decide (z.On.length=0) || !z.Down) && decide (z.Tapes.length=2)))))=(db z && mZ z && decide (z.Tapes.length=2)):=by
  rw [mZ]; simp only [Bool.and_assoc]
end
end Go.Wk
namespace Go.Wk
theorem bu {w:World}{b o:Nat}{cs:List Value}(h:At w b o cs) (j:Nat) {v:Value}(hj:cs[j]? = some v):w.cell? ⟨b,o+j,none⟩=some v:=h j v hj
end Go.Wk
namespace Go.Wk
open Go.Proofs Rp Go.Proofs.Tryz
set_option maxRecDepth 10000
set_option maxHeartbeats 1000000 in
theorem dZ {w:World}{s:Shape}{r:Rec}{rA6 rA7 rA8:Option Addr}{rC6 rC7 rC8:Nat}(rK:r.Ok) (rS6:Sees w [.slice rA6 r.Rows.length rC6] r.Rows) (rS7:Sees w [.slice rA7 r.Data.length rC7] r.Data) (rS8:Sees w [.slice rA8 r.Delta.length rC8] r.Delta):Ret Tryz.prog 74 #[s.v,r.val rA6 rC6 rA7 rC7 rA8 rC8] w fun v w'=>Ext No w w'∧(v = .int .i64 (if s.fault≠0 then s.fault else fH s r)):=by
 have rK2:=rK;unfold Rec.Ok at rK2
 try unfold I64ok at rK2
 try unfold maxLen at rK2
 have rN2:r.Name.size≤maxLen:=by unfold maxLen; omega
 have rL6:=sL rS6;obtain ⟨rF6,rO6⟩:=rS6;have rL7:=sL rS7;obtain ⟨rF7,rO7⟩:=rS7;have rL8:=sL rS8;obtain ⟨rF8,rO8⟩:=rS8;refine aS func74 Z ntmps74 Z (fun Q hQ hN=>?_);have H0:=Sep.start (ak rO6 (ak rO7 (ak rO8 aG)));refine ac (bt ah Z Z H0 (fun b1 w1 e1 g1 H1=>bt ah Z Z H1 (fun b2 w2 e2 g2 H2=>sA Z Z (aa (ae (ac (sV Z (aj bb Z bp Z Z (At.whole (H2.box 0 Z))) (sE func63 mW Z eL H2 (fun w3 e3 H3=>sA Z Z (aa (ac (sR 2 Z (aa (az Z (fun c1=>?_) (fun c1=>?_)))))))))))))))
 ·refine ac (sR 2 Z (rN hQ results74 Z ?_));exact ⟨H3.ext,congrArg (Value.int .i64) (if_pos ω).symm⟩
 ·refine ar (ae (ae ?_));have hs:=fa (s:=s) ω;have sbd:=bk hs;refine am (sF ax Z ts2 (sLd tu2 (H3.box 1 Z) Z (sE func121 bO Z bi H3 (fun w4 e4 H4=>sV Z (bl Z) (aa (cK Z (fun c2=>?_) (fun c2=>?_)))))))
  ·refine ac (rA hQ results74 Z ?_);exact ⟨H4.ext,congrArg (Value.int .i64) ((if_neg ω).trans (nb (not_true c2))).symm⟩
  ·refine ar (ae (ac (sF ax Z ts2 (sLd tu2 (H4.box 1 Z) Z (sE func121 bO Z bi H4 (fun w5 e5 H5=>sV Z (bl Z) (aa (cK Z (fun c3=>?_) (fun c3=>?_)))))))))
   ·refine ac (rA hQ results74 Z ?_);exact ⟨H5.ext,congrArg (Value.int .i64) ((if_neg ω).trans (pF (not_false c2) (not_true c3))).symm⟩
   ·refine ar (ac (sV Z (aj ax Z aJ Z Z (At.whole (H5.box 1 Z))) (bM ah Z zeroValue47 H5 (fun b3 w6 e6 g3 H6=>aR ah aJ Z Z Z Z H6 2 Z Z (fun w7 e7 H7=>?_)))));dsimp only[lNA,lCA,lSZ,lSS,aF] at H7;refine aa (ae (ac (sF ax Z ts2 (sLd tu2 (H7.box 1 Z) Z (aa (au (ae ?_)))))));have hk1:=cu.1 (not_false c2);refine am (sR 2 Z (aa (az Z (fun c4=>?_) (fun c4=>?_))))
    ·refine ae (ac (sF ax Z ts9 (sLd tu9 (H7.box 1 Z) Z (sE func138 ug Z (kY η) H7 (fun w8 e8 H8=>sA Z Z (aa (ac (sR 2 Z (aa (az Z (fun c5=>?_) (fun c5=>?_)))))))))))
     ·refine ac (sR 2 Z (rN hQ results74 Z ?_));have kq:=(hJ (s:=s) ω).trans (oU ω);have kF:=dP (s:=s) (not_false c2) (not_false c3) ω;exact ⟨H8.ext,congrArg (Value.int .i64) ((if_neg ω).trans (kF.trans kq)).symm⟩
     ·refine ar (ae (ac (sV Z (aj bb Z bp Z Z (At.whole (H8.box 0 Z))) (sV Z (aj ax Z aJ Z Z (At.whole (H8.box 1 Z))) (sE func139 uH Z (nn η (H8.sees 0 Z) (H8.sees 1 Z) (H8.sees 2 Z) η) H8 (fun w9 e9 H9=>sV Z (bl Z) (aa (cK Z (fun c6=>?_) (fun c6=>?_)))))))))
      ·refine ac (rA hQ results74 Z ?_);have kq:=(hJ (s:=s) ω).trans (jg ω (not_true c6));have kF:=dP (s:=s) (not_false c2) (not_false c3) ω;exact ⟨H9.ext,congrArg (Value.int .i64) ((if_neg ω).trans (kF.trans kq)).symm⟩
      ·refine ar (ac (sF ax Z ts9 (bv ah ts9 Z Z Z H9 2 Z Z (fun w10 e10 H10=>?_))));dsimp only[lNA,lCA,lSZ,lSS,aF] at H10;refine aa (ac (sF ax Z ts2 (bv ah ts2 Z Z Z H10 2 Z Z (fun w11 e11 H11=>?_))));dsimp only[lNA,lCA,lSZ,lSS,aF] at H11;refine aa (ac (sF ax Z bI (bv ah bI Z Z Z H11 2 Z Z (fun w12 e12 H12=>?_))));dsimp only[lNA,lCA,lSZ,lSS,aF] at H12;refine aa (am (sF ax Z bc (bv ah bc Z Z Z H12 2 Z Z (fun w13 e13 H13=>?_))));dsimp only[lNA,lCA,lSZ,lSS,aF] at H13;refine aa (ae (ac (sV Z (aj ax Z aJ Z Z (At.whole (H13.box 2 Z))) (sE func142 jo Z (ev (r:=⟨r.Kind,r.Seq,⟨#[]⟩,0,r.Group,r.Row,[],[],r.Delta⟩) (xO rK) ⟨[],.inr (.inl ⟨Z,Z,Z⟩)⟩ ⟨[],.inr (.inl ⟨Z,Z,Z⟩)⟩ (H13.sees 2 Z)) H13 (fun w14 e14 H14=>sV Z (bl Z) (aa (cK Z (fun c7=>?_) (fun c7=>?_))))))))
       ·refine ac (rA hQ results74 Z ?_);have kq:=(hJ (s:=s) ω).trans (kn ω (not_false c6));exact ⟨H14.ext,congrArg (Value.int .i64) ((if_neg ω).trans (jh (not_false c2) (not_false c3) kq (by rw [← pA ω]; exact not_true c7))).symm⟩
       ·refine ar (ac (rA hQ results74 Z ?_));have kq:=(hJ (s:=s) ω).trans (kn ω (not_false c6));exact ⟨H14.ext,congrArg (Value.int .i64) ((if_neg ω).trans (mu (not_false c2) (not_false c3) kq (by rw [← pA ω]; exact not_false c7))).symm⟩
    ·refine ac (sR 2 Z (aa (az Z (fun c8=>?_) (fun c8=>?_))))
     ·refine ae (ae (bx (S:=Ext No _) (oQ [1,3,5,7,9,10,13,15,17,19,21,23,25,26,29,31,33,35,37,39,41,42,45,47,49,51,53,55,57,58,61,62]) κ κ κ Z (fun _=>Ext.refl.drawn _) (fun q1=>?_)));have H15:=H7.drawn q1;refine dV Z Z (fun zw hx=>ab ax Z ts2 Z Z) (dV Z Z (fun zw hx=>ag tu2 Z Z (al (hx.heap (H15.box 1 Z)) Z)) (dV Z Z (fun zw hx=>ab bb Z ts2 Z Z) (dV Z Z (fun zw hx=>ag tu2 Z Z (al (hx.heap (H15.box 0 Z)) Z)) (dV Z Z (fun zw hx=>bG Z Z iO) (dC func121 bO Z bi (fun v7 w15 r7=>?_))))));obtain ⟨e15,rfl⟩:=r7;have H16:=H15.to e15;refine dV Z Z (fun zw hx=>bl Z) (dM Z Z Z (bZ (t:=49) Z (fun hg1=>?_) (fun hg1=>?_)))
      ·try simp only [decide_eq_true_eq,decide_eq_false_iff_not] at hg1
       refine dR 7 Z (dV Z Z (fun zw hx=>aD Z Z) (dR 7 Z (dV Z Z (fun zw hx=>aD Z Z) (dR 7 Z (aV Z ah Z Z (aD Z Z) (aT (dl Z (ac (rA hQ results74 Z ?_)))))))));have kq:=dp (s:=s) ω (by simp_all [fF]);have kF:=dP (s:=s) (not_false c2) (not_false c3) ω;exact ⟨H16.ext,congrArg (Value.int .i64) ((if_neg ω).trans (kF.trans kq)).symm⟩
      ·try simp only [decide_eq_true_eq,decide_eq_false_iff_not] at hg1
       refine aC Z (wg Z Z Z) Z Z (fun zw hx=>ab ax Z ts2 Z Z) (aC Z (wg Z Z Z) Z Z (fun zw hx=>ag tu2 Z Z (al (hx.heap (H15.box 1 Z)) Z)) (aC Z (wg Z Z Z) Z Z (fun zw hx=>ab bb Z ts2 Z Z) (aC Z (wg Z Z Z) Z Z (fun zw hx=>ag tu2 Z Z (al (hx.heap (H15.box 0 Z)) Z)) (aC Z (wg Z Z Z) Z Z (fun zw hx=>bG Z Z iO) (bD Z (wg Z Z Z) Z Z (aQ func121 Z bO Z) bi (fun hS _ _ r _=>hS.trans r.1.no) (fun v8 w16 r8=>?_))))));obtain ⟨e16,rfl⟩:=r8;have H17:=H16.to e16;refine aC Z (wg Z Z Z) Z Z (fun zw hx=>bl Z) (dV Z Z (fun zw hx=>aH Z Z) (dM Z Z Z (bZ (t:=58) Z (fun hg2=>?_) (fun hg2=>?_))))
       ·try simp only [decide_eq_true_eq,decide_eq_false_iff_not] at hg2
        refine dR 6 Z (dV Z Z (fun zw hx=>aD Z Z) (dR 7 Z (aV Z ah Z Z (aD Z Z) (aT (dl Z (ac (rA hQ results74 Z ?_)))))));have kq:=dp (s:=s) ω (by simp_all [fF]);have kF:=dP (s:=s) (not_false c2) (not_false c3) ω;exact ⟨H17.ext,congrArg (Value.int .i64) ((if_neg ω).trans (kF.trans kq)).symm⟩
       ·try simp only [decide_eq_true_eq,decide_eq_false_iff_not] at hg2
        refine aC Z (wg Z Z Z) Z Z (fun zw hx=>ab ax Z bc Z Z) (aC Z (wg Z Z Z) Z Z (fun zw hx=>ag bz Z Z (al (hx.heap (H15.box 1 Z)) Z)) (aC Z (wg Z Z Z) Z Z (fun zw hx=>aO bz Z) (aC Z (wg Z Z Z) Z Z (fun zw hx=>aj bb Z bp Z Z (At.whole (hx.heap (H15.box 0 Z)))) (bD Z (wg Z Z Z) Z Z (aQ func66 Z gh Z) (cU η) (fun hS _ _ r _=>hS.trans r.1.no) (fun v9 w17 r9=>?_)))));obtain ⟨e17,rfl⟩:=r9;have H18:=H17.to e17;refine aC Z (wg Z Z Z) Z Z (fun zw hx=>cn Z Z) (dV Z Z (fun zw hx=>aH Z Z) (dM Z Z Z (bZ (t:=66) Z (fun hg3=>?_) (fun hg3=>?_))))
        ·try simp only [decide_eq_true_eq,decide_eq_false_iff_not] at hg3
         refine dR 6 Z (aV Z ah Z Z (aD Z Z) (aT (dl Z (ac (rA hQ results74 Z ?_)))));have kq:=dp (s:=s) ω (by simp_all [fF]);have kF:=dP (s:=s) (not_false c2) (not_false c3) ω;exact ⟨H18.ext,congrArg (Value.int .i64) ((if_neg ω).trans (kF.trans kq)).symm⟩
        ·try simp only [decide_eq_true_eq,decide_eq_false_iff_not] at hg3
         refine aC Z (wg Z Z Z) Z Z (fun zw hx=>ab ax Z bc Z Z) (aC Z (wg Z Z Z) Z Z (fun zw hx=>ag bz Z Z (al (hx.heap (H15.box 1 Z)) Z)) (aC Z (wg Z Z Z) Z Z (fun zw hx=>aO bz Z) (aC Z (wg Z Z Z) Z Z (fun zw hx=>aj bb Z bp Z Z (At.whole (hx.heap (H15.box 0 Z)))) (bD Z (wg Z Z Z) Z Z (aQ func66 Z gh Z) (cU η) (fun hS _ _ r _=>hS.trans r.1.no) (fun v10 w18 r10=>?_)))));obtain ⟨e18,rfl⟩:=r10;have H19:=H18.to e18;refine aC Z (wg Z Z Z) Z Z (fun zw hx=>cn Z Z) (aV Z ah Z Z (aH Z Z) (aT (az Z (fun c9=>?_) (fun c9=>?_))))
         ·refine ac (rA hQ results74 Z ?_);have kq:=dp (s:=s) ω (by simp_all [fF]);have kF:=dP (s:=s) (not_false c2) (not_false c3) ω;exact ⟨H19.ext,congrArg (Value.int .i64) ((if_neg ω).trans (kF.trans kq)).symm⟩
         ·refine ar (ac (sF ax Z ts2 (bv ah ts2 Z Z Z H19 2 Z Z (fun w19 e19 H20=>?_))));dsimp only[lNA,lCA,lSZ,lSS,aF] at H20;refine aa (ac (sF ax Z ts2 (bv ah ts2 Z Z Z H20 2 Z Z (fun w20 e20 H21=>?_))));dsimp only[lNA,lCA,lSZ,lSS,aF] at H21;refine aa (ac (sF ax Z bc (bv ah bc Z Z Z H21 2 Z Z (fun w21 e21 H22=>?_))));dsimp only[lNA,lCA,lSZ,lSS,aF] at H22;refine aa (am (sF ax Z bc (bv ah bc Z Z Z H22 2 Z Z (fun w22 e22 H23=>?_))));dsimp only[lNA,lCA,lSZ,lSS,aF] at H23;refine aa (ae (ac (sV Z (aj ax Z aJ Z Z (At.whole (H23.box 2 Z))) (sE func142 jo Z (ev (r:=⟨r.Kind,r.Seq,r.Name,r.Length,0,0,r.Rows,[],[]⟩) (xd rK) (H23.sees 0 Z) ⟨[],.inr (.inl ⟨Z,Z,Z⟩)⟩ ⟨[],.inr (.inl ⟨Z,Z,Z⟩)⟩) H23 (fun w23 e23 H24=>sV Z (bl Z) (aa (cK Z (fun c10=>?_) (fun c10=>?_))))))))
          ·refine ac (rA hQ results74 Z ?_);have kq:=iR (s:=s) ω (by simp_all [fF]);exact ⟨H24.ext,congrArg (Value.int .i64) ((if_neg ω).trans (jh (not_false c2) (not_false c3) kq (by rw [← ou ω]; exact not_true c10))).symm⟩
          ·refine ar (ac (rA hQ results74 Z ?_));have kq:=iR (s:=s) ω (by simp_all [fF]);exact ⟨H24.ext,congrArg (Value.int .i64) ((if_neg ω).trans (mu (not_false c2) (not_false c3) kq (by rw [← ou ω]; exact not_false c10))).symm⟩
     ·refine ac (sR 2 Z (aa (az Z (fun c11=>?_) (fun c11=>?_))))
      ·refine ae (ae (bx (S:=Ext No _) (oQ [1,3,5,6,9,10,12]) κ κ κ Z (fun _=>Ext.refl.drawn _) (fun q2=>?_)));have H25:=H7.drawn q2;refine dV Z Z (fun zw hx=>ab ax Z ts2 Z Z) (dV Z Z (fun zw hx=>ag tu2 Z Z (al (hx.heap (H25.box 1 Z)) Z)) (dV Z Z (fun zw hx=>aj bb Z bp Z Z (At.whole (hx.heap (H25.box 0 Z)))) (dC func116 cr Z (bH η) (fun v12 w24 r12=>?_))));obtain ⟨e24,rfl⟩:=r12;have H26:=H25.to e24;refine dV Z Z (fun zw hx=>bG Z Z iO) (dC func121 bO Z bi (fun v13 w25 r13=>?_));obtain ⟨e25,rfl⟩:=r13;have H27:=H26.to e25;refine aV Z ah Z Z (bl Z) (aT (cK Z (fun c12=>?_) (fun c12=>?_)))
       ·refine ac (rA hQ results74 Z ?_);have kq:=lp (s:=s) ω (not_true c12);have kF:=dP (s:=s) (not_false c2) (not_false c3) ω;exact ⟨H27.ext,congrArg (Value.int .i64) ((if_neg ω).trans (kF.trans kq)).symm⟩
       ·refine ar (am (sF ax Z ts2 (bv ah ts2 Z Z Z H27 2 Z Z (fun w26 e26 H28=>?_))));dsimp only[lNA,lCA,lSZ,lSS,aF] at H28;refine aa (ae (ac (sV Z (aj ax Z aJ Z Z (At.whole (H28.box 2 Z))) (sE func142 jo Z (ev (r:=⟨r.Kind,r.Seq,r.Name,r.Length,0,r.Row,r.Rows,r.Data,r.Delta⟩) (xD rK) (H28.sees 0 Z) (H28.sees 1 Z) (H28.sees 2 Z)) H28 (fun w27 e27 H29=>sV Z (bl Z) (aa (cK Z (fun c13=>?_) (fun c13=>?_))))))))
        ·refine ac (rA hQ results74 Z ?_);have kq:=iM (s:=s) ω (not_false c12);exact ⟨H29.ext,congrArg (Value.int .i64) ((if_neg ω).trans (jh (not_false c2) (not_false c3) kq (by rw [← ot ω]; exact not_true c13))).symm⟩
        ·refine ar (ac (rA hQ results74 Z ?_));have kq:=iM (s:=s) ω (not_false c12);exact ⟨H29.ext,congrArg (Value.int .i64) ((if_neg ω).trans (mu (not_false c2) (not_false c3) kq (by rw [← ot ω]; exact not_false c13))).symm⟩
      ·refine ac (sR 2 Z (aa (az Z (fun c14=>?_) (fun c14=>?_))))
       ·refine ae (ae (bx (S:=Ext No _) (oQ [1,3,5,6,9,10,13,15,17,19,21,23,25,26,29,31,33,35,37,39,40,43,44,47,49,51,53,55,57,59,60,63,65,67,69,71,72,75,76]) κ κ κ Z (fun _=>Ext.refl.drawn _) (fun q3=>?_)));have H30:=H7.drawn q3;refine dV Z Z (fun zw hx=>ab ax Z ts2 Z Z) (dV Z Z (fun zw hx=>ag tu2 Z Z (al (hx.heap (H30.box 1 Z)) Z)) (dV Z Z (fun zw hx=>aj bb Z bp Z Z (At.whole (hx.heap (H30.box 0 Z)))) (dC func116 cr Z (bH η) (fun v15 w28 r15=>?_))));obtain ⟨e28,rfl⟩:=r15;have H31:=H30.to e28;refine dV Z Z (fun zw hx=>bG Z Z iO) (dC func121 bO Z bi (fun v16 w29 r16=>?_));obtain ⟨e29,rfl⟩:=r16;have H32:=H31.to e29;refine dV Z Z (fun zw hx=>bl Z) (dM Z Z Z (bZ (t:=97) Z (fun hg4=>?_) (fun hg4=>?_)))
        ·try simp only [decide_eq_true_eq,decide_eq_false_iff_not] at hg4
         refine dR 7 Z (dV Z Z (fun zw hx=>aD Z Z) (dR 8 Z (dV Z Z (fun zw hx=>aD Z Z) (dR 7 Z (dV Z Z (fun zw hx=>aD Z Z) (dR 5 Z (aV Z ah Z Z (aD Z Z) (aT (dl Z (ac (rA hQ results74 Z ?_)))))))))));have kq:=(dS (s:=s) ω).trans (if_neg (by simp_all [dw]));have kF:=dP (s:=s) (not_false c2) (not_false c3) ω;exact ⟨H32.ext,congrArg (Value.int .i64) ((if_neg ω).trans (kF.trans kq)).symm⟩
        ·try simp only [decide_eq_true_eq,decide_eq_false_iff_not] at hg4
         refine aC Z (wg Z Z Z) Z Z (fun zw hx=>ab ax Z ts2 Z Z) (aC Z (wg Z Z Z) Z Z (fun zw hx=>ag tu2 Z Z (al (hx.heap (H30.box 1 Z)) Z)) (aC Z (wg Z Z Z) Z Z (fun zw hx=>ab bb Z ts2 Z Z) (aC Z (wg Z Z Z) Z Z (fun zw hx=>ag tu2 Z Z (al (hx.heap (H30.box 0 Z)) Z)) (aC Z (wg Z Z Z) Z Z (fun zw hx=>bG Z Z iO) (bD Z (wg Z Z Z) Z Z (aQ func121 Z bO Z) bi (fun hS _ _ r _=>hS.trans r.1.no) (fun v17 w30 r17=>?_))))));obtain ⟨e30,rfl⟩:=r17;have H33:=H32.to e30;refine aC Z (wg Z Z Z) Z Z (fun zw hx=>bl Z) (dV Z Z (fun zw hx=>aH Z Z) (dM Z Z Z (bZ (t:=106) Z (fun hg5=>?_) (fun hg5=>?_))))
         ·try simp only [decide_eq_true_eq,decide_eq_false_iff_not] at hg5
          refine dR 7 Z (dV Z Z (fun zw hx=>aD Z Z) (dR 7 Z (dV Z Z (fun zw hx=>aD Z Z) (dR 5 Z (aV Z ah Z Z (aD Z Z) (aT (dl Z (ac (rA hQ results74 Z ?_)))))))));have kq:=(dS (s:=s) ω).trans (if_neg (by simp_all [dw]));have kF:=dP (s:=s) (not_false c2) (not_false c3) ω;exact ⟨H33.ext,congrArg (Value.int .i64) ((if_neg ω).trans (kF.trans kq)).symm⟩
         ·try simp only [decide_eq_true_eq,decide_eq_false_iff_not] at hg5
          refine aC Z (wg Z Z Z) Z Z (fun zw hx=>ab ax Z bI Z Z) (aC Z (wg Z Z Z) Z Z (fun zw hx=>ag bd Z Z (al (hx.heap (H30.box 1 Z)) Z)) (aC Z (wg Z Z Z) Z Z (fun zw hx=>aj bb Z bp Z Z (At.whole (hx.heap (H30.box 0 Z)))) (bD Z (wg Z Z Z) Z Z (aQ func116 Z cr Z) (bH η) (fun hS _ _ r _=>hS.trans r.1.no) (fun v18 w31 r18=>?_))));obtain ⟨e31,rfl⟩:=r18;have H34:=H33.to e31;refine aC Z (wg Z Z Z) Z Z (fun zw hx=>bG Z Z iO) (bD Z (wg Z Z Z) Z Z (aQ func140 Z tL Z) (mX (H34.sees 0 Z) ω) (fun hS _ _ r _=>hS.trans r.1.no) (fun v19 w32 r19=>?_));obtain ⟨e32,rfl⟩:=r19;have H35:=H34.to e32;refine aC Z (wg Z Z Z) Z Z (fun zw hx=>bl Z) (dV Z Z (fun zw hx=>aH Z Z) (dM Z Z Z (bZ (t:=115) Z (fun hg6=>?_) (fun hg6=>?_))))
          ·try simp only [decide_eq_true_eq,decide_eq_false_iff_not] at hg6
           refine dR 6 Z (dV Z Z (fun zw hx=>aD Z Z) (dR 5 Z (aV Z ah Z Z (aD Z Z) (aT (dl Z (ac (rA hQ results74 Z ?_)))))));have kq:=(dS (s:=s) ω).trans (if_neg (by simp_all [dw]));have kF:=dP (s:=s) (not_false c2) (not_false c3) ω;exact ⟨H35.ext,congrArg (Value.int .i64) ((if_neg ω).trans (kF.trans kq)).symm⟩
          ·try simp only [decide_eq_true_eq,decide_eq_false_iff_not] at hg6
           refine aC Z (wg Z Z Z) Z Z (fun zw hx=>ab ax Z bc Z Z) (aC Z (wg Z Z Z) Z Z (fun zw hx=>ag bz Z Z (al (hx.heap (H30.box 1 Z)) Z)) (aC Z (wg Z Z Z) Z Z (fun zw hx=>aO bz Z) (aC Z (wg Z Z Z) Z Z (fun zw hx=>aj bb Z bp Z Z (At.whole (hx.heap (H30.box 0 Z)))) (bD Z (wg Z Z Z) Z Z (aQ func66 Z gh Z) (cU η) (fun hS _ _ r _=>hS.trans r.1.no) (fun v20 w33 r20=>?_)))));obtain ⟨e33,rfl⟩:=r20;have H36:=H35.to e33;refine aC Z (wg Z Z Z) Z Z (fun zw hx=>cn Z Z) (dV Z Z (fun zw hx=>aH Z Z) (dM Z Z Z (bZ (t:=123) Z (fun hg7=>?_) (fun hg7=>?_))))
           ·try simp only [decide_eq_true_eq,decide_eq_false_iff_not] at hg7
            refine dR 4 Z (aV Z ah Z Z (aD Z Z) (aT (dl Z (ac (rA hQ results74 Z ?_)))));have kq:=(dS (s:=s) ω).trans (if_neg (by simp_all [dw]));have kF:=dP (s:=s) (not_false c2) (not_false c3) ω;exact ⟨H36.ext,congrArg (Value.int .i64) ((if_neg ω).trans (kF.trans kq)).symm⟩
           ·have hgr:=cu.1 (not_false hg4);have hrr:∀ i,i<r.Rows.length→0≤r.Rows.getD i 0∧r.Rows.getD i 0<s.Groups+s.Column:=fun i hi=>by have:=qt (not_false hg6) i hi; omega
            refine aC Z (wg Z Z Z) Z Z (fun zw hx=>aj bb Z bp Z Z (At.whole (hx.heap (H30.box 0 Z)))) (aC Z (wg Z Z Z) Z Z (fun zw hx=>aj ax Z aJ Z Z (At.whole (hx.heap (H30.box 1 Z)))) (bD Z (wg Z Z Z) Z Z (aQ func141 Z tX Z) (lf η (H36.sees 0 Z) (H36.sees 1 Z) (H36.sees 2 Z) η ω hrr) (fun hS _ _ r _=>hS.trans r.1.no) (fun v21 w34 r21=>?_)));obtain ⟨e34,rfl⟩:=r21;have H37:=H36.to e34;refine aC Z (wg Z Z Z) Z Z (fun zw hx=>bl Z) (aV Z ah Z Z (aH Z Z) (aT (cK Z (fun c15=>?_) (fun c15=>?_))))
            ·refine ac (rA hQ results74 Z ?_);have kq:=(dS (s:=s) ω).trans (if_neg (by simp_all [dw]));have kF:=dP (s:=s) (not_false c2) (not_false c3) ω;exact ⟨H37.ext,congrArg (Value.int .i64) ((if_neg ω).trans (kF.trans kq)).symm⟩
            ·refine ar (ac (sF ax Z bc (bv ah bc Z Z Z H37 2 Z Z (fun w35 e35 H38=>?_))));dsimp only[lNA,lCA,lSZ,lSS,aF] at H38;refine aa (ac (sF ax Z ts2 (bv ah ts2 Z Z Z H38 2 Z Z (fun w36 e36 H39=>?_))));dsimp only[lNA,lCA,lSZ,lSS,aF] at H39;refine aa (ac (sF ax Z ts2 (bv ah ts2 Z Z Z H39 2 Z Z (fun w37 e37 H40=>?_))));dsimp only[lNA,lCA,lSZ,lSS,aF] at H40;refine aa (ac (sF ax Z bI (bv ah bI Z Z Z H40 2 Z Z (fun w38 e38 H41=>?_))));dsimp only[lNA,lCA,lSZ,lSS,aF] at H41;refine aa (am (sF ax Z bc (bv ah bc Z Z Z H41 2 Z Z (fun w39 e39 H42=>?_))));dsimp only[lNA,lCA,lSZ,lSS,aF] at H42;refine aa (ae (ac (sV Z (aj ax Z aJ Z Z (At.whole (H42.box 2 Z))) (sE func142 jo Z (ev (r:=⟨r.Kind,r.Seq,r.Name,r.Length,0,0,[],[],[]⟩) (xz rK) ⟨[],.inr (.inl ⟨Z,Z,Z⟩)⟩ ⟨[],.inr (.inl ⟨Z,Z,Z⟩)⟩ ⟨[],.inr (.inl ⟨Z,Z,Z⟩)⟩) H42 (fun w40 e40 H43=>sV Z (bl Z) (aa (cK Z (fun c16=>?_) (fun c16=>?_))))))))
             ·refine ac (rA hQ results74 Z ?_);have kq:=(dS (s:=s) ω).trans (if_pos (by simp_all [dw]));exact ⟨H43.ext,congrArg (Value.int .i64) ((if_neg ω).trans (jh (not_false c2) (not_false c3) kq (by rw [← oX ω]; exact not_true c16))).symm⟩
             ·refine ar (ac (rA hQ results74 Z ?_));have kq:=(dS (s:=s) ω).trans (if_pos (by simp_all [dw]));exact ⟨H43.ext,congrArg (Value.int .i64) ((if_neg ω).trans (mu (not_false c2) (not_false c3) kq (by rw [← oX ω]; exact not_false c16))).symm⟩
       ·exfalso; omega
theorem me {w:World}{b:Block}{bA1:Option Addr}{bC1:Nat}(bK:b.Ok) (bS1:Sees w [.slice bA1 b.Bytes.length bC1] b.Bytes):Ret Tryz.prog 163 #[b.val bA1 bC1] w fun v w'=>Ext No w w'∧(v = .bool (eu b)):=by
 have bK2:=bK;unfold Block.Ok at bK2
 try unfold I64ok at bK2
 try unfold maxLen at bK2
 have bL1:=sL bS1;obtain ⟨bF1,bO1⟩:=bS1;refine aS func163 Z ntmps163 Z (fun Q hQ hN=>?_);have H0:=Sep.start (ak bO1 aG);refine ac (bt ah Z Z H0 (fun b1 w1 e1 g1 H1=>sA Z Z (aa (ac (sF lh Z ts2 (sLd tu2 (H1.box 0 Z) Z (sE func77 cl Z bf H1 (fun w2 e2 H2=>sM Z Z (bN 4 (j:=3) (want:=true) (t:=10) Z Z Z Z (fun hg1 kk1=>an (wgE Z Z Z hg1) Z Z (ab lh Z bc Z Z) (an (wgE Z Z Z hg1) Z Z (ag bz Z Z (al (H2.box 0 Z) Z)) (an (wgE Z Z Z hg1) Z Z (aO bz Z) (an (wgE Z Z Z hg1) Z Z (cb Z Z) (kk1 _ _ (kx Z (kx Z (kx Z (kx Z k0)))) Z Ext.refl))))) (fun w3 e3=>?_))))))))));have H3:=H2.to e3;refine sV Z (bA Z Z) (rA hQ results163 Z ?_);exact ⟨H3.ext,congrArg Value.bool (by simp only [eu]; congr 1; exact decide_eq_decide.2 ω)⟩
theorem jX {w:World}{b:Block}{bA1:Option Addr}{bC1:Nat}(bK:b.Ok) (bS1:Sees w [.slice bA1 b.Bytes.length bC1] b.Bytes):Ret Tryz.prog 162 #[b.val bA1 bC1] w fun v w'=>Ext No w w'∧(v = .bool (!eu b)):=by
 have bK2:=bK;unfold Block.Ok at bK2
 try unfold I64ok at bK2
 try unfold maxLen at bK2
 have bL1:=sL bS1;obtain ⟨bF1,bO1⟩:=bS1;refine aS func162 Z ntmps162 Z (fun Q hQ hN=>?_);have H0:=Sep.start (ak bO1 aG);refine ac (bt ah Z Z H0 (fun b1 w1 e1 g1 H1=>sA Z Z (aa (ac (sV Z (aj lh Z jP Z Z (At.whole (H1.box 0 Z))) (sE func163 sQ Z (me η (H1.sees 0 Z)) H1 (fun w2 e2 H2=>sV Z (bl Z) (rA hQ results162 Z ?_))))))));exact ⟨H2.ext,Z⟩
set_option maxHeartbeats 1000000 in
theorem lS {w:World}{z:Wld}{zA9 zA10 zA11:Option Addr}{zC9 zC10 zC11:Nat}(zK:z.Ok) (zS9:Sees w [.slice zA9 z.Groups.length zC9] z.Groups) (zS10:Sees w [.slice zA10 z.On.length zC10] z.On) (zS11:Sees w [.slice zA11 z.Tapes.length zC11] z.Tapes) (hs:z.Shape.ok=true):Ret Tryz.prog 86 #[z.val zA9 zC9 zA10 zC10 zA11 zC11] w fun v w'=>Ext No w w'∧(v = .bool (db z)):=by
 have zK2:=zK;unfold Wld.Ok Shape.Ok at zK2
 try unfold I64ok at zK2
 try unfold maxLen at zK2
 have zL9:=sL zS9;obtain ⟨zF9,zO9⟩:=zS9;have zL10:=sL zS10;obtain ⟨zF10,zO10⟩:=zS10;have zL11:=sL zS11;obtain ⟨zF11,zO11⟩:=zS11;have sbd:=bk hs;refine aS func86 Z ntmps86 Z (fun Q hQ hN=>?_);have H0:=Sep.start (ak zO9 (ak zO10 (ak zO11 aG)));refine ac (bt ah Z Z H0 (fun b1 w1 e1 g1 H1=>sA Z Z (aa (ac (sF aP Z bp (sV Z (aj bb Z bp Z Z (At.sub (H1.box 0 Z) 9)) (bM ah Z zeroValue30 H1 (fun b2 w2 e2 g2 H2=>aR ah bp Z Z Z Z H2 1 Z Z (fun w3 e3 H3=>?_)))))))));dsimp only[lNA,lCA,lSZ,lSS,aF] at H3;refine aa (ae (ae (bx (S:=Ext No _) (oQ [1,3,7,4,8,10]) κ κ κ Z (fun _=>Ext.refl.drawn _) (fun q1=>?_))));have H4:=H3.drawn q1;refine dV Z Z (fun zw hx=>ab aP Z dB Z Z) (dV Z Z (fun zw hx=>ag cv Z Z (al (hx.heap (H4.box 0 Z)) Z)) (dV Z Z (fun zw hx=>aj bb Z bp Z Z (At.whole (hx.heap (H4.box 1 Z)))) (dC func158 t6 Z (la (H4.sees 0 Z)) (fun v1 w4 r1=>?_))));obtain ⟨e4,rfl⟩:=r1;have H5:=H4.to e4;refine dC func148 jz Z (dK η) (fun v2 w5 r2=>?_);obtain ⟨e5,rfl⟩:=r2;have H6:=H5.to e5;refine aV Z ah Z Z (cn Z Z) (aT (az Z (fun c1=>?_) (fun c1=>?_)))
 ·refine ac (rA hQ results86 Z ?_);exact ⟨H6.ext,congrArg Value.bool (lZ ω).symm⟩
 ·refine ar (ae (ac (sF aP Z dB (sLd cv (H6.box 0 Z) Z (sV Z (aO cv Z) (sM Z Z (aa (au (bU (γ:=Nat) H6 [(3,_),(17,_),(18,_)] ⟨Z,Z,Z,trivial⟩ (fun k=>[(19,.int .i64 k)]) (fun k=>k≤z.Groups.length∧(∀ i,i<k→fL z.Shape (z.Groups.getD i [])=true)) (fun k=>z.Groups.length-k) 0 ⟨Z,trivial⟩ ⟨ω,fun i hi=>by omega⟩ (fun k w6 H7 ⟨hk,he⟩=>?_))))))))));dsimp only[lCA,lNA];refine ac (sV Z (bg Z Z) (aa (ae (az Z (fun c2=>?_) (fun c2=>?_)))))
  ·refine ar (ae (au (ae ?_)));obtain ⟨eb1,eo1,ea1,ek1,ef1,ee1,ec1,eO1,eH1⟩:=gp (H7.seen 0 Z) k ω;have eP1:=H7.look1 0 Z eO1 eH1;refine am (sV Z (aA cv iT Z Z ee1 k ω ω) (sV Z (ag dm Z Z ec1) (sA Z Z (aa (ae (ae (bx (S:=Ext No _) (oQ [1,5,2,6,8]) κ κ κ Z (fun _=>Ext.refl.drawn _) (fun q2=>?_))))))));have H8:=eP1.drawn q2;refine dM Z Z Z (dV Z Z (fun zw hx=>aj bb Z bp Z Z (At.whole (hx.heap (H8.box 1 Z)))) (dC func159 uj Z (nL (H8.sees 3 Z)) (fun v3 w7 r3=>?_)));obtain ⟨e6,rfl⟩:=r3;have H9:=H8.to e6;refine dC func134 sT Z (ju η) (fun v4 w8 r4=>?_);obtain ⟨e7,rfl⟩:=r4;have H10:=H9.to e7;refine aV Z ah Z Z (cn Z Z) (aT (az Z (fun c3=>?_) (fun c3=>?_)))
   ·refine ac (rA hQ results86 Z ?_);exact ⟨H10.ext,congrArg Value.bool (fB k ω (ny ω)).symm⟩
   ·refine ar (ac (sM Z Z (sV Z (aO dm Z) (sM Z Z (aa (au (bU (γ:=Nat) H10 [(3,_),(17,_),(18,_),(19,_),(28,_),(29,_)] ⟨Z,Z,Z,Z,Z,Z,trivial⟩ (fun k2=>[(30,.int .i64 k2)]) (fun k2=>k2≤(z.Groups.getD k []).length∧(∀ i,i<k2→dU z.Shape ((z.Groups.getD k []).getD i default)=true)) (fun k2=>(z.Groups.getD k []).length-k2) 0 ⟨Z,trivial⟩ ⟨ω,fun i hi=>by omega⟩ (fun k2 w9 H11 ⟨hk2,hek2⟩=>?_))))))));dsimp only[lCA,lNA];refine ac (sV Z (bg Z Z) (aa (ae (az Z (fun c4=>?_) (fun c4=>?_)))))
    ·refine ar (ae (au (ae ?_)));obtain ⟨eb2,eo2,es1,ef2,ee2,ec2,eO2,eH2,em1⟩:=bC (H11.seen 3 Z) k2 ω;obtain ⟨ea2,ek2,eg1,rfl,eq1,eK1,eo3⟩:=gd eO2;have eP2:=H11.look1 3 Z eo3 (fun b hb=>eH2 b (by rw [eq1]; simp [hb]));have eL1:=oL eo3;refine am (sV Z (aA dm fJ Z Z ee2 k2 ω ω) (sV Z (aj gw Z fJ Z Z ec2) (bM ah Z zeroValue54 eP2 (fun b3 w10 e8 g3 H12=>aR ah fJ Z Z Z Z H12 2 Z Z (fun w11 e9 H13=>?_)))));dsimp only[lNA,lCA,lSZ,lSS,aF] at H13;refine aa (ae (bx (S:=Ext No _) (oQ [1,3,7,9,4,11,13,15,17,18,20]) κ κ κ Z (fun _=>Ext.refl.drawn _) (fun q3=>?_)));have H14:=H13.drawn q3;refine dV Z Z (fun zw hx=>ab gw Z jV Z Z) (dV Z Z (fun zw hx=>ag fb Z Z (al (hx.heap (H14.box 2 Z)) Z)) (dV Z Z (fun zw hx=>ab bb Z ts2 Z Z) (dV Z Z (fun zw hx=>ag tu2 Z Z (al (hx.heap (H14.box 1 Z)) Z)) (dC func160 tv Z (nI (H14.sees 4 Z)) (fun v5 w12 r5=>?_)))));obtain ⟨e10,rfl⟩:=r5;have H15:=H14.to e10;refine dR 2 Z (bZ (t:=40) Z (fun hg1=>?_) (fun hg1=>?_))
     ·try simp only [decide_eq_true_eq,decide_eq_false_iff_not] at hg1
      refine dR 3 Z (aV Z ah Z Z (aD Z Z) (aT (dl Z (ac (rA hQ results86 Z ?_)))));exact ⟨H15.ext,congrArg Value.bool (fB k ω (jB k2 ω (nt ω))).symm⟩
     ·try simp only [decide_eq_true_eq,decide_eq_false_iff_not] at hg1
      refine aC Z (wg Z Z Z) Z Z (fun zw hx=>ab gw Z jV Z Z) (aC Z (wg Z Z Z) Z Z (fun zw hx=>ag fb Z Z (al (hx.heap (H14.box 2 Z)) Z)) (bD Z (wg Z Z Z) Z Z (aQ func161 Z tw Z) (jd (H15.sees 4 Z) (p:=(fun b => !eu b)) func162 Z tu (fun w1 e1 i0 hi0 _ _ K0 o0_1=>jX K0 o0_1)) (fun hS _ _ r _=>hS.trans r.1.no) (fun v6 w13 r6=>?_)));obtain ⟨e11,rfl⟩:=r6;have H16:=H15.to e11;refine aV Z ah Z Z (aH Z Z) (aT (cK Z (fun c5=>?_) (fun c5=>?_)))
      ·refine ac (rA hQ results86 Z ?_);exact ⟨H16.ext,congrArg Value.bool (fB k ω (jB k2 ω (ro c5))).symm⟩
      ·refine ar (am (sV Z (aE Z Z iO) (sM Z Z (aa (⟨k2+1,⟨Z,Z,Z,Z,Z,Z,Z,trivial⟩,⟨((H16.ftake 4).dtake 2),ω,fun i hi=>?_⟩,θ⟩)))))
       by_cases e:i=k2
       ·subst e;exact rZ ω c5
       ·exact hek2 i ω
    ·refine aW (am (sV Z (aE Z Z iO) (sM Z Z (aa (⟨k+1,⟨Z,Z,Z,Z,trivial⟩,⟨(H11.ftake 3),ω,fun i hi=>?_⟩,θ⟩)))))
     by_cases e:i=k
     ·subst e;exact nD ω (fun i hi=>hek2 i ω)
     ·exact he i ω
  ·refine aW (ac (rA hQ results86 Z ?_));exact ⟨H7.ext,congrArg Value.bool (mI ω (fun i hi=>he i ω)).symm⟩
theorem oY {w:World}{z:Wld}{zA9 zA10 zA11:Option Addr}{zC9 zC10 zC11:Nat}(zK:z.Ok) (zS9:Sees w [.slice zA9 z.Groups.length zC9] z.Groups) (zS10:Sees w [.slice zA10 z.On.length zC10] z.On) (zS11:Sees w [.slice zA11 z.Tapes.length zC11] z.Tapes) (hs:z.Shape.ok=true):Ret Tryz.prog 87 #[z.val zA9 zC9 zA10 zC10 zA11 zC11] w fun v w'=>Ext No w w'∧(v = .bool (mZ z)):=by
 have zK2:=zK;unfold Wld.Ok Shape.Ok at zK2
 try unfold I64ok at zK2
 try unfold maxLen at zK2
 have zL9:=sL zS9;obtain ⟨zF9,zO9⟩:=zS9;have zL10:=sL zS10;obtain ⟨zF10,zO10⟩:=zS10;have zL11:=sL zS11;obtain ⟨zF11,zO11⟩:=zS11;have sbd:=bk hs;refine aS func87 Z ntmps87 Z (fun Q hQ hN=>?_);have H0:=Sep.start (ak zO9 (ak zO10 (ak zO11 aG)));refine ac (bt ah Z Z H0 (fun b1 w1 e1 g1 H1=>sA Z Z (aa (ae (ac (sF aP Z bI (sLd bd (H1.box 0 Z) Z (sV Z (aO bd Z) (sM Z Z (aa (au (bU (γ:=Nat) H1 [(1,_),(6,_),(7,_)] ⟨Z,Z,Z,trivial⟩ (fun k=>[(8,.int .i64 k)]) (fun k=>k≤z.On.length∧(∀ i,i<k→apartAt z.On (z.Shape.Groups+z.Shape.Column-1) i=true)) (fun k=>z.On.length-k) 0 ⟨Z,trivial⟩ ⟨ω,fun i hi=>by omega⟩ (fun k w2 H2 ⟨hk,he⟩=>?_)))))))))))));dsimp only[lCA,lNA];refine ac (sV Z (bg Z Z) (aa (ae (az Z (fun c1=>?_) (fun c1=>?_)))))
 ·refine ar (ae (au (ae ?_)));obtain ⟨eb1,eo1,ee1,ec1⟩:=cT (H2.seen 1 Z) k ω;have eI1:=dc (H2.seen 1 Z) k ω;refine am (sM Z Z (sV Z (aA bd ts2 Z Z ee1 k ω ω) (sV Z (ag tu2 Z Z ec1) (sR 2 Z (aa (ac (sF aP Z bp (sV Z (aj bb Z bp Z Z (At.sub (H2.box 0 Z) 9)) (sM Z Z (sE func78 mQ Z (dL η) H2 (fun w3 e2 H3=>sV Z (bl Z) (sM Z Z (co (t:=18) Z (fun hg1=>?_) (fun hg1=>?_))))))))))))))
  ·try simp only [decide_eq_true_eq,decide_eq_false_iff_not] at hg1
   refine sR 6 Z (sV Z (aD Z Z) (aa (dl Z (ac (rA hQ results87 Z ?_)))));exact ⟨H3.ext,congrArg Value.bool (pM (jK k ω (by simp only [apartAt,eq] at *; simp_all))).symm⟩
  ·try simp only [decide_eq_true_eq,decide_eq_false_iff_not] at hg1
   refine an (wg Z Z Z) Z Z (ab aP Z bI Z Z) (an (wg Z Z Z) Z Z (ag bd Z Z (al (H3.box 0 Z) Z)) (an (wg Z Z Z) Z Z (aN Z) ?_));have sc1:=dE (H3.seen 1 Z);obtain ⟨sf1,so1,ss1⟩:=gD (H3.seen 1 Z) (0) (k) _ ω ω ω (Nat.le_refl _);have H4:=H3.look1 1 Z so1 ss1;have sl1:=gm (xs:=z.On) (l:=0) (h:=k) ω;refine an (wg Z Z Z) Z Z (ib bd ts2 Z Z (k) ω ω sl1) ((an (wg Z Z Z) Z Z (aN Z) (cW (wg Z Z Z) Z Z (aQ func149 Z lO Z) (cJ (H4.sees 3 Z)) (fun v2 w4 r2=>?_))));obtain ⟨e3,rfl⟩:=r2;have H5:=H4.to e3;refine sV Z (aH Z Z) (aa (cK Z (fun c2=>?_) (fun c2=>?_)))
   ·refine ac (rA hQ results87 Z ?_);exact ⟨H5.ext,congrArg Value.bool (pM (jK k ω (by simp only [apartAt,eq] at *; simp_all))).symm⟩
   ·refine ar (am (sV Z (aE Z Z iO) (sM Z Z (aa (⟨k+1,⟨Z,Z,Z,Z,trivial⟩,⟨(H5.ftake 3),ω,fun i hi=>?_⟩,θ⟩)))))
    by_cases e:i=k
    ·subst e;simp only [apartAt,eq] at *; simp_all
    ·exact he i ω
 ·refine aW (ae (bx (S:=Ext No _) (oQ [1,3,7,9,11,4,13,15,17,19,21,23,25,27,29,31,33,35,36]) κ κ κ Z (fun _=>Ext.refl.drawn _) (fun q1=>?_)));have H6:=H2.drawn q1;refine dV Z Z (fun zw hx=>ab aP Z bI Z Z) (dV Z Z (fun zw hx=>ag bd Z Z (al (hx.heap (H6.box 0 Z)) Z)) (dV Z Z (fun zw hx=>ab aP Z bp Z Z) (dV Z Z (fun zw hx=>ab bb Z ts2 Z Z) (dV Z Z (fun zw hx=>ag tu2 Z Z (al (hx.heap (H6.box 0 Z)) Z)) (dC func80 np Z (gO (H6.sees 1 Z)) (fun v3 w5 r3=>?_))))));obtain ⟨e4,rfl⟩:=r3;have H7:=H6.to e4;refine dR 2 Z (bZ (t:=34) Z (fun hg2=>?_) (fun hg2=>?_))
  ·try simp only [decide_eq_true_eq,decide_eq_false_iff_not] at hg2
   refine aC Z (wg Z Z Z) Z Z (fun zw hx=>ab aP Z bI Z Z) (aC Z (wg Z Z Z) Z Z (fun zw hx=>ag bd Z Z (al (hx.heap (H6.box 0 Z)) Z)) (aC Z (wg Z Z Z) Z Z (fun zw hx=>aO bd Z) (aC Z (wg Z Z Z) Z Z (fun zw hx=>cb Z Z) (aC Z (wg Z Z Z) Z Z (fun zw hx=>aN Z) (bZ (t:=39) Z (fun hg3=>?_) (fun hg3=>?_))))))
   ·try simp only [decide_eq_true_eq,decide_eq_false_iff_not] at hg3
    refine dR 3 Z (aC Z (wg Z Z Z) Z Z (fun zw hx=>aD Z Z) (dV Z Z (fun zw hx=>aD Z Z) (aV Z ah Z Z (bw Z) (aT (rT hQ results87 Z ?_)))));exact ⟨H7.ext,congrArg Value.bool (nh (gT fun i hi=>he i ω) (by simp_all)).symm⟩
   ·try simp only [decide_eq_true_eq,decide_eq_false_iff_not] at hg3
    refine aC Z (wg Z Z Z) Z Z (fun zw hx=>ab aP Z ts4 Z Z) (aC Z (wg Z Z Z) Z Z (fun zw hx=>ag tu4 Z Z (al (hx.heap (H6.box 0 Z)) Z)) (aC Z (wg Z Z Z) Z Z (fun zw hx=>bl Z) (aC Z (wg Z Z Z) Z Z (fun zw hx=>aH Z Z) (dV Z Z (fun zw hx=>aD Z Z) (aV Z ah Z Z (bw Z) (aT (rT hQ results87 Z ?_)))))));exact ⟨H7.ext,congrArg Value.bool (nh (gT fun i hi=>he i ω) (by simp_all)).symm⟩
  ·try simp only [decide_eq_true_eq,decide_eq_false_iff_not] at hg2
   refine dR 5 Z (ca Z (wou Z Z Z) Z Z (ca Z (wou Z Z Z) Z Z (ca Z (wou Z Z Z) Z Z (dKf Z Z Z Z (dV Z Z (fun zw hx=>aH Z Z) (aV Z ah Z Z (bw Z) (aT (rT hQ results87 Z ?_))))))));exact ⟨H7.ext,congrArg Value.bool (nh (gT fun i hi=>he i ω) (by rw [decide_eq_false ω]; rfl)).symm⟩
theorem jx {w:World}{t:Tape}{tA1:Option Addr}{tC1:Nat}(tK:t.Ok) (tS1:Sees w [.slice tA1 t.Recs.length tC1] t.Recs):Ret Tryz.prog 165 #[t.val tA1 tC1] w fun v w'=>Ext No w w'∧(v = .bool (cx t)):=by
 have tK2:=tK;unfold Tape.Ok at tK2
 try unfold I64ok at tK2
 try unfold maxLen at tK2
 have tL1:=sL tS1;obtain ⟨tF1,tO1⟩:=tS1;refine aS func165 Z ntmps165 Z (fun Q hQ hN=>?_);have H0:=Sep.start (ak tO1 aG);refine ac (bt ah Z Z H0 (fun b1 w1 e1 g1 H1=>sA Z Z (aa (ac (sF bT Z dd (sLd aU (H1.box 0 Z) Z (sV Z (aO aU Z) (sR 2 Z (rN hQ results165 Z ?_)))))))));exact ⟨H1.ext,Z⟩
theorem jy {w:World}{t:Tape}{tA1:Option Addr}{tC1:Nat}(tK:t.Ok) (tS1:Sees w [.slice tA1 t.Recs.length tC1] t.Recs):Ret Tryz.prog 166 #[t.val tA1 tC1] w fun v w'=>Ext No w w'∧(v = .bool (cj t)):=by
 have tK2:=tK;unfold Tape.Ok at tK2
 try unfold I64ok at tK2
 try unfold maxLen at tK2
 have tL1:=sL tS1;obtain ⟨tF1,tO1⟩:=tS1;refine aS func166 Z ntmps166 Z (fun Q hQ hN=>?_);have H0:=Sep.start (ak tO1 aG);refine ac (bt ah Z Z H0 (fun b1 w1 e1 g1 H1=>sA Z Z (aa (ac (sF bT Z ts4 (sLd tu4 (H1.box 0 Z) Z (sM Z Z (bN 4 (j:=2) (want:=true) (t:=9) Z Z Z Z (fun hg1 kk1=>an (wgE Z Z Z hg1) Z Z (ab bT Z dd Z Z) (an (wgE Z Z Z hg1) Z Z (ag aU Z Z (al (H1.box 0 Z) Z)) (an (wgE Z Z Z hg1) Z Z (aO aU Z) (an (wgE Z Z Z hg1) Z Z (dv Z Z) (kk1 _ _ (kx Z (kx Z (kx Z (kx Z k0)))) Z Ext.refl))))) (fun w2 e2=>?_)))))))));have H2:=H1.to e2;refine sV Z (bA Z Z) (rA hQ results166 Z ?_);exact ⟨H2.ext,congrArg Value.bool (by simp [cj])⟩
set_option maxHeartbeats 1000000 in
theorem kp {w:World}{z:Wld}{zA9 zA10 zA11:Option Addr}{zC9 zC10 zC11:Nat}(zK:z.Ok) (zS9:Sees w [.slice zA9 z.Groups.length zC9] z.Groups) (zS10:Sees w [.slice zA10 z.On.length zC10] z.On) (zS11:Sees w [.slice zA11 z.Tapes.length zC11] z.Tapes) (hs:z.Shape.ok=true):Ret Tryz.prog 88 #[z.val zA9 zC9 zA10 zC10 zA11 zC11] w fun v w'=>Ext No w w'∧(v = .int .i64 (dN z)):=by
 have zK2:=zK;unfold Wld.Ok Shape.Ok at zK2
 try unfold I64ok at zK2
 try unfold maxLen at zK2
 have zL9:=sL zS9;obtain ⟨zF9,zO9⟩:=zS9;have zL10:=sL zS10;obtain ⟨zF10,zO10⟩:=zS10;have zL11:=sL zS11;obtain ⟨zF11,zO11⟩:=zS11;have sbd:=bk hs;refine aS func88 Z ntmps88 Z (fun Q hQ hN=>?_);have H0:=Sep.start (ak zO9 (ak zO10 (ak zO11 aG)));refine ac (bt ah Z Z H0 (fun b1 w1 e1 g1 H1=>sA Z Z (aa (ae (ac (sF aP Z cI (sLd bB (H1.box 0 Z) Z (sE func164 pg Z (fG (H1.sees 2 Z) (p:=cx) func165 Z um (fun w1 e1 i0 hi0 _ _ K0 o0_1=>jx K0 o0_1)) H1 (fun w2 e2 H2=>aa (cK Z (fun c1=>?_) (fun c1=>?_)))))))))))
 ·refine ac (rA hQ results88 Z ?_);exact ⟨H2.ext,congrArg (Value.int .i64) (gy c1).symm⟩
 ·refine ar (ae (ae ?_));have cM:=c1;refine am (sF aP Z cI (sLd bB (H2.box 0 Z) Z (sV Z (aO bB Z) (sM Z Z (aa (au (bU (γ:=Nat) H2 [(1,_),(12,_),(13,_)] ⟨Z,Z,Z,trivial⟩ (fun k=>[(14,.int .i64 k)]) (fun k=>k≤z.Tapes.length∧di z.Shape z.Tapes k=0) (fun k=>z.Tapes.length-k) 0 ⟨Z,trivial⟩ ⟨ω,Z⟩ (fun k w3 H3 ⟨hk,hkz⟩=>?_))))))));dsimp only[lCA,lNA];refine ac (sV Z (bg Z Z) (aa (ae (az Z (fun c2=>?_) (fun c2=>?_)))))
  ·refine ar (ae (au (ae ?_)));obtain ⟨eb1,eo1,es1,ef1,ee1,ec1,eO1,eH1,em1⟩:=bC (H3.seen 2 Z) k ω;obtain ⟨ea1,ek1,eg1,rfl,eq1,eK1,eo2⟩:=cL eO1;have eP1:=H3.look1 2 Z eo2 (fun b hb=>eH1 b (by rw [eq1]; simp [hb]));have eL1:=oL eo2;refine am (sV Z (aA bB bX Z Z ee1 k ω ω) (sV Z (aj bT Z bX Z Z ec1) (bM ah Z zeroValue123 eP1 (fun b2 w4 e3 g2 H4=>aR ah bX Z Z Z Z H4 1 Z Z (fun w5 e4 H5=>?_)))));dsimp only[lNA,lCA,lSZ,lSS,aF] at H5;refine aa (ac (sF bT Z dd (sLd aU (H5.box 1 Z) Z (sV Z (aO aU Z) (sM Z Z (aa (au (bU (γ:=Nat) H5 [(1,_),(12,_),(13,_),(14,_),(19,_),(20,_)] ⟨Z,Z,Z,Z,Z,Z,trivial⟩ (fun k2=>[(21,.int .i64 k2)]) (fun k2=>k2≤(z.Tapes.getD k default).Recs.length∧dr z.Shape (z.Tapes.getD k default).Recs k2=0) (fun k2=>(z.Tapes.getD k default).Recs.length-k2) 0 ⟨Z,trivial⟩ ⟨ω,Z⟩ (fun k2 w6 H6 ⟨hk2,hk2z⟩=>?_)))))))));dsimp only[lCA,lNA];refine ac (sV Z (bg Z Z) (aa (ae (az Z (fun c3=>?_) (fun c3=>?_)))))
   ·refine ar (ae (au (ae ?_)));obtain ⟨eb2,eo3,es2,ef2,ee2,ec2,eO2,eH2,em2⟩:=bC (H6.seen 3 Z) k2 ω;obtain ⟨ea2,ek2,ea3,ek3,ea4,ek4,eg2,eg3,eg4,rfl,eq2,eK2,eo4,eo5,eo6⟩:=bS eO2;have eK2U:=eK2;unfold Rec.Ok at eK2U
    try unfold I64ok at eK2U
    try unfold maxLen at eK2U
    have eP2:=H6.look1 3 Z eo4 (fun b hb=>eH2 b (by rw [eq2]; simp [hb]));have eL2:=oL eo4;have eP3:=eP2.look1 3 Z eo5 (fun b hb=>eH2 b (by rw [eq2]; simp [hb]));have eL3:=oL eo5;have eP4:=eP3.look1 3 Z eo6 (fun b hb=>eH2 b (by rw [eq2]; simp [hb]));have eL4:=oL eo6;refine am (sV Z (aA aU aJ Z Z ee2 k2 ω ω) (sV Z (aj ax Z aJ Z Z ec2) (bM ah Z zeroValue47 eP4 (fun b3 w7 e5 g3 H7=>aR ah aJ Z Z Z Z H7 2 Z Z (fun w8 e6 H8=>?_)))));dsimp only[lNA,lCA,lSZ,lSS,aF] at H8;refine aa (ac (sF aP Z bp (sV Z (aj bb Z bp Z Z (At.sub (H8.box 0 Z) 9)) (sV Z (aj ax Z aJ Z Z (At.whole (H8.box 2 Z))) (sE func70 vN Z (lL η (H8.sees 4 Z) (H8.sees 5 Z) (H8.sees 6 Z) η) H8 (fun w9 e7 H9=>sA Z Z (aa (ac (sR 2 Z (aa (az Z (fun c4=>?_) (fun c4=>?_))))))))))))
    ·refine ac (sR 2 Z (rN hQ results88 Z ?_));exact ⟨H9.ext,congrArg (Value.int .i64) ((ly cM (k:=k) (k2:=k2) ω hkz ω hk2z ω)).symm⟩
    ·refine ar (am (sV Z (aE Z Z iO) (sM Z Z (aa (⟨k2+1,⟨Z,Z,Z,Z,Z,Z,Z,trivial⟩,⟨((H9.ftake 4).dtake 2),ω,(ff hk2z).trans ω⟩,θ⟩)))))
   ·refine aW (am (sV Z (aE Z Z iO) (sM Z Z (aa ?_))));obtain rfl:k2=(z.Tapes.getD k default).Recs.length:=by omega
    refine ⟨k+1,⟨Z,Z,Z,Z,trivial⟩,⟨((H6.ftake 3).dtake 1),ω,(eH hkz).trans hk2z⟩,θ⟩
  ·refine aW (ae (ae ?_));obtain rfl:k=z.Tapes.length:=by omega
   have hAll:=hkz;refine am (sF aP Z cI (sLd bB (H3.box 0 Z) Z (sE func164 pg Z (fG (H3.sees 2 Z) (p:=cj) func166 Z tb (fun w1 e1 i0 hi0 _ _ K0 o0_1=>jy K0 o0_1)) H3 (fun w10 e8 H10=>aa (cK Z (fun c5=>?_) (fun c5=>?_))))))
   ·refine ac (rA hQ results88 Z ?_);exact ⟨H10.ext,congrArg (Value.int .i64) (kv cM hAll c5).symm⟩
   ·refine ar (ac (rA hQ results88 Z ?_));exact ⟨H10.ext,congrArg (Value.int .i64) (kH cM hAll c5).symm⟩
end Go.Wk
namespace Go.Wk
open Go.Proofs Rp Go.Proofs.Tryz
set_option maxRecDepth 10000
set_option maxHeartbeats 1000000 in
theorem mx {w:World}{z:Wld}{zA9 zA10 zA11:Option Addr}{zC9 zC10 zC11:Nat}(zK:z.Ok) (zS9:Sees w [.slice zA9 z.Groups.length zC9] z.Groups) (zS10:Sees w [.slice zA10 z.On.length zC10] z.On) (zS11:Sees w [.slice zA11 z.Tapes.length zC11] z.Tapes) (hs:z.Shape.ok=true):Ret Tryz.prog 184 #[z.val zA9 zC9 zA10 zC10 zA11 zC11] w fun v w'=>Ext No w w'∧(v = .bool (db z)):=by
 have zK2:=zK;unfold Wld.Ok Shape.Ok at zK2
 try unfold I64ok at zK2
 try unfold maxLen at zK2
 have zL9:=sL zS9;obtain ⟨zF9,zO9⟩:=zS9;have zL10:=sL zS10;obtain ⟨zF10,zO10⟩:=zS10;have zL11:=sL zS11;obtain ⟨zF11,zO11⟩:=zS11;have sbd:=bk hs;refine aS func184 Z ntmps184 Z (fun Q hQ hN=>?_);have H0:=Sep.start (ak zO9 (ak zO10 (ak zO11 aG)));refine ac (bt ah Z Z H0 (fun b1 w1 e1 g1 H1=>sA Z Z (aa (ac (sF aP Z bp (sV Z (aj bb Z bp Z Z (At.sub (H1.box 0 Z) 9)) (bM ah Z zeroValue30 H1 (fun b2 w2 e2 g2 H2=>aR ah bp Z Z Z Z H2 1 Z Z (fun w3 e3 H3=>?_)))))))));dsimp only[lNA,lCA,lSZ,lSS,aF] at H3;refine aa (ae (ae (bx (S:=Ext No _) (oQ [1,3,5,7,8,10]) κ κ κ Z (fun _=>Ext.refl.drawn _) (fun q1=>?_))));have H4:=H3.drawn q1;refine dV Z Z (fun zw hx=>ab aP Z dB Z Z) (dV Z Z (fun zw hx=>ag cv Z Z (al (hx.heap (H4.box 0 Z)) Z)) (dV Z Z (fun zw hx=>aO cv Z) (dV Z Z (fun zw hx=>aj bb Z bp Z Z (At.whole (hx.heap (H4.box 1 Z)))) (dC func116 cr Z (bH η) (fun v1 w4 r1=>?_)))));obtain ⟨e4,rfl⟩:=r1;have H5:=H4.to e4;refine aV Z ah Z Z (cn Z Z) (aT (az Z (fun c1=>?_) (fun c1=>?_)))
 ·refine ac (rA hQ results184 Z ?_);exact ⟨H5.ext,congrArg Value.bool (lZ ω).symm⟩
 ·refine ar (ae (ac (sA Z Z (aa (au (bU (γ:=Nat) H5 [(1,_),(3,_)] ⟨Z,Z,trivial⟩ (fun k=>[(4,.int .i64 k)]) (fun k=>k≤z.Groups.length∧(∀ i,i<k→fL z.Shape (z.Groups.getD i [])=true)) (fun k=>z.Groups.length-k) 0 ⟨Z,trivial⟩ ⟨ω,fun i hi=>by omega⟩ (fun k w5 H6 ⟨hk,he⟩=>?_)))))));dsimp only[lCA,lNA];refine ae (ac (sM Z Z (sF aP Z dB (sLd cv (H6.box 0 Z) Z (sV Z (aO cv Z) (sV Z (bg Z Z) (aa (az Z (fun c2=>?_) (fun c2=>?_)))))))))
  ·refine ar (ae (au (ae (ae ?_))));obtain ⟨eb1,eo1,ea1,ek1,ef1,ee1,ec1,eO1,eH1⟩:=gp (H6.seen 0 Z) k ω;have eP1:=H6.look1 0 Z eO1 eH1;refine bx (S:=Ext No _) (oQ [1,3,5,7,9,11,13,14,16]) κ κ κ Z (fun _=>Ext.refl.drawn _) (fun q2=>?_);have H7:=eP1.drawn q2;refine dV Z Z (fun zw hx=>ab aP Z dB Z Z) (dV Z Z (fun zw hx=>ag cv Z Z (al (hx.heap (H7.box 0 Z)) Z)) (dM Z Z Z (dV Z Z (fun zw hx=>aA cv iT Z Z ee1 k ω ω) (dV Z Z (fun zw hx=>ag dm Z Z (hx.cell ec1)) (dV Z Z (fun zw hx=>aO dm Z) (dV Z Z (fun zw hx=>aj bb Z bp Z Z (At.whole (hx.heap (H7.box 1 Z)))) (dC func216 lQ Z (fl η) (fun v2 w6 r2=>?_))))))));obtain ⟨e5,rfl⟩:=r2;have H8:=H7.to e5;refine aV Z ah Z Z (cn Z Z) (aT (az Z (fun c3=>?_) (fun c3=>?_)))
   ·refine ac (rA hQ results184 Z ?_);exact ⟨H8.ext,congrArg Value.bool (fB k ω (ny ω)).symm⟩
   ·refine ar (ac (sA Z Z (aa (au (bU (γ:=Nat) H8 [(1,_),(3,_),(4,_)] ⟨Z,Z,Z,trivial⟩ (fun k2=>[(5,.int .i64 k2)]) (fun k2=>k2≤(z.Groups.getD k []).length∧(∀ i,i<k2→dU z.Shape ((z.Groups.getD k []).getD i default)=true)) (fun k2=>(z.Groups.getD k []).length-k2) 0 ⟨Z,trivial⟩ ⟨ω,fun i hi=>by omega⟩ (fun k2 w7 H9 ⟨hk2,hek2⟩=>?_))))));dsimp only[lCA,lNA];refine ae (ae ?_);obtain ⟨eb2,eo2,ea2,ek2,ef2,ee2,ec2,eO2,eH2⟩:=gp (H9.seen 0 Z) k ω;have eP2:=H9.look1 0 Z eO2 eH2;refine am (sM Z Z (sF aP Z dB (sLd cv (eP2.box 0 Z) Z (sM Z Z (sV Z (aA cv iT Z Z ee2 k ω ω) (sV Z (ag dm Z Z ec2) (sV Z (aO dm Z) (sV Z (bg Z Z) (aa (az Z (fun c4=>?_) (fun c4=>?_)))))))))))
    ·refine ar (ae (au (ae ?_)));obtain ⟨eb3,eo3,ea3,ek3,ef3,ee3,ec3,eO3,eH3⟩:=gp (eP2.seen 0 Z) k ω;have eP3:=eP2.look1 0 Z eO3 eH3;obtain ⟨eb4,eo4,es1,ef4,ee4,ec4,eO4,eH4,em1⟩:=bC (eP3.seen 5 Z) k2 ω;obtain ⟨ea4,ek4,eg1,rfl,eq1,eK1,eo5⟩:=gd eO4;have eP4:=eP3.look1 5 Z eo5 (fun b hb=>eH4 b (by rw [eq1]; simp [hb]));have eL1:=oL eo5;refine am (sF aP Z dB (sLd cv (eP4.box 0 Z) Z (sM Z Z (sV Z (aA cv iT Z Z ee3 k ω ω) (sV Z (ag dm Z Z ec3) (sM Z Z (sV Z (aA dm fJ Z Z ee4 k2 ω ω) (sF gw Z jV (sV Z (ag fb Z Z (bu ec4 1 Z)) (sA Z Z (aa (ae (ac (sM Z Z (sV Z (aO fb Z) (sF bb Z ts2 (sLd tu2 (eP4.box 1 Z) Z (sV Z (cn Z Z) (aa (az Z (fun c5=>?_) (fun c5=>?_)))))))))))))))))))))
     ·refine ac (rA hQ results184 Z ?_);exact ⟨eP4.ext,congrArg Value.bool (fB k ω (jB k2 ω (nt ω))).symm⟩
     ·refine ar (ac (sA Z Z (aa (au (bU (γ:=Nat) eP4 [(1,_),(3,_),(4,_),(5,_),(6,_)] ⟨Z,Z,Z,Z,Z,trivial⟩ (fun k3=>[(7,.int .i64 k3)]) (fun k3=>k3≤((z.Groups.getD k []).getD k2 default).Blocks.length∧(∀ i,i<k3→eu (((z.Groups.getD k []).getD k2 default).Blocks.getD i default)=true)) (fun k3=>((z.Groups.getD k []).getD k2 default).Blocks.length-k3) 0 ⟨Z,trivial⟩ ⟨ω,fun i hi=>by omega⟩ (fun k3 w8 H10 ⟨hk3,hek3⟩=>?_))))));dsimp only[lCA,lNA];refine ae (ac (sR 2 Z (sV Z (aO fb Z) (sV Z (bg Z Z) (aa (az Z (fun c6=>?_) (fun c6=>?_)))))))
      ·refine ar (ae (au (ae ?_)));obtain ⟨eb5,eo6,es2,ef5,ee5,ec5,eO5,eH5,em2⟩:=bC (H10.seen 6 Z) k3 ω;obtain ⟨ea5,ek5,eg2,rfl,eq2,eK2,eo7⟩:=jc eO5;have eK2U:=eK2;unfold Block.Ok at eK2U
       try unfold I64ok at eK2U
       try unfold maxLen at eK2U
       have eP5:=H10.look1 6 Z eo7 (fun b hb=>eH5 b (by rw [eq2]; simp [hb]));have eL2:=oL eo7;refine am (sR 2 Z (sV Z (aA fb jP Z Z ee5 k3 ω ω) (sF lh Z ts2 (sV Z (ag tu2 Z Z (bu ec5 0 Z)) (sE func121 bO Z bi eP5 (fun w9 e6 H11=>sV Z (bl Z) (sM Z Z (bN 7 (j:=7) (want:=false) (t:=76) Z Z Z Z (fun hg1 kk1=>an (wgE Z Z Z hg1) Z Z (aN Z) (an (wgE Z Z Z hg1) Z Z (aN Z) (an (wgE Z Z Z hg1) Z Z (aA fb jP Z Z ee5 k3 (by first | omega | (simp only [Bool.or_eq_false_iff,Bool.and_eq_true,Bool.and_eq_false_iff,Bool.or_eq_true,Bool.not_eq_true',Bool.not_eq_false',decide_eq_true_eq,decide_eq_false_iff_not] at hg1; omega)) ω) (an (wgE Z Z Z hg1) Z Z (ab lh Z bc Z Z) (an (wgE Z Z Z hg1) Z Z (ag bz Z Z (bu (e6.at ec5) 1 Z)) (an (wgE Z Z Z hg1) Z Z (aO bz Z) (an (wgE Z Z Z hg1) Z Z (cn Z Z) (kk1 _ _ (kx Z (kx Z (kx Z (kx Z (kx Z (kx Z (kx Z k0))))))) Z Ext.refl)))))))) (fun w10 e7=>?_)))))))));have H12:=H11.to e7;refine sV Z (ex Z Z) (aa (cK Z (fun c7=>?_) (fun c7=>?_)))
       ·refine ac (rA hQ results184 Z ?_);exact ⟨H12.ext,congrArg Value.bool (fB k ω (jB k2 ω (tj k3 ω (tt c7)))).symm⟩
       ·refine ar (am (sM Z Z (sV Z (aE Z Z iO) (sA Z Z (aa (⟨k3+1,⟨Z,Z,Z,Z,Z,Z,trivial⟩,⟨(H12.ftake 7),ω,fun i hi=>?_⟩,θ⟩))))))
        by_cases e:i=k3
        ·subst e;exact rU η
        ·exact hek3 i ω
      ·refine aW (am (sM Z Z (sV Z (aE Z Z iO) (sA Z Z (aa (⟨k2+1,⟨Z,Z,Z,Z,trivial⟩,⟨(H10.ftake 4),ω,fun i hi=>?_⟩,θ⟩))))))
       by_cases e:i=k2
       ·subst e;exact rr ω (fun i hi=>hek3 i ω)
       ·exact hek2 i ω
    ·refine aW (am (sM Z Z (sV Z (aE Z Z iO) (sA Z Z (aa (⟨k+1,⟨Z,Z,Z,trivial⟩,⟨(eP2.ftake 3),ω,fun i hi=>?_⟩,θ⟩))))))
     by_cases e:i=k
     ·subst e;exact nD ω (fun i hi=>hek2 i ω)
     ·exact he i ω
  ·refine aW (ac (rA hQ results184 Z ?_));exact ⟨H6.ext,congrArg Value.bool (mI ω (fun i hi=>he i ω)).symm⟩
theorem dD {w:World}{z:Wld}{zA9 zA10 zA11:Option Addr}{zC9 zC10 zC11:Nat}(zK:z.Ok) (zS9:Sees w [.slice zA9 z.Groups.length zC9] z.Groups) (zS10:Sees w [.slice zA10 z.On.length zC10] z.On) (zS11:Sees w [.slice zA11 z.Tapes.length zC11] z.Tapes):Ret Tryz.prog 29 #[z.val zA9 zC9 zA10 zC10 zA11 zC11] w fun v w'=>Ext No w w'∧(v = .int .i64 (bV z)):=by
 have zK2:=zK;unfold Wld.Ok Shape.Ok at zK2
 try unfold I64ok at zK2
 try unfold maxLen at zK2
 have zL9:=sL zS9;obtain ⟨zF9,zO9⟩:=zS9;have zL10:=sL zS10;obtain ⟨zF10,zO10⟩:=zS10;have zL11:=sL zS11;obtain ⟨zF11,zO11⟩:=zS11;refine aS func29 Z ntmps29 Z (fun Q hQ hN=>?_);have H0:=Sep.start (ak zO9 (ak zO10 (ak zO11 aG)));refine ac (bt ah Z Z H0 (fun b1 w1 e1 g1 H1=>sA Z Z (aa (ae (ac (sF aP Z bp (sV Z (aj bb Z bp Z Z (At.sub (H1.box 0 Z) 9)) (sE func85 wm Z km H1 (fun w2 e2 H2=>sA Z Z (aa (ac (sR 2 Z (aa (az Z (fun c1=>?_) (fun c1=>?_)))))))))))))))
 ·refine ac (sR 2 Z (rN hQ results29 Z ?_));exact ⟨H2.ext,congrArg (Value.int .i64) (if_pos ω).symm⟩
 ·refine ar (ae (ae ?_));have hs:=fa (s:=z.Shape) ω;refine am (sV Z (aj aP Z bP Z Z (At.whole (H2.box 0 Z))) (sE func86 vP Z (lS η (H2.sees 0 Z) (H2.sees 1 Z) (H2.sees 2 Z) η) H2 (fun w3 e3 H3=>sV Z (bl Z) (sM Z Z (co (t:=14) Z (fun hg1=>?_) (fun hg1=>?_))))))
  ·try simp only [decide_eq_true_eq,decide_eq_false_iff_not] at hg1
   refine sR 3 Z (sV Z (aD Z Z) (sR 5 Z (sV Z (aD Z Z) (aa (dl Z (ac (rA hQ results29 Z ?_)))))));exact ⟨H3.ext,congrArg (Value.int .i64) ((if_neg ω).trans (if_neg (by simp_all<;>omega))).symm⟩
  ·try simp only [decide_eq_true_eq,decide_eq_false_iff_not] at hg1
   refine an (wg Z Z Z) Z Z (aj aP Z bP Z Z (At.whole (H3.box 0 Z))) (cW (wg Z Z Z) Z Z (aQ func87 Z wo Z) (oY η (H3.sees 0 Z) (H3.sees 1 Z) (H3.sees 2 Z) η) (fun v3 w4 r3=>?_));obtain ⟨e4,rfl⟩:=r3;have H4:=H3.to e4;refine an (wg Z Z Z) Z Z (bl Z) (sV Z (aH Z Z) (sM Z Z (co (t:=19) Z (fun hg2=>?_) (fun hg2=>?_))))
   ·try simp only [decide_eq_true_eq,decide_eq_false_iff_not] at hg2
    refine sR 4 Z (sV Z (aD Z Z) (aa (dl Z (ac (rA hQ results29 Z ?_)))));exact ⟨H4.ext,congrArg (Value.int .i64) ((if_neg ω).trans (if_neg (by simp_all<;>omega))).symm⟩
   ·try simp only [decide_eq_true_eq,decide_eq_false_iff_not] at hg2
    refine an (wg Z Z Z) Z Z (ab aP Z cI Z Z) (an (wg Z Z Z) Z Z (ag bB Z Z (al (H4.box 0 Z) Z)) (an (wg Z Z Z) Z Z (aO bB Z) (an (wg Z Z Z) Z Z (cn Z Z) (sV Z (aH Z Z) (aa (az Z (fun c2=>?_) (fun c2=>?_)))))))
    ·refine ac (rA hQ results29 Z ?_);exact ⟨H4.ext,congrArg (Value.int .i64) ((if_neg ω).trans (if_neg (by simp_all<;>omega))).symm⟩
    ·refine ar (ae (ac (sV Z (aj aP Z bP Z Z (At.whole (H4.box 0 Z))) (sE func88 ww Z (kp η (H4.sees 0 Z) (H4.sees 1 Z) (H4.sees 2 Z) η) H4 (fun w5 e5 H5=>sA Z Z (aa (ac (sR 2 Z (aa (az Z (fun c3=>?_) (fun c3=>?_)))))))))))
     ·refine ac (sR 2 Z (rN hQ results29 Z ?_));exact ⟨H5.ext,congrArg (Value.int .i64) ((if_neg ω).trans ((if_pos (by simp_all<;>omega)).trans (if_pos ω))).symm⟩
     ·refine ar (ae (ac (sF aP Z ts2 (sLd tu2 (H5.box 0 Z) Z (sE func77 cl Z bf H5 (fun w6 e6 H6=>sV Z (bl Z) (sM Z Z (co (t:=34) Z (fun hg3=>?_) (fun hg3=>?_)))))))))
      ·try simp only [decide_eq_true_eq,decide_eq_false_iff_not] at hg3
       refine sR 4 Z (sV Z (aD Z Z) (aa (dl Z (ac (rA hQ results29 Z ?_)))));exact ⟨H6.ext,congrArg (Value.int .i64) ((if_neg ω).trans ((if_pos (by simp_all<;>omega)).trans ((if_neg ω).trans (if_neg (by simp_all<;>omega))))).symm⟩
      ·try simp only [decide_eq_true_eq,decide_eq_false_iff_not] at hg3
       refine an (wg Z Z Z) Z Z (ab aP Z ts2 Z Z) (an (wg Z Z Z) Z Z (ag tu2 Z Z (al (H6.box 0 Z) Z)) (cW (wg Z Z Z) Z Z (aQ func77 Z cl Z) bf (fun v6 w7 r6=>?_)));obtain ⟨e7,rfl⟩:=r6;have H7:=H6.to e7;refine an (wg Z Z Z) Z Z (bl Z) (sV Z (aH Z Z) (aa (cK Z (fun c4=>?_) (fun c4=>?_))))
       ·refine ac (rA hQ results29 Z ?_);exact ⟨H7.ext,congrArg (Value.int .i64) ((if_neg ω).trans ((if_pos (by simp_all<;>omega)).trans ((if_neg ω).trans (if_neg (by simp_all<;>omega))))).symm⟩
       ·refine ar (ac (rA hQ results29 Z ?_));exact ⟨H7.ext,congrArg (Value.int .i64) ((if_neg ω).trans ((if_pos (by simp_all<;>omega)).trans ((if_neg ω).trans (if_pos (by simp_all<;>omega))))).symm⟩
theorem iy {w:World}{z:Wld}{zA9 zA10 zA11:Option Addr}{zC9 zC10 zC11:Nat}(zK:z.Ok) (zS9:Sees w [.slice zA9 z.Groups.length zC9] z.Groups) (zS10:Sees w [.slice zA10 z.On.length zC10] z.On) (zS11:Sees w [.slice zA11 z.Tapes.length zC11] z.Tapes):Ret Tryz.prog 48 #[z.val zA9 zC9 zA10 zC10 zA11 zC11] w fun v w'=>Ext No w w'∧(v = .int .i64 (upF z)):=by
 have zK2:=zK;unfold Wld.Ok Shape.Ok at zK2
 try unfold I64ok at zK2
 try unfold maxLen at zK2
 have zL9:=sL zS9;obtain ⟨zF9,zO9⟩:=zS9;have zL10:=sL zS10;obtain ⟨zF10,zO10⟩:=zS10;have zL11:=sL zS11;obtain ⟨zF11,zO11⟩:=zS11;refine aS func48 Z ntmps48 Z (fun Q hQ hN=>?_);have H0:=Sep.start (ak zO9 (ak zO10 (ak zO11 aG)));refine ac (bt ah Z Z H0 (fun b1 w1 e1 g1 H1=>sA Z Z (aa (ae (ac (sV Z (aj aP Z bP Z Z (At.whole (H1.box 0 Z))) (sE func29 kT Z (dD η (H1.sees 0 Z) (H1.sees 1 Z) (H1.sees 2 Z)) H1 (fun w2 e2 H2=>sA Z Z (aa (ac (sR 2 Z (aa (az Z (fun c1=>?_) (fun c1=>?_))))))))))))))
 ·refine ac (sR 2 Z (rN hQ results48 Z ?_));exact ⟨H2.ext,congrArg (Value.int .i64) (if_pos ω).symm⟩
 ·refine ar (ae (ac (sF aP Z ts4 (sLd tu4 (H2.box 0 Z) Z (aa (cK Z (fun c2=>?_) (fun c2=>?_)))))))
  ·refine ac (rA hQ results48 Z ?_);exact ⟨H2.ext,congrArg (Value.int .i64) ((if_neg ω).trans (if_pos η)).symm⟩
  ·refine ar (ac (rA hQ results48 Z ?_));exact ⟨H2.ext,congrArg (Value.int .i64) ((if_neg ω).trans (if_neg (by simp_all<;>omega))).symm⟩
set_option maxHeartbeats 1000000 in
theorem eC {w:World}{z:Wld}{zA9 zA10 zA11:Option Addr}{zC9 zC10 zC11:Nat}(zK:z.Ok) (zS9:Sees w [.slice zA9 z.Groups.length zC9] z.Groups) (zS10:Sees w [.slice zA10 z.On.length zC10] z.On) (zS11:Sees w [.slice zA11 z.Tapes.length zC11] z.Tapes):Ret Tryz.prog 97 #[z.val zA9 zC9 zA10 zC10 zA11 zC11] w fun v w'=>Ext No w w'∧(v = .int .i64 (bV z)):=by
 have zK2:=zK;unfold Wld.Ok Shape.Ok at zK2
 try unfold I64ok at zK2
 try unfold maxLen at zK2
 have zL9:=sL zS9;obtain ⟨zF9,zO9⟩:=zS9;have zL10:=sL zS10;obtain ⟨zF10,zO10⟩:=zS10;have zL11:=sL zS11;obtain ⟨zF11,zO11⟩:=zS11;refine aS func97 Z ntmps97 Z (fun Q hQ hN=>?_);have H0:=Sep.start (ak zO9 (ak zO10 (ak zO11 aG)));refine ac (bt ah Z Z H0 (fun b1 w1 e1 g1 H1=>sA Z Z (aa (ae (ac (sF aP Z bp (sV Z (aj bb Z bp Z Z (At.sub (H1.box 0 Z) 9)) (sE func63 mW Z eL H1 (fun w2 e2 H2=>sA Z Z (aa (ac (sR 2 Z (aa (az Z (fun c1=>?_) (fun c1=>?_)))))))))))))))
 ·refine ac (sR 2 Z (rN hQ results97 Z ?_));exact ⟨H2.ext,congrArg (Value.int .i64) (if_pos ω).symm⟩
 ·refine ar (ae (ae ?_));have hs:=fa (s:=z.Shape) ω;have sbd:=bk hs;refine bx (S:=Ext No _) (oQ [1,2,5,7,9,11,13,15,16,19,20,23,25,27,29,31,33,35,37,39,41,43,45,47,49,51,53,55,57,59,61,63,65,67,69,71,73,74]) κ κ κ Z (fun _=>Ext.refl.drawn _) (fun q1=>?_);have H3:=H2.drawn q1;refine dV Z Z (fun zw hx=>aj aP Z bP Z Z (At.whole (hx.heap (H3.box 0 Z)))) (dC func184 sX Z (mx η (H3.sees 0 Z) (H3.sees 1 Z) (H3.sees 2 Z) η) (fun v2 w3 r2=>?_));obtain ⟨e3,rfl⟩:=r2;have H4:=H3.to e3;refine dV Z Z (fun zw hx=>bl Z) (dM Z Z Z (bZ (t:=17) Z (fun hg1=>?_) (fun hg1=>?_)))
  ·try simp only [decide_eq_true_eq,decide_eq_false_iff_not] at hg1
   refine dR 8 Z (dV Z Z (fun zw hx=>aD Z Z) (dR 8 Z (dV Z Z (fun zw hx=>aD Z Z) (dR 4 Z (ca Z (wou Z Z Z) Z Z (ca Z (wou Z Z Z) Z Z (ca Z (wou Z Z Z) Z Z (ca Z (wou Z Z Z) Z Z (dKt Z Z Z Z (dV Z Z (fun zw hx=>aD Z Z) (dR 5 Z (aV Z ah Z Z (aD Z Z) (aT (dl Z (ac (rA hQ results97 Z ?_))))))))))))))));exact ⟨H4.ext,congrArg (Value.int .i64) ((if_neg ω).trans (if_neg (by rw [← iH]; first | (simp_all<;>omega) | (cases hh:z.On<;>simp_all<;>omega)))).symm⟩
  ·try simp only [decide_eq_true_eq,decide_eq_false_iff_not] at hg1
   refine aC Z (wg Z Z Z) Z Z (fun zw hx=>ab aP Z bI Z Z) (aC Z (wg Z Z Z) Z Z (fun zw hx=>ag bd Z Z (al (hx.heap (H3.box 0 Z)) Z)) (aC Z (wg Z Z Z) Z Z (fun zw hx=>ab aP Z bp Z Z) (aC Z (wg Z Z Z) Z Z (fun zw hx=>aj bb Z bp Z Z (At.sub (hx.heap (H3.box 0 Z)) 9)) (bD Z (wg Z Z Z) Z Z (aQ func116 Z cr Z) (bH η) (fun hS _ _ r _=>hS.trans r.1.no) (fun v3 w4 r3=>?_)))));obtain ⟨e4,rfl⟩:=r3;have H5:=H4.to e4;refine aC Z (wg Z Z Z) Z Z (fun zw hx=>bG Z Z iO) (bD Z (wg Z Z Z) Z Z (aQ func185 Z oO Z) (iA (H5.sees 1 Z)) (fun hS _ _ r _=>hS.trans r.1.no) (fun v4 w5 r4=>?_));obtain ⟨e5,rfl⟩:=r4;have H6:=H5.to e5;refine aC Z (wg Z Z Z) Z Z (fun zw hx=>bl Z) (dV Z Z (fun zw hx=>aH Z Z) (dM Z Z Z (bZ (t:=27) Z (fun hg2=>?_) (fun hg2=>?_))))
   ·try simp only [decide_eq_true_eq,decide_eq_false_iff_not] at hg2
    refine dR 7 Z (dV Z Z (fun zw hx=>aD Z Z) (dR 4 Z (ca Z (wou Z Z Z) Z Z (ca Z (wou Z Z Z) Z Z (ca Z (wou Z Z Z) Z Z (ca Z (wou Z Z Z) Z Z (dKt Z Z Z Z (dV Z Z (fun zw hx=>aD Z Z) (dR 5 Z (aV Z ah Z Z (aD Z Z) (aT (dl Z (ac (rA hQ results97 Z ?_))))))))))))));exact ⟨H6.ext,congrArg (Value.int .i64) ((if_neg ω).trans (if_neg (by rw [← iH]; first | (simp_all<;>omega) | (cases hh:z.On<;>simp_all<;>omega)))).symm⟩
   ·try simp only [decide_eq_true_eq,decide_eq_false_iff_not] at hg2
    refine aC Z (wg Z Z Z) Z Z (fun zw hx=>ab aP Z bI Z Z) (aC Z (wg Z Z Z) Z Z (fun zw hx=>ag bd Z Z (al (hx.heap (H3.box 0 Z)) Z)) (aC Z (wg Z Z Z) Z Z (fun zw hx=>aO bd Z) (aC Z (wg Z Z Z) Z Z (fun zw hx=>ab aP Z bp Z Z) (aC Z (wg Z Z Z) Z Z (fun zw hx=>ab bb Z ts2 Z Z) (aC Z (wg Z Z Z) Z Z (fun zw hx=>ag tu2 Z Z (al (hx.heap (H3.box 0 Z)) Z)) (aC Z (wg Z Z Z) Z Z (fun zw hx=>dv Z Z) (dV Z Z (fun zw hx=>aH Z Z) (dM Z Z Z (bZ (t:=36) Z (fun hg3=>?_) (fun hg3=>?_))))))))))
    ·try simp only [decide_eq_true_eq,decide_eq_false_iff_not] at hg3
     refine dR 3 Z (ca Z (wou Z Z Z) Z Z (ca Z (wou Z Z Z) Z Z (ca Z (wou Z Z Z) Z Z (ca Z (wou Z Z Z) Z Z (dKt Z Z Z Z (dV Z Z (fun zw hx=>aD Z Z) (dR 5 Z (aV Z ah Z Z (aD Z Z) (aT (dl Z (ac (rA hQ results97 Z ?_))))))))))));exact ⟨H6.ext,congrArg (Value.int .i64) ((if_neg ω).trans (if_neg (by rw [← iH]; first | (simp_all<;>omega) | (cases hh:z.On<;>simp_all<;>omega)))).symm⟩
    ·try simp only [decide_eq_true_eq,decide_eq_false_iff_not] at hg3
     refine aC Z (wg Z Z Z) Z Z (fun zw hx=>ab aP Z ts4 Z Z) (aC Z (wg Z Z Z) Z Z (fun zw hx=>ag tu4 Z Z (al (hx.heap (H3.box 0 Z)) Z)) (aC Z (wg Z Z Z) Z Z (fun zw hx=>aN Z) (bZ (t:=39) Z (fun hg4=>?_) (fun hg4=>?_))))
     ·try simp only [decide_eq_true_eq,decide_eq_false_iff_not] at hg4
      refine aC Z (wg Z Z Z) Z Z (fun zw hx=>ab aP Z bI Z Z) (aC Z (wg Z Z Z) Z Z (fun zw hx=>ag bd Z Z (al (hx.heap (H3.box 0 Z)) Z)) (aC Z (wg Z Z Z) Z Z (fun zw hx=>aO bd Z) (aC Z (wg Z Z Z) Z Z (fun zw hx=>dv Z Z) (aC Z (wg Z Z Z) Z Z (fun zw hx=>aD Z Z) (dV Z Z (fun zw hx=>aH Z Z) (dM Z Z Z (bZ (t:=46) Z (fun hg5=>?_) (fun hg5=>?_))))))))
      ·try simp only [decide_eq_true_eq,decide_eq_false_iff_not] at hg5
       refine dR 4 Z (aV Z ah Z Z (aD Z Z) (aT (dl Z (ac (rA hQ results97 Z ?_)))));exact ⟨H6.ext,congrArg (Value.int .i64) ((if_neg ω).trans (if_neg (by rw [← iH]; first | (simp_all<;>omega) | (cases hh:z.On<;>simp_all<;>omega)))).symm⟩
      ·try simp only [decide_eq_true_eq,decide_eq_false_iff_not] at hg5
       refine aC Z (wg Z Z Z) Z Z (fun zw hx=>ab aP Z cI Z Z) (aC Z (wg Z Z Z) Z Z (fun zw hx=>ag bB Z Z (al (hx.heap (H3.box 0 Z)) Z)) (aC Z (wg Z Z Z) Z Z (fun zw hx=>aO bB Z) (aC Z (wg Z Z Z) Z Z (fun zw hx=>cn Z Z) (aV Z ah Z Z (aH Z Z) (aT (az Z (fun c2=>?_) (fun c2=>?_)))))))
       ·refine ac (rA hQ results97 Z ?_);exact ⟨H6.ext,congrArg (Value.int .i64) ((if_neg ω).trans (if_neg (by rw [← iH]; first | (simp_all<;>omega) | (cases hh:z.On<;>simp_all<;>omega)))).symm⟩
       ·refine ar (ae (ae ?_));have hF:(db z && mZ z && decide (z.Tapes.length=2))=true:=by rw [← iH]; simp_all<;>omega
        have h2:z.Tapes.length=2:=by simp_all<;>omega
        obtain ⟨eb1,eo1,es1,ef1,ee1,ec1,eO1,eH1,em1⟩:=bC (H6.seen 2 Z) 0 ω;obtain ⟨ea1,ek1,eg1,rfl,eq1,eK1,eo2⟩:=cL eO1;have eP1:=H6.look1 2 Z eo2 (fun b hb=>eH1 b (by rw [eq1]; simp [hb]));have eL1:=oL eo2;refine am (sF aP Z cI (sLd bB (eP1.box 0 Z) Z (sV Z (aA bB bX Z Z ee1 0 ω ω) (sF bT Z dd (sV Z (ag aU Z Z (bu ec1 1 Z)) (sV Z (aO aU Z) (sR 2 Z (co (t:=59) Z (fun hg6=>?_) (fun hg6=>?_)))))))))
        ·try simp only [decide_eq_true_eq,decide_eq_false_iff_not] at hg6
         refine sR 7 Z (sV Z (aD Z Z) (aa (dl Z (ae ?_))));have tq:=gy (z:=z) (nS h2 (by simp only [cx]; simp_all<;>omega));refine am (rA hQ results97 Z ?_);exact ⟨eP1.ext,congrArg (Value.int .i64) ((if_neg ω).trans ((if_pos hF).trans ((if_pos ω).trans tq))).symm⟩
        ·try simp only [decide_eq_true_eq,decide_eq_false_iff_not] at hg6
         refine an (wg Z Z Z) Z Z (ab aP Z cI Z Z) (an (wg Z Z Z) Z Z (ag bB Z Z (al (eP1.box 0 Z) Z)) ?_);obtain ⟨eb2,eo3,es2,ef2,ee2,ec2,eO2,eH2,em2⟩:=bC (eP1.seen 2 Z) 1 ω;obtain ⟨ea2,ek2,eg2,rfl,eq2,eK2,eo4⟩:=cL eO2;have eP2:=eP1.look1 2 Z eo4 (fun b hb=>eH2 b (by rw [eq2]; simp [hb]));have eL2:=oL eo4;refine an (wg Z Z Z) Z Z (aA bB bX Z Z ee2 1 ω ω) (an (wg Z Z Z) Z Z (ab bT Z dd Z Z) (an (wg Z Z Z) Z Z (ag aU Z Z (bu ec2 1 Z)) (an (wg Z Z Z) Z Z (aO aU Z) (an (wg Z Z Z) Z Z (dv Z Z) (sV Z (aH Z Z) (aa (az Z (fun c3=>?_) (fun c3=>?_))))))))
         ·refine ae ?_;have tq:=gy (z:=z) (nS h2 (by simp only [cx]; simp_all<;>omega));refine am (rA hQ results97 Z ?_);exact ⟨eP2.ext,congrArg (Value.int .i64) ((if_neg ω).trans ((if_pos hF).trans ((if_pos ω).trans tq))).symm⟩
         ·refine ar (ae (ae ?_));have hM:z.Tapes.any cx=false:=ns h2 (by simp only [cx]; simp_all<;>omega) (by simp only [cx]; simp_all<;>omega);refine am (sA Z Z (aa (au (bU (γ:=Nat) eP2 [(1,_)] ⟨Z,trivial⟩ (fun k=>[(4,.int .i64 k)]) (fun k=>k≤z.Tapes.length∧di z.Shape z.Tapes k=0) (fun k=>z.Tapes.length-k) 0 ⟨Z,trivial⟩ ⟨ω,Z⟩ (fun k w6 H7 ⟨hk,hkz⟩=>?_)))));dsimp only[lCA,lNA];refine ae (ac (sR 2 Z (aa (az Z (fun c4=>?_) (fun c4=>?_)))))
          ·refine ar (ae (au (ac (sA Z Z (aa (au (bU (γ:=Nat) H7 [(1,_),(4,_)] ⟨Z,Z,trivial⟩ (fun k2=>[(5,.int .i64 k2)]) (fun k2=>k2≤(z.Tapes.getD k default).Recs.length∧dr z.Shape (z.Tapes.getD k default).Recs k2=0) (fun k2=>(z.Tapes.getD k default).Recs.length-k2) 0 ⟨Z,trivial⟩ ⟨ω,Z⟩ (fun k2 w7 H8 ⟨hk2,hk2z⟩=>?_))))))));dsimp only[lCA,lNA];refine ae (ae ?_);obtain ⟨eb3,eo5,es3,ef3,ee3,ec3,eO3,eH3,em3⟩:=bC (H8.seen 2 Z) k ω;obtain ⟨ea3,ek3,eg3,rfl,eq3,eK3,eo6⟩:=cL eO3;have eP3:=H8.look1 2 Z eo6 (fun b hb=>eH3 b (by rw [eq3]; simp [hb]));have eL3:=oL eo6;refine am (sM Z Z (sF aP Z cI (sLd bB (eP3.box 0 Z) Z (sM Z Z (sV Z (aA bB bX Z Z ee3 k ω ω) (sF bT Z dd (sV Z (ag aU Z Z (bu ec3 1 Z)) (sV Z (aO aU Z) (sV Z (bg Z Z) (aa (az Z (fun c5=>?_) (fun c5=>?_))))))))))))
           ·refine ar (ae (au (ae ?_)));obtain ⟨eb4,eo7,es4,ef4,ee4,ec4,eO4,eH4,em4⟩:=bC (eP3.seen 2 Z) k ω;obtain ⟨ea4,ek4,eg4,rfl,eq4,eK4,eo8⟩:=cL eO4;have eP4:=eP3.look1 2 Z eo8 (fun b hb=>eH4 b (by rw [eq4]; simp [hb]));have eL4:=oL eo8;obtain ⟨eb5,eo9,es5,ef5,ee5,ec5,eO5,eH5,em5⟩:=bC (eP4.seen 6 Z) k2 ω;obtain ⟨ea5,ek5,ea6,ek6,ea7,ek7,eg5,eg6,eg7,rfl,eq5,eK5,eo10,eo11,eo12⟩:=bS eO5;have eK5U:=eK5;unfold Rec.Ok at eK5U
            try unfold I64ok at eK5U
            try unfold maxLen at eK5U
            have eP5:=eP4.look1 6 Z eo10 (fun b hb=>eH5 b (by rw [eq5]; simp [hb]));have eL5:=oL eo10;have eP6:=eP5.look1 6 Z eo11 (fun b hb=>eH5 b (by rw [eq5]; simp [hb]));have eL6:=oL eo11;have eP7:=eP6.look1 6 Z eo12 (fun b hb=>eH5 b (by rw [eq5]; simp [hb]));have eL7:=oL eo12;refine bx (S:=Ext No _) (oQ [1,3,5,7,9,11,13,15,17,19,21,22,24]) κ κ κ Z (fun _=>Ext.refl.drawn _) (fun q2=>?_);have H9:=eP7.drawn q2;refine dV Z Z (fun zw hx=>ab aP Z bp Z Z) (dV Z Z (fun zw hx=>aj bb Z bp Z Z (At.sub (hx.heap (H9.box 0 Z)) 9)) (dV Z Z (fun zw hx=>ab aP Z cI Z Z) (dV Z Z (fun zw hx=>ag bB Z Z (al (hx.heap (H9.box 0 Z)) Z)) (dM Z Z Z (dV Z Z (fun zw hx=>aA bB bX Z Z ee4 k ω ω) (dV Z Z (fun zw hx=>ab bT Z dd Z Z) (dV Z Z (fun zw hx=>ag aU Z Z (bu (hx.at ec4) 1 Z)) (dM Z Z Z (dV Z Z (fun zw hx=>aA aU aJ Z Z ee5 k2 ω ω) (dV Z Z (fun zw hx=>aj ax Z aJ Z Z (hx.at ec5)) (dC func74 kU Z (dZ η (H9.sees 7 Z) (H9.sees 8 Z) (H9.sees 9 Z)) (fun v5 w8 r5=>?_))))))))))));obtain ⟨e6,rfl⟩:=r5;have H10:=H9.to e6;refine aV Z ah Z Z (bw Z) (aT (ac (sR 2 Z (aa (az Z (fun c6=>?_) (fun c6=>?_))))))
            ·refine ac (sR 2 Z (rN hQ results97 Z ?_));have tq:=ly hM (k:=k) (k2:=k2) ω hkz ω hk2z ω;exact ⟨H10.ext,congrArg (Value.int .i64) ((if_neg ω).trans (((if_neg ω).trans ((if_pos hF).trans ((if_pos ω).trans tq)))).symm)⟩
            ·refine ar (am (sM Z Z (sV Z (aE Z Z iO) (sA Z Z (aa (⟨k2+1,⟨Z,Z,Z,trivial⟩,⟨(H10.ftake 5),ω,(ff hk2z).trans ω⟩,θ⟩))))))
           ·refine aW (am (sM Z Z (sV Z (aE Z Z iO) (sA Z Z (aa ?_)))));obtain rfl:k2=(z.Tapes.getD k default).Recs.length:=by omega
            refine ⟨k+1,⟨Z,Z,trivial⟩,⟨(eP3.ftake 5),ω,(eH hkz).trans hk2z⟩,θ⟩
          ·refine aW (ae (ae ?_));obtain rfl:k=z.Tapes.length:=by omega
           have hAll:=hkz;refine am (sA Z Z (aa (au (bU (γ:=Nat) H7 [(1,_)] ⟨Z,trivial⟩ (fun k=>[(7,.int .i64 k)]) (fun k=>k≤2∧(∀ i,i<k→cj (z.Tapes.getD i default)=false)) (fun k=>2-k) 0 ⟨Z,trivial⟩ ⟨ω,fun i hi=>by omega⟩ (fun k w9 H11 ⟨hk,hek⟩=>?_)))));dsimp only[lCA,lNA];refine ae (ac (sR 2 Z (aa (az Z (fun c7=>?_) (fun c7=>?_)))))
           ·refine ar (ae (au (ae ?_)));obtain ⟨eb6,eo13,es6,ef6,ee6,ec6,eO6,eH6,em6⟩:=bC (H11.seen 2 Z) k ω;obtain ⟨ea8,ek8,eg8,rfl,eq6,eK6,eo14⟩:=cL eO6;have eP8:=H11.look1 2 Z eo14 (fun b hb=>eH6 b (by rw [eq6]; simp [hb]));have eL8:=oL eo14;refine am (sF aP Z cI (sLd bB (eP8.box 0 Z) Z (sM Z Z (sV Z (aA bB bX Z Z ee6 k ω ω) (sF bT Z ts4 (sV Z (ag tu4 Z Z (bu ec6 0 Z)) (sM Z Z (co (t:=108) Z (fun hg7=>?_) (fun hg7=>?_)))))))))
            ·try simp only [decide_eq_true_eq,decide_eq_false_iff_not] at hg7
             refine an (wg Z Z Z) Z Z (ab aP Z cI Z Z) (an (wg Z Z Z) Z Z (ag bB Z Z (al (eP8.box 0 Z) Z)) (an (wg Z Z Z) Z Z (aN Z) (an (wg Z Z Z) Z Z (aA bB bX Z Z ee6 k ω ω) (an (wg Z Z Z) Z Z (ab bT Z dd Z Z) (an (wg Z Z Z) Z Z (ag aU Z Z (bu ec6 1 Z)) (an (wg Z Z Z) Z Z (aO aU Z) (an (wg Z Z Z) Z Z (dv Z Z) (sV Z (aD Z Z) (aa (az Z (fun c8=>?_) (fun c8=>?_)))))))))))
             ·refine ac (rA hQ results97 Z ?_);have tq:=kv hM hAll (qZ k ω (by rw [cj]; simp_all<;>omega));exact ⟨eP8.ext,congrArg (Value.int .i64) ((if_neg ω).trans ((if_pos hF).trans ((if_pos ω).trans tq))).symm⟩
             ·refine ar (am (sM Z Z (sV Z (aE Z Z iO) (sA Z Z (aa (⟨k+1,⟨Z,Z,trivial⟩,⟨(eP8.ftake 5),ω,fun i hi=>?_⟩,θ⟩))))))
              by_cases e:i=k
              ·subst e; rw [cj]; simp_all<;>omega
              ·exact hek i ω
            ·try simp only [decide_eq_true_eq,decide_eq_false_iff_not] at hg7
             refine sR 8 Z (sV Z (aH Z Z) (aa (eK Z (ar (am (sM Z Z (sV Z (aE Z Z iO) (sA Z Z (aa (⟨k+1,⟨Z,Z,trivial⟩,⟨(eP8.ftake 5),ω,fun i hi=>?_⟩,θ⟩))))))))))
             by_cases e:i=k
             ·subst e; rw [cj]; simp_all<;>omega
             ·exact hek i ω
           ·refine aW (ae (ae ?_));have tq:=kH hM hAll (oW (fun i hi=>hek i ω));refine am (sF aP Z ts2 (sLd tu2 (H11.box 0 Z) Z (sE func121 bO Z bi H11 (fun w10 e7 H12=>sV Z (bl Z) (sM Z Z (co (t:=122) Z (fun hg8=>?_) (fun hg8=>?_)))))))
            ·try simp only [decide_eq_true_eq,decide_eq_false_iff_not] at hg8
             refine sR 4 Z (sV Z (aD Z Z) (aa (dl Z (ac (rA hQ results97 Z ?_)))));exact ⟨H12.ext,congrArg (Value.int .i64) ((if_neg ω).trans ((if_pos hF).trans ((if_neg ω).trans (if_neg (by simp_all<;>omega))))).symm⟩
            ·try simp only [decide_eq_true_eq,decide_eq_false_iff_not] at hg8
             refine an (wg Z Z Z) Z Z (ab aP Z ts2 Z Z) (an (wg Z Z Z) Z Z (ag tu2 Z Z (al (H12.box 0 Z) Z)) (cW (wg Z Z Z) Z Z (aQ func121 Z bO Z) bi (fun v7 w11 r7=>?_)));obtain ⟨e8,rfl⟩:=r7;have H13:=H12.to e8;refine an (wg Z Z Z) Z Z (bl Z) (sV Z (aH Z Z) (aa (cK Z (fun c9=>?_) (fun c9=>?_))))
             ·refine ac (rA hQ results97 Z ?_);exact ⟨H13.ext,congrArg (Value.int .i64) ((if_neg ω).trans ((if_pos hF).trans ((if_neg ω).trans (if_neg (by simp_all<;>omega))))).symm⟩
             ·refine ar (ac (rA hQ results97 Z ?_));exact ⟨H13.ext,congrArg (Value.int .i64) ((if_neg ω).trans ((if_pos hF).trans ((if_neg ω).trans (if_pos (by simp_all<;>omega))))).symm⟩
     ·try simp only [decide_eq_true_eq,decide_eq_false_iff_not] at hg4
      refine dR 4 Z (aC Z (wg Z Z Z) Z Z (fun zw hx=>aH Z Z) (dV Z Z (fun zw hx=>aH Z Z) (dM Z Z Z (aC Z (wg Z Z Z) Z Z (fun zw hx=>ab aP Z cI Z Z) (aC Z (wg Z Z Z) Z Z (fun zw hx=>ag bB Z Z (al (hx.heap (H3.box 0 Z)) Z)) (aC Z (wg Z Z Z) Z Z (fun zw hx=>aO bB Z) (aC Z (wg Z Z Z) Z Z (fun zw hx=>cn Z Z) (aV Z ah Z Z (aH Z Z) (aT (az Z (fun c10=>?_) (fun c10=>?_)))))))))))
      ·refine ac (rA hQ results97 Z ?_);exact ⟨H6.ext,congrArg (Value.int .i64) ((if_neg ω).trans (if_neg (by rw [← iH]; first | (simp_all<;>omega) | (cases hh:z.On<;>simp_all<;>omega)))).symm⟩
      ·refine ar (ae (ae ?_));have hF:(db z && mZ z && decide (z.Tapes.length=2))=true:=by rw [← iH]; simp_all<;>omega
       have h2:z.Tapes.length=2:=by simp_all<;>omega
       obtain ⟨eb7,eo15,es7,ef7,ee7,ec7,eO7,eH7,em7⟩:=bC (H6.seen 2 Z) 0 ω;obtain ⟨ea9,ek9,eg9,rfl,eq7,eK7,eo16⟩:=cL eO7;have eP9:=H6.look1 2 Z eo16 (fun b hb=>eH7 b (by rw [eq7]; simp [hb]));have eL9:=oL eo16;refine am (sF aP Z cI (sLd bB (eP9.box 0 Z) Z (sV Z (aA bB bX Z Z ee7 0 ω ω) (sF bT Z dd (sV Z (ag aU Z Z (bu ec7 1 Z)) (sV Z (aO aU Z) (sR 2 Z (co (t:=59) Z (fun hg9=>?_) (fun hg9=>?_)))))))))
       ·try simp only [decide_eq_true_eq,decide_eq_false_iff_not] at hg9
        refine sR 7 Z (sV Z (aD Z Z) (aa (dl Z (ae ?_))));have tq:=gy (z:=z) (nS h2 (by simp only [cx]; simp_all<;>omega));refine am (rA hQ results97 Z ?_);exact ⟨eP9.ext,congrArg (Value.int .i64) ((if_neg ω).trans ((if_pos hF).trans ((if_pos ω).trans tq))).symm⟩
       ·try simp only [decide_eq_true_eq,decide_eq_false_iff_not] at hg9
        refine an (wg Z Z Z) Z Z (ab aP Z cI Z Z) (an (wg Z Z Z) Z Z (ag bB Z Z (al (eP9.box 0 Z) Z)) ?_);obtain ⟨eb8,eo17,es8,ef8,ee8,ec8,eO8,eH8,em8⟩:=bC (eP9.seen 2 Z) 1 ω;obtain ⟨ea10,ek10,eg10,rfl,eq8,eK8,eo18⟩:=cL eO8;have eP10:=eP9.look1 2 Z eo18 (fun b hb=>eH8 b (by rw [eq8]; simp [hb]));have eL10:=oL eo18;refine an (wg Z Z Z) Z Z (aA bB bX Z Z ee8 1 ω ω) (an (wg Z Z Z) Z Z (ab bT Z dd Z Z) (an (wg Z Z Z) Z Z (ag aU Z Z (bu ec8 1 Z)) (an (wg Z Z Z) Z Z (aO aU Z) (an (wg Z Z Z) Z Z (dv Z Z) (sV Z (aH Z Z) (aa (az Z (fun c11=>?_) (fun c11=>?_))))))))
        ·refine ae ?_;have tq:=gy (z:=z) (nS h2 (by simp only [cx]; simp_all<;>omega));refine am (rA hQ results97 Z ?_);exact ⟨eP10.ext,congrArg (Value.int .i64) ((if_neg ω).trans ((if_pos hF).trans ((if_pos ω).trans tq))).symm⟩
        ·refine ar (ae (ae ?_));have hM:z.Tapes.any cx=false:=ns h2 (by simp only [cx]; simp_all<;>omega) (by simp only [cx]; simp_all<;>omega);refine am (sA Z Z (aa (au (bU (γ:=Nat) eP10 [(1,_)] ⟨Z,trivial⟩ (fun k=>[(4,.int .i64 k)]) (fun k=>k≤z.Tapes.length∧di z.Shape z.Tapes k=0) (fun k=>z.Tapes.length-k) 0 ⟨Z,trivial⟩ ⟨ω,Z⟩ (fun k w12 H14 ⟨hk,hkz⟩=>?_)))));dsimp only[lCA,lNA];refine ae (ac (sR 2 Z (aa (az Z (fun c12=>?_) (fun c12=>?_)))))
         ·refine ar (ae (au (ac (sA Z Z (aa (au (bU (γ:=Nat) H14 [(1,_),(4,_)] ⟨Z,Z,trivial⟩ (fun k2=>[(5,.int .i64 k2)]) (fun k2=>k2≤(z.Tapes.getD k default).Recs.length∧dr z.Shape (z.Tapes.getD k default).Recs k2=0) (fun k2=>(z.Tapes.getD k default).Recs.length-k2) 0 ⟨Z,trivial⟩ ⟨ω,Z⟩ (fun k2 w13 H15 ⟨hk2,hk2z⟩=>?_))))))));dsimp only[lCA,lNA];refine ae (ae ?_);obtain ⟨eb9,eo19,es9,ef9,ee9,ec9,eO9,eH9,em9⟩:=bC (H15.seen 2 Z) k ω;obtain ⟨ea11,ek11,eg11,rfl,eq9,eK9,eo20⟩:=cL eO9;have eP11:=H15.look1 2 Z eo20 (fun b hb=>eH9 b (by rw [eq9]; simp [hb]));have eL11:=oL eo20;refine am (sM Z Z (sF aP Z cI (sLd bB (eP11.box 0 Z) Z (sM Z Z (sV Z (aA bB bX Z Z ee9 k ω ω) (sF bT Z dd (sV Z (ag aU Z Z (bu ec9 1 Z)) (sV Z (aO aU Z) (sV Z (bg Z Z) (aa (az Z (fun c13=>?_) (fun c13=>?_))))))))))))
          ·refine ar (ae (au (ae ?_)));obtain ⟨eb10,eo21,es10,ef10,ee10,ec10,eO10,eH10,em10⟩:=bC (eP11.seen 2 Z) k ω;obtain ⟨ea12,ek12,eg12,rfl,eq10,eK10,eo22⟩:=cL eO10;have eP12:=eP11.look1 2 Z eo22 (fun b hb=>eH10 b (by rw [eq10]; simp [hb]));have eL12:=oL eo22;obtain ⟨eb11,eo23,es11,ef11,ee11,ec11,eO11,eH11,em11⟩:=bC (eP12.seen 6 Z) k2 ω;obtain ⟨ea13,ek13,ea14,ek14,ea15,ek15,eg13,eg14,eg15,rfl,eq11,eK11,eo24,eo25,eo26⟩:=bS eO11;have eK11U:=eK11;unfold Rec.Ok at eK11U
           try unfold I64ok at eK11U
           try unfold maxLen at eK11U
           have eP13:=eP12.look1 6 Z eo24 (fun b hb=>eH11 b (by rw [eq11]; simp [hb]));have eL13:=oL eo24;have eP14:=eP13.look1 6 Z eo25 (fun b hb=>eH11 b (by rw [eq11]; simp [hb]));have eL14:=oL eo25;have eP15:=eP14.look1 6 Z eo26 (fun b hb=>eH11 b (by rw [eq11]; simp [hb]));have eL15:=oL eo26;refine bx (S:=Ext No _) (oQ [1,3,5,7,9,11,13,15,17,19,21,22,24]) κ κ κ Z (fun _=>Ext.refl.drawn _) (fun q3=>?_);have H16:=eP15.drawn q3;refine dV Z Z (fun zw hx=>ab aP Z bp Z Z) (dV Z Z (fun zw hx=>aj bb Z bp Z Z (At.sub (hx.heap (H16.box 0 Z)) 9)) (dV Z Z (fun zw hx=>ab aP Z cI Z Z) (dV Z Z (fun zw hx=>ag bB Z Z (al (hx.heap (H16.box 0 Z)) Z)) (dM Z Z Z (dV Z Z (fun zw hx=>aA bB bX Z Z ee10 k ω ω) (dV Z Z (fun zw hx=>ab bT Z dd Z Z) (dV Z Z (fun zw hx=>ag aU Z Z (bu (hx.at ec10) 1 Z)) (dM Z Z Z (dV Z Z (fun zw hx=>aA aU aJ Z Z ee11 k2 ω ω) (dV Z Z (fun zw hx=>aj ax Z aJ Z Z (hx.at ec11)) (dC func74 kU Z (dZ η (H16.sees 7 Z) (H16.sees 8 Z) (H16.sees 9 Z)) (fun v8 w14 r8=>?_))))))))))));obtain ⟨e9,rfl⟩:=r8;have H17:=H16.to e9;refine aV Z ah Z Z (bw Z) (aT (ac (sR 2 Z (aa (az Z (fun c14=>?_) (fun c14=>?_))))))
           ·refine ac (sR 2 Z (rN hQ results97 Z ?_));have tq:=ly hM (k:=k) (k2:=k2) ω hkz ω hk2z ω;exact ⟨H17.ext,congrArg (Value.int .i64) ((if_neg ω).trans (((if_neg ω).trans ((if_pos hF).trans ((if_pos ω).trans tq)))).symm)⟩
           ·refine ar (am (sM Z Z (sV Z (aE Z Z iO) (sA Z Z (aa (⟨k2+1,⟨Z,Z,Z,trivial⟩,⟨(H17.ftake 5),ω,(ff hk2z).trans ω⟩,θ⟩))))))
          ·refine aW (am (sM Z Z (sV Z (aE Z Z iO) (sA Z Z (aa ?_)))));obtain rfl:k2=(z.Tapes.getD k default).Recs.length:=by omega
           refine ⟨k+1,⟨Z,Z,trivial⟩,⟨(eP11.ftake 5),ω,(eH hkz).trans hk2z⟩,θ⟩
         ·refine aW (ae (ae ?_));obtain rfl:k=z.Tapes.length:=by omega
          have hAll:=hkz;refine am (sA Z Z (aa (au (bU (γ:=Nat) H14 [(1,_)] ⟨Z,trivial⟩ (fun k=>[(7,.int .i64 k)]) (fun k=>k≤2∧(∀ i,i<k→cj (z.Tapes.getD i default)=false)) (fun k=>2-k) 0 ⟨Z,trivial⟩ ⟨ω,fun i hi=>by omega⟩ (fun k w15 H18 ⟨hk,hek⟩=>?_)))));dsimp only[lCA,lNA];refine ae (ac (sR 2 Z (aa (az Z (fun c15=>?_) (fun c15=>?_)))))
          ·refine ar (ae (au (ae ?_)));obtain ⟨eb12,eo27,es12,ef12,ee12,ec12,eO12,eH12,em12⟩:=bC (H18.seen 2 Z) k ω;obtain ⟨ea16,ek16,eg16,rfl,eq12,eK12,eo28⟩:=cL eO12;have eP16:=H18.look1 2 Z eo28 (fun b hb=>eH12 b (by rw [eq12]; simp [hb]));have eL16:=oL eo28;refine am (sF aP Z cI (sLd bB (eP16.box 0 Z) Z (sM Z Z (sV Z (aA bB bX Z Z ee12 k ω ω) (sF bT Z ts4 (sV Z (ag tu4 Z Z (bu ec12 0 Z)) (sM Z Z (co (t:=108) Z (fun hg10=>?_) (fun hg10=>?_)))))))))
           ·try simp only [decide_eq_true_eq,decide_eq_false_iff_not] at hg10
            refine an (wg Z Z Z) Z Z (ab aP Z cI Z Z) (an (wg Z Z Z) Z Z (ag bB Z Z (al (eP16.box 0 Z) Z)) (an (wg Z Z Z) Z Z (aN Z) (an (wg Z Z Z) Z Z (aA bB bX Z Z ee12 k ω ω) (an (wg Z Z Z) Z Z (ab bT Z dd Z Z) (an (wg Z Z Z) Z Z (ag aU Z Z (bu ec12 1 Z)) (an (wg Z Z Z) Z Z (aO aU Z) (an (wg Z Z Z) Z Z (dv Z Z) (sV Z (aD Z Z) (aa (az Z (fun c16=>?_) (fun c16=>?_)))))))))))
            ·refine ac (rA hQ results97 Z ?_);have tq:=kv hM hAll (qZ k ω (by rw [cj]; simp_all<;>omega));exact ⟨eP16.ext,congrArg (Value.int .i64) ((if_neg ω).trans ((if_pos hF).trans ((if_pos ω).trans tq))).symm⟩
            ·refine ar (am (sM Z Z (sV Z (aE Z Z iO) (sA Z Z (aa (⟨k+1,⟨Z,Z,trivial⟩,⟨(eP16.ftake 5),ω,fun i hi=>?_⟩,θ⟩))))))
             by_cases e:i=k
             ·subst e; rw [cj]; simp_all<;>omega
             ·exact hek i ω
           ·try simp only [decide_eq_true_eq,decide_eq_false_iff_not] at hg10
            refine sR 8 Z (sV Z (aH Z Z) (aa (eK Z (ar (am (sM Z Z (sV Z (aE Z Z iO) (sA Z Z (aa (⟨k+1,⟨Z,Z,trivial⟩,⟨(eP16.ftake 5),ω,fun i hi=>?_⟩,θ⟩))))))))))
            by_cases e:i=k
            ·subst e; rw [cj]; simp_all<;>omega
            ·exact hek i ω
          ·refine aW (ae (ae ?_));have tq:=kH hM hAll (oW (fun i hi=>hek i ω));refine am (sF aP Z ts2 (sLd tu2 (H18.box 0 Z) Z (sE func121 bO Z bi H18 (fun w16 e10 H19=>sV Z (bl Z) (sM Z Z (co (t:=122) Z (fun hg11=>?_) (fun hg11=>?_)))))))
           ·try simp only [decide_eq_true_eq,decide_eq_false_iff_not] at hg11
            refine sR 4 Z (sV Z (aD Z Z) (aa (dl Z (ac (rA hQ results97 Z ?_)))));exact ⟨H19.ext,congrArg (Value.int .i64) ((if_neg ω).trans ((if_pos hF).trans ((if_neg ω).trans (if_neg (by simp_all<;>omega))))).symm⟩
           ·try simp only [decide_eq_true_eq,decide_eq_false_iff_not] at hg11
            refine an (wg Z Z Z) Z Z (ab aP Z ts2 Z Z) (an (wg Z Z Z) Z Z (ag tu2 Z Z (al (H19.box 0 Z) Z)) (cW (wg Z Z Z) Z Z (aQ func121 Z bO Z) bi (fun v10 w17 r10=>?_)));obtain ⟨e11,rfl⟩:=r10;have H20:=H19.to e11;refine an (wg Z Z Z) Z Z (bl Z) (sV Z (aH Z Z) (aa (cK Z (fun c17=>?_) (fun c17=>?_))))
            ·refine ac (rA hQ results97 Z ?_);exact ⟨H20.ext,congrArg (Value.int .i64) ((if_neg ω).trans ((if_pos hF).trans ((if_neg ω).trans (if_neg (by simp_all<;>omega))))).symm⟩
            ·refine ar (ac (rA hQ results97 Z ?_));exact ⟨H20.ext,congrArg (Value.int .i64) ((if_neg ω).trans ((if_pos hF).trans ((if_neg ω).trans (if_pos (by simp_all<;>omega))))).symm⟩
theorem iG {w:World}{z:Wld}{zA9 zA10 zA11:Option Addr}{zC9 zC10 zC11:Nat}(zK:z.Ok) (zS9:Sees w [.slice zA9 z.Groups.length zC9] z.Groups) (zS10:Sees w [.slice zA10 z.On.length zC10] z.On) (zS11:Sees w [.slice zA11 z.Tapes.length zC11] z.Tapes):Ret Tryz.prog 40 #[z.val zA9 zC9 zA10 zC10 zA11 zC11] w fun v w'=>Ext No w w'∧(v = .int .i64 (upF z)):=by
 have zK2:=zK;unfold Wld.Ok Shape.Ok at zK2
 try unfold I64ok at zK2
 try unfold maxLen at zK2
 have zL9:=sL zS9;obtain ⟨zF9,zO9⟩:=zS9;have zL10:=sL zS10;obtain ⟨zF10,zO10⟩:=zS10;have zL11:=sL zS11;obtain ⟨zF11,zO11⟩:=zS11;refine aS func40 Z ntmps40 Z (fun Q hQ hN=>?_);have H0:=Sep.start (ak zO9 (ak zO10 (ak zO11 aG)));refine ac (bt ah Z Z H0 (fun b1 w1 e1 g1 H1=>sA Z Z (aa (ae (ac (sV Z (aj aP Z bP Z Z (At.whole (H1.box 0 Z))) (sE func97 nl Z (eC η (H1.sees 0 Z) (H1.sees 1 Z) (H1.sees 2 Z)) H1 (fun w2 e2 H2=>sA Z Z (aa (ac (sR 2 Z (aa (az Z (fun c1=>?_) (fun c1=>?_))))))))))))))
 ·refine ac (sR 2 Z (rN hQ results40 Z ?_));exact ⟨H2.ext,congrArg (Value.int .i64) (if_pos ω).symm⟩
 ·refine ar (ae (ac (sF aP Z ts4 (sLd tu4 (H2.box 0 Z) Z (aa (cK Z (fun c2=>?_) (fun c2=>?_)))))))
  ·refine ac (rA hQ results40 Z ?_);exact ⟨H2.ext,congrArg (Value.int .i64) ((if_neg ω).trans (if_pos η)).symm⟩
  ·refine ar (ac (rA hQ results40 Z ?_));exact ⟨H2.ext,congrArg (Value.int .i64) ((if_neg ω).trans (if_neg (by simp_all<;>omega))).symm⟩
end Go.Wk
namespace Go.Wk
section
variable {z:Wld}{s:Shape}{r:Rec}{g row d:Int}
theorem wN:0≤s.fault∧s.fault≤3:=by unfold Shape.fault; split<;>omega
theorem yh {b:ByteArray}:0≤cE b∧cE b≤5:=by unfold cE; split<;>omega
theorem wR:0≤eS s r∧eS s r≤5:=by
  have:=yh (b:=r.Name)
  unfold eS
  repeat' split
  all_goals omega
theorem yc:0≤fH s r∧fH s r≤5:=by
  have:=wR (s:=s) (r:=r)
  unfold fH
  repeat' split
  all_goals omega
theorem rQ {rs:List Rec}:∀ k,0≤dr s rs k∧dr s rs k≤5
  | 0=>by simp [dr]
  | k+1=>by
    have h1:=rQ (rs:=rs) k
    have h2:=yc (s:=s) (r:=rs.getD k default)
    rw [dr]
    split<;>omega
theorem sB {ts:List Tape}:∀ k,0≤di s ts k∧di s ts k≤5
  | 0=>by simp [di]
  | k+1=>by
    have h1:=sB (ts:=ts) k
    have h2:=rQ (s:=s) (rs:=(ts.getD k default).Recs) (ts.getD k default).Recs.length
    rw [di]
    split<;>omega
theorem vy:0≤dN z∧dN z≤5:=by
  have:=sB (s:=z.Shape) (ts:=z.Tapes) z.Tapes.length
  unfold dN
  repeat' split
  all_goals omega
theorem mN:0≤bV z∧bV z≤5:=by
  have h1:=wN (s:=z.Shape)
  have h2:=vy (z:=z)
  unfold bV
  repeat' split
  all_goals omega
theorem oi:0≤upF z∧upF z≤9:=by
  have h1:=mN (z:=z)
  unfold upF
  repeat' split
  all_goals omega
end
end Go.Wk
