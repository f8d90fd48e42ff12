/-
  Laws on walking, and the functions walked, each once: what this claim comes to.
-/
import Derived.Test.YtblddeoopkfafaaGreatZA0
set_option linter.unusedVariables false
set_option linter.unusedSimpArgs false
namespace Go.Wk
open Go.Proofs Rp
set_option maxRecDepth 10000
theorem fz {w : World} {xs : List UInt8} {xsA : Option Addr} {xsC : Nat} {k : Int} {fp : List Nat} (o : own true w [.slice xsA xs.length xsC] xs fp) (nd : fp.Nodup) (hk : 0 ≤ k ∧ k + xs.length ≤ 4611686018427387904) : Ret Tryz.prog 39 #[.slice xsA xs.length xsC, .int .i64 k] w fun v w' => (v = .int .i64 (k + xs.length) ∧ ∃ xs', Mut w w' fp [.slice xsA xs.length xsC] xs' ∧ xs'.length = xs.length ∧ MarkB xs' k) := by
 have len := oL o;refine aF (vs := [.slice xsA xs.length xsC, .int .i64 k]) Tryz.func39 Z Tryz.ntmps39 Z (fun Q hQ hN => ?_);have H0 := Sep.begin o nd;refine ag (sA Z Z (aa (ah (ag (sA Z Z (aa (au (bk (γ := Nat × List UInt8 × List Nat) (fun (i, ys, f) => [(0, .slice xsA xs.length xsC), (1, .int .i64 (k + i)), (5, .int .i64 i)]) (fun (i, ys, f) w' => Sep (· ∈ fp) w [mine [.slice xsA xs.length xsC] ys f] [] w' ∧ i ≤ xs.length ∧ ys.length = xs.length ∧ (∀ j, j < i → ys.getD j 0 = qO (k + j))) (fun (i, ys, f) => xs.length - i) (0, xs, fp) ⟨Z, eqI (by omega), Z, trivial⟩ ⟨H0, by omega, Z, fun j hj => by omega⟩ (fun (i, ys, f) w1 H1 => ?_)))))))));obtain ⟨H1, hi, hl, hm⟩ := H1;refine ah (ag (sM Z Z (sM Z Z (sV Z (aE aR Z) (sV Z (aD Z Z) (aa (az Z (fun c1 => ?_) (fun c1 => ?_))))))))
 ·refine ak (ah (au (ah ?_)));obtain ⟨eb1, eo1, ee1, ec1⟩ := b0 (H1.mine 0 Z) i (by omega);refine ao (sM Z Z (sM Z Z (sM Z Z (sV Z (fH tu3 tu5 Z) (sV Z (ax aR ts5 Z Z ee1 i (by omega) (by omega)) (kb (wn Z) ts5 Z H1 0 Z i (by omega) Z ee1 Z dR (fun w2 fp1 e1 H2 => ?_)))))));refine aa (ao (sM Z Z (sV Z (aB Z Z iO) (sA Z Z (aa (ao (sM Z Z (sV Z (aB Z Z iO) (sA Z Z (aa (⟨(i + 1, _, _), ⟨Z, eqI (by omega), Z, trivial⟩, ⟨H2, by omega, by rw [List.length_set]; exact hl, fun j hj => ?_⟩, by dsimp only; omega⟩)))))))))));rw [dJ]
  by_cases e : j = i
  ·subst e; rw [if_pos ⟨rfl, by omega⟩]
  ·rw [if_neg (fun h => e h.1)]; exact hm j (by omega)
 ·refine aN (ag (sM Z Z (sA Z Z (aa (rT hQ Tryz.results39 Z ?_)))));obtain rfl : i = xs.length := by omega
  exact ⟨Z, _, H1.done, hl, fun j hj => hm j (by omega)⟩
theorem iu {w : World} {xs : List Int} {xsA : Option Addr} {xsC : Nat} {k : Int} {fp : List Nat} (o : own true w [.slice xsA xs.length xsC] xs fp) (nd : fp.Nodup) (hk : 0 ≤ k ∧ k + xs.length ≤ 4611686018427387904) : Ret Tryz.prog 76 #[.slice xsA xs.length xsC, .int .i64 k] w fun v w' => (v = .int .i64 (k + xs.length) ∧ ∃ xs', Mut w w' fp [.slice xsA xs.length xsC] xs' ∧ xs'.length = xs.length ∧ MarkI xs' k) := by
 have len := oL o;refine aF (vs := [.slice xsA xs.length xsC, .int .i64 k]) Tryz.func76 Z Tryz.ntmps76 Z (fun Q hQ hN => ?_);have H0 := Sep.begin o nd;refine ag (sA Z Z (aa (ah (ag (sA Z Z (aa (au (bk (γ := Nat × List Int × List Nat) (fun (i, ys, f) => [(0, .slice xsA xs.length xsC), (1, .int .i64 (k + i)), (5, .int .i64 i)]) (fun (i, ys, f) w' => Sep (· ∈ fp) w [mine [.slice xsA xs.length xsC] ys f] [] w' ∧ i ≤ xs.length ∧ ys.length = xs.length ∧ (∀ j, j < i → ys.getD j 0 = (k + j))) (fun (i, ys, f) => xs.length - i) (0, xs, fp) ⟨Z, eqI (by omega), Z, trivial⟩ ⟨H0, by omega, Z, fun j hj => by omega⟩ (fun (i, ys, f) w1 H1 => ?_)))))))));obtain ⟨H1, hi, hl, hm⟩ := H1;refine ah (ag (sM Z Z (sM Z Z (sV Z (aE br Z) (sV Z (aD Z Z) (aa (az Z (fun c1 => ?_) (fun c1 => ?_))))))))
 ·refine ak (ah (au (ah ?_)));obtain ⟨eb1, eo1, ee1, ec1⟩ := ci (H1.mine 0 Z) i (by omega);refine ao (sM Z Z (sM Z Z (sM Z Z (sV Z (ax br ts2 Z Z ee1 i (by omega) (by omega)) (kb (wn Z) ts2 Z H1 0 Z i (by omega) Z ee1 Z (rz (by unfold I64ok; omega)) (fun w2 fp1 e1 H2 => ?_))))));refine aa (ao (sM Z Z (sV Z (aB Z Z iO) (sA Z Z (aa (ao (sM Z Z (sV Z (aB Z Z iO) (sA Z Z (aa (⟨(i + 1, _, _), ⟨Z, eqI (by omega), Z, trivial⟩, ⟨H2, by omega, by rw [List.length_set]; exact hl, fun j hj => ?_⟩, by dsimp only; omega⟩)))))))))));rw [dJ]
  by_cases e : j = i
  ·subst e; rw [if_pos ⟨rfl, by omega⟩]
  ·rw [if_neg (fun h => e h.1)]; exact hm j (by omega)
 ·refine aN (ag (sM Z Z (sA Z Z (aa (rT hQ Tryz.results76 Z ?_)))));obtain rfl : i = xs.length := by omega
  exact ⟨Z, _, H1.done, hl, fun j hj => hm j (by omega)⟩
theorem fB {w : World} {xs : List UInt8} {xsA : Option Addr} {xsC : Nat} {k : Int} (xsS : Sees w [.slice xsA xs.length xsC] xs) (hk : 0 ≤ k ∧ k + xs.length ≤ 4611686018427387904) (hm : MarkB xs k) : Ret Tryz.prog 115 #[.slice xsA xs.length xsC, .int .i64 k] w fun v w' => Ext No w w' ∧ (v = .int .i64 (k + xs.length)) := by
 have xsL := sL xsS;obtain ⟨xsF, xsO⟩ := xsS;refine aF (vs := [.slice xsA xs.length xsC, .int .i64 k]) Tryz.func115 Z Tryz.ntmps115 Z (fun Q hQ hN => ?_);have H0 := Sep.start (w := w) (F := [seen false [.slice xsA xs.length xsC] xs xsF]) (all_cons xsO (by simp));refine ag (sA Z Z (aa (ah (ag (sA Z Z (aa (au (bk (γ := Nat) (fun i => [(0, .slice xsA xs.length xsC), (1, .int .i64 (k + i)), (5, .int .i64 i)]) (fun i w' => Sep No w [] [seen false [.slice xsA xs.length xsC] xs xsF] w' ∧ i ≤ xs.length) (fun i => xs.length - i) 0 ⟨Z, eqI (by omega), Z, trivial⟩ ⟨H0, by omega⟩ (fun i w1 H1 => ?_)))))))));obtain ⟨H1, hi⟩ := H1;refine ah (ag (sM Z Z (sM Z Z (sV Z (aE aR Z) (sV Z (aD Z Z) (aa (az Z (fun c1 => ?_) (fun c1 => ?_))))))))
 ·refine ak (ah (au (ah (ah ?_))));obtain ⟨eb1, eo1, ee1, ec1⟩ := b0 (H1.seen 0 Z) i (by omega);refine ao (sM Z Z (sM Z Z (sV Z (ax aR ts5 Z Z ee1 i (by omega) (by omega)) (sV Z (ac tu5 Z Z ec1) (sM Z Z (sV Z (fH tu3 tu5 Z) (sV Z (aU Z Z) (aa (az Z (fun c2 => ?_) (fun c2 => ?_))))))))))
  ·exact absurd (by rw [hm i (by omega)]) c2
  ·refine ak (ao (sM Z Z (sV Z (aB Z Z iO) (sA Z Z (aa (ao (sM Z Z (sV Z (aB Z Z iO) (sA Z Z (aa (⟨i + 1, ⟨Z, eqI (by omega), Z, trivial⟩, ⟨H1, by omega⟩, by dsimp only; omega⟩)))))))))))
 ·refine aN (ag (sM Z Z (sA Z Z (aa (rT hQ Tryz.results115 Z ?_)))));obtain rfl : i = xs.length := by omega
  exact ⟨H1.ext, Z⟩
theorem iq {w : World} {xs : List Int} {xsA : Option Addr} {xsC : Nat} {k : Int} (xsS : Sees w [.slice xsA xs.length xsC] xs) (hk : 0 ≤ k ∧ k + xs.length ≤ 4611686018427387904) (hm : MarkI xs k) : Ret Tryz.prog 150 #[.slice xsA xs.length xsC, .int .i64 k] w fun v w' => Ext No w w' ∧ (v = .int .i64 (k + xs.length)) := by
 have xsL := sL xsS;obtain ⟨xsF, xsO⟩ := xsS;refine aF (vs := [.slice xsA xs.length xsC, .int .i64 k]) Tryz.func150 Z Tryz.ntmps150 Z (fun Q hQ hN => ?_);have H0 := Sep.start (w := w) (F := [seen false [.slice xsA xs.length xsC] xs xsF]) (all_cons xsO (by simp));refine ag (sA Z Z (aa (ah (ag (sA Z Z (aa (au (bk (γ := Nat) (fun i => [(0, .slice xsA xs.length xsC), (1, .int .i64 (k + i)), (5, .int .i64 i)]) (fun i w' => Sep No w [] [seen false [.slice xsA xs.length xsC] xs xsF] w' ∧ i ≤ xs.length) (fun i => xs.length - i) 0 ⟨Z, eqI (by omega), Z, trivial⟩ ⟨H0, by omega⟩ (fun i w1 H1 => ?_)))))))));obtain ⟨H1, hi⟩ := H1;refine ah (ag (sM Z Z (sM Z Z (sV Z (aE br Z) (sV Z (aD Z Z) (aa (az Z (fun c1 => ?_) (fun c1 => ?_))))))))
 ·refine ak (ah (au (ah (ah ?_))));obtain ⟨eb1, eo1, ee1, ec1⟩ := ci (H1.seen 0 Z) i (by omega);have eI1 := cA (H1.seen 0 Z) i (by omega);refine ao (sM Z Z (sM Z Z (sV Z (ax br ts2 Z Z ee1 i (by omega) (by omega)) (sV Z (ac tu2 Z Z ec1) (sM Z Z (sV Z (aU Z Z) (aa (az Z (fun c2 => ?_) (fun c2 => ?_)))))))))
  ·exact absurd (hm i (by omega)) c2
  ·refine ak (ao (sM Z Z (sV Z (aB Z Z iO) (sA Z Z (aa (ao (sM Z Z (sV Z (aB Z Z iO) (sA Z Z (aa (⟨i + 1, ⟨Z, eqI (by omega), Z, trivial⟩, ⟨H1, by omega⟩, by dsimp only; omega⟩)))))))))))
 ·refine aN (ag (sM Z Z (sA Z Z (aa (rT hQ Tryz.results150 Z ?_)))));obtain rfl : i = xs.length := by omega
  exact ⟨H1.ext, Z⟩
end Go.Wk
namespace Go.Wk
open Go.Proofs Rp
set_option maxRecDepth 10000
theorem bj {w : World} {v0 lo hi : Int}  : Ret Tryz.prog 161 #[.int .i64 v0, .int .i64 lo, .int .i64 hi] w fun v w' => Ext No w w' ∧ (v = .bool (ins v0 lo hi)) := by
 refine aF (vs := [.int .i64 v0, .int .i64 lo, .int .i64 hi]) Tryz.func161 Z Tryz.ntmps161 Z (fun Q hQ hN => ?_);have H0 := Sep.start (w := w) (F := []) (by simp);refine ag (sA Z Z (aa (ag (sM Z Z (sM Z Z (sV Z (fA Z Z) (sM Z Z (bv 3 (j := 3) (want := true) (t := 13) Z Z Z Z (fun hg1 kk1 => am (wgE Z Z Z hg1) Z Z (aG Z) (am (wgE Z Z Z hg1) Z Z (aG Z) (am (wgE Z Z Z hg1) Z Z (kJ Z Z) (kk1 _ _ (kx Z (kx Z (kx Z k0))) Z Ext.refl)))) (fun w1 e1 => ?_)))))))));have H1 := H0.to e1;refine sV Z (bg Z Z) (sA Z Z (aa (rT hQ Tryz.results161 Z ?_)));exact ⟨H1.ext, Z⟩
theorem bu {w : World} {v0 lo hi : Int}  : Ret Tryz.prog 168 #[.int .i64 v0, .int .i64 lo, .int .i64 hi] w fun v w' => Ext No w w' ∧ (v = .bool (ins v0 lo hi)) := by
 refine aF (vs := [.int .i64 v0, .int .i64 lo, .int .i64 hi]) Tryz.func168 Z Tryz.ntmps168 Z (fun Q hQ hN => ?_);have H0 := Sep.start (w := w) (F := []) (by simp);refine ag (sA Z Z (aa (ag (sM Z Z (sM Z Z (sV Z (fA Z Z) (sM Z Z (bv 3 (j := 3) (want := true) (t := 13) Z Z Z Z (fun hg1 kk1 => am (wgE Z Z Z hg1) Z Z (aG Z) (am (wgE Z Z Z hg1) Z Z (aG Z) (am (wgE Z Z Z hg1) Z Z (kJ Z Z) (kk1 _ _ (kx Z (kx Z (kx Z k0))) Z Ext.refl)))) (fun w1 e1 => ?_)))))))));have H1 := H0.to e1;refine sV Z (bg Z Z) (sA Z Z (aa (rT hQ Tryz.results168 Z ?_)));exact ⟨H1.ext, Z⟩
theorem oB {w : World} {x y : Int}  : Ret Tryz.prog 244 #[.int .i64 x, .int .i64 y] w fun v w' => Ext No w w' ∧ (v = .bool (cOK x y)) := by
 refine aF (vs := [.int .i64 x, .int .i64 y]) Tryz.func244 Z Tryz.ntmps244 Z (fun Q hQ hN => ?_);have H0 := Sep.start (w := w) (F := []) (by simp);refine ag (sA Z Z (aa (ag (sM Z Z (ay (wn Z) Z Z (aj Tryz.func161 Z bM Z) bj (fun v1 w1 r1 => ?_))))));obtain ⟨e1, rfl⟩ := r1;have H1 := H0.to e1;refine sM Z Z (bv 2 (j := 2) (want := true) (t := 9) Z Z Z Z (fun hg1 kk1 => am (wgE Z Z Z hg1) Z Z (aG Z) (ct (wgE Z Z Z hg1) Z Z (aj Tryz.func161 Z bM Z) bj (fun w3 e3 => kk1 _ _ (kx Z (kx Z k0)) Z (Ext.refl.trans e3)))) (fun w2 e2 => ?_));have H2 := H1.to e2;refine sV Z (bg Z Z) (sA Z Z (aa (rT hQ Tryz.results244 Z ?_)));exact ⟨H2.ext, Z⟩
theorem pi {w : World} {x y : Int}  : Ret Tryz.prog 245 #[.int .i64 x, .int .i64 y] w fun v w' => Ext No w w' ∧ (v = .bool (rOK x y)) := by
 refine aF (vs := [.int .i64 x, .int .i64 y]) Tryz.func245 Z Tryz.ntmps245 Z (fun Q hQ hN => ?_);have H0 := Sep.start (w := w) (F := []) (by simp);refine ag (sA Z Z (aa (ag (sM Z Z (ay (wn Z) Z Z (aj Tryz.func161 Z bM Z) bj (fun v1 w1 r1 => ?_))))));obtain ⟨e1, rfl⟩ := r1;have H1 := H0.to e1;refine sM Z Z (bv 2 (j := 2) (want := true) (t := 9) Z Z Z Z (fun hg1 kk1 => am (wgE Z Z Z hg1) Z Z (aG Z) (ct (wgE Z Z Z hg1) Z Z (aj Tryz.func161 Z bM Z) bj (fun w3 e3 => kk1 _ _ (kx Z (kx Z k0)) Z (Ext.refl.trans e3)))) (fun w2 e2 => ?_));have H2 := H1.to e2;refine sV Z (bg Z Z) (sA Z Z (aa (rT hQ Tryz.results245 Z ?_)));exact ⟨H2.ext, Z⟩
theorem ir {w : World} {s : Shape}  : Ret Tryz.prog 156 #[s.v] w fun v w' => Ext No w w' ∧ (v = .int .i64 s.fault) := by
 refine aF (vs := [s.v]) Tryz.func156 Z Tryz.ntmps156 Z (fun Q hQ hN => ?_);have H0 := Sep.start (w := w) (F := []) (by simp);refine ag (be (wn Z) Z Z H0 (fun b1 w1 e1 g1 H1 => ?_));refine sA Z Z (aa (ah (ag (sV Z (ab bq Z ts2 Z Z) (sV Z (ac tu2 Z Z (ae (H1.box 0 Z) Z)) (sV Z (ab bq Z ts2 Z Z) (sV Z (ac tu2 Z Z (ae (H1.box 0 Z) Z)) (ay (wn Z) Z Z (aj Tryz.func244 Z xN Z) oB (fun v1 w2 r1 => ?_)))))))));obtain ⟨e2, rfl⟩ := r1;have H2 := H1.to e2;refine sV Z (bb Z) (sM Z Z (bv 6 (j := 6) (want := false) (t := 15) Z Z Z Z (fun hg1 kk1 => am (wgE Z Z Z hg1) Z Z (ab bq Z ts2 Z Z) (am (wgE Z Z Z hg1) Z Z (ac tu2 Z Z (ae (H2.box 0 Z) Z)) (am (wgE Z Z Z hg1) Z Z (ab bq Z ts2 Z Z) (am (wgE Z Z Z hg1) Z Z (ac tu2 Z Z (ae (H2.box 0 Z) Z)) (ct (wgE Z Z Z hg1) Z Z (aj Tryz.func245 Z xy Z) pi (fun w4 e4 => am (wgE Z Z Z hg1) Z Z (bb Z) (kk1 _ _ (kx Z (kx Z (kx Z (kx Z (kx Z (kx Z k0)))))) Z (Ext.refl.trans e4)))))))) (fun w3 e3 => ?_)));have H3 := H2.to e3;refine sV Z (dQ Z Z) (sM Z Z (bv 4 (j := 14) (want := false) (t := 21) Z Z Z Z (fun hg2 kk2 => am (wgE Z Z Z hg2) Z Z (ab bq Z ts2 Z Z) (am (wgE Z Z Z hg2) Z Z (ac tu2 Z Z (ae (H3.box 0 Z) Z)) (ct (wgE Z Z Z hg2) Z Z (aj Tryz.func161 Z bM Z) bj (fun w6 e6 => am (wgE Z Z Z hg2) Z Z (bb Z) (kk2 _ _ (kx Z (kx Z (kx Z (kx Z k0)))) Z (Ext.refl.trans e6)))))) (fun w5 e5 => ?_)));have H4 := H3.to e5;refine sV Z (dQ Z Z) (sM Z Z (bv 4 (j := 20) (want := false) (t := 27) Z Z Z Z (fun hg3 kk3 => am (wgE Z Z Z hg3) Z Z (ab bq Z ts2 Z Z) (am (wgE Z Z Z hg3) Z Z (ac tu2 Z Z (ae (H4.box 0 Z) Z)) (ct (wgE Z Z Z hg3) Z Z (aj Tryz.func161 Z bM Z) bj (fun w8 e8 => am (wgE Z Z Z hg3) Z Z (bb Z) (kk3 _ _ (kx Z (kx Z (kx Z (kx Z k0)))) Z (Ext.refl.trans e8)))))) (fun w7 e7 => ?_)));have H5 := H4.to e7;refine sV Z (dQ Z Z) (sM Z Z (bv 4 (j := 26) (want := false) (t := 33) Z Z Z Z (fun hg4 kk4 => am (wgE Z Z Z hg4) Z Z (ab bq Z ts2 Z Z) (am (wgE Z Z Z hg4) Z Z (ac tu2 Z Z (ae (H5.box 0 Z) Z)) (ct (wgE Z Z Z hg4) Z Z (aj Tryz.func161 Z bM Z) bj (fun w10 e10 => am (wgE Z Z Z hg4) Z Z (bb Z) (kk4 _ _ (kx Z (kx Z (kx Z (kx Z k0)))) Z (Ext.refl.trans e10)))))) (fun w9 e9 => ?_)));have H6 := H5.to e9;refine sV Z (dQ Z Z) (sM Z Z (bv 4 (j := 32) (want := false) (t := 39) Z Z Z Z (fun hg5 kk5 => am (wgE Z Z Z hg5) Z Z (ab bq Z ts2 Z Z) (am (wgE Z Z Z hg5) Z Z (ac tu2 Z Z (ae (H6.box 0 Z) Z)) (ct (wgE Z Z Z hg5) Z Z (aj Tryz.func161 Z bM Z) bj (fun w12 e12 => am (wgE Z Z Z hg5) Z Z (bb Z) (kk5 _ _ (kx Z (kx Z (kx Z (kx Z k0)))) Z (Ext.refl.trans e12)))))) (fun w11 e11 => ?_)));have H7 := H6.to e11;refine sV Z (dQ Z Z) (sM Z Z (bv 4 (j := 38) (want := false) (t := 45) Z Z Z Z (fun hg6 kk6 => am (wgE Z Z Z hg6) Z Z (ab bq Z ts2 Z Z) (am (wgE Z Z Z hg6) Z Z (ac tu2 Z Z (ae (H7.box 0 Z) Z)) (ct (wgE Z Z Z hg6) Z Z (aj Tryz.func161 Z bM Z) bj (fun w14 e14 => am (wgE Z Z Z hg6) Z Z (bb Z) (kk6 _ _ (kx Z (kx Z (kx Z (kx Z k0)))) Z (Ext.refl.trans e14)))))) (fun w13 e13 => ?_)));have H8 := H7.to e13;refine sV Z (dQ Z Z) (aa (bP Z (fun c1 => ?_) (fun c1 => ?_)))
 ·refine ag (sA Z Z (aa (rT hQ Tryz.results156 Z ?_)));exact ⟨H8.ext, Shape.no (by simpa only [Shape.ok, Bool.not_and] using c1)⟩
 ·refine ak (ag (sA Z Z (aa (rT hQ Tryz.results156 Z ?_))));exact ⟨H8.ext, Shape.yes (by simpa only [Shape.ok, Bool.not_and] using c1)⟩
theorem lI {w : World} {s : Shape}  : Ret Tryz.prog 164 #[s.v] w fun v w' => Ext No w w' ∧ (v = .int .i64 s.fault) := by
 refine aF (vs := [s.v]) Tryz.func164 Z Tryz.ntmps164 Z (fun Q hQ hN => ?_);have H0 := Sep.start (w := w) (F := []) (by simp);refine ag (be (wn Z) Z Z H0 (fun b1 w1 e1 g1 H1 => ?_));refine sA Z Z (aa (ag (sV Z (ab bq Z ts2 Z Z) (sV Z (ac tu2 Z Z (ae (H1.box 0 Z) Z)) (ay (wn Z) Z Z (aj Tryz.func168 Z cl Z) bu (fun v1 w2 r1 => ?_))))));obtain ⟨e2, rfl⟩ := r1;have H2 := H1.to e2;refine sM Z Z (bv 3 (j := 3) (want := true) (t := 10) Z Z Z Z (fun hg1 kk1 => am (wgE Z Z Z hg1) Z Z (ab bq Z ts2 Z Z) (am (wgE Z Z Z hg1) Z Z (ac tu2 Z Z (ae (H2.box 0 Z) Z)) (ct (wgE Z Z Z hg1) Z Z (aj Tryz.func168 Z cl Z) bu (fun w4 e4 => kk1 _ _ (kx Z (kx Z (kx Z k0))) Z (Ext.refl.trans e4))))) (fun w3 e3 => ?_));have H3 := H2.to e3;refine sV Z (bg Z Z) (sM Z Z (bv 3 (j := 8) (want := true) (t := 15) Z Z Z Z (fun hg2 kk2 => am (wgE Z Z Z hg2) Z Z (ab bq Z ts2 Z Z) (am (wgE Z Z Z hg2) Z Z (ac tu2 Z Z (ae (H3.box 0 Z) Z)) (ct (wgE Z Z Z hg2) Z Z (aj Tryz.func168 Z cl Z) bu (fun w6 e6 => kk2 _ _ (kx Z (kx Z (kx Z k0))) Z (Ext.refl.trans e6))))) (fun w5 e5 => ?_)));have H4 := H3.to e5;refine sV Z (bg Z Z) (sM Z Z (bv 3 (j := 13) (want := true) (t := 20) Z Z Z Z (fun hg3 kk3 => am (wgE Z Z Z hg3) Z Z (ab bq Z ts2 Z Z) (am (wgE Z Z Z hg3) Z Z (ac tu2 Z Z (ae (H4.box 0 Z) Z)) (ct (wgE Z Z Z hg3) Z Z (aj Tryz.func168 Z cl Z) bu (fun w8 e8 => kk3 _ _ (kx Z (kx Z (kx Z k0))) Z (Ext.refl.trans e8))))) (fun w7 e7 => ?_)));have H5 := H4.to e7;refine sV Z (bg Z Z) (sA Z Z (aa (ag (sM Z Z (sM Z Z (bv 3 (j := 1) (want := true) (t := 26) Z Z Z Z (fun hg4 kk4 => am (wgE Z Z Z hg4) Z Z (ab bq Z ts2 Z Z) (am (wgE Z Z Z hg4) Z Z (ac tu2 Z Z (ae (H5.box 0 Z) Z)) (ct (wgE Z Z Z hg4) Z Z (aj Tryz.func168 Z cl Z) bu (fun w10 e10 => kk4 _ _ (kx Z (kx Z (kx Z k0))) Z (Ext.refl.trans e10))))) (fun w9 e9 => ?_)))))));have H6 := H5.to e9;refine sV Z (bg Z Z) (sM Z Z (bv 3 (j := 6) (want := true) (t := 31) Z Z Z Z (fun hg5 kk5 => am (wgE Z Z Z hg5) Z Z (ab bq Z ts2 Z Z) (am (wgE Z Z Z hg5) Z Z (ac tu2 Z Z (ae (H6.box 0 Z) Z)) (ct (wgE Z Z Z hg5) Z Z (aj Tryz.func168 Z cl Z) bu (fun w12 e12 => kk5 _ _ (kx Z (kx Z (kx Z k0))) Z (Ext.refl.trans e12))))) (fun w11 e11 => ?_)));have H7 := H6.to e11;refine sV Z (bg Z Z) (sM Z Z (bv 3 (j := 11) (want := true) (t := 36) Z Z Z Z (fun hg6 kk6 => am (wgE Z Z Z hg6) Z Z (ab bq Z ts2 Z Z) (am (wgE Z Z Z hg6) Z Z (ac tu2 Z Z (ae (H7.box 0 Z) Z)) (ct (wgE Z Z Z hg6) Z Z (aj Tryz.func168 Z cl Z) bu (fun w14 e14 => kk6 _ _ (kx Z (kx Z (kx Z k0))) Z (Ext.refl.trans e14))))) (fun w13 e13 => ?_)));have H8 := H7.to e13;refine sV Z (bg Z Z) (sM Z Z (bv 3 (j := 16) (want := true) (t := 41) Z Z Z Z (fun hg7 kk7 => am (wgE Z Z Z hg7) Z Z (ab bq Z ts2 Z Z) (am (wgE Z Z Z hg7) Z Z (ac tu2 Z Z (ae (H8.box 0 Z) Z)) (ct (wgE Z Z Z hg7) Z Z (aj Tryz.func168 Z cl Z) bu (fun w16 e16 => kk7 _ _ (kx Z (kx Z (kx Z k0))) Z (Ext.refl.trans e16))))) (fun w15 e15 => ?_)));have H9 := H8.to e15;refine sV Z (bg Z Z) (sA Z Z (aa (ah (ag (sM Z Z (sV Z (bb Z) (sM Z Z (bv 4 (j := 2) (want := false) (t := 49) Z Z Z Z (fun hg8 kk8 => am (wgE Z Z Z hg8) Z Z (ab bq Z ts2 Z Z) (am (wgE Z Z Z hg8) Z Z (ac tu2 Z Z (ae (H9.box 0 Z) Z)) (ct (wgE Z Z Z hg8) Z Z (aj Tryz.func168 Z cl Z) bu (fun w18 e18 => am (wgE Z Z Z hg8) Z Z (bb Z) (kk8 _ _ (kx Z (kx Z (kx Z (kx Z k0)))) Z (Ext.refl.trans e18)))))) (fun w17 e17 => ?_)))))))));have H10 := H9.to e17;refine sV Z (dQ Z Z) (aa (bP Z (fun c1 => ?_) (fun c1 => ?_)))
 ·refine ag (sA Z Z (aa (rT hQ Tryz.results164 Z ?_)));exact ⟨H10.ext, Shape.no (by simpa only [Shape.ok, cOK, rOK, Bool.not_and, Bool.or_assoc] using c1)⟩
 ·refine ak (ag (sA Z Z (aa (rT hQ Tryz.results164 Z ?_))));exact ⟨H10.ext, Shape.yes (by simpa only [Shape.ok, cOK, rOK, Bool.not_and, Bool.or_assoc] using c1)⟩
end Go.Wk
namespace Go.Wk
open Go.Proofs Rp
set_option maxRecDepth 10000
theorem mu {w : World} {b : ByteArray} (hb : b.size ≤ maxLen) : Ret Tryz.prog 109 #[.string b] w fun v w' => Ext No w w' ∧ (v = .int .i64 (cT b)) := by
 unfold maxLen at hb;refine aF (vs := [.string b]) Tryz.func109 Z Tryz.ntmps109 Z (fun Q hQ hN => ?_);have H0 := Sep.start (w := w) (F := []) (by simp);refine ag (sA Z Z (aa (ah (ag (sM Z Z (sV Z (mh tu9 Z) (sV Z (aD Z Z) (sM Z Z (bv 3 (j := 3) (want := false) (t := 10) Z Z Z Z (fun hg1 kk1 => am (wgE Z Z Z hg1) Z Z (aG Z) (am (wgE Z Z Z hg1) Z Z (mh tu9 Z) (am (wgE Z Z Z hg1) Z Z (bU Z Z) (kk1 _ _ (kx Z (kx Z (kx Z k0))) Z Ext.refl)))) (fun w1 e1 => ?_))))))))));have H1 := H0.to e1;refine sV Z (dQ Z Z) (sM Z Z (bv 3 (j := 8) (want := false) (t := 15) Z Z Z Z (fun hg2 kk2 => am (wgE Z Z Z hg2) Z Z (aG Z) (am (wgE Z Z Z hg2) Z Z (fL tu9 Z Z 0 (by omega) (by first | omega | (simp only [Bool.or_eq_false_iff, Bool.and_eq_true, Bool.and_eq_false_iff, Bool.or_eq_true, Bool.not_eq_true', Bool.not_eq_false', decide_eq_true_eq, decide_eq_false_iff_not] at hg2; omega))) (am (wgE Z Z Z hg2) Z Z (aD Z Z) (kk2 _ _ (kx Z (kx Z (kx Z k0))) Z Ext.refl)))) (fun w2 e2 => ?_)));have H2 := H1.to e2;refine sV Z (dQ Z Z) (sM Z Z (bv 3 (j := 13) (want := false) (t := 20) Z Z Z Z (fun hg3 kk3 => am (wgE Z Z Z hg3) Z Z (aG Z) (am (wgE Z Z Z hg3) Z Z (fL tu9 Z Z 0 (by omega) (by first | omega | (simp only [Bool.or_eq_false_iff, Bool.and_eq_true, Bool.and_eq_false_iff, Bool.or_eq_true, Bool.not_eq_true', Bool.not_eq_false', decide_eq_true_eq, decide_eq_false_iff_not] at hg3; omega))) (am (wgE Z Z Z hg3) Z Z (bU Z Z) (kk3 _ _ (kx Z (kx Z (kx Z k0))) Z Ext.refl)))) (fun w3 e3 => ?_)));have H3 := H2.to e3;refine sV Z (dQ Z Z) (aa (bP Z (fun c1 => ?_) (fun c1 => ?_)))
 ·refine ag (sA Z Z (aa (rT hQ Tryz.results109 Z (⟨H3.ext, qV ?_⟩))))
  by_cases hs : 1 ≤ b.size ∧ b.size ≤ 8
  ·refine nH 0 (by omega) ?_;simp only [vR, Bool.or_eq_true, Bool.or_eq_false_iff, Bool.and_eq_true, Bool.and_eq_false_iff, decide_eq_true_eq, decide_eq_false_iff_not] at c1 ⊢;simp
   omega
  ·simp [jZ]; omega
 ·refine ak (ah (ag (sA Z Z (aa (au ?_)))));simp only [Bool.or_eq_true, Bool.or_eq_false_iff, Bool.and_eq_true, Bool.and_eq_false_iff, decide_eq_true_eq, decide_eq_false_iff_not] at c1;refine bk (γ := Nat) (fun k => [(0, .string b), (3, .int .i64 k)]) (fun k w' => Sep No w [] [] w' ∧ k ≤ b.size ∧ wy b k = true) (fun k => b.size - k) 0 ⟨Z, Z, trivial⟩ ⟨H3, by omega, Z⟩ (fun k w4 H4 => ?_);obtain ⟨H4, hk, hok⟩ := H4;refine ah (ag (sM Z Z (sM Z Z (sV Z (mh tu9 Z) (sV Z (aD Z Z) (aa (az Z (fun c2 => ?_) (fun c2 => ?_))))))))
  ·refine ak (ah (au (ag (sM Z Z (sM Z Z (sV Z (fL tu9 Z Z k (by omega) (by omega)) (sV Z (aD Z Z) (sM Z Z (bv 4 (j := 4) (want := false) (t := 36) Z Z Z Z (fun hg4 kk4 => am (wgE Z Z Z hg4) Z Z (aG Z) (am (wgE Z Z Z hg4) Z Z (aG Z) (am (wgE Z Z Z hg4) Z Z (fL tu9 Z Z k (by omega) (by first | omega | (simp only [Bool.or_eq_false_iff, Bool.and_eq_true, Bool.and_eq_false_iff, Bool.or_eq_true, Bool.not_eq_true', Bool.not_eq_false', decide_eq_true_eq, decide_eq_false_iff_not] at hg4; omega))) (am (wgE Z Z Z hg4) Z Z (bU Z Z) (kk4 _ _ (kx Z (kx Z (kx Z (kx Z k0)))) Z Ext.refl))))) (fun w5 e4 => ?_))))))))));have H5 := H4.to e4;refine sV Z (dQ Z Z) (sM Z Z (bv 10 (j := 10) (want := true) (t := 48) Z Z Z Z (fun hg5 kk5 => am (wgE Z Z Z hg5) Z Z (aG Z) (am (wgE Z Z Z hg5) Z Z (aG Z) (am (wgE Z Z Z hg5) Z Z (fL tu9 Z Z k (by omega) (by first | omega | (simp only [Bool.or_eq_false_iff, Bool.and_eq_true, Bool.and_eq_false_iff, Bool.or_eq_true, Bool.not_eq_true', Bool.not_eq_false', decide_eq_true_eq, decide_eq_false_iff_not] at hg5; omega))) (am (wgE Z Z Z hg5) Z Z (aD Z Z) (am (wgE Z Z Z hg5) Z Z (aG Z) (bv 4 (j := 15) (want := false) (t := 47) Z Z Z Z (fun hg6 kk6 => am (wgE Z Z Z hg6) Z Z (aG Z) (am (wgE Z Z Z hg6) Z Z (aG Z) (am (wgE Z Z Z hg6) Z Z (fL tu9 Z Z k (by omega) (by first | omega | (simp only [Bool.or_eq_false_iff, Bool.and_eq_true, Bool.and_eq_false_iff, Bool.or_eq_true, Bool.not_eq_true', Bool.not_eq_false', decide_eq_true_eq, decide_eq_false_iff_not] at hg5 hg6; omega))) (am (wgE Z Z Z hg6) Z Z (bU Z Z) (kk6 _ _ (kx Z (kx Z (kx Z (kx Z k0)))) Z Ext.refl))))) (fun w7 e6 => am (wgE Z Z Z hg5) Z Z (dQ Z Z) (kk5 _ _ (kx Z (kx Z (kx Z (kx Z (kx Z (kx Z (kx Z k0))))))) Z (Ext.refl.trans e6))))))))) (fun w6 e5 => ?_)));have H7 := H5.to e5;refine sV Z (bg Z Z) (aa (bP Z (fun c3 => ?_) (fun c3 => ?_)))
   ·refine ag (sA Z Z (aa (rT hQ Tryz.results109 Z (⟨H7.ext, qV (nH k (by omega) ?_)⟩))));simp only [vR, Bool.or_eq_true, Bool.or_eq_false_iff, Bool.and_eq_true, Bool.and_eq_false_iff, decide_eq_true_eq, decide_eq_false_iff_not] at c3 ⊢
    omega
   ·refine ak (ao (sM Z Z (sV Z (aB Z Z iO) (sA Z Z (aa (⟨k + 1, ⟨Z, Z, trivial⟩, ⟨H7, by omega, ?_⟩, by dsimp only; omega⟩))))));rw [wy, hok, Bool.true_and];simp only [vR, Bool.or_eq_true, Bool.or_eq_false_iff, Bool.and_eq_true, Bool.and_eq_false_iff, decide_eq_true_eq, decide_eq_false_iff_not] at c3 ⊢;simp only [Bool.not_eq_true', decide_eq_false_iff_not]
    by_cases h0 : k = 0
    ·subst h0; omega
    ·omega
  ·refine aN (ag (sA Z Z (aa (rT hQ Tryz.results109 Z (⟨H4.ext, vN ?_⟩)))));obtain rfl : k = b.size := by omega
   simp only [jZ, hok, Bool.and_true, Bool.or_eq_true, Bool.or_eq_false_iff, Bool.and_eq_true, Bool.and_eq_false_iff, decide_eq_true_eq, decide_eq_false_iff_not]
   omega
theorem mG {w : World} {b : ByteArray} (hb : b.size ≤ maxLen) : Ret Tryz.prog 178 #[.string b] w fun v w' => Ext No w w' ∧ (v = .int .i64 (cT b)) := by
 unfold maxLen at hb;refine aF (vs := [.string b]) Tryz.func178 Z Tryz.ntmps178 Z (fun Q hQ hN => ?_);have H0 := Sep.start (w := w) (F := []) (by simp);refine ag (sA Z Z (aa (ah (ag (sM Z Z (sV Z (mh tu9 Z) (sM Z Z (aa (au (bk (γ := Nat) (fun k => [(0, .string b), (6, .int .i64 b.size), (7, .int .i64 k)]) (fun k w' => Sep No w [] [] w' ∧ k ≤ b.size ∧ wy b k = true) (fun k => b.size - k) 0 ⟨Z, Z, Z, trivial⟩ ⟨H0, by omega, Z⟩ (fun k w1 H1 => ?_)))))))))));obtain ⟨H1, hk, hok⟩ := H1;refine ag (sV Z (aD Z Z) (aa (ah (az Z (fun c1 => ?_) (fun c1 => ?_)))))
 ·refine ak (ah (au (ag (sM Z Z (sA Z Z (aa (ag (sM Z Z (sM Z Z (sV Z (fL tu9 Z Z k (by omega) (by omega)) (sV Z (fA Z Z) (sM Z Z (bv 4 (j := 4) (want := true) (t := 18) Z Z Z Z (fun hg1 kk1 => am (wgE Z Z Z hg1) Z Z (aG Z) (am (wgE Z Z Z hg1) Z Z (aG Z) (am (wgE Z Z Z hg1) Z Z (fL tu9 Z Z k (by omega) (by first | omega | (simp only [Bool.or_eq_false_iff, Bool.and_eq_true, Bool.and_eq_false_iff, Bool.or_eq_true, Bool.not_eq_true', Bool.not_eq_false', decide_eq_true_eq, decide_eq_false_iff_not] at hg1; omega))) (am (wgE Z Z Z hg1) Z Z (kJ Z Z) (kk1 _ _ (kx Z (kx Z (kx Z (kx Z k0)))) Z Ext.refl))))) (fun w2 e1 => ?_))))))))))))));have H2 := H1.to e1;refine sV Z (bg Z Z) (sA Z Z (aa (ag (sM Z Z (sV Z (bb Z) (sM Z Z (bv 14 (j := 2) (want := true) (t := 36) Z Z Z Z (fun hg2 kk2 => am (wgE Z Z Z hg2) Z Z (aG Z) (am (wgE Z Z Z hg2) Z Z (ba Z Z) (am (wgE Z Z Z hg2) Z Z (aG Z) (bv 4 (j := 5) (want := false) (t := 29) Z Z Z Z (fun hg3 kk3 => am (wgE Z Z Z hg3) Z Z (aG Z) (am (wgE Z Z Z hg3) Z Z (aG Z) (am (wgE Z Z Z hg3) Z Z (fL tu9 Z Z k (by omega) (by first | omega | (simp only [Bool.or_eq_false_iff, Bool.and_eq_true, Bool.and_eq_false_iff, Bool.or_eq_true, Bool.not_eq_true', Bool.not_eq_false', decide_eq_true_eq, decide_eq_false_iff_not] at hg2 hg3; omega))) (am (wgE Z Z Z hg3) Z Z (aD Z Z) (kk3 _ _ (kx Z (kx Z (kx Z (kx Z k0)))) Z Ext.refl))))) (fun w4 e3 => am (wgE Z Z Z hg2) Z Z (dQ Z Z) (am (wgE Z Z Z hg2) Z Z (aG Z) (bv 4 (j := 11) (want := false) (t := 35) Z Z Z Z (fun hg4 kk4 => am (wgE Z Z Z hg4) Z Z (aG Z) (am (wgE Z Z Z hg4) Z Z (aG Z) (am (wgE Z Z Z hg4) Z Z (fL tu9 Z Z k (by omega) (by first | omega | (simp only [Bool.or_eq_false_iff, Bool.and_eq_true, Bool.and_eq_false_iff, Bool.or_eq_true, Bool.not_eq_true', Bool.not_eq_false', decide_eq_true_eq, decide_eq_false_iff_not] at hg2 hg4; omega))) (am (wgE Z Z Z hg4) Z Z (bU Z Z) (kk4 _ _ (kx Z (kx Z (kx Z (kx Z k0)))) Z Ext.refl))))) (fun w5 e4 => am (wgE Z Z Z hg2) Z Z (dQ Z Z) (kk2 _ _ (kx Z (kx Z (kx Z (kx Z (kx Z (kx Z (kx Z (kx Z k0)))))))) Z ((Ext.refl.trans e3).trans e4)))))))))) (fun w3 e2 => ?_))))))));have H5 := H2.to e2;refine sV Z (bg Z Z) (aa (bP Z (fun c2 => ?_) (fun c2 => ?_)))
  ·refine ag (sA Z Z (aa (rT hQ Tryz.results178 Z (⟨H5.ext, qV (nH k (by omega) ?_)⟩))));simp only [vR, Bool.or_eq_true, Bool.or_eq_false_iff, Bool.and_eq_true, Bool.and_eq_false_iff, decide_eq_true_eq, decide_eq_false_iff_not, Bool.not_eq_true', Bool.not_eq_false'] at c2 ⊢
   omega
  ·refine ak (ao (sV Z (aB Z Z iO) (sM Z Z (aa (⟨k + 1, ⟨Z, Z, Z, trivial⟩, ⟨H5, by omega, ?_⟩, by dsimp only; omega⟩)))));rw [wy, hok, Bool.true_and];simp only [vR, Bool.or_eq_true, Bool.or_eq_false_iff, Bool.and_eq_true, Bool.and_eq_false_iff, decide_eq_true_eq, decide_eq_false_iff_not, Bool.not_eq_true', Bool.not_eq_false'] at c2 ⊢
   omega
 ·refine aN (ah (ag (sM Z Z (sV Z (mh tu9 Z) (ay (wn Z) Z Z (aj Tryz.func168 Z cl Z) bu (fun v1 w6 r1 => ?_))))));obtain ⟨e5, rfl⟩ := r1;have H6 := H1.to e5;refine sV Z (bb Z) (aa (bP Z (fun c3 => ?_) (fun c3 => ?_)))
  ·refine ag (sA Z Z (aa (rT hQ Tryz.results178 Z (⟨H6.ext, qV ?_⟩))));have c4 := dp c3;rw [EP] at c4;simp [jZ]
   omega
  ·refine ak (ag (sA Z Z (aa (rT hQ Tryz.results178 Z (⟨H6.ext, vN ?_⟩)))));have c4 := aH c3;rw [ca] at c4;obtain rfl : k = b.size := by omega
   simp only [jZ, hok, Bool.and_true, Bool.or_eq_true, Bool.or_eq_false_iff, Bool.and_eq_true, Bool.and_eq_false_iff, decide_eq_true_eq, decide_eq_false_iff_not]
   omega
theorem dc {w : World} {s : Shape} (hs : s.ok = true) : Ret Tryz.prog 159 #[s.v] w fun v w' => Ext No w w' ∧ (v = .int .i64 (s.Groups + s.Column)) := by
 have sbd := bw hs;refine aF (vs := [s.v]) Tryz.func159 Z Tryz.ntmps159 Z (fun Q hQ hN => ?_);have H0 := Sep.start (w := w) (F := []) (by simp);refine ag (be (wn Z) Z Z H0 (fun b1 w1 e1 g1 H1 => ?_));refine sA Z Z (aa (ag (sV Z (ab bq Z ts2 Z Z) (sV Z (ac tu2 Z Z (ae (H1.box 0 Z) Z)) (sV Z (ab bq Z ts2 Z Z) (sV Z (ac tu2 Z Z (ae (H1.box 0 Z) Z)) (sV Z (aB Z Z iO) (sA Z Z (aa (rT hQ Tryz.results159 Z ?_))))))))));exact ⟨H1.ext, Z⟩
theorem dC {w : World} {s : Shape} (hs : s.ok = true) : Ret Tryz.prog 187 #[s.v] w fun v w' => Ext No w w' ∧ (v = .int .i64 (s.Groups + s.Column)) := by
 have sbd := bw hs;refine aF (vs := [s.v]) Tryz.func187 Z Tryz.ntmps187 Z (fun Q hQ hN => ?_);have H0 := Sep.start (w := w) (F := []) (by simp);refine ag (be (wn Z) Z Z H0 (fun b1 w1 e1 g1 H1 => ?_));refine sA Z Z (aa (ag (sV Z (ab bq Z ts2 Z Z) (sV Z (ac tu2 Z Z (ae (H1.box 0 Z) Z)) (sV Z (ab bq Z ts2 Z Z) (sV Z (ac tu2 Z Z (ae (H1.box 0 Z) Z)) (sV Z (aB Z Z iO) (sA Z Z (aa (rT hQ Tryz.results187 Z ?_))))))))));exact ⟨H1.ext, Z⟩
theorem cS {w : World} {s : Shape} {x : Int} (hs : s.ok = true) : Ret Tryz.prog 103 #[s.v, .int .i64 x] w fun v w' => Ext No w w' ∧ (v = .bool (ins x 0 (s.Groups + s.Column - 1))) := by
 have sbd := bw hs;refine aF (vs := [s.v, .int .i64 x]) Tryz.func103 Z Tryz.ntmps103 Z (fun Q hQ hN => ?_);have H0 := Sep.start (w := w) (F := []) (by simp);refine ag (be (wn Z) Z Z H0 (fun b1 w1 e1 g1 H1 => ?_));refine sA Z Z (aa (ag (sM Z Z (sV Z (an bq Z bQ Z Z (At.whole (H1.box 0 Z))) (ay (wn Z) Z Z (aj Tryz.func187 Z gX Z) (dC (by assumption)) (fun v1 w2 r1 => ?_))))));obtain ⟨e2, rfl⟩ := r1;have H2 := H1.to e2;refine sV Z (bx Z Z iO) (ay (wn Z) Z Z (aj Tryz.func168 Z cl Z) bu (fun v2 w3 r2 => ?_));obtain ⟨e3, rfl⟩ := r2;have H3 := H2.to e3;refine sA Z Z (aa (rT hQ Tryz.results103 Z ?_));exact ⟨H3.ext, Z⟩
theorem pm {w : World} {s : Shape}  : Ret Tryz.prog 62 #[s.v] w fun v w' => Ext No w w' ∧ (v = s.v) := by
 refine aF (vs := [s.v]) Tryz.func62 Z Tryz.ntmps62 Z (fun Q hQ hN => ?_);have H0 := Sep.start (w := w) (F := []) (by simp);refine ag (be (wn Z) Z Z H0 (fun b1 w1 e1 g1 H1 => ?_));refine bZ (wn Z) Z Tryz.zeroValue30 H1 (fun b2 w2 e2 g2 H2 => ?_);refine aa (ag (bZ (wn Z) Z Tryz.zeroValue30 H2 (fun b3 w3 e3 g3 H3 => ?_)));refine aa (ag (sV Z (ab tJ Z ts2 Z Z) (sV Z (ac tu2 Z Z (ae (H3.box 0 Z) Z)) (sV Z (ab bq Z ts2 Z Z) (bT (wn Z) ts2 Z Z Z H3 2 Z Z (fun w4 e4 H4 => ?_))))));dsimp only[lNA,lCA,lSZ,lSS,aO] at H4;refine aa (ag (sV Z (ab tJ Z ts2 Z Z) (sV Z (ac tu2 Z Z (ae (H4.box 0 Z) Z)) (sV Z (ab bq Z ts2 Z Z) (bT (wn Z) ts2 Z Z Z H4 2 Z Z (fun w5 e5 H5 => ?_))))));dsimp only[lNA,lCA,lSZ,lSS,aO] at H5;refine aa (ag (sV Z (ab tJ Z ts2 Z Z) (sV Z (ac tu2 Z Z (ae (H5.box 0 Z) Z)) (sV Z (ab bq Z ts2 Z Z) (bT (wn Z) ts2 Z Z Z H5 2 Z Z (fun w6 e6 H6 => ?_))))));dsimp only[lNA,lCA,lSZ,lSS,aO] at H6;refine aa (ag (sV Z (ab tJ Z ts2 Z Z) (sV Z (ac tu2 Z Z (ae (H6.box 0 Z) Z)) (sV Z (ab bq Z ts2 Z Z) (bT (wn Z) ts2 Z Z Z H6 2 Z Z (fun w7 e7 H7 => ?_))))));dsimp only[lNA,lCA,lSZ,lSS,aO] at H7;refine aa (ag (sV Z (ab tJ Z ts2 Z Z) (sV Z (ac tu2 Z Z (ae (H7.box 0 Z) Z)) (sV Z (ab bq Z ts2 Z Z) (bT (wn Z) ts2 Z Z Z H7 2 Z Z (fun w8 e8 H8 => ?_))))));dsimp only[lNA,lCA,lSZ,lSS,aO] at H8;refine aa (ag (sV Z (ab tJ Z ts2 Z Z) (sV Z (ac tu2 Z Z (ae (H8.box 0 Z) Z)) (sV Z (ab bq Z ts2 Z Z) (bT (wn Z) ts2 Z Z Z H8 2 Z Z (fun w9 e9 H9 => ?_))))));dsimp only[lNA,lCA,lSZ,lSS,aO] at H9;refine aa (ag (sV Z (ab tJ Z ts2 Z Z) (sV Z (ac tu2 Z Z (ae (H9.box 0 Z) Z)) (sV Z (ab bq Z ts2 Z Z) (bT (wn Z) ts2 Z Z Z H9 2 Z Z (fun w10 e10 H10 => ?_))))));dsimp only[lNA,lCA,lSZ,lSS,aO] at H10;refine aa (ag (sV Z (ab tJ Z ts2 Z Z) (sV Z (ac tu2 Z Z (ae (H10.box 0 Z) Z)) (sV Z (ab bq Z ts2 Z Z) (bT (wn Z) ts2 Z Z Z H10 2 Z Z (fun w11 e11 H11 => ?_))))));dsimp only[lNA,lCA,lSZ,lSS,aO] at H11;refine aa (ag (sV Z (ab tJ Z ts2 Z Z) (sV Z (ac tu2 Z Z (ae (H11.box 0 Z) Z)) (sV Z (ab bq Z ts2 Z Z) (bT (wn Z) ts2 Z Z Z H11 2 Z Z (fun w12 e12 H12 => ?_))))));dsimp only[lNA,lCA,lSZ,lSS,aO] at H12;refine aa (ag (sV Z (an bq Z bQ Z Z (At.whole (H12.box 2 Z))) (bf (wn Z) bQ Z Z Z Z H12 1 Z Z (fun w13 e13 H13 => ?_))));dsimp only[lNA,lCA,lSZ,lSS,aO] at H13;refine aa (bJ (hQ _ _ (dr Tryz.results62 Z (aL bq Z bQ Z (At.whole (H13.box 1 Z))) ?_)));exact ⟨H13.ext, Z⟩
end Go.Wk
namespace Go.Wk
open Rp (sz own)
theorem vt (xs : List UInt8) : cU xs 0 = List.replicate xs.length 0 := by
  refine List.ext_getElem (by simp [cU]) fun i h1 h2 => ?_
  simp [cU, fc]
theorem vk {xs ys : List UInt8} {i : Nat} (h : i < xs.length) (h2 : i < ys.length) : (gP xs ys).getD i 0 = xs.getD i 0 ^^^ ys.getD i 0 := by
  simp [gP, List.getD, List.getElem?_zipWith, h, h2]
theorem vM {xs : List UInt8} {m : Nat} (h : xs.length = m) : gP xs (List.replicate m 0) = xs := by
  refine dg (d := 0) (by rw [gm (by simp [h])]) fun k hk => ?_
  rw [gm (by simp [h])] at hk
  rw [vk hk (by simp; omega)]
  have : k < m := by omega
  simp [List.getD, List.getElem?_replicate, this]
theorem wJ {xs : List UInt8} {m : Nat} (h : xs.length = m) : gP (List.replicate m 0) xs = xs := by
  refine dg (d := 0) (by rw [gm (by simp [h])]; simp [h]) fun k hk => ?_
  rw [gm (by simp [h])] at hk
  simp at hk
  rw [vk (by simpa using hk) (by omega)]
  simp [List.getD, List.getElem?_replicate, hk]
theorem Sep.part {M w0 Δ F} {w : World} (h : Sep M w0 Δ F w) (i : Nat) {r : Rsc} (hi : Δ[i]? = some r) (rs : List Rsc) (hrs : ∀ q ∈ rs, q.φ w) (hb : blocks rs = r.fp) : Sep M w0 (Δ.set i gone ++ rs) F w := by
  have hx := il hi h.nd
  have hsub : ∀ b, b ∈ blocks (Δ.set i gone) → b ∈ blocks Δ := fun b hb => by
    rcases eI hi b hb with h | h
    · simp [gone] at h
    · exact h
  have hmem : ∀ b ∈ r.fp, b ∈ blocks Δ := fun b hb => cd.2 ⟨r, List.mem_of_getElem? hi, hb⟩
  refine ⟨h.ext, fun q hq => ?_, ?_, fun b hb' => ?_, h.fs, fun q hq b hbq hb' => ?_⟩
  · rcases List.mem_append.1 hq with hq | hq
    · rcases gY (q := gone) hi h.nd q hq with rfl | ⟨hq, _⟩
      · trivial
      · exact h.rs q hq
    · exact hrs q hq
  · rw [fI, hb]
    refine List.nodup_append.2 ⟨iP hi h.nd (by simp [gone]) (by simp [gone]), h.nodup1 hi, fun x hx1 y hy e => ?_⟩
    subst e
    exact hx x hy hx1
  · rw [fI, hb] at hb'
    rcases List.mem_append.1 hb' with hb' | hb'
    · exact h.new b (hsub b hb')
    · exact h.new b (hmem b hb')
  · rw [fI, hb] at hb'
    rcases List.mem_append.1 hb' with hb' | hb'
    · exact h.ap q hq b hbq (hsub b hb')
    · exact h.ap q hq b hbq (hmem b hb')
end Go.Wk
namespace Go.Wk
open Rp (sz own)
section
variable {P : Program} {n : Nat} {L : Env} {w : World} {d : Option Tmp} {ty : TypeId} {p : String} {af : Array Edge} {g : Option (Nat × Bool)}
theorem fK {f : FuncId} {fn : Func} {x : Operand} {xs : Array Operand} {ats : Array TypeId} {vs lb : List Value} (hx : evL L x = some (.func (.func f) #[] lb.toArray)) (hf : P.funcs[f]? = some fn) (hb : fn.body.isNone = false) (hnm : (fn.name == "runtime.NumGoroutine") = false)
    (hv : kA L xs.toList = some vs) : Pc P n L w ⟨d, .call ⟨.value x, xs, ats⟩, ty, p, af, g⟩ f (vs ++ lb).toArray := fun a ha => by
  have hm : xs.map a.eval = vs.toArray := by
    have key : ∀ (l : List Operand) (vs : List Value), kA L l = some vs → l.map a.eval = vs := by
      intro l
      induction l with
      | nil => intro vs h; simp [kA] at h; simp [h]
      | cons x l ih =>
        intro vs h
        unfold kA at h
        split at h
        · rename_i v us hv hus
          cases h
          simp [ha.eval hv, ih us hus]
        · cases h
    have := key _ _ hv
    apply Array.toList_inj.1
    simpa using this
  have hb' : ¬ fn.body = none := fun e => by rw [e] at hb; simp at hb
  have hnm' : ¬ fn.name = "runtime.NumGoroutine" := fun e => by rw [e] at hnm; simp at hnm
  simp [execOp, resolve, Deferred.ofValue, invoke, callFunc, hf, hb', hnm', hm, ha.eval hx]
def strB (xs : List UInt8) : ByteArray := ⟨xs.toArray⟩
theorem CM {xs ys : List UInt8} : strB xs = strB ys ↔ xs = ys := by
  constructor
  · intro h
    have : (strB xs).data.toList = (strB ys).data.toList := by rw [h]
    simpa [strB] using this
  · rintro rfl; rfl
theorem uC (xs : List UInt8) : (strB xs).size = xs.length := by simp [strB, ByteArray.size]
theorem Fl (xs : List UInt8) : strOfNums (xs.map fun x => (x.toNat : Int)) = strB xs := by
  simp only [strOfNums, strB, List.map_map]
  congr 2
  refine (List.map_congr_left (g := id) fun a _ => ?_).trans (List.map_id xs)
  simp
theorem Do {src e dst : TypeId} (hs : P.underlying src = some (.slice e)) (he : P.underlying e = some (.int .u8)) (hd : P.underlying dst = some .string) {s ad n cap} {xs : List UInt8} {f} (h : own s w [.slice ad n cap] xs f) :
    (convert src dst (.slice ad n cap)).run P w = .ok (.string (strB xs)) w := by
  obtain rfl := dP h
  cases ad with
  | none =>
    have : xs = [] := by
      by_cases h0 : 0 < xs.length
      · obtain ⟨_, _, _, _, e, _⟩ := qU h h0; cases e
      · exact List.eq_nil_of_length_eq_zero (by omega)
    subst this
    rw [run_convert_bytes_nil w src e hs he _ _ dst hd]
    rfl
  | some a =>
    by_cases h0 : 0 < xs.length
    · obtain ⟨b, o, _, _, e1, _⟩ := qU h h0
      cases e1
      rw [run_convert_bytes_arg w src e hs he b o xs.length cap (xs.map fun x => (x.toNat : Int)) (by simp) (fun i hi => ?_) dst hd, Fl]
      obtain ⟨b2, o2, e2, hc⟩ := b0 h i hi
      cases e2
      rw [Nat.mul_one] at hc
      rw [hc]
      simp [List.getD, hi]
    · have : xs = [] := List.eq_nil_of_length_eq_zero (by omega)
      subst this
      rw [run_convert_bytes_string w src dst e _ _ cap hs he hd, run_bytesToString w _ _ cap [] (by simp [loadCells, loadCellsFrom])]
      rfl
theorem wS {src e dst : TypeId} {x : Operand} {s ad m cap} {xs : List UInt8} {f} (hs : P.underlying src = some (.slice e)) (he : P.underlying e = some (.int .u8)) (hd : P.underlying dst = some .string) (hx : evL L x = some (.slice ad m cap))
    (h : own s w [.slice ad m cap] xs f) : Py P n L w ⟨d, .convert src dst x, ty, p, af, g⟩ (.string (strB xs)) := fun a ha => by
  simp [execOp, ha.eval hx, Do hs he hd h]
theorem BK {b o m s : Nat} : slA (some ⟨b, o, none⟩) 0 m s = some ⟨b, o, none⟩ := by
  unfold slA; split
  · rfl
  · simp [iL]
theorem Af {t e : TypeId} {x hi : Operand} {b o len cap s : Nat} {k2 : IntKind} {h : Int} (hu : P.underlying t = some (.slice e)) (hs : ∀ w, (sizeOf e).run P w = .ok s w)
    (hx : evL L x = some (.slice (some ⟨b, o, none⟩) len cap)) (hh : evL L hi = some (.int k2 h)) (h' : Nat) (eh : h = h') (h2 : h' ≤ cap) :
    Py P n L w ⟨d, .slice t x none (some hi) none, ty, p, af, g⟩ (.slice (some ⟨b, o, none⟩) h' cap) := by
  have := Ah (n := n) (w := w) (d := d) (ty := ty) (p := p) (af := af) (g := g) hu hs hx hh h' eh h2
  rwa [BK] at this
end
end Go.Wk
namespace Go.Wk
open Rp (sz own)
def hZ {α : Type} (p : α → Bool) (xs : List α) : Int := match xs.findIdx? p with
  | some k => k
  | none => -1
theorem kU {α : Type} {p : α → Bool} {xs : List α} {d : α} {k : Nat} (hk : k < xs.length) (h : p (xs.getD k d) = true) (hn : ∀ i, i < k → p (xs.getD i d) = false) : hZ p xs = k := by
  have : xs.findIdx? p = some k := by
    rw [List.findIdx?_eq_some_iff_getElem]
    refine ⟨hk, ?_, fun j hj => ?_⟩
    · simpa [List.getD, hk] using h
    · have := hn j hj
      have hj' : j < xs.length := by omega
      simpa [List.getD, hj'] using this
  simp [hZ, this]
theorem la {α : Type} {p : α → Bool} {xs : List α} {d : α} (hn : ∀ i, i < xs.length → p (xs.getD i d) = false) : hZ p xs = -1 := by
  have : xs.findIdx? p = none := by
    rw [List.findIdx?_eq_none_iff]
    intro x hx
    obtain ⟨i, hi, rfl⟩ := List.getElem_of_mem hx
    have := hn i hi
    simpa [List.getD, hi] using this
  simp [hZ, this]
theorem jJ {α : Type} {p : α → Bool} {xs : List α} : decide (0 ≤ hZ p xs) = xs.any p := by
  unfold hZ
  cases h : xs.findIdx? p with
  | none =>
    rw [List.findIdx?_eq_none_iff] at h
    have : xs.any p = false := by simpa using h
    simp [this]
  | some k =>
    rw [List.findIdx?_eq_some_iff_getElem] at h
    obtain ⟨hk, hp, _⟩ := h
    have : xs.any p = true := List.any_eq_true.2 ⟨_, List.getElem_mem hk, hp⟩
    simp [this]
end Go.Wk
namespace Go.Wk
open Rp (sz own)
section
variable {P : Program} {n : Nat} {ops : Array Oper} {Q : Post} {S : World → Prop} {L : Env} {w w0 : World} {M : Nat → Prop} {Δ F : List Rsc} {i : Nat} {d : Tmp} {ty : TypeId} {p : String} {af : Array Edge} {g : Option (Nat × Bool)} {rest : List (Nat × Bool)}
theorem bY {t : TypeId} {x y : Operand} {b off : Nat} {cs : List Value} {T v} (ho : ops.toList[i]? = some ⟨none, .store t x y, ty, p, af, g⟩) (hw : Wn ops n L ⟨none, .store t x y, ty, p, af, g⟩) (hs : ∀ w, (sizeOf t).run P w = .ok 1 w) (hx : evL L x = some (.pointer (some ⟨b, off, none⟩))) (hy : evL L y = some v) (h1 : v.oneCell' = true)
    (H : Sep M w0 Δ F w) (j : Nat) (hi : Δ[j]? = some (box b (.cells cs.toArray T))) (hf : Nat.blt off cs.length = true) (hS : ∀ w', S w → Ext (· = b) w w' → rest ≠ [] → S w')
    (k : ∀ w', Ext (· = b) w w' → Sep M w0 (Δ.set j (box b (.cells (cs.set off v).toArray T))) F w' → DL P n ops Q S rest L w') :
    DL P n ops Q S ((i, false) :: rest) L w := by
  have h := k _ (Ext.refl.put (.inl rfl)) (H.put j _ hi)
  rw [← List.setIfInBounds_toArray] at h
  exact vm ho hw rfl (er hs hx hy h1 (H.box j hi) (by rw [List.size_toArray]; exact Nat.le_of_ble_eq_true hf)) (fun hSw hr => hS _ hSw (Ext.refl.put (.inl rfl)) hr) h
end
end Go.Wk
namespace Go.Wk
open Rp (sz own)
section
variable {P : Program} {n : Nat} {L : Env} {w : World} {d : Option Tmp} {ty : TypeId} {p : String} {af : Array Edge} {g : Option (Nat × Bool)}
theorem tO {t e : TypeId} {a : Option Addr} {m c : Nat} (hu : P.underlying t = some (.slice e)) : (binOp .eql t (.slice a m c) (.slice none 0 0)).run P w = .ok (.bool a.isNone) w := by
  have h : ∀ d, (Op.equalIn (d + 1) t (.slice a m c) (.slice none 0 0)).run P w = .ok a.isNone w := by
    intro d; cases a <;> simp [Op.equalIn, run_underlying hu]
  have h2 : (Op.equal t (.slice a m c) (.slice none 0 0)).run P w = .ok a.isNone w := h 9999
  simp only [binOp]
  simp [h2]
theorem rD {t e : TypeId} {x y : Operand} {yt : TypeId} {a : Option Addr} {m c : Nat} (hu : P.underlying t = some (.slice e)) (hx : evL L x = some (.slice a m c)) (hy : evL L y = some (.slice none 0 0)) :
    Py P n L w ⟨d, .binOp .eql t x y yt, ty, p, af, g⟩ (.bool a.isNone) := fun a ha => by
  simp [execOp, ha.eval hx, ha.eval hy, eqGuard, tO hu]
end
theorem tn {α : Type} [Rp α] {s w ad m c} {xs : List α} {f} (h : own s w [.slice ad m c] xs f) (ha : ad.isNone = true) : xs = [] := by
  by_cases h0 : 0 < xs.length
  · obtain ⟨b, o, _, _, e, _⟩ := qU h h0
    subst e; simp at ha
  · exact List.eq_nil_of_length_eq_zero (by omega)
theorem Ea {a b : Int} (h : 0 ≤ a) (hb : 0 < b) : 0 ≤ a.tdiv b ∧ a.tdiv b ≤ a := by
  rw [Int.tdiv_eq_ediv_of_nonneg h]
  exact ⟨Int.ediv_nonneg h (by omega), Int.ediv_le_self _ h⟩
theorem DZ {a b : Int} (h : 0 ≤ a) (hb : 0 < b) : 0 ≤ a.tmod b ∧ a.tmod b < b := ⟨Int.tmod_nonneg _ h, Int.tmod_lt_of_pos _ hb⟩
theorem vq {w : World} : ∀ {xs : List Int}, (∀ x ∈ xs, I64ok x) → cr true w (xs.map (Value.int .i64)) xs []
  | [], _ => rfl
  | x :: xs, h => ⟨[], [], rfl, ⟨by simp [sz], rfl, h x (by simp)⟩, by simpa [sz] using vq (w := w) (xs := xs) fun y hy => h y (by simp [hy])⟩
end Go.Wk
namespace Go.Wk
open Rp (sz own)
abbrev Mat := List (List UInt8)
def entry (m : Mat) (i c : Nat) : UInt8 := (m.getD i []).getD c 0
def l4 (m : Mat) (c r : Nat) : Nat := r + (m.drop r).findIdx (fun row => row.getD c 0 != 0)
theorem iS {α : Type} {xs : List α} {r j : Nat} {d : α} : (xs.drop r).getD j d = xs.getD (r + j) d := by
  simp [List.getD, List.getElem?_drop]
theorem oV {m : Mat} {c r k : Nat} (h1 : r ≤ k) (h2 : k ≤ m.length) (h0 : ∀ j, r ≤ j → j < k → entry m j c = 0) (hk : k = m.length ∨ entry m k c ≠ 0) : l4 m c r = k := by
  have hl : (m.drop r).length = m.length - r := List.length_drop
  have e : (m.drop r).findIdx (fun row => row.getD c 0 != 0) = k - r := by
    rcases hk with rfl | hk
    · rw [← hl, List.findIdx_eq_length]
      intro x hx
      obtain ⟨j, hj, rfl⟩ := List.getElem_of_mem hx
      have := h0 (r + j) (by omega) (by omega)
      rw [entry, ← iS (d := [])] at this
      have e : m.getD (r + j) [] = m[r + j]'(by omega) := by simp [List.getD, show r + j < m.length by omega]
      rw [iS, e] at this
      simpa using this
    · have hlt : k < m.length := Decidable.byContradiction fun h => hk (by
        have : m.getD k [] = [] := by simp [List.getD, List.getElem?_eq_none (Nat.le_of_not_lt h)]
        rw [entry, this]; rfl)
      have hlt' : k - r < (m.drop r).length := by omega
      rw [List.findIdx_eq hlt']
      refine ⟨?_, fun j hj => ?_⟩
      · rw [entry, show k = r + (k - r) by omega, ← iS (d := [])] at hk
        have e : m.getD (r + (k - r)) [] = m[r + (k - r)]'(by omega) := by simp [List.getD, show r + (k - r) < m.length by omega]
        rw [iS, e] at hk
        simpa using hk
      · have hj' : j < (m.drop r).length := by omega
        have := h0 (r + j) (by omega) (by omega)
        rw [entry, ← iS (d := [])] at this
        have e : m.getD (r + j) [] = m[r + j]'(by omega) := by simp [List.getD, show r + j < m.length by omega]
        rw [iS, e] at this
        simpa using this
  rw [l4, e]; omega
def um (m : Mat) (r a : Nat) : Mat := (m.set r (m.getD a [])).set a (m.getD r [])
def kp (m : Mat) (c r a : Nat) : Mat := (m.set a (m.getD r [])).set r (cU (m.getD a []) (pG (entry m a c)))
def cB (m : Mat) (c r k : Nat) : Mat := (List.range m.length).map fun i => if i < k ∧ i ≠ r then gP (m.getD i []) (cU (m.getD r []) (entry m i c)) else m.getD i []
def stepM (m : Mat) (c r : Nat) : Mat × Nat := if m.length ≤ l4 m c r then (m, r) else (cB (kp m c r (l4 m c r)) c r m.length, r + 1)
def eX (m : Mat) : Nat → Mat × Nat
  | 0 => (m, 0)
  | c + 1 => stepM (eX m c).1 c (eX m c).2
theorem pA {α : Type} {xs : List α} {i j : Nat} {x d : α} : (xs.set i x).getD j d = if j = i ∧ i < xs.length then x else xs.getD j d := by
  simp only [List.getD_eq_getElem?_getD, List.getElem?_set]
  by_cases h : i = j
  · subst h
    by_cases h2 : i < xs.length
    · simp [h2]
    · simp [h2]
  · rw [if_neg h, if_neg (fun e => h e.1.symm)]
theorem yr {m : Mat} {c r k : Nat} : (cB m c r k).length = m.length := by simp [cB]
theorem DD {m : Mat} {r a : Nat} (hr : r < m.length) (ha : a < m.length) : (um m r a).getD r [] = m.getD a [] := by
  rw [um, pA, pA]
  by_cases h : r = a
  · subst h; simp [hr]
  · simp [h, hr]
theorem BB {m : Mat} {c r a : Nat} : (um m r a).set r (cU (m.getD a []) (pG (entry m a c))) = kp m c r a := by
  rw [um, kp]
  by_cases h : r = a
  · subst h; simp
  · rw [List.set_comm _ _ h, List.set_set]
theorem qp {m : Mat} {c r : Nat} : cB m c r 0 = m := by
  refine List.ext_getElem (by simp [cB]) fun i h1 h2 => ?_
  simp [cB, List.getD, h2]
theorem nx {m : Mat} {c r k i : Nat} (hi : i < m.length) : (cB m c r k).getD i [] = if i < k ∧ i ≠ r then gP (m.getD i []) (cU (m.getD r []) (entry m i c)) else m.getD i [] := by
  simp [cB, List.getD, hi]
theorem qh {m : Mat} {c r k : Nat} (hk : k < m.length) : (cB m c r k).getD k [] = m.getD k [] := by rw [nx hk, if_neg (by omega)]
theorem vY {m : Mat} {c r k : Nat} (hr : r < m.length) : (cB m c r k).getD r [] = m.getD r [] := by rw [nx hr, if_neg (by omega)]
theorem sT {m : Mat} {c r k : Nat} (hk : k < m.length) (hn : k ≠ r) {z : List UInt8} (hz : z = gP (m.getD k []) (cU (m.getD r []) (entry m k c))) : (cB m c r k).set k z = cB m c r (k + 1) := by
  refine List.ext_getElem (by simp [cB]) fun i h1 h2 => ?_
  rw [List.getElem_set]
  simp only [cB, List.getElem_map, List.getElem_range]
  by_cases e : k = i
  · subst e
    rw [if_pos rfl, if_pos ⟨by omega, hn⟩, hz]
  · rw [if_neg e]
    by_cases h3 : i < k ∧ i ≠ r
    · rw [if_pos h3, if_pos ⟨by omega, h3.2⟩]
    · rw [if_neg h3, if_neg (by omega)]
theorem qz {m : Mat} {c r k : Nat} (hn : k = r ∨ cB m c r (k + 1) = cB m c r k) : cB m c r k = cB m c r (k + 1) := by
  rcases hn with rfl | h
  · refine List.ext_getElem (by simp [cB]) fun i h1 h2 => ?_
    simp only [cB, List.getElem_map, List.getElem_range]
    by_cases h3 : i < k ∧ i ≠ k
    · rw [if_pos h3, if_pos (by omega)]
    · rw [if_neg h3, if_neg (by omega)]
  · exact h.symm
def Rect (m : Mat) (k l : Nat) : Prop := m.length = k ∧ ∀ i, i < k → (m.getD i []).length = l
theorem u3 {m : Mat} {c r k K l : Nat} (hR : Rect m K l) (hk : k < K) (hr : r < K) (h : entry m k c = 0) : cB m c r k = cB m c r (k + 1) := by
  obtain ⟨h1, h2⟩ := hR
  refine List.ext_getElem (by simp [cB]) fun i h3 h4 => ?_
  simp only [cB, List.getElem_map, List.getElem_range]
  by_cases h5 : i < k ∧ i ≠ r
  · rw [if_pos h5, if_pos ⟨by omega, h5.2⟩]
  · rw [if_neg h5]
    by_cases h6 : i < k + 1 ∧ i ≠ r
    · obtain rfl : i = k := by omega
      rw [if_pos h6, h, vt, vM]
      rw [h2 _ hk, h2 _ hr]
    · rw [if_neg h6]
theorem Rect.set {m : Mat} {K l i : Nat} {x : List UInt8} (h : Rect m K l) (hx : x.length = l) : Rect (m.set i x) K l := by
  refine ⟨by simpa using h.1, fun j hj => ?_⟩
  rw [pA]
  split
  · exact hx
  · exact h.2 j hj
theorem Rect.swap {m : Mat} {K l r a : Nat} (h : Rect m K l) (hr : r < K) (ha : a < K) : Rect (um m r a) K l := (h.set (h.2 a ha)).set (h.2 r hr)
theorem Rect.norm {m : Mat} {K l c r a : Nat} (h : Rect m K l) (hr : r < K) (ha : a < K) : Rect (kp m c r a) K l := (h.set (h.2 r hr)).set (by rw [jk]; exact h.2 a ha)
theorem Rect.elim {m : Mat} {K l c r k : Nat} (h : Rect m K l) (hr : r < K) : Rect (cB m c r k) K l := by
  refine ⟨by rw [yr]; exact h.1, fun i hi => ?_⟩
  rw [nx (by rw [h.1]; exact hi)]
  split
  · rw [gm (by rw [jk, h.2 i hi, h.2 r hr]; exact Nat.le_refl _)]; exact h.2 i hi
  · exact h.2 i hi
theorem wC {m : Mat} {c r : Nat} : r ≤ l4 m c r := Nat.le_add_right _ _
theorem Rect.step {m : Mat} {K l c r : Nat} (h : Rect m K l) (hr : r ≤ K) : Rect (stepM m c r).1 K l ∧ (stepM m c r).2 ≤ K := by
  unfold stepM
  split
  · exact ⟨h, hr⟩
  · rename_i hp
    have h1 := h.1
    have := wC (m := m) (c := c) (r := r)
    exact ⟨(h.norm (by omega) (by omega)).elim (by omega), by show r + 1 ≤ K; omega⟩
theorem Rect.red {m : Mat} {K l : Nat} (h : Rect m K l) : ∀ n, Rect (eX m n).1 K l ∧ (eX m n).2 ≤ K
  | 0 => ⟨h, Nat.zero_le _⟩
  | n + 1 => (h.red n).1.step (h.red n).2
theorem Ce {m : Mat} {c : Nat} (h : (eX m c).2 = (eX m c).1.length) : ∀ n, c ≤ n → eX m n = eX m c := by
  intro n hn
  induction n with
  | zero => have e : c = 0 := by omega
            rw [e]
  | succ n ih =>
    by_cases e : c = n + 1
    · rw [e]
    · have ih := ih (by omega)
      show stepM (eX m n).1 n (eX m n).2 = _
      rw [ih, stepM, if_pos (by rw [← h]; exact wC)]
section
variable {β : Type} [Rp β]
theorem db {w ad n cap} {vs : List View} {xss : List (List β)} {f g s} (h : own s w [.slice ad n cap] vs f) (hr : cr false w (vs.map View.val) xss g) (hl : vs.length = xss.length) (k : Nat) (hk : k < xss.length) :
    ∃ b o a c fk, ad = some ⟨b, o, none⟩ ∧ w.cell? ⟨b, o + k * 1, none⟩ = some (.slice a (xss.getD k []).length c) ∧ own false w [.slice a (xss.getD k []).length c] (xss.getD k []) fk ∧ (∀ b ∈ fk, b ∈ g) ∧ b ∈ f := by
  obtain ⟨b, o, cs, fe, h1, h2, h3, _, h5⟩ := eL h k (by omega)
  obtain ⟨fk, h6, h7⟩ := hr.get k hk
  have e3 : cs = [(vs[k]'(by omega)).val] := h3.1
  have hkm : k < (vs.map View.val).length := by simp; omega
  have e : ((vs.map View.val).drop (k * sz (List β))).take (sz (List β)) = [(vs[k]'(by omega)).val] := by
    show ((vs.map View.val).drop (k * 1)).take 1 = _
    rw [Nat.mul_one, List.drop_eq_getElem_cons hkm, List.take_succ_cons, List.take_zero]
    simp
  rw [e] at h6
  obtain ⟨a, c, e2⟩ := aA h6
  rw [e2] at h6
  rw [show xss.getD k [] = xss[k] from by simp [List.getD, hk]]
  refine ⟨b, o, a, c, fk, h1, ?_, h6, h7, h5⟩
  have := h2 0 _ (by rw [e3, e2]; rfl)
  exact this
theorem Dk {w : World} {vs : List View} {xss : List (List β)} {g : List Nat} (h : cr false w (vs.map View.val) xss g) (hl : vs.length = xss.length) {u : View} {y : List β} {fy} (hy : own false w [u.val] y fy) :
    ∀ k, k < xss.length → ∃ g', cr false w ((vs.set k u).map View.val) (xss.set k y) g' ∧ ∀ b ∈ g', b ∈ g ∨ b ∈ fy := by
  induction vs generalizing xss g with
  | nil => intro k hk; simp at hl; omega
  | cons v vs ih =>
    intro k hk
    cases xss with
    | nil => simp at hl
    | cons x xss =>
      obtain ⟨f1, f2, e, h1, h2⟩ := h
      subst e
      have h1' : own false w [v.val] x f1 := by simpa [sz] using h1
      have h2' : cr false w (vs.map View.val) xss f2 := by simpa [sz] using h2
      cases k with
      | zero =>
        refine ⟨fy ++ f2, ⟨fy, f2, rfl, ?_, ?_⟩, fun b hb => ?_⟩
        · simpa [sz] using hy
        · simpa [sz] using h2'
        · rcases List.mem_append.1 hb with hb | hb
          · exact .inr hb
          · exact .inl (by simp [hb])
      | succ k =>
        obtain ⟨g', hg, hs⟩ := ih h2' (by simpa using hl) k (by simpa using hk)
        refine ⟨f1 ++ g', ⟨f1, g', rfl, ?_, ?_⟩, fun b hb => ?_⟩
        · simpa [sz] using h1'
        · simpa [sz] using hg
        · rcases List.mem_append.1 hb with hb | hb
          · exact .inl (by simp [hb])
          · rcases hs b hb with hb | hb
            · exact .inl (by simp [hb])
            · exact .inr hb
variable {M : Nat → Prop} {w0 w : World} {Δ F : List Rsc}
theorem Sep.rowsAt (h : Sep M w0 Δ F w) (j : Nat) {vs : List View} {xss : List (List β)} {g} (hj : F[j]? = some (rows vs xss g)) : cr false w (vs.map View.val) xss g := h.fs _ (List.mem_of_getElem? hj)
theorem Sep.lookR (h : Sep M w0 Δ F w) (j : Nat) {vs : List View} {xss : List (List β)} {g} (hj : F[j]? = some (rows vs xss g)) {s cs f} {y : List β} (ho : own s w cs y f) (hs : ∀ b ∈ f, b ∈ g) : Sep M w0 Δ (F ++ [Wk.seen s cs y f]) w :=
  h.look (r := Wk.seen s cs y f) ho fun b hb => h.ap _ (List.mem_of_getElem? hj) b (hs b hb)
theorem Sep.fset (h : Sep M w0 Δ F w) (j : Nat) {r : Rsc} (hr : r.φ w) (hd : ∀ b ∈ r.fp, b ∉ blocks Δ) : Sep M w0 Δ (F.set j r) w :=
  h.fto fun q hq => by
    rcases List.mem_or_eq_of_mem_set hq with hq | rfl
    · exact ⟨h.fs q hq, h.ap q hq⟩
    · exact ⟨hr, hd⟩
theorem Sep.rowSet {s : Bool} (h : Sep M w0 Δ F w) (i j e : Nat) {ad n cap} {vs : List View} {xss : List (List β)} {f g} (hi : Δ[i]? = some (Wk.mine [.slice ad n cap] vs f)) (hj : F[j]? = some (rows vs xss g)) {a m c} {y : List β} {fy} (he : F[e]? = some (Wk.seen s [.slice a m c] y fy))
    (hl : vs.length = xss.length) (k : Nat) (hk : k < xss.length) :
    ∃ b o cur T, ad = some ⟨b, o, none⟩ ∧ w.heap[b]? = some (.cells cur T (0, 0)) ∧ o + k < cur.size ∧ b ∈ f ∧
      ∃ f' g', Sep M w0 (Δ.set i (Wk.mine [.slice ad n cap] (vs.set k ⟨a, m, c⟩) f')) (F.set j (rows (vs.set k ⟨a, m, c⟩) (xss.set k y) g')) (Wk.put w b (.cells (cur.setIfInBounds (o + k) (.slice a m c)) T (0, 0))) := by
  obtain ⟨b, o, cur, T, e1, hb, hsz, hs⟩ := h.elset i hi k (by omega)
  obtain ⟨b2, o2, _, _, e2, _, _, _, hbf⟩ := eL (h.mine i hi) k (by omega)
  rw [e1] at e2; cases e2
  have hs1 : (sz View) = 1 := rfl
  rw [hs1] at hsz hs
  obtain ⟨f', H⟩ := hs [.slice a m c] ⟨a, m, c⟩ ⟨rfl, rfl⟩
  have e3 : lay cur (o + k * 1) [.slice a m c] = cur.setIfInBounds (o + k) (.slice a m c) := by rw [Nat.mul_one]; rfl
  rw [e3] at H
  obtain ⟨g', hg, hgs⟩ := Dk (u := ⟨a, m, c⟩) (H.rowsAt j hj) hl (bc (H.seen e he)) k hk
  refine ⟨b, o, cur, T, e1, hb, by omega, hbf, f', g', H.fset j hg fun x hx => ?_⟩
  rcases hgs x hx with hx | hx
  · exact H.ap _ (List.mem_of_getElem? hj) x hx
  · exact H.ap _ (List.mem_of_getElem? he) x hx
theorem Sep.parted (h : Sep M w0 Δ F w) (i : Nat) {ad n cap} {xss : List (List β)} {f} (hi : Δ[i]? = some (Wk.mine [.slice ad n cap] xss f)) :
    ∃ vs f' g, vs.length = xss.length ∧ Sep M w0 (Δ.set i (Wk.mine [.slice ad n cap] (vs : List View) f')) (F ++ [rows vs xss g]) w := by
  have hn := h.nodup1 hi
  have key : ∃ (vs : List View) (f' g : List Nat), vs.length = xss.length ∧ own true w [.slice ad n cap] vs f' ∧ cr false w (vs.map View.val) xss g ∧ (∀ x ∈ f', x ∈ f) ∧ f'.Nodup ∧ (∀ x ∈ g, x ∈ f ∧ x ∉ f') := by
    rcases h.mine i hi with ⟨h1, _⟩ | ⟨h1, rfl, rfl⟩ | ⟨b, o, cap', cur, T, fr, fs, h1, h2, h3, h4, h5, h6, h7, h8⟩
    · cases h1
    · exact ⟨[], [], [], rfl, .inr (.inl ⟨h1, rfl, rfl⟩), rfl, by simp, .nil, by simp⟩
    · subst h2
      have hlen : ((cur.toList.drop o).take xss.length).length = xss.length := by
        have e : cur.toList.length = cur.size := by simp
        have : sz (List β) = 1 := rfl
        rw [this] at h7
        rw [List.length_take, List.length_drop]; omega
      have h9 : cr true w ((cur.toList.drop o).take xss.length) xss fs := h8.congr (by show List.take (xss.length * 1) _ = List.take (xss.length * 1) _; rw [Nat.mul_one, List.take_take, Nat.min_self])
      obtain ⟨vs, e1, e2⟩ := ta h9 hlen
      rw [e1] at h9
      have hb : b ∉ fs := (List.nodup_cons.1 hn).1
      refine ⟨vs, [b], fs, e2, .inr (.inr ⟨b, o, cap', cur, T, fr, [], by rw [h1, e2], rfl, h3, h4, by omega, h6, h7, ?_⟩), h9.weak', by simp, by simp, fun x hx => ⟨by simp [hx], by simp; exact fun e => hb (e ▸ hx)⟩⟩
      refine (t9 (w := w) (vs := vs) (s := true)).congr ?_
      show List.take (vs.length * 1) _ = List.take (vs.length * 1) _
      rw [Nat.mul_one, ← e1, e2, List.take_take, Nat.min_self]
  obtain ⟨vs, f', g, k1, k2, k3, k4, k5, k6⟩ := key
  have H := h.set hi (q := Wk.mine [.slice ad n cap] vs f') Ext.refl k2 k5 fun x hx => .inl (k4 x hx)
  refine ⟨vs, f', g, k1, H.look (r := rows vs xss g) k3 fun x hx hm => ?_⟩
  have hx' := k6 x hx
  obtain ⟨r, hr, hxr⟩ := cd.1 hm
  rcases gY hi h.nd r hr with rfl | ⟨_, hr2⟩
  · exact hx'.2 hxr
  · exact hr2 x hxr hx'.1
end
section
variable {P : Program} {n : Nat} {ops : Array Oper} {Q : Post} {L : Env} {w w0 : World} {M : Nat → Prop} {Δ F : List Rsc} {d : Tmp} {ty : TypeId} {p : String} {af : Array Edge} {g : Option (Nat × Bool)} {rest : List Oper} {β : Type} [Rp β]
theorem wj {t : TypeId} {x y : Operand} {b off : Nat} {ad : Option Addr} {len cap : Nat} {vs : List View} {xss : List (List β)} {f gg : List Nat} {s a m c} {z : List β} {fy} (hw : Wn ops n L ⟨none, .store t x y, ty, p, af, g⟩) (hs : ∀ w, (sizeOf t).run P w = .ok 1 w)
    (H : Sep M w0 Δ F w) (i j e : Nat) (hi : Δ[i]? = some (mine [.slice ad len cap] vs f)) (hj : F[j]? = some (rows vs xss gg)) (he : F[e]? = some (seen s [.slice a m c] z fy)) (hl : vs.length = xss.length) (k : Nat) (hk : k < xss.length)
    (hx : evL L x = some (.pointer (some ⟨b, off + k * 1, none⟩))) (had : ad = some ⟨b, off, none⟩) (hy : evL L y = some (.slice a m c))
    (kk : ∀ w' f' g', Sep M w0 (Δ.set i (mine [.slice ad len cap] (vs.set k ⟨a, m, c⟩) f')) (F.set j (rows (vs.set k ⟨a, m, c⟩) (xss.set k z) g')) w' → RL P n ops Q rest L w') :
    RL P n ops Q (⟨none, .store t x y, ty, p, af, g⟩ :: rest) L w := by
  obtain ⟨b', o', cur, T, e1, hb, hsz, _, f', g', h⟩ := H.rowSet i j e hi hj he hl k hk
  rw [had] at e1
  simp only [Option.some.injEq, Addr.mk.injEq, and_true] at e1
  obtain ⟨rfl, rfl⟩ := e1
  rw [Nat.mul_one] at hx
  exact vK hw rfl (er hs hx hy rfl hb hsz) (kk _ f' g' h)
end
section
variable {P : Program} {n : Nat} {ops : Array Oper} {Q : Post} {S : World → Prop} {L : Env} {w w0 : World} {M : Nat → Prop} {Δ F : List Rsc} {l : Nat} {d : Tmp} {ty : TypeId} {p : String} {af : Array Edge} {g : Option (Nat × Bool)} {rest : List (Nat × Bool)} {β : Type} [Rp β]
theorem lX {t : TypeId} {x y : Operand} {b off : Nat} {ad : Option Addr} {len cap : Nat} {vs : List View} {xss : List (List β)} {f gg : List Nat} {s a m c} {z : List β} {fy} (ho : ops.toList[l]? = some ⟨none, .store t x y, ty, p, af, g⟩) (hw : Wn ops n L ⟨none, .store t x y, ty, p, af, g⟩) (hs : ∀ w, (sizeOf t).run P w = .ok 1 w)
    (H : Sep M w0 Δ F w) (i j e : Nat) (hi : Δ[i]? = some (mine [.slice ad len cap] vs f)) (hj : F[j]? = some (rows vs xss gg)) (he : F[e]? = some (seen s [.slice a m c] z fy)) (hl : vs.length = xss.length) (k : Nat) (hk : k < xss.length)
    (hx : evL L x = some (.pointer (some ⟨b, off + k * 1, none⟩))) (had : ad = some ⟨b, off, none⟩) (hy : evL L y = some (.slice a m c)) (hS : ∀ (b o : Nat) (cur : Array Value) (T : TypeId), ad = some ⟨b, o, none⟩ → w.heap[b]? = some (.cells cur T (0, 0)) → o + k < cur.size → S w → rest ≠ [] → S (put w b (.cells (cur.setIfInBounds (o + k) (.slice a m c)) T (0, 0))))
    (kk : ∀ w' f' g', Sep M w0 (Δ.set i (mine [.slice ad len cap] (vs.set k ⟨a, m, c⟩) f')) (F.set j (rows (vs.set k ⟨a, m, c⟩) (xss.set k z) g')) w' → DL P n ops Q S rest L w') :
    DL P n ops Q S ((l, false) :: rest) L w := by
  obtain ⟨b', o', cur, T, e1, hb, hsz, hbf, f', g', h⟩ := H.rowSet i j e hi hj he hl k hk
  rw [had] at e1
  simp only [Option.some.injEq, Addr.mk.injEq, and_true] at e1
  obtain ⟨rfl, rfl⟩ := e1
  rw [Nat.mul_one] at hx
  exact vm ho hw rfl (er hs hx hy rfl hb hsz) (fun hSw hr => hS _ _ cur T had hb hsz hSw hr) (kk _ f' g' h)
end
theorem Be {w : World} {b o a r : Nat} {cur : Array Value} {T : TypeId} {v : Value} (hb : w.heap[b]? = some (.cells cur T (0, 0))) (hr : o + r < cur.size) (hc : w.cell? ⟨b, o + a * 1, none⟩ = some v) :
    (put w b (.cells (cur.setIfInBounds (o + r) v) T (0, 0))).cell? ⟨b, o + a * 1, none⟩ = some v := by
  rw [Nat.mul_one] at hc ⊢
  refine jM (ij hb) ?_
  have hc' : cur[o + a]? = some v := by simpa [World.cell?, hb] using hc
  by_cases e : r = a
  · subst e; simp [hr]
  · rw [Array.getElem?_setIfInBounds_ne (by omega)]; exact hc'
def RowsMut {β : Type} [Rp β] (w w' : World) (fp : List Nat) (V : Value) (K : Nat) (m : List (List β)) : Prop :=
  ∃ (vs : List View) (f g : List Nat), vs.length = K ∧ Ext (· ∈ fp) w w' ∧ own true w' [V] vs f ∧ f.Nodup ∧ (∀ b ∈ f, b ∈ fp ∨ w.heap.size ≤ b) ∧ cr false w' (vs.map View.val) m g ∧ ∀ b ∈ g, b ∉ f
section
variable {β : Type} [Rp β] {M : Nat → Prop} {w0 w w' : World} {Δ F : List Rsc}
theorem Sep.rowsOut {w : World} {fp : List Nat} {V : Value} {vs : List View} {f g : List Nat} {m : List (List β)} {K : Nat} (h : Sep (· ∈ fp) w [Wk.mine [V] vs f] [rows vs m g] w') (hl : vs.length = K) : RowsMut w w' fp V K m :=
  ⟨vs, f, g, hl, h.ext, h.mine 0 rfl, h.nodup1 (i := 0) rfl, fun b hb => h.new b (by simpa [blocks, Wk.mine] using hb), h.rowsAt 0 rfl, fun b hb => h.off 0 rfl 0 rfl hb⟩
theorem Sep.beginRows {fp : List Nat} {V : Value} {vs : List View} {g : List Nat} {m : List (List β)} (o : own true w [V] vs fp) (nd : fp.Nodup) (hr : cr false w (vs.map View.val) m g) (hd : ∀ b ∈ g, b ∉ fp) : Sep (· ∈ fp) w [Wk.mine [V] vs fp] [rows vs m g] w :=
  (Sep.begin o nd).look (r := rows vs m g) hr fun b hb hm => hd b hb (by simpa [blocks, Wk.mine] using hm)
theorem Sep.rowsMut (h : Sep M w0 Δ F w) (i : Nat) {V : Value} {vs : List View} {fp : List Nat} (hi : Δ[i]? = some (Wk.mine [V] vs fp)) (honly : ∀ b ∈ blocks Δ, b ∈ fp) {K : Nat} {m : List (List β)} (hm : RowsMut w w' fp V K m) :
    ∃ vs' f' g', vs'.length = K ∧ Sep M w0 (Δ.set i (Wk.mine [V] (vs' : List View) f')) (F ++ [rows vs' m g']) w' := by
  obtain ⟨vs', f', g', h1, h2, h3, h4, h5, h6, h7⟩ := hm
  have H := h.set hi (q := Wk.mine [V] vs' f') h2 h3 h4 h5
  refine ⟨vs', f', g', h1, H.look (r := rows vs' m g') h6 fun b hb hm => ?_⟩
  obtain ⟨r, hr, hbr⟩ := cd.1 hm
  rcases gY hi h.nd r hr with rfl | ⟨hr1, hr2⟩
  · exact h7 b hb hbr
  · exact hr2 b hbr (honly b (cd.2 ⟨r, hr1, hbr⟩))
end
theorem tS {m M : Mat} {c r : Nat} (h : eX m c = (M, r)) (hp : M.length ≤ l4 M c r) : eX m (c + 1) = (M, r) := by
  show stepM (eX m c).1 c (eX m c).2 = _
  rw [h]
  exact if_pos hp
theorem uh {m M : Mat} {c r j : Nat} (h : eX m c = (M, r)) (hp : l4 M c r = j) (hj : j < M.length) : eX m (c + 1) = (cB (kp M c r j) c r M.length, r + 1) := by
  show stepM (eX m c).1 c (eX m c).2 = _
  rw [h]
  show stepM M c r = _
  rw [stepM, if_neg (by omega), hp]
theorem Dv {N : Mat} {c r i : Nat} {x : UInt8} (h : (decide ((i : Int) ≠ (r : Int)) && decide ((x.toNat : Int) ≠ 0)) = true) : i ≠ r := by
  simp only [Bool.and_eq_true, decide_eq_true_eq] at h; omega
theorem AP {N : Mat} {K l c r i : Nat} (hR : Rect N K l) (hi : i < K) (hr : r < K) (h : (decide ((i : Int) ≠ (r : Int)) && decide (((((cB N c r i).getD i []).getD c 0).toNat : Int) ≠ 0)) = false) :
    cB N c r i = cB N c r (i + 1) := by
  by_cases e : i = r
  · exact qz (.inl e)
  · refine u3 hR hi hr ?_
    rw [qh (by rw [hR.1]; exact hi)] at h
    have e1 : decide ((i : Int) ≠ (r : Int)) = true := by simp; omega
    rw [e1, Bool.true_and, decide_eq_false_iff_not, Decidable.not_not] at h
    exact jH h
theorem DY {M : Mat} {c r j : Nat} (hr : r < M.length) (hj : j < M.length) :
    ((M.set r (M.getD j [])).set j (M.getD r [])).set r (cU (((M.set r (M.getD j [])).set j (M.getD r [])).getD r []) (co 1 (pG ((((M.set r (M.getD j [])).set j (M.getD r [])).getD r []).getD c 0)))) = kp M c r j := by
  have e := DD (m := M) hr hj
  rw [um] at e
  rw [e, iT]
  exact BB
end Go.Wk
namespace Go.Wk
open Rp (sz own)
theorem Sep.resN {α : Type} [Rp α] {M w0 Δ F} {w w' : World} {cs : List Value} {x : α} (h : Sep M w0 Δ F w) (e : Ext No w w') (hr : Res w w' cs x) : ∃ fp, Sep M w0 (Δ ++ [Wk.mine cs x fp]) F w' ∧ ∀ b ∈ fp, w.heap.size ≤ b := by
  obtain ⟨fp, h1, h2, h3⟩ := hr
  exact ⟨fp, h.add e (r := Wk.mine cs x fp) h1 h2 h3, h3⟩
section
variable {P : Program} {n : Nat} {ops : Array Oper} {Q : Post} {S : World → Prop} {L : Env} {w w0 wr : World} {M M' : Nat → Prop} {Δ F : List Rsc} {i : Nat} {d : Tmp} {ty : TypeId} {p : String} {af : Array Edge} {g : Option (Nat × Bool)} {rest : List (Nat × Bool)} {α : Type} [Rp α]
theorem d_S {l : List (Nat × Bool)} (h : S w → DL P n ops Q S l L w) (hl : l ≠ []) : DL P n ops Q S l L w := fun hs a ha hS => h (hS hl) hs a ha hS
theorem gx {x y : Operand} {t e : TypeId} {z : Value} {bytes : Nat} {v : Value} {xs : List α} {fp : List Nat} {b2 c2 : Nat} {T} {cs : List Value} {u : α} (ho : ops.toList[i]? = some ⟨some d, .call ⟨.builtin .append, #[x, y], #[t, t]⟩, ty, p, af, g⟩) (hw : Wn ops n L ⟨some d, .call ⟨.builtin .append, #[x, y], #[t, t]⟩, ty, p, af, g⟩) (hn : Nat.blt d n = true)
    (ht : P.underlying t = some (.slice e)) (hT : Ty P e z (sz α) bytes) (hz : z.cells.size = sz α) (hx : evL L x = some v) (hy : evL L y = some (.slice (some ⟨b2, 0, none⟩) 1 c2))
    (H : Sep M w0 Δ F w) (q j : Nat) (hi : Δ[q]? = some (mine [v] xs fp)) (hj : Δ[j]? = some (box b2 (.cells cs.toArray T))) (hu : own true w cs u []) (h63 : xs.length + 1 ≤ maxLen) (hb48 : (xs.length + 1) * bytes ≤ 140737488355328)
    (hf : ∀ b ∈ fp, wr.heap.size ≤ b)
    (k : ∀ v' w' fp', (∀ b ∈ fp', b ∈ fp ∨ w.heap.size ≤ b) → Sep M w0 (Δ.set q (mine [v'] (xs ++ [u]) fp')) F w' → DL P n ops Q (Ext M' wr) rest ((d, v') :: L) w') :
    DL P n ops Q (Ext M' wr) ((i, false) :: rest) L w := by
  obtain ⟨v', w', fp', h1, h2, h3, h4, h5⟩ := gR (ty := ty) ht hT hz (H.mine q hi) (ys := [u]) (c2 := c2) (m := 1) (by rw [Rp.len hu]; simp) rfl (At.whole (H.box j hj)) (Rp.one hu) (.one hu) (by simp) (H.nodup1 hi) .nil (by simp) h63 hb48
  have h6 : ∀ b ∈ fp', b ∈ fp ∨ w.heap.size ≤ b := fun b hb => by rcases h4 b hb with h | h | h; exact .inl h; simp at h; exact .inr h
  exact qi ho hw rfl hn (nc hx hy h1) (fun h _ => h.step h3 fun b hb => .inr (hf b hb)) (k _ _ _ h6 (H.set hi (q := Wk.mine [v'] (xs ++ [u]) fp') h3 h2 h5 h6))
theorem eo [Flat α] {x y : Operand} {t e : TypeId} {z : Value} {bytes : Nat} {v : Value} {xs ys : List α} {fp fy : List Nat} {s ad m c2} (ho : ops.toList[i]? = some ⟨some d, .call ⟨.builtin .append, #[x, y], #[t, t]⟩, ty, p, af, g⟩) (hw : Wn ops n L ⟨some d, .call ⟨.builtin .append, #[x, y], #[t, t]⟩, ty, p, af, g⟩) (hn : Nat.blt d n = true)
    (ht : P.underlying t = some (.slice e)) (hT : Ty P e z (sz α) bytes) (hz : z.cells.size = sz α) (hx : evL L x = some v) (hy : evL L y = some (.slice ad m c2))
    (H : Sep M w0 Δ F w) (q : Nat) (hi : Δ[q]? = some (mine [v] xs fp)) (hu : own s w [.slice ad m c2] ys fy) (h63 : xs.length + ys.length ≤ maxLen) (hb48 : (xs.length + ys.length) * bytes ≤ 140737488355328)
    (hf : ∀ b ∈ fp, wr.heap.size ≤ b)
    (k : ∀ v' w' fp', (∀ b ∈ fp', b ∈ fp ∨ w.heap.size ≤ b) → Sep M w0 (Δ.set q (mine [v'] (xs ++ ys) fp')) F w' → DL P n ops Q (Ext M' wr) rest ((d, v') :: L) w') :
    DL P n ops Q (Ext M' wr) ((i, false) :: rest) L w := by
  obtain ⟨v', w', fp', h1, h2, h3, h4, h5⟩ := qA (ty := ty) ht hT hz (H.mine q hi) hu (H.nodup1 hi) h63 hb48
  exact qi ho hw rfl hn (nc hx hy h1) (fun h _ => h.step h3 fun b hb => .inr (hf b hb)) (k _ _ _ h4 (H.set hi (q := Wk.mine [v'] (xs ++ ys) fp') h3 h2 h5 h4))
theorem Aq {t : TypeId} {x y : Operand} {b off : Nat} {v : Value} {ad : Option Addr} {len cap : Nat} {xs : List α} {fp fu : List Nat} {u : α} (ho : ops.toList[i]? = some ⟨none, .store t x y, ty, p, af, g⟩) (hw : Wn ops n L ⟨none, .store t x y, ty, p, af, g⟩) (hs : ∀ w, (sizeOf t).run P w = .ok (sz α) w) (h1 : sz α = 1)
    (H : Sep M w0 Δ F w) (l j : Nat) (hi : Δ[l]? = some (mine [.slice ad len cap] xs fp)) (hj : Δ[j]? = some (mine [v] u fu)) (hij : Nat.beq j l = false) (q : Nat) (hq : q < xs.length) (hx : evL L x = some (.pointer (some ⟨b, off + q * sz α, none⟩))) (had : ad = some ⟨b, off, none⟩) (hy : evL L y = some v)
    (k : ∀ w' fp', Sep M w0 ((Δ.set j gone).set l (mine [.slice ad len cap] (xs.set q u) fp')) F w' → DL P n ops Q S [] L w') :
    DL P n ops Q S [(i, false)] L w := by
  obtain ⟨b', o', cur, T, fp', e1, hb, hsz, hk⟩ := H.elset2 l j hi hj hij q hq
  rw [had] at e1
  simp only [Option.some.injEq, Addr.mk.injEq, and_true] at e1
  obtain ⟨rfl, rfl⟩ := e1
  exact vm ho hw rfl (er (by rw [h1] at hs; exact hs) hx hy (Rp.one (H.mine j hj) v (by simp)) hb (by omega)) (fun _ hr => absurd rfl hr) (k _ fp' hk)
end
def augTo (m : Mat) (b : List UInt8) (k : Nat) : Mat := (List.range k).map fun i => m.getD i [] ++ [b.getD i 0]
def aug (m : Mat) (b : List UInt8) : Mat := augTo m b m.length
theorem gS {m : Mat} {b k} : (augTo m b k).length = k := by simp [augTo]
theorem kN {m : Mat} {b k} : augTo m b k ++ [m.getD k [] ++ [b.getD k 0]] = augTo m b (k + 1) := by simp [augTo, List.range_succ]
def augIn (m : Mat) (b : List UInt8) (k : Nat) : Mat := augTo m b k ++ List.replicate (m.length - k) []
theorem xp {m : Mat} {b} : augIn m b 0 = List.replicate m.length [] := by simp [augIn, augTo]
theorem ue {m : Mat} {b} : augIn m b m.length = aug m b := by simp [augIn, aug]
theorem pB {m : Mat} {b k} (h : k ≤ m.length) : (augIn m b k).length = m.length := by simp [augIn, gS]; omega
theorem tT {m : Mat} {b k} (h : k < m.length) : (augIn m b k).set k (m.getD k [] ++ [b.getD k 0]) = augIn m b (k + 1) := by
  rw [augIn, List.set_append_right _ _ (by rw [gS]; exact Nat.le_refl _), gS, Nat.sub_self, augIn, ← kN]
  have : List.replicate (m.length - k) ([] : List UInt8) = [] :: List.replicate (m.length - (k + 1)) [] := by
    rw [show m.length - k = (m.length - (k + 1)) + 1 by omega]; rfl
  rw [this, List.set_cons_zero]; simp
theorem vr {m : Mat} {b : List UInt8} {n : Nat} (h : Rect m n n) : Rect (aug m b) n (n + 1) := by
  obtain ⟨h1, h2⟩ := h
  refine ⟨by rw [aug, gS]; exact h1, fun i hi => ?_⟩
  have : (aug m b).getD i [] = m.getD i [] ++ [b.getD i 0] := by simp [aug, augTo, List.getD, h1, hi]
  rw [this, List.length_append, h2 i hi]; rfl
def ol (m : Mat) (c k : Nat) : List UInt8 := (List.range k).map fun i => entry m i c
theorem qe {m : Mat} {c k} : (ol m c k).length = k := by simp [ol]
theorem tA {m : Mat} {c k} : ol m c k ++ [(m.getD k []).getD c 0] = ol m c (k + 1) := by simp [ol, List.range_succ, entry]
def pf (m : Mat) (b : List UInt8) : Bool := decide (m.length ≤ (eX (aug m b) m.length).2)
def pP (m : Mat) (b : List UInt8) : List UInt8 := if pf m b = true then ol (eX (aug m b) m.length).1 m.length m.length else []
theorem BM {m : Mat} {b} (h : (eX (aug m b) m.length).2 < m.length) : pf m b = false ∧ pP m b = [] := by
  have : pf m b = false := by rw [pf, decide_eq_false (by omega)]
  exact ⟨this, by rw [pP, this]; rfl⟩
theorem z2 {m : Mat} {b} (h : ¬ (eX (aug m b) m.length).2 < m.length) : pf m b = true ∧ pP m b = ol (eX (aug m b) m.length).1 m.length m.length := by
  have : pf m b = true := by rw [pf, decide_eq_true (by omega)]
  exact ⟨this, by rw [pP, if_pos this]⟩
theorem Db {m : Mat} {b} : (pP m b).length ≤ m.length := by
  unfold pP; split
  · rw [qe]; exact Nat.le_refl _
  · exact Nat.zero_le _
end Go.Wk
namespace Go.Wk
open Rp (sz own)
def hole {β : Type} [Rp β] (b o k : Nat) (cur : Array Value) (T : TypeId) (ad : Option Addr) (n cap : Nat) (xss : List (List β)) (f1 f2 : List Nat) : Rsc :=
  ⟨b :: (f1 ++ f2), fun w => w.heap[b]? = some (.cells cur T (0, 0)) ∧ (∀ x ∈ b :: (f1 ++ f2), x < w.heap.size) ∧
    ∀ w' cur' x' fk', w'.heap[b]? = some (.cells cur' T (0, 0)) → cur'.size = cur.size → (∀ j, j < o + k ∨ o + (k + 1) ≤ j → cur'[j]? = cur[j]?) → (∀ b ∈ f1, w'.heap[b]? = w.heap[b]?) → (∀ b ∈ f2, w'.heap[b]? = w.heap[b]?) →
        own true w' ((cur'.toList.drop (o + k)).take 1) x' fk' → own true w' [.slice ad n cap] (xss.set k x') (b :: (f1 ++ (fk' ++ f2))),
   fun h e => ⟨(e b (by simp)).trans h.1, fun x hx => by
      have h1 := h.2.1 x hx
      have h2 := e x hx
      rw [Array.getElem?_eq_getElem h1] at h2
      exact (Array.getElem?_eq_some_iff.1 h2).1, fun w' cur' x' fk' h1 h2 h3 h4 h5 h6 => h.2.2 w' cur' x' fk' h1 h2 h3 (fun b hb => (h4 b hb).trans (e b (by simp [hb]))) (fun b hb => (h5 b hb).trans (e b (by simp [hb]))) h6⟩,
   fun h => h.2.1⟩
def reord (r : Rsc) (fp : List Nat) (h : ∀ b, b ∈ fp ↔ b ∈ r.fp) : Rsc := ⟨fp, r.φ, fun a e => r.st a fun b hb => e b ((h b).2 hb), fun a b hb => r.lt a b ((h b).1 hb)⟩
section
variable {M : Nat → Prop} {w0 w w' : World} {Δ F : List Rsc} {β : Type} [Rp β]
theorem oo {a b : Rsc} {t : List Rsc} : ∀ {Δ : List Rsc} {i : Nat}, i < Δ.length → (Δ.set i a ++ b :: t).Perm (Δ.set i b ++ a :: t)
  | [], _, h => by simp at h
  | x :: Δ, 0, _ => by
    show (a :: (Δ ++ b :: t)).Perm (b :: (Δ ++ a :: t))
    exact (List.perm_middle.cons a).trans ((List.Perm.swap _ _ _).trans (List.perm_middle.symm.cons b))
  | x :: Δ, i + 1, h => (oo (Δ := Δ) (i := i) (by simpa using h)).cons x
theorem Sep.unhook (h : Sep M w0 Δ F w) (i : Nat) {ad n cap} {xss : List (List β)} {fp} (hi : Δ[i]? = some (Wk.mine [.slice ad n cap] xss fp)) (k : Nat) (hk : k < xss.length) :
    ∃ b o cur T f1 f2 fk a c, ad = some ⟨b, o, none⟩ ∧ o + k < cur.size ∧ w.cell? ⟨b, o + k * 1, none⟩ = some (.slice a (xss.getD k []).length c) ∧ b ∉ fk ∧ Sep M w0 (Δ.set i (hole b o k cur T ad n cap xss f1 f2) ++ [Wk.mine [.slice a (xss.getD k []).length c] (xss.getD k []) fk]) F w := by
  have hnd := h.nodup1 hi
  obtain ⟨b, o, cur, T, f1, fk, f2, e1, e2, hb, hsz, hx, hback⟩ := ox (h.mine i hi) k hk
  have hs1 : sz (List β) = 1 := rfl
  rw [hs1, Nat.mul_one] at hsz hx
  have hlt := Rp.lt (h.mine i hi)
  change fp.Nodup at hnd
  subst e2
  have hnd0 := hnd
  obtain ⟨n1, n2⟩ := List.nodup_cons.1 hnd
  rw [List.nodup_append, List.nodup_append] at n2
  obtain ⟨d1, ⟨d2, d3, d4⟩, d5⟩ := n2
  have hmem : ∀ x, x ∈ (b :: (f1 ++ f2)) ++ fk ↔ x ∈ b :: (f1 ++ (fk ++ f2)) := fun x => by
    simp only [List.cons_append, List.mem_cons, List.mem_append]
    constructor
    · rintro (h | (h | h) | h)
      · exact .inl h
      · exact .inr (.inl h)
      · exact .inr (.inr (.inr h))
      · exact .inr (.inr (.inl h))
    · rintro (h | h | h | h)
      · exact .inl h
      · exact .inr (.inl (.inl h))
      · exact .inr (.inr h)
      · exact .inr (.inl (.inr h))
  have H1 := h.set hi (q := reord (Wk.mine [.slice ad n cap] xss (b :: (f1 ++ (fk ++ f2)))) ((b :: (f1 ++ f2)) ++ fk) hmem) Ext.refl (h.mine i hi)
    (by
      change ((b :: (f1 ++ f2)) ++ fk).Nodup
      refine List.nodup_append.2 ⟨List.nodup_cons.2 ⟨fun hm => n1 (by rcases List.mem_append.1 hm with hm | hm <;> simp [hm]), List.nodup_append.2 ⟨d1, d3, fun p hp q hq e => d5 p hp q (by simp [hq]) e⟩⟩, d2, fun p hp q hq e => ?_⟩
      subst e
      rcases List.mem_cons.1 hp with rfl | hp
      · exact n1 (by simp [hq])
      · rcases List.mem_append.1 hp with hp | hp
        · exact d5 p hp p (by simp [hq]) rfl
        · exact d4 p hq p hp rfl)
    (fun x hx => .inl ((hmem x).1 hx))
  have hsz1 : ((cur.toList.drop (o + k)).take 1).length = 1 := by
    have e : cur.toList.length = cur.size := by simp
    rw [List.length_take, List.length_drop]; omega
  obtain ⟨v, ev⟩ := List.length_eq_one_iff.1 hsz1
  have hx2 := hx
  rw [ev] at hx2
  obtain ⟨a, c, e3⟩ := aA hx2
  have ek : xss.getD k [] = xss[k] := by simp [List.getD, hk]
  have hcell : cur[o + k]? = some v := by
    have : (cur.toList.drop (o + k))[0]? = some v := by
      have : ((cur.toList.drop (o + k)).take 1)[0]? = some v := by rw [ev]; rfl
      simpa [List.getElem?_take] using this
    simpa using this
  rw [e3] at hx2
  have hil : i < Δ.length := (List.getElem?_eq_some_iff.1 hi).1
  refine ⟨b, o, cur, T, f1, f2, fk, a, c, e1, by omega, ?_, fun hm => n1 (by simp [hm]), ?_⟩
  · rw [Nat.mul_one, ek, ← (List.cons.inj e3).1]
    exact jM hb hcell
  · have H2 := H1.part i (r := reord (Wk.mine [.slice ad n cap] xss (b :: (f1 ++ (fk ++ f2)))) ((b :: (f1 ++ f2)) ++ fk) hmem) (by rw [List.getElem?_set_self hil]) [hole b o k cur T ad n cap xss f1 f2, Wk.mine [.slice a (xss.getD k []).length c] (xss.getD k []) fk] ?_ ?_
    · rw [List.set_set] at H2
      exact (H2.perm (oo hil)).sub ((List.Sublist.refl _).append (.cons _ (.refl _)))
    · refine all_cons ⟨hb, fun x hx => hlt x ((hmem x).1 (by simp only [List.mem_append]; exact .inl hx)), fun w' cur' x' fk' q1 q2 q3 q4 q5 q6 => hback w' cur' x' fk' q1 q2 (fun j hj => q3 j (by rw [hs1] at hj; omega)) q4 q5 (by rw [hs1, Nat.mul_one]; exact q6)⟩ (all_cons ?_ (by simp))
      rw [ek]; exact hx2
    · simp [blocks, hole, Wk.mine, reord]
theorem Sep.hook (h : Sep M w0 Δ F w) (i j : Nat) {b o k cur T ad n cap} {xss : List (List β)} {f1 f2 v fk} {x : List β} (hi : Δ[i]? = some (hole b o k cur T ad n cap xss f1 f2)) (hj : Δ[j]? = some (Wk.mine [v] x fk)) (hij : Nat.beq j i = false) (hk : o + k < cur.size) :
    Sep M w0 ((Δ.set j gone).set i (Wk.mine [.slice ad n cap] (xss.set k x) (b :: (f1 ++ (fk ++ f2))))) F (Wk.put w b (.cells (cur.setIfInBounds (o + k) v) T (0, 0))) := by
  have hne : j ≠ i := fun e => by subst e; simp at hij
  obtain ⟨hb, hlt, hback⟩ : (hole b o k cur T ad n cap xss f1 f2).φ w := h.rs _ (List.mem_of_getElem? hi)
  have hx := h.mine j hj
  have hnd := h.nodup1 hi
  change (b :: (f1 ++ f2)).Nodup at hnd
  have hnk := h.nodup1 hj
  change fk.Nodup at hnk
  have hap : ∀ x ∈ fk, x ∉ b :: (f1 ++ f2) := fun x hx hm => h.apart (i := i) (j := j) hi hj hij x hx hm
  obtain ⟨n1, n2⟩ := List.nodup_cons.1 hnd
  obtain ⟨d1, d2, d3⟩ := List.nodup_append.1 n2
  have hE : Ext (· = b) w (Wk.put w b (.cells (cur.setIfInBounds (o + k) v) T (0, 0))) := Ext.refl.put (.inl rfl)
  have hbk : b ∉ fk := fun hm => hap b hm (by simp)
  refine h.set2 hi hj hij (q := Wk.mine [.slice ad n cap] (xss.set k x) (b :: (f1 ++ (fk ++ f2)))) (hE.mono fun b' _ e => by subst e; simp [hole]) ?_ ?_ ?_
  · refine hback _ _ x fk (ij hb) (by simp) (fun j hj => Array.getElem?_setIfInBounds_ne (by omega)) (fun b' hb' => hE.block b' (hlt b' (by simp [hb'])) fun e => ?_) (fun b' hb' => hE.block b' (hlt b' (by simp [hb'])) fun e => ?_) ?_
    · subst e; exact n1 (by simp [hb'])
    · subst e; exact n1 (by simp [hb'])
    · have e : ((cur.setIfInBounds (o + k) v).toList.drop (o + k)).take 1 = [v] := by
        have := sy [v] cur (o + k) (by show o + k + 1 ≤ cur.size; omega)
        exact this
      rw [e]
      exact Rp.st hx fun b' hb' => hE.block b' (Rp.lt hx b' hb') fun e => by subst e; exact hbk hb'
  · change (b :: (f1 ++ (fk ++ f2))).Nodup
    refine List.nodup_cons.2 ⟨fun hm => ?_, List.nodup_append.2 ⟨d1, List.nodup_append.2 ⟨hnk, d2, fun p hp q hq e => ?_⟩, fun p hp q hq e => ?_⟩⟩
    · simp only [List.mem_append, not_or] at hm n1
      rcases hm with hm | hm | hm
      · exact n1.1 hm
      · exact hbk hm
      · exact n1.2 hm
    · subst e; exact hap p hp (by simp [hq])
    · subst e
      rcases List.mem_append.1 hq with hq | hq
      · exact hap p hq (by simp [hp])
      · exact d3 p hp p hq rfl
  · intro x hx
    change x ∈ b :: (f1 ++ (fk ++ f2)) at hx
    simp only [List.mem_cons, List.mem_append] at hx
    rcases hx with h | h | h | h
    · exact .inl (by simp [hole, h])
    · exact .inl (by simp [hole, h])
    · exact .inr (.inl h)
    · exact .inl (by simp [hole, h])
end
section
variable {P : Program} {n : Nat} {ops : Array Oper} {Q : Post} {L : Env} {w w0 : World} {M : Nat → Prop} {Δ F : List Rsc} {d : Tmp} {ty : TypeId} {p : String} {af : Array Edge} {g : Option (Nat × Bool)} {β : Type} [Rp β]
theorem ED {rest : List Oper} {t : TypeId} {x y : Operand} {b o k : Nat} {cur T} {ad : Option Addr} {len cap : Nat} {xss : List (List β)} {f1 f2 fk : List Nat} {v : Value} {z : List β} (hw : Wn ops n L ⟨none, .store t x y, ty, p, af, g⟩) (hs : ∀ w, (sizeOf t).run P w = .ok 1 w)
    (H : Sep M w0 Δ F w) (i j : Nat) (hi : Δ[i]? = some (hole b o k cur T ad len cap xss f1 f2)) (hj : Δ[j]? = some (mine [v] z fk)) (hij : Nat.beq j i = false) (hk : o + k < cur.size)
    (hx : evL L x = some (.pointer (some ⟨b, o + k * 1, none⟩))) (hy : evL L y = some v)
    (kk : ∀ w' fp', Sep M w0 ((Δ.set j gone).set i (mine [.slice ad len cap] (xss.set k z) fp')) F w' → RL P n ops Q rest L w') :
    RL P n ops Q (⟨none, .store t x y, ty, p, af, g⟩ :: rest) L w := by
  obtain ⟨hb, _, _⟩ : (hole b o k cur T ad len cap xss f1 f2).φ w := H.rs _ (List.mem_of_getElem? hi)
  rw [Nat.mul_one] at hx
  exact vK hw rfl (er hs hx hy (Rp.one (H.mine j hj) v (by simp)) hb hk) (kk _ _ (H.hook i j hi hj hij hk))
theorem EM {S : World → Prop} {l : Nat} {t : TypeId} {x y : Operand} {b o k : Nat} {cur T} {ad : Option Addr} {len cap : Nat} {xss : List (List β)} {f1 f2 fk : List Nat} {v : Value} {z : List β} (ho : ops.toList[l]? = some ⟨none, .store t x y, ty, p, af, g⟩) (hw : Wn ops n L ⟨none, .store t x y, ty, p, af, g⟩) (hs : ∀ w, (sizeOf t).run P w = .ok 1 w)
    (H : Sep M w0 Δ F w) (i j : Nat) (hi : Δ[i]? = some (hole b o k cur T ad len cap xss f1 f2)) (hj : Δ[j]? = some (mine [v] z fk)) (hij : Nat.beq j i = false) (hk : o + k < cur.size)
    (hx : evL L x = some (.pointer (some ⟨b, o + k * 1, none⟩))) (hy : evL L y = some v)
    (kk : ∀ w' fp', Sep M w0 ((Δ.set j gone).set i (mine [.slice ad len cap] (xss.set k z) fp')) F w' → DL P n ops Q S [] L w') :
    DL P n ops Q S [(l, false)] L w := by
  obtain ⟨hb, _, _⟩ : (hole b o k cur T ad len cap xss f1 f2).φ w := H.rs _ (List.mem_of_getElem? hi)
  rw [Nat.mul_one] at hx
  exact vm ho hw rfl (er hs hx hy (Rp.one (H.mine j hj) v (by simp)) hb hk) (fun _ hr => absurd rfl hr) (kk _ _ (H.hook i j hi hj hij hk))
end
def trF (g : Nat → List UInt8) (n j i : Nat) : Mat := (List.range n).map fun x => (List.range (if x < i then j + 1 else j)).map fun t => (g t).getD x 0
theorem ra {g n j i} : (trF g n j i).length = n := by simp [trF]
theorem rg {g n j i x} (h : x < n) : (trF g n j i).getD x [] = (List.range (if x < i then j + 1 else j)).map fun t => (g t).getD x 0 := by simp [trF, List.getD, h]
theorem vp {g n} : trF g n 0 0 = List.replicate n [] := by
  refine List.ext_getElem (by simp [trF]) fun i h1 h2 => ?_
  simp [trF]
theorem vX {g n j i} (h : i < n) : (trF g n j i).set i ((trF g n j i).getD i [] ++ [(g j).getD i 0]) = trF g n j (i + 1) := by
  refine List.ext_getElem (by simp [trF]) fun x h1 h2 => ?_
  rw [List.getElem_set]
  simp only [trF, List.getElem_map, List.getElem_range]
  by_cases e : i = x
  · subst e
    have e := rg (g := g) (j := j) (i := i) h
    rw [if_neg (by omega)] at e
    rw [if_pos rfl, if_pos (by omega), List.range_succ, List.map_append]
    exact congrArg (· ++ _) e
  · rw [if_neg e]
    by_cases h3 : x < i
    · rw [if_pos h3, if_pos (by omega)]
    · rw [if_neg h3, if_neg (by omega)]
theorem wd {g n j} : trF g n j n = trF g n (j + 1) 0 := by
  refine List.ext_getElem (by simp [trF]) fun x h1 h2 => ?_
  have : x < n := by simpa [trF] using h1
  simp [trF, this]
theorem Cw {g n m} : Rect (trF g n m 0) n m := ⟨ra, fun i hi => by rw [rg hi]; simp⟩
def hv (n : Nat) (have_ : List Int) (base : Int) (t : Nat) : List UInt8 := lu n (have_.getD t 0) base
def qx (n : Nat) (have_ : List Int) (base : Int) : Mat := trF (hv n have_ base) n n 0
def betw (n : Nat) (have_ : List Int) (want base : Int) : List UInt8 := pP (qx n have_ base) (lu n want base)
theorem mf {n h b} : (qx n h b).length = n := ra
theorem tx {n h b} : Rect (qx n h b) (qx n h b).length (qx n h b).length := by rw [mf]; exact Cw
theorem nU {n h x b} : (betw n h x b).length ≤ n := by
  have := Db (m := qx n h b) (b := lu n x b)
  rw [mf] at this
  exact this
end Go.Wk
namespace Go.Wk
theorem wou {n : Nat} {ops : Array Oper} {L : Env} {o : Oper} {j t b} (h : o.guard = some (j, b)) (hd : gJ ops j = some t) (hb : look L t = some undef) : Wo ops n L o := fun a hg => by
  have hy : yielded ops a.tmps j = none := by
    have h := hg.cov t _ hb
    have hd' : (ops[j]?).bind (·.dst) = some t := by simpa [gJ] using hd
    simp only [yielded, hd', Option.bind_some]
    simp only [Array.getD_eq_getD_getElem?] at h
    cases ht : a.tmps[t]? with
    | none => rfl
    | some v => rw [ht] at h; simp at h; subst h; rfl
  simp [Region.wanted, h, hy]
def gU (xs : List Int) (m : Int) (i : Nat) : Bool := decide (0 ≤ xs.getD i 0) && decide (xs.getD i 0 ≤ m) && (decide (i = 0) || decide (xs.getD (i - 1) 0 < xs.getD i 0))
def rises (xs : List Int) (m : Int) : Bool := (List.range xs.length).all (gU xs m)
theorem uk {xs m} (h : ∀ i, i < xs.length → gU xs m i = true) : rises xs m = true := by
  rw [rises, List.all_eq_true]
  exact fun i hi => h i (by simpa using hi)
theorem oS {xs m} (i : Nat) (hi : i < xs.length) (h : gU xs m i = false) : rises xs m = false := by
  cases hr : rises xs m with
  | false => rfl
  | true =>
    rw [rises, List.all_eq_true] at hr
    rw [hr i (by simpa using hi)] at h
    cases h
theorem ua {xs m} (h : rises xs m = true) (i : Nat) (hi : i < xs.length) : 0 ≤ xs.getD i 0 ∧ xs.getD i 0 ≤ m := by
  rw [rises, List.all_eq_true] at h
  have := h i (by simpa using hi)
  simp only [gU, Bool.and_eq_true, decide_eq_true_eq] at this
  exact this.1
end Go.Wk
namespace Go.Wk
open Rp (sz own)
instance : Inhabited Shape := ⟨⟨0, 0, 0, 0, 0, 0, 0, 0, 0⟩⟩
theorem AU {s w cs} {x : Shape} {fp} (h : own s w cs x fp) : cs = [.int .i64 x.Groups, .int .i64 x.Column, .int .i64 x.Data, .int .i64 x.Spare, .int .i64 x.Rows, .int .i64 x.Cap, .int .i64 x.Batch, .int .i64 x.Queue, .int .i64 x.Stage] ∧ fp = [] ∧ x.Ok := by
  obtain ⟨_, _, _, _, rfl, e0, h0, k0⟩ := cj h
  obtain ⟨rfl, rfl, i0⟩ := dE h0
  obtain ⟨_, _, _, _, rfl, e1, h1, k1⟩ := cj k0
  obtain ⟨rfl, rfl, i1⟩ := dE h1
  obtain ⟨_, _, _, _, rfl, e2, h2, k2⟩ := cj k1
  obtain ⟨rfl, rfl, i2⟩ := dE h2
  obtain ⟨_, _, _, _, rfl, e3, h3, k3⟩ := cj k2
  obtain ⟨rfl, rfl, i3⟩ := dE h3
  obtain ⟨_, _, _, _, rfl, e4, h4, k4⟩ := cj k3
  obtain ⟨rfl, rfl, i4⟩ := dE h4
  obtain ⟨_, _, _, _, rfl, e5, h5, k5⟩ := cj k4
  obtain ⟨rfl, rfl, i5⟩ := dE h5
  obtain ⟨_, _, _, _, rfl, e6, h6, k6⟩ := cj k5
  obtain ⟨rfl, rfl, i6⟩ := dE h6
  obtain ⟨_, _, _, _, rfl, e7, h7, k7⟩ := cj k6
  obtain ⟨rfl, rfl, i7⟩ := dE h7
  obtain ⟨rfl, rfl, i8⟩ := dE k7
  exact ⟨rfl, by subst_vars; simp, ⟨i0, i1, i2, i3, i4, i5, i6, i7, i8⟩⟩
theorem Shape.own_mk {s : Bool} {w : World} {x : Shape} (ok : x.Ok) : own s w [.int .i64 x.Groups, .int .i64 x.Column, .int .i64 x.Data, .int .i64 x.Spare, .int .i64 x.Rows, .int .i64 x.Cap, .int .i64 x.Batch, .int .i64 x.Queue, .int .i64 x.Stage] x ([]) := by
  obtain ⟨i0, i1, i2, i3, i4, i5, i6, i7, i8⟩ := ok
  have h : own s w _ (x.Groups, x.Column, x.Data, x.Spare, x.Rows, x.Cap, x.Batch, x.Queue, x.Stage) _ := (cG (dO i0) (cG (dO i1) (cG (dO i2) (cG (dO i3) (cG (dO i4) (cG (dO i5) (cG (dO i6) (cG (dO i7) (dO i8)))))))))
  refine iC h ?_
  simp
theorem EH {w : World} : own true w [.int .i64 0, .int .i64 0, .int .i64 0, .int .i64 0, .int .i64 0, .int .i64 0, .int .i64 0, .int .i64 0, .int .i64 0] (default : Shape) [] := iC (Shape.own_mk (s := true) (x := (default : Shape)) ⟨(show I64ok 0 by unfold I64ok; omega), (show I64ok 0 by unfold I64ok; omega), (show I64ok 0 by unfold I64ok; omega), (show I64ok 0 by unfold I64ok; omega), (show I64ok 0 by unfold I64ok; omega), (show I64ok 0 by unfold I64ok; omega), (show I64ok 0 by unfold I64ok; omega), (show I64ok 0 by unfold I64ok; omega), (show I64ok 0 by unfold I64ok; omega)⟩) (by first | rfl | simp)
theorem vP {w : World} : own true w [.int .i64 0, .int .i64 0, .string ⟨#[]⟩, .int .i64 0, .int .i64 0, .int .i64 0, .slice none 0 0, .slice none 0 0, .slice none 0 0] (default : Rec) [] := iC (Rec.own_mk (s := true) (x := (default : Rec)) ⟨(show I64ok 0 by unfold I64ok; omega), (show I64ok 0 by unfold I64ok; omega), (show (0 : Nat) ≤ maxLen from Nat.zero_le _), (show I64ok 0 by unfold I64ok; omega), (show I64ok 0 by unfold I64ok; omega), (show I64ok 0 by unfold I64ok; omega)⟩ (.inr (.inl ⟨rfl, rfl, rfl⟩)) (.inr (.inl ⟨rfl, rfl, rfl⟩)) (.inr (.inl ⟨rfl, rfl, rfl⟩))) (by first | rfl | simp)
structure Block where
  Stamp : Int
  Bytes : List UInt8
instance : Rp Block := Rp.via fun x => (x.Stamp, x.Bytes)
noncomputable instance : DecidableEq Block := fun _ _ => Classical.propDecidable _
instance : Inhabited Block := ⟨⟨0, []⟩⟩
def Block.val (x : Block) (A1 : Option Addr) (C1 : Nat) : Value := .agg #[.int .i64 x.Stamp, .slice A1 x.Bytes.length C1]
def Block.Ok (x : Block) : Prop := I64ok x.Stamp
theorem eu {s w cs} {x : Block} {fp} (h : own s w cs x fp) : ∃ (A1 : Option Addr) (C1 : Nat) (f1 : List Nat) , cs = [.int .i64 x.Stamp, .slice A1 x.Bytes.length C1] ∧ fp = f1 ∧ x.Ok ∧ own s w [.slice A1 x.Bytes.length C1] x.Bytes f1 := by
  obtain ⟨_, _, _, _, rfl, e0, h0, k0⟩ := cj h
  obtain ⟨rfl, rfl, i0⟩ := dE h0
  obtain ⟨A1, C1, rfl⟩ := aA k0
  exact ⟨A1, C1, _, rfl, by subst_vars; simp, i0, k0⟩
theorem Block.own_mk {s : Bool} {w : World} {x : Block} {A1 : Option Addr} {C1 : Nat} {f1 : List Nat} (ok : x.Ok) (o1 : own s w [.slice A1 x.Bytes.length C1] x.Bytes f1) : own s w [.int .i64 x.Stamp, .slice A1 x.Bytes.length C1] x (f1) := by
  have i0 := ok
  have h : own s w _ (x.Stamp, x.Bytes) _ := (cG (dO i0) o1)
  refine iC h ?_
  simp
theorem Block.out {w0 w : World} {F : List Rsc} {x : Block} {A1 : Option Addr} {C1 : Nat} {f1 : List Nat} (h : Sep No w0 [mine [.slice A1 x.Bytes.length C1] x.Bytes f1] F w) (ok : x.Ok) : Res w0 w [.int .i64 x.Stamp, .slice A1 x.Bytes.length C1] x :=
  ⟨_, Block.own_mk ok (h.mine 0 rfl), by have := h.nd; simpa [blocks, mine] using this, fun b hb => (h.new b (by simpa [blocks, mine] using hb)).resolve_left id⟩
theorem zc {w : World} : own true w [.int .i64 0, .slice none 0 0] (default : Block) [] := iC (Block.own_mk (s := true) (x := (default : Block)) (show I64ok 0 by unfold I64ok; omega) (.inr (.inl ⟨rfl, rfl, rfl⟩))) (by first | rfl | simp)
structure Drive where
  Wiped : Bool
  Blocks : List Block
instance : Rp Drive := Rp.via fun x => (x.Wiped, x.Blocks)
noncomputable instance : DecidableEq Drive := fun _ _ => Classical.propDecidable _
instance : Inhabited Drive := ⟨⟨false, []⟩⟩
def Drive.val (x : Drive) (A1 : Option Addr) (C1 : Nat) : Value := .agg #[.bool x.Wiped, .slice A1 x.Blocks.length C1]
def Drive.Ok (x : Drive) : Prop := True
theorem dh {s w cs} {x : Drive} {fp} (h : own s w cs x fp) : ∃ (A1 : Option Addr) (C1 : Nat) (f1 : List Nat) , cs = [.bool x.Wiped, .slice A1 x.Blocks.length C1] ∧ fp = f1 ∧ x.Ok ∧ own s w [.slice A1 x.Blocks.length C1] x.Blocks f1 := by
  obtain ⟨_, _, _, _, rfl, e0, h0, k0⟩ := cj h
  obtain ⟨rfl, rfl⟩ := h0
  obtain ⟨A1, C1, rfl⟩ := aA k0
  exact ⟨A1, C1, _, rfl, by subst_vars; simp, trivial, k0⟩
theorem Drive.own_mk {s : Bool} {w : World} {x : Drive} {A1 : Option Addr} {C1 : Nat} {f1 : List Nat} (ok : x.Ok) (o1 : own s w [.slice A1 x.Blocks.length C1] x.Blocks f1) : own s w [.bool x.Wiped, .slice A1 x.Blocks.length C1] x (f1) := by
  have h : own s w _ (x.Wiped, x.Blocks) _ := (cG vf o1)
  refine iC h ?_
  simp
theorem Drive.out {w0 w : World} {F : List Rsc} {x : Drive} {A1 : Option Addr} {C1 : Nat} {f1 : List Nat} (h : Sep No w0 [mine [.slice A1 x.Blocks.length C1] x.Blocks f1] F w) (ok : x.Ok) : Res w0 w [.bool x.Wiped, .slice A1 x.Blocks.length C1] x :=
  ⟨_, Drive.own_mk ok (h.mine 0 rfl), by have := h.nd; simpa [blocks, mine] using this, fun b hb => (h.new b (by simpa [blocks, mine] using hb)).resolve_left id⟩
theorem zA {w : World} : own true w [.bool false, .slice none 0 0] (default : Drive) [] := iC (Drive.own_mk (s := true) (x := (default : Drive)) trivial (.inr (.inl ⟨rfl, rfl, rfl⟩))) (by first | rfl | simp)
structure Tape where
  Wiped : Bool
  Recs : List Rec
instance : Rp Tape := Rp.via fun x => (x.Wiped, x.Recs)
noncomputable instance : DecidableEq Tape := fun _ _ => Classical.propDecidable _
instance : Inhabited Tape := ⟨⟨false, []⟩⟩
def Tape.val (x : Tape) (A1 : Option Addr) (C1 : Nat) : Value := .agg #[.bool x.Wiped, .slice A1 x.Recs.length C1]
def Tape.Ok (x : Tape) : Prop := True
theorem ce {s w cs} {x : Tape} {fp} (h : own s w cs x fp) : ∃ (A1 : Option Addr) (C1 : Nat) (f1 : List Nat) , cs = [.bool x.Wiped, .slice A1 x.Recs.length C1] ∧ fp = f1 ∧ x.Ok ∧ own s w [.slice A1 x.Recs.length C1] x.Recs f1 := by
  obtain ⟨_, _, _, _, rfl, e0, h0, k0⟩ := cj h
  obtain ⟨rfl, rfl⟩ := h0
  obtain ⟨A1, C1, rfl⟩ := aA k0
  exact ⟨A1, C1, _, rfl, by subst_vars; simp, trivial, k0⟩
theorem Tape.own_mk {s : Bool} {w : World} {x : Tape} {A1 : Option Addr} {C1 : Nat} {f1 : List Nat} (ok : x.Ok) (o1 : own s w [.slice A1 x.Recs.length C1] x.Recs f1) : own s w [.bool x.Wiped, .slice A1 x.Recs.length C1] x (f1) := by
  have h : own s w _ (x.Wiped, x.Recs) _ := (cG vf o1)
  refine iC h ?_
  simp
theorem Tape.out {w0 w : World} {F : List Rsc} {x : Tape} {A1 : Option Addr} {C1 : Nat} {f1 : List Nat} (h : Sep No w0 [mine [.slice A1 x.Recs.length C1] x.Recs f1] F w) (ok : x.Ok) : Res w0 w [.bool x.Wiped, .slice A1 x.Recs.length C1] x :=
  ⟨_, Tape.own_mk ok (h.mine 0 rfl), by have := h.nd; simpa [blocks, mine] using this, fun b hb => (h.new b (by simpa [blocks, mine] using hb)).resolve_left id⟩
theorem Bl {w : World} : own true w [.bool false, .slice none 0 0] (default : Tape) [] := iC (Tape.own_mk (s := true) (x := (default : Tape)) trivial (.inr (.inl ⟨rfl, rfl, rfl⟩))) (by first | rfl | simp)
structure Wld where
  Shape : Shape
  Groups : List (List Drive)
  On : List Int
  Tapes : List Tape
  Writes : Int
  Stop : Int
  Down : Bool
instance : Rp Wld := Rp.via fun x => (x.Shape, x.Groups, x.On, x.Tapes, x.Writes, x.Stop, x.Down)
noncomputable instance : DecidableEq Wld := fun _ _ => Classical.propDecidable _
instance : Inhabited Wld := ⟨⟨default, [], [], [], 0, 0, false⟩⟩
def Wld.val (x : Wld) (A9 : Option Addr) (C9 : Nat) (A10 : Option Addr) (C10 : Nat) (A11 : Option Addr) (C11 : Nat) : Value := .agg #[.int .i64 x.Shape.Groups, .int .i64 x.Shape.Column, .int .i64 x.Shape.Data, .int .i64 x.Shape.Spare, .int .i64 x.Shape.Rows, .int .i64 x.Shape.Cap, .int .i64 x.Shape.Batch, .int .i64 x.Shape.Queue, .int .i64 x.Shape.Stage, .slice A9 x.Groups.length C9, .slice A10 x.On.length C10, .slice A11 x.Tapes.length C11, .int .i64 x.Writes, .int .i64 x.Stop, .bool x.Down]
def Wld.Ok (x : Wld) : Prop := x.Shape.Ok ∧ I64ok x.Writes ∧ I64ok x.Stop
theorem re {s w cs} {x : Wld} {fp} (h : own s w cs x fp) : ∃ (A9 : Option Addr) (C9 : Nat) (A10 : Option Addr) (C10 : Nat) (A11 : Option Addr) (C11 : Nat) (f9 : List Nat) (f10 : List Nat) (f11 : List Nat) , cs = [.int .i64 x.Shape.Groups, .int .i64 x.Shape.Column, .int .i64 x.Shape.Data, .int .i64 x.Shape.Spare, .int .i64 x.Shape.Rows, .int .i64 x.Shape.Cap, .int .i64 x.Shape.Batch, .int .i64 x.Shape.Queue, .int .i64 x.Shape.Stage, .slice A9 x.Groups.length C9, .slice A10 x.On.length C10, .slice A11 x.Tapes.length C11, .int .i64 x.Writes, .int .i64 x.Stop, .bool x.Down] ∧ fp = f9 ++ (f10 ++ (f11)) ∧ x.Ok ∧ own s w [.slice A9 x.Groups.length C9] x.Groups f9 ∧ own s w [.slice A10 x.On.length C10] x.On f10 ∧ own s w [.slice A11 x.Tapes.length C11] x.Tapes f11 := by
  obtain ⟨_, _, _, _, rfl, e0, h0, k0⟩ := cj h
  obtain ⟨rfl, rfl, i0⟩ := AU h0
  obtain ⟨_, _, _, _, rfl, e1, h1, k1⟩ := cj k0
  obtain ⟨A9, C9, rfl⟩ := aA h1
  obtain ⟨_, _, _, _, rfl, e2, h2, k2⟩ := cj k1
  obtain ⟨A10, C10, rfl⟩ := aA h2
  obtain ⟨_, _, _, _, rfl, e3, h3, k3⟩ := cj k2
  obtain ⟨A11, C11, rfl⟩ := aA h3
  obtain ⟨_, _, _, _, rfl, e4, h4, k4⟩ := cj k3
  obtain ⟨rfl, rfl, i4⟩ := dE h4
  obtain ⟨_, _, _, _, rfl, e5, h5, k5⟩ := cj k4
  obtain ⟨rfl, rfl, i5⟩ := dE h5
  obtain ⟨rfl, rfl⟩ := k5
  exact ⟨A9, C9, A10, C10, A11, C11, _, _, _, rfl, by subst_vars; simp, ⟨i0, i4, i5⟩, h1, h2, h3⟩
theorem eU {s w A9 C9 A10 C10 A11 C11} {x : Wld} {fp} (h : own s w [.int .i64 x.Shape.Groups, .int .i64 x.Shape.Column, .int .i64 x.Shape.Data, .int .i64 x.Shape.Spare, .int .i64 x.Shape.Rows, .int .i64 x.Shape.Cap, .int .i64 x.Shape.Batch, .int .i64 x.Shape.Queue, .int .i64 x.Shape.Stage, .slice A9 x.Groups.length C9, .slice A10 x.On.length C10, .slice A11 x.Tapes.length C11, .int .i64 x.Writes, .int .i64 x.Stop, .bool x.Down] x fp) : ∃ (f9 : List Nat) (f10 : List Nat) (f11 : List Nat), fp = f9 ++ (f10 ++ (f11)) ∧ x.Ok ∧ own s w [.slice A9 x.Groups.length C9] x.Groups f9 ∧ own s w [.slice A10 x.On.length C10] x.On f10 ∧ own s w [.slice A11 x.Tapes.length C11] x.Tapes f11 := by
  obtain ⟨_, _, _, _, _, _, f9, f10, f11, e, ef, ok, o9, o10, o11⟩ := re h
  simp only [List.cons.injEq, Value.slice.injEq, and_true, true_and] at e
  obtain ⟨⟨rfl, rfl⟩, ⟨rfl, rfl⟩, ⟨rfl, rfl⟩⟩ := e
  exact ⟨f9, f10, f11, ef, ok, o9, o10, o11⟩
theorem Wld.own_mk {s : Bool} {w : World} {x : Wld} {A9 : Option Addr} {C9 : Nat} {A10 : Option Addr} {C10 : Nat} {A11 : Option Addr} {C11 : Nat} {f9 : List Nat} {f10 : List Nat} {f11 : List Nat} (ok : x.Ok) (o9 : own s w [.slice A9 x.Groups.length C9] x.Groups f9) (o10 : own s w [.slice A10 x.On.length C10] x.On f10) (o11 : own s w [.slice A11 x.Tapes.length C11] x.Tapes f11) : own s w [.int .i64 x.Shape.Groups, .int .i64 x.Shape.Column, .int .i64 x.Shape.Data, .int .i64 x.Shape.Spare, .int .i64 x.Shape.Rows, .int .i64 x.Shape.Cap, .int .i64 x.Shape.Batch, .int .i64 x.Shape.Queue, .int .i64 x.Shape.Stage, .slice A9 x.Groups.length C9, .slice A10 x.On.length C10, .slice A11 x.Tapes.length C11, .int .i64 x.Writes, .int .i64 x.Stop, .bool x.Down] x (f9 ++ (f10 ++ (f11))) := by
  obtain ⟨i0, i4, i5⟩ := ok
  have h : own s w _ (x.Shape, x.Groups, x.On, x.Tapes, x.Writes, x.Stop, x.Down) _ := (cG (Shape.own_mk (x := x.Shape) i0) (cG o9 (cG o10 (cG o11 (cG (dO i4) (cG (dO i5) vf))))))
  refine iC h ?_
  simp
theorem Wld.out {w0 w : World} {F : List Rsc} {x : Wld} {A9 : Option Addr} {C9 : Nat} {A10 : Option Addr} {C10 : Nat} {A11 : Option Addr} {C11 : Nat} {f9 : List Nat} {f10 : List Nat} {f11 : List Nat} (h : Sep No w0 [mine [.slice A9 x.Groups.length C9] x.Groups f9, mine [.slice A10 x.On.length C10] x.On f10, mine [.slice A11 x.Tapes.length C11] x.Tapes f11] F w) (ok : x.Ok) : Res w0 w [.int .i64 x.Shape.Groups, .int .i64 x.Shape.Column, .int .i64 x.Shape.Data, .int .i64 x.Shape.Spare, .int .i64 x.Shape.Rows, .int .i64 x.Shape.Cap, .int .i64 x.Shape.Batch, .int .i64 x.Shape.Queue, .int .i64 x.Shape.Stage, .slice A9 x.Groups.length C9, .slice A10 x.On.length C10, .slice A11 x.Tapes.length C11, .int .i64 x.Writes, .int .i64 x.Stop, .bool x.Down] x :=
  ⟨_, Wld.own_mk ok (h.mine 0 rfl) (h.mine 1 rfl) (h.mine 2 rfl), by have := h.nd; simpa [blocks, mine] using this, fun b hb => (h.new b (by simpa [blocks, mine] using hb)).resolve_left id⟩
theorem Wld.see9 {s : Bool} {w : World} {x : Wld} {A9 : Option Addr} {C9 : Nat} {A10 : Option Addr} {C10 : Nat} {A11 : Option Addr} {C11 : Nat} {fp : List Nat} (h : own s w [.int .i64 x.Shape.Groups, .int .i64 x.Shape.Column, .int .i64 x.Shape.Data, .int .i64 x.Shape.Spare, .int .i64 x.Shape.Rows, .int .i64 x.Shape.Cap, .int .i64 x.Shape.Batch, .int .i64 x.Shape.Queue, .int .i64 x.Shape.Stage, .slice A9 x.Groups.length C9, .slice A10 x.On.length C10, .slice A11 x.Tapes.length C11, .int .i64 x.Writes, .int .i64 x.Stop, .bool x.Down] x fp) : Sees w [.slice A9 x.Groups.length C9] x.Groups := by
  obtain ⟨_, _, _, _, _, o, _, _⟩ := eU h
  exact ⟨_, bc o⟩
theorem Wld.see10 {s : Bool} {w : World} {x : Wld} {A9 : Option Addr} {C9 : Nat} {A10 : Option Addr} {C10 : Nat} {A11 : Option Addr} {C11 : Nat} {fp : List Nat} (h : own s w [.int .i64 x.Shape.Groups, .int .i64 x.Shape.Column, .int .i64 x.Shape.Data, .int .i64 x.Shape.Spare, .int .i64 x.Shape.Rows, .int .i64 x.Shape.Cap, .int .i64 x.Shape.Batch, .int .i64 x.Shape.Queue, .int .i64 x.Shape.Stage, .slice A9 x.Groups.length C9, .slice A10 x.On.length C10, .slice A11 x.Tapes.length C11, .int .i64 x.Writes, .int .i64 x.Stop, .bool x.Down] x fp) : Sees w [.slice A10 x.On.length C10] x.On := by
  obtain ⟨_, _, _, _, _, _, o, _⟩ := eU h
  exact ⟨_, bc o⟩
theorem Wld.see11 {s : Bool} {w : World} {x : Wld} {A9 : Option Addr} {C9 : Nat} {A10 : Option Addr} {C10 : Nat} {A11 : Option Addr} {C11 : Nat} {fp : List Nat} (h : own s w [.int .i64 x.Shape.Groups, .int .i64 x.Shape.Column, .int .i64 x.Shape.Data, .int .i64 x.Shape.Spare, .int .i64 x.Shape.Rows, .int .i64 x.Shape.Cap, .int .i64 x.Shape.Batch, .int .i64 x.Shape.Queue, .int .i64 x.Shape.Stage, .slice A9 x.Groups.length C9, .slice A10 x.On.length C10, .slice A11 x.Tapes.length C11, .int .i64 x.Writes, .int .i64 x.Stop, .bool x.Down] x fp) : Sees w [.slice A11 x.Tapes.length C11] x.Tapes := by
  obtain ⟨_, _, _, _, _, _, _, o⟩ := eU h
  exact ⟨_, bc o⟩
theorem Wld.mutOut {w w' : World} {fp : List Nat} {x : Wld} {A9 : Option Addr} {C9 : Nat} {A10 : Option Addr} {C10 : Nat} {A11 : Option Addr} {C11 : Nat} {y9 : List (List Drive)} {y10 : List Int} {y11 : List Tape} {f9 : List Nat} {f10 : List Nat} {f11 : List Nat} {F : List Rsc} (ok : x.Ok) (h : Sep (· ∈ fp) w [gone, mine [.slice A9 x.Groups.length C9] y9 f9, mine [.slice A10 x.On.length C10] y10 f10, mine [.slice A11 x.Tapes.length C11] y11 f11] F w') (l9 : y9.length = x.Groups.length) (l10 : y10.length = x.On.length) (l11 : y11.length = x.Tapes.length) : Mut w w' fp [.int .i64 x.Shape.Groups, .int .i64 x.Shape.Column, .int .i64 x.Shape.Data, .int .i64 x.Shape.Spare, .int .i64 x.Shape.Rows, .int .i64 x.Shape.Cap, .int .i64 x.Shape.Batch, .int .i64 x.Shape.Queue, .int .i64 x.Shape.Stage, .slice A9 x.Groups.length C9, .slice A10 x.On.length C10, .slice A11 x.Tapes.length C11, .int .i64 x.Writes, .int .i64 x.Stop, .bool x.Down] (⟨⟨x.Shape.Groups, x.Shape.Column, x.Shape.Data, x.Shape.Spare, x.Shape.Rows, x.Shape.Cap, x.Shape.Batch, x.Shape.Queue, x.Shape.Stage⟩, y9, y10, y11, x.Writes, x.Stop, x.Down⟩ : Wld) := by
  have o9 := h.mine 1 rfl
  rw [← l9] at o9
  have o10 := h.mine 2 rfl
  rw [← l10] at o10
  have o11 := h.mine 3 rfl
  rw [← l11] at o11
  have hh := Wld.own_mk (x := (⟨⟨x.Shape.Groups, x.Shape.Column, x.Shape.Data, x.Shape.Spare, x.Shape.Rows, x.Shape.Cap, x.Shape.Batch, x.Shape.Queue, x.Shape.Stage⟩, y9, y10, y11, x.Writes, x.Stop, x.Down⟩ : Wld)) ok o9 o10 o11
  dsimp only at hh
  rw [l9, l10, l11] at hh
  exact ⟨h.ext, _, hh, (by have := h.nd; simpa [blocks, mine, gone] using this), fun b hb => h.new b (by simpa [blocks, mine, gone] using hb)⟩
structure WldResult where
  Code : Int
  Wd : Wld
instance : Rp WldResult := Rp.via fun x => (x.Code, x.Wd)
noncomputable instance : DecidableEq WldResult := fun _ _ => Classical.propDecidable _
instance : Inhabited WldResult := ⟨⟨0, default⟩⟩
def WldResult.val (x : WldResult) (A10 : Option Addr) (C10 : Nat) (A11 : Option Addr) (C11 : Nat) (A12 : Option Addr) (C12 : Nat) : Value := .agg #[.int .i64 x.Code, .int .i64 x.Wd.Shape.Groups, .int .i64 x.Wd.Shape.Column, .int .i64 x.Wd.Shape.Data, .int .i64 x.Wd.Shape.Spare, .int .i64 x.Wd.Shape.Rows, .int .i64 x.Wd.Shape.Cap, .int .i64 x.Wd.Shape.Batch, .int .i64 x.Wd.Shape.Queue, .int .i64 x.Wd.Shape.Stage, .slice A10 x.Wd.Groups.length C10, .slice A11 x.Wd.On.length C11, .slice A12 x.Wd.Tapes.length C12, .int .i64 x.Wd.Writes, .int .i64 x.Wd.Stop, .bool x.Wd.Down]
def WldResult.Ok (x : WldResult) : Prop := I64ok x.Code ∧ x.Wd.Ok
theorem mK {s w cs} {x : WldResult} {fp} (h : own s w cs x fp) : ∃ (A10 : Option Addr) (C10 : Nat) (A11 : Option Addr) (C11 : Nat) (A12 : Option Addr) (C12 : Nat) (f10 : List Nat) (f11 : List Nat) (f12 : List Nat) , cs = [.int .i64 x.Code, .int .i64 x.Wd.Shape.Groups, .int .i64 x.Wd.Shape.Column, .int .i64 x.Wd.Shape.Data, .int .i64 x.Wd.Shape.Spare, .int .i64 x.Wd.Shape.Rows, .int .i64 x.Wd.Shape.Cap, .int .i64 x.Wd.Shape.Batch, .int .i64 x.Wd.Shape.Queue, .int .i64 x.Wd.Shape.Stage, .slice A10 x.Wd.Groups.length C10, .slice A11 x.Wd.On.length C11, .slice A12 x.Wd.Tapes.length C12, .int .i64 x.Wd.Writes, .int .i64 x.Wd.Stop, .bool x.Wd.Down] ∧ fp = f10 ++ (f11 ++ (f12)) ∧ x.Ok ∧ own s w [.slice A10 x.Wd.Groups.length C10] x.Wd.Groups f10 ∧ own s w [.slice A11 x.Wd.On.length C11] x.Wd.On f11 ∧ own s w [.slice A12 x.Wd.Tapes.length C12] x.Wd.Tapes f12 := by
  obtain ⟨_, _, _, _, rfl, e0, h0, k0⟩ := cj h
  obtain ⟨rfl, rfl, i0⟩ := dE h0
  obtain ⟨A10, C10, A11, C11, A12, C12, g10, g11, g12, rfl, rfl, i1, o10, o11, o12⟩ := re k0
  exact ⟨A10, C10, A11, C11, A12, C12, _, _, _, rfl, by subst_vars; simp, ⟨i0, i1⟩, o10, o11, o12⟩
theorem et {s w A10 C10 A11 C11 A12 C12} {x : WldResult} {fp} (h : own s w [.int .i64 x.Code, .int .i64 x.Wd.Shape.Groups, .int .i64 x.Wd.Shape.Column, .int .i64 x.Wd.Shape.Data, .int .i64 x.Wd.Shape.Spare, .int .i64 x.Wd.Shape.Rows, .int .i64 x.Wd.Shape.Cap, .int .i64 x.Wd.Shape.Batch, .int .i64 x.Wd.Shape.Queue, .int .i64 x.Wd.Shape.Stage, .slice A10 x.Wd.Groups.length C10, .slice A11 x.Wd.On.length C11, .slice A12 x.Wd.Tapes.length C12, .int .i64 x.Wd.Writes, .int .i64 x.Wd.Stop, .bool x.Wd.Down] x fp) : ∃ (f10 : List Nat) (f11 : List Nat) (f12 : List Nat), fp = f10 ++ (f11 ++ (f12)) ∧ x.Ok ∧ own s w [.slice A10 x.Wd.Groups.length C10] x.Wd.Groups f10 ∧ own s w [.slice A11 x.Wd.On.length C11] x.Wd.On f11 ∧ own s w [.slice A12 x.Wd.Tapes.length C12] x.Wd.Tapes f12 := by
  obtain ⟨_, _, _, _, _, _, f10, f11, f12, e, ef, ok, o10, o11, o12⟩ := mK h
  simp only [List.cons.injEq, Value.slice.injEq, and_true, true_and] at e
  obtain ⟨⟨rfl, rfl⟩, ⟨rfl, rfl⟩, ⟨rfl, rfl⟩⟩ := e
  exact ⟨f10, f11, f12, ef, ok, o10, o11, o12⟩
theorem WldResult.own_mk {s : Bool} {w : World} {x : WldResult} {A10 : Option Addr} {C10 : Nat} {A11 : Option Addr} {C11 : Nat} {A12 : Option Addr} {C12 : Nat} {f10 : List Nat} {f11 : List Nat} {f12 : List Nat} (ok : x.Ok) (o10 : own s w [.slice A10 x.Wd.Groups.length C10] x.Wd.Groups f10) (o11 : own s w [.slice A11 x.Wd.On.length C11] x.Wd.On f11) (o12 : own s w [.slice A12 x.Wd.Tapes.length C12] x.Wd.Tapes f12) : own s w [.int .i64 x.Code, .int .i64 x.Wd.Shape.Groups, .int .i64 x.Wd.Shape.Column, .int .i64 x.Wd.Shape.Data, .int .i64 x.Wd.Shape.Spare, .int .i64 x.Wd.Shape.Rows, .int .i64 x.Wd.Shape.Cap, .int .i64 x.Wd.Shape.Batch, .int .i64 x.Wd.Shape.Queue, .int .i64 x.Wd.Shape.Stage, .slice A10 x.Wd.Groups.length C10, .slice A11 x.Wd.On.length C11, .slice A12 x.Wd.Tapes.length C12, .int .i64 x.Wd.Writes, .int .i64 x.Wd.Stop, .bool x.Wd.Down] x (f10 ++ (f11 ++ (f12))) := by
  obtain ⟨i0, i1⟩ := ok
  have h : own s w _ (x.Code, x.Wd) _ := (cG (dO i0) (Wld.own_mk (x := x.Wd) i1 o10 o11 o12))
  refine iC h ?_
  simp
theorem WldResult.out {w0 w : World} {F : List Rsc} {x : WldResult} {A10 : Option Addr} {C10 : Nat} {A11 : Option Addr} {C11 : Nat} {A12 : Option Addr} {C12 : Nat} {f10 : List Nat} {f11 : List Nat} {f12 : List Nat} (h : Sep No w0 [mine [.slice A10 x.Wd.Groups.length C10] x.Wd.Groups f10, mine [.slice A11 x.Wd.On.length C11] x.Wd.On f11, mine [.slice A12 x.Wd.Tapes.length C12] x.Wd.Tapes f12] F w) (ok : x.Ok) : Res w0 w [.int .i64 x.Code, .int .i64 x.Wd.Shape.Groups, .int .i64 x.Wd.Shape.Column, .int .i64 x.Wd.Shape.Data, .int .i64 x.Wd.Shape.Spare, .int .i64 x.Wd.Shape.Rows, .int .i64 x.Wd.Shape.Cap, .int .i64 x.Wd.Shape.Batch, .int .i64 x.Wd.Shape.Queue, .int .i64 x.Wd.Shape.Stage, .slice A10 x.Wd.Groups.length C10, .slice A11 x.Wd.On.length C11, .slice A12 x.Wd.Tapes.length C12, .int .i64 x.Wd.Writes, .int .i64 x.Wd.Stop, .bool x.Wd.Down] x :=
  ⟨_, WldResult.own_mk ok (h.mine 0 rfl) (h.mine 1 rfl) (h.mine 2 rfl), by have := h.nd; simpa [blocks, mine] using this, fun b hb => (h.new b (by simpa [blocks, mine] using hb)).resolve_left id⟩
theorem WldResult.see10 {s : Bool} {w : World} {x : WldResult} {A10 : Option Addr} {C10 : Nat} {A11 : Option Addr} {C11 : Nat} {A12 : Option Addr} {C12 : Nat} {fp : List Nat} (h : own s w [.int .i64 x.Code, .int .i64 x.Wd.Shape.Groups, .int .i64 x.Wd.Shape.Column, .int .i64 x.Wd.Shape.Data, .int .i64 x.Wd.Shape.Spare, .int .i64 x.Wd.Shape.Rows, .int .i64 x.Wd.Shape.Cap, .int .i64 x.Wd.Shape.Batch, .int .i64 x.Wd.Shape.Queue, .int .i64 x.Wd.Shape.Stage, .slice A10 x.Wd.Groups.length C10, .slice A11 x.Wd.On.length C11, .slice A12 x.Wd.Tapes.length C12, .int .i64 x.Wd.Writes, .int .i64 x.Wd.Stop, .bool x.Wd.Down] x fp) : Sees w [.slice A10 x.Wd.Groups.length C10] x.Wd.Groups := by
  obtain ⟨_, _, _, _, _, o, _, _⟩ := et h
  exact ⟨_, bc o⟩
theorem WldResult.see11 {s : Bool} {w : World} {x : WldResult} {A10 : Option Addr} {C10 : Nat} {A11 : Option Addr} {C11 : Nat} {A12 : Option Addr} {C12 : Nat} {fp : List Nat} (h : own s w [.int .i64 x.Code, .int .i64 x.Wd.Shape.Groups, .int .i64 x.Wd.Shape.Column, .int .i64 x.Wd.Shape.Data, .int .i64 x.Wd.Shape.Spare, .int .i64 x.Wd.Shape.Rows, .int .i64 x.Wd.Shape.Cap, .int .i64 x.Wd.Shape.Batch, .int .i64 x.Wd.Shape.Queue, .int .i64 x.Wd.Shape.Stage, .slice A10 x.Wd.Groups.length C10, .slice A11 x.Wd.On.length C11, .slice A12 x.Wd.Tapes.length C12, .int .i64 x.Wd.Writes, .int .i64 x.Wd.Stop, .bool x.Wd.Down] x fp) : Sees w [.slice A11 x.Wd.On.length C11] x.Wd.On := by
  obtain ⟨_, _, _, _, _, _, o, _⟩ := et h
  exact ⟨_, bc o⟩
theorem WldResult.see12 {s : Bool} {w : World} {x : WldResult} {A10 : Option Addr} {C10 : Nat} {A11 : Option Addr} {C11 : Nat} {A12 : Option Addr} {C12 : Nat} {fp : List Nat} (h : own s w [.int .i64 x.Code, .int .i64 x.Wd.Shape.Groups, .int .i64 x.Wd.Shape.Column, .int .i64 x.Wd.Shape.Data, .int .i64 x.Wd.Shape.Spare, .int .i64 x.Wd.Shape.Rows, .int .i64 x.Wd.Shape.Cap, .int .i64 x.Wd.Shape.Batch, .int .i64 x.Wd.Shape.Queue, .int .i64 x.Wd.Shape.Stage, .slice A10 x.Wd.Groups.length C10, .slice A11 x.Wd.On.length C11, .slice A12 x.Wd.Tapes.length C12, .int .i64 x.Wd.Writes, .int .i64 x.Wd.Stop, .bool x.Wd.Down] x fp) : Sees w [.slice A12 x.Wd.Tapes.length C12] x.Wd.Tapes := by
  obtain ⟨_, _, _, _, _, _, _, o⟩ := et h
  exact ⟨_, bc o⟩
structure BlockResult where
  Code : Int
  Block : Block
instance : Rp BlockResult := Rp.via fun x => (x.Code, x.Block)
noncomputable instance : DecidableEq BlockResult := fun _ _ => Classical.propDecidable _
instance : Inhabited BlockResult := ⟨⟨0, default⟩⟩
def BlockResult.val (x : BlockResult) (A2 : Option Addr) (C2 : Nat) : Value := .agg #[.int .i64 x.Code, .int .i64 x.Block.Stamp, .slice A2 x.Block.Bytes.length C2]
structure IntResult where
  Code : Int
  Val : Int
instance : Rp IntResult := Rp.via fun x => (x.Code, x.Val)
noncomputable instance : DecidableEq IntResult := fun _ _ => Classical.propDecidable _
instance : Inhabited IntResult := ⟨⟨0, 0⟩⟩
def IntResult.val (x : IntResult) : Value := .agg #[.int .i64 x.Code, .int .i64 x.Val]
structure IntsResult where
  Code : Int
  Lst : List Int
instance : Rp IntsResult := Rp.via fun x => (x.Code, x.Lst)
noncomputable instance : DecidableEq IntsResult := fun _ _ => Classical.propDecidable _
instance : Inhabited IntsResult := ⟨⟨0, []⟩⟩
def IntsResult.val (x : IntsResult) (A1 : Option Addr) (C1 : Nat) : Value := .agg #[.int .i64 x.Code, .slice A1 x.Lst.length C1]
structure GroupsResult where
  Code : Int
  Groups : List Int
instance : Rp GroupsResult := Rp.via fun x => (x.Code, x.Groups)
noncomputable instance : DecidableEq GroupsResult := fun _ _ => Classical.propDecidable _
instance : Inhabited GroupsResult := ⟨⟨0, []⟩⟩
def GroupsResult.val (x : GroupsResult) (A1 : Option Addr) (C1 : Nat) : Value := .agg #[.int .i64 x.Code, .slice A1 x.Groups.length C1]
structure RecsResult where
  Code : Int
  Recs : List Rec
instance : Rp RecsResult := Rp.via fun x => (x.Code, x.Recs)
noncomputable instance : DecidableEq RecsResult := fun _ _ => Classical.propDecidable _
instance : Inhabited RecsResult := ⟨⟨0, []⟩⟩
def RecsResult.val (x : RecsResult) (A1 : Option Addr) (C1 : Nat) : Value := .agg #[.int .i64 x.Code, .slice A1 x.Recs.length C1]
structure ListsResult where
  Code : Int
  Lists : List (List UInt8)
instance : Rp ListsResult := Rp.via fun x => (x.Code, x.Lists)
noncomputable instance : DecidableEq ListsResult := fun _ _ => Classical.propDecidable _
instance : Inhabited ListsResult := ⟨⟨0, []⟩⟩
def ListsResult.val (x : ListsResult) (A1 : Option Addr) (C1 : Nat) : Value := .agg #[.int .i64 x.Code, .slice A1 x.Lists.length C1]
end Go.Wk
namespace Go.Wk
open Rp (sz own)
theorem Sep.fbox {M : Nat → Prop} {w0 w : World} {Δ F : List Rsc} (h : Sep M w0 Δ F w) (j : Nat) {b : Nat} {o : Obj} (hj : F[j]? = some (Wk.box b o)) : w.heap[b]? = some o := h.fs _ (List.mem_of_getElem? hj)
theorem Ext.atM {M : Nat → Prop} {w w' : World} (h : Ext M w w') {b o : Nat} {cs : List Value} (hm : ¬ M b) (hc : At w b o cs) : At w' b o cs := fun j v hj => h.cellM hm (hc j v hj)
theorem aY {α : Type} [Rp α] [Inhabited α] {s w ad n cap} {xs : List α} {fp} (h : own s w [.slice ad n cap] xs fp) (k : Nat) (hk : k < xs.length) :
    ∃ b o cs f, ad = some ⟨b, o, none⟩ ∧ At w b (o + k * sz α) cs ∧ own s w cs (xs.getD k default) f ∧ (∀ b ∈ f, b ∈ fp) ∧ b ∈ fp := by
  obtain ⟨b, o, cs, f, h1, h2, h3, h4, h5⟩ := eL h k hk
  rw [show xs.getD k default = xs[k] from by simp [List.getD, hk]]
  exact ⟨b, o, cs, f, h1, h2, h3, h4, h5⟩
section
variable {P : Program} {n : Nat} {ops : Array Oper} {Q : Post} {L : Env} {ty : TypeId} {p : String} {af : Array Edge} {g : Option (Nat × Bool)} {M : Nat → Prop} {w0 w : World} {Δ F : List Rsc} {α : Type} [Rp α]
theorem og {rest : List Oper} {t : TypeId} {x y : Operand} {b off : Nat} {vs : List Value} {ad : Option Addr} {len cap : Nat} {xs : List α} {fp fu : List Nat} {u : α} (hw : Wn ops n L ⟨none, .store t x y, ty, p, af, g⟩) (hs : ∀ w, (sizeOf t).run P w = .ok (sz α) w)
    (H : Sep M w0 Δ F w) (i j : Nat) (hi : Δ[i]? = some (mine [.slice ad len cap] xs fp)) (hj : Δ[j]? = some (mine vs u fu)) (hij : Nat.beq j i = false) (q : Nat) (hq : q < xs.length) (hx : evL L x = some (.pointer (some ⟨b, off + q * sz α, none⟩))) (had : ad = some ⟨b, off, none⟩) (hy : evL L y = some (.agg vs.toArray))
    (k : ∀ w' fp', Sep M w0 ((Δ.set j gone).set i (mine [.slice ad len cap] (xs.set q u) fp')) F w' → RL P n ops Q rest L w') :
    RL P n ops Q (⟨none, .store t x y, ty, p, af, g⟩ :: rest) L w := by
  obtain ⟨b', o', cur, T, fp', e1, hb, hsz, hk⟩ := H.elset2 i j hi hj hij q hq
  rw [had] at e1
  simp only [Option.some.injEq, Addr.mk.injEq, and_true] at e1
  obtain ⟨rfl, rfl⟩ := e1
  have hm := H.mine j hj
  exact vK hw rfl (kB hs hx hy (Rp.len hm) (Rp.one hm) hb hsz) (k _ fp' hk)
end
def szL {α : Type} [Inhabited α] (f : α → Nat) (xs : List α) : Nat := xs.length + bI (fun i => f (xs.getD i default)) xs.length
theorem fX {α : Type} [Inhabited α] {f : α → Nat} {xs : List α} : szL f xs = xs.length + bI (fun i => f (xs.getD i default)) xs.length := rfl
theorem dv {α : Type} [Inhabited α] {f : α → Nat} {xs : List α} {m : Nat} (h : szL f xs ≤ m) (k : Nat) (hk : k < xs.length) : f (xs.getD k default) ≤ m ∧ xs.length ≤ m := by
  have : bI (fun i => f (xs.getD i default)) (k + 1) ≤ bI (fun i => f (xs.getD i default)) xs.length := jN (by omega)
  have h2 : bI (fun i => f (xs.getD i default)) (k + 1) = bI (fun i => f (xs.getD i default)) k + f (xs.getD k default) := rfl
  unfold szL at h
  omega
def cF (x : Rec) : Nat := x.Name.size + x.Rows.length + x.Data.length + x.Delta.length
def cD (x : Block) : Nat := x.Bytes.length
def bz (x : Drive) : Nat := szL cD x.Blocks
def cO (x : Tape) : Nat := szL cF x.Recs
def fJ (x : Wld) : Nat := szL (szL bz) x.Groups + x.On.length + szL cO x.Tapes
def mkL {α : Type} [Inhabited α] (f : α → Nat) (xs : List α) : Nat := bI (fun i => f (xs.getD i default)) xs.length
def cf (x : Rec) : Nat := 6 + x.Rows.length + x.Data.length + x.Delta.length
def cJ (x : Block) : Nat := 1 + x.Bytes.length
def bp (x : Drive) : Nat := 1 + mkL cJ x.Blocks
def cP (x : Tape) : Nat := 1 + mkL cf x.Recs
def cE (x : Wld) : Nat := mkL (mkL bp) x.Groups + x.On.length + mkL cP x.Tapes
theorem vG {α : Type} [Inhabited α] {f g : α → Nat} (h : ∀ x, f x ≤ 7 + 7 * g x) {xs : List α} : mkL f xs ≤ 7 * szL g xs := by
  have : ∀ k, bI (fun i => f (xs.getD i default)) k ≤ 7 * k + 7 * bI (fun i => g (xs.getD i default)) k := by
    intro k
    induction k with
    | zero => exact Nat.le_refl _
    | succ k ih =>
      have := h (xs.getD k default)
      simp only [bI]; omega
  have := this xs.length
  unfold mkL szL; omega
theorem BS (x : Rec) : cf x ≤ 7 + 7 * cF x := by unfold cf cF; omega
theorem yX (x : Block) : cJ x ≤ 7 + 7 * cD x := by unfold cJ cD; omega
theorem yv (x : Drive) : bp x ≤ 7 + 7 * bz x := by
  have := vG yX (xs := x.Blocks)
  unfold bp bz; omega
theorem AT (x : Tape) : cP x ≤ 7 + 7 * cO x := by
  have := vG BS (xs := x.Recs)
  unfold cP cO; omega
theorem zv (x : List Drive) : mkL bp x ≤ 7 + 7 * szL bz x := by
  have := vG yv (xs := x); omega
theorem De (x : Wld) : cE x ≤ 7 * fJ x := by
  have h1 := vG zv (xs := x.Groups)
  have h2 := vG AT (xs := x.Tapes)
  unfold cE fJ; omega
end Go.Wk
namespace Go.Wk
open Go.Proofs Rp
set_option maxRecDepth 10000
theorem nO {w : World} {s t : Shape}  : Ret Tryz.prog 71 #[s.v, t.v] w fun v w' => Ext No w w' ∧ (v = .bool (decide (s = t))) := by
 refine aF (vs := [s.v, t.v]) Tryz.func71 Z Tryz.ntmps71 Z (fun Q hQ hN => ?_);have H0 := Sep.start (w := w) (F := []) (by simp);refine ag (be (wn Z) Z Z H0 (fun b1 w1 e1 g1 H1 => ?_));refine be (wn Z) Z Z H1 (fun b2 w2 e2 g2 H2 => ?_);refine sA Z Z (aa (ah (ag (sV Z (ab bq Z ts2 Z Z) (sV Z (ac tu2 Z Z (ae (H2.box 0 Z) Z)) (sV Z (ab bq Z ts2 Z Z) (sV Z (ac tu2 Z Z (ae (H2.box 1 Z) Z)) (sV Z (aU Z Z) (aa (az Z (fun c1 => ?_) (fun c1 => ?_)))))))))))
 ·refine ag (sA Z Z (aa (rT hQ Tryz.results71 Z (⟨H2.ext, ?_⟩))));rw [decide_eq_false (fun e => by subst e; first | exact c1 rfl | simp at c1)]
 ·refine ak (ah (ag (sV Z (ab bq Z ts2 Z Z) (sV Z (ac tu2 Z Z (ae (H2.box 0 Z) Z)) (sV Z (ab bq Z ts2 Z Z) (sV Z (ac tu2 Z Z (ae (H2.box 1 Z) Z)) (sV Z (aU Z Z) (aa (az Z (fun c2 => ?_) (fun c2 => ?_))))))))))
  ·refine ag (sA Z Z (aa (rT hQ Tryz.results71 Z (⟨H2.ext, ?_⟩))));rw [decide_eq_false (fun e => by subst e; first | exact c2 rfl | simp at c2)]
  ·refine ak (ah (ag (sV Z (ab bq Z ts2 Z Z) (sV Z (ac tu2 Z Z (ae (H2.box 0 Z) Z)) (sV Z (ab bq Z ts2 Z Z) (sV Z (ac tu2 Z Z (ae (H2.box 1 Z) Z)) (sV Z (aU Z Z) (aa (az Z (fun c3 => ?_) (fun c3 => ?_))))))))))
   ·refine ag (sA Z Z (aa (rT hQ Tryz.results71 Z (⟨H2.ext, ?_⟩))));rw [decide_eq_false (fun e => by subst e; first | exact c3 rfl | simp at c3)]
   ·refine ak (ah (ag (sV Z (ab bq Z ts2 Z Z) (sV Z (ac tu2 Z Z (ae (H2.box 0 Z) Z)) (sV Z (ab bq Z ts2 Z Z) (sV Z (ac tu2 Z Z (ae (H2.box 1 Z) Z)) (sV Z (aU Z Z) (aa (az Z (fun c4 => ?_) (fun c4 => ?_))))))))))
    ·refine ag (sA Z Z (aa (rT hQ Tryz.results71 Z (⟨H2.ext, ?_⟩))));rw [decide_eq_false (fun e => by subst e; first | exact c4 rfl | simp at c4)]
    ·refine ak (ah (ag (sV Z (ab bq Z ts2 Z Z) (sV Z (ac tu2 Z Z (ae (H2.box 0 Z) Z)) (sV Z (ab bq Z ts2 Z Z) (sV Z (ac tu2 Z Z (ae (H2.box 1 Z) Z)) (sV Z (aU Z Z) (aa (az Z (fun c5 => ?_) (fun c5 => ?_))))))))))
     ·refine ag (sA Z Z (aa (rT hQ Tryz.results71 Z (⟨H2.ext, ?_⟩))));rw [decide_eq_false (fun e => by subst e; first | exact c5 rfl | simp at c5)]
     ·refine ak (ah (ag (sV Z (ab bq Z ts2 Z Z) (sV Z (ac tu2 Z Z (ae (H2.box 0 Z) Z)) (sV Z (ab bq Z ts2 Z Z) (sV Z (ac tu2 Z Z (ae (H2.box 1 Z) Z)) (sV Z (aU Z Z) (aa (az Z (fun c6 => ?_) (fun c6 => ?_))))))))))
      ·refine ag (sA Z Z (aa (rT hQ Tryz.results71 Z (⟨H2.ext, ?_⟩))));rw [decide_eq_false (fun e => by subst e; first | exact c6 rfl | simp at c6)]
      ·refine ak (ah (ag (sV Z (ab bq Z ts2 Z Z) (sV Z (ac tu2 Z Z (ae (H2.box 0 Z) Z)) (sV Z (ab bq Z ts2 Z Z) (sV Z (ac tu2 Z Z (ae (H2.box 1 Z) Z)) (sV Z (aU Z Z) (aa (az Z (fun c7 => ?_) (fun c7 => ?_))))))))))
       ·refine ag (sA Z Z (aa (rT hQ Tryz.results71 Z (⟨H2.ext, ?_⟩))));rw [decide_eq_false (fun e => by subst e; first | exact c7 rfl | simp at c7)]
       ·refine ak (ah (ag (sV Z (ab bq Z ts2 Z Z) (sV Z (ac tu2 Z Z (ae (H2.box 0 Z) Z)) (sV Z (ab bq Z ts2 Z Z) (sV Z (ac tu2 Z Z (ae (H2.box 1 Z) Z)) (sV Z (aU Z Z) (aa (az Z (fun c8 => ?_) (fun c8 => ?_))))))))))
        ·refine ag (sA Z Z (aa (rT hQ Tryz.results71 Z (⟨H2.ext, ?_⟩))));rw [decide_eq_false (fun e => by subst e; first | exact c8 rfl | simp at c8)]
        ·refine ak (ah (ag (sV Z (ab bq Z ts2 Z Z) (sV Z (ac tu2 Z Z (ae (H2.box 0 Z) Z)) (sV Z (ab bq Z ts2 Z Z) (sV Z (ac tu2 Z Z (ae (H2.box 1 Z) Z)) (sV Z (aU Z Z) (aa (az Z (fun c9 => ?_) (fun c9 => ?_))))))))))
         ·refine ag (sA Z Z (aa (rT hQ Tryz.results71 Z (⟨H2.ext, ?_⟩))));rw [decide_eq_false (fun e => by subst e; first | exact c9 rfl | simp at c9)]
         ·refine ak (ag (sA Z Z (aa (rT hQ Tryz.results71 Z (⟨H2.ext, ?_⟩)))));rw [decide_eq_true];cases s; cases t; simp_all [iI]
theorem oJ {w : World} {x : Block} {xA1 : Option Addr} {xC1 : Nat} {l : Int} (xK : x.Ok) (xS1 : Sees w [.slice xA1 x.Bytes.length xC1] x.Bytes) (hl : -1 ≤ l ∧ l ≤ 1048576) : Ret Tryz.prog 352 #[x.val xA1 xC1, .int .i64 l] w fun v w' => Ext No w w' ∧ (v = .int .i64 (if l - cD x < 0 then -1 else l - cD x)) := by
 have xK2 := xK;unfold Block.Ok at xK2
 try unfold I64ok at xK2
 try unfold maxLen at xK2
 have xL1 := sL xS1;obtain ⟨xF1, xO1⟩ := xS1;refine aF (vs := [x.val xA1 xC1, .int .i64 l]) Tryz.func352 Z Tryz.ntmps352 Z (fun Q hQ hN => ?_);have H0 := Sep.start (w := w) (F := [seen false [.slice xA1 x.Bytes.length xC1] x.Bytes xF1]) (all_cons xO1 (by simp));refine ag (be (wn Z) Z Z H0 (fun b1 w1 e1 g1 H1 => ?_));refine sA Z Z (aa (ag (sV Z (ab vu Z aZ Z Z) (sV Z (ac aR Z Z (ae (H1.box 0 Z) Z)) (sM Z Z (ay (wn Z) Z Z (aj Tryz.func353 Z na Z) (gw (H1.sees 0 Z) (by omega)) (fun v1 w2 r1 => ?_)))))));obtain ⟨e2, rfl⟩ := r1;have H2 := H1.to e2;refine sA Z Z (aa (ah (ag (sM Z Z (sV Z (aD Z Z) (aa (az Z (fun c1 => ?_) (fun c1 => ?_))))))))
 ·refine ag (sA Z Z (aa (rT hQ Tryz.results352 Z ?_)));exact ⟨H2.ext, congrArg (Value.int .i64) (by unfold cD; omega)⟩
 ·refine ak (ag (sM Z Z (sA Z Z (aa (rT hQ Tryz.results352 Z ?_)))));exact ⟨H2.ext, congrArg (Value.int .i64) (by unfold cD; omega)⟩
theorem oK {w : World} {x : Block} {xA1 : Option Addr} {xC1 : Nat} (xK : x.Ok) (xS1 : Sees w [.slice xA1 x.Bytes.length xC1] x.Bytes) (hb : cD x ≤ 1048576) : Ret Tryz.prog 355 #[x.val xA1 xC1] w fun v w' => Ext No w w' ∧ (∃ A1 C1, v = x.val A1 C1 ∧ Res w w' [.int .i64 x.Stamp, .slice A1 x.Bytes.length C1] x) := by
 have xK2 := xK;unfold Block.Ok at xK2
 try unfold I64ok at xK2
 try unfold maxLen at xK2
 have xL1 := sL xS1;obtain ⟨xF1, xO1⟩ := xS1;unfold cD at hb;refine aF (vs := [x.val xA1 xC1]) Tryz.func355 Z Tryz.ntmps355 Z (fun Q hQ hN => ?_);have H0 := Sep.start (w := w) (F := [seen false [.slice xA1 x.Bytes.length xC1] x.Bytes xF1]) (all_cons xO1 (by simp));refine ag (be (wn Z) Z Z H0 (fun b1 w1 e1 g1 H1 => ?_));refine bZ (wn Z) Z Tryz.zeroValue131 H1 (fun b2 w2 e2 g2 H2 => ?_);refine aa (ag (bZ (wn Z) Z Tryz.zeroValue131 H2 (fun b3 w3 e3 g3 H3 => ?_)));refine aa (ag (sV Z (ab vu Z ts2 Z Z) (sV Z (ac tu2 Z Z (ae (H3.box 0 Z) Z)) (sV Z (ab ey Z ts2 Z Z) (bT (wn Z) ts2 Z Z Z H3 2 Z Z (fun w4 e4 H4 => ?_))))));dsimp only[lNA,lCA,lSZ,lSS,aO] at H4;refine aa (ag (sV Z (ab vu Z aZ Z Z) (sV Z (ac aR Z Z (ae (H4.box 0 Z) Z)) (ay (wn Z) Z Z (aj Tryz.func36 Z pK Z) (gt (H4.sees 0 Z) (by omega)) (fun v1 w5 r1 => ?_)))));obtain ⟨e5, r1⟩ := r1;obtain ⟨fp1, H5⟩ := H4.res e5 r1;obtain ⟨a1, k1, q1⟩ := aA (H5.mine 3 Z);cases q1;refine sV Z (ab ey Z aZ Z Z) (bT (wn Z) aZ Z Z Z H5 2 Z Z (fun w6 e6 H6 => ?_));dsimp only[lNA,lCA,lSZ,lSS,aO] at H6;refine aa (ag (sV Z (an ey Z eK Z Z (At.whole (H6.box 2 Z))) (bf (wn Z) eK Z Z Z Z H6 1 Z Z (fun w7 e7 H7 => ?_))));dsimp only[lNA,lCA,lSZ,lSS,aO] at H7;refine aa (bJ (hQ _ _ (dr Tryz.results355 Z (aL ey Z eK Z (At.whole (H7.box 1 Z))) ?_)));exact ⟨H7.ext, _, _, Z, Block.out (H7.sub (.cons _ (.cons _ (.cons _ (.cons_cons _ List.Sublist.slnil))))) xK⟩
theorem oP {w : World} {a : Block} {aA1 : Option Addr} {aC1 : Nat} {b : Block} {bA1 : Option Addr} {bC1 : Nat} (aK : a.Ok) (aS1 : Sees w [.slice aA1 a.Bytes.length aC1] a.Bytes) (bK : b.Ok) (bS1 : Sees w [.slice bA1 b.Bytes.length bC1] b.Bytes) : Ret Tryz.prog 360 #[a.val aA1 aC1, b.val bA1 bC1] w fun v w' => Ext No w w' ∧ (v = .bool (decide (a = b))) := by
 have aK2 := aK;unfold Block.Ok at aK2
 try unfold I64ok at aK2
 try unfold maxLen at aK2
 have aL1 := sL aS1;obtain ⟨aF1, aO1⟩ := aS1;have bK2 := bK;unfold Block.Ok at bK2
 try unfold I64ok at bK2
 try unfold maxLen at bK2
 have bL1 := sL bS1;obtain ⟨bF1, bO1⟩ := bS1;refine aF (vs := [a.val aA1 aC1, b.val bA1 bC1]) Tryz.func360 Z Tryz.ntmps360 Z (fun Q hQ hN => ?_);have H0 := Sep.start (w := w) (F := [seen false [.slice aA1 a.Bytes.length aC1] a.Bytes aF1, seen false [.slice bA1 b.Bytes.length bC1] b.Bytes bF1]) (all_cons aO1 (all_cons bO1 (by simp)));refine ag (be (wn Z) Z Z H0 (fun b1 w1 e1 g1 H1 => ?_));refine be (wn Z) Z Z H1 (fun b2 w2 e2 g2 H2 => ?_);refine sA Z Z (aa (ah (ag (sV Z (ab ey Z ts2 Z Z) (sV Z (ac tu2 Z Z (ae (H2.box 0 Z) Z)) (sV Z (ab ey Z ts2 Z Z) (sV Z (ac tu2 Z Z (ae (H2.box 1 Z) Z)) (sV Z (aU Z Z) (aa (az Z (fun c1 => ?_) (fun c1 => ?_)))))))))))
 ·refine ag (sA Z Z (aa (rT hQ Tryz.results360 Z (⟨H2.ext, ?_⟩))));rw [decide_eq_false (fun e => by subst e; first | exact c1 rfl | simp at c1)]
 ·refine ak (ah (ag (sV Z (ab ey Z aZ Z Z) (sV Z (ac aR Z Z (ae (H2.box 0 Z) Z)) (sV Z (ab ey Z aZ Z Z) (sV Z (ac aR Z Z (ae (H2.box 1 Z) Z)) (ay (wn Z) Z Z (aj Tryz.func38 Z pS Z) (go (H2.sees 0 Z) (H2.sees 1 Z)) (fun v1 w3 r1 => ?_))))))));obtain ⟨e3, rfl⟩ := r1;have H3 := H2.to e3;refine sV Z (bb Z) (aa (bP Z (fun c2 => ?_) (fun c2 => ?_)))
  ·refine ag (sA Z Z (aa (rT hQ Tryz.results360 Z (⟨H3.ext, ?_⟩))));rw [decide_eq_false (fun e => by subst e; first | exact c2 rfl | simp at c2)]
  ·refine ak (ag (sA Z Z (aa (rT hQ Tryz.results360 Z (⟨H3.ext, ?_⟩)))));rw [decide_eq_true];cases a; cases b; simp_all [iI]
theorem nC {w : World} {xs : List Block} {xsA : Option Addr} {xsC : Nat} {l : Int} (xsS : Sees w [.slice xsA xs.length xsC] xs) (hl : -1 ≤ l ∧ l ≤ 1048576) : Ret Tryz.prog 289 #[.slice xsA xs.length xsC, .int .i64 l] w fun v w' => Ext No w w' ∧ (v = .int .i64 (if l - szL cD xs < 0 then -1 else l - szL cD xs)) := by
 have xsL := sL xsS;obtain ⟨xsF, xsO⟩ := xsS;refine aF (vs := [.slice xsA xs.length xsC, .int .i64 l]) Tryz.func289 Z Tryz.ntmps289 Z (fun Q hQ hN => ?_);have H0 := Sep.start (w := w) (F := [seen false [.slice xsA xs.length xsC] xs xsF]) (all_cons xsO (by simp));refine ag (sA Z Z (aa (ag (sM Z Z (sM Z Z (sV Z (aE qm Z) (sV Z (bx Z Z iO) (sA Z Z (aa (ah (ag (sM Z Z (sV Z (aD Z Z) (aa (az Z (fun c1 => ?_) (fun c1 => ?_))))))))))))))))
 ·refine ag (sA Z Z (aa (rT hQ Tryz.results289 Z ?_)));exact ⟨H0.ext, by rw [if_pos (by rw [fX (f := cD)]; omega)]⟩
 ·refine ak (ah (ag (sA Z Z (aa (au (bk (γ := Nat × Int) (fun (k, m) => [(0, .slice xsA xs.length xsC), (1, .int .i64 m), (5, .int .i64 k)]) (fun (k, m) w' => Sep No w [] [seen false [.slice xsA xs.length xsC] xs xsF] w' ∧ k ≤ xs.length ∧ 0 ≤ m ∧ m = l - xs.length - bI (fun i => cD (xs.getD i default)) k) (fun (k, m) => xs.length - k) (0, _) ⟨Z, Z, Z, trivial⟩ ⟨H0, by omega, by omega, by simp only [bI]; omega⟩ (fun (k, m) w1 H1 => ?_)))))));obtain ⟨H1, hk, hm, hs⟩ := H1;refine ah (ag (sM Z Z (sM Z Z (sV Z (aE qm Z) (sV Z (aD Z Z) (aa (az Z (fun c2 => ?_) (fun c2 => ?_))))))))
  ·refine ak (ah (au (ah ?_)));obtain ⟨eb1, eo1, es1, ef1, ee1, ec1, eO1, eH1, em1⟩ := aY (H1.seen 0 Z) k (by omega);obtain ⟨ea1, ek1, eg1, rfl, eq1, eK1, eo2⟩ := eu eO1;have eK1U := eK1;unfold Block.Ok at eK1U
   try unfold I64ok at eK1U
   try unfold maxLen at eK1U
   have eP1 := H1.look1 0 Z eo2 (fun b hb => eH1 b (by rw [eq1]; simp [hb]));have eL1 := oL eo2;refine ao (sM Z Z (sM Z Z (sV Z (ax qm An Z Z ee1 k (by omega) (by omega)) (sV Z (an vu Z An Z Z ec1) (sM Z Z (ay (wn Z) Z Z (aj Tryz.func352 Z yg Z) (oJ (by assumption) (eP1.sees 1 Z) (by omega)) (fun v1 w2 r1 => ?_)))))));obtain ⟨e1, rfl⟩ := r1;have H2 := eP1.to e1;refine sA Z Z (aa (ag (sM Z Z (sV Z (aD Z Z) (aa (az Z (fun c3 => ?_) (fun c3 => ?_)))))))
   ·refine ag (sA Z Z (aa (rT hQ Tryz.results289 Z ?_)));have sg : bI (fun i => cD (xs.getD i default)) (k + 1) = bI (fun i => cD (xs.getD i default)) k + cD (xs.getD k default) := Z;have sl := jN (f := (fun i => cD (xs.getD i default))) (j := k + 1) (k := xs.length) (by omega);exact ⟨H2.ext, by rw [if_pos (by rw [fX (f := cD)]; omega)]⟩
   ·refine ak (ao (sM Z Z (sV Z (aB Z Z iO) (sA Z Z (aa ?_)))));have sg : bI (fun i => cD (xs.getD i default)) (k + 1) = bI (fun i => cD (xs.getD i default)) k + cD (xs.getD k default) := Z;refine ⟨(k + 1, _), ⟨Z, Z, Z, trivial⟩, ⟨(H2.ftake 1), by omega, by omega, by omega⟩, by dsimp only; omega⟩
  ·refine aN (ag (sM Z Z (sA Z Z (aa (rT hQ Tryz.results289 Z ?_)))));obtain rfl : k = xs.length := by omega
   exact ⟨H1.ext, congrArg (Value.int .i64) (by rw [fX (f := cD)]; omega)⟩
theorem ni {w : World} {xs : List Block} {xsA : Option Addr} {xsC : Nat} (xsS : Sees w [.slice xsA xs.length xsC] xs) (hl : szL cD xs ≤ 1048576) : Ret Tryz.prog 293 #[.slice xsA xs.length xsC] w fun v w' => Ext No w w' ∧ (Res w w' [v] xs) := by
 have xsL := sL xsS;obtain ⟨xsF, xsO⟩ := xsS;have hl0 : xs.length ≤ 1048576 := by unfold szL at hl; omega
 refine aF (vs := [.slice xsA xs.length xsC]) Tryz.func293 Z Tryz.ntmps293 Z (fun Q hQ hN => ?_);have H0 := Sep.start (w := w) (F := [seen false [.slice xsA xs.length xsC] xs xsF]) (all_cons xsO (by simp));refine ag (sA Z Z (aa (ag (sM Z Z (sV Z (aE qm Z) (eW (wn Z) Z cV jr (show ∀ w, own true w (Value.agg #[.int .i64 0, .slice none 0 0]).cells.toList (default : Block) [] from fun _ => zc) Z (by omega) (by unfold maxLen; omega) H0 (fun b1 w1 e1 g1 H1 => ?_)))))));refine sA Z Z (aa (ah (ag (sA Z Z (aa (au (bk (γ := Nat × List Nat) (fun (k, fp) => [(0, .slice xsA xs.length xsC), (3, .slice (some ⟨b1, 0, none⟩) xs.length xs.length), (4, .int .i64 k)]) (fun (k, fp) w' => Sep No w [mine [.slice (some ⟨b1, 0, none⟩) xs.length xs.length] (cp xs k default) fp] [seen false [.slice xsA xs.length xsC] xs xsF] w' ∧ k ≤ xs.length) (fun (k, fp) => xs.length - k) (0, [b1]) ⟨Z, Z, Z, trivial⟩ ⟨kZ ▸ H1, by omega⟩ (fun (k, fp) w2 H2 => ?_))))))));obtain ⟨H2, hk⟩ := H2;refine ah (ag (sM Z Z (sM Z Z (sV Z (aE qm Z) (sV Z (aD Z Z) (aa (az Z (fun c1 => ?_) (fun c1 => ?_))))))))
 ·refine ak (ah (au ?_));obtain ⟨hg, hg2⟩ := dv hl k (by omega);obtain ⟨eb1, eo1, es1, ef1, ee1, ec1, eO1, eH1, em1⟩ := aY (H2.seen 0 Z) k (by omega);obtain ⟨ea1, ek1, eg1, rfl, eq1, eK1, eo2⟩ := eu eO1;have eK1U := eK1;unfold Block.Ok at eK1U
  try unfold I64ok at eK1U
  try unfold maxLen at eK1U
  have eP1 := H2.look1 0 Z eo2 (fun b hb => eH1 b (by rw [eq1]; simp [hb]));have eL1 := oL eo2;obtain ⟨eb2, eo3, ee2⟩ := dU (eP1.mine 0 Z) k (by rw [gA (xs := xs) (k := k) (by omega)]; omega);refine ao (sM Z Z (sM Z Z (sM Z Z (sM Z Z (sV Z (ax qm An Z Z ee1 k (by omega) (by omega)) (sV Z (an vu Z An Z Z ec1) (ay (wn Z) Z Z (aj Tryz.func355 Z wR Z) (oK (by assumption) (eP1.sees 1 Z) (by assumption)) (fun v1 w3 r1 => ?_))))))));obtain ⟨e2, sa1, sk1, rfl, r1⟩ := r1;obtain ⟨fp1, H3⟩ := eP1.res e2 r1;refine sV Z (ax cV eK Z Z ee2 k (by omega) (by omega)) (og (wn Z) eK H3 0 1 Z Z Z k (by rw [gA (xs := xs) (k := k) (by omega)]; omega) Z ee2 Z (fun w4 fp2 H4 => ?_));refine aa ?_;obtain ⟨hg, hg2⟩ := dv hl k (by omega);refine ao (sM Z Z (sV Z (aB Z Z iO) (sA Z Z (aa (⟨(k + 1, _), ⟨Z, Z, Z, trivial⟩, ⟨nl (xs := xs) (k := k) (d := default) (by omega) ▸ ((H4.ftake 1).dtake 1), by omega⟩, by dsimp only; omega⟩)))))
 ·refine aN (ag (sM Z Z (sA Z Z (aa (rT hQ Tryz.results293 Z ?_)))));obtain rfl : k = xs.length := by omega
  exact ⟨H2.ext, by
   have h := H2.out 0 Z
   rwa [ne] at h⟩
theorem mX {w : World} {xs : List Block} {xsA : Option Addr} {xsC : Nat} {ys : List Block} {ysA : Option Addr} {ysC : Nat} (xsS : Sees w [.slice xsA xs.length xsC] xs) (ysS : Sees w [.slice ysA ys.length ysC] ys) : Ret Tryz.prog 304 #[.slice xsA xs.length xsC, .slice ysA ys.length ysC] w fun v w' => Ext No w w' ∧ (v = .bool (decide (xs = ys))) := by
 have xsL := sL xsS;obtain ⟨xsF, xsO⟩ := xsS;have ysL := sL ysS;obtain ⟨ysF, ysO⟩ := ysS;refine aF (vs := [.slice xsA xs.length xsC, .slice ysA ys.length ysC]) Tryz.func304 Z Tryz.ntmps304 Z (fun Q hQ hN => ?_);have H0 := Sep.start (w := w) (F := [seen false [.slice xsA xs.length xsC] xs xsF, seen false [.slice ysA ys.length ysC] ys ysF]) (all_cons xsO (all_cons ysO (by simp)));refine ag (sA Z Z (aa (ah (ag (sM Z Z (sV Z (aE cV Z) (sM Z Z (sV Z (aE cV Z) (sV Z (aU Z Z) (aa (az Z (fun c1 => ?_) (fun c1 => ?_))))))))))))
 ·refine ag (sA Z Z (aa (rT hQ Tryz.results304 Z (⟨H0.ext, ?_⟩))));rw [decide_eq_false (fun e => by subst e; exact c1 rfl)]
 ·refine ak (ah (ag (sA Z Z (aa (au (bk (γ := Nat) (fun k => [(0, .slice xsA xs.length xsC), (1, .slice ysA ys.length ysC), (5, .int .i64 k)]) (fun k w' => Sep No w [] [seen false [.slice xsA xs.length xsC] xs xsF, seen false [.slice ysA ys.length ysC] ys ysF] w' ∧ k ≤ xs.length ∧ (∀ i, i < k → xs.getD i default = ys.getD i default)) (fun k => xs.length - k) 0 ⟨Z, Z, Z, trivial⟩ ⟨H0, by omega, fun i hi => by omega⟩ (fun k w1 H1 => ?_)))))));obtain ⟨H1, hk, he⟩ := H1;refine ah (ag (sM Z Z (sM Z Z (sV Z (aE cV Z) (sV Z (aD Z Z) (aa (az Z (fun c2 => ?_) (fun c2 => ?_))))))))
  ·refine ak (ah (au (ah ?_)));obtain ⟨eb1, eo1, es1, ef1, ee1, ec1, eO1, eH1, em1⟩ := aY (H1.seen 0 Z) k (by omega);obtain ⟨ea1, ek1, eg1, rfl, eq1, eK1, eo2⟩ := eu eO1;have eK1U := eK1;unfold Block.Ok at eK1U
   try unfold I64ok at eK1U
   try unfold maxLen at eK1U
   have eP1 := H1.look1 0 Z eo2 (fun b hb => eH1 b (by rw [eq1]; simp [hb]));have eL1 := oL eo2;obtain ⟨eb2, eo3, es2, ef2, ee2, ec2, eO2, eH2, em2⟩ := aY (eP1.seen 1 Z) k (by omega);obtain ⟨ea2, ek2, eg2, rfl, eq2, eK2, eo4⟩ := eu eO2;have eK2U := eK2;unfold Block.Ok at eK2U
   try unfold I64ok at eK2U
   try unfold maxLen at eK2U
   have eP2 := eP1.look1 1 Z eo4 (fun b hb => eH2 b (by rw [eq2]; simp [hb]));have eL2 := oL eo4;refine bE (S := Ext No _) (oQ [1,3,5,7,9,11,13,15,16,18]) (by kernel_rfl) (by kernel_rfl) (by kernel_rfl) Z (fun _ => Ext.refl.drawn _) (fun q1 => ?_);have H2 := eP2.drawn q1;refine dM Z Z Z (dM Z Z Z (dV Z Z (fun zw hx => ax cV eK Z Z ee1 k (by omega) (by omega)) (dV Z Z (fun zw hx => an ey Z eK Z Z (hx.at ec1)) (dM Z Z Z (dM Z Z Z (dV Z Z (fun zw hx => ax cV eK Z Z ee2 k (by omega) (by omega)) (dV Z Z (fun zw hx => an ey Z eK Z Z (hx.at ec2)) (aM Z (wn Z) Z Z (aj Tryz.func360 Z yO Z) (oP (by assumption) (H2.sees 2 Z) (by assumption) (H2.sees 3 Z)) (fun hS _ _ r _ => hS.trans r.1.no) (fun v1 w2 r1 => ?_)))))))));obtain ⟨e1, rfl⟩ := r1;have H3 := H2.to e1;refine aS Z (wn Z) Z Z (bb Z) (aT (bP Z (fun c3 => ?_) (fun c3 => ?_)))
   ·refine ag (sA Z Z (aa (rT hQ Tryz.results304 Z (⟨H3.ext, ?_⟩))));rw [decide_eq_false (fun e => by subst e; simp at c3)]
   ·refine ak (ao (sM Z Z (sV Z (aB Z Z iO) (sA Z Z (aa ?_)))));have c4 : xs.getD k default = ys.getD k default := by simpa using c3
    refine ⟨k + 1, ⟨Z, Z, Z, trivial⟩, ⟨(H3.ftake 2), by omega, fun i hi => ?_⟩, by dsimp only; omega⟩
    by_cases e : i = k
    ·subst e; exact c4
    ·exact he i (by omega)
  ·refine aN (ag (sA Z Z (aa (rT hQ Tryz.results304 Z (⟨H1.ext, ?_⟩)))));rw [decide_eq_true (dg (d := default) (by omega) fun i hi => he i (by omega))]
theorem nS {w : World} {x : Drive} {xA1 : Option Addr} {xC1 : Nat} {l : Int} (xK : x.Ok) (xS1 : Sees w [.slice xA1 x.Blocks.length xC1] x.Blocks) (hl : -1 ≤ l ∧ l ≤ 1048576) : Ret Tryz.prog 218 #[x.val xA1 xC1, .int .i64 l] w fun v w' => Ext No w w' ∧ (v = .int .i64 (if l - bz x < 0 then -1 else l - bz x)) := by
 have xK2 := xK;unfold Drive.Ok at xK2
 try unfold I64ok at xK2
 try unfold maxLen at xK2
 have xL1 := sL xS1;obtain ⟨xF1, xO1⟩ := xS1;refine aF (vs := [x.val xA1 xC1, .int .i64 l]) Tryz.func218 Z Tryz.ntmps218 Z (fun Q hQ hN => ?_);have H0 := Sep.start (w := w) (F := [seen false [.slice xA1 x.Blocks.length xC1] x.Blocks xF1]) (all_cons xO1 (by simp));refine ag (be (wn Z) Z Z H0 (fun b1 w1 e1 g1 H1 => ?_));refine sA Z Z (aa (ag (sV Z (ab wD Z Es Z Z) (sV Z (ac qm Z Z (ae (H1.box 0 Z) Z)) (sM Z Z (ay (wn Z) Z Z (aj Tryz.func289 Z zI Z) (nC (H1.sees 0 Z) (by omega)) (fun v1 w2 r1 => ?_)))))));obtain ⟨e2, rfl⟩ := r1;have H2 := H1.to e2;refine sA Z Z (aa (ah (ag (sM Z Z (sV Z (aD Z Z) (aa (az Z (fun c1 => ?_) (fun c1 => ?_))))))))
 ·refine ag (sA Z Z (aa (rT hQ Tryz.results218 Z ?_)));exact ⟨H2.ext, congrArg (Value.int .i64) (by unfold bz; omega)⟩
 ·refine ak (ag (sM Z Z (sA Z Z (aa (rT hQ Tryz.results218 Z ?_)))));exact ⟨H2.ext, congrArg (Value.int .i64) (by unfold bz; omega)⟩
theorem oI {w : World} {x : Drive} {xA1 : Option Addr} {xC1 : Nat} (xK : x.Ok) (xS1 : Sees w [.slice xA1 x.Blocks.length xC1] x.Blocks) (hb : bz x ≤ 1048576) : Ret Tryz.prog 225 #[x.val xA1 xC1] w fun v w' => Ext No w w' ∧ (∃ A1 C1, v = x.val A1 C1 ∧ Res w w' [.bool x.Wiped, .slice A1 x.Blocks.length C1] x) := by
 have xK2 := xK;unfold Drive.Ok at xK2
 try unfold I64ok at xK2
 try unfold maxLen at xK2
 have xL1 := sL xS1;obtain ⟨xF1, xO1⟩ := xS1;unfold bz at hb;refine aF (vs := [x.val xA1 xC1]) Tryz.func225 Z Tryz.ntmps225 Z (fun Q hQ hN => ?_);have H0 := Sep.start (w := w) (F := [seen false [.slice xA1 x.Blocks.length xC1] x.Blocks xF1]) (all_cons xO1 (by simp));refine ag (be (wn Z) Z Z H0 (fun b1 w1 e1 g1 H1 => ?_));refine bZ (wn Z) Z Tryz.zeroValue129 H1 (fun b2 w2 e2 g2 H2 => ?_);refine aa (ag (bZ (wn Z) Z Tryz.zeroValue129 H2 (fun b3 w3 e3 g3 H3 => ?_)));refine aa (ag (sV Z (ab wD Z ts4 Z Z) (sV Z (ac tu4 Z Z (ae (H3.box 0 Z) Z)) (sV Z (ab dl Z ts4 Z Z) (bT (wn Z) ts4 Z Z Z H3 2 Z Z (fun w4 e4 H4 => ?_))))));dsimp only[lNA,lCA,lSZ,lSS,aO] at H4;refine aa (ag (sV Z (ab wD Z Es Z Z) (sV Z (ac qm Z Z (ae (H4.box 0 Z) Z)) (ay (wn Z) Z Z (aj Tryz.func293 Z yW Z) (ni (H4.sees 0 Z) (by first | assumption | omega)) (fun v1 w5 r1 => ?_)))));obtain ⟨e5, r1⟩ := r1;obtain ⟨fp1, H5⟩ := H4.res e5 r1;obtain ⟨a1, k1, q1⟩ := aA (H5.mine 3 Z);cases q1;refine sV Z (ab dl Z gG Z Z) (bT (wn Z) gG Z Z Z H5 2 Z Z (fun w6 e6 H6 => ?_));dsimp only[lNA,lCA,lSZ,lSS,aO] at H6;refine aa (ag (sV Z (an dl Z dx Z Z (At.whole (H6.box 2 Z))) (bf (wn Z) dx Z Z Z Z H6 1 Z Z (fun w7 e7 H7 => ?_))));dsimp only[lNA,lCA,lSZ,lSS,aO] at H7;refine aa (bJ (hQ _ _ (dr Tryz.results225 Z (aL dl Z dx Z (At.whole (H7.box 1 Z))) ?_)));exact ⟨H7.ext, _, _, Z, Drive.out (H7.sub (.cons _ (.cons _ (.cons _ (.cons_cons _ List.Sublist.slnil))))) xK⟩
theorem pj {w : World} {a : Drive} {aA1 : Option Addr} {aC1 : Nat} {b : Drive} {bA1 : Option Addr} {bC1 : Nat} (aK : a.Ok) (aS1 : Sees w [.slice aA1 a.Blocks.length aC1] a.Blocks) (bK : b.Ok) (bS1 : Sees w [.slice bA1 b.Blocks.length bC1] b.Blocks) : Ret Tryz.prog 237 #[a.val aA1 aC1, b.val bA1 bC1] w fun v w' => Ext No w w' ∧ (v = .bool (decide (a = b))) := by
 have aK2 := aK;unfold Drive.Ok at aK2
 try unfold I64ok at aK2
 try unfold maxLen at aK2
 have aL1 := sL aS1;obtain ⟨aF1, aO1⟩ := aS1;have bK2 := bK;unfold Drive.Ok at bK2
 try unfold I64ok at bK2
 try unfold maxLen at bK2
 have bL1 := sL bS1;obtain ⟨bF1, bO1⟩ := bS1;refine aF (vs := [a.val aA1 aC1, b.val bA1 bC1]) Tryz.func237 Z Tryz.ntmps237 Z (fun Q hQ hN => ?_);have H0 := Sep.start (w := w) (F := [seen false [.slice aA1 a.Blocks.length aC1] a.Blocks aF1, seen false [.slice bA1 b.Blocks.length bC1] b.Blocks bF1]) (all_cons aO1 (all_cons bO1 (by simp)));refine ag (be (wn Z) Z Z H0 (fun b1 w1 e1 g1 H1 => ?_));refine be (wn Z) Z Z H1 (fun b2 w2 e2 g2 H2 => ?_);refine sA Z Z (aa (ah (ag (sV Z (ab dl Z ts4 Z Z) (sV Z (ac tu4 Z Z (ae (H2.box 0 Z) Z)) (sV Z (ab dl Z ts4 Z Z) (sV Z (ac tu4 Z Z (ae (H2.box 1 Z) Z)) (sV Z (oT tu4 Z Z) (aa (bP Z (fun c1 => ?_) (fun c1 => ?_)))))))))))
 ·refine ag (sA Z Z (aa (rT hQ Tryz.results237 Z (⟨H2.ext, ?_⟩))));rw [decide_eq_false (fun e => by subst e; first | exact c1 rfl | simp at c1)]
 ·refine ak (ah (ag (sV Z (ab dl Z gG Z Z) (sV Z (ac cV Z Z (ae (H2.box 0 Z) Z)) (sV Z (ab dl Z gG Z Z) (sV Z (ac cV Z Z (ae (H2.box 1 Z) Z)) (ay (wn Z) Z Z (aj Tryz.func304 Z xS Z) (mX (H2.sees 0 Z) (H2.sees 1 Z)) (fun v1 w3 r1 => ?_))))))));obtain ⟨e3, rfl⟩ := r1;have H3 := H2.to e3;refine sV Z (bb Z) (aa (bP Z (fun c2 => ?_) (fun c2 => ?_)))
  ·refine ag (sA Z Z (aa (rT hQ Tryz.results237 Z (⟨H3.ext, ?_⟩))));rw [decide_eq_false (fun e => by subst e; first | exact c2 rfl | simp at c2)]
  ·refine ak (ag (sA Z Z (aa (rT hQ Tryz.results237 Z (⟨H3.ext, ?_⟩)))));rw [decide_eq_true];cases a; cases b; simp_all [iI]
theorem nt {w : World} {xs : List Drive} {xsA : Option Addr} {xsC : Nat} {l : Int} (xsS : Sees w [.slice xsA xs.length xsC] xs) (hl : -1 ≤ l ∧ l ≤ 1048576) : Ret Tryz.prog 126 #[.slice xsA xs.length xsC, .int .i64 l] w fun v w' => Ext No w w' ∧ (v = .int .i64 (if l - szL bz xs < 0 then -1 else l - szL bz xs)) := by
 have xsL := sL xsS;obtain ⟨xsF, xsO⟩ := xsS;refine aF (vs := [.slice xsA xs.length xsC, .int .i64 l]) Tryz.func126 Z Tryz.ntmps126 Z (fun Q hQ hN => ?_);have H0 := Sep.start (w := w) (F := [seen false [.slice xsA xs.length xsC] xs xsF]) (all_cons xsO (by simp));refine ag (sA Z Z (aa (ag (sM Z Z (sM Z Z (sV Z (aE ql Z) (sV Z (bx Z Z iO) (sA Z Z (aa (ah (ag (sM Z Z (sV Z (aD Z Z) (aa (az Z (fun c1 => ?_) (fun c1 => ?_))))))))))))))))
 ·refine ag (sA Z Z (aa (rT hQ Tryz.results126 Z ?_)));exact ⟨H0.ext, by rw [if_pos (by rw [fX (f := bz)]; omega)]⟩
 ·refine ak (ah (ag (sA Z Z (aa (au (bk (γ := Nat × Int) (fun (k, m) => [(0, .slice xsA xs.length xsC), (1, .int .i64 m), (5, .int .i64 k)]) (fun (k, m) w' => Sep No w [] [seen false [.slice xsA xs.length xsC] xs xsF] w' ∧ k ≤ xs.length ∧ 0 ≤ m ∧ m = l - xs.length - bI (fun i => bz (xs.getD i default)) k) (fun (k, m) => xs.length - k) (0, _) ⟨Z, Z, Z, trivial⟩ ⟨H0, by omega, by omega, by simp only [bI]; omega⟩ (fun (k, m) w1 H1 => ?_)))))));obtain ⟨H1, hk, hm, hs⟩ := H1;refine ah (ag (sM Z Z (sM Z Z (sV Z (aE ql Z) (sV Z (aD Z Z) (aa (az Z (fun c2 => ?_) (fun c2 => ?_))))))))
  ·refine ak (ah (au (ah ?_)));obtain ⟨eb1, eo1, es1, ef1, ee1, ec1, eO1, eH1, em1⟩ := aY (H1.seen 0 Z) k (by omega);obtain ⟨ea1, ek1, eg1, rfl, eq1, eK1, eo2⟩ := dh eO1;have eP1 := H1.look1 0 Z eo2 (fun b hb => eH1 b (by rw [eq1]; simp [hb]));have eL1 := oL eo2;refine ao (sM Z Z (sM Z Z (sV Z (ax ql zX Z Z ee1 k (by omega) (by omega)) (sV Z (an wD Z zX Z Z ec1) (sM Z Z (ay (wn Z) Z Z (aj Tryz.func218 Z xi Z) (nS (by assumption) (eP1.sees 1 Z) (by omega)) (fun v1 w2 r1 => ?_)))))));obtain ⟨e1, rfl⟩ := r1;have H2 := eP1.to e1;refine sA Z Z (aa (ag (sM Z Z (sV Z (aD Z Z) (aa (az Z (fun c3 => ?_) (fun c3 => ?_)))))))
   ·refine ag (sA Z Z (aa (rT hQ Tryz.results126 Z ?_)));have sg : bI (fun i => bz (xs.getD i default)) (k + 1) = bI (fun i => bz (xs.getD i default)) k + bz (xs.getD k default) := Z;have sl := jN (f := (fun i => bz (xs.getD i default))) (j := k + 1) (k := xs.length) (by omega);exact ⟨H2.ext, by rw [if_pos (by rw [fX (f := bz)]; omega)]⟩
   ·refine ak (ao (sM Z Z (sV Z (aB Z Z iO) (sA Z Z (aa ?_)))));have sg : bI (fun i => bz (xs.getD i default)) (k + 1) = bI (fun i => bz (xs.getD i default)) k + bz (xs.getD k default) := Z;refine ⟨(k + 1, _), ⟨Z, Z, Z, trivial⟩, ⟨(H2.ftake 1), by omega, by omega, by omega⟩, by dsimp only; omega⟩
  ·refine aN (ag (sM Z Z (sA Z Z (aa (rT hQ Tryz.results126 Z ?_)))));obtain rfl : k = xs.length := by omega
   exact ⟨H1.ext, congrArg (Value.int .i64) (by rw [fX (f := bz)]; omega)⟩
theorem mZ {w : World} {xs : List Drive} {xsA : Option Addr} {xsC : Nat} (xsS : Sees w [.slice xsA xs.length xsC] xs) (hl : szL bz xs ≤ 1048576) : Ret Tryz.prog 136 #[.slice xsA xs.length xsC] w fun v w' => Ext No w w' ∧ (Res w w' [v] xs) := by
 have xsL := sL xsS;obtain ⟨xsF, xsO⟩ := xsS;have hl0 : xs.length ≤ 1048576 := by unfold szL at hl; omega
 refine aF (vs := [.slice xsA xs.length xsC]) Tryz.func136 Z Tryz.ntmps136 Z (fun Q hQ hN => ?_);have H0 := Sep.start (w := w) (F := [seen false [.slice xsA xs.length xsC] xs xsF]) (all_cons xsO (by simp));refine ag (sA Z Z (aa (ag (sM Z Z (sV Z (aE ql Z) (eW (wn Z) Z cq fP (show ∀ w, own true w (Value.agg #[.bool false, .slice none 0 0]).cells.toList (default : Drive) [] from fun _ => zA) Z (by omega) (by unfold maxLen; omega) H0 (fun b1 w1 e1 g1 H1 => ?_)))))));refine sA Z Z (aa (ah (ag (sA Z Z (aa (au (bk (γ := Nat × List Nat) (fun (k, fp) => [(0, .slice xsA xs.length xsC), (3, .slice (some ⟨b1, 0, none⟩) xs.length xs.length), (4, .int .i64 k)]) (fun (k, fp) w' => Sep No w [mine [.slice (some ⟨b1, 0, none⟩) xs.length xs.length] (cp xs k default) fp] [seen false [.slice xsA xs.length xsC] xs xsF] w' ∧ k ≤ xs.length) (fun (k, fp) => xs.length - k) (0, [b1]) ⟨Z, Z, Z, trivial⟩ ⟨kZ ▸ H1, by omega⟩ (fun (k, fp) w2 H2 => ?_))))))));obtain ⟨H2, hk⟩ := H2;refine ah (ag (sM Z Z (sM Z Z (sV Z (aE ql Z) (sV Z (aD Z Z) (aa (az Z (fun c1 => ?_) (fun c1 => ?_))))))))
 ·refine ak (ah (au ?_));obtain ⟨hg, hg2⟩ := dv hl k (by omega);obtain ⟨eb1, eo1, es1, ef1, ee1, ec1, eO1, eH1, em1⟩ := aY (H2.seen 0 Z) k (by omega);obtain ⟨ea1, ek1, eg1, rfl, eq1, eK1, eo2⟩ := dh eO1;have eP1 := H2.look1 0 Z eo2 (fun b hb => eH1 b (by rw [eq1]; simp [hb]));have eL1 := oL eo2;obtain ⟨eb2, eo3, ee2⟩ := dU (eP1.mine 0 Z) k (by rw [gA (xs := xs) (k := k) (by omega)]; omega);refine ao (sM Z Z (sM Z Z (sM Z Z (sM Z Z (sV Z (ax ql zX Z Z ee1 k (by omega) (by omega)) (sV Z (an wD Z zX Z Z ec1) (ay (wn Z) Z Z (aj Tryz.func225 Z yk Z) (oI (by assumption) (eP1.sees 1 Z) (by assumption)) (fun v1 w3 r1 => ?_))))))));obtain ⟨e2, sa1, sk1, rfl, r1⟩ := r1;obtain ⟨fp1, H3⟩ := eP1.res e2 r1;refine sV Z (ax cq dx Z Z ee2 k (by omega) (by omega)) (og (wn Z) dx H3 0 1 Z Z Z k (by rw [gA (xs := xs) (k := k) (by omega)]; omega) Z ee2 Z (fun w4 fp2 H4 => ?_));refine aa ?_;obtain ⟨hg, hg2⟩ := dv hl k (by omega);refine ao (sM Z Z (sV Z (aB Z Z iO) (sA Z Z (aa (⟨(k + 1, _), ⟨Z, Z, Z, trivial⟩, ⟨nl (xs := xs) (k := k) (d := default) (by omega) ▸ ((H4.ftake 1).dtake 1), by omega⟩, by dsimp only; omega⟩)))))
 ·refine aN (ag (sM Z Z (sA Z Z (aa (rT hQ Tryz.results136 Z ?_)))));obtain rfl : k = xs.length := by omega
  exact ⟨H2.ext, by
   have h := H2.out 0 Z
   rwa [ne] at h⟩
theorem nM {w : World} {xs : List Drive} {xsA : Option Addr} {xsC : Nat} {ys : List Drive} {ysA : Option Addr} {ysC : Nat} (xsS : Sees w [.slice xsA xs.length xsC] xs) (ysS : Sees w [.slice ysA ys.length ysC] ys) : Ret Tryz.prog 146 #[.slice xsA xs.length xsC, .slice ysA ys.length ysC] w fun v w' => Ext No w w' ∧ (v = .bool (decide (xs = ys))) := by
 have xsL := sL xsS;obtain ⟨xsF, xsO⟩ := xsS;have ysL := sL ysS;obtain ⟨ysF, ysO⟩ := ysS;refine aF (vs := [.slice xsA xs.length xsC, .slice ysA ys.length ysC]) Tryz.func146 Z Tryz.ntmps146 Z (fun Q hQ hN => ?_);have H0 := Sep.start (w := w) (F := [seen false [.slice xsA xs.length xsC] xs xsF, seen false [.slice ysA ys.length ysC] ys ysF]) (all_cons xsO (all_cons ysO (by simp)));refine ag (sA Z Z (aa (ah (ag (sM Z Z (sV Z (aE cq Z) (sM Z Z (sV Z (aE cq Z) (sV Z (aU Z Z) (aa (az Z (fun c1 => ?_) (fun c1 => ?_))))))))))))
 ·refine ag (sA Z Z (aa (rT hQ Tryz.results146 Z (⟨H0.ext, ?_⟩))));rw [decide_eq_false (fun e => by subst e; exact c1 rfl)]
 ·refine ak (ah (ag (sA Z Z (aa (au (bk (γ := Nat) (fun k => [(0, .slice xsA xs.length xsC), (1, .slice ysA ys.length ysC), (5, .int .i64 k)]) (fun k w' => Sep No w [] [seen false [.slice xsA xs.length xsC] xs xsF, seen false [.slice ysA ys.length ysC] ys ysF] w' ∧ k ≤ xs.length ∧ (∀ i, i < k → xs.getD i default = ys.getD i default)) (fun k => xs.length - k) 0 ⟨Z, Z, Z, trivial⟩ ⟨H0, by omega, fun i hi => by omega⟩ (fun k w1 H1 => ?_)))))));obtain ⟨H1, hk, he⟩ := H1;refine ah (ag (sM Z Z (sM Z Z (sV Z (aE cq Z) (sV Z (aD Z Z) (aa (az Z (fun c2 => ?_) (fun c2 => ?_))))))))
  ·refine ak (ah (au (ah ?_)));obtain ⟨eb1, eo1, es1, ef1, ee1, ec1, eO1, eH1, em1⟩ := aY (H1.seen 0 Z) k (by omega);obtain ⟨ea1, ek1, eg1, rfl, eq1, eK1, eo2⟩ := dh eO1;have eP1 := H1.look1 0 Z eo2 (fun b hb => eH1 b (by rw [eq1]; simp [hb]));have eL1 := oL eo2;obtain ⟨eb2, eo3, es2, ef2, ee2, ec2, eO2, eH2, em2⟩ := aY (eP1.seen 1 Z) k (by omega);obtain ⟨ea2, ek2, eg2, rfl, eq2, eK2, eo4⟩ := dh eO2;have eP2 := eP1.look1 1 Z eo4 (fun b hb => eH2 b (by rw [eq2]; simp [hb]));have eL2 := oL eo4;refine bE (S := Ext No _) (oQ [1,3,5,7,9,11,13,15,16,18]) (by kernel_rfl) (by kernel_rfl) (by kernel_rfl) Z (fun _ => Ext.refl.drawn _) (fun q1 => ?_);have H2 := eP2.drawn q1;refine dM Z Z Z (dM Z Z Z (dV Z Z (fun zw hx => ax cq dx Z Z ee1 k (by omega) (by omega)) (dV Z Z (fun zw hx => an dl Z dx Z Z (hx.at ec1)) (dM Z Z Z (dM Z Z Z (dV Z Z (fun zw hx => ax cq dx Z Z ee2 k (by omega) (by omega)) (dV Z Z (fun zw hx => an dl Z dx Z Z (hx.at ec2)) (aM Z (wn Z) Z Z (aj Tryz.func237 Z yL Z) (pj (by assumption) (H2.sees 2 Z) (by assumption) (H2.sees 3 Z)) (fun hS _ _ r _ => hS.trans r.1.no) (fun v1 w2 r1 => ?_)))))))));obtain ⟨e1, rfl⟩ := r1;have H3 := H2.to e1;refine aS Z (wn Z) Z Z (bb Z) (aT (bP Z (fun c3 => ?_) (fun c3 => ?_)))
   ·refine ag (sA Z Z (aa (rT hQ Tryz.results146 Z (⟨H3.ext, ?_⟩))));rw [decide_eq_false (fun e => by subst e; simp at c3)]
   ·refine ak (ao (sM Z Z (sV Z (aB Z Z iO) (sA Z Z (aa ?_)))));have c4 : xs.getD k default = ys.getD k default := by simpa using c3
    refine ⟨k + 1, ⟨Z, Z, Z, trivial⟩, ⟨(H3.ftake 2), by omega, fun i hi => ?_⟩, by dsimp only; omega⟩
    by_cases e : i = k
    ·subst e; exact c4
    ·exact he i (by omega)
  ·refine aN (ag (sA Z Z (aa (rT hQ Tryz.results146 Z (⟨H1.ext, ?_⟩)))));rw [decide_eq_true (dg (d := default) (by omega) fun i hi => he i (by omega))]
theorem mx {w : World} {xs : List (List Drive)} {xsA : Option Addr} {xsC : Nat} {l : Int} (xsS : Sees w [.slice xsA xs.length xsC] xs) (hl : -1 ≤ l ∧ l ≤ 1048576) : Ret Tryz.prog 55 #[.slice xsA xs.length xsC, .int .i64 l] w fun v w' => Ext No w w' ∧ (v = .int .i64 (if l - szL (szL bz) xs < 0 then -1 else l - szL (szL bz) xs)) := by
 have xsL := sL xsS;obtain ⟨xsF, xsO⟩ := xsS;refine aF (vs := [.slice xsA xs.length xsC, .int .i64 l]) Tryz.func55 Z Tryz.ntmps55 Z (fun Q hQ hN => ?_);have H0 := Sep.start (w := w) (F := [seen false [.slice xsA xs.length xsC] xs xsF]) (all_cons xsO (by simp));refine ag (sA Z Z (aa (ag (sM Z Z (sM Z Z (sV Z (aE wt Z) (sV Z (bx Z Z iO) (sA Z Z (aa (ah (ag (sM Z Z (sV Z (aD Z Z) (aa (az Z (fun c1 => ?_) (fun c1 => ?_))))))))))))))))
 ·refine ag (sA Z Z (aa (rT hQ Tryz.results55 Z ?_)));exact ⟨H0.ext, by rw [if_pos (by rw [fX (f := (szL bz))]; omega)]⟩
 ·refine ak (ah (ag (sA Z Z (aa (au (bk (γ := Nat × Int) (fun (k, m) => [(0, .slice xsA xs.length xsC), (1, .int .i64 m), (5, .int .i64 k)]) (fun (k, m) w' => Sep No w [] [seen false [.slice xsA xs.length xsC] xs xsF] w' ∧ k ≤ xs.length ∧ 0 ≤ m ∧ m = l - xs.length - bI (fun i => (szL bz) (xs.getD i default)) k) (fun (k, m) => xs.length - k) (0, _) ⟨Z, Z, Z, trivial⟩ ⟨H0, by omega, by omega, by simp only [bI]; omega⟩ (fun (k, m) w1 H1 => ?_)))))));obtain ⟨H1, hk, hm, hs⟩ := H1;refine ah (ag (sM Z Z (sM Z Z (sV Z (aE wt Z) (sV Z (aD Z Z) (aa (az Z (fun c2 => ?_) (fun c2 => ?_))))))))
  ·refine ak (ah (au (ah ?_)));obtain ⟨eb1, eo1, ea1, ek1, ef1, ee1, ec1, eO1, eH1⟩ := dT (H1.seen 0 Z) k (by omega);have eP1 := H1.look1 0 Z eO1 eH1;refine ao (sM Z Z (sM Z Z (sV Z (ax wt Eu Z Z ee1 k (by omega) (by omega)) (sV Z (ac ql Z Z ec1) (sM Z Z (ay (wn Z) Z Z (aj Tryz.func126 Z xj Z) (nt (eP1.sees 1 Z) (by omega)) (fun v1 w2 r1 => ?_)))))));obtain ⟨e1, rfl⟩ := r1;have H2 := eP1.to e1;refine sA Z Z (aa (ag (sM Z Z (sV Z (aD Z Z) (aa (az Z (fun c3 => ?_) (fun c3 => ?_)))))))
   ·refine ag (sA Z Z (aa (rT hQ Tryz.results55 Z ?_)));have sg : bI (fun i => (szL bz) (xs.getD i default)) (k + 1) = bI (fun i => (szL bz) (xs.getD i default)) k + (szL bz) (xs.getD k []) := Z;have sl := jN (f := (fun i => (szL bz) (xs.getD i default))) (j := k + 1) (k := xs.length) (by omega);exact ⟨H2.ext, by rw [if_pos (by rw [fX (f := (szL bz))]; omega)]⟩
   ·refine ak (ao (sM Z Z (sV Z (aB Z Z iO) (sA Z Z (aa ?_)))));have sg : bI (fun i => (szL bz) (xs.getD i default)) (k + 1) = bI (fun i => (szL bz) (xs.getD i default)) k + (szL bz) (xs.getD k []) := Z;refine ⟨(k + 1, _), ⟨Z, Z, Z, trivial⟩, ⟨(H2.ftake 1), by omega, by omega, by omega⟩, by dsimp only; omega⟩
  ·refine aN (ag (sM Z Z (sA Z Z (aa (rT hQ Tryz.results55 Z ?_)))));obtain rfl : k = xs.length := by omega
   exact ⟨H1.ext, congrArg (Value.int .i64) (by rw [fX (f := (szL bz))]; omega)⟩
theorem mm {w : World} {xs : List (List Drive)} {xsA : Option Addr} {xsC : Nat} (xsS : Sees w [.slice xsA xs.length xsC] xs) (hl : szL (szL bz) xs ≤ 1048576) : Ret Tryz.prog 63 #[.slice xsA xs.length xsC] w fun v w' => Ext No w w' ∧ (Res w w' [v] xs) := by
 have xsL := sL xsS;obtain ⟨xsF, xsO⟩ := xsS;have hl0 : xs.length ≤ 1048576 := by unfold szL at hl; omega
 refine aF (vs := [.slice xsA xs.length xsC]) Tryz.func63 Z Tryz.ntmps63 Z (fun Q hQ hN => ?_);have H0 := Sep.start (w := w) (F := [seen false [.slice xsA xs.length xsC] xs xsF]) (all_cons xsO (by simp));refine ag (sA Z Z (aa (ag (sM Z Z (sV Z (aE wt Z) (eW (wn Z) Z di jb (u7 (α := Drive)) Z (by omega) (by unfold maxLen; omega) H0 (fun b1 w1 e1 g1 H1 => ?_)))))));refine sA Z Z (aa (ah (ag (sA Z Z (aa (au (bk (γ := Nat × List Nat) (fun (k, fp) => [(0, .slice xsA xs.length xsC), (3, .slice (some ⟨b1, 0, none⟩) xs.length xs.length), (4, .int .i64 k)]) (fun (k, fp) w' => Sep No w [mine [.slice (some ⟨b1, 0, none⟩) xs.length xs.length] (cp xs k []) fp] [seen false [.slice xsA xs.length xsC] xs xsF] w' ∧ k ≤ xs.length) (fun (k, fp) => xs.length - k) (0, [b1]) ⟨Z, Z, Z, trivial⟩ ⟨kZ ▸ H1, by omega⟩ (fun (k, fp) w2 H2 => ?_))))))));obtain ⟨H2, hk⟩ := H2;refine ah (ag (sM Z Z (sM Z Z (sV Z (aE wt Z) (sV Z (aD Z Z) (aa (az Z (fun c1 => ?_) (fun c1 => ?_))))))))
 ·refine ak (ah (au ?_));obtain ⟨hg, hg2⟩ := dv hl k (by omega);obtain ⟨eb1, eo1, ea1, ek1, ef1, ee1, ec1, eO1, eH1⟩ := dT (H2.seen 0 Z) k (by omega);have eP1 := H2.look1 0 Z eO1 eH1;obtain ⟨eb2, eo2, ee2⟩ := dU (eP1.mine 0 Z) k (by rw [gA (xs := xs) (k := k) (by omega)]; omega);refine ao (sM Z Z (sM Z Z (sM Z Z (sM Z Z (sV Z (ax wt Eu Z Z ee1 k (by omega) (by omega)) (sV Z (ac ql Z Z ec1) (ay (wn Z) Z Z (aj Tryz.func136 Z zh Z) (mZ (eP1.sees 1 Z) (by first | assumption | omega)) (fun v1 w3 r1 => ?_))))))));obtain ⟨e2, r1⟩ := r1;obtain ⟨fp1, H3⟩ := eP1.res e2 r1;obtain ⟨a1, k1, q1⟩ := aA (H3.mine 1 Z);cases q1;refine sV Z (ax di gI Z Z ee2 k (by omega) (by omega)) (DW (wn Z) gI Z H3 0 1 Z Z Z k (by rw [gA (xs := xs) (k := k) (by omega)]; omega) Z ee2 Z (fun w4 fp2 H4 => ?_));refine aa ?_;obtain ⟨hg, hg2⟩ := dv hl k (by omega);refine ao (sM Z Z (sV Z (aB Z Z iO) (sA Z Z (aa (⟨(k + 1, _), ⟨Z, Z, Z, trivial⟩, ⟨nl (xs := xs) (k := k) (d := []) (by omega) ▸ ((H4.ftake 1).dtake 1), by omega⟩, by dsimp only; omega⟩)))))
 ·refine aN (ag (sM Z Z (sA Z Z (aa (rT hQ Tryz.results63 Z ?_)))));obtain rfl : k = xs.length := by omega
  exact ⟨H2.ext, by
   have h := H2.out 0 Z
   rwa [ne] at h⟩
theorem ms {w : World} {xs : List (List Drive)} {xsA : Option Addr} {xsC : Nat} {ys : List (List Drive)} {ysA : Option Addr} {ysC : Nat} (xsS : Sees w [.slice xsA xs.length xsC] xs) (ysS : Sees w [.slice ysA ys.length ysC] ys) : Ret Tryz.prog 72 #[.slice xsA xs.length xsC, .slice ysA ys.length ysC] w fun v w' => Ext No w w' ∧ (v = .bool (decide (xs = ys))) := by
 have xsL := sL xsS;obtain ⟨xsF, xsO⟩ := xsS;have ysL := sL ysS;obtain ⟨ysF, ysO⟩ := ysS;refine aF (vs := [.slice xsA xs.length xsC, .slice ysA ys.length ysC]) Tryz.func72 Z Tryz.ntmps72 Z (fun Q hQ hN => ?_);have H0 := Sep.start (w := w) (F := [seen false [.slice xsA xs.length xsC] xs xsF, seen false [.slice ysA ys.length ysC] ys ysF]) (all_cons xsO (all_cons ysO (by simp)));refine ag (sA Z Z (aa (ah (ag (sM Z Z (sV Z (aE di Z) (sM Z Z (sV Z (aE di Z) (sV Z (aU Z Z) (aa (az Z (fun c1 => ?_) (fun c1 => ?_))))))))))))
 ·refine ag (sA Z Z (aa (rT hQ Tryz.results72 Z (⟨H0.ext, ?_⟩))));rw [decide_eq_false (fun e => by subst e; exact c1 rfl)]
 ·refine ak (ah (ag (sA Z Z (aa (au (bk (γ := Nat) (fun k => [(0, .slice xsA xs.length xsC), (1, .slice ysA ys.length ysC), (5, .int .i64 k)]) (fun k w' => Sep No w [] [seen false [.slice xsA xs.length xsC] xs xsF, seen false [.slice ysA ys.length ysC] ys ysF] w' ∧ k ≤ xs.length ∧ (∀ i, i < k → xs.getD i [] = ys.getD i [])) (fun k => xs.length - k) 0 ⟨Z, Z, Z, trivial⟩ ⟨H0, by omega, fun i hi => by omega⟩ (fun k w1 H1 => ?_)))))));obtain ⟨H1, hk, he⟩ := H1;refine ah (ag (sM Z Z (sM Z Z (sV Z (aE di Z) (sV Z (aD Z Z) (aa (az Z (fun c2 => ?_) (fun c2 => ?_))))))))
  ·refine ak (ah (au (ah ?_)));obtain ⟨eb1, eo1, ea1, ek1, ef1, ee1, ec1, eO1, eH1⟩ := dT (H1.seen 0 Z) k (by omega);have eP1 := H1.look1 0 Z eO1 eH1;obtain ⟨eb2, eo2, ea2, ek2, ef2, ee2, ec2, eO2, eH2⟩ := dT (eP1.seen 1 Z) k (by omega);have eP2 := eP1.look1 1 Z eO2 eH2;refine bE (S := Ext No _) (oQ [1,3,5,7,9,11,13,15,16,18]) (by kernel_rfl) (by kernel_rfl) (by kernel_rfl) Z (fun _ => Ext.refl.drawn _) (fun q1 => ?_);have H2 := eP2.drawn q1;refine dM Z Z Z (dM Z Z Z (dV Z Z (fun zw hx => ax di gI Z Z ee1 k (by omega) (by omega)) (dV Z Z (fun zw hx => ac cq Z Z (hx.cell ec1)) (dM Z Z Z (dM Z Z Z (dV Z Z (fun zw hx => ax di gI Z Z ee2 k (by omega) (by omega)) (dV Z Z (fun zw hx => ac cq Z Z (hx.cell ec2)) (aM Z (wn Z) Z Z (aj Tryz.func146 Z yl Z) (nM (H2.sees 2 Z) (H2.sees 3 Z)) (fun hS _ _ r _ => hS.trans r.1.no) (fun v1 w2 r1 => ?_)))))))));obtain ⟨e1, rfl⟩ := r1;have H3 := H2.to e1;refine aS Z (wn Z) Z Z (bb Z) (aT (bP Z (fun c3 => ?_) (fun c3 => ?_)))
   ·refine ag (sA Z Z (aa (rT hQ Tryz.results72 Z (⟨H3.ext, ?_⟩))));rw [decide_eq_false (fun e => by subst e; simp at c3)]
   ·refine ak (ao (sM Z Z (sV Z (aB Z Z iO) (sA Z Z (aa ?_)))));have c4 : xs.getD k [] = ys.getD k [] := by simpa using c3
    refine ⟨k + 1, ⟨Z, Z, Z, trivial⟩, ⟨(H3.ftake 2), by omega, fun i hi => ?_⟩, by dsimp only; omega⟩
    by_cases e : i = k
    ·subst e; exact c4
    ·exact he i (by omega)
  ·refine aN (ag (sA Z Z (aa (rT hQ Tryz.results72 Z (⟨H1.ext, ?_⟩)))));rw [decide_eq_true (dg (d := []) (by omega) fun i hi => he i (by omega))]
theorem qR {w : World} {x : Rec} {xA6 xA7 xA8 : Option Addr} {xC6 xC7 xC8 : Nat} {l : Int} (xK : x.Ok) (xS6 : Sees w [.slice xA6 x.Rows.length xC6] x.Rows) (xS7 : Sees w [.slice xA7 x.Data.length xC7] x.Data) (xS8 : Sees w [.slice xA8 x.Delta.length xC8] x.Delta) (hl : -1 ≤ l ∧ l ≤ 1048576) : Ret Tryz.prog 290 #[x.val xA6 xC6 xA7 xC7 xA8 xC8, .int .i64 l] w fun v w' => Ext No w w' ∧ (v = .int .i64 (if l - cF x < 0 then -1 else l - cF x)) := by
 have xK2 := xK;unfold Rec.Ok at xK2
 try unfold I64ok at xK2
 try unfold maxLen at xK2
 have xN2 : x.Name.size ≤ maxLen := by unfold maxLen; omega
 have xL6 := sL xS6;obtain ⟨xF6, xO6⟩ := xS6;have xL7 := sL xS7;obtain ⟨xF7, xO7⟩ := xS7;have xL8 := sL xS8;obtain ⟨xF8, xO8⟩ := xS8;refine aF (vs := [x.val xA6 xC6 xA7 xC7 xA8 xC8, .int .i64 l]) Tryz.func290 Z Tryz.ntmps290 Z (fun Q hQ hN => ?_);have H0 := Sep.start (w := w) (F := [seen false [.slice xA6 x.Rows.length xC6] x.Rows xF6, seen false [.slice xA7 x.Data.length xC7] x.Data xF7, seen false [.slice xA8 x.Delta.length xC8] x.Delta xF8]) (all_cons xO6 (all_cons xO7 (all_cons xO8 (by simp))));refine ag (be (wn Z) Z Z H0 (fun b1 w1 e1 g1 H1 => ?_));refine sA Z Z (aa (ag (sM Z Z (sV Z (ab jq Z ts9 Z Z) (sV Z (ac tu9 Z Z (ae (H1.box 0 Z) Z)) (sV Z (mh tu9 Z) (sV Z (bx Z Z iO) (sA Z Z (aa (ah (ag (sM Z Z (sV Z (aD Z Z) (aa (az Z (fun c1 => ?_) (fun c1 => ?_))))))))))))))))
 ·refine ag (sA Z Z (aa (rT hQ Tryz.results290 Z ?_)));exact ⟨H1.ext, congrArg (Value.int .i64) (by unfold cF; omega)⟩
 ·refine ak (ag (sV Z (ab jq Z bV Z Z) (sV Z (ac br Z Z (ae (H1.box 0 Z) Z)) (sM Z Z (ay (wn Z) Z Z (aj Tryz.func56 Z uc Z) (ja (H1.sees 0 Z) (by omega)) (fun v1 w2 r1 => ?_))))));obtain ⟨e2, rfl⟩ := r1;have H2 := H1.to e2;refine sA Z Z (aa (ah (ag (sM Z Z (sV Z (aD Z Z) (aa (az Z (fun c2 => ?_) (fun c2 => ?_))))))))
  ·refine ag (sA Z Z (aa (rT hQ Tryz.results290 Z ?_)));exact ⟨H2.ext, congrArg (Value.int .i64) (by unfold cF; omega)⟩
  ·refine ak (ag (sV Z (ab jq Z aZ Z Z) (sV Z (ac aR Z Z (ae (H2.box 0 Z) Z)) (sM Z Z (ay (wn Z) Z Z (aj Tryz.func353 Z na Z) (gw (H2.sees 1 Z) (by omega)) (fun v2 w3 r2 => ?_))))));obtain ⟨e3, rfl⟩ := r2;have H3 := H2.to e3;refine sA Z Z (aa (ah (ag (sM Z Z (sV Z (aD Z Z) (aa (az Z (fun c3 => ?_) (fun c3 => ?_))))))))
   ·refine ag (sA Z Z (aa (rT hQ Tryz.results290 Z ?_)));exact ⟨H3.ext, congrArg (Value.int .i64) (by unfold cF; omega)⟩
   ·refine ak (ag (sV Z (ab jq Z aZ Z Z) (sV Z (ac aR Z Z (ae (H3.box 0 Z) Z)) (sM Z Z (ay (wn Z) Z Z (aj Tryz.func353 Z na Z) (gw (H3.sees 2 Z) (by omega)) (fun v3 w4 r3 => ?_))))));obtain ⟨e4, rfl⟩ := r3;have H4 := H3.to e4;refine sA Z Z (aa (ah (ag (sM Z Z (sV Z (aD Z Z) (aa (az Z (fun c4 => ?_) (fun c4 => ?_))))))))
    ·refine ag (sA Z Z (aa (rT hQ Tryz.results290 Z ?_)));exact ⟨H4.ext, congrArg (Value.int .i64) (by unfold cF; omega)⟩
    ·refine ak (ag (sM Z Z (sA Z Z (aa (rT hQ Tryz.results290 Z ?_)))));exact ⟨H4.ext, congrArg (Value.int .i64) (by unfold cF; omega)⟩
theorem qP {w : World} {x : Rec} {xA6 xA7 xA8 : Option Addr} {xC6 xC7 xC8 : Nat} (xK : x.Ok) (xS6 : Sees w [.slice xA6 x.Rows.length xC6] x.Rows) (xS7 : Sees w [.slice xA7 x.Data.length xC7] x.Data) (xS8 : Sees w [.slice xA8 x.Delta.length xC8] x.Delta) (hb : cF x ≤ 1048576) : Ret Tryz.prog 294 #[x.val xA6 xC6 xA7 xC7 xA8 xC8] w fun v w' => Ext No w w' ∧ (∃ A6 C6 A7 C7 A8 C8, v = x.val A6 C6 A7 C7 A8 C8 ∧ Res w w' [.int .i64 x.Kind, .int .i64 x.Seq, .string x.Name, .int .i64 x.Length, .int .i64 x.Group, .int .i64 x.Row, .slice A6 x.Rows.length C6, .slice A7 x.Data.length C7, .slice A8 x.Delta.length C8] x) := by
 have xK2 := xK;unfold Rec.Ok at xK2
 try unfold I64ok at xK2
 try unfold maxLen at xK2
 have xN2 : x.Name.size ≤ maxLen := by unfold maxLen; omega
 have xL6 := sL xS6;obtain ⟨xF6, xO6⟩ := xS6;have xL7 := sL xS7;obtain ⟨xF7, xO7⟩ := xS7;have xL8 := sL xS8;obtain ⟨xF8, xO8⟩ := xS8;unfold cF at hb;refine aF (vs := [x.val xA6 xC6 xA7 xC7 xA8 xC8]) Tryz.func294 Z Tryz.ntmps294 Z (fun Q hQ hN => ?_);have H0 := Sep.start (w := w) (F := [seen false [.slice xA6 x.Rows.length xC6] x.Rows xF6, seen false [.slice xA7 x.Data.length xC7] x.Data xF7, seen false [.slice xA8 x.Delta.length xC8] x.Delta xF8]) (all_cons xO6 (all_cons xO7 (all_cons xO8 (by simp))));refine ag (be (wn Z) Z Z H0 (fun b1 w1 e1 g1 H1 => ?_));refine bZ (wn Z) Z Tryz.zeroValue94 H1 (fun b2 w2 e2 g2 H2 => ?_);refine aa (ag (bZ (wn Z) Z Tryz.zeroValue94 H2 (fun b3 w3 e3 g3 H3 => ?_)));refine aa (ag (sV Z (ab jq Z ts2 Z Z) (sV Z (ac tu2 Z Z (ae (H3.box 0 Z) Z)) (sV Z (ab aC Z ts2 Z Z) (bT (wn Z) ts2 Z Z Z H3 2 Z Z (fun w4 e4 H4 => ?_))))));dsimp only[lNA,lCA,lSZ,lSS,aO] at H4;refine aa (ag (sV Z (ab jq Z ts2 Z Z) (sV Z (ac tu2 Z Z (ae (H4.box 0 Z) Z)) (sV Z (ab aC Z ts2 Z Z) (bT (wn Z) ts2 Z Z Z H4 2 Z Z (fun w5 e5 H5 => ?_))))));dsimp only[lNA,lCA,lSZ,lSS,aO] at H5;refine aa (ag (sV Z (ab jq Z ts9 Z Z) (sV Z (ac tu9 Z Z (ae (H5.box 0 Z) Z)) (sV Z (ab aC Z ts9 Z Z) (bT (wn Z) ts9 Z Z Z H5 2 Z Z (fun w6 e6 H6 => ?_))))));dsimp only[lNA,lCA,lSZ,lSS,aO] at H6;refine aa (ag (sV Z (ab jq Z ts2 Z Z) (sV Z (ac tu2 Z Z (ae (H6.box 0 Z) Z)) (sV Z (ab aC Z ts2 Z Z) (bT (wn Z) ts2 Z Z Z H6 2 Z Z (fun w7 e7 H7 => ?_))))));dsimp only[lNA,lCA,lSZ,lSS,aO] at H7;refine aa (ag (sV Z (ab jq Z ts2 Z Z) (sV Z (ac tu2 Z Z (ae (H7.box 0 Z) Z)) (sV Z (ab aC Z ts2 Z Z) (bT (wn Z) ts2 Z Z Z H7 2 Z Z (fun w8 e8 H8 => ?_))))));dsimp only[lNA,lCA,lSZ,lSS,aO] at H8;refine aa (ag (sV Z (ab jq Z ts2 Z Z) (sV Z (ac tu2 Z Z (ae (H8.box 0 Z) Z)) (sV Z (ab aC Z ts2 Z Z) (bT (wn Z) ts2 Z Z Z H8 2 Z Z (fun w9 e9 H9 => ?_))))));dsimp only[lNA,lCA,lSZ,lSS,aO] at H9;refine aa (ag (sV Z (ab jq Z bV Z Z) (sV Z (ac br Z Z (ae (H9.box 0 Z) Z)) (ay (wn Z) Z Z (aj Tryz.func64 Z uP Z) (iZ (H9.sees 0 Z) (by omega)) (fun v1 w10 r1 => ?_)))));obtain ⟨e10, r1⟩ := r1;obtain ⟨fp1, H10⟩ := H9.res e10 r1;obtain ⟨a1, k1, q1⟩ := aA (H10.mine 3 Z);cases q1;refine sV Z (ab aC Z bV Z Z) (bT (wn Z) bV Z Z Z H10 2 Z Z (fun w11 e11 H11 => ?_));dsimp only[lNA,lCA,lSZ,lSS,aO] at H11;refine aa (ag (sV Z (ab jq Z aZ Z Z) (sV Z (ac aR Z Z (ae (H11.box 0 Z) Z)) (ay (wn Z) Z Z (aj Tryz.func36 Z pK Z) (gt (H11.sees 1 Z) (by omega)) (fun v2 w12 r2 => ?_)))));obtain ⟨e12, r2⟩ := r2;obtain ⟨fp2, H12⟩ := H11.res e12 r2;obtain ⟨a2, k2, q2⟩ := aA (H12.mine 4 Z);cases q2;refine sV Z (ab aC Z aZ Z Z) (bT (wn Z) aZ Z Z Z H12 2 Z Z (fun w13 e13 H13 => ?_));dsimp only[lNA,lCA,lSZ,lSS,aO] at H13;refine aa (ag (sV Z (ab jq Z aZ Z Z) (sV Z (ac aR Z Z (ae (H13.box 0 Z) Z)) (ay (wn Z) Z Z (aj Tryz.func36 Z pK Z) (gt (H13.sees 2 Z) (by omega)) (fun v3 w14 r3 => ?_)))));obtain ⟨e14, r3⟩ := r3;obtain ⟨fp3, H14⟩ := H13.res e14 r3;obtain ⟨a3, k3, q3⟩ := aA (H14.mine 5 Z);cases q3;refine sV Z (ab aC Z aZ Z Z) (bT (wn Z) aZ Z Z Z H14 2 Z Z (fun w15 e15 H15 => ?_));dsimp only[lNA,lCA,lSZ,lSS,aO] at H15;refine aa (ag (sV Z (an aC Z aP Z Z (At.whole (H15.box 2 Z))) (bf (wn Z) aP Z Z Z Z H15 1 Z Z (fun w16 e16 H16 => ?_))));dsimp only[lNA,lCA,lSZ,lSS,aO] at H16;refine aa (bJ (hQ _ _ (dr Tryz.results294 Z (aL aC Z aP Z (At.whole (H16.box 1 Z))) ?_)));exact ⟨H16.ext, _, _, _, _, _, _, Z, Rec.out (H16.sub (.cons _ (.cons _ (.cons _ (.cons_cons _ (.cons_cons _ (.cons_cons _ List.Sublist.slnil))))))) xK⟩
theorem qD {w : World} {a b : Rec} {aA6 aA7 aA8 bA6 bA7 bA8 : Option Addr} {aC6 aC7 aC8 bC6 bC7 bC8 : Nat} (aK : a.Ok) (aS6 : Sees w [.slice aA6 a.Rows.length aC6] a.Rows) (aS7 : Sees w [.slice aA7 a.Data.length aC7] a.Data) (aS8 : Sees w [.slice aA8 a.Delta.length aC8] a.Delta) (bK : b.Ok) (bS6 : Sees w [.slice bA6 b.Rows.length bC6] b.Rows) (bS7 : Sees w [.slice bA7 b.Data.length bC7] b.Data) (bS8 : Sees w [.slice bA8 b.Delta.length bC8] b.Delta) : Ret Tryz.prog 171 #[a.val aA6 aC6 aA7 aC7 aA8 aC8, b.val bA6 bC6 bA7 bC7 bA8 bC8] w fun v w' => Ext No w w' ∧ (v = .bool (decide (a = b))) := by
 have aK2 := aK;unfold Rec.Ok at aK2
 try unfold I64ok at aK2
 try unfold maxLen at aK2
 have aN2 : a.Name.size ≤ maxLen := by unfold maxLen; omega
 have aL6 := sL aS6;obtain ⟨aF6, aO6⟩ := aS6;have aL7 := sL aS7;obtain ⟨aF7, aO7⟩ := aS7;have aL8 := sL aS8;obtain ⟨aF8, aO8⟩ := aS8;have bK2 := bK;unfold Rec.Ok at bK2
 try unfold I64ok at bK2
 try unfold maxLen at bK2
 have bN2 : b.Name.size ≤ maxLen := by unfold maxLen; omega
 have bL6 := sL bS6;obtain ⟨bF6, bO6⟩ := bS6;have bL7 := sL bS7;obtain ⟨bF7, bO7⟩ := bS7;have bL8 := sL bS8;obtain ⟨bF8, bO8⟩ := bS8;refine aF (vs := [a.val aA6 aC6 aA7 aC7 aA8 aC8, b.val bA6 bC6 bA7 bC7 bA8 bC8]) Tryz.func171 Z Tryz.ntmps171 Z (fun Q hQ hN => ?_);have H0 := Sep.start (w := w) (F := [seen false [.slice aA6 a.Rows.length aC6] a.Rows aF6, seen false [.slice aA7 a.Data.length aC7] a.Data aF7, seen false [.slice aA8 a.Delta.length aC8] a.Delta aF8, seen false [.slice bA6 b.Rows.length bC6] b.Rows bF6, seen false [.slice bA7 b.Data.length bC7] b.Data bF7, seen false [.slice bA8 b.Delta.length bC8] b.Delta bF8]) (all_cons aO6 (all_cons aO7 (all_cons aO8 (all_cons bO6 (all_cons bO7 (all_cons bO8 (by simp)))))));refine ag (be (wn Z) Z Z H0 (fun b1 w1 e1 g1 H1 => ?_));refine be (wn Z) Z Z H1 (fun b2 w2 e2 g2 H2 => ?_);refine sA Z Z (aa (ah (ag (sV Z (ab aC Z ts2 Z Z) (sV Z (ac tu2 Z Z (ae (H2.box 0 Z) Z)) (sV Z (ab aC Z ts2 Z Z) (sV Z (ac tu2 Z Z (ae (H2.box 1 Z) Z)) (sV Z (aU Z Z) (aa (az Z (fun c1 => ?_) (fun c1 => ?_)))))))))))
 ·refine ag (sA Z Z (aa (rT hQ Tryz.results171 Z (⟨H2.ext, ?_⟩))));rw [decide_eq_false (fun e => by subst e; first | exact c1 rfl | simp at c1)]
 ·refine ak (ah (ag (sV Z (ab aC Z ts2 Z Z) (sV Z (ac tu2 Z Z (ae (H2.box 0 Z) Z)) (sV Z (ab aC Z ts2 Z Z) (sV Z (ac tu2 Z Z (ae (H2.box 1 Z) Z)) (sV Z (aU Z Z) (aa (az Z (fun c2 => ?_) (fun c2 => ?_))))))))))
  ·refine ag (sA Z Z (aa (rT hQ Tryz.results171 Z (⟨H2.ext, ?_⟩))));rw [decide_eq_false (fun e => by subst e; first | exact c2 rfl | simp at c2)]
  ·refine ak (ah (ag (sV Z (ab aC Z ts9 Z Z) (sV Z (ac tu9 Z Z (ae (H2.box 0 Z) Z)) (sV Z (ab aC Z ts9 Z Z) (sV Z (ac tu9 Z Z (ae (H2.box 1 Z) Z)) (sV Z (Av Z Z) (aa (bP Z (fun c3 => ?_) (fun c3 => ?_))))))))))
   ·refine ag (sA Z Z (aa (rT hQ Tryz.results171 Z (⟨H2.ext, ?_⟩))));rw [decide_eq_false (fun e => by subst e; first | exact c3 rfl | simp at c3)]
   ·refine ak (ah (ag (sV Z (ab aC Z ts2 Z Z) (sV Z (ac tu2 Z Z (ae (H2.box 0 Z) Z)) (sV Z (ab aC Z ts2 Z Z) (sV Z (ac tu2 Z Z (ae (H2.box 1 Z) Z)) (sV Z (aU Z Z) (aa (az Z (fun c4 => ?_) (fun c4 => ?_))))))))))
    ·refine ag (sA Z Z (aa (rT hQ Tryz.results171 Z (⟨H2.ext, ?_⟩))));rw [decide_eq_false (fun e => by subst e; first | exact c4 rfl | simp at c4)]
    ·refine ak (ah (ag (sV Z (ab aC Z ts2 Z Z) (sV Z (ac tu2 Z Z (ae (H2.box 0 Z) Z)) (sV Z (ab aC Z ts2 Z Z) (sV Z (ac tu2 Z Z (ae (H2.box 1 Z) Z)) (sV Z (aU Z Z) (aa (az Z (fun c5 => ?_) (fun c5 => ?_))))))))))
     ·refine ag (sA Z Z (aa (rT hQ Tryz.results171 Z (⟨H2.ext, ?_⟩))));rw [decide_eq_false (fun e => by subst e; first | exact c5 rfl | simp at c5)]
     ·refine ak (ah (ag (sV Z (ab aC Z ts2 Z Z) (sV Z (ac tu2 Z Z (ae (H2.box 0 Z) Z)) (sV Z (ab aC Z ts2 Z Z) (sV Z (ac tu2 Z Z (ae (H2.box 1 Z) Z)) (sV Z (aU Z Z) (aa (az Z (fun c6 => ?_) (fun c6 => ?_))))))))))
      ·refine ag (sA Z Z (aa (rT hQ Tryz.results171 Z (⟨H2.ext, ?_⟩))));rw [decide_eq_false (fun e => by subst e; first | exact c6 rfl | simp at c6)]
      ·refine ak (ah (ag (sV Z (ab aC Z bV Z Z) (sV Z (ac br Z Z (ae (H2.box 0 Z) Z)) (sV Z (ab aC Z bV Z Z) (sV Z (ac br Z Z (ae (H2.box 1 Z) Z)) (ay (wn Z) Z Z (aj Tryz.func73 Z un Z) (jg (H2.sees 0 Z) (H2.sees 3 Z)) (fun v1 w3 r1 => ?_))))))));obtain ⟨e3, rfl⟩ := r1;have H3 := H2.to e3;refine sV Z (bb Z) (aa (bP Z (fun c7 => ?_) (fun c7 => ?_)))
       ·refine ag (sA Z Z (aa (rT hQ Tryz.results171 Z (⟨H3.ext, ?_⟩))));rw [decide_eq_false (fun e => by subst e; first | exact c7 rfl | simp at c7)]
       ·refine ak (ah (ag (sV Z (ab aC Z aZ Z Z) (sV Z (ac aR Z Z (ae (H3.box 0 Z) Z)) (sV Z (ab aC Z aZ Z Z) (sV Z (ac aR Z Z (ae (H3.box 1 Z) Z)) (ay (wn Z) Z Z (aj Tryz.func38 Z pS Z) (go (H3.sees 1 Z) (H3.sees 4 Z)) (fun v2 w4 r2 => ?_))))))));obtain ⟨e4, rfl⟩ := r2;have H4 := H3.to e4;refine sV Z (bb Z) (aa (bP Z (fun c8 => ?_) (fun c8 => ?_)))
        ·refine ag (sA Z Z (aa (rT hQ Tryz.results171 Z (⟨H4.ext, ?_⟩))));rw [decide_eq_false (fun e => by subst e; first | exact c8 rfl | simp at c8)]
        ·refine ak (ah (ag (sV Z (ab aC Z aZ Z Z) (sV Z (ac aR Z Z (ae (H4.box 0 Z) Z)) (sV Z (ab aC Z aZ Z Z) (sV Z (ac aR Z Z (ae (H4.box 1 Z) Z)) (ay (wn Z) Z Z (aj Tryz.func38 Z pS Z) (go (H4.sees 2 Z) (H4.sees 5 Z)) (fun v3 w5 r3 => ?_))))))));obtain ⟨e5, rfl⟩ := r3;have H5 := H4.to e5;refine sV Z (bb Z) (aa (bP Z (fun c9 => ?_) (fun c9 => ?_)))
         ·refine ag (sA Z Z (aa (rT hQ Tryz.results171 Z (⟨H5.ext, ?_⟩))));rw [decide_eq_false (fun e => by subst e; first | exact c9 rfl | simp at c9)]
         ·refine ak (ag (sA Z Z (aa (rT hQ Tryz.results171 Z (⟨H5.ext, ?_⟩)))));rw [decide_eq_true];cases a; cases b; simp_all [iI]
theorem pW {w : World} {xs : List Rec} {xsA : Option Addr} {xsC : Nat} {l : Int} (xsS : Sees w [.slice xsA xs.length xsC] xs) (hl : -1 ≤ l ∧ l ≤ 1048576) : Ret Tryz.prog 219 #[.slice xsA xs.length xsC, .int .i64 l] w fun v w' => Ext No w w' ∧ (v = .int .i64 (if l - szL cF xs < 0 then -1 else l - szL cF xs)) := by
 have xsL := sL xsS;obtain ⟨xsF, xsO⟩ := xsS;refine aF (vs := [.slice xsA xs.length xsC, .int .i64 l]) Tryz.func219 Z Tryz.ntmps219 Z (fun Q hQ hN => ?_);have H0 := Sep.start (w := w) (F := [seen false [.slice xsA xs.length xsC] xs xsF]) (all_cons xsO (by simp));refine ag (sA Z Z (aa (ag (sM Z Z (sM Z Z (sV Z (aE qy Z) (sV Z (bx Z Z iO) (sA Z Z (aa (ah (ag (sM Z Z (sV Z (aD Z Z) (aa (az Z (fun c1 => ?_) (fun c1 => ?_))))))))))))))))
 ·refine ag (sA Z Z (aa (rT hQ Tryz.results219 Z ?_)));exact ⟨H0.ext, by rw [if_pos (by rw [fX (f := cF)]; omega)]⟩
 ·refine ak (ah (ag (sA Z Z (aa (au (bk (γ := Nat × Int) (fun (k, m) => [(0, .slice xsA xs.length xsC), (1, .int .i64 m), (5, .int .i64 k)]) (fun (k, m) w' => Sep No w [] [seen false [.slice xsA xs.length xsC] xs xsF] w' ∧ k ≤ xs.length ∧ 0 ≤ m ∧ m = l - xs.length - bI (fun i => cF (xs.getD i default)) k) (fun (k, m) => xs.length - k) (0, _) ⟨Z, Z, Z, trivial⟩ ⟨H0, by omega, by omega, by simp only [bI]; omega⟩ (fun (k, m) w1 H1 => ?_)))))));obtain ⟨H1, hk, hm, hs⟩ := H1;refine ah (ag (sM Z Z (sM Z Z (sV Z (aE qy Z) (sV Z (aD Z Z) (aa (az Z (fun c2 => ?_) (fun c2 => ?_))))))))
  ·refine ak (ah (au (ah ?_)));obtain ⟨eb1, eo1, es1, ef1, ee1, ec1, eO1, eH1, em1⟩ := aY (H1.seen 0 Z) k (by omega);obtain ⟨ea1, ek1, ea2, ek2, ea3, ek3, eg1, eg2, eg3, rfl, eq1, eK1, eo2, eo3, eo4⟩ := cz eO1;have eK1U := eK1;unfold Rec.Ok at eK1U
   try unfold I64ok at eK1U
   try unfold maxLen at eK1U
   have eP1 := H1.look1 0 Z eo2 (fun b hb => eH1 b (by rw [eq1]; simp [hb]));have eL1 := oL eo2;have eP2 := eP1.look1 0 Z eo3 (fun b hb => eH1 b (by rw [eq1]; simp [hb]));have eL2 := oL eo3;have eP3 := eP2.look1 0 Z eo4 (fun b hb => eH1 b (by rw [eq1]; simp [hb]));have eL3 := oL eo4;refine ao (sM Z Z (sM Z Z (sV Z (ax qy Ar Z Z ee1 k (by omega) (by omega)) (sV Z (an jq Z Ar Z Z ec1) (sM Z Z (ay (wn Z) Z Z (aj Tryz.func290 Z zD Z) (qR (by assumption) (eP3.sees 1 Z) (eP3.sees 2 Z) (eP3.sees 3 Z) (by omega)) (fun v1 w2 r1 => ?_)))))));obtain ⟨e1, rfl⟩ := r1;have H2 := eP3.to e1;refine sA Z Z (aa (ag (sM Z Z (sV Z (aD Z Z) (aa (az Z (fun c3 => ?_) (fun c3 => ?_)))))))
   ·refine ag (sA Z Z (aa (rT hQ Tryz.results219 Z ?_)));have sg : bI (fun i => cF (xs.getD i default)) (k + 1) = bI (fun i => cF (xs.getD i default)) k + cF (xs.getD k default) := Z;have sl := jN (f := (fun i => cF (xs.getD i default))) (j := k + 1) (k := xs.length) (by omega);exact ⟨H2.ext, by rw [if_pos (by rw [fX (f := cF)]; omega)]⟩
   ·refine ak (ao (sM Z Z (sV Z (aB Z Z iO) (sA Z Z (aa ?_)))));have sg : bI (fun i => cF (xs.getD i default)) (k + 1) = bI (fun i => cF (xs.getD i default)) k + cF (xs.getD k default) := Z;refine ⟨(k + 1, _), ⟨Z, Z, Z, trivial⟩, ⟨(H2.ftake 1), by omega, by omega, by omega⟩, by dsimp only; omega⟩
  ·refine aN (ag (sM Z Z (sA Z Z (aa (rT hQ Tryz.results219 Z ?_)))));obtain rfl : k = xs.length := by omega
   exact ⟨H1.ext, congrArg (Value.int .i64) (by rw [fX (f := cF)]; omega)⟩
theorem pT {w : World} {xs : List Rec} {xsA : Option Addr} {xsC : Nat} (xsS : Sees w [.slice xsA xs.length xsC] xs) (hl : szL cF xs ≤ 1048576) : Ret Tryz.prog 226 #[.slice xsA xs.length xsC] w fun v w' => Ext No w w' ∧ (Res w w' [v] xs) := by
 have xsL := sL xsS;obtain ⟨xsF, xsO⟩ := xsS;have hl0 : xs.length ≤ 1048576 := by unfold szL at hl; omega
 refine aF (vs := [.slice xsA xs.length xsC]) Tryz.func226 Z Tryz.ntmps226 Z (fun Q hQ hN => ?_);have H0 := Sep.start (w := w) (F := [seen false [.slice xsA xs.length xsC] xs xsF]) (all_cons xsO (by simp));refine ag (sA Z Z (aa (ag (sM Z Z (sV Z (aE qy Z) (eW (wn Z) Z aX bd (show ∀ w, own true w (Value.agg #[.int .i64 0, .int .i64 0, .string ⟨#[]⟩, .int .i64 0, .int .i64 0, .int .i64 0, .slice none 0 0, .slice none 0 0, .slice none 0 0]).cells.toList (default : Rec) [] from fun _ => vP) Z (by omega) (by unfold maxLen; omega) H0 (fun b1 w1 e1 g1 H1 => ?_)))))));refine sA Z Z (aa (ah (ag (sA Z Z (aa (au (bk (γ := Nat × List Nat) (fun (k, fp) => [(0, .slice xsA xs.length xsC), (3, .slice (some ⟨b1, 0, none⟩) xs.length xs.length), (4, .int .i64 k)]) (fun (k, fp) w' => Sep No w [mine [.slice (some ⟨b1, 0, none⟩) xs.length xs.length] (cp xs k default) fp] [seen false [.slice xsA xs.length xsC] xs xsF] w' ∧ k ≤ xs.length) (fun (k, fp) => xs.length - k) (0, [b1]) ⟨Z, Z, Z, trivial⟩ ⟨kZ ▸ H1, by omega⟩ (fun (k, fp) w2 H2 => ?_))))))));obtain ⟨H2, hk⟩ := H2;refine ah (ag (sM Z Z (sM Z Z (sV Z (aE qy Z) (sV Z (aD Z Z) (aa (az Z (fun c1 => ?_) (fun c1 => ?_))))))))
 ·refine ak (ah (au ?_));obtain ⟨hg, hg2⟩ := dv hl k (by omega);obtain ⟨eb1, eo1, es1, ef1, ee1, ec1, eO1, eH1, em1⟩ := aY (H2.seen 0 Z) k (by omega);obtain ⟨ea1, ek1, ea2, ek2, ea3, ek3, eg1, eg2, eg3, rfl, eq1, eK1, eo2, eo3, eo4⟩ := cz eO1;have eK1U := eK1;unfold Rec.Ok at eK1U
  try unfold I64ok at eK1U
  try unfold maxLen at eK1U
  have eP1 := H2.look1 0 Z eo2 (fun b hb => eH1 b (by rw [eq1]; simp [hb]));have eL1 := oL eo2;have eP2 := eP1.look1 0 Z eo3 (fun b hb => eH1 b (by rw [eq1]; simp [hb]));have eL2 := oL eo3;have eP3 := eP2.look1 0 Z eo4 (fun b hb => eH1 b (by rw [eq1]; simp [hb]));have eL3 := oL eo4;obtain ⟨eb2, eo5, ee2⟩ := dU (eP3.mine 0 Z) k (by rw [gA (xs := xs) (k := k) (by omega)]; omega);refine ao (sM Z Z (sM Z Z (sM Z Z (sM Z Z (sV Z (ax qy Ar Z Z ee1 k (by omega) (by omega)) (sV Z (an jq Z Ar Z Z ec1) (ay (wn Z) Z Z (aj Tryz.func294 Z xL Z) (qP (by assumption) (eP3.sees 1 Z) (eP3.sees 2 Z) (eP3.sees 3 Z) (by assumption)) (fun v1 w3 r1 => ?_))))))));obtain ⟨e2, sa1, sk1, sa2, sk2, sa3, sk3, rfl, r1⟩ := r1;obtain ⟨fp1, H3⟩ := eP3.res e2 r1;refine sV Z (ax aX aP Z Z ee2 k (by omega) (by omega)) (og (wn Z) aP H3 0 1 Z Z Z k (by rw [gA (xs := xs) (k := k) (by omega)]; omega) Z ee2 Z (fun w4 fp2 H4 => ?_));refine aa ?_;obtain ⟨hg, hg2⟩ := dv hl k (by omega);refine ao (sM Z Z (sV Z (aB Z Z iO) (sA Z Z (aa (⟨(k + 1, _), ⟨Z, Z, Z, trivial⟩, ⟨nl (xs := xs) (k := k) (d := default) (by omega) ▸ ((H4.ftake 1).dtake 1), by omega⟩, by dsimp only; omega⟩)))))
 ·refine aN (ag (sM Z Z (sA Z Z (aa (rT hQ Tryz.results226 Z ?_)))));obtain rfl : k = xs.length := by omega
  exact ⟨H2.ext, by
   have h := H2.out 0 Z
   rwa [ne] at h⟩
theorem pJ {w : World} {xs ys : List Rec} {xsA ysA : Option Addr} {xsC ysC : Nat} (xsS : Sees w [.slice xsA xs.length xsC] xs) (ysS : Sees w [.slice ysA ys.length ysC] ys) : Ret Tryz.prog 89 #[.slice xsA xs.length xsC, .slice ysA ys.length ysC] w fun v w' => Ext No w w' ∧ (v = .bool (decide (xs = ys))) := by
 have xsL := sL xsS;obtain ⟨xsF, xsO⟩ := xsS;have ysL := sL ysS;obtain ⟨ysF, ysO⟩ := ysS;refine aF (vs := [.slice xsA xs.length xsC, .slice ysA ys.length ysC]) Tryz.func89 Z Tryz.ntmps89 Z (fun Q hQ hN => ?_);have H0 := Sep.start (w := w) (F := [seen false [.slice xsA xs.length xsC] xs xsF, seen false [.slice ysA ys.length ysC] ys ysF]) (all_cons xsO (all_cons ysO (by simp)));refine ag (sA Z Z (aa (ah (ag (sM Z Z (sV Z (aE aX Z) (sM Z Z (sV Z (aE aX Z) (sV Z (aU Z Z) (aa (az Z (fun c1 => ?_) (fun c1 => ?_))))))))))))
 ·refine ag (sA Z Z (aa (rT hQ Tryz.results89 Z (⟨H0.ext, ?_⟩))));rw [decide_eq_false (fun e => by subst e; exact c1 rfl)]
 ·refine ak (ah (ag (sA Z Z (aa (au (bk (γ := Nat) (fun k => [(0, .slice xsA xs.length xsC), (1, .slice ysA ys.length ysC), (5, .int .i64 k)]) (fun k w' => Sep No w [] [seen false [.slice xsA xs.length xsC] xs xsF, seen false [.slice ysA ys.length ysC] ys ysF] w' ∧ k ≤ xs.length ∧ (∀ i, i < k → xs.getD i default = ys.getD i default)) (fun k => xs.length - k) 0 ⟨Z, Z, Z, trivial⟩ ⟨H0, by omega, fun i hi => by omega⟩ (fun k w1 H1 => ?_)))))));obtain ⟨H1, hk, he⟩ := H1;refine ah (ag (sM Z Z (sM Z Z (sV Z (aE aX Z) (sV Z (aD Z Z) (aa (az Z (fun c2 => ?_) (fun c2 => ?_))))))))
  ·refine ak (ah (au (ah ?_)));obtain ⟨eb1, eo1, es1, ef1, ee1, ec1, eO1, eH1, em1⟩ := aY (H1.seen 0 Z) k (by omega);obtain ⟨ea1, ek1, ea2, ek2, ea3, ek3, eg1, eg2, eg3, rfl, eq1, eK1, eo2, eo3, eo4⟩ := cz eO1;have eK1U := eK1;unfold Rec.Ok at eK1U
   try unfold I64ok at eK1U
   try unfold maxLen at eK1U
   have eP1 := H1.look1 0 Z eo2 (fun b hb => eH1 b (by rw [eq1]; simp [hb]));have eL1 := oL eo2;have eP2 := eP1.look1 0 Z eo3 (fun b hb => eH1 b (by rw [eq1]; simp [hb]));have eL2 := oL eo3;have eP3 := eP2.look1 0 Z eo4 (fun b hb => eH1 b (by rw [eq1]; simp [hb]));have eL3 := oL eo4;obtain ⟨eb2, eo5, es2, ef2, ee2, ec2, eO2, eH2, em2⟩ := aY (eP3.seen 1 Z) k (by omega);obtain ⟨ea4, ek4, ea5, ek5, ea6, ek6, eg4, eg5, eg6, rfl, eq2, eK2, eo6, eo7, eo8⟩ := cz eO2;have eK2U := eK2;unfold Rec.Ok at eK2U
   try unfold I64ok at eK2U
   try unfold maxLen at eK2U
   have eP4 := eP3.look1 1 Z eo6 (fun b hb => eH2 b (by rw [eq2]; simp [hb]));have eL4 := oL eo6;have eP5 := eP4.look1 1 Z eo7 (fun b hb => eH2 b (by rw [eq2]; simp [hb]));have eL5 := oL eo7;have eP6 := eP5.look1 1 Z eo8 (fun b hb => eH2 b (by rw [eq2]; simp [hb]));have eL6 := oL eo8;refine bE (S := Ext No _) (oQ [1,3,5,7,9,11,13,15,16,18]) (by kernel_rfl) (by kernel_rfl) (by kernel_rfl) Z (fun _ => Ext.refl.drawn _) (fun q1 => ?_);have H2 := eP6.drawn q1;refine dM Z Z Z (dM Z Z Z (dV Z Z (fun zw hx => ax aX aP Z Z ee1 k (by omega) (by omega)) (dV Z Z (fun zw hx => an aC Z aP Z Z (hx.at ec1)) (dM Z Z Z (dM Z Z Z (dV Z Z (fun zw hx => ax aX aP Z Z ee2 k (by omega) (by omega)) (dV Z Z (fun zw hx => an aC Z aP Z Z (hx.at ec2)) (aM Z (wn Z) Z Z (aj Tryz.func171 Z yY Z) (qD (by assumption) (H2.sees 2 Z) (H2.sees 3 Z) (H2.sees 4 Z) (by assumption) (H2.sees 5 Z) (H2.sees 6 Z) (H2.sees 7 Z)) (fun hS _ _ r _ => hS.trans r.1.no) (fun v1 w2 r1 => ?_)))))))));obtain ⟨e1, rfl⟩ := r1;have H3 := H2.to e1;refine aS Z (wn Z) Z Z (bb Z) (aT (bP Z (fun c3 => ?_) (fun c3 => ?_)))
   ·refine ag (sA Z Z (aa (rT hQ Tryz.results89 Z (⟨H3.ext, ?_⟩))));rw [decide_eq_false (fun e => by subst e; simp at c3)]
   ·refine ak (ao (sM Z Z (sV Z (aB Z Z iO) (sA Z Z (aa ?_)))));have c4 : xs.getD k default = ys.getD k default := by simpa using c3
    refine ⟨k + 1, ⟨Z, Z, Z, trivial⟩, ⟨(H3.ftake 2), by omega, fun i hi => ?_⟩, by dsimp only; omega⟩
    by_cases e : i = k
    ·subst e; exact c4
    ·exact he i (by omega)
  ·refine aN (ag (sA Z Z (aa (rT hQ Tryz.results89 Z (⟨H1.ext, ?_⟩)))));rw [decide_eq_true (dg (d := default) (by omega) fun i hi => he i (by omega))]
theorem p3 {w : World} {x : Tape} {xA1 : Option Addr} {xC1 : Nat} {l : Int} (xK : x.Ok) (xS1 : Sees w [.slice xA1 x.Recs.length xC1] x.Recs) (hl : -1 ≤ l ∧ l ≤ 1048576) : Ret Tryz.prog 127 #[x.val xA1 xC1, .int .i64 l] w fun v w' => Ext No w w' ∧ (v = .int .i64 (if l - cO x < 0 then -1 else l - cO x)) := by
 have xK2 := xK;unfold Tape.Ok at xK2
 try unfold I64ok at xK2
 try unfold maxLen at xK2
 have xL1 := sL xS1;obtain ⟨xF1, xO1⟩ := xS1;refine aF (vs := [x.val xA1 xC1, .int .i64 l]) Tryz.func127 Z Tryz.ntmps127 Z (fun Q hQ hN => ?_);have H0 := Sep.start (w := w) (F := [seen false [.slice xA1 x.Recs.length xC1] x.Recs xF1]) (all_cons xO1 (by simp));refine ag (be (wn Z) Z Z H0 (fun b1 w1 e1 g1 H1 => ?_));refine sA Z Z (aa (ag (sV Z (ab vj Z Er Z Z) (sV Z (ac qy Z Z (ae (H1.box 0 Z) Z)) (sM Z Z (ay (wn Z) Z Z (aj Tryz.func219 Z y5 Z) (pW (H1.sees 0 Z) (by omega)) (fun v1 w2 r1 => ?_)))))));obtain ⟨e2, rfl⟩ := r1;have H2 := H1.to e2;refine sA Z Z (aa (ah (ag (sM Z Z (sV Z (aD Z Z) (aa (az Z (fun c1 => ?_) (fun c1 => ?_))))))))
 ·refine ag (sA Z Z (aa (rT hQ Tryz.results127 Z ?_)));exact ⟨H2.ext, congrArg (Value.int .i64) (by unfold cO; omega)⟩
 ·refine ak (ag (sM Z Z (sA Z Z (aa (rT hQ Tryz.results127 Z ?_)))));exact ⟨H2.ext, congrArg (Value.int .i64) (by unfold cO; omega)⟩
theorem pO {w : World} {x : Tape} {xA1 : Option Addr} {xC1 : Nat} (xK : x.Ok) (xS1 : Sees w [.slice xA1 x.Recs.length xC1] x.Recs) (hb : cO x ≤ 1048576) : Ret Tryz.prog 137 #[x.val xA1 xC1] w fun v w' => Ext No w w' ∧ (∃ A1 C1, v = x.val A1 C1 ∧ Res w w' [.bool x.Wiped, .slice A1 x.Recs.length C1] x) := by
 have xK2 := xK;unfold Tape.Ok at xK2
 try unfold I64ok at xK2
 try unfold maxLen at xK2
 have xL1 := sL xS1;obtain ⟨xF1, xO1⟩ := xS1;unfold cO at hb;refine aF (vs := [x.val xA1 xC1]) Tryz.func137 Z Tryz.ntmps137 Z (fun Q hQ hN => ?_);have H0 := Sep.start (w := w) (F := [seen false [.slice xA1 x.Recs.length xC1] x.Recs xF1]) (all_cons xO1 (by simp));refine ag (be (wn Z) Z Z H0 (fun b1 w1 e1 g1 H1 => ?_));refine bZ (wn Z) Z Tryz.zeroValue134 H1 (fun b2 w2 e2 g2 H2 => ?_);refine aa (ag (bZ (wn Z) Z Tryz.zeroValue134 H2 (fun b3 w3 e3 g3 H3 => ?_)));refine aa (ag (sV Z (ab vj Z ts4 Z Z) (sV Z (ac tu4 Z Z (ae (H3.box 0 Z) Z)) (sV Z (ab cb Z ts4 Z Z) (bT (wn Z) ts4 Z Z Z H3 2 Z Z (fun w4 e4 H4 => ?_))))));dsimp only[lNA,lCA,lSZ,lSS,aO] at H4;refine aa (ag (sV Z (ab vj Z Er Z Z) (sV Z (ac qy Z Z (ae (H4.box 0 Z) Z)) (ay (wn Z) Z Z (aj Tryz.func226 Z wT Z) (pT (H4.sees 0 Z) (by first | assumption | omega)) (fun v1 w5 r1 => ?_)))));obtain ⟨e5, r1⟩ := r1;obtain ⟨fp1, H5⟩ := H4.res e5 r1;obtain ⟨a1, k1, q1⟩ := aA (H5.mine 3 Z);cases q1;refine sV Z (ab cb Z d9 Z Z) (bT (wn Z) d9 Z Z Z H5 2 Z Z (fun w6 e6 H6 => ?_));dsimp only[lNA,lCA,lSZ,lSS,aO] at H6;refine aa (ag (sV Z (an cb Z cn Z Z (At.whole (H6.box 2 Z))) (bf (wn Z) cn Z Z Z Z H6 1 Z Z (fun w7 e7 H7 => ?_))));dsimp only[lNA,lCA,lSZ,lSS,aO] at H7;refine aa (bJ (hQ _ _ (dr Tryz.results137 Z (aL cb Z cn Z (At.whole (H7.box 1 Z))) ?_)));exact ⟨H7.ext, _, _, Z, Tape.out (H7.sub (.cons _ (.cons _ (.cons _ (.cons_cons _ List.Sublist.slnil))))) xK⟩
theorem pV {w : World} {a : Tape} {aA1 : Option Addr} {aC1 : Nat} {b : Tape} {bA1 : Option Addr} {bC1 : Nat} (aK : a.Ok) (aS1 : Sees w [.slice aA1 a.Recs.length aC1] a.Recs) (bK : b.Ok) (bS1 : Sees w [.slice bA1 b.Recs.length bC1] b.Recs) : Ret Tryz.prog 147 #[a.val aA1 aC1, b.val bA1 bC1] w fun v w' => Ext No w w' ∧ (v = .bool (decide (a = b))) := by
 have aK2 := aK;unfold Tape.Ok at aK2
 try unfold I64ok at aK2
 try unfold maxLen at aK2
 have aL1 := sL aS1;obtain ⟨aF1, aO1⟩ := aS1;have bK2 := bK;unfold Tape.Ok at bK2
 try unfold I64ok at bK2
 try unfold maxLen at bK2
 have bL1 := sL bS1;obtain ⟨bF1, bO1⟩ := bS1;refine aF (vs := [a.val aA1 aC1, b.val bA1 bC1]) Tryz.func147 Z Tryz.ntmps147 Z (fun Q hQ hN => ?_);have H0 := Sep.start (w := w) (F := [seen false [.slice aA1 a.Recs.length aC1] a.Recs aF1, seen false [.slice bA1 b.Recs.length bC1] b.Recs bF1]) (all_cons aO1 (all_cons bO1 (by simp)));refine ag (be (wn Z) Z Z H0 (fun b1 w1 e1 g1 H1 => ?_));refine be (wn Z) Z Z H1 (fun b2 w2 e2 g2 H2 => ?_);refine sA Z Z (aa (ah (ag (sV Z (ab cb Z ts4 Z Z) (sV Z (ac tu4 Z Z (ae (H2.box 0 Z) Z)) (sV Z (ab cb Z ts4 Z Z) (sV Z (ac tu4 Z Z (ae (H2.box 1 Z) Z)) (sV Z (oT tu4 Z Z) (aa (bP Z (fun c1 => ?_) (fun c1 => ?_)))))))))))
 ·refine ag (sA Z Z (aa (rT hQ Tryz.results147 Z (⟨H2.ext, ?_⟩))));rw [decide_eq_false (fun e => by subst e; first | exact c1 rfl | simp at c1)]
 ·refine ak (ah (ag (sV Z (ab cb Z d9 Z Z) (sV Z (ac aX Z Z (ae (H2.box 0 Z) Z)) (sV Z (ab cb Z d9 Z Z) (sV Z (ac aX Z Z (ae (H2.box 1 Z) Z)) (ay (wn Z) Z Z (aj Tryz.func89 Z AX Z) (pJ (H2.sees 0 Z) (H2.sees 1 Z)) (fun v1 w3 r1 => ?_))))))));obtain ⟨e3, rfl⟩ := r1;have H3 := H2.to e3;refine sV Z (bb Z) (aa (bP Z (fun c2 => ?_) (fun c2 => ?_)))
  ·refine ag (sA Z Z (aa (rT hQ Tryz.results147 Z (⟨H3.ext, ?_⟩))));rw [decide_eq_false (fun e => by subst e; first | exact c2 rfl | simp at c2)]
  ·refine ak (ag (sA Z Z (aa (rT hQ Tryz.results147 Z (⟨H3.ext, ?_⟩)))));rw [decide_eq_true];cases a; cases b; simp_all [iI]
theorem pn {w : World} {xs : List Tape} {xsA : Option Addr} {xsC : Nat} {l : Int} (xsS : Sees w [.slice xsA xs.length xsC] xs) (hl : -1 ≤ l ∧ l ≤ 1048576) : Ret Tryz.prog 57 #[.slice xsA xs.length xsC, .int .i64 l] w fun v w' => Ext No w w' ∧ (v = .int .i64 (if l - szL cO xs < 0 then -1 else l - szL cO xs)) := by
 have xsL := sL xsS;obtain ⟨xsF, xsO⟩ := xsS;refine aF (vs := [.slice xsA xs.length xsC, .int .i64 l]) Tryz.func57 Z Tryz.ntmps57 Z (fun Q hQ hN => ?_);have H0 := Sep.start (w := w) (F := [seen false [.slice xsA xs.length xsC] xs xsF]) (all_cons xsO (by simp));refine ag (sA Z Z (aa (ag (sM Z Z (sM Z Z (sV Z (aE wm Z) (sV Z (bx Z Z iO) (sA Z Z (aa (ah (ag (sM Z Z (sV Z (aD Z Z) (aa (az Z (fun c1 => ?_) (fun c1 => ?_))))))))))))))))
 ·refine ag (sA Z Z (aa (rT hQ Tryz.results57 Z ?_)));exact ⟨H0.ext, by rw [if_pos (by rw [fX (f := cO)]; omega)]⟩
 ·refine ak (ah (ag (sA Z Z (aa (au (bk (γ := Nat × Int) (fun (k, m) => [(0, .slice xsA xs.length xsC), (1, .int .i64 m), (5, .int .i64 k)]) (fun (k, m) w' => Sep No w [] [seen false [.slice xsA xs.length xsC] xs xsF] w' ∧ k ≤ xs.length ∧ 0 ≤ m ∧ m = l - xs.length - bI (fun i => cO (xs.getD i default)) k) (fun (k, m) => xs.length - k) (0, _) ⟨Z, Z, Z, trivial⟩ ⟨H0, by omega, by omega, by simp only [bI]; omega⟩ (fun (k, m) w1 H1 => ?_)))))));obtain ⟨H1, hk, hm, hs⟩ := H1;refine ah (ag (sM Z Z (sM Z Z (sV Z (aE wm Z) (sV Z (aD Z Z) (aa (az Z (fun c2 => ?_) (fun c2 => ?_))))))))
  ·refine ak (ah (au (ah ?_)));obtain ⟨eb1, eo1, es1, ef1, ee1, ec1, eO1, eH1, em1⟩ := aY (H1.seen 0 Z) k (by omega);obtain ⟨ea1, ek1, eg1, rfl, eq1, eK1, eo2⟩ := ce eO1;have eP1 := H1.look1 0 Z eo2 (fun b hb => eH1 b (by rw [eq1]; simp [hb]));have eL1 := oL eo2;refine ao (sM Z Z (sM Z Z (sV Z (ax wm Am Z Z ee1 k (by omega) (by omega)) (sV Z (an vj Z Am Z Z ec1) (sM Z Z (ay (wn Z) Z Z (aj Tryz.func127 Z wU Z) (p3 (by assumption) (eP1.sees 1 Z) (by omega)) (fun v1 w2 r1 => ?_)))))));obtain ⟨e1, rfl⟩ := r1;have H2 := eP1.to e1;refine sA Z Z (aa (ag (sM Z Z (sV Z (aD Z Z) (aa (az Z (fun c3 => ?_) (fun c3 => ?_)))))))
   ·refine ag (sA Z Z (aa (rT hQ Tryz.results57 Z ?_)));have sg : bI (fun i => cO (xs.getD i default)) (k + 1) = bI (fun i => cO (xs.getD i default)) k + cO (xs.getD k default) := Z;have sl := jN (f := (fun i => cO (xs.getD i default))) (j := k + 1) (k := xs.length) (by omega);exact ⟨H2.ext, by rw [if_pos (by rw [fX (f := cO)]; omega)]⟩
   ·refine ak (ao (sM Z Z (sV Z (aB Z Z iO) (sA Z Z (aa ?_)))));have sg : bI (fun i => cO (xs.getD i default)) (k + 1) = bI (fun i => cO (xs.getD i default)) k + cO (xs.getD k default) := Z;refine ⟨(k + 1, _), ⟨Z, Z, Z, trivial⟩, ⟨(H2.ftake 1), by omega, by omega, by omega⟩, by dsimp only; omega⟩
  ·refine aN (ag (sM Z Z (sA Z Z (aa (rT hQ Tryz.results57 Z ?_)))));obtain rfl : k = xs.length := by omega
   exact ⟨H1.ext, congrArg (Value.int .i64) (by rw [fX (f := cO)]; omega)⟩
theorem nN {w : World} {xs : List Tape} {xsA : Option Addr} {xsC : Nat} (xsS : Sees w [.slice xsA xs.length xsC] xs) (hl : szL cO xs ≤ 1048576) : Ret Tryz.prog 65 #[.slice xsA xs.length xsC] w fun v w' => Ext No w w' ∧ (Res w w' [v] xs) := by
 have xsL := sL xsS;obtain ⟨xsF, xsO⟩ := xsS;have hl0 : xs.length ≤ 1048576 := by unfold szL at hl; omega
 refine aF (vs := [.slice xsA xs.length xsC]) Tryz.func65 Z Tryz.ntmps65 Z (fun Q hQ hN => ?_);have H0 := Sep.start (w := w) (F := [seen false [.slice xsA xs.length xsC] xs xsF]) (all_cons xsO (by simp));refine ag (sA Z Z (aa (ag (sM Z Z (sV Z (aE wm Z) (eW (wn Z) Z bW je (show ∀ w, own true w (Value.agg #[.bool false, .slice none 0 0]).cells.toList (default : Tape) [] from fun _ => Bl) Z (by omega) (by unfold maxLen; omega) H0 (fun b1 w1 e1 g1 H1 => ?_)))))));refine sA Z Z (aa (ah (ag (sA Z Z (aa (au (bk (γ := Nat × List Nat) (fun (k, fp) => [(0, .slice xsA xs.length xsC), (3, .slice (some ⟨b1, 0, none⟩) xs.length xs.length), (4, .int .i64 k)]) (fun (k, fp) w' => Sep No w [mine [.slice (some ⟨b1, 0, none⟩) xs.length xs.length] (cp xs k default) fp] [seen false [.slice xsA xs.length xsC] xs xsF] w' ∧ k ≤ xs.length) (fun (k, fp) => xs.length - k) (0, [b1]) ⟨Z, Z, Z, trivial⟩ ⟨kZ ▸ H1, by omega⟩ (fun (k, fp) w2 H2 => ?_))))))));obtain ⟨H2, hk⟩ := H2;refine ah (ag (sM Z Z (sM Z Z (sV Z (aE wm Z) (sV Z (aD Z Z) (aa (az Z (fun c1 => ?_) (fun c1 => ?_))))))))
 ·refine ak (ah (au ?_));obtain ⟨hg, hg2⟩ := dv hl k (by omega);obtain ⟨eb1, eo1, es1, ef1, ee1, ec1, eO1, eH1, em1⟩ := aY (H2.seen 0 Z) k (by omega);obtain ⟨ea1, ek1, eg1, rfl, eq1, eK1, eo2⟩ := ce eO1;have eP1 := H2.look1 0 Z eo2 (fun b hb => eH1 b (by rw [eq1]; simp [hb]));have eL1 := oL eo2;obtain ⟨eb2, eo3, ee2⟩ := dU (eP1.mine 0 Z) k (by rw [gA (xs := xs) (k := k) (by omega)]; omega);refine ao (sM Z Z (sM Z Z (sM Z Z (sM Z Z (sV Z (ax wm Am Z Z ee1 k (by omega) (by omega)) (sV Z (an vj Z Am Z Z ec1) (ay (wn Z) Z Z (aj Tryz.func137 Z xo Z) (pO (by assumption) (eP1.sees 1 Z) (by assumption)) (fun v1 w3 r1 => ?_))))))));obtain ⟨e2, sa1, sk1, rfl, r1⟩ := r1;obtain ⟨fp1, H3⟩ := eP1.res e2 r1;refine sV Z (ax bW cn Z Z ee2 k (by omega) (by omega)) (og (wn Z) cn H3 0 1 Z Z Z k (by rw [gA (xs := xs) (k := k) (by omega)]; omega) Z ee2 Z (fun w4 fp2 H4 => ?_));refine aa ?_;obtain ⟨hg, hg2⟩ := dv hl k (by omega);refine ao (sM Z Z (sV Z (aB Z Z iO) (sA Z Z (aa (⟨(k + 1, _), ⟨Z, Z, Z, trivial⟩, ⟨nl (xs := xs) (k := k) (d := default) (by omega) ▸ ((H4.ftake 1).dtake 1), by omega⟩, by dsimp only; omega⟩)))))
 ·refine aN (ag (sM Z Z (sA Z Z (aa (rT hQ Tryz.results65 Z ?_)))));obtain rfl : k = xs.length := by omega
  exact ⟨H2.ext, by
   have h := H2.out 0 Z
   rwa [ne] at h⟩
theorem oz {w : World} {xs : List Tape} {xsA : Option Addr} {xsC : Nat} {ys : List Tape} {ysA : Option Addr} {ysC : Nat} (xsS : Sees w [.slice xsA xs.length xsC] xs) (ysS : Sees w [.slice ysA ys.length ysC] ys) : Ret Tryz.prog 74 #[.slice xsA xs.length xsC, .slice ysA ys.length ysC] w fun v w' => Ext No w w' ∧ (v = .bool (decide (xs = ys))) := by
 have xsL := sL xsS;obtain ⟨xsF, xsO⟩ := xsS;have ysL := sL ysS;obtain ⟨ysF, ysO⟩ := ysS;refine aF (vs := [.slice xsA xs.length xsC, .slice ysA ys.length ysC]) Tryz.func74 Z Tryz.ntmps74 Z (fun Q hQ hN => ?_);have H0 := Sep.start (w := w) (F := [seen false [.slice xsA xs.length xsC] xs xsF, seen false [.slice ysA ys.length ysC] ys ysF]) (all_cons xsO (all_cons ysO (by simp)));refine ag (sA Z Z (aa (ah (ag (sM Z Z (sV Z (aE bW Z) (sM Z Z (sV Z (aE bW Z) (sV Z (aU Z Z) (aa (az Z (fun c1 => ?_) (fun c1 => ?_))))))))))))
 ·refine ag (sA Z Z (aa (rT hQ Tryz.results74 Z (⟨H0.ext, ?_⟩))));rw [decide_eq_false (fun e => by subst e; exact c1 rfl)]
 ·refine ak (ah (ag (sA Z Z (aa (au (bk (γ := Nat) (fun k => [(0, .slice xsA xs.length xsC), (1, .slice ysA ys.length ysC), (5, .int .i64 k)]) (fun k w' => Sep No w [] [seen false [.slice xsA xs.length xsC] xs xsF, seen false [.slice ysA ys.length ysC] ys ysF] w' ∧ k ≤ xs.length ∧ (∀ i, i < k → xs.getD i default = ys.getD i default)) (fun k => xs.length - k) 0 ⟨Z, Z, Z, trivial⟩ ⟨H0, by omega, fun i hi => by omega⟩ (fun k w1 H1 => ?_)))))));obtain ⟨H1, hk, he⟩ := H1;refine ah (ag (sM Z Z (sM Z Z (sV Z (aE bW Z) (sV Z (aD Z Z) (aa (az Z (fun c2 => ?_) (fun c2 => ?_))))))))
  ·refine ak (ah (au (ah ?_)));obtain ⟨eb1, eo1, es1, ef1, ee1, ec1, eO1, eH1, em1⟩ := aY (H1.seen 0 Z) k (by omega);obtain ⟨ea1, ek1, eg1, rfl, eq1, eK1, eo2⟩ := ce eO1;have eP1 := H1.look1 0 Z eo2 (fun b hb => eH1 b (by rw [eq1]; simp [hb]));have eL1 := oL eo2;obtain ⟨eb2, eo3, es2, ef2, ee2, ec2, eO2, eH2, em2⟩ := aY (eP1.seen 1 Z) k (by omega);obtain ⟨ea2, ek2, eg2, rfl, eq2, eK2, eo4⟩ := ce eO2;have eP2 := eP1.look1 1 Z eo4 (fun b hb => eH2 b (by rw [eq2]; simp [hb]));have eL2 := oL eo4;refine bE (S := Ext No _) (oQ [1,3,5,7,9,11,13,15,16,18]) (by kernel_rfl) (by kernel_rfl) (by kernel_rfl) Z (fun _ => Ext.refl.drawn _) (fun q1 => ?_);have H2 := eP2.drawn q1;refine dM Z Z Z (dM Z Z Z (dV Z Z (fun zw hx => ax bW cn Z Z ee1 k (by omega) (by omega)) (dV Z Z (fun zw hx => an cb Z cn Z Z (hx.at ec1)) (dM Z Z Z (dM Z Z Z (dV Z Z (fun zw hx => ax bW cn Z Z ee2 k (by omega) (by omega)) (dV Z Z (fun zw hx => an cb Z cn Z Z (hx.at ec2)) (aM Z (wn Z) Z Z (aj Tryz.func147 Z yD Z) (pV (by assumption) (H2.sees 2 Z) (by assumption) (H2.sees 3 Z)) (fun hS _ _ r _ => hS.trans r.1.no) (fun v1 w2 r1 => ?_)))))))));obtain ⟨e1, rfl⟩ := r1;have H3 := H2.to e1;refine aS Z (wn Z) Z Z (bb Z) (aT (bP Z (fun c3 => ?_) (fun c3 => ?_)))
   ·refine ag (sA Z Z (aa (rT hQ Tryz.results74 Z (⟨H3.ext, ?_⟩))));rw [decide_eq_false (fun e => by subst e; simp at c3)]
   ·refine ak (ao (sM Z Z (sV Z (aB Z Z iO) (sA Z Z (aa ?_)))));have c4 : xs.getD k default = ys.getD k default := by simpa using c3
    refine ⟨k + 1, ⟨Z, Z, Z, trivial⟩, ⟨(H3.ftake 2), by omega, fun i hi => ?_⟩, by dsimp only; omega⟩
    by_cases e : i = k
    ·subst e; exact c4
    ·exact he i (by omega)
  ·refine aN (ag (sA Z Z (aa (rT hQ Tryz.results74 Z (⟨H1.ext, ?_⟩)))));rw [decide_eq_true (dg (d := default) (by omega) fun i hi => he i (by omega))]
theorem po {w : World} {x : Wld} {xA9 xA10 xA11 : Option Addr} {xC9 xC10 xC11 : Nat} {l : Int} (xK : x.Ok) (xS9 : Sees w [.slice xA9 x.Groups.length xC9] x.Groups) (xS10 : Sees w [.slice xA10 x.On.length xC10] x.On) (xS11 : Sees w [.slice xA11 x.Tapes.length xC11] x.Tapes) (hl : -1 ≤ l ∧ l ≤ 1048576) : Ret Tryz.prog 15 #[x.val xA9 xC9 xA10 xC10 xA11 xC11, .int .i64 l] w fun v w' => Ext No w w' ∧ (v = .int .i64 (if l - fJ x < 0 then -1 else l - fJ x)) := by
 have xK2 := xK;unfold Wld.Ok Shape.Ok at xK2
 try unfold I64ok at xK2
 try unfold maxLen at xK2
 have xL9 := sL xS9;obtain ⟨xF9, xO9⟩ := xS9;have xL10 := sL xS10;obtain ⟨xF10, xO10⟩ := xS10;have xL11 := sL xS11;obtain ⟨xF11, xO11⟩ := xS11;refine aF (vs := [x.val xA9 xC9 xA10 xC10 xA11 xC11, .int .i64 l]) Tryz.func15 Z Tryz.ntmps15 Z (fun Q hQ hN => ?_);have H0 := Sep.start (w := w) (F := [seen false [.slice xA9 x.Groups.length xC9] x.Groups xF9, seen false [.slice xA10 x.On.length xC10] x.On xF10, seen false [.slice xA11 x.Tapes.length xC11] x.Tapes xF11]) (all_cons xO9 (all_cons xO10 (all_cons xO11 (by simp))));refine ag (be (wn Z) Z Z H0 (fun b1 w1 e1 g1 H1 => ?_));refine sA Z Z (aa (ag (sV Z (ab nF Z Fk Z Z) (sV Z (ac wt Z Z (ae (H1.box 0 Z) Z)) (sM Z Z (ay (wn Z) Z Z (aj Tryz.func55 Z Bm Z) (mx (H1.sees 0 Z) (by omega)) (fun v1 w2 r1 => ?_)))))));obtain ⟨e2, rfl⟩ := r1;have H2 := H1.to e2;refine sA Z Z (aa (ah (ag (sM Z Z (sV Z (aD Z Z) (aa (az Z (fun c1 => ?_) (fun c1 => ?_))))))))
 ·refine ag (sA Z Z (aa (rT hQ Tryz.results15 Z ?_)));exact ⟨H2.ext, congrArg (Value.int .i64) (by unfold fJ; omega)⟩
 ·refine ak (ag (sV Z (ab nF Z bV Z Z) (sV Z (ac br Z Z (ae (H2.box 0 Z) Z)) (sM Z Z (ay (wn Z) Z Z (aj Tryz.func56 Z uc Z) (ja (H2.sees 1 Z) (by omega)) (fun v2 w3 r2 => ?_))))));obtain ⟨e3, rfl⟩ := r2;have H3 := H2.to e3;refine sA Z Z (aa (ah (ag (sM Z Z (sV Z (aD Z Z) (aa (az Z (fun c2 => ?_) (fun c2 => ?_))))))))
  ·refine ag (sA Z Z (aa (rT hQ Tryz.results15 Z ?_)));exact ⟨H3.ext, congrArg (Value.int .i64) (by unfold fJ; omega)⟩
  ·refine ak (ag (sV Z (ab nF Z Fg Z Z) (sV Z (ac wm Z Z (ae (H3.box 0 Z) Z)) (sM Z Z (ay (wn Z) Z Z (aj Tryz.func57 Z Bf Z) (pn (H3.sees 2 Z) (by omega)) (fun v3 w4 r3 => ?_))))));obtain ⟨e4, rfl⟩ := r3;have H4 := H3.to e4;refine sA Z Z (aa (ah (ag (sM Z Z (sV Z (aD Z Z) (aa (az Z (fun c3 => ?_) (fun c3 => ?_))))))))
   ·refine ag (sA Z Z (aa (rT hQ Tryz.results15 Z ?_)));exact ⟨H4.ext, congrArg (Value.int .i64) (by unfold fJ; omega)⟩
   ·refine ak (ag (sM Z Z (sA Z Z (aa (rT hQ Tryz.results15 Z ?_)))));exact ⟨H4.ext, congrArg (Value.int .i64) (by unfold fJ; omega)⟩
theorem eQ {w : World} {x : Wld} {xA9 xA10 xA11 : Option Addr} {xC9 xC10 xC11 : Nat} (xK : x.Ok) (xS9 : Sees w [.slice xA9 x.Groups.length xC9] x.Groups) (xS10 : Sees w [.slice xA10 x.On.length xC10] x.On) (xS11 : Sees w [.slice xA11 x.Tapes.length xC11] x.Tapes) (hb : fJ x ≤ 1048576) : Ret Tryz.prog 17 #[x.val xA9 xC9 xA10 xC10 xA11 xC11] w fun v w' => Ext No w w' ∧ (∃ A9 C9 A10 C10 A11 C11, v = x.val A9 C9 A10 C10 A11 C11 ∧ Res w w' [.int .i64 x.Shape.Groups, .int .i64 x.Shape.Column, .int .i64 x.Shape.Data, .int .i64 x.Shape.Spare, .int .i64 x.Shape.Rows, .int .i64 x.Shape.Cap, .int .i64 x.Shape.Batch, .int .i64 x.Shape.Queue, .int .i64 x.Shape.Stage, .slice A9 x.Groups.length C9, .slice A10 x.On.length C10, .slice A11 x.Tapes.length C11, .int .i64 x.Writes, .int .i64 x.Stop, .bool x.Down] x) := by
 have xK2 := xK;unfold Wld.Ok Shape.Ok at xK2
 try unfold I64ok at xK2
 try unfold maxLen at xK2
 have xL9 := sL xS9;obtain ⟨xF9, xO9⟩ := xS9;have xL10 := sL xS10;obtain ⟨xF10, xO10⟩ := xS10;have xL11 := sL xS11;obtain ⟨xF11, xO11⟩ := xS11;unfold fJ at hb;refine aF (vs := [x.val xA9 xC9 xA10 xC10 xA11 xC11]) Tryz.func17 Z Tryz.ntmps17 Z (fun Q hQ hN => ?_);have H0 := Sep.start (w := w) (F := [seen false [.slice xA9 x.Groups.length xC9] x.Groups xF9, seen false [.slice xA10 x.On.length xC10] x.On xF10, seen false [.slice xA11 x.Tapes.length xC11] x.Tapes xF11]) (all_cons xO9 (all_cons xO10 (all_cons xO11 (by simp))));refine ag (be (wn Z) Z Z H0 (fun b1 w1 e1 g1 H1 => ?_));refine bZ (wn Z) Z Tryz.zeroValue34 H1 (fun b2 w2 e2 g2 H2 => ?_);refine aa (ag (bZ (wn Z) Z Tryz.zeroValue34 H2 (fun b3 w3 e3 g3 H3 => ?_)));refine aa (ag (sV Z (ab nF Z E8 Z Z) (sV Z (an tJ Z E8 Z Z (At.sub (H3.box 0 Z) 9)) (ay (wn Z) Z Z (aj Tryz.func62 Z Ay Z) pm (fun v1 w4 r1 => ?_)))));obtain ⟨e4, rfl⟩ := r1;have H4 := H3.to e4;refine sV Z (ab aV Z bQ Z Z) (bf (wn Z) bQ Z Z Z Z H4 2 Z Z (fun w5 e5 H5 => ?_));dsimp only[lNA,lCA,lSZ,lSS,aO] at H5;refine aa (ag (sV Z (ab nF Z Fk Z Z) (sV Z (ac wt Z Z (ae (H5.box 0 Z) Z)) (ay (wn Z) Z Z (aj Tryz.func63 Z Bt Z) (mm (H5.sees 0 Z) (by first | assumption | omega)) (fun v2 w6 r2 => ?_)))));obtain ⟨e6, r2⟩ := r2;obtain ⟨fp1, H6⟩ := H5.res e6 r2;obtain ⟨a1, k1, q1⟩ := aA (H6.mine 3 Z);cases q1;refine sV Z (ab aV Z fG Z Z) (bT (wn Z) fG Z Z Z H6 2 Z Z (fun w7 e7 H7 => ?_));dsimp only[lNA,lCA,lSZ,lSS,aO] at H7;refine aa (ag (sV Z (ab nF Z bV Z Z) (sV Z (ac br Z Z (ae (H7.box 0 Z) Z)) (ay (wn Z) Z Z (aj Tryz.func64 Z uP Z) (iZ (H7.sees 1 Z) (by omega)) (fun v3 w8 r3 => ?_)))));obtain ⟨e8, r3⟩ := r3;obtain ⟨fp2, H8⟩ := H7.res e8 r3;obtain ⟨a2, k2, q2⟩ := aA (H8.mine 4 Z);cases q2;refine sV Z (ab aV Z bV Z Z) (bT (wn Z) bV Z Z Z H8 2 Z Z (fun w9 e9 H9 => ?_));dsimp only[lNA,lCA,lSZ,lSS,aO] at H9;refine aa (ag (sV Z (ab nF Z Fg Z Z) (sV Z (ac wm Z Z (ae (H9.box 0 Z) Z)) (ay (wn Z) Z Z (aj Tryz.func65 Z Bi Z) (nN (H9.sees 2 Z) (by first | assumption | omega)) (fun v4 w10 r4 => ?_)))));obtain ⟨e10, r4⟩ := r4;obtain ⟨fp3, H10⟩ := H9.res e10 r4;obtain ⟨a3, k3, q3⟩ := aA (H10.mine 5 Z);cases q3;refine sV Z (ab aV Z dy Z Z) (bT (wn Z) dy Z Z Z H10 2 Z Z (fun w11 e11 H11 => ?_));dsimp only[lNA,lCA,lSZ,lSS,aO] at H11;refine aa (ag (sV Z (ab nF Z ts2 Z Z) (sV Z (ac tu2 Z Z (ae (H11.box 0 Z) Z)) (sV Z (ab aV Z ts2 Z Z) (bT (wn Z) ts2 Z Z Z H11 2 Z Z (fun w12 e12 H12 => ?_))))));dsimp only[lNA,lCA,lSZ,lSS,aO] at H12;refine aa (ag (sV Z (ab nF Z ts2 Z Z) (sV Z (ac tu2 Z Z (ae (H12.box 0 Z) Z)) (sV Z (ab aV Z ts2 Z Z) (bT (wn Z) ts2 Z Z Z H12 2 Z Z (fun w13 e13 H13 => ?_))))));dsimp only[lNA,lCA,lSZ,lSS,aO] at H13;refine aa (ag (sV Z (ab nF Z ts4 Z Z) (sV Z (ac tu4 Z Z (ae (H13.box 0 Z) Z)) (sV Z (ab aV Z ts4 Z Z) (bT (wn Z) ts4 Z Z Z H13 2 Z Z (fun w14 e14 H14 => ?_))))));dsimp only[lNA,lCA,lSZ,lSS,aO] at H14;refine aa (ag (sV Z (an aV Z dk Z Z (At.whole (H14.box 2 Z))) (bf (wn Z) dk Z Z Z Z H14 1 Z Z (fun w15 e15 H15 => ?_))));dsimp only[lNA,lCA,lSZ,lSS,aO] at H15;refine aa (bJ (hQ _ _ (dr Tryz.results17 Z (aL aV Z dk Z (At.whole (H15.box 1 Z))) ?_)));exact ⟨H15.ext, _, _, _, _, _, _, Z, Wld.out (H15.sub (.cons _ (.cons _ (.cons _ (.cons_cons _ (.cons_cons _ (.cons_cons _ List.Sublist.slnil))))))) xK⟩
theorem jE {w : World} {a b : Wld} {aA9 aA10 aA11 bA9 bA10 bA11 : Option Addr} {aC9 aC10 aC11 bC9 bC10 bC11 : Nat} (aK : a.Ok) (aS9 : Sees w [.slice aA9 a.Groups.length aC9] a.Groups) (aS10 : Sees w [.slice aA10 a.On.length aC10] a.On) (aS11 : Sees w [.slice aA11 a.Tapes.length aC11] a.Tapes) (bK : b.Ok) (bS9 : Sees w [.slice bA9 b.Groups.length bC9] b.Groups) (bS10 : Sees w [.slice bA10 b.On.length bC10] b.On) (bS11 : Sees w [.slice bA11 b.Tapes.length bC11] b.Tapes) : Ret Tryz.prog 20 #[a.val aA9 aC9 aA10 aC10 aA11 aC11, b.val bA9 bC9 bA10 bC10 bA11 bC11] w fun v w' => Ext No w w' ∧ (v = .bool (decide (a = b))) := by
 have aK2 := aK;unfold Wld.Ok Shape.Ok at aK2
 try unfold I64ok at aK2
 try unfold maxLen at aK2
 have aL9 := sL aS9;obtain ⟨aF9, aO9⟩ := aS9;have aL10 := sL aS10;obtain ⟨aF10, aO10⟩ := aS10;have aL11 := sL aS11;obtain ⟨aF11, aO11⟩ := aS11;have bK2 := bK;unfold Wld.Ok Shape.Ok at bK2
 try unfold I64ok at bK2
 try unfold maxLen at bK2
 have bL9 := sL bS9;obtain ⟨bF9, bO9⟩ := bS9;have bL10 := sL bS10;obtain ⟨bF10, bO10⟩ := bS10;have bL11 := sL bS11;obtain ⟨bF11, bO11⟩ := bS11;refine aF (vs := [a.val aA9 aC9 aA10 aC10 aA11 aC11, b.val bA9 bC9 bA10 bC10 bA11 bC11]) Tryz.func20 Z Tryz.ntmps20 Z (fun Q hQ hN => ?_);have H0 := Sep.start (w := w) (F := [seen false [.slice aA9 a.Groups.length aC9] a.Groups aF9, seen false [.slice aA10 a.On.length aC10] a.On aF10, seen false [.slice aA11 a.Tapes.length aC11] a.Tapes aF11, seen false [.slice bA9 b.Groups.length bC9] b.Groups bF9, seen false [.slice bA10 b.On.length bC10] b.On bF10, seen false [.slice bA11 b.Tapes.length bC11] b.Tapes bF11]) (all_cons aO9 (all_cons aO10 (all_cons aO11 (all_cons bO9 (all_cons bO10 (all_cons bO11 (by simp)))))));refine ag (be (wn Z) Z Z H0 (fun b1 w1 e1 g1 H1 => ?_));refine be (wn Z) Z Z H1 (fun b2 w2 e2 g2 H2 => ?_);refine sA Z Z (aa (ah (ag (sV Z (ab aV Z bQ Z Z) (sV Z (an bq Z bQ Z Z (At.sub (H2.box 0 Z) 9)) (sV Z (ab aV Z bQ Z Z) (sV Z (an bq Z bQ Z Z (At.sub (H2.box 1 Z) 9)) (ay (wn Z) Z Z (aj Tryz.func71 Z Bj Z) nO (fun v1 w3 r1 => ?_)))))))));obtain ⟨e3, rfl⟩ := r1;have H3 := H2.to e3;refine sV Z (bb Z) (aa (bP Z (fun c1 => ?_) (fun c1 => ?_)))
 ·refine ag (sA Z Z (aa (rT hQ Tryz.results20 Z (⟨H3.ext, ?_⟩))));rw [decide_eq_false (fun e => by subst e; first | exact c1 rfl | simp at c1)]
 ·refine ak (ah (ag (sV Z (ab aV Z fG Z Z) (sV Z (ac di Z Z (ae (H3.box 0 Z) Z)) (sV Z (ab aV Z fG Z Z) (sV Z (ac di Z Z (ae (H3.box 1 Z) Z)) (ay (wn Z) Z Z (aj Tryz.func72 Z Bo Z) (ms (H3.sees 0 Z) (H3.sees 3 Z)) (fun v2 w4 r2 => ?_))))))));obtain ⟨e4, rfl⟩ := r2;have H4 := H3.to e4;refine sV Z (bb Z) (aa (bP Z (fun c2 => ?_) (fun c2 => ?_)))
  ·refine ag (sA Z Z (aa (rT hQ Tryz.results20 Z (⟨H4.ext, ?_⟩))));rw [decide_eq_false (fun e => by subst e; first | exact c2 rfl | simp at c2)]
  ·refine ak (ah (ag (sV Z (ab aV Z bV Z Z) (sV Z (ac br Z Z (ae (H4.box 0 Z) Z)) (sV Z (ab aV Z bV Z Z) (sV Z (ac br Z Z (ae (H4.box 1 Z) Z)) (ay (wn Z) Z Z (aj Tryz.func73 Z un Z) (jg (H4.sees 1 Z) (H4.sees 4 Z)) (fun v3 w5 r3 => ?_))))))));obtain ⟨e5, rfl⟩ := r3;have H5 := H4.to e5;refine sV Z (bb Z) (aa (bP Z (fun c3 => ?_) (fun c3 => ?_)))
   ·refine ag (sA Z Z (aa (rT hQ Tryz.results20 Z (⟨H5.ext, ?_⟩))));rw [decide_eq_false (fun e => by subst e; first | exact c3 rfl | simp at c3)]
   ·refine ak (ah (ag (sV Z (ab aV Z dy Z Z) (sV Z (ac bW Z Z (ae (H5.box 0 Z) Z)) (sV Z (ab aV Z dy Z Z) (sV Z (ac bW Z Z (ae (H5.box 1 Z) Z)) (ay (wn Z) Z Z (aj Tryz.func74 Z AW Z) (oz (H5.sees 2 Z) (H5.sees 5 Z)) (fun v4 w6 r4 => ?_))))))));obtain ⟨e6, rfl⟩ := r4;have H6 := H5.to e6;refine sV Z (bb Z) (aa (bP Z (fun c4 => ?_) (fun c4 => ?_)))
    ·refine ag (sA Z Z (aa (rT hQ Tryz.results20 Z (⟨H6.ext, ?_⟩))));rw [decide_eq_false (fun e => by subst e; first | exact c4 rfl | simp at c4)]
    ·refine ak (ah (ag (sV Z (ab aV Z ts2 Z Z) (sV Z (ac tu2 Z Z (ae (H6.box 0 Z) Z)) (sV Z (ab aV Z ts2 Z Z) (sV Z (ac tu2 Z Z (ae (H6.box 1 Z) Z)) (sV Z (aU Z Z) (aa (az Z (fun c5 => ?_) (fun c5 => ?_))))))))))
     ·refine ag (sA Z Z (aa (rT hQ Tryz.results20 Z (⟨H6.ext, ?_⟩))));rw [decide_eq_false (fun e => by subst e; first | exact c5 rfl | simp at c5)]
     ·refine ak (ah (ag (sV Z (ab aV Z ts2 Z Z) (sV Z (ac tu2 Z Z (ae (H6.box 0 Z) Z)) (sV Z (ab aV Z ts2 Z Z) (sV Z (ac tu2 Z Z (ae (H6.box 1 Z) Z)) (sV Z (aU Z Z) (aa (az Z (fun c6 => ?_) (fun c6 => ?_))))))))))
      ·refine ag (sA Z Z (aa (rT hQ Tryz.results20 Z (⟨H6.ext, ?_⟩))));rw [decide_eq_false (fun e => by subst e; first | exact c6 rfl | simp at c6)]
      ·refine ak (ah (ag (sV Z (ab aV Z ts4 Z Z) (sV Z (ac tu4 Z Z (ae (H6.box 0 Z) Z)) (sV Z (ab aV Z ts4 Z Z) (sV Z (ac tu4 Z Z (ae (H6.box 1 Z) Z)) (sV Z (oT tu4 Z Z) (aa (bP Z (fun c7 => ?_) (fun c7 => ?_))))))))))
       ·refine ag (sA Z Z (aa (rT hQ Tryz.results20 Z (⟨H6.ext, ?_⟩))));rw [decide_eq_false (fun e => by subst e; first | exact c7 rfl | simp at c7)]
       ·refine ak (ag (sA Z Z (aa (rT hQ Tryz.results20 Z (⟨H6.ext, ?_⟩)))));rw [decide_eq_true];cases a; cases b; simp_all [iI]
end Go.Wk
namespace Go.Wk
open Rp (sz own)
def apartAt (xs : List Int) (m : Int) (i : Nat) : Bool := ins (xs.getD i 0) 0 m && !decide (xs.getD i 0 ∈ xs.take i)
def apartL (xs : List Int) (m : Int) : Bool := (List.range xs.length).all (apartAt xs m)
theorem iN {n : Nat} {p : Nat → Bool} (h : ∀ i, i < n → p i = true) : (List.range n).all p = true := by
  rw [List.all_eq_true]; exact fun i hi => h i (by simpa using hi)
theorem qZ {n : Nat} {p : Nat → Bool} (h : (List.range n).all p = true) (i : Nat) (hi : i < n) : p i = true := by
  rw [List.all_eq_true] at h; exact h i (by simpa using hi)
theorem kQ {n : Nat} {p : Nat → Bool} (i : Nat) (hi : i < n) (h : p i = false) : (List.range n).all p = false := by
  cases hr : (List.range n).all p with
  | false => rfl
  | true => rw [qZ hr i hi] at h; cases h
def fl (s : Shape) (len : Int) : Int := (len - 1).tdiv (s.Data * 4) + 1
def dZ (s : Shape) (len : Int) : Int := if len < 1 then 6 else if 3 * (s.Data * 4) < len then 2 else 0
def gV (s : Shape) (r : Rec) : Bool :=
  if r.Length = -1 then decide (r.Data.length = 0) && decide (r.Rows.length = 0)
  else decide (dZ s r.Length = 0) && if 0 < r.Data.length then decide ((r.Data.length : Int) = r.Length) && decide (r.Rows.length = 0) else decide ((r.Rows.length : Int) = fl s r.Length) && apartL r.Rows (s.Rows - 1)
def weightsOK (s : Shape) (r : Rec) : Bool :=
  decide ((r.Delta.length : Int) = s.Groups + s.Column) && decide (((r.Delta.getD r.Group.toNat 0).toNat : Int) = 0) && (List.range r.Rows.length).all fun i => decide (¬ ((r.Delta.getD (r.Rows.getD i 0).toNat 0).toNat : Int) = 0)
def dN (s : Shape) (r : Rec) : Bool :=
  ins r.Group 0 (s.Groups + s.Column - 1) && ins r.Row 0 (s.Rows - 1) && rises r.Rows (s.Groups + s.Column - 1) && decide ((r.Data.length : Int) = s.Data * 4) && weightsOK s r
def gE (s : Shape) (r : Rec) : Bool := ins r.Group 0 (s.Groups - 1) && ins r.Row 0 (s.Rows - 1) && decide ((r.Data.length : Int) = s.Data * 4) && decide ((r.Delta.length : Int) = s.Data * 4)
def noName (r : Rec) : Bool := decide (r.Name = ⟨#[]⟩)
def bareOK (r : Rec) : Bool :=
  if r.Kind = 1 then decide (r.Group = 0) && decide (r.Row = 0) && decide (r.Delta.length = 0)
  else if r.Kind = 2 then noName r && decide (r.Length = 0) && decide (r.Rows.length = 0)
  else if r.Kind = 3 then noName r && decide (r.Length = 0) && decide (r.Row = 0) && decide (r.Rows.length = 0) && decide (r.Data.length = 0) && decide (r.Delta.length = 0)
  else noName r && decide (r.Length = 0)
def fq (s : Shape) (r : Rec) : Int :=
  if r.Kind = 1 then if cT r.Name ≠ 0 then cT r.Name else if gV s r then 0 else 3
  else if r.Kind = 2 then if gE s r then 0 else 3
  else if r.Kind = 3 then if ins r.Group 0 (s.Groups + s.Column - 1) then 0 else 3
  else if dN s r then 0 else 3
def iB (s : Shape) (r : Rec) : Int :=
  if ins r.Kind 1 4 then if ins r.Seq 1 1000000000 then if fq s r ≠ 0 then fq s r else if bareOK r then 0 else 1 else 3 else 5
def eH (b : Block) : Bool := ins b.Stamp 0 1000000000 && decide (b.Bytes.length = 4)
def ep (s : Shape) (d : Drive) : Bool := decide ((d.Blocks.length : Int) = s.Rows) && (List.range d.Blocks.length).all fun i => eH (d.Blocks.getD i default)
def fN (s : Shape) (g : List Drive) : Bool := decide ((g.length : Int) = s.Data + s.Spare) && (List.range g.length).all fun i => ep s (g.getD i default)
def cw (w : Wld) : Bool := decide ((w.Groups.length : Int) = w.Shape.Groups + w.Shape.Column) && (List.range w.Groups.length).all fun i => fN w.Shape (w.Groups.getD i [])
def s9 (w : Wld) : Bool := apartL w.On (w.Shape.Groups + w.Shape.Column - 1) && decide ((w.On.length : Int) ≤ w.Shape.Cap) && (decide (w.On.length = 0) || !w.Down)
def eB (s : Shape) (rs : List Rec) : Nat → Int
  | 0 => 0
  | k + 1 => if eB s rs k ≠ 0 then eB s rs k else iB s (rs.getD k default)
def en (s : Shape) (ts : List Tape) : Nat → Int
  | 0 => 0
  | k + 1 => if en s ts k ≠ 0 then en s ts k else eB s (ts.getD k default).Recs (ts.getD k default).Recs.length
def cQ (t : Tape) : Bool := decide ((200 : Int) < t.Recs.length)
def dw (t : Tape) : Bool := t.Wiped && decide ((0 : Int) < t.Recs.length)
def fg (w : Wld) : Int :=
  if w.Tapes.any cQ then 2 else if en w.Shape w.Tapes w.Tapes.length ≠ 0 then en w.Shape w.Tapes w.Tapes.length else if w.Tapes.any dw then 1 else 0
def worldF (w : Wld) : Int :=
  if w.Shape.fault ≠ 0 then w.Shape.fault
  else if cw w && s9 w && decide (w.Tapes.length = 2) then if fg w ≠ 0 then fg w else if ins w.Writes 0 1000000000 && ins w.Stop (-1) 1000000000 then 0 else 3
  else 1
end Go.Wk
namespace Go.Wk
open Rp (sz own)
section
variable {s : Shape} {len : Int}
theorem t0 (hd : 1 ≤ s.Data ∧ s.Data ≤ 3) (h : 1 ≤ len) : 3 < (len - 1).tdiv (s.Data * 4) + 1 ↔ 3 * (s.Data * 4) < len := by
  rw [Int.tdiv_eq_ediv_of_nonneg (by omega)]
  have : s.Data = 1 ∨ s.Data = 2 ∨ s.Data = 3 := by omega
  rcases this with e | e | e <;> rw [e] <;> omega
theorem uK (hd : 1 ≤ s.Data ∧ s.Data ≤ 3) (h : 1 ≤ len) : (len + s.Data * 4 - 1).tdiv (s.Data * 4) = fl s len := by
  rw [fl, Int.tdiv_eq_ediv_of_nonneg (by omega), Int.tdiv_eq_ediv_of_nonneg (by omega)]
  have : s.Data = 1 ∨ s.Data = 2 ∨ s.Data = 3 := by omega
  rcases this with e | e | e <;> rw [e] <;> omega
theorem vH (hd : 1 ≤ s.Data ∧ s.Data ≤ 3) (h : 1 ≤ len) : 0 ≤ (len - 1).tdiv (s.Data * 4) ∧ (len - 1).tdiv (s.Data * 4) < len := by
  rw [Int.tdiv_eq_ediv_of_nonneg (by omega)]
  have : s.Data = 1 ∨ s.Data = 2 ∨ s.Data = 3 := by omega
  rcases this with e | e | e <;> rw [e] <;> omega
def kL (s : Shape) (len : Int) : Int := if dZ s len = 0 then fl s len else 0
theorem wF (h : len < 1) : dZ s len = 6 ∧ kL s len = 0 := by
  have : dZ s len = 6 := by rw [dZ, if_pos h]
  exact ⟨this, by rw [kL, this]; rfl⟩
theorem uN (h : ¬ len < 1) (h2 : 3 * (s.Data * 4) < len) : dZ s len = 2 ∧ kL s len = 0 := by
  have : dZ s len = 2 := by rw [dZ, if_neg h, if_pos h2]
  exact ⟨this, by rw [kL, this]; rfl⟩
theorem zZ (h : ¬ len < 1) (h2 : ¬ 3 * (s.Data * 4) < len) : dZ s len = 0 ∧ kL s len = fl s len := by
  have : dZ s len = 0 := by rw [dZ, if_neg h, if_neg h2]
  exact ⟨this, by rw [kL, if_pos this]⟩
theorem tY (h : dZ s len = 0) : 1 ≤ len ∧ ¬ 3 * (s.Data * 4) < len := by
  unfold dZ at h
  split at h
  · cases h
  · split at h
    · cases h
    · exact ⟨by omega, by omega⟩
end
theorem kl {n : Nat} {p : Nat → Bool} : (List.range (n + 1)).all p = ((List.range n).all p && p n) := by
  rw [List.range_succ, List.all_append]; simp
theorem eM {α : Type} {xs : List α} {i : Nat} : cut xs 0 i = xs.take i := by simp [cut]
theorem ny {s : Shape} {rs : List Rec} {j : Nat} (h : eB s rs j ≠ 0) : ∀ m, j ≤ m → eB s rs m = eB s rs j := by
  intro m hm
  induction m with
  | zero => rw [show j = 0 by omega]
  | succ m ih =>
    by_cases e : j = m + 1
    · rw [e]
    · have ih := ih (by omega)
      rw [eB, if_pos (by rw [ih]; exact h), ih]
theorem jc {s : Shape} {rs : List Rec} {j : Nat} (h : eB s rs j = 0) : eB s rs (j + 1) = iB s (rs.getD j default) := by rw [eB, if_neg (by omega)]
theorem AS {s : Shape} {rs : List Rec} {j : Nat} (hj : j < rs.length) (h : eB s rs j = 0) (hr : iB s (rs.getD j default) ≠ 0) : eB s rs rs.length = iB s (rs.getD j default) := by
  have e := jc h
  rw [ny (j := j + 1) (by rw [e]; exact hr) _ (by omega), e]
theorem nw {s : Shape} {ts : List Tape} {j : Nat} (h : en s ts j ≠ 0) : ∀ m, j ≤ m → en s ts m = en s ts j := by
  intro m hm
  induction m with
  | zero => rw [show j = 0 by omega]
  | succ m ih =>
    by_cases e : j = m + 1
    · rw [e]
    · have ih := ih (by omega)
      rw [en, if_pos (by rw [ih]; exact h), ih]
theorem iW {s : Shape} {ts : List Tape} {j : Nat} (h : en s ts j = 0) : en s ts (j + 1) = eB s (ts.getD j default).Recs (ts.getD j default).Recs.length := by rw [en, if_neg (by omega)]
theorem Bw {s : Shape} {ts : List Tape} {j i : Nat} (hj : j < ts.length) (h : en s ts j = 0) (hi : i < (ts.getD j default).Recs.length) (h2 : eB s (ts.getD j default).Recs i = 0) (hr : iB s ((ts.getD j default).Recs.getD i default) ≠ 0) :
    en s ts ts.length = iB s ((ts.getD j default).Recs.getD i default) := by
  have e := iW h
  rw [AS hi h2 hr] at e
  rw [nw (j := j + 1) (by rw [e]; exact hr) _ (by omega), e]
theorem u6 {α : Type} [Inhabited α] {xs : List α} {p : α → Bool} (k : Nat) (hk : k < xs.length) (h : p (xs.getD k default) = true) : xs.any p = true := by
  rw [List.any_eq_true]
  exact ⟨xs[k], List.getElem_mem hk, by simpa [List.getD, hk] using h⟩
theorem ru {α : Type} [Inhabited α] {xs : List α} {p : α → Bool} (h : ∀ i, i < xs.length → p (xs.getD i default) = false) : xs.any p = false := by
  rw [List.any_eq_false]
  intro x hx
  obtain ⟨i, hi, rfl⟩ := List.getElem_of_mem hx
  have := h i hi
  simpa [List.getD, hi] using this
end Go.Wk
namespace Go.Wk
def upF (w : Wld) : Int := if worldF w ≠ 0 then worldF w else if w.Down = true then 9 else 0
theorem cR {w : Wld} (h : worldF w = 0) : w.Shape.ok = true ∧ cw w = true ∧ s9 w = true ∧ w.Tapes.length = 2 ∧ fg w = 0 := by
  unfold worldF at h
  split at h
  · rename_i h1; exact absurd h h1
  · rename_i h1
    have hs := ib (s := w.Shape) (by omega)
    split at h
    · rename_i h2
      simp only [Bool.and_eq_true, decide_eq_true_eq] at h2
      split at h
      · rename_i h3; exact absurd h h3
      · rename_i h3
        exact ⟨hs, h2.1.1, h2.1.2, h2.2, by omega⟩
    · cases h
theorem jl {w : Wld} (h : upF w = 0) : worldF w = 0 ∧ w.Down = false := by
  unfold upF at h
  split at h
  · rename_i h1; exact absurd h h1
  · split at h
    · cases h
    · rename_i h1 h2
      exact ⟨by omega, by simpa using h2⟩
theorem sf {w : Wld} (h : cw w = true) : (w.Groups.length : Int) = w.Shape.Groups + w.Shape.Column ∧ ∀ g, g < w.Groups.length → ((w.Groups.getD g []).length : Int) = w.Shape.Data + w.Shape.Spare ∧
    ∀ d, d < (w.Groups.getD g []).length → ((((w.Groups.getD g []).getD d default).Blocks.length : Int) = w.Shape.Rows) ∧
      ∀ i, i < ((w.Groups.getD g []).getD d default).Blocks.length → eH (((w.Groups.getD g []).getD d default).Blocks.getD i default) = true := by
  simp only [cw, Bool.and_eq_true, decide_eq_true_eq] at h
  refine ⟨h.1, fun g hg => ?_⟩
  have h2 := qZ h.2 g hg
  simp only [fN, Bool.and_eq_true, decide_eq_true_eq] at h2
  refine ⟨h2.1, fun d hd => ?_⟩
  have h3 := qZ h2.2 d hd
  simp only [ep, Bool.and_eq_true, decide_eq_true_eq] at h3
  exact ⟨h3.1, fun i hi => qZ h3.2 i hi⟩
end Go.Wk
namespace Go.Wk
theorem eqB {a b : Bool} (h : a = b) : some (Value.bool a) = some (Value.bool b) := by rw [h]
def qC (s : Shape) (r : Rec) : Int := if cT r.Name ≠ 0 then cT r.Name else if gV s r = true then 0 else 3
theorem te {s r} (h : cT r.Name ≠ 0) : qC s r = cT r.Name := by rw [qC, if_pos h]
theorem lV {s r} (h : ¬ cT r.Name ≠ 0) (h2 : gV s r = true) : qC s r = 0 := by rw [qC, if_neg h, if_pos h2]
theorem kf {s r} (h : ¬ cT r.Name ≠ 0) (h2 : gV s r = false) : qC s r = 3 := by rw [qC, if_neg h, if_neg (by simp [h2])]
end Go.Wk
namespace Go.Wk
open Rp (sz own)
section
variable {P : Program} {n : Nat} {c : Code} {Q : Post} {L : Env} {w w0 : World} {M : Nat → Prop} {Δ F : List Rsc}
theorem kM {L : Env} : ∀ {A B : Env}, sub L A → sub L B → sub L (A ++ B)
  | [], _, _, h => h
  | _ :: _, _, h, k => ⟨h.1, kM h.2 k⟩
theorem bR {γ : Type} (H : Sep M w0 Δ F w) (E2 : Env) (h2 : sub L E2) (E : γ → Env) (I : γ → Prop) (μ : γ → Nat) (g0 : γ) (hs : sub L (E g0)) (h0 : I g0)
  (round : ∀ g w, Sep M w0 Δ F w → I g → W P n c (again (fun g => E g ++ E2) (fun g w' => Sep M w0 Δ F w' ∧ I g) μ g Q) (E g ++ E2) w) : W P n (.loop c) Q L w :=
 bk (fun g => E g ++ E2) (fun g w' => Sep M w0 Δ F w' ∧ I g) μ g0 (kM hs h2) ⟨H, h0⟩ fun g w h => round g w h.1 h.2
theorem Cz {x y : Code} {γ : Type} (H : Sep M w0 Δ F w) (E2 : Env) (h2 : sub L E2) (E : γ → Env) (I : γ → Prop)
  (h : W P n x (meets (fun g => E g ++ E2) (fun g w' => Sep M w0 Δ F w' ∧ I g) Q) L w)
  (k : ∀ g w', Sep M w0 Δ F w' → I g → W P n y Q (E g ++ E2) w') : W P n (.seq x y) Q L w :=
 CC (fun g => E g ++ E2) (fun g w' => Sep M w0 Δ F w' ∧ I g) h fun g w' hI => k g w' hI.1 hI.2
end
end Go.Wk
namespace Go.Wk
theorem Ai {s : Shape} {r : Rec} {a b c d : Bool} (h1 : r.Length ≠ -1) (h2 : dZ s r.Length = 0) (ea : a = decide ((r.Data.length : Int) = r.Length)) (eb : b = decide ((r.Rows.length : Int) = 0))
    (ec : c = decide ((r.Data.length : Int) = 0)) (ed : d = decide ((r.Rows.length : Int) = fl s r.Length)) : (a && b || (c && d && apartL r.Rows (s.Rows - 1))) = gV s r := by
  subst ea; subst eb; subst ec; subst ed
  have hz := tY h2
  rw [gV, if_neg h1, decide_eq_true h2, Bool.true_and]
  by_cases hd : 0 < r.Data.length
  · rw [if_pos hd, decide_eq_false (by omega : ¬ ((r.Data.length : Int) = 0))]
    simp
  · rw [if_neg hd, decide_eq_true (by omega : ((r.Data.length : Int) = 0)), decide_eq_false (by omega : ¬ ((r.Data.length : Int) = r.Length))]
    simp
theorem sY {s : Shape} {r : Rec} (h1 : r.Length = -1) : gV s r = (decide (r.Data.length = 0) && decide (r.Rows.length = 0)) := by rw [gV, if_pos h1]
theorem uu {s : Shape} {r : Rec} (h1 : r.Length ≠ -1) (h2 : dZ s r.Length ≠ 0) : gV s r = false := by rw [gV, if_neg h1, decide_eq_false h2]; rfl
theorem uo {s : Shape} {len : Int} (h : dZ s len = 0) : kL s len = fl s len := by rw [kL, if_pos h]
end Go.Wk
namespace Go.Wk
def jU (r : Rec) : Bool := noName r && decide (r.Length = 0) && decide (r.Group = 0) && decide (r.Row = 0) && decide (r.Rows.length = 0) && decide (r.Data.length = 0) && decide (r.Delta.length = 0)
def eC (r : Rec) : Rec :=
  if r.Kind = 1 then ⟨r.Kind, r.Seq, r.Name, r.Length, 0, 0, r.Rows, r.Data, []⟩
  else if r.Kind = 2 then ⟨r.Kind, r.Seq, ⟨#[]⟩, 0, r.Group, r.Row, [], r.Data, r.Delta⟩
  else if r.Kind = 3 then ⟨r.Kind, r.Seq, ⟨#[]⟩, 0, r.Group, 0, [], [], []⟩
  else if r.Kind = 4 then ⟨r.Kind, r.Seq, ⟨#[]⟩, 0, r.Group, r.Row, r.Rows, r.Data, r.Delta⟩
  else ⟨r.Kind, r.Seq, ⟨#[]⟩, 0, 0, 0, [], [], []⟩
theorem tE {r : Rec} (hk : 1 ≤ r.Kind ∧ r.Kind ≤ 4) : decide (r = eC r) = bareOK r := by
  obtain ⟨k, q, nm, ln, g, rw, rs, da, de⟩ := r
  have : k = 1 ∨ k = 2 ∨ k = 3 ∨ k = 4 := by simp only at hk; omega
  rcases this with rfl | rfl | rfl | rfl <;> simp [eC, bareOK, noName, Bool.and_assoc]
theorem vC {a b : Rec} : (decide (a.Kind = b.Kind) && (decide (a.Seq = b.Seq) && ((a.Name.toList == b.Name.toList) && (decide (a.Length = b.Length) && (decide (a.Group = b.Group) && (decide (a.Row = b.Row) && (decide (a.Rows = b.Rows) && (decide (a.Data = b.Data) && decide (a.Delta = b.Delta))))))))) = decide (a = b) := by
  obtain ⟨k, q, nm, ln, g, rw, rs, da, de⟩ := a
  obtain ⟨k2, q2, nm2, ln2, g2, rw2, rs2, da2, de2⟩ := b
  simp [iI]
theorem tj {s : Shape} {r : Rec} (h : ¬ ((r.Delta.getD r.Group.toNat 0).toNat : Int) = 0) : weightsOK s r = false := by rw [weightsOK, decide_eq_false h]; simp
theorem rM {s : Shape} {r : Rec} (k : Nat) (hk : k < r.Rows.length) (h : ((r.Delta.getD (r.Rows.getD k 0).toNat 0).toNat : Int) = 0) : weightsOK s r = false := by
  rw [weightsOK, kQ k hk (by rw [decide_eq_false (by simpa using h)])]; simp
theorem uI {s : Shape} {r : Rec} (h : (r.Delta.length : Int) = s.Groups + s.Column) (h2 : ((r.Delta.getD r.Group.toNat 0).toNat : Int) = 0) (h3 : ∀ i, i < r.Rows.length → ¬ ((r.Delta.getD (r.Rows.getD i 0).toNat 0).toNat : Int) = 0) : weightsOK s r = true := by
  rw [weightsOK, decide_eq_true h, decide_eq_true h2, iN fun i hi => decide_eq_true (h3 i hi)]; rfl
theorem yS {s : Shape} {r : Rec} (h : ¬ (r.Delta.length : Int) = s.Groups + s.Column) : weightsOK s r = false := by rw [weightsOK, decide_eq_false h]; rfl
end Go.Wk
namespace Go.Wk
theorem np {s : Shape} {r : Rec} (h1 : r.Length ≠ -1) (h2 : dZ s r.Length = 0) : gV s r = if 0 < r.Data.length then decide ((r.Data.length : Int) = r.Length) && decide (r.Rows.length = 0) else decide ((r.Rows.length : Int) = fl s r.Length) && apartL r.Rows (s.Rows - 1) := by
  rw [gV, if_neg h1, decide_eq_true h2, Bool.true_and]
end Go.Wk
namespace Go.Wk
theorem wA {α : Type} {d : α} {xs : List α} {p : α → Bool} (h : xs.any p = true) : ∃ i, i < xs.length ∧ p (xs.getD i d) = true := by
  rw [List.any_eq_true] at h
  obtain ⟨x, hx, hp⟩ := h
  obtain ⟨i, hi, rfl⟩ := List.getElem_of_mem hx
  exact ⟨i, hi, by simpa [List.getD, hi] using hp⟩
theorem uY {α : Type} {d : α} {xs : List α} {p : α → Bool} (h : xs.any p = false) (i : Nat) (hi : i < xs.length) : p (xs.getD i d) = false := by
  rw [List.any_eq_false] at h
  have := h xs[i] (List.getElem_mem hi)
  simpa [List.getD, hi] using this
theorem xc {s : Shape} {r : Rec} (h : r.Rows.any (fun k => decide (((r.Delta.getD k.toNat 0).toNat : Int) = 0)) = true) : weightsOK s r = false := by
  obtain ⟨i, hi, h⟩ := wA (d := 0) h
  exact rM i hi (by simpa using h)
theorem ww {s : Shape} {r : Rec} (h : (r.Delta.length : Int) = s.Groups + s.Column) (h2 : ((r.Delta.getD r.Group.toNat 0).toNat : Int) = 0) (h3 : r.Rows.any (fun k => decide (((r.Delta.getD k.toNat 0).toNat : Int) = 0)) = false) : weightsOK s r = true :=
  uI h h2 fun i hi => by simpa using uY (d := 0) h3 i hi
end Go.Wk
namespace Go.Wk
theorem Ek {r : Rec} (h : r.Kind = 1) : eC r = ⟨r.Kind, r.Seq, r.Name, r.Length, 0, 0, r.Rows, r.Data, []⟩ := by rw [eC, if_pos h]
theorem DT {r : Rec} (h : ¬ r.Kind = 1) (h2 : r.Kind = 2) : eC r = ⟨r.Kind, r.Seq, ⟨#[]⟩, 0, r.Group, r.Row, [], r.Data, r.Delta⟩ := by rw [eC, if_neg h, if_pos h2]
theorem DU {r : Rec} (h : ¬ r.Kind = 1) (h2 : ¬ r.Kind = 2) (h3 : r.Kind = 3) : eC r = ⟨r.Kind, r.Seq, ⟨#[]⟩, 0, r.Group, 0, [], [], []⟩ := by rw [eC, if_neg h, if_neg h2, if_pos h3]
theorem Du {r : Rec} (h : ¬ r.Kind = 1) (h2 : ¬ r.Kind = 2) (h3 : ¬ r.Kind = 3) (h4 : r.Kind = 4) : eC r = ⟨r.Kind, r.Seq, ⟨#[]⟩, 0, r.Group, r.Row, r.Rows, r.Data, r.Delta⟩ := by rw [eC, if_neg h, if_neg h2, if_neg h3, if_pos h4]
theorem DR {r : Rec} (h : ¬ r.Kind = 1) (h2 : ¬ r.Kind = 2) (h3 : ¬ r.Kind = 3) (h4 : ¬ r.Kind = 4) : eC r = ⟨r.Kind, r.Seq, ⟨#[]⟩, 0, 0, 0, [], [], []⟩ := by rw [eC, if_neg h, if_neg h2, if_neg h3, if_neg h4]
theorem Co {r : Rec} (h : r.Ok) : (eC r).Ok := by
  unfold Rec.Ok I64ok at h ⊢
  unfold eC
  have : (⟨#[]⟩ : ByteArray).size ≤ maxLen := Nat.zero_le _
  split
  · simp only; omega
  · split
    · simp only; omega
    · split
      · simp only; omega
      · split
        · simp only; omega
        · simp only; omega
end Go.Wk
namespace Go.Wk
section
variable {s : Shape} {r : Rec}
theorem pp (h : ins r.Kind 1 4 = false) : iB s r = 5 := by rw [iB, if_neg (by simp [h])]
theorem sn (h : ins r.Kind 1 4 = true) (h2 : ins r.Seq 1 1000000000 = false) : iB s r = 3 := by rw [iB, if_pos h, if_neg (by simp [h2])]
theorem ex (h : ins r.Kind 1 4 = true) (h2 : ins r.Seq 1 1000000000 = true) (h3 : fq s r ≠ 0) : iB s r = fq s r := by rw [iB, if_pos h, if_pos h2, if_pos h3]
theorem ko (h : ins r.Kind 1 4 = true) (h2 : ins r.Seq 1 1000000000 = true) (h3 : fq s r = 0) (h4 : bareOK r = false) : iB s r = 1 := by rw [iB, if_pos h, if_pos h2, if_neg (by omega), if_neg (by simp [h4])]
theorem oU (h : ins r.Kind 1 4 = true) (h2 : ins r.Seq 1 1000000000 = true) (h3 : fq s r = 0) (h4 : bareOK r = true) : iB s r = 0 := by rw [iB, if_pos h, if_pos h2, if_neg (by omega), if_pos h4]
theorem jw (h : r.Kind = 1) : fq s r = qC s r := by rw [fq, if_pos h]; rfl
theorem eD (h : r.Kind = 4) : fq s r = if dN s r = true then 0 else 3 := by rw [fq, if_neg (by omega), if_neg (by omega), if_neg (by omega)]
theorem mP (h : r.Kind = 3) (h2 : ins r.Group 0 (s.Groups + s.Column - 1) = false) : fq s r = 3 := by rw [fq, if_neg (by omega), if_neg (by omega), if_pos h, if_neg (by simp [h2])]
theorem jW (h : r.Kind = 3) (h2 : ins r.Group 0 (s.Groups + s.Column - 1) = true) : fq s r = 0 := by rw [fq, if_neg (by omega), if_neg (by omega), if_pos h, if_pos h2]
theorem dH (h : r.Kind = 2) (h2 : gE s r = false) : fq s r = 3 := by rw [fq, if_neg (by omega), if_pos h, if_neg (by simp [h2])]
theorem jX (h : r.Kind = 2) (h2 : gE s r = true) : fq s r = 0 := by rw [fq, if_neg (by omega), if_pos h, if_pos h2]
end
end Go.Wk
namespace Go.Wk
section
variable {P : Program} {n : Nat} {c : Code} {Q : Post} {L : Env} {w w0 : World} {M : Nat → Prop} {Δ F : List Rsc}
theorem sD {Δ : List Rsc} {i : Nat} {r : Rsc} (h : Δ[i]? = some r) : Δ.set i r = Δ := by
  apply List.ext_getElem?
  intro j
  rw [List.getElem?_set]
  split
  · rename_i e; subst e
    obtain ⟨hl, _⟩ := List.getElem?_eq_some_iff.1 h
    rw [if_pos hl, h]
  · rfl
theorem gq {α : Type} [Rp α] {γ : Type} {v0 : Value} {fp0 : List Nat} (f : γ → List α) (g0 : γ) (H : Sep M w0 Δ F w) (i : Nat) (hi : Δ[i]? = some (mine [v0] (f g0) fp0)) (t : Nat) (ht : look L t = some v0)
  (E2 : Env) (h2 : sub L E2) (E : γ → Env) (I : γ → Prop) (μ : γ → Nat) (hs : sub L (E g0)) (h0 : I g0)
  (round : ∀ g v fp w, Sep M w0 (Δ.set i (mine [v] (f g) fp)) F w → I g → W P n c (again (fun x : γ × Value × List Nat => (t, x.2.1) :: (E x.1 ++ E2)) (fun x w' => Sep M w0 (Δ.set i (mine [x.2.1] (f x.1) x.2.2)) F w' ∧ I x.1) (fun x => μ x.1) (g, v, fp) Q) ((t, v) :: (E g ++ E2)) w) : W P n (.loop c) Q L w :=
 bk (fun x : γ × Value × List Nat => (t, x.2.1) :: (E x.1 ++ E2)) (fun x w' => Sep M w0 (Δ.set i (mine [x.2.1] (f x.1) x.2.2)) F w' ∧ I x.1) (fun x => μ x.1) (g0, v0, fp0) ⟨ht, kM hs h2⟩ ⟨by rw [sD hi]; exact H, h0⟩ fun x w h => round x.1 x.2.1 x.2.2 w h.1 h.2
end
end Go.Wk
namespace Go.Wk
open Rp (sz own)
section
variable {s : Shape} {r : Rec}
theorem Dd (h : r.Ok) : (⟨r.Kind, r.Seq, ⟨#[]⟩, 0, r.Group, r.Row, [], [], r.Delta⟩ : Rec).Ok := by
  unfold Rec.Ok I64ok at h ⊢
  have : (⟨#[]⟩ : ByteArray).size ≤ maxLen := Nat.zero_le _
  simp only; omega
theorem CL (h : r.Ok) : (⟨r.Kind, r.Seq, r.Name, r.Length, 0, 0, r.Rows, [], []⟩ : Rec).Ok := by
  unfold Rec.Ok I64ok at h ⊢
  simp only; omega
theorem Cx (h : r.Ok) : (⟨r.Kind, r.Seq, r.Name, r.Length, 0, r.Row, r.Rows, r.Data, r.Delta⟩ : Rec).Ok := by
  unfold Rec.Ok I64ok at h ⊢
  simp only; omega
theorem C4 (h : r.Ok) : (⟨r.Kind, r.Seq, r.Name, r.Length, 0, 0, [], [], []⟩ : Rec).Ok := by
  unfold Rec.Ok I64ok at h ⊢
  simp only; omega
theorem si (h : r.Kind = 1) : jU ⟨r.Kind, r.Seq, ⟨#[]⟩, 0, r.Group, r.Row, [], [], r.Delta⟩ = bareOK r := by rw [bareOK, if_pos h]; simp [jU, noName]
theorem rX (h : r.Kind = 2) : jU ⟨r.Kind, r.Seq, r.Name, r.Length, 0, 0, r.Rows, [], []⟩ = bareOK r := by rw [bareOK, if_neg (by omega), if_pos h]; simp [jU, noName]
theorem tC (h : r.Kind = 3) : jU ⟨r.Kind, r.Seq, r.Name, r.Length, 0, r.Row, r.Rows, r.Data, r.Delta⟩ = bareOK r := by rw [bareOK, if_neg (by omega), if_neg (by omega), if_pos h]; simp [jU, noName, Bool.and_assoc]
theorem rG (h : r.Kind = 4) : jU ⟨r.Kind, r.Seq, r.Name, r.Length, 0, 0, [], [], []⟩ = bareOK r := by rw [bareOK, if_neg (by omega), if_neg (by omega), if_neg (by omega)]; simp [jU, noName]
end
end Go.Wk
namespace Go.Wk
section
variable {z : Wld} {s : Shape} {g : List Drive} {d : Drive}
theorem xA {α : Type} [Inhabited α] {xs : List α} {p : α → Bool} (h : (xs.any fun b => !p b) = false) : ((List.range xs.length).all fun i => p (xs.getD i default)) = true :=
  iN fun i hi => by simpa using uY (d := default) h i hi
theorem rZ {α : Type} [Inhabited α] {xs : List α} {p : α → Bool} (h : (xs.any fun b => !p b) = true) : ((List.range xs.length).all fun i => p (xs.getD i default)) = false := by
  obtain ⟨i, hi, h⟩ := wA (d := default) h
  exact kQ i hi (by simpa using h)
theorem qk (h : ¬ (d.Blocks.length : Int) = s.Rows) : ep s d = false := by rw [ep, decide_eq_false h]; rfl
theorem vD (h : (d.Blocks.any fun b => !eH b) = true) : ep s d = false := by rw [ep, rZ h, Bool.and_false]
theorem wi (h : (d.Blocks.length : Int) = s.Rows) (h2 : (d.Blocks.any fun b => !eH b) = false) : ep s d = true := by rw [ep, decide_eq_true h, xA h2]; rfl
theorem vF (h : (d.Blocks.length : Int) = s.Rows) (h2 : ∀ i, i < d.Blocks.length → eH (d.Blocks.getD i default) = true) : ep s d = true := by rw [ep, decide_eq_true h, iN h2]; rfl
theorem ya (i : Nat) (hi : i < d.Blocks.length) (h2 : eH (d.Blocks.getD i default) = false) : ep s d = false := by rw [ep, kQ i hi h2, Bool.and_false]
theorem qv (h : ¬ (g.length : Int) = s.Data + s.Spare) : fN s g = false := by rw [fN, decide_eq_false h]; rfl
theorem kV (k : Nat) (hk : k < g.length) (h : ep s (g.getD k default) = false) : fN s g = false := by rw [fN, kQ k hk h, Bool.and_false]
theorem qu (h : (g.length : Int) = s.Data + s.Spare) (h2 : ∀ i, i < g.length → ep s (g.getD i default) = true) : fN s g = true := by rw [fN, decide_eq_true h, iN h2]; rfl
theorem pc (h : ¬ (z.Groups.length : Int) = z.Shape.Groups + z.Shape.Column) : cw z = false := by rw [cw, decide_eq_false h]; rfl
theorem gd (k : Nat) (hk : k < z.Groups.length) (h : fN z.Shape (z.Groups.getD k []) = false) : cw z = false := by rw [cw, kQ k hk h, Bool.and_false]
theorem nX (h : (z.Groups.length : Int) = z.Shape.Groups + z.Shape.Column) (h2 : ∀ i, i < z.Groups.length → fN z.Shape (z.Groups.getD i []) = true) : cw z = true := by rw [cw, decide_eq_true h, iN h2]; rfl
end
end Go.Wk
namespace Go.Wk
section
variable {z : Wld}
theorem sx (h : (List.range z.On.length).all (apartAt z.On (z.Shape.Groups + z.Shape.Column - 1)) = false) : s9 z = false := by rw [s9, apartL, h]; rfl
theorem pt (h : (List.range z.On.length).all (apartAt z.On (z.Shape.Groups + z.Shape.Column - 1)) = true) {b : Bool} (hb : b = (decide ((z.On.length : Int) ≤ z.Shape.Cap) && (decide (z.On.length = 0) || !z.Down))) : s9 z = b := by rw [s9, apartL, h, hb]; simp [Bool.and_assoc]
theorem ic (h : z.Tapes.any cQ = true) : fg z = 2 := by rw [fg, if_pos h]
theorem m0 (h : z.Tapes.any cQ = false) {k k2 : Nat} (hk : k < z.Tapes.length) (hkz : en z.Shape z.Tapes k = 0) (hk2 : k2 < (z.Tapes.getD k default).Recs.length) (h2 : eB z.Shape (z.Tapes.getD k default).Recs k2 = 0)
    (hr : iB z.Shape ((z.Tapes.getD k default).Recs.getD k2 default) ≠ 0) : fg z = iB z.Shape ((z.Tapes.getD k default).Recs.getD k2 default) := by
  have e := Bw hk hkz hk2 h2 hr
  rw [fg, if_neg (by simp [h]), if_pos (by rw [e]; exact hr), e]
theorem lS (h : z.Tapes.any cQ = false) (h2 : en z.Shape z.Tapes z.Tapes.length = 0) (h3 : z.Tapes.any dw = true) : fg z = 1 := by rw [fg, if_neg (by simp [h]), if_neg (by omega), if_pos h3]
theorem pF (h : z.Tapes.any cQ = false) (h2 : en z.Shape z.Tapes z.Tapes.length = 0) (h3 : z.Tapes.any dw = false) : fg z = 0 := by rw [fg, if_neg (by simp [h]), if_neg (by omega), if_neg (by simp [h3])]
end
end Go.Wk
namespace Go.Wk
section
variable {z : Wld} {b : Block}
theorem zE (h : (!ins b.Stamp 0 1000000000 || decide ((b.Bytes.length : Int) ≠ 4)) = true) : eH b = false := by
  rw [eH]
  simp only [Bool.or_eq_true, decide_eq_true_eq] at h
  rcases h with h | h
  · rw [dp h]; rfl
  · rw [decide_eq_false (by omega), Bool.and_false]
theorem wo (h : (!ins b.Stamp 0 1000000000 || decide ((b.Bytes.length : Int) ≠ 4)) = false) : eH b = true := by
  rw [Bool.or_eq_false_iff] at h
  have h2 := of_decide_eq_false h.2
  rw [eH, aH h.1, decide_eq_true (by omega)]; rfl
theorem qX {α : Type} [Inhabited α] {xs : List α} {p : α → Bool} (h : xs.length = 2) (h2 : p (xs.getD 0 default) = true ∨ p (xs.getD 1 default) = true) : xs.any p = true := by
  rcases h2 with h2 | h2
  · exact u6 0 (by omega) h2
  · exact u6 1 (by omega) h2
theorem qn {α : Type} [Inhabited α] {xs : List α} {p : α → Bool} (h : xs.length = 2) (h0 : p (xs.getD 0 default) = false) (h1 : p (xs.getD 1 default) = false) : xs.any p = false :=
  ru fun i hi => by
    have : i = 0 ∨ i = 1 := by omega
    rcases this with rfl | rfl
    · exact h0
    · exact h1
theorem jP : (cw z && (apartL z.On (z.Shape.Groups + z.Shape.Column - 1) && (decide ((z.On.length : Int) ≤ z.Shape.Cap) && ((decide (z.On.length = 0) || !z.Down) && decide (z.Tapes.length = 2))))) = (cw z && s9 z && decide (z.Tapes.length = 2)) := by
  rw [s9]; simp only [Bool.and_assoc]
end
end Go.Wk
namespace Go.Wk
theorem bn {w : World} {b o : Nat} {cs : List Value} (h : At w b o cs) (j : Nat) {v : Value} (hj : cs[j]? = some v) : w.cell? ⟨b, o + j, none⟩ = some v := h j v hj
end Go.Wk
namespace Go.Wk
open Rp (sz own)
section
variable {z : Wld} {s : Shape} {g row d : Int}
def kR (s : Shape) (g d row : Int) : Bool := ins g 0 (s.Groups + s.Column - 1) && (ins d 0 (s.Data + s.Spare - 1) && ins row 0 (s.Rows - 1))
theorem jm (h : s.ok = true) : kR s g 0 row = (ins g 0 (s.Groups + s.Column - 1) && ins row 0 (s.Rows - 1)) := by
  have := bw h
  have : ins 0 0 (s.Data + s.Spare - 1) = true := ca.2 (by omega)
  rw [kR, this, Bool.true_and]
end
end Go.Wk
namespace Go.Wk
section
variable {z : Wld} {s : Shape} {r : Rec} {g row d : Int}
theorem CI : 0 ≤ s.fault ∧ s.fault ≤ 3 := by unfold Shape.fault; split <;> omega
theorem Eh {b : ByteArray} : 0 ≤ cT b ∧ cT b ≤ 5 := by unfold cT; split <;> omega
theorem Cd : 0 ≤ fq s r ∧ fq s r ≤ 5 := by
  have := Eh (b := r.Name)
  unfold fq
  repeat' split
  all_goals omega
theorem Dm : 0 ≤ iB s r ∧ iB s r ≤ 5 := by
  have := Cd (s := s) (r := r)
  unfold iB
  repeat' split
  all_goals omega
theorem vE {rs : List Rec} : ∀ k, 0 ≤ eB s rs k ∧ eB s rs k ≤ 5
  | 0 => by simp [eB]
  | k + 1 => by
    have h1 := vE (rs := rs) k
    have h2 := Dm (s := s) (r := rs.getD k default)
    rw [eB]
    split <;> omega
theorem wI {ts : List Tape} : ∀ k, 0 ≤ en s ts k ∧ en s ts k ≤ 5
  | 0 => by simp [en]
  | k + 1 => by
    have h1 := wI (ts := ts) k
    have h2 := vE (s := s) (rs := (ts.getD k default).Recs) (ts.getD k default).Recs.length
    rw [en]
    split <;> omega
theorem A4 : 0 ≤ fg z ∧ fg z ≤ 5 := by
  have := wI (s := z.Shape) (ts := z.Tapes) z.Tapes.length
  unfold fg
  repeat' split
  all_goals omega
theorem l8 : 0 ≤ worldF z ∧ worldF z ≤ 5 := by
  have h1 := CI (s := z.Shape)
  have h2 := A4 (z := z)
  unfold worldF
  repeat' split
  all_goals omega
theorem xC : 0 ≤ upF z ∧ upF z ≤ 9 := by
  have h1 := l8 (z := z)
  unfold upF
  repeat' split
  all_goals omega
end
end Go.Wk
