/-
  Laws on walking, and the functions walked, each once: what this claim comes to.
-/
import Derived.Test.YtblddeoopkfafaaGreatZA2
set_option linter.unusedVariables false
set_option linter.unusedSimpArgs false
namespace Go.Wk
open Go.Proofs Rp
set_option maxRecDepth 10000
theorem iV {w : World} {s : Shape} (hs : s.ok = true) : Ret Tryz.prog 220 #[s.v] w fun v w' => Ext No w w' ∧ (v = .int .i64 (s.Data + s.Spare)) := by
 have sbd := bw hs;refine aF (vs := [s.v]) Tryz.func220 Z Tryz.ntmps220 Z (fun Q hQ hN => ?_);have H0 := Sep.start (w := w) (F := []) (by simp);refine ag (be (wn Z) Z Z H0 (fun b1 w1 e1 g1 H1 => ?_));refine sA Z Z (aa (ag (sV Z (ab bq Z ts2 Z Z) (sV Z (ac tu2 Z Z (ae (H1.box 0 Z) Z)) (sV Z (ab bq Z ts2 Z Z) (sV Z (ac tu2 Z Z (ae (H1.box 0 Z) Z)) (sV Z (aB Z Z iO) (sA Z Z (aa (rT hQ Tryz.results220 Z ?_))))))))));exact ⟨H1.ext, Z⟩
theorem kO {w : World} {s : Shape} (hs : s.ok = true) : Ret Tryz.prog 235 #[s.v] w fun v w' => Ext No w w' ∧ (v = .int .i64 (s.Data + s.Spare)) := by
 have sbd := bw hs;refine aF (vs := [s.v]) Tryz.func235 Z Tryz.ntmps235 Z (fun Q hQ hN => ?_);have H0 := Sep.start (w := w) (F := []) (by simp);refine ag (be (wn Z) Z Z H0 (fun b1 w1 e1 g1 H1 => ?_));refine sA Z Z (aa (ag (sV Z (ab bq Z ts2 Z Z) (sV Z (ac tu2 Z Z (ae (H1.box 0 Z) Z)) (sV Z (ab bq Z ts2 Z Z) (sV Z (ac tu2 Z Z (ae (H1.box 0 Z) Z)) (sV Z (aB Z Z iO) (sA Z Z (aa (rT hQ Tryz.results235 Z ?_))))))))));exact ⟨H1.ext, Z⟩
theorem dI {w : World} {s : Shape} (hs : s.ok = true) : Ret Tryz.prog 186 #[s.v] w fun v w' => Ext No w w' ∧ (v = .int .i64 (s.Data * 4)) := by
 have sbd := bw hs;refine aF (vs := [s.v]) Tryz.func186 Z Tryz.ntmps186 Z (fun Q hQ hN => ?_);have H0 := Sep.start (w := w) (F := []) (by simp);refine ag (be (wn Z) Z Z H0 (fun b1 w1 e1 g1 H1 => ?_));refine sA Z Z (aa (ag (sV Z (ab bq Z ts2 Z Z) (sV Z (ac tu2 Z Z (ae (H1.box 0 Z) Z)) (sV Z (ji Z Z iO) (sA Z Z (aa (rT hQ Tryz.results186 Z ?_))))))));exact ⟨H1.ext, Z⟩
theorem df {w : World} {s : Shape} (hs : s.ok = true) : Ret Tryz.prog 120 #[s.v] w fun v w' => Ext No w w' ∧ (v = .int .i64 (s.Data * 4)) := by
 have sbd := bw hs;refine aF (vs := [s.v]) Tryz.func120 Z Tryz.ntmps120 Z (fun Q hQ hN => ?_);have H0 := Sep.start (w := w) (F := []) (by simp);refine ag (be (wn Z) Z Z H0 (fun b1 w1 e1 g1 H1 => ?_));refine sA Z Z (aa (ag (sV Z (ab bq Z ts2 Z Z) (sV Z (ac tu2 Z Z (ae (H1.box 0 Z) Z)) (sV Z (ji Z Z iO) (sA Z Z (aa (rT hQ Tryz.results120 Z ?_))))))));exact ⟨H1.ext, Z⟩
theorem cI {w : World} {s : Shape} {x : Int} (hs : s.ok = true) : Ret Tryz.prog 104 #[s.v, .int .i64 x] w fun v w' => Ext No w w' ∧ (v = .bool (ins x 0 (s.Rows - 1))) := by
 have sbd := bw hs;refine aF (vs := [s.v, .int .i64 x]) Tryz.func104 Z Tryz.ntmps104 Z (fun Q hQ hN => ?_);have H0 := Sep.start (w := w) (F := []) (by simp);refine ag (be (wn Z) Z Z H0 (fun b1 w1 e1 g1 H1 => ?_));refine sA Z Z (aa (ag (sM Z Z (sV Z (ab bq Z ts2 Z Z) (sV Z (ac tu2 Z Z (ae (H1.box 0 Z) Z)) (sV Z (bx Z Z iO) (ay (wn Z) Z Z (aj Tryz.func168 Z cl Z) bu (fun v1 w2 r1 => ?_))))))));obtain ⟨e2, rfl⟩ := r1;have H2 := H1.to e2;refine sA Z Z (aa (rT hQ Tryz.results104 Z ?_));exact ⟨H2.ext, Z⟩
theorem lk {w : World} {s : Shape} {x : Int} (hs : s.ok = true) : Ret Tryz.prog 118 #[s.v, .int .i64 x] w fun v w' => Ext No w w' ∧ (v = .bool (ins x 0 (s.Groups - 1))) := by
 have sbd := bw hs;refine aF (vs := [s.v, .int .i64 x]) Tryz.func118 Z Tryz.ntmps118 Z (fun Q hQ hN => ?_);have H0 := Sep.start (w := w) (F := []) (by simp);refine ag (be (wn Z) Z Z H0 (fun b1 w1 e1 g1 H1 => ?_));refine sA Z Z (aa (ag (sM Z Z (sV Z (ab bq Z ts2 Z Z) (sV Z (ac tu2 Z Z (ae (H1.box 0 Z) Z)) (sV Z (bx Z Z iO) (ay (wn Z) Z Z (aj Tryz.func168 Z cl Z) bu (fun v1 w2 r1 => ?_))))))));obtain ⟨e2, rfl⟩ := r1;have H2 := H1.to e2;refine sA Z Z (aa (rT hQ Tryz.results118 Z ?_));exact ⟨H2.ext, Z⟩
theorem ls {w : World} {s : Shape} {len : Int} (hs : s.ok = true) (hL : I64ok len) : Ret Tryz.prog 182 #[s.v, .int .i64 len] w fun v w' => Ext No w w' ∧ (v = .tuple #[.int .i64 (kL s len), .int .i64 (dZ s len)]) := by
 have sbd := bw hs;unfold I64ok at hL;refine aF (vs := [s.v, .int .i64 len]) Tryz.func182 Z Tryz.ntmps182 Z (fun Q hQ hN => ?_);have H0 := Sep.start (w := w) (F := []) (by simp);refine ag (be (wn Z) Z Z H0 (fun b1 w1 e1 g1 H1 => ?_));refine sA Z Z (sA Z Z (aa (ah (ag (sM Z Z (sV Z (aD Z Z) (aa (az Z (fun c1 => ?_) (fun c1 => ?_)))))))))
 ·refine ag (sA Z Z (sA Z Z (aa (bJ (hQ _ _ (nL Tryz.results182 Z Z ?_))))));obtain ⟨e1, e2⟩ := wF (s := s) c1;exact ⟨H1.ext, by rw [e1, e2]⟩
 ·refine ak (ah ?_);have hb := vH (s := s) (len := len) (by omega) (by omega);refine ao (sM Z Z (sV Z (bx Z Z iO) (sV Z (an bq Z bQ Z Z (At.whole (H1.box 0 Z))) (ay (wn Z) Z Z (aj Tryz.func120 Z jn Z) (df (by assumption)) (fun v1 w2 r1 => ?_)))));obtain ⟨e2, rfl⟩ := r1;have H2 := H1.to e2;refine sV Z (x9 Z Z (by omega) iO) (sV Z (aB Z Z iO) (sA Z Z (aa (ah (ag (sM Z Z (sV Z (bU Z Z) (aa (az Z (fun c2 => ?_) (fun c2 => ?_))))))))))
  ·refine ag (sA Z Z (sA Z Z (aa (bJ (hQ _ _ (nL Tryz.results182 Z Z ?_))))));have hp := (t0 (s := s) (len := len) (by omega) (by omega)).1 (by omega);obtain ⟨e1, e2⟩ := uN (s := s) c1 hp;exact ⟨H2.ext, by rw [e1, e2]⟩
  ·refine ak (ag (sM Z Z (sA Z Z (sA Z Z (aa (bJ (hQ _ _ (nL Tryz.results182 Z Z ?_))))))));have hp : ¬ 3 * (s.Data * 4) < len := fun h => absurd ((t0 (s := s) (len := len) (by omega) (by omega)).2 h) (by omega)
   obtain ⟨e1, e2⟩ := zZ (s := s) c1 hp;exact ⟨H2.ext, by rw [e1, e2]; rfl⟩
theorem pU {w : World} {s : Shape} {len : Int} (hs : s.ok = true) : Ret Tryz.prog 180 #[s.v, .int .i64 len] w fun v w' => Ext No w w' ∧ (v = .int .i64 (dZ s len)) := by
 have sbd := bw hs;refine aF (vs := [s.v, .int .i64 len]) Tryz.func180 Z Tryz.ntmps180 Z (fun Q hQ hN => ?_);have H0 := Sep.start (w := w) (F := []) (by simp);refine ag (be (wn Z) Z Z H0 (fun b1 w1 e1 g1 H1 => ?_));refine sA Z Z (aa (ah (ag (sM Z Z (sV Z (aD Z Z) (aa (az Z (fun c1 => ?_) (fun c1 => ?_))))))))
 ·refine ag (sA Z Z (aa (rT hQ Tryz.results180 Z ?_)));exact ⟨H1.ext, by rw [(wF (s := s) c1).1]⟩
 ·refine ak (ah (ag (sM Z Z (sV Z (an bq Z bQ Z Z (At.whole (H1.box 0 Z))) (ay (wn Z) Z Z (aj Tryz.func186 Z fY Z) (dI (by assumption)) (fun v1 w2 r1 => ?_))))));obtain ⟨e2, rfl⟩ := r1;have H2 := H1.to e2;refine sV Z (ji Z Z iO) (sV Z (bU Z Z) (aa (az Z (fun c2 => ?_) (fun c2 => ?_))))
  ·refine ag (sA Z Z (aa (rT hQ Tryz.results180 Z ?_)));exact ⟨H2.ext, by rw [(uN (s := s) c1 (by omega)).1]⟩
  ·refine ak (ag (sA Z Z (aa (rT hQ Tryz.results180 Z ?_))));exact ⟨H2.ext, by rw [(zZ (s := s) c1 (by omega)).1]⟩
theorem oh {w : World} {s : Shape} {len : Int} (hs : s.ok = true) (hL : 1 ≤ len ∧ len ≤ 1000) : Ret Tryz.prog 309 #[s.v, .int .i64 len] w fun v w' => Ext No w w' ∧ (v = .int .i64 (fl s len)) := by
 have sbd := bw hs;have hb := vH (s := s) (len := len) (by omega) (by omega);have hq : (len + s.Data * 4 - 1).tdiv (s.Data * 4) = fl s len := uK (by omega) (by omega);unfold fl at hq;refine aF (vs := [s.v, .int .i64 len]) Tryz.func309 Z Tryz.ntmps309 Z (fun Q hQ hN => ?_);have H0 := Sep.start (w := w) (F := []) (by simp);refine ag (be (wn Z) Z Z H0 (fun b1 w1 e1 g1 H1 => ?_));refine sA Z Z (aa (ah (bE (S := Ext No _) (oQ [1,3,11,4,7,9,12,15,16]) (by kernel_rfl) (by kernel_rfl) (by kernel_rfl) Z (fun _ => Ext.refl.drawn _) (fun q1 => ?_))));have H2 := H1.drawn q1;refine dM Z Z Z (dV Z Z (fun zw hx => an bq Z bQ Z Z (At.whole (hx.heap (H2.box 0 Z)))) (dV Z Z (fun zw hx => an bq Z bQ Z Z (At.whole (hx.heap (H2.box 0 Z)))) (aM Z (wn Z) Z Z (aj Tryz.func186 Z fY Z) (dI (by assumption)) (fun hS _ _ r _ => hS.trans r.1.no) (fun v1 w2 r1 => ?_))));obtain ⟨e2, rfl⟩ := r1;have H3 := H2.to e2;refine dV Z Z (fun zw hx => aB Z Z iO) (dV Z Z (fun zw hx => bx Z Z iO) (aM Z (wn Z) Z Z (aj Tryz.func186 Z fY Z) (dI (by assumption)) (fun hS _ _ r _ => hS.trans r.1.no) (fun v2 w3 r2 => ?_)));obtain ⟨e3, rfl⟩ := r2;have H4 := H3.to e3;refine dV Z Z (fun zw hx => x9 Z Z (by omega) iO) (aS Z (wn Z) Z Z (bD Z) (aT (rT hQ Tryz.results309 Z ?_)));exact ⟨H4.ext, by rw [uK (by omega) (by omega)]⟩
theorem mD {w : World} {xs : List (List Drive)} {xsA : Option Addr} {xsC : Nat} (xsS : Sees w [.slice xsA xs.length xsC] xs) : Ret Tryz.prog 251 #[.slice xsA xs.length xsC] w fun v w' => Ext No w w' ∧ (v = .int .i64 xs.length) := by
 have xsL := sL xsS;obtain ⟨xsF, xsO⟩ := xsS;refine aF (vs := [.slice xsA xs.length xsC]) Tryz.func251 Z Tryz.ntmps251 Z (fun Q hQ hN => ?_);have H0 := Sep.start (w := w) (F := [seen false [.slice xsA xs.length xsC] xs xsF]) (all_cons xsO (by simp));refine ag (sA Z Z (aa (ag (sM Z Z (sV Z (aE di Z) (sA Z Z (aa (rT hQ Tryz.results251 Z ?_))))))));exact ⟨H0.ext, Z⟩
theorem qH {w : World} {xs : List Drive} {xsA : Option Addr} {xsC : Nat} (xsS : Sees w [.slice xsA xs.length xsC] xs) : Ret Tryz.prog 252 #[.slice xsA xs.length xsC] w fun v w' => Ext No w w' ∧ (v = .int .i64 xs.length) := by
 have xsL := sL xsS;obtain ⟨xsF, xsO⟩ := xsS;refine aF (vs := [.slice xsA xs.length xsC]) Tryz.func252 Z Tryz.ntmps252 Z (fun Q hQ hN => ?_);have H0 := Sep.start (w := w) (F := [seen false [.slice xsA xs.length xsC] xs xsF]) (all_cons xsO (by simp));refine ag (sA Z Z (aa (ag (sM Z Z (sV Z (aE cq Z) (sA Z Z (aa (rT hQ Tryz.results252 Z ?_))))))));exact ⟨H0.ext, Z⟩
theorem qG {w : World} {xs : List Block} {xsA : Option Addr} {xsC : Nat} (xsS : Sees w [.slice xsA xs.length xsC] xs) : Ret Tryz.prog 253 #[.slice xsA xs.length xsC] w fun v w' => Ext No w w' ∧ (v = .int .i64 xs.length) := by
 have xsL := sL xsS;obtain ⟨xsF, xsO⟩ := xsS;refine aF (vs := [.slice xsA xs.length xsC]) Tryz.func253 Z Tryz.ntmps253 Z (fun Q hQ hN => ?_);have H0 := Sep.start (w := w) (F := [seen false [.slice xsA xs.length xsC] xs xsF]) (all_cons xsO (by simp));refine ag (sA Z Z (aa (ag (sM Z Z (sV Z (aE cV Z) (sA Z Z (aa (rT hQ Tryz.results253 Z ?_))))))));exact ⟨H0.ext, Z⟩
theorem fa {w : World} {xs : List UInt8} {xsA : Option Addr} {xsC : Nat} (xsS : Sees w [.slice xsA xs.length xsC] xs) : Ret Tryz.prog 119 #[.slice xsA xs.length xsC] w fun v w' => Ext No w w' ∧ (v = .int .i64 xs.length) := by
 have xsL := sL xsS;obtain ⟨xsF, xsO⟩ := xsS;refine aF (vs := [.slice xsA xs.length xsC]) Tryz.func119 Z Tryz.ntmps119 Z (fun Q hQ hN => ?_);have H0 := Sep.start (w := w) (F := [seen false [.slice xsA xs.length xsC] xs xsF]) (all_cons xsO (by simp));refine ag (sA Z Z (aa (ag (sM Z Z (sV Z (aE aR Z) (sA Z Z (aa (rT hQ Tryz.results119 Z ?_))))))));exact ⟨H0.ext, Z⟩
theorem dA {w : World} {xs : List Int} {xsA : Option Addr} {xsC : Nat} (xsS : Sees w [.slice xsA xs.length xsC] xs) : Ret Tryz.prog 227 #[.slice xsA xs.length xsC] w fun v w' => Ext No w w' ∧ (v = .int .i64 xs.length) := by
 have xsL := sL xsS;obtain ⟨xsF, xsO⟩ := xsS;refine aF (vs := [.slice xsA xs.length xsC]) Tryz.func227 Z Tryz.ntmps227 Z (fun Q hQ hN => ?_);have H0 := Sep.start (w := w) (F := [seen false [.slice xsA xs.length xsC] xs xsF]) (all_cons xsO (by simp));refine ag (sA Z Z (aa (ag (sM Z Z (sV Z (aE br Z) (sA Z Z (aa (rT hQ Tryz.results227 Z ?_))))))));exact ⟨H0.ext, Z⟩
theorem mQ {w : World} {xs : List Rec} {xsA : Option Addr} {xsC : Nat} (xsS : Sees w [.slice xsA xs.length xsC] xs) : Ret Tryz.prog 208 #[.slice xsA xs.length xsC] w fun v w' => Ext No w w' ∧ (v = .int .i64 xs.length) := by
 have xsL := sL xsS;obtain ⟨xsF, xsO⟩ := xsS;refine aF (vs := [.slice xsA xs.length xsC]) Tryz.func208 Z Tryz.ntmps208 Z (fun Q hQ hN => ?_);have H0 := Sep.start (w := w) (F := [seen false [.slice xsA xs.length xsC] xs xsF]) (all_cons xsO (by simp));refine ag (sA Z Z (aa (ag (sM Z Z (sV Z (aE aX Z) (sA Z Z (aa (rT hQ Tryz.results208 Z ?_))))))));exact ⟨H0.ext, Z⟩
theorem oM {w : World} {xs ys : List UInt8} {xsA ysA : Option Addr} {xsC ysC : Nat} (xsS : Sees w [.slice xsA xs.length xsC] xs) (ysS : Sees w [.slice ysA ys.length ysC] ys) : Ret Tryz.prog 362 #[.slice xsA xs.length xsC, .slice ysA ys.length ysC] w fun v w' => Ext No w w' ∧ (v = .bool (decide (xs = ys))) := by
 have xsL := sL xsS;obtain ⟨xsF, xsO⟩ := xsS;have ysL := sL ysS;obtain ⟨ysF, ysO⟩ := ysS;refine aF (vs := [.slice xsA xs.length xsC, .slice ysA ys.length ysC]) Tryz.func362 Z Tryz.ntmps362 Z (fun Q hQ hN => ?_);have H0 := Sep.start (w := w) (F := [seen false [.slice xsA xs.length xsC] xs xsF, seen false [.slice ysA ys.length ysC] ys ysF]) (all_cons xsO (all_cons ysO (by simp)));refine ag (sA Z Z (aa (ag (sM Z Z (sV Z (wS aR tu5 tu9 Z (H0.seen 0 Z)) (sM Z Z (sV Z (wS aR tu5 tu9 Z (H0.seen 1 Z)) (sV Z (rc Z Z) (sA Z Z (aa (rT hQ Tryz.results362 Z ?_)))))))))));exact ⟨H0.ext, by simp [iI, CM]⟩
theorem ip {w : World} {xs ys : List Int} {xsA ysA : Option Addr} {xsC ysC : Nat} (xsS : Sees w [.slice xsA xs.length xsC] xs) (ysS : Sees w [.slice ysA ys.length ysC] ys) : Ret Tryz.prog 361 #[.slice xsA xs.length xsC, .slice ysA ys.length ysC] w fun v w' => Ext No w w' ∧ (v = .bool (decide (xs = ys))) := by
 have xsL := sL xsS;obtain ⟨xsF, xsO⟩ := xsS;have ysL := sL ysS;obtain ⟨ysF, ysO⟩ := ysS;refine aF (vs := [.slice xsA xs.length xsC, .slice ysA ys.length ysC]) Tryz.func361 Z Tryz.ntmps361 Z (fun Q hQ hN => ?_);have H0 := Sep.start (w := w) (F := [seen false [.slice xsA xs.length xsC] xs xsF, seen false [.slice ysA ys.length ysC] ys ysF]) (all_cons xsO (all_cons ysO (by simp)));refine ag (sA Z Z (aa (ah (ag (sM Z Z (sV Z (aE br Z) (sM Z Z (sV Z (aE br Z) (sV Z (aU Z Z) (aa (az Z (fun c1 => ?_) (fun c1 => ?_))))))))))))
 ·refine ag (sA Z Z (aa (rT hQ Tryz.results361 Z (⟨H0.ext, ?_⟩))));rw [decide_eq_false (fun e => by subst e; exact c1 rfl)]
 ·refine ak (ah (ag (sM Z Z (sV Z (aE br Z) (sM Z Z (aa (au (bR (γ := Nat) H0 [(0, _), (1, _), (12, _)] ⟨Z, Z, Z, trivial⟩ (fun k => [(13, .int .i64 k)]) (fun k => k ≤ xs.length ∧ (∀ i, i < k → xs.getD i 0 = ys.getD i 0)) (fun k => xs.length - k) 0 ⟨Z, trivial⟩ ⟨by omega, fun i hi => by omega⟩ (fun k w1 H1 ⟨hk, he⟩ => ?_)))))))));dsimp only[lCA,lNA];refine ag (sV Z (aD Z Z) (aa (ah (az Z (fun c2 => ?_) (fun c2 => ?_)))))
  ·refine ak (ah (au (ag (sM Z Z (sA Z Z (aa (ah ?_)))))));obtain ⟨eb1, eo1, ee1, ec1⟩ := ci (H1.seen 0 Z) k (by omega);have eI1 := cA (H1.seen 0 Z) k (by omega);obtain ⟨eb2, eo2, ee2, ec2⟩ := ci (H1.seen 1 Z) k (by omega);have eI2 := cA (H1.seen 1 Z) k (by omega);refine bE (S := Ext No _) (oQ [1,3,5,7,9,11,13,15,16]) (by kernel_rfl) (by kernel_rfl) (by kernel_rfl) Z (fun _ => Ext.refl.drawn _) (fun q1 => ?_);have H2 := H1.drawn q1;refine dM Z Z Z (dM Z Z Z (dV Z Z (fun zw hx => ax br ts2 Z Z ee1 k (by omega) (by omega)) (dV Z Z (fun zw hx => ac tu2 Z Z (hx.cell ec1)) (dM Z Z Z (dM Z Z Z (dV Z Z (fun zw hx => ax br ts2 Z Z ee2 k (by omega) (by omega)) (dV Z Z (fun zw hx => ac tu2 Z Z (hx.cell ec2)) (aS Z (wn Z) Z Z (aU Z Z) (aT (az Z (fun c3 => ?_) (fun c3 => ?_)))))))))))
   ·refine ag (sA Z Z (aa (rT hQ Tryz.results361 Z (⟨H2.ext, ?_⟩))));rw [decide_eq_false (fun e => by subst e; exact c3 rfl)]
   ·refine ak (ao (sV Z (aB Z Z iO) (sM Z Z (aa (⟨k + 1, ⟨Z, Z, Z, Z, trivial⟩, ⟨H2, by omega, fun i hi => ?_⟩, by dsimp only; omega⟩)))))
    by_cases e : i = k
    ·subst e
     simpa using c3
    ·exact he i (by omega)
  ·refine aN (ag (sA Z Z (aa (rT hQ Tryz.results361 Z (⟨H1.ext, ?_⟩)))));rw [decide_eq_true (dg (d := 0) (by omega) fun i hi => he i (by omega))]
theorem mI {w : World} {s : Shape} {r : Rec} {rA6 rA7 rA8 : Option Addr} {rC6 rC7 rC8 : Nat} (rK : r.Ok) (rS6 : Sees w [.slice rA6 r.Rows.length rC6] r.Rows) (rS7 : Sees w [.slice rA7 r.Data.length rC7] r.Data) (rS8 : Sees w [.slice rA8 r.Delta.length rC8] r.Delta) (hs : s.ok = true) : Ret Tryz.prog 314 #[s.v, r.val rA6 rC6 rA7 rC7 rA8 rC8] w fun v w' => Ext No w w' ∧ (v = .int .i64 (qC s r)) := by
 have rK2 := rK;unfold Rec.Ok at rK2
 try unfold I64ok at rK2
 try unfold maxLen at rK2
 have rN2 : r.Name.size ≤ maxLen := by unfold maxLen; omega
 have rL6 := sL rS6;obtain ⟨rF6, rO6⟩ := rS6;have rL7 := sL rS7;obtain ⟨rF7, rO7⟩ := rS7;have rL8 := sL rS8;obtain ⟨rF8, rO8⟩ := rS8;have sbd := bw hs;refine aF (vs := [s.v, r.val rA6 rC6 rA7 rC7 rA8 rC8]) Tryz.func314 Z Tryz.ntmps314 Z (fun Q hQ hN => ?_);have H0 := Sep.start (w := w) (F := [seen false [.slice rA6 r.Rows.length rC6] r.Rows rF6, seen false [.slice rA7 r.Data.length rC7] r.Data rF7, seen false [.slice rA8 r.Delta.length rC8] r.Delta rF8]) (all_cons rO6 (all_cons rO7 (all_cons rO8 (by simp))));refine ag (be (wn Z) Z Z H0 (fun b1 w1 e1 g1 H1 => ?_));refine be (wn Z) Z Z H1 (fun b2 w2 e2 g2 H2 => ?_);refine sA Z Z (aa (ah (ag (sV Z (ab aC Z ts9 Z Z) (sV Z (ac tu9 Z Z (ae (H2.box 1 Z) Z)) (ay (wn Z) Z Z (aj Tryz.func178 Z wO Z) (mG (by assumption)) (fun v1 w3 r1 => ?_)))))));obtain ⟨e3, rfl⟩ := r1;have H3 := H2.to e3;refine sA Z Z (aa (ag (sM Z Z (sV Z (aU Z Z) (aa (az Z (fun c1 => ?_) (fun c1 => ?_)))))))
 ·refine ag (sM Z Z (sA Z Z (aa (rT hQ Tryz.results314 Z ?_))));exact ⟨H3.ext, congrArg (Value.int .i64) (te (by omega)).symm⟩
 ·refine ak (ah (ag (sV Z (ab aC Z ts2 Z Z) (sV Z (ac tu2 Z Z (ae (H3.box 1 Z) Z)) (sV Z (ba Z Z) (aa (az Z (fun c2 => ?_) (fun c2 => ?_))))))))
  ·refine ah (ag (sV Z (ab aC Z aZ Z Z) (sV Z (ac aR Z Z (ae (H3.box 1 Z) Z)) (sV Z (aE aR Z) (sV Z (bU Z Z) (sM Z Z (bv 4 (j := 4) (want := false) (t := 29) Z Z Z Z (fun hg1 kk1 => am (wgE Z Z Z hg1) Z Z (ab aC Z bV Z Z) (am (wgE Z Z Z hg1) Z Z (ac br Z Z (ae (H3.box 1 Z) Z)) (am (wgE Z Z Z hg1) Z Z (aE br Z) (am (wgE Z Z Z hg1) Z Z (bU Z Z) (kk1 _ _ (kx Z (kx Z (kx Z (kx Z k0)))) Z Ext.refl))))) (fun w4 e4 => ?_))))))));have H4 := H3.to e4;refine sV Z (dQ Z Z) (aa (bP Z (fun c3 => ?_) (fun c3 => ?_)))
   ·refine ag (sA Z Z (aa (rT hQ Tryz.results314 Z ?_)));exact ⟨H4.ext, congrArg (Value.int .i64) (kf (by omega) (by rw [sY (by omega)]; by_cases hd : r.Data = [] <;> by_cases he : r.Rows = [] <;> simp_all)).symm⟩
   ·refine ak (ag (sA Z Z (aa (rT hQ Tryz.results314 Z ?_))));exact ⟨H4.ext, congrArg (Value.int .i64) (lV (by omega) (by rw [sY (by omega)]; by_cases hd : r.Data = [] <;> by_cases he : r.Rows = [] <;> simp_all)).symm⟩
  ·refine ak (ag (sV Z (an bq Z bQ Z Z (At.whole (H3.box 0 Z))) (sV Z (ab aC Z ts2 Z Z) (sV Z (ac tu2 Z Z (ae (H3.box 1 Z) Z)) (ay (wn Z) Z Z (aj Tryz.func182 Z xZ Z) (ls (by assumption) (by unfold I64ok; omega)) (fun v2 w5 r2 => ?_))))));obtain ⟨e5, rfl⟩ := r2;have H5 := H3.to e5;refine sM Z Z (sV Z (eS Z Z) (sV Z (eS Z Z) (sA Z Z (sA Z Z (aa (ah (ag (sM Z Z (sV Z (aU Z Z) (aa (az Z (fun c4 => ?_) (fun c4 => ?_))))))))))))
   ·refine ag (sA Z Z (aa (rT hQ Tryz.results314 Z ?_)));exact ⟨H5.ext, congrArg (Value.int .i64) (kf (by omega) (uu (by omega) (by omega))).symm⟩
   ·refine ak (ah (bE (S := Ext No _) (oQ [1,3,7,9,4,11,13,15,17,19,21,23,24]) (by kernel_rfl) (by kernel_rfl) (by kernel_rfl) Z (fun _ => Ext.refl.drawn _) (fun q1 => ?_)));have H6 := H5.drawn q1;refine dV Z Z (fun zw hx => ab aC Z aZ Z Z) (dV Z Z (fun zw hx => ac aR Z Z (ae (hx.heap (H6.box 1 Z)) Z)) (dV Z Z (fun zw hx => ab aC Z ts2 Z Z) (dV Z Z (fun zw hx => ac tu2 Z Z (ae (hx.heap (H6.box 1 Z)) Z)) (aM Z (wn Z) Z Z (aj Tryz.func119 Z iX Z) (fa (H6.sees 1 Z)) (fun hS _ _ r _ => hS.trans r.1.no) (fun v3 w6 r3 => ?_)))));obtain ⟨e6, rfl⟩ := r3;have H7 := H6.to e6;refine dV Z Z (fun zw hx => ba Z Z) (dM Z Z Z (cx (t := 46) Z (fun hg2 => ?_) (fun hg2 => ?_)))
    ·try simp only [decide_eq_true_eq, decide_eq_false_iff_not] at hg2
     refine aI Z (wg Z Z Z) Z Z (fun zw hx => ab aC Z bV Z Z) (aI Z (wg Z Z Z) Z Z (fun zw hx => ac br Z Z (ae (hx.heap (H6.box 1 Z)) Z)) (aI Z (wg Z Z Z) Z Z (fun zw hx => aE br Z) (aI Z (wg Z Z Z) Z Z (fun zw hx => ba Z Z) (dV Z Z (fun zw hx => aJ Z Z) (aS Z (wn Z) Z Z (bD Z) (aT (ag (sV Z (ab aC Z aZ Z Z) (sV Z (ac aR Z Z (ae (H7.box 1 Z) Z)) (sV Z (aE aR Z) (sV Z (ba Z Z) (sM Z Z (bv 5 (j := 4) (want := true) (t := 61) Z Z Z Z (fun hg3 kk2 => am (wgE Z Z Z hg3) Z Z (ab aC Z bV Z Z) (am (wgE Z Z Z hg3) Z Z (ac br Z Z (ae (H7.box 1 Z) Z)) (ct (wgE Z Z Z hg3) Z Z (aj Tryz.func227 Z fQ Z) (dA (H7.sees 0 Z)) (fun w8 e8 => am (wgE Z Z Z hg3) Z Z (aG Z) (am (wgE Z Z Z hg3) Z Z (ba Z Z) (kk2 _ _ (kx Z (kx Z (kx Z (kx Z (kx Z k0))))) Z (Ext.refl.trans e8))))))) (fun w7 e7 => ?_))))))))))))));have H8 := H7.to e7;refine sV Z (bg Z Z) (sA Z Z (aa (ah (ag (sV Z (ab aC Z bV Z Z) (sV Z (ac br Z Z (ae (H8.box 1 Z) Z)) (sV Z (aE br Z) (sM Z Z (aa (au (bR (γ := Nat) H8 [(2, _), (3, _), (4, _), (8, _), (64, _), (65, _)] ⟨Z, Z, Z, Z, Z, Z, trivial⟩ (fun k => [(9, .bool (decide ((r.Data.length : Int) = 0) && decide ((r.Rows.length : Int) = fl s r.Length) && (List.range k).all (apartAt r.Rows (s.Rows - 1)))), (66, .int .i64 k)]) (fun k => k ≤ r.Rows.length ∧ True) (fun k => r.Rows.length - k) 0 ⟨eqB (by simp [uo (show dZ s r.Length = 0 by omega)]), Z, trivial⟩ ⟨by omega, trivial⟩ (fun k w9 H9 ⟨hk, _⟩ => ?_))))))))))));dsimp only[lCA,lNA];refine ag (sV Z (aD Z Z) (aa (ah (az Z (fun c5 => ?_) (fun c5 => ?_)))))
     ·refine ak (ah (au (ah ?_)));obtain ⟨eb1, eo1, ee1, ec1⟩ := ci (H9.seen 0 Z) k (by omega);have eI1 := cA (H9.seen 0 Z) k (by omega);refine ao (sM Z Z (sV Z (ax br ts2 Z Z ee1 k (by omega) (by omega)) (sV Z (ac tu2 Z Z ec1) (sA Z Z (sA Z Z (aa (ao (sM Z Z (sM Z Z (cX (t := 72) Z (fun hg4 => ?_) (fun hg4 => ?_)))))))))))
      ·try simp only [decide_eq_true_eq, decide_eq_false_iff_not] at hg4
       refine am (wg Z Z Z) Z Z (an bq Z bQ Z Z (At.whole (H9.box 0 Z))) (am (wg Z Z Z) Z Z (aG Z) (ay (wg Z Z Z) Z Z (aj Tryz.func104 Z gW Z) (cI (by assumption)) (fun v4 w10 r4 => ?_)));obtain ⟨e9, rfl⟩ := r4;have H10 := H9.to e9;refine sV Z (aJ Z Z) (sM Z Z (cX (t := 77) Z (fun hg5 => ?_) (fun hg5 => ?_)))
       ·try simp only [decide_eq_true_eq, decide_eq_false_iff_not] at hg5
        refine am (wg Z Z Z) Z Z (ab aC Z bV Z Z) (am (wg Z Z Z) Z Z (ac br Z Z (ae (H10.box 1 Z) Z)) (am (wg Z Z Z) Z Z (aG Z) ?_));have sc1 := dK (H10.seen 0 Z);obtain ⟨sf1, so1, ss1⟩ := ii (H10.seen 0 Z) (0) (k) _ (by omega) (by omega) (by omega) (Nat.le_refl _);have H11 := H10.look1 0 Z so1 ss1;have sl1 := ia (xs := r.Rows) (l := 0) (h := k) (by omega);refine am (wg Z Z Z) Z Z (ke br ts2 Z Z (k) (by omega) (by omega) sl1) ((am (wg Z Z Z) Z Z (aG Z) (ay (wg Z Z Z) Z Z (aj Tryz.func215 Z nB Z) (cY (H11.sees 3 Z)) (fun v5 w11 r5 => ?_))));obtain ⟨e10, rfl⟩ := r5;have H12 := H11.to e10;refine am (wg Z Z Z) Z Z (bb Z) (sV Z (aJ Z Z) (sA Z Z (aa (ao (sV Z (aB Z Z iO) (sM Z Z (aa (⟨k + 1, ⟨eqB (by simp only [kl, apartAt, eM, ← Bool.and_assoc, hg4, hg5, Bool.true_and, Bool.false_and]), Z, Z, Z, Z, Z, Z, Z, trivial⟩, ⟨(H12.ftake 3), by omega, trivial⟩, by dsimp only; omega⟩))))))))
       ·try simp only [decide_eq_true_eq, decide_eq_false_iff_not] at hg5
        refine sKf Z Z Z (sKf Z Z Z (sKf Z Z Z (sKf Z Z Z (sKf Z Z Z (sKf Z Z Z (sKf Z Z Z (sV Z (aQ Z Z) (sA Z Z (aa (ao (sV Z (aB Z Z iO) (sM Z Z (aa (⟨k + 1, ⟨eqB (by simp only [kl, apartAt, eM, ← Bool.and_assoc, hg4, hg5, Bool.true_and, Bool.false_and]), Z, Z, Z, Z, Z, Z, Z, trivial⟩, ⟨H10, by omega, trivial⟩, by dsimp only; omega⟩))))))))))))))
      ·try simp only [decide_eq_true_eq, decide_eq_false_iff_not] at hg4
       refine sKf Z Z Z (sKf Z Z Z (sKf Z Z Z (sV Z (aQ Z Z) (sM Z Z (sKf Z Z Z (sKf Z Z Z (sKf Z Z Z (sKf Z Z Z (sKf Z Z Z (sKf Z Z Z (sKf Z Z Z (sV Z (aQ Z Z) (sA Z Z (aa (ao (sV Z (aB Z Z iO) (sM Z Z (aa (⟨k + 1, ⟨eqB (by simp only [kl, apartAt, eM, ← Bool.and_assoc, hg4, Bool.true_and, Bool.false_and]), Z, Z, Z, Z, Z, Z, Z, trivial⟩, ⟨H9, by omega, trivial⟩, by dsimp only; omega⟩)))))))))))))))))))
     ·refine aN (ah (ah ?_));obtain rfl : k = r.Rows.length := by omega
      have io := Ai (s := s) (r := r) (by omega) (by omega) (decide_eq_true hg2).symm Z Z Z;simp only [Bool.true_and, Bool.false_and, Bool.false_or] at io;refine ao (sM Z Z (sV Z (qW Z) (sM Z Z (bv 2 (j := 2) (want := true) (t := 91) Z Z Z Z (fun hg6 kk3 => am (wgE Z Z Z hg6) Z Z (aG Z) (am (wgE Z Z Z hg6) Z Z (bb Z) (kk3 _ _ (kx Z (kx Z k0)) Z Ext.refl))) (fun w12 e11 => ?_)))));have H13 := H9.to e11;refine sV Z (bg Z Z) (aa (bP Z (fun c6 => ?_) (fun c6 => ?_)))
      ·refine ag (sA Z Z (aa (rT hQ Tryz.results314 Z ?_)));exact ⟨H13.ext, congrArg (Value.int .i64) (kf (by omega) (by rw [← io]; exact dp (by rw [Bool.not_or, ← decide_not]; exact c6))).symm⟩
      ·refine ak (ag (sA Z Z (aa (rT hQ Tryz.results314 Z ?_))));exact ⟨H13.ext, congrArg (Value.int .i64) (lV (by omega) (by rw [← io]; exact aH (by rw [Bool.not_or, ← decide_not]; exact c6))).symm⟩
    ·try simp only [decide_eq_true_eq, decide_eq_false_iff_not] at hg2
     refine dKf Z Z Z Z (dKf Z Z Z Z (dKf Z Z Z Z (dKf Z Z Z Z (dV Z Z (fun zw hx => aQ Z Z) (aS Z (wn Z) Z Z (bD Z) (aT (ag (sV Z (ab aC Z aZ Z Z) (sV Z (ac aR Z Z (ae (H7.box 1 Z) Z)) (sV Z (aE aR Z) (sV Z (ba Z Z) (sM Z Z (bv 5 (j := 4) (want := true) (t := 61) Z Z Z Z (fun hg7 kk4 => am (wgE Z Z Z hg7) Z Z (ab aC Z bV Z Z) (am (wgE Z Z Z hg7) Z Z (ac br Z Z (ae (H7.box 1 Z) Z)) (ct (wgE Z Z Z hg7) Z Z (aj Tryz.func227 Z fQ Z) (dA (H7.sees 0 Z)) (fun w14 e13 => am (wgE Z Z Z hg7) Z Z (aG Z) (am (wgE Z Z Z hg7) Z Z (ba Z Z) (kk4 _ _ (kx Z (kx Z (kx Z (kx Z (kx Z k0))))) Z (Ext.refl.trans e13))))))) (fun w13 e12 => ?_))))))))))))));have H14 := H7.to e12;refine sV Z (bg Z Z) (sA Z Z (aa (ah (ag (sV Z (ab aC Z bV Z Z) (sV Z (ac br Z Z (ae (H14.box 1 Z) Z)) (sV Z (aE br Z) (sM Z Z (aa (au (bR (γ := Nat) H14 [(2, _), (3, _), (4, _), (8, _), (64, _), (65, _)] ⟨Z, Z, Z, Z, Z, Z, trivial⟩ (fun k => [(9, .bool (decide ((r.Data.length : Int) = 0) && decide ((r.Rows.length : Int) = fl s r.Length) && (List.range k).all (apartAt r.Rows (s.Rows - 1)))), (66, .int .i64 k)]) (fun k => k ≤ r.Rows.length ∧ True) (fun k => r.Rows.length - k) 0 ⟨eqB (by simp [uo (show dZ s r.Length = 0 by omega)]), Z, trivial⟩ ⟨by omega, trivial⟩ (fun k w15 H15 ⟨hk, _⟩ => ?_))))))))))));dsimp only[lCA,lNA];refine ag (sV Z (aD Z Z) (aa (ah (az Z (fun c7 => ?_) (fun c7 => ?_)))))
     ·refine ak (ah (au (ah ?_)));obtain ⟨eb2, eo2, ee2, ec2⟩ := ci (H15.seen 0 Z) k (by omega);have eI2 := cA (H15.seen 0 Z) k (by omega);refine ao (sM Z Z (sV Z (ax br ts2 Z Z ee2 k (by omega) (by omega)) (sV Z (ac tu2 Z Z ec2) (sA Z Z (sA Z Z (aa (ao (sM Z Z (sM Z Z (cX (t := 72) Z (fun hg8 => ?_) (fun hg8 => ?_)))))))))))
      ·try simp only [decide_eq_true_eq, decide_eq_false_iff_not] at hg8
       refine am (wg Z Z Z) Z Z (an bq Z bQ Z Z (At.whole (H15.box 0 Z))) (am (wg Z Z Z) Z Z (aG Z) (ay (wg Z Z Z) Z Z (aj Tryz.func104 Z gW Z) (cI (by assumption)) (fun v6 w16 r6 => ?_)));obtain ⟨e14, rfl⟩ := r6;have H16 := H15.to e14;refine sV Z (aJ Z Z) (sM Z Z (cX (t := 77) Z (fun hg9 => ?_) (fun hg9 => ?_)))
       ·try simp only [decide_eq_true_eq, decide_eq_false_iff_not] at hg9
        refine am (wg Z Z Z) Z Z (ab aC Z bV Z Z) (am (wg Z Z Z) Z Z (ac br Z Z (ae (H16.box 1 Z) Z)) (am (wg Z Z Z) Z Z (aG Z) ?_));have sc2 := dK (H16.seen 0 Z);obtain ⟨sf2, so2, ss2⟩ := ii (H16.seen 0 Z) (0) (k) _ (by omega) (by omega) (by omega) (Nat.le_refl _);have H17 := H16.look1 0 Z so2 ss2;have sl2 := ia (xs := r.Rows) (l := 0) (h := k) (by omega);refine am (wg Z Z Z) Z Z (ke br ts2 Z Z (k) (by omega) (by omega) sl2) ((am (wg Z Z Z) Z Z (aG Z) (ay (wg Z Z Z) Z Z (aj Tryz.func215 Z nB Z) (cY (H17.sees 3 Z)) (fun v7 w17 r7 => ?_))));obtain ⟨e15, rfl⟩ := r7;have H18 := H17.to e15;refine am (wg Z Z Z) Z Z (bb Z) (sV Z (aJ Z Z) (sA Z Z (aa (ao (sV Z (aB Z Z iO) (sM Z Z (aa (⟨k + 1, ⟨eqB (by simp only [kl, apartAt, eM, ← Bool.and_assoc, hg8, hg9, Bool.true_and, Bool.false_and]), Z, Z, Z, Z, Z, Z, Z, trivial⟩, ⟨(H18.ftake 3), by omega, trivial⟩, by dsimp only; omega⟩))))))))
       ·try simp only [decide_eq_true_eq, decide_eq_false_iff_not] at hg9
        refine sKf Z Z Z (sKf Z Z Z (sKf Z Z Z (sKf Z Z Z (sKf Z Z Z (sKf Z Z Z (sKf Z Z Z (sV Z (aQ Z Z) (sA Z Z (aa (ao (sV Z (aB Z Z iO) (sM Z Z (aa (⟨k + 1, ⟨eqB (by simp only [kl, apartAt, eM, ← Bool.and_assoc, hg8, hg9, Bool.true_and, Bool.false_and]), Z, Z, Z, Z, Z, Z, Z, trivial⟩, ⟨H16, by omega, trivial⟩, by dsimp only; omega⟩))))))))))))))
      ·try simp only [decide_eq_true_eq, decide_eq_false_iff_not] at hg8
       refine sKf Z Z Z (sKf Z Z Z (sKf Z Z Z (sV Z (aQ Z Z) (sM Z Z (sKf Z Z Z (sKf Z Z Z (sKf Z Z Z (sKf Z Z Z (sKf Z Z Z (sKf Z Z Z (sKf Z Z Z (sV Z (aQ Z Z) (sA Z Z (aa (ao (sV Z (aB Z Z iO) (sM Z Z (aa (⟨k + 1, ⟨eqB (by simp only [kl, apartAt, eM, ← Bool.and_assoc, hg8, Bool.true_and, Bool.false_and]), Z, Z, Z, Z, Z, Z, Z, trivial⟩, ⟨H15, by omega, trivial⟩, by dsimp only; omega⟩)))))))))))))))))))
     ·refine aN (ah (ah ?_));obtain rfl : k = r.Rows.length := by omega
      have io := Ai (s := s) (r := r) (by omega) (by omega) (decide_eq_false hg2).symm Z Z Z;simp only [Bool.true_and, Bool.false_and, Bool.false_or] at io;refine ao (sM Z Z (sV Z (bb Z) (sM Z Z (am (wg Z Z Z) Z Z (aG Z) (am (wg Z Z Z) Z Z (bb Z) (sV Z (aJ Z Z) (aa (bP Z (fun c8 => ?_) (fun c8 => ?_)))))))))
      ·refine ag (sA Z Z (aa (rT hQ Tryz.results314 Z ?_)));exact ⟨H15.ext, congrArg (Value.int .i64) (kf (by omega) (by rw [← io]; exact dp (id c8))).symm⟩
      ·refine ak (ag (sA Z Z (aa (rT hQ Tryz.results314 Z ?_))));exact ⟨H15.ext, congrArg (Value.int .i64) (lV (by omega) (by rw [← io]; exact aH (id c8))).symm⟩
theorem mw {w : World} {s : Shape} {r : Rec} {rA6 rA7 rA8 : Option Addr} {rC6 rC7 rC8 : Nat} (rK : r.Ok) (rS6 : Sees w [.slice rA6 r.Rows.length rC6] r.Rows) (rS7 : Sees w [.slice rA7 r.Data.length rC7] r.Data) (rS8 : Sees w [.slice rA8 r.Delta.length rC8] r.Delta) (hs : s.ok = true) (hg : 0 ≤ r.Group ∧ r.Group < s.Groups + s.Column) (hr : ∀ i, i < r.Rows.length → 0 ≤ r.Rows.getD i 0 ∧ r.Rows.getD i 0 < s.Groups + s.Column) : Ret Tryz.prog 248 #[s.v, r.val rA6 rC6 rA7 rC7 rA8 rC8] w fun v w' => Ext No w w' ∧ (v = .bool (weightsOK s r)) := by
 have rK2 := rK;unfold Rec.Ok at rK2
 try unfold I64ok at rK2
 try unfold maxLen at rK2
 have rN2 : r.Name.size ≤ maxLen := by unfold maxLen; omega
 have rL6 := sL rS6;obtain ⟨rF6, rO6⟩ := rS6;have rL7 := sL rS7;obtain ⟨rF7, rO7⟩ := rS7;have rL8 := sL rS8;obtain ⟨rF8, rO8⟩ := rS8;have sbd := bw hs;refine aF (vs := [s.v, r.val rA6 rC6 rA7 rC7 rA8 rC8]) Tryz.func248 Z Tryz.ntmps248 Z (fun Q hQ hN => ?_);have H0 := Sep.start (w := w) (F := [seen false [.slice rA6 r.Rows.length rC6] r.Rows rF6, seen false [.slice rA7 r.Data.length rC7] r.Data rF7, seen false [.slice rA8 r.Delta.length rC8] r.Delta rF8]) (all_cons rO6 (all_cons rO7 (all_cons rO8 (by simp))));refine ag (be (wn Z) Z Z H0 (fun b1 w1 e1 g1 H1 => ?_));refine be (wn Z) Z Z H1 (fun b2 w2 e2 g2 H2 => ?_);refine sA Z Z (aa (ah (ah (bE (S := Ext No _) (oQ [1,3,5,7,8,11,13,15,17,19,21,23,25,27,28]) (by kernel_rfl) (by kernel_rfl) (by kernel_rfl) Z (fun _ => Ext.refl.drawn _) (fun q1 => ?_)))));have H3 := H2.drawn q1;refine dV Z Z (fun zw hx => ab aC Z aZ Z Z) (dV Z Z (fun zw hx => ac aR Z Z (ae (hx.heap (H3.box 1 Z)) Z)) (dV Z Z (fun zw hx => aE aR Z) (dV Z Z (fun zw hx => an bq Z bQ Z Z (At.whole (hx.heap (H3.box 0 Z)))) (aM Z (wn Z) Z Z (aj Tryz.func159 Z eF Z) (dc (by assumption)) (fun hS _ _ r _ => hS.trans r.1.no) (fun v1 w3 r1 => ?_)))));obtain ⟨e3, rfl⟩ := r1;have H4 := H3.to e3;refine dV Z Z (fun zw hx => aU Z Z) (dM Z Z Z (cx (t := 12) Z (fun hg1 => ?_) (fun hg1 => ?_)))
 ·try simp only [decide_eq_true_eq, decide_eq_false_iff_not] at hg1
  refine dKt Z Z Z Z (dKt Z Z Z Z (dKt Z Z Z Z (dKt Z Z Z Z (dKt Z Z Z Z (dKt Z Z Z Z (dKt Z Z Z Z (aS Z (wn Z) Z Z (aJ Z Z) (aT (du Z (ag (sA Z Z (aa (rT hQ Tryz.results248 Z ?_)))))))))))));exact ⟨H4.ext, congrArg Value.bool ((yS (by omega)).symm)⟩
 ·try simp only [decide_eq_true_eq, decide_eq_false_iff_not] at hg1
  refine aI Z (wg Z Z Z) Z Z (fun zw hx => ab aC Z aZ Z Z) (aI Z (wg Z Z Z) Z Z (fun zw hx => ac aR Z Z (ae (hx.heap (H3.box 1 Z)) Z)) (aI Z (wg Z Z Z) Z Z (fun zw hx => ab aC Z ts2 Z Z) (aI Z (wg Z Z Z) Z Z (fun zw hx => ac tu2 Z Z (ae (hx.heap (H3.box 1 Z)) Z)) ?_)));obtain ⟨eb1, eo1, ee1, ec1⟩ := b0 (H3.seen 2 Z) r.Group.toNat (by omega);refine aI Z (wg Z Z Z) Z Z (fun zw hx => ax aR ts5 Z Z ee1 r.Group.toNat (by omega) (by omega)) (aI Z (wg Z Z Z) Z Z (fun zw hx => ac tu5 Z Z (hx.cell ec1)) (aI Z (wg Z Z Z) Z Z (fun zw hx => aU Z Z) (aS Z (wn Z) Z Z (aQ Z Z) (aT (az Z (fun c1 => ?_) (fun c1 => ?_))))))
  ·refine ag (sA Z Z (aa (rT hQ Tryz.results248 Z ?_)));exact ⟨H4.ext, congrArg Value.bool ((tj (by omega)).symm)⟩
  ·refine ak (ah (ag (sA Z Z (aa (au (bR (γ := Nat) H4 [(3, _)] ⟨Z, trivial⟩ (fun k => [(5, .int .i64 k)]) (fun k => k ≤ r.Rows.length ∧ (∀ i, i < k → ¬ ((r.Delta.getD (r.Rows.getD i 0).toNat 0).toNat : Int) = 0)) (fun k => r.Rows.length - k) 0 ⟨Z, trivial⟩ ⟨by omega, fun i hi => by omega⟩ (fun k w4 H5 ⟨hk, he⟩ => ?_)))))));dsimp only[lCA,lNA];refine ah (ag (sM Z Z (sV Z (ab aC Z bV Z Z) (sV Z (ac br Z Z (ae (H5.box 1 Z) Z)) (sV Z (aE br Z) (sV Z (aD Z Z) (aa (az Z (fun c2 => ?_) (fun c2 => ?_)))))))))
   ·refine ak (ah (au (ah ?_)));have hrk := hr k (by omega);obtain ⟨eb2, eo2, ee2, ec2⟩ := ci (H5.seen 0 Z) k (by omega);have eI1 := cA (H5.seen 0 Z) k (by omega);obtain ⟨eb3, eo3, ee3, ec3⟩ := b0 (H5.seen 2 Z) (r.Rows.getD k 0).toNat (by omega);refine bE (S := Ext No _) (oQ [1,3,5,7,9,11,13,15,17,18]) (by kernel_rfl) (by kernel_rfl) (by kernel_rfl) Z (fun _ => Ext.refl.drawn _) (fun q2 => ?_);have H6 := H5.drawn q2;refine dV Z Z (fun zw hx => ab aC Z aZ Z Z) (dV Z Z (fun zw hx => ac aR Z Z (ae (hx.heap (H6.box 1 Z)) Z)) (dV Z Z (fun zw hx => ab aC Z bV Z Z) (dV Z Z (fun zw hx => ac br Z Z (ae (hx.heap (H6.box 1 Z)) Z)) (dM Z Z Z (dV Z Z (fun zw hx => ax br ts2 Z Z ee2 k (by omega) (by omega)) (dV Z Z (fun zw hx => ac tu2 Z Z (hx.cell ec2)) (dV Z Z (fun zw hx => ax aR ts5 Z Z ee3 (r.Rows.getD k 0).toNat (by omega) (by omega)) (dV Z Z (fun zw hx => ac tu5 Z Z (hx.cell ec3)) (aS Z (wn Z) Z Z (ba Z Z) (aT (az Z (fun c3 => ?_) (fun c3 => ?_))))))))))))
    ·refine ag (sA Z Z (aa (rT hQ Tryz.results248 Z ?_)));exact ⟨H6.ext, congrArg Value.bool ((rM k (by omega) c3).symm)⟩
    ·refine ak (ao (sM Z Z (sV Z (aB Z Z iO) (sA Z Z (aa (⟨k + 1, ⟨Z, Z, trivial⟩, ⟨H6, by omega, fun i hi => ?_⟩, by dsimp only; omega⟩))))))
     by_cases e : i = k
     ·subst e
      assumption
     ·exact he i (by omega)
   ·refine aN (ag (sA Z Z (aa (rT hQ Tryz.results248 Z ?_))));exact ⟨H5.ext, congrArg Value.bool ((uI (by omega) (by omega) (fun i hi => he i (by omega))).symm)⟩
theorem eP {w : World} {r : Rec} {rA6 rA7 rA8 : Option Addr} {rC6 rC7 rC8 : Nat} (rK : r.Ok) (rS6 : Sees w [.slice rA6 r.Rows.length rC6] r.Rows) (rS7 : Sees w [.slice rA7 r.Data.length rC7] r.Data) (rS8 : Sees w [.slice rA8 r.Delta.length rC8] r.Delta) : Ret Tryz.prog 249 #[r.val rA6 rC6 rA7 rC7 rA8 rC8] w fun v w' => Ext No w w' ∧ (v = .bool (jU r)) := by
 have rK2 := rK;unfold Rec.Ok at rK2
 try unfold I64ok at rK2
 try unfold maxLen at rK2
 have rN2 : r.Name.size ≤ maxLen := by unfold maxLen; omega
 have rL6 := sL rS6;obtain ⟨rF6, rO6⟩ := rS6;have rL7 := sL rS7;obtain ⟨rF7, rO7⟩ := rS7;have rL8 := sL rS8;obtain ⟨rF8, rO8⟩ := rS8;refine aF (vs := [r.val rA6 rC6 rA7 rC7 rA8 rC8]) Tryz.func249 Z Tryz.ntmps249 Z (fun Q hQ hN => ?_);have H0 := Sep.start (w := w) (F := [seen false [.slice rA6 r.Rows.length rC6] r.Rows rF6, seen false [.slice rA7 r.Data.length rC7] r.Data rF7, seen false [.slice rA8 r.Delta.length rC8] r.Delta rF8]) (all_cons rO6 (all_cons rO7 (all_cons rO8 (by simp))));refine ag (be (wn Z) Z Z H0 (fun b1 w1 e1 g1 H1 => ?_));refine sA Z Z (aa (ag (sV Z (ab aC Z ts9 Z Z) (sV Z (ac tu9 Z Z (ae (H1.box 0 Z) Z)) (sV Z (rc Z Z) (sM Z Z (bv 3 (j := 3) (want := true) (t := 9) Z Z Z Z (fun hg1 kk1 => am (wgE Z Z Z hg1) Z Z (ab aC Z ts2 Z Z) (am (wgE Z Z Z hg1) Z Z (ac tu2 Z Z (ae (H1.box 0 Z) Z)) (am (wgE Z Z Z hg1) Z Z (ba Z Z) (kk1 _ _ (kx Z (kx Z (kx Z k0))) Z Ext.refl)))) (fun w2 e2 => ?_))))))));have H2 := H1.to e2;refine sV Z (bg Z Z) (sM Z Z (bv 3 (j := 8) (want := true) (t := 14) Z Z Z Z (fun hg2 kk2 => am (wgE Z Z Z hg2) Z Z (ab aC Z ts2 Z Z) (am (wgE Z Z Z hg2) Z Z (ac tu2 Z Z (ae (H2.box 0 Z) Z)) (am (wgE Z Z Z hg2) Z Z (ba Z Z) (kk2 _ _ (kx Z (kx Z (kx Z k0))) Z Ext.refl)))) (fun w3 e3 => ?_)));have H3 := H2.to e3;refine sV Z (bg Z Z) (sM Z Z (bv 3 (j := 13) (want := true) (t := 19) Z Z Z Z (fun hg3 kk3 => am (wgE Z Z Z hg3) Z Z (ab aC Z ts2 Z Z) (am (wgE Z Z Z hg3) Z Z (ac tu2 Z Z (ae (H3.box 0 Z) Z)) (am (wgE Z Z Z hg3) Z Z (ba Z Z) (kk3 _ _ (kx Z (kx Z (kx Z k0))) Z Ext.refl)))) (fun w4 e4 => ?_)));have H4 := H3.to e4;refine sV Z (bg Z Z) (sM Z Z (bv 4 (j := 18) (want := true) (t := 25) Z Z Z Z (fun hg4 kk4 => am (wgE Z Z Z hg4) Z Z (ab aC Z bV Z Z) (am (wgE Z Z Z hg4) Z Z (ac br Z Z (ae (H4.box 0 Z) Z)) (am (wgE Z Z Z hg4) Z Z (aE br Z) (am (wgE Z Z Z hg4) Z Z (ba Z Z) (kk4 _ _ (kx Z (kx Z (kx Z (kx Z k0)))) Z Ext.refl))))) (fun w5 e5 => ?_)));have H5 := H4.to e5;refine sV Z (bg Z Z) (sM Z Z (bv 4 (j := 24) (want := true) (t := 31) Z Z Z Z (fun hg5 kk5 => am (wgE Z Z Z hg5) Z Z (ab aC Z aZ Z Z) (am (wgE Z Z Z hg5) Z Z (ac aR Z Z (ae (H5.box 0 Z) Z)) (am (wgE Z Z Z hg5) Z Z (aE aR Z) (am (wgE Z Z Z hg5) Z Z (ba Z Z) (kk5 _ _ (kx Z (kx Z (kx Z (kx Z k0)))) Z Ext.refl))))) (fun w6 e6 => ?_)));have H6 := H5.to e6;refine sV Z (bg Z Z) (sM Z Z (bv 4 (j := 30) (want := true) (t := 37) Z Z Z Z (fun hg6 kk6 => am (wgE Z Z Z hg6) Z Z (ab aC Z aZ Z Z) (am (wgE Z Z Z hg6) Z Z (ac aR Z Z (ae (H6.box 0 Z) Z)) (am (wgE Z Z Z hg6) Z Z (aE aR Z) (am (wgE Z Z Z hg6) Z Z (ba Z Z) (kk6 _ _ (kx Z (kx Z (kx Z (kx Z k0)))) Z Ext.refl))))) (fun w7 e7 => ?_)));have H7 := H6.to e7;refine sV Z (bg Z Z) (sA Z Z (aa (rT hQ Tryz.results249 Z ?_)));exact ⟨H7.ext, congrArg Value.bool (by simp only [jU, noName, iI, Bool.and_assoc]; simp)⟩
theorem jS {w : World} {xs : List Int} {xsA : Option Addr} {xsC : Nat} {m : Int} (xsS : Sees w [.slice xsA xs.length xsC] xs) : Ret Tryz.prog 158 #[.slice xsA xs.length xsC, .int .i64 m] w fun v w' => Ext No w w' ∧ (v = .bool (apartL xs m)) := by
 have xsL := sL xsS;obtain ⟨xsF, xsO⟩ := xsS;refine aF (vs := [.slice xsA xs.length xsC, .int .i64 m]) Tryz.func158 Z Tryz.ntmps158 Z (fun Q hQ hN => ?_);have H0 := Sep.start (w := w) (F := [seen false [.slice xsA xs.length xsC] xs xsF]) (all_cons xsO (by simp));refine ag (sA Z Z (aa (ah (ag (sA Z Z (aa (au (bR (γ := Nat) H0 [(0, _), (1, _)] ⟨Z, Z, trivial⟩ (fun k => [(5, .int .i64 k)]) (fun k => k ≤ xs.length ∧ (∀ i, i < k → apartAt xs m i = true)) (fun k => xs.length - k) 0 ⟨Z, trivial⟩ ⟨by omega, fun i hi => by omega⟩ (fun k w1 H1 ⟨hk, he⟩ => ?_)))))))));dsimp only[lCA,lNA];refine ah (ag (sM Z Z (sM Z Z (sV Z (aE br Z) (sV Z (aD Z Z) (aa (az Z (fun c1 => ?_) (fun c1 => ?_))))))))
 ·refine ak (ah (au (ah ?_)));obtain ⟨eb1, eo1, ee1, ec1⟩ := ci (H1.seen 0 Z) k (by omega);have eI1 := cA (H1.seen 0 Z) k (by omega);refine bE (S := Ext No _) (oQ [1,3,5,7,9,10,13,15,17,19,21,23,25,27,29,30,32]) (by kernel_rfl) (by kernel_rfl) (by kernel_rfl) Z (fun _ => Ext.refl.drawn _) (fun q1 => ?_);have H2 := H1.drawn q1;refine dM Z Z Z (dM Z Z Z (dV Z Z (fun zw hx => ax br ts2 Z Z ee1 k (by omega) (by omega)) (dV Z Z (fun zw hx => ac tu2 Z Z (hx.cell ec1)) (dM Z Z Z (aM Z (wn Z) Z Z (aj Tryz.func161 Z bM Z) bj (fun hS _ _ r _ => hS.trans r.1.no) (fun v1 w2 r1 => ?_))))));obtain ⟨e1, rfl⟩ := r1;have H3 := H2.to e1;refine dV Z Z (fun zw hx => bb Z) (dM Z Z Z (cx (t := 19) Z (fun hg1 => ?_) (fun hg1 => ?_)))
  ·try simp only [decide_eq_true_eq, decide_eq_false_iff_not] at hg1
   refine dKt Z Z Z Z (dKt Z Z Z Z (dKt Z Z Z Z (dKt Z Z Z Z (dKt Z Z Z Z (dKt Z Z Z Z (dKt Z Z Z Z (bm Z (wog (b := true) Z Z Z) Z Z (aS Z (wn Z) Z Z (aJ Z Z) (aT (du Z (ag (sA Z Z (aa (rT hQ Tryz.results158 Z ?_))))))))))))));exact ⟨H3.ext, congrArg Value.bool ((kQ k (by omega) (by simp only [apartAt, eM] at *; simp_all)).symm)⟩
  ·try simp only [decide_eq_true_eq, decide_eq_false_iff_not] at hg1
   refine aI Z (wg Z Z Z) Z Z (fun zw hx => aG Z) (aI Z (wg Z Z Z) Z Z (fun zw hx => aG Z) ?_);have sc1 := dK (H3.seen 0 Z);obtain ⟨sf1, so1, ss1⟩ := ii (H3.seen 0 Z) (0) (k) _ (by omega) (by omega) (by omega) (Nat.le_refl _);have H4 := H3.look1 0 Z so1 ss1;have sl1 := ia (xs := xs) (l := 0) (h := k) (by omega);refine aI Z (wg Z Z Z) Z Z (fun zw hx => ke br ts2 Z Z (k) (by omega) (by omega) sl1) (aI Z (wg Z Z Z) Z Z (fun zw hx => aG Z) (aI Z (wg Z Z Z) Z Z (fun zw hx => aG Z) (aI Z (wg Z Z Z) Z Z (fun zw hx => ax br ts2 Z Z ee1 k (by omega) (by omega)) (aI Z (wg Z Z Z) Z Z (fun zw hx => ac tu2 Z Z (hx.cell ec1)) (aM Z (wg Z Z Z) Z Z (aj Tryz.func129 Z xk Z) (qT (H4.sees 1 Z)) (fun hS _ _ r _ => hS.trans r.1.no) (fun v2 w3 r2 => ?_))))));obtain ⟨e2, rfl⟩ := r2;have H5 := H4.to e2;refine aS Z (wn Z) Z Z (aQ Z Z) (aT (bP Z (fun c2 => ?_) (fun c2 => ?_)))
   ·refine ag (sA Z Z (aa (rT hQ Tryz.results158 Z ?_)));exact ⟨H5.ext, congrArg Value.bool ((kQ k (by omega) (by simp only [apartAt, eM] at *; simp_all)).symm)⟩
   ·refine ak (ao (sM Z Z (sV Z (aB Z Z iO) (sA Z Z (aa (⟨k + 1, ⟨Z, Z, Z, trivial⟩, ⟨(H5.ftake 1), by omega, fun i hi => ?_⟩, by dsimp only; omega⟩))))))
    by_cases e : i = k
    ·subst e;simp only [apartAt, eM] at *; simp_all
    ·exact he i (by omega)
 ·refine aN (ag (sA Z Z (aa (rT hQ Tryz.results158 Z ?_))));exact ⟨H1.ext, congrArg Value.bool ((iN fun i hi => he i (by omega)).symm)⟩
theorem pZ {w : World} {s : Shape} {r : Rec} {rA6 rA7 rA8 : Option Addr} {rC6 rC7 rC8 : Nat} (rK : r.Ok) (rS6 : Sees w [.slice rA6 r.Rows.length rC6] r.Rows) (rS7 : Sees w [.slice rA7 r.Data.length rC7] r.Data) (rS8 : Sees w [.slice rA8 r.Delta.length rC8] r.Delta) (hs : s.ok = true) : Ret Tryz.prog 246 #[s.v, r.val rA6 rC6 rA7 rC7 rA8 rC8] w fun v w' => Ext No w w' ∧ (v = .bool (gV s r)) := by
 have rK2 := rK;unfold Rec.Ok at rK2
 try unfold I64ok at rK2
 try unfold maxLen at rK2
 have rN2 : r.Name.size ≤ maxLen := by unfold maxLen; omega
 have rL6 := sL rS6;obtain ⟨rF6, rO6⟩ := rS6;have rL7 := sL rS7;obtain ⟨rF7, rO7⟩ := rS7;have rL8 := sL rS8;obtain ⟨rF8, rO8⟩ := rS8;have sbd := bw hs;refine aF (vs := [s.v, r.val rA6 rC6 rA7 rC7 rA8 rC8]) Tryz.func246 Z Tryz.ntmps246 Z (fun Q hQ hN => ?_);have H0 := Sep.start (w := w) (F := [seen false [.slice rA6 r.Rows.length rC6] r.Rows rF6, seen false [.slice rA7 r.Data.length rC7] r.Data rF7, seen false [.slice rA8 r.Delta.length rC8] r.Delta rF8]) (all_cons rO6 (all_cons rO7 (all_cons rO8 (by simp))));refine ag (be (wn Z) Z Z H0 (fun b1 w1 e1 g1 H1 => ?_));refine be (wn Z) Z Z H1 (fun b2 w2 e2 g2 H2 => ?_);refine sA Z Z (aa (ah (ag (sV Z (ab aC Z ts2 Z Z) (sV Z (ac tu2 Z Z (ae (H2.box 1 Z) Z)) (sV Z (ba Z Z) (aa (az Z (fun c1 => ?_) (fun c1 => ?_)))))))))
 ·refine ag (sV Z (ab aC Z aZ Z Z) (sV Z (ac aR Z Z (ae (H2.box 1 Z) Z)) (sV Z (aE aR Z) (sV Z (ba Z Z) (sM Z Z (bv 4 (j := 4) (want := true) (t := 16) Z Z Z Z (fun hg1 kk1 => am (wgE Z Z Z hg1) Z Z (ab aC Z bV Z Z) (am (wgE Z Z Z hg1) Z Z (ac br Z Z (ae (H2.box 1 Z) Z)) (am (wgE Z Z Z hg1) Z Z (aE br Z) (am (wgE Z Z Z hg1) Z Z (ba Z Z) (kk1 _ _ (kx Z (kx Z (kx Z (kx Z k0)))) Z Ext.refl))))) (fun w3 e3 => ?_)))))));have H3 := H2.to e3;refine sV Z (bg Z Z) (sA Z Z (aa (rT hQ Tryz.results246 Z ?_)));exact ⟨H3.ext, congrArg Value.bool (by rw [sY (by omega)]; simp)⟩
 ·refine ak (ah (ag (sV Z (an bq Z bQ Z Z (At.whole (H2.box 0 Z))) (sV Z (ab aC Z ts2 Z Z) (sV Z (ac tu2 Z Z (ae (H2.box 1 Z) Z)) (ay (wn Z) Z Z (aj Tryz.func180 Z zP Z) (pU (by assumption)) (fun v1 w4 r1 => ?_)))))));obtain ⟨e4, rfl⟩ := r1;have H4 := H2.to e4;refine sV Z (aU Z Z) (aa (az Z (fun c2 => ?_) (fun c2 => ?_)))
  ·refine ag (sA Z Z (aa (rT hQ Tryz.results246 Z ?_)));exact ⟨H4.ext, congrArg Value.bool ((uu (by omega) (by omega)).symm)⟩
  ·refine ak (ah (ag (sV Z (ab aC Z aZ Z Z) (sV Z (ac aR Z Z (ae (H4.box 1 Z) Z)) (sV Z (aE aR Z) (sV Z (bU Z Z) (aa (az Z (fun c3 => ?_) (fun c3 => ?_)))))))))
   ·refine ag (sV Z (ab aC Z aZ Z Z) (sV Z (ac aR Z Z (ae (H4.box 1 Z) Z)) (sV Z (aE aR Z) (sV Z (ab aC Z ts2 Z Z) (sV Z (ac tu2 Z Z (ae (H4.box 1 Z) Z)) (sV Z (ba Z Z) (sM Z Z (bv 4 (j := 6) (want := true) (t := 37) Z Z Z Z (fun hg2 kk2 => am (wgE Z Z Z hg2) Z Z (ab aC Z bV Z Z) (am (wgE Z Z Z hg2) Z Z (ac br Z Z (ae (H4.box 1 Z) Z)) (am (wgE Z Z Z hg2) Z Z (aE br Z) (am (wgE Z Z Z hg2) Z Z (ba Z Z) (kk2 _ _ (kx Z (kx Z (kx Z (kx Z k0)))) Z Ext.refl))))) (fun w5 e5 => ?_)))))))));have H5 := H4.to e5;refine sV Z (bg Z Z) (sA Z Z (aa (rT hQ Tryz.results246 Z ?_)));exact ⟨H5.ext, congrArg Value.bool (by rw [np (by omega) (by omega), if_pos (by omega)]; simp)⟩
   ·refine ak (ah ?_);have hz := tY (s := s) (len := r.Length) (by omega);refine bE (S := Ext No _) (oQ [1,3,5,7,9,11,12,15,17,19,21,23,25,27,28,31,32]) (by kernel_rfl) (by kernel_rfl) (by kernel_rfl) Z (fun _ => Ext.refl.drawn _) (fun q1 => ?_);have H6 := H4.drawn q1;refine dV Z Z (fun zw hx => ab aC Z bV Z Z) (dV Z Z (fun zw hx => ac br Z Z (ae (hx.heap (H6.box 1 Z)) Z)) (dV Z Z (fun zw hx => aE br Z) (dV Z Z (fun zw hx => an bq Z bQ Z Z (At.whole (hx.heap (H6.box 0 Z)))) (dV Z Z (fun zw hx => ab aC Z ts2 Z Z) (dV Z Z (fun zw hx => ac tu2 Z Z (ae (hx.heap (H6.box 1 Z)) Z)) (aM Z (wn Z) Z Z (aj Tryz.func309 Z yq Z) (oh (by assumption) (by omega)) (fun hS _ _ r _ => hS.trans r.1.no) (fun v2 w6 r2 => ?_)))))));obtain ⟨e6, rfl⟩ := r2;have H7 := H6.to e6;refine dV Z Z (fun zw hx => ba Z Z) (dM Z Z Z (cx (t := 47) Z (fun hg3 => ?_) (fun hg3 => ?_)))
    ·try simp only [decide_eq_true_eq, decide_eq_false_iff_not] at hg3
     refine aI Z (wg Z Z Z) Z Z (fun zw hx => ab aC Z bV Z Z) (aI Z (wg Z Z Z) Z Z (fun zw hx => ac br Z Z (ae (hx.heap (H6.box 1 Z)) Z)) (aI Z (wg Z Z Z) Z Z (fun zw hx => ab bq Z ts2 Z Z) (aI Z (wg Z Z Z) Z Z (fun zw hx => ac tu2 Z Z (ae (hx.heap (H6.box 0 Z)) Z)) (aI Z (wg Z Z Z) Z Z (fun zw hx => bx Z Z iO) (aM Z (wg Z Z Z) Z Z (aj Tryz.func158 Z rU Z) (jS (H7.sees 0 Z)) (fun hS _ _ r _ => hS.trans r.1.no) (fun v3 w7 r3 => ?_))))));obtain ⟨e7, rfl⟩ := r3;have H8 := H7.to e7;refine dV Z Z (fun zw hx => aJ Z Z) (aS Z (wn Z) Z Z (bD Z) (aT (rT hQ Tryz.results246 Z ?_)));exact ⟨H8.ext, congrArg Value.bool (by rw [np (by omega) (by omega), if_neg (by omega)]; simp_all)⟩
    ·try simp only [decide_eq_true_eq, decide_eq_false_iff_not] at hg3
     refine dKf Z Z Z Z (dKf Z Z Z Z (dKf Z Z Z Z (dKf Z Z Z Z (dKf Z Z Z Z (bm Z (wog (b := false) Z Z Z) Z Z (dV Z Z (fun zw hx => aQ Z Z) (aS Z (wn Z) Z Z (bD Z) (aT (rT hQ Tryz.results246 Z ?_)))))))));exact ⟨H7.ext, congrArg Value.bool (by rw [np (by omega) (by omega), if_neg (by omega)]; simp_all)⟩
theorem kP {w : World} {x : Int} {rb rC6 rC7 rC8 : Nat} {r : Rec} {rA6 rA7 rA8 : Option Addr} (rB : w.heap[rb]? = some (.cells [.int .i64 r.Kind, .int .i64 r.Seq, .string r.Name, .int .i64 r.Length, .int .i64 r.Group, .int .i64 r.Row, .slice rA6 r.Rows.length rC6, .slice rA7 r.Data.length rC7, .slice rA8 r.Delta.length rC8].toArray 94)) (rK : r.Ok) (rS6 : Sees w [.slice rA6 r.Rows.length rC6] r.Rows) (rS7 : Sees w [.slice rA7 r.Data.length rC7] r.Data) (rS8 : Sees w [.slice rA8 r.Delta.length rC8] r.Delta) (hx : 0 ≤ x ∧ x < r.Delta.length) : Ret Tryz.prog 365 #[.int .i64 x, .pointer (some ⟨rb, 0, none⟩)] w fun v w' => Ext No w w' ∧ (v = .bool (decide (((r.Delta.getD (x).toNat 0).toNat : Int) = 0))) := by
 have rK2 := rK;unfold Rec.Ok at rK2
 try unfold I64ok at rK2
 try unfold maxLen at rK2
 have rN2 : r.Name.size ≤ maxLen := by unfold maxLen; omega
 have rL6 := sL rS6;obtain ⟨rF6, rO6⟩ := rS6;have rL7 := sL rS7;obtain ⟨rF7, rO7⟩ := rS7;have rL8 := sL rS8;obtain ⟨rF8, rO8⟩ := rS8;refine aF (vs := [.int .i64 x, .pointer (some ⟨rb, 0, none⟩)]) Tryz.func365 Z Tryz.ntmps365 Z (fun Q hQ hN => ?_);have H0 := Sep.start (w := w) (F := [box rb (.cells [.int .i64 r.Kind, .int .i64 r.Seq, .string r.Name, .int .i64 r.Length, .int .i64 r.Group, .int .i64 r.Row, .slice rA6 r.Rows.length rC6, .slice rA7 r.Data.length rC7, .slice rA8 r.Delta.length rC8].toArray 94), seen false [.slice rA6 r.Rows.length rC6] r.Rows rF6, seen false [.slice rA7 r.Data.length rC7] r.Data rF7, seen false [.slice rA8 r.Delta.length rC8] r.Delta rF8]) (all_cons (by exact rB) (all_cons rO6 (all_cons rO7 (all_cons rO8 (by simp)))));refine ag (sA Z Z (aa (ah ?_)));obtain ⟨eb1, eo1, ee1, ec1⟩ := b0 (H0.seen 3 Z) x.toNat (by omega);refine ao (sV Z (ab aC Z aZ Z Z) (sV Z (ac aR Z Z (ae (H0.fbox 0 Z) Z)) (sM Z Z (sV Z (ax aR ts5 Z Z ee1 x.toNat (by omega) (by omega)) (sV Z (ac tu5 Z Z ec1) (sV Z (ba Z Z) (sA Z Z (aa (rT hQ Tryz.results365 Z ?_)))))))));exact ⟨H0.ext, Z⟩
theorem lN {w : World} {s : Shape} {r : Rec} {rA6 rA7 rA8 : Option Addr} {rC6 rC7 rC8 : Nat} (rK : r.Ok) (rS6 : Sees w [.slice rA6 r.Rows.length rC6] r.Rows) (rS7 : Sees w [.slice rA7 r.Data.length rC7] r.Data) (rS8 : Sees w [.slice rA8 r.Delta.length rC8] r.Delta) (hs : s.ok = true) : Ret Tryz.prog 315 #[s.v, r.val rA6 rC6 rA7 rC7 rA8 rC8] w fun v w' => Ext No w w' ∧ (v = .int .i64 (if dN s r = true then 0 else 3)) := by
 have rK2 := rK;unfold Rec.Ok at rK2
 try unfold I64ok at rK2
 try unfold maxLen at rK2
 have rN2 : r.Name.size ≤ maxLen := by unfold maxLen; omega
 have rL6 := sL rS6;obtain ⟨rF6, rO6⟩ := rS6;have rL7 := sL rS7;obtain ⟨rF7, rO7⟩ := rS7;have rL8 := sL rS8;obtain ⟨rF8, rO8⟩ := rS8;have sbd := bw hs;refine aF (vs := [s.v, r.val rA6 rC6 rA7 rC7 rA8 rC8]) Tryz.func315 Z Tryz.ntmps315 Z (fun Q hQ hN => ?_);have H0 := Sep.start (w := w) (F := [seen false [.slice rA6 r.Rows.length rC6] r.Rows rF6, seen false [.slice rA7 r.Data.length rC7] r.Data rF7, seen false [.slice rA8 r.Delta.length rC8] r.Delta rF8]) (all_cons rO6 (all_cons rO7 (all_cons rO8 (by simp))));refine ag (be (wn Z) Z Z H0 (fun b1 w1 e1 g1 H1 => ?_));refine be (wn Z) Z Z H1 (fun b2 w2 e2 g2 H2 => ?_);refine sA Z Z (aa (ah (bE (S := Ext No _) (oQ [1,3,5,6,9,11,13,15,16,19,21,23,25,27,28,30,33,35,37,39,43,40,44,47,49,51,53,55,59,56,60,63,65,66]) (by kernel_rfl) (by kernel_rfl) (by kernel_rfl) Z (fun _ => Ext.refl.drawn _) (fun q1 => ?_))));have H3 := H2.drawn q1;refine dV Z Z (fun zw hx => an bq Z bQ Z Z (At.whole (hx.heap (H3.box 0 Z)))) (dV Z Z (fun zw hx => ab aC Z ts2 Z Z) (dV Z Z (fun zw hx => ac tu2 Z Z (ae (hx.heap (H3.box 1 Z)) Z)) (aM Z (wn Z) Z Z (aj Tryz.func103 Z iY Z) (cS (by assumption)) (fun hS _ _ r _ => hS.trans r.1.no) (fun v1 w3 r1 => ?_))));obtain ⟨e3, rfl⟩ := r1;have H4 := H3.to e3;refine dM Z Z Z (cx (t := 10) Z (fun hg1 => ?_) (fun hg1 => ?_))
 ·try simp only [decide_eq_true_eq, decide_eq_false_iff_not] at hg1
  refine aI Z (wg Z Z Z) Z Z (fun zw hx => an bq Z bQ Z Z (At.whole (hx.heap (H3.box 0 Z)))) (aI Z (wg Z Z Z) Z Z (fun zw hx => ab aC Z ts2 Z Z) (aI Z (wg Z Z Z) Z Z (fun zw hx => ac tu2 Z Z (ae (hx.heap (H3.box 1 Z)) Z)) (aM Z (wg Z Z Z) Z Z (aj Tryz.func104 Z gW Z) (cI (by assumption)) (fun hS _ _ r _ => hS.trans r.1.no) (fun v2 w4 r2 => ?_))));obtain ⟨e4, rfl⟩ := r2;have H5 := H4.to e4;refine dV Z Z (fun zw hx => aJ Z Z) (dM Z Z Z (cx (t := 16) Z (fun hg2 => ?_) (fun hg2 => ?_)))
  ·try simp only [decide_eq_true_eq, decide_eq_false_iff_not] at hg2
   refine aI Z (wg Z Z Z) Z Z (fun zw hx => ab aC Z bV Z Z) (aI Z (wg Z Z Z) Z Z (fun zw hx => ac br Z Z (ae (hx.heap (H3.box 1 Z)) Z)) (aI Z (wg Z Z Z) Z Z (fun zw hx => an bq Z bQ Z Z (At.whole (hx.heap (H3.box 0 Z)))) (aM Z (wg Z Z Z) Z Z (aj Tryz.func187 Z gX Z) (dC (by assumption)) (fun hS _ _ r _ => hS.trans r.1.no) (fun v3 w5 r3 => ?_))));obtain ⟨e5, rfl⟩ := r3;have H6 := H5.to e5;refine aM Z (wg Z Z Z) Z Z (aj Tryz.func363 Z yo Z) (oi (H6.sees 0 Z) (by omega)) (fun hS _ _ r _ => hS.trans r.1.no) (fun v4 w6 r4 => ?_);obtain ⟨e6, rfl⟩ := r4;have H7 := H6.to e6;refine dV Z Z (fun zw hx => aJ Z Z) (dM Z Z Z (cx (t := 23) Z (fun hg3 => ?_) (fun hg3 => ?_)))
   ·try simp only [decide_eq_true_eq, decide_eq_false_iff_not] at hg3
    refine aI Z (wg Z Z Z) Z Z (fun zw hx => ab aC Z aZ Z Z) (aI Z (wg Z Z Z) Z Z (fun zw hx => ac aR Z Z (ae (hx.heap (H3.box 1 Z)) Z)) (aI Z (wg Z Z Z) Z Z (fun zw hx => an bq Z bQ Z Z (At.whole (hx.heap (H3.box 0 Z)))) (aM Z (wg Z Z Z) Z Z (aj Tryz.func119 Z iX Z) (fa (H7.sees 1 Z)) (fun hS _ _ r _ => hS.trans r.1.no) (fun v5 w7 r5 => ?_))));obtain ⟨e7, rfl⟩ := r5;have H8 := H7.to e7;refine aM Z (wg Z Z Z) Z Z (aj Tryz.func120 Z jn Z) (df (by assumption)) (fun hS _ _ r _ => hS.trans r.1.no) (fun v6 w8 r6 => ?_);obtain ⟨e8, rfl⟩ := r6;have H9 := H8.to e8;refine aI Z (wg Z Z Z) Z Z (fun zw hx => ba Z Z) (dV Z Z (fun zw hx => aJ Z Z) (dM Z Z Z (cx (t := 31) Z (fun hg4 => ?_) (fun hg4 => ?_))))
    ·try simp only [decide_eq_true_eq, decide_eq_false_iff_not] at hg4
     refine aI Z (wg Z Z Z) Z Z (fun zw hx => ab aC Z aZ Z Z) (aI Z (wg Z Z Z) Z Z (fun zw hx => ac aR Z Z (ae (hx.heap (H3.box 1 Z)) Z)) (aI Z (wg Z Z Z) Z Z (fun zw hx => an bq Z bQ Z Z (At.whole (hx.heap (H3.box 0 Z)))) (aM Z (wg Z Z Z) Z Z (aj Tryz.func119 Z iX Z) (fa (H9.sees 2 Z)) (fun hS _ _ r _ => hS.trans r.1.no) (fun v7 w9 r7 => ?_))));obtain ⟨e9, rfl⟩ := r7;have H10 := H9.to e9;refine aM Z (wg Z Z Z) Z Z (aj Tryz.func187 Z gX Z) (dC (by assumption)) (fun hS _ _ r _ => hS.trans r.1.no) (fun v8 w10 r8 => ?_);obtain ⟨e10, rfl⟩ := r8;have H11 := H10.to e10;refine aI Z (wg Z Z Z) Z Z (fun zw hx => ba Z Z) (dV Z Z (fun zw hx => aJ Z Z) (aS Z (wn Z) Z Z (bD Z) (aT (ah (ah ?_)))))
     try have hgb := ca.1 hg1
     refine ao (sM Z Z (sV Z (qW Z) (sM Z Z (cX (t := 41) Z (fun hg5 => ?_) (fun hg5 => ?_)))))
     ·try simp only [decide_eq_true_eq, decide_eq_false_iff_not] at hg5
      refine sKt Z Z Z (sKt Z Z Z (sKt Z Z Z (sKt Z Z Z (sKt Z Z Z (sKt Z Z Z (sKt Z Z Z (sV Z (aJ Z Z) (aa (du Z (ag (sA Z Z (aa (rT hQ Tryz.results315 Z ?_)))))))))))));exact ⟨H11.ext, congrArg (Value.int .i64) (if_neg (by simp [dN, weightsOK, -List.getD_eq_getElem?_getD, hg1, hg2, hg3, hg4, hg5])).symm⟩
     ·try simp only [decide_eq_true_eq, decide_eq_false_iff_not] at hg5
      refine am (wg Z Z Z) Z Z (ab aC Z aZ Z Z) (am (wg Z Z Z) Z Z (ac aR Z Z (ae (H11.box 1 Z) Z)) (am (wg Z Z Z) Z Z (ab aC Z ts2 Z Z) (am (wg Z Z Z) Z Z (ac tu2 Z Z (ae (H11.box 1 Z) Z)) ?_)));obtain ⟨eb1, eo1, ee1, ec1⟩ := b0 (H11.seen 2 Z) r.Group.toNat (by omega);refine am (wg Z Z Z) Z Z (ax aR ts5 Z Z ee1 r.Group.toNat (by omega) (by omega)) (am (wg Z Z Z) Z Z (ac tu5 Z Z ec1) (am (wg Z Z Z) Z Z (aU Z Z) (sV Z (aQ Z Z) (aa (az Z (fun c1 => ?_) (fun c1 => ?_))))))
      ·refine ag (sA Z Z (aa (rT hQ Tryz.results315 Z ?_)));exact ⟨H11.ext, congrArg (Value.int .i64) (if_neg (by simp [dN, tj c1])).symm⟩
      ·refine ak (ah (ah ?_));have hL : (r.Delta.length : Int) = s.Groups + s.Column := by omega
       have hR : ∀ i, i < r.Rows.length → 0 ≤ r.Rows.getD i 0 ∧ r.Rows.getD i 0 < r.Delta.length := fun i hi => by have := ua hg3 i hi; omega
       refine ao (sV Z (ab aC Z bV Z Z) (sV Z (ac br Z Z (ae (H11.box 1 Z) Z)) (sV Z (od Z) (ay (wn Z) Z Z (aj Tryz.func364 Z xe Z) (kt (H11.sees 0 Z) (p := (fun k => decide (((r.Delta.getD (k).toNat 0).toNat : Int) = 0))) Tryz.func365 Z wN (fun w1 e1 i0 hi0 => kP ((H11.to e1).box 1 Z) (by assumption) ((H11.to e1).sees 0 Z) ((H11.to e1).sees 1 Z) ((H11.to e1).sees 2 Z) (hR i0 hi0))) (fun v9 w11 r9 => ?_)))));obtain ⟨e11, rfl⟩ := r9;have H12 := H11.to e11;refine aa (bP Z (fun c2 => ?_) (fun c2 => ?_))
       ·refine ag (sA Z Z (aa (rT hQ Tryz.results315 Z ?_)));exact ⟨H12.ext, congrArg (Value.int .i64) (if_neg (by simp [dN, xc (by assumption)])).symm⟩
       ·refine ak (ag (sA Z Z (aa (rT hQ Tryz.results315 Z ?_))));exact ⟨H12.ext, congrArg (Value.int .i64) (if_pos (by rw [dN, ww hL (by omega) (by assumption)]; simp [hg1, hg2, hg3, hg4, hg5])).symm⟩
    ·try simp only [decide_eq_true_eq, decide_eq_false_iff_not] at hg4
     refine dKf Z Z Z Z (dKf Z Z Z Z (dKf Z Z Z Z (bm Z (wog (b := false) Z Z Z) Z Z (bm Z (wog (b := false) Z Z Z) Z Z (dKf Z Z Z Z (dV Z Z (fun zw hx => aQ Z Z) (aS Z (wn Z) Z Z (bD Z) (aT (ah (ah ?_))))))))))
     try have hgb := ca.1 hg1
     refine ao (sM Z Z (sV Z (bb Z) (sM Z Z (sKt Z Z Z (sKt Z Z Z (sKt Z Z Z (sKt Z Z Z (sKt Z Z Z (sKt Z Z Z (sKt Z Z Z (sV Z (aJ Z Z) (aa (du Z (ag (sA Z Z (aa (rT hQ Tryz.results315 Z ?_)))))))))))))))));exact ⟨H9.ext, congrArg (Value.int .i64) (if_neg (by simp [dN, weightsOK, -List.getD_eq_getElem?_getD, hg1, hg2, hg3, hg4])).symm⟩
   ·try simp only [decide_eq_true_eq, decide_eq_false_iff_not] at hg3
    refine dKf Z Z Z Z (dKf Z Z Z Z (dKf Z Z Z Z (bm Z (wog (b := false) Z Z Z) Z Z (bm Z (wog (b := false) Z Z Z) Z Z (dKf Z Z Z Z (dV Z Z (fun zw hx => aQ Z Z) (dM Z Z Z (dKf Z Z Z Z (dKf Z Z Z Z (dKf Z Z Z Z (bm Z (wog (b := false) Z Z Z) Z Z (bm Z (wog (b := false) Z Z Z) Z Z (dKf Z Z Z Z (dV Z Z (fun zw hx => aQ Z Z) (aS Z (wn Z) Z Z (bD Z) (aT (ah (ah ?_))))))))))))))))))
    try have hgb := ca.1 hg1
    refine ao (sM Z Z (sV Z (bb Z) (sM Z Z (sKt Z Z Z (sKt Z Z Z (sKt Z Z Z (sKt Z Z Z (sKt Z Z Z (sKt Z Z Z (sKt Z Z Z (sV Z (aJ Z Z) (aa (du Z (ag (sA Z Z (aa (rT hQ Tryz.results315 Z ?_)))))))))))))))));exact ⟨H7.ext, congrArg (Value.int .i64) (if_neg (by simp [dN, weightsOK, -List.getD_eq_getElem?_getD, hg1, hg2, hg3])).symm⟩
  ·try simp only [decide_eq_true_eq, decide_eq_false_iff_not] at hg2
   refine dKf Z Z Z Z (dKf Z Z Z Z (dKf Z Z Z Z (bm Z (wog (b := false) Z Z Z) Z Z (bm Z (wog (b := false) Z Z Z) Z Z (dV Z Z (fun zw hx => aQ Z Z) (dM Z Z Z (dKf Z Z Z Z (dKf Z Z Z Z (dKf Z Z Z Z (bm Z (wog (b := false) Z Z Z) Z Z (bm Z (wog (b := false) Z Z Z) Z Z (dKf Z Z Z Z (dV Z Z (fun zw hx => aQ Z Z) (dM Z Z Z (dKf Z Z Z Z (dKf Z Z Z Z (dKf Z Z Z Z (bm Z (wog (b := false) Z Z Z) Z Z (bm Z (wog (b := false) Z Z Z) Z Z (dKf Z Z Z Z (dV Z Z (fun zw hx => aQ Z Z) (aS Z (wn Z) Z Z (bD Z) (aT (ah (ah ?_)))))))))))))))))))))))))
   try have hgb := ca.1 hg1
   refine ao (sM Z Z (sV Z (bb Z) (sM Z Z (sKt Z Z Z (sKt Z Z Z (sKt Z Z Z (sKt Z Z Z (sKt Z Z Z (sKt Z Z Z (sKt Z Z Z (sV Z (aJ Z Z) (aa (du Z (ag (sA Z Z (aa (rT hQ Tryz.results315 Z ?_)))))))))))))))));exact ⟨H5.ext, congrArg (Value.int .i64) (if_neg (by simp [dN, weightsOK, -List.getD_eq_getElem?_getD, hg1, hg2])).symm⟩
 ·try simp only [decide_eq_true_eq, decide_eq_false_iff_not] at hg1
  refine dKf Z Z Z Z (dKf Z Z Z Z (dKf Z Z Z Z (bm Z (wog (b := false) Z Z Z) Z Z (dV Z Z (fun zw hx => aQ Z Z) (dM Z Z Z (dKf Z Z Z Z (dKf Z Z Z Z (dKf Z Z Z Z (bm Z (wog (b := false) Z Z Z) Z Z (bm Z (wog (b := false) Z Z Z) Z Z (dV Z Z (fun zw hx => aQ Z Z) (dM Z Z Z (dKf Z Z Z Z (dKf Z Z Z Z (dKf Z Z Z Z (bm Z (wog (b := false) Z Z Z) Z Z (bm Z (wog (b := false) Z Z Z) Z Z (dKf Z Z Z Z (dV Z Z (fun zw hx => aQ Z Z) (dM Z Z Z (dKf Z Z Z Z (dKf Z Z Z Z (dKf Z Z Z Z (bm Z (wog (b := false) Z Z Z) Z Z (bm Z (wog (b := false) Z Z Z) Z Z (dKf Z Z Z Z (dV Z Z (fun zw hx => aQ Z Z) (aS Z (wn Z) Z Z (bD Z) (aT (ah (ah ?_)))))))))))))))))))))))))))))))
  try have hgb := ca.1 hg1
  refine ao (sM Z Z (sV Z (bb Z) (sM Z Z (sKt Z Z Z (sKt Z Z Z (sKt Z Z Z (sKt Z Z Z (sKt Z Z Z (sKt Z Z Z (sKt Z Z Z (sV Z (aJ Z Z) (aa (du Z (ag (sA Z Z (aa (rT hQ Tryz.results315 Z ?_)))))))))))))))));exact ⟨H4.ext, congrArg (Value.int .i64) (if_neg (by simp [dN, weightsOK, -List.getD_eq_getElem?_getD, hg1])).symm⟩
set_option maxHeartbeats 1000000 in
theorem nf {w : World} {r : Rec} {rA6 rA7 rA8 : Option Addr} {rC6 rC7 rC8 : Nat} (rK : r.Ok) (rS6 : Sees w [.slice rA6 r.Rows.length rC6] r.Rows) (rS7 : Sees w [.slice rA7 r.Data.length rC7] r.Data) (rS8 : Sees w [.slice rA8 r.Delta.length rC8] r.Delta) : Ret Tryz.prog 316 #[r.val rA6 rC6 rA7 rC7 rA8 rC8] w fun v w' => Ext No w w' ∧ (∃ A6 C6 A7 C7 A8 C8, v = (eC r).val A6 C6 A7 C7 A8 C8 ∧ Sees w' [.slice A6 (eC r).Rows.length C6] (eC r).Rows ∧ Sees w' [.slice A7 (eC r).Data.length C7] (eC r).Data ∧ Sees w' [.slice A8 (eC r).Delta.length C8] (eC r).Delta) := by
 have rK2 := rK;unfold Rec.Ok at rK2
 try unfold I64ok at rK2
 try unfold maxLen at rK2
 have rN2 : r.Name.size ≤ maxLen := by unfold maxLen; omega
 have rL6 := sL rS6;obtain ⟨rF6, rO6⟩ := rS6;have rL7 := sL rS7;obtain ⟨rF7, rO7⟩ := rS7;have rL8 := sL rS8;obtain ⟨rF8, rO8⟩ := rS8;refine aF (vs := [r.val rA6 rC6 rA7 rC7 rA8 rC8]) Tryz.func316 Z Tryz.ntmps316 Z (fun Q hQ hN => ?_);have H0 := Sep.start (w := w) (F := [seen false [.slice rA6 r.Rows.length rC6] r.Rows rF6, seen false [.slice rA7 r.Data.length rC7] r.Data rF7, seen false [.slice rA8 r.Delta.length rC8] r.Delta rF8]) (all_cons rO6 (all_cons rO7 (all_cons rO8 (by simp))));refine ag (be (wn Z) Z Z H0 (fun b1 w1 e1 g1 H1 => ?_));refine bZ (wn Z) Z Tryz.zeroValue94 H1 (fun b2 w2 e2 g2 H2 => ?_);refine aa (ag (sV Z (ab aC Z ts2 Z Z) (sV Z (ac tu2 Z Z (ae (H2.box 0 Z) Z)) (sV Z (ab aC Z ts2 Z Z) (sV Z (ac tu2 Z Z (ae (H2.box 0 Z) Z)) (sV Z (bX mj Z Z) (bZ (wn Z) Z Tryz.zeroValue94 H2 (fun b3 w3 e3 g3 H3 => ?_))))))));refine bf (wn Z) aP Z Z Z Z H3 2 Z Z (fun w4 e4 H4 => ?_);dsimp only[lNA,lCA,lSZ,lSS,aO] at H4;refine aa (ah (ag (sV Z (ab aC Z ts2 Z Z) (sV Z (ac tu2 Z Z (ae (H4.box 0 Z) Z)) (aa (au (ag (sV Z (ba Z Z) (sA Z Z (aa (az Z (fun c1 => ?_) (fun c1 => ?_))))))))))))
 ·refine bE (S := Ext (· ∈ [b3]) _) (oQ [1,3,5,7,9,11,13,15,17,18,21,22,25,26,29,30]) (by kernel_rfl) (by kernel_rfl) (by kernel_rfl) Z (fun _ => Ext.refl.drawn _) (fun q1 => ?_);have H5 := H4.drawn q1;refine dV Z Z (fun zw hx => ab aC Z ts9 Z Z) (dV Z Z (fun zw hx => ac tu9 Z Z (ae (hx.heapM (H5.boff 0 Z 2 Z Z) (H5.box 0 Z)) Z)) (dV Z Z (fun zw hx => ab aC Z ts2 Z Z) (dV Z Z (fun zw hx => ac tu2 Z Z (ae (hx.heapM (H5.boff 0 Z 2 Z Z) (H5.box 0 Z)) Z)) (dV Z Z (fun zw hx => ab aC Z aZ Z Z) (dV Z Z (fun zw hx => ac aR Z Z (ae (hx.heapM (H5.boff 0 Z 2 Z Z) (H5.box 0 Z)) Z)) (dV Z Z (fun zw hx => ab aC Z bV Z Z) (dV Z Z (fun zw hx => ac br Z Z (ae (hx.heapM (H5.boff 0 Z 2 Z Z) (H5.box 0 Z)) Z)) (dV Z Z (fun zw hx => ab aC Z ts9 Z Z) (bY Z (wn Z) ts9 Z Z Z H5 2 Z Z (fun _ h e _ => h.trans (e.mono fun _ _ q => by simp [q])) (fun w5 e5 H6 => ?_))))))))));dsimp only[lNA,lCA,lSZ,lSS,aO] at H6;refine dV Z Z (fun zw hx => ab aC Z ts2 Z Z) (bY Z (wn Z) ts2 Z Z Z H6 2 Z Z (fun _ h e _ => h.trans (e.mono fun _ _ q => by simp [q])) (fun w6 e6 H7 => ?_));dsimp only[lNA,lCA,lSZ,lSS,aO] at H7;refine dV Z Z (fun zw hx => ab aC Z aZ Z Z) (bY Z (wn Z) aZ Z Z Z H7 2 Z Z (fun _ h e _ => h.trans (e.mono fun _ _ q => by simp [q])) (fun w7 e7 H8 => ?_));dsimp only[lNA,lCA,lSZ,lSS,aO] at H8;refine dV Z Z (fun zw hx => ab aC Z bV Z Z) (bY Z (wn Z) bV Z Z Z H8 2 Z Z (fun _ h e _ => h.trans (e.mono fun _ _ q => by simp [q])) (fun w8 e8 H9 => ?_));dsimp only[lNA,lCA,lSZ,lSS,aO] at H9;refine aT (ag (sV Z (an aC Z aP Z Z (At.whole (H9.box 2 Z))) (bf (wn Z) aP Z Z Z Z H9 1 Z Z (fun w9 e9 H10 => ?_))));dsimp only[lNA,lCA,lSZ,lSS,aO] at H10;refine aa (bJ (hQ _ _ (dr Tryz.results316 Z (aL aC Z aP Z (At.whole (H10.box 1 Z))) ?_)));have eR : eC r = _ := Ek c1;refine ⟨H10.ext, ?_⟩;rw [eR];exact ⟨_, _, _, _, _, _, Z, (H10.sees 0 Z), (H10.sees 1 Z), ⟨[], .inr (.inl ⟨Z, Z, Z⟩)⟩⟩
 ·refine ag (sV Z (ba Z Z) (sA Z Z (aa (az Z (fun c2 => ?_) (fun c2 => ?_)))))
  ·refine bE (S := Ext (· ∈ [b3]) _) (oQ [1,3,5,7,9,11,13,15,17,18,21,22,25,26,29,30]) (by kernel_rfl) (by kernel_rfl) (by kernel_rfl) Z (fun _ => Ext.refl.drawn _) (fun q2 => ?_);have H11 := H4.drawn q2;refine dV Z Z (fun zw hx => ab aC Z ts2 Z Z) (dV Z Z (fun zw hx => ac tu2 Z Z (ae (hx.heapM (H11.boff 0 Z 2 Z Z) (H11.box 0 Z)) Z)) (dV Z Z (fun zw hx => ab aC Z ts2 Z Z) (dV Z Z (fun zw hx => ac tu2 Z Z (ae (hx.heapM (H11.boff 0 Z 2 Z Z) (H11.box 0 Z)) Z)) (dV Z Z (fun zw hx => ab aC Z aZ Z Z) (dV Z Z (fun zw hx => ac aR Z Z (ae (hx.heapM (H11.boff 0 Z 2 Z Z) (H11.box 0 Z)) Z)) (dV Z Z (fun zw hx => ab aC Z aZ Z Z) (dV Z Z (fun zw hx => ac aR Z Z (ae (hx.heapM (H11.boff 0 Z 2 Z Z) (H11.box 0 Z)) Z)) (dV Z Z (fun zw hx => ab aC Z ts2 Z Z) (bY Z (wn Z) ts2 Z Z Z H11 2 Z Z (fun _ h e _ => h.trans (e.mono fun _ _ q => by simp [q])) (fun w10 e10 H12 => ?_))))))))));dsimp only[lNA,lCA,lSZ,lSS,aO] at H12;refine dV Z Z (fun zw hx => ab aC Z ts2 Z Z) (bY Z (wn Z) ts2 Z Z Z H12 2 Z Z (fun _ h e _ => h.trans (e.mono fun _ _ q => by simp [q])) (fun w11 e11 H13 => ?_));dsimp only[lNA,lCA,lSZ,lSS,aO] at H13;refine dV Z Z (fun zw hx => ab aC Z aZ Z Z) (bY Z (wn Z) aZ Z Z Z H13 2 Z Z (fun _ h e _ => h.trans (e.mono fun _ _ q => by simp [q])) (fun w12 e12 H14 => ?_));dsimp only[lNA,lCA,lSZ,lSS,aO] at H14;refine dV Z Z (fun zw hx => ab aC Z aZ Z Z) (bY Z (wn Z) aZ Z Z Z H14 2 Z Z (fun _ h e _ => h.trans (e.mono fun _ _ q => by simp [q])) (fun w13 e13 H15 => ?_));dsimp only[lNA,lCA,lSZ,lSS,aO] at H15;refine aT (ag (sV Z (an aC Z aP Z Z (At.whole (H15.box 2 Z))) (bf (wn Z) aP Z Z Z Z H15 1 Z Z (fun w14 e14 H16 => ?_))));dsimp only[lNA,lCA,lSZ,lSS,aO] at H16;refine aa (bJ (hQ _ _ (dr Tryz.results316 Z (aL aC Z aP Z (At.whole (H16.box 1 Z))) ?_)));have eR : eC r = _ := DT c1 c2;refine ⟨H16.ext, ?_⟩;rw [eR];exact ⟨_, _, _, _, _, _, Z, ⟨[], .inr (.inl ⟨Z, Z, Z⟩)⟩, (H16.sees 1 Z), (H16.sees 2 Z)⟩
  ·refine ag (sV Z (ba Z Z) (sA Z Z (aa (az Z (fun c3 => ?_) (fun c3 => ?_)))))
   ·refine ao (sV Z (ab aC Z ts2 Z Z) (sV Z (ac tu2 Z Z (ae (H4.box 0 Z) Z)) (sV Z (ab aC Z ts2 Z Z) (bT (wn Z) ts2 Z Z Z H4 2 Z Z (fun w15 e15 H17 => ?_)))));dsimp only[lNA,lCA,lSZ,lSS,aO] at H17;refine aa (ag (sV Z (an aC Z aP Z Z (At.whole (H17.box 2 Z))) (bf (wn Z) aP Z Z Z Z H17 1 Z Z (fun w16 e16 H18 => ?_))));dsimp only[lNA,lCA,lSZ,lSS,aO] at H18;refine aa (bJ (hQ _ _ (dr Tryz.results316 Z (aL aC Z aP Z (At.whole (H18.box 1 Z))) ?_)));have eR : eC r = _ := DU c1 c2 c3;refine ⟨H18.ext, ?_⟩;rw [eR];exact ⟨_, _, _, _, _, _, Z, ⟨[], .inr (.inl ⟨Z, Z, Z⟩)⟩, ⟨[], .inr (.inl ⟨Z, Z, Z⟩)⟩, ⟨[], .inr (.inl ⟨Z, Z, Z⟩)⟩⟩
   ·refine ag (sV Z (ba Z Z) (sA Z Z (aa (az Z (fun c4 => ?_) (fun c4 => ?_)))))
    ·refine bE (S := Ext (· ∈ [b3]) _) (oQ [1,3,5,7,9,11,13,15,17,19,21,22,25,26,29,30,33,34,37,38]) (by kernel_rfl) (by kernel_rfl) (by kernel_rfl) Z (fun _ => Ext.refl.drawn _) (fun q3 => ?_);have H19 := H4.drawn q3;refine dV Z Z (fun zw hx => ab aC Z ts2 Z Z) (dV Z Z (fun zw hx => ac tu2 Z Z (ae (hx.heapM (H19.boff 0 Z 2 Z Z) (H19.box 0 Z)) Z)) (dV Z Z (fun zw hx => ab aC Z ts2 Z Z) (dV Z Z (fun zw hx => ac tu2 Z Z (ae (hx.heapM (H19.boff 0 Z 2 Z Z) (H19.box 0 Z)) Z)) (dV Z Z (fun zw hx => ab aC Z bV Z Z) (dV Z Z (fun zw hx => ac br Z Z (ae (hx.heapM (H19.boff 0 Z 2 Z Z) (H19.box 0 Z)) Z)) (dV Z Z (fun zw hx => ab aC Z aZ Z Z) (dV Z Z (fun zw hx => ac aR Z Z (ae (hx.heapM (H19.boff 0 Z 2 Z Z) (H19.box 0 Z)) Z)) (dV Z Z (fun zw hx => ab aC Z aZ Z Z) (dV Z Z (fun zw hx => ac aR Z Z (ae (hx.heapM (H19.boff 0 Z 2 Z Z) (H19.box 0 Z)) Z)) (dV Z Z (fun zw hx => ab aC Z ts2 Z Z) (bY Z (wn Z) ts2 Z Z Z H19 2 Z Z (fun _ h e _ => h.trans (e.mono fun _ _ q => by simp [q])) (fun w17 e17 H20 => ?_))))))))))));dsimp only[lNA,lCA,lSZ,lSS,aO] at H20;refine dV Z Z (fun zw hx => ab aC Z ts2 Z Z) (bY Z (wn Z) ts2 Z Z Z H20 2 Z Z (fun _ h e _ => h.trans (e.mono fun _ _ q => by simp [q])) (fun w18 e18 H21 => ?_));dsimp only[lNA,lCA,lSZ,lSS,aO] at H21;refine dV Z Z (fun zw hx => ab aC Z bV Z Z) (bY Z (wn Z) bV Z Z Z H21 2 Z Z (fun _ h e _ => h.trans (e.mono fun _ _ q => by simp [q])) (fun w19 e19 H22 => ?_));dsimp only[lNA,lCA,lSZ,lSS,aO] at H22;refine dV Z Z (fun zw hx => ab aC Z aZ Z Z) (bY Z (wn Z) aZ Z Z Z H22 2 Z Z (fun _ h e _ => h.trans (e.mono fun _ _ q => by simp [q])) (fun w20 e20 H23 => ?_));dsimp only[lNA,lCA,lSZ,lSS,aO] at H23;refine dV Z Z (fun zw hx => ab aC Z aZ Z Z) (bY Z (wn Z) aZ Z Z Z H23 2 Z Z (fun _ h e _ => h.trans (e.mono fun _ _ q => by simp [q])) (fun w21 e21 H24 => ?_));dsimp only[lNA,lCA,lSZ,lSS,aO] at H24;refine aT (ag (sV Z (an aC Z aP Z Z (At.whole (H24.box 2 Z))) (bf (wn Z) aP Z Z Z Z H24 1 Z Z (fun w22 e22 H25 => ?_))));dsimp only[lNA,lCA,lSZ,lSS,aO] at H25;refine aa (bJ (hQ _ _ (dr Tryz.results316 Z (aL aC Z aP Z (At.whole (H25.box 1 Z))) ?_)));have eR : eC r = _ := Du c1 c2 c3 c4;refine ⟨H25.ext, ?_⟩;rw [eR];exact ⟨_, _, _, _, _, _, Z, (H25.sees 0 Z), (H25.sees 1 Z), (H25.sees 2 Z)⟩
    ·refine ak (ag (sV Z (an aC Z aP Z Z (At.whole (H4.box 2 Z))) (bf (wn Z) aP Z Z Z Z H4 1 Z Z (fun w23 e23 H26 => ?_))));dsimp only[lNA,lCA,lSZ,lSS,aO] at H26;refine aa (bJ (hQ _ _ (dr Tryz.results316 Z (aL aC Z aP Z (At.whole (H26.box 1 Z))) ?_)));have eR : eC r = _ := DR c1 c2 c3 c4;refine ⟨H26.ext, ?_⟩;rw [eR];exact ⟨_, _, _, _, _, _, Z, ⟨[], .inr (.inl ⟨Z, Z, Z⟩)⟩, ⟨[], .inr (.inl ⟨Z, Z, Z⟩)⟩, ⟨[], .inr (.inl ⟨Z, Z, Z⟩)⟩⟩
theorem jG {w : World} {a b : Rec} {aA6 aA7 aA8 bA6 bA7 bA8 : Option Addr} {aC6 aC7 aC8 bC6 bC7 bC8 : Nat} (aK : a.Ok) (aS6 : Sees w [.slice aA6 a.Rows.length aC6] a.Rows) (aS7 : Sees w [.slice aA7 a.Data.length aC7] a.Data) (aS8 : Sees w [.slice aA8 a.Delta.length aC8] a.Delta) (bK : b.Ok) (bS6 : Sees w [.slice bA6 b.Rows.length bC6] b.Rows) (bS7 : Sees w [.slice bA7 b.Data.length bC7] b.Data) (bS8 : Sees w [.slice bA8 b.Delta.length bC8] b.Delta) : Ret Tryz.prog 307 #[a.val aA6 aC6 aA7 aC7 aA8 aC8, b.val bA6 bC6 bA7 bC7 bA8 bC8] w fun v w' => Ext No w w' ∧ (v = .bool (decide (a = b))) := by
 have aK2 := aK;unfold Rec.Ok at aK2
 try unfold I64ok at aK2
 try unfold maxLen at aK2
 have aN2 : a.Name.size ≤ maxLen := by unfold maxLen; omega
 have aL6 := sL aS6;obtain ⟨aF6, aO6⟩ := aS6;have aL7 := sL aS7;obtain ⟨aF7, aO7⟩ := aS7;have aL8 := sL aS8;obtain ⟨aF8, aO8⟩ := aS8;have bK2 := bK;unfold Rec.Ok at bK2
 try unfold I64ok at bK2
 try unfold maxLen at bK2
 have bN2 : b.Name.size ≤ maxLen := by unfold maxLen; omega
 have bL6 := sL bS6;obtain ⟨bF6, bO6⟩ := bS6;have bL7 := sL bS7;obtain ⟨bF7, bO7⟩ := bS7;have bL8 := sL bS8;obtain ⟨bF8, bO8⟩ := bS8;refine aF (vs := [a.val aA6 aC6 aA7 aC7 aA8 aC8, b.val bA6 bC6 bA7 bC7 bA8 bC8]) Tryz.func307 Z Tryz.ntmps307 Z (fun Q hQ hN => ?_);have H0 := Sep.start (w := w) (F := [seen false [.slice aA6 a.Rows.length aC6] a.Rows aF6, seen false [.slice aA7 a.Data.length aC7] a.Data aF7, seen false [.slice aA8 a.Delta.length aC8] a.Delta aF8, seen false [.slice bA6 b.Rows.length bC6] b.Rows bF6, seen false [.slice bA7 b.Data.length bC7] b.Data bF7, seen false [.slice bA8 b.Delta.length bC8] b.Delta bF8]) (all_cons aO6 (all_cons aO7 (all_cons aO8 (all_cons bO6 (all_cons bO7 (all_cons bO8 (by simp)))))));refine ag (be (wn Z) Z Z H0 (fun b1 w1 e1 g1 H1 => ?_));refine be (wn Z) Z Z H1 (fun b2 w2 e2 g2 H2 => ?_);refine sA Z Z (aa (ag (sV Z (ab aC Z ts2 Z Z) (sV Z (ac tu2 Z Z (ae (H2.box 0 Z) Z)) (sV Z (ab aC Z ts2 Z Z) (sV Z (ac tu2 Z Z (ae (H2.box 1 Z) Z)) (sV Z (ba Z Z) (sM Z Z (bv 5 (j := 5) (want := true) (t := 15) Z Z Z Z (fun hg1 kk1 => am (wgE Z Z Z hg1) Z Z (ab aC Z ts2 Z Z) (am (wgE Z Z Z hg1) Z Z (ac tu2 Z Z (ae (H2.box 0 Z) Z)) (am (wgE Z Z Z hg1) Z Z (ab aC Z ts2 Z Z) (am (wgE Z Z Z hg1) Z Z (ac tu2 Z Z (ae (H2.box 1 Z) Z)) (am (wgE Z Z Z hg1) Z Z (ba Z Z) (kk1 _ _ (kx Z (kx Z (kx Z (kx Z (kx Z k0))))) Z Ext.refl)))))) (fun w3 e3 => ?_))))))))));have H3 := H2.to e3;refine sV Z (bg Z Z) (sM Z Z (bv 5 (j := 12) (want := true) (t := 22) Z Z Z Z (fun hg2 kk2 => am (wgE Z Z Z hg2) Z Z (ab aC Z ts9 Z Z) (am (wgE Z Z Z hg2) Z Z (ac tu9 Z Z (ae (H3.box 0 Z) Z)) (am (wgE Z Z Z hg2) Z Z (ab aC Z ts9 Z Z) (am (wgE Z Z Z hg2) Z Z (ac tu9 Z Z (ae (H3.box 1 Z) Z)) (am (wgE Z Z Z hg2) Z Z (rc Z Z) (kk2 _ _ (kx Z (kx Z (kx Z (kx Z (kx Z k0))))) Z Ext.refl)))))) (fun w4 e4 => ?_)));have H4 := H3.to e4;refine sV Z (bg Z Z) (sM Z Z (bv 5 (j := 19) (want := true) (t := 29) Z Z Z Z (fun hg3 kk3 => am (wgE Z Z Z hg3) Z Z (ab aC Z ts2 Z Z) (am (wgE Z Z Z hg3) Z Z (ac tu2 Z Z (ae (H4.box 0 Z) Z)) (am (wgE Z Z Z hg3) Z Z (ab aC Z ts2 Z Z) (am (wgE Z Z Z hg3) Z Z (ac tu2 Z Z (ae (H4.box 1 Z) Z)) (am (wgE Z Z Z hg3) Z Z (ba Z Z) (kk3 _ _ (kx Z (kx Z (kx Z (kx Z (kx Z k0))))) Z Ext.refl)))))) (fun w5 e5 => ?_)));have H5 := H4.to e5;refine sV Z (bg Z Z) (sM Z Z (bv 5 (j := 26) (want := true) (t := 36) Z Z Z Z (fun hg4 kk4 => am (wgE Z Z Z hg4) Z Z (ab aC Z ts2 Z Z) (am (wgE Z Z Z hg4) Z Z (ac tu2 Z Z (ae (H5.box 0 Z) Z)) (am (wgE Z Z Z hg4) Z Z (ab aC Z ts2 Z Z) (am (wgE Z Z Z hg4) Z Z (ac tu2 Z Z (ae (H5.box 1 Z) Z)) (am (wgE Z Z Z hg4) Z Z (ba Z Z) (kk4 _ _ (kx Z (kx Z (kx Z (kx Z (kx Z k0))))) Z Ext.refl)))))) (fun w6 e6 => ?_)));have H6 := H5.to e6;refine sV Z (bg Z Z) (sM Z Z (bv 5 (j := 33) (want := true) (t := 43) Z Z Z Z (fun hg5 kk5 => am (wgE Z Z Z hg5) Z Z (ab aC Z ts2 Z Z) (am (wgE Z Z Z hg5) Z Z (ac tu2 Z Z (ae (H6.box 0 Z) Z)) (am (wgE Z Z Z hg5) Z Z (ab aC Z ts2 Z Z) (am (wgE Z Z Z hg5) Z Z (ac tu2 Z Z (ae (H6.box 1 Z) Z)) (am (wgE Z Z Z hg5) Z Z (ba Z Z) (kk5 _ _ (kx Z (kx Z (kx Z (kx Z (kx Z k0))))) Z Ext.refl)))))) (fun w7 e7 => ?_)));have H7 := H6.to e7;refine sV Z (bg Z Z) (sM Z Z (bv 5 (j := 40) (want := true) (t := 50) Z Z Z Z (fun hg6 kk6 => am (wgE Z Z Z hg6) Z Z (ab aC Z bV Z Z) (am (wgE Z Z Z hg6) Z Z (ac br Z Z (ae (H7.box 0 Z) Z)) (am (wgE Z Z Z hg6) Z Z (ab aC Z bV Z Z) (am (wgE Z Z Z hg6) Z Z (ac br Z Z (ae (H7.box 1 Z) Z)) (ct (wgE Z Z Z hg6) Z Z (aj Tryz.func361 Z xM Z) (ip (H7.sees 0 Z) (H7.sees 3 Z)) (fun w9 e9 => kk6 _ _ (kx Z (kx Z (kx Z (kx Z (kx Z k0))))) Z (Ext.refl.trans e9))))))) (fun w8 e8 => ?_)));have H8 := H7.to e8;refine sV Z (bg Z Z) (sM Z Z (bv 5 (j := 47) (want := true) (t := 57) Z Z Z Z (fun hg7 kk7 => am (wgE Z Z Z hg7) Z Z (ab aC Z aZ Z Z) (am (wgE Z Z Z hg7) Z Z (ac aR Z Z (ae (H8.box 0 Z) Z)) (am (wgE Z Z Z hg7) Z Z (ab aC Z aZ Z Z) (am (wgE Z Z Z hg7) Z Z (ac aR Z Z (ae (H8.box 1 Z) Z)) (ct (wgE Z Z Z hg7) Z Z (aj Tryz.func362 Z sP Z) (oM (H8.sees 1 Z) (H8.sees 4 Z)) (fun w11 e11 => kk7 _ _ (kx Z (kx Z (kx Z (kx Z (kx Z k0))))) Z (Ext.refl.trans e11))))))) (fun w10 e10 => ?_)));have H9 := H8.to e10;refine sV Z (bg Z Z) (sM Z Z (bv 5 (j := 54) (want := true) (t := 64) Z Z Z Z (fun hg8 kk8 => am (wgE Z Z Z hg8) Z Z (ab aC Z aZ Z Z) (am (wgE Z Z Z hg8) Z Z (ac aR Z Z (ae (H9.box 0 Z) Z)) (am (wgE Z Z Z hg8) Z Z (ab aC Z aZ Z Z) (am (wgE Z Z Z hg8) Z Z (ac aR Z Z (ae (H9.box 1 Z) Z)) (ct (wgE Z Z Z hg8) Z Z (aj Tryz.func362 Z sP Z) (oM (H9.sees 2 Z) (H9.sees 5 Z)) (fun w13 e13 => kk8 _ _ (kx Z (kx Z (kx Z (kx Z (kx Z k0))))) Z (Ext.refl.trans e13))))))) (fun w12 e12 => ?_)));have H10 := H9.to e12;refine sV Z (bg Z Z) (sA Z Z (aa (rT hQ Tryz.results307 Z ?_)));exact ⟨H10.ext, congrArg Value.bool (by rw [← vC]; simp only [Bool.and_assoc])⟩
set_option maxHeartbeats 1000000 in
theorem mY {w : World} {s : Shape} {r : Rec} {rA6 rA7 rA8 : Option Addr} {rC6 rC7 rC8 : Nat} (rK : r.Ok) (rS6 : Sees w [.slice rA6 r.Rows.length rC6] r.Rows) (rS7 : Sees w [.slice rA7 r.Data.length rC7] r.Data) (rS8 : Sees w [.slice rA8 r.Delta.length rC8] r.Delta) (hs : s.ok = true) : Ret Tryz.prog 259 #[s.v, r.val rA6 rC6 rA7 rC7 rA8 rC8] w fun v w' => Ext No w w' ∧ (v = .int .i64 (iB s r)) := by
 have rK2 := rK;unfold Rec.Ok at rK2
 try unfold I64ok at rK2
 try unfold maxLen at rK2
 have rN2 : r.Name.size ≤ maxLen := by unfold maxLen; omega
 have rL6 := sL rS6;obtain ⟨rF6, rO6⟩ := rS6;have rL7 := sL rS7;obtain ⟨rF7, rO7⟩ := rS7;have rL8 := sL rS8;obtain ⟨rF8, rO8⟩ := rS8;have sbd := bw hs;refine aF (vs := [s.v, r.val rA6 rC6 rA7 rC7 rA8 rC8]) Tryz.func259 Z Tryz.ntmps259 Z (fun Q hQ hN => ?_);have H0 := Sep.start (w := w) (F := [seen false [.slice rA6 r.Rows.length rC6] r.Rows rF6, seen false [.slice rA7 r.Data.length rC7] r.Data rF7, seen false [.slice rA8 r.Delta.length rC8] r.Delta rF8]) (all_cons rO6 (all_cons rO7 (all_cons rO8 (by simp))));refine ag (be (wn Z) Z Z H0 (fun b1 w1 e1 g1 H1 => ?_));refine be (wn Z) Z Z H1 (fun b2 w2 e2 g2 H2 => ?_);refine sA Z Z (aa (ag (sA Z Z (aa (Cz (γ := Unit) H2 [(3, _)] ⟨Z, trivial⟩ (fun _ => [(5, .int .i64 (fq s r))]) (fun _ => ins r.Kind 1 4 = true ∧ ins r.Seq 1 1000000000 = true) ?_ (fun _ w3 H3 ⟨hK, hS⟩ => ?_))))))
 ·refine au (ag (sV Z (ab aC Z ts2 Z Z) (sV Z (ac tu2 Z Z (ae (H2.box 1 Z) Z)) (ay (wn Z) Z Z (aj Tryz.func168 Z cl Z) bu (fun v1 w4 r1 => ?_)))));obtain ⟨e3, rfl⟩ := r1;have H4 := H2.to e3;refine sV Z (bb Z) (sA Z Z (aa (bP Z (fun c1 => ?_) (fun c1 => ?_))))
  ·refine ag (sA Z Z (aa (rT hQ Tryz.results259 Z ?_)));exact ⟨H4.ext, congrArg (Value.int .i64) (pp (dp c1)).symm⟩
  ·refine ag (sV Z (ab aC Z ts2 Z Z) (sV Z (ac tu2 Z Z (ae (H4.box 1 Z) Z)) (ay (wn Z) Z Z (aj Tryz.func168 Z cl Z) bu (fun v2 w5 r2 => ?_))));obtain ⟨e4, rfl⟩ := r2;have H5 := H4.to e4;refine sV Z (bb Z) (sA Z Z (aa (bP Z (fun c2 => ?_) (fun c2 => ?_))))
   ·refine ag (sA Z Z (aa (rT hQ Tryz.results259 Z ?_)));exact ⟨H5.ext, congrArg (Value.int .i64) (sn (aH c1) (dp c2)).symm⟩
   ·refine ag (sV Z (ab aC Z ts2 Z Z) (sV Z (ac tu2 Z Z (ae (H5.box 1 Z) Z)) (sV Z (ba Z Z) (sA Z Z (aa (az Z (fun c3 => ?_) (fun c3 => ?_)))))))
    ·refine ao (sV Z (an bq Z bQ Z Z (At.whole (H5.box 0 Z))) (sV Z (an aC Z aP Z Z (At.whole (H5.box 1 Z))) (ay (wn Z) Z Z (aj Tryz.func314 Z xz Z) (mI (by assumption) (H5.sees 0 Z) (H5.sees 1 Z) (H5.sees 2 Z) (by assumption)) (fun v3 w6 r3 => ?_))));obtain ⟨e5, rfl⟩ := r3;have H6 := H5.to e5;refine sA Z Z (aa ?_);have hk1 := ca.1 (aH c1);exact ⟨(), ⟨eqI (jw c3).symm, Z, trivial⟩, H6, aH c1, aH c2⟩
    ·refine ag (sV Z (ab aC Z ts2 Z Z) (sV Z (ac tu2 Z Z (ae (H5.box 1 Z) Z)) (sV Z (ba Z Z) (sA Z Z (aa (az Z (fun c4 => ?_) (fun c4 => ?_)))))))
     ·refine ao (sV Z (an bq Z bQ Z Z (At.whole (H5.box 0 Z))) (sV Z (an aC Z aP Z Z (At.whole (H5.box 1 Z))) (ay (wn Z) Z Z (aj Tryz.func315 Z xW Z) (lN (by assumption) (H5.sees 0 Z) (H5.sees 1 Z) (H5.sees 2 Z) (by assumption)) (fun v4 w7 r4 => ?_))));obtain ⟨e6, rfl⟩ := r4;have H7 := H5.to e6;refine sA Z Z (aa ?_);have hk1 := ca.1 (aH c1);exact ⟨(), ⟨eqI (eD (by omega)).symm, Z, trivial⟩, H7, aH c1, aH c2⟩
     ·refine ag (sV Z (ab aC Z ts2 Z Z) (sV Z (ac tu2 Z Z (ae (H5.box 1 Z) Z)) (sV Z (ba Z Z) (sA Z Z (aa (az Z (fun c5 => ?_) (fun c5 => ?_)))))))
      ·refine ag (sV Z (an bq Z bQ Z Z (At.whole (H5.box 0 Z))) (sV Z (ab aC Z ts2 Z Z) (sV Z (ac tu2 Z Z (ae (H5.box 1 Z) Z)) (ay (wn Z) Z Z (aj Tryz.func103 Z iY Z) (cS (by assumption)) (fun v5 w8 r5 => ?_)))));obtain ⟨e7, rfl⟩ := r5;have H8 := H5.to e7;refine sV Z (bb Z) (aa (bP Z (fun c6 => ?_) (fun c6 => ?_)))
       ·refine ao (sA Z Z (aa ?_));have hk1 := ca.1 (aH c1);exact ⟨(), ⟨eqI (mP (by omega) (dp c6)).symm, Z, trivial⟩, H8, aH c1, aH c2⟩
       ·refine ak ?_;have hk1 := ca.1 (aH c1);exact ⟨(), ⟨eqI (jW (by omega) (aH c6)).symm, Z, trivial⟩, H8, aH c1, aH c2⟩
      ·refine ah (bE (S := Ext No _) (oQ [1,3,5,6,9,11,13,15,17,18,21,23,25,27,29,33,30,34,37,39,41,43,45,49,46,50,53,55,56]) (by kernel_rfl) (by kernel_rfl) (by kernel_rfl) Z (fun _ => Ext.refl.drawn _) (fun q1 => ?_));have H9 := H5.drawn q1;refine dV Z Z (fun zw hx => an bq Z bQ Z Z (At.whole (hx.heap (H9.box 0 Z)))) (dV Z Z (fun zw hx => ab aC Z ts2 Z Z) (dV Z Z (fun zw hx => ac tu2 Z Z (ae (hx.heap (H9.box 1 Z)) Z)) (aM Z (wn Z) Z Z (aj Tryz.func118 Z yd Z) (lk (by assumption)) (fun hS _ _ r _ => hS.trans r.1.no) (fun v6 w9 r6 => ?_))));obtain ⟨e8, rfl⟩ := r6;have H10 := H9.to e8;refine dV Z Z (fun zw hx => bb Z) (dM Z Z Z (cx (t := 45) Z (fun hg1 => ?_) (fun hg1 => ?_)))
       ·try simp only [decide_eq_true_eq, decide_eq_false_iff_not] at hg1
        refine dKt Z Z Z Z (dKt Z Z Z Z (dKt Z Z Z Z (bm Z (wog (b := true) Z Z Z) Z Z (dKt Z Z Z Z (dV Z Z (fun zw hx => aJ Z Z) (dM Z Z Z (dKt Z Z Z Z (dKt Z Z Z Z (dKt Z Z Z Z (bm Z (wog (b := true) Z Z Z) Z Z (bm Z (wog (b := true) Z Z Z) Z Z (dKt Z Z Z Z (dV Z Z (fun zw hx => aJ Z Z) (dM Z Z Z (dKt Z Z Z Z (dKt Z Z Z Z (dKt Z Z Z Z (bm Z (wog (b := true) Z Z Z) Z Z (bm Z (wog (b := true) Z Z Z) Z Z (dKt Z Z Z Z (dV Z Z (fun zw hx => aJ Z Z) (aS Z (wn Z) Z Z (bD Z) (aT (du Z (ao (sA Z Z (aa ?_)))))))))))))))))))))))))));have hk1 := ca.1 (aH c1);exact ⟨(), ⟨eqI (dH (by omega) (by simp_all [gE])).symm, Z, trivial⟩, H10, aH c1, aH c2⟩
       ·try simp only [decide_eq_true_eq, decide_eq_false_iff_not] at hg1
        refine aI Z (wg Z Z Z) Z Z (fun zw hx => an bq Z bQ Z Z (At.whole (hx.heap (H9.box 0 Z)))) (aI Z (wg Z Z Z) Z Z (fun zw hx => ab aC Z ts2 Z Z) (aI Z (wg Z Z Z) Z Z (fun zw hx => ac tu2 Z Z (ae (hx.heap (H9.box 1 Z)) Z)) (aM Z (wg Z Z Z) Z Z (aj Tryz.func104 Z gW Z) (cI (by assumption)) (fun hS _ _ r _ => hS.trans r.1.no) (fun v7 w10 r7 => ?_))));obtain ⟨e9, rfl⟩ := r7;have H11 := H10.to e9;refine aI Z (wg Z Z Z) Z Z (fun zw hx => bb Z) (dV Z Z (fun zw hx => aQ Z Z) (dM Z Z Z (cx (t := 52) Z (fun hg2 => ?_) (fun hg2 => ?_))))
        ·try simp only [decide_eq_true_eq, decide_eq_false_iff_not] at hg2
         refine dKt Z Z Z Z (dKt Z Z Z Z (dKt Z Z Z Z (bm Z (wog (b := true) Z Z Z) Z Z (bm Z (wog (b := true) Z Z Z) Z Z (dKt Z Z Z Z (dV Z Z (fun zw hx => aJ Z Z) (dM Z Z Z (dKt Z Z Z Z (dKt Z Z Z Z (dKt Z Z Z Z (bm Z (wog (b := true) Z Z Z) Z Z (bm Z (wog (b := true) Z Z Z) Z Z (dKt Z Z Z Z (dV Z Z (fun zw hx => aJ Z Z) (aS Z (wn Z) Z Z (bD Z) (aT (du Z (ao (sA Z Z (aa ?_))))))))))))))))))));have hk1 := ca.1 (aH c1);exact ⟨(), ⟨eqI (dH (by omega) (by simp_all [gE])).symm, Z, trivial⟩, H11, aH c1, aH c2⟩
        ·try simp only [decide_eq_true_eq, decide_eq_false_iff_not] at hg2
         refine aI Z (wg Z Z Z) Z Z (fun zw hx => ab aC Z aZ Z Z) (aI Z (wg Z Z Z) Z Z (fun zw hx => ac aR Z Z (ae (hx.heap (H9.box 1 Z)) Z)) (aI Z (wg Z Z Z) Z Z (fun zw hx => an bq Z bQ Z Z (At.whole (hx.heap (H9.box 0 Z)))) (aM Z (wg Z Z Z) Z Z (aj Tryz.func119 Z iX Z) (fa (H11.sees 1 Z)) (fun hS _ _ r _ => hS.trans r.1.no) (fun v8 w11 r8 => ?_))));obtain ⟨e10, rfl⟩ := r8;have H12 := H11.to e10;refine aM Z (wg Z Z Z) Z Z (aj Tryz.func120 Z jn Z) (df (by assumption)) (fun hS _ _ r _ => hS.trans r.1.no) (fun v9 w12 r9 => ?_);obtain ⟨e11, rfl⟩ := r9;have H13 := H12.to e11;refine aI Z (wg Z Z Z) Z Z (fun zw hx => aU Z Z) (dV Z Z (fun zw hx => aQ Z Z) (dM Z Z Z (cx (t := 60) Z (fun hg3 => ?_) (fun hg3 => ?_))))
         ·try simp only [decide_eq_true_eq, decide_eq_false_iff_not] at hg3
          refine dKt Z Z Z Z (dKt Z Z Z Z (dKt Z Z Z Z (bm Z (wog (b := true) Z Z Z) Z Z (bm Z (wog (b := true) Z Z Z) Z Z (dKt Z Z Z Z (dV Z Z (fun zw hx => aJ Z Z) (aS Z (wn Z) Z Z (bD Z) (aT (du Z (ao (sA Z Z (aa ?_))))))))))));have hk1 := ca.1 (aH c1);exact ⟨(), ⟨eqI (dH (by omega) (by simp_all [gE])).symm, Z, trivial⟩, H13, aH c1, aH c2⟩
         ·try simp only [decide_eq_true_eq, decide_eq_false_iff_not] at hg3
          refine aI Z (wg Z Z Z) Z Z (fun zw hx => ab aC Z aZ Z Z) (aI Z (wg Z Z Z) Z Z (fun zw hx => ac aR Z Z (ae (hx.heap (H9.box 1 Z)) Z)) (aI Z (wg Z Z Z) Z Z (fun zw hx => an bq Z bQ Z Z (At.whole (hx.heap (H9.box 0 Z)))) (aM Z (wg Z Z Z) Z Z (aj Tryz.func119 Z iX Z) (fa (H13.sees 2 Z)) (fun hS _ _ r _ => hS.trans r.1.no) (fun v10 w13 r10 => ?_))));obtain ⟨e12, rfl⟩ := r10;have H14 := H13.to e12;refine aM Z (wg Z Z Z) Z Z (aj Tryz.func120 Z jn Z) (df (by assumption)) (fun hS _ _ r _ => hS.trans r.1.no) (fun v11 w14 r11 => ?_);obtain ⟨e13, rfl⟩ := r11;have H15 := H14.to e13;refine aI Z (wg Z Z Z) Z Z (fun zw hx => aU Z Z) (dV Z Z (fun zw hx => aQ Z Z) (aS Z (wn Z) Z Z (bD Z) (aT (az Z (fun c7 => ?_) (fun c7 => ?_)))))
          ·refine ao (sA Z Z (aa ?_));have hk1 := ca.1 (aH c1);exact ⟨(), ⟨eqI (dH (by omega) (by simp_all [gE])).symm, Z, trivial⟩, H15, aH c1, aH c2⟩
          ·refine ak ?_;have hk1 := ca.1 (aH c1);exact ⟨(), ⟨eqI (jX (by omega) (by simp_all [gE])).symm, Z, trivial⟩, H15, aH c1, aH c2⟩
 ·dsimp only[lCA,lNA];refine ah (ah (bE (S := Ext No _) (oQ [1,3,5,7,9,10,12,15,16]) (by kernel_rfl) (by kernel_rfl) (by kernel_rfl) Z (fun _ => Ext.refl.drawn _) (fun q2 => ?_)));have H16 := H3.drawn q2;refine dM Z Z Z (dV Z Z (fun zw hx => ba Z Z) (dM Z Z Z (cx (t := 70) Z (fun hg4 => ?_) (fun hg4 => ?_))))
  ·try simp only [decide_eq_true_eq, decide_eq_false_iff_not] at hg4
   refine aI Z (wg Z Z Z) Z Z (fun zw hx => an aC Z aP Z Z (At.whole (hx.heap (H16.box 1 Z)))) (aI Z (wg Z Z Z) Z Z (fun zw hx => an aC Z aP Z Z (At.whole (hx.heap (H16.box 1 Z)))) (aM Z (wg Z Z Z) Z Z (aj Tryz.func316 Z zC Z) (nf (by assumption) (H16.sees 0 Z) (H16.sees 1 Z) (H16.sees 2 Z)) (fun hS _ _ r _ => hS.trans r.1.no) (fun v12 w15 r12 => ?_)));obtain ⟨e14, bA1, bA2, bA3, bA4, bA5, bA6, rfl, bS1, bS2, bS3⟩ := r12;have H17 := H16.to e14;refine aM Z (wg Z Z Z) Z Z (aj Tryz.func307 Z rP Z) (jG (by assumption) (H17.sees 0 Z) (H17.sees 1 Z) (H17.sees 2 Z) (Co (by assumption)) bS1 bS2 bS3) (fun hS _ _ r _ => hS.trans r.1.no) (fun v13 w16 r13 => ?_);obtain ⟨e15, rfl⟩ := r13;have H18 := H17.to e15;refine aI Z (wg Z Z Z) Z Z (fun zw hx => bb Z) (aS Z (wn Z) Z Z (aJ Z Z) (aT (bP Z (fun c8 => ?_) (fun c8 => ?_))))
   ·refine ao (sA Z Z (aa (ag (sM Z Z (sA Z Z (aa (rT hQ Tryz.results259 Z ?_)))))));exact ⟨H18.ext, congrArg (Value.int .i64) ((ko hK hS (by omega) (by rw [← tE (ca.1 hK)]; exact dp c8)).trans Z).symm⟩
   ·refine ak (ag (sM Z Z (sA Z Z (aa (rT hQ Tryz.results259 Z ?_)))));exact ⟨H18.ext, congrArg (Value.int .i64) ((oU hK hS (by omega) (by rw [← tE (ca.1 hK)]; exact aH c8)).trans (by omega)).symm⟩
  ·try simp only [decide_eq_true_eq, decide_eq_false_iff_not] at hg4
   refine dKf Z Z Z Z (dKf Z Z Z Z (bm Z (wog (b := false) Z Z Z) Z Z (bm Z (wog (b := false) Z Z Z) Z Z (dKf Z Z Z Z (aS Z (wn Z) Z Z (aQ Z Z) (aT (gz Z (ak (ag (sM Z Z (sA Z Z (aa (rT hQ Tryz.results259 Z ?_)))))))))))));exact ⟨H16.ext, congrArg (Value.int .i64) (ex hK hS (by omega)).symm⟩
end Go.Wk
namespace Go.Wk
open Rp (sz own)
def RdV (w : World) (ft : List Nat) (vs : List RecV) : Prop := ∀ v ∈ vs, ∃ f, own false w v.cs v.r f ∧ ∀ b ∈ f, b ∈ ft
section
variable {w w' : World} {ft f : List Nat} {vs us : List RecV}
theorem RdV.to (h : RdV w ft vs) (e : Ext No w w') : RdV w' ft vs := fun v hv => by
  obtain ⟨f, h1, h2⟩ := h v hv
  exact ⟨f, Rp.st h1 fun b hb => e.block b (Rp.lt h1 b hb) id, h2⟩
theorem RdV.sub (h : RdV w ft vs) (hs : ∀ v ∈ us, v ∈ vs) : RdV w ft us := fun v hv => h v (hs v hv)
theorem RdV.nil : RdV w ft [] := fun v hv => by simp at hv
theorem RdV.app (h : RdV w ft vs) (k : RdV w ft us) : RdV w ft (vs ++ us) := fun v hv => by
  rcases List.mem_append.1 hv with hv | hv
  · exact h v hv
  · exact k v hv
theorem RdV.at {k : Nat} (h : RdV w ft vs) (hk : k < vs.length) : RdV w ft [vs.getD k default] := fun v hv => by
  rw [List.mem_singleton] at hv
  rw [hv, cy hk]
  exact h _ (List.getElem_mem _)
theorem t4 : ∀ {vs : List RecV} {cs f0}, cr false w cs vs f0 → RdV w ft vs → ∃ f, cr false w cs (vs.map RecV.r) f ∧ ∀ b ∈ f, b ∈ ft
  | [], _, _, h, _ => ⟨[], rfl, by simp⟩
  | v :: vs, cs, f0, ⟨g1, g2, e0, ⟨e1, eg, ok⟩, h2⟩, hr => by
    obtain ⟨f1, k1, k2⟩ := hr v (by simp)
    obtain ⟨f2, r1, r2⟩ := t4 h2 (hr.sub fun x hx => by simp [hx])
    refine ⟨f1 ++ f2, ⟨f1, f2, rfl, ?_, r1⟩, fun b hb => ?_⟩
    · rw [show cs.take (sz Rec) = v.cs from e1]; exact k1
    · rcases List.mem_append.1 hb with hb | hb
      · exact k2 b hb
      · exact r2 b hb
theorem BL {s : Bool} {ad n cap} {f0} (h : own s w [.slice ad n cap] vs f0) (hr : RdV w ft vs) : ∃ f, own false w [.slice ad n cap] (vs.map RecV.r) f ∧ ∀ b ∈ f, b ∈ f0 ∨ b ∈ ft := by
  have el : (vs.map RecV.r).length = vs.length := List.length_map _
  rcases bc h with ⟨hf, A, C, e, rfl, rfl⟩ | ⟨e, rfl, rfl⟩ | ⟨b, o, cap', cur, T, fr, fs, h1, h2, h3, h4, h5, h6, h7, h8⟩
  · exact ⟨[], .inl ⟨rfl, A, C, e, rfl, rfl⟩, by simp⟩
  · exact ⟨[], .inr (.inl ⟨e, rfl, rfl⟩), by simp⟩
  · obtain ⟨f1, k1, k2⟩ := t4 h8 hr
    refine ⟨b :: f1, .inr (.inr ⟨b, o, cap', cur, T, fr, f1, by rw [el]; exact h1, rfl, h3, h4, by rw [el]; exact h5, h6, h7, k1⟩), fun x hx => ?_⟩
    rcases List.mem_cons.1 hx with rfl | hx
    · left; rw [h2]; simp
    · exact .inr (k2 x hx)
end
theorem Dy {vs : List RecV} (h : Ord kLt cN vs) : Ord kLt dt (vs.map RecV.r) := by
  induction h with
  | nil => exact .nil
  | cons h1 h2 ih => exact .cons (fun y hy => by obtain ⟨v, hv, rfl⟩ := List.mem_map.1 hy; exact h1 v hv) ih
theorem B5 {vs us : List RecV} (h : cH cN vs us) : cH dt (vs.map RecV.r) (us.map RecV.r) := fun k => by
  rw [List.filter_map, List.filter_map]
  exact congrArg (List.map RecV.r) (h k)
theorem wX {vs us : List RecV} (h : Stable kLt cN vs us) : Stable kLt dt (vs.map RecV.r) (us.map RecV.r) := ⟨Dy h.1, B5 h.2⟩
theorem DC {ys : List Rec} (x : Rec) (h : Ord kLt dt ys) : ∃ A B, ys = A ++ B ∧ (∀ y ∈ B, kLt (dt x) (dt y)) ∧ ∀ y ∈ A, ¬ kLt (dt x) (dt y) := by
  induction h with
  | nil => exact ⟨[], [], rfl, by simp, by simp⟩
  | cons h1 h2 ih =>
    rename_i y l
    by_cases c : kLt (dt x) (dt y)
    · refine ⟨[], y :: l, rfl, fun z hz => ?_, by simp⟩
      rcases List.mem_cons.1 hz with rfl | hz
      · exact c
      · exact nY c (h1 z hz)
    · obtain ⟨A, B, e, hB, hA⟩ := ih
      refine ⟨y :: A, B, by rw [e]; rfl, hB, fun z hz => ?_⟩
      rcases List.mem_cons.1 hz with rfl | hz
      · exact c
      · exact hA z hz
theorem wE (xs : List Rec) (x : Rec) (h : ∃ ys, Stable kLt dt xs ys) : ∃ ys, Stable kLt dt (xs ++ [x]) ys := by
  obtain ⟨ys, hy⟩ := h
  obtain ⟨A, B, rfl, hB, hA⟩ := DC x hy.1
  exact ⟨_, ka kS hy hB hA⟩
theorem mi (xs : List Rec) : ∃ ys, Stable kLt dt xs ys := by
  have : ∀ (n : Nat), ∃ ys, Stable kLt dt (xs.take n) ys := fun n => by
    induction n with
    | zero => exact ⟨[], by simp; exact ⟨.nil, .refl⟩⟩
    | succ n ih =>
      by_cases hn : n < xs.length
      · rw [List.take_add_one, List.getElem?_eq_getElem hn]; exact wE _ _ ih
      · rw [List.take_of_length_le (by omega)] at ih ⊢; exact ih
  have := this xs.length
  rwa [List.take_length] at this
noncomputable def E7 (xs : List Rec) : List Rec := (mi xs).choose
theorem Dl {xs ys : List Rec} (h : Stable kLt dt xs ys) : ys = E7 xs := tN kS h (mi xs).choose_spec
noncomputable def ddR (out : List Rec) (r : Rec) : List Rec := if r ∈ out then out else out ++ [r]
noncomputable def allR (z : Wld) (k : Nat) : List Rec := ((z.Tapes.take k).map Tape.Recs).flatten
noncomputable def dds (rs : List Rec) : List Rec := rs.foldl ddR []
noncomputable def dG (z : Wld) : List Rec := E7 (dds (allR z z.Tapes.length))
noncomputable def eT (z : Wld) (k j : Nat) : List Rec := dds (allR z k ++ (z.Tapes.getD k default).Recs.take j)
theorem rF {z : Wld} : eT z 0 0 = [] := by simp [eT, allR, dds]
theorem eG {z : Wld} {k j : Nat} (h : j < (z.Tapes.getD k default).Recs.length) : eT z k (j + 1) = ddR (eT z k j) ((z.Tapes.getD k default).Recs.getD j default) := by
  unfold eT dds
  rw [List.take_add_one, List.getElem?_eq_getElem h, cy h, ← List.append_assoc, List.foldl_append]
  rfl
theorem rv {z : Wld} {k : Nat} (h : k < z.Tapes.length) : eT z k (z.Tapes.getD k default).Recs.length = eT z (k + 1) 0 := by
  unfold eT allR
  rw [List.take_length, List.take_add_one, List.getElem?_eq_getElem h, cy h, List.take_zero, List.append_nil, List.map_append, List.flatten_append]
  simp only [Option.toList_some, List.map_cons, List.map_nil, List.flatten_cons, List.flatten_nil, List.append_nil]
theorem ub {z : Wld} {ys : List Rec} (h : Stable kLt dt (eT z z.Tapes.length 0) ys) : ys = dG z := by
  unfold dG
  rw [← Dl]
  unfold eT at h
  simpa using h
theorem BW {out : List Rec} {r : Rec} (h : r ∈ out) : ddR out r = out := if_pos h
theorem se {out : List Rec} {r : Rec} (h : ¬ r ∈ out) : ddR out r = out ++ [r] := if_neg h
theorem fU {xs ys : List Rec} (h : Stable kLt dt xs ys) (r : Rec) : r ∈ ys ↔ r ∈ xs := ⟨fun q => h.2.mem q, fun q => h.2.symm.mem q⟩
theorem AC {z : Wld} : ∀ {k j : Nat}, (eT z k j).length ≤ (allR z k).length + j := by
  intro k j
  have key : ∀ (rs out : List Rec), (rs.foldl ddR out).length ≤ out.length + rs.length := by
    intro rs
    induction rs with
    | nil => intro out; simp
    | cons r rs ih =>
      intro out
      have := ih (ddR out r)
      have h2 : (ddR out r).length ≤ out.length + 1 := by unfold ddR; split <;> simp
      simp only [List.foldl_cons, List.length_cons]
      omega
  have := key (allR z k ++ (z.Tapes.getD k default).Recs.take j) []
  unfold eT dds
  simp only [List.length_nil, List.length_append, List.length_take] at this
  omega
def orI : List Int → Int
  | [] => 0
  | x :: xs => if x = 0 then orI xs else x
theorem CN : ∀ {xs : List Int} {k : Nat}, k < xs.length → (∀ i, i < k → xs.getD i 0 = 0) → xs.getD k 0 ≠ 0 → orI xs = xs.getD k 0
  | [], k, h, _, _ => by simp at h
  | x :: xs, 0, _, _, h2 => if_neg h2
  | x :: xs, k + 1, h, h1, h2 => by
    have h0 : x = 0 := h1 0 (by omega)
    show (if x = 0 then orI xs else x) = _
    rw [if_pos h0, CN (k := k) (by simpa using h) (fun i hi => h1 (i + 1) (by omega)) h2]
    rfl
theorem Eo : ∀ {xs : List Int}, (∀ i, i < xs.length → xs.getD i 0 = 0) → orI xs = 0
  | [], _ => rfl
  | x :: xs, h => by
    have h0 : x = 0 := h 0 (by simp)
    show (if x = 0 then orI xs else x) = _
    rw [if_pos h0]
    exact Eo fun i hi => h (i + 1) (by simpa using hi)
theorem Fa {x y : Rec} : orI [iD x.Seq y.Seq, iD x.Kind y.Kind, iD x.Group y.Group] = cfR x y := by
  unfold cfR orI orI orI orI
  by_cases a : iD x.Seq y.Seq = 0 <;> by_cases b : iD x.Kind y.Kind = 0 <;> by_cases c : iD x.Group y.Group = 0 <;> simp [a, b, c]
end Go.Wk
namespace Go.Wk
open Rp (sz own)
def fF (p : Rec → Bool) (rs : List Rec) : Nat → Int
  | 0 => -1
  | k + 1 => if p (rs.getD k default) = true then (k : Int) else fF p rs k
def fv (p : Rec → Bool) (rs : List Rec) : Int := fF p rs rs.length
section
variable {p : Rec → Bool} {rs : List Rec} {k : Nat}
theorem sJ (h : p (rs.getD k default) = true) : fF p rs (k + 1) = k := if_pos h
theorem pR (h : p (rs.getD k default) = false) : fF p rs (k + 1) = fF p rs k := if_neg (by rw [h]; simp)
theorem uQ : ∀ (k : Nat), -1 ≤ fF p rs k ∧ fF p rs k < k
  | 0 => by simp [fF]
  | k + 1 => by
    have := uQ k
    rw [fF]
    split <;> omega
theorem sK : -1 ≤ fv p rs ∧ fv p rs < rs.length := uQ rs.length
theorem uF (h : p (rs.getD k default) = true) : ∀ {n : Nat}, k < n → (∀ j, k < j → j < n → p (rs.getD j default) = false) → fF p rs n = k
  | 0, h1, _ => by omega
  | n + 1, h1, h2 => by
    by_cases e : n = k
    · subst e; exact sJ h
    · rw [pR (h2 n (by omega) (by omega))]
      exact uF h (by omega) fun j a b => h2 j a (by omega)
theorem B4 (h1 : k < rs.length) (h : p (rs.getD k default) = true) (h2 : ∀ j, k < j → j < rs.length → p (rs.getD j default) = false) : fv p rs = k := uF h h1 h2
theorem qs : ∀ {n : Nat}, (∀ j, j < n → p (rs.getD j default) = false) → fF p rs n = -1
  | 0, _ => rfl
  | n + 1, h => by rw [pR (h n (by omega))]; exact qs fun j a => h j (by omega)
theorem zz (h : ∀ j, j < rs.length → p (rs.getD j default) = false) : fv p rs = -1 := qs h
theorem rQ : ∀ {n : Nat}, 0 ≤ fF p rs n → p (rs.getD (fF p rs n).toNat default) = true
  | 0, h => by simp [fF] at h
  | n + 1, h => by
    rw [fF] at h ⊢
    split
    · next e => simpa using e
    · next e => rw [if_neg e] at h; exact rQ h
end
def shP (g row : Int) (r : Rec) : Bool := decide (r.Kind = 4) && (decide (r.Group = g) && decide (r.Row = row))
def spS (r x : Rec) : Bool := (decide (x.Kind = 3) && decide (x.Seq = r.Seq)) || (decide (x.Kind = 4) && (decide (x.Group = r.Group) && (decide (x.Row = r.Row) && decide (r.Seq < x.Seq))))
noncomputable def gn (z : Wld) (g row : Int) : Int := fv (shP g row) (dG z)
noncomputable def opR (z : Wld) (g row : Int) : Rec := if 0 ≤ gn z g row then (dG z).getD (gn z g row).toNat default else default
noncomputable def lw (z : Wld) (g row : Int) : Bool := decide (0 ≤ gn z g row) && !((dG z).any (spS (opR z g row)))
noncomputable def zl (z : Wld) (g row : Int) : Int := if lw z g row = true then gn z g row else -1
section
variable {z : Wld} {g row : Int} {k : Nat}
theorem vQ {r : Rec} (h : shP g row r = true) : r.Kind = 4 ∧ r.Group = g ∧ r.Row = row := by
  unfold shP at h; simp only [Bool.and_eq_true, decide_eq_true_eq] at h; exact h
theorem EX (h : gn z g row = k) : opR z g row = (dG z).getD k default := by unfold opR; rw [if_pos (by omega), h]; rfl
theorem BY (h : gn z g row = -1) : opR z g row = default := by unfold opR; rw [if_neg (by omega)]
theorem El (h : gn z g row = -1) : lw z g row = false := by unfold lw; rw [decide_eq_false (by omega)]; rfl
theorem DO (h : 0 ≤ gn z g row) : lw z g row = !((dG z).any (spS (opR z g row))) := by unfold lw; rw [decide_eq_true h]; rfl
theorem DH : -1 ≤ zl z g row ∧ zl z g row < (dG z).length := by
  have := sK (p := shP g row) (rs := dG z)
  unfold zl gn
  split <;> omega
theorem DP : lw z g row = decide (0 ≤ zl z g row) := by
  unfold zl
  cases h : lw z g row
  · simp
  · unfold lw at h
    simp only [Bool.and_eq_true, decide_eq_true_eq] at h
    simp [h.1]
end
def opI (xs : List Rec) (g row : Int) : Int := if 0 ≤ fv (shP g row) xs then (if xs.any (spS (xs.getD (fv (shP g row) xs).toNat default)) = true then -1 else fv (shP g row) xs) else -1
section
variable {xs : List Rec} {g row : Int} {p : Rec → Bool}
theorem BU (h : ¬ 0 ≤ fv (shP g row) xs) : opI xs g row = -1 := by rw [opI, if_neg h]
theorem Bq (h : 0 ≤ fv (shP g row) xs) (h2 : xs.any (spS (xs.getD (fv (shP g row) xs).toNat default)) = true) : opI xs g row = -1 := by rw [opI, if_pos h, if_pos h2]
theorem CZ (h : 0 ≤ fv (shP g row) xs) (h2 : xs.any (spS (xs.getD (fv (shP g row) xs).toNat default)) = false) : opI xs g row = fv (shP g row) xs := by rw [opI, if_pos h, if_neg (by rw [h2]; simp)]
theorem Dg {k : Nat} (h : k < xs.length) (e : p (xs.getD k default) = true) : xs.any p = true := by
  rw [cy h] at e
  exact List.any_eq_true.2 ⟨_, List.getElem_mem _, e⟩
theorem Bv (h : ∀ i, i < xs.length → p (xs.getD i default) = false) : xs.any p = false := by
  rw [List.any_eq_false]
  intro x hx
  obtain ⟨i, hi, e⟩ := List.getElem_of_mem hx
  have := h i hi
  rw [cy hi, e] at this
  simp [this]
theorem Ee {z : Wld} : opI (dG z) g row = zl z g row := by
  unfold opI zl lw
  by_cases h : 0 ≤ gn z g row
  · have hR : opR z g row = (dG z).getD (gn z g row).toNat default := by unfold opR; rw [if_pos h]
    rw [if_pos (show 0 ≤ fv (shP g row) (dG z) from h), decide_eq_true h, Bool.true_and, hR]
    unfold gn
    cases (dG z).any (spS ((dG z).getD (fv (shP g row) (dG z)).toNat default)) <;> simp
  · rw [if_neg (show ¬ 0 ≤ fv (shP g row) (dG z) from h), decide_eq_false h]; simp
end
end Go.Wk
namespace Go.Wk
open Rp (sz own)
section
variable {w w' w0 : World} {ft f : List Nat} {vs us : List RecV} {M : Nat → Prop} {Δ F : List Rsc}
theorem RdV.back (h : RdV w' ft vs) (e : Ext No w w') (hl : ∀ b ∈ ft, b < w.heap.size) : RdV w ft vs := fun v hv => by
  obtain ⟨f, h1, h2⟩ := h v hv
  exact ⟨f, Rp.st h1 fun b hb => (e.block b (hl b (h2 b hb)) id).symm, h2⟩
def InF {α : Type} [Rp α] (w : World) (ft : List Nat) (cs : List Value) (x : α) : Prop := ∃ f, own false w cs x f ∧ ∀ b ∈ f, b ∈ ft
theorem RdV.inAt {k : Nat} (h : RdV w ft vs) (hk : k < vs.length) : InF w ft (vs.getD k default).cs (vs.getD k default).r := h _ (by rw [cy hk]; exact List.getElem_mem _)
theorem InF.to {α : Type} [Rp α] {cs : List Value} {x : α} (h : InF w ft cs x) (e : Ext No w w') : InF w' ft cs x := by
  obtain ⟨f, h1, h2⟩ := h
  exact ⟨f, Rp.st h1 fun b hb => e.block b (Rp.lt h1 b hb) id, h2⟩
theorem InF.back {α : Type} [Rp α] {cs : List Value} {x : α} (h : InF w' ft cs x) (e : Ext No w w') (hl : ∀ b ∈ ft, b < w.heap.size) : InF w ft cs x := by
  obtain ⟨f, h1, h2⟩ := h
  exact ⟨f, Rp.st h1 fun b hb => (e.block b (hl b (h2 b hb)) id).symm, h2⟩
theorem InF.val {v : RecV} {x : Rec} (h : InF w ft v.cs v.r) (e : v.r = x) : InF w ft (RecV.mk x v.A6 v.C6 v.A7 v.C7 v.A8 v.C8).cs x := by subst e; exact h
theorem InF.rdv {v : RecV} (h : InF w ft v.cs v.r) : RdV w ft [v] := fun u hu => by
  rw [List.mem_singleton] at hu; subst hu; exact h
theorem BZ : InF w ft (RecV.mk default none 0 none 0 none 0).cs (default : Rec) := ⟨[], bc vP, by simp⟩
theorem InF.ok {v : RecV} (h : InF w ft v.cs v.r) : v.r.Ok := by
  obtain ⟨f, h1, _⟩ := h
  obtain ⟨f6, f7, f8, _, ok, _⟩ := CW h1
  exact ok
theorem Mut.none {α : Type} [Rp α] {cs : List Value} {x : α} {fp : List Nat} (e : Ext No w w') (h : own true w cs x fp) (hn : fp.Nodup) : Mut w w' fp cs x :=
  ⟨e.no, fp, Rp.st h fun b hb => e.block b (Rp.lt h b hb) id, hn, fun b hb => .inl hb⟩
theorem xr : Stable kLt cN ([] : List RecV) [] := ⟨.nil, .refl⟩
theorem RdV.stable (h : RdV w ft vs) (hs : Stable kLt cN vs us) : RdV w ft us := h.sub fun v hv => hs.2.mem hv
theorem RdV.snoc {v : RecV} (h : RdV w ft vs) (hv : InF w ft v.cs v.r) : RdV w ft (vs ++ [v]) := h.app hv.rdv
theorem RdV.okAt {k : Nat} (h : RdV w ft vs) (hk : k < vs.length) : (vs.getD k default).r.Ok := (h.inAt hk).ok
theorem RdV.list {s : Bool} {ad n cap} {f0 : List Nat} (hr : RdV w ft vs) (h : own s w [.slice ad n cap] vs f0) : Sees w [.slice ad n cap] (vs.map RecV.r) := by
  obtain ⟨f, h1, _⟩ := BL h hr
  exact ⟨f, h1⟩
end
theorem vh {a b : Int} : -1 ≤ iD a b ∧ iD a b ≤ 1 := by unfold iD; split <;> (try split) <;> omega
instance (a b : Int × Int × Int) : Decidable (kLt a b) := by unfold kLt; infer_instance
instance : Flat RecV where
  flat h := ⟨h.2.1, fun _ _ => ⟨h.1, rfl, h.2.2⟩⟩
theorem Ez {xs : List Rec} {r : Rec} : xs.any (fun x => decide (x = r)) = decide (r ∈ xs) := by
  rw [Bool.eq_iff_iff]; simp
theorem Dp {xs : List Rec} {r : Rec} {k : Nat} (h : k < xs.length) (e : xs.getD k default = r) : true = decide (r ∈ xs) := by
  rw [eq_comm, decide_eq_true_eq, ← e, cy h]; exact List.getElem_mem _
theorem EO {xs : List Rec} {r : Rec} (h : ∀ i, i < xs.length → decide (xs.getD i default = r) = false) : false = decide (r ∈ xs) := by
  rw [eq_comm, decide_eq_false_iff_not]
  intro hm
  obtain ⟨i, hi, e⟩ := List.getElem_of_mem hm
  have := h i hi
  rw [decide_eq_false_iff_not, cy hi] at this
  exact this e
theorem dB {vs : List RecV} {rs : List Rec} (e : vs.map RecV.r = rs) {k : Nat} (hk : k < vs.length) : (vs.getD k default).r = rs.getD k default := by
  rw [← e, cy hk]; simp [List.getD, hk]
theorem Ef {z : Wld} {vs us : List RecV} (hm : vs.map RecV.r = eT z z.Tapes.length 0) (hs : Stable kLt cN vs us) : us.map RecV.r = dG z :=
  ub (by rw [← hm]; exact wX hs)
theorem wB {z : Wld} {B : Nat} (h : ∀ k, (z.Tapes.getD k default).Recs.length ≤ B) : ∀ k, k ≤ z.Tapes.length → (allR z k).length ≤ k * B
  | 0, _ => by simp [allR]
  | k + 1, hk => by
    have ih := wB h k (by omega)
    have h1 := h k
    unfold allR at ih ⊢
    rw [List.take_add_one, List.getElem?_eq_getElem (by omega), List.map_append, List.flatten_append, List.length_append]
    simp only [Option.toList_some, List.map_cons, List.map_nil, List.flatten_cons, List.flatten_nil, List.append_nil]
    rw [← cy (by omega) (d := default)]
    rw [Nat.add_mul]; omega
theorem of {z : Wld} (hT : z.Tapes.length = 2) (h : ∀ k, (z.Tapes.getD k default).Recs.length ≤ 200000) {k j : Nat} (hk : k ≤ 2) (hj : j ≤ 200000) : (eT z k j).length ≤ 600000 := by
  have h1 := AC (z := z) (k := k) (j := j)
  have h2 := wB h k (by omega)
  omega
theorem nV {z : Wld} (hT : z.Tapes.length = 2) (h : ∀ k, (z.Tapes.getD k default).Recs.length ≤ 200000) : (dG z).length ≤ 600000 := by
  have h1 := of hT h (k := 2) (j := 0) (by omega) (by omega)
  have h2 : Stable kLt dt (eT z z.Tapes.length 0) (dG z) := by
    unfold dG eT
    simp only [List.take_zero, List.append_nil]
    exact (mi _).choose_spec
  have := h2.2.len
  rw [hT] at this
  omega
theorem rm {z : Wld} (h : worldF z = 0) : ∀ k, (z.Tapes.getD k default).Recs.length ≤ 200000 := fun k => by
  have hT := (cR h).2.2.2.1
  obtain ⟨h1, h2⟩ := oY h
  by_cases e : k < 2
  · have : k = 0 ∨ k = 1 := by omega
    rcases this with rfl | rfl <;> omega
  · have : z.Tapes.getD k default = default := by simp [List.getD, List.getElem?_eq_none (show z.Tapes.length ≤ k by omega)]
    rw [this]; exact Nat.zero_le _
end Go.Wk
namespace Go.Wk
section
variable {vs : List RecV} {r : Rec} {a : Nat}
theorem DS {rs : List Rec} (h : Ord kLt dt rs) : ∀ {i q : Nat}, i ≤ q → q < rs.length → ¬ kLt (dt (rs.getD q default)) (dt (rs.getD i default)) := by
  induction h with
  | nil => intro i q _ h; simp at h
  | cons h1 h2 ih =>
    rename_i y l
    intro i q hiq hq
    cases i with
    | zero =>
      cases q with
      | zero => exact kS.irr _
      | succ q =>
        have hq' : q < l.length := by simpa using hq
        show ¬ kLt (dt (l.getD q default)) (dt y)
        rw [cy hq']
        exact h1 _ (List.getElem_mem _)
    | succ i =>
      cases q with
      | zero => omega
      | succ q => exact ih (by omega) (by simpa using hq)
theorem EW {rs : List Rec} (ho : Ord kLt dt rs) (ha : a ≤ rs.length) (h : a = 0 ∨ ¬ kLt (dt r) (dt (rs.getD (a - 1) default))) : ∀ y ∈ rs.take a, ¬ kLt (dt r) (dt y) := by
  intro y hy
  obtain ⟨i, hi, e⟩ := List.getElem_of_mem hy
  rw [List.length_take] at hi
  rw [List.getElem_take] at e
  rcases h with h | h
  · omega
  · intro hlt
    have h2 := DS ho (i := i) (q := a - 1) (by omega) (by omega)
    rw [cy (by omega : i < rs.length), e] at h2
    exact h (nY hlt h2)
theorem Ew {rs : List Rec} (hB : ∀ i, a ≤ i → i < rs.length → kLt (dt r) (dt (rs.getD i default))) : ∀ y ∈ rs.drop a, kLt (dt r) (dt y) := by
  intro y hy
  obtain ⟨i, hi, e⟩ := List.getElem_of_mem hy
  rw [List.length_drop] at hi
  rw [List.getElem_drop] at e
  have := hB (a + i) (by omega) (by omega)
  rwa [cy (by omega), e] at this
theorem mc {xs rs : List Rec} (h : Stable kLt dt xs rs) (ha : a ≤ rs.length) (h1 : a = 0 ∨ ¬ kLt (dt r) (dt (rs.getD (a - 1) default))) (hB : ∀ i, a ≤ i → i < rs.length → kLt (dt r) (dt (rs.getD i default))) :
    Stable kLt dt (xs ++ [r]) (rs.take a ++ r :: rs.drop a) :=
  ka kS (by rw [List.take_append_drop]; exact h) (Ew hB) (EW h.1 ha h1)
theorem z3 {l h : Nat} : (cut vs l h).map RecV.r = cut (vs.map RecV.r) l h := by unfold cut; rw [List.map_take, List.map_drop]
theorem kz {v : RecV} (e : v.r = r) (ha : a ≤ vs.length) : (cut vs 0 a ++ [v] ++ cut vs a vs.length).map RecV.r = (vs.map RecV.r).take a ++ r :: (vs.map RecV.r).drop a := by
  rw [List.map_append, List.map_append, z3, z3]
  unfold cut
  rw [List.drop_zero, Nat.sub_zero, List.take_of_length_le (by simp : ((vs.map RecV.r).drop a).length ≤ vs.length - a)]
  simp [e]
theorem fM {l h : Nat} : ∀ v ∈ cut vs l h, v ∈ vs := fun v hv => by
  unfold cut at hv
  exact List.mem_of_mem_drop (List.mem_of_mem_take hv)
end
end Go.Wk
namespace Go.Wk
open Rp (sz own)
section
variable {P : Program} {n : Nat} {ops : Array Oper} {Q : Post} {L : Env} {w w0 : World} {M : Nat → Prop} {Δ F : List Rsc} {d : Tmp} {ty : TypeId} {p : String} {af : Array Edge} {g : Option (Nat × Bool)}
theorem EA {l : Nat} {rl : List (Nat × Bool)} {S : World → Prop} {t e : TypeId} {parts : Array (Nat × Operand)} {z : Value} {bytes : Nat} (xs : List Int) (ho : ops.toList[l]? = some ⟨some d, .buildSlice t xs.length parts, ty, p, af, g⟩) (hw : Wn ops n L ⟨some d, .buildSlice t xs.length parts, ty, p, af, g⟩) (hn : Nat.blt d n = true) (ht : P.underlying t = some (.slice e)) (hT : Ty P e z 1 bytes)
    (hix : parts.toList.map (·.1) = List.range xs.length) (hv : kA L (parts.toList.map (·.2)) = some (xs.map (Value.int .i64))) (hk : ∀ x ∈ xs, I64ok x) (h0 : 0 < xs.length) (hl : xs.length ≤ 1000) (H : Sep M w0 Δ F w) (hS : ∀ w', S w → Ext No w w' → S w')
    (k : ∀ b w', Ext No w w' → w.heap.size ≤ b → Sep M w0 (Δ ++ [mine [.slice (some ⟨b, 0, none⟩) xs.length xs.length] xs [b]]) F w' → DL P n ops Q S rl ((d, .slice (some ⟨b, 0, none⟩) xs.length xs.length) :: L) w') :
    DL P n ops Q S ((l, false) :: rl) L w := by
  have hparts : ∀ a, Good n a L → (parts.map fun (i, x) => (i, a.eval x)).toList = ((xs.map (Value.int .i64)).zipIdx 0).map fun x => (x.2, x.1) := fun a ha => by
    have key : ∀ (l : List (Nat × Operand)) (vs : List Value) (k : Nat), l.map (·.1) = List.range' k vs.length → kA L (l.map (·.2)) = some vs → l.map (fun x => (x.1, a.eval x.2)) = (vs.zipIdx k).map fun x => (x.2, x.1) := by
      intro l
      induction l with
      | nil => intro vs k h1 h2; simp [kA] at h2; subst h2; rfl
      | cons x l ih =>
        intro vs k h1 h2
        simp only [List.map_cons] at h1 h2 ⊢
        unfold kA at h2
        split at h2
        · rename_i v us hv hus
          cases h2
          rw [List.length_cons, List.range'_succ] at h1
          simp only [List.cons.injEq] at h1
          rw [List.zipIdx_cons, List.map_cons, ← ih us (k + 1) h1.2 hus, ha.eval hv, h1.1]
        · cases h2
    rw [Array.toList_map]
    refine key parts.toList _ 0 ?_ hv
    rw [hix, List.length_map, List.range_eq_range']
  have hp := zu (n := n) (w := w) (ty := ty) (p := p) (af := af) (g := g) (d := some d) (parts := parts) (vs := xs.map (Value.int .i64)) (len := xs.length) ht hT (by omega) (by simp) hparts (by intro v hv; simp at hv; obtain ⟨x, _, rfl⟩ := hv; rfl) h0 (by omega)
  refine qi ho hw rfl hn hp (fun h _ => hS _ h (Ext.refl.alloc _)) (k _ _ (Ext.refl.alloc _) (Nat.le_refl _) ?_)
  refine H.add (Ext.refl.alloc _) (r := Wk.mine [.slice (some ⟨w.heap.size, 0, none⟩) xs.length xs.length] xs [w.heap.size]) (.inr (.inr ⟨w.heap.size, 0, _, _, e, (0, 0), [], rfl, rfl, heap_alloc_new w _, fun _ => rfl, Nat.le_refl _, by unfold maxLen; omega, ?_, ?_⟩)) (by simp [Wk.mine]) (by simp [Wk.mine])
  · have : ∀ l : List Int, (l.map (Value.int .i64)).flatMap (fun v => v.cells.toList) = l.map (Value.int .i64) := by
      intro l; induction l with
      | nil => rfl
      | cons x l ih => simp only [List.map_cons, List.flatMap_cons, ih]; rfl
    simp [this, sz]
  · have : ∀ l : List Int, (l.map (Value.int .i64)).flatMap (fun v => v.cells.toList) = l.map (Value.int .i64) := by
      intro l; induction l with
      | nil => rfl
      | cons x l ih => simp only [List.map_cons, List.flatMap_cons, ih]; rfl
    simp only [this, List.drop_zero]
    exact vq hk
end
end Go.Wk
namespace Go.Wk
open Go.Proofs Rp
set_option maxRecDepth 10000
theorem Ax {w : World} {A : Option Addr} {C : Nat} {gf : FuncId} {gL : List Value}  : Ret Tryz.prog 319 #[.slice A 0 C, .int .i64 (0 : Nat), .int .i64 (0 : Nat), .func (.func gf) #[] gL.toArray] w fun v w' => Ext No w w' ∧ (True) := by
 refine aF (vs := [.slice A 0 C, .int .i64 (0 : Nat), .int .i64 (0 : Nat), .func (.func gf) #[] gL.toArray]) Tryz.func319 Z Tryz.ntmps319 Z (fun Q hQ hN => ?_);have H0 := Sep.start (w := w) (F := []) (by simp);refine ag (sM Z Z (sV Z (aB Z Z iO) (sA Z Z (aa (au (bR (γ := Unit) H0 [(0, _), (1, _), (2, _), (3, _)] ⟨Z, Z, Z, Z, trivial⟩ (fun _ => [(8, .int .i64 (1 : Nat))]) (fun _ => True ∧ True) (fun _ => 0) () ⟨Z, trivial⟩ ⟨trivial, trivial⟩ (fun _ w1 H1 ⟨_, _⟩ => ?_)))))));dsimp only[lCA,lNA];refine ah (ag (sM Z Z (sM Z Z (sV Z (aD Z Z) (aa (az Z (fun c1 => ?_) (fun c1 => ?_)))))))
 ·exfalso
  omega
 ·refine aN (hN _ _ (kE Tryz.results319 ?_));exact ⟨H1.ext, trivial⟩
theorem yc {w : World} {A : Option Addr} {C : Nat} {gf : FuncId} {gL : List Value}  : Ret Tryz.prog 317 #[.slice A 0 C, .int .i64 (0 : Nat), .func (.func gf) #[] gL.toArray] w fun v w' => Ext No w w' ∧ (True) := by
 refine aF (vs := [.slice A 0 C, .int .i64 (0 : Nat), .func (.func gf) #[] gL.toArray]) Tryz.func317 Z Tryz.ntmps317 Z (fun Q hQ hN => ?_);have H0 := Sep.start (w := w) (F := []) (by simp);refine ag (sA Z Z (aa (ag (sM Z Z (sA Z Z (sA Z Z (aa (ah (au (bR (γ := Unit) H0 [(0, _), (1, _), (2, _), (6, _)] ⟨Z, Z, Z, Z, trivial⟩ (fun _ => [(7, .int .i64 (0 : Nat)), (8, .int .i64 (20 : Nat))]) (fun _ => True ∧ True) (fun _ => 0) () ⟨Z, Z, trivial⟩ ⟨trivial, trivial⟩ (fun _ w1 H1 ⟨_, _⟩ => ?_)))))))))));dsimp only[lCA,lNA];refine ah (ag (sM Z Z (sM Z Z (sV Z (kJ Z Z) (aa (az Z (fun c1 => ?_) (fun c1 => ?_)))))))
 ·exfalso
  omega
 ·refine aN (ag (sM Z Z (sM Z Z (sM Z Z (sM Z Z (ay (wn Z) Z Z (aj Tryz.func319 Z nE Z) (Ax) (fun v1 w2 r1 => ?_)))))));have H2 := H1.to r1.1;refine aa (au (bR (γ := Unit) H2 [(0, _), (1, _), (2, _)] ⟨Z, Z, Z, trivial⟩ (fun _ => [(6, .int .i64 (20 : Nat))]) (fun _ => True ∧ True) (fun _ => 0) () ⟨Z, trivial⟩ ⟨trivial, trivial⟩ (fun _ w3 H3 ⟨_, _⟩ => ?_)));dsimp only[lCA,lNA];refine ah (ag (sM Z Z (sM Z Z (sV Z (aD Z Z) (aa (az Z (fun c2 => ?_) (fun c2 => ?_)))))))
  ·exfalso
   omega
  ·refine aN (hN _ _ (kE Tryz.results317 ?_));exact ⟨H3.ext, trivial⟩
theorem ik {w : World} {x : Int}  : Ret Tryz.prog 318 #[.int .i64 x] w fun v w' => Ext No w w' ∧ (v = .bool false) := by
 refine aF (vs := [.int .i64 x]) Tryz.func318 Z Tryz.ntmps318 Z (fun Q hQ hN => ?_);have H0 := Sep.start (w := w) (F := []) (by simp);refine ag (sA Z Z (aa (ag (sM Z Z (sM Z Z (sV Z (aU Z Z) (sA Z Z (aa (rT hQ Tryz.results318 Z ?_)))))))));exact ⟨H0.ext, congrArg Value.bool (by simp)⟩
theorem eA {w : World} {ws : List RecV} {A : Option Addr} {n C : Nat} {fp : List Nat} {gf : FuncId} {gL : List Value} {gF : Func}  (o : own true w [.slice A n C] ws fp) (nd : fp.Nodup)  (gH : Tryz.prog.funcs[gf]? = some gF) (gB : gF.body.isNone = false) (gN : NG gF) (gC : ∀ w1, Ext (· ∈ fp) w w1 → ∀ (x y : Rec) (A6 : Option Addr) (C6 : Nat) (A7 : Option Addr) (C7 : Nat) (A8 : Option Addr) (C8 : Nat) (B6 : Option Addr) (D6 : Nat) (B7 : Option Addr) (D7 : Nat) (B8 : Option Addr) (D8 : Nat), Ret Tryz.prog gf (([x.val A6 C6 A7 C7 A8 C8, y.val B6 D6 B7 D7 B8 D8] : List Value) ++ gL).toArray w1 fun v w' => Ext No w1 w' ∧ v = .int .i64 (cfR x y)) (h0 : 0 < ws.length) (hL : ws.length ≤ 1000000) : Ret Tryz.prog 261 #[.slice A n C, .func (.func gf) #[] gL.toArray] w fun v w' => (∃ ws', Mut w w' fp [.slice A n C] ws' ∧ Stable kLt cN ws ws') := by
 obtain rfl := dP o;obtain ⟨hb0, ho0, had0⟩ := dU o 0 (by omega);subst had0;have wL := oL o;refine aF (vs := [.slice (some ⟨hb0, ho0, none⟩) ws.length C, .func (.func gf) #[] gL.toArray]) Tryz.func261 Z Tryz.ntmps261 Z (fun Q hQ hN => ?_);have H0 := Sep.begin o nd;refine ao (sM Z Z (sM Z Z (sV Z (aE aX Z) (sM Z Z (ay (wn Z) Z Z (aj Tryz.func317 Z sE Z) (fV (m := ws.length) (H0.mine 0 Z) (H0.nodup1 (i := 0) Z) Z gH gB gN (fun w1 e1 => gC w1 (H0.ext.step e1 fun b hb => H0.new b (H0.inB 0 Z hb))) Z h0 hL) (fun v1 w1 r1 => ?_))))));obtain ⟨y1, mm1, hs1⟩ := r1;obtain ⟨fp1, H1⟩ := H0.mut 0 Z mm1
 try dsimp only[lNA,lCA,lSZ,lSS] at H1
 refine aa (hN _ _ (kE Tryz.results261 ?_));exact ⟨_, H1.done, CH hs1⟩
theorem Bn {w : World} {A : Option Addr} {C : Nat} {gf : FuncId} {gL : List Value}  : Ret Tryz.prog 261 #[.slice A 0 C, .func (.func gf) #[] gL.toArray] w fun v w' => Ext No w w' ∧ (True) := by
 refine aF (vs := [.slice A 0 C, .func (.func gf) #[] gL.toArray]) Tryz.func261 Z Tryz.ntmps261 Z (fun Q hQ hN => ?_);have H0 := Sep.start (w := w) (F := []) (by simp);refine ao (sM Z Z (sM Z Z (sV Z (aE aX Z) (sM Z Z (ay (wn Z) Z Z (aj Tryz.func317 Z sE Z) (yc) (fun v1 w1 r1 => ?_))))));have H1 := H0.to r1.1;refine aa (hN _ _ (kE Tryz.results261 ?_));exact ⟨H1.ext, trivial⟩
theorem CE {w : World} {ws : List RecV} {A : Option Addr} {n C : Nat} {fp : List Nat} {gf : FuncId} {gL : List Value} {gF : Func}  (o : own true w [.slice A n C] ws fp) (nd : fp.Nodup)  (gH : Tryz.prog.funcs[gf]? = some gF) (gB : gF.body.isNone = false) (gN : NG gF) (gC : ∀ w1, Ext (· ∈ fp) w w1 → ∀ (x y : Rec) (A6 : Option Addr) (C6 : Nat) (A7 : Option Addr) (C7 : Nat) (A8 : Option Addr) (C8 : Nat) (B6 : Option Addr) (D6 : Nat) (B7 : Option Addr) (D7 : Nat) (B8 : Option Addr) (D8 : Nat), Ret Tryz.prog gf (([x.val A6 C6 A7 C7 A8 C8, y.val B6 D6 B7 D7 B8 D8] : List Value) ++ gL).toArray w1 fun v w' => Ext No w1 w' ∧ v = .int .i64 (cfR x y)) (hL : ws.length ≤ 1000000) : Ret Tryz.prog 261 #[.slice A n C, .func (.func gf) #[] gL.toArray] w fun v w' => ∃ ws', Mut w w' fp [.slice A n C] ws' ∧ Stable kLt cN ws ws' := by
 rcases Nat.eq_zero_or_pos ws.length with e | e
 ·obtain rfl := List.eq_nil_of_length_eq_zero e;obtain rfl := dP o;exact Ret.mono Bn fun v w' h => ⟨[], .none h.1 o nd, xr⟩
 ·exact eA o nd gH gB gN gC e hL
theorem eE {w : World} {x y : Int}  : Ret Tryz.prog 264 #[.int .i64 x, .int .i64 y] w fun v w' => Ext No w w' ∧ (v = .int .i64 (iD x y)) := by
 refine aF (vs := [.int .i64 x, .int .i64 y]) Tryz.func264 Z Tryz.ntmps264 Z (fun Q hQ hN => ?_);have H0 := Sep.start (w := w) (F := []) (by simp);refine ag (sA Z Z (aa (ag (sM Z Z (ay (wn Z) Z Z (aj Tryz.func318 Z sC Z) ik (fun v1 w1 r1 => ?_))))));obtain ⟨e1, rfl⟩ := r1;have H1 := H0.to e1;refine sA Z Z (aa (ag (sM Z Z (ay (wn Z) Z Z (aj Tryz.func318 Z sC Z) ik (fun v2 w2 r2 => ?_)))));obtain ⟨e2, rfl⟩ := r2;have H2 := H1.to e2;refine sA Z Z (aa (ah (ag (sM Z Z (aa (bP Z (fun c1 => ?_) (fun c1 => ?_)))))))
 ·refine ah (ag (sM Z Z (aa (bP Z (fun c2 => ?_) (fun c2 => ?_)))))
  ·refine ag (sA Z Z (aa (rT hQ Tryz.results264 Z ?_)));exact ⟨H2.ext, congrArg (Value.int .i64) (by unfold iD; split <;> (try split) <;> simp_all <;> omega)⟩
  ·refine ak (ag (sA Z Z (aa (rT hQ Tryz.results264 Z ?_))));exact ⟨H2.ext, congrArg (Value.int .i64) (by unfold iD; split <;> (try split) <;> simp_all <;> omega)⟩
 ·refine ak (ah (ag (sM Z Z (aa (bP Z (fun c3 => ?_) (fun c3 => ?_))))))
  ·refine ag (sA Z Z (aa (rT hQ Tryz.results264 Z ?_)));exact ⟨H2.ext, congrArg (Value.int .i64) (by unfold iD; split <;> (try split) <;> simp_all <;> omega)⟩
  ·refine ak (ah (ag (sM Z Z (sM Z Z (sV Z (aD Z Z) (aa (az Z (fun c4 => ?_) (fun c4 => ?_))))))))
   ·refine ag (sA Z Z (aa (rT hQ Tryz.results264 Z ?_)));exact ⟨H2.ext, congrArg (Value.int .i64) (by unfold iD; split <;> (try split) <;> simp_all <;> omega)⟩
   ·refine ak (ah (ag (sM Z Z (sM Z Z (sV Z (bU Z Z) (aa (az Z (fun c5 => ?_) (fun c5 => ?_))))))))
    ·refine ag (sA Z Z (aa (rT hQ Tryz.results264 Z ?_)));exact ⟨H2.ext, congrArg (Value.int .i64) (by unfold iD; split <;> (try split) <;> simp_all <;> omega)⟩
    ·refine ak (ag (sA Z Z (aa (rT hQ Tryz.results264 Z ?_))));exact ⟨H2.ext, congrArg (Value.int .i64) (by unfold iD; split <;> (try split) <;> simp_all <;> omega)⟩
theorem qK {w : World} {xs : List Int} {xsA : Option Addr} {xsC : Nat} (xsS : Sees w [.slice xsA xs.length xsC] xs) : Ret Tryz.prog 263 #[.slice xsA xs.length xsC] w fun v w' => Ext No w w' ∧ (v = .int .i64 (orI xs)) := by
 have xsL := sL xsS;obtain ⟨xsF, xsO⟩ := xsS;refine aF (vs := [.slice xsA xs.length xsC]) Tryz.func263 Z Tryz.ntmps263 Z (fun Q hQ hN => ?_);have H0 := Sep.start (w := w) (F := [seen false [.slice xsA xs.length xsC] xs xsF]) (all_cons xsO (by simp));refine ag (sA Z Z (aa (ag (sA Z Z (aa (ah (ag (sM Z Z (sV Z (aE Cy Z) (sM Z Z (aa (au (bR (γ := Nat) H0 [(3, _), (6, _), (7, _)] ⟨Z, Z, Z, trivial⟩ (fun k => [(8, .int .i64 k)]) (fun k => k ≤ xs.length ∧ (∀ i, i < k → xs.getD i 0 = 0)) (fun k => xs.length - k) 0 ⟨Z, trivial⟩ ⟨by omega, fun i hi => by omega⟩ (fun k w1 H1 ⟨hk, he⟩ => ?_))))))))))))));dsimp only[lCA,lNA];refine ag (sV Z (aD Z Z) (aa (ah (az Z (fun c1 => ?_) (fun c1 => ?_)))))
 ·refine ak (ah (au (ah ?_)));obtain ⟨eb1, eo1, ee1, ec1⟩ := ci (H1.seen 0 Z) k (by omega);have eI1 := cA (H1.seen 0 Z) k (by omega);refine ao (sV Z (ax Cy ts3 Z Z ee1 k (by omega) (by omega)) (sV Z (ac tu3 Z Z ec1) (sA Z Z (aa (ag (sM Z Z (sM Z Z (sV Z (aU Z Z) (aa (az Z (fun c2 => ?_) (fun c2 => ?_)))))))))))
  ·refine ag (sM Z Z (sA Z Z (aa (rT hQ Tryz.results263 Z ?_))));exact ⟨H1.ext, congrArg (Value.int .i64) (CN (k := k) (by omega) he c2).symm⟩
  ·refine ak (ao (sV Z (aB Z Z iO) (sM Z Z (aa (⟨k + 1, ⟨Z, Z, Z, Z, trivial⟩, ⟨H1, by omega, fun i hi => ?_⟩, by dsimp only; omega⟩)))))
   by_cases e : i = k
   ·subst e
    omega
   ·exact he i (by omega)
 ·refine aN (ag (sM Z Z (sA Z Z (aa (rT hQ Tryz.results263 Z ?_)))));exact ⟨H1.ext, congrArg (Value.int .i64) (Eo (fun i hi => he i (by omega))).symm⟩
theorem jC {w : World} {x y : Rec} {xA6 xA7 xA8 yA6 yA7 yA8 : Option Addr} {xC6 xC7 xC8 yC6 yC7 yC8 : Nat}  : Ret Tryz.prog 262 #[x.val xA6 xC6 xA7 xC7 xA8 xC8, y.val yA6 yC6 yA7 yC7 yA8 yC8] w fun v w' => Ext No w w' ∧ (v = .int .i64 (cfR x y)) := by
 have b1 := vh (a := x.Seq) (b := y.Seq);have b2 := vh (a := x.Kind) (b := y.Kind);have b3 := vh (a := x.Group) (b := y.Group);refine aF (vs := [x.val xA6 xC6 xA7 xC7 xA8 xC8, y.val yA6 yC6 yA7 yC7 yA8 yC8]) Tryz.func262 Z Tryz.ntmps262 Z (fun Q hQ hN => ?_);have H0 := Sep.start (w := w) (F := []) (by simp);refine ag (be (wn Z) Z Z H0 (fun b1 w1 e1 g1 H1 => ?_));refine be (wn Z) Z Z H1 (fun b2 w2 e2 g2 H2 => ?_);refine sA Z Z (aa (ah (bE (S := Ext No _) (oQ [1,3,5,7,11,13,15,17,21,23,25,27,8,18,28,30,32,34]) (by kernel_rfl) (by kernel_rfl) (by kernel_rfl) Z (fun _ => Ext.refl.drawn _) (fun q1 => ?_))));have H3 := H2.drawn q1;refine dV Z Z (fun zw hx => ab aC Z ts2 Z Z) (dV Z Z (fun zw hx => ac tu2 Z Z (ae (hx.heap (H3.box 0 Z)) Z)) (dV Z Z (fun zw hx => ab aC Z ts2 Z Z) (dV Z Z (fun zw hx => ac tu2 Z Z (ae (hx.heap (H3.box 1 Z)) Z)) (dV Z Z (fun zw hx => ab aC Z ts2 Z Z) (dV Z Z (fun zw hx => ac tu2 Z Z (ae (hx.heap (H3.box 0 Z)) Z)) (dV Z Z (fun zw hx => ab aC Z ts2 Z Z) (dV Z Z (fun zw hx => ac tu2 Z Z (ae (hx.heap (H3.box 1 Z)) Z)) (dV Z Z (fun zw hx => ab aC Z ts2 Z Z) (dV Z Z (fun zw hx => ac tu2 Z Z (ae (hx.heap (H3.box 0 Z)) Z)) (dV Z Z (fun zw hx => ab aC Z ts2 Z Z) (dV Z Z (fun zw hx => ac tu2 Z Z (ae (hx.heap (H3.box 1 Z)) Z)) (aM Z (wn Z) Z Z (aj Tryz.func264 Z nA Z) eE (fun hS _ _ r _ => hS.trans r.1.no) (fun v1 w3 r1 => ?_)))))))))))));obtain ⟨e3, rfl⟩ := r1;have H4 := H3.to e3;refine aM Z (wn Z) Z Z (aj Tryz.func264 Z nA Z) eE (fun hS _ _ r _ => hS.trans r.1.no) (fun v2 w4 r2 => ?_);obtain ⟨e4, rfl⟩ := r2;have H5 := H4.to e4;refine aM Z (wn Z) Z Z (aj Tryz.func264 Z nA Z) eE (fun hS _ _ r _ => hS.trans r.1.no) (fun v3 w5 r3 => ?_);obtain ⟨e5, rfl⟩ := r3;have H6 := H5.to e5;refine EA ([iD x.Seq y.Seq, iD x.Kind y.Kind, iD x.Group y.Group]) Z (wn Z) Z Cy Cb Z Z (by intro x hx; unfold I64ok; simp only [List.mem_cons, List.not_mem_nil, or_false] at hx; omega) (by simp) (by simp) H6 (fun _ h e => h.trans e.no) (fun b3 w6 e6 g3 H7 => ?_);refine aM Z (wn Z) Z Z (aj Tryz.func263 Z yQ Z) (qK (H7.msees 2 Z)) (fun hS _ _ r _ => hS.trans r.1.no) (fun v4 w7 r4 => ?_);obtain ⟨e7, rfl⟩ := r4;have H8 := H7.to e7;refine aS Z (wn Z) Z Z (bD Z) (aT (rT hQ Tryz.results262 Z ?_));exact ⟨H8.ext, congrArg (Value.int .i64) Fa⟩
theorem qM {w : World} {x r : Rec} {xA6 xA7 xA8 rA6 rA7 rA8 : Option Addr} {xC6 xC7 xC8 rb rC6 rC7 rC8 : Nat} (xK : x.Ok) (xS6 : Sees w [.slice xA6 x.Rows.length xC6] x.Rows) (xS7 : Sees w [.slice xA7 x.Data.length xC7] x.Data) (xS8 : Sees w [.slice xA8 x.Delta.length xC8] x.Delta) (rB : w.heap[rb]? = some (.cells [.int .i64 r.Kind, .int .i64 r.Seq, .string r.Name, .int .i64 r.Length, .int .i64 r.Group, .int .i64 r.Row, .slice rA6 r.Rows.length rC6, .slice rA7 r.Data.length rC7, .slice rA8 r.Delta.length rC8].toArray 94)) (rK : r.Ok) (rS6 : Sees w [.slice rA6 r.Rows.length rC6] r.Rows) (rS7 : Sees w [.slice rA7 r.Data.length rC7] r.Data) (rS8 : Sees w [.slice rA8 r.Delta.length rC8] r.Delta) : Ret Tryz.prog 306 #[x.val xA6 xC6 xA7 xC7 xA8 xC8, .pointer (some ⟨rb, 0, none⟩)] w fun v w' => Ext No w w' ∧ (v = .bool (decide (x = r))) := by
 have xK2 := xK;unfold Rec.Ok at xK2
 try unfold I64ok at xK2
 try unfold maxLen at xK2
 have xN2 : x.Name.size ≤ maxLen := by unfold maxLen; omega
 have xL6 := sL xS6;obtain ⟨xF6, xO6⟩ := xS6;have xL7 := sL xS7;obtain ⟨xF7, xO7⟩ := xS7;have xL8 := sL xS8;obtain ⟨xF8, xO8⟩ := xS8;have rK2 := rK;unfold Rec.Ok at rK2
 try unfold I64ok at rK2
 try unfold maxLen at rK2
 have rN2 : r.Name.size ≤ maxLen := by unfold maxLen; omega
 have rL6 := sL rS6;obtain ⟨rF6, rO6⟩ := rS6;have rL7 := sL rS7;obtain ⟨rF7, rO7⟩ := rS7;have rL8 := sL rS8;obtain ⟨rF8, rO8⟩ := rS8;refine aF (vs := [x.val xA6 xC6 xA7 xC7 xA8 xC8, .pointer (some ⟨rb, 0, none⟩)]) Tryz.func306 Z Tryz.ntmps306 Z (fun Q hQ hN => ?_);have H0 := Sep.start (w := w) (F := [seen false [.slice xA6 x.Rows.length xC6] x.Rows xF6, seen false [.slice xA7 x.Data.length xC7] x.Data xF7, seen false [.slice xA8 x.Delta.length xC8] x.Delta xF8, box rb (.cells [.int .i64 r.Kind, .int .i64 r.Seq, .string r.Name, .int .i64 r.Length, .int .i64 r.Group, .int .i64 r.Row, .slice rA6 r.Rows.length rC6, .slice rA7 r.Data.length rC7, .slice rA8 r.Delta.length rC8].toArray 94), seen false [.slice rA6 r.Rows.length rC6] r.Rows rF6, seen false [.slice rA7 r.Data.length rC7] r.Data rF7, seen false [.slice rA8 r.Delta.length rC8] r.Delta rF8]) (all_cons xO6 (all_cons xO7 (all_cons xO8 (all_cons (by exact rB) (all_cons rO6 (all_cons rO7 (all_cons rO8 (by simp))))))));refine ag (be (wn Z) Z Z H0 (fun b1 w1 e1 g1 H1 => ?_));refine sA Z Z (aa (ag (sV Z (an aC Z aP Z Z (At.whole (H1.box 0 Z))) (sV Z (an aC Z aP Z Z (At.whole (H1.fbox 3 Z))) (ay (wn Z) Z Z (aj Tryz.func307 Z rP Z) (jG (by assumption) (H1.sees 0 Z) (H1.sees 1 Z) (H1.sees 2 Z) (by assumption) (H1.sees 4 Z) (H1.sees 5 Z) (H1.sees 6 Z)) (fun v1 w2 r1 => ?_))))));obtain ⟨e2, rfl⟩ := r1;have H2 := H1.to e2;refine sA Z Z (aa (rT hQ Tryz.results306 Z ?_));exact ⟨H2.ext, Z⟩
theorem tM {w : World} {xs : List Rec} {xsA rA6 rA7 rA8 : Option Addr} {xsC rC6 rC7 rC8 : Nat} {r : Rec} (xsS : Sees w [.slice xsA xs.length xsC] xs) (rK : r.Ok) (rS6 : Sees w [.slice rA6 r.Rows.length rC6] r.Rows) (rS7 : Sees w [.slice rA7 r.Data.length rC7] r.Data) (rS8 : Sees w [.slice rA8 r.Delta.length rC8] r.Delta) : Ret Tryz.prog 241 #[.slice xsA xs.length xsC, r.val rA6 rC6 rA7 rC7 rA8 rC8] w fun v w' => Ext No w w' ∧ (v = .bool (decide (r ∈ xs))) := by
 have xsL := sL xsS;obtain ⟨xsF, xsO⟩ := xsS;have rK2 := rK;unfold Rec.Ok at rK2
 try unfold I64ok at rK2
 try unfold maxLen at rK2
 have rN2 : r.Name.size ≤ maxLen := by unfold maxLen; omega
 have rL6 := sL rS6;obtain ⟨rF6, rO6⟩ := rS6;have rL7 := sL rS7;obtain ⟨rF7, rO7⟩ := rS7;have rL8 := sL rS8;obtain ⟨rF8, rO8⟩ := rS8;refine aF (vs := [.slice xsA xs.length xsC, r.val rA6 rC6 rA7 rC7 rA8 rC8]) Tryz.func241 Z Tryz.ntmps241 Z (fun Q hQ hN => ?_);have H0 := Sep.start (w := w) (F := [seen false [.slice xsA xs.length xsC] xs xsF, seen false [.slice rA6 r.Rows.length rC6] r.Rows rF6, seen false [.slice rA7 r.Data.length rC7] r.Data rF7, seen false [.slice rA8 r.Delta.length rC8] r.Delta rF8]) (all_cons xsO (all_cons rO6 (all_cons rO7 (all_cons rO8 (by simp)))));refine ag (be (wn Z) Z Z H0 (fun b1 w1 e1 g1 H1 => ?_));refine sA Z Z (aa (ag (sM Z Z (sV Z (od Z) (ay (wn Z) Z Z (aj Tryz.func295 Z so Z) (gK (H1.sees 0 Z) (p := (fun x => decide (x = r))) Tryz.func306 Z wW (fun w1 e1 i0 hi0 _ _ _ _ _ _ K0 o0_6 o0_7 o0_8 => qM K0 o0_6 o0_7 o0_8 ((H1.to e1).box 0 Z) (by assumption) ((H1.to e1).sees 1 Z) ((H1.to e1).sees 2 Z) ((H1.to e1).sees 3 Z))) (fun v1 w2 r1 => ?_))))));obtain ⟨e2, rfl⟩ := r1;have H2 := H1.to e2;refine sA Z Z (aa (rT hQ Tryz.results241 Z ?_));exact ⟨H2.ext, congrArg Value.bool Ez⟩
theorem p9 {w : World} {xs ys : List Int} {xsA ysA : Option Addr} {xsC ysC : Nat} (xsS : Sees w [.slice xsA xs.length xsC] xs) (ysS : Sees w [.slice ysA ys.length ysC] ys) : Ret Tryz.prog 310 #[.slice xsA xs.length xsC, .slice ysA ys.length ysC] w fun v w' => Ext No w w' ∧ (v = .bool (decide (xs = ys))) := by
 have xsL := sL xsS;obtain ⟨xsF, xsO⟩ := xsS;have ysL := sL ysS;obtain ⟨ysF, ysO⟩ := ysS;refine aF (vs := [.slice xsA xs.length xsC, .slice ysA ys.length ysC]) Tryz.func310 Z Tryz.ntmps310 Z (fun Q hQ hN => ?_);have H0 := Sep.start (w := w) (F := [seen false [.slice xsA xs.length xsC] xs xsF, seen false [.slice ysA ys.length ysC] ys ysF]) (all_cons xsO (all_cons ysO (by simp)));refine ag (sA Z Z (aa (ah (ag (sM Z Z (sV Z (aE br Z) (sM Z Z (sV Z (aE br Z) (sV Z (aU Z Z) (aa (az Z (fun c1 => ?_) (fun c1 => ?_))))))))))))
 ·refine ag (sA Z Z (aa (rT hQ Tryz.results310 Z (⟨H0.ext, ?_⟩))));rw [decide_eq_false (fun e => by subst e; exact c1 rfl)]
 ·refine ak (ah (ag (sA Z Z (aa (au (bR (γ := Nat) H0 [(0, _), (1, _)] ⟨Z, Z, trivial⟩ (fun k => [(5, .int .i64 k)]) (fun k => k ≤ xs.length ∧ (∀ i, i < k → xs.getD i 0 = ys.getD i 0)) (fun k => xs.length - k) 0 ⟨Z, trivial⟩ ⟨by omega, fun i hi => by omega⟩ (fun k w1 H1 ⟨hk, he⟩ => ?_)))))));dsimp only[lCA,lNA];refine ah (ag (sM Z Z (sM Z Z (sV Z (aE br Z) (sV Z (aD Z Z) (aa (az Z (fun c2 => ?_) (fun c2 => ?_))))))))
  ·refine ak (ah (au (ah ?_)));obtain ⟨eb1, eo1, ee1, ec1⟩ := ci (H1.seen 0 Z) k (by omega);have eI1 := cA (H1.seen 0 Z) k (by omega);obtain ⟨eb2, eo2, ee2, ec2⟩ := ci (H1.seen 1 Z) k (by omega);have eI2 := cA (H1.seen 1 Z) k (by omega);refine bE (S := Ext No _) (oQ [1,3,5,7,9,11,13,15,16]) (by kernel_rfl) (by kernel_rfl) (by kernel_rfl) Z (fun _ => Ext.refl.drawn _) (fun q1 => ?_);have H2 := H1.drawn q1;refine dM Z Z Z (dM Z Z Z (dV Z Z (fun zw hx => ax br ts2 Z Z ee1 k (by omega) (by omega)) (dV Z Z (fun zw hx => ac tu2 Z Z (hx.cell ec1)) (dM Z Z Z (dM Z Z Z (dV Z Z (fun zw hx => ax br ts2 Z Z ee2 k (by omega) (by omega)) (dV Z Z (fun zw hx => ac tu2 Z Z (hx.cell ec2)) (aS Z (wn Z) Z Z (aU Z Z) (aT (az Z (fun c3 => ?_) (fun c3 => ?_)))))))))))
   ·refine ag (sA Z Z (aa (rT hQ Tryz.results310 Z (⟨H2.ext, ?_⟩))));rw [decide_eq_false (fun e => by subst e; exact c3 rfl)]
   ·refine ak (ao (sM Z Z (sV Z (aB Z Z iO) (sA Z Z (aa (⟨k + 1, ⟨Z, Z, Z, trivial⟩, ⟨H2, by omega, fun i hi => ?_⟩, by dsimp only; omega⟩))))))
    by_cases e : i = k
    ·subst e
     omega
    ·exact he i (by omega)
  ·refine aN (ag (sA Z Z (aa (rT hQ Tryz.results310 Z (⟨H1.ext, ?_⟩)))));rw [decide_eq_true (dg (d := 0) (by omega) fun i hi => he i (by omega))]
theorem mT {w : World} {xs ys : List UInt8} {xsA ysA : Option Addr} {xsC ysC : Nat} (xsS : Sees w [.slice xsA xs.length xsC] xs) (ysS : Sees w [.slice ysA ys.length ysC] ys) : Ret Tryz.prog 311 #[.slice xsA xs.length xsC, .slice ysA ys.length ysC] w fun v w' => Ext No w w' ∧ (v = .bool (decide (xs = ys))) := by
 have xsL := sL xsS;obtain ⟨xsF, xsO⟩ := xsS;have ysL := sL ysS;obtain ⟨ysF, ysO⟩ := ysS;refine aF (vs := [.slice xsA xs.length xsC, .slice ysA ys.length ysC]) Tryz.func311 Z Tryz.ntmps311 Z (fun Q hQ hN => ?_);have H0 := Sep.start (w := w) (F := [seen false [.slice xsA xs.length xsC] xs xsF, seen false [.slice ysA ys.length ysC] ys ysF]) (all_cons xsO (all_cons ysO (by simp)));refine ag (sA Z Z (aa (ah (ag (sM Z Z (sV Z (aE aR Z) (sM Z Z (sV Z (aE aR Z) (sV Z (aU Z Z) (aa (az Z (fun c1 => ?_) (fun c1 => ?_))))))))))))
 ·refine ag (sA Z Z (aa (rT hQ Tryz.results311 Z (⟨H0.ext, ?_⟩))));rw [decide_eq_false (fun e => by subst e; exact c1 rfl)]
 ·refine ak (ah (ag (sA Z Z (aa (au (bR (γ := Nat) H0 [(0, _), (1, _)] ⟨Z, Z, trivial⟩ (fun k => [(5, .int .i64 k)]) (fun k => k ≤ xs.length ∧ (∀ i, i < k → xs.getD i 0 = ys.getD i 0)) (fun k => xs.length - k) 0 ⟨Z, trivial⟩ ⟨by omega, fun i hi => by omega⟩ (fun k w1 H1 ⟨hk, he⟩ => ?_)))))));dsimp only[lCA,lNA];refine ah (ag (sM Z Z (sM Z Z (sV Z (aE aR Z) (sV Z (aD Z Z) (aa (az Z (fun c2 => ?_) (fun c2 => ?_))))))))
  ·refine ak (ah (au (ah ?_)));obtain ⟨eb1, eo1, ee1, ec1⟩ := b0 (H1.seen 0 Z) k (by omega);obtain ⟨eb2, eo2, ee2, ec2⟩ := b0 (H1.seen 1 Z) k (by omega);refine bE (S := Ext No _) (oQ [1,3,5,7,9,11,13,15,16]) (by kernel_rfl) (by kernel_rfl) (by kernel_rfl) Z (fun _ => Ext.refl.drawn _) (fun q1 => ?_);have H2 := H1.drawn q1;refine dM Z Z Z (dM Z Z Z (dV Z Z (fun zw hx => ax aR ts5 Z Z ee1 k (by omega) (by omega)) (dV Z Z (fun zw hx => ac tu5 Z Z (hx.cell ec1)) (dM Z Z Z (dM Z Z Z (dV Z Z (fun zw hx => ax aR ts5 Z Z ee2 k (by omega) (by omega)) (dV Z Z (fun zw hx => ac tu5 Z Z (hx.cell ec2)) (aS Z (wn Z) Z Z (aU Z Z) (aT (az Z (fun c3 => ?_) (fun c3 => ?_)))))))))))
   ·refine ag (sA Z Z (aa (rT hQ Tryz.results311 Z (⟨H2.ext, ?_⟩))));rw [decide_eq_false (fun e => by subst e; exact c3 rfl)]
   ·refine ak (ao (sM Z Z (sV Z (aB Z Z iO) (sA Z Z (aa (⟨k + 1, ⟨Z, Z, Z, trivial⟩, ⟨H2, by omega, fun i hi => ?_⟩, by dsimp only; omega⟩))))))
    by_cases e : i = k
    ·subst e
     (apply iz.1; omega)
    ·exact he i (by omega)
  ·refine aN (ag (sA Z Z (aa (rT hQ Tryz.results311 Z (⟨H1.ext, ?_⟩)))));rw [decide_eq_true (dg (d := 0) (by omega) fun i hi => he i (by omega))]
theorem pd {w : World} {a b : Rec} {aA6 aA7 aA8 bA6 bA7 bA8 : Option Addr} {aC6 aC7 aC8 bC6 bC7 bC8 : Nat} (aK : a.Ok) (aS6 : Sees w [.slice aA6 a.Rows.length aC6] a.Rows) (aS7 : Sees w [.slice aA7 a.Data.length aC7] a.Data) (aS8 : Sees w [.slice aA8 a.Delta.length aC8] a.Delta) (bK : b.Ok) (bS6 : Sees w [.slice bA6 b.Rows.length bC6] b.Rows) (bS7 : Sees w [.slice bA7 b.Data.length bC7] b.Data) (bS8 : Sees w [.slice bA8 b.Delta.length bC8] b.Delta) : Ret Tryz.prog 250 #[a.val aA6 aC6 aA7 aC7 aA8 aC8, b.val bA6 bC6 bA7 bC7 bA8 bC8] w fun v w' => Ext No w w' ∧ (v = .bool (decide (a = b))) := by
 have aK2 := aK;unfold Rec.Ok at aK2
 try unfold I64ok at aK2
 try unfold maxLen at aK2
 have aN2 : a.Name.size ≤ maxLen := by unfold maxLen; omega
 have aL6 := sL aS6;obtain ⟨aF6, aO6⟩ := aS6;have aL7 := sL aS7;obtain ⟨aF7, aO7⟩ := aS7;have aL8 := sL aS8;obtain ⟨aF8, aO8⟩ := aS8;have bK2 := bK;unfold Rec.Ok at bK2
 try unfold I64ok at bK2
 try unfold maxLen at bK2
 have bN2 : b.Name.size ≤ maxLen := by unfold maxLen; omega
 have bL6 := sL bS6;obtain ⟨bF6, bO6⟩ := bS6;have bL7 := sL bS7;obtain ⟨bF7, bO7⟩ := bS7;have bL8 := sL bS8;obtain ⟨bF8, bO8⟩ := bS8;refine aF (vs := [a.val aA6 aC6 aA7 aC7 aA8 aC8, b.val bA6 bC6 bA7 bC7 bA8 bC8]) Tryz.func250 Z Tryz.ntmps250 Z (fun Q hQ hN => ?_);have H0 := Sep.start (w := w) (F := [seen false [.slice aA6 a.Rows.length aC6] a.Rows aF6, seen false [.slice aA7 a.Data.length aC7] a.Data aF7, seen false [.slice aA8 a.Delta.length aC8] a.Delta aF8, seen false [.slice bA6 b.Rows.length bC6] b.Rows bF6, seen false [.slice bA7 b.Data.length bC7] b.Data bF7, seen false [.slice bA8 b.Delta.length bC8] b.Delta bF8]) (all_cons aO6 (all_cons aO7 (all_cons aO8 (all_cons bO6 (all_cons bO7 (all_cons bO8 (by simp)))))));refine ag (be (wn Z) Z Z H0 (fun b1 w1 e1 g1 H1 => ?_));refine be (wn Z) Z Z H1 (fun b2 w2 e2 g2 H2 => ?_);refine sA Z Z (aa (ag (sV Z (ab aC Z ts2 Z Z) (sV Z (ac tu2 Z Z (ae (H2.box 0 Z) Z)) (sV Z (ab aC Z ts2 Z Z) (sV Z (ac tu2 Z Z (ae (H2.box 1 Z) Z)) (sV Z (ba Z Z) (sM Z Z (bv 5 (j := 5) (want := true) (t := 15) Z Z Z Z (fun hg1 kk1 => am (wgE Z Z Z hg1) Z Z (ab aC Z ts2 Z Z) (am (wgE Z Z Z hg1) Z Z (ac tu2 Z Z (ae (H2.box 0 Z) Z)) (am (wgE Z Z Z hg1) Z Z (ab aC Z ts2 Z Z) (am (wgE Z Z Z hg1) Z Z (ac tu2 Z Z (ae (H2.box 1 Z) Z)) (am (wgE Z Z Z hg1) Z Z (ba Z Z) (kk1 _ _ (kx Z (kx Z (kx Z (kx Z (kx Z k0))))) Z Ext.refl)))))) (fun w3 e3 => ?_))))))))));have H3 := H2.to e3;refine sV Z (bg Z Z) (sM Z Z (bv 5 (j := 12) (want := true) (t := 22) Z Z Z Z (fun hg2 kk2 => am (wgE Z Z Z hg2) Z Z (ab aC Z ts9 Z Z) (am (wgE Z Z Z hg2) Z Z (ac tu9 Z Z (ae (H3.box 0 Z) Z)) (am (wgE Z Z Z hg2) Z Z (ab aC Z ts9 Z Z) (am (wgE Z Z Z hg2) Z Z (ac tu9 Z Z (ae (H3.box 1 Z) Z)) (am (wgE Z Z Z hg2) Z Z (rc Z Z) (kk2 _ _ (kx Z (kx Z (kx Z (kx Z (kx Z k0))))) Z Ext.refl)))))) (fun w4 e4 => ?_)));have H4 := H3.to e4;refine sV Z (bg Z Z) (sM Z Z (bv 5 (j := 19) (want := true) (t := 29) Z Z Z Z (fun hg3 kk3 => am (wgE Z Z Z hg3) Z Z (ab aC Z ts2 Z Z) (am (wgE Z Z Z hg3) Z Z (ac tu2 Z Z (ae (H4.box 0 Z) Z)) (am (wgE Z Z Z hg3) Z Z (ab aC Z ts2 Z Z) (am (wgE Z Z Z hg3) Z Z (ac tu2 Z Z (ae (H4.box 1 Z) Z)) (am (wgE Z Z Z hg3) Z Z (ba Z Z) (kk3 _ _ (kx Z (kx Z (kx Z (kx Z (kx Z k0))))) Z Ext.refl)))))) (fun w5 e5 => ?_)));have H5 := H4.to e5;refine sV Z (bg Z Z) (sM Z Z (bv 5 (j := 26) (want := true) (t := 36) Z Z Z Z (fun hg4 kk4 => am (wgE Z Z Z hg4) Z Z (ab aC Z ts2 Z Z) (am (wgE Z Z Z hg4) Z Z (ac tu2 Z Z (ae (H5.box 0 Z) Z)) (am (wgE Z Z Z hg4) Z Z (ab aC Z ts2 Z Z) (am (wgE Z Z Z hg4) Z Z (ac tu2 Z Z (ae (H5.box 1 Z) Z)) (am (wgE Z Z Z hg4) Z Z (ba Z Z) (kk4 _ _ (kx Z (kx Z (kx Z (kx Z (kx Z k0))))) Z Ext.refl)))))) (fun w6 e6 => ?_)));have H6 := H5.to e6;refine sV Z (bg Z Z) (sM Z Z (bv 5 (j := 33) (want := true) (t := 43) Z Z Z Z (fun hg5 kk5 => am (wgE Z Z Z hg5) Z Z (ab aC Z ts2 Z Z) (am (wgE Z Z Z hg5) Z Z (ac tu2 Z Z (ae (H6.box 0 Z) Z)) (am (wgE Z Z Z hg5) Z Z (ab aC Z ts2 Z Z) (am (wgE Z Z Z hg5) Z Z (ac tu2 Z Z (ae (H6.box 1 Z) Z)) (am (wgE Z Z Z hg5) Z Z (ba Z Z) (kk5 _ _ (kx Z (kx Z (kx Z (kx Z (kx Z k0))))) Z Ext.refl)))))) (fun w7 e7 => ?_)));have H7 := H6.to e7;refine sV Z (bg Z Z) (sM Z Z (bv 5 (j := 40) (want := true) (t := 50) Z Z Z Z (fun hg6 kk6 => am (wgE Z Z Z hg6) Z Z (ab aC Z bV Z Z) (am (wgE Z Z Z hg6) Z Z (ac br Z Z (ae (H7.box 0 Z) Z)) (am (wgE Z Z Z hg6) Z Z (ab aC Z bV Z Z) (am (wgE Z Z Z hg6) Z Z (ac br Z Z (ae (H7.box 1 Z) Z)) (ct (wgE Z Z Z hg6) Z Z (aj Tryz.func310 Z zJ Z) (p9 (H7.sees 0 Z) (H7.sees 3 Z)) (fun w9 e9 => kk6 _ _ (kx Z (kx Z (kx Z (kx Z (kx Z k0))))) Z (Ext.refl.trans e9))))))) (fun w8 e8 => ?_)));have H8 := H7.to e8;refine sV Z (bg Z Z) (sM Z Z (bv 5 (j := 47) (want := true) (t := 57) Z Z Z Z (fun hg7 kk7 => am (wgE Z Z Z hg7) Z Z (ab aC Z aZ Z Z) (am (wgE Z Z Z hg7) Z Z (ac aR Z Z (ae (H8.box 0 Z) Z)) (am (wgE Z Z Z hg7) Z Z (ab aC Z aZ Z Z) (am (wgE Z Z Z hg7) Z Z (ac aR Z Z (ae (H8.box 1 Z) Z)) (ct (wgE Z Z Z hg7) Z Z (aj Tryz.func311 Z rS Z) (mT (H8.sees 1 Z) (H8.sees 4 Z)) (fun w11 e11 => kk7 _ _ (kx Z (kx Z (kx Z (kx Z (kx Z k0))))) Z (Ext.refl.trans e11))))))) (fun w10 e10 => ?_)));have H9 := H8.to e10;refine sV Z (bg Z Z) (sM Z Z (bv 5 (j := 54) (want := true) (t := 64) Z Z Z Z (fun hg8 kk8 => am (wgE Z Z Z hg8) Z Z (ab aC Z aZ Z Z) (am (wgE Z Z Z hg8) Z Z (ac aR Z Z (ae (H9.box 0 Z) Z)) (am (wgE Z Z Z hg8) Z Z (ab aC Z aZ Z Z) (am (wgE Z Z Z hg8) Z Z (ac aR Z Z (ae (H9.box 1 Z) Z)) (ct (wgE Z Z Z hg8) Z Z (aj Tryz.func311 Z rS Z) (mT (H9.sees 2 Z) (H9.sees 5 Z)) (fun w13 e13 => kk8 _ _ (kx Z (kx Z (kx Z (kx Z (kx Z k0))))) Z (Ext.refl.trans e13))))))) (fun w12 e12 => ?_)));have H10 := H9.to e12;refine sV Z (bg Z Z) (sA Z Z (aa (rT hQ Tryz.results250 Z ?_)));exact ⟨H10.ext, congrArg Value.bool (by rw [← vC]; simp only [Bool.and_assoc])⟩
theorem nT {w : World} {xs : List Rec} {xsA rA6 rA7 rA8 : Option Addr} {xsC rC6 rC7 rC8 : Nat} {r : Rec} (xsS : Sees w [.slice xsA xs.length xsC] xs) (rK : r.Ok) (rS6 : Sees w [.slice rA6 r.Rows.length rC6] r.Rows) (rS7 : Sees w [.slice rA7 r.Data.length rC7] r.Data) (rS8 : Sees w [.slice rA8 r.Delta.length rC8] r.Delta) : Ret Tryz.prog 162 #[.slice xsA xs.length xsC, r.val rA6 rC6 rA7 rC7 rA8 rC8] w fun v w' => Ext No w w' ∧ (v = .bool (decide (r ∈ xs))) := by
 have xsL := sL xsS;obtain ⟨xsF, xsO⟩ := xsS;have rK2 := rK;unfold Rec.Ok at rK2
 try unfold I64ok at rK2
 try unfold maxLen at rK2
 have rN2 : r.Name.size ≤ maxLen := by unfold maxLen; omega
 have rL6 := sL rS6;obtain ⟨rF6, rO6⟩ := rS6;have rL7 := sL rS7;obtain ⟨rF7, rO7⟩ := rS7;have rL8 := sL rS8;obtain ⟨rF8, rO8⟩ := rS8;refine aF (vs := [.slice xsA xs.length xsC, r.val rA6 rC6 rA7 rC7 rA8 rC8]) Tryz.func162 Z Tryz.ntmps162 Z (fun Q hQ hN => ?_);have H0 := Sep.start (w := w) (F := [seen false [.slice xsA xs.length xsC] xs xsF, seen false [.slice rA6 r.Rows.length rC6] r.Rows rF6, seen false [.slice rA7 r.Data.length rC7] r.Data rF7, seen false [.slice rA8 r.Delta.length rC8] r.Delta rF8]) (all_cons xsO (all_cons rO6 (all_cons rO7 (all_cons rO8 (by simp)))));refine ag (be (wn Z) Z Z H0 (fun b1 w1 e1 g1 H1 => ?_));refine sA Z Z (aa (ah (ag (sA Z Z (aa (au (bR (γ := Nat) H1 [(0, _), (3, _)] ⟨Z, Z, trivial⟩ (fun k => [(5, .int .i64 k)]) (fun k => k ≤ xs.length ∧ (∀ i, i < k → decide (xs.getD i default = r) = false)) (fun k => xs.length - k) 0 ⟨Z, trivial⟩ ⟨by omega, fun i hi => by omega⟩ (fun k w2 H2 ⟨hk, he⟩ => ?_))))))));dsimp only[lCA,lNA];refine ah (ag (sM Z Z (sM Z Z (sV Z (aE aX Z) (sV Z (aD Z Z) (aa (az Z (fun c1 => ?_) (fun c1 => ?_))))))))
 ·refine ak (ah (au (ah ?_)));obtain ⟨eb1, eo1, es1, ef1, ee1, ec1, eO1, eH1, em1⟩ := aY (H2.seen 0 Z) k (by omega);obtain ⟨ea1, ek1, ea2, ek2, ea3, ek3, eg1, eg2, eg3, rfl, eq1, eK1, eo2, eo3, eo4⟩ := cz eO1;have eK1U := eK1;unfold Rec.Ok at eK1U
  try unfold I64ok at eK1U
  try unfold maxLen at eK1U
  have eP1 := H2.look1 0 Z eo2 (fun b hb => eH1 b (by rw [eq1]; simp [hb]));have eL1 := oL eo2;have eP2 := eP1.look1 0 Z eo3 (fun b hb => eH1 b (by rw [eq1]; simp [hb]));have eL2 := oL eo3;have eP3 := eP2.look1 0 Z eo4 (fun b hb => eH1 b (by rw [eq1]; simp [hb]));have eL3 := oL eo4;refine bE (S := Ext No _) (oQ [1,3,5,7,9,10]) (by kernel_rfl) (by kernel_rfl) (by kernel_rfl) Z (fun _ => Ext.refl.drawn _) (fun q1 => ?_);have H3 := eP3.drawn q1;refine dM Z Z Z (dM Z Z Z (dV Z Z (fun zw hx => ax aX aP Z Z ee1 k (by omega) (by omega)) (dV Z Z (fun zw hx => an aC Z aP Z Z (hx.at ec1)) (dV Z Z (fun zw hx => an aC Z aP Z Z (At.whole (hx.heap (H3.box 0 Z)))) (aM Z (wn Z) Z Z (aj Tryz.func250 Z xx Z) (pd (by assumption) (H3.sees 4 Z) (H3.sees 5 Z) (H3.sees 6 Z) (by assumption) (H3.sees 1 Z) (H3.sees 2 Z) (H3.sees 3 Z)) (fun hS _ _ r _ => hS.trans r.1.no) (fun v1 w3 r1 => ?_))))));obtain ⟨e2, rfl⟩ := r1;have H4 := H3.to e2;refine aT (bP Z (fun c2 => ?_) (fun c2 => ?_))
  ·refine ag (sA Z Z (aa (rT hQ Tryz.results162 Z ?_)));exact ⟨H4.ext, congrArg Value.bool (Dp (k := k) (by omega) (by simpa using c2))⟩
  ·refine ak (ao (sM Z Z (sV Z (aB Z Z iO) (sA Z Z (aa (⟨k + 1, ⟨Z, Z, Z, trivial⟩, ⟨(H4.ftake 4), by omega, fun i hi => ?_⟩, by dsimp only; omega⟩))))))
   by_cases e : i = k
   ·subst e
    simpa using c2
   ·exact he i (by omega)
 ·refine aN (ag (sA Z Z (aa (rT hQ Tryz.results162 Z ?_))));exact ⟨H2.ext, congrArg Value.bool (EO (fun i hi => he i (by omega)))⟩
theorem nZ {w : World} {x y : Rec} {xA6 xA7 xA8 yA6 yA7 yA8 : Option Addr} {xC6 xC7 xC8 yC6 yC7 yC8 : Nat}  : Ret Tryz.prog 163 #[x.val xA6 xC6 xA7 xC7 xA8 xC8, y.val yA6 yC6 yA7 yC7 yA8 yC8] w fun v w' => Ext No w w' ∧ (v = .bool (decide (kLt (dt x) (dt y)))) := by
 refine aF (vs := [x.val xA6 xC6 xA7 xC7 xA8 xC8, y.val yA6 yC6 yA7 yC7 yA8 yC8]) Tryz.func163 Z Tryz.ntmps163 Z (fun Q hQ hN => ?_);have H0 := Sep.start (w := w) (F := []) (by simp);refine ag (be (wn Z) Z Z H0 (fun b1 w1 e1 g1 H1 => ?_));refine be (wn Z) Z Z H1 (fun b2 w2 e2 g2 H2 => ?_);refine sA Z Z (aa (ah (ag (sV Z (ab aC Z ts2 Z Z) (sV Z (ac tu2 Z Z (ae (H2.box 0 Z) Z)) (sV Z (ab aC Z ts2 Z Z) (sV Z (ac tu2 Z Z (ae (H2.box 1 Z) Z)) (sV Z (aU Z Z) (aa (az Z (fun c1 => ?_) (fun c1 => ?_)))))))))))
 ·refine ag (sV Z (ab aC Z ts2 Z Z) (sV Z (ac tu2 Z Z (ae (H2.box 0 Z) Z)) (sV Z (ab aC Z ts2 Z Z) (sV Z (ac tu2 Z Z (ae (H2.box 1 Z) Z)) (sV Z (aD Z Z) (sA Z Z (aa (rT hQ Tryz.results163 Z ?_))))))));exact ⟨H2.ext, congrArg Value.bool (decide_eq_decide.2 (by unfold kLt dt; dsimp only; omega))⟩
 ·refine ak (ah (ag (sV Z (ab aC Z ts2 Z Z) (sV Z (ac tu2 Z Z (ae (H2.box 0 Z) Z)) (sV Z (ab aC Z ts2 Z Z) (sV Z (ac tu2 Z Z (ae (H2.box 1 Z) Z)) (sV Z (aU Z Z) (aa (az Z (fun c2 => ?_) (fun c2 => ?_))))))))))
  ·refine ag (sV Z (ab aC Z ts2 Z Z) (sV Z (ac tu2 Z Z (ae (H2.box 0 Z) Z)) (sV Z (ab aC Z ts2 Z Z) (sV Z (ac tu2 Z Z (ae (H2.box 1 Z) Z)) (sV Z (aD Z Z) (sA Z Z (aa (rT hQ Tryz.results163 Z ?_))))))));exact ⟨H2.ext, congrArg Value.bool (decide_eq_decide.2 (by unfold kLt dt; dsimp only; omega))⟩
  ·refine ak (ag (sV Z (ab aC Z ts2 Z Z) (sV Z (ac tu2 Z Z (ae (H2.box 0 Z) Z)) (sV Z (ab aC Z ts2 Z Z) (sV Z (ac tu2 Z Z (ae (H2.box 1 Z) Z)) (sV Z (aD Z Z) (sA Z Z (aa (rT hQ Tryz.results163 Z ?_)))))))));exact ⟨H2.ext, congrArg Value.bool (decide_eq_decide.2 (by unfold kLt dt; dsimp only; omega))⟩
theorem gc {w : World} {zb zC9 zC10 zC11 : Nat} {z : Wld} {zA9 zA10 zA11 : Option Addr} {zF9 zF10 zF11 : List Nat} (zB : w.heap[zb]? = some (.cells [.int .i64 z.Shape.Groups, .int .i64 z.Shape.Column, .int .i64 z.Shape.Data, .int .i64 z.Shape.Spare, .int .i64 z.Shape.Rows, .int .i64 z.Shape.Cap, .int .i64 z.Shape.Batch, .int .i64 z.Shape.Queue, .int .i64 z.Shape.Stage, .slice zA9 z.Groups.length zC9, .slice zA10 z.On.length zC10, .slice zA11 z.Tapes.length zC11, .int .i64 z.Writes, .int .i64 z.Stop, .bool z.Down].toArray 34)) (zK : z.Ok) (zO9 : own false w [.slice zA9 z.Groups.length zC9] z.Groups zF9) (zO10 : own false w [.slice zA10 z.On.length zC10] z.On zF10) (zO11 : own false w [.slice zA11 z.Tapes.length zC11] z.Tapes zF11) (hT : z.Tapes.length = 2) (hrl : ∀ k, (z.Tapes.getD k default).Recs.length ≤ 200000) : Ret Tryz.prog 173 #[.pointer (some ⟨zb, 0, none⟩)] w fun v w' => Ext No w w' ∧ (∃ vs, Res w w' [v] vs ∧ RdV w' zF11 vs ∧ vs.map RecV.r = dG z) := by
 have zK2 := zK;unfold Wld.Ok Shape.Ok at zK2
 try unfold I64ok at zK2
 try unfold maxLen at zK2
 have zL9 := oL zO9;have zL10 := oL zO10;have zL11 := oL zO11;refine aF (vs := [.pointer (some ⟨zb, 0, none⟩)]) Tryz.func173 Z Tryz.ntmps173 Z (fun Q hQ hN => ?_);have H0 := Sep.start (w := w) (F := [box zb (.cells [.int .i64 z.Shape.Groups, .int .i64 z.Shape.Column, .int .i64 z.Shape.Data, .int .i64 z.Shape.Spare, .int .i64 z.Shape.Rows, .int .i64 z.Shape.Cap, .int .i64 z.Shape.Batch, .int .i64 z.Shape.Queue, .int .i64 z.Shape.Stage, .slice zA9 z.Groups.length zC9, .slice zA10 z.On.length zC10, .slice zA11 z.Tapes.length zC11, .int .i64 z.Writes, .int .i64 z.Stop, .bool z.Down].toArray 34), seen false [.slice zA9 z.Groups.length zC9] z.Groups zF9, seen false [.slice zA10 z.On.length zC10] z.On zF10, seen false [.slice zA11 z.Tapes.length zC11] z.Tapes zF11]) (all_cons (by exact zB) (all_cons zO9 (all_cons zO10 (all_cons zO11 (by simp)))));refine ag (sA Z Z (aa (ag (dY (α := RecV) (wn Z) Z aX bd H0 (fun b1 w1 e1 g1 H1 => ?_)))));refine sA Z Z (aa (ah (ag (sM Z Z (sV Z (bH Z) (sV Z (ab aV Z dy Z Z) (sV Z (ac bW Z Z (ae (H1.fbox 0 Z) Z)) (sV Z (aE bW Z) (sM Z Z (aa (au (gq (α := RecV) (γ := Nat × List RecV) (fun (k, vs) => vs) (0, []) H1 0 Z 3 Z [(2, _), (12, _), (13, _)] ⟨Z, Z, Z, trivial⟩ (fun (k, vs) => [(14, .int .i64 k)]) (fun (k, vs) => k ≤ z.Tapes.length ∧ RdV w zF11 vs ∧ vs.map RecV.r = eT z k 0) (fun (k, vs) => z.Tapes.length - k) ⟨Z, trivial⟩ ⟨by (try dsimp only); omega, RdV.nil, by (try dsimp only); rw [rF]; rfl⟩ (fun (k, vs) vA1 fA1 w2 H2 ⟨hk, hR, hM⟩ => ?_)))))))))))));dsimp only[lCA,lNA,lSZ,lSS] at H2 ⊢;refine ag (sV Z (aD Z Z) (aa (ah (az Z (fun c1 => ?_) (fun c1 => ?_)))))
 ·refine ak (ah (au (ah ?_)));obtain ⟨eb1, eo1, es1, ef1, ee1, ec1, eO1, eH1, em1⟩ := aY (H2.seen 3 Z) k (by omega);obtain ⟨ea1, ek1, eg1, rfl, eq1, eK1, eo2⟩ := ce eO1;have eP1 := H2.look1 3 Z eo2 (fun b hb => eH1 b (by rw [eq1]; simp [hb]));have eL1 := oL eo2;refine ao (sV Z (ax bW cn Z Z ee1 k (by omega) (by omega)) (sV Z (an cb Z cn Z Z ec1) (bZ (wn Z) Z Tryz.zeroValue134 eP1 (fun b2 w3 e2 g2 H3 => ?_))));refine bf (wn Z) cn Z Z Z Z H3 1 Z Z (fun w4 e3 H4 => ?_);dsimp only[lNA,lCA,lSZ,lSS,aO] at H4;refine aa (ag (sV Z (ab cb Z d9 Z Z) (sV Z (ac aX Z Z (ae (H4.box 1 Z) Z)) (sV Z (aE aX Z) (sM Z Z (aa (au (gq (α := RecV) (γ := Nat × List RecV) (fun (j, vs2) => vs2) (0, vs) H4 0 Z 3 Z [(2, _), (12, _), (13, _), (14, _), (19, _), (20, _)] ⟨Z, Z, Z, Z, Z, Z, trivial⟩ (fun (j, vs2) => [(21, .int .i64 j)]) (fun (j, vs2) => j ≤ (z.Tapes.getD k default).Recs.length ∧ RdV w zF11 vs2 ∧ vs2.map RecV.r = eT z k j) (fun (j, vs2) => (z.Tapes.getD k default).Recs.length - j) ⟨Z, trivial⟩ ⟨by (try dsimp only); omega, hR, hM⟩ (fun (j, vs2) vA2 fA2 w5 H5 ⟨hj, hR2, hM2⟩ => ?_)))))))));dsimp only[lCA,lNA,lSZ,lSS] at H5 ⊢;refine ag (sV Z (aD Z Z) (aa (ah (az Z (fun c2 => ?_) (fun c2 => ?_)))))
  ·refine ak (ah (au (ah ?_)));obtain ⟨eb2, eo3, es2, ef2, ee2, ec2, eO2, eH2, em2⟩ := aY (H5.seen 4 Z) j (by omega);obtain ⟨ea2, ek2, ea3, ek3, ea4, ek4, eg2, eg3, eg4, rfl, eq2, eK2, eo4, eo5, eo6⟩ := cz eO2;have eK2U := eK2;unfold Rec.Ok at eK2U
   try unfold I64ok at eK2U
   try unfold maxLen at eK2U
   have eP2 := H5.look1 4 Z eo4 (fun b hb => eH2 b (by rw [eq2]; simp [hb]));have eL2 := oL eo4;have eP3 := eP2.look1 4 Z eo5 (fun b hb => eH2 b (by rw [eq2]; simp [hb]));have eL3 := oL eo5;have eP4 := eP3.look1 4 Z eo6 (fun b hb => eH2 b (by rw [eq2]; simp [hb]));have eL4 := oL eo6;refine ao (sV Z (ax aX aP Z Z ee2 j (by omega) (by omega)) (sV Z (an aC Z aP Z Z ec2) (bZ (wn Z) Z Tryz.zeroValue94 eP4 (fun b3 w6 e4 g3 H6 => ?_))));refine bf (wn Z) aP Z Z Z Z H6 2 Z Z (fun w7 e5 H7 => ?_);dsimp only[lNA,lCA,lSZ,lSS,aO] at H7;refine aa (ah ?_);obtain ⟨oa, ok2, oq⟩ := aA (H7.mine 0 Z);cases oq;have hE := (InF.back (ft := zF11) (cs := ((RecV.mk ((z.Tapes.getD k default).Recs.getD j default) ea2 ek2 ea3 ek3 ea4 ek4)).cs) (x := ((z.Tapes.getD k default).Recs.getD j default)) ⟨_, eO2, (fun b hb => (fun b hb => eH1 b (by rw [eq1]; simp [hb])) b (eH2 b hb))⟩ eP4.ext (Rp.lt zO11));have hvl : vs2.length = (eT z k j).length := by rw [← hM2, List.length_map]
   have hcb := of hT hrl (k := k) (j := j) (by omega) (by have := hrl k; omega);refine ao (sM Z Z (sV Z (an aC Z aP Z Z (At.whole (H7.box 2 Z))) (ay (wn Z) Z Z (aj Tryz.func241 Z xG Z) (by have lc := tM (xs := vs2.map RecV.r) (r := ((z.Tapes.getD k default).Recs.getD j default)) (by rw [List.length_map]; exact (hR2.to H7.ext).list (H7.mine 0 Z)) (by assumption) (H7.sees 5 Z) (H7.sees 6 Z) (H7.sees 7 Z); rw [List.length_map] at lc; exact lc) (fun v1 w8 r1 => ?_))));obtain ⟨e6, rfl⟩ := r1;have H8 := H7.to e6;refine sV Z (bb Z) (aa (bP Z (fun c3 => ?_) (fun c3 => ?_)))
   ·refine ao (sM Z Z (sV Z (an aC Z aP Z Z (At.whole (H8.box 2 Z))) (fW (wn Z) Z aX bd Z Z Z Z H8 (fun b4 w9 e7 g4 H9 => ?_))));refine lR (wn Z) Z aX bd Z Z Z H9 0 3 Z Z (jh (v := (RecV.mk ((z.Tapes.getD k default).Recs.getD j default) ea2 ek2 ea3 ek3 ea4 ek4)) (by assumption)) (by unfold maxLen; omega) (by omega) (fun v2 w10 fp1 H10 => ?_);refine sA Z Z (aa (ao (sV Z (aB Z Z iO) (sM Z Z (aa ?_)))));exact ⟨((j + 1, vs2 ++ [(RecV.mk ((z.Tapes.getD k default).Recs.getD j default) ea2 ek2 ea3 ek3 ea4 ek4)]), _, _), ⟨Z, Z, Z, Z, Z, Z, Z, Z, trivial⟩, ⟨((H10.ftake 5).dtake 2), by (try dsimp only); omega, hR2.snoc hE, by (try dsimp only); rw [List.map_append, hM2, eG (by omega), se (by rw [← hM2]; simpa using c3)]; rfl⟩, by dsimp only; omega⟩
   ·refine ak (ao (sV Z (aB Z Z iO) (sM Z Z (aa ?_))));exact ⟨((j + 1, vs2), _, _), ⟨Z, Z, Z, Z, Z, Z, Z, Z, trivial⟩, ⟨((H8.ftake 5).dtake 2), by (try dsimp only); omega, hR2, by (try dsimp only); rw [hM2, eG (by omega), BW (by rw [← hM2]; simpa using c3)]⟩, by dsimp only; omega⟩
  ·refine aN (ao (sV Z (aB Z Z iO) (sM Z Z (aa ?_))));obtain rfl : j = (z.Tapes.getD k default).Recs.length := by omega
   exact ⟨((k + 1, vs2), _, _), ⟨Z, Z, Z, Z, Z, trivial⟩, ⟨((H5.ftake 4).dtake 1), by (try dsimp only); omega, hR2, by (try dsimp only); rw [hM2, rv (by omega)]⟩, by dsimp only; omega⟩
 ·refine aN (ah ?_);obtain rfl : k = z.Tapes.length := by omega
  have hvl : vs.length = (eT z z.Tapes.length 0).length := by rw [← hM, List.length_map]
  have hcb := of hT hrl (k := z.Tapes.length) (j := 0) (by omega) (by omega);refine ao (sM Z Z ?_);obtain ⟨oa, ok2, oq⟩ := aA (H2.mine 0 Z);cases oq;refine ay (wn Z) Z Z (aj Tryz.func261 Z xH Z) (CE (ws := vs) (gL := []) (H2.mine 0 Z) (H2.nodup1 (i := 0) Z) Tryz.func262 Z wV (fun w1 e1 x y a6 c6 a7 c7 a8 c8 b6 d6 b7 d7 b8 d8 => jC) (by omega)) (fun v3 w11 r2 => ?_);obtain ⟨us, mm1, hS⟩ := r2;obtain ⟨fp2, H11⟩ := H2.mut 0 Z mm1
  try dsimp only[lNA,lCA,lSZ,lSS] at H11
  refine aa (ag (sM Z Z (sA Z Z (aa (rT hQ Tryz.results173 Z ?_)))));exact ⟨H11.ext, us, H11.out 0 Z, (hR.stable hS).to H11.ext, Ef hM hS⟩
theorem iG {w : World} {zb zC9 zC10 zC11 : Nat} {z : Wld} {zA9 zA10 zA11 : Option Addr} {zF9 zF10 zF11 : List Nat} (zB : w.heap[zb]? = some (.cells [.int .i64 z.Shape.Groups, .int .i64 z.Shape.Column, .int .i64 z.Shape.Data, .int .i64 z.Shape.Spare, .int .i64 z.Shape.Rows, .int .i64 z.Shape.Cap, .int .i64 z.Shape.Batch, .int .i64 z.Shape.Queue, .int .i64 z.Shape.Stage, .slice zA9 z.Groups.length zC9, .slice zA10 z.On.length zC10, .slice zA11 z.Tapes.length zC11, .int .i64 z.Writes, .int .i64 z.Stop, .bool z.Down].toArray 34)) (zK : z.Ok) (zO9 : own false w [.slice zA9 z.Groups.length zC9] z.Groups zF9) (zO10 : own false w [.slice zA10 z.On.length zC10] z.On zF10) (zO11 : own false w [.slice zA11 z.Tapes.length zC11] z.Tapes zF11) (hT : z.Tapes.length = 2) (hrl : ∀ k, (z.Tapes.getD k default).Recs.length ≤ 200000) : Ret Tryz.prog 83 #[.pointer (some ⟨zb, 0, none⟩)] w fun v w' => Ext No w w' ∧ (∃ vs, Res w w' [v] vs ∧ RdV w' zF11 vs ∧ vs.map RecV.r = dG z) := by
 have zK2 := zK;unfold Wld.Ok Shape.Ok at zK2
 try unfold I64ok at zK2
 try unfold maxLen at zK2
 have zL9 := oL zO9;have zL10 := oL zO10;have zL11 := oL zO11;refine aF (vs := [.pointer (some ⟨zb, 0, none⟩)]) Tryz.func83 Z Tryz.ntmps83 Z (fun Q hQ hN => ?_);have H0 := Sep.start (w := w) (F := [box zb (.cells [.int .i64 z.Shape.Groups, .int .i64 z.Shape.Column, .int .i64 z.Shape.Data, .int .i64 z.Shape.Spare, .int .i64 z.Shape.Rows, .int .i64 z.Shape.Cap, .int .i64 z.Shape.Batch, .int .i64 z.Shape.Queue, .int .i64 z.Shape.Stage, .slice zA9 z.Groups.length zC9, .slice zA10 z.On.length zC10, .slice zA11 z.Tapes.length zC11, .int .i64 z.Writes, .int .i64 z.Stop, .bool z.Down].toArray 34), seen false [.slice zA9 z.Groups.length zC9] z.Groups zF9, seen false [.slice zA10 z.On.length zC10] z.On zF10, seen false [.slice zA11 z.Tapes.length zC11] z.Tapes zF11]) (all_cons (by exact zB) (all_cons zO9 (all_cons zO10 (all_cons zO11 (by simp)))));refine ag (sA Z Z (aa (ag (dY (α := RecV) (wn Z) Z aX bd H0 (fun b1 w1 e1 g1 H1 => ?_)))));refine sA Z Z (aa (ah (ag (sA Z Z (aa (au (gq (α := RecV) (γ := Nat × List RecV) (fun (k, vs) => vs) (0, []) H1 0 Z 3 Z [(0, _), (2, _)] ⟨Z, Z, trivial⟩ (fun (k, vs) => [(4, .int .i64 k)]) (fun (k, vs) => k ≤ 2 ∧ RdV w zF11 vs ∧ Stable kLt dt (eT z k 0) (vs.map RecV.r)) (fun (k, vs) => 2 - k) ⟨Z, trivial⟩ ⟨by (try dsimp only); omega, RdV.nil, by (try dsimp only); rw [rF]; exact ⟨.nil, .refl⟩⟩ (fun (k, vs) vA1 fA1 w2 H2 ⟨hk, hR, hM⟩ => ?_))))))));dsimp only[lCA,lNA,lSZ,lSS] at H2 ⊢;refine ah (ag (sM Z Z (sV Z (aD Z Z) (aa (az Z (fun c1 => ?_) (fun c1 => ?_))))))
 ·refine ak (ah (au (ag (sA Z Z (aa (au (gq (α := RecV) (γ := Nat × List RecV) (fun (j, vs2) => vs2) (0, vs) H2 0 Z 3 Z [(0, _), (2, _), (4, _)] ⟨Z, Z, Z, trivial⟩ (fun (j, vs2) => [(5, .int .i64 j)]) (fun (j, vs2) => j ≤ (z.Tapes.getD k default).Recs.length ∧ RdV w zF11 vs2 ∧ Stable kLt dt (eT z k j) (vs2.map RecV.r)) (fun (j, vs2) => (z.Tapes.getD k default).Recs.length - j) ⟨Z, trivial⟩ ⟨by (try dsimp only); omega, hR, hM⟩ (fun (j, vs2) vA2 fA2 w3 H3 ⟨hj, hR2, hM2⟩ => ?_))))))));dsimp only[lCA,lNA,lSZ,lSS] at H3 ⊢;refine ah (ah ?_);obtain ⟨eb1, eo1, es1, ef1, ee1, ec1, eO1, eH1, em1⟩ := aY (H3.seen 3 Z) k (by omega);obtain ⟨ea1, ek1, eg1, rfl, eq1, eK1, eo2⟩ := ce eO1;have eP1 := H3.look1 3 Z eo2 (fun b hb => eH1 b (by rw [eq1]; simp [hb]));have eL1 := oL eo2;refine ao (sM Z Z (sM Z Z (sV Z (bH Z) (sV Z (ab aV Z dy Z Z) (sV Z (ac bW Z Z (ae (eP1.fbox 0 Z) Z)) (sM Z Z (sV Z (ax bW cn Z Z ee1 k (by omega) (by omega)) (sV Z (ab cb Z d9 Z Z) (sV Z (ac aX Z Z (bn ec1 1 Z)) (sV Z (aE aX Z) (sV Z (aD Z Z) (aa (az Z (fun c2 => ?_) (fun c2 => ?_))))))))))))))
  ·refine ak (ah (au (ah ?_)));obtain ⟨eb2, eo3, es2, ef2, ee2, ec2, eO2, eH2, em2⟩ := aY (eP1.seen 3 Z) k (by omega);obtain ⟨ea2, ek2, eg2, rfl, eq2, eK2, eo4⟩ := ce eO2;have eP2 := eP1.look1 3 Z eo4 (fun b hb => eH2 b (by rw [eq2]; simp [hb]));have eL2 := oL eo4;obtain ⟨eb3, eo5, es3, ef3, ee3, ec3, eO3, eH3, em3⟩ := aY (eP2.seen 5 Z) j (by omega);obtain ⟨ea3, ek3, ea4, ek4, ea5, ek5, eg3, eg4, eg5, rfl, eq3, eK3, eo6, eo7, eo8⟩ := cz eO3;have eK3U := eK3;unfold Rec.Ok at eK3U
   try unfold I64ok at eK3U
   try unfold maxLen at eK3U
   have eP3 := eP2.look1 5 Z eo6 (fun b hb => eH3 b (by rw [eq3]; simp [hb]));have eL3 := oL eo6;have eP4 := eP3.look1 5 Z eo7 (fun b hb => eH3 b (by rw [eq3]; simp [hb]));have eL4 := oL eo7;have eP5 := eP4.look1 5 Z eo8 (fun b hb => eH3 b (by rw [eq3]; simp [hb]));have eL5 := oL eo8;refine ao (sM Z Z (sV Z (bH Z) (sV Z (ab aV Z dy Z Z) (sV Z (ac bW Z Z (ae (eP5.fbox 0 Z) Z)) (sM Z Z (sV Z (ax bW cn Z Z ee2 k (by omega) (by omega)) (sV Z (ab cb Z d9 Z Z) (sV Z (ac aX Z Z (bn ec2 1 Z)) (sM Z Z (sV Z (ax aX aP Z Z ee3 j (by omega) (by omega)) (sV Z (an aC Z aP Z Z ec3) (bZ (wn Z) Z Tryz.zeroValue94 eP5 (fun b2 w4 e2 g2 H4 => ?_)))))))))))));refine bf (wn Z) aP Z Z Z Z H4 1 Z Z (fun w5 e3 H5 => ?_);dsimp only[lNA,lCA,lSZ,lSS,aO] at H5;refine aa (ah (ah ?_));obtain ⟨oa, ok2, oq⟩ := aA (H5.mine 0 Z);cases oq;have hE := (InF.back (ft := zF11) (cs := ((RecV.mk ((z.Tapes.getD k default).Recs.getD j default) ea3 ek3 ea4 ek4 ea5 ek5)).cs) (x := ((z.Tapes.getD k default).Recs.getD j default)) ⟨_, eO3, (fun b hb => (fun b hb => eH2 b (by rw [eq2]; simp [hb])) b (eH3 b hb))⟩ eP5.ext (Rp.lt zO11));have hvl : vs2.length = (eT z k j).length := by have := hM2.2.len; rwa [List.length_map] at this
   have hcb := of hT hrl (k := k) (j := j) (by omega) (by have := hrl k; omega);refine ao (sM Z Z (sV Z (an aC Z aP Z Z (At.whole (H5.box 1 Z))) (ay (wn Z) Z Z (aj Tryz.func162 Z xn Z) (by have lc := nT (xs := vs2.map RecV.r) (r := ((z.Tapes.getD k default).Recs.getD j default)) (by rw [List.length_map]; exact (hR2.to H5.ext).list (H5.mine 0 Z)) (by assumption) (H5.sees 6 Z) (H5.sees 7 Z) (H5.sees 8 Z); rw [List.length_map] at lc; exact lc) (fun v1 w6 r1 => ?_))));obtain ⟨e4, rfl⟩ := r1;have H6 := H5.to e4;refine aa (bP Z (fun c3 => ?_) (fun c3 => ?_))
   ·refine aN (ao (sM Z Z (sV Z (aB Z Z iO) (sA Z Z (aa ?_)))));exact ⟨((j + 1, vs2), _, _), ⟨Z, Z, Z, Z, Z, trivial⟩, ⟨((H6.ftake 4).dtake 1), by (try dsimp only); omega, hR2, by (try dsimp only); rw [eG (by omega), BW ((fU hM2 _).1 (by simpa using c3))]; exact hM2⟩, by dsimp only; omega⟩
   ·have hno := c3;refine ak (ah ?_);have HS := H6.share 0 Z
    try dsimp only[lNA,lCA,lSZ,lSS] at HS
    have vsl := vs2.length_map RecV.r;refine ao (sM Z Z (sV Z (aE aX Z) (sA Z Z (aa (ah (au (bR (γ := Nat) HS [(0, _), (2, _), (3, _), (4, _), (5, _), (6, _)] ⟨Z, Z, Z, Z, Z, Z, trivial⟩ (fun a => [(7, .int .i64 a)]) (fun a => a ≤ vs2.length ∧ (∀ i, a ≤ i → i < vs2.length → kLt (dt ((z.Tapes.getD k default).Recs.getD j default)) (dt (vs2.getD i default).r))) (fun a => a) vs2.length ⟨Z, trivial⟩ ⟨by omega, fun i h1 h2 => by omega⟩ (fun a w7 H7 ⟨ha, hB⟩ => ?_))))))));dsimp only[lCA,lNA];refine ah (ah (bE (S := Ext No _) [(0, true), (1, true), (2, true), (3, true), (4, true), (5, true), (6, true), (7, true), (8, true), (9, false), (10, false)] (by kernel_rfl) (by kernel_rfl) (by kernel_rfl) Z (fun _ => Ext.refl.drawn _) (fun q1 => ?_)));have H8 := H7.drawn q1;refine dM Z Z Z (dV Z Z (fun zw hx => bU Z Z) (dM Z Z Z (cx (t := 44) Z (fun hg1 => ?_) (fun hg1 => ?_))))
    ·try simp only [decide_eq_true_eq, decide_eq_false_iff_not] at hg1
     refine aI Z (wg Z Z Z) Z Z (fun zw hx => an aC Z aP Z Z (At.whole (hx.heap (H8.box 1 Z)))) (aI Z (wg Z Z Z) Z Z (fun zw hx => aG Z) (aI Z (wg Z Z Z) Z Z (fun zw hx => aG Z) (aI Z (wg Z Z Z) Z Z (fun zw hx => bx Z Z iO) ?_)));obtain ⟨eb4, eo9, ee4, ec4, eK4⟩ := H8.viewSeen 9 Z (a - 1) (by omega);refine aI Z (wg Z Z Z) Z Z (fun zw hx => ax aX aP Z Z ee4 (a - 1) (by omega) (by omega)) (aI Z (wg Z Z Z) Z Z (fun zw hx => an aC Z aP Z Z (hx.at ec4)) (aM Z (wg Z Z Z) Z Z (aj Tryz.func163 Z xd Z) nZ (fun hS _ _ r _ => hS.trans r.1.no) (fun v2 w8 r2 => ?_)));obtain ⟨e5, rfl⟩ := r2;have H9 := H8.to e5;refine aS Z (wn Z) Z Z (aJ Z Z) (aT (bP Z (fun c4 => ?_) (fun c4 => ?_)))
     ·refine ak (au (ao (sM Z Z (sV Z (bx Z Z iO) (sA Z Z (aa (⟨a - 1, ⟨eqI (by omega), Z, Z, Z, Z, Z, Z, trivial⟩, ⟨H9, by omega, fun i h1 h2 => ?_⟩, by dsimp only; omega⟩)))))))
      by_cases e : i = a - 1
      ·subst e; exact of_decide_eq_true c4
      ·exact hB i (by omega) h2
     ·refine aN (bE (S := Ext No _) [(1, true), (2, true), (3, true), (5, true), (8, true), (9, true), (10, true), (1012, false), (0, false), (1005, false), (4, false), (6, false), (7, false), (11, false), (12, false), (6, false), (4, false), (7, false), (11, false), (12, false), (6, false), (0, false), (4, false), (7, false), (11, false), (12, false)] (by kernel_rfl) (by kernel_rfl) (by kernel_rfl) Z (fun _ => Ext.refl.drawn _) (fun q2 => ?_));have H10 := H9.drawn q2;refine dM Z Z Z (dM Z Z Z ?_);have sc1 := dK (H10.seen 9 Z);obtain ⟨sf1, so1, ss1⟩ := ii (H10.seen 9 Z) (0) (a) _ (by omega) (by omega) (by omega) (Nat.le_refl _);have H11 := H10.look1 9 Z so1 ss1;have sl1 := ia (xs := vs2) (l := 0) (h := a) (by omega);refine dV Z Z (fun zw hx => ke aX aP Z Z (a) (by omega) (by omega) sl1) (dV Z Z (fun zw hx => an aC Z aP Z Z (At.whole (hx.heap (H10.box 1 Z)))) (dM Z Z Z (dM Z Z Z ?_)));have sc2 := dK (H11.seen 9 Z);obtain ⟨sf2, so2, ss2⟩ := ii (H11.seen 9 Z) (a) (vs2.length) _ (by omega) (by omega) (by omega) (Nat.le_refl _);have H12 := H11.look1 9 Z so2 ss2;have sl2 := ia (xs := vs2) (l := a) (h := vs2.length) (by omega);refine dV Z Z (fun zw hx => vy aX aP Z Z (a) (by omega) (by omega) sl2) (cW (l1 := [(0, false), (1005, false), (4, false), (6, false), (7, false), (11, false), (12, false), (6, false), (4, false), (7, false), (11, false), (12, false)]) (l2 := [(6, false), (0, false), (4, false), (7, false), (11, false), (12, false)]) Z Z Z Z ?_ ?_)
      ·refine d_S (fun hs1 => ?_) (by simp);refine nk (α := RecV) Z (wn Z) Z aX bd H12 (fun _ h e => h.trans e.no) (fun b3 w9 e6 g3 H13 => ?_);refine cW (l1 := [(4, false), (6, false), (7, false), (11, false), (12, false)]) (l2 := [(6, false), (4, false), (7, false), (11, false), (12, false)]) Z Z Z Z ?_ ?_
       ·refine d_S (fun hs2 => ?_) (by simp);refine eo Z (wn Z) Z aX bd Z Z Z H13 2 Z (H13.seen 10 Z) (by (try simp only [List.length_append, List.length_nil, List.length_cons]); unfold maxLen; omega) (by (try simp only [List.length_append, List.length_nil, List.length_cons]); omega) (fun b hb => by simp only [List.mem_singleton] at hb; rw [hb]; exact Nat.le_trans hs1.size g3) (fun v3 w10 fp1 sb1 H14 => ?_)
        try dsimp only[lNA,lCA,lSZ,lSS] at H14
        refine dm Z (wn Z) Z aX bd Z Z Z Z H14 (fun _ h e => h.trans e.no) (fun b4 w11 e7 g4 H15 => ?_);refine d_S (fun hs3 => ?_) (by simp);refine gx Z (wn Z) Z aX bd Z Z Z H15 2 3 Z Z (jh (v := (RecV.mk ((z.Tapes.getD k default).Recs.getD j default) ea3 ek3 ea4 ek4 ea5 ek5)) (by assumption)) (by (try simp only [List.length_append, List.length_nil, List.length_cons]); unfold maxLen; omega) (by (try simp only [List.length_append, List.length_nil, List.length_cons]); omega) (fun b hb => (sb1 b hb).elim (((fun b hb => by simp only [List.mem_singleton] at hb; rw [hb]; exact Nat.le_trans hs1.size g3) : ∀ b ∈ _, _ ≤ b) b) (fun h => Nat.le_trans hs2.size h)) (fun v4 w12 fp2 sb2 H16 => ?_)
        try dsimp only[lNA,lCA,lSZ,lSS] at H16
        refine d_S (fun hs4 => ?_) (by simp);refine eo Z (wn Z) Z aX bd Z Z Z H16 2 Z (H16.seen 11 Z) (by (try simp only [List.length_append, List.length_nil, List.length_cons]); unfold maxLen; omega) (by (try simp only [List.length_append, List.length_nil, List.length_cons]); omega) (fun b hb => (sb2 b hb).elim (((fun b hb => (sb1 b hb).elim (((fun b hb => by simp only [List.mem_singleton] at hb; rw [hb]; exact Nat.le_trans hs1.size g3) : ∀ b ∈ _, _ ≤ b) b) (fun h => Nat.le_trans hs2.size h)) : ∀ b ∈ _, _ ≤ b) b) (fun h => Nat.le_trans hs3.size h)) (fun v5 w13 fp3 sb3 H17 => ?_)
        try dsimp only[lNA,lCA,lSZ,lSS] at H17
        refine aS Z (wn Z) Z Z (bD Z) (aT (ao (sM Z Z (sV Z (aB Z Z iO) (sA Z Z (aa ?_))))));exact ⟨((j + 1, _), _, _), ⟨Z, Z, Z, Z, Z, trivial⟩, ⟨(H17.ftake 4).sub (.cons _ (.cons _ (.cons_cons _ (.cons _ List.Sublist.slnil)))), by (try dsimp only); omega, ((hR2.sub fM).snoc hE).app (hR2.sub fM), by (try dsimp only); rw [eG (by omega), se (fun hm => absurd ((fU hM2 _).2 hm) (by simpa using hno)), kz Z (by omega)]; exact mc hM2 (by omega) (.inr (by rw [← dB Z (by omega)]; exact of_decide_eq_false (by simpa using c4))) (fun i h1 h2 => by rw [← dB Z (by omega)]; exact hB i h1 (by omega))⟩, by dsimp only; omega⟩
       ·refine dm Z (wn Z) Z aX bd Z Z Z Z H13 (fun _ h e => h.trans e.no) (fun b5 w14 e8 g5 H18 => ?_);refine d_S (fun hs5 => ?_) (by simp);refine eo Z (wn Z) Z aX bd Z Z Z H18 2 Z (H18.seen 10 Z) (by (try simp only [List.length_append, List.length_nil, List.length_cons]); unfold maxLen; omega) (by (try simp only [List.length_append, List.length_nil, List.length_cons]); omega) (fun b hb => by simp only [List.mem_singleton] at hb; rw [hb]; exact Nat.le_trans hs1.size g3) (fun v6 w15 fp4 sb4 H19 => ?_)
        try dsimp only[lNA,lCA,lSZ,lSS] at H19
        refine d_S (fun hs6 => ?_) (by simp);refine gx Z (wn Z) Z aX bd Z Z Z H19 2 3 Z Z (jh (v := (RecV.mk ((z.Tapes.getD k default).Recs.getD j default) ea3 ek3 ea4 ek4 ea5 ek5)) (by assumption)) (by (try simp only [List.length_append, List.length_nil, List.length_cons]); unfold maxLen; omega) (by (try simp only [List.length_append, List.length_nil, List.length_cons]); omega) (fun b hb => (sb4 b hb).elim (((fun b hb => by simp only [List.mem_singleton] at hb; rw [hb]; exact Nat.le_trans hs1.size g3) : ∀ b ∈ _, _ ≤ b) b) (fun h => Nat.le_trans hs5.size h)) (fun v7 w16 fp5 sb5 H20 => ?_)
        try dsimp only[lNA,lCA,lSZ,lSS] at H20
        refine d_S (fun hs7 => ?_) (by simp);refine eo Z (wn Z) Z aX bd Z Z Z H20 2 Z (H20.seen 11 Z) (by (try simp only [List.length_append, List.length_nil, List.length_cons]); unfold maxLen; omega) (by (try simp only [List.length_append, List.length_nil, List.length_cons]); omega) (fun b hb => (sb5 b hb).elim (((fun b hb => (sb4 b hb).elim (((fun b hb => by simp only [List.mem_singleton] at hb; rw [hb]; exact Nat.le_trans hs1.size g3) : ∀ b ∈ _, _ ≤ b) b) (fun h => Nat.le_trans hs5.size h)) : ∀ b ∈ _, _ ≤ b) b) (fun h => Nat.le_trans hs6.size h)) (fun v8 w17 fp6 sb6 H21 => ?_)
        try dsimp only[lNA,lCA,lSZ,lSS] at H21
        refine aS Z (wn Z) Z Z (bD Z) (aT (ao (sM Z Z (sV Z (aB Z Z iO) (sA Z Z (aa ?_))))));exact ⟨((j + 1, _), _, _), ⟨Z, Z, Z, Z, Z, trivial⟩, ⟨(H21.ftake 4).sub (.cons _ (.cons _ (.cons_cons _ (.cons _ List.Sublist.slnil)))), by (try dsimp only); omega, ((hR2.sub fM).snoc hE).app (hR2.sub fM), by (try dsimp only); rw [eG (by omega), se (fun hm => absurd ((fU hM2 _).2 hm) (by simpa using hno)), kz Z (by omega)]; exact mc hM2 (by omega) (.inr (by rw [← dB Z (by omega)]; exact of_decide_eq_false (by simpa using c4))) (fun i h1 h2 => by rw [← dB Z (by omega)]; exact hB i h1 (by omega))⟩, by dsimp only; omega⟩
      ·refine dm Z (wn Z) Z aX bd Z Z Z Z H12 (fun _ h e => h.trans e.no) (fun b6 w18 e9 g6 H22 => ?_);refine d_S (fun hs8 => ?_) (by simp);refine nk (α := RecV) Z (wn Z) Z aX bd H22 (fun _ h e => h.trans e.no) (fun b7 w19 e10 g7 H23 => ?_);refine d_S (fun hs9 => ?_) (by simp);refine eo Z (wn Z) Z aX bd Z Z Z H23 3 Z (H23.seen 10 Z) (by (try simp only [List.length_append, List.length_nil, List.length_cons]); unfold maxLen; omega) (by (try simp only [List.length_append, List.length_nil, List.length_cons]); omega) (fun b hb => by simp only [List.mem_singleton] at hb; rw [hb]; exact Nat.le_trans hs8.size g7) (fun v9 w20 fp7 sb7 H24 => ?_)
       try dsimp only[lNA,lCA,lSZ,lSS] at H24
       refine d_S (fun hs10 => ?_) (by simp);refine gx Z (wn Z) Z aX bd Z Z Z H24 3 2 Z Z (jh (v := (RecV.mk ((z.Tapes.getD k default).Recs.getD j default) ea3 ek3 ea4 ek4 ea5 ek5)) (by assumption)) (by (try simp only [List.length_append, List.length_nil, List.length_cons]); unfold maxLen; omega) (by (try simp only [List.length_append, List.length_nil, List.length_cons]); omega) (fun b hb => (sb7 b hb).elim (((fun b hb => by simp only [List.mem_singleton] at hb; rw [hb]; exact Nat.le_trans hs8.size g7) : ∀ b ∈ _, _ ≤ b) b) (fun h => Nat.le_trans hs9.size h)) (fun v10 w21 fp8 sb8 H25 => ?_)
       try dsimp only[lNA,lCA,lSZ,lSS] at H25
       refine d_S (fun hs11 => ?_) (by simp);refine eo Z (wn Z) Z aX bd Z Z Z H25 3 Z (H25.seen 11 Z) (by (try simp only [List.length_append, List.length_nil, List.length_cons]); unfold maxLen; omega) (by (try simp only [List.length_append, List.length_nil, List.length_cons]); omega) (fun b hb => (sb8 b hb).elim (((fun b hb => (sb7 b hb).elim (((fun b hb => by simp only [List.mem_singleton] at hb; rw [hb]; exact Nat.le_trans hs8.size g7) : ∀ b ∈ _, _ ≤ b) b) (fun h => Nat.le_trans hs9.size h)) : ∀ b ∈ _, _ ≤ b) b) (fun h => Nat.le_trans hs10.size h)) (fun v11 w22 fp9 sb9 H26 => ?_)
       try dsimp only[lNA,lCA,lSZ,lSS] at H26
       refine aS Z (wn Z) Z Z (bD Z) (aT (ao (sM Z Z (sV Z (aB Z Z iO) (sA Z Z (aa ?_))))));exact ⟨((j + 1, _), _, _), ⟨Z, Z, Z, Z, Z, trivial⟩, ⟨(H26.ftake 4).sub (.cons _ (.cons _ (.cons _ (.cons_cons _ List.Sublist.slnil)))), by (try dsimp only); omega, ((hR2.sub fM).snoc hE).app (hR2.sub fM), by (try dsimp only); rw [eG (by omega), se (fun hm => absurd ((fU hM2 _).2 hm) (by simpa using hno)), kz Z (by omega)]; exact mc hM2 (by omega) (.inr (by rw [← dB Z (by omega)]; exact of_decide_eq_false (by simpa using c4))) (fun i h1 h2 => by rw [← dB Z (by omega)]; exact hB i h1 (by omega))⟩, by dsimp only; omega⟩
    ·try simp only [decide_eq_true_eq, decide_eq_false_iff_not] at hg1
     refine dKf Z Z Z Z (dKf Z Z Z Z (dKf Z Z Z Z (dKf Z Z Z Z (dKf Z Z Z Z (dKf Z Z Z Z (bm Z (wog (b := false) Z Z Z) Z Z (aS Z (wn Z) Z Z (aQ Z Z) (aT (gz Z (aN (bE (S := Ext No _) [(1, true), (2, true), (3, true), (5, true), (8, true), (9, true), (10, true), (1012, false), (0, false), (1005, false), (4, false), (6, false), (7, false), (11, false), (12, false), (6, false), (4, false), (7, false), (11, false), (12, false), (6, false), (0, false), (4, false), (7, false), (11, false), (12, false)] (by kernel_rfl) (by kernel_rfl) (by kernel_rfl) Z (fun _ => Ext.refl.drawn _) (fun q3 => ?_))))))))))));have H27 := H8.drawn q3;refine dM Z Z Z (dM Z Z Z ?_);have sc3 := dK (H27.seen 9 Z);obtain ⟨sf3, so3, ss3⟩ := ii (H27.seen 9 Z) (0) (a) _ (by omega) (by omega) (by omega) (Nat.le_refl _);have H28 := H27.look1 9 Z so3 ss3;have sl3 := ia (xs := vs2) (l := 0) (h := a) (by omega);refine dV Z Z (fun zw hx => ke aX aP Z Z (a) (by omega) (by omega) sl3) (dV Z Z (fun zw hx => an aC Z aP Z Z (At.whole (hx.heap (H27.box 1 Z)))) (dM Z Z Z (dM Z Z Z ?_)));have sc4 := dK (H28.seen 9 Z);obtain ⟨sf4, so4, ss4⟩ := ii (H28.seen 9 Z) (a) (vs2.length) _ (by omega) (by omega) (by omega) (Nat.le_refl _);have H29 := H28.look1 9 Z so4 ss4;have sl4 := ia (xs := vs2) (l := a) (h := vs2.length) (by omega);refine dV Z Z (fun zw hx => vy aX aP Z Z (a) (by omega) (by omega) sl4) (cW (l1 := [(0, false), (1005, false), (4, false), (6, false), (7, false), (11, false), (12, false), (6, false), (4, false), (7, false), (11, false), (12, false)]) (l2 := [(6, false), (0, false), (4, false), (7, false), (11, false), (12, false)]) Z Z Z Z ?_ ?_)
     ·refine d_S (fun hs12 => ?_) (by simp);refine nk (α := RecV) Z (wn Z) Z aX bd H29 (fun _ h e => h.trans e.no) (fun b8 w23 e11 g8 H30 => ?_);refine cW (l1 := [(4, false), (6, false), (7, false), (11, false), (12, false)]) (l2 := [(6, false), (4, false), (7, false), (11, false), (12, false)]) Z Z Z Z ?_ ?_
      ·refine d_S (fun hs13 => ?_) (by simp);refine eo Z (wn Z) Z aX bd Z Z Z H30 2 Z (H30.seen 10 Z) (by (try simp only [List.length_append, List.length_nil, List.length_cons]); unfold maxLen; omega) (by (try simp only [List.length_append, List.length_nil, List.length_cons]); omega) (fun b hb => by simp only [List.mem_singleton] at hb; rw [hb]; exact Nat.le_trans hs12.size g8) (fun v12 w24 fp10 sb10 H31 => ?_)
       try dsimp only[lNA,lCA,lSZ,lSS] at H31
       refine dm Z (wn Z) Z aX bd Z Z Z Z H31 (fun _ h e => h.trans e.no) (fun b9 w25 e12 g9 H32 => ?_);refine d_S (fun hs14 => ?_) (by simp);refine gx Z (wn Z) Z aX bd Z Z Z H32 2 3 Z Z (jh (v := (RecV.mk ((z.Tapes.getD k default).Recs.getD j default) ea3 ek3 ea4 ek4 ea5 ek5)) (by assumption)) (by (try simp only [List.length_append, List.length_nil, List.length_cons]); unfold maxLen; omega) (by (try simp only [List.length_append, List.length_nil, List.length_cons]); omega) (fun b hb => (sb10 b hb).elim (((fun b hb => by simp only [List.mem_singleton] at hb; rw [hb]; exact Nat.le_trans hs12.size g8) : ∀ b ∈ _, _ ≤ b) b) (fun h => Nat.le_trans hs13.size h)) (fun v13 w26 fp11 sb11 H33 => ?_)
       try dsimp only[lNA,lCA,lSZ,lSS] at H33
       refine d_S (fun hs15 => ?_) (by simp);refine eo Z (wn Z) Z aX bd Z Z Z H33 2 Z (H33.seen 11 Z) (by (try simp only [List.length_append, List.length_nil, List.length_cons]); unfold maxLen; omega) (by (try simp only [List.length_append, List.length_nil, List.length_cons]); omega) (fun b hb => (sb11 b hb).elim (((fun b hb => (sb10 b hb).elim (((fun b hb => by simp only [List.mem_singleton] at hb; rw [hb]; exact Nat.le_trans hs12.size g8) : ∀ b ∈ _, _ ≤ b) b) (fun h => Nat.le_trans hs13.size h)) : ∀ b ∈ _, _ ≤ b) b) (fun h => Nat.le_trans hs14.size h)) (fun v14 w27 fp12 sb12 H34 => ?_)
       try dsimp only[lNA,lCA,lSZ,lSS] at H34
       refine aS Z (wn Z) Z Z (bD Z) (aT (ao (sM Z Z (sV Z (aB Z Z iO) (sA Z Z (aa ?_))))));exact ⟨((j + 1, _), _, _), ⟨Z, Z, Z, Z, Z, trivial⟩, ⟨(H34.ftake 4).sub (.cons _ (.cons _ (.cons_cons _ (.cons _ List.Sublist.slnil)))), by (try dsimp only); omega, ((hR2.sub fM).snoc hE).app (hR2.sub fM), by (try dsimp only); rw [eG (by omega), se (fun hm => absurd ((fU hM2 _).2 hm) (by simpa using hno)), kz Z (by omega)]; exact mc hM2 (by omega) (.inl (by omega)) (fun i h1 h2 => by rw [← dB Z (by omega)]; exact hB i h1 (by omega))⟩, by dsimp only; omega⟩
      ·refine dm Z (wn Z) Z aX bd Z Z Z Z H30 (fun _ h e => h.trans e.no) (fun b10 w28 e13 g10 H35 => ?_);refine d_S (fun hs16 => ?_) (by simp);refine eo Z (wn Z) Z aX bd Z Z Z H35 2 Z (H35.seen 10 Z) (by (try simp only [List.length_append, List.length_nil, List.length_cons]); unfold maxLen; omega) (by (try simp only [List.length_append, List.length_nil, List.length_cons]); omega) (fun b hb => by simp only [List.mem_singleton] at hb; rw [hb]; exact Nat.le_trans hs12.size g8) (fun v15 w29 fp13 sb13 H36 => ?_)
       try dsimp only[lNA,lCA,lSZ,lSS] at H36
       refine d_S (fun hs17 => ?_) (by simp);refine gx Z (wn Z) Z aX bd Z Z Z H36 2 3 Z Z (jh (v := (RecV.mk ((z.Tapes.getD k default).Recs.getD j default) ea3 ek3 ea4 ek4 ea5 ek5)) (by assumption)) (by (try simp only [List.length_append, List.length_nil, List.length_cons]); unfold maxLen; omega) (by (try simp only [List.length_append, List.length_nil, List.length_cons]); omega) (fun b hb => (sb13 b hb).elim (((fun b hb => by simp only [List.mem_singleton] at hb; rw [hb]; exact Nat.le_trans hs12.size g8) : ∀ b ∈ _, _ ≤ b) b) (fun h => Nat.le_trans hs16.size h)) (fun v16 w30 fp14 sb14 H37 => ?_)
       try dsimp only[lNA,lCA,lSZ,lSS] at H37
       refine d_S (fun hs18 => ?_) (by simp);refine eo Z (wn Z) Z aX bd Z Z Z H37 2 Z (H37.seen 11 Z) (by (try simp only [List.length_append, List.length_nil, List.length_cons]); unfold maxLen; omega) (by (try simp only [List.length_append, List.length_nil, List.length_cons]); omega) (fun b hb => (sb14 b hb).elim (((fun b hb => (sb13 b hb).elim (((fun b hb => by simp only [List.mem_singleton] at hb; rw [hb]; exact Nat.le_trans hs12.size g8) : ∀ b ∈ _, _ ≤ b) b) (fun h => Nat.le_trans hs16.size h)) : ∀ b ∈ _, _ ≤ b) b) (fun h => Nat.le_trans hs17.size h)) (fun v17 w31 fp15 sb15 H38 => ?_)
       try dsimp only[lNA,lCA,lSZ,lSS] at H38
       refine aS Z (wn Z) Z Z (bD Z) (aT (ao (sM Z Z (sV Z (aB Z Z iO) (sA Z Z (aa ?_))))));exact ⟨((j + 1, _), _, _), ⟨Z, Z, Z, Z, Z, trivial⟩, ⟨(H38.ftake 4).sub (.cons _ (.cons _ (.cons_cons _ (.cons _ List.Sublist.slnil)))), by (try dsimp only); omega, ((hR2.sub fM).snoc hE).app (hR2.sub fM), by (try dsimp only); rw [eG (by omega), se (fun hm => absurd ((fU hM2 _).2 hm) (by simpa using hno)), kz Z (by omega)]; exact mc hM2 (by omega) (.inl (by omega)) (fun i h1 h2 => by rw [← dB Z (by omega)]; exact hB i h1 (by omega))⟩, by dsimp only; omega⟩
     ·refine dm Z (wn Z) Z aX bd Z Z Z Z H29 (fun _ h e => h.trans e.no) (fun b11 w32 e14 g11 H39 => ?_);refine d_S (fun hs19 => ?_) (by simp);refine nk (α := RecV) Z (wn Z) Z aX bd H39 (fun _ h e => h.trans e.no) (fun b12 w33 e15 g12 H40 => ?_);refine d_S (fun hs20 => ?_) (by simp);refine eo Z (wn Z) Z aX bd Z Z Z H40 3 Z (H40.seen 10 Z) (by (try simp only [List.length_append, List.length_nil, List.length_cons]); unfold maxLen; omega) (by (try simp only [List.length_append, List.length_nil, List.length_cons]); omega) (fun b hb => by simp only [List.mem_singleton] at hb; rw [hb]; exact Nat.le_trans hs19.size g12) (fun v18 w34 fp16 sb16 H41 => ?_)
      try dsimp only[lNA,lCA,lSZ,lSS] at H41
      refine d_S (fun hs21 => ?_) (by simp);refine gx Z (wn Z) Z aX bd Z Z Z H41 3 2 Z Z (jh (v := (RecV.mk ((z.Tapes.getD k default).Recs.getD j default) ea3 ek3 ea4 ek4 ea5 ek5)) (by assumption)) (by (try simp only [List.length_append, List.length_nil, List.length_cons]); unfold maxLen; omega) (by (try simp only [List.length_append, List.length_nil, List.length_cons]); omega) (fun b hb => (sb16 b hb).elim (((fun b hb => by simp only [List.mem_singleton] at hb; rw [hb]; exact Nat.le_trans hs19.size g12) : ∀ b ∈ _, _ ≤ b) b) (fun h => Nat.le_trans hs20.size h)) (fun v19 w35 fp17 sb17 H42 => ?_)
      try dsimp only[lNA,lCA,lSZ,lSS] at H42
      refine d_S (fun hs22 => ?_) (by simp);refine eo Z (wn Z) Z aX bd Z Z Z H42 3 Z (H42.seen 11 Z) (by (try simp only [List.length_append, List.length_nil, List.length_cons]); unfold maxLen; omega) (by (try simp only [List.length_append, List.length_nil, List.length_cons]); omega) (fun b hb => (sb17 b hb).elim (((fun b hb => (sb16 b hb).elim (((fun b hb => by simp only [List.mem_singleton] at hb; rw [hb]; exact Nat.le_trans hs19.size g12) : ∀ b ∈ _, _ ≤ b) b) (fun h => Nat.le_trans hs20.size h)) : ∀ b ∈ _, _ ≤ b) b) (fun h => Nat.le_trans hs21.size h)) (fun v20 w36 fp18 sb18 H43 => ?_)
      try dsimp only[lNA,lCA,lSZ,lSS] at H43
      refine aS Z (wn Z) Z Z (bD Z) (aT (ao (sM Z Z (sV Z (aB Z Z iO) (sA Z Z (aa ?_))))));exact ⟨((j + 1, _), _, _), ⟨Z, Z, Z, Z, Z, trivial⟩, ⟨(H43.ftake 4).sub (.cons _ (.cons _ (.cons _ (.cons_cons _ List.Sublist.slnil)))), by (try dsimp only); omega, ((hR2.sub fM).snoc hE).app (hR2.sub fM), by (try dsimp only); rw [eG (by omega), se (fun hm => absurd ((fU hM2 _).2 hm) (by simpa using hno)), kz Z (by omega)]; exact mc hM2 (by omega) (.inl (by omega)) (fun i h1 h2 => by rw [← dB Z (by omega)]; exact hB i h1 (by omega))⟩, by dsimp only; omega⟩
  ·refine aN (ao (sM Z Z (sV Z (aB Z Z iO) (sA Z Z (aa ?_)))));obtain rfl : j = (z.Tapes.getD k default).Recs.length := by omega
   exact ⟨((k + 1, vs2), _, _), ⟨Z, Z, Z, Z, trivial⟩, ⟨(eP1.ftake 4), by (try dsimp only); omega, hR2, by (try dsimp only); rw [← rv (by omega)]; exact hM2⟩, by dsimp only; omega⟩
 ·refine aN (ag (sM Z Z (sA Z Z (aa (rT hQ Tryz.results83 Z ?_)))));obtain rfl : k = 2 := by omega
  exact ⟨H2.ext, vs, H2.out 0 Z, hR.to H2.ext, ub (by rw [hT]; exact hM)⟩
end Go.Wk
namespace Go.Wk
open Rp (sz own)
theorem Br {xs : List Rec} {g row : Int} (h : ¬ 0 ≤ fv (shP g row) xs) : opI xs g row = fv (shP g row) xs := by
  have := sK (p := shP g row) (rs := xs)
  rw [BU h]; omega
def nodef (l : List Oper) : Bool := l.all fun o => match o.op with
  | .defer _ => false
  | _ => true
theorem vA {l : List Oper} (h : nodef l = true) {o : Oper} (ho : o ∈ l) : ∀ c, o.op ≠ .defer c := by
  have := List.all_eq_true.1 h o ho
  intro c e
  rw [e] at this
  cases this
section
variable {ro : Option Nat} {P : Program} {n m : Nat} {ops : Array Oper} {L : Env} {w : World}
theorem DX {row : String} {args : Array Value} {R : Value → World → Prop} (h : Rows P row args w R) : RowsIn (inF ro) m P row args w R :=
  fun c cs _ => let ⟨v, w', r, s⟩ := h c cs; ⟨v, w', r, stepsIn_wide.2 s⟩
theorem Ev {o : Oper} (hd : ∀ c, o.op ≠ .defer c) {a : Act} {K : Act → World → Prop} {QQ : Exit → Act → World → Prop} (h : o.wp P a w K QQ) : o.wpIn (inF ro) m P a w K QQ := by
  refine ⟨fun _ _ => trivial, ?_⟩
  rw [Oper.semAt_eq _ _ _ hd]
  unfold Oper.wp at h
  generalize (execOp a.eval o).run P w = r at *
  cases r with
  | ok x w' =>
    cases x with
    | enter f args => exact ⟨fun h => (by cases h), callsIn_wide.2 h⟩
    | row r args => exact ⟨fun h => (by cases h), DX h⟩
    | _ => first | exact h | exact h.elim
  | halt x w' => cases x <;> exact h
theorem BI {Q : Post} : ¬ LetsOut (lift n Q) := fun ⟨_, _, h⟩ => h
theorem uS {Q : Post} : ∀ {l : List Oper}, nodef l = true → ∀ {a : Act} {w : World}, wpList P ops (lift n Q) l a w → wpListIn (inF ro) m P ops (lift n Q) l a w
  | [], _, _, _, h => h
  | o :: l, hd, a, w, h => by
    have hl : nodef l = true := by unfold nodef at hd ⊢; simp only [List.all_cons, Bool.and_eq_true] at hd; exact hd.2
    unfold wpListIn
    unfold wpList at h
    split
    · next hw =>
      rw [if_pos hw] at h
      rcases h with h | h
      · exact Ev (vA hd (by simp)) (Oper.wp_mono (fun a w => uS hl) h)
      · exact absurd h.2 BI
    · next hw =>
      rw [if_neg hw] at h
      exact ⟨fun _ _ => trivial, uS hl h⟩
theorem uT {Q : Post} (hd : nodef ops.toList = true) : ∀ (k : Nat) (listed : Array Bool) (a : Act) (w : World), wpAny P .any ops (lift n Q) k listed a w → wpAnyIn (inF ro) m P .any ops (lift n Q) k listed a w
  | 0, _, _, _, h => h
  | k + 1, listed, a, w, h => ⟨h.1, fun i hi => by
    have h2 := h.2 i hi
    unfold wpOp at h2
    unfold wpOpIn
    split
    · next ho => rw [ho] at h2; exact uT hd k _ _ _ h2
    · next o ho =>
      simp only [ho] at h2
      split
      · next hw =>
        rw [if_pos hw] at h2
        rcases h2 with h2 | h2
        · exact Ev (vA hd (Array.mem_toList_iff.2 (Array.mem_of_getElem? ho))) (Oper.wp_mono (fun a w => uT hd k _ a w) h2)
        · exact absurd h2.2 BI
      · next hw => rw [if_neg hw] at h2; exact ⟨fun _ _ => trivial, uT hd k _ _ _ h2⟩⟩
theorem z6 {Q : Post} {e : Exit} {a : Act} (h : lift n Q e a w) : uf [] n Q e a w := by
  cases e <;> first | exact h | (obtain ⟨L, hg, hq⟩ := h; exact ⟨L, ⟨by have := hg; cases a; have := this.defers; simp only at this; subst this; exact hg, hg.defers⟩, hq⟩)
theorem z9 {a : Act} (h : GoodD [] n a L) : Good n a L := by
  obtain ⟨h1, h2⟩ := h
  cases a; simp only at h2; subst h2; exact h1
theorem ml {Q : Post} {id : Nat} {l : List Oper} (hd : nodef l = true) (h : RL P n l.toArray Q l L w) : WF ro [] P n (.region id l.toArray false) Q L w := fun a ha =>
  wpIn_mono (wpIn_region_lit (uS hd (h a (z9 ha)))) fun _ _ _ h => z6 h
theorem D5 {Q : Post} {S : World → Prop} {id : Nat} (l : List (Nat × Bool)) (hd : nodef ops.toList = true) (hm : P.follows .mixedOrders = true) (hc : pD ops ops.size l (Array.replicate ops.size false) = true) (hs : Region.noSelect ops = true)
    (hS : ∀ k, S { w with drawn := k }) (h : ∀ k, DL P n ops Q S l L { w with drawn := k }) : WF ro [] P n (.region id ops true) Q L w := fun a ha =>
  wpIn_mono (wpIn_region_any hm (uT hd _ _ _ _ (ve _ _ _ _ ((h _ hs a (z9 ha) (fun _ => hS _) ops.size _ ops.size (Nat.le_refl _)).1 hc)))) fun _ _ _ h => z6 h
theorem GoodD.eval {ds : List Deferred} {a : Act} {x : Operand} {v : Value} (h : GoodD ds n a L) (hx : evL L x = some v) : a.eval x = v := by
  have := h.1.eval hx
  exact this
theorem Fi {ds : List Deferred} {Q : Post} {c : Operand} {x y : Code} {b : Bool} (hc : evL L c = some (.bool b)) (h1 : b = true → WF ro ds P n x Q L w) (h2 : b = false → WF ro ds P n y Q L w) :
    WF ro ds P n (.cond c x y) Q L w := fun a ha => wpIn_cond_split (ha.eval hc) (fun h => h1 h a ha) (fun h => h2 h a ha)
theorem DV {ds : List Deferred} {Q : Post} {M : Env} {c : Code} (hs : sub L M) (h : WF ro ds P n c Q M w) : WF ro ds P n c Q L w := fun a ha => h a (ha.weak hs)
theorem CQ {ds : List Deferred} {Q : Post} {rest : List Oper} {d : Tmp} {x y1 y2 : Operand} {ats : Array TypeId} {ty : TypeId} {p : String} {af : Array Edge} {l : Nat} {u1 u2 : Value} {R : Ending → World → Prop}
    (hx : evL L x = some (.func (.yield l) #[] #[])) (hy1 : evL L y1 = some u1) (hy2 : evL L y2 = some u2) (hn : Nat.blt d n = true)
    (hc : YieldAt (inF none) 2 P l #[u1, u2] w R) (k : ∀ e w', R e w' → ∃ v, e = .returned v ∧ RF none ds P n ops Q rest ((d, v) :: L) w') :
    RF none ds P n ops Q (⟨some d, .call ⟨.value x, #[y1, y2], ats⟩, ty, p, af, none⟩ :: rest) L w := by
  obtain ⟨fn, tmps, assign, body, hr, hR⟩ := hc
  refine EE (wn rfl) (by intro c h; cases h) (r := .ok (.round l fn tmps assign body) w) (fun a ha => ?_) fun a ha K hK => ?_
  · simp [execOp, resolve, invoke, Deferred.ofValue, ha.eval hx, ha.eval hy1, ha.eval hy2, hr]
  · rw [Oper.uponIn_round]
    refine ⟨fun h => (by cases h), hR.mono fun e w' he => ?_⟩
    obtain ⟨v, rfl, hk⟩ := k e w' he
    exact hK _ _ (hk _ (ha.put hn))
end
theorem E0 {ro : Option Nat} {ds : List Deferred} {P : Program} {n : Nat} {ops : Array Oper} {Q : Post} {L : Env} {w w0 : World} {M : Nat → Prop} {Δ F : List Rsc} {rest : List Oper} {ty : TypeId} {p : String} {af : Array Edge} {g : Option (Nat × Bool)} {t : TypeId} {x y : Operand} {b off sz : Nat} {cs : List Value} {T} {vs : List Value} (hw : Wn ops n L ⟨none, .store t x y, ty, p, af, g⟩) (hs : ∀ w, (sizeOf t).run P w = .ok sz w) (hx : evL L x = some (.pointer (some ⟨b, off, none⟩))) (hy : evL L y = some (.agg vs.toArray))
    (hl : vs.length = sz) (h1 : p8 vs = true) (H : Sep M w0 Δ F w) (i : Nat) (hi : Δ[i]? = some (box b (.cells cs.toArray T))) (ho : Nat.ble (off + sz) cs.length = true)
    (k : ∀ w', Ext (· = b) w w' → Sep M w0 (Δ.set i (box b (.cells (aO cs off vs).toArray T))) F w' → RF ro ds P n ops Q rest L w') :
    RF ro ds P n ops Q (⟨none, .store t x y, ty, p, af, g⟩ :: rest) L w := by
  have ho' := Nat.le_of_ble_eq_true ho
  have h := k _ (Ext.refl.put (.inl rfl)) (H.put i _ hi)
  rw [← oZ (by rw [hl]; exact ho')] at h
  exact Fc hw rfl (kB hs hx hy hl (jR h1) (H.box i hi) (by simpa using ho')) h
theorem Ep {P : Program} {fn : Func} {R : Value → World → Prop} {L : Env} {w : World} {t u : Nat} {ty uy : TypeId} {x y : Addr} {v v2 : Value} (hr : fn.results = #[.cell t ty, .cell u uy]) (hv : look L t = some (.pointer (some x))) (hl : (loadVar ty x).run P w = .ok v w)
    (hu : look L u = some (.pointer (some y))) (hl2 : (loadVar uy y).run P w = .ok v2 w) (h : R (.tuple #[v, v2]) w) : fin P fn R .ret L w := fun _ a hg =>
  ⟨_, by have h1 := hg.cov t _ hv; have h2 := hg.cov u _ hu; simp only [Array.getD_eq_getD_getElem?] at h1 h2; simp [results, hr, h1, h2, asAddr, hl, hl2], h⟩
section
variable {P : Program} {n : Nat} {L : Env} {W : World} {R : LoopState → Option Code → Loop} {fn : FuncId} {tmps : Array Value} {assign body : Code} {t1 t2 : Tmp} {l : Nat} {u1 u2 : Value}
theorem AR (hR : Recs R fn tmps #[t1, t2] assign body) (hg : Good n { tmps := tmps, defers := [] } L) (ht1 : Nat.blt t1 n = true) (ht2 : Nat.blt t2 n = true) (hl : W.heap[l]? = some (.loop (R .ready none))) {A : Env → World → Prop} {B C : World → Prop}
    (ha : WF (some l) [] P n assign (fun e L' W' => e = .normal ∧ W'.heap[l]? = some (.loop (R .ready none)) ∧ A L' W') ((t2, u2) :: (t1, u1) :: L) W)
    (hb : ∀ L' W', A L' W' → WF (some l) [] P n body (fun e L' W' => W'.heap[l]? = some (.loop (R .busy none)) ∧ (e = .normal ∧ B W' ∨ e = .ret ∧ C W')) L' (put W' l (.loop (R .busy none)))) :
    YieldAt (inF none) 2 P l #[u1, u2] W fun e W' => ∃ W2, W2.heap[l]? = some (.loop (R .busy none)) ∧ (e = .returned (.bool true) ∧ B W2 ∧ W' = put W2 l (.loop (R .ready none)) ∨ e = .returned (.bool false) ∧ C W2 ∧ W' = put W2 l (.loop (R .done (some .ret)))) := by
  have hy := run_yield (P := P) (args := #[u1, u2]) hl (by rw [hR.ps]; rfl)
  rw [hR.fn, hR.tmps, hR.ps, hR.asg, hR.bo] at hy
  refine ⟨fn, _, assign, body, hy, ?_⟩
  have hg2 : GoodD [] n { tmps := ((#[t1, t2].zip #[u1, u2]).foldl (fun tmps (t, a) => tmps.setIfInBounds t a) tmps), defers := [] } ((t2, u2) :: (t1, u1) :: L) := by
    refine ⟨?_, rfl⟩
    have := (hg.put ht1 (v := u1)).put ht2 (v := u2)
    simpa [Act.put] using this
  refine roundIn_of_wpIn (F := inF none) trivial ?_
  have key : assign.wpIn (inF (some l)) 3 P (uf [] n (fun e L' W' => e = .normal ∧ W'.heap[l]? = some (.loop (R .ready none)) ∧ A L' W')) { tmps := ((#[t1, t2].zip #[u1, u2]).foldl (fun tmps (t, a) => tmps.setIfInBounds t a) tmps), defers := [] } W := ha _ hg2
  have dn : ∀ {c : Code} {QQ : Exit → Act → World → Prop} {a : Act} {w : World}, c.wpIn (inF (some l)) 3 P QQ a w → c.wpIn ((inF none).inRound l) 2 P QQ a w := fun h b k cs h1 h2 h3 => h b k cs h1 h2 (fun d hd => by cases hd)
  refine dn (wpIn_mono key fun e a w hh => ?_)
  cases e with
  | normal =>
    obtain ⟨L', hg', _, hl1, hA⟩ := hh
    refine ⟨put w l (.loop (R .busy none)), ?_, dn (wpIn_mono (hb _ _ hA _ hg') fun e a w2 hh => ?_)⟩
    · have := run_beginRound (P := P) hl1 (hR.st _ _)
      rw [this]
      have e1 := hR.up .ready none .busy none
      have e2 : ({ R .ready none with state := .busy } : Loop) = R .busy none := by
        rw [← e1]
        have := hR.pe .ready none
        cases h : R .ready none; rw [h] at this; simp only at this; subst this; rfl
      rw [e2]; rfl
    · cases e with
      | normal =>
        obtain ⟨L3, _, hl2, hB⟩ := hh
        rcases hB with ⟨_, hB⟩ | ⟨hf, _⟩
        · refine ⟨_, _, run_endRound (P := P) none hl2, w2, hl2, .inl ⟨rfl, hB, ?_⟩⟩
          show put w2 l _ = _
          congr 2
          exact hR.up .busy none .ready none
        · cases hf
      | ret =>
        obtain ⟨L3, _, hl2, hB⟩ := hh
        rcases hB with ⟨hf, _⟩ | ⟨_, hC⟩
        · cases hf
        · refine ⟨_, _, run_endRound (P := P) (some .ret) hl2, w2, hl2, .inr ⟨rfl, hC, ?_⟩⟩
          show put w2 l _ = _
          congr 2
          exact hR.up .busy none .done (some .ret)
      | panic _ => exact hh
      | outgrown => exact hh
      | exit _ => obtain ⟨_, _, _, h | h⟩ := hh <;> cases h.1
      | goto _ => obtain ⟨_, _, _, h | h⟩ := hh <;> cases h.1
  | panic _ => exact hh
  | outgrown => exact hh
  | ret => obtain ⟨_, _, h, _⟩ := hh; cases h
  | exit _ => obtain ⟨_, _, h, _⟩ := hh; cases h
  | goto _ => obtain ⟨_, _, h, _⟩ := hh; cases h
end
section
variable {P : Program} {n : Nat} {L : Env} {w : World} {Q : Exit → Act → World → Prop}
theorem Bu {g : Operand} {ps : Array Tmp} {assign body : Code} {gf : FuncId} {gfn : Func} {lb : Array Value} {a : Act} {K K2 : World → Prop} (ha : GoodD [] n a L) (hg : evL L g = some (.func (.func gf) #[] lb))
    (hf : P.funcs[gf]? = some gfn) (hb : gfn.body.isNone = false) (hnm : (gfn.name == "runtime.NumGoroutine") = false)
    (hc : ∀ (R : LoopState → Option Code → Loop) (fn : FuncId), Recs R fn a.tmps ps assign body →
      Ret P gf (#[.func (.yield (w.heap.size + 1)) #[] #[]] ++ lb) ((w.alloc (.deferred (some []))).alloc (.loop (R .ready none))) fun _ w2 =>
        (w2.heap[w.heap.size + 1]? = some (.loop (R .ready none)) ∧ K (put w2 (w.heap.size + 1) (.loop (R .exhausted none)))) ∨
        (w2.heap[w.heap.size + 1]? = some (.loop (R .done (some .ret))) ∧ K2 (put w2 (w.heap.size + 1) (.loop (R .exhausted (some .ret))))))
    (hQ : ∀ w3, K w3 → Q .normal { a with defers := [{ target := .collected w.heap.size, args := #[] }] } w3) (hQ2 : ∀ w3, K2 w3 → Q .ret { a with defers := [{ target := .collected w.heap.size, args := #[] }] } w3) :
    (Code.rangeFunc g ps assign body).wpIn (inF none) 3 P Q a w := by
  refine wpIn_rangeFunc ?_
  intro fn _
  let R : LoopState → Option Code → Loop := fun st pe => { state := st, pending := pe, fn, tmps := a.tmps, params := ps, assign, body, defers := w.heap.size }
  have hR : Recs R fn a.tmps ps assign body := ⟨fun _ _ => rfl, fun _ _ => rfl, fun _ _ _ _ => rfl, fun _ _ => rfl, fun _ _ => rfl, fun _ _ => rfl, fun _ _ => rfl, fun _ _ => rfl⟩
  refine ⟨w.heap.size + 1, [{ target := .collected w.heap.size, args := #[] }], (w.alloc (.deferred (some []))).alloc (.loop (R .ready none)), { target := .fn (.func gf) lb, args := #[.func (.yield (w.heap.size + 1)) #[] #[]] },
    (w.alloc (.deferred (some []))).alloc (.loop (R .ready none)), gf, #[.func (.yield (w.heap.size + 1)) #[] #[]] ++ lb, (w.alloc (.deferred (some []))).alloc (.loop (R .ready none)), run_enterLoop_outer _ _ _ _ _, ?_, fun _ _ => trivial, ?_, fun h => (by cases h), ?_⟩
  · have : a.eval g = .func (.func gf) #[] lb := ha.1.eval hg
    simp [resolve, this, Deferred.ofValue]
    rfl
  · have hb' : ¬ gfn.body = none := fun e => by rw [e] at hb; simp at hb
    have hnm' : ¬ gfn.name = "runtime.NumGoroutine" := fun e => by rw [e] at hnm; simp at hnm
    simp [invoke, callFunc, hf, hb', hnm']
  · refine callsIn_wide.2 (Calls.mono (hc R fn hR) fun e w2 ⟨v, he, hK⟩ => ?_)
    subst he
    rcases hK with ⟨hl, hK⟩ | ⟨hl, hK⟩
    · refine ⟨none, _, by have := run_endLoop (P := P) hl (by rw [hR.st]; simp); exact this, ?_⟩
      rw [ha.2]
      exact hQ _ hK
    · refine ⟨some .ret, _, by have := run_endLoop (P := P) hl (by rw [hR.st]; simp); exact this, ?_⟩
      rw [ha.2]
      exact wpIn_ret (hQ2 _ hK)
end
end Go.Wk
namespace Go.Wk
open Go.Proofs Rp
set_option maxRecDepth 10000
theorem kc {w : World} {x r : Rec} {xA6 xA7 xA8 rA6 rA7 rA8 : Option Addr} {xC6 xC7 xC8 rb rC6 rC7 rC8 : Nat} (xK : x.Ok) (xS6 : Sees w [.slice xA6 x.Rows.length xC6] x.Rows) (xS7 : Sees w [.slice xA7 x.Data.length xC7] x.Data) (xS8 : Sees w [.slice xA8 x.Delta.length xC8] x.Delta) (rB : w.heap[rb]? = some (.cells [.int .i64 r.Kind, .int .i64 r.Seq, .string r.Name, .int .i64 r.Length, .int .i64 r.Group, .int .i64 r.Row, .slice rA6 r.Rows.length rC6, .slice rA7 r.Data.length rC7, .slice rA8 r.Delta.length rC8].toArray 94)) (rK : r.Ok) (rS6 : Sees w [.slice rA6 r.Rows.length rC6] r.Rows) (rS7 : Sees w [.slice rA7 r.Data.length rC7] r.Data) (rS8 : Sees w [.slice rA8 r.Delta.length rC8] r.Delta) : Ret Tryz.prog 338 #[x.val xA6 xC6 xA7 xC7 xA8 xC8, .pointer (some ⟨rb, 0, none⟩)] w fun v w' => Ext No w w' ∧ (v = .bool (spS r x)) := by
 have xK2 := xK;unfold Rec.Ok at xK2
 try unfold I64ok at xK2
 try unfold maxLen at xK2
 have xN2 : x.Name.size ≤ maxLen := by unfold maxLen; omega
 have xL6 := sL xS6;obtain ⟨xF6, xO6⟩ := xS6;have xL7 := sL xS7;obtain ⟨xF7, xO7⟩ := xS7;have xL8 := sL xS8;obtain ⟨xF8, xO8⟩ := xS8;have rK2 := rK;unfold Rec.Ok at rK2
 try unfold I64ok at rK2
 try unfold maxLen at rK2
 have rN2 : r.Name.size ≤ maxLen := by unfold maxLen; omega
 have rL6 := sL rS6;obtain ⟨rF6, rO6⟩ := rS6;have rL7 := sL rS7;obtain ⟨rF7, rO7⟩ := rS7;have rL8 := sL rS8;obtain ⟨rF8, rO8⟩ := rS8;refine aF (vs := [x.val xA6 xC6 xA7 xC7 xA8 xC8, .pointer (some ⟨rb, 0, none⟩)]) Tryz.func338 Z Tryz.ntmps338 Z (fun Q hQ hN => ?_);have H0 := Sep.start (w := w) (F := [seen false [.slice xA6 x.Rows.length xC6] x.Rows xF6, seen false [.slice xA7 x.Data.length xC7] x.Data xF7, seen false [.slice xA8 x.Delta.length xC8] x.Delta xF8, box rb (.cells [.int .i64 r.Kind, .int .i64 r.Seq, .string r.Name, .int .i64 r.Length, .int .i64 r.Group, .int .i64 r.Row, .slice rA6 r.Rows.length rC6, .slice rA7 r.Data.length rC7, .slice rA8 r.Delta.length rC8].toArray 94), seen false [.slice rA6 r.Rows.length rC6] r.Rows rF6, seen false [.slice rA7 r.Data.length rC7] r.Data rF7, seen false [.slice rA8 r.Delta.length rC8] r.Delta rF8]) (all_cons xO6 (all_cons xO7 (all_cons xO8 (all_cons (by exact rB) (all_cons rO6 (all_cons rO7 (all_cons rO8 (by simp))))))));refine ag (be (wn Z) Z Z H0 (fun b1 w1 e1 g1 H1 => ?_));refine sA Z Z (aa (ag (sV Z (ab aC Z ts2 Z Z) (sV Z (ac tu2 Z Z (ae (H1.box 0 Z) Z)) (sV Z (ba Z Z) (sM Z Z (bv 5 (j := 3) (want := true) (t := 12) Z Z Z Z (fun hg1 kk1 => am (wgE Z Z Z hg1) Z Z (ab aC Z ts2 Z Z) (am (wgE Z Z Z hg1) Z Z (ac tu2 Z Z (ae (H1.box 0 Z) Z)) (am (wgE Z Z Z hg1) Z Z (ab aC Z ts2 Z Z) (am (wgE Z Z Z hg1) Z Z (ac tu2 Z Z (ae (H1.fbox 3 Z) Z)) (am (wgE Z Z Z hg1) Z Z (ba Z Z) (kk1 _ _ (kx Z (kx Z (kx Z (kx Z (kx Z k0))))) Z Ext.refl)))))) (fun w2 e2 => ?_))))))));have H2 := H1.to e2;refine sV Z (bg Z Z) (sM Z Z (bv 24 (j := 10) (want := false) (t := 38) Z Z Z Z (fun hg2 kk2 => am (wgE Z Z Z hg2) Z Z (ab aC Z ts2 Z Z) (am (wgE Z Z Z hg2) Z Z (ac tu2 Z Z (ae (H2.box 0 Z) Z)) (am (wgE Z Z Z hg2) Z Z (ba Z Z) (am (wgE Z Z Z hg2) Z Z (aG Z) (bv 5 (j := 14) (want := true) (t := 23) Z Z Z Z (fun hg3 kk3 => am (wgE Z Z Z hg3) Z Z (ab aC Z ts2 Z Z) (am (wgE Z Z Z hg3) Z Z (ac tu2 Z Z (ae (H2.box 0 Z) Z)) (am (wgE Z Z Z hg3) Z Z (ab aC Z ts2 Z Z) (am (wgE Z Z Z hg3) Z Z (ac tu2 Z Z (ae (H2.fbox 3 Z) Z)) (am (wgE Z Z Z hg3) Z Z (ba Z Z) (kk3 _ _ (kx Z (kx Z (kx Z (kx Z (kx Z k0))))) Z Ext.refl)))))) (fun w4 e4 => am (wgE Z Z Z hg2) Z Z (bg Z Z) (am (wgE Z Z Z hg2) Z Z (aG Z) (bv 5 (j := 21) (want := true) (t := 30) Z Z Z Z (fun hg4 kk4 => am (wgE Z Z Z hg4) Z Z (ab aC Z ts2 Z Z) (am (wgE Z Z Z hg4) Z Z (ac tu2 Z Z (ae ((H2.to e4).box 0 Z) Z)) (am (wgE Z Z Z hg4) Z Z (ab aC Z ts2 Z Z) (am (wgE Z Z Z hg4) Z Z (ac tu2 Z Z (ae ((H2.to e4).fbox 3 Z) Z)) (am (wgE Z Z Z hg4) Z Z (ba Z Z) (kk4 _ _ (kx Z (kx Z (kx Z (kx Z (kx Z k0))))) Z Ext.refl)))))) (fun w5 e5 => am (wgE Z Z Z hg2) Z Z (bg Z Z) (am (wgE Z Z Z hg2) Z Z (aG Z) (bv 5 (j := 28) (want := true) (t := 37) Z Z Z Z (fun hg5 kk5 => am (wgE Z Z Z hg5) Z Z (ab aC Z ts2 Z Z) (am (wgE Z Z Z hg5) Z Z (ac tu2 Z Z (ae (((H2.to e4).to e5).box 0 Z) Z)) (am (wgE Z Z Z hg5) Z Z (ab aC Z ts2 Z Z) (am (wgE Z Z Z hg5) Z Z (ac tu2 Z Z (ae (((H2.to e4).to e5).fbox 3 Z) Z)) (am (wgE Z Z Z hg5) Z Z (bU Z Z) (kk5 _ _ (kx Z (kx Z (kx Z (kx Z (kx Z k0))))) Z Ext.refl)))))) (fun w6 e6 => am (wgE Z Z Z hg2) Z Z (bg Z Z) (kk2 _ _ (kx Z (kx Z (kx Z (kx Z (kx Z (kx Z (kx Z (kx Z (kx Z (kx Z (kx Z (kx Z k0)))))))))))) Z (((Ext.refl.trans e4).trans e5).trans e6)))))))))))))) (fun w3 e3 => ?_)));have H6 := H2.to e3;refine sV Z (dQ Z Z) (sA Z Z (aa (rT hQ Tryz.results338 Z ?_)));exact ⟨H6.ext, congrArg Value.bool (by unfold spS; simp only [Bool.and_assoc])⟩
theorem lC {w : World} {zp xsA : Option Addr} {xs : List Rec} {xsC a : Nat} (xsS : Sees w [.slice xsA xs.length xsC] xs) (ha : a < xs.length) (hk4 : (xs.getD a default).Kind = 4) : Ret Tryz.prog 273 #[.pointer zp, .slice xsA xs.length xsC, .int .i64 a] w fun v w' => Ext No w w' ∧ (v = .bool (xs.any (spS (xs.getD a default)))) := by
 have xsL := sL xsS;obtain ⟨xsF, xsO⟩ := xsS;refine aF (vs := [.pointer zp, .slice xsA xs.length xsC, .int .i64 a]) Tryz.func273 Z Tryz.ntmps273 Z (fun Q hQ hN => ?_);have H0 := Sep.start (w := w) (F := [seen false [.slice xsA xs.length xsC] xs xsF]) (all_cons xsO (by simp));refine ag (sA Z Z (aa (ah ?_)));obtain ⟨eb1, eo1, es1, ef1, ee1, ec1, eO1, eH1, em1⟩ := aY (H0.seen 0 Z) a (by omega);obtain ⟨ea1, ek1, ea2, ek2, ea3, ek3, eg1, eg2, eg3, rfl, eq1, eK1, eo2, eo3, eo4⟩ := cz eO1;have eK1U := eK1;unfold Rec.Ok at eK1U
 try unfold I64ok at eK1U
 try unfold maxLen at eK1U
 have eP1 := H0.look1 0 Z eo2 (fun b hb => eH1 b (by rw [eq1]; simp [hb]));have eL1 := oL eo2;have eP2 := eP1.look1 0 Z eo3 (fun b hb => eH1 b (by rw [eq1]; simp [hb]));have eL2 := oL eo3;have eP3 := eP2.look1 0 Z eo4 (fun b hb => eH1 b (by rw [eq1]; simp [hb]));have eL3 := oL eo4;refine ao (sM Z Z (sM Z Z (sV Z (ax aX aP Z Z ee1 a (by omega) (by omega)) (sV Z (an aC Z aP Z Z ec1) (bZ (wn Z) Z Tryz.zeroValue94 eP3 (fun b1 w1 e1 g1 H1 => ?_))))));refine bf (wn Z) aP Z Z Z Z H1 0 Z Z (fun w2 e2 H2 => ?_);dsimp only[lNA,lCA,lSZ,lSS,aO] at H2;refine aa (ah (ag (sV Z (ab aC Z ts2 Z Z) (sV Z (ac tu2 Z Z (ae (H2.box 0 Z) Z)) (aa (au (ag (sV Z (ba Z Z) (sA Z Z (aa (az Z (fun c1 => ?_) (fun c1 => ?_))))))))))))
 ·exact absurd c1 (by omega)
 ·refine ag (sV Z (ba Z Z) (sA Z Z (aa (az Z (fun c2 => ?_) (fun c2 => ?_)))))
  ·exact absurd c2 (by omega)
  ·refine ag (sV Z (ba Z Z) (sA Z Z (aa (az Z (fun c3 => ?_) (fun c3 => ?_)))))
   ·exact absurd c3 (by omega)
   ·refine ak (ag (sM Z Z (sV Z (od Z) (ay (wn Z) Z Z (aj Tryz.func295 Z so Z) (gK (H2.sees 0 Z) (p := (spS (xs.getD a default))) Tryz.func338 Z wM (fun w1 e1 i0 hi0 _ _ _ _ _ _ K0 o0_6 o0_7 o0_8 => kc K0 o0_6 o0_7 o0_8 ((H2.to e1).box 0 Z) (by assumption) ((H2.to e1).sees 1 Z) ((H2.to e1).sees 2 Z) ((H2.to e1).sees 3 Z))) (fun v1 w3 r1 => ?_)))));obtain ⟨e3, rfl⟩ := r1;have H3 := H2.to e3;refine sA Z Z (aa (rT hQ Tryz.results273 Z ?_));exact ⟨H3.ext, Z⟩
theorem my {w : World} {s : Shape} {xs : List Rec} {xsA : Option Addr} {xsC a : Nat} (xsS : Sees w [.slice xsA xs.length xsC] xs) (ha : a < xs.length) (hk4 : (xs.getD a default).Kind = 4) : Ret Tryz.prog 269 #[s.v, .slice xsA xs.length xsC, .int .i64 a] w fun v w' => Ext No w w' ∧ (v = .bool (xs.any (spS (xs.getD a default)))) := by
 have xsL := sL xsS;obtain ⟨xsF, xsO⟩ := xsS;refine aF (vs := [s.v, .slice xsA xs.length xsC, .int .i64 a]) Tryz.func269 Z Tryz.ntmps269 Z (fun Q hQ hN => ?_);have H0 := Sep.start (w := w) (F := [seen false [.slice xsA xs.length xsC] xs xsF]) (all_cons xsO (by simp));refine ag (be (wn Z) Z Z H0 (fun b1 w1 e1 g1 H1 => ?_));refine sA Z Z (aa (ah ?_));obtain ⟨eb1, eo1, es1, ef1, ee1, ec1, eO1, eH1, em1⟩ := aY (H1.seen 0 Z) a (by omega);obtain ⟨ea1, ek1, ea2, ek2, ea3, ek3, eg1, eg2, eg3, rfl, eq1, eK1, eo2, eo3, eo4⟩ := cz eO1;have eK1U := eK1;unfold Rec.Ok at eK1U
 try unfold I64ok at eK1U
 try unfold maxLen at eK1U
 have eP1 := H1.look1 0 Z eo2 (fun b hb => eH1 b (by rw [eq1]; simp [hb]));have eL1 := oL eo2;have eP2 := eP1.look1 0 Z eo3 (fun b hb => eH1 b (by rw [eq1]; simp [hb]));have eL2 := oL eo3;have eP3 := eP2.look1 0 Z eo4 (fun b hb => eH1 b (by rw [eq1]; simp [hb]));have eL3 := oL eo4;refine ao (sM Z Z (sM Z Z (sV Z (ax aX aP Z Z ee1 a (by omega) (by omega)) (sV Z (an aC Z aP Z Z ec1) (bZ (wn Z) Z Tryz.zeroValue94 eP3 (fun b2 w2 e2 g2 H2 => ?_))))));refine bf (wn Z) aP Z Z Z Z H2 1 Z Z (fun w3 e3 H3 => ?_);dsimp only[lNA,lCA,lSZ,lSS,aO] at H3;refine aa (ah (ag (sV Z (ab aC Z ts2 Z Z) (sV Z (ac tu2 Z Z (ae (H3.box 1 Z) Z)) (sV Z (ba Z Z) (aa (az Z (fun c1 => ?_) (fun c1 => ?_))))))))
 ·exact absurd c1 (by omega)
 ·refine ak (ah (ag (sV Z (ab aC Z ts2 Z Z) (sV Z (ac tu2 Z Z (ae (H3.box 1 Z) Z)) (sV Z (ba Z Z) (aa (az Z (fun c2 => ?_) (fun c2 => ?_))))))))
  ·exact absurd c2 (by omega)
  ·refine ak (ah (ag (sA Z Z (aa (au (bR (γ := Nat) H3 [(1, _), (7, _)] ⟨Z, Z, trivial⟩ (fun k => [(8, .int .i64 k)]) (fun k => k ≤ xs.length ∧ (∀ i, i < k → spS (xs.getD a default) (xs.getD i default) = false)) (fun k => xs.length - k) 0 ⟨Z, trivial⟩ ⟨by omega, fun i hi => by omega⟩ (fun k w4 H4 ⟨hk, he⟩ => ?_)))))));dsimp only[lCA,lNA];refine ah (ag (sM Z Z (sM Z Z (sV Z (aE aX Z) (sV Z (aD Z Z) (aa (az Z (fun c3 => ?_) (fun c3 => ?_))))))))
   ·refine ak (ah (au (ah ?_)));obtain ⟨eb2, eo5, es2, ef2, ee2, ec2, eO2, eH2, em2⟩ := aY (H4.seen 0 Z) k (by omega);obtain ⟨ea4, ek4, ea5, ek5, ea6, ek6, eg4, eg5, eg6, rfl, eq2, eK2, eo6, eo7, eo8⟩ := cz eO2;have eK2U := eK2;unfold Rec.Ok at eK2U
    try unfold I64ok at eK2U
    try unfold maxLen at eK2U
    have eP4 := H4.look1 0 Z eo6 (fun b hb => eH2 b (by rw [eq2]; simp [hb]));have eL4 := oL eo6;have eP5 := eP4.look1 0 Z eo7 (fun b hb => eH2 b (by rw [eq2]; simp [hb]));have eL5 := oL eo7;have eP6 := eP5.look1 0 Z eo8 (fun b hb => eH2 b (by rw [eq2]; simp [hb]));have eL6 := oL eo8;refine ao (sM Z Z (sM Z Z (sV Z (ax aX aP Z Z ee2 k (by omega) (by omega)) (sV Z (an aC Z aP Z Z ec2) (bZ (wn Z) Z Tryz.zeroValue94 eP6 (fun b3 w5 e4 g3 H5 => ?_))))));refine bf (wn Z) aP Z Z Z Z H5 2 Z Z (fun w6 e5 H6 => ?_);dsimp only[lNA,lCA,lSZ,lSS,aO] at H6;refine aa (ah (ag (sV Z (ab aC Z ts2 Z Z) (sV Z (ac tu2 Z Z (ae (H6.box 1 Z) Z)) (sV Z (ba Z Z) (sM Z Z (bv 3 (j := 3) (want := true) (t := 46) Z Z Z Z (fun hg1 kk1 => am (wgE Z Z Z hg1) Z Z (ab aC Z ts2 Z Z) (am (wgE Z Z Z hg1) Z Z (ac tu2 Z Z (ae (H6.box 2 Z) Z)) (am (wgE Z Z Z hg1) Z Z (ba Z Z) (kk1 _ _ (kx Z (kx Z (kx Z k0))) Z Ext.refl)))) (fun w7 e6 => ?_))))))));have H7 := H6.to e6;refine sV Z (bg Z Z) (sM Z Z (bv 5 (j := 8) (want := true) (t := 53) Z Z Z Z (fun hg2 kk2 => am (wgE Z Z Z hg2) Z Z (ab aC Z ts2 Z Z) (am (wgE Z Z Z hg2) Z Z (ac tu2 Z Z (ae (H7.box 2 Z) Z)) (am (wgE Z Z Z hg2) Z Z (ab aC Z ts2 Z Z) (am (wgE Z Z Z hg2) Z Z (ac tu2 Z Z (ae (H7.box 1 Z) Z)) (am (wgE Z Z Z hg2) Z Z (ba Z Z) (kk2 _ _ (kx Z (kx Z (kx Z (kx Z (kx Z k0))))) Z Ext.refl)))))) (fun w8 e7 => ?_)));have H8 := H7.to e7;refine sV Z (bg Z Z) (aa (bP Z (fun c4 => ?_) (fun c4 => ?_)))
    ·exfalso; rw [hk4] at c4; simp at c4
    ·refine ak (ag (sV Z (ab aC Z ts2 Z Z) (sV Z (ac tu2 Z Z (ae (H8.box 1 Z) Z)) (sV Z (ba Z Z) (sM Z Z (bv 36 (j := 3) (want := true) (t := 94) Z Z Z Z (fun hg3 kk3 => am (wgE Z Z Z hg3) Z Z (ab aC Z ts2 Z Z) (am (wgE Z Z Z hg3) Z Z (ac tu2 Z Z (ae (H8.box 2 Z) Z)) (am (wgE Z Z Z hg3) Z Z (ba Z Z) (am (wgE Z Z Z hg3) Z Z (aG Z) (bv 5 (j := 7) (want := true) (t := 67) Z Z Z Z (fun hg4 kk4 => am (wgE Z Z Z hg4) Z Z (ab aC Z ts2 Z Z) (am (wgE Z Z Z hg4) Z Z (ac tu2 Z Z (ae (H8.box 2 Z) Z)) (am (wgE Z Z Z hg4) Z Z (ab aC Z ts2 Z Z) (am (wgE Z Z Z hg4) Z Z (ac tu2 Z Z (ae (H8.box 1 Z) Z)) (am (wgE Z Z Z hg4) Z Z (ba Z Z) (kk4 _ _ (kx Z (kx Z (kx Z (kx Z (kx Z k0))))) Z Ext.refl)))))) (fun w10 e9 => am (wgE Z Z Z hg3) Z Z (bg Z Z) (am (wgE Z Z Z hg3) Z Z (aG Z) (bv 24 (j := 14) (want := false) (t := 93) Z Z Z Z (fun hg5 kk5 => am (wgE Z Z Z hg5) Z Z (ab aC Z ts2 Z Z) (am (wgE Z Z Z hg5) Z Z (ac tu2 Z Z (ae ((H8.to e9).box 2 Z) Z)) (am (wgE Z Z Z hg5) Z Z (ba Z Z) (am (wgE Z Z Z hg5) Z Z (aG Z) (bv 5 (j := 18) (want := true) (t := 78) Z Z Z Z (fun hg6 kk6 => am (wgE Z Z Z hg6) Z Z (ab aC Z ts2 Z Z) (am (wgE Z Z Z hg6) Z Z (ac tu2 Z Z (ae ((H8.to e9).box 2 Z) Z)) (am (wgE Z Z Z hg6) Z Z (ab aC Z ts2 Z Z) (am (wgE Z Z Z hg6) Z Z (ac tu2 Z Z (ae ((H8.to e9).box 1 Z) Z)) (am (wgE Z Z Z hg6) Z Z (ba Z Z) (kk6 _ _ (kx Z (kx Z (kx Z (kx Z (kx Z k0))))) Z Ext.refl)))))) (fun w12 e11 => am (wgE Z Z Z hg5) Z Z (bg Z Z) (am (wgE Z Z Z hg5) Z Z (aG Z) (bv 5 (j := 25) (want := true) (t := 85) Z Z Z Z (fun hg7 kk7 => am (wgE Z Z Z hg7) Z Z (ab aC Z ts2 Z Z) (am (wgE Z Z Z hg7) Z Z (ac tu2 Z Z (ae (((H8.to e9).to e11).box 2 Z) Z)) (am (wgE Z Z Z hg7) Z Z (ab aC Z ts2 Z Z) (am (wgE Z Z Z hg7) Z Z (ac tu2 Z Z (ae (((H8.to e9).to e11).box 1 Z) Z)) (am (wgE Z Z Z hg7) Z Z (ba Z Z) (kk7 _ _ (kx Z (kx Z (kx Z (kx Z (kx Z k0))))) Z Ext.refl)))))) (fun w13 e12 => am (wgE Z Z Z hg5) Z Z (bg Z Z) (am (wgE Z Z Z hg5) Z Z (aG Z) (bv 5 (j := 32) (want := true) (t := 92) Z Z Z Z (fun hg8 kk8 => am (wgE Z Z Z hg8) Z Z (ab aC Z ts2 Z Z) (am (wgE Z Z Z hg8) Z Z (ac tu2 Z Z (ae ((((H8.to e9).to e11).to e12).box 2 Z) Z)) (am (wgE Z Z Z hg8) Z Z (ab aC Z ts2 Z Z) (am (wgE Z Z Z hg8) Z Z (ac tu2 Z Z (ae ((((H8.to e9).to e11).to e12).box 1 Z) Z)) (am (wgE Z Z Z hg8) Z Z (bU Z Z) (kk8 _ _ (kx Z (kx Z (kx Z (kx Z (kx Z k0))))) Z Ext.refl)))))) (fun w14 e13 => am (wgE Z Z Z hg5) Z Z (bg Z Z) (kk5 _ _ (kx Z (kx Z (kx Z (kx Z (kx Z (kx Z (kx Z (kx Z (kx Z (kx Z (kx Z (kx Z k0)))))))))))) Z (((Ext.refl.trans e11).trans e12).trans e13)))))))))))))) (fun w11 e10 => am (wgE Z Z Z hg3) Z Z (dQ Z Z) (kk3 _ _ (kx Z (kx Z (kx Z (kx Z (kx Z (kx Z (kx Z (kx Z (kx Z k0))))))))) Z ((Ext.refl.trans e9).trans e10))))))))))) (fun w9 e8 => ?_)))))));have H14 := H8.to e8;refine sV Z (bg Z Z) (aa (bP Z (fun c5 => ?_) (fun c5 => ?_)))
     ·refine ag (sA Z Z (aa (rT hQ Tryz.results269 Z ?_)));exact ⟨H14.ext, congrArg Value.bool (by rw [Dg (k := k) (by omega) (by have hc := c5; simp only [hk4] at hc; simpa [spS, Bool.and_assoc] using hc)])⟩
     ·refine ak (ao (sM Z Z (sV Z (aB Z Z iO) (sA Z Z (aa (⟨k + 1, ⟨Z, Z, Z, trivial⟩, ⟨((H14.ftake 4).dtake 2), by omega, fun i hi => ?_⟩, by dsimp only; omega⟩))))))
      by_cases e : i = k
      ·subst e;have hc := c5;simp only [hk4] at hc
       simpa [spS, Bool.and_assoc] using hc
      ·exact he i (by omega)
   ·refine aN (ag (sV Z (ab aC Z ts2 Z Z) (sV Z (ac tu2 Z Z (ae (H4.box 1 Z) Z)) (sV Z (ba Z Z) (sA Z Z (aa (rT hQ Tryz.results269 Z ?_)))))));exact ⟨H4.ext, congrArg Value.bool (by rw [Bv (fun i hi => he i (by omega)), hk4]; rfl)⟩
theorem pC {w : World} {s : Shape} {xs : List Rec} {xsA : Option Addr} {xsC : Nat} {g row : Int} (xsS : Sees w [.slice xsA xs.length xsC] xs) : Ret Tryz.prog 185 #[s.v, .slice xsA xs.length xsC, .int .i64 g, .int .i64 row] w fun v w' => Ext No w w' ∧ (v = .int .i64 (opI xs g row)) := by
 have xsL := sL xsS;obtain ⟨xsF, xsO⟩ := xsS;refine aF (vs := [s.v, .slice xsA xs.length xsC, .int .i64 g, .int .i64 row]) Tryz.func185 Z Tryz.ntmps185 Z (fun Q hQ hN => ?_);have H0 := Sep.start (w := w) (F := [seen false [.slice xsA xs.length xsC] xs xsF]) (all_cons xsO (by simp));refine ag (be (wn Z) Z Z H0 (fun b1 w1 e1 g1 H1 => ?_));refine sA Z Z (aa (ag (sA Z Z (aa (ah (ag (sA Z Z (aa (au (bR (γ := Nat) H1 [(1, _), (2, _), (3, _), (4, _), (8, _)] ⟨Z, Z, Z, Z, Z, trivial⟩ (fun k => [(9, .int .i64 (fF (shP g row) xs k)), (10, .int .i64 k)]) (fun k => k ≤ xs.length ∧ True) (fun k => xs.length - k) 0 ⟨Z, Z, trivial⟩ ⟨by omega, trivial⟩ (fun k w2 H2 ⟨hk, _⟩ => ?_)))))))))));dsimp only[lCA,lNA];refine ah (ag (sM Z Z (sM Z Z (sV Z (aE aX Z) (sV Z (aD Z Z) (aa (az Z (fun c1 => ?_) (fun c1 => ?_))))))))
 ·refine ak (ah (au (ah ?_)));obtain ⟨eb1, eo1, es1, ef1, ee1, ec1, eO1, eH1, em1⟩ := aY (H2.seen 0 Z) k (by omega);obtain ⟨ea1, ek1, ea2, ek2, ea3, ek3, eg1, eg2, eg3, rfl, eq1, eK1, eo2, eo3, eo4⟩ := cz eO1;have eK1U := eK1;unfold Rec.Ok at eK1U
  try unfold I64ok at eK1U
  try unfold maxLen at eK1U
  have eP1 := H2.look1 0 Z eo2 (fun b hb => eH1 b (by rw [eq1]; simp [hb]));have eL1 := oL eo2;have eP2 := eP1.look1 0 Z eo3 (fun b hb => eH1 b (by rw [eq1]; simp [hb]));have eL2 := oL eo3;have eP3 := eP2.look1 0 Z eo4 (fun b hb => eH1 b (by rw [eq1]; simp [hb]));have eL3 := oL eo4;refine ao (sM Z Z (sM Z Z (sV Z (ax aX aP Z Z ee1 k (by omega) (by omega)) (sV Z (ab aC Z ts2 Z Z) (sV Z (ac tu2 Z Z (bn ec1 0 Z)) (sV Z (ba Z Z) (sM Z Z (bv 7 (j := 6) (want := true) (t := 30) Z Z Z Z (fun hg1 kk1 => am (wgE Z Z Z hg1) Z Z (aG Z) (am (wgE Z Z Z hg1) Z Z (aG Z) (am (wgE Z Z Z hg1) Z Z (ax aX aP Z Z ee1 k (by first | omega | (simp only [Bool.or_eq_false_iff, Bool.and_eq_true, Bool.and_eq_false_iff, Bool.or_eq_true, Bool.not_eq_true', Bool.not_eq_false', decide_eq_true_eq, decide_eq_false_iff_not] at hg1; omega)) (by omega)) (am (wgE Z Z Z hg1) Z Z (ab aC Z ts2 Z Z) (am (wgE Z Z Z hg1) Z Z (ac tu2 Z Z (bn ec1 4 Z)) (am (wgE Z Z Z hg1) Z Z (aG Z) (am (wgE Z Z Z hg1) Z Z (ba Z Z) (kk1 _ _ (kx Z (kx Z (kx Z (kx Z (kx Z (kx Z (kx Z k0))))))) Z Ext.refl)))))))) (fun w3 e2 => ?_)))))))));have H3 := eP3.to e2;refine sV Z (bg Z Z) (sM Z Z (bv 7 (j := 15) (want := true) (t := 39) Z Z Z Z (fun hg2 kk2 => am (wgE Z Z Z hg2) Z Z (aG Z) (am (wgE Z Z Z hg2) Z Z (aG Z) (am (wgE Z Z Z hg2) Z Z (ax aX aP Z Z ee1 k (by first | omega | (simp only [Bool.or_eq_false_iff, Bool.and_eq_true, Bool.and_eq_false_iff, Bool.or_eq_true, Bool.not_eq_true', Bool.not_eq_false', decide_eq_true_eq, decide_eq_false_iff_not] at hg2; omega)) (by omega)) (am (wgE Z Z Z hg2) Z Z (ab aC Z ts2 Z Z) (am (wgE Z Z Z hg2) Z Z (ac tu2 Z Z (bn (e2.at ec1) 5 Z)) (am (wgE Z Z Z hg2) Z Z (aG Z) (am (wgE Z Z Z hg2) Z Z (ba Z Z) (kk2 _ _ (kx Z (kx Z (kx Z (kx Z (kx Z (kx Z (kx Z k0))))))) Z Ext.refl)))))))) (fun w4 e3 => ?_)));have H4 := H3.to e3;refine sV Z (bg Z Z) (aa (bP Z (fun c2 => ?_) (fun c2 => ?_)))
  ·refine ao (sM Z Z (sA Z Z (aa (ao (sM Z Z (sV Z (aB Z Z iO) (sA Z Z (aa (⟨k + 1, ⟨eqI (sJ (by simpa [shP, Bool.and_assoc] using c2)).symm, Z, Z, Z, Z, Z, Z, trivial⟩, ⟨(H4.ftake 1), by omega, trivial⟩, by dsimp only; omega⟩)))))))))
  ·refine ak (ao (sM Z Z (sV Z (aB Z Z iO) (sA Z Z (aa (⟨k + 1, ⟨eqI (pR (by simpa [shP, Bool.and_assoc] using c2)).symm, Z, Z, Z, Z, Z, Z, trivial⟩, ⟨(H4.ftake 1), by omega, trivial⟩, by dsimp only; omega⟩))))))
 ·refine aN (ah (ah ?_));obtain rfl : k = xs.length := by omega
  have hlb := sK (p := shP g row) (rs := xs);refine ao (sM Z Z (sV Z (fA Z Z) (sM Z Z (cX (t := 44) Z (fun hg3 => ?_) (fun hg3 => ?_)))))
  ·have hg0 : 0 ≤ (fv (shP g row) xs) := of_decide_eq_true hg3;refine am (wg Z Z Z) Z Z (an bq Z bQ Z Z (At.whole (H2.box 0 Z))) (am (wg Z Z Z) Z Z (aG Z) (am (wg Z Z Z) Z Z (aG Z) (ay (wg Z Z Z) Z Z (aj Tryz.func269 Z zR Z) (by have hS : Sees _ [.slice xsA xs.length xsC] xs := ⟨_, bc (H2.seen 0 Z)⟩; have lc := my (s := s) (a := (fv (shP g row) xs).toNat) hS (by omega) ((vQ (rQ hg0)).1); rw [Int.toNat_of_nonneg hg0] at lc; exact lc) (fun v1 w5 r1 => ?_))));obtain ⟨e4, rfl⟩ := r1;have H5 := H2.to e4;refine sV Z (aJ Z Z) (aa (bP Z (fun c3 => ?_) (fun c3 => ?_)))
   ·refine ag (sA Z Z (aa (rT hQ Tryz.results185 Z ?_)));exact ⟨H5.ext, congrArg (Value.int .i64) (Bq (by omega) c3).symm⟩
   ·refine ak (ag (sM Z Z (sA Z Z (aa (rT hQ Tryz.results185 Z ?_)))));exact ⟨H5.ext, congrArg (Value.int .i64) (CZ (by omega) (by simpa using c3)).symm⟩
  ·have hg0 : ¬ 0 ≤ (fv (shP g row) xs) := of_decide_eq_false hg3;refine sKf Z Z Z (sKf Z Z Z (sKf Z Z Z (sKf Z Z Z (sV Z (aQ Z Z) (aa (gz Z (ak (ag (sM Z Z (sA Z Z (aa (rT hQ Tryz.results185 Z ?_))))))))))));exact ⟨H2.ext, congrArg (Value.int .i64) (Br hg0).symm⟩
end Go.Wk
namespace Go.Wk
open Go.Proofs Rp
set_option maxRecDepth 10000
theorem tP {w : World} {A : Option Addr} {n C : Nat} : Ret Tryz.prog 272 #[.slice A n C] w fun v w' => Ext No w w' ∧ ∃ b, w.heap.size ≤ b ∧ v = .func (.func 334) #[] #[.pointer (some ⟨b, 0, none⟩)] ∧ w'.heap[b]? = some (.cells [.slice A n C].toArray 46) := by
 refine aF (vs := [.slice A n C]) Tryz.func272 Z Tryz.ntmps272 Z (fun Q hQ hN => ?_);have H0 := Sep.start (w := w) (F := []) (by simp);refine ag (be (wn Z) Z Z H0 (fun b1 w1 e1 g1 H1 => ?_));dsimp only[lNA,lCA] at H1;refine sA Z Z (aa (ag (sV Z (od Z) (sA Z Z (aa (rT hQ Tryz.results272 Z ?_))))));exact ⟨H1.ext, b1, g1, Z, H1.box 0 Z⟩
theorem vU {w : World} {l b1 n C : Nat} {A : Option Addr} {val : Nat → List Value} {J : Nat → World → Prop} {K : World → Prop} (hn : n ≤ 1000000)
  (hb : ∀ i W, J i W → W.heap[b1]? = some (.cells [.slice A n C].toArray 46))
  (hc : ∀ i W, J (i + 1) W → i < n → ∃ b o, A = some ⟨b, o, none⟩ ∧ At W b (o + i * 9) (val i))
  (hY : ∀ i W, J (i + 1) W → i < n → YieldAt (inF none) 2 Tryz.prog l #[.int .i64 (i : Nat), .agg (val i).toArray] W fun e W' => e = .returned (.bool true) ∧ J i W' ∨ e = .returned (.bool false) ∧ K W') (hv : ∀ i, (val i).length = 9) (h0 : J n w) :
  Ret Tryz.prog 334 #[.func (.yield l) #[] #[], .pointer (some ⟨b1, 0, none⟩)] w fun _ w' => J 0 w' ∨ K w' := by
 refine aF (vs := [.func (.yield l) #[] #[], .pointer (some ⟨b1, 0, none⟩)]) Tryz.func334 Z Tryz.ntmps334 Z (fun Q hQ hN => ?_);refine ag (sV Z (ac aX Z Z (ae (hb _ _ h0) Z)) (sV Z (aE aX Z) (sV Z (bx Z Z iO) (sA Z Z (aa (au (bk (γ := Nat) (fun i => [(0, .func (.yield l) #[] #[]), (1, .pointer (some ⟨b1, 0, none⟩)), (3, .int .i64 ((i : Int) - 1))]) (fun i w' => i ≤ n ∧ J i w') (fun i => i) n ⟨Z, Z, Z, trivial⟩ ⟨Nat.le_refl _, h0⟩ (fun i w1 hI => ?_))))))));obtain ⟨hi, hJ⟩ := hI;refine ah (ag (sM Z Z (sV Z (fA Z Z) (aa (az Z (fun c1 => ?_) (fun c1 => ?_))))))
 ·obtain ⟨j, rfl⟩ : ∃ j, i = j + 1 := ⟨i - 1, by omega⟩;have ej : ((j + 1 : Nat) : Int) - 1 = (j : Nat) := by omega
  rw [ej];obtain ⟨b, o, hA, hat⟩ := hc j w1 hJ (by omega);refine ak (ah (au (ah (Fr (CF (n0 (wn Z) Z Z (aG Z) (n0 (wn Z) Z Z (aG Z) (n0 (wn Z) Z Z (ac aX Z Z (ae (hb _ _ hJ) Z)) (n0 (wn Z) Z Z (aG Z) (n0 (wn Z) Z Z (ax aX aP Z Z hA j Z (by omega)) (n0 (wn Z) Z Z (an aC Z aP Z (hv j) hat) (CQ Z Z Z Z (hY j _ hJ (by omega)) (fun e w2 he => ?_)))))))))))))
  rcases he with ⟨rfl, hJ2⟩ | ⟨rfl, hK⟩
  ·refine ⟨_, Z, ?_⟩;refine n0 (wn Z) Z Z (bb Z) (Dh (gz Z (ak (ao (sM Z Z (sV Z (bx Z Z iO) (sA Z Z (aa ?_))))))));exact ⟨j, ⟨Z, Z, Z, trivial⟩, ⟨by omega, hJ2⟩, by dsimp only; omega⟩
  ·refine ⟨_, Z, ?_⟩;refine n0 (wn Z) Z Z (bb Z) (Dh (du Z (bJ (hQ _ _ (kE Tryz.results334 ?_)))));exact .inr hK
 ·obtain rfl : i = 0 := by omega
  refine aN (hN _ _ (kE Tryz.results334 ?_));exact .inl hJ
theorem jz {w : World} {zb zC9 zC10 zC11 : Nat} {z : Wld} {zA9 zA10 zA11 : Option Addr} {zF9 zF10 zF11 : List Nat} {g row : Int} (zB : w.heap[zb]? = some (.cells [.int .i64 z.Shape.Groups, .int .i64 z.Shape.Column, .int .i64 z.Shape.Data, .int .i64 z.Shape.Spare, .int .i64 z.Shape.Rows, .int .i64 z.Shape.Cap, .int .i64 z.Shape.Batch, .int .i64 z.Shape.Queue, .int .i64 z.Shape.Stage, .slice zA9 z.Groups.length zC9, .slice zA10 z.On.length zC10, .slice zA11 z.Tapes.length zC11, .int .i64 z.Writes, .int .i64 z.Stop, .bool z.Down].toArray 34)) (zK : z.Ok) (zO9 : own false w [.slice zA9 z.Groups.length zC9] z.Groups zF9) (zO10 : own false w [.slice zA10 z.On.length zC10] z.On zF10) (zO11 : own false w [.slice zA11 z.Tapes.length zC11] z.Tapes zF11) (hT : z.Tapes.length = 2) (hrl : ∀ k, (z.Tapes.getD k default).Recs.length ≤ 200000) : Ret Tryz.prog 189 #[.pointer (some ⟨zb, 0, none⟩), .int .i64 g, .int .i64 row] w fun v w' => Ext No w w' ∧ (∃ A6 C6 A7 C7 A8 C8, v = .tuple #[(opR z g row).val A6 C6 A7 C7 A8 C8, .bool (lw z g row)] ∧ InF w' zF11 (RecV.mk (opR z g row) A6 C6 A7 C7 A8 C8).cs (opR z g row)) := by
 have zK2 := zK;unfold Wld.Ok Shape.Ok at zK2
 try unfold I64ok at zK2
 try unfold maxLen at zK2
 have zL9 := oL zO9;have zL10 := oL zO10;have zL11 := oL zO11;refine BA (vs := [.pointer (some ⟨zb, 0, none⟩), .int .i64 g, .int .i64 row]) Tryz.func189 Z Tryz.ntmps189 Z (fun a ha => ?_);have H0 := Sep.start (w := w) (F := [box zb (.cells [.int .i64 z.Shape.Groups, .int .i64 z.Shape.Column, .int .i64 z.Shape.Data, .int .i64 z.Shape.Spare, .int .i64 z.Shape.Rows, .int .i64 z.Shape.Cap, .int .i64 z.Shape.Batch, .int .i64 z.Shape.Queue, .int .i64 z.Shape.Stage, .slice zA9 z.Groups.length zC9, .slice zA10 z.On.length zC10, .slice zA11 z.Tapes.length zC11, .int .i64 z.Writes, .int .i64 z.Stop, .bool z.Down].toArray 34), seen false [.slice zA9 z.Groups.length zC9] z.Groups zF9, seen false [.slice zA10 z.On.length zC10] z.On zF10, seen false [.slice zA11 z.Tapes.length zC11] z.Tapes zF11]) (all_cons (by exact zB) (all_cons zO9 (all_cons zO10 (all_cons zO11 (by simp)))));refine Dw (L := nW 0 _) (B := fun L' w' => ∃ b1 b2 b3 b4 b5, sub L' [(3, .pointer (some ⟨b1, 0, none⟩)), (4, .pointer (some ⟨b2, 0, none⟩)), (5, .pointer (some ⟨b3, 0, none⟩)), (6, .pointer (some ⟨b4, 0, none⟩)), (7, .pointer (some ⟨b5, 0, none⟩))] ∧ Sep No w [box b1 (.cells [.pointer (some ⟨zb, 0, none⟩)].toArray 76), box b2 (.cells [.int .i64 g].toArray 2), box b3 (.cells [.int .i64 row].toArray 2), box b4 (.cells [.int .i64 0, .int .i64 0, .string ⟨#[]⟩, .int .i64 0, .int .i64 0, .int .i64 0, .slice none 0 0, .slice none 0 0, .slice none 0 0].toArray 94), box b5 (.cells [.bool false].toArray 4)] [box zb (.cells [.int .i64 z.Shape.Groups, .int .i64 z.Shape.Column, .int .i64 z.Shape.Data, .int .i64 z.Shape.Spare, .int .i64 z.Shape.Rows, .int .i64 z.Shape.Cap, .int .i64 z.Shape.Batch, .int .i64 z.Shape.Queue, .int .i64 z.Shape.Stage, .slice zA9 z.Groups.length zC9, .slice zA10 z.On.length zC10, .slice zA11 z.Tapes.length zC11, .int .i64 z.Writes, .int .i64 z.Stop, .bool z.Down].toArray 34), seen false [.slice zA9 z.Groups.length zC9] z.Groups zF9, seen false [.slice zA10 z.On.length zC10] z.On zF10, seen false [.slice zA11 z.Tapes.length zC11] z.Tapes zF11] w') ha ?_ (fun a1 L1 w1 ha1 hB => ?_)
 ·refine ml Z (be (wn Z) Z Z H0 (fun b11 w11 e1 g1 H11 => ?_));refine be (wn Z) Z Z H11 (fun b12 w12 e2 g2 H12 => ?_);refine be (wn Z) Z Z H12 (fun b13 w13 e3 g3 H13 => ?_);refine bZ (wn Z) Z Tryz.zeroValue94 H13 (fun b14 w14 e4 g4 H14 => ?_);refine bZ (wn Z) Z Tryz.zeroValue4 H14 (fun b15 w15 e5 g5 H15 => ?_);refine aa ?_;exact ⟨Z, _, _, _, _, _, ⟨Z, Z, Z, Z, Z, trivial⟩, H15⟩
 obtain ⟨b1, b2, b3, b4, b5, hs1, H1⟩ := hB;replace ha1 := ha1.weak hs1;refine Dw (B := fun L' w' => ∃ b6 vs sa sk fp, sub L' [(3, .pointer (some ⟨b1, 0, none⟩)), (4, .pointer (some ⟨b2, 0, none⟩)), (5, .pointer (some ⟨b3, 0, none⟩)), (6, .pointer (some ⟨b4, 0, none⟩)), (7, .pointer (some ⟨b5, 0, none⟩)), (8, .pointer (some ⟨b6, 0, none⟩))] ∧ Sep No w [box b1 (.cells [.pointer (some ⟨zb, 0, none⟩)].toArray 76), box b2 (.cells [.int .i64 g].toArray 2), box b3 (.cells [.int .i64 row].toArray 2), box b4 (.cells [.int .i64 0, .int .i64 0, .string ⟨#[]⟩, .int .i64 0, .int .i64 0, .int .i64 0, .slice none 0 0, .slice none 0 0, .slice none 0 0].toArray 94), box b5 (.cells [.bool false].toArray 4), mine [.slice sa vs.length sk] vs fp, box b6 (.cells [.slice sa vs.length sk].toArray 46)] [box zb (.cells [.int .i64 z.Shape.Groups, .int .i64 z.Shape.Column, .int .i64 z.Shape.Data, .int .i64 z.Shape.Spare, .int .i64 z.Shape.Rows, .int .i64 z.Shape.Cap, .int .i64 z.Shape.Batch, .int .i64 z.Shape.Queue, .int .i64 z.Shape.Stage, .slice zA9 z.Groups.length zC9, .slice zA10 z.On.length zC10, .slice zA11 z.Tapes.length zC11, .int .i64 z.Writes, .int .i64 z.Stop, .bool z.Down].toArray 34), seen false [.slice zA9 z.Groups.length zC9] z.Groups zF9, seen false [.slice zA10 z.On.length zC10] z.On zF10, seen false [.slice zA11 z.Tapes.length zC11] z.Tapes zF11] w' ∧ RdV w zF11 vs ∧ vs.map RecV.r = dG z) ha1 ?_ (fun a2 L2 w2 ha2 hB => ?_)
 ·refine ml Z (sV Z (ac DI Z Z (ae (H1.box 0 Z) Z)) (ay (wn Z) Z Z (aj Tryz.func173 Z rI Z) (gc (H1.fbox 0 Z) (by assumption) (bc (H1.seen 1 Z)) (bc (H1.seen 2 Z)) (bc (H1.seen 3 Z)) (by first | assumption | omega) (by first | assumption | omega)) (fun v1 w11 r1 => ?_)));obtain ⟨e1, vs1, r1, hR1, hM1⟩ := r1;obtain ⟨fp1, H11⟩ := H1.res e1 r1;obtain ⟨sa1, sk1, sq1⟩ := aA (H11.mine 5 Z);cases sq1;have hl1 : vs1.length = (dG z).length := by rw [← hM1, List.length_map]
  have hb1 := nV (z := z) (by first | assumption | omega) (by assumption);have hRw1 : RdV w zF11 vs1 := hR1.back H11.ext (Rp.lt zO11);refine bZ (wn Z) Z Tryz.zeroValue46 H11 (fun b11 w12 e2 g1 H12 => ?_);refine bT (wn Z) d9 Z Z Z H12 6 Z Z (fun w13 e3 H13 => ?_);dsimp only[lNA,lCA,lSZ,lSS,aO] at H13;refine aa ?_;exact ⟨Z, _, _, _, _, _, ⟨Z, Z, Z, Z, Z, Z, trivial⟩, H13, hRw1, hM1⟩
 obtain ⟨b6, vs, sa, sk, fp, hs2, H2, hR, hM⟩ := hB;replace ha2 := ha2.weak hs2;have hl : vs.length = (dG z).length := by rw [← hM, List.length_map]
 have hcb := nV (z := z) (by assumption) (by assumption);refine wpIn_seq (Dw (B := fun L' w' => ∃ b7, sub L' [(14, .func (.func 334) #[] #[.pointer (some ⟨b7, 0, none⟩)]), (3, .pointer (some ⟨b1, 0, none⟩)), (4, .pointer (some ⟨b2, 0, none⟩)), (5, .pointer (some ⟨b3, 0, none⟩)), (6, .pointer (some ⟨b4, 0, none⟩)), (7, .pointer (some ⟨b5, 0, none⟩)), (8, .pointer (some ⟨b6, 0, none⟩))] ∧ Sep No w [box b1 (.cells [.pointer (some ⟨zb, 0, none⟩)].toArray 76), box b2 (.cells [.int .i64 g].toArray 2), box b3 (.cells [.int .i64 row].toArray 2), box b4 (.cells [.int .i64 0, .int .i64 0, .string ⟨#[]⟩, .int .i64 0, .int .i64 0, .int .i64 0, .slice none 0 0, .slice none 0 0, .slice none 0 0].toArray 94), box b5 (.cells [.bool false].toArray 4), mine [.slice sa vs.length sk] vs fp, box b6 (.cells [.slice sa vs.length sk].toArray 46), box b7 (.cells [.slice sa vs.length sk].toArray 46)] [box zb (.cells [.int .i64 z.Shape.Groups, .int .i64 z.Shape.Column, .int .i64 z.Shape.Data, .int .i64 z.Shape.Spare, .int .i64 z.Shape.Rows, .int .i64 z.Shape.Cap, .int .i64 z.Shape.Batch, .int .i64 z.Shape.Queue, .int .i64 z.Shape.Stage, .slice zA9 z.Groups.length zC9, .slice zA10 z.On.length zC10, .slice zA11 z.Tapes.length zC11, .int .i64 z.Writes, .int .i64 z.Stop, .bool z.Down].toArray 34), seen false [.slice zA9 z.Groups.length zC9] z.Groups zF9, seen false [.slice zA10 z.On.length zC10] z.On zF10, seen false [.slice zA11 z.Tapes.length zC11] z.Tapes zF11] w') ha2 ?_ (fun a3 L3 w3 ha3 hB => ?_))
 ·refine ml Z (sV Z (ac aX Z Z (ae (H2.box 6 Z) Z)) (ay (wn Z) Z Z (aj Tryz.func272 Z xE Z) tP (fun v9 w9 r9 => ?_)));obtain ⟨e9, b7, g7, rfl, h7⟩ := r9;have H9 := H2.add e9 (r := box b7 (.cells [.slice sa vs.length sk].toArray 46)) (by exact h7) (by simp [Wk.box]) (by simpa [Wk.box] using g7);refine aa ?_;exact ⟨Z, b7, ⟨Z, Z, Z, Z, Z, Z, Z, trivial⟩, H9⟩
 obtain ⟨b7, hs3, H3⟩ := hB;replace ha3 := ha3.weak hs3;refine wpIn_block (Bu ha3 (lb := #[.pointer (some ⟨b7, 0, none⟩)]) Z Tryz.func334 Z xT (K := fun W => ∃ o, Sep No w [box b1 (.cells [.pointer (some ⟨zb, 0, none⟩)].toArray 76), box b2 (.cells [.int .i64 g].toArray 2), box b3 (.cells [.int .i64 row].toArray 2), box b4 (.cells [.int .i64 0, .int .i64 0, .string ⟨#[]⟩, .int .i64 0, .int .i64 0, .int .i64 0, .slice none 0 0, .slice none 0 0, .slice none 0 0].toArray 94), box b5 (.cells [.bool false].toArray 4), mine [.slice sa vs.length sk] vs fp, box b6 (.cells [.slice sa vs.length sk].toArray 46), box b7 (.cells [.slice sa vs.length sk].toArray 46), box w3.heap.size (.deferred (some [])), box (w3.heap.size + 1) o] [box zb (.cells [.int .i64 z.Shape.Groups, .int .i64 z.Shape.Column, .int .i64 z.Shape.Data, .int .i64 z.Shape.Spare, .int .i64 z.Shape.Rows, .int .i64 z.Shape.Cap, .int .i64 z.Shape.Batch, .int .i64 z.Shape.Queue, .int .i64 z.Shape.Stage, .slice zA9 z.Groups.length zC9, .slice zA10 z.On.length zC10, .slice zA11 z.Tapes.length zC11, .int .i64 z.Writes, .int .i64 z.Stop, .bool z.Down].toArray 34), seen false [.slice zA9 z.Groups.length zC9] z.Groups zF9, seen false [.slice zA10 z.On.length zC10] z.On zF10, seen false [.slice zA11 z.Tapes.length zC11] z.Tapes zF11] W ∧ (∀ j, j < vs.length → shP g row (vs.getD j default).r = false)) (K2 := fun W => ∃ o i, Sep No w [box b1 (.cells [.pointer (some ⟨zb, 0, none⟩)].toArray 76), box b2 (.cells [.int .i64 g].toArray 2), box b3 (.cells [.int .i64 row].toArray 2), box b4 (.cells [.int .i64 (vs.getD i default).r.Kind, .int .i64 (vs.getD i default).r.Seq, .string (vs.getD i default).r.Name, .int .i64 (vs.getD i default).r.Length, .int .i64 (vs.getD i default).r.Group, .int .i64 (vs.getD i default).r.Row, .slice (vs.getD i default).A6 (vs.getD i default).r.Rows.length (vs.getD i default).C6, .slice (vs.getD i default).A7 (vs.getD i default).r.Data.length (vs.getD i default).C7, .slice (vs.getD i default).A8 (vs.getD i default).r.Delta.length (vs.getD i default).C8].toArray 94), box b5 (.cells [.bool (!((dG z).any (spS ((dG z).getD i default))))].toArray 4), mine [.slice sa vs.length sk] vs fp, box b6 (.cells [.slice sa vs.length sk].toArray 46), box b7 (.cells [.slice sa vs.length sk].toArray 46), box w3.heap.size (.deferred (some [])), box (w3.heap.size + 1) o] [box zb (.cells [.int .i64 z.Shape.Groups, .int .i64 z.Shape.Column, .int .i64 z.Shape.Data, .int .i64 z.Shape.Spare, .int .i64 z.Shape.Rows, .int .i64 z.Shape.Cap, .int .i64 z.Shape.Batch, .int .i64 z.Shape.Queue, .int .i64 z.Shape.Stage, .slice zA9 z.Groups.length zC9, .slice zA10 z.On.length zC10, .slice zA11 z.Tapes.length zC11, .int .i64 z.Writes, .int .i64 z.Stop, .bool z.Down].toArray 34), seen false [.slice zA9 z.Groups.length zC9] z.Groups zF9, seen false [.slice zA10 z.On.length zC10] z.On zF10, seen false [.slice zA11 z.Tapes.length zC11] z.Tapes zF11] W ∧ i < vs.length ∧ shP g row (vs.getD i default).r = true ∧ (∀ j, i < j → j < vs.length → shP g row (vs.getD j default).r = false)) (fun R fn hR2 => ?_) (fun W hK => ?_) (fun W hK => ?_))
 ·have e1 : (w3.alloc (.deferred (some []))).heap.size = w3.heap.size + 1 := by simp
  have HA := (H3.alloc (.deferred (some []))).alloc (.loop (R .ready none));rw [e1] at HA
  try dsimp only[lNA,lCA,lSZ,lSS] at HA
  refine Ret.mono (vU (A := sa) (n := vs.length) (C := sk) (b1 := b7) (val := fun i => [.int .i64 (vs.getD i default).r.Kind, .int .i64 (vs.getD i default).r.Seq, .string (vs.getD i default).r.Name, .int .i64 (vs.getD i default).r.Length, .int .i64 (vs.getD i default).r.Group, .int .i64 (vs.getD i default).r.Row, .slice (vs.getD i default).A6 (vs.getD i default).r.Rows.length (vs.getD i default).C6, .slice (vs.getD i default).A7 (vs.getD i default).r.Data.length (vs.getD i default).C7, .slice (vs.getD i default).A8 (vs.getD i default).r.Delta.length (vs.getD i default).C8]) (J := fun i W => Sep No w [box b1 (.cells [.pointer (some ⟨zb, 0, none⟩)].toArray 76), box b2 (.cells [.int .i64 g].toArray 2), box b3 (.cells [.int .i64 row].toArray 2), box b4 (.cells [.int .i64 0, .int .i64 0, .string ⟨#[]⟩, .int .i64 0, .int .i64 0, .int .i64 0, .slice none 0 0, .slice none 0 0, .slice none 0 0].toArray 94), box b5 (.cells [.bool false].toArray 4), mine [.slice sa vs.length sk] vs fp, box b6 (.cells [.slice sa vs.length sk].toArray 46), box b7 (.cells [.slice sa vs.length sk].toArray 46), box w3.heap.size (.deferred (some [])), box (w3.heap.size + 1) (.loop (R .ready none))] [box zb (.cells [.int .i64 z.Shape.Groups, .int .i64 z.Shape.Column, .int .i64 z.Shape.Data, .int .i64 z.Shape.Spare, .int .i64 z.Shape.Rows, .int .i64 z.Shape.Cap, .int .i64 z.Shape.Batch, .int .i64 z.Shape.Queue, .int .i64 z.Shape.Stage, .slice zA9 z.Groups.length zC9, .slice zA10 z.On.length zC10, .slice zA11 z.Tapes.length zC11, .int .i64 z.Writes, .int .i64 z.Stop, .bool z.Down].toArray 34), seen false [.slice zA9 z.Groups.length zC9] z.Groups zF9, seen false [.slice zA10 z.On.length zC10] z.On zF10, seen false [.slice zA11 z.Tapes.length zC11] z.Tapes zF11] W ∧ ∀ j, i ≤ j → j < vs.length → shP g row (vs.getD j default).r = false) (K := fun W => ∃ i, Sep No w [box b1 (.cells [.pointer (some ⟨zb, 0, none⟩)].toArray 76), box b2 (.cells [.int .i64 g].toArray 2), box b3 (.cells [.int .i64 row].toArray 2), box b4 (.cells [.int .i64 (vs.getD i default).r.Kind, .int .i64 (vs.getD i default).r.Seq, .string (vs.getD i default).r.Name, .int .i64 (vs.getD i default).r.Length, .int .i64 (vs.getD i default).r.Group, .int .i64 (vs.getD i default).r.Row, .slice (vs.getD i default).A6 (vs.getD i default).r.Rows.length (vs.getD i default).C6, .slice (vs.getD i default).A7 (vs.getD i default).r.Data.length (vs.getD i default).C7, .slice (vs.getD i default).A8 (vs.getD i default).r.Delta.length (vs.getD i default).C8].toArray 94), box b5 (.cells [.bool (!((dG z).any (spS ((dG z).getD i default))))].toArray 4), mine [.slice sa vs.length sk] vs fp, box b6 (.cells [.slice sa vs.length sk].toArray 46), box b7 (.cells [.slice sa vs.length sk].toArray 46), box w3.heap.size (.deferred (some [])), box (w3.heap.size + 1) (.loop (R .done (some .ret)))] [box zb (.cells [.int .i64 z.Shape.Groups, .int .i64 z.Shape.Column, .int .i64 z.Shape.Data, .int .i64 z.Shape.Spare, .int .i64 z.Shape.Rows, .int .i64 z.Shape.Cap, .int .i64 z.Shape.Batch, .int .i64 z.Shape.Queue, .int .i64 z.Shape.Stage, .slice zA9 z.Groups.length zC9, .slice zA10 z.On.length zC10, .slice zA11 z.Tapes.length zC11, .int .i64 z.Writes, .int .i64 z.Stop, .bool z.Down].toArray 34), seen false [.slice zA9 z.Groups.length zC9] z.Groups zF9, seen false [.slice zA10 z.On.length zC10] z.On zF10, seen false [.slice zA11 z.Tapes.length zC11] z.Tapes zF11] W ∧ i < vs.length ∧ shP g row (vs.getD i default).r = true ∧ (∀ j, i < j → j < vs.length → shP g row (vs.getD j default).r = false)) (by omega) ?_ ?_ ?_ (fun _ => Z) ⟨HA, fun j h1 h2 => by omega⟩) ?_
  ·rintro i W ⟨H, _⟩
   exact H.box 7 Z
  ·rintro i W ⟨H, _⟩ hi
   obtain ⟨b, o, h1, h2, _⟩ := H.viewAt 5 Z i hi;exact ⟨b, o, h1, h2⟩
  ·rintro i W ⟨HJ, hJ⟩ hi
   have hvo := hR.okAt hi;have hy := AR (P := Tryz.prog) (u1 := .int .i64 (i : Nat)) (u2 := .agg [.int .i64 (vs.getD i default).r.Kind, .int .i64 (vs.getD i default).r.Seq, .string (vs.getD i default).r.Name, .int .i64 (vs.getD i default).r.Length, .int .i64 (vs.getD i default).r.Group, .int .i64 (vs.getD i default).r.Row, .slice (vs.getD i default).A6 (vs.getD i default).r.Rows.length (vs.getD i default).C6, .slice (vs.getD i default).A7 (vs.getD i default).r.Data.length (vs.getD i default).C7, .slice (vs.getD i default).A8 (vs.getD i default).r.Delta.length (vs.getD i default).C8].toArray) hR2 ha3.1 Z Z (HJ.box 9 Z)
    (A := fun L' W' => ∃ b10, sub L' [(9, .int .i64 (i : Nat)), (10, .pointer (some ⟨b10, 0, none⟩)), (3, .pointer (some ⟨b1, 0, none⟩)), (4, .pointer (some ⟨b2, 0, none⟩)), (5, .pointer (some ⟨b3, 0, none⟩)), (6, .pointer (some ⟨b4, 0, none⟩)), (7, .pointer (some ⟨b5, 0, none⟩)), (8, .pointer (some ⟨b6, 0, none⟩))] ∧ Sep No w [box b1 (.cells [.pointer (some ⟨zb, 0, none⟩)].toArray 76), box b2 (.cells [.int .i64 g].toArray 2), box b3 (.cells [.int .i64 row].toArray 2), box b4 (.cells [.int .i64 0, .int .i64 0, .string ⟨#[]⟩, .int .i64 0, .int .i64 0, .int .i64 0, .slice none 0 0, .slice none 0 0, .slice none 0 0].toArray 94), box b5 (.cells [.bool false].toArray 4), mine [.slice sa vs.length sk] vs fp, box b6 (.cells [.slice sa vs.length sk].toArray 46), box b7 (.cells [.slice sa vs.length sk].toArray 46), box w3.heap.size (.deferred (some [])), box (w3.heap.size + 1) (.loop (R .ready none)), box b10 (.cells [.int .i64 (vs.getD i default).r.Kind, .int .i64 (vs.getD i default).r.Seq, .string (vs.getD i default).r.Name, .int .i64 (vs.getD i default).r.Length, .int .i64 (vs.getD i default).r.Group, .int .i64 (vs.getD i default).r.Row, .slice (vs.getD i default).A6 (vs.getD i default).r.Rows.length (vs.getD i default).C6, .slice (vs.getD i default).A7 (vs.getD i default).r.Data.length (vs.getD i default).C7, .slice (vs.getD i default).A8 (vs.getD i default).r.Delta.length (vs.getD i default).C8].toArray 94)] [box zb (.cells [.int .i64 z.Shape.Groups, .int .i64 z.Shape.Column, .int .i64 z.Shape.Data, .int .i64 z.Shape.Spare, .int .i64 z.Shape.Rows, .int .i64 z.Shape.Cap, .int .i64 z.Shape.Batch, .int .i64 z.Shape.Queue, .int .i64 z.Shape.Stage, .slice zA9 z.Groups.length zC9, .slice zA10 z.On.length zC10, .slice zA11 z.Tapes.length zC11, .int .i64 z.Writes, .int .i64 z.Stop, .bool z.Down].toArray 34), seen false [.slice zA9 z.Groups.length zC9] z.Groups zF9, seen false [.slice zA10 z.On.length zC10] z.On zF10, seen false [.slice zA11 z.Tapes.length zC11] z.Tapes zF11] W')
    (B := fun W2 => Sep No w [box b1 (.cells [.pointer (some ⟨zb, 0, none⟩)].toArray 76), box b2 (.cells [.int .i64 g].toArray 2), box b3 (.cells [.int .i64 row].toArray 2), box b4 (.cells [.int .i64 0, .int .i64 0, .string ⟨#[]⟩, .int .i64 0, .int .i64 0, .int .i64 0, .slice none 0 0, .slice none 0 0, .slice none 0 0].toArray 94), box b5 (.cells [.bool false].toArray 4), mine [.slice sa vs.length sk] vs fp, box b6 (.cells [.slice sa vs.length sk].toArray 46), box b7 (.cells [.slice sa vs.length sk].toArray 46), box w3.heap.size (.deferred (some [])), box (w3.heap.size + 1) (.loop (R .busy none))] [box zb (.cells [.int .i64 z.Shape.Groups, .int .i64 z.Shape.Column, .int .i64 z.Shape.Data, .int .i64 z.Shape.Spare, .int .i64 z.Shape.Rows, .int .i64 z.Shape.Cap, .int .i64 z.Shape.Batch, .int .i64 z.Shape.Queue, .int .i64 z.Shape.Stage, .slice zA9 z.Groups.length zC9, .slice zA10 z.On.length zC10, .slice zA11 z.Tapes.length zC11, .int .i64 z.Writes, .int .i64 z.Stop, .bool z.Down].toArray 34), seen false [.slice zA9 z.Groups.length zC9] z.Groups zF9, seen false [.slice zA10 z.On.length zC10] z.On zF10, seen false [.slice zA11 z.Tapes.length zC11] z.Tapes zF11] W2 ∧ shP g row (vs.getD i default).r = false)
    (C := fun W2 => Sep No w [box b1 (.cells [.pointer (some ⟨zb, 0, none⟩)].toArray 76), box b2 (.cells [.int .i64 g].toArray 2), box b3 (.cells [.int .i64 row].toArray 2), box b4 (.cells [.int .i64 (vs.getD i default).r.Kind, .int .i64 (vs.getD i default).r.Seq, .string (vs.getD i default).r.Name, .int .i64 (vs.getD i default).r.Length, .int .i64 (vs.getD i default).r.Group, .int .i64 (vs.getD i default).r.Row, .slice (vs.getD i default).A6 (vs.getD i default).r.Rows.length (vs.getD i default).C6, .slice (vs.getD i default).A7 (vs.getD i default).r.Data.length (vs.getD i default).C7, .slice (vs.getD i default).A8 (vs.getD i default).r.Delta.length (vs.getD i default).C8].toArray 94), box b5 (.cells [.bool (!((dG z).any (spS ((dG z).getD i default))))].toArray 4), mine [.slice sa vs.length sk] vs fp, box b6 (.cells [.slice sa vs.length sk].toArray 46), box b7 (.cells [.slice sa vs.length sk].toArray 46), box w3.heap.size (.deferred (some [])), box (w3.heap.size + 1) (.loop (R .busy none))] [box zb (.cells [.int .i64 z.Shape.Groups, .int .i64 z.Shape.Column, .int .i64 z.Shape.Data, .int .i64 z.Shape.Spare, .int .i64 z.Shape.Rows, .int .i64 z.Shape.Cap, .int .i64 z.Shape.Batch, .int .i64 z.Shape.Queue, .int .i64 z.Shape.Stage, .slice zA9 z.Groups.length zC9, .slice zA10 z.On.length zC10, .slice zA11 z.Tapes.length zC11, .int .i64 z.Writes, .int .i64 z.Stop, .bool z.Down].toArray 34), seen false [.slice zA9 z.Groups.length zC9] z.Groups zF9, seen false [.slice zA10 z.On.length zC10] z.On zF10, seen false [.slice zA11 z.Tapes.length zC11] z.Tapes zF11] W2 ∧ shP g row (vs.getD i default).r = true)
    (by
     refine xQ (ml Z (sA Z Z (aa (ml Z (bZ (wn Z) Z Tryz.zeroValue94 HJ (fun b21 w21 e1 g1 H21 => ?_))))));refine bf (wn Z) aP Z Z Z Z H21 10 Z Z (fun w22 e2 H22 => ?_);dsimp only[lNA,lCA,lSZ,lSS,aO] at H22;refine aa ?_
     exact ⟨Z, H22.box 9 Z, _, ⟨Z, Z, Z, Z, Z, Z, Z, Z, trivial⟩, H22⟩)
    (by
     rintro L' W' ⟨b10, hs, HQ⟩
     have HB := HQ.put 9 (.loop (R .busy none)) Z
     try dsimp only[lNA,lCA,lSZ,lSS] at HB
     refine DV hs (CA (xQ (ml Z (sV Z (ab aC Z ts2 Z Z) (sV Z (ac tu2 Z Z (ae (HB.box 10 Z) Z)) (sV Z (ba Z Z) (sM Z Z (bv 4 (j := 3) (want := true) (t := 24) Z Z Z Z (fun hg1 kk1 => am (wgE Z Z Z hg1) Z Z (ab aC Z ts2 Z Z) (am (wgE Z Z Z hg1) Z Z (ac tu2 Z Z (ae (HB.box 10 Z) Z)) (am (wgE Z Z Z hg1) Z Z (ac tu2 Z Z (ae (HB.box 1 Z) Z)) (am (wgE Z Z Z hg1) Z Z (ba Z Z) (kk1 _ _ (kx Z (kx Z (kx Z (kx Z k0)))) Z Ext.refl))))) (fun w41 e1 => ?_)))))))));have H41 := HB.to e1;refine sV Z (bg Z Z) (sM Z Z (bv 4 (j := 9) (want := true) (t := 30) Z Z Z Z (fun hg2 kk2 => am (wgE Z Z Z hg2) Z Z (ab aC Z ts2 Z Z) (am (wgE Z Z Z hg2) Z Z (ac tu2 Z Z (ae (H41.box 10 Z) Z)) (am (wgE Z Z Z hg2) Z Z (ac tu2 Z Z (ae (H41.box 2 Z) Z)) (am (wgE Z Z Z hg2) Z Z (ba Z Z) (kk2 _ _ (kx Z (kx Z (kx Z (kx Z k0)))) Z Ext.refl))))) (fun w42 e2 => ?_)));have H42 := H41.to e2;refine sV Z (bg Z Z) (aa (Fi Z (fun c1 => ?_) (fun c1 => ?_)))
     ·have hsp : shP g row (vs.getD i default).r = true := by simpa [shP, Bool.and_assoc] using c1
      have hk4 := (vQ hsp).1;refine xQ (D5 (S := Ext (· ∈ [b4]) _) (oQ [1,3,5,7,8,11,12,14]) Z (by kernel_rfl) (by kernel_rfl) (by kernel_rfl) (fun _ => Ext.refl.drawn _) (fun q1 => ?_));have H43 := H42.drawn q1;refine dV Z Z (fun zw hx => an aC Z aP Z Z (At.whole (hx.heapM (H43.boff 10 Z 3 Z Z) (H43.box 10 Z)))) (dV Z Z (fun zw hx => ac DI Z Z (ae (hx.heapM (H43.boff 0 Z 3 Z Z) (H43.box 0 Z)) Z)) (dV Z Z (fun zw hx => ac aX Z Z (ae (hx.heapM (H43.boff 6 Z 3 Z Z) (H43.box 6 Z)) Z)) (dM Z Z Z ?_)));have lc := lC (zp := some ⟨zb, 0, none⟩) (xs := vs.map RecV.r) (a := i) (by rw [List.length_map]; exact (hR.to H43.ext).list (H43.mine 5 Z)) (by rw [List.length_map]; exact hi) (by rw [← dB Z hi]; exact hk4);rw [List.length_map, hM] at lc;refine aM Z (wn Z) Z Z (aj Tryz.func273 Z zS Z) lc (fun hS _ _ r _ => hS.trans r.1.no) (fun v1 w43 r1 => ?_);obtain ⟨e3, rfl⟩ := r1;have H44 := H43.to e3;refine dV Z Z (fun zw hx => bb Z) (CV Z (wn Z) aP Z Z Z Z H44 3 Z Z (fun _ h e _ => h.trans (e.mono fun _ _ q => by simp [q])) (fun w44 e4 H45 => ?_));dsimp only[lNA,lCA,lSZ,lSS,aO] at H45;refine bY Z (wn Z) ts4 Z Z Z H45 4 Z Z (fun _ _ _ hr => absurd Z hr) (fun w45 e5 H46 => ?_);dsimp only[lNA,lCA,lSZ,lSS,aO] at H46;refine aT (E5 ?_);exact ⟨H46.box 9 Z, .inr ⟨Z, H46.dtake 10, hsp⟩⟩
     ·have hsp : shP g row (vs.getD i default).r = false := by simpa [shP, Bool.and_assoc] using c1
      refine DG ?_
      exact ⟨H42.box 9 Z, .inl ⟨Z, H42.dtake 10, hsp⟩⟩)
   obtain ⟨f1, t1, s1, o1, r1, k1⟩ := hy;refine ⟨f1, t1, s1, o1, r1, k1.mono fun e W' he => ?_⟩;obtain ⟨W2, _, ⟨he, ⟨H4, h4⟩, rfl⟩ | ⟨he, ⟨H4, h4⟩, rfl⟩⟩ := he
   ·refine .inl ⟨he, H4.put 9 (.loop (R .ready none)) Z, fun j h1 h2 => ?_⟩
    by_cases e : j = i
    ·subst e; exact h4
    ·exact hJ j (by omega) h2
   ·exact .inr ⟨he, i, H4.put 9 (.loop (R .done (some .ret))) Z, hi, h4, fun j h1 h2 => hJ j (by omega) h2⟩
  ·rintro _ W2 (⟨H, h⟩ | ⟨i, H, h1, h2, h3⟩)
   ·exact .inl ⟨H.box 9 Z, _, H.put 9 (.loop (R .exhausted none)) Z, fun j hj => h j (Nat.zero_le _) hj⟩
   ·exact .inr ⟨H.box 9 Z, _, i, H.put 9 (.loop (R .exhausted (some .ret))) Z, h1, h2, h3⟩
 ·obtain ⟨o, HK, hn⟩ := hK
  show Code.wpIn _ _ _ _ _ _ _
  have ha5 : GoodD [{ target := .collected w3.heap.size, args := #[] }] 39 { a3 with defers := [{ target := .collected w3.heap.size, args := #[] }] } [(3, .pointer (some ⟨b1, 0, none⟩)), (4, .pointer (some ⟨b2, 0, none⟩)), (5, .pointer (some ⟨b3, 0, none⟩)), (6, .pointer (some ⟨b4, 0, none⟩)), (7, .pointer (some ⟨b5, 0, none⟩))] :=
   ⟨by have := ha3.1; exact this.weak ⟨rfl, rfl, rfl, rfl, rfl, trivial⟩, rfl⟩
  refine Dw (B := fun L' w' => sub L' [(3, .pointer (some ⟨b1, 0, none⟩)), (4, .pointer (some ⟨b2, 0, none⟩)), (5, .pointer (some ⟨b3, 0, none⟩)), (6, .pointer (some ⟨b4, 0, none⟩)), (7, .pointer (some ⟨b5, 0, none⟩))] ∧ Sep No w [box b1 (.cells [.pointer (some ⟨zb, 0, none⟩)].toArray 76), box b2 (.cells [.int .i64 g].toArray 2), box b3 (.cells [.int .i64 row].toArray 2), box b4 (.cells [.int .i64 0, .int .i64 0, .string ⟨#[]⟩, .int .i64 0, .int .i64 0, .int .i64 0, .slice none 0 0, .slice none 0 0, .slice none 0 0].toArray 94), box b5 (.cells [.bool false].toArray 4), mine [.slice sa vs.length sk] vs fp, box b6 (.cells [.slice sa vs.length sk].toArray 46), box b7 (.cells [.slice sa vs.length sk].toArray 46), box w3.heap.size (.deferred (some [])), box (w3.heap.size + 1) o] [box zb (.cells [.int .i64 z.Shape.Groups, .int .i64 z.Shape.Column, .int .i64 z.Shape.Data, .int .i64 z.Shape.Spare, .int .i64 z.Shape.Rows, .int .i64 z.Shape.Cap, .int .i64 z.Shape.Batch, .int .i64 z.Shape.Queue, .int .i64 z.Shape.Stage, .slice zA9 z.Groups.length zC9, .slice zA10 z.On.length zC10, .slice zA11 z.Tapes.length zC11, .int .i64 z.Writes, .int .i64 z.Stop, .bool z.Down].toArray 34), seen false [.slice zA9 z.Groups.length zC9] z.Groups zF9, seen false [.slice zA10 z.On.length zC10] z.On zF10, seen false [.slice zA11 z.Tapes.length zC11] z.Tapes zF11] w') ha5 ?_ (fun a6 L6 w6 ha6 hB => ?_)
  ·refine CF (n0 (wn Z) Z Z (bX mj Z Z) (E0 (wn Z) aP Z Z Z Z HK 3 Z Z (fun w7 _ H7 => ?_)));dsimp only[lNA,lCA,lSZ,lSS,aO] at H7;refine Fb (wn Z) ts4 Z Z Z H7 4 Z Z (fun w8 _ H8 => ?_)
   try dsimp only[lNA,lCA,lSZ,lSS] at H8
   exact Dh ⟨Z, ⟨Z, Z, Z, Z, Z, trivial⟩, H8⟩
  obtain ⟨hs6, H6⟩ := hB;refine wpIn_ret ?_;have HF := H6.put 8 (.deferred none) Z
  try dsimp only[lNA,lCA,lSZ,lSS] at HF
  refine ⟨.inr Z, w3.heap.size, [(3, .pointer (some ⟨b1, 0, none⟩)), (4, .pointer (some ⟨b2, 0, none⟩)), (5, .pointer (some ⟨b3, 0, none⟩)), (6, .pointer (some ⟨b4, 0, none⟩)), (7, .pointer (some ⟨b5, 0, none⟩))], ha6.weak hs6, H6.box 8 Z, Ep Tryz.results189 Z (aL aC Z aP Z (At.whole (HF.box 3 Z))) Z (kY tu4 Z (ae (HF.box 4 Z) Z)) ?_⟩;have hq : gn z g row = -1 := zz fun j hj => by rw [← dB hM (by omega)]; exact hn j (by omega)
  refine ⟨HF.ext, none, 0, none, 0, none, 0, ?_, ?_⟩
  ·rw [BY hq, El hq]; rfl
  ·rw [BY hq]; exact BZ
 ·obtain ⟨o, i, HK, hi, h4, h5⟩ := hK;have HF := HK.put 8 (.deferred none) Z
  try dsimp only[lNA,lCA,lSZ,lSS] at HF
  refine ⟨.inr Z, w3.heap.size, [(3, .pointer (some ⟨b1, 0, none⟩)), (4, .pointer (some ⟨b2, 0, none⟩)), (5, .pointer (some ⟨b3, 0, none⟩)), (6, .pointer (some ⟨b4, 0, none⟩)), (7, .pointer (some ⟨b5, 0, none⟩))], ⟨by have := ha3.1; exact this.weak ⟨Z, Z, Z, Z, Z, trivial⟩, Z⟩, HK.box 8 Z, Ep Tryz.results189 Z (aL aC Z aP Z (At.whole (HF.box 3 Z))) Z (kY tu4 Z (ae (HF.box 4 Z) Z)) ?_⟩;have hq : gn z g row = (i : Nat) := B4 (by omega) (by rw [← dB hM hi]; exact h4) fun j h1 h2 => by rw [← dB hM (by omega)]; exact h5 j h1 (by omega)
  have hr : (vs.getD i default).r = opR z g row := by rw [EX hq]; exact dB hM hi
  refine ⟨HF.ext, (vs.getD i default).A6, (vs.getD i default).C6, (vs.getD i default).A7, (vs.getD i default).C7, (vs.getD i default).A8, (vs.getD i default).C8, ?_, ?_⟩
  ·rw [DO (by omega), ← hr, dB hM hi]; rfl
  ·exact ((hR.inAt hi).val hr).to HF.ext
end Go.Wk
