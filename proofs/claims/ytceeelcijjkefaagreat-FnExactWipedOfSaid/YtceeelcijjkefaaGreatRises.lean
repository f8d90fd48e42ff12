/-
  The functions walked, each once. (Printed by a program of mine.)
-/
import Derived.Test.YtceeelcijjkefaaGreatBase
import Derived.Test.YtceeelcijjkefaaGreatShape
import Derived.Test.YtceeelcijjkefaaGreatWlA
set_option linter.unusedVariables false
set_option linter.unusedSimpArgs false
namespace Go.Wk
open Go.Proofs Rp
set_option maxRecDepth 10000
theorem Tryz_impl_risesIn {w : World} {xs : List Int} {xsA : Option Addr} {xsC : Nat} {m : Int} (xsS : Sees w [.slice xsA xs.length xsC] xs) (hm : -1000 ≤ m ∧ m ≤ 1000000) : Ret Tryz.prog 241 #[.slice xsA xs.length xsC, .int .i64 m] w fun v w' => Ext No w w' ∧ (v = .bool (rises xs (m - 1))) := by
  have xsL := sees_len xsS
  unfold maxLen at xsL
  obtain ⟨xsF, xsO⟩ := xsS
  refine ret_Q (vs := [.slice xsA xs.length xsC, .int .i64 m]) Tryz.func241 rfl Tryz.ntmps241 rfl (fun Q hQ hN => ?_)
  have H0 := Sep.start (w := w) (F := [seen false [.slice xsA xs.length xsC] xs xsF]) (all_cons xsO (by simp))
  refine W_seq ?_
  refine W_reg ?_
  refine s_val (wn rfl) rfl rfl (py_assign rfl) ?_
  refine s_nil ?_
  refine W_seq ?_
  refine W_seq ?_
  refine W_reg ?_
  refine s_val (wn rfl) rfl rfl (py_move rfl) (s_val (wn rfl) rfl rfl (py_len Tryz.underlying25 rfl) (s_val (wn rfl) rfl rfl (py_move rfl) ?_))
  refine s_nil ?_
  refine W_block ?_
  refine W_loop (γ := Nat) (fun k => [(0, .slice xsA xs.length xsC), (1, .int .i64 m), (7, .slice xsA xs.length xsC), (8, .int .i64 xs.length), (9, .int .i64 k)]) (fun k w' => Sep No w [] [seen false [.slice xsA xs.length xsC] xs xsF] w' ∧ k ≤ xs.length ∧ (∀ i, i < k → riseAt xs (m - 1) i = true)) (fun k => xs.length - k) 0 ⟨rfl, rfl, rfl, rfl, rfl, trivial⟩ ⟨H0, by omega, fun i hi => by omega⟩ (fun k w1 H1 => ?_)
  obtain ⟨H1, hk, he⟩ := H1
  refine W_seq ?_
  refine W_reg ?_
  refine s_val (wn rfl) rfl rfl (py_lss rfl rfl) ?_
  refine s_nil ?_
  refine W_seq ?_
  refine W_ifd rfl (fun c1 => ?_) (fun c1 => ?_)
  · refine W_skip ?_
    refine W_seq ?_
    refine W_block ?_
    refine W_seq ?_
    obtain ⟨eb1, eo1, ee1, ec1⟩ := elem_int (H1.seen 0 rfl) k (by omega)
    have eI1 := elem_i64 (H1.seen 0 rfl) k (by omega)
    refine W_reg ?_
    refine s_val (wn rfl) rfl rfl (py_move rfl) (s_val (wn rfl) rfl rfl (py_elz Tryz.underlying25 Tryz.sizeOf2 rfl rfl ee1 k (by omega) (by omega)) (s_val (wn rfl) rfl rfl (py_load Tryz.underlying2 rfl rfl ec1) (s_val (wn rfl) rfl rfl (py_assign rfl) (s_val (wn rfl) rfl rfl (py_assign rfl) ?_))))
    refine s_nil ?_
    refine W_seq ?_
    obtain ⟨eb2, eo2, ee2, ec2⟩ := elem_int (H1.seen 0 rfl) (k - 1) (by omega)
    have eI2 := elem_i64 (H1.seen 0 rfl) (k - 1) (by omega)
    refine W_reg ?_
    refine s_val (wn rfl) rfl rfl (py_move rfl) (s_val (wn rfl) rfl rfl (py_move rfl) (s_val (wn rfl) rfl rfl (py_sub rfl rfl (in64 ⟨by omega, by omega⟩)) ?_))
    refine s_call (wn rfl) rfl rfl (pc_call Tryz.func154 rfl Tryz_nm154 rfl) Tryz_impl_inside (fun v1 w2 r1 => ?_)
    obtain ⟨e1, rfl⟩ := r1
    have H2 := H1.to e1
    refine s_val (wn rfl) rfl rfl (py_not rfl) (s_val (wn rfl) rfl rfl (py_move rfl) ?_)
    refine s_grp 11 (j := 5) (want := false) (t := 30) rfl rfl rfl rfl (fun hg1 kk1 => s_val (wgE rfl rfl rfl hg1) rfl rfl (py_move rfl) (s_val (wgE rfl rfl rfl hg1) rfl rfl (py_gtr rfl rfl) (s_val (wgE rfl rfl rfl hg1) rfl rfl (py_move rfl) (s_grp 7 (j := 8) (want := true) (t := 29) rfl rfl rfl rfl (fun hg2 kk2 => s_val (wgE rfl rfl rfl hg2) rfl rfl (py_move rfl) (s_val (wgE rfl rfl rfl hg2) rfl rfl (py_move rfl) (s_val (wgE rfl rfl rfl hg2) rfl rfl (py_sub rfl rfl (in64 ⟨by omega, by omega⟩)) (s_val (wgE rfl rfl rfl hg2) rfl rfl (py_elz Tryz.underlying25 Tryz.sizeOf2 rfl rfl ee2 (k - 1) (by first | omega | (simp only [Bool.or_eq_false_iff, Bool.and_eq_true, Bool.and_eq_false_iff, Bool.or_eq_true, Bool.not_eq_true', Bool.not_eq_false', decide_eq_true_eq, decide_eq_false_iff_not] at hg1 hg2; omega)) (by omega)) (s_val (wgE rfl rfl rfl hg2) rfl rfl (py_load Tryz.underlying2 rfl rfl (e1.cell ec2)) (s_val (wgE rfl rfl rfl hg2) rfl rfl (py_move rfl) (s_val (wgE rfl rfl rfl hg2) rfl rfl (py_geq rfl rfl) (kk2 _ _ (kx rfl (kx rfl (kx rfl (kx rfl (kx rfl (kx rfl (kx rfl k0))))))) rfl Ext.refl)))))))) (fun w4 e3 => s_val (wgE rfl rfl rfl hg1) rfl rfl (py_band rfl rfl) (kk1 _ _ (kx rfl (kx rfl (kx rfl (kx rfl (kx rfl k0))))) rfl (Ext.refl.trans e3))))))) (fun w3 e2 => ?_)
    have H4 := H2.to e2
    refine s_val (wn rfl) rfl rfl (py_bor rfl rfl) ?_
    refine s_nil ?_
    refine W_if rfl (fun c2 => ?_) (fun c2 => ?_)
    · refine W_seq ?_
      refine W_reg ?_
      refine s_val (wn rfl) rfl rfl (py_assign rfl) ?_
      refine s_nil ?_
      refine W_ret (hQ _ _ (fin1 Tryz.results241 rfl ?_))
      refine ⟨H4.ext, ?_⟩
      rw [rises_no k (by omega) (by
        simp [ins, -List.getD_eq_getElem?_getD] at c2
        simp [riseAt, -List.getD_eq_getElem?_getD]
        omega)]
    · refine W_skip ?_
      refine W_reg ?_
      refine s_val (wn rfl) rfl rfl (py_add rfl rfl (in64 ⟨by omega, by omega⟩)) (s_val (wn rfl) rfl rfl (py_move rfl) ?_)
      refine s_nil ?_
      refine ⟨k + 1, ⟨rfl, rfl, rfl, rfl, rfl, trivial⟩, ⟨H4, by omega, fun i hi => ?_⟩, by dsimp only; omega⟩
      by_cases e : i = k
      · subst e
        simp [ins, -List.getD_eq_getElem?_getD] at c2
        simp [riseAt, -List.getD_eq_getElem?_getD]
        omega
      · exact he i (by omega)
  · refine W_exit ?_
    refine W_seq ?_
    refine W_reg ?_
    refine s_val (wn rfl) rfl rfl (py_assign rfl) ?_
    refine s_nil ?_
    refine W_ret (hQ _ _ (fin1 Tryz.results241 rfl ?_))
    exact ⟨H1.ext, by rw [rises_yes (fun i hi => he i (by omega))]⟩
theorem Tryz_spec_l2Rise {w : World} {xs : List Int} {xsA : Option Addr} {xsC : Nat} {m : Int} (xsS : Sees w [.slice xsA xs.length xsC] xs) (hm : -1000 ≤ m ∧ m ≤ 1000000) : Ret Tryz.prog 178 #[.slice xsA xs.length xsC, .int .i64 m] w fun v w' => Ext No w w' ∧ (v = .bool (rises xs m)) := by
  have xsL := sees_len xsS
  unfold maxLen at xsL
  obtain ⟨xsF, xsO⟩ := xsS
  refine ret_Q (vs := [.slice xsA xs.length xsC, .int .i64 m]) Tryz.func178 rfl Tryz.ntmps178 rfl (fun Q hQ hN => ?_)
  have H0 := Sep.start (w := w) (F := [seen false [.slice xsA xs.length xsC] xs xsF]) (all_cons xsO (by simp))
  refine W_seq ?_
  refine W_reg ?_
  refine s_val (wn rfl) rfl rfl (py_assign rfl) ?_
  refine s_nil ?_
  refine W_seq ?_
  refine W_seq ?_
  refine W_reg ?_
  refine s_val (wn rfl) rfl rfl (py_assign rfl) ?_
  refine s_nil ?_
  refine W_block ?_
  refine W_loop (γ := Nat) (fun k => [(0, .slice xsA xs.length xsC), (1, .int .i64 m), (5, .int .i64 k)]) (fun k w' => Sep No w [] [seen false [.slice xsA xs.length xsC] xs xsF] w' ∧ k ≤ xs.length ∧ (∀ i, i < k → riseAt xs m i = true)) (fun k => xs.length - k) 0 ⟨rfl, rfl, rfl, trivial⟩ ⟨H0, by omega, fun i hi => by omega⟩ (fun k w1 H1 => ?_)
  obtain ⟨H1, hk, he⟩ := H1
  refine W_seq ?_
  refine W_seq ?_
  refine W_reg ?_
  refine s_val (wn rfl) rfl rfl (py_move rfl) (s_val (wn rfl) rfl rfl (py_move rfl) (s_val (wn rfl) rfl rfl (py_len Tryz.underlying25 rfl) (s_val (wn rfl) rfl rfl (py_lss rfl rfl) ?_)))
  refine s_nil ?_
  refine W_ifd rfl (fun c1 => ?_) (fun c1 => ?_)
  · refine W_skip ?_
    refine W_seq ?_
    refine W_block ?_
    refine W_seq ?_
    obtain ⟨eb1, eo1, ee1, ec1⟩ := elem_int (H1.seen 0 rfl) k (by omega)
    have eI1 := elem_i64 (H1.seen 0 rfl) k (by omega)
    refine W_drw (S := Ext No _) [(0, true), (1, true), (2, true), (3, true), (4, true), (5, true), (6, true), (7, true), (8, true), (9, true), (10, true), (11, true), (12, true), (13, true), (14, true), (15, true), (16, true), (17, true), (18, true), (19, true), (20, true), (21, true), (22, true), (23, true), (24, true), (25, true), (26, true), (27, true), (28, false)] (by kernel_rfl) (by kernel_rfl) (by kernel_rfl) rfl (fun _ => Ext.refl.drawn _) (fun q1 => ?_)
    have H2 := H1.drawn q1
    refine d_val rfl (wn rfl) rfl rfl (fun zw hx => py_move rfl) (d_val rfl (wn rfl) rfl rfl (fun zw hx => py_move rfl) (d_val rfl (wn rfl) rfl rfl (fun zw hx => py_elz Tryz.underlying25 Tryz.sizeOf2 rfl rfl ee1 k (by omega) (by omega)) (d_val rfl (wn rfl) rfl rfl (fun zw hx => py_load Tryz.underlying2 rfl rfl (hx.cell ec1)) (d_val rfl (wn rfl) rfl rfl (fun zw hx => py_lss rfl rfl) (d_val rfl (wn rfl) rfl rfl (fun zw hx => py_move rfl) ?_)))))
    refine d_case (t := 17) rfl (fun hg1 => ?_) (fun hg1 => ?_)
    · try simp only [decide_eq_true_eq, decide_eq_false_iff_not] at hg1
      refine d_skip rfl (wog (b := true) rfl rfl rfl) rfl rfl (d_skip rfl (wog (b := true) rfl rfl rfl) rfl rfl (d_skip rfl (wog (b := true) rfl rfl rfl) rfl rfl (d_skip rfl (wog (b := true) rfl rfl rfl) rfl rfl (d_skip rfl (wog (b := true) rfl rfl rfl) rfl rfl (d_skip rfl (wog (b := true) rfl rfl rfl) rfl rfl (d_val rfl (wn rfl) rfl rfl (fun zw hx => py_pickT rfl rfl) (d_val rfl (wn rfl) rfl rfl (fun zw hx => py_move rfl) (d_skip rfl (wog (b := true) rfl rfl rfl) rfl rfl (d_skip rfl (wog (b := true) rfl rfl rfl) rfl rfl (d_skip rfl (wog (b := true) rfl rfl rfl) rfl rfl (d_skip rfl (wou rfl rfl rfl) rfl rfl (d_skip rfl (wou rfl rfl rfl) rfl rfl (d_skip rfl (wou rfl rfl rfl) rfl rfl (d_skip rfl (wou rfl rfl rfl) rfl rfl (d_skip rfl (wou rfl rfl rfl) rfl rfl (d_skip rfl (wou rfl rfl rfl) rfl rfl (d_skip rfl (wou rfl rfl rfl) rfl rfl (d_skip rfl (wou rfl rfl rfl) rfl rfl (d_skip rfl (wou rfl rfl rfl) rfl rfl (d_skip rfl (wou rfl rfl rfl) rfl rfl (d_skip rfl (wog (b := true) rfl rfl rfl) rfl rfl (d_end rfl (wn rfl) rfl rfl (py_pickT rfl rfl) ?_))))))))))))))))))))))
      refine d_nil ?_
      refine W_ift rfl ?_
      refine W_seq ?_
      refine W_reg ?_
      refine s_val (wn rfl) rfl rfl (py_assign rfl) ?_
      refine s_nil ?_
      refine W_ret (hQ _ _ (fin1 Tryz.results178 rfl ?_))
      refine ⟨H2.ext, ?_⟩
      rw [rises_no k (by omega) (by
        simp [riseAt, -List.getD_eq_getElem?_getD]
        omega)]
    · try simp only [decide_eq_true_eq, decide_eq_false_iff_not] at hg1
      refine d_val rfl (wg rfl rfl rfl) rfl rfl (fun zw hx => py_move rfl) (d_val rfl (wg rfl rfl rfl) rfl rfl (fun zw hx => py_move rfl) (d_val rfl (wg rfl rfl rfl) rfl rfl (fun zw hx => py_elz Tryz.underlying25 Tryz.sizeOf2 rfl rfl ee1 k (by omega) (by omega)) (d_val rfl (wg rfl rfl rfl) rfl rfl (fun zw hx => py_load Tryz.underlying2 rfl rfl (hx.cell ec1)) (d_val rfl (wg rfl rfl rfl) rfl rfl (fun zw hx => py_move rfl) (d_val rfl (wg rfl rfl rfl) rfl rfl (fun zw hx => py_gtr rfl rfl) (d_val rfl (wn rfl) rfl rfl (fun zw hx => py_pickF rfl rfl) (d_val rfl (wn rfl) rfl rfl (fun zw hx => py_move rfl) ?_)))))))
      refine d_case (t := 25) rfl (fun hg2 => ?_) (fun hg2 => ?_)
      · try simp only [decide_eq_true_eq, decide_eq_false_iff_not] at hg2
        refine d_skip rfl (wog (b := true) rfl rfl rfl) rfl rfl (d_skip rfl (wog (b := true) rfl rfl rfl) rfl rfl (d_skip rfl (wog (b := true) rfl rfl rfl) rfl rfl (d_skip rfl (wou rfl rfl rfl) rfl rfl (d_skip rfl (wou rfl rfl rfl) rfl rfl (d_skip rfl (wou rfl rfl rfl) rfl rfl (d_skip rfl (wou rfl rfl rfl) rfl rfl (d_skip rfl (wou rfl rfl rfl) rfl rfl (d_skip rfl (wou rfl rfl rfl) rfl rfl (d_skip rfl (wou rfl rfl rfl) rfl rfl (d_skip rfl (wou rfl rfl rfl) rfl rfl (d_skip rfl (wou rfl rfl rfl) rfl rfl (d_skip rfl (wou rfl rfl rfl) rfl rfl (d_skip rfl (wog (b := true) rfl rfl rfl) rfl rfl (d_end rfl (wn rfl) rfl rfl (py_pickT rfl rfl) ?_))))))))))))))
        refine d_nil ?_
        refine W_ift rfl ?_
        refine W_seq ?_
        refine W_reg ?_
        refine s_val (wn rfl) rfl rfl (py_assign rfl) ?_
        refine s_nil ?_
        refine W_ret (hQ _ _ (fin1 Tryz.results178 rfl ?_))
        refine ⟨H2.ext, ?_⟩
        rw [rises_no k (by omega) (by
          simp [riseAt, -List.getD_eq_getElem?_getD]
          omega)]
      · try simp only [decide_eq_true_eq, decide_eq_false_iff_not] at hg2
        refine d_val rfl (wg rfl rfl rfl) rfl rfl (fun zw hx => py_move rfl) (d_val rfl (wg rfl rfl rfl) rfl rfl (fun zw hx => py_gtr rfl rfl) (d_val rfl (wg rfl rfl rfl) rfl rfl (fun zw hx => py_move rfl) ?_))
        refine d_case (t := 28) rfl (fun hg3 => ?_) (fun hg3 => ?_)
        · try simp only [decide_eq_true_eq, decide_eq_false_iff_not] at hg3
          refine d_val rfl (wg rfl rfl rfl) rfl rfl (fun zw hx => py_move rfl) (d_val rfl (wg rfl rfl rfl) rfl rfl (fun zw hx => py_move rfl) (d_val rfl (wg rfl rfl rfl) rfl rfl (fun zw hx => py_elz Tryz.underlying25 Tryz.sizeOf2 rfl rfl ee1 k (by omega) (by omega)) (d_val rfl (wg rfl rfl rfl) rfl rfl (fun zw hx => py_load Tryz.underlying2 rfl rfl (hx.cell ec1)) (d_val rfl (wg rfl rfl rfl) rfl rfl (fun zw hx => py_move rfl) (d_val rfl (wg rfl rfl rfl) rfl rfl (fun zw hx => py_move rfl) (d_val rfl (wg rfl rfl rfl) rfl rfl (fun zw hx => py_sub rfl rfl (in64 ⟨by omega, by omega⟩)) ?_))))))
          obtain ⟨eb2, eo2, ee2, ec2⟩ := elem_int (H2.seen 0 rfl) (k - 1) (by omega)
          have eI2 := elem_i64 (H2.seen 0 rfl) (k - 1) (by omega)
          refine d_val rfl (wg rfl rfl rfl) rfl rfl (fun zw hx => py_elz Tryz.underlying25 Tryz.sizeOf2 rfl rfl ee2 (k - 1) (by omega) (by omega)) (d_val rfl (wg rfl rfl rfl) rfl rfl (fun zw hx => py_load Tryz.underlying2 rfl rfl (hx.cell ec2)) (d_val rfl (wg rfl rfl rfl) rfl rfl (fun zw hx => py_leq rfl rfl) (d_val rfl (wg rfl rfl rfl) rfl rfl (fun zw hx => py_pickT rfl rfl) (d_end rfl (wn rfl) rfl rfl (py_pickF rfl rfl) ?_))))
          refine d_nil ?_
          refine W_ifd rfl (fun c2 => ?_) (fun c2 => ?_)
          · refine W_seq ?_
            refine W_reg ?_
            refine s_val (wn rfl) rfl rfl (py_assign rfl) ?_
            refine s_nil ?_
            refine W_ret (hQ _ _ (fin1 Tryz.results178 rfl ?_))
            refine ⟨H2.ext, ?_⟩
            rw [rises_no k (by omega) (by
              simp [riseAt, -List.getD_eq_getElem?_getD]
              omega)]
          · refine W_skip ?_
            refine W_reg ?_
            refine s_val (wn rfl) rfl rfl (py_move rfl) (s_val (wn rfl) rfl rfl (py_add rfl rfl (in64 ⟨by omega, by omega⟩)) (s_val (wn rfl) rfl rfl (py_assign rfl) ?_))
            refine s_nil ?_
            refine ⟨k + 1, ⟨rfl, rfl, rfl, trivial⟩, ⟨H2, by omega, fun i hi => ?_⟩, by dsimp only; omega⟩
            by_cases e : i = k
            · subst e
              simp [riseAt, -List.getD_eq_getElem?_getD]
              omega
            · exact he i (by omega)
        · try simp only [decide_eq_true_eq, decide_eq_false_iff_not] at hg3
          refine d_skip rfl (wog (b := false) rfl rfl rfl) rfl rfl (d_skip rfl (wog (b := false) rfl rfl rfl) rfl rfl (d_skip rfl (wog (b := false) rfl rfl rfl) rfl rfl (d_skip rfl (wog (b := false) rfl rfl rfl) rfl rfl (d_skip rfl (wog (b := false) rfl rfl rfl) rfl rfl (d_skip rfl (wog (b := false) rfl rfl rfl) rfl rfl (d_skip rfl (wog (b := false) rfl rfl rfl) rfl rfl (d_skip rfl (wog (b := false) rfl rfl rfl) rfl rfl (d_skip rfl (wog (b := false) rfl rfl rfl) rfl rfl (d_skip rfl (wog (b := false) rfl rfl rfl) rfl rfl (d_val rfl (wg rfl rfl rfl) rfl rfl (fun zw hx => py_pickF rfl rfl) (d_end rfl (wn rfl) rfl rfl (py_pickF rfl rfl) ?_)))))))))))
          refine d_nil ?_
          refine W_iff rfl ?_
          refine W_skip ?_
          refine W_reg ?_
          refine s_val (wn rfl) rfl rfl (py_move rfl) (s_val (wn rfl) rfl rfl (py_add rfl rfl (in64 ⟨by omega, by omega⟩)) (s_val (wn rfl) rfl rfl (py_assign rfl) ?_))
          refine s_nil ?_
          refine ⟨k + 1, ⟨rfl, rfl, rfl, trivial⟩, ⟨H2, by omega, fun i hi => ?_⟩, by dsimp only; omega⟩
          by_cases e : i = k
          · subst e
            simp [riseAt, -List.getD_eq_getElem?_getD]
            omega
          · exact he i (by omega)
  · refine W_exit ?_
    refine W_seq ?_
    refine W_reg ?_
    refine s_val (wn rfl) rfl rfl (py_assign rfl) ?_
    refine s_nil ?_
    refine W_ret (hQ _ _ (fin1 Tryz.results178 rfl ?_))
    exact ⟨H1.ext, by rw [rises_yes (fun i hi => he i (by omega))]⟩
end Go.Wk
