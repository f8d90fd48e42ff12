/-
  The functions walked, each once. (Printed by a program of mine.)
-/
import Derived.Test.YtceeelcijjkefaaGreatShape
set_option linter.unusedVariables false
set_option linter.unusedSimpArgs false
namespace Go.Wk
open Go.Proofs Rp
set_option maxRecDepth 10000
theorem Tryz_spec_NameFault {w : World} {b : ByteArray} (hb : b.size ≤ maxLen) : Ret Tryz.prog 175 #[.string b] w fun v w' => Ext No w w' ∧ (v = .int .i64 (nameFault b)) := by
  unfold maxLen at hb
  refine ret_Q (vs := [.string b]) Tryz.func175 rfl Tryz.ntmps175 rfl (fun Q hQ hN => ?_)
  have H0 := Sep.start (w := w) (F := []) (by simp)
  refine W_seq ?_
  refine W_reg ?_
  refine s_val (wn rfl) rfl rfl (py_assign rfl) ?_
  refine s_nil ?_
  refine W_seq ?_
  refine W_seq ?_
  refine W_reg ?_
  refine s_val (wn rfl) rfl rfl (py_move rfl) (s_val (wn rfl) rfl rfl (py_slen Tryz.underlying9 rfl) (s_val (wn rfl) rfl rfl (py_lss rfl rfl) (s_val (wn rfl) rfl rfl (py_move rfl) ?_)))
  refine s_grp 3 (j := 3) (want := false) (t := 10) rfl rfl rfl rfl (fun hg1 kk1 => s_val (wgE rfl rfl rfl hg1) rfl rfl (py_move rfl) (s_val (wgE rfl rfl rfl hg1) rfl rfl (py_slen Tryz.underlying9 rfl) (s_val (wgE rfl rfl rfl hg1) rfl rfl (py_gtr rfl rfl) (kk1 _ _ (kx rfl (kx rfl (kx rfl k0))) rfl Ext.refl)))) (fun w1 e1 => ?_)
  have H1 := H0.to e1
  refine s_val (wn rfl) rfl rfl (py_bor rfl rfl) (s_val (wn rfl) rfl rfl (py_move rfl) ?_)
  refine s_grp 3 (j := 8) (want := false) (t := 15) rfl rfl rfl rfl (fun hg2 kk2 => s_val (wgE rfl rfl rfl hg2) rfl rfl (py_move rfl) (s_val (wgE rfl rfl rfl hg2) rfl rfl (py_sidxz Tryz.underlying9 rfl rfl 0 (by omega) (by first | omega | (simp only [Bool.or_eq_false_iff, Bool.and_eq_true, Bool.and_eq_false_iff, Bool.or_eq_true, Bool.not_eq_true', Bool.not_eq_false', decide_eq_true_eq, decide_eq_false_iff_not] at hg2; omega))) (s_val (wgE rfl rfl rfl hg2) rfl rfl (py_lss rfl rfl) (kk2 _ _ (kx rfl (kx rfl (kx rfl k0))) rfl Ext.refl)))) (fun w2 e2 => ?_)
  have H2 := H1.to e2
  refine s_val (wn rfl) rfl rfl (py_bor rfl rfl) (s_val (wn rfl) rfl rfl (py_move rfl) ?_)
  refine s_grp 3 (j := 13) (want := false) (t := 20) rfl rfl rfl rfl (fun hg3 kk3 => s_val (wgE rfl rfl rfl hg3) rfl rfl (py_move rfl) (s_val (wgE rfl rfl rfl hg3) rfl rfl (py_sidxz Tryz.underlying9 rfl rfl 0 (by omega) (by first | omega | (simp only [Bool.or_eq_false_iff, Bool.and_eq_true, Bool.and_eq_false_iff, Bool.or_eq_true, Bool.not_eq_true', Bool.not_eq_false', decide_eq_true_eq, decide_eq_false_iff_not] at hg3; omega))) (s_val (wgE rfl rfl rfl hg3) rfl rfl (py_gtr rfl rfl) (kk3 _ _ (kx rfl (kx rfl (kx rfl k0))) rfl Ext.refl)))) (fun w3 e3 => ?_)
  have H3 := H2.to e3
  refine s_val (wn rfl) rfl rfl (py_bor rfl rfl) ?_
  refine s_nil ?_
  refine W_if rfl (fun c1 => ?_) (fun c1 => ?_)
  · refine W_seq ?_
    refine W_reg ?_
    refine s_val (wn rfl) rfl rfl (py_assign rfl) ?_
    refine s_nil ?_
    refine W_ret (hQ _ _ (fin1 Tryz.results175 rfl ?_))
    refine ⟨H3.ext, name_no ?_⟩
    by_cases hs : 1 ≤ b.size ∧ b.size ≤ 8
    · refine nameOK_bad 0 (by omega) ?_
      simp only [okCh, Bool.or_eq_true, Bool.or_eq_false_iff, Bool.and_eq_true, Bool.and_eq_false_iff, decide_eq_true_eq, decide_eq_false_iff_not] at c1 ⊢
      simp
      omega
    · simp [nameOK]; omega
  · refine W_skip ?_
    refine W_seq ?_
    refine W_seq ?_
    refine W_reg ?_
    refine s_val (wn rfl) rfl rfl (py_assign rfl) ?_
    refine s_nil ?_
    refine W_block ?_
    simp only [Bool.or_eq_true, Bool.or_eq_false_iff, Bool.and_eq_true, Bool.and_eq_false_iff, decide_eq_true_eq, decide_eq_false_iff_not] at c1
    refine W_loop (γ := Nat) (fun k => [(0, .string b), (3, .int .i64 k)]) (fun k w' => Sep No w [] [] w' ∧ k ≤ b.size ∧ okTo b k = true) (fun k => b.size - k) 0 ⟨rfl, rfl, trivial⟩ ⟨H3, by omega, rfl⟩ (fun k w4 H4 => ?_)
    obtain ⟨H4, hk, hok⟩ := H4
    refine W_seq ?_
    refine W_seq ?_
    refine W_reg ?_
    refine s_val (wn rfl) rfl rfl (py_move rfl) (s_val (wn rfl) rfl rfl (py_move rfl) (s_val (wn rfl) rfl rfl (py_slen Tryz.underlying9 rfl) (s_val (wn rfl) rfl rfl (py_lss rfl rfl) ?_)))
    refine s_nil ?_
    refine W_ifd rfl (fun c2 => ?_) (fun c2 => ?_)
    · refine W_skip ?_
      refine W_seq ?_
      refine W_block ?_
      refine W_seq ?_
      refine W_reg ?_
      refine s_val (wn rfl) rfl rfl (py_move rfl) (s_val (wn rfl) rfl rfl (py_move rfl) (s_val (wn rfl) rfl rfl (py_sidxz Tryz.underlying9 rfl rfl k (by omega) (by omega)) (s_val (wn rfl) rfl rfl (py_lss rfl rfl) (s_val (wn rfl) rfl rfl (py_move rfl) ?_))))
      refine s_grp 4 (j := 4) (want := false) (t := 36) rfl rfl rfl rfl (fun hg4 kk4 => s_val (wgE rfl rfl rfl hg4) rfl rfl (py_move rfl) (s_val (wgE rfl rfl rfl hg4) rfl rfl (py_move rfl) (s_val (wgE rfl rfl rfl hg4) rfl rfl (py_sidxz Tryz.underlying9 rfl rfl k (by omega) (by first | omega | (simp only [Bool.or_eq_false_iff, Bool.and_eq_true, Bool.and_eq_false_iff, Bool.or_eq_true, Bool.not_eq_true', Bool.not_eq_false', decide_eq_true_eq, decide_eq_false_iff_not] at hg4; omega))) (s_val (wgE rfl rfl rfl hg4) rfl rfl (py_gtr rfl rfl) (kk4 _ _ (kx rfl (kx rfl (kx rfl (kx rfl k0)))) rfl Ext.refl))))) (fun w5 e4 => ?_)
      have H5 := H4.to e4
      refine s_val (wn rfl) rfl rfl (py_bor rfl rfl) (s_val (wn rfl) rfl rfl (py_move rfl) ?_)
      refine s_grp 10 (j := 10) (want := true) (t := 48) rfl rfl rfl rfl (fun hg5 kk5 => s_val (wgE rfl rfl rfl hg5) rfl rfl (py_move rfl) (s_val (wgE rfl rfl rfl hg5) rfl rfl (py_move rfl) (s_val (wgE rfl rfl rfl hg5) rfl rfl (py_sidxz Tryz.underlying9 rfl rfl k (by omega) (by first | omega | (simp only [Bool.or_eq_false_iff, Bool.and_eq_true, Bool.and_eq_false_iff, Bool.or_eq_true, Bool.not_eq_true', Bool.not_eq_false', decide_eq_true_eq, decide_eq_false_iff_not] at hg5; omega))) (s_val (wgE rfl rfl rfl hg5) rfl rfl (py_lss rfl rfl) (s_val (wgE rfl rfl rfl hg5) rfl rfl (py_move rfl) (s_grp 4 (j := 15) (want := false) (t := 47) rfl rfl rfl rfl (fun hg6 kk6 => s_val (wgE rfl rfl rfl hg6) rfl rfl (py_move rfl) (s_val (wgE rfl rfl rfl hg6) rfl rfl (py_move rfl) (s_val (wgE rfl rfl rfl hg6) rfl rfl (py_sidxz Tryz.underlying9 rfl rfl k (by omega) (by first | omega | (simp only [Bool.or_eq_false_iff, Bool.and_eq_true, Bool.and_eq_false_iff, Bool.or_eq_true, Bool.not_eq_true', Bool.not_eq_false', decide_eq_true_eq, decide_eq_false_iff_not] at hg5 hg6; omega))) (s_val (wgE rfl rfl rfl hg6) rfl rfl (py_gtr rfl rfl) (kk6 _ _ (kx rfl (kx rfl (kx rfl (kx rfl k0)))) rfl Ext.refl))))) (fun w7 e6 => s_val (wgE rfl rfl rfl hg5) rfl rfl (py_bor rfl rfl) (kk5 _ _ (kx rfl (kx rfl (kx rfl (kx rfl (kx rfl (kx rfl (kx rfl k0))))))) rfl (Ext.refl.trans e6))))))))) (fun w6 e5 => ?_)
      have H7 := H5.to e5
      refine s_val (wn rfl) rfl rfl (py_band rfl rfl) ?_
      refine s_nil ?_
      refine W_if rfl (fun c3 => ?_) (fun c3 => ?_)
      · refine W_seq ?_
        refine W_reg ?_
        refine s_val (wn rfl) rfl rfl (py_assign rfl) ?_
        refine s_nil ?_
        refine W_ret (hQ _ _ (fin1 Tryz.results175 rfl ?_))
        refine ⟨H7.ext, name_no (nameOK_bad k (by omega) ?_)⟩
        simp only [okCh, Bool.or_eq_true, Bool.or_eq_false_iff, Bool.and_eq_true, Bool.and_eq_false_iff, decide_eq_true_eq, decide_eq_false_iff_not] at c3 ⊢
        omega
      · refine W_skip ?_
        refine W_reg ?_
        refine s_val (wn rfl) rfl rfl (py_move rfl) (s_val (wn rfl) rfl rfl (py_add rfl rfl (in64 ⟨by omega, by omega⟩)) (s_val (wn rfl) rfl rfl (py_assign rfl) ?_))
        refine s_nil ?_
        refine ⟨k + 1, ⟨rfl, rfl, trivial⟩, ⟨H7, by omega, ?_⟩, by dsimp only; omega⟩
        rw [okTo, hok, Bool.true_and]
        simp only [okCh, Bool.or_eq_true, Bool.or_eq_false_iff, Bool.and_eq_true, Bool.and_eq_false_iff, decide_eq_true_eq, decide_eq_false_iff_not] at c3 ⊢
        simp only [Bool.not_eq_true', decide_eq_false_iff_not]
        by_cases h0 : k = 0
        · subst h0; omega
        · omega
    · refine W_exit ?_
      refine W_seq ?_
      refine W_reg ?_
      refine s_val (wn rfl) rfl rfl (py_assign rfl) ?_
      refine s_nil ?_
      refine W_ret (hQ _ _ (fin1 Tryz.results175 rfl ?_))
      refine ⟨H4.ext, name_yes ?_⟩
      obtain rfl : k = b.size := by omega
      simp only [nameOK, hok, Bool.and_true, Bool.or_eq_true, Bool.or_eq_false_iff, Bool.and_eq_true, Bool.and_eq_false_iff, decide_eq_true_eq, decide_eq_false_iff_not]
      omega
theorem Tryz_impl_NameFault {w : World} {b : ByteArray} (hb : b.size ≤ maxLen) : Ret Tryz.prog 239 #[.string b] w fun v w' => Ext No w w' ∧ (v = .int .i64 (nameFault b)) := by
  unfold maxLen at hb
  refine ret_Q (vs := [.string b]) Tryz.func239 rfl Tryz.ntmps239 rfl (fun Q hQ hN => ?_)
  have H0 := Sep.start (w := w) (F := []) (by simp)
  refine W_seq ?_
  refine W_reg ?_
  refine s_val (wn rfl) rfl rfl (py_assign rfl) ?_
  refine s_nil ?_
  refine W_seq ?_
  refine W_seq ?_
  refine W_reg ?_
  refine s_val (wn rfl) rfl rfl (py_move rfl) (s_val (wn rfl) rfl rfl (py_slen Tryz.underlying9 rfl) (s_val (wn rfl) rfl rfl (py_move rfl) ?_))
  refine s_nil ?_
  refine W_block ?_
  refine W_loop (γ := Nat) (fun k => [(0, .string b), (6, .int .i64 b.size), (7, .int .i64 k)]) (fun k w' => Sep No w [] [] w' ∧ k ≤ b.size ∧ okTo b k = true) (fun k => b.size - k) 0 ⟨rfl, rfl, rfl, trivial⟩ ⟨H0, by omega, rfl⟩ (fun k w1 H1 => ?_)
  obtain ⟨H1, hk, hok⟩ := H1
  refine W_seq ?_
  refine W_reg ?_
  refine s_val (wn rfl) rfl rfl (py_lss rfl rfl) ?_
  refine s_nil ?_
  refine W_seq ?_
  refine W_ifd rfl (fun c1 => ?_) (fun c1 => ?_)
  · refine W_skip ?_
    refine W_seq ?_
    refine W_block ?_
    refine W_seq ?_
    refine W_reg ?_
    refine s_val (wn rfl) rfl rfl (py_move rfl) (s_val (wn rfl) rfl rfl (py_assign rfl) ?_)
    refine s_nil ?_
    refine W_seq ?_
    refine W_reg ?_
    refine s_val (wn rfl) rfl rfl (py_move rfl) (s_val (wn rfl) rfl rfl (py_move rfl) (s_val (wn rfl) rfl rfl (py_sidxz Tryz.underlying9 rfl rfl k (by omega) (by omega)) (s_val (wn rfl) rfl rfl (py_geq rfl rfl) (s_val (wn rfl) rfl rfl (py_move rfl) ?_))))
    refine s_grp 4 (j := 4) (want := true) (t := 18) rfl rfl rfl rfl (fun hg1 kk1 => s_val (wgE rfl rfl rfl hg1) rfl rfl (py_move rfl) (s_val (wgE rfl rfl rfl hg1) rfl rfl (py_move rfl) (s_val (wgE rfl rfl rfl hg1) rfl rfl (py_sidxz Tryz.underlying9 rfl rfl k (by omega) (by first | omega | (simp only [Bool.or_eq_false_iff, Bool.and_eq_true, Bool.and_eq_false_iff, Bool.or_eq_true, Bool.not_eq_true', Bool.not_eq_false', decide_eq_true_eq, decide_eq_false_iff_not] at hg1; omega))) (s_val (wgE rfl rfl rfl hg1) rfl rfl (py_leq rfl rfl) (kk1 _ _ (kx rfl (kx rfl (kx rfl (kx rfl k0)))) rfl Ext.refl))))) (fun w2 e1 => ?_)
    have H2 := H1.to e1
    refine s_val (wn rfl) rfl rfl (py_band rfl rfl) (s_val (wn rfl) rfl rfl (py_assign rfl) ?_)
    refine s_nil ?_
    refine W_seq ?_
    refine W_reg ?_
    refine s_val (wn rfl) rfl rfl (py_move rfl) (s_val (wn rfl) rfl rfl (py_not rfl) (s_val (wn rfl) rfl rfl (py_move rfl) ?_))
    refine s_grp 14 (j := 2) (want := true) (t := 36) rfl rfl rfl rfl (fun hg2 kk2 => s_val (wgE rfl rfl rfl hg2) rfl rfl (py_move rfl) (s_val (wgE rfl rfl rfl hg2) rfl rfl (py_eql rfl rfl) (s_val (wgE rfl rfl rfl hg2) rfl rfl (py_move rfl) (s_grp 4 (j := 5) (want := false) (t := 29) rfl rfl rfl rfl (fun hg3 kk3 => s_val (wgE rfl rfl rfl hg3) rfl rfl (py_move rfl) (s_val (wgE rfl rfl rfl hg3) rfl rfl (py_move rfl) (s_val (wgE rfl rfl rfl hg3) rfl rfl (py_sidxz Tryz.underlying9 rfl rfl k (by omega) (by first | omega | (simp only [Bool.or_eq_false_iff, Bool.and_eq_true, Bool.and_eq_false_iff, Bool.or_eq_true, Bool.not_eq_true', Bool.not_eq_false', decide_eq_true_eq, decide_eq_false_iff_not] at hg2 hg3; omega))) (s_val (wgE rfl rfl rfl hg3) rfl rfl (py_lss rfl rfl) (kk3 _ _ (kx rfl (kx rfl (kx rfl (kx rfl k0)))) rfl Ext.refl))))) (fun w4 e3 => s_val (wgE rfl rfl rfl hg2) rfl rfl (py_bor rfl rfl) (s_val (wgE rfl rfl rfl hg2) rfl rfl (py_move rfl) (s_grp 4 (j := 11) (want := false) (t := 35) rfl rfl rfl rfl (fun hg4 kk4 => s_val (wgE rfl rfl rfl hg4) rfl rfl (py_move rfl) (s_val (wgE rfl rfl rfl hg4) rfl rfl (py_move rfl) (s_val (wgE rfl rfl rfl hg4) rfl rfl (py_sidxz Tryz.underlying9 rfl rfl k (by omega) (by first | omega | (simp only [Bool.or_eq_false_iff, Bool.and_eq_true, Bool.and_eq_false_iff, Bool.or_eq_true, Bool.not_eq_true', Bool.not_eq_false', decide_eq_true_eq, decide_eq_false_iff_not] at hg2 hg4; omega))) (s_val (wgE rfl rfl rfl hg4) rfl rfl (py_gtr rfl rfl) (kk4 _ _ (kx rfl (kx rfl (kx rfl (kx rfl k0)))) rfl Ext.refl))))) (fun w5 e4 => s_val (wgE rfl rfl rfl hg2) rfl rfl (py_bor rfl rfl) (kk2 _ _ (kx rfl (kx rfl (kx rfl (kx rfl (kx rfl (kx rfl (kx rfl (kx rfl k0)))))))) rfl ((Ext.refl.trans e3).trans e4)))))))))) (fun w3 e2 => ?_)
    have H5 := H2.to e2
    refine s_val (wn rfl) rfl rfl (py_band rfl rfl) ?_
    refine s_nil ?_
    refine W_if rfl (fun c2 => ?_) (fun c2 => ?_)
    · refine W_seq ?_
      refine W_reg ?_
      refine s_val (wn rfl) rfl rfl (py_assign rfl) ?_
      refine s_nil ?_
      refine W_ret (hQ _ _ (fin1 Tryz.results239 rfl ?_))
      refine ⟨H5.ext, name_no (nameOK_bad k (by omega) ?_)⟩
      simp only [okCh, Bool.or_eq_true, Bool.or_eq_false_iff, Bool.and_eq_true, Bool.and_eq_false_iff, decide_eq_true_eq, decide_eq_false_iff_not, Bool.not_eq_true', Bool.not_eq_false'] at c2 ⊢
      omega
    · refine W_skip ?_
      refine W_reg ?_
      refine s_val (wn rfl) rfl rfl (py_add rfl rfl (in64 ⟨by omega, by omega⟩)) (s_val (wn rfl) rfl rfl (py_move rfl) ?_)
      refine s_nil ?_
      refine ⟨k + 1, ⟨rfl, rfl, rfl, trivial⟩, ⟨H5, by omega, ?_⟩, by dsimp only; omega⟩
      rw [okTo, hok, Bool.true_and]
      simp only [okCh, Bool.or_eq_true, Bool.or_eq_false_iff, Bool.and_eq_true, Bool.and_eq_false_iff, decide_eq_true_eq, decide_eq_false_iff_not, Bool.not_eq_true', Bool.not_eq_false'] at c2 ⊢
      omega
  · refine W_exit ?_
    refine W_seq ?_
    refine W_seq ?_
    refine W_reg ?_
    refine s_val (wn rfl) rfl rfl (py_move rfl) (s_val (wn rfl) rfl rfl (py_slen Tryz.underlying9 rfl) ?_)
    refine s_call (wn rfl) rfl rfl (pc_call Tryz.func154 rfl Tryz_nm154 rfl) Tryz_impl_inside (fun v1 w6 r1 => ?_)
    obtain ⟨e5, rfl⟩ := r1
    have H6 := H1.to e5
    refine s_val (wn rfl) rfl rfl (py_not rfl) ?_
    refine s_nil ?_
    refine W_if rfl (fun c3 => ?_) (fun c3 => ?_)
    · refine W_seq ?_
      refine W_reg ?_
      refine s_val (wn rfl) rfl rfl (py_assign rfl) ?_
      refine s_nil ?_
      refine W_ret (hQ _ _ (fin1 Tryz.results239 rfl ?_))
      refine ⟨H6.ext, name_no ?_⟩
      have c4 := not_true c3
      rw [ins_no] at c4
      simp [nameOK]
      omega
    · refine W_skip ?_
      refine W_seq ?_
      refine W_reg ?_
      refine s_val (wn rfl) rfl rfl (py_assign rfl) ?_
      refine s_nil ?_
      refine W_ret (hQ _ _ (fin1 Tryz.results239 rfl ?_))
      refine ⟨H6.ext, name_yes ?_⟩
      have c4 := not_false c3
      rw [ins_iff] at c4
      obtain rfl : k = b.size := by omega
      simp only [nameOK, hok, Bool.and_true, Bool.or_eq_true, Bool.or_eq_false_iff, Bool.and_eq_true, Bool.and_eq_false_iff, decide_eq_true_eq, decide_eq_false_iff_not]
      omega
theorem Tryz_spec_l5All {w : World} {s : Shape} (hs : s.ok = true) : Ret Tryz.prog 83 #[s.v] w fun v w' => Ext No w w' ∧ (v = .int .i64 (s.Groups + s.Column)) := by
  have sbd := shape_bd hs
  refine ret_Q (vs := [s.v]) Tryz.func83 rfl Tryz.ntmps83 rfl (fun Q hQ hN => ?_)
  have H0 := Sep.start (w := w) (F := []) (by simp)
  refine W_seq ?_
  refine W_reg ?_
  refine s_box (wn rfl) rfl rfl H0 (fun b1 w1 e1 g1 H1 => ?_)
  refine s_val (wn rfl) rfl rfl (py_assign rfl) ?_
  refine s_nil ?_
  refine W_seq ?_
  refine W_reg ?_
  refine s_val (wn rfl) rfl rfl (py_field Tryz.underlying33 rfl Tryz.sizeOf2 rfl rfl) (s_val (wn rfl) rfl rfl (py_load Tryz.underlying2 rfl rfl (cell_atL (H1.box 0 rfl) rfl)) (s_val (wn rfl) rfl rfl (py_field Tryz.underlying33 rfl Tryz.sizeOf2 rfl rfl) (s_val (wn rfl) rfl rfl (py_load Tryz.underlying2 rfl rfl (cell_atL (H1.box 0 rfl) rfl)) (s_val (wn rfl) rfl rfl (py_add rfl rfl (in64 ⟨by omega, by omega⟩)) (s_val (wn rfl) rfl rfl (py_assign rfl) ?_)))))
  refine s_nil ?_
  refine W_ret (hQ _ _ (fin1 Tryz.results83 rfl ?_))
  exact ⟨H1.ext, rfl⟩
theorem Tryz_impl_Shape_all {w : World} {s : Shape} (hs : s.ok = true) : Ret Tryz.prog 86 #[s.v] w fun v w' => Ext No w w' ∧ (v = .int .i64 (s.Groups + s.Column)) := by
  have sbd := shape_bd hs
  refine ret_Q (vs := [s.v]) Tryz.func86 rfl Tryz.ntmps86 rfl (fun Q hQ hN => ?_)
  have H0 := Sep.start (w := w) (F := []) (by simp)
  refine W_seq ?_
  refine W_reg ?_
  refine s_box (wn rfl) rfl rfl H0 (fun b1 w1 e1 g1 H1 => ?_)
  refine s_val (wn rfl) rfl rfl (py_assign rfl) ?_
  refine s_nil ?_
  refine W_seq ?_
  refine W_reg ?_
  refine s_val (wn rfl) rfl rfl (py_field Tryz.underlying33 rfl Tryz.sizeOf2 rfl rfl) (s_val (wn rfl) rfl rfl (py_load Tryz.underlying2 rfl rfl (cell_atL (H1.box 0 rfl) rfl)) (s_val (wn rfl) rfl rfl (py_field Tryz.underlying33 rfl Tryz.sizeOf2 rfl rfl) (s_val (wn rfl) rfl rfl (py_load Tryz.underlying2 rfl rfl (cell_atL (H1.box 0 rfl) rfl)) (s_val (wn rfl) rfl rfl (py_add rfl rfl (in64 ⟨by omega, by omega⟩)) (s_val (wn rfl) rfl rfl (py_assign rfl) ?_)))))
  refine s_nil ?_
  refine W_ret (hQ _ _ (fin1 Tryz.results86 rfl ?_))
  exact ⟨H1.ext, rfl⟩
theorem Tryz_impl_Shape_isGroup {w : World} {s : Shape} {x : Int} (hs : s.ok = true) : Ret Tryz.prog 94 #[s.v, .int .i64 x] w fun v w' => Ext No w w' ∧ (v = .bool (ins x 0 (s.Groups + s.Column - 1))) := by
  have sbd := shape_bd hs
  refine ret_Q (vs := [s.v, .int .i64 x]) Tryz.func94 rfl Tryz.ntmps94 rfl (fun Q hQ hN => ?_)
  have H0 := Sep.start (w := w) (F := []) (by simp)
  refine W_seq ?_
  refine W_reg ?_
  refine s_box (wn rfl) rfl rfl H0 (fun b1 w1 e1 g1 H1 => ?_)
  refine s_val (wn rfl) rfl rfl (py_assign rfl) ?_
  refine s_nil ?_
  refine W_seq ?_
  refine W_reg ?_
  refine s_val (wn rfl) rfl rfl (py_move rfl) (s_val (wn rfl) rfl rfl (py_loadS Tryz.underlying33 rfl Tryz.sizeOf33 rfl rfl (At.whole (H1.box 0 rfl))) ?_)
  refine s_call (wn rfl) rfl rfl (pc_call Tryz.func86 rfl Tryz_nm86 rfl) (Tryz_impl_Shape_all (by assumption)) (fun v1 w2 r1 => ?_)
  obtain ⟨e2, rfl⟩ := r1
  have H2 := H1.to e2
  refine s_val (wn rfl) rfl rfl (py_sub rfl rfl (in64 ⟨by omega, by omega⟩)) ?_
  refine s_call (wn rfl) rfl rfl (pc_call Tryz.func154 rfl Tryz_nm154 rfl) Tryz_impl_inside (fun v2 w3 r2 => ?_)
  obtain ⟨e3, rfl⟩ := r2
  have H3 := H2.to e3
  refine s_val (wn rfl) rfl rfl (py_assign rfl) ?_
  refine s_nil ?_
  refine W_ret (hQ _ _ (fin1 Tryz.results94 rfl ?_))
  exact ⟨H3.ext, rfl⟩
theorem Tryz_laws_toShape {w : World} {s : Shape}  : Ret Tryz.prog 71 #[s.v] w fun v w' => Ext No w w' ∧ (v = s.v) := by
  refine ret_Q (vs := [s.v]) Tryz.func71 rfl Tryz.ntmps71 rfl (fun Q hQ hN => ?_)
  have H0 := Sep.start (w := w) (F := []) (by simp)
  refine W_seq ?_
  refine W_reg ?_
  refine s_box (wn rfl) rfl rfl H0 (fun b1 w1 e1 g1 H1 => ?_)
  refine s_var (wn rfl) rfl Tryz.zeroValue33 H1 (fun b2 w2 e2 g2 H2 => ?_)
  refine s_nil ?_
  refine W_seq ?_
  refine W_reg ?_
  refine s_var (wn rfl) rfl Tryz.zeroValue33 H2 (fun b3 w3 e3 g3 H3 => ?_)
  refine s_nil ?_
  refine W_seq ?_
  refine W_reg ?_
  refine s_val (wn rfl) rfl rfl (py_field Tryz.underlying23 rfl Tryz.sizeOf2 rfl rfl) (s_val (wn rfl) rfl rfl (py_load Tryz.underlying2 rfl rfl (cell_atL (H3.box 0 rfl) rfl)) (s_val (wn rfl) rfl rfl (py_field Tryz.underlying33 rfl Tryz.sizeOf2 rfl rfl) ?_))
  refine s_sto (wn rfl) Tryz.sizeOf2 rfl rfl rfl H3 2 rfl rfl (fun w4 e4 H4 => ?_)
  dsimp only [List.nil_append, List.cons_append, List.set_cons_zero, List.set_cons_succ, layL] at H4
  refine s_nil ?_
  refine W_seq ?_
  refine W_reg ?_
  refine s_val (wn rfl) rfl rfl (py_field Tryz.underlying23 rfl Tryz.sizeOf2 rfl rfl) (s_val (wn rfl) rfl rfl (py_load Tryz.underlying2 rfl rfl (cell_atL (H4.box 0 rfl) rfl)) (s_val (wn rfl) rfl rfl (py_field Tryz.underlying33 rfl Tryz.sizeOf2 rfl rfl) ?_))
  refine s_sto (wn rfl) Tryz.sizeOf2 rfl rfl rfl H4 2 rfl rfl (fun w5 e5 H5 => ?_)
  dsimp only [List.nil_append, List.cons_append, List.set_cons_zero, List.set_cons_succ, layL] at H5
  refine s_nil ?_
  refine W_seq ?_
  refine W_reg ?_
  refine s_val (wn rfl) rfl rfl (py_field Tryz.underlying23 rfl Tryz.sizeOf2 rfl rfl) (s_val (wn rfl) rfl rfl (py_load Tryz.underlying2 rfl rfl (cell_atL (H5.box 0 rfl) rfl)) (s_val (wn rfl) rfl rfl (py_field Tryz.underlying33 rfl Tryz.sizeOf2 rfl rfl) ?_))
  refine s_sto (wn rfl) Tryz.sizeOf2 rfl rfl rfl H5 2 rfl rfl (fun w6 e6 H6 => ?_)
  dsimp only [List.nil_append, List.cons_append, List.set_cons_zero, List.set_cons_succ, layL] at H6
  refine s_nil ?_
  refine W_seq ?_
  refine W_reg ?_
  refine s_val (wn rfl) rfl rfl (py_field Tryz.underlying23 rfl Tryz.sizeOf2 rfl rfl) (s_val (wn rfl) rfl rfl (py_load Tryz.underlying2 rfl rfl (cell_atL (H6.box 0 rfl) rfl)) (s_val (wn rfl) rfl rfl (py_field Tryz.underlying33 rfl Tryz.sizeOf2 rfl rfl) ?_))
  refine s_sto (wn rfl) Tryz.sizeOf2 rfl rfl rfl H6 2 rfl rfl (fun w7 e7 H7 => ?_)
  dsimp only [List.nil_append, List.cons_append, List.set_cons_zero, List.set_cons_succ, layL] at H7
  refine s_nil ?_
  refine W_seq ?_
  refine W_reg ?_
  refine s_val (wn rfl) rfl rfl (py_field Tryz.underlying23 rfl Tryz.sizeOf2 rfl rfl) (s_val (wn rfl) rfl rfl (py_load Tryz.underlying2 rfl rfl (cell_atL (H7.box 0 rfl) rfl)) (s_val (wn rfl) rfl rfl (py_field Tryz.underlying33 rfl Tryz.sizeOf2 rfl rfl) ?_))
  refine s_sto (wn rfl) Tryz.sizeOf2 rfl rfl rfl H7 2 rfl rfl (fun w8 e8 H8 => ?_)
  dsimp only [List.nil_append, List.cons_append, List.set_cons_zero, List.set_cons_succ, layL] at H8
  refine s_nil ?_
  refine W_seq ?_
  refine W_reg ?_
  refine s_val (wn rfl) rfl rfl (py_field Tryz.underlying23 rfl Tryz.sizeOf2 rfl rfl) (s_val (wn rfl) rfl rfl (py_load Tryz.underlying2 rfl rfl (cell_atL (H8.box 0 rfl) rfl)) (s_val (wn rfl) rfl rfl (py_field Tryz.underlying33 rfl Tryz.sizeOf2 rfl rfl) ?_))
  refine s_sto (wn rfl) Tryz.sizeOf2 rfl rfl rfl H8 2 rfl rfl (fun w9 e9 H9 => ?_)
  dsimp only [List.nil_append, List.cons_append, List.set_cons_zero, List.set_cons_succ, layL] at H9
  refine s_nil ?_
  refine W_seq ?_
  refine W_reg ?_
  refine s_val (wn rfl) rfl rfl (py_field Tryz.underlying23 rfl Tryz.sizeOf2 rfl rfl) (s_val (wn rfl) rfl rfl (py_load Tryz.underlying2 rfl rfl (cell_atL (H9.box 0 rfl) rfl)) (s_val (wn rfl) rfl rfl (py_field Tryz.underlying33 rfl Tryz.sizeOf2 rfl rfl) ?_))
  refine s_sto (wn rfl) Tryz.sizeOf2 rfl rfl rfl H9 2 rfl rfl (fun w10 e10 H10 => ?_)
  dsimp only [List.nil_append, List.cons_append, List.set_cons_zero, List.set_cons_succ, layL] at H10
  refine s_nil ?_
  refine W_seq ?_
  refine W_reg ?_
  refine s_val (wn rfl) rfl rfl (py_field Tryz.underlying23 rfl Tryz.sizeOf2 rfl rfl) (s_val (wn rfl) rfl rfl (py_load Tryz.underlying2 rfl rfl (cell_atL (H10.box 0 rfl) rfl)) (s_val (wn rfl) rfl rfl (py_field Tryz.underlying33 rfl Tryz.sizeOf2 rfl rfl) ?_))
  refine s_sto (wn rfl) Tryz.sizeOf2 rfl rfl rfl H10 2 rfl rfl (fun w11 e11 H11 => ?_)
  dsimp only [List.nil_append, List.cons_append, List.set_cons_zero, List.set_cons_succ, layL] at H11
  refine s_nil ?_
  refine W_seq ?_
  refine W_reg ?_
  refine s_val (wn rfl) rfl rfl (py_field Tryz.underlying23 rfl Tryz.sizeOf2 rfl rfl) (s_val (wn rfl) rfl rfl (py_load Tryz.underlying2 rfl rfl (cell_atL (H11.box 0 rfl) rfl)) (s_val (wn rfl) rfl rfl (py_field Tryz.underlying33 rfl Tryz.sizeOf2 rfl rfl) ?_))
  refine s_sto (wn rfl) Tryz.sizeOf2 rfl rfl rfl H11 2 rfl rfl (fun w12 e12 H12 => ?_)
  dsimp only [List.nil_append, List.cons_append, List.set_cons_zero, List.set_cons_succ, layL] at H12
  refine s_nil ?_
  refine W_seq ?_
  refine W_reg ?_
  refine s_val (wn rfl) rfl rfl (py_loadS Tryz.underlying33 rfl Tryz.sizeOf33 rfl rfl (At.whole (H12.box 2 rfl))) ?_
  refine s_stoS (wn rfl) Tryz.sizeOf33 rfl rfl rfl rfl H12 1 rfl rfl (fun w13 e13 H13 => ?_)
  dsimp only [List.nil_append, List.cons_append, List.set_cons_zero, List.set_cons_succ, layL] at H13
  refine s_nil ?_
  refine W_ret (hQ _ _ (finC Tryz.results71 rfl (run_loadVarS Tryz.underlying33 rfl Tryz.sizeOf33 rfl (At.whole (H13.box 1 rfl))) ?_))
  exact ⟨H13.ext, rfl⟩
end Go.Wk
