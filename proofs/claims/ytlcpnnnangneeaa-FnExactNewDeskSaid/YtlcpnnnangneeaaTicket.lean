/-
  The functions walked, each once. (Printed by a program of mine.)
-/
import Derived.Test.YtlcpnnnangneeaaShape
namespace Go.Wk
open Go.Proofs Rp
set_option maxRecDepth 10000
theorem Try_spec_NameFault {w : World} {b : ByteArray} (hb : b.size ≤ maxLen) : Ret Try.prog 70 #[.string b] w fun v w' => Ext No w w' ∧ (v = .int .i64 (nameFault b)) := by
  unfold maxLen at hb
  refine ret_Q (vs := [.string b]) Try.func70 rfl Try.ntmps70 rfl (fun Q hQ hN => ?_)
  have H0 := Sep.start (w := w) (F := []) (by simp)
  refine W_seq ?_
  refine W_reg ?_
  refine s_val (wn rfl) rfl rfl (py_assign rfl) ?_
  refine s_nil ?_
  refine W_seq ?_
  refine W_seq ?_
  refine W_reg ?_
  refine s_val (wn rfl) rfl rfl (py_move rfl) (s_val (wn rfl) rfl rfl (py_slen Try.underlying9 rfl) (s_val (wn rfl) rfl rfl (py_lss rfl rfl) (s_val (wn rfl) rfl rfl (py_move rfl) ?_)))
  refine s_grp 3 (j := 3) (want := false) (t := 10) rfl rfl rfl rfl (fun hg1 kk1 => s_val (wgE rfl rfl rfl hg1) rfl rfl (py_move rfl) (s_val (wgE rfl rfl rfl hg1) rfl rfl (py_slen Try.underlying9 rfl) (s_val (wgE rfl rfl rfl hg1) rfl rfl (py_gtr rfl rfl) (kk1 _ _ (kx rfl (kx rfl (kx rfl k0))) rfl Ext.refl)))) (fun w1 e1 => ?_)
  have H1 := H0.to e1
  refine s_val (wn rfl) rfl rfl (py_bor rfl rfl) (s_val (wn rfl) rfl rfl (py_move rfl) ?_)
  refine s_grp 3 (j := 8) (want := false) (t := 15) rfl rfl rfl rfl (fun hg2 kk2 => s_val (wgE rfl rfl rfl hg2) rfl rfl (py_move rfl) (s_val (wgE rfl rfl rfl hg2) rfl rfl (py_sidxz Try.underlying9 rfl rfl 0 (by omega) (by first | omega | (simp only [Bool.or_eq_false_iff, Bool.and_eq_true, Bool.and_eq_false_iff, Bool.or_eq_true, Bool.not_eq_true', Bool.not_eq_false', decide_eq_true_eq, decide_eq_false_iff_not] at hg2; omega))) (s_val (wgE rfl rfl rfl hg2) rfl rfl (py_lss rfl rfl) (kk2 _ _ (kx rfl (kx rfl (kx rfl k0))) rfl Ext.refl)))) (fun w2 e2 => ?_)
  have H2 := H1.to e2
  refine s_val (wn rfl) rfl rfl (py_bor rfl rfl) (s_val (wn rfl) rfl rfl (py_move rfl) ?_)
  refine s_grp 3 (j := 13) (want := false) (t := 20) rfl rfl rfl rfl (fun hg3 kk3 => s_val (wgE rfl rfl rfl hg3) rfl rfl (py_move rfl) (s_val (wgE rfl rfl rfl hg3) rfl rfl (py_sidxz Try.underlying9 rfl rfl 0 (by omega) (by first | omega | (simp only [Bool.or_eq_false_iff, Bool.and_eq_true, Bool.and_eq_false_iff, Bool.or_eq_true, Bool.not_eq_true', Bool.not_eq_false', decide_eq_true_eq, decide_eq_false_iff_not] at hg3; omega))) (s_val (wgE rfl rfl rfl hg3) rfl rfl (py_gtr rfl rfl) (kk3 _ _ (kx rfl (kx rfl (kx rfl k0))) rfl Ext.refl)))) (fun w3 e3 => ?_)
  have H3 := H2.to e3
  refine s_val (wn rfl) rfl rfl (py_bor rfl rfl) ?_
  refine s_nil ?_
  refine W_if rfl (fun c1 => ?_) (fun c1 => ?_)
  · refine W_seq ?_
    refine W_reg ?_
    refine s_val (wn rfl) rfl rfl (py_assign rfl) ?_
    refine s_nil ?_
    refine W_ret (hQ _ _ (fin1 Try.results70 rfl ?_))
    refine ⟨H3.ext, name_no ?_⟩
    by_cases hs : 1 ≤ b.size ∧ b.size ≤ 8
    · refine nameOK_bad 0 (by omega) ?_
      simp only [okCh, Bool.or_eq_true, Bool.or_eq_false_iff, Bool.and_eq_true, Bool.and_eq_false_iff, decide_eq_true_eq, decide_eq_false_iff_not] at c1 ⊢
      simp
      omega
    · simp [nameOK]; omega
  · refine W_skip ?_
    refine W_seq ?_
    refine W_seq ?_
    refine W_reg ?_
    refine s_val (wn rfl) rfl rfl (py_assign rfl) ?_
    refine s_nil ?_
    refine W_block ?_
    simp only [Bool.or_eq_true, Bool.or_eq_false_iff, Bool.and_eq_true, Bool.and_eq_false_iff, decide_eq_true_eq, decide_eq_false_iff_not] at c1
    refine W_loop (γ := Nat) (fun k => [(0, .string b), (3, .int .i64 k)]) (fun k w' => Sep No w [] [] w' ∧ k ≤ b.size ∧ okTo b k = true) (fun k => b.size - k) 0 ⟨rfl, rfl, trivial⟩ ⟨H3, by omega, rfl⟩ (fun k w4 H4 => ?_)
    obtain ⟨H4, hk, hok⟩ := H4
    refine W_seq ?_
    refine W_seq ?_
    refine W_reg ?_
    refine s_val (wn rfl) rfl rfl (py_move rfl) (s_val (wn rfl) rfl rfl (py_move rfl) (s_val (wn rfl) rfl rfl (py_slen Try.underlying9 rfl) (s_val (wn rfl) rfl rfl (py_lss rfl rfl) ?_)))
    refine s_nil ?_
    refine W_ifd rfl (fun c2 => ?_) (fun c2 => ?_)
    · refine W_skip ?_
      refine W_seq ?_
      refine W_block ?_
      refine W_seq ?_
      refine W_reg ?_
      refine s_val (wn rfl) rfl rfl (py_move rfl) (s_val (wn rfl) rfl rfl (py_move rfl) (s_val (wn rfl) rfl rfl (py_sidxz Try.underlying9 rfl rfl k (by omega) (by omega)) (s_val (wn rfl) rfl rfl (py_lss rfl rfl) (s_val (wn rfl) rfl rfl (py_move rfl) ?_))))
      refine s_grp 4 (j := 4) (want := false) (t := 36) rfl rfl rfl rfl (fun hg4 kk4 => s_val (wgE rfl rfl rfl hg4) rfl rfl (py_move rfl) (s_val (wgE rfl rfl rfl hg4) rfl rfl (py_move rfl) (s_val (wgE rfl rfl rfl hg4) rfl rfl (py_sidxz Try.underlying9 rfl rfl k (by omega) (by first | omega | (simp only [Bool.or_eq_false_iff, Bool.and_eq_true, Bool.and_eq_false_iff, Bool.or_eq_true, Bool.not_eq_true', Bool.not_eq_false', decide_eq_true_eq, decide_eq_false_iff_not] at hg4; omega))) (s_val (wgE rfl rfl rfl hg4) rfl rfl (py_gtr rfl rfl) (kk4 _ _ (kx rfl (kx rfl (kx rfl (kx rfl k0)))) rfl Ext.refl))))) (fun w5 e4 => ?_)
      have H5 := H4.to e4
      refine s_val (wn rfl) rfl rfl (py_bor rfl rfl) (s_val (wn rfl) rfl rfl (py_move rfl) ?_)
      refine s_grp 10 (j := 10) (want := true) (t := 48) rfl rfl rfl rfl (fun hg5 kk5 => s_val (wgE rfl rfl rfl hg5) rfl rfl (py_move rfl) (s_val (wgE rfl rfl rfl hg5) rfl rfl (py_move rfl) (s_val (wgE rfl rfl rfl hg5) rfl rfl (py_sidxz Try.underlying9 rfl rfl k (by omega) (by first | omega | (simp only [Bool.or_eq_false_iff, Bool.and_eq_true, Bool.and_eq_false_iff, Bool.or_eq_true, Bool.not_eq_true', Bool.not_eq_false', decide_eq_true_eq, decide_eq_false_iff_not] at hg5; omega))) (s_val (wgE rfl rfl rfl hg5) rfl rfl (py_lss rfl rfl) (s_val (wgE rfl rfl rfl hg5) rfl rfl (py_move rfl) (s_grp 4 (j := 15) (want := false) (t := 47) rfl rfl rfl rfl (fun hg6 kk6 => s_val (wgE rfl rfl rfl hg6) rfl rfl (py_move rfl) (s_val (wgE rfl rfl rfl hg6) rfl rfl (py_move rfl) (s_val (wgE rfl rfl rfl hg6) rfl rfl (py_sidxz Try.underlying9 rfl rfl k (by omega) (by first | omega | (simp only [Bool.or_eq_false_iff, Bool.and_eq_true, Bool.and_eq_false_iff, Bool.or_eq_true, Bool.not_eq_true', Bool.not_eq_false', decide_eq_true_eq, decide_eq_false_iff_not] at hg5 hg6; omega))) (s_val (wgE rfl rfl rfl hg6) rfl rfl (py_gtr rfl rfl) (kk6 _ _ (kx rfl (kx rfl (kx rfl (kx rfl k0)))) rfl Ext.refl))))) (fun w7 e6 => s_val (wgE rfl rfl rfl hg5) rfl rfl (py_bor rfl rfl) (kk5 _ _ (kx rfl (kx rfl (kx rfl (kx rfl (kx rfl (kx rfl (kx rfl k0))))))) rfl (Ext.refl.trans e6))))))))) (fun w6 e5 => ?_)
      have H7 := H5.to e5
      refine s_val (wn rfl) rfl rfl (py_band rfl rfl) ?_
      refine s_nil ?_
      refine W_if rfl (fun c3 => ?_) (fun c3 => ?_)
      · refine W_seq ?_
        refine W_reg ?_
        refine s_val (wn rfl) rfl rfl (py_assign rfl) ?_
        refine s_nil ?_
        refine W_ret (hQ _ _ (fin1 Try.results70 rfl ?_))
        refine ⟨H7.ext, name_no (nameOK_bad k (by omega) ?_)⟩
        simp only [okCh, Bool.or_eq_true, Bool.or_eq_false_iff, Bool.and_eq_true, Bool.and_eq_false_iff, decide_eq_true_eq, decide_eq_false_iff_not] at c3 ⊢
        omega
      · refine W_skip ?_
        refine W_reg ?_
        refine s_val (wn rfl) rfl rfl (py_move rfl) (s_val (wn rfl) rfl rfl (py_add rfl rfl (in64 ⟨by omega, by omega⟩)) (s_val (wn rfl) rfl rfl (py_assign rfl) ?_))
        refine s_nil ?_
        refine ⟨k + 1, ⟨rfl, rfl, trivial⟩, ⟨H7, by omega, ?_⟩, by dsimp only; omega⟩
        rw [okTo, hok, Bool.true_and]
        simp only [okCh, Bool.or_eq_true, Bool.or_eq_false_iff, Bool.and_eq_true, Bool.and_eq_false_iff, decide_eq_true_eq, decide_eq_false_iff_not] at c3 ⊢
        simp only [Bool.not_eq_true', decide_eq_false_iff_not]
        by_cases h0 : k = 0
        · subst h0; omega
        · omega
    · refine W_exit ?_
      refine W_seq ?_
      refine W_reg ?_
      refine s_val (wn rfl) rfl rfl (py_assign rfl) ?_
      refine s_nil ?_
      refine W_ret (hQ _ _ (fin1 Try.results70 rfl ?_))
      refine ⟨H4.ext, name_yes ?_⟩
      obtain rfl : k = b.size := by omega
      simp only [nameOK, hok, Bool.and_true, Bool.or_eq_true, Bool.or_eq_false_iff, Bool.and_eq_true, Bool.and_eq_false_iff, decide_eq_true_eq, decide_eq_false_iff_not]
      omega
theorem Try_impl_NameFault {w : World} {b : ByteArray} (hb : b.size ≤ maxLen) : Ret Try.prog 130 #[.string b] w fun v w' => Ext No w w' ∧ (v = .int .i64 (nameFault b)) := by
  unfold maxLen at hb
  refine ret_Q (vs := [.string b]) Try.func130 rfl Try.ntmps130 rfl (fun Q hQ hN => ?_)
  have H0 := Sep.start (w := w) (F := []) (by simp)
  refine W_seq ?_
  refine W_reg ?_
  refine s_val (wn rfl) rfl rfl (py_assign rfl) ?_
  refine s_nil ?_
  refine W_seq ?_
  refine W_seq ?_
  refine W_reg ?_
  refine s_val (wn rfl) rfl rfl (py_move rfl) (s_val (wn rfl) rfl rfl (py_slen Try.underlying9 rfl) (s_val (wn rfl) rfl rfl (py_move rfl) ?_))
  refine s_nil ?_
  refine W_block ?_
  refine W_loop (γ := Nat) (fun k => [(0, .string b), (6, .int .i64 b.size), (7, .int .i64 k)]) (fun k w' => Sep No w [] [] w' ∧ k ≤ b.size ∧ okTo b k = true) (fun k => b.size - k) 0 ⟨rfl, rfl, rfl, trivial⟩ ⟨H0, by omega, rfl⟩ (fun k w1 H1 => ?_)
  obtain ⟨H1, hk, hok⟩ := H1
  refine W_seq ?_
  refine W_reg ?_
  refine s_val (wn rfl) rfl rfl (py_lss rfl rfl) ?_
  refine s_nil ?_
  refine W_seq ?_
  refine W_ifd rfl (fun c1 => ?_) (fun c1 => ?_)
  · refine W_skip ?_
    refine W_seq ?_
    refine W_block ?_
    refine W_seq ?_
    refine W_reg ?_
    refine s_val (wn rfl) rfl rfl (py_move rfl) (s_val (wn rfl) rfl rfl (py_assign rfl) ?_)
    refine s_nil ?_
    refine W_seq ?_
    refine W_reg ?_
    refine s_val (wn rfl) rfl rfl (py_move rfl) (s_val (wn rfl) rfl rfl (py_move rfl) (s_val (wn rfl) rfl rfl (py_sidxz Try.underlying9 rfl rfl k (by omega) (by omega)) (s_val (wn rfl) rfl rfl (py_geq rfl rfl) (s_val (wn rfl) rfl rfl (py_move rfl) ?_))))
    refine s_grp 4 (j := 4) (want := true) (t := 18) rfl rfl rfl rfl (fun hg1 kk1 => s_val (wgE rfl rfl rfl hg1) rfl rfl (py_move rfl) (s_val (wgE rfl rfl rfl hg1) rfl rfl (py_move rfl) (s_val (wgE rfl rfl rfl hg1) rfl rfl (py_sidxz Try.underlying9 rfl rfl k (by omega) (by first | omega | (simp only [Bool.or_eq_false_iff, Bool.and_eq_true, Bool.and_eq_false_iff, Bool.or_eq_true, Bool.not_eq_true', Bool.not_eq_false', decide_eq_true_eq, decide_eq_false_iff_not] at hg1; omega))) (s_val (wgE rfl rfl rfl hg1) rfl rfl (py_leq rfl rfl) (kk1 _ _ (kx rfl (kx rfl (kx rfl (kx rfl k0)))) rfl Ext.refl))))) (fun w2 e1 => ?_)
    have H2 := H1.to e1
    refine s_val (wn rfl) rfl rfl (py_band rfl rfl) (s_val (wn rfl) rfl rfl (py_assign rfl) ?_)
    refine s_nil ?_
    refine W_seq ?_
    refine W_reg ?_
    refine s_val (wn rfl) rfl rfl (py_move rfl) (s_val (wn rfl) rfl rfl (py_not rfl) (s_val (wn rfl) rfl rfl (py_move rfl) ?_))
    refine s_grp 14 (j := 2) (want := true) (t := 36) rfl rfl rfl rfl (fun hg2 kk2 => s_val (wgE rfl rfl rfl hg2) rfl rfl (py_move rfl) (s_val (wgE rfl rfl rfl hg2) rfl rfl (py_eql rfl rfl) (s_val (wgE rfl rfl rfl hg2) rfl rfl (py_move rfl) (s_grp 4 (j := 5) (want := false) (t := 29) rfl rfl rfl rfl (fun hg3 kk3 => s_val (wgE rfl rfl rfl hg3) rfl rfl (py_move rfl) (s_val (wgE rfl rfl rfl hg3) rfl rfl (py_move rfl) (s_val (wgE rfl rfl rfl hg3) rfl rfl (py_sidxz Try.underlying9 rfl rfl k (by omega) (by first | omega | (simp only [Bool.or_eq_false_iff, Bool.and_eq_true, Bool.and_eq_false_iff, Bool.or_eq_true, Bool.not_eq_true', Bool.not_eq_false', decide_eq_true_eq, decide_eq_false_iff_not] at hg2 hg3; omega))) (s_val (wgE rfl rfl rfl hg3) rfl rfl (py_lss rfl rfl) (kk3 _ _ (kx rfl (kx rfl (kx rfl (kx rfl k0)))) rfl Ext.refl))))) (fun w4 e3 => s_val (wgE rfl rfl rfl hg2) rfl rfl (py_bor rfl rfl) (s_val (wgE rfl rfl rfl hg2) rfl rfl (py_move rfl) (s_grp 4 (j := 11) (want := false) (t := 35) rfl rfl rfl rfl (fun hg4 kk4 => s_val (wgE rfl rfl rfl hg4) rfl rfl (py_move rfl) (s_val (wgE rfl rfl rfl hg4) rfl rfl (py_move rfl) (s_val (wgE rfl rfl rfl hg4) rfl rfl (py_sidxz Try.underlying9 rfl rfl k (by omega) (by first | omega | (simp only [Bool.or_eq_false_iff, Bool.and_eq_true, Bool.and_eq_false_iff, Bool.or_eq_true, Bool.not_eq_true', Bool.not_eq_false', decide_eq_true_eq, decide_eq_false_iff_not] at hg2 hg4; omega))) (s_val (wgE rfl rfl rfl hg4) rfl rfl (py_gtr rfl rfl) (kk4 _ _ (kx rfl (kx rfl (kx rfl (kx rfl k0)))) rfl Ext.refl))))) (fun w5 e4 => s_val (wgE rfl rfl rfl hg2) rfl rfl (py_bor rfl rfl) (kk2 _ _ (kx rfl (kx rfl (kx rfl (kx rfl (kx rfl (kx rfl (kx rfl (kx rfl k0)))))))) rfl ((Ext.refl.trans e3).trans e4)))))))))) (fun w3 e2 => ?_)
    have H5 := H2.to e2
    refine s_val (wn rfl) rfl rfl (py_band rfl rfl) ?_
    refine s_nil ?_
    refine W_if rfl (fun c2 => ?_) (fun c2 => ?_)
    · refine W_seq ?_
      refine W_reg ?_
      refine s_val (wn rfl) rfl rfl (py_assign rfl) ?_
      refine s_nil ?_
      refine W_ret (hQ _ _ (fin1 Try.results130 rfl ?_))
      refine ⟨H5.ext, name_no (nameOK_bad k (by omega) ?_)⟩
      simp only [okCh, Bool.or_eq_true, Bool.or_eq_false_iff, Bool.and_eq_true, Bool.and_eq_false_iff, decide_eq_true_eq, decide_eq_false_iff_not, Bool.not_eq_true', Bool.not_eq_false'] at c2 ⊢
      omega
    · refine W_skip ?_
      refine W_reg ?_
      refine s_val (wn rfl) rfl rfl (py_add rfl rfl (in64 ⟨by omega, by omega⟩)) (s_val (wn rfl) rfl rfl (py_move rfl) ?_)
      refine s_nil ?_
      refine ⟨k + 1, ⟨rfl, rfl, rfl, trivial⟩, ⟨H5, by omega, ?_⟩, by dsimp only; omega⟩
      rw [okTo, hok, Bool.true_and]
      simp only [okCh, Bool.or_eq_true, Bool.or_eq_false_iff, Bool.and_eq_true, Bool.and_eq_false_iff, decide_eq_true_eq, decide_eq_false_iff_not, Bool.not_eq_true', Bool.not_eq_false'] at c2 ⊢
      omega
  · refine W_exit ?_
    refine W_seq ?_
    refine W_seq ?_
    refine W_reg ?_
    refine s_val (wn rfl) rfl rfl (py_move rfl) (s_val (wn rfl) rfl rfl (py_slen Try.underlying9 rfl) ?_)
    refine s_call (wn rfl) rfl rfl (pc_call Try.func108 rfl Try_nm108 rfl) Try_impl_inside (fun v1 w6 r1 => ?_)
    obtain ⟨e5, rfl⟩ := r1
    have H6 := H1.to e5
    refine s_val (wn rfl) rfl rfl (py_not rfl) ?_
    refine s_nil ?_
    refine W_if rfl (fun c3 => ?_) (fun c3 => ?_)
    · refine W_seq ?_
      refine W_reg ?_
      refine s_val (wn rfl) rfl rfl (py_assign rfl) ?_
      refine s_nil ?_
      refine W_ret (hQ _ _ (fin1 Try.results130 rfl ?_))
      refine ⟨H6.ext, name_no ?_⟩
      have c4 := not_true c3
      rw [ins_no] at c4
      simp [nameOK]
      omega
    · refine W_skip ?_
      refine W_seq ?_
      refine W_reg ?_
      refine s_val (wn rfl) rfl rfl (py_assign rfl) ?_
      refine s_nil ?_
      refine W_ret (hQ _ _ (fin1 Try.results130 rfl ?_))
      refine ⟨H6.ext, name_yes ?_⟩
      have c4 := not_false c3
      rw [ins_iff] at c4
      obtain rfl : k = b.size := by omega
      simp only [nameOK, hok, Bool.and_true, Bool.or_eq_true, Bool.or_eq_false_iff, Bool.and_eq_true, Bool.and_eq_false_iff, decide_eq_true_eq, decide_eq_false_iff_not]
      omega
theorem Try_spec_l4Home {w : World} {s : Shape} {b : ByteArray} (hb : b.size ≤ 1000) (hg : s.Groups ≠ 0) : Ret Try.prog 71 #[s.v, .string b] w fun v w' => Ext No w w' ∧ (v = .int .i64 (homeOf s b)) := by
  refine ret_Q (vs := [s.v, .string b]) Try.func71 rfl Try.ntmps71 rfl (fun Q hQ hN => ?_)
  have H0 := Sep.start (w := w) (F := []) (by simp)
  refine W_seq ?_
  refine W_reg ?_
  refine s_box (wn rfl) rfl rfl H0 (fun b1 w1 e1 g1 H1 => ?_)
  refine s_val (wn rfl) rfl rfl (py_assign rfl) ?_
  refine s_nil ?_
  refine W_seq ?_
  refine W_reg ?_
  refine s_val (wn rfl) rfl rfl (py_assign rfl) ?_
  refine s_nil ?_
  refine W_seq ?_
  refine W_seq ?_
  refine W_reg ?_
  refine s_val (wn rfl) rfl rfl (py_assign rfl) ?_
  refine s_nil ?_
  refine W_block ?_
  have sb := sumTo_bd (b := b) 0
  refine W_loop (γ := Nat) (fun k => [(1, .string b), (2, .pointer (some ⟨b1, 0, none⟩)), (5, .int .i64 (sumTo b k)), (6, .int .i64 k)]) (fun k w' => Sep No w [box b1 (.cells (Shape.v s).cells 28)] [] w' ∧ k ≤ b.size) (fun k => b.size - k) 0 ⟨rfl, rfl, rfl, rfl, trivial⟩ ⟨H1, by omega⟩ (fun k w2 H2 => ?_)
  obtain ⟨H2, hk⟩ := H2
  refine W_seq ?_
  refine W_seq ?_
  refine W_reg ?_
  refine s_val (wn rfl) rfl rfl (py_move rfl) (s_val (wn rfl) rfl rfl (py_move rfl) (s_val (wn rfl) rfl rfl (py_slen Try.underlying9 rfl) (s_val (wn rfl) rfl rfl (py_lss rfl rfl) ?_)))
  refine s_nil ?_
  refine W_ifd rfl (fun c1 => ?_) (fun c1 => ?_)
  · refine W_skip ?_
    refine W_seq ?_
    refine W_block ?_
    have sb := sumTo_bd (b := b) k
    have gb := (gB b k).toNat_lt
    refine W_reg ?_
    refine s_val (wn rfl) rfl rfl (py_move rfl) (s_val (wn rfl) rfl rfl (py_move rfl) (s_val (wn rfl) rfl rfl (py_move rfl) (s_val (wn rfl) rfl rfl (py_sidxz Try.underlying9 rfl rfl k (by omega) (by omega)) (s_val (wn rfl) rfl rfl (py_conv Try.underlying5 Try.underlying2 rfl (in64 ⟨by omega, by omega⟩)) (s_val (wn rfl) rfl rfl (py_add rfl rfl (in64 ⟨by omega, by omega⟩)) (s_val (wn rfl) rfl rfl (py_assign rfl) ?_))))))
    refine s_nil ?_
    refine W_reg ?_
    refine s_val (wn rfl) rfl rfl (py_move rfl) (s_val (wn rfl) rfl rfl (py_add rfl rfl (in64 ⟨by omega, by omega⟩)) (s_val (wn rfl) rfl rfl (py_assign rfl) ?_))
    refine s_nil ?_
    refine ⟨k + 1, ⟨rfl, rfl, rfl, rfl, trivial⟩, ⟨H2, by omega⟩, by dsimp only; omega⟩
  · refine W_exit ?_
    refine W_seq ?_
    obtain rfl : k = b.size := by omega
    refine W_reg ?_
    refine s_val (wn rfl) rfl rfl (py_move rfl) (s_val (wn rfl) rfl rfl (py_field Try.underlying28 rfl Try.sizeOf2 rfl rfl) (s_val (wn rfl) rfl rfl (py_load Try.underlying2 rfl rfl (cell_atL (H2.box 0 rfl) rfl)) (s_val (wn rfl) rfl rfl (py_rem rfl rfl (by omega)) (s_val (wn rfl) rfl rfl (py_assign rfl) ?_))))
    refine s_nil ?_
    refine W_ret (hQ _ _ (fin1 Try.results71 rfl ?_))
    exact ⟨H2.ext, rfl⟩
theorem Try_impl_Shape_home {w : World} {s : Shape} {b : ByteArray} (hb : b.size ≤ 1000) (hg : s.Groups ≠ 0) : Ret Try.prog 131 #[s.v, .string b] w fun v w' => Ext No w w' ∧ (v = .int .i64 (homeOf s b)) := by
  refine ret_Q (vs := [s.v, .string b]) Try.func131 rfl Try.ntmps131 rfl (fun Q hQ hN => ?_)
  have H0 := Sep.start (w := w) (F := []) (by simp)
  refine W_seq ?_
  refine W_reg ?_
  refine s_box (wn rfl) rfl rfl H0 (fun b1 w1 e1 g1 H1 => ?_)
  refine s_val (wn rfl) rfl rfl (py_assign rfl) ?_
  refine s_nil ?_
  refine W_seq ?_
  refine W_reg ?_
  refine s_val (wn rfl) rfl rfl (py_assign rfl) ?_
  refine s_nil ?_
  refine W_seq ?_
  refine W_seq ?_
  refine W_reg ?_
  refine s_val (wn rfl) rfl rfl (py_move rfl) (s_val (wn rfl) rfl rfl (py_slen Try.underlying9 rfl) (s_val (wn rfl) rfl rfl (py_move rfl) ?_))
  refine s_nil ?_
  refine W_block ?_
  refine W_loop (γ := Nat) (fun k => [(1, .string b), (2, .pointer (some ⟨b1, 0, none⟩)), (5, .int .i64 (sumTo b k)), (8, .int .i64 b.size), (9, .int .i64 k)]) (fun k w' => Sep No w [box b1 (.cells (Shape.v s).cells 28)] [] w' ∧ k ≤ b.size) (fun k => b.size - k) 0 ⟨rfl, rfl, rfl, rfl, rfl, trivial⟩ ⟨H1, by omega⟩ (fun k w2 H2 => ?_)
  obtain ⟨H2, hk⟩ := H2
  refine W_seq ?_
  refine W_reg ?_
  refine s_val (wn rfl) rfl rfl (py_lss rfl rfl) ?_
  refine s_nil ?_
  refine W_seq ?_
  refine W_ifd rfl (fun c1 => ?_) (fun c1 => ?_)
  · refine W_skip ?_
    refine W_seq ?_
    refine W_block ?_
    refine W_seq ?_
    refine W_reg ?_
    refine s_val (wn rfl) rfl rfl (py_move rfl) (s_val (wn rfl) rfl rfl (py_assign rfl) ?_)
    refine s_nil ?_
    have sb := sumTo_bd (b := b) k
    have gb := (gB b k).toNat_lt
    refine W_reg ?_
    refine s_val (wn rfl) rfl rfl (py_move rfl) (s_val (wn rfl) rfl rfl (py_move rfl) (s_val (wn rfl) rfl rfl (py_move rfl) (s_val (wn rfl) rfl rfl (py_sidxz Try.underlying9 rfl rfl k (by omega) (by omega)) (s_val (wn rfl) rfl rfl (py_conv Try.underlying5 Try.underlying2 rfl (in64 ⟨by omega, by omega⟩)) (s_val (wn rfl) rfl rfl (py_add rfl rfl (in64 ⟨by omega, by omega⟩)) (s_val (wn rfl) rfl rfl (py_assign rfl) ?_))))))
    refine s_nil ?_
    refine W_reg ?_
    refine s_val (wn rfl) rfl rfl (py_add rfl rfl (in64 ⟨by omega, by omega⟩)) (s_val (wn rfl) rfl rfl (py_move rfl) ?_)
    refine s_nil ?_
    refine ⟨k + 1, ⟨rfl, rfl, rfl, rfl, rfl, trivial⟩, ⟨H2, by omega⟩, by dsimp only; omega⟩
  · refine W_exit ?_
    refine W_seq ?_
    obtain rfl : k = b.size := by omega
    refine W_reg ?_
    refine s_val (wn rfl) rfl rfl (py_move rfl) (s_val (wn rfl) rfl rfl (py_field Try.underlying28 rfl Try.sizeOf2 rfl rfl) (s_val (wn rfl) rfl rfl (py_load Try.underlying2 rfl rfl (cell_atL (H2.box 0 rfl) rfl)) (s_val (wn rfl) rfl rfl (py_rem rfl rfl (by omega)) (s_val (wn rfl) rfl rfl (py_assign rfl) ?_))))
    refine s_nil ?_
    refine W_ret (hQ _ _ (fin1 Try.results131 rfl ?_))
    exact ⟨H2.ext, rfl⟩
theorem Try_spec_l5All {w : World} {s : Shape} (hs : s.ok = true) : Ret Try.prog 72 #[s.v] w fun v w' => Ext No w w' ∧ (v = .int .i64 (s.Groups + s.Column)) := by
  have sbd := shape_bd hs
  refine ret_Q (vs := [s.v]) Try.func72 rfl Try.ntmps72 rfl (fun Q hQ hN => ?_)
  have H0 := Sep.start (w := w) (F := []) (by simp)
  refine W_seq ?_
  refine W_reg ?_
  refine s_box (wn rfl) rfl rfl H0 (fun b1 w1 e1 g1 H1 => ?_)
  refine s_val (wn rfl) rfl rfl (py_assign rfl) ?_
  refine s_nil ?_
  refine W_seq ?_
  refine W_reg ?_
  refine s_val (wn rfl) rfl rfl (py_field Try.underlying28 rfl Try.sizeOf2 rfl rfl) (s_val (wn rfl) rfl rfl (py_load Try.underlying2 rfl rfl (cell_atL (H1.box 0 rfl) rfl)) (s_val (wn rfl) rfl rfl (py_field Try.underlying28 rfl Try.sizeOf2 rfl rfl) (s_val (wn rfl) rfl rfl (py_load Try.underlying2 rfl rfl (cell_atL (H1.box 0 rfl) rfl)) (s_val (wn rfl) rfl rfl (py_add rfl rfl (in64 ⟨by omega, by omega⟩)) (s_val (wn rfl) rfl rfl (py_assign rfl) ?_)))))
  refine s_nil ?_
  refine W_ret (hQ _ _ (fin1 Try.results72 rfl ?_))
  exact ⟨H1.ext, rfl⟩
theorem Try_impl_Shape_all {w : World} {s : Shape} (hs : s.ok = true) : Ret Try.prog 85 #[s.v] w fun v w' => Ext No w w' ∧ (v = .int .i64 (s.Groups + s.Column)) := by
  have sbd := shape_bd hs
  refine ret_Q (vs := [s.v]) Try.func85 rfl Try.ntmps85 rfl (fun Q hQ hN => ?_)
  have H0 := Sep.start (w := w) (F := []) (by simp)
  refine W_seq ?_
  refine W_reg ?_
  refine s_box (wn rfl) rfl rfl H0 (fun b1 w1 e1 g1 H1 => ?_)
  refine s_val (wn rfl) rfl rfl (py_assign rfl) ?_
  refine s_nil ?_
  refine W_seq ?_
  refine W_reg ?_
  refine s_val (wn rfl) rfl rfl (py_field Try.underlying28 rfl Try.sizeOf2 rfl rfl) (s_val (wn rfl) rfl rfl (py_load Try.underlying2 rfl rfl (cell_atL (H1.box 0 rfl) rfl)) (s_val (wn rfl) rfl rfl (py_field Try.underlying28 rfl Try.sizeOf2 rfl rfl) (s_val (wn rfl) rfl rfl (py_load Try.underlying2 rfl rfl (cell_atL (H1.box 0 rfl) rfl)) (s_val (wn rfl) rfl rfl (py_add rfl rfl (in64 ⟨by omega, by omega⟩)) (s_val (wn rfl) rfl rfl (py_assign rfl) ?_)))))
  refine s_nil ?_
  refine W_ret (hQ _ _ (fin1 Try.results85 rfl ?_))
  exact ⟨H1.ext, rfl⟩
theorem Try_impl_Shape_isGroup {w : World} {s : Shape} {x : Int} (hs : s.ok = true) : Ret Try.prog 129 #[s.v, .int .i64 x] w fun v w' => Ext No w w' ∧ (v = .bool (ins x 0 (s.Groups + s.Column - 1))) := by
  have sbd := shape_bd hs
  refine ret_Q (vs := [s.v, .int .i64 x]) Try.func129 rfl Try.ntmps129 rfl (fun Q hQ hN => ?_)
  have H0 := Sep.start (w := w) (F := []) (by simp)
  refine W_seq ?_
  refine W_reg ?_
  refine s_box (wn rfl) rfl rfl H0 (fun b1 w1 e1 g1 H1 => ?_)
  refine s_val (wn rfl) rfl rfl (py_assign rfl) ?_
  refine s_nil ?_
  refine W_seq ?_
  refine W_reg ?_
  refine s_val (wn rfl) rfl rfl (py_move rfl) (s_val (wn rfl) rfl rfl (py_loadS Try.underlying28 rfl Try.sizeOf28 rfl rfl (At.whole (H1.box 0 rfl))) ?_)
  refine s_call (wn rfl) rfl rfl (pc_call Try.func85 rfl Try_nm85 rfl) (Try_impl_Shape_all (by assumption)) (fun v1 w2 r1 => ?_)
  obtain ⟨e2, rfl⟩ := r1
  have H2 := H1.to e2
  refine s_val (wn rfl) rfl rfl (py_sub rfl rfl (in64 ⟨by omega, by omega⟩)) ?_
  refine s_call (wn rfl) rfl rfl (pc_call Try.func108 rfl Try_nm108 rfl) Try_impl_inside (fun v2 w3 r2 => ?_)
  obtain ⟨e3, rfl⟩ := r2
  have H3 := H2.to e3
  refine s_val (wn rfl) rfl rfl (py_assign rfl) ?_
  refine s_nil ?_
  refine W_ret (hQ _ _ (fin1 Try.results129 rfl ?_))
  exact ⟨H3.ext, rfl⟩
theorem Try_spec_TicketFault {w : World} {s : Shape} {t : Ticket} (hb : t.Name.size ≤ maxLen) : Ret Try.prog 16 #[s.v, t.v] w fun v w' => Ext No w w' ∧ (v = .int .i64 (TicketFault s t)) := by
  refine ret_Q (vs := [s.v, t.v]) Try.func16 rfl Try.ntmps16 rfl (fun Q hQ hN => ?_)
  have H0 := Sep.start (w := w) (F := []) (by simp)
  refine W_seq ?_
  refine W_reg ?_
  refine s_box (wn rfl) rfl rfl H0 (fun b1 w1 e1 g1 H1 => ?_)
  refine s_box (wn rfl) rfl rfl H1 (fun b2 w2 e2 g2 H2 => ?_)
  refine s_val (wn rfl) rfl rfl (py_assign rfl) ?_
  refine s_nil ?_
  refine W_seq ?_
  refine W_seq ?_
  refine W_reg ?_
  refine s_val (wn rfl) rfl rfl (py_loadS Try.underlying28 rfl Try.sizeOf28 rfl rfl (At.whole (H2.box 0 rfl))) ?_
  refine s_call (wn rfl) rfl rfl (pc_call Try.func68 rfl Try_nm68 rfl) Try_spec_ShapeFault (fun v1 w3 r1 => ?_)
  obtain ⟨e3, rfl⟩ := r1
  have H3 := H2.to e3
  refine s_val (wn rfl) rfl rfl (py_assign rfl) ?_
  refine s_nil ?_
  refine W_seq ?_
  refine W_reg ?_
  refine s_val (wn rfl) rfl rfl (py_move rfl) (s_val (wn rfl) rfl rfl (py_neq rfl rfl) ?_)
  refine s_nil ?_
  refine W_ifd rfl (fun c1 => ?_) (fun c1 => ?_)
  · refine W_seq ?_
    refine W_reg ?_
    refine s_val (wn rfl) rfl rfl (py_move rfl) (s_val (wn rfl) rfl rfl (py_assign rfl) ?_)
    refine s_nil ?_
    refine W_ret (hQ _ _ (fin1 Try.results16 rfl ?_))
    refine ⟨H3.ext, congrArg (Value.int .i64) ?_⟩
    unfold TicketFault
    rw [if_pos c1]
  · refine W_skip ?_
    refine W_seq ?_
    refine W_seq ?_
    have hs := shapeFault_ok (s := s) (by omega)
    have sbd := shape_bd hs
    refine W_reg ?_
    refine s_val (wn rfl) rfl rfl (py_field Try.underlying30 rfl Try.sizeOf2 rfl rfl) (s_val (wn rfl) rfl rfl (py_load Try.underlying2 rfl rfl (cell_atL (H3.box 1 rfl) rfl)) ?_)
    refine s_call (wn rfl) rfl rfl (pc_call Try.func69 rfl Try_nm69 rfl) Try_spec_l1In (fun v2 w4 r2 => ?_)
    obtain ⟨e4, rfl⟩ := r2
    have H4 := H3.to e4
    refine s_val (wn rfl) rfl rfl (py_not rfl) ?_
    refine s_nil ?_
    refine W_if rfl (fun c2 => ?_) (fun c2 => ?_)
    · refine W_seq ?_
      refine W_reg ?_
      refine s_val (wn rfl) rfl rfl (py_assign rfl) ?_
      refine s_nil ?_
      refine W_ret (hQ _ _ (fin1 Try.results16 rfl ?_))
      refine ⟨H4.ext, congrArg (Value.int .i64) ?_⟩
      unfold TicketFault ticketFault
      rw [if_neg c1, if_pos (not_true c2)]
    · refine W_skip ?_
      refine W_seq ?_
      refine W_seq ?_
      refine W_reg ?_
      refine s_val (wn rfl) rfl rfl (py_field Try.underlying30 rfl Try.sizeOf2 rfl rfl) (s_val (wn rfl) rfl rfl (py_load Try.underlying2 rfl rfl (cell_atL (H4.box 1 rfl) rfl)) ?_)
      refine s_nil ?_
      refine W_block ?_
      refine W_seq ?_
      refine W_reg ?_
      refine s_val (wn rfl) rfl rfl (py_eql rfl rfl) (s_val (wn rfl) rfl rfl (py_assign rfl) ?_)
      refine s_nil ?_
      refine W_ifd rfl (fun c3 => ?_) (fun c3 => ?_)
      · refine W_seq ?_
        refine W_seq ?_
        refine W_reg ?_
        refine s_val (wn rfl) rfl rfl (py_field Try.underlying30 rfl Try.sizeOf9 rfl rfl) (s_val (wn rfl) rfl rfl (py_load Try.underlying9 rfl rfl (cell_atL (H4.box 1 rfl) rfl)) ?_)
        refine s_call (wn rfl) rfl rfl (pc_call Try.func70 rfl Try_nm70 rfl) (Try_spec_NameFault (by assumption)) (fun v3 w5 r3 => ?_)
        obtain ⟨e5, rfl⟩ := r3
        have H5 := H4.to e5
        refine s_val (wn rfl) rfl rfl (py_assign rfl) ?_
        refine s_nil ?_
        refine W_seq ?_
        refine W_reg ?_
        refine s_val (wn rfl) rfl rfl (py_move rfl) (s_val (wn rfl) rfl rfl (py_neq rfl rfl) ?_)
        refine s_nil ?_
        refine W_ifd rfl (fun c4 => ?_) (fun c4 => ?_)
        · refine W_seq ?_
          refine W_reg ?_
          refine s_val (wn rfl) rfl rfl (py_move rfl) (s_val (wn rfl) rfl rfl (py_assign rfl) ?_)
          refine s_nil ?_
          refine W_ret (hQ _ _ (fin1 Try.results16 rfl ?_))
          refine ⟨H5.ext, congrArg (Value.int .i64) ?_⟩
          unfold TicketFault ticketFault
          rw [if_neg c1, if_neg (by rw [not_false c2]; simp), if_pos c3, if_pos c4]
        · refine W_skip ?_
          refine W_seq ?_
          have nb := nameFault_ok (b := t.Name) (by omega)
          refine W_drw (S := Ext No _) [(0, true), (1, true), (2, true), (3, true), (4, true), (5, false), (6, false)] (by kernel_rfl) (by kernel_rfl) (by kernel_rfl) rfl (fun _ => Ext.refl.drawn _) (fun q1 => ?_)
          have H6 := H5.drawn q1
          refine d_val rfl (wn rfl) rfl rfl (fun x hx => py_field Try.underlying30 rfl Try.sizeOf2 rfl rfl) (d_val rfl (wn rfl) rfl rfl (fun x hx => py_load Try.underlying2 rfl rfl (cell_atL (hx.heap (H6.box 1 rfl)) rfl)) (d_val rfl (wn rfl) rfl rfl (fun x hx => py_loadS Try.underlying28 rfl Try.sizeOf28 rfl rfl (At.whole (hx.heap (H6.box 0 rfl)))) (d_val rfl (wn rfl) rfl rfl (fun x hx => py_field Try.underlying30 rfl Try.sizeOf9 rfl rfl) (d_val rfl (wn rfl) rfl rfl (fun x hx => py_load Try.underlying9 rfl rfl (cell_atL (hx.heap (H6.box 1 rfl)) rfl)) ?_))))
          refine d_call rfl (wn rfl) rfl rfl (pc_call Try.func71 rfl Try_nm71 rfl) (Try_spec_l4Home (by omega) (by omega)) (fun hS _ _ r _ => hS.trans r.1.no) (fun v4 w6 r4 => ?_)
          obtain ⟨e6, rfl⟩ := r4
          have H7 := H6.to e6
          refine d_end rfl (wn rfl) rfl rfl (py_neq rfl rfl) ?_
          refine d_nil ?_
          refine W_ifd rfl (fun c5 => ?_) (fun c5 => ?_)
          · refine W_seq ?_
            refine W_reg ?_
            refine s_val (wn rfl) rfl rfl (py_assign rfl) ?_
            refine s_nil ?_
            refine W_ret (hQ _ _ (fin1 Try.results16 rfl ?_))
            refine ⟨H7.ext, congrArg (Value.int .i64) ?_⟩
            unfold TicketFault ticketFault
            rw [if_neg c1, if_neg (by rw [not_false c2]; simp), if_pos c3, if_neg c4, if_pos c5]
          · refine W_skip ?_
            refine W_seq ?_
            refine W_reg ?_
            refine s_val (wn rfl) rfl rfl (py_assign rfl) ?_
            refine s_nil ?_
            refine W_ret (hQ _ _ (fin1 Try.results16 rfl ?_))
            refine ⟨H7.ext, congrArg (Value.int .i64) ?_⟩
            unfold TicketFault ticketFault
            rw [if_neg c1, if_neg (by rw [not_false c2]; simp), if_pos c3, if_neg c4, if_neg c5]
      · refine W_seq ?_
        refine W_reg ?_
        refine s_val (wn rfl) rfl rfl (py_eql rfl rfl) (s_val (wn rfl) rfl rfl (py_assign rfl) ?_)
        refine s_nil ?_
        refine W_ifd rfl (fun c6 => ?_) (fun c6 => ?_)
        · refine W_seq ?_
          refine W_seq ?_
          refine W_drw (S := Ext No _) [(0, true), (1, true), (2, true), (3, false), (4, true), (5, false), (6, false)] (by kernel_rfl) (by kernel_rfl) (by kernel_rfl) rfl (fun _ => Ext.refl.drawn _) (fun q2 => ?_)
          have H8 := H4.drawn q2
          refine d_val rfl (wn rfl) rfl rfl (fun x hx => py_field Try.underlying30 rfl Try.sizeOf2 rfl rfl) (d_val rfl (wn rfl) rfl rfl (fun x hx => py_load Try.underlying2 rfl rfl (cell_atL (hx.heap (H8.box 1 rfl)) rfl)) (d_val rfl (wn rfl) rfl rfl (fun x hx => py_loadS Try.underlying28 rfl Try.sizeOf28 rfl rfl (At.whole (hx.heap (H8.box 0 rfl)))) ?_))
          refine d_call rfl (wn rfl) rfl rfl (pc_call Try.func72 rfl Try_nm72 rfl) (Try_spec_l5All (by assumption)) (fun hS _ _ r _ => hS.trans r.1.no) (fun v5 w7 r5 => ?_)
          obtain ⟨e7, rfl⟩ := r5
          have H9 := H8.to e7
          refine d_val rfl (wn rfl) rfl rfl (fun x hx => py_sub rfl rfl (in64 ⟨by omega, by omega⟩)) ?_
          refine d_call rfl (wn rfl) rfl rfl (pc_call Try.func69 rfl Try_nm69 rfl) Try_spec_l1In (fun hS _ _ r _ => hS.trans r.1.no) (fun v6 w8 r6 => ?_)
          obtain ⟨e8, rfl⟩ := r6
          have H10 := H9.to e8
          refine d_end rfl (wn rfl) rfl rfl (py_not rfl) ?_
          refine d_nil ?_
          refine W_if rfl (fun c7 => ?_) (fun c7 => ?_)
          · refine W_seq ?_
            refine W_reg ?_
            refine s_val (wn rfl) rfl rfl (py_assign rfl) ?_
            refine s_nil ?_
            refine W_ret (hQ _ _ (fin1 Try.results16 rfl ?_))
            refine ⟨H10.ext, congrArg (Value.int .i64) ?_⟩
            unfold TicketFault ticketFault
            rw [if_neg c1, if_neg (by rw [not_false c2]; simp), if_neg c3, if_pos c6, if_pos (not_true c7)]
          · refine W_skip ?_
            refine W_seq ?_
            refine W_reg ?_
            refine s_val (wn rfl) rfl rfl (py_field Try.underlying30 rfl Try.sizeOf9 rfl rfl) (s_val (wn rfl) rfl rfl (py_load Try.underlying9 rfl rfl (cell_atL (H10.box 1 rfl) rfl)) (s_val (wn rfl) rfl rfl (py_sneq rfl rfl) ?_))
            refine s_nil ?_
            refine W_if rfl (fun c8 => ?_) (fun c8 => ?_)
            · refine W_seq ?_
              refine W_reg ?_
              refine s_val (wn rfl) rfl rfl (py_assign rfl) ?_
              refine s_nil ?_
              refine W_ret (hQ _ _ (fin1 Try.results16 rfl ?_))
              refine ⟨H10.ext, congrArg (Value.int .i64) ?_⟩
              unfold TicketFault ticketFault
              rw [str_beq] at c8
              rw [if_neg c1, if_neg (by rw [not_false c2]; simp), if_neg c3, if_pos c6, if_neg (by rw [not_false c7]; simp), if_pos (fun e => by simp [str_empty.2 e] at c8)]
            · refine W_skip ?_
              refine W_seq ?_
              refine W_reg ?_
              refine s_val (wn rfl) rfl rfl (py_assign rfl) ?_
              refine s_nil ?_
              refine W_ret (hQ _ _ (fin1 Try.results16 rfl ?_))
              refine ⟨H10.ext, congrArg (Value.int .i64) ?_⟩
              unfold TicketFault ticketFault
              rw [str_beq] at c8
              rw [if_neg c1, if_neg (by rw [not_false c2]; simp), if_neg c3, if_pos c6, if_neg (by rw [not_false c7]; simp), if_neg (fun e => e (str_empty.1 (by simpa using c8)))]
        · refine W_seq ?_
          refine W_reg ?_
          refine s_val (wn rfl) rfl rfl (py_assign rfl) ?_
          refine s_nil ?_
          refine W_ret (hQ _ _ (fin1 Try.results16 rfl ?_))
          refine ⟨H4.ext, congrArg (Value.int .i64) ?_⟩
          unfold TicketFault ticketFault
          rw [if_neg c1, if_neg (by rw [not_false c2]; simp), if_neg c3, if_neg c6]
theorem Try_impl_ticketFault {w : World} {s : Shape} {t : Ticket} (hs : s.ok = true) (hb : t.Name.size ≤ maxLen) : Ret Try.prog 74 #[s.v, t.v] w fun v w' => Ext No w w' ∧ (v = .int .i64 (ticketFault s t)) := by
  have sbd := shape_bd hs
  refine ret_Q (vs := [s.v, t.v]) Try.func74 rfl Try.ntmps74 rfl (fun Q hQ hN => ?_)
  have H0 := Sep.start (w := w) (F := []) (by simp)
  refine W_seq ?_
  refine W_reg ?_
  refine s_box (wn rfl) rfl rfl H0 (fun b1 w1 e1 g1 H1 => ?_)
  refine s_box (wn rfl) rfl rfl H1 (fun b2 w2 e2 g2 H2 => ?_)
  refine s_val (wn rfl) rfl rfl (py_assign rfl) ?_
  refine s_nil ?_
  refine W_seq ?_
  refine W_block ?_
  refine W_seq ?_
  refine W_reg ?_
  refine s_val (wn rfl) rfl rfl (py_field Try.underlying30 rfl Try.sizeOf2 rfl rfl) (s_val (wn rfl) rfl rfl (py_load Try.underlying2 rfl rfl (cell_atL (H2.box 1 rfl) rfl)) ?_)
  refine s_call (wn rfl) rfl rfl (pc_call Try.func108 rfl Try_nm108 rfl) Try_impl_inside (fun v1 w3 r1 => ?_)
  obtain ⟨e3, rfl⟩ := r1
  have H3 := H2.to e3
  refine s_val (wn rfl) rfl rfl (py_not rfl) (s_val (wn rfl) rfl rfl (py_assign rfl) ?_)
  refine s_nil ?_
  refine W_if rfl (fun c1 => ?_) (fun c1 => ?_)
  · refine W_seq ?_
    refine W_reg ?_
    refine s_val (wn rfl) rfl rfl (py_assign rfl) ?_
    refine s_nil ?_
    refine W_ret (hQ _ _ (fin1 Try.results74 rfl ?_))
    refine ⟨H3.ext, congrArg (Value.int .i64) ?_⟩
    unfold ticketFault
    clear hQ hN
    by_cases h1 : t.Kind = 1 <;> by_cases h2 : t.Kind = 2 <;> simp_all [toList_nil_iff_emptyBytes]
  · refine W_seq ?_
    refine W_reg ?_
    refine s_val (wn rfl) rfl rfl (py_field Try.underlying30 rfl Try.sizeOf2 rfl rfl) (s_val (wn rfl) rfl rfl (py_load Try.underlying2 rfl rfl (cell_atL (H3.box 1 rfl) rfl)) (s_val (wn rfl) rfl rfl (py_neq rfl rfl) (s_val (wn rfl) rfl rfl (py_move rfl) ?_)))
    refine s_grp 3 (j := 3) (want := true) (t := 18) rfl rfl rfl rfl (fun hg1 kk1 => s_val (wgE rfl rfl rfl hg1) rfl rfl (py_field Try.underlying30 rfl Try.sizeOf2 rfl rfl) (s_val (wgE rfl rfl rfl hg1) rfl rfl (py_load Try.underlying2 rfl rfl (cell_atL (H3.box 1 rfl) rfl)) (s_val (wgE rfl rfl rfl hg1) rfl rfl (py_neq rfl rfl) (kk1 _ _ (kx rfl (kx rfl (kx rfl k0))) rfl Ext.refl)))) (fun w4 e4 => ?_)
    have H4 := H3.to e4
    refine s_val (wn rfl) rfl rfl (py_band rfl rfl) (s_val (wn rfl) rfl rfl (py_assign rfl) ?_)
    refine s_nil ?_
    refine W_if rfl (fun c2 => ?_) (fun c2 => ?_)
    · refine W_seq ?_
      refine W_reg ?_
      refine s_val (wn rfl) rfl rfl (py_assign rfl) ?_
      refine s_nil ?_
      refine W_ret (hQ _ _ (fin1 Try.results74 rfl ?_))
      refine ⟨H4.ext, congrArg (Value.int .i64) ?_⟩
      unfold ticketFault
      clear hQ hN
      by_cases h1 : t.Kind = 1 <;> by_cases h2 : t.Kind = 2 <;> simp_all [toList_nil_iff_emptyBytes]
    · refine W_seq ?_
      refine W_reg ?_
      refine s_val (wn rfl) rfl rfl (py_field Try.underlying30 rfl Try.sizeOf2 rfl rfl) (s_val (wn rfl) rfl rfl (py_load Try.underlying2 rfl rfl (cell_atL (H4.box 1 rfl) rfl)) (s_val (wn rfl) rfl rfl (py_eql rfl rfl) (s_val (wn rfl) rfl rfl (py_move rfl) ?_)))
      refine s_grp 5 (j := 3) (want := true) (t := 29) rfl rfl rfl rfl (fun hg2 kk2 => s_val (wgE rfl rfl rfl hg2) rfl rfl (py_loadS Try.underlying28 rfl Try.sizeOf28 rfl rfl (At.whole (H4.box 0 rfl))) (s_val (wgE rfl rfl rfl hg2) rfl rfl (py_field Try.underlying30 rfl Try.sizeOf2 rfl rfl) (s_val (wgE rfl rfl rfl hg2) rfl rfl (py_load Try.underlying2 rfl rfl (cell_atL (H4.box 1 rfl) rfl)) (s_callv (wgE rfl rfl rfl hg2) rfl rfl (pc_call Try.func129 rfl Try_nm129 rfl) (Try_impl_Shape_isGroup (by assumption)) (fun w6 e6 => s_val (wgE rfl rfl rfl hg2) rfl rfl (py_not rfl) (kk2 _ _ (kx rfl (kx rfl (kx rfl (kx rfl (kx rfl k0))))) rfl (Ext.refl.trans e6))))))) (fun w5 e5 => ?_)
      have H5 := H4.to e5
      refine s_val (wn rfl) rfl rfl (py_band rfl rfl) (s_val (wn rfl) rfl rfl (py_assign rfl) ?_)
      refine s_nil ?_
      refine W_if rfl (fun c3 => ?_) (fun c3 => ?_)
      · refine W_seq ?_
        refine W_reg ?_
        refine s_val (wn rfl) rfl rfl (py_assign rfl) ?_
        refine s_nil ?_
        refine W_ret (hQ _ _ (fin1 Try.results74 rfl ?_))
        refine ⟨H5.ext, congrArg (Value.int .i64) ?_⟩
        unfold ticketFault
        clear hQ hN
        by_cases h1 : t.Kind = 1 <;> by_cases h2 : t.Kind = 2 <;> simp_all [toList_nil_iff_emptyBytes]
      · refine W_seq ?_
        refine W_reg ?_
        refine s_val (wn rfl) rfl rfl (py_field Try.underlying30 rfl Try.sizeOf2 rfl rfl) (s_val (wn rfl) rfl rfl (py_load Try.underlying2 rfl rfl (cell_atL (H5.box 1 rfl) rfl)) (s_val (wn rfl) rfl rfl (py_eql rfl rfl) (s_val (wn rfl) rfl rfl (py_move rfl) ?_)))
        refine s_grp 3 (j := 3) (want := true) (t := 38) rfl rfl rfl rfl (fun hg3 kk3 => s_val (wgE rfl rfl rfl hg3) rfl rfl (py_field Try.underlying30 rfl Try.sizeOf9 rfl rfl) (s_val (wgE rfl rfl rfl hg3) rfl rfl (py_load Try.underlying9 rfl rfl (cell_atL (H5.box 1 rfl) rfl)) (s_val (wgE rfl rfl rfl hg3) rfl rfl (py_sneq rfl rfl) (kk3 _ _ (kx rfl (kx rfl (kx rfl k0))) rfl Ext.refl)))) (fun w7 e7 => ?_)
        have H6 := H5.to e7
        refine s_val (wn rfl) rfl rfl (py_band rfl rfl) (s_val (wn rfl) rfl rfl (py_assign rfl) ?_)
        refine s_nil ?_
        refine W_if rfl (fun c4 => ?_) (fun c4 => ?_)
        · refine W_seq ?_
          refine W_reg ?_
          refine s_val (wn rfl) rfl rfl (py_assign rfl) ?_
          refine s_nil ?_
          refine W_ret (hQ _ _ (fin1 Try.results74 rfl ?_))
          refine ⟨H6.ext, congrArg (Value.int .i64) ?_⟩
          unfold ticketFault
          clear hQ hN
          by_cases h1 : t.Kind = 1 <;> by_cases h2 : t.Kind = 2 <;> simp_all [toList_nil_iff_emptyBytes]
        · refine W_seq ?_
          refine W_reg ?_
          refine s_val (wn rfl) rfl rfl (py_field Try.underlying30 rfl Try.sizeOf2 rfl rfl) (s_val (wn rfl) rfl rfl (py_load Try.underlying2 rfl rfl (cell_atL (H6.box 1 rfl) rfl)) (s_val (wn rfl) rfl rfl (py_eql rfl rfl) (s_val (wn rfl) rfl rfl (py_assign rfl) ?_)))
          refine s_nil ?_
          refine W_ifd rfl (fun c5 => ?_) (fun c5 => ?_)
          · refine W_seq ?_
            refine W_reg ?_
            refine s_val (wn rfl) rfl rfl (py_assign rfl) ?_
            refine s_nil ?_
            refine W_ret (hQ _ _ (fin1 Try.results74 rfl ?_))
            refine ⟨H6.ext, congrArg (Value.int .i64) ?_⟩
            unfold ticketFault
            clear hQ hN
            by_cases h1 : t.Kind = 1 <;> by_cases h2 : t.Kind = 2 <;> simp_all [toList_nil_iff_emptyBytes]
          · refine W_skip ?_
            refine W_seq ?_
            refine W_seq ?_
            refine W_reg ?_
            refine s_val (wn rfl) rfl rfl (py_field Try.underlying30 rfl Try.sizeOf9 rfl rfl) (s_val (wn rfl) rfl rfl (py_load Try.underlying9 rfl rfl (cell_atL (H6.box 1 rfl) rfl)) ?_)
            refine s_call (wn rfl) rfl rfl (pc_call Try.func130 rfl Try_nm130 rfl) (Try_impl_NameFault (by assumption)) (fun v2 w8 r2 => ?_)
            obtain ⟨e8, rfl⟩ := r2
            have H7 := H6.to e8
            refine s_val (wn rfl) rfl rfl (py_assign rfl) ?_
            refine s_nil ?_
            refine W_seq ?_
            refine W_reg ?_
            refine s_val (wn rfl) rfl rfl (py_move rfl) (s_val (wn rfl) rfl rfl (py_neq rfl rfl) ?_)
            refine s_nil ?_
            refine W_ifd rfl (fun c6 => ?_) (fun c6 => ?_)
            · refine W_seq ?_
              refine W_reg ?_
              refine s_val (wn rfl) rfl rfl (py_move rfl) (s_val (wn rfl) rfl rfl (py_assign rfl) ?_)
              refine s_nil ?_
              refine W_ret (hQ _ _ (fin1 Try.results74 rfl ?_))
              refine ⟨H7.ext, congrArg (Value.int .i64) ?_⟩
              unfold ticketFault
              clear hQ hN
              by_cases h1 : t.Kind = 1 <;> by_cases h2 : t.Kind = 2 <;> simp_all [toList_nil_iff_emptyBytes]
            · refine W_skip ?_
              refine W_seq ?_
              refine W_seq ?_
              have nb := nameFault_ok (b := t.Name) (by omega)
              refine W_drw (S := Ext No _) [(0, true), (1, true), (2, true), (3, true), (4, true), (5, false), (6, false)] (by kernel_rfl) (by kernel_rfl) (by kernel_rfl) rfl (fun _ => Ext.refl.drawn _) (fun q1 => ?_)
              have H8 := H7.drawn q1
              refine d_val rfl (wn rfl) rfl rfl (fun x hx => py_field Try.underlying30 rfl Try.sizeOf2 rfl rfl) (d_val rfl (wn rfl) rfl rfl (fun x hx => py_load Try.underlying2 rfl rfl (cell_atL (hx.heap (H8.box 1 rfl)) rfl)) (d_val rfl (wn rfl) rfl rfl (fun x hx => py_loadS Try.underlying28 rfl Try.sizeOf28 rfl rfl (At.whole (hx.heap (H8.box 0 rfl)))) (d_val rfl (wn rfl) rfl rfl (fun x hx => py_field Try.underlying30 rfl Try.sizeOf9 rfl rfl) (d_val rfl (wn rfl) rfl rfl (fun x hx => py_load Try.underlying9 rfl rfl (cell_atL (hx.heap (H8.box 1 rfl)) rfl)) ?_))))
              refine d_call rfl (wn rfl) rfl rfl (pc_call Try.func131 rfl Try_nm131 rfl) (Try_impl_Shape_home (by omega) (by omega)) (fun hS _ _ r _ => hS.trans r.1.no) (fun v3 w9 r3 => ?_)
              obtain ⟨e9, rfl⟩ := r3
              have H9 := H8.to e9
              refine d_end rfl (wn rfl) rfl rfl (py_neq rfl rfl) ?_
              refine d_nil ?_
              refine W_ifd rfl (fun c7 => ?_) (fun c7 => ?_)
              · refine W_seq ?_
                refine W_reg ?_
                refine s_val (wn rfl) rfl rfl (py_assign rfl) ?_
                refine s_nil ?_
                refine W_ret (hQ _ _ (fin1 Try.results74 rfl ?_))
                refine ⟨H9.ext, congrArg (Value.int .i64) ?_⟩
                unfold ticketFault
                clear hQ hN
                by_cases h1 : t.Kind = 1 <;> by_cases h2 : t.Kind = 2 <;> simp_all [toList_nil_iff_emptyBytes]
              · refine W_skip ?_
                refine W_seq ?_
                refine W_reg ?_
                refine s_val (wn rfl) rfl rfl (py_assign rfl) ?_
                refine s_nil ?_
                refine W_ret (hQ _ _ (fin1 Try.results74 rfl ?_))
                refine ⟨H9.ext, congrArg (Value.int .i64) ?_⟩
                unfold ticketFault
                clear hQ hN
                by_cases h1 : t.Kind = 1 <;> by_cases h2 : t.Kind = 2 <;> simp_all [toList_nil_iff_emptyBytes]
theorem Try_impl_TicketFault {w : World} {s : Shape} {t : Ticket} (hb : t.Name.size ≤ maxLen) : Ret Try.prog 19 #[s.v, t.v] w fun v w' => Ext No w w' ∧ (v = .int .i64 (TicketFault s t)) := by
  refine ret_Q (vs := [s.v, t.v]) Try.func19 rfl Try.ntmps19 rfl (fun Q hQ hN => ?_)
  have H0 := Sep.start (w := w) (F := []) (by simp)
  refine W_seq ?_
  refine W_reg ?_
  refine s_box (wn rfl) rfl rfl H0 (fun b1 w1 e1 g1 H1 => ?_)
  refine s_box (wn rfl) rfl rfl H1 (fun b2 w2 e2 g2 H2 => ?_)
  refine s_val (wn rfl) rfl rfl (py_assign rfl) ?_
  refine s_nil ?_
  refine W_seq ?_
  refine W_seq ?_
  refine W_reg ?_
  refine s_val (wn rfl) rfl rfl (py_loadS Try.underlying28 rfl Try.sizeOf28 rfl rfl (At.whole (H2.box 0 rfl))) ?_
  refine s_call (wn rfl) rfl rfl (pc_call Try.func73 rfl Try_nm73 rfl) Try_impl_ShapeFault (fun v1 w3 r1 => ?_)
  obtain ⟨e3, rfl⟩ := r1
  have H3 := H2.to e3
  refine s_val (wn rfl) rfl rfl (py_assign rfl) ?_
  refine s_nil ?_
  refine W_seq ?_
  refine W_reg ?_
  refine s_val (wn rfl) rfl rfl (py_move rfl) (s_val (wn rfl) rfl rfl (py_neq rfl rfl) ?_)
  refine s_nil ?_
  refine W_ifd rfl (fun c1 => ?_) (fun c1 => ?_)
  · refine W_seq ?_
    refine W_reg ?_
    refine s_val (wn rfl) rfl rfl (py_move rfl) (s_val (wn rfl) rfl rfl (py_assign rfl) ?_)
    refine s_nil ?_
    refine W_ret (hQ _ _ (fin1 Try.results19 rfl ?_))
    refine ⟨H3.ext, congrArg (Value.int .i64) ?_⟩
    unfold TicketFault
    rw [if_pos c1]
  · refine W_skip ?_
    refine W_seq ?_
    have hs := shapeFault_ok (s := s) (by omega)
    refine W_reg ?_
    refine s_val (wn rfl) rfl rfl (py_loadS Try.underlying28 rfl Try.sizeOf28 rfl rfl (At.whole (H3.box 0 rfl))) (s_val (wn rfl) rfl rfl (py_loadS Try.underlying30 rfl Try.sizeOf30 rfl rfl (At.whole (H3.box 1 rfl))) ?_)
    refine s_call (wn rfl) rfl rfl (pc_call Try.func74 rfl Try_nm74 rfl) (Try_impl_ticketFault (by assumption) (by assumption)) (fun v2 w4 r2 => ?_)
    obtain ⟨e4, rfl⟩ := r2
    have H4 := H3.to e4
    refine s_val (wn rfl) rfl rfl (py_assign rfl) ?_
    refine s_nil ?_
    refine W_ret (hQ _ _ (fin1 Try.results19 rfl ?_))
    refine ⟨H4.ext, congrArg (Value.int .i64) ?_⟩
    unfold TicketFault
    rw [if_neg c1]
theorem Try_laws_szTicket {w : World} {t : Ticket} {l : Int} (hb : t.Name.size ≤ maxLen) (hl : -1 ≤ l ∧ l ≤ 1048576) : Ret Try.prog 15 #[t.v, .int .i64 l] w fun v w' => Ext No w w' ∧ (v = .int .i64 (if l - t.Name.size < 0 then -1 else l - t.Name.size)) := by
  unfold maxLen at hb
  refine ret_Q (vs := [t.v, .int .i64 l]) Try.func15 rfl Try.ntmps15 rfl (fun Q hQ hN => ?_)
  have H0 := Sep.start (w := w) (F := []) (by simp)
  refine W_seq ?_
  refine W_reg ?_
  refine s_box (wn rfl) rfl rfl H0 (fun b1 w1 e1 g1 H1 => ?_)
  refine s_val (wn rfl) rfl rfl (py_assign rfl) ?_
  refine s_nil ?_
  refine W_seq ?_
  refine W_reg ?_
  refine s_val (wn rfl) rfl rfl (py_move rfl) (s_val (wn rfl) rfl rfl (py_field Try.underlying25 rfl Try.sizeOf9 rfl rfl) (s_val (wn rfl) rfl rfl (py_load Try.underlying9 rfl rfl (cell_atL (H1.box 0 rfl) rfl)) (s_val (wn rfl) rfl rfl (py_slen Try.underlying9 rfl) (s_val (wn rfl) rfl rfl (py_sub rfl rfl (in64 ⟨by omega, by omega⟩)) (s_val (wn rfl) rfl rfl (py_assign rfl) ?_)))))
  refine s_nil ?_
  refine W_seq ?_
  refine W_seq ?_
  refine W_reg ?_
  refine s_val (wn rfl) rfl rfl (py_move rfl) (s_val (wn rfl) rfl rfl (py_lss rfl rfl) ?_)
  refine s_nil ?_
  refine W_ifd rfl (fun c1 => ?_) (fun c1 => ?_)
  · refine W_seq ?_
    refine W_reg ?_
    refine s_val (wn rfl) rfl rfl (py_assign rfl) ?_
    refine s_nil ?_
    refine W_ret (hQ _ _ (fin1 Try.results15 rfl ?_))
    exact ⟨H1.ext, by rw [if_pos c1]⟩
  · refine W_skip ?_
    refine W_seq ?_
    refine W_reg ?_
    refine s_val (wn rfl) rfl rfl (py_move rfl) (s_val (wn rfl) rfl rfl (py_assign rfl) ?_)
    refine s_nil ?_
    refine W_ret (hQ _ _ (fin1 Try.results15 rfl ?_))
    exact ⟨H1.ext, by rw [if_neg c1]⟩
theorem Try_laws_toShape {w : World} {s : Shape}  : Ret Try.prog 17 #[s.v] w fun v w' => Ext No w w' ∧ (v = s.v) := by
  refine ret_Q (vs := [s.v]) Try.func17 rfl Try.ntmps17 rfl (fun Q hQ hN => ?_)
  have H0 := Sep.start (w := w) (F := []) (by simp)
  refine W_seq ?_
  refine W_reg ?_
  refine s_box (wn rfl) rfl rfl H0 (fun b1 w1 e1 g1 H1 => ?_)
  refine s_var (wn rfl) rfl Try.zeroValue28 H1 (fun b2 w2 e2 g2 H2 => ?_)
  refine s_nil ?_
  refine W_seq ?_
  refine W_reg ?_
  refine s_var (wn rfl) rfl Try.zeroValue28 H2 (fun b3 w3 e3 g3 H3 => ?_)
  refine s_nil ?_
  refine W_seq ?_
  refine W_reg ?_
  refine s_val (wn rfl) rfl rfl (py_field Try.underlying23 rfl Try.sizeOf2 rfl rfl) (s_val (wn rfl) rfl rfl (py_load Try.underlying2 rfl rfl (cell_atL (H3.box 0 rfl) rfl)) (s_val (wn rfl) rfl rfl (py_field Try.underlying28 rfl Try.sizeOf2 rfl rfl) ?_))
  refine s_sto (wn rfl) Try.sizeOf2 rfl rfl rfl H3 2 rfl rfl (fun w4 e4 H4 => ?_)
  dsimp only [List.nil_append, List.cons_append, List.set_cons_zero, List.set_cons_succ, layL] at H4
  refine s_nil ?_
  refine W_seq ?_
  refine W_reg ?_
  refine s_val (wn rfl) rfl rfl (py_field Try.underlying23 rfl Try.sizeOf2 rfl rfl) (s_val (wn rfl) rfl rfl (py_load Try.underlying2 rfl rfl (cell_atL (H4.box 0 rfl) rfl)) (s_val (wn rfl) rfl rfl (py_field Try.underlying28 rfl Try.sizeOf2 rfl rfl) ?_))
  refine s_sto (wn rfl) Try.sizeOf2 rfl rfl rfl H4 2 rfl rfl (fun w5 e5 H5 => ?_)
  dsimp only [List.nil_append, List.cons_append, List.set_cons_zero, List.set_cons_succ, layL] at H5
  refine s_nil ?_
  refine W_seq ?_
  refine W_reg ?_
  refine s_val (wn rfl) rfl rfl (py_field Try.underlying23 rfl Try.sizeOf2 rfl rfl) (s_val (wn rfl) rfl rfl (py_load Try.underlying2 rfl rfl (cell_atL (H5.box 0 rfl) rfl)) (s_val (wn rfl) rfl rfl (py_field Try.underlying28 rfl Try.sizeOf2 rfl rfl) ?_))
  refine s_sto (wn rfl) Try.sizeOf2 rfl rfl rfl H5 2 rfl rfl (fun w6 e6 H6 => ?_)
  dsimp only [List.nil_append, List.cons_append, List.set_cons_zero, List.set_cons_succ, layL] at H6
  refine s_nil ?_
  refine W_seq ?_
  refine W_reg ?_
  refine s_val (wn rfl) rfl rfl (py_field Try.underlying23 rfl Try.sizeOf2 rfl rfl) (s_val (wn rfl) rfl rfl (py_load Try.underlying2 rfl rfl (cell_atL (H6.box 0 rfl) rfl)) (s_val (wn rfl) rfl rfl (py_field Try.underlying28 rfl Try.sizeOf2 rfl rfl) ?_))
  refine s_sto (wn rfl) Try.sizeOf2 rfl rfl rfl H6 2 rfl rfl (fun w7 e7 H7 => ?_)
  dsimp only [List.nil_append, List.cons_append, List.set_cons_zero, List.set_cons_succ, layL] at H7
  refine s_nil ?_
  refine W_seq ?_
  refine W_reg ?_
  refine s_val (wn rfl) rfl rfl (py_field Try.underlying23 rfl Try.sizeOf2 rfl rfl) (s_val (wn rfl) rfl rfl (py_load Try.underlying2 rfl rfl (cell_atL (H7.box 0 rfl) rfl)) (s_val (wn rfl) rfl rfl (py_field Try.underlying28 rfl Try.sizeOf2 rfl rfl) ?_))
  refine s_sto (wn rfl) Try.sizeOf2 rfl rfl rfl H7 2 rfl rfl (fun w8 e8 H8 => ?_)
  dsimp only [List.nil_append, List.cons_append, List.set_cons_zero, List.set_cons_succ, layL] at H8
  refine s_nil ?_
  refine W_seq ?_
  refine W_reg ?_
  refine s_val (wn rfl) rfl rfl (py_field Try.underlying23 rfl Try.sizeOf2 rfl rfl) (s_val (wn rfl) rfl rfl (py_load Try.underlying2 rfl rfl (cell_atL (H8.box 0 rfl) rfl)) (s_val (wn rfl) rfl rfl (py_field Try.underlying28 rfl Try.sizeOf2 rfl rfl) ?_))
  refine s_sto (wn rfl) Try.sizeOf2 rfl rfl rfl H8 2 rfl rfl (fun w9 e9 H9 => ?_)
  dsimp only [List.nil_append, List.cons_append, List.set_cons_zero, List.set_cons_succ, layL] at H9
  refine s_nil ?_
  refine W_seq ?_
  refine W_reg ?_
  refine s_val (wn rfl) rfl rfl (py_field Try.underlying23 rfl Try.sizeOf2 rfl rfl) (s_val (wn rfl) rfl rfl (py_load Try.underlying2 rfl rfl (cell_atL (H9.box 0 rfl) rfl)) (s_val (wn rfl) rfl rfl (py_field Try.underlying28 rfl Try.sizeOf2 rfl rfl) ?_))
  refine s_sto (wn rfl) Try.sizeOf2 rfl rfl rfl H9 2 rfl rfl (fun w10 e10 H10 => ?_)
  dsimp only [List.nil_append, List.cons_append, List.set_cons_zero, List.set_cons_succ, layL] at H10
  refine s_nil ?_
  refine W_seq ?_
  refine W_reg ?_
  refine s_val (wn rfl) rfl rfl (py_field Try.underlying23 rfl Try.sizeOf2 rfl rfl) (s_val (wn rfl) rfl rfl (py_load Try.underlying2 rfl rfl (cell_atL (H10.box 0 rfl) rfl)) (s_val (wn rfl) rfl rfl (py_field Try.underlying28 rfl Try.sizeOf2 rfl rfl) ?_))
  refine s_sto (wn rfl) Try.sizeOf2 rfl rfl rfl H10 2 rfl rfl (fun w11 e11 H11 => ?_)
  dsimp only [List.nil_append, List.cons_append, List.set_cons_zero, List.set_cons_succ, layL] at H11
  refine s_nil ?_
  refine W_seq ?_
  refine W_reg ?_
  refine s_val (wn rfl) rfl rfl (py_field Try.underlying23 rfl Try.sizeOf2 rfl rfl) (s_val (wn rfl) rfl rfl (py_load Try.underlying2 rfl rfl (cell_atL (H11.box 0 rfl) rfl)) (s_val (wn rfl) rfl rfl (py_field Try.underlying28 rfl Try.sizeOf2 rfl rfl) ?_))
  refine s_sto (wn rfl) Try.sizeOf2 rfl rfl rfl H11 2 rfl rfl (fun w12 e12 H12 => ?_)
  dsimp only [List.nil_append, List.cons_append, List.set_cons_zero, List.set_cons_succ, layL] at H12
  refine s_nil ?_
  refine W_seq ?_
  refine W_reg ?_
  refine s_val (wn rfl) rfl rfl (py_loadS Try.underlying28 rfl Try.sizeOf28 rfl rfl (At.whole (H12.box 2 rfl))) ?_
  refine s_stoS (wn rfl) Try.sizeOf28 rfl rfl rfl rfl H12 1 rfl rfl (fun w13 e13 H13 => ?_)
  dsimp only [List.nil_append, List.cons_append, List.set_cons_zero, List.set_cons_succ, layL] at H13
  refine s_nil ?_
  refine W_ret (hQ _ _ (finC Try.results17 rfl (run_loadVarS Try.underlying28 rfl Try.sizeOf28 rfl (At.whole (H13.box 1 rfl))) ?_))
  exact ⟨H13.ext, rfl⟩
theorem Try_laws_toTicket {w : World} {t : Ticket}  : Ret Try.prog 18 #[t.v] w fun v w' => Ext No w w' ∧ (v = t.v) := by
  refine ret_Q (vs := [t.v]) Try.func18 rfl Try.ntmps18 rfl (fun Q hQ hN => ?_)
  have H0 := Sep.start (w := w) (F := []) (by simp)
  refine W_seq ?_
  refine W_reg ?_
  refine s_box (wn rfl) rfl rfl H0 (fun b1 w1 e1 g1 H1 => ?_)
  refine s_var (wn rfl) rfl Try.zeroValue30 H1 (fun b2 w2 e2 g2 H2 => ?_)
  refine s_nil ?_
  refine W_seq ?_
  refine W_reg ?_
  refine s_var (wn rfl) rfl Try.zeroValue30 H2 (fun b3 w3 e3 g3 H3 => ?_)
  refine s_nil ?_
  refine W_seq ?_
  refine W_reg ?_
  refine s_val (wn rfl) rfl rfl (py_field Try.underlying25 rfl Try.sizeOf2 rfl rfl) (s_val (wn rfl) rfl rfl (py_load Try.underlying2 rfl rfl (cell_atL (H3.box 0 rfl) rfl)) (s_val (wn rfl) rfl rfl (py_field Try.underlying30 rfl Try.sizeOf2 rfl rfl) ?_))
  refine s_sto (wn rfl) Try.sizeOf2 rfl rfl rfl H3 2 rfl rfl (fun w4 e4 H4 => ?_)
  dsimp only [List.nil_append, List.cons_append, List.set_cons_zero, List.set_cons_succ, layL] at H4
  refine s_nil ?_
  refine W_seq ?_
  refine W_reg ?_
  refine s_val (wn rfl) rfl rfl (py_field Try.underlying25 rfl Try.sizeOf2 rfl rfl) (s_val (wn rfl) rfl rfl (py_load Try.underlying2 rfl rfl (cell_atL (H4.box 0 rfl) rfl)) (s_val (wn rfl) rfl rfl (py_field Try.underlying30 rfl Try.sizeOf2 rfl rfl) ?_))
  refine s_sto (wn rfl) Try.sizeOf2 rfl rfl rfl H4 2 rfl rfl (fun w5 e5 H5 => ?_)
  dsimp only [List.nil_append, List.cons_append, List.set_cons_zero, List.set_cons_succ, layL] at H5
  refine s_nil ?_
  refine W_seq ?_
  refine W_reg ?_
  refine s_val (wn rfl) rfl rfl (py_field Try.underlying25 rfl Try.sizeOf9 rfl rfl) (s_val (wn rfl) rfl rfl (py_load Try.underlying9 rfl rfl (cell_atL (H5.box 0 rfl) rfl)) (s_val (wn rfl) rfl rfl (py_field Try.underlying30 rfl Try.sizeOf9 rfl rfl) ?_))
  refine s_sto (wn rfl) Try.sizeOf9 rfl rfl rfl H5 2 rfl rfl (fun w6 e6 H6 => ?_)
  dsimp only [List.nil_append, List.cons_append, List.set_cons_zero, List.set_cons_succ, layL] at H6
  refine s_nil ?_
  refine W_seq ?_
  refine W_reg ?_
  refine s_val (wn rfl) rfl rfl (py_field Try.underlying25 rfl Try.sizeOf2 rfl rfl) (s_val (wn rfl) rfl rfl (py_load Try.underlying2 rfl rfl (cell_atL (H6.box 0 rfl) rfl)) (s_val (wn rfl) rfl rfl (py_field Try.underlying30 rfl Try.sizeOf2 rfl rfl) ?_))
  refine s_sto (wn rfl) Try.sizeOf2 rfl rfl rfl H6 2 rfl rfl (fun w7 e7 H7 => ?_)
  dsimp only [List.nil_append, List.cons_append, List.set_cons_zero, List.set_cons_succ, layL] at H7
  refine s_nil ?_
  refine W_seq ?_
  refine W_reg ?_
  refine s_val (wn rfl) rfl rfl (py_loadS Try.underlying30 rfl Try.sizeOf30 rfl rfl (At.whole (H7.box 2 rfl))) ?_
  refine s_stoS (wn rfl) Try.sizeOf30 rfl rfl rfl rfl H7 1 rfl rfl (fun w8 e8 H8 => ?_)
  dsimp only [List.nil_append, List.cons_append, List.set_cons_zero, List.set_cons_succ, layL] at H8
  refine s_nil ?_
  refine W_ret (hQ _ _ (finC Try.results18 rfl (run_loadVarS Try.underlying30 rfl Try.sizeOf30 rfl (At.whole (H8.box 1 rfl))) ?_))
  exact ⟨H8.ext, rfl⟩
theorem Try_laws_FnExactTicketFault {w : World} {s : Shape} {t : Ticket} (hb : t.Name.size ≤ maxLen) : Ret Try.prog 3 #[s.v, t.v] w fun v w' => Ext No w w' ∧ (v = .bool true) := by
  unfold maxLen at hb
  refine ret_Q (vs := [s.v, t.v]) Try.func3 rfl Try.ntmps3 rfl (fun Q hQ hN => ?_)
  have H0 := Sep.start (w := w) (F := []) (by simp)
  refine W_seq ?_
  refine W_reg ?_
  refine s_box (wn rfl) rfl rfl H0 (fun b1 w1 e1 g1 H1 => ?_)
  refine s_box (wn rfl) rfl rfl H1 (fun b2 w2 e2 g2 H2 => ?_)
  refine s_val (wn rfl) rfl rfl (py_assign rfl) ?_
  refine s_nil ?_
  refine W_seq ?_
  refine W_reg ?_
  refine s_val (wn rfl) rfl rfl (py_assign rfl) ?_
  refine s_nil ?_
  refine W_seq ?_
  refine W_reg ?_
  refine s_val (wn rfl) rfl rfl (py_loadS Try.underlying25 rfl Try.sizeOf25 rfl rfl (At.whole (H2.box 1 rfl))) (s_val (wn rfl) rfl rfl (py_move rfl) ?_)
  refine s_call (wn rfl) rfl rfl (pc_call Try.func15 rfl Try_nm15 rfl) (Try_laws_szTicket (by assumption) (by omega)) (fun v1 w3 r1 => ?_)
  obtain ⟨e3, rfl⟩ := r1
  have H3 := H2.to e3
  refine s_val (wn rfl) rfl rfl (py_assign rfl) ?_
  refine s_nil ?_
  refine W_seq ?_
  refine W_seq ?_
  refine W_reg ?_
  refine s_val (wn rfl) rfl rfl (py_move rfl) (s_val (wn rfl) rfl rfl (py_lss rfl rfl) ?_)
  refine s_nil ?_
  refine W_ifd rfl (fun c1 => ?_) (fun c1 => ?_)
  · refine W_seq ?_
    refine W_reg ?_
    refine s_val (wn rfl) rfl rfl (py_assign rfl) ?_
    refine s_nil ?_
    refine W_ret (hQ _ _ (fin1 Try.results3 rfl ?_))
    exact ⟨H3.ext, rfl⟩
  · refine W_skip ?_
    refine W_seq ?_
    refine W_drw (S := Ext No _) [(0, true), (2, true), (1, false), (3, false), (4, false), (5, false)] (by kernel_rfl) (by kernel_rfl) (by kernel_rfl) rfl (fun _ => Ext.refl.drawn _) (fun q1 => ?_)
    have H4 := H3.drawn q1
    refine d_val rfl (wn rfl) rfl rfl (fun x hx => py_loadS Try.underlying23 rfl Try.sizeOf23 rfl rfl (At.whole (hx.heap (H4.box 0 rfl)))) (d_val rfl (wn rfl) rfl rfl (fun x hx => py_loadS Try.underlying25 rfl Try.sizeOf25 rfl rfl (At.whole (hx.heap (H4.box 1 rfl)))) ?_)
    refine d_call rfl (wn rfl) rfl rfl (pc_call Try.func17 rfl Try_nm17 rfl) Try_laws_toShape (fun hS _ _ r _ => hS.trans r.1.no) (fun v2 w4 r2 => ?_)
    obtain ⟨e4, rfl⟩ := r2
    have H5 := H4.to e4
    refine d_call rfl (wn rfl) rfl rfl (pc_call Try.func18 rfl Try_nm18 rfl) Try_laws_toTicket (fun hS _ _ r _ => hS.trans r.1.no) (fun v3 w5 r3 => ?_)
    obtain ⟨e5, rfl⟩ := r3
    have H6 := H5.to e5
    refine d_call rfl (wn rfl) rfl rfl (pc_call Try.func16 rfl Try_nm16 rfl) (Try_spec_TicketFault (by assumption)) (fun hS _ _ r _ => hS.trans r.1.no) (fun v4 w6 r4 => ?_)
    obtain ⟨e6, rfl⟩ := r4
    have H7 := H6.to e6
    refine d_end rfl (wn rfl) rfl rfl (py_assign rfl) ?_
    refine d_nil ?_
    refine W_seq ?_
    refine W_drw (S := Ext No _) [(0, true), (2, true), (1, false), (3, false), (4, false), (5, false)] (by kernel_rfl) (by kernel_rfl) (by kernel_rfl) rfl (fun _ => Ext.refl.drawn _) (fun q2 => ?_)
    have H8 := H7.drawn q2
    refine d_val rfl (wn rfl) rfl rfl (fun x hx => py_loadS Try.underlying23 rfl Try.sizeOf23 rfl rfl (At.whole (hx.heap (H8.box 0 rfl)))) (d_val rfl (wn rfl) rfl rfl (fun x hx => py_loadS Try.underlying25 rfl Try.sizeOf25 rfl rfl (At.whole (hx.heap (H8.box 1 rfl)))) ?_)
    refine d_call rfl (wn rfl) rfl rfl (pc_call Try.func17 rfl Try_nm17 rfl) Try_laws_toShape (fun hS _ _ r _ => hS.trans r.1.no) (fun v5 w7 r5 => ?_)
    obtain ⟨e7, rfl⟩ := r5
    have H9 := H8.to e7
    refine d_call rfl (wn rfl) rfl rfl (pc_call Try.func18 rfl Try_nm18 rfl) Try_laws_toTicket (fun hS _ _ r _ => hS.trans r.1.no) (fun v6 w8 r6 => ?_)
    obtain ⟨e8, rfl⟩ := r6
    have H10 := H9.to e8
    refine d_call rfl (wn rfl) rfl rfl (pc_call Try.func19 rfl Try_nm19 rfl) (Try_impl_TicketFault (by assumption)) (fun hS _ _ r _ => hS.trans r.1.no) (fun v7 w9 r7 => ?_)
    obtain ⟨e9, rfl⟩ := r7
    have H11 := H10.to e9
    refine d_end rfl (wn rfl) rfl rfl (py_assign rfl) ?_
    refine d_nil ?_
    refine W_seq ?_
    refine W_seq ?_
    refine W_reg ?_
    refine s_val (wn rfl) rfl rfl (py_move rfl) (s_val (wn rfl) rfl rfl (py_move rfl) (s_val (wn rfl) rfl rfl (py_neq rfl rfl) ?_))
    refine s_nil ?_
    refine W_ifd rfl (fun c2 => ?_) (fun c2 => ?_)
    · exact absurd rfl c2
    · refine W_skip ?_
      refine W_seq ?_
      refine W_reg ?_
      refine s_val (wn rfl) rfl rfl (py_assign rfl) ?_
      refine s_nil ?_
      refine W_ret (hQ _ _ (fin1 Try.results3 rfl ?_))
      exact ⟨H11.ext, rfl⟩
end Go.Wk
