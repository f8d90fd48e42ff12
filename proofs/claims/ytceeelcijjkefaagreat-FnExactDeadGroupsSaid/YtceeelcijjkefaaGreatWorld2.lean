/-
  The functions walked, each once. (Printed by a program of mine.)
-/
import Derived.Test.YtceeelcijjkefaaGreatWorld
import Derived.Test.YtceeelcijjkefaaGreatWmB
set_option linter.unusedVariables false
set_option linter.unusedSimpArgs false
namespace Go.Wk
open Go.Proofs Rp
set_option maxRecDepth 10000
set_option maxHeartbeats 1000000 in
theorem Tryz_spec_RecFault {w : World} {s : Shape} {r : Rec} {rA6 : Option Addr} {rC6 : Nat} {rA7 : Option Addr} {rC7 : Nat} {rA8 : Option Addr} {rC8 : Nat} (rK : r.Ok) (rS6 : Sees w [.slice rA6 r.Rows.length rC6] r.Rows) (rS7 : Sees w [.slice rA7 r.Data.length rC7] r.Data) (rS8 : Sees w [.slice rA8 r.Delta.length rC8] r.Delta) : Ret Tryz.prog 108 #[s.v, r.val rA6 rC6 rA7 rC7 rA8 rC8] w fun v w' => Ext No w w' ∧ (v = .int .i64 (if s.fault ≠ 0 then s.fault else recF s r)) := by
  have rK2 := rK
  unfold Rec.Ok at rK2
  try unfold I64ok at rK2
  try unfold maxLen at rK2
  have rN2 : r.Name.size ≤ maxLen := by unfold maxLen; omega
  have rL6 := sees_len rS6
  unfold maxLen at rL6
  obtain ⟨rF6, rO6⟩ := rS6
  have rL7 := sees_len rS7
  unfold maxLen at rL7
  obtain ⟨rF7, rO7⟩ := rS7
  have rL8 := sees_len rS8
  unfold maxLen at rL8
  obtain ⟨rF8, rO8⟩ := rS8
  refine ret_Q (vs := [s.v, r.val rA6 rC6 rA7 rC7 rA8 rC8]) Tryz.func108 rfl Tryz.ntmps108 rfl (fun Q hQ hN => ?_)
  have H0 := Sep.start (w := w) (F := [seen false [.slice rA6 r.Rows.length rC6] r.Rows rF6, seen false [.slice rA7 r.Data.length rC7] r.Data rF7, seen false [.slice rA8 r.Delta.length rC8] r.Delta rF8]) (all_cons rO6 (all_cons rO7 (all_cons rO8 (by simp))))
  refine W_seq ?_
  refine W_reg ?_
  refine s_box (wn rfl) rfl rfl H0 (fun b1 w1 e1 g1 H1 => ?_)
  refine s_box (wn rfl) rfl rfl H1 (fun b2 w2 e2 g2 H2 => ?_)
  refine s_val (wn rfl) rfl rfl (py_assign rfl) ?_
  refine s_nil ?_
  refine W_seq ?_
  refine W_seq ?_
  refine W_reg ?_
  refine s_val (wn rfl) rfl rfl (py_loadS Tryz.underlying33 rfl Tryz.sizeOf33 rfl rfl (At.whole (H2.box 0 rfl))) ?_
  refine s_call (wn rfl) rfl rfl (pc_call Tryz.func146 rfl Tryz_nm146 rfl) Tryz_spec_ShapeFault (fun v1 w3 r1 => ?_)
  obtain ⟨e3, rfl⟩ := r1
  have H3 := H2.to e3
  refine s_val (wn rfl) rfl rfl (py_assign rfl) ?_
  refine s_nil ?_
  refine W_seq ?_
  refine W_reg ?_
  refine s_val (wn rfl) rfl rfl (py_move rfl) (s_val (wn rfl) rfl rfl (py_neq rfl rfl) ?_)
  refine s_nil ?_
  refine W_ifd rfl (fun c1 => ?_) (fun c1 => ?_)
  · refine W_seq ?_
    refine W_reg ?_
    refine s_val (wn rfl) rfl rfl (py_move rfl) (s_val (wn rfl) rfl rfl (py_assign rfl) ?_)
    refine s_nil ?_
    refine W_ret (hQ _ _ (fin1 Tryz.results108 rfl ?_))
    exact ⟨H3.ext, congrArg (Value.int .i64) (if_pos (by omega)).symm⟩
  · refine W_skip ?_
    refine W_seq ?_
    refine W_seq ?_
    have hs := shapeFault_ok (s := s) (by omega)
    have sbd := shape_bd hs
    refine W_reg ?_
    refine s_val (wn rfl) rfl rfl (py_field Tryz.underlying66 rfl Tryz.sizeOf2 rfl rfl) (s_val (wn rfl) rfl rfl (py_load Tryz.underlying2 rfl rfl (cell_atL (H3.box 1 rfl) rfl)) ?_)
    refine s_call (wn rfl) rfl rfl (pc_call Tryz.func149 rfl Tryz_nm149 rfl) Tryz_spec_l1In (fun v2 w4 r2 => ?_)
    obtain ⟨e4, rfl⟩ := r2
    have H4 := H3.to e4
    refine s_val (wn rfl) rfl rfl (py_not rfl) ?_
    refine s_nil ?_
    refine W_if rfl (fun c2 => ?_) (fun c2 => ?_)
    · refine W_seq ?_
      refine W_reg ?_
      refine s_val (wn rfl) rfl rfl (py_assign rfl) ?_
      refine s_nil ?_
      refine W_ret (hQ _ _ (fin1 Tryz.results108 rfl ?_))
      exact ⟨H4.ext, congrArg (Value.int .i64) ((if_neg (by omega)).trans (recF_kind (not_true c2))).symm⟩
    · refine W_skip ?_
      refine W_seq ?_
      refine W_seq ?_
      refine W_reg ?_
      refine s_val (wn rfl) rfl rfl (py_field Tryz.underlying66 rfl Tryz.sizeOf2 rfl rfl) (s_val (wn rfl) rfl rfl (py_load Tryz.underlying2 rfl rfl (cell_atL (H4.box 1 rfl) rfl)) ?_)
      refine s_call (wn rfl) rfl rfl (pc_call Tryz.func149 rfl Tryz_nm149 rfl) Tryz_spec_l1In (fun v3 w5 r3 => ?_)
      obtain ⟨e5, rfl⟩ := r3
      have H5 := H4.to e5
      refine s_val (wn rfl) rfl rfl (py_not rfl) ?_
      refine s_nil ?_
      refine W_if rfl (fun c3 => ?_) (fun c3 => ?_)
      · refine W_seq ?_
        refine W_reg ?_
        refine s_val (wn rfl) rfl rfl (py_assign rfl) ?_
        refine s_nil ?_
        refine W_ret (hQ _ _ (fin1 Tryz.results108 rfl ?_))
        exact ⟨H5.ext, congrArg (Value.int .i64) ((if_neg (by omega)).trans (recF_seq (not_false c2) (not_true c3))).symm⟩
      · refine W_skip ?_
        refine W_seq ?_
        refine W_reg ?_
        refine s_val (wn rfl) rfl rfl (py_loadS Tryz.underlying66 rfl Tryz.sizeOf66 rfl rfl (At.whole (H5.box 1 rfl))) ?_
        refine s_var (wn rfl) rfl Tryz.zeroValue66 H5 (fun b3 w6 e6 g3 H6 => ?_)
        refine s_stoS (wn rfl) Tryz.sizeOf66 rfl rfl rfl rfl H6 2 rfl rfl (fun w7 e7 H7 => ?_)
        dsimp only [List.nil_append, List.cons_append, List.set_cons_zero, List.set_cons_succ, layL] at H7
        refine s_nil ?_
        refine W_seq ?_
        refine W_seq ?_
        refine W_reg ?_
        refine s_val (wn rfl) rfl rfl (py_field Tryz.underlying66 rfl Tryz.sizeOf2 rfl rfl) (s_val (wn rfl) rfl rfl (py_load Tryz.underlying2 rfl rfl (cell_atL (H7.box 1 rfl) rfl)) ?_)
        refine s_nil ?_
        refine W_block ?_
        refine W_seq ?_
        have hk1 := ins_iff.1 (not_false c2)
        refine W_reg ?_
        refine s_val (wn rfl) rfl rfl (py_eql rfl rfl) (s_val (wn rfl) rfl rfl (py_assign rfl) ?_)
        refine s_nil ?_
        refine W_ifd rfl (fun c4 => ?_) (fun c4 => ?_)
        · refine W_seq ?_
          refine W_seq ?_
          refine W_reg ?_
          refine s_val (wn rfl) rfl rfl (py_field Tryz.underlying66 rfl Tryz.sizeOf9 rfl rfl) (s_val (wn rfl) rfl rfl (py_load Tryz.underlying9 rfl rfl (cell_atL (H7.box 1 rfl) rfl)) ?_)
          refine s_call (wn rfl) rfl rfl (pc_call Tryz.func175 rfl Tryz_nm175 rfl) (Tryz_spec_NameFault (by assumption)) (fun v4 w8 r4 => ?_)
          obtain ⟨e8, rfl⟩ := r4
          have H8 := H7.to e8
          refine s_val (wn rfl) rfl rfl (py_assign rfl) ?_
          refine s_nil ?_
          refine W_seq ?_
          refine W_reg ?_
          refine s_val (wn rfl) rfl rfl (py_move rfl) (s_val (wn rfl) rfl rfl (py_neq rfl rfl) ?_)
          refine s_nil ?_
          refine W_ifd rfl (fun c5 => ?_) (fun c5 => ?_)
          · refine W_seq ?_
            refine W_reg ?_
            refine s_val (wn rfl) rfl rfl (py_move rfl) (s_val (wn rfl) rfl rfl (py_assign rfl) ?_)
            refine s_nil ?_
            refine W_ret (hQ _ _ (fin1 Tryz.results108 rfl ?_))
            have kq := (kindF_item (s := s) (by omega)).trans (itemF_name (by omega))
            have kF := recF_bad (s := s) (not_false c2) (not_false c3) (by omega)
            exact ⟨H8.ext, congrArg (Value.int .i64) ((if_neg (by omega)).trans (kF.trans kq)).symm⟩
          · refine W_skip ?_
            refine W_seq ?_
            refine W_seq ?_
            refine W_reg ?_
            refine s_val (wn rfl) rfl rfl (py_loadS Tryz.underlying33 rfl Tryz.sizeOf33 rfl rfl (At.whole (H8.box 0 rfl))) (s_val (wn rfl) rfl rfl (py_loadS Tryz.underlying66 rfl Tryz.sizeOf66 rfl rfl (At.whole (H8.box 1 rfl))) ?_)
            refine s_call (wn rfl) rfl rfl (pc_call Tryz.func176 rfl Tryz_nm176 rfl) (Tryz_spec_l5Item (by assumption) (H8.sees 0 rfl) (H8.sees 1 rfl) (H8.sees 2 rfl) (by assumption)) (fun v5 w9 r5 => ?_)
            obtain ⟨e9, rfl⟩ := r5
            have H9 := H8.to e9
            refine s_val (wn rfl) rfl rfl (py_not rfl) ?_
            refine s_nil ?_
            refine W_if rfl (fun c6 => ?_) (fun c6 => ?_)
            · refine W_seq ?_
              refine W_reg ?_
              refine s_val (wn rfl) rfl rfl (py_assign rfl) ?_
              refine s_nil ?_
              refine W_ret (hQ _ _ (fin1 Tryz.results108 rfl ?_))
              have kq := (kindF_item (s := s) (by omega)).trans (itemF_bad (by omega) (not_true c6))
              have kF := recF_bad (s := s) (not_false c2) (not_false c3) (by omega)
              exact ⟨H9.ext, congrArg (Value.int .i64) ((if_neg (by omega)).trans (kF.trans kq)).symm⟩
            · refine W_skip ?_
              refine W_seq ?_
              refine W_reg ?_
              refine s_val (wn rfl) rfl rfl (py_field Tryz.underlying66 rfl Tryz.sizeOf9 rfl rfl) ?_
              refine s_sto (wn rfl) Tryz.sizeOf9 rfl rfl rfl H9 2 rfl rfl (fun w10 e10 H10 => ?_)
              dsimp only [List.nil_append, List.cons_append, List.set_cons_zero, List.set_cons_succ, layL] at H10
              refine s_nil ?_
              refine W_seq ?_
              refine W_reg ?_
              refine s_val (wn rfl) rfl rfl (py_field Tryz.underlying66 rfl Tryz.sizeOf2 rfl rfl) ?_
              refine s_sto (wn rfl) Tryz.sizeOf2 rfl rfl rfl H10 2 rfl rfl (fun w11 e11 H11 => ?_)
              dsimp only [List.nil_append, List.cons_append, List.set_cons_zero, List.set_cons_succ, layL] at H11
              refine s_nil ?_
              refine W_seq ?_
              refine W_reg ?_
              refine s_val (wn rfl) rfl rfl (py_field Tryz.underlying66 rfl Tryz.sizeOf25 rfl rfl) ?_
              refine s_sto (wn rfl) Tryz.sizeOf25 rfl rfl rfl H11 2 rfl rfl (fun w12 e12 H12 => ?_)
              dsimp only [List.nil_append, List.cons_append, List.set_cons_zero, List.set_cons_succ, layL] at H12
              refine s_nil ?_
              refine W_reg ?_
              refine s_val (wn rfl) rfl rfl (py_field Tryz.underlying66 rfl Tryz.sizeOf61 rfl rfl) ?_
              refine s_sto (wn rfl) Tryz.sizeOf61 rfl rfl rfl H12 2 rfl rfl (fun w13 e13 H13 => ?_)
              dsimp only [List.nil_append, List.cons_append, List.set_cons_zero, List.set_cons_succ, layL] at H13
              refine s_nil ?_
              refine W_seq ?_
              refine W_seq ?_
              refine W_reg ?_
              refine s_val (wn rfl) rfl rfl (py_loadS Tryz.underlying66 rfl Tryz.sizeOf66 rfl rfl (At.whole (H13.box 2 rfl))) ?_
              refine s_call (wn rfl) rfl rfl (pc_call Tryz.func180 rfl Tryz_nm180 rfl) (Tryz_spec_l5Empty (r := ⟨r.Kind, r.Seq, ⟨#[]⟩, 0, r.Group, r.Row, [], [], r.Delta⟩) (rest_ok1 rK) ⟨[], .inr (.inl ⟨rfl, rfl, rfl⟩)⟩ ⟨[], .inr (.inl ⟨rfl, rfl, rfl⟩)⟩ (H13.sees 2 rfl)) (fun v6 w14 r6 => ?_)
              obtain ⟨e14, rfl⟩ := r6
              have H14 := H13.to e14
              refine s_val (wn rfl) rfl rfl (py_not rfl) ?_
              refine s_nil ?_
              refine W_if rfl (fun c7 => ?_) (fun c7 => ?_)
              · refine W_seq ?_
                refine W_reg ?_
                refine s_val (wn rfl) rfl rfl (py_assign rfl) ?_
                refine s_nil ?_
                refine W_ret (hQ _ _ (fin1 Tryz.results108 rfl ?_))
                have kq := (kindF_item (s := s) (by omega)).trans (itemF_ok (by omega) (not_false c6))
                exact ⟨H14.ext, congrArg (Value.int .i64) ((if_neg (by omega)).trans (recF_form (not_false c2) (not_false c3) kq (by rw [← rest_bare1 (by omega)]; exact not_true c7))).symm⟩
              · refine W_skip ?_
                refine W_seq ?_
                refine W_reg ?_
                refine s_val (wn rfl) rfl rfl (py_assign rfl) ?_
                refine s_nil ?_
                refine W_ret (hQ _ _ (fin1 Tryz.results108 rfl ?_))
                have kq := (kindF_item (s := s) (by omega)).trans (itemF_ok (by omega) (not_false c6))
                exact ⟨H14.ext, congrArg (Value.int .i64) ((if_neg (by omega)).trans (recF_ok (not_false c2) (not_false c3) kq (by rw [← rest_bare1 (by omega)]; exact not_false c7))).symm⟩
        · refine W_seq ?_
          refine W_reg ?_
          refine s_val (wn rfl) rfl rfl (py_eql rfl rfl) (s_val (wn rfl) rfl rfl (py_assign rfl) ?_)
          refine s_nil ?_
          refine W_ifd rfl (fun c8 => ?_) (fun c8 => ?_)
          · refine W_seq ?_
            refine W_seq ?_
            refine W_drw (S := Ext No _) [(0, true), (1, true), (2, true), (3, true), (4, true), (5, false), (6, true), (7, true), (8, true), (9, true), (10, true), (11, true), (12, true), (13, false), (14, true), (15, true), (16, true), (17, true), (18, true), (19, true), (20, true), (21, false), (22, true), (23, true), (24, true), (25, true), (26, true), (27, true), (28, true), (29, false), (30, true), (31, false)] (by kernel_rfl) (by kernel_rfl) (by kernel_rfl) rfl (fun _ => Ext.refl.drawn _) (fun q1 => ?_)
            have H15 := H7.drawn q1
            refine d_val rfl (wn rfl) rfl rfl (fun zw hx => py_field Tryz.underlying66 rfl Tryz.sizeOf2 rfl rfl) (d_val rfl (wn rfl) rfl rfl (fun zw hx => py_load Tryz.underlying2 rfl rfl (cell_atL (hx.heap (H15.box 1 rfl)) rfl)) (d_val rfl (wn rfl) rfl rfl (fun zw hx => py_field Tryz.underlying33 rfl Tryz.sizeOf2 rfl rfl) (d_val rfl (wn rfl) rfl rfl (fun zw hx => py_load Tryz.underlying2 rfl rfl (cell_atL (hx.heap (H15.box 0 rfl)) rfl)) (d_val rfl (wn rfl) rfl rfl (fun zw hx => py_sub rfl rfl (in64 ⟨by omega, by omega⟩)) ?_))))
            refine d_call rfl (wn rfl) rfl rfl (pc_call Tryz.func149 rfl Tryz_nm149 rfl) Tryz_spec_l1In (fun hS _ _ r _ => hS.trans r.1.no) (fun v7 w15 r7 => ?_)
            obtain ⟨e15, rfl⟩ := r7
            have H16 := H15.to e15
            refine d_val rfl (wn rfl) rfl rfl (fun zw hx => py_not rfl) (d_val rfl (wn rfl) rfl rfl (fun zw hx => py_move rfl) ?_)
            refine d_case (t := 49) rfl (fun hg1 => ?_) (fun hg1 => ?_)
            · try simp only [decide_eq_true_eq, decide_eq_false_iff_not] at hg1
              refine d_skip rfl (wog (b := true) rfl rfl rfl) rfl rfl (d_skip rfl (wog (b := true) rfl rfl rfl) rfl rfl (d_skip rfl (wog (b := true) rfl rfl rfl) rfl rfl (d_skip rfl (wog (b := true) rfl rfl rfl) rfl rfl (d_skip rfl (wog (b := true) rfl rfl rfl) rfl rfl (d_skipA rfl (wog (b := true) rfl rfl rfl) rfl rfl (d_skip rfl (wog (b := true) rfl rfl rfl) rfl rfl (d_val rfl (wn rfl) rfl rfl (fun zw hx => py_pickT rfl rfl) (d_val rfl (wn rfl) rfl rfl (fun zw hx => py_move rfl) (d_skip rfl (wog (b := true) rfl rfl rfl) rfl rfl (d_skip rfl (wog (b := true) rfl rfl rfl) rfl rfl (d_skip rfl (wog (b := true) rfl rfl rfl) rfl rfl (d_skip rfl (wog (b := true) rfl rfl rfl) rfl rfl (d_skipA rfl (wog (b := true) rfl rfl rfl) rfl rfl (d_skip rfl (wog (b := true) rfl rfl rfl) rfl rfl (d_val rfl (wn rfl) rfl rfl (fun zw hx => py_pickT rfl rfl) (d_val rfl (wn rfl) rfl rfl (fun zw hx => py_move rfl) (d_skip rfl (wog (b := true) rfl rfl rfl) rfl rfl (d_skip rfl (wog (b := true) rfl rfl rfl) rfl rfl (d_skip rfl (wog (b := true) rfl rfl rfl) rfl rfl (d_skip rfl (wog (b := true) rfl rfl rfl) rfl rfl (d_skipA rfl (wog (b := true) rfl rfl rfl) rfl rfl (d_skip rfl (wog (b := true) rfl rfl rfl) rfl rfl (d_end rfl (wn rfl) rfl rfl (py_pickT rfl rfl) ?_)))))))))))))))))))))))
              refine d_nil ?_
              refine W_ift rfl ?_
              refine W_seq ?_
              refine W_reg ?_
              refine s_val (wn rfl) rfl rfl (py_assign rfl) ?_
              refine s_nil ?_
              refine W_ret (hQ _ _ (fin1 Tryz.results108 rfl ?_))
              have kq := kindF_move_no (s := s) (by omega) (by simp_all [moveOK])
              have kF := recF_bad (s := s) (not_false c2) (not_false c3) (by omega)
              exact ⟨H16.ext, congrArg (Value.int .i64) ((if_neg (by omega)).trans (kF.trans kq)).symm⟩
            · try simp only [decide_eq_true_eq, decide_eq_false_iff_not] at hg1
              refine d_val rfl (wg rfl rfl rfl) rfl rfl (fun zw hx => py_field Tryz.underlying66 rfl Tryz.sizeOf2 rfl rfl) (d_val rfl (wg rfl rfl rfl) rfl rfl (fun zw hx => py_load Tryz.underlying2 rfl rfl (cell_atL (hx.heap (H15.box 1 rfl)) rfl)) (d_val rfl (wg rfl rfl rfl) rfl rfl (fun zw hx => py_field Tryz.underlying33 rfl Tryz.sizeOf2 rfl rfl) (d_val rfl (wg rfl rfl rfl) rfl rfl (fun zw hx => py_load Tryz.underlying2 rfl rfl (cell_atL (hx.heap (H15.box 0 rfl)) rfl)) (d_val rfl (wg rfl rfl rfl) rfl rfl (fun zw hx => py_sub rfl rfl (in64 ⟨by omega, by omega⟩)) ?_))))
              refine d_call rfl (wg rfl rfl rfl) rfl rfl (pc_call Tryz.func149 rfl Tryz_nm149 rfl) Tryz_spec_l1In (fun hS _ _ r _ => hS.trans r.1.no) (fun v8 w16 r8 => ?_)
              obtain ⟨e16, rfl⟩ := r8
              have H17 := H16.to e16
              refine d_val rfl (wg rfl rfl rfl) rfl rfl (fun zw hx => py_not rfl) (d_val rfl (wn rfl) rfl rfl (fun zw hx => py_pickF rfl rfl) (d_val rfl (wn rfl) rfl rfl (fun zw hx => py_move rfl) ?_))
              refine d_case (t := 58) rfl (fun hg2 => ?_) (fun hg2 => ?_)
              · try simp only [decide_eq_true_eq, decide_eq_false_iff_not] at hg2
                refine d_skip rfl (wog (b := true) rfl rfl rfl) rfl rfl (d_skip rfl (wog (b := true) rfl rfl rfl) rfl rfl (d_skip rfl (wog (b := true) rfl rfl rfl) rfl rfl (d_skip rfl (wog (b := true) rfl rfl rfl) rfl rfl (d_skipA rfl (wog (b := true) rfl rfl rfl) rfl rfl (d_skip rfl (wog (b := true) rfl rfl rfl) rfl rfl (d_val rfl (wn rfl) rfl rfl (fun zw hx => py_pickT rfl rfl) (d_val rfl (wn rfl) rfl rfl (fun zw hx => py_move rfl) (d_skip rfl (wog (b := true) rfl rfl rfl) rfl rfl (d_skip rfl (wog (b := true) rfl rfl rfl) rfl rfl (d_skip rfl (wog (b := true) rfl rfl rfl) rfl rfl (d_skip rfl (wog (b := true) rfl rfl rfl) rfl rfl (d_skipA rfl (wog (b := true) rfl rfl rfl) rfl rfl (d_skip rfl (wog (b := true) rfl rfl rfl) rfl rfl (d_end rfl (wn rfl) rfl rfl (py_pickT rfl rfl) ?_))))))))))))))
                refine d_nil ?_
                refine W_ift rfl ?_
                refine W_seq ?_
                refine W_reg ?_
                refine s_val (wn rfl) rfl rfl (py_assign rfl) ?_
                refine s_nil ?_
                refine W_ret (hQ _ _ (fin1 Tryz.results108 rfl ?_))
                have kq := kindF_move_no (s := s) (by omega) (by simp_all [moveOK])
                have kF := recF_bad (s := s) (not_false c2) (not_false c3) (by omega)
                exact ⟨H17.ext, congrArg (Value.int .i64) ((if_neg (by omega)).trans (kF.trans kq)).symm⟩
              · try simp only [decide_eq_true_eq, decide_eq_false_iff_not] at hg2
                refine d_val rfl (wg rfl rfl rfl) rfl rfl (fun zw hx => py_field Tryz.underlying66 rfl Tryz.sizeOf61 rfl rfl) (d_val rfl (wg rfl rfl rfl) rfl rfl (fun zw hx => py_load Tryz.underlying61 rfl rfl (cell_atL (hx.heap (H15.box 1 rfl)) rfl)) (d_val rfl (wg rfl rfl rfl) rfl rfl (fun zw hx => py_len Tryz.underlying61 rfl) (d_val rfl (wg rfl rfl rfl) rfl rfl (fun zw hx => py_loadS Tryz.underlying33 rfl Tryz.sizeOf33 rfl rfl (At.whole (hx.heap (H15.box 0 rfl)))) ?_)))
                refine d_call rfl (wg rfl rfl rfl) rfl rfl (pc_call Tryz.func177 rfl Tryz_nm177 rfl) (Tryz_spec_l4Wide (by assumption)) (fun hS _ _ r _ => hS.trans r.1.no) (fun v9 w17 r9 => ?_)
                obtain ⟨e17, rfl⟩ := r9
                have H18 := H17.to e17
                refine d_val rfl (wg rfl rfl rfl) rfl rfl (fun zw hx => py_neq rfl rfl) (d_val rfl (wn rfl) rfl rfl (fun zw hx => py_pickF rfl rfl) (d_val rfl (wn rfl) rfl rfl (fun zw hx => py_move rfl) ?_))
                refine d_case (t := 66) rfl (fun hg3 => ?_) (fun hg3 => ?_)
                · try simp only [decide_eq_true_eq, decide_eq_false_iff_not] at hg3
                  refine d_skip rfl (wog (b := true) rfl rfl rfl) rfl rfl (d_skip rfl (wog (b := true) rfl rfl rfl) rfl rfl (d_skip rfl (wog (b := true) rfl rfl rfl) rfl rfl (d_skip rfl (wog (b := true) rfl rfl rfl) rfl rfl (d_skipA rfl (wog (b := true) rfl rfl rfl) rfl rfl (d_skip rfl (wog (b := true) rfl rfl rfl) rfl rfl (d_end rfl (wn rfl) rfl rfl (py_pickT rfl rfl) ?_))))))
                  refine d_nil ?_
                  refine W_ift rfl ?_
                  refine W_seq ?_
                  refine W_reg ?_
                  refine s_val (wn rfl) rfl rfl (py_assign rfl) ?_
                  refine s_nil ?_
                  refine W_ret (hQ _ _ (fin1 Tryz.results108 rfl ?_))
                  have kq := kindF_move_no (s := s) (by omega) (by simp_all [moveOK])
                  have kF := recF_bad (s := s) (not_false c2) (not_false c3) (by omega)
                  exact ⟨H18.ext, congrArg (Value.int .i64) ((if_neg (by omega)).trans (kF.trans kq)).symm⟩
                · try simp only [decide_eq_true_eq, decide_eq_false_iff_not] at hg3
                  refine d_val rfl (wg rfl rfl rfl) rfl rfl (fun zw hx => py_field Tryz.underlying66 rfl Tryz.sizeOf61 rfl rfl) (d_val rfl (wg rfl rfl rfl) rfl rfl (fun zw hx => py_load Tryz.underlying61 rfl rfl (cell_atL (hx.heap (H15.box 1 rfl)) rfl)) (d_val rfl (wg rfl rfl rfl) rfl rfl (fun zw hx => py_len Tryz.underlying61 rfl) (d_val rfl (wg rfl rfl rfl) rfl rfl (fun zw hx => py_loadS Tryz.underlying33 rfl Tryz.sizeOf33 rfl rfl (At.whole (hx.heap (H15.box 0 rfl)))) ?_)))
                  refine d_call rfl (wg rfl rfl rfl) rfl rfl (pc_call Tryz.func177 rfl Tryz_nm177 rfl) (Tryz_spec_l4Wide (by assumption)) (fun hS _ _ r _ => hS.trans r.1.no) (fun v10 w18 r10 => ?_)
                  obtain ⟨e18, rfl⟩ := r10
                  have H19 := H18.to e18
                  refine d_val rfl (wg rfl rfl rfl) rfl rfl (fun zw hx => py_neq rfl rfl) (d_end rfl (wn rfl) rfl rfl (py_pickF rfl rfl) ?_)
                  refine d_nil ?_
                  refine W_ifd rfl (fun c9 => ?_) (fun c9 => ?_)
                  · refine W_seq ?_
                    refine W_reg ?_
                    refine s_val (wn rfl) rfl rfl (py_assign rfl) ?_
                    refine s_nil ?_
                    refine W_ret (hQ _ _ (fin1 Tryz.results108 rfl ?_))
                    have kq := kindF_move_no (s := s) (by omega) (by simp_all [moveOK])
                    have kF := recF_bad (s := s) (not_false c2) (not_false c3) (by omega)
                    exact ⟨H19.ext, congrArg (Value.int .i64) ((if_neg (by omega)).trans (kF.trans kq)).symm⟩
                  · refine W_skip ?_
                    refine W_seq ?_
                    refine W_reg ?_
                    refine s_val (wn rfl) rfl rfl (py_field Tryz.underlying66 rfl Tryz.sizeOf2 rfl rfl) ?_
                    refine s_sto (wn rfl) Tryz.sizeOf2 rfl rfl rfl H19 2 rfl rfl (fun w19 e19 H20 => ?_)
                    dsimp only [List.nil_append, List.cons_append, List.set_cons_zero, List.set_cons_succ, layL] at H20
                    refine s_nil ?_
                    refine W_seq ?_
                    refine W_reg ?_
                    refine s_val (wn rfl) rfl rfl (py_field Tryz.underlying66 rfl Tryz.sizeOf2 rfl rfl) ?_
                    refine s_sto (wn rfl) Tryz.sizeOf2 rfl rfl rfl H20 2 rfl rfl (fun w20 e20 H21 => ?_)
                    dsimp only [List.nil_append, List.cons_append, List.set_cons_zero, List.set_cons_succ, layL] at H21
                    refine s_nil ?_
                    refine W_seq ?_
                    refine W_reg ?_
                    refine s_val (wn rfl) rfl rfl (py_field Tryz.underlying66 rfl Tryz.sizeOf61 rfl rfl) ?_
                    refine s_sto (wn rfl) Tryz.sizeOf61 rfl rfl rfl H21 2 rfl rfl (fun w21 e21 H22 => ?_)
                    dsimp only [List.nil_append, List.cons_append, List.set_cons_zero, List.set_cons_succ, layL] at H22
                    refine s_nil ?_
                    refine W_reg ?_
                    refine s_val (wn rfl) rfl rfl (py_field Tryz.underlying66 rfl Tryz.sizeOf61 rfl rfl) ?_
                    refine s_sto (wn rfl) Tryz.sizeOf61 rfl rfl rfl H22 2 rfl rfl (fun w22 e22 H23 => ?_)
                    dsimp only [List.nil_append, List.cons_append, List.set_cons_zero, List.set_cons_succ, layL] at H23
                    refine s_nil ?_
                    refine W_seq ?_
                    refine W_seq ?_
                    refine W_reg ?_
                    refine s_val (wn rfl) rfl rfl (py_loadS Tryz.underlying66 rfl Tryz.sizeOf66 rfl rfl (At.whole (H23.box 2 rfl))) ?_
                    refine s_call (wn rfl) rfl rfl (pc_call Tryz.func180 rfl Tryz_nm180 rfl) (Tryz_spec_l5Empty (r := ⟨r.Kind, r.Seq, r.Name, r.Length, 0, 0, r.Rows, [], []⟩) (rest_ok2 rK) (H23.sees 0 rfl) ⟨[], .inr (.inl ⟨rfl, rfl, rfl⟩)⟩ ⟨[], .inr (.inl ⟨rfl, rfl, rfl⟩)⟩) (fun v11 w23 r11 => ?_)
                    obtain ⟨e23, rfl⟩ := r11
                    have H24 := H23.to e23
                    refine s_val (wn rfl) rfl rfl (py_not rfl) ?_
                    refine s_nil ?_
                    refine W_if rfl (fun c10 => ?_) (fun c10 => ?_)
                    · refine W_seq ?_
                      refine W_reg ?_
                      refine s_val (wn rfl) rfl rfl (py_assign rfl) ?_
                      refine s_nil ?_
                      refine W_ret (hQ _ _ (fin1 Tryz.results108 rfl ?_))
                      have kq := kindF_move_ok (s := s) (by omega) (by simp_all [moveOK])
                      exact ⟨H24.ext, congrArg (Value.int .i64) ((if_neg (by omega)).trans (recF_form (not_false c2) (not_false c3) kq (by rw [← rest_bare2 (by omega)]; exact not_true c10))).symm⟩
                    · refine W_skip ?_
                      refine W_seq ?_
                      refine W_reg ?_
                      refine s_val (wn rfl) rfl rfl (py_assign rfl) ?_
                      refine s_nil ?_
                      refine W_ret (hQ _ _ (fin1 Tryz.results108 rfl ?_))
                      have kq := kindF_move_ok (s := s) (by omega) (by simp_all [moveOK])
                      exact ⟨H24.ext, congrArg (Value.int .i64) ((if_neg (by omega)).trans (recF_ok (not_false c2) (not_false c3) kq (by rw [← rest_bare2 (by omega)]; exact not_false c10))).symm⟩
          · refine W_seq ?_
            refine W_reg ?_
            refine s_val (wn rfl) rfl rfl (py_eql rfl rfl) (s_val (wn rfl) rfl rfl (py_assign rfl) ?_)
            refine s_nil ?_
            refine W_ifd rfl (fun c11 => ?_) (fun c11 => ?_)
            · refine W_seq ?_
              refine W_seq ?_
              refine W_drw (S := Ext No _) [(0, true), (1, true), (2, true), (3, false), (4, true), (5, false), (6, false)] (by kernel_rfl) (by kernel_rfl) (by kernel_rfl) rfl (fun _ => Ext.refl.drawn _) (fun q2 => ?_)
              have H25 := H7.drawn q2
              refine d_val rfl (wn rfl) rfl rfl (fun zw hx => py_field Tryz.underlying66 rfl Tryz.sizeOf2 rfl rfl) (d_val rfl (wn rfl) rfl rfl (fun zw hx => py_load Tryz.underlying2 rfl rfl (cell_atL (hx.heap (H25.box 1 rfl)) rfl)) (d_val rfl (wn rfl) rfl rfl (fun zw hx => py_loadS Tryz.underlying33 rfl Tryz.sizeOf33 rfl rfl (At.whole (hx.heap (H25.box 0 rfl)))) ?_))
              refine d_call rfl (wn rfl) rfl rfl (pc_call Tryz.func83 rfl Tryz_nm83 rfl) (Tryz_spec_l5All (by assumption)) (fun hS _ _ r _ => hS.trans r.1.no) (fun v12 w24 r12 => ?_)
              obtain ⟨e24, rfl⟩ := r12
              have H26 := H25.to e24
              refine d_val rfl (wn rfl) rfl rfl (fun zw hx => py_sub rfl rfl (in64 ⟨by omega, by omega⟩)) ?_
              refine d_call rfl (wn rfl) rfl rfl (pc_call Tryz.func149 rfl Tryz_nm149 rfl) Tryz_spec_l1In (fun hS _ _ r _ => hS.trans r.1.no) (fun v13 w25 r13 => ?_)
              obtain ⟨e25, rfl⟩ := r13
              have H27 := H26.to e25
              refine d_end rfl (wn rfl) rfl rfl (py_not rfl) ?_
              refine d_nil ?_
              refine W_if rfl (fun c12 => ?_) (fun c12 => ?_)
              · refine W_seq ?_
                refine W_reg ?_
                refine s_val (wn rfl) rfl rfl (py_assign rfl) ?_
                refine s_nil ?_
                refine W_ret (hQ _ _ (fin1 Tryz.results108 rfl ?_))
                have kq := kindF_done_no (s := s) (by omega) (not_true c12)
                have kF := recF_bad (s := s) (not_false c2) (not_false c3) (by omega)
                exact ⟨H27.ext, congrArg (Value.int .i64) ((if_neg (by omega)).trans (kF.trans kq)).symm⟩
              · refine W_skip ?_
                refine W_reg ?_
                refine s_val (wn rfl) rfl rfl (py_field Tryz.underlying66 rfl Tryz.sizeOf2 rfl rfl) ?_
                refine s_sto (wn rfl) Tryz.sizeOf2 rfl rfl rfl H27 2 rfl rfl (fun w26 e26 H28 => ?_)
                dsimp only [List.nil_append, List.cons_append, List.set_cons_zero, List.set_cons_succ, layL] at H28
                refine s_nil ?_
                refine W_seq ?_
                refine W_seq ?_
                refine W_reg ?_
                refine s_val (wn rfl) rfl rfl (py_loadS Tryz.underlying66 rfl Tryz.sizeOf66 rfl rfl (At.whole (H28.box 2 rfl))) ?_
                refine s_call (wn rfl) rfl rfl (pc_call Tryz.func180 rfl Tryz_nm180 rfl) (Tryz_spec_l5Empty (r := ⟨r.Kind, r.Seq, r.Name, r.Length, 0, r.Row, r.Rows, r.Data, r.Delta⟩) (rest_ok3 rK) (H28.sees 0 rfl) (H28.sees 1 rfl) (H28.sees 2 rfl)) (fun v14 w27 r14 => ?_)
                obtain ⟨e27, rfl⟩ := r14
                have H29 := H28.to e27
                refine s_val (wn rfl) rfl rfl (py_not rfl) ?_
                refine s_nil ?_
                refine W_if rfl (fun c13 => ?_) (fun c13 => ?_)
                · refine W_seq ?_
                  refine W_reg ?_
                  refine s_val (wn rfl) rfl rfl (py_assign rfl) ?_
                  refine s_nil ?_
                  refine W_ret (hQ _ _ (fin1 Tryz.results108 rfl ?_))
                  have kq := kindF_done_ok (s := s) (by omega) (not_false c12)
                  exact ⟨H29.ext, congrArg (Value.int .i64) ((if_neg (by omega)).trans (recF_form (not_false c2) (not_false c3) kq (by rw [← rest_bare3 (by omega)]; exact not_true c13))).symm⟩
                · refine W_skip ?_
                  refine W_seq ?_
                  refine W_reg ?_
                  refine s_val (wn rfl) rfl rfl (py_assign rfl) ?_
                  refine s_nil ?_
                  refine W_ret (hQ _ _ (fin1 Tryz.results108 rfl ?_))
                  have kq := kindF_done_ok (s := s) (by omega) (not_false c12)
                  exact ⟨H29.ext, congrArg (Value.int .i64) ((if_neg (by omega)).trans (recF_ok (not_false c2) (not_false c3) kq (by rw [← rest_bare3 (by omega)]; exact not_false c13))).symm⟩
            · refine W_seq ?_
              refine W_reg ?_
              refine s_val (wn rfl) rfl rfl (py_eql rfl rfl) (s_val (wn rfl) rfl rfl (py_assign rfl) ?_)
              refine s_nil ?_
              refine W_ifd rfl (fun c14 => ?_) (fun c14 => ?_)
              · refine W_seq ?_
                refine W_seq ?_
                refine W_drw (S := Ext No _) [(0, true), (1, true), (2, true), (3, false), (4, true), (5, false), (6, true), (7, true), (8, true), (9, true), (10, true), (11, true), (12, true), (13, false), (14, true), (15, true), (16, true), (17, true), (18, true), (19, true), (20, false), (21, true), (22, false), (23, true), (24, true), (25, true), (26, true), (27, true), (28, true), (29, true), (30, false), (31, true), (32, true), (33, true), (34, true), (35, true), (36, false), (37, true), (38, false)] (by kernel_rfl) (by kernel_rfl) (by kernel_rfl) rfl (fun _ => Ext.refl.drawn _) (fun q3 => ?_)
                have H30 := H7.drawn q3
                refine d_val rfl (wn rfl) rfl rfl (fun zw hx => py_field Tryz.underlying66 rfl Tryz.sizeOf2 rfl rfl) (d_val rfl (wn rfl) rfl rfl (fun zw hx => py_load Tryz.underlying2 rfl rfl (cell_atL (hx.heap (H30.box 1 rfl)) rfl)) (d_val rfl (wn rfl) rfl rfl (fun zw hx => py_loadS Tryz.underlying33 rfl Tryz.sizeOf33 rfl rfl (At.whole (hx.heap (H30.box 0 rfl)))) ?_))
                refine d_call rfl (wn rfl) rfl rfl (pc_call Tryz.func83 rfl Tryz_nm83 rfl) (Tryz_spec_l5All (by assumption)) (fun hS _ _ r _ => hS.trans r.1.no) (fun v15 w28 r15 => ?_)
                obtain ⟨e28, rfl⟩ := r15
                have H31 := H30.to e28
                refine d_val rfl (wn rfl) rfl rfl (fun zw hx => py_sub rfl rfl (in64 ⟨by omega, by omega⟩)) ?_
                refine d_call rfl (wn rfl) rfl rfl (pc_call Tryz.func149 rfl Tryz_nm149 rfl) Tryz_spec_l1In (fun hS _ _ r _ => hS.trans r.1.no) (fun v16 w29 r16 => ?_)
                obtain ⟨e29, rfl⟩ := r16
                have H32 := H31.to e29
                refine d_val rfl (wn rfl) rfl rfl (fun zw hx => py_not rfl) (d_val rfl (wn rfl) rfl rfl (fun zw hx => py_move rfl) ?_)
                refine d_case (t := 97) rfl (fun hg4 => ?_) (fun hg4 => ?_)
                · try simp only [decide_eq_true_eq, decide_eq_false_iff_not] at hg4
                  refine d_skip rfl (wog (b := true) rfl rfl rfl) rfl rfl (d_skip rfl (wog (b := true) rfl rfl rfl) rfl rfl (d_skip rfl (wog (b := true) rfl rfl rfl) rfl rfl (d_skip rfl (wog (b := true) rfl rfl rfl) rfl rfl (d_skip rfl (wog (b := true) rfl rfl rfl) rfl rfl (d_skipA rfl (wog (b := true) rfl rfl rfl) rfl rfl (d_skip rfl (wog (b := true) rfl rfl rfl) rfl rfl (d_val rfl (wn rfl) rfl rfl (fun zw hx => py_pickT rfl rfl) (d_val rfl (wn rfl) rfl rfl (fun zw hx => py_move rfl) (d_skip rfl (wog (b := true) rfl rfl rfl) rfl rfl (d_skip rfl (wog (b := true) rfl rfl rfl) rfl rfl (d_skip rfl (wog (b := true) rfl rfl rfl) rfl rfl (d_skipA rfl (wog (b := true) rfl rfl rfl) rfl rfl (d_skip rfl (wog (b := true) rfl rfl rfl) rfl rfl (d_skipA rfl (wog (b := true) rfl rfl rfl) rfl rfl (d_skip rfl (wog (b := true) rfl rfl rfl) rfl rfl (d_val rfl (wn rfl) rfl rfl (fun zw hx => py_pickT rfl rfl) (d_val rfl (wn rfl) rfl rfl (fun zw hx => py_move rfl) (d_skip rfl (wog (b := true) rfl rfl rfl) rfl rfl (d_skip rfl (wog (b := true) rfl rfl rfl) rfl rfl (d_skip rfl (wog (b := true) rfl rfl rfl) rfl rfl (d_skip rfl (wog (b := true) rfl rfl rfl) rfl rfl (d_skipA rfl (wog (b := true) rfl rfl rfl) rfl rfl (d_skip rfl (wog (b := true) rfl rfl rfl) rfl rfl (d_val rfl (wn rfl) rfl rfl (fun zw hx => py_pickT rfl rfl) (d_val rfl (wn rfl) rfl rfl (fun zw hx => py_move rfl) (d_skip rfl (wog (b := true) rfl rfl rfl) rfl rfl (d_skip rfl (wog (b := true) rfl rfl rfl) rfl rfl (d_skipA rfl (wog (b := true) rfl rfl rfl) rfl rfl (d_skip rfl (wog (b := true) rfl rfl rfl) rfl rfl (d_end rfl (wn rfl) rfl rfl (py_pickT rfl rfl) ?_))))))))))))))))))))))))))))))
                  refine d_nil ?_
                  refine W_ift rfl ?_
                  refine W_seq ?_
                  refine W_reg ?_
                  refine s_val (wn rfl) rfl rfl (py_assign rfl) ?_
                  refine s_nil ?_
                  refine W_ret (hQ _ _ (fin1 Tryz.results108 rfl ?_))
                  have kq := (kindF_share (s := s) (by omega)).trans (if_neg (by simp_all [shareOK]))
                  have kF := recF_bad (s := s) (not_false c2) (not_false c3) (by omega)
                  exact ⟨H32.ext, congrArg (Value.int .i64) ((if_neg (by omega)).trans (kF.trans kq)).symm⟩
                · try simp only [decide_eq_true_eq, decide_eq_false_iff_not] at hg4
                  refine d_val rfl (wg rfl rfl rfl) rfl rfl (fun zw hx => py_field Tryz.underlying66 rfl Tryz.sizeOf2 rfl rfl) (d_val rfl (wg rfl rfl rfl) rfl rfl (fun zw hx => py_load Tryz.underlying2 rfl rfl (cell_atL (hx.heap (H30.box 1 rfl)) rfl)) (d_val rfl (wg rfl rfl rfl) rfl rfl (fun zw hx => py_field Tryz.underlying33 rfl Tryz.sizeOf2 rfl rfl) (d_val rfl (wg rfl rfl rfl) rfl rfl (fun zw hx => py_load Tryz.underlying2 rfl rfl (cell_atL (hx.heap (H30.box 0 rfl)) rfl)) (d_val rfl (wg rfl rfl rfl) rfl rfl (fun zw hx => py_sub rfl rfl (in64 ⟨by omega, by omega⟩)) ?_))))
                  refine d_call rfl (wg rfl rfl rfl) rfl rfl (pc_call Tryz.func149 rfl Tryz_nm149 rfl) Tryz_spec_l1In (fun hS _ _ r _ => hS.trans r.1.no) (fun v17 w30 r17 => ?_)
                  obtain ⟨e30, rfl⟩ := r17
                  have H33 := H32.to e30
                  refine d_val rfl (wg rfl rfl rfl) rfl rfl (fun zw hx => py_not rfl) (d_val rfl (wn rfl) rfl rfl (fun zw hx => py_pickF rfl rfl) (d_val rfl (wn rfl) rfl rfl (fun zw hx => py_move rfl) ?_))
                  refine d_case (t := 106) rfl (fun hg5 => ?_) (fun hg5 => ?_)
                  · try simp only [decide_eq_true_eq, decide_eq_false_iff_not] at hg5
                    refine d_skip rfl (wog (b := true) rfl rfl rfl) rfl rfl (d_skip rfl (wog (b := true) rfl rfl rfl) rfl rfl (d_skip rfl (wog (b := true) rfl rfl rfl) rfl rfl (d_skipA rfl (wog (b := true) rfl rfl rfl) rfl rfl (d_skip rfl (wog (b := true) rfl rfl rfl) rfl rfl (d_skipA rfl (wog (b := true) rfl rfl rfl) rfl rfl (d_skip rfl (wog (b := true) rfl rfl rfl) rfl rfl (d_val rfl (wn rfl) rfl rfl (fun zw hx => py_pickT rfl rfl) (d_val rfl (wn rfl) rfl rfl (fun zw hx => py_move rfl) (d_skip rfl (wog (b := true) rfl rfl rfl) rfl rfl (d_skip rfl (wog (b := true) rfl rfl rfl) rfl rfl (d_skip rfl (wog (b := true) rfl rfl rfl) rfl rfl (d_skip rfl (wog (b := true) rfl rfl rfl) rfl rfl (d_skipA rfl (wog (b := true) rfl rfl rfl) rfl rfl (d_skip rfl (wog (b := true) rfl rfl rfl) rfl rfl (d_val rfl (wn rfl) rfl rfl (fun zw hx => py_pickT rfl rfl) (d_val rfl (wn rfl) rfl rfl (fun zw hx => py_move rfl) (d_skip rfl (wog (b := true) rfl rfl rfl) rfl rfl (d_skip rfl (wog (b := true) rfl rfl rfl) rfl rfl (d_skipA rfl (wog (b := true) rfl rfl rfl) rfl rfl (d_skip rfl (wog (b := true) rfl rfl rfl) rfl rfl (d_end rfl (wn rfl) rfl rfl (py_pickT rfl rfl) ?_)))))))))))))))))))))
                    refine d_nil ?_
                    refine W_ift rfl ?_
                    refine W_seq ?_
                    refine W_reg ?_
                    refine s_val (wn rfl) rfl rfl (py_assign rfl) ?_
                    refine s_nil ?_
                    refine W_ret (hQ _ _ (fin1 Tryz.results108 rfl ?_))
                    have kq := (kindF_share (s := s) (by omega)).trans (if_neg (by simp_all [shareOK]))
                    have kF := recF_bad (s := s) (not_false c2) (not_false c3) (by omega)
                    exact ⟨H33.ext, congrArg (Value.int .i64) ((if_neg (by omega)).trans (kF.trans kq)).symm⟩
                  · try simp only [decide_eq_true_eq, decide_eq_false_iff_not] at hg5
                    refine d_val rfl (wg rfl rfl rfl) rfl rfl (fun zw hx => py_field Tryz.underlying66 rfl Tryz.sizeOf25 rfl rfl) (d_val rfl (wg rfl rfl rfl) rfl rfl (fun zw hx => py_load Tryz.underlying25 rfl rfl (cell_atL (hx.heap (H30.box 1 rfl)) rfl)) (d_val rfl (wg rfl rfl rfl) rfl rfl (fun zw hx => py_loadS Tryz.underlying33 rfl Tryz.sizeOf33 rfl rfl (At.whole (hx.heap (H30.box 0 rfl)))) ?_))
                    refine d_call rfl (wg rfl rfl rfl) rfl rfl (pc_call Tryz.func83 rfl Tryz_nm83 rfl) (Tryz_spec_l5All (by assumption)) (fun hS _ _ r _ => hS.trans r.1.no) (fun v18 w31 r18 => ?_)
                    obtain ⟨e31, rfl⟩ := r18
                    have H34 := H33.to e31
                    refine d_val rfl (wg rfl rfl rfl) rfl rfl (fun zw hx => py_sub rfl rfl (in64 ⟨by omega, by omega⟩)) ?_
                    refine d_call rfl (wg rfl rfl rfl) rfl rfl (pc_call Tryz.func178 rfl Tryz_nm178 rfl) (Tryz_spec_l2Rise (H34.sees 0 rfl) (by omega)) (fun hS _ _ r _ => hS.trans r.1.no) (fun v19 w32 r19 => ?_)
                    obtain ⟨e32, rfl⟩ := r19
                    have H35 := H34.to e32
                    refine d_val rfl (wg rfl rfl rfl) rfl rfl (fun zw hx => py_not rfl) (d_val rfl (wn rfl) rfl rfl (fun zw hx => py_pickF rfl rfl) (d_val rfl (wn rfl) rfl rfl (fun zw hx => py_move rfl) ?_))
                    refine d_case (t := 115) rfl (fun hg6 => ?_) (fun hg6 => ?_)
                    · try simp only [decide_eq_true_eq, decide_eq_false_iff_not] at hg6
                      refine d_skip rfl (wog (b := true) rfl rfl rfl) rfl rfl (d_skip rfl (wog (b := true) rfl rfl rfl) rfl rfl (d_skip rfl (wog (b := true) rfl rfl rfl) rfl rfl (d_skip rfl (wog (b := true) rfl rfl rfl) rfl rfl (d_skipA rfl (wog (b := true) rfl rfl rfl) rfl rfl (d_skip rfl (wog (b := true) rfl rfl rfl) rfl rfl (d_val rfl (wn rfl) rfl rfl (fun zw hx => py_pickT rfl rfl) (d_val rfl (wn rfl) rfl rfl (fun zw hx => py_move rfl) (d_skip rfl (wog (b := true) rfl rfl rfl) rfl rfl (d_skip rfl (wog (b := true) rfl rfl rfl) rfl rfl (d_skipA rfl (wog (b := true) rfl rfl rfl) rfl rfl (d_skip rfl (wog (b := true) rfl rfl rfl) rfl rfl (d_end rfl (wn rfl) rfl rfl (py_pickT rfl rfl) ?_))))))))))))
                      refine d_nil ?_
                      refine W_ift rfl ?_
                      refine W_seq ?_
                      refine W_reg ?_
                      refine s_val (wn rfl) rfl rfl (py_assign rfl) ?_
                      refine s_nil ?_
                      refine W_ret (hQ _ _ (fin1 Tryz.results108 rfl ?_))
                      have kq := (kindF_share (s := s) (by omega)).trans (if_neg (by simp_all [shareOK]))
                      have kF := recF_bad (s := s) (not_false c2) (not_false c3) (by omega)
                      exact ⟨H35.ext, congrArg (Value.int .i64) ((if_neg (by omega)).trans (kF.trans kq)).symm⟩
                    · try simp only [decide_eq_true_eq, decide_eq_false_iff_not] at hg6
                      refine d_val rfl (wg rfl rfl rfl) rfl rfl (fun zw hx => py_field Tryz.underlying66 rfl Tryz.sizeOf61 rfl rfl) (d_val rfl (wg rfl rfl rfl) rfl rfl (fun zw hx => py_load Tryz.underlying61 rfl rfl (cell_atL (hx.heap (H30.box 1 rfl)) rfl)) (d_val rfl (wg rfl rfl rfl) rfl rfl (fun zw hx => py_len Tryz.underlying61 rfl) (d_val rfl (wg rfl rfl rfl) rfl rfl (fun zw hx => py_loadS Tryz.underlying33 rfl Tryz.sizeOf33 rfl rfl (At.whole (hx.heap (H30.box 0 rfl)))) ?_)))
                      refine d_call rfl (wg rfl rfl rfl) rfl rfl (pc_call Tryz.func177 rfl Tryz_nm177 rfl) (Tryz_spec_l4Wide (by assumption)) (fun hS _ _ r _ => hS.trans r.1.no) (fun v20 w33 r20 => ?_)
                      obtain ⟨e33, rfl⟩ := r20
                      have H36 := H35.to e33
                      refine d_val rfl (wg rfl rfl rfl) rfl rfl (fun zw hx => py_neq rfl rfl) (d_val rfl (wn rfl) rfl rfl (fun zw hx => py_pickF rfl rfl) (d_val rfl (wn rfl) rfl rfl (fun zw hx => py_move rfl) ?_))
                      refine d_case (t := 123) rfl (fun hg7 => ?_) (fun hg7 => ?_)
                      · try simp only [decide_eq_true_eq, decide_eq_false_iff_not] at hg7
                        refine d_skip rfl (wog (b := true) rfl rfl rfl) rfl rfl (d_skip rfl (wog (b := true) rfl rfl rfl) rfl rfl (d_skipA rfl (wog (b := true) rfl rfl rfl) rfl rfl (d_skip rfl (wog (b := true) rfl rfl rfl) rfl rfl (d_end rfl (wn rfl) rfl rfl (py_pickT rfl rfl) ?_))))
                        refine d_nil ?_
                        refine W_ift rfl ?_
                        refine W_seq ?_
                        refine W_reg ?_
                        refine s_val (wn rfl) rfl rfl (py_assign rfl) ?_
                        refine s_nil ?_
                        refine W_ret (hQ _ _ (fin1 Tryz.results108 rfl ?_))
                        have kq := (kindF_share (s := s) (by omega)).trans (if_neg (by simp_all [shareOK]))
                        have kF := recF_bad (s := s) (not_false c2) (not_false c3) (by omega)
                        exact ⟨H36.ext, congrArg (Value.int .i64) ((if_neg (by omega)).trans (kF.trans kq)).symm⟩
                      · have hgr := ins_iff.1 (not_false hg4)
                        have hrr : ∀ i, i < r.Rows.length → 0 ≤ r.Rows.getD i 0 ∧ r.Rows.getD i 0 < s.Groups + s.Column := fun i hi => by have := rises_get (not_false hg6) i hi; omega
                        refine d_val rfl (wg rfl rfl rfl) rfl rfl (fun zw hx => py_loadS Tryz.underlying33 rfl Tryz.sizeOf33 rfl rfl (At.whole (hx.heap (H30.box 0 rfl)))) (d_val rfl (wg rfl rfl rfl) rfl rfl (fun zw hx => py_loadS Tryz.underlying66 rfl Tryz.sizeOf66 rfl rfl (At.whole (hx.heap (H30.box 1 rfl)))) ?_)
                        refine d_call rfl (wg rfl rfl rfl) rfl rfl (pc_call Tryz.func179 rfl Tryz_nm179 rfl) (Tryz_spec_l5Weights (by assumption) (H36.sees 0 rfl) (H36.sees 1 rfl) (H36.sees 2 rfl) (by assumption) (by omega) hrr) (fun hS _ _ r _ => hS.trans r.1.no) (fun v21 w34 r21 => ?_)
                        obtain ⟨e34, rfl⟩ := r21
                        have H37 := H36.to e34
                        refine d_val rfl (wg rfl rfl rfl) rfl rfl (fun zw hx => py_not rfl) (d_end rfl (wn rfl) rfl rfl (py_pickF rfl rfl) ?_)
                        refine d_nil ?_
                        refine W_if rfl (fun c15 => ?_) (fun c15 => ?_)
                        · refine W_seq ?_
                          refine W_reg ?_
                          refine s_val (wn rfl) rfl rfl (py_assign rfl) ?_
                          refine s_nil ?_
                          refine W_ret (hQ _ _ (fin1 Tryz.results108 rfl ?_))
                          have kq := (kindF_share (s := s) (by omega)).trans (if_neg (by simp_all [shareOK]))
                          have kF := recF_bad (s := s) (not_false c2) (not_false c3) (by omega)
                          exact ⟨H37.ext, congrArg (Value.int .i64) ((if_neg (by omega)).trans (kF.trans kq)).symm⟩
                        · refine W_skip ?_
                          refine W_seq ?_
                          refine W_reg ?_
                          refine s_val (wn rfl) rfl rfl (py_field Tryz.underlying66 rfl Tryz.sizeOf61 rfl rfl) ?_
                          refine s_sto (wn rfl) Tryz.sizeOf61 rfl rfl rfl H37 2 rfl rfl (fun w35 e35 H38 => ?_)
                          dsimp only [List.nil_append, List.cons_append, List.set_cons_zero, List.set_cons_succ, layL] at H38
                          refine s_nil ?_
                          refine W_seq ?_
                          refine W_reg ?_
                          refine s_val (wn rfl) rfl rfl (py_field Tryz.underlying66 rfl Tryz.sizeOf2 rfl rfl) ?_
                          refine s_sto (wn rfl) Tryz.sizeOf2 rfl rfl rfl H38 2 rfl rfl (fun w36 e36 H39 => ?_)
                          dsimp only [List.nil_append, List.cons_append, List.set_cons_zero, List.set_cons_succ, layL] at H39
                          refine s_nil ?_
                          refine W_seq ?_
                          refine W_reg ?_
                          refine s_val (wn rfl) rfl rfl (py_field Tryz.underlying66 rfl Tryz.sizeOf2 rfl rfl) ?_
                          refine s_sto (wn rfl) Tryz.sizeOf2 rfl rfl rfl H39 2 rfl rfl (fun w37 e37 H40 => ?_)
                          dsimp only [List.nil_append, List.cons_append, List.set_cons_zero, List.set_cons_succ, layL] at H40
                          refine s_nil ?_
                          refine W_seq ?_
                          refine W_reg ?_
                          refine s_val (wn rfl) rfl rfl (py_field Tryz.underlying66 rfl Tryz.sizeOf25 rfl rfl) ?_
                          refine s_sto (wn rfl) Tryz.sizeOf25 rfl rfl rfl H40 2 rfl rfl (fun w38 e38 H41 => ?_)
                          dsimp only [List.nil_append, List.cons_append, List.set_cons_zero, List.set_cons_succ, layL] at H41
                          refine s_nil ?_
                          refine W_reg ?_
                          refine s_val (wn rfl) rfl rfl (py_field Tryz.underlying66 rfl Tryz.sizeOf61 rfl rfl) ?_
                          refine s_sto (wn rfl) Tryz.sizeOf61 rfl rfl rfl H41 2 rfl rfl (fun w39 e39 H42 => ?_)
                          dsimp only [List.nil_append, List.cons_append, List.set_cons_zero, List.set_cons_succ, layL] at H42
                          refine s_nil ?_
                          refine W_seq ?_
                          refine W_seq ?_
                          refine W_reg ?_
                          refine s_val (wn rfl) rfl rfl (py_loadS Tryz.underlying66 rfl Tryz.sizeOf66 rfl rfl (At.whole (H42.box 2 rfl))) ?_
                          refine s_call (wn rfl) rfl rfl (pc_call Tryz.func180 rfl Tryz_nm180 rfl) (Tryz_spec_l5Empty (r := ⟨r.Kind, r.Seq, r.Name, r.Length, 0, 0, [], [], []⟩) (rest_ok4 rK) ⟨[], .inr (.inl ⟨rfl, rfl, rfl⟩)⟩ ⟨[], .inr (.inl ⟨rfl, rfl, rfl⟩)⟩ ⟨[], .inr (.inl ⟨rfl, rfl, rfl⟩)⟩) (fun v22 w40 r22 => ?_)
                          obtain ⟨e40, rfl⟩ := r22
                          have H43 := H42.to e40
                          refine s_val (wn rfl) rfl rfl (py_not rfl) ?_
                          refine s_nil ?_
                          refine W_if rfl (fun c16 => ?_) (fun c16 => ?_)
                          · refine W_seq ?_
                            refine W_reg ?_
                            refine s_val (wn rfl) rfl rfl (py_assign rfl) ?_
                            refine s_nil ?_
                            refine W_ret (hQ _ _ (fin1 Tryz.results108 rfl ?_))
                            have kq := (kindF_share (s := s) (by omega)).trans (if_pos (by simp_all [shareOK]))
                            exact ⟨H43.ext, congrArg (Value.int .i64) ((if_neg (by omega)).trans (recF_form (not_false c2) (not_false c3) kq (by rw [← rest_bare4 (by omega)]; exact not_true c16))).symm⟩
                          · refine W_skip ?_
                            refine W_seq ?_
                            refine W_reg ?_
                            refine s_val (wn rfl) rfl rfl (py_assign rfl) ?_
                            refine s_nil ?_
                            refine W_ret (hQ _ _ (fin1 Tryz.results108 rfl ?_))
                            have kq := (kindF_share (s := s) (by omega)).trans (if_pos (by simp_all [shareOK]))
                            exact ⟨H43.ext, congrArg (Value.int .i64) ((if_neg (by omega)).trans (recF_ok (not_false c2) (not_false c3) kq (by rw [← rest_bare4 (by omega)]; exact not_false c16))).symm⟩
              · exfalso; omega
theorem Tryz_impl_blockOK {w : World} {b : Block} {bA1 : Option Addr} {bC1 : Nat} (bK : b.Ok) (bS1 : Sees w [.slice bA1 b.Bytes.length bC1] b.Bytes) : Ret Tryz.prog 219 #[b.val bA1 bC1] w fun v w' => Ext No w w' ∧ (v = .bool (blockOK b)) := by
  have bK2 := bK
  unfold Block.Ok at bK2
  try unfold I64ok at bK2
  try unfold maxLen at bK2
  have bL1 := sees_len bS1
  unfold maxLen at bL1
  obtain ⟨bF1, bO1⟩ := bS1
  refine ret_Q (vs := [b.val bA1 bC1]) Tryz.func219 rfl Tryz.ntmps219 rfl (fun Q hQ hN => ?_)
  have H0 := Sep.start (w := w) (F := [seen false [.slice bA1 b.Bytes.length bC1] b.Bytes bF1]) (all_cons bO1 (by simp))
  refine W_seq ?_
  refine W_reg ?_
  refine s_box (wn rfl) rfl rfl H0 (fun b1 w1 e1 g1 H1 => ?_)
  refine s_val (wn rfl) rfl rfl (py_assign rfl) ?_
  refine s_nil ?_
  refine W_seq ?_
  refine W_reg ?_
  refine s_val (wn rfl) rfl rfl (py_field Tryz.underlying152 rfl Tryz.sizeOf2 rfl rfl) (s_val (wn rfl) rfl rfl (py_load Tryz.underlying2 rfl rfl (cell_atL (H1.box 0 rfl) rfl)) ?_)
  refine s_call (wn rfl) rfl rfl (pc_call Tryz.func154 rfl Tryz_nm154 rfl) Tryz_impl_inside (fun v1 w2 r1 => ?_)
  obtain ⟨e2, rfl⟩ := r1
  have H2 := H1.to e2
  refine s_val (wn rfl) rfl rfl (py_move rfl) ?_
  refine s_grp 4 (j := 3) (want := true) (t := 10) rfl rfl rfl rfl (fun hg1 kk1 => s_val (wgE rfl rfl rfl hg1) rfl rfl (py_field Tryz.underlying152 rfl Tryz.sizeOf61 rfl rfl) (s_val (wgE rfl rfl rfl hg1) rfl rfl (py_load Tryz.underlying61 rfl rfl (cell_atL (H2.box 0 rfl) rfl)) (s_val (wgE rfl rfl rfl hg1) rfl rfl (py_len Tryz.underlying61 rfl) (s_val (wgE rfl rfl rfl hg1) rfl rfl (py_eql rfl rfl) (kk1 _ _ (kx rfl (kx rfl (kx rfl (kx rfl k0)))) rfl Ext.refl))))) (fun w3 e3 => ?_)
  have H3 := H2.to e3
  refine s_val (wn rfl) rfl rfl (py_band rfl rfl) (s_val (wn rfl) rfl rfl (py_assign rfl) ?_)
  refine s_nil ?_
  refine W_ret (hQ _ _ (fin1 Tryz.results219 rfl ?_))
  exact ⟨H3.ext, congrArg Value.bool (by simp only [blockOK]; congr 1; exact decide_eq_decide.2 (by omega))⟩
theorem Tryz_impl_groupsOK_1 {w : World} {b : Block} {bA1 : Option Addr} {bC1 : Nat} (bK : b.Ok) (bS1 : Sees w [.slice bA1 b.Bytes.length bC1] b.Bytes) : Ret Tryz.prog 218 #[b.val bA1 bC1] w fun v w' => Ext No w w' ∧ (v = .bool (!blockOK b)) := by
  have bK2 := bK
  unfold Block.Ok at bK2
  try unfold I64ok at bK2
  try unfold maxLen at bK2
  have bL1 := sees_len bS1
  unfold maxLen at bL1
  obtain ⟨bF1, bO1⟩ := bS1
  refine ret_Q (vs := [b.val bA1 bC1]) Tryz.func218 rfl Tryz.ntmps218 rfl (fun Q hQ hN => ?_)
  have H0 := Sep.start (w := w) (F := [seen false [.slice bA1 b.Bytes.length bC1] b.Bytes bF1]) (all_cons bO1 (by simp))
  refine W_seq ?_
  refine W_reg ?_
  refine s_box (wn rfl) rfl rfl H0 (fun b1 w1 e1 g1 H1 => ?_)
  refine s_val (wn rfl) rfl rfl (py_assign rfl) ?_
  refine s_nil ?_
  refine W_seq ?_
  refine W_reg ?_
  refine s_val (wn rfl) rfl rfl (py_loadS Tryz.underlying152 rfl Tryz.sizeOf152 rfl rfl (At.whole (H1.box 0 rfl))) ?_
  refine s_call (wn rfl) rfl rfl (pc_call Tryz.func219 rfl Tryz_nm219 rfl) (Tryz_impl_blockOK (by assumption) (H1.sees 0 rfl)) (fun v1 w2 r1 => ?_)
  obtain ⟨e2, rfl⟩ := r1
  have H2 := H1.to e2
  refine s_val (wn rfl) rfl rfl (py_not rfl) (s_val (wn rfl) rfl rfl (py_assign rfl) ?_)
  refine s_nil ?_
  refine W_ret (hQ _ _ (fin1 Tryz.results218 rfl ?_))
  exact ⟨H2.ext, rfl⟩
set_option maxHeartbeats 1000000 in
theorem Tryz_impl_groupsOK {w : World} {z : Wld} {zA9 : Option Addr} {zC9 : Nat} {zA10 : Option Addr} {zC10 : Nat} {zA11 : Option Addr} {zC11 : Nat} (zK : z.Ok) (zS9 : Sees w [.slice zA9 z.Groups.length zC9] z.Groups) (zS10 : Sees w [.slice zA10 z.On.length zC10] z.On) (zS11 : Sees w [.slice zA11 z.Tapes.length zC11] z.Tapes) (hs : z.Shape.ok = true) : Ret Tryz.prog 151 #[z.val zA9 zC9 zA10 zC10 zA11 zC11] w fun v w' => Ext No w w' ∧ (v = .bool (groupsOK z)) := by
  have zK2 := zK
  unfold Wld.Ok Shape.Ok at zK2
  try unfold I64ok at zK2
  try unfold maxLen at zK2
  have zL9 := sees_len zS9
  unfold maxLen at zL9
  obtain ⟨zF9, zO9⟩ := zS9
  have zL10 := sees_len zS10
  unfold maxLen at zL10
  obtain ⟨zF10, zO10⟩ := zS10
  have zL11 := sees_len zS11
  unfold maxLen at zL11
  obtain ⟨zF11, zO11⟩ := zS11
  have sbd := shape_bd hs
  refine ret_Q (vs := [z.val zA9 zC9 zA10 zC10 zA11 zC11]) Tryz.func151 rfl Tryz.ntmps151 rfl (fun Q hQ hN => ?_)
  have H0 := Sep.start (w := w) (F := [seen false [.slice zA9 z.Groups.length zC9] z.Groups zF9, seen false [.slice zA10 z.On.length zC10] z.On zF10, seen false [.slice zA11 z.Tapes.length zC11] z.Tapes zF11]) (all_cons zO9 (all_cons zO10 (all_cons zO11 (by simp))))
  refine W_seq ?_
  refine W_reg ?_
  refine s_box (wn rfl) rfl rfl H0 (fun b1 w1 e1 g1 H1 => ?_)
  refine s_val (wn rfl) rfl rfl (py_assign rfl) ?_
  refine s_nil ?_
  refine W_seq ?_
  refine W_reg ?_
  refine s_val (wn rfl) rfl rfl (py_field Tryz.underlying37 rfl Tryz.sizeOf33 rfl rfl) (s_val (wn rfl) rfl rfl (py_loadS Tryz.underlying33 rfl Tryz.sizeOf33 rfl rfl (At.sub (H1.box 0 rfl) 9)) ?_)
  refine s_var (wn rfl) rfl Tryz.zeroValue33 H1 (fun b2 w2 e2 g2 H2 => ?_)
  refine s_stoS (wn rfl) Tryz.sizeOf33 rfl rfl rfl rfl H2 1 rfl rfl (fun w3 e3 H3 => ?_)
  dsimp only [List.nil_append, List.cons_append, List.set_cons_zero, List.set_cons_succ, layL] at H3
  refine s_nil ?_
  refine W_seq ?_
  refine W_seq ?_
  refine W_drw (S := Ext No _) [(0, true), (1, true), (3, true), (2, false), (4, false), (5, false)] (by kernel_rfl) (by kernel_rfl) (by kernel_rfl) rfl (fun _ => Ext.refl.drawn _) (fun q1 => ?_)
  have H4 := H3.drawn q1
  refine d_val rfl (wn rfl) rfl rfl (fun zw hx => py_field Tryz.underlying37 rfl Tryz.sizeOf34 rfl rfl) (d_val rfl (wn rfl) rfl rfl (fun zw hx => py_load Tryz.underlying34 rfl rfl (cell_atL (hx.heap (H4.box 0 rfl)) rfl)) (d_val rfl (wn rfl) rfl rfl (fun zw hx => py_loadS Tryz.underlying33 rfl Tryz.sizeOf33 rfl rfl (At.whole (hx.heap (H4.box 1 rfl)))) ?_))
  refine d_call rfl (wn rfl) rfl rfl (pc_call Tryz.func213 rfl Tryz_nm213 rfl) (Tryz_size_ListDrive (H4.sees 0 rfl)) (fun hS _ _ r _ => hS.trans r.1.no) (fun v1 w4 r1 => ?_)
  obtain ⟨e4, rfl⟩ := r1
  have H5 := H4.to e4
  refine d_call rfl (wn rfl) rfl rfl (pc_call Tryz.func86 rfl Tryz_nm86 rfl) (Tryz_impl_Shape_all (by assumption)) (fun hS _ _ r _ => hS.trans r.1.no) (fun v2 w5 r2 => ?_)
  obtain ⟨e5, rfl⟩ := r2
  have H6 := H5.to e5
  refine d_end rfl (wn rfl) rfl rfl (py_neq rfl rfl) ?_
  refine d_nil ?_
  refine W_ifd rfl (fun c1 => ?_) (fun c1 => ?_)
  · refine W_seq ?_
    refine W_reg ?_
    refine s_val (wn rfl) rfl rfl (py_assign rfl) ?_
    refine s_nil ?_
    refine W_ret (hQ _ _ (fin1 Tryz.results151 rfl ?_))
    exact ⟨H6.ext, congrArg Value.bool (groupsOK_len (by omega)).symm⟩
  · refine W_skip ?_
    refine W_seq ?_
    refine W_seq ?_
    refine W_reg ?_
    refine s_val (wn rfl) rfl rfl (py_field Tryz.underlying37 rfl Tryz.sizeOf34 rfl rfl) (s_val (wn rfl) rfl rfl (py_load Tryz.underlying34 rfl rfl (cell_atL (H6.box 0 rfl) rfl)) (s_val (wn rfl) rfl rfl (py_len Tryz.underlying34 rfl) (s_val (wn rfl) rfl rfl (py_move rfl) ?_)))
    refine s_nil ?_
    refine W_block ?_
    refine W_loopS (γ := Nat) H6 [(3, _), (17, _), (18, _)] ⟨rfl, rfl, rfl, trivial⟩ (fun k => [(19, .int .i64 k)]) (fun k => k ≤ z.Groups.length ∧ (∀ i, i < k → groupOK z.Shape (z.Groups.getD i []) = true)) (fun k => z.Groups.length - k) 0 ⟨rfl, trivial⟩ ⟨by omega, fun i hi => by omega⟩ (fun k w6 H7 ⟨hk, he⟩ => ?_)
    dsimp only [List.cons_append, List.nil_append]
    refine W_seq ?_
    refine W_reg ?_
    refine s_val (wn rfl) rfl rfl (py_lss rfl rfl) ?_
    refine s_nil ?_
    refine W_seq ?_
    refine W_ifd rfl (fun c2 => ?_) (fun c2 => ?_)
    · refine W_skip ?_
      refine W_seq ?_
      refine W_block ?_
      refine W_seq ?_
      obtain ⟨eb1, eo1, ea1, ek1, ef1, ee1, ec1, eO1, eH1⟩ := elem_sl (H7.seen 0 rfl) k (by omega)
      have eP1 := H7.look1 0 rfl eO1 eH1
      refine W_reg ?_
      refine s_val (wn rfl) rfl rfl (py_elz Tryz.underlying34 Tryz.sizeOf147 rfl rfl ee1 k (by omega) (by omega)) (s_val (wn rfl) rfl rfl (py_load Tryz.underlying147 rfl rfl ec1) (s_val (wn rfl) rfl rfl (py_assign rfl) ?_))
      refine s_nil ?_
      refine W_seq ?_
      refine W_seq ?_
      refine W_drw (S := Ext No _) [(0, true), (2, true), (1, false), (3, false), (4, false)] (by kernel_rfl) (by kernel_rfl) (by kernel_rfl) rfl (fun _ => Ext.refl.drawn _) (fun q2 => ?_)
      have H8 := eP1.drawn q2
      refine d_val rfl (wn rfl) rfl rfl (fun zw hx => py_move rfl) (d_val rfl (wn rfl) rfl rfl (fun zw hx => py_loadS Tryz.underlying33 rfl Tryz.sizeOf33 rfl rfl (At.whole (hx.heap (H8.box 1 rfl)))) ?_)
      refine d_call rfl (wn rfl) rfl rfl (pc_call Tryz.func214 rfl Tryz_nm214 rfl) (Tryz_size_Drive (H8.sees 3 rfl)) (fun hS _ _ r _ => hS.trans r.1.no) (fun v3 w7 r3 => ?_)
      obtain ⟨e6, rfl⟩ := r3
      have H9 := H8.to e6
      refine d_call rfl (wn rfl) rfl rfl (pc_call Tryz.func215 rfl Tryz_nm215 rfl) (Tryz_impl_Shape_drives (by assumption)) (fun hS _ _ r _ => hS.trans r.1.no) (fun v4 w8 r4 => ?_)
      obtain ⟨e7, rfl⟩ := r4
      have H10 := H9.to e7
      refine d_end rfl (wn rfl) rfl rfl (py_neq rfl rfl) ?_
      refine d_nil ?_
      refine W_ifd rfl (fun c3 => ?_) (fun c3 => ?_)
      · refine W_seq ?_
        refine W_reg ?_
        refine s_val (wn rfl) rfl rfl (py_assign rfl) ?_
        refine s_nil ?_
        refine W_ret (hQ _ _ (fin1 Tryz.results151 rfl ?_))
        exact ⟨H10.ext, congrArg Value.bool (groupsOK_at k (by omega) (groupOK_len (by omega))).symm⟩
      · refine W_skip ?_
        refine W_seq ?_
        refine W_reg ?_
        refine s_val (wn rfl) rfl rfl (py_move rfl) (s_val (wn rfl) rfl rfl (py_len Tryz.underlying147 rfl) (s_val (wn rfl) rfl rfl (py_move rfl) ?_))
        refine s_nil ?_
        refine W_block ?_
        refine W_loopS (γ := Nat) H10 [(3, _), (17, _), (18, _), (19, _), (28, _), (29, _)] ⟨rfl, rfl, rfl, rfl, rfl, rfl, trivial⟩ (fun k2 => [(30, .int .i64 k2)]) (fun k2 => k2 ≤ (z.Groups.getD k []).length ∧ (∀ i, i < k2 → driveOK z.Shape ((z.Groups.getD k []).getD i default) = true)) (fun k2 => (z.Groups.getD k []).length - k2) 0 ⟨rfl, trivial⟩ ⟨by omega, fun i hi => by omega⟩ (fun k2 w9 H11 ⟨hk2, hek2⟩ => ?_)
        dsimp only [List.cons_append, List.nil_append]
        refine W_seq ?_
        refine W_reg ?_
        refine s_val (wn rfl) rfl rfl (py_lss rfl rfl) ?_
        refine s_nil ?_
        refine W_seq ?_
        refine W_ifd rfl (fun c4 => ?_) (fun c4 => ?_)
        · refine W_skip ?_
          refine W_seq ?_
          refine W_block ?_
          refine W_seq ?_
          obtain ⟨eb2, eo2, es1, ef2, ee2, ec2, eO2, eH2, em1⟩ := elem_st (H11.seen 3 rfl) k2 (by omega)
          obtain ⟨ea2, ek2, eg1, rfl, eq1, eK1, eo3⟩ := own_Drive eO2
          have eP2 := H11.look1 3 rfl eo3 (fun b hb => eH2 b (by rw [eq1]; simp [hb]))
          have eL1 := own_len_le eo3
          unfold maxLen at eL1
          refine W_reg ?_
          refine s_val (wn rfl) rfl rfl (py_elz Tryz.underlying147 Tryz.sizeOf150 rfl rfl ee2 k2 (by omega) (by omega)) (s_val (wn rfl) rfl rfl (py_loadS Tryz.underlying150 rfl Tryz.sizeOf150 rfl rfl ec2) ?_)
          refine s_var (wn rfl) rfl Tryz.zeroValue150 eP2 (fun b3 w10 e8 g3 H12 => ?_)
          refine s_stoS (wn rfl) Tryz.sizeOf150 rfl rfl rfl rfl H12 2 rfl rfl (fun w11 e9 H13 => ?_)
          dsimp only [List.nil_append, List.cons_append, List.set_cons_zero, List.set_cons_succ, layL] at H13
          refine s_nil ?_
          refine W_seq ?_
          refine W_drw (S := Ext No _) [(0, true), (1, true), (3, true), (4, true), (2, false), (5, true), (6, true), (7, true), (8, true), (9, false), (10, false)] (by kernel_rfl) (by kernel_rfl) (by kernel_rfl) rfl (fun _ => Ext.refl.drawn _) (fun q3 => ?_)
          have H14 := H13.drawn q3
          refine d_val rfl (wn rfl) rfl rfl (fun zw hx => py_field Tryz.underlying150 rfl Tryz.sizeOf148 rfl rfl) (d_val rfl (wn rfl) rfl rfl (fun zw hx => py_load Tryz.underlying148 rfl rfl (cell_atL (hx.heap (H14.box 2 rfl)) rfl)) (d_val rfl (wn rfl) rfl rfl (fun zw hx => py_field Tryz.underlying33 rfl Tryz.sizeOf2 rfl rfl) (d_val rfl (wn rfl) rfl rfl (fun zw hx => py_load Tryz.underlying2 rfl rfl (cell_atL (hx.heap (H14.box 1 rfl)) rfl)) ?_)))
          refine d_call rfl (wn rfl) rfl rfl (pc_call Tryz.func216 rfl Tryz_nm216 rfl) (Tryz_size_Block (H14.sees 4 rfl)) (fun hS _ _ r _ => hS.trans r.1.no) (fun v5 w12 r5 => ?_)
          obtain ⟨e10, rfl⟩ := r5
          have H15 := H14.to e10
          refine d_val rfl (wn rfl) rfl rfl (fun zw hx => py_neq rfl rfl) (d_val rfl (wn rfl) rfl rfl (fun zw hx => py_move rfl) ?_)
          refine d_case (t := 40) rfl (fun hg1 => ?_) (fun hg1 => ?_)
          · try simp only [decide_eq_true_eq, decide_eq_false_iff_not] at hg1
            refine d_skip rfl (wog (b := true) rfl rfl rfl) rfl rfl (d_skip rfl (wog (b := true) rfl rfl rfl) rfl rfl (d_skipA rfl (wog (b := true) rfl rfl rfl) rfl rfl (d_end rfl (wn rfl) rfl rfl (py_pickT rfl rfl) ?_)))
            refine d_nil ?_
            refine W_ift rfl ?_
            refine W_seq ?_
            refine W_reg ?_
            refine s_val (wn rfl) rfl rfl (py_assign rfl) ?_
            refine s_nil ?_
            refine W_ret (hQ _ _ (fin1 Tryz.results151 rfl ?_))
            exact ⟨H15.ext, congrArg Value.bool (groupsOK_at k (by omega) (groupOK_at k2 (by omega) (driveOK_len (by omega)))).symm⟩
          · try simp only [decide_eq_true_eq, decide_eq_false_iff_not] at hg1
            refine d_val rfl (wg rfl rfl rfl) rfl rfl (fun zw hx => py_field Tryz.underlying150 rfl Tryz.sizeOf148 rfl rfl) (d_val rfl (wg rfl rfl rfl) rfl rfl (fun zw hx => py_load Tryz.underlying148 rfl rfl (cell_atL (hx.heap (H14.box 2 rfl)) rfl)) ?_)
            refine d_call rfl (wg rfl rfl rfl) rfl rfl (pc_call Tryz.func217 rfl Tryz_nm217 rfl) (Tryz_ContainsFunc_Block (H15.sees 4 rfl) (p := (fun b => !blockOK b)) Tryz.func218 rfl Tryz_nm218 (fun w1 e1 i0 hi0 _ _ K0 o0_1 => Tryz_impl_groupsOK_1 K0 o0_1)) (fun hS _ _ r _ => hS.trans r.1.no) (fun v6 w13 r6 => ?_)
            obtain ⟨e11, rfl⟩ := r6
            have H16 := H15.to e11
            refine d_end rfl (wn rfl) rfl rfl (py_pickF rfl rfl) ?_
            refine d_nil ?_
            refine W_if rfl (fun c5 => ?_) (fun c5 => ?_)
            · refine W_seq ?_
              refine W_reg ?_
              refine s_val (wn rfl) rfl rfl (py_assign rfl) ?_
              refine s_nil ?_
              refine W_ret (hQ _ _ (fin1 Tryz.results151 rfl ?_))
              exact ⟨H16.ext, congrArg Value.bool (groupsOK_at k (by omega) (groupOK_at k2 (by omega) (driveOK_bad c5))).symm⟩
            · refine W_skip ?_
              refine W_reg ?_
              refine s_val (wn rfl) rfl rfl (py_add rfl rfl (in64 ⟨by omega, by omega⟩)) (s_val (wn rfl) rfl rfl (py_move rfl) ?_)
              refine s_nil ?_
              refine ⟨k2 + 1, ⟨rfl, rfl, rfl, rfl, rfl, rfl, rfl, trivial⟩, ⟨((H16.ftake 4).dtake 2), by omega, fun i hi => ?_⟩, by dsimp only; omega⟩
              by_cases e : i = k2
              · subst e
                exact driveOK_yes (by omega) c5
              · exact hek2 i (by omega)
        · refine W_exit ?_
          refine W_reg ?_
          refine s_val (wn rfl) rfl rfl (py_add rfl rfl (in64 ⟨by omega, by omega⟩)) (s_val (wn rfl) rfl rfl (py_move rfl) ?_)
          refine s_nil ?_
          refine ⟨k + 1, ⟨rfl, rfl, rfl, rfl, trivial⟩, ⟨(H11.ftake 3), by omega, fun i hi => ?_⟩, by dsimp only; omega⟩
          by_cases e : i = k
          · subst e
            exact groupOK_yes (by omega) (fun i hi => hek2 i (by omega))
          · exact he i (by omega)
    · refine W_exit ?_
      refine W_seq ?_
      refine W_reg ?_
      refine s_val (wn rfl) rfl rfl (py_assign rfl) ?_
      refine s_nil ?_
      refine W_ret (hQ _ _ (fin1 Tryz.results151 rfl ?_))
      exact ⟨H7.ext, congrArg Value.bool (groupsOK_yes (by omega) (fun i hi => he i (by omega))).symm⟩
theorem Tryz_impl_onOK {w : World} {z : Wld} {zA9 : Option Addr} {zC9 : Nat} {zA10 : Option Addr} {zC10 : Nat} {zA11 : Option Addr} {zC11 : Nat} (zK : z.Ok) (zS9 : Sees w [.slice zA9 z.Groups.length zC9] z.Groups) (zS10 : Sees w [.slice zA10 z.On.length zC10] z.On) (zS11 : Sees w [.slice zA11 z.Tapes.length zC11] z.Tapes) (hs : z.Shape.ok = true) : Ret Tryz.prog 152 #[z.val zA9 zC9 zA10 zC10 zA11 zC11] w fun v w' => Ext No w w' ∧ (v = .bool (onOK z)) := by
  have zK2 := zK
  unfold Wld.Ok Shape.Ok at zK2
  try unfold I64ok at zK2
  try unfold maxLen at zK2
  have zL9 := sees_len zS9
  unfold maxLen at zL9
  obtain ⟨zF9, zO9⟩ := zS9
  have zL10 := sees_len zS10
  unfold maxLen at zL10
  obtain ⟨zF10, zO10⟩ := zS10
  have zL11 := sees_len zS11
  unfold maxLen at zL11
  obtain ⟨zF11, zO11⟩ := zS11
  have sbd := shape_bd hs
  refine ret_Q (vs := [z.val zA9 zC9 zA10 zC10 zA11 zC11]) Tryz.func152 rfl Tryz.ntmps152 rfl (fun Q hQ hN => ?_)
  have H0 := Sep.start (w := w) (F := [seen false [.slice zA9 z.Groups.length zC9] z.Groups zF9, seen false [.slice zA10 z.On.length zC10] z.On zF10, seen false [.slice zA11 z.Tapes.length zC11] z.Tapes zF11]) (all_cons zO9 (all_cons zO10 (all_cons zO11 (by simp))))
  refine W_seq ?_
  refine W_reg ?_
  refine s_box (wn rfl) rfl rfl H0 (fun b1 w1 e1 g1 H1 => ?_)
  refine s_val (wn rfl) rfl rfl (py_assign rfl) ?_
  refine s_nil ?_
  refine W_seq ?_
  refine W_seq ?_
  refine W_reg ?_
  refine s_val (wn rfl) rfl rfl (py_field Tryz.underlying37 rfl Tryz.sizeOf25 rfl rfl) (s_val (wn rfl) rfl rfl (py_load Tryz.underlying25 rfl rfl (cell_atL (H1.box 0 rfl) rfl)) (s_val (wn rfl) rfl rfl (py_len Tryz.underlying25 rfl) (s_val (wn rfl) rfl rfl (py_move rfl) ?_)))
  refine s_nil ?_
  refine W_block ?_
  refine W_loopS (γ := Nat) H1 [(1, _), (6, _), (7, _)] ⟨rfl, rfl, rfl, trivial⟩ (fun k => [(8, .int .i64 k)]) (fun k => k ≤ z.On.length ∧ (∀ i, i < k → apartAt z.On (z.Shape.Groups + z.Shape.Column - 1) i = true)) (fun k => z.On.length - k) 0 ⟨rfl, trivial⟩ ⟨by omega, fun i hi => by omega⟩ (fun k w2 H2 ⟨hk, he⟩ => ?_)
  dsimp only [List.cons_append, List.nil_append]
  refine W_seq ?_
  refine W_reg ?_
  refine s_val (wn rfl) rfl rfl (py_lss rfl rfl) ?_
  refine s_nil ?_
  refine W_seq ?_
  refine W_ifd rfl (fun c1 => ?_) (fun c1 => ?_)
  · refine W_skip ?_
    refine W_seq ?_
    refine W_block ?_
    refine W_seq ?_
    obtain ⟨eb1, eo1, ee1, ec1⟩ := elem_int (H2.seen 1 rfl) k (by omega)
    have eI1 := elem_i64 (H2.seen 1 rfl) k (by omega)
    refine W_reg ?_
    refine s_val (wn rfl) rfl rfl (py_move rfl) (s_val (wn rfl) rfl rfl (py_elz Tryz.underlying25 Tryz.sizeOf2 rfl rfl ee1 k (by omega) (by omega)) (s_val (wn rfl) rfl rfl (py_load Tryz.underlying2 rfl rfl ec1) (s_val (wn rfl) rfl rfl (py_assign rfl) (s_val (wn rfl) rfl rfl (py_assign rfl) ?_))))
    refine s_nil ?_
    refine W_seq ?_
    refine W_reg ?_
    refine s_val (wn rfl) rfl rfl (py_field Tryz.underlying37 rfl Tryz.sizeOf33 rfl rfl) (s_val (wn rfl) rfl rfl (py_loadS Tryz.underlying33 rfl Tryz.sizeOf33 rfl rfl (At.sub (H2.box 0 rfl) 9)) (s_val (wn rfl) rfl rfl (py_move rfl) ?_))
    refine s_call (wn rfl) rfl rfl (pc_call Tryz.func94 rfl Tryz_nm94 rfl) (Tryz_impl_Shape_isGroup (by assumption)) (fun v1 w3 r1 => ?_)
    obtain ⟨e2, rfl⟩ := r1
    have H3 := H2.to e2
    refine s_val (wn rfl) rfl rfl (py_not rfl) (s_val (wn rfl) rfl rfl (py_move rfl) ?_)
    refine s_case (t := 18) rfl (fun hg1 => ?_) (fun hg1 => ?_)
    · try simp only [decide_eq_true_eq, decide_eq_false_iff_not] at hg1
      refine s_skip (wog (b := true) rfl rfl rfl) rfl rfl (s_skip (wog (b := true) rfl rfl rfl) rfl rfl (s_skip (wog (b := true) rfl rfl rfl) rfl rfl (s_skip (wog (b := true) rfl rfl rfl) rfl rfl (s_skip (wog (b := true) rfl rfl rfl) rfl rfl (s_skip (wog (b := true) rfl rfl rfl) rfl rfl (s_val (wn rfl) rfl rfl (py_pickT rfl rfl) ?_))))))
      refine s_nil ?_
      refine W_ift rfl ?_
      refine W_seq ?_
      refine W_reg ?_
      refine s_val (wn rfl) rfl rfl (py_assign rfl) ?_
      refine s_nil ?_
      refine W_ret (hQ _ _ (fin1 Tryz.results152 rfl ?_))
      exact ⟨H3.ext, congrArg Value.bool (onOK_apart (all_no k (by omega) (by simp only [apartAt, cut_take] at *; simp_all))).symm⟩
    · try simp only [decide_eq_true_eq, decide_eq_false_iff_not] at hg1
      refine s_val (wg rfl rfl rfl) rfl rfl (py_field Tryz.underlying37 rfl Tryz.sizeOf25 rfl rfl) (s_val (wg rfl rfl rfl) rfl rfl (py_load Tryz.underlying25 rfl rfl (cell_atL (H3.box 0 rfl) rfl)) (s_val (wg rfl rfl rfl) rfl rfl (py_move rfl) ?_))
      have sc1 := own_le_cap (H3.seen 1 rfl)
      obtain ⟨sf1, so1, ss1⟩ := own_cutL (H3.seen 1 rfl) (0) (k) _ (by omega) (by omega) (by omega) (Nat.le_refl _)
      have H4 := H3.look1 1 rfl so1 ss1
      have sl1 := cut_len (xs := z.On) (l := 0) (h := k) (by omega)
      refine s_val (wg rfl rfl rfl) rfl rfl (py_slcHN Tryz.underlying25 Tryz.sizeOf2 rfl rfl (k) (by omega) (by omega) sl1) ((s_val (wg rfl rfl rfl) rfl rfl (py_move rfl) ?_))
      refine s_call (wg rfl rfl rfl) rfl rfl (pc_call Tryz.func220 rfl Tryz_nm220 rfl) (Tryz_slices_Contains_int64_int64 (H4.sees 3 rfl)) (fun v2 w4 r2 => ?_)
      obtain ⟨e3, rfl⟩ := r2
      have H5 := H4.to e3
      refine s_val (wn rfl) rfl rfl (py_pickF rfl rfl) ?_
      refine s_nil ?_
      refine W_if rfl (fun c2 => ?_) (fun c2 => ?_)
      · refine W_seq ?_
        refine W_reg ?_
        refine s_val (wn rfl) rfl rfl (py_assign rfl) ?_
        refine s_nil ?_
        refine W_ret (hQ _ _ (fin1 Tryz.results152 rfl ?_))
        exact ⟨H5.ext, congrArg Value.bool (onOK_apart (all_no k (by omega) (by simp only [apartAt, cut_take] at *; simp_all))).symm⟩
      · refine W_skip ?_
        refine W_reg ?_
        refine s_val (wn rfl) rfl rfl (py_add rfl rfl (in64 ⟨by omega, by omega⟩)) (s_val (wn rfl) rfl rfl (py_move rfl) ?_)
        refine s_nil ?_
        refine ⟨k + 1, ⟨rfl, rfl, rfl, rfl, trivial⟩, ⟨(H5.ftake 3), by omega, fun i hi => ?_⟩, by dsimp only; omega⟩
        by_cases e : i = k
        · subst e
          simp only [apartAt, cut_take] at *; simp_all
        · exact he i (by omega)
  · refine W_exit ?_
    refine W_seq ?_
    refine W_drw (S := Ext No _) [(0, true), (1, true), (3, true), (4, true), (5, true), (2, false), (6, true), (7, true), (8, true), (9, true), (10, true), (11, true), (12, true), (13, true), (14, true), (15, true), (16, true), (17, true), (18, false)] (by kernel_rfl) (by kernel_rfl) (by kernel_rfl) rfl (fun _ => Ext.refl.drawn _) (fun q1 => ?_)
    have H6 := H2.drawn q1
    refine d_val rfl (wn rfl) rfl rfl (fun zw hx => py_field Tryz.underlying37 rfl Tryz.sizeOf25 rfl rfl) (d_val rfl (wn rfl) rfl rfl (fun zw hx => py_load Tryz.underlying25 rfl rfl (cell_atL (hx.heap (H6.box 0 rfl)) rfl)) (d_val rfl (wn rfl) rfl rfl (fun zw hx => py_field Tryz.underlying37 rfl Tryz.sizeOf33 rfl rfl) (d_val rfl (wn rfl) rfl rfl (fun zw hx => py_field Tryz.underlying33 rfl Tryz.sizeOf2 rfl rfl) (d_val rfl (wn rfl) rfl rfl (fun zw hx => py_load Tryz.underlying2 rfl rfl (cell_atL (hx.heap (H6.box 0 rfl)) rfl)) ?_))))
    refine d_call rfl (wn rfl) rfl rfl (pc_call Tryz.func155 rfl Tryz_nm155 rfl) (Tryz_size_int64 (H6.sees 1 rfl)) (fun hS _ _ r _ => hS.trans r.1.no) (fun v3 w5 r3 => ?_)
    obtain ⟨e4, rfl⟩ := r3
    have H7 := H6.to e4
    refine d_val rfl (wn rfl) rfl rfl (fun zw hx => py_leq rfl rfl) (d_val rfl (wn rfl) rfl rfl (fun zw hx => py_move rfl) ?_)
    refine d_case (t := 34) rfl (fun hg2 => ?_) (fun hg2 => ?_)
    · try simp only [decide_eq_true_eq, decide_eq_false_iff_not] at hg2
      refine d_val rfl (wg rfl rfl rfl) rfl rfl (fun zw hx => py_field Tryz.underlying37 rfl Tryz.sizeOf25 rfl rfl) (d_val rfl (wg rfl rfl rfl) rfl rfl (fun zw hx => py_load Tryz.underlying25 rfl rfl (cell_atL (hx.heap (H6.box 0 rfl)) rfl)) (d_val rfl (wg rfl rfl rfl) rfl rfl (fun zw hx => py_len Tryz.underlying25 rfl) (d_val rfl (wg rfl rfl rfl) rfl rfl (fun zw hx => py_eql rfl rfl) (d_val rfl (wg rfl rfl rfl) rfl rfl (fun zw hx => py_move rfl) ?_))))
      refine d_case (t := 39) rfl (fun hg3 => ?_) (fun hg3 => ?_)
      · try simp only [decide_eq_true_eq, decide_eq_false_iff_not] at hg3
        refine d_skip rfl (wog (b := true) rfl rfl rfl) rfl rfl (d_skip rfl (wog (b := true) rfl rfl rfl) rfl rfl (d_skip rfl (wog (b := true) rfl rfl rfl) rfl rfl (d_val rfl (wg rfl rfl rfl) rfl rfl (fun zw hx => py_pickT rfl rfl) (d_val rfl (wn rfl) rfl rfl (fun zw hx => py_pickT rfl rfl) (d_end rfl (wn rfl) rfl rfl (py_assign rfl) ?_)))))
        refine d_nil ?_
        refine W_ret (hQ _ _ (fin1 Tryz.results152 rfl ?_))
        exact ⟨H7.ext, congrArg Value.bool (onOK_rest (all_yes fun i hi => he i (by omega)) (by simp_all)).symm⟩
      · try simp only [decide_eq_true_eq, decide_eq_false_iff_not] at hg3
        refine d_val rfl (wg rfl rfl rfl) rfl rfl (fun zw hx => py_field Tryz.underlying37 rfl Tryz.sizeOf4 rfl rfl) (d_val rfl (wg rfl rfl rfl) rfl rfl (fun zw hx => py_load Tryz.underlying4 rfl rfl (cell_atL (hx.heap (H6.box 0 rfl)) rfl)) (d_val rfl (wg rfl rfl rfl) rfl rfl (fun zw hx => py_not rfl) (d_val rfl (wg rfl rfl rfl) rfl rfl (fun zw hx => py_pickF rfl rfl) (d_val rfl (wn rfl) rfl rfl (fun zw hx => py_pickT rfl rfl) (d_end rfl (wn rfl) rfl rfl (py_assign rfl) ?_)))))
        refine d_nil ?_
        refine W_ret (hQ _ _ (fin1 Tryz.results152 rfl ?_))
        exact ⟨H7.ext, congrArg Value.bool (onOK_rest (all_yes fun i hi => he i (by omega)) (by simp_all)).symm⟩
    · try simp only [decide_eq_true_eq, decide_eq_false_iff_not] at hg2
      refine d_skip rfl (wog (b := false) rfl rfl rfl) rfl rfl (d_skip rfl (wog (b := false) rfl rfl rfl) rfl rfl (d_skip rfl (wog (b := false) rfl rfl rfl) rfl rfl (d_skip rfl (wog (b := false) rfl rfl rfl) rfl rfl (d_skip rfl (wog (b := false) rfl rfl rfl) rfl rfl (d_skip rfl (wou rfl rfl rfl) rfl rfl (d_skip rfl (wou rfl rfl rfl) rfl rfl (d_skip rfl (wou rfl rfl rfl) rfl rfl (d_skip rfl (wog (b := false) rfl rfl rfl) rfl rfl (d_val rfl (wn rfl) rfl rfl (fun zw hx => py_pickF rfl rfl) (d_end rfl (wn rfl) rfl rfl (py_assign rfl) ?_))))))))))
      refine d_nil ?_
      refine W_ret (hQ _ _ (fin1 Tryz.results152 rfl ?_))
      exact ⟨H7.ext, congrArg Value.bool (onOK_rest (all_yes fun i hi => he i (by omega)) (by rw [decide_eq_false (by omega)]; rfl)).symm⟩
theorem Tryz_impl_tapesFault_1 {w : World} {t : Tape} {tA1 : Option Addr} {tC1 : Nat} (tK : t.Ok) (tS1 : Sees w [.slice tA1 t.Recs.length tC1] t.Recs) : Ret Tryz.prog 222 #[t.val tA1 tC1] w fun v w' => Ext No w w' ∧ (v = .bool (manyRecs t)) := by
  have tK2 := tK
  unfold Tape.Ok at tK2
  try unfold I64ok at tK2
  try unfold maxLen at tK2
  have tL1 := sees_len tS1
  unfold maxLen at tL1
  obtain ⟨tF1, tO1⟩ := tS1
  refine ret_Q (vs := [t.val tA1 tC1]) Tryz.func222 rfl Tryz.ntmps222 rfl (fun Q hQ hN => ?_)
  have H0 := Sep.start (w := w) (F := [seen false [.slice tA1 t.Recs.length tC1] t.Recs tF1]) (all_cons tO1 (by simp))
  refine W_seq ?_
  refine W_reg ?_
  refine s_box (wn rfl) rfl rfl H0 (fun b1 w1 e1 g1 H1 => ?_)
  refine s_val (wn rfl) rfl rfl (py_assign rfl) ?_
  refine s_nil ?_
  refine W_seq ?_
  refine W_reg ?_
  refine s_val (wn rfl) rfl rfl (py_field Tryz.underlying155 rfl Tryz.sizeOf82 rfl rfl) (s_val (wn rfl) rfl rfl (py_load Tryz.underlying82 rfl rfl (cell_atL (H1.box 0 rfl) rfl)) (s_val (wn rfl) rfl rfl (py_len Tryz.underlying82 rfl) (s_val (wn rfl) rfl rfl (py_gtr rfl rfl) (s_val (wn rfl) rfl rfl (py_assign rfl) ?_))))
  refine s_nil ?_
  refine W_ret (hQ _ _ (fin1 Tryz.results222 rfl ?_))
  exact ⟨H1.ext, rfl⟩
theorem Tryz_impl_tapesFault_2 {w : World} {t : Tape} {tA1 : Option Addr} {tC1 : Nat} (tK : t.Ok) (tS1 : Sees w [.slice tA1 t.Recs.length tC1] t.Recs) : Ret Tryz.prog 223 #[t.val tA1 tC1] w fun v w' => Ext No w w' ∧ (v = .bool (wipedFull t)) := by
  have tK2 := tK
  unfold Tape.Ok at tK2
  try unfold I64ok at tK2
  try unfold maxLen at tK2
  have tL1 := sees_len tS1
  unfold maxLen at tL1
  obtain ⟨tF1, tO1⟩ := tS1
  refine ret_Q (vs := [t.val tA1 tC1]) Tryz.func223 rfl Tryz.ntmps223 rfl (fun Q hQ hN => ?_)
  have H0 := Sep.start (w := w) (F := [seen false [.slice tA1 t.Recs.length tC1] t.Recs tF1]) (all_cons tO1 (by simp))
  refine W_seq ?_
  refine W_reg ?_
  refine s_box (wn rfl) rfl rfl H0 (fun b1 w1 e1 g1 H1 => ?_)
  refine s_val (wn rfl) rfl rfl (py_assign rfl) ?_
  refine s_nil ?_
  refine W_seq ?_
  refine W_reg ?_
  refine s_val (wn rfl) rfl rfl (py_field Tryz.underlying155 rfl Tryz.sizeOf4 rfl rfl) (s_val (wn rfl) rfl rfl (py_load Tryz.underlying4 rfl rfl (cell_atL (H1.box 0 rfl) rfl)) (s_val (wn rfl) rfl rfl (py_move rfl) ?_))
  refine s_grp 4 (j := 2) (want := true) (t := 9) rfl rfl rfl rfl (fun hg1 kk1 => s_val (wgE rfl rfl rfl hg1) rfl rfl (py_field Tryz.underlying155 rfl Tryz.sizeOf82 rfl rfl) (s_val (wgE rfl rfl rfl hg1) rfl rfl (py_load Tryz.underlying82 rfl rfl (cell_atL (H1.box 0 rfl) rfl)) (s_val (wgE rfl rfl rfl hg1) rfl rfl (py_len Tryz.underlying82 rfl) (s_val (wgE rfl rfl rfl hg1) rfl rfl (py_gtr rfl rfl) (kk1 _ _ (kx rfl (kx rfl (kx rfl (kx rfl k0)))) rfl Ext.refl))))) (fun w2 e2 => ?_)
  have H2 := H1.to e2
  refine s_val (wn rfl) rfl rfl (py_band rfl rfl) (s_val (wn rfl) rfl rfl (py_assign rfl) ?_)
  refine s_nil ?_
  refine W_ret (hQ _ _ (fin1 Tryz.results223 rfl ?_))
  exact ⟨H2.ext, congrArg Value.bool (by simp [wipedFull])⟩
set_option maxHeartbeats 1000000 in
theorem Tryz_impl_tapesFault {w : World} {z : Wld} {zA9 : Option Addr} {zC9 : Nat} {zA10 : Option Addr} {zC10 : Nat} {zA11 : Option Addr} {zC11 : Nat} (zK : z.Ok) (zS9 : Sees w [.slice zA9 z.Groups.length zC9] z.Groups) (zS10 : Sees w [.slice zA10 z.On.length zC10] z.On) (zS11 : Sees w [.slice zA11 z.Tapes.length zC11] z.Tapes) (hs : z.Shape.ok = true) : Ret Tryz.prog 153 #[z.val zA9 zC9 zA10 zC10 zA11 zC11] w fun v w' => Ext No w w' ∧ (v = .int .i64 (tapesF z)) := by
  have zK2 := zK
  unfold Wld.Ok Shape.Ok at zK2
  try unfold I64ok at zK2
  try unfold maxLen at zK2
  have zL9 := sees_len zS9
  unfold maxLen at zL9
  obtain ⟨zF9, zO9⟩ := zS9
  have zL10 := sees_len zS10
  unfold maxLen at zL10
  obtain ⟨zF10, zO10⟩ := zS10
  have zL11 := sees_len zS11
  unfold maxLen at zL11
  obtain ⟨zF11, zO11⟩ := zS11
  have sbd := shape_bd hs
  refine ret_Q (vs := [z.val zA9 zC9 zA10 zC10 zA11 zC11]) Tryz.func153 rfl Tryz.ntmps153 rfl (fun Q hQ hN => ?_)
  have H0 := Sep.start (w := w) (F := [seen false [.slice zA9 z.Groups.length zC9] z.Groups zF9, seen false [.slice zA10 z.On.length zC10] z.On zF10, seen false [.slice zA11 z.Tapes.length zC11] z.Tapes zF11]) (all_cons zO9 (all_cons zO10 (all_cons zO11 (by simp))))
  refine W_seq ?_
  refine W_reg ?_
  refine s_box (wn rfl) rfl rfl H0 (fun b1 w1 e1 g1 H1 => ?_)
  refine s_val (wn rfl) rfl rfl (py_assign rfl) ?_
  refine s_nil ?_
  refine W_seq ?_
  refine W_seq ?_
  refine W_reg ?_
  refine s_val (wn rfl) rfl rfl (py_field Tryz.underlying37 rfl Tryz.sizeOf35 rfl rfl) (s_val (wn rfl) rfl rfl (py_load Tryz.underlying35 rfl rfl (cell_atL (H1.box 0 rfl) rfl)) ?_)
  refine s_call (wn rfl) rfl rfl (pc_call Tryz.func221 rfl Tryz_nm221 rfl) (Tryz_ContainsFunc_Tape (H1.sees 2 rfl) (p := manyRecs) Tryz.func222 rfl Tryz_nm222 (fun w1 e1 i0 hi0 _ _ K0 o0_1 => Tryz_impl_tapesFault_1 K0 o0_1)) (fun v1 w2 r1 => ?_)
  obtain ⟨e2, rfl⟩ := r1
  have H2 := H1.to e2
  refine s_nil ?_
  refine W_if rfl (fun c1 => ?_) (fun c1 => ?_)
  · refine W_seq ?_
    refine W_reg ?_
    refine s_val (wn rfl) rfl rfl (py_assign rfl) ?_
    refine s_nil ?_
    refine W_ret (hQ _ _ (fin1 Tryz.results153 rfl ?_))
    exact ⟨H2.ext, congrArg (Value.int .i64) (tapesF_many c1).symm⟩
  · refine W_skip ?_
    refine W_seq ?_
    refine W_seq ?_
    have cM := c1
    refine W_reg ?_
    refine s_val (wn rfl) rfl rfl (py_field Tryz.underlying37 rfl Tryz.sizeOf35 rfl rfl) (s_val (wn rfl) rfl rfl (py_load Tryz.underlying35 rfl rfl (cell_atL (H2.box 0 rfl) rfl)) (s_val (wn rfl) rfl rfl (py_len Tryz.underlying35 rfl) (s_val (wn rfl) rfl rfl (py_move rfl) ?_)))
    refine s_nil ?_
    refine W_block ?_
    refine W_loopS (γ := Nat) H2 [(1, _), (12, _), (13, _)] ⟨rfl, rfl, rfl, trivial⟩ (fun k => [(14, .int .i64 k)]) (fun k => k ≤ z.Tapes.length ∧ tapeF z.Shape z.Tapes k = 0) (fun k => z.Tapes.length - k) 0 ⟨rfl, trivial⟩ ⟨by omega, rfl⟩ (fun k w3 H3 ⟨hk, hkz⟩ => ?_)
    dsimp only [List.cons_append, List.nil_append]
    refine W_seq ?_
    refine W_reg ?_
    refine s_val (wn rfl) rfl rfl (py_lss rfl rfl) ?_
    refine s_nil ?_
    refine W_seq ?_
    refine W_ifd rfl (fun c2 => ?_) (fun c2 => ?_)
    · refine W_skip ?_
      refine W_seq ?_
      refine W_block ?_
      refine W_seq ?_
      obtain ⟨eb1, eo1, es1, ef1, ee1, ec1, eO1, eH1, em1⟩ := elem_st (H3.seen 2 rfl) k (by omega)
      obtain ⟨ea1, ek1, eg1, rfl, eq1, eK1, eo2⟩ := own_Tape eO1
      have eP1 := H3.look1 2 rfl eo2 (fun b hb => eH1 b (by rw [eq1]; simp [hb]))
      have eL1 := own_len_le eo2
      unfold maxLen at eL1
      refine W_reg ?_
      refine s_val (wn rfl) rfl rfl (py_elz Tryz.underlying35 Tryz.sizeOf155 rfl rfl ee1 k (by omega) (by omega)) (s_val (wn rfl) rfl rfl (py_loadS Tryz.underlying155 rfl Tryz.sizeOf155 rfl rfl ec1) ?_)
      refine s_var (wn rfl) rfl Tryz.zeroValue155 eP1 (fun b2 w4 e3 g2 H4 => ?_)
      refine s_stoS (wn rfl) Tryz.sizeOf155 rfl rfl rfl rfl H4 1 rfl rfl (fun w5 e4 H5 => ?_)
      dsimp only [List.nil_append, List.cons_append, List.set_cons_zero, List.set_cons_succ, layL] at H5
      refine s_nil ?_
      refine W_seq ?_
      refine W_reg ?_
      refine s_val (wn rfl) rfl rfl (py_field Tryz.underlying155 rfl Tryz.sizeOf82 rfl rfl) (s_val (wn rfl) rfl rfl (py_load Tryz.underlying82 rfl rfl (cell_atL (H5.box 1 rfl) rfl)) (s_val (wn rfl) rfl rfl (py_len Tryz.underlying82 rfl) (s_val (wn rfl) rfl rfl (py_move rfl) ?_)))
      refine s_nil ?_
      refine W_block ?_
      refine W_loopS (γ := Nat) H5 [(1, _), (12, _), (13, _), (14, _), (19, _), (20, _)] ⟨rfl, rfl, rfl, rfl, rfl, rfl, trivial⟩ (fun k2 => [(21, .int .i64 k2)]) (fun k2 => k2 ≤ (z.Tapes.getD k default).Recs.length ∧ recsF z.Shape (z.Tapes.getD k default).Recs k2 = 0) (fun k2 => (z.Tapes.getD k default).Recs.length - k2) 0 ⟨rfl, trivial⟩ ⟨by omega, rfl⟩ (fun k2 w6 H6 ⟨hk2, hk2z⟩ => ?_)
      dsimp only [List.cons_append, List.nil_append]
      refine W_seq ?_
      refine W_reg ?_
      refine s_val (wn rfl) rfl rfl (py_lss rfl rfl) ?_
      refine s_nil ?_
      refine W_seq ?_
      refine W_ifd rfl (fun c3 => ?_) (fun c3 => ?_)
      · refine W_skip ?_
        refine W_seq ?_
        refine W_block ?_
        refine W_seq ?_
        obtain ⟨eb2, eo3, es2, ef2, ee2, ec2, eO2, eH2, em2⟩ := elem_st (H6.seen 3 rfl) k2 (by omega)
        obtain ⟨ea2, ek2, ea3, ek3, ea4, ek4, eg2, eg3, eg4, rfl, eq2, eK2, eo4, eo5, eo6⟩ := own_Rec eO2
        have eK2U := eK2
        unfold Rec.Ok at eK2U
        try unfold I64ok at eK2U
        try unfold maxLen at eK2U
        have eP2 := H6.look1 3 rfl eo4 (fun b hb => eH2 b (by rw [eq2]; simp [hb]))
        have eL2 := own_len_le eo4
        unfold maxLen at eL2
        have eP3 := eP2.look1 3 rfl eo5 (fun b hb => eH2 b (by rw [eq2]; simp [hb]))
        have eL3 := own_len_le eo5
        unfold maxLen at eL3
        have eP4 := eP3.look1 3 rfl eo6 (fun b hb => eH2 b (by rw [eq2]; simp [hb]))
        have eL4 := own_len_le eo6
        unfold maxLen at eL4
        refine W_reg ?_
        refine s_val (wn rfl) rfl rfl (py_elz Tryz.underlying82 Tryz.sizeOf66 rfl rfl ee2 k2 (by omega) (by omega)) (s_val (wn rfl) rfl rfl (py_loadS Tryz.underlying66 rfl Tryz.sizeOf66 rfl rfl ec2) ?_)
        refine s_var (wn rfl) rfl Tryz.zeroValue66 eP4 (fun b3 w7 e5 g3 H7 => ?_)
        refine s_stoS (wn rfl) Tryz.sizeOf66 rfl rfl rfl rfl H7 2 rfl rfl (fun w8 e6 H8 => ?_)
        dsimp only [List.nil_append, List.cons_append, List.set_cons_zero, List.set_cons_succ, layL] at H8
        refine s_nil ?_
        refine W_seq ?_
        refine W_reg ?_
        refine s_val (wn rfl) rfl rfl (py_field Tryz.underlying37 rfl Tryz.sizeOf33 rfl rfl) (s_val (wn rfl) rfl rfl (py_loadS Tryz.underlying33 rfl Tryz.sizeOf33 rfl rfl (At.sub (H8.box 0 rfl) 9)) (s_val (wn rfl) rfl rfl (py_loadS Tryz.underlying66 rfl Tryz.sizeOf66 rfl rfl (At.whole (H8.box 2 rfl))) ?_))
        refine s_call (wn rfl) rfl rfl (pc_call Tryz.func111 rfl Tryz_nm111 rfl) (Tryz_impl_recFault (by assumption) (H8.sees 4 rfl) (H8.sees 5 rfl) (H8.sees 6 rfl) (by assumption)) (fun v2 w9 r2 => ?_)
        obtain ⟨e7, rfl⟩ := r2
        have H9 := H8.to e7
        refine s_val (wn rfl) rfl rfl (py_assign rfl) ?_
        refine s_nil ?_
        refine W_seq ?_
        refine W_reg ?_
        refine s_val (wn rfl) rfl rfl (py_move rfl) (s_val (wn rfl) rfl rfl (py_neq rfl rfl) ?_)
        refine s_nil ?_
        refine W_ifd rfl (fun c4 => ?_) (fun c4 => ?_)
        · refine W_seq ?_
          refine W_reg ?_
          refine s_val (wn rfl) rfl rfl (py_move rfl) (s_val (wn rfl) rfl rfl (py_assign rfl) ?_)
          refine s_nil ?_
          refine W_ret (hQ _ _ (fin1 Tryz.results153 rfl ?_))
          exact ⟨H9.ext, congrArg (Value.int .i64) ((tapesF_rec cM (k := k) (k2 := k2) (by omega) hkz (by omega) hk2z (by omega))).symm⟩
        · refine W_skip ?_
          refine W_reg ?_
          refine s_val (wn rfl) rfl rfl (py_add rfl rfl (in64 ⟨by omega, by omega⟩)) (s_val (wn rfl) rfl rfl (py_move rfl) ?_)
          refine s_nil ?_
          refine ⟨k2 + 1, ⟨rfl, rfl, rfl, rfl, rfl, rfl, rfl, trivial⟩, ⟨((H9.ftake 4).dtake 2), by omega, (recsF_next hk2z).trans (by omega)⟩, by dsimp only; omega⟩
      · refine W_exit ?_
        refine W_reg ?_
        refine s_val (wn rfl) rfl rfl (py_add rfl rfl (in64 ⟨by omega, by omega⟩)) (s_val (wn rfl) rfl rfl (py_move rfl) ?_)
        refine s_nil ?_
        obtain rfl : k2 = (z.Tapes.getD k default).Recs.length := by omega
        refine ⟨k + 1, ⟨rfl, rfl, rfl, rfl, trivial⟩, ⟨((H6.ftake 3).dtake 1), by omega, (tapeF_next hkz).trans hk2z⟩, by dsimp only; omega⟩
    · refine W_exit ?_
      refine W_seq ?_
      refine W_seq ?_
      obtain rfl : k = z.Tapes.length := by omega
      have hAll := hkz
      refine W_reg ?_
      refine s_val (wn rfl) rfl rfl (py_field Tryz.underlying37 rfl Tryz.sizeOf35 rfl rfl) (s_val (wn rfl) rfl rfl (py_load Tryz.underlying35 rfl rfl (cell_atL (H3.box 0 rfl) rfl)) ?_)
      refine s_call (wn rfl) rfl rfl (pc_call Tryz.func221 rfl Tryz_nm221 rfl) (Tryz_ContainsFunc_Tape (H3.sees 2 rfl) (p := wipedFull) Tryz.func223 rfl Tryz_nm223 (fun w1 e1 i0 hi0 _ _ K0 o0_1 => Tryz_impl_tapesFault_2 K0 o0_1)) (fun v3 w10 r3 => ?_)
      obtain ⟨e8, rfl⟩ := r3
      have H10 := H3.to e8
      refine s_nil ?_
      refine W_if rfl (fun c5 => ?_) (fun c5 => ?_)
      · refine W_seq ?_
        refine W_reg ?_
        refine s_val (wn rfl) rfl rfl (py_assign rfl) ?_
        refine s_nil ?_
        refine W_ret (hQ _ _ (fin1 Tryz.results153 rfl ?_))
        exact ⟨H10.ext, congrArg (Value.int .i64) (tapesF_full cM hAll c5).symm⟩
      · refine W_skip ?_
        refine W_seq ?_
        refine W_reg ?_
        refine s_val (wn rfl) rfl rfl (py_assign rfl) ?_
        refine s_nil ?_
        refine W_ret (hQ _ _ (fin1 Tryz.results153 rfl ?_))
        exact ⟨H10.ext, congrArg (Value.int .i64) (tapesF_ok cM hAll c5).symm⟩
end Go.Wk
