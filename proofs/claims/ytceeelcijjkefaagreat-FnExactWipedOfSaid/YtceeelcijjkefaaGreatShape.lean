/-
  The functions walked, each once. (Printed by a program of mine.)
-/
import Derived.Test.YtceeelcijjkefaaGreatFacts
set_option linter.unusedVariables false
set_option linter.unusedSimpArgs false
namespace Go.Wk
open Go.Proofs Rp
set_option maxRecDepth 10000
theorem Tryz_spec_l1In {w : World} {v0 lo hi : Int}  : Ret Tryz.prog 149 #[.int .i64 v0, .int .i64 lo, .int .i64 hi] w fun v w' => Ext No w w' ∧ (v = .bool (ins v0 lo hi)) := by
  refine ret_Q (vs := [.int .i64 v0, .int .i64 lo, .int .i64 hi]) Tryz.func149 rfl Tryz.ntmps149 rfl (fun Q hQ hN => ?_)
  have H0 := Sep.start (w := w) (F := []) (by simp)
  refine W_seq ?_
  refine W_reg ?_
  refine s_val (wn rfl) rfl rfl (py_assign rfl) ?_
  refine s_nil ?_
  refine W_seq ?_
  refine W_reg ?_
  refine s_val (wn rfl) rfl rfl (py_move rfl) (s_val (wn rfl) rfl rfl (py_move rfl) (s_val (wn rfl) rfl rfl (py_geq rfl rfl) (s_val (wn rfl) rfl rfl (py_move rfl) ?_)))
  refine s_grp 3 (j := 3) (want := true) (t := 13) rfl rfl rfl rfl (fun hg1 kk1 => s_val (wgE rfl rfl rfl hg1) rfl rfl (py_move rfl) (s_val (wgE rfl rfl rfl hg1) rfl rfl (py_move rfl) (s_val (wgE rfl rfl rfl hg1) rfl rfl (py_leq rfl rfl) (kk1 _ _ (kx rfl (kx rfl (kx rfl k0))) rfl Ext.refl)))) (fun w1 e1 => ?_)
  have H1 := H0.to e1
  refine s_val (wn rfl) rfl rfl (py_band rfl rfl) (s_val (wn rfl) rfl rfl (py_assign rfl) ?_)
  refine s_nil ?_
  refine W_ret (hQ _ _ (fin1 Tryz.results149 rfl ?_))
  exact ⟨H1.ext, rfl⟩
theorem Tryz_impl_inside {w : World} {v0 lo hi : Int}  : Ret Tryz.prog 154 #[.int .i64 v0, .int .i64 lo, .int .i64 hi] w fun v w' => Ext No w w' ∧ (v = .bool (ins v0 lo hi)) := by
  refine ret_Q (vs := [.int .i64 v0, .int .i64 lo, .int .i64 hi]) Tryz.func154 rfl Tryz.ntmps154 rfl (fun Q hQ hN => ?_)
  have H0 := Sep.start (w := w) (F := []) (by simp)
  refine W_seq ?_
  refine W_reg ?_
  refine s_val (wn rfl) rfl rfl (py_assign rfl) ?_
  refine s_nil ?_
  refine W_seq ?_
  refine W_reg ?_
  refine s_val (wn rfl) rfl rfl (py_move rfl) (s_val (wn rfl) rfl rfl (py_move rfl) (s_val (wn rfl) rfl rfl (py_geq rfl rfl) (s_val (wn rfl) rfl rfl (py_move rfl) ?_)))
  refine s_grp 3 (j := 3) (want := true) (t := 13) rfl rfl rfl rfl (fun hg1 kk1 => s_val (wgE rfl rfl rfl hg1) rfl rfl (py_move rfl) (s_val (wgE rfl rfl rfl hg1) rfl rfl (py_move rfl) (s_val (wgE rfl rfl rfl hg1) rfl rfl (py_leq rfl rfl) (kk1 _ _ (kx rfl (kx rfl (kx rfl k0))) rfl Ext.refl)))) (fun w1 e1 => ?_)
  have H1 := H0.to e1
  refine s_val (wn rfl) rfl rfl (py_band rfl rfl) (s_val (wn rfl) rfl rfl (py_assign rfl) ?_)
  refine s_nil ?_
  refine W_ret (hQ _ _ (fin1 Tryz.results154 rfl ?_))
  exact ⟨H1.ext, rfl⟩
theorem Tryz_spec_l3Shape {w : World} {x y : Int}  : Ret Tryz.prog 211 #[.int .i64 x, .int .i64 y] w fun v w' => Ext No w w' ∧ (v = .bool (cOK x y)) := by
  refine ret_Q (vs := [.int .i64 x, .int .i64 y]) Tryz.func211 rfl Tryz.ntmps211 rfl (fun Q hQ hN => ?_)
  have H0 := Sep.start (w := w) (F := []) (by simp)
  refine W_seq ?_
  refine W_reg ?_
  refine s_val (wn rfl) rfl rfl (py_assign rfl) ?_
  refine s_nil ?_
  refine W_seq ?_
  refine W_reg ?_
  refine s_val (wn rfl) rfl rfl (py_move rfl) ?_
  refine s_call (wn rfl) rfl rfl (pc_call Tryz.func149 rfl Tryz_nm149 rfl) Tryz_spec_l1In (fun v1 w1 r1 => ?_)
  obtain ⟨e1, rfl⟩ := r1
  have H1 := H0.to e1
  refine s_val (wn rfl) rfl rfl (py_move rfl) ?_
  refine s_grp 2 (j := 2) (want := true) (t := 9) rfl rfl rfl rfl (fun hg1 kk1 => s_val (wgE rfl rfl rfl hg1) rfl rfl (py_move rfl) (s_callv (wgE rfl rfl rfl hg1) rfl rfl (pc_call Tryz.func149 rfl Tryz_nm149 rfl) Tryz_spec_l1In (fun w3 e3 => kk1 _ _ (kx rfl (kx rfl k0)) rfl (Ext.refl.trans e3)))) (fun w2 e2 => ?_)
  have H2 := H1.to e2
  refine s_val (wn rfl) rfl rfl (py_band rfl rfl) (s_val (wn rfl) rfl rfl (py_assign rfl) ?_)
  refine s_nil ?_
  refine W_ret (hQ _ _ (fin1 Tryz.results211 rfl ?_))
  exact ⟨H2.ext, rfl⟩
theorem Tryz_spec_l2Shape {w : World} {x y : Int}  : Ret Tryz.prog 212 #[.int .i64 x, .int .i64 y] w fun v w' => Ext No w w' ∧ (v = .bool (rOK x y)) := by
  refine ret_Q (vs := [.int .i64 x, .int .i64 y]) Tryz.func212 rfl Tryz.ntmps212 rfl (fun Q hQ hN => ?_)
  have H0 := Sep.start (w := w) (F := []) (by simp)
  refine W_seq ?_
  refine W_reg ?_
  refine s_val (wn rfl) rfl rfl (py_assign rfl) ?_
  refine s_nil ?_
  refine W_seq ?_
  refine W_reg ?_
  refine s_val (wn rfl) rfl rfl (py_move rfl) ?_
  refine s_call (wn rfl) rfl rfl (pc_call Tryz.func149 rfl Tryz_nm149 rfl) Tryz_spec_l1In (fun v1 w1 r1 => ?_)
  obtain ⟨e1, rfl⟩ := r1
  have H1 := H0.to e1
  refine s_val (wn rfl) rfl rfl (py_move rfl) ?_
  refine s_grp 2 (j := 2) (want := true) (t := 9) rfl rfl rfl rfl (fun hg1 kk1 => s_val (wgE rfl rfl rfl hg1) rfl rfl (py_move rfl) (s_callv (wgE rfl rfl rfl hg1) rfl rfl (pc_call Tryz.func149 rfl Tryz_nm149 rfl) Tryz_spec_l1In (fun w3 e3 => kk1 _ _ (kx rfl (kx rfl k0)) rfl (Ext.refl.trans e3)))) (fun w2 e2 => ?_)
  have H2 := H1.to e2
  refine s_val (wn rfl) rfl rfl (py_band rfl rfl) (s_val (wn rfl) rfl rfl (py_assign rfl) ?_)
  refine s_nil ?_
  refine W_ret (hQ _ _ (fin1 Tryz.results212 rfl ?_))
  exact ⟨H2.ext, rfl⟩
theorem Tryz_spec_ShapeFault {w : World} {s : Shape}  : Ret Tryz.prog 146 #[s.v] w fun v w' => Ext No w w' ∧ (v = .int .i64 s.fault) := by
  refine ret_Q (vs := [s.v]) Tryz.func146 rfl Tryz.ntmps146 rfl (fun Q hQ hN => ?_)
  have H0 := Sep.start (w := w) (F := []) (by simp)
  refine W_seq ?_
  refine W_reg ?_
  refine s_box (wn rfl) rfl rfl H0 (fun b1 w1 e1 g1 H1 => ?_)
  refine s_val (wn rfl) rfl rfl (py_assign rfl) ?_
  refine s_nil ?_
  refine W_seq ?_
  refine W_seq ?_
  refine W_reg ?_
  refine s_val (wn rfl) rfl rfl (py_field Tryz.underlying33 rfl Tryz.sizeOf2 rfl rfl) (s_val (wn rfl) rfl rfl (py_load Tryz.underlying2 rfl rfl (cell_atL (H1.box 0 rfl) rfl)) (s_val (wn rfl) rfl rfl (py_field Tryz.underlying33 rfl Tryz.sizeOf2 rfl rfl) (s_val (wn rfl) rfl rfl (py_load Tryz.underlying2 rfl rfl (cell_atL (H1.box 0 rfl) rfl)) ?_)))
  refine s_call (wn rfl) rfl rfl (pc_call Tryz.func211 rfl Tryz_nm211 rfl) Tryz_spec_l3Shape (fun v1 w2 r1 => ?_)
  obtain ⟨e2, rfl⟩ := r1
  have H2 := H1.to e2
  refine s_val (wn rfl) rfl rfl (py_not rfl) (s_val (wn rfl) rfl rfl (py_move rfl) ?_)
  refine s_grp 6 (j := 6) (want := false) (t := 15) rfl rfl rfl rfl (fun hg1 kk1 => s_val (wgE rfl rfl rfl hg1) rfl rfl (py_field Tryz.underlying33 rfl Tryz.sizeOf2 rfl rfl) (s_val (wgE rfl rfl rfl hg1) rfl rfl (py_load Tryz.underlying2 rfl rfl (cell_atL (H2.box 0 rfl) rfl)) (s_val (wgE rfl rfl rfl hg1) rfl rfl (py_field Tryz.underlying33 rfl Tryz.sizeOf2 rfl rfl) (s_val (wgE rfl rfl rfl hg1) rfl rfl (py_load Tryz.underlying2 rfl rfl (cell_atL (H2.box 0 rfl) rfl)) (s_callv (wgE rfl rfl rfl hg1) rfl rfl (pc_call Tryz.func212 rfl Tryz_nm212 rfl) Tryz_spec_l2Shape (fun w4 e4 => s_val (wgE rfl rfl rfl hg1) rfl rfl (py_not rfl) (kk1 _ _ (kx rfl (kx rfl (kx rfl (kx rfl (kx rfl (kx rfl k0)))))) rfl (Ext.refl.trans e4)))))))) (fun w3 e3 => ?_)
  have H3 := H2.to e3
  refine s_val (wn rfl) rfl rfl (py_bor rfl rfl) (s_val (wn rfl) rfl rfl (py_move rfl) ?_)
  refine s_grp 4 (j := 14) (want := false) (t := 21) rfl rfl rfl rfl (fun hg2 kk2 => s_val (wgE rfl rfl rfl hg2) rfl rfl (py_field Tryz.underlying33 rfl Tryz.sizeOf2 rfl rfl) (s_val (wgE rfl rfl rfl hg2) rfl rfl (py_load Tryz.underlying2 rfl rfl (cell_atL (H3.box 0 rfl) rfl)) (s_callv (wgE rfl rfl rfl hg2) rfl rfl (pc_call Tryz.func149 rfl Tryz_nm149 rfl) Tryz_spec_l1In (fun w6 e6 => s_val (wgE rfl rfl rfl hg2) rfl rfl (py_not rfl) (kk2 _ _ (kx rfl (kx rfl (kx rfl (kx rfl k0)))) rfl (Ext.refl.trans e6)))))) (fun w5 e5 => ?_)
  have H4 := H3.to e5
  refine s_val (wn rfl) rfl rfl (py_bor rfl rfl) (s_val (wn rfl) rfl rfl (py_move rfl) ?_)
  refine s_grp 4 (j := 20) (want := false) (t := 27) rfl rfl rfl rfl (fun hg3 kk3 => s_val (wgE rfl rfl rfl hg3) rfl rfl (py_field Tryz.underlying33 rfl Tryz.sizeOf2 rfl rfl) (s_val (wgE rfl rfl rfl hg3) rfl rfl (py_load Tryz.underlying2 rfl rfl (cell_atL (H4.box 0 rfl) rfl)) (s_callv (wgE rfl rfl rfl hg3) rfl rfl (pc_call Tryz.func149 rfl Tryz_nm149 rfl) Tryz_spec_l1In (fun w8 e8 => s_val (wgE rfl rfl rfl hg3) rfl rfl (py_not rfl) (kk3 _ _ (kx rfl (kx rfl (kx rfl (kx rfl k0)))) rfl (Ext.refl.trans e8)))))) (fun w7 e7 => ?_)
  have H5 := H4.to e7
  refine s_val (wn rfl) rfl rfl (py_bor rfl rfl) (s_val (wn rfl) rfl rfl (py_move rfl) ?_)
  refine s_grp 4 (j := 26) (want := false) (t := 33) rfl rfl rfl rfl (fun hg4 kk4 => s_val (wgE rfl rfl rfl hg4) rfl rfl (py_field Tryz.underlying33 rfl Tryz.sizeOf2 rfl rfl) (s_val (wgE rfl rfl rfl hg4) rfl rfl (py_load Tryz.underlying2 rfl rfl (cell_atL (H5.box 0 rfl) rfl)) (s_callv (wgE rfl rfl rfl hg4) rfl rfl (pc_call Tryz.func149 rfl Tryz_nm149 rfl) Tryz_spec_l1In (fun w10 e10 => s_val (wgE rfl rfl rfl hg4) rfl rfl (py_not rfl) (kk4 _ _ (kx rfl (kx rfl (kx rfl (kx rfl k0)))) rfl (Ext.refl.trans e10)))))) (fun w9 e9 => ?_)
  have H6 := H5.to e9
  refine s_val (wn rfl) rfl rfl (py_bor rfl rfl) (s_val (wn rfl) rfl rfl (py_move rfl) ?_)
  refine s_grp 4 (j := 32) (want := false) (t := 39) rfl rfl rfl rfl (fun hg5 kk5 => s_val (wgE rfl rfl rfl hg5) rfl rfl (py_field Tryz.underlying33 rfl Tryz.sizeOf2 rfl rfl) (s_val (wgE rfl rfl rfl hg5) rfl rfl (py_load Tryz.underlying2 rfl rfl (cell_atL (H6.box 0 rfl) rfl)) (s_callv (wgE rfl rfl rfl hg5) rfl rfl (pc_call Tryz.func149 rfl Tryz_nm149 rfl) Tryz_spec_l1In (fun w12 e12 => s_val (wgE rfl rfl rfl hg5) rfl rfl (py_not rfl) (kk5 _ _ (kx rfl (kx rfl (kx rfl (kx rfl k0)))) rfl (Ext.refl.trans e12)))))) (fun w11 e11 => ?_)
  have H7 := H6.to e11
  refine s_val (wn rfl) rfl rfl (py_bor rfl rfl) (s_val (wn rfl) rfl rfl (py_move rfl) ?_)
  refine s_grp 4 (j := 38) (want := false) (t := 45) rfl rfl rfl rfl (fun hg6 kk6 => s_val (wgE rfl rfl rfl hg6) rfl rfl (py_field Tryz.underlying33 rfl Tryz.sizeOf2 rfl rfl) (s_val (wgE rfl rfl rfl hg6) rfl rfl (py_load Tryz.underlying2 rfl rfl (cell_atL (H7.box 0 rfl) rfl)) (s_callv (wgE rfl rfl rfl hg6) rfl rfl (pc_call Tryz.func149 rfl Tryz_nm149 rfl) Tryz_spec_l1In (fun w14 e14 => s_val (wgE rfl rfl rfl hg6) rfl rfl (py_not rfl) (kk6 _ _ (kx rfl (kx rfl (kx rfl (kx rfl k0)))) rfl (Ext.refl.trans e14)))))) (fun w13 e13 => ?_)
  have H8 := H7.to e13
  refine s_val (wn rfl) rfl rfl (py_bor rfl rfl) ?_
  refine s_nil ?_
  refine W_if rfl (fun c1 => ?_) (fun c1 => ?_)
  · refine W_seq ?_
    refine W_reg ?_
    refine s_val (wn rfl) rfl rfl (py_assign rfl) ?_
    refine s_nil ?_
    refine W_ret (hQ _ _ (fin1 Tryz.results146 rfl ?_))
    exact ⟨H8.ext, Shape.no (by simpa only [Shape.ok, Bool.not_and] using c1)⟩
  · refine W_skip ?_
    refine W_seq ?_
    refine W_reg ?_
    refine s_val (wn rfl) rfl rfl (py_assign rfl) ?_
    refine s_nil ?_
    refine W_ret (hQ _ _ (fin1 Tryz.results146 rfl ?_))
    exact ⟨H8.ext, Shape.yes (by simpa only [Shape.ok, Bool.not_and] using c1)⟩
theorem Tryz_impl_ShapeFault {w : World} {s : Shape}  : Ret Tryz.prog 150 #[s.v] w fun v w' => Ext No w w' ∧ (v = .int .i64 s.fault) := by
  refine ret_Q (vs := [s.v]) Tryz.func150 rfl Tryz.ntmps150 rfl (fun Q hQ hN => ?_)
  have H0 := Sep.start (w := w) (F := []) (by simp)
  refine W_seq ?_
  refine W_reg ?_
  refine s_box (wn rfl) rfl rfl H0 (fun b1 w1 e1 g1 H1 => ?_)
  refine s_val (wn rfl) rfl rfl (py_assign rfl) ?_
  refine s_nil ?_
  refine W_seq ?_
  refine W_reg ?_
  refine s_val (wn rfl) rfl rfl (py_field Tryz.underlying33 rfl Tryz.sizeOf2 rfl rfl) (s_val (wn rfl) rfl rfl (py_load Tryz.underlying2 rfl rfl (cell_atL (H1.box 0 rfl) rfl)) ?_)
  refine s_call (wn rfl) rfl rfl (pc_call Tryz.func154 rfl Tryz_nm154 rfl) Tryz_impl_inside (fun v1 w2 r1 => ?_)
  obtain ⟨e2, rfl⟩ := r1
  have H2 := H1.to e2
  refine s_val (wn rfl) rfl rfl (py_move rfl) ?_
  refine s_grp 3 (j := 3) (want := true) (t := 10) rfl rfl rfl rfl (fun hg1 kk1 => s_val (wgE rfl rfl rfl hg1) rfl rfl (py_field Tryz.underlying33 rfl Tryz.sizeOf2 rfl rfl) (s_val (wgE rfl rfl rfl hg1) rfl rfl (py_load Tryz.underlying2 rfl rfl (cell_atL (H2.box 0 rfl) rfl)) (s_callv (wgE rfl rfl rfl hg1) rfl rfl (pc_call Tryz.func154 rfl Tryz_nm154 rfl) Tryz_impl_inside (fun w4 e4 => kk1 _ _ (kx rfl (kx rfl (kx rfl k0))) rfl (Ext.refl.trans e4))))) (fun w3 e3 => ?_)
  have H3 := H2.to e3
  refine s_val (wn rfl) rfl rfl (py_band rfl rfl) (s_val (wn rfl) rfl rfl (py_move rfl) ?_)
  refine s_grp 3 (j := 8) (want := true) (t := 15) rfl rfl rfl rfl (fun hg2 kk2 => s_val (wgE rfl rfl rfl hg2) rfl rfl (py_field Tryz.underlying33 rfl Tryz.sizeOf2 rfl rfl) (s_val (wgE rfl rfl rfl hg2) rfl rfl (py_load Tryz.underlying2 rfl rfl (cell_atL (H3.box 0 rfl) rfl)) (s_callv (wgE rfl rfl rfl hg2) rfl rfl (pc_call Tryz.func154 rfl Tryz_nm154 rfl) Tryz_impl_inside (fun w6 e6 => kk2 _ _ (kx rfl (kx rfl (kx rfl k0))) rfl (Ext.refl.trans e6))))) (fun w5 e5 => ?_)
  have H4 := H3.to e5
  refine s_val (wn rfl) rfl rfl (py_band rfl rfl) (s_val (wn rfl) rfl rfl (py_move rfl) ?_)
  refine s_grp 3 (j := 13) (want := true) (t := 20) rfl rfl rfl rfl (fun hg3 kk3 => s_val (wgE rfl rfl rfl hg3) rfl rfl (py_field Tryz.underlying33 rfl Tryz.sizeOf2 rfl rfl) (s_val (wgE rfl rfl rfl hg3) rfl rfl (py_load Tryz.underlying2 rfl rfl (cell_atL (H4.box 0 rfl) rfl)) (s_callv (wgE rfl rfl rfl hg3) rfl rfl (pc_call Tryz.func154 rfl Tryz_nm154 rfl) Tryz_impl_inside (fun w8 e8 => kk3 _ _ (kx rfl (kx rfl (kx rfl k0))) rfl (Ext.refl.trans e8))))) (fun w7 e7 => ?_)
  have H5 := H4.to e7
  refine s_val (wn rfl) rfl rfl (py_band rfl rfl) (s_val (wn rfl) rfl rfl (py_assign rfl) ?_)
  refine s_nil ?_
  refine W_seq ?_
  refine W_reg ?_
  refine s_val (wn rfl) rfl rfl (py_move rfl) (s_val (wn rfl) rfl rfl (py_move rfl) ?_)
  refine s_grp 3 (j := 1) (want := true) (t := 26) rfl rfl rfl rfl (fun hg4 kk4 => s_val (wgE rfl rfl rfl hg4) rfl rfl (py_field Tryz.underlying33 rfl Tryz.sizeOf2 rfl rfl) (s_val (wgE rfl rfl rfl hg4) rfl rfl (py_load Tryz.underlying2 rfl rfl (cell_atL (H5.box 0 rfl) rfl)) (s_callv (wgE rfl rfl rfl hg4) rfl rfl (pc_call Tryz.func154 rfl Tryz_nm154 rfl) Tryz_impl_inside (fun w10 e10 => kk4 _ _ (kx rfl (kx rfl (kx rfl k0))) rfl (Ext.refl.trans e10))))) (fun w9 e9 => ?_)
  have H6 := H5.to e9
  refine s_val (wn rfl) rfl rfl (py_band rfl rfl) (s_val (wn rfl) rfl rfl (py_move rfl) ?_)
  refine s_grp 3 (j := 6) (want := true) (t := 31) rfl rfl rfl rfl (fun hg5 kk5 => s_val (wgE rfl rfl rfl hg5) rfl rfl (py_field Tryz.underlying33 rfl Tryz.sizeOf2 rfl rfl) (s_val (wgE rfl rfl rfl hg5) rfl rfl (py_load Tryz.underlying2 rfl rfl (cell_atL (H6.box 0 rfl) rfl)) (s_callv (wgE rfl rfl rfl hg5) rfl rfl (pc_call Tryz.func154 rfl Tryz_nm154 rfl) Tryz_impl_inside (fun w12 e12 => kk5 _ _ (kx rfl (kx rfl (kx rfl k0))) rfl (Ext.refl.trans e12))))) (fun w11 e11 => ?_)
  have H7 := H6.to e11
  refine s_val (wn rfl) rfl rfl (py_band rfl rfl) (s_val (wn rfl) rfl rfl (py_move rfl) ?_)
  refine s_grp 3 (j := 11) (want := true) (t := 36) rfl rfl rfl rfl (fun hg6 kk6 => s_val (wgE rfl rfl rfl hg6) rfl rfl (py_field Tryz.underlying33 rfl Tryz.sizeOf2 rfl rfl) (s_val (wgE rfl rfl rfl hg6) rfl rfl (py_load Tryz.underlying2 rfl rfl (cell_atL (H7.box 0 rfl) rfl)) (s_callv (wgE rfl rfl rfl hg6) rfl rfl (pc_call Tryz.func154 rfl Tryz_nm154 rfl) Tryz_impl_inside (fun w14 e14 => kk6 _ _ (kx rfl (kx rfl (kx rfl k0))) rfl (Ext.refl.trans e14))))) (fun w13 e13 => ?_)
  have H8 := H7.to e13
  refine s_val (wn rfl) rfl rfl (py_band rfl rfl) (s_val (wn rfl) rfl rfl (py_move rfl) ?_)
  refine s_grp 3 (j := 16) (want := true) (t := 41) rfl rfl rfl rfl (fun hg7 kk7 => s_val (wgE rfl rfl rfl hg7) rfl rfl (py_field Tryz.underlying33 rfl Tryz.sizeOf2 rfl rfl) (s_val (wgE rfl rfl rfl hg7) rfl rfl (py_load Tryz.underlying2 rfl rfl (cell_atL (H8.box 0 rfl) rfl)) (s_callv (wgE rfl rfl rfl hg7) rfl rfl (pc_call Tryz.func154 rfl Tryz_nm154 rfl) Tryz_impl_inside (fun w16 e16 => kk7 _ _ (kx rfl (kx rfl (kx rfl k0))) rfl (Ext.refl.trans e16))))) (fun w15 e15 => ?_)
  have H9 := H8.to e15
  refine s_val (wn rfl) rfl rfl (py_band rfl rfl) (s_val (wn rfl) rfl rfl (py_assign rfl) ?_)
  refine s_nil ?_
  refine W_seq ?_
  refine W_seq ?_
  refine W_reg ?_
  refine s_val (wn rfl) rfl rfl (py_move rfl) (s_val (wn rfl) rfl rfl (py_not rfl) (s_val (wn rfl) rfl rfl (py_move rfl) ?_))
  refine s_grp 4 (j := 2) (want := false) (t := 49) rfl rfl rfl rfl (fun hg8 kk8 => s_val (wgE rfl rfl rfl hg8) rfl rfl (py_field Tryz.underlying33 rfl Tryz.sizeOf2 rfl rfl) (s_val (wgE rfl rfl rfl hg8) rfl rfl (py_load Tryz.underlying2 rfl rfl (cell_atL (H9.box 0 rfl) rfl)) (s_callv (wgE rfl rfl rfl hg8) rfl rfl (pc_call Tryz.func154 rfl Tryz_nm154 rfl) Tryz_impl_inside (fun w18 e18 => s_val (wgE rfl rfl rfl hg8) rfl rfl (py_not rfl) (kk8 _ _ (kx rfl (kx rfl (kx rfl (kx rfl k0)))) rfl (Ext.refl.trans e18)))))) (fun w17 e17 => ?_)
  have H10 := H9.to e17
  refine s_val (wn rfl) rfl rfl (py_bor rfl rfl) ?_
  refine s_nil ?_
  refine W_if rfl (fun c1 => ?_) (fun c1 => ?_)
  · refine W_seq ?_
    refine W_reg ?_
    refine s_val (wn rfl) rfl rfl (py_assign rfl) ?_
    refine s_nil ?_
    refine W_ret (hQ _ _ (fin1 Tryz.results150 rfl ?_))
    exact ⟨H10.ext, Shape.no (by simpa only [Shape.ok, cOK, rOK, Bool.not_and, Bool.or_assoc] using c1)⟩
  · refine W_skip ?_
    refine W_seq ?_
    refine W_reg ?_
    refine s_val (wn rfl) rfl rfl (py_assign rfl) ?_
    refine s_nil ?_
    refine W_ret (hQ _ _ (fin1 Tryz.results150 rfl ?_))
    exact ⟨H10.ext, Shape.yes (by simpa only [Shape.ok, cOK, rOK, Bool.not_and, Bool.or_assoc] using c1)⟩
end Go.Wk
