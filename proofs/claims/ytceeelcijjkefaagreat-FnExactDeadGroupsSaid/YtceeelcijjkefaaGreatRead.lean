/-
  The functions walked, each once. (Printed by a program of mine.)
-/
import Derived.Test.YtceeelcijjkefaaGreatWorld3
import Derived.Test.YtceeelcijjkefaaGreatWmC
set_option linter.unusedVariables false
set_option linter.unusedSimpArgs false
namespace Go.Wk
open Go.Proofs Rp
set_option maxRecDepth 10000
theorem Tryz_impl_World_isOn {w : World} {zb : Nat} {z : Wld} {zA9 : Option Addr} {zC9 : Nat} {zA10 : Option Addr} {zC10 : Nat} {zA11 : Option Addr} {zC11 : Nat} {g : Int} (zB : w.heap[zb]? = some (.cells [.int .i64 z.Shape.Groups, .int .i64 z.Shape.Column, .int .i64 z.Shape.Data, .int .i64 z.Shape.Spare, .int .i64 z.Shape.Rows, .int .i64 z.Shape.Cap, .int .i64 z.Shape.Batch, .int .i64 z.Shape.Queue, .int .i64 z.Shape.Stage, .slice zA9 z.Groups.length zC9, .slice zA10 z.On.length zC10, .slice zA11 z.Tapes.length zC11, .int .i64 z.Writes, .int .i64 z.Stop, .bool z.Down].toArray 37)) (zK : z.Ok) (zS9 : Sees w [.slice zA9 z.Groups.length zC9] z.Groups) (zS10 : Sees w [.slice zA10 z.On.length zC10] z.On) (zS11 : Sees w [.slice zA11 z.Tapes.length zC11] z.Tapes) : Ret Tryz.prog 209 #[.pointer (some ⟨zb, 0, none⟩), .int .i64 g] w fun v w' => Ext No w w' ∧ (v = .bool (decide (g ∈ z.On))) := by
  have zK2 := zK
  unfold Wld.Ok Shape.Ok at zK2
  try unfold I64ok at zK2
  try unfold maxLen at zK2
  have zL9 := sees_len zS9
  unfold maxLen at zL9
  obtain ⟨zF9, zO9⟩ := zS9
  have zL10 := sees_len zS10
  unfold maxLen at zL10
  obtain ⟨zF10, zO10⟩ := zS10
  have zL11 := sees_len zS11
  unfold maxLen at zL11
  obtain ⟨zF11, zO11⟩ := zS11
  refine ret_Q (vs := [.pointer (some ⟨zb, 0, none⟩), .int .i64 g]) Tryz.func209 rfl Tryz.ntmps209 rfl (fun Q hQ hN => ?_)
  have H0 := Sep.start (w := w) (F := [box zb (.cells [.int .i64 z.Shape.Groups, .int .i64 z.Shape.Column, .int .i64 z.Shape.Data, .int .i64 z.Shape.Spare, .int .i64 z.Shape.Rows, .int .i64 z.Shape.Cap, .int .i64 z.Shape.Batch, .int .i64 z.Shape.Queue, .int .i64 z.Shape.Stage, .slice zA9 z.Groups.length zC9, .slice zA10 z.On.length zC10, .slice zA11 z.Tapes.length zC11, .int .i64 z.Writes, .int .i64 z.Stop, .bool z.Down].toArray 37), seen false [.slice zA9 z.Groups.length zC9] z.Groups zF9, seen false [.slice zA10 z.On.length zC10] z.On zF10, seen false [.slice zA11 z.Tapes.length zC11] z.Tapes zF11]) (all_cons (by exact zB) (all_cons zO9 (all_cons zO10 (all_cons zO11 (by simp)))))
  refine W_seq ?_
  refine W_reg ?_
  refine s_val (wn rfl) rfl rfl (py_assign rfl) ?_
  refine s_nil ?_
  refine W_seq ?_
  refine W_reg ?_
  refine s_val (wn rfl) rfl rfl (py_move rfl) (s_val (wn rfl) rfl rfl (py_nil rfl) (s_val (wn rfl) rfl rfl (py_field Tryz.underlying37 rfl Tryz.sizeOf25 rfl rfl) (s_val (wn rfl) rfl rfl (py_load Tryz.underlying25 rfl rfl (cell_atL (H0.fbox 0 rfl) rfl)) (s_val (wn rfl) rfl rfl (py_move rfl) ?_))))
  refine s_call (wn rfl) rfl rfl (pc_call Tryz.func220 rfl Tryz_nm220 rfl) (Tryz_slices_Contains_int64_int64 (H0.sees 2 rfl)) (fun v1 w1 r1 => ?_)
  obtain ⟨e1, rfl⟩ := r1
  have H1 := H0.to e1
  refine s_val (wn rfl) rfl rfl (py_assign rfl) ?_
  refine s_nil ?_
  refine W_ret (hQ _ _ (fin1 Tryz.results209 rfl ?_))
  exact ⟨H1.ext, rfl⟩
theorem Tryz_impl_World_groupFault {w : World} {zb : Nat} {z : Wld} {zA9 : Option Addr} {zC9 : Nat} {zA10 : Option Addr} {zC10 : Nat} {zA11 : Option Addr} {zC11 : Nat} {g : Int} (zB : w.heap[zb]? = some (.cells [.int .i64 z.Shape.Groups, .int .i64 z.Shape.Column, .int .i64 z.Shape.Data, .int .i64 z.Shape.Spare, .int .i64 z.Shape.Rows, .int .i64 z.Shape.Cap, .int .i64 z.Shape.Batch, .int .i64 z.Shape.Queue, .int .i64 z.Shape.Stage, .slice zA9 z.Groups.length zC9, .slice zA10 z.On.length zC10, .slice zA11 z.Tapes.length zC11, .int .i64 z.Writes, .int .i64 z.Stop, .bool z.Down].toArray 37)) (zK : z.Ok) (zS9 : Sees w [.slice zA9 z.Groups.length zC9] z.Groups) (zS10 : Sees w [.slice zA10 z.On.length zC10] z.On) (zS11 : Sees w [.slice zA11 z.Tapes.length zC11] z.Tapes) (hs : z.Shape.ok = true) : Ret Tryz.prog 143 #[.pointer (some ⟨zb, 0, none⟩), .int .i64 g] w fun v w' => Ext No w w' ∧ (v = .int .i64 (groupF z g)) := by
  have zK2 := zK
  unfold Wld.Ok Shape.Ok at zK2
  try unfold I64ok at zK2
  try unfold maxLen at zK2
  have zL9 := sees_len zS9
  unfold maxLen at zL9
  obtain ⟨zF9, zO9⟩ := zS9
  have zL10 := sees_len zS10
  unfold maxLen at zL10
  obtain ⟨zF10, zO10⟩ := zS10
  have zL11 := sees_len zS11
  unfold maxLen at zL11
  obtain ⟨zF11, zO11⟩ := zS11
  have sbd := shape_bd hs
  refine ret_Q (vs := [.pointer (some ⟨zb, 0, none⟩), .int .i64 g]) Tryz.func143 rfl Tryz.ntmps143 rfl (fun Q hQ hN => ?_)
  have H0 := Sep.start (w := w) (F := [box zb (.cells [.int .i64 z.Shape.Groups, .int .i64 z.Shape.Column, .int .i64 z.Shape.Data, .int .i64 z.Shape.Spare, .int .i64 z.Shape.Rows, .int .i64 z.Shape.Cap, .int .i64 z.Shape.Batch, .int .i64 z.Shape.Queue, .int .i64 z.Shape.Stage, .slice zA9 z.Groups.length zC9, .slice zA10 z.On.length zC10, .slice zA11 z.Tapes.length zC11, .int .i64 z.Writes, .int .i64 z.Stop, .bool z.Down].toArray 37), seen false [.slice zA9 z.Groups.length zC9] z.Groups zF9, seen false [.slice zA10 z.On.length zC10] z.On zF10, seen false [.slice zA11 z.Tapes.length zC11] z.Tapes zF11]) (all_cons (by exact zB) (all_cons zO9 (all_cons zO10 (all_cons zO11 (by simp)))))
  refine W_seq ?_
  refine W_reg ?_
  refine s_val (wn rfl) rfl rfl (py_assign rfl) ?_
  refine s_nil ?_
  refine W_seq ?_
  refine W_block ?_
  refine W_seq ?_
  refine W_reg ?_
  refine s_val (wn rfl) rfl rfl (py_move rfl) (s_val (wn rfl) rfl rfl (py_nil rfl) (s_val (wn rfl) rfl rfl (py_field Tryz.underlying37 rfl Tryz.sizeOf33 rfl rfl) (s_val (wn rfl) rfl rfl (py_loadS Tryz.underlying33 rfl Tryz.sizeOf33 rfl rfl (At.sub (H0.fbox 0 rfl) 9)) (s_val (wn rfl) rfl rfl (py_move rfl) ?_))))
  refine s_call (wn rfl) rfl rfl (pc_call Tryz.func94 rfl Tryz_nm94 rfl) (Tryz_impl_Shape_isGroup (by assumption)) (fun v1 w1 r1 => ?_)
  obtain ⟨e1, rfl⟩ := r1
  have H1 := H0.to e1
  refine s_val (wn rfl) rfl rfl (py_not rfl) (s_val (wn rfl) rfl rfl (py_assign rfl) ?_)
  refine s_nil ?_
  refine W_if rfl (fun c1 => ?_) (fun c1 => ?_)
  · refine W_seq ?_
    refine W_reg ?_
    refine s_val (wn rfl) rfl rfl (py_assign rfl) ?_
    refine s_nil ?_
    refine W_ret (hQ _ _ (fin1 Tryz.results143 rfl ?_))
    exact ⟨H1.ext, congrArg (Value.int .i64) (groupF_no (not_true c1)).symm⟩
  · refine W_seq ?_
    refine W_reg ?_
    refine s_val (wn rfl) rfl rfl (py_move rfl) (s_val (wn rfl) rfl rfl (py_move rfl) ?_)
    refine s_call (wn rfl) rfl rfl (pc_call Tryz.func209 rfl Tryz_nm209 rfl) (Tryz_impl_World_isOn (H1.fbox 0 rfl) (by assumption) (H1.sees 1 rfl) (H1.sees 2 rfl) (H1.sees 3 rfl)) (fun v2 w2 r2 => ?_)
    obtain ⟨e2, rfl⟩ := r2
    have H2 := H1.to e2
    refine s_val (wn rfl) rfl rfl (py_not rfl) (s_val (wn rfl) rfl rfl (py_assign rfl) ?_)
    refine s_nil ?_
    refine W_if rfl (fun c2 => ?_) (fun c2 => ?_)
    · refine W_seq ?_
      refine W_reg ?_
      refine s_val (wn rfl) rfl rfl (py_assign rfl) ?_
      refine s_nil ?_
      refine W_ret (hQ _ _ (fin1 Tryz.results143 rfl ?_))
      exact ⟨H2.ext, congrArg (Value.int .i64) (groupF_off (not_false c1) (of_decide_eq_false (not_true c2))).symm⟩
    · refine W_skip ?_
      refine W_seq ?_
      refine W_reg ?_
      refine s_val (wn rfl) rfl rfl (py_assign rfl) ?_
      refine s_nil ?_
      refine W_ret (hQ _ _ (fin1 Tryz.results143 rfl ?_))
      exact ⟨H2.ext, congrArg (Value.int .i64) (groupF_ok (not_false c1) (of_decide_eq_true (not_false c2))).symm⟩
theorem Tryz_impl_World_rowFault {w : World} {zb : Nat} {z : Wld} {zA9 : Option Addr} {zC9 : Nat} {zA10 : Option Addr} {zC10 : Nat} {zA11 : Option Addr} {zC11 : Nat} {g : Int} {row : Int} (zB : w.heap[zb]? = some (.cells [.int .i64 z.Shape.Groups, .int .i64 z.Shape.Column, .int .i64 z.Shape.Data, .int .i64 z.Shape.Spare, .int .i64 z.Shape.Rows, .int .i64 z.Shape.Cap, .int .i64 z.Shape.Batch, .int .i64 z.Shape.Queue, .int .i64 z.Shape.Stage, .slice zA9 z.Groups.length zC9, .slice zA10 z.On.length zC10, .slice zA11 z.Tapes.length zC11, .int .i64 z.Writes, .int .i64 z.Stop, .bool z.Down].toArray 37)) (zK : z.Ok) (zS9 : Sees w [.slice zA9 z.Groups.length zC9] z.Groups) (zS10 : Sees w [.slice zA10 z.On.length zC10] z.On) (zS11 : Sees w [.slice zA11 z.Tapes.length zC11] z.Tapes) (hs : z.Shape.ok = true) : Ret Tryz.prog 76 #[.pointer (some ⟨zb, 0, none⟩), .int .i64 g, .int .i64 row] w fun v w' => Ext No w w' ∧ (v = .int .i64 (rowF z g row)) := by
  have zK2 := zK
  unfold Wld.Ok Shape.Ok at zK2
  try unfold I64ok at zK2
  try unfold maxLen at zK2
  have zL9 := sees_len zS9
  unfold maxLen at zL9
  obtain ⟨zF9, zO9⟩ := zS9
  have zL10 := sees_len zS10
  unfold maxLen at zL10
  obtain ⟨zF10, zO10⟩ := zS10
  have zL11 := sees_len zS11
  unfold maxLen at zL11
  obtain ⟨zF11, zO11⟩ := zS11
  have sbd := shape_bd hs
  refine ret_Q (vs := [.pointer (some ⟨zb, 0, none⟩), .int .i64 g, .int .i64 row]) Tryz.func76 rfl Tryz.ntmps76 rfl (fun Q hQ hN => ?_)
  have H0 := Sep.start (w := w) (F := [box zb (.cells [.int .i64 z.Shape.Groups, .int .i64 z.Shape.Column, .int .i64 z.Shape.Data, .int .i64 z.Shape.Spare, .int .i64 z.Shape.Rows, .int .i64 z.Shape.Cap, .int .i64 z.Shape.Batch, .int .i64 z.Shape.Queue, .int .i64 z.Shape.Stage, .slice zA9 z.Groups.length zC9, .slice zA10 z.On.length zC10, .slice zA11 z.Tapes.length zC11, .int .i64 z.Writes, .int .i64 z.Stop, .bool z.Down].toArray 37), seen false [.slice zA9 z.Groups.length zC9] z.Groups zF9, seen false [.slice zA10 z.On.length zC10] z.On zF10, seen false [.slice zA11 z.Tapes.length zC11] z.Tapes zF11]) (all_cons (by exact zB) (all_cons zO9 (all_cons zO10 (all_cons zO11 (by simp)))))
  refine W_seq ?_
  refine W_reg ?_
  refine s_val (wn rfl) rfl rfl (py_assign rfl) ?_
  refine s_nil ?_
  refine W_seq ?_
  refine W_seq ?_
  refine W_reg ?_
  refine s_val (wn rfl) rfl rfl (py_move rfl) (s_val (wn rfl) rfl rfl (py_nil rfl) (s_val (wn rfl) rfl rfl (py_field Tryz.underlying37 rfl Tryz.sizeOf33 rfl rfl) (s_val (wn rfl) rfl rfl (py_loadS Tryz.underlying33 rfl Tryz.sizeOf33 rfl rfl (At.sub (H0.fbox 0 rfl) 9)) (s_val (wn rfl) rfl rfl (py_move rfl) ?_))))
  refine s_call (wn rfl) rfl rfl (pc_call Tryz.func94 rfl Tryz_nm94 rfl) (Tryz_impl_Shape_isGroup (by assumption)) (fun v1 w1 r1 => ?_)
  obtain ⟨e1, rfl⟩ := r1
  have H1 := H0.to e1
  refine s_val (wn rfl) rfl rfl (py_move rfl) ?_
  refine s_case (t := 13) rfl (fun hg1 => ?_) (fun hg1 => ?_)
  · try simp only [decide_eq_true_eq, decide_eq_false_iff_not] at hg1
    refine s_val (wg rfl rfl rfl) rfl rfl (py_move rfl) (s_val (wg rfl rfl rfl) rfl rfl (py_nil rfl) (s_val (wg rfl rfl rfl) rfl rfl (py_field Tryz.underlying37 rfl Tryz.sizeOf33 rfl rfl) (s_val (wg rfl rfl rfl) rfl rfl (py_loadS Tryz.underlying33 rfl Tryz.sizeOf33 rfl rfl (At.sub (H1.fbox 0 rfl) 9)) (s_val (wg rfl rfl rfl) rfl rfl (py_move rfl) ?_))))
    refine s_call (wg rfl rfl rfl) rfl rfl (pc_call Tryz.func120 rfl Tryz_nm120 rfl) (Tryz_impl_Shape_isRow (by assumption)) (fun v2 w2 r2 => ?_)
    obtain ⟨e2, rfl⟩ := r2
    have H2 := H1.to e2
    refine s_val (wg rfl rfl rfl) rfl rfl (py_not rfl) (s_val (wn rfl) rfl rfl (py_pickT rfl rfl) ?_)
    refine s_nil ?_
    refine W_if rfl (fun c1 => ?_) (fun c1 => ?_)
    · refine W_seq ?_
      refine W_reg ?_
      refine s_val (wn rfl) rfl rfl (py_assign rfl) ?_
      refine s_nil ?_
      refine W_ret (hQ _ _ (fin1 Tryz.results76 rfl ?_))
      exact ⟨H2.ext, congrArg (Value.int .i64) (if_pos (by simp_all)).symm⟩
    · refine W_skip ?_
      refine W_seq ?_
      refine W_reg ?_
      refine s_val (wn rfl) rfl rfl (py_move rfl) (s_val (wn rfl) rfl rfl (py_move rfl) ?_)
      refine s_call (wn rfl) rfl rfl (pc_call Tryz.func143 rfl Tryz_nm143 rfl) (Tryz_impl_World_groupFault (H2.fbox 0 rfl) (by assumption) (H2.sees 1 rfl) (H2.sees 2 rfl) (H2.sees 3 rfl) (by assumption)) (fun v3 w3 r3 => ?_)
      obtain ⟨e3, rfl⟩ := r3
      have H3 := H2.to e3
      refine s_val (wn rfl) rfl rfl (py_assign rfl) ?_
      refine s_nil ?_
      refine W_ret (hQ _ _ (fin1 Tryz.results76 rfl ?_))
      exact ⟨H3.ext, congrArg (Value.int .i64) (if_neg (by simp_all)).symm⟩
  · try simp only [decide_eq_true_eq, decide_eq_false_iff_not] at hg1
    refine s_skip (wog (b := false) rfl rfl rfl) rfl rfl (s_skip (wog (b := false) rfl rfl rfl) rfl rfl (s_skip (wog (b := false) rfl rfl rfl) rfl rfl (s_skip (wog (b := false) rfl rfl rfl) rfl rfl (s_skip (wog (b := false) rfl rfl rfl) rfl rfl (s_skip (wog (b := false) rfl rfl rfl) rfl rfl (s_skip (wog (b := false) rfl rfl rfl) rfl rfl (s_val (wn rfl) rfl rfl (py_pickF rfl rfl) ?_)))))))
    refine s_nil ?_
    refine W_iff rfl ?_
    refine W_skip ?_
    refine W_seq ?_
    refine W_reg ?_
    refine s_val (wn rfl) rfl rfl (py_move rfl) (s_val (wn rfl) rfl rfl (py_move rfl) ?_)
    refine s_call (wn rfl) rfl rfl (pc_call Tryz.func143 rfl Tryz_nm143 rfl) (Tryz_impl_World_groupFault (H1.fbox 0 rfl) (by assumption) (H1.sees 1 rfl) (H1.sees 2 rfl) (H1.sees 3 rfl) (by assumption)) (fun v4 w4 r4 => ?_)
    obtain ⟨e4, rfl⟩ := r4
    have H4 := H1.to e4
    refine s_val (wn rfl) rfl rfl (py_assign rfl) ?_
    refine s_nil ?_
    refine W_ret (hQ _ _ (fin1 Tryz.results76 rfl ?_))
    exact ⟨H4.ext, congrArg (Value.int .i64) (if_neg (by simp_all)).symm⟩
theorem Tryz_spec_l5Place {w : World} {s : Shape} {g : Int} {d : Int} {row : Int} (hs : s.ok = true) : Ret Tryz.prog 96 #[s.v, .int .i64 g, .int .i64 d, .int .i64 row] w fun v w' => Ext No w w' ∧ (v = .bool (placeF s g d row)) := by
  have sbd := shape_bd hs
  refine ret_Q (vs := [s.v, .int .i64 g, .int .i64 d, .int .i64 row]) Tryz.func96 rfl Tryz.ntmps96 rfl (fun Q hQ hN => ?_)
  have H0 := Sep.start (w := w) (F := []) (by simp)
  refine W_seq ?_
  refine W_reg ?_
  refine s_box (wn rfl) rfl rfl H0 (fun b1 w1 e1 g1 H1 => ?_)
  refine s_val (wn rfl) rfl rfl (py_assign rfl) ?_
  refine s_nil ?_
  refine W_seq ?_
  refine W_reg ?_
  refine s_val (wn rfl) rfl rfl (py_move rfl) (s_val (wn rfl) rfl rfl (py_loadS Tryz.underlying33 rfl Tryz.sizeOf33 rfl rfl (At.whole (H1.box 0 rfl))) ?_)
  refine s_call (wn rfl) rfl rfl (pc_call Tryz.func83 rfl Tryz_nm83 rfl) (Tryz_spec_l5All (by assumption)) (fun v1 w2 r1 => ?_)
  obtain ⟨e2, rfl⟩ := r1
  have H2 := H1.to e2
  refine s_val (wn rfl) rfl rfl (py_sub rfl rfl (in64 ⟨by omega, by omega⟩)) ?_
  refine s_call (wn rfl) rfl rfl (pc_call Tryz.func149 rfl Tryz_nm149 rfl) Tryz_spec_l1In (fun v2 w3 r2 => ?_)
  obtain ⟨e3, rfl⟩ := r2
  have H3 := H2.to e3
  refine s_val (wn rfl) rfl rfl (py_move rfl) ?_
  refine s_grp 5 (j := 5) (want := true) (t := 19) rfl rfl rfl rfl (fun hg1 kk1 => s_val (wgE rfl rfl rfl hg1) rfl rfl (py_move rfl) (s_val (wgE rfl rfl rfl hg1) rfl rfl (py_loadS Tryz.underlying33 rfl Tryz.sizeOf33 rfl rfl (At.whole (H3.box 0 rfl))) (s_callv (wgE rfl rfl rfl hg1) rfl rfl (pc_call Tryz.func157 rfl Tryz_nm157 rfl) (Tryz_spec_l5Drives (by assumption)) (fun w5 e5 => s_val (wgE rfl rfl rfl hg1) rfl rfl (py_sub rfl rfl (in64 ⟨by omega, by omega⟩)) (s_callv (wgE rfl rfl rfl hg1) rfl rfl (pc_call Tryz.func149 rfl Tryz_nm149 rfl) Tryz_spec_l1In (fun w6 e6 => kk1 _ _ (kx rfl (kx rfl (kx rfl (kx rfl (kx rfl k0))))) rfl ((Ext.refl.trans e5).trans e6))))))) (fun w4 e4 => ?_)
  have H4 := H3.to e4
  refine s_val (wn rfl) rfl rfl (py_band rfl rfl) (s_val (wn rfl) rfl rfl (py_move rfl) ?_)
  refine s_grp 5 (j := 12) (want := true) (t := 26) rfl rfl rfl rfl (fun hg2 kk2 => s_val (wgE rfl rfl rfl hg2) rfl rfl (py_move rfl) (s_val (wgE rfl rfl rfl hg2) rfl rfl (py_field Tryz.underlying33 rfl Tryz.sizeOf2 rfl rfl) (s_val (wgE rfl rfl rfl hg2) rfl rfl (py_load Tryz.underlying2 rfl rfl (cell_atL (H4.box 0 rfl) rfl)) (s_val (wgE rfl rfl rfl hg2) rfl rfl (py_sub rfl rfl (in64 ⟨by omega, by omega⟩)) (s_callv (wgE rfl rfl rfl hg2) rfl rfl (pc_call Tryz.func149 rfl Tryz_nm149 rfl) Tryz_spec_l1In (fun w8 e8 => kk2 _ _ (kx rfl (kx rfl (kx rfl (kx rfl (kx rfl k0))))) rfl (Ext.refl.trans e8))))))) (fun w7 e7 => ?_)
  have H5 := H4.to e7
  refine s_val (wn rfl) rfl rfl (py_band rfl rfl) (s_val (wn rfl) rfl rfl (py_assign rfl) ?_)
  refine s_nil ?_
  refine W_ret (hQ _ _ (fin1 Tryz.results96 rfl ?_))
  exact ⟨H5.ext, congrArg Value.bool (by simp [placeF, Bool.and_assoc])⟩
theorem Tryz_spec_l7Where {w : World} {z : Wld} {zA9 : Option Addr} {zC9 : Nat} {zA10 : Option Addr} {zC10 : Nat} {zA11 : Option Addr} {zC11 : Nat} {g : Int} {row : Int} (zK : z.Ok) (zS9 : Sees w [.slice zA9 z.Groups.length zC9] z.Groups) (zS10 : Sees w [.slice zA10 z.On.length zC10] z.On) (zS11 : Sees w [.slice zA11 z.Tapes.length zC11] z.Tapes) : Ret Tryz.prog 69 #[z.val zA9 zC9 zA10 zC10 zA11 zC11, .int .i64 g, .int .i64 row] w fun v w' => Ext No w w' ∧ (v = .int .i64 (whereF z g row)) := by
  have zK2 := zK
  unfold Wld.Ok Shape.Ok at zK2
  try unfold I64ok at zK2
  try unfold maxLen at zK2
  have zL9 := sees_len zS9
  unfold maxLen at zL9
  obtain ⟨zF9, zO9⟩ := zS9
  have zL10 := sees_len zS10
  unfold maxLen at zL10
  obtain ⟨zF10, zO10⟩ := zS10
  have zL11 := sees_len zS11
  unfold maxLen at zL11
  obtain ⟨zF11, zO11⟩ := zS11
  refine ret_Q (vs := [z.val zA9 zC9 zA10 zC10 zA11 zC11, .int .i64 g, .int .i64 row]) Tryz.func69 rfl Tryz.ntmps69 rfl (fun Q hQ hN => ?_)
  have H0 := Sep.start (w := w) (F := [seen false [.slice zA9 z.Groups.length zC9] z.Groups zF9, seen false [.slice zA10 z.On.length zC10] z.On zF10, seen false [.slice zA11 z.Tapes.length zC11] z.Tapes zF11]) (all_cons zO9 (all_cons zO10 (all_cons zO11 (by simp))))
  refine W_seq ?_
  refine W_reg ?_
  refine s_box (wn rfl) rfl rfl H0 (fun b1 w1 e1 g1 H1 => ?_)
  refine s_val (wn rfl) rfl rfl (py_assign rfl) ?_
  refine s_nil ?_
  refine W_seq ?_
  refine W_seq ?_
  refine W_reg ?_
  refine s_val (wn rfl) rfl rfl (py_loadS Tryz.underlying37 rfl Tryz.sizeOf37 rfl rfl (At.whole (H1.box 0 rfl))) ?_
  refine s_call (wn rfl) rfl rfl (pc_call Tryz.func99 rfl Tryz_nm99 rfl) (Tryz_spec_l5Asked (by assumption) (H1.sees 0 rfl) (H1.sees 1 rfl) (H1.sees 2 rfl)) (fun v1 w2 r1 => ?_)
  obtain ⟨e2, rfl⟩ := r1
  have H2 := H1.to e2
  refine s_val (wn rfl) rfl rfl (py_assign rfl) ?_
  refine s_nil ?_
  refine W_seq ?_
  refine W_reg ?_
  refine s_val (wn rfl) rfl rfl (py_move rfl) (s_val (wn rfl) rfl rfl (py_neq rfl rfl) ?_)
  refine s_nil ?_
  refine W_ifd rfl (fun c1 => ?_) (fun c1 => ?_)
  · refine W_seq ?_
    refine W_reg ?_
    refine s_val (wn rfl) rfl rfl (py_move rfl) (s_val (wn rfl) rfl rfl (py_assign rfl) ?_)
    refine s_nil ?_
    refine W_ret (hQ _ _ (fin1 Tryz.results69 rfl ?_))
    exact ⟨H2.ext, congrArg (Value.int .i64) (if_pos (by omega)).symm⟩
  · refine W_skip ?_
    refine W_seq ?_
    refine W_seq ?_
    have hs := (worldF_ok (upF_ok (w := z) (by omega)).1).1
    have sbd := shape_bd hs
    refine W_reg ?_
    refine s_val (wn rfl) rfl rfl (py_field Tryz.underlying37 rfl Tryz.sizeOf33 rfl rfl) (s_val (wn rfl) rfl rfl (py_loadS Tryz.underlying33 rfl Tryz.sizeOf33 rfl rfl (At.sub (H2.box 0 rfl) 9)) (s_val (wn rfl) rfl rfl (py_move rfl) (s_val (wn rfl) rfl rfl (py_move rfl) ?_)))
    refine s_call (wn rfl) rfl rfl (pc_call Tryz.func96 rfl Tryz_nm96 rfl) (Tryz_spec_l5Place (by assumption)) (fun v2 w3 r2 => ?_)
    obtain ⟨e3, rfl⟩ := r2
    have H3 := H2.to e3
    refine s_val (wn rfl) rfl rfl (py_not rfl) ?_
    refine s_nil ?_
    refine W_if rfl (fun c2 => ?_) (fun c2 => ?_)
    · refine W_seq ?_
      refine W_reg ?_
      refine s_val (wn rfl) rfl rfl (py_assign rfl) ?_
      refine s_nil ?_
      refine W_ret (hQ _ _ (fin1 Tryz.results69 rfl ?_))
      exact ⟨H3.ext, congrArg (Value.int .i64) ((if_neg (by omega)).trans (rowF_place hs (not_true c2))).symm⟩
    · refine W_skip ?_
      refine W_seq ?_
      refine W_seq ?_
      refine W_reg ?_
      refine s_val (wn rfl) rfl rfl (py_field Tryz.underlying37 rfl Tryz.sizeOf25 rfl rfl) (s_val (wn rfl) rfl rfl (py_load Tryz.underlying25 rfl rfl (cell_atL (H3.box 0 rfl) rfl)) (s_val (wn rfl) rfl rfl (py_move rfl) ?_))
      refine s_call (wn rfl) rfl rfl (pc_call Tryz.func139 rfl Tryz_nm139 rfl) (Tryz_spec_l1Has (H3.sees 1 rfl)) (fun v3 w4 r3 => ?_)
      obtain ⟨e4, rfl⟩ := r3
      have H4 := H3.to e4
      refine s_val (wn rfl) rfl rfl (py_not rfl) ?_
      refine s_nil ?_
      refine W_if rfl (fun c3 => ?_) (fun c3 => ?_)
      · refine W_seq ?_
        refine W_reg ?_
        refine s_val (wn rfl) rfl rfl (py_assign rfl) ?_
        refine s_nil ?_
        refine W_ret (hQ _ _ (fin1 Tryz.results69 rfl ?_))
        exact ⟨H4.ext, congrArg (Value.int .i64) ((if_neg (by omega)).trans (rowF_off hs (not_false c2) (not_true c3))).symm⟩
      · refine W_skip ?_
        refine W_seq ?_
        refine W_reg ?_
        refine s_val (wn rfl) rfl rfl (py_assign rfl) ?_
        refine s_nil ?_
        refine W_ret (hQ _ _ (fin1 Tryz.results69 rfl ?_))
        exact ⟨H4.ext, congrArg (Value.int .i64) ((if_neg (by omega)).trans (rowF_on hs (not_false c2) (not_false c3))).symm⟩
theorem Tryz_spec_l1Max {w : World} {x y : Int}  : Ret Tryz.prog 140 #[.int .i64 x, .int .i64 y] w fun v w' => Ext No w w' ∧ (v = .int .i64 (if x ≤ y then y else x)) := by
  refine ret_Q (vs := [.int .i64 x, .int .i64 y]) Tryz.func140 rfl Tryz.ntmps140 rfl (fun Q hQ hN => ?_)
  have H0 := Sep.start (w := w) (F := []) (by simp)
  refine W_seq ?_
  refine W_reg ?_
  refine s_val (wn rfl) rfl rfl (py_assign rfl) ?_
  refine s_nil ?_
  refine W_seq ?_
  refine W_seq ?_
  refine W_reg ?_
  refine s_val (wn rfl) rfl rfl (py_move rfl) (s_val (wn rfl) rfl rfl (py_move rfl) (s_val (wn rfl) rfl rfl (py_gtr rfl rfl) ?_))
  refine s_nil ?_
  refine W_ifd rfl (fun c1 => ?_) (fun c1 => ?_)
  · refine W_seq ?_
    refine W_reg ?_
    refine s_val (wn rfl) rfl rfl (py_move rfl) (s_val (wn rfl) rfl rfl (py_assign rfl) ?_)
    refine s_nil ?_
    refine W_ret (hQ _ _ (fin1 Tryz.results140 rfl ?_))
    exact ⟨H0.ext, congrArg (Value.int .i64) (if_neg (by omega)).symm⟩
  · refine W_skip ?_
    refine W_seq ?_
    refine W_reg ?_
    refine s_val (wn rfl) rfl rfl (py_move rfl) (s_val (wn rfl) rfl rfl (py_assign rfl) ?_)
    refine s_nil ?_
    refine W_ret (hQ _ _ (fin1 Tryz.results140 rfl ?_))
    exact ⟨H0.ext, congrArg (Value.int .i64) (if_pos (by omega)).symm⟩
theorem Tryz_impl_World_rowStamp {w : World} {zb : Nat} {z : Wld} {zA9 : Option Addr} {zC9 : Nat} {zA10 : Option Addr} {zC10 : Nat} {zA11 : Option Addr} {zC11 : Nat} {g : Int} {row : Int} (zB : w.heap[zb]? = some (.cells [.int .i64 z.Shape.Groups, .int .i64 z.Shape.Column, .int .i64 z.Shape.Data, .int .i64 z.Shape.Spare, .int .i64 z.Shape.Rows, .int .i64 z.Shape.Cap, .int .i64 z.Shape.Batch, .int .i64 z.Shape.Queue, .int .i64 z.Shape.Stage, .slice zA9 z.Groups.length zC9, .slice zA10 z.On.length zC10, .slice zA11 z.Tapes.length zC11, .int .i64 z.Writes, .int .i64 z.Stop, .bool z.Down].toArray 37)) (zK : z.Ok) (zS9 : Sees w [.slice zA9 z.Groups.length zC9] z.Groups) (zS10 : Sees w [.slice zA10 z.On.length zC10] z.On) (zS11 : Sees w [.slice zA11 z.Tapes.length zC11] z.Tapes) (hs : z.Shape.ok = true) (hG : groupsOK z = true) (hg : ins g 0 (z.Shape.Groups + z.Shape.Column - 1) = true) (hr : ins row 0 (z.Shape.Rows - 1) = true) : Ret Tryz.prog 77 #[.pointer (some ⟨zb, 0, none⟩), .int .i64 g, .int .i64 row] w fun v w' => Ext No w w' ∧ (v = .int .i64 (stampTo (z.Groups.getD g.toNat []) row.toNat (z.Groups.getD g.toNat []).length)) := by
  have zK2 := zK
  unfold Wld.Ok Shape.Ok at zK2
  try unfold I64ok at zK2
  try unfold maxLen at zK2
  have zL9 := sees_len zS9
  unfold maxLen at zL9
  obtain ⟨zF9, zO9⟩ := zS9
  have zL10 := sees_len zS10
  unfold maxLen at zL10
  obtain ⟨zF10, zO10⟩ := zS10
  have zL11 := sees_len zS11
  unfold maxLen at zL11
  obtain ⟨zF11, zO11⟩ := zS11
  have sbd := shape_bd hs
  have hgg := groups_get hG
  have hgl := hgg.1
  have hgi := ins_iff.1 hg
  obtain ⟨hdl, hdd⟩ := hgg.2 g.toNat (by omega)
  have hri := ins_iff.1 hr
  refine ret_Q (vs := [.pointer (some ⟨zb, 0, none⟩), .int .i64 g, .int .i64 row]) Tryz.func77 rfl Tryz.ntmps77 rfl (fun Q hQ hN => ?_)
  have H0 := Sep.start (w := w) (F := [box zb (.cells [.int .i64 z.Shape.Groups, .int .i64 z.Shape.Column, .int .i64 z.Shape.Data, .int .i64 z.Shape.Spare, .int .i64 z.Shape.Rows, .int .i64 z.Shape.Cap, .int .i64 z.Shape.Batch, .int .i64 z.Shape.Queue, .int .i64 z.Shape.Stage, .slice zA9 z.Groups.length zC9, .slice zA10 z.On.length zC10, .slice zA11 z.Tapes.length zC11, .int .i64 z.Writes, .int .i64 z.Stop, .bool z.Down].toArray 37), seen false [.slice zA9 z.Groups.length zC9] z.Groups zF9, seen false [.slice zA10 z.On.length zC10] z.On zF10, seen false [.slice zA11 z.Tapes.length zC11] z.Tapes zF11]) (all_cons (by exact zB) (all_cons zO9 (all_cons zO10 (all_cons zO11 (by simp)))))
  refine W_seq ?_
  refine W_reg ?_
  refine s_val (wn rfl) rfl rfl (py_assign rfl) ?_
  refine s_nil ?_
  refine W_seq ?_
  refine W_reg ?_
  refine s_val (wn rfl) rfl rfl (py_assign rfl) ?_
  refine s_nil ?_
  refine W_seq ?_
  refine W_seq ?_
  obtain ⟨eb1, eo1, ea1, ek1, ef1, ee1, ec1, eO1, eH1⟩ := elem_sl (H0.seen 1 rfl) g.toNat (by omega)
  have eP1 := H0.look1 1 rfl eO1 eH1
  refine W_reg ?_
  refine s_val (wn rfl) rfl rfl (py_move rfl) (s_val (wn rfl) rfl rfl (py_nil rfl) (s_val (wn rfl) rfl rfl (py_field Tryz.underlying37 rfl Tryz.sizeOf34 rfl rfl) (s_val (wn rfl) rfl rfl (py_load Tryz.underlying34 rfl rfl (cell_atL (eP1.fbox 0 rfl) rfl)) (s_val (wn rfl) rfl rfl (py_move rfl) (s_val (wn rfl) rfl rfl (py_elz Tryz.underlying34 Tryz.sizeOf147 rfl rfl ee1 g.toNat (by omega) (by omega)) (s_val (wn rfl) rfl rfl (py_load Tryz.underlying147 rfl rfl ec1) (s_val (wn rfl) rfl rfl (py_len Tryz.underlying147 rfl) (s_val (wn rfl) rfl rfl (py_move rfl) ?_))))))))
  refine s_nil ?_
  refine W_block ?_
  refine W_loopS (γ := Nat) eP1 [(2, _), (6, _), (16, _), (17, _)] ⟨rfl, rfl, rfl, rfl, trivial⟩ (fun k => [(7, .int .i64 (stampTo (z.Groups.getD g.toNat []) row.toNat k)), (18, .int .i64 k)]) (fun k => k ≤ (z.Groups.getD g.toNat []).length ∧ True) (fun k => (z.Groups.getD g.toNat []).length - k) 0 ⟨rfl, rfl, trivial⟩ ⟨by omega, trivial⟩ (fun k w1 H1 ⟨hk, _⟩ => ?_)
  dsimp only [List.cons_append, List.nil_append]
  refine W_seq ?_
  refine W_reg ?_
  refine s_val (wn rfl) rfl rfl (py_lss rfl rfl) ?_
  refine s_nil ?_
  refine W_seq ?_
  refine W_ifd rfl (fun c1 => ?_) (fun c1 => ?_)
  · refine W_skip ?_
    refine W_seq ?_
    refine W_block ?_
    refine W_seq ?_
    obtain ⟨eb2, eo2, es1, ef2, ee2, ec2, eO2, eH2, em1⟩ := elem_st (H1.seen 4 rfl) k (by omega)
    obtain ⟨ea2, ek2, eg1, rfl, eq1, eK1, eo3⟩ := own_Drive eO2
    have eP2 := H1.look1 4 rfl eo3 (fun b hb => eH2 b (by rw [eq1]; simp [hb]))
    have eL1 := own_len_le eo3
    unfold maxLen at eL1
    refine W_reg ?_
    refine s_val (wn rfl) rfl rfl (py_elz Tryz.underlying147 Tryz.sizeOf150 rfl rfl ee2 k (by omega) (by omega)) (s_val (wn rfl) rfl rfl (py_loadS Tryz.underlying150 rfl Tryz.sizeOf150 rfl rfl ec2) ?_)
    refine s_var (wn rfl) rfl Tryz.zeroValue150 eP2 (fun b1 w2 e1 g1 H2 => ?_)
    refine s_stoS (wn rfl) Tryz.sizeOf150 rfl rfl rfl rfl H2 0 rfl rfl (fun w3 e2 H3 => ?_)
    dsimp only [List.nil_append, List.cons_append, List.set_cons_zero, List.set_cons_succ, layL] at H3
    refine s_nil ?_
    refine W_seq ?_
    refine W_reg ?_
    refine s_val (wn rfl) rfl rfl (py_field Tryz.underlying150 rfl Tryz.sizeOf4 rfl rfl) (s_val (wn rfl) rfl rfl (py_load Tryz.underlying4 rfl rfl (cell_atL (H3.box 0 rfl) rfl)) (s_val (wn rfl) rfl rfl (py_not rfl) ?_))
    refine s_nil ?_
    refine W_if rfl (fun c2 => ?_) (fun c2 => ?_)
    · have hbl := (hdd k (by omega)).1
      obtain ⟨eb3, eo4, es2, ef3, ee3, ec3, eO3, eH3, em2⟩ := elem_st (H3.seen 5 rfl) row.toNat (by omega)
      obtain ⟨ea3, ek3, eg2, rfl, eq2, eK2, eo5⟩ := own_Block eO3
      have eK2U := eK2
      unfold Block.Ok at eK2U
      try unfold I64ok at eK2U
      try unfold maxLen at eK2U
      have eP3 := H3.look1 5 rfl eo5 (fun b hb => eH3 b (by rw [eq2]; simp [hb]))
      have eL2 := own_len_le eo5
      unfold maxLen at eL2
      refine W_reg ?_
      refine s_val (wn rfl) rfl rfl (py_move rfl) (s_val (wn rfl) rfl rfl (py_field Tryz.underlying150 rfl Tryz.sizeOf148 rfl rfl) (s_val (wn rfl) rfl rfl (py_load Tryz.underlying148 rfl rfl (cell_atL (eP3.box 0 rfl) rfl)) (s_val (wn rfl) rfl rfl (py_move rfl) (s_val (wn rfl) rfl rfl (py_elz Tryz.underlying148 Tryz.sizeOf152 rfl rfl ee3 row.toNat (by omega) (by omega)) (s_val (wn rfl) rfl rfl (py_field Tryz.underlying152 rfl Tryz.sizeOf2 rfl rfl) (s_val (wn rfl) rfl rfl (py_load Tryz.underlying2 rfl rfl (at_cell ec3 0 rfl)) (s_val (wn rfl) rfl rfl (py_max rfl rfl) (s_val (wn rfl) rfl rfl (py_assign rfl) ?_))))))))
      refine s_nil ?_
      refine W_reg ?_
      refine s_val (wn rfl) rfl rfl (py_add rfl rfl (in64 ⟨by omega, by omega⟩)) (s_val (wn rfl) rfl rfl (py_move rfl) ?_)
      refine s_nil ?_
      refine ⟨k + 1, ⟨eqI (by first | exact (stampTo_live (not_true2 c2)).symm | (rw [stampTo_live (not_true2 c2)]; split <;> split <;> omega)), rfl, rfl, rfl, rfl, rfl, trivial⟩, ⟨((eP3.ftake 5).dtake 0), by omega, trivial⟩, by dsimp only; omega⟩
    · refine W_skip ?_
      refine W_reg ?_
      refine s_val (wn rfl) rfl rfl (py_add rfl rfl (in64 ⟨by omega, by omega⟩)) (s_val (wn rfl) rfl rfl (py_move rfl) ?_)
      refine s_nil ?_
      refine ⟨k + 1, ⟨eqI ((stampTo_wiped (not_false2 c2)).symm), rfl, rfl, rfl, rfl, rfl, trivial⟩, ⟨((H3.ftake 5).dtake 0), by omega, trivial⟩, by dsimp only; omega⟩
  · refine W_exit ?_
    refine W_seq ?_
    refine W_reg ?_
    refine s_val (wn rfl) rfl rfl (py_move rfl) (s_val (wn rfl) rfl rfl (py_assign rfl) ?_)
    refine s_nil ?_
    refine W_ret (hQ _ _ (fin1 Tryz.results77 rfl ?_))
    obtain rfl : k = (z.Groups.getD g.toNat []).length := by omega
    exact ⟨H1.ext, rfl⟩
theorem Tryz_spec_l7Stamp {w : World} {zb : Nat} {z : Wld} {zA9 : Option Addr} {zC9 : Nat} {zA10 : Option Addr} {zC10 : Nat} {zA11 : Option Addr} {zC11 : Nat} {g : Int} {row : Int} (zB : w.heap[zb]? = some (.cells [.int .i64 z.Shape.Groups, .int .i64 z.Shape.Column, .int .i64 z.Shape.Data, .int .i64 z.Shape.Spare, .int .i64 z.Shape.Rows, .int .i64 z.Shape.Cap, .int .i64 z.Shape.Batch, .int .i64 z.Shape.Queue, .int .i64 z.Shape.Stage, .slice zA9 z.Groups.length zC9, .slice zA10 z.On.length zC10, .slice zA11 z.Tapes.length zC11, .int .i64 z.Writes, .int .i64 z.Stop, .bool z.Down].toArray 37)) (zK : z.Ok) (zS9 : Sees w [.slice zA9 z.Groups.length zC9] z.Groups) (zS10 : Sees w [.slice zA10 z.On.length zC10] z.On) (zS11 : Sees w [.slice zA11 z.Tapes.length zC11] z.Tapes) (hs : z.Shape.ok = true) (hG : groupsOK z = true) (hg : ins g 0 (z.Shape.Groups + z.Shape.Column - 1) = true) (hr : ins row 0 (z.Shape.Rows - 1) = true) : Ret Tryz.prog 70 #[.pointer (some ⟨zb, 0, none⟩), .int .i64 g, .int .i64 row] w fun v w' => Ext No w w' ∧ (v = .int .i64 (stampTo (z.Groups.getD g.toNat []) row.toNat (z.Groups.getD g.toNat []).length)) := by
  have zK2 := zK
  unfold Wld.Ok Shape.Ok at zK2
  try unfold I64ok at zK2
  try unfold maxLen at zK2
  have zL9 := sees_len zS9
  unfold maxLen at zL9
  obtain ⟨zF9, zO9⟩ := zS9
  have zL10 := sees_len zS10
  unfold maxLen at zL10
  obtain ⟨zF10, zO10⟩ := zS10
  have zL11 := sees_len zS11
  unfold maxLen at zL11
  obtain ⟨zF11, zO11⟩ := zS11
  have sbd := shape_bd hs
  have hgg := groups_get hG
  have hgl := hgg.1
  have hgi := ins_iff.1 hg
  obtain ⟨hdl, hdd⟩ := hgg.2 g.toNat (by omega)
  have hri := ins_iff.1 hr
  refine ret_Q (vs := [.pointer (some ⟨zb, 0, none⟩), .int .i64 g, .int .i64 row]) Tryz.func70 rfl Tryz.ntmps70 rfl (fun Q hQ hN => ?_)
  have H0 := Sep.start (w := w) (F := [box zb (.cells [.int .i64 z.Shape.Groups, .int .i64 z.Shape.Column, .int .i64 z.Shape.Data, .int .i64 z.Shape.Spare, .int .i64 z.Shape.Rows, .int .i64 z.Shape.Cap, .int .i64 z.Shape.Batch, .int .i64 z.Shape.Queue, .int .i64 z.Shape.Stage, .slice zA9 z.Groups.length zC9, .slice zA10 z.On.length zC10, .slice zA11 z.Tapes.length zC11, .int .i64 z.Writes, .int .i64 z.Stop, .bool z.Down].toArray 37), seen false [.slice zA9 z.Groups.length zC9] z.Groups zF9, seen false [.slice zA10 z.On.length zC10] z.On zF10, seen false [.slice zA11 z.Tapes.length zC11] z.Tapes zF11]) (all_cons (by exact zB) (all_cons zO9 (all_cons zO10 (all_cons zO11 (by simp)))))
  refine W_seq ?_
  refine W_reg ?_
  refine s_val (wn rfl) rfl rfl (py_assign rfl) ?_
  refine s_nil ?_
  refine W_seq ?_
  refine W_reg ?_
  refine s_val (wn rfl) rfl rfl (py_assign rfl) ?_
  refine s_nil ?_
  refine W_seq ?_
  refine W_seq ?_
  refine W_reg ?_
  refine s_val (wn rfl) rfl rfl (py_assign rfl) ?_
  refine s_nil ?_
  refine W_block ?_
  refine W_loopS (γ := Nat) H0 [(0, _), (1, _), (2, _), (6, _)] ⟨rfl, rfl, rfl, rfl, trivial⟩ (fun k => [(7, .int .i64 (stampTo (z.Groups.getD g.toNat []) row.toNat k)), (8, .int .i64 k)]) (fun k => k ≤ (z.Groups.getD g.toNat []).length ∧ True) (fun k => (z.Groups.getD g.toNat []).length - k) 0 ⟨rfl, rfl, trivial⟩ ⟨by omega, trivial⟩ (fun k w1 H1 ⟨hk, _⟩ => ?_)
  dsimp only [List.cons_append, List.nil_append]
  refine W_seq ?_
  refine W_seq ?_
  obtain ⟨eb1, eo1, ea1, ek1, ef1, ee1, ec1, eO1, eH1⟩ := elem_sl (H1.seen 1 rfl) g.toNat (by omega)
  have eP1 := H1.look1 1 rfl eO1 eH1
  refine W_reg ?_
  refine s_val (wn rfl) rfl rfl (py_move rfl) (s_val (wn rfl) rfl rfl (py_move rfl) (s_val (wn rfl) rfl rfl (py_nil rfl) (s_val (wn rfl) rfl rfl (py_field Tryz.underlying37 rfl Tryz.sizeOf34 rfl rfl) (s_val (wn rfl) rfl rfl (py_load Tryz.underlying34 rfl rfl (cell_atL (eP1.fbox 0 rfl) rfl)) (s_val (wn rfl) rfl rfl (py_move rfl) (s_val (wn rfl) rfl rfl (py_elz Tryz.underlying34 Tryz.sizeOf147 rfl rfl ee1 g.toNat (by omega) (by omega)) (s_val (wn rfl) rfl rfl (py_load Tryz.underlying147 rfl rfl ec1) (s_val (wn rfl) rfl rfl (py_len Tryz.underlying147 rfl) (s_val (wn rfl) rfl rfl (py_lss rfl rfl) ?_)))))))))
  refine s_nil ?_
  refine W_ifd rfl (fun c1 => ?_) (fun c1 => ?_)
  · refine W_skip ?_
    refine W_seq ?_
    refine W_block ?_
    refine W_seq ?_
    obtain ⟨eb2, eo2, ea2, ek2, ef2, ee2, ec2, eO2, eH2⟩ := elem_sl (eP1.seen 1 rfl) g.toNat (by omega)
    have eP2 := eP1.look1 1 rfl eO2 eH2
    obtain ⟨eb3, eo3, es1, ef3, ee3, ec3, eO3, eH3, em1⟩ := elem_st (eP2.seen 5 rfl) k (by omega)
    obtain ⟨ea3, ek3, eg1, rfl, eq1, eK1, eo4⟩ := own_Drive eO3
    have eP3 := eP2.look1 5 rfl eo4 (fun b hb => eH3 b (by rw [eq1]; simp [hb]))
    have eL1 := own_len_le eo4
    unfold maxLen at eL1
    refine W_reg ?_
    refine s_val (wn rfl) rfl rfl (py_move rfl) (s_val (wn rfl) rfl rfl (py_nil rfl) (s_val (wn rfl) rfl rfl (py_field Tryz.underlying37 rfl Tryz.sizeOf34 rfl rfl) (s_val (wn rfl) rfl rfl (py_load Tryz.underlying34 rfl rfl (cell_atL (eP3.fbox 0 rfl) rfl)) (s_val (wn rfl) rfl rfl (py_move rfl) (s_val (wn rfl) rfl rfl (py_elz Tryz.underlying34 Tryz.sizeOf147 rfl rfl ee2 g.toNat (by omega) (by omega)) (s_val (wn rfl) rfl rfl (py_load Tryz.underlying147 rfl rfl ec2) (s_val (wn rfl) rfl rfl (py_move rfl) (s_val (wn rfl) rfl rfl (py_elz Tryz.underlying147 Tryz.sizeOf150 rfl rfl ee3 k (by omega) (by omega)) (s_val (wn rfl) rfl rfl (py_field Tryz.underlying150 rfl Tryz.sizeOf4 rfl rfl) (s_val (wn rfl) rfl rfl (py_load Tryz.underlying4 rfl rfl (at_cell ec3 0 rfl)) (s_val (wn rfl) rfl rfl (py_not rfl) ?_)))))))))))
    refine s_nil ?_
    refine W_if rfl (fun c2 => ?_) (fun c2 => ?_)
    · have hbl := (hdd k (by omega)).1
      obtain ⟨eb4, eo5, ea4, ek4, ef4, ee4, ec4, eO4, eH4⟩ := elem_sl (eP3.seen 1 rfl) g.toNat (by omega)
      have eP4 := eP3.look1 1 rfl eO4 eH4
      obtain ⟨eb5, eo6, es2, ef5, ee5, ec5, eO5, eH5, em2⟩ := elem_st (eP4.seen 7 rfl) k (by omega)
      obtain ⟨ea5, ek5, eg2, rfl, eq2, eK2, eo7⟩ := own_Drive eO5
      have eP5 := eP4.look1 7 rfl eo7 (fun b hb => eH5 b (by rw [eq2]; simp [hb]))
      have eL2 := own_len_le eo7
      unfold maxLen at eL2
      obtain ⟨eb6, eo8, es3, ef6, ee6, ec6, eO6, eH6, em3⟩ := elem_st (eP5.seen 8 rfl) row.toNat (by omega)
      obtain ⟨ea6, ek6, eg3, rfl, eq3, eK3, eo9⟩ := own_Block eO6
      have eK3U := eK3
      unfold Block.Ok at eK3U
      try unfold I64ok at eK3U
      try unfold maxLen at eK3U
      have eP6 := eP5.look1 8 rfl eo9 (fun b hb => eH6 b (by rw [eq3]; simp [hb]))
      have eL3 := own_len_le eo9
      unfold maxLen at eL3
      refine W_reg ?_
      refine s_val (wn rfl) rfl rfl (py_move rfl) (s_val (wn rfl) rfl rfl (py_move rfl) (s_val (wn rfl) rfl rfl (py_nil rfl) (s_val (wn rfl) rfl rfl (py_field Tryz.underlying37 rfl Tryz.sizeOf34 rfl rfl) (s_val (wn rfl) rfl rfl (py_load Tryz.underlying34 rfl rfl (cell_atL (eP6.fbox 0 rfl) rfl)) (s_val (wn rfl) rfl rfl (py_move rfl) (s_val (wn rfl) rfl rfl (py_elz Tryz.underlying34 Tryz.sizeOf147 rfl rfl ee4 g.toNat (by omega) (by omega)) (s_val (wn rfl) rfl rfl (py_load Tryz.underlying147 rfl rfl ec4) (s_val (wn rfl) rfl rfl (py_move rfl) (s_val (wn rfl) rfl rfl (py_elz Tryz.underlying147 Tryz.sizeOf150 rfl rfl ee5 k (by omega) (by omega)) (s_val (wn rfl) rfl rfl (py_field Tryz.underlying150 rfl Tryz.sizeOf148 rfl rfl) (s_val (wn rfl) rfl rfl (py_load Tryz.underlying148 rfl rfl (at_cell ec5 1 rfl)) (s_val (wn rfl) rfl rfl (py_move rfl) (s_val (wn rfl) rfl rfl (py_elz Tryz.underlying148 Tryz.sizeOf152 rfl rfl ee6 row.toNat (by omega) (by omega)) (s_val (wn rfl) rfl rfl (py_field Tryz.underlying152 rfl Tryz.sizeOf2 rfl rfl) (s_val (wn rfl) rfl rfl (py_load Tryz.underlying2 rfl rfl (at_cell ec6 0 rfl)) ?_)))))))))))))))
      refine s_call (wn rfl) rfl rfl (pc_call Tryz.func140 rfl Tryz_nm140 rfl) Tryz_spec_l1Max (fun v1 w2 r1 => ?_)
      obtain ⟨e1, rfl⟩ := r1
      have H2 := eP6.to e1
      refine s_val (wn rfl) rfl rfl (py_assign rfl) ?_
      refine s_nil ?_
      refine W_reg ?_
      refine s_val (wn rfl) rfl rfl (py_move rfl) (s_val (wn rfl) rfl rfl (py_add rfl rfl (in64 ⟨by omega, by omega⟩)) (s_val (wn rfl) rfl rfl (py_assign rfl) ?_))
      refine s_nil ?_
      refine ⟨k + 1, ⟨eqI (by first | exact (stampTo_live (not_true2 c2)).symm | (rw [stampTo_live (not_true2 c2)]; split <;> split <;> omega)), rfl, rfl, rfl, rfl, rfl, trivial⟩, ⟨(H2.ftake 4), by omega, trivial⟩, by dsimp only; omega⟩
    · refine W_skip ?_
      refine W_reg ?_
      refine s_val (wn rfl) rfl rfl (py_move rfl) (s_val (wn rfl) rfl rfl (py_add rfl rfl (in64 ⟨by omega, by omega⟩)) (s_val (wn rfl) rfl rfl (py_assign rfl) ?_))
      refine s_nil ?_
      refine ⟨k + 1, ⟨eqI ((stampTo_wiped (not_false2 c2)).symm), rfl, rfl, rfl, rfl, rfl, trivial⟩, ⟨(eP3.ftake 4), by omega, trivial⟩, by dsimp only; omega⟩
  · refine W_exit ?_
    refine W_seq ?_
    refine W_reg ?_
    refine s_val (wn rfl) rfl rfl (py_move rfl) (s_val (wn rfl) rfl rfl (py_assign rfl) ?_)
    refine s_nil ?_
    refine W_ret (hQ _ _ (fin1 Tryz.results70 rfl ?_))
    obtain rfl : k = (z.Groups.getD g.toNat []).length := by omega
    exact ⟨eP1.ext, rfl⟩
theorem Tryz_impl_RowStamp {w : World} {z : Wld} {zA9 : Option Addr} {zC9 : Nat} {zA10 : Option Addr} {zC10 : Nat} {zA11 : Option Addr} {zC11 : Nat} {g : Int} {row : Int} (zK : z.Ok) (zS9 : Sees w [.slice zA9 z.Groups.length zC9] z.Groups) (zS10 : Sees w [.slice zA10 z.On.length zC10] z.On) (zS11 : Sees w [.slice zA11 z.Tapes.length zC11] z.Tapes) : Ret Tryz.prog 18 #[z.val zA9 zC9 zA10 zC10 zA11 zC11, .int .i64 g, .int .i64 row] w fun v w' => Ext No w w' ∧ (v = (rowStamp z g row).val) := by
  have zK2 := zK
  unfold Wld.Ok Shape.Ok at zK2
  try unfold I64ok at zK2
  try unfold maxLen at zK2
  have zL9 := sees_len zS9
  unfold maxLen at zL9
  obtain ⟨zF9, zO9⟩ := zS9
  have zL10 := sees_len zS10
  unfold maxLen at zL10
  obtain ⟨zF10, zO10⟩ := zS10
  have zL11 := sees_len zS11
  unfold maxLen at zL11
  obtain ⟨zF11, zO11⟩ := zS11
  refine ret_Q (vs := [z.val zA9 zC9 zA10 zC10 zA11 zC11, .int .i64 g, .int .i64 row]) Tryz.func18 rfl Tryz.ntmps18 rfl (fun Q hQ hN => ?_)
  have H0 := Sep.start (w := w) (F := [seen false [.slice zA9 z.Groups.length zC9] z.Groups zF9, seen false [.slice zA10 z.On.length zC10] z.On zF10, seen false [.slice zA11 z.Tapes.length zC11] z.Tapes zF11]) (all_cons zO9 (all_cons zO10 (all_cons zO11 (by simp))))
  refine W_seq ?_
  refine W_reg ?_
  refine s_box (wn rfl) rfl rfl H0 (fun b1 w1 e1 g1 H1 => ?_)
  refine s_var (wn rfl) rfl Tryz.zeroValue31 H1 (fun b2 w2 e2 g2 H2 => ?_)
  refine s_nil ?_
  refine W_seq ?_
  refine W_reg ?_
  refine s_val (wn rfl) rfl rfl (py_loadS Tryz.underlying37 rfl Tryz.sizeOf37 rfl rfl (At.whole (H2.box 0 rfl))) ?_
  refine s_call (wn rfl) rfl rfl (pc_call Tryz.func75 rfl Tryz_nm75 rfl) (Tryz_impl_upFault (by assumption) (H2.sees 0 rfl) (H2.sees 1 rfl) (H2.sees 2 rfl)) (fun v1 w3 r1 => ?_)
  obtain ⟨e3, rfl⟩ := r1
  have H3 := H2.to e3
  refine s_val (wn rfl) rfl rfl (py_assign rfl) ?_
  refine s_nil ?_
  refine W_seq ?_
  refine W_seq ?_
  refine W_reg ?_
  refine s_val (wn rfl) rfl rfl (py_move rfl) (s_val (wn rfl) rfl rfl (py_eql rfl rfl) ?_)
  refine s_nil ?_
  refine W_ifd rfl (fun c1 => ?_) (fun c1 => ?_)
  · have hs := (worldF_ok (upF_ok (w := z) (by omega)).1).1
    refine W_reg ?_
    refine s_val (wn rfl) rfl rfl (py_move rfl) (s_val (wn rfl) rfl rfl (py_move rfl) ?_)
    refine s_call (wn rfl) rfl rfl (pc_call Tryz.func76 rfl Tryz_nm76 rfl) (Tryz_impl_World_rowFault (H3.box 0 rfl) (by assumption) (H3.sees 0 rfl) (H3.sees 1 rfl) (H3.sees 2 rfl) (by assumption)) (fun v2 w4 r2 => ?_)
    obtain ⟨e4, rfl⟩ := r2
    have H4 := H3.to e4
    refine s_val (wn rfl) rfl rfl (py_assign rfl) ?_
    refine s_nil ?_
    refine W_seq ?_
    refine W_seq ?_
    refine W_reg ?_
    refine s_val (wn rfl) rfl rfl (py_move rfl) (s_val (wn rfl) rfl rfl (py_neq rfl rfl) ?_)
    refine s_nil ?_
    refine W_ifd rfl (fun c2 => ?_) (fun c2 => ?_)
    · refine W_seq ?_
      refine W_reg ?_
      refine s_val (wn rfl) rfl rfl (py_move rfl) (s_val (wn rfl) rfl rfl (py_buildS Tryz_pl31 rfl rfl) ?_)
      refine s_stoS (wn rfl) Tryz.sizeOf31 rfl rfl rfl rfl H4 1 rfl rfl (fun w5 e5 H5 => ?_)
      dsimp only [List.nil_append, List.cons_append, List.set_cons_zero, List.set_cons_succ, layL] at H5
      refine s_nil ?_
      refine W_ret (hQ _ _ (finC Tryz.results18 rfl (run_loadVarS Tryz.underlying31 rfl Tryz.sizeOf31 rfl (At.whole (H5.box 1 rfl))) ?_))
      refine ⟨H5.ext, ?_⟩
      rw [rowStamp_row (by omega) (by omega)]
      rfl
    · refine W_skip ?_
      refine W_seq ?_
      have hw := whereF_ok (whereF_ok2 (z := z) (g := g) (row := row) (by omega) (by omega))
      obtain ⟨hs, hG, hg, hr, hon⟩ := hw
      refine W_reg ?_
      refine s_val (wn rfl) rfl rfl (py_move rfl) (s_val (wn rfl) rfl rfl (py_move rfl) ?_)
      refine s_call (wn rfl) rfl rfl (pc_call Tryz.func77 rfl Tryz_nm77 rfl) (Tryz_impl_World_rowStamp (H4.box 0 rfl) (by assumption) (H4.sees 0 rfl) (H4.sees 1 rfl) (H4.sees 2 rfl) (by assumption) (by assumption) (by assumption) (by assumption)) (fun v3 w6 r3 => ?_)
      obtain ⟨e6, rfl⟩ := r3
      have H6 := H4.to e6
      refine s_val (wn rfl) rfl rfl (py_buildS Tryz_pl31 rfl rfl) ?_
      refine s_stoS (wn rfl) Tryz.sizeOf31 rfl rfl rfl rfl H6 1 rfl rfl (fun w7 e7 H7 => ?_)
      dsimp only [List.nil_append, List.cons_append, List.set_cons_zero, List.set_cons_succ, layL] at H7
      refine s_nil ?_
      refine W_ret (hQ _ _ (finC Tryz.results18 rfl (run_loadVarS Tryz.underlying31 rfl Tryz.sizeOf31 rfl (At.whole (H7.box 1 rfl))) ?_))
      refine ⟨H7.ext, ?_⟩
      rw [rowStamp_ok (whereF_ok2 (by omega) (by omega))]
      rfl
  · refine W_skip ?_
    refine W_seq ?_
    refine W_seq ?_
    refine W_reg ?_
    refine s_val (wn rfl) rfl rfl (py_move rfl) (s_val (wn rfl) rfl rfl (py_neq rfl rfl) ?_)
    refine s_nil ?_
    refine W_ifd rfl (fun c3 => ?_) (fun c3 => ?_)
    · refine W_seq ?_
      refine W_reg ?_
      refine s_val (wn rfl) rfl rfl (py_move rfl) (s_val (wn rfl) rfl rfl (py_buildS Tryz_pl31 rfl rfl) ?_)
      refine s_stoS (wn rfl) Tryz.sizeOf31 rfl rfl rfl rfl H3 1 rfl rfl (fun w8 e8 H8 => ?_)
      dsimp only [List.nil_append, List.cons_append, List.set_cons_zero, List.set_cons_succ, layL] at H8
      refine s_nil ?_
      refine W_ret (hQ _ _ (finC Tryz.results18 rfl (run_loadVarS Tryz.underlying31 rfl Tryz.sizeOf31 rfl (At.whole (H8.box 1 rfl))) ?_))
      refine ⟨H8.ext, ?_⟩
      rw [rowStamp_up (by omega)]
      rfl
    · refine W_skip ?_
      refine W_seq ?_
      have hw := whereF_ok (whereF_ok2 (z := z) (g := g) (row := row) (by omega) (by omega))
      obtain ⟨hs, hG, hg, hr, hon⟩ := hw
      refine W_reg ?_
      refine s_val (wn rfl) rfl rfl (py_move rfl) (s_val (wn rfl) rfl rfl (py_move rfl) ?_)
      refine s_call (wn rfl) rfl rfl (pc_call Tryz.func77 rfl Tryz_nm77 rfl) (Tryz_impl_World_rowStamp (H3.box 0 rfl) (by assumption) (H3.sees 0 rfl) (H3.sees 1 rfl) (H3.sees 2 rfl) (by assumption) (by assumption) (by assumption) (by assumption)) (fun v4 w9 r4 => ?_)
      obtain ⟨e9, rfl⟩ := r4
      have H9 := H3.to e9
      refine s_val (wn rfl) rfl rfl (py_buildS Tryz_pl31 rfl rfl) ?_
      refine s_stoS (wn rfl) Tryz.sizeOf31 rfl rfl rfl rfl H9 1 rfl rfl (fun w10 e10 H10 => ?_)
      dsimp only [List.nil_append, List.cons_append, List.set_cons_zero, List.set_cons_succ, layL] at H10
      refine s_nil ?_
      refine W_ret (hQ _ _ (finC Tryz.results18 rfl (run_loadVarS Tryz.underlying31 rfl Tryz.sizeOf31 rfl (At.whole (H10.box 1 rfl))) ?_))
      refine ⟨H10.ext, ?_⟩
      rw [rowStamp_ok (whereF_ok2 (by omega) (by omega))]
      rfl
theorem Tryz_spec_RowStamp {w : World} {z : Wld} {zA9 : Option Addr} {zC9 : Nat} {zA10 : Option Addr} {zC10 : Nat} {zA11 : Option Addr} {zC11 : Nat} {g : Int} {row : Int} (zK : z.Ok) (zS9 : Sees w [.slice zA9 z.Groups.length zC9] z.Groups) (zS10 : Sees w [.slice zA10 z.On.length zC10] z.On) (zS11 : Sees w [.slice zA11 z.Tapes.length zC11] z.Tapes) : Ret Tryz.prog 16 #[z.val zA9 zC9 zA10 zC10 zA11 zC11, .int .i64 g, .int .i64 row] w fun v w' => Ext No w w' ∧ (v = (rowStamp z g row).val) := by
  have zK2 := zK
  unfold Wld.Ok Shape.Ok at zK2
  try unfold I64ok at zK2
  try unfold maxLen at zK2
  have zL9 := sees_len zS9
  unfold maxLen at zL9
  obtain ⟨zF9, zO9⟩ := zS9
  have zL10 := sees_len zS10
  unfold maxLen at zL10
  obtain ⟨zF10, zO10⟩ := zS10
  have zL11 := sees_len zS11
  unfold maxLen at zL11
  obtain ⟨zF11, zO11⟩ := zS11
  refine ret_Q (vs := [z.val zA9 zC9 zA10 zC10 zA11 zC11, .int .i64 g, .int .i64 row]) Tryz.func16 rfl Tryz.ntmps16 rfl (fun Q hQ hN => ?_)
  have H0 := Sep.start (w := w) (F := [seen false [.slice zA9 z.Groups.length zC9] z.Groups zF9, seen false [.slice zA10 z.On.length zC10] z.On zF10, seen false [.slice zA11 z.Tapes.length zC11] z.Tapes zF11]) (all_cons zO9 (all_cons zO10 (all_cons zO11 (by simp))))
  refine W_seq ?_
  refine W_reg ?_
  refine s_box (wn rfl) rfl rfl H0 (fun b1 w1 e1 g1 H1 => ?_)
  refine s_var (wn rfl) rfl Tryz.zeroValue31 H1 (fun b2 w2 e2 g2 H2 => ?_)
  refine s_nil ?_
  refine W_seq ?_
  refine W_seq ?_
  refine W_reg ?_
  refine s_val (wn rfl) rfl rfl (py_loadS Tryz.underlying37 rfl Tryz.sizeOf37 rfl rfl (At.whole (H2.box 0 rfl))) (s_val (wn rfl) rfl rfl (py_move rfl) (s_val (wn rfl) rfl rfl (py_move rfl) ?_))
  refine s_call (wn rfl) rfl rfl (pc_call Tryz.func69 rfl Tryz_nm69 rfl) (Tryz_spec_l7Where (by assumption) (H2.sees 0 rfl) (H2.sees 1 rfl) (H2.sees 2 rfl)) (fun v1 w3 r1 => ?_)
  obtain ⟨e3, rfl⟩ := r1
  have H3 := H2.to e3
  refine s_val (wn rfl) rfl rfl (py_assign rfl) ?_
  refine s_nil ?_
  refine W_seq ?_
  refine W_reg ?_
  refine s_val (wn rfl) rfl rfl (py_move rfl) (s_val (wn rfl) rfl rfl (py_neq rfl rfl) ?_)
  refine s_nil ?_
  refine W_ifd rfl (fun c1 => ?_) (fun c1 => ?_)
  · refine W_seq ?_
    refine W_reg ?_
    refine s_val (wn rfl) rfl rfl (py_move rfl) (s_val (wn rfl) rfl rfl (py_buildS Tryz_pl31 rfl rfl) ?_)
    refine s_stoS (wn rfl) Tryz.sizeOf31 rfl rfl rfl rfl H3 1 rfl rfl (fun w4 e4 H4 => ?_)
    dsimp only [List.nil_append, List.cons_append, List.set_cons_zero, List.set_cons_succ, layL] at H4
    refine s_nil ?_
    refine W_ret (hQ _ _ (finC Tryz.results16 rfl (run_loadVarS Tryz.underlying31 rfl Tryz.sizeOf31 rfl (At.whole (H4.box 1 rfl))) ?_))
    refine ⟨H4.ext, ?_⟩
    rw [rowStamp_where (by omega)]
    rfl
  · refine W_skip ?_
    refine W_seq ?_
    have hw := whereF_ok (z := z) (g := g) (row := row) (by omega)
    obtain ⟨hs, hG, hg, hr, hon⟩ := hw
    refine W_reg ?_
    refine s_val (wn rfl) rfl rfl (py_move rfl) (s_val (wn rfl) rfl rfl (py_move rfl) ?_)
    refine s_call (wn rfl) rfl rfl (pc_call Tryz.func70 rfl Tryz_nm70 rfl) (Tryz_spec_l7Stamp (H3.box 0 rfl) (by assumption) (H3.sees 0 rfl) (H3.sees 1 rfl) (H3.sees 2 rfl) (by assumption) (by assumption) (by assumption) (by assumption)) (fun v2 w5 r2 => ?_)
    obtain ⟨e5, rfl⟩ := r2
    have H5 := H3.to e5
    refine s_val (wn rfl) rfl rfl (py_buildS Tryz_pl31 rfl rfl) ?_
    refine s_stoS (wn rfl) Tryz.sizeOf31 rfl rfl rfl rfl H5 1 rfl rfl (fun w6 e6 H6 => ?_)
    dsimp only [List.nil_append, List.cons_append, List.set_cons_zero, List.set_cons_succ, layL] at H6
    refine s_nil ?_
    refine W_ret (hQ _ _ (finC Tryz.results16 rfl (run_loadVarS Tryz.underlying31 rfl Tryz.sizeOf31 rfl (At.whole (H6.box 1 rfl))) ?_))
    refine ⟨H6.ext, ?_⟩
    rw [rowStamp_ok (by omega)]
    rfl
theorem Tryz_laws_FnExactRowStamp {w : World} {z : Wld} {zA9 : Option Addr} {zC9 : Nat} {zA10 : Option Addr} {zC10 : Nat} {zA11 : Option Addr} {zC11 : Nat} {g : Int} {row : Int} (zK : z.Ok) (zS9 : Sees w [.slice zA9 z.Groups.length zC9] z.Groups) (zS10 : Sees w [.slice zA10 z.On.length zC10] z.On) (zS11 : Sees w [.slice zA11 z.Tapes.length zC11] z.Tapes) : Ret Tryz.prog 3 #[z.val zA9 zC9 zA10 zC10 zA11 zC11, .int .i64 g, .int .i64 row] w fun v w' => Ext No w w' ∧ (v = .bool true) := by
  have zK2 := zK
  unfold Wld.Ok Shape.Ok at zK2
  try unfold I64ok at zK2
  try unfold maxLen at zK2
  have zL9 := sees_len zS9
  unfold maxLen at zL9
  obtain ⟨zF9, zO9⟩ := zS9
  have zL10 := sees_len zS10
  unfold maxLen at zL10
  obtain ⟨zF10, zO10⟩ := zS10
  have zL11 := sees_len zS11
  unfold maxLen at zL11
  obtain ⟨zF11, zO11⟩ := zS11
  refine ret_Q (vs := [z.val zA9 zC9 zA10 zC10 zA11 zC11, .int .i64 g, .int .i64 row]) Tryz.func3 rfl Tryz.ntmps3 rfl (fun Q hQ hN => ?_)
  have H0 := Sep.start (w := w) (F := [seen false [.slice zA9 z.Groups.length zC9] z.Groups zF9, seen false [.slice zA10 z.On.length zC10] z.On zF10, seen false [.slice zA11 z.Tapes.length zC11] z.Tapes zF11]) (all_cons zO9 (all_cons zO10 (all_cons zO11 (by simp))))
  refine W_seq ?_
  refine W_reg ?_
  refine s_box (wn rfl) rfl rfl H0 (fun b1 w1 e1 g1 H1 => ?_)
  refine s_val (wn rfl) rfl rfl (py_assign rfl) ?_
  refine s_nil ?_
  refine W_seq ?_
  refine W_reg ?_
  refine s_val (wn rfl) rfl rfl (py_assign rfl) ?_
  refine s_nil ?_
  refine W_seq ?_
  refine W_reg ?_
  refine s_val (wn rfl) rfl rfl (py_loadS Tryz.underlying28 rfl Tryz.sizeOf28 rfl rfl (At.whole (H1.box 0 rfl))) (s_val (wn rfl) rfl rfl (py_move rfl) ?_)
  refine s_call (wn rfl) rfl rfl (pc_call Tryz.func15 rfl Tryz_nm15 rfl) (Tryz_laws_szWorld (by assumption) (H1.sees 0 rfl) (H1.sees 1 rfl) (H1.sees 2 rfl) (by omega)) (fun v1 w2 r1 => ?_)
  obtain ⟨e2, rfl⟩ := r1
  have H2 := H1.to e2
  refine s_val (wn rfl) rfl rfl (py_assign rfl) ?_
  refine s_nil ?_
  refine W_seq ?_
  refine W_seq ?_
  refine W_reg ?_
  refine s_val (wn rfl) rfl rfl (py_move rfl) (s_val (wn rfl) rfl rfl (py_lss rfl rfl) ?_)
  refine s_nil ?_
  refine W_ifd rfl (fun c1 => ?_) (fun c1 => ?_)
  · refine W_seq ?_
    refine W_reg ?_
    refine s_val (wn rfl) rfl rfl (py_assign rfl) ?_
    refine s_nil ?_
    refine W_ret (hQ _ _ (fin1 Tryz.results3 rfl ?_))
    exact ⟨H2.ext, rfl⟩
  · refine W_skip ?_
    refine W_seq ?_
    have hsz : szWld z ≤ 1048576 := by omega
    refine W_reg ?_
    refine s_val (wn rfl) rfl rfl (py_loadS Tryz.underlying28 rfl Tryz.sizeOf28 rfl rfl (At.whole (H2.box 0 rfl))) ?_
    refine s_call (wn rfl) rfl rfl (pc_call Tryz.func17 rfl Tryz_nm17 rfl) (Tryz_laws_toWorld (by assumption) (H2.sees 0 rfl) (H2.sees 1 rfl) (H2.sees 2 rfl) (by assumption)) (fun v2 w3 r2 => ?_)
    obtain ⟨e3, sa1, sk1, sa2, sk2, sa3, sk3, rfl, r2⟩ := r2
    obtain ⟨fp1, H3⟩ := H2.res e3 r2
    have H4 := H3.share 1 rfl
    obtain ⟨sf1, sf2, sf3, sq1, sok1, so1, so2, so3⟩ := own_WldC (H4.seen 3 rfl)
    have H6 := H4.look1 3 rfl so1 (fun b hb => by rw [sq1]; simp [hb])
    have H7 := H6.look1 3 rfl so2 (fun b hb => by rw [sq1]; simp [hb])
    have H8 := H7.look1 3 rfl so3 (fun b hb => by rw [sq1]; simp [hb])
    refine s_val (wn rfl) rfl rfl (py_move rfl) (s_val (wn rfl) rfl rfl (py_move rfl) ?_)
    refine s_call (wn rfl) rfl rfl (pc_call Tryz.func16 rfl Tryz_nm16 rfl) (Tryz_spec_RowStamp (by assumption) (H8.sees 4 rfl) (H8.sees 5 rfl) (H8.sees 6 rfl)) (fun v3 w4 r3 => ?_)
    obtain ⟨e4, rfl⟩ := r3
    have H9 := H8.to e4
    refine s_var (wn rfl) rfl Tryz.zeroValue31 H9 (fun b2 w5 e5 g2 H10 => ?_)
    refine s_stoS (wn rfl) Tryz.sizeOf31 rfl rfl rfl rfl H10 2 rfl rfl (fun w6 e6 H11 => ?_)
    dsimp only [List.nil_append, List.cons_append, List.set_cons_zero, List.set_cons_succ, layL] at H11
    refine s_nil ?_
    refine W_seq ?_
    refine W_reg ?_
    refine s_val (wn rfl) rfl rfl (py_loadS Tryz.underlying28 rfl Tryz.sizeOf28 rfl rfl (At.whole (H11.box 0 rfl))) ?_
    refine s_call (wn rfl) rfl rfl (pc_call Tryz.func17 rfl Tryz_nm17 rfl) (Tryz_laws_toWorld (by assumption) (H11.sees 0 rfl) (H11.sees 1 rfl) (H11.sees 2 rfl) (by assumption)) (fun v4 w7 r4 => ?_)
    obtain ⟨e7, sa4, sk4, sa5, sk5, sa6, sk6, rfl, r4⟩ := r4
    obtain ⟨fp2, H12⟩ := H11.res e7 r4
    have H13 := H12.share 3 rfl
    obtain ⟨sf4, sf5, sf6, sq2, sok2, so4, so5, so6⟩ := own_WldC (H13.seen 7 rfl)
    have H15 := H13.look1 7 rfl so4 (fun b hb => by rw [sq2]; simp [hb])
    have H16 := H15.look1 7 rfl so5 (fun b hb => by rw [sq2]; simp [hb])
    have H17 := H16.look1 7 rfl so6 (fun b hb => by rw [sq2]; simp [hb])
    refine s_var (wn rfl) rfl Tryz.zeroValue37 H17 (fun b3 w8 e8 g3 H18 => ?_)
    refine s_stoS (wn rfl) Tryz.sizeOf37 rfl rfl rfl rfl H18 4 rfl rfl (fun w9 e9 H19 => ?_)
    dsimp only [List.nil_append, List.cons_append, List.set_cons_zero, List.set_cons_succ, layL] at H19
    refine s_nil ?_
    refine W_seq ?_
    refine W_reg ?_
    refine s_val (wn rfl) rfl rfl (py_loadS Tryz.underlying37 rfl Tryz.sizeOf37 rfl rfl (At.whole (H19.box 4 rfl))) (s_val (wn rfl) rfl rfl (py_move rfl) (s_val (wn rfl) rfl rfl (py_move rfl) ?_))
    refine s_call (wn rfl) rfl rfl (pc_call Tryz.func18 rfl Tryz_nm18 rfl) (Tryz_impl_RowStamp (by assumption) (H19.sees 8 rfl) (H19.sees 9 rfl) (H19.sees 10 rfl)) (fun v5 w10 r5 => ?_)
    obtain ⟨e10, rfl⟩ := r5
    have H20 := H19.to e10
    refine s_var (wn rfl) rfl Tryz.zeroValue31 H20 (fun b4 w11 e11 g4 H21 => ?_)
    refine s_stoS (wn rfl) Tryz.sizeOf31 rfl rfl rfl rfl H21 5 rfl rfl (fun w12 e12 H22 => ?_)
    dsimp only [List.nil_append, List.cons_append, List.set_cons_zero, List.set_cons_succ, layL] at H22
    refine s_nil ?_
    refine W_seq ?_
    refine W_seq ?_
    have hOk := rowStamp_Ok (z := z) (g := g) (row := row)
    refine W_reg ?_
    refine s_val (wn rfl) rfl rfl (py_loadS Tryz.underlying31 rfl Tryz.sizeOf31 rfl rfl (At.whole (H22.box 5 rfl))) (s_val (wn rfl) rfl rfl (py_loadS Tryz.underlying31 rfl Tryz.sizeOf31 rfl rfl (At.whole (H22.box 2 rfl))) ?_)
    refine s_call (wn rfl) rfl rfl (pc_call Tryz.func19 rfl Tryz_nm19 rfl) (Tryz_laws_eqIntResult (by assumption) (by assumption)) (fun v6 w13 r6 => ?_)
    obtain ⟨e13, rfl⟩ := r6
    have H23 := H22.to e13
    refine s_val (wn rfl) rfl rfl (py_not rfl) ?_
    refine s_nil ?_
    refine W_if rfl (fun c2 => ?_) (fun c2 => ?_)
    · exfalso; simp_all
    · refine W_skip ?_
      refine W_seq ?_
      refine W_seq ?_
      refine W_drw (S := Ext No _) [(0, true), (1, true), (2, false), (3, false), (4, false)] (by kernel_rfl) (by kernel_rfl) (by kernel_rfl) rfl (fun _ => Ext.refl.drawn _) (fun q1 => ?_)
      have H24 := H23.drawn q1
      refine d_val rfl (wn rfl) rfl rfl (fun zw hx => py_loadS Tryz.underlying37 rfl Tryz.sizeOf37 rfl rfl (At.whole (hx.heap (H24.box 4 rfl)))) (d_val rfl (wn rfl) rfl rfl (fun zw hx => py_loadS Tryz.underlying28 rfl Tryz.sizeOf28 rfl rfl (At.whole (hx.heap (H24.box 0 rfl)))) ?_)
      refine d_call rfl (wn rfl) rfl rfl (pc_call Tryz.func17 rfl Tryz_nm17 rfl) (Tryz_laws_toWorld (by assumption) (H24.sees 0 rfl) (H24.sees 1 rfl) (H24.sees 2 rfl) (by assumption)) (fun hS _ _ r _ => hS.trans r.1.no) (fun v7 w14 r7 => ?_)
      obtain ⟨e14, sa7, sk7, sa8, sk8, sa9, sk9, rfl, r7⟩ := r7
      obtain ⟨fp3, H25⟩ := H24.res e14 r7
      have H26 := H25.share 6 rfl
      obtain ⟨sf7, sf8, sf9, sq3, sok3, so7, so8, so9⟩ := own_WldC (H26.seen 11 rfl)
      have H28 := H26.look1 11 rfl so7 (fun b hb => by rw [sq3]; simp [hb])
      have H29 := H28.look1 11 rfl so8 (fun b hb => by rw [sq3]; simp [hb])
      have H30 := H29.look1 11 rfl so9 (fun b hb => by rw [sq3]; simp [hb])
      refine d_call rfl (wn rfl) rfl rfl (pc_call Tryz.func20 rfl Tryz_nm20 rfl) (Tryz_laws_eqWorld (by assumption) (H30.sees 8 rfl) (H30.sees 9 rfl) (H30.sees 10 rfl) (by assumption) (H30.sees 12 rfl) (H30.sees 13 rfl) (H30.sees 14 rfl)) (fun hS _ _ r _ => hS.trans r.1.no) (fun v8 w15 r8 => ?_)
      obtain ⟨e15, rfl⟩ := r8
      have H31 := H30.to e15
      refine d_end rfl (wn rfl) rfl rfl (py_not rfl) ?_
      refine d_nil ?_
      refine W_if rfl (fun c3 => ?_) (fun c3 => ?_)
      · exfalso; simp_all
      · refine W_skip ?_
        refine W_seq ?_
        refine W_reg ?_
        refine s_val (wn rfl) rfl rfl (py_assign rfl) ?_
        refine s_nil ?_
        refine W_ret (hQ _ _ (fin1 Tryz.results3 rfl ?_))
        exact ⟨H31.ext, rfl⟩
end Go.Wk
