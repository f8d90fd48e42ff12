/-
  The functions walked, each once. (Printed by a program of mine.)
-/
import Derived.Test.YtceeelcijjkefaaGreatRead
import Derived.Test.YtceeelcijjkefaaGreatWmG
set_option linter.unusedVariables false
set_option linter.unusedSimpArgs false
namespace Go.Wk
open Go.Proofs Rp
set_option maxRecDepth 10000
theorem Tryz_impl_World_wiped {w : World} {zb : Nat} {z : Wld} {zA9 : Option Addr} {zC9 : Nat} {zA10 : Option Addr} {zC10 : Nat} {zA11 : Option Addr} {zC11 : Nat} {g : Int} (zB : w.heap[zb]? = some (.cells [.int .i64 z.Shape.Groups, .int .i64 z.Shape.Column, .int .i64 z.Shape.Data, .int .i64 z.Shape.Spare, .int .i64 z.Shape.Rows, .int .i64 z.Shape.Cap, .int .i64 z.Shape.Batch, .int .i64 z.Shape.Queue, .int .i64 z.Shape.Stage, .slice zA9 z.Groups.length zC9, .slice zA10 z.On.length zC10, .slice zA11 z.Tapes.length zC11, .int .i64 z.Writes, .int .i64 z.Stop, .bool z.Down].toArray 37)) (zK : z.Ok) (zS9 : Sees w [.slice zA9 z.Groups.length zC9] z.Groups) (zS10 : Sees w [.slice zA10 z.On.length zC10] z.On) (zS11 : Sees w [.slice zA11 z.Tapes.length zC11] z.Tapes) (hs : z.Shape.ok = true) (hG : groupsOK z = true) (hg : ins g 0 (z.Shape.Groups + z.Shape.Column - 1) = true) : Ret Tryz.prog 95 #[.pointer (some ⟨zb, 0, none⟩), .int .i64 g] w fun v w' => Ext No w w' ∧ (Res w w' [v] (wipedL z g)) := by
  have zK2 := zK
  unfold Wld.Ok Shape.Ok at zK2
  try unfold I64ok at zK2
  try unfold maxLen at zK2
  have zL9 := sees_len zS9
  unfold maxLen at zL9
  obtain ⟨zF9, zO9⟩ := zS9
  have zL10 := sees_len zS10
  unfold maxLen at zL10
  obtain ⟨zF10, zO10⟩ := zS10
  have zL11 := sees_len zS11
  unfold maxLen at zL11
  obtain ⟨zF11, zO11⟩ := zS11
  have sbd := shape_bd hs
  have hgg := groups_get hG
  have hgl := hgg.1
  have hgi := ins_iff.1 hg
  obtain ⟨hdl, hdd⟩ := hgg.2 g.toNat (by omega)
  refine ret_Q (vs := [.pointer (some ⟨zb, 0, none⟩), .int .i64 g]) Tryz.func95 rfl Tryz.ntmps95 rfl (fun Q hQ hN => ?_)
  have H0 := Sep.start (w := w) (F := [box zb (.cells [.int .i64 z.Shape.Groups, .int .i64 z.Shape.Column, .int .i64 z.Shape.Data, .int .i64 z.Shape.Spare, .int .i64 z.Shape.Rows, .int .i64 z.Shape.Cap, .int .i64 z.Shape.Batch, .int .i64 z.Shape.Queue, .int .i64 z.Shape.Stage, .slice zA9 z.Groups.length zC9, .slice zA10 z.On.length zC10, .slice zA11 z.Tapes.length zC11, .int .i64 z.Writes, .int .i64 z.Stop, .bool z.Down].toArray 37), seen false [.slice zA9 z.Groups.length zC9] z.Groups zF9, seen false [.slice zA10 z.On.length zC10] z.On zF10, seen false [.slice zA11 z.Tapes.length zC11] z.Tapes zF11]) (all_cons (by exact zB) (all_cons zO9 (all_cons zO10 (all_cons zO11 (by simp)))))
  refine W_seq ?_
  refine W_reg ?_
  refine s_val (wn rfl) rfl rfl (py_assign rfl) ?_
  refine s_nil ?_
  refine W_seq ?_
  refine W_reg ?_
  refine s_lit0 (α := Int) (wn rfl) rfl Tryz.underlying25 Tryz_ty2 H0 (fun b1 w1 e1 g1 H1 => ?_)
  refine s_val (wn rfl) rfl rfl (py_assign rfl) ?_
  refine s_nil ?_
  refine W_seq ?_
  refine W_seq ?_
  obtain ⟨eb1, eo1, ea1, ek1, ef1, ee1, ec1, eO1, eH1⟩ := elem_sl (H1.seen 1 rfl) g.toNat (by omega)
  have eP1 := H1.look1 1 rfl eO1 eH1
  refine W_reg ?_
  refine s_val (wn rfl) rfl rfl (py_move rfl) (s_val (wn rfl) rfl rfl (py_nil rfl) (s_val (wn rfl) rfl rfl (py_field Tryz.underlying37 rfl Tryz.sizeOf34 rfl rfl) (s_val (wn rfl) rfl rfl (py_load Tryz.underlying34 rfl rfl (cell_atL (eP1.fbox 0 rfl) rfl)) (s_val (wn rfl) rfl rfl (py_move rfl) (s_val (wn rfl) rfl rfl (py_elz Tryz.underlying34 Tryz.sizeOf147 rfl rfl ee1 g.toNat (by omega) (by omega)) (s_val (wn rfl) rfl rfl (py_load Tryz.underlying147 rfl rfl ec1) (s_val (wn rfl) rfl rfl (py_len Tryz.underlying147 rfl) (s_val (wn rfl) rfl rfl (py_move rfl) ?_))))))))
  refine s_nil ?_
  refine W_block ?_
  refine W_loopA (α := Int) (γ := Nat) (fun k => wipedTo (z.Groups.getD g.toNat []) k) 0 eP1 0 rfl 5 rfl [(4, _), (15, _), (16, _)] ⟨rfl, rfl, rfl, trivial⟩ (fun k => [(17, .int .i64 k)]) (fun k => k ≤ (z.Groups.getD g.toNat []).length ∧ True) (fun k => (z.Groups.getD g.toNat []).length - k) ⟨rfl, trivial⟩ ⟨by omega, trivial⟩ (fun k vA1 fA1 w2 H2 ⟨hk, _⟩ => ?_)
  dsimp only [List.cons_append, List.nil_append, List.set_cons_zero, List.set_cons_succ] at H2 ⊢
  refine W_seq ?_
  refine W_reg ?_
  refine s_val (wn rfl) rfl rfl (py_lss rfl rfl) ?_
  refine s_nil ?_
  refine W_seq ?_
  refine W_ifd rfl (fun c1 => ?_) (fun c1 => ?_)
  · refine W_skip ?_
    refine W_seq ?_
    refine W_block ?_
    refine W_seq ?_
    obtain ⟨eb2, eo2, es1, ef2, ee2, ec2, eO2, eH2, em1⟩ := elem_st (H2.seen 4 rfl) k (by omega)
    obtain ⟨ea2, ek2, eg1, rfl, eq1, eK1, eo3⟩ := own_Drive eO2
    have eP2 := H2.look1 4 rfl eo3 (fun b hb => eH2 b (by rw [eq1]; simp [hb]))
    have eL1 := own_len_le eo3
    unfold maxLen at eL1
    refine W_reg ?_
    refine s_val (wn rfl) rfl rfl (py_move rfl) (s_val (wn rfl) rfl rfl (py_elz Tryz.underlying147 Tryz.sizeOf150 rfl rfl ee2 k (by omega) (by omega)) (s_val (wn rfl) rfl rfl (py_loadS Tryz.underlying150 rfl Tryz.sizeOf150 rfl rfl ec2) ?_))
    refine s_var (wn rfl) rfl Tryz.zeroValue150 eP2 (fun b2 w3 e2 g2 H3 => ?_)
    refine s_val (wn rfl) rfl rfl (py_assign rfl) ?_
    refine s_stoS (wn rfl) Tryz.sizeOf150 rfl rfl rfl rfl H3 1 rfl rfl (fun w4 e3 H4 => ?_)
    dsimp only [List.nil_append, List.cons_append, List.set_cons_zero, List.set_cons_succ, layL] at H4
    refine s_nil ?_
    refine W_seq ?_
    refine W_reg ?_
    refine s_val (wn rfl) rfl rfl (py_field Tryz.underlying150 rfl Tryz.sizeOf4 rfl rfl) (s_val (wn rfl) rfl rfl (py_load Tryz.underlying4 rfl rfl (cell_atL (H4.box 1 rfl) rfl)) ?_)
    refine s_nil ?_
    refine W_if rfl (fun c2 => ?_) (fun c2 => ?_)
    · have wl := wiped_len (G := (z.Groups.getD g.toNat [])) (k := k)
      refine W_reg ?_
      refine s_val (wn rfl) rfl rfl (py_move rfl) (s_val (wn rfl) rfl rfl (py_move rfl) ?_)
      refine s_lit1 (wn rfl) rfl Tryz.underlying25 Tryz_ty2 rfl rfl rfl rfl H4 (fun b3 w5 e4 g3 H5 => ?_)
      refine s_app1 (wn rfl) rfl Tryz.underlying25 Tryz_ty2 rfl rfl rfl H5 0 2 rfl rfl (own_bi (by first | assumption | (unfold I64ok; omega))) (by unfold maxLen; omega) (by omega) (fun v1 w6 fp1 H6 => ?_)
      refine s_val (wn rfl) rfl rfl (py_assign rfl) ?_
      refine s_nil ?_
      refine W_reg ?_
      refine s_val (wn rfl) rfl rfl (py_add rfl rfl (in64 ⟨by omega, by omega⟩)) (s_val (wn rfl) rfl rfl (py_move rfl) ?_)
      refine s_nil ?_
      rw [← wiped_yes c2] at H6
      exact ⟨(k + 1, _, _), ⟨rfl, rfl, rfl, rfl, rfl, trivial⟩, ⟨((H6.ftake 5).dtake 1), by omega, trivial⟩, by dsimp only; omega⟩
    · refine W_skip ?_
      refine W_reg ?_
      refine s_val (wn rfl) rfl rfl (py_add rfl rfl (in64 ⟨by omega, by omega⟩)) (s_val (wn rfl) rfl rfl (py_move rfl) ?_)
      refine s_nil ?_
      rw [← wiped_no c2] at H4
      exact ⟨(k + 1, _, _), ⟨rfl, rfl, rfl, rfl, rfl, trivial⟩, ⟨((H4.ftake 5).dtake 1), by omega, trivial⟩, by dsimp only; omega⟩
  · refine W_exit ?_
    refine W_seq ?_
    refine W_reg ?_
    refine s_val (wn rfl) rfl rfl (py_move rfl) (s_val (wn rfl) rfl rfl (py_assign rfl) ?_)
    refine s_nil ?_
    refine W_ret (hQ _ _ (fin1 Tryz.results95 rfl ?_))
    obtain rfl : k = (z.Groups.getD g.toNat []).length := by omega
    exact ⟨H2.ext, H2.out 0 rfl⟩
theorem Tryz_spec_l10Wiped {w : World} {zb : Nat} {z : Wld} {zA9 : Option Addr} {zC9 : Nat} {zA10 : Option Addr} {zC10 : Nat} {zA11 : Option Addr} {zC11 : Nat} {g : Int} (zB : w.heap[zb]? = some (.cells [.int .i64 z.Shape.Groups, .int .i64 z.Shape.Column, .int .i64 z.Shape.Data, .int .i64 z.Shape.Spare, .int .i64 z.Shape.Rows, .int .i64 z.Shape.Cap, .int .i64 z.Shape.Batch, .int .i64 z.Shape.Queue, .int .i64 z.Shape.Stage, .slice zA9 z.Groups.length zC9, .slice zA10 z.On.length zC10, .slice zA11 z.Tapes.length zC11, .int .i64 z.Writes, .int .i64 z.Stop, .bool z.Down].toArray 37)) (zK : z.Ok) (zS9 : Sees w [.slice zA9 z.Groups.length zC9] z.Groups) (zS10 : Sees w [.slice zA10 z.On.length zC10] z.On) (zS11 : Sees w [.slice zA11 z.Tapes.length zC11] z.Tapes) (hs : z.Shape.ok = true) (hG : groupsOK z = true) (hg : ins g 0 (z.Shape.Groups + z.Shape.Column - 1) = true) : Ret Tryz.prog 93 #[.pointer (some ⟨zb, 0, none⟩), .int .i64 g] w fun v w' => Ext No w w' ∧ (Res w w' [v] (wipedL z g)) := by
  have zK2 := zK
  unfold Wld.Ok Shape.Ok at zK2
  try unfold I64ok at zK2
  try unfold maxLen at zK2
  have zL9 := sees_len zS9
  unfold maxLen at zL9
  obtain ⟨zF9, zO9⟩ := zS9
  have zL10 := sees_len zS10
  unfold maxLen at zL10
  obtain ⟨zF10, zO10⟩ := zS10
  have zL11 := sees_len zS11
  unfold maxLen at zL11
  obtain ⟨zF11, zO11⟩ := zS11
  have sbd := shape_bd hs
  have hgg := groups_get hG
  have hgl := hgg.1
  have hgi := ins_iff.1 hg
  obtain ⟨hdl, hdd⟩ := hgg.2 g.toNat (by omega)
  refine ret_Q (vs := [.pointer (some ⟨zb, 0, none⟩), .int .i64 g]) Tryz.func93 rfl Tryz.ntmps93 rfl (fun Q hQ hN => ?_)
  have H0 := Sep.start (w := w) (F := [box zb (.cells [.int .i64 z.Shape.Groups, .int .i64 z.Shape.Column, .int .i64 z.Shape.Data, .int .i64 z.Shape.Spare, .int .i64 z.Shape.Rows, .int .i64 z.Shape.Cap, .int .i64 z.Shape.Batch, .int .i64 z.Shape.Queue, .int .i64 z.Shape.Stage, .slice zA9 z.Groups.length zC9, .slice zA10 z.On.length zC10, .slice zA11 z.Tapes.length zC11, .int .i64 z.Writes, .int .i64 z.Stop, .bool z.Down].toArray 37), seen false [.slice zA9 z.Groups.length zC9] z.Groups zF9, seen false [.slice zA10 z.On.length zC10] z.On zF10, seen false [.slice zA11 z.Tapes.length zC11] z.Tapes zF11]) (all_cons (by exact zB) (all_cons zO9 (all_cons zO10 (all_cons zO11 (by simp)))))
  refine W_seq ?_
  refine W_reg ?_
  refine s_val (wn rfl) rfl rfl (py_assign rfl) ?_
  refine s_nil ?_
  refine W_seq ?_
  refine W_reg ?_
  refine s_lit0 (α := Int) (wn rfl) rfl Tryz.underlying25 Tryz_ty2 H0 (fun b1 w1 e1 g1 H1 => ?_)
  refine s_val (wn rfl) rfl rfl (py_assign rfl) ?_
  refine s_nil ?_
  refine W_seq ?_
  refine W_seq ?_
  refine W_reg ?_
  refine s_val (wn rfl) rfl rfl (py_assign rfl) ?_
  refine s_nil ?_
  refine W_block ?_
  refine W_loopA (α := Int) (γ := Nat) (fun k => wipedTo (z.Groups.getD g.toNat []) k) 0 H1 0 rfl 5 rfl [(0, _), (1, _), (4, _)] ⟨rfl, rfl, rfl, trivial⟩ (fun k => [(6, .int .i64 k)]) (fun k => k ≤ (z.Groups.getD g.toNat []).length ∧ True) (fun k => (z.Groups.getD g.toNat []).length - k) ⟨rfl, trivial⟩ ⟨by omega, trivial⟩ (fun k vA1 fA1 w2 H2 ⟨hk, _⟩ => ?_)
  dsimp only [List.cons_append, List.nil_append, List.set_cons_zero, List.set_cons_succ] at H2 ⊢
  refine W_seq ?_
  refine W_seq ?_
  obtain ⟨eb1, eo1, ea1, ek1, ef1, ee1, ec1, eO1, eH1⟩ := elem_sl (H2.seen 1 rfl) g.toNat (by omega)
  have eP1 := H2.look1 1 rfl eO1 eH1
  refine W_reg ?_
  refine s_val (wn rfl) rfl rfl (py_move rfl) (s_val (wn rfl) rfl rfl (py_move rfl) (s_val (wn rfl) rfl rfl (py_nil rfl) (s_val (wn rfl) rfl rfl (py_field Tryz.underlying37 rfl Tryz.sizeOf34 rfl rfl) (s_val (wn rfl) rfl rfl (py_load Tryz.underlying34 rfl rfl (cell_atL (eP1.fbox 0 rfl) rfl)) (s_val (wn rfl) rfl rfl (py_move rfl) (s_val (wn rfl) rfl rfl (py_elz Tryz.underlying34 Tryz.sizeOf147 rfl rfl ee1 g.toNat (by omega) (by omega)) (s_val (wn rfl) rfl rfl (py_load Tryz.underlying147 rfl rfl ec1) (s_val (wn rfl) rfl rfl (py_len Tryz.underlying147 rfl) (s_val (wn rfl) rfl rfl (py_lss rfl rfl) ?_)))))))))
  refine s_nil ?_
  refine W_ifd rfl (fun c1 => ?_) (fun c1 => ?_)
  · refine W_skip ?_
    refine W_seq ?_
    refine W_block ?_
    refine W_seq ?_
    obtain ⟨eb2, eo2, ea2, ek2, ef2, ee2, ec2, eO2, eH2⟩ := elem_sl (eP1.seen 1 rfl) g.toNat (by omega)
    have eP2 := eP1.look1 1 rfl eO2 eH2
    obtain ⟨eb3, eo3, es1, ef3, ee3, ec3, eO3, eH3, em1⟩ := elem_st (eP2.seen 5 rfl) k (by omega)
    obtain ⟨ea3, ek3, eg1, rfl, eq1, eK1, eo4⟩ := own_Drive eO3
    have eP3 := eP2.look1 5 rfl eo4 (fun b hb => eH3 b (by rw [eq1]; simp [hb]))
    have eL1 := own_len_le eo4
    unfold maxLen at eL1
    refine W_reg ?_
    refine s_val (wn rfl) rfl rfl (py_move rfl) (s_val (wn rfl) rfl rfl (py_nil rfl) (s_val (wn rfl) rfl rfl (py_field Tryz.underlying37 rfl Tryz.sizeOf34 rfl rfl) (s_val (wn rfl) rfl rfl (py_load Tryz.underlying34 rfl rfl (cell_atL (eP3.fbox 0 rfl) rfl)) (s_val (wn rfl) rfl rfl (py_move rfl) (s_val (wn rfl) rfl rfl (py_elz Tryz.underlying34 Tryz.sizeOf147 rfl rfl ee2 g.toNat (by omega) (by omega)) (s_val (wn rfl) rfl rfl (py_load Tryz.underlying147 rfl rfl ec2) (s_val (wn rfl) rfl rfl (py_move rfl) (s_val (wn rfl) rfl rfl (py_elz Tryz.underlying147 Tryz.sizeOf150 rfl rfl ee3 k (by omega) (by omega)) (s_val (wn rfl) rfl rfl (py_field Tryz.underlying150 rfl Tryz.sizeOf4 rfl rfl) (s_val (wn rfl) rfl rfl (py_load Tryz.underlying4 rfl rfl (at_cell ec3 0 rfl)) ?_))))))))))
    refine s_nil ?_
    refine W_if rfl (fun c2 => ?_) (fun c2 => ?_)
    · have wl := wiped_len (G := (z.Groups.getD g.toNat [])) (k := k)
      refine W_reg ?_
      refine s_val (wn rfl) rfl rfl (py_move rfl) (s_val (wn rfl) rfl rfl (py_move rfl) ?_)
      refine s_lit1 (wn rfl) rfl Tryz.underlying25 Tryz_ty2 rfl rfl rfl rfl eP3 (fun b2 w3 e2 g2 H3 => ?_)
      refine s_app1 (wn rfl) rfl Tryz.underlying25 Tryz_ty2 rfl rfl rfl H3 0 1 rfl rfl (own_bi (by first | assumption | (unfold I64ok; omega))) (by unfold maxLen; omega) (by omega) (fun v1 w4 fp1 H4 => ?_)
      refine s_val (wn rfl) rfl rfl (py_assign rfl) ?_
      refine s_nil ?_
      refine W_reg ?_
      refine s_val (wn rfl) rfl rfl (py_move rfl) (s_val (wn rfl) rfl rfl (py_add rfl rfl (in64 ⟨by omega, by omega⟩)) (s_val (wn rfl) rfl rfl (py_assign rfl) ?_))
      refine s_nil ?_
      rw [← wiped_yes c2] at H4
      exact ⟨(k + 1, _, _), ⟨rfl, rfl, rfl, rfl, rfl, trivial⟩, ⟨((H4.ftake 4).dtake 1), by omega, trivial⟩, by dsimp only; omega⟩
    · refine W_skip ?_
      refine W_reg ?_
      refine s_val (wn rfl) rfl rfl (py_move rfl) (s_val (wn rfl) rfl rfl (py_add rfl rfl (in64 ⟨by omega, by omega⟩)) (s_val (wn rfl) rfl rfl (py_assign rfl) ?_))
      refine s_nil ?_
      rw [← wiped_no c2] at eP3
      exact ⟨(k + 1, _, _), ⟨rfl, rfl, rfl, rfl, rfl, trivial⟩, ⟨(eP3.ftake 4), by omega, trivial⟩, by dsimp only; omega⟩
  · refine W_exit ?_
    refine W_seq ?_
    refine W_reg ?_
    refine s_val (wn rfl) rfl rfl (py_move rfl) (s_val (wn rfl) rfl rfl (py_assign rfl) ?_)
    refine s_nil ?_
    refine W_ret (hQ _ _ (fin1 Tryz.results93 rfl ?_))
    obtain rfl : k = (z.Groups.getD g.toNat []).length := by omega
    exact ⟨eP1.ext, eP1.out 0 rfl⟩
theorem Tryz_impl_World_dead {w : World} {zb : Nat} {z : Wld} {zA9 : Option Addr} {zC9 : Nat} {zA10 : Option Addr} {zC10 : Nat} {zA11 : Option Addr} {zC11 : Nat} {g : Int} (zB : w.heap[zb]? = some (.cells [.int .i64 z.Shape.Groups, .int .i64 z.Shape.Column, .int .i64 z.Shape.Data, .int .i64 z.Shape.Spare, .int .i64 z.Shape.Rows, .int .i64 z.Shape.Cap, .int .i64 z.Shape.Batch, .int .i64 z.Shape.Queue, .int .i64 z.Shape.Stage, .slice zA9 z.Groups.length zC9, .slice zA10 z.On.length zC10, .slice zA11 z.Tapes.length zC11, .int .i64 z.Writes, .int .i64 z.Stop, .bool z.Down].toArray 37)) (zK : z.Ok) (zS9 : Sees w [.slice zA9 z.Groups.length zC9] z.Groups) (zS10 : Sees w [.slice zA10 z.On.length zC10] z.On) (zS11 : Sees w [.slice zA11 z.Tapes.length zC11] z.Tapes) (hs : z.Shape.ok = true) (hG : groupsOK z = true) (hg : ins g 0 (z.Shape.Groups + z.Shape.Column - 1) = true) : Ret Tryz.prog 87 #[.pointer (some ⟨zb, 0, none⟩), .int .i64 g] w fun v w' => Ext No w w' ∧ (v = .bool (deadF z g)) := by
  have zK2 := zK
  unfold Wld.Ok Shape.Ok at zK2
  try unfold I64ok at zK2
  try unfold maxLen at zK2
  have zL9 := sees_len zS9
  unfold maxLen at zL9
  obtain ⟨zF9, zO9⟩ := zS9
  have zL10 := sees_len zS10
  unfold maxLen at zL10
  obtain ⟨zF10, zO10⟩ := zS10
  have zL11 := sees_len zS11
  unfold maxLen at zL11
  obtain ⟨zF11, zO11⟩ := zS11
  have sbd := shape_bd hs
  refine ret_Q (vs := [.pointer (some ⟨zb, 0, none⟩), .int .i64 g]) Tryz.func87 rfl Tryz.ntmps87 rfl (fun Q hQ hN => ?_)
  have H0 := Sep.start (w := w) (F := [box zb (.cells [.int .i64 z.Shape.Groups, .int .i64 z.Shape.Column, .int .i64 z.Shape.Data, .int .i64 z.Shape.Spare, .int .i64 z.Shape.Rows, .int .i64 z.Shape.Cap, .int .i64 z.Shape.Batch, .int .i64 z.Shape.Queue, .int .i64 z.Shape.Stage, .slice zA9 z.Groups.length zC9, .slice zA10 z.On.length zC10, .slice zA11 z.Tapes.length zC11, .int .i64 z.Writes, .int .i64 z.Stop, .bool z.Down].toArray 37), seen false [.slice zA9 z.Groups.length zC9] z.Groups zF9, seen false [.slice zA10 z.On.length zC10] z.On zF10, seen false [.slice zA11 z.Tapes.length zC11] z.Tapes zF11]) (all_cons (by exact zB) (all_cons zO9 (all_cons zO10 (all_cons zO11 (by simp)))))
  refine W_seq ?_
  refine W_reg ?_
  refine s_val (wn rfl) rfl rfl (py_assign rfl) ?_
  refine s_nil ?_
  refine W_seq ?_
  refine W_drw (S := Ext No _) [(0, true), (1, true), (4, true), (5, true), (6, true), (7, true), (8, true), (2, false), (3, false), (9, true), (10, false)] (by kernel_rfl) (by kernel_rfl) (by kernel_rfl) rfl (fun _ => Ext.refl.drawn _) (fun q1 => ?_)
  have H1 := H0.drawn q1
  refine d_val rfl (wn rfl) rfl rfl (fun zw hx => py_move rfl) (d_val rfl (wn rfl) rfl rfl (fun zw hx => py_move rfl) (d_val rfl (wn rfl) rfl rfl (fun zw hx => py_move rfl) (d_val rfl (wn rfl) rfl rfl (fun zw hx => py_nil rfl) (d_val rfl (wn rfl) rfl rfl (fun zw hx => py_field Tryz.underlying37 rfl Tryz.sizeOf33 rfl rfl) (d_val rfl (wn rfl) rfl rfl (fun zw hx => py_field Tryz.underlying33 rfl Tryz.sizeOf2 rfl rfl) (d_val rfl (wn rfl) rfl rfl (fun zw hx => py_load Tryz.underlying2 rfl rfl (cell_atL (hx.heap (H1.fbox 0 rfl)) rfl)) ?_))))))
  refine d_call rfl (wn rfl) rfl rfl (pc_call Tryz.func95 rfl Tryz_nm95 rfl) (Tryz_impl_World_wiped (H1.fbox 0 rfl) (by assumption) (H1.sees 1 rfl) (H1.sees 2 rfl) (H1.sees 3 rfl) (by assumption) (by assumption) (by assumption)) (fun hS _ _ r _ => hS.trans r.1.no) (fun v1 w1 r1 => ?_)
  obtain ⟨e1, r1⟩ := r1
  obtain ⟨fp1, H2⟩ := H1.res e1 r1
  obtain ⟨a1, k1, q2⟩ := own_slice (H2.mine 0 rfl)
  cases q2
  refine d_call rfl (wn rfl) rfl rfl (pc_call Tryz.func155 rfl Tryz_nm155 rfl) (Tryz_size_int64 (H2.msees 0 rfl)) (fun hS _ _ r _ => hS.trans r.1.no) (fun v2 w2 r2 => ?_)
  obtain ⟨e2, rfl⟩ := r2
  have H3 := H2.to e2
  refine d_val rfl (wn rfl) rfl rfl (fun zw hx => py_gtr rfl rfl) (d_end rfl (wn rfl) rfl rfl (py_assign rfl) ?_)
  refine d_nil ?_
  refine W_ret (hQ _ _ (fin1 Tryz.results87 rfl ?_))
  exact ⟨H3.ext, rfl⟩
theorem Tryz_spec_l7Dead {w : World} {zb : Nat} {z : Wld} {zA9 : Option Addr} {zC9 : Nat} {zA10 : Option Addr} {zC10 : Nat} {zA11 : Option Addr} {zC11 : Nat} {g : Int} (zB : w.heap[zb]? = some (.cells [.int .i64 z.Shape.Groups, .int .i64 z.Shape.Column, .int .i64 z.Shape.Data, .int .i64 z.Shape.Spare, .int .i64 z.Shape.Rows, .int .i64 z.Shape.Cap, .int .i64 z.Shape.Batch, .int .i64 z.Shape.Queue, .int .i64 z.Shape.Stage, .slice zA9 z.Groups.length zC9, .slice zA10 z.On.length zC10, .slice zA11 z.Tapes.length zC11, .int .i64 z.Writes, .int .i64 z.Stop, .bool z.Down].toArray 37)) (zK : z.Ok) (zS9 : Sees w [.slice zA9 z.Groups.length zC9] z.Groups) (zS10 : Sees w [.slice zA10 z.On.length zC10] z.On) (zS11 : Sees w [.slice zA11 z.Tapes.length zC11] z.Tapes) (hs : z.Shape.ok = true) (hG : groupsOK z = true) (hg : ins g 0 (z.Shape.Groups + z.Shape.Column - 1) = true) : Ret Tryz.prog 84 #[.pointer (some ⟨zb, 0, none⟩), .int .i64 g] w fun v w' => Ext No w w' ∧ (v = .bool (deadF z g)) := by
  have zK2 := zK
  unfold Wld.Ok Shape.Ok at zK2
  try unfold I64ok at zK2
  try unfold maxLen at zK2
  have zL9 := sees_len zS9
  unfold maxLen at zL9
  obtain ⟨zF9, zO9⟩ := zS9
  have zL10 := sees_len zS10
  unfold maxLen at zL10
  obtain ⟨zF10, zO10⟩ := zS10
  have zL11 := sees_len zS11
  unfold maxLen at zL11
  obtain ⟨zF11, zO11⟩ := zS11
  have sbd := shape_bd hs
  have hgg := groups_get hG
  have hgl := hgg.1
  have hgi := ins_iff.1 hg
  obtain ⟨hdl, hdd⟩ := hgg.2 g.toNat (by omega)
  refine ret_Q (vs := [.pointer (some ⟨zb, 0, none⟩), .int .i64 g]) Tryz.func84 rfl Tryz.ntmps84 rfl (fun Q hQ hN => ?_)
  have H0 := Sep.start (w := w) (F := [box zb (.cells [.int .i64 z.Shape.Groups, .int .i64 z.Shape.Column, .int .i64 z.Shape.Data, .int .i64 z.Shape.Spare, .int .i64 z.Shape.Rows, .int .i64 z.Shape.Cap, .int .i64 z.Shape.Batch, .int .i64 z.Shape.Queue, .int .i64 z.Shape.Stage, .slice zA9 z.Groups.length zC9, .slice zA10 z.On.length zC10, .slice zA11 z.Tapes.length zC11, .int .i64 z.Writes, .int .i64 z.Stop, .bool z.Down].toArray 37), seen false [.slice zA9 z.Groups.length zC9] z.Groups zF9, seen false [.slice zA10 z.On.length zC10] z.On zF10, seen false [.slice zA11 z.Tapes.length zC11] z.Tapes zF11]) (all_cons (by exact zB) (all_cons zO9 (all_cons zO10 (all_cons zO11 (by simp)))))
  refine W_seq ?_
  refine W_reg ?_
  refine s_val (wn rfl) rfl rfl (py_assign rfl) ?_
  refine s_nil ?_
  refine W_seq ?_
  refine W_reg ?_
  refine s_val (wn rfl) rfl rfl (py_assign rfl) ?_
  refine s_nil ?_
  refine W_seq ?_
  refine W_seq ?_
  refine W_reg ?_
  refine s_val (wn rfl) rfl rfl (py_assign rfl) ?_
  refine s_nil ?_
  refine W_block ?_
  refine W_loopS (γ := Nat) H0 [(0, _), (1, _), (4, _)] ⟨rfl, rfl, rfl, trivial⟩ (fun k => [(5, .int .i64 ((wipedTo (z.Groups.getD g.toNat []) k).length : Nat)), (6, .int .i64 k)]) (fun k => k ≤ (z.Groups.getD g.toNat []).length ∧ True) (fun k => (z.Groups.getD g.toNat []).length - k) 0 ⟨rfl, rfl, trivial⟩ ⟨by omega, trivial⟩ (fun k w1 H1 ⟨hk, _⟩ => ?_)
  dsimp only [List.cons_append, List.nil_append]
  refine W_seq ?_
  refine W_seq ?_
  obtain ⟨eb1, eo1, ea1, ek1, ef1, ee1, ec1, eO1, eH1⟩ := elem_sl (H1.seen 1 rfl) g.toNat (by omega)
  have eP1 := H1.look1 1 rfl eO1 eH1
  refine W_reg ?_
  refine s_val (wn rfl) rfl rfl (py_move rfl) (s_val (wn rfl) rfl rfl (py_move rfl) (s_val (wn rfl) rfl rfl (py_nil rfl) (s_val (wn rfl) rfl rfl (py_field Tryz.underlying37 rfl Tryz.sizeOf34 rfl rfl) (s_val (wn rfl) rfl rfl (py_load Tryz.underlying34 rfl rfl (cell_atL (eP1.fbox 0 rfl) rfl)) (s_val (wn rfl) rfl rfl (py_move rfl) (s_val (wn rfl) rfl rfl (py_elz Tryz.underlying34 Tryz.sizeOf147 rfl rfl ee1 g.toNat (by omega) (by omega)) (s_val (wn rfl) rfl rfl (py_load Tryz.underlying147 rfl rfl ec1) (s_val (wn rfl) rfl rfl (py_len Tryz.underlying147 rfl) (s_val (wn rfl) rfl rfl (py_lss rfl rfl) ?_)))))))))
  refine s_nil ?_
  refine W_ifd rfl (fun c1 => ?_) (fun c1 => ?_)
  · refine W_skip ?_
    refine W_seq ?_
    refine W_block ?_
    refine W_seq ?_
    obtain ⟨eb2, eo2, ea2, ek2, ef2, ee2, ec2, eO2, eH2⟩ := elem_sl (eP1.seen 1 rfl) g.toNat (by omega)
    have eP2 := eP1.look1 1 rfl eO2 eH2
    obtain ⟨eb3, eo3, es1, ef3, ee3, ec3, eO3, eH3, em1⟩ := elem_st (eP2.seen 5 rfl) k (by omega)
    obtain ⟨ea3, ek3, eg1, rfl, eq1, eK1, eo4⟩ := own_Drive eO3
    have eP3 := eP2.look1 5 rfl eo4 (fun b hb => eH3 b (by rw [eq1]; simp [hb]))
    have eL1 := own_len_le eo4
    unfold maxLen at eL1
    refine W_reg ?_
    refine s_val (wn rfl) rfl rfl (py_move rfl) (s_val (wn rfl) rfl rfl (py_nil rfl) (s_val (wn rfl) rfl rfl (py_field Tryz.underlying37 rfl Tryz.sizeOf34 rfl rfl) (s_val (wn rfl) rfl rfl (py_load Tryz.underlying34 rfl rfl (cell_atL (eP3.fbox 0 rfl) rfl)) (s_val (wn rfl) rfl rfl (py_move rfl) (s_val (wn rfl) rfl rfl (py_elz Tryz.underlying34 Tryz.sizeOf147 rfl rfl ee2 g.toNat (by omega) (by omega)) (s_val (wn rfl) rfl rfl (py_load Tryz.underlying147 rfl rfl ec2) (s_val (wn rfl) rfl rfl (py_move rfl) (s_val (wn rfl) rfl rfl (py_elz Tryz.underlying147 Tryz.sizeOf150 rfl rfl ee3 k (by omega) (by omega)) (s_val (wn rfl) rfl rfl (py_field Tryz.underlying150 rfl Tryz.sizeOf4 rfl rfl) (s_val (wn rfl) rfl rfl (py_load Tryz.underlying4 rfl rfl (at_cell ec3 0 rfl)) ?_))))))))))
    refine s_nil ?_
    refine W_if rfl (fun c2 => ?_) (fun c2 => ?_)
    · have wl := wiped_len (G := (z.Groups.getD g.toNat [])) (k := k)
      refine W_reg ?_
      refine s_val (wn rfl) rfl rfl (py_move rfl) (s_val (wn rfl) rfl rfl (py_add rfl rfl (in64 ⟨by omega, by omega⟩)) (s_val (wn rfl) rfl rfl (py_assign rfl) ?_))
      refine s_nil ?_
      refine W_reg ?_
      refine s_val (wn rfl) rfl rfl (py_move rfl) (s_val (wn rfl) rfl rfl (py_add rfl rfl (in64 ⟨by omega, by omega⟩)) (s_val (wn rfl) rfl rfl (py_assign rfl) ?_))
      refine s_nil ?_
      have wq := wiped_yes c2
      exact ⟨k + 1, ⟨eqI (by rw [wq]; simp), rfl, rfl, rfl, rfl, trivial⟩, ⟨(eP3.ftake 4), by omega, trivial⟩, by dsimp only; omega⟩
    · refine W_skip ?_
      refine W_reg ?_
      refine s_val (wn rfl) rfl rfl (py_move rfl) (s_val (wn rfl) rfl rfl (py_add rfl rfl (in64 ⟨by omega, by omega⟩)) (s_val (wn rfl) rfl rfl (py_assign rfl) ?_))
      refine s_nil ?_
      have wq := wiped_no c2
      exact ⟨k + 1, ⟨eqI (by rw [wq]), rfl, rfl, rfl, rfl, trivial⟩, ⟨(eP3.ftake 4), by omega, trivial⟩, by dsimp only; omega⟩
  · refine W_exit ?_
    refine W_seq ?_
    refine W_reg ?_
    refine s_val (wn rfl) rfl rfl (py_move rfl) (s_val (wn rfl) rfl rfl (py_move rfl) (s_val (wn rfl) rfl rfl (py_nil rfl) (s_val (wn rfl) rfl rfl (py_field Tryz.underlying37 rfl Tryz.sizeOf33 rfl rfl) (s_val (wn rfl) rfl rfl (py_field Tryz.underlying33 rfl Tryz.sizeOf2 rfl rfl) (s_val (wn rfl) rfl rfl (py_load Tryz.underlying2 rfl rfl (cell_atL (eP1.fbox 0 rfl) rfl)) (s_val (wn rfl) rfl rfl (py_gtr rfl rfl) (s_val (wn rfl) rfl rfl (py_assign rfl) ?_)))))))
    refine s_nil ?_
    refine W_ret (hQ _ _ (fin1 Tryz.results84 rfl ?_))
    obtain rfl : k = (z.Groups.getD g.toNat []).length := by omega
    exact ⟨eP1.ext, rfl⟩
theorem Tryz_spec_l8Asked {w : World} {z : Wld} {zA9 : Option Addr} {zC9 : Nat} {zA10 : Option Addr} {zC10 : Nat} {zA11 : Option Addr} {zC11 : Nat} {g : Int} {row : Int} (zK : z.Ok) (zS9 : Sees w [.slice zA9 z.Groups.length zC9] z.Groups) (zS10 : Sees w [.slice zA10 z.On.length zC10] z.On) (zS11 : Sees w [.slice zA11 z.Tapes.length zC11] z.Tapes) : Ret Tryz.prog 92 #[z.val zA9 zC9 zA10 zC10 zA11 zC11, .int .i64 g, .int .i64 row] w fun v w' => Ext No w w' ∧ (v = .int .i64 (askF z g row)) := by
  have zK2 := zK
  unfold Wld.Ok Shape.Ok at zK2
  try unfold I64ok at zK2
  try unfold maxLen at zK2
  have zL9 := sees_len zS9
  unfold maxLen at zL9
  obtain ⟨zF9, zO9⟩ := zS9
  have zL10 := sees_len zS10
  unfold maxLen at zL10
  obtain ⟨zF10, zO10⟩ := zS10
  have zL11 := sees_len zS11
  unfold maxLen at zL11
  obtain ⟨zF11, zO11⟩ := zS11
  refine ret_Q (vs := [z.val zA9 zC9 zA10 zC10 zA11 zC11, .int .i64 g, .int .i64 row]) Tryz.func92 rfl Tryz.ntmps92 rfl (fun Q hQ hN => ?_)
  have H0 := Sep.start (w := w) (F := [seen false [.slice zA9 z.Groups.length zC9] z.Groups zF9, seen false [.slice zA10 z.On.length zC10] z.On zF10, seen false [.slice zA11 z.Tapes.length zC11] z.Tapes zF11]) (all_cons zO9 (all_cons zO10 (all_cons zO11 (by simp))))
  refine W_seq ?_
  refine W_reg ?_
  refine s_box (wn rfl) rfl rfl H0 (fun b1 w1 e1 g1 H1 => ?_)
  refine s_val (wn rfl) rfl rfl (py_assign rfl) ?_
  refine s_nil ?_
  refine W_seq ?_
  refine W_seq ?_
  refine W_reg ?_
  refine s_val (wn rfl) rfl rfl (py_loadS Tryz.underlying37 rfl Tryz.sizeOf37 rfl rfl (At.whole (H1.box 0 rfl))) ?_
  refine s_call (wn rfl) rfl rfl (pc_call Tryz.func82 rfl Tryz_nm82 rfl) (Tryz_spec_WorldFault (by assumption) (H1.sees 0 rfl) (H1.sees 1 rfl) (H1.sees 2 rfl)) (fun v1 w2 r1 => ?_)
  obtain ⟨e2, rfl⟩ := r1
  have H2 := H1.to e2
  refine s_val (wn rfl) rfl rfl (py_assign rfl) ?_
  refine s_nil ?_
  refine W_seq ?_
  refine W_reg ?_
  refine s_val (wn rfl) rfl rfl (py_move rfl) (s_val (wn rfl) rfl rfl (py_neq rfl rfl) ?_)
  refine s_nil ?_
  refine W_ifd rfl (fun c1 => ?_) (fun c1 => ?_)
  · refine W_seq ?_
    refine W_reg ?_
    refine s_val (wn rfl) rfl rfl (py_move rfl) (s_val (wn rfl) rfl rfl (py_assign rfl) ?_)
    refine s_nil ?_
    refine W_ret (hQ _ _ (fin1 Tryz.results92 rfl ?_))
    exact ⟨H2.ext, congrArg (Value.int .i64) (ask_world (by omega)).symm⟩
  · refine W_skip ?_
    refine W_seq ?_
    refine W_seq ?_
    have hs := (worldF_ok (w := z) (by omega)).1
    refine W_reg ?_
    refine s_val (wn rfl) rfl rfl (py_field Tryz.underlying37 rfl Tryz.sizeOf33 rfl rfl) (s_val (wn rfl) rfl rfl (py_loadS Tryz.underlying33 rfl Tryz.sizeOf33 rfl rfl (At.sub (H2.box 0 rfl) 9)) (s_val (wn rfl) rfl rfl (py_move rfl) (s_val (wn rfl) rfl rfl (py_move rfl) ?_)))
    refine s_call (wn rfl) rfl rfl (pc_call Tryz.func96 rfl Tryz_nm96 rfl) (Tryz_spec_l5Place (by assumption)) (fun v2 w3 r2 => ?_)
    obtain ⟨e3, rfl⟩ := r2
    have H3 := H2.to e3
    refine s_val (wn rfl) rfl rfl (py_not rfl) ?_
    refine s_nil ?_
    refine W_if rfl (fun c2 => ?_) (fun c2 => ?_)
    · refine W_seq ?_
      refine W_reg ?_
      refine s_val (wn rfl) rfl rfl (py_assign rfl) ?_
      refine s_nil ?_
      refine W_ret (hQ _ _ (fin1 Tryz.results92 rfl ?_))
      exact ⟨H3.ext, congrArg (Value.int .i64) (ask_place (by omega) (not_true c2)).symm⟩
    · refine W_skip ?_
      refine W_seq ?_
      refine W_reg ?_
      refine s_val (wn rfl) rfl rfl (py_assign rfl) ?_
      refine s_nil ?_
      refine W_ret (hQ _ _ (fin1 Tryz.results92 rfl ?_))
      exact ⟨H3.ext, congrArg (Value.int .i64) (ask_fine (by omega) (not_false c2)).symm⟩
theorem Tryz_impl_DeadGroups {w : World} {z : Wld} {zA9 : Option Addr} {zC9 : Nat} {zA10 : Option Addr} {zC10 : Nat} {zA11 : Option Addr} {zC11 : Nat} (zK : z.Ok) (zS9 : Sees w [.slice zA9 z.Groups.length zC9] z.Groups) (zS10 : Sees w [.slice zA10 z.On.length zC10] z.On) (zS11 : Sees w [.slice zA11 z.Tapes.length zC11] z.Tapes) : Ret Tryz.prog 22 #[z.val zA9 zC9 zA10 zC10 zA11 zC11] w fun v w' => Ext No w w' ∧ (∃ A1 C1, v = (deadGroups z).val A1 C1 ∧ Res w w' [.int .i64 (deadGroups z).Code, .slice A1 (deadGroups z).Groups.length C1] (deadGroups z)) := by
  have zK2 := zK
  unfold Wld.Ok Shape.Ok at zK2
  try unfold I64ok at zK2
  try unfold maxLen at zK2
  have zL9 := sees_len zS9
  unfold maxLen at zL9
  obtain ⟨zF9, zO9⟩ := zS9
  have zL10 := sees_len zS10
  unfold maxLen at zL10
  obtain ⟨zF10, zO10⟩ := zS10
  have zL11 := sees_len zS11
  unfold maxLen at zL11
  obtain ⟨zF11, zO11⟩ := zS11
  refine ret_Q (vs := [z.val zA9 zC9 zA10 zC10 zA11 zC11]) Tryz.func22 rfl Tryz.ntmps22 rfl (fun Q hQ hN => ?_)
  have H0 := Sep.start (w := w) (F := [seen false [.slice zA9 z.Groups.length zC9] z.Groups zF9, seen false [.slice zA10 z.On.length zC10] z.On zF10, seen false [.slice zA11 z.Tapes.length zC11] z.Tapes zF11]) (all_cons zO9 (all_cons zO10 (all_cons zO11 (by simp))))
  refine W_seq ?_
  refine W_reg ?_
  refine s_box (wn rfl) rfl rfl H0 (fun b1 w1 e1 g1 H1 => ?_)
  refine s_var (wn rfl) rfl Tryz.zeroValue43 H1 (fun b2 w2 e2 g2 H2 => ?_)
  refine s_nil ?_
  refine W_seq ?_
  refine W_seq ?_
  refine W_reg ?_
  refine s_val (wn rfl) rfl rfl (py_loadS Tryz.underlying37 rfl Tryz.sizeOf37 rfl rfl (At.whole (H2.box 0 rfl))) ?_
  refine s_call (wn rfl) rfl rfl (pc_call Tryz.func85 rfl Tryz_nm85 rfl) (Tryz_impl_WorldFault (by assumption) (H2.sees 0 rfl) (H2.sees 1 rfl) (H2.sees 2 rfl)) (fun v1 w3 r1 => ?_)
  obtain ⟨e3, rfl⟩ := r1
  have H3 := H2.to e3
  refine s_val (wn rfl) rfl rfl (py_assign rfl) ?_
  refine s_nil ?_
  refine W_seq ?_
  refine W_reg ?_
  refine s_val (wn rfl) rfl rfl (py_move rfl) (s_val (wn rfl) rfl rfl (py_neq rfl rfl) ?_)
  refine s_nil ?_
  refine W_ifd rfl (fun c1 => ?_) (fun c1 => ?_)
  · refine W_seq ?_
    refine W_reg ?_
    refine s_val (wn rfl) rfl rfl (py_move rfl) (s_val (wn rfl) rfl rfl (py_buildS Tryz_pl43 rfl rfl) ?_)
    refine s_stoS (wn rfl) Tryz.sizeOf43 rfl rfl rfl rfl H3 1 rfl rfl (fun w4 e4 H4 => ?_)
    dsimp only [List.nil_append, List.cons_append, List.set_cons_zero, List.set_cons_succ, layL] at H4
    refine s_nil ?_
    refine W_ret (hQ _ _ (finC Tryz.results22 rfl (run_loadVarS Tryz.underlying43 rfl Tryz.sizeOf43 rfl (At.whole (H4.box 1 rfl))) ?_))
    rw [deadGroups_bad (by omega)]
    exact ⟨H4.ext, none, 0, rfl, groups_nil (by unfold I64ok; have := worldF_cd (z := z); dsimp only; omega)⟩
  · refine W_skip ?_
    refine W_seq ?_
    refine W_reg ?_
    refine s_val (wn rfl) rfl rfl (py_buildS Tryz_pl43 rfl rfl) ?_
    refine s_var (wn rfl) rfl Tryz.zeroValue43 H3 (fun b3 w5 e5 g3 H5 => ?_)
    refine s_stoS (wn rfl) Tryz.sizeOf43 rfl rfl rfl rfl H5 2 rfl rfl (fun w6 e6 H6 => ?_)
    dsimp only [List.nil_append, List.cons_append, List.set_cons_zero, List.set_cons_succ, layL] at H6
    refine s_nil ?_
    refine W_seq ?_
    refine W_seq ?_
    obtain ⟨hs, hG, hO⟩ := worldF_ok (w := z) (by omega)
    have sbd := shape_bd hs
    refine W_reg ?_
    refine s_val (wn rfl) rfl rfl (py_field Tryz.underlying37 rfl Tryz.sizeOf33 rfl rfl) (s_val (wn rfl) rfl rfl (py_loadS Tryz.underlying33 rfl Tryz.sizeOf33 rfl rfl (At.sub (H6.box 0 rfl) 9)) ?_)
    refine s_call (wn rfl) rfl rfl (pc_call Tryz.func86 rfl Tryz_nm86 rfl) (Tryz_impl_Shape_all (by assumption)) (fun v2 w7 r2 => ?_)
    obtain ⟨e7, rfl⟩ := r2
    have H7 := H6.to e7
    refine s_val (wn rfl) rfl rfl (py_move rfl) ?_
    refine s_nil ?_
    refine W_block ?_
    have H9 := H7.nilD (α := Int)
    try dsimp only [List.nil_append, List.cons_append, List.set_cons_zero, List.set_cons_succ] at H9
    refine W_loopB (α := Int) (γ := Nat) (fun k => deadTo z k) 0 H9 3 2 1 rfl rfl rfl rfl [(1, _), (2, _), (4, _), (15, _)] ⟨rfl, rfl, rfl, rfl, trivial⟩ (fun k => [(16, .int .i64 k)]) (fun k => k ≤ (z.Shape.Groups + z.Shape.Column).toNat ∧ True) (fun k => (z.Shape.Groups + z.Shape.Column).toNat - k) ⟨rfl, trivial⟩ ⟨by omega, trivial⟩ (fun k vA1 fA1 w8 H8 ⟨hk, _⟩ => ?_)
    dsimp only [List.cons_append, List.nil_append, List.set_cons_zero, List.set_cons_succ] at H8 ⊢
    refine W_seq ?_
    refine W_reg ?_
    refine s_val (wn rfl) rfl rfl (py_lss rfl rfl) ?_
    refine s_nil ?_
    refine W_seq ?_
    refine W_ifd rfl (fun c2 => ?_) (fun c2 => ?_)
    · refine W_skip ?_
      refine W_seq ?_
      refine W_block ?_
      refine W_seq ?_
      refine W_reg ?_
      refine s_val (wn rfl) rfl rfl (py_move rfl) (s_val (wn rfl) rfl rfl (py_assign rfl) ?_)
      refine s_nil ?_
      refine W_seq ?_
      have hgk : ins (k : Int) 0 (z.Shape.Groups + z.Shape.Column - 1) = true := ins_iff.2 (by omega)
      refine W_reg ?_
      refine s_val (wn rfl) rfl rfl (py_move rfl) ?_
      refine s_call (wn rfl) rfl rfl (pc_call Tryz.func87 rfl Tryz_nm87 rfl) (Tryz_impl_World_dead (H8.box 0 rfl) (by assumption) (H8.sees 0 rfl) (H8.sees 1 rfl) (H8.sees 2 rfl) (by assumption) (by assumption) (by assumption)) (fun v3 w9 r3 => ?_)
      obtain ⟨e8, rfl⟩ := r3
      have H10 := H8.to e8
      refine s_nil ?_
      refine W_if rfl (fun c3 => ?_) (fun c3 => ?_)
      · have wl := dead_len (z := z) (k := k)
        refine W_reg ?_
        refine s_val (wn rfl) rfl rfl (py_field Tryz.underlying43 rfl Tryz.sizeOf25 rfl rfl) (s_val (wn rfl) rfl rfl (py_load Tryz.underlying25 rfl rfl (cell_atL (H10.box 2 rfl) rfl)) (s_val (wn rfl) rfl rfl (py_move rfl) ?_))
        refine s_lit1 (wn rfl) rfl Tryz.underlying25 Tryz_ty2 rfl rfl rfl rfl H10 (fun b4 w10 e9 g4 H11 => ?_)
        refine s_app1 (wn rfl) rfl Tryz.underlying25 Tryz_ty2 rfl rfl rfl H11 3 4 rfl rfl (own_bi (by first | assumption | (unfold I64ok; omega))) (by unfold maxLen; omega) (by omega) (fun v4 w11 fp1 H12 => ?_)
        refine s_val (wn rfl) rfl rfl (py_field Tryz.underlying43 rfl Tryz.sizeOf25 rfl rfl) ?_
        obtain ⟨a1, k1, q1⟩ := own_slice (H12.mine 3 rfl)
        cases q1
        refine s_sto (wn rfl) Tryz.sizeOf25 rfl rfl rfl H12 2 rfl rfl (fun w12 e10 H13 => ?_)
        dsimp only [List.nil_append, List.cons_append, List.set_cons_zero, List.set_cons_succ, layL] at H13
        refine s_nil ?_
        refine W_reg ?_
        refine s_val (wn rfl) rfl rfl (py_add rfl rfl (in64 ⟨by omega, by omega⟩)) (s_val (wn rfl) rfl rfl (py_move rfl) ?_)
        refine s_nil ?_
        rw [← dead_yes c3] at H13
        exact ⟨(k + 1, _, _), ⟨rfl, rfl, rfl, rfl, rfl, trivial⟩, ⟨(H13.dtake 4), by omega, trivial⟩, by dsimp only; omega⟩
      · refine W_skip ?_
        refine W_reg ?_
        refine s_val (wn rfl) rfl rfl (py_add rfl rfl (in64 ⟨by omega, by omega⟩)) (s_val (wn rfl) rfl rfl (py_move rfl) ?_)
        refine s_nil ?_
        rw [← dead_no c3] at H10
        exact ⟨(k + 1, _, _), ⟨rfl, rfl, rfl, rfl, rfl, trivial⟩, ⟨H10, by omega, trivial⟩, by dsimp only; omega⟩
    · refine W_exit ?_
      refine W_seq ?_
      refine W_reg ?_
      refine s_val (wn rfl) rfl rfl (py_loadS Tryz.underlying43 rfl Tryz.sizeOf43 rfl rfl (At.whole (H8.box 2 rfl))) ?_
      obtain ⟨a2, k2, q2⟩ := own_slice (H8.mine 3 rfl)
      cases q2
      refine s_stoS (wn rfl) Tryz.sizeOf43 rfl rfl rfl rfl H8 1 rfl rfl (fun w13 e11 H14 => ?_)
      dsimp only [List.nil_append, List.cons_append, List.set_cons_zero, List.set_cons_succ, layL] at H14
      refine s_nil ?_
      refine W_ret (hQ _ _ (finC Tryz.results22 rfl (run_loadVarS Tryz.underlying43 rfl Tryz.sizeOf43 rfl (At.whole (H14.box 1 rfl))) ?_))
      obtain rfl : k = (z.Shape.Groups + z.Shape.Column).toNat := by omega
      rw [deadGroups_ok (by omega)]
      exact ⟨H14.ext, _, _, rfl, GroupsResult.out (x := ⟨0, deadTo z (z.Shape.Groups + z.Shape.Column).toNat⟩) (H14.sub (.cons _ (.cons _ (.cons _ (.cons_cons _ List.Sublist.slnil))))) (by show I64ok 0; unfold I64ok; omega)⟩
theorem Tryz_spec_DeadGroups {w : World} {z : Wld} {zA9 : Option Addr} {zC9 : Nat} {zA10 : Option Addr} {zC10 : Nat} {zA11 : Option Addr} {zC11 : Nat} (zK : z.Ok) (zS9 : Sees w [.slice zA9 z.Groups.length zC9] z.Groups) (zS10 : Sees w [.slice zA10 z.On.length zC10] z.On) (zS11 : Sees w [.slice zA11 z.Tapes.length zC11] z.Tapes) : Ret Tryz.prog 21 #[z.val zA9 zC9 zA10 zC10 zA11 zC11] w fun v w' => Ext No w w' ∧ (∃ A1 C1, v = (deadGroups z).val A1 C1 ∧ Res w w' [.int .i64 (deadGroups z).Code, .slice A1 (deadGroups z).Groups.length C1] (deadGroups z)) := by
  have zK2 := zK
  unfold Wld.Ok Shape.Ok at zK2
  try unfold I64ok at zK2
  try unfold maxLen at zK2
  have zL9 := sees_len zS9
  unfold maxLen at zL9
  obtain ⟨zF9, zO9⟩ := zS9
  have zL10 := sees_len zS10
  unfold maxLen at zL10
  obtain ⟨zF10, zO10⟩ := zS10
  have zL11 := sees_len zS11
  unfold maxLen at zL11
  obtain ⟨zF11, zO11⟩ := zS11
  refine ret_Q (vs := [z.val zA9 zC9 zA10 zC10 zA11 zC11]) Tryz.func21 rfl Tryz.ntmps21 rfl (fun Q hQ hN => ?_)
  have H0 := Sep.start (w := w) (F := [seen false [.slice zA9 z.Groups.length zC9] z.Groups zF9, seen false [.slice zA10 z.On.length zC10] z.On zF10, seen false [.slice zA11 z.Tapes.length zC11] z.Tapes zF11]) (all_cons zO9 (all_cons zO10 (all_cons zO11 (by simp))))
  refine W_seq ?_
  refine W_reg ?_
  refine s_box (wn rfl) rfl rfl H0 (fun b1 w1 e1 g1 H1 => ?_)
  refine s_var (wn rfl) rfl Tryz.zeroValue43 H1 (fun b2 w2 e2 g2 H2 => ?_)
  refine s_nil ?_
  refine W_seq ?_
  refine W_seq ?_
  refine W_reg ?_
  refine s_val (wn rfl) rfl rfl (py_loadS Tryz.underlying37 rfl Tryz.sizeOf37 rfl rfl (At.whole (H2.box 0 rfl))) ?_
  refine s_call (wn rfl) rfl rfl (pc_call Tryz.func82 rfl Tryz_nm82 rfl) (Tryz_spec_WorldFault (by assumption) (H2.sees 0 rfl) (H2.sees 1 rfl) (H2.sees 2 rfl)) (fun v1 w3 r1 => ?_)
  obtain ⟨e3, rfl⟩ := r1
  have H3 := H2.to e3
  refine s_val (wn rfl) rfl rfl (py_assign rfl) ?_
  refine s_nil ?_
  refine W_seq ?_
  refine W_reg ?_
  refine s_val (wn rfl) rfl rfl (py_move rfl) (s_val (wn rfl) rfl rfl (py_neq rfl rfl) ?_)
  refine s_nil ?_
  refine W_ifd rfl (fun c1 => ?_) (fun c1 => ?_)
  · refine W_seq ?_
    refine W_reg ?_
    refine s_val (wn rfl) rfl rfl (py_move rfl) (s_val (wn rfl) rfl rfl (py_buildS Tryz_pl43 rfl rfl) ?_)
    refine s_stoS (wn rfl) Tryz.sizeOf43 rfl rfl rfl rfl H3 1 rfl rfl (fun w4 e4 H4 => ?_)
    dsimp only [List.nil_append, List.cons_append, List.set_cons_zero, List.set_cons_succ, layL] at H4
    refine s_nil ?_
    refine W_ret (hQ _ _ (finC Tryz.results21 rfl (run_loadVarS Tryz.underlying43 rfl Tryz.sizeOf43 rfl (At.whole (H4.box 1 rfl))) ?_))
    rw [deadGroups_bad (by omega)]
    exact ⟨H4.ext, none, 0, rfl, groups_nil (by unfold I64ok; have := worldF_cd (z := z); dsimp only; omega)⟩
  · refine W_skip ?_
    refine W_seq ?_
    refine W_reg ?_
    refine s_val (wn rfl) rfl rfl (py_buildS Tryz_pl43 rfl rfl) ?_
    refine s_var (wn rfl) rfl Tryz.zeroValue43 H3 (fun b3 w5 e5 g3 H5 => ?_)
    refine s_stoS (wn rfl) Tryz.sizeOf43 rfl rfl rfl rfl H5 2 rfl rfl (fun w6 e6 H6 => ?_)
    dsimp only [List.nil_append, List.cons_append, List.set_cons_zero, List.set_cons_succ, layL] at H6
    refine s_nil ?_
    refine W_seq ?_
    refine W_seq ?_
    obtain ⟨hs, hG, hO⟩ := worldF_ok (w := z) (by omega)
    have sbd := shape_bd hs
    refine W_reg ?_
    refine s_val (wn rfl) rfl rfl (py_assign rfl) ?_
    refine s_nil ?_
    refine W_block ?_
    have H8 := H6.nilD (α := Int)
    try dsimp only [List.nil_append, List.cons_append, List.set_cons_zero, List.set_cons_succ] at H8
    refine W_loopB (α := Int) (γ := Nat) (fun k => deadTo z k) 0 H8 3 2 1 rfl rfl rfl rfl [(1, _), (2, _), (4, _)] ⟨rfl, rfl, rfl, trivial⟩ (fun k => [(5, .int .i64 k)]) (fun k => k ≤ (z.Shape.Groups + z.Shape.Column).toNat ∧ True) (fun k => (z.Shape.Groups + z.Shape.Column).toNat - k) ⟨rfl, trivial⟩ ⟨by omega, trivial⟩ (fun k vA1 fA1 w7 H7 ⟨hk, _⟩ => ?_)
    dsimp only [List.cons_append, List.nil_append, List.set_cons_zero, List.set_cons_succ] at H7 ⊢
    refine W_seq ?_
    refine W_seq ?_
    refine W_reg ?_
    refine s_val (wn rfl) rfl rfl (py_move rfl) (s_val (wn rfl) rfl rfl (py_field Tryz.underlying37 rfl Tryz.sizeOf33 rfl rfl) (s_val (wn rfl) rfl rfl (py_loadS Tryz.underlying33 rfl Tryz.sizeOf33 rfl rfl (At.sub (H7.box 0 rfl) 9)) ?_))
    refine s_call (wn rfl) rfl rfl (pc_call Tryz.func83 rfl Tryz_nm83 rfl) (Tryz_spec_l5All (by assumption)) (fun v2 w8 r2 => ?_)
    obtain ⟨e7, rfl⟩ := r2
    have H9 := H7.to e7
    refine s_val (wn rfl) rfl rfl (py_lss rfl rfl) ?_
    refine s_nil ?_
    refine W_ifd rfl (fun c2 => ?_) (fun c2 => ?_)
    · refine W_skip ?_
      refine W_seq ?_
      refine W_block ?_
      refine W_seq ?_
      have hgk : ins (k : Int) 0 (z.Shape.Groups + z.Shape.Column - 1) = true := ins_iff.2 (by omega)
      refine W_reg ?_
      refine s_val (wn rfl) rfl rfl (py_move rfl) ?_
      refine s_call (wn rfl) rfl rfl (pc_call Tryz.func84 rfl Tryz_nm84 rfl) (Tryz_spec_l7Dead (H9.box 0 rfl) (by assumption) (H9.sees 0 rfl) (H9.sees 1 rfl) (H9.sees 2 rfl) (by assumption) (by assumption) (by assumption)) (fun v3 w9 r3 => ?_)
      obtain ⟨e8, rfl⟩ := r3
      have H10 := H9.to e8
      refine s_nil ?_
      refine W_if rfl (fun c3 => ?_) (fun c3 => ?_)
      · have wl := dead_len (z := z) (k := k)
        refine W_reg ?_
        refine s_val (wn rfl) rfl rfl (py_field Tryz.underlying43 rfl Tryz.sizeOf25 rfl rfl) (s_val (wn rfl) rfl rfl (py_load Tryz.underlying25 rfl rfl (cell_atL (H10.box 2 rfl) rfl)) (s_val (wn rfl) rfl rfl (py_move rfl) ?_))
        refine s_lit1 (wn rfl) rfl Tryz.underlying25 Tryz_ty2 rfl rfl rfl rfl H10 (fun b4 w10 e9 g4 H11 => ?_)
        refine s_app1 (wn rfl) rfl Tryz.underlying25 Tryz_ty2 rfl rfl rfl H11 3 4 rfl rfl (own_bi (by first | assumption | (unfold I64ok; omega))) (by unfold maxLen; omega) (by omega) (fun v4 w11 fp1 H12 => ?_)
        refine s_val (wn rfl) rfl rfl (py_field Tryz.underlying43 rfl Tryz.sizeOf25 rfl rfl) ?_
        obtain ⟨a1, k1, q1⟩ := own_slice (H12.mine 3 rfl)
        cases q1
        refine s_sto (wn rfl) Tryz.sizeOf25 rfl rfl rfl H12 2 rfl rfl (fun w12 e10 H13 => ?_)
        dsimp only [List.nil_append, List.cons_append, List.set_cons_zero, List.set_cons_succ, layL] at H13
        refine s_nil ?_
        refine W_reg ?_
        refine s_val (wn rfl) rfl rfl (py_move rfl) (s_val (wn rfl) rfl rfl (py_add rfl rfl (in64 ⟨by omega, by omega⟩)) (s_val (wn rfl) rfl rfl (py_assign rfl) ?_))
        refine s_nil ?_
        rw [← dead_yes c3] at H13
        exact ⟨(k + 1, _, _), ⟨rfl, rfl, rfl, rfl, trivial⟩, ⟨(H13.dtake 4), by omega, trivial⟩, by dsimp only; omega⟩
      · refine W_skip ?_
        refine W_reg ?_
        refine s_val (wn rfl) rfl rfl (py_move rfl) (s_val (wn rfl) rfl rfl (py_add rfl rfl (in64 ⟨by omega, by omega⟩)) (s_val (wn rfl) rfl rfl (py_assign rfl) ?_))
        refine s_nil ?_
        rw [← dead_no c3] at H10
        exact ⟨(k + 1, _, _), ⟨rfl, rfl, rfl, rfl, trivial⟩, ⟨H10, by omega, trivial⟩, by dsimp only; omega⟩
    · refine W_exit ?_
      refine W_seq ?_
      refine W_reg ?_
      refine s_val (wn rfl) rfl rfl (py_loadS Tryz.underlying43 rfl Tryz.sizeOf43 rfl rfl (At.whole (H9.box 2 rfl))) ?_
      obtain ⟨a2, k2, q2⟩ := own_slice (H9.mine 3 rfl)
      cases q2
      refine s_stoS (wn rfl) Tryz.sizeOf43 rfl rfl rfl rfl H9 1 rfl rfl (fun w13 e11 H14 => ?_)
      dsimp only [List.nil_append, List.cons_append, List.set_cons_zero, List.set_cons_succ, layL] at H14
      refine s_nil ?_
      refine W_ret (hQ _ _ (finC Tryz.results21 rfl (run_loadVarS Tryz.underlying43 rfl Tryz.sizeOf43 rfl (At.whole (H14.box 1 rfl))) ?_))
      obtain rfl : k = (z.Shape.Groups + z.Shape.Column).toNat := by omega
      rw [deadGroups_ok (by omega)]
      exact ⟨H14.ext, _, _, rfl, GroupsResult.out (x := ⟨0, deadTo z (z.Shape.Groups + z.Shape.Column).toNat⟩) (H14.sub (.cons _ (.cons _ (.cons _ (.cons_cons _ List.Sublist.slnil))))) (by show I64ok 0; unfold I64ok; omega)⟩
theorem Tryz_impl_WipedOf {w : World} {z : Wld} {zA9 : Option Addr} {zC9 : Nat} {zA10 : Option Addr} {zC10 : Nat} {zA11 : Option Addr} {zC11 : Nat} {g : Int} (zK : z.Ok) (zS9 : Sees w [.slice zA9 z.Groups.length zC9] z.Groups) (zS10 : Sees w [.slice zA10 z.On.length zC10] z.On) (zS11 : Sees w [.slice zA11 z.Tapes.length zC11] z.Tapes) : Ret Tryz.prog 28 #[z.val zA9 zC9 zA10 zC10 zA11 zC11, .int .i64 g] w fun v w' => Ext No w w' ∧ (∃ A1 C1, v = (wipedOf z g).val A1 C1 ∧ Res w w' [.int .i64 (wipedOf z g).Code, .slice A1 (wipedOf z g).Lst.length C1] (wipedOf z g)) := by
  have zK2 := zK
  unfold Wld.Ok Shape.Ok at zK2
  try unfold I64ok at zK2
  try unfold maxLen at zK2
  have zL9 := sees_len zS9
  unfold maxLen at zL9
  obtain ⟨zF9, zO9⟩ := zS9
  have zL10 := sees_len zS10
  unfold maxLen at zL10
  obtain ⟨zF10, zO10⟩ := zS10
  have zL11 := sees_len zS11
  unfold maxLen at zL11
  obtain ⟨zF11, zO11⟩ := zS11
  refine ret_Q (vs := [z.val zA9 zC9 zA10 zC10 zA11 zC11, .int .i64 g]) Tryz.func28 rfl Tryz.ntmps28 rfl (fun Q hQ hN => ?_)
  have H0 := Sep.start (w := w) (F := [seen false [.slice zA9 z.Groups.length zC9] z.Groups zF9, seen false [.slice zA10 z.On.length zC10] z.On zF10, seen false [.slice zA11 z.Tapes.length zC11] z.Tapes zF11]) (all_cons zO9 (all_cons zO10 (all_cons zO11 (by simp))))
  refine W_seq ?_
  refine W_reg ?_
  refine s_box (wn rfl) rfl rfl H0 (fun b1 w1 e1 g1 H1 => ?_)
  refine s_var (wn rfl) rfl Tryz.zeroValue50 H1 (fun b2 w2 e2 g2 H2 => ?_)
  refine s_nil ?_
  refine W_seq ?_
  refine W_reg ?_
  refine s_val (wn rfl) rfl rfl (py_loadS Tryz.underlying37 rfl Tryz.sizeOf37 rfl rfl (At.whole (H2.box 0 rfl))) ?_
  refine s_call (wn rfl) rfl rfl (pc_call Tryz.func85 rfl Tryz_nm85 rfl) (Tryz_impl_WorldFault (by assumption) (H2.sees 0 rfl) (H2.sees 1 rfl) (H2.sees 2 rfl)) (fun v1 w3 r1 => ?_)
  obtain ⟨e3, rfl⟩ := r1
  have H3 := H2.to e3
  refine s_val (wn rfl) rfl rfl (py_assign rfl) ?_
  refine s_nil ?_
  refine W_seq ?_
  refine W_block ?_
  refine W_seq ?_
  refine W_reg ?_
  refine s_val (wn rfl) rfl rfl (py_move rfl) (s_val (wn rfl) rfl rfl (py_neq rfl rfl) (s_val (wn rfl) rfl rfl (py_assign rfl) ?_))
  refine s_nil ?_
  refine W_ifd rfl (fun c1 => ?_) (fun c1 => ?_)
  · refine W_seq ?_
    refine W_reg ?_
    refine s_val (wn rfl) rfl rfl (py_move rfl) (s_val (wn rfl) rfl rfl (py_buildS Tryz_pl50 rfl rfl) ?_)
    refine s_stoS (wn rfl) Tryz.sizeOf50 rfl rfl rfl rfl H3 1 rfl rfl (fun w4 e4 H4 => ?_)
    dsimp only [List.nil_append, List.cons_append, List.set_cons_zero, List.set_cons_succ, layL] at H4
    refine s_nil ?_
    refine W_ret (hQ _ _ (finC Tryz.results28 rfl (run_loadVarS Tryz.underlying50 rfl Tryz.sizeOf50 rfl (At.whole (H4.box 1 rfl))) ?_))
    rw [wipedOf_bad (by rw [ask_world (by omega)]; omega), ask_world (by omega)]
    exact ⟨H4.ext, none, 0, rfl, ints_nil (by unfold I64ok; have := worldF_cd (z := z); dsimp only; omega)⟩
  · refine W_seq ?_
    obtain ⟨hs, hG, hO⟩ := worldF_ok (w := z) (by omega)
    refine W_reg ?_
    refine s_val (wn rfl) rfl rfl (py_field Tryz.underlying37 rfl Tryz.sizeOf33 rfl rfl) (s_val (wn rfl) rfl rfl (py_loadS Tryz.underlying33 rfl Tryz.sizeOf33 rfl rfl (At.sub (H3.box 0 rfl) 9)) (s_val (wn rfl) rfl rfl (py_move rfl) ?_))
    refine s_call (wn rfl) rfl rfl (pc_call Tryz.func94 rfl Tryz_nm94 rfl) (Tryz_impl_Shape_isGroup (by assumption)) (fun v2 w5 r2 => ?_)
    obtain ⟨e5, rfl⟩ := r2
    have H5 := H3.to e5
    refine s_val (wn rfl) rfl rfl (py_not rfl) (s_val (wn rfl) rfl rfl (py_assign rfl) ?_)
    refine s_nil ?_
    refine W_if rfl (fun c2 => ?_) (fun c2 => ?_)
    · refine W_seq ?_
      have aq : askF z g 0 = 3 := ask_place (by omega) (by rw [place_grp hs]; exact not_true c2)
      refine W_reg ?_
      refine s_val (wn rfl) rfl rfl (py_buildS Tryz_pl50 rfl rfl) ?_
      refine s_stoS (wn rfl) Tryz.sizeOf50 rfl rfl rfl rfl H5 1 rfl rfl (fun w6 e6 H6 => ?_)
      dsimp only [List.nil_append, List.cons_append, List.set_cons_zero, List.set_cons_succ, layL] at H6
      refine s_nil ?_
      refine W_ret (hQ _ _ (finC Tryz.results28 rfl (run_loadVarS Tryz.underlying50 rfl Tryz.sizeOf50 rfl (At.whole (H6.box 1 rfl))) ?_))
      rw [wipedOf_bad (by rw [aq]; omega), aq]
      exact ⟨H6.ext, none, 0, rfl, ints_nil (by unfold I64ok; have := worldF_cd (z := z); dsimp only; omega)⟩
    · refine W_skip ?_
      refine W_seq ?_
      have hg := not_false c2
      have aq : askF z g 0 = 0 := ask_fine (by omega) (by rw [place_grp hs]; exact hg)
      refine W_reg ?_
      refine s_val (wn rfl) rfl rfl (py_move rfl) ?_
      refine s_call (wn rfl) rfl rfl (pc_call Tryz.func95 rfl Tryz_nm95 rfl) (Tryz_impl_World_wiped (H5.box 0 rfl) (by assumption) (H5.sees 0 rfl) (H5.sees 1 rfl) (H5.sees 2 rfl) (by assumption) (by assumption) (by assumption)) (fun v3 w7 r3 => ?_)
      obtain ⟨e7, r3⟩ := r3
      obtain ⟨fp1, H7⟩ := H5.res e7 r3
      obtain ⟨a1, k1, q1⟩ := own_slice (H7.mine 2 rfl)
      cases q1
      refine s_val (wn rfl) rfl rfl (py_buildS Tryz_pl50 rfl rfl) ?_
      refine s_stoS (wn rfl) Tryz.sizeOf50 rfl rfl rfl rfl H7 1 rfl rfl (fun w8 e8 H8 => ?_)
      dsimp only [List.nil_append, List.cons_append, List.set_cons_zero, List.set_cons_succ, layL] at H8
      refine s_nil ?_
      refine W_ret (hQ _ _ (finC Tryz.results28 rfl (run_loadVarS Tryz.underlying50 rfl Tryz.sizeOf50 rfl (At.whole (H8.box 1 rfl))) ?_))
      rw [wipedOf_ok (by omega)]
      exact ⟨H8.ext, _, _, rfl, IntsResult.out (x := ⟨0, wipedL z g⟩) (H8.sub (.cons _ (.cons _ (.cons_cons _ List.Sublist.slnil)))) (by show I64ok 0; unfold I64ok; omega)⟩
theorem Tryz_spec_WipedOf {w : World} {z : Wld} {zA9 : Option Addr} {zC9 : Nat} {zA10 : Option Addr} {zC10 : Nat} {zA11 : Option Addr} {zC11 : Nat} {g : Int} (zK : z.Ok) (zS9 : Sees w [.slice zA9 z.Groups.length zC9] z.Groups) (zS10 : Sees w [.slice zA10 z.On.length zC10] z.On) (zS11 : Sees w [.slice zA11 z.Tapes.length zC11] z.Tapes) : Ret Tryz.prog 27 #[z.val zA9 zC9 zA10 zC10 zA11 zC11, .int .i64 g] w fun v w' => Ext No w w' ∧ (∃ A1 C1, v = (wipedOf z g).val A1 C1 ∧ Res w w' [.int .i64 (wipedOf z g).Code, .slice A1 (wipedOf z g).Lst.length C1] (wipedOf z g)) := by
  have zK2 := zK
  unfold Wld.Ok Shape.Ok at zK2
  try unfold I64ok at zK2
  try unfold maxLen at zK2
  have zL9 := sees_len zS9
  unfold maxLen at zL9
  obtain ⟨zF9, zO9⟩ := zS9
  have zL10 := sees_len zS10
  unfold maxLen at zL10
  obtain ⟨zF10, zO10⟩ := zS10
  have zL11 := sees_len zS11
  unfold maxLen at zL11
  obtain ⟨zF11, zO11⟩ := zS11
  refine ret_Q (vs := [z.val zA9 zC9 zA10 zC10 zA11 zC11, .int .i64 g]) Tryz.func27 rfl Tryz.ntmps27 rfl (fun Q hQ hN => ?_)
  have H0 := Sep.start (w := w) (F := [seen false [.slice zA9 z.Groups.length zC9] z.Groups zF9, seen false [.slice zA10 z.On.length zC10] z.On zF10, seen false [.slice zA11 z.Tapes.length zC11] z.Tapes zF11]) (all_cons zO9 (all_cons zO10 (all_cons zO11 (by simp))))
  refine W_seq ?_
  refine W_reg ?_
  refine s_box (wn rfl) rfl rfl H0 (fun b1 w1 e1 g1 H1 => ?_)
  refine s_var (wn rfl) rfl Tryz.zeroValue50 H1 (fun b2 w2 e2 g2 H2 => ?_)
  refine s_nil ?_
  refine W_seq ?_
  refine W_seq ?_
  refine W_reg ?_
  refine s_val (wn rfl) rfl rfl (py_loadS Tryz.underlying37 rfl Tryz.sizeOf37 rfl rfl (At.whole (H2.box 0 rfl))) (s_val (wn rfl) rfl rfl (py_move rfl) ?_)
  refine s_call (wn rfl) rfl rfl (pc_call Tryz.func92 rfl Tryz_nm92 rfl) (Tryz_spec_l8Asked (by assumption) (H2.sees 0 rfl) (H2.sees 1 rfl) (H2.sees 2 rfl)) (fun v1 w3 r1 => ?_)
  obtain ⟨e3, rfl⟩ := r1
  have H3 := H2.to e3
  refine s_val (wn rfl) rfl rfl (py_assign rfl) ?_
  refine s_nil ?_
  refine W_seq ?_
  refine W_reg ?_
  refine s_val (wn rfl) rfl rfl (py_move rfl) (s_val (wn rfl) rfl rfl (py_neq rfl rfl) ?_)
  refine s_nil ?_
  refine W_ifd rfl (fun c1 => ?_) (fun c1 => ?_)
  · refine W_seq ?_
    refine W_reg ?_
    refine s_val (wn rfl) rfl rfl (py_move rfl) (s_val (wn rfl) rfl rfl (py_buildS Tryz_pl50 rfl rfl) ?_)
    refine s_stoS (wn rfl) Tryz.sizeOf50 rfl rfl rfl rfl H3 1 rfl rfl (fun w4 e4 H4 => ?_)
    dsimp only [List.nil_append, List.cons_append, List.set_cons_zero, List.set_cons_succ, layL] at H4
    refine s_nil ?_
    refine W_ret (hQ _ _ (finC Tryz.results27 rfl (run_loadVarS Tryz.underlying50 rfl Tryz.sizeOf50 rfl (At.whole (H4.box 1 rfl))) ?_))
    rw [wipedOf_bad (by omega)]
    exact ⟨H4.ext, none, 0, rfl, ints_nil (by unfold I64ok; have := askF_cd (z := z) (g := g) (row := 0); dsimp only; omega)⟩
  · refine W_skip ?_
    refine W_seq ?_
    obtain ⟨_, hs, hG, hg, _⟩ := askF_ok (z := z) (g := g) (row := 0) (by omega)
    refine W_reg ?_
    refine s_val (wn rfl) rfl rfl (py_move rfl) ?_
    refine s_call (wn rfl) rfl rfl (pc_call Tryz.func93 rfl Tryz_nm93 rfl) (Tryz_spec_l10Wiped (H3.box 0 rfl) (by assumption) (H3.sees 0 rfl) (H3.sees 1 rfl) (H3.sees 2 rfl) (by assumption) (by assumption) (by assumption)) (fun v2 w5 r2 => ?_)
    obtain ⟨e5, r2⟩ := r2
    obtain ⟨fp1, H5⟩ := H3.res e5 r2
    obtain ⟨a1, k1, q1⟩ := own_slice (H5.mine 2 rfl)
    cases q1
    refine s_val (wn rfl) rfl rfl (py_buildS Tryz_pl50 rfl rfl) ?_
    refine s_stoS (wn rfl) Tryz.sizeOf50 rfl rfl rfl rfl H5 1 rfl rfl (fun w6 e6 H6 => ?_)
    dsimp only [List.nil_append, List.cons_append, List.set_cons_zero, List.set_cons_succ, layL] at H6
    refine s_nil ?_
    refine W_ret (hQ _ _ (finC Tryz.results27 rfl (run_loadVarS Tryz.underlying50 rfl Tryz.sizeOf50 rfl (At.whole (H6.box 1 rfl))) ?_))
    rw [wipedOf_ok (by omega)]
    exact ⟨H6.ext, _, _, rfl, IntsResult.out (x := ⟨0, wipedL z g⟩) (H6.sub (.cons _ (.cons _ (.cons_cons _ List.Sublist.slnil)))) (by show I64ok 0; unfold I64ok; omega)⟩
end Go.Wk
