/-
  The functions walked, each once. (Printed by a program of mine.)
-/
import Derived.Test.YtceeelcijjkefaaGreatWmarks
set_option linter.unusedVariables false
set_option linter.unusedSimpArgs false
namespace Go.Wk
open Go.Proofs Rp
set_option maxRecDepth 10000
theorem Tryz_laws_markWorld {w : World} {x : Wld} {xA9 : Option Addr} {xC9 : Nat} {xA10 : Option Addr} {xC10 : Nat} {xA11 : Option Addr} {xC11 : Nat} {k : Int} {fp : List Nat} (xK : x.Ok) (o : own true w [.int .i64 x.Shape.Groups, .int .i64 x.Shape.Column, .int .i64 x.Shape.Data, .int .i64 x.Shape.Spare, .int .i64 x.Shape.Rows, .int .i64 x.Shape.Cap, .int .i64 x.Shape.Batch, .int .i64 x.Shape.Queue, .int .i64 x.Shape.Stage, .slice xA9 x.Groups.length xC9, .slice xA10 x.On.length xC10, .slice xA11 x.Tapes.length xC11, .int .i64 x.Writes, .int .i64 x.Stop, .bool x.Down] x fp) (nd : fp.Nodup) (hk : 0 ≤ k ∧ k + mkWld x ≤ 4611686018427387904) : Ret Tryz.prog 24 #[x.val xA9 xC9 xA10 xC10 xA11 xC11, .int .i64 k] w fun v w' => (v = .int .i64 (k + mkWld x) ∧ ∃ x' : Wld, Mut w w' fp [.int .i64 x.Shape.Groups, .int .i64 x.Shape.Column, .int .i64 x.Shape.Data, .int .i64 x.Shape.Spare, .int .i64 x.Shape.Rows, .int .i64 x.Shape.Cap, .int .i64 x.Shape.Batch, .int .i64 x.Shape.Queue, .int .i64 x.Shape.Stage, .slice xA9 x.Groups.length xC9, .slice xA10 x.On.length xC10, .slice xA11 x.Tapes.length xC11, .int .i64 x.Writes, .int .i64 x.Stop, .bool x.Down] x' ∧ (x'.Groups.length = x.Groups.length ∧ x'.On.length = x.On.length ∧ x'.Tapes.length = x.Tapes.length ∧ mkWld x' = mkWld x ∧ MkWld x' k ∧ x'.Shape = x.Shape ∧ x'.Writes = x.Writes ∧ x'.Stop = x.Stop ∧ x'.Down = x.Down)) := by
  unfold mkWld at hk
  refine ret_Q (vs := [x.val xA9 xC9 xA10 xC10 xA11 xC11, .int .i64 k]) Tryz.func24 rfl Tryz.ntmps24 rfl (fun Q hQ hN => ?_)
  obtain ⟨f9, f10, f11, ef, ok, o9, o10, o11⟩ := own_WldC o
  have H0 := (Sep.begin o nd).part 0 rfl [mine [.slice xA9 x.Groups.length xC9] x.Groups f9, mine [.slice xA10 x.On.length xC10] x.On f10, mine [.slice xA11 x.Tapes.length xC11] x.Tapes f11] (all_cons o9 (all_cons o10 (all_cons o11 (by simp)))) (by simp [blocks, mine, ef])
  try dsimp only [List.nil_append, List.cons_append, List.set_cons_zero, List.set_cons_succ] at H0
  refine W_seq ?_
  refine W_reg ?_
  refine s_box (wn rfl) rfl rfl H0 (fun b1 w1 e1 g1 H1 => ?_)
  refine s_val (wn rfl) rfl rfl (py_assign rfl) ?_
  refine s_nil ?_
  refine W_seq ?_
  refine W_reg ?_
  refine s_val (wn rfl) rfl rfl (py_field Tryz.underlying37 rfl Tryz.sizeOf34 rfl rfl) (s_val (wn rfl) rfl rfl (py_load Tryz.underlying34 rfl rfl (cell_atL (H1.box 4 rfl) rfl)) (s_val (wn rfl) rfl rfl (py_move rfl) ?_))
  refine s_call (wn rfl) rfl rfl (pc_call Tryz.func88 rfl Tryz_nm88 rfl) (Tryz_laws_markDriveSS (H1.mine 1 rfl) (H1.nodup1 (i := 1) rfl) (by constructor <;> omega)) (fun v1 w2 r1 => ?_)
  obtain ⟨rfl, mx1, mm1, ml1⟩ := r1
  obtain ⟨fp1, H2⟩ := H1.mut 1 rfl mm1
  try dsimp only [List.nil_append, List.cons_append, List.set_cons_zero, List.set_cons_succ] at H2
  refine s_val (wn rfl) rfl rfl (py_assign rfl) ?_
  refine s_nil ?_
  refine W_seq ?_
  refine W_reg ?_
  refine s_val (wn rfl) rfl rfl (py_field Tryz.underlying37 rfl Tryz.sizeOf25 rfl rfl) (s_val (wn rfl) rfl rfl (py_load Tryz.underlying25 rfl rfl (cell_atL (H2.box 4 rfl) rfl)) (s_val (wn rfl) rfl rfl (py_move rfl) ?_))
  refine s_call (wn rfl) rfl rfl (pc_call Tryz.func89 rfl Tryz_nm89 rfl) (Tryz_laws_markInt64S (H2.mine 2 rfl) (H2.nodup1 (i := 2) rfl) (by constructor <;> omega)) (fun v2 w3 r2 => ?_)
  obtain ⟨rfl, mx2, mm2, ml2, mk1⟩ := r2
  obtain ⟨fp2, H3⟩ := H2.mut 2 rfl mm2
  try dsimp only [List.nil_append, List.cons_append, List.set_cons_zero, List.set_cons_succ] at H3
  refine s_val (wn rfl) rfl rfl (py_assign rfl) ?_
  refine s_nil ?_
  refine W_seq ?_
  refine W_reg ?_
  refine s_val (wn rfl) rfl rfl (py_field Tryz.underlying37 rfl Tryz.sizeOf35 rfl rfl) (s_val (wn rfl) rfl rfl (py_load Tryz.underlying35 rfl rfl (cell_atL (H3.box 4 rfl) rfl)) (s_val (wn rfl) rfl rfl (py_move rfl) ?_))
  refine s_call (wn rfl) rfl rfl (pc_call Tryz.func90 rfl Tryz_nm90 rfl) (Tryz_laws_markTapeS (H3.mine 3 rfl) (H3.nodup1 (i := 3) rfl) (by constructor <;> omega)) (fun v3 w4 r3 => ?_)
  obtain ⟨rfl, mx3, mm3, ml3⟩ := r3
  obtain ⟨fp3, H4⟩ := H3.mut 3 rfl mm3
  try dsimp only [List.nil_append, List.cons_append, List.set_cons_zero, List.set_cons_succ] at H4
  refine s_val (wn rfl) rfl rfl (py_assign rfl) ?_
  refine s_nil ?_
  refine W_seq ?_
  refine W_reg ?_
  refine s_val (wn rfl) rfl rfl (py_move rfl) (s_val (wn rfl) rfl rfl (py_assign rfl) ?_)
  refine s_nil ?_
  refine W_ret (hQ _ _ (fin1 Tryz.results24 rfl ?_))
  exact ⟨congrArg (Value.int .i64) (by unfold mkWld; omega), Wld.mkOut ok (H4.dtake 4) ml1 ml2 mk1 ml3⟩
theorem Tryz_laws_markGroupsResult {w : World} {xs : List Int} {xsA : Option Addr} {xsC : Nat} {c k : Int} {fp : List Nat} (o : own true w [.slice xsA xs.length xsC] xs fp) (nd : fp.Nodup) (hk : 0 ≤ k ∧ k + xs.length ≤ 4611686018427387904) : Ret Tryz.prog 25 #[.agg #[.int .i64 c, .slice xsA xs.length xsC], .int .i64 k] w fun v w' => (v = .int .i64 (k + xs.length) ∧ ∃ xs', Mut w w' fp [.slice xsA xs.length xsC] xs' ∧ xs'.length = xs.length ∧ MarkI xs' k) := by
  refine ret_Q (vs := [.agg #[.int .i64 c, .slice xsA xs.length xsC], .int .i64 k]) Tryz.func25 rfl Tryz.ntmps25 rfl (fun Q hQ hN => ?_)
  have H0 := Sep.begin o nd
  refine W_seq ?_
  refine W_reg ?_
  refine s_box (wn rfl) rfl rfl H0 (fun b1 w1 e1 g1 H1 => ?_)
  refine s_val (wn rfl) rfl rfl (py_assign rfl) ?_
  refine s_nil ?_
  refine W_seq ?_
  refine W_reg ?_
  refine s_val (wn rfl) rfl rfl (py_field Tryz.underlying43 rfl Tryz.sizeOf25 rfl rfl) (s_val (wn rfl) rfl rfl (py_load Tryz.underlying25 rfl rfl (cell_atL (H1.box 1 rfl) rfl)) (s_val (wn rfl) rfl rfl (py_move rfl) ?_))
  refine s_call (wn rfl) rfl rfl (pc_call Tryz.func89 rfl Tryz_nm89 rfl) (Tryz_laws_markInt64S (H1.mine 0 rfl) (H1.nodup1 (i := 0) rfl) (by constructor <;> omega)) (fun v1 w2 r1 => ?_)
  obtain ⟨rfl, mx1, mm1, ml1, mk1⟩ := r1
  obtain ⟨fp1, H2⟩ := H1.mut 0 rfl mm1
  try dsimp only [List.nil_append, List.cons_append, List.set_cons_zero, List.set_cons_succ] at H2
  refine s_val (wn rfl) rfl rfl (py_assign rfl) ?_
  refine s_nil ?_
  refine W_seq ?_
  refine W_reg ?_
  refine s_val (wn rfl) rfl rfl (py_move rfl) (s_val (wn rfl) rfl rfl (py_assign rfl) ?_)
  refine s_nil ?_
  refine W_ret (hQ _ _ (fin1 Tryz.results25 rfl ?_))
  have hz := H2.dtake 1
  exact ⟨rfl, _, hz.done, ml1, mk1⟩
theorem Tryz_laws_heldGroupsResult {w : World} {xs : List Int} {xsA : Option Addr} {n xsC : Nat} {c k : Int} (xsS : Sees w [.slice xsA n xsC] xs) (hk : 0 ≤ k ∧ k + xs.length ≤ 4611686018427387904) (hm : MarkI xs k) : Ret Tryz.prog 26 #[.agg #[.int .i64 c, .slice xsA n xsC], .int .i64 k] w fun v w' => Ext No w w' ∧ (v = .int .i64 (k + xs.length)) := by
  obtain ⟨xsF, xsO⟩ := xsS
  obtain rfl := own_n xsO
  refine ret_Q (vs := [.agg #[.int .i64 c, .slice xsA xs.length xsC], .int .i64 k]) Tryz.func26 rfl Tryz.ntmps26 rfl (fun Q hQ hN => ?_)
  have H0 := Sep.start (w := w) (F := [seen false [.slice xsA xs.length xsC] xs xsF]) (all_cons xsO (by simp))
  refine W_seq ?_
  refine W_reg ?_
  refine s_box (wn rfl) rfl rfl H0 (fun b1 w1 e1 g1 H1 => ?_)
  refine s_val (wn rfl) rfl rfl (py_assign rfl) ?_
  refine s_nil ?_
  refine W_seq ?_
  refine W_reg ?_
  refine s_val (wn rfl) rfl rfl (py_field Tryz.underlying43 rfl Tryz.sizeOf25 rfl rfl) (s_val (wn rfl) rfl rfl (py_load Tryz.underlying25 rfl rfl (cell_atL (H1.box 0 rfl) rfl)) (s_val (wn rfl) rfl rfl (py_move rfl) ?_))
  refine s_call (wn rfl) rfl rfl (pc_call Tryz.func91 rfl Tryz_nm91 rfl) (Tryz_laws_heldInt64S (H1.sees 0 rfl) (by constructor <;> omega) (by assumption)) (fun v1 w2 r1 => ?_)
  obtain ⟨e2, rfl⟩ := r1
  have H2 := H1.to e2
  refine s_val (wn rfl) rfl rfl (py_assign rfl) ?_
  refine s_nil ?_
  refine W_seq ?_
  refine W_seq ?_
  refine W_reg ?_
  refine s_val (wn rfl) rfl rfl (py_move rfl) (s_val (wn rfl) rfl rfl (py_lss rfl rfl) ?_)
  refine s_nil ?_
  refine W_ifd rfl (fun c1 => ?_) (fun c1 => ?_)
  · refine W_seq ?_
    refine W_reg ?_
    refine s_val (wn rfl) rfl rfl (py_assign rfl) ?_
    refine s_nil ?_
    refine W_ret (hQ _ _ (fin1 Tryz.results26 rfl ?_))
    exact absurd c1 (by omega)
  · refine W_skip ?_
    refine W_seq ?_
    refine W_reg ?_
    refine s_val (wn rfl) rfl rfl (py_move rfl) (s_val (wn rfl) rfl rfl (py_assign rfl) ?_)
    refine s_nil ?_
    refine W_ret (hQ _ _ (fin1 Tryz.results26 rfl ?_))
    exact ⟨H2.ext, rfl⟩
theorem Tryz_laws_eqGroupsResult {w : World} {a : GroupsResult} {aA1 : Option Addr} {aC1 : Nat} {b : GroupsResult} {bA1 : Option Addr} {bC1 : Nat} (aK : a.Ok) (aS1 : Sees w [.slice aA1 a.Groups.length aC1] a.Groups) (bK : b.Ok) (bS1 : Sees w [.slice bA1 b.Groups.length bC1] b.Groups) : Ret Tryz.prog 23 #[a.val aA1 aC1, b.val bA1 bC1] w fun v w' => Ext No w w' ∧ (v = .bool (decide (a = b))) := by
  have aK2 := aK
  unfold GroupsResult.Ok at aK2
  try unfold I64ok at aK2
  try unfold maxLen at aK2
  have aL1 := sees_len aS1
  unfold maxLen at aL1
  obtain ⟨aF1, aO1⟩ := aS1
  have bK2 := bK
  unfold GroupsResult.Ok at bK2
  try unfold I64ok at bK2
  try unfold maxLen at bK2
  have bL1 := sees_len bS1
  unfold maxLen at bL1
  obtain ⟨bF1, bO1⟩ := bS1
  refine ret_Q (vs := [a.val aA1 aC1, b.val bA1 bC1]) Tryz.func23 rfl Tryz.ntmps23 rfl (fun Q hQ hN => ?_)
  have H0 := Sep.start (w := w) (F := [seen false [.slice aA1 a.Groups.length aC1] a.Groups aF1, seen false [.slice bA1 b.Groups.length bC1] b.Groups bF1]) (all_cons aO1 (all_cons bO1 (by simp)))
  refine W_seq ?_
  refine W_reg ?_
  refine s_box (wn rfl) rfl rfl H0 (fun b1 w1 e1 g1 H1 => ?_)
  refine s_box (wn rfl) rfl rfl H1 (fun b2 w2 e2 g2 H2 => ?_)
  refine s_val (wn rfl) rfl rfl (py_assign rfl) ?_
  refine s_nil ?_
  refine W_seq ?_
  refine W_seq ?_
  refine W_reg ?_
  refine s_val (wn rfl) rfl rfl (py_field Tryz.underlying43 rfl Tryz.sizeOf2 rfl rfl) (s_val (wn rfl) rfl rfl (py_load Tryz.underlying2 rfl rfl (cell_atL (H2.box 0 rfl) rfl)) (s_val (wn rfl) rfl rfl (py_field Tryz.underlying43 rfl Tryz.sizeOf2 rfl rfl) (s_val (wn rfl) rfl rfl (py_load Tryz.underlying2 rfl rfl (cell_atL (H2.box 1 rfl) rfl)) (s_val (wn rfl) rfl rfl (py_neq rfl rfl) ?_))))
  refine s_nil ?_
  refine W_ifd rfl (fun c1 => ?_) (fun c1 => ?_)
  · refine W_seq ?_
    refine W_reg ?_
    refine s_val (wn rfl) rfl rfl (py_assign rfl) ?_
    refine s_nil ?_
    refine W_ret (hQ _ _ (fin1 Tryz.results23 rfl ?_))
    refine ⟨H2.ext, ?_⟩
    rw [decide_eq_false (fun e => by subst e; first | exact c1 rfl | simp at c1)]
  · refine W_skip ?_
    refine W_seq ?_
    refine W_seq ?_
    refine W_reg ?_
    refine s_val (wn rfl) rfl rfl (py_field Tryz.underlying43 rfl Tryz.sizeOf25 rfl rfl) (s_val (wn rfl) rfl rfl (py_load Tryz.underlying25 rfl rfl (cell_atL (H2.box 0 rfl) rfl)) (s_val (wn rfl) rfl rfl (py_field Tryz.underlying43 rfl Tryz.sizeOf25 rfl rfl) (s_val (wn rfl) rfl rfl (py_load Tryz.underlying25 rfl rfl (cell_atL (H2.box 1 rfl) rfl)) ?_)))
    refine s_call (wn rfl) rfl rfl (pc_call Tryz.func80 rfl Tryz_nm80 rfl) (Tryz_laws_eqInt64S (H2.sees 0 rfl) (H2.sees 1 rfl)) (fun v1 w3 r1 => ?_)
    obtain ⟨e3, rfl⟩ := r1
    have H3 := H2.to e3
    refine s_val (wn rfl) rfl rfl (py_not rfl) ?_
    refine s_nil ?_
    refine W_if rfl (fun c2 => ?_) (fun c2 => ?_)
    · refine W_seq ?_
      refine W_reg ?_
      refine s_val (wn rfl) rfl rfl (py_assign rfl) ?_
      refine s_nil ?_
      refine W_ret (hQ _ _ (fin1 Tryz.results23 rfl ?_))
      refine ⟨H3.ext, ?_⟩
      rw [decide_eq_false (fun e => by subst e; first | exact c2 rfl | simp at c2)]
    · refine W_skip ?_
      refine W_seq ?_
      refine W_reg ?_
      refine s_val (wn rfl) rfl rfl (py_assign rfl) ?_
      refine s_nil ?_
      refine W_ret (hQ _ _ (fin1 Tryz.results23 rfl ?_))
      refine ⟨H3.ext, ?_⟩
      rw [decide_eq_true]
      cases a; cases b; simp_all
theorem Tryz_laws_markIntsResult {w : World} {xs : List Int} {xsA : Option Addr} {xsC : Nat} {c k : Int} {fp : List Nat} (o : own true w [.slice xsA xs.length xsC] xs fp) (nd : fp.Nodup) (hk : 0 ≤ k ∧ k + xs.length ≤ 4611686018427387904) : Ret Tryz.prog 30 #[.agg #[.int .i64 c, .slice xsA xs.length xsC], .int .i64 k] w fun v w' => (v = .int .i64 (k + xs.length) ∧ ∃ xs', Mut w w' fp [.slice xsA xs.length xsC] xs' ∧ xs'.length = xs.length ∧ MarkI xs' k) := by
  refine ret_Q (vs := [.agg #[.int .i64 c, .slice xsA xs.length xsC], .int .i64 k]) Tryz.func30 rfl Tryz.ntmps30 rfl (fun Q hQ hN => ?_)
  have H0 := Sep.begin o nd
  refine W_seq ?_
  refine W_reg ?_
  refine s_box (wn rfl) rfl rfl H0 (fun b1 w1 e1 g1 H1 => ?_)
  refine s_val (wn rfl) rfl rfl (py_assign rfl) ?_
  refine s_nil ?_
  refine W_seq ?_
  refine W_reg ?_
  refine s_val (wn rfl) rfl rfl (py_field Tryz.underlying50 rfl Tryz.sizeOf25 rfl rfl) (s_val (wn rfl) rfl rfl (py_load Tryz.underlying25 rfl rfl (cell_atL (H1.box 1 rfl) rfl)) (s_val (wn rfl) rfl rfl (py_move rfl) ?_))
  refine s_call (wn rfl) rfl rfl (pc_call Tryz.func89 rfl Tryz_nm89 rfl) (Tryz_laws_markInt64S (H1.mine 0 rfl) (H1.nodup1 (i := 0) rfl) (by constructor <;> omega)) (fun v1 w2 r1 => ?_)
  obtain ⟨rfl, mx1, mm1, ml1, mk1⟩ := r1
  obtain ⟨fp1, H2⟩ := H1.mut 0 rfl mm1
  try dsimp only [List.nil_append, List.cons_append, List.set_cons_zero, List.set_cons_succ] at H2
  refine s_val (wn rfl) rfl rfl (py_assign rfl) ?_
  refine s_nil ?_
  refine W_seq ?_
  refine W_reg ?_
  refine s_val (wn rfl) rfl rfl (py_move rfl) (s_val (wn rfl) rfl rfl (py_assign rfl) ?_)
  refine s_nil ?_
  refine W_ret (hQ _ _ (fin1 Tryz.results30 rfl ?_))
  have hz := H2.dtake 1
  exact ⟨rfl, _, hz.done, ml1, mk1⟩
theorem Tryz_laws_heldIntsResult {w : World} {xs : List Int} {xsA : Option Addr} {n xsC : Nat} {c k : Int} (xsS : Sees w [.slice xsA n xsC] xs) (hk : 0 ≤ k ∧ k + xs.length ≤ 4611686018427387904) (hm : MarkI xs k) : Ret Tryz.prog 31 #[.agg #[.int .i64 c, .slice xsA n xsC], .int .i64 k] w fun v w' => Ext No w w' ∧ (v = .int .i64 (k + xs.length)) := by
  obtain ⟨xsF, xsO⟩ := xsS
  obtain rfl := own_n xsO
  refine ret_Q (vs := [.agg #[.int .i64 c, .slice xsA xs.length xsC], .int .i64 k]) Tryz.func31 rfl Tryz.ntmps31 rfl (fun Q hQ hN => ?_)
  have H0 := Sep.start (w := w) (F := [seen false [.slice xsA xs.length xsC] xs xsF]) (all_cons xsO (by simp))
  refine W_seq ?_
  refine W_reg ?_
  refine s_box (wn rfl) rfl rfl H0 (fun b1 w1 e1 g1 H1 => ?_)
  refine s_val (wn rfl) rfl rfl (py_assign rfl) ?_
  refine s_nil ?_
  refine W_seq ?_
  refine W_reg ?_
  refine s_val (wn rfl) rfl rfl (py_field Tryz.underlying50 rfl Tryz.sizeOf25 rfl rfl) (s_val (wn rfl) rfl rfl (py_load Tryz.underlying25 rfl rfl (cell_atL (H1.box 0 rfl) rfl)) (s_val (wn rfl) rfl rfl (py_move rfl) ?_))
  refine s_call (wn rfl) rfl rfl (pc_call Tryz.func91 rfl Tryz_nm91 rfl) (Tryz_laws_heldInt64S (H1.sees 0 rfl) (by constructor <;> omega) (by assumption)) (fun v1 w2 r1 => ?_)
  obtain ⟨e2, rfl⟩ := r1
  have H2 := H1.to e2
  refine s_val (wn rfl) rfl rfl (py_assign rfl) ?_
  refine s_nil ?_
  refine W_seq ?_
  refine W_seq ?_
  refine W_reg ?_
  refine s_val (wn rfl) rfl rfl (py_move rfl) (s_val (wn rfl) rfl rfl (py_lss rfl rfl) ?_)
  refine s_nil ?_
  refine W_ifd rfl (fun c1 => ?_) (fun c1 => ?_)
  · refine W_seq ?_
    refine W_reg ?_
    refine s_val (wn rfl) rfl rfl (py_assign rfl) ?_
    refine s_nil ?_
    refine W_ret (hQ _ _ (fin1 Tryz.results31 rfl ?_))
    exact absurd c1 (by omega)
  · refine W_skip ?_
    refine W_seq ?_
    refine W_reg ?_
    refine s_val (wn rfl) rfl rfl (py_move rfl) (s_val (wn rfl) rfl rfl (py_assign rfl) ?_)
    refine s_nil ?_
    refine W_ret (hQ _ _ (fin1 Tryz.results31 rfl ?_))
    exact ⟨H2.ext, rfl⟩
theorem Tryz_laws_eqIntsResult {w : World} {a : IntsResult} {aA1 : Option Addr} {aC1 : Nat} {b : IntsResult} {bA1 : Option Addr} {bC1 : Nat} (aK : a.Ok) (aS1 : Sees w [.slice aA1 a.Lst.length aC1] a.Lst) (bK : b.Ok) (bS1 : Sees w [.slice bA1 b.Lst.length bC1] b.Lst) : Ret Tryz.prog 29 #[a.val aA1 aC1, b.val bA1 bC1] w fun v w' => Ext No w w' ∧ (v = .bool (decide (a = b))) := by
  have aK2 := aK
  unfold IntsResult.Ok at aK2
  try unfold I64ok at aK2
  try unfold maxLen at aK2
  have aL1 := sees_len aS1
  unfold maxLen at aL1
  obtain ⟨aF1, aO1⟩ := aS1
  have bK2 := bK
  unfold IntsResult.Ok at bK2
  try unfold I64ok at bK2
  try unfold maxLen at bK2
  have bL1 := sees_len bS1
  unfold maxLen at bL1
  obtain ⟨bF1, bO1⟩ := bS1
  refine ret_Q (vs := [a.val aA1 aC1, b.val bA1 bC1]) Tryz.func29 rfl Tryz.ntmps29 rfl (fun Q hQ hN => ?_)
  have H0 := Sep.start (w := w) (F := [seen false [.slice aA1 a.Lst.length aC1] a.Lst aF1, seen false [.slice bA1 b.Lst.length bC1] b.Lst bF1]) (all_cons aO1 (all_cons bO1 (by simp)))
  refine W_seq ?_
  refine W_reg ?_
  refine s_box (wn rfl) rfl rfl H0 (fun b1 w1 e1 g1 H1 => ?_)
  refine s_box (wn rfl) rfl rfl H1 (fun b2 w2 e2 g2 H2 => ?_)
  refine s_val (wn rfl) rfl rfl (py_assign rfl) ?_
  refine s_nil ?_
  refine W_seq ?_
  refine W_seq ?_
  refine W_reg ?_
  refine s_val (wn rfl) rfl rfl (py_field Tryz.underlying50 rfl Tryz.sizeOf2 rfl rfl) (s_val (wn rfl) rfl rfl (py_load Tryz.underlying2 rfl rfl (cell_atL (H2.box 0 rfl) rfl)) (s_val (wn rfl) rfl rfl (py_field Tryz.underlying50 rfl Tryz.sizeOf2 rfl rfl) (s_val (wn rfl) rfl rfl (py_load Tryz.underlying2 rfl rfl (cell_atL (H2.box 1 rfl) rfl)) (s_val (wn rfl) rfl rfl (py_neq rfl rfl) ?_))))
  refine s_nil ?_
  refine W_ifd rfl (fun c1 => ?_) (fun c1 => ?_)
  · refine W_seq ?_
    refine W_reg ?_
    refine s_val (wn rfl) rfl rfl (py_assign rfl) ?_
    refine s_nil ?_
    refine W_ret (hQ _ _ (fin1 Tryz.results29 rfl ?_))
    refine ⟨H2.ext, ?_⟩
    rw [decide_eq_false (fun e => by subst e; first | exact c1 rfl | simp at c1)]
  · refine W_skip ?_
    refine W_seq ?_
    refine W_seq ?_
    refine W_reg ?_
    refine s_val (wn rfl) rfl rfl (py_field Tryz.underlying50 rfl Tryz.sizeOf25 rfl rfl) (s_val (wn rfl) rfl rfl (py_load Tryz.underlying25 rfl rfl (cell_atL (H2.box 0 rfl) rfl)) (s_val (wn rfl) rfl rfl (py_field Tryz.underlying50 rfl Tryz.sizeOf25 rfl rfl) (s_val (wn rfl) rfl rfl (py_load Tryz.underlying25 rfl rfl (cell_atL (H2.box 1 rfl) rfl)) ?_)))
    refine s_call (wn rfl) rfl rfl (pc_call Tryz.func80 rfl Tryz_nm80 rfl) (Tryz_laws_eqInt64S (H2.sees 0 rfl) (H2.sees 1 rfl)) (fun v1 w3 r1 => ?_)
    obtain ⟨e3, rfl⟩ := r1
    have H3 := H2.to e3
    refine s_val (wn rfl) rfl rfl (py_not rfl) ?_
    refine s_nil ?_
    refine W_if rfl (fun c2 => ?_) (fun c2 => ?_)
    · refine W_seq ?_
      refine W_reg ?_
      refine s_val (wn rfl) rfl rfl (py_assign rfl) ?_
      refine s_nil ?_
      refine W_ret (hQ _ _ (fin1 Tryz.results29 rfl ?_))
      refine ⟨H3.ext, ?_⟩
      rw [decide_eq_false (fun e => by subst e; first | exact c2 rfl | simp at c2)]
    · refine W_skip ?_
      refine W_seq ?_
      refine W_reg ?_
      refine s_val (wn rfl) rfl rfl (py_assign rfl) ?_
      refine s_nil ?_
      refine W_ret (hQ _ _ (fin1 Tryz.results29 rfl ?_))
      refine ⟨H3.ext, ?_⟩
      rw [decide_eq_true]
      cases a; cases b; simp_all
theorem Tryz_laws_markBytesResult {w : World} {xs : List UInt8} {xsA : Option Addr} {xsC : Nat} {c k : Int} {fp : List Nat} (o : own true w [.slice xsA xs.length xsC] xs fp) (nd : fp.Nodup) (hk : 0 ≤ k ∧ k + xs.length ≤ 4611686018427387904) : Ret Tryz.prog 48 #[.agg #[.int .i64 c, .slice xsA xs.length xsC], .int .i64 k] w fun v w' => (v = .int .i64 (k + xs.length) ∧ ∃ xs', Mut w w' fp [.slice xsA xs.length xsC] xs' ∧ xs'.length = xs.length ∧ MarkB xs' k) := by
  refine ret_Q (vs := [.agg #[.int .i64 c, .slice xsA xs.length xsC], .int .i64 k]) Tryz.func48 rfl Tryz.ntmps48 rfl (fun Q hQ hN => ?_)
  have H0 := Sep.begin o nd
  refine W_seq ?_
  refine W_reg ?_
  refine s_box (wn rfl) rfl rfl H0 (fun b1 w1 e1 g1 H1 => ?_)
  refine s_val (wn rfl) rfl rfl (py_assign rfl) ?_
  refine s_nil ?_
  refine W_seq ?_
  refine W_reg ?_
  refine s_val (wn rfl) rfl rfl (py_field Tryz.underlying72 rfl Tryz.sizeOf61 rfl rfl) (s_val (wn rfl) rfl rfl (py_load Tryz.underlying61 rfl rfl (cell_atL (H1.box 1 rfl) rfl)) (s_val (wn rfl) rfl rfl (py_move rfl) ?_))
  refine s_call (wn rfl) rfl rfl (pc_call Tryz.func56 rfl Tryz_nm56 rfl) (Tryz_laws_markByteS (H1.mine 0 rfl) (H1.nodup1 (i := 0) rfl) (by constructor <;> omega)) (fun v1 w2 r1 => ?_)
  obtain ⟨rfl, mx1, mm1, ml1, mk1⟩ := r1
  obtain ⟨fp1, H2⟩ := H1.mut 0 rfl mm1
  try dsimp only [List.nil_append, List.cons_append, List.set_cons_zero, List.set_cons_succ] at H2
  refine s_val (wn rfl) rfl rfl (py_assign rfl) ?_
  refine s_nil ?_
  refine W_seq ?_
  refine W_reg ?_
  refine s_val (wn rfl) rfl rfl (py_move rfl) (s_val (wn rfl) rfl rfl (py_assign rfl) ?_)
  refine s_nil ?_
  refine W_ret (hQ _ _ (fin1 Tryz.results48 rfl ?_))
  have hz := H2.dtake 1
  exact ⟨rfl, _, hz.done, ml1, mk1⟩
theorem Tryz_laws_heldBytesResult {w : World} {xs : List UInt8} {xsA : Option Addr} {n xsC : Nat} {c k : Int} (xsS : Sees w [.slice xsA n xsC] xs) (hk : 0 ≤ k ∧ k + xs.length ≤ 4611686018427387904) (hm : MarkB xs k) : Ret Tryz.prog 49 #[.agg #[.int .i64 c, .slice xsA n xsC], .int .i64 k] w fun v w' => Ext No w w' ∧ (v = .int .i64 (k + xs.length)) := by
  obtain ⟨xsF, xsO⟩ := xsS
  obtain rfl := own_n xsO
  refine ret_Q (vs := [.agg #[.int .i64 c, .slice xsA xs.length xsC], .int .i64 k]) Tryz.func49 rfl Tryz.ntmps49 rfl (fun Q hQ hN => ?_)
  have H0 := Sep.start (w := w) (F := [seen false [.slice xsA xs.length xsC] xs xsF]) (all_cons xsO (by simp))
  refine W_seq ?_
  refine W_reg ?_
  refine s_box (wn rfl) rfl rfl H0 (fun b1 w1 e1 g1 H1 => ?_)
  refine s_val (wn rfl) rfl rfl (py_assign rfl) ?_
  refine s_nil ?_
  refine W_seq ?_
  refine W_reg ?_
  refine s_val (wn rfl) rfl rfl (py_field Tryz.underlying72 rfl Tryz.sizeOf61 rfl rfl) (s_val (wn rfl) rfl rfl (py_load Tryz.underlying61 rfl rfl (cell_atL (H1.box 0 rfl) rfl)) (s_val (wn rfl) rfl rfl (py_move rfl) ?_))
  refine s_call (wn rfl) rfl rfl (pc_call Tryz.func115 rfl Tryz_nm115 rfl) (Tryz_laws_heldByteS (H1.sees 0 rfl) (by constructor <;> omega) (by assumption)) (fun v1 w2 r1 => ?_)
  obtain ⟨e2, rfl⟩ := r1
  have H2 := H1.to e2
  refine s_val (wn rfl) rfl rfl (py_assign rfl) ?_
  refine s_nil ?_
  refine W_seq ?_
  refine W_seq ?_
  refine W_reg ?_
  refine s_val (wn rfl) rfl rfl (py_move rfl) (s_val (wn rfl) rfl rfl (py_lss rfl rfl) ?_)
  refine s_nil ?_
  refine W_ifd rfl (fun c1 => ?_) (fun c1 => ?_)
  · refine W_seq ?_
    refine W_reg ?_
    refine s_val (wn rfl) rfl rfl (py_assign rfl) ?_
    refine s_nil ?_
    refine W_ret (hQ _ _ (fin1 Tryz.results49 rfl ?_))
    exact absurd c1 (by omega)
  · refine W_skip ?_
    refine W_seq ?_
    refine W_reg ?_
    refine s_val (wn rfl) rfl rfl (py_move rfl) (s_val (wn rfl) rfl rfl (py_assign rfl) ?_)
    refine s_nil ?_
    refine W_ret (hQ _ _ (fin1 Tryz.results49 rfl ?_))
    exact ⟨H2.ext, rfl⟩
theorem Tryz_laws_eqBytesResult {w : World} {a : BytesResult} {aA1 : Option Addr} {aC1 : Nat} {b : BytesResult} {bA1 : Option Addr} {bC1 : Nat} (aK : a.Ok) (aS1 : Sees w [.slice aA1 a.Bytes.length aC1] a.Bytes) (bK : b.Ok) (bS1 : Sees w [.slice bA1 b.Bytes.length bC1] b.Bytes) : Ret Tryz.prog 47 #[a.val aA1 aC1, b.val bA1 bC1] w fun v w' => Ext No w w' ∧ (v = .bool (decide (a = b))) := by
  have aK2 := aK
  unfold BytesResult.Ok at aK2
  try unfold I64ok at aK2
  try unfold maxLen at aK2
  have aL1 := sees_len aS1
  unfold maxLen at aL1
  obtain ⟨aF1, aO1⟩ := aS1
  have bK2 := bK
  unfold BytesResult.Ok at bK2
  try unfold I64ok at bK2
  try unfold maxLen at bK2
  have bL1 := sees_len bS1
  unfold maxLen at bL1
  obtain ⟨bF1, bO1⟩ := bS1
  refine ret_Q (vs := [a.val aA1 aC1, b.val bA1 bC1]) Tryz.func47 rfl Tryz.ntmps47 rfl (fun Q hQ hN => ?_)
  have H0 := Sep.start (w := w) (F := [seen false [.slice aA1 a.Bytes.length aC1] a.Bytes aF1, seen false [.slice bA1 b.Bytes.length bC1] b.Bytes bF1]) (all_cons aO1 (all_cons bO1 (by simp)))
  refine W_seq ?_
  refine W_reg ?_
  refine s_box (wn rfl) rfl rfl H0 (fun b1 w1 e1 g1 H1 => ?_)
  refine s_box (wn rfl) rfl rfl H1 (fun b2 w2 e2 g2 H2 => ?_)
  refine s_val (wn rfl) rfl rfl (py_assign rfl) ?_
  refine s_nil ?_
  refine W_seq ?_
  refine W_seq ?_
  refine W_reg ?_
  refine s_val (wn rfl) rfl rfl (py_field Tryz.underlying72 rfl Tryz.sizeOf2 rfl rfl) (s_val (wn rfl) rfl rfl (py_load Tryz.underlying2 rfl rfl (cell_atL (H2.box 0 rfl) rfl)) (s_val (wn rfl) rfl rfl (py_field Tryz.underlying72 rfl Tryz.sizeOf2 rfl rfl) (s_val (wn rfl) rfl rfl (py_load Tryz.underlying2 rfl rfl (cell_atL (H2.box 1 rfl) rfl)) (s_val (wn rfl) rfl rfl (py_neq rfl rfl) ?_))))
  refine s_nil ?_
  refine W_ifd rfl (fun c1 => ?_) (fun c1 => ?_)
  · refine W_seq ?_
    refine W_reg ?_
    refine s_val (wn rfl) rfl rfl (py_assign rfl) ?_
    refine s_nil ?_
    refine W_ret (hQ _ _ (fin1 Tryz.results47 rfl ?_))
    refine ⟨H2.ext, ?_⟩
    rw [decide_eq_false (fun e => by subst e; first | exact c1 rfl | simp at c1)]
  · refine W_skip ?_
    refine W_seq ?_
    refine W_seq ?_
    refine W_reg ?_
    refine s_val (wn rfl) rfl rfl (py_field Tryz.underlying72 rfl Tryz.sizeOf61 rfl rfl) (s_val (wn rfl) rfl rfl (py_load Tryz.underlying61 rfl rfl (cell_atL (H2.box 0 rfl) rfl)) (s_val (wn rfl) rfl rfl (py_field Tryz.underlying72 rfl Tryz.sizeOf61 rfl rfl) (s_val (wn rfl) rfl rfl (py_load Tryz.underlying61 rfl rfl (cell_atL (H2.box 1 rfl) rfl)) ?_)))
    refine s_call (wn rfl) rfl rfl (pc_call Tryz.func55 rfl Tryz_nm55 rfl) (Tryz_laws_eqByteS (H2.sees 0 rfl) (H2.sees 1 rfl)) (fun v1 w3 r1 => ?_)
    obtain ⟨e3, rfl⟩ := r1
    have H3 := H2.to e3
    refine s_val (wn rfl) rfl rfl (py_not rfl) ?_
    refine s_nil ?_
    refine W_if rfl (fun c2 => ?_) (fun c2 => ?_)
    · refine W_seq ?_
      refine W_reg ?_
      refine s_val (wn rfl) rfl rfl (py_assign rfl) ?_
      refine s_nil ?_
      refine W_ret (hQ _ _ (fin1 Tryz.results47 rfl ?_))
      refine ⟨H3.ext, ?_⟩
      rw [decide_eq_false (fun e => by subst e; first | exact c2 rfl | simp at c2)]
    · refine W_skip ?_
      refine W_seq ?_
      refine W_reg ?_
      refine s_val (wn rfl) rfl rfl (py_assign rfl) ?_
      refine s_nil ?_
      refine W_ret (hQ _ _ (fin1 Tryz.results47 rfl ?_))
      refine ⟨H3.ext, ?_⟩
      rw [decide_eq_true]
      cases a; cases b; simp_all
end Go.Wk
