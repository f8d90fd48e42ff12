/-
  The functions walked, each once. (Printed by a program of mine.)
-/
import Derived.Test.YtceeelcijjkefaaGreatBase
import Derived.Test.YtceeelcijjkefaaGreatMark
import Derived.Test.YtceeelcijjkefaaGreatTicket
import Derived.Test.YtceeelcijjkefaaGreatWlH
set_option linter.unusedVariables false
set_option linter.unusedSimpArgs false
namespace Go.Wk
open Go.Proofs Rp
set_option maxRecDepth 10000
theorem Tryz_laws_eqShape {w : World} {s t : Shape}  : Ret Tryz.prog 78 #[s.v, t.v] w fun v w' => Ext No w w' ∧ (v = .bool (decide (s = t))) := by
  refine ret_Q (vs := [s.v, t.v]) Tryz.func78 rfl Tryz.ntmps78 rfl (fun Q hQ hN => ?_)
  have H0 := Sep.start (w := w) (F := []) (by simp)
  refine W_seq ?_
  refine W_reg ?_
  refine s_box (wn rfl) rfl rfl H0 (fun b1 w1 e1 g1 H1 => ?_)
  refine s_box (wn rfl) rfl rfl H1 (fun b2 w2 e2 g2 H2 => ?_)
  refine s_val (wn rfl) rfl rfl (py_assign rfl) ?_
  refine s_nil ?_
  refine W_seq ?_
  refine W_seq ?_
  refine W_reg ?_
  refine s_val (wn rfl) rfl rfl (py_field Tryz.underlying33 rfl Tryz.sizeOf2 rfl rfl) (s_val (wn rfl) rfl rfl (py_load Tryz.underlying2 rfl rfl (cell_atL (H2.box 0 rfl) rfl)) (s_val (wn rfl) rfl rfl (py_field Tryz.underlying33 rfl Tryz.sizeOf2 rfl rfl) (s_val (wn rfl) rfl rfl (py_load Tryz.underlying2 rfl rfl (cell_atL (H2.box 1 rfl) rfl)) (s_val (wn rfl) rfl rfl (py_neq rfl rfl) ?_))))
  refine s_nil ?_
  refine W_ifd rfl (fun c1 => ?_) (fun c1 => ?_)
  · refine W_seq ?_
    refine W_reg ?_
    refine s_val (wn rfl) rfl rfl (py_assign rfl) ?_
    refine s_nil ?_
    refine W_ret (hQ _ _ (fin1 Tryz.results78 rfl ?_))
    refine ⟨H2.ext, ?_⟩
    rw [decide_eq_false (fun e => by subst e; first | exact c1 rfl | simp at c1)]
  · refine W_skip ?_
    refine W_seq ?_
    refine W_seq ?_
    refine W_reg ?_
    refine s_val (wn rfl) rfl rfl (py_field Tryz.underlying33 rfl Tryz.sizeOf2 rfl rfl) (s_val (wn rfl) rfl rfl (py_load Tryz.underlying2 rfl rfl (cell_atL (H2.box 0 rfl) rfl)) (s_val (wn rfl) rfl rfl (py_field Tryz.underlying33 rfl Tryz.sizeOf2 rfl rfl) (s_val (wn rfl) rfl rfl (py_load Tryz.underlying2 rfl rfl (cell_atL (H2.box 1 rfl) rfl)) (s_val (wn rfl) rfl rfl (py_neq rfl rfl) ?_))))
    refine s_nil ?_
    refine W_ifd rfl (fun c2 => ?_) (fun c2 => ?_)
    · refine W_seq ?_
      refine W_reg ?_
      refine s_val (wn rfl) rfl rfl (py_assign rfl) ?_
      refine s_nil ?_
      refine W_ret (hQ _ _ (fin1 Tryz.results78 rfl ?_))
      refine ⟨H2.ext, ?_⟩
      rw [decide_eq_false (fun e => by subst e; first | exact c2 rfl | simp at c2)]
    · refine W_skip ?_
      refine W_seq ?_
      refine W_seq ?_
      refine W_reg ?_
      refine s_val (wn rfl) rfl rfl (py_field Tryz.underlying33 rfl Tryz.sizeOf2 rfl rfl) (s_val (wn rfl) rfl rfl (py_load Tryz.underlying2 rfl rfl (cell_atL (H2.box 0 rfl) rfl)) (s_val (wn rfl) rfl rfl (py_field Tryz.underlying33 rfl Tryz.sizeOf2 rfl rfl) (s_val (wn rfl) rfl rfl (py_load Tryz.underlying2 rfl rfl (cell_atL (H2.box 1 rfl) rfl)) (s_val (wn rfl) rfl rfl (py_neq rfl rfl) ?_))))
      refine s_nil ?_
      refine W_ifd rfl (fun c3 => ?_) (fun c3 => ?_)
      · refine W_seq ?_
        refine W_reg ?_
        refine s_val (wn rfl) rfl rfl (py_assign rfl) ?_
        refine s_nil ?_
        refine W_ret (hQ _ _ (fin1 Tryz.results78 rfl ?_))
        refine ⟨H2.ext, ?_⟩
        rw [decide_eq_false (fun e => by subst e; first | exact c3 rfl | simp at c3)]
      · refine W_skip ?_
        refine W_seq ?_
        refine W_seq ?_
        refine W_reg ?_
        refine s_val (wn rfl) rfl rfl (py_field Tryz.underlying33 rfl Tryz.sizeOf2 rfl rfl) (s_val (wn rfl) rfl rfl (py_load Tryz.underlying2 rfl rfl (cell_atL (H2.box 0 rfl) rfl)) (s_val (wn rfl) rfl rfl (py_field Tryz.underlying33 rfl Tryz.sizeOf2 rfl rfl) (s_val (wn rfl) rfl rfl (py_load Tryz.underlying2 rfl rfl (cell_atL (H2.box 1 rfl) rfl)) (s_val (wn rfl) rfl rfl (py_neq rfl rfl) ?_))))
        refine s_nil ?_
        refine W_ifd rfl (fun c4 => ?_) (fun c4 => ?_)
        · refine W_seq ?_
          refine W_reg ?_
          refine s_val (wn rfl) rfl rfl (py_assign rfl) ?_
          refine s_nil ?_
          refine W_ret (hQ _ _ (fin1 Tryz.results78 rfl ?_))
          refine ⟨H2.ext, ?_⟩
          rw [decide_eq_false (fun e => by subst e; first | exact c4 rfl | simp at c4)]
        · refine W_skip ?_
          refine W_seq ?_
          refine W_seq ?_
          refine W_reg ?_
          refine s_val (wn rfl) rfl rfl (py_field Tryz.underlying33 rfl Tryz.sizeOf2 rfl rfl) (s_val (wn rfl) rfl rfl (py_load Tryz.underlying2 rfl rfl (cell_atL (H2.box 0 rfl) rfl)) (s_val (wn rfl) rfl rfl (py_field Tryz.underlying33 rfl Tryz.sizeOf2 rfl rfl) (s_val (wn rfl) rfl rfl (py_load Tryz.underlying2 rfl rfl (cell_atL (H2.box 1 rfl) rfl)) (s_val (wn rfl) rfl rfl (py_neq rfl rfl) ?_))))
          refine s_nil ?_
          refine W_ifd rfl (fun c5 => ?_) (fun c5 => ?_)
          · refine W_seq ?_
            refine W_reg ?_
            refine s_val (wn rfl) rfl rfl (py_assign rfl) ?_
            refine s_nil ?_
            refine W_ret (hQ _ _ (fin1 Tryz.results78 rfl ?_))
            refine ⟨H2.ext, ?_⟩
            rw [decide_eq_false (fun e => by subst e; first | exact c5 rfl | simp at c5)]
          · refine W_skip ?_
            refine W_seq ?_
            refine W_seq ?_
            refine W_reg ?_
            refine s_val (wn rfl) rfl rfl (py_field Tryz.underlying33 rfl Tryz.sizeOf2 rfl rfl) (s_val (wn rfl) rfl rfl (py_load Tryz.underlying2 rfl rfl (cell_atL (H2.box 0 rfl) rfl)) (s_val (wn rfl) rfl rfl (py_field Tryz.underlying33 rfl Tryz.sizeOf2 rfl rfl) (s_val (wn rfl) rfl rfl (py_load Tryz.underlying2 rfl rfl (cell_atL (H2.box 1 rfl) rfl)) (s_val (wn rfl) rfl rfl (py_neq rfl rfl) ?_))))
            refine s_nil ?_
            refine W_ifd rfl (fun c6 => ?_) (fun c6 => ?_)
            · refine W_seq ?_
              refine W_reg ?_
              refine s_val (wn rfl) rfl rfl (py_assign rfl) ?_
              refine s_nil ?_
              refine W_ret (hQ _ _ (fin1 Tryz.results78 rfl ?_))
              refine ⟨H2.ext, ?_⟩
              rw [decide_eq_false (fun e => by subst e; first | exact c6 rfl | simp at c6)]
            · refine W_skip ?_
              refine W_seq ?_
              refine W_seq ?_
              refine W_reg ?_
              refine s_val (wn rfl) rfl rfl (py_field Tryz.underlying33 rfl Tryz.sizeOf2 rfl rfl) (s_val (wn rfl) rfl rfl (py_load Tryz.underlying2 rfl rfl (cell_atL (H2.box 0 rfl) rfl)) (s_val (wn rfl) rfl rfl (py_field Tryz.underlying33 rfl Tryz.sizeOf2 rfl rfl) (s_val (wn rfl) rfl rfl (py_load Tryz.underlying2 rfl rfl (cell_atL (H2.box 1 rfl) rfl)) (s_val (wn rfl) rfl rfl (py_neq rfl rfl) ?_))))
              refine s_nil ?_
              refine W_ifd rfl (fun c7 => ?_) (fun c7 => ?_)
              · refine W_seq ?_
                refine W_reg ?_
                refine s_val (wn rfl) rfl rfl (py_assign rfl) ?_
                refine s_nil ?_
                refine W_ret (hQ _ _ (fin1 Tryz.results78 rfl ?_))
                refine ⟨H2.ext, ?_⟩
                rw [decide_eq_false (fun e => by subst e; first | exact c7 rfl | simp at c7)]
              · refine W_skip ?_
                refine W_seq ?_
                refine W_seq ?_
                refine W_reg ?_
                refine s_val (wn rfl) rfl rfl (py_field Tryz.underlying33 rfl Tryz.sizeOf2 rfl rfl) (s_val (wn rfl) rfl rfl (py_load Tryz.underlying2 rfl rfl (cell_atL (H2.box 0 rfl) rfl)) (s_val (wn rfl) rfl rfl (py_field Tryz.underlying33 rfl Tryz.sizeOf2 rfl rfl) (s_val (wn rfl) rfl rfl (py_load Tryz.underlying2 rfl rfl (cell_atL (H2.box 1 rfl) rfl)) (s_val (wn rfl) rfl rfl (py_neq rfl rfl) ?_))))
                refine s_nil ?_
                refine W_ifd rfl (fun c8 => ?_) (fun c8 => ?_)
                · refine W_seq ?_
                  refine W_reg ?_
                  refine s_val (wn rfl) rfl rfl (py_assign rfl) ?_
                  refine s_nil ?_
                  refine W_ret (hQ _ _ (fin1 Tryz.results78 rfl ?_))
                  refine ⟨H2.ext, ?_⟩
                  rw [decide_eq_false (fun e => by subst e; first | exact c8 rfl | simp at c8)]
                · refine W_skip ?_
                  refine W_seq ?_
                  refine W_seq ?_
                  refine W_reg ?_
                  refine s_val (wn rfl) rfl rfl (py_field Tryz.underlying33 rfl Tryz.sizeOf2 rfl rfl) (s_val (wn rfl) rfl rfl (py_load Tryz.underlying2 rfl rfl (cell_atL (H2.box 0 rfl) rfl)) (s_val (wn rfl) rfl rfl (py_field Tryz.underlying33 rfl Tryz.sizeOf2 rfl rfl) (s_val (wn rfl) rfl rfl (py_load Tryz.underlying2 rfl rfl (cell_atL (H2.box 1 rfl) rfl)) (s_val (wn rfl) rfl rfl (py_neq rfl rfl) ?_))))
                  refine s_nil ?_
                  refine W_ifd rfl (fun c9 => ?_) (fun c9 => ?_)
                  · refine W_seq ?_
                    refine W_reg ?_
                    refine s_val (wn rfl) rfl rfl (py_assign rfl) ?_
                    refine s_nil ?_
                    refine W_ret (hQ _ _ (fin1 Tryz.results78 rfl ?_))
                    refine ⟨H2.ext, ?_⟩
                    rw [decide_eq_false (fun e => by subst e; first | exact c9 rfl | simp at c9)]
                  · refine W_skip ?_
                    refine W_seq ?_
                    refine W_reg ?_
                    refine s_val (wn rfl) rfl rfl (py_assign rfl) ?_
                    refine s_nil ?_
                    refine W_ret (hQ _ _ (fin1 Tryz.results78 rfl ?_))
                    refine ⟨H2.ext, ?_⟩
                    rw [decide_eq_true]
                    cases s; cases t; simp_all [str_beq]
theorem Tryz_laws_szBlock {w : World} {x : Block} {xA1 : Option Addr} {xC1 : Nat} {l : Int} (xK : x.Ok) (xS1 : Sees w [.slice xA1 x.Bytes.length xC1] x.Bytes) (hl : -1 ≤ l ∧ l ≤ 1048576) : Ret Tryz.prog 292 #[x.val xA1 xC1, .int .i64 l] w fun v w' => Ext No w w' ∧ (v = .int .i64 (if l - szBlock x < 0 then -1 else l - szBlock x)) := by
  have xK2 := xK
  unfold Block.Ok at xK2
  try unfold I64ok at xK2
  try unfold maxLen at xK2
  have xL1 := sees_len xS1
  unfold maxLen at xL1
  obtain ⟨xF1, xO1⟩ := xS1
  refine ret_Q (vs := [x.val xA1 xC1, .int .i64 l]) Tryz.func292 rfl Tryz.ntmps292 rfl (fun Q hQ hN => ?_)
  have H0 := Sep.start (w := w) (F := [seen false [.slice xA1 x.Bytes.length xC1] x.Bytes xF1]) (all_cons xO1 (by simp))
  refine W_seq ?_
  refine W_reg ?_
  refine s_box (wn rfl) rfl rfl H0 (fun b1 w1 e1 g1 H1 => ?_)
  refine s_val (wn rfl) rfl rfl (py_assign rfl) ?_
  refine s_nil ?_
  refine W_seq ?_
  refine W_reg ?_
  refine s_val (wn rfl) rfl rfl (py_field Tryz.underlying260 rfl Tryz.sizeOf61 rfl rfl) (s_val (wn rfl) rfl rfl (py_load Tryz.underlying61 rfl rfl (cell_atL (H1.box 0 rfl) rfl)) (s_val (wn rfl) rfl rfl (py_move rfl) ?_))
  refine s_call (wn rfl) rfl rfl (pc_call Tryz.func107 rfl Tryz_nm107 rfl) (Tryz_laws_szByteS (H1.sees 0 rfl) (by omega)) (fun v1 w2 r1 => ?_)
  obtain ⟨e2, rfl⟩ := r1
  have H2 := H1.to e2
  refine s_val (wn rfl) rfl rfl (py_assign rfl) ?_
  refine s_nil ?_
  refine W_seq ?_
  refine W_seq ?_
  refine W_reg ?_
  refine s_val (wn rfl) rfl rfl (py_move rfl) (s_val (wn rfl) rfl rfl (py_lss rfl rfl) ?_)
  refine s_nil ?_
  refine W_ifd rfl (fun c1 => ?_) (fun c1 => ?_)
  · refine W_seq ?_
    refine W_reg ?_
    refine s_val (wn rfl) rfl rfl (py_assign rfl) ?_
    refine s_nil ?_
    refine W_ret (hQ _ _ (fin1 Tryz.results292 rfl ?_))
    exact ⟨H2.ext, congrArg (Value.int .i64) (by unfold szBlock; omega)⟩
  · refine W_skip ?_
    refine W_seq ?_
    refine W_reg ?_
    refine s_val (wn rfl) rfl rfl (py_move rfl) (s_val (wn rfl) rfl rfl (py_assign rfl) ?_)
    refine s_nil ?_
    refine W_ret (hQ _ _ (fin1 Tryz.results292 rfl ?_))
    exact ⟨H2.ext, congrArg (Value.int .i64) (by unfold szBlock; omega)⟩
theorem Tryz_laws_toBlock {w : World} {x : Block} {xA1 : Option Addr} {xC1 : Nat} (xK : x.Ok) (xS1 : Sees w [.slice xA1 x.Bytes.length xC1] x.Bytes) (hb : szBlock x ≤ 1048576) : Ret Tryz.prog 293 #[x.val xA1 xC1] w fun v w' => Ext No w w' ∧ (∃ A1 C1, v = x.val A1 C1 ∧ Res w w' [.int .i64 x.Stamp, .slice A1 x.Bytes.length C1] x) := by
  have xK2 := xK
  unfold Block.Ok at xK2
  try unfold I64ok at xK2
  try unfold maxLen at xK2
  have xL1 := sees_len xS1
  unfold maxLen at xL1
  obtain ⟨xF1, xO1⟩ := xS1
  unfold szBlock at hb
  refine ret_Q (vs := [x.val xA1 xC1]) Tryz.func293 rfl Tryz.ntmps293 rfl (fun Q hQ hN => ?_)
  have H0 := Sep.start (w := w) (F := [seen false [.slice xA1 x.Bytes.length xC1] x.Bytes xF1]) (all_cons xO1 (by simp))
  refine W_seq ?_
  refine W_reg ?_
  refine s_box (wn rfl) rfl rfl H0 (fun b1 w1 e1 g1 H1 => ?_)
  refine s_var (wn rfl) rfl Tryz.zeroValue152 H1 (fun b2 w2 e2 g2 H2 => ?_)
  refine s_nil ?_
  refine W_seq ?_
  refine W_reg ?_
  refine s_var (wn rfl) rfl Tryz.zeroValue152 H2 (fun b3 w3 e3 g3 H3 => ?_)
  refine s_nil ?_
  refine W_seq ?_
  refine W_reg ?_
  refine s_val (wn rfl) rfl rfl (py_field Tryz.underlying260 rfl Tryz.sizeOf2 rfl rfl) (s_val (wn rfl) rfl rfl (py_load Tryz.underlying2 rfl rfl (cell_atL (H3.box 0 rfl) rfl)) (s_val (wn rfl) rfl rfl (py_field Tryz.underlying152 rfl Tryz.sizeOf2 rfl rfl) ?_))
  refine s_sto (wn rfl) Tryz.sizeOf2 rfl rfl rfl H3 2 rfl rfl (fun w4 e4 H4 => ?_)
  dsimp only [List.nil_append, List.cons_append, List.set_cons_zero, List.set_cons_succ, layL] at H4
  refine s_nil ?_
  refine W_seq ?_
  refine W_reg ?_
  refine s_val (wn rfl) rfl rfl (py_field Tryz.underlying260 rfl Tryz.sizeOf61 rfl rfl) (s_val (wn rfl) rfl rfl (py_load Tryz.underlying61 rfl rfl (cell_atL (H4.box 0 rfl) rfl)) ?_)
  refine s_call (wn rfl) rfl rfl (pc_call Tryz.func53 rfl Tryz_nm53 rfl) (Tryz_laws_toByteS (H4.sees 0 rfl) (by omega)) (fun v1 w5 r1 => ?_)
  obtain ⟨e5, r1⟩ := r1
  obtain ⟨fp1, H5⟩ := H4.res e5 r1
  obtain ⟨a1, k1, q1⟩ := own_slice (H5.mine 3 rfl)
  cases q1
  refine s_val (wn rfl) rfl rfl (py_field Tryz.underlying152 rfl Tryz.sizeOf61 rfl rfl) ?_
  refine s_sto (wn rfl) Tryz.sizeOf61 rfl rfl rfl H5 2 rfl rfl (fun w6 e6 H6 => ?_)
  dsimp only [List.nil_append, List.cons_append, List.set_cons_zero, List.set_cons_succ, layL] at H6
  refine s_nil ?_
  refine W_seq ?_
  refine W_reg ?_
  refine s_val (wn rfl) rfl rfl (py_loadS Tryz.underlying152 rfl Tryz.sizeOf152 rfl rfl (At.whole (H6.box 2 rfl))) ?_
  refine s_stoS (wn rfl) Tryz.sizeOf152 rfl rfl rfl rfl H6 1 rfl rfl (fun w7 e7 H7 => ?_)
  dsimp only [List.nil_append, List.cons_append, List.set_cons_zero, List.set_cons_succ, layL] at H7
  refine s_nil ?_
  refine W_ret (hQ _ _ (finC Tryz.results293 rfl (run_loadVarS Tryz.underlying152 rfl Tryz.sizeOf152 rfl (At.whole (H7.box 1 rfl))) ?_))
  exact ⟨H7.ext, _, _, rfl, Block.out (H7.sub (.cons _ (.cons _ (.cons _ (.cons_cons _ List.Sublist.slnil))))) xK⟩
theorem Tryz_laws_eqBlock {w : World} {a : Block} {aA1 : Option Addr} {aC1 : Nat} {b : Block} {bA1 : Option Addr} {bC1 : Nat} (aK : a.Ok) (aS1 : Sees w [.slice aA1 a.Bytes.length aC1] a.Bytes) (bK : b.Ok) (bS1 : Sees w [.slice bA1 b.Bytes.length bC1] b.Bytes) : Ret Tryz.prog 294 #[a.val aA1 aC1, b.val bA1 bC1] w fun v w' => Ext No w w' ∧ (v = .bool (decide (a = b))) := by
  have aK2 := aK
  unfold Block.Ok at aK2
  try unfold I64ok at aK2
  try unfold maxLen at aK2
  have aL1 := sees_len aS1
  unfold maxLen at aL1
  obtain ⟨aF1, aO1⟩ := aS1
  have bK2 := bK
  unfold Block.Ok at bK2
  try unfold I64ok at bK2
  try unfold maxLen at bK2
  have bL1 := sees_len bS1
  unfold maxLen at bL1
  obtain ⟨bF1, bO1⟩ := bS1
  refine ret_Q (vs := [a.val aA1 aC1, b.val bA1 bC1]) Tryz.func294 rfl Tryz.ntmps294 rfl (fun Q hQ hN => ?_)
  have H0 := Sep.start (w := w) (F := [seen false [.slice aA1 a.Bytes.length aC1] a.Bytes aF1, seen false [.slice bA1 b.Bytes.length bC1] b.Bytes bF1]) (all_cons aO1 (all_cons bO1 (by simp)))
  refine W_seq ?_
  refine W_reg ?_
  refine s_box (wn rfl) rfl rfl H0 (fun b1 w1 e1 g1 H1 => ?_)
  refine s_box (wn rfl) rfl rfl H1 (fun b2 w2 e2 g2 H2 => ?_)
  refine s_val (wn rfl) rfl rfl (py_assign rfl) ?_
  refine s_nil ?_
  refine W_seq ?_
  refine W_seq ?_
  refine W_reg ?_
  refine s_val (wn rfl) rfl rfl (py_field Tryz.underlying152 rfl Tryz.sizeOf2 rfl rfl) (s_val (wn rfl) rfl rfl (py_load Tryz.underlying2 rfl rfl (cell_atL (H2.box 0 rfl) rfl)) (s_val (wn rfl) rfl rfl (py_field Tryz.underlying152 rfl Tryz.sizeOf2 rfl rfl) (s_val (wn rfl) rfl rfl (py_load Tryz.underlying2 rfl rfl (cell_atL (H2.box 1 rfl) rfl)) (s_val (wn rfl) rfl rfl (py_neq rfl rfl) ?_))))
  refine s_nil ?_
  refine W_ifd rfl (fun c1 => ?_) (fun c1 => ?_)
  · refine W_seq ?_
    refine W_reg ?_
    refine s_val (wn rfl) rfl rfl (py_assign rfl) ?_
    refine s_nil ?_
    refine W_ret (hQ _ _ (fin1 Tryz.results294 rfl ?_))
    refine ⟨H2.ext, ?_⟩
    rw [decide_eq_false (fun e => by subst e; first | exact c1 rfl | simp at c1)]
  · refine W_skip ?_
    refine W_seq ?_
    refine W_seq ?_
    refine W_reg ?_
    refine s_val (wn rfl) rfl rfl (py_field Tryz.underlying152 rfl Tryz.sizeOf61 rfl rfl) (s_val (wn rfl) rfl rfl (py_load Tryz.underlying61 rfl rfl (cell_atL (H2.box 0 rfl) rfl)) (s_val (wn rfl) rfl rfl (py_field Tryz.underlying152 rfl Tryz.sizeOf61 rfl rfl) (s_val (wn rfl) rfl rfl (py_load Tryz.underlying61 rfl rfl (cell_atL (H2.box 1 rfl) rfl)) ?_)))
    refine s_call (wn rfl) rfl rfl (pc_call Tryz.func55 rfl Tryz_nm55 rfl) (Tryz_laws_eqByteS (H2.sees 0 rfl) (H2.sees 1 rfl)) (fun v1 w3 r1 => ?_)
    obtain ⟨e3, rfl⟩ := r1
    have H3 := H2.to e3
    refine s_val (wn rfl) rfl rfl (py_not rfl) ?_
    refine s_nil ?_
    refine W_if rfl (fun c2 => ?_) (fun c2 => ?_)
    · refine W_seq ?_
      refine W_reg ?_
      refine s_val (wn rfl) rfl rfl (py_assign rfl) ?_
      refine s_nil ?_
      refine W_ret (hQ _ _ (fin1 Tryz.results294 rfl ?_))
      refine ⟨H3.ext, ?_⟩
      rw [decide_eq_false (fun e => by subst e; first | exact c2 rfl | simp at c2)]
    · refine W_skip ?_
      refine W_seq ?_
      refine W_reg ?_
      refine s_val (wn rfl) rfl rfl (py_assign rfl) ?_
      refine s_nil ?_
      refine W_ret (hQ _ _ (fin1 Tryz.results294 rfl ?_))
      refine ⟨H3.ext, ?_⟩
      rw [decide_eq_true]
      cases a; cases b; simp_all [str_beq]
theorem Tryz_laws_szBlockS {w : World} {xs : List Block} {xsA : Option Addr} {xsC : Nat} {l : Int} (xsS : Sees w [.slice xsA xs.length xsC] xs) (hl : -1 ≤ l ∧ l ≤ 1048576) : Ret Tryz.prog 267 #[.slice xsA xs.length xsC, .int .i64 l] w fun v w' => Ext No w w' ∧ (v = .int .i64 (if l - szL szBlock xs < 0 then -1 else l - szL szBlock xs)) := by
  have xsL := sees_len xsS
  unfold maxLen at xsL
  obtain ⟨xsF, xsO⟩ := xsS
  refine ret_Q (vs := [.slice xsA xs.length xsC, .int .i64 l]) Tryz.func267 rfl Tryz.ntmps267 rfl (fun Q hQ hN => ?_)
  have H0 := Sep.start (w := w) (F := [seen false [.slice xsA xs.length xsC] xs xsF]) (all_cons xsO (by simp))
  refine W_seq ?_
  refine W_reg ?_
  refine s_val (wn rfl) rfl rfl (py_assign rfl) ?_
  refine s_nil ?_
  refine W_seq ?_
  refine W_reg ?_
  refine s_val (wn rfl) rfl rfl (py_move rfl) (s_val (wn rfl) rfl rfl (py_move rfl) (s_val (wn rfl) rfl rfl (py_len Tryz.underlying199 rfl) (s_val (wn rfl) rfl rfl (py_sub rfl rfl (in64 ⟨by omega, by omega⟩)) (s_val (wn rfl) rfl rfl (py_assign rfl) ?_))))
  refine s_nil ?_
  refine W_seq ?_
  refine W_seq ?_
  refine W_reg ?_
  refine s_val (wn rfl) rfl rfl (py_move rfl) (s_val (wn rfl) rfl rfl (py_lss rfl rfl) ?_)
  refine s_nil ?_
  refine W_ifd rfl (fun c1 => ?_) (fun c1 => ?_)
  · refine W_seq ?_
    refine W_reg ?_
    refine s_val (wn rfl) rfl rfl (py_assign rfl) ?_
    refine s_nil ?_
    refine W_ret (hQ _ _ (fin1 Tryz.results267 rfl ?_))
    exact ⟨H0.ext, by rw [if_pos (by rw [szL_eq (f := szBlock)]; omega)]⟩
  · refine W_skip ?_
    refine W_seq ?_
    refine W_seq ?_
    refine W_reg ?_
    refine s_val (wn rfl) rfl rfl (py_assign rfl) ?_
    refine s_nil ?_
    refine W_block ?_
    refine W_loop (γ := Nat × Int) (fun (k, m) => [(0, .slice xsA xs.length xsC), (1, .int .i64 m), (5, .int .i64 k)]) (fun (k, m) w' => Sep No w [] [seen false [.slice xsA xs.length xsC] xs xsF] w' ∧ k ≤ xs.length ∧ 0 ≤ m ∧ m = l - xs.length - sumN (fun i => szBlock (xs.getD i default)) k) (fun (k, m) => xs.length - k) (0, _) ⟨rfl, rfl, rfl, trivial⟩ ⟨H0, by omega, by omega, by simp only [sumN]; omega⟩ (fun (k, m) w1 H1 => ?_)
    obtain ⟨H1, hk, hm, hs⟩ := H1
    refine W_seq ?_
    refine W_seq ?_
    refine W_reg ?_
    refine s_val (wn rfl) rfl rfl (py_move rfl) (s_val (wn rfl) rfl rfl (py_move rfl) (s_val (wn rfl) rfl rfl (py_len Tryz.underlying199 rfl) (s_val (wn rfl) rfl rfl (py_lss rfl rfl) ?_)))
    refine s_nil ?_
    refine W_ifd rfl (fun c2 => ?_) (fun c2 => ?_)
    · refine W_skip ?_
      refine W_seq ?_
      refine W_block ?_
      refine W_seq ?_
      obtain ⟨eb1, eo1, es1, ef1, ee1, ec1, eO1, eH1, em1⟩ := elem_st (H1.seen 0 rfl) k (by omega)
      obtain ⟨ea1, ek1, eg1, rfl, eq1, eK1, eo2⟩ := own_Block eO1
      have eK1U := eK1
      unfold Block.Ok at eK1U
      try unfold I64ok at eK1U
      try unfold maxLen at eK1U
      have eP1 := H1.look1 0 rfl eo2 (fun b hb => eH1 b (by rw [eq1]; simp [hb]))
      have eL1 := own_len_le eo2
      unfold maxLen at eL1
      refine W_reg ?_
      refine s_val (wn rfl) rfl rfl (py_move rfl) (s_val (wn rfl) rfl rfl (py_move rfl) (s_val (wn rfl) rfl rfl (py_elz Tryz.underlying199 Tryz.sizeOf260 rfl rfl ee1 k (by omega) (by omega)) (s_val (wn rfl) rfl rfl (py_loadS Tryz.underlying260 rfl Tryz.sizeOf260 rfl rfl ec1) (s_val (wn rfl) rfl rfl (py_move rfl) ?_))))
      refine s_call (wn rfl) rfl rfl (pc_call Tryz.func292 rfl Tryz_nm292 rfl) (Tryz_laws_szBlock (by assumption) (eP1.sees 1 rfl) (by omega)) (fun v1 w2 r1 => ?_)
      obtain ⟨e1, rfl⟩ := r1
      have H2 := eP1.to e1
      refine s_val (wn rfl) rfl rfl (py_assign rfl) ?_
      refine s_nil ?_
      refine W_seq ?_
      refine W_reg ?_
      refine s_val (wn rfl) rfl rfl (py_move rfl) (s_val (wn rfl) rfl rfl (py_lss rfl rfl) ?_)
      refine s_nil ?_
      refine W_ifd rfl (fun c3 => ?_) (fun c3 => ?_)
      · refine W_seq ?_
        refine W_reg ?_
        refine s_val (wn rfl) rfl rfl (py_assign rfl) ?_
        refine s_nil ?_
        refine W_ret (hQ _ _ (fin1 Tryz.results267 rfl ?_))
        have sg : sumN (fun i => szBlock (xs.getD i default)) (k + 1) = sumN (fun i => szBlock (xs.getD i default)) k + szBlock (xs.getD k default) := rfl
        have sl := sumN_le (f := (fun i => szBlock (xs.getD i default))) (j := k + 1) (k := xs.length) (by omega)
        exact ⟨H2.ext, by rw [if_pos (by rw [szL_eq (f := szBlock)]; omega)]⟩
      · refine W_skip ?_
        refine W_reg ?_
        refine s_val (wn rfl) rfl rfl (py_move rfl) (s_val (wn rfl) rfl rfl (py_add rfl rfl (in64 ⟨by omega, by omega⟩)) (s_val (wn rfl) rfl rfl (py_assign rfl) ?_))
        refine s_nil ?_
        have sg : sumN (fun i => szBlock (xs.getD i default)) (k + 1) = sumN (fun i => szBlock (xs.getD i default)) k + szBlock (xs.getD k default) := rfl
        refine ⟨(k + 1, _), ⟨rfl, rfl, rfl, trivial⟩, ⟨(H2.ftake 1), by omega, by omega, by omega⟩, by dsimp only; omega⟩
    · refine W_exit ?_
      refine W_seq ?_
      refine W_reg ?_
      refine s_val (wn rfl) rfl rfl (py_move rfl) (s_val (wn rfl) rfl rfl (py_assign rfl) ?_)
      refine s_nil ?_
      refine W_ret (hQ _ _ (fin1 Tryz.results267 rfl ?_))
      obtain rfl : k = xs.length := by omega
      exact ⟨H1.ext, congrArg (Value.int .i64) (by rw [szL_eq (f := szBlock)]; omega)⟩
theorem Tryz_laws_toBlockS {w : World} {xs : List Block} {xsA : Option Addr} {xsC : Nat} (xsS : Sees w [.slice xsA xs.length xsC] xs) (hl : szL szBlock xs ≤ 1048576) : Ret Tryz.prog 268 #[.slice xsA xs.length xsC] w fun v w' => Ext No w w' ∧ (Res w w' [v] xs) := by
  have xsL := sees_len xsS
  unfold maxLen at xsL
  obtain ⟨xsF, xsO⟩ := xsS
  have hl0 : xs.length ≤ 1048576 := by unfold szL at hl; omega
  refine ret_Q (vs := [.slice xsA xs.length xsC]) Tryz.func268 rfl Tryz.ntmps268 rfl (fun Q hQ hN => ?_)
  have H0 := Sep.start (w := w) (F := [seen false [.slice xsA xs.length xsC] xs xsF]) (all_cons xsO (by simp))
  refine W_seq ?_
  refine W_reg ?_
  refine s_val (wn rfl) rfl rfl (py_assign rfl) ?_
  refine s_nil ?_
  refine W_seq ?_
  refine W_reg ?_
  refine s_val (wn rfl) rfl rfl (py_move rfl) (s_val (wn rfl) rfl rfl (py_len Tryz.underlying199 rfl) ?_)
  refine s_make (wn rfl) rfl Tryz.underlying148 Tryz_ty152 (show ∀ w, own true w (Value.agg #[.int .i64 0, .slice none 0 0]).cells.toList (default : Block) [] from fun _ => own_zBlock) rfl (by omega) (by unfold maxLen; omega) H0 (fun b1 w1 e1 g1 H1 => ?_)
  refine s_val (wn rfl) rfl rfl (py_assign rfl) ?_
  refine s_nil ?_
  refine W_seq ?_
  refine W_seq ?_
  refine W_reg ?_
  refine s_val (wn rfl) rfl rfl (py_assign rfl) ?_
  refine s_nil ?_
  refine W_block ?_
  refine W_loop (γ := Nat × List Nat) (fun (k, fp) => [(0, .slice xsA xs.length xsC), (3, .slice (some ⟨b1, 0, none⟩) xs.length xs.length), (4, .int .i64 k)]) (fun (k, fp) w' => Sep No w [mine [.slice (some ⟨b1, 0, none⟩) xs.length xs.length] (cp xs k default) fp] [seen false [.slice xsA xs.length xsC] xs xsF] w' ∧ k ≤ xs.length) (fun (k, fp) => xs.length - k) (0, [b1]) ⟨rfl, rfl, rfl, trivial⟩ ⟨cp_zero ▸ H1, by omega⟩ (fun (k, fp) w2 H2 => ?_)
  obtain ⟨H2, hk⟩ := H2
  refine W_seq ?_
  refine W_seq ?_
  refine W_reg ?_
  refine s_val (wn rfl) rfl rfl (py_move rfl) (s_val (wn rfl) rfl rfl (py_move rfl) (s_val (wn rfl) rfl rfl (py_len Tryz.underlying199 rfl) (s_val (wn rfl) rfl rfl (py_lss rfl rfl) ?_)))
  refine s_nil ?_
  refine W_ifd rfl (fun c1 => ?_) (fun c1 => ?_)
  · refine W_skip ?_
    refine W_seq ?_
    refine W_block ?_
    obtain ⟨hg, hg2⟩ := szL_get hl k (by omega)
    obtain ⟨eb1, eo1, es1, ef1, ee1, ec1, eO1, eH1, em1⟩ := elem_st (H2.seen 0 rfl) k (by omega)
    obtain ⟨ea1, ek1, eg1, rfl, eq1, eK1, eo2⟩ := own_Block eO1
    have eK1U := eK1
    unfold Block.Ok at eK1U
    try unfold I64ok at eK1U
    try unfold maxLen at eK1U
    have eP1 := H2.look1 0 rfl eo2 (fun b hb => eH1 b (by rw [eq1]; simp [hb]))
    have eL1 := own_len_le eo2
    unfold maxLen at eL1
    obtain ⟨eb2, eo3, ee2⟩ := own_addr (eP1.mine 0 rfl) k (by rw [cp_len (xs := xs) (k := k) (by omega)]; omega)
    refine W_reg ?_
    refine s_val (wn rfl) rfl rfl (py_move rfl) (s_val (wn rfl) rfl rfl (py_move rfl) (s_val (wn rfl) rfl rfl (py_move rfl) (s_val (wn rfl) rfl rfl (py_move rfl) (s_val (wn rfl) rfl rfl (py_elz Tryz.underlying199 Tryz.sizeOf260 rfl rfl ee1 k (by omega) (by omega)) (s_val (wn rfl) rfl rfl (py_loadS Tryz.underlying260 rfl Tryz.sizeOf260 rfl rfl ec1) ?_)))))
    refine s_call (wn rfl) rfl rfl (pc_call Tryz.func293 rfl Tryz_nm293 rfl) (Tryz_laws_toBlock (by assumption) (eP1.sees 1 rfl) (by assumption)) (fun v1 w3 r1 => ?_)
    obtain ⟨e2, sa1, sk1, rfl, r1⟩ := r1
    obtain ⟨fp1, H3⟩ := eP1.res e2 r1
    refine s_val (wn rfl) rfl rfl (py_elz Tryz.underlying148 Tryz.sizeOf152 rfl rfl ee2 k (by omega) (by omega)) ?_
    refine s_elst2S (wn rfl) Tryz.sizeOf152 H3 0 1 rfl rfl rfl k (by rw [cp_len (xs := xs) (k := k) (by omega)]; omega) rfl ee2 rfl (fun w4 fp2 H4 => ?_)
    refine s_nil ?_
    obtain ⟨hg, hg2⟩ := szL_get hl k (by omega)
    refine W_reg ?_
    refine s_val (wn rfl) rfl rfl (py_move rfl) (s_val (wn rfl) rfl rfl (py_add rfl rfl (in64 ⟨by omega, by omega⟩)) (s_val (wn rfl) rfl rfl (py_assign rfl) ?_))
    refine s_nil ?_
    refine ⟨(k + 1, _), ⟨rfl, rfl, rfl, trivial⟩, ⟨cp_set (xs := xs) (k := k) (d := default) (by omega) ▸ ((H4.ftake 1).dtake 1), by omega⟩, by dsimp only; omega⟩
  · refine W_exit ?_
    refine W_seq ?_
    refine W_reg ?_
    refine s_val (wn rfl) rfl rfl (py_move rfl) (s_val (wn rfl) rfl rfl (py_assign rfl) ?_)
    refine s_nil ?_
    refine W_ret (hQ _ _ (fin1 Tryz.results268 rfl ?_))
    obtain rfl : k = xs.length := by omega
    exact ⟨H2.ext, by
      have h := H2.out 0 rfl
      rwa [cp_all] at h⟩
theorem Tryz_laws_eqBlockS {w : World} {xs : List Block} {xsA : Option Addr} {xsC : Nat} {ys : List Block} {ysA : Option Addr} {ysC : Nat} (xsS : Sees w [.slice xsA xs.length xsC] xs) (ysS : Sees w [.slice ysA ys.length ysC] ys) : Ret Tryz.prog 269 #[.slice xsA xs.length xsC, .slice ysA ys.length ysC] w fun v w' => Ext No w w' ∧ (v = .bool (decide (xs = ys))) := by
  have xsL := sees_len xsS
  unfold maxLen at xsL
  obtain ⟨xsF, xsO⟩ := xsS
  have ysL := sees_len ysS
  unfold maxLen at ysL
  obtain ⟨ysF, ysO⟩ := ysS
  refine ret_Q (vs := [.slice xsA xs.length xsC, .slice ysA ys.length ysC]) Tryz.func269 rfl Tryz.ntmps269 rfl (fun Q hQ hN => ?_)
  have H0 := Sep.start (w := w) (F := [seen false [.slice xsA xs.length xsC] xs xsF, seen false [.slice ysA ys.length ysC] ys ysF]) (all_cons xsO (all_cons ysO (by simp)))
  refine W_seq ?_
  refine W_reg ?_
  refine s_val (wn rfl) rfl rfl (py_assign rfl) ?_
  refine s_nil ?_
  refine W_seq ?_
  refine W_seq ?_
  refine W_reg ?_
  refine s_val (wn rfl) rfl rfl (py_move rfl) (s_val (wn rfl) rfl rfl (py_len Tryz.underlying148 rfl) (s_val (wn rfl) rfl rfl (py_move rfl) (s_val (wn rfl) rfl rfl (py_len Tryz.underlying148 rfl) (s_val (wn rfl) rfl rfl (py_neq rfl rfl) ?_))))
  refine s_nil ?_
  refine W_ifd rfl (fun c1 => ?_) (fun c1 => ?_)
  · refine W_seq ?_
    refine W_reg ?_
    refine s_val (wn rfl) rfl rfl (py_assign rfl) ?_
    refine s_nil ?_
    refine W_ret (hQ _ _ (fin1 Tryz.results269 rfl ?_))
    refine ⟨H0.ext, ?_⟩
    rw [decide_eq_false (fun e => by subst e; exact c1 rfl)]
  · refine W_skip ?_
    refine W_seq ?_
    refine W_seq ?_
    refine W_reg ?_
    refine s_val (wn rfl) rfl rfl (py_assign rfl) ?_
    refine s_nil ?_
    refine W_block ?_
    refine W_loop (γ := Nat) (fun k => [(0, .slice xsA xs.length xsC), (1, .slice ysA ys.length ysC), (5, .int .i64 k)]) (fun k w' => Sep No w [] [seen false [.slice xsA xs.length xsC] xs xsF, seen false [.slice ysA ys.length ysC] ys ysF] w' ∧ k ≤ xs.length ∧ (∀ i, i < k → xs.getD i default = ys.getD i default)) (fun k => xs.length - k) 0 ⟨rfl, rfl, rfl, trivial⟩ ⟨H0, by omega, fun i hi => by omega⟩ (fun k w1 H1 => ?_)
    obtain ⟨H1, hk, he⟩ := H1
    refine W_seq ?_
    refine W_seq ?_
    refine W_reg ?_
    refine s_val (wn rfl) rfl rfl (py_move rfl) (s_val (wn rfl) rfl rfl (py_move rfl) (s_val (wn rfl) rfl rfl (py_len Tryz.underlying148 rfl) (s_val (wn rfl) rfl rfl (py_lss rfl rfl) ?_)))
    refine s_nil ?_
    refine W_ifd rfl (fun c2 => ?_) (fun c2 => ?_)
    · refine W_skip ?_
      refine W_seq ?_
      refine W_block ?_
      refine W_seq ?_
      obtain ⟨eb1, eo1, es1, ef1, ee1, ec1, eO1, eH1, em1⟩ := elem_st (H1.seen 0 rfl) k (by omega)
      obtain ⟨ea1, ek1, eg1, rfl, eq1, eK1, eo2⟩ := own_Block eO1
      have eK1U := eK1
      unfold Block.Ok at eK1U
      try unfold I64ok at eK1U
      try unfold maxLen at eK1U
      have eP1 := H1.look1 0 rfl eo2 (fun b hb => eH1 b (by rw [eq1]; simp [hb]))
      have eL1 := own_len_le eo2
      unfold maxLen at eL1
      obtain ⟨eb2, eo3, es2, ef2, ee2, ec2, eO2, eH2, em2⟩ := elem_st (eP1.seen 1 rfl) k (by omega)
      obtain ⟨ea2, ek2, eg2, rfl, eq2, eK2, eo4⟩ := own_Block eO2
      have eK2U := eK2
      unfold Block.Ok at eK2U
      try unfold I64ok at eK2U
      try unfold maxLen at eK2U
      have eP2 := eP1.look1 1 rfl eo4 (fun b hb => eH2 b (by rw [eq2]; simp [hb]))
      have eL2 := own_len_le eo4
      unfold maxLen at eL2
      refine W_drw (S := Ext No _) [(0, true), (1, true), (2, true), (3, true), (4, true), (5, true), (6, true), (7, true), (8, false), (9, false)] (by kernel_rfl) (by kernel_rfl) (by kernel_rfl) rfl (fun _ => Ext.refl.drawn _) (fun q1 => ?_)
      have H2 := eP2.drawn q1
      refine d_val rfl (wn rfl) rfl rfl (fun zw hx => py_move rfl) (d_val rfl (wn rfl) rfl rfl (fun zw hx => py_move rfl) (d_val rfl (wn rfl) rfl rfl (fun zw hx => py_elz Tryz.underlying148 Tryz.sizeOf152 rfl rfl ee1 k (by omega) (by omega)) (d_val rfl (wn rfl) rfl rfl (fun zw hx => py_loadS Tryz.underlying152 rfl Tryz.sizeOf152 rfl rfl (hx.at ec1)) (d_val rfl (wn rfl) rfl rfl (fun zw hx => py_move rfl) (d_val rfl (wn rfl) rfl rfl (fun zw hx => py_move rfl) (d_val rfl (wn rfl) rfl rfl (fun zw hx => py_elz Tryz.underlying148 Tryz.sizeOf152 rfl rfl ee2 k (by omega) (by omega)) (d_val rfl (wn rfl) rfl rfl (fun zw hx => py_loadS Tryz.underlying152 rfl Tryz.sizeOf152 rfl rfl (hx.at ec2)) ?_)))))))
      refine d_call rfl (wn rfl) rfl rfl (pc_call Tryz.func294 rfl Tryz_nm294 rfl) (Tryz_laws_eqBlock (by assumption) (H2.sees 2 rfl) (by assumption) (H2.sees 3 rfl)) (fun hS _ _ r _ => hS.trans r.1.no) (fun v1 w2 r1 => ?_)
      obtain ⟨e1, rfl⟩ := r1
      have H3 := H2.to e1
      refine d_end rfl (wn rfl) rfl rfl (py_not rfl) ?_
      refine d_nil ?_
      refine W_if rfl (fun c3 => ?_) (fun c3 => ?_)
      · refine W_seq ?_
        refine W_reg ?_
        refine s_val (wn rfl) rfl rfl (py_assign rfl) ?_
        refine s_nil ?_
        refine W_ret (hQ _ _ (fin1 Tryz.results269 rfl ?_))
        refine ⟨H3.ext, ?_⟩
        rw [decide_eq_false (fun e => by subst e; simp at c3)]
      · refine W_skip ?_
        refine W_reg ?_
        refine s_val (wn rfl) rfl rfl (py_move rfl) (s_val (wn rfl) rfl rfl (py_add rfl rfl (in64 ⟨by omega, by omega⟩)) (s_val (wn rfl) rfl rfl (py_assign rfl) ?_))
        refine s_nil ?_
        have c4 : xs.getD k default = ys.getD k default := by simpa using c3
        refine ⟨k + 1, ⟨rfl, rfl, rfl, trivial⟩, ⟨(H3.ftake 2), by omega, fun i hi => ?_⟩, by dsimp only; omega⟩
        by_cases e : i = k
        · subst e; exact c4
        · exact he i (by omega)
    · refine W_exit ?_
      refine W_seq ?_
      refine W_reg ?_
      refine s_val (wn rfl) rfl rfl (py_assign rfl) ?_
      refine s_nil ?_
      refine W_ret (hQ _ _ (fin1 Tryz.results269 rfl ?_))
      refine ⟨H1.ext, ?_⟩
      rw [decide_eq_true (getD_ext (d := default) (by omega) fun i hi => he i (by omega))]
theorem Tryz_laws_szDrive {w : World} {x : Drive} {xA1 : Option Addr} {xC1 : Nat} {l : Int} (xK : x.Ok) (xS1 : Sees w [.slice xA1 x.Blocks.length xC1] x.Blocks) (hl : -1 ≤ l ∧ l ≤ 1048576) : Ret Tryz.prog 205 #[x.val xA1 xC1, .int .i64 l] w fun v w' => Ext No w w' ∧ (v = .int .i64 (if l - szDrive x < 0 then -1 else l - szDrive x)) := by
  have xK2 := xK
  unfold Drive.Ok at xK2
  try unfold I64ok at xK2
  try unfold maxLen at xK2
  have xL1 := sees_len xS1
  unfold maxLen at xL1
  obtain ⟨xF1, xO1⟩ := xS1
  refine ret_Q (vs := [x.val xA1 xC1, .int .i64 l]) Tryz.func205 rfl Tryz.ntmps205 rfl (fun Q hQ hN => ?_)
  have H0 := Sep.start (w := w) (F := [seen false [.slice xA1 x.Blocks.length xC1] x.Blocks xF1]) (all_cons xO1 (by simp))
  refine W_seq ?_
  refine W_reg ?_
  refine s_box (wn rfl) rfl rfl H0 (fun b1 w1 e1 g1 H1 => ?_)
  refine s_val (wn rfl) rfl rfl (py_assign rfl) ?_
  refine s_nil ?_
  refine W_seq ?_
  refine W_reg ?_
  refine s_val (wn rfl) rfl rfl (py_field Tryz.underlying201 rfl Tryz.sizeOf199 rfl rfl) (s_val (wn rfl) rfl rfl (py_load Tryz.underlying199 rfl rfl (cell_atL (H1.box 0 rfl) rfl)) (s_val (wn rfl) rfl rfl (py_move rfl) ?_))
  refine s_call (wn rfl) rfl rfl (pc_call Tryz.func267 rfl Tryz_nm267 rfl) (Tryz_laws_szBlockS (H1.sees 0 rfl) (by omega)) (fun v1 w2 r1 => ?_)
  obtain ⟨e2, rfl⟩ := r1
  have H2 := H1.to e2
  refine s_val (wn rfl) rfl rfl (py_assign rfl) ?_
  refine s_nil ?_
  refine W_seq ?_
  refine W_seq ?_
  refine W_reg ?_
  refine s_val (wn rfl) rfl rfl (py_move rfl) (s_val (wn rfl) rfl rfl (py_lss rfl rfl) ?_)
  refine s_nil ?_
  refine W_ifd rfl (fun c1 => ?_) (fun c1 => ?_)
  · refine W_seq ?_
    refine W_reg ?_
    refine s_val (wn rfl) rfl rfl (py_assign rfl) ?_
    refine s_nil ?_
    refine W_ret (hQ _ _ (fin1 Tryz.results205 rfl ?_))
    exact ⟨H2.ext, congrArg (Value.int .i64) (by unfold szDrive; omega)⟩
  · refine W_skip ?_
    refine W_seq ?_
    refine W_reg ?_
    refine s_val (wn rfl) rfl rfl (py_move rfl) (s_val (wn rfl) rfl rfl (py_assign rfl) ?_)
    refine s_nil ?_
    refine W_ret (hQ _ _ (fin1 Tryz.results205 rfl ?_))
    exact ⟨H2.ext, congrArg (Value.int .i64) (by unfold szDrive; omega)⟩
theorem Tryz_laws_toDrive {w : World} {x : Drive} {xA1 : Option Addr} {xC1 : Nat} (xK : x.Ok) (xS1 : Sees w [.slice xA1 x.Blocks.length xC1] x.Blocks) (hb : szDrive x ≤ 1048576) : Ret Tryz.prog 207 #[x.val xA1 xC1] w fun v w' => Ext No w w' ∧ (∃ A1 C1, v = x.val A1 C1 ∧ Res w w' [.bool x.Wiped, .slice A1 x.Blocks.length C1] x) := by
  have xK2 := xK
  unfold Drive.Ok at xK2
  try unfold I64ok at xK2
  try unfold maxLen at xK2
  have xL1 := sees_len xS1
  unfold maxLen at xL1
  obtain ⟨xF1, xO1⟩ := xS1
  unfold szDrive at hb
  refine ret_Q (vs := [x.val xA1 xC1]) Tryz.func207 rfl Tryz.ntmps207 rfl (fun Q hQ hN => ?_)
  have H0 := Sep.start (w := w) (F := [seen false [.slice xA1 x.Blocks.length xC1] x.Blocks xF1]) (all_cons xO1 (by simp))
  refine W_seq ?_
  refine W_reg ?_
  refine s_box (wn rfl) rfl rfl H0 (fun b1 w1 e1 g1 H1 => ?_)
  refine s_var (wn rfl) rfl Tryz.zeroValue150 H1 (fun b2 w2 e2 g2 H2 => ?_)
  refine s_nil ?_
  refine W_seq ?_
  refine W_reg ?_
  refine s_var (wn rfl) rfl Tryz.zeroValue150 H2 (fun b3 w3 e3 g3 H3 => ?_)
  refine s_nil ?_
  refine W_seq ?_
  refine W_reg ?_
  refine s_val (wn rfl) rfl rfl (py_field Tryz.underlying201 rfl Tryz.sizeOf4 rfl rfl) (s_val (wn rfl) rfl rfl (py_load Tryz.underlying4 rfl rfl (cell_atL (H3.box 0 rfl) rfl)) (s_val (wn rfl) rfl rfl (py_field Tryz.underlying150 rfl Tryz.sizeOf4 rfl rfl) ?_))
  refine s_sto (wn rfl) Tryz.sizeOf4 rfl rfl rfl H3 2 rfl rfl (fun w4 e4 H4 => ?_)
  dsimp only [List.nil_append, List.cons_append, List.set_cons_zero, List.set_cons_succ, layL] at H4
  refine s_nil ?_
  refine W_seq ?_
  refine W_reg ?_
  refine s_val (wn rfl) rfl rfl (py_field Tryz.underlying201 rfl Tryz.sizeOf199 rfl rfl) (s_val (wn rfl) rfl rfl (py_load Tryz.underlying199 rfl rfl (cell_atL (H4.box 0 rfl) rfl)) ?_)
  refine s_call (wn rfl) rfl rfl (pc_call Tryz.func268 rfl Tryz_nm268 rfl) (Tryz_laws_toBlockS (H4.sees 0 rfl) (by first | assumption | omega)) (fun v1 w5 r1 => ?_)
  obtain ⟨e5, r1⟩ := r1
  obtain ⟨fp1, H5⟩ := H4.res e5 r1
  obtain ⟨a1, k1, q1⟩ := own_slice (H5.mine 3 rfl)
  cases q1
  refine s_val (wn rfl) rfl rfl (py_field Tryz.underlying150 rfl Tryz.sizeOf148 rfl rfl) ?_
  refine s_sto (wn rfl) Tryz.sizeOf148 rfl rfl rfl H5 2 rfl rfl (fun w6 e6 H6 => ?_)
  dsimp only [List.nil_append, List.cons_append, List.set_cons_zero, List.set_cons_succ, layL] at H6
  refine s_nil ?_
  refine W_seq ?_
  refine W_reg ?_
  refine s_val (wn rfl) rfl rfl (py_loadS Tryz.underlying150 rfl Tryz.sizeOf150 rfl rfl (At.whole (H6.box 2 rfl))) ?_
  refine s_stoS (wn rfl) Tryz.sizeOf150 rfl rfl rfl rfl H6 1 rfl rfl (fun w7 e7 H7 => ?_)
  dsimp only [List.nil_append, List.cons_append, List.set_cons_zero, List.set_cons_succ, layL] at H7
  refine s_nil ?_
  refine W_ret (hQ _ _ (finC Tryz.results207 rfl (run_loadVarS Tryz.underlying150 rfl Tryz.sizeOf150 rfl (At.whole (H7.box 1 rfl))) ?_))
  exact ⟨H7.ext, _, _, rfl, Drive.out (H7.sub (.cons _ (.cons _ (.cons _ (.cons_cons _ List.Sublist.slnil))))) xK⟩
theorem Tryz_laws_eqDrive {w : World} {a : Drive} {aA1 : Option Addr} {aC1 : Nat} {b : Drive} {bA1 : Option Addr} {bC1 : Nat} (aK : a.Ok) (aS1 : Sees w [.slice aA1 a.Blocks.length aC1] a.Blocks) (bK : b.Ok) (bS1 : Sees w [.slice bA1 b.Blocks.length bC1] b.Blocks) : Ret Tryz.prog 210 #[a.val aA1 aC1, b.val bA1 bC1] w fun v w' => Ext No w w' ∧ (v = .bool (decide (a = b))) := by
  have aK2 := aK
  unfold Drive.Ok at aK2
  try unfold I64ok at aK2
  try unfold maxLen at aK2
  have aL1 := sees_len aS1
  unfold maxLen at aL1
  obtain ⟨aF1, aO1⟩ := aS1
  have bK2 := bK
  unfold Drive.Ok at bK2
  try unfold I64ok at bK2
  try unfold maxLen at bK2
  have bL1 := sees_len bS1
  unfold maxLen at bL1
  obtain ⟨bF1, bO1⟩ := bS1
  refine ret_Q (vs := [a.val aA1 aC1, b.val bA1 bC1]) Tryz.func210 rfl Tryz.ntmps210 rfl (fun Q hQ hN => ?_)
  have H0 := Sep.start (w := w) (F := [seen false [.slice aA1 a.Blocks.length aC1] a.Blocks aF1, seen false [.slice bA1 b.Blocks.length bC1] b.Blocks bF1]) (all_cons aO1 (all_cons bO1 (by simp)))
  refine W_seq ?_
  refine W_reg ?_
  refine s_box (wn rfl) rfl rfl H0 (fun b1 w1 e1 g1 H1 => ?_)
  refine s_box (wn rfl) rfl rfl H1 (fun b2 w2 e2 g2 H2 => ?_)
  refine s_val (wn rfl) rfl rfl (py_assign rfl) ?_
  refine s_nil ?_
  refine W_seq ?_
  refine W_seq ?_
  refine W_reg ?_
  refine s_val (wn rfl) rfl rfl (py_field Tryz.underlying150 rfl Tryz.sizeOf4 rfl rfl) (s_val (wn rfl) rfl rfl (py_load Tryz.underlying4 rfl rfl (cell_atL (H2.box 0 rfl) rfl)) (s_val (wn rfl) rfl rfl (py_field Tryz.underlying150 rfl Tryz.sizeOf4 rfl rfl) (s_val (wn rfl) rfl rfl (py_load Tryz.underlying4 rfl rfl (cell_atL (H2.box 1 rfl) rfl)) (s_val (wn rfl) rfl rfl (py_bneq Tryz.underlying4 rfl rfl) ?_))))
  refine s_nil ?_
  refine W_if rfl (fun c1 => ?_) (fun c1 => ?_)
  · refine W_seq ?_
    refine W_reg ?_
    refine s_val (wn rfl) rfl rfl (py_assign rfl) ?_
    refine s_nil ?_
    refine W_ret (hQ _ _ (fin1 Tryz.results210 rfl ?_))
    refine ⟨H2.ext, ?_⟩
    rw [decide_eq_false (fun e => by subst e; first | exact c1 rfl | simp at c1)]
  · refine W_skip ?_
    refine W_seq ?_
    refine W_seq ?_
    refine W_reg ?_
    refine s_val (wn rfl) rfl rfl (py_field Tryz.underlying150 rfl Tryz.sizeOf148 rfl rfl) (s_val (wn rfl) rfl rfl (py_load Tryz.underlying148 rfl rfl (cell_atL (H2.box 0 rfl) rfl)) (s_val (wn rfl) rfl rfl (py_field Tryz.underlying150 rfl Tryz.sizeOf148 rfl rfl) (s_val (wn rfl) rfl rfl (py_load Tryz.underlying148 rfl rfl (cell_atL (H2.box 1 rfl) rfl)) ?_)))
    refine s_call (wn rfl) rfl rfl (pc_call Tryz.func269 rfl Tryz_nm269 rfl) (Tryz_laws_eqBlockS (H2.sees 0 rfl) (H2.sees 1 rfl)) (fun v1 w3 r1 => ?_)
    obtain ⟨e3, rfl⟩ := r1
    have H3 := H2.to e3
    refine s_val (wn rfl) rfl rfl (py_not rfl) ?_
    refine s_nil ?_
    refine W_if rfl (fun c2 => ?_) (fun c2 => ?_)
    · refine W_seq ?_
      refine W_reg ?_
      refine s_val (wn rfl) rfl rfl (py_assign rfl) ?_
      refine s_nil ?_
      refine W_ret (hQ _ _ (fin1 Tryz.results210 rfl ?_))
      refine ⟨H3.ext, ?_⟩
      rw [decide_eq_false (fun e => by subst e; first | exact c2 rfl | simp at c2)]
    · refine W_skip ?_
      refine W_seq ?_
      refine W_reg ?_
      refine s_val (wn rfl) rfl rfl (py_assign rfl) ?_
      refine s_nil ?_
      refine W_ret (hQ _ _ (fin1 Tryz.results210 rfl ?_))
      refine ⟨H3.ext, ?_⟩
      rw [decide_eq_true]
      cases a; cases b; simp_all [str_beq]
theorem Tryz_laws_szDriveS {w : World} {xs : List Drive} {xsA : Option Addr} {xsC : Nat} {l : Int} (xsS : Sees w [.slice xsA xs.length xsC] xs) (hl : -1 ≤ l ∧ l ≤ 1048576) : Ret Tryz.prog 137 #[.slice xsA xs.length xsC, .int .i64 l] w fun v w' => Ext No w w' ∧ (v = .int .i64 (if l - szL szDrive xs < 0 then -1 else l - szL szDrive xs)) := by
  have xsL := sees_len xsS
  unfold maxLen at xsL
  obtain ⟨xsF, xsO⟩ := xsS
  refine ret_Q (vs := [.slice xsA xs.length xsC, .int .i64 l]) Tryz.func137 rfl Tryz.ntmps137 rfl (fun Q hQ hN => ?_)
  have H0 := Sep.start (w := w) (F := [seen false [.slice xsA xs.length xsC] xs xsF]) (all_cons xsO (by simp))
  refine W_seq ?_
  refine W_reg ?_
  refine s_val (wn rfl) rfl rfl (py_assign rfl) ?_
  refine s_nil ?_
  refine W_seq ?_
  refine W_reg ?_
  refine s_val (wn rfl) rfl rfl (py_move rfl) (s_val (wn rfl) rfl rfl (py_move rfl) (s_val (wn rfl) rfl rfl (py_len Tryz.underlying141 rfl) (s_val (wn rfl) rfl rfl (py_sub rfl rfl (in64 ⟨by omega, by omega⟩)) (s_val (wn rfl) rfl rfl (py_assign rfl) ?_))))
  refine s_nil ?_
  refine W_seq ?_
  refine W_seq ?_
  refine W_reg ?_
  refine s_val (wn rfl) rfl rfl (py_move rfl) (s_val (wn rfl) rfl rfl (py_lss rfl rfl) ?_)
  refine s_nil ?_
  refine W_ifd rfl (fun c1 => ?_) (fun c1 => ?_)
  · refine W_seq ?_
    refine W_reg ?_
    refine s_val (wn rfl) rfl rfl (py_assign rfl) ?_
    refine s_nil ?_
    refine W_ret (hQ _ _ (fin1 Tryz.results137 rfl ?_))
    exact ⟨H0.ext, by rw [if_pos (by rw [szL_eq (f := szDrive)]; omega)]⟩
  · refine W_skip ?_
    refine W_seq ?_
    refine W_seq ?_
    refine W_reg ?_
    refine s_val (wn rfl) rfl rfl (py_assign rfl) ?_
    refine s_nil ?_
    refine W_block ?_
    refine W_loop (γ := Nat × Int) (fun (k, m) => [(0, .slice xsA xs.length xsC), (1, .int .i64 m), (5, .int .i64 k)]) (fun (k, m) w' => Sep No w [] [seen false [.slice xsA xs.length xsC] xs xsF] w' ∧ k ≤ xs.length ∧ 0 ≤ m ∧ m = l - xs.length - sumN (fun i => szDrive (xs.getD i default)) k) (fun (k, m) => xs.length - k) (0, _) ⟨rfl, rfl, rfl, trivial⟩ ⟨H0, by omega, by omega, by simp only [sumN]; omega⟩ (fun (k, m) w1 H1 => ?_)
    obtain ⟨H1, hk, hm, hs⟩ := H1
    refine W_seq ?_
    refine W_seq ?_
    refine W_reg ?_
    refine s_val (wn rfl) rfl rfl (py_move rfl) (s_val (wn rfl) rfl rfl (py_move rfl) (s_val (wn rfl) rfl rfl (py_len Tryz.underlying141 rfl) (s_val (wn rfl) rfl rfl (py_lss rfl rfl) ?_)))
    refine s_nil ?_
    refine W_ifd rfl (fun c2 => ?_) (fun c2 => ?_)
    · refine W_skip ?_
      refine W_seq ?_
      refine W_block ?_
      refine W_seq ?_
      obtain ⟨eb1, eo1, es1, ef1, ee1, ec1, eO1, eH1, em1⟩ := elem_st (H1.seen 0 rfl) k (by omega)
      obtain ⟨ea1, ek1, eg1, rfl, eq1, eK1, eo2⟩ := own_Drive eO1
      have eP1 := H1.look1 0 rfl eo2 (fun b hb => eH1 b (by rw [eq1]; simp [hb]))
      have eL1 := own_len_le eo2
      unfold maxLen at eL1
      refine W_reg ?_
      refine s_val (wn rfl) rfl rfl (py_move rfl) (s_val (wn rfl) rfl rfl (py_move rfl) (s_val (wn rfl) rfl rfl (py_elz Tryz.underlying141 Tryz.sizeOf201 rfl rfl ee1 k (by omega) (by omega)) (s_val (wn rfl) rfl rfl (py_loadS Tryz.underlying201 rfl Tryz.sizeOf201 rfl rfl ec1) (s_val (wn rfl) rfl rfl (py_move rfl) ?_))))
      refine s_call (wn rfl) rfl rfl (pc_call Tryz.func205 rfl Tryz_nm205 rfl) (Tryz_laws_szDrive (by assumption) (eP1.sees 1 rfl) (by omega)) (fun v1 w2 r1 => ?_)
      obtain ⟨e1, rfl⟩ := r1
      have H2 := eP1.to e1
      refine s_val (wn rfl) rfl rfl (py_assign rfl) ?_
      refine s_nil ?_
      refine W_seq ?_
      refine W_reg ?_
      refine s_val (wn rfl) rfl rfl (py_move rfl) (s_val (wn rfl) rfl rfl (py_lss rfl rfl) ?_)
      refine s_nil ?_
      refine W_ifd rfl (fun c3 => ?_) (fun c3 => ?_)
      · refine W_seq ?_
        refine W_reg ?_
        refine s_val (wn rfl) rfl rfl (py_assign rfl) ?_
        refine s_nil ?_
        refine W_ret (hQ _ _ (fin1 Tryz.results137 rfl ?_))
        have sg : sumN (fun i => szDrive (xs.getD i default)) (k + 1) = sumN (fun i => szDrive (xs.getD i default)) k + szDrive (xs.getD k default) := rfl
        have sl := sumN_le (f := (fun i => szDrive (xs.getD i default))) (j := k + 1) (k := xs.length) (by omega)
        exact ⟨H2.ext, by rw [if_pos (by rw [szL_eq (f := szDrive)]; omega)]⟩
      · refine W_skip ?_
        refine W_reg ?_
        refine s_val (wn rfl) rfl rfl (py_move rfl) (s_val (wn rfl) rfl rfl (py_add rfl rfl (in64 ⟨by omega, by omega⟩)) (s_val (wn rfl) rfl rfl (py_assign rfl) ?_))
        refine s_nil ?_
        have sg : sumN (fun i => szDrive (xs.getD i default)) (k + 1) = sumN (fun i => szDrive (xs.getD i default)) k + szDrive (xs.getD k default) := rfl
        refine ⟨(k + 1, _), ⟨rfl, rfl, rfl, trivial⟩, ⟨(H2.ftake 1), by omega, by omega, by omega⟩, by dsimp only; omega⟩
    · refine W_exit ?_
      refine W_seq ?_
      refine W_reg ?_
      refine s_val (wn rfl) rfl rfl (py_move rfl) (s_val (wn rfl) rfl rfl (py_assign rfl) ?_)
      refine s_nil ?_
      refine W_ret (hQ _ _ (fin1 Tryz.results137 rfl ?_))
      obtain rfl : k = xs.length := by omega
      exact ⟨H1.ext, congrArg (Value.int .i64) (by rw [szL_eq (f := szDrive)]; omega)⟩
theorem Tryz_laws_toDriveS {w : World} {xs : List Drive} {xsA : Option Addr} {xsC : Nat} (xsS : Sees w [.slice xsA xs.length xsC] xs) (hl : szL szDrive xs ≤ 1048576) : Ret Tryz.prog 141 #[.slice xsA xs.length xsC] w fun v w' => Ext No w w' ∧ (Res w w' [v] xs) := by
  have xsL := sees_len xsS
  unfold maxLen at xsL
  obtain ⟨xsF, xsO⟩ := xsS
  have hl0 : xs.length ≤ 1048576 := by unfold szL at hl; omega
  refine ret_Q (vs := [.slice xsA xs.length xsC]) Tryz.func141 rfl Tryz.ntmps141 rfl (fun Q hQ hN => ?_)
  have H0 := Sep.start (w := w) (F := [seen false [.slice xsA xs.length xsC] xs xsF]) (all_cons xsO (by simp))
  refine W_seq ?_
  refine W_reg ?_
  refine s_val (wn rfl) rfl rfl (py_assign rfl) ?_
  refine s_nil ?_
  refine W_seq ?_
  refine W_reg ?_
  refine s_val (wn rfl) rfl rfl (py_move rfl) (s_val (wn rfl) rfl rfl (py_len Tryz.underlying141 rfl) ?_)
  refine s_make (wn rfl) rfl Tryz.underlying147 Tryz_ty150 (show ∀ w, own true w (Value.agg #[.bool false, .slice none 0 0]).cells.toList (default : Drive) [] from fun _ => own_zDrive) rfl (by omega) (by unfold maxLen; omega) H0 (fun b1 w1 e1 g1 H1 => ?_)
  refine s_val (wn rfl) rfl rfl (py_assign rfl) ?_
  refine s_nil ?_
  refine W_seq ?_
  refine W_seq ?_
  refine W_reg ?_
  refine s_val (wn rfl) rfl rfl (py_assign rfl) ?_
  refine s_nil ?_
  refine W_block ?_
  refine W_loop (γ := Nat × List Nat) (fun (k, fp) => [(0, .slice xsA xs.length xsC), (3, .slice (some ⟨b1, 0, none⟩) xs.length xs.length), (4, .int .i64 k)]) (fun (k, fp) w' => Sep No w [mine [.slice (some ⟨b1, 0, none⟩) xs.length xs.length] (cp xs k default) fp] [seen false [.slice xsA xs.length xsC] xs xsF] w' ∧ k ≤ xs.length) (fun (k, fp) => xs.length - k) (0, [b1]) ⟨rfl, rfl, rfl, trivial⟩ ⟨cp_zero ▸ H1, by omega⟩ (fun (k, fp) w2 H2 => ?_)
  obtain ⟨H2, hk⟩ := H2
  refine W_seq ?_
  refine W_seq ?_
  refine W_reg ?_
  refine s_val (wn rfl) rfl rfl (py_move rfl) (s_val (wn rfl) rfl rfl (py_move rfl) (s_val (wn rfl) rfl rfl (py_len Tryz.underlying141 rfl) (s_val (wn rfl) rfl rfl (py_lss rfl rfl) ?_)))
  refine s_nil ?_
  refine W_ifd rfl (fun c1 => ?_) (fun c1 => ?_)
  · refine W_skip ?_
    refine W_seq ?_
    refine W_block ?_
    obtain ⟨hg, hg2⟩ := szL_get hl k (by omega)
    obtain ⟨eb1, eo1, es1, ef1, ee1, ec1, eO1, eH1, em1⟩ := elem_st (H2.seen 0 rfl) k (by omega)
    obtain ⟨ea1, ek1, eg1, rfl, eq1, eK1, eo2⟩ := own_Drive eO1
    have eP1 := H2.look1 0 rfl eo2 (fun b hb => eH1 b (by rw [eq1]; simp [hb]))
    have eL1 := own_len_le eo2
    unfold maxLen at eL1
    obtain ⟨eb2, eo3, ee2⟩ := own_addr (eP1.mine 0 rfl) k (by rw [cp_len (xs := xs) (k := k) (by omega)]; omega)
    refine W_reg ?_
    refine s_val (wn rfl) rfl rfl (py_move rfl) (s_val (wn rfl) rfl rfl (py_move rfl) (s_val (wn rfl) rfl rfl (py_move rfl) (s_val (wn rfl) rfl rfl (py_move rfl) (s_val (wn rfl) rfl rfl (py_elz Tryz.underlying141 Tryz.sizeOf201 rfl rfl ee1 k (by omega) (by omega)) (s_val (wn rfl) rfl rfl (py_loadS Tryz.underlying201 rfl Tryz.sizeOf201 rfl rfl ec1) ?_)))))
    refine s_call (wn rfl) rfl rfl (pc_call Tryz.func207 rfl Tryz_nm207 rfl) (Tryz_laws_toDrive (by assumption) (eP1.sees 1 rfl) (by assumption)) (fun v1 w3 r1 => ?_)
    obtain ⟨e2, sa1, sk1, rfl, r1⟩ := r1
    obtain ⟨fp1, H3⟩ := eP1.res e2 r1
    refine s_val (wn rfl) rfl rfl (py_elz Tryz.underlying147 Tryz.sizeOf150 rfl rfl ee2 k (by omega) (by omega)) ?_
    refine s_elst2S (wn rfl) Tryz.sizeOf150 H3 0 1 rfl rfl rfl k (by rw [cp_len (xs := xs) (k := k) (by omega)]; omega) rfl ee2 rfl (fun w4 fp2 H4 => ?_)
    refine s_nil ?_
    obtain ⟨hg, hg2⟩ := szL_get hl k (by omega)
    refine W_reg ?_
    refine s_val (wn rfl) rfl rfl (py_move rfl) (s_val (wn rfl) rfl rfl (py_add rfl rfl (in64 ⟨by omega, by omega⟩)) (s_val (wn rfl) rfl rfl (py_assign rfl) ?_))
    refine s_nil ?_
    refine ⟨(k + 1, _), ⟨rfl, rfl, rfl, trivial⟩, ⟨cp_set (xs := xs) (k := k) (d := default) (by omega) ▸ ((H4.ftake 1).dtake 1), by omega⟩, by dsimp only; omega⟩
  · refine W_exit ?_
    refine W_seq ?_
    refine W_reg ?_
    refine s_val (wn rfl) rfl rfl (py_move rfl) (s_val (wn rfl) rfl rfl (py_assign rfl) ?_)
    refine s_nil ?_
    refine W_ret (hQ _ _ (fin1 Tryz.results141 rfl ?_))
    obtain rfl : k = xs.length := by omega
    exact ⟨H2.ext, by
      have h := H2.out 0 rfl
      rwa [cp_all] at h⟩
theorem Tryz_laws_eqDriveS {w : World} {xs : List Drive} {xsA : Option Addr} {xsC : Nat} {ys : List Drive} {ysA : Option Addr} {ysC : Nat} (xsS : Sees w [.slice xsA xs.length xsC] xs) (ysS : Sees w [.slice ysA ys.length ysC] ys) : Ret Tryz.prog 144 #[.slice xsA xs.length xsC, .slice ysA ys.length ysC] w fun v w' => Ext No w w' ∧ (v = .bool (decide (xs = ys))) := by
  have xsL := sees_len xsS
  unfold maxLen at xsL
  obtain ⟨xsF, xsO⟩ := xsS
  have ysL := sees_len ysS
  unfold maxLen at ysL
  obtain ⟨ysF, ysO⟩ := ysS
  refine ret_Q (vs := [.slice xsA xs.length xsC, .slice ysA ys.length ysC]) Tryz.func144 rfl Tryz.ntmps144 rfl (fun Q hQ hN => ?_)
  have H0 := Sep.start (w := w) (F := [seen false [.slice xsA xs.length xsC] xs xsF, seen false [.slice ysA ys.length ysC] ys ysF]) (all_cons xsO (all_cons ysO (by simp)))
  refine W_seq ?_
  refine W_reg ?_
  refine s_val (wn rfl) rfl rfl (py_assign rfl) ?_
  refine s_nil ?_
  refine W_seq ?_
  refine W_seq ?_
  refine W_reg ?_
  refine s_val (wn rfl) rfl rfl (py_move rfl) (s_val (wn rfl) rfl rfl (py_len Tryz.underlying147 rfl) (s_val (wn rfl) rfl rfl (py_move rfl) (s_val (wn rfl) rfl rfl (py_len Tryz.underlying147 rfl) (s_val (wn rfl) rfl rfl (py_neq rfl rfl) ?_))))
  refine s_nil ?_
  refine W_ifd rfl (fun c1 => ?_) (fun c1 => ?_)
  · refine W_seq ?_
    refine W_reg ?_
    refine s_val (wn rfl) rfl rfl (py_assign rfl) ?_
    refine s_nil ?_
    refine W_ret (hQ _ _ (fin1 Tryz.results144 rfl ?_))
    refine ⟨H0.ext, ?_⟩
    rw [decide_eq_false (fun e => by subst e; exact c1 rfl)]
  · refine W_skip ?_
    refine W_seq ?_
    refine W_seq ?_
    refine W_reg ?_
    refine s_val (wn rfl) rfl rfl (py_assign rfl) ?_
    refine s_nil ?_
    refine W_block ?_
    refine W_loop (γ := Nat) (fun k => [(0, .slice xsA xs.length xsC), (1, .slice ysA ys.length ysC), (5, .int .i64 k)]) (fun k w' => Sep No w [] [seen false [.slice xsA xs.length xsC] xs xsF, seen false [.slice ysA ys.length ysC] ys ysF] w' ∧ k ≤ xs.length ∧ (∀ i, i < k → xs.getD i default = ys.getD i default)) (fun k => xs.length - k) 0 ⟨rfl, rfl, rfl, trivial⟩ ⟨H0, by omega, fun i hi => by omega⟩ (fun k w1 H1 => ?_)
    obtain ⟨H1, hk, he⟩ := H1
    refine W_seq ?_
    refine W_seq ?_
    refine W_reg ?_
    refine s_val (wn rfl) rfl rfl (py_move rfl) (s_val (wn rfl) rfl rfl (py_move rfl) (s_val (wn rfl) rfl rfl (py_len Tryz.underlying147 rfl) (s_val (wn rfl) rfl rfl (py_lss rfl rfl) ?_)))
    refine s_nil ?_
    refine W_ifd rfl (fun c2 => ?_) (fun c2 => ?_)
    · refine W_skip ?_
      refine W_seq ?_
      refine W_block ?_
      refine W_seq ?_
      obtain ⟨eb1, eo1, es1, ef1, ee1, ec1, eO1, eH1, em1⟩ := elem_st (H1.seen 0 rfl) k (by omega)
      obtain ⟨ea1, ek1, eg1, rfl, eq1, eK1, eo2⟩ := own_Drive eO1
      have eP1 := H1.look1 0 rfl eo2 (fun b hb => eH1 b (by rw [eq1]; simp [hb]))
      have eL1 := own_len_le eo2
      unfold maxLen at eL1
      obtain ⟨eb2, eo3, es2, ef2, ee2, ec2, eO2, eH2, em2⟩ := elem_st (eP1.seen 1 rfl) k (by omega)
      obtain ⟨ea2, ek2, eg2, rfl, eq2, eK2, eo4⟩ := own_Drive eO2
      have eP2 := eP1.look1 1 rfl eo4 (fun b hb => eH2 b (by rw [eq2]; simp [hb]))
      have eL2 := own_len_le eo4
      unfold maxLen at eL2
      refine W_drw (S := Ext No _) [(0, true), (1, true), (2, true), (3, true), (4, true), (5, true), (6, true), (7, true), (8, false), (9, false)] (by kernel_rfl) (by kernel_rfl) (by kernel_rfl) rfl (fun _ => Ext.refl.drawn _) (fun q1 => ?_)
      have H2 := eP2.drawn q1
      refine d_val rfl (wn rfl) rfl rfl (fun zw hx => py_move rfl) (d_val rfl (wn rfl) rfl rfl (fun zw hx => py_move rfl) (d_val rfl (wn rfl) rfl rfl (fun zw hx => py_elz Tryz.underlying147 Tryz.sizeOf150 rfl rfl ee1 k (by omega) (by omega)) (d_val rfl (wn rfl) rfl rfl (fun zw hx => py_loadS Tryz.underlying150 rfl Tryz.sizeOf150 rfl rfl (hx.at ec1)) (d_val rfl (wn rfl) rfl rfl (fun zw hx => py_move rfl) (d_val rfl (wn rfl) rfl rfl (fun zw hx => py_move rfl) (d_val rfl (wn rfl) rfl rfl (fun zw hx => py_elz Tryz.underlying147 Tryz.sizeOf150 rfl rfl ee2 k (by omega) (by omega)) (d_val rfl (wn rfl) rfl rfl (fun zw hx => py_loadS Tryz.underlying150 rfl Tryz.sizeOf150 rfl rfl (hx.at ec2)) ?_)))))))
      refine d_call rfl (wn rfl) rfl rfl (pc_call Tryz.func210 rfl Tryz_nm210 rfl) (Tryz_laws_eqDrive (by assumption) (H2.sees 2 rfl) (by assumption) (H2.sees 3 rfl)) (fun hS _ _ r _ => hS.trans r.1.no) (fun v1 w2 r1 => ?_)
      obtain ⟨e1, rfl⟩ := r1
      have H3 := H2.to e1
      refine d_end rfl (wn rfl) rfl rfl (py_not rfl) ?_
      refine d_nil ?_
      refine W_if rfl (fun c3 => ?_) (fun c3 => ?_)
      · refine W_seq ?_
        refine W_reg ?_
        refine s_val (wn rfl) rfl rfl (py_assign rfl) ?_
        refine s_nil ?_
        refine W_ret (hQ _ _ (fin1 Tryz.results144 rfl ?_))
        refine ⟨H3.ext, ?_⟩
        rw [decide_eq_false (fun e => by subst e; simp at c3)]
      · refine W_skip ?_
        refine W_reg ?_
        refine s_val (wn rfl) rfl rfl (py_move rfl) (s_val (wn rfl) rfl rfl (py_add rfl rfl (in64 ⟨by omega, by omega⟩)) (s_val (wn rfl) rfl rfl (py_assign rfl) ?_))
        refine s_nil ?_
        have c4 : xs.getD k default = ys.getD k default := by simpa using c3
        refine ⟨k + 1, ⟨rfl, rfl, rfl, trivial⟩, ⟨(H3.ftake 2), by omega, fun i hi => ?_⟩, by dsimp only; omega⟩
        by_cases e : i = k
        · subst e; exact c4
        · exact he i (by omega)
    · refine W_exit ?_
      refine W_seq ?_
      refine W_reg ?_
      refine s_val (wn rfl) rfl rfl (py_assign rfl) ?_
      refine s_nil ?_
      refine W_ret (hQ _ _ (fin1 Tryz.results144 rfl ?_))
      refine ⟨H1.ext, ?_⟩
      rw [decide_eq_true (getD_ext (d := default) (by omega) fun i hi => he i (by omega))]
theorem Tryz_laws_szDriveSS {w : World} {xs : List (List Drive)} {xsA : Option Addr} {xsC : Nat} {l : Int} (xsS : Sees w [.slice xsA xs.length xsC] xs) (hl : -1 ≤ l ∧ l ≤ 1048576) : Ret Tryz.prog 66 #[.slice xsA xs.length xsC, .int .i64 l] w fun v w' => Ext No w w' ∧ (v = .int .i64 (if l - szL (szL szDrive) xs < 0 then -1 else l - szL (szL szDrive) xs)) := by
  have xsL := sees_len xsS
  unfold maxLen at xsL
  obtain ⟨xsF, xsO⟩ := xsS
  refine ret_Q (vs := [.slice xsA xs.length xsC, .int .i64 l]) Tryz.func66 rfl Tryz.ntmps66 rfl (fun Q hQ hN => ?_)
  have H0 := Sep.start (w := w) (F := [seen false [.slice xsA xs.length xsC] xs xsF]) (all_cons xsO (by simp))
  refine W_seq ?_
  refine W_reg ?_
  refine s_val (wn rfl) rfl rfl (py_assign rfl) ?_
  refine s_nil ?_
  refine W_seq ?_
  refine W_reg ?_
  refine s_val (wn rfl) rfl rfl (py_move rfl) (s_val (wn rfl) rfl rfl (py_move rfl) (s_val (wn rfl) rfl rfl (py_len Tryz.underlying24 rfl) (s_val (wn rfl) rfl rfl (py_sub rfl rfl (in64 ⟨by omega, by omega⟩)) (s_val (wn rfl) rfl rfl (py_assign rfl) ?_))))
  refine s_nil ?_
  refine W_seq ?_
  refine W_seq ?_
  refine W_reg ?_
  refine s_val (wn rfl) rfl rfl (py_move rfl) (s_val (wn rfl) rfl rfl (py_lss rfl rfl) ?_)
  refine s_nil ?_
  refine W_ifd rfl (fun c1 => ?_) (fun c1 => ?_)
  · refine W_seq ?_
    refine W_reg ?_
    refine s_val (wn rfl) rfl rfl (py_assign rfl) ?_
    refine s_nil ?_
    refine W_ret (hQ _ _ (fin1 Tryz.results66 rfl ?_))
    exact ⟨H0.ext, by rw [if_pos (by rw [szL_eq (f := (szL szDrive))]; omega)]⟩
  · refine W_skip ?_
    refine W_seq ?_
    refine W_seq ?_
    refine W_reg ?_
    refine s_val (wn rfl) rfl rfl (py_assign rfl) ?_
    refine s_nil ?_
    refine W_block ?_
    refine W_loop (γ := Nat × Int) (fun (k, m) => [(0, .slice xsA xs.length xsC), (1, .int .i64 m), (5, .int .i64 k)]) (fun (k, m) w' => Sep No w [] [seen false [.slice xsA xs.length xsC] xs xsF] w' ∧ k ≤ xs.length ∧ 0 ≤ m ∧ m = l - xs.length - sumN (fun i => (szL szDrive) (xs.getD i default)) k) (fun (k, m) => xs.length - k) (0, _) ⟨rfl, rfl, rfl, trivial⟩ ⟨H0, by omega, by omega, by simp only [sumN]; omega⟩ (fun (k, m) w1 H1 => ?_)
    obtain ⟨H1, hk, hm, hs⟩ := H1
    refine W_seq ?_
    refine W_seq ?_
    refine W_reg ?_
    refine s_val (wn rfl) rfl rfl (py_move rfl) (s_val (wn rfl) rfl rfl (py_move rfl) (s_val (wn rfl) rfl rfl (py_len Tryz.underlying24 rfl) (s_val (wn rfl) rfl rfl (py_lss rfl rfl) ?_)))
    refine s_nil ?_
    refine W_ifd rfl (fun c2 => ?_) (fun c2 => ?_)
    · refine W_skip ?_
      refine W_seq ?_
      refine W_block ?_
      refine W_seq ?_
      obtain ⟨eb1, eo1, ea1, ek1, ef1, ee1, ec1, eO1, eH1⟩ := elem_sl (H1.seen 0 rfl) k (by omega)
      have eP1 := H1.look1 0 rfl eO1 eH1
      refine W_reg ?_
      refine s_val (wn rfl) rfl rfl (py_move rfl) (s_val (wn rfl) rfl rfl (py_move rfl) (s_val (wn rfl) rfl rfl (py_elz Tryz.underlying24 Tryz.sizeOf141 rfl rfl ee1 k (by omega) (by omega)) (s_val (wn rfl) rfl rfl (py_load Tryz.underlying141 rfl rfl ec1) (s_val (wn rfl) rfl rfl (py_move rfl) ?_))))
      refine s_call (wn rfl) rfl rfl (pc_call Tryz.func137 rfl Tryz_nm137 rfl) (Tryz_laws_szDriveS (eP1.sees 1 rfl) (by omega)) (fun v1 w2 r1 => ?_)
      obtain ⟨e1, rfl⟩ := r1
      have H2 := eP1.to e1
      refine s_val (wn rfl) rfl rfl (py_assign rfl) ?_
      refine s_nil ?_
      refine W_seq ?_
      refine W_reg ?_
      refine s_val (wn rfl) rfl rfl (py_move rfl) (s_val (wn rfl) rfl rfl (py_lss rfl rfl) ?_)
      refine s_nil ?_
      refine W_ifd rfl (fun c3 => ?_) (fun c3 => ?_)
      · refine W_seq ?_
        refine W_reg ?_
        refine s_val (wn rfl) rfl rfl (py_assign rfl) ?_
        refine s_nil ?_
        refine W_ret (hQ _ _ (fin1 Tryz.results66 rfl ?_))
        have sg : sumN (fun i => (szL szDrive) (xs.getD i default)) (k + 1) = sumN (fun i => (szL szDrive) (xs.getD i default)) k + (szL szDrive) (xs.getD k []) := rfl
        have sl := sumN_le (f := (fun i => (szL szDrive) (xs.getD i default))) (j := k + 1) (k := xs.length) (by omega)
        exact ⟨H2.ext, by rw [if_pos (by rw [szL_eq (f := (szL szDrive))]; omega)]⟩
      · refine W_skip ?_
        refine W_reg ?_
        refine s_val (wn rfl) rfl rfl (py_move rfl) (s_val (wn rfl) rfl rfl (py_add rfl rfl (in64 ⟨by omega, by omega⟩)) (s_val (wn rfl) rfl rfl (py_assign rfl) ?_))
        refine s_nil ?_
        have sg : sumN (fun i => (szL szDrive) (xs.getD i default)) (k + 1) = sumN (fun i => (szL szDrive) (xs.getD i default)) k + (szL szDrive) (xs.getD k []) := rfl
        refine ⟨(k + 1, _), ⟨rfl, rfl, rfl, trivial⟩, ⟨(H2.ftake 1), by omega, by omega, by omega⟩, by dsimp only; omega⟩
    · refine W_exit ?_
      refine W_seq ?_
      refine W_reg ?_
      refine s_val (wn rfl) rfl rfl (py_move rfl) (s_val (wn rfl) rfl rfl (py_assign rfl) ?_)
      refine s_nil ?_
      refine W_ret (hQ _ _ (fin1 Tryz.results66 rfl ?_))
      obtain rfl : k = xs.length := by omega
      exact ⟨H1.ext, congrArg (Value.int .i64) (by rw [szL_eq (f := (szL szDrive))]; omega)⟩
theorem Tryz_laws_toDriveSS {w : World} {xs : List (List Drive)} {xsA : Option Addr} {xsC : Nat} (xsS : Sees w [.slice xsA xs.length xsC] xs) (hl : szL (szL szDrive) xs ≤ 1048576) : Ret Tryz.prog 72 #[.slice xsA xs.length xsC] w fun v w' => Ext No w w' ∧ (Res w w' [v] xs) := by
  have xsL := sees_len xsS
  unfold maxLen at xsL
  obtain ⟨xsF, xsO⟩ := xsS
  have hl0 : xs.length ≤ 1048576 := by unfold szL at hl; omega
  refine ret_Q (vs := [.slice xsA xs.length xsC]) Tryz.func72 rfl Tryz.ntmps72 rfl (fun Q hQ hN => ?_)
  have H0 := Sep.start (w := w) (F := [seen false [.slice xsA xs.length xsC] xs xsF]) (all_cons xsO (by simp))
  refine W_seq ?_
  refine W_reg ?_
  refine s_val (wn rfl) rfl rfl (py_assign rfl) ?_
  refine s_nil ?_
  refine W_seq ?_
  refine W_reg ?_
  refine s_val (wn rfl) rfl rfl (py_move rfl) (s_val (wn rfl) rfl rfl (py_len Tryz.underlying24 rfl) ?_)
  refine s_make (wn rfl) rfl Tryz.underlying34 Tryz_ty147 (own_zs (α := Drive)) rfl (by omega) (by unfold maxLen; omega) H0 (fun b1 w1 e1 g1 H1 => ?_)
  refine s_val (wn rfl) rfl rfl (py_assign rfl) ?_
  refine s_nil ?_
  refine W_seq ?_
  refine W_seq ?_
  refine W_reg ?_
  refine s_val (wn rfl) rfl rfl (py_assign rfl) ?_
  refine s_nil ?_
  refine W_block ?_
  refine W_loop (γ := Nat × List Nat) (fun (k, fp) => [(0, .slice xsA xs.length xsC), (3, .slice (some ⟨b1, 0, none⟩) xs.length xs.length), (4, .int .i64 k)]) (fun (k, fp) w' => Sep No w [mine [.slice (some ⟨b1, 0, none⟩) xs.length xs.length] (cp xs k []) fp] [seen false [.slice xsA xs.length xsC] xs xsF] w' ∧ k ≤ xs.length) (fun (k, fp) => xs.length - k) (0, [b1]) ⟨rfl, rfl, rfl, trivial⟩ ⟨cp_zero ▸ H1, by omega⟩ (fun (k, fp) w2 H2 => ?_)
  obtain ⟨H2, hk⟩ := H2
  refine W_seq ?_
  refine W_seq ?_
  refine W_reg ?_
  refine s_val (wn rfl) rfl rfl (py_move rfl) (s_val (wn rfl) rfl rfl (py_move rfl) (s_val (wn rfl) rfl rfl (py_len Tryz.underlying24 rfl) (s_val (wn rfl) rfl rfl (py_lss rfl rfl) ?_)))
  refine s_nil ?_
  refine W_ifd rfl (fun c1 => ?_) (fun c1 => ?_)
  · refine W_skip ?_
    refine W_seq ?_
    refine W_block ?_
    obtain ⟨hg, hg2⟩ := szL_get hl k (by omega)
    obtain ⟨eb1, eo1, ea1, ek1, ef1, ee1, ec1, eO1, eH1⟩ := elem_sl (H2.seen 0 rfl) k (by omega)
    have eP1 := H2.look1 0 rfl eO1 eH1
    obtain ⟨eb2, eo2, ee2⟩ := own_addr (eP1.mine 0 rfl) k (by rw [cp_len (xs := xs) (k := k) (by omega)]; omega)
    refine W_reg ?_
    refine s_val (wn rfl) rfl rfl (py_move rfl) (s_val (wn rfl) rfl rfl (py_move rfl) (s_val (wn rfl) rfl rfl (py_move rfl) (s_val (wn rfl) rfl rfl (py_move rfl) (s_val (wn rfl) rfl rfl (py_elz Tryz.underlying24 Tryz.sizeOf141 rfl rfl ee1 k (by omega) (by omega)) (s_val (wn rfl) rfl rfl (py_load Tryz.underlying141 rfl rfl ec1) ?_)))))
    refine s_call (wn rfl) rfl rfl (pc_call Tryz.func141 rfl Tryz_nm141 rfl) (Tryz_laws_toDriveS (eP1.sees 1 rfl) (by first | assumption | omega)) (fun v1 w3 r1 => ?_)
    obtain ⟨e2, r1⟩ := r1
    obtain ⟨fp1, H3⟩ := eP1.res e2 r1
    obtain ⟨a1, k1, q1⟩ := own_slice (H3.mine 1 rfl)
    cases q1
    refine s_val (wn rfl) rfl rfl (py_elz Tryz.underlying34 Tryz.sizeOf147 rfl rfl ee2 k (by omega) (by omega)) ?_
    refine s_elst2 (wn rfl) Tryz.sizeOf147 rfl H3 0 1 rfl rfl rfl k (by rw [cp_len (xs := xs) (k := k) (by omega)]; omega) rfl ee2 rfl (fun w4 fp2 H4 => ?_)
    refine s_nil ?_
    obtain ⟨hg, hg2⟩ := szL_get hl k (by omega)
    refine W_reg ?_
    refine s_val (wn rfl) rfl rfl (py_move rfl) (s_val (wn rfl) rfl rfl (py_add rfl rfl (in64 ⟨by omega, by omega⟩)) (s_val (wn rfl) rfl rfl (py_assign rfl) ?_))
    refine s_nil ?_
    refine ⟨(k + 1, _), ⟨rfl, rfl, rfl, trivial⟩, ⟨cp_set (xs := xs) (k := k) (d := []) (by omega) ▸ ((H4.ftake 1).dtake 1), by omega⟩, by dsimp only; omega⟩
  · refine W_exit ?_
    refine W_seq ?_
    refine W_reg ?_
    refine s_val (wn rfl) rfl rfl (py_move rfl) (s_val (wn rfl) rfl rfl (py_assign rfl) ?_)
    refine s_nil ?_
    refine W_ret (hQ _ _ (fin1 Tryz.results72 rfl ?_))
    obtain rfl : k = xs.length := by omega
    exact ⟨H2.ext, by
      have h := H2.out 0 rfl
      rwa [cp_all] at h⟩
theorem Tryz_laws_eqDriveSS {w : World} {xs : List (List Drive)} {xsA : Option Addr} {xsC : Nat} {ys : List (List Drive)} {ysA : Option Addr} {ysC : Nat} (xsS : Sees w [.slice xsA xs.length xsC] xs) (ysS : Sees w [.slice ysA ys.length ysC] ys) : Ret Tryz.prog 79 #[.slice xsA xs.length xsC, .slice ysA ys.length ysC] w fun v w' => Ext No w w' ∧ (v = .bool (decide (xs = ys))) := by
  have xsL := sees_len xsS
  unfold maxLen at xsL
  obtain ⟨xsF, xsO⟩ := xsS
  have ysL := sees_len ysS
  unfold maxLen at ysL
  obtain ⟨ysF, ysO⟩ := ysS
  refine ret_Q (vs := [.slice xsA xs.length xsC, .slice ysA ys.length ysC]) Tryz.func79 rfl Tryz.ntmps79 rfl (fun Q hQ hN => ?_)
  have H0 := Sep.start (w := w) (F := [seen false [.slice xsA xs.length xsC] xs xsF, seen false [.slice ysA ys.length ysC] ys ysF]) (all_cons xsO (all_cons ysO (by simp)))
  refine W_seq ?_
  refine W_reg ?_
  refine s_val (wn rfl) rfl rfl (py_assign rfl) ?_
  refine s_nil ?_
  refine W_seq ?_
  refine W_seq ?_
  refine W_reg ?_
  refine s_val (wn rfl) rfl rfl (py_move rfl) (s_val (wn rfl) rfl rfl (py_len Tryz.underlying34 rfl) (s_val (wn rfl) rfl rfl (py_move rfl) (s_val (wn rfl) rfl rfl (py_len Tryz.underlying34 rfl) (s_val (wn rfl) rfl rfl (py_neq rfl rfl) ?_))))
  refine s_nil ?_
  refine W_ifd rfl (fun c1 => ?_) (fun c1 => ?_)
  · refine W_seq ?_
    refine W_reg ?_
    refine s_val (wn rfl) rfl rfl (py_assign rfl) ?_
    refine s_nil ?_
    refine W_ret (hQ _ _ (fin1 Tryz.results79 rfl ?_))
    refine ⟨H0.ext, ?_⟩
    rw [decide_eq_false (fun e => by subst e; exact c1 rfl)]
  · refine W_skip ?_
    refine W_seq ?_
    refine W_seq ?_
    refine W_reg ?_
    refine s_val (wn rfl) rfl rfl (py_assign rfl) ?_
    refine s_nil ?_
    refine W_block ?_
    refine W_loop (γ := Nat) (fun k => [(0, .slice xsA xs.length xsC), (1, .slice ysA ys.length ysC), (5, .int .i64 k)]) (fun k w' => Sep No w [] [seen false [.slice xsA xs.length xsC] xs xsF, seen false [.slice ysA ys.length ysC] ys ysF] w' ∧ k ≤ xs.length ∧ (∀ i, i < k → xs.getD i [] = ys.getD i [])) (fun k => xs.length - k) 0 ⟨rfl, rfl, rfl, trivial⟩ ⟨H0, by omega, fun i hi => by omega⟩ (fun k w1 H1 => ?_)
    obtain ⟨H1, hk, he⟩ := H1
    refine W_seq ?_
    refine W_seq ?_
    refine W_reg ?_
    refine s_val (wn rfl) rfl rfl (py_move rfl) (s_val (wn rfl) rfl rfl (py_move rfl) (s_val (wn rfl) rfl rfl (py_len Tryz.underlying34 rfl) (s_val (wn rfl) rfl rfl (py_lss rfl rfl) ?_)))
    refine s_nil ?_
    refine W_ifd rfl (fun c2 => ?_) (fun c2 => ?_)
    · refine W_skip ?_
      refine W_seq ?_
      refine W_block ?_
      refine W_seq ?_
      obtain ⟨eb1, eo1, ea1, ek1, ef1, ee1, ec1, eO1, eH1⟩ := elem_sl (H1.seen 0 rfl) k (by omega)
      have eP1 := H1.look1 0 rfl eO1 eH1
      obtain ⟨eb2, eo2, ea2, ek2, ef2, ee2, ec2, eO2, eH2⟩ := elem_sl (eP1.seen 1 rfl) k (by omega)
      have eP2 := eP1.look1 1 rfl eO2 eH2
      refine W_drw (S := Ext No _) [(0, true), (1, true), (2, true), (3, true), (4, true), (5, true), (6, true), (7, true), (8, false), (9, false)] (by kernel_rfl) (by kernel_rfl) (by kernel_rfl) rfl (fun _ => Ext.refl.drawn _) (fun q1 => ?_)
      have H2 := eP2.drawn q1
      refine d_val rfl (wn rfl) rfl rfl (fun zw hx => py_move rfl) (d_val rfl (wn rfl) rfl rfl (fun zw hx => py_move rfl) (d_val rfl (wn rfl) rfl rfl (fun zw hx => py_elz Tryz.underlying34 Tryz.sizeOf147 rfl rfl ee1 k (by omega) (by omega)) (d_val rfl (wn rfl) rfl rfl (fun zw hx => py_load Tryz.underlying147 rfl rfl (hx.cell ec1)) (d_val rfl (wn rfl) rfl rfl (fun zw hx => py_move rfl) (d_val rfl (wn rfl) rfl rfl (fun zw hx => py_move rfl) (d_val rfl (wn rfl) rfl rfl (fun zw hx => py_elz Tryz.underlying34 Tryz.sizeOf147 rfl rfl ee2 k (by omega) (by omega)) (d_val rfl (wn rfl) rfl rfl (fun zw hx => py_load Tryz.underlying147 rfl rfl (hx.cell ec2)) ?_)))))))
      refine d_call rfl (wn rfl) rfl rfl (pc_call Tryz.func144 rfl Tryz_nm144 rfl) (Tryz_laws_eqDriveS (H2.sees 2 rfl) (H2.sees 3 rfl)) (fun hS _ _ r _ => hS.trans r.1.no) (fun v1 w2 r1 => ?_)
      obtain ⟨e1, rfl⟩ := r1
      have H3 := H2.to e1
      refine d_end rfl (wn rfl) rfl rfl (py_not rfl) ?_
      refine d_nil ?_
      refine W_if rfl (fun c3 => ?_) (fun c3 => ?_)
      · refine W_seq ?_
        refine W_reg ?_
        refine s_val (wn rfl) rfl rfl (py_assign rfl) ?_
        refine s_nil ?_
        refine W_ret (hQ _ _ (fin1 Tryz.results79 rfl ?_))
        refine ⟨H3.ext, ?_⟩
        rw [decide_eq_false (fun e => by subst e; simp at c3)]
      · refine W_skip ?_
        refine W_reg ?_
        refine s_val (wn rfl) rfl rfl (py_move rfl) (s_val (wn rfl) rfl rfl (py_add rfl rfl (in64 ⟨by omega, by omega⟩)) (s_val (wn rfl) rfl rfl (py_assign rfl) ?_))
        refine s_nil ?_
        have c4 : xs.getD k [] = ys.getD k [] := by simpa using c3
        refine ⟨k + 1, ⟨rfl, rfl, rfl, trivial⟩, ⟨(H3.ftake 2), by omega, fun i hi => ?_⟩, by dsimp only; omega⟩
        by_cases e : i = k
        · subst e; exact c4
        · exact he i (by omega)
    · refine W_exit ?_
      refine W_seq ?_
      refine W_reg ?_
      refine s_val (wn rfl) rfl rfl (py_assign rfl) ?_
      refine s_nil ?_
      refine W_ret (hQ _ _ (fin1 Tryz.results79 rfl ?_))
      refine ⟨H1.ext, ?_⟩
      rw [decide_eq_true (getD_ext (d := []) (by omega) fun i hi => he i (by omega))]
theorem Tryz_laws_szRec {w : World} {x : Rec} {xA6 : Option Addr} {xC6 : Nat} {xA7 : Option Addr} {xC7 : Nat} {xA8 : Option Addr} {xC8 : Nat} {l : Int} (xK : x.Ok) (xS6 : Sees w [.slice xA6 x.Rows.length xC6] x.Rows) (xS7 : Sees w [.slice xA7 x.Data.length xC7] x.Data) (xS8 : Sees w [.slice xA8 x.Delta.length xC8] x.Delta) (hl : -1 ≤ l ∧ l ≤ 1048576) : Ret Tryz.prog 39 #[x.val xA6 xC6 xA7 xC7 xA8 xC8, .int .i64 l] w fun v w' => Ext No w w' ∧ (v = .int .i64 (if l - szRec x < 0 then -1 else l - szRec x)) := by
  have xK2 := xK
  unfold Rec.Ok at xK2
  try unfold I64ok at xK2
  try unfold maxLen at xK2
  have xN2 : x.Name.size ≤ maxLen := by unfold maxLen; omega
  have xL6 := sees_len xS6
  unfold maxLen at xL6
  obtain ⟨xF6, xO6⟩ := xS6
  have xL7 := sees_len xS7
  unfold maxLen at xL7
  obtain ⟨xF7, xO7⟩ := xS7
  have xL8 := sees_len xS8
  unfold maxLen at xL8
  obtain ⟨xF8, xO8⟩ := xS8
  refine ret_Q (vs := [x.val xA6 xC6 xA7 xC7 xA8 xC8, .int .i64 l]) Tryz.func39 rfl Tryz.ntmps39 rfl (fun Q hQ hN => ?_)
  have H0 := Sep.start (w := w) (F := [seen false [.slice xA6 x.Rows.length xC6] x.Rows xF6, seen false [.slice xA7 x.Data.length xC7] x.Data xF7, seen false [.slice xA8 x.Delta.length xC8] x.Delta xF8]) (all_cons xO6 (all_cons xO7 (all_cons xO8 (by simp))))
  refine W_seq ?_
  refine W_reg ?_
  refine s_box (wn rfl) rfl rfl H0 (fun b1 w1 e1 g1 H1 => ?_)
  refine s_val (wn rfl) rfl rfl (py_assign rfl) ?_
  refine s_nil ?_
  refine W_seq ?_
  refine W_reg ?_
  refine s_val (wn rfl) rfl rfl (py_move rfl) (s_val (wn rfl) rfl rfl (py_field Tryz.underlying63 rfl Tryz.sizeOf9 rfl rfl) (s_val (wn rfl) rfl rfl (py_load Tryz.underlying9 rfl rfl (cell_atL (H1.box 0 rfl) rfl)) (s_val (wn rfl) rfl rfl (py_slen Tryz.underlying9 rfl) (s_val (wn rfl) rfl rfl (py_sub rfl rfl (in64 ⟨by omega, by omega⟩)) (s_val (wn rfl) rfl rfl (py_assign rfl) ?_)))))
  refine s_nil ?_
  refine W_seq ?_
  refine W_seq ?_
  refine W_reg ?_
  refine s_val (wn rfl) rfl rfl (py_move rfl) (s_val (wn rfl) rfl rfl (py_lss rfl rfl) ?_)
  refine s_nil ?_
  refine W_ifd rfl (fun c1 => ?_) (fun c1 => ?_)
  · refine W_seq ?_
    refine W_reg ?_
    refine s_val (wn rfl) rfl rfl (py_assign rfl) ?_
    refine s_nil ?_
    refine W_ret (hQ _ _ (fin1 Tryz.results39 rfl ?_))
    exact ⟨H1.ext, congrArg (Value.int .i64) (by unfold szRec; omega)⟩
  · refine W_skip ?_
    refine W_seq ?_
    refine W_reg ?_
    refine s_val (wn rfl) rfl rfl (py_field Tryz.underlying63 rfl Tryz.sizeOf25 rfl rfl) (s_val (wn rfl) rfl rfl (py_load Tryz.underlying25 rfl rfl (cell_atL (H1.box 0 rfl) rfl)) (s_val (wn rfl) rfl rfl (py_move rfl) ?_))
    refine s_call (wn rfl) rfl rfl (pc_call Tryz.func67 rfl Tryz_nm67 rfl) (Tryz_laws_szInt64S (H1.sees 0 rfl) (by omega)) (fun v1 w2 r1 => ?_)
    obtain ⟨e2, rfl⟩ := r1
    have H2 := H1.to e2
    refine s_val (wn rfl) rfl rfl (py_assign rfl) ?_
    refine s_nil ?_
    refine W_seq ?_
    refine W_seq ?_
    refine W_reg ?_
    refine s_val (wn rfl) rfl rfl (py_move rfl) (s_val (wn rfl) rfl rfl (py_lss rfl rfl) ?_)
    refine s_nil ?_
    refine W_ifd rfl (fun c2 => ?_) (fun c2 => ?_)
    · refine W_seq ?_
      refine W_reg ?_
      refine s_val (wn rfl) rfl rfl (py_assign rfl) ?_
      refine s_nil ?_
      refine W_ret (hQ _ _ (fin1 Tryz.results39 rfl ?_))
      exact ⟨H2.ext, congrArg (Value.int .i64) (by unfold szRec; omega)⟩
    · refine W_skip ?_
      refine W_seq ?_
      refine W_reg ?_
      refine s_val (wn rfl) rfl rfl (py_field Tryz.underlying63 rfl Tryz.sizeOf61 rfl rfl) (s_val (wn rfl) rfl rfl (py_load Tryz.underlying61 rfl rfl (cell_atL (H2.box 0 rfl) rfl)) (s_val (wn rfl) rfl rfl (py_move rfl) ?_))
      refine s_call (wn rfl) rfl rfl (pc_call Tryz.func107 rfl Tryz_nm107 rfl) (Tryz_laws_szByteS (H2.sees 1 rfl) (by omega)) (fun v2 w3 r2 => ?_)
      obtain ⟨e3, rfl⟩ := r2
      have H3 := H2.to e3
      refine s_val (wn rfl) rfl rfl (py_assign rfl) ?_
      refine s_nil ?_
      refine W_seq ?_
      refine W_seq ?_
      refine W_reg ?_
      refine s_val (wn rfl) rfl rfl (py_move rfl) (s_val (wn rfl) rfl rfl (py_lss rfl rfl) ?_)
      refine s_nil ?_
      refine W_ifd rfl (fun c3 => ?_) (fun c3 => ?_)
      · refine W_seq ?_
        refine W_reg ?_
        refine s_val (wn rfl) rfl rfl (py_assign rfl) ?_
        refine s_nil ?_
        refine W_ret (hQ _ _ (fin1 Tryz.results39 rfl ?_))
        exact ⟨H3.ext, congrArg (Value.int .i64) (by unfold szRec; omega)⟩
      · refine W_skip ?_
        refine W_seq ?_
        refine W_reg ?_
        refine s_val (wn rfl) rfl rfl (py_field Tryz.underlying63 rfl Tryz.sizeOf61 rfl rfl) (s_val (wn rfl) rfl rfl (py_load Tryz.underlying61 rfl rfl (cell_atL (H3.box 0 rfl) rfl)) (s_val (wn rfl) rfl rfl (py_move rfl) ?_))
        refine s_call (wn rfl) rfl rfl (pc_call Tryz.func107 rfl Tryz_nm107 rfl) (Tryz_laws_szByteS (H3.sees 2 rfl) (by omega)) (fun v3 w4 r3 => ?_)
        obtain ⟨e4, rfl⟩ := r3
        have H4 := H3.to e4
        refine s_val (wn rfl) rfl rfl (py_assign rfl) ?_
        refine s_nil ?_
        refine W_seq ?_
        refine W_seq ?_
        refine W_reg ?_
        refine s_val (wn rfl) rfl rfl (py_move rfl) (s_val (wn rfl) rfl rfl (py_lss rfl rfl) ?_)
        refine s_nil ?_
        refine W_ifd rfl (fun c4 => ?_) (fun c4 => ?_)
        · refine W_seq ?_
          refine W_reg ?_
          refine s_val (wn rfl) rfl rfl (py_assign rfl) ?_
          refine s_nil ?_
          refine W_ret (hQ _ _ (fin1 Tryz.results39 rfl ?_))
          exact ⟨H4.ext, congrArg (Value.int .i64) (by unfold szRec; omega)⟩
        · refine W_skip ?_
          refine W_seq ?_
          refine W_reg ?_
          refine s_val (wn rfl) rfl rfl (py_move rfl) (s_val (wn rfl) rfl rfl (py_assign rfl) ?_)
          refine s_nil ?_
          refine W_ret (hQ _ _ (fin1 Tryz.results39 rfl ?_))
          exact ⟨H4.ext, congrArg (Value.int .i64) (by unfold szRec; omega)⟩
theorem Tryz_laws_toRec {w : World} {x : Rec} {xA6 : Option Addr} {xC6 : Nat} {xA7 : Option Addr} {xC7 : Nat} {xA8 : Option Addr} {xC8 : Nat} (xK : x.Ok) (xS6 : Sees w [.slice xA6 x.Rows.length xC6] x.Rows) (xS7 : Sees w [.slice xA7 x.Data.length xC7] x.Data) (xS8 : Sees w [.slice xA8 x.Delta.length xC8] x.Delta) (hb : szRec x ≤ 1048576) : Ret Tryz.prog 41 #[x.val xA6 xC6 xA7 xC7 xA8 xC8] w fun v w' => Ext No w w' ∧ (∃ A6 C6 A7 C7 A8 C8, v = x.val A6 C6 A7 C7 A8 C8 ∧ Res w w' [.int .i64 x.Kind, .int .i64 x.Seq, .string x.Name, .int .i64 x.Length, .int .i64 x.Group, .int .i64 x.Row, .slice A6 x.Rows.length C6, .slice A7 x.Data.length C7, .slice A8 x.Delta.length C8] x) := by
  have xK2 := xK
  unfold Rec.Ok at xK2
  try unfold I64ok at xK2
  try unfold maxLen at xK2
  have xN2 : x.Name.size ≤ maxLen := by unfold maxLen; omega
  have xL6 := sees_len xS6
  unfold maxLen at xL6
  obtain ⟨xF6, xO6⟩ := xS6
  have xL7 := sees_len xS7
  unfold maxLen at xL7
  obtain ⟨xF7, xO7⟩ := xS7
  have xL8 := sees_len xS8
  unfold maxLen at xL8
  obtain ⟨xF8, xO8⟩ := xS8
  unfold szRec at hb
  refine ret_Q (vs := [x.val xA6 xC6 xA7 xC7 xA8 xC8]) Tryz.func41 rfl Tryz.ntmps41 rfl (fun Q hQ hN => ?_)
  have H0 := Sep.start (w := w) (F := [seen false [.slice xA6 x.Rows.length xC6] x.Rows xF6, seen false [.slice xA7 x.Data.length xC7] x.Data xF7, seen false [.slice xA8 x.Delta.length xC8] x.Delta xF8]) (all_cons xO6 (all_cons xO7 (all_cons xO8 (by simp))))
  refine W_seq ?_
  refine W_reg ?_
  refine s_box (wn rfl) rfl rfl H0 (fun b1 w1 e1 g1 H1 => ?_)
  refine s_var (wn rfl) rfl Tryz.zeroValue66 H1 (fun b2 w2 e2 g2 H2 => ?_)
  refine s_nil ?_
  refine W_seq ?_
  refine W_reg ?_
  refine s_var (wn rfl) rfl Tryz.zeroValue66 H2 (fun b3 w3 e3 g3 H3 => ?_)
  refine s_nil ?_
  refine W_seq ?_
  refine W_reg ?_
  refine s_val (wn rfl) rfl rfl (py_field Tryz.underlying63 rfl Tryz.sizeOf2 rfl rfl) (s_val (wn rfl) rfl rfl (py_load Tryz.underlying2 rfl rfl (cell_atL (H3.box 0 rfl) rfl)) (s_val (wn rfl) rfl rfl (py_field Tryz.underlying66 rfl Tryz.sizeOf2 rfl rfl) ?_))
  refine s_sto (wn rfl) Tryz.sizeOf2 rfl rfl rfl H3 2 rfl rfl (fun w4 e4 H4 => ?_)
  dsimp only [List.nil_append, List.cons_append, List.set_cons_zero, List.set_cons_succ, layL] at H4
  refine s_nil ?_
  refine W_seq ?_
  refine W_reg ?_
  refine s_val (wn rfl) rfl rfl (py_field Tryz.underlying63 rfl Tryz.sizeOf2 rfl rfl) (s_val (wn rfl) rfl rfl (py_load Tryz.underlying2 rfl rfl (cell_atL (H4.box 0 rfl) rfl)) (s_val (wn rfl) rfl rfl (py_field Tryz.underlying66 rfl Tryz.sizeOf2 rfl rfl) ?_))
  refine s_sto (wn rfl) Tryz.sizeOf2 rfl rfl rfl H4 2 rfl rfl (fun w5 e5 H5 => ?_)
  dsimp only [List.nil_append, List.cons_append, List.set_cons_zero, List.set_cons_succ, layL] at H5
  refine s_nil ?_
  refine W_seq ?_
  refine W_reg ?_
  refine s_val (wn rfl) rfl rfl (py_field Tryz.underlying63 rfl Tryz.sizeOf9 rfl rfl) (s_val (wn rfl) rfl rfl (py_load Tryz.underlying9 rfl rfl (cell_atL (H5.box 0 rfl) rfl)) (s_val (wn rfl) rfl rfl (py_field Tryz.underlying66 rfl Tryz.sizeOf9 rfl rfl) ?_))
  refine s_sto (wn rfl) Tryz.sizeOf9 rfl rfl rfl H5 2 rfl rfl (fun w6 e6 H6 => ?_)
  dsimp only [List.nil_append, List.cons_append, List.set_cons_zero, List.set_cons_succ, layL] at H6
  refine s_nil ?_
  refine W_seq ?_
  refine W_reg ?_
  refine s_val (wn rfl) rfl rfl (py_field Tryz.underlying63 rfl Tryz.sizeOf2 rfl rfl) (s_val (wn rfl) rfl rfl (py_load Tryz.underlying2 rfl rfl (cell_atL (H6.box 0 rfl) rfl)) (s_val (wn rfl) rfl rfl (py_field Tryz.underlying66 rfl Tryz.sizeOf2 rfl rfl) ?_))
  refine s_sto (wn rfl) Tryz.sizeOf2 rfl rfl rfl H6 2 rfl rfl (fun w7 e7 H7 => ?_)
  dsimp only [List.nil_append, List.cons_append, List.set_cons_zero, List.set_cons_succ, layL] at H7
  refine s_nil ?_
  refine W_seq ?_
  refine W_reg ?_
  refine s_val (wn rfl) rfl rfl (py_field Tryz.underlying63 rfl Tryz.sizeOf2 rfl rfl) (s_val (wn rfl) rfl rfl (py_load Tryz.underlying2 rfl rfl (cell_atL (H7.box 0 rfl) rfl)) (s_val (wn rfl) rfl rfl (py_field Tryz.underlying66 rfl Tryz.sizeOf2 rfl rfl) ?_))
  refine s_sto (wn rfl) Tryz.sizeOf2 rfl rfl rfl H7 2 rfl rfl (fun w8 e8 H8 => ?_)
  dsimp only [List.nil_append, List.cons_append, List.set_cons_zero, List.set_cons_succ, layL] at H8
  refine s_nil ?_
  refine W_seq ?_
  refine W_reg ?_
  refine s_val (wn rfl) rfl rfl (py_field Tryz.underlying63 rfl Tryz.sizeOf2 rfl rfl) (s_val (wn rfl) rfl rfl (py_load Tryz.underlying2 rfl rfl (cell_atL (H8.box 0 rfl) rfl)) (s_val (wn rfl) rfl rfl (py_field Tryz.underlying66 rfl Tryz.sizeOf2 rfl rfl) ?_))
  refine s_sto (wn rfl) Tryz.sizeOf2 rfl rfl rfl H8 2 rfl rfl (fun w9 e9 H9 => ?_)
  dsimp only [List.nil_append, List.cons_append, List.set_cons_zero, List.set_cons_succ, layL] at H9
  refine s_nil ?_
  refine W_seq ?_
  refine W_reg ?_
  refine s_val (wn rfl) rfl rfl (py_field Tryz.underlying63 rfl Tryz.sizeOf25 rfl rfl) (s_val (wn rfl) rfl rfl (py_load Tryz.underlying25 rfl rfl (cell_atL (H9.box 0 rfl) rfl)) ?_)
  refine s_call (wn rfl) rfl rfl (pc_call Tryz.func73 rfl Tryz_nm73 rfl) (Tryz_laws_toInt64S (H9.sees 0 rfl) (by omega)) (fun v1 w10 r1 => ?_)
  obtain ⟨e10, r1⟩ := r1
  obtain ⟨fp1, H10⟩ := H9.res e10 r1
  obtain ⟨a1, k1, q1⟩ := own_slice (H10.mine 3 rfl)
  cases q1
  refine s_val (wn rfl) rfl rfl (py_field Tryz.underlying66 rfl Tryz.sizeOf25 rfl rfl) ?_
  refine s_sto (wn rfl) Tryz.sizeOf25 rfl rfl rfl H10 2 rfl rfl (fun w11 e11 H11 => ?_)
  dsimp only [List.nil_append, List.cons_append, List.set_cons_zero, List.set_cons_succ, layL] at H11
  refine s_nil ?_
  refine W_seq ?_
  refine W_reg ?_
  refine s_val (wn rfl) rfl rfl (py_field Tryz.underlying63 rfl Tryz.sizeOf61 rfl rfl) (s_val (wn rfl) rfl rfl (py_load Tryz.underlying61 rfl rfl (cell_atL (H11.box 0 rfl) rfl)) ?_)
  refine s_call (wn rfl) rfl rfl (pc_call Tryz.func53 rfl Tryz_nm53 rfl) (Tryz_laws_toByteS (H11.sees 1 rfl) (by omega)) (fun v2 w12 r2 => ?_)
  obtain ⟨e12, r2⟩ := r2
  obtain ⟨fp2, H12⟩ := H11.res e12 r2
  obtain ⟨a2, k2, q2⟩ := own_slice (H12.mine 4 rfl)
  cases q2
  refine s_val (wn rfl) rfl rfl (py_field Tryz.underlying66 rfl Tryz.sizeOf61 rfl rfl) ?_
  refine s_sto (wn rfl) Tryz.sizeOf61 rfl rfl rfl H12 2 rfl rfl (fun w13 e13 H13 => ?_)
  dsimp only [List.nil_append, List.cons_append, List.set_cons_zero, List.set_cons_succ, layL] at H13
  refine s_nil ?_
  refine W_seq ?_
  refine W_reg ?_
  refine s_val (wn rfl) rfl rfl (py_field Tryz.underlying63 rfl Tryz.sizeOf61 rfl rfl) (s_val (wn rfl) rfl rfl (py_load Tryz.underlying61 rfl rfl (cell_atL (H13.box 0 rfl) rfl)) ?_)
  refine s_call (wn rfl) rfl rfl (pc_call Tryz.func53 rfl Tryz_nm53 rfl) (Tryz_laws_toByteS (H13.sees 2 rfl) (by omega)) (fun v3 w14 r3 => ?_)
  obtain ⟨e14, r3⟩ := r3
  obtain ⟨fp3, H14⟩ := H13.res e14 r3
  obtain ⟨a3, k3, q3⟩ := own_slice (H14.mine 5 rfl)
  cases q3
  refine s_val (wn rfl) rfl rfl (py_field Tryz.underlying66 rfl Tryz.sizeOf61 rfl rfl) ?_
  refine s_sto (wn rfl) Tryz.sizeOf61 rfl rfl rfl H14 2 rfl rfl (fun w15 e15 H15 => ?_)
  dsimp only [List.nil_append, List.cons_append, List.set_cons_zero, List.set_cons_succ, layL] at H15
  refine s_nil ?_
  refine W_seq ?_
  refine W_reg ?_
  refine s_val (wn rfl) rfl rfl (py_loadS Tryz.underlying66 rfl Tryz.sizeOf66 rfl rfl (At.whole (H15.box 2 rfl))) ?_
  refine s_stoS (wn rfl) Tryz.sizeOf66 rfl rfl rfl rfl H15 1 rfl rfl (fun w16 e16 H16 => ?_)
  dsimp only [List.nil_append, List.cons_append, List.set_cons_zero, List.set_cons_succ, layL] at H16
  refine s_nil ?_
  refine W_ret (hQ _ _ (finC Tryz.results41 rfl (run_loadVarS Tryz.underlying66 rfl Tryz.sizeOf66 rfl (At.whole (H16.box 1 rfl))) ?_))
  exact ⟨H16.ext, _, _, _, _, _, _, rfl, Rec.out (H16.sub (.cons _ (.cons _ (.cons _ (.cons_cons _ (.cons_cons _ (.cons_cons _ List.Sublist.slnil))))))) xK⟩
theorem Tryz_laws_eqRec {w : World} {a : Rec} {aA6 : Option Addr} {aC6 : Nat} {aA7 : Option Addr} {aC7 : Nat} {aA8 : Option Addr} {aC8 : Nat} {b : Rec} {bA6 : Option Addr} {bC6 : Nat} {bA7 : Option Addr} {bC7 : Nat} {bA8 : Option Addr} {bC8 : Nat} (aK : a.Ok) (aS6 : Sees w [.slice aA6 a.Rows.length aC6] a.Rows) (aS7 : Sees w [.slice aA7 a.Data.length aC7] a.Data) (aS8 : Sees w [.slice aA8 a.Delta.length aC8] a.Delta) (bK : b.Ok) (bS6 : Sees w [.slice bA6 b.Rows.length bC6] b.Rows) (bS7 : Sees w [.slice bA7 b.Data.length bC7] b.Data) (bS8 : Sees w [.slice bA8 b.Delta.length bC8] b.Delta) : Ret Tryz.prog 43 #[a.val aA6 aC6 aA7 aC7 aA8 aC8, b.val bA6 bC6 bA7 bC7 bA8 bC8] w fun v w' => Ext No w w' ∧ (v = .bool (decide (a = b))) := by
  have aK2 := aK
  unfold Rec.Ok at aK2
  try unfold I64ok at aK2
  try unfold maxLen at aK2
  have aN2 : a.Name.size ≤ maxLen := by unfold maxLen; omega
  have aL6 := sees_len aS6
  unfold maxLen at aL6
  obtain ⟨aF6, aO6⟩ := aS6
  have aL7 := sees_len aS7
  unfold maxLen at aL7
  obtain ⟨aF7, aO7⟩ := aS7
  have aL8 := sees_len aS8
  unfold maxLen at aL8
  obtain ⟨aF8, aO8⟩ := aS8
  have bK2 := bK
  unfold Rec.Ok at bK2
  try unfold I64ok at bK2
  try unfold maxLen at bK2
  have bN2 : b.Name.size ≤ maxLen := by unfold maxLen; omega
  have bL6 := sees_len bS6
  unfold maxLen at bL6
  obtain ⟨bF6, bO6⟩ := bS6
  have bL7 := sees_len bS7
  unfold maxLen at bL7
  obtain ⟨bF7, bO7⟩ := bS7
  have bL8 := sees_len bS8
  unfold maxLen at bL8
  obtain ⟨bF8, bO8⟩ := bS8
  refine ret_Q (vs := [a.val aA6 aC6 aA7 aC7 aA8 aC8, b.val bA6 bC6 bA7 bC7 bA8 bC8]) Tryz.func43 rfl Tryz.ntmps43 rfl (fun Q hQ hN => ?_)
  have H0 := Sep.start (w := w) (F := [seen false [.slice aA6 a.Rows.length aC6] a.Rows aF6, seen false [.slice aA7 a.Data.length aC7] a.Data aF7, seen false [.slice aA8 a.Delta.length aC8] a.Delta aF8, seen false [.slice bA6 b.Rows.length bC6] b.Rows bF6, seen false [.slice bA7 b.Data.length bC7] b.Data bF7, seen false [.slice bA8 b.Delta.length bC8] b.Delta bF8]) (all_cons aO6 (all_cons aO7 (all_cons aO8 (all_cons bO6 (all_cons bO7 (all_cons bO8 (by simp)))))))
  refine W_seq ?_
  refine W_reg ?_
  refine s_box (wn rfl) rfl rfl H0 (fun b1 w1 e1 g1 H1 => ?_)
  refine s_box (wn rfl) rfl rfl H1 (fun b2 w2 e2 g2 H2 => ?_)
  refine s_val (wn rfl) rfl rfl (py_assign rfl) ?_
  refine s_nil ?_
  refine W_seq ?_
  refine W_seq ?_
  refine W_reg ?_
  refine s_val (wn rfl) rfl rfl (py_field Tryz.underlying66 rfl Tryz.sizeOf2 rfl rfl) (s_val (wn rfl) rfl rfl (py_load Tryz.underlying2 rfl rfl (cell_atL (H2.box 0 rfl) rfl)) (s_val (wn rfl) rfl rfl (py_field Tryz.underlying66 rfl Tryz.sizeOf2 rfl rfl) (s_val (wn rfl) rfl rfl (py_load Tryz.underlying2 rfl rfl (cell_atL (H2.box 1 rfl) rfl)) (s_val (wn rfl) rfl rfl (py_neq rfl rfl) ?_))))
  refine s_nil ?_
  refine W_ifd rfl (fun c1 => ?_) (fun c1 => ?_)
  · refine W_seq ?_
    refine W_reg ?_
    refine s_val (wn rfl) rfl rfl (py_assign rfl) ?_
    refine s_nil ?_
    refine W_ret (hQ _ _ (fin1 Tryz.results43 rfl ?_))
    refine ⟨H2.ext, ?_⟩
    rw [decide_eq_false (fun e => by subst e; first | exact c1 rfl | simp at c1)]
  · refine W_skip ?_
    refine W_seq ?_
    refine W_seq ?_
    refine W_reg ?_
    refine s_val (wn rfl) rfl rfl (py_field Tryz.underlying66 rfl Tryz.sizeOf2 rfl rfl) (s_val (wn rfl) rfl rfl (py_load Tryz.underlying2 rfl rfl (cell_atL (H2.box 0 rfl) rfl)) (s_val (wn rfl) rfl rfl (py_field Tryz.underlying66 rfl Tryz.sizeOf2 rfl rfl) (s_val (wn rfl) rfl rfl (py_load Tryz.underlying2 rfl rfl (cell_atL (H2.box 1 rfl) rfl)) (s_val (wn rfl) rfl rfl (py_neq rfl rfl) ?_))))
    refine s_nil ?_
    refine W_ifd rfl (fun c2 => ?_) (fun c2 => ?_)
    · refine W_seq ?_
      refine W_reg ?_
      refine s_val (wn rfl) rfl rfl (py_assign rfl) ?_
      refine s_nil ?_
      refine W_ret (hQ _ _ (fin1 Tryz.results43 rfl ?_))
      refine ⟨H2.ext, ?_⟩
      rw [decide_eq_false (fun e => by subst e; first | exact c2 rfl | simp at c2)]
    · refine W_skip ?_
      refine W_seq ?_
      refine W_seq ?_
      refine W_reg ?_
      refine s_val (wn rfl) rfl rfl (py_field Tryz.underlying66 rfl Tryz.sizeOf9 rfl rfl) (s_val (wn rfl) rfl rfl (py_load Tryz.underlying9 rfl rfl (cell_atL (H2.box 0 rfl) rfl)) (s_val (wn rfl) rfl rfl (py_field Tryz.underlying66 rfl Tryz.sizeOf9 rfl rfl) (s_val (wn rfl) rfl rfl (py_load Tryz.underlying9 rfl rfl (cell_atL (H2.box 1 rfl) rfl)) (s_val (wn rfl) rfl rfl (py_sneq rfl rfl) ?_))))
      refine s_nil ?_
      refine W_if rfl (fun c3 => ?_) (fun c3 => ?_)
      · refine W_seq ?_
        refine W_reg ?_
        refine s_val (wn rfl) rfl rfl (py_assign rfl) ?_
        refine s_nil ?_
        refine W_ret (hQ _ _ (fin1 Tryz.results43 rfl ?_))
        refine ⟨H2.ext, ?_⟩
        rw [decide_eq_false (fun e => by subst e; first | exact c3 rfl | simp at c3)]
      · refine W_skip ?_
        refine W_seq ?_
        refine W_seq ?_
        refine W_reg ?_
        refine s_val (wn rfl) rfl rfl (py_field Tryz.underlying66 rfl Tryz.sizeOf2 rfl rfl) (s_val (wn rfl) rfl rfl (py_load Tryz.underlying2 rfl rfl (cell_atL (H2.box 0 rfl) rfl)) (s_val (wn rfl) rfl rfl (py_field Tryz.underlying66 rfl Tryz.sizeOf2 rfl rfl) (s_val (wn rfl) rfl rfl (py_load Tryz.underlying2 rfl rfl (cell_atL (H2.box 1 rfl) rfl)) (s_val (wn rfl) rfl rfl (py_neq rfl rfl) ?_))))
        refine s_nil ?_
        refine W_ifd rfl (fun c4 => ?_) (fun c4 => ?_)
        · refine W_seq ?_
          refine W_reg ?_
          refine s_val (wn rfl) rfl rfl (py_assign rfl) ?_
          refine s_nil ?_
          refine W_ret (hQ _ _ (fin1 Tryz.results43 rfl ?_))
          refine ⟨H2.ext, ?_⟩
          rw [decide_eq_false (fun e => by subst e; first | exact c4 rfl | simp at c4)]
        · refine W_skip ?_
          refine W_seq ?_
          refine W_seq ?_
          refine W_reg ?_
          refine s_val (wn rfl) rfl rfl (py_field Tryz.underlying66 rfl Tryz.sizeOf2 rfl rfl) (s_val (wn rfl) rfl rfl (py_load Tryz.underlying2 rfl rfl (cell_atL (H2.box 0 rfl) rfl)) (s_val (wn rfl) rfl rfl (py_field Tryz.underlying66 rfl Tryz.sizeOf2 rfl rfl) (s_val (wn rfl) rfl rfl (py_load Tryz.underlying2 rfl rfl (cell_atL (H2.box 1 rfl) rfl)) (s_val (wn rfl) rfl rfl (py_neq rfl rfl) ?_))))
          refine s_nil ?_
          refine W_ifd rfl (fun c5 => ?_) (fun c5 => ?_)
          · refine W_seq ?_
            refine W_reg ?_
            refine s_val (wn rfl) rfl rfl (py_assign rfl) ?_
            refine s_nil ?_
            refine W_ret (hQ _ _ (fin1 Tryz.results43 rfl ?_))
            refine ⟨H2.ext, ?_⟩
            rw [decide_eq_false (fun e => by subst e; first | exact c5 rfl | simp at c5)]
          · refine W_skip ?_
            refine W_seq ?_
            refine W_seq ?_
            refine W_reg ?_
            refine s_val (wn rfl) rfl rfl (py_field Tryz.underlying66 rfl Tryz.sizeOf2 rfl rfl) (s_val (wn rfl) rfl rfl (py_load Tryz.underlying2 rfl rfl (cell_atL (H2.box 0 rfl) rfl)) (s_val (wn rfl) rfl rfl (py_field Tryz.underlying66 rfl Tryz.sizeOf2 rfl rfl) (s_val (wn rfl) rfl rfl (py_load Tryz.underlying2 rfl rfl (cell_atL (H2.box 1 rfl) rfl)) (s_val (wn rfl) rfl rfl (py_neq rfl rfl) ?_))))
            refine s_nil ?_
            refine W_ifd rfl (fun c6 => ?_) (fun c6 => ?_)
            · refine W_seq ?_
              refine W_reg ?_
              refine s_val (wn rfl) rfl rfl (py_assign rfl) ?_
              refine s_nil ?_
              refine W_ret (hQ _ _ (fin1 Tryz.results43 rfl ?_))
              refine ⟨H2.ext, ?_⟩
              rw [decide_eq_false (fun e => by subst e; first | exact c6 rfl | simp at c6)]
            · refine W_skip ?_
              refine W_seq ?_
              refine W_seq ?_
              refine W_reg ?_
              refine s_val (wn rfl) rfl rfl (py_field Tryz.underlying66 rfl Tryz.sizeOf25 rfl rfl) (s_val (wn rfl) rfl rfl (py_load Tryz.underlying25 rfl rfl (cell_atL (H2.box 0 rfl) rfl)) (s_val (wn rfl) rfl rfl (py_field Tryz.underlying66 rfl Tryz.sizeOf25 rfl rfl) (s_val (wn rfl) rfl rfl (py_load Tryz.underlying25 rfl rfl (cell_atL (H2.box 1 rfl) rfl)) ?_)))
              refine s_call (wn rfl) rfl rfl (pc_call Tryz.func80 rfl Tryz_nm80 rfl) (Tryz_laws_eqInt64S (H2.sees 0 rfl) (H2.sees 3 rfl)) (fun v1 w3 r1 => ?_)
              obtain ⟨e3, rfl⟩ := r1
              have H3 := H2.to e3
              refine s_val (wn rfl) rfl rfl (py_not rfl) ?_
              refine s_nil ?_
              refine W_if rfl (fun c7 => ?_) (fun c7 => ?_)
              · refine W_seq ?_
                refine W_reg ?_
                refine s_val (wn rfl) rfl rfl (py_assign rfl) ?_
                refine s_nil ?_
                refine W_ret (hQ _ _ (fin1 Tryz.results43 rfl ?_))
                refine ⟨H3.ext, ?_⟩
                rw [decide_eq_false (fun e => by subst e; first | exact c7 rfl | simp at c7)]
              · refine W_skip ?_
                refine W_seq ?_
                refine W_seq ?_
                refine W_reg ?_
                refine s_val (wn rfl) rfl rfl (py_field Tryz.underlying66 rfl Tryz.sizeOf61 rfl rfl) (s_val (wn rfl) rfl rfl (py_load Tryz.underlying61 rfl rfl (cell_atL (H3.box 0 rfl) rfl)) (s_val (wn rfl) rfl rfl (py_field Tryz.underlying66 rfl Tryz.sizeOf61 rfl rfl) (s_val (wn rfl) rfl rfl (py_load Tryz.underlying61 rfl rfl (cell_atL (H3.box 1 rfl) rfl)) ?_)))
                refine s_call (wn rfl) rfl rfl (pc_call Tryz.func55 rfl Tryz_nm55 rfl) (Tryz_laws_eqByteS (H3.sees 1 rfl) (H3.sees 4 rfl)) (fun v2 w4 r2 => ?_)
                obtain ⟨e4, rfl⟩ := r2
                have H4 := H3.to e4
                refine s_val (wn rfl) rfl rfl (py_not rfl) ?_
                refine s_nil ?_
                refine W_if rfl (fun c8 => ?_) (fun c8 => ?_)
                · refine W_seq ?_
                  refine W_reg ?_
                  refine s_val (wn rfl) rfl rfl (py_assign rfl) ?_
                  refine s_nil ?_
                  refine W_ret (hQ _ _ (fin1 Tryz.results43 rfl ?_))
                  refine ⟨H4.ext, ?_⟩
                  rw [decide_eq_false (fun e => by subst e; first | exact c8 rfl | simp at c8)]
                · refine W_skip ?_
                  refine W_seq ?_
                  refine W_seq ?_
                  refine W_reg ?_
                  refine s_val (wn rfl) rfl rfl (py_field Tryz.underlying66 rfl Tryz.sizeOf61 rfl rfl) (s_val (wn rfl) rfl rfl (py_load Tryz.underlying61 rfl rfl (cell_atL (H4.box 0 rfl) rfl)) (s_val (wn rfl) rfl rfl (py_field Tryz.underlying66 rfl Tryz.sizeOf61 rfl rfl) (s_val (wn rfl) rfl rfl (py_load Tryz.underlying61 rfl rfl (cell_atL (H4.box 1 rfl) rfl)) ?_)))
                  refine s_call (wn rfl) rfl rfl (pc_call Tryz.func55 rfl Tryz_nm55 rfl) (Tryz_laws_eqByteS (H4.sees 2 rfl) (H4.sees 5 rfl)) (fun v3 w5 r3 => ?_)
                  obtain ⟨e5, rfl⟩ := r3
                  have H5 := H4.to e5
                  refine s_val (wn rfl) rfl rfl (py_not rfl) ?_
                  refine s_nil ?_
                  refine W_if rfl (fun c9 => ?_) (fun c9 => ?_)
                  · refine W_seq ?_
                    refine W_reg ?_
                    refine s_val (wn rfl) rfl rfl (py_assign rfl) ?_
                    refine s_nil ?_
                    refine W_ret (hQ _ _ (fin1 Tryz.results43 rfl ?_))
                    refine ⟨H5.ext, ?_⟩
                    rw [decide_eq_false (fun e => by subst e; first | exact c9 rfl | simp at c9)]
                  · refine W_skip ?_
                    refine W_seq ?_
                    refine W_reg ?_
                    refine s_val (wn rfl) rfl rfl (py_assign rfl) ?_
                    refine s_nil ?_
                    refine W_ret (hQ _ _ (fin1 Tryz.results43 rfl ?_))
                    refine ⟨H5.ext, ?_⟩
                    rw [decide_eq_true]
                    cases a; cases b; simp_all [str_beq]
theorem Tryz_laws_szRecS {w : World} {xs : List Rec} {xsA : Option Addr} {xsC : Nat} {l : Int} (xsS : Sees w [.slice xsA xs.length xsC] xs) (hl : -1 ≤ l ∧ l ≤ 1048576) : Ret Tryz.prog 206 #[.slice xsA xs.length xsC, .int .i64 l] w fun v w' => Ext No w w' ∧ (v = .int .i64 (if l - szL szRec xs < 0 then -1 else l - szL szRec xs)) := by
  have xsL := sees_len xsS
  unfold maxLen at xsL
  obtain ⟨xsF, xsO⟩ := xsS
  refine ret_Q (vs := [.slice xsA xs.length xsC, .int .i64 l]) Tryz.func206 rfl Tryz.ntmps206 rfl (fun Q hQ hN => ?_)
  have H0 := Sep.start (w := w) (F := [seen false [.slice xsA xs.length xsC] xs xsF]) (all_cons xsO (by simp))
  refine W_seq ?_
  refine W_reg ?_
  refine s_val (wn rfl) rfl rfl (py_assign rfl) ?_
  refine s_nil ?_
  refine W_seq ?_
  refine W_reg ?_
  refine s_val (wn rfl) rfl rfl (py_move rfl) (s_val (wn rfl) rfl rfl (py_move rfl) (s_val (wn rfl) rfl rfl (py_len Tryz.underlying143 rfl) (s_val (wn rfl) rfl rfl (py_sub rfl rfl (in64 ⟨by omega, by omega⟩)) (s_val (wn rfl) rfl rfl (py_assign rfl) ?_))))
  refine s_nil ?_
  refine W_seq ?_
  refine W_seq ?_
  refine W_reg ?_
  refine s_val (wn rfl) rfl rfl (py_move rfl) (s_val (wn rfl) rfl rfl (py_lss rfl rfl) ?_)
  refine s_nil ?_
  refine W_ifd rfl (fun c1 => ?_) (fun c1 => ?_)
  · refine W_seq ?_
    refine W_reg ?_
    refine s_val (wn rfl) rfl rfl (py_assign rfl) ?_
    refine s_nil ?_
    refine W_ret (hQ _ _ (fin1 Tryz.results206 rfl ?_))
    exact ⟨H0.ext, by rw [if_pos (by rw [szL_eq (f := szRec)]; omega)]⟩
  · refine W_skip ?_
    refine W_seq ?_
    refine W_seq ?_
    refine W_reg ?_
    refine s_val (wn rfl) rfl rfl (py_assign rfl) ?_
    refine s_nil ?_
    refine W_block ?_
    refine W_loop (γ := Nat × Int) (fun (k, m) => [(0, .slice xsA xs.length xsC), (1, .int .i64 m), (5, .int .i64 k)]) (fun (k, m) w' => Sep No w [] [seen false [.slice xsA xs.length xsC] xs xsF] w' ∧ k ≤ xs.length ∧ 0 ≤ m ∧ m = l - xs.length - sumN (fun i => szRec (xs.getD i default)) k) (fun (k, m) => xs.length - k) (0, _) ⟨rfl, rfl, rfl, trivial⟩ ⟨H0, by omega, by omega, by simp only [sumN]; omega⟩ (fun (k, m) w1 H1 => ?_)
    obtain ⟨H1, hk, hm, hs⟩ := H1
    refine W_seq ?_
    refine W_seq ?_
    refine W_reg ?_
    refine s_val (wn rfl) rfl rfl (py_move rfl) (s_val (wn rfl) rfl rfl (py_move rfl) (s_val (wn rfl) rfl rfl (py_len Tryz.underlying143 rfl) (s_val (wn rfl) rfl rfl (py_lss rfl rfl) ?_)))
    refine s_nil ?_
    refine W_ifd rfl (fun c2 => ?_) (fun c2 => ?_)
    · refine W_skip ?_
      refine W_seq ?_
      refine W_block ?_
      refine W_seq ?_
      obtain ⟨eb1, eo1, es1, ef1, ee1, ec1, eO1, eH1, em1⟩ := elem_st (H1.seen 0 rfl) k (by omega)
      obtain ⟨ea1, ek1, ea2, ek2, ea3, ek3, eg1, eg2, eg3, rfl, eq1, eK1, eo2, eo3, eo4⟩ := own_Rec eO1
      have eK1U := eK1
      unfold Rec.Ok at eK1U
      try unfold I64ok at eK1U
      try unfold maxLen at eK1U
      have eP1 := H1.look1 0 rfl eo2 (fun b hb => eH1 b (by rw [eq1]; simp [hb]))
      have eL1 := own_len_le eo2
      unfold maxLen at eL1
      have eP2 := eP1.look1 0 rfl eo3 (fun b hb => eH1 b (by rw [eq1]; simp [hb]))
      have eL2 := own_len_le eo3
      unfold maxLen at eL2
      have eP3 := eP2.look1 0 rfl eo4 (fun b hb => eH1 b (by rw [eq1]; simp [hb]))
      have eL3 := own_len_le eo4
      unfold maxLen at eL3
      refine W_reg ?_
      refine s_val (wn rfl) rfl rfl (py_move rfl) (s_val (wn rfl) rfl rfl (py_move rfl) (s_val (wn rfl) rfl rfl (py_elz Tryz.underlying143 Tryz.sizeOf63 rfl rfl ee1 k (by omega) (by omega)) (s_val (wn rfl) rfl rfl (py_loadS Tryz.underlying63 rfl Tryz.sizeOf63 rfl rfl ec1) (s_val (wn rfl) rfl rfl (py_move rfl) ?_))))
      refine s_call (wn rfl) rfl rfl (pc_call Tryz.func39 rfl Tryz_nm39 rfl) (Tryz_laws_szRec (by assumption) (eP3.sees 1 rfl) (eP3.sees 2 rfl) (eP3.sees 3 rfl) (by omega)) (fun v1 w2 r1 => ?_)
      obtain ⟨e1, rfl⟩ := r1
      have H2 := eP3.to e1
      refine s_val (wn rfl) rfl rfl (py_assign rfl) ?_
      refine s_nil ?_
      refine W_seq ?_
      refine W_reg ?_
      refine s_val (wn rfl) rfl rfl (py_move rfl) (s_val (wn rfl) rfl rfl (py_lss rfl rfl) ?_)
      refine s_nil ?_
      refine W_ifd rfl (fun c3 => ?_) (fun c3 => ?_)
      · refine W_seq ?_
        refine W_reg ?_
        refine s_val (wn rfl) rfl rfl (py_assign rfl) ?_
        refine s_nil ?_
        refine W_ret (hQ _ _ (fin1 Tryz.results206 rfl ?_))
        have sg : sumN (fun i => szRec (xs.getD i default)) (k + 1) = sumN (fun i => szRec (xs.getD i default)) k + szRec (xs.getD k default) := rfl
        have sl := sumN_le (f := (fun i => szRec (xs.getD i default))) (j := k + 1) (k := xs.length) (by omega)
        exact ⟨H2.ext, by rw [if_pos (by rw [szL_eq (f := szRec)]; omega)]⟩
      · refine W_skip ?_
        refine W_reg ?_
        refine s_val (wn rfl) rfl rfl (py_move rfl) (s_val (wn rfl) rfl rfl (py_add rfl rfl (in64 ⟨by omega, by omega⟩)) (s_val (wn rfl) rfl rfl (py_assign rfl) ?_))
        refine s_nil ?_
        have sg : sumN (fun i => szRec (xs.getD i default)) (k + 1) = sumN (fun i => szRec (xs.getD i default)) k + szRec (xs.getD k default) := rfl
        refine ⟨(k + 1, _), ⟨rfl, rfl, rfl, trivial⟩, ⟨(H2.ftake 1), by omega, by omega, by omega⟩, by dsimp only; omega⟩
    · refine W_exit ?_
      refine W_seq ?_
      refine W_reg ?_
      refine s_val (wn rfl) rfl rfl (py_move rfl) (s_val (wn rfl) rfl rfl (py_assign rfl) ?_)
      refine s_nil ?_
      refine W_ret (hQ _ _ (fin1 Tryz.results206 rfl ?_))
      obtain rfl : k = xs.length := by omega
      exact ⟨H1.ext, congrArg (Value.int .i64) (by rw [szL_eq (f := szRec)]; omega)⟩
theorem Tryz_laws_toRecS {w : World} {xs : List Rec} {xsA : Option Addr} {xsC : Nat} (xsS : Sees w [.slice xsA xs.length xsC] xs) (hl : szL szRec xs ≤ 1048576) : Ret Tryz.prog 208 #[.slice xsA xs.length xsC] w fun v w' => Ext No w w' ∧ (Res w w' [v] xs) := by
  have xsL := sees_len xsS
  unfold maxLen at xsL
  obtain ⟨xsF, xsO⟩ := xsS
  have hl0 : xs.length ≤ 1048576 := by unfold szL at hl; omega
  refine ret_Q (vs := [.slice xsA xs.length xsC]) Tryz.func208 rfl Tryz.ntmps208 rfl (fun Q hQ hN => ?_)
  have H0 := Sep.start (w := w) (F := [seen false [.slice xsA xs.length xsC] xs xsF]) (all_cons xsO (by simp))
  refine W_seq ?_
  refine W_reg ?_
  refine s_val (wn rfl) rfl rfl (py_assign rfl) ?_
  refine s_nil ?_
  refine W_seq ?_
  refine W_reg ?_
  refine s_val (wn rfl) rfl rfl (py_move rfl) (s_val (wn rfl) rfl rfl (py_len Tryz.underlying143 rfl) ?_)
  refine s_make (wn rfl) rfl Tryz.underlying82 Tryz_ty66 (show ∀ w, own true w (Value.agg #[.int .i64 0, .int .i64 0, .string ⟨#[]⟩, .int .i64 0, .int .i64 0, .int .i64 0, .slice none 0 0, .slice none 0 0, .slice none 0 0]).cells.toList (default : Rec) [] from fun _ => own_zRec) rfl (by omega) (by unfold maxLen; omega) H0 (fun b1 w1 e1 g1 H1 => ?_)
  refine s_val (wn rfl) rfl rfl (py_assign rfl) ?_
  refine s_nil ?_
  refine W_seq ?_
  refine W_seq ?_
  refine W_reg ?_
  refine s_val (wn rfl) rfl rfl (py_assign rfl) ?_
  refine s_nil ?_
  refine W_block ?_
  refine W_loop (γ := Nat × List Nat) (fun (k, fp) => [(0, .slice xsA xs.length xsC), (3, .slice (some ⟨b1, 0, none⟩) xs.length xs.length), (4, .int .i64 k)]) (fun (k, fp) w' => Sep No w [mine [.slice (some ⟨b1, 0, none⟩) xs.length xs.length] (cp xs k default) fp] [seen false [.slice xsA xs.length xsC] xs xsF] w' ∧ k ≤ xs.length) (fun (k, fp) => xs.length - k) (0, [b1]) ⟨rfl, rfl, rfl, trivial⟩ ⟨cp_zero ▸ H1, by omega⟩ (fun (k, fp) w2 H2 => ?_)
  obtain ⟨H2, hk⟩ := H2
  refine W_seq ?_
  refine W_seq ?_
  refine W_reg ?_
  refine s_val (wn rfl) rfl rfl (py_move rfl) (s_val (wn rfl) rfl rfl (py_move rfl) (s_val (wn rfl) rfl rfl (py_len Tryz.underlying143 rfl) (s_val (wn rfl) rfl rfl (py_lss rfl rfl) ?_)))
  refine s_nil ?_
  refine W_ifd rfl (fun c1 => ?_) (fun c1 => ?_)
  · refine W_skip ?_
    refine W_seq ?_
    refine W_block ?_
    obtain ⟨hg, hg2⟩ := szL_get hl k (by omega)
    obtain ⟨eb1, eo1, es1, ef1, ee1, ec1, eO1, eH1, em1⟩ := elem_st (H2.seen 0 rfl) k (by omega)
    obtain ⟨ea1, ek1, ea2, ek2, ea3, ek3, eg1, eg2, eg3, rfl, eq1, eK1, eo2, eo3, eo4⟩ := own_Rec eO1
    have eK1U := eK1
    unfold Rec.Ok at eK1U
    try unfold I64ok at eK1U
    try unfold maxLen at eK1U
    have eP1 := H2.look1 0 rfl eo2 (fun b hb => eH1 b (by rw [eq1]; simp [hb]))
    have eL1 := own_len_le eo2
    unfold maxLen at eL1
    have eP2 := eP1.look1 0 rfl eo3 (fun b hb => eH1 b (by rw [eq1]; simp [hb]))
    have eL2 := own_len_le eo3
    unfold maxLen at eL2
    have eP3 := eP2.look1 0 rfl eo4 (fun b hb => eH1 b (by rw [eq1]; simp [hb]))
    have eL3 := own_len_le eo4
    unfold maxLen at eL3
    obtain ⟨eb2, eo5, ee2⟩ := own_addr (eP3.mine 0 rfl) k (by rw [cp_len (xs := xs) (k := k) (by omega)]; omega)
    refine W_reg ?_
    refine s_val (wn rfl) rfl rfl (py_move rfl) (s_val (wn rfl) rfl rfl (py_move rfl) (s_val (wn rfl) rfl rfl (py_move rfl) (s_val (wn rfl) rfl rfl (py_move rfl) (s_val (wn rfl) rfl rfl (py_elz Tryz.underlying143 Tryz.sizeOf63 rfl rfl ee1 k (by omega) (by omega)) (s_val (wn rfl) rfl rfl (py_loadS Tryz.underlying63 rfl Tryz.sizeOf63 rfl rfl ec1) ?_)))))
    refine s_call (wn rfl) rfl rfl (pc_call Tryz.func41 rfl Tryz_nm41 rfl) (Tryz_laws_toRec (by assumption) (eP3.sees 1 rfl) (eP3.sees 2 rfl) (eP3.sees 3 rfl) (by assumption)) (fun v1 w3 r1 => ?_)
    obtain ⟨e2, sa1, sk1, sa2, sk2, sa3, sk3, rfl, r1⟩ := r1
    obtain ⟨fp1, H3⟩ := eP3.res e2 r1
    refine s_val (wn rfl) rfl rfl (py_elz Tryz.underlying82 Tryz.sizeOf66 rfl rfl ee2 k (by omega) (by omega)) ?_
    refine s_elst2S (wn rfl) Tryz.sizeOf66 H3 0 1 rfl rfl rfl k (by rw [cp_len (xs := xs) (k := k) (by omega)]; omega) rfl ee2 rfl (fun w4 fp2 H4 => ?_)
    refine s_nil ?_
    obtain ⟨hg, hg2⟩ := szL_get hl k (by omega)
    refine W_reg ?_
    refine s_val (wn rfl) rfl rfl (py_move rfl) (s_val (wn rfl) rfl rfl (py_add rfl rfl (in64 ⟨by omega, by omega⟩)) (s_val (wn rfl) rfl rfl (py_assign rfl) ?_))
    refine s_nil ?_
    refine ⟨(k + 1, _), ⟨rfl, rfl, rfl, trivial⟩, ⟨cp_set (xs := xs) (k := k) (d := default) (by omega) ▸ ((H4.ftake 1).dtake 1), by omega⟩, by dsimp only; omega⟩
  · refine W_exit ?_
    refine W_seq ?_
    refine W_reg ?_
    refine s_val (wn rfl) rfl rfl (py_move rfl) (s_val (wn rfl) rfl rfl (py_assign rfl) ?_)
    refine s_nil ?_
    refine W_ret (hQ _ _ (fin1 Tryz.results208 rfl ?_))
    obtain rfl : k = xs.length := by omega
    exact ⟨H2.ext, by
      have h := H2.out 0 rfl
      rwa [cp_all] at h⟩
theorem Tryz_laws_eqRecS {w : World} {xs : List Rec} {xsA : Option Addr} {xsC : Nat} {ys : List Rec} {ysA : Option Addr} {ysC : Nat} (xsS : Sees w [.slice xsA xs.length xsC] xs) (ysS : Sees w [.slice ysA ys.length ysC] ys) : Ret Tryz.prog 132 #[.slice xsA xs.length xsC, .slice ysA ys.length ysC] w fun v w' => Ext No w w' ∧ (v = .bool (decide (xs = ys))) := by
  have xsL := sees_len xsS
  unfold maxLen at xsL
  obtain ⟨xsF, xsO⟩ := xsS
  have ysL := sees_len ysS
  unfold maxLen at ysL
  obtain ⟨ysF, ysO⟩ := ysS
  refine ret_Q (vs := [.slice xsA xs.length xsC, .slice ysA ys.length ysC]) Tryz.func132 rfl Tryz.ntmps132 rfl (fun Q hQ hN => ?_)
  have H0 := Sep.start (w := w) (F := [seen false [.slice xsA xs.length xsC] xs xsF, seen false [.slice ysA ys.length ysC] ys ysF]) (all_cons xsO (all_cons ysO (by simp)))
  refine W_seq ?_
  refine W_reg ?_
  refine s_val (wn rfl) rfl rfl (py_assign rfl) ?_
  refine s_nil ?_
  refine W_seq ?_
  refine W_seq ?_
  refine W_reg ?_
  refine s_val (wn rfl) rfl rfl (py_move rfl) (s_val (wn rfl) rfl rfl (py_len Tryz.underlying82 rfl) (s_val (wn rfl) rfl rfl (py_move rfl) (s_val (wn rfl) rfl rfl (py_len Tryz.underlying82 rfl) (s_val (wn rfl) rfl rfl (py_neq rfl rfl) ?_))))
  refine s_nil ?_
  refine W_ifd rfl (fun c1 => ?_) (fun c1 => ?_)
  · refine W_seq ?_
    refine W_reg ?_
    refine s_val (wn rfl) rfl rfl (py_assign rfl) ?_
    refine s_nil ?_
    refine W_ret (hQ _ _ (fin1 Tryz.results132 rfl ?_))
    refine ⟨H0.ext, ?_⟩
    rw [decide_eq_false (fun e => by subst e; exact c1 rfl)]
  · refine W_skip ?_
    refine W_seq ?_
    refine W_seq ?_
    refine W_reg ?_
    refine s_val (wn rfl) rfl rfl (py_assign rfl) ?_
    refine s_nil ?_
    refine W_block ?_
    refine W_loop (γ := Nat) (fun k => [(0, .slice xsA xs.length xsC), (1, .slice ysA ys.length ysC), (5, .int .i64 k)]) (fun k w' => Sep No w [] [seen false [.slice xsA xs.length xsC] xs xsF, seen false [.slice ysA ys.length ysC] ys ysF] w' ∧ k ≤ xs.length ∧ (∀ i, i < k → xs.getD i default = ys.getD i default)) (fun k => xs.length - k) 0 ⟨rfl, rfl, rfl, trivial⟩ ⟨H0, by omega, fun i hi => by omega⟩ (fun k w1 H1 => ?_)
    obtain ⟨H1, hk, he⟩ := H1
    refine W_seq ?_
    refine W_seq ?_
    refine W_reg ?_
    refine s_val (wn rfl) rfl rfl (py_move rfl) (s_val (wn rfl) rfl rfl (py_move rfl) (s_val (wn rfl) rfl rfl (py_len Tryz.underlying82 rfl) (s_val (wn rfl) rfl rfl (py_lss rfl rfl) ?_)))
    refine s_nil ?_
    refine W_ifd rfl (fun c2 => ?_) (fun c2 => ?_)
    · refine W_skip ?_
      refine W_seq ?_
      refine W_block ?_
      refine W_seq ?_
      obtain ⟨eb1, eo1, es1, ef1, ee1, ec1, eO1, eH1, em1⟩ := elem_st (H1.seen 0 rfl) k (by omega)
      obtain ⟨ea1, ek1, ea2, ek2, ea3, ek3, eg1, eg2, eg3, rfl, eq1, eK1, eo2, eo3, eo4⟩ := own_Rec eO1
      have eK1U := eK1
      unfold Rec.Ok at eK1U
      try unfold I64ok at eK1U
      try unfold maxLen at eK1U
      have eP1 := H1.look1 0 rfl eo2 (fun b hb => eH1 b (by rw [eq1]; simp [hb]))
      have eL1 := own_len_le eo2
      unfold maxLen at eL1
      have eP2 := eP1.look1 0 rfl eo3 (fun b hb => eH1 b (by rw [eq1]; simp [hb]))
      have eL2 := own_len_le eo3
      unfold maxLen at eL2
      have eP3 := eP2.look1 0 rfl eo4 (fun b hb => eH1 b (by rw [eq1]; simp [hb]))
      have eL3 := own_len_le eo4
      unfold maxLen at eL3
      obtain ⟨eb2, eo5, es2, ef2, ee2, ec2, eO2, eH2, em2⟩ := elem_st (eP3.seen 1 rfl) k (by omega)
      obtain ⟨ea4, ek4, ea5, ek5, ea6, ek6, eg4, eg5, eg6, rfl, eq2, eK2, eo6, eo7, eo8⟩ := own_Rec eO2
      have eK2U := eK2
      unfold Rec.Ok at eK2U
      try unfold I64ok at eK2U
      try unfold maxLen at eK2U
      have eP4 := eP3.look1 1 rfl eo6 (fun b hb => eH2 b (by rw [eq2]; simp [hb]))
      have eL4 := own_len_le eo6
      unfold maxLen at eL4
      have eP5 := eP4.look1 1 rfl eo7 (fun b hb => eH2 b (by rw [eq2]; simp [hb]))
      have eL5 := own_len_le eo7
      unfold maxLen at eL5
      have eP6 := eP5.look1 1 rfl eo8 (fun b hb => eH2 b (by rw [eq2]; simp [hb]))
      have eL6 := own_len_le eo8
      unfold maxLen at eL6
      refine W_drw (S := Ext No _) [(0, true), (1, true), (2, true), (3, true), (4, true), (5, true), (6, true), (7, true), (8, false), (9, false)] (by kernel_rfl) (by kernel_rfl) (by kernel_rfl) rfl (fun _ => Ext.refl.drawn _) (fun q1 => ?_)
      have H2 := eP6.drawn q1
      refine d_val rfl (wn rfl) rfl rfl (fun zw hx => py_move rfl) (d_val rfl (wn rfl) rfl rfl (fun zw hx => py_move rfl) (d_val rfl (wn rfl) rfl rfl (fun zw hx => py_elz Tryz.underlying82 Tryz.sizeOf66 rfl rfl ee1 k (by omega) (by omega)) (d_val rfl (wn rfl) rfl rfl (fun zw hx => py_loadS Tryz.underlying66 rfl Tryz.sizeOf66 rfl rfl (hx.at ec1)) (d_val rfl (wn rfl) rfl rfl (fun zw hx => py_move rfl) (d_val rfl (wn rfl) rfl rfl (fun zw hx => py_move rfl) (d_val rfl (wn rfl) rfl rfl (fun zw hx => py_elz Tryz.underlying82 Tryz.sizeOf66 rfl rfl ee2 k (by omega) (by omega)) (d_val rfl (wn rfl) rfl rfl (fun zw hx => py_loadS Tryz.underlying66 rfl Tryz.sizeOf66 rfl rfl (hx.at ec2)) ?_)))))))
      refine d_call rfl (wn rfl) rfl rfl (pc_call Tryz.func43 rfl Tryz_nm43 rfl) (Tryz_laws_eqRec (by assumption) (H2.sees 2 rfl) (H2.sees 3 rfl) (H2.sees 4 rfl) (by assumption) (H2.sees 5 rfl) (H2.sees 6 rfl) (H2.sees 7 rfl)) (fun hS _ _ r _ => hS.trans r.1.no) (fun v1 w2 r1 => ?_)
      obtain ⟨e1, rfl⟩ := r1
      have H3 := H2.to e1
      refine d_end rfl (wn rfl) rfl rfl (py_not rfl) ?_
      refine d_nil ?_
      refine W_if rfl (fun c3 => ?_) (fun c3 => ?_)
      · refine W_seq ?_
        refine W_reg ?_
        refine s_val (wn rfl) rfl rfl (py_assign rfl) ?_
        refine s_nil ?_
        refine W_ret (hQ _ _ (fin1 Tryz.results132 rfl ?_))
        refine ⟨H3.ext, ?_⟩
        rw [decide_eq_false (fun e => by subst e; simp at c3)]
      · refine W_skip ?_
        refine W_reg ?_
        refine s_val (wn rfl) rfl rfl (py_move rfl) (s_val (wn rfl) rfl rfl (py_add rfl rfl (in64 ⟨by omega, by omega⟩)) (s_val (wn rfl) rfl rfl (py_assign rfl) ?_))
        refine s_nil ?_
        have c4 : xs.getD k default = ys.getD k default := by simpa using c3
        refine ⟨k + 1, ⟨rfl, rfl, rfl, trivial⟩, ⟨(H3.ftake 2), by omega, fun i hi => ?_⟩, by dsimp only; omega⟩
        by_cases e : i = k
        · subst e; exact c4
        · exact he i (by omega)
    · refine W_exit ?_
      refine W_seq ?_
      refine W_reg ?_
      refine s_val (wn rfl) rfl rfl (py_assign rfl) ?_
      refine s_nil ?_
      refine W_ret (hQ _ _ (fin1 Tryz.results132 rfl ?_))
      refine ⟨H1.ext, ?_⟩
      rw [decide_eq_true (getD_ext (d := default) (by omega) fun i hi => he i (by omega))]
theorem Tryz_laws_szTape {w : World} {x : Tape} {xA1 : Option Addr} {xC1 : Nat} {l : Int} (xK : x.Ok) (xS1 : Sees w [.slice xA1 x.Recs.length xC1] x.Recs) (hl : -1 ≤ l ∧ l ≤ 1048576) : Ret Tryz.prog 138 #[x.val xA1 xC1, .int .i64 l] w fun v w' => Ext No w w' ∧ (v = .int .i64 (if l - szTape x < 0 then -1 else l - szTape x)) := by
  have xK2 := xK
  unfold Tape.Ok at xK2
  try unfold I64ok at xK2
  try unfold maxLen at xK2
  have xL1 := sees_len xS1
  unfold maxLen at xL1
  obtain ⟨xF1, xO1⟩ := xS1
  refine ret_Q (vs := [x.val xA1 xC1, .int .i64 l]) Tryz.func138 rfl Tryz.ntmps138 rfl (fun Q hQ hN => ?_)
  have H0 := Sep.start (w := w) (F := [seen false [.slice xA1 x.Recs.length xC1] x.Recs xF1]) (all_cons xO1 (by simp))
  refine W_seq ?_
  refine W_reg ?_
  refine s_box (wn rfl) rfl rfl H0 (fun b1 w1 e1 g1 H1 => ?_)
  refine s_val (wn rfl) rfl rfl (py_assign rfl) ?_
  refine s_nil ?_
  refine W_seq ?_
  refine W_reg ?_
  refine s_val (wn rfl) rfl rfl (py_field Tryz.underlying145 rfl Tryz.sizeOf143 rfl rfl) (s_val (wn rfl) rfl rfl (py_load Tryz.underlying143 rfl rfl (cell_atL (H1.box 0 rfl) rfl)) (s_val (wn rfl) rfl rfl (py_move rfl) ?_))
  refine s_call (wn rfl) rfl rfl (pc_call Tryz.func206 rfl Tryz_nm206 rfl) (Tryz_laws_szRecS (H1.sees 0 rfl) (by omega)) (fun v1 w2 r1 => ?_)
  obtain ⟨e2, rfl⟩ := r1
  have H2 := H1.to e2
  refine s_val (wn rfl) rfl rfl (py_assign rfl) ?_
  refine s_nil ?_
  refine W_seq ?_
  refine W_seq ?_
  refine W_reg ?_
  refine s_val (wn rfl) rfl rfl (py_move rfl) (s_val (wn rfl) rfl rfl (py_lss rfl rfl) ?_)
  refine s_nil ?_
  refine W_ifd rfl (fun c1 => ?_) (fun c1 => ?_)
  · refine W_seq ?_
    refine W_reg ?_
    refine s_val (wn rfl) rfl rfl (py_assign rfl) ?_
    refine s_nil ?_
    refine W_ret (hQ _ _ (fin1 Tryz.results138 rfl ?_))
    exact ⟨H2.ext, congrArg (Value.int .i64) (by unfold szTape; omega)⟩
  · refine W_skip ?_
    refine W_seq ?_
    refine W_reg ?_
    refine s_val (wn rfl) rfl rfl (py_move rfl) (s_val (wn rfl) rfl rfl (py_assign rfl) ?_)
    refine s_nil ?_
    refine W_ret (hQ _ _ (fin1 Tryz.results138 rfl ?_))
    exact ⟨H2.ext, congrArg (Value.int .i64) (by unfold szTape; omega)⟩
theorem Tryz_laws_toTape {w : World} {x : Tape} {xA1 : Option Addr} {xC1 : Nat} (xK : x.Ok) (xS1 : Sees w [.slice xA1 x.Recs.length xC1] x.Recs) (hb : szTape x ≤ 1048576) : Ret Tryz.prog 142 #[x.val xA1 xC1] w fun v w' => Ext No w w' ∧ (∃ A1 C1, v = x.val A1 C1 ∧ Res w w' [.bool x.Wiped, .slice A1 x.Recs.length C1] x) := by
  have xK2 := xK
  unfold Tape.Ok at xK2
  try unfold I64ok at xK2
  try unfold maxLen at xK2
  have xL1 := sees_len xS1
  unfold maxLen at xL1
  obtain ⟨xF1, xO1⟩ := xS1
  unfold szTape at hb
  refine ret_Q (vs := [x.val xA1 xC1]) Tryz.func142 rfl Tryz.ntmps142 rfl (fun Q hQ hN => ?_)
  have H0 := Sep.start (w := w) (F := [seen false [.slice xA1 x.Recs.length xC1] x.Recs xF1]) (all_cons xO1 (by simp))
  refine W_seq ?_
  refine W_reg ?_
  refine s_box (wn rfl) rfl rfl H0 (fun b1 w1 e1 g1 H1 => ?_)
  refine s_var (wn rfl) rfl Tryz.zeroValue155 H1 (fun b2 w2 e2 g2 H2 => ?_)
  refine s_nil ?_
  refine W_seq ?_
  refine W_reg ?_
  refine s_var (wn rfl) rfl Tryz.zeroValue155 H2 (fun b3 w3 e3 g3 H3 => ?_)
  refine s_nil ?_
  refine W_seq ?_
  refine W_reg ?_
  refine s_val (wn rfl) rfl rfl (py_field Tryz.underlying145 rfl Tryz.sizeOf4 rfl rfl) (s_val (wn rfl) rfl rfl (py_load Tryz.underlying4 rfl rfl (cell_atL (H3.box 0 rfl) rfl)) (s_val (wn rfl) rfl rfl (py_field Tryz.underlying155 rfl Tryz.sizeOf4 rfl rfl) ?_))
  refine s_sto (wn rfl) Tryz.sizeOf4 rfl rfl rfl H3 2 rfl rfl (fun w4 e4 H4 => ?_)
  dsimp only [List.nil_append, List.cons_append, List.set_cons_zero, List.set_cons_succ, layL] at H4
  refine s_nil ?_
  refine W_seq ?_
  refine W_reg ?_
  refine s_val (wn rfl) rfl rfl (py_field Tryz.underlying145 rfl Tryz.sizeOf143 rfl rfl) (s_val (wn rfl) rfl rfl (py_load Tryz.underlying143 rfl rfl (cell_atL (H4.box 0 rfl) rfl)) ?_)
  refine s_call (wn rfl) rfl rfl (pc_call Tryz.func208 rfl Tryz_nm208 rfl) (Tryz_laws_toRecS (H4.sees 0 rfl) (by first | assumption | omega)) (fun v1 w5 r1 => ?_)
  obtain ⟨e5, r1⟩ := r1
  obtain ⟨fp1, H5⟩ := H4.res e5 r1
  obtain ⟨a1, k1, q1⟩ := own_slice (H5.mine 3 rfl)
  cases q1
  refine s_val (wn rfl) rfl rfl (py_field Tryz.underlying155 rfl Tryz.sizeOf82 rfl rfl) ?_
  refine s_sto (wn rfl) Tryz.sizeOf82 rfl rfl rfl H5 2 rfl rfl (fun w6 e6 H6 => ?_)
  dsimp only [List.nil_append, List.cons_append, List.set_cons_zero, List.set_cons_succ, layL] at H6
  refine s_nil ?_
  refine W_seq ?_
  refine W_reg ?_
  refine s_val (wn rfl) rfl rfl (py_loadS Tryz.underlying155 rfl Tryz.sizeOf155 rfl rfl (At.whole (H6.box 2 rfl))) ?_
  refine s_stoS (wn rfl) Tryz.sizeOf155 rfl rfl rfl rfl H6 1 rfl rfl (fun w7 e7 H7 => ?_)
  dsimp only [List.nil_append, List.cons_append, List.set_cons_zero, List.set_cons_succ, layL] at H7
  refine s_nil ?_
  refine W_ret (hQ _ _ (finC Tryz.results142 rfl (run_loadVarS Tryz.underlying155 rfl Tryz.sizeOf155 rfl (At.whole (H7.box 1 rfl))) ?_))
  exact ⟨H7.ext, _, _, rfl, Tape.out (H7.sub (.cons _ (.cons _ (.cons _ (.cons_cons _ List.Sublist.slnil))))) xK⟩
theorem Tryz_laws_eqTape {w : World} {a : Tape} {aA1 : Option Addr} {aC1 : Nat} {b : Tape} {bA1 : Option Addr} {bC1 : Nat} (aK : a.Ok) (aS1 : Sees w [.slice aA1 a.Recs.length aC1] a.Recs) (bK : b.Ok) (bS1 : Sees w [.slice bA1 b.Recs.length bC1] b.Recs) : Ret Tryz.prog 145 #[a.val aA1 aC1, b.val bA1 bC1] w fun v w' => Ext No w w' ∧ (v = .bool (decide (a = b))) := by
  have aK2 := aK
  unfold Tape.Ok at aK2
  try unfold I64ok at aK2
  try unfold maxLen at aK2
  have aL1 := sees_len aS1
  unfold maxLen at aL1
  obtain ⟨aF1, aO1⟩ := aS1
  have bK2 := bK
  unfold Tape.Ok at bK2
  try unfold I64ok at bK2
  try unfold maxLen at bK2
  have bL1 := sees_len bS1
  unfold maxLen at bL1
  obtain ⟨bF1, bO1⟩ := bS1
  refine ret_Q (vs := [a.val aA1 aC1, b.val bA1 bC1]) Tryz.func145 rfl Tryz.ntmps145 rfl (fun Q hQ hN => ?_)
  have H0 := Sep.start (w := w) (F := [seen false [.slice aA1 a.Recs.length aC1] a.Recs aF1, seen false [.slice bA1 b.Recs.length bC1] b.Recs bF1]) (all_cons aO1 (all_cons bO1 (by simp)))
  refine W_seq ?_
  refine W_reg ?_
  refine s_box (wn rfl) rfl rfl H0 (fun b1 w1 e1 g1 H1 => ?_)
  refine s_box (wn rfl) rfl rfl H1 (fun b2 w2 e2 g2 H2 => ?_)
  refine s_val (wn rfl) rfl rfl (py_assign rfl) ?_
  refine s_nil ?_
  refine W_seq ?_
  refine W_seq ?_
  refine W_reg ?_
  refine s_val (wn rfl) rfl rfl (py_field Tryz.underlying155 rfl Tryz.sizeOf4 rfl rfl) (s_val (wn rfl) rfl rfl (py_load Tryz.underlying4 rfl rfl (cell_atL (H2.box 0 rfl) rfl)) (s_val (wn rfl) rfl rfl (py_field Tryz.underlying155 rfl Tryz.sizeOf4 rfl rfl) (s_val (wn rfl) rfl rfl (py_load Tryz.underlying4 rfl rfl (cell_atL (H2.box 1 rfl) rfl)) (s_val (wn rfl) rfl rfl (py_bneq Tryz.underlying4 rfl rfl) ?_))))
  refine s_nil ?_
  refine W_if rfl (fun c1 => ?_) (fun c1 => ?_)
  · refine W_seq ?_
    refine W_reg ?_
    refine s_val (wn rfl) rfl rfl (py_assign rfl) ?_
    refine s_nil ?_
    refine W_ret (hQ _ _ (fin1 Tryz.results145 rfl ?_))
    refine ⟨H2.ext, ?_⟩
    rw [decide_eq_false (fun e => by subst e; first | exact c1 rfl | simp at c1)]
  · refine W_skip ?_
    refine W_seq ?_
    refine W_seq ?_
    refine W_reg ?_
    refine s_val (wn rfl) rfl rfl (py_field Tryz.underlying155 rfl Tryz.sizeOf82 rfl rfl) (s_val (wn rfl) rfl rfl (py_load Tryz.underlying82 rfl rfl (cell_atL (H2.box 0 rfl) rfl)) (s_val (wn rfl) rfl rfl (py_field Tryz.underlying155 rfl Tryz.sizeOf82 rfl rfl) (s_val (wn rfl) rfl rfl (py_load Tryz.underlying82 rfl rfl (cell_atL (H2.box 1 rfl) rfl)) ?_)))
    refine s_call (wn rfl) rfl rfl (pc_call Tryz.func132 rfl Tryz_nm132 rfl) (Tryz_laws_eqRecS (H2.sees 0 rfl) (H2.sees 1 rfl)) (fun v1 w3 r1 => ?_)
    obtain ⟨e3, rfl⟩ := r1
    have H3 := H2.to e3
    refine s_val (wn rfl) rfl rfl (py_not rfl) ?_
    refine s_nil ?_
    refine W_if rfl (fun c2 => ?_) (fun c2 => ?_)
    · refine W_seq ?_
      refine W_reg ?_
      refine s_val (wn rfl) rfl rfl (py_assign rfl) ?_
      refine s_nil ?_
      refine W_ret (hQ _ _ (fin1 Tryz.results145 rfl ?_))
      refine ⟨H3.ext, ?_⟩
      rw [decide_eq_false (fun e => by subst e; first | exact c2 rfl | simp at c2)]
    · refine W_skip ?_
      refine W_seq ?_
      refine W_reg ?_
      refine s_val (wn rfl) rfl rfl (py_assign rfl) ?_
      refine s_nil ?_
      refine W_ret (hQ _ _ (fin1 Tryz.results145 rfl ?_))
      refine ⟨H3.ext, ?_⟩
      rw [decide_eq_true]
      cases a; cases b; simp_all [str_beq]
theorem Tryz_laws_szTapeS {w : World} {xs : List Tape} {xsA : Option Addr} {xsC : Nat} {l : Int} (xsS : Sees w [.slice xsA xs.length xsC] xs) (hl : -1 ≤ l ∧ l ≤ 1048576) : Ret Tryz.prog 68 #[.slice xsA xs.length xsC, .int .i64 l] w fun v w' => Ext No w w' ∧ (v = .int .i64 (if l - szL szTape xs < 0 then -1 else l - szL szTape xs)) := by
  have xsL := sees_len xsS
  unfold maxLen at xsL
  obtain ⟨xsF, xsO⟩ := xsS
  refine ret_Q (vs := [.slice xsA xs.length xsC, .int .i64 l]) Tryz.func68 rfl Tryz.ntmps68 rfl (fun Q hQ hN => ?_)
  have H0 := Sep.start (w := w) (F := [seen false [.slice xsA xs.length xsC] xs xsF]) (all_cons xsO (by simp))
  refine W_seq ?_
  refine W_reg ?_
  refine s_val (wn rfl) rfl rfl (py_assign rfl) ?_
  refine s_nil ?_
  refine W_seq ?_
  refine W_reg ?_
  refine s_val (wn rfl) rfl rfl (py_move rfl) (s_val (wn rfl) rfl rfl (py_move rfl) (s_val (wn rfl) rfl rfl (py_len Tryz.underlying26 rfl) (s_val (wn rfl) rfl rfl (py_sub rfl rfl (in64 ⟨by omega, by omega⟩)) (s_val (wn rfl) rfl rfl (py_assign rfl) ?_))))
  refine s_nil ?_
  refine W_seq ?_
  refine W_seq ?_
  refine W_reg ?_
  refine s_val (wn rfl) rfl rfl (py_move rfl) (s_val (wn rfl) rfl rfl (py_lss rfl rfl) ?_)
  refine s_nil ?_
  refine W_ifd rfl (fun c1 => ?_) (fun c1 => ?_)
  · refine W_seq ?_
    refine W_reg ?_
    refine s_val (wn rfl) rfl rfl (py_assign rfl) ?_
    refine s_nil ?_
    refine W_ret (hQ _ _ (fin1 Tryz.results68 rfl ?_))
    exact ⟨H0.ext, by rw [if_pos (by rw [szL_eq (f := szTape)]; omega)]⟩
  · refine W_skip ?_
    refine W_seq ?_
    refine W_seq ?_
    refine W_reg ?_
    refine s_val (wn rfl) rfl rfl (py_assign rfl) ?_
    refine s_nil ?_
    refine W_block ?_
    refine W_loop (γ := Nat × Int) (fun (k, m) => [(0, .slice xsA xs.length xsC), (1, .int .i64 m), (5, .int .i64 k)]) (fun (k, m) w' => Sep No w [] [seen false [.slice xsA xs.length xsC] xs xsF] w' ∧ k ≤ xs.length ∧ 0 ≤ m ∧ m = l - xs.length - sumN (fun i => szTape (xs.getD i default)) k) (fun (k, m) => xs.length - k) (0, _) ⟨rfl, rfl, rfl, trivial⟩ ⟨H0, by omega, by omega, by simp only [sumN]; omega⟩ (fun (k, m) w1 H1 => ?_)
    obtain ⟨H1, hk, hm, hs⟩ := H1
    refine W_seq ?_
    refine W_seq ?_
    refine W_reg ?_
    refine s_val (wn rfl) rfl rfl (py_move rfl) (s_val (wn rfl) rfl rfl (py_move rfl) (s_val (wn rfl) rfl rfl (py_len Tryz.underlying26 rfl) (s_val (wn rfl) rfl rfl (py_lss rfl rfl) ?_)))
    refine s_nil ?_
    refine W_ifd rfl (fun c2 => ?_) (fun c2 => ?_)
    · refine W_skip ?_
      refine W_seq ?_
      refine W_block ?_
      refine W_seq ?_
      obtain ⟨eb1, eo1, es1, ef1, ee1, ec1, eO1, eH1, em1⟩ := elem_st (H1.seen 0 rfl) k (by omega)
      obtain ⟨ea1, ek1, eg1, rfl, eq1, eK1, eo2⟩ := own_Tape eO1
      have eP1 := H1.look1 0 rfl eo2 (fun b hb => eH1 b (by rw [eq1]; simp [hb]))
      have eL1 := own_len_le eo2
      unfold maxLen at eL1
      refine W_reg ?_
      refine s_val (wn rfl) rfl rfl (py_move rfl) (s_val (wn rfl) rfl rfl (py_move rfl) (s_val (wn rfl) rfl rfl (py_elz Tryz.underlying26 Tryz.sizeOf145 rfl rfl ee1 k (by omega) (by omega)) (s_val (wn rfl) rfl rfl (py_loadS Tryz.underlying145 rfl Tryz.sizeOf145 rfl rfl ec1) (s_val (wn rfl) rfl rfl (py_move rfl) ?_))))
      refine s_call (wn rfl) rfl rfl (pc_call Tryz.func138 rfl Tryz_nm138 rfl) (Tryz_laws_szTape (by assumption) (eP1.sees 1 rfl) (by omega)) (fun v1 w2 r1 => ?_)
      obtain ⟨e1, rfl⟩ := r1
      have H2 := eP1.to e1
      refine s_val (wn rfl) rfl rfl (py_assign rfl) ?_
      refine s_nil ?_
      refine W_seq ?_
      refine W_reg ?_
      refine s_val (wn rfl) rfl rfl (py_move rfl) (s_val (wn rfl) rfl rfl (py_lss rfl rfl) ?_)
      refine s_nil ?_
      refine W_ifd rfl (fun c3 => ?_) (fun c3 => ?_)
      · refine W_seq ?_
        refine W_reg ?_
        refine s_val (wn rfl) rfl rfl (py_assign rfl) ?_
        refine s_nil ?_
        refine W_ret (hQ _ _ (fin1 Tryz.results68 rfl ?_))
        have sg : sumN (fun i => szTape (xs.getD i default)) (k + 1) = sumN (fun i => szTape (xs.getD i default)) k + szTape (xs.getD k default) := rfl
        have sl := sumN_le (f := (fun i => szTape (xs.getD i default))) (j := k + 1) (k := xs.length) (by omega)
        exact ⟨H2.ext, by rw [if_pos (by rw [szL_eq (f := szTape)]; omega)]⟩
      · refine W_skip ?_
        refine W_reg ?_
        refine s_val (wn rfl) rfl rfl (py_move rfl) (s_val (wn rfl) rfl rfl (py_add rfl rfl (in64 ⟨by omega, by omega⟩)) (s_val (wn rfl) rfl rfl (py_assign rfl) ?_))
        refine s_nil ?_
        have sg : sumN (fun i => szTape (xs.getD i default)) (k + 1) = sumN (fun i => szTape (xs.getD i default)) k + szTape (xs.getD k default) := rfl
        refine ⟨(k + 1, _), ⟨rfl, rfl, rfl, trivial⟩, ⟨(H2.ftake 1), by omega, by omega, by omega⟩, by dsimp only; omega⟩
    · refine W_exit ?_
      refine W_seq ?_
      refine W_reg ?_
      refine s_val (wn rfl) rfl rfl (py_move rfl) (s_val (wn rfl) rfl rfl (py_assign rfl) ?_)
      refine s_nil ?_
      refine W_ret (hQ _ _ (fin1 Tryz.results68 rfl ?_))
      obtain rfl : k = xs.length := by omega
      exact ⟨H1.ext, congrArg (Value.int .i64) (by rw [szL_eq (f := szTape)]; omega)⟩
theorem Tryz_laws_toTapeS {w : World} {xs : List Tape} {xsA : Option Addr} {xsC : Nat} (xsS : Sees w [.slice xsA xs.length xsC] xs) (hl : szL szTape xs ≤ 1048576) : Ret Tryz.prog 74 #[.slice xsA xs.length xsC] w fun v w' => Ext No w w' ∧ (Res w w' [v] xs) := by
  have xsL := sees_len xsS
  unfold maxLen at xsL
  obtain ⟨xsF, xsO⟩ := xsS
  have hl0 : xs.length ≤ 1048576 := by unfold szL at hl; omega
  refine ret_Q (vs := [.slice xsA xs.length xsC]) Tryz.func74 rfl Tryz.ntmps74 rfl (fun Q hQ hN => ?_)
  have H0 := Sep.start (w := w) (F := [seen false [.slice xsA xs.length xsC] xs xsF]) (all_cons xsO (by simp))
  refine W_seq ?_
  refine W_reg ?_
  refine s_val (wn rfl) rfl rfl (py_assign rfl) ?_
  refine s_nil ?_
  refine W_seq ?_
  refine W_reg ?_
  refine s_val (wn rfl) rfl rfl (py_move rfl) (s_val (wn rfl) rfl rfl (py_len Tryz.underlying26 rfl) ?_)
  refine s_make (wn rfl) rfl Tryz.underlying35 Tryz_ty155 (show ∀ w, own true w (Value.agg #[.bool false, .slice none 0 0]).cells.toList (default : Tape) [] from fun _ => own_zTape) rfl (by omega) (by unfold maxLen; omega) H0 (fun b1 w1 e1 g1 H1 => ?_)
  refine s_val (wn rfl) rfl rfl (py_assign rfl) ?_
  refine s_nil ?_
  refine W_seq ?_
  refine W_seq ?_
  refine W_reg ?_
  refine s_val (wn rfl) rfl rfl (py_assign rfl) ?_
  refine s_nil ?_
  refine W_block ?_
  refine W_loop (γ := Nat × List Nat) (fun (k, fp) => [(0, .slice xsA xs.length xsC), (3, .slice (some ⟨b1, 0, none⟩) xs.length xs.length), (4, .int .i64 k)]) (fun (k, fp) w' => Sep No w [mine [.slice (some ⟨b1, 0, none⟩) xs.length xs.length] (cp xs k default) fp] [seen false [.slice xsA xs.length xsC] xs xsF] w' ∧ k ≤ xs.length) (fun (k, fp) => xs.length - k) (0, [b1]) ⟨rfl, rfl, rfl, trivial⟩ ⟨cp_zero ▸ H1, by omega⟩ (fun (k, fp) w2 H2 => ?_)
  obtain ⟨H2, hk⟩ := H2
  refine W_seq ?_
  refine W_seq ?_
  refine W_reg ?_
  refine s_val (wn rfl) rfl rfl (py_move rfl) (s_val (wn rfl) rfl rfl (py_move rfl) (s_val (wn rfl) rfl rfl (py_len Tryz.underlying26 rfl) (s_val (wn rfl) rfl rfl (py_lss rfl rfl) ?_)))
  refine s_nil ?_
  refine W_ifd rfl (fun c1 => ?_) (fun c1 => ?_)
  · refine W_skip ?_
    refine W_seq ?_
    refine W_block ?_
    obtain ⟨hg, hg2⟩ := szL_get hl k (by omega)
    obtain ⟨eb1, eo1, es1, ef1, ee1, ec1, eO1, eH1, em1⟩ := elem_st (H2.seen 0 rfl) k (by omega)
    obtain ⟨ea1, ek1, eg1, rfl, eq1, eK1, eo2⟩ := own_Tape eO1
    have eP1 := H2.look1 0 rfl eo2 (fun b hb => eH1 b (by rw [eq1]; simp [hb]))
    have eL1 := own_len_le eo2
    unfold maxLen at eL1
    obtain ⟨eb2, eo3, ee2⟩ := own_addr (eP1.mine 0 rfl) k (by rw [cp_len (xs := xs) (k := k) (by omega)]; omega)
    refine W_reg ?_
    refine s_val (wn rfl) rfl rfl (py_move rfl) (s_val (wn rfl) rfl rfl (py_move rfl) (s_val (wn rfl) rfl rfl (py_move rfl) (s_val (wn rfl) rfl rfl (py_move rfl) (s_val (wn rfl) rfl rfl (py_elz Tryz.underlying26 Tryz.sizeOf145 rfl rfl ee1 k (by omega) (by omega)) (s_val (wn rfl) rfl rfl (py_loadS Tryz.underlying145 rfl Tryz.sizeOf145 rfl rfl ec1) ?_)))))
    refine s_call (wn rfl) rfl rfl (pc_call Tryz.func142 rfl Tryz_nm142 rfl) (Tryz_laws_toTape (by assumption) (eP1.sees 1 rfl) (by assumption)) (fun v1 w3 r1 => ?_)
    obtain ⟨e2, sa1, sk1, rfl, r1⟩ := r1
    obtain ⟨fp1, H3⟩ := eP1.res e2 r1
    refine s_val (wn rfl) rfl rfl (py_elz Tryz.underlying35 Tryz.sizeOf155 rfl rfl ee2 k (by omega) (by omega)) ?_
    refine s_elst2S (wn rfl) Tryz.sizeOf155 H3 0 1 rfl rfl rfl k (by rw [cp_len (xs := xs) (k := k) (by omega)]; omega) rfl ee2 rfl (fun w4 fp2 H4 => ?_)
    refine s_nil ?_
    obtain ⟨hg, hg2⟩ := szL_get hl k (by omega)
    refine W_reg ?_
    refine s_val (wn rfl) rfl rfl (py_move rfl) (s_val (wn rfl) rfl rfl (py_add rfl rfl (in64 ⟨by omega, by omega⟩)) (s_val (wn rfl) rfl rfl (py_assign rfl) ?_))
    refine s_nil ?_
    refine ⟨(k + 1, _), ⟨rfl, rfl, rfl, trivial⟩, ⟨cp_set (xs := xs) (k := k) (d := default) (by omega) ▸ ((H4.ftake 1).dtake 1), by omega⟩, by dsimp only; omega⟩
  · refine W_exit ?_
    refine W_seq ?_
    refine W_reg ?_
    refine s_val (wn rfl) rfl rfl (py_move rfl) (s_val (wn rfl) rfl rfl (py_assign rfl) ?_)
    refine s_nil ?_
    refine W_ret (hQ _ _ (fin1 Tryz.results74 rfl ?_))
    obtain rfl : k = xs.length := by omega
    exact ⟨H2.ext, by
      have h := H2.out 0 rfl
      rwa [cp_all] at h⟩
theorem Tryz_laws_eqTapeS {w : World} {xs : List Tape} {xsA : Option Addr} {xsC : Nat} {ys : List Tape} {ysA : Option Addr} {ysC : Nat} (xsS : Sees w [.slice xsA xs.length xsC] xs) (ysS : Sees w [.slice ysA ys.length ysC] ys) : Ret Tryz.prog 81 #[.slice xsA xs.length xsC, .slice ysA ys.length ysC] w fun v w' => Ext No w w' ∧ (v = .bool (decide (xs = ys))) := by
  have xsL := sees_len xsS
  unfold maxLen at xsL
  obtain ⟨xsF, xsO⟩ := xsS
  have ysL := sees_len ysS
  unfold maxLen at ysL
  obtain ⟨ysF, ysO⟩ := ysS
  refine ret_Q (vs := [.slice xsA xs.length xsC, .slice ysA ys.length ysC]) Tryz.func81 rfl Tryz.ntmps81 rfl (fun Q hQ hN => ?_)
  have H0 := Sep.start (w := w) (F := [seen false [.slice xsA xs.length xsC] xs xsF, seen false [.slice ysA ys.length ysC] ys ysF]) (all_cons xsO (all_cons ysO (by simp)))
  refine W_seq ?_
  refine W_reg ?_
  refine s_val (wn rfl) rfl rfl (py_assign rfl) ?_
  refine s_nil ?_
  refine W_seq ?_
  refine W_seq ?_
  refine W_reg ?_
  refine s_val (wn rfl) rfl rfl (py_move rfl) (s_val (wn rfl) rfl rfl (py_len Tryz.underlying35 rfl) (s_val (wn rfl) rfl rfl (py_move rfl) (s_val (wn rfl) rfl rfl (py_len Tryz.underlying35 rfl) (s_val (wn rfl) rfl rfl (py_neq rfl rfl) ?_))))
  refine s_nil ?_
  refine W_ifd rfl (fun c1 => ?_) (fun c1 => ?_)
  · refine W_seq ?_
    refine W_reg ?_
    refine s_val (wn rfl) rfl rfl (py_assign rfl) ?_
    refine s_nil ?_
    refine W_ret (hQ _ _ (fin1 Tryz.results81 rfl ?_))
    refine ⟨H0.ext, ?_⟩
    rw [decide_eq_false (fun e => by subst e; exact c1 rfl)]
  · refine W_skip ?_
    refine W_seq ?_
    refine W_seq ?_
    refine W_reg ?_
    refine s_val (wn rfl) rfl rfl (py_assign rfl) ?_
    refine s_nil ?_
    refine W_block ?_
    refine W_loop (γ := Nat) (fun k => [(0, .slice xsA xs.length xsC), (1, .slice ysA ys.length ysC), (5, .int .i64 k)]) (fun k w' => Sep No w [] [seen false [.slice xsA xs.length xsC] xs xsF, seen false [.slice ysA ys.length ysC] ys ysF] w' ∧ k ≤ xs.length ∧ (∀ i, i < k → xs.getD i default = ys.getD i default)) (fun k => xs.length - k) 0 ⟨rfl, rfl, rfl, trivial⟩ ⟨H0, by omega, fun i hi => by omega⟩ (fun k w1 H1 => ?_)
    obtain ⟨H1, hk, he⟩ := H1
    refine W_seq ?_
    refine W_seq ?_
    refine W_reg ?_
    refine s_val (wn rfl) rfl rfl (py_move rfl) (s_val (wn rfl) rfl rfl (py_move rfl) (s_val (wn rfl) rfl rfl (py_len Tryz.underlying35 rfl) (s_val (wn rfl) rfl rfl (py_lss rfl rfl) ?_)))
    refine s_nil ?_
    refine W_ifd rfl (fun c2 => ?_) (fun c2 => ?_)
    · refine W_skip ?_
      refine W_seq ?_
      refine W_block ?_
      refine W_seq ?_
      obtain ⟨eb1, eo1, es1, ef1, ee1, ec1, eO1, eH1, em1⟩ := elem_st (H1.seen 0 rfl) k (by omega)
      obtain ⟨ea1, ek1, eg1, rfl, eq1, eK1, eo2⟩ := own_Tape eO1
      have eP1 := H1.look1 0 rfl eo2 (fun b hb => eH1 b (by rw [eq1]; simp [hb]))
      have eL1 := own_len_le eo2
      unfold maxLen at eL1
      obtain ⟨eb2, eo3, es2, ef2, ee2, ec2, eO2, eH2, em2⟩ := elem_st (eP1.seen 1 rfl) k (by omega)
      obtain ⟨ea2, ek2, eg2, rfl, eq2, eK2, eo4⟩ := own_Tape eO2
      have eP2 := eP1.look1 1 rfl eo4 (fun b hb => eH2 b (by rw [eq2]; simp [hb]))
      have eL2 := own_len_le eo4
      unfold maxLen at eL2
      refine W_drw (S := Ext No _) [(0, true), (1, true), (2, true), (3, true), (4, true), (5, true), (6, true), (7, true), (8, false), (9, false)] (by kernel_rfl) (by kernel_rfl) (by kernel_rfl) rfl (fun _ => Ext.refl.drawn _) (fun q1 => ?_)
      have H2 := eP2.drawn q1
      refine d_val rfl (wn rfl) rfl rfl (fun zw hx => py_move rfl) (d_val rfl (wn rfl) rfl rfl (fun zw hx => py_move rfl) (d_val rfl (wn rfl) rfl rfl (fun zw hx => py_elz Tryz.underlying35 Tryz.sizeOf155 rfl rfl ee1 k (by omega) (by omega)) (d_val rfl (wn rfl) rfl rfl (fun zw hx => py_loadS Tryz.underlying155 rfl Tryz.sizeOf155 rfl rfl (hx.at ec1)) (d_val rfl (wn rfl) rfl rfl (fun zw hx => py_move rfl) (d_val rfl (wn rfl) rfl rfl (fun zw hx => py_move rfl) (d_val rfl (wn rfl) rfl rfl (fun zw hx => py_elz Tryz.underlying35 Tryz.sizeOf155 rfl rfl ee2 k (by omega) (by omega)) (d_val rfl (wn rfl) rfl rfl (fun zw hx => py_loadS Tryz.underlying155 rfl Tryz.sizeOf155 rfl rfl (hx.at ec2)) ?_)))))))
      refine d_call rfl (wn rfl) rfl rfl (pc_call Tryz.func145 rfl Tryz_nm145 rfl) (Tryz_laws_eqTape (by assumption) (H2.sees 2 rfl) (by assumption) (H2.sees 3 rfl)) (fun hS _ _ r _ => hS.trans r.1.no) (fun v1 w2 r1 => ?_)
      obtain ⟨e1, rfl⟩ := r1
      have H3 := H2.to e1
      refine d_end rfl (wn rfl) rfl rfl (py_not rfl) ?_
      refine d_nil ?_
      refine W_if rfl (fun c3 => ?_) (fun c3 => ?_)
      · refine W_seq ?_
        refine W_reg ?_
        refine s_val (wn rfl) rfl rfl (py_assign rfl) ?_
        refine s_nil ?_
        refine W_ret (hQ _ _ (fin1 Tryz.results81 rfl ?_))
        refine ⟨H3.ext, ?_⟩
        rw [decide_eq_false (fun e => by subst e; simp at c3)]
      · refine W_skip ?_
        refine W_reg ?_
        refine s_val (wn rfl) rfl rfl (py_move rfl) (s_val (wn rfl) rfl rfl (py_add rfl rfl (in64 ⟨by omega, by omega⟩)) (s_val (wn rfl) rfl rfl (py_assign rfl) ?_))
        refine s_nil ?_
        have c4 : xs.getD k default = ys.getD k default := by simpa using c3
        refine ⟨k + 1, ⟨rfl, rfl, rfl, trivial⟩, ⟨(H3.ftake 2), by omega, fun i hi => ?_⟩, by dsimp only; omega⟩
        by_cases e : i = k
        · subst e; exact c4
        · exact he i (by omega)
    · refine W_exit ?_
      refine W_seq ?_
      refine W_reg ?_
      refine s_val (wn rfl) rfl rfl (py_assign rfl) ?_
      refine s_nil ?_
      refine W_ret (hQ _ _ (fin1 Tryz.results81 rfl ?_))
      refine ⟨H1.ext, ?_⟩
      rw [decide_eq_true (getD_ext (d := default) (by omega) fun i hi => he i (by omega))]
theorem Tryz_laws_szWorld {w : World} {x : Wld} {xA9 : Option Addr} {xC9 : Nat} {xA10 : Option Addr} {xC10 : Nat} {xA11 : Option Addr} {xC11 : Nat} {l : Int} (xK : x.Ok) (xS9 : Sees w [.slice xA9 x.Groups.length xC9] x.Groups) (xS10 : Sees w [.slice xA10 x.On.length xC10] x.On) (xS11 : Sees w [.slice xA11 x.Tapes.length xC11] x.Tapes) (hl : -1 ≤ l ∧ l ≤ 1048576) : Ret Tryz.prog 15 #[x.val xA9 xC9 xA10 xC10 xA11 xC11, .int .i64 l] w fun v w' => Ext No w w' ∧ (v = .int .i64 (if l - szWld x < 0 then -1 else l - szWld x)) := by
  have xK2 := xK
  unfold Wld.Ok Shape.Ok at xK2
  try unfold I64ok at xK2
  try unfold maxLen at xK2
  have xL9 := sees_len xS9
  unfold maxLen at xL9
  obtain ⟨xF9, xO9⟩ := xS9
  have xL10 := sees_len xS10
  unfold maxLen at xL10
  obtain ⟨xF10, xO10⟩ := xS10
  have xL11 := sees_len xS11
  unfold maxLen at xL11
  obtain ⟨xF11, xO11⟩ := xS11
  refine ret_Q (vs := [x.val xA9 xC9 xA10 xC10 xA11 xC11, .int .i64 l]) Tryz.func15 rfl Tryz.ntmps15 rfl (fun Q hQ hN => ?_)
  have H0 := Sep.start (w := w) (F := [seen false [.slice xA9 x.Groups.length xC9] x.Groups xF9, seen false [.slice xA10 x.On.length xC10] x.On xF10, seen false [.slice xA11 x.Tapes.length xC11] x.Tapes xF11]) (all_cons xO9 (all_cons xO10 (all_cons xO11 (by simp))))
  refine W_seq ?_
  refine W_reg ?_
  refine s_box (wn rfl) rfl rfl H0 (fun b1 w1 e1 g1 H1 => ?_)
  refine s_val (wn rfl) rfl rfl (py_assign rfl) ?_
  refine s_nil ?_
  refine W_seq ?_
  refine W_reg ?_
  refine s_val (wn rfl) rfl rfl (py_field Tryz.underlying28 rfl Tryz.sizeOf24 rfl rfl) (s_val (wn rfl) rfl rfl (py_load Tryz.underlying24 rfl rfl (cell_atL (H1.box 0 rfl) rfl)) (s_val (wn rfl) rfl rfl (py_move rfl) ?_))
  refine s_call (wn rfl) rfl rfl (pc_call Tryz.func66 rfl Tryz_nm66 rfl) (Tryz_laws_szDriveSS (H1.sees 0 rfl) (by omega)) (fun v1 w2 r1 => ?_)
  obtain ⟨e2, rfl⟩ := r1
  have H2 := H1.to e2
  refine s_val (wn rfl) rfl rfl (py_assign rfl) ?_
  refine s_nil ?_
  refine W_seq ?_
  refine W_seq ?_
  refine W_reg ?_
  refine s_val (wn rfl) rfl rfl (py_move rfl) (s_val (wn rfl) rfl rfl (py_lss rfl rfl) ?_)
  refine s_nil ?_
  refine W_ifd rfl (fun c1 => ?_) (fun c1 => ?_)
  · refine W_seq ?_
    refine W_reg ?_
    refine s_val (wn rfl) rfl rfl (py_assign rfl) ?_
    refine s_nil ?_
    refine W_ret (hQ _ _ (fin1 Tryz.results15 rfl ?_))
    exact ⟨H2.ext, congrArg (Value.int .i64) (by unfold szWld; omega)⟩
  · refine W_skip ?_
    refine W_seq ?_
    refine W_reg ?_
    refine s_val (wn rfl) rfl rfl (py_field Tryz.underlying28 rfl Tryz.sizeOf25 rfl rfl) (s_val (wn rfl) rfl rfl (py_load Tryz.underlying25 rfl rfl (cell_atL (H2.box 0 rfl) rfl)) (s_val (wn rfl) rfl rfl (py_move rfl) ?_))
    refine s_call (wn rfl) rfl rfl (pc_call Tryz.func67 rfl Tryz_nm67 rfl) (Tryz_laws_szInt64S (H2.sees 1 rfl) (by omega)) (fun v2 w3 r2 => ?_)
    obtain ⟨e3, rfl⟩ := r2
    have H3 := H2.to e3
    refine s_val (wn rfl) rfl rfl (py_assign rfl) ?_
    refine s_nil ?_
    refine W_seq ?_
    refine W_seq ?_
    refine W_reg ?_
    refine s_val (wn rfl) rfl rfl (py_move rfl) (s_val (wn rfl) rfl rfl (py_lss rfl rfl) ?_)
    refine s_nil ?_
    refine W_ifd rfl (fun c2 => ?_) (fun c2 => ?_)
    · refine W_seq ?_
      refine W_reg ?_
      refine s_val (wn rfl) rfl rfl (py_assign rfl) ?_
      refine s_nil ?_
      refine W_ret (hQ _ _ (fin1 Tryz.results15 rfl ?_))
      exact ⟨H3.ext, congrArg (Value.int .i64) (by unfold szWld; omega)⟩
    · refine W_skip ?_
      refine W_seq ?_
      refine W_reg ?_
      refine s_val (wn rfl) rfl rfl (py_field Tryz.underlying28 rfl Tryz.sizeOf26 rfl rfl) (s_val (wn rfl) rfl rfl (py_load Tryz.underlying26 rfl rfl (cell_atL (H3.box 0 rfl) rfl)) (s_val (wn rfl) rfl rfl (py_move rfl) ?_))
      refine s_call (wn rfl) rfl rfl (pc_call Tryz.func68 rfl Tryz_nm68 rfl) (Tryz_laws_szTapeS (H3.sees 2 rfl) (by omega)) (fun v3 w4 r3 => ?_)
      obtain ⟨e4, rfl⟩ := r3
      have H4 := H3.to e4
      refine s_val (wn rfl) rfl rfl (py_assign rfl) ?_
      refine s_nil ?_
      refine W_seq ?_
      refine W_seq ?_
      refine W_reg ?_
      refine s_val (wn rfl) rfl rfl (py_move rfl) (s_val (wn rfl) rfl rfl (py_lss rfl rfl) ?_)
      refine s_nil ?_
      refine W_ifd rfl (fun c3 => ?_) (fun c3 => ?_)
      · refine W_seq ?_
        refine W_reg ?_
        refine s_val (wn rfl) rfl rfl (py_assign rfl) ?_
        refine s_nil ?_
        refine W_ret (hQ _ _ (fin1 Tryz.results15 rfl ?_))
        exact ⟨H4.ext, congrArg (Value.int .i64) (by unfold szWld; omega)⟩
      · refine W_skip ?_
        refine W_seq ?_
        refine W_reg ?_
        refine s_val (wn rfl) rfl rfl (py_move rfl) (s_val (wn rfl) rfl rfl (py_assign rfl) ?_)
        refine s_nil ?_
        refine W_ret (hQ _ _ (fin1 Tryz.results15 rfl ?_))
        exact ⟨H4.ext, congrArg (Value.int .i64) (by unfold szWld; omega)⟩
theorem Tryz_laws_toWorld {w : World} {x : Wld} {xA9 : Option Addr} {xC9 : Nat} {xA10 : Option Addr} {xC10 : Nat} {xA11 : Option Addr} {xC11 : Nat} (xK : x.Ok) (xS9 : Sees w [.slice xA9 x.Groups.length xC9] x.Groups) (xS10 : Sees w [.slice xA10 x.On.length xC10] x.On) (xS11 : Sees w [.slice xA11 x.Tapes.length xC11] x.Tapes) (hb : szWld x ≤ 1048576) : Ret Tryz.prog 17 #[x.val xA9 xC9 xA10 xC10 xA11 xC11] w fun v w' => Ext No w w' ∧ (∃ A9 C9 A10 C10 A11 C11, v = x.val A9 C9 A10 C10 A11 C11 ∧ Res w w' [.int .i64 x.Shape.Groups, .int .i64 x.Shape.Column, .int .i64 x.Shape.Data, .int .i64 x.Shape.Spare, .int .i64 x.Shape.Rows, .int .i64 x.Shape.Cap, .int .i64 x.Shape.Batch, .int .i64 x.Shape.Queue, .int .i64 x.Shape.Stage, .slice A9 x.Groups.length C9, .slice A10 x.On.length C10, .slice A11 x.Tapes.length C11, .int .i64 x.Writes, .int .i64 x.Stop, .bool x.Down] x) := by
  have xK2 := xK
  unfold Wld.Ok Shape.Ok at xK2
  try unfold I64ok at xK2
  try unfold maxLen at xK2
  have xL9 := sees_len xS9
  unfold maxLen at xL9
  obtain ⟨xF9, xO9⟩ := xS9
  have xL10 := sees_len xS10
  unfold maxLen at xL10
  obtain ⟨xF10, xO10⟩ := xS10
  have xL11 := sees_len xS11
  unfold maxLen at xL11
  obtain ⟨xF11, xO11⟩ := xS11
  unfold szWld at hb
  refine ret_Q (vs := [x.val xA9 xC9 xA10 xC10 xA11 xC11]) Tryz.func17 rfl Tryz.ntmps17 rfl (fun Q hQ hN => ?_)
  have H0 := Sep.start (w := w) (F := [seen false [.slice xA9 x.Groups.length xC9] x.Groups xF9, seen false [.slice xA10 x.On.length xC10] x.On xF10, seen false [.slice xA11 x.Tapes.length xC11] x.Tapes xF11]) (all_cons xO9 (all_cons xO10 (all_cons xO11 (by simp))))
  refine W_seq ?_
  refine W_reg ?_
  refine s_box (wn rfl) rfl rfl H0 (fun b1 w1 e1 g1 H1 => ?_)
  refine s_var (wn rfl) rfl Tryz.zeroValue37 H1 (fun b2 w2 e2 g2 H2 => ?_)
  refine s_nil ?_
  refine W_seq ?_
  refine W_reg ?_
  refine s_var (wn rfl) rfl Tryz.zeroValue37 H2 (fun b3 w3 e3 g3 H3 => ?_)
  refine s_nil ?_
  refine W_seq ?_
  refine W_reg ?_
  refine s_val (wn rfl) rfl rfl (py_field Tryz.underlying28 rfl Tryz.sizeOf23 rfl rfl) (s_val (wn rfl) rfl rfl (py_loadS Tryz.underlying23 rfl Tryz.sizeOf23 rfl rfl (At.sub (H3.box 0 rfl) 9)) ?_)
  refine s_call (wn rfl) rfl rfl (pc_call Tryz.func71 rfl Tryz_nm71 rfl) Tryz_laws_toShape (fun v1 w4 r1 => ?_)
  obtain ⟨e4, rfl⟩ := r1
  have H4 := H3.to e4
  refine s_val (wn rfl) rfl rfl (py_field Tryz.underlying37 rfl Tryz.sizeOf33 rfl rfl) ?_
  refine s_stoS (wn rfl) Tryz.sizeOf33 rfl rfl rfl rfl H4 2 rfl rfl (fun w5 e5 H5 => ?_)
  dsimp only [List.nil_append, List.cons_append, List.set_cons_zero, List.set_cons_succ, layL] at H5
  refine s_nil ?_
  refine W_seq ?_
  refine W_reg ?_
  refine s_val (wn rfl) rfl rfl (py_field Tryz.underlying28 rfl Tryz.sizeOf24 rfl rfl) (s_val (wn rfl) rfl rfl (py_load Tryz.underlying24 rfl rfl (cell_atL (H5.box 0 rfl) rfl)) ?_)
  refine s_call (wn rfl) rfl rfl (pc_call Tryz.func72 rfl Tryz_nm72 rfl) (Tryz_laws_toDriveSS (H5.sees 0 rfl) (by first | assumption | omega)) (fun v2 w6 r2 => ?_)
  obtain ⟨e6, r2⟩ := r2
  obtain ⟨fp1, H6⟩ := H5.res e6 r2
  obtain ⟨a1, k1, q1⟩ := own_slice (H6.mine 3 rfl)
  cases q1
  refine s_val (wn rfl) rfl rfl (py_field Tryz.underlying37 rfl Tryz.sizeOf34 rfl rfl) ?_
  refine s_sto (wn rfl) Tryz.sizeOf34 rfl rfl rfl H6 2 rfl rfl (fun w7 e7 H7 => ?_)
  dsimp only [List.nil_append, List.cons_append, List.set_cons_zero, List.set_cons_succ, layL] at H7
  refine s_nil ?_
  refine W_seq ?_
  refine W_reg ?_
  refine s_val (wn rfl) rfl rfl (py_field Tryz.underlying28 rfl Tryz.sizeOf25 rfl rfl) (s_val (wn rfl) rfl rfl (py_load Tryz.underlying25 rfl rfl (cell_atL (H7.box 0 rfl) rfl)) ?_)
  refine s_call (wn rfl) rfl rfl (pc_call Tryz.func73 rfl Tryz_nm73 rfl) (Tryz_laws_toInt64S (H7.sees 1 rfl) (by omega)) (fun v3 w8 r3 => ?_)
  obtain ⟨e8, r3⟩ := r3
  obtain ⟨fp2, H8⟩ := H7.res e8 r3
  obtain ⟨a2, k2, q2⟩ := own_slice (H8.mine 4 rfl)
  cases q2
  refine s_val (wn rfl) rfl rfl (py_field Tryz.underlying37 rfl Tryz.sizeOf25 rfl rfl) ?_
  refine s_sto (wn rfl) Tryz.sizeOf25 rfl rfl rfl H8 2 rfl rfl (fun w9 e9 H9 => ?_)
  dsimp only [List.nil_append, List.cons_append, List.set_cons_zero, List.set_cons_succ, layL] at H9
  refine s_nil ?_
  refine W_seq ?_
  refine W_reg ?_
  refine s_val (wn rfl) rfl rfl (py_field Tryz.underlying28 rfl Tryz.sizeOf26 rfl rfl) (s_val (wn rfl) rfl rfl (py_load Tryz.underlying26 rfl rfl (cell_atL (H9.box 0 rfl) rfl)) ?_)
  refine s_call (wn rfl) rfl rfl (pc_call Tryz.func74 rfl Tryz_nm74 rfl) (Tryz_laws_toTapeS (H9.sees 2 rfl) (by first | assumption | omega)) (fun v4 w10 r4 => ?_)
  obtain ⟨e10, r4⟩ := r4
  obtain ⟨fp3, H10⟩ := H9.res e10 r4
  obtain ⟨a3, k3, q3⟩ := own_slice (H10.mine 5 rfl)
  cases q3
  refine s_val (wn rfl) rfl rfl (py_field Tryz.underlying37 rfl Tryz.sizeOf35 rfl rfl) ?_
  refine s_sto (wn rfl) Tryz.sizeOf35 rfl rfl rfl H10 2 rfl rfl (fun w11 e11 H11 => ?_)
  dsimp only [List.nil_append, List.cons_append, List.set_cons_zero, List.set_cons_succ, layL] at H11
  refine s_nil ?_
  refine W_seq ?_
  refine W_reg ?_
  refine s_val (wn rfl) rfl rfl (py_field Tryz.underlying28 rfl Tryz.sizeOf2 rfl rfl) (s_val (wn rfl) rfl rfl (py_load Tryz.underlying2 rfl rfl (cell_atL (H11.box 0 rfl) rfl)) (s_val (wn rfl) rfl rfl (py_field Tryz.underlying37 rfl Tryz.sizeOf2 rfl rfl) ?_))
  refine s_sto (wn rfl) Tryz.sizeOf2 rfl rfl rfl H11 2 rfl rfl (fun w12 e12 H12 => ?_)
  dsimp only [List.nil_append, List.cons_append, List.set_cons_zero, List.set_cons_succ, layL] at H12
  refine s_nil ?_
  refine W_seq ?_
  refine W_reg ?_
  refine s_val (wn rfl) rfl rfl (py_field Tryz.underlying28 rfl Tryz.sizeOf2 rfl rfl) (s_val (wn rfl) rfl rfl (py_load Tryz.underlying2 rfl rfl (cell_atL (H12.box 0 rfl) rfl)) (s_val (wn rfl) rfl rfl (py_field Tryz.underlying37 rfl Tryz.sizeOf2 rfl rfl) ?_))
  refine s_sto (wn rfl) Tryz.sizeOf2 rfl rfl rfl H12 2 rfl rfl (fun w13 e13 H13 => ?_)
  dsimp only [List.nil_append, List.cons_append, List.set_cons_zero, List.set_cons_succ, layL] at H13
  refine s_nil ?_
  refine W_seq ?_
  refine W_reg ?_
  refine s_val (wn rfl) rfl rfl (py_field Tryz.underlying28 rfl Tryz.sizeOf4 rfl rfl) (s_val (wn rfl) rfl rfl (py_load Tryz.underlying4 rfl rfl (cell_atL (H13.box 0 rfl) rfl)) (s_val (wn rfl) rfl rfl (py_field Tryz.underlying37 rfl Tryz.sizeOf4 rfl rfl) ?_))
  refine s_sto (wn rfl) Tryz.sizeOf4 rfl rfl rfl H13 2 rfl rfl (fun w14 e14 H14 => ?_)
  dsimp only [List.nil_append, List.cons_append, List.set_cons_zero, List.set_cons_succ, layL] at H14
  refine s_nil ?_
  refine W_seq ?_
  refine W_reg ?_
  refine s_val (wn rfl) rfl rfl (py_loadS Tryz.underlying37 rfl Tryz.sizeOf37 rfl rfl (At.whole (H14.box 2 rfl))) ?_
  refine s_stoS (wn rfl) Tryz.sizeOf37 rfl rfl rfl rfl H14 1 rfl rfl (fun w15 e15 H15 => ?_)
  dsimp only [List.nil_append, List.cons_append, List.set_cons_zero, List.set_cons_succ, layL] at H15
  refine s_nil ?_
  refine W_ret (hQ _ _ (finC Tryz.results17 rfl (run_loadVarS Tryz.underlying37 rfl Tryz.sizeOf37 rfl (At.whole (H15.box 1 rfl))) ?_))
  exact ⟨H15.ext, _, _, _, _, _, _, rfl, Wld.out (H15.sub (.cons _ (.cons _ (.cons _ (.cons_cons _ (.cons_cons _ (.cons_cons _ List.Sublist.slnil))))))) xK⟩
theorem Tryz_laws_eqWorld {w : World} {a : Wld} {aA9 : Option Addr} {aC9 : Nat} {aA10 : Option Addr} {aC10 : Nat} {aA11 : Option Addr} {aC11 : Nat} {b : Wld} {bA9 : Option Addr} {bC9 : Nat} {bA10 : Option Addr} {bC10 : Nat} {bA11 : Option Addr} {bC11 : Nat} (aK : a.Ok) (aS9 : Sees w [.slice aA9 a.Groups.length aC9] a.Groups) (aS10 : Sees w [.slice aA10 a.On.length aC10] a.On) (aS11 : Sees w [.slice aA11 a.Tapes.length aC11] a.Tapes) (bK : b.Ok) (bS9 : Sees w [.slice bA9 b.Groups.length bC9] b.Groups) (bS10 : Sees w [.slice bA10 b.On.length bC10] b.On) (bS11 : Sees w [.slice bA11 b.Tapes.length bC11] b.Tapes) : Ret Tryz.prog 20 #[a.val aA9 aC9 aA10 aC10 aA11 aC11, b.val bA9 bC9 bA10 bC10 bA11 bC11] w fun v w' => Ext No w w' ∧ (v = .bool (decide (a = b))) := by
  have aK2 := aK
  unfold Wld.Ok Shape.Ok at aK2
  try unfold I64ok at aK2
  try unfold maxLen at aK2
  have aL9 := sees_len aS9
  unfold maxLen at aL9
  obtain ⟨aF9, aO9⟩ := aS9
  have aL10 := sees_len aS10
  unfold maxLen at aL10
  obtain ⟨aF10, aO10⟩ := aS10
  have aL11 := sees_len aS11
  unfold maxLen at aL11
  obtain ⟨aF11, aO11⟩ := aS11
  have bK2 := bK
  unfold Wld.Ok Shape.Ok at bK2
  try unfold I64ok at bK2
  try unfold maxLen at bK2
  have bL9 := sees_len bS9
  unfold maxLen at bL9
  obtain ⟨bF9, bO9⟩ := bS9
  have bL10 := sees_len bS10
  unfold maxLen at bL10
  obtain ⟨bF10, bO10⟩ := bS10
  have bL11 := sees_len bS11
  unfold maxLen at bL11
  obtain ⟨bF11, bO11⟩ := bS11
  refine ret_Q (vs := [a.val aA9 aC9 aA10 aC10 aA11 aC11, b.val bA9 bC9 bA10 bC10 bA11 bC11]) Tryz.func20 rfl Tryz.ntmps20 rfl (fun Q hQ hN => ?_)
  have H0 := Sep.start (w := w) (F := [seen false [.slice aA9 a.Groups.length aC9] a.Groups aF9, seen false [.slice aA10 a.On.length aC10] a.On aF10, seen false [.slice aA11 a.Tapes.length aC11] a.Tapes aF11, seen false [.slice bA9 b.Groups.length bC9] b.Groups bF9, seen false [.slice bA10 b.On.length bC10] b.On bF10, seen false [.slice bA11 b.Tapes.length bC11] b.Tapes bF11]) (all_cons aO9 (all_cons aO10 (all_cons aO11 (all_cons bO9 (all_cons bO10 (all_cons bO11 (by simp)))))))
  refine W_seq ?_
  refine W_reg ?_
  refine s_box (wn rfl) rfl rfl H0 (fun b1 w1 e1 g1 H1 => ?_)
  refine s_box (wn rfl) rfl rfl H1 (fun b2 w2 e2 g2 H2 => ?_)
  refine s_val (wn rfl) rfl rfl (py_assign rfl) ?_
  refine s_nil ?_
  refine W_seq ?_
  refine W_seq ?_
  refine W_reg ?_
  refine s_val (wn rfl) rfl rfl (py_field Tryz.underlying37 rfl Tryz.sizeOf33 rfl rfl) (s_val (wn rfl) rfl rfl (py_loadS Tryz.underlying33 rfl Tryz.sizeOf33 rfl rfl (At.sub (H2.box 0 rfl) 9)) (s_val (wn rfl) rfl rfl (py_field Tryz.underlying37 rfl Tryz.sizeOf33 rfl rfl) (s_val (wn rfl) rfl rfl (py_loadS Tryz.underlying33 rfl Tryz.sizeOf33 rfl rfl (At.sub (H2.box 1 rfl) 9)) ?_)))
  refine s_call (wn rfl) rfl rfl (pc_call Tryz.func78 rfl Tryz_nm78 rfl) Tryz_laws_eqShape (fun v1 w3 r1 => ?_)
  obtain ⟨e3, rfl⟩ := r1
  have H3 := H2.to e3
  refine s_val (wn rfl) rfl rfl (py_not rfl) ?_
  refine s_nil ?_
  refine W_if rfl (fun c1 => ?_) (fun c1 => ?_)
  · refine W_seq ?_
    refine W_reg ?_
    refine s_val (wn rfl) rfl rfl (py_assign rfl) ?_
    refine s_nil ?_
    refine W_ret (hQ _ _ (fin1 Tryz.results20 rfl ?_))
    refine ⟨H3.ext, ?_⟩
    rw [decide_eq_false (fun e => by subst e; first | exact c1 rfl | simp at c1)]
  · refine W_skip ?_
    refine W_seq ?_
    refine W_seq ?_
    refine W_reg ?_
    refine s_val (wn rfl) rfl rfl (py_field Tryz.underlying37 rfl Tryz.sizeOf34 rfl rfl) (s_val (wn rfl) rfl rfl (py_load Tryz.underlying34 rfl rfl (cell_atL (H3.box 0 rfl) rfl)) (s_val (wn rfl) rfl rfl (py_field Tryz.underlying37 rfl Tryz.sizeOf34 rfl rfl) (s_val (wn rfl) rfl rfl (py_load Tryz.underlying34 rfl rfl (cell_atL (H3.box 1 rfl) rfl)) ?_)))
    refine s_call (wn rfl) rfl rfl (pc_call Tryz.func79 rfl Tryz_nm79 rfl) (Tryz_laws_eqDriveSS (H3.sees 0 rfl) (H3.sees 3 rfl)) (fun v2 w4 r2 => ?_)
    obtain ⟨e4, rfl⟩ := r2
    have H4 := H3.to e4
    refine s_val (wn rfl) rfl rfl (py_not rfl) ?_
    refine s_nil ?_
    refine W_if rfl (fun c2 => ?_) (fun c2 => ?_)
    · refine W_seq ?_
      refine W_reg ?_
      refine s_val (wn rfl) rfl rfl (py_assign rfl) ?_
      refine s_nil ?_
      refine W_ret (hQ _ _ (fin1 Tryz.results20 rfl ?_))
      refine ⟨H4.ext, ?_⟩
      rw [decide_eq_false (fun e => by subst e; first | exact c2 rfl | simp at c2)]
    · refine W_skip ?_
      refine W_seq ?_
      refine W_seq ?_
      refine W_reg ?_
      refine s_val (wn rfl) rfl rfl (py_field Tryz.underlying37 rfl Tryz.sizeOf25 rfl rfl) (s_val (wn rfl) rfl rfl (py_load Tryz.underlying25 rfl rfl (cell_atL (H4.box 0 rfl) rfl)) (s_val (wn rfl) rfl rfl (py_field Tryz.underlying37 rfl Tryz.sizeOf25 rfl rfl) (s_val (wn rfl) rfl rfl (py_load Tryz.underlying25 rfl rfl (cell_atL (H4.box 1 rfl) rfl)) ?_)))
      refine s_call (wn rfl) rfl rfl (pc_call Tryz.func80 rfl Tryz_nm80 rfl) (Tryz_laws_eqInt64S (H4.sees 1 rfl) (H4.sees 4 rfl)) (fun v3 w5 r3 => ?_)
      obtain ⟨e5, rfl⟩ := r3
      have H5 := H4.to e5
      refine s_val (wn rfl) rfl rfl (py_not rfl) ?_
      refine s_nil ?_
      refine W_if rfl (fun c3 => ?_) (fun c3 => ?_)
      · refine W_seq ?_
        refine W_reg ?_
        refine s_val (wn rfl) rfl rfl (py_assign rfl) ?_
        refine s_nil ?_
        refine W_ret (hQ _ _ (fin1 Tryz.results20 rfl ?_))
        refine ⟨H5.ext, ?_⟩
        rw [decide_eq_false (fun e => by subst e; first | exact c3 rfl | simp at c3)]
      · refine W_skip ?_
        refine W_seq ?_
        refine W_seq ?_
        refine W_reg ?_
        refine s_val (wn rfl) rfl rfl (py_field Tryz.underlying37 rfl Tryz.sizeOf35 rfl rfl) (s_val (wn rfl) rfl rfl (py_load Tryz.underlying35 rfl rfl (cell_atL (H5.box 0 rfl) rfl)) (s_val (wn rfl) rfl rfl (py_field Tryz.underlying37 rfl Tryz.sizeOf35 rfl rfl) (s_val (wn rfl) rfl rfl (py_load Tryz.underlying35 rfl rfl (cell_atL (H5.box 1 rfl) rfl)) ?_)))
        refine s_call (wn rfl) rfl rfl (pc_call Tryz.func81 rfl Tryz_nm81 rfl) (Tryz_laws_eqTapeS (H5.sees 2 rfl) (H5.sees 5 rfl)) (fun v4 w6 r4 => ?_)
        obtain ⟨e6, rfl⟩ := r4
        have H6 := H5.to e6
        refine s_val (wn rfl) rfl rfl (py_not rfl) ?_
        refine s_nil ?_
        refine W_if rfl (fun c4 => ?_) (fun c4 => ?_)
        · refine W_seq ?_
          refine W_reg ?_
          refine s_val (wn rfl) rfl rfl (py_assign rfl) ?_
          refine s_nil ?_
          refine W_ret (hQ _ _ (fin1 Tryz.results20 rfl ?_))
          refine ⟨H6.ext, ?_⟩
          rw [decide_eq_false (fun e => by subst e; first | exact c4 rfl | simp at c4)]
        · refine W_skip ?_
          refine W_seq ?_
          refine W_seq ?_
          refine W_reg ?_
          refine s_val (wn rfl) rfl rfl (py_field Tryz.underlying37 rfl Tryz.sizeOf2 rfl rfl) (s_val (wn rfl) rfl rfl (py_load Tryz.underlying2 rfl rfl (cell_atL (H6.box 0 rfl) rfl)) (s_val (wn rfl) rfl rfl (py_field Tryz.underlying37 rfl Tryz.sizeOf2 rfl rfl) (s_val (wn rfl) rfl rfl (py_load Tryz.underlying2 rfl rfl (cell_atL (H6.box 1 rfl) rfl)) (s_val (wn rfl) rfl rfl (py_neq rfl rfl) ?_))))
          refine s_nil ?_
          refine W_ifd rfl (fun c5 => ?_) (fun c5 => ?_)
          · refine W_seq ?_
            refine W_reg ?_
            refine s_val (wn rfl) rfl rfl (py_assign rfl) ?_
            refine s_nil ?_
            refine W_ret (hQ _ _ (fin1 Tryz.results20 rfl ?_))
            refine ⟨H6.ext, ?_⟩
            rw [decide_eq_false (fun e => by subst e; first | exact c5 rfl | simp at c5)]
          · refine W_skip ?_
            refine W_seq ?_
            refine W_seq ?_
            refine W_reg ?_
            refine s_val (wn rfl) rfl rfl (py_field Tryz.underlying37 rfl Tryz.sizeOf2 rfl rfl) (s_val (wn rfl) rfl rfl (py_load Tryz.underlying2 rfl rfl (cell_atL (H6.box 0 rfl) rfl)) (s_val (wn rfl) rfl rfl (py_field Tryz.underlying37 rfl Tryz.sizeOf2 rfl rfl) (s_val (wn rfl) rfl rfl (py_load Tryz.underlying2 rfl rfl (cell_atL (H6.box 1 rfl) rfl)) (s_val (wn rfl) rfl rfl (py_neq rfl rfl) ?_))))
            refine s_nil ?_
            refine W_ifd rfl (fun c6 => ?_) (fun c6 => ?_)
            · refine W_seq ?_
              refine W_reg ?_
              refine s_val (wn rfl) rfl rfl (py_assign rfl) ?_
              refine s_nil ?_
              refine W_ret (hQ _ _ (fin1 Tryz.results20 rfl ?_))
              refine ⟨H6.ext, ?_⟩
              rw [decide_eq_false (fun e => by subst e; first | exact c6 rfl | simp at c6)]
            · refine W_skip ?_
              refine W_seq ?_
              refine W_seq ?_
              refine W_reg ?_
              refine s_val (wn rfl) rfl rfl (py_field Tryz.underlying37 rfl Tryz.sizeOf4 rfl rfl) (s_val (wn rfl) rfl rfl (py_load Tryz.underlying4 rfl rfl (cell_atL (H6.box 0 rfl) rfl)) (s_val (wn rfl) rfl rfl (py_field Tryz.underlying37 rfl Tryz.sizeOf4 rfl rfl) (s_val (wn rfl) rfl rfl (py_load Tryz.underlying4 rfl rfl (cell_atL (H6.box 1 rfl) rfl)) (s_val (wn rfl) rfl rfl (py_bneq Tryz.underlying4 rfl rfl) ?_))))
              refine s_nil ?_
              refine W_if rfl (fun c7 => ?_) (fun c7 => ?_)
              · refine W_seq ?_
                refine W_reg ?_
                refine s_val (wn rfl) rfl rfl (py_assign rfl) ?_
                refine s_nil ?_
                refine W_ret (hQ _ _ (fin1 Tryz.results20 rfl ?_))
                refine ⟨H6.ext, ?_⟩
                rw [decide_eq_false (fun e => by subst e; first | exact c7 rfl | simp at c7)]
              · refine W_skip ?_
                refine W_seq ?_
                refine W_reg ?_
                refine s_val (wn rfl) rfl rfl (py_assign rfl) ?_
                refine s_nil ?_
                refine W_ret (hQ _ _ (fin1 Tryz.results20 rfl ?_))
                refine ⟨H6.ext, ?_⟩
                rw [decide_eq_true]
                cases a; cases b; simp_all [str_beq]
theorem Tryz_laws_eqIntResult {w : World} {a : IntResult} {b : IntResult} (aK : a.Ok) (bK : b.Ok) : Ret Tryz.prog 19 #[a.val, b.val] w fun v w' => Ext No w w' ∧ (v = .bool (decide (a = b))) := by
  have aK2 := aK
  unfold IntResult.Ok at aK2
  try unfold I64ok at aK2
  try unfold maxLen at aK2
  have bK2 := bK
  unfold IntResult.Ok at bK2
  try unfold I64ok at bK2
  try unfold maxLen at bK2
  refine ret_Q (vs := [a.val, b.val]) Tryz.func19 rfl Tryz.ntmps19 rfl (fun Q hQ hN => ?_)
  have H0 := Sep.start (w := w) (F := []) (by simp)
  refine W_seq ?_
  refine W_reg ?_
  refine s_box (wn rfl) rfl rfl H0 (fun b1 w1 e1 g1 H1 => ?_)
  refine s_box (wn rfl) rfl rfl H1 (fun b2 w2 e2 g2 H2 => ?_)
  refine s_val (wn rfl) rfl rfl (py_assign rfl) ?_
  refine s_nil ?_
  refine W_seq ?_
  refine W_seq ?_
  refine W_reg ?_
  refine s_val (wn rfl) rfl rfl (py_field Tryz.underlying31 rfl Tryz.sizeOf2 rfl rfl) (s_val (wn rfl) rfl rfl (py_load Tryz.underlying2 rfl rfl (cell_atL (H2.box 0 rfl) rfl)) (s_val (wn rfl) rfl rfl (py_field Tryz.underlying31 rfl Tryz.sizeOf2 rfl rfl) (s_val (wn rfl) rfl rfl (py_load Tryz.underlying2 rfl rfl (cell_atL (H2.box 1 rfl) rfl)) (s_val (wn rfl) rfl rfl (py_neq rfl rfl) ?_))))
  refine s_nil ?_
  refine W_ifd rfl (fun c1 => ?_) (fun c1 => ?_)
  · refine W_seq ?_
    refine W_reg ?_
    refine s_val (wn rfl) rfl rfl (py_assign rfl) ?_
    refine s_nil ?_
    refine W_ret (hQ _ _ (fin1 Tryz.results19 rfl ?_))
    refine ⟨H2.ext, ?_⟩
    rw [decide_eq_false (fun e => by subst e; first | exact c1 rfl | simp at c1)]
  · refine W_skip ?_
    refine W_seq ?_
    refine W_seq ?_
    refine W_reg ?_
    refine s_val (wn rfl) rfl rfl (py_field Tryz.underlying31 rfl Tryz.sizeOf2 rfl rfl) (s_val (wn rfl) rfl rfl (py_load Tryz.underlying2 rfl rfl (cell_atL (H2.box 0 rfl) rfl)) (s_val (wn rfl) rfl rfl (py_field Tryz.underlying31 rfl Tryz.sizeOf2 rfl rfl) (s_val (wn rfl) rfl rfl (py_load Tryz.underlying2 rfl rfl (cell_atL (H2.box 1 rfl) rfl)) (s_val (wn rfl) rfl rfl (py_neq rfl rfl) ?_))))
    refine s_nil ?_
    refine W_ifd rfl (fun c2 => ?_) (fun c2 => ?_)
    · refine W_seq ?_
      refine W_reg ?_
      refine s_val (wn rfl) rfl rfl (py_assign rfl) ?_
      refine s_nil ?_
      refine W_ret (hQ _ _ (fin1 Tryz.results19 rfl ?_))
      refine ⟨H2.ext, ?_⟩
      rw [decide_eq_false (fun e => by subst e; first | exact c2 rfl | simp at c2)]
    · refine W_skip ?_
      refine W_seq ?_
      refine W_reg ?_
      refine s_val (wn rfl) rfl rfl (py_assign rfl) ?_
      refine s_nil ?_
      refine W_ret (hQ _ _ (fin1 Tryz.results19 rfl ?_))
      refine ⟨H2.ext, ?_⟩
      rw [decide_eq_true]
      cases a; cases b; simp_all [str_beq]
end Go.Wk
