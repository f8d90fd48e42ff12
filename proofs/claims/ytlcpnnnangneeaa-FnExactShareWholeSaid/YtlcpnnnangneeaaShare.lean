/-
  The functions walked, each once. (Printed by a program of mine.)
-/
import Derived.Test.YtlcpnnnangneeaaBase
import Derived.Test.YtlcpnnnangneeaaWkM
namespace Go.Wk
open Go.Proofs Rp
set_option maxRecDepth 10000
theorem Try_laws_szRec {w : World} {r : Rec} {rA6 : Option Addr} {rC6 : Nat} {rA7 : Option Addr} {rC7 : Nat} {rA8 : Option Addr} {rC8 : Nat} {l : Int} (rK : r.Ok) (rS6 : Sees w [.slice rA6 r.Rows.length rC6] r.Rows) (rS7 : Sees w [.slice rA7 r.Data.length rC7] r.Data) (rS8 : Sees w [.slice rA8 r.Delta.length rC8] r.Delta) (hl : -1 ≤ l ∧ l ≤ 1048576) : Ret Try.prog 20 #[r.val rA6 rC6 rA7 rC7 rA8 rC8, .int .i64 l] w fun v w' => Ext No w w' ∧ (v = .int .i64 (if l - r.Name.size - r.Rows.length - r.Data.length - r.Delta.length < 0 then -1 else l - r.Name.size - r.Rows.length - r.Data.length - r.Delta.length)) := by
  have rK2 := rK
  unfold Rec.Ok I64ok maxLen at rK2
  have rL6 := sees_len rS6
  unfold maxLen at rL6
  obtain ⟨rF6, rO6⟩ := rS6
  have rL7 := sees_len rS7
  unfold maxLen at rL7
  obtain ⟨rF7, rO7⟩ := rS7
  have rL8 := sees_len rS8
  unfold maxLen at rL8
  obtain ⟨rF8, rO8⟩ := rS8
  refine ret_Q (vs := [r.val rA6 rC6 rA7 rC7 rA8 rC8, .int .i64 l]) Try.func20 rfl Try.ntmps20 rfl (fun Q hQ hN => ?_)
  have H0 := Sep.start (w := w) (F := [seen false [.slice rA6 r.Rows.length rC6] r.Rows rF6, seen false [.slice rA7 r.Data.length rC7] r.Data rF7, seen false [.slice rA8 r.Delta.length rC8] r.Delta rF8]) (all_cons rO6 (all_cons rO7 (all_cons rO8 (by simp))))
  refine W_seq ?_
  refine W_reg ?_
  refine s_box (wn rfl) rfl rfl H0 (fun b1 w1 e1 g1 H1 => ?_)
  refine s_val (wn rfl) rfl rfl (py_assign rfl) ?_
  refine s_nil ?_
  refine W_seq ?_
  refine W_reg ?_
  refine s_val (wn rfl) rfl rfl (py_move rfl) (s_val (wn rfl) rfl rfl (py_field Try.underlying36 rfl Try.sizeOf9 rfl rfl) (s_val (wn rfl) rfl rfl (py_load Try.underlying9 rfl rfl (cell_atL (H1.box 0 rfl) rfl)) (s_val (wn rfl) rfl rfl (py_slen Try.underlying9 rfl) (s_val (wn rfl) rfl rfl (py_sub rfl rfl (in64 ⟨by omega, by omega⟩)) (s_val (wn rfl) rfl rfl (py_assign rfl) ?_)))))
  refine s_nil ?_
  refine W_seq ?_
  refine W_seq ?_
  refine W_reg ?_
  refine s_val (wn rfl) rfl rfl (py_move rfl) (s_val (wn rfl) rfl rfl (py_lss rfl rfl) ?_)
  refine s_nil ?_
  refine W_ifd rfl (fun c1 => ?_) (fun c1 => ?_)
  · refine W_seq ?_
    refine W_reg ?_
    refine s_val (wn rfl) rfl rfl (py_assign rfl) ?_
    refine s_nil ?_
    refine W_ret (hQ _ _ (fin1 Try.results20 rfl ?_))
    exact ⟨H1.ext, by rw [if_pos (by omega)]⟩
  · refine W_skip ?_
    refine W_seq ?_
    refine W_reg ?_
    refine s_val (wn rfl) rfl rfl (py_field Try.underlying36 rfl Try.sizeOf33 rfl rfl) (s_val (wn rfl) rfl rfl (py_load Try.underlying33 rfl rfl (cell_atL (H1.box 0 rfl) rfl)) (s_val (wn rfl) rfl rfl (py_move rfl) ?_))
    refine s_call (wn rfl) rfl rfl (pc_call Try.func75 rfl Try_nm75 rfl) (Try_laws_szInt64S (H1.sees 0 rfl) (by omega)) (fun v1 w2 r1 => ?_)
    obtain ⟨e2, rfl⟩ := r1
    have H2 := H1.to e2
    refine s_val (wn rfl) rfl rfl (py_assign rfl) ?_
    refine s_nil ?_
    refine W_seq ?_
    refine W_seq ?_
    refine W_reg ?_
    refine s_val (wn rfl) rfl rfl (py_move rfl) (s_val (wn rfl) rfl rfl (py_lss rfl rfl) ?_)
    refine s_nil ?_
    refine W_ifd rfl (fun c2 => ?_) (fun c2 => ?_)
    · refine W_seq ?_
      refine W_reg ?_
      refine s_val (wn rfl) rfl rfl (py_assign rfl) ?_
      refine s_nil ?_
      refine W_ret (hQ _ _ (fin1 Try.results20 rfl ?_))
      exact ⟨H2.ext, by rw [if_pos (by omega)]⟩
    · refine W_skip ?_
      refine W_seq ?_
      refine W_reg ?_
      refine s_val (wn rfl) rfl rfl (py_field Try.underlying36 rfl Try.sizeOf34 rfl rfl) (s_val (wn rfl) rfl rfl (py_load Try.underlying34 rfl rfl (cell_atL (H2.box 0 rfl) rfl)) (s_val (wn rfl) rfl rfl (py_move rfl) ?_))
      refine s_call (wn rfl) rfl rfl (pc_call Try.func76 rfl Try_nm76 rfl) (Try_laws_szByteS (H2.sees 1 rfl) (by omega)) (fun v2 w3 r2 => ?_)
      obtain ⟨e3, rfl⟩ := r2
      have H3 := H2.to e3
      refine s_val (wn rfl) rfl rfl (py_assign rfl) ?_
      refine s_nil ?_
      refine W_seq ?_
      refine W_seq ?_
      refine W_reg ?_
      refine s_val (wn rfl) rfl rfl (py_move rfl) (s_val (wn rfl) rfl rfl (py_lss rfl rfl) ?_)
      refine s_nil ?_
      refine W_ifd rfl (fun c3 => ?_) (fun c3 => ?_)
      · refine W_seq ?_
        refine W_reg ?_
        refine s_val (wn rfl) rfl rfl (py_assign rfl) ?_
        refine s_nil ?_
        refine W_ret (hQ _ _ (fin1 Try.results20 rfl ?_))
        exact ⟨H3.ext, by rw [if_pos (by omega)]⟩
      · refine W_skip ?_
        refine W_seq ?_
        refine W_reg ?_
        refine s_val (wn rfl) rfl rfl (py_field Try.underlying36 rfl Try.sizeOf34 rfl rfl) (s_val (wn rfl) rfl rfl (py_load Try.underlying34 rfl rfl (cell_atL (H3.box 0 rfl) rfl)) (s_val (wn rfl) rfl rfl (py_move rfl) ?_))
        refine s_call (wn rfl) rfl rfl (pc_call Try.func76 rfl Try_nm76 rfl) (Try_laws_szByteS (H3.sees 2 rfl) (by omega)) (fun v3 w4 r3 => ?_)
        obtain ⟨e4, rfl⟩ := r3
        have H4 := H3.to e4
        refine s_val (wn rfl) rfl rfl (py_assign rfl) ?_
        refine s_nil ?_
        refine W_seq ?_
        refine W_seq ?_
        refine W_reg ?_
        refine s_val (wn rfl) rfl rfl (py_move rfl) (s_val (wn rfl) rfl rfl (py_lss rfl rfl) ?_)
        refine s_nil ?_
        refine W_ifd rfl (fun c4 => ?_) (fun c4 => ?_)
        · refine W_seq ?_
          refine W_reg ?_
          refine s_val (wn rfl) rfl rfl (py_assign rfl) ?_
          refine s_nil ?_
          refine W_ret (hQ _ _ (fin1 Try.results20 rfl ?_))
          exact ⟨H4.ext, by rw [if_pos (by omega)]⟩
        · refine W_skip ?_
          refine W_seq ?_
          refine W_reg ?_
          refine s_val (wn rfl) rfl rfl (py_move rfl) (s_val (wn rfl) rfl rfl (py_assign rfl) ?_)
          refine s_nil ?_
          refine W_ret (hQ _ _ (fin1 Try.results20 rfl ?_))
          exact ⟨H4.ext, congrArg (Value.int .i64) (by omega)⟩
theorem Try_laws_toRec {w : World} {r : Rec} {rA6 : Option Addr} {rC6 : Nat} {rA7 : Option Addr} {rC7 : Nat} {rA8 : Option Addr} {rC8 : Nat} (rK : r.Ok) (rS6 : Sees w [.slice rA6 r.Rows.length rC6] r.Rows) (rS7 : Sees w [.slice rA7 r.Data.length rC7] r.Data) (rS8 : Sees w [.slice rA8 r.Delta.length rC8] r.Delta) (hl : r.Rows.length ≤ 1048576 ∧ r.Data.length ≤ 1048576 ∧ r.Delta.length ≤ 1048576) : Ret Try.prog 22 #[r.val rA6 rC6 rA7 rC7 rA8 rC8] w fun v w' => Ext No w w' ∧ (∃ A6 C6 A7 C7 A8 C8, v = r.val A6 C6 A7 C7 A8 C8 ∧ Res w w' [.int .i64 r.Kind, .int .i64 r.Seq, .string r.Name, .int .i64 r.Length, .int .i64 r.Group, .int .i64 r.Row, .slice A6 r.Rows.length C6, .slice A7 r.Data.length C7, .slice A8 r.Delta.length C8] r) := by
  have rK2 := rK
  unfold Rec.Ok I64ok maxLen at rK2
  have rL6 := sees_len rS6
  unfold maxLen at rL6
  obtain ⟨rF6, rO6⟩ := rS6
  have rL7 := sees_len rS7
  unfold maxLen at rL7
  obtain ⟨rF7, rO7⟩ := rS7
  have rL8 := sees_len rS8
  unfold maxLen at rL8
  obtain ⟨rF8, rO8⟩ := rS8
  refine ret_Q (vs := [r.val rA6 rC6 rA7 rC7 rA8 rC8]) Try.func22 rfl Try.ntmps22 rfl (fun Q hQ hN => ?_)
  have H0 := Sep.start (w := w) (F := [seen false [.slice rA6 r.Rows.length rC6] r.Rows rF6, seen false [.slice rA7 r.Data.length rC7] r.Data rF7, seen false [.slice rA8 r.Delta.length rC8] r.Delta rF8]) (all_cons rO6 (all_cons rO7 (all_cons rO8 (by simp))))
  refine W_seq ?_
  refine W_reg ?_
  refine s_box (wn rfl) rfl rfl H0 (fun b1 w1 e1 g1 H1 => ?_)
  refine s_var (wn rfl) rfl Try.zeroValue39 H1 (fun b2 w2 e2 g2 H2 => ?_)
  refine s_nil ?_
  refine W_seq ?_
  refine W_reg ?_
  refine s_var (wn rfl) rfl Try.zeroValue39 H2 (fun b3 w3 e3 g3 H3 => ?_)
  refine s_nil ?_
  refine W_seq ?_
  refine W_reg ?_
  refine s_val (wn rfl) rfl rfl (py_field Try.underlying36 rfl Try.sizeOf2 rfl rfl) (s_val (wn rfl) rfl rfl (py_load Try.underlying2 rfl rfl (cell_atL (H3.box 0 rfl) rfl)) (s_val (wn rfl) rfl rfl (py_field Try.underlying39 rfl Try.sizeOf2 rfl rfl) ?_))
  refine s_sto (wn rfl) Try.sizeOf2 rfl rfl rfl H3 2 rfl rfl (fun w4 e4 H4 => ?_)
  dsimp only [List.nil_append, List.cons_append, List.set_cons_zero, List.set_cons_succ, layL] at H4
  refine s_nil ?_
  refine W_seq ?_
  refine W_reg ?_
  refine s_val (wn rfl) rfl rfl (py_field Try.underlying36 rfl Try.sizeOf2 rfl rfl) (s_val (wn rfl) rfl rfl (py_load Try.underlying2 rfl rfl (cell_atL (H4.box 0 rfl) rfl)) (s_val (wn rfl) rfl rfl (py_field Try.underlying39 rfl Try.sizeOf2 rfl rfl) ?_))
  refine s_sto (wn rfl) Try.sizeOf2 rfl rfl rfl H4 2 rfl rfl (fun w5 e5 H5 => ?_)
  dsimp only [List.nil_append, List.cons_append, List.set_cons_zero, List.set_cons_succ, layL] at H5
  refine s_nil ?_
  refine W_seq ?_
  refine W_reg ?_
  refine s_val (wn rfl) rfl rfl (py_field Try.underlying36 rfl Try.sizeOf9 rfl rfl) (s_val (wn rfl) rfl rfl (py_load Try.underlying9 rfl rfl (cell_atL (H5.box 0 rfl) rfl)) (s_val (wn rfl) rfl rfl (py_field Try.underlying39 rfl Try.sizeOf9 rfl rfl) ?_))
  refine s_sto (wn rfl) Try.sizeOf9 rfl rfl rfl H5 2 rfl rfl (fun w6 e6 H6 => ?_)
  dsimp only [List.nil_append, List.cons_append, List.set_cons_zero, List.set_cons_succ, layL] at H6
  refine s_nil ?_
  refine W_seq ?_
  refine W_reg ?_
  refine s_val (wn rfl) rfl rfl (py_field Try.underlying36 rfl Try.sizeOf2 rfl rfl) (s_val (wn rfl) rfl rfl (py_load Try.underlying2 rfl rfl (cell_atL (H6.box 0 rfl) rfl)) (s_val (wn rfl) rfl rfl (py_field Try.underlying39 rfl Try.sizeOf2 rfl rfl) ?_))
  refine s_sto (wn rfl) Try.sizeOf2 rfl rfl rfl H6 2 rfl rfl (fun w7 e7 H7 => ?_)
  dsimp only [List.nil_append, List.cons_append, List.set_cons_zero, List.set_cons_succ, layL] at H7
  refine s_nil ?_
  refine W_seq ?_
  refine W_reg ?_
  refine s_val (wn rfl) rfl rfl (py_field Try.underlying36 rfl Try.sizeOf2 rfl rfl) (s_val (wn rfl) rfl rfl (py_load Try.underlying2 rfl rfl (cell_atL (H7.box 0 rfl) rfl)) (s_val (wn rfl) rfl rfl (py_field Try.underlying39 rfl Try.sizeOf2 rfl rfl) ?_))
  refine s_sto (wn rfl) Try.sizeOf2 rfl rfl rfl H7 2 rfl rfl (fun w8 e8 H8 => ?_)
  dsimp only [List.nil_append, List.cons_append, List.set_cons_zero, List.set_cons_succ, layL] at H8
  refine s_nil ?_
  refine W_seq ?_
  refine W_reg ?_
  refine s_val (wn rfl) rfl rfl (py_field Try.underlying36 rfl Try.sizeOf2 rfl rfl) (s_val (wn rfl) rfl rfl (py_load Try.underlying2 rfl rfl (cell_atL (H8.box 0 rfl) rfl)) (s_val (wn rfl) rfl rfl (py_field Try.underlying39 rfl Try.sizeOf2 rfl rfl) ?_))
  refine s_sto (wn rfl) Try.sizeOf2 rfl rfl rfl H8 2 rfl rfl (fun w9 e9 H9 => ?_)
  dsimp only [List.nil_append, List.cons_append, List.set_cons_zero, List.set_cons_succ, layL] at H9
  refine s_nil ?_
  refine W_seq ?_
  refine W_reg ?_
  refine s_val (wn rfl) rfl rfl (py_field Try.underlying36 rfl Try.sizeOf33 rfl rfl) (s_val (wn rfl) rfl rfl (py_load Try.underlying33 rfl rfl (cell_atL (H9.box 0 rfl) rfl)) ?_)
  refine s_call (wn rfl) rfl rfl (pc_call Try.func52 rfl Try_nm52 rfl) (Try_laws_toInt64S (H9.sees 0 rfl) (by omega)) (fun v1 w10 r1 => ?_)
  obtain ⟨e10, r1⟩ := r1
  obtain ⟨fp1, H10⟩ := H9.res e10 r1
  obtain ⟨a1, k1, q1⟩ := own_slice (H10.mine 3 rfl)
  cases q1
  refine s_val (wn rfl) rfl rfl (py_field Try.underlying39 rfl Try.sizeOf33 rfl rfl) ?_
  refine s_sto (wn rfl) Try.sizeOf33 rfl rfl rfl H10 2 rfl rfl (fun w11 e11 H11 => ?_)
  dsimp only [List.nil_append, List.cons_append, List.set_cons_zero, List.set_cons_succ, layL] at H11
  refine s_nil ?_
  refine W_seq ?_
  refine W_reg ?_
  refine s_val (wn rfl) rfl rfl (py_field Try.underlying36 rfl Try.sizeOf34 rfl rfl) (s_val (wn rfl) rfl rfl (py_load Try.underlying34 rfl rfl (cell_atL (H11.box 0 rfl) rfl)) ?_)
  refine s_call (wn rfl) rfl rfl (pc_call Try.func26 rfl Try_nm26 rfl) (Try_laws_toByteS (H11.sees 1 rfl) (by omega)) (fun v2 w12 r2 => ?_)
  obtain ⟨e12, r2⟩ := r2
  obtain ⟨fp2, H12⟩ := H11.res e12 r2
  obtain ⟨a2, k2, q2⟩ := own_slice (H12.mine 4 rfl)
  cases q2
  refine s_val (wn rfl) rfl rfl (py_field Try.underlying39 rfl Try.sizeOf34 rfl rfl) ?_
  refine s_sto (wn rfl) Try.sizeOf34 rfl rfl rfl H12 2 rfl rfl (fun w13 e13 H13 => ?_)
  dsimp only [List.nil_append, List.cons_append, List.set_cons_zero, List.set_cons_succ, layL] at H13
  refine s_nil ?_
  refine W_seq ?_
  refine W_reg ?_
  refine s_val (wn rfl) rfl rfl (py_field Try.underlying36 rfl Try.sizeOf34 rfl rfl) (s_val (wn rfl) rfl rfl (py_load Try.underlying34 rfl rfl (cell_atL (H13.box 0 rfl) rfl)) ?_)
  refine s_call (wn rfl) rfl rfl (pc_call Try.func26 rfl Try_nm26 rfl) (Try_laws_toByteS (H13.sees 2 rfl) (by omega)) (fun v3 w14 r3 => ?_)
  obtain ⟨e14, r3⟩ := r3
  obtain ⟨fp3, H14⟩ := H13.res e14 r3
  obtain ⟨a3, k3, q3⟩ := own_slice (H14.mine 5 rfl)
  cases q3
  refine s_val (wn rfl) rfl rfl (py_field Try.underlying39 rfl Try.sizeOf34 rfl rfl) ?_
  refine s_sto (wn rfl) Try.sizeOf34 rfl rfl rfl H14 2 rfl rfl (fun w15 e15 H15 => ?_)
  dsimp only [List.nil_append, List.cons_append, List.set_cons_zero, List.set_cons_succ, layL] at H15
  refine s_nil ?_
  refine W_seq ?_
  refine W_reg ?_
  refine s_val (wn rfl) rfl rfl (py_loadS Try.underlying39 rfl Try.sizeOf39 rfl rfl (At.whole (H15.box 2 rfl))) ?_
  refine s_stoS (wn rfl) Try.sizeOf39 rfl rfl rfl rfl H15 1 rfl rfl (fun w16 e16 H16 => ?_)
  dsimp only [List.nil_append, List.cons_append, List.set_cons_zero, List.set_cons_succ, layL] at H16
  refine s_nil ?_
  refine W_ret (hQ _ _ (finC Try.results22 rfl (run_loadVarS Try.underlying39 rfl Try.sizeOf39 rfl (At.whole (H16.box 1 rfl))) ?_))
  exact ⟨H16.ext, _, _, _, _, _, _, rfl, Rec.out (H16.sub (.cons _ (.cons _ (.cons _ (.cons_cons _ (.cons_cons _ (.cons_cons _ List.Sublist.slnil))))))) (by assumption)⟩
theorem Try_laws_eqRec {w : World} {a : Rec} {aA6 : Option Addr} {aC6 : Nat} {aA7 : Option Addr} {aC7 : Nat} {aA8 : Option Addr} {aC8 : Nat} {b : Rec} {bA6 : Option Addr} {bC6 : Nat} {bA7 : Option Addr} {bC7 : Nat} {bA8 : Option Addr} {bC8 : Nat} (aK : a.Ok) (aS6 : Sees w [.slice aA6 a.Rows.length aC6] a.Rows) (aS7 : Sees w [.slice aA7 a.Data.length aC7] a.Data) (aS8 : Sees w [.slice aA8 a.Delta.length aC8] a.Delta) (bK : b.Ok) (bS6 : Sees w [.slice bA6 b.Rows.length bC6] b.Rows) (bS7 : Sees w [.slice bA7 b.Data.length bC7] b.Data) (bS8 : Sees w [.slice bA8 b.Delta.length bC8] b.Delta) : Ret Try.prog 24 #[a.val aA6 aC6 aA7 aC7 aA8 aC8, b.val bA6 bC6 bA7 bC7 bA8 bC8] w fun v w' => Ext No w w' ∧ (v = .bool (decide (a = b))) := by
  have aK2 := aK
  unfold Rec.Ok I64ok maxLen at aK2
  have aL6 := sees_len aS6
  unfold maxLen at aL6
  obtain ⟨aF6, aO6⟩ := aS6
  have aL7 := sees_len aS7
  unfold maxLen at aL7
  obtain ⟨aF7, aO7⟩ := aS7
  have aL8 := sees_len aS8
  unfold maxLen at aL8
  obtain ⟨aF8, aO8⟩ := aS8
  have bK2 := bK
  unfold Rec.Ok I64ok maxLen at bK2
  have bL6 := sees_len bS6
  unfold maxLen at bL6
  obtain ⟨bF6, bO6⟩ := bS6
  have bL7 := sees_len bS7
  unfold maxLen at bL7
  obtain ⟨bF7, bO7⟩ := bS7
  have bL8 := sees_len bS8
  unfold maxLen at bL8
  obtain ⟨bF8, bO8⟩ := bS8
  refine ret_Q (vs := [a.val aA6 aC6 aA7 aC7 aA8 aC8, b.val bA6 bC6 bA7 bC7 bA8 bC8]) Try.func24 rfl Try.ntmps24 rfl (fun Q hQ hN => ?_)
  have H0 := Sep.start (w := w) (F := [seen false [.slice aA6 a.Rows.length aC6] a.Rows aF6, seen false [.slice aA7 a.Data.length aC7] a.Data aF7, seen false [.slice aA8 a.Delta.length aC8] a.Delta aF8, seen false [.slice bA6 b.Rows.length bC6] b.Rows bF6, seen false [.slice bA7 b.Data.length bC7] b.Data bF7, seen false [.slice bA8 b.Delta.length bC8] b.Delta bF8]) (all_cons aO6 (all_cons aO7 (all_cons aO8 (all_cons bO6 (all_cons bO7 (all_cons bO8 (by simp)))))))
  refine W_seq ?_
  refine W_reg ?_
  refine s_box (wn rfl) rfl rfl H0 (fun b1 w1 e1 g1 H1 => ?_)
  refine s_box (wn rfl) rfl rfl H1 (fun b2 w2 e2 g2 H2 => ?_)
  refine s_val (wn rfl) rfl rfl (py_assign rfl) ?_
  refine s_nil ?_
  refine W_seq ?_
  refine W_seq ?_
  refine W_reg ?_
  refine s_val (wn rfl) rfl rfl (py_field Try.underlying39 rfl Try.sizeOf2 rfl rfl) (s_val (wn rfl) rfl rfl (py_load Try.underlying2 rfl rfl (cell_atL (H2.box 0 rfl) rfl)) (s_val (wn rfl) rfl rfl (py_field Try.underlying39 rfl Try.sizeOf2 rfl rfl) (s_val (wn rfl) rfl rfl (py_load Try.underlying2 rfl rfl (cell_atL (H2.box 1 rfl) rfl)) (s_val (wn rfl) rfl rfl (py_neq rfl rfl) ?_))))
  refine s_nil ?_
  refine W_ifd rfl (fun c1 => ?_) (fun c1 => ?_)
  · refine W_seq ?_
    refine W_reg ?_
    refine s_val (wn rfl) rfl rfl (py_assign rfl) ?_
    refine s_nil ?_
    refine W_ret (hQ _ _ (fin1 Try.results24 rfl ?_))
    refine ⟨H2.ext, ?_⟩
    rw [decide_eq_false (fun e => by subst e; first | exact c1 rfl | simp at c1)]
  · refine W_skip ?_
    refine W_seq ?_
    refine W_seq ?_
    refine W_reg ?_
    refine s_val (wn rfl) rfl rfl (py_field Try.underlying39 rfl Try.sizeOf2 rfl rfl) (s_val (wn rfl) rfl rfl (py_load Try.underlying2 rfl rfl (cell_atL (H2.box 0 rfl) rfl)) (s_val (wn rfl) rfl rfl (py_field Try.underlying39 rfl Try.sizeOf2 rfl rfl) (s_val (wn rfl) rfl rfl (py_load Try.underlying2 rfl rfl (cell_atL (H2.box 1 rfl) rfl)) (s_val (wn rfl) rfl rfl (py_neq rfl rfl) ?_))))
    refine s_nil ?_
    refine W_ifd rfl (fun c2 => ?_) (fun c2 => ?_)
    · refine W_seq ?_
      refine W_reg ?_
      refine s_val (wn rfl) rfl rfl (py_assign rfl) ?_
      refine s_nil ?_
      refine W_ret (hQ _ _ (fin1 Try.results24 rfl ?_))
      refine ⟨H2.ext, ?_⟩
      rw [decide_eq_false (fun e => by subst e; first | exact c2 rfl | simp at c2)]
    · refine W_skip ?_
      refine W_seq ?_
      refine W_seq ?_
      refine W_reg ?_
      refine s_val (wn rfl) rfl rfl (py_field Try.underlying39 rfl Try.sizeOf9 rfl rfl) (s_val (wn rfl) rfl rfl (py_load Try.underlying9 rfl rfl (cell_atL (H2.box 0 rfl) rfl)) (s_val (wn rfl) rfl rfl (py_field Try.underlying39 rfl Try.sizeOf9 rfl rfl) (s_val (wn rfl) rfl rfl (py_load Try.underlying9 rfl rfl (cell_atL (H2.box 1 rfl) rfl)) (s_val (wn rfl) rfl rfl (py_sneq rfl rfl) ?_))))
      refine s_nil ?_
      refine W_if rfl (fun c3 => ?_) (fun c3 => ?_)
      · refine W_seq ?_
        refine W_reg ?_
        refine s_val (wn rfl) rfl rfl (py_assign rfl) ?_
        refine s_nil ?_
        refine W_ret (hQ _ _ (fin1 Try.results24 rfl ?_))
        refine ⟨H2.ext, ?_⟩
        rw [decide_eq_false (fun e => by subst e; first | exact c3 rfl | simp at c3)]
      · refine W_skip ?_
        refine W_seq ?_
        refine W_seq ?_
        refine W_reg ?_
        refine s_val (wn rfl) rfl rfl (py_field Try.underlying39 rfl Try.sizeOf2 rfl rfl) (s_val (wn rfl) rfl rfl (py_load Try.underlying2 rfl rfl (cell_atL (H2.box 0 rfl) rfl)) (s_val (wn rfl) rfl rfl (py_field Try.underlying39 rfl Try.sizeOf2 rfl rfl) (s_val (wn rfl) rfl rfl (py_load Try.underlying2 rfl rfl (cell_atL (H2.box 1 rfl) rfl)) (s_val (wn rfl) rfl rfl (py_neq rfl rfl) ?_))))
        refine s_nil ?_
        refine W_ifd rfl (fun c4 => ?_) (fun c4 => ?_)
        · refine W_seq ?_
          refine W_reg ?_
          refine s_val (wn rfl) rfl rfl (py_assign rfl) ?_
          refine s_nil ?_
          refine W_ret (hQ _ _ (fin1 Try.results24 rfl ?_))
          refine ⟨H2.ext, ?_⟩
          rw [decide_eq_false (fun e => by subst e; first | exact c4 rfl | simp at c4)]
        · refine W_skip ?_
          refine W_seq ?_
          refine W_seq ?_
          refine W_reg ?_
          refine s_val (wn rfl) rfl rfl (py_field Try.underlying39 rfl Try.sizeOf2 rfl rfl) (s_val (wn rfl) rfl rfl (py_load Try.underlying2 rfl rfl (cell_atL (H2.box 0 rfl) rfl)) (s_val (wn rfl) rfl rfl (py_field Try.underlying39 rfl Try.sizeOf2 rfl rfl) (s_val (wn rfl) rfl rfl (py_load Try.underlying2 rfl rfl (cell_atL (H2.box 1 rfl) rfl)) (s_val (wn rfl) rfl rfl (py_neq rfl rfl) ?_))))
          refine s_nil ?_
          refine W_ifd rfl (fun c5 => ?_) (fun c5 => ?_)
          · refine W_seq ?_
            refine W_reg ?_
            refine s_val (wn rfl) rfl rfl (py_assign rfl) ?_
            refine s_nil ?_
            refine W_ret (hQ _ _ (fin1 Try.results24 rfl ?_))
            refine ⟨H2.ext, ?_⟩
            rw [decide_eq_false (fun e => by subst e; first | exact c5 rfl | simp at c5)]
          · refine W_skip ?_
            refine W_seq ?_
            refine W_seq ?_
            refine W_reg ?_
            refine s_val (wn rfl) rfl rfl (py_field Try.underlying39 rfl Try.sizeOf2 rfl rfl) (s_val (wn rfl) rfl rfl (py_load Try.underlying2 rfl rfl (cell_atL (H2.box 0 rfl) rfl)) (s_val (wn rfl) rfl rfl (py_field Try.underlying39 rfl Try.sizeOf2 rfl rfl) (s_val (wn rfl) rfl rfl (py_load Try.underlying2 rfl rfl (cell_atL (H2.box 1 rfl) rfl)) (s_val (wn rfl) rfl rfl (py_neq rfl rfl) ?_))))
            refine s_nil ?_
            refine W_ifd rfl (fun c6 => ?_) (fun c6 => ?_)
            · refine W_seq ?_
              refine W_reg ?_
              refine s_val (wn rfl) rfl rfl (py_assign rfl) ?_
              refine s_nil ?_
              refine W_ret (hQ _ _ (fin1 Try.results24 rfl ?_))
              refine ⟨H2.ext, ?_⟩
              rw [decide_eq_false (fun e => by subst e; first | exact c6 rfl | simp at c6)]
            · refine W_skip ?_
              refine W_seq ?_
              refine W_seq ?_
              refine W_reg ?_
              refine s_val (wn rfl) rfl rfl (py_field Try.underlying39 rfl Try.sizeOf33 rfl rfl) (s_val (wn rfl) rfl rfl (py_load Try.underlying33 rfl rfl (cell_atL (H2.box 0 rfl) rfl)) (s_val (wn rfl) rfl rfl (py_field Try.underlying39 rfl Try.sizeOf33 rfl rfl) (s_val (wn rfl) rfl rfl (py_load Try.underlying33 rfl rfl (cell_atL (H2.box 1 rfl) rfl)) ?_)))
              refine s_call (wn rfl) rfl rfl (pc_call Try.func55 rfl Try_nm55 rfl) (Try_laws_eqInt64S (H2.sees 0 rfl) (H2.sees 3 rfl)) (fun v1 w3 r1 => ?_)
              obtain ⟨e3, rfl⟩ := r1
              have H3 := H2.to e3
              refine s_val (wn rfl) rfl rfl (py_not rfl) ?_
              refine s_nil ?_
              refine W_if rfl (fun c7 => ?_) (fun c7 => ?_)
              · refine W_seq ?_
                refine W_reg ?_
                refine s_val (wn rfl) rfl rfl (py_assign rfl) ?_
                refine s_nil ?_
                refine W_ret (hQ _ _ (fin1 Try.results24 rfl ?_))
                refine ⟨H3.ext, ?_⟩
                rw [decide_eq_false (fun e => by subst e; first | exact c7 rfl | simp at c7)]
              · refine W_skip ?_
                refine W_seq ?_
                refine W_seq ?_
                refine W_reg ?_
                refine s_val (wn rfl) rfl rfl (py_field Try.underlying39 rfl Try.sizeOf34 rfl rfl) (s_val (wn rfl) rfl rfl (py_load Try.underlying34 rfl rfl (cell_atL (H3.box 0 rfl) rfl)) (s_val (wn rfl) rfl rfl (py_field Try.underlying39 rfl Try.sizeOf34 rfl rfl) (s_val (wn rfl) rfl rfl (py_load Try.underlying34 rfl rfl (cell_atL (H3.box 1 rfl) rfl)) ?_)))
                refine s_call (wn rfl) rfl rfl (pc_call Try.func29 rfl Try_nm29 rfl) (Try_laws_eqByteS (H3.sees 1 rfl) (H3.sees 4 rfl)) (fun v2 w4 r2 => ?_)
                obtain ⟨e4, rfl⟩ := r2
                have H4 := H3.to e4
                refine s_val (wn rfl) rfl rfl (py_not rfl) ?_
                refine s_nil ?_
                refine W_if rfl (fun c8 => ?_) (fun c8 => ?_)
                · refine W_seq ?_
                  refine W_reg ?_
                  refine s_val (wn rfl) rfl rfl (py_assign rfl) ?_
                  refine s_nil ?_
                  refine W_ret (hQ _ _ (fin1 Try.results24 rfl ?_))
                  refine ⟨H4.ext, ?_⟩
                  rw [decide_eq_false (fun e => by subst e; first | exact c8 rfl | simp at c8)]
                · refine W_skip ?_
                  refine W_seq ?_
                  refine W_seq ?_
                  refine W_reg ?_
                  refine s_val (wn rfl) rfl rfl (py_field Try.underlying39 rfl Try.sizeOf34 rfl rfl) (s_val (wn rfl) rfl rfl (py_load Try.underlying34 rfl rfl (cell_atL (H4.box 0 rfl) rfl)) (s_val (wn rfl) rfl rfl (py_field Try.underlying39 rfl Try.sizeOf34 rfl rfl) (s_val (wn rfl) rfl rfl (py_load Try.underlying34 rfl rfl (cell_atL (H4.box 1 rfl) rfl)) ?_)))
                  refine s_call (wn rfl) rfl rfl (pc_call Try.func29 rfl Try_nm29 rfl) (Try_laws_eqByteS (H4.sees 2 rfl) (H4.sees 5 rfl)) (fun v3 w5 r3 => ?_)
                  obtain ⟨e5, rfl⟩ := r3
                  have H5 := H4.to e5
                  refine s_val (wn rfl) rfl rfl (py_not rfl) ?_
                  refine s_nil ?_
                  refine W_if rfl (fun c9 => ?_) (fun c9 => ?_)
                  · refine W_seq ?_
                    refine W_reg ?_
                    refine s_val (wn rfl) rfl rfl (py_assign rfl) ?_
                    refine s_nil ?_
                    refine W_ret (hQ _ _ (fin1 Try.results24 rfl ?_))
                    refine ⟨H5.ext, ?_⟩
                    rw [decide_eq_false (fun e => by subst e; first | exact c9 rfl | simp at c9)]
                  · refine W_skip ?_
                    refine W_seq ?_
                    refine W_reg ?_
                    refine s_val (wn rfl) rfl rfl (py_assign rfl) ?_
                    refine s_nil ?_
                    refine W_ret (hQ _ _ (fin1 Try.results24 rfl ?_))
                    refine ⟨H5.ext, ?_⟩
                    rw [decide_eq_true]
                    cases a; cases b; simp_all [str_beq]
theorem Try_spec_ShareWhole {w : World} {r : Rec} {rA6 : Option Addr} {rC6 : Nat} {rA7 : Option Addr} {rC7 : Nat} {rA8 : Option Addr} {rC8 : Nat} (rK : r.Ok) (rS6 : Sees w [.slice rA6 r.Rows.length rC6] r.Rows) (rS7 : Sees w [.slice rA7 r.Data.length rC7] r.Data) (rS8 : Sees w [.slice rA8 r.Delta.length rC8] r.Delta) : Ret Try.prog 21 #[r.val rA6 rC6 rA7 rC7 rA8 rC8] w fun v w' => Ext No w w' ∧ (v = .bool (shareWhole r)) := by
  have rK2 := rK
  unfold Rec.Ok I64ok maxLen at rK2
  have rL6 := sees_len rS6
  unfold maxLen at rL6
  obtain ⟨rF6, rO6⟩ := rS6
  have rL7 := sees_len rS7
  unfold maxLen at rL7
  obtain ⟨rF7, rO7⟩ := rS7
  have rL8 := sees_len rS8
  unfold maxLen at rL8
  obtain ⟨rF8, rO8⟩ := rS8
  refine ret_Q (vs := [r.val rA6 rC6 rA7 rC7 rA8 rC8]) Try.func21 rfl Try.ntmps21 rfl (fun Q hQ hN => ?_)
  have H0 := Sep.start (w := w) (F := [seen false [.slice rA6 r.Rows.length rC6] r.Rows rF6, seen false [.slice rA7 r.Data.length rC7] r.Data rF7, seen false [.slice rA8 r.Delta.length rC8] r.Delta rF8]) (all_cons rO6 (all_cons rO7 (all_cons rO8 (by simp))))
  refine W_seq ?_
  refine W_reg ?_
  refine s_box (wn rfl) rfl rfl H0 (fun b1 w1 e1 g1 H1 => ?_)
  refine s_val (wn rfl) rfl rfl (py_assign rfl) ?_
  refine s_nil ?_
  refine W_seq ?_
  refine W_seq ?_
  refine W_reg ?_
  refine s_val (wn rfl) rfl rfl (py_field Try.underlying39 rfl Try.sizeOf2 rfl rfl) (s_val (wn rfl) rfl rfl (py_load Try.underlying2 rfl rfl (cell_atL (H1.box 0 rfl) rfl)) (s_val (wn rfl) rfl rfl (py_neq rfl rfl) ?_))
  refine s_nil ?_
  refine W_ifd rfl (fun c1 => ?_) (fun c1 => ?_)
  · refine W_seq ?_
    refine W_reg ?_
    refine s_val (wn rfl) rfl rfl (py_assign rfl) ?_
    refine s_nil ?_
    refine W_ret (hQ _ _ (fin1 Try.results21 rfl ?_))
    exact ⟨H1.ext, by rw [share_kind c1]⟩
  · refine W_skip ?_
    refine W_seq ?_
    refine W_seq ?_
    refine W_reg ?_
    refine s_val (wn rfl) rfl rfl (py_assign rfl) ?_
    refine s_nil ?_
    refine W_block ?_
    refine W_loop (γ := Nat) (fun k => [(1, .pointer (some ⟨b1, 0, none⟩)), (3, .int .i64 k)]) (fun k w' => Sep No w [box b1 (.cells (r.val rA6 rC6 rA7 rC7 rA8 rC8).cells 39)] [seen false [.slice rA6 r.Rows.length rC6] r.Rows rF6, seen false [.slice rA7 r.Data.length rC7] r.Data rF7, seen false [.slice rA8 r.Delta.length rC8] r.Delta rF8] w' ∧ k ≤ r.Delta.length ∧ (∀ i, i < k → shareAt r i = true)) (fun k => r.Delta.length - k) 0 ⟨rfl, rfl, trivial⟩ ⟨H1, by omega, fun i hi => by omega⟩ (fun k w2 H2 => ?_)
    obtain ⟨H2, hk, he⟩ := H2
    refine W_seq ?_
    refine W_seq ?_
    refine W_reg ?_
    refine s_val (wn rfl) rfl rfl (py_move rfl) (s_val (wn rfl) rfl rfl (py_field Try.underlying39 rfl Try.sizeOf34 rfl rfl) (s_val (wn rfl) rfl rfl (py_load Try.underlying34 rfl rfl (cell_atL (H2.box 0 rfl) rfl)) (s_val (wn rfl) rfl rfl (py_len Try.underlying34 rfl) (s_val (wn rfl) rfl rfl (py_lss rfl rfl) ?_))))
    refine s_nil ?_
    refine W_ifd rfl (fun c2 => ?_) (fun c2 => ?_)
    · refine W_skip ?_
      refine W_seq ?_
      refine W_block ?_
      refine W_seq ?_
      obtain ⟨eb1, eo1, ee1, ec1⟩ := elem_u8 (H2.seen 2 rfl) k (by omega)
      refine W_reg ?_
      refine s_val (wn rfl) rfl rfl (py_field Try.underlying39 rfl Try.sizeOf34 rfl rfl) (s_val (wn rfl) rfl rfl (py_load Try.underlying34 rfl rfl (cell_atL (H2.box 0 rfl) rfl)) (s_val (wn rfl) rfl rfl (py_move rfl) (s_val (wn rfl) rfl rfl (py_elz Try.underlying34 Try.sizeOf5 rfl rfl ee1 k (by omega) (by omega)) (s_val (wn rfl) rfl rfl (py_load Try.underlying5 rfl rfl ec1) (s_val (wn rfl) rfl rfl (py_neq rfl rfl) (s_val (wn rfl) rfl rfl (py_move rfl) ?_))))))
      refine s_grp 5 (j := 6) (want := true) (t := 25) rfl rfl rfl rfl (fun hg1 kk1 => s_val (wgE rfl rfl rfl hg1) rfl rfl (py_field Try.underlying39 rfl Try.sizeOf33 rfl rfl) (s_val (wgE rfl rfl rfl hg1) rfl rfl (py_load Try.underlying33 rfl rfl (cell_atL (H2.box 0 rfl) rfl)) (s_val (wgE rfl rfl rfl hg1) rfl rfl (py_move rfl) (s_callv (wgE rfl rfl rfl hg1) rfl rfl (pc_call Try.func77 rfl Try_nm77 rfl) (Try_spec_l1Has (H2.sees 0 rfl)) (fun w4 e3 => s_val (wgE rfl rfl rfl hg1) rfl rfl (py_not rfl) (kk1 _ _ (kx rfl (kx rfl (kx rfl (kx rfl (kx rfl k0))))) rfl (Ext.refl.trans e3))))))) (fun w3 e2 => ?_)
      have H3 := H2.to e2
      refine s_val (wn rfl) rfl rfl (py_band rfl rfl) ?_
      refine s_nil ?_
      refine W_if rfl (fun c3 => ?_) (fun c3 => ?_)
      · refine W_seq ?_
        refine W_reg ?_
        refine s_val (wn rfl) rfl rfl (py_assign rfl) ?_
        refine s_nil ?_
        refine W_ret (hQ _ _ (fin1 Try.results21 rfl ?_))
        exact ⟨H3.ext, by rw [share_bad (k := k) (by omega) (by rw [share_at, c3]; rfl)]⟩
      · refine W_skip ?_
        refine W_reg ?_
        refine s_val (wn rfl) rfl rfl (py_move rfl) (s_val (wn rfl) rfl rfl (py_add rfl rfl (in64 ⟨by omega, by omega⟩)) (s_val (wn rfl) rfl rfl (py_assign rfl) ?_))
        refine s_nil ?_
        refine ⟨k + 1, ⟨rfl, rfl, trivial⟩, ⟨H3, by omega, fun i hi => ?_⟩, by dsimp only; omega⟩
        by_cases e : i = k
        · subst e; rw [share_at, c3]; rfl
        · exact he i (by omega)
    · refine W_exit ?_
      refine W_seq ?_
      refine W_reg ?_
      refine s_val (wn rfl) rfl rfl (py_assign rfl) ?_
      refine s_nil ?_
      refine W_ret (hQ _ _ (fin1 Try.results21 rfl ?_))
      exact ⟨H2.ext, by rw [share_all (fun i hi => he i (by omega)), decide_eq_true (by omega)]⟩
theorem Try_impl_ShareWhole {w : World} {r : Rec} {rA6 : Option Addr} {rC6 : Nat} {rA7 : Option Addr} {rC7 : Nat} {rA8 : Option Addr} {rC8 : Nat} (rK : r.Ok) (rS6 : Sees w [.slice rA6 r.Rows.length rC6] r.Rows) (rS7 : Sees w [.slice rA7 r.Data.length rC7] r.Data) (rS8 : Sees w [.slice rA8 r.Delta.length rC8] r.Delta) : Ret Try.prog 23 #[r.val rA6 rC6 rA7 rC7 rA8 rC8] w fun v w' => Ext No w w' ∧ (v = .bool (shareWhole r)) := by
  have rK2 := rK
  unfold Rec.Ok I64ok maxLen at rK2
  have rL6 := sees_len rS6
  unfold maxLen at rL6
  obtain ⟨rF6, rO6⟩ := rS6
  have rL7 := sees_len rS7
  unfold maxLen at rL7
  obtain ⟨rF7, rO7⟩ := rS7
  have rL8 := sees_len rS8
  unfold maxLen at rL8
  obtain ⟨rF8, rO8⟩ := rS8
  refine ret_Q (vs := [r.val rA6 rC6 rA7 rC7 rA8 rC8]) Try.func23 rfl Try.ntmps23 rfl (fun Q hQ hN => ?_)
  have H0 := Sep.start (w := w) (F := [seen false [.slice rA6 r.Rows.length rC6] r.Rows rF6, seen false [.slice rA7 r.Data.length rC7] r.Data rF7, seen false [.slice rA8 r.Delta.length rC8] r.Delta rF8]) (all_cons rO6 (all_cons rO7 (all_cons rO8 (by simp))))
  refine W_seq ?_
  refine W_reg ?_
  refine s_box (wn rfl) rfl rfl H0 (fun b1 w1 e1 g1 H1 => ?_)
  refine s_val (wn rfl) rfl rfl (py_assign rfl) ?_
  refine s_nil ?_
  refine W_seq ?_
  refine W_seq ?_
  refine W_reg ?_
  refine s_val (wn rfl) rfl rfl (py_field Try.underlying39 rfl Try.sizeOf34 rfl rfl) (s_val (wn rfl) rfl rfl (py_load Try.underlying34 rfl rfl (cell_atL (H1.box 0 rfl) rfl)) (s_val (wn rfl) rfl rfl (py_len Try.underlying34 rfl) (s_val (wn rfl) rfl rfl (py_move rfl) ?_)))
  refine s_nil ?_
  refine W_block ?_
  refine W_loop (γ := Nat) (fun k => [(1, .pointer (some ⟨b1, 0, none⟩)), (6, .slice rA8 r.Delta.length rC8), (7, .int .i64 r.Delta.length), (8, .int .i64 k)]) (fun k w' => Sep No w [box b1 (.cells (r.val rA6 rC6 rA7 rC7 rA8 rC8).cells 39)] [seen false [.slice rA6 r.Rows.length rC6] r.Rows rF6, seen false [.slice rA7 r.Data.length rC7] r.Data rF7, seen false [.slice rA8 r.Delta.length rC8] r.Delta rF8] w' ∧ k ≤ r.Delta.length ∧ (∀ i, i < k → shareAt r i = true)) (fun k => r.Delta.length - k) 0 ⟨rfl, rfl, rfl, rfl, trivial⟩ ⟨H1, by omega, fun i hi => by omega⟩ (fun k w2 H2 => ?_)
  obtain ⟨H2, hk, he⟩ := H2
  refine W_seq ?_
  refine W_reg ?_
  refine s_val (wn rfl) rfl rfl (py_lss rfl rfl) ?_
  refine s_nil ?_
  refine W_seq ?_
  refine W_ifd rfl (fun c1 => ?_) (fun c1 => ?_)
  · refine W_skip ?_
    refine W_seq ?_
    refine W_block ?_
    refine W_seq ?_
    obtain ⟨eb1, eo1, ee1, ec1⟩ := elem_u8 (H2.seen 2 rfl) k (by omega)
    refine W_reg ?_
    refine s_val (wn rfl) rfl rfl (py_move rfl) (s_val (wn rfl) rfl rfl (py_elz Try.underlying34 Try.sizeOf5 rfl rfl ee1 k (by omega) (by omega)) (s_val (wn rfl) rfl rfl (py_load Try.underlying5 rfl rfl ec1) (s_val (wn rfl) rfl rfl (py_assign rfl) (s_val (wn rfl) rfl rfl (py_assign rfl) ?_))))
    refine s_nil ?_
    refine W_seq ?_
    refine W_reg ?_
    refine s_val (wn rfl) rfl rfl (py_move rfl) (s_val (wn rfl) rfl rfl (py_neq rfl rfl) (s_val (wn rfl) rfl rfl (py_move rfl) ?_))
    refine s_grp 5 (j := 2) (want := true) (t := 20) rfl rfl rfl rfl (fun hg1 kk1 => s_val (wgE rfl rfl rfl hg1) rfl rfl (py_field Try.underlying39 rfl Try.sizeOf33 rfl rfl) (s_val (wgE rfl rfl rfl hg1) rfl rfl (py_load Try.underlying33 rfl rfl (cell_atL (H2.box 0 rfl) rfl)) (s_val (wgE rfl rfl rfl hg1) rfl rfl (py_move rfl) (s_callv (wgE rfl rfl rfl hg1) rfl rfl (pc_call Try.func78 rfl Try_nm78 rfl) (Try_slices_Contains_int64_int64 (H2.sees 0 rfl)) (fun w4 e3 => s_val (wgE rfl rfl rfl hg1) rfl rfl (py_not rfl) (kk1 _ _ (kx rfl (kx rfl (kx rfl (kx rfl (kx rfl k0))))) rfl (Ext.refl.trans e3))))))) (fun w3 e2 => ?_)
    have H3 := H2.to e2
    refine s_val (wn rfl) rfl rfl (py_band rfl rfl) ?_
    refine s_nil ?_
    refine W_if rfl (fun c2 => ?_) (fun c2 => ?_)
    · refine W_seq ?_
      refine W_reg ?_
      refine s_val (wn rfl) rfl rfl (py_assign rfl) ?_
      refine s_nil ?_
      refine W_ret (hQ _ _ (fin1 Try.results23 rfl ?_))
      exact ⟨H3.ext, by rw [share_bad (k := k) (by omega) (by rw [share_at, c2]; rfl)]⟩
    · refine W_skip ?_
      refine W_reg ?_
      refine s_val (wn rfl) rfl rfl (py_add rfl rfl (in64 ⟨by omega, by omega⟩)) (s_val (wn rfl) rfl rfl (py_move rfl) ?_)
      refine s_nil ?_
      refine ⟨k + 1, ⟨rfl, rfl, rfl, rfl, trivial⟩, ⟨H3, by omega, fun i hi => ?_⟩, by dsimp only; omega⟩
      by_cases e : i = k
      · subst e; rw [share_at, c2]; rfl
      · exact he i (by omega)
  · refine W_exit ?_
    refine W_seq ?_
    refine W_reg ?_
    refine s_val (wn rfl) rfl rfl (py_field Try.underlying39 rfl Try.sizeOf2 rfl rfl) (s_val (wn rfl) rfl rfl (py_load Try.underlying2 rfl rfl (cell_atL (H2.box 0 rfl) rfl)) (s_val (wn rfl) rfl rfl (py_eql rfl rfl) (s_val (wn rfl) rfl rfl (py_assign rfl) ?_)))
    refine s_nil ?_
    refine W_ret (hQ _ _ (fin1 Try.results23 rfl ?_))
    exact ⟨H2.ext, by rw [share_all (fun i hi => he i (by omega))]⟩
theorem Try_laws_FnExactShareWhole {w : World} {r : Rec} {rA6 : Option Addr} {rC6 : Nat} {rA7 : Option Addr} {rC7 : Nat} {rA8 : Option Addr} {rC8 : Nat} (rK : r.Ok) (rS6 : Sees w [.slice rA6 r.Rows.length rC6] r.Rows) (rS7 : Sees w [.slice rA7 r.Data.length rC7] r.Data) (rS8 : Sees w [.slice rA8 r.Delta.length rC8] r.Delta) : Ret Try.prog 4 #[r.val rA6 rC6 rA7 rC7 rA8 rC8] w fun v w' => Ext No w w' ∧ (v = .bool true) := by
  have rK2 := rK
  unfold Rec.Ok I64ok maxLen at rK2
  have rL6 := sees_len rS6
  unfold maxLen at rL6
  obtain ⟨rF6, rO6⟩ := rS6
  have rL7 := sees_len rS7
  unfold maxLen at rL7
  obtain ⟨rF7, rO7⟩ := rS7
  have rL8 := sees_len rS8
  unfold maxLen at rL8
  obtain ⟨rF8, rO8⟩ := rS8
  refine ret_Q (vs := [r.val rA6 rC6 rA7 rC7 rA8 rC8]) Try.func4 rfl Try.ntmps4 rfl (fun Q hQ hN => ?_)
  have H0 := Sep.start (w := w) (F := [seen false [.slice rA6 r.Rows.length rC6] r.Rows rF6, seen false [.slice rA7 r.Data.length rC7] r.Data rF7, seen false [.slice rA8 r.Delta.length rC8] r.Delta rF8]) (all_cons rO6 (all_cons rO7 (all_cons rO8 (by simp))))
  refine W_seq ?_
  refine W_reg ?_
  refine s_box (wn rfl) rfl rfl H0 (fun b1 w1 e1 g1 H1 => ?_)
  refine s_val (wn rfl) rfl rfl (py_assign rfl) ?_
  refine s_nil ?_
  refine W_seq ?_
  refine W_reg ?_
  refine s_val (wn rfl) rfl rfl (py_assign rfl) ?_
  refine s_nil ?_
  refine W_seq ?_
  refine W_reg ?_
  refine s_val (wn rfl) rfl rfl (py_loadS Try.underlying36 rfl Try.sizeOf36 rfl rfl (At.whole (H1.box 0 rfl))) (s_val (wn rfl) rfl rfl (py_move rfl) ?_)
  refine s_call (wn rfl) rfl rfl (pc_call Try.func20 rfl Try_nm20 rfl) (Try_laws_szRec (by assumption) (H1.sees 0 rfl) (H1.sees 1 rfl) (H1.sees 2 rfl) (by omega)) (fun v1 w2 r1 => ?_)
  obtain ⟨e2, rfl⟩ := r1
  have H2 := H1.to e2
  refine s_val (wn rfl) rfl rfl (py_assign rfl) ?_
  refine s_nil ?_
  refine W_seq ?_
  refine W_seq ?_
  refine W_reg ?_
  refine s_val (wn rfl) rfl rfl (py_move rfl) (s_val (wn rfl) rfl rfl (py_lss rfl rfl) ?_)
  refine s_nil ?_
  refine W_ifd rfl (fun c1 => ?_) (fun c1 => ?_)
  · refine W_seq ?_
    refine W_reg ?_
    refine s_val (wn rfl) rfl rfl (py_assign rfl) ?_
    refine s_nil ?_
    refine W_ret (hQ _ _ (fin1 Try.results4 rfl ?_))
    exact ⟨H2.ext, by simp_all⟩
  · refine W_skip ?_
    refine W_seq ?_
    refine W_reg ?_
    refine s_val (wn rfl) rfl rfl (py_loadS Try.underlying36 rfl Try.sizeOf36 rfl rfl (At.whole (H2.box 0 rfl))) ?_
    refine s_call (wn rfl) rfl rfl (pc_call Try.func22 rfl Try_nm22 rfl) (Try_laws_toRec (by assumption) (H2.sees 0 rfl) (H2.sees 1 rfl) (H2.sees 2 rfl) (by omega)) (fun v2 w3 r2 => ?_)
    obtain ⟨e3, sa1, sk1, sa2, sk2, sa3, sk3, rfl, r2⟩ := r2
    obtain ⟨fp1, H3⟩ := H2.res e3 r2
    have H4 := H3.share 1 rfl
    obtain ⟨sf1, sf2, sf3, sq1, sok1, so1, so2, so3⟩ := own_RecC (H4.seen 3 rfl)
    have H5 := H4.look1 3 rfl so1 (fun b hb => by rw [sq1]; simp [hb])
    have H6 := H5.look1 3 rfl so2 (fun b hb => by rw [sq1]; simp [hb])
    have H7 := H6.look1 3 rfl so3 (fun b hb => by rw [sq1]; simp [hb])
    refine s_call (wn rfl) rfl rfl (pc_call Try.func21 rfl Try_nm21 rfl) (Try_spec_ShareWhole (by assumption) (H7.sees 4 rfl) (H7.sees 5 rfl) (H7.sees 6 rfl)) (fun v3 w4 r3 => ?_)
    obtain ⟨e4, rfl⟩ := r3
    have H8 := H7.to e4
    refine s_val (wn rfl) rfl rfl (py_assign rfl) ?_
    refine s_nil ?_
    refine W_seq ?_
    refine W_reg ?_
    refine s_val (wn rfl) rfl rfl (py_loadS Try.underlying36 rfl Try.sizeOf36 rfl rfl (At.whole (H8.box 0 rfl))) ?_
    refine s_call (wn rfl) rfl rfl (pc_call Try.func22 rfl Try_nm22 rfl) (Try_laws_toRec (by assumption) (H8.sees 0 rfl) (H8.sees 1 rfl) (H8.sees 2 rfl) (by omega)) (fun v4 w5 r4 => ?_)
    obtain ⟨e5, sa4, sk4, sa5, sk5, sa6, sk6, rfl, r4⟩ := r4
    obtain ⟨fp2, H9⟩ := H8.res e5 r4
    have H10 := H9.share 2 rfl
    obtain ⟨sf4, sf5, sf6, sq2, sok2, so4, so5, so6⟩ := own_RecC (H10.seen 7 rfl)
    have H11 := H10.look1 7 rfl so4 (fun b hb => by rw [sq2]; simp [hb])
    have H12 := H11.look1 7 rfl so5 (fun b hb => by rw [sq2]; simp [hb])
    have H13 := H12.look1 7 rfl so6 (fun b hb => by rw [sq2]; simp [hb])
    refine s_var (wn rfl) rfl Try.zeroValue39 H13 (fun b2 w6 e6 g2 H14 => ?_)
    refine s_stoS (wn rfl) Try.sizeOf39 rfl rfl rfl rfl H14 3 rfl rfl (fun w7 e7 H15 => ?_)
    dsimp only [List.nil_append, List.cons_append, List.set_cons_zero, List.set_cons_succ, layL] at H15
    refine s_nil ?_
    refine W_seq ?_
    refine W_reg ?_
    refine s_val (wn rfl) rfl rfl (py_loadS Try.underlying39 rfl Try.sizeOf39 rfl rfl (At.whole (H15.box 3 rfl))) ?_
    refine s_call (wn rfl) rfl rfl (pc_call Try.func23 rfl Try_nm23 rfl) (Try_impl_ShareWhole (by assumption) (H15.sees 8 rfl) (H15.sees 9 rfl) (H15.sees 10 rfl)) (fun v5 w8 r5 => ?_)
    obtain ⟨e8, rfl⟩ := r5
    have H16 := H15.to e8
    refine s_val (wn rfl) rfl rfl (py_assign rfl) ?_
    refine s_nil ?_
    refine W_seq ?_
    refine W_seq ?_
    refine W_reg ?_
    refine s_val (wn rfl) rfl rfl (py_move rfl) (s_val (wn rfl) rfl rfl (py_move rfl) (s_val (wn rfl) rfl rfl (py_bneq Try.underlying4 rfl rfl) ?_))
    refine s_nil ?_
    refine W_if rfl (fun c2 => ?_) (fun c2 => ?_)
    · refine W_seq ?_
      refine W_reg ?_
      refine s_val (wn rfl) rfl rfl (py_assign rfl) ?_
      refine s_nil ?_
      refine W_ret (hQ _ _ (fin1 Try.results4 rfl ?_))
      exact ⟨H16.ext, by simp_all⟩
    · refine W_skip ?_
      refine W_seq ?_
      refine W_seq ?_
      refine W_drw (S := Ext No _) [(0, true), (1, true), (2, false), (3, false), (4, false)] (by kernel_rfl) (by kernel_rfl) (by kernel_rfl) rfl (fun _ => Ext.refl.drawn _) (fun q1 => ?_)
      have H17 := H16.drawn q1
      refine d_val rfl (wn rfl) rfl rfl (fun x hx => py_loadS Try.underlying39 rfl Try.sizeOf39 rfl rfl (At.whole (hx.heap (H17.box 3 rfl)))) (d_val rfl (wn rfl) rfl rfl (fun x hx => py_loadS Try.underlying36 rfl Try.sizeOf36 rfl rfl (At.whole (hx.heap (H17.box 0 rfl)))) ?_)
      refine d_call rfl (wn rfl) rfl rfl (pc_call Try.func22 rfl Try_nm22 rfl) (Try_laws_toRec (by assumption) (H17.sees 0 rfl) (H17.sees 1 rfl) (H17.sees 2 rfl) (by omega)) (fun hS _ _ r _ => hS.trans r.1) (fun v6 w9 r6 => ?_)
      obtain ⟨e9, sa7, sk7, sa8, sk8, sa9, sk9, rfl, r6⟩ := r6
      obtain ⟨fp3, H18⟩ := H17.res e9 r6
      have H19 := H18.share 4 rfl
      obtain ⟨sf7, sf8, sf9, sq3, sok3, so7, so8, so9⟩ := own_RecC (H19.seen 11 rfl)
      have H20 := H19.look1 11 rfl so7 (fun b hb => by rw [sq3]; simp [hb])
      have H21 := H20.look1 11 rfl so8 (fun b hb => by rw [sq3]; simp [hb])
      have H22 := H21.look1 11 rfl so9 (fun b hb => by rw [sq3]; simp [hb])
      refine d_call rfl (wn rfl) rfl rfl (pc_call Try.func24 rfl Try_nm24 rfl) (Try_laws_eqRec (by assumption) (H22.sees 8 rfl) (H22.sees 9 rfl) (H22.sees 10 rfl) (by assumption) (H22.sees 12 rfl) (H22.sees 13 rfl) (H22.sees 14 rfl)) (fun hS _ _ r _ => hS.trans r.1) (fun v7 w10 r7 => ?_)
      obtain ⟨e10, rfl⟩ := r7
      have H23 := H22.to e10
      refine d_end rfl (wn rfl) rfl rfl (py_not rfl) ?_
      refine d_nil ?_
      refine W_if rfl (fun c3 => ?_) (fun c3 => ?_)
      · refine W_seq ?_
        refine W_reg ?_
        refine s_val (wn rfl) rfl rfl (py_assign rfl) ?_
        refine s_nil ?_
        refine W_ret (hQ _ _ (fin1 Try.results4 rfl ?_))
        exact ⟨H23.ext, by simp_all⟩
      · refine W_skip ?_
        refine W_seq ?_
        refine W_reg ?_
        refine s_val (wn rfl) rfl rfl (py_assign rfl) ?_
        refine s_nil ?_
        refine W_ret (hQ _ _ (fin1 Try.results4 rfl ?_))
        exact ⟨H23.ext, by simp_all⟩
end Go.Wk
