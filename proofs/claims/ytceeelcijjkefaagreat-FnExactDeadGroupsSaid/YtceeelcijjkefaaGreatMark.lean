/-
  The functions walked, each once. (Printed by a program of mine.)
-/
import Derived.Test.YtceeelcijjkefaaGreatBase
import Derived.Test.YtceeelcijjkefaaGreatWkO
set_option linter.unusedVariables false
set_option linter.unusedSimpArgs false
namespace Go.Wk
open Go.Proofs Rp
set_option maxRecDepth 10000
theorem Tryz_laws_markByteS {w : World} {xs : List UInt8} {xsA : Option Addr} {xsC : Nat} {k : Int} {fp : List Nat} (o : own true w [.slice xsA xs.length xsC] xs fp) (nd : fp.Nodup) (hk : 0 ≤ k ∧ k + xs.length ≤ 4611686018427387904) : Ret Tryz.prog 56 #[.slice xsA xs.length xsC, .int .i64 k] w fun v w' => (v = .int .i64 (k + xs.length) ∧ ∃ xs', Mut w w' fp [.slice xsA xs.length xsC] xs' ∧ xs'.length = xs.length ∧ MarkB xs' k) := by
  have len := own_len_le o
  unfold maxLen at len
  refine ret_Q (vs := [.slice xsA xs.length xsC, .int .i64 k]) Tryz.func56 rfl Tryz.ntmps56 rfl (fun Q hQ hN => ?_)
  have H0 := Sep.begin o nd
  refine W_seq ?_
  refine W_reg ?_
  refine s_val (wn rfl) rfl rfl (py_assign rfl) ?_
  refine s_nil ?_
  refine W_seq ?_
  refine W_seq ?_
  refine W_reg ?_
  refine s_val (wn rfl) rfl rfl (py_assign rfl) ?_
  refine s_nil ?_
  refine W_block ?_
  refine W_loop (γ := Nat × List UInt8 × List Nat) (fun (i, ys, f) => [(0, .slice xsA xs.length xsC), (1, .int .i64 (k + i)), (5, .int .i64 i)]) (fun (i, ys, f) w' => Sep (· ∈ fp) w [mine [.slice xsA xs.length xsC] ys f] [] w' ∧ i ≤ xs.length ∧ ys.length = xs.length ∧ (∀ j, j < i → ys.getD j 0 = u8Of (k + j))) (fun (i, ys, f) => xs.length - i) (0, xs, fp) ⟨rfl, eqI (by omega), rfl, trivial⟩ ⟨H0, by omega, rfl, fun j hj => by omega⟩ (fun (i, ys, f) w1 H1 => ?_)
  obtain ⟨H1, hi, hl, hm⟩ := H1
  refine W_seq ?_
  refine W_seq ?_
  refine W_reg ?_
  refine s_val (wn rfl) rfl rfl (py_move rfl) (s_val (wn rfl) rfl rfl (py_move rfl) (s_val (wn rfl) rfl rfl (py_len Tryz.underlying61 rfl) (s_val (wn rfl) rfl rfl (py_lss rfl rfl) ?_)))
  refine s_nil ?_
  refine W_ifd rfl (fun c1 => ?_) (fun c1 => ?_)
  · refine W_skip ?_
    refine W_seq ?_
    refine W_block ?_
    refine W_seq ?_
    obtain ⟨eb1, eo1, ee1, ec1⟩ := elem_u8 (H1.mine 0 rfl) i (by omega)
    refine W_reg ?_
    refine s_val (wn rfl) rfl rfl (py_move rfl) (s_val (wn rfl) rfl rfl (py_move rfl) (s_val (wn rfl) rfl rfl (py_move rfl) (s_val (wn rfl) rfl rfl (py_conv8 Tryz.underlying3 Tryz.underlying5 rfl) (s_val (wn rfl) rfl rfl (py_elz Tryz.underlying61 Tryz.sizeOf5 rfl rfl ee1 i (by omega) (by omega)) ?_))))
    refine s_elst (wn rfl) Tryz.sizeOf5 rfl H1 0 rfl i (by omega) rfl ee1 rfl own_b8 (fun w2 fp1 e1 H2 => ?_)
    refine s_nil ?_
    refine W_reg ?_
    refine s_val (wn rfl) rfl rfl (py_move rfl) (s_val (wn rfl) rfl rfl (py_add rfl rfl (in64 ⟨by omega, by omega⟩)) (s_val (wn rfl) rfl rfl (py_assign rfl) ?_))
    refine s_nil ?_
    refine W_reg ?_
    refine s_val (wn rfl) rfl rfl (py_move rfl) (s_val (wn rfl) rfl rfl (py_add rfl rfl (in64 ⟨by omega, by omega⟩)) (s_val (wn rfl) rfl rfl (py_assign rfl) ?_))
    refine s_nil ?_
    refine ⟨(i + 1, _, _), ⟨rfl, eqI (by omega), rfl, trivial⟩, ⟨H2, by omega, by rw [List.length_set]; exact hl, fun j hj => ?_⟩, by dsimp only; omega⟩
    rw [getD_set]
    by_cases e : j = i
    · subst e; rw [if_pos ⟨rfl, by omega⟩]
    · rw [if_neg (fun h => e h.1)]; exact hm j (by omega)
  · refine W_exit ?_
    refine W_seq ?_
    refine W_reg ?_
    refine s_val (wn rfl) rfl rfl (py_move rfl) (s_val (wn rfl) rfl rfl (py_assign rfl) ?_)
    refine s_nil ?_
    refine W_ret (hQ _ _ (fin1 Tryz.results56 rfl ?_))
    obtain rfl : i = xs.length := by omega
    exact ⟨rfl, _, H1.done, hl, fun j hj => hm j (by omega)⟩
theorem Tryz_laws_markInt64S {w : World} {xs : List Int} {xsA : Option Addr} {xsC : Nat} {k : Int} {fp : List Nat} (o : own true w [.slice xsA xs.length xsC] xs fp) (nd : fp.Nodup) (hk : 0 ≤ k ∧ k + xs.length ≤ 4611686018427387904) : Ret Tryz.prog 89 #[.slice xsA xs.length xsC, .int .i64 k] w fun v w' => (v = .int .i64 (k + xs.length) ∧ ∃ xs', Mut w w' fp [.slice xsA xs.length xsC] xs' ∧ xs'.length = xs.length ∧ MarkI xs' k) := by
  have len := own_len_le o
  unfold maxLen at len
  refine ret_Q (vs := [.slice xsA xs.length xsC, .int .i64 k]) Tryz.func89 rfl Tryz.ntmps89 rfl (fun Q hQ hN => ?_)
  have H0 := Sep.begin o nd
  refine W_seq ?_
  refine W_reg ?_
  refine s_val (wn rfl) rfl rfl (py_assign rfl) ?_
  refine s_nil ?_
  refine W_seq ?_
  refine W_seq ?_
  refine W_reg ?_
  refine s_val (wn rfl) rfl rfl (py_assign rfl) ?_
  refine s_nil ?_
  refine W_block ?_
  refine W_loop (γ := Nat × List Int × List Nat) (fun (i, ys, f) => [(0, .slice xsA xs.length xsC), (1, .int .i64 (k + i)), (5, .int .i64 i)]) (fun (i, ys, f) w' => Sep (· ∈ fp) w [mine [.slice xsA xs.length xsC] ys f] [] w' ∧ i ≤ xs.length ∧ ys.length = xs.length ∧ (∀ j, j < i → ys.getD j 0 = (k + j))) (fun (i, ys, f) => xs.length - i) (0, xs, fp) ⟨rfl, eqI (by omega), rfl, trivial⟩ ⟨H0, by omega, rfl, fun j hj => by omega⟩ (fun (i, ys, f) w1 H1 => ?_)
  obtain ⟨H1, hi, hl, hm⟩ := H1
  refine W_seq ?_
  refine W_seq ?_
  refine W_reg ?_
  refine s_val (wn rfl) rfl rfl (py_move rfl) (s_val (wn rfl) rfl rfl (py_move rfl) (s_val (wn rfl) rfl rfl (py_len Tryz.underlying25 rfl) (s_val (wn rfl) rfl rfl (py_lss rfl rfl) ?_)))
  refine s_nil ?_
  refine W_ifd rfl (fun c1 => ?_) (fun c1 => ?_)
  · refine W_skip ?_
    refine W_seq ?_
    refine W_block ?_
    refine W_seq ?_
    obtain ⟨eb1, eo1, ee1, ec1⟩ := elem_int (H1.mine 0 rfl) i (by omega)
    refine W_reg ?_
    refine s_val (wn rfl) rfl rfl (py_move rfl) (s_val (wn rfl) rfl rfl (py_move rfl) (s_val (wn rfl) rfl rfl (py_move rfl) (s_val (wn rfl) rfl rfl (py_elz Tryz.underlying25 Tryz.sizeOf2 rfl rfl ee1 i (by omega) (by omega)) ?_)))
    refine s_elst (wn rfl) Tryz.sizeOf2 rfl H1 0 rfl i (by omega) rfl ee1 rfl (own_bi (by unfold I64ok; omega)) (fun w2 fp1 e1 H2 => ?_)
    refine s_nil ?_
    refine W_reg ?_
    refine s_val (wn rfl) rfl rfl (py_move rfl) (s_val (wn rfl) rfl rfl (py_add rfl rfl (in64 ⟨by omega, by omega⟩)) (s_val (wn rfl) rfl rfl (py_assign rfl) ?_))
    refine s_nil ?_
    refine W_reg ?_
    refine s_val (wn rfl) rfl rfl (py_move rfl) (s_val (wn rfl) rfl rfl (py_add rfl rfl (in64 ⟨by omega, by omega⟩)) (s_val (wn rfl) rfl rfl (py_assign rfl) ?_))
    refine s_nil ?_
    refine ⟨(i + 1, _, _), ⟨rfl, eqI (by omega), rfl, trivial⟩, ⟨H2, by omega, by rw [List.length_set]; exact hl, fun j hj => ?_⟩, by dsimp only; omega⟩
    rw [getD_set]
    by_cases e : j = i
    · subst e; rw [if_pos ⟨rfl, by omega⟩]
    · rw [if_neg (fun h => e h.1)]; exact hm j (by omega)
  · refine W_exit ?_
    refine W_seq ?_
    refine W_reg ?_
    refine s_val (wn rfl) rfl rfl (py_move rfl) (s_val (wn rfl) rfl rfl (py_assign rfl) ?_)
    refine s_nil ?_
    refine W_ret (hQ _ _ (fin1 Tryz.results89 rfl ?_))
    obtain rfl : i = xs.length := by omega
    exact ⟨rfl, _, H1.done, hl, fun j hj => hm j (by omega)⟩
theorem Tryz_laws_heldByteS {w : World} {xs : List UInt8} {xsA : Option Addr} {xsC : Nat} {k : Int} (xsS : Sees w [.slice xsA xs.length xsC] xs) (hk : 0 ≤ k ∧ k + xs.length ≤ 4611686018427387904) (hm : MarkB xs k) : Ret Tryz.prog 115 #[.slice xsA xs.length xsC, .int .i64 k] w fun v w' => Ext No w w' ∧ (v = .int .i64 (k + xs.length)) := by
  have xsL := sees_len xsS
  unfold maxLen at xsL
  obtain ⟨xsF, xsO⟩ := xsS
  refine ret_Q (vs := [.slice xsA xs.length xsC, .int .i64 k]) Tryz.func115 rfl Tryz.ntmps115 rfl (fun Q hQ hN => ?_)
  have H0 := Sep.start (w := w) (F := [seen false [.slice xsA xs.length xsC] xs xsF]) (all_cons xsO (by simp))
  refine W_seq ?_
  refine W_reg ?_
  refine s_val (wn rfl) rfl rfl (py_assign rfl) ?_
  refine s_nil ?_
  refine W_seq ?_
  refine W_seq ?_
  refine W_reg ?_
  refine s_val (wn rfl) rfl rfl (py_assign rfl) ?_
  refine s_nil ?_
  refine W_block ?_
  refine W_loop (γ := Nat) (fun i => [(0, .slice xsA xs.length xsC), (1, .int .i64 (k + i)), (5, .int .i64 i)]) (fun i w' => Sep No w [] [seen false [.slice xsA xs.length xsC] xs xsF] w' ∧ i ≤ xs.length) (fun i => xs.length - i) 0 ⟨rfl, eqI (by omega), rfl, trivial⟩ ⟨H0, by omega⟩ (fun i w1 H1 => ?_)
  obtain ⟨H1, hi⟩ := H1
  refine W_seq ?_
  refine W_seq ?_
  refine W_reg ?_
  refine s_val (wn rfl) rfl rfl (py_move rfl) (s_val (wn rfl) rfl rfl (py_move rfl) (s_val (wn rfl) rfl rfl (py_len Tryz.underlying61 rfl) (s_val (wn rfl) rfl rfl (py_lss rfl rfl) ?_)))
  refine s_nil ?_
  refine W_ifd rfl (fun c1 => ?_) (fun c1 => ?_)
  · refine W_skip ?_
    refine W_seq ?_
    refine W_block ?_
    refine W_seq ?_
    refine W_seq ?_
    obtain ⟨eb1, eo1, ee1, ec1⟩ := elem_u8 (H1.seen 0 rfl) i (by omega)
    refine W_reg ?_
    refine s_val (wn rfl) rfl rfl (py_move rfl) (s_val (wn rfl) rfl rfl (py_move rfl) (s_val (wn rfl) rfl rfl (py_elz Tryz.underlying61 Tryz.sizeOf5 rfl rfl ee1 i (by omega) (by omega)) (s_val (wn rfl) rfl rfl (py_load Tryz.underlying5 rfl rfl ec1) (s_val (wn rfl) rfl rfl (py_move rfl) (s_val (wn rfl) rfl rfl (py_conv8 Tryz.underlying3 Tryz.underlying5 rfl) (s_val (wn rfl) rfl rfl (py_neq rfl rfl) ?_))))))
    refine s_nil ?_
    refine W_ifd rfl (fun c2 => ?_) (fun c2 => ?_)
    · exact absurd (by rw [hm i (by omega)]) c2
    · refine W_skip ?_
      refine W_reg ?_
      refine s_val (wn rfl) rfl rfl (py_move rfl) (s_val (wn rfl) rfl rfl (py_add rfl rfl (in64 ⟨by omega, by omega⟩)) (s_val (wn rfl) rfl rfl (py_assign rfl) ?_))
      refine s_nil ?_
      refine W_reg ?_
      refine s_val (wn rfl) rfl rfl (py_move rfl) (s_val (wn rfl) rfl rfl (py_add rfl rfl (in64 ⟨by omega, by omega⟩)) (s_val (wn rfl) rfl rfl (py_assign rfl) ?_))
      refine s_nil ?_
      refine ⟨i + 1, ⟨rfl, eqI (by omega), rfl, trivial⟩, ⟨H1, by omega⟩, by dsimp only; omega⟩
  · refine W_exit ?_
    refine W_seq ?_
    refine W_reg ?_
    refine s_val (wn rfl) rfl rfl (py_move rfl) (s_val (wn rfl) rfl rfl (py_assign rfl) ?_)
    refine s_nil ?_
    refine W_ret (hQ _ _ (fin1 Tryz.results115 rfl ?_))
    obtain rfl : i = xs.length := by omega
    exact ⟨H1.ext, rfl⟩
theorem Tryz_laws_heldInt64S {w : World} {xs : List Int} {xsA : Option Addr} {xsC : Nat} {k : Int} (xsS : Sees w [.slice xsA xs.length xsC] xs) (hk : 0 ≤ k ∧ k + xs.length ≤ 4611686018427387904) (hm : MarkI xs k) : Ret Tryz.prog 91 #[.slice xsA xs.length xsC, .int .i64 k] w fun v w' => Ext No w w' ∧ (v = .int .i64 (k + xs.length)) := by
  have xsL := sees_len xsS
  unfold maxLen at xsL
  obtain ⟨xsF, xsO⟩ := xsS
  refine ret_Q (vs := [.slice xsA xs.length xsC, .int .i64 k]) Tryz.func91 rfl Tryz.ntmps91 rfl (fun Q hQ hN => ?_)
  have H0 := Sep.start (w := w) (F := [seen false [.slice xsA xs.length xsC] xs xsF]) (all_cons xsO (by simp))
  refine W_seq ?_
  refine W_reg ?_
  refine s_val (wn rfl) rfl rfl (py_assign rfl) ?_
  refine s_nil ?_
  refine W_seq ?_
  refine W_seq ?_
  refine W_reg ?_
  refine s_val (wn rfl) rfl rfl (py_assign rfl) ?_
  refine s_nil ?_
  refine W_block ?_
  refine W_loop (γ := Nat) (fun i => [(0, .slice xsA xs.length xsC), (1, .int .i64 (k + i)), (5, .int .i64 i)]) (fun i w' => Sep No w [] [seen false [.slice xsA xs.length xsC] xs xsF] w' ∧ i ≤ xs.length) (fun i => xs.length - i) 0 ⟨rfl, eqI (by omega), rfl, trivial⟩ ⟨H0, by omega⟩ (fun i w1 H1 => ?_)
  obtain ⟨H1, hi⟩ := H1
  refine W_seq ?_
  refine W_seq ?_
  refine W_reg ?_
  refine s_val (wn rfl) rfl rfl (py_move rfl) (s_val (wn rfl) rfl rfl (py_move rfl) (s_val (wn rfl) rfl rfl (py_len Tryz.underlying25 rfl) (s_val (wn rfl) rfl rfl (py_lss rfl rfl) ?_)))
  refine s_nil ?_
  refine W_ifd rfl (fun c1 => ?_) (fun c1 => ?_)
  · refine W_skip ?_
    refine W_seq ?_
    refine W_block ?_
    refine W_seq ?_
    refine W_seq ?_
    obtain ⟨eb1, eo1, ee1, ec1⟩ := elem_int (H1.seen 0 rfl) i (by omega)
    have eI1 := elem_i64 (H1.seen 0 rfl) i (by omega)
    refine W_reg ?_
    refine s_val (wn rfl) rfl rfl (py_move rfl) (s_val (wn rfl) rfl rfl (py_move rfl) (s_val (wn rfl) rfl rfl (py_elz Tryz.underlying25 Tryz.sizeOf2 rfl rfl ee1 i (by omega) (by omega)) (s_val (wn rfl) rfl rfl (py_load Tryz.underlying2 rfl rfl ec1) (s_val (wn rfl) rfl rfl (py_move rfl) (s_val (wn rfl) rfl rfl (py_neq rfl rfl) ?_)))))
    refine s_nil ?_
    refine W_ifd rfl (fun c2 => ?_) (fun c2 => ?_)
    · exact absurd (hm i (by omega)) c2
    · refine W_skip ?_
      refine W_reg ?_
      refine s_val (wn rfl) rfl rfl (py_move rfl) (s_val (wn rfl) rfl rfl (py_add rfl rfl (in64 ⟨by omega, by omega⟩)) (s_val (wn rfl) rfl rfl (py_assign rfl) ?_))
      refine s_nil ?_
      refine W_reg ?_
      refine s_val (wn rfl) rfl rfl (py_move rfl) (s_val (wn rfl) rfl rfl (py_add rfl rfl (in64 ⟨by omega, by omega⟩)) (s_val (wn rfl) rfl rfl (py_assign rfl) ?_))
      refine s_nil ?_
      refine ⟨i + 1, ⟨rfl, eqI (by omega), rfl, trivial⟩, ⟨H1, by omega⟩, by dsimp only; omega⟩
  · refine W_exit ?_
    refine W_seq ?_
    refine W_reg ?_
    refine s_val (wn rfl) rfl rfl (py_move rfl) (s_val (wn rfl) rfl rfl (py_assign rfl) ?_)
    refine s_nil ?_
    refine W_ret (hQ _ _ (fin1 Tryz.results91 rfl ?_))
    obtain rfl : i = xs.length := by omega
    exact ⟨H1.ext, rfl⟩
end Go.Wk
