/-
  The functions walked, each once. (Printed by a program of mine.)
-/
import Derived.Test.YtlcpnnnangneeaaBase
import Derived.Test.YtlcpnnnangneeaaWkO
namespace Go.Wk
open Go.Proofs Rp
set_option maxRecDepth 10000
theorem Try_laws_markByteS {w : World} {xs : List UInt8} {xsA : Option Addr} {xsC : Nat} {k : Int} {fp : List Nat} (o : own true w [.slice xsA xs.length xsC] xs fp) (nd : fp.Nodup) (hk : 0 ≤ k ∧ k + xs.length ≤ 4611686018427387904) : Ret Try.prog 30 #[.slice xsA xs.length xsC, .int .i64 k] w fun v w' => (v = .int .i64 (k + xs.length) ∧ ∃ xs', Mut w w' fp [.slice xsA xs.length xsC] xs' ∧ xs'.length = xs.length ∧ MarkB xs' k) := by
  have len := own_len_le o
  unfold maxLen at len
  refine ret_Q (vs := [.slice xsA xs.length xsC, .int .i64 k]) Try.func30 rfl Try.ntmps30 rfl (fun Q hQ hN => ?_)
  have H0 := Sep.begin o nd
  refine W_seq ?_
  refine W_reg ?_
  refine s_val (wn rfl) rfl rfl (py_assign rfl) ?_
  refine s_nil ?_
  refine W_seq ?_
  refine W_seq ?_
  refine W_reg ?_
  refine s_val (wn rfl) rfl rfl (py_assign rfl) ?_
  refine s_nil ?_
  refine W_block ?_
  refine W_loop (γ := Nat × List UInt8 × List Nat) (fun (i, ys, f) => [(0, .slice xsA xs.length xsC), (1, .int .i64 (k + i)), (5, .int .i64 i)]) (fun (i, ys, f) w' => Sep (· ∈ fp) w [mine [.slice xsA xs.length xsC] ys f] [] w' ∧ i ≤ xs.length ∧ ys.length = xs.length ∧ (∀ j, j < i → ys.getD j 0 = u8Of (k + j))) (fun (i, ys, f) => xs.length - i) (0, xs, fp) ⟨rfl, eqI (by omega), rfl, trivial⟩ ⟨H0, by omega, rfl, fun j hj => by omega⟩ (fun (i, ys, f) w1 H1 => ?_)
  obtain ⟨H1, hi, hl, hm⟩ := H1
  refine W_seq ?_
  refine W_seq ?_
  refine W_reg ?_
  refine s_val (wn rfl) rfl rfl (py_move rfl) (s_val (wn rfl) rfl rfl (py_move rfl) (s_val (wn rfl) rfl rfl (py_len Try.underlying34 rfl) (s_val (wn rfl) rfl rfl (py_lss rfl rfl) ?_)))
  refine s_nil ?_
  refine W_ifd rfl (fun c1 => ?_) (fun c1 => ?_)
  · refine W_skip ?_
    refine W_seq ?_
    refine W_block ?_
    refine W_seq ?_
    obtain ⟨eb1, eo1, ee1, ec1⟩ := elem_u8 (H1.mine 0 rfl) i (by omega)
    refine W_reg ?_
    refine s_val (wn rfl) rfl rfl (py_move rfl) (s_val (wn rfl) rfl rfl (py_move rfl) (s_val (wn rfl) rfl rfl (py_move rfl) (s_val (wn rfl) rfl rfl (py_conv8 Try.underlying3 Try.underlying5 rfl) (s_val (wn rfl) rfl rfl (py_elz Try.underlying34 Try.sizeOf5 rfl rfl ee1 i (by omega) (by omega)) ?_))))
    refine s_elst (wn rfl) Try.sizeOf5 rfl H1 0 rfl i (by omega) rfl ee1 rfl own_b8 (fun w2 fp1 e1 H2 => ?_)
    refine s_nil ?_
    refine W_reg ?_
    refine s_val (wn rfl) rfl rfl (py_move rfl) (s_val (wn rfl) rfl rfl (py_add rfl rfl (in64 ⟨by omega, by omega⟩)) (s_val (wn rfl) rfl rfl (py_assign rfl) ?_))
    refine s_nil ?_
    refine W_reg ?_
    refine s_val (wn rfl) rfl rfl (py_move rfl) (s_val (wn rfl) rfl rfl (py_add rfl rfl (in64 ⟨by omega, by omega⟩)) (s_val (wn rfl) rfl rfl (py_assign rfl) ?_))
    refine s_nil ?_
    refine ⟨(i + 1, _, _), ⟨rfl, eqI (by omega), rfl, trivial⟩, ⟨H2, by omega, by rw [List.length_set]; exact hl, fun j hj => ?_⟩, by dsimp only; omega⟩
    rw [getD_set]
    by_cases e : j = i
    · subst e; rw [if_pos ⟨rfl, by omega⟩]
    · rw [if_neg (fun h => e h.1)]; exact hm j (by omega)
  · refine W_exit ?_
    refine W_seq ?_
    refine W_reg ?_
    refine s_val (wn rfl) rfl rfl (py_move rfl) (s_val (wn rfl) rfl rfl (py_assign rfl) ?_)
    refine s_nil ?_
    refine W_ret (hQ _ _ (fin1 Try.results30 rfl ?_))
    obtain rfl : i = xs.length := by omega
    exact ⟨rfl, _, H1.done, hl, fun j hj => hm j (by omega)⟩
theorem Try_laws_markInt64S {w : World} {xs : List Int} {xsA : Option Addr} {xsC : Nat} {k : Int} {fp : List Nat} (o : own true w [.slice xsA xs.length xsC] xs fp) (nd : fp.Nodup) (hk : 0 ≤ k ∧ k + xs.length ≤ 4611686018427387904) : Ret Try.prog 56 #[.slice xsA xs.length xsC, .int .i64 k] w fun v w' => (v = .int .i64 (k + xs.length) ∧ ∃ xs', Mut w w' fp [.slice xsA xs.length xsC] xs' ∧ xs'.length = xs.length ∧ MarkI xs' k) := by
  have len := own_len_le o
  unfold maxLen at len
  refine ret_Q (vs := [.slice xsA xs.length xsC, .int .i64 k]) Try.func56 rfl Try.ntmps56 rfl (fun Q hQ hN => ?_)
  have H0 := Sep.begin o nd
  refine W_seq ?_
  refine W_reg ?_
  refine s_val (wn rfl) rfl rfl (py_assign rfl) ?_
  refine s_nil ?_
  refine W_seq ?_
  refine W_seq ?_
  refine W_reg ?_
  refine s_val (wn rfl) rfl rfl (py_assign rfl) ?_
  refine s_nil ?_
  refine W_block ?_
  refine W_loop (γ := Nat × List Int × List Nat) (fun (i, ys, f) => [(0, .slice xsA xs.length xsC), (1, .int .i64 (k + i)), (5, .int .i64 i)]) (fun (i, ys, f) w' => Sep (· ∈ fp) w [mine [.slice xsA xs.length xsC] ys f] [] w' ∧ i ≤ xs.length ∧ ys.length = xs.length ∧ (∀ j, j < i → ys.getD j 0 = (k + j))) (fun (i, ys, f) => xs.length - i) (0, xs, fp) ⟨rfl, eqI (by omega), rfl, trivial⟩ ⟨H0, by omega, rfl, fun j hj => by omega⟩ (fun (i, ys, f) w1 H1 => ?_)
  obtain ⟨H1, hi, hl, hm⟩ := H1
  refine W_seq ?_
  refine W_seq ?_
  refine W_reg ?_
  refine s_val (wn rfl) rfl rfl (py_move rfl) (s_val (wn rfl) rfl rfl (py_move rfl) (s_val (wn rfl) rfl rfl (py_len Try.underlying33 rfl) (s_val (wn rfl) rfl rfl (py_lss rfl rfl) ?_)))
  refine s_nil ?_
  refine W_ifd rfl (fun c1 => ?_) (fun c1 => ?_)
  · refine W_skip ?_
    refine W_seq ?_
    refine W_block ?_
    refine W_seq ?_
    obtain ⟨eb1, eo1, ee1, ec1⟩ := elem_int (H1.mine 0 rfl) i (by omega)
    refine W_reg ?_
    refine s_val (wn rfl) rfl rfl (py_move rfl) (s_val (wn rfl) rfl rfl (py_move rfl) (s_val (wn rfl) rfl rfl (py_move rfl) (s_val (wn rfl) rfl rfl (py_elz Try.underlying33 Try.sizeOf2 rfl rfl ee1 i (by omega) (by omega)) ?_)))
    refine s_elst (wn rfl) Try.sizeOf2 rfl H1 0 rfl i (by omega) rfl ee1 rfl (own_bi (by unfold I64ok; omega)) (fun w2 fp1 e1 H2 => ?_)
    refine s_nil ?_
    refine W_reg ?_
    refine s_val (wn rfl) rfl rfl (py_move rfl) (s_val (wn rfl) rfl rfl (py_add rfl rfl (in64 ⟨by omega, by omega⟩)) (s_val (wn rfl) rfl rfl (py_assign rfl) ?_))
    refine s_nil ?_
    refine W_reg ?_
    refine s_val (wn rfl) rfl rfl (py_move rfl) (s_val (wn rfl) rfl rfl (py_add rfl rfl (in64 ⟨by omega, by omega⟩)) (s_val (wn rfl) rfl rfl (py_assign rfl) ?_))
    refine s_nil ?_
    refine ⟨(i + 1, _, _), ⟨rfl, eqI (by omega), rfl, trivial⟩, ⟨H2, by omega, by rw [List.length_set]; exact hl, fun j hj => ?_⟩, by dsimp only; omega⟩
    rw [getD_set]
    by_cases e : j = i
    · subst e; rw [if_pos ⟨rfl, by omega⟩]
    · rw [if_neg (fun h => e h.1)]; exact hm j (by omega)
  · refine W_exit ?_
    refine W_seq ?_
    refine W_reg ?_
    refine s_val (wn rfl) rfl rfl (py_move rfl) (s_val (wn rfl) rfl rfl (py_assign rfl) ?_)
    refine s_nil ?_
    refine W_ret (hQ _ _ (fin1 Try.results56 rfl ?_))
    obtain rfl : i = xs.length := by omega
    exact ⟨rfl, _, H1.done, hl, fun j hj => hm j (by omega)⟩
theorem Try_laws_heldByteS {w : World} {xs : List UInt8} {xsA : Option Addr} {xsC : Nat} {k : Int} (xsS : Sees w [.slice xsA xs.length xsC] xs) (hk : 0 ≤ k ∧ k + xs.length ≤ 4611686018427387904) (hm : MarkB xs k) : Ret Try.prog 110 #[.slice xsA xs.length xsC, .int .i64 k] w fun v w' => Ext No w w' ∧ (v = .int .i64 (k + xs.length)) := by
  have xsL := sees_len xsS
  unfold maxLen at xsL
  obtain ⟨xsF, xsO⟩ := xsS
  refine ret_Q (vs := [.slice xsA xs.length xsC, .int .i64 k]) Try.func110 rfl Try.ntmps110 rfl (fun Q hQ hN => ?_)
  have H0 := Sep.start (w := w) (F := [seen false [.slice xsA xs.length xsC] xs xsF]) (all_cons xsO (by simp))
  refine W_seq ?_
  refine W_reg ?_
  refine s_val (wn rfl) rfl rfl (py_assign rfl) ?_
  refine s_nil ?_
  refine W_seq ?_
  refine W_seq ?_
  refine W_reg ?_
  refine s_val (wn rfl) rfl rfl (py_assign rfl) ?_
  refine s_nil ?_
  refine W_block ?_
  refine W_loop (γ := Nat) (fun i => [(0, .slice xsA xs.length xsC), (1, .int .i64 (k + i)), (5, .int .i64 i)]) (fun i w' => Sep No w [] [seen false [.slice xsA xs.length xsC] xs xsF] w' ∧ i ≤ xs.length) (fun i => xs.length - i) 0 ⟨rfl, eqI (by omega), rfl, trivial⟩ ⟨H0, by omega⟩ (fun i w1 H1 => ?_)
  obtain ⟨H1, hi⟩ := H1
  refine W_seq ?_
  refine W_seq ?_
  refine W_reg ?_
  refine s_val (wn rfl) rfl rfl (py_move rfl) (s_val (wn rfl) rfl rfl (py_move rfl) (s_val (wn rfl) rfl rfl (py_len Try.underlying34 rfl) (s_val (wn rfl) rfl rfl (py_lss rfl rfl) ?_)))
  refine s_nil ?_
  refine W_ifd rfl (fun c1 => ?_) (fun c1 => ?_)
  · refine W_skip ?_
    refine W_seq ?_
    refine W_block ?_
    refine W_seq ?_
    refine W_seq ?_
    obtain ⟨eb1, eo1, ee1, ec1⟩ := elem_u8 (H1.seen 0 rfl) i (by omega)
    refine W_reg ?_
    refine s_val (wn rfl) rfl rfl (py_move rfl) (s_val (wn rfl) rfl rfl (py_move rfl) (s_val (wn rfl) rfl rfl (py_elz Try.underlying34 Try.sizeOf5 rfl rfl ee1 i (by omega) (by omega)) (s_val (wn rfl) rfl rfl (py_load Try.underlying5 rfl rfl ec1) (s_val (wn rfl) rfl rfl (py_move rfl) (s_val (wn rfl) rfl rfl (py_conv8 Try.underlying3 Try.underlying5 rfl) (s_val (wn rfl) rfl rfl (py_neq rfl rfl) ?_))))))
    refine s_nil ?_
    refine W_ifd rfl (fun c2 => ?_) (fun c2 => ?_)
    · exact absurd (by rw [hm i (by omega)]) c2
    · refine W_skip ?_
      refine W_reg ?_
      refine s_val (wn rfl) rfl rfl (py_move rfl) (s_val (wn rfl) rfl rfl (py_add rfl rfl (in64 ⟨by omega, by omega⟩)) (s_val (wn rfl) rfl rfl (py_assign rfl) ?_))
      refine s_nil ?_
      refine W_reg ?_
      refine s_val (wn rfl) rfl rfl (py_move rfl) (s_val (wn rfl) rfl rfl (py_add rfl rfl (in64 ⟨by omega, by omega⟩)) (s_val (wn rfl) rfl rfl (py_assign rfl) ?_))
      refine s_nil ?_
      refine ⟨i + 1, ⟨rfl, eqI (by omega), rfl, trivial⟩, ⟨H1, by omega⟩, by dsimp only; omega⟩
  · refine W_exit ?_
    refine W_seq ?_
    refine W_reg ?_
    refine s_val (wn rfl) rfl rfl (py_move rfl) (s_val (wn rfl) rfl rfl (py_assign rfl) ?_)
    refine s_nil ?_
    refine W_ret (hQ _ _ (fin1 Try.results110 rfl ?_))
    obtain rfl : i = xs.length := by omega
    exact ⟨H1.ext, rfl⟩
theorem Try_laws_markByteSS {w : World} {xs : List (List UInt8)} {xsA : Option Addr} {xsC : Nat} {k : Int} {fp : List Nat} (o : own true w [.slice xsA xs.length xsC] xs fp) (nd : fp.Nodup) (hk : 0 ≤ k ∧ k + cntB xs ≤ 4611686018427387904) : Ret Try.prog 50 #[.slice xsA xs.length xsC, .int .i64 k] w fun v w' => (v = .int .i64 (k + cntB xs) ∧ ∃ xs', Mut w w' fp [.slice xsA xs.length xsC] xs' ∧ xs'.length = xs.length ∧ (∀ j, (xs'.getD j []).length = (xs.getD j []).length) ∧ MarkBB xs' k) := by
  have len := own_len_le o
  unfold maxLen at len
  refine ret_Q (vs := [.slice xsA xs.length xsC, .int .i64 k]) Try.func50 rfl Try.ntmps50 rfl (fun Q hQ hN => ?_)
  have H0 := Sep.begin o nd
  refine W_seq ?_
  refine W_reg ?_
  refine s_val (wn rfl) rfl rfl (py_assign rfl) ?_
  refine s_nil ?_
  refine W_seq ?_
  refine W_seq ?_
  refine W_reg ?_
  refine s_val (wn rfl) rfl rfl (py_assign rfl) ?_
  refine s_nil ?_
  refine W_block ?_
  refine W_loop (γ := Nat × List (List UInt8) × List Nat) (fun (i, ys, f) => [(0, .slice xsA xs.length xsC), (1, .int .i64 (k + sumN (lenB xs) i)), (5, .int .i64 i)]) (fun (i, ys, f) w' => Sep (· ∈ fp) w [mine [.slice xsA xs.length xsC] ys f] [] w' ∧ i ≤ xs.length ∧ ys.length = xs.length ∧ (∀ j, (ys.getD j []).length = (xs.getD j []).length) ∧ (∀ j, j < i → MarkB (ys.getD j []) (k + sumN (lenB xs) j))) (fun (i, ys, f) => xs.length - i) (0, xs, fp) ⟨rfl, eqI (by simp [sumN]), rfl, trivial⟩ ⟨H0, by omega, rfl, fun _ => rfl, fun j hj => by omega⟩ (fun (i, ys, f) w1 H1 => ?_)
  obtain ⟨H1, hi, hl, hs, hm⟩ := H1
  refine W_seq ?_
  refine W_seq ?_
  refine W_reg ?_
  refine s_val (wn rfl) rfl rfl (py_move rfl) (s_val (wn rfl) rfl rfl (py_move rfl) (s_val (wn rfl) rfl rfl (py_len Try.underlying43 rfl) (s_val (wn rfl) rfl rfl (py_lss rfl rfl) ?_)))
  refine s_nil ?_
  refine W_ifd rfl (fun c1 => ?_) (fun c1 => ?_)
  · refine W_skip ?_
    refine W_seq ?_
    refine W_block ?_
    have st := cntB_step (xs := xs) (i := i) (by omega)
    have sl := hs i
    obtain ⟨eb1, eo1, ea1, ek1, ef1, ee1, ec1, eO1, eN1, eS1, eB1⟩ := H1.mutSl 0 rfl i (by omega)
    refine W_reg ?_
    refine s_val (wn rfl) rfl rfl (py_move rfl) (s_val (wn rfl) rfl rfl (py_move rfl) (s_val (wn rfl) rfl rfl (py_elz Try.underlying43 Try.sizeOf34 rfl rfl ee1 i (by omega) (by omega)) (s_val (wn rfl) rfl rfl (py_load Try.underlying34 rfl rfl ec1) (s_val (wn rfl) rfl rfl (py_move rfl) ?_))))
    refine s_call (wn rfl) rfl rfl (pc_call Try.func30 rfl Try_nm30 rfl) (Try_laws_markByteS eO1 eN1 (by constructor <;> omega)) (fun v1 w2 r1 => ?_)
    obtain ⟨rfl, mx1, mm1, ml1, mk1⟩ := r1
    obtain ⟨fp1, H2⟩ := eB1 _ _ mm1
    try dsimp only [List.nil_append, List.cons_append, List.set_cons_zero, List.set_cons_succ] at H2
    refine s_val (wn rfl) rfl rfl (py_assign rfl) ?_
    refine s_nil ?_
    refine W_reg ?_
    refine s_val (wn rfl) rfl rfl (py_move rfl) (s_val (wn rfl) rfl rfl (py_add rfl rfl (in64 ⟨by omega, by omega⟩)) (s_val (wn rfl) rfl rfl (py_assign rfl) ?_))
    refine s_nil ?_
    refine ⟨(i + 1, _, _), ⟨rfl, eqI (by omega), rfl, trivial⟩, ⟨H2, by omega, by rw [List.length_set]; exact hl, fun j => ?_, fun j hj => ?_⟩, by dsimp only; omega⟩
    · rw [getD_set]
      by_cases e : j = i
      · subst e; rw [if_pos ⟨rfl, by omega⟩]; omega
      · rw [if_neg (fun h => e h.1)]; exact hs j
    · rw [getD_set]
      by_cases e : j = i
      · subst e; rw [if_pos ⟨rfl, by omega⟩]; exact mk1
      · rw [if_neg (fun h => e h.1)]; exact hm j (by omega)
  · refine W_exit ?_
    refine W_seq ?_
    refine W_reg ?_
    refine s_val (wn rfl) rfl rfl (py_move rfl) (s_val (wn rfl) rfl rfl (py_assign rfl) ?_)
    refine s_nil ?_
    refine W_ret (hQ _ _ (fin1 Try.results50 rfl ?_))
    obtain rfl : i = xs.length := by omega
    exact ⟨rfl, _, H1.done, hl, hs, fun j hj => by rw [lenB_same hs]; exact hm j (by omega)⟩
theorem Try_laws_heldByteSS {w : World} {xs : List (List UInt8)} {xsA : Option Addr} {xsC : Nat} {k : Int} (xsS : Sees w [.slice xsA xs.length xsC] xs) (hk : 0 ≤ k ∧ k + cntB xs ≤ 4611686018427387904) (hm : MarkBB xs k) : Ret Try.prog 84 #[.slice xsA xs.length xsC, .int .i64 k] w fun v w' => Ext No w w' ∧ (v = .int .i64 (k + cntB xs)) := by
  have xsL := sees_len xsS
  unfold maxLen at xsL
  obtain ⟨xsF, xsO⟩ := xsS
  refine ret_Q (vs := [.slice xsA xs.length xsC, .int .i64 k]) Try.func84 rfl Try.ntmps84 rfl (fun Q hQ hN => ?_)
  have H0 := Sep.start (w := w) (F := [seen false [.slice xsA xs.length xsC] xs xsF]) (all_cons xsO (by simp))
  refine W_seq ?_
  refine W_reg ?_
  refine s_val (wn rfl) rfl rfl (py_assign rfl) ?_
  refine s_nil ?_
  refine W_seq ?_
  refine W_seq ?_
  refine W_reg ?_
  refine s_val (wn rfl) rfl rfl (py_assign rfl) ?_
  refine s_nil ?_
  refine W_block ?_
  refine W_loop (γ := Nat) (fun i => [(0, .slice xsA xs.length xsC), (1, .int .i64 (k + sumN (lenB xs) i)), (5, .int .i64 i)]) (fun i w' => Sep No w [] [seen false [.slice xsA xs.length xsC] xs xsF] w' ∧ i ≤ xs.length) (fun i => xs.length - i) 0 ⟨rfl, eqI (by simp [sumN]), rfl, trivial⟩ ⟨H0, by omega⟩ (fun i w1 H1 => ?_)
  obtain ⟨H1, hi⟩ := H1
  refine W_seq ?_
  refine W_seq ?_
  refine W_reg ?_
  refine s_val (wn rfl) rfl rfl (py_move rfl) (s_val (wn rfl) rfl rfl (py_move rfl) (s_val (wn rfl) rfl rfl (py_len Try.underlying43 rfl) (s_val (wn rfl) rfl rfl (py_lss rfl rfl) ?_)))
  refine s_nil ?_
  refine W_ifd rfl (fun c1 => ?_) (fun c1 => ?_)
  · refine W_skip ?_
    refine W_seq ?_
    refine W_block ?_
    refine W_seq ?_
    have st := cntB_step (xs := xs) (i := i) (by omega)
    have hmi := hm i (by omega)
    obtain ⟨eb1, eo1, ea1, ek1, ef1, ee1, ec1, eO1, eH1⟩ := elem_sl (H1.seen 0 rfl) i (by omega)
    have eP1 := H1.look1 0 rfl eO1 eH1
    refine W_reg ?_
    refine s_val (wn rfl) rfl rfl (py_move rfl) (s_val (wn rfl) rfl rfl (py_move rfl) (s_val (wn rfl) rfl rfl (py_elz Try.underlying43 Try.sizeOf34 rfl rfl ee1 i (by omega) (by omega)) (s_val (wn rfl) rfl rfl (py_load Try.underlying34 rfl rfl ec1) (s_val (wn rfl) rfl rfl (py_move rfl) ?_))))
    refine s_call (wn rfl) rfl rfl (pc_call Try.func110 rfl Try_nm110 rfl) (Try_laws_heldByteS (eP1.sees 1 rfl) (by constructor <;> omega) (by assumption)) (fun v1 w2 r1 => ?_)
    obtain ⟨e1, rfl⟩ := r1
    have H2 := eP1.to e1
    refine s_val (wn rfl) rfl rfl (py_assign rfl) ?_
    refine s_nil ?_
    refine W_seq ?_
    refine W_reg ?_
    refine s_val (wn rfl) rfl rfl (py_move rfl) (s_val (wn rfl) rfl rfl (py_lss rfl rfl) ?_)
    refine s_nil ?_
    refine W_ifd rfl (fun c2 => ?_) (fun c2 => ?_)
    · exact absurd c2 (by omega)
    · refine W_skip ?_
      refine W_reg ?_
      refine s_val (wn rfl) rfl rfl (py_move rfl) (s_val (wn rfl) rfl rfl (py_add rfl rfl (in64 ⟨by omega, by omega⟩)) (s_val (wn rfl) rfl rfl (py_assign rfl) ?_))
      refine s_nil ?_
      refine ⟨i + 1, ⟨rfl, eqI (by omega), rfl, trivial⟩, ⟨(H2.ftake 1), by omega⟩, by dsimp only; omega⟩
  · refine W_exit ?_
    refine W_seq ?_
    refine W_reg ?_
    refine s_val (wn rfl) rfl rfl (py_move rfl) (s_val (wn rfl) rfl rfl (py_assign rfl) ?_)
    refine s_nil ?_
    refine W_ret (hQ _ _ (fin1 Try.results84 rfl ?_))
    obtain rfl : i = xs.length := by omega
    exact ⟨H1.ext, rfl⟩
end Go.Wk
