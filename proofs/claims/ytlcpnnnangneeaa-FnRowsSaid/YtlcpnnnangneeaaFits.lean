/-
  The functions walked, each once. (Printed by a program of mine.)
-/
import Derived.Test.YtlcpnnnangneeaaEnc
import Derived.Test.YtlcpnnnangneeaaWkV
namespace Go.Wk
open Go.Proofs Rp
set_option maxRecDepth 10000
theorem Try_impl_size_byte {w : World} {xs : List (List UInt8)} {xsA : Option Addr} {xsC : Nat} (xsS : Sees w [.slice xsA xs.length xsC] xs) : Ret Try.prog 150 #[.slice xsA xs.length xsC] w fun v w' => Ext No w w' ∧ (v = .int .i64 xs.length) := by
  have xsL := sees_len xsS
  unfold maxLen at xsL
  obtain ⟨xsF, xsO⟩ := xsS
  refine ret_Q (vs := [.slice xsA xs.length xsC]) Try.func150 rfl Try.ntmps150 rfl (fun Q hQ hN => ?_)
  have H0 := Sep.start (w := w) (F := [seen false [.slice xsA xs.length xsC] xs xsF]) (all_cons xsO (by simp))
  refine W_seq ?_
  refine W_reg ?_
  refine s_val (wn rfl) rfl rfl (py_assign rfl) ?_
  refine s_nil ?_
  refine W_seq ?_
  refine W_reg ?_
  refine s_val (wn rfl) rfl rfl (py_move rfl) (s_val (wn rfl) rfl rfl (py_len Try.underlying43 rfl) (s_val (wn rfl) rfl rfl (py_assign rfl) ?_))
  refine s_nil ?_
  refine W_ret (hQ _ _ (fin1 Try.results150 rfl ?_))
  exact ⟨H0.ext, rfl⟩
theorem Try_impl_rowCode_whole_1 {w : World} {xs : List UInt8} {xsA : Option Addr} {xsC : Nat} (xsS : Sees w [.slice xsA xs.length xsC] xs) : Ret Try.prog 152 #[.slice xsA xs.length xsC] w fun v w' => Ext No w w' ∧ (v = .bool (not4 xs)) := by
  have xsL := sees_len xsS
  unfold maxLen at xsL
  obtain ⟨xsF, xsO⟩ := xsS
  refine ret_Q (vs := [.slice xsA xs.length xsC]) Try.func152 rfl Try.ntmps152 rfl (fun Q hQ hN => ?_)
  have H0 := Sep.start (w := w) (F := [seen false [.slice xsA xs.length xsC] xs xsF]) (all_cons xsO (by simp))
  refine W_seq ?_
  refine W_reg ?_
  refine s_val (wn rfl) rfl rfl (py_assign rfl) ?_
  refine s_nil ?_
  refine W_seq ?_
  refine W_reg ?_
  refine s_val (wn rfl) rfl rfl (py_move rfl) (s_val (wn rfl) rfl rfl (py_len Try.underlying34 rfl) (s_val (wn rfl) rfl rfl (py_neq rfl rfl) (s_val (wn rfl) rfl rfl (py_assign rfl) ?_)))
  refine s_nil ?_
  refine W_ret (hQ _ _ (fin1 Try.results152 rfl ?_))
  exact ⟨H0.ext, rfl⟩
theorem Try_IndexFunc_not4 {w : World} {xs : List (List UInt8)} {xsA : Option Addr} {xsC : Nat} (xsS : Sees w [.slice xsA xs.length xsC] xs) : Ret Try.prog 179 #[.slice xsA xs.length xsC, .func (.func 152) #[] #[]] w fun v w' => Ext No w w' ∧ (v = .int .i64 (firstOf not4 xs)) := by
  have xsL := sees_len xsS
  unfold maxLen at xsL
  obtain ⟨xsF, xsO⟩ := xsS
  refine ret_Q (vs := [.slice xsA xs.length xsC, .func (.func 152) #[] #[]]) Try.func179 rfl Try.ntmps179 rfl (fun Q hQ hN => ?_)
  have H0 := Sep.start (w := w) (F := [seen false [.slice xsA xs.length xsC] xs xsF]) (all_cons xsO (by simp))
  refine W_seq ?_
  refine W_reg ?_
  refine s_val (wn rfl) rfl rfl (py_assign rfl) ?_
  refine s_nil ?_
  refine W_seq ?_
  refine W_seq ?_
  refine W_reg ?_
  refine s_val (wn rfl) rfl rfl (py_move rfl) (s_val (wn rfl) rfl rfl (py_len Try.underlying43 rfl) (s_val (wn rfl) rfl rfl (py_move rfl) ?_))
  refine s_nil ?_
  refine W_block ?_
  refine W_loop (γ := Nat) (fun k => [(0, .slice xsA xs.length xsC), (1, .func (.func 152) #[] #[]), (7, .int .i64 xs.length), (8, .int .i64 k)]) (fun k w' => Sep No w [] [seen false [.slice xsA xs.length xsC] xs xsF] w' ∧ k ≤ xs.length ∧ (∀ i, i < k → not4 (xs.getD i []) = false)) (fun k => xs.length - k) 0 ⟨rfl, rfl, rfl, rfl, trivial⟩ ⟨H0, by omega, fun i hi => by omega⟩ (fun k w1 H1 => ?_)
  obtain ⟨H1, hk, he⟩ := H1
  refine W_seq ?_
  refine W_reg ?_
  refine s_val (wn rfl) rfl rfl (py_lss rfl rfl) ?_
  refine s_nil ?_
  refine W_seq ?_
  refine W_ifd rfl (fun c1 => ?_) (fun c1 => ?_)
  · refine W_skip ?_
    refine W_seq ?_
    refine W_block ?_
    refine W_seq ?_
    refine W_reg ?_
    refine s_val (wn rfl) rfl rfl (py_move rfl) (s_val (wn rfl) rfl rfl (py_assign rfl) ?_)
    refine s_nil ?_
    refine W_seq ?_
    obtain ⟨eb1, eo1, ea1, ek1, ef1, ee1, ec1, eO1, eH1⟩ := elem_sl (H1.seen 0 rfl) k (by omega)
    have eP1 := H1.look1 0 rfl eO1 eH1
    refine W_reg ?_
    refine s_val (wn rfl) rfl rfl (py_move rfl) (s_val (wn rfl) rfl rfl (py_move rfl) (s_val (wn rfl) rfl rfl (py_move rfl) (s_val (wn rfl) rfl rfl (py_elz Try.underlying43 Try.sizeOf34 rfl rfl ee1 k (by omega) (by omega)) (s_val (wn rfl) rfl rfl (py_load Try.underlying34 rfl rfl ec1) ?_))))
    refine s_call (wn rfl) rfl rfl (pc_callv0 rfl Try.func152 rfl Try_nm152 rfl) (Try_impl_rowCode_whole_1 (eP1.sees 1 rfl)) (fun v1 w2 r1 => ?_)
    obtain ⟨e1, rfl⟩ := r1
    have H2 := eP1.to e1
    refine s_nil ?_
    refine W_if rfl (fun c2 => ?_) (fun c2 => ?_)
    · refine W_seq ?_
      refine W_reg ?_
      refine s_val (wn rfl) rfl rfl (py_move rfl) (s_val (wn rfl) rfl rfl (py_assign rfl) ?_)
      refine s_nil ?_
      refine W_ret (hQ _ _ (fin1 Try.results179 rfl ?_))
      exact ⟨H2.ext, congrArg (Value.int .i64) (firstOf_at (d := []) (by omega) c2 he).symm⟩
    · refine W_skip ?_
      refine W_reg ?_
      refine s_val (wn rfl) rfl rfl (py_add rfl rfl (in64 ⟨by omega, by omega⟩)) (s_val (wn rfl) rfl rfl (py_move rfl) ?_)
      refine s_nil ?_
      refine ⟨k + 1, ⟨rfl, rfl, rfl, rfl, trivial⟩, ⟨(H2.ftake 1), by omega, fun i hi => ?_⟩, by dsimp only; omega⟩
      by_cases e : i = k
      · subst e; exact c2
      · exact he i (by omega)
  · refine W_exit ?_
    refine W_seq ?_
    refine W_reg ?_
    refine s_val (wn rfl) rfl rfl (py_assign rfl) ?_
    refine s_nil ?_
    refine W_ret (hQ _ _ (fin1 Try.results179 rfl ?_))
    exact ⟨H1.ext, congrArg (Value.int .i64) (firstOf_no (d := []) (fun i hi => he i (by omega))).symm⟩
theorem Try_ContainsFunc_not4 {w : World} {xs : List (List UInt8)} {xsA : Option Addr} {xsC : Nat} (xsS : Sees w [.slice xsA xs.length xsC] xs) : Ret Try.prog 151 #[.slice xsA xs.length xsC, .func (.func 152) #[] #[]] w fun v w' => Ext No w w' ∧ (v = .bool (decide (0 ≤ firstOf not4 xs))) := by
  have xsL := sees_len xsS
  unfold maxLen at xsL
  obtain ⟨xsF, xsO⟩ := xsS
  refine ret_Q (vs := [.slice xsA xs.length xsC, .func (.func 152) #[] #[]]) Try.func151 rfl Try.ntmps151 rfl (fun Q hQ hN => ?_)
  have H0 := Sep.start (w := w) (F := [seen false [.slice xsA xs.length xsC] xs xsF]) (all_cons xsO (by simp))
  refine W_seq ?_
  refine W_reg ?_
  refine s_val (wn rfl) rfl rfl (py_assign rfl) ?_
  refine s_nil ?_
  refine W_seq ?_
  refine W_reg ?_
  refine s_val (wn rfl) rfl rfl (py_move rfl) (s_val (wn rfl) rfl rfl (py_move rfl) ?_)
  refine s_call (wn rfl) rfl rfl (pc_call Try.func179 rfl Try_nm179 rfl) (Try_IndexFunc_not4 (H0.sees 0 rfl)) (fun v1 w1 r1 => ?_)
  obtain ⟨e1, rfl⟩ := r1
  have H1 := H0.to e1
  refine s_val (wn rfl) rfl rfl (py_geq rfl rfl) (s_val (wn rfl) rfl rfl (py_assign rfl) ?_)
  refine s_nil ?_
  refine W_ret (hQ _ _ (fin1 Try.results151 rfl ?_))
  exact ⟨H1.ext, rfl⟩
theorem Try_bytes_Equal {w : World} {xs : List UInt8} {xsA : Option Addr} {xsC : Nat} {ys : List UInt8} {ysA : Option Addr} {ysC : Nat} (xsS : Sees w [.slice xsA xs.length xsC] xs) (ysS : Sees w [.slice ysA ys.length ysC] ys) : Ret Try.prog 101 #[.slice xsA xs.length xsC, .slice ysA ys.length ysC] w fun v w' => Ext No w w' ∧ (v = .bool (decide (xs = ys))) := by
  have xsL := sees_len xsS
  unfold maxLen at xsL
  obtain ⟨xsF, xsO⟩ := xsS
  have ysL := sees_len ysS
  unfold maxLen at ysL
  obtain ⟨ysF, ysO⟩ := ysS
  refine ret_Q (vs := [.slice xsA xs.length xsC, .slice ysA ys.length ysC]) Try.func101 rfl Try.ntmps101 rfl (fun Q hQ hN => ?_)
  have H0 := Sep.start (w := w) (F := [seen false [.slice xsA xs.length xsC] xs xsF, seen false [.slice ysA ys.length ysC] ys ysF]) (all_cons xsO (all_cons ysO (by simp)))
  refine W_seq ?_
  refine W_reg ?_
  refine s_val (wn rfl) rfl rfl (py_assign rfl) ?_
  refine s_nil ?_
  refine W_seq ?_
  refine W_reg ?_
  refine s_val (wn rfl) rfl rfl (py_move rfl) (s_val (wn rfl) rfl rfl (py_b2s Try.underlying34 Try.underlying5 Try.underlying9 rfl (H0.seen 0 rfl)) (s_val (wn rfl) rfl rfl (py_move rfl) (s_val (wn rfl) rfl rfl (py_b2s Try.underlying34 Try.underlying5 Try.underlying9 rfl (H0.seen 1 rfl)) (s_val (wn rfl) rfl rfl (py_seql rfl rfl) (s_val (wn rfl) rfl rfl (py_assign rfl) ?_)))))
  refine s_nil ?_
  refine W_ret (hQ _ _ (fin1 Try.results101 rfl ?_))
  exact ⟨H0.ext, by simp [str_beq, strB_inj]⟩
theorem Try_slices_EqualFunc_byte_byte_byte_byte {w : World} {xs ys : List (List UInt8)} {xsA ysA : Option Addr} {xsC ysC : Nat} (xsS : Sees w [.slice xsA xs.length xsC] xs) (ysS : Sees w [.slice ysA ys.length ysC] ys) : Ret Try.prog 99 #[.slice xsA xs.length xsC, .slice ysA ys.length ysC, .func (.func 101) #[] #[]] w fun v w' => Ext No w w' ∧ (v = .bool (decide (xs = ys))) := by
  have xsL := sees_len xsS
  unfold maxLen at xsL
  obtain ⟨xsF, xsO⟩ := xsS
  have ysL := sees_len ysS
  unfold maxLen at ysL
  obtain ⟨ysF, ysO⟩ := ysS
  refine ret_Q (vs := [.slice xsA xs.length xsC, .slice ysA ys.length ysC, .func (.func 101) #[] #[]]) Try.func99 rfl Try.ntmps99 rfl (fun Q hQ hN => ?_)
  have H0 := Sep.start (w := w) (F := [seen false [.slice xsA xs.length xsC] xs xsF, seen false [.slice ysA ys.length ysC] ys ysF]) (all_cons xsO (all_cons ysO (by simp)))
  refine W_seq ?_
  refine W_reg ?_
  refine s_val (wn rfl) rfl rfl (py_assign rfl) ?_
  refine s_nil ?_
  refine W_seq ?_
  refine W_seq ?_
  refine W_reg ?_
  refine s_val (wn rfl) rfl rfl (py_move rfl) (s_val (wn rfl) rfl rfl (py_len Try.underlying43 rfl) (s_val (wn rfl) rfl rfl (py_move rfl) (s_val (wn rfl) rfl rfl (py_len Try.underlying43 rfl) (s_val (wn rfl) rfl rfl (py_neq rfl rfl) ?_))))
  refine s_nil ?_
  refine W_ifd rfl (fun c1 => ?_) (fun c1 => ?_)
  · refine W_seq ?_
    refine W_reg ?_
    refine s_val (wn rfl) rfl rfl (py_assign rfl) ?_
    refine s_nil ?_
    refine W_ret (hQ _ _ (fin1 Try.results99 rfl ?_))
    refine ⟨H0.ext, ?_⟩
    rw [decide_eq_false (fun e => by subst e; exact c1 rfl)]
  · refine W_skip ?_
    refine W_seq ?_
    refine W_seq ?_
    refine W_reg ?_
    refine s_val (wn rfl) rfl rfl (py_move rfl) (s_val (wn rfl) rfl rfl (py_len Try.underlying43 rfl) (s_val (wn rfl) rfl rfl (py_move rfl) ?_))
    refine s_nil ?_
    refine W_block ?_
    refine W_loop (γ := Nat) (fun k => [(1, .slice ysA ys.length ysC), (2, .func (.func 101) #[] #[]), (15, .slice xsA xs.length xsC), (16, .int .i64 xs.length), (17, .int .i64 k)]) (fun k w' => Sep No w [] [seen false [.slice xsA xs.length xsC] xs xsF, seen false [.slice ysA ys.length ysC] ys ysF] w' ∧ k ≤ xs.length ∧ (∀ i, i < k → xs.getD i [] = ys.getD i [])) (fun k => xs.length - k) 0 ⟨rfl, rfl, rfl, rfl, rfl, trivial⟩ ⟨H0, by omega, fun i hi => by omega⟩ (fun k w1 H1 => ?_)
    obtain ⟨H1, hk, he⟩ := H1
    refine W_seq ?_
    refine W_reg ?_
    refine s_val (wn rfl) rfl rfl (py_lss rfl rfl) ?_
    refine s_nil ?_
    refine W_seq ?_
    refine W_ifd rfl (fun c2 => ?_) (fun c2 => ?_)
    · refine W_skip ?_
      refine W_seq ?_
      refine W_block ?_
      refine W_seq ?_
      obtain ⟨eb1, eo1, ea1, ek1, ef1, ee1, ec1, eO1, eH1⟩ := elem_sl (H1.seen 0 rfl) k (by omega)
      have eP1 := H1.look1 0 rfl eO1 eH1
      refine W_reg ?_
      refine s_val (wn rfl) rfl rfl (py_move rfl) (s_val (wn rfl) rfl rfl (py_elz Try.underlying43 Try.sizeOf34 rfl rfl ee1 k (by omega) (by omega)) (s_val (wn rfl) rfl rfl (py_load Try.underlying34 rfl rfl ec1) (s_val (wn rfl) rfl rfl (py_assign rfl) (s_val (wn rfl) rfl rfl (py_assign rfl) ?_))))
      refine s_nil ?_
      refine W_seq ?_
      obtain ⟨eb2, eo2, ea2, ek2, ef2, ee2, ec2, eO2, eH2⟩ := elem_sl (eP1.seen 1 rfl) k (by omega)
      have eP2 := eP1.look1 1 rfl eO2 eH2
      refine W_reg ?_
      refine s_val (wn rfl) rfl rfl (py_move rfl) (s_val (wn rfl) rfl rfl (py_move rfl) (s_val (wn rfl) rfl rfl (py_elz Try.underlying43 Try.sizeOf34 rfl rfl ee2 k (by omega) (by omega)) (s_val (wn rfl) rfl rfl (py_load Try.underlying34 rfl rfl ec2) (s_val (wn rfl) rfl rfl (py_assign rfl) ?_))))
      refine s_nil ?_
      refine W_seq ?_
      refine W_reg ?_
      refine s_val (wn rfl) rfl rfl (py_move rfl) (s_val (wn rfl) rfl rfl (py_move rfl) (s_val (wn rfl) rfl rfl (py_move rfl) ?_))
      refine s_call (wn rfl) rfl rfl (pc_callv0 rfl Try.func101 rfl Try_nm101 rfl) (Try_bytes_Equal (eP2.sees 2 rfl) (eP2.sees 3 rfl)) (fun v1 w2 r1 => ?_)
      obtain ⟨e1, rfl⟩ := r1
      have H2 := eP2.to e1
      refine s_val (wn rfl) rfl rfl (py_not rfl) ?_
      refine s_nil ?_
      refine W_if rfl (fun c3 => ?_) (fun c3 => ?_)
      · refine W_seq ?_
        refine W_reg ?_
        refine s_val (wn rfl) rfl rfl (py_assign rfl) ?_
        refine s_nil ?_
        refine W_ret (hQ _ _ (fin1 Try.results99 rfl ?_))
        refine ⟨H2.ext, ?_⟩
        rw [decide_eq_false (fun e => by subst e; simp at c3)]
      · refine W_skip ?_
        refine W_reg ?_
        refine s_val (wn rfl) rfl rfl (py_add rfl rfl (in64 ⟨by omega, by omega⟩)) (s_val (wn rfl) rfl rfl (py_move rfl) ?_)
        refine s_nil ?_
        refine ⟨k + 1, ⟨rfl, rfl, rfl, rfl, rfl, trivial⟩, ⟨(H2.ftake 2), by omega, fun i hi => ?_⟩, by dsimp only; omega⟩
        by_cases e : i = k
        · subst e; exact (by simpa using c3)
        · exact he i (by omega)
    · refine W_exit ?_
      refine W_seq ?_
      refine W_reg ?_
      refine s_val (wn rfl) rfl rfl (py_assign rfl) ?_
      refine s_nil ?_
      refine W_ret (hQ _ _ (fin1 Try.results99 rfl ?_))
      refine ⟨H1.ext, ?_⟩
      rw [decide_eq_true (getD_ext (d := []) (by omega) fun i hi => he i (by omega))]
theorem Try_spec_l2Same {w : World} {xs : List UInt8} {xsA : Option Addr} {xsC : Nat} {ys : List UInt8} {ysA : Option Addr} {ysC : Nat} (xsS : Sees w [.slice xsA xs.length xsC] xs) (ysS : Sees w [.slice ysA ys.length ysC] ys) : Ret Try.prog 98 #[.slice xsA xs.length xsC, .slice ysA ys.length ysC] w fun v w' => Ext No w w' ∧ (v = .bool (decide (xs = ys))) := by
  have xsL := sees_len xsS
  unfold maxLen at xsL
  obtain ⟨xsF, xsO⟩ := xsS
  have ysL := sees_len ysS
  unfold maxLen at ysL
  obtain ⟨ysF, ysO⟩ := ysS
  refine ret_Q (vs := [.slice xsA xs.length xsC, .slice ysA ys.length ysC]) Try.func98 rfl Try.ntmps98 rfl (fun Q hQ hN => ?_)
  have H0 := Sep.start (w := w) (F := [seen false [.slice xsA xs.length xsC] xs xsF, seen false [.slice ysA ys.length ysC] ys ysF]) (all_cons xsO (all_cons ysO (by simp)))
  refine W_seq ?_
  refine W_reg ?_
  refine s_val (wn rfl) rfl rfl (py_assign rfl) ?_
  refine s_nil ?_
  refine W_seq ?_
  refine W_seq ?_
  refine W_reg ?_
  refine s_val (wn rfl) rfl rfl (py_move rfl) (s_val (wn rfl) rfl rfl (py_len Try.underlying34 rfl) (s_val (wn rfl) rfl rfl (py_move rfl) (s_val (wn rfl) rfl rfl (py_len Try.underlying34 rfl) (s_val (wn rfl) rfl rfl (py_neq rfl rfl) ?_))))
  refine s_nil ?_
  refine W_ifd rfl (fun c1 => ?_) (fun c1 => ?_)
  · refine W_seq ?_
    refine W_reg ?_
    refine s_val (wn rfl) rfl rfl (py_assign rfl) ?_
    refine s_nil ?_
    refine W_ret (hQ _ _ (fin1 Try.results98 rfl ?_))
    refine ⟨H0.ext, ?_⟩
    rw [decide_eq_false (fun e => by subst e; exact c1 rfl)]
  · refine W_skip ?_
    refine W_seq ?_
    refine W_seq ?_
    refine W_reg ?_
    refine s_val (wn rfl) rfl rfl (py_assign rfl) ?_
    refine s_nil ?_
    refine W_block ?_
    refine W_loop (γ := Nat) (fun k => [(0, .slice xsA xs.length xsC), (1, .slice ysA ys.length ysC), (5, .int .i64 k)]) (fun k w' => Sep No w [] [seen false [.slice xsA xs.length xsC] xs xsF, seen false [.slice ysA ys.length ysC] ys ysF] w' ∧ k ≤ xs.length ∧ (∀ i, i < k → xs.getD i 0 = ys.getD i 0)) (fun k => xs.length - k) 0 ⟨rfl, rfl, rfl, trivial⟩ ⟨H0, by omega, fun i hi => by omega⟩ (fun k w1 H1 => ?_)
    obtain ⟨H1, hk, he⟩ := H1
    refine W_seq ?_
    refine W_seq ?_
    refine W_reg ?_
    refine s_val (wn rfl) rfl rfl (py_move rfl) (s_val (wn rfl) rfl rfl (py_move rfl) (s_val (wn rfl) rfl rfl (py_len Try.underlying34 rfl) (s_val (wn rfl) rfl rfl (py_lss rfl rfl) ?_)))
    refine s_nil ?_
    refine W_ifd rfl (fun c2 => ?_) (fun c2 => ?_)
    · refine W_skip ?_
      refine W_seq ?_
      refine W_block ?_
      refine W_seq ?_
      obtain ⟨eb1, eo1, ee1, ec1⟩ := elem_u8 (H1.seen 0 rfl) k (by omega)
      obtain ⟨eb2, eo2, ee2, ec2⟩ := elem_u8 (H1.seen 1 rfl) k (by omega)
      refine W_drw (S := Ext No _) [(0, true), (1, true), (2, true), (3, true), (4, true), (5, true), (6, true), (7, true), (8, false)] (by kernel_rfl) (by kernel_rfl) (by kernel_rfl) rfl (fun _ => Ext.refl.drawn _) (fun q1 => ?_)
      have H2 := H1.drawn q1
      refine d_val rfl (wn rfl) rfl rfl (fun zw hx => py_move rfl) (d_val rfl (wn rfl) rfl rfl (fun zw hx => py_move rfl) (d_val rfl (wn rfl) rfl rfl (fun zw hx => py_elz Try.underlying34 Try.sizeOf5 rfl rfl ee1 k (by omega) (by omega)) (d_val rfl (wn rfl) rfl rfl (fun zw hx => py_load Try.underlying5 rfl rfl (hx.cell ec1)) (d_val rfl (wn rfl) rfl rfl (fun zw hx => py_move rfl) (d_val rfl (wn rfl) rfl rfl (fun zw hx => py_move rfl) (d_val rfl (wn rfl) rfl rfl (fun zw hx => py_elz Try.underlying34 Try.sizeOf5 rfl rfl ee2 k (by omega) (by omega)) (d_val rfl (wn rfl) rfl rfl (fun zw hx => py_load Try.underlying5 rfl rfl (hx.cell ec2)) (d_end rfl (wn rfl) rfl rfl (py_neq rfl rfl) ?_))))))))
      refine d_nil ?_
      refine W_ifd rfl (fun c3 => ?_) (fun c3 => ?_)
      · refine W_seq ?_
        refine W_reg ?_
        refine s_val (wn rfl) rfl rfl (py_assign rfl) ?_
        refine s_nil ?_
        refine W_ret (hQ _ _ (fin1 Try.results98 rfl ?_))
        refine ⟨H2.ext, ?_⟩
        rw [decide_eq_false (fun e => by subst e; exact c3 rfl)]
      · refine W_skip ?_
        refine W_reg ?_
        refine s_val (wn rfl) rfl rfl (py_move rfl) (s_val (wn rfl) rfl rfl (py_add rfl rfl (in64 ⟨by omega, by omega⟩)) (s_val (wn rfl) rfl rfl (py_assign rfl) ?_))
        refine s_nil ?_
        have c4 : xs.getD k 0 = ys.getD k 0 := by apply u8_inj.1; omega
        refine ⟨k + 1, ⟨rfl, rfl, rfl, trivial⟩, ⟨H2, by omega, fun i hi => ?_⟩, by dsimp only; omega⟩
        by_cases e : i = k
        · subst e; exact c4
        · exact he i (by omega)
    · refine W_exit ?_
      refine W_seq ?_
      refine W_reg ?_
      refine s_val (wn rfl) rfl rfl (py_assign rfl) ?_
      refine s_nil ?_
      refine W_ret (hQ _ _ (fin1 Try.results98 rfl ?_))
      refine ⟨H1.ext, ?_⟩
      rw [decide_eq_true (getD_ext (d := 0) (by omega) fun i hi => he i (by omega))]
theorem Try_spec_l2Whole {w : World} {xs : List (List UInt8)} {xsA : Option Addr} {xsC : Nat} {m : Int} (xsS : Sees w [.slice xsA xs.length xsC] xs) : Ret Try.prog 96 #[.slice xsA xs.length xsC, .int .i64 m] w fun v w' => Ext No w w' ∧ (v = .bool (wholeL m xs)) := by
  have xsL := sees_len xsS
  unfold maxLen at xsL
  obtain ⟨xsF, xsO⟩ := xsS
  refine ret_Q (vs := [.slice xsA xs.length xsC, .int .i64 m]) Try.func96 rfl Try.ntmps96 rfl (fun Q hQ hN => ?_)
  have H0 := Sep.start (w := w) (F := [seen false [.slice xsA xs.length xsC] xs xsF]) (all_cons xsO (by simp))
  refine W_seq ?_
  refine W_reg ?_
  refine s_val (wn rfl) rfl rfl (py_assign rfl) ?_
  refine s_nil ?_
  refine W_seq ?_
  refine W_seq ?_
  refine W_reg ?_
  refine s_val (wn rfl) rfl rfl (py_assign rfl) ?_
  refine s_nil ?_
  refine W_block ?_
  refine W_loop (γ := Nat) (fun k => [(0, .slice xsA xs.length xsC), (1, .int .i64 m), (5, .int .i64 k)]) (fun k w' => Sep No w [] [seen false [.slice xsA xs.length xsC] xs xsF] w' ∧ k ≤ xs.length ∧ (∀ i, i < k → (xs.getD i []).length = 4)) (fun k => xs.length - k) 0 ⟨rfl, rfl, rfl, trivial⟩ ⟨H0, by omega, fun i hi => by omega⟩ (fun k w1 H1 => ?_)
  obtain ⟨H1, hk, he⟩ := H1
  refine W_seq ?_
  refine W_seq ?_
  refine W_reg ?_
  refine s_val (wn rfl) rfl rfl (py_move rfl) (s_val (wn rfl) rfl rfl (py_move rfl) (s_val (wn rfl) rfl rfl (py_len Try.underlying43 rfl) (s_val (wn rfl) rfl rfl (py_lss rfl rfl) ?_)))
  refine s_nil ?_
  refine W_ifd rfl (fun c1 => ?_) (fun c1 => ?_)
  · refine W_skip ?_
    refine W_seq ?_
    refine W_block ?_
    refine W_seq ?_
    obtain ⟨eb1, eo1, ea1, ek1, ef1, ee1, ec1, eO1, eH1⟩ := elem_sl (H1.seen 0 rfl) k (by omega)
    have eP1 := H1.look1 0 rfl eO1 eH1
    refine W_reg ?_
    refine s_val (wn rfl) rfl rfl (py_move rfl) (s_val (wn rfl) rfl rfl (py_move rfl) (s_val (wn rfl) rfl rfl (py_elz Try.underlying43 Try.sizeOf34 rfl rfl ee1 k (by omega) (by omega)) (s_val (wn rfl) rfl rfl (py_load Try.underlying34 rfl rfl ec1) (s_val (wn rfl) rfl rfl (py_len Try.underlying34 rfl) (s_val (wn rfl) rfl rfl (py_neq rfl rfl) ?_)))))
    refine s_nil ?_
    refine W_ifd rfl (fun c2 => ?_) (fun c2 => ?_)
    · refine W_seq ?_
      refine W_reg ?_
      refine s_val (wn rfl) rfl rfl (py_assign rfl) ?_
      refine s_nil ?_
      refine W_ret (hQ _ _ (fin1 Try.results96 rfl ?_))
      exact ⟨eP1.ext, by rw [wholeL_bad (k := k) (by omega) (by omega)]⟩
    · refine W_skip ?_
      refine W_reg ?_
      refine s_val (wn rfl) rfl rfl (py_move rfl) (s_val (wn rfl) rfl rfl (py_add rfl rfl (in64 ⟨by omega, by omega⟩)) (s_val (wn rfl) rfl rfl (py_assign rfl) ?_))
      refine s_nil ?_
      refine ⟨k + 1, ⟨rfl, rfl, rfl, trivial⟩, ⟨(eP1.ftake 1), by omega, fun i hi => ?_⟩, by dsimp only; omega⟩
      by_cases e : i = k
      · subst e; exact (by omega)
      · exact he i (by omega)
  · refine W_exit ?_
    refine W_seq ?_
    refine W_reg ?_
    refine s_val (wn rfl) rfl rfl (py_move rfl) (s_val (wn rfl) rfl rfl (py_len Try.underlying43 rfl) (s_val (wn rfl) rfl rfl (py_move rfl) (s_val (wn rfl) rfl rfl (py_eql rfl rfl) (s_val (wn rfl) rfl rfl (py_assign rfl) ?_))))
    refine s_nil ?_
    refine W_ret (hQ _ _ (fin1 Try.results96 rfl ?_))
    exact ⟨H1.ext, by rw [wholeL_all (fun i hi => he i (by omega))]⟩
theorem Try_impl_rowCode_whole {w : World} {n s : Int} {xs : List (List UInt8)} {xsA : Option Addr} {xsC : Nat} (hn : 0 ≤ n ∧ n ≤ 1000 ∧ 0 ≤ s ∧ s ≤ 1000) (xsS : Sees w [.slice xsA xs.length xsC] xs) : Ret Try.prog 93 #[.agg #[.int .i64 n, .int .i64 s], .slice xsA xs.length xsC] w fun v w' => Ext No w w' ∧ (v = .bool (wholeL (n + s) xs)) := by
  have xsL := sees_len xsS
  unfold maxLen at xsL
  obtain ⟨xsF, xsO⟩ := xsS
  refine ret_Q (vs := [.agg #[.int .i64 n, .int .i64 s], .slice xsA xs.length xsC]) Try.func93 rfl Try.ntmps93 rfl (fun Q hQ hN => ?_)
  have H0 := Sep.start (w := w) (F := [seen false [.slice xsA xs.length xsC] xs xsF]) (all_cons xsO (by simp))
  refine W_seq ?_
  refine W_reg ?_
  refine s_box (wn rfl) rfl rfl H0 (fun b1 w1 e1 g1 H1 => ?_)
  refine s_val (wn rfl) rfl rfl (py_assign rfl) ?_
  refine s_nil ?_
  refine W_seq ?_
  refine W_drw (S := Ext No _) [(0, true), (2, true), (1, false), (3, false), (4, true), (5, true), (6, true), (7, false), (8, true), (9, true), (10, false)] (by kernel_rfl) (by kernel_rfl) (by kernel_rfl) rfl (fun _ => Ext.refl.drawn _) (fun q1 => ?_)
  have H2 := H1.drawn q1
  refine d_val rfl (wn rfl) rfl rfl (fun zw hx => py_move rfl) (d_val rfl (wn rfl) rfl rfl (fun zw hx => py_loadS Try.underlying105 rfl Try.sizeOf105 rfl rfl (At.whole (hx.heap (H2.box 0 rfl)))) ?_)
  refine d_call rfl (wn rfl) rfl rfl (pc_call Try.func150 rfl Try_nm150 rfl) (Try_impl_size_byte (H2.sees 0 rfl)) (fun hS _ _ r _ => hS.trans r.1.no) (fun v1 w2 r1 => ?_)
  obtain ⟨e2, rfl⟩ := r1
  have H3 := H2.to e2
  refine d_call rfl (wn rfl) rfl rfl (pc_call Try.func107 rfl Try_nm107 rfl) (Try_impl_rowCode_blocks (by omega)) (fun hS _ _ r _ => hS.trans r.1.no) (fun v2 w3 r2 => ?_)
  obtain ⟨e3, rfl⟩ := r2
  have H4 := H3.to e3
  refine d_val rfl (wn rfl) rfl rfl (fun zw hx => py_eql rfl rfl) (d_val rfl (wn rfl) rfl rfl (fun zw hx => py_move rfl) ?_)
  refine d_case (t := 10) rfl (fun hg1 => ?_) (fun hg1 => ?_)
  · try simp only [decide_eq_true_eq, decide_eq_false_iff_not] at hg1
    refine d_val rfl (wg rfl rfl rfl) rfl rfl (fun zw hx => py_move rfl) ?_
    refine d_call rfl (wg rfl rfl rfl) rfl rfl (pc_call Try.func151 rfl Try_nm151 rfl) (Try_ContainsFunc_not4 (H4.sees 0 rfl)) (fun hS _ _ r _ => hS.trans r.1.no) (fun v3 w4 r3 => ?_)
    obtain ⟨e4, rfl⟩ := r3
    have H5 := H4.to e4
    refine d_val rfl (wg rfl rfl rfl) rfl rfl (fun zw hx => py_notd rfl) (d_val rfl (wn rfl) rfl rfl (fun zw hx => py_pickT rfl rfl) (d_end rfl (wn rfl) rfl rfl (py_assign rfl) ?_))
    refine d_nil ?_
    refine W_ret (hQ _ _ (fin1 Try.results93 rfl ?_))
    exact ⟨H5.ext, congrArg Value.bool (by rw [wholeL_eq, decide_eq_true hg1, Bool.true_and]; exact decide_not)⟩
  · try simp only [decide_eq_true_eq, decide_eq_false_iff_not] at hg1
    refine d_skip rfl (wog (b := false) rfl rfl rfl) rfl rfl (d_skipA rfl (wog (b := false) rfl rfl rfl) rfl rfl (d_skip rfl (wog (b := false) rfl rfl rfl) rfl rfl (d_val rfl (wn rfl) rfl rfl (fun zw hx => py_pickF rfl rfl) (d_end rfl (wn rfl) rfl rfl (py_assign rfl) ?_))))
    refine d_nil ?_
    refine W_ret (hQ _ _ (fin1 Try.results93 rfl ?_))
    exact ⟨H4.ext, congrArg Value.bool (by rw [wholeL_eq, decide_eq_false hg1, Bool.false_and])⟩
theorem Try_slices_Grow_byte_byte {w : World} {n : Nat} (hn : n ≤ 1000000000) : Ret Try.prog 155 #[.slice none 0 0, .int .i64 n] w fun v w' => Ext No w w' ∧ (Res w w' [v] ([] : List UInt8)) := by
  refine ret_Q (vs := [.slice none 0 0, .int .i64 n]) Try.func155 rfl Try.ntmps155 rfl (fun Q hQ hN => ?_)
  have H0 := Sep.start (w := w) (F := []) (by simp)
  refine W_seq ?_
  refine W_reg ?_
  refine s_val (wn rfl) rfl rfl (py_assign rfl) ?_
  refine s_nil ?_
  refine W_seq ?_
  refine W_seq ?_
  refine W_reg ?_
  refine s_val (wn rfl) rfl rfl (py_move rfl) (s_val (wn rfl) rfl rfl (py_lss rfl rfl) ?_)
  refine s_nil ?_
  refine W_ifd rfl (fun c1 => ?_) (fun c1 => ?_)
  · exact absurd c1 (by omega)
  · refine W_skip ?_
    refine W_seq ?_
    refine W_seq ?_
    refine W_reg ?_
    refine s_val (wn rfl) rfl rfl (py_move rfl) (s_val (wn rfl) rfl rfl (py_move rfl) (s_val (wn rfl) rfl rfl (py_cap Try.underlying34 rfl) (s_val (wn rfl) rfl rfl (py_move rfl) (s_val (wn rfl) rfl rfl (py_len Try.underlying34 rfl) (s_val (wn rfl) rfl rfl (py_sub rfl rfl (in64 ⟨by omega, by omega⟩)) (s_val (wn rfl) rfl rfl (py_sub rfl rfl (in64 ⟨by omega, by omega⟩)) (s_val (wn rfl) rfl rfl (Py.to (v' := .int .i64 n) (py_assign rfl) (congrArg (Value.int .i64) (by omega))) ?_)))))))
    refine s_nil ?_
    refine W_seq ?_
    refine W_reg ?_
    refine s_val (wn rfl) rfl rfl (py_move rfl) (s_val (wn rfl) rfl rfl (py_gtr rfl rfl) ?_)
    refine s_nil ?_
    refine W_ifd rfl (fun c2 => ?_) (fun c2 => ?_)
    · refine W_reg ?_
      refine s_val (wn rfl) rfl rfl (py_move rfl) (s_val (wn rfl) rfl rfl (py_move rfl) (s_val (wn rfl) rfl rfl (py_cap Try.underlying34 rfl) (s_val (wn rfl) rfl rfl (Py.to (v' := .slice none 0 0) (py_slcH Try.underlying34 Try.sizeOf5 rfl rfl 0 rfl (by omega)) rfl) (s_val (wn rfl) rfl rfl (py_move rfl) ?_))))
      refine s_room (α := UInt8) (m := n) (wn rfl) rfl Try.underlying34 Try.underlying3 Try_ty5 rfl rfl rfl H0 (by omega) (by omega) (by omega) (fun rb rc w9 hrc HG => ?_)
      try dsimp only [List.nil_append, List.cons_append, List.set_cons_zero, List.set_cons_succ] at HG
      refine s_val (wn rfl) rfl rfl (py_move rfl) (s_val (wn rfl) rfl rfl (py_len Try.underlying34 rfl) (s_val (wn rfl) rfl rfl (py_slc0 Try.underlying34 Try.sizeOf5 rfl rfl 0 rfl (by omega)) (s_val (wn rfl) rfl rfl (py_assign rfl) ?_)))
      refine s_nil ?_
      refine W_seq ?_
      refine W_reg ?_
      refine s_val (wn rfl) rfl rfl (py_move rfl) (s_val (wn rfl) rfl rfl (py_assign rfl) ?_)
      refine s_nil ?_
      refine W_ret (hQ _ _ (fin1 Try.results155 rfl ?_))
      exact ⟨HG.ext, HG.out 0 rfl⟩
    · refine W_skip ?_
      refine W_seq ?_
      refine W_reg ?_
      refine s_val (wn rfl) rfl rfl (py_move rfl) (s_val (wn rfl) rfl rfl (py_assign rfl) ?_)
      refine s_nil ?_
      refine W_ret (hQ _ _ (fin1 Try.results155 rfl ?_))
      exact ⟨H0.ext, [], .inr (.inl ⟨rfl, rfl, rfl⟩), .nil, by simp⟩
theorem Try_spec_l2Join {w : World} {xs : List (List UInt8)} {xsA : Option Addr} {xsC : Nat} (xsS : Sees w [.slice xsA xs.length xsC] xs) (hb : cntB xs ≤ 100000000) : Ret Try.prog 97 #[.slice xsA xs.length xsC] w fun v w' => Ext No w w' ∧ (Res w w' [v] xs.flatten) := by
  have xsL := sees_len xsS
  unfold maxLen at xsL
  obtain ⟨xsF, xsO⟩ := xsS
  refine ret_Q (vs := [.slice xsA xs.length xsC]) Try.func97 rfl Try.ntmps97 rfl (fun Q hQ hN => ?_)
  have H0 := Sep.start (w := w) (F := [seen false [.slice xsA xs.length xsC] xs xsF]) (all_cons xsO (by simp))
  refine W_seq ?_
  refine W_reg ?_
  refine s_val (wn rfl) rfl rfl (py_assign rfl) ?_
  refine s_nil ?_
  refine W_seq ?_
  refine W_reg ?_
  refine s_lit0 (α := UInt8) (wn rfl) rfl Try.underlying34 Try_ty5 H0 (fun b1 w1 e1 g1 H1 => ?_)
  refine s_val (wn rfl) rfl rfl (py_assign rfl) ?_
  refine s_nil ?_
  refine W_seq ?_
  refine W_seq ?_
  refine W_reg ?_
  refine s_val (wn rfl) rfl rfl (py_assign rfl) ?_
  refine s_nil ?_
  refine W_block ?_
  refine W_loop (γ := Nat × Value × List Nat) (fun (k, vo, f) => [(0, .slice xsA xs.length xsC), (3, vo), (4, .int .i64 k)]) (fun (k, vo, f) w' => Sep No w [mine [vo] (xs.take k).flatten f] [seen false [.slice xsA xs.length xsC] xs xsF] w' ∧ k ≤ xs.length) (fun (k, vo, f) => xs.length - k) (0, _, _) ⟨rfl, rfl, rfl, trivial⟩ ⟨H1, by omega⟩ (fun (k, vo, f) w2 H2 => ?_)
  obtain ⟨H2, hk⟩ := H2
  refine W_seq ?_
  refine W_seq ?_
  refine W_reg ?_
  refine s_val (wn rfl) rfl rfl (py_move rfl) (s_val (wn rfl) rfl rfl (py_move rfl) (s_val (wn rfl) rfl rfl (py_len Try.underlying43 rfl) (s_val (wn rfl) rfl rfl (py_lss rfl rfl) ?_)))
  refine s_nil ?_
  refine W_ifd rfl (fun c1 => ?_) (fun c1 => ?_)
  · refine W_skip ?_
    refine W_seq ?_
    refine W_block ?_
    have fl := flat_len (xs := xs) (k := k) (by omega)
    have cs := cntB_step (xs := xs) (i := k) (by omega)
    obtain ⟨eb1, eo1, ea1, ek1, ef1, ee1, ec1, eO1, eH1⟩ := elem_sl (H2.seen 0 rfl) k (by omega)
    have eP1 := H2.look1 0 rfl eO1 eH1
    refine W_reg ?_
    refine s_val (wn rfl) rfl rfl (py_move rfl) (s_val (wn rfl) rfl rfl (py_move rfl) (s_val (wn rfl) rfl rfl (py_move rfl) (s_val (wn rfl) rfl rfl (py_elz Try.underlying43 Try.sizeOf34 rfl rfl ee1 k (by omega) (by omega)) (s_val (wn rfl) rfl rfl (py_load Try.underlying34 rfl rfl ec1) ?_))))
    refine s_appF (wn rfl) rfl Try.underlying34 Try_ty5 rfl rfl rfl eP1 0 rfl (eP1.seen 1 rfl) (by (try simp only [List.length_nil]); unfold maxLen; omega) (by (try simp only [List.length_nil]); omega) (fun v1 w3 fp1 H3 => ?_)
    refine s_val (wn rfl) rfl rfl (py_assign rfl) ?_
    refine s_nil ?_
    refine W_reg ?_
    refine s_val (wn rfl) rfl rfl (py_move rfl) (s_val (wn rfl) rfl rfl (py_add rfl rfl (in64 ⟨by omega, by omega⟩)) (s_val (wn rfl) rfl rfl (py_assign rfl) ?_))
    refine s_nil ?_
    have hz := H3.ftake 1 |>.sub (.cons_cons _ List.Sublist.slnil)
    rw [flat_step (by omega)] at hz
    refine ⟨(k + 1, _, _), ⟨rfl, rfl, rfl, trivial⟩, ⟨hz, by omega⟩, by dsimp only; omega⟩
  · refine W_exit ?_
    refine W_seq ?_
    refine W_reg ?_
    refine s_val (wn rfl) rfl rfl (py_move rfl) (s_val (wn rfl) rfl rfl (py_assign rfl) ?_)
    refine s_nil ?_
    refine W_ret (hQ _ _ (fin1 Try.results97 rfl ?_))
    obtain rfl : k = xs.length := by omega
    exact ⟨H2.ext, by
      have h := H2.out 0 rfl
      rwa [flat_all] at h⟩
theorem Try_slices_Concat_byte_byte {w : World} {xs : List (List UInt8)} {xsA : Option Addr} {xsC : Nat} (xsS : Sees w [.slice xsA xs.length xsC] xs) (hb : cntB xs ≤ 100000000) : Ret Try.prog 100 #[.slice xsA xs.length xsC] w fun v w' => Ext No w w' ∧ (Res w w' [v] xs.flatten) := by
  have xsL := sees_len xsS
  unfold maxLen at xsL
  obtain ⟨xsF, xsO⟩ := xsS
  refine ret_Q (vs := [.slice xsA xs.length xsC]) Try.func100 rfl Try.ntmps100 rfl (fun Q hQ hN => ?_)
  have H0 := Sep.start (w := w) (F := [seen false [.slice xsA xs.length xsC] xs xsF]) (all_cons xsO (by simp))
  refine W_seq ?_
  refine W_reg ?_
  refine s_val (wn rfl) rfl rfl (py_assign rfl) ?_
  refine s_nil ?_
  refine W_seq ?_
  refine W_reg ?_
  refine s_val (wn rfl) rfl rfl (py_assign rfl) ?_
  refine s_nil ?_
  refine W_seq ?_
  refine W_seq ?_
  refine W_reg ?_
  refine s_val (wn rfl) rfl rfl (py_move rfl) (s_val (wn rfl) rfl rfl (py_len Try.underlying43 rfl) (s_val (wn rfl) rfl rfl (py_move rfl) ?_))
  refine s_nil ?_
  refine W_block ?_
  refine W_loop (γ := Nat) (fun k => [(0, .slice xsA xs.length xsC), (3, .int .i64 (sumN (lenB xs) k : Nat)), (9, .slice xsA xs.length xsC), (10, .int .i64 xs.length), (11, .int .i64 k)]) (fun k w' => Sep No w [] [seen false [.slice xsA xs.length xsC] xs xsF] w' ∧ k ≤ xs.length) (fun k => xs.length - k) 0 ⟨rfl, rfl, rfl, rfl, rfl, trivial⟩ ⟨H0, by omega⟩ (fun k w1 H1 => ?_)
  obtain ⟨H1, hk⟩ := H1
  refine W_seq ?_
  refine W_reg ?_
  refine s_val (wn rfl) rfl rfl (py_lss rfl rfl) ?_
  refine s_nil ?_
  refine W_seq ?_
  refine W_ifd rfl (fun c1 => ?_) (fun c1 => ?_)
  · refine W_skip ?_
    refine W_seq ?_
    refine W_block ?_
    refine W_seq ?_
    obtain ⟨eb1, eo1, ea1, ek1, ef1, ee1, ec1, eO1, eH1⟩ := elem_sl (H1.seen 0 rfl) k (by omega)
    have eP1 := H1.look1 0 rfl eO1 eH1
    refine W_reg ?_
    refine s_val (wn rfl) rfl rfl (py_elz Try.underlying43 Try.sizeOf34 rfl rfl ee1 k (by omega) (by omega)) (s_val (wn rfl) rfl rfl (py_load Try.underlying34 rfl rfl ec1) (s_val (wn rfl) rfl rfl (py_assign rfl) ?_))
    refine s_nil ?_
    refine W_seq ?_
    have cs := cntB_step (xs := xs) (i := k) (by omega)
    refine W_reg ?_
    refine s_val (wn rfl) rfl rfl (py_move rfl) (s_val (wn rfl) rfl rfl (py_move rfl) (s_val (wn rfl) rfl rfl (py_len Try.underlying34 rfl) (s_val (wn rfl) rfl rfl (py_add rfl rfl (in64 ⟨by omega, by omega⟩)) (s_val (wn rfl) rfl rfl (py_assign rfl) ?_))))
    refine s_nil ?_
    refine W_seq ?_
    refine W_reg ?_
    refine s_val (wn rfl) rfl rfl (py_move rfl) (s_val (wn rfl) rfl rfl (py_lss rfl rfl) ?_)
    refine s_nil ?_
    refine W_ifd rfl (fun c2 => ?_) (fun c2 => ?_)
    · exact absurd c2 (by omega)
    · refine W_skip ?_
      refine W_reg ?_
      refine s_val (wn rfl) rfl rfl (py_add rfl rfl (in64 ⟨by omega, by omega⟩)) (s_val (wn rfl) rfl rfl (py_move rfl) ?_)
      refine s_nil ?_
      refine ⟨k + 1, ⟨rfl, eqI (by omega), rfl, rfl, rfl, trivial⟩, ⟨(eP1.ftake 1), by omega⟩, by dsimp only; omega⟩
  · refine W_exit ?_
    refine W_seq ?_
    obtain rfl : k = xs.length := by omega
    have cE : cntB xs = sumN (lenB xs) xs.length := rfl
    refine W_reg ?_
    refine s_val (wn rfl) rfl rfl (py_move rfl) ?_
    refine s_call (wn rfl) rfl rfl (pc_call Try.func155 rfl Try_nm155 rfl) (Try_slices_Grow_byte_byte (n := sumN (lenB xs) xs.length) (by omega)) (fun v1 w2 r1 => ?_)
    obtain ⟨e1, r1⟩ := r1
    obtain ⟨fp1, H2⟩ := H1.res e1 r1
    obtain ⟨a1, k1, q1⟩ := own_slice (H2.mine 0 rfl)
    cases q1
    refine s_val (wn rfl) rfl rfl (py_assign rfl) ?_
    refine s_nil ?_
    refine W_seq ?_
    refine W_seq ?_
    refine W_reg ?_
    refine s_val (wn rfl) rfl rfl (py_move rfl) (s_val (wn rfl) rfl rfl (py_len Try.underlying43 rfl) (s_val (wn rfl) rfl rfl (py_move rfl) ?_))
    refine s_nil ?_
    refine W_block ?_
    refine W_loop (γ := Nat × Value × List Nat) (fun (k, vo, f) => [(6, vo), (25, .slice xsA xs.length xsC), (26, .int .i64 xs.length), (27, .int .i64 k)]) (fun (k, vo, f) w' => Sep No w [mine [vo] (xs.take k).flatten f] [seen false [.slice xsA xs.length xsC] xs xsF] w' ∧ k ≤ xs.length) (fun (k, vo, f) => xs.length - k) (0, _, _) ⟨rfl, rfl, rfl, rfl, trivial⟩ ⟨H2, by omega⟩ (fun (k, vo, f) w3 H3 => ?_)
    obtain ⟨H3, hk⟩ := H3
    refine W_seq ?_
    refine W_reg ?_
    refine s_val (wn rfl) rfl rfl (py_lss rfl rfl) ?_
    refine s_nil ?_
    refine W_seq ?_
    refine W_ifd rfl (fun c3 => ?_) (fun c3 => ?_)
    · refine W_skip ?_
      refine W_seq ?_
      refine W_block ?_
      refine W_seq ?_
      obtain ⟨eb2, eo2, ea2, ek2, ef2, ee2, ec2, eO2, eH2⟩ := elem_sl (H3.seen 0 rfl) k (by omega)
      have eP2 := H3.look1 0 rfl eO2 eH2
      refine W_reg ?_
      refine s_val (wn rfl) rfl rfl (py_elz Try.underlying43 Try.sizeOf34 rfl rfl ee2 k (by omega) (by omega)) (s_val (wn rfl) rfl rfl (py_load Try.underlying34 rfl rfl ec2) (s_val (wn rfl) rfl rfl (py_assign rfl) ?_))
      refine s_nil ?_
      have fl := flat_len (xs := xs) (k := k) (by omega)
      have cs := cntB_step (xs := xs) (i := k) (by omega)
      refine W_reg ?_
      refine s_val (wn rfl) rfl rfl (py_move rfl) (s_val (wn rfl) rfl rfl (py_move rfl) ?_)
      refine s_appF (wn rfl) rfl Try.underlying34 Try_ty5 rfl rfl rfl eP2 0 rfl (eP2.seen 1 rfl) (by (try simp only [List.length_nil]); unfold maxLen; omega) (by (try simp only [List.length_nil]); omega) (fun v2 w4 fp2 H4 => ?_)
      refine s_val (wn rfl) rfl rfl (py_assign rfl) ?_
      refine s_nil ?_
      refine W_reg ?_
      refine s_val (wn rfl) rfl rfl (py_add rfl rfl (in64 ⟨by omega, by omega⟩)) (s_val (wn rfl) rfl rfl (py_move rfl) ?_)
      refine s_nil ?_
      have hz := H4.ftake 1 |>.sub (.cons_cons _ List.Sublist.slnil)
      rw [flat_step (by omega)] at hz
      refine ⟨(k + 1, _, _), ⟨rfl, rfl, rfl, rfl, trivial⟩, ⟨hz, by omega⟩, by dsimp only; omega⟩
    · refine W_exit ?_
      refine W_seq ?_
      refine W_reg ?_
      refine s_val (wn rfl) rfl rfl (py_move rfl) (s_val (wn rfl) rfl rfl (py_assign rfl) ?_)
      refine s_nil ?_
      refine W_ret (hQ _ _ (fin1 Try.results100 rfl ?_))
      obtain rfl : k = xs.length := by omega
      exact ⟨H3.ext, by
        have h := H3.out 0 rfl
        rwa [flat_all] at h⟩
theorem Try_spec_RowFits {w : World} {x : Int} {y : Int} {xs : List (List UInt8)} {xsA : Option Addr} {xsC : Nat} (xsS : Sees w [.slice xsA xs.length xsC] xs) : Ret Try.prog 45 #[.int .i64 x, .int .i64 y, .slice xsA xs.length xsC] w fun v w' => Ext No w w' ∧ (v = .bool (rowFits x y xs)) := by
  have xsL := sees_len xsS
  unfold maxLen at xsL
  obtain ⟨xsF, xsO⟩ := xsS
  refine ret_Q (vs := [.int .i64 x, .int .i64 y, .slice xsA xs.length xsC]) Try.func45 rfl Try.ntmps45 rfl (fun Q hQ hN => ?_)
  have H0 := Sep.start (w := w) (F := [seen false [.slice xsA xs.length xsC] xs xsF]) (all_cons xsO (by simp))
  refine W_seq ?_
  refine W_reg ?_
  refine s_val (wn rfl) rfl rfl (py_assign rfl) ?_
  refine s_nil ?_
  refine W_seq ?_
  refine W_seq ?_
  refine W_reg ?_
  refine s_val (wn rfl) rfl rfl (py_move rfl) (s_val (wn rfl) rfl rfl (py_move rfl) ?_)
  refine s_call (wn rfl) rfl rfl (pc_call Try.func79 rfl Try_nm79 rfl) Try_spec_l2Shape (fun v1 w1 r1 => ?_)
  obtain ⟨e1, rfl⟩ := r1
  have H1 := H0.to e1
  refine s_val (wn rfl) rfl rfl (py_not rfl) (s_val (wn rfl) rfl rfl (py_move rfl) ?_)
  refine s_grp 6 (j := 4) (want := false) (t := 19) rfl rfl rfl rfl (fun hg1 kk1 => s_val (wgE rfl rfl rfl hg1) rfl rfl (py_move rfl) (s_val (wgE rfl rfl rfl hg1) rfl rfl (py_move rfl) (s_val (wgE rfl rfl rfl hg1) rfl rfl (py_move rfl) (s_val (wgE rfl rfl rfl hg1) rfl rfl (py_add rfl rfl (in64 (sum_ok hg1))) (s_callv (wgE rfl rfl rfl hg1) rfl rfl (pc_call Try.func96 rfl Try_nm96 rfl) (Try_spec_l2Whole (H1.sees 0 rfl)) (fun w3 e3 => s_val (wgE rfl rfl rfl hg1) rfl rfl (py_not rfl) (kk1 _ _ (kx rfl (kx rfl (kx rfl (kx rfl (kx rfl (kx rfl k0)))))) rfl (Ext.refl.trans e3)))))))) (fun w2 e2 => ?_)
  have H2 := H1.to e2
  refine s_val (wn rfl) rfl rfl (py_bor rfl rfl) ?_
  refine s_nil ?_
  refine W_if rfl (fun c1 => ?_) (fun c1 => ?_)
  · refine W_seq ?_
    refine W_reg ?_
    refine s_val (wn rfl) rfl rfl (py_assign rfl) ?_
    refine s_nil ?_
    refine W_ret (hQ _ _ (fin1 Try.results45 rfl ?_))
    exact ⟨H2.ext, by rw [rowFits_no c1]⟩
  · refine W_skip ?_
    refine W_seq ?_
    have hy := rowFits_yes c1
    have bd := rOK_bd hy.1
    obtain ⟨wl, w4⟩ := wholeL_len hy.2.1
    have cb : cntB (cut xs 0 x.toNat) ≤ 100 := by rw [← flat_cnt, cut_flat (by omega) w4]; omega
    have fl4 := cut_flat (xs := xs) (k := x.toNat) (m := 4) (by omega) w4
    refine W_reg ?_
    refine s_val (wn rfl) rfl rfl (py_move rfl) (s_val (wn rfl) rfl rfl (py_move rfl) (s_val (wn rfl) rfl rfl (py_move rfl) (s_val (wn rfl) rfl rfl (py_move rfl) ?_)))
    have sc1 := own_le_cap (H2.seen 0 rfl)
    obtain ⟨sf1, so1, ss1⟩ := own_cutL (H2.seen 0 rfl) (0) (x.toNat) _ (by omega) (by omega) (by omega) (Nat.le_refl _)
    have H3 := H2.look1 0 rfl so1 ss1
    have sl1 := cut_len (xs := xs) (l := 0) (h := x.toNat) (by omega)
    refine s_val (wn rfl) rfl rfl (py_slcHN Try.underlying43 Try.sizeOf34 rfl rfl (x.toNat) (by omega) (by omega) sl1) (?_)
    refine s_call (wn rfl) rfl rfl (pc_call Try.func97 rfl Try_nm97 rfl) (Try_spec_l2Join (H3.sees 1 rfl) (by omega)) (fun v2 w4 r2 => ?_)
    obtain ⟨e4, r2⟩ := r2
    obtain ⟨fp1, H4⟩ := H3.res e4 r2
    obtain ⟨a1, k1, q1⟩ := own_slice (H4.mine 0 rfl)
    cases q1
    refine s_call (wn rfl) rfl rfl (pc_call Try.func80 rfl Try_nm80 rfl) (Try_spec_l2Encode (n := x.toNat) (s := y.toNat) (by omega) (by omega) (by omega) (by omega) (H4.msees 0 rfl)) (fun v3 w5 r3 => ?_)
    obtain ⟨e5, r3⟩ := r3
    obtain ⟨fp2, H5, fr1⟩ := H4.resS e5 r3
    obtain ⟨a2, k2, q2⟩ := own_slice (H5.seen 2 rfl)
    cases q2
    refine s_val (wn rfl) rfl rfl (py_assign rfl) ?_
    refine s_nil ?_
    refine W_seq ?_
    refine W_seq ?_
    refine W_reg ?_
    refine s_val (wn rfl) rfl rfl (py_assign rfl) ?_
    refine s_nil ?_
    refine W_block ?_
    refine W_loop (γ := Nat) (fun k => [(2, .slice xsA xs.length xsC), (7, .slice a2 (encG x.toNat (x.toNat + y.toNat) (cut xs 0 x.toNat).flatten).length k2), (8, .int .i64 k)]) (fun k w' => Sep No w [] [seen false [.slice xsA xs.length xsC] xs xsF, seen false [.slice (slA xsA 0 xsC (sz (List UInt8))) (cut xs 0 x.toNat).length (xsC - 0)] (cut xs 0 x.toNat) sf1, seen false [.slice a2 (encG x.toNat (x.toNat + y.toNat) (cut xs 0 x.toNat).flatten).length k2] (encG x.toNat (x.toNat + y.toNat) (cut xs 0 x.toNat).flatten) fp2] w' ∧ k ≤ xs.length ∧ (∀ i, i < k → xs.getD i [] = (encG x.toNat (x.toNat + y.toNat) (cut xs 0 x.toNat).flatten).getD i [])) (fun k => xs.length - k) 0 ⟨rfl, rfl, rfl, trivial⟩ ⟨(H5.dtake 0), by omega, fun i hi => by omega⟩ (fun k w6 H6 => ?_)
    obtain ⟨H6, hk, he⟩ := H6
    refine W_seq ?_
    refine W_seq ?_
    refine W_reg ?_
    refine s_val (wn rfl) rfl rfl (py_move rfl) (s_val (wn rfl) rfl rfl (py_move rfl) (s_val (wn rfl) rfl rfl (py_len Try.underlying43 rfl) (s_val (wn rfl) rfl rfl (py_lss rfl rfl) ?_)))
    refine s_nil ?_
    refine W_ifd rfl (fun c2 => ?_) (fun c2 => ?_)
    · refine W_skip ?_
      refine W_seq ?_
      refine W_block ?_
      refine W_seq ?_
      have el := encG_len (n := x.toNat) (m := x.toNat + y.toNat) (xs := (cut xs 0 x.toNat).flatten)
      obtain ⟨eb1, eo1, ea1, ek1, ef1, ee1, ec1, eO1, eH1⟩ := elem_sl (H6.seen 0 rfl) k (by omega)
      have eP1 := H6.look1 0 rfl eO1 eH1
      obtain ⟨eb2, eo2, ea2, ek2, ef2, ee2, ec2, eO2, eH2⟩ := elem_sl (eP1.seen 2 rfl) k (by omega)
      have eP2 := eP1.look1 2 rfl eO2 eH2
      refine W_drw (S := Ext No _) [(0, true), (1, true), (2, true), (3, true), (4, true), (5, true), (6, true), (7, true), (8, false), (9, false)] (by kernel_rfl) (by kernel_rfl) (by kernel_rfl) rfl (fun _ => Ext.refl.drawn _) (fun q3 => ?_)
      have H7 := eP2.drawn q3
      refine d_val rfl (wn rfl) rfl rfl (fun zw hx => py_move rfl) (d_val rfl (wn rfl) rfl rfl (fun zw hx => py_move rfl) (d_val rfl (wn rfl) rfl rfl (fun zw hx => py_elz Try.underlying43 Try.sizeOf34 rfl rfl ee1 k (by omega) (by omega)) (d_val rfl (wn rfl) rfl rfl (fun zw hx => py_load Try.underlying34 rfl rfl (hx.cell ec1)) (d_val rfl (wn rfl) rfl rfl (fun zw hx => py_move rfl) (d_val rfl (wn rfl) rfl rfl (fun zw hx => py_move rfl) (d_val rfl (wn rfl) rfl rfl (fun zw hx => py_elz Try.underlying43 Try.sizeOf34 rfl rfl ee2 k (by omega) (by omega)) (d_val rfl (wn rfl) rfl rfl (fun zw hx => py_load Try.underlying34 rfl rfl (hx.cell ec2)) ?_)))))))
      refine d_call rfl (wn rfl) rfl rfl (pc_call Try.func98 rfl Try_nm98 rfl) (Try_spec_l2Same (H7.sees 3 rfl) (H7.sees 4 rfl)) (fun hS _ _ r _ => hS.trans r.1.no) (fun v4 w7 r4 => ?_)
      obtain ⟨e6, rfl⟩ := r4
      have H8 := H7.to e6
      refine d_end rfl (wn rfl) rfl rfl (py_not rfl) ?_
      refine d_nil ?_
      refine W_if rfl (fun c3 => ?_) (fun c3 => ?_)
      · refine W_seq ?_
        refine W_reg ?_
        refine s_val (wn rfl) rfl rfl (py_assign rfl) ?_
        refine s_nil ?_
        refine W_ret (hQ _ _ (fin1 Try.results45 rfl ?_))
        have hy3 := hy.2.2
        refine ⟨H8.ext, ?_⟩
        rw [hy3, decide_eq_false (fun e => by rw [e] at c3; simp at c3)]
      · refine W_skip ?_
        refine W_reg ?_
        refine s_val (wn rfl) rfl rfl (py_move rfl) (s_val (wn rfl) rfl rfl (py_add rfl rfl (in64 ⟨by omega, by omega⟩)) (s_val (wn rfl) rfl rfl (py_assign rfl) ?_))
        refine s_nil ?_
        refine ⟨k + 1, ⟨rfl, rfl, rfl, trivial⟩, ⟨(H8.ftake 3), by omega, fun i hi => ?_⟩, by dsimp only; omega⟩
        by_cases e : i = k
        · subst e; exact (by simpa using c3)
        · exact he i (by omega)
    · refine W_exit ?_
      refine W_seq ?_
      refine W_reg ?_
      refine s_val (wn rfl) rfl rfl (py_assign rfl) ?_
      refine s_nil ?_
      refine W_ret (hQ _ _ (fin1 Try.results45 rfl ?_))
      have hy3 := hy.2.2
      refine ⟨H6.ext, ?_⟩
      rw [hy3, decide_eq_true (getD_ext (d := []) (by rw [encG_len]; omega) fun i hi => by rw [encG_len] at hi; exact (he i (by omega)).symm)]
theorem Try_impl_RowFits {w : World} {x : Int} {y : Int} {xs : List (List UInt8)} {xsA : Option Addr} {xsC : Nat} (xsS : Sees w [.slice xsA xs.length xsC] xs) : Ret Try.prog 47 #[.int .i64 x, .int .i64 y, .slice xsA xs.length xsC] w fun v w' => Ext No w w' ∧ (v = .bool (rowFits x y xs)) := by
  have xsL := sees_len xsS
  unfold maxLen at xsL
  obtain ⟨xsF, xsO⟩ := xsS
  refine ret_Q (vs := [.int .i64 x, .int .i64 y, .slice xsA xs.length xsC]) Try.func47 rfl Try.ntmps47 rfl (fun Q hQ hN => ?_)
  have H0 := Sep.start (w := w) (F := [seen false [.slice xsA xs.length xsC] xs xsF]) (all_cons xsO (by simp))
  refine W_seq ?_
  refine W_reg ?_
  refine s_val (wn rfl) rfl rfl (py_assign rfl) ?_
  refine s_nil ?_
  refine W_seq ?_
  refine W_reg ?_
  refine s_val (wn rfl) rfl rfl (py_move rfl) (s_val (wn rfl) rfl rfl (py_move rfl) (s_val (wn rfl) rfl rfl (py_buildS Try_pl105 rfl rfl) ?_))
  refine s_var (wn rfl) rfl Try.zeroValue105 H0 (fun b1 w1 e1 g1 H1 => ?_)
  refine s_stoS (wn rfl) Try.sizeOf105 rfl rfl rfl rfl H1 0 rfl rfl (fun w2 e2 H2 => ?_)
  dsimp only [List.nil_append, List.cons_append, List.set_cons_zero, List.set_cons_succ, layL] at H2
  refine s_nil ?_
  refine W_seq ?_
  refine W_seq ?_
  refine W_reg ?_
  refine s_val (wn rfl) rfl rfl (py_loadS Try.underlying105 rfl Try.sizeOf105 rfl rfl (At.whole (H2.box 0 rfl))) ?_
  refine s_call (wn rfl) rfl rfl (pc_call Try.func81 rfl Try_nm81 rfl) Try_impl_rowCode_ok (fun v1 w3 r1 => ?_)
  obtain ⟨e3, rfl⟩ := r1
  have H3 := H2.to e3
  refine s_val (wn rfl) rfl rfl (py_not rfl) (s_val (wn rfl) rfl rfl (py_move rfl) ?_)
  refine s_grp 4 (j := 3) (want := false) (t := 18) rfl rfl rfl rfl (fun hg1 kk1 => s_val (wgE rfl rfl rfl hg1) rfl rfl (py_loadS Try.underlying105 rfl Try.sizeOf105 rfl rfl (At.whole (H3.box 0 rfl))) (s_val (wgE rfl rfl rfl hg1) rfl rfl (py_move rfl) (s_callv (wgE rfl rfl rfl hg1) rfl rfl (pc_call Try.func93 rfl Try_nm93 rfl) (Try_impl_rowCode_whole (rok_bd hg1) (H3.sees 0 rfl)) (fun w5 e5 => s_val (wgE rfl rfl rfl hg1) rfl rfl (py_not rfl) (kk1 _ _ (kx rfl (kx rfl (kx rfl (kx rfl k0)))) rfl (Ext.refl.trans e5)))))) (fun w4 e4 => ?_)
  have H4 := H3.to e4
  refine s_val (wn rfl) rfl rfl (py_bor rfl rfl) ?_
  refine s_nil ?_
  refine W_if rfl (fun c1 => ?_) (fun c1 => ?_)
  · refine W_seq ?_
    refine W_reg ?_
    refine s_val (wn rfl) rfl rfl (py_assign rfl) ?_
    refine s_nil ?_
    refine W_ret (hQ _ _ (fin1 Try.results47 rfl ?_))
    exact ⟨H4.ext, by rw [rowFits_no c1]⟩
  · refine W_skip ?_
    refine W_seq ?_
    have hy := rowFits_yes c1
    have bd := rOK_bd hy.1
    obtain ⟨wl, w4⟩ := wholeL_len hy.2.1
    have cb : cntB (cut xs 0 x.toNat) ≤ 100 := by rw [← flat_cnt, cut_flat (by omega) w4]; omega
    have fl4 := cut_flat (xs := xs) (k := x.toNat) (m := 4) (by omega) w4
    refine W_drw (S := Ext No _) [(0, true), (1, true), (2, true), (3, true), (6, true), (4, false), (5, false), (7, false), (8, false)] (by kernel_rfl) (by kernel_rfl) (by kernel_rfl) rfl (fun _ => Ext.refl.drawn _) (fun q1 => ?_)
    have H5 := H4.drawn q1
    refine d_val rfl (wn rfl) rfl rfl (fun zw hx => py_loadS Try.underlying105 rfl Try.sizeOf105 rfl rfl (At.whole (hx.heap (H5.box 0 rfl)))) (d_val rfl (wn rfl) rfl rfl (fun zw hx => py_move rfl) (d_val rfl (wn rfl) rfl rfl (fun zw hx => py_move rfl) ?_))
    have sc1 := own_le_cap (H5.seen 0 rfl)
    obtain ⟨sf1, so1, ss1⟩ := own_cutL (H5.seen 0 rfl) (0) (x.toNat) _ (by omega) (by omega) (by omega) (Nat.le_refl _)
    have H6 := H5.look1 0 rfl so1 ss1
    have sl1 := cut_len (xs := xs) (l := 0) (h := x.toNat) (by omega)
    refine d_val rfl (wn rfl) rfl rfl (fun zw hx => py_slcHN Try.underlying43 Try.sizeOf34 rfl rfl (x.toNat) (by omega) (by omega) sl1) (d_val rfl (wn rfl) rfl rfl (fun zw hx => py_move rfl) ?_)
    refine d_call rfl (wn rfl) rfl rfl (pc_call Try.func100 rfl Try_nm100 rfl) (Try_slices_Concat_byte_byte (H6.sees 1 rfl) (by omega)) (fun hS _ _ r _ => hS.trans r.1.no) (fun v2 w6 r2 => ?_)
    obtain ⟨e6, r2⟩ := r2
    obtain ⟨fp1, H7⟩ := H6.res e6 r2
    obtain ⟨a1, k1, q2⟩ := own_slice (H7.mine 1 rfl)
    cases q2
    refine d_call rfl (wn rfl) rfl rfl (pc_call Try.func83 rfl Try_nm83 rfl) (Try_impl_rowCode_encode (n := x.toNat) (s := y.toNat) (by omega) (by omega) (by omega) (by omega) (H7.msees 1 rfl)) (fun hS _ _ r _ => hS.trans r.1.no) (fun v3 w7 r3 => ?_)
    obtain ⟨e7, r3⟩ := r3
    obtain ⟨fp2, H8⟩ := H7.res e7 r3
    obtain ⟨a2, k2, q3⟩ := own_slice (H8.mine 2 rfl)
    cases q3
    refine d_call rfl (wn rfl) rfl rfl (pc_call Try.func99 rfl Try_nm99 rfl) (Try_slices_EqualFunc_byte_byte_byte_byte (H8.msees 2 rfl) (H8.sees 0 rfl)) (fun hS _ _ r _ => hS.trans r.1.no) (fun v4 w8 r4 => ?_)
    obtain ⟨e8, rfl⟩ := r4
    have H9 := H8.to e8
    refine d_end rfl (wn rfl) rfl rfl (py_assign rfl) ?_
    refine d_nil ?_
    refine W_ret (hQ _ _ (fin1 Try.results47 rfl ?_))
    have hy3 := hy.2.2
    exact ⟨H9.ext, by rw [hy3]⟩
theorem Try_laws_FnExactRowFits {w : World} {x : Int} {y : Int} {xs : List (List UInt8)} {xsA : Option Addr} {xsC : Nat} (xsS : Sees w [.slice xsA xs.length xsC] xs) : Ret Try.prog 8 #[.int .i64 x, .int .i64 y, .slice xsA xs.length xsC] w fun v w' => Ext No w w' ∧ (v = .bool true) := by
  have xsL := sees_len xsS
  unfold maxLen at xsL
  obtain ⟨xsF, xsO⟩ := xsS
  refine ret_Q (vs := [.int .i64 x, .int .i64 y, .slice xsA xs.length xsC]) Try.func8 rfl Try.ntmps8 rfl (fun Q hQ hN => ?_)
  have H0 := Sep.start (w := w) (F := [seen false [.slice xsA xs.length xsC] xs xsF]) (all_cons xsO (by simp))
  refine W_seq ?_
  refine W_reg ?_
  refine s_val (wn rfl) rfl rfl (py_assign rfl) ?_
  refine s_nil ?_
  refine W_seq ?_
  refine W_reg ?_
  refine s_val (wn rfl) rfl rfl (py_assign rfl) ?_
  refine s_nil ?_
  refine W_seq ?_
  refine W_reg ?_
  refine s_val (wn rfl) rfl rfl (py_move rfl) (s_val (wn rfl) rfl rfl (py_move rfl) ?_)
  refine s_call (wn rfl) rfl rfl (pc_call Try.func44 rfl Try_nm44 rfl) (Try_laws_szByteSS (H0.sees 0 rfl) (by omega)) (fun v1 w1 r1 => ?_)
  obtain ⟨e1, rfl⟩ := r1
  have H1 := H0.to e1
  refine s_val (wn rfl) rfl rfl (py_assign rfl) ?_
  refine s_nil ?_
  refine W_seq ?_
  refine W_seq ?_
  refine W_reg ?_
  refine s_val (wn rfl) rfl rfl (py_move rfl) (s_val (wn rfl) rfl rfl (py_lss rfl rfl) ?_)
  refine s_nil ?_
  refine W_ifd rfl (fun c1 => ?_) (fun c1 => ?_)
  · refine W_seq ?_
    refine W_reg ?_
    refine s_val (wn rfl) rfl rfl (py_assign rfl) ?_
    refine s_nil ?_
    refine W_ret (hQ _ _ (fin1 Try.results8 rfl ?_))
    exact ⟨H1.ext, rfl⟩
  · refine W_skip ?_
    refine W_seq ?_
    have hl : totB xs ≤ 1048576 := by revert c1; split <;> omega
    refine W_reg ?_
    refine s_val (wn rfl) rfl rfl (py_move rfl) (s_val (wn rfl) rfl rfl (py_move rfl) (s_val (wn rfl) rfl rfl (py_move rfl) ?_))
    refine s_call (wn rfl) rfl rfl (pc_call Try.func46 rfl Try_nm46 rfl) (Try_laws_toByteSS (H1.sees 0 rfl) (by omega)) (fun v2 w2 r2 => ?_)
    obtain ⟨e2, r2⟩ := r2
    obtain ⟨fp1, H2⟩ := H1.res e2 r2
    obtain ⟨a1, k1, q1⟩ := own_slice (H2.mine 0 rfl)
    cases q1
    refine s_call (wn rfl) rfl rfl (pc_call Try.func45 rfl Try_nm45 rfl) (Try_spec_RowFits (H2.msees 0 rfl)) (fun v3 w3 r3 => ?_)
    obtain ⟨e3, rfl⟩ := r3
    have H3 := H2.to e3
    refine s_val (wn rfl) rfl rfl (py_assign rfl) ?_
    refine s_nil ?_
    refine W_seq ?_
    refine W_reg ?_
    refine s_val (wn rfl) rfl rfl (py_move rfl) ?_
    refine s_call (wn rfl) rfl rfl (pc_call Try.func46 rfl Try_nm46 rfl) (Try_laws_toByteSS (H3.sees 0 rfl) (by omega)) (fun v4 w4 r4 => ?_)
    obtain ⟨e4, r4⟩ := r4
    obtain ⟨fp2, H4⟩ := H3.res e4 r4
    obtain ⟨a2, k2, q2⟩ := own_slice (H4.mine 1 rfl)
    cases q2
    refine s_val (wn rfl) rfl rfl (py_assign rfl) ?_
    refine s_nil ?_
    refine W_seq ?_
    refine W_reg ?_
    refine s_val (wn rfl) rfl rfl (py_move rfl) (s_val (wn rfl) rfl rfl (py_move rfl) (s_val (wn rfl) rfl rfl (py_move rfl) ?_))
    refine s_call (wn rfl) rfl rfl (pc_call Try.func47 rfl Try_nm47 rfl) (Try_impl_RowFits (H4.msees 1 rfl)) (fun v5 w5 r5 => ?_)
    obtain ⟨e5, rfl⟩ := r5
    have H5 := H4.to e5
    refine s_val (wn rfl) rfl rfl (py_assign rfl) ?_
    refine s_nil ?_
    refine W_seq ?_
    refine W_seq ?_
    refine W_reg ?_
    refine s_val (wn rfl) rfl rfl (py_move rfl) (s_val (wn rfl) rfl rfl (py_move rfl) (s_val (wn rfl) rfl rfl (py_bneq Try.underlying4 rfl rfl) ?_))
    refine s_nil ?_
    refine W_if rfl (fun c2 => ?_) (fun c2 => ?_)
    · exact absurd c2 (by simp)
    · refine W_skip ?_
      refine W_seq ?_
      refine W_seq ?_
      refine W_reg ?_
      refine s_val (wn rfl) rfl rfl (py_move rfl) (s_val (wn rfl) rfl rfl (py_move rfl) ?_)
      refine s_call (wn rfl) rfl rfl (pc_call Try.func46 rfl Try_nm46 rfl) (Try_laws_toByteSS (H5.sees 0 rfl) (by omega)) (fun v6 w6 r6 => ?_)
      obtain ⟨e6, r6⟩ := r6
      obtain ⟨fp3, H6⟩ := H5.res e6 r6
      obtain ⟨a3, k3, q3⟩ := own_slice (H6.mine 2 rfl)
      cases q3
      refine s_call (wn rfl) rfl rfl (pc_call Try.func48 rfl Try_nm48 rfl) (Try_laws_eqByteSS (H6.msees 1 rfl) (H6.msees 2 rfl)) (fun v7 w7 r7 => ?_)
      obtain ⟨e7, rfl⟩ := r7
      have H7 := H6.to e7
      refine s_val (wn rfl) rfl rfl (py_not rfl) ?_
      refine s_nil ?_
      refine W_if rfl (fun c3 => ?_) (fun c3 => ?_)
      · exact absurd c3 (by simp)
      · refine W_skip ?_
        refine W_seq ?_
        refine W_reg ?_
        refine s_val (wn rfl) rfl rfl (py_assign rfl) ?_
        refine s_nil ?_
        refine W_ret (hQ _ _ (fin1 Try.results8 rfl ?_))
        exact ⟨H7.ext, rfl⟩
end Go.Wk
