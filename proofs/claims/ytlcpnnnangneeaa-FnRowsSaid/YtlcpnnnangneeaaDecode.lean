/-
  The functions walked, each once. (Printed by a program of mine.)
-/
import Derived.Test.YtlcpnnnangneeaaWeights
import Derived.Test.YtlcpnnnangneeaaWlE
namespace Go.Wk
open Go.Proofs Rp
set_option maxRecDepth 10000
theorem Try_impl_rowCode_partOK_1 {w : World} {xs : List UInt8} {xsA : Option Addr} {xsC : Nat} (xsS : Sees w [.slice xsA xs.length xsC] xs) : Ret Try.prog 158 #[.slice xsA xs.length xsC] w fun v w' => Ext No w w' ∧ (v = .bool (bad40 xs)) := by
  have xsL := sees_len xsS
  unfold maxLen at xsL
  obtain ⟨xsF, xsO⟩ := xsS
  refine ret_Q (vs := [.slice xsA xs.length xsC]) Try.func158 rfl Try.ntmps158 rfl (fun Q hQ hN => ?_)
  have H0 := Sep.start (w := w) (F := [seen false [.slice xsA xs.length xsC] xs xsF]) (all_cons xsO (by simp))
  refine W_seq ?_
  refine W_reg ?_
  refine s_val (wn rfl) rfl rfl (py_assign rfl) ?_
  refine s_nil ?_
  refine W_seq ?_
  refine W_reg ?_
  refine s_val (wn rfl) rfl rfl (py_move rfl) (s_val (wn rfl) rfl rfl (py_len Try.underlying34 rfl) (s_val (wn rfl) rfl rfl (py_neq rfl rfl) (s_val (wn rfl) rfl rfl (py_move rfl) ?_)))
  refine s_grp 3 (j := 3) (want := true) (t := 9) rfl rfl rfl rfl (fun hg1 kk1 => s_val (wgE rfl rfl rfl hg1) rfl rfl (py_move rfl) (s_val (wgE rfl rfl rfl hg1) rfl rfl (py_len Try.underlying34 rfl) (s_val (wgE rfl rfl rfl hg1) rfl rfl (py_neq rfl rfl) (kk1 _ _ (kx rfl (kx rfl (kx rfl k0))) rfl Ext.refl)))) (fun w1 e1 => ?_)
  have H1 := H0.to e1
  refine s_val (wn rfl) rfl rfl (py_band rfl rfl) (s_val (wn rfl) rfl rfl (py_assign rfl) ?_)
  refine s_nil ?_
  refine W_ret (hQ _ _ (fin1 Try.results158 rfl ?_))
  exact ⟨H1.ext, rfl⟩
theorem Try_IndexFunc_bad40 {w : World} {xs : List (List UInt8)} {xsA : Option Addr} {xsC : Nat} (xsS : Sees w [.slice xsA xs.length xsC] xs) : Ret Try.prog 179 #[.slice xsA xs.length xsC, .func (.func 158) #[] #[]] w fun v w' => Ext No w w' ∧ (v = .int .i64 (firstOf bad40 xs)) := by
  have xsL := sees_len xsS
  unfold maxLen at xsL
  obtain ⟨xsF, xsO⟩ := xsS
  refine ret_Q (vs := [.slice xsA xs.length xsC, .func (.func 158) #[] #[]]) Try.func179 rfl Try.ntmps179 rfl (fun Q hQ hN => ?_)
  have H0 := Sep.start (w := w) (F := [seen false [.slice xsA xs.length xsC] xs xsF]) (all_cons xsO (by simp))
  refine W_seq ?_
  refine W_reg ?_
  refine s_val (wn rfl) rfl rfl (py_assign rfl) ?_
  refine s_nil ?_
  refine W_seq ?_
  refine W_seq ?_
  refine W_reg ?_
  refine s_val (wn rfl) rfl rfl (py_move rfl) (s_val (wn rfl) rfl rfl (py_len Try.underlying43 rfl) (s_val (wn rfl) rfl rfl (py_move rfl) ?_))
  refine s_nil ?_
  refine W_block ?_
  refine W_loop (γ := Nat) (fun k => [(0, .slice xsA xs.length xsC), (1, .func (.func 158) #[] #[]), (7, .int .i64 xs.length), (8, .int .i64 k)]) (fun k w' => Sep No w [] [seen false [.slice xsA xs.length xsC] xs xsF] w' ∧ k ≤ xs.length ∧ (∀ i, i < k → bad40 (xs.getD i []) = false)) (fun k => xs.length - k) 0 ⟨rfl, rfl, rfl, rfl, trivial⟩ ⟨H0, by omega, fun i hi => by omega⟩ (fun k w1 H1 => ?_)
  obtain ⟨H1, hk, he⟩ := H1
  refine W_seq ?_
  refine W_reg ?_
  refine s_val (wn rfl) rfl rfl (py_lss rfl rfl) ?_
  refine s_nil ?_
  refine W_seq ?_
  refine W_ifd rfl (fun c1 => ?_) (fun c1 => ?_)
  · refine W_skip ?_
    refine W_seq ?_
    refine W_block ?_
    refine W_seq ?_
    refine W_reg ?_
    refine s_val (wn rfl) rfl rfl (py_move rfl) (s_val (wn rfl) rfl rfl (py_assign rfl) ?_)
    refine s_nil ?_
    refine W_seq ?_
    obtain ⟨eb1, eo1, ea1, ek1, ef1, ee1, ec1, eO1, eH1⟩ := elem_sl (H1.seen 0 rfl) k (by omega)
    have eP1 := H1.look1 0 rfl eO1 eH1
    refine W_reg ?_
    refine s_val (wn rfl) rfl rfl (py_move rfl) (s_val (wn rfl) rfl rfl (py_move rfl) (s_val (wn rfl) rfl rfl (py_move rfl) (s_val (wn rfl) rfl rfl (py_elz Try.underlying43 Try.sizeOf34 rfl rfl ee1 k (by omega) (by omega)) (s_val (wn rfl) rfl rfl (py_load Try.underlying34 rfl rfl ec1) ?_))))
    refine s_call (wn rfl) rfl rfl (pc_callv0 rfl Try.func158 rfl Try_nm158 rfl) (Try_impl_rowCode_partOK_1 (eP1.sees 1 rfl)) (fun v1 w2 r1 => ?_)
    obtain ⟨e1, rfl⟩ := r1
    have H2 := eP1.to e1
    refine s_nil ?_
    refine W_if rfl (fun c2 => ?_) (fun c2 => ?_)
    · refine W_seq ?_
      refine W_reg ?_
      refine s_val (wn rfl) rfl rfl (py_move rfl) (s_val (wn rfl) rfl rfl (py_assign rfl) ?_)
      refine s_nil ?_
      refine W_ret (hQ _ _ (fin1 Try.results179 rfl ?_))
      exact ⟨H2.ext, congrArg (Value.int .i64) (firstOf_at (d := []) (by omega) c2 he).symm⟩
    · refine W_skip ?_
      refine W_reg ?_
      refine s_val (wn rfl) rfl rfl (py_add rfl rfl (in64 ⟨by omega, by omega⟩)) (s_val (wn rfl) rfl rfl (py_move rfl) ?_)
      refine s_nil ?_
      refine ⟨k + 1, ⟨rfl, rfl, rfl, rfl, trivial⟩, ⟨(H2.ftake 1), by omega, fun i hi => ?_⟩, by dsimp only; omega⟩
      by_cases e : i = k
      · subst e; exact c2
      · exact he i (by omega)
  · refine W_exit ?_
    refine W_seq ?_
    refine W_reg ?_
    refine s_val (wn rfl) rfl rfl (py_assign rfl) ?_
    refine s_nil ?_
    refine W_ret (hQ _ _ (fin1 Try.results179 rfl ?_))
    exact ⟨H1.ext, congrArg (Value.int .i64) (firstOf_no (d := []) (fun i hi => he i (by omega))).symm⟩
theorem Try_ContainsFunc_bad40 {w : World} {xs : List (List UInt8)} {xsA : Option Addr} {xsC : Nat} (xsS : Sees w [.slice xsA xs.length xsC] xs) : Ret Try.prog 151 #[.slice xsA xs.length xsC, .func (.func 158) #[] #[]] w fun v w' => Ext No w w' ∧ (v = .bool (decide (0 ≤ firstOf bad40 xs))) := by
  have xsL := sees_len xsS
  unfold maxLen at xsL
  obtain ⟨xsF, xsO⟩ := xsS
  refine ret_Q (vs := [.slice xsA xs.length xsC, .func (.func 158) #[] #[]]) Try.func151 rfl Try.ntmps151 rfl (fun Q hQ hN => ?_)
  have H0 := Sep.start (w := w) (F := [seen false [.slice xsA xs.length xsC] xs xsF]) (all_cons xsO (by simp))
  refine W_seq ?_
  refine W_reg ?_
  refine s_val (wn rfl) rfl rfl (py_assign rfl) ?_
  refine s_nil ?_
  refine W_seq ?_
  refine W_reg ?_
  refine s_val (wn rfl) rfl rfl (py_move rfl) (s_val (wn rfl) rfl rfl (py_move rfl) ?_)
  refine s_call (wn rfl) rfl rfl (pc_call Try.func179 rfl Try_nm179 rfl) (Try_IndexFunc_bad40 (H0.sees 0 rfl)) (fun v1 w1 r1 => ?_)
  obtain ⟨e1, rfl⟩ := r1
  have H1 := H0.to e1
  refine s_val (wn rfl) rfl rfl (py_geq rfl rfl) (s_val (wn rfl) rfl rfl (py_assign rfl) ?_)
  refine s_nil ?_
  refine W_ret (hQ _ _ (fin1 Try.results151 rfl ?_))
  exact ⟨H1.ext, rfl⟩
theorem Try_impl_rowCode_partOK {w : World} {n s : Int} {xs : List (List UInt8)} {xsA : Option Addr} {xsC : Nat} (hn : 0 ≤ n ∧ n ≤ 1000 ∧ 0 ≤ s ∧ s ≤ 1000) (xsS : Sees w [.slice xsA xs.length xsC] xs) : Ret Try.prog 113 #[.agg #[.int .i64 n, .int .i64 s], .slice xsA xs.length xsC] w fun v w' => Ext No w w' ∧ (v = .bool (partL (n + s) xs)) := by
  have xsL := sees_len xsS
  unfold maxLen at xsL
  obtain ⟨xsF, xsO⟩ := xsS
  refine ret_Q (vs := [.agg #[.int .i64 n, .int .i64 s], .slice xsA xs.length xsC]) Try.func113 rfl Try.ntmps113 rfl (fun Q hQ hN => ?_)
  have H0 := Sep.start (w := w) (F := [seen false [.slice xsA xs.length xsC] xs xsF]) (all_cons xsO (by simp))
  refine W_seq ?_
  refine W_reg ?_
  refine s_box (wn rfl) rfl rfl H0 (fun b1 w1 e1 g1 H1 => ?_)
  refine s_val (wn rfl) rfl rfl (py_assign rfl) ?_
  refine s_nil ?_
  refine W_seq ?_
  refine W_drw (S := Ext No _) [(0, true), (2, true), (1, false), (3, false), (4, true), (5, true), (6, true), (7, false), (8, true), (9, true), (10, false)] (by kernel_rfl) (by kernel_rfl) (by kernel_rfl) rfl (fun _ => Ext.refl.drawn _) (fun q1 => ?_)
  have H2 := H1.drawn q1
  refine d_val rfl (wn rfl) rfl rfl (fun zw hx => py_move rfl) (d_val rfl (wn rfl) rfl rfl (fun zw hx => py_loadS Try.underlying105 rfl Try.sizeOf105 rfl rfl (At.whole (hx.heap (H2.box 0 rfl)))) ?_)
  refine d_call rfl (wn rfl) rfl rfl (pc_call Try.func150 rfl Try_nm150 rfl) (Try_impl_size_byte (H2.sees 0 rfl)) (fun hS _ _ r _ => hS.trans r.1.no) (fun v1 w2 r1 => ?_)
  obtain ⟨e2, rfl⟩ := r1
  have H3 := H2.to e2
  refine d_call rfl (wn rfl) rfl rfl (pc_call Try.func107 rfl Try_nm107 rfl) (Try_impl_rowCode_blocks (by omega)) (fun hS _ _ r _ => hS.trans r.1.no) (fun v2 w3 r2 => ?_)
  obtain ⟨e3, rfl⟩ := r2
  have H4 := H3.to e3
  refine d_val rfl (wn rfl) rfl rfl (fun zw hx => py_eql rfl rfl) (d_val rfl (wn rfl) rfl rfl (fun zw hx => py_move rfl) ?_)
  refine d_case (t := 10) rfl (fun hg1 => ?_) (fun hg1 => ?_)
  · try simp only [decide_eq_true_eq, decide_eq_false_iff_not] at hg1
    refine d_val rfl (wg rfl rfl rfl) rfl rfl (fun zw hx => py_move rfl) ?_
    refine d_call rfl (wg rfl rfl rfl) rfl rfl (pc_call Try.func151 rfl Try_nm151 rfl) (Try_ContainsFunc_bad40 (H4.sees 0 rfl)) (fun hS _ _ r _ => hS.trans r.1.no) (fun v3 w4 r3 => ?_)
    obtain ⟨e4, rfl⟩ := r3
    have H5 := H4.to e4
    refine d_val rfl (wg rfl rfl rfl) rfl rfl (fun zw hx => py_notd rfl) (d_val rfl (wn rfl) rfl rfl (fun zw hx => py_pickT rfl rfl) (d_end rfl (wn rfl) rfl rfl (py_assign rfl) ?_))
    refine d_nil ?_
    refine W_ret (hQ _ _ (fin1 Try.results113 rfl ?_))
    exact ⟨H5.ext, congrArg Value.bool (by rw [partL_eq, decide_eq_true hg1, Bool.true_and]; exact decide_not)⟩
  · try simp only [decide_eq_true_eq, decide_eq_false_iff_not] at hg1
    refine d_skip rfl (wog (b := false) rfl rfl rfl) rfl rfl (d_skipA rfl (wog (b := false) rfl rfl rfl) rfl rfl (d_skip rfl (wog (b := false) rfl rfl rfl) rfl rfl (d_val rfl (wn rfl) rfl rfl (fun zw hx => py_pickF rfl rfl) (d_end rfl (wn rfl) rfl rfl (py_assign rfl) ?_))))
    refine d_nil ?_
    refine W_ret (hQ _ _ (fin1 Try.results113 rfl ?_))
    exact ⟨H4.ext, congrArg Value.bool (by rw [partL_eq, decide_eq_false hg1, Bool.false_and])⟩
theorem Try_spec_l2Asked {w : World} {x : Int} {y : Int} {xs : List (List UInt8)} {xsA : Option Addr} {xsC : Nat} (xsS : Sees w [.slice xsA xs.length xsC] xs) : Ret Try.prog 111 #[.int .i64 x, .int .i64 y, .slice xsA xs.length xsC] w fun v w' => Ext No w w' ∧ (v = .int .i64 (asked x y xs)) := by
  have xsL := sees_len xsS
  unfold maxLen at xsL
  obtain ⟨xsF, xsO⟩ := xsS
  refine ret_Q (vs := [.int .i64 x, .int .i64 y, .slice xsA xs.length xsC]) Try.func111 rfl Try.ntmps111 rfl (fun Q hQ hN => ?_)
  have H0 := Sep.start (w := w) (F := [seen false [.slice xsA xs.length xsC] xs xsF]) (all_cons xsO (by simp))
  refine W_seq ?_
  refine W_reg ?_
  refine s_val (wn rfl) rfl rfl (py_assign rfl) ?_
  refine s_nil ?_
  refine W_seq ?_
  refine W_seq ?_
  refine W_reg ?_
  refine s_val (wn rfl) rfl rfl (py_move rfl) (s_val (wn rfl) rfl rfl (py_move rfl) ?_)
  refine s_call (wn rfl) rfl rfl (pc_call Try.func79 rfl Try_nm79 rfl) Try_spec_l2Shape (fun v1 w1 r1 => ?_)
  obtain ⟨e1, rfl⟩ := r1
  have H1 := H0.to e1
  refine s_val (wn rfl) rfl rfl (py_not rfl) ?_
  refine s_nil ?_
  refine W_if rfl (fun c1 => ?_) (fun c1 => ?_)
  · refine W_seq ?_
    refine W_reg ?_
    refine s_val (wn rfl) rfl rfl (py_assign rfl) ?_
    refine s_nil ?_
    refine W_ret (hQ _ _ (fin1 Try.results111 rfl ?_))
    exact ⟨H1.ext, by rw [asked_range (not_true c1)]⟩
  · refine W_skip ?_
    refine W_seq ?_
    refine W_seq ?_
    have bd := rOK_bd (not_false c1)
    refine W_reg ?_
    refine s_val (wn rfl) rfl rfl (py_move rfl) (s_val (wn rfl) rfl rfl (py_len Try.underlying43 rfl) (s_val (wn rfl) rfl rfl (py_move rfl) (s_val (wn rfl) rfl rfl (py_move rfl) (s_val (wn rfl) rfl rfl (py_add rfl rfl (in64 ⟨by omega, by omega⟩)) (s_val (wn rfl) rfl rfl (py_neq rfl rfl) ?_)))))
    refine s_nil ?_
    refine W_ifd rfl (fun c2 => ?_) (fun c2 => ?_)
    · refine W_seq ?_
      refine W_reg ?_
      refine s_val (wn rfl) rfl rfl (py_assign rfl) ?_
      refine s_nil ?_
      refine W_ret (hQ _ _ (fin1 Try.results111 rfl ?_))
      exact ⟨H1.ext, by rw [asked_form (not_false c1) (by rw [partL, decide_eq_false c2]; rfl)]⟩
    · refine W_skip ?_
      refine W_seq ?_
      refine W_seq ?_
      refine W_reg ?_
      refine s_val (wn rfl) rfl rfl (py_assign rfl) ?_
      refine s_nil ?_
      refine W_block ?_
      refine W_loop (γ := Nat) (fun k => [(2, .slice xsA xs.length xsC), (7, .int .i64 k)]) (fun k w' => Sep No w [] [seen false [.slice xsA xs.length xsC] xs xsF] w' ∧ k ≤ xs.length ∧ (∀ i, i < k → bad40 (xs.getD i []) = false)) (fun k => xs.length - k) 0 ⟨rfl, rfl, trivial⟩ ⟨H1, by omega, fun i hi => by omega⟩ (fun k w2 H2 => ?_)
      obtain ⟨H2, hk, he⟩ := H2
      refine W_seq ?_
      refine W_seq ?_
      refine W_reg ?_
      refine s_val (wn rfl) rfl rfl (py_move rfl) (s_val (wn rfl) rfl rfl (py_move rfl) (s_val (wn rfl) rfl rfl (py_len Try.underlying43 rfl) (s_val (wn rfl) rfl rfl (py_lss rfl rfl) ?_)))
      refine s_nil ?_
      refine W_ifd rfl (fun c3 => ?_) (fun c3 => ?_)
      · refine W_skip ?_
        refine W_seq ?_
        refine W_block ?_
        refine W_seq ?_
        obtain ⟨eb1, eo1, ea1, ek1, ef1, ee1, ec1, eO1, eH1⟩ := elem_sl (H2.seen 0 rfl) k (by omega)
        have eP1 := H2.look1 0 rfl eO1 eH1
        refine W_reg ?_
        refine s_val (wn rfl) rfl rfl (py_move rfl) (s_val (wn rfl) rfl rfl (py_move rfl) (s_val (wn rfl) rfl rfl (py_elz Try.underlying43 Try.sizeOf34 rfl rfl ee1 k (by omega) (by omega)) (s_val (wn rfl) rfl rfl (py_load Try.underlying34 rfl rfl ec1) (s_val (wn rfl) rfl rfl (py_len Try.underlying34 rfl) (s_val (wn rfl) rfl rfl (py_neq rfl rfl) (s_val (wn rfl) rfl rfl (py_move rfl) ?_))))))
        refine s_grp 6 (j := 6) (want := true) (t := 36) rfl rfl rfl rfl (fun hg1 kk1 => s_val (wgE rfl rfl rfl hg1) rfl rfl (py_move rfl) (s_val (wgE rfl rfl rfl hg1) rfl rfl (py_move rfl) (s_val (wgE rfl rfl rfl hg1) rfl rfl (py_elz Try.underlying43 Try.sizeOf34 rfl rfl ee1 k (by first | omega | (simp only [Bool.or_eq_false_iff, Bool.and_eq_true, Bool.and_eq_false_iff, Bool.or_eq_true, Bool.not_eq_true', Bool.not_eq_false', decide_eq_true_eq, decide_eq_false_iff_not] at hg1; omega)) (by omega)) (s_val (wgE rfl rfl rfl hg1) rfl rfl (py_load Try.underlying34 rfl rfl ec1) (s_val (wgE rfl rfl rfl hg1) rfl rfl (py_len Try.underlying34 rfl) (s_val (wgE rfl rfl rfl hg1) rfl rfl (py_neq rfl rfl) (kk1 _ _ (kx rfl (kx rfl (kx rfl (kx rfl (kx rfl (kx rfl k0)))))) rfl Ext.refl))))))) (fun w3 e2 => ?_)
        have H3 := eP1.to e2
        refine s_val (wn rfl) rfl rfl (py_band rfl rfl) ?_
        refine s_nil ?_
        refine W_if rfl (fun c4 => ?_) (fun c4 => ?_)
        · refine W_seq ?_
          refine W_reg ?_
          refine s_val (wn rfl) rfl rfl (py_assign rfl) ?_
          refine s_nil ?_
          refine W_ret (hQ _ _ (fin1 Try.results111 rfl ?_))
          exact ⟨H3.ext, by rw [asked_form (not_false c1) (by rw [partL, any_bad (k := k) (by omega) (by rw [bad40, Bool.and_comm]; exact c4)]; simp)]⟩
        · refine W_skip ?_
          refine W_reg ?_
          refine s_val (wn rfl) rfl rfl (py_move rfl) (s_val (wn rfl) rfl rfl (py_add rfl rfl (in64 ⟨by omega, by omega⟩)) (s_val (wn rfl) rfl rfl (py_assign rfl) ?_))
          refine s_nil ?_
          refine ⟨k + 1, ⟨rfl, rfl, trivial⟩, ⟨(H3.ftake 1), by omega, fun i hi => ?_⟩, by dsimp only; omega⟩
          by_cases e : i = k
          · subst e; rw [bad40, Bool.and_comm]; exact c4
          · exact he i (by omega)
      · refine W_exit ?_
        refine W_seq ?_
        refine W_reg ?_
        refine s_val (wn rfl) rfl rfl (py_assign rfl) ?_
        refine s_nil ?_
        refine W_ret (hQ _ _ (fin1 Try.results111 rfl ?_))
        exact ⟨H2.ext, by rw [asked_ok (not_false c1) (by rw [partL, any_good (fun i hi => he i (by omega)), decide_eq_true (by omega)]; rfl)]⟩
theorem Try_impl_rowCode_decode {w : World} {n s : Nat} {xs : List (List UInt8)} {xsA : Option Addr} {xsC : Nat} (hn : 1 ≤ n ∧ n ≤ 3 ∧ s ≤ 2) (hl : xs.length = n + s) (h4 : Part xs) (xsS : Sees w [.slice xsA xs.length xsC] xs) : Ret Try.prog 114 #[.agg #[.int .i64 n, .int .i64 s], .slice xsA xs.length xsC] w fun v w' => Ext No w w' ∧ (∃ A C, v = .tuple #[.slice A (decL n xs).length C, .bool (decOk n xs)] ∧ Res w w' [.slice A (decL n xs).length C] (decL n xs)) := by
  have xsL := sees_len xsS
  unfold maxLen at xsL
  obtain ⟨xsF, xsO⟩ := xsS
  refine ret_Q (vs := [.agg #[.int .i64 n, .int .i64 s], .slice xsA xs.length xsC]) Try.func114 rfl Try.ntmps114 rfl (fun Q hQ hN => ?_)
  have H0 := Sep.start (w := w) (F := [seen false [.slice xsA xs.length xsC] xs xsF]) (all_cons xsO (by simp))
  refine W_seq ?_
  refine W_reg ?_
  refine s_box (wn rfl) rfl rfl H0 (fun b1 w1 e1 g1 H1 => ?_)
  refine s_val (wn rfl) rfl rfl (py_assign rfl) (s_val (wn rfl) rfl rfl (py_assign rfl) ?_)
  refine s_nil ?_
  refine W_seq ?_
  refine W_reg ?_
  refine s_lit0 (α := Int) (wn rfl) rfl Try.underlying33 Try_ty2 H1 (fun b2 w2 e2 g2 H2 => ?_)
  refine s_lit0 (α := View) (wn rfl) rfl Try.underlying43 Try_ty34 H2 (fun b3 w3 e3 g3 H3 => ?_)
  refine s_val (wn rfl) rfl rfl (py_assign rfl) (s_val (wn rfl) rfl rfl (py_assign rfl) ?_)
  refine s_nil ?_
  refine W_seq ?_
  refine W_seq ?_
  have HR := H3.noRows (β := UInt8)
  try dsimp only [List.nil_append, List.cons_append, List.set_cons_zero, List.set_cons_succ] at HR
  refine W_reg ?_
  refine s_val (wn rfl) rfl rfl (py_move rfl) (s_val (wn rfl) rfl rfl (py_len Try.underlying43 rfl) (s_val (wn rfl) rfl rfl (py_move rfl) ?_))
  refine s_nil ?_
  refine W_block ?_
  refine W_loop (γ := Nat × Value × List Nat × Value × List View × List Nat × List Nat) (fun (k, vo, f, vp, vs, f2, g) => [(2, .pointer (some ⟨b1, 0, none⟩)), (6, vo), (7, vp), (14, .slice xsA xs.length xsC), (15, .int .i64 xs.length), (16, .int .i64 k)]) (fun (k, vo, f, vp, vs, f2, g) w' => Sep No w [box b1 (.cells #[.int .i64 n, .int .i64 s] 105), mine [vo] (haveTo xs n k) f, mine [vp] vs f2] [seen false [.slice xsA xs.length xsC] xs xsF, rows vs (thereTo xs n k) g] w' ∧ k ≤ xs.length ∧ vs.length = (thereTo xs n k).length) (fun (k, vo, f, vp, vs, f2, g) => xs.length - k) (0, _, _, _, _, _, _) ⟨rfl, rfl, rfl, rfl, rfl, rfl, trivial⟩ ⟨HR, by omega, rfl⟩ (fun (k, vo, f, vp, vs, f2, g) w4 H4 => ?_)
  obtain ⟨H4, hk, vl⟩ := H4
  refine W_seq ?_
  refine W_reg ?_
  refine s_val (wn rfl) rfl rfl (py_lss rfl rfl) ?_
  refine s_nil ?_
  refine W_seq ?_
  refine W_ifd rfl (fun c1 => ?_) (fun c1 => ?_)
  · refine W_skip ?_
    refine W_seq ?_
    refine W_block ?_
    refine W_seq ?_
    obtain ⟨eb1, eo1, ea1, ek1, ef1, ee1, ec1, eO1, eH1⟩ := elem_sl (H4.seen 0 rfl) k (by omega)
    have eP1 := H4.look1 0 rfl eO1 eH1
    refine W_reg ?_
    refine s_val (wn rfl) rfl rfl (py_move rfl) (s_val (wn rfl) rfl rfl (py_elz Try.underlying43 Try.sizeOf34 rfl rfl ee1 k (by omega) (by omega)) (s_val (wn rfl) rfl rfl (py_load Try.underlying34 rfl rfl ec1) (s_val (wn rfl) rfl rfl (py_assign rfl) (s_val (wn rfl) rfl rfl (py_assign rfl) ?_))))
    refine s_nil ?_
    refine W_seq ?_
    refine W_drw (S := Ext No _) [(0, true), (1, true), (2, true), (3, true), (4, true), (6, true), (7, true), (5, false), (8, true), (9, false)] (by kernel_rfl) (by kernel_rfl) (by kernel_rfl) rfl (fun _ => Ext.refl.drawn _) (fun q1 => ?_)
    have H5 := eP1.drawn q1
    refine d_val rfl (wn rfl) rfl rfl (fun zw hx => py_move rfl) (d_val rfl (wn rfl) rfl rfl (fun zw hx => py_len Try.underlying34 rfl) (d_val rfl (wn rfl) rfl rfl (fun zw hx => py_gtr rfl rfl) (d_val rfl (wn rfl) rfl rfl (fun zw hx => py_move rfl) ?_)))
    refine d_case (t := 24) rfl (fun hg1 => ?_) (fun hg1 => ?_)
    · try simp only [decide_eq_true_eq, decide_eq_false_iff_not] at hg1
      refine d_val rfl (wg rfl rfl rfl) rfl rfl (fun zw hx => py_move rfl) (d_val rfl (wg rfl rfl rfl) rfl rfl (fun zw hx => py_field Try.underlying105 rfl Try.sizeOf2 rfl rfl) (d_val rfl (wg rfl rfl rfl) rfl rfl (fun zw hx => py_load Try.underlying2 rfl rfl (cell_atL (hx.heap (H5.box 0 rfl)) rfl)) ?_))
      obtain ⟨a1, k1, q2⟩ := own_slice (H5.mine 1 rfl)
      cases q2
      refine d_call rfl (wg rfl rfl rfl) rfl rfl (pc_call Try.func105 rfl Try_nm105 rfl) (Try_impl_size_int64 (H5.msees 1 rfl)) (fun hS _ _ r _ => hS.trans r.1.no) (fun v1 w5 r1 => ?_)
      obtain ⟨e4, rfl⟩ := r1
      have H6 := H5.to e4
      refine d_val rfl (wg rfl rfl rfl) rfl rfl (fun zw hx => py_lss rfl rfl) (d_end rfl (wn rfl) rfl rfl (py_pickT rfl rfl) ?_)
      refine d_nil ?_
      refine W_ifd rfl (fun c2 => ?_) (fun c2 => ?_)
      · have tl := there_len (xs := xs) (n := n) (k := k)
        have hl9 := have_le (xs := xs) (n := n) (k := k)
        refine W_reg ?_
        refine s_val (wn rfl) rfl rfl (py_move rfl) (s_val (wn rfl) rfl rfl (py_move rfl) ?_)
        refine s_lit1 (wn rfl) rfl Try.underlying33 Try_ty2 rfl rfl rfl rfl H6 (fun b4 w6 e5 g4 H7 => ?_)
        refine s_app1 (wn rfl) rfl Try.underlying33 Try_ty2 rfl rfl rfl H7 1 3 rfl rfl (own_bi (by first | assumption | (unfold I64ok; omega))) (by unfold maxLen; omega) (by omega) (fun v2 w7 fp1 H8 => ?_)
        refine s_val (wn rfl) rfl rfl (py_move rfl) (s_val (wn rfl) rfl rfl (py_move rfl) ?_)
        refine s_lit1 (wn rfl) rfl Try.underlying43 Try_ty34 rfl rfl rfl rfl H8 (fun b5 w8 e6 g5 H9 => ?_)
        refine s_app1 (α := View) (u := ⟨_, _, _⟩) (wn rfl) rfl Try.underlying43 Try_ty34 rfl rfl rfl H9 2 4 rfl rfl ⟨rfl, rfl⟩ (by unfold maxLen; omega) (by omega) (fun v3 w9 fp2 H10 => ?_)
        try dsimp only [List.nil_append, List.cons_append, List.set_cons_zero, List.set_cons_succ] at H10
        obtain ⟨rg1, H11, rh1⟩ := H10.rowApp 1 2 rfl rfl (by first | assumption | omega)
        try dsimp only [List.nil_append, List.cons_append, List.set_cons_zero, List.set_cons_succ] at H11
        refine s_val (wn rfl) rfl rfl (py_assign rfl) (s_val (wn rfl) rfl rfl (py_assign rfl) ?_)
        refine s_nil ?_
        refine W_reg ?_
        refine s_val (wn rfl) rfl rfl (py_add rfl rfl (in64 ⟨by omega, by omega⟩)) (s_val (wn rfl) rfl rfl (py_move rfl) ?_)
        refine s_nil ?_
        have hy := have_yes (xs := xs) (n := n) (k := k) ⟨by omega, by omega⟩
        have hz := ((H11.ftake 2).dtake 3)
        rw [← hy.1, ← hy.2] at hz
        refine ⟨(k + 1, _, _, _, _, _, _), ⟨rfl, rfl, rfl, rfl, rfl, rfl, trivial⟩, ⟨hz, by omega, (by rw [hy.2, List.length_append, List.length_append]; simp only [List.length_cons, List.length_nil]; omega)⟩, by dsimp only; omega⟩
      · refine W_skip ?_
        refine W_reg ?_
        refine s_val (wn rfl) rfl rfl (py_add rfl rfl (in64 ⟨by omega, by omega⟩)) (s_val (wn rfl) rfl rfl (py_move rfl) ?_)
        refine s_nil ?_
        have hy := have_no (xs := xs) (n := n) (k := k) (by omega)
        have hz := (H6.ftake 2)
        refine ⟨(k + 1, _, _, _, _, _, _), ⟨rfl, rfl, rfl, rfl, rfl, rfl, trivial⟩, ⟨(by rw [hy.1, hy.2]; exact hz), by omega, (by rw [hy.2]; exact vl)⟩, by dsimp only; omega⟩
    · try simp only [decide_eq_true_eq, decide_eq_false_iff_not] at hg1
      refine d_skip rfl (wog (b := false) rfl rfl rfl) rfl rfl (d_skip rfl (wog (b := false) rfl rfl rfl) rfl rfl (d_skip rfl (wog (b := false) rfl rfl rfl) rfl rfl (d_skipA rfl (wog (b := false) rfl rfl rfl) rfl rfl (d_skip rfl (wog (b := false) rfl rfl rfl) rfl rfl (d_end rfl (wn rfl) rfl rfl (py_pickF rfl rfl) ?_)))))
      refine d_nil ?_
      refine W_iff rfl ?_
      refine W_skip ?_
      refine W_reg ?_
      refine s_val (wn rfl) rfl rfl (py_add rfl rfl (in64 ⟨by omega, by omega⟩)) (s_val (wn rfl) rfl rfl (py_move rfl) ?_)
      refine s_nil ?_
      have hy := have_no (xs := xs) (n := n) (k := k) (by omega)
      have hz := (H5.ftake 2)
      refine ⟨(k + 1, _, _, _, _, _, _), ⟨rfl, rfl, rfl, rfl, rfl, rfl, trivial⟩, ⟨(by rw [hy.1, hy.2]; exact hz), by omega, (by rw [hy.2]; exact vl)⟩, by dsimp only; omega⟩
  · refine W_exit ?_
    refine W_seq ?_
    refine W_seq ?_
    obtain rfl : k = xs.length := by omega
    have hl8 := have_le (xs := xs) (n := n) (k := xs.length)
    refine W_drw (S := Ext No _) [(0, true), (2, true), (3, true), (1, false), (4, false)] (by kernel_rfl) (by kernel_rfl) (by kernel_rfl) rfl (fun _ => Ext.refl.drawn _) (fun q3 => ?_)
    have H12 := H4.drawn q3
    refine d_val rfl (wn rfl) rfl rfl (fun zw hx => py_move rfl) (d_val rfl (wn rfl) rfl rfl (fun zw hx => py_field Try.underlying105 rfl Try.sizeOf2 rfl rfl) (d_val rfl (wn rfl) rfl rfl (fun zw hx => py_load Try.underlying2 rfl rfl (cell_atL (hx.heap (H12.box 0 rfl)) rfl)) ?_))
    obtain ⟨a2, k2, q4⟩ := own_slice (H12.mine 1 rfl)
    cases q4
    refine d_call rfl (wn rfl) rfl rfl (pc_call Try.func105 rfl Try_nm105 rfl) (Try_impl_size_int64 (H12.msees 1 rfl)) (fun hS _ _ r _ => hS.trans r.1.no) (fun v4 w10 r2 => ?_)
    obtain ⟨e7, rfl⟩ := r2
    have H13 := H12.to e7
    refine d_end rfl (wn rfl) rfl rfl (py_lss rfl rfl) ?_
    refine d_nil ?_
    refine W_ifd rfl (fun c3 => ?_) (fun c3 => ?_)
    · refine W_seq ?_
      refine W_reg ?_
      refine s_val (wn rfl) rfl rfl (py_assign rfl) (s_val (wn rfl) rfl rfl (py_assign rfl) ?_)
      refine s_nil ?_
      refine W_ret (hQ _ _ (fin2 Try.results114 rfl rfl ?_))
      obtain ⟨e1, e2, _⟩ := dec_no (xs := xs) (n := n) (by omega)
      exact ⟨H13.ext, none, 0, (by rw [e1, e2]; rfl), (by rw [e2]; exact ⟨[], .inr (.inl ⟨rfl, rfl, rfl⟩), .nil, by simp⟩)⟩
    · refine W_skip ?_
      refine W_seq ?_
      have tl := there_len (xs := xs) (n := n) (k := xs.length)
      have hl9 := have_le (xs := xs) (n := n) (k := xs.length)
      obtain ⟨pA, pC, pq⟩ := own_slice (H13.mine 2 rfl)
      rw [vl] at pq
      cases pq
      obtain ⟨tf, HV, _⟩ := H13.viewsIn 2 1 rfl rfl vl
      try dsimp only [List.nil_append, List.cons_append, List.set_cons_zero, List.set_cons_succ] at HV
      have hh : (haveTo xs n xs.length).length = n := by omega
      have hth : (thereTo xs n xs.length).length = n := by omega
      have ht4 := there4 (n := n) h4
      have hra : ∀ i, i < n → 0 ≤ (haveTo xs n xs.length).getD i 0 ∧ (haveTo xs n xs.length).getD i 0 ≤ 500 := fun i hi => by have := have_at (xs := xs) (n := n) (k := xs.length) i (by omega); omega
      have hrz : rises (haveTo xs n xs.length) ((n : Int) + s - 1) = true := by have := have_rises (xs := xs) (n := n) (k := xs.length); rwa [show ((xs.length : Nat) : Int) - 1 = (n : Int) + s - 1 by omega] at this
      refine W_reg ?_
      refine s_lit0 (α := UInt8) (wn rfl) rfl Try.underlying34 Try_ty5 HV (fun b6 w11 e8 g6 H14 => ?_)
      refine s_val (wn rfl) rfl rfl (py_assign rfl) ?_
      refine s_nil ?_
      refine W_seq ?_
      refine W_seq ?_
      refine W_reg ?_
      refine s_val (wn rfl) rfl rfl (py_field Try.underlying105 rfl Try.sizeOf2 rfl rfl) (s_val (wn rfl) rfl rfl (py_load Try.underlying2 rfl rfl (cell_atL (H14.box 0 rfl) rfl)) (s_val (wn rfl) rfl rfl (py_move rfl) ?_))
      refine s_nil ?_
      refine W_block ?_
      refine W_loop (γ := Nat × Value × List Nat) (fun (i, vo, f3) => [(2, .pointer (some ⟨b1, 0, none⟩)), (6, .slice a2 (haveTo xs n xs.length).length k2), (7, .slice pA (thereTo xs n xs.length).length pC), (10, vo), (47, .int .i64 n), (48, .int .i64 i)]) (fun (i, vo, f3) w' => Sep No w [box b1 (.cells #[.int .i64 n, .int .i64 s] 105), mine [.slice a2 (haveTo xs n xs.length).length k2] (haveTo xs n xs.length) f, gone, mine [vo] (decTo n xs i) f3] _ w' ∧ i ≤ n) (fun (i, vo, f3) => n - i) (0, _, _) ⟨rfl, rfl, rfl, rfl, rfl, rfl, trivial⟩ ⟨H14, by omega⟩ (fun (i, vo, f3) w12 H15 => ?_)
      obtain ⟨H15, hi⟩ := H15
      refine W_seq ?_
      refine W_reg ?_
      refine s_val (wn rfl) rfl rfl (py_lss rfl rfl) ?_
      refine s_nil ?_
      refine W_seq ?_
      refine W_ifd rfl (fun c4 => ?_) (fun c4 => ?_)
      · refine W_skip ?_
        refine W_seq ?_
        refine W_block ?_
        refine W_seq ?_
        refine W_reg ?_
        refine s_val (wn rfl) rfl rfl (py_move rfl) (s_val (wn rfl) rfl rfl (py_assign rfl) ?_)
        refine s_nil ?_
        have bl := way_len (n := n) (s := s) (hs := (haveTo xs n xs.length)) (x := (i : Int)) (by omega) (by omega) hrz (by omega) (by omega)
        have ml := mixTo_len (cs := betw n (haveTo xs n xs.length) i 0) ht4 (k := (thereTo xs n xs.length).length) (Nat.le_refl _)
        have dl := decTo_len (n := n) h4 i
        refine W_reg ?_
        refine s_val (wn rfl) rfl rfl (py_move rfl) (s_val (wn rfl) rfl rfl (py_move rfl) (s_val (wn rfl) rfl rfl (py_loadS Try.underlying105 rfl Try.sizeOf105 rfl rfl (At.whole (H15.box 0 rfl))) (s_val (wn rfl) rfl rfl (py_move rfl) (s_val (wn rfl) rfl rfl (py_move rfl) ?_))))
        refine s_call (wn rfl) rfl rfl (pc_call Try.func109 rfl Try_nm109 rfl) (Try_impl_rowCode_between (H15.msees 1 rfl) (by omega) (by first | assumption | omega) (by assumption) (by first | assumption | omega)) (fun v5 w13 r3 => ?_)
        obtain ⟨e9, r3⟩ := r3
        obtain ⟨fp3, H16⟩ := H15.res e9 r3
        obtain ⟨a3, k3, q5⟩ := own_slice (H16.mine 4 rfl)
        cases q5
        refine s_call (wn rfl) rfl rfl (pc_call Try.func137 rfl Try_nm137 rfl) (Try_impl_mixed (H16.sees 2 rfl) (H16.msees 4 rfl) (by omega) (by omega) (by assumption) (by omega)) (fun v6 w14 r4 => ?_)
        obtain ⟨e10, r4⟩ := r4
        obtain ⟨fp4, H17⟩ := H16.res e10 r4
        obtain ⟨a4, k4, q6⟩ := own_slice (H17.mine 5 rfl)
        cases q6
        refine s_appF (wn rfl) rfl Try.underlying34 Try_ty5 rfl rfl rfl H17 3 rfl (H17.mine 5 rfl) (by (try simp only [List.length_nil]); unfold maxLen; omega) (by (try simp only [List.length_nil]); omega) (fun v7 w15 fp5 H18 => ?_)
        refine s_val (wn rfl) rfl rfl (py_assign rfl) ?_
        refine s_nil ?_
        refine W_reg ?_
        refine s_val (wn rfl) rfl rfl (py_add rfl rfl (in64 ⟨by omega, by omega⟩)) (s_val (wn rfl) rfl rfl (py_move rfl) ?_)
        refine s_nil ?_
        have hz := (H18.dtake 4)
        rw [decTo_step] at hz
        refine ⟨(i + 1, _, _), ⟨rfl, rfl, rfl, rfl, rfl, rfl, trivial⟩, ⟨hz, by omega⟩, by dsimp only; omega⟩
      · refine W_exit ?_
        refine W_seq ?_
        refine W_reg ?_
        refine s_val (wn rfl) rfl rfl (py_move rfl) (s_val (wn rfl) rfl rfl (py_assign rfl) (s_val (wn rfl) rfl rfl (py_assign rfl) ?_))
        refine s_nil ?_
        refine W_ret (hQ _ _ (fin2 Try.results114 rfl rfl ?_))
        obtain rfl : n = i := by omega
        obtain ⟨e1, e2, _⟩ := dec_yes (xs := xs) (n := n) (by omega)
        obtain ⟨qa, qc, qq⟩ := own_slice (H15.mine 3 rfl)
        cases qq
        exact ⟨H15.ext, qa, qc, (by rw [e1, e2]), (by rw [e2]; exact H15.out 3 rfl)⟩
theorem Try_spec_l2Block {w : World} {n s : Nat} {p : Int} {xs : List (List UInt8)} {xsA : Option Addr} {xsC : Nat} (hn : 1 ≤ n ∧ n ≤ 3 ∧ s ≤ 2) (hl : xs.length = n + s) (h4 : Part xs) (hp : 0 ≤ p ∧ p ≤ (n : Int) + s - 1) (xsS : Sees w [.slice xsA xs.length xsC] xs) : Ret Try.prog 115 #[.int .i64 n, .slice xsA xs.length xsC, .int .i64 p] w fun v w' => Ext No w w' ∧ (∃ A C, v = .tuple #[.slice A (blkL n xs p).length C, .bool (decOk n xs)] ∧ Res w w' [.slice A (blkL n xs p).length C] (blkL n xs p)) := by
  have xsL := sees_len xsS
  unfold maxLen at xsL
  obtain ⟨xsF, xsO⟩ := xsS
  refine ret_Q (vs := [.int .i64 n, .slice xsA xs.length xsC, .int .i64 p]) Try.func115 rfl Try.ntmps115 rfl (fun Q hQ hN => ?_)
  have H0 := Sep.start (w := w) (F := [seen false [.slice xsA xs.length xsC] xs xsF]) (all_cons xsO (by simp))
  refine W_seq ?_
  refine W_reg ?_
  refine s_val (wn rfl) rfl rfl (py_assign rfl) (s_val (wn rfl) rfl rfl (py_assign rfl) ?_)
  refine s_nil ?_
  refine W_seq ?_
  refine W_reg ?_
  refine s_lit0 (α := Int) (wn rfl) rfl Try.underlying33 Try_ty2 H0 (fun b1 w1 e1 g1 H1 => ?_)
  refine s_val (wn rfl) rfl rfl (py_assign rfl) ?_
  refine s_nil ?_
  refine W_seq ?_
  refine W_reg ?_
  refine s_lit0 (α := View) (wn rfl) rfl Try.underlying43 Try_ty34 H1 (fun b2 w2 e2 g2 H2 => ?_)
  refine s_val (wn rfl) rfl rfl (py_assign rfl) ?_
  refine s_nil ?_
  refine W_seq ?_
  refine W_seq ?_
  have HR := H2.noRows (β := UInt8)
  try dsimp only [List.nil_append, List.cons_append, List.set_cons_zero, List.set_cons_succ] at HR
  refine W_reg ?_
  refine s_val (wn rfl) rfl rfl (py_assign rfl) ?_
  refine s_nil ?_
  refine W_block ?_
  refine W_loop (γ := Nat × Value × List Nat × Value × List View × List Nat × List Nat) (fun (k, vo, f, vp, vs, f2, g) => [(0, .int .i64 n), (1, .slice xsA xs.length xsC), (2, .int .i64 p), (8, vo), (9, vp), (10, .int .i64 k)]) (fun (k, vo, f, vp, vs, f2, g) w' => Sep No w [mine [vo] (haveTo xs n k) f, mine [vp] vs f2] [seen false [.slice xsA xs.length xsC] xs xsF, rows vs (thereTo xs n k) g] w' ∧ k ≤ xs.length ∧ vs.length = (thereTo xs n k).length) (fun (k, vo, f, vp, vs, f2, g) => xs.length - k) (0, _, _, _, _, _, _) ⟨rfl, rfl, rfl, rfl, rfl, rfl, trivial⟩ ⟨HR, by omega, rfl⟩ (fun (k, vo, f, vp, vs, f2, g) w3 H3 => ?_)
  obtain ⟨H3, hk, vl⟩ := H3
  refine W_seq ?_
  refine W_seq ?_
  obtain ⟨a1, k1, q1⟩ := own_slice (H3.mine 0 rfl)
  cases q1
  refine W_reg ?_
  refine s_val (wn rfl) rfl rfl (py_move rfl) (s_val (wn rfl) rfl rfl (py_move rfl) (s_val (wn rfl) rfl rfl (py_len Try.underlying43 rfl) (s_val (wn rfl) rfl rfl (py_lss rfl rfl) (s_val (wn rfl) rfl rfl (py_move rfl) ?_))))
  refine s_grp 4 (j := 4) (want := true) (t := 21) rfl rfl rfl rfl (fun hg1 kk1 => s_val (wgE rfl rfl rfl hg1) rfl rfl (py_move rfl) (s_val (wgE rfl rfl rfl hg1) rfl rfl (py_len Try.underlying33 rfl) (s_val (wgE rfl rfl rfl hg1) rfl rfl (py_move rfl) (s_val (wgE rfl rfl rfl hg1) rfl rfl (py_lss rfl rfl) (kk1 _ _ (kx rfl (kx rfl (kx rfl (kx rfl k0)))) rfl Ext.refl))))) (fun w4 e3 => ?_)
  have H4 := H3.to e3
  refine s_val (wn rfl) rfl rfl (py_band rfl rfl) ?_
  refine s_nil ?_
  refine W_if rfl (fun c1 => ?_) (fun c1 => ?_)
  · simp only [Bool.and_eq_true, decide_eq_true_eq] at c1
    refine W_skip ?_
    refine W_seq ?_
    refine W_block ?_
    refine W_seq ?_
    obtain ⟨eb1, eo1, ea1, ek1, ef1, ee1, ec1, eO1, eH1⟩ := elem_sl (H4.seen 0 rfl) k (by omega)
    have eP1 := H4.look1 0 rfl eO1 eH1
    refine W_reg ?_
    refine s_val (wn rfl) rfl rfl (py_move rfl) (s_val (wn rfl) rfl rfl (py_move rfl) (s_val (wn rfl) rfl rfl (py_elz Try.underlying43 Try.sizeOf34 rfl rfl ee1 k (by omega) (by omega)) (s_val (wn rfl) rfl rfl (py_load Try.underlying34 rfl rfl ec1) (s_val (wn rfl) rfl rfl (py_len Try.underlying34 rfl) (s_val (wn rfl) rfl rfl (py_gtr rfl rfl) ?_)))))
    refine s_nil ?_
    refine W_ifd rfl (fun c2 => ?_) (fun c2 => ?_)
    · refine W_seq ?_
      have tl := there_len (xs := xs) (n := n) (k := k)
      have hl9 := have_le (xs := xs) (n := n) (k := k)
      refine W_reg ?_
      refine s_val (wn rfl) rfl rfl (py_move rfl) (s_val (wn rfl) rfl rfl (py_move rfl) ?_)
      refine s_lit1 (wn rfl) rfl Try.underlying33 Try_ty2 rfl rfl rfl rfl eP1 (fun b3 w5 e4 g3 H5 => ?_)
      refine s_app1 (wn rfl) rfl Try.underlying33 Try_ty2 rfl rfl rfl H5 0 2 rfl rfl (own_bi (by first | assumption | (unfold I64ok; omega))) (by unfold maxLen; omega) (by omega) (fun v1 w6 fp1 H6 => ?_)
      refine s_val (wn rfl) rfl rfl (py_assign rfl) ?_
      refine s_nil ?_
      obtain ⟨eb2, eo2, ea2, ek2, ef2, ee2, ec2, eO2, eH2⟩ := elem_sl (H6.seen 0 rfl) k (by omega)
      have eP2 := H6.look1 0 rfl eO2 eH2
      refine W_reg ?_
      refine s_val (wn rfl) rfl rfl (py_move rfl) (s_val (wn rfl) rfl rfl (py_move rfl) (s_val (wn rfl) rfl rfl (py_move rfl) (s_val (wn rfl) rfl rfl (py_elz Try.underlying43 Try.sizeOf34 rfl rfl ee2 k (by omega) (by omega)) (s_val (wn rfl) rfl rfl (py_load Try.underlying34 rfl rfl ec2) ?_))))
      refine s_lit1 (wn rfl) rfl Try.underlying43 Try_ty34 rfl rfl rfl rfl eP2 (fun b4 w7 e5 g4 H7 => ?_)
      refine s_app1 (α := View) (u := ⟨_, _, _⟩) (wn rfl) rfl Try.underlying43 Try_ty34 rfl rfl rfl H7 1 3 rfl rfl ⟨rfl, rfl⟩ (by unfold maxLen; omega) (by omega) (fun v2 w8 fp2 H8 => ?_)
      try dsimp only [List.nil_append, List.cons_append, List.set_cons_zero, List.set_cons_succ] at H8
      obtain ⟨rg1, H9, rh1⟩ := H8.rowApp 1 3 rfl rfl (by first | assumption | omega)
      try dsimp only [List.nil_append, List.cons_append, List.set_cons_zero, List.set_cons_succ] at H9
      refine s_val (wn rfl) rfl rfl (py_assign rfl) ?_
      refine s_nil ?_
      refine W_reg ?_
      refine s_val (wn rfl) rfl rfl (py_move rfl) (s_val (wn rfl) rfl rfl (py_add rfl rfl (in64 ⟨by omega, by omega⟩)) (s_val (wn rfl) rfl rfl (py_assign rfl) ?_))
      refine s_nil ?_
      have hy := have_yes (xs := xs) (n := n) (k := k) ⟨by omega, by omega⟩
      have hz := ((H9.ftake 2).dtake 2)
      rw [← hy.1, ← hy.2] at hz
      refine ⟨(k + 1, _, _, _, _, _, _), ⟨rfl, rfl, rfl, rfl, rfl, rfl, trivial⟩, ⟨hz, by omega, (by rw [hy.2, List.length_append, List.length_append]; simp only [List.length_cons, List.length_nil]; omega)⟩, by dsimp only; omega⟩
    · refine W_skip ?_
      refine W_reg ?_
      refine s_val (wn rfl) rfl rfl (py_move rfl) (s_val (wn rfl) rfl rfl (py_add rfl rfl (in64 ⟨by omega, by omega⟩)) (s_val (wn rfl) rfl rfl (py_assign rfl) ?_))
      refine s_nil ?_
      have hy := have_no (xs := xs) (n := n) (k := k) (by omega)
      have hz := (eP1.ftake 2)
      refine ⟨(k + 1, _, _, _, _, _, _), ⟨rfl, rfl, rfl, rfl, rfl, rfl, trivial⟩, ⟨(by rw [hy.1, hy.2]; exact hz), by omega, (by rw [hy.2]; exact vl)⟩, by dsimp only; omega⟩
  · simp only [Bool.and_eq_false_iff, decide_eq_false_iff_not] at c1
    have hend := have_end hk c1
    refine W_exit ?_
    refine W_seq ?_
    refine W_seq ?_
    refine W_reg ?_
    refine s_val (wn rfl) rfl rfl (py_move rfl) (s_val (wn rfl) rfl rfl (py_len Try.underlying33 rfl) (s_val (wn rfl) rfl rfl (py_move rfl) (s_val (wn rfl) rfl rfl (py_lss rfl rfl) ?_)))
    refine s_nil ?_
    refine W_ifd rfl (fun c3 => ?_) (fun c3 => ?_)
    · refine W_seq ?_
      refine W_reg ?_
      refine s_val (wn rfl) rfl rfl (py_assign rfl) (s_val (wn rfl) rfl rfl (py_assign rfl) ?_)
      refine s_nil ?_
      refine W_ret (hQ _ _ (fin2 Try.results115 rfl rfl ?_))
      obtain ⟨e1, _, e2⟩ := dec_no (xs := xs) (n := n) (by rw [hend.1]; omega)
      exact ⟨H4.ext, none, 0, (by rw [e1, e2]; rfl), (by rw [e2]; exact ⟨[], .inr (.inl ⟨rfl, rfl, rfl⟩), .nil, by simp⟩)⟩
    · refine W_skip ?_
      refine W_seq ?_
      have hl9 := have_le (xs := xs) (n := n) (k := k)
      have tl := there_len (xs := xs) (n := n) (k := k)
      obtain ⟨pA, pC, pq⟩ := own_slice (H4.mine 1 rfl)
      rw [vl] at pq
      cases pq
      obtain ⟨tf, HV, _⟩ := H4.viewsIn 1 1 rfl rfl vl
      try dsimp only [List.nil_append, List.cons_append, List.set_cons_zero, List.set_cons_succ] at HV
      have hh : (haveTo xs n k).length = n := by omega
      have hth : (thereTo xs n k).length = n := by omega
      have ht4 := there4 (n := n) h4
      rw [hend.2] at ht4
      have hrz := rises_have (xs := xs) (n := n) (s := s) hl
      rw [hend.1] at hrz
      have hra : ∀ i, i < n → 0 ≤ (haveTo xs n k).getD i 0 ∧ (haveTo xs n k).getD i 0 ≤ 500 := fun i hi => by have := have_at (xs := xs) (n := n) (k := k) i (by omega); omega
      have bl := way_len (n := n) (s := s) (hs := (haveTo xs n k)) (x := p) (by omega) (by omega) hrz (by omega) (by omega)
      refine W_reg ?_
      refine s_val (wn rfl) rfl rfl (py_move rfl) (s_val (wn rfl) rfl rfl (py_move rfl) (s_val (wn rfl) rfl rfl (py_move rfl) (s_val (wn rfl) rfl rfl (py_move rfl) ?_)))
      refine s_call (wn rfl) rfl rfl (pc_call Try.func104 rfl Try_nm104 rfl) (Try_spec_l2Weights (HV.msees 0 rfl) (by omega) (by first | assumption | omega) (by assumption) (by first | assumption | omega)) (fun v3 w9 r1 => ?_)
      obtain ⟨e6, r1⟩ := r1
      obtain ⟨fp3, H10⟩ := HV.res e6 r1
      obtain ⟨a2, k2, q2⟩ := own_slice (H10.mine 2 rfl)
      cases q2
      refine s_call (wn rfl) rfl rfl (pc_call Try.func133 rfl Try_nm133 rfl) (Try_spec_l1Mix (H10.sees 2 rfl) (H10.msees 2 rfl) (by omega) (by omega) (by assumption) (by omega)) (fun v4 w10 r2 => ?_)
      obtain ⟨e7, r2⟩ := r2
      obtain ⟨fp4, H11⟩ := H10.res e7 r2
      obtain ⟨a3, k3, q3⟩ := own_slice (H11.mine 3 rfl)
      cases q3
      refine s_val (wn rfl) rfl rfl (py_assign rfl) (s_val (wn rfl) rfl rfl (py_assign rfl) ?_)
      refine s_nil ?_
      refine W_ret (hQ _ _ (fin2 Try.results115 rfl rfl ?_))
      obtain ⟨e1, _, e2⟩ := dec_yes (xs := xs) (n := n) (by rw [hend.1]; omega)
      have e3 := e2 p
      rw [decAt, hend.1, hend.2] at e3
      obtain ⟨qa, qc, qq⟩ := own_slice (H11.mine 3 rfl)
      exact ⟨H11.ext, _, _, (by rw [e1, e3]), (by rw [e3]; exact H11.out 3 rfl)⟩
theorem Try_spec_l2Decode {w : World} {n s : Nat} {xs : List (List UInt8)} {xsA : Option Addr} {xsC : Nat} (hn : 1 ≤ n ∧ n ≤ 3 ∧ s ≤ 2) (hl : xs.length = n + s) (h4 : Part xs) (xsS : Sees w [.slice xsA xs.length xsC] xs) : Ret Try.prog 112 #[.int .i64 n, .slice xsA xs.length xsC] w fun v w' => Ext No w w' ∧ (∃ A C, v = .tuple #[.slice A (decL n xs).length C, .bool (decOk n xs)] ∧ Res w w' [.slice A (decL n xs).length C] (decL n xs)) := by
  have xsL := sees_len xsS
  unfold maxLen at xsL
  obtain ⟨xsF, xsO⟩ := xsS
  refine ret_Q (vs := [.int .i64 n, .slice xsA xs.length xsC]) Try.func112 rfl Try.ntmps112 rfl (fun Q hQ hN => ?_)
  have H0 := Sep.start (w := w) (F := [seen false [.slice xsA xs.length xsC] xs xsF]) (all_cons xsO (by simp))
  refine W_seq ?_
  refine W_reg ?_
  refine s_val (wn rfl) rfl rfl (py_assign rfl) (s_val (wn rfl) rfl rfl (py_assign rfl) ?_)
  refine s_nil ?_
  refine W_seq ?_
  refine W_reg ?_
  refine s_lit0 (α := UInt8) (wn rfl) rfl Try.underlying34 Try_ty5 H0 (fun b1 w1 e1 g1 H1 => ?_)
  refine s_val (wn rfl) rfl rfl (py_assign rfl) ?_
  refine s_nil ?_
  refine W_seq ?_
  refine W_seq ?_
  refine W_reg ?_
  refine s_val (wn rfl) rfl rfl (py_assign rfl) ?_
  refine s_nil ?_
  refine W_block ?_
  refine W_loop (γ := Nat × Value × List Nat) (fun (i, vo, f) => [(0, .int .i64 n), (1, .slice xsA xs.length xsC), (6, vo), (7, .int .i64 i)]) (fun (i, vo, f) w' => Sep No w [mine [vo] (decTo n xs i) f] [seen false [.slice xsA xs.length xsC] xs xsF] w' ∧ i ≤ n ∧ (0 < i → decOk n xs = true)) (fun (i, vo, f) => n - i) (0, _, _) ⟨rfl, rfl, rfl, rfl, trivial⟩ ⟨H1, by omega, fun h => absurd h (by omega)⟩ (fun (i, vo, f) w2 H2 => ?_)
  obtain ⟨H2, hi, hok⟩ := H2
  refine W_seq ?_
  refine W_seq ?_
  refine W_reg ?_
  refine s_val (wn rfl) rfl rfl (py_move rfl) (s_val (wn rfl) rfl rfl (py_move rfl) (s_val (wn rfl) rfl rfl (py_lss rfl rfl) ?_))
  refine s_nil ?_
  refine W_ifd rfl (fun c1 => ?_) (fun c1 => ?_)
  · refine W_skip ?_
    refine W_seq ?_
    refine W_block ?_
    refine W_seq ?_
    refine W_reg ?_
    refine s_val (wn rfl) rfl rfl (py_move rfl) (s_val (wn rfl) rfl rfl (py_move rfl) (s_val (wn rfl) rfl rfl (py_move rfl) ?_))
    refine s_call (wn rfl) rfl rfl (pc_call Try.func115 rfl Try_nm115 rfl) (Try_spec_l2Block (s := s) (by omega) (by omega) h4 (by omega) (H2.sees 0 rfl)) (fun v1 w3 r1 => ?_)
    obtain ⟨e2, sa1, sk1, rfl, r1⟩ := r1
    obtain ⟨fp1, H3⟩ := H2.res e2 r1
    refine s_val (wn rfl) rfl rfl (py_move rfl) (s_val (wn rfl) rfl rfl (py_extr rfl rfl) (s_val (wn rfl) rfl rfl (py_extr rfl rfl) (s_val (wn rfl) rfl rfl (py_assign rfl) (s_val (wn rfl) rfl rfl (py_assign rfl) ?_))))
    refine s_nil ?_
    refine W_seq ?_
    refine W_seq ?_
    refine W_reg ?_
    refine s_val (wn rfl) rfl rfl (py_move rfl) (s_val (wn rfl) rfl rfl (py_not rfl) ?_)
    refine s_nil ?_
    refine W_if rfl (fun c2 => ?_) (fun c2 => ?_)
    · refine W_seq ?_
      refine W_reg ?_
      refine s_val (wn rfl) rfl rfl (py_assign rfl) (s_val (wn rfl) rfl rfl (py_assign rfl) ?_)
      refine s_nil ?_
      refine W_ret (hQ _ _ (fin2 Try.results112 rfl rfl ?_))
      obtain ⟨e1, e2, _⟩ := dec_no (xs := xs) (n := n) (dec_lt (not_true c2))
      exact ⟨H3.ext, none, 0, (by rw [e1, e2]; rfl), (by rw [e2]; exact ⟨[], .inr (.inl ⟨rfl, rfl, rfl⟩), .nil, by simp⟩)⟩
    · refine W_skip ?_
      have hok2 := not_false c2
      have dl := decTo_len (n := n) h4 i
      have bl : (blkL n xs i).length = 4 := by rw [blk_at hok2]; exact decAt_len h4
      refine W_reg ?_
      refine s_val (wn rfl) rfl rfl (py_move rfl) (s_val (wn rfl) rfl rfl (py_move rfl) ?_)
      refine s_appF (wn rfl) rfl Try.underlying34 Try_ty5 rfl rfl rfl H3 0 rfl (H3.mine 1 rfl) (by (try simp only [List.length_nil]); unfold maxLen; omega) (by (try simp only [List.length_nil]); omega) (fun v2 w4 fp2 H4 => ?_)
      refine s_val (wn rfl) rfl rfl (py_assign rfl) ?_
      refine s_nil ?_
      refine W_reg ?_
      refine s_val (wn rfl) rfl rfl (py_move rfl) (s_val (wn rfl) rfl rfl (py_add rfl rfl (in64 ⟨by omega, by omega⟩)) (s_val (wn rfl) rfl rfl (py_assign rfl) ?_))
      refine s_nil ?_
      have hz := (H4.dtake 1)
      rw [blk_at hok2, decAt, decTo_step] at hz
      refine ⟨(i + 1, _, _), ⟨rfl, rfl, rfl, rfl, trivial⟩, ⟨hz, by omega, fun _ => hok2⟩, by dsimp only; omega⟩
  · refine W_exit ?_
    refine W_seq ?_
    refine W_reg ?_
    refine s_val (wn rfl) rfl rfl (py_move rfl) (s_val (wn rfl) rfl rfl (py_assign rfl) (s_val (wn rfl) rfl rfl (py_assign rfl) ?_))
    refine s_nil ?_
    refine W_ret (hQ _ _ (fin2 Try.results112 rfl rfl ?_))
    obtain rfl : n = i := by omega
    have e1 := hok (by omega)
    have e2 := dec_at e1
    obtain ⟨qa, qc, qq⟩ := own_slice (H2.mine 0 rfl)
    cases qq
    exact ⟨H2.ext, qa, qc, (by rw [e1, e2]), (by rw [e2]; exact H2.out 0 rfl)⟩
theorem Try_impl_DecodeRow {w : World} {x : Int} {y : Int} {xs : List (List UInt8)} {xsA : Option Addr} {xsC : Nat} (xsS : Sees w [.slice xsA xs.length xsC] xs) : Ret Try.prog 60 #[.int .i64 x, .int .i64 y, .slice xsA xs.length xsC] w fun v w' => Ext No w w' ∧ (∃ A1 C1, v = (decodeRow x y xs).val A1 C1 ∧ Res w w' [.int .i64 (decodeRow x y xs).Code, .slice A1 (decodeRow x y xs).Bytes.length C1] (decodeRow x y xs)) := by
  have xsL := sees_len xsS
  unfold maxLen at xsL
  obtain ⟨xsF, xsO⟩ := xsS
  refine ret_Q (vs := [.int .i64 x, .int .i64 y, .slice xsA xs.length xsC]) Try.func60 rfl Try.ntmps60 rfl (fun Q hQ hN => ?_)
  have H0 := Sep.start (w := w) (F := [seen false [.slice xsA xs.length xsC] xs xsF]) (all_cons xsO (by simp))
  refine W_seq ?_
  refine W_reg ?_
  refine s_var (wn rfl) rfl Try.zeroValue70 H0 (fun b1 w1 e1 g1 H1 => ?_)
  refine s_nil ?_
  refine W_seq ?_
  refine W_reg ?_
  refine s_val (wn rfl) rfl rfl (py_move rfl) (s_val (wn rfl) rfl rfl (py_move rfl) (s_val (wn rfl) rfl rfl (py_buildS Try_pl105 rfl rfl) ?_))
  refine s_var (wn rfl) rfl Try.zeroValue105 H1 (fun b2 w2 e2 g2 H2 => ?_)
  refine s_stoS (wn rfl) Try.sizeOf105 rfl rfl rfl rfl H2 1 rfl rfl (fun w3 e3 H3 => ?_)
  dsimp only [List.nil_append, List.cons_append, List.set_cons_zero, List.set_cons_succ, layL] at H3
  refine s_nil ?_
  refine W_seq ?_
  refine W_block ?_
  refine W_seq ?_
  refine W_reg ?_
  refine s_val (wn rfl) rfl rfl (py_loadS Try.underlying105 rfl Try.sizeOf105 rfl rfl (At.whole (H3.box 1 rfl))) ?_
  refine s_call (wn rfl) rfl rfl (pc_call Try.func81 rfl Try_nm81 rfl) Try_impl_rowCode_ok (fun v1 w4 r1 => ?_)
  obtain ⟨e4, rfl⟩ := r1
  have H4 := H3.to e4
  refine s_val (wn rfl) rfl rfl (py_not rfl) (s_val (wn rfl) rfl rfl (py_assign rfl) ?_)
  refine s_nil ?_
  refine W_if rfl (fun c1 => ?_) (fun c1 => ?_)
  · refine W_seq ?_
    refine W_reg ?_
    refine s_val (wn rfl) rfl rfl (py_buildS Try_pl70 rfl rfl) ?_
    refine s_stoS (wn rfl) Try.sizeOf70 rfl rfl rfl rfl H4 0 rfl rfl (fun w5 e5 H5 => ?_)
    dsimp only [List.nil_append, List.cons_append, List.set_cons_zero, List.set_cons_succ, layL] at H5
    refine s_nil ?_
    refine W_ret (hQ _ _ (finC Try.results60 rfl (run_loadVarS Try.underlying70 rfl Try.sizeOf70 rfl (At.whole (H5.box 0 rfl))) ?_))
    rw [decodeRow_asked (by rw [asked_range (not_true c1)]; decide), asked_range (not_true c1)]
    exact ⟨H5.ext, none, 0, rfl, bytes_nil (by unfold I64ok; dsimp only; omega)⟩
  · refine W_seq ?_
    have bd := rOK_bd (not_false c1)
    refine W_reg ?_
    refine s_val (wn rfl) rfl rfl (py_loadS Try.underlying105 rfl Try.sizeOf105 rfl rfl (At.whole (H4.box 1 rfl))) (s_val (wn rfl) rfl rfl (py_move rfl) ?_)
    refine s_call (wn rfl) rfl rfl (pc_call Try.func113 rfl Try_nm113 rfl) (Try_impl_rowCode_partOK (by omega) (H4.sees 0 rfl)) (fun v2 w6 r2 => ?_)
    obtain ⟨e6, rfl⟩ := r2
    have H6 := H4.to e6
    refine s_val (wn rfl) rfl rfl (py_not rfl) (s_val (wn rfl) rfl rfl (py_assign rfl) ?_)
    refine s_nil ?_
    refine W_if rfl (fun c2 => ?_) (fun c2 => ?_)
    · refine W_seq ?_
      refine W_reg ?_
      refine s_val (wn rfl) rfl rfl (py_buildS Try_pl70 rfl rfl) ?_
      refine s_stoS (wn rfl) Try.sizeOf70 rfl rfl rfl rfl H6 0 rfl rfl (fun w7 e7 H7 => ?_)
      dsimp only [List.nil_append, List.cons_append, List.set_cons_zero, List.set_cons_succ, layL] at H7
      refine s_nil ?_
      refine W_ret (hQ _ _ (finC Try.results60 rfl (run_loadVarS Try.underlying70 rfl Try.sizeOf70 rfl (At.whole (H7.box 0 rfl))) ?_))
      rw [decodeRow_asked (by rw [asked_form (not_false c1) (not_true c2)]; decide), asked_form (not_false c1) (not_true c2)]
      exact ⟨H7.ext, none, 0, rfl, bytes_nil (by unfold I64ok; dsimp only; omega)⟩
    · refine W_skip ?_
      refine W_seq ?_
      have hp := partL_len (not_false c2)
      obtain ⟨n, rfl⟩ : ∃ n : Nat, x = n := ⟨x.toNat, by omega⟩
      obtain ⟨s, rfl⟩ : ∃ s : Nat, y = s := ⟨y.toNat, by omega⟩
      have h4 := hp.2
      refine W_reg ?_
      refine s_val (wn rfl) rfl rfl (py_loadS Try.underlying105 rfl Try.sizeOf105 rfl rfl (At.whole (H6.box 1 rfl))) (s_val (wn rfl) rfl rfl (py_move rfl) ?_)
      refine s_call (wn rfl) rfl rfl (pc_call Try.func114 rfl Try_nm114 rfl) (Try_impl_rowCode_decode (by omega) (by omega) (by assumption) (H6.sees 0 rfl)) (fun v3 w8 r3 => ?_)
      obtain ⟨e8, sa1, sk1, rfl, r3⟩ := r3
      obtain ⟨fp1, H8⟩ := H6.res e8 r3
      refine s_val (wn rfl) rfl rfl (py_move rfl) (s_val (wn rfl) rfl rfl (py_extr rfl rfl) (s_val (wn rfl) rfl rfl (py_extr rfl rfl) (s_val (wn rfl) rfl rfl (py_assign rfl) (s_val (wn rfl) rfl rfl (py_assign rfl) ?_))))
      refine s_nil ?_
      refine W_seq ?_
      refine W_seq ?_
      refine W_reg ?_
      refine s_val (wn rfl) rfl rfl (py_move rfl) (s_val (wn rfl) rfl rfl (py_not rfl) ?_)
      refine s_nil ?_
      refine W_if rfl (fun c3 => ?_) (fun c3 => ?_)
      · refine W_seq ?_
        refine W_reg ?_
        refine s_val (wn rfl) rfl rfl (py_buildS Try_pl70 rfl rfl) ?_
        refine s_stoS (wn rfl) Try.sizeOf70 rfl rfl rfl rfl H8 0 rfl rfl (fun w9 e9 H9 => ?_)
        dsimp only [List.nil_append, List.cons_append, List.set_cons_zero, List.set_cons_succ, layL] at H9
        refine s_nil ?_
        refine W_ret (hQ _ _ (finC Try.results60 rfl (run_loadVarS Try.underlying70 rfl Try.sizeOf70 rfl (At.whole (H9.box 0 rfl))) ?_))
        rw [decodeRow_lost (asked_ok (not_false c1) (not_false c2)) (by rw [Int.toNat_natCast]; exact not_true c3)]
        exact ⟨H9.ext, none, 0, rfl, bytes_nil (by unfold I64ok; dsimp only; omega)⟩
      · refine W_skip ?_
        refine W_seq ?_
        refine W_reg ?_
        refine s_val (wn rfl) rfl rfl (py_move rfl) (s_val (wn rfl) rfl rfl (py_buildS Try_pl70 rfl rfl) ?_)
        refine s_stoS (wn rfl) Try.sizeOf70 rfl rfl rfl rfl H8 0 rfl rfl (fun w10 e10 H10 => ?_)
        dsimp only [List.nil_append, List.cons_append, List.set_cons_zero, List.set_cons_succ, layL] at H10
        refine s_nil ?_
        refine W_ret (hQ _ _ (finC Try.results60 rfl (run_loadVarS Try.underlying70 rfl Try.sizeOf70 rfl (At.whole (H10.box 0 rfl))) ?_))
        rw [decodeRow_full (asked_ok (not_false c1) (not_false c2)) (by rw [Int.toNat_natCast]; exact not_false c3), Int.toNat_natCast]
        exact ⟨H10.ext, _, _, rfl, BytesResult.out (x := ⟨0, decL n xs⟩) (H10.sub (.cons _ (.cons _ (.cons_cons _ List.Sublist.slnil)))) (by show I64ok 0; unfold I64ok; omega)⟩
theorem Try_spec_DecodeRow {w : World} {x : Int} {y : Int} {xs : List (List UInt8)} {xsA : Option Addr} {xsC : Nat} (xsS : Sees w [.slice xsA xs.length xsC] xs) : Ret Try.prog 59 #[.int .i64 x, .int .i64 y, .slice xsA xs.length xsC] w fun v w' => Ext No w w' ∧ (∃ A1 C1, v = (decodeRow x y xs).val A1 C1 ∧ Res w w' [.int .i64 (decodeRow x y xs).Code, .slice A1 (decodeRow x y xs).Bytes.length C1] (decodeRow x y xs)) := by
  have xsL := sees_len xsS
  unfold maxLen at xsL
  obtain ⟨xsF, xsO⟩ := xsS
  have ab := asked_bd (d := x) (s := y) (xs := xs)
  refine ret_Q (vs := [.int .i64 x, .int .i64 y, .slice xsA xs.length xsC]) Try.func59 rfl Try.ntmps59 rfl (fun Q hQ hN => ?_)
  have H0 := Sep.start (w := w) (F := [seen false [.slice xsA xs.length xsC] xs xsF]) (all_cons xsO (by simp))
  refine W_seq ?_
  refine W_reg ?_
  refine s_var (wn rfl) rfl Try.zeroValue70 H0 (fun b1 w1 e1 g1 H1 => ?_)
  refine s_nil ?_
  refine W_seq ?_
  refine W_seq ?_
  refine W_reg ?_
  refine s_val (wn rfl) rfl rfl (py_move rfl) (s_val (wn rfl) rfl rfl (py_move rfl) (s_val (wn rfl) rfl rfl (py_move rfl) ?_))
  refine s_call (wn rfl) rfl rfl (pc_call Try.func111 rfl Try_nm111 rfl) (Try_spec_l2Asked (H1.sees 0 rfl)) (fun v1 w2 r1 => ?_)
  obtain ⟨e2, rfl⟩ := r1
  have H2 := H1.to e2
  refine s_val (wn rfl) rfl rfl (py_assign rfl) ?_
  refine s_nil ?_
  refine W_seq ?_
  refine W_reg ?_
  refine s_val (wn rfl) rfl rfl (py_move rfl) (s_val (wn rfl) rfl rfl (py_neq rfl rfl) ?_)
  refine s_nil ?_
  refine W_ifd rfl (fun c1 => ?_) (fun c1 => ?_)
  · refine W_seq ?_
    refine W_reg ?_
    refine s_val (wn rfl) rfl rfl (py_move rfl) (s_val (wn rfl) rfl rfl (py_buildS Try_pl70 rfl rfl) ?_)
    refine s_stoS (wn rfl) Try.sizeOf70 rfl rfl rfl rfl H2 0 rfl rfl (fun w3 e3 H3 => ?_)
    dsimp only [List.nil_append, List.cons_append, List.set_cons_zero, List.set_cons_succ, layL] at H3
    refine s_nil ?_
    refine W_ret (hQ _ _ (finC Try.results59 rfl (run_loadVarS Try.underlying70 rfl Try.sizeOf70 rfl (At.whole (H3.box 0 rfl))) ?_))
    rw [decodeRow_asked c1]
    exact ⟨H3.ext, none, 0, rfl, bytes_nil (by unfold I64ok; dsimp only; omega)⟩
  · refine W_skip ?_
    refine W_seq ?_
    have hz0 : asked x y xs = 0 := by omega
    have bd := rOK_bd (asked_zero hz0).1
    have hp := partL_len (asked_zero hz0).2
    obtain ⟨n, rfl⟩ : ∃ n : Nat, x = n := ⟨x.toNat, by omega⟩
    obtain ⟨s, rfl⟩ : ∃ s : Nat, y = s := ⟨y.toNat, by omega⟩
    have h4 := hp.2
    refine W_reg ?_
    refine s_val (wn rfl) rfl rfl (py_move rfl) (s_val (wn rfl) rfl rfl (py_move rfl) ?_)
    refine s_call (wn rfl) rfl rfl (pc_call Try.func112 rfl Try_nm112 rfl) (Try_spec_l2Decode (n := n) (s := s) (by omega) (by omega) h4 (H2.sees 0 rfl)) (fun v2 w4 r2 => ?_)
    obtain ⟨e4, sa1, sk1, rfl, r2⟩ := r2
    obtain ⟨fp1, H4⟩ := H2.res e4 r2
    refine s_val (wn rfl) rfl rfl (py_move rfl) (s_val (wn rfl) rfl rfl (py_extr rfl rfl) (s_val (wn rfl) rfl rfl (py_extr rfl rfl) (s_val (wn rfl) rfl rfl (py_assign rfl) (s_val (wn rfl) rfl rfl (py_assign rfl) ?_))))
    refine s_nil ?_
    refine W_seq ?_
    refine W_seq ?_
    refine W_reg ?_
    refine s_val (wn rfl) rfl rfl (py_move rfl) (s_val (wn rfl) rfl rfl (py_not rfl) ?_)
    refine s_nil ?_
    refine W_if rfl (fun c2 => ?_) (fun c2 => ?_)
    · refine W_seq ?_
      refine W_reg ?_
      refine s_val (wn rfl) rfl rfl (py_buildS Try_pl70 rfl rfl) ?_
      refine s_stoS (wn rfl) Try.sizeOf70 rfl rfl rfl rfl H4 0 rfl rfl (fun w5 e5 H5 => ?_)
      dsimp only [List.nil_append, List.cons_append, List.set_cons_zero, List.set_cons_succ, layL] at H5
      refine s_nil ?_
      refine W_ret (hQ _ _ (finC Try.results59 rfl (run_loadVarS Try.underlying70 rfl Try.sizeOf70 rfl (At.whole (H5.box 0 rfl))) ?_))
      rw [decodeRow_lost hz0 (by rw [Int.toNat_natCast]; exact not_true c2)]
      exact ⟨H5.ext, none, 0, rfl, bytes_nil (by unfold I64ok; dsimp only; omega)⟩
    · refine W_skip ?_
      refine W_seq ?_
      refine W_reg ?_
      refine s_val (wn rfl) rfl rfl (py_move rfl) (s_val (wn rfl) rfl rfl (py_buildS Try_pl70 rfl rfl) ?_)
      refine s_stoS (wn rfl) Try.sizeOf70 rfl rfl rfl rfl H4 0 rfl rfl (fun w6 e6 H6 => ?_)
      dsimp only [List.nil_append, List.cons_append, List.set_cons_zero, List.set_cons_succ, layL] at H6
      refine s_nil ?_
      refine W_ret (hQ _ _ (finC Try.results59 rfl (run_loadVarS Try.underlying70 rfl Try.sizeOf70 rfl (At.whole (H6.box 0 rfl))) ?_))
      rw [decodeRow_full hz0 (by rw [Int.toNat_natCast]; exact not_false c2), Int.toNat_natCast]
      exact ⟨H6.ext, _, _, rfl, BytesResult.out (x := ⟨0, decL n xs⟩) (H6.sub (.cons _ (.cons_cons _ List.Sublist.slnil))) (by show I64ok 0; unfold I64ok; omega)⟩
theorem Try_impl_BlockOf {w : World} {x : Int} {y : Int} {xs : List (List UInt8)} {xsA : Option Addr} {xsC : Nat} {p : Int} (xsS : Sees w [.slice xsA xs.length xsC] xs) : Ret Try.prog 61 #[.int .i64 x, .int .i64 y, .slice xsA xs.length xsC, .int .i64 p] w fun v w' => Ext No w w' ∧ (∃ A1 C1, v = (blockOf x y xs p).val A1 C1 ∧ Res w w' [.int .i64 (blockOf x y xs p).Code, .slice A1 (blockOf x y xs p).Bytes.length C1] (blockOf x y xs p)) := by
  have xsL := sees_len xsS
  unfold maxLen at xsL
  obtain ⟨xsF, xsO⟩ := xsS
  refine ret_Q (vs := [.int .i64 x, .int .i64 y, .slice xsA xs.length xsC, .int .i64 p]) Try.func61 rfl Try.ntmps61 rfl (fun Q hQ hN => ?_)
  have H0 := Sep.start (w := w) (F := [seen false [.slice xsA xs.length xsC] xs xsF]) (all_cons xsO (by simp))
  refine W_seq ?_
  refine W_reg ?_
  refine s_var (wn rfl) rfl Try.zeroValue70 H0 (fun b1 w1 e1 g1 H1 => ?_)
  refine s_nil ?_
  refine W_seq ?_
  refine W_reg ?_
  refine s_val (wn rfl) rfl rfl (py_move rfl) (s_val (wn rfl) rfl rfl (py_move rfl) (s_val (wn rfl) rfl rfl (py_buildS Try_pl105 rfl rfl) ?_))
  refine s_var (wn rfl) rfl Try.zeroValue105 H1 (fun b2 w2 e2 g2 H2 => ?_)
  refine s_stoS (wn rfl) Try.sizeOf105 rfl rfl rfl rfl H2 1 rfl rfl (fun w3 e3 H3 => ?_)
  dsimp only [List.nil_append, List.cons_append, List.set_cons_zero, List.set_cons_succ, layL] at H3
  refine s_nil ?_
  refine W_seq ?_
  refine W_block ?_
  refine W_seq ?_
  refine W_reg ?_
  refine s_val (wn rfl) rfl rfl (py_loadS Try.underlying105 rfl Try.sizeOf105 rfl rfl (At.whole (H3.box 1 rfl))) ?_
  refine s_call (wn rfl) rfl rfl (pc_call Try.func81 rfl Try_nm81 rfl) Try_impl_rowCode_ok (fun v1 w4 r1 => ?_)
  obtain ⟨e4, rfl⟩ := r1
  have H4 := H3.to e4
  refine s_val (wn rfl) rfl rfl (py_not rfl) (s_val (wn rfl) rfl rfl (py_assign rfl) ?_)
  refine s_nil ?_
  refine W_if rfl (fun c1 => ?_) (fun c1 => ?_)
  · refine W_seq ?_
    refine W_reg ?_
    refine s_val (wn rfl) rfl rfl (py_buildS Try_pl70 rfl rfl) ?_
    refine s_stoS (wn rfl) Try.sizeOf70 rfl rfl rfl rfl H4 0 rfl rfl (fun w5 e5 H5 => ?_)
    dsimp only [List.nil_append, List.cons_append, List.set_cons_zero, List.set_cons_succ, layL] at H5
    refine s_nil ?_
    refine W_ret (hQ _ _ (finC Try.results61 rfl (run_loadVarS Try.underlying70 rfl Try.sizeOf70 rfl (At.whole (H5.box 0 rfl))) ?_))
    rw [blockOf_asked (by rw [asked_range (not_true c1)]; decide), asked_range (not_true c1)]
    exact ⟨H5.ext, none, 0, rfl, bytes_nil (by unfold I64ok; dsimp only; omega)⟩
  · refine W_seq ?_
    have bd := rOK_bd (not_false c1)
    refine W_reg ?_
    refine s_val (wn rfl) rfl rfl (py_loadS Try.underlying105 rfl Try.sizeOf105 rfl rfl (At.whole (H4.box 1 rfl))) (s_val (wn rfl) rfl rfl (py_move rfl) ?_)
    refine s_call (wn rfl) rfl rfl (pc_call Try.func113 rfl Try_nm113 rfl) (Try_impl_rowCode_partOK (by omega) (H4.sees 0 rfl)) (fun v2 w6 r2 => ?_)
    obtain ⟨e6, rfl⟩ := r2
    have H6 := H4.to e6
    refine s_val (wn rfl) rfl rfl (py_not rfl) (s_val (wn rfl) rfl rfl (py_assign rfl) ?_)
    refine s_nil ?_
    refine W_if rfl (fun c2 => ?_) (fun c2 => ?_)
    · refine W_seq ?_
      refine W_reg ?_
      refine s_val (wn rfl) rfl rfl (py_buildS Try_pl70 rfl rfl) ?_
      refine s_stoS (wn rfl) Try.sizeOf70 rfl rfl rfl rfl H6 0 rfl rfl (fun w7 e7 H7 => ?_)
      dsimp only [List.nil_append, List.cons_append, List.set_cons_zero, List.set_cons_succ, layL] at H7
      refine s_nil ?_
      refine W_ret (hQ _ _ (finC Try.results61 rfl (run_loadVarS Try.underlying70 rfl Try.sizeOf70 rfl (At.whole (H7.box 0 rfl))) ?_))
      rw [blockOf_asked (by rw [asked_form (not_false c1) (not_true c2)]; decide), asked_form (not_false c1) (not_true c2)]
      exact ⟨H7.ext, none, 0, rfl, bytes_nil (by unfold I64ok; dsimp only; omega)⟩
    · refine W_seq ?_
      have hp := partL_len (not_false c2)
      refine W_reg ?_
      refine s_val (wn rfl) rfl rfl (py_move rfl) (s_val (wn rfl) rfl rfl (py_loadS Try.underlying105 rfl Try.sizeOf105 rfl rfl (At.whole (H6.box 1 rfl))) ?_)
      refine s_call (wn rfl) rfl rfl (pc_call Try.func107 rfl Try_nm107 rfl) (Try_impl_rowCode_blocks (by omega)) (fun v3 w8 r3 => ?_)
      obtain ⟨e8, rfl⟩ := r3
      have H8 := H6.to e8
      refine s_val (wn rfl) rfl rfl (py_sub rfl rfl (in64 ⟨by omega, by omega⟩)) ?_
      refine s_call (wn rfl) rfl rfl (pc_call Try.func108 rfl Try_nm108 rfl) Try_impl_inside (fun v4 w9 r4 => ?_)
      obtain ⟨e9, rfl⟩ := r4
      have H9 := H8.to e9
      refine s_val (wn rfl) rfl rfl (py_not rfl) (s_val (wn rfl) rfl rfl (py_assign rfl) ?_)
      refine s_nil ?_
      refine W_if rfl (fun c3 => ?_) (fun c3 => ?_)
      · refine W_seq ?_
        refine W_reg ?_
        refine s_val (wn rfl) rfl rfl (py_buildS Try_pl70 rfl rfl) ?_
        refine s_stoS (wn rfl) Try.sizeOf70 rfl rfl rfl rfl H9 0 rfl rfl (fun w10 e10 H10 => ?_)
        dsimp only [List.nil_append, List.cons_append, List.set_cons_zero, List.set_cons_succ, layL] at H10
        refine s_nil ?_
        refine W_ret (hQ _ _ (finC Try.results61 rfl (run_loadVarS Try.underlying70 rfl Try.sizeOf70 rfl (At.whole (H10.box 0 rfl))) ?_))
        rw [blockOf_bad (asked_ok (not_false c1) (not_false c2)) (not_true c3)]
        exact ⟨H10.ext, none, 0, rfl, bytes_nil (by unfold I64ok; dsimp only; omega)⟩
      · refine W_skip ?_
        refine W_seq ?_
        have hw := ins_bd (not_false c3)
        obtain ⟨n, rfl⟩ : ∃ n : Nat, x = n := ⟨x.toNat, by omega⟩
        obtain ⟨s, rfl⟩ : ∃ s : Nat, y = s := ⟨y.toNat, by omega⟩
        have h4 := hp.2
        refine W_reg ?_
        refine s_val (wn rfl) rfl rfl (py_loadS Try.underlying105 rfl Try.sizeOf105 rfl rfl (At.whole (H9.box 1 rfl))) (s_val (wn rfl) rfl rfl (py_move rfl) ?_)
        refine s_call (wn rfl) rfl rfl (pc_call Try.func114 rfl Try_nm114 rfl) (Try_impl_rowCode_decode (by omega) (by omega) (by assumption) (H9.sees 0 rfl)) (fun v5 w11 r5 => ?_)
        obtain ⟨e11, sa1, sk1, rfl, r5⟩ := r5
        obtain ⟨fp1, H11⟩ := H9.res e11 r5
        refine s_val (wn rfl) rfl rfl (py_move rfl) (s_val (wn rfl) rfl rfl (py_extr rfl rfl) (s_val (wn rfl) rfl rfl (py_extr rfl rfl) (s_val (wn rfl) rfl rfl (py_assign rfl) (s_val (wn rfl) rfl rfl (py_assign rfl) ?_))))
        refine s_nil ?_
        refine W_seq ?_
        refine W_seq ?_
        refine W_reg ?_
        refine s_val (wn rfl) rfl rfl (py_move rfl) (s_val (wn rfl) rfl rfl (py_not rfl) ?_)
        refine s_nil ?_
        refine W_if rfl (fun c4 => ?_) (fun c4 => ?_)
        · refine W_seq ?_
          refine W_reg ?_
          refine s_val (wn rfl) rfl rfl (py_buildS Try_pl70 rfl rfl) ?_
          refine s_stoS (wn rfl) Try.sizeOf70 rfl rfl rfl rfl H11 0 rfl rfl (fun w12 e12 H12 => ?_)
          dsimp only [List.nil_append, List.cons_append, List.set_cons_zero, List.set_cons_succ, layL] at H12
          refine s_nil ?_
          refine W_ret (hQ _ _ (finC Try.results61 rfl (run_loadVarS Try.underlying70 rfl Try.sizeOf70 rfl (At.whole (H12.box 0 rfl))) ?_))
          rw [blockOf_lost (asked_ok (not_false c1) (not_false c2)) (not_false c3) (by rw [Int.toNat_natCast]; exact not_true c4)]
          exact ⟨H12.ext, none, 0, rfl, bytes_nil (by unfold I64ok; dsimp only; omega)⟩
        · refine W_skip ?_
          refine W_seq ?_
          have hok := not_false c4
          have dl : (decL n xs).length = n * 4 := by rw [dec_at hok]; exact decTo_len h4 n
          have el := encG_len (n := n) (m := n + s) (xs := decL n xs)
          refine W_reg ?_
          refine s_val (wn rfl) rfl rfl (py_loadS Try.underlying105 rfl Try.sizeOf105 rfl rfl (At.whole (H11.box 1 rfl))) (s_val (wn rfl) rfl rfl (py_move rfl) ?_)
          refine s_call (wn rfl) rfl rfl (pc_call Try.func83 rfl Try_nm83 rfl) (Try_impl_rowCode_encode (n := n) (s := s) rfl rfl (by omega) (by omega) (H11.msees 2 rfl)) (fun v6 w13 r6 => ?_)
          obtain ⟨e13, r6⟩ := r6
          obtain ⟨fp2, H13⟩ := H11.res e13 r6
          obtain ⟨a1, k1, q1⟩ := own_slice (H13.mine 3 rfl)
          cases q1
          refine s_val (wn rfl) rfl rfl (py_move rfl) ?_
          obtain ⟨eb1, eo1, eB1, eS1, eF1, eG1, ef1, ea1, ek1, ee1, eN1, ec1, nbef1, eH1⟩ := H13.unhook 3 rfl p.toNat (by omega)
          try dsimp only [List.nil_append, List.cons_append, List.set_cons_zero, List.set_cons_succ] at eH1
          refine s_val (wn rfl) rfl rfl (py_elz Try.underlying43 Try.sizeOf34 rfl rfl ee1 p.toNat (by omega) (by omega)) (s_val (wn rfl) rfl rfl (py_load Try.underlying34 rfl rfl ec1) (s_val (wn rfl) rfl rfl (py_buildS Try_pl70 rfl rfl) ?_))
          refine s_stoS (wn rfl) Try.sizeOf70 rfl rfl rfl rfl eH1 0 rfl rfl (fun w14 e14 H14 => ?_)
          dsimp only [List.nil_append, List.cons_append, List.set_cons_zero, List.set_cons_succ, layL] at H14
          refine s_nil ?_
          refine W_ret (hQ _ _ (finC Try.results61 rfl (run_loadVarS Try.underlying70 rfl Try.sizeOf70 rfl (At.whole (H14.box 0 rfl))) ?_))
          rw [blockOf_full (asked_ok (not_false c1) (not_false c2)) (not_false c3) (by rw [Int.toNat_natCast]; exact not_false c4), Int.toNat_natCast]
          have he : (encG n (n + s) (decL n xs)).getD p.toNat [] = blkL n xs p := by rw [dec_at hok, enc_dec (by omega) (by omega) (by omega) h4 hok (by omega), Int.toNat_of_nonneg hw.1, ← blk_at hok]
          rw [← he]
          exact ⟨H14.ext, _, _, rfl, BytesResult.out (x := ⟨0, (encG n (n + s) (decL n xs)).getD p.toNat []⟩) (H14.sub (.cons _ (.cons _ (.cons _ (.cons _ (.cons_cons _ List.Sublist.slnil)))))) (by show I64ok 0; unfold I64ok; omega)⟩
theorem Try_spec_BlockOf {w : World} {x : Int} {y : Int} {xs : List (List UInt8)} {xsA : Option Addr} {xsC : Nat} {p : Int} (xsS : Sees w [.slice xsA xs.length xsC] xs) : Ret Try.prog 62 #[.int .i64 x, .int .i64 y, .slice xsA xs.length xsC, .int .i64 p] w fun v w' => Ext No w w' ∧ (∃ A1 C1, v = (blockOf x y xs p).val A1 C1 ∧ Res w w' [.int .i64 (blockOf x y xs p).Code, .slice A1 (blockOf x y xs p).Bytes.length C1] (blockOf x y xs p)) := by
  have xsL := sees_len xsS
  unfold maxLen at xsL
  obtain ⟨xsF, xsO⟩ := xsS
  have ab := asked_bd (d := x) (s := y) (xs := xs)
  refine ret_Q (vs := [.int .i64 x, .int .i64 y, .slice xsA xs.length xsC, .int .i64 p]) Try.func62 rfl Try.ntmps62 rfl (fun Q hQ hN => ?_)
  have H0 := Sep.start (w := w) (F := [seen false [.slice xsA xs.length xsC] xs xsF]) (all_cons xsO (by simp))
  refine W_seq ?_
  refine W_reg ?_
  refine s_var (wn rfl) rfl Try.zeroValue70 H0 (fun b1 w1 e1 g1 H1 => ?_)
  refine s_nil ?_
  refine W_seq ?_
  refine W_seq ?_
  refine W_reg ?_
  refine s_val (wn rfl) rfl rfl (py_move rfl) (s_val (wn rfl) rfl rfl (py_move rfl) (s_val (wn rfl) rfl rfl (py_move rfl) ?_))
  refine s_call (wn rfl) rfl rfl (pc_call Try.func111 rfl Try_nm111 rfl) (Try_spec_l2Asked (H1.sees 0 rfl)) (fun v1 w2 r1 => ?_)
  obtain ⟨e2, rfl⟩ := r1
  have H2 := H1.to e2
  refine s_val (wn rfl) rfl rfl (py_assign rfl) ?_
  refine s_nil ?_
  refine W_seq ?_
  refine W_reg ?_
  refine s_val (wn rfl) rfl rfl (py_move rfl) (s_val (wn rfl) rfl rfl (py_neq rfl rfl) ?_)
  refine s_nil ?_
  refine W_ifd rfl (fun c1 => ?_) (fun c1 => ?_)
  · refine W_seq ?_
    refine W_reg ?_
    refine s_val (wn rfl) rfl rfl (py_move rfl) (s_val (wn rfl) rfl rfl (py_buildS Try_pl70 rfl rfl) ?_)
    refine s_stoS (wn rfl) Try.sizeOf70 rfl rfl rfl rfl H2 0 rfl rfl (fun w3 e3 H3 => ?_)
    dsimp only [List.nil_append, List.cons_append, List.set_cons_zero, List.set_cons_succ, layL] at H3
    refine s_nil ?_
    refine W_ret (hQ _ _ (finC Try.results62 rfl (run_loadVarS Try.underlying70 rfl Try.sizeOf70 rfl (At.whole (H3.box 0 rfl))) ?_))
    rw [blockOf_asked c1]
    exact ⟨H3.ext, none, 0, rfl, bytes_nil (by unfold I64ok; dsimp only; omega)⟩
  · refine W_skip ?_
    refine W_seq ?_
    refine W_seq ?_
    have hz0 : asked x y xs = 0 := by omega
    have bd := rOK_bd (asked_zero hz0).1
    have hp := partL_len (asked_zero hz0).2
    refine W_reg ?_
    refine s_val (wn rfl) rfl rfl (py_move rfl) (s_val (wn rfl) rfl rfl (py_move rfl) (s_val (wn rfl) rfl rfl (py_move rfl) (s_val (wn rfl) rfl rfl (py_add rfl rfl (in64 ⟨by omega, by omega⟩)) (s_val (wn rfl) rfl rfl (py_sub rfl rfl (in64 ⟨by omega, by omega⟩)) ?_))))
    refine s_call (wn rfl) rfl rfl (pc_call Try.func69 rfl Try_nm69 rfl) Try_spec_l1In (fun v2 w4 r2 => ?_)
    obtain ⟨e4, rfl⟩ := r2
    have H4 := H2.to e4
    refine s_val (wn rfl) rfl rfl (py_not rfl) ?_
    refine s_nil ?_
    refine W_if rfl (fun c2 => ?_) (fun c2 => ?_)
    · refine W_seq ?_
      refine W_reg ?_
      refine s_val (wn rfl) rfl rfl (py_buildS Try_pl70 rfl rfl) ?_
      refine s_stoS (wn rfl) Try.sizeOf70 rfl rfl rfl rfl H4 0 rfl rfl (fun w5 e5 H5 => ?_)
      dsimp only [List.nil_append, List.cons_append, List.set_cons_zero, List.set_cons_succ, layL] at H5
      refine s_nil ?_
      refine W_ret (hQ _ _ (finC Try.results62 rfl (run_loadVarS Try.underlying70 rfl Try.sizeOf70 rfl (At.whole (H5.box 0 rfl))) ?_))
      rw [blockOf_bad hz0 (not_true c2)]
      exact ⟨H5.ext, none, 0, rfl, bytes_nil (by unfold I64ok; dsimp only; omega)⟩
    · refine W_skip ?_
      refine W_seq ?_
      have hw := ins_bd (not_false c2)
      obtain ⟨n, rfl⟩ : ∃ n : Nat, x = n := ⟨x.toNat, by omega⟩
      obtain ⟨s, rfl⟩ : ∃ s : Nat, y = s := ⟨y.toNat, by omega⟩
      have h4 := hp.2
      refine W_reg ?_
      refine s_val (wn rfl) rfl rfl (py_move rfl) (s_val (wn rfl) rfl rfl (py_move rfl) (s_val (wn rfl) rfl rfl (py_move rfl) ?_))
      refine s_call (wn rfl) rfl rfl (pc_call Try.func115 rfl Try_nm115 rfl) (Try_spec_l2Block (n := n) (s := s) (by omega) (by omega) h4 (by omega) (H4.sees 0 rfl)) (fun v3 w6 r3 => ?_)
      obtain ⟨e6, sa1, sk1, rfl, r3⟩ := r3
      obtain ⟨fp1, H6⟩ := H4.res e6 r3
      refine s_val (wn rfl) rfl rfl (py_move rfl) (s_val (wn rfl) rfl rfl (py_extr rfl rfl) (s_val (wn rfl) rfl rfl (py_extr rfl rfl) (s_val (wn rfl) rfl rfl (py_assign rfl) (s_val (wn rfl) rfl rfl (py_assign rfl) ?_))))
      refine s_nil ?_
      refine W_seq ?_
      refine W_seq ?_
      refine W_reg ?_
      refine s_val (wn rfl) rfl rfl (py_move rfl) (s_val (wn rfl) rfl rfl (py_not rfl) ?_)
      refine s_nil ?_
      refine W_if rfl (fun c3 => ?_) (fun c3 => ?_)
      · refine W_seq ?_
        refine W_reg ?_
        refine s_val (wn rfl) rfl rfl (py_buildS Try_pl70 rfl rfl) ?_
        refine s_stoS (wn rfl) Try.sizeOf70 rfl rfl rfl rfl H6 0 rfl rfl (fun w7 e7 H7 => ?_)
        dsimp only [List.nil_append, List.cons_append, List.set_cons_zero, List.set_cons_succ, layL] at H7
        refine s_nil ?_
        refine W_ret (hQ _ _ (finC Try.results62 rfl (run_loadVarS Try.underlying70 rfl Try.sizeOf70 rfl (At.whole (H7.box 0 rfl))) ?_))
        rw [blockOf_lost hz0 (not_false c2) (by rw [Int.toNat_natCast]; exact not_true c3)]
        exact ⟨H7.ext, none, 0, rfl, bytes_nil (by unfold I64ok; dsimp only; omega)⟩
      · refine W_skip ?_
        refine W_seq ?_
        refine W_reg ?_
        refine s_val (wn rfl) rfl rfl (py_move rfl) (s_val (wn rfl) rfl rfl (py_buildS Try_pl70 rfl rfl) ?_)
        refine s_stoS (wn rfl) Try.sizeOf70 rfl rfl rfl rfl H6 0 rfl rfl (fun w8 e8 H8 => ?_)
        dsimp only [List.nil_append, List.cons_append, List.set_cons_zero, List.set_cons_succ, layL] at H8
        refine s_nil ?_
        refine W_ret (hQ _ _ (finC Try.results62 rfl (run_loadVarS Try.underlying70 rfl Try.sizeOf70 rfl (At.whole (H8.box 0 rfl))) ?_))
        rw [blockOf_full hz0 (not_false c2) (by rw [Int.toNat_natCast]; exact not_false c3), Int.toNat_natCast]
        exact ⟨H8.ext, _, _, rfl, BytesResult.out (x := ⟨0, blkL n xs p⟩) (H8.sub (.cons _ (.cons_cons _ List.Sublist.slnil))) (by show I64ok 0; unfold I64ok; omega)⟩
theorem Try_laws_FnExactDecodeRow {w : World} {x : Int} {y : Int} {xs : List (List UInt8)} {xsA : Option Addr} {xsC : Nat} (xsS : Sees w [.slice xsA xs.length xsC] xs) : Ret Try.prog 11 #[.int .i64 x, .int .i64 y, .slice xsA xs.length xsC] w fun v w' => Ext No w w' ∧ (v = .bool true) := by
  have xsL := sees_len xsS
  unfold maxLen at xsL
  obtain ⟨xsF, xsO⟩ := xsS
  have cnt := decodeRow_len (d := x) (s := y) (xs := xs)
  refine ret_Q (vs := [.int .i64 x, .int .i64 y, .slice xsA xs.length xsC]) Try.func11 rfl Try.ntmps11 rfl (fun Q hQ hN => ?_)
  have H0 := Sep.start (w := w) (F := [seen false [.slice xsA xs.length xsC] xs xsF]) (all_cons xsO (by simp))
  refine W_seq ?_
  refine W_reg ?_
  refine s_val (wn rfl) rfl rfl (py_assign rfl) ?_
  refine s_nil ?_
  refine W_seq ?_
  refine W_reg ?_
  refine s_val (wn rfl) rfl rfl (py_assign rfl) ?_
  refine s_nil ?_
  refine W_seq ?_
  refine W_reg ?_
  refine s_val (wn rfl) rfl rfl (py_move rfl) (s_val (wn rfl) rfl rfl (py_move rfl) ?_)
  refine s_call (wn rfl) rfl rfl (pc_call Try.func44 rfl Try_nm44 rfl) (Try_laws_szByteSS (H0.sees 0 rfl) (by omega)) (fun v1 w1 r1 => ?_)
  obtain ⟨e1, rfl⟩ := r1
  have H1 := H0.to e1
  refine s_val (wn rfl) rfl rfl (py_assign rfl) ?_
  refine s_nil ?_
  refine W_seq ?_
  refine W_seq ?_
  refine W_reg ?_
  refine s_val (wn rfl) rfl rfl (py_move rfl) (s_val (wn rfl) rfl rfl (py_lss rfl rfl) ?_)
  refine s_nil ?_
  refine W_ifd rfl (fun c1 => ?_) (fun c1 => ?_)
  · refine W_seq ?_
    refine W_reg ?_
    refine s_val (wn rfl) rfl rfl (py_assign rfl) ?_
    refine s_nil ?_
    refine W_ret (hQ _ _ (fin1 Try.results11 rfl ?_))
    exact ⟨H1.ext, rfl⟩
  · refine W_skip ?_
    refine W_seq ?_
    have hl : totB xs ≤ 1048576 := by revert c1; split <;> omega
    have hct := cnt_tot hl
    refine W_reg ?_
    refine s_val (wn rfl) rfl rfl (py_move rfl) (s_val (wn rfl) rfl rfl (py_move rfl) (s_val (wn rfl) rfl rfl (py_move rfl) ?_))
    refine s_call (wn rfl) rfl rfl (pc_call Try.func46 rfl Try_nm46 rfl) (Try_laws_toByteSS (H1.sees 0 rfl) (by omega)) (fun v2 w2 r2 => ?_)
    obtain ⟨e2, r2⟩ := r2
    obtain ⟨fp1, H2⟩ := H1.res e2 r2
    obtain ⟨a1, k1, q1⟩ := own_slice (H2.mine 0 rfl)
    cases q1
    refine s_call (wn rfl) rfl rfl (pc_call Try.func59 rfl Try_nm59 rfl) (Try_spec_DecodeRow (H2.msees 0 rfl)) (fun v3 w3 r3 => ?_)
    obtain ⟨e3, sa1, sk1, rfl, r3⟩ := r3
    obtain ⟨fp2, H3⟩ := H2.res e3 r3
    have H4 := H3.share 1 rfl
    obtain ⟨sf1, sq1, sok1, so1⟩ := own_BytesResultC (H4.seen 1 rfl)
    have H6 := H4.look1 1 rfl so1 (fun b hb => by rw [sq1]; simp [hb])
    refine s_var (wn rfl) rfl Try.zeroValue70 H6 (fun b1 w4 e4 g1 H7 => ?_)
    refine s_stoS (wn rfl) Try.sizeOf70 rfl rfl rfl rfl H7 2 rfl rfl (fun w5 e5 H8 => ?_)
    dsimp only [List.nil_append, List.cons_append, List.set_cons_zero, List.set_cons_succ, layL] at H8
    refine s_nil ?_
    refine W_seq ?_
    refine W_reg ?_
    refine s_val (wn rfl) rfl rfl (py_move rfl) ?_
    refine s_call (wn rfl) rfl rfl (pc_call Try.func46 rfl Try_nm46 rfl) (Try_laws_toByteSS (H8.sees 0 rfl) (by omega)) (fun v4 w6 r4 => ?_)
    obtain ⟨e6, r4⟩ := r4
    obtain ⟨fp3, H9⟩ := H8.res e6 r4
    obtain ⟨a2, k2, q2⟩ := own_slice (H9.mine 3 rfl)
    cases q2
    refine s_val (wn rfl) rfl rfl (py_assign rfl) ?_
    refine s_nil ?_
    refine W_seq ?_
    refine W_reg ?_
    refine s_val (wn rfl) rfl rfl (py_move rfl) (s_val (wn rfl) rfl rfl (py_move rfl) (s_val (wn rfl) rfl rfl (py_move rfl) ?_))
    refine s_call (wn rfl) rfl rfl (pc_call Try.func60 rfl Try_nm60 rfl) (Try_impl_DecodeRow (H9.msees 3 rfl)) (fun v5 w7 r5 => ?_)
    obtain ⟨e7, sa2, sk2, rfl, r5⟩ := r5
    obtain ⟨fp4, H10⟩ := H9.res e7 r5
    obtain ⟨sf2, sq2, sok2, so2⟩ := own_BytesResultC (H10.mine 4 rfl)
    have H11 := H10.part 4 rfl [mine [.slice _ (decodeRow x y xs).Bytes.length _] (decodeRow x y xs).Bytes sf2] (all_cons so2 (by simp)) (by simp [blocks, mine, sq2])
    try dsimp only [List.nil_append, List.cons_append, List.set_cons_zero, List.set_cons_succ] at H11
    refine s_var (wn rfl) rfl Try.zeroValue70 H11 (fun b2 w8 e8 g2 H12 => ?_)
    refine s_stoS (wn rfl) Try.sizeOf70 rfl rfl rfl rfl H12 6 rfl rfl (fun w9 e9 H13 => ?_)
    dsimp only [List.nil_append, List.cons_append, List.set_cons_zero, List.set_cons_succ, layL] at H13
    refine s_nil ?_
    refine W_seq ?_
    refine W_seq ?_
    refine W_reg ?_
    refine s_val (wn rfl) rfl rfl (py_loadS Try.underlying70 rfl Try.sizeOf70 rfl rfl (At.whole (H13.box 6 rfl))) (s_val (wn rfl) rfl rfl (py_loadS Try.underlying70 rfl Try.sizeOf70 rfl rfl (At.whole (H13.box 2 rfl))) ?_)
    refine s_call (wn rfl) rfl rfl (pc_call Try.func54 rfl Try_nm54 rfl) (Try_laws_eqBytesResult (by assumption) (H13.msees 5 rfl) (by assumption) (H13.sees 2 rfl)) (fun v6 w10 r6 => ?_)
    obtain ⟨e10, rfl⟩ := r6
    have H14 := H13.to e10
    refine s_val (wn rfl) rfl rfl (py_not rfl) ?_
    refine s_nil ?_
    refine W_if rfl (fun c2 => ?_) (fun c2 => ?_)
    · exact absurd c2 (by simp)
    · refine W_skip ?_
      refine W_seq ?_
      refine W_seq ?_
      refine W_reg ?_
      refine s_val (wn rfl) rfl rfl (py_move rfl) (s_val (wn rfl) rfl rfl (py_move rfl) ?_)
      refine s_call (wn rfl) rfl rfl (pc_call Try.func46 rfl Try_nm46 rfl) (Try_laws_toByteSS (H14.sees 0 rfl) (by omega)) (fun v7 w11 r7 => ?_)
      obtain ⟨e11, r7⟩ := r7
      obtain ⟨fp5, H15⟩ := H14.res e11 r7
      obtain ⟨a3, k3, q3⟩ := own_slice (H15.mine 7 rfl)
      cases q3
      refine s_call (wn rfl) rfl rfl (pc_call Try.func48 rfl Try_nm48 rfl) (Try_laws_eqByteSS (H15.msees 3 rfl) (H15.msees 7 rfl)) (fun v8 w12 r8 => ?_)
      obtain ⟨e12, rfl⟩ := r8
      have H16 := H15.to e12
      refine s_val (wn rfl) rfl rfl (py_not rfl) ?_
      refine s_nil ?_
      refine W_if rfl (fun c3 => ?_) (fun c3 => ?_)
      · exact absurd c3 (by simp)
      · refine W_skip ?_
        refine W_seq ?_
        refine W_reg ?_
        refine s_val (wn rfl) rfl rfl (py_assign rfl) ?_
        refine s_nil ?_
        refine W_seq ?_
        refine W_reg ?_
        refine s_val (wn rfl) rfl rfl (py_move rfl) (s_val (wn rfl) rfl rfl (py_move rfl) ?_)
        refine s_call (wn rfl) rfl rfl (pc_call Try.func50 rfl Try_nm50 rfl) (Try_laws_markByteSS (H16.mine 3 rfl) (H16.nodup1 (i := 3) rfl) (by constructor <;> omega)) (fun v9 w13 r9 => ?_)
        obtain ⟨rfl, mx1, mm1, ml1, mk1⟩ := r9
        obtain ⟨fp6, H17⟩ := H16.mut 3 rfl mm1
        try dsimp only [List.nil_append, List.cons_append, List.set_cons_zero, List.set_cons_succ] at H17
        refine s_val (wn rfl) rfl rfl (py_assign rfl) ?_
        refine s_nil ?_
        refine W_seq ?_
        refine W_seq ?_
        refine W_reg ?_
        refine s_val (wn rfl) rfl rfl (py_move rfl) (s_val (wn rfl) rfl rfl (py_lss rfl rfl) (s_val (wn rfl) rfl rfl (py_move rfl) ?_))
        refine s_grp 4 (j := 2) (want := false) (t := 49) rfl rfl rfl rfl (fun hg1 kk1 => s_val (wgE rfl rfl rfl hg1) rfl rfl (py_loadS Try.underlying70 rfl Try.sizeOf70 rfl rfl (At.whole (H17.box 6 rfl))) (s_val (wgE rfl rfl rfl hg1) rfl rfl (py_loadS Try.underlying70 rfl Try.sizeOf70 rfl rfl (At.whole (H17.box 2 rfl))) (s_callv (wgE rfl rfl rfl hg1) rfl rfl (pc_call Try.func54 rfl Try_nm54 rfl) (Try_laws_eqBytesResult (by assumption) (H17.msees 5 rfl) (by assumption) (H17.sees 2 rfl)) (fun w15 e15 => s_val (wgE rfl rfl rfl hg1) rfl rfl (py_not rfl) (kk1 _ _ (kx rfl (kx rfl (kx rfl (kx rfl k0)))) rfl (Ext.refl.trans e15)))))) (fun w14 e14 => ?_)
        have H18 := H17.to e14
        refine s_val (wn rfl) rfl rfl (py_bor rfl rfl) ?_
        refine s_nil ?_
        refine W_if rfl (fun c4 => ?_) (fun c4 => ?_)
        · exact absurd c4 (by simp; omega)
        · refine W_skip ?_
          refine W_seq ?_
          refine W_reg ?_
          refine s_val (wn rfl) rfl rfl (py_assign rfl) ?_
          refine s_nil ?_
          refine W_seq ?_
          refine W_reg ?_
          refine s_val (wn rfl) rfl rfl (py_loadS Try.underlying70 rfl Try.sizeOf70 rfl rfl (At.whole (H18.box 6 rfl))) (s_val (wn rfl) rfl rfl (py_move rfl) ?_)
          refine s_call (wn rfl) rfl rfl (pc_call Try.func57 rfl Try_nm57 rfl) (Try_laws_markBytesResult (H18.mine 5 rfl) (H18.nodup1 (i := 5) rfl) (by constructor <;> omega)) (fun v10 w16 r10 => ?_)
          obtain ⟨rfl, mx2, mm2, ml2, mk2⟩ := r10
          obtain ⟨fp7, H19⟩ := H18.mut 5 rfl mm2
          try dsimp only [List.nil_append, List.cons_append, List.set_cons_zero, List.set_cons_succ] at H19
          refine s_val (wn rfl) rfl rfl (py_assign rfl) ?_
          refine s_nil ?_
          refine W_seq ?_
          refine W_reg ?_
          refine s_val (wn rfl) rfl rfl (py_assign rfl) ?_
          refine s_nil ?_
          refine W_seq ?_
          refine W_reg ?_
          refine s_val (wn rfl) rfl rfl (py_loadS Try.underlying70 rfl Try.sizeOf70 rfl rfl (At.whole (H19.box 6 rfl))) (s_val (wn rfl) rfl rfl (py_move rfl) ?_)
          refine s_call (wn rfl) rfl rfl (pc_call Try.func58 rfl Try_nm58 rfl) (Try_laws_heldBytesResult (H19.msees 5 rfl) (by constructor <;> omega) (by assumption)) (fun v11 w17 r11 => ?_)
          obtain ⟨e17, rfl⟩ := r11
          have H20 := H19.to e17
          refine s_val (wn rfl) rfl rfl (py_assign rfl) ?_
          refine s_nil ?_
          refine W_seq ?_
          refine W_seq ?_
          refine W_reg ?_
          refine s_val (wn rfl) rfl rfl (py_move rfl) (s_val (wn rfl) rfl rfl (py_lss rfl rfl) ?_)
          refine s_nil ?_
          refine W_ifd rfl (fun c5 => ?_) (fun c5 => ?_)
          · exact absurd c5 (by omega)
          · refine W_skip ?_
            refine W_seq ?_
            refine W_seq ?_
            refine W_reg ?_
            refine s_val (wn rfl) rfl rfl (py_move rfl) (s_val (wn rfl) rfl rfl (py_move rfl) (s_val (wn rfl) rfl rfl (py_neq rfl rfl) ?_))
            refine s_nil ?_
            refine W_ifd rfl (fun c6 => ?_) (fun c6 => ?_)
            · exact absurd c6 (by omega)
            · refine W_skip ?_
              refine W_seq ?_
              refine W_reg ?_
              refine s_val (wn rfl) rfl rfl (py_move rfl) (s_val (wn rfl) rfl rfl (py_move rfl) (s_val (wn rfl) rfl rfl (py_move rfl) ?_))
              refine s_call (wn rfl) rfl rfl (pc_call Try.func46 rfl Try_nm46 rfl) (Try_laws_toByteSS (H20.sees 0 rfl) (by omega)) (fun v12 w18 r12 => ?_)
              obtain ⟨e18, r12⟩ := r12
              obtain ⟨fp8, H21⟩ := H20.res e18 r12
              obtain ⟨a4, k4, q4⟩ := own_slice (H21.mine 8 rfl)
              cases q4
              refine s_call (wn rfl) rfl rfl (pc_call Try.func60 rfl Try_nm60 rfl) (Try_impl_DecodeRow (H21.msees 8 rfl)) (fun v13 w19 r13 => ?_)
              obtain ⟨e19, sa3, sk3, rfl, r13⟩ := r13
              obtain ⟨fp9, H22⟩ := H21.res e19 r13
              have H23 := H22.share 9 rfl
              obtain ⟨sf3, sq3, sok3, so3⟩ := own_BytesResultC (H23.seen 3 rfl)
              have H25 := H23.look1 3 rfl so3 (fun b hb => by rw [sq3]; simp [hb])
              refine s_var (wn rfl) rfl Try.zeroValue70 H25 (fun b3 w20 e20 g3 H26 => ?_)
              refine s_stoS (wn rfl) Try.sizeOf70 rfl rfl rfl rfl H26 10 rfl rfl (fun w21 e21 H27 => ?_)
              dsimp only [List.nil_append, List.cons_append, List.set_cons_zero, List.set_cons_succ, layL] at H27
              refine s_nil ?_
              refine W_seq ?_
              refine W_seq ?_
              refine W_reg ?_
              refine s_val (wn rfl) rfl rfl (py_loadS Try.underlying70 rfl Try.sizeOf70 rfl rfl (At.whole (H27.box 10 rfl))) (s_val (wn rfl) rfl rfl (py_loadS Try.underlying70 rfl Try.sizeOf70 rfl rfl (At.whole (H27.box 2 rfl))) ?_)
              refine s_call (wn rfl) rfl rfl (pc_call Try.func54 rfl Try_nm54 rfl) (Try_laws_eqBytesResult (by assumption) (H27.sees 4 rfl) (by assumption) (H27.sees 2 rfl)) (fun v14 w22 r14 => ?_)
              obtain ⟨e22, rfl⟩ := r14
              have H28 := H27.to e22
              refine s_val (wn rfl) rfl rfl (py_not rfl) ?_
              refine s_nil ?_
              refine W_if rfl (fun c7 => ?_) (fun c7 => ?_)
              · exact absurd c7 (by simp)
              · refine W_skip ?_
                refine W_seq ?_
                refine W_reg ?_
                refine s_val (wn rfl) rfl rfl (py_assign rfl) ?_
                refine s_nil ?_
                refine W_seq ?_
                refine W_reg ?_
                refine s_val (wn rfl) rfl rfl (py_loadS Try.underlying70 rfl Try.sizeOf70 rfl rfl (At.whole (H28.box 6 rfl))) (s_val (wn rfl) rfl rfl (py_move rfl) ?_)
                refine s_call (wn rfl) rfl rfl (pc_call Try.func58 rfl Try_nm58 rfl) (Try_laws_heldBytesResult (H28.msees 5 rfl) (by constructor <;> omega) (by assumption)) (fun v15 w23 r15 => ?_)
                obtain ⟨e23, rfl⟩ := r15
                have H29 := H28.to e23
                refine s_val (wn rfl) rfl rfl (py_assign rfl) ?_
                refine s_nil ?_
                refine W_seq ?_
                refine W_seq ?_
                refine W_reg ?_
                refine s_val (wn rfl) rfl rfl (py_move rfl) (s_val (wn rfl) rfl rfl (py_lss rfl rfl) ?_)
                refine s_nil ?_
                refine W_ifd rfl (fun c8 => ?_) (fun c8 => ?_)
                · exact absurd c8 (by omega)
                · refine W_skip ?_
                  refine W_seq ?_
                  refine W_seq ?_
                  refine W_reg ?_
                  refine s_val (wn rfl) rfl rfl (py_move rfl) (s_val (wn rfl) rfl rfl (py_move rfl) (s_val (wn rfl) rfl rfl (py_neq rfl rfl) ?_))
                  refine s_nil ?_
                  refine W_ifd rfl (fun c9 => ?_) (fun c9 => ?_)
                  · exact absurd c9 (by omega)
                  · refine W_skip ?_
                    refine W_seq ?_
                    refine W_reg ?_
                    refine s_val (wn rfl) rfl rfl (py_assign rfl) ?_
                    refine s_nil ?_
                    refine W_ret (hQ _ _ (fin1 Try.results11 rfl ?_))
                    exact ⟨H29.ext, rfl⟩
theorem Try_laws_FnExactBlockOf {w : World} {x : Int} {y : Int} {xs : List (List UInt8)} {xsA : Option Addr} {xsC : Nat} {p : Int} (xsS : Sees w [.slice xsA xs.length xsC] xs) : Ret Try.prog 13 #[.int .i64 x, .int .i64 y, .slice xsA xs.length xsC, .int .i64 p] w fun v w' => Ext No w w' ∧ (v = .bool true) := by
  have xsL := sees_len xsS
  unfold maxLen at xsL
  obtain ⟨xsF, xsO⟩ := xsS
  have cnt := blockOf_len (d := x) (s := y) (xs := xs) (p := p)
  refine ret_Q (vs := [.int .i64 x, .int .i64 y, .slice xsA xs.length xsC, .int .i64 p]) Try.func13 rfl Try.ntmps13 rfl (fun Q hQ hN => ?_)
  have H0 := Sep.start (w := w) (F := [seen false [.slice xsA xs.length xsC] xs xsF]) (all_cons xsO (by simp))
  refine W_seq ?_
  refine W_reg ?_
  refine s_val (wn rfl) rfl rfl (py_assign rfl) ?_
  refine s_nil ?_
  refine W_seq ?_
  refine W_reg ?_
  refine s_val (wn rfl) rfl rfl (py_assign rfl) ?_
  refine s_nil ?_
  refine W_seq ?_
  refine W_reg ?_
  refine s_val (wn rfl) rfl rfl (py_move rfl) (s_val (wn rfl) rfl rfl (py_move rfl) ?_)
  refine s_call (wn rfl) rfl rfl (pc_call Try.func44 rfl Try_nm44 rfl) (Try_laws_szByteSS (H0.sees 0 rfl) (by omega)) (fun v1 w1 r1 => ?_)
  obtain ⟨e1, rfl⟩ := r1
  have H1 := H0.to e1
  refine s_val (wn rfl) rfl rfl (py_assign rfl) ?_
  refine s_nil ?_
  refine W_seq ?_
  refine W_seq ?_
  refine W_reg ?_
  refine s_val (wn rfl) rfl rfl (py_move rfl) (s_val (wn rfl) rfl rfl (py_lss rfl rfl) ?_)
  refine s_nil ?_
  refine W_ifd rfl (fun c1 => ?_) (fun c1 => ?_)
  · refine W_seq ?_
    refine W_reg ?_
    refine s_val (wn rfl) rfl rfl (py_assign rfl) ?_
    refine s_nil ?_
    refine W_ret (hQ _ _ (fin1 Try.results13 rfl ?_))
    exact ⟨H1.ext, rfl⟩
  · refine W_skip ?_
    refine W_seq ?_
    have hl : totB xs ≤ 1048576 := by revert c1; split <;> omega
    have hct := cnt_tot hl
    refine W_reg ?_
    refine s_val (wn rfl) rfl rfl (py_move rfl) (s_val (wn rfl) rfl rfl (py_move rfl) (s_val (wn rfl) rfl rfl (py_move rfl) ?_))
    refine s_call (wn rfl) rfl rfl (pc_call Try.func46 rfl Try_nm46 rfl) (Try_laws_toByteSS (H1.sees 0 rfl) (by omega)) (fun v2 w2 r2 => ?_)
    obtain ⟨e2, r2⟩ := r2
    obtain ⟨fp1, H2⟩ := H1.res e2 r2
    obtain ⟨a1, k1, q1⟩ := own_slice (H2.mine 0 rfl)
    cases q1
    refine s_val (wn rfl) rfl rfl (py_move rfl) ?_
    refine s_call (wn rfl) rfl rfl (pc_call Try.func62 rfl Try_nm62 rfl) (Try_spec_BlockOf (H2.msees 0 rfl)) (fun v3 w3 r3 => ?_)
    obtain ⟨e3, sa1, sk1, rfl, r3⟩ := r3
    obtain ⟨fp2, H3⟩ := H2.res e3 r3
    have H4 := H3.share 1 rfl
    obtain ⟨sf1, sq1, sok1, so1⟩ := own_BytesResultC (H4.seen 1 rfl)
    have H6 := H4.look1 1 rfl so1 (fun b hb => by rw [sq1]; simp [hb])
    refine s_var (wn rfl) rfl Try.zeroValue70 H6 (fun b1 w4 e4 g1 H7 => ?_)
    refine s_stoS (wn rfl) Try.sizeOf70 rfl rfl rfl rfl H7 2 rfl rfl (fun w5 e5 H8 => ?_)
    dsimp only [List.nil_append, List.cons_append, List.set_cons_zero, List.set_cons_succ, layL] at H8
    refine s_nil ?_
    refine W_seq ?_
    refine W_reg ?_
    refine s_val (wn rfl) rfl rfl (py_move rfl) ?_
    refine s_call (wn rfl) rfl rfl (pc_call Try.func46 rfl Try_nm46 rfl) (Try_laws_toByteSS (H8.sees 0 rfl) (by omega)) (fun v4 w6 r4 => ?_)
    obtain ⟨e6, r4⟩ := r4
    obtain ⟨fp3, H9⟩ := H8.res e6 r4
    obtain ⟨a2, k2, q2⟩ := own_slice (H9.mine 3 rfl)
    cases q2
    refine s_val (wn rfl) rfl rfl (py_assign rfl) ?_
    refine s_nil ?_
    refine W_seq ?_
    refine W_reg ?_
    refine s_val (wn rfl) rfl rfl (py_move rfl) (s_val (wn rfl) rfl rfl (py_move rfl) (s_val (wn rfl) rfl rfl (py_move rfl) (s_val (wn rfl) rfl rfl (py_move rfl) ?_)))
    refine s_call (wn rfl) rfl rfl (pc_call Try.func61 rfl Try_nm61 rfl) (Try_impl_BlockOf (H9.msees 3 rfl)) (fun v5 w7 r5 => ?_)
    obtain ⟨e7, sa2, sk2, rfl, r5⟩ := r5
    obtain ⟨fp4, H10⟩ := H9.res e7 r5
    obtain ⟨sf2, sq2, sok2, so2⟩ := own_BytesResultC (H10.mine 4 rfl)
    have H11 := H10.part 4 rfl [mine [.slice _ (blockOf x y xs p).Bytes.length _] (blockOf x y xs p).Bytes sf2] (all_cons so2 (by simp)) (by simp [blocks, mine, sq2])
    try dsimp only [List.nil_append, List.cons_append, List.set_cons_zero, List.set_cons_succ] at H11
    refine s_var (wn rfl) rfl Try.zeroValue70 H11 (fun b2 w8 e8 g2 H12 => ?_)
    refine s_stoS (wn rfl) Try.sizeOf70 rfl rfl rfl rfl H12 6 rfl rfl (fun w9 e9 H13 => ?_)
    dsimp only [List.nil_append, List.cons_append, List.set_cons_zero, List.set_cons_succ, layL] at H13
    refine s_nil ?_
    refine W_seq ?_
    refine W_seq ?_
    refine W_reg ?_
    refine s_val (wn rfl) rfl rfl (py_loadS Try.underlying70 rfl Try.sizeOf70 rfl rfl (At.whole (H13.box 6 rfl))) (s_val (wn rfl) rfl rfl (py_loadS Try.underlying70 rfl Try.sizeOf70 rfl rfl (At.whole (H13.box 2 rfl))) ?_)
    refine s_call (wn rfl) rfl rfl (pc_call Try.func54 rfl Try_nm54 rfl) (Try_laws_eqBytesResult (by assumption) (H13.msees 5 rfl) (by assumption) (H13.sees 2 rfl)) (fun v6 w10 r6 => ?_)
    obtain ⟨e10, rfl⟩ := r6
    have H14 := H13.to e10
    refine s_val (wn rfl) rfl rfl (py_not rfl) ?_
    refine s_nil ?_
    refine W_if rfl (fun c2 => ?_) (fun c2 => ?_)
    · exact absurd c2 (by simp)
    · refine W_skip ?_
      refine W_seq ?_
      refine W_seq ?_
      refine W_reg ?_
      refine s_val (wn rfl) rfl rfl (py_move rfl) (s_val (wn rfl) rfl rfl (py_move rfl) ?_)
      refine s_call (wn rfl) rfl rfl (pc_call Try.func46 rfl Try_nm46 rfl) (Try_laws_toByteSS (H14.sees 0 rfl) (by omega)) (fun v7 w11 r7 => ?_)
      obtain ⟨e11, r7⟩ := r7
      obtain ⟨fp5, H15⟩ := H14.res e11 r7
      obtain ⟨a3, k3, q3⟩ := own_slice (H15.mine 7 rfl)
      cases q3
      refine s_call (wn rfl) rfl rfl (pc_call Try.func48 rfl Try_nm48 rfl) (Try_laws_eqByteSS (H15.msees 3 rfl) (H15.msees 7 rfl)) (fun v8 w12 r8 => ?_)
      obtain ⟨e12, rfl⟩ := r8
      have H16 := H15.to e12
      refine s_val (wn rfl) rfl rfl (py_not rfl) ?_
      refine s_nil ?_
      refine W_if rfl (fun c3 => ?_) (fun c3 => ?_)
      · exact absurd c3 (by simp)
      · refine W_skip ?_
        refine W_seq ?_
        refine W_reg ?_
        refine s_val (wn rfl) rfl rfl (py_assign rfl) ?_
        refine s_nil ?_
        refine W_seq ?_
        refine W_reg ?_
        refine s_val (wn rfl) rfl rfl (py_move rfl) (s_val (wn rfl) rfl rfl (py_move rfl) ?_)
        refine s_call (wn rfl) rfl rfl (pc_call Try.func50 rfl Try_nm50 rfl) (Try_laws_markByteSS (H16.mine 3 rfl) (H16.nodup1 (i := 3) rfl) (by constructor <;> omega)) (fun v9 w13 r9 => ?_)
        obtain ⟨rfl, mx1, mm1, ml1, mk1⟩ := r9
        obtain ⟨fp6, H17⟩ := H16.mut 3 rfl mm1
        try dsimp only [List.nil_append, List.cons_append, List.set_cons_zero, List.set_cons_succ] at H17
        refine s_val (wn rfl) rfl rfl (py_assign rfl) ?_
        refine s_nil ?_
        refine W_seq ?_
        refine W_seq ?_
        refine W_reg ?_
        refine s_val (wn rfl) rfl rfl (py_move rfl) (s_val (wn rfl) rfl rfl (py_lss rfl rfl) (s_val (wn rfl) rfl rfl (py_move rfl) ?_))
        refine s_grp 4 (j := 2) (want := false) (t := 53) rfl rfl rfl rfl (fun hg1 kk1 => s_val (wgE rfl rfl rfl hg1) rfl rfl (py_loadS Try.underlying70 rfl Try.sizeOf70 rfl rfl (At.whole (H17.box 6 rfl))) (s_val (wgE rfl rfl rfl hg1) rfl rfl (py_loadS Try.underlying70 rfl Try.sizeOf70 rfl rfl (At.whole (H17.box 2 rfl))) (s_callv (wgE rfl rfl rfl hg1) rfl rfl (pc_call Try.func54 rfl Try_nm54 rfl) (Try_laws_eqBytesResult (by assumption) (H17.msees 5 rfl) (by assumption) (H17.sees 2 rfl)) (fun w15 e15 => s_val (wgE rfl rfl rfl hg1) rfl rfl (py_not rfl) (kk1 _ _ (kx rfl (kx rfl (kx rfl (kx rfl k0)))) rfl (Ext.refl.trans e15)))))) (fun w14 e14 => ?_)
        have H18 := H17.to e14
        refine s_val (wn rfl) rfl rfl (py_bor rfl rfl) ?_
        refine s_nil ?_
        refine W_if rfl (fun c4 => ?_) (fun c4 => ?_)
        · exact absurd c4 (by simp; omega)
        · refine W_skip ?_
          refine W_seq ?_
          refine W_reg ?_
          refine s_val (wn rfl) rfl rfl (py_assign rfl) ?_
          refine s_nil ?_
          refine W_seq ?_
          refine W_reg ?_
          refine s_val (wn rfl) rfl rfl (py_loadS Try.underlying70 rfl Try.sizeOf70 rfl rfl (At.whole (H18.box 6 rfl))) (s_val (wn rfl) rfl rfl (py_move rfl) ?_)
          refine s_call (wn rfl) rfl rfl (pc_call Try.func57 rfl Try_nm57 rfl) (Try_laws_markBytesResult (H18.mine 5 rfl) (H18.nodup1 (i := 5) rfl) (by constructor <;> omega)) (fun v10 w16 r10 => ?_)
          obtain ⟨rfl, mx2, mm2, ml2, mk2⟩ := r10
          obtain ⟨fp7, H19⟩ := H18.mut 5 rfl mm2
          try dsimp only [List.nil_append, List.cons_append, List.set_cons_zero, List.set_cons_succ] at H19
          refine s_val (wn rfl) rfl rfl (py_assign rfl) ?_
          refine s_nil ?_
          refine W_seq ?_
          refine W_reg ?_
          refine s_val (wn rfl) rfl rfl (py_assign rfl) ?_
          refine s_nil ?_
          refine W_seq ?_
          refine W_reg ?_
          refine s_val (wn rfl) rfl rfl (py_loadS Try.underlying70 rfl Try.sizeOf70 rfl rfl (At.whole (H19.box 6 rfl))) (s_val (wn rfl) rfl rfl (py_move rfl) ?_)
          refine s_call (wn rfl) rfl rfl (pc_call Try.func58 rfl Try_nm58 rfl) (Try_laws_heldBytesResult (H19.msees 5 rfl) (by constructor <;> omega) (by assumption)) (fun v11 w17 r11 => ?_)
          obtain ⟨e17, rfl⟩ := r11
          have H20 := H19.to e17
          refine s_val (wn rfl) rfl rfl (py_assign rfl) ?_
          refine s_nil ?_
          refine W_seq ?_
          refine W_seq ?_
          refine W_reg ?_
          refine s_val (wn rfl) rfl rfl (py_move rfl) (s_val (wn rfl) rfl rfl (py_lss rfl rfl) ?_)
          refine s_nil ?_
          refine W_ifd rfl (fun c5 => ?_) (fun c5 => ?_)
          · exact absurd c5 (by omega)
          · refine W_skip ?_
            refine W_seq ?_
            refine W_seq ?_
            refine W_reg ?_
            refine s_val (wn rfl) rfl rfl (py_move rfl) (s_val (wn rfl) rfl rfl (py_move rfl) (s_val (wn rfl) rfl rfl (py_neq rfl rfl) ?_))
            refine s_nil ?_
            refine W_ifd rfl (fun c6 => ?_) (fun c6 => ?_)
            · exact absurd c6 (by omega)
            · refine W_skip ?_
              refine W_seq ?_
              refine W_reg ?_
              refine s_val (wn rfl) rfl rfl (py_move rfl) (s_val (wn rfl) rfl rfl (py_move rfl) (s_val (wn rfl) rfl rfl (py_move rfl) ?_))
              refine s_call (wn rfl) rfl rfl (pc_call Try.func46 rfl Try_nm46 rfl) (Try_laws_toByteSS (H20.sees 0 rfl) (by omega)) (fun v12 w18 r12 => ?_)
              obtain ⟨e18, r12⟩ := r12
              obtain ⟨fp8, H21⟩ := H20.res e18 r12
              obtain ⟨a4, k4, q4⟩ := own_slice (H21.mine 8 rfl)
              cases q4
              refine s_val (wn rfl) rfl rfl (py_move rfl) ?_
              refine s_call (wn rfl) rfl rfl (pc_call Try.func61 rfl Try_nm61 rfl) (Try_impl_BlockOf (H21.msees 8 rfl)) (fun v13 w19 r13 => ?_)
              obtain ⟨e19, sa3, sk3, rfl, r13⟩ := r13
              obtain ⟨fp9, H22⟩ := H21.res e19 r13
              have H23 := H22.share 9 rfl
              obtain ⟨sf3, sq3, sok3, so3⟩ := own_BytesResultC (H23.seen 3 rfl)
              have H25 := H23.look1 3 rfl so3 (fun b hb => by rw [sq3]; simp [hb])
              refine s_var (wn rfl) rfl Try.zeroValue70 H25 (fun b3 w20 e20 g3 H26 => ?_)
              refine s_stoS (wn rfl) Try.sizeOf70 rfl rfl rfl rfl H26 10 rfl rfl (fun w21 e21 H27 => ?_)
              dsimp only [List.nil_append, List.cons_append, List.set_cons_zero, List.set_cons_succ, layL] at H27
              refine s_nil ?_
              refine W_seq ?_
              refine W_seq ?_
              refine W_reg ?_
              refine s_val (wn rfl) rfl rfl (py_loadS Try.underlying70 rfl Try.sizeOf70 rfl rfl (At.whole (H27.box 10 rfl))) (s_val (wn rfl) rfl rfl (py_loadS Try.underlying70 rfl Try.sizeOf70 rfl rfl (At.whole (H27.box 2 rfl))) ?_)
              refine s_call (wn rfl) rfl rfl (pc_call Try.func54 rfl Try_nm54 rfl) (Try_laws_eqBytesResult (by assumption) (H27.sees 4 rfl) (by assumption) (H27.sees 2 rfl)) (fun v14 w22 r14 => ?_)
              obtain ⟨e22, rfl⟩ := r14
              have H28 := H27.to e22
              refine s_val (wn rfl) rfl rfl (py_not rfl) ?_
              refine s_nil ?_
              refine W_if rfl (fun c7 => ?_) (fun c7 => ?_)
              · exact absurd c7 (by simp)
              · refine W_skip ?_
                refine W_seq ?_
                refine W_reg ?_
                refine s_val (wn rfl) rfl rfl (py_assign rfl) ?_
                refine s_nil ?_
                refine W_seq ?_
                refine W_reg ?_
                refine s_val (wn rfl) rfl rfl (py_loadS Try.underlying70 rfl Try.sizeOf70 rfl rfl (At.whole (H28.box 6 rfl))) (s_val (wn rfl) rfl rfl (py_move rfl) ?_)
                refine s_call (wn rfl) rfl rfl (pc_call Try.func58 rfl Try_nm58 rfl) (Try_laws_heldBytesResult (H28.msees 5 rfl) (by constructor <;> omega) (by assumption)) (fun v15 w23 r15 => ?_)
                obtain ⟨e23, rfl⟩ := r15
                have H29 := H28.to e23
                refine s_val (wn rfl) rfl rfl (py_assign rfl) ?_
                refine s_nil ?_
                refine W_seq ?_
                refine W_seq ?_
                refine W_reg ?_
                refine s_val (wn rfl) rfl rfl (py_move rfl) (s_val (wn rfl) rfl rfl (py_lss rfl rfl) ?_)
                refine s_nil ?_
                refine W_ifd rfl (fun c8 => ?_) (fun c8 => ?_)
                · exact absurd c8 (by omega)
                · refine W_skip ?_
                  refine W_seq ?_
                  refine W_seq ?_
                  refine W_reg ?_
                  refine s_val (wn rfl) rfl rfl (py_move rfl) (s_val (wn rfl) rfl rfl (py_move rfl) (s_val (wn rfl) rfl rfl (py_neq rfl rfl) ?_))
                  refine s_nil ?_
                  refine W_ifd rfl (fun c9 => ?_) (fun c9 => ?_)
                  · exact absurd c9 (by omega)
                  · refine W_skip ?_
                    refine W_seq ?_
                    refine W_reg ?_
                    refine s_val (wn rfl) rfl rfl (py_assign rfl) ?_
                    refine s_nil ?_
                    refine W_ret (hQ _ _ (fin1 Try.results13 rfl ?_))
                    exact ⟨H29.ext, rfl⟩
end Go.Wk
