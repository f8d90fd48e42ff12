/-
  The functions walked, each once. (Printed by a program of mine.)
-/
import Derived.Test.YtceeelcijjkefaaGreatFacts
import Derived.Test.YtceeelcijjkefaaGreatWkK
set_option linter.unusedVariables false
set_option linter.unusedSimpArgs false
namespace Go.Wk
open Go.Proofs Rp
set_option maxRecDepth 10000
theorem Tryz_laws_szInt64S {w : World} {xs : List Int} {xsA : Option Addr} {xsC : Nat} {l : Int} (xsS : Sees w [.slice xsA xs.length xsC] xs) (hl : -1 ≤ l ∧ l ≤ 1048576) : Ret Tryz.prog 67 #[.slice xsA xs.length xsC, .int .i64 l] w fun v w' => Ext No w w' ∧ (v = .int .i64 (if l - xs.length < 0 then -1 else l - xs.length)) := by
  have xsL := sees_len xsS
  unfold maxLen at xsL
  obtain ⟨xsF, xsO⟩ := xsS
  refine ret_Q (vs := [.slice xsA xs.length xsC, .int .i64 l]) Tryz.func67 rfl Tryz.ntmps67 rfl (fun Q hQ hN => ?_)
  have H0 := Sep.start (w := w) (F := [seen false [.slice xsA xs.length xsC] xs xsF]) (all_cons xsO (by simp))
  refine W_seq ?_
  refine W_reg ?_
  refine s_val (wn rfl) rfl rfl (py_assign rfl) ?_
  refine s_nil ?_
  refine W_seq ?_
  refine W_reg ?_
  refine s_val (wn rfl) rfl rfl (py_move rfl) (s_val (wn rfl) rfl rfl (py_move rfl) (s_val (wn rfl) rfl rfl (py_len Tryz.underlying25 rfl) (s_val (wn rfl) rfl rfl (py_sub rfl rfl (in64 ⟨by omega, by omega⟩)) (s_val (wn rfl) rfl rfl (py_assign rfl) ?_))))
  refine s_nil ?_
  refine W_seq ?_
  refine W_seq ?_
  refine W_reg ?_
  refine s_val (wn rfl) rfl rfl (py_move rfl) (s_val (wn rfl) rfl rfl (py_lss rfl rfl) ?_)
  refine s_nil ?_
  refine W_ifd rfl (fun c1 => ?_) (fun c1 => ?_)
  · refine W_seq ?_
    refine W_reg ?_
    refine s_val (wn rfl) rfl rfl (py_assign rfl) ?_
    refine s_nil ?_
    refine W_ret (hQ _ _ (fin1 Tryz.results67 rfl ?_))
    exact ⟨H0.ext, by rw [if_pos c1]⟩
  · refine W_skip ?_
    refine W_seq ?_
    refine W_reg ?_
    refine s_val (wn rfl) rfl rfl (py_move rfl) (s_val (wn rfl) rfl rfl (py_assign rfl) ?_)
    refine s_nil ?_
    refine W_ret (hQ _ _ (fin1 Tryz.results67 rfl ?_))
    exact ⟨H0.ext, by rw [if_neg c1]⟩
theorem Tryz_laws_eqInt64S {w : World} {xs : List Int} {xsA : Option Addr} {xsC : Nat} {ys : List Int} {ysA : Option Addr} {ysC : Nat} (xsS : Sees w [.slice xsA xs.length xsC] xs) (ysS : Sees w [.slice ysA ys.length ysC] ys) : Ret Tryz.prog 80 #[.slice xsA xs.length xsC, .slice ysA ys.length ysC] w fun v w' => Ext No w w' ∧ (v = .bool (decide (xs = ys))) := by
  have xsL := sees_len xsS
  unfold maxLen at xsL
  obtain ⟨xsF, xsO⟩ := xsS
  have ysL := sees_len ysS
  unfold maxLen at ysL
  obtain ⟨ysF, ysO⟩ := ysS
  refine ret_Q (vs := [.slice xsA xs.length xsC, .slice ysA ys.length ysC]) Tryz.func80 rfl Tryz.ntmps80 rfl (fun Q hQ hN => ?_)
  have H0 := Sep.start (w := w) (F := [seen false [.slice xsA xs.length xsC] xs xsF, seen false [.slice ysA ys.length ysC] ys ysF]) (all_cons xsO (all_cons ysO (by simp)))
  refine W_seq ?_
  refine W_reg ?_
  refine s_val (wn rfl) rfl rfl (py_assign rfl) ?_
  refine s_nil ?_
  refine W_seq ?_
  refine W_seq ?_
  refine W_reg ?_
  refine s_val (wn rfl) rfl rfl (py_move rfl) (s_val (wn rfl) rfl rfl (py_len Tryz.underlying25 rfl) (s_val (wn rfl) rfl rfl (py_move rfl) (s_val (wn rfl) rfl rfl (py_len Tryz.underlying25 rfl) (s_val (wn rfl) rfl rfl (py_neq rfl rfl) ?_))))
  refine s_nil ?_
  refine W_ifd rfl (fun c1 => ?_) (fun c1 => ?_)
  · refine W_seq ?_
    refine W_reg ?_
    refine s_val (wn rfl) rfl rfl (py_assign rfl) ?_
    refine s_nil ?_
    refine W_ret (hQ _ _ (fin1 Tryz.results80 rfl ?_))
    refine ⟨H0.ext, ?_⟩
    rw [decide_eq_false (fun e => by subst e; exact c1 rfl)]
  · refine W_skip ?_
    refine W_seq ?_
    refine W_seq ?_
    refine W_reg ?_
    refine s_val (wn rfl) rfl rfl (py_assign rfl) ?_
    refine s_nil ?_
    refine W_block ?_
    refine W_loop (γ := Nat) (fun k => [(0, .slice xsA xs.length xsC), (1, .slice ysA ys.length ysC), (5, .int .i64 k)]) (fun k w' => Sep No w [] [seen false [.slice xsA xs.length xsC] xs xsF, seen false [.slice ysA ys.length ysC] ys ysF] w' ∧ k ≤ xs.length ∧ (∀ i, i < k → xs.getD i 0 = ys.getD i 0)) (fun k => xs.length - k) 0 ⟨rfl, rfl, rfl, trivial⟩ ⟨H0, by omega, fun i hi => by omega⟩ (fun k w1 H1 => ?_)
    obtain ⟨H1, hk, he⟩ := H1
    refine W_seq ?_
    refine W_seq ?_
    refine W_reg ?_
    refine s_val (wn rfl) rfl rfl (py_move rfl) (s_val (wn rfl) rfl rfl (py_move rfl) (s_val (wn rfl) rfl rfl (py_len Tryz.underlying25 rfl) (s_val (wn rfl) rfl rfl (py_lss rfl rfl) ?_)))
    refine s_nil ?_
    refine W_ifd rfl (fun c2 => ?_) (fun c2 => ?_)
    · refine W_skip ?_
      refine W_seq ?_
      refine W_block ?_
      refine W_seq ?_
      obtain ⟨eb1, eo1, ee1, ec1⟩ := elem_int (H1.seen 0 rfl) k (by omega)
      have eI1 := elem_i64 (H1.seen 0 rfl) k (by omega)
      obtain ⟨eb2, eo2, ee2, ec2⟩ := elem_int (H1.seen 1 rfl) k (by omega)
      have eI2 := elem_i64 (H1.seen 1 rfl) k (by omega)
      refine W_drw (S := Ext No _) [(0, true), (1, true), (2, true), (3, true), (4, true), (5, true), (6, true), (7, true), (8, false)] (by kernel_rfl) (by kernel_rfl) (by kernel_rfl) rfl (fun _ => Ext.refl.drawn _) (fun q1 => ?_)
      have H2 := H1.drawn q1
      refine d_val rfl (wn rfl) rfl rfl (fun zw hx => py_move rfl) (d_val rfl (wn rfl) rfl rfl (fun zw hx => py_move rfl) (d_val rfl (wn rfl) rfl rfl (fun zw hx => py_elz Tryz.underlying25 Tryz.sizeOf2 rfl rfl ee1 k (by omega) (by omega)) (d_val rfl (wn rfl) rfl rfl (fun zw hx => py_load Tryz.underlying2 rfl rfl (hx.cell ec1)) (d_val rfl (wn rfl) rfl rfl (fun zw hx => py_move rfl) (d_val rfl (wn rfl) rfl rfl (fun zw hx => py_move rfl) (d_val rfl (wn rfl) rfl rfl (fun zw hx => py_elz Tryz.underlying25 Tryz.sizeOf2 rfl rfl ee2 k (by omega) (by omega)) (d_val rfl (wn rfl) rfl rfl (fun zw hx => py_load Tryz.underlying2 rfl rfl (hx.cell ec2)) (d_end rfl (wn rfl) rfl rfl (py_neq rfl rfl) ?_))))))))
      refine d_nil ?_
      refine W_ifd rfl (fun c3 => ?_) (fun c3 => ?_)
      · refine W_seq ?_
        refine W_reg ?_
        refine s_val (wn rfl) rfl rfl (py_assign rfl) ?_
        refine s_nil ?_
        refine W_ret (hQ _ _ (fin1 Tryz.results80 rfl ?_))
        refine ⟨H2.ext, ?_⟩
        rw [decide_eq_false (fun e => by subst e; exact c3 rfl)]
      · refine W_skip ?_
        refine W_reg ?_
        refine s_val (wn rfl) rfl rfl (py_move rfl) (s_val (wn rfl) rfl rfl (py_add rfl rfl (in64 ⟨by omega, by omega⟩)) (s_val (wn rfl) rfl rfl (py_assign rfl) ?_))
        refine s_nil ?_
        refine ⟨k + 1, ⟨rfl, rfl, rfl, trivial⟩, ⟨H2, by omega, fun i hi => ?_⟩, by dsimp only; omega⟩
        have c4 : xs.getD k 0 = ys.getD k 0 := by omega
        by_cases e : i = k
        · subst e; exact c4
        · exact he i (by omega)
    · refine W_exit ?_
      refine W_seq ?_
      refine W_reg ?_
      refine s_val (wn rfl) rfl rfl (py_assign rfl) ?_
      refine s_nil ?_
      refine W_ret (hQ _ _ (fin1 Tryz.results80 rfl ?_))
      refine ⟨H1.ext, ?_⟩
      rw [decide_eq_true (getD_ext (d := 0) (by omega) fun i hi => he i (by omega))]
theorem Tryz_laws_szByteS {w : World} {xs : List UInt8} {xsA : Option Addr} {xsC : Nat} {l : Int} (xsS : Sees w [.slice xsA xs.length xsC] xs) (hl : -1 ≤ l ∧ l ≤ 1048576) : Ret Tryz.prog 107 #[.slice xsA xs.length xsC, .int .i64 l] w fun v w' => Ext No w w' ∧ (v = .int .i64 (if l - xs.length < 0 then -1 else l - xs.length)) := by
  have xsL := sees_len xsS
  unfold maxLen at xsL
  obtain ⟨xsF, xsO⟩ := xsS
  refine ret_Q (vs := [.slice xsA xs.length xsC, .int .i64 l]) Tryz.func107 rfl Tryz.ntmps107 rfl (fun Q hQ hN => ?_)
  have H0 := Sep.start (w := w) (F := [seen false [.slice xsA xs.length xsC] xs xsF]) (all_cons xsO (by simp))
  refine W_seq ?_
  refine W_reg ?_
  refine s_val (wn rfl) rfl rfl (py_assign rfl) ?_
  refine s_nil ?_
  refine W_seq ?_
  refine W_reg ?_
  refine s_val (wn rfl) rfl rfl (py_move rfl) (s_val (wn rfl) rfl rfl (py_move rfl) (s_val (wn rfl) rfl rfl (py_len Tryz.underlying61 rfl) (s_val (wn rfl) rfl rfl (py_sub rfl rfl (in64 ⟨by omega, by omega⟩)) (s_val (wn rfl) rfl rfl (py_assign rfl) ?_))))
  refine s_nil ?_
  refine W_seq ?_
  refine W_seq ?_
  refine W_reg ?_
  refine s_val (wn rfl) rfl rfl (py_move rfl) (s_val (wn rfl) rfl rfl (py_lss rfl rfl) ?_)
  refine s_nil ?_
  refine W_ifd rfl (fun c1 => ?_) (fun c1 => ?_)
  · refine W_seq ?_
    refine W_reg ?_
    refine s_val (wn rfl) rfl rfl (py_assign rfl) ?_
    refine s_nil ?_
    refine W_ret (hQ _ _ (fin1 Tryz.results107 rfl ?_))
    exact ⟨H0.ext, by rw [if_pos c1]⟩
  · refine W_skip ?_
    refine W_seq ?_
    refine W_reg ?_
    refine s_val (wn rfl) rfl rfl (py_move rfl) (s_val (wn rfl) rfl rfl (py_assign rfl) ?_)
    refine s_nil ?_
    refine W_ret (hQ _ _ (fin1 Tryz.results107 rfl ?_))
    exact ⟨H0.ext, by rw [if_neg c1]⟩
theorem Tryz_laws_eqByteS {w : World} {xs : List UInt8} {xsA : Option Addr} {xsC : Nat} {ys : List UInt8} {ysA : Option Addr} {ysC : Nat} (xsS : Sees w [.slice xsA xs.length xsC] xs) (ysS : Sees w [.slice ysA ys.length ysC] ys) : Ret Tryz.prog 55 #[.slice xsA xs.length xsC, .slice ysA ys.length ysC] w fun v w' => Ext No w w' ∧ (v = .bool (decide (xs = ys))) := by
  have xsL := sees_len xsS
  unfold maxLen at xsL
  obtain ⟨xsF, xsO⟩ := xsS
  have ysL := sees_len ysS
  unfold maxLen at ysL
  obtain ⟨ysF, ysO⟩ := ysS
  refine ret_Q (vs := [.slice xsA xs.length xsC, .slice ysA ys.length ysC]) Tryz.func55 rfl Tryz.ntmps55 rfl (fun Q hQ hN => ?_)
  have H0 := Sep.start (w := w) (F := [seen false [.slice xsA xs.length xsC] xs xsF, seen false [.slice ysA ys.length ysC] ys ysF]) (all_cons xsO (all_cons ysO (by simp)))
  refine W_seq ?_
  refine W_reg ?_
  refine s_val (wn rfl) rfl rfl (py_assign rfl) ?_
  refine s_nil ?_
  refine W_seq ?_
  refine W_seq ?_
  refine W_reg ?_
  refine s_val (wn rfl) rfl rfl (py_move rfl) (s_val (wn rfl) rfl rfl (py_len Tryz.underlying61 rfl) (s_val (wn rfl) rfl rfl (py_move rfl) (s_val (wn rfl) rfl rfl (py_len Tryz.underlying61 rfl) (s_val (wn rfl) rfl rfl (py_neq rfl rfl) ?_))))
  refine s_nil ?_
  refine W_ifd rfl (fun c1 => ?_) (fun c1 => ?_)
  · refine W_seq ?_
    refine W_reg ?_
    refine s_val (wn rfl) rfl rfl (py_assign rfl) ?_
    refine s_nil ?_
    refine W_ret (hQ _ _ (fin1 Tryz.results55 rfl ?_))
    refine ⟨H0.ext, ?_⟩
    rw [decide_eq_false (fun e => by subst e; exact c1 rfl)]
  · refine W_skip ?_
    refine W_seq ?_
    refine W_seq ?_
    refine W_reg ?_
    refine s_val (wn rfl) rfl rfl (py_assign rfl) ?_
    refine s_nil ?_
    refine W_block ?_
    refine W_loop (γ := Nat) (fun k => [(0, .slice xsA xs.length xsC), (1, .slice ysA ys.length ysC), (5, .int .i64 k)]) (fun k w' => Sep No w [] [seen false [.slice xsA xs.length xsC] xs xsF, seen false [.slice ysA ys.length ysC] ys ysF] w' ∧ k ≤ xs.length ∧ (∀ i, i < k → xs.getD i 0 = ys.getD i 0)) (fun k => xs.length - k) 0 ⟨rfl, rfl, rfl, trivial⟩ ⟨H0, by omega, fun i hi => by omega⟩ (fun k w1 H1 => ?_)
    obtain ⟨H1, hk, he⟩ := H1
    refine W_seq ?_
    refine W_seq ?_
    refine W_reg ?_
    refine s_val (wn rfl) rfl rfl (py_move rfl) (s_val (wn rfl) rfl rfl (py_move rfl) (s_val (wn rfl) rfl rfl (py_len Tryz.underlying61 rfl) (s_val (wn rfl) rfl rfl (py_lss rfl rfl) ?_)))
    refine s_nil ?_
    refine W_ifd rfl (fun c2 => ?_) (fun c2 => ?_)
    · refine W_skip ?_
      refine W_seq ?_
      refine W_block ?_
      refine W_seq ?_
      obtain ⟨eb1, eo1, ee1, ec1⟩ := elem_u8 (H1.seen 0 rfl) k (by omega)
      obtain ⟨eb2, eo2, ee2, ec2⟩ := elem_u8 (H1.seen 1 rfl) k (by omega)
      refine W_drw (S := Ext No _) [(0, true), (1, true), (2, true), (3, true), (4, true), (5, true), (6, true), (7, true), (8, false)] (by kernel_rfl) (by kernel_rfl) (by kernel_rfl) rfl (fun _ => Ext.refl.drawn _) (fun q1 => ?_)
      have H2 := H1.drawn q1
      refine d_val rfl (wn rfl) rfl rfl (fun zw hx => py_move rfl) (d_val rfl (wn rfl) rfl rfl (fun zw hx => py_move rfl) (d_val rfl (wn rfl) rfl rfl (fun zw hx => py_elz Tryz.underlying61 Tryz.sizeOf5 rfl rfl ee1 k (by omega) (by omega)) (d_val rfl (wn rfl) rfl rfl (fun zw hx => py_load Tryz.underlying5 rfl rfl (hx.cell ec1)) (d_val rfl (wn rfl) rfl rfl (fun zw hx => py_move rfl) (d_val rfl (wn rfl) rfl rfl (fun zw hx => py_move rfl) (d_val rfl (wn rfl) rfl rfl (fun zw hx => py_elz Tryz.underlying61 Tryz.sizeOf5 rfl rfl ee2 k (by omega) (by omega)) (d_val rfl (wn rfl) rfl rfl (fun zw hx => py_load Tryz.underlying5 rfl rfl (hx.cell ec2)) (d_end rfl (wn rfl) rfl rfl (py_neq rfl rfl) ?_))))))))
      refine d_nil ?_
      refine W_ifd rfl (fun c3 => ?_) (fun c3 => ?_)
      · refine W_seq ?_
        refine W_reg ?_
        refine s_val (wn rfl) rfl rfl (py_assign rfl) ?_
        refine s_nil ?_
        refine W_ret (hQ _ _ (fin1 Tryz.results55 rfl ?_))
        refine ⟨H2.ext, ?_⟩
        rw [decide_eq_false (fun e => by subst e; exact c3 rfl)]
      · refine W_skip ?_
        refine W_reg ?_
        refine s_val (wn rfl) rfl rfl (py_move rfl) (s_val (wn rfl) rfl rfl (py_add rfl rfl (in64 ⟨by omega, by omega⟩)) (s_val (wn rfl) rfl rfl (py_assign rfl) ?_))
        refine s_nil ?_
        refine ⟨k + 1, ⟨rfl, rfl, rfl, trivial⟩, ⟨H2, by omega, fun i hi => ?_⟩, by dsimp only; omega⟩
        have c4 : xs.getD k 0 = ys.getD k 0 := by apply u8_inj.1; omega
        by_cases e : i = k
        · subst e; exact c4
        · exact he i (by omega)
    · refine W_exit ?_
      refine W_seq ?_
      refine W_reg ?_
      refine s_val (wn rfl) rfl rfl (py_assign rfl) ?_
      refine s_nil ?_
      refine W_ret (hQ _ _ (fin1 Tryz.results55 rfl ?_))
      refine ⟨H1.ext, ?_⟩
      rw [decide_eq_true (getD_ext (d := 0) (by omega) fun i hi => he i (by omega))]
theorem Tryz_laws_toInt64S {w : World} {xs : List Int} {xsA : Option Addr} {xsC : Nat} (xsS : Sees w [.slice xsA xs.length xsC] xs) (hl : xs.length ≤ 1048576) : Ret Tryz.prog 73 #[.slice xsA xs.length xsC] w fun v w' => Ext No w w' ∧ (Res w w' [v] xs) := by
  have xsL := sees_len xsS
  unfold maxLen at xsL
  obtain ⟨xsF, xsO⟩ := xsS
  refine ret_Q (vs := [.slice xsA xs.length xsC]) Tryz.func73 rfl Tryz.ntmps73 rfl (fun Q hQ hN => ?_)
  have H0 := Sep.start (w := w) (F := [seen false [.slice xsA xs.length xsC] xs xsF]) (all_cons xsO (by simp))
  refine W_seq ?_
  refine W_reg ?_
  refine s_val (wn rfl) rfl rfl (py_assign rfl) ?_
  refine s_nil ?_
  refine W_seq ?_
  refine W_reg ?_
  refine s_val (wn rfl) rfl rfl (py_move rfl) (s_val (wn rfl) rfl rfl (py_len Tryz.underlying25 rfl) ?_)
  refine s_make (wn rfl) rfl Tryz.underlying25 Tryz_ty2 own_zi rfl (by omega) (by unfold maxLen; omega) H0 (fun b1 w1 e1 g1 H1 => ?_)
  refine s_val (wn rfl) rfl rfl (py_assign rfl) ?_
  refine s_nil ?_
  refine W_seq ?_
  refine W_seq ?_
  refine W_reg ?_
  refine s_val (wn rfl) rfl rfl (py_assign rfl) ?_
  refine s_nil ?_
  refine W_block ?_
  refine W_loop (γ := Nat × List Nat) (fun (k, fp) => [(0, .slice xsA xs.length xsC), (3, .slice (some ⟨b1, 0, none⟩) xs.length xs.length), (4, .int .i64 k)]) (fun (k, fp) w' => Sep No w [mine [.slice (some ⟨b1, 0, none⟩) xs.length xs.length] (cp xs k 0) fp] [seen false [.slice xsA xs.length xsC] xs xsF] w' ∧ k ≤ xs.length) (fun (k, fp) => xs.length - k) (0, [b1]) ⟨rfl, rfl, rfl, trivial⟩ ⟨cp_zero ▸ H1, by omega⟩ (fun (k, fp) w2 H2 => ?_)
  obtain ⟨H2, hk⟩ := H2
  refine W_seq ?_
  refine W_seq ?_
  refine W_reg ?_
  refine s_val (wn rfl) rfl rfl (py_move rfl) (s_val (wn rfl) rfl rfl (py_move rfl) (s_val (wn rfl) rfl rfl (py_len Tryz.underlying25 rfl) (s_val (wn rfl) rfl rfl (py_lss rfl rfl) ?_)))
  refine s_nil ?_
  refine W_ifd rfl (fun c1 => ?_) (fun c1 => ?_)
  · refine W_skip ?_
    refine W_seq ?_
    refine W_block ?_
    obtain ⟨eb1, eo1, ee1, ec1⟩ := elem_int (H2.seen 0 rfl) k (by omega)
    have eI1 := elem_i64 (H2.seen 0 rfl) k (by omega)
    obtain ⟨eb2, eo2, ee2, ec2⟩ := elem_int (H2.mine 0 rfl) k (by rw [cp_len (xs := xs) (k := k) (by omega)]; omega)
    refine W_reg ?_
    refine s_val (wn rfl) rfl rfl (py_move rfl) (s_val (wn rfl) rfl rfl (py_move rfl) (s_val (wn rfl) rfl rfl (py_move rfl) (s_val (wn rfl) rfl rfl (py_move rfl) (s_val (wn rfl) rfl rfl (py_elz Tryz.underlying25 Tryz.sizeOf2 rfl rfl ee1 k (by omega) (by omega)) (s_val (wn rfl) rfl rfl (py_load Tryz.underlying2 rfl rfl ec1) (s_val (wn rfl) rfl rfl (py_elz Tryz.underlying25 Tryz.sizeOf2 rfl rfl ee2 k (by omega) (by omega)) ?_))))))
    refine s_elst (wn rfl) Tryz.sizeOf2 rfl H2 0 rfl k (by rw [cp_len (xs := xs) (k := k) (by omega)]; omega) rfl ee2 rfl (own_bi (by first | assumption | (unfold I64ok; omega))) (fun w3 fp1 e2 H3 => ?_)
    refine s_nil ?_
    refine W_reg ?_
    refine s_val (wn rfl) rfl rfl (py_move rfl) (s_val (wn rfl) rfl rfl (py_add rfl rfl (in64 ⟨by omega, by omega⟩)) (s_val (wn rfl) rfl rfl (py_assign rfl) ?_))
    refine s_nil ?_
    refine ⟨(k + 1, _), ⟨rfl, rfl, rfl, trivial⟩, ⟨cp_set (xs := xs) (k := k) (d := 0) (by omega) ▸ H3, by omega⟩, by dsimp only; omega⟩
  · refine W_exit ?_
    refine W_seq ?_
    refine W_reg ?_
    refine s_val (wn rfl) rfl rfl (py_move rfl) (s_val (wn rfl) rfl rfl (py_assign rfl) ?_)
    refine s_nil ?_
    refine W_ret (hQ _ _ (fin1 Tryz.results73 rfl ?_))
    obtain rfl : k = xs.length := by omega
    exact ⟨H2.ext, by
      have h := H2.out 0 rfl
      rwa [cp_all] at h⟩
theorem Tryz_laws_toByteS {w : World} {xs : List UInt8} {xsA : Option Addr} {xsC : Nat} (xsS : Sees w [.slice xsA xs.length xsC] xs) (hl : xs.length ≤ 1048576) : Ret Tryz.prog 53 #[.slice xsA xs.length xsC] w fun v w' => Ext No w w' ∧ (Res w w' [v] xs) := by
  have xsL := sees_len xsS
  unfold maxLen at xsL
  obtain ⟨xsF, xsO⟩ := xsS
  refine ret_Q (vs := [.slice xsA xs.length xsC]) Tryz.func53 rfl Tryz.ntmps53 rfl (fun Q hQ hN => ?_)
  have H0 := Sep.start (w := w) (F := [seen false [.slice xsA xs.length xsC] xs xsF]) (all_cons xsO (by simp))
  refine W_seq ?_
  refine W_reg ?_
  refine s_val (wn rfl) rfl rfl (py_assign rfl) ?_
  refine s_nil ?_
  refine W_seq ?_
  refine W_reg ?_
  refine s_val (wn rfl) rfl rfl (py_move rfl) (s_val (wn rfl) rfl rfl (py_len Tryz.underlying61 rfl) ?_)
  refine s_make (wn rfl) rfl Tryz.underlying61 Tryz_ty5 own_z8 rfl (by omega) (by unfold maxLen; omega) H0 (fun b1 w1 e1 g1 H1 => ?_)
  refine s_val (wn rfl) rfl rfl (py_assign rfl) ?_
  refine s_nil ?_
  refine W_seq ?_
  refine W_seq ?_
  refine W_reg ?_
  refine s_val (wn rfl) rfl rfl (py_assign rfl) ?_
  refine s_nil ?_
  refine W_block ?_
  refine W_loop (γ := Nat × List Nat) (fun (k, fp) => [(0, .slice xsA xs.length xsC), (3, .slice (some ⟨b1, 0, none⟩) xs.length xs.length), (4, .int .i64 k)]) (fun (k, fp) w' => Sep No w [mine [.slice (some ⟨b1, 0, none⟩) xs.length xs.length] (cp xs k 0) fp] [seen false [.slice xsA xs.length xsC] xs xsF] w' ∧ k ≤ xs.length) (fun (k, fp) => xs.length - k) (0, [b1]) ⟨rfl, rfl, rfl, trivial⟩ ⟨cp_zero ▸ H1, by omega⟩ (fun (k, fp) w2 H2 => ?_)
  obtain ⟨H2, hk⟩ := H2
  refine W_seq ?_
  refine W_seq ?_
  refine W_reg ?_
  refine s_val (wn rfl) rfl rfl (py_move rfl) (s_val (wn rfl) rfl rfl (py_move rfl) (s_val (wn rfl) rfl rfl (py_len Tryz.underlying61 rfl) (s_val (wn rfl) rfl rfl (py_lss rfl rfl) ?_)))
  refine s_nil ?_
  refine W_ifd rfl (fun c1 => ?_) (fun c1 => ?_)
  · refine W_skip ?_
    refine W_seq ?_
    refine W_block ?_
    obtain ⟨eb1, eo1, ee1, ec1⟩ := elem_u8 (H2.seen 0 rfl) k (by omega)
    obtain ⟨eb2, eo2, ee2, ec2⟩ := elem_u8 (H2.mine 0 rfl) k (by rw [cp_len (xs := xs) (k := k) (by omega)]; omega)
    refine W_reg ?_
    refine s_val (wn rfl) rfl rfl (py_move rfl) (s_val (wn rfl) rfl rfl (py_move rfl) (s_val (wn rfl) rfl rfl (py_move rfl) (s_val (wn rfl) rfl rfl (py_move rfl) (s_val (wn rfl) rfl rfl (py_elz Tryz.underlying61 Tryz.sizeOf5 rfl rfl ee1 k (by omega) (by omega)) (s_val (wn rfl) rfl rfl (py_load Tryz.underlying5 rfl rfl ec1) (s_val (wn rfl) rfl rfl (py_elz Tryz.underlying61 Tryz.sizeOf5 rfl rfl ee2 k (by omega) (by omega)) ?_))))))
    refine s_elst (wn rfl) Tryz.sizeOf5 rfl H2 0 rfl k (by rw [cp_len (xs := xs) (k := k) (by omega)]; omega) rfl ee2 rfl own_b8 (fun w3 fp1 e2 H3 => ?_)
    refine s_nil ?_
    refine W_reg ?_
    refine s_val (wn rfl) rfl rfl (py_move rfl) (s_val (wn rfl) rfl rfl (py_add rfl rfl (in64 ⟨by omega, by omega⟩)) (s_val (wn rfl) rfl rfl (py_assign rfl) ?_))
    refine s_nil ?_
    refine ⟨(k + 1, _), ⟨rfl, rfl, rfl, trivial⟩, ⟨cp_set (xs := xs) (k := k) (d := 0) (by omega) ▸ H3, by omega⟩, by dsimp only; omega⟩
  · refine W_exit ?_
    refine W_seq ?_
    refine W_reg ?_
    refine s_val (wn rfl) rfl rfl (py_move rfl) (s_val (wn rfl) rfl rfl (py_assign rfl) ?_)
    refine s_nil ?_
    refine W_ret (hQ _ _ (fin1 Tryz.results53 rfl ?_))
    obtain rfl : k = xs.length := by omega
    exact ⟨H2.ext, by
      have h := H2.out 0 rfl
      rwa [cp_all] at h⟩
theorem Tryz_spec_l1Has {w : World} {xs : List Int} {xsA : Option Addr} {xsC : Nat} {x : Int} (xsS : Sees w [.slice xsA xs.length xsC] xs) : Ret Tryz.prog 139 #[.slice xsA xs.length xsC, .int .i64 x] w fun v w' => Ext No w w' ∧ (v = .bool (decide (x ∈ xs))) := by
  have xsL := sees_len xsS
  unfold maxLen at xsL
  obtain ⟨xsF, xsO⟩ := xsS
  refine ret_Q (vs := [.slice xsA xs.length xsC, .int .i64 x]) Tryz.func139 rfl Tryz.ntmps139 rfl (fun Q hQ hN => ?_)
  have H0 := Sep.start (w := w) (F := [seen false [.slice xsA xs.length xsC] xs xsF]) (all_cons xsO (by simp))
  refine W_seq ?_
  refine W_reg ?_
  refine s_val (wn rfl) rfl rfl (py_assign rfl) ?_
  refine s_nil ?_
  refine W_seq ?_
  refine W_seq ?_
  refine W_reg ?_
  refine s_val (wn rfl) rfl rfl (py_assign rfl) ?_
  refine s_nil ?_
  refine W_block ?_
  refine W_loop (γ := Nat) (fun k => [(0, .slice xsA xs.length xsC), (1, .int .i64 x), (5, .int .i64 k)]) (fun k w' => Sep No w [] [seen false [.slice xsA xs.length xsC] xs xsF] w' ∧ k ≤ xs.length ∧ (∀ i, i < k → xs.getD i 0 ≠ x)) (fun k => xs.length - k) 0 ⟨rfl, rfl, rfl, trivial⟩ ⟨H0, by omega, fun i hi => by omega⟩ (fun k w1 H1 => ?_)
  obtain ⟨H1, hk, he⟩ := H1
  refine W_seq ?_
  refine W_seq ?_
  refine W_reg ?_
  refine s_val (wn rfl) rfl rfl (py_move rfl) (s_val (wn rfl) rfl rfl (py_move rfl) (s_val (wn rfl) rfl rfl (py_len Tryz.underlying25 rfl) (s_val (wn rfl) rfl rfl (py_lss rfl rfl) ?_)))
  refine s_nil ?_
  refine W_ifd rfl (fun c1 => ?_) (fun c1 => ?_)
  · refine W_skip ?_
    refine W_seq ?_
    refine W_block ?_
    refine W_seq ?_
    obtain ⟨eb1, eo1, ee1, ec1⟩ := elem_int (H1.seen 0 rfl) k (by omega)
    have eI1 := elem_i64 (H1.seen 0 rfl) k (by omega)
    refine W_reg ?_
    refine s_val (wn rfl) rfl rfl (py_move rfl) (s_val (wn rfl) rfl rfl (py_move rfl) (s_val (wn rfl) rfl rfl (py_elz Tryz.underlying25 Tryz.sizeOf2 rfl rfl ee1 k (by omega) (by omega)) (s_val (wn rfl) rfl rfl (py_load Tryz.underlying2 rfl rfl ec1) (s_val (wn rfl) rfl rfl (py_move rfl) (s_val (wn rfl) rfl rfl (py_eql rfl rfl) ?_)))))
    refine s_nil ?_
    refine W_ifd rfl (fun c2 => ?_) (fun c2 => ?_)
    · refine W_seq ?_
      refine W_reg ?_
      refine s_val (wn rfl) rfl rfl (py_assign rfl) ?_
      refine s_nil ?_
      refine W_ret (hQ _ _ (fin1 Tryz.results139 rfl ?_))
      exact ⟨H1.ext, by rw [decide_eq_true (mem_getD (d := 0) (k := k) (by omega) c2)]⟩
    · refine W_skip ?_
      refine W_reg ?_
      refine s_val (wn rfl) rfl rfl (py_move rfl) (s_val (wn rfl) rfl rfl (py_add rfl rfl (in64 ⟨by omega, by omega⟩)) (s_val (wn rfl) rfl rfl (py_assign rfl) ?_))
      refine s_nil ?_
      refine ⟨k + 1, ⟨rfl, rfl, rfl, trivial⟩, ⟨H1, by omega, fun i hi => ?_⟩, by dsimp only; omega⟩
      by_cases e : i = k
      · subst e; omega
      · exact he i (by omega)
  · refine W_exit ?_
    refine W_seq ?_
    refine W_reg ?_
    refine s_val (wn rfl) rfl rfl (py_assign rfl) ?_
    refine s_nil ?_
    refine W_ret (hQ _ _ (fin1 Tryz.results139 rfl ?_))
    exact ⟨H1.ext, by rw [decide_eq_false (not_mem_getD (d := 0) fun i hi => he i (by omega))]⟩
theorem Tryz_slices_Index_int64_int64 {w : World} {xs : List Int} {xsA : Option Addr} {xsC : Nat} {x : Int} (xsS : Sees w [.slice xsA xs.length xsC] xs) : Ret Tryz.prog 271 #[.slice xsA xs.length xsC, .int .i64 x] w fun v w' => Ext No w w' ∧ (v = .int .i64 (idxOf xs x)) := by
  have xsL := sees_len xsS
  unfold maxLen at xsL
  obtain ⟨xsF, xsO⟩ := xsS
  refine ret_Q (vs := [.slice xsA xs.length xsC, .int .i64 x]) Tryz.func271 rfl Tryz.ntmps271 rfl (fun Q hQ hN => ?_)
  have H0 := Sep.start (w := w) (F := [seen false [.slice xsA xs.length xsC] xs xsF]) (all_cons xsO (by simp))
  refine W_seq ?_
  refine W_reg ?_
  refine s_val (wn rfl) rfl rfl (py_assign rfl) ?_
  refine s_nil ?_
  refine W_seq ?_
  refine W_seq ?_
  refine W_reg ?_
  refine s_val (wn rfl) rfl rfl (py_move rfl) (s_val (wn rfl) rfl rfl (py_len Tryz.underlying25 rfl) (s_val (wn rfl) rfl rfl (py_move rfl) ?_))
  refine s_nil ?_
  refine W_block ?_
  refine W_loop (γ := Nat) (fun k => [(0, .slice xsA xs.length xsC), (1, .int .i64 x), (7, .int .i64 xs.length), (8, .int .i64 k)]) (fun k w' => Sep No w [] [seen false [.slice xsA xs.length xsC] xs xsF] w' ∧ k ≤ xs.length ∧ (∀ i, i < k → xs.getD i 0 ≠ x)) (fun k => xs.length - k) 0 ⟨rfl, rfl, rfl, rfl, trivial⟩ ⟨H0, by omega, fun i hi => by omega⟩ (fun k w1 H1 => ?_)
  obtain ⟨H1, hk, he⟩ := H1
  refine W_seq ?_
  refine W_reg ?_
  refine s_val (wn rfl) rfl rfl (py_lss rfl rfl) ?_
  refine s_nil ?_
  refine W_seq ?_
  refine W_ifd rfl (fun c1 => ?_) (fun c1 => ?_)
  · refine W_skip ?_
    refine W_seq ?_
    refine W_block ?_
    refine W_seq ?_
    refine W_reg ?_
    refine s_val (wn rfl) rfl rfl (py_move rfl) (s_val (wn rfl) rfl rfl (py_assign rfl) ?_)
    refine s_nil ?_
    refine W_seq ?_
    obtain ⟨eb1, eo1, ee1, ec1⟩ := elem_int (H1.seen 0 rfl) k (by omega)
    have eI1 := elem_i64 (H1.seen 0 rfl) k (by omega)
    refine W_reg ?_
    refine s_val (wn rfl) rfl rfl (py_move rfl) (s_val (wn rfl) rfl rfl (py_move rfl) (s_val (wn rfl) rfl rfl (py_move rfl) (s_val (wn rfl) rfl rfl (py_elz Tryz.underlying25 Tryz.sizeOf2 rfl rfl ee1 k (by omega) (by omega)) (s_val (wn rfl) rfl rfl (py_load Tryz.underlying2 rfl rfl ec1) (s_val (wn rfl) rfl rfl (py_eql rfl rfl) ?_)))))
    refine s_nil ?_
    refine W_ifd rfl (fun c2 => ?_) (fun c2 => ?_)
    · refine W_seq ?_
      refine W_reg ?_
      refine s_val (wn rfl) rfl rfl (py_move rfl) (s_val (wn rfl) rfl rfl (py_assign rfl) ?_)
      refine s_nil ?_
      refine W_ret (hQ _ _ (fin1 Tryz.results271 rfl ?_))
      exact ⟨H1.ext, congrArg (Value.int .i64) (idxOf_eq (by omega) c2.symm he).symm⟩
    · refine W_skip ?_
      refine W_reg ?_
      refine s_val (wn rfl) rfl rfl (py_add rfl rfl (in64 ⟨by omega, by omega⟩)) (s_val (wn rfl) rfl rfl (py_move rfl) ?_)
      refine s_nil ?_
      refine ⟨k + 1, ⟨rfl, rfl, rfl, rfl, trivial⟩, ⟨H1, by omega, fun i hi => ?_⟩, by dsimp only; omega⟩
      by_cases e : i = k
      · subst e; omega
      · exact he i (by omega)
  · refine W_exit ?_
    refine W_seq ?_
    refine W_reg ?_
    refine s_val (wn rfl) rfl rfl (py_assign rfl) ?_
    refine s_nil ?_
    refine W_ret (hQ _ _ (fin1 Tryz.results271 rfl ?_))
    exact ⟨H1.ext, congrArg (Value.int .i64) (idxOf_no fun i hi => he i (by omega)).symm⟩
theorem Tryz_slices_Contains_int64_int64 {w : World} {xs : List Int} {xsA : Option Addr} {xsC : Nat} {x : Int} (xsS : Sees w [.slice xsA xs.length xsC] xs) : Ret Tryz.prog 220 #[.slice xsA xs.length xsC, .int .i64 x] w fun v w' => Ext No w w' ∧ (v = .bool (decide (x ∈ xs))) := by
  have xsL := sees_len xsS
  unfold maxLen at xsL
  obtain ⟨xsF, xsO⟩ := xsS
  refine ret_Q (vs := [.slice xsA xs.length xsC, .int .i64 x]) Tryz.func220 rfl Tryz.ntmps220 rfl (fun Q hQ hN => ?_)
  have H0 := Sep.start (w := w) (F := [seen false [.slice xsA xs.length xsC] xs xsF]) (all_cons xsO (by simp))
  refine W_seq ?_
  refine W_reg ?_
  refine s_val (wn rfl) rfl rfl (py_assign rfl) ?_
  refine s_nil ?_
  refine W_seq ?_
  refine W_reg ?_
  refine s_val (wn rfl) rfl rfl (py_move rfl) (s_val (wn rfl) rfl rfl (py_move rfl) ?_)
  refine s_call (wn rfl) rfl rfl (pc_call Tryz.func271 rfl Tryz_nm271 rfl) (Tryz_slices_Index_int64_int64 (H0.sees 0 rfl)) (fun v1 w1 r1 => ?_)
  obtain ⟨e1, rfl⟩ := r1
  have H1 := H0.to e1
  refine s_val (wn rfl) rfl rfl (py_geq rfl rfl) (s_val (wn rfl) rfl rfl (py_assign rfl) ?_)
  refine s_nil ?_
  refine W_ret (hQ _ _ (fin1 Tryz.results220 rfl ?_))
  exact ⟨H1.ext, by rw [idxOf_has]⟩
end Go.Wk
