/-
  Laws on walking, and the functions walked, each once: what this claim comes to.
-/
import Derived.Test.YtceeelcijjkefaaGreatZa0
set_option linter.unusedVariables false
set_option linter.unusedSimpArgs false
namespace Go.Wk
open Go.Proofs Rp
set_option maxRecDepth 10000
theorem Tryz_laws_szInt64S {w : World} {xs : List Int} {xsA : Option Addr} {xsC : Nat} {l : Int} (xsS : Sees w [.slice xsA xs.length xsC] xs) (hl : -1 ≤ l ∧ l ≤ 1048576) : Ret Tryz.prog 67 #[.slice xsA xs.length xsC, .int .i64 l] w fun v w' => Ext No w w' ∧ (v = .int .i64 (if l - xs.length < 0 then -1 else l - xs.length)) := by
 have xsL := sees_len xsS
 unfold maxLen at xsL
 obtain ⟨xsF, xsO⟩ := xsS
 refine ret_Q (vs := [.slice xsA xs.length xsC, .int .i64 l]) Tryz.func67 rfl Tryz.ntmps67 rfl (fun Q hQ hN => ?_)
 have H0 := Sep.start (w := w) (F := [seen false [.slice xsA xs.length xsC] xs xsF]) (all_cons xsO (by simp))
 refine W_sr (sV rfl (py_assign rfl) (s_nil (W_sr (sV rfl (py_move rfl) (sV rfl (py_move rfl) (sV rfl (py_len Tryz.underlying25 rfl) (sV rfl (py_sub rfl rfl (in64 ⟨by omega, by omega⟩)) (sV rfl (py_assign rfl) (s_nil (W_seq (W_sr (sV rfl (py_move rfl) (sV rfl (py_lss rfl rfl) (s_nil (W_ifd rfl (fun c1 => ?_) (fun c1 => ?_))))))))))))))))
 ·refine W_sr (sV rfl (py_assign rfl) (s_nil (W_ret (hQ _ _ (fin1 Tryz.results67 rfl ?_)))))
  exact ⟨H0.ext, by rw [if_pos c1]⟩
 ·refine W_skip (W_sr (sV rfl (py_move rfl) (sV rfl (py_assign rfl) (s_nil (W_ret (hQ _ _ (fin1 Tryz.results67 rfl ?_)))))))
  exact ⟨H0.ext, by rw [if_neg c1]⟩
theorem Tryz_laws_eqInt64S {w : World} {xs : List Int} {xsA : Option Addr} {xsC : Nat} {ys : List Int} {ysA : Option Addr} {ysC : Nat} (xsS : Sees w [.slice xsA xs.length xsC] xs) (ysS : Sees w [.slice ysA ys.length ysC] ys) : Ret Tryz.prog 80 #[.slice xsA xs.length xsC, .slice ysA ys.length ysC] w fun v w' => Ext No w w' ∧ (v = .bool (decide (xs = ys))) := by
 have xsL := sees_len xsS
 unfold maxLen at xsL
 obtain ⟨xsF, xsO⟩ := xsS
 have ysL := sees_len ysS
 unfold maxLen at ysL
 obtain ⟨ysF, ysO⟩ := ysS
 refine ret_Q (vs := [.slice xsA xs.length xsC, .slice ysA ys.length ysC]) Tryz.func80 rfl Tryz.ntmps80 rfl (fun Q hQ hN => ?_)
 have H0 := Sep.start (w := w) (F := [seen false [.slice xsA xs.length xsC] xs xsF, seen false [.slice ysA ys.length ysC] ys ysF]) (all_cons xsO (all_cons ysO (by simp)))
 refine W_sr (sV rfl (py_assign rfl) (s_nil (W_seq (W_sr (sV rfl (py_move rfl) (sV rfl (py_len Tryz.underlying25 rfl) (sV rfl (py_move rfl) (sV rfl (py_len Tryz.underlying25 rfl) (sV rfl (py_neq rfl rfl) (s_nil (W_ifd rfl (fun c1 => ?_) (fun c1 => ?_))))))))))))
 ·refine W_sr (sV rfl (py_assign rfl) (s_nil (W_ret (hQ _ _ (fin1 Tryz.results80 rfl (⟨H0.ext, ?_⟩))))))
  rw [decide_eq_false (fun e => by subst e; exact c1 rfl)]
 ·refine W_skip (W_seq (W_sr (sV rfl (py_assign rfl) (s_nil (W_block (W_loop (γ := Nat) (fun k => [(0, .slice xsA xs.length xsC), (1, .slice ysA ys.length ysC), (5, .int .i64 k)]) (fun k w' => Sep No w [] [seen false [.slice xsA xs.length xsC] xs xsF, seen false [.slice ysA ys.length ysC] ys ysF] w' ∧ k ≤ xs.length ∧ (∀ i, i < k → xs.getD i 0 = ys.getD i 0)) (fun k => xs.length - k) 0 ⟨rfl, rfl, rfl, trivial⟩ ⟨H0, by omega, fun i hi => by omega⟩ (fun k w1 H1 => ?_)))))))
  obtain ⟨H1, hk, he⟩ := H1
  refine W_seq (W_sr (sV rfl (py_move rfl) (sV rfl (py_move rfl) (sV rfl (py_len Tryz.underlying25 rfl) (sV rfl (py_lss rfl rfl) (s_nil (W_ifd rfl (fun c2 => ?_) (fun c2 => ?_))))))))
  ·refine W_skip (W_seq (W_block (W_seq ?_)))
   obtain ⟨eb1, eo1, ee1, ec1⟩ := elem_int (H1.seen 0 rfl) k (by omega)
   have eI1 := elem_i64 (H1.seen 0 rfl) k (by omega)
   obtain ⟨eb2, eo2, ee2, ec2⟩ := elem_int (H1.seen 1 rfl) k (by omega)
   have eI2 := elem_i64 (H1.seen 1 rfl) k (by omega)
   refine W_drw (S := Ext No _) [(0, true), (1, true), (2, true), (3, true), (4, true), (5, true), (6, true), (7, true), (8, false)] (by kernel_rfl) (by kernel_rfl) (by kernel_rfl) rfl (fun _ => Ext.refl.drawn _) (fun q1 => ?_)
   have H2 := H1.drawn q1
   refine dV rfl rfl (fun zw hx => py_move rfl) (dV rfl rfl (fun zw hx => py_move rfl) (dV rfl rfl (fun zw hx => py_elz Tryz.underlying25 Tryz.sizeOf2 rfl rfl ee1 k (by omega) (by omega)) (dV rfl rfl (fun zw hx => py_load Tryz.underlying2 rfl rfl (hx.cell ec1)) (dV rfl rfl (fun zw hx => py_move rfl) (dV rfl rfl (fun zw hx => py_move rfl) (dV rfl rfl (fun zw hx => py_elz Tryz.underlying25 Tryz.sizeOf2 rfl rfl ee2 k (by omega) (by omega)) (dV rfl rfl (fun zw hx => py_load Tryz.underlying2 rfl rfl (hx.cell ec2)) (d_end rfl (wn rfl) rfl rfl (py_neq rfl rfl) (d_nil (W_ifd rfl (fun c3 => ?_) (fun c3 => ?_)))))))))))
   ·refine W_sr (sV rfl (py_assign rfl) (s_nil (W_ret (hQ _ _ (fin1 Tryz.results80 rfl (⟨H2.ext, ?_⟩))))))
    rw [decide_eq_false (fun e => by subst e; exact c3 rfl)]
   ·refine W_skip (W_reg (sV rfl (py_move rfl) (sV rfl (py_add rfl rfl (in64 ⟨by omega, by omega⟩)) (sV rfl (py_assign rfl) (s_nil (⟨k + 1, ⟨rfl, rfl, rfl, trivial⟩, ⟨H2, by omega, fun i hi => ?_⟩, by dsimp only; omega⟩))))))
    have c4 : xs.getD k 0 = ys.getD k 0 := by omega
    by_cases e : i = k
    ·subst e; exact c4
    ·exact he i (by omega)
  ·refine W_exit (W_sr (sV rfl (py_assign rfl) (s_nil (W_ret (hQ _ _ (fin1 Tryz.results80 rfl (⟨H1.ext, ?_⟩)))))))
   rw [decide_eq_true (getD_ext (d := 0) (by omega) fun i hi => he i (by omega))]
theorem Tryz_laws_szByteS {w : World} {xs : List UInt8} {xsA : Option Addr} {xsC : Nat} {l : Int} (xsS : Sees w [.slice xsA xs.length xsC] xs) (hl : -1 ≤ l ∧ l ≤ 1048576) : Ret Tryz.prog 107 #[.slice xsA xs.length xsC, .int .i64 l] w fun v w' => Ext No w w' ∧ (v = .int .i64 (if l - xs.length < 0 then -1 else l - xs.length)) := by
 have xsL := sees_len xsS
 unfold maxLen at xsL
 obtain ⟨xsF, xsO⟩ := xsS
 refine ret_Q (vs := [.slice xsA xs.length xsC, .int .i64 l]) Tryz.func107 rfl Tryz.ntmps107 rfl (fun Q hQ hN => ?_)
 have H0 := Sep.start (w := w) (F := [seen false [.slice xsA xs.length xsC] xs xsF]) (all_cons xsO (by simp))
 refine W_sr (sV rfl (py_assign rfl) (s_nil (W_sr (sV rfl (py_move rfl) (sV rfl (py_move rfl) (sV rfl (py_len Tryz.underlying61 rfl) (sV rfl (py_sub rfl rfl (in64 ⟨by omega, by omega⟩)) (sV rfl (py_assign rfl) (s_nil (W_seq (W_sr (sV rfl (py_move rfl) (sV rfl (py_lss rfl rfl) (s_nil (W_ifd rfl (fun c1 => ?_) (fun c1 => ?_))))))))))))))))
 ·refine W_sr (sV rfl (py_assign rfl) (s_nil (W_ret (hQ _ _ (fin1 Tryz.results107 rfl ?_)))))
  exact ⟨H0.ext, by rw [if_pos c1]⟩
 ·refine W_skip (W_sr (sV rfl (py_move rfl) (sV rfl (py_assign rfl) (s_nil (W_ret (hQ _ _ (fin1 Tryz.results107 rfl ?_)))))))
  exact ⟨H0.ext, by rw [if_neg c1]⟩
theorem Tryz_laws_eqByteS {w : World} {xs : List UInt8} {xsA : Option Addr} {xsC : Nat} {ys : List UInt8} {ysA : Option Addr} {ysC : Nat} (xsS : Sees w [.slice xsA xs.length xsC] xs) (ysS : Sees w [.slice ysA ys.length ysC] ys) : Ret Tryz.prog 55 #[.slice xsA xs.length xsC, .slice ysA ys.length ysC] w fun v w' => Ext No w w' ∧ (v = .bool (decide (xs = ys))) := by
 have xsL := sees_len xsS
 unfold maxLen at xsL
 obtain ⟨xsF, xsO⟩ := xsS
 have ysL := sees_len ysS
 unfold maxLen at ysL
 obtain ⟨ysF, ysO⟩ := ysS
 refine ret_Q (vs := [.slice xsA xs.length xsC, .slice ysA ys.length ysC]) Tryz.func55 rfl Tryz.ntmps55 rfl (fun Q hQ hN => ?_)
 have H0 := Sep.start (w := w) (F := [seen false [.slice xsA xs.length xsC] xs xsF, seen false [.slice ysA ys.length ysC] ys ysF]) (all_cons xsO (all_cons ysO (by simp)))
 refine W_sr (sV rfl (py_assign rfl) (s_nil (W_seq (W_sr (sV rfl (py_move rfl) (sV rfl (py_len Tryz.underlying61 rfl) (sV rfl (py_move rfl) (sV rfl (py_len Tryz.underlying61 rfl) (sV rfl (py_neq rfl rfl) (s_nil (W_ifd rfl (fun c1 => ?_) (fun c1 => ?_))))))))))))
 ·refine W_sr (sV rfl (py_assign rfl) (s_nil (W_ret (hQ _ _ (fin1 Tryz.results55 rfl (⟨H0.ext, ?_⟩))))))
  rw [decide_eq_false (fun e => by subst e; exact c1 rfl)]
 ·refine W_skip (W_seq (W_sr (sV rfl (py_assign rfl) (s_nil (W_block (W_loop (γ := Nat) (fun k => [(0, .slice xsA xs.length xsC), (1, .slice ysA ys.length ysC), (5, .int .i64 k)]) (fun k w' => Sep No w [] [seen false [.slice xsA xs.length xsC] xs xsF, seen false [.slice ysA ys.length ysC] ys ysF] w' ∧ k ≤ xs.length ∧ (∀ i, i < k → xs.getD i 0 = ys.getD i 0)) (fun k => xs.length - k) 0 ⟨rfl, rfl, rfl, trivial⟩ ⟨H0, by omega, fun i hi => by omega⟩ (fun k w1 H1 => ?_)))))))
  obtain ⟨H1, hk, he⟩ := H1
  refine W_seq (W_sr (sV rfl (py_move rfl) (sV rfl (py_move rfl) (sV rfl (py_len Tryz.underlying61 rfl) (sV rfl (py_lss rfl rfl) (s_nil (W_ifd rfl (fun c2 => ?_) (fun c2 => ?_))))))))
  ·refine W_skip (W_seq (W_block (W_seq ?_)))
   obtain ⟨eb1, eo1, ee1, ec1⟩ := elem_u8 (H1.seen 0 rfl) k (by omega)
   obtain ⟨eb2, eo2, ee2, ec2⟩ := elem_u8 (H1.seen 1 rfl) k (by omega)
   refine W_drw (S := Ext No _) [(0, true), (1, true), (2, true), (3, true), (4, true), (5, true), (6, true), (7, true), (8, false)] (by kernel_rfl) (by kernel_rfl) (by kernel_rfl) rfl (fun _ => Ext.refl.drawn _) (fun q1 => ?_)
   have H2 := H1.drawn q1
   refine dV rfl rfl (fun zw hx => py_move rfl) (dV rfl rfl (fun zw hx => py_move rfl) (dV rfl rfl (fun zw hx => py_elz Tryz.underlying61 Tryz.sizeOf5 rfl rfl ee1 k (by omega) (by omega)) (dV rfl rfl (fun zw hx => py_load Tryz.underlying5 rfl rfl (hx.cell ec1)) (dV rfl rfl (fun zw hx => py_move rfl) (dV rfl rfl (fun zw hx => py_move rfl) (dV rfl rfl (fun zw hx => py_elz Tryz.underlying61 Tryz.sizeOf5 rfl rfl ee2 k (by omega) (by omega)) (dV rfl rfl (fun zw hx => py_load Tryz.underlying5 rfl rfl (hx.cell ec2)) (d_end rfl (wn rfl) rfl rfl (py_neq rfl rfl) (d_nil (W_ifd rfl (fun c3 => ?_) (fun c3 => ?_)))))))))))
   ·refine W_sr (sV rfl (py_assign rfl) (s_nil (W_ret (hQ _ _ (fin1 Tryz.results55 rfl (⟨H2.ext, ?_⟩))))))
    rw [decide_eq_false (fun e => by subst e; exact c3 rfl)]
   ·refine W_skip (W_reg (sV rfl (py_move rfl) (sV rfl (py_add rfl rfl (in64 ⟨by omega, by omega⟩)) (sV rfl (py_assign rfl) (s_nil (⟨k + 1, ⟨rfl, rfl, rfl, trivial⟩, ⟨H2, by omega, fun i hi => ?_⟩, by dsimp only; omega⟩))))))
    have c4 : xs.getD k 0 = ys.getD k 0 := by apply u8_inj.1; omega
    by_cases e : i = k
    ·subst e; exact c4
    ·exact he i (by omega)
  ·refine W_exit (W_sr (sV rfl (py_assign rfl) (s_nil (W_ret (hQ _ _ (fin1 Tryz.results55 rfl (⟨H1.ext, ?_⟩)))))))
   rw [decide_eq_true (getD_ext (d := 0) (by omega) fun i hi => he i (by omega))]
theorem Tryz_laws_toInt64S {w : World} {xs : List Int} {xsA : Option Addr} {xsC : Nat} (xsS : Sees w [.slice xsA xs.length xsC] xs) (hl : xs.length ≤ 1048576) : Ret Tryz.prog 73 #[.slice xsA xs.length xsC] w fun v w' => Ext No w w' ∧ (Res w w' [v] xs) := by
 have xsL := sees_len xsS
 unfold maxLen at xsL
 obtain ⟨xsF, xsO⟩ := xsS
 refine ret_Q (vs := [.slice xsA xs.length xsC]) Tryz.func73 rfl Tryz.ntmps73 rfl (fun Q hQ hN => ?_)
 have H0 := Sep.start (w := w) (F := [seen false [.slice xsA xs.length xsC] xs xsF]) (all_cons xsO (by simp))
 refine W_sr (sV rfl (py_assign rfl) (s_nil (W_sr (sV rfl (py_move rfl) (sV rfl (py_len Tryz.underlying25 rfl) (s_make (wn rfl) rfl Tryz.underlying25 Tryz_ty2 own_zi rfl (by omega) (by unfold maxLen; omega) H0 (fun b1 w1 e1 g1 H1 => ?_)))))))
 refine sV rfl (py_assign rfl) (s_nil (W_seq (W_sr (sV rfl (py_assign rfl) (s_nil (W_block (W_loop (γ := Nat × List Nat) (fun (k, fp) => [(0, .slice xsA xs.length xsC), (3, .slice (some ⟨b1, 0, none⟩) xs.length xs.length), (4, .int .i64 k)]) (fun (k, fp) w' => Sep No w [mine [.slice (some ⟨b1, 0, none⟩) xs.length xs.length] (cp xs k 0) fp] [seen false [.slice xsA xs.length xsC] xs xsF] w' ∧ k ≤ xs.length) (fun (k, fp) => xs.length - k) (0, [b1]) ⟨rfl, rfl, rfl, trivial⟩ ⟨cp_zero ▸ H1, by omega⟩ (fun (k, fp) w2 H2 => ?_))))))))
 obtain ⟨H2, hk⟩ := H2
 refine W_seq (W_sr (sV rfl (py_move rfl) (sV rfl (py_move rfl) (sV rfl (py_len Tryz.underlying25 rfl) (sV rfl (py_lss rfl rfl) (s_nil (W_ifd rfl (fun c1 => ?_) (fun c1 => ?_))))))))
 ·refine W_skip (W_seq (W_block ?_))
  obtain ⟨eb1, eo1, ee1, ec1⟩ := elem_int (H2.seen 0 rfl) k (by omega)
  have eI1 := elem_i64 (H2.seen 0 rfl) k (by omega)
  obtain ⟨eb2, eo2, ee2, ec2⟩ := elem_int (H2.mine 0 rfl) k (by rw [cp_len (xs := xs) (k := k) (by omega)]; omega)
  refine W_reg (sV rfl (py_move rfl) (sV rfl (py_move rfl) (sV rfl (py_move rfl) (sV rfl (py_move rfl) (sV rfl (py_elz Tryz.underlying25 Tryz.sizeOf2 rfl rfl ee1 k (by omega) (by omega)) (sV rfl (py_load Tryz.underlying2 rfl rfl ec1) (sV rfl (py_elz Tryz.underlying25 Tryz.sizeOf2 rfl rfl ee2 k (by omega) (by omega)) (s_elst (wn rfl) Tryz.sizeOf2 rfl H2 0 rfl k (by rw [cp_len (xs := xs) (k := k) (by omega)]; omega) rfl ee2 rfl (own_bi (by first | assumption | (unfold I64ok; omega))) (fun w3 fp1 e2 H3 => ?_)))))))))
  refine s_nil (W_reg (sV rfl (py_move rfl) (sV rfl (py_add rfl rfl (in64 ⟨by omega, by omega⟩)) (sV rfl (py_assign rfl) (s_nil (⟨(k + 1, _), ⟨rfl, rfl, rfl, trivial⟩, ⟨cp_set (xs := xs) (k := k) (d := 0) (by omega) ▸ H3, by omega⟩, by dsimp only; omega⟩))))))
 ·refine W_exit (W_sr (sV rfl (py_move rfl) (sV rfl (py_assign rfl) (s_nil (W_ret (hQ _ _ (fin1 Tryz.results73 rfl ?_)))))))
  obtain rfl : k = xs.length := by omega
  exact ⟨H2.ext, by
   have h := H2.out 0 rfl
   rwa [cp_all] at h⟩
theorem Tryz_laws_toByteS {w : World} {xs : List UInt8} {xsA : Option Addr} {xsC : Nat} (xsS : Sees w [.slice xsA xs.length xsC] xs) (hl : xs.length ≤ 1048576) : Ret Tryz.prog 53 #[.slice xsA xs.length xsC] w fun v w' => Ext No w w' ∧ (Res w w' [v] xs) := by
 have xsL := sees_len xsS
 unfold maxLen at xsL
 obtain ⟨xsF, xsO⟩ := xsS
 refine ret_Q (vs := [.slice xsA xs.length xsC]) Tryz.func53 rfl Tryz.ntmps53 rfl (fun Q hQ hN => ?_)
 have H0 := Sep.start (w := w) (F := [seen false [.slice xsA xs.length xsC] xs xsF]) (all_cons xsO (by simp))
 refine W_sr (sV rfl (py_assign rfl) (s_nil (W_sr (sV rfl (py_move rfl) (sV rfl (py_len Tryz.underlying61 rfl) (s_make (wn rfl) rfl Tryz.underlying61 Tryz_ty5 own_z8 rfl (by omega) (by unfold maxLen; omega) H0 (fun b1 w1 e1 g1 H1 => ?_)))))))
 refine sV rfl (py_assign rfl) (s_nil (W_seq (W_sr (sV rfl (py_assign rfl) (s_nil (W_block (W_loop (γ := Nat × List Nat) (fun (k, fp) => [(0, .slice xsA xs.length xsC), (3, .slice (some ⟨b1, 0, none⟩) xs.length xs.length), (4, .int .i64 k)]) (fun (k, fp) w' => Sep No w [mine [.slice (some ⟨b1, 0, none⟩) xs.length xs.length] (cp xs k 0) fp] [seen false [.slice xsA xs.length xsC] xs xsF] w' ∧ k ≤ xs.length) (fun (k, fp) => xs.length - k) (0, [b1]) ⟨rfl, rfl, rfl, trivial⟩ ⟨cp_zero ▸ H1, by omega⟩ (fun (k, fp) w2 H2 => ?_))))))))
 obtain ⟨H2, hk⟩ := H2
 refine W_seq (W_sr (sV rfl (py_move rfl) (sV rfl (py_move rfl) (sV rfl (py_len Tryz.underlying61 rfl) (sV rfl (py_lss rfl rfl) (s_nil (W_ifd rfl (fun c1 => ?_) (fun c1 => ?_))))))))
 ·refine W_skip (W_seq (W_block ?_))
  obtain ⟨eb1, eo1, ee1, ec1⟩ := elem_u8 (H2.seen 0 rfl) k (by omega)
  obtain ⟨eb2, eo2, ee2, ec2⟩ := elem_u8 (H2.mine 0 rfl) k (by rw [cp_len (xs := xs) (k := k) (by omega)]; omega)
  refine W_reg (sV rfl (py_move rfl) (sV rfl (py_move rfl) (sV rfl (py_move rfl) (sV rfl (py_move rfl) (sV rfl (py_elz Tryz.underlying61 Tryz.sizeOf5 rfl rfl ee1 k (by omega) (by omega)) (sV rfl (py_load Tryz.underlying5 rfl rfl ec1) (sV rfl (py_elz Tryz.underlying61 Tryz.sizeOf5 rfl rfl ee2 k (by omega) (by omega)) (s_elst (wn rfl) Tryz.sizeOf5 rfl H2 0 rfl k (by rw [cp_len (xs := xs) (k := k) (by omega)]; omega) rfl ee2 rfl own_b8 (fun w3 fp1 e2 H3 => ?_)))))))))
  refine s_nil (W_reg (sV rfl (py_move rfl) (sV rfl (py_add rfl rfl (in64 ⟨by omega, by omega⟩)) (sV rfl (py_assign rfl) (s_nil (⟨(k + 1, _), ⟨rfl, rfl, rfl, trivial⟩, ⟨cp_set (xs := xs) (k := k) (d := 0) (by omega) ▸ H3, by omega⟩, by dsimp only; omega⟩))))))
 ·refine W_exit (W_sr (sV rfl (py_move rfl) (sV rfl (py_assign rfl) (s_nil (W_ret (hQ _ _ (fin1 Tryz.results53 rfl ?_)))))))
  obtain rfl : k = xs.length := by omega
  exact ⟨H2.ext, by
   have h := H2.out 0 rfl
   rwa [cp_all] at h⟩
theorem Tryz_spec_l1Has {w : World} {xs : List Int} {xsA : Option Addr} {xsC : Nat} {x : Int} (xsS : Sees w [.slice xsA xs.length xsC] xs) : Ret Tryz.prog 139 #[.slice xsA xs.length xsC, .int .i64 x] w fun v w' => Ext No w w' ∧ (v = .bool (decide (x ∈ xs))) := by
 have xsL := sees_len xsS
 unfold maxLen at xsL
 obtain ⟨xsF, xsO⟩ := xsS
 refine ret_Q (vs := [.slice xsA xs.length xsC, .int .i64 x]) Tryz.func139 rfl Tryz.ntmps139 rfl (fun Q hQ hN => ?_)
 have H0 := Sep.start (w := w) (F := [seen false [.slice xsA xs.length xsC] xs xsF]) (all_cons xsO (by simp))
 refine W_sr (sV rfl (py_assign rfl) (s_nil (W_seq (W_sr (sV rfl (py_assign rfl) (s_nil (W_block (W_loop (γ := Nat) (fun k => [(0, .slice xsA xs.length xsC), (1, .int .i64 x), (5, .int .i64 k)]) (fun k w' => Sep No w [] [seen false [.slice xsA xs.length xsC] xs xsF] w' ∧ k ≤ xs.length ∧ (∀ i, i < k → xs.getD i 0 ≠ x)) (fun k => xs.length - k) 0 ⟨rfl, rfl, rfl, trivial⟩ ⟨H0, by omega, fun i hi => by omega⟩ (fun k w1 H1 => ?_)))))))))
 obtain ⟨H1, hk, he⟩ := H1
 refine W_seq (W_sr (sV rfl (py_move rfl) (sV rfl (py_move rfl) (sV rfl (py_len Tryz.underlying25 rfl) (sV rfl (py_lss rfl rfl) (s_nil (W_ifd rfl (fun c1 => ?_) (fun c1 => ?_))))))))
 ·refine W_skip (W_seq (W_block (W_seq ?_)))
  obtain ⟨eb1, eo1, ee1, ec1⟩ := elem_int (H1.seen 0 rfl) k (by omega)
  have eI1 := elem_i64 (H1.seen 0 rfl) k (by omega)
  refine W_reg (sV rfl (py_move rfl) (sV rfl (py_move rfl) (sV rfl (py_elz Tryz.underlying25 Tryz.sizeOf2 rfl rfl ee1 k (by omega) (by omega)) (sV rfl (py_load Tryz.underlying2 rfl rfl ec1) (sV rfl (py_move rfl) (sV rfl (py_eql rfl rfl) (s_nil (W_ifd rfl (fun c2 => ?_) (fun c2 => ?_)))))))))
  ·refine W_sr (sV rfl (py_assign rfl) (s_nil (W_ret (hQ _ _ (fin1 Tryz.results139 rfl ?_)))))
   exact ⟨H1.ext, by rw [decide_eq_true (mem_getD (d := 0) (k := k) (by omega) c2)]⟩
  ·refine W_skip (W_reg (sV rfl (py_move rfl) (sV rfl (py_add rfl rfl (in64 ⟨by omega, by omega⟩)) (sV rfl (py_assign rfl) (s_nil (⟨k + 1, ⟨rfl, rfl, rfl, trivial⟩, ⟨H1, by omega, fun i hi => ?_⟩, by dsimp only; omega⟩))))))
   by_cases e : i = k
   ·subst e; omega
   ·exact he i (by omega)
 ·refine W_exit (W_sr (sV rfl (py_assign rfl) (s_nil (W_ret (hQ _ _ (fin1 Tryz.results139 rfl ?_))))))
  exact ⟨H1.ext, by rw [decide_eq_false (not_mem_getD (d := 0) fun i hi => he i (by omega))]⟩
theorem Tryz_slices_Index_int64_int64 {w : World} {xs : List Int} {xsA : Option Addr} {xsC : Nat} {x : Int} (xsS : Sees w [.slice xsA xs.length xsC] xs) : Ret Tryz.prog 271 #[.slice xsA xs.length xsC, .int .i64 x] w fun v w' => Ext No w w' ∧ (v = .int .i64 (idxOf xs x)) := by
 have xsL := sees_len xsS
 unfold maxLen at xsL
 obtain ⟨xsF, xsO⟩ := xsS
 refine ret_Q (vs := [.slice xsA xs.length xsC, .int .i64 x]) Tryz.func271 rfl Tryz.ntmps271 rfl (fun Q hQ hN => ?_)
 have H0 := Sep.start (w := w) (F := [seen false [.slice xsA xs.length xsC] xs xsF]) (all_cons xsO (by simp))
 refine W_sr (sV rfl (py_assign rfl) (s_nil (W_seq (W_sr (sV rfl (py_move rfl) (sV rfl (py_len Tryz.underlying25 rfl) (sV rfl (py_move rfl) (s_nil (W_block (W_loop (γ := Nat) (fun k => [(0, .slice xsA xs.length xsC), (1, .int .i64 x), (7, .int .i64 xs.length), (8, .int .i64 k)]) (fun k w' => Sep No w [] [seen false [.slice xsA xs.length xsC] xs xsF] w' ∧ k ≤ xs.length ∧ (∀ i, i < k → xs.getD i 0 ≠ x)) (fun k => xs.length - k) 0 ⟨rfl, rfl, rfl, rfl, trivial⟩ ⟨H0, by omega, fun i hi => by omega⟩ (fun k w1 H1 => ?_)))))))))))
 obtain ⟨H1, hk, he⟩ := H1
 refine W_sr (sV rfl (py_lss rfl rfl) (s_nil (W_seq (W_ifd rfl (fun c1 => ?_) (fun c1 => ?_)))))
 ·refine W_skip (W_seq (W_block (W_sr (sV rfl (py_move rfl) (sV rfl (py_assign rfl) (s_nil (W_seq ?_)))))))
  obtain ⟨eb1, eo1, ee1, ec1⟩ := elem_int (H1.seen 0 rfl) k (by omega)
  have eI1 := elem_i64 (H1.seen 0 rfl) k (by omega)
  refine W_reg (sV rfl (py_move rfl) (sV rfl (py_move rfl) (sV rfl (py_move rfl) (sV rfl (py_elz Tryz.underlying25 Tryz.sizeOf2 rfl rfl ee1 k (by omega) (by omega)) (sV rfl (py_load Tryz.underlying2 rfl rfl ec1) (sV rfl (py_eql rfl rfl) (s_nil (W_ifd rfl (fun c2 => ?_) (fun c2 => ?_)))))))))
  ·refine W_sr (sV rfl (py_move rfl) (sV rfl (py_assign rfl) (s_nil (W_ret (hQ _ _ (fin1 Tryz.results271 rfl ?_))))))
   exact ⟨H1.ext, congrArg (Value.int .i64) (idxOf_eq (by omega) c2.symm he).symm⟩
  ·refine W_skip (W_reg (sV rfl (py_add rfl rfl (in64 ⟨by omega, by omega⟩)) (sV rfl (py_move rfl) (s_nil (⟨k + 1, ⟨rfl, rfl, rfl, rfl, trivial⟩, ⟨H1, by omega, fun i hi => ?_⟩, by dsimp only; omega⟩)))))
   by_cases e : i = k
   ·subst e; omega
   ·exact he i (by omega)
 ·refine W_exit (W_sr (sV rfl (py_assign rfl) (s_nil (W_ret (hQ _ _ (fin1 Tryz.results271 rfl ?_))))))
  exact ⟨H1.ext, congrArg (Value.int .i64) (idxOf_no fun i hi => he i (by omega)).symm⟩
theorem Tryz_slices_Contains_int64_int64 {w : World} {xs : List Int} {xsA : Option Addr} {xsC : Nat} {x : Int} (xsS : Sees w [.slice xsA xs.length xsC] xs) : Ret Tryz.prog 220 #[.slice xsA xs.length xsC, .int .i64 x] w fun v w' => Ext No w w' ∧ (v = .bool (decide (x ∈ xs))) := by
 have xsL := sees_len xsS
 unfold maxLen at xsL
 obtain ⟨xsF, xsO⟩ := xsS
 refine ret_Q (vs := [.slice xsA xs.length xsC, .int .i64 x]) Tryz.func220 rfl Tryz.ntmps220 rfl (fun Q hQ hN => ?_)
 have H0 := Sep.start (w := w) (F := [seen false [.slice xsA xs.length xsC] xs xsF]) (all_cons xsO (by simp))
 refine W_sr (sV rfl (py_assign rfl) (s_nil (W_sr (sV rfl (py_move rfl) (sV rfl (py_move rfl) (s_call (wn rfl) rfl rfl (pc_call Tryz.func271 rfl Tryz_nm271 rfl) (Tryz_slices_Index_int64_int64 (H0.sees 0 rfl)) (fun v1 w1 r1 => ?_)))))))
 obtain ⟨e1, rfl⟩ := r1
 have H1 := H0.to e1
 refine sV rfl (py_geq rfl rfl) (sV rfl (py_assign rfl) (s_nil (W_ret (hQ _ _ (fin1 Tryz.results220 rfl ?_)))))
 exact ⟨H1.ext, by rw [idxOf_has]⟩
end Go.Wk
namespace Go.Wk
open Go.Proofs Rp
set_option maxRecDepth 10000
theorem Tryz_spec_l1In {w : World} {v0 lo hi : Int}  : Ret Tryz.prog 149 #[.int .i64 v0, .int .i64 lo, .int .i64 hi] w fun v w' => Ext No w w' ∧ (v = .bool (ins v0 lo hi)) := by
 refine ret_Q (vs := [.int .i64 v0, .int .i64 lo, .int .i64 hi]) Tryz.func149 rfl Tryz.ntmps149 rfl (fun Q hQ hN => ?_)
 have H0 := Sep.start (w := w) (F := []) (by simp)
 refine W_sr (sV rfl (py_assign rfl) (s_nil (W_sr (sV rfl (py_move rfl) (sV rfl (py_move rfl) (sV rfl (py_geq rfl rfl) (sV rfl (py_move rfl) (s_grp 3 (j := 3) (want := true) (t := 13) rfl rfl rfl rfl (fun hg1 kk1 => s_val (wgE rfl rfl rfl hg1) rfl rfl (py_move rfl) (s_val (wgE rfl rfl rfl hg1) rfl rfl (py_move rfl) (s_val (wgE rfl rfl rfl hg1) rfl rfl (py_leq rfl rfl) (kk1 _ _ (kx rfl (kx rfl (kx rfl k0))) rfl Ext.refl)))) (fun w1 e1 => ?_)))))))))
 have H1 := H0.to e1
 refine sV rfl (py_band rfl rfl) (sV rfl (py_assign rfl) (s_nil (W_ret (hQ _ _ (fin1 Tryz.results149 rfl ?_)))))
 exact ⟨H1.ext, rfl⟩
theorem Tryz_impl_inside {w : World} {v0 lo hi : Int}  : Ret Tryz.prog 154 #[.int .i64 v0, .int .i64 lo, .int .i64 hi] w fun v w' => Ext No w w' ∧ (v = .bool (ins v0 lo hi)) := by
 refine ret_Q (vs := [.int .i64 v0, .int .i64 lo, .int .i64 hi]) Tryz.func154 rfl Tryz.ntmps154 rfl (fun Q hQ hN => ?_)
 have H0 := Sep.start (w := w) (F := []) (by simp)
 refine W_sr (sV rfl (py_assign rfl) (s_nil (W_sr (sV rfl (py_move rfl) (sV rfl (py_move rfl) (sV rfl (py_geq rfl rfl) (sV rfl (py_move rfl) (s_grp 3 (j := 3) (want := true) (t := 13) rfl rfl rfl rfl (fun hg1 kk1 => s_val (wgE rfl rfl rfl hg1) rfl rfl (py_move rfl) (s_val (wgE rfl rfl rfl hg1) rfl rfl (py_move rfl) (s_val (wgE rfl rfl rfl hg1) rfl rfl (py_leq rfl rfl) (kk1 _ _ (kx rfl (kx rfl (kx rfl k0))) rfl Ext.refl)))) (fun w1 e1 => ?_)))))))))
 have H1 := H0.to e1
 refine sV rfl (py_band rfl rfl) (sV rfl (py_assign rfl) (s_nil (W_ret (hQ _ _ (fin1 Tryz.results154 rfl ?_)))))
 exact ⟨H1.ext, rfl⟩
theorem Tryz_spec_l3Shape {w : World} {x y : Int}  : Ret Tryz.prog 211 #[.int .i64 x, .int .i64 y] w fun v w' => Ext No w w' ∧ (v = .bool (cOK x y)) := by
 refine ret_Q (vs := [.int .i64 x, .int .i64 y]) Tryz.func211 rfl Tryz.ntmps211 rfl (fun Q hQ hN => ?_)
 have H0 := Sep.start (w := w) (F := []) (by simp)
 refine W_sr (sV rfl (py_assign rfl) (s_nil (W_sr (sV rfl (py_move rfl) (s_call (wn rfl) rfl rfl (pc_call Tryz.func149 rfl Tryz_nm149 rfl) Tryz_spec_l1In (fun v1 w1 r1 => ?_))))))
 obtain ⟨e1, rfl⟩ := r1
 have H1 := H0.to e1
 refine sV rfl (py_move rfl) (s_grp 2 (j := 2) (want := true) (t := 9) rfl rfl rfl rfl (fun hg1 kk1 => s_val (wgE rfl rfl rfl hg1) rfl rfl (py_move rfl) (s_callv (wgE rfl rfl rfl hg1) rfl rfl (pc_call Tryz.func149 rfl Tryz_nm149 rfl) Tryz_spec_l1In (fun w3 e3 => kk1 _ _ (kx rfl (kx rfl k0)) rfl (Ext.refl.trans e3)))) (fun w2 e2 => ?_))
 have H2 := H1.to e2
 refine sV rfl (py_band rfl rfl) (sV rfl (py_assign rfl) (s_nil (W_ret (hQ _ _ (fin1 Tryz.results211 rfl ?_)))))
 exact ⟨H2.ext, rfl⟩
theorem Tryz_spec_l2Shape {w : World} {x y : Int}  : Ret Tryz.prog 212 #[.int .i64 x, .int .i64 y] w fun v w' => Ext No w w' ∧ (v = .bool (rOK x y)) := by
 refine ret_Q (vs := [.int .i64 x, .int .i64 y]) Tryz.func212 rfl Tryz.ntmps212 rfl (fun Q hQ hN => ?_)
 have H0 := Sep.start (w := w) (F := []) (by simp)
 refine W_sr (sV rfl (py_assign rfl) (s_nil (W_sr (sV rfl (py_move rfl) (s_call (wn rfl) rfl rfl (pc_call Tryz.func149 rfl Tryz_nm149 rfl) Tryz_spec_l1In (fun v1 w1 r1 => ?_))))))
 obtain ⟨e1, rfl⟩ := r1
 have H1 := H0.to e1
 refine sV rfl (py_move rfl) (s_grp 2 (j := 2) (want := true) (t := 9) rfl rfl rfl rfl (fun hg1 kk1 => s_val (wgE rfl rfl rfl hg1) rfl rfl (py_move rfl) (s_callv (wgE rfl rfl rfl hg1) rfl rfl (pc_call Tryz.func149 rfl Tryz_nm149 rfl) Tryz_spec_l1In (fun w3 e3 => kk1 _ _ (kx rfl (kx rfl k0)) rfl (Ext.refl.trans e3)))) (fun w2 e2 => ?_))
 have H2 := H1.to e2
 refine sV rfl (py_band rfl rfl) (sV rfl (py_assign rfl) (s_nil (W_ret (hQ _ _ (fin1 Tryz.results212 rfl ?_)))))
 exact ⟨H2.ext, rfl⟩
theorem Tryz_spec_ShapeFault {w : World} {s : Shape}  : Ret Tryz.prog 146 #[s.v] w fun v w' => Ext No w w' ∧ (v = .int .i64 s.fault) := by
 refine ret_Q (vs := [s.v]) Tryz.func146 rfl Tryz.ntmps146 rfl (fun Q hQ hN => ?_)
 have H0 := Sep.start (w := w) (F := []) (by simp)
 refine W_sr (s_box (wn rfl) rfl rfl H0 (fun b1 w1 e1 g1 H1 => ?_))
 refine sV rfl (py_assign rfl) (s_nil (W_seq (W_sr (sV rfl (py_field Tryz.underlying33 rfl Tryz.sizeOf2 rfl rfl) (sV rfl (py_load Tryz.underlying2 rfl rfl (cell_atL (H1.box 0 rfl) rfl)) (sV rfl (py_field Tryz.underlying33 rfl Tryz.sizeOf2 rfl rfl) (sV rfl (py_load Tryz.underlying2 rfl rfl (cell_atL (H1.box 0 rfl) rfl)) (s_call (wn rfl) rfl rfl (pc_call Tryz.func211 rfl Tryz_nm211 rfl) Tryz_spec_l3Shape (fun v1 w2 r1 => ?_)))))))))
 obtain ⟨e2, rfl⟩ := r1
 have H2 := H1.to e2
 refine sV rfl (py_not rfl) (sV rfl (py_move rfl) (s_grp 6 (j := 6) (want := false) (t := 15) rfl rfl rfl rfl (fun hg1 kk1 => s_val (wgE rfl rfl rfl hg1) rfl rfl (py_field Tryz.underlying33 rfl Tryz.sizeOf2 rfl rfl) (s_val (wgE rfl rfl rfl hg1) rfl rfl (py_load Tryz.underlying2 rfl rfl (cell_atL (H2.box 0 rfl) rfl)) (s_val (wgE rfl rfl rfl hg1) rfl rfl (py_field Tryz.underlying33 rfl Tryz.sizeOf2 rfl rfl) (s_val (wgE rfl rfl rfl hg1) rfl rfl (py_load Tryz.underlying2 rfl rfl (cell_atL (H2.box 0 rfl) rfl)) (s_callv (wgE rfl rfl rfl hg1) rfl rfl (pc_call Tryz.func212 rfl Tryz_nm212 rfl) Tryz_spec_l2Shape (fun w4 e4 => s_val (wgE rfl rfl rfl hg1) rfl rfl (py_not rfl) (kk1 _ _ (kx rfl (kx rfl (kx rfl (kx rfl (kx rfl (kx rfl k0)))))) rfl (Ext.refl.trans e4)))))))) (fun w3 e3 => ?_)))
 have H3 := H2.to e3
 refine sV rfl (py_bor rfl rfl) (sV rfl (py_move rfl) (s_grp 4 (j := 14) (want := false) (t := 21) rfl rfl rfl rfl (fun hg2 kk2 => s_val (wgE rfl rfl rfl hg2) rfl rfl (py_field Tryz.underlying33 rfl Tryz.sizeOf2 rfl rfl) (s_val (wgE rfl rfl rfl hg2) rfl rfl (py_load Tryz.underlying2 rfl rfl (cell_atL (H3.box 0 rfl) rfl)) (s_callv (wgE rfl rfl rfl hg2) rfl rfl (pc_call Tryz.func149 rfl Tryz_nm149 rfl) Tryz_spec_l1In (fun w6 e6 => s_val (wgE rfl rfl rfl hg2) rfl rfl (py_not rfl) (kk2 _ _ (kx rfl (kx rfl (kx rfl (kx rfl k0)))) rfl (Ext.refl.trans e6)))))) (fun w5 e5 => ?_)))
 have H4 := H3.to e5
 refine sV rfl (py_bor rfl rfl) (sV rfl (py_move rfl) (s_grp 4 (j := 20) (want := false) (t := 27) rfl rfl rfl rfl (fun hg3 kk3 => s_val (wgE rfl rfl rfl hg3) rfl rfl (py_field Tryz.underlying33 rfl Tryz.sizeOf2 rfl rfl) (s_val (wgE rfl rfl rfl hg3) rfl rfl (py_load Tryz.underlying2 rfl rfl (cell_atL (H4.box 0 rfl) rfl)) (s_callv (wgE rfl rfl rfl hg3) rfl rfl (pc_call Tryz.func149 rfl Tryz_nm149 rfl) Tryz_spec_l1In (fun w8 e8 => s_val (wgE rfl rfl rfl hg3) rfl rfl (py_not rfl) (kk3 _ _ (kx rfl (kx rfl (kx rfl (kx rfl k0)))) rfl (Ext.refl.trans e8)))))) (fun w7 e7 => ?_)))
 have H5 := H4.to e7
 refine sV rfl (py_bor rfl rfl) (sV rfl (py_move rfl) (s_grp 4 (j := 26) (want := false) (t := 33) rfl rfl rfl rfl (fun hg4 kk4 => s_val (wgE rfl rfl rfl hg4) rfl rfl (py_field Tryz.underlying33 rfl Tryz.sizeOf2 rfl rfl) (s_val (wgE rfl rfl rfl hg4) rfl rfl (py_load Tryz.underlying2 rfl rfl (cell_atL (H5.box 0 rfl) rfl)) (s_callv (wgE rfl rfl rfl hg4) rfl rfl (pc_call Tryz.func149 rfl Tryz_nm149 rfl) Tryz_spec_l1In (fun w10 e10 => s_val (wgE rfl rfl rfl hg4) rfl rfl (py_not rfl) (kk4 _ _ (kx rfl (kx rfl (kx rfl (kx rfl k0)))) rfl (Ext.refl.trans e10)))))) (fun w9 e9 => ?_)))
 have H6 := H5.to e9
 refine sV rfl (py_bor rfl rfl) (sV rfl (py_move rfl) (s_grp 4 (j := 32) (want := false) (t := 39) rfl rfl rfl rfl (fun hg5 kk5 => s_val (wgE rfl rfl rfl hg5) rfl rfl (py_field Tryz.underlying33 rfl Tryz.sizeOf2 rfl rfl) (s_val (wgE rfl rfl rfl hg5) rfl rfl (py_load Tryz.underlying2 rfl rfl (cell_atL (H6.box 0 rfl) rfl)) (s_callv (wgE rfl rfl rfl hg5) rfl rfl (pc_call Tryz.func149 rfl Tryz_nm149 rfl) Tryz_spec_l1In (fun w12 e12 => s_val (wgE rfl rfl rfl hg5) rfl rfl (py_not rfl) (kk5 _ _ (kx rfl (kx rfl (kx rfl (kx rfl k0)))) rfl (Ext.refl.trans e12)))))) (fun w11 e11 => ?_)))
 have H7 := H6.to e11
 refine sV rfl (py_bor rfl rfl) (sV rfl (py_move rfl) (s_grp 4 (j := 38) (want := false) (t := 45) rfl rfl rfl rfl (fun hg6 kk6 => s_val (wgE rfl rfl rfl hg6) rfl rfl (py_field Tryz.underlying33 rfl Tryz.sizeOf2 rfl rfl) (s_val (wgE rfl rfl rfl hg6) rfl rfl (py_load Tryz.underlying2 rfl rfl (cell_atL (H7.box 0 rfl) rfl)) (s_callv (wgE rfl rfl rfl hg6) rfl rfl (pc_call Tryz.func149 rfl Tryz_nm149 rfl) Tryz_spec_l1In (fun w14 e14 => s_val (wgE rfl rfl rfl hg6) rfl rfl (py_not rfl) (kk6 _ _ (kx rfl (kx rfl (kx rfl (kx rfl k0)))) rfl (Ext.refl.trans e14)))))) (fun w13 e13 => ?_)))
 have H8 := H7.to e13
 refine sV rfl (py_bor rfl rfl) (s_nil (W_if rfl (fun c1 => ?_) (fun c1 => ?_)))
 ·refine W_sr (sV rfl (py_assign rfl) (s_nil (W_ret (hQ _ _ (fin1 Tryz.results146 rfl ?_)))))
  exact ⟨H8.ext, Shape.no (by simpa only [Shape.ok, Bool.not_and] using c1)⟩
 ·refine W_skip (W_sr (sV rfl (py_assign rfl) (s_nil (W_ret (hQ _ _ (fin1 Tryz.results146 rfl ?_))))))
  exact ⟨H8.ext, Shape.yes (by simpa only [Shape.ok, Bool.not_and] using c1)⟩
theorem Tryz_impl_ShapeFault {w : World} {s : Shape}  : Ret Tryz.prog 150 #[s.v] w fun v w' => Ext No w w' ∧ (v = .int .i64 s.fault) := by
 refine ret_Q (vs := [s.v]) Tryz.func150 rfl Tryz.ntmps150 rfl (fun Q hQ hN => ?_)
 have H0 := Sep.start (w := w) (F := []) (by simp)
 refine W_sr (s_box (wn rfl) rfl rfl H0 (fun b1 w1 e1 g1 H1 => ?_))
 refine sV rfl (py_assign rfl) (s_nil (W_sr (sV rfl (py_field Tryz.underlying33 rfl Tryz.sizeOf2 rfl rfl) (sV rfl (py_load Tryz.underlying2 rfl rfl (cell_atL (H1.box 0 rfl) rfl)) (s_call (wn rfl) rfl rfl (pc_call Tryz.func154 rfl Tryz_nm154 rfl) Tryz_impl_inside (fun v1 w2 r1 => ?_))))))
 obtain ⟨e2, rfl⟩ := r1
 have H2 := H1.to e2
 refine sV rfl (py_move rfl) (s_grp 3 (j := 3) (want := true) (t := 10) rfl rfl rfl rfl (fun hg1 kk1 => s_val (wgE rfl rfl rfl hg1) rfl rfl (py_field Tryz.underlying33 rfl Tryz.sizeOf2 rfl rfl) (s_val (wgE rfl rfl rfl hg1) rfl rfl (py_load Tryz.underlying2 rfl rfl (cell_atL (H2.box 0 rfl) rfl)) (s_callv (wgE rfl rfl rfl hg1) rfl rfl (pc_call Tryz.func154 rfl Tryz_nm154 rfl) Tryz_impl_inside (fun w4 e4 => kk1 _ _ (kx rfl (kx rfl (kx rfl k0))) rfl (Ext.refl.trans e4))))) (fun w3 e3 => ?_))
 have H3 := H2.to e3
 refine sV rfl (py_band rfl rfl) (sV rfl (py_move rfl) (s_grp 3 (j := 8) (want := true) (t := 15) rfl rfl rfl rfl (fun hg2 kk2 => s_val (wgE rfl rfl rfl hg2) rfl rfl (py_field Tryz.underlying33 rfl Tryz.sizeOf2 rfl rfl) (s_val (wgE rfl rfl rfl hg2) rfl rfl (py_load Tryz.underlying2 rfl rfl (cell_atL (H3.box 0 rfl) rfl)) (s_callv (wgE rfl rfl rfl hg2) rfl rfl (pc_call Tryz.func154 rfl Tryz_nm154 rfl) Tryz_impl_inside (fun w6 e6 => kk2 _ _ (kx rfl (kx rfl (kx rfl k0))) rfl (Ext.refl.trans e6))))) (fun w5 e5 => ?_)))
 have H4 := H3.to e5
 refine sV rfl (py_band rfl rfl) (sV rfl (py_move rfl) (s_grp 3 (j := 13) (want := true) (t := 20) rfl rfl rfl rfl (fun hg3 kk3 => s_val (wgE rfl rfl rfl hg3) rfl rfl (py_field Tryz.underlying33 rfl Tryz.sizeOf2 rfl rfl) (s_val (wgE rfl rfl rfl hg3) rfl rfl (py_load Tryz.underlying2 rfl rfl (cell_atL (H4.box 0 rfl) rfl)) (s_callv (wgE rfl rfl rfl hg3) rfl rfl (pc_call Tryz.func154 rfl Tryz_nm154 rfl) Tryz_impl_inside (fun w8 e8 => kk3 _ _ (kx rfl (kx rfl (kx rfl k0))) rfl (Ext.refl.trans e8))))) (fun w7 e7 => ?_)))
 have H5 := H4.to e7
 refine sV rfl (py_band rfl rfl) (sV rfl (py_assign rfl) (s_nil (W_sr (sV rfl (py_move rfl) (sV rfl (py_move rfl) (s_grp 3 (j := 1) (want := true) (t := 26) rfl rfl rfl rfl (fun hg4 kk4 => s_val (wgE rfl rfl rfl hg4) rfl rfl (py_field Tryz.underlying33 rfl Tryz.sizeOf2 rfl rfl) (s_val (wgE rfl rfl rfl hg4) rfl rfl (py_load Tryz.underlying2 rfl rfl (cell_atL (H5.box 0 rfl) rfl)) (s_callv (wgE rfl rfl rfl hg4) rfl rfl (pc_call Tryz.func154 rfl Tryz_nm154 rfl) Tryz_impl_inside (fun w10 e10 => kk4 _ _ (kx rfl (kx rfl (kx rfl k0))) rfl (Ext.refl.trans e10))))) (fun w9 e9 => ?_)))))))
 have H6 := H5.to e9
 refine sV rfl (py_band rfl rfl) (sV rfl (py_move rfl) (s_grp 3 (j := 6) (want := true) (t := 31) rfl rfl rfl rfl (fun hg5 kk5 => s_val (wgE rfl rfl rfl hg5) rfl rfl (py_field Tryz.underlying33 rfl Tryz.sizeOf2 rfl rfl) (s_val (wgE rfl rfl rfl hg5) rfl rfl (py_load Tryz.underlying2 rfl rfl (cell_atL (H6.box 0 rfl) rfl)) (s_callv (wgE rfl rfl rfl hg5) rfl rfl (pc_call Tryz.func154 rfl Tryz_nm154 rfl) Tryz_impl_inside (fun w12 e12 => kk5 _ _ (kx rfl (kx rfl (kx rfl k0))) rfl (Ext.refl.trans e12))))) (fun w11 e11 => ?_)))
 have H7 := H6.to e11
 refine sV rfl (py_band rfl rfl) (sV rfl (py_move rfl) (s_grp 3 (j := 11) (want := true) (t := 36) rfl rfl rfl rfl (fun hg6 kk6 => s_val (wgE rfl rfl rfl hg6) rfl rfl (py_field Tryz.underlying33 rfl Tryz.sizeOf2 rfl rfl) (s_val (wgE rfl rfl rfl hg6) rfl rfl (py_load Tryz.underlying2 rfl rfl (cell_atL (H7.box 0 rfl) rfl)) (s_callv (wgE rfl rfl rfl hg6) rfl rfl (pc_call Tryz.func154 rfl Tryz_nm154 rfl) Tryz_impl_inside (fun w14 e14 => kk6 _ _ (kx rfl (kx rfl (kx rfl k0))) rfl (Ext.refl.trans e14))))) (fun w13 e13 => ?_)))
 have H8 := H7.to e13
 refine sV rfl (py_band rfl rfl) (sV rfl (py_move rfl) (s_grp 3 (j := 16) (want := true) (t := 41) rfl rfl rfl rfl (fun hg7 kk7 => s_val (wgE rfl rfl rfl hg7) rfl rfl (py_field Tryz.underlying33 rfl Tryz.sizeOf2 rfl rfl) (s_val (wgE rfl rfl rfl hg7) rfl rfl (py_load Tryz.underlying2 rfl rfl (cell_atL (H8.box 0 rfl) rfl)) (s_callv (wgE rfl rfl rfl hg7) rfl rfl (pc_call Tryz.func154 rfl Tryz_nm154 rfl) Tryz_impl_inside (fun w16 e16 => kk7 _ _ (kx rfl (kx rfl (kx rfl k0))) rfl (Ext.refl.trans e16))))) (fun w15 e15 => ?_)))
 have H9 := H8.to e15
 refine sV rfl (py_band rfl rfl) (sV rfl (py_assign rfl) (s_nil (W_seq (W_sr (sV rfl (py_move rfl) (sV rfl (py_not rfl) (sV rfl (py_move rfl) (s_grp 4 (j := 2) (want := false) (t := 49) rfl rfl rfl rfl (fun hg8 kk8 => s_val (wgE rfl rfl rfl hg8) rfl rfl (py_field Tryz.underlying33 rfl Tryz.sizeOf2 rfl rfl) (s_val (wgE rfl rfl rfl hg8) rfl rfl (py_load Tryz.underlying2 rfl rfl (cell_atL (H9.box 0 rfl) rfl)) (s_callv (wgE rfl rfl rfl hg8) rfl rfl (pc_call Tryz.func154 rfl Tryz_nm154 rfl) Tryz_impl_inside (fun w18 e18 => s_val (wgE rfl rfl rfl hg8) rfl rfl (py_not rfl) (kk8 _ _ (kx rfl (kx rfl (kx rfl (kx rfl k0)))) rfl (Ext.refl.trans e18)))))) (fun w17 e17 => ?_)))))))))
 have H10 := H9.to e17
 refine sV rfl (py_bor rfl rfl) (s_nil (W_if rfl (fun c1 => ?_) (fun c1 => ?_)))
 ·refine W_sr (sV rfl (py_assign rfl) (s_nil (W_ret (hQ _ _ (fin1 Tryz.results150 rfl ?_)))))
  exact ⟨H10.ext, Shape.no (by simpa only [Shape.ok, cOK, rOK, Bool.not_and, Bool.or_assoc] using c1)⟩
 ·refine W_skip (W_sr (sV rfl (py_assign rfl) (s_nil (W_ret (hQ _ _ (fin1 Tryz.results150 rfl ?_))))))
  exact ⟨H10.ext, Shape.yes (by simpa only [Shape.ok, cOK, rOK, Bool.not_and, Bool.or_assoc] using c1)⟩
end Go.Wk
namespace Go.Wk
open Rp (sz own)
def encK (xs : List UInt8) (n : Nat) (k : Int) : List UInt8 := mixTo (chunks xs 4 n) (genG n k 0) 4 (chunks xs 4 n).length
def encG (n m : Nat) (xs : List UInt8) : List (List UInt8) := (List.range m).map fun k : Nat => encK xs n (k : Int)
def encS (n s : Nat) (xs : List UInt8) : List (List UInt8) := chunks xs 4 n ++ (List.range s).map fun j : Nat => encK xs n ((n : Int) + (j : Int))
theorem encG_len {n m : Nat} {xs} : (encG n m xs).length = m := by simp [encG]
theorem encS_len {n m : Nat} {xs} : (encS n m xs).length = n + m := by simp [encS, chunks_len]
theorem encG_step {n m : Nat} {xs} : encG n m xs ++ [encK xs n m] = encG n (m + 1) xs := by simp [encG, List.range_succ]
theorem encS_zero {n : Nat} {xs} : encS n 0 xs = chunks xs 4 n := by simp [encS]
theorem encS_step {n j : Nat} {xs} : encS n j xs ++ [encK xs n ((n : Int) + j)] = encS n (j + 1) xs := by simp [encS, List.range_succ]
theorem chunks_step {α : Type} {xs : List α} {m i : Nat} : chunks xs m i ++ [cut xs (i * m) (i * m + m)] = chunks xs m (i + 1) := by simp [chunks, List.range_succ]
theorem chunks_all {α : Type} {xs : List α} {m n : Nat} (h : xs.length = n * m) : ∀ i, i < (chunks xs m n).length → ((chunks xs m n).getD i []).length = m := fun i hi => by
  rw [chunks_len] at hi
  rw [chunks_get hi, cut_len (by have := mul_step h hi; omega)]
  omega
theorem scaleG_one (xs : List UInt8) : scaleG xs 1 = xs := by simp [scaleG, mul_one_r]
theorem scaleG_zero (xs : List UInt8) : scaleG xs 0 = List.replicate xs.length 0 := by
  refine List.ext_getElem (by simp [scaleG]) fun i h1 h2 => ?_
  simp [scaleG, mul_zero_r]
theorem addG_get {xs ys : List UInt8} {i : Nat} (h : i < xs.length) (h2 : i < ys.length) : (addG xs ys).getD i 0 = xs.getD i 0 ^^^ ys.getD i 0 := by
  simp [addG, List.getD, List.getElem?_zipWith, h, h2]
theorem addG_zero_r {xs : List UInt8} {m : Nat} (h : xs.length = m) : addG xs (List.replicate m 0) = xs := by
  refine getD_ext (d := 0) (by rw [addG_len (by simp [h])]) fun k hk => ?_
  rw [addG_len (by simp [h])] at hk
  rw [addG_get hk (by simp; omega)]
  have : k < m := by omega
  simp [List.getD, List.getElem?_replicate, this]
theorem addG_zero_l {xs : List UInt8} {m : Nat} (h : xs.length = m) : addG (List.replicate m 0) xs = xs := by
  refine getD_ext (d := 0) (by rw [addG_len (by simp [h])]; simp [h]) fun k hk => ?_
  rw [addG_len (by simp [h])] at hk
  simp at hk
  rw [addG_get (by simpa using hk) (by omega)]
  simp [List.getD, List.getElem?_replicate, hk]
theorem mix_unit {ls : List (List UInt8)} {cs : List UInt8} {n j : Nat} (h : ∀ i, i < ls.length → (ls.getD i []).length = n) (hc : ∀ i, i < ls.length → cs.getD i 0 = if i = j then 1 else 0) (hj : j < ls.length) :
    ∀ k, k ≤ ls.length → mixTo ls cs n k = if j < k then ls.getD j [] else List.replicate n 0
  | 0, _ => by simp [mixTo]
  | k + 1, hk => by
    have ih := mix_unit h hc hj k (by omega)
    rw [mixTo, ih, hc k (by omega)]
    by_cases e : k = j
    · subst e
      rw [if_neg (by omega), if_pos rfl, if_pos (by omega), scaleG_one, addG_zero_l (h k hj)]
    · rw [if_neg e, scaleG_zero, h k (by omega)]
      by_cases e2 : j < k
      · rw [if_pos e2, if_pos (by omega), addG_zero_r (h j hj)]
      · rw [if_neg e2, if_neg (by omega), addG_zero_r (by simp)]
theorem genG_get {n i : Nat} {p base : Int} (h : i < n) : (genG n p base).getD i 0 = genAt n p base i := by
  simp [genG, List.getD, h]
theorem encK_low {xs : List UInt8} {n j : Nat} (h : xs.length = n * 4) (hj : j < n) : encK xs n j = (chunks xs 4 n).getD j [] := by
  have hl : (chunks xs 4 n).length = n := chunks_len
  rw [encK, mix_unit (j := j) (chunks_all h) (fun i hi => ?_) (by omega) _ (Nat.le_refl _), if_pos (by omega)]
  rw [genG_get (by omega), genAt, if_neg (by omega)]
  by_cases e : i = j
  · subst e; rw [if_pos rfl, if_pos rfl]
  · rw [if_neg (by omega), if_neg e]
theorem encS_eq {n s : Nat} {xs : List UInt8} (h : xs.length = n * 4) : encS n s xs = encG n (n + s) xs := by
  refine List.ext_getElem (by rw [encS_len, encG_len]) fun k h1 h2 => ?_
  rw [encG_len] at h2
  simp only [encG, List.getElem_map, List.getElem_range]
  by_cases hk : k < n
  · rw [encK_low h hk]
    simp only [encS]
    rw [List.getElem_append_left (by rw [chunks_len]; exact hk)]
    simp [List.getD, chunks_len, hk]
  · simp only [encS]
    rw [List.getElem_append_right (by rw [chunks_len]; omega)]
    simp only [List.getElem_map, List.getElem_range, chunks_len]
    congr 1
    omega
theorem Sep.part {M w0 Δ F} {w : World} (h : Sep M w0 Δ F w) (i : Nat) {r : Rsc} (hi : Δ[i]? = some r) (rs : List Rsc) (hrs : ∀ q ∈ rs, q.φ w) (hb : blocks rs = r.fp) : Sep M w0 (Δ.set i gone ++ rs) F w := by
  have hx := not_mem_set hi h.nd
  have hsub : ∀ b, b ∈ blocks (Δ.set i gone) → b ∈ blocks Δ := fun b hb => by
    rcases blocks_set hi b hb with h | h
    · simp [gone] at h
    · exact h
  have hmem : ∀ b ∈ r.fp, b ∈ blocks Δ := fun b hb => mem_blocks.2 ⟨r, List.mem_of_getElem? hi, hb⟩
  refine ⟨h.ext, fun q hq => ?_, ?_, fun b hb' => ?_, h.fs, fun q hq b hbq hb' => ?_⟩
  · rcases List.mem_append.1 hq with hq | hq
    · rcases set_other (q := gone) hi h.nd q hq with rfl | ⟨hq, _⟩
      · trivial
      · exact h.rs q hq
    · exact hrs q hq
  · rw [blocks_append, hb]
    refine List.nodup_append.2 ⟨nodup_set hi h.nd (by simp [gone]) (by simp [gone]), h.nodup1 hi, fun x hx1 y hy e => ?_⟩
    subst e
    exact hx x hy hx1
  · rw [blocks_append, hb] at hb'
    rcases List.mem_append.1 hb' with hb' | hb'
    · exact h.new b (hsub b hb')
    · exact h.new b (hmem b hb')
  · rw [blocks_append, hb] at hb'
    rcases List.mem_append.1 hb' with hb' | hb'
    · exact h.ap q hq b hbq (hsub b hb')
    · exact h.ap q hq b hbq (hmem b hb')
end Go.Wk
namespace Go.Wk
open Rp (sz own)
section
variable {P : Program} {n : Nat} {L : Env} {w : World} {d : Option Tmp} {ty : TypeId} {p : String} {af : Array Edge} {g : Option (Nat × Bool)}
theorem pc_callv {f : FuncId} {fn : Func} {x : Operand} {xs : Array Operand} {ats : Array TypeId} {vs lb : List Value} (hx : evL L x = some (.func (.func f) #[] lb.toArray)) (hf : P.funcs[f]? = some fn) (hb : fn.body.isNone = false) (hnm : (fn.name == "runtime.NumGoroutine") = false)
    (hv : evLs L xs.toList = some vs) : Pc P n L w ⟨d, .call ⟨.value x, xs, ats⟩, ty, p, af, g⟩ f (vs ++ lb).toArray := fun a ha => by
  have hm : xs.map a.eval = vs.toArray := by
    have key : ∀ (l : List Operand) (vs : List Value), evLs L l = some vs → l.map a.eval = vs := by
      intro l
      induction l with
      | nil => intro vs h; simp [evLs] at h; simp [h]
      | cons x l ih =>
        intro vs h
        unfold evLs at h
        split at h
        · rename_i v us hv hus
          cases h
          simp [ha.eval hv, ih us hus]
        · cases h
    have := key _ _ hv
    apply Array.toList_inj.1
    simpa using this
  have hb' : ¬ fn.body = none := fun e => by rw [e] at hb; simp at hb
  have hnm' : ¬ fn.name = "runtime.NumGoroutine" := fun e => by rw [e] at hnm; simp at hnm
  simp [execOp, resolve, Deferred.ofValue, invoke, callFunc, hf, hb', hnm', hm, ha.eval hx]
def strB (xs : List UInt8) : ByteArray := ⟨xs.toArray⟩
theorem strB_inj {xs ys : List UInt8} : strB xs = strB ys ↔ xs = ys := by
  constructor
  · intro h
    have : (strB xs).data.toList = (strB ys).data.toList := by rw [h]
    simpa [strB] using this
  · rintro rfl; rfl
theorem strOf (xs : List UInt8) : strOfNums (xs.map fun x => (x.toNat : Int)) = strB xs := by
  simp only [strOfNums, strB, List.map_map]
  congr 2
  refine (List.map_congr_left (g := id) fun a _ => ?_).trans (List.map_id xs)
  simp
theorem run_b2s {src e dst : TypeId} (hs : P.underlying src = some (.slice e)) (he : P.underlying e = some (.int .u8)) (hd : P.underlying dst = some .string) {s ad n cap} {xs : List UInt8} {f} (h : own s w [.slice ad n cap] xs f) :
    (convert src dst (.slice ad n cap)).run P w = .ok (.string (strB xs)) w := by
  obtain rfl := own_n h
  cases ad with
  | none =>
    have : xs = [] := by
      by_cases h0 : 0 < xs.length
      · obtain ⟨_, _, _, _, e, _⟩ := own_all h h0; cases e
      · exact List.eq_nil_of_length_eq_zero (by omega)
    subst this
    rw [run_convert_bytes_nil w src e hs he _ _ dst hd]
    rfl
  | some a =>
    by_cases h0 : 0 < xs.length
    · obtain ⟨b, o, _, _, e1, _⟩ := own_all h h0
      cases e1
      rw [run_convert_bytes_arg w src e hs he b o xs.length cap (xs.map fun x => (x.toNat : Int)) (by simp) (fun i hi => ?_) dst hd, strOf]
      obtain ⟨b2, o2, e2, hc⟩ := elem_u8 h i hi
      cases e2
      rw [Nat.mul_one] at hc
      rw [hc]
      simp [List.getD, hi]
    · have : xs = [] := List.eq_nil_of_length_eq_zero (by omega)
      subst this
      rw [run_convert_bytes_string w src dst e _ _ cap hs he hd, run_bytesToString w _ _ cap [] (by simp [loadCells, loadCellsFrom])]
      rfl
theorem py_b2s {src e dst : TypeId} {x : Operand} {s ad m cap} {xs : List UInt8} {f} (hs : P.underlying src = some (.slice e)) (he : P.underlying e = some (.int .u8)) (hd : P.underlying dst = some .string) (hx : evL L x = some (.slice ad m cap))
    (h : own s w [.slice ad m cap] xs f) : Py P n L w ⟨d, .convert src dst x, ty, p, af, g⟩ (.string (strB xs)) := fun a ha => by
  simp [execOp, ha.eval hx, run_b2s hs he hd h]
end
end Go.Wk
namespace Go.Wk
open Rp (sz own)
def firstOf {α : Type} (p : α → Bool) (xs : List α) : Int := match xs.findIdx? p with
  | some k => k
  | none => -1
theorem firstOf_at {α : Type} {p : α → Bool} {xs : List α} {d : α} {k : Nat} (hk : k < xs.length) (h : p (xs.getD k d) = true) (hn : ∀ i, i < k → p (xs.getD i d) = false) : firstOf p xs = k := by
  have : xs.findIdx? p = some k := by
    rw [List.findIdx?_eq_some_iff_getElem]
    refine ⟨hk, ?_, fun j hj => ?_⟩
    · simpa [List.getD, hk] using h
    · have := hn j hj
      have hj' : j < xs.length := by omega
      simpa [List.getD, hj'] using this
  simp [firstOf, this]
theorem firstOf_no {α : Type} {p : α → Bool} {xs : List α} {d : α} (hn : ∀ i, i < xs.length → p (xs.getD i d) = false) : firstOf p xs = -1 := by
  have : xs.findIdx? p = none := by
    rw [List.findIdx?_eq_none_iff]
    intro x hx
    obtain ⟨i, hi, rfl⟩ := List.getElem_of_mem hx
    have := hn i hi
    simpa [List.getD, hi] using this
  simp [firstOf, this]
theorem firstOf_any {α : Type} {p : α → Bool} {xs : List α} : decide (0 ≤ firstOf p xs) = xs.any p := by
  unfold firstOf
  cases h : xs.findIdx? p with
  | none =>
    rw [List.findIdx?_eq_none_iff] at h
    have : xs.any p = false := by simpa using h
    simp [this]
  | some k =>
    rw [List.findIdx?_eq_some_iff_getElem] at h
    obtain ⟨hk, hp, _⟩ := h
    have : xs.any p = true := List.any_eq_true.2 ⟨_, List.getElem_mem hk, hp⟩
    simp [this]
end Go.Wk
namespace Go.Wk
open Rp (sz own)
section
variable {P : Program} {n : Nat} {ops : Array Oper} {Q : Post} {S : World → Prop} {L : Env} {w w0 : World} {M : Nat → Prop} {Δ F : List Rsc} {i : Nat} {d : Tmp} {ty : TypeId} {p : String} {af : Array Edge} {g : Option (Nat × Bool)} {rest : List (Nat × Bool)}
theorem d_sto {t : TypeId} {x y : Operand} {b off : Nat} {cs : List Value} {T v} (ho : ops.toList[i]? = some ⟨none, .store t x y, ty, p, af, g⟩) (hw : Wn ops n L ⟨none, .store t x y, ty, p, af, g⟩) (hs : ∀ w, (sizeOf t).run P w = .ok 1 w) (hx : evL L x = some (.pointer (some ⟨b, off, none⟩))) (hy : evL L y = some v) (h1 : v.oneCell' = true)
    (H : Sep M w0 Δ F w) (j : Nat) (hi : Δ[j]? = some (box b (.cells cs.toArray T))) (hf : Nat.blt off cs.length = true) (hS : ∀ w', S w → Ext (· = b) w w' → rest ≠ [] → S w')
    (k : ∀ w', Ext (· = b) w w' → Sep M w0 (Δ.set j (box b (.cells (cs.set off v).toArray T))) F w' → DL P n ops Q S rest L w') :
    DL P n ops Q S ((i, false) :: rest) L w := by
  have h := k _ (Ext.refl.put (.inl rfl)) (H.put j _ hi)
  rw [← List.setIfInBounds_toArray] at h
  exact d_do ho hw rfl (pd_store hs hx hy h1 (H.box j hi) (by rw [List.size_toArray]; exact Nat.le_of_ble_eq_true hf)) (fun hSw hr => hS _ hSw (Ext.refl.put (.inl rfl)) hr) h
end
end Go.Wk
namespace Go.Wk
open Rp (sz own)
section
variable {P : Program} {n : Nat} {L : Env} {w : World} {d : Option Tmp} {ty : TypeId} {p : String} {af : Array Edge} {g : Option (Nat × Bool)}
theorem run_eql_slnil {t e : TypeId} {a : Option Addr} {m c : Nat} (hu : P.underlying t = some (.slice e)) : (binOp .eql t (.slice a m c) (.slice none 0 0)).run P w = .ok (.bool a.isNone) w := by
  have h : ∀ d, (Op.equalIn (d + 1) t (.slice a m c) (.slice none 0 0)).run P w = .ok a.isNone w := by
    intro d; cases a <;> simp [Op.equalIn, run_underlying hu]
  have h2 : (Op.equal t (.slice a m c) (.slice none 0 0)).run P w = .ok a.isNone w := h 9999
  simp only [binOp]
  simp [h2]
theorem py_slnil {t e : TypeId} {x y : Operand} {yt : TypeId} {a : Option Addr} {m c : Nat} (hu : P.underlying t = some (.slice e)) (hx : evL L x = some (.slice a m c)) (hy : evL L y = some (.slice none 0 0)) :
    Py P n L w ⟨d, .binOp .eql t x y yt, ty, p, af, g⟩ (.bool a.isNone) := fun a ha => by
  simp [execOp, ha.eval hx, ha.eval hy, eqGuard, run_eql_slnil hu]
end
theorem own_none {α : Type} [Rp α] {s w ad m c} {xs : List α} {f} (h : own s w [.slice ad m c] xs f) (ha : ad.isNone = true) : xs = [] := by
  by_cases h0 : 0 < xs.length
  · obtain ⟨b, o, _, _, e, _⟩ := own_all h h0
    subst e; simp at ha
  · exact List.eq_nil_of_length_eq_zero (by omega)
end Go.Wk
namespace Go.Wk
open Rp (sz own)
abbrev Mat := List (List UInt8)
def entry (m : Mat) (i c : Nat) : UInt8 := (m.getD i []).getD c 0
def pivAt (m : Mat) (c r : Nat) : Nat := r + (m.drop r).findIdx (fun row => row.getD c 0 != 0)
theorem getD_drop {α : Type} {xs : List α} {r j : Nat} {d : α} : (xs.drop r).getD j d = xs.getD (r + j) d := by
  simp [List.getD, List.getElem?_drop]
theorem pivAt_eq {m : Mat} {c r k : Nat} (h1 : r ≤ k) (h2 : k ≤ m.length) (h0 : ∀ j, r ≤ j → j < k → entry m j c = 0) (hk : k = m.length ∨ entry m k c ≠ 0) : pivAt m c r = k := by
  have hl : (m.drop r).length = m.length - r := List.length_drop
  have e : (m.drop r).findIdx (fun row => row.getD c 0 != 0) = k - r := by
    rcases hk with rfl | hk
    · rw [← hl, List.findIdx_eq_length]
      intro x hx
      obtain ⟨j, hj, rfl⟩ := List.getElem_of_mem hx
      have := h0 (r + j) (by omega) (by omega)
      rw [entry, ← getD_drop (d := [])] at this
      have e : m.getD (r + j) [] = m[r + j]'(by omega) := by simp [List.getD, show r + j < m.length by omega]
      rw [getD_drop, e] at this
      simpa using this
    · have hlt : k < m.length := Decidable.byContradiction fun h => hk (by
        have : m.getD k [] = [] := by simp [List.getD, List.getElem?_eq_none (Nat.le_of_not_lt h)]
        rw [entry, this]; rfl)
      have hlt' : k - r < (m.drop r).length := by omega
      rw [List.findIdx_eq hlt']
      refine ⟨?_, fun j hj => ?_⟩
      · rw [entry, show k = r + (k - r) by omega, ← getD_drop (d := [])] at hk
        have e : m.getD (r + (k - r)) [] = m[r + (k - r)]'(by omega) := by simp [List.getD, show r + (k - r) < m.length by omega]
        rw [getD_drop, e] at hk
        simpa using hk
      · have hj' : j < (m.drop r).length := by omega
        have := h0 (r + j) (by omega) (by omega)
        rw [entry, ← getD_drop (d := [])] at this
        have e : m.getD (r + j) [] = m[r + j]'(by omega) := by simp [List.getD, show r + j < m.length by omega]
        rw [getD_drop, e] at this
        simpa using this
  rw [pivAt, e]; omega
def swapM (m : Mat) (r a : Nat) : Mat := (m.set r (m.getD a [])).set a (m.getD r [])
def normM (m : Mat) (c r a : Nat) : Mat := (m.set a (m.getD r [])).set r (scaleG (m.getD a []) (invG (entry m a c)))
def elimTo (m : Mat) (c r k : Nat) : Mat := (List.range m.length).map fun i => if i < k ∧ i ≠ r then addG (m.getD i []) (scaleG (m.getD r []) (entry m i c)) else m.getD i []
def stepM (m : Mat) (c r : Nat) : Mat × Nat := if m.length ≤ pivAt m c r then (m, r) else (elimTo (normM m c r (pivAt m c r)) c r m.length, r + 1)
def redM (m : Mat) : Nat → Mat × Nat
  | 0 => (m, 0)
  | c + 1 => stepM (redM m c).1 c (redM m c).2
theorem getD_set' {α : Type} {xs : List α} {i j : Nat} {x d : α} : (xs.set i x).getD j d = if j = i ∧ i < xs.length then x else xs.getD j d := by
  simp only [List.getD_eq_getElem?_getD, List.getElem?_set]
  by_cases h : i = j
  · subst h
    by_cases h2 : i < xs.length
    · simp [h2]
    · simp [h2]
  · rw [if_neg h, if_neg (fun e => h e.1.symm)]
theorem elimTo_len {m : Mat} {c r k : Nat} : (elimTo m c r k).length = m.length := by simp [elimTo]
theorem swapM_r {m : Mat} {r a : Nat} (hr : r < m.length) (ha : a < m.length) : (swapM m r a).getD r [] = m.getD a [] := by
  rw [swapM, getD_set', getD_set']
  by_cases h : r = a
  · subst h; simp [hr]
  · simp [h, hr]
theorem swap_norm {m : Mat} {c r a : Nat} : (swapM m r a).set r (scaleG (m.getD a []) (invG (entry m a c))) = normM m c r a := by
  rw [swapM, normM]
  by_cases h : r = a
  · subst h; simp
  · rw [List.set_comm _ _ h, List.set_set]
theorem elimTo_zero {m : Mat} {c r : Nat} : elimTo m c r 0 = m := by
  refine List.ext_getElem (by simp [elimTo]) fun i h1 h2 => ?_
  simp [elimTo, List.getD, h2]
theorem elimTo_get {m : Mat} {c r k i : Nat} (hi : i < m.length) : (elimTo m c r k).getD i [] = if i < k ∧ i ≠ r then addG (m.getD i []) (scaleG (m.getD r []) (entry m i c)) else m.getD i [] := by
  simp [elimTo, List.getD, hi]
theorem elimTo_at {m : Mat} {c r k : Nat} (hk : k < m.length) : (elimTo m c r k).getD k [] = m.getD k [] := by rw [elimTo_get hk, if_neg (by omega)]
theorem elimTo_r {m : Mat} {c r k : Nat} (hr : r < m.length) : (elimTo m c r k).getD r [] = m.getD r [] := by rw [elimTo_get hr, if_neg (by omega)]
theorem elimTo_set {m : Mat} {c r k : Nat} (hk : k < m.length) (hn : k ≠ r) {z : List UInt8} (hz : z = addG (m.getD k []) (scaleG (m.getD r []) (entry m k c))) : (elimTo m c r k).set k z = elimTo m c r (k + 1) := by
  refine List.ext_getElem (by simp [elimTo]) fun i h1 h2 => ?_
  rw [List.getElem_set]
  simp only [elimTo, List.getElem_map, List.getElem_range]
  by_cases e : k = i
  · subst e
    rw [if_pos rfl, if_pos ⟨by omega, hn⟩, hz]
  · rw [if_neg e]
    by_cases h3 : i < k ∧ i ≠ r
    · rw [if_pos h3, if_pos ⟨by omega, h3.2⟩]
    · rw [if_neg h3, if_neg (by omega)]
theorem elimTo_skip {m : Mat} {c r k : Nat} (hn : k = r ∨ elimTo m c r (k + 1) = elimTo m c r k) : elimTo m c r k = elimTo m c r (k + 1) := by
  rcases hn with rfl | h
  · refine List.ext_getElem (by simp [elimTo]) fun i h1 h2 => ?_
    simp only [elimTo, List.getElem_map, List.getElem_range]
    by_cases h3 : i < k ∧ i ≠ k
    · rw [if_pos h3, if_pos (by omega)]
    · rw [if_neg h3, if_neg (by omega)]
  · exact h.symm
def Rect (m : Mat) (k l : Nat) : Prop := m.length = k ∧ ∀ i, i < k → (m.getD i []).length = l
theorem elimTo_zeroE {m : Mat} {c r k K l : Nat} (hR : Rect m K l) (hk : k < K) (hr : r < K) (h : entry m k c = 0) : elimTo m c r k = elimTo m c r (k + 1) := by
  obtain ⟨h1, h2⟩ := hR
  refine List.ext_getElem (by simp [elimTo]) fun i h3 h4 => ?_
  simp only [elimTo, List.getElem_map, List.getElem_range]
  by_cases h5 : i < k ∧ i ≠ r
  · rw [if_pos h5, if_pos ⟨by omega, h5.2⟩]
  · rw [if_neg h5]
    by_cases h6 : i < k + 1 ∧ i ≠ r
    · obtain rfl : i = k := by omega
      rw [if_pos h6, h, scaleG_zero, addG_zero_r]
      rw [h2 _ hk, h2 _ hr]
    · rw [if_neg h6]
theorem Rect.set {m : Mat} {K l i : Nat} {x : List UInt8} (h : Rect m K l) (hx : x.length = l) : Rect (m.set i x) K l := by
  refine ⟨by simpa using h.1, fun j hj => ?_⟩
  rw [getD_set']
  split
  · exact hx
  · exact h.2 j hj
theorem Rect.swap {m : Mat} {K l r a : Nat} (h : Rect m K l) (hr : r < K) (ha : a < K) : Rect (swapM m r a) K l := (h.set (h.2 a ha)).set (h.2 r hr)
theorem Rect.norm {m : Mat} {K l c r a : Nat} (h : Rect m K l) (hr : r < K) (ha : a < K) : Rect (normM m c r a) K l := (h.set (h.2 r hr)).set (by rw [scaleG_len]; exact h.2 a ha)
theorem Rect.elim {m : Mat} {K l c r k : Nat} (h : Rect m K l) (hr : r < K) : Rect (elimTo m c r k) K l := by
  refine ⟨by rw [elimTo_len]; exact h.1, fun i hi => ?_⟩
  rw [elimTo_get (by rw [h.1]; exact hi)]
  split
  · rw [addG_len (by rw [scaleG_len, h.2 i hi, h.2 r hr]; exact Nat.le_refl _)]; exact h.2 i hi
  · exact h.2 i hi
theorem pivAt_ge {m : Mat} {c r : Nat} : r ≤ pivAt m c r := Nat.le_add_right _ _
theorem Rect.step {m : Mat} {K l c r : Nat} (h : Rect m K l) (hr : r ≤ K) : Rect (stepM m c r).1 K l ∧ (stepM m c r).2 ≤ K := by
  unfold stepM
  split
  · exact ⟨h, hr⟩
  · rename_i hp
    have h1 := h.1
    have := pivAt_ge (m := m) (c := c) (r := r)
    exact ⟨(h.norm (by omega) (by omega)).elim (by omega), by show r + 1 ≤ K; omega⟩
theorem Rect.red {m : Mat} {K l : Nat} (h : Rect m K l) : ∀ n, Rect (redM m n).1 K l ∧ (redM m n).2 ≤ K
  | 0 => ⟨h, Nat.zero_le _⟩
  | n + 1 => (h.red n).1.step (h.red n).2
theorem red_full {m : Mat} {c : Nat} (h : (redM m c).2 = (redM m c).1.length) : ∀ n, c ≤ n → redM m n = redM m c := by
  intro n hn
  induction n with
  | zero => have e : c = 0 := by omega
            rw [e]
  | succ n ih =>
    by_cases e : c = n + 1
    · rw [e]
    · have ih := ih (by omega)
      show stepM (redM m n).1 n (redM m n).2 = _
      rw [ih, stepM, if_pos (by rw [← h]; exact pivAt_ge)]
section
variable {β : Type} [Rp β]
theorem elem_view {w ad n cap} {vs : List View} {xss : List (List β)} {f g s} (h : own s w [.slice ad n cap] vs f) (hr : ownL false w (vs.map View.val) xss g) (hl : vs.length = xss.length) (k : Nat) (hk : k < xss.length) :
    ∃ b o a c fk, ad = some ⟨b, o, none⟩ ∧ w.cell? ⟨b, o + k * 1, none⟩ = some (.slice a (xss.getD k []).length c) ∧ own false w [.slice a (xss.getD k []).length c] (xss.getD k []) fk ∧ (∀ b ∈ fk, b ∈ g) ∧ b ∈ f := by
  obtain ⟨b, o, cs, fe, h1, h2, h3, _, h5⟩ := own_elem h k (by omega)
  obtain ⟨fk, h6, h7⟩ := hr.get k hk
  have e3 : cs = [(vs[k]'(by omega)).val] := h3.1
  have hkm : k < (vs.map View.val).length := by simp; omega
  have e : ((vs.map View.val).drop (k * sz (List β))).take (sz (List β)) = [(vs[k]'(by omega)).val] := by
    show ((vs.map View.val).drop (k * 1)).take 1 = _
    rw [Nat.mul_one, List.drop_eq_getElem_cons hkm, List.take_succ_cons, List.take_zero]
    simp
  rw [e] at h6
  obtain ⟨a, c, e2⟩ := own_slice h6
  rw [e2] at h6
  rw [show xss.getD k [] = xss[k] from by simp [List.getD, hk]]
  refine ⟨b, o, a, c, fk, h1, ?_, h6, h7, h5⟩
  have := h2 0 _ (by rw [e3, e2]; rfl)
  exact this
theorem rows_set {w : World} {vs : List View} {xss : List (List β)} {g : List Nat} (h : ownL false w (vs.map View.val) xss g) (hl : vs.length = xss.length) {u : View} {y : List β} {fy} (hy : own false w [u.val] y fy) :
    ∀ k, k < xss.length → ∃ g', ownL false w ((vs.set k u).map View.val) (xss.set k y) g' ∧ ∀ b ∈ g', b ∈ g ∨ b ∈ fy := by
  induction vs generalizing xss g with
  | nil => intro k hk; simp at hl; omega
  | cons v vs ih =>
    intro k hk
    cases xss with
    | nil => simp at hl
    | cons x xss =>
      obtain ⟨f1, f2, e, h1, h2⟩ := h
      subst e
      have h1' : own false w [v.val] x f1 := by simpa [sz] using h1
      have h2' : ownL false w (vs.map View.val) xss f2 := by simpa [sz] using h2
      cases k with
      | zero =>
        refine ⟨fy ++ f2, ⟨fy, f2, rfl, ?_, ?_⟩, fun b hb => ?_⟩
        · simpa [sz] using hy
        · simpa [sz] using h2'
        · rcases List.mem_append.1 hb with hb | hb
          · exact .inr hb
          · exact .inl (by simp [hb])
      | succ k =>
        obtain ⟨g', hg, hs⟩ := ih h2' (by simpa using hl) k (by simpa using hk)
        refine ⟨f1 ++ g', ⟨f1, g', rfl, ?_, ?_⟩, fun b hb => ?_⟩
        · simpa [sz] using h1'
        · simpa [sz] using hg
        · rcases List.mem_append.1 hb with hb | hb
          · exact .inl (by simp [hb])
          · rcases hs b hb with hb | hb
            · exact .inl (by simp [hb])
            · exact .inr hb
variable {M : Nat → Prop} {w0 w : World} {Δ F : List Rsc}
theorem Sep.rowsAt (h : Sep M w0 Δ F w) (j : Nat) {vs : List View} {xss : List (List β)} {g} (hj : F[j]? = some (rows vs xss g)) : ownL false w (vs.map View.val) xss g := h.fs _ (List.mem_of_getElem? hj)
theorem Sep.lookR (h : Sep M w0 Δ F w) (j : Nat) {vs : List View} {xss : List (List β)} {g} (hj : F[j]? = some (rows vs xss g)) {s cs f} {y : List β} (ho : own s w cs y f) (hs : ∀ b ∈ f, b ∈ g) : Sep M w0 Δ (F ++ [Wk.seen s cs y f]) w :=
  h.look (r := Wk.seen s cs y f) ho fun b hb => h.ap _ (List.mem_of_getElem? hj) b (hs b hb)
theorem Sep.fset (h : Sep M w0 Δ F w) (j : Nat) {r : Rsc} (hr : r.φ w) (hd : ∀ b ∈ r.fp, b ∉ blocks Δ) : Sep M w0 Δ (F.set j r) w :=
  h.fto fun q hq => by
    rcases List.mem_or_eq_of_mem_set hq with hq | rfl
    · exact ⟨h.fs q hq, h.ap q hq⟩
    · exact ⟨hr, hd⟩
theorem Sep.rowSet {s : Bool} (h : Sep M w0 Δ F w) (i j e : Nat) {ad n cap} {vs : List View} {xss : List (List β)} {f g} (hi : Δ[i]? = some (Wk.mine [.slice ad n cap] vs f)) (hj : F[j]? = some (rows vs xss g)) {a m c} {y : List β} {fy} (he : F[e]? = some (Wk.seen s [.slice a m c] y fy))
    (hl : vs.length = xss.length) (k : Nat) (hk : k < xss.length) :
    ∃ b o cur T, ad = some ⟨b, o, none⟩ ∧ w.heap[b]? = some (.cells cur T (0, 0)) ∧ o + k < cur.size ∧ b ∈ f ∧
      ∃ f' g', Sep M w0 (Δ.set i (Wk.mine [.slice ad n cap] (vs.set k ⟨a, m, c⟩) f')) (F.set j (rows (vs.set k ⟨a, m, c⟩) (xss.set k y) g')) (Wk.put w b (.cells (cur.setIfInBounds (o + k) (.slice a m c)) T (0, 0))) := by
  obtain ⟨b, o, cur, T, e1, hb, hsz, hs⟩ := h.elset i hi k (by omega)
  obtain ⟨b2, o2, _, _, e2, _, _, _, hbf⟩ := own_elem (h.mine i hi) k (by omega)
  rw [e1] at e2; cases e2
  have hs1 : (sz View) = 1 := rfl
  rw [hs1] at hsz hs
  obtain ⟨f', H⟩ := hs [.slice a m c] ⟨a, m, c⟩ ⟨rfl, rfl⟩
  have e3 : lay cur (o + k * 1) [.slice a m c] = cur.setIfInBounds (o + k) (.slice a m c) := by rw [Nat.mul_one]; rfl
  rw [e3] at H
  obtain ⟨g', hg, hgs⟩ := rows_set (u := ⟨a, m, c⟩) (H.rowsAt j hj) hl (own_weak (H.seen e he)) k hk
  refine ⟨b, o, cur, T, e1, hb, by omega, hbf, f', g', H.fset j hg fun x hx => ?_⟩
  rcases hgs x hx with hx | hx
  · exact H.ap _ (List.mem_of_getElem? hj) x hx
  · exact H.ap _ (List.mem_of_getElem? he) x hx
theorem Sep.parted (h : Sep M w0 Δ F w) (i : Nat) {ad n cap} {xss : List (List β)} {f} (hi : Δ[i]? = some (Wk.mine [.slice ad n cap] xss f)) :
    ∃ vs f' g, vs.length = xss.length ∧ Sep M w0 (Δ.set i (Wk.mine [.slice ad n cap] (vs : List View) f')) (F ++ [rows vs xss g]) w := by
  have hn := h.nodup1 hi
  have key : ∃ (vs : List View) (f' g : List Nat), vs.length = xss.length ∧ own true w [.slice ad n cap] vs f' ∧ ownL false w (vs.map View.val) xss g ∧ (∀ x ∈ f', x ∈ f) ∧ f'.Nodup ∧ (∀ x ∈ g, x ∈ f ∧ x ∉ f') := by
    rcases h.mine i hi with ⟨h1, _⟩ | ⟨h1, rfl, rfl⟩ | ⟨b, o, cap', cur, T, fr, fs, h1, h2, h3, h4, h5, h6, h7, h8⟩
    · cases h1
    · exact ⟨[], [], [], rfl, .inr (.inl ⟨h1, rfl, rfl⟩), rfl, by simp, .nil, by simp⟩
    · subst h2
      have hlen : ((cur.toList.drop o).take xss.length).length = xss.length := by
        have e : cur.toList.length = cur.size := by simp
        have : sz (List β) = 1 := rfl
        rw [this] at h7
        rw [List.length_take, List.length_drop]; omega
      have h9 : ownL true w ((cur.toList.drop o).take xss.length) xss fs := h8.congr (by show List.take (xss.length * 1) _ = List.take (xss.length * 1) _; rw [Nat.mul_one, List.take_take, Nat.min_self])
      obtain ⟨vs, e1, e2⟩ := ownL_views h9 hlen
      rw [e1] at h9
      have hb : b ∉ fs := (List.nodup_cons.1 hn).1
      refine ⟨vs, [b], fs, e2, .inr (.inr ⟨b, o, cap', cur, T, fr, [], by rw [h1, e2], rfl, h3, h4, by omega, h6, h7, ?_⟩), h9.weak', by simp, by simp, fun x hx => ⟨by simp [hx], by simp; exact fun e => hb (e ▸ hx)⟩⟩
      refine (views_own (w := w) (vs := vs) (s := true)).congr ?_
      show List.take (vs.length * 1) _ = List.take (vs.length * 1) _
      rw [Nat.mul_one, ← e1, e2, List.take_take, Nat.min_self]
  obtain ⟨vs, f', g, k1, k2, k3, k4, k5, k6⟩ := key
  have H := h.set hi (q := Wk.mine [.slice ad n cap] vs f') Ext.refl k2 k5 fun x hx => .inl (k4 x hx)
  refine ⟨vs, f', g, k1, H.look (r := rows vs xss g) k3 fun x hx hm => ?_⟩
  have hx' := k6 x hx
  obtain ⟨r, hr, hxr⟩ := mem_blocks.1 hm
  rcases set_other hi h.nd r hr with rfl | ⟨_, hr2⟩
  · exact hx'.2 hxr
  · exact hr2 x hxr hx'.1
end
section
variable {P : Program} {n : Nat} {ops : Array Oper} {Q : Post} {L : Env} {w w0 : World} {M : Nat → Prop} {Δ F : List Rsc} {d : Tmp} {ty : TypeId} {p : String} {af : Array Edge} {g : Option (Nat × Bool)} {rest : List Oper} {β : Type} [Rp β]
theorem s_rowset {t : TypeId} {x y : Operand} {b off : Nat} {ad : Option Addr} {len cap : Nat} {vs : List View} {xss : List (List β)} {f gg : List Nat} {s a m c} {z : List β} {fy} (hw : Wn ops n L ⟨none, .store t x y, ty, p, af, g⟩) (hs : ∀ w, (sizeOf t).run P w = .ok 1 w)
    (H : Sep M w0 Δ F w) (i j e : Nat) (hi : Δ[i]? = some (mine [.slice ad len cap] vs f)) (hj : F[j]? = some (rows vs xss gg)) (he : F[e]? = some (seen s [.slice a m c] z fy)) (hl : vs.length = xss.length) (k : Nat) (hk : k < xss.length)
    (hx : evL L x = some (.pointer (some ⟨b, off + k * 1, none⟩))) (had : ad = some ⟨b, off, none⟩) (hy : evL L y = some (.slice a m c))
    (kk : ∀ w' f' g', Sep M w0 (Δ.set i (mine [.slice ad len cap] (vs.set k ⟨a, m, c⟩) f')) (F.set j (rows (vs.set k ⟨a, m, c⟩) (xss.set k z) g')) w' → RL P n ops Q rest L w') :
    RL P n ops Q (⟨none, .store t x y, ty, p, af, g⟩ :: rest) L w := by
  obtain ⟨b', o', cur, T, e1, hb, hsz, _, f', g', h⟩ := H.rowSet i j e hi hj he hl k hk
  rw [had] at e1
  simp only [Option.some.injEq, Addr.mk.injEq, and_true] at e1
  obtain ⟨rfl, rfl⟩ := e1
  rw [Nat.mul_one] at hx
  exact s_do hw rfl (pd_store hs hx hy rfl hb hsz) (kk _ f' g' h)
end
section
variable {P : Program} {n : Nat} {ops : Array Oper} {Q : Post} {S : World → Prop} {L : Env} {w w0 : World} {M : Nat → Prop} {Δ F : List Rsc} {l : Nat} {d : Tmp} {ty : TypeId} {p : String} {af : Array Edge} {g : Option (Nat × Bool)} {rest : List (Nat × Bool)} {β : Type} [Rp β]
theorem d_rowset {t : TypeId} {x y : Operand} {b off : Nat} {ad : Option Addr} {len cap : Nat} {vs : List View} {xss : List (List β)} {f gg : List Nat} {s a m c} {z : List β} {fy} (ho : ops.toList[l]? = some ⟨none, .store t x y, ty, p, af, g⟩) (hw : Wn ops n L ⟨none, .store t x y, ty, p, af, g⟩) (hs : ∀ w, (sizeOf t).run P w = .ok 1 w)
    (H : Sep M w0 Δ F w) (i j e : Nat) (hi : Δ[i]? = some (mine [.slice ad len cap] vs f)) (hj : F[j]? = some (rows vs xss gg)) (he : F[e]? = some (seen s [.slice a m c] z fy)) (hl : vs.length = xss.length) (k : Nat) (hk : k < xss.length)
    (hx : evL L x = some (.pointer (some ⟨b, off + k * 1, none⟩))) (had : ad = some ⟨b, off, none⟩) (hy : evL L y = some (.slice a m c)) (hS : ∀ (b o : Nat) (cur : Array Value) (T : TypeId), ad = some ⟨b, o, none⟩ → w.heap[b]? = some (.cells cur T (0, 0)) → o + k < cur.size → S w → rest ≠ [] → S (put w b (.cells (cur.setIfInBounds (o + k) (.slice a m c)) T (0, 0))))
    (kk : ∀ w' f' g', Sep M w0 (Δ.set i (mine [.slice ad len cap] (vs.set k ⟨a, m, c⟩) f')) (F.set j (rows (vs.set k ⟨a, m, c⟩) (xss.set k z) g')) w' → DL P n ops Q S rest L w') :
    DL P n ops Q S ((l, false) :: rest) L w := by
  obtain ⟨b', o', cur, T, e1, hb, hsz, hbf, f', g', h⟩ := H.rowSet i j e hi hj he hl k hk
  rw [had] at e1
  simp only [Option.some.injEq, Addr.mk.injEq, and_true] at e1
  obtain ⟨rfl, rfl⟩ := e1
  rw [Nat.mul_one] at hx
  exact d_do ho hw rfl (pd_store hs hx hy rfl hb hsz) (fun hSw hr => hS _ _ cur T had hb hsz hSw hr) (kk _ f' g' h)
end
theorem swap_cell {w : World} {b o a r : Nat} {cur : Array Value} {T : TypeId} {v : Value} (hb : w.heap[b]? = some (.cells cur T (0, 0))) (hr : o + r < cur.size) (hc : w.cell? ⟨b, o + a * 1, none⟩ = some v) :
    (put w b (.cells (cur.setIfInBounds (o + r) v) T (0, 0))).cell? ⟨b, o + a * 1, none⟩ = some v := by
  rw [Nat.mul_one] at hc ⊢
  refine cell_at (put_heap hb) ?_
  have hc' : cur[o + a]? = some v := by simpa [World.cell?, hb] using hc
  by_cases e : r = a
  · subst e; simp [hr]
  · rw [Array.getElem?_setIfInBounds_ne (by omega)]; exact hc'
def RowsMut {β : Type} [Rp β] (w w' : World) (fp : List Nat) (V : Value) (K : Nat) (m : List (List β)) : Prop :=
  ∃ (vs : List View) (f g : List Nat), vs.length = K ∧ Ext (· ∈ fp) w w' ∧ own true w' [V] vs f ∧ f.Nodup ∧ (∀ b ∈ f, b ∈ fp ∨ w.heap.size ≤ b) ∧ ownL false w' (vs.map View.val) m g ∧ ∀ b ∈ g, b ∉ f
section
variable {β : Type} [Rp β] {M : Nat → Prop} {w0 w w' : World} {Δ F : List Rsc}
theorem Sep.rowsOut {w : World} {fp : List Nat} {V : Value} {vs : List View} {f g : List Nat} {m : List (List β)} {K : Nat} (h : Sep (· ∈ fp) w [Wk.mine [V] vs f] [rows vs m g] w') (hl : vs.length = K) : RowsMut w w' fp V K m :=
  ⟨vs, f, g, hl, h.ext, h.mine 0 rfl, h.nodup1 (i := 0) rfl, fun b hb => h.new b (by simpa [blocks, Wk.mine] using hb), h.rowsAt 0 rfl, fun b hb => h.off 0 rfl 0 rfl hb⟩
theorem Sep.beginRows {fp : List Nat} {V : Value} {vs : List View} {g : List Nat} {m : List (List β)} (o : own true w [V] vs fp) (nd : fp.Nodup) (hr : ownL false w (vs.map View.val) m g) (hd : ∀ b ∈ g, b ∉ fp) : Sep (· ∈ fp) w [Wk.mine [V] vs fp] [rows vs m g] w :=
  (Sep.begin o nd).look (r := rows vs m g) hr fun b hb hm => hd b hb (by simpa [blocks, Wk.mine] using hm)
theorem Sep.rowsMut (h : Sep M w0 Δ F w) (i : Nat) {V : Value} {vs : List View} {fp : List Nat} (hi : Δ[i]? = some (Wk.mine [V] vs fp)) (honly : ∀ b ∈ blocks Δ, b ∈ fp) {K : Nat} {m : List (List β)} (hm : RowsMut w w' fp V K m) :
    ∃ vs' f' g', vs'.length = K ∧ Sep M w0 (Δ.set i (Wk.mine [V] (vs' : List View) f')) (F ++ [rows vs' m g']) w' := by
  obtain ⟨vs', f', g', h1, h2, h3, h4, h5, h6, h7⟩ := hm
  have H := h.set hi (q := Wk.mine [V] vs' f') h2 h3 h4 h5
  refine ⟨vs', f', g', h1, H.look (r := rows vs' m g') h6 fun b hb hm => ?_⟩
  obtain ⟨r, hr, hbr⟩ := mem_blocks.1 hm
  rcases set_other hi h.nd r hr with rfl | ⟨hr1, hr2⟩
  · exact h7 b hb hbr
  · exact hr2 b hbr (honly b (mem_blocks.2 ⟨r, hr1, hbr⟩))
end
theorem step_none {m M : Mat} {c r : Nat} (h : redM m c = (M, r)) (hp : M.length ≤ pivAt M c r) : redM m (c + 1) = (M, r) := by
  show stepM (redM m c).1 c (redM m c).2 = _
  rw [h]
  exact if_pos hp
theorem step_some {m M : Mat} {c r j : Nat} (h : redM m c = (M, r)) (hp : pivAt M c r = j) (hj : j < M.length) : redM m (c + 1) = (elimTo (normM M c r j) c r M.length, r + 1) := by
  show stepM (redM m c).1 c (redM m c).2 = _
  rw [h]
  show stepM M c r = _
  rw [stepM, if_neg (by omega), hp]
theorem elim_ne {N : Mat} {c r i : Nat} {x : UInt8} (h : (decide ((i : Int) ≠ (r : Int)) && decide ((x.toNat : Int) ≠ 0)) = true) : i ≠ r := by
  simp only [Bool.and_eq_true, decide_eq_true_eq] at h; omega
theorem elim_next {N : Mat} {K l c r i : Nat} (hR : Rect N K l) (hi : i < K) (hr : r < K) (h : (decide ((i : Int) ≠ (r : Int)) && decide (((((elimTo N c r i).getD i []).getD c 0).toNat : Int) ≠ 0)) = false) :
    elimTo N c r i = elimTo N c r (i + 1) := by
  by_cases e : i = r
  · exact elimTo_skip (.inl e)
  · refine elimTo_zeroE hR hi hr ?_
    rw [elimTo_at (by rw [hR.1]; exact hi)] at h
    have e1 : decide ((i : Int) ≠ (r : Int)) = true := by simp; omega
    rw [e1, Bool.true_and, decide_eq_false_iff_not, Decidable.not_not] at h
    exact u8_zero h
theorem norm_of {M : Mat} {c r j : Nat} (hr : r < M.length) (hj : j < M.length) :
    ((M.set r (M.getD j [])).set j (M.getD r [])).set r (scaleG (((M.set r (M.getD j [])).set j (M.getD r [])).getD r []) (mulG 1 (invG ((((M.set r (M.getD j [])).set j (M.getD r [])).getD r []).getD c 0)))) = normM M c r j := by
  have e := swapM_r (m := M) hr hj
  rw [swapM] at e
  rw [e, mul_one_l]
  exact swap_norm
end Go.Wk
namespace Go.Wk
open Rp (sz own)
theorem Sep.resN {α : Type} [Rp α] {M w0 Δ F} {w w' : World} {cs : List Value} {x : α} (h : Sep M w0 Δ F w) (e : Ext No w w') (hr : Res w w' cs x) : ∃ fp, Sep M w0 (Δ ++ [Wk.mine cs x fp]) F w' ∧ ∀ b ∈ fp, w.heap.size ≤ b := by
  obtain ⟨fp, h1, h2, h3⟩ := hr
  exact ⟨fp, h.add e (r := Wk.mine cs x fp) h1 h2 h3, h3⟩
section
variable {P : Program} {n : Nat} {ops : Array Oper} {Q : Post} {S : World → Prop} {L : Env} {w w0 wr : World} {M M' : Nat → Prop} {Δ F : List Rsc} {i : Nat} {d : Tmp} {ty : TypeId} {p : String} {af : Array Edge} {g : Option (Nat × Bool)} {rest : List (Nat × Bool)} {α : Type} [Rp α]
theorem d_S {l : List (Nat × Bool)} (h : S w → DL P n ops Q S l L w) (hl : l ≠ []) : DL P n ops Q S l L w := fun hs a ha hS => h (hS hl) hs a ha hS
theorem d_app1S {x y : Operand} {t e : TypeId} {z : Value} {bytes : Nat} {v : Value} {xs : List α} {fp : List Nat} {b2 c2 : Nat} {T} {cs : List Value} {u : α} (ho : ops.toList[i]? = some ⟨some d, .call ⟨.builtin .append, #[x, y], #[t, t]⟩, ty, p, af, g⟩) (hw : Wn ops n L ⟨some d, .call ⟨.builtin .append, #[x, y], #[t, t]⟩, ty, p, af, g⟩) (hn : Nat.blt d n = true)
    (ht : P.underlying t = some (.slice e)) (hT : Ty P e z (sz α) bytes) (hz : z.cells.size = sz α) (hx : evL L x = some v) (hy : evL L y = some (.slice (some ⟨b2, 0, none⟩) 1 c2))
    (H : Sep M w0 Δ F w) (q j : Nat) (hi : Δ[q]? = some (mine [v] xs fp)) (hj : Δ[j]? = some (box b2 (.cells cs.toArray T))) (hu : own true w cs u []) (h63 : xs.length + 1 ≤ maxLen) (hb48 : (xs.length + 1) * bytes ≤ 140737488355328)
    (hf : ∀ b ∈ fp, wr.heap.size ≤ b)
    (k : ∀ v' w' fp', (∀ b ∈ fp', b ∈ fp ∨ w.heap.size ≤ b) → Sep M w0 (Δ.set q (mine [v'] (xs ++ [u]) fp')) F w' → DL P n ops Q (Ext M' wr) rest ((d, v') :: L) w') :
    DL P n ops Q (Ext M' wr) ((i, false) :: rest) L w := by
  obtain ⟨v', w', fp', h1, h2, h3, h4, h5⟩ := run_append (ty := ty) ht hT hz (H.mine q hi) (ys := [u]) (c2 := c2) (m := 1) (by rw [Rp.len hu]; simp) rfl (At.whole (H.box j hj)) (Rp.one hu) (.one hu) (by simp) (H.nodup1 hi) .nil (by simp) h63 hb48
  have h6 : ∀ b ∈ fp', b ∈ fp ∨ w.heap.size ≤ b := fun b hb => by rcases h4 b hb with h | h | h; exact .inl h; simp at h; exact .inr h
  exact d_new ho hw rfl hn (pn_app hx hy h1) (fun h _ => h.step h3 fun b hb => .inr (hf b hb)) (k _ _ _ h6 (H.set hi (q := Wk.mine [v'] (xs ++ [u]) fp') h3 h2 h5 h6))
theorem d_appFS [Flat α] {x y : Operand} {t e : TypeId} {z : Value} {bytes : Nat} {v : Value} {xs ys : List α} {fp fy : List Nat} {s ad m c2} (ho : ops.toList[i]? = some ⟨some d, .call ⟨.builtin .append, #[x, y], #[t, t]⟩, ty, p, af, g⟩) (hw : Wn ops n L ⟨some d, .call ⟨.builtin .append, #[x, y], #[t, t]⟩, ty, p, af, g⟩) (hn : Nat.blt d n = true)
    (ht : P.underlying t = some (.slice e)) (hT : Ty P e z (sz α) bytes) (hz : z.cells.size = sz α) (hx : evL L x = some v) (hy : evL L y = some (.slice ad m c2))
    (H : Sep M w0 Δ F w) (q : Nat) (hi : Δ[q]? = some (mine [v] xs fp)) (hu : own s w [.slice ad m c2] ys fy) (h63 : xs.length + ys.length ≤ maxLen) (hb48 : (xs.length + ys.length) * bytes ≤ 140737488355328)
    (hf : ∀ b ∈ fp, wr.heap.size ≤ b)
    (k : ∀ v' w' fp', (∀ b ∈ fp', b ∈ fp ∨ w.heap.size ≤ b) → Sep M w0 (Δ.set q (mine [v'] (xs ++ ys) fp')) F w' → DL P n ops Q (Ext M' wr) rest ((d, v') :: L) w') :
    DL P n ops Q (Ext M' wr) ((i, false) :: rest) L w := by
  obtain ⟨v', w', fp', h1, h2, h3, h4, h5⟩ := run_appendF (ty := ty) ht hT hz (H.mine q hi) hu (H.nodup1 hi) h63 hb48
  exact d_new ho hw rfl hn (pn_app hx hy h1) (fun h _ => h.step h3 fun b hb => .inr (hf b hb)) (k _ _ _ h4 (H.set hi (q := Wk.mine [v'] (xs ++ ys) fp') h3 h2 h5 h4))
theorem d_elst2 {t : TypeId} {x y : Operand} {b off : Nat} {v : Value} {ad : Option Addr} {len cap : Nat} {xs : List α} {fp fu : List Nat} {u : α} (ho : ops.toList[i]? = some ⟨none, .store t x y, ty, p, af, g⟩) (hw : Wn ops n L ⟨none, .store t x y, ty, p, af, g⟩) (hs : ∀ w, (sizeOf t).run P w = .ok (sz α) w) (h1 : sz α = 1)
    (H : Sep M w0 Δ F w) (l j : Nat) (hi : Δ[l]? = some (mine [.slice ad len cap] xs fp)) (hj : Δ[j]? = some (mine [v] u fu)) (hij : Nat.beq j l = false) (q : Nat) (hq : q < xs.length) (hx : evL L x = some (.pointer (some ⟨b, off + q * sz α, none⟩))) (had : ad = some ⟨b, off, none⟩) (hy : evL L y = some v)
    (k : ∀ w' fp', Sep M w0 ((Δ.set j gone).set l (mine [.slice ad len cap] (xs.set q u) fp')) F w' → DL P n ops Q S [] L w') :
    DL P n ops Q S [(i, false)] L w := by
  obtain ⟨b', o', cur, T, fp', e1, hb, hsz, hk⟩ := H.elset2 l j hi hj hij q hq
  rw [had] at e1
  simp only [Option.some.injEq, Addr.mk.injEq, and_true] at e1
  obtain ⟨rfl, rfl⟩ := e1
  exact d_do ho hw rfl (pd_store (by rw [h1] at hs; exact hs) hx hy (Rp.one (H.mine j hj) v (by simp)) hb (by omega)) (fun _ hr => absurd rfl hr) (k _ fp' hk)
end
def augTo (m : Mat) (b : List UInt8) (k : Nat) : Mat := (List.range k).map fun i => m.getD i [] ++ [b.getD i 0]
def aug (m : Mat) (b : List UInt8) : Mat := augTo m b m.length
theorem augTo_len {m : Mat} {b k} : (augTo m b k).length = k := by simp [augTo]
theorem augTo_step {m : Mat} {b k} : augTo m b k ++ [m.getD k [] ++ [b.getD k 0]] = augTo m b (k + 1) := by simp [augTo, List.range_succ]
def augIn (m : Mat) (b : List UInt8) (k : Nat) : Mat := augTo m b k ++ List.replicate (m.length - k) []
theorem augIn_zero {m : Mat} {b} : augIn m b 0 = List.replicate m.length [] := by simp [augIn, augTo]
theorem augIn_all {m : Mat} {b} : augIn m b m.length = aug m b := by simp [augIn, aug]
theorem augIn_len {m : Mat} {b k} (h : k ≤ m.length) : (augIn m b k).length = m.length := by simp [augIn, augTo_len]; omega
theorem augIn_set {m : Mat} {b k} (h : k < m.length) : (augIn m b k).set k (m.getD k [] ++ [b.getD k 0]) = augIn m b (k + 1) := by
  rw [augIn, List.set_append_right _ _ (by rw [augTo_len]; exact Nat.le_refl _), augTo_len, Nat.sub_self, augIn, ← augTo_step]
  have : List.replicate (m.length - k) ([] : List UInt8) = [] :: List.replicate (m.length - (k + 1)) [] := by
    rw [show m.length - k = (m.length - (k + 1)) + 1 by omega]; rfl
  rw [this, List.set_cons_zero]; simp
theorem aug_rect {m : Mat} {b : List UInt8} {n : Nat} (h : Rect m n n) : Rect (aug m b) n (n + 1) := by
  obtain ⟨h1, h2⟩ := h
  refine ⟨by rw [aug, augTo_len]; exact h1, fun i hi => ?_⟩
  have : (aug m b).getD i [] = m.getD i [] ++ [b.getD i 0] := by simp [aug, augTo, List.getD, h1, hi]
  rw [this, List.length_append, h2 i hi]; rfl
def colTo (m : Mat) (c k : Nat) : List UInt8 := (List.range k).map fun i => entry m i c
theorem colTo_len {m : Mat} {c k} : (colTo m c k).length = k := by simp [colTo]
theorem colTo_step {m : Mat} {c k} : colTo m c k ++ [(m.getD k []).getD c 0] = colTo m c (k + 1) := by simp [colTo, List.range_succ, entry]
def solOk (m : Mat) (b : List UInt8) : Bool := decide (m.length ≤ (redM (aug m b) m.length).2)
def solL (m : Mat) (b : List UInt8) : List UInt8 := if solOk m b = true then colTo (redM (aug m b) m.length).1 m.length m.length else []
theorem sol_no {m : Mat} {b} (h : (redM (aug m b) m.length).2 < m.length) : solOk m b = false ∧ solL m b = [] := by
  have : solOk m b = false := by rw [solOk, decide_eq_false (by omega)]
  exact ⟨this, by rw [solL, this]; rfl⟩
theorem sol_yes {m : Mat} {b} (h : ¬ (redM (aug m b) m.length).2 < m.length) : solOk m b = true ∧ solL m b = colTo (redM (aug m b) m.length).1 m.length m.length := by
  have : solOk m b = true := by rw [solOk, decide_eq_true (by omega)]
  exact ⟨this, by rw [solL, if_pos this]⟩
end Go.Wk
namespace Go.Wk
open Rp (sz own)
def hole {β : Type} [Rp β] (b o k : Nat) (cur : Array Value) (T : TypeId) (ad : Option Addr) (n cap : Nat) (xss : List (List β)) (f1 f2 : List Nat) : Rsc :=
  ⟨b :: (f1 ++ f2), fun w => w.heap[b]? = some (.cells cur T (0, 0)) ∧ (∀ x ∈ b :: (f1 ++ f2), x < w.heap.size) ∧
    ∀ w' cur' x' fk', w'.heap[b]? = some (.cells cur' T (0, 0)) → cur'.size = cur.size → (∀ j, j < o + k ∨ o + (k + 1) ≤ j → cur'[j]? = cur[j]?) → (∀ b ∈ f1, w'.heap[b]? = w.heap[b]?) → (∀ b ∈ f2, w'.heap[b]? = w.heap[b]?) →
        own true w' ((cur'.toList.drop (o + k)).take 1) x' fk' → own true w' [.slice ad n cap] (xss.set k x') (b :: (f1 ++ (fk' ++ f2))),
   fun h e => ⟨(e b (by simp)).trans h.1, fun x hx => by
      have h1 := h.2.1 x hx
      have h2 := e x hx
      rw [Array.getElem?_eq_getElem h1] at h2
      exact (Array.getElem?_eq_some_iff.1 h2).1, fun w' cur' x' fk' h1 h2 h3 h4 h5 h6 => h.2.2 w' cur' x' fk' h1 h2 h3 (fun b hb => (h4 b hb).trans (e b (by simp [hb]))) (fun b hb => (h5 b hb).trans (e b (by simp [hb]))) h6⟩,
   fun h => h.2.1⟩
def reord (r : Rsc) (fp : List Nat) (h : ∀ b, b ∈ fp ↔ b ∈ r.fp) : Rsc := ⟨fp, r.φ, fun a e => r.st a fun b hb => e b ((h b).2 hb), fun a b hb => r.lt a b ((h b).1 hb)⟩
section
variable {M : Nat → Prop} {w0 w w' : World} {Δ F : List Rsc} {β : Type} [Rp β]
theorem set_swap {a b : Rsc} {t : List Rsc} : ∀ {Δ : List Rsc} {i : Nat}, i < Δ.length → (Δ.set i a ++ b :: t).Perm (Δ.set i b ++ a :: t)
  | [], _, h => by simp at h
  | x :: Δ, 0, _ => by
    show (a :: (Δ ++ b :: t)).Perm (b :: (Δ ++ a :: t))
    exact (List.perm_middle.cons a).trans ((List.Perm.swap _ _ _).trans (List.perm_middle.symm.cons b))
  | x :: Δ, i + 1, h => (set_swap (Δ := Δ) (i := i) (by simpa using h)).cons x
theorem Sep.unhook (h : Sep M w0 Δ F w) (i : Nat) {ad n cap} {xss : List (List β)} {fp} (hi : Δ[i]? = some (Wk.mine [.slice ad n cap] xss fp)) (k : Nat) (hk : k < xss.length) :
    ∃ b o cur T f1 f2 fk a c, ad = some ⟨b, o, none⟩ ∧ o + k < cur.size ∧ w.cell? ⟨b, o + k * 1, none⟩ = some (.slice a (xss.getD k []).length c) ∧ b ∉ fk ∧ Sep M w0 (Δ.set i (hole b o k cur T ad n cap xss f1 f2) ++ [Wk.mine [.slice a (xss.getD k []).length c] (xss.getD k []) fk]) F w := by
  have hnd := h.nodup1 hi
  obtain ⟨b, o, cur, T, f1, fk, f2, e1, e2, hb, hsz, hx, hback⟩ := own_zoom (h.mine i hi) k hk
  have hs1 : sz (List β) = 1 := rfl
  rw [hs1, Nat.mul_one] at hsz hx
  have hlt := Rp.lt (h.mine i hi)
  change fp.Nodup at hnd
  subst e2
  have hnd0 := hnd
  obtain ⟨n1, n2⟩ := List.nodup_cons.1 hnd
  rw [List.nodup_append, List.nodup_append] at n2
  obtain ⟨d1, ⟨d2, d3, d4⟩, d5⟩ := n2
  have hmem : ∀ x, x ∈ (b :: (f1 ++ f2)) ++ fk ↔ x ∈ b :: (f1 ++ (fk ++ f2)) := fun x => by
    simp only [List.cons_append, List.mem_cons, List.mem_append]
    constructor
    · rintro (h | (h | h) | h)
      · exact .inl h
      · exact .inr (.inl h)
      · exact .inr (.inr (.inr h))
      · exact .inr (.inr (.inl h))
    · rintro (h | h | h | h)
      · exact .inl h
      · exact .inr (.inl (.inl h))
      · exact .inr (.inr h)
      · exact .inr (.inl (.inr h))
  have H1 := h.set hi (q := reord (Wk.mine [.slice ad n cap] xss (b :: (f1 ++ (fk ++ f2)))) ((b :: (f1 ++ f2)) ++ fk) hmem) Ext.refl (h.mine i hi)
    (by
      change ((b :: (f1 ++ f2)) ++ fk).Nodup
      refine List.nodup_append.2 ⟨List.nodup_cons.2 ⟨fun hm => n1 (by rcases List.mem_append.1 hm with hm | hm <;> simp [hm]), List.nodup_append.2 ⟨d1, d3, fun p hp q hq e => d5 p hp q (by simp [hq]) e⟩⟩, d2, fun p hp q hq e => ?_⟩
      subst e
      rcases List.mem_cons.1 hp with rfl | hp
      · exact n1 (by simp [hq])
      · rcases List.mem_append.1 hp with hp | hp
        · exact d5 p hp p (by simp [hq]) rfl
        · exact d4 p hq p hp rfl)
    (fun x hx => .inl ((hmem x).1 hx))
  have hsz1 : ((cur.toList.drop (o + k)).take 1).length = 1 := by
    have e : cur.toList.length = cur.size := by simp
    rw [List.length_take, List.length_drop]; omega
  obtain ⟨v, ev⟩ := List.length_eq_one_iff.1 hsz1
  have hx2 := hx
  rw [ev] at hx2
  obtain ⟨a, c, e3⟩ := own_slice hx2
  have ek : xss.getD k [] = xss[k] := by simp [List.getD, hk]
  have hcell : cur[o + k]? = some v := by
    have : (cur.toList.drop (o + k))[0]? = some v := by
      have : ((cur.toList.drop (o + k)).take 1)[0]? = some v := by rw [ev]; rfl
      simpa [List.getElem?_take] using this
    simpa using this
  rw [e3] at hx2
  have hil : i < Δ.length := (List.getElem?_eq_some_iff.1 hi).1
  refine ⟨b, o, cur, T, f1, f2, fk, a, c, e1, by omega, ?_, fun hm => n1 (by simp [hm]), ?_⟩
  · rw [Nat.mul_one, ek, ← (List.cons.inj e3).1]
    exact cell_at hb hcell
  · have H2 := H1.part i (r := reord (Wk.mine [.slice ad n cap] xss (b :: (f1 ++ (fk ++ f2)))) ((b :: (f1 ++ f2)) ++ fk) hmem) (by rw [List.getElem?_set_self hil]) [hole b o k cur T ad n cap xss f1 f2, Wk.mine [.slice a (xss.getD k []).length c] (xss.getD k []) fk] ?_ ?_
    · rw [List.set_set] at H2
      exact (H2.perm (set_swap hil)).sub ((List.Sublist.refl _).append (.cons _ (.refl _)))
    · refine all_cons ⟨hb, fun x hx => hlt x ((hmem x).1 (by simp only [List.mem_append]; exact .inl hx)), fun w' cur' x' fk' q1 q2 q3 q4 q5 q6 => hback w' cur' x' fk' q1 q2 (fun j hj => q3 j (by rw [hs1] at hj; omega)) q4 q5 (by rw [hs1, Nat.mul_one]; exact q6)⟩ (all_cons ?_ (by simp))
      rw [ek]; exact hx2
    · simp [blocks, hole, Wk.mine, reord]
theorem Sep.hook (h : Sep M w0 Δ F w) (i j : Nat) {b o k cur T ad n cap} {xss : List (List β)} {f1 f2 v fk} {x : List β} (hi : Δ[i]? = some (hole b o k cur T ad n cap xss f1 f2)) (hj : Δ[j]? = some (Wk.mine [v] x fk)) (hij : Nat.beq j i = false) (hk : o + k < cur.size) :
    Sep M w0 ((Δ.set j gone).set i (Wk.mine [.slice ad n cap] (xss.set k x) (b :: (f1 ++ (fk ++ f2))))) F (Wk.put w b (.cells (cur.setIfInBounds (o + k) v) T (0, 0))) := by
  have hne : j ≠ i := fun e => by subst e; simp at hij
  obtain ⟨hb, hlt, hback⟩ : (hole b o k cur T ad n cap xss f1 f2).φ w := h.rs _ (List.mem_of_getElem? hi)
  have hx := h.mine j hj
  have hnd := h.nodup1 hi
  change (b :: (f1 ++ f2)).Nodup at hnd
  have hnk := h.nodup1 hj
  change fk.Nodup at hnk
  have hap : ∀ x ∈ fk, x ∉ b :: (f1 ++ f2) := fun x hx hm => h.apart (i := i) (j := j) hi hj hij x hx hm
  obtain ⟨n1, n2⟩ := List.nodup_cons.1 hnd
  obtain ⟨d1, d2, d3⟩ := List.nodup_append.1 n2
  have hE : Ext (· = b) w (Wk.put w b (.cells (cur.setIfInBounds (o + k) v) T (0, 0))) := Ext.refl.put (.inl rfl)
  have hbk : b ∉ fk := fun hm => hap b hm (by simp)
  refine h.set2 hi hj hij (q := Wk.mine [.slice ad n cap] (xss.set k x) (b :: (f1 ++ (fk ++ f2)))) (hE.mono fun b' _ e => by subst e; simp [hole]) ?_ ?_ ?_
  · refine hback _ _ x fk (put_heap hb) (by simp) (fun j hj => Array.getElem?_setIfInBounds_ne (by omega)) (fun b' hb' => hE.block b' (hlt b' (by simp [hb'])) fun e => ?_) (fun b' hb' => hE.block b' (hlt b' (by simp [hb'])) fun e => ?_) ?_
    · subst e; exact n1 (by simp [hb'])
    · subst e; exact n1 (by simp [hb'])
    · have e : ((cur.setIfInBounds (o + k) v).toList.drop (o + k)).take 1 = [v] := by
        have := lay_part [v] cur (o + k) (by show o + k + 1 ≤ cur.size; omega)
        exact this
      rw [e]
      exact Rp.st hx fun b' hb' => hE.block b' (Rp.lt hx b' hb') fun e => by subst e; exact hbk hb'
  · change (b :: (f1 ++ (fk ++ f2))).Nodup
    refine List.nodup_cons.2 ⟨fun hm => ?_, List.nodup_append.2 ⟨d1, List.nodup_append.2 ⟨hnk, d2, fun p hp q hq e => ?_⟩, fun p hp q hq e => ?_⟩⟩
    · simp only [List.mem_append, not_or] at hm n1
      rcases hm with hm | hm | hm
      · exact n1.1 hm
      · exact hbk hm
      · exact n1.2 hm
    · subst e; exact hap p hp (by simp [hq])
    · subst e
      rcases List.mem_append.1 hq with hq | hq
      · exact hap p hq (by simp [hp])
      · exact d3 p hp p hq rfl
  · intro x hx
    change x ∈ b :: (f1 ++ (fk ++ f2)) at hx
    simp only [List.mem_cons, List.mem_append] at hx
    rcases hx with h | h | h | h
    · exact .inl (by simp [hole, h])
    · exact .inl (by simp [hole, h])
    · exact .inr (.inl h)
    · exact .inl (by simp [hole, h])
end
section
variable {P : Program} {n : Nat} {ops : Array Oper} {Q : Post} {L : Env} {w w0 : World} {M : Nat → Prop} {Δ F : List Rsc} {d : Tmp} {ty : TypeId} {p : String} {af : Array Edge} {g : Option (Nat × Bool)} {β : Type} [Rp β]
theorem s_hook {rest : List Oper} {t : TypeId} {x y : Operand} {b o k : Nat} {cur T} {ad : Option Addr} {len cap : Nat} {xss : List (List β)} {f1 f2 fk : List Nat} {v : Value} {z : List β} (hw : Wn ops n L ⟨none, .store t x y, ty, p, af, g⟩) (hs : ∀ w, (sizeOf t).run P w = .ok 1 w)
    (H : Sep M w0 Δ F w) (i j : Nat) (hi : Δ[i]? = some (hole b o k cur T ad len cap xss f1 f2)) (hj : Δ[j]? = some (mine [v] z fk)) (hij : Nat.beq j i = false) (hk : o + k < cur.size)
    (hx : evL L x = some (.pointer (some ⟨b, o + k * 1, none⟩))) (hy : evL L y = some v)
    (kk : ∀ w' fp', Sep M w0 ((Δ.set j gone).set i (mine [.slice ad len cap] (xss.set k z) fp')) F w' → RL P n ops Q rest L w') :
    RL P n ops Q (⟨none, .store t x y, ty, p, af, g⟩ :: rest) L w := by
  obtain ⟨hb, _, _⟩ : (hole b o k cur T ad len cap xss f1 f2).φ w := H.rs _ (List.mem_of_getElem? hi)
  rw [Nat.mul_one] at hx
  exact s_do hw rfl (pd_store hs hx hy (Rp.one (H.mine j hj) v (by simp)) hb hk) (kk _ _ (H.hook i j hi hj hij hk))
theorem d_hook {S : World → Prop} {l : Nat} {t : TypeId} {x y : Operand} {b o k : Nat} {cur T} {ad : Option Addr} {len cap : Nat} {xss : List (List β)} {f1 f2 fk : List Nat} {v : Value} {z : List β} (ho : ops.toList[l]? = some ⟨none, .store t x y, ty, p, af, g⟩) (hw : Wn ops n L ⟨none, .store t x y, ty, p, af, g⟩) (hs : ∀ w, (sizeOf t).run P w = .ok 1 w)
    (H : Sep M w0 Δ F w) (i j : Nat) (hi : Δ[i]? = some (hole b o k cur T ad len cap xss f1 f2)) (hj : Δ[j]? = some (mine [v] z fk)) (hij : Nat.beq j i = false) (hk : o + k < cur.size)
    (hx : evL L x = some (.pointer (some ⟨b, o + k * 1, none⟩))) (hy : evL L y = some v)
    (kk : ∀ w' fp', Sep M w0 ((Δ.set j gone).set i (mine [.slice ad len cap] (xss.set k z) fp')) F w' → DL P n ops Q S [] L w') :
    DL P n ops Q S [(l, false)] L w := by
  obtain ⟨hb, _, _⟩ : (hole b o k cur T ad len cap xss f1 f2).φ w := H.rs _ (List.mem_of_getElem? hi)
  rw [Nat.mul_one] at hx
  exact d_do ho hw rfl (pd_store hs hx hy (Rp.one (H.mine j hj) v (by simp)) hb hk) (fun _ hr => absurd rfl hr) (kk _ _ (H.hook i j hi hj hij hk))
end
def trF (g : Nat → List UInt8) (n j i : Nat) : Mat := (List.range n).map fun x => (List.range (if x < i then j + 1 else j)).map fun t => (g t).getD x 0
theorem trF_len {g n j i} : (trF g n j i).length = n := by simp [trF]
theorem trF_get {g n j i x} (h : x < n) : (trF g n j i).getD x [] = (List.range (if x < i then j + 1 else j)).map fun t => (g t).getD x 0 := by simp [trF, List.getD, h]
theorem trF_zero {g n} : trF g n 0 0 = List.replicate n [] := by
  refine List.ext_getElem (by simp [trF]) fun i h1 h2 => ?_
  simp [trF]
theorem trF_step {g n j i} (h : i < n) : (trF g n j i).set i ((trF g n j i).getD i [] ++ [(g j).getD i 0]) = trF g n j (i + 1) := by
  refine List.ext_getElem (by simp [trF]) fun x h1 h2 => ?_
  rw [List.getElem_set]
  simp only [trF, List.getElem_map, List.getElem_range]
  by_cases e : i = x
  · subst e
    have e := trF_get (g := g) (j := j) (i := i) h
    rw [if_neg (by omega)] at e
    rw [if_pos rfl, if_pos (by omega), List.range_succ, List.map_append]
    exact congrArg (· ++ _) e
  · rw [if_neg e]
    by_cases h3 : x < i
    · rw [if_pos h3, if_pos (by omega)]
    · rw [if_neg h3, if_neg (by omega)]
theorem trF_next {g n j} : trF g n j n = trF g n (j + 1) 0 := by
  refine List.ext_getElem (by simp [trF]) fun x h1 h2 => ?_
  have : x < n := by simpa [trF] using h1
  simp [trF, this]
theorem trF_rect {g n m} : Rect (trF g n m 0) n m := ⟨trF_len, fun i hi => by rw [trF_get hi]; simp⟩
def hv (n : Nat) (have_ : List Int) (base : Int) (t : Nat) : List UInt8 := genG n (have_.getD t 0) base
def betwM (n : Nat) (have_ : List Int) (base : Int) : Mat := trF (hv n have_ base) n n 0
def betw (n : Nat) (have_ : List Int) (want base : Int) : List UInt8 := solL (betwM n have_ base) (genG n want base)
theorem betwM_len {n h b} : (betwM n h b).length = n := trF_len
theorem betwM_rect {n h b} : Rect (betwM n h b) (betwM n h b).length (betwM n h b).length := by rw [betwM_len]; exact trF_rect
end Go.Wk
namespace Go.Wk
theorem wou {n : Nat} {ops : Array Oper} {L : Env} {o : Oper} {j t b} (h : o.guard = some (j, b)) (hd : dstOf ops j = some t) (hb : look L t = some undef) : Wo ops n L o := fun a hg => by
  have hy : yielded ops a.tmps j = none := by
    have h := hg.cov t _ hb
    have hd' : (ops[j]?).bind (·.dst) = some t := by simpa [dstOf] using hd
    simp only [yielded, hd', Option.bind_some]
    simp only [Array.getD_eq_getD_getElem?] at h
    cases ht : a.tmps[t]? with
    | none => rfl
    | some v => rw [ht] at h; simp at h; subst h; rfl
  simp [Region.wanted, h, hy]
def riseAt (xs : List Int) (m : Int) (i : Nat) : Bool := decide (0 ≤ xs.getD i 0) && decide (xs.getD i 0 ≤ m) && (decide (i = 0) || decide (xs.getD (i - 1) 0 < xs.getD i 0))
def rises (xs : List Int) (m : Int) : Bool := (List.range xs.length).all (riseAt xs m)
theorem rises_yes {xs m} (h : ∀ i, i < xs.length → riseAt xs m i = true) : rises xs m = true := by
  rw [rises, List.all_eq_true]
  exact fun i hi => h i (by simpa using hi)
theorem rises_no {xs m} (i : Nat) (hi : i < xs.length) (h : riseAt xs m i = false) : rises xs m = false := by
  cases hr : rises xs m with
  | false => rfl
  | true =>
    rw [rises, List.all_eq_true] at hr
    rw [hr i (by simpa using hi)] at h
    cases h
theorem rises_get {xs m} (h : rises xs m = true) (i : Nat) (hi : i < xs.length) : 0 ≤ xs.getD i 0 ∧ xs.getD i 0 ≤ m := by
  rw [rises, List.all_eq_true] at h
  have := h i (by simpa using hi)
  simp only [riseAt, Bool.and_eq_true, decide_eq_true_eq] at this
  exact this.1
end Go.Wk
namespace Go.Wk
open Go.Proofs Rp
set_option maxRecDepth 10000
theorem Tryz_impl_risesIn {w : World} {xs : List Int} {xsA : Option Addr} {xsC : Nat} {m : Int} (xsS : Sees w [.slice xsA xs.length xsC] xs) (hm : -1000 ≤ m ∧ m ≤ 1000000) : Ret Tryz.prog 241 #[.slice xsA xs.length xsC, .int .i64 m] w fun v w' => Ext No w w' ∧ (v = .bool (rises xs (m - 1))) := by
 have xsL := sees_len xsS
 unfold maxLen at xsL
 obtain ⟨xsF, xsO⟩ := xsS
 refine ret_Q (vs := [.slice xsA xs.length xsC, .int .i64 m]) Tryz.func241 rfl Tryz.ntmps241 rfl (fun Q hQ hN => ?_)
 have H0 := Sep.start (w := w) (F := [seen false [.slice xsA xs.length xsC] xs xsF]) (all_cons xsO (by simp))
 refine W_sr (sV rfl (py_assign rfl) (s_nil (W_seq (W_sr (sV rfl (py_move rfl) (sV rfl (py_len Tryz.underlying25 rfl) (sV rfl (py_move rfl) (s_nil (W_block (W_loop (γ := Nat) (fun k => [(0, .slice xsA xs.length xsC), (1, .int .i64 m), (7, .slice xsA xs.length xsC), (8, .int .i64 xs.length), (9, .int .i64 k)]) (fun k w' => Sep No w [] [seen false [.slice xsA xs.length xsC] xs xsF] w' ∧ k ≤ xs.length ∧ (∀ i, i < k → riseAt xs (m - 1) i = true)) (fun k => xs.length - k) 0 ⟨rfl, rfl, rfl, rfl, rfl, trivial⟩ ⟨H0, by omega, fun i hi => by omega⟩ (fun k w1 H1 => ?_)))))))))))
 obtain ⟨H1, hk, he⟩ := H1
 refine W_sr (sV rfl (py_lss rfl rfl) (s_nil (W_seq (W_ifd rfl (fun c1 => ?_) (fun c1 => ?_)))))
 ·refine W_skip (W_seq (W_block (W_seq ?_)))
  obtain ⟨eb1, eo1, ee1, ec1⟩ := elem_int (H1.seen 0 rfl) k (by omega)
  have eI1 := elem_i64 (H1.seen 0 rfl) k (by omega)
  refine W_reg (sV rfl (py_move rfl) (sV rfl (py_elz Tryz.underlying25 Tryz.sizeOf2 rfl rfl ee1 k (by omega) (by omega)) (sV rfl (py_load Tryz.underlying2 rfl rfl ec1) (sV rfl (py_assign rfl) (sV rfl (py_assign rfl) (s_nil (W_seq ?_)))))))
  obtain ⟨eb2, eo2, ee2, ec2⟩ := elem_int (H1.seen 0 rfl) (k - 1) (by omega)
  have eI2 := elem_i64 (H1.seen 0 rfl) (k - 1) (by omega)
  refine W_reg (sV rfl (py_move rfl) (sV rfl (py_move rfl) (sV rfl (py_sub rfl rfl (in64 ⟨by omega, by omega⟩)) (s_call (wn rfl) rfl rfl (pc_call Tryz.func154 rfl Tryz_nm154 rfl) Tryz_impl_inside (fun v1 w2 r1 => ?_)))))
  obtain ⟨e1, rfl⟩ := r1
  have H2 := H1.to e1
  refine sV rfl (py_not rfl) (sV rfl (py_move rfl) (s_grp 11 (j := 5) (want := false) (t := 30) rfl rfl rfl rfl (fun hg1 kk1 => s_val (wgE rfl rfl rfl hg1) rfl rfl (py_move rfl) (s_val (wgE rfl rfl rfl hg1) rfl rfl (py_gtr rfl rfl) (s_val (wgE rfl rfl rfl hg1) rfl rfl (py_move rfl) (s_grp 7 (j := 8) (want := true) (t := 29) rfl rfl rfl rfl (fun hg2 kk2 => s_val (wgE rfl rfl rfl hg2) rfl rfl (py_move rfl) (s_val (wgE rfl rfl rfl hg2) rfl rfl (py_move rfl) (s_val (wgE rfl rfl rfl hg2) rfl rfl (py_sub rfl rfl (in64 ⟨by omega, by omega⟩)) (s_val (wgE rfl rfl rfl hg2) rfl rfl (py_elz Tryz.underlying25 Tryz.sizeOf2 rfl rfl ee2 (k - 1) (by first | omega | (simp only [Bool.or_eq_false_iff, Bool.and_eq_true, Bool.and_eq_false_iff, Bool.or_eq_true, Bool.not_eq_true', Bool.not_eq_false', decide_eq_true_eq, decide_eq_false_iff_not] at hg1 hg2; omega)) (by omega)) (s_val (wgE rfl rfl rfl hg2) rfl rfl (py_load Tryz.underlying2 rfl rfl (e1.cell ec2)) (s_val (wgE rfl rfl rfl hg2) rfl rfl (py_move rfl) (s_val (wgE rfl rfl rfl hg2) rfl rfl (py_geq rfl rfl) (kk2 _ _ (kx rfl (kx rfl (kx rfl (kx rfl (kx rfl (kx rfl (kx rfl k0))))))) rfl Ext.refl)))))))) (fun w4 e3 => s_val (wgE rfl rfl rfl hg1) rfl rfl (py_band rfl rfl) (kk1 _ _ (kx rfl (kx rfl (kx rfl (kx rfl (kx rfl k0))))) rfl (Ext.refl.trans e3))))))) (fun w3 e2 => ?_)))
  have H4 := H2.to e2
  refine sV rfl (py_bor rfl rfl) (s_nil (W_if rfl (fun c2 => ?_) (fun c2 => ?_)))
  ·refine W_sr (sV rfl (py_assign rfl) (s_nil (W_ret (hQ _ _ (fin1 Tryz.results241 rfl (⟨H4.ext, ?_⟩))))))
   rw [rises_no k (by omega) (by
    simp [ins, -List.getD_eq_getElem?_getD] at c2
    simp [riseAt, -List.getD_eq_getElem?_getD]
    omega)]
  ·refine W_skip (W_reg (sV rfl (py_add rfl rfl (in64 ⟨by omega, by omega⟩)) (sV rfl (py_move rfl) (s_nil (⟨k + 1, ⟨rfl, rfl, rfl, rfl, rfl, trivial⟩, ⟨H4, by omega, fun i hi => ?_⟩, by dsimp only; omega⟩)))))
   by_cases e : i = k
   ·subst e
    simp [ins, -List.getD_eq_getElem?_getD] at c2
    simp [riseAt, -List.getD_eq_getElem?_getD]
    omega
   ·exact he i (by omega)
 ·refine W_exit (W_sr (sV rfl (py_assign rfl) (s_nil (W_ret (hQ _ _ (fin1 Tryz.results241 rfl ?_))))))
  exact ⟨H1.ext, by rw [rises_yes (fun i hi => he i (by omega))]⟩
theorem Tryz_spec_l2Rise {w : World} {xs : List Int} {xsA : Option Addr} {xsC : Nat} {m : Int} (xsS : Sees w [.slice xsA xs.length xsC] xs) (hm : -1000 ≤ m ∧ m ≤ 1000000) : Ret Tryz.prog 178 #[.slice xsA xs.length xsC, .int .i64 m] w fun v w' => Ext No w w' ∧ (v = .bool (rises xs m)) := by
 have xsL := sees_len xsS
 unfold maxLen at xsL
 obtain ⟨xsF, xsO⟩ := xsS
 refine ret_Q (vs := [.slice xsA xs.length xsC, .int .i64 m]) Tryz.func178 rfl Tryz.ntmps178 rfl (fun Q hQ hN => ?_)
 have H0 := Sep.start (w := w) (F := [seen false [.slice xsA xs.length xsC] xs xsF]) (all_cons xsO (by simp))
 refine W_sr (sV rfl (py_assign rfl) (s_nil (W_seq (W_sr (sV rfl (py_assign rfl) (s_nil (W_block (W_loop (γ := Nat) (fun k => [(0, .slice xsA xs.length xsC), (1, .int .i64 m), (5, .int .i64 k)]) (fun k w' => Sep No w [] [seen false [.slice xsA xs.length xsC] xs xsF] w' ∧ k ≤ xs.length ∧ (∀ i, i < k → riseAt xs m i = true)) (fun k => xs.length - k) 0 ⟨rfl, rfl, rfl, trivial⟩ ⟨H0, by omega, fun i hi => by omega⟩ (fun k w1 H1 => ?_)))))))))
 obtain ⟨H1, hk, he⟩ := H1
 refine W_seq (W_sr (sV rfl (py_move rfl) (sV rfl (py_move rfl) (sV rfl (py_len Tryz.underlying25 rfl) (sV rfl (py_lss rfl rfl) (s_nil (W_ifd rfl (fun c1 => ?_) (fun c1 => ?_))))))))
 ·refine W_skip (W_seq (W_block (W_seq ?_)))
  obtain ⟨eb1, eo1, ee1, ec1⟩ := elem_int (H1.seen 0 rfl) k (by omega)
  have eI1 := elem_i64 (H1.seen 0 rfl) k (by omega)
  refine W_drw (S := Ext No _) [(0, true), (1, true), (2, true), (3, true), (4, true), (5, true), (6, true), (7, true), (8, true), (9, true), (10, true), (11, true), (12, true), (13, true), (14, true), (15, true), (16, true), (17, true), (18, true), (19, true), (20, true), (21, true), (22, true), (23, true), (24, true), (25, true), (26, true), (27, true), (28, false)] (by kernel_rfl) (by kernel_rfl) (by kernel_rfl) rfl (fun _ => Ext.refl.drawn _) (fun q1 => ?_)
  have H2 := H1.drawn q1
  refine dV rfl rfl (fun zw hx => py_move rfl) (dV rfl rfl (fun zw hx => py_move rfl) (dV rfl rfl (fun zw hx => py_elz Tryz.underlying25 Tryz.sizeOf2 rfl rfl ee1 k (by omega) (by omega)) (dV rfl rfl (fun zw hx => py_load Tryz.underlying2 rfl rfl (hx.cell ec1)) (dV rfl rfl (fun zw hx => py_lss rfl rfl) (dV rfl rfl (fun zw hx => py_move rfl) (d_case (t := 17) rfl (fun hg1 => ?_) (fun hg1 => ?_)))))))
  ·try simp only [decide_eq_true_eq, decide_eq_false_iff_not] at hg1
   refine d_skip rfl (wog (b := true) rfl rfl rfl) rfl rfl (d_skip rfl (wog (b := true) rfl rfl rfl) rfl rfl (d_skip rfl (wog (b := true) rfl rfl rfl) rfl rfl (d_skip rfl (wog (b := true) rfl rfl rfl) rfl rfl (d_skip rfl (wog (b := true) rfl rfl rfl) rfl rfl (d_skip rfl (wog (b := true) rfl rfl rfl) rfl rfl (dV rfl rfl (fun zw hx => py_pickT rfl rfl) (dV rfl rfl (fun zw hx => py_move rfl) (d_skip rfl (wog (b := true) rfl rfl rfl) rfl rfl (d_skip rfl (wog (b := true) rfl rfl rfl) rfl rfl (d_skip rfl (wog (b := true) rfl rfl rfl) rfl rfl (d_skip rfl (wou rfl rfl rfl) rfl rfl (d_skip rfl (wou rfl rfl rfl) rfl rfl (d_skip rfl (wou rfl rfl rfl) rfl rfl (d_skip rfl (wou rfl rfl rfl) rfl rfl (d_skip rfl (wou rfl rfl rfl) rfl rfl (d_skip rfl (wou rfl rfl rfl) rfl rfl (d_skip rfl (wou rfl rfl rfl) rfl rfl (d_skip rfl (wou rfl rfl rfl) rfl rfl (d_skip rfl (wou rfl rfl rfl) rfl rfl (d_skip rfl (wou rfl rfl rfl) rfl rfl (d_skip rfl (wog (b := true) rfl rfl rfl) rfl rfl (d_end rfl (wn rfl) rfl rfl (py_pickT rfl rfl) (d_nil (W_ift rfl (W_sr (sV rfl (py_assign rfl) (s_nil (W_ret (hQ _ _ (fin1 Tryz.results178 rfl (⟨H2.ext, ?_⟩)))))))))))))))))))))))))))))))
   rw [rises_no k (by omega) (by
    simp [riseAt, -List.getD_eq_getElem?_getD]
    omega)]
  ·try simp only [decide_eq_true_eq, decide_eq_false_iff_not] at hg1
   refine d_val rfl (wg rfl rfl rfl) rfl rfl (fun zw hx => py_move rfl) (d_val rfl (wg rfl rfl rfl) rfl rfl (fun zw hx => py_move rfl) (d_val rfl (wg rfl rfl rfl) rfl rfl (fun zw hx => py_elz Tryz.underlying25 Tryz.sizeOf2 rfl rfl ee1 k (by omega) (by omega)) (d_val rfl (wg rfl rfl rfl) rfl rfl (fun zw hx => py_load Tryz.underlying2 rfl rfl (hx.cell ec1)) (d_val rfl (wg rfl rfl rfl) rfl rfl (fun zw hx => py_move rfl) (d_val rfl (wg rfl rfl rfl) rfl rfl (fun zw hx => py_gtr rfl rfl) (dV rfl rfl (fun zw hx => py_pickF rfl rfl) (dV rfl rfl (fun zw hx => py_move rfl) (d_case (t := 25) rfl (fun hg2 => ?_) (fun hg2 => ?_)))))))))
   ·try simp only [decide_eq_true_eq, decide_eq_false_iff_not] at hg2
    refine d_skip rfl (wog (b := true) rfl rfl rfl) rfl rfl (d_skip rfl (wog (b := true) rfl rfl rfl) rfl rfl (d_skip rfl (wog (b := true) rfl rfl rfl) rfl rfl (d_skip rfl (wou rfl rfl rfl) rfl rfl (d_skip rfl (wou rfl rfl rfl) rfl rfl (d_skip rfl (wou rfl rfl rfl) rfl rfl (d_skip rfl (wou rfl rfl rfl) rfl rfl (d_skip rfl (wou rfl rfl rfl) rfl rfl (d_skip rfl (wou rfl rfl rfl) rfl rfl (d_skip rfl (wou rfl rfl rfl) rfl rfl (d_skip rfl (wou rfl rfl rfl) rfl rfl (d_skip rfl (wou rfl rfl rfl) rfl rfl (d_skip rfl (wou rfl rfl rfl) rfl rfl (d_skip rfl (wog (b := true) rfl rfl rfl) rfl rfl (d_end rfl (wn rfl) rfl rfl (py_pickT rfl rfl) (d_nil (W_ift rfl (W_sr (sV rfl (py_assign rfl) (s_nil (W_ret (hQ _ _ (fin1 Tryz.results178 rfl (⟨H2.ext, ?_⟩)))))))))))))))))))))))
    rw [rises_no k (by omega) (by
     simp [riseAt, -List.getD_eq_getElem?_getD]
     omega)]
   ·try simp only [decide_eq_true_eq, decide_eq_false_iff_not] at hg2
    refine d_val rfl (wg rfl rfl rfl) rfl rfl (fun zw hx => py_move rfl) (d_val rfl (wg rfl rfl rfl) rfl rfl (fun zw hx => py_gtr rfl rfl) (d_val rfl (wg rfl rfl rfl) rfl rfl (fun zw hx => py_move rfl) (d_case (t := 28) rfl (fun hg3 => ?_) (fun hg3 => ?_))))
    ·try simp only [decide_eq_true_eq, decide_eq_false_iff_not] at hg3
     refine d_val rfl (wg rfl rfl rfl) rfl rfl (fun zw hx => py_move rfl) (d_val rfl (wg rfl rfl rfl) rfl rfl (fun zw hx => py_move rfl) (d_val rfl (wg rfl rfl rfl) rfl rfl (fun zw hx => py_elz Tryz.underlying25 Tryz.sizeOf2 rfl rfl ee1 k (by omega) (by omega)) (d_val rfl (wg rfl rfl rfl) rfl rfl (fun zw hx => py_load Tryz.underlying2 rfl rfl (hx.cell ec1)) (d_val rfl (wg rfl rfl rfl) rfl rfl (fun zw hx => py_move rfl) (d_val rfl (wg rfl rfl rfl) rfl rfl (fun zw hx => py_move rfl) (d_val rfl (wg rfl rfl rfl) rfl rfl (fun zw hx => py_sub rfl rfl (in64 ⟨by omega, by omega⟩)) ?_))))))
     obtain ⟨eb2, eo2, ee2, ec2⟩ := elem_int (H2.seen 0 rfl) (k - 1) (by omega)
     have eI2 := elem_i64 (H2.seen 0 rfl) (k - 1) (by omega)
     refine d_val rfl (wg rfl rfl rfl) rfl rfl (fun zw hx => py_elz Tryz.underlying25 Tryz.sizeOf2 rfl rfl ee2 (k - 1) (by omega) (by omega)) (d_val rfl (wg rfl rfl rfl) rfl rfl (fun zw hx => py_load Tryz.underlying2 rfl rfl (hx.cell ec2)) (d_val rfl (wg rfl rfl rfl) rfl rfl (fun zw hx => py_leq rfl rfl) (d_val rfl (wg rfl rfl rfl) rfl rfl (fun zw hx => py_pickT rfl rfl) (d_end rfl (wn rfl) rfl rfl (py_pickF rfl rfl) (d_nil (W_ifd rfl (fun c2 => ?_) (fun c2 => ?_)))))))
     ·refine W_sr (sV rfl (py_assign rfl) (s_nil (W_ret (hQ _ _ (fin1 Tryz.results178 rfl (⟨H2.ext, ?_⟩))))))
      rw [rises_no k (by omega) (by
       simp [riseAt, -List.getD_eq_getElem?_getD]
       omega)]
     ·refine W_skip (W_reg (sV rfl (py_move rfl) (sV rfl (py_add rfl rfl (in64 ⟨by omega, by omega⟩)) (sV rfl (py_assign rfl) (s_nil (⟨k + 1, ⟨rfl, rfl, rfl, trivial⟩, ⟨H2, by omega, fun i hi => ?_⟩, by dsimp only; omega⟩))))))
      by_cases e : i = k
      ·subst e
       simp [riseAt, -List.getD_eq_getElem?_getD]
       omega
      ·exact he i (by omega)
    ·try simp only [decide_eq_true_eq, decide_eq_false_iff_not] at hg3
     refine d_skip rfl (wog (b := false) rfl rfl rfl) rfl rfl (d_skip rfl (wog (b := false) rfl rfl rfl) rfl rfl (d_skip rfl (wog (b := false) rfl rfl rfl) rfl rfl (d_skip rfl (wog (b := false) rfl rfl rfl) rfl rfl (d_skip rfl (wog (b := false) rfl rfl rfl) rfl rfl (d_skip rfl (wog (b := false) rfl rfl rfl) rfl rfl (d_skip rfl (wog (b := false) rfl rfl rfl) rfl rfl (d_skip rfl (wog (b := false) rfl rfl rfl) rfl rfl (d_skip rfl (wog (b := false) rfl rfl rfl) rfl rfl (d_skip rfl (wog (b := false) rfl rfl rfl) rfl rfl (d_val rfl (wg rfl rfl rfl) rfl rfl (fun zw hx => py_pickF rfl rfl) (d_end rfl (wn rfl) rfl rfl (py_pickF rfl rfl) (d_nil (W_iff rfl (W_skip (W_reg (sV rfl (py_move rfl) (sV rfl (py_add rfl rfl (in64 ⟨by omega, by omega⟩)) (sV rfl (py_assign rfl) (s_nil (⟨k + 1, ⟨rfl, rfl, rfl, trivial⟩, ⟨H2, by omega, fun i hi => ?_⟩, by dsimp only; omega⟩))))))))))))))))))))
     by_cases e : i = k
     ·subst e
      simp [riseAt, -List.getD_eq_getElem?_getD]
      omega
     ·exact he i (by omega)
 ·refine W_exit (W_sr (sV rfl (py_assign rfl) (s_nil (W_ret (hQ _ _ (fin1 Tryz.results178 rfl ?_))))))
  exact ⟨H1.ext, by rw [rises_yes (fun i hi => he i (by omega))]⟩
end Go.Wk
namespace Go.Wk
open Go.Proofs Rp
set_option maxRecDepth 10000
theorem Tryz_spec_NameFault {w : World} {b : ByteArray} (hb : b.size ≤ maxLen) : Ret Tryz.prog 175 #[.string b] w fun v w' => Ext No w w' ∧ (v = .int .i64 (nameFault b)) := by
 unfold maxLen at hb
 refine ret_Q (vs := [.string b]) Tryz.func175 rfl Tryz.ntmps175 rfl (fun Q hQ hN => ?_)
 have H0 := Sep.start (w := w) (F := []) (by simp)
 refine W_sr (sV rfl (py_assign rfl) (s_nil (W_seq (W_sr (sV rfl (py_move rfl) (sV rfl (py_slen Tryz.underlying9 rfl) (sV rfl (py_lss rfl rfl) (sV rfl (py_move rfl) (s_grp 3 (j := 3) (want := false) (t := 10) rfl rfl rfl rfl (fun hg1 kk1 => s_val (wgE rfl rfl rfl hg1) rfl rfl (py_move rfl) (s_val (wgE rfl rfl rfl hg1) rfl rfl (py_slen Tryz.underlying9 rfl) (s_val (wgE rfl rfl rfl hg1) rfl rfl (py_gtr rfl rfl) (kk1 _ _ (kx rfl (kx rfl (kx rfl k0))) rfl Ext.refl)))) (fun w1 e1 => ?_))))))))))
 have H1 := H0.to e1
 refine sV rfl (py_bor rfl rfl) (sV rfl (py_move rfl) (s_grp 3 (j := 8) (want := false) (t := 15) rfl rfl rfl rfl (fun hg2 kk2 => s_val (wgE rfl rfl rfl hg2) rfl rfl (py_move rfl) (s_val (wgE rfl rfl rfl hg2) rfl rfl (py_sidxz Tryz.underlying9 rfl rfl 0 (by omega) (by first | omega | (simp only [Bool.or_eq_false_iff, Bool.and_eq_true, Bool.and_eq_false_iff, Bool.or_eq_true, Bool.not_eq_true', Bool.not_eq_false', decide_eq_true_eq, decide_eq_false_iff_not] at hg2; omega))) (s_val (wgE rfl rfl rfl hg2) rfl rfl (py_lss rfl rfl) (kk2 _ _ (kx rfl (kx rfl (kx rfl k0))) rfl Ext.refl)))) (fun w2 e2 => ?_)))
 have H2 := H1.to e2
 refine sV rfl (py_bor rfl rfl) (sV rfl (py_move rfl) (s_grp 3 (j := 13) (want := false) (t := 20) rfl rfl rfl rfl (fun hg3 kk3 => s_val (wgE rfl rfl rfl hg3) rfl rfl (py_move rfl) (s_val (wgE rfl rfl rfl hg3) rfl rfl (py_sidxz Tryz.underlying9 rfl rfl 0 (by omega) (by first | omega | (simp only [Bool.or_eq_false_iff, Bool.and_eq_true, Bool.and_eq_false_iff, Bool.or_eq_true, Bool.not_eq_true', Bool.not_eq_false', decide_eq_true_eq, decide_eq_false_iff_not] at hg3; omega))) (s_val (wgE rfl rfl rfl hg3) rfl rfl (py_gtr rfl rfl) (kk3 _ _ (kx rfl (kx rfl (kx rfl k0))) rfl Ext.refl)))) (fun w3 e3 => ?_)))
 have H3 := H2.to e3
 refine sV rfl (py_bor rfl rfl) (s_nil (W_if rfl (fun c1 => ?_) (fun c1 => ?_)))
 ·refine W_sr (sV rfl (py_assign rfl) (s_nil (W_ret (hQ _ _ (fin1 Tryz.results175 rfl (⟨H3.ext, name_no ?_⟩))))))
  by_cases hs : 1 ≤ b.size ∧ b.size ≤ 8
  ·refine nameOK_bad 0 (by omega) ?_
   simp only [okCh, Bool.or_eq_true, Bool.or_eq_false_iff, Bool.and_eq_true, Bool.and_eq_false_iff, decide_eq_true_eq, decide_eq_false_iff_not] at c1 ⊢
   simp
   omega
  ·simp [nameOK]; omega
 ·refine W_skip (W_seq (W_sr (sV rfl (py_assign rfl) (s_nil (W_block ?_)))))
  simp only [Bool.or_eq_true, Bool.or_eq_false_iff, Bool.and_eq_true, Bool.and_eq_false_iff, decide_eq_true_eq, decide_eq_false_iff_not] at c1
  refine W_loop (γ := Nat) (fun k => [(0, .string b), (3, .int .i64 k)]) (fun k w' => Sep No w [] [] w' ∧ k ≤ b.size ∧ okTo b k = true) (fun k => b.size - k) 0 ⟨rfl, rfl, trivial⟩ ⟨H3, by omega, rfl⟩ (fun k w4 H4 => ?_)
  obtain ⟨H4, hk, hok⟩ := H4
  refine W_seq (W_sr (sV rfl (py_move rfl) (sV rfl (py_move rfl) (sV rfl (py_slen Tryz.underlying9 rfl) (sV rfl (py_lss rfl rfl) (s_nil (W_ifd rfl (fun c2 => ?_) (fun c2 => ?_))))))))
  ·refine W_skip (W_seq (W_block (W_sr (sV rfl (py_move rfl) (sV rfl (py_move rfl) (sV rfl (py_sidxz Tryz.underlying9 rfl rfl k (by omega) (by omega)) (sV rfl (py_lss rfl rfl) (sV rfl (py_move rfl) (s_grp 4 (j := 4) (want := false) (t := 36) rfl rfl rfl rfl (fun hg4 kk4 => s_val (wgE rfl rfl rfl hg4) rfl rfl (py_move rfl) (s_val (wgE rfl rfl rfl hg4) rfl rfl (py_move rfl) (s_val (wgE rfl rfl rfl hg4) rfl rfl (py_sidxz Tryz.underlying9 rfl rfl k (by omega) (by first | omega | (simp only [Bool.or_eq_false_iff, Bool.and_eq_true, Bool.and_eq_false_iff, Bool.or_eq_true, Bool.not_eq_true', Bool.not_eq_false', decide_eq_true_eq, decide_eq_false_iff_not] at hg4; omega))) (s_val (wgE rfl rfl rfl hg4) rfl rfl (py_gtr rfl rfl) (kk4 _ _ (kx rfl (kx rfl (kx rfl (kx rfl k0)))) rfl Ext.refl))))) (fun w5 e4 => ?_))))))))))
   have H5 := H4.to e4
   refine sV rfl (py_bor rfl rfl) (sV rfl (py_move rfl) (s_grp 10 (j := 10) (want := true) (t := 48) rfl rfl rfl rfl (fun hg5 kk5 => s_val (wgE rfl rfl rfl hg5) rfl rfl (py_move rfl) (s_val (wgE rfl rfl rfl hg5) rfl rfl (py_move rfl) (s_val (wgE rfl rfl rfl hg5) rfl rfl (py_sidxz Tryz.underlying9 rfl rfl k (by omega) (by first | omega | (simp only [Bool.or_eq_false_iff, Bool.and_eq_true, Bool.and_eq_false_iff, Bool.or_eq_true, Bool.not_eq_true', Bool.not_eq_false', decide_eq_true_eq, decide_eq_false_iff_not] at hg5; omega))) (s_val (wgE rfl rfl rfl hg5) rfl rfl (py_lss rfl rfl) (s_val (wgE rfl rfl rfl hg5) rfl rfl (py_move rfl) (s_grp 4 (j := 15) (want := false) (t := 47) rfl rfl rfl rfl (fun hg6 kk6 => s_val (wgE rfl rfl rfl hg6) rfl rfl (py_move rfl) (s_val (wgE rfl rfl rfl hg6) rfl rfl (py_move rfl) (s_val (wgE rfl rfl rfl hg6) rfl rfl (py_sidxz Tryz.underlying9 rfl rfl k (by omega) (by first | omega | (simp only [Bool.or_eq_false_iff, Bool.and_eq_true, Bool.and_eq_false_iff, Bool.or_eq_true, Bool.not_eq_true', Bool.not_eq_false', decide_eq_true_eq, decide_eq_false_iff_not] at hg5 hg6; omega))) (s_val (wgE rfl rfl rfl hg6) rfl rfl (py_gtr rfl rfl) (kk6 _ _ (kx rfl (kx rfl (kx rfl (kx rfl k0)))) rfl Ext.refl))))) (fun w7 e6 => s_val (wgE rfl rfl rfl hg5) rfl rfl (py_bor rfl rfl) (kk5 _ _ (kx rfl (kx rfl (kx rfl (kx rfl (kx rfl (kx rfl (kx rfl k0))))))) rfl (Ext.refl.trans e6))))))))) (fun w6 e5 => ?_)))
   have H7 := H5.to e5
   refine sV rfl (py_band rfl rfl) (s_nil (W_if rfl (fun c3 => ?_) (fun c3 => ?_)))
   ·refine W_sr (sV rfl (py_assign rfl) (s_nil (W_ret (hQ _ _ (fin1 Tryz.results175 rfl (⟨H7.ext, name_no (nameOK_bad k (by omega) ?_)⟩))))))
    simp only [okCh, Bool.or_eq_true, Bool.or_eq_false_iff, Bool.and_eq_true, Bool.and_eq_false_iff, decide_eq_true_eq, decide_eq_false_iff_not] at c3 ⊢
    omega
   ·refine W_skip (W_reg (sV rfl (py_move rfl) (sV rfl (py_add rfl rfl (in64 ⟨by omega, by omega⟩)) (sV rfl (py_assign rfl) (s_nil (⟨k + 1, ⟨rfl, rfl, trivial⟩, ⟨H7, by omega, ?_⟩, by dsimp only; omega⟩))))))
    rw [okTo, hok, Bool.true_and]
    simp only [okCh, Bool.or_eq_true, Bool.or_eq_false_iff, Bool.and_eq_true, Bool.and_eq_false_iff, decide_eq_true_eq, decide_eq_false_iff_not] at c3 ⊢
    simp only [Bool.not_eq_true', decide_eq_false_iff_not]
    by_cases h0 : k = 0
    ·subst h0; omega
    ·omega
  ·refine W_exit (W_sr (sV rfl (py_assign rfl) (s_nil (W_ret (hQ _ _ (fin1 Tryz.results175 rfl (⟨H4.ext, name_yes ?_⟩)))))))
   obtain rfl : k = b.size := by omega
   simp only [nameOK, hok, Bool.and_true, Bool.or_eq_true, Bool.or_eq_false_iff, Bool.and_eq_true, Bool.and_eq_false_iff, decide_eq_true_eq, decide_eq_false_iff_not]
   omega
theorem Tryz_impl_NameFault {w : World} {b : ByteArray} (hb : b.size ≤ maxLen) : Ret Tryz.prog 239 #[.string b] w fun v w' => Ext No w w' ∧ (v = .int .i64 (nameFault b)) := by
 unfold maxLen at hb
 refine ret_Q (vs := [.string b]) Tryz.func239 rfl Tryz.ntmps239 rfl (fun Q hQ hN => ?_)
 have H0 := Sep.start (w := w) (F := []) (by simp)
 refine W_sr (sV rfl (py_assign rfl) (s_nil (W_seq (W_sr (sV rfl (py_move rfl) (sV rfl (py_slen Tryz.underlying9 rfl) (sV rfl (py_move rfl) (s_nil (W_block (W_loop (γ := Nat) (fun k => [(0, .string b), (6, .int .i64 b.size), (7, .int .i64 k)]) (fun k w' => Sep No w [] [] w' ∧ k ≤ b.size ∧ okTo b k = true) (fun k => b.size - k) 0 ⟨rfl, rfl, rfl, trivial⟩ ⟨H0, by omega, rfl⟩ (fun k w1 H1 => ?_)))))))))))
 obtain ⟨H1, hk, hok⟩ := H1
 refine W_sr (sV rfl (py_lss rfl rfl) (s_nil (W_seq (W_ifd rfl (fun c1 => ?_) (fun c1 => ?_)))))
 ·refine W_skip (W_seq (W_block (W_sr (sV rfl (py_move rfl) (sV rfl (py_assign rfl) (s_nil (W_sr (sV rfl (py_move rfl) (sV rfl (py_move rfl) (sV rfl (py_sidxz Tryz.underlying9 rfl rfl k (by omega) (by omega)) (sV rfl (py_geq rfl rfl) (sV rfl (py_move rfl) (s_grp 4 (j := 4) (want := true) (t := 18) rfl rfl rfl rfl (fun hg1 kk1 => s_val (wgE rfl rfl rfl hg1) rfl rfl (py_move rfl) (s_val (wgE rfl rfl rfl hg1) rfl rfl (py_move rfl) (s_val (wgE rfl rfl rfl hg1) rfl rfl (py_sidxz Tryz.underlying9 rfl rfl k (by omega) (by first | omega | (simp only [Bool.or_eq_false_iff, Bool.and_eq_true, Bool.and_eq_false_iff, Bool.or_eq_true, Bool.not_eq_true', Bool.not_eq_false', decide_eq_true_eq, decide_eq_false_iff_not] at hg1; omega))) (s_val (wgE rfl rfl rfl hg1) rfl rfl (py_leq rfl rfl) (kk1 _ _ (kx rfl (kx rfl (kx rfl (kx rfl k0)))) rfl Ext.refl))))) (fun w2 e1 => ?_))))))))))))))
  have H2 := H1.to e1
  refine sV rfl (py_band rfl rfl) (sV rfl (py_assign rfl) (s_nil (W_sr (sV rfl (py_move rfl) (sV rfl (py_not rfl) (sV rfl (py_move rfl) (s_grp 14 (j := 2) (want := true) (t := 36) rfl rfl rfl rfl (fun hg2 kk2 => s_val (wgE rfl rfl rfl hg2) rfl rfl (py_move rfl) (s_val (wgE rfl rfl rfl hg2) rfl rfl (py_eql rfl rfl) (s_val (wgE rfl rfl rfl hg2) rfl rfl (py_move rfl) (s_grp 4 (j := 5) (want := false) (t := 29) rfl rfl rfl rfl (fun hg3 kk3 => s_val (wgE rfl rfl rfl hg3) rfl rfl (py_move rfl) (s_val (wgE rfl rfl rfl hg3) rfl rfl (py_move rfl) (s_val (wgE rfl rfl rfl hg3) rfl rfl (py_sidxz Tryz.underlying9 rfl rfl k (by omega) (by first | omega | (simp only [Bool.or_eq_false_iff, Bool.and_eq_true, Bool.and_eq_false_iff, Bool.or_eq_true, Bool.not_eq_true', Bool.not_eq_false', decide_eq_true_eq, decide_eq_false_iff_not] at hg2 hg3; omega))) (s_val (wgE rfl rfl rfl hg3) rfl rfl (py_lss rfl rfl) (kk3 _ _ (kx rfl (kx rfl (kx rfl (kx rfl k0)))) rfl Ext.refl))))) (fun w4 e3 => s_val (wgE rfl rfl rfl hg2) rfl rfl (py_bor rfl rfl) (s_val (wgE rfl rfl rfl hg2) rfl rfl (py_move rfl) (s_grp 4 (j := 11) (want := false) (t := 35) rfl rfl rfl rfl (fun hg4 kk4 => s_val (wgE rfl rfl rfl hg4) rfl rfl (py_move rfl) (s_val (wgE rfl rfl rfl hg4) rfl rfl (py_move rfl) (s_val (wgE rfl rfl rfl hg4) rfl rfl (py_sidxz Tryz.underlying9 rfl rfl k (by omega) (by first | omega | (simp only [Bool.or_eq_false_iff, Bool.and_eq_true, Bool.and_eq_false_iff, Bool.or_eq_true, Bool.not_eq_true', Bool.not_eq_false', decide_eq_true_eq, decide_eq_false_iff_not] at hg2 hg4; omega))) (s_val (wgE rfl rfl rfl hg4) rfl rfl (py_gtr rfl rfl) (kk4 _ _ (kx rfl (kx rfl (kx rfl (kx rfl k0)))) rfl Ext.refl))))) (fun w5 e4 => s_val (wgE rfl rfl rfl hg2) rfl rfl (py_bor rfl rfl) (kk2 _ _ (kx rfl (kx rfl (kx rfl (kx rfl (kx rfl (kx rfl (kx rfl (kx rfl k0)))))))) rfl ((Ext.refl.trans e3).trans e4)))))))))) (fun w3 e2 => ?_))))))))
  have H5 := H2.to e2
  refine sV rfl (py_band rfl rfl) (s_nil (W_if rfl (fun c2 => ?_) (fun c2 => ?_)))
  ·refine W_sr (sV rfl (py_assign rfl) (s_nil (W_ret (hQ _ _ (fin1 Tryz.results239 rfl (⟨H5.ext, name_no (nameOK_bad k (by omega) ?_)⟩))))))
   simp only [okCh, Bool.or_eq_true, Bool.or_eq_false_iff, Bool.and_eq_true, Bool.and_eq_false_iff, decide_eq_true_eq, decide_eq_false_iff_not, Bool.not_eq_true', Bool.not_eq_false'] at c2 ⊢
   omega
  ·refine W_skip (W_reg (sV rfl (py_add rfl rfl (in64 ⟨by omega, by omega⟩)) (sV rfl (py_move rfl) (s_nil (⟨k + 1, ⟨rfl, rfl, rfl, trivial⟩, ⟨H5, by omega, ?_⟩, by dsimp only; omega⟩)))))
   rw [okTo, hok, Bool.true_and]
   simp only [okCh, Bool.or_eq_true, Bool.or_eq_false_iff, Bool.and_eq_true, Bool.and_eq_false_iff, decide_eq_true_eq, decide_eq_false_iff_not, Bool.not_eq_true', Bool.not_eq_false'] at c2 ⊢
   omega
 ·refine W_exit (W_seq (W_sr (sV rfl (py_move rfl) (sV rfl (py_slen Tryz.underlying9 rfl) (s_call (wn rfl) rfl rfl (pc_call Tryz.func154 rfl Tryz_nm154 rfl) Tryz_impl_inside (fun v1 w6 r1 => ?_))))))
  obtain ⟨e5, rfl⟩ := r1
  have H6 := H1.to e5
  refine sV rfl (py_not rfl) (s_nil (W_if rfl (fun c3 => ?_) (fun c3 => ?_)))
  ·refine W_sr (sV rfl (py_assign rfl) (s_nil (W_ret (hQ _ _ (fin1 Tryz.results239 rfl (⟨H6.ext, name_no ?_⟩))))))
   have c4 := not_true c3
   rw [ins_no] at c4
   simp [nameOK]
   omega
  ·refine W_skip (W_sr (sV rfl (py_assign rfl) (s_nil (W_ret (hQ _ _ (fin1 Tryz.results239 rfl (⟨H6.ext, name_yes ?_⟩)))))))
   have c4 := not_false c3
   rw [ins_iff] at c4
   obtain rfl : k = b.size := by omega
   simp only [nameOK, hok, Bool.and_true, Bool.or_eq_true, Bool.or_eq_false_iff, Bool.and_eq_true, Bool.and_eq_false_iff, decide_eq_true_eq, decide_eq_false_iff_not]
   omega
theorem Tryz_spec_l5All {w : World} {s : Shape} (hs : s.ok = true) : Ret Tryz.prog 83 #[s.v] w fun v w' => Ext No w w' ∧ (v = .int .i64 (s.Groups + s.Column)) := by
 have sbd := shape_bd hs
 refine ret_Q (vs := [s.v]) Tryz.func83 rfl Tryz.ntmps83 rfl (fun Q hQ hN => ?_)
 have H0 := Sep.start (w := w) (F := []) (by simp)
 refine W_sr (s_box (wn rfl) rfl rfl H0 (fun b1 w1 e1 g1 H1 => ?_))
 refine sV rfl (py_assign rfl) (s_nil (W_sr (sV rfl (py_field Tryz.underlying33 rfl Tryz.sizeOf2 rfl rfl) (sV rfl (py_load Tryz.underlying2 rfl rfl (cell_atL (H1.box 0 rfl) rfl)) (sV rfl (py_field Tryz.underlying33 rfl Tryz.sizeOf2 rfl rfl) (sV rfl (py_load Tryz.underlying2 rfl rfl (cell_atL (H1.box 0 rfl) rfl)) (sV rfl (py_add rfl rfl (in64 ⟨by omega, by omega⟩)) (sV rfl (py_assign rfl) (s_nil (W_ret (hQ _ _ (fin1 Tryz.results83 rfl ?_))))))))))))
 exact ⟨H1.ext, rfl⟩
theorem Tryz_impl_Shape_all {w : World} {s : Shape} (hs : s.ok = true) : Ret Tryz.prog 86 #[s.v] w fun v w' => Ext No w w' ∧ (v = .int .i64 (s.Groups + s.Column)) := by
 have sbd := shape_bd hs
 refine ret_Q (vs := [s.v]) Tryz.func86 rfl Tryz.ntmps86 rfl (fun Q hQ hN => ?_)
 have H0 := Sep.start (w := w) (F := []) (by simp)
 refine W_sr (s_box (wn rfl) rfl rfl H0 (fun b1 w1 e1 g1 H1 => ?_))
 refine sV rfl (py_assign rfl) (s_nil (W_sr (sV rfl (py_field Tryz.underlying33 rfl Tryz.sizeOf2 rfl rfl) (sV rfl (py_load Tryz.underlying2 rfl rfl (cell_atL (H1.box 0 rfl) rfl)) (sV rfl (py_field Tryz.underlying33 rfl Tryz.sizeOf2 rfl rfl) (sV rfl (py_load Tryz.underlying2 rfl rfl (cell_atL (H1.box 0 rfl) rfl)) (sV rfl (py_add rfl rfl (in64 ⟨by omega, by omega⟩)) (sV rfl (py_assign rfl) (s_nil (W_ret (hQ _ _ (fin1 Tryz.results86 rfl ?_))))))))))))
 exact ⟨H1.ext, rfl⟩
theorem Tryz_impl_Shape_isGroup {w : World} {s : Shape} {x : Int} (hs : s.ok = true) : Ret Tryz.prog 94 #[s.v, .int .i64 x] w fun v w' => Ext No w w' ∧ (v = .bool (ins x 0 (s.Groups + s.Column - 1))) := by
 have sbd := shape_bd hs
 refine ret_Q (vs := [s.v, .int .i64 x]) Tryz.func94 rfl Tryz.ntmps94 rfl (fun Q hQ hN => ?_)
 have H0 := Sep.start (w := w) (F := []) (by simp)
 refine W_sr (s_box (wn rfl) rfl rfl H0 (fun b1 w1 e1 g1 H1 => ?_))
 refine sV rfl (py_assign rfl) (s_nil (W_sr (sV rfl (py_move rfl) (sV rfl (py_loadS Tryz.underlying33 rfl Tryz.sizeOf33 rfl rfl (At.whole (H1.box 0 rfl))) (s_call (wn rfl) rfl rfl (pc_call Tryz.func86 rfl Tryz_nm86 rfl) (Tryz_impl_Shape_all (by assumption)) (fun v1 w2 r1 => ?_))))))
 obtain ⟨e2, rfl⟩ := r1
 have H2 := H1.to e2
 refine sV rfl (py_sub rfl rfl (in64 ⟨by omega, by omega⟩)) (s_call (wn rfl) rfl rfl (pc_call Tryz.func154 rfl Tryz_nm154 rfl) Tryz_impl_inside (fun v2 w3 r2 => ?_))
 obtain ⟨e3, rfl⟩ := r2
 have H3 := H2.to e3
 refine sV rfl (py_assign rfl) (s_nil (W_ret (hQ _ _ (fin1 Tryz.results94 rfl ?_))))
 exact ⟨H3.ext, rfl⟩
theorem Tryz_laws_toShape {w : World} {s : Shape}  : Ret Tryz.prog 71 #[s.v] w fun v w' => Ext No w w' ∧ (v = s.v) := by
 refine ret_Q (vs := [s.v]) Tryz.func71 rfl Tryz.ntmps71 rfl (fun Q hQ hN => ?_)
 have H0 := Sep.start (w := w) (F := []) (by simp)
 refine W_sr (s_box (wn rfl) rfl rfl H0 (fun b1 w1 e1 g1 H1 => ?_))
 refine s_var (wn rfl) rfl Tryz.zeroValue33 H1 (fun b2 w2 e2 g2 H2 => ?_)
 refine s_nil (W_sr (s_var (wn rfl) rfl Tryz.zeroValue33 H2 (fun b3 w3 e3 g3 H3 => ?_)))
 refine s_nil (W_sr (sV rfl (py_field Tryz.underlying23 rfl Tryz.sizeOf2 rfl rfl) (sV rfl (py_load Tryz.underlying2 rfl rfl (cell_atL (H3.box 0 rfl) rfl)) (sV rfl (py_field Tryz.underlying33 rfl Tryz.sizeOf2 rfl rfl) (s_sto (wn rfl) Tryz.sizeOf2 rfl rfl rfl H3 2 rfl rfl (fun w4 e4 H4 => ?_))))))
 dsimp only [List.nil_append, List.cons_append, List.set_cons_zero, List.set_cons_succ, layL] at H4
 refine s_nil (W_sr (sV rfl (py_field Tryz.underlying23 rfl Tryz.sizeOf2 rfl rfl) (sV rfl (py_load Tryz.underlying2 rfl rfl (cell_atL (H4.box 0 rfl) rfl)) (sV rfl (py_field Tryz.underlying33 rfl Tryz.sizeOf2 rfl rfl) (s_sto (wn rfl) Tryz.sizeOf2 rfl rfl rfl H4 2 rfl rfl (fun w5 e5 H5 => ?_))))))
 dsimp only [List.nil_append, List.cons_append, List.set_cons_zero, List.set_cons_succ, layL] at H5
 refine s_nil (W_sr (sV rfl (py_field Tryz.underlying23 rfl Tryz.sizeOf2 rfl rfl) (sV rfl (py_load Tryz.underlying2 rfl rfl (cell_atL (H5.box 0 rfl) rfl)) (sV rfl (py_field Tryz.underlying33 rfl Tryz.sizeOf2 rfl rfl) (s_sto (wn rfl) Tryz.sizeOf2 rfl rfl rfl H5 2 rfl rfl (fun w6 e6 H6 => ?_))))))
 dsimp only [List.nil_append, List.cons_append, List.set_cons_zero, List.set_cons_succ, layL] at H6
 refine s_nil (W_sr (sV rfl (py_field Tryz.underlying23 rfl Tryz.sizeOf2 rfl rfl) (sV rfl (py_load Tryz.underlying2 rfl rfl (cell_atL (H6.box 0 rfl) rfl)) (sV rfl (py_field Tryz.underlying33 rfl Tryz.sizeOf2 rfl rfl) (s_sto (wn rfl) Tryz.sizeOf2 rfl rfl rfl H6 2 rfl rfl (fun w7 e7 H7 => ?_))))))
 dsimp only [List.nil_append, List.cons_append, List.set_cons_zero, List.set_cons_succ, layL] at H7
 refine s_nil (W_sr (sV rfl (py_field Tryz.underlying23 rfl Tryz.sizeOf2 rfl rfl) (sV rfl (py_load Tryz.underlying2 rfl rfl (cell_atL (H7.box 0 rfl) rfl)) (sV rfl (py_field Tryz.underlying33 rfl Tryz.sizeOf2 rfl rfl) (s_sto (wn rfl) Tryz.sizeOf2 rfl rfl rfl H7 2 rfl rfl (fun w8 e8 H8 => ?_))))))
 dsimp only [List.nil_append, List.cons_append, List.set_cons_zero, List.set_cons_succ, layL] at H8
 refine s_nil (W_sr (sV rfl (py_field Tryz.underlying23 rfl Tryz.sizeOf2 rfl rfl) (sV rfl (py_load Tryz.underlying2 rfl rfl (cell_atL (H8.box 0 rfl) rfl)) (sV rfl (py_field Tryz.underlying33 rfl Tryz.sizeOf2 rfl rfl) (s_sto (wn rfl) Tryz.sizeOf2 rfl rfl rfl H8 2 rfl rfl (fun w9 e9 H9 => ?_))))))
 dsimp only [List.nil_append, List.cons_append, List.set_cons_zero, List.set_cons_succ, layL] at H9
 refine s_nil (W_sr (sV rfl (py_field Tryz.underlying23 rfl Tryz.sizeOf2 rfl rfl) (sV rfl (py_load Tryz.underlying2 rfl rfl (cell_atL (H9.box 0 rfl) rfl)) (sV rfl (py_field Tryz.underlying33 rfl Tryz.sizeOf2 rfl rfl) (s_sto (wn rfl) Tryz.sizeOf2 rfl rfl rfl H9 2 rfl rfl (fun w10 e10 H10 => ?_))))))
 dsimp only [List.nil_append, List.cons_append, List.set_cons_zero, List.set_cons_succ, layL] at H10
 refine s_nil (W_sr (sV rfl (py_field Tryz.underlying23 rfl Tryz.sizeOf2 rfl rfl) (sV rfl (py_load Tryz.underlying2 rfl rfl (cell_atL (H10.box 0 rfl) rfl)) (sV rfl (py_field Tryz.underlying33 rfl Tryz.sizeOf2 rfl rfl) (s_sto (wn rfl) Tryz.sizeOf2 rfl rfl rfl H10 2 rfl rfl (fun w11 e11 H11 => ?_))))))
 dsimp only [List.nil_append, List.cons_append, List.set_cons_zero, List.set_cons_succ, layL] at H11
 refine s_nil (W_sr (sV rfl (py_field Tryz.underlying23 rfl Tryz.sizeOf2 rfl rfl) (sV rfl (py_load Tryz.underlying2 rfl rfl (cell_atL (H11.box 0 rfl) rfl)) (sV rfl (py_field Tryz.underlying33 rfl Tryz.sizeOf2 rfl rfl) (s_sto (wn rfl) Tryz.sizeOf2 rfl rfl rfl H11 2 rfl rfl (fun w12 e12 H12 => ?_))))))
 dsimp only [List.nil_append, List.cons_append, List.set_cons_zero, List.set_cons_succ, layL] at H12
 refine s_nil (W_sr (sV rfl (py_loadS Tryz.underlying33 rfl Tryz.sizeOf33 rfl rfl (At.whole (H12.box 2 rfl))) (s_stoS (wn rfl) Tryz.sizeOf33 rfl rfl rfl rfl H12 1 rfl rfl (fun w13 e13 H13 => ?_))))
 dsimp only [List.nil_append, List.cons_append, List.set_cons_zero, List.set_cons_succ, layL] at H13
 refine s_nil (W_ret (hQ _ _ (finC Tryz.results71 rfl (run_loadVarS Tryz.underlying33 rfl Tryz.sizeOf33 rfl (At.whole (H13.box 1 rfl))) ?_)))
 exact ⟨H13.ext, rfl⟩
end Go.Wk
namespace Go.Wk
open Rp (sz own)
instance : Inhabited Shape := ⟨⟨0, 0, 0, 0, 0, 0, 0, 0, 0⟩⟩
theorem own_Shape {s w cs} {x : Shape} {fp} (h : own s w cs x fp) : cs = [.int .i64 x.Groups, .int .i64 x.Column, .int .i64 x.Data, .int .i64 x.Spare, .int .i64 x.Rows, .int .i64 x.Cap, .int .i64 x.Batch, .int .i64 x.Queue, .int .i64 x.Stage] ∧ fp = [] ∧ x.Ok := by
  obtain ⟨_, _, _, _, rfl, e0, h0, k0⟩ := own_pair h
  obtain ⟨rfl, rfl, i0⟩ := own_int h0
  obtain ⟨_, _, _, _, rfl, e1, h1, k1⟩ := own_pair k0
  obtain ⟨rfl, rfl, i1⟩ := own_int h1
  obtain ⟨_, _, _, _, rfl, e2, h2, k2⟩ := own_pair k1
  obtain ⟨rfl, rfl, i2⟩ := own_int h2
  obtain ⟨_, _, _, _, rfl, e3, h3, k3⟩ := own_pair k2
  obtain ⟨rfl, rfl, i3⟩ := own_int h3
  obtain ⟨_, _, _, _, rfl, e4, h4, k4⟩ := own_pair k3
  obtain ⟨rfl, rfl, i4⟩ := own_int h4
  obtain ⟨_, _, _, _, rfl, e5, h5, k5⟩ := own_pair k4
  obtain ⟨rfl, rfl, i5⟩ := own_int h5
  obtain ⟨_, _, _, _, rfl, e6, h6, k6⟩ := own_pair k5
  obtain ⟨rfl, rfl, i6⟩ := own_int h6
  obtain ⟨_, _, _, _, rfl, e7, h7, k7⟩ := own_pair k6
  obtain ⟨rfl, rfl, i7⟩ := own_int h7
  obtain ⟨rfl, rfl, i8⟩ := own_int k7
  exact ⟨rfl, by subst_vars; simp, ⟨i0, i1, i2, i3, i4, i5, i6, i7, i8⟩⟩
theorem Shape.own_mk {s : Bool} {w : World} {x : Shape} (ok : x.Ok) : own s w [.int .i64 x.Groups, .int .i64 x.Column, .int .i64 x.Data, .int .i64 x.Spare, .int .i64 x.Rows, .int .i64 x.Cap, .int .i64 x.Batch, .int .i64 x.Queue, .int .i64 x.Stage] x ([]) := by
  obtain ⟨i0, i1, i2, i3, i4, i5, i6, i7, i8⟩ := ok
  have h : own s w _ (x.Groups, x.Column, x.Data, x.Spare, x.Rows, x.Cap, x.Batch, x.Queue, x.Stage) _ := (own_two (own_mki i0) (own_two (own_mki i1) (own_two (own_mki i2) (own_two (own_mki i3) (own_two (own_mki i4) (own_two (own_mki i5) (own_two (own_mki i6) (own_two (own_mki i7) (own_mki i8)))))))))
  refine own_fp h ?_
  simp
theorem own_zShape {w : World} : own true w [.int .i64 0, .int .i64 0, .int .i64 0, .int .i64 0, .int .i64 0, .int .i64 0, .int .i64 0, .int .i64 0, .int .i64 0] (default : Shape) [] := own_fp (Shape.own_mk (s := true) (x := (default : Shape)) ⟨(show I64ok 0 by unfold I64ok; omega), (show I64ok 0 by unfold I64ok; omega), (show I64ok 0 by unfold I64ok; omega), (show I64ok 0 by unfold I64ok; omega), (show I64ok 0 by unfold I64ok; omega), (show I64ok 0 by unfold I64ok; omega), (show I64ok 0 by unfold I64ok; omega), (show I64ok 0 by unfold I64ok; omega), (show I64ok 0 by unfold I64ok; omega)⟩) (by first | rfl | simp)
theorem own_zRec {w : World} : own true w [.int .i64 0, .int .i64 0, .string ⟨#[]⟩, .int .i64 0, .int .i64 0, .int .i64 0, .slice none 0 0, .slice none 0 0, .slice none 0 0] (default : Rec) [] := own_fp (Rec.own_mk (s := true) (x := (default : Rec)) ⟨(show I64ok 0 by unfold I64ok; omega), (show I64ok 0 by unfold I64ok; omega), (show (0 : Nat) ≤ maxLen from Nat.zero_le _), (show I64ok 0 by unfold I64ok; omega), (show I64ok 0 by unfold I64ok; omega), (show I64ok 0 by unfold I64ok; omega)⟩ (.inr (.inl ⟨rfl, rfl, rfl⟩)) (.inr (.inl ⟨rfl, rfl, rfl⟩)) (.inr (.inl ⟨rfl, rfl, rfl⟩))) (by first | rfl | simp)
structure Block where
  Stamp : Int
  Bytes : List UInt8
instance : Rp Block := Rp.via fun x => (x.Stamp, x.Bytes)
noncomputable instance : DecidableEq Block := fun _ _ => Classical.propDecidable _
instance : Inhabited Block := ⟨⟨0, []⟩⟩
def Block.val (x : Block) (A1 : Option Addr) (C1 : Nat) : Value := .agg #[.int .i64 x.Stamp, .slice A1 x.Bytes.length C1]
def Block.Ok (x : Block) : Prop := I64ok x.Stamp
theorem own_Block {s w cs} {x : Block} {fp} (h : own s w cs x fp) : ∃ (A1 : Option Addr) (C1 : Nat) (f1 : List Nat) , cs = [.int .i64 x.Stamp, .slice A1 x.Bytes.length C1] ∧ fp = f1 ∧ x.Ok ∧ own s w [.slice A1 x.Bytes.length C1] x.Bytes f1 := by
  obtain ⟨_, _, _, _, rfl, e0, h0, k0⟩ := own_pair h
  obtain ⟨rfl, rfl, i0⟩ := own_int h0
  obtain ⟨A1, C1, rfl⟩ := own_slice k0
  exact ⟨A1, C1, _, rfl, by subst_vars; simp, i0, k0⟩
theorem Block.own_mk {s : Bool} {w : World} {x : Block} {A1 : Option Addr} {C1 : Nat} {f1 : List Nat} (ok : x.Ok) (o1 : own s w [.slice A1 x.Bytes.length C1] x.Bytes f1) : own s w [.int .i64 x.Stamp, .slice A1 x.Bytes.length C1] x (f1) := by
  have i0 := ok
  have h : own s w _ (x.Stamp, x.Bytes) _ := (own_two (own_mki i0) o1)
  refine own_fp h ?_
  simp
theorem Block.out {w0 w : World} {F : List Rsc} {x : Block} {A1 : Option Addr} {C1 : Nat} {f1 : List Nat} (h : Sep No w0 [mine [.slice A1 x.Bytes.length C1] x.Bytes f1] F w) (ok : x.Ok) : Res w0 w [.int .i64 x.Stamp, .slice A1 x.Bytes.length C1] x :=
  ⟨_, Block.own_mk ok (h.mine 0 rfl), by have := h.nd; simpa [blocks, mine] using this, fun b hb => (h.new b (by simpa [blocks, mine] using hb)).resolve_left id⟩
theorem own_zBlock {w : World} : own true w [.int .i64 0, .slice none 0 0] (default : Block) [] := own_fp (Block.own_mk (s := true) (x := (default : Block)) (show I64ok 0 by unfold I64ok; omega) (.inr (.inl ⟨rfl, rfl, rfl⟩))) (by first | rfl | simp)
structure Drive where
  Wiped : Bool
  Blocks : List Block
instance : Rp Drive := Rp.via fun x => (x.Wiped, x.Blocks)
noncomputable instance : DecidableEq Drive := fun _ _ => Classical.propDecidable _
instance : Inhabited Drive := ⟨⟨false, []⟩⟩
def Drive.val (x : Drive) (A1 : Option Addr) (C1 : Nat) : Value := .agg #[.bool x.Wiped, .slice A1 x.Blocks.length C1]
def Drive.Ok (x : Drive) : Prop := True
theorem own_Drive {s w cs} {x : Drive} {fp} (h : own s w cs x fp) : ∃ (A1 : Option Addr) (C1 : Nat) (f1 : List Nat) , cs = [.bool x.Wiped, .slice A1 x.Blocks.length C1] ∧ fp = f1 ∧ x.Ok ∧ own s w [.slice A1 x.Blocks.length C1] x.Blocks f1 := by
  obtain ⟨_, _, _, _, rfl, e0, h0, k0⟩ := own_pair h
  obtain ⟨rfl, rfl⟩ := h0
  obtain ⟨A1, C1, rfl⟩ := own_slice k0
  exact ⟨A1, C1, _, rfl, by subst_vars; simp, trivial, k0⟩
theorem Drive.own_mk {s : Bool} {w : World} {x : Drive} {A1 : Option Addr} {C1 : Nat} {f1 : List Nat} (ok : x.Ok) (o1 : own s w [.slice A1 x.Blocks.length C1] x.Blocks f1) : own s w [.bool x.Wiped, .slice A1 x.Blocks.length C1] x (f1) := by
  have h : own s w _ (x.Wiped, x.Blocks) _ := (own_two own_mkb o1)
  refine own_fp h ?_
  simp
theorem Drive.out {w0 w : World} {F : List Rsc} {x : Drive} {A1 : Option Addr} {C1 : Nat} {f1 : List Nat} (h : Sep No w0 [mine [.slice A1 x.Blocks.length C1] x.Blocks f1] F w) (ok : x.Ok) : Res w0 w [.bool x.Wiped, .slice A1 x.Blocks.length C1] x :=
  ⟨_, Drive.own_mk ok (h.mine 0 rfl), by have := h.nd; simpa [blocks, mine] using this, fun b hb => (h.new b (by simpa [blocks, mine] using hb)).resolve_left id⟩
theorem own_zDrive {w : World} : own true w [.bool false, .slice none 0 0] (default : Drive) [] := own_fp (Drive.own_mk (s := true) (x := (default : Drive)) trivial (.inr (.inl ⟨rfl, rfl, rfl⟩))) (by first | rfl | simp)
structure Tape where
  Wiped : Bool
  Recs : List Rec
instance : Rp Tape := Rp.via fun x => (x.Wiped, x.Recs)
noncomputable instance : DecidableEq Tape := fun _ _ => Classical.propDecidable _
instance : Inhabited Tape := ⟨⟨false, []⟩⟩
def Tape.val (x : Tape) (A1 : Option Addr) (C1 : Nat) : Value := .agg #[.bool x.Wiped, .slice A1 x.Recs.length C1]
def Tape.Ok (x : Tape) : Prop := True
theorem own_Tape {s w cs} {x : Tape} {fp} (h : own s w cs x fp) : ∃ (A1 : Option Addr) (C1 : Nat) (f1 : List Nat) , cs = [.bool x.Wiped, .slice A1 x.Recs.length C1] ∧ fp = f1 ∧ x.Ok ∧ own s w [.slice A1 x.Recs.length C1] x.Recs f1 := by
  obtain ⟨_, _, _, _, rfl, e0, h0, k0⟩ := own_pair h
  obtain ⟨rfl, rfl⟩ := h0
  obtain ⟨A1, C1, rfl⟩ := own_slice k0
  exact ⟨A1, C1, _, rfl, by subst_vars; simp, trivial, k0⟩
theorem Tape.own_mk {s : Bool} {w : World} {x : Tape} {A1 : Option Addr} {C1 : Nat} {f1 : List Nat} (ok : x.Ok) (o1 : own s w [.slice A1 x.Recs.length C1] x.Recs f1) : own s w [.bool x.Wiped, .slice A1 x.Recs.length C1] x (f1) := by
  have h : own s w _ (x.Wiped, x.Recs) _ := (own_two own_mkb o1)
  refine own_fp h ?_
  simp
theorem Tape.out {w0 w : World} {F : List Rsc} {x : Tape} {A1 : Option Addr} {C1 : Nat} {f1 : List Nat} (h : Sep No w0 [mine [.slice A1 x.Recs.length C1] x.Recs f1] F w) (ok : x.Ok) : Res w0 w [.bool x.Wiped, .slice A1 x.Recs.length C1] x :=
  ⟨_, Tape.own_mk ok (h.mine 0 rfl), by have := h.nd; simpa [blocks, mine] using this, fun b hb => (h.new b (by simpa [blocks, mine] using hb)).resolve_left id⟩
theorem own_zTape {w : World} : own true w [.bool false, .slice none 0 0] (default : Tape) [] := own_fp (Tape.own_mk (s := true) (x := (default : Tape)) trivial (.inr (.inl ⟨rfl, rfl, rfl⟩))) (by first | rfl | simp)
structure Wld where
  Shape : Shape
  Groups : List (List Drive)
  On : List Int
  Tapes : List Tape
  Writes : Int
  Stop : Int
  Down : Bool
instance : Rp Wld := Rp.via fun x => (x.Shape, x.Groups, x.On, x.Tapes, x.Writes, x.Stop, x.Down)
noncomputable instance : DecidableEq Wld := fun _ _ => Classical.propDecidable _
instance : Inhabited Wld := ⟨⟨default, [], [], [], 0, 0, false⟩⟩
def Wld.val (x : Wld) (A9 : Option Addr) (C9 : Nat) (A10 : Option Addr) (C10 : Nat) (A11 : Option Addr) (C11 : Nat) : Value := .agg #[.int .i64 x.Shape.Groups, .int .i64 x.Shape.Column, .int .i64 x.Shape.Data, .int .i64 x.Shape.Spare, .int .i64 x.Shape.Rows, .int .i64 x.Shape.Cap, .int .i64 x.Shape.Batch, .int .i64 x.Shape.Queue, .int .i64 x.Shape.Stage, .slice A9 x.Groups.length C9, .slice A10 x.On.length C10, .slice A11 x.Tapes.length C11, .int .i64 x.Writes, .int .i64 x.Stop, .bool x.Down]
def Wld.Ok (x : Wld) : Prop := x.Shape.Ok ∧ I64ok x.Writes ∧ I64ok x.Stop
theorem own_Wld {s w cs} {x : Wld} {fp} (h : own s w cs x fp) : ∃ (A9 : Option Addr) (C9 : Nat) (A10 : Option Addr) (C10 : Nat) (A11 : Option Addr) (C11 : Nat) (f9 : List Nat) (f10 : List Nat) (f11 : List Nat) , cs = [.int .i64 x.Shape.Groups, .int .i64 x.Shape.Column, .int .i64 x.Shape.Data, .int .i64 x.Shape.Spare, .int .i64 x.Shape.Rows, .int .i64 x.Shape.Cap, .int .i64 x.Shape.Batch, .int .i64 x.Shape.Queue, .int .i64 x.Shape.Stage, .slice A9 x.Groups.length C9, .slice A10 x.On.length C10, .slice A11 x.Tapes.length C11, .int .i64 x.Writes, .int .i64 x.Stop, .bool x.Down] ∧ fp = f9 ++ (f10 ++ (f11)) ∧ x.Ok ∧ own s w [.slice A9 x.Groups.length C9] x.Groups f9 ∧ own s w [.slice A10 x.On.length C10] x.On f10 ∧ own s w [.slice A11 x.Tapes.length C11] x.Tapes f11 := by
  obtain ⟨_, _, _, _, rfl, e0, h0, k0⟩ := own_pair h
  obtain ⟨rfl, rfl, i0⟩ := own_Shape h0
  obtain ⟨_, _, _, _, rfl, e1, h1, k1⟩ := own_pair k0
  obtain ⟨A9, C9, rfl⟩ := own_slice h1
  obtain ⟨_, _, _, _, rfl, e2, h2, k2⟩ := own_pair k1
  obtain ⟨A10, C10, rfl⟩ := own_slice h2
  obtain ⟨_, _, _, _, rfl, e3, h3, k3⟩ := own_pair k2
  obtain ⟨A11, C11, rfl⟩ := own_slice h3
  obtain ⟨_, _, _, _, rfl, e4, h4, k4⟩ := own_pair k3
  obtain ⟨rfl, rfl, i4⟩ := own_int h4
  obtain ⟨_, _, _, _, rfl, e5, h5, k5⟩ := own_pair k4
  obtain ⟨rfl, rfl, i5⟩ := own_int h5
  obtain ⟨rfl, rfl⟩ := k5
  exact ⟨A9, C9, A10, C10, A11, C11, _, _, _, rfl, by subst_vars; simp, ⟨i0, i4, i5⟩, h1, h2, h3⟩
theorem own_WldC {s w A9 C9 A10 C10 A11 C11} {x : Wld} {fp} (h : own s w [.int .i64 x.Shape.Groups, .int .i64 x.Shape.Column, .int .i64 x.Shape.Data, .int .i64 x.Shape.Spare, .int .i64 x.Shape.Rows, .int .i64 x.Shape.Cap, .int .i64 x.Shape.Batch, .int .i64 x.Shape.Queue, .int .i64 x.Shape.Stage, .slice A9 x.Groups.length C9, .slice A10 x.On.length C10, .slice A11 x.Tapes.length C11, .int .i64 x.Writes, .int .i64 x.Stop, .bool x.Down] x fp) : ∃ (f9 : List Nat) (f10 : List Nat) (f11 : List Nat), fp = f9 ++ (f10 ++ (f11)) ∧ x.Ok ∧ own s w [.slice A9 x.Groups.length C9] x.Groups f9 ∧ own s w [.slice A10 x.On.length C10] x.On f10 ∧ own s w [.slice A11 x.Tapes.length C11] x.Tapes f11 := by
  obtain ⟨_, _, _, _, _, _, f9, f10, f11, e, ef, ok, o9, o10, o11⟩ := own_Wld h
  simp only [List.cons.injEq, Value.slice.injEq, and_true, true_and] at e
  obtain ⟨⟨rfl, rfl⟩, ⟨rfl, rfl⟩, ⟨rfl, rfl⟩⟩ := e
  exact ⟨f9, f10, f11, ef, ok, o9, o10, o11⟩
theorem Wld.own_mk {s : Bool} {w : World} {x : Wld} {A9 : Option Addr} {C9 : Nat} {A10 : Option Addr} {C10 : Nat} {A11 : Option Addr} {C11 : Nat} {f9 : List Nat} {f10 : List Nat} {f11 : List Nat} (ok : x.Ok) (o9 : own s w [.slice A9 x.Groups.length C9] x.Groups f9) (o10 : own s w [.slice A10 x.On.length C10] x.On f10) (o11 : own s w [.slice A11 x.Tapes.length C11] x.Tapes f11) : own s w [.int .i64 x.Shape.Groups, .int .i64 x.Shape.Column, .int .i64 x.Shape.Data, .int .i64 x.Shape.Spare, .int .i64 x.Shape.Rows, .int .i64 x.Shape.Cap, .int .i64 x.Shape.Batch, .int .i64 x.Shape.Queue, .int .i64 x.Shape.Stage, .slice A9 x.Groups.length C9, .slice A10 x.On.length C10, .slice A11 x.Tapes.length C11, .int .i64 x.Writes, .int .i64 x.Stop, .bool x.Down] x (f9 ++ (f10 ++ (f11))) := by
  obtain ⟨i0, i4, i5⟩ := ok
  have h : own s w _ (x.Shape, x.Groups, x.On, x.Tapes, x.Writes, x.Stop, x.Down) _ := (own_two (Shape.own_mk (x := x.Shape) i0) (own_two o9 (own_two o10 (own_two o11 (own_two (own_mki i4) (own_two (own_mki i5) own_mkb))))))
  refine own_fp h ?_
  simp
theorem Wld.out {w0 w : World} {F : List Rsc} {x : Wld} {A9 : Option Addr} {C9 : Nat} {A10 : Option Addr} {C10 : Nat} {A11 : Option Addr} {C11 : Nat} {f9 : List Nat} {f10 : List Nat} {f11 : List Nat} (h : Sep No w0 [mine [.slice A9 x.Groups.length C9] x.Groups f9, mine [.slice A10 x.On.length C10] x.On f10, mine [.slice A11 x.Tapes.length C11] x.Tapes f11] F w) (ok : x.Ok) : Res w0 w [.int .i64 x.Shape.Groups, .int .i64 x.Shape.Column, .int .i64 x.Shape.Data, .int .i64 x.Shape.Spare, .int .i64 x.Shape.Rows, .int .i64 x.Shape.Cap, .int .i64 x.Shape.Batch, .int .i64 x.Shape.Queue, .int .i64 x.Shape.Stage, .slice A9 x.Groups.length C9, .slice A10 x.On.length C10, .slice A11 x.Tapes.length C11, .int .i64 x.Writes, .int .i64 x.Stop, .bool x.Down] x :=
  ⟨_, Wld.own_mk ok (h.mine 0 rfl) (h.mine 1 rfl) (h.mine 2 rfl), by have := h.nd; simpa [blocks, mine] using this, fun b hb => (h.new b (by simpa [blocks, mine] using hb)).resolve_left id⟩
theorem Wld.see9 {s : Bool} {w : World} {x : Wld} {A9 : Option Addr} {C9 : Nat} {A10 : Option Addr} {C10 : Nat} {A11 : Option Addr} {C11 : Nat} {fp : List Nat} (h : own s w [.int .i64 x.Shape.Groups, .int .i64 x.Shape.Column, .int .i64 x.Shape.Data, .int .i64 x.Shape.Spare, .int .i64 x.Shape.Rows, .int .i64 x.Shape.Cap, .int .i64 x.Shape.Batch, .int .i64 x.Shape.Queue, .int .i64 x.Shape.Stage, .slice A9 x.Groups.length C9, .slice A10 x.On.length C10, .slice A11 x.Tapes.length C11, .int .i64 x.Writes, .int .i64 x.Stop, .bool x.Down] x fp) : Sees w [.slice A9 x.Groups.length C9] x.Groups := by
  obtain ⟨_, _, _, _, _, o, _, _⟩ := own_WldC h
  exact ⟨_, own_weak o⟩
theorem Wld.see10 {s : Bool} {w : World} {x : Wld} {A9 : Option Addr} {C9 : Nat} {A10 : Option Addr} {C10 : Nat} {A11 : Option Addr} {C11 : Nat} {fp : List Nat} (h : own s w [.int .i64 x.Shape.Groups, .int .i64 x.Shape.Column, .int .i64 x.Shape.Data, .int .i64 x.Shape.Spare, .int .i64 x.Shape.Rows, .int .i64 x.Shape.Cap, .int .i64 x.Shape.Batch, .int .i64 x.Shape.Queue, .int .i64 x.Shape.Stage, .slice A9 x.Groups.length C9, .slice A10 x.On.length C10, .slice A11 x.Tapes.length C11, .int .i64 x.Writes, .int .i64 x.Stop, .bool x.Down] x fp) : Sees w [.slice A10 x.On.length C10] x.On := by
  obtain ⟨_, _, _, _, _, _, o, _⟩ := own_WldC h
  exact ⟨_, own_weak o⟩
theorem Wld.see11 {s : Bool} {w : World} {x : Wld} {A9 : Option Addr} {C9 : Nat} {A10 : Option Addr} {C10 : Nat} {A11 : Option Addr} {C11 : Nat} {fp : List Nat} (h : own s w [.int .i64 x.Shape.Groups, .int .i64 x.Shape.Column, .int .i64 x.Shape.Data, .int .i64 x.Shape.Spare, .int .i64 x.Shape.Rows, .int .i64 x.Shape.Cap, .int .i64 x.Shape.Batch, .int .i64 x.Shape.Queue, .int .i64 x.Shape.Stage, .slice A9 x.Groups.length C9, .slice A10 x.On.length C10, .slice A11 x.Tapes.length C11, .int .i64 x.Writes, .int .i64 x.Stop, .bool x.Down] x fp) : Sees w [.slice A11 x.Tapes.length C11] x.Tapes := by
  obtain ⟨_, _, _, _, _, _, _, o⟩ := own_WldC h
  exact ⟨_, own_weak o⟩
structure WldResult where
  Code : Int
  Wd : Wld
instance : Rp WldResult := Rp.via fun x => (x.Code, x.Wd)
noncomputable instance : DecidableEq WldResult := fun _ _ => Classical.propDecidable _
instance : Inhabited WldResult := ⟨⟨0, default⟩⟩
def WldResult.val (x : WldResult) (A10 : Option Addr) (C10 : Nat) (A11 : Option Addr) (C11 : Nat) (A12 : Option Addr) (C12 : Nat) : Value := .agg #[.int .i64 x.Code, .int .i64 x.Wd.Shape.Groups, .int .i64 x.Wd.Shape.Column, .int .i64 x.Wd.Shape.Data, .int .i64 x.Wd.Shape.Spare, .int .i64 x.Wd.Shape.Rows, .int .i64 x.Wd.Shape.Cap, .int .i64 x.Wd.Shape.Batch, .int .i64 x.Wd.Shape.Queue, .int .i64 x.Wd.Shape.Stage, .slice A10 x.Wd.Groups.length C10, .slice A11 x.Wd.On.length C11, .slice A12 x.Wd.Tapes.length C12, .int .i64 x.Wd.Writes, .int .i64 x.Wd.Stop, .bool x.Wd.Down]
structure BlockResult where
  Code : Int
  Block : Block
instance : Rp BlockResult := Rp.via fun x => (x.Code, x.Block)
noncomputable instance : DecidableEq BlockResult := fun _ _ => Classical.propDecidable _
instance : Inhabited BlockResult := ⟨⟨0, default⟩⟩
def BlockResult.val (x : BlockResult) (A2 : Option Addr) (C2 : Nat) : Value := .agg #[.int .i64 x.Code, .int .i64 x.Block.Stamp, .slice A2 x.Block.Bytes.length C2]
structure IntResult where
  Code : Int
  Val : Int
instance : Rp IntResult := Rp.via fun x => (x.Code, x.Val)
noncomputable instance : DecidableEq IntResult := fun _ _ => Classical.propDecidable _
instance : Inhabited IntResult := ⟨⟨0, 0⟩⟩
def IntResult.val (x : IntResult) : Value := .agg #[.int .i64 x.Code, .int .i64 x.Val]
structure IntsResult where
  Code : Int
  Lst : List Int
instance : Rp IntsResult := Rp.via fun x => (x.Code, x.Lst)
noncomputable instance : DecidableEq IntsResult := fun _ _ => Classical.propDecidable _
instance : Inhabited IntsResult := ⟨⟨0, []⟩⟩
def IntsResult.val (x : IntsResult) (A1 : Option Addr) (C1 : Nat) : Value := .agg #[.int .i64 x.Code, .slice A1 x.Lst.length C1]
structure GroupsResult where
  Code : Int
  Groups : List Int
instance : Rp GroupsResult := Rp.via fun x => (x.Code, x.Groups)
noncomputable instance : DecidableEq GroupsResult := fun _ _ => Classical.propDecidable _
instance : Inhabited GroupsResult := ⟨⟨0, []⟩⟩
def GroupsResult.val (x : GroupsResult) (A1 : Option Addr) (C1 : Nat) : Value := .agg #[.int .i64 x.Code, .slice A1 x.Groups.length C1]
structure RecsResult where
  Code : Int
  Recs : List Rec
instance : Rp RecsResult := Rp.via fun x => (x.Code, x.Recs)
noncomputable instance : DecidableEq RecsResult := fun _ _ => Classical.propDecidable _
instance : Inhabited RecsResult := ⟨⟨0, []⟩⟩
def RecsResult.val (x : RecsResult) (A1 : Option Addr) (C1 : Nat) : Value := .agg #[.int .i64 x.Code, .slice A1 x.Recs.length C1]
structure ListsResult where
  Code : Int
  Lists : List (List UInt8)
instance : Rp ListsResult := Rp.via fun x => (x.Code, x.Lists)
noncomputable instance : DecidableEq ListsResult := fun _ _ => Classical.propDecidable _
instance : Inhabited ListsResult := ⟨⟨0, []⟩⟩
def ListsResult.val (x : ListsResult) (A1 : Option Addr) (C1 : Nat) : Value := .agg #[.int .i64 x.Code, .slice A1 x.Lists.length C1]
end Go.Wk
namespace Go.Wk
open Rp (sz own)
theorem Sep.fbox {M : Nat → Prop} {w0 w : World} {Δ F : List Rsc} (h : Sep M w0 Δ F w) (j : Nat) {b : Nat} {o : Obj} (hj : F[j]? = some (Wk.box b o)) : w.heap[b]? = some o := h.fs _ (List.mem_of_getElem? hj)
theorem elem_st {α : Type} [Rp α] [Inhabited α] {s w ad n cap} {xs : List α} {fp} (h : own s w [.slice ad n cap] xs fp) (k : Nat) (hk : k < xs.length) :
    ∃ b o cs f, ad = some ⟨b, o, none⟩ ∧ At w b (o + k * sz α) cs ∧ own s w cs (xs.getD k default) f ∧ (∀ b ∈ f, b ∈ fp) ∧ b ∈ fp := by
  obtain ⟨b, o, cs, f, h1, h2, h3, h4, h5⟩ := own_elem h k hk
  rw [show xs.getD k default = xs[k] from by simp [List.getD, hk]]
  exact ⟨b, o, cs, f, h1, h2, h3, h4, h5⟩
section
variable {P : Program} {n : Nat} {ops : Array Oper} {Q : Post} {L : Env} {ty : TypeId} {p : String} {af : Array Edge} {g : Option (Nat × Bool)} {M : Nat → Prop} {w0 w : World} {Δ F : List Rsc} {α : Type} [Rp α]
theorem s_elst2S {rest : List Oper} {t : TypeId} {x y : Operand} {b off : Nat} {vs : List Value} {ad : Option Addr} {len cap : Nat} {xs : List α} {fp fu : List Nat} {u : α} (hw : Wn ops n L ⟨none, .store t x y, ty, p, af, g⟩) (hs : ∀ w, (sizeOf t).run P w = .ok (sz α) w)
    (H : Sep M w0 Δ F w) (i j : Nat) (hi : Δ[i]? = some (mine [.slice ad len cap] xs fp)) (hj : Δ[j]? = some (mine vs u fu)) (hij : Nat.beq j i = false) (q : Nat) (hq : q < xs.length) (hx : evL L x = some (.pointer (some ⟨b, off + q * sz α, none⟩))) (had : ad = some ⟨b, off, none⟩) (hy : evL L y = some (.agg vs.toArray))
    (k : ∀ w' fp', Sep M w0 ((Δ.set j gone).set i (mine [.slice ad len cap] (xs.set q u) fp')) F w' → RL P n ops Q rest L w') :
    RL P n ops Q (⟨none, .store t x y, ty, p, af, g⟩ :: rest) L w := by
  obtain ⟨b', o', cur, T, fp', e1, hb, hsz, hk⟩ := H.elset2 i j hi hj hij q hq
  rw [had] at e1
  simp only [Option.some.injEq, Addr.mk.injEq, and_true] at e1
  obtain ⟨rfl, rfl⟩ := e1
  have hm := H.mine j hj
  exact s_do hw rfl (pd_storeS hs hx hy (Rp.len hm) (Rp.one hm) hb hsz) (k _ fp' hk)
end
def szL {α : Type} [Inhabited α] (f : α → Nat) (xs : List α) : Nat := xs.length + sumN (fun i => f (xs.getD i default)) xs.length
theorem szL_eq {α : Type} [Inhabited α] {f : α → Nat} {xs : List α} : szL f xs = xs.length + sumN (fun i => f (xs.getD i default)) xs.length := rfl
theorem szL_get {α : Type} [Inhabited α] {f : α → Nat} {xs : List α} {m : Nat} (h : szL f xs ≤ m) (k : Nat) (hk : k < xs.length) : f (xs.getD k default) ≤ m ∧ xs.length ≤ m := by
  have : sumN (fun i => f (xs.getD i default)) (k + 1) ≤ sumN (fun i => f (xs.getD i default)) xs.length := sumN_le (by omega)
  have h2 : sumN (fun i => f (xs.getD i default)) (k + 1) = sumN (fun i => f (xs.getD i default)) k + f (xs.getD k default) := rfl
  unfold szL at h
  omega
def szRec (x : Rec) : Nat := x.Name.size + x.Rows.length + x.Data.length + x.Delta.length
def szBlock (x : Block) : Nat := x.Bytes.length
def szDrive (x : Drive) : Nat := szL szBlock x.Blocks
def szTape (x : Tape) : Nat := szL szRec x.Recs
def szWld (x : Wld) : Nat := szL (szL szDrive) x.Groups + x.On.length + szL szTape x.Tapes
end Go.Wk
