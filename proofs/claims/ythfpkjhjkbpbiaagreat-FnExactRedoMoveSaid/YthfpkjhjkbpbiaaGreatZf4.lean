/-
  Laws on walking, and the functions walked, each once: what this claim comes to.
-/
import Derived.Test.YthfpkjhjkbpbiaaGreatZf3
set_option linter.unusedVariables false
set_option linter.unusedSimpArgs false
namespace Go.Wk
open Go.Proofs Rp
set_option maxRecDepth 10000
theorem Tryz_impl_MulG {w : World} {a : UInt8} {b : UInt8}  : Ret Tryz.prog 333 #[.int .u8 a.toNat, .int .u8 b.toNat] w fun v w' => Ext No w w' ∧ (v = .int .u8 (mulG a b).toNat) := by
 refine ret_Q (vs := [.int .u8 a.toNat, .int .u8 b.toNat]) Tryz.func333 rfl Tryz.ntmps333 rfl (fun Q hQ hN => ?_)
 have H0 := Sep.start (w := w) (F := []) (by simp)
 refine W_sr (sA rfl rfl (s_nil (W_sr (sA rfl rfl (s_nil (W_seq (W_block (W_loop (γ := UInt8 × UInt8 × UInt8) (fun (x, y, o) => [(0, .int .u8 x.toNat), (1, .int .u8 y.toNat), (5, .int .u8 o.toNat)]) (fun (x, y, o) w' => Sep No w [] [] w' ∧ mulR 8 x y o = mulG a b) (fun (x, y, o) => y.toNat) (a, b, 0) ⟨rfl, rfl, rfl, trivial⟩ ⟨H0, rfl⟩ (fun (x, y, o) w1 H1 => ?_)))))))))
 obtain ⟨H1, hI⟩ := H1
 refine W_seq (W_sr (sM rfl rfl (sV rfl (py_gtr rfl rfl) (s_nil (W_ifd rfl (fun c1 => ?_) (fun c1 => ?_))))))
 ·refine W_skip (W_seq (W_block (W_seq (W_sr (sM rfl rfl (sV rfl (py_and8 (b := 1) rfl rfl) (sV rfl (py_eql rfl rfl) (s_nil (W_ifd rfl (fun c2 => ?_) (fun c2 => ?_))))))))))
  ·refine W_reg (sM rfl rfl (sM rfl rfl (sV rfl (py_xor8 rfl rfl) (sA rfl rfl (s_nil (W_sr (sM rfl rfl (sV rfl (py_and8 (b := 128) rfl rfl) (sV rfl (py_neq rfl rfl) (s_nil (W_ifd rfl (fun c3 => ?_) (fun c3 => ?_))))))))))))
   ·refine W_reg (sM rfl rfl (sV rfl (py_shl8 (k := 1) (by omega) rfl rfl) (sV rfl (py_xor8 (b := 29) rfl rfl) (sA rfl rfl (s_nil (W_reg (sM rfl rfl (sV rfl (py_shr8 (k := 1) rfl rfl) (sA rfl rfl (s_nil (⟨(_, _, _), ⟨rfl, rfl, rfl, trivial⟩, ⟨H1, ?_⟩, ?_⟩)))))))))))
    ·rw [← hI, mulR_round x y o, xt, if_neg (fun e => c3 ((u8_inj (b := 0)).2 e)), if_pos ((u8_inj (b := 1)).1 c2)]
    ·dsimp only
     rw [shrN_toNat]
     omega
   ·refine W_reg (sM rfl rfl (sV rfl (py_shl8 (k := 1) (by omega) rfl rfl) (sA rfl rfl (s_nil (W_reg (sM rfl rfl (sV rfl (py_shr8 (k := 1) rfl rfl) (sA rfl rfl (s_nil (⟨(_, _, _), ⟨rfl, rfl, rfl, trivial⟩, ⟨H1, ?_⟩, ?_⟩))))))))))
    ·rw [← hI, mulR_round x y o, xt, if_pos (u8_zero (by omega)), if_pos ((u8_inj (b := 1)).1 c2)]
    ·dsimp only
     rw [shrN_toNat]
     omega
  ·refine W_skip (W_sr (sM rfl rfl (sV rfl (py_and8 (b := 128) rfl rfl) (sV rfl (py_neq rfl rfl) (s_nil (W_ifd rfl (fun c4 => ?_) (fun c4 => ?_)))))))
   ·refine W_reg (sM rfl rfl (sV rfl (py_shl8 (k := 1) (by omega) rfl rfl) (sV rfl (py_xor8 (b := 29) rfl rfl) (sA rfl rfl (s_nil (W_reg (sM rfl rfl (sV rfl (py_shr8 (k := 1) rfl rfl) (sA rfl rfl (s_nil (⟨(_, _, _), ⟨rfl, rfl, rfl, trivial⟩, ⟨H1, ?_⟩, ?_⟩)))))))))))
    ·rw [← hI, mulR_round x y o, xt, if_neg (fun e => c4 ((u8_inj (b := 0)).2 e)), if_neg (fun e => c2 ((u8_inj (b := 1)).2 e))]
    ·dsimp only
     rw [shrN_toNat]
     omega
   ·refine W_reg (sM rfl rfl (sV rfl (py_shl8 (k := 1) (by omega) rfl rfl) (sA rfl rfl (s_nil (W_reg (sM rfl rfl (sV rfl (py_shr8 (k := 1) rfl rfl) (sA rfl rfl (s_nil (⟨(_, _, _), ⟨rfl, rfl, rfl, trivial⟩, ⟨H1, ?_⟩, ?_⟩))))))))))
    ·rw [← hI, mulR_round x y o, xt, if_pos (u8_zero (by omega)), if_neg (fun e => c2 ((u8_inj (b := 1)).2 e))]
    ·dsimp only
     rw [shrN_toNat]
     omega
 ·refine W_exit (W_sr (sM rfl rfl (sA rfl rfl (s_nil (rT hQ Tryz.results333 rfl ?_)))))
  obtain rfl : y = 0 := u8_zero (by omega)
  exact ⟨H1.ext, by rw [← hI, mulR_zero]⟩
theorem Tryz_spec_MulG {w : World} {a : UInt8} {b : UInt8}  : Ret Tryz.prog 276 #[.int .u8 a.toNat, .int .u8 b.toNat] w fun v w' => Ext No w w' ∧ (v = .int .u8 (mulG a b).toNat) := by
 have al := a.toNat_lt
 refine ret_Q (vs := [.int .u8 a.toNat, .int .u8 b.toNat]) Tryz.func276 rfl Tryz.ntmps276 rfl (fun Q hQ hN => ?_)
 have H0 := Sep.start (w := w) (F := []) (by simp)
 refine W_sr (sA rfl rfl (s_nil (W_sr (sA rfl rfl (s_nil (W_sr (sM rfl rfl (sV rfl (py_conv tu5 tu3 rfl (in64 ⟨by omega, by omega⟩)) (sA rfl rfl (s_nil (W_seq (W_sr (sA rfl rfl (s_nil (W_block (W_loop (γ := Nat × UInt8 × UInt8) (fun (k, x, o) => [(1, .int .u8 b.toNat), (5, .int .i64 o.toNat), (6, .int .i64 x.toNat), (7, .int .i64 k)]) (fun (k, x, o) w' => Sep No w [] [] w' ∧ k ≤ 8 ∧ mulR (8 - k) x (shrN b k) o = mulG a b) (fun (k, x, o) => 8 - k) (0, a, 0) ⟨rfl, rfl, rfl, rfl, trivial⟩ ⟨H0, by omega, by rw [shrN_zero]; rfl⟩ (fun (k, x, o) w1 H1 => ?_)))))))))))))))))
 obtain ⟨H1, hk, hI⟩ := H1
 refine W_seq (W_sr (sM rfl rfl (sV rfl (py_lss rfl rfl) (s_nil (W_ifd rfl (fun c1 => ?_) (fun c1 => ?_))))))
 ·refine W_skip (W_seq (W_block (W_seq (W_sr (sM rfl rfl (sM rfl rfl (sV rfl (py_conv tu3 tu237 rfl (inu64 (by omega))) (sV rfl (py_shr8 (k := k) rfl rfl) (sV rfl (py_and8 (b := 1) rfl rfl) (sV rfl (py_eql rfl rfl) (s_nil (W_ifd rfl (fun c2 => ?_) (fun c2 => ?_)))))))))))))
  ·refine W_reg (sM rfl rfl (sM rfl rfl (sV rfl (py_xorI o x rfl rfl) (sA rfl rfl (s_nil (W_seq ?_))))))
   have xl := x.toNat_lt
   refine W_reg (sM rfl rfl (sV rfl (py_mul rfl rfl (in64 ⟨by omega, by omega⟩)) (sA rfl rfl (s_nil (W_sr (sM rfl rfl (sV rfl (py_gtr rfl rfl) (s_nil (W_ifd rfl (fun c3 => ?_) (fun c3 => ?_))))))))))
   ·refine W_reg (sM rfl rfl (sV rfl (py_xor rfl rfl) (sA rfl rfl (s_nil (W_reg (sM rfl rfl (sV rfl (py_add rfl rfl (in64 ⟨by omega, by omega⟩)) (sA rfl rfl (s_nil (⟨(k + 1, xt x, _), ⟨rfl, rfl, eqI (xt_big x (by omega)), rfl, trivial⟩, ⟨H1, by omega, ?_⟩, by dsimp only; omega⟩))))))))))
    rw [mulR_next (k := k) (by omega) x b o, if_pos (u8_one c2)] at hI
    exact hI
   ·refine W_skip (W_reg (sM rfl rfl (sV rfl (py_add rfl rfl (in64 ⟨by omega, by omega⟩)) (sA rfl rfl (s_nil (⟨(k + 1, xt x, _), ⟨rfl, rfl, eqI (xt_small x (by omega)), rfl, trivial⟩, ⟨H1, by omega, ?_⟩, by dsimp only; omega⟩))))))
    rw [mulR_next (k := k) (by omega) x b o, if_pos (u8_one c2)] at hI
    exact hI
  ·refine W_skip (W_seq ?_)
   have xl := x.toNat_lt
   refine W_reg (sM rfl rfl (sV rfl (py_mul rfl rfl (in64 ⟨by omega, by omega⟩)) (sA rfl rfl (s_nil (W_sr (sM rfl rfl (sV rfl (py_gtr rfl rfl) (s_nil (W_ifd rfl (fun c4 => ?_) (fun c4 => ?_))))))))))
   ·refine W_reg (sM rfl rfl (sV rfl (py_xor rfl rfl) (sA rfl rfl (s_nil (W_reg (sM rfl rfl (sV rfl (py_add rfl rfl (in64 ⟨by omega, by omega⟩)) (sA rfl rfl (s_nil (⟨(k + 1, xt x, _), ⟨rfl, rfl, eqI (xt_big x (by omega)), rfl, trivial⟩, ⟨H1, by omega, ?_⟩, by dsimp only; omega⟩))))))))))
    rw [mulR_next (k := k) (by omega) x b o, if_neg (fun e => c2 ((u8_inj (b := 1)).2 e))] at hI
    exact hI
   ·refine W_skip (W_reg (sM rfl rfl (sV rfl (py_add rfl rfl (in64 ⟨by omega, by omega⟩)) (sA rfl rfl (s_nil (⟨(k + 1, xt x, _), ⟨rfl, rfl, eqI (xt_small x (by omega)), rfl, trivial⟩, ⟨H1, by omega, ?_⟩, by dsimp only; omega⟩))))))
    rw [mulR_next (k := k) (by omega) x b o, if_neg (fun e => c2 ((u8_inj (b := 1)).2 e))] at hI
    exact hI
 ·refine W_exit (W_sr (sM rfl rfl (sV rfl (py_conv8 tu3 tu5 rfl) (sA rfl rfl (s_nil (rT hQ Tryz.results276 rfl ?_))))))
  obtain rfl : k = 8 := by omega
  exact ⟨H1.ext, by rw [u8Of_nat, ← hI]; rfl⟩
theorem Tryz_spec_PowG {w : World} {a : UInt8}  : Ret Tryz.prog 327 #[.int .u8 a.toNat, .int .i64 254] w fun v w' => Ext No w w' ∧ (v = .int .u8 (invG a).toNat) := by
 refine ret_Q (vs := [.int .u8 a.toNat, .int .i64 254]) Tryz.func327 rfl Tryz.ntmps327 rfl (fun Q hQ hN => ?_)
 have H0 := Sep.start (w := w) (F := []) (by simp)
 refine W_sr (sA rfl rfl (s_nil (W_seq (W_sr (sM rfl rfl (sV rfl (py_lss rfl rfl) (s_nil (W_ifd rfl (fun c1 => ?_) (fun c1 => ?_)))))))))
 ·exact absurd c1 (by decide)
 ·refine W_skip (W_seq (W_sr (sM rfl rfl (sV rfl (py_gtr rfl rfl) (sM rfl rfl (s_grp 2 (j := 2) (want := true) (t := 12) rfl rfl rfl rfl (fun hg1 kk1 => s_val (wgE rfl rfl rfl hg1) rfl rfl (py_move rfl) (s_val (wgE rfl rfl rfl hg1) rfl rfl (py_neq rfl rfl) (kk1 _ _ (kx rfl (kx rfl k0)) rfl Ext.refl))) (fun w1 e1 => ?_)))))))
  have H1 := H0.to e1
  refine sV rfl (py_band rfl rfl) (s_nil (W_if rfl (fun c2 => ?_) (fun c2 => ?_)))
  ·refine W_reg (sM rfl rfl (sV rfl (py_rem rfl rfl (by omega)) (sA rfl rfl (s_nil (W_seq (W_sr (sM rfl rfl (sV rfl (py_gtr rfl rfl) (sM rfl rfl (s_grp 2 (j := 2) (want := true) (t := 20) rfl rfl rfl rfl (fun hg2 kk2 => s_val (wgE rfl rfl rfl hg2) rfl rfl (py_move rfl) (s_val (wgE rfl rfl rfl hg2) rfl rfl (py_eql rfl rfl) (kk2 _ _ (kx rfl (kx rfl k0)) rfl Ext.refl))) (fun w2 e2 => ?_)))))))))))
   have H2 := H1.to e2
   refine sV rfl (py_band rfl rfl) (s_nil (W_if rfl (fun c3 => ?_) (fun c3 => ?_)))
   ·refine W_sr (sA rfl rfl (s_nil (rT hQ Tryz.results327 rfl ?_)))
    obtain rfl : a = 0 := u8_zero (by simp at c3; omega)
    exact ⟨H2.ext, by rw [inv_zero]; rfl⟩
   ·refine W_skip (W_sr (sA rfl rfl (s_nil (W_seq (W_block (W_loop (γ := Nat × UInt8) (fun (m, o) => [(0, .int .u8 a.toNat), (1, .int .i64 m), (5, .int .u8 o.toNat)]) (fun (m, o) w' => Sep No w [] [] w' ∧ m ≤ 254 ∧ mulG o (pw a m) = invG a) (fun (m, o) => m) (254, 1) ⟨rfl, eqI (by decide), rfl, trivial⟩ ⟨H2, by omega, mul_one_l _⟩ (fun (m, o) w3 H3 => ?_)))))))
    obtain ⟨H3, hm, hI⟩ := H3
    refine W_seq (W_sr (sM rfl rfl (sV rfl (py_gtr rfl rfl) (s_nil (W_ifd rfl (fun c4 => ?_) (fun c4 => ?_))))))
    ·refine W_skip (W_seq (W_block (W_reg (sM rfl rfl (sM rfl rfl (s_call (wn rfl) rfl rfl (pc_call Tryz.func276 rfl Tryz_nm276 rfl) Tryz_spec_MulG (fun v1 w4 r1 => ?_)))))))
     obtain ⟨e3, rfl⟩ := r1
     have H4 := H3.to e3
     refine sA rfl rfl (s_nil (W_reg (sM rfl rfl (sV rfl (py_sub rfl rfl (in64 ⟨by omega, by omega⟩)) (sA rfl rfl (s_nil ?_))))))
     obtain ⟨m, rfl⟩ : ∃ j, m = j + 1 := ⟨m - 1, by omega⟩
     refine ⟨(m, _), ⟨rfl, eqI (by omega), rfl, trivial⟩, ⟨H4, by omega, by rw [← hI, pw_step]⟩, by dsimp only; omega⟩
    ·refine W_exit (W_sr (sM rfl rfl (sA rfl rfl (s_nil (rT hQ Tryz.results327 rfl ?_)))))
     obtain rfl : m = 0 := by omega
     exact ⟨H3.ext, by rw [← hI]; show _ = Value.int .u8 (mulG o 1).toNat; rw [mul_one_r]⟩
  ·refine W_skip (W_seq (W_sr (sM rfl rfl (sV rfl (py_gtr rfl rfl) (sM rfl rfl (s_grp 2 (j := 2) (want := true) (t := 20) rfl rfl rfl rfl (fun hg3 kk3 => s_val (wgE rfl rfl rfl hg3) rfl rfl (py_move rfl) (s_val (wgE rfl rfl rfl hg3) rfl rfl (py_eql rfl rfl) (kk3 _ _ (kx rfl (kx rfl k0)) rfl Ext.refl))) (fun w5 e4 => ?_)))))))
   have H5 := H1.to e4
   refine sV rfl (py_band rfl rfl) (s_nil (W_if rfl (fun c5 => ?_) (fun c5 => ?_)))
   ·refine W_sr (sA rfl rfl (s_nil (rT hQ Tryz.results327 rfl ?_)))
    obtain rfl : a = 0 := u8_zero (by simp at c5; omega)
    exact ⟨H5.ext, by rw [inv_zero]; rfl⟩
   ·refine W_skip (W_sr (sA rfl rfl (s_nil (W_seq (W_block (W_loop (γ := Nat × UInt8) (fun (m, o) => [(0, .int .u8 a.toNat), (1, .int .i64 m), (5, .int .u8 o.toNat)]) (fun (m, o) w' => Sep No w [] [] w' ∧ m ≤ 254 ∧ mulG o (pw a m) = invG a) (fun (m, o) => m) (254, 1) ⟨rfl, eqI (by decide), rfl, trivial⟩ ⟨H5, by omega, mul_one_l _⟩ (fun (m, o) w6 H6 => ?_)))))))
    obtain ⟨H6, hm, hI⟩ := H6
    refine W_seq (W_sr (sM rfl rfl (sV rfl (py_gtr rfl rfl) (s_nil (W_ifd rfl (fun c6 => ?_) (fun c6 => ?_))))))
    ·refine W_skip (W_seq (W_block (W_reg (sM rfl rfl (sM rfl rfl (s_call (wn rfl) rfl rfl (pc_call Tryz.func276 rfl Tryz_nm276 rfl) Tryz_spec_MulG (fun v2 w7 r2 => ?_)))))))
     obtain ⟨e5, rfl⟩ := r2
     have H7 := H6.to e5
     refine sA rfl rfl (s_nil (W_reg (sM rfl rfl (sV rfl (py_sub rfl rfl (in64 ⟨by omega, by omega⟩)) (sA rfl rfl (s_nil ?_))))))
     obtain ⟨m, rfl⟩ : ∃ j, m = j + 1 := ⟨m - 1, by omega⟩
     refine ⟨(m, _), ⟨rfl, eqI (by omega), rfl, trivial⟩, ⟨H7, by omega, by rw [← hI, pw_step]⟩, by dsimp only; omega⟩
    ·refine W_exit (W_sr (sM rfl rfl (sA rfl rfl (s_nil (rT hQ Tryz.results327 rfl ?_)))))
     obtain rfl : m = 0 := by omega
     exact ⟨H6.ext, by rw [← hI]; show _ = Value.int .u8 (mulG o 1).toNat; rw [mul_one_r]⟩
theorem Tryz_impl_PowG {w : World} {a : UInt8}  : Ret Tryz.prog 351 #[.int .u8 a.toNat, .int .i64 254] w fun v w' => Ext No w w' ∧ (v = .int .u8 (invG a).toNat) := by
 refine ret_Q (vs := [.int .u8 a.toNat, .int .i64 254]) Tryz.func351 rfl Tryz.ntmps351 rfl (fun Q hQ hN => ?_)
 have H0 := Sep.start (w := w) (F := []) (by simp)
 refine W_sr (sA rfl rfl (s_nil (W_seq (W_sr (sM rfl rfl (sV rfl (py_lss rfl rfl) (s_nil (W_ifd rfl (fun c1 => ?_) (fun c1 => ?_)))))))))
 ·exact absurd c1 (by decide)
 ·refine W_skip (W_sr (sA rfl rfl (s_nil (W_seq (W_block (W_loop (γ := Nat × UInt8 × UInt8) (fun (m, x, o) => [(0, .int .u8 x.toNat), (1, .int .i64 m), (5, .int .u8 o.toNat)]) (fun (m, x, o) w' => Sep No w [] [] w' ∧ m ≤ 254 ∧ mulG o (pw x m) = invG a) (fun (m, x, o) => m) (254, a, 1) ⟨rfl, rfl, rfl, trivial⟩ ⟨H0, by omega, mul_one_l _⟩ (fun (m, x, o) w1 H1 => ?_)))))))
  obtain ⟨H1, hm, hI⟩ := H1
  refine W_seq (W_sr (sM rfl rfl (sV rfl (py_gtr rfl rfl) (s_nil (W_ifd rfl (fun c2 => ?_) (fun c2 => ?_))))))
  ·refine W_skip (W_seq (W_block (W_seq (W_sr (sM rfl rfl (sV rfl (py_andI1 (m := m) (by omega) rfl rfl) (sV rfl (py_eql rfl rfl) (s_nil (W_ifd rfl (fun c3 => ?_) (fun c3 => ?_))))))))))
   ·refine W_reg (sM rfl rfl (sM rfl rfl (s_call (wn rfl) rfl rfl (pc_call Tryz.func333 rfl Tryz_nm333 rfl) Tryz_impl_MulG (fun v1 w2 r1 => ?_))))
    obtain ⟨e1, rfl⟩ := r1
    have H2 := H1.to e1
    refine sA rfl rfl (s_nil (W_reg (sM rfl rfl (sM rfl rfl (s_call (wn rfl) rfl rfl (pc_call Tryz.func333 rfl Tryz_nm333 rfl) Tryz_impl_MulG (fun v2 w3 r2 => ?_))))))
    obtain ⟨e2, rfl⟩ := r2
    have H3 := H2.to e2
    refine sA rfl rfl (s_nil (W_reg (sM rfl rfl (sV rfl (py_shrI1 (m := m) rfl rfl) (sA rfl rfl (s_nil (⟨(m / 2, _, _), ⟨rfl, rfl, rfl, trivial⟩, ⟨H3, by omega, by rw [← hI]; exact (pw_odd o x (m := m) (by omega)).symm⟩, by dsimp only; omega⟩)))))))
   ·refine W_skip (W_reg (sM rfl rfl (sM rfl rfl (s_call (wn rfl) rfl rfl (pc_call Tryz.func333 rfl Tryz_nm333 rfl) Tryz_impl_MulG (fun v3 w4 r3 => ?_)))))
    obtain ⟨e3, rfl⟩ := r3
    have H4 := H1.to e3
    refine sA rfl rfl (s_nil (W_reg (sM rfl rfl (sV rfl (py_shrI1 (m := m) rfl rfl) (sA rfl rfl (s_nil (⟨(m / 2, _, _), ⟨rfl, rfl, rfl, trivial⟩, ⟨H4, by omega, by rw [← hI]; exact (pw_even o x (m := m) (by omega)).symm⟩, by dsimp only; omega⟩)))))))
  ·refine W_exit (W_sr (sM rfl rfl (sA rfl rfl (s_nil (rT hQ Tryz.results351 rfl ?_)))))
   obtain rfl : m = 0 := by omega
   exact ⟨H1.ext, by rw [← hI]; show _ = Value.int .u8 (mulG o 1).toNat; rw [mul_one_r]⟩
theorem Tryz_impl_div {w : World} {a : UInt8} {b : UInt8}  : Ret Tryz.prog 332 #[.int .u8 a.toNat, .int .u8 b.toNat] w fun v w' => Ext No w w' ∧ (v = .int .u8 (mulG a (invG b)).toNat) := by
 refine ret_Q (vs := [.int .u8 a.toNat, .int .u8 b.toNat]) Tryz.func332 rfl Tryz.ntmps332 rfl (fun Q hQ hN => ?_)
 have H0 := Sep.start (w := w) (F := []) (by simp)
 refine W_sr (sA rfl rfl (s_nil (W_sr (sM rfl rfl (sM rfl rfl (s_call (wn rfl) rfl rfl (pc_call Tryz.func351 rfl Tryz_nm351 rfl) Tryz_impl_PowG (fun v1 w1 r1 => ?_)))))))
 obtain ⟨e1, rfl⟩ := r1
 have H1 := H0.to e1
 refine s_call (wn rfl) rfl rfl (pc_call Tryz.func333 rfl Tryz_nm333 rfl) Tryz_impl_MulG (fun v2 w2 r2 => ?_)
 obtain ⟨e2, rfl⟩ := r2
 have H2 := H1.to e2
 refine sA rfl rfl (s_nil (rT hQ Tryz.results332 rfl ?_))
 exact ⟨H2.ext, rfl⟩
theorem Tryz_spec_l1Inv {w : World} {a : UInt8}  : Ret Tryz.prog 275 #[.int .u8 a.toNat] w fun v w' => Ext No w w' ∧ (v = .int .u8 (invG a).toNat) := by
 refine ret_Q (vs := [.int .u8 a.toNat]) Tryz.func275 rfl Tryz.ntmps275 rfl (fun Q hQ hN => ?_)
 have H0 := Sep.start (w := w) (F := []) (by simp)
 refine W_sr (sA rfl rfl (s_nil (W_sr (sM rfl rfl (s_call (wn rfl) rfl rfl (pc_call Tryz.func327 rfl Tryz_nm327 rfl) Tryz_spec_PowG (fun v1 w1 r1 => ?_))))))
 obtain ⟨e1, rfl⟩ := r1
 have H1 := H0.to e1
 refine sA rfl rfl (s_nil (rT hQ Tryz.results275 rfl ?_))
 exact ⟨H1.ext, rfl⟩
theorem Tryz_impl_cauchy {w : World} {j i : Int} (hj : 0 ≤ j ∧ j ≤ 1000) : Ret Tryz.prog 331 #[.int .i64 j, .int .i64 i] w fun v w' => Ext No w w' ∧ (v = .int .u8 (cauchy j i).toNat) := by
 refine ret_Q (vs := [.int .i64 j, .int .i64 i]) Tryz.func331 rfl Tryz.ntmps331 rfl (fun Q hQ hN => ?_)
 have H0 := Sep.start (w := w) (F := []) (by simp)
 refine W_sr (sA rfl rfl (s_nil (W_sr (sM rfl rfl (sV rfl (py_add rfl rfl (in64 ⟨by omega, by omega⟩)) (sV rfl (py_conv8 tu2 tu5 rfl) (sM rfl rfl (sV rfl (py_conv8 tu2 tu5 rfl) (sV rfl (py_xor8 rfl rfl) (s_call (wn rfl) rfl rfl (pc_call Tryz.func332 rfl Tryz_nm332 rfl) (Tryz_impl_div (a := 1)) (fun v1 w1 r1 => ?_)))))))))))
 obtain ⟨e1, rfl⟩ := r1
 have H1 := H0.to e1
 refine sA rfl rfl (s_nil (rT hQ Tryz.results331 rfl ?_))
 exact ⟨H1.ext, by rw [mul_one_l, cauchy]⟩
theorem Tryz_spec_l1Cauchy {w : World} {j i : Int} (hj : 0 ≤ j ∧ j ≤ 1000) : Ret Tryz.prog 195 #[.int .i64 j, .int .i64 i] w fun v w' => Ext No w w' ∧ (v = .int .u8 (cauchy j i).toNat) := by
 refine ret_Q (vs := [.int .i64 j, .int .i64 i]) Tryz.func195 rfl Tryz.ntmps195 rfl (fun Q hQ hN => ?_)
 have H0 := Sep.start (w := w) (F := []) (by simp)
 refine W_sr (sA rfl rfl (s_nil (W_sr (sM rfl rfl (sV rfl (py_add rfl rfl (in64 ⟨by omega, by omega⟩)) (sV rfl (py_conv8 tu2 tu5 rfl) (sM rfl rfl (sV rfl (py_conv8 tu2 tu5 rfl) (sV rfl (py_xor8 rfl rfl) (s_call (wn rfl) rfl rfl (pc_call Tryz.func275 rfl Tryz_nm275 rfl) Tryz_spec_l1Inv (fun v1 w1 r1 => ?_)))))))))))
 obtain ⟨e1, rfl⟩ := r1
 have H1 := H0.to e1
 refine sA rfl rfl (s_nil (rT hQ Tryz.results195 rfl ?_))
 exact ⟨H1.ext, by rw [cauchy]⟩
end Go.Wk
namespace Go.Wk
open Go.Proofs Rp
set_option maxRecDepth 10000
theorem Tryz_spec_l1Scale {w : World} {xs : List UInt8} {xsA : Option Addr} {xsC : Nat} {c : UInt8} (xsS : Sees w [.slice xsA xs.length xsC] xs) (hl : xs.length ≤ 1048576) : Ret Tryz.prog 196 #[.slice xsA xs.length xsC, .int .u8 c.toNat] w fun v w' => Ext No w w' ∧ (Res w w' [v] (scaleG xs c)) := by
 have xsL := sL xsS
 obtain ⟨xsF, xsO⟩ := xsS
 refine ret_Q (vs := [.slice xsA xs.length xsC, .int .u8 c.toNat]) Tryz.func196 rfl Tryz.ntmps196 rfl (fun Q hQ hN => ?_)
 have H0 := Sep.start (w := w) (F := [seen false [.slice xsA xs.length xsC] xs xsF]) (all_cons xsO (by simp))
 refine W_sr (sA rfl rfl (s_nil (W_sr (s_lit0 (α := UInt8) (wn rfl) rfl tu45 Tryz_ty5 H0 (fun b1 w1 e1 g1 H1 => ?_)))))
 refine sA rfl rfl (s_nil (W_seq (W_sr (sA rfl rfl (s_nil (W_block (W_loop (γ := Nat × Value × List Nat) (fun (k, vo, f) => [(0, .slice xsA xs.length xsC), (1, .int .u8 c.toNat), (5, vo), (6, .int .i64 k)]) (fun (k, vo, f) w' => Sep No w [mine [vo] (scaleG (xs.take k) c) f] [seen false [.slice xsA xs.length xsC] xs xsF] w' ∧ k ≤ xs.length) (fun (k, vo, f) => xs.length - k) (0, _, _) ⟨rfl, rfl, rfl, rfl, trivial⟩ ⟨H1, by omega⟩ (fun (k, vo, f) w2 H2 => ?_))))))))
 obtain ⟨H2, hk⟩ := H2
 refine W_seq (W_sr (sM rfl rfl (sM rfl rfl (sV rfl (py_len tu45 rfl) (sV rfl (py_lss rfl rfl) (s_nil (W_ifd rfl (fun c1 => ?_) (fun c1 => ?_))))))))
 ·refine W_skip (W_seq (W_block ?_))
  have sl := scaleG_len (xs.take k) c
  rw [List.length_take] at sl
  obtain ⟨eb1, eo1, ee1, ec1⟩ := elem_u8 (H2.seen 0 rfl) k (by omega)
  refine W_reg (sM rfl rfl (sM rfl rfl (sM rfl rfl (sV rfl (py_elz tu45 ts5 rfl rfl ee1 k (by omega) (by omega)) (sV rfl (py_load tu5 rfl rfl ec1) (sM rfl rfl (s_call (wn rfl) rfl rfl (pc_call Tryz.func276 rfl Tryz_nm276 rfl) Tryz_spec_MulG (fun v1 w3 r1 => ?_))))))))
  obtain ⟨e2, rfl⟩ := r1
  have H3 := H2.to e2
  refine s_lit1 (wn rfl) rfl tu45 Tryz_ty5 rfl rfl rfl rfl H3 (fun b2 w4 e3 g2 H4 => ?_)
  refine s_app1 (wn rfl) rfl tu45 Tryz_ty5 rfl rfl rfl H4 0 1 rfl rfl own_b8 (by unfold maxLen; omega) (by omega) (fun v2 w5 fp1 H5 => ?_)
  refine sA rfl rfl (s_nil (W_reg (sM rfl rfl (sV rfl (py_add rfl rfl (in64 ⟨by omega, by omega⟩)) (sA rfl rfl (s_nil (⟨(k + 1, _, _), ⟨rfl, rfl, rfl, rfl, trivial⟩, ⟨scaleG_step (xs := xs) (c := c) (k := k) (by omega) ▸ (H5.dtake 1), by omega⟩, by dsimp only; omega⟩)))))))
 ·refine W_exit (W_sr (sM rfl rfl (sA rfl rfl (s_nil (rT hQ Tryz.results196 rfl ?_)))))
  obtain rfl : k = xs.length := by omega
  exact ⟨H2.ext, by
   have h := H2.out 0 rfl
   rwa [List.take_length] at h⟩
theorem Tryz_spec_l1Add {w : World} {xs ys : List UInt8} {xsA ysA : Option Addr} {xsC ysC : Nat} (xsS : Sees w [.slice xsA xs.length xsC] xs) (ysS : Sees w [.slice ysA ys.length ysC] ys) (hl : xs.length ≤ 1048576 ∧ xs.length ≤ ys.length) : Ret Tryz.prog 197 #[.slice xsA xs.length xsC, .slice ysA ys.length ysC] w fun v w' => Ext No w w' ∧ (Res w w' [v] (addG xs ys)) := by
 have xsL := sL xsS
 obtain ⟨xsF, xsO⟩ := xsS
 have ysL := sL ysS
 obtain ⟨ysF, ysO⟩ := ysS
 refine ret_Q (vs := [.slice xsA xs.length xsC, .slice ysA ys.length ysC]) Tryz.func197 rfl Tryz.ntmps197 rfl (fun Q hQ hN => ?_)
 have H0 := Sep.start (w := w) (F := [seen false [.slice xsA xs.length xsC] xs xsF, seen false [.slice ysA ys.length ysC] ys ysF]) (all_cons xsO (all_cons ysO (by simp)))
 refine W_sr (sA rfl rfl (s_nil (W_sr (s_lit0 (α := UInt8) (wn rfl) rfl tu45 Tryz_ty5 H0 (fun b1 w1 e1 g1 H1 => ?_)))))
 refine sA rfl rfl (s_nil (W_seq (W_sr (sA rfl rfl (s_nil (W_block (W_loop (γ := Nat × Value × List Nat) (fun (k, vo, f) => [(0, .slice xsA xs.length xsC), (1, .slice ysA ys.length ysC), (5, vo), (6, .int .i64 k)]) (fun (k, vo, f) w' => Sep No w [mine [vo] (addG (xs.take k) (ys.take k)) f] [seen false [.slice xsA xs.length xsC] xs xsF, seen false [.slice ysA ys.length ysC] ys ysF] w' ∧ k ≤ xs.length) (fun (k, vo, f) => xs.length - k) (0, _, _) ⟨rfl, rfl, rfl, rfl, trivial⟩ ⟨H1, by omega⟩ (fun (k, vo, f) w2 H2 => ?_))))))))
 obtain ⟨H2, hk⟩ := H2
 refine W_seq (W_sr (sM rfl rfl (sM rfl rfl (sV rfl (py_len tu45 rfl) (sV rfl (py_lss rfl rfl) (s_nil (W_ifd rfl (fun c1 => ?_) (fun c1 => ?_))))))))
 ·refine W_skip (W_seq (W_block ?_))
  have sl := addG_len (xs := xs.take k) (ys := ys.take k) (by rw [List.length_take, List.length_take]; omega)
  rw [List.length_take] at sl
  obtain ⟨eb1, eo1, ee1, ec1, em1⟩ := elem_u8m (H2.seen 0 rfl) k (by omega)
  obtain ⟨eb2, eo2, ee2, ec2, em2⟩ := elem_u8m (H2.seen 1 rfl) k (by omega)
  refine W_drw (S := Ext (· ∈ f) _) [(0, true), (1, true), (2, true), (3, true), (4, true), (5, true), (6, true), (7, true), (8, true), (9, true), (10, false), (11, false), (12, false)] (by kernel_rfl) (by kernel_rfl) (by kernel_rfl) rfl (fun _ => Ext.refl.drawn _) (fun q1 => ?_)
  have H3 := H2.drawn q1
  refine dM rfl rfl rfl (dM rfl rfl rfl (dM rfl rfl rfl (dV rfl rfl (fun zw hx => py_elz tu45 ts5 rfl rfl ee1 k (by omega) (by omega)) (dV rfl rfl (fun zw hx => py_load tu5 rfl rfl (hx.cellM (H3.off 0 rfl 0 rfl em1) ec1)) (dM rfl rfl rfl (dM rfl rfl rfl (dV rfl rfl (fun zw hx => py_elz tu45 ts5 rfl rfl ee2 k (by omega) (by omega)) (dV rfl rfl (fun zw hx => py_load tu5 rfl rfl (hx.cellM (H3.off 1 rfl 0 rfl em2) ec2)) (dV rfl rfl (fun zw hx => py_xor8 rfl rfl) (d_lit1 rfl (wn rfl) rfl tu45 Tryz_ty5 rfl rfl rfl rfl H3 (fun _ h e => h.trans e.no) (fun b2 w3 e2 g2 H4 => ?_)))))))))))
  refine d_app1 rfl (wn rfl) rfl tu45 Tryz_ty5 rfl rfl rfl H4 0 1 rfl rfl own_b8 (by unfold maxLen; omega) (by omega) (fun _ h e => h.trans e) (fun v1 w4 fp1 H5 => ?_)
  refine d_end rfl (wn rfl) rfl rfl (py_assign rfl) (d_nil (W_reg (sM rfl rfl (sV rfl (py_add rfl rfl (in64 ⟨by omega, by omega⟩)) (sA rfl rfl (s_nil (⟨(k + 1, _, _), ⟨rfl, rfl, rfl, rfl, trivial⟩, ⟨addG_step (xs := xs) (ys := ys) (k := k) (by omega) (by omega) ▸ (H5.dtake 1), by omega⟩, by dsimp only; omega⟩)))))))
 ·refine W_exit (W_sr (sM rfl rfl (sA rfl rfl (s_nil (rT hQ Tryz.results197 rfl ?_)))))
  obtain rfl : k = xs.length := by omega
  exact ⟨H2.ext, by
   have h := H2.out 0 rfl
   rwa [List.take_length, addG_take (by omega)] at h⟩
theorem Tryz_impl_put {w : World} {xs ys : List UInt8} {xsA ysA : Option Addr} {n xsC ysC : Nat} {c : UInt8} {fp g : List Nat} (o : own true w [.slice xsA n xsC] xs fp) (nd : fp.Nodup) (ysO : own false w [.slice ysA ys.length ysC] ys g) (hd : ∀ b ∈ g, b ∉ fp) (hl : xs.length = ys.length) : Ret Tryz.prog 289 #[.slice xsA n xsC, .slice ysA ys.length ysC, .int .u8 c.toNat] w fun v w' => (Mut w w' fp [.slice xsA n xsC] (addG xs (scaleG ys c))) := by
 obtain rfl := own_n o
 have len := oL o
 refine ret_Q (vs := [.slice xsA xs.length xsC, .slice ysA ys.length ysC, .int .u8 c.toNat]) Tryz.func289 rfl Tryz.ntmps289 rfl (fun Q hQ hN => ?_)
 have H0 := (Sep.begin o nd).look (r := seen false [.slice ysA ys.length ysC] ys g) ysO (fun b hb => by simpa [blocks, mine] using hd b hb)
 refine W_sr (sM rfl rfl (sV rfl (py_len tu45 rfl) (sM rfl rfl (s_nil (W_block (W_loop (γ := Nat × List Nat) (fun (k, f) => [(0, .slice xsA xs.length xsC), (2, .int .u8 c.toNat), (8, .slice ysA ys.length ysC), (9, .int .i64 ys.length), (10, .int .i64 k)]) (fun (k, f) w' => Sep (· ∈ fp) w [mine [.slice xsA xs.length xsC] (putG xs ys c k) f] [seen false [.slice ysA ys.length ysC] ys g] w' ∧ k ≤ xs.length) (fun (k, f) => xs.length - k) (0, fp) ⟨rfl, rfl, rfl, rfl, rfl, trivial⟩ ⟨(by rw [putG_zero]; exact H0), by omega⟩ (fun (k, f) w1 H1 => ?_)))))))
 obtain ⟨H1, hk⟩ := H1
 refine W_sr (sV rfl (py_lss rfl rfl) (s_nil (W_seq (W_ifd rfl (fun c1 => ?_) (fun c1 => ?_)))))
 ·refine W_skip (W_seq (W_block (W_seq ?_)))
  obtain ⟨eb1, eo1, ee1, ec1⟩ := elem_u8 (H1.seen 0 rfl) k (by omega)
  refine W_reg (sM rfl rfl (sV rfl (py_elz tu45 ts5 rfl rfl ee1 k (by omega) (by omega)) (sV rfl (py_load tu5 rfl rfl ec1) (sA rfl rfl (sA rfl rfl (s_nil ?_))))))
  have pl := putG_len (xs := xs) (ys := ys) (c := c) (k := k) hl
  have pg := putG_get (xs := xs) (ys := ys) (c := c) (k := k) hl (by omega)
  obtain ⟨eb2, eo2, ee2, ec2⟩ := elem_u8 (H1.mine 0 rfl) k (by rw [putG_len hl]; omega)
  refine W_drw (S := Ext No _) [(0, true), (1, true), (2, true), (3, true), (4, true), (5, true), (6, false), (7, true), (8, true), (9, false)] (by kernel_rfl) (by kernel_rfl) (by kernel_rfl) rfl (fun _ => Ext.refl.drawn _) (fun q1 => ?_)
  have H2 := H1.drawn q1
  refine dM rfl rfl rfl (dM rfl rfl rfl (dV rfl rfl (fun zw hx => py_elz tu45 ts5 rfl rfl ee2 k (by omega) (by omega)) (dV rfl rfl (fun zw hx => py_load tu5 rfl rfl (hx.cell ec2)) (dM rfl rfl rfl (dM rfl rfl rfl (d_call rfl (wn rfl) rfl rfl (pc_call Tryz.func333 rfl Tryz_nm333 rfl) Tryz_impl_MulG (fun hS _ _ r _ => hS.trans r.1.no) (fun v1 w2 r1 => ?_)))))))
  obtain ⟨e1, rfl⟩ := r1
  have H3 := H2.to e1
  refine dV rfl rfl (fun zw hx => py_xor8 rfl rfl) (dV rfl rfl (fun zw hx => py_elz tu45 ts5 rfl rfl ee2 k (by omega) (by omega)) (d_elst rfl (wn rfl) ts5 rfl H3 0 rfl k (by rw [putG_len hl]; omega) rfl ee2 rfl own_b8 (fun _ _ _ hr => absurd rfl hr) (fun w3 fp1 e2 H4 => ?_)))
  refine d_nil (W_reg (sV rfl (py_add rfl rfl (in64 ⟨by omega, by omega⟩)) (sM rfl rfl (s_nil ?_))))
  refine ⟨(k + 1, _), ⟨rfl, rfl, rfl, rfl, rfl, trivial⟩, ⟨by
   have h := H4
   rw [pg, putG_step hl (by omega)] at h
   exact h, by omega⟩, by dsimp only; omega⟩
 ·refine W_exit (hN _ _ (fin0 Tryz.results289 ?_))
  obtain rfl : k = xs.length := by omega
  have h := H1.done
  rw [putG_all rfl hl.symm] at h
  exact h
theorem Tryz_spec_l1Mix {w : World} {xs : List (List UInt8)} {xsA ysA : Option Addr} {xsC ysC : Nat} {ys : List UInt8} (xsS : Sees w [.slice xsA xs.length xsC] xs) (ysS : Sees w [.slice ysA ys.length ysC] ys) {n : Nat} (h0 : 0 < xs.length) (hy : xs.length ≤ ys.length) (hx : ∀ i, i < xs.length → (xs.getD i []).length = n) (hn : n ≤ 1048576) : Ret Tryz.prog 273 #[.slice xsA xs.length xsC, .slice ysA ys.length ysC] w fun v w' => Ext No w w' ∧ (Res w w' [v] (mixTo xs ys n xs.length)) := by
 have xsL := sL xsS
 obtain ⟨xsF, xsO⟩ := xsS
 have ysL := sL ysS
 obtain ⟨ysF, ysO⟩ := ysS
 obtain rfl := hx 0 h0
 refine ret_Q (vs := [.slice xsA xs.length xsC, .slice ysA ys.length ysC]) Tryz.func273 rfl Tryz.ntmps273 rfl (fun Q hQ hN => ?_)
 have H0 := Sep.start (w := w) (F := [seen false [.slice xsA xs.length xsC] xs xsF, seen false [.slice ysA ys.length ysC] ys ysF]) (all_cons xsO (all_cons ysO (by simp)))
 refine W_sr (sA rfl rfl (s_nil (W_seq ?_)))
 obtain ⟨eb1, eo1, ea1, ek1, ef1, ee1, ec1, eO1, eH1⟩ := elem_sl (H0.seen 0 rfl) 0 (by omega)
 have eP1 := H0.look1 0 rfl eO1 eH1
 refine W_reg (sM rfl rfl (sV rfl (py_elz tu112 ts45 rfl rfl ee1 0 (by omega) (by omega)) (sV rfl (py_load tu45 rfl rfl ec1) (sV rfl (py_len tu45 rfl) (s_make (wn rfl) rfl tu45 Tryz_ty5 own_z8 rfl (by omega) (by unfold maxLen; omega) eP1 (fun b1 w1 e1 g1 H1 => ?_))))))
 refine sA rfl rfl (s_nil (W_seq (W_sr (sA rfl rfl (s_nil (W_block (W_loop (γ := Nat × Value × List Nat) (fun (k, vo, f) => [(0, .slice xsA xs.length xsC), (1, .slice ysA ys.length ysC), (5, vo), (6, .int .i64 k)]) (fun (k, vo, f) w' => Sep No w [mine [vo] (mixTo xs ys (xs.getD 0 []).length k) f] [seen false [.slice xsA xs.length xsC] xs xsF, seen false [.slice ysA ys.length ysC] ys ysF] w' ∧ k ≤ xs.length) (fun (k, vo, f) => xs.length - k) (0, _, _) ⟨rfl, rfl, rfl, rfl, trivial⟩ ⟨(H1.ftake 2), by omega⟩ (fun (k, vo, f) w2 H2 => ?_))))))))
 obtain ⟨H2, hk⟩ := H2
 refine W_seq (W_sr (sM rfl rfl (sM rfl rfl (sV rfl (py_len tu112 rfl) (sV rfl (py_lss rfl rfl) (s_nil (W_ifd rfl (fun c1 => ?_) (fun c1 => ?_))))))))
 ·refine W_skip (W_seq (W_block ?_))
  have ml := mixTo_len (cs := ys) hx (k := k) (by omega)
  have sl := scaleG_len (xs.getD k []) (ys.getD k 0)
  have hxk := hx k (by omega)
  obtain ⟨oA, oC, oq⟩ := own_slice (H2.mine 0 rfl)
  cases oq
  obtain ⟨eb2, eo2, ea2, ek2, ef2, ee2, ec2, eO2, eH2⟩ := elem_sl (H2.seen 0 rfl) k (by omega)
  have eP2 := H2.look1 0 rfl eO2 eH2
  obtain ⟨eb3, eo3, ee3, ec3⟩ := elem_u8 (eP2.seen 1 rfl) k (by omega)
  refine W_drw (S := Ext No _) [(0, true), (1, true), (2, true), (3, true), (4, true), (5, true), (6, true), (7, true), (8, true), (9, false), (10, false), (11, false)] (by kernel_rfl) (by kernel_rfl) (by kernel_rfl) rfl (fun _ => Ext.refl.drawn _) (fun q1 => ?_)
  have H3 := eP2.drawn q1
  refine dM rfl rfl rfl (dM rfl rfl rfl (dM rfl rfl rfl (dV rfl rfl (fun zw hx => py_elz tu112 ts45 rfl rfl ee2 k (by omega) (by omega)) (dV rfl rfl (fun zw hx => py_load tu45 rfl rfl (hx.cell ec2)) (dM rfl rfl rfl (dM rfl rfl rfl (dV rfl rfl (fun zw hx => py_elz tu45 ts5 rfl rfl ee3 k (by omega) (by omega)) (dV rfl rfl (fun zw hx => py_load tu5 rfl rfl (hx.cell ec3)) (d_call rfl (wn rfl) rfl rfl (pc_call Tryz.func196 rfl Tryz_nm196 rfl) (Tryz_spec_l1Scale (H3.sees 2 rfl) (by omega)) (fun hS _ _ r _ => hS.trans r.1.no) (fun v1 w3 r1 => ?_))))))))))
  obtain ⟨e2, r1⟩ := r1
  obtain ⟨fp1, H4⟩ := H3.res e2 r1
  obtain ⟨a1, k1, q2⟩ := own_slice (H4.mine 1 rfl)
  cases q2
  refine d_call rfl (wn rfl) rfl rfl (pc_call Tryz.func197 rfl Tryz_nm197 rfl) (Tryz_spec_l1Add (H4.msees 0 rfl) (H4.msees 1 rfl) (by omega)) (fun hS _ _ r _ => hS.trans r.1.no) (fun v2 w4 r2 => ?_)
  obtain ⟨e3, r2⟩ := r2
  obtain ⟨fp2, H5⟩ := H4.res e3 r2
  obtain ⟨a2, k2, q3⟩ := own_slice (H5.mine 2 rfl)
  cases q3
  refine d_end rfl (wn rfl) rfl rfl (py_assign rfl) (d_nil (W_reg (sM rfl rfl (sV rfl (py_add rfl rfl (in64 ⟨by omega, by omega⟩)) (sA rfl rfl (s_nil (⟨(k + 1, _, _), ⟨rfl, rfl, rfl, rfl, trivial⟩, ⟨H5.ftake 2 |>.sub (.cons _ (.cons _ (.cons_cons _ List.Sublist.slnil))), by omega⟩, by dsimp only; omega⟩)))))))
 ·refine W_exit (W_sr (sM rfl rfl (sA rfl rfl (s_nil (rT hQ Tryz.results273 rfl ?_)))))
  obtain rfl : k = xs.length := by omega
  exact ⟨H2.ext, H2.out 0 rfl⟩
theorem Tryz_impl_mixed {w : World} {xs : List (List UInt8)} {xsA ysA : Option Addr} {xsC ysC : Nat} {ys : List UInt8} (xsS : Sees w [.slice xsA xs.length xsC] xs) (ysS : Sees w [.slice ysA ys.length ysC] ys) {n : Nat} (h0 : 0 < xs.length) (hy : xs.length ≤ ys.length) (hx : ∀ i, i < xs.length → (xs.getD i []).length = n) (hn : n ≤ 1048576) : Ret Tryz.prog 263 #[.slice xsA xs.length xsC, .slice ysA ys.length ysC] w fun v w' => Ext No w w' ∧ (Res w w' [v] (mixTo xs ys n xs.length)) := by
 have xsL := sL xsS
 obtain ⟨xsF, xsO⟩ := xsS
 have ysL := sL ysS
 obtain ⟨ysF, ysO⟩ := ysS
 obtain rfl := hx 0 h0
 refine ret_Q (vs := [.slice xsA xs.length xsC, .slice ysA ys.length ysC]) Tryz.func263 rfl Tryz.ntmps263 rfl (fun Q hQ hN => ?_)
 have H0 := Sep.start (w := w) (F := [seen false [.slice xsA xs.length xsC] xs xsF, seen false [.slice ysA ys.length ysC] ys ysF]) (all_cons xsO (all_cons ysO (by simp)))
 refine W_sr (sA rfl rfl (s_nil (W_seq ?_)))
 obtain ⟨eb1, eo1, ea1, ek1, ef1, ee1, ec1, eO1, eH1⟩ := elem_sl (H0.seen 0 rfl) 0 (by omega)
 have eP1 := H0.look1 0 rfl eO1 eH1
 refine W_reg (sM rfl rfl (sV rfl (py_elz tu112 ts45 rfl rfl ee1 0 (by omega) (by omega)) (sV rfl (py_load tu45 rfl rfl ec1) (sV rfl (py_len tu45 rfl) (s_make (wn rfl) rfl tu45 Tryz_ty5 own_z8 rfl (by omega) (by unfold maxLen; omega) eP1 (fun b1 w1 e1 g1 H1 => ?_))))))
 refine sA rfl rfl (s_nil (W_seq (W_sr (sM rfl rfl (sV rfl (py_len tu112 rfl) (sM rfl rfl (s_nil (W_block (W_loop (γ := Nat × List Nat) (fun (k, f) => [(1, .slice ysA ys.length ysC), (5, .slice (some ⟨b1, 0, none⟩) (xs.getD 0 []).length (xs.getD 0 []).length), (13, .slice xsA xs.length xsC), (14, .int .i64 xs.length), (15, .int .i64 k)]) (fun (k, f) w' => Sep No w [mine [.slice (some ⟨b1, 0, none⟩) (xs.getD 0 []).length (xs.getD 0 []).length] (mixTo xs ys (xs.getD 0 []).length k) f] [seen false [.slice xsA xs.length xsC] xs xsF, seen false [.slice ysA ys.length ysC] ys ysF] w' ∧ k ≤ xs.length) (fun (k, f) => xs.length - k) (0, _) ⟨rfl, rfl, rfl, rfl, rfl, trivial⟩ ⟨(H1.ftake 2), by omega⟩ (fun (k, f) w2 H2 => ?_))))))))))
 obtain ⟨H2, hk⟩ := H2
 refine W_sr (sV rfl (py_lss rfl rfl) (s_nil (W_seq (W_ifd rfl (fun c1 => ?_) (fun c1 => ?_)))))
 ·refine W_skip (W_seq (W_block (W_seq ?_)))
  obtain ⟨eb2, eo2, ea2, ek2, ef2, ee2, ec2, eO2, eH2⟩ := elem_sl (H2.seen 0 rfl) k (by omega)
  have eP2 := H2.look1 0 rfl eO2 eH2
  refine W_reg (sM rfl rfl (sV rfl (py_elz tu112 ts45 rfl rfl ee2 k (by omega) (by omega)) (sV rfl (py_load tu45 rfl rfl ec2) (sA rfl rfl (sA rfl rfl (s_nil ?_))))))
  have ml := mixTo_len (cs := ys) hx (k := k) (by omega)
  have sl := scaleG_len (xs.getD k []) (ys.getD k 0)
  have hxk := hx k (by omega)
  obtain ⟨eb3, eo3, ee3, ec3⟩ := elem_u8 (eP2.seen 1 rfl) k (by omega)
  refine W_reg (sM rfl rfl (sM rfl rfl (sM rfl rfl (sM rfl rfl (sV rfl (py_elz tu45 ts5 rfl rfl ee3 k (by omega) (by omega)) (sV rfl (py_load tu5 rfl rfl ec3) (s_call (wn rfl) rfl rfl (pc_call Tryz.func289 rfl Tryz_nm289 rfl) (Tryz_impl_put (eP2.mine 0 rfl) (eP2.nodup1 (i := 0) rfl) (own_weak (eP2.seen 2 rfl)) (fun b hb => eP2.off 2 rfl 0 rfl hb) (by first | assumption | omega)) (fun v1 w3 r1 => ?_))))))))
  obtain ⟨fp1, H3⟩ := eP2.mut 0 rfl r1
  refine s_nil (W_reg (sV rfl (py_add rfl rfl (in64 ⟨by omega, by omega⟩)) (sM rfl rfl (s_nil (⟨(k + 1, _), ⟨rfl, rfl, rfl, rfl, rfl, trivial⟩, ⟨(H3.ftake 2), by omega⟩, by dsimp only; omega⟩)))))
 ·refine W_exit (W_sr (sM rfl rfl (sA rfl rfl (s_nil (rT hQ Tryz.results263 rfl ?_)))))
  obtain rfl : k = xs.length := by omega
  exact ⟨H2.ext, H2.out 0 rfl⟩
theorem Tryz_spec_l2Gen {w : World} {n : Nat} {p base : Int} (hn : n ≤ 100 ∧ 0 ≤ base ∧ base ≤ 100 ∧ 0 ≤ p ∧ p ≤ 500) : Ret Tryz.prog 274 #[.int .i64 n, .int .i64 p, .int .i64 base] w fun v w' => Ext No w w' ∧ (Res w w' [v] (genG n p base)) := by
 refine ret_Q (vs := [.int .i64 n, .int .i64 p, .int .i64 base]) Tryz.func274 rfl Tryz.ntmps274 rfl (fun Q hQ hN => ?_)
 have H0 := Sep.start (w := w) (F := []) (by simp)
 refine W_sr (sA rfl rfl (s_nil (W_sr (sM rfl rfl (s_make (wn rfl) rfl tu45 Tryz_ty5 own_z8 rfl (by omega) (by unfold maxLen; omega) H0 (fun b1 w1 e1 g1 H1 => ?_))))))
 refine sA rfl rfl (s_nil (W_seq (W_sr (sA rfl rfl (s_nil (W_block (W_loop (γ := Nat × List Nat) (fun (k, f) => [(0, .int .i64 n), (1, .int .i64 p), (2, .int .i64 base), (7, .slice (some ⟨b1, 0, none⟩) n n), (8, .int .i64 k)]) (fun (k, f) w' => Sep No w [mine [.slice (some ⟨b1, 0, none⟩) n n] (fillG (genAt n p base) n k) f] [] w' ∧ k ≤ n) (fun (k, f) => n - k) (0, [b1]) ⟨rfl, rfl, rfl, rfl, rfl, trivial⟩ ⟨(by rw [fillG_zero]; exact H1), by omega⟩ (fun (k, f) w2 H2 => ?_))))))))
 obtain ⟨H2, hk⟩ := H2
 refine W_seq (W_sr (sM rfl rfl (sM rfl rfl (sV rfl (py_lss rfl rfl) (s_nil (W_ifd rfl (fun c1 => ?_) (fun c1 => ?_)))))))
 ·refine W_skip (W_seq (W_block (W_sr (sM rfl rfl (sM rfl rfl (sV rfl (py_geq rfl rfl) (s_nil (W_ifd rfl (fun c2 => ?_) (fun c2 => ?_)))))))))
  ·obtain ⟨eb1, eo1, ee1, ec1⟩ := elem_u8 (H2.mine 0 rfl) k (by rw [fillG_len (by omega)]; omega)
   refine W_reg (sM rfl rfl (sM rfl rfl (sM rfl rfl (sM rfl rfl (sV rfl (py_add rfl rfl (in64 ⟨by omega, by omega⟩)) (sM rfl rfl (sV rfl (py_sub rfl rfl (in64 ⟨by omega, by omega⟩)) (sM rfl rfl (s_call (wn rfl) rfl rfl (pc_call Tryz.func195 rfl Tryz_nm195 rfl) (Tryz_spec_l1Cauchy (by omega)) (fun v1 w3 r1 => ?_))))))))))
   obtain ⟨e2, rfl⟩ := r1
   have H3 := H2.to e2
   refine sV rfl (py_elz tu45 ts5 rfl rfl ee1 k (by omega) (by omega)) (s_elst (wn rfl) ts5 rfl H3 0 rfl k (by rw [fillG_len (by omega)]; omega) rfl ee1 rfl own_b8 (fun w4 fp1 e3 H4 => ?_))
   refine s_nil (W_reg (sM rfl rfl (sV rfl (py_add rfl rfl (in64 ⟨by omega, by omega⟩)) (sA rfl rfl (s_nil ?_)))))
   refine ⟨(k + 1, _), ⟨rfl, rfl, rfl, rfl, rfl, trivial⟩, ⟨by
    have h := H4
    rw [fillG_set (by omega) (by rw [genAt, if_pos (by omega)])] at h
    exact h, by omega⟩, by dsimp only; omega⟩
  ·refine W_sr (sM rfl rfl (sM rfl rfl (sV rfl (py_eql rfl rfl) (s_nil (W_ifd rfl (fun c3 => ?_) (fun c3 => ?_))))))
   ·obtain ⟨eb2, eo2, ee2, ec2⟩ := elem_u8 (H2.mine 0 rfl) k (by rw [fillG_len (by omega)]; omega)
    refine W_reg (sM rfl rfl (sM rfl rfl (sV rfl (py_elz tu45 ts5 rfl rfl ee2 k (by omega) (by omega)) (s_elst (wn rfl) ts5 rfl H2 0 rfl k (by rw [fillG_len (by omega)]; omega) rfl ee2 rfl (own_b8 (x := 1)) (fun w5 fp2 e4 H5 => ?_)))))
    refine s_nil (W_reg (sM rfl rfl (sV rfl (py_add rfl rfl (in64 ⟨by omega, by omega⟩)) (sA rfl rfl (s_nil ?_)))))
    refine ⟨(k + 1, _), ⟨rfl, rfl, rfl, rfl, rfl, trivial⟩, ⟨by
     have h := H5
     rw [fillG_set (by omega) (by rw [genAt, if_neg (by omega), if_pos (by omega)])] at h
     exact h, by omega⟩, by dsimp only; omega⟩
   ·refine W_skip (W_reg (sM rfl rfl (sV rfl (py_add rfl rfl (in64 ⟨by omega, by omega⟩)) (sA rfl rfl (s_nil ?_)))))
    refine ⟨(k + 1, _), ⟨rfl, rfl, rfl, rfl, rfl, trivial⟩, ⟨by
     have h := H2
     rw [fillG_skip (by omega) (by rw [genAt, if_neg (by omega), if_neg (by omega)])] at h
     exact h, by omega⟩, by dsimp only; omega⟩
 ·refine W_exit (W_sr (sM rfl rfl (sA rfl rfl (s_nil (rT hQ Tryz.results274 rfl ?_)))))
  obtain rfl : k = n := by omega
  exact ⟨H2.ext, by
   have h := H2.out 0 rfl
   rwa [fillG_all] at h⟩
theorem Tryz_impl_rowCode_weights {w : World} {n : Nat} {s p : Int} (hn : n ≤ 100 ∧ 0 ≤ p ∧ p ≤ 500) : Ret Tryz.prog 286 #[.agg #[.int .i64 n, .int .i64 s], .int .i64 p] w fun v w' => Ext No w w' ∧ (Res w w' [v] (genG n p 0)) := by
 refine ret_Q (vs := [.agg #[.int .i64 n, .int .i64 s], .int .i64 p]) Tryz.func286 rfl Tryz.ntmps286 rfl (fun Q hQ hN => ?_)
 have H0 := Sep.start (w := w) (F := []) (by simp)
 refine W_sr (s_box (wn rfl) rfl rfl H0 (fun b1 w1 e1 g1 H1 => ?_))
 refine sA rfl rfl (s_nil (W_sr (sV rfl (py_field tu167 rfl ts2 rfl rfl) (sV rfl (py_load tu2 rfl rfl (cell_atL (H1.box 0 rfl) rfl)) (s_make (wn rfl) rfl tu45 Tryz_ty5 own_z8 rfl (by omega) (by unfold maxLen; omega) H1 (fun b2 w2 e2 g2 H2 => ?_))))))
 refine sA rfl rfl (s_nil (W_seq (W_sr (sV rfl (py_field tu167 rfl ts2 rfl rfl) (sV rfl (py_load tu2 rfl rfl (cell_atL (H2.box 0 rfl) rfl)) (sM rfl rfl (s_nil (W_block (W_loop (γ := Nat × List Nat) (fun (k, f) => [(1, .int .i64 p), (2, .pointer (some ⟨b1, 0, none⟩)), (5, .slice (some ⟨b2, 0, none⟩) n n), (11, .int .i64 n), (12, .int .i64 k)]) (fun (k, f) w' => Sep No w [box b1 (.cells #[.int .i64 n, .int .i64 s] 167), mine [.slice (some ⟨b2, 0, none⟩) n n] (fillG (genAt n p 0) n k) f] [] w' ∧ k ≤ n) (fun (k, f) => n - k) (0, [b2]) ⟨rfl, rfl, rfl, rfl, rfl, trivial⟩ ⟨(by rw [fillG_zero]; exact H2), by omega⟩ (fun (k, f) w3 H3 => ?_))))))))))
 obtain ⟨H3, hk⟩ := H3
 refine W_sr (sV rfl (py_lss rfl rfl) (s_nil (W_seq (W_ifd rfl (fun c1 => ?_) (fun c1 => ?_)))))
 ·refine W_skip (W_seq (W_block (W_sr (sM rfl rfl (sA rfl rfl (s_nil (W_block (W_sr (sM rfl rfl (sV rfl (py_field tu167 rfl ts2 rfl rfl) (sV rfl (py_load tu2 rfl rfl (cell_atL (H3.box 0 rfl) rfl)) (sV rfl (py_geq rfl rfl) (sA rfl rfl (s_nil (W_ifd rfl (fun c2 => ?_) (fun c2 => ?_))))))))))))))))
  ·obtain ⟨eb1, eo1, ee1, ec1⟩ := elem_u8 (H3.mine 1 rfl) k (by rw [fillG_len (by omega)]; omega)
   refine W_reg (sM rfl rfl (sM rfl rfl (sM rfl rfl (sV rfl (py_field tu167 rfl ts2 rfl rfl) (sV rfl (py_load tu2 rfl rfl (cell_atL (H3.box 0 rfl) rfl)) (sV rfl (py_sub rfl rfl (in64 ⟨by omega, by omega⟩)) (sM rfl rfl (s_call (wn rfl) rfl rfl (pc_call Tryz.func331 rfl Tryz_nm331 rfl) (Tryz_impl_cauchy (by omega)) (fun v1 w4 r1 => ?_)))))))))
   obtain ⟨e3, rfl⟩ := r1
   have H4 := H3.to e3
   refine sV rfl (py_elz tu45 ts5 rfl rfl ee1 k (by omega) (by omega)) (s_elst (wn rfl) ts5 rfl H4 1 rfl k (by rw [fillG_len (by omega)]; omega) rfl ee1 rfl own_b8 (fun w5 fp1 e4 H5 => ?_))
   refine s_nil (W_reg (sV rfl (py_add rfl rfl (in64 ⟨by omega, by omega⟩)) (sM rfl rfl (s_nil ?_))))
   refine ⟨(k + 1, _), ⟨rfl, rfl, rfl, rfl, rfl, trivial⟩, ⟨by
    have h := H5
    rw [fillG_set (by omega) (by rw [genAt, if_pos (by omega)]; congr 1; omega)] at h
    exact h, by omega⟩, by dsimp only; omega⟩
  ·refine W_sr (sM rfl rfl (sM rfl rfl (sV rfl (py_eql rfl rfl) (sA rfl rfl (s_nil (W_ifd rfl (fun c3 => ?_) (fun c3 => ?_)))))))
   ·obtain ⟨eb2, eo2, ee2, ec2⟩ := elem_u8 (H3.mine 1 rfl) k (by rw [fillG_len (by omega)]; omega)
    refine W_reg (sM rfl rfl (sM rfl rfl (sV rfl (py_elz tu45 ts5 rfl rfl ee2 k (by omega) (by omega)) (s_elst (wn rfl) ts5 rfl H3 1 rfl k (by rw [fillG_len (by omega)]; omega) rfl ee2 rfl (own_b8 (x := 1)) (fun w6 fp2 e5 H6 => ?_)))))
    refine s_nil (W_reg (sV rfl (py_add rfl rfl (in64 ⟨by omega, by omega⟩)) (sM rfl rfl (s_nil ?_))))
    refine ⟨(k + 1, _), ⟨rfl, rfl, rfl, rfl, rfl, trivial⟩, ⟨by
     have h := H6
     rw [fillG_set (by omega) (by rw [genAt, if_neg (by omega), if_pos (by omega)])] at h
     exact h, by omega⟩, by dsimp only; omega⟩
   ·refine W_skip (W_reg (sV rfl (py_add rfl rfl (in64 ⟨by omega, by omega⟩)) (sM rfl rfl (s_nil ?_))))
    refine ⟨(k + 1, _), ⟨rfl, rfl, rfl, rfl, rfl, trivial⟩, ⟨by
     have h := H3
     rw [fillG_skip (by omega) (by rw [genAt, if_neg (by omega), if_neg (by omega)])] at h
     exact h, by omega⟩, by dsimp only; omega⟩
 ·refine W_exit (W_sr (sM rfl rfl (sA rfl rfl (s_nil (rT hQ Tryz.results286 rfl ?_)))))
  obtain rfl : k = n := by omega
  exact ⟨H3.ext, by
   have h := H3.out 1 rfl
   rwa [fillG_all] at h⟩
theorem Tryz_impl_rowCode_blocks {w : World} {n s : Int} (hn : 0 ≤ n ∧ n ≤ 1000 ∧ 0 ≤ s ∧ s ≤ 1000) : Ret Tryz.prog 285 #[.agg #[.int .i64 n, .int .i64 s]] w fun v w' => Ext No w w' ∧ (v = .int .i64 (n + s)) := by
 refine ret_Q (vs := [.agg #[.int .i64 n, .int .i64 s]]) Tryz.func285 rfl Tryz.ntmps285 rfl (fun Q hQ hN => ?_)
 have H0 := Sep.start (w := w) (F := []) (by simp)
 refine W_sr (s_box (wn rfl) rfl rfl H0 (fun b1 w1 e1 g1 H1 => ?_))
 refine sA rfl rfl (s_nil (W_sr (sV rfl (py_field tu167 rfl ts2 rfl rfl) (sV rfl (py_load tu2 rfl rfl (cell_atL (H1.box 0 rfl) rfl)) (sV rfl (py_field tu167 rfl ts2 rfl rfl) (sV rfl (py_load tu2 rfl rfl (cell_atL (H1.box 0 rfl) rfl)) (sV rfl (py_add rfl rfl (in64 ⟨by omega, by omega⟩)) (sA rfl rfl (s_nil (rT hQ Tryz.results285 rfl ?_))))))))))
 exact ⟨H1.ext, rfl⟩
end Go.Wk
namespace Go.Wk
open Go.Proofs Rp
set_option maxRecDepth 10000
theorem Tryz_chunkgo {w : World} {l b1 b2 n q m xsC : Nat} {xsA : Option Addr} {J : Nat → World → Prop} (hm : 1 ≤ m ∧ m ≤ 1000000) (hn : n = q * m ∧ n ≤ xsC ∧ n ≤ 4611686018427387904) (hJd : ∀ i W k, J i W → J i { W with drawn := k })
  (hb : ∀ i W, J i W → W.heap[b1]? = some (.cells [.slice xsA n xsC].toArray 45) ∧ W.heap[b2]? = some (.cells [.int .i64 m].toArray 3))
  (hY : ∀ i W, J i W → i < q → YieldAt (inF none) 2 Tryz.prog l #[.slice (slA xsA (i * m) (i * m + m) 1) (i * m + m - i * m) (i * m + m - i * m)] W fun e W' => e = .returned (.bool true) ∧ J (i + 1) W') (h0 : J 0 w) :
  Ret Tryz.prog 330 #[.func (.yield l) #[] #[], .pointer (some ⟨b1, 0, none⟩), .pointer (some ⟨b2, 0, none⟩)] w fun _ w' => J q w' := by
 refine ret_Q (vs := [.func (.yield l) #[] #[], .pointer (some ⟨b1, 0, none⟩), .pointer (some ⟨b2, 0, none⟩)]) Tryz.func330 rfl Tryz.ntmps330 rfl (fun Q hQ hN => ?_)
 refine W_sr (sA rfl rfl (s_nil (W_block (W_loop (γ := Nat) (fun i => [(0, .func (.yield l) #[] #[]), (1, .pointer (some ⟨b1, 0, none⟩)), (2, .pointer (some ⟨b2, 0, none⟩)), (4, .int .i64 ((i * m : Nat) : Int))]) (fun i w' => i ≤ q ∧ J i w') (fun i => q - i) 0 ⟨rfl, rfl, rfl, eqI (by simp), trivial⟩ ⟨Nat.zero_le _, h0⟩ (fun i w1 hI => ?_)))))
 obtain ⟨hi, hJ⟩ := hI
 obtain ⟨h1, h2⟩ := hb i w1 hJ
 have p1 : i * m ≤ n := by rw [hn.1]; exact Nat.mul_le_mul_right _ hi
 have p3 : ¬ i < q → i * m = n := fun h => by rw [hn.1]; congr 1; omega
 refine W_seq (W_sr (sM rfl rfl (sV rfl (py_load tu45 rfl rfl (cell_atL h1 rfl)) (sV rfl (py_len tu45 rfl) (sV rfl (py_lss rfl rfl) (s_nil (W_ifd rfl (fun c1 => ?_) (fun c1 => ?_))))))))
 ·have iq : i < q := Decidable.byContradiction fun h => by have := p3 h; omega
  have p2 := mul_step hn.1 iq
  refine W_skip (W_seq (W_block (W_seq (W_drw (S := fun x => x.heap = w1.heap) [(0, true), (1, true), (2, true), (3, true), (4, true), (5, true), (6, false)] (by kernel_rfl) (by kernel_rfl) (by kernel_rfl) rfl (fun _ => rfl) (fun kk => ?_)))))
  refine d_val rfl (wn rfl) rfl rfl (fun x hx => py_load tu3 rfl rfl (cell_atL (by rw [hx]; exact h2) rfl)) (d_val rfl (wn rfl) rfl rfl (fun x hx => py_load tu45 rfl rfl (cell_atL (by rw [hx]; exact h1) rfl)) (d_val rfl (wn rfl) rfl rfl (fun x hx => py_move rfl) (d_val rfl (wn rfl) rfl rfl (fun x hx => py_slcL tu45 ts5 rfl rfl (i * m) rfl p1) (d_val rfl (wn rfl) rfl rfl (fun x hx => py_len tu45 rfl) (d_val rfl (wn rfl) rfl rfl (fun x hx => py_min rfl rfl) (d_end rfl (wn rfl) rfl rfl (py_assign rfl) ((d_nil (W_weak (M := [(0, .func (.yield l) #[] #[]), (1, .pointer (some ⟨b1, 0, none⟩)), (2, .pointer (some ⟨b2, 0, none⟩)), (4, .int .i64 ((i * m : Nat) : Int)), (5, .int .i64 m)]) ⟨rfl, rfl, rfl, rfl, eqI (if_neg (by omega)), trivial⟩ (W_seq (W_of (WF_reg (f_val (wn rfl) rfl rfl (py_move rfl) (f_val (wn rfl) rfl rfl (py_load tu45 rfl rfl (cell_atL h1 rfl)) (f_val (wn rfl) rfl rfl (py_move rfl) (f_val (wn rfl) rfl rfl (py_move rfl) (f_val (wn rfl) rfl rfl (py_move rfl) (f_val (wn rfl) rfl rfl (py_add rfl rfl (in64 ⟨by omega, by omega⟩)) (f_val (wn rfl) rfl rfl (py_move rfl) (f_val (wn rfl) rfl rfl (py_move rfl) (f_val (wn rfl) rfl rfl (py_add rfl rfl (in64 ⟨by omega, by omega⟩)) (f_val (wn rfl) rfl rfl (py_slcM tu45 ts5 rfl rfl rfl rfl (i * m) (i * m + m) (i * m + m) rfl (by omega) (by omega) (by omega) (Nat.le_refl _) (by omega)) (f_yield rfl rfl rfl (hY i _ (hJd _ _ _ hJ) iq) (fun e w2 he => ?_))))))))))))))))))))))))
  obtain ⟨rfl, hJ2⟩ := he
  refine ⟨_, rfl, ?_⟩
  refine f_val (wn rfl) rfl rfl (py_not rfl) (f_nil (W_iff rfl (W_skip (W_reg (sM rfl rfl (sV rfl (py_load tu3 rfl rfl (cell_atL (hb _ _ hJ2).2 rfl)) (sV rfl (py_add rfl rfl (in64 ⟨by omega, by omega⟩)) (sA rfl rfl (s_nil (⟨i + 1, ⟨rfl, rfl, rfl, eqI (by rw [Nat.succ_mul]; omega), trivial⟩, ⟨iq, hJ2⟩, by dsimp only; omega⟩))))))))))
 ·have iq : ¬ i < q := fun h => by have := mul_step hn.1 h; omega
  obtain rfl : i = q := by omega
  refine W_exit (hN _ _ (fin0 Tryz.results330 ?_))
  exact hJ
theorem Tryz_appendseq {w : World} {b1 b2 n q m xsC : Nat} {xsA : Option Addr} (hm : 1 ≤ m ∧ m ≤ 1000000) (hn : n = q * m ∧ n ≤ xsC ∧ n ≤ 1000000000)
  (h1 : w.heap[b1]? = some (.cells [.slice xsA n xsC].toArray 45)) (h2 : w.heap[b2]? = some (.cells [.int .i64 m].toArray 3)) :
  Ret Tryz.prog 329 #[.slice none 0 0, .func (.func 330) #[] #[.pointer (some ⟨b1, 0, none⟩), .pointer (some ⟨b2, 0, none⟩)]] w fun v w' => Ext No w w' ∧ Res w w' [v] (chunkV xsA m q) := by
 refine ret_marks (vs := [.slice none 0 0, .func (.func 330) #[] #[.pointer (some ⟨b1, 0, none⟩), .pointer (some ⟨b2, 0, none⟩)]]) Tryz.func329 rfl Tryz.ntmps329 rfl (fun a ha => ?_)
 have qn : q ≤ n := by rw [hn.1]; exact Nat.le_mul_of_pos_right _ (by omega)
 have H0 : Sep No w [] [box b1 (.cells [.slice xsA n xsC].toArray 45), box b2 (.cells [.int .i64 m].toArray 3)] w := Sep.start (by intro r hr; simp at hr; rcases hr with rfl | rfl; exact h1; exact h2)
 refine seqF (L := argsL 0 _) (B := fun L' w' => ∃ b, sub L' [(1, .func (.func 330) #[] #[.pointer (some ⟨b1, 0, none⟩), .pointer (some ⟨b2, 0, none⟩)]), (2, .pointer (some ⟨b, 0, none⟩))] ∧ Sep No w [box b (.cells [.slice none 0 0].toArray 112)] [box b1 (.cells [.slice xsA n xsC].toArray 45), box b2 (.cells [.int .i64 m].toArray 3)] w') ha ?_ (fun a1 L1 w1 ha1 hB => ?_)
 ·refine WF_reg (f_box (wn rfl) rfl rfl H0 (fun b w1 _ _ H1 => ?_))
  refine f_val (wn rfl) rfl rfl (py_assign rfl) ?_
  exact f_nil ⟨rfl, b, ⟨rfl, rfl, trivial⟩, H1⟩
 obtain ⟨Bs, hs, H1⟩ := hB
 have ha2 := ha1.weak hs
 refine wpIn_seq (seqF (B := fun L' w' => sub L' [(6, .func (.func 330) #[] #[.pointer (some ⟨b1, 0, none⟩), .pointer (some ⟨b2, 0, none⟩)]), (2, .pointer (some ⟨Bs, 0, none⟩))] ∧ w' = w1) ha2 ?_ (fun a3 L3 w3 ha3 hB => ?_))
 ·refine WF_reg (f_val (wn rfl) rfl rfl (py_move rfl) ?_)
  exact f_nil ⟨rfl, ⟨rfl, rfl, trivial⟩, rfl⟩
 obtain ⟨hs3, rfl⟩ := hB
 have ha4 := ha3.weak hs3
 refine wpIn_block ?_
 let F0 : List Rsc := [box b1 (.cells [.slice xsA n xsC].toArray 45), box b2 (.cells [.int .i64 m].toArray 3)]
 refine WF_range ha4 (lb := #[.pointer (some ⟨b1, 0, none⟩), .pointer (some ⟨b2, 0, none⟩)]) rfl Tryz.func330 rfl Tryz_nm330
  (K := fun W => ∃ v fp o, Sep No w [box Bs (.cells [v].toArray 112), mine [v] (chunkV xsA m q) fp, box w3.heap.size (.deferred (some [])), box (w3.heap.size + 1) o] F0 W) (fun R fn hR => ?_) (fun W hK => ?_)
 ·have e1 : (w3.alloc (.deferred (some []))).heap.size = w3.heap.size + 1 := by simp
  have HA := (H1.alloc (.deferred (some []))).alloc (.loop (R .ready none))
  rw [e1] at HA
  have HB := HA.perm (Γ := [box Bs (.cells [.slice none 0 0].toArray 112), box w3.heap.size (.deferred (some [])), box (w3.heap.size + 1) (.loop (R .ready none))]) (by simp)
  have HC : Sep No w [box Bs (.cells [.slice none 0 0].toArray 112), mine [.slice none 0 0] ((chunkV xsA m q).take 0) [], box w3.heap.size (.deferred (some [])), box (w3.heap.size + 1) (.loop (R .ready none))] F0 ((w3.alloc (.deferred (some []))).alloc (.loop (R .ready none))) :=
   ⟨HB.ext, by
    intro r hr
    simp only [List.mem_cons, List.not_mem_nil, or_false] at hr
    rcases hr with rfl | rfl | rfl | rfl
    ·exact HB.rs _ (by simp)
    ·exact .inr (.inl ⟨rfl, by simp, rfl⟩)
    ·exact HB.rs _ (by simp)
    ·exact HB.rs _ (by simp), by simpa [blocks, mine, Wk.box] using HB.nd, by simpa [blocks, mine, Wk.box] using HB.new, HB.fs, by simpa [blocks, mine, Wk.box, F0] using HB.ap⟩
  refine Ret.mono (Tryz_chunkgo (xsA := xsA) (J := fun i W => ∃ v fp, Sep No w [box Bs (.cells [v].toArray 112), mine [v] ((chunkV xsA m q).take i) fp, box w3.heap.size (.deferred (some [])), box (w3.heap.size + 1) (.loop (R .ready none))] F0 W) hm ⟨hn.1, hn.2.1, by omega⟩ ?_ ?_ ?_ ⟨_, _, HC⟩) ?_
  ·rintro i W k ⟨v, fp, H⟩
   exact ⟨v, fp, H.drawn k⟩
  ·rintro i W ⟨v, fp, H⟩
   exact ⟨H.fs (box b1 _) (by simp [F0]), H.fs (box b2 _) (by simp [F0])⟩
  ·rintro i W ⟨v, fp, H⟩ iq
   have cl : ((chunkV xsA m q).take i).length = i := by rw [List.length_take, chunkV_len]; omega
   have hy := yield_at (P := Tryz.prog) (u := .slice (slA xsA (i * m) (i * m + m) 1) (i * m + m - i * m) (i * m + m - i * m)) hR ha4.1 rfl (H.box 3 rfl)
    (L2 := [(5, .slice (slA xsA (i * m) (i * m + m) 1) (i * m + m - i * m) (i * m + m - i * m)), (2, .pointer (some ⟨Bs, 0, none⟩))])
    (B := fun W2 => ∃ v fp, Sep No w [box Bs (.cells [v].toArray 112), mine [v] ((chunkV xsA m q).take (i + 1)) fp, box w3.heap.size (.deferred (some [])), box (w3.heap.size + 1) (.loop (R .busy none))] F0 W2)
    (by
     refine WF_reg (f_val (wn rfl) rfl rfl (py_assign rfl) ?_)
     exact f_nil ⟨rfl, rfl, ⟨rfl, rfl, trivial⟩⟩)
    (by
     have H2 := H.put 3 (.loop (R .busy none)) rfl
     dsimp only [lSZ, lSS] at H2
     refine WF_block (WF_reg (f_val (wn rfl) rfl rfl (py_load tu112 rfl rfl (cell_atL (H2.box 0 rfl) rfl)) (f_val (wn rfl) rfl rfl (py_move rfl) (f_lit1 (wn rfl) rfl tu112 Tryz_ty45 rfl rfl rfl rfl H2 (fun b w5 _ _ H3 => ?_)))))
     refine f_app1 (α := View) (u := ⟨slA xsA (i * m) (i * m + m) 1, i * m + m - i * m, i * m + m - i * m⟩) (wn rfl) rfl tu112 Tryz_ty45 rfl rfl rfl H3 1 4 rfl rfl ⟨rfl, rfl⟩ (by unfold maxLen; omega) (by omega) (fun v' w6 fp' H4 => ?_)
     dsimp only [lNA, lCA, lSZ, lSS] at H4
     obtain ⟨a', c', he⟩ := own_slice (H4.mine 1 rfl)
     cases he
     refine f_sto (wn rfl) ts112 rfl rfl rfl H4 0 rfl rfl (fun w7 _ H5 => ?_)
     dsimp only [lNA, lCA, lSZ, lSS] at H5
     have H6 := H5.dtake 4
     have e2 : i * m + m - i * m = m := by omega
     have e3 := chunkV_step (A := xsA) (m := m) iq
     rw [e2, e3] at H6
     exact f_nil ⟨rfl, H5.box 3 rfl, _, _, H6⟩)
   obtain ⟨f1, t1, s1, o1, r1, k1⟩ := hy
   refine ⟨f1, t1, s1, o1, r1, k1.mono fun e W' he => ?_⟩
   obtain ⟨he, W2, ⟨v2, fp2, H2⟩, hl2, rfl⟩ := he
   have H3 := H2.put 3 (.loop (R .ready none)) rfl
   exact ⟨he, v2, fp2, H3⟩
  ·rintro _ W2 ⟨v, fp, H⟩
   have H3 := H.put 3 (.loop (R .exhausted none)) rfl
   rw [List.take_of_length_le (by rw [chunkV_len]; exact Nat.le_refl _)] at H3
   exact ⟨H.box 3 rfl, v, fp, _, H3⟩
 ·obtain ⟨v, fp, o, H⟩ := hK
  show Code.wpIn _ _ _ _ _ _ _
  have ha5 : GoodD [{ target := .collected w3.heap.size, args := #[] }] 13 { a3 with defers := [{ target := .collected w3.heap.size, args := #[] }] } [(2, .pointer (some ⟨Bs, 0, none⟩))] :=
   ⟨by have := ha4.1; exact this.weak ⟨rfl, trivial⟩, rfl⟩
  refine seqF (B := fun L' w' => sub L' [(4, v)] ∧ w' = W) ha5 ?_ (fun a6 L6 w6 ha6 hB => ?_)
  ·refine WF_reg (f_val (wn rfl) rfl rfl (py_load tu112 rfl rfl (cell_atL (H.box 0 rfl) rfl)) (f_val (wn rfl) rfl rfl (py_assign rfl) ?_))
   exact f_nil ⟨rfl, ⟨rfl, trivial⟩, rfl⟩
  obtain ⟨hs6, rfl⟩ := hB
  refine wpIn_ret ?_
  have H7 := H.put 2 (.deferred none) rfl
  refine ⟨.inr rfl, w3.heap.size, [(4, v)], ha6.weak hs6, H.box 2 rfl, fin1 Tryz.results329 rfl ?_⟩
  exact ⟨H7.ext, H7.out 1 rfl⟩
theorem Tryz_collect {w : World} {b1 b2 n q m xsC : Nat} {xsA : Option Addr} (hm : 1 ≤ m ∧ m ≤ 1000000) (hn : n = q * m ∧ n ≤ xsC ∧ n ≤ 1000000000)
  (h1 : w.heap[b1]? = some (.cells [.slice xsA n xsC].toArray 45)) (h2 : w.heap[b2]? = some (.cells [.int .i64 m].toArray 3)) :
  Ret Tryz.prog 283 #[.func (.func 330) #[] #[.pointer (some ⟨b1, 0, none⟩), .pointer (some ⟨b2, 0, none⟩)]] w fun v w' => Ext No w w' ∧ Res w w' [v] (chunkV xsA m q) := by
 refine ret_Q (vs := [.func (.func 330) #[] #[.pointer (some ⟨b1, 0, none⟩), .pointer (some ⟨b2, 0, none⟩)]]) Tryz.func283 rfl Tryz.ntmps283 rfl (fun Q hQ hN => ?_)
 refine W_sr (sA rfl rfl (s_nil (W_sr (sM rfl rfl (s_call (wn rfl) rfl rfl (pc_call Tryz.func329 rfl Tryz_nm329 rfl) (Tryz_appendseq hm hn h1 h2) (fun v w1 r => ?_))))))
 refine sA rfl rfl (s_nil (rT hQ Tryz.results283 rfl ?_))
 exact r
theorem Tryz_chunk {w : World} {n m xsC : Nat} {xsA : Option Addr} (hm : 1 ≤ m) :
  Ret Tryz.prog 284 #[.slice xsA n xsC, .int .i64 m] w fun v w' => Ext No w w' ∧ ∃ b1 b2, v = .func (.func 330) #[] #[.pointer (some ⟨b1, 0, none⟩), .pointer (some ⟨b2, 0, none⟩)] ∧ w'.heap[b1]? = some (.cells [.slice xsA n xsC].toArray 45) ∧ w'.heap[b2]? = some (.cells [.int .i64 m].toArray 3) := by
 refine ret_Q (vs := [.slice xsA n xsC, .int .i64 m]) Tryz.func284 rfl Tryz.ntmps284 rfl (fun Q hQ hN => ?_)
 have H0 := Sep.start (w := w) (F := []) (by simp)
 refine W_sr (s_box (wn rfl) rfl rfl H0 (fun b1 w1 e1 g1 H1 => ?_))
 refine s_box (wn rfl) rfl rfl H1 (fun b2 w2 e2 g2 H2 => ?_)
 dsimp only [lNA, lCA] at H2
 refine sA rfl rfl (s_nil (W_seq (W_sr (sV rfl (py_load tu3 rfl rfl (cell_atL (H2.box 1 rfl) rfl)) (sV rfl (py_lss rfl rfl) (s_nil (W_ifd rfl (fun c1 => ?_) (fun c1 => ?_))))))))
 ·exact absurd c1 (by omega)
 refine W_skip (W_sr (sV rfl (py_func rfl) (sA rfl rfl (s_nil (rT hQ Tryz.results284 rfl ?_)))))
 exact ⟨H2.ext, b1, b2, rfl, H2.box 0 rfl, H2.box 1 rfl⟩
end Go.Wk
namespace Go.Wk
open Go.Proofs Rp
set_option maxRecDepth 10000
theorem Tryz_impl_rowCode_encode {w : World} {x y : Int} {n s xsC : Nat} {xs : List UInt8} {xsA : Option Addr} (hx : x = n) (hy : y = s) (hn : 1 ≤ n ∧ n ≤ 3 ∧ s ≤ 2) (hl : xs.length = n * 4) (xsS : Sees w [.slice xsA xs.length xsC] xs) : Ret Tryz.prog 207 #[.agg #[.int .i64 x, .int .i64 y], .slice xsA xs.length xsC] w fun v w' => Ext No w w' ∧ (Res w w' [v] (encG n (n + s) xs)) := by
 subst hx; subst hy
 have xsL := sL xsS
 obtain ⟨xsF, xsO⟩ := xsS
 refine ret_Q (vs := [.agg #[.int .i64 n, .int .i64 s], .slice xsA xs.length xsC]) Tryz.func207 rfl Tryz.ntmps207 rfl (fun Q hQ hN => ?_)
 have H0 := Sep.start (w := w) (F := [seen false [.slice xsA xs.length xsC] xs xsF]) (all_cons xsO (by simp))
 refine W_sr (s_box (wn rfl) rfl rfl H0 (fun b1 w1 e1 g1 H1 => ?_))
 refine sA rfl rfl (s_nil (W_sr (sM rfl rfl (s_call (wn rfl) rfl rfl (pc_call Tryz.func284 rfl Tryz_nm284 rfl) (Tryz_chunk (m := 4) (by omega)) (fun chv w1 r1 => ?_)))))
 obtain ⟨ce1, cb1, cb2, rfl, p1, p2⟩ := r1
 have HC1 := H1.to ce1
 have xc := own_le_cap (HC1.seen 0 rfl)
 refine s_call (wn rfl) rfl rfl (pc_call Tryz.func283 rfl Tryz_nm283 rfl) (Tryz_collect (m := 4) (q := n) (by omega) ⟨by omega, by omega, by omega⟩ p1 p2) (fun cv w2 r2 => ?_)
 obtain ⟨e2, cf, co, cn, cfr⟩ := r2
 have HC2 := HC1.to e2
 obtain ⟨cg, og, sg⟩ := own_chunks (HC2.seen 0 rfl) (m := 4) (q := n) (by omega) hl (by omega)
 obtain ⟨ch, oh, sh⟩ := own_views co og (by rw [chunkV_len, chunks_len])
 obtain ⟨dA, dC, dq⟩ := own_slice oh
 cases dq
 have HC3 := HC2.look (r := seen false [.slice dA (chunks xs 4 n).length dC] (chunks xs 4 n) ch) oh (fun b hb hb2 => by
  rcases sh b hb with h | h
  ·have := cfr b h; have := HC1.lt b hb2; omega
  ·exact HC2.ap _ (List.mem_of_getElem? (i := 0) rfl) b (sg b h) hb2)
 have cl : (chunks xs 4 n).length = n := chunks_len
 have ca := chunks_all hl
 refine sA rfl rfl (s_nil (W_sr (s_lit0 (α := (List UInt8)) (wn rfl) rfl tu112 Tryz_ty45 HC3 (fun b2 w2 e2 g2 H2 => ?_))))
 refine sA rfl rfl (s_nil (W_seq (W_sr (sV rfl (py_loadS tu167 rfl ts167 rfl rfl (At.whole (H2.box 0 rfl))) (s_call (wn rfl) rfl rfl (pc_call Tryz.func285 rfl Tryz_nm285 rfl) (Tryz_impl_rowCode_blocks (by omega)) (fun v1 w3 r1 => ?_))))))
 obtain ⟨e3, rfl⟩ := r1
 have H3 := H2.to e3
 refine sM rfl rfl (s_nil (W_block (W_loop (γ := Nat × Value × List Nat) (fun (k, vo, f) => [(2, .pointer (some ⟨b1, 0, none⟩)), (5, .slice dA (chunks xs 4 n).length dC), (6, vo), (13, .int .i64 ((n : Int) + s)), (14, .int .i64 k)]) (fun (k, vo, f) w' => Sep No w [box b1 (.cells #[.int .i64 n, .int .i64 s] 167), mine [vo] (encG n k xs) f] [seen false [.slice xsA xs.length xsC] xs xsF, seen false [.slice dA (chunks xs 4 n).length dC] (chunks xs 4 n) ch] w' ∧ k ≤ n + s) (fun (k, vo, f) => n + s - k) (0, _, _) ⟨rfl, rfl, rfl, rfl, rfl, trivial⟩ ⟨H3, by omega⟩ (fun (k, vo, f) w4 H4 => ?_))))
 obtain ⟨H4, hk⟩ := H4
 refine W_sr (sV rfl (py_lss rfl rfl) (s_nil (W_seq (W_ifd rfl (fun c1 => ?_) (fun c1 => ?_)))))
 ·refine W_skip (W_seq (W_block (W_sr (sM rfl rfl (sA rfl rfl (s_nil ?_))))))
  have gl : (genG n k 0).length = n := genG_len
  have encE : mixTo (chunks xs 4 n) (genG n k 0) 4 (chunks xs 4 n).length = encK xs n k := rfl
  have el := encG_len (n := n) (m := k) (xs := xs)
  refine W_reg (sM rfl rfl (sM rfl rfl (sV rfl (py_loadS tu167 rfl ts167 rfl rfl (At.whole (H4.box 0 rfl))) (sM rfl rfl (s_call (wn rfl) rfl rfl (pc_call Tryz.func286 rfl Tryz_nm286 rfl) (Tryz_impl_rowCode_weights (by omega)) (fun v2 w5 r2 => ?_))))))
  obtain ⟨e4, r2⟩ := r2
  obtain ⟨fp1, H5⟩ := H4.res e4 r2
  obtain ⟨a1, k1, q1⟩ := own_slice (H5.mine 2 rfl)
  cases q1
  refine s_call (wn rfl) rfl rfl (pc_call Tryz.func263 rfl Tryz_nm263 rfl) (Tryz_impl_mixed (H5.sees 1 rfl) (H5.msees 2 rfl) (by omega) (by omega) (by assumption) (by omega)) (fun v3 w6 r3 => ?_)
  obtain ⟨e5, r3⟩ := r3
  obtain ⟨fp2, H6⟩ := H5.res e5 r3
  obtain ⟨a2, k2, q2⟩ := own_slice (H6.mine 3 rfl)
  cases q2
  refine s_lit1 (wn rfl) rfl tu112 Tryz_ty45 rfl rfl rfl rfl H6 (fun b3 w7 e6 g3 H7 => ?_)
  refine s_app2 (wn rfl) rfl tu112 Tryz_ty45 rfl rfl rfl H7 1 4 3 rfl rfl rfl rfl (by unfold maxLen; omega) (by omega) (fun v4 w8 fp3 H8 => ?_)
  refine sA rfl rfl (s_nil (W_reg (sV rfl (py_add rfl rfl (in64 ⟨by omega, by omega⟩)) (sM rfl rfl (s_nil ?_)))))
  have hz := H8.ftake 2 |>.sub (.cons_cons _ (.cons_cons _ (.cons _ (.cons _ (.cons _ List.Sublist.slnil)))))
  rw [encE, encG_step] at hz
  refine ⟨(k + 1, _, _), ⟨rfl, rfl, rfl, rfl, rfl, trivial⟩, ⟨hz, by omega⟩, by dsimp only; omega⟩
 ·refine W_exit (W_sr (sM rfl rfl (sA rfl rfl (s_nil (rT hQ Tryz.results207 rfl ?_)))))
  obtain rfl : k = n + s := by omega
  exact ⟨H4.ext, H4.out 1 rfl⟩
end Go.Wk
namespace Go.Wk
open Go.Proofs Rp
set_option maxRecDepth 10000
theorem Tryz_slices_Clone_byte_byte {w : World} {xs : List UInt8} {xsA : Option Addr} {xsC : Nat} (xsS : Sees w [.slice xsA xs.length xsC] xs) (hl : xs.length ≤ 100000000) : Ret Tryz.prog 151 #[.slice xsA xs.length xsC] w fun v w' => Ext No w w' ∧ (Res w w' [v] xs) := by
 have xsL := sL xsS
 obtain ⟨xsF, xsO⟩ := xsS
 refine ret_Q (vs := [.slice xsA xs.length xsC]) Tryz.func151 rfl Tryz.ntmps151 rfl (fun Q hQ hN => ?_)
 have H0 := Sep.start (w := w) (F := [seen false [.slice xsA xs.length xsC] xs xsF]) (all_cons xsO (by simp))
 refine W_sr (sA rfl rfl (s_nil (W_seq (W_sr (sM rfl rfl (sV rfl (py_slnil tu45 rfl rfl) (s_nil (W_if rfl (fun c1 => ?_) (fun c1 => ?_)))))))))
 ·refine W_sr (sA rfl rfl (s_nil (rT hQ Tryz.results151 rfl ?_)))
  have e : xs = [] := own_none xsO c1
  exact ⟨H0.ext, e ▸ ⟨[], .inr (.inl ⟨rfl, rfl, rfl⟩), .nil, by simp⟩⟩
 ·refine W_skip (W_sr (s_lit0 (α := UInt8) (wn rfl) rfl tu45 Tryz_ty5 H0 (fun b1 w1 e1 g1 H1 => ?_)))
  refine sM rfl rfl (s_appF (wn rfl) rfl tu45 Tryz_ty5 rfl rfl rfl H1 0 rfl (H1.seen 0 rfl) (by (try simp only [List.length_nil]); unfold maxLen; omega) (by (try simp only [List.length_nil]); omega) (fun v1 w2 fp1 H2 => ?_))
  refine sA rfl rfl (s_nil (rT hQ Tryz.results151 rfl ?_))
  exact ⟨H2.ext, by
   have h := H2.out 0 rfl
   rwa [List.nil_append] at h⟩
theorem Tryz_impl_sum {w : World} {xs ys : List UInt8} {xsA ysA : Option Addr} {xsC ysC : Nat} {c : UInt8} (xsS : Sees w [.slice xsA xs.length xsC] xs) (ysS : Sees w [.slice ysA ys.length ysC] ys) (hl : xs.length = ys.length ∧ xs.length ≤ 100000) : Ret Tryz.prog 210 #[.slice xsA xs.length xsC, .slice ysA ys.length ysC, .int .u8 c.toNat] w fun v w' => Ext No w w' ∧ (Res w w' [v] (addG xs (scaleG ys c))) := by
 have xsL := sL xsS
 obtain ⟨xsF, xsO⟩ := xsS
 have ysL := sL ysS
 obtain ⟨ysF, ysO⟩ := ysS
 refine ret_Q (vs := [.slice xsA xs.length xsC, .slice ysA ys.length ysC, .int .u8 c.toNat]) Tryz.func210 rfl Tryz.ntmps210 rfl (fun Q hQ hN => ?_)
 have H0 := Sep.start (w := w) (F := [seen false [.slice xsA xs.length xsC] xs xsF, seen false [.slice ysA ys.length ysC] ys ysF]) (all_cons xsO (all_cons ysO (by simp)))
 refine W_sr (sA rfl rfl (s_nil (W_sr (sM rfl rfl (s_call (wn rfl) rfl rfl (pc_call Tryz.func151 rfl Tryz_nm151 rfl) (Tryz_slices_Clone_byte_byte (H0.sees 0 rfl) (by omega)) (fun v1 w1 r1 => ?_))))))
 obtain ⟨e1, r1⟩ := r1
 obtain ⟨fp1, H1⟩ := H0.res e1 r1
 obtain ⟨a1, k1, q1⟩ := own_slice (H1.mine 0 rfl)
 cases q1
 refine sA rfl rfl (s_nil (W_sr (sM rfl rfl (sM rfl rfl (sM rfl rfl (s_call (wn rfl) rfl rfl (pc_call Tryz.func289 rfl Tryz_nm289 rfl) (Tryz_impl_put (H1.mine 0 rfl) (H1.nodup1 (i := 0) rfl) (own_weak (H1.seen 1 rfl)) (fun b hb => H1.off 1 rfl 0 rfl hb) (by first | assumption | omega)) (fun v2 w2 r2 => ?_)))))))
 obtain ⟨fp2, H2⟩ := H1.mut 0 rfl r2
 refine s_nil (W_sr (sM rfl rfl (sA rfl rfl (s_nil (rT hQ Tryz.results210 rfl ?_)))))
 exact ⟨H2.ext, H2.out 0 rfl⟩
end Go.Wk
namespace Go.Wk
open Go.Proofs Rp
set_option maxRecDepth 10000
theorem Tryz_impl_scaled {w : World} {xs : List UInt8} {xsA : Option Addr} {xsC : Nat} {c : UInt8} (xsS : Sees w [.slice xsA xs.length xsC] xs) (hl : xs.length ≤ 100000) : Ret Tryz.prog 287 #[.slice xsA xs.length xsC, .int .u8 c.toNat] w fun v w' => Ext No w w' ∧ (Res w w' [v] (scaleG xs c)) := by
 have xsL := sL xsS
 obtain ⟨xsF, xsO⟩ := xsS
 refine ret_Q (vs := [.slice xsA xs.length xsC, .int .u8 c.toNat]) Tryz.func287 rfl Tryz.ntmps287 rfl (fun Q hQ hN => ?_)
 have H0 := Sep.start (w := w) (F := [seen false [.slice xsA xs.length xsC] xs xsF]) (all_cons xsO (by simp))
 refine W_sr (sA rfl rfl (s_nil (W_sr (sM rfl rfl (sV rfl (py_len tu45 rfl) (s_make (wn rfl) rfl tu45 Tryz_ty5 own_z8 rfl (by omega) (by unfold maxLen; omega) H0 (fun b1 w1 e1 g1 H1 => ?_)))))))
 refine sA rfl rfl (s_nil (W_seq ?_))
 have rl : (List.replicate xs.length (0 : UInt8)).length = xs.length := List.length_replicate
 refine W_reg (sM rfl rfl (sM rfl rfl (sM rfl rfl (s_call (wn rfl) rfl rfl (pc_call Tryz.func289 rfl Tryz_nm289 rfl) (Tryz_impl_put (H1.mine 0 rfl) (H1.nodup1 (i := 0) rfl) (own_weak (H1.seen 0 rfl)) (fun b hb => H1.off 0 rfl 0 rfl hb) (by first | assumption | omega)) (fun v1 w2 r1 => ?_)))))
 obtain ⟨fp1, H2⟩ := H1.mut 0 rfl r1
 refine s_nil (W_sr (sM rfl rfl (sA rfl rfl (s_nil (rT hQ Tryz.results287 rfl ?_)))))
 exact ⟨H2.ext, by
  have h := H2.out 0 rfl
  rwa [addG_zero_l (scaleG_len xs c)] at h⟩
end Go.Wk
namespace Go.Wk
open Go.Proofs Rp
set_option maxRecDepth 10000
theorem Tryz_impl_Shape_row {w : World} {s : Shape} (hs : s.ok = true) : Ret Tryz.prog 175 #[s.v] w fun v w' => Ext No w w' ∧ (v = .agg #[.int .i64 (s.Data.toNat : Nat), .int .i64 (s.Spare.toNat : Nat)]) := by
 have sbd := shape_bd hs
 refine ret_Q (vs := [s.v]) Tryz.func175 rfl Tryz.ntmps175 rfl (fun Q hQ hN => ?_)
 have H0 := Sep.start (w := w) (F := []) (by simp)
 refine W_sr (s_box (wn rfl) rfl rfl H0 (fun b1 w1 e1 g1 H1 => ?_))
 refine s_var (wn rfl) rfl Tryz.zeroValue167 H1 (fun b2 w2 e2 g2 H2 => ?_)
 refine s_nil (W_sr (sV rfl (py_field tu34 rfl ts2 rfl rfl) (sV rfl (py_load tu2 rfl rfl (cell_atL (H2.box 0 rfl) rfl)) (sV rfl (py_field tu34 rfl ts2 rfl rfl) (sV rfl (py_load tu2 rfl rfl (cell_atL (H2.box 0 rfl) rfl)) (sV rfl (py_buildS Tryz_pl167 rfl rfl) (s_stoS (wn rfl) ts167 rfl rfl rfl rfl H2 1 rfl rfl (fun w3 e3 H3 => ?_))))))))
 dsimp only [lNA, lCA, lSZ, lSS, layL] at H3
 refine s_nil (W_ret (hQ _ _ (finC Tryz.results175 rfl (run_loadVarS tu167 rfl ts167 rfl (At.whole (H3.box 1 rfl))) (⟨H3.ext, ?_⟩))))
 rw [Int.toNat_of_nonneg (by omega), Int.toNat_of_nonneg (by omega)]
 rfl
end Go.Wk
namespace Go.Wk
open Go.Proofs Rp
set_option maxRecDepth 10000
theorem Tryz_impl_factor {w : World} {i j : Int} (hj : 0 ≤ j ∧ j ≤ 900) : Ret Tryz.prog 288 #[.int .i64 i, .int .i64 j] w fun v w' => Ext No w w' ∧ (v = .int .u8 (cauchy (8 + j) i).toNat) := by
 refine ret_Q (vs := [.int .i64 i, .int .i64 j]) Tryz.func288 rfl Tryz.ntmps288 rfl (fun Q hQ hN => ?_)
 have H0 := Sep.start (w := w) (F := []) (by simp)
 refine W_sr (sA rfl rfl (s_nil (W_sr (sM rfl rfl (sV rfl (py_add rfl rfl (in64 ⟨by omega, by omega⟩)) (sV rfl (py_conv8 tu2 tu5 rfl) (sM rfl rfl (sV rfl (py_conv8 tu2 tu5 rfl) (sV rfl (py_xor8 rfl rfl) (s_call (wn rfl) rfl rfl (pc_call Tryz.func332 rfl Tryz_nm332 rfl) (Tryz_impl_div (a := 1)) (fun v1 w1 r1 => ?_)))))))))))
 obtain ⟨e1, rfl⟩ := r1
 have H1 := H0.to e1
 refine sA rfl rfl (s_nil (rT hQ Tryz.results288 rfl ?_))
 exact ⟨H1.ext, by rw [mul_one_l, cauchy, show (128 : Int) + (8 + j) = 136 + j by omega]⟩
end Go.Wk
namespace Go.Wk
open Rp (sz own)
def addedL (z : Wld) (g : Int) (r : Rec) : List (List UInt8) :=
  encG z.Shape.Data.toNat (z.Shape.Data.toNat + z.Shape.Spare.toNat) (scaleG r.Delta (cauchy (8 + (g - z.Shape.Groups)) r.Group))
def dataL (z : Wld) (r : Rec) : List (List UInt8) := encG z.Shape.Data.toNat (z.Shape.Data.toNat + z.Shape.Spare.toNat) r.Data
def redoL (z : Wld) (g : Int) (r : Rec) : List (List UInt8) := if ins g 0 (z.Shape.Groups - 1) = true then dataL z r else addedL z g r
def blkA (z : Wld) (g i row : Nat) : Block := (drvAt z g i).Blocks.getD row default
def newB (z : Wld) (g : Int) (i : Nat) (r : Rec) (row : List UInt8) : List UInt8 := if ins g 0 (z.Shape.Groups - 1) = true then row else addG row (blkA z g.toNat i r.Row.toNat).Bytes
def skipB (z : Wld) (g i : Nat) (r : Rec) : Bool := (drvAt z g i).Wiped || decide (r.Seq ≤ (blkA z g i r.Row.toNat).Stamp)
def redoI (rows : List (List UInt8)) (g : Int) (r : Rec) : Nat → Nat → Wld → Bool × Wld
  | 0, _, z => (true, z)
  | n + 1, i, z => if skipB z g.toNat i r = true then redoI rows g r n (i + 1) z else
      if noPower z = true then (false, blkW g.toNat i r.Row.toNat ⟨r.Seq, newB z g i r (rows.getD i [])⟩ z)
      else redoI rows g r n (i + 1) (blkW g.toNat i r.Row.toNat ⟨r.Seq, newB z g i r (rows.getD i [])⟩ z)
def drvN (z : Wld) : Nat := z.Shape.Data.toNat + z.Shape.Spare.toNat
def redoP (z : Wld) (g : Int) (r : Rec) : Bool × Wld := redoI (redoL z g r) g r (drvN z) 0 z
section
variable {z : Wld} {g i row j n : Nat} {b : Block} {r : Rec} {rows : List (List UInt8)}
theorem set_self {α : Type} {xs : List α} {k : Nat} {d : α} (h : k < xs.length) : xs.set k (xs.getD k d) = xs := by
  rw [getD_el h]; exact List.set_getElem_self h
theorem blkT_self (hg : g < z.Groups.length) (hi : i < (z.Groups.getD g []).length) (hr : row < ((z.Groups.getD g []).getD i default).Blocks.length) : blkT g i row (blkA z g i row) z = z := by
  unfold blkT blkA drvAt
  rw [set_self hr]
  have e : (⟨((z.Groups.getD g []).getD i default).Wiped, ((z.Groups.getD g []).getD i default).Blocks⟩ : Drive) = (z.Groups.getD g []).getD i default := rfl
  rw [e, set_self hi, set_self hg]
theorem redoI_end {g : Int} (h : ¬ i < n) : redoI rows g r (n - i) i z = (true, z) := by rw [show n - i = 0 by omega]; rfl
theorem redoI_skip {g : Int} (h : i < n) (c : skipB z g.toNat i r = true) : redoI rows g r (n - i) i z = redoI rows g r (n - (i + 1)) (i + 1) z := by
  rw [show n - i = (n - (i + 1)) + 1 by omega, redoI, if_pos c]
theorem redoI_go {g : Int} (h : i < n) (c : skipB z g.toNat i r = false) (p : noPower z = false) : redoI rows g r (n - i) i z = redoI rows g r (n - (i + 1)) (i + 1) (blkW g.toNat i r.Row.toNat ⟨r.Seq, newB z g i r (rows.getD i [])⟩ z) := by
  rw [show n - i = (n - (i + 1)) + 1 by omega, redoI, if_neg (by rw [c]; simp), if_neg (by rw [p]; simp)]
theorem redoI_stop {g : Int} (h : i < n) (c : skipB z g.toNat i r = false) (p : noPower z = true) : redoI rows g r (n - i) i z = (false, blkW g.toNat i r.Row.toNat ⟨r.Seq, newB z g i r (rows.getD i [])⟩ z) := by
  rw [show n - i = (n - (i + 1)) + 1 by omega, redoI, if_neg (by rw [c]; simp), if_pos p]
theorem blkW_facts (hg : g < z.Groups.length) (hi : i < (z.Groups.getD g []).length) :
    (blkW g i row b z).Groups.length = z.Groups.length ∧ ((blkW g i row b z).Groups.getD g []).length = (z.Groups.getD g []).length ∧ ∀ j, j ≠ i → drvAt (blkW g i row b z) g j = drvAt z g j := by
  unfold blkW rawW
  split
  · exact ⟨rfl, rfl, fun _ _ => rfl⟩
  · have e : (tickW (blkT g i row b z)).Groups = z.Groups.set g ((z.Groups.getD g []).set i ⟨(drvAt z g i).Wiped, (drvAt z g i).Blocks.set row b⟩) := rfl
    have e2 : (z.Groups.set g ((z.Groups.getD g []).set i ⟨(drvAt z g i).Wiped, (drvAt z g i).Blocks.set row b⟩)).getD g [] = (z.Groups.getD g []).set i ⟨(drvAt z g i).Wiped, (drvAt z g i).Blocks.set row b⟩ := by rw [getD_set, if_pos ⟨rfl, hg⟩]
    refine ⟨by rw [e, List.length_set], by rw [e, e2, List.length_set], fun j hj => ?_⟩
    unfold drvAt
    rw [e, e2, getD_set, if_neg (fun q => hj q.1)]
theorem move_facts {g : Int} (hs : z.Shape.ok = true) (hG : groupsOK z = true) (hg : ins g 0 (z.Shape.Groups + z.Shape.Column - 1) = true) (hm : recF z.Shape r = 0) (hk : r.Kind = 2) :
    g.toNat < z.Groups.length ∧ (z.Groups.getD g.toNat []).length = drvN z ∧ (∀ i, i < drvN z → r.Row.toNat < (drvAt z g.toNat i).Blocks.length ∧ ((drvAt z g.toNat i).Blocks.getD r.Row.toNat default).Bytes.length = 4) ∧
      r.Data.length = z.Shape.Data.toNat * 4 ∧ (r.Delta.length : Int) = z.Shape.Data * 4 ∧ (1 ≤ r.Seq ∧ r.Seq ≤ 1000000000 ∧ 0 ≤ r.Row ∧ 0 ≤ r.Group ∧ r.Group < z.Shape.Groups) := by
  have sbd := shape_bd hs
  have hgi := ins_iff.1 hg
  obtain ⟨h1, h2⟩ := groups_get hG
  obtain ⟨h3, h4⟩ := h2 g.toNat (by omega)
  have hd : drvN z = z.Shape.Data.toNat + z.Shape.Spare.toNat := rfl
  have hi : ins r.Kind 1 4 = true := by rw [hk]; rfl
  unfold recF at hm
  rw [if_pos hi] at hm
  have hq : ins r.Seq 1 1000000000 = true := by
    cases c : ins r.Seq 1 1000000000
    · rw [c] at hm; simp at hm
    · rfl
  rw [if_pos hq] at hm
  have hkf : kindF z.Shape r = 0 := by
    by_cases c : kindF z.Shape r ≠ 0
    · rw [if_pos c] at hm; exact absurd hm c
    · omega
  have hmv : moveOK z.Shape r = true := by
    unfold kindF at hkf
    rw [if_neg (by omega), if_pos hk] at hkf
    cases c : moveOK z.Shape r
    · rw [c] at hkf; simp at hkf
    · rfl
  unfold moveOK at hmv
  simp only [Bool.and_eq_true, decide_eq_true_eq, ins_iff] at hmv
  have hq2 := ins_iff.1 hq
  refine ⟨by omega, by omega, fun i hi => ?_, by omega, hmv.2, by omega⟩
  obtain ⟨h5, h6⟩ := h4 i (by omega)
  have h7 : r.Row.toNat < (drvAt z g.toNat i).Blocks.length := by unfold drvAt; omega
  exact ⟨h7, (blockOK_get (h6 r.Row.toNat (by unfold drvAt at h7; exact h7))).2.2⟩
theorem blkW_shape : (blkW g i row b z).Shape = z.Shape := by unfold blkW rawW; split <;> rfl
theorem blkW_writes : z.Writes ≤ (blkW g i row b z).Writes ∧ (blkW g i row b z).Writes ≤ z.Writes + 1 := by
  unfold blkW rawW; split
  · show z.Writes ≤ z.Writes ∧ z.Writes ≤ z.Writes + 1; omega
  · show z.Writes ≤ z.Writes + 1 ∧ z.Writes + 1 ≤ z.Writes + 1; omega
theorem blkW_down (h : noPower z = false) : (blkW g i row b z).Down = z.Down := by unfold blkW; rw [rawW_yes h]; rfl
theorem skip_w (h : ((z.Groups.getD g []).getD i default).Wiped = true) : skipB z g i r = true := by unfold skipB drvAt; rw [h]; rfl
theorem skip_s (h : r.Seq ≤ (((z.Groups.getD g []).getD i default).Blocks.getD r.Row.toNat default).Stamp) : skipB z g i r = true := by unfold skipB blkA drvAt; rw [decide_eq_true h]; simp
theorem skip_n (h1 : ((z.Groups.getD g []).getD i default).Wiped = false) (h2 : ¬ r.Seq ≤ (((z.Groups.getD g []).getD i default).Blocks.getD r.Row.toNat default).Stamp) : skipB z g i r = false := by
  unfold skipB blkA drvAt; rw [h1, decide_eq_false h2]; rfl
theorem blkW_yes (h : noPower z = false) : blkW g i row b z = tickW (blkT g i row b z) := by unfold blkW; exact rawW_yes h
end
def redoBad (z : Wld) (g : Int) (r : Rec) : Bool := decide (recF z.Shape r ≠ 0) || (decide (r.Kind ≠ 2) || (ins g 0 (z.Shape.Groups - 1) && decide (r.Group ≠ g)))
def redoF (z : Wld) (g : Int) (r : Rec) : WldResult :=
  if whereF z g 0 = 0 then if redoBad z g r = true then ⟨1, noWld⟩ else ⟨if (redoP z g r).1 = true then 0 else 9, (redoP z g r).2⟩ else ⟨whereF z g 0, noWld⟩
section
variable {z : Wld} {g : Int} {r : Rec}
theorem rowF_zero (h : z.Shape.ok = true) : rowF z g 0 = groupF z g := by
  have sbd := shape_bd h
  unfold rowF groupF
  rw [show ins 0 0 (z.Shape.Rows - 1) = true from ins_iff.2 (by omega)]
  simp
theorem redoF_bad (h : whereF z g 0 ≠ 0) : redoF z g r = ⟨whereF z g 0, noWld⟩ := if_neg h
theorem redoF_no (h : whereF z g 0 = 0) (h2 : redoBad z g r = true) : redoF z g r = ⟨1, noWld⟩ := by rw [redoF, if_pos h, if_pos h2]
theorem redoF_ok (h : whereF z g 0 = 0) (h2 : redoBad z g r = false) : redoF z g r = ⟨if (redoP z g r).1 = true then 0 else 9, (redoP z g r).2⟩ := by rw [redoF, if_pos h, if_neg (by rw [h2]; simp)]
theorem redoBad_no (h : redoBad z g r = false) : recF z.Shape r = 0 ∧ r.Kind = 2 := by
  unfold redoBad at h
  simp only [Bool.or_eq_false_iff, decide_eq_false_iff_not, Decidable.not_not] at h
  exact ⟨h.1, h.2.1⟩
theorem redoBad_spec (hf : z.Shape.fault = 0) (hg : 0 ≤ g) : redoBad z g r = ((decide ((if z.Shape.fault ≠ 0 then z.Shape.fault else recF z.Shape r) ≠ 0) || decide (r.Kind ≠ 2)) || (decide (g < z.Shape.Groups) && decide (g ≠ r.Group))) := by
  unfold redoBad
  rw [if_neg (by omega), Bool.or_assoc]
  have e1 : ins g 0 (z.Shape.Groups - 1) = decide (g < z.Shape.Groups) := by
    by_cases c : g < z.Shape.Groups
    · rw [decide_eq_true c, ins_iff.2 (by omega)]
    · rw [decide_eq_false c]
      cases h : ins g 0 (z.Shape.Groups - 1)
      · rfl
      · have := ins_iff.1 h; omega
  rw [e1, show (decide (r.Group ≠ g)) = decide (g ≠ r.Group) from decide_eq_decide.2 ⟨fun h e => h e.symm, fun h e => h e.symm⟩]
theorem redo_Ok (h : z.Ok) (hg : whereF z g 0 = 0 → redoBad z g r = false → (redoP z g r).2.Ok) : (redoF z g r).Ok := by
  have h1 := whereF_cd (z := z) (g := g) (row := 0)
  unfold redoF
  split
  · next c =>
    split
    · exact ⟨by show I64ok 1; unfold I64ok; omega, noWld_ok⟩
    · next c2 => exact ⟨by show I64ok (if (redoP z g r).1 = true then 0 else 9); unfold I64ok; split <;> omega, hg c (by simpa using c2)⟩
  · exact ⟨by show I64ok (whereF z g 0); unfold I64ok; omega, noWld_ok⟩
theorem redo_up (h : upF z ≠ 0) : whereF z g 0 = upF z := if_pos h
theorem redo_grp (h : upF z = 0) : whereF z g 0 = groupF z g := by
  rw [whereF, if_neg (by omega), rowF_zero (worldF_ok (upF_ok h).1).1]
theorem blkW_ok {gn i row : Nat} {b : Block} (h : z.Ok) (h2 : z.Writes ≤ 2000000000) : (blkW gn i row b z).Ok := by
  unfold blkW rawW; split
  · exact cutW_ok h
  · exact tickW_ok (blkT_ok h) h2
theorem redoI_ok {rows : List (List UInt8)} : ∀ {n i : Nat} {z : Wld}, z.Ok → z.Writes + (n : Int) ≤ 1500000000 → (redoI rows g r n i z).2.Ok
  | 0, _, _, h, _ => h
  | n + 1, i, z, h, hw => by
    rw [redoI]
    split
    · exact redoI_ok h (by omega)
    · split
      · exact blkW_ok h (by omega)
      · have h2 := (blkW_writes (g := g.toNat) (i := i) (row := r.Row.toNat) (b := ⟨r.Seq, newB z g i r (rows.getD i [])⟩) (z := z)).2
        exact redoI_ok (blkW_ok h (by omega)) (by omega)
theorem redo_Ok2 (h : z.Ok) : (redoF z g r).Ok := redo_Ok h fun hw _ => by
  obtain ⟨hs, _⟩ := whereF_ok hw
  have sbd := shape_bd hs
  obtain ⟨hw0, hw1, _, _⟩ := worldF_rng (upF_ok (whereF_up hw)).1
  have hd : drvN z = z.Shape.Data.toNat + z.Shape.Spare.toNat := rfl
  exact redoI_ok h (by omega)
theorem mk_blkT {gn i row : Nat} {b : Block} (hg : gn < z.Groups.length) (hi : i < (z.Groups.getD gn []).length) (hr : row < ((z.Groups.getD gn []).getD i default).Blocks.length) : mkWld (blkT gn i row b z) ≤ mkWld z + mkBlock b := by
  have h1 := mkL_set2 (f := mkL mkDrive) (xs := z.Groups) (i := gn) (y := (z.Groups.getD gn []).set i ⟨(drvAt z gn i).Wiped, (drvAt z gn i).Blocks.set row b⟩) hg
  have h2 := mkL_set2 (f := mkDrive) (xs := z.Groups.getD gn []) (i := i) (y := ⟨(drvAt z gn i).Wiped, (drvAt z gn i).Blocks.set row b⟩) hi
  have h3 := mkL_set2 (f := mkBlock) (xs := ((z.Groups.getD gn []).getD i default).Blocks) (i := row) (y := b) hr
  have e0 : z.Groups.getD gn default = z.Groups.getD gn [] := rfl
  rw [e0] at h1
  have h4 : mkDrive ⟨(drvAt z gn i).Wiped, (drvAt z gn i).Blocks.set row b⟩ ≤ mkDrive ((z.Groups.getD gn []).getD i default) + mkBlock b := by
    unfold mkDrive drvAt; dsimp only; omega
  unfold mkWld blkT; dsimp only; omega
theorem addG_le {xs ys : List UInt8} : (addG xs ys).length ≤ xs.length := by unfold addG; simp; omega
theorem mk_blkW {gn i row : Nat} {b : Block} (hg : gn < z.Groups.length) (hi : i < (z.Groups.getD gn []).length) (hr : row < ((z.Groups.getD gn []).getD i default).Blocks.length) : mkWld (blkW gn i row b z) ≤ mkWld z + mkBlock b := by
  have h1 := mk_blkT (b := b) hg hi hr
  unfold blkW rawW; split
  · have := mk_cut (z := z); omega
  · exact h1
theorem newB_len {i : Nat} {row : List UInt8} (h : row.length ≤ 4) : (newB z g i r row).length ≤ 4 := by
  unfold newB; split
  · exact h
  · exact Nat.le_trans addG_le h
theorem mk_redoI {rows : List (List UInt8)} (hrow : ∀ i, (rows.getD i []).length ≤ 4) : ∀ {n i : Nat} {z : Wld}, g.toNat < z.Groups.length → i + n ≤ (z.Groups.getD g.toNat []).length → (∀ j, i ≤ j → j < i + n → r.Row.toNat < (drvAt z g.toNat j).Blocks.length) → mkWld (redoI rows g r n i z).2 ≤ mkWld z + 5 * n
  | 0, _, _, _, _, _ => Nat.le_refl _
  | n + 1, i, z, hg, hl, hr => by
    have hb : mkBlock ⟨r.Seq, newB z g i r (rows.getD i [])⟩ ≤ 5 := by
      have := newB_len (z := z) (g := g) (r := r) (i := i) (hrow i)
      unfold mkBlock; dsimp only; omega
    have h1 := mk_blkW (b := ⟨r.Seq, newB z g i r (rows.getD i [])⟩) hg (show i < (z.Groups.getD g.toNat []).length by omega) (hr i (Nat.le_refl i) (by omega))
    obtain ⟨h2, h3, h4⟩ := blkW_facts (b := ⟨r.Seq, newB z g i r (rows.getD i [])⟩) (row := r.Row.toNat) hg (show i < (z.Groups.getD g.toNat []).length by omega)
    rw [redoI]
    split
    · have := mk_redoI hrow (n := n) (i := i + 1) (z := z) hg (by omega) (fun j h5 h6 => hr j (by omega) (by omega))
      omega
    · split
      · show mkWld (blkW _ _ _ _ z) ≤ _; omega
      · have := mk_redoI hrow (n := n) (i := i + 1) (z := blkW g.toNat i r.Row.toNat ⟨r.Seq, newB z g i r (rows.getD i [])⟩ z) (by omega) (by omega) (fun j h5 h6 => by rw [h4 j (by omega)]; exact hr j (by omega) (by omega))
        omega
theorem mk_redo : mkWld (redoF z g r).Wd ≤ mkWld z + 25 := by
  have h0 : mkWld noWld = 0 := rfl
  unfold redoF
  split
  · next hw =>
    split
    · show mkWld noWld ≤ _; omega
    · next c =>
      obtain ⟨hs, hG, hg, _, _⟩ := whereF_ok hw
      obtain ⟨hm, hk⟩ := redoBad_no (z := z) (g := g) (r := r) (by simpa using c)
      have sbd := shape_bd hs
      have hd : drvN z = z.Shape.Data.toNat + z.Shape.Spare.toNat := rfl
      obtain ⟨h1, h2, h3, h4, h5, h6⟩ := move_facts hs hG hg hm hk
      have hrow : ∀ i, ((redoL z g r).getD i []).length ≤ 4 := fun i => by
        by_cases hi : i < drvN z
        · unfold redoL; split
          · unfold dataL; exact Nat.le_of_eq (encG_lens h4 i (by omega))
          · unfold addedL; exact Nat.le_of_eq (encG_lens (by rw [scaleG_len]; omega) i (by omega))
        · have hl : (redoL z g r).length = drvN z := by
            unfold redoL; split
            · unfold dataL; exact encG_len
            · unfold addedL; exact encG_len
          have e : (redoL z g r).getD i [] = [] := by simp [List.getD, List.getElem?_eq_none (show (redoL z g r).length ≤ i by omega)]
          rw [e]; exact Nat.zero_le _
      have h7 := mk_redoI (g := g) (r := r) hrow (n := drvN z) (i := 0) (z := z) h1 (by omega) (fun j _ hj => (h3 j (by omega)).1)
      show mkWld (redoP z g r).2 ≤ _
      unfold redoP; omega
  · show mkWld noWld ≤ _; omega
end
end Go.Wk
namespace Go.Wk
open Go.Proofs Rp
set_option maxRecDepth 10000
theorem Tryz_impl_World_added {w : World} {zb zC9 zC10 zC11 rC6 rC7 rC8 : Nat} {z : Wld} {zA9 zA10 zA11 rA6 rA7 rA8 : Option Addr} {g : Int} {r : Rec} (zB : w.heap[zb]? = some (.cells [.int .i64 z.Shape.Groups, .int .i64 z.Shape.Column, .int .i64 z.Shape.Data, .int .i64 z.Shape.Spare, .int .i64 z.Shape.Rows, .int .i64 z.Shape.Cap, .int .i64 z.Shape.Batch, .int .i64 z.Shape.Queue, .int .i64 z.Shape.Stage, .slice zA9 z.Groups.length zC9, .slice zA10 z.On.length zC10, .slice zA11 z.Tapes.length zC11, .int .i64 z.Writes, .int .i64 z.Stop, .bool z.Down].toArray 38)) (zK : z.Ok) (zS9 : Sees w [.slice zA9 z.Groups.length zC9] z.Groups) (zS10 : Sees w [.slice zA10 z.On.length zC10] z.On) (zS11 : Sees w [.slice zA11 z.Tapes.length zC11] z.Tapes) (rK : r.Ok) (rS6 : Sees w [.slice rA6 r.Rows.length rC6] r.Rows) (rS7 : Sees w [.slice rA7 r.Data.length rC7] r.Data) (rS8 : Sees w [.slice rA8 r.Delta.length rC8] r.Delta) (hs : z.Shape.ok = true) (hg : z.Shape.Groups ≤ g ∧ g ≤ 100) (hd : (r.Delta.length : Int) = z.Shape.Data * 4) : Ret Tryz.prog 208 #[.pointer (some ⟨zb, 0, none⟩), .int .i64 g, r.val rA6 rC6 rA7 rC7 rA8 rC8] w fun v w' => Ext No w w' ∧ (Res w w' [v] (addedL z g r)) := by
 have zK2 := zK
 unfold Wld.Ok Shape.Ok at zK2
 try unfold I64ok at zK2
 try unfold maxLen at zK2
 have zL9 := sL zS9
 obtain ⟨zF9, zO9⟩ := zS9
 have zL10 := sL zS10
 obtain ⟨zF10, zO10⟩ := zS10
 have zL11 := sL zS11
 obtain ⟨zF11, zO11⟩ := zS11
 have rK2 := rK
 unfold Rec.Ok at rK2
 try unfold I64ok at rK2
 try unfold maxLen at rK2
 have rN2 : r.Name.size ≤ maxLen := by unfold maxLen; omega
 have rL6 := sL rS6
 obtain ⟨rF6, rO6⟩ := rS6
 have rL7 := sL rS7
 obtain ⟨rF7, rO7⟩ := rS7
 have rL8 := sL rS8
 obtain ⟨rF8, rO8⟩ := rS8
 have sbd := shape_bd hs
 refine ret_Q (vs := [.pointer (some ⟨zb, 0, none⟩), .int .i64 g, r.val rA6 rC6 rA7 rC7 rA8 rC8]) Tryz.func208 rfl Tryz.ntmps208 rfl (fun Q hQ hN => ?_)
 have H0 := Sep.start (w := w) (F := [box zb (.cells [.int .i64 z.Shape.Groups, .int .i64 z.Shape.Column, .int .i64 z.Shape.Data, .int .i64 z.Shape.Spare, .int .i64 z.Shape.Rows, .int .i64 z.Shape.Cap, .int .i64 z.Shape.Batch, .int .i64 z.Shape.Queue, .int .i64 z.Shape.Stage, .slice zA9 z.Groups.length zC9, .slice zA10 z.On.length zC10, .slice zA11 z.Tapes.length zC11, .int .i64 z.Writes, .int .i64 z.Stop, .bool z.Down].toArray 38), seen false [.slice zA9 z.Groups.length zC9] z.Groups zF9, seen false [.slice zA10 z.On.length zC10] z.On zF10, seen false [.slice zA11 z.Tapes.length zC11] z.Tapes zF11, seen false [.slice rA6 r.Rows.length rC6] r.Rows rF6, seen false [.slice rA7 r.Data.length rC7] r.Data rF7, seen false [.slice rA8 r.Delta.length rC8] r.Delta rF8]) (all_cons (by exact zB) (all_cons zO9 (all_cons zO10 (all_cons zO11 (all_cons rO6 (all_cons rO7 (all_cons rO8 (by simp))))))))
 refine W_sr (s_box (wn rfl) rfl rfl H0 (fun b1 w1 e1 g1 H1 => ?_))
 refine sA rfl rfl (s_nil (W_seq (W_drw (S := Ext No _) [(0, true), (1, true), (2, true), (3, true), (5, true), (6, true), (7, true), (8, true), (9, true), (10, true), (11, true), (12, true), (13, true), (14, true), (15, true), (4, false), (16, false), (17, false), (18, false), (19, false)] (by kernel_rfl) (by kernel_rfl) (by kernel_rfl) rfl (fun _ => Ext.refl.drawn _) (fun q1 => ?_))))
 have H2 := H1.drawn q1
 refine dM rfl rfl rfl (dV rfl rfl (fun zw hx => py_nil rfl) (dV rfl rfl (fun zw hx => py_field tu38 rfl ts34 rfl rfl) (dV rfl rfl (fun zw hx => py_loadS tu34 rfl ts34 rfl rfl (At.sub (hx.heap (H2.fbox 0 rfl)) 9)) (dV rfl rfl (fun zw hx => py_field tu68 rfl ts45 rfl rfl) (dV rfl rfl (fun zw hx => py_load tu45 rfl rfl (cell_atL (hx.heap (H2.box 0 rfl)) rfl)) (dV rfl rfl (fun zw hx => py_field tu68 rfl ts2 rfl rfl) (dV rfl rfl (fun zw hx => py_load tu2 rfl rfl (cell_atL (hx.heap (H2.box 0 rfl)) rfl)) (dM rfl rfl rfl (dM rfl rfl rfl (dV rfl rfl (fun zw hx => py_nil rfl) (dV rfl rfl (fun zw hx => py_field tu38 rfl ts34 rfl rfl) (dV rfl rfl (fun zw hx => py_field tu34 rfl ts2 rfl rfl) (dV rfl rfl (fun zw hx => py_load tu2 rfl rfl (cell_atL (hx.heap (H2.fbox 0 rfl)) rfl)) (dV rfl rfl (fun zw hx => py_sub rfl rfl (in64 ⟨by omega, by omega⟩)) (d_call rfl (wn rfl) rfl rfl (pc_call Tryz.func175 rfl Tryz_nm175 rfl) (Tryz_impl_Shape_row (by assumption)) (fun hS _ _ r _ => hS.trans r.1.no) (fun v1 w2 r1 => ?_))))))))))))))))
 obtain ⟨e2, rfl⟩ := r1
 have H3 := H2.to e2
 refine d_call rfl (wn rfl) rfl rfl (pc_call Tryz.func288 rfl Tryz_nm288 rfl) (Tryz_impl_factor (by omega)) (fun hS _ _ r _ => hS.trans r.1.no) (fun v2 w3 r2 => ?_)
 obtain ⟨e3, rfl⟩ := r2
 have H4 := H3.to e3
 refine d_call rfl (wn rfl) rfl rfl (pc_call Tryz.func287 rfl Tryz_nm287 rfl) (Tryz_impl_scaled (H4.sees 6 rfl) (by omega)) (fun hS _ _ r _ => hS.trans r.1.no) (fun v3 w4 r3 => ?_)
 obtain ⟨e4, r3⟩ := r3
 obtain ⟨fp1, H5⟩ := H4.res e4 r3
 obtain ⟨a1, k1, q2⟩ := own_slice (H5.mine 1 rfl)
 cases q2
 refine d_call rfl (wn rfl) rfl rfl (pc_call Tryz.func207 rfl Tryz_nm207 rfl) (Tryz_impl_rowCode_encode (n := z.Shape.Data.toNat) (s := z.Shape.Spare.toNat) (by omega) (by omega) (by omega) (by rw [scaleG_len]; omega) ⟨_, own_weak (H5.mine 1 rfl)⟩) (fun hS _ _ r _ => hS.trans r.1.no) (fun v4 w5 r4 => ?_)
 obtain ⟨e5, r4⟩ := r4
 obtain ⟨fp2, H6⟩ := H5.res e5 r4
 obtain ⟨a2, k2, q3⟩ := own_slice (H6.mine 2 rfl)
 cases q3
 refine d_end rfl (wn rfl) rfl rfl (py_assign rfl) (d_nil (rT hQ Tryz.results208 rfl ?_))
 exact ⟨H6.ext, H6.out 2 rfl⟩
theorem Tryz_impl_World_redoMove {w : World} {z : Wld} {zb rC6 rC7 rC8 : Nat} {fp rF6 rF7 rF8 : List Nat} {g : Int} {r : Rec} {rA6 rA7 rA8 : Option Addr} (o : OwnW w zb 38 z fp) (nd : fp.Nodup) (rK : r.Ok) (rO6 : own false w [.slice rA6 r.Rows.length rC6] r.Rows rF6) (rD6 : ∀ b ∈ rF6, b ∉ fp) (rO7 : own false w [.slice rA7 r.Data.length rC7] r.Data rF7) (rD7 : ∀ b ∈ rF7, b ∉ fp) (rO8 : own false w [.slice rA8 r.Delta.length rC8] r.Delta rF8) (rD8 : ∀ b ∈ rF8, b ∉ fp) (hs : z.Shape.ok = true) (hG : groupsOK z = true) (hg : ins g 0 (z.Shape.Groups + z.Shape.Column - 1) = true) (hm : recF z.Shape r = 0) (hk : r.Kind = 2) (hw : z.Writes ≤ 1400000000) : Ret Tryz.prog 122 #[.pointer (some ⟨zb, 0, none⟩), .int .i64 g, r.val rA6 rC6 rA7 rC7 rA8 rC8] w fun v w' => (v = .int .i64 (if (redoP z g r).1 = true then 0 else 9) ∧ MutW w w' fp zb 38 ((redoP z g r).2)) := by
 have rK2 := rK
 unfold Rec.Ok at rK2
 try unfold I64ok at rK2
 try unfold maxLen at rK2
 have rN2 : r.Name.size ≤ maxLen := by unfold maxLen; omega
 have rL6 := oL rO6
 have rL7 := oL rO7
 have rL8 := oL rO8
 have sbd := shape_bd hs
 have hdn : drvN z = z.Shape.Data.toNat + z.Shape.Spare.toNat := rfl
 obtain ⟨hgg, hgr, hro, hDl, hDe, hsq⟩ := move_facts hs hG hg hm hk
 have hgi := ins_iff.1 hg
 refine ret_Q (vs := [.pointer (some ⟨zb, 0, none⟩), .int .i64 g, r.val rA6 rC6 rA7 rC7 rA8 rC8]) Tryz.func122 rfl Tryz.ntmps122 rfl (fun Q hQ hN => ?_)
 have H0 := (((Sep.beginW o nd).seeF (rO6) rD6).seeF (rO7) rD7).seeF (rO8) rD8
 try dsimp only [lNA, lCA, lSZ, lSS] at H0
 refine W_sr (s_box (wn rfl) rfl rfl H0 (fun b1 w1 e1 g1 H1 => ?_))
 refine sA rfl rfl (s_nil (W_seq ?_))
 obtain ⟨wA1, wC1, wA2, wC2, wA3, wC3, wf1, wf2, wf3, wok1, H2⟩ := H1.openW 0 rfl
 try dsimp only [lNA, lCA, lSZ, lSS] at H2
 have wok1U := wok1
 unfold Wld.Ok Shape.Ok I64ok at wok1U
 have wL1 := oL (H2.mine 3 rfl)
 have wL2 := oL (H2.mine 4 rfl)
 have wL3 := oL (H2.mine 5 rfl)
 refine W_reg (sM rfl rfl (sV rfl (py_nil rfl) (sV rfl (py_field tu38 rfl ts34 rfl rfl) (sV rfl (py_loadS tu34 rfl ts34 rfl rfl (At.sub (H2.box 0 rfl) 9)) (sM rfl rfl (s_call (wn rfl) rfl rfl (pc_call Tryz.func120 rfl Tryz_nm120 rfl) (Tryz_impl_Shape_isData (by assumption)) (fun v1 w2 r1 => ?_)))))))
 obtain ⟨e2, rfl⟩ := r1
 have H3 := H2.to e2
 refine sA rfl rfl (s_nil (W_sr (s_lit0 (α := (List UInt8)) (wn rfl) rfl tu112 Tryz_ty45 H3 (fun b2 w3 e3 g2 H4 => ?_))))
 refine sA rfl rfl (s_nil (W_seq (W_sr (sM rfl rfl (s_nil (W_if rfl (fun c1 => ?_) (fun c1 => ?_)))))))
 ·refine W_drw (S := Ext No _) [(0, true), (1, true), (2, true), (3, true), (5, true), (6, true), (4, false), (7, false), (8, false)] (by kernel_rfl) (by kernel_rfl) (by kernel_rfl) rfl (fun _ => Ext.refl.drawn _) (fun q1 => ?_)
  have H5 := H4.drawn q1
  refine dM rfl rfl rfl (dV rfl rfl (fun zw hx => py_nil rfl) (dV rfl rfl (fun zw hx => py_field tu38 rfl ts34 rfl rfl) (dV rfl rfl (fun zw hx => py_loadS tu34 rfl ts34 rfl rfl (At.sub (hx.heap (H5.box 0 rfl)) 9)) (dV rfl rfl (fun zw hx => py_field tu68 rfl ts45 rfl rfl) (dV rfl rfl (fun zw hx => py_load tu45 rfl rfl (cell_atL (hx.heap (H5.box 1 rfl)) rfl)) (d_call rfl (wn rfl) rfl rfl (pc_call Tryz.func175 rfl Tryz_nm175 rfl) (Tryz_impl_Shape_row (by assumption)) (fun hS _ _ r _ => hS.trans r.1.no) (fun v2 w4 r2 => ?_)))))))
  obtain ⟨e4, rfl⟩ := r2
  have H6 := H5.to e4
  refine d_call rfl (wn rfl) rfl rfl (pc_call Tryz.func207 rfl Tryz_nm207 rfl) (Tryz_impl_rowCode_encode (n := z.Shape.Data.toNat) (s := z.Shape.Spare.toNat) (by omega) (by omega) (by omega) (by omega) ⟨_, own_weak (H6.seen 1 rfl)⟩) (fun hS _ _ r _ => hS.trans r.1.no) (fun v3 w5 r3 => ?_)
  obtain ⟨e5, r3⟩ := r3
  obtain ⟨fp1, H7⟩ := H6.res e5 r3
  obtain ⟨a1, k1, q2⟩ := own_slice (H7.mine 7 rfl)
  cases q2
  refine d_end rfl (wn rfl) rfl rfl (py_assign rfl) (d_nil (W_seq (W_sr (sM rfl rfl (sV rfl (py_nil rfl) (sV rfl (py_field tu38 rfl ts34 rfl rfl) (sV rfl (py_loadS tu34 rfl ts34 rfl rfl (At.sub (H7.box 0 rfl) 9)) (s_call (wn rfl) rfl rfl (pc_call Tryz.func209 rfl Tryz_nm209 rfl) (Tryz_impl_Shape_drives (by assumption)) (fun v4 w6 r4 => ?_)))))))))
  obtain ⟨e6, rfl⟩ := r4
  have H8 := H7.to e6
  refine sM rfl rfl (s_nil (W_block ?_))
  have H9 := H8.share 7 rfl
  try dsimp only [lNA, lCA, lSZ, lSS] at H9
  obtain ⟨fp2, H10⟩ := H9.closeW 0 3 4 5 z rfl rfl rfl rfl rfl rfl rfl rfl rfl rfl wok1
  try dsimp only [lNA, lCA, lSZ, lSS] at H10
  have hRl : (dataL z r).length = drvN z := by unfold dataL; exact encG_len
  have hRe : redoL z g r = (dataL z r) := if_pos c1
  refine W_loop (γ := Nat × Wld × List Nat) (fun (i, zi, f) => [(0, .pointer (some ⟨zb, 0, none⟩)), (1, .int .i64 g), (5, .pointer (some ⟨b1, 0, none⟩)), (7, .bool (ins g 0 (z.Shape.Groups - 1))), (8, .slice a1 (dataL z r).length k1), (37, .int .i64 (z.Shape.Data + z.Shape.Spare)), (38, .int .i64 i)]) (fun (i, zi, f) w' => Sep (· ∈ fp) w [wldR zb 38 zi f, box b1 (.cells [.int .i64 r.Kind, .int .i64 r.Seq, .string r.Name, .int .i64 r.Length, .int .i64 r.Group, .int .i64 r.Row, .slice rA6 r.Rows.length rC6, .slice rA7 r.Data.length rC7, .slice rA8 r.Delta.length rC8].toArray 68)] [seen false [.slice rA6 r.Rows.length rC6] r.Rows rF6, seen false [.slice rA7 r.Data.length rC7] r.Data rF7, seen false [.slice rA8 r.Delta.length rC8] r.Delta rF8, seen true [.slice a1 (dataL z r).length k1] (dataL z r) fp1] w' ∧ i ≤ drvN z ∧ redoP z g r = redoI (dataL z r) g r (drvN z - i) i zi ∧ zi.Shape = z.Shape ∧ zi.Groups.length = z.Groups.length ∧ (zi.Groups.getD g.toNat []).length = (z.Groups.getD g.toNat []).length ∧ (∀ j, i ≤ j → drvAt zi g.toNat j = drvAt z g.toNat j) ∧ zi.Writes ≤ z.Writes + i) (fun (i, zi, f) => drvN z - i) (0, z, _) ⟨rfl, rfl, rfl, rfl, rfl, rfl, rfl, trivial⟩ ⟨(H10.dtake 2), by (try dsimp only); omega, (by rw [← hRe]; rfl), rfl, rfl, rfl, fun _ _ => rfl, by (try dsimp only); omega⟩ (fun (i, zi, f) w7 H11 => ?_)
  obtain ⟨H11, hi, hdl, hsh, hgl, hgn, hdv, hw2⟩ := H11
  refine W_sr (sV rfl (py_lss rfl rfl) (s_nil (W_seq (W_ifd rfl (fun c2 => ?_) (fun c2 => ?_)))))
  ·refine W_skip (W_seq (W_block (W_sr (sM rfl rfl (sA rfl rfl (s_nil (W_seq ?_)))))))
   have hdr := hdv i (Nat.le_refl i)
   have hq1 : g.toNat < zi.Groups.length := by omega
   have hq2 : i < (zi.Groups.getD g.toNat []).length := by omega
   have hq3 : r.Row.toNat < ((zi.Groups.getD g.toNat []).getD i default).Blocks.length := by
    have e : (zi.Groups.getD g.toNat []).getD i default = (z.Groups.getD g.toNat []).getD i default := hdr
    rw [e]; exact (hro i (by omega)).1
   have hq4 : (blkA zi g.toNat i r.Row.toNat).Bytes.length = 4 := by
    unfold blkA; rw [hdr]; exact (hro i (by omega)).2
   obtain ⟨wA4, wC4, wA5, wC5, wA6, wC6, wf4, wf5, wf6, wok2, H12⟩ := H11.openW 0 rfl
   try dsimp only [lNA, lCA, lSZ, lSS] at H12
   have wok2U := wok2
   unfold Wld.Ok Shape.Ok I64ok at wok2U
   have wL4 := oL (H12.mine 3 rfl)
   have wL5 := oL (H12.mine 4 rfl)
   have wL6 := oL (H12.mine 5 rfl)
   obtain ⟨eb1, eo1, eT1, eF1, eG1, ea1, ek1, eg1, ee1, eH1⟩ := H12.focusL 3 rfl g.toNat (by omega)
   try dsimp only [lNA, lCA, lSZ, lSS] at eH1
   obtain ⟨eb2, eo2, eT2, eF2, eG2, ea2, ek2, eg2, ee2, eK1, eH2⟩ := Drive.focus eH1 6 rfl i (by omega)
   have eK1U := eK1
   unfold Drive.Ok at eK1U
   try unfold I64ok at eK1U
   try unfold maxLen at eK1U
   try dsimp only [lNA, lCA, lSZ, lSS] at eH2
   refine W_reg (sM rfl rfl (sV rfl (py_nil rfl) (sV rfl (py_field tu38 rfl ts35 rfl rfl) (sV rfl (py_load tu35 rfl rfl (cell_atL (eH2.box 0 rfl) rfl)) (sM rfl rfl (sV rfl (py_elz tu35 ts142 rfl rfl ee1 g.toNat (by omega) (by omega)) (sV rfl (py_load tu142 rfl rfl (at_cell (eH2.holAt 3 rfl) 0 rfl)) (sM rfl rfl (sV rfl (py_elz tu142 ts180 rfl rfl ee2 i (by omega) (by omega)) (sV rfl (py_loadS tu180 rfl ts180 rfl rfl (eH2.holAt 6 rfl)) (s_var (wn rfl) rfl Tryz.zeroValue180 eH2 (fun b3 w8 e7 g3 H13 => ?_))))))))))))
   refine s_stoS (wn rfl) ts180 rfl rfl rfl rfl H13 9 rfl rfl (fun w9 e8 H14 => ?_)
   dsimp only [lNA, lCA, lSZ, lSS, layL] at H14
   refine s_nil (W_seq ?_)
   obtain ⟨eb3, eo3, eT3, eF3, eG3, ea3, ek3, eg3, ee3, eK2, eH3⟩ := Block.focus H14 8 rfl r.Row.toNat (by omega)
   have eK2U := eK2
   unfold Block.Ok at eK2U
   try unfold I64ok at eK2U
   try unfold maxLen at eK2U
   try dsimp only [lNA, lCA, lSZ, lSS] at eH3
   refine W_reg (sV rfl (py_field tu180 rfl ts178 rfl rfl) (sV rfl (py_load tu178 rfl rfl (cell_atL (eH3.box 9 rfl) rfl)) (sV rfl (py_field tu68 rfl ts2 rfl rfl) (sV rfl (py_load tu2 rfl rfl (cell_atL (eH3.box 1 rfl) rfl)) (sV rfl (py_elz tu178 ts182 rfl rfl ee3 r.Row.toNat (by omega) (by omega)) (sV rfl (py_loadS tu182 rfl ts182 rfl rfl (eH3.holAt 8 rfl)) (s_var (wn rfl) rfl Tryz.zeroValue182 eH3 (fun b4 w10 e9 g4 H15 => ?_))))))))
   refine s_stoS (wn rfl) ts182 rfl rfl rfl rfl H15 12 rfl rfl (fun w11 e10 H16 => ?_)
   dsimp only [lNA, lCA, lSZ, lSS, layL] at H16
   refine s_nil (W_seq (W_sr (sV rfl (py_field tu180 rfl ts4 rfl rfl) (sV rfl (py_load tu4 rfl rfl (cell_atL (H16.box 9 rfl) rfl)) (sM rfl rfl (s_grp 5 (j := 2) (want := false) (t := 64) rfl rfl rfl rfl (fun hg1 kk1 => s_val (wgE rfl rfl rfl hg1) rfl rfl (py_field tu182 rfl ts2 rfl rfl) (s_val (wgE rfl rfl rfl hg1) rfl rfl (py_load tu2 rfl rfl (cell_atL (H16.box 12 rfl) rfl)) (s_val (wgE rfl rfl rfl hg1) rfl rfl (py_field tu68 rfl ts2 rfl rfl) (s_val (wgE rfl rfl rfl hg1) rfl rfl (py_load tu2 rfl rfl (cell_atL (H16.box 1 rfl) rfl)) (s_val (wgE rfl rfl rfl hg1) rfl rfl (py_geq rfl rfl) (kk1 _ _ (kx rfl (kx rfl (kx rfl (kx rfl (kx rfl k0))))) rfl Ext.refl)))))) (fun w12 e11 => ?_)))))))
   have H17 := H16.to e11
   refine sV rfl (py_bor rfl rfl) (s_nil (W_if rfl (fun c3 => ?_) (fun c3 => ?_)))
   ·refine W_exit (W_reg (sV rfl (py_add rfl rfl (in64 ⟨by omega, by omega⟩)) (sM rfl rfl (s_nil ?_))))
    obtain ⟨fp3, H18⟩ := Block.fill H17 8 11 rfl rfl rfl eK2
    try dsimp only [lNA, lCA, lSZ, lSS] at H18
    obtain ⟨fp4, H19⟩ := Drive.fill H18 6 8 rfl rfl rfl eK1
    try dsimp only [lNA, lCA, lSZ, lSS] at H19
    obtain ⟨fp5, H20⟩ := H19.fill 3 6 rfl rfl rfl
    try dsimp only [lNA, lCA, lSZ, lSS] at H20
    obtain ⟨fp6, H21⟩ := H20.closeW 0 3 4 5 (blkT g.toNat i r.Row.toNat (blkA zi g.toNat i r.Row.toNat) zi) rfl rfl rfl rfl rfl rfl rfl rfl rfl rfl (blkT_ok wok2)
    try dsimp only [lNA, lCA, lSZ, lSS] at H21
    rw [blkT_self hq1 hq2 hq3] at H21
    exact ⟨(i + 1, zi, _), ⟨rfl, rfl, rfl, rfl, rfl, rfl, rfl, trivial⟩, ⟨(H21.dtake 2), by (try dsimp only); omega, by (try dsimp only); rw [hdl, redoI_skip (by omega) (by unfold skipB blkA drvAt; simpa using c3)], hsh, hgl, hgn, fun j hj => hdv j (by (try dsimp only at hj); omega), by (try dsimp only); omega⟩, by dsimp only; omega⟩
   ·refine W_skip (W_seq ?_)
    obtain ⟨eb4, eo4, ea4, ek4, ef1, ee4, ec4, eO1, eH4⟩ := elem_sl (H17.seen 3 rfl) i (by omega)
    have eP1 := H17.look1 3 rfl eO1 eH4
    refine W_reg (sM rfl rfl (sM rfl rfl (sV rfl (py_elz tu112 ts45 rfl rfl ee4 i (by omega) (by omega)) (sV rfl (py_load tu45 rfl rfl ec4) (sA rfl rfl (s_nil (W_seq (W_seq ?_))))))))
    have hrw : ((dataL z r).getD i []).length = 4 := by unfold dataL; exact encG_lens (by omega) i (by omega)
    have hq5 : ((((zi.Groups.getD g.toNat []).getD i default).Blocks.getD r.Row.toNat default).Bytes).length = 4 := hq4
    have hbl : ((dataL z r).getD i []).length = 4 := by exact hrw
    refine W_reg (sM rfl rfl (sV rfl (py_not rfl) (s_nil (W_if rfl (fun c4 => ?_) (fun c4 => ?_)))))
    ·exact absurd c4 (by rw [c1]; simp)
    ·refine W_skip (W_seq ?_)
     obtain ⟨fp7, H22⟩ := Block.fill eP1 8 11 rfl rfl rfl eK2
     try dsimp only [lNA, lCA, lSZ, lSS] at H22
     obtain ⟨fp8, H23⟩ := Drive.fill H22 6 8 rfl rfl rfl eK1
     try dsimp only [lNA, lCA, lSZ, lSS] at H23
     obtain ⟨fp9, H24⟩ := H23.fill 3 6 rfl rfl rfl
     try dsimp only [lNA, lCA, lSZ, lSS] at H24
     obtain ⟨fp10, H25⟩ := H24.closeW 0 3 4 5 (blkT g.toNat i r.Row.toNat (blkA zi g.toNat i r.Row.toNat) zi) rfl rfl rfl rfl rfl rfl rfl rfl rfl rfl (blkT_ok wok2)
     try dsimp only [lNA, lCA, lSZ, lSS] at H25
     rw [blkT_self hq1 hq2 hq3] at H25
     have hxk : (⟨r.Seq, ((dataL z r).getD i [])⟩ : Block).Ok := by show I64ok r.Seq; unfold I64ok; omega
     have hxl : (⟨r.Seq, ((dataL z r).getD i [])⟩ : Block).Bytes.length ≤ 1000000 := by show ((dataL z r).getD i []).length ≤ 1000000; omega
     refine W_reg (sM rfl rfl (sM rfl rfl (sM rfl rfl (sV rfl (py_field tu68 rfl ts2 rfl rfl) (sV rfl (py_load tu2 rfl rfl (cell_atL (H25.box 1 rfl) rfl)) (sV rfl (py_field tu68 rfl ts2 rfl rfl) (sV rfl (py_load tu2 rfl rfl (cell_atL (H25.box 1 rfl) rfl)) (sM rfl rfl (sV rfl (py_buildS Tryz_pl182 rfl rfl) (s_call (wn rfl) rfl rfl (pc_call Tryz.func211 rfl Tryz_nm211 rfl) (Tryz_impl_World_writeBlock (H25.wldAt 0 rfl) (H25.nodup1 (i := 0) rfl) (by assumption) (own_weak (H25.seen 4 rfl)) (fun b hb => H25.off 4 rfl 0 rfl hb) (by first | assumption | omega) (by first | assumption | omega) (by first | assumption | omega) (by first | assumption | omega) (by first | assumption | omega) (x := (⟨r.Seq, ((dataL z r).getD i [])⟩ : Block))) (fun v5 w13 r5 => ?_)))))))))))
     obtain ⟨rfl, mm1⟩ := r5
     obtain ⟨fp11, H26⟩ := H25.mutW 0 rfl mm1
     try dsimp only [lNA, lCA, lSZ, lSS] at H26
     refine sV rfl (py_not rfl) (s_nil (W_if rfl (fun c5 => ?_) (fun c5 => ?_)))
     ·refine W_sr (sA rfl rfl (s_nil (rT hQ Tryz.results122 rfl ?_)))
      have hnb : newB zi g i r ((dataL z r).getD i []) = ((dataL z r).getD i []) := by
       rw [newB, hsh, if_pos c1]
      have hsk : skipB zi g.toNat i r = false := by unfold skipB blkA drvAt; simpa using c3
      obtain ⟨hf1, hf2, hf3⟩ := blkW_facts (b := ⟨r.Seq, newB zi g i r ((dataL z r).getD i [])⟩) (row := r.Row.toNat) hq1 hq2
      have hf4 := (blkW_writes (g := g.toNat) (i := i) (row := r.Row.toNat) (b := ⟨r.Seq, newB zi g i r ((dataL z r).getD i [])⟩) (z := zi)).2
      have hnp : noPower zi = true := by simpa using c5
      have hz := H26.doneW
      rw [← hnb] at hz
      rw [hdl, redoI_stop (by omega) hsk hnp]
      exact ⟨rfl, hz⟩
     ·refine W_skip (W_reg (sV rfl (py_add rfl rfl (in64 ⟨by omega, by omega⟩)) (sM rfl rfl (s_nil ?_))))
      have hnb : newB zi g i r ((dataL z r).getD i []) = ((dataL z r).getD i []) := by
       rw [newB, hsh, if_pos c1]
      have hsk : skipB zi g.toNat i r = false := by unfold skipB blkA drvAt; simpa using c3
      obtain ⟨hf1, hf2, hf3⟩ := blkW_facts (b := ⟨r.Seq, newB zi g i r ((dataL z r).getD i [])⟩) (row := r.Row.toNat) hq1 hq2
      have hf4 := (blkW_writes (g := g.toNat) (i := i) (row := r.Row.toNat) (b := ⟨r.Seq, newB zi g i r ((dataL z r).getD i [])⟩) (z := zi)).2
      have hnp : noPower zi = false := by simpa using c5
      have hz := ((H26.ftake 4).dtake 2)
      rw [← hnb] at hz
      exact ⟨(i + 1, blkW g.toNat i r.Row.toNat ⟨r.Seq, newB zi g i r ((dataL z r).getD i [])⟩ zi, _), ⟨rfl, rfl, rfl, rfl, rfl, rfl, rfl, trivial⟩, ⟨hz, by (try dsimp only); omega, by (try dsimp only); rw [hdl, redoI_go (by omega) hsk hnp], by (try dsimp only); rw [blkW_shape]; exact hsh, by (try dsimp only); omega, by (try dsimp only); omega, fun j hj => (hf3 j (by (try dsimp only at hj); omega)).trans (hdv j (by (try dsimp only at hj); omega)), by (try dsimp only); omega⟩, by dsimp only; omega⟩
  ·refine W_exit (W_sr (sA rfl rfl (s_nil (rT hQ Tryz.results122 rfl ?_))))
   have hz := H11.doneW
   rw [hdl, redoI_end (by omega)]
   exact ⟨rfl, hz⟩
 ·have hgc : z.Shape.Groups ≤ g := by
   have hx : ¬ (0 ≤ g ∧ g ≤ z.Shape.Groups - 1) := fun q => by have := ins_iff.2 q; rw [c1] at this; cases this
   omega
  refine W_reg (sM rfl rfl (sM rfl rfl (sV rfl (py_loadS tu68 rfl ts68 rfl rfl (At.whole (H4.box 1 rfl))) (s_call (wn rfl) rfl rfl (pc_call Tryz.func208 rfl Tryz_nm208 rfl) (Tryz_impl_World_added (H4.box 0 rfl) (by assumption) (H4.msees 3 rfl) (H4.msees 4 rfl) (H4.msees 5 rfl) (by assumption) (H4.sees 0 rfl) (H4.sees 1 rfl) (H4.sees 2 rfl) (by first | assumption | omega) (by first | assumption | omega) (by first | assumption | omega)) (fun v6 w14 r6 => ?_)))))
  obtain ⟨e13, r6⟩ := r6
  obtain ⟨fp12, H27⟩ := H4.res e13 r6
  obtain ⟨a2, k2, q3⟩ := own_slice (H27.mine 7 rfl)
  cases q3
  refine sA rfl rfl (s_nil (W_seq (W_sr (sM rfl rfl (sV rfl (py_nil rfl) (sV rfl (py_field tu38 rfl ts34 rfl rfl) (sV rfl (py_loadS tu34 rfl ts34 rfl rfl (At.sub (H27.box 0 rfl) 9)) (s_call (wn rfl) rfl rfl (pc_call Tryz.func209 rfl Tryz_nm209 rfl) (Tryz_impl_Shape_drives (by assumption)) (fun v7 w15 r7 => ?_)))))))))
  obtain ⟨e14, rfl⟩ := r7
  have H28 := H27.to e14
  refine sM rfl rfl (s_nil (W_block ?_))
  have H29 := H28.share 7 rfl
  try dsimp only [lNA, lCA, lSZ, lSS] at H29
  obtain ⟨fp13, H30⟩ := H29.closeW 0 3 4 5 z rfl rfl rfl rfl rfl rfl rfl rfl rfl rfl wok1
  try dsimp only [lNA, lCA, lSZ, lSS] at H30
  have hRl : (addedL z g r).length = drvN z := by unfold addedL; exact encG_len
  have hRe : redoL z g r = (addedL z g r) := if_neg (by rw [c1]; simp)
  refine W_loop (γ := Nat × Wld × List Nat) (fun (i, zi, f) => [(0, .pointer (some ⟨zb, 0, none⟩)), (1, .int .i64 g), (5, .pointer (some ⟨b1, 0, none⟩)), (7, .bool (ins g 0 (z.Shape.Groups - 1))), (8, .slice a2 (addedL z g r).length k2), (37, .int .i64 (z.Shape.Data + z.Shape.Spare)), (38, .int .i64 i)]) (fun (i, zi, f) w' => Sep (· ∈ fp) w [wldR zb 38 zi f, box b1 (.cells [.int .i64 r.Kind, .int .i64 r.Seq, .string r.Name, .int .i64 r.Length, .int .i64 r.Group, .int .i64 r.Row, .slice rA6 r.Rows.length rC6, .slice rA7 r.Data.length rC7, .slice rA8 r.Delta.length rC8].toArray 68)] [seen false [.slice rA6 r.Rows.length rC6] r.Rows rF6, seen false [.slice rA7 r.Data.length rC7] r.Data rF7, seen false [.slice rA8 r.Delta.length rC8] r.Delta rF8, seen true [.slice a2 (addedL z g r).length k2] (addedL z g r) fp12] w' ∧ i ≤ drvN z ∧ redoP z g r = redoI (addedL z g r) g r (drvN z - i) i zi ∧ zi.Shape = z.Shape ∧ zi.Groups.length = z.Groups.length ∧ (zi.Groups.getD g.toNat []).length = (z.Groups.getD g.toNat []).length ∧ (∀ j, i ≤ j → drvAt zi g.toNat j = drvAt z g.toNat j) ∧ zi.Writes ≤ z.Writes + i) (fun (i, zi, f) => drvN z - i) (0, z, _) ⟨rfl, rfl, rfl, rfl, rfl, rfl, rfl, trivial⟩ ⟨(H30.dtake 2), by (try dsimp only); omega, (by rw [← hRe]; rfl), rfl, rfl, rfl, fun _ _ => rfl, by (try dsimp only); omega⟩ (fun (i, zi, f) w16 H31 => ?_)
  obtain ⟨H31, hi, hdl, hsh, hgl, hgn, hdv, hw2⟩ := H31
  refine W_sr (sV rfl (py_lss rfl rfl) (s_nil (W_seq (W_ifd rfl (fun c6 => ?_) (fun c6 => ?_)))))
  ·refine W_skip (W_seq (W_block (W_sr (sM rfl rfl (sA rfl rfl (s_nil (W_seq ?_)))))))
   have hdr := hdv i (Nat.le_refl i)
   have hq1 : g.toNat < zi.Groups.length := by omega
   have hq2 : i < (zi.Groups.getD g.toNat []).length := by omega
   have hq3 : r.Row.toNat < ((zi.Groups.getD g.toNat []).getD i default).Blocks.length := by
    have e : (zi.Groups.getD g.toNat []).getD i default = (z.Groups.getD g.toNat []).getD i default := hdr
    rw [e]; exact (hro i (by omega)).1
   have hq4 : (blkA zi g.toNat i r.Row.toNat).Bytes.length = 4 := by
    unfold blkA; rw [hdr]; exact (hro i (by omega)).2
   obtain ⟨wA7, wC7, wA8, wC8, wA9, wC9, wf7, wf8, wf9, wok3, H32⟩ := H31.openW 0 rfl
   try dsimp only [lNA, lCA, lSZ, lSS] at H32
   have wok3U := wok3
   unfold Wld.Ok Shape.Ok I64ok at wok3U
   have wL7 := oL (H32.mine 3 rfl)
   have wL8 := oL (H32.mine 4 rfl)
   have wL9 := oL (H32.mine 5 rfl)
   obtain ⟨eb5, eo5, eT4, eF4, eG4, ea5, ek5, eg4, ee5, eH5⟩ := H32.focusL 3 rfl g.toNat (by omega)
   try dsimp only [lNA, lCA, lSZ, lSS] at eH5
   obtain ⟨eb6, eo6, eT5, eF5, eG5, ea6, ek6, eg5, ee6, eK3, eH6⟩ := Drive.focus eH5 6 rfl i (by omega)
   have eK3U := eK3
   unfold Drive.Ok at eK3U
   try unfold I64ok at eK3U
   try unfold maxLen at eK3U
   try dsimp only [lNA, lCA, lSZ, lSS] at eH6
   refine W_reg (sM rfl rfl (sV rfl (py_nil rfl) (sV rfl (py_field tu38 rfl ts35 rfl rfl) (sV rfl (py_load tu35 rfl rfl (cell_atL (eH6.box 0 rfl) rfl)) (sM rfl rfl (sV rfl (py_elz tu35 ts142 rfl rfl ee5 g.toNat (by omega) (by omega)) (sV rfl (py_load tu142 rfl rfl (at_cell (eH6.holAt 3 rfl) 0 rfl)) (sM rfl rfl (sV rfl (py_elz tu142 ts180 rfl rfl ee6 i (by omega) (by omega)) (sV rfl (py_loadS tu180 rfl ts180 rfl rfl (eH6.holAt 6 rfl)) (s_var (wn rfl) rfl Tryz.zeroValue180 eH6 (fun b5 w17 e15 g5 H33 => ?_))))))))))))
   refine s_stoS (wn rfl) ts180 rfl rfl rfl rfl H33 9 rfl rfl (fun w18 e16 H34 => ?_)
   dsimp only [lNA, lCA, lSZ, lSS, layL] at H34
   refine s_nil (W_seq ?_)
   obtain ⟨eb7, eo7, eT6, eF6, eG6, ea7, ek7, eg6, ee7, eK4, eH7⟩ := Block.focus H34 8 rfl r.Row.toNat (by omega)
   have eK4U := eK4
   unfold Block.Ok at eK4U
   try unfold I64ok at eK4U
   try unfold maxLen at eK4U
   try dsimp only [lNA, lCA, lSZ, lSS] at eH7
   refine W_reg (sV rfl (py_field tu180 rfl ts178 rfl rfl) (sV rfl (py_load tu178 rfl rfl (cell_atL (eH7.box 9 rfl) rfl)) (sV rfl (py_field tu68 rfl ts2 rfl rfl) (sV rfl (py_load tu2 rfl rfl (cell_atL (eH7.box 1 rfl) rfl)) (sV rfl (py_elz tu178 ts182 rfl rfl ee7 r.Row.toNat (by omega) (by omega)) (sV rfl (py_loadS tu182 rfl ts182 rfl rfl (eH7.holAt 8 rfl)) (s_var (wn rfl) rfl Tryz.zeroValue182 eH7 (fun b6 w19 e17 g6 H35 => ?_))))))))
   refine s_stoS (wn rfl) ts182 rfl rfl rfl rfl H35 12 rfl rfl (fun w20 e18 H36 => ?_)
   dsimp only [lNA, lCA, lSZ, lSS, layL] at H36
   refine s_nil (W_seq (W_sr (sV rfl (py_field tu180 rfl ts4 rfl rfl) (sV rfl (py_load tu4 rfl rfl (cell_atL (H36.box 9 rfl) rfl)) (sM rfl rfl (s_grp 5 (j := 2) (want := false) (t := 64) rfl rfl rfl rfl (fun hg2 kk2 => s_val (wgE rfl rfl rfl hg2) rfl rfl (py_field tu182 rfl ts2 rfl rfl) (s_val (wgE rfl rfl rfl hg2) rfl rfl (py_load tu2 rfl rfl (cell_atL (H36.box 12 rfl) rfl)) (s_val (wgE rfl rfl rfl hg2) rfl rfl (py_field tu68 rfl ts2 rfl rfl) (s_val (wgE rfl rfl rfl hg2) rfl rfl (py_load tu2 rfl rfl (cell_atL (H36.box 1 rfl) rfl)) (s_val (wgE rfl rfl rfl hg2) rfl rfl (py_geq rfl rfl) (kk2 _ _ (kx rfl (kx rfl (kx rfl (kx rfl (kx rfl k0))))) rfl Ext.refl)))))) (fun w21 e19 => ?_)))))))
   have H37 := H36.to e19
   refine sV rfl (py_bor rfl rfl) (s_nil (W_if rfl (fun c7 => ?_) (fun c7 => ?_)))
   ·refine W_exit (W_reg (sV rfl (py_add rfl rfl (in64 ⟨by omega, by omega⟩)) (sM rfl rfl (s_nil ?_))))
    obtain ⟨fp14, H38⟩ := Block.fill H37 8 11 rfl rfl rfl eK4
    try dsimp only [lNA, lCA, lSZ, lSS] at H38
    obtain ⟨fp15, H39⟩ := Drive.fill H38 6 8 rfl rfl rfl eK3
    try dsimp only [lNA, lCA, lSZ, lSS] at H39
    obtain ⟨fp16, H40⟩ := H39.fill 3 6 rfl rfl rfl
    try dsimp only [lNA, lCA, lSZ, lSS] at H40
    obtain ⟨fp17, H41⟩ := H40.closeW 0 3 4 5 (blkT g.toNat i r.Row.toNat (blkA zi g.toNat i r.Row.toNat) zi) rfl rfl rfl rfl rfl rfl rfl rfl rfl rfl (blkT_ok wok3)
    try dsimp only [lNA, lCA, lSZ, lSS] at H41
    rw [blkT_self hq1 hq2 hq3] at H41
    exact ⟨(i + 1, zi, _), ⟨rfl, rfl, rfl, rfl, rfl, rfl, rfl, trivial⟩, ⟨(H41.dtake 2), by (try dsimp only); omega, by (try dsimp only); rw [hdl, redoI_skip (by omega) (by unfold skipB blkA drvAt; simpa using c7)], hsh, hgl, hgn, fun j hj => hdv j (by (try dsimp only at hj); omega), by (try dsimp only); omega⟩, by dsimp only; omega⟩
   ·refine W_skip (W_seq ?_)
    obtain ⟨eb8, eo8, ea8, ek8, ef2, ee8, ec8, eO2, eH8⟩ := elem_sl (H37.seen 3 rfl) i (by omega)
    have eP2 := H37.look1 3 rfl eO2 eH8
    refine W_reg (sM rfl rfl (sM rfl rfl (sV rfl (py_elz tu112 ts45 rfl rfl ee8 i (by omega) (by omega)) (sV rfl (py_load tu45 rfl rfl ec8) (sA rfl rfl (s_nil (W_seq (W_seq ?_))))))))
    have hrw : ((addedL z g r).getD i []).length = 4 := by unfold addedL; exact encG_lens (by rw [scaleG_len]; omega) i (by omega)
    have hq5 : ((((zi.Groups.getD g.toNat []).getD i default).Blocks.getD r.Row.toNat default).Bytes).length = 4 := hq4
    have hbl : (addG ((addedL z g r).getD i []) (scaleG ((((zi.Groups.getD g.toNat []).getD i default).Blocks.getD r.Row.toNat default).Bytes) 1)).length = 4 := by rw [addG_len (by rw [scaleG_len]; omega)]; exact hrw
    refine W_reg (sM rfl rfl (sV rfl (py_not rfl) (s_nil (W_if rfl (fun c8 => ?_) (fun c8 => ?_)))))
    ·refine W_reg (sM rfl rfl (sV rfl (py_field tu182 rfl ts45 rfl rfl) (sV rfl (py_load tu45 rfl rfl (cell_atL (eP2.box 12 rfl) rfl)) (s_call (wn rfl) rfl rfl (pc_call Tryz.func210 rfl Tryz_nm210 rfl) (Tryz_impl_sum (eP2.sees 4 rfl) (eP2.msees 11 rfl) (by first | assumption | omega) (c := 1)) (fun v8 w22 r8 => ?_)))))
     obtain ⟨e20, r8⟩ := r8
     obtain ⟨fp18, H42⟩ := eP2.res e20 r8
     obtain ⟨a3, k3, q4⟩ := own_slice (H42.mine 13 rfl)
     cases q4
     refine sA rfl rfl (s_nil (W_seq ?_))
     obtain ⟨fp19, H43⟩ := Block.fill H42 8 11 rfl rfl rfl eK4
     try dsimp only [lNA, lCA, lSZ, lSS] at H43
     obtain ⟨fp20, H44⟩ := Drive.fill H43 6 8 rfl rfl rfl eK3
     try dsimp only [lNA, lCA, lSZ, lSS] at H44
     obtain ⟨fp21, H45⟩ := H44.fill 3 6 rfl rfl rfl
     try dsimp only [lNA, lCA, lSZ, lSS] at H45
     obtain ⟨fp22, H46⟩ := H45.closeW 0 3 4 5 (blkT g.toNat i r.Row.toNat (blkA zi g.toNat i r.Row.toNat) zi) rfl rfl rfl rfl rfl rfl rfl rfl rfl rfl (blkT_ok wok3)
     try dsimp only [lNA, lCA, lSZ, lSS] at H46
     rw [blkT_self hq1 hq2 hq3] at H46
     have hxk : (⟨r.Seq, (addG ((addedL z g r).getD i []) (scaleG ((((zi.Groups.getD g.toNat []).getD i default).Blocks.getD r.Row.toNat default).Bytes) 1))⟩ : Block).Ok := by show I64ok r.Seq; unfold I64ok; omega
     have hxl : (⟨r.Seq, (addG ((addedL z g r).getD i []) (scaleG ((((zi.Groups.getD g.toNat []).getD i default).Blocks.getD r.Row.toNat default).Bytes) 1))⟩ : Block).Bytes.length ≤ 1000000 := by show (addG ((addedL z g r).getD i []) (scaleG ((((zi.Groups.getD g.toNat []).getD i default).Blocks.getD r.Row.toNat default).Bytes) 1)).length ≤ 1000000; omega
     refine W_reg (sM rfl rfl (sM rfl rfl (sM rfl rfl (sV rfl (py_field tu68 rfl ts2 rfl rfl) (sV rfl (py_load tu2 rfl rfl (cell_atL (H46.box 1 rfl) rfl)) (sV rfl (py_field tu68 rfl ts2 rfl rfl) (sV rfl (py_load tu2 rfl rfl (cell_atL (H46.box 1 rfl) rfl)) (sM rfl rfl (sV rfl (py_buildS Tryz_pl182 rfl rfl) (s_call (wn rfl) rfl rfl (pc_call Tryz.func211 rfl Tryz_nm211 rfl) (Tryz_impl_World_writeBlock (H46.wldAt 0 rfl) (H46.nodup1 (i := 0) rfl) (by assumption) (own_weak (H46.mine 13 rfl)) (fun b hb => H46.apart (i := 0) (j := 13) rfl rfl rfl b hb) (by first | assumption | omega) (by first | assumption | omega) (by first | assumption | omega) (by first | assumption | omega) (by first | assumption | omega) (x := (⟨r.Seq, (addG ((addedL z g r).getD i []) (scaleG ((((zi.Groups.getD g.toNat []).getD i default).Blocks.getD r.Row.toNat default).Bytes) 1))⟩ : Block))) (fun v9 w23 r9 => ?_)))))))))))
     obtain ⟨rfl, mm2⟩ := r9
     obtain ⟨fp23, H47⟩ := H46.mutW 0 rfl mm2
     try dsimp only [lNA, lCA, lSZ, lSS] at H47
     refine sV rfl (py_not rfl) (s_nil (W_if rfl (fun c9 => ?_) (fun c9 => ?_)))
     ·refine W_sr (sA rfl rfl (s_nil (rT hQ Tryz.results122 rfl ?_)))
      have hnb : newB zi g i r ((addedL z g r).getD i []) = (addG ((addedL z g r).getD i []) (scaleG ((((zi.Groups.getD g.toNat []).getD i default).Blocks.getD r.Row.toNat default).Bytes) 1)) := by
       rw [newB, hsh, if_neg (by rw [c1]; simp), scaleG_one]
       rfl
      have hsk : skipB zi g.toNat i r = false := by unfold skipB blkA drvAt; simpa using c7
      obtain ⟨hf1, hf2, hf3⟩ := blkW_facts (b := ⟨r.Seq, newB zi g i r ((addedL z g r).getD i [])⟩) (row := r.Row.toNat) hq1 hq2
      have hf4 := (blkW_writes (g := g.toNat) (i := i) (row := r.Row.toNat) (b := ⟨r.Seq, newB zi g i r ((addedL z g r).getD i [])⟩) (z := zi)).2
      have hnp : noPower zi = true := by simpa using c9
      have hz := H47.doneW
      rw [← hnb] at hz
      rw [hdl, redoI_stop (by omega) hsk hnp]
      exact ⟨rfl, hz⟩
     ·refine W_skip (W_reg (sV rfl (py_add rfl rfl (in64 ⟨by omega, by omega⟩)) (sM rfl rfl (s_nil ?_))))
      have hnb : newB zi g i r ((addedL z g r).getD i []) = (addG ((addedL z g r).getD i []) (scaleG ((((zi.Groups.getD g.toNat []).getD i default).Blocks.getD r.Row.toNat default).Bytes) 1)) := by
       rw [newB, hsh, if_neg (by rw [c1]; simp), scaleG_one]
       rfl
      have hsk : skipB zi g.toNat i r = false := by unfold skipB blkA drvAt; simpa using c7
      obtain ⟨hf1, hf2, hf3⟩ := blkW_facts (b := ⟨r.Seq, newB zi g i r ((addedL z g r).getD i [])⟩) (row := r.Row.toNat) hq1 hq2
      have hf4 := (blkW_writes (g := g.toNat) (i := i) (row := r.Row.toNat) (b := ⟨r.Seq, newB zi g i r ((addedL z g r).getD i [])⟩) (z := zi)).2
      have hnp : noPower zi = false := by simpa using c9
      have hz := ((H47.ftake 4).dtake 2)
      rw [← hnb] at hz
      exact ⟨(i + 1, blkW g.toNat i r.Row.toNat ⟨r.Seq, newB zi g i r ((addedL z g r).getD i [])⟩ zi, _), ⟨rfl, rfl, rfl, rfl, rfl, rfl, rfl, trivial⟩, ⟨hz, by (try dsimp only); omega, by (try dsimp only); rw [hdl, redoI_go (by omega) hsk hnp], by (try dsimp only); rw [blkW_shape]; exact hsh, by (try dsimp only); omega, by (try dsimp only); omega, fun j hj => (hf3 j (by (try dsimp only at hj); omega)).trans (hdv j (by (try dsimp only at hj); omega)), by (try dsimp only); omega⟩, by dsimp only; omega⟩
    ·exact absurd c8 (by rw [c1]; simp)
  ·refine W_exit (W_sr (sA rfl rfl (s_nil (rT hQ Tryz.results122 rfl ?_))))
   have hz := H31.doneW
   rw [hdl, redoI_end (by omega)]
   exact ⟨rfl, hz⟩
end Go.Wk
namespace Go.Wk
open Go.Proofs Rp
set_option maxRecDepth 10000
theorem Tryz_impl_RedoMove {w : World} {z : Wld} {zA9 zA10 zA11 rA6 rA7 rA8 : Option Addr} {zC9 zC10 zC11 rC6 rC7 rC8 : Nat} {g : Int} {r : Rec} (zK : z.Ok) (zS9 : Sees w [.slice zA9 z.Groups.length zC9] z.Groups) (zS10 : Sees w [.slice zA10 z.On.length zC10] z.On) (zS11 : Sees w [.slice zA11 z.Tapes.length zC11] z.Tapes) (rK : r.Ok) (rS6 : Sees w [.slice rA6 r.Rows.length rC6] r.Rows) (rS7 : Sees w [.slice rA7 r.Data.length rC7] r.Data) (rS8 : Sees w [.slice rA8 r.Delta.length rC8] r.Delta) (hb : szWld z ≤ 1048576) : Ret Tryz.prog 45 #[z.val zA9 zC9 zA10 zC10 zA11 zC11, .int .i64 g, r.val rA6 rC6 rA7 rC7 rA8 rC8] w fun v w' => Ext No w w' ∧ (∃ A10 C10 A11 C11 A12 C12, v = (redoF z g r).val A10 C10 A11 C11 A12 C12 ∧ Res w w' [.int .i64 (redoF z g r).Code, .int .i64 (redoF z g r).Wd.Shape.Groups, .int .i64 (redoF z g r).Wd.Shape.Column, .int .i64 (redoF z g r).Wd.Shape.Data, .int .i64 (redoF z g r).Wd.Shape.Spare, .int .i64 (redoF z g r).Wd.Shape.Rows, .int .i64 (redoF z g r).Wd.Shape.Cap, .int .i64 (redoF z g r).Wd.Shape.Batch, .int .i64 (redoF z g r).Wd.Shape.Queue, .int .i64 (redoF z g r).Wd.Shape.Stage, .slice A10 (redoF z g r).Wd.Groups.length C10, .slice A11 (redoF z g r).Wd.On.length C11, .slice A12 (redoF z g r).Wd.Tapes.length C12, .int .i64 (redoF z g r).Wd.Writes, .int .i64 (redoF z g r).Wd.Stop, .bool (redoF z g r).Wd.Down] (redoF z g r)) := by
 have zK2 := zK
 unfold Wld.Ok Shape.Ok at zK2
 try unfold I64ok at zK2
 try unfold maxLen at zK2
 have zL9 := sL zS9
 obtain ⟨zF9, zO9⟩ := zS9
 have zL10 := sL zS10
 obtain ⟨zF10, zO10⟩ := zS10
 have zL11 := sL zS11
 obtain ⟨zF11, zO11⟩ := zS11
 have rK2 := rK
 unfold Rec.Ok at rK2
 try unfold I64ok at rK2
 try unfold maxLen at rK2
 have rN2 : r.Name.size ≤ maxLen := by unfold maxLen; omega
 have rL6 := sL rS6
 obtain ⟨rF6, rO6⟩ := rS6
 have rL7 := sL rS7
 obtain ⟨rF7, rO7⟩ := rS7
 have rL8 := sL rS8
 obtain ⟨rF8, rO8⟩ := rS8
 refine ret_Q (vs := [z.val zA9 zC9 zA10 zC10 zA11 zC11, .int .i64 g, r.val rA6 rC6 rA7 rC7 rA8 rC8]) Tryz.func45 rfl Tryz.ntmps45 rfl (fun Q hQ hN => ?_)
 have H0 := Sep.start (w := w) (F := [seen false [.slice zA9 z.Groups.length zC9] z.Groups zF9, seen false [.slice zA10 z.On.length zC10] z.On zF10, seen false [.slice zA11 z.Tapes.length zC11] z.Tapes zF11, seen false [.slice rA6 r.Rows.length rC6] r.Rows rF6, seen false [.slice rA7 r.Data.length rC7] r.Data rF7, seen false [.slice rA8 r.Delta.length rC8] r.Delta rF8]) (all_cons zO9 (all_cons zO10 (all_cons zO11 (all_cons rO6 (all_cons rO7 (all_cons rO8 (by simp)))))))
 refine W_sr (s_box (wn rfl) rfl rfl H0 (fun b1 w1 e1 g1 H1 => ?_))
 refine s_box (wn rfl) rfl rfl H1 (fun b2 w2 e2 g2 H2 => ?_)
 refine s_var (wn rfl) rfl Tryz.zeroValue66 H2 (fun b3 w3 e3 g3 H3 => ?_)
 refine s_nil (W_sr (sV rfl (py_loadS tu38 rfl ts38 rfl rfl (At.whole (H3.box 0 rfl))) (s_call (wn rfl) rfl rfl (pc_call Tryz.func117 rfl Tryz_nm117 rfl) (Tryz_impl_upFault (by assumption) (H3.sees 0 rfl) (H3.sees 1 rfl) (H3.sees 2 rfl)) (fun v1 w4 r1 => ?_))))
 obtain ⟨e4, rfl⟩ := r1
 have H4 := H3.to e4
 refine sA rfl rfl (s_nil (W_seq (W_sr (sM rfl rfl (sV rfl (py_eql rfl rfl) (s_nil (W_ifd rfl (fun c1 => ?_) (fun c1 => ?_))))))))
 ·have hs := (worldF_ok (upF_ok (w := z) (by omega)).1).1
  refine W_reg (sM rfl rfl (s_call (wn rfl) rfl rfl (pc_call Tryz.func118 rfl Tryz_nm118 rfl) (Tryz_impl_World_groupFault (H4.box 0 rfl) (by assumption) (H4.sees 0 rfl) (H4.sees 1 rfl) (H4.sees 2 rfl) (by assumption)) (fun v2 w5 r2 => ?_)))
  obtain ⟨e5, rfl⟩ := r2
  have H5 := H4.to e5
  refine sA rfl rfl (s_nil (W_seq (W_block (W_sr (sM rfl rfl (sV rfl (py_neq rfl rfl) (sA rfl rfl (s_nil (W_ifd rfl (fun c2 => ?_) (fun c2 => ?_))))))))))
  ·refine W_sr (sM rfl rfl (sV rfl (py_buildS Tryz_pl66 rfl rfl) (s_stoS (wn rfl) ts66 rfl rfl rfl rfl H5 2 rfl rfl (fun w6 e6 H6 => ?_))))
   dsimp only [lNA, lCA, lSZ, lSS, layL] at H6
   refine s_nil (W_ret (hQ _ _ (finC Tryz.results45 rfl (run_loadVarS tu66 rfl ts66 rfl (At.whole (H6.box 2 rfl))) ?_)))
   rw [redoF_bad (by rw [redo_grp (by omega)]; omega), redo_grp (by omega)]
   exact ⟨H6.ext, none, 0, none, 0, none, 0, rfl, wld_nil (by unfold I64ok; have h9 := redo_grp (z := z) (g := g) (by omega); have := whereF_cd (z := z) (g := g) (row := 0); (try dsimp only); omega)⟩
  ·refine W_seq ?_
   have hwr : whereF z g 0 = 0 := by rw [redo_grp (by omega)]; omega
   obtain ⟨hs0, hG, hg, _, hon⟩ := whereF_ok hwr
   refine W_reg (sV rfl (py_field tu38 rfl ts34 rfl rfl) (sV rfl (py_loadS tu34 rfl ts34 rfl rfl (At.sub (H5.box 0 rfl) 9)) (sV rfl (py_loadS tu68 rfl ts68 rfl rfl (At.whole (H5.box 1 rfl))) (s_call (wn rfl) rfl rfl (pc_call Tryz.func119 rfl Tryz_nm119 rfl) (Tryz_impl_recFault (by assumption) (H5.sees 3 rfl) (H5.sees 4 rfl) (H5.sees 5 rfl) (by assumption)) (fun v3 w7 r3 => ?_)))))
   obtain ⟨e7, rfl⟩ := r3
   have H7 := H5.to e7
   refine sV rfl (py_neq rfl rfl) (sM rfl rfl (s_grp 3 (j := 5) (want := false) (t := 29) rfl rfl rfl rfl (fun hg1 kk1 => s_val (wgE rfl rfl rfl hg1) rfl rfl (py_field tu68 rfl ts2 rfl rfl) (s_val (wgE rfl rfl rfl hg1) rfl rfl (py_load tu2 rfl rfl (cell_atL (H7.box 1 rfl) rfl)) (s_val (wgE rfl rfl rfl hg1) rfl rfl (py_neq rfl rfl) (kk1 _ _ (kx rfl (kx rfl (kx rfl k0))) rfl Ext.refl)))) (fun w8 e8 => ?_)))
   have H8 := H7.to e8
   refine sV rfl (py_bor rfl rfl) (sM rfl rfl (s_grp 10 (j := 10) (want := false) (t := 41) rfl rfl rfl rfl (fun hg2 kk2 => s_val (wgE rfl rfl rfl hg2) rfl rfl (py_field tu38 rfl ts34 rfl rfl) (s_val (wgE rfl rfl rfl hg2) rfl rfl (py_loadS tu34 rfl ts34 rfl rfl (At.sub (H8.box 0 rfl) 9)) (s_val (wgE rfl rfl rfl hg2) rfl rfl (py_move rfl) (s_callv (wgE rfl rfl rfl hg2) rfl rfl (pc_call Tryz.func120 rfl Tryz_nm120 rfl) (Tryz_impl_Shape_isData (by assumption)) (fun w10 e10 => s_val (wgE rfl rfl rfl hg2) rfl rfl (py_move rfl) (s_grp 4 (j := 15) (want := true) (t := 40) rfl rfl rfl rfl (fun hg3 kk3 => s_val (wgE rfl rfl rfl hg3) rfl rfl (py_field tu68 rfl ts2 rfl rfl) (s_val (wgE rfl rfl rfl hg3) rfl rfl (py_load tu2 rfl rfl (cell_atL ((H8.to e10).box 1 rfl) rfl)) (s_val (wgE rfl rfl rfl hg3) rfl rfl (py_move rfl) (s_val (wgE rfl rfl rfl hg3) rfl rfl (py_neq rfl rfl) (kk3 _ _ (kx rfl (kx rfl (kx rfl (kx rfl k0)))) rfl Ext.refl))))) (fun w11 e11 => s_val (wgE rfl rfl rfl hg2) rfl rfl (py_band rfl rfl) (kk2 _ _ (kx rfl (kx rfl (kx rfl (kx rfl (kx rfl (kx rfl (kx rfl k0))))))) rfl ((Ext.refl.trans e10).trans e11))))))))) (fun w9 e9 => ?_)))
   have H10 := H8.to e9
   refine sV rfl (py_bor rfl rfl) (sA rfl rfl (s_nil (W_if rfl (fun c3 => ?_) (fun c3 => ?_))))
   ·refine W_sr (sV rfl (py_buildS Tryz_pl66 rfl rfl) (s_stoS (wn rfl) ts66 rfl rfl rfl rfl H10 2 rfl rfl (fun w12 e12 H11 => ?_)))
    dsimp only [lNA, lCA, lSZ, lSS, layL] at H11
    refine s_nil (W_ret (hQ _ _ (finC Tryz.results45 rfl (run_loadVarS tu66 rfl ts66 rfl (At.whole (H11.box 2 rfl))) ?_)))
    rw [redoF_no hwr (by unfold redoBad; simpa [Bool.or_assoc] using c3)]
    exact ⟨H11.ext, none, 0, none, 0, none, 0, rfl, wld_nil (by unfold I64ok; (try dsimp only); omega)⟩
   ·refine W_skip (W_seq ?_)
    have hbad : redoBad z g r = false := by unfold redoBad; simpa [Bool.or_assoc] using c3
    obtain ⟨hm, hk⟩ := redoBad_no hbad
    have hu := whereF_up hwr
    obtain ⟨hwf, hdn⟩ := upF_ok hu
    obtain ⟨hw0, hw1, _, _⟩ := worldF_rng hwf
    refine W_reg (sV rfl (py_loadS tu38 rfl ts38 rfl rfl (At.whole (H10.box 0 rfl))) (s_call (wn rfl) rfl rfl (pc_call Tryz.func121 rfl Tryz_nm121 rfl) (Tryz_impl_cloneWorld (by assumption) (H10.sees 0 rfl) (H10.sees 1 rfl) (H10.sees 2 rfl) (by first | assumption | omega)) (fun v4 w13 r4 => ?_)))
    obtain ⟨e13, sa1, sk1, sa2, sk2, sa3, sk3, rfl, r4⟩ := r4
    obtain ⟨fp1, H12⟩ := H10.res e13 r4
    obtain ⟨sf1, sf2, sf3, sq1, sok1, so1, so2, so3⟩ := own_WldC (H12.mine 3 rfl)
    have H13 := H12.part 3 rfl [mine [.slice _ z.Groups.length _] z.Groups sf1, mine [.slice _ z.On.length _] z.On sf2, mine [.slice _ z.Tapes.length _] z.Tapes sf3] (all_cons so1 (all_cons so2 (all_cons so3 (by simp)))) (by simp [blocks, mine, sq1])
    try dsimp only [lNA, lCA, lSZ, lSS] at H13
    refine s_var (wn rfl) rfl Tryz.zeroValue38 H13 (fun b4 w14 e14 g4 H14 => ?_)
    refine s_stoS (wn rfl) ts38 rfl rfl rfl rfl H14 7 rfl rfl (fun w15 e15 H15 => ?_)
    dsimp only [lNA, lCA, lSZ, lSS, layL] at H15
    refine s_nil (W_sr (sM rfl rfl (sV rfl (py_loadS tu68 rfl ts68 rfl rfl (At.whole (H15.box 1 rfl))) ?_)))
    obtain ⟨fp2, H16⟩ := H15.closeW 7 4 5 6 z rfl rfl rfl rfl rfl rfl rfl rfl rfl rfl zK
    try dsimp only [lNA, lCA, lSZ, lSS] at H16
    refine s_call (wn rfl) rfl rfl (pc_call Tryz.func122 rfl Tryz_nm122 rfl) (Tryz_impl_World_redoMove (H16.wldAt 7 rfl) (H16.nodup1 (i := 7) rfl) (by assumption) (own_weak (H16.seen 3 rfl)) (fun b hb => H16.off 3 rfl 7 rfl hb) (own_weak (H16.seen 4 rfl)) (fun b hb => H16.off 4 rfl 7 rfl hb) (own_weak (H16.seen 5 rfl)) (fun b hb => H16.off 5 rfl 7 rfl hb) (by first | assumption | omega) (by first | assumption | omega) (by first | assumption | omega) (by first | assumption | omega) (by first | assumption | omega) (by first | assumption | omega)) (fun v5 w16 r5 => ?_)
    obtain ⟨rfl, mm1⟩ := r5
    obtain ⟨fp3, H17⟩ := H16.mutW 7 rfl mm1
    try dsimp only [lNA, lCA, lSZ, lSS] at H17
    refine sA rfl rfl (s_nil (W_seq ?_))
    obtain ⟨wA1, wC1, wA2, wC2, wA3, wC3, wf1, wf2, wf3, wok1, H18⟩ := H17.openW 7 rfl
    try dsimp only [lNA, lCA, lSZ, lSS] at H18
    have wok1U := wok1
    unfold Wld.Ok Shape.Ok I64ok at wok1U
    have wL1 := oL (H18.mine 9 rfl)
    have wL2 := oL (H18.mine 10 rfl)
    have wL3 := oL (H18.mine 11 rfl)
    refine W_reg (sV rfl (py_loadS tu38 rfl ts38 rfl rfl (At.whole (H18.box 7 rfl))) (sM rfl rfl (s_call (wn rfl) rfl rfl (pc_call Tryz.func123 rfl Tryz_nm123 rfl) (Tryz_impl_changed_yes (by assumption) (H18.msees 9 rfl) (H18.msees 10 rfl) (H18.msees 11 rfl) (by first | assumption | (split <;> simp))) (fun v6 w17 r6 => ?_))))
    obtain ⟨e17, rfl⟩ := r6
    have H19 := H18.to e17
    refine s_stoS (wn rfl) ts66 rfl rfl rfl rfl H19 2 rfl rfl (fun w18 e18 H20 => ?_)
    dsimp only [lNA, lCA, lSZ, lSS, layL] at H20
    refine s_nil (W_ret (hQ _ _ (finC Tryz.results45 rfl (run_loadVarS tu66 rfl ts66 rfl (At.whole (H20.box 2 rfl))) ?_)))
    rw [redoF_ok hwr hbad]
    exact ⟨H20.ext, _, _, _, _, _, _, rfl, WldResult.out (x := ⟨if (redoP z g r).1 = true then 0 else 9, (redoP z g r).2⟩) (H20.sub (.cons _ (.cons _ (.cons _ (.cons _ (.cons _ (.cons _ (.cons _ (.cons _ (.cons _ (.cons_cons _ (.cons_cons _ (.cons_cons _ List.Sublist.slnil))))))))))))) ⟨(by show I64ok (if (redoP z g r).1 = true then 0 else 9); unfold I64ok; split <;> omega), (by assumption)⟩⟩
 ·refine W_skip (W_seq (W_block (W_sr (sM rfl rfl (sV rfl (py_neq rfl rfl) (sA rfl rfl (s_nil (W_ifd rfl (fun c4 => ?_) (fun c4 => ?_)))))))))
  ·refine W_sr (sM rfl rfl (sV rfl (py_buildS Tryz_pl66 rfl rfl) (s_stoS (wn rfl) ts66 rfl rfl rfl rfl H4 2 rfl rfl (fun w19 e19 H21 => ?_))))
   dsimp only [lNA, lCA, lSZ, lSS, layL] at H21
   refine s_nil (W_ret (hQ _ _ (finC Tryz.results45 rfl (run_loadVarS tu66 rfl ts66 rfl (At.whole (H21.box 2 rfl))) ?_)))
   rw [redoF_bad (by rw [redo_up (by omega)]; omega), redo_up (by omega)]
   exact ⟨H21.ext, none, 0, none, 0, none, 0, rfl, wld_nil (by unfold I64ok; have := upF_cd (z := z); (try dsimp only); omega)⟩
  ·refine W_seq ?_
   have hwr : whereF z g 0 = 0 := by rw [redo_grp (by omega)]; omega
   obtain ⟨hs0, hG, hg, _, hon⟩ := whereF_ok hwr
   refine W_reg (sV rfl (py_field tu38 rfl ts34 rfl rfl) (sV rfl (py_loadS tu34 rfl ts34 rfl rfl (At.sub (H4.box 0 rfl) 9)) (sV rfl (py_loadS tu68 rfl ts68 rfl rfl (At.whole (H4.box 1 rfl))) (s_call (wn rfl) rfl rfl (pc_call Tryz.func119 rfl Tryz_nm119 rfl) (Tryz_impl_recFault (by assumption) (H4.sees 3 rfl) (H4.sees 4 rfl) (H4.sees 5 rfl) (by assumption)) (fun v7 w20 r7 => ?_)))))
   obtain ⟨e20, rfl⟩ := r7
   have H22 := H4.to e20
   refine sV rfl (py_neq rfl rfl) (sM rfl rfl (s_grp 3 (j := 5) (want := false) (t := 29) rfl rfl rfl rfl (fun hg4 kk4 => s_val (wgE rfl rfl rfl hg4) rfl rfl (py_field tu68 rfl ts2 rfl rfl) (s_val (wgE rfl rfl rfl hg4) rfl rfl (py_load tu2 rfl rfl (cell_atL (H22.box 1 rfl) rfl)) (s_val (wgE rfl rfl rfl hg4) rfl rfl (py_neq rfl rfl) (kk4 _ _ (kx rfl (kx rfl (kx rfl k0))) rfl Ext.refl)))) (fun w21 e21 => ?_)))
   have H23 := H22.to e21
   refine sV rfl (py_bor rfl rfl) (sM rfl rfl (s_grp 10 (j := 10) (want := false) (t := 41) rfl rfl rfl rfl (fun hg5 kk5 => s_val (wgE rfl rfl rfl hg5) rfl rfl (py_field tu38 rfl ts34 rfl rfl) (s_val (wgE rfl rfl rfl hg5) rfl rfl (py_loadS tu34 rfl ts34 rfl rfl (At.sub (H23.box 0 rfl) 9)) (s_val (wgE rfl rfl rfl hg5) rfl rfl (py_move rfl) (s_callv (wgE rfl rfl rfl hg5) rfl rfl (pc_call Tryz.func120 rfl Tryz_nm120 rfl) (Tryz_impl_Shape_isData (by assumption)) (fun w23 e23 => s_val (wgE rfl rfl rfl hg5) rfl rfl (py_move rfl) (s_grp 4 (j := 15) (want := true) (t := 40) rfl rfl rfl rfl (fun hg6 kk6 => s_val (wgE rfl rfl rfl hg6) rfl rfl (py_field tu68 rfl ts2 rfl rfl) (s_val (wgE rfl rfl rfl hg6) rfl rfl (py_load tu2 rfl rfl (cell_atL ((H23.to e23).box 1 rfl) rfl)) (s_val (wgE rfl rfl rfl hg6) rfl rfl (py_move rfl) (s_val (wgE rfl rfl rfl hg6) rfl rfl (py_neq rfl rfl) (kk6 _ _ (kx rfl (kx rfl (kx rfl (kx rfl k0)))) rfl Ext.refl))))) (fun w24 e24 => s_val (wgE rfl rfl rfl hg5) rfl rfl (py_band rfl rfl) (kk5 _ _ (kx rfl (kx rfl (kx rfl (kx rfl (kx rfl (kx rfl (kx rfl k0))))))) rfl ((Ext.refl.trans e23).trans e24))))))))) (fun w22 e22 => ?_)))
   have H25 := H23.to e22
   refine sV rfl (py_bor rfl rfl) (sA rfl rfl (s_nil (W_if rfl (fun c5 => ?_) (fun c5 => ?_))))
   ·refine W_sr (sV rfl (py_buildS Tryz_pl66 rfl rfl) (s_stoS (wn rfl) ts66 rfl rfl rfl rfl H25 2 rfl rfl (fun w25 e25 H26 => ?_)))
    dsimp only [lNA, lCA, lSZ, lSS, layL] at H26
    refine s_nil (W_ret (hQ _ _ (finC Tryz.results45 rfl (run_loadVarS tu66 rfl ts66 rfl (At.whole (H26.box 2 rfl))) ?_)))
    rw [redoF_no hwr (by unfold redoBad; simpa [Bool.or_assoc] using c5)]
    exact ⟨H26.ext, none, 0, none, 0, none, 0, rfl, wld_nil (by unfold I64ok; (try dsimp only); omega)⟩
   ·refine W_skip (W_seq ?_)
    have hbad : redoBad z g r = false := by unfold redoBad; simpa [Bool.or_assoc] using c5
    obtain ⟨hm, hk⟩ := redoBad_no hbad
    have hu := whereF_up hwr
    obtain ⟨hwf, hdn⟩ := upF_ok hu
    obtain ⟨hw0, hw1, _, _⟩ := worldF_rng hwf
    refine W_reg (sV rfl (py_loadS tu38 rfl ts38 rfl rfl (At.whole (H25.box 0 rfl))) (s_call (wn rfl) rfl rfl (pc_call Tryz.func121 rfl Tryz_nm121 rfl) (Tryz_impl_cloneWorld (by assumption) (H25.sees 0 rfl) (H25.sees 1 rfl) (H25.sees 2 rfl) (by first | assumption | omega)) (fun v8 w26 r8 => ?_)))
    obtain ⟨e26, sa4, sk4, sa5, sk5, sa6, sk6, rfl, r8⟩ := r8
    obtain ⟨fp4, H27⟩ := H25.res e26 r8
    obtain ⟨sf4, sf5, sf6, sq2, sok2, so4, so5, so6⟩ := own_WldC (H27.mine 3 rfl)
    have H28 := H27.part 3 rfl [mine [.slice _ z.Groups.length _] z.Groups sf4, mine [.slice _ z.On.length _] z.On sf5, mine [.slice _ z.Tapes.length _] z.Tapes sf6] (all_cons so4 (all_cons so5 (all_cons so6 (by simp)))) (by simp [blocks, mine, sq2])
    try dsimp only [lNA, lCA, lSZ, lSS] at H28
    refine s_var (wn rfl) rfl Tryz.zeroValue38 H28 (fun b5 w27 e27 g5 H29 => ?_)
    refine s_stoS (wn rfl) ts38 rfl rfl rfl rfl H29 7 rfl rfl (fun w28 e28 H30 => ?_)
    dsimp only [lNA, lCA, lSZ, lSS, layL] at H30
    refine s_nil (W_sr (sM rfl rfl (sV rfl (py_loadS tu68 rfl ts68 rfl rfl (At.whole (H30.box 1 rfl))) ?_)))
    obtain ⟨fp5, H31⟩ := H30.closeW 7 4 5 6 z rfl rfl rfl rfl rfl rfl rfl rfl rfl rfl zK
    try dsimp only [lNA, lCA, lSZ, lSS] at H31
    refine s_call (wn rfl) rfl rfl (pc_call Tryz.func122 rfl Tryz_nm122 rfl) (Tryz_impl_World_redoMove (H31.wldAt 7 rfl) (H31.nodup1 (i := 7) rfl) (by assumption) (own_weak (H31.seen 3 rfl)) (fun b hb => H31.off 3 rfl 7 rfl hb) (own_weak (H31.seen 4 rfl)) (fun b hb => H31.off 4 rfl 7 rfl hb) (own_weak (H31.seen 5 rfl)) (fun b hb => H31.off 5 rfl 7 rfl hb) (by first | assumption | omega) (by first | assumption | omega) (by first | assumption | omega) (by first | assumption | omega) (by first | assumption | omega) (by first | assumption | omega)) (fun v9 w29 r9 => ?_)
    obtain ⟨rfl, mm2⟩ := r9
    obtain ⟨fp6, H32⟩ := H31.mutW 7 rfl mm2
    try dsimp only [lNA, lCA, lSZ, lSS] at H32
    refine sA rfl rfl (s_nil (W_seq ?_))
    obtain ⟨wA4, wC4, wA5, wC5, wA6, wC6, wf4, wf5, wf6, wok2, H33⟩ := H32.openW 7 rfl
    try dsimp only [lNA, lCA, lSZ, lSS] at H33
    have wok2U := wok2
    unfold Wld.Ok Shape.Ok I64ok at wok2U
    have wL4 := oL (H33.mine 9 rfl)
    have wL5 := oL (H33.mine 10 rfl)
    have wL6 := oL (H33.mine 11 rfl)
    refine W_reg (sV rfl (py_loadS tu38 rfl ts38 rfl rfl (At.whole (H33.box 7 rfl))) (sM rfl rfl (s_call (wn rfl) rfl rfl (pc_call Tryz.func123 rfl Tryz_nm123 rfl) (Tryz_impl_changed_yes (by assumption) (H33.msees 9 rfl) (H33.msees 10 rfl) (H33.msees 11 rfl) (by first | assumption | (split <;> simp))) (fun v10 w30 r10 => ?_))))
    obtain ⟨e30, rfl⟩ := r10
    have H34 := H33.to e30
    refine s_stoS (wn rfl) ts66 rfl rfl rfl rfl H34 2 rfl rfl (fun w31 e31 H35 => ?_)
    dsimp only [lNA, lCA, lSZ, lSS, layL] at H35
    refine s_nil (W_ret (hQ _ _ (finC Tryz.results45 rfl (run_loadVarS tu66 rfl ts66 rfl (At.whole (H35.box 2 rfl))) ?_)))
    rw [redoF_ok hwr hbad]
    exact ⟨H35.ext, _, _, _, _, _, _, rfl, WldResult.out (x := ⟨if (redoP z g r).1 = true then 0 else 9, (redoP z g r).2⟩) (H35.sub (.cons _ (.cons _ (.cons _ (.cons _ (.cons _ (.cons _ (.cons _ (.cons _ (.cons _ (.cons_cons _ (.cons_cons _ (.cons_cons _ List.Sublist.slnil))))))))))))) ⟨(by show I64ok (if (redoP z g r).1 = true then 0 else 9); unfold I64ok; split <;> omega), (by assumption)⟩⟩
end Go.Wk
namespace Go.Wk
open Rp (sz own)
section
variable {β : Type} [Rp β] {w : World}
def rowsT (vs : List View) (xss : List (List β)) (g : List Nat) : Rsc := ⟨g, fun w => ownL true w (vs.map View.val) xss g, fun h k => h.st k, fun h => h.lt⟩
theorem ownL_toR : ∀ {xss : List (List β)} {cs fp}, ownL true w cs xss fp → ∃ vs : List View, vs.length = xss.length ∧ ownL true w cs vs [] ∧ ownL true w (vs.map View.val) xss fp
  | [], _, _, h => ⟨[], rfl, rfl, h⟩
  | x :: xss, cs, fp, ⟨f1, f2, e, h1, h2⟩ => by
    obtain ⟨ad, cap, h3⟩ := own_slice h1
    obtain ⟨vs, e2, h4, h5⟩ := ownL_toR h2
    rw [h3] at h1
    exact ⟨⟨ad, x.length, cap⟩ :: vs, by simp [e2], ⟨[], [], rfl, ⟨h3, rfl⟩, h4⟩, ⟨f1, f2, e, h1, h5⟩⟩
theorem ownL_ofR : ∀ {vs : List View} {xss : List (List β)} {cs f0 fp}, ownL true w cs vs f0 → ownL true w (vs.map View.val) xss fp → vs.length = xss.length → f0 = [] ∧ ownL true w cs xss fp
  | [], [], _, _, _, h, hp, _ => ⟨h, hp⟩
  | [], x :: xss, _, _, _, _, _, hl => by simp at hl
  | v :: vs, [], _, _, _, _, _, hl => by simp at hl
  | v :: vs, x :: xss, cs, f0, fp, ⟨g1, g2, e0, ⟨e1, eg⟩, h2⟩, ⟨f1, f2, e, h1, h3⟩, hl => by
    obtain ⟨r1, r2⟩ := ownL_ofR h2 h3 (by simpa using hl)
    refine ⟨by rw [e0, eg, r1]; rfl, ⟨f1, f2, e, ?_, r2⟩⟩
    rw [show cs.take (sz (List β)) = [v.val] from e1]; exact h1
theorem own_toR {ad n cap} {xss : List (List β)} {fp} (h : own true w [.slice ad n cap] xss fp) : ∃ (vs : List View) (f0 f1 : List Nat), vs.length = xss.length ∧ fp = f0 ++ f1 ∧ own true w [.slice ad n cap] vs f0 ∧ ownL true w (vs.map View.val) xss f1 := by
  rcases h with ⟨hf, _⟩ | ⟨e, rfl, rfl⟩ | ⟨b, o, cap', cur, T, fr, fs, h1, h2, h3, h4, h5, h6, h7, h8⟩
  · cases hf
  · exact ⟨[], [], [], rfl, rfl, .inr (.inl ⟨e, rfl, rfl⟩), rfl⟩
  · obtain ⟨vs, el, h9, h10⟩ := ownL_toR h8
    exact ⟨vs, [b], fs, el, by rw [h2]; rfl, .inr (.inr ⟨b, o, cap', cur, T, fr, [], by rw [el]; exact h1, rfl, h3, h4, by rw [el]; exact h5, h6, h7, h9⟩), h10⟩
theorem own_ofR {ad n cap} {vs : List View} {xss : List (List β)} {f0 f1} (h : own true w [.slice ad n cap] vs f0) (hp : ownL true w (vs.map View.val) xss f1) (el : vs.length = xss.length) : own true w [.slice ad n cap] xss (f0 ++ f1) := by
  rcases h with ⟨hf, _⟩ | ⟨e, rfl, rfl⟩ | ⟨b, o, cap', cur, T, fr, fs, h1, h2, h3, h4, h5, h6, h7, h8⟩
  · cases hf
  · obtain rfl : xss = [] := List.eq_nil_of_length_eq_zero (by simpa using el.symm)
    rw [show f1 = [] from hp]; exact .inr (.inl ⟨e, rfl, rfl⟩)
  · obtain ⟨e, h9⟩ := ownL_ofR h8 hp el
    exact .inr (.inr ⟨b, o, cap', cur, T, fr, f1, by rw [← el]; exact h1, by rw [h2, e]; rfl, h3, h4, by rw [← el]; exact h5, h6, h7, h9⟩)
theorem ownL_snocR : ∀ {vs : List View} {xss : List (List β)} {f fx} {u : View} {x : List β}, ownL true w (vs.map View.val) xss f → own true w [u.val] x fx → vs.length = xss.length → ownL true w ((vs ++ [u]).map View.val) (xss ++ [x]) (f ++ fx)
  | [], [], f, fx, u, x, h, hx, _ => by
    rw [show f = [] from h]
    exact ⟨fx, [], by simp, hx, rfl⟩
  | [], y :: xss, _, _, _, _, _, _, hl => by simp at hl
  | v :: vs, [], _, _, _, _, _, _, hl => by simp at hl
  | v :: vs, y :: xss, f, fx, u, x, ⟨f1, f2, e, h1, h2⟩, hx, hl => by
    refine ⟨f1, f2 ++ fx, by rw [e, List.append_assoc], h1, ?_⟩
    exact ownL_snocR (vs := vs) h2 hx (by simpa using hl)
theorem ownL_leftR : ∀ {vs es : List View} {xss yss : List (List β)} {f}, ownL true w ((vs ++ es).map View.val) (xss ++ yss) f → vs.length = xss.length → ∃ f0, ownL false w (vs.map View.val) xss f0 ∧ ∀ b ∈ f0, b ∈ f
  | [], es, [], yss, f, _, _ => ⟨[], rfl, by simp⟩
  | [], _, y :: xss, _, _, _, hl => by simp at hl
  | v :: vs, _, [], _, _, _, hl => by simp at hl
  | v :: vs, es, y :: xss, yss, f, ⟨f1, f2, e, h1, h2⟩, hl => by
    obtain ⟨f0, h3, h4⟩ := ownL_leftR (vs := vs) h2 (by simpa using hl)
    refine ⟨f1 ++ f0, ⟨f1, f0, rfl, Rp.weak h1, h3⟩, fun b hb => ?_⟩
    rw [e]
    rcases List.mem_append.1 hb with hb | hb
    · exact List.mem_append.2 (.inl hb)
    · exact List.mem_append.2 (.inr (h4 b hb))
end
section
variable {β : Type} [Rp β] {M : Nat → Prop} {w0 w : World} {Δ F : List Rsc}
theorem Sep.toRows (h : Sep M w0 Δ F w) (i : Nat) {ad n cap} {xss : List (List β)} {fp} (hi : Δ[i]? = some (Wk.mine [.slice ad n cap] xss fp)) :
    ∃ (vs : List View) (f0 f1 : List Nat), vs.length = xss.length ∧ Sep M w0 (Δ.set i (Wk.mine [.slice ad n cap] vs f0) ++ [gone, rowsT vs xss f1]) F w := by
  obtain ⟨vs, f0, f1, e1, ef, h1, h2⟩ := own_toR (h.mine i hi)
  have hil : i < Δ.length := (List.getElem?_eq_some_iff.1 hi).1
  have p2 : (rowsT vs xss f1).φ w := h2
  have H2 := h.part i hi [Wk.mine [.slice ad n cap] vs f0, rowsT vs xss f1] (all_cons h1 (all_cons p2 (by simp))) (by simp [blocks, Wk.mine, rowsT, ef])
  exact ⟨vs, f0, f1, e1, H2.perm (set_swap hil)⟩
theorem Sep.ofRows (h : Sep M w0 Δ F w) (i j : Nat) {ad n cap} {vs : List View} {xss : List (List β)} {f0 f1} (hi : Δ[i]? = some (Wk.mine [.slice ad n cap] vs f0)) (hj : Δ[j]? = some (rowsT vs xss f1)) (hij : Nat.beq j i = false) (el : vs.length = xss.length) :
    ∃ fp, Sep M w0 ((Δ.set j gone).set i (Wk.mine [.slice ad n cap] xss fp)) F w := by
  have H1 := h.join2 i j hi hj hij
  have g : ((Δ.set j gone).set i (cat (Wk.mine [.slice ad n cap] vs f0) (rowsT vs xss f1)))[i]? = some (cat (Wk.mine [.slice ad n cap] vs f0) (rowsT vs xss f1)) :=
    List.getElem?_set_self (by have := (List.getElem?_eq_some_iff.1 hi).1; simpa using this)
  have hφ : (cat (Wk.mine [.slice ad n cap] vs f0) (rowsT vs xss f1)).φ w := H1.r i g
  have hn := H1.nodup1 g
  have H2 := H1.conv i (Wk.mine [.slice ad n cap] xss (f0 ++ f1)) g (own_ofR hφ.1 hφ.2 el) (fun b hb => hb) hn
  rw [List.set_set] at H2
  exact ⟨_, H2⟩
theorem Sep.rowsSnoc (h : Sep M w0 Δ F w) (j i : Nat) {a n c} {vs : List View} {xss : List (List β)} {x : List β} {g fx} (hj : Δ[j]? = some (rowsT vs xss g)) (hi : Δ[i]? = some (Wk.mine [.slice a n c] x fx)) (hij : Nat.beq i j = false) (el : vs.length = xss.length) :
    ∃ g', Sep M w0 ((Δ.set i gone).set j (rowsT (vs ++ [⟨a, n, c⟩]) (xss ++ [x]) g')) F w := by
  have H1 := h.join2 j i hj hi hij
  have k : ((Δ.set i gone).set j (cat (rowsT vs xss g) (Wk.mine [.slice a n c] x fx)))[j]? = some (cat (rowsT vs xss g) (Wk.mine [.slice a n c] x fx)) :=
    List.getElem?_set_self (by have := (List.getElem?_eq_some_iff.1 hj).1; simpa using this)
  have hφ : (cat (rowsT vs xss g) (Wk.mine [.slice a n c] x fx)).φ w := H1.r j k
  have hn := H1.nodup1 k
  have ho : ownL true w ((vs ++ [(⟨a, n, c⟩ : View)]).map View.val) (xss ++ [x]) (g ++ fx) := ownL_snocR hφ.1 hφ.2 el
  have H2 := H1.conv j (rowsT (vs ++ [(⟨a, n, c⟩ : View)]) (xss ++ [x]) (g ++ fx)) k ho (fun b hb => hb) hn
  rw [List.set_set] at H2
  exact ⟨_, H2⟩
theorem Sep.rowsHead (h : Sep M w0 Δ F w) (j : Nat) {u : View} {vs : List View} {x : List β} {xss : List (List β)} {g} (hj : Δ[j]? = some (rowsT (u :: vs) (x :: xss) g)) :
    ∃ a c fx g', u = ⟨a, x.length, c⟩ ∧ Sep M w0 (Δ.set j gone ++ [Wk.mine [.slice a x.length c] x fx, rowsT vs xss g']) F w := by
  obtain ⟨f1, f2, e, h1, h2⟩ : ownL true w ((u :: vs).map View.val) (x :: xss) g := h.r j hj
  have h3 : own true w [u.val] x f1 := h1
  obtain ⟨a, c, e2⟩ := own_slice h3
  have e3 : u = ⟨a, x.length, c⟩ := by
    cases u
    simp only [View.val, List.cons.injEq, Value.slice.injEq, and_true] at e2
    obtain ⟨rfl, rfl, rfl⟩ := e2; rfl
  subst e3
  have p2 : (rowsT vs xss f2).φ w := h2
  exact ⟨a, c, f1, f2, rfl, h.part j hj [Wk.mine [.slice a x.length c] x f1, rowsT vs xss f2] (all_cons h3 (all_cons p2 (by simp))) (by simp [blocks, Wk.mine, rowsT, e])⟩
theorem Sep.rowsSees (h : Sep M w0 Δ F w) (i j : Nat) {ad n cap} {vs es : List View} {xss yss : List (List β)} {f g} (hi : Δ[i]? = some (Wk.mine [.slice ad n cap] vs f)) (hj : Δ[j]? = some (rowsT (vs ++ es) (xss ++ yss) g)) (el : vs.length = xss.length) :
    Sees w [.slice ad n cap] xss := by
  obtain ⟨f0, h1, _⟩ := ownL_leftR (h.r j hj) el
  obtain ⟨fp, h2, _⟩ := own_views (h.mine i hi) h1 el
  exact ⟨fp, h2⟩
theorem Sep.rowsSees2 (h : Sep M w0 Δ F w) (i j : Nat) {ad n cap} {us vs es : List View} {rws xss yss : List (List β)} {f g} (hi : Δ[i]? = some (Wk.mine [.slice ad n cap] vs f)) (hj : Δ[j]? = some (rowsT us rws g)) (el : vs.length = xss.length) (h1 : us = vs ++ es) (h2 : rws = xss ++ yss) :
    Sees w [.slice ad n cap] xss := by
  subst h1 h2; exact h.rowsSees i j hi hj el
instance : Inhabited View := ⟨⟨none, 0, 0⟩⟩
theorem view_cell {s : Bool} {ad n cap} {us : List View} {f} (h : own s w [.slice ad n cap] us f) (k : Nat) (hk : k < us.length) :
    ∃ b o, ad = some ⟨b, o, none⟩ ∧ w.cell? ⟨b, o + k * 1, none⟩ = some (us.getD k default).val := by
  obtain ⟨b, o, cs, f, h1, h2, h3, _⟩ := own_elem h k hk
  rw [getD_el hk]
  exact ⟨b, o, h1, h2 0 us[k].val (by rw [h3.1]; rfl)⟩
theorem drop_el {α : Type} {xs : List α} {k : Nat} {d : α} (h : k < xs.length) : xs.drop k = xs.getD k d :: xs.drop (k + 1) := by
  rw [getD_el h]; exact List.drop_eq_getElem_cons h
theorem Sep.rowsAtK (h : Sep M w0 Δ F w) (j : Nat) {us : List View} {xss : List (List β)} {g} (k : Nat) (hj : Δ[j]? = some (rowsT (us.drop k) (xss.drop k) g)) (hk : k < xss.length) (el : us.length = xss.length) :
    ∃ a c fx g', (us.getD k default).val = .slice a (xss.getD k []).length c ∧ Sep M w0 (Δ.set j gone ++ [Wk.mine [.slice a (xss.getD k []).length c] (xss.getD k []) fx, rowsT (us.drop (k + 1)) (xss.drop (k + 1)) g']) F w := by
  rw [drop_el (d := default) (show k < us.length by omega), drop_el (d := []) hk] at hj
  obtain ⟨a, c, fx, g', e, H⟩ := h.rowsHead j hj
  exact ⟨a, c, fx, g', by rw [e]; rfl, H⟩
end
theorem blkT_tick {z : Wld} {g i row : Nat} {b : Block} : blkT g i row b (tickW z) = tickW (blkT g i row b z) := rfl
end Go.Wk
namespace Go.Wk
open Go.Proofs Rp
set_option maxRecDepth 10000
theorem Tryz_l2Encode_own {w : World} {x y : Int} {n s xsC : Nat} {xs : List UInt8} {xsA : Option Addr} (hx : x = n) (hy : y = s) (hn : 1 ≤ n ∧ n ≤ 3 ∧ s ≤ 2) (hl : xs.length = n * 4) (xsS : Sees w [.slice xsA xs.length xsC] xs) : Ret Tryz.prog 194 #[.int .i64 x, .int .i64 y, .slice xsA xs.length xsC] w fun v w' => Ext No w w' ∧ (Res w w' [v] (encG n (n + s) xs)) := by
 subst hx; subst hy
 have xsL := sL xsS
 obtain ⟨xsF, xsO⟩ := xsS
 refine ret_Q (vs := [.int .i64 n, .int .i64 s, .slice xsA xs.length xsC]) Tryz.func194 rfl Tryz.ntmps194 rfl (fun Q hQ hN => ?_)
 have H0 := Sep.start (w := w) (F := [seen false [.slice xsA xs.length xsC] xs xsF]) (all_cons xsO (by simp))
 refine W_sr (sA rfl rfl (s_nil (W_sr (s_lit0 (α := (List UInt8)) (wn rfl) rfl tu112 Tryz_ty45 H0 (fun b1 w1 e1 g1 H1 => ?_)))))
 refine sA rfl rfl (s_nil (W_seq (W_sr (sA rfl rfl (s_nil (W_block (W_loop (γ := Nat × Value × List Nat) (fun (k, vo, f) => [(0, .int .i64 n), (1, .int .i64 s), (2, .slice xsA xs.length xsC), (7, vo), (8, .int .i64 k)]) (fun (k, vo, f) w' => Sep No w [mine [vo] (chunks xs 4 k) f] [seen false [.slice xsA xs.length xsC] xs xsF] w' ∧ k ≤ n) (fun (k, vo, f) => n - k) (0, _, _) ⟨rfl, rfl, rfl, rfl, rfl, trivial⟩ ⟨H1, by omega⟩ (fun (k, vo, f) w2 H2 => ?_))))))))
 obtain ⟨H2, hk⟩ := H2
 refine W_seq (W_sr (sM rfl rfl (sM rfl rfl (sV rfl (py_lss rfl rfl) (s_nil (W_ifd rfl (fun c1 => ?_) (fun c1 => ?_)))))))
 ·refine W_skip (W_seq (W_block ?_))
  have kl := chunks_len (xs := xs) (m := 4) (q := k)
  refine W_reg (sM rfl rfl (s_lit0 (α := UInt8) (wn rfl) rfl tu45 Tryz_ty5 H2 (fun b2 w3 e2 g2 H3 => ?_)))
  refine sM rfl rfl (sM rfl rfl (sV rfl (py_mul rfl rfl (in64 ⟨by omega, by omega⟩)) (sM rfl rfl (sV rfl (py_add rfl rfl (in64 ⟨by omega, by omega⟩)) (sV rfl (py_mul rfl rfl (in64 ⟨by omega, by omega⟩)) ?_)))))
  have sc1 := own_le_cap (H3.seen 0 rfl)
  obtain ⟨sf1, so1, ss1⟩ := own_cutL (H3.seen 0 rfl) (k * 4) (k * 4 + 4) _ (by omega) (by omega) (by omega) (Nat.le_refl _)
  have H4 := H3.look1 0 rfl so1 ss1
  have sl1 := cut_len (xs := xs) (l := k * 4) (h := k * 4 + 4) (by omega)
  refine sV rfl (py_slcN tu45 ts5 rfl rfl rfl (k * 4) (k * 4 + 4) (by omega) (by omega) (by omega) (by omega) sl1) ((s_appF (wn rfl) rfl tu45 Tryz_ty5 rfl rfl rfl H4 1 rfl (H4.seen 1 rfl) (by (try simp only [List.length_nil]); unfold maxLen; omega) (by (try simp only [List.length_nil]); omega) (fun v1 w4 fp1 H5 => ?_)))
  obtain ⟨a1, k1, q1⟩ := own_slice (H5.mine 1 rfl)
  cases q1
  refine s_lit1 (wn rfl) rfl tu112 Tryz_ty45 rfl rfl rfl rfl H5 (fun b3 w5 e3 g3 H6 => ?_)
  refine s_app2 (wn rfl) rfl tu112 Tryz_ty45 rfl rfl rfl H6 0 2 1 rfl rfl rfl rfl (by unfold maxLen; omega) (by omega) (fun v2 w6 fp2 H7 => ?_)
  refine sA rfl rfl (s_nil (W_reg (sM rfl rfl (sV rfl (py_add rfl rfl (in64 ⟨by omega, by omega⟩)) (sA rfl rfl (s_nil ?_))))))
  have hz := H7.ftake 1 |>.sub (.cons_cons _ (.cons _ (.cons _ List.Sublist.slnil)))
  rw [List.nil_append, chunks_step] at hz
  refine ⟨(k + 1, _, _), ⟨rfl, rfl, rfl, rfl, rfl, trivial⟩, ⟨hz, by omega⟩, by dsimp only; omega⟩
 ·refine W_exit (W_seq ?_)
  obtain rfl : n = k := by omega
  obtain ⟨pA, pC, pq⟩ := own_slice (H2.mine 0 rfl)
  cases pq
  obtain ⟨us0, f0, f1, hul, HT⟩ := H2.toRows 0 rfl
  try dsimp only [lNA, lCA, lSZ, lSS] at HT
  have cl : (chunks xs 4 n).length = n := chunks_len
  refine W_reg (s_lit0 (α := View) (wn rfl) rfl tu112 Tryz_ty45 HT (fun b4 w7 e4 g4 H8 => ?_))
  refine sM rfl rfl (s_appF (wn rfl) rfl tu112 Tryz_ty45 rfl rfl rfl H8 3 rfl (H8.mine 0 rfl) (by (try simp only [List.length_nil]); unfold maxLen; omega) (by (try simp only [List.length_nil]); omega) (fun v3 w8 fp3 H9 => ?_))
  refine sA rfl rfl (s_nil (W_seq (W_sr (sA rfl rfl (s_nil (W_block (W_loop (γ := Nat × Value × List Nat × List View × List Nat) (fun (j, vo, f2, us, ug) => [(0, .int .i64 n), (1, .int .i64 s), (7, .slice pA (chunks xs 4 n).length pC), (9, vo), (10, .int .i64 j)]) (fun (j, vo, f2, us, ug) w' => Sep No w [mine [.slice pA (chunks xs 4 n).length pC] us0 f0, gone, rowsT us (encS n j xs) ug, mine [vo] us f2] [seen false [.slice xsA xs.length xsC] xs xsF] w' ∧ j ≤ s ∧ us.length = (encS n j xs).length ∧ ∃ es, us = us0 ++ es) (fun (j, vo, f2, us, ug) => s - j) (0, _, _, _, _) ⟨rfl, rfl, rfl, rfl, rfl, trivial⟩ ⟨by rw [encS_zero]; exact H9, by omega, by rw [encS_zero]; exact hul, ⟨[], by simp⟩⟩ (fun (j, vo, f2, us, ug) w9 H10 => ?_))))))))
  obtain ⟨H10, hj, hul2, es, hus⟩ := H10
  refine W_seq (W_sr (sM rfl rfl (sM rfl rfl (sV rfl (py_lss rfl rfl) (s_nil (W_ifd rfl (fun c2 => ?_) (fun c2 => ?_)))))))
  ·refine W_skip (W_seq (W_block ?_))
   have gl : (genG n ((n : Int) + j) 0).length = n := genG_len
   have ca := chunks_all hl
   have encE : mixTo (chunks xs 4 n) (genG n ((n : Int) + j) 0) 4 (chunks xs 4 n).length = encK xs n ((n : Int) + j) := rfl
   have el := encS_len (n := n) (m := j) (xs := xs)
   refine W_reg (sM rfl rfl (sM rfl rfl (sM rfl rfl (sM rfl rfl (sM rfl rfl (sV rfl (py_add rfl rfl (in64 ⟨by omega, by omega⟩)) (s_call (wn rfl) rfl rfl (pc_call Tryz.func274 rfl Tryz_nm274 rfl) (Tryz_spec_l2Gen (by omega)) (fun v4 w10 r1 => ?_))))))))
   obtain ⟨e5, r1⟩ := r1
   obtain ⟨fp4, H11⟩ := H10.res e5 r1
   obtain ⟨a2, k2, q2⟩ := own_slice (H11.mine 4 rfl)
   cases q2
   refine s_call (wn rfl) rfl rfl (pc_call Tryz.func273 rfl Tryz_nm273 rfl) (Tryz_spec_l1Mix (n := 4) (H11.rowsSees2 0 2 rfl rfl hul hus rfl) ⟨_, own_weak (H11.mine 4 rfl)⟩ (by omega) (by omega) ca (by omega)) (fun v5 w11 r2 => ?_)
   obtain ⟨e6, r2⟩ := r2
   obtain ⟨fp5, H12⟩ := H11.res e6 r2
   obtain ⟨a3, k3, q3⟩ := own_slice (H12.mine 5 rfl)
   cases q3
   refine s_lit1 (wn rfl) rfl tu112 Tryz_ty45 rfl rfl rfl rfl H12 (fun b5 w12 e7 g5 H13 => ?_)
   refine s_app1 (α := View) (u := ⟨_, _, _⟩) (wn rfl) rfl tu112 Tryz_ty45 rfl rfl rfl H13 3 6 rfl rfl ⟨rfl, rfl⟩ (by unfold maxLen; omega) (by omega) (fun vo2 w9 ofp2 HA => ?_)
   try dsimp only [lNA, lCA, lSZ, lSS] at HA
   obtain ⟨g2, HB⟩ := HA.rowsSnoc 2 5 rfl rfl rfl hul2
   try dsimp only [lNA, lCA, lSZ, lSS] at HB
   refine sA rfl rfl (s_nil (W_reg (sM rfl rfl (sV rfl (py_add rfl rfl (in64 ⟨by omega, by omega⟩)) (sA rfl rfl (s_nil ?_))))))
   have hz := HB.dtake 4
   rw [encE, encS_step] at hz
   obtain ⟨es2, hus2⟩ : ∃ es2, us ++ [_] = us0 ++ es2 := ⟨es ++ [_], by rw [hus, List.append_assoc]⟩
   exact ⟨(j + 1, _, _, _, _), ⟨rfl, rfl, rfl, rfl, rfl, trivial⟩, ⟨hz, by (try dsimp only); omega, by (try dsimp only); rw [encS_len, List.length_append, hul2, encS_len]; simp; omega, ⟨es2, hus2⟩⟩, by dsimp only; omega⟩
  ·refine W_exit (W_sr (sM rfl rfl (sA rfl rfl (s_nil (rT hQ Tryz.results194 rfl ?_)))))
   obtain rfl : j = s := by omega
   obtain ⟨oA, oC, oq⟩ := own_slice (H10.mine 3 rfl)
   cases oq
   obtain ⟨fp, HZ⟩ := H10.ofRows 3 2 rfl rfl rfl hul2
   try dsimp only [lSZ, lSS] at HZ
   rw [hul2] at HZ
   have hz := HZ.out 3 rfl
   rw [encS_eq hl] at hz
   exact ⟨H10.ext, by rw [hul2, encS_eq hl]; exact hz⟩
set_option maxHeartbeats 2000000 in
theorem Tryz_spec_l7Redo {w : World} {z : Wld} {zb rC6 rC7 rC8 : Nat} {fp rF6 rF7 rF8 : List Nat} {g : Int} {r : Rec} {rA6 rA7 rA8 : Option Addr} (o : OwnW w zb 38 z fp) (nd : fp.Nodup) (rK : r.Ok) (rO6 : own false w [.slice rA6 r.Rows.length rC6] r.Rows rF6) (rD6 : ∀ b ∈ rF6, b ∉ fp) (rO7 : own false w [.slice rA7 r.Data.length rC7] r.Data rF7) (rD7 : ∀ b ∈ rF7, b ∉ fp) (rO8 : own false w [.slice rA8 r.Delta.length rC8] r.Delta rF8) (rD8 : ∀ b ∈ rF8, b ∉ fp) (hd : z.Down = false) (hs : z.Shape.ok = true) (hG : groupsOK z = true) (hg : ins g 0 (z.Shape.Groups + z.Shape.Column - 1) = true) (hm : recF z.Shape r = 0) (hk : r.Kind = 2) (hw : z.Writes ≤ 1400000000) : Ret Tryz.prog 114 #[.pointer (some ⟨zb, 0, none⟩), .int .i64 g, r.val rA6 rC6 rA7 rC7 rA8 rC8] w fun v w' => (v = .bool (redoP z g r).1 ∧ MutW w w' fp zb 38 ((redoP z g r).2)) := by
 have rK2 := rK
 unfold Rec.Ok at rK2
 try unfold I64ok at rK2
 try unfold maxLen at rK2
 have rN2 : r.Name.size ≤ maxLen := by unfold maxLen; omega
 have rL6 := oL rO6
 have rL7 := oL rO7
 have rL8 := oL rO8
 have sbd := shape_bd hs
 have hdn : drvN z = z.Shape.Data.toNat + z.Shape.Spare.toNat := rfl
 obtain ⟨hgg, hgr, hro, hDl, hDe, hsq⟩ := move_facts hs hG hg hm hk
 have hgi := ins_iff.1 hg
 refine ret_Q (vs := [.pointer (some ⟨zb, 0, none⟩), .int .i64 g, r.val rA6 rC6 rA7 rC7 rA8 rC8]) Tryz.func114 rfl Tryz.ntmps114 rfl (fun Q hQ hN => ?_)
 have H0 := (((Sep.beginW o nd).seeF (rO6) rD6).seeF (rO7) rD7).seeF (rO8) rD8
 try dsimp only [lNA, lCA, lSZ, lSS] at H0
 refine W_sr (s_box (wn rfl) rfl rfl H0 (fun b1 w1 e1 g1 H1 => ?_))
 refine sA rfl rfl (s_nil (W_seq ?_))
 obtain ⟨wA1, wC1, wA2, wC2, wA3, wC3, wf1, wf2, wf3, wok1, H2⟩ := H1.openW 0 rfl
 try dsimp only [lNA, lCA, lSZ, lSS] at H2
 have wok1U := wok1
 unfold Wld.Ok Shape.Ok I64ok at wok1U
 have wL1 := oL (H2.mine 3 rfl)
 have wL2 := oL (H2.mine 4 rfl)
 have wL3 := oL (H2.mine 5 rfl)
 refine W_reg (sM rfl rfl (sV rfl (py_nil rfl) (sV rfl (py_field tu38 rfl ts34 rfl rfl) (sV rfl (py_loadS tu34 rfl ts34 rfl rfl (At.sub (H2.box 0 rfl) 9)) (s_var (wn rfl) rfl Tryz.zeroValue34 H2 (fun b2 w2 e2 g2 H3 => ?_))))))
 refine s_stoS (wn rfl) ts34 rfl rfl rfl rfl H3 6 rfl rfl (fun w3 e3 H4 => ?_)
 dsimp only [lNA, lCA, lSZ, lSS, layL] at H4
 refine s_nil (W_sr (sV rfl (py_field tu34 rfl ts2 rfl rfl) (sV rfl (py_load tu2 rfl rfl (cell_atL (H4.box 6 rfl) rfl)) (sV rfl (py_field tu34 rfl ts2 rfl rfl) (sV rfl (py_load tu2 rfl rfl (cell_atL (H4.box 6 rfl) rfl)) (sV rfl (py_field tu68 rfl ts45 rfl rfl) (sV rfl (py_load tu45 rfl rfl (cell_atL (H4.box 1 rfl) rfl)) (s_call (wn rfl) rfl rfl (pc_call Tryz.func194 rfl Tryz_nm194 rfl) (Tryz_l2Encode_own (by omega) (by omega) (by omega) (by omega) (H4.sees 1 rfl) (n := z.Shape.Data.toNat) (s := z.Shape.Spare.toNat)) (fun v1 w4 r1 => ?_)))))))))
 obtain ⟨e4, r1⟩ := r1
 obtain ⟨fp1, H5⟩ := H4.res e4 r1
 obtain ⟨a1, k1, q1⟩ := own_slice (H5.mine 7 rfl)
 cases q1
 refine sA rfl rfl (s_nil (W_seq (W_sr (sM rfl rfl (sV rfl (py_field tu34 rfl ts2 rfl rfl) (sV rfl (py_load tu2 rfl rfl (cell_atL (H5.box 6 rfl) rfl)) (sV rfl (py_geq rfl rfl) (s_nil (W_ifd rfl (fun c1 => ?_) (fun c1 => ?_))))))))))
 ·refine W_sr (sM rfl rfl (sV rfl (py_add rfl rfl (in64 ⟨by omega, by omega⟩)) (sV rfl (py_field tu34 rfl ts2 rfl rfl) (sV rfl (py_load tu2 rfl rfl (cell_atL (H5.box 6 rfl) rfl)) (sV rfl (py_sub rfl rfl (in64 ⟨by omega, by omega⟩)) (sV rfl (py_field tu68 rfl ts2 rfl rfl) (sV rfl (py_load tu2 rfl rfl (cell_atL (H5.box 1 rfl) rfl)) (s_call (wn rfl) rfl rfl (pc_call Tryz.func195 rfl Tryz_nm195 rfl) (Tryz_spec_l1Cauchy (by omega)) (fun v2 w5 r2 => ?_)))))))))
  obtain ⟨e5, rfl⟩ := r2
  have H6 := H5.to e5
  refine sA rfl rfl (s_nil ?_)
  have hscl : (scaleG r.Delta (cauchy (8 + g - z.Shape.Groups) r.Group)).length = z.Shape.Data.toNat * 4 := by rw [scaleG_len]; omega
  refine W_drw (S := Ext No _) [(0, true), (1, true), (2, true), (3, true), (4, true), (5, true), (6, true), (7, false), (8, false), (9, false)] (by kernel_rfl) (by kernel_rfl) (by kernel_rfl) rfl (fun _ => Ext.refl.drawn _) (fun q2 => ?_)
  have H7 := H6.drawn q2
  refine dV rfl rfl (fun zw hx => py_field tu34 rfl ts2 rfl rfl) (dV rfl rfl (fun zw hx => py_load tu2 rfl rfl (cell_atL (hx.heap (H7.box 6 rfl)) rfl)) (dV rfl rfl (fun zw hx => py_field tu34 rfl ts2 rfl rfl) (dV rfl rfl (fun zw hx => py_load tu2 rfl rfl (cell_atL (hx.heap (H7.box 6 rfl)) rfl)) (dV rfl rfl (fun zw hx => py_field tu68 rfl ts45 rfl rfl) (dV rfl rfl (fun zw hx => py_load tu45 rfl rfl (cell_atL (hx.heap (H7.box 1 rfl)) rfl)) (dM rfl rfl rfl (d_call rfl (wn rfl) rfl rfl (pc_call Tryz.func196 rfl Tryz_nm196 rfl) (Tryz_spec_l1Scale (H7.sees 2 rfl) (by omega)) (fun hS _ _ r _ => hS.trans r.1.no) (fun v3 w6 r3 => ?_))))))))
  obtain ⟨e6, r3⟩ := r3
  obtain ⟨fp2, H8⟩ := H7.res e6 r3
  obtain ⟨a2, k2, q3⟩ := own_slice (H8.mine 8 rfl)
  cases q3
  refine d_call rfl (wn rfl) rfl rfl (pc_call Tryz.func194 rfl Tryz_nm194 rfl) (Tryz_l2Encode_own (by omega) (by omega) (by omega) (by omega) (H8.msees 8 rfl) (n := z.Shape.Data.toNat) (s := z.Shape.Spare.toNat)) (fun hS _ _ r _ => hS.trans r.1.no) (fun v4 w7 r4 => ?_)
  obtain ⟨e7, r4⟩ := r4
  obtain ⟨fp3, H9⟩ := H8.res e7 r4
  obtain ⟨a3, k3, q4⟩ := own_slice (H9.mine 9 rfl)
  cases q4
  refine d_end rfl (wn rfl) rfl rfl (py_assign rfl) (d_nil (W_seq (W_sr (sA rfl rfl (s_nil (W_block ?_))))))
  obtain ⟨fp4, H10⟩ := H9.closeW 0 3 4 5 z rfl rfl rfl rfl rfl rfl rfl rfl rfl rfl wok1
  try dsimp only [lNA, lCA, lSZ, lSS] at H10
  have hca : 8 + g - z.Shape.Groups = 8 + (g - z.Shape.Groups) := by omega
  obtain ⟨us, f0, f1, hul, HT⟩ := H10.toRows 9 rfl
  try dsimp only [lNA, lCA, lSZ, lSS] at HT
  have HC := HT.sub (.cons_cons _ (.cons_cons _ (.cons _ (.cons _ (.cons _ (.cons _ (.cons_cons _ (.cons _ (.cons _ (.cons_cons _ (.cons _ (.cons_cons _ List.Sublist.slnil))))))))))))
  have hRl : (encG z.Shape.Data.toNat (z.Shape.Data.toNat + z.Shape.Spare.toNat) (scaleG r.Delta (cauchy (8 + g - z.Shape.Groups) r.Group))).length = drvN z := by exact encG_len
  have hul9 : us.length = (encG z.Shape.Data.toNat (z.Shape.Data.toNat + z.Shape.Spare.toNat) (scaleG r.Delta (cauchy (8 + g - z.Shape.Groups) r.Group))).length := hul
  have hRe : redoL z g r = (encG z.Shape.Data.toNat (z.Shape.Data.toNat + z.Shape.Spare.toNat) (scaleG r.Delta (cauchy (8 + g - z.Shape.Groups) r.Group))) := by rw [redoL, if_neg (fun q => by have := ins_iff.1 q; omega), addedL, hca]
  refine W_loop (γ := Nat × Wld × List Nat × List Nat) (fun (i, zi, f, fr) => [(0, .pointer (some ⟨zb, 0, none⟩)), (1, .int .i64 g), (5, .pointer (some ⟨b1, 0, none⟩)), (7, .pointer (some ⟨b2, 0, none⟩)), (8, .slice a3 (encG z.Shape.Data.toNat (z.Shape.Data.toNat + z.Shape.Spare.toNat) (scaleG r.Delta (cauchy (8 + g - z.Shape.Groups) r.Group))).length k3), (10, .int .i64 i)]) (fun (i, zi, f, fr) w' => Sep (· ∈ fp) w [wldR zb 38 zi f, box b1 (.cells [.int .i64 r.Kind, .int .i64 r.Seq, .string r.Name, .int .i64 r.Length, .int .i64 r.Group, .int .i64 r.Row, .slice rA6 r.Rows.length rC6, .slice rA7 r.Data.length rC7, .slice rA8 r.Delta.length rC8].toArray 68), box b2 (.cells [.int .i64 z.Shape.Groups, .int .i64 z.Shape.Column, .int .i64 z.Shape.Data, .int .i64 z.Shape.Spare, .int .i64 z.Shape.Rows, .int .i64 z.Shape.Cap, .int .i64 z.Shape.Batch, .int .i64 z.Shape.Queue, .int .i64 z.Shape.Stage].toArray 34), mine [.slice a3 (encG z.Shape.Data.toNat (z.Shape.Data.toNat + z.Shape.Spare.toNat) (scaleG r.Delta (cauchy (8 + g - z.Shape.Groups) r.Group))).length k3] us f0, rowsT (us.drop i) ((encG z.Shape.Data.toNat (z.Shape.Data.toNat + z.Shape.Spare.toNat) (scaleG r.Delta (cauchy (8 + g - z.Shape.Groups) r.Group))).drop i) fr] [seen false [.slice rA6 r.Rows.length rC6] r.Rows rF6, seen false [.slice rA7 r.Data.length rC7] r.Data rF7, seen false [.slice rA8 r.Delta.length rC8] r.Delta rF8] w' ∧ i ≤ drvN z ∧ redoP z g r = redoI (encG z.Shape.Data.toNat (z.Shape.Data.toNat + z.Shape.Spare.toNat) (scaleG r.Delta (cauchy (8 + g - z.Shape.Groups) r.Group))) g r (drvN z - i) i zi ∧ zi.Shape = z.Shape ∧ zi.Groups.length = z.Groups.length ∧ (zi.Groups.getD g.toNat []).length = (z.Groups.getD g.toNat []).length ∧ (∀ j, i ≤ j → drvAt zi g.toNat j = drvAt z g.toNat j) ∧ zi.Writes ≤ z.Writes + i ∧ zi.Down = false) (fun (i, zi, f, fr) => drvN z - i) (0, z, _, _) ⟨rfl, rfl, rfl, rfl, rfl, rfl, trivial⟩ ⟨HC, by (try dsimp only); omega, (by rw [← hRe]; rfl), rfl, rfl, rfl, fun _ _ => rfl, by (try dsimp only); omega, hd⟩ (fun (i, zi, f, fr) w8 H11 => ?_)
  obtain ⟨H11, hi, hdl, hsh, hgl, hgn, hdv, hw2, hdn2⟩ := H11
  refine W_seq (W_sr (sM rfl rfl (sM rfl rfl (sV rfl (py_len tu112 rfl) (sV rfl (py_lss rfl rfl) (s_nil (W_ifd rfl (fun c2 => ?_) (fun c2 => ?_))))))))
  ·refine W_skip (W_seq (W_block (W_seq ?_)))
   have hdr := hdv i (Nat.le_refl i)
   have hq1 : g.toNat < zi.Groups.length := by omega
   have hq2 : i < (zi.Groups.getD g.toNat []).length := by omega
   have hq3 : r.Row.toNat < ((zi.Groups.getD g.toNat []).getD i default).Blocks.length := by
    have e : (zi.Groups.getD g.toNat []).getD i default = (z.Groups.getD g.toNat []).getD i default := hdr
    rw [e]; exact (hro i (by omega)).1
   have hq4 : (blkA zi g.toNat i r.Row.toNat).Bytes.length = 4 := by
    unfold blkA; rw [hdr]; exact (hro i (by omega)).2
   obtain ⟨wA4, wC4, wA5, wC5, wA6, wC6, wf4, wf5, wf6, wok2, H12⟩ := H11.openW 0 rfl
   try dsimp only [lNA, lCA, lSZ, lSS] at H12
   have wok2U := wok2
   unfold Wld.Ok Shape.Ok I64ok at wok2U
   have wL4 := oL (H12.mine 6 rfl)
   have wL5 := oL (H12.mine 7 rfl)
   have wL6 := oL (H12.mine 8 rfl)
   obtain ⟨eb1, eo1, eT1, eF1, eG1, ea1, ek1, eg1, ee1, eH1⟩ := H12.focusL 6 rfl g.toNat (by omega)
   try dsimp only [lNA, lCA, lSZ, lSS] at eH1
   obtain ⟨eb2, eo2, eT2, eF2, eG2, ea2, ek2, eg2, ee2, eK1, eH2⟩ := Drive.focus eH1 9 rfl i (by omega)
   have eK1U := eK1
   unfold Drive.Ok at eK1U
   try unfold I64ok at eK1U
   try unfold maxLen at eK1U
   try dsimp only [lNA, lCA, lSZ, lSS] at eH2
   refine W_reg (sM rfl rfl (sV rfl (py_nil rfl) (sV rfl (py_field tu38 rfl ts35 rfl rfl) (sV rfl (py_load tu35 rfl rfl (cell_atL (eH2.box 0 rfl) rfl)) (sM rfl rfl (sV rfl (py_elz tu35 ts142 rfl rfl ee1 g.toNat (by omega) (by omega)) (sV rfl (py_load tu142 rfl rfl (at_cell (eH2.holAt 6 rfl) 0 rfl)) (sM rfl rfl (sV rfl (py_elz tu142 ts180 rfl rfl ee2 i (by omega) (by omega)) (sV rfl (py_loadS tu180 rfl ts180 rfl rfl (eH2.holAt 9 rfl)) (s_var (wn rfl) rfl Tryz.zeroValue180 eH2 (fun b3 w9 e8 g3 H13 => ?_))))))))))))
   refine s_stoS (wn rfl) ts180 rfl rfl rfl rfl H13 12 rfl rfl (fun w10 e9 H14 => ?_)
   dsimp only [lNA, lCA, lSZ, lSS, layL] at H14
   refine s_nil (W_seq (W_seq ?_))
   obtain ⟨eb3, eo3, eT3, eF3, eG3, ea3, ek3, eg3, ee3, eK2, eH3⟩ := Block.focus H14 11 rfl r.Row.toNat (by omega)
   have eK2U := eK2
   unfold Block.Ok at eK2U
   try unfold I64ok at eK2U
   try dsimp only [lNA, lCA, lSZ, lSS] at eH3
   refine W_drw (S := Ext No _) [(0, true), (1, true), (2, true), (3, true), (4, true), (5, true), (6, true), (7, true), (8, true), (9, true), (10, true), (11, true), (12, true), (13, false)] (by kernel_rfl) (by kernel_rfl) (by kernel_rfl) rfl (fun _ => Ext.refl.drawn _) (fun q5 => ?_)
   have H15 := eH3.drawn q5
   refine dV rfl rfl (fun zw hx => py_field tu180 rfl ts4 rfl rfl) (dV rfl rfl (fun zw hx => py_load tu4 rfl rfl (cell_atL (hx.heap (H15.box 12 rfl)) rfl)) (dM rfl rfl rfl (d_case (t := 63) rfl (fun hg1 => ?_) (fun hg1 => ?_))))
   ·try simp only [decide_eq_true_eq, decide_eq_false_iff_not] at hg1
    refine dKt rfl rfl rfl rfl (dKt rfl rfl rfl rfl (dKt rfl rfl rfl rfl (dKt rfl rfl rfl rfl (dKt rfl rfl rfl rfl (dKt rfl rfl rfl rfl (dKt rfl rfl rfl rfl (dKt rfl rfl rfl rfl (dKt rfl rfl rfl rfl (dKt rfl rfl rfl rfl (d_end rfl (wn rfl) rfl rfl (py_pickT rfl rfl) (d_nil (W_ift rfl (W_exit (W_reg (sM rfl rfl (sV rfl (py_add rfl rfl (in64 ⟨by omega, by omega⟩)) (sA rfl rfl (s_nil ?_))))))))))))))))))
    obtain ⟨fp5, H16⟩ := Block.fill H15 11 14 rfl rfl rfl eK2
    try dsimp only [lNA, lCA, lSZ, lSS] at H16
    obtain ⟨fp6, H17⟩ := Drive.fill H16 9 11 rfl rfl rfl eK1
    try dsimp only [lNA, lCA, lSZ, lSS] at H17
    obtain ⟨fp7, H18⟩ := H17.fill 6 9 rfl rfl rfl
    try dsimp only [lNA, lCA, lSZ, lSS] at H18
    obtain ⟨fp8, H19⟩ := H18.closeW 0 6 7 8 (blkT g.toNat i r.Row.toNat (blkA zi g.toNat i r.Row.toNat) zi) rfl rfl rfl rfl rfl rfl rfl rfl rfl rfl (blkT_ok wok2)
    try dsimp only [lNA, lCA, lSZ, lSS] at H19
    rw [blkT_self hq1 hq2 hq3] at H19
    obtain ⟨ra, rc, rf, rg, hrv, H20⟩ := H19.rowsAtK 4 i rfl (by omega) hul
    try dsimp only [lNA, lCA, lSZ, lSS] at H20
    exact ⟨(i + 1, zi, _, _), ⟨rfl, rfl, rfl, rfl, rfl, rfl, trivial⟩, ⟨(H20.sub (.cons_cons _ (.cons_cons _ (.cons_cons _ (.cons_cons _ (.cons _ (.cons _ (.cons _ (.cons _ (.cons _ (.cons _ (.cons _ (.cons _ (.cons _ (.cons _ (.cons _ (.cons _ (.cons_cons _ List.Sublist.slnil)))))))))))))))))), by (try dsimp only); omega, by (try dsimp only); rw [hdl, redoI_skip (by omega) (by first | exact skip_w (by assumption) | exact skip_s (by assumption))], hsh, hgl, hgn, fun j hj => hdv j (by (try dsimp only at hj); omega), by (try dsimp only); omega, hdn2⟩, by dsimp only; omega⟩
   ·try simp only [decide_eq_true_eq, decide_eq_false_iff_not] at hg1
    refine d_val rfl (wg rfl rfl rfl) rfl rfl (fun zw hx => py_field tu180 rfl ts178 rfl rfl) (d_val rfl (wg rfl rfl rfl) rfl rfl (fun zw hx => py_load tu178 rfl rfl (cell_atL (hx.heap (H15.box 12 rfl)) rfl)) (d_val rfl (wg rfl rfl rfl) rfl rfl (fun zw hx => py_field tu68 rfl ts2 rfl rfl) (d_val rfl (wg rfl rfl rfl) rfl rfl (fun zw hx => py_load tu2 rfl rfl (cell_atL (hx.heap (H15.box 1 rfl)) rfl)) (d_val rfl (wg rfl rfl rfl) rfl rfl (fun zw hx => py_elz tu178 ts182 rfl rfl ee3 r.Row.toNat (by omega) (by omega)) (d_val rfl (wg rfl rfl rfl) rfl rfl (fun zw hx => py_field tu182 rfl ts2 rfl rfl) (d_val rfl (wg rfl rfl rfl) rfl rfl (fun zw hx => py_load tu2 rfl rfl (at_cell (hx.at (H15.holAt 11 rfl)) 0 rfl)) (d_val rfl (wg rfl rfl rfl) rfl rfl (fun zw hx => py_field tu68 rfl ts2 rfl rfl) (d_val rfl (wg rfl rfl rfl) rfl rfl (fun zw hx => py_load tu2 rfl rfl (cell_atL (hx.heap (H15.box 1 rfl)) rfl)) (d_val rfl (wg rfl rfl rfl) rfl rfl (fun zw hx => py_geq rfl rfl) (d_end rfl (wn rfl) rfl rfl (py_pickF rfl rfl) (d_nil (W_ifd rfl (fun c3 => ?_) (fun c3 => ?_)))))))))))))
    ·refine W_exit (W_reg (sM rfl rfl (sV rfl (py_add rfl rfl (in64 ⟨by omega, by omega⟩)) (sA rfl rfl (s_nil ?_)))))
     obtain ⟨fp9, H21⟩ := Block.fill H15 11 14 rfl rfl rfl eK2
     try dsimp only [lNA, lCA, lSZ, lSS] at H21
     obtain ⟨fp10, H22⟩ := Drive.fill H21 9 11 rfl rfl rfl eK1
     try dsimp only [lNA, lCA, lSZ, lSS] at H22
     obtain ⟨fp11, H23⟩ := H22.fill 6 9 rfl rfl rfl
     try dsimp only [lNA, lCA, lSZ, lSS] at H23
     obtain ⟨fp12, H24⟩ := H23.closeW 0 6 7 8 (blkT g.toNat i r.Row.toNat (blkA zi g.toNat i r.Row.toNat) zi) rfl rfl rfl rfl rfl rfl rfl rfl rfl rfl (blkT_ok wok2)
     try dsimp only [lNA, lCA, lSZ, lSS] at H24
     rw [blkT_self hq1 hq2 hq3] at H24
     obtain ⟨ra, rc, rf, rg, hrv, H25⟩ := H24.rowsAtK 4 i rfl (by omega) hul
     try dsimp only [lNA, lCA, lSZ, lSS] at H25
     exact ⟨(i + 1, zi, _, _), ⟨rfl, rfl, rfl, rfl, rfl, rfl, trivial⟩, ⟨(H25.sub (.cons_cons _ (.cons_cons _ (.cons_cons _ (.cons_cons _ (.cons _ (.cons _ (.cons _ (.cons _ (.cons _ (.cons _ (.cons _ (.cons _ (.cons _ (.cons _ (.cons _ (.cons _ (.cons_cons _ List.Sublist.slnil)))))))))))))))))), by (try dsimp only); omega, by (try dsimp only); rw [hdl, redoI_skip (by omega) (by first | exact skip_w (by assumption) | exact skip_s (by assumption))], hsh, hgl, hgn, fun j hj => hdv j (by (try dsimp only at hj); omega), by (try dsimp only); omega, hdn2⟩, by dsimp only; omega⟩
    ·refine W_skip (W_seq ?_)
     obtain ⟨ra, rc, rf, rg, hrv, H26⟩ := H15.rowsAtK 4 i rfl (by omega) hul
     try dsimp only [lNA, lCA, lSZ, lSS] at H26
     obtain ⟨vb, vo, vad, vcell⟩ := view_cell (H26.mine 3 rfl) i (by omega)
     rw [hrv] at vcell
     obtain ⟨eb4, eo4, ee4⟩ := own_addr (H26.mine 3 rfl) i (by omega)
     refine W_reg (sM rfl rfl (sM rfl rfl (sV rfl (py_elz tu112 ts45 rfl rfl vad i (by omega) (by omega)) (sV rfl (py_load tu45 rfl rfl vcell) (sA rfl rfl (s_nil (W_seq (W_seq ?_))))))))
     have hrw : ((encG z.Shape.Data.toNat (z.Shape.Data.toNat + z.Shape.Spare.toNat) (scaleG r.Delta (cauchy (8 + g - z.Shape.Groups) r.Group))).getD i []).length = 4 := by exact encG_lens (by rw [scaleG_len]; omega) i (by omega)
     have hq5 : ((((zi.Groups.getD g.toNat []).getD i default).Blocks.getD r.Row.toNat default).Bytes).length = 4 := hq4
     have hbl : (addG ((encG z.Shape.Data.toNat (z.Shape.Data.toNat + z.Shape.Spare.toNat) (scaleG r.Delta (cauchy (8 + g - z.Shape.Groups) r.Group))).getD i []) ((((zi.Groups.getD g.toNat []).getD i default).Blocks.getD r.Row.toNat default).Bytes)).length = 4 := by rw [addG_len (by omega)]; exact hrw
     refine W_reg (sM rfl rfl (sV rfl (py_field tu34 rfl ts2 rfl rfl) (sV rfl (py_load tu2 rfl rfl (cell_atL (H26.box 2 rfl) rfl)) (sV rfl (py_geq rfl rfl) (s_nil (W_ifd rfl (fun c4 => ?_) (fun c4 => ?_)))))))
     ·refine W_reg (sM rfl rfl (sV rfl (py_field tu180 rfl ts178 rfl rfl) (sV rfl (py_load tu178 rfl rfl (cell_atL (H26.box 12 rfl) rfl)) (sV rfl (py_field tu68 rfl ts2 rfl rfl) (sV rfl (py_load tu2 rfl rfl (cell_atL (H26.box 1 rfl) rfl)) (sV rfl (py_elz tu178 ts182 rfl rfl ee3 r.Row.toNat (by omega) (by omega)) (sV rfl (py_field tu182 rfl ts45 rfl rfl) (sV rfl (py_load tu45 rfl rfl (at_cell (H26.holAt 11 rfl) 1 rfl)) (s_call (wn rfl) rfl rfl (pc_call Tryz.func197 rfl Tryz_nm197 rfl) (Tryz_spec_l1Add ⟨_, own_weak (H26.mine 15 rfl)⟩ ⟨_, own_weak (H26.mine 14 rfl)⟩ (by omega)) (fun v5 w11 r5 => ?_))))))))))
      obtain ⟨e10, r5⟩ := r5
      obtain ⟨fp13, H27⟩ := H26.res e10 r5
      obtain ⟨a4, k4, q6⟩ := own_slice (H27.mine 17 rfl)
      cases q6
      refine sA rfl rfl (s_nil (W_seq (W_seq ?_)))
      obtain ⟨fp14, H28⟩ := Block.fill H27 11 14 rfl rfl rfl eK2
      try dsimp only [lNA, lCA, lSZ, lSS] at H28
      obtain ⟨fp15, H29⟩ := Drive.fill H28 9 11 rfl rfl rfl eK1
      try dsimp only [lNA, lCA, lSZ, lSS] at H29
      obtain ⟨fp16, H30⟩ := H29.fill 6 9 rfl rfl rfl
      try dsimp only [lNA, lCA, lSZ, lSS] at H30
      obtain ⟨fp17, H31⟩ := H30.closeW 0 6 7 8 (blkT g.toNat i r.Row.toNat (blkA zi g.toNat i r.Row.toNat) zi) rfl rfl rfl rfl rfl rfl rfl rfl rfl rfl (blkT_ok wok2)
      try dsimp only [lNA, lCA, lSZ, lSS] at H31
      rw [blkT_self hq1 hq2 hq3] at H31
      refine W_reg (sM rfl rfl (s_call (wn rfl) rfl rfl (pc_call Tryz.func198 rfl Tryz_nm198 rfl) (Tryz_spec_l5Raw (H31.wldAt 0 rfl) (H31.nodup1 (i := 0) rfl) (by first | assumption | omega) (by first | assumption | omega)) (fun v6 w12 r6 => ?_)))
      obtain ⟨rfl, mm1⟩ := r6
      obtain ⟨fp18, H32⟩ := H31.mutW 0 rfl mm1
      try dsimp only [lNA, lCA, lSZ, lSS] at H32
      refine sV rfl (py_not rfl) (s_nil (W_if rfl (fun c5 => ?_) (fun c5 => ?_)))
      ·refine W_sr (sA rfl rfl (s_nil (rT hQ Tryz.results114 rfl ?_)))
       have hnb : newB zi g i r ((encG z.Shape.Data.toNat (z.Shape.Data.toNat + z.Shape.Spare.toNat) (scaleG r.Delta (cauchy (8 + g - z.Shape.Groups) r.Group))).getD i []) = (addG ((encG z.Shape.Data.toNat (z.Shape.Data.toNat + z.Shape.Spare.toNat) (scaleG r.Delta (cauchy (8 + g - z.Shape.Groups) r.Group))).getD i []) ((((zi.Groups.getD g.toNat []).getD i default).Blocks.getD r.Row.toNat default).Bytes)) := by
        rw [newB, hsh, if_neg (fun q => by have := ins_iff.1 q; omega)]
        rfl
       have hsk : skipB zi g.toNat i r = false := by first | exact skip_n (by assumption) (by assumption) | exact skip_n (by simpa using (by assumption)) (by assumption)
       obtain ⟨hf1, hf2, hf3⟩ := blkW_facts (b := ⟨r.Seq, newB zi g i r ((encG z.Shape.Data.toNat (z.Shape.Data.toNat + z.Shape.Spare.toNat) (scaleG r.Delta (cauchy (8 + g - z.Shape.Groups) r.Group))).getD i [])⟩) (row := r.Row.toNat) hq1 hq2
       have hf4 := (blkW_writes (g := g.toNat) (i := i) (row := r.Row.toNat) (b := ⟨r.Seq, newB zi g i r ((encG z.Shape.Data.toNat (z.Shape.Data.toNat + z.Shape.Spare.toNat) (scaleG r.Delta (cauchy (8 + g - z.Shape.Groups) r.Group))).getD i [])⟩) (z := zi)).2
       have hp1 : noPower zi = true := by simpa using c5
       have hz := H32.doneW
       rw [hdl, redoI_stop (by omega) hsk hp1]
       rw [rawW_no (y := zi) hp1, ← rawW_no (y := blkT g.toNat i r.Row.toNat ⟨r.Seq, newB zi g i r ((encG z.Shape.Data.toNat (z.Shape.Data.toNat + z.Shape.Spare.toNat) (scaleG r.Delta (cauchy (8 + g - z.Shape.Groups) r.Group))).getD i [])⟩ zi) hp1] at hz
       exact ⟨rfl, hz⟩
      ·refine W_skip ?_
       have hp1 : noPower zi = false := by simpa using c5
       obtain ⟨z1, hz1⟩ : ∃ z1, z1 = tickW zi := ⟨_, rfl⟩
       have HZ := H32
       rw [rawW_yes hp1, ← hz1] at HZ
       have hy1 : g.toNat < z1.Groups.length := by rw [hz1]; exact hq1
       have hy2 : i < (z1.Groups.getD g.toNat []).length := by rw [hz1]; exact hq2
       have hy3 : r.Row.toNat < ((z1.Groups.getD g.toNat []).getD i default).Blocks.length := by rw [hz1]; exact hq3
       have hxk : I64ok r.Seq := by unfold I64ok; omega
       obtain ⟨wA7, wC7, wA8, wC8, wA9, wC9, wf7, wf8, wf9, wok3, H33⟩ := HZ.openW 0 rfl
       try dsimp only [lNA, lCA, lSZ, lSS] at H33
       have wok3U := wok3
       unfold Wld.Ok Shape.Ok I64ok at wok3U
       have wL7 := oL (H33.mine 19 rfl)
       have wL8 := oL (H33.mine 20 rfl)
       have wL9 := oL (H33.mine 21 rfl)
       obtain ⟨eb5, eo5, eT4, eF4, eG4, ea4, ek4, eg4, ee5, eH4⟩ := H33.focusL 19 rfl g.toNat (by omega)
       try dsimp only [lNA, lCA, lSZ, lSS] at eH4
       obtain ⟨eb6, eo6, eT5, eF5, eG5, ea5, ek5, eg5, ee6, eK3, eH5⟩ := Drive.focus eH4 22 rfl i (by omega)
       have eK3U := eK3
       unfold Drive.Ok at eK3U
       try unfold I64ok at eK3U
       try unfold maxLen at eK3U
       try dsimp only [lNA, lCA, lSZ, lSS] at eH5
       obtain ⟨eb7, eo7, ee7⟩ := own_addr (eH5.mine 24 rfl) r.Row.toNat (by omega)
       refine W_drw (S := Ext No _) [(0, true), (1, true), (2, true), (3, true), (4, true), (5, true), (6, true), (7, true), (8, true), (9, true), (10, true), (11, true), (12, true), (13, true), (14, true), (15, true), (16, true), (17, true), (18, false)] (by kernel_rfl) (by kernel_rfl) (by kernel_rfl) rfl (fun _ => Ext.refl.drawn _) (fun q7 => ?_)
       have H34 := eH5.drawn q7
       refine dM rfl rfl rfl (dV rfl rfl (fun zw hx => py_nil rfl) (dV rfl rfl (fun zw hx => py_field tu38 rfl ts35 rfl rfl) (dV rfl rfl (fun zw hx => py_load tu35 rfl rfl (cell_atL (hx.heap (H34.box 0 rfl)) rfl)) (dM rfl rfl rfl (dV rfl rfl (fun zw hx => py_elz tu35 ts142 rfl rfl ee5 g.toNat (by omega) (by omega)) (dV rfl rfl (fun zw hx => py_load tu142 rfl rfl (at_cell (hx.at (H34.holAt 19 rfl)) 0 rfl)) (dM rfl rfl rfl (dV rfl rfl (fun zw hx => py_elz tu142 ts180 rfl rfl ee6 i (by omega) (by omega)) (dV rfl rfl (fun zw hx => py_field tu180 rfl ts178 rfl rfl) (dV rfl rfl (fun zw hx => py_load tu178 rfl rfl (at_cell (hx.at (H34.holAt 22 rfl)) 1 rfl)) (dV rfl rfl (fun zw hx => py_field tu68 rfl ts2 rfl rfl) (dV rfl rfl (fun zw hx => py_load tu2 rfl rfl (cell_atL (hx.heap (H34.box 1 rfl)) rfl)) (dV rfl rfl (fun zw hx => py_field tu68 rfl ts2 rfl rfl) (dV rfl rfl (fun zw hx => py_load tu2 rfl rfl (cell_atL (hx.heap (H34.box 1 rfl)) rfl)) (dM rfl rfl rfl (dV rfl rfl (fun zw hx => py_buildS Tryz_pl182 rfl rfl) (dV rfl rfl (fun zw hx => py_elz tu178 ts182 rfl rfl ee7 r.Row.toNat (by omega) (by omega)) ?_)))))))))))))))))
       have H36 := H34.packB 17 r.Seq rfl hxk
       try dsimp only [lNA, lCA, lSZ, lSS] at H36
       refine d_elst2S rfl (wn rfl) ts182 H36 24 17 rfl rfl rfl r.Row.toNat (by omega) rfl ee7 rfl (fun w13 fp19 H35 => ?_)
       try dsimp only [lNA, lCA, lSZ, lSS] at H35
       refine d_nil (W_reg (sM rfl rfl (sV rfl (py_add rfl rfl (in64 ⟨by omega, by omega⟩)) (sA rfl rfl (s_nil ?_)))))
       obtain ⟨fp20, H37⟩ := Drive.fill H35 22 24 rfl rfl rfl eK3
       try dsimp only [lNA, lCA, lSZ, lSS] at H37
       obtain ⟨fp21, H38⟩ := H37.fill 19 22 rfl rfl rfl
       try dsimp only [lNA, lCA, lSZ, lSS] at H38
       obtain ⟨fp22, H39⟩ := H38.closeW 0 19 20 21 (blkT g.toNat i r.Row.toNat ⟨r.Seq, (addG ((encG z.Shape.Data.toNat (z.Shape.Data.toNat + z.Shape.Spare.toNat) (scaleG r.Delta (cauchy (8 + g - z.Shape.Groups) r.Group))).getD i []) ((((zi.Groups.getD g.toNat []).getD i default).Blocks.getD r.Row.toNat default).Bytes))⟩ z1) rfl rfl rfl rfl rfl rfl rfl rfl rfl rfl (blkT_ok wok3)
       try dsimp only [lNA, lCA, lSZ, lSS] at H39
       have hnb : newB zi g i r ((encG z.Shape.Data.toNat (z.Shape.Data.toNat + z.Shape.Spare.toNat) (scaleG r.Delta (cauchy (8 + g - z.Shape.Groups) r.Group))).getD i []) = (addG ((encG z.Shape.Data.toNat (z.Shape.Data.toNat + z.Shape.Spare.toNat) (scaleG r.Delta (cauchy (8 + g - z.Shape.Groups) r.Group))).getD i []) ((((zi.Groups.getD g.toNat []).getD i default).Blocks.getD r.Row.toNat default).Bytes)) := by
        rw [newB, hsh, if_neg (fun q => by have := ins_iff.1 q; omega)]
        rfl
       have hsk : skipB zi g.toNat i r = false := by first | exact skip_n (by assumption) (by assumption) | exact skip_n (by simpa using (by assumption)) (by assumption)
       obtain ⟨hf1, hf2, hf3⟩ := blkW_facts (b := ⟨r.Seq, newB zi g i r ((encG z.Shape.Data.toNat (z.Shape.Data.toNat + z.Shape.Spare.toNat) (scaleG r.Delta (cauchy (8 + g - z.Shape.Groups) r.Group))).getD i [])⟩) (row := r.Row.toNat) hq1 hq2
       have hf4 := (blkW_writes (g := g.toNat) (i := i) (row := r.Row.toNat) (b := ⟨r.Seq, newB zi g i r ((encG z.Shape.Data.toNat (z.Shape.Data.toNat + z.Shape.Spare.toNat) (scaleG r.Delta (cauchy (8 + g - z.Shape.Groups) r.Group))).getD i [])⟩) (z := zi)).2
       have hz := (H39.sub (.cons_cons _ (.cons_cons _ (.cons_cons _ (.cons_cons _ (.cons _ (.cons _ (.cons _ (.cons _ (.cons _ (.cons _ (.cons _ (.cons _ (.cons _ (.cons _ (.cons _ (.cons _ (.cons_cons _ (.cons _ (.cons _ (.cons _ (.cons _ (.cons _ (.cons _ (.cons _ (.cons _ List.Sublist.slnil))))))))))))))))))))))))))
       rw [hz1, blkT_tick, ← blkW_yes hp1, ← hnb] at hz
       exact ⟨(i + 1, blkW g.toNat i r.Row.toNat ⟨r.Seq, newB zi g i r ((encG z.Shape.Data.toNat (z.Shape.Data.toNat + z.Shape.Spare.toNat) (scaleG r.Delta (cauchy (8 + g - z.Shape.Groups) r.Group))).getD i [])⟩ zi, _, _), ⟨rfl, rfl, rfl, rfl, rfl, rfl, trivial⟩, ⟨hz, by (try dsimp only); omega, by (try dsimp only); rw [hdl, redoI_go (by omega) hsk hp1], by (try dsimp only); rw [blkW_shape]; exact hsh, by (try dsimp only); omega, by (try dsimp only); omega, fun j hj => (hf3 j (by (try dsimp only at hj); omega)).trans (hdv j (by (try dsimp only at hj); omega)), by (try dsimp only); omega, by (try dsimp only); rw [blkW_down hp1]; exact hdn2⟩, by dsimp only; omega⟩
     ·exact absurd c4 (by omega)
  ·refine W_exit (W_sr (sA rfl rfl (s_nil (rT hQ Tryz.results114 rfl ?_))))
   have hz := H11.doneW
   rw [hdl, redoI_end (by omega)]
   exact ⟨rfl, hz⟩
 ·refine W_skip (W_seq (W_sr (sA rfl rfl (s_nil (W_block ?_)))))
  obtain ⟨fp23, H40⟩ := H5.closeW 0 3 4 5 z rfl rfl rfl rfl rfl rfl rfl rfl rfl rfl wok1
  try dsimp only [lNA, lCA, lSZ, lSS] at H40
  obtain ⟨us, f0, f1, hul, HT⟩ := H40.toRows 7 rfl
  try dsimp only [lNA, lCA, lSZ, lSS] at HT
  have HC := HT.sub (.cons_cons _ (.cons_cons _ (.cons _ (.cons _ (.cons _ (.cons _ (.cons_cons _ (.cons_cons _ (.cons _ (.cons_cons _ List.Sublist.slnil))))))))))
  have hRl : (dataL z r).length = drvN z := by unfold dataL; exact encG_len
  have hul9 : us.length = (dataL z r).length := hul
  have hRe : redoL z g r = (dataL z r) := if_pos (ins_iff.2 (by omega))
  refine W_loop (γ := Nat × Wld × List Nat × List Nat) (fun (i, zi, f, fr) => [(0, .pointer (some ⟨zb, 0, none⟩)), (1, .int .i64 g), (5, .pointer (some ⟨b1, 0, none⟩)), (7, .pointer (some ⟨b2, 0, none⟩)), (8, .slice a1 (dataL z r).length k1), (10, .int .i64 i)]) (fun (i, zi, f, fr) w' => Sep (· ∈ fp) w [wldR zb 38 zi f, box b1 (.cells [.int .i64 r.Kind, .int .i64 r.Seq, .string r.Name, .int .i64 r.Length, .int .i64 r.Group, .int .i64 r.Row, .slice rA6 r.Rows.length rC6, .slice rA7 r.Data.length rC7, .slice rA8 r.Delta.length rC8].toArray 68), box b2 (.cells [.int .i64 z.Shape.Groups, .int .i64 z.Shape.Column, .int .i64 z.Shape.Data, .int .i64 z.Shape.Spare, .int .i64 z.Shape.Rows, .int .i64 z.Shape.Cap, .int .i64 z.Shape.Batch, .int .i64 z.Shape.Queue, .int .i64 z.Shape.Stage].toArray 34), mine [.slice a1 (dataL z r).length k1] us f0, rowsT (us.drop i) ((dataL z r).drop i) fr] [seen false [.slice rA6 r.Rows.length rC6] r.Rows rF6, seen false [.slice rA7 r.Data.length rC7] r.Data rF7, seen false [.slice rA8 r.Delta.length rC8] r.Delta rF8] w' ∧ i ≤ drvN z ∧ redoP z g r = redoI (dataL z r) g r (drvN z - i) i zi ∧ zi.Shape = z.Shape ∧ zi.Groups.length = z.Groups.length ∧ (zi.Groups.getD g.toNat []).length = (z.Groups.getD g.toNat []).length ∧ (∀ j, i ≤ j → drvAt zi g.toNat j = drvAt z g.toNat j) ∧ zi.Writes ≤ z.Writes + i ∧ zi.Down = false) (fun (i, zi, f, fr) => drvN z - i) (0, z, _, _) ⟨rfl, rfl, rfl, rfl, rfl, rfl, trivial⟩ ⟨HC, by (try dsimp only); omega, (by rw [← hRe]; rfl), rfl, rfl, rfl, fun _ _ => rfl, by (try dsimp only); omega, hd⟩ (fun (i, zi, f, fr) w14 H41 => ?_)
  obtain ⟨H41, hi, hdl, hsh, hgl, hgn, hdv, hw2, hdn2⟩ := H41
  refine W_seq (W_sr (sM rfl rfl (sM rfl rfl (sV rfl (py_len tu112 rfl) (sV rfl (py_lss rfl rfl) (s_nil (W_ifd rfl (fun c6 => ?_) (fun c6 => ?_))))))))
  ·refine W_skip (W_seq (W_block (W_seq ?_)))
   have hdr := hdv i (Nat.le_refl i)
   have hq1 : g.toNat < zi.Groups.length := by omega
   have hq2 : i < (zi.Groups.getD g.toNat []).length := by omega
   have hq3 : r.Row.toNat < ((zi.Groups.getD g.toNat []).getD i default).Blocks.length := by
    have e : (zi.Groups.getD g.toNat []).getD i default = (z.Groups.getD g.toNat []).getD i default := hdr
    rw [e]; exact (hro i (by omega)).1
   have hq4 : (blkA zi g.toNat i r.Row.toNat).Bytes.length = 4 := by
    unfold blkA; rw [hdr]; exact (hro i (by omega)).2
   obtain ⟨wA10, wC10, wA11, wC11, wA12, wC12, wf10, wf11, wf12, wok4, H42⟩ := H41.openW 0 rfl
   try dsimp only [lNA, lCA, lSZ, lSS] at H42
   have wok4U := wok4
   unfold Wld.Ok Shape.Ok I64ok at wok4U
   have wL10 := oL (H42.mine 6 rfl)
   have wL11 := oL (H42.mine 7 rfl)
   have wL12 := oL (H42.mine 8 rfl)
   obtain ⟨eb8, eo8, eT6, eF6, eG6, ea6, ek6, eg6, ee8, eH6⟩ := H42.focusL 6 rfl g.toNat (by omega)
   try dsimp only [lNA, lCA, lSZ, lSS] at eH6
   obtain ⟨eb9, eo9, eT7, eF7, eG7, ea7, ek7, eg7, ee9, eK4, eH7⟩ := Drive.focus eH6 9 rfl i (by omega)
   have eK4U := eK4
   unfold Drive.Ok at eK4U
   try unfold I64ok at eK4U
   try unfold maxLen at eK4U
   try dsimp only [lNA, lCA, lSZ, lSS] at eH7
   refine W_reg (sM rfl rfl (sV rfl (py_nil rfl) (sV rfl (py_field tu38 rfl ts35 rfl rfl) (sV rfl (py_load tu35 rfl rfl (cell_atL (eH7.box 0 rfl) rfl)) (sM rfl rfl (sV rfl (py_elz tu35 ts142 rfl rfl ee8 g.toNat (by omega) (by omega)) (sV rfl (py_load tu142 rfl rfl (at_cell (eH7.holAt 6 rfl) 0 rfl)) (sM rfl rfl (sV rfl (py_elz tu142 ts180 rfl rfl ee9 i (by omega) (by omega)) (sV rfl (py_loadS tu180 rfl ts180 rfl rfl (eH7.holAt 9 rfl)) (s_var (wn rfl) rfl Tryz.zeroValue180 eH7 (fun b4 w15 e13 g4 H43 => ?_))))))))))))
   refine s_stoS (wn rfl) ts180 rfl rfl rfl rfl H43 12 rfl rfl (fun w16 e14 H44 => ?_)
   dsimp only [lNA, lCA, lSZ, lSS, layL] at H44
   refine s_nil (W_seq (W_seq ?_))
   obtain ⟨eb10, eo10, eT8, eF8, eG8, ea8, ek8, eg8, ee10, eK5, eH8⟩ := Block.focus H44 11 rfl r.Row.toNat (by omega)
   have eK5U := eK5
   unfold Block.Ok at eK5U
   try unfold I64ok at eK5U
   try dsimp only [lNA, lCA, lSZ, lSS] at eH8
   refine W_drw (S := Ext No _) [(0, true), (1, true), (2, true), (3, true), (4, true), (5, true), (6, true), (7, true), (8, true), (9, true), (10, true), (11, true), (12, true), (13, false)] (by kernel_rfl) (by kernel_rfl) (by kernel_rfl) rfl (fun _ => Ext.refl.drawn _) (fun q8 => ?_)
   have H45 := eH8.drawn q8
   refine dV rfl rfl (fun zw hx => py_field tu180 rfl ts4 rfl rfl) (dV rfl rfl (fun zw hx => py_load tu4 rfl rfl (cell_atL (hx.heap (H45.box 12 rfl)) rfl)) (dM rfl rfl rfl (d_case (t := 63) rfl (fun hg2 => ?_) (fun hg2 => ?_))))
   ·try simp only [decide_eq_true_eq, decide_eq_false_iff_not] at hg2
    refine dKt rfl rfl rfl rfl (dKt rfl rfl rfl rfl (dKt rfl rfl rfl rfl (dKt rfl rfl rfl rfl (dKt rfl rfl rfl rfl (dKt rfl rfl rfl rfl (dKt rfl rfl rfl rfl (dKt rfl rfl rfl rfl (dKt rfl rfl rfl rfl (dKt rfl rfl rfl rfl (d_end rfl (wn rfl) rfl rfl (py_pickT rfl rfl) (d_nil (W_ift rfl (W_exit (W_reg (sM rfl rfl (sV rfl (py_add rfl rfl (in64 ⟨by omega, by omega⟩)) (sA rfl rfl (s_nil ?_))))))))))))))))))
    obtain ⟨fp24, H46⟩ := Block.fill H45 11 14 rfl rfl rfl eK5
    try dsimp only [lNA, lCA, lSZ, lSS] at H46
    obtain ⟨fp25, H47⟩ := Drive.fill H46 9 11 rfl rfl rfl eK4
    try dsimp only [lNA, lCA, lSZ, lSS] at H47
    obtain ⟨fp26, H48⟩ := H47.fill 6 9 rfl rfl rfl
    try dsimp only [lNA, lCA, lSZ, lSS] at H48
    obtain ⟨fp27, H49⟩ := H48.closeW 0 6 7 8 (blkT g.toNat i r.Row.toNat (blkA zi g.toNat i r.Row.toNat) zi) rfl rfl rfl rfl rfl rfl rfl rfl rfl rfl (blkT_ok wok4)
    try dsimp only [lNA, lCA, lSZ, lSS] at H49
    rw [blkT_self hq1 hq2 hq3] at H49
    obtain ⟨ra, rc, rf, rg, hrv, H50⟩ := H49.rowsAtK 4 i rfl (by omega) hul
    try dsimp only [lNA, lCA, lSZ, lSS] at H50
    exact ⟨(i + 1, zi, _, _), ⟨rfl, rfl, rfl, rfl, rfl, rfl, trivial⟩, ⟨(H50.sub (.cons_cons _ (.cons_cons _ (.cons_cons _ (.cons_cons _ (.cons _ (.cons _ (.cons _ (.cons _ (.cons _ (.cons _ (.cons _ (.cons _ (.cons _ (.cons _ (.cons _ (.cons _ (.cons_cons _ List.Sublist.slnil)))))))))))))))))), by (try dsimp only); omega, by (try dsimp only); rw [hdl, redoI_skip (by omega) (by first | exact skip_w (by assumption) | exact skip_s (by assumption))], hsh, hgl, hgn, fun j hj => hdv j (by (try dsimp only at hj); omega), by (try dsimp only); omega, hdn2⟩, by dsimp only; omega⟩
   ·try simp only [decide_eq_true_eq, decide_eq_false_iff_not] at hg2
    refine d_val rfl (wg rfl rfl rfl) rfl rfl (fun zw hx => py_field tu180 rfl ts178 rfl rfl) (d_val rfl (wg rfl rfl rfl) rfl rfl (fun zw hx => py_load tu178 rfl rfl (cell_atL (hx.heap (H45.box 12 rfl)) rfl)) (d_val rfl (wg rfl rfl rfl) rfl rfl (fun zw hx => py_field tu68 rfl ts2 rfl rfl) (d_val rfl (wg rfl rfl rfl) rfl rfl (fun zw hx => py_load tu2 rfl rfl (cell_atL (hx.heap (H45.box 1 rfl)) rfl)) (d_val rfl (wg rfl rfl rfl) rfl rfl (fun zw hx => py_elz tu178 ts182 rfl rfl ee10 r.Row.toNat (by omega) (by omega)) (d_val rfl (wg rfl rfl rfl) rfl rfl (fun zw hx => py_field tu182 rfl ts2 rfl rfl) (d_val rfl (wg rfl rfl rfl) rfl rfl (fun zw hx => py_load tu2 rfl rfl (at_cell (hx.at (H45.holAt 11 rfl)) 0 rfl)) (d_val rfl (wg rfl rfl rfl) rfl rfl (fun zw hx => py_field tu68 rfl ts2 rfl rfl) (d_val rfl (wg rfl rfl rfl) rfl rfl (fun zw hx => py_load tu2 rfl rfl (cell_atL (hx.heap (H45.box 1 rfl)) rfl)) (d_val rfl (wg rfl rfl rfl) rfl rfl (fun zw hx => py_geq rfl rfl) (d_end rfl (wn rfl) rfl rfl (py_pickF rfl rfl) (d_nil (W_ifd rfl (fun c7 => ?_) (fun c7 => ?_)))))))))))))
    ·refine W_exit (W_reg (sM rfl rfl (sV rfl (py_add rfl rfl (in64 ⟨by omega, by omega⟩)) (sA rfl rfl (s_nil ?_)))))
     obtain ⟨fp28, H51⟩ := Block.fill H45 11 14 rfl rfl rfl eK5
     try dsimp only [lNA, lCA, lSZ, lSS] at H51
     obtain ⟨fp29, H52⟩ := Drive.fill H51 9 11 rfl rfl rfl eK4
     try dsimp only [lNA, lCA, lSZ, lSS] at H52
     obtain ⟨fp30, H53⟩ := H52.fill 6 9 rfl rfl rfl
     try dsimp only [lNA, lCA, lSZ, lSS] at H53
     obtain ⟨fp31, H54⟩ := H53.closeW 0 6 7 8 (blkT g.toNat i r.Row.toNat (blkA zi g.toNat i r.Row.toNat) zi) rfl rfl rfl rfl rfl rfl rfl rfl rfl rfl (blkT_ok wok4)
     try dsimp only [lNA, lCA, lSZ, lSS] at H54
     rw [blkT_self hq1 hq2 hq3] at H54
     obtain ⟨ra, rc, rf, rg, hrv, H55⟩ := H54.rowsAtK 4 i rfl (by omega) hul
     try dsimp only [lNA, lCA, lSZ, lSS] at H55
     exact ⟨(i + 1, zi, _, _), ⟨rfl, rfl, rfl, rfl, rfl, rfl, trivial⟩, ⟨(H55.sub (.cons_cons _ (.cons_cons _ (.cons_cons _ (.cons_cons _ (.cons _ (.cons _ (.cons _ (.cons _ (.cons _ (.cons _ (.cons _ (.cons _ (.cons _ (.cons _ (.cons _ (.cons _ (.cons_cons _ List.Sublist.slnil)))))))))))))))))), by (try dsimp only); omega, by (try dsimp only); rw [hdl, redoI_skip (by omega) (by first | exact skip_w (by assumption) | exact skip_s (by assumption))], hsh, hgl, hgn, fun j hj => hdv j (by (try dsimp only at hj); omega), by (try dsimp only); omega, hdn2⟩, by dsimp only; omega⟩
    ·refine W_skip (W_seq ?_)
     obtain ⟨ra, rc, rf, rg, hrv, H56⟩ := H45.rowsAtK 4 i rfl (by omega) hul
     try dsimp only [lNA, lCA, lSZ, lSS] at H56
     obtain ⟨vb, vo, vad, vcell⟩ := view_cell (H56.mine 3 rfl) i (by omega)
     rw [hrv] at vcell
     obtain ⟨eb11, eo11, ee11⟩ := own_addr (H56.mine 3 rfl) i (by omega)
     refine W_reg (sM rfl rfl (sM rfl rfl (sV rfl (py_elz tu112 ts45 rfl rfl vad i (by omega) (by omega)) (sV rfl (py_load tu45 rfl rfl vcell) (sA rfl rfl (s_nil (W_seq (W_seq ?_))))))))
     have hrw : ((dataL z r).getD i []).length = 4 := by unfold dataL; exact encG_lens (by omega) i (by omega)
     have hq5 : ((((zi.Groups.getD g.toNat []).getD i default).Blocks.getD r.Row.toNat default).Bytes).length = 4 := hq4
     have hbl : ((dataL z r).getD i []).length = 4 := by exact hrw
     refine W_reg (sM rfl rfl (sV rfl (py_field tu34 rfl ts2 rfl rfl) (sV rfl (py_load tu2 rfl rfl (cell_atL (H56.box 2 rfl) rfl)) (sV rfl (py_geq rfl rfl) (s_nil (W_ifd rfl (fun c8 => ?_) (fun c8 => ?_)))))))
     ·exact absurd c8 (by omega)
     ·refine W_skip (W_seq (W_seq ?_))
      obtain ⟨fp32, H57⟩ := Block.fill H56 11 14 rfl rfl rfl eK5
      try dsimp only [lNA, lCA, lSZ, lSS] at H57
      obtain ⟨fp33, H58⟩ := Drive.fill H57 9 11 rfl rfl rfl eK4
      try dsimp only [lNA, lCA, lSZ, lSS] at H58
      obtain ⟨fp34, H59⟩ := H58.fill 6 9 rfl rfl rfl
      try dsimp only [lNA, lCA, lSZ, lSS] at H59
      obtain ⟨fp35, H60⟩ := H59.closeW 0 6 7 8 (blkT g.toNat i r.Row.toNat (blkA zi g.toNat i r.Row.toNat) zi) rfl rfl rfl rfl rfl rfl rfl rfl rfl rfl (blkT_ok wok4)
      try dsimp only [lNA, lCA, lSZ, lSS] at H60
      rw [blkT_self hq1 hq2 hq3] at H60
      refine W_reg (sM rfl rfl (s_call (wn rfl) rfl rfl (pc_call Tryz.func198 rfl Tryz_nm198 rfl) (Tryz_spec_l5Raw (H60.wldAt 0 rfl) (H60.nodup1 (i := 0) rfl) (by first | assumption | omega) (by first | assumption | omega)) (fun v7 w17 r7 => ?_)))
      obtain ⟨rfl, mm2⟩ := r7
      obtain ⟨fp36, H61⟩ := H60.mutW 0 rfl mm2
      try dsimp only [lNA, lCA, lSZ, lSS] at H61
      refine sV rfl (py_not rfl) (s_nil (W_if rfl (fun c9 => ?_) (fun c9 => ?_)))
      ·refine W_sr (sA rfl rfl (s_nil (rT hQ Tryz.results114 rfl ?_)))
       have hnb : newB zi g i r ((dataL z r).getD i []) = ((dataL z r).getD i []) := by
        rw [newB, hsh, if_pos (ins_iff.2 (by omega))]
       have hsk : skipB zi g.toNat i r = false := by first | exact skip_n (by assumption) (by assumption) | exact skip_n (by simpa using (by assumption)) (by assumption)
       obtain ⟨hf1, hf2, hf3⟩ := blkW_facts (b := ⟨r.Seq, newB zi g i r ((dataL z r).getD i [])⟩) (row := r.Row.toNat) hq1 hq2
       have hf4 := (blkW_writes (g := g.toNat) (i := i) (row := r.Row.toNat) (b := ⟨r.Seq, newB zi g i r ((dataL z r).getD i [])⟩) (z := zi)).2
       have hp1 : noPower zi = true := by simpa using c9
       have hz := H61.doneW
       rw [hdl, redoI_stop (by omega) hsk hp1]
       rw [rawW_no (y := zi) hp1, ← rawW_no (y := blkT g.toNat i r.Row.toNat ⟨r.Seq, newB zi g i r ((dataL z r).getD i [])⟩ zi) hp1] at hz
       exact ⟨rfl, hz⟩
      ·refine W_skip ?_
       have hp1 : noPower zi = false := by simpa using c9
       obtain ⟨z1, hz1⟩ : ∃ z1, z1 = tickW zi := ⟨_, rfl⟩
       have HZ := H61
       rw [rawW_yes hp1, ← hz1] at HZ
       have hy1 : g.toNat < z1.Groups.length := by rw [hz1]; exact hq1
       have hy2 : i < (z1.Groups.getD g.toNat []).length := by rw [hz1]; exact hq2
       have hy3 : r.Row.toNat < ((z1.Groups.getD g.toNat []).getD i default).Blocks.length := by rw [hz1]; exact hq3
       have hxk : I64ok r.Seq := by unfold I64ok; omega
       obtain ⟨wA13, wC13, wA14, wC14, wA15, wC15, wf13, wf14, wf15, wok5, H62⟩ := HZ.openW 0 rfl
       try dsimp only [lNA, lCA, lSZ, lSS] at H62
       have wok5U := wok5
       unfold Wld.Ok Shape.Ok I64ok at wok5U
       have wL13 := oL (H62.mine 18 rfl)
       have wL14 := oL (H62.mine 19 rfl)
       have wL15 := oL (H62.mine 20 rfl)
       obtain ⟨eb12, eo12, eT9, eF9, eG9, ea9, ek9, eg9, ee12, eH9⟩ := H62.focusL 18 rfl g.toNat (by omega)
       try dsimp only [lNA, lCA, lSZ, lSS] at eH9
       obtain ⟨eb13, eo13, eT10, eF10, eG10, ea10, ek10, eg10, ee13, eK6, eH10⟩ := Drive.focus eH9 21 rfl i (by omega)
       have eK6U := eK6
       unfold Drive.Ok at eK6U
       try unfold I64ok at eK6U
       try unfold maxLen at eK6U
       try dsimp only [lNA, lCA, lSZ, lSS] at eH10
       obtain ⟨eb14, eo14, ee14⟩ := own_addr (eH10.mine 23 rfl) r.Row.toNat (by omega)
       refine W_drw (S := Ext No _) [(0, true), (1, true), (2, true), (3, true), (4, true), (5, true), (6, true), (7, true), (8, true), (9, true), (10, true), (11, true), (12, true), (13, true), (14, true), (15, true), (16, true), (17, true), (18, false)] (by kernel_rfl) (by kernel_rfl) (by kernel_rfl) rfl (fun _ => Ext.refl.drawn _) (fun q9 => ?_)
       have H63 := eH10.drawn q9
       refine dM rfl rfl rfl (dV rfl rfl (fun zw hx => py_nil rfl) (dV rfl rfl (fun zw hx => py_field tu38 rfl ts35 rfl rfl) (dV rfl rfl (fun zw hx => py_load tu35 rfl rfl (cell_atL (hx.heap (H63.box 0 rfl)) rfl)) (dM rfl rfl rfl (dV rfl rfl (fun zw hx => py_elz tu35 ts142 rfl rfl ee12 g.toNat (by omega) (by omega)) (dV rfl rfl (fun zw hx => py_load tu142 rfl rfl (at_cell (hx.at (H63.holAt 18 rfl)) 0 rfl)) (dM rfl rfl rfl (dV rfl rfl (fun zw hx => py_elz tu142 ts180 rfl rfl ee13 i (by omega) (by omega)) (dV rfl rfl (fun zw hx => py_field tu180 rfl ts178 rfl rfl) (dV rfl rfl (fun zw hx => py_load tu178 rfl rfl (at_cell (hx.at (H63.holAt 21 rfl)) 1 rfl)) (dV rfl rfl (fun zw hx => py_field tu68 rfl ts2 rfl rfl) (dV rfl rfl (fun zw hx => py_load tu2 rfl rfl (cell_atL (hx.heap (H63.box 1 rfl)) rfl)) (dV rfl rfl (fun zw hx => py_field tu68 rfl ts2 rfl rfl) (dV rfl rfl (fun zw hx => py_load tu2 rfl rfl (cell_atL (hx.heap (H63.box 1 rfl)) rfl)) (dM rfl rfl rfl (dV rfl rfl (fun zw hx => py_buildS Tryz_pl182 rfl rfl) (dV rfl rfl (fun zw hx => py_elz tu178 ts182 rfl rfl ee14 r.Row.toNat (by omega) (by omega)) ?_)))))))))))))))))
       have H65 := H63.packB 15 r.Seq rfl hxk
       try dsimp only [lNA, lCA, lSZ, lSS] at H65
       refine d_elst2S rfl (wn rfl) ts182 H65 23 15 rfl rfl rfl r.Row.toNat (by omega) rfl ee14 rfl (fun w18 fp37 H64 => ?_)
       try dsimp only [lNA, lCA, lSZ, lSS] at H64
       refine d_nil (W_reg (sM rfl rfl (sV rfl (py_add rfl rfl (in64 ⟨by omega, by omega⟩)) (sA rfl rfl (s_nil ?_)))))
       obtain ⟨fp38, H66⟩ := Drive.fill H64 21 23 rfl rfl rfl eK6
       try dsimp only [lNA, lCA, lSZ, lSS] at H66
       obtain ⟨fp39, H67⟩ := H66.fill 18 21 rfl rfl rfl
       try dsimp only [lNA, lCA, lSZ, lSS] at H67
       obtain ⟨fp40, H68⟩ := H67.closeW 0 18 19 20 (blkT g.toNat i r.Row.toNat ⟨r.Seq, ((dataL z r).getD i [])⟩ z1) rfl rfl rfl rfl rfl rfl rfl rfl rfl rfl (blkT_ok wok5)
       try dsimp only [lNA, lCA, lSZ, lSS] at H68
       have hnb : newB zi g i r ((dataL z r).getD i []) = ((dataL z r).getD i []) := by
        rw [newB, hsh, if_pos (ins_iff.2 (by omega))]
       have hsk : skipB zi g.toNat i r = false := by first | exact skip_n (by assumption) (by assumption) | exact skip_n (by simpa using (by assumption)) (by assumption)
       obtain ⟨hf1, hf2, hf3⟩ := blkW_facts (b := ⟨r.Seq, newB zi g i r ((dataL z r).getD i [])⟩) (row := r.Row.toNat) hq1 hq2
       have hf4 := (blkW_writes (g := g.toNat) (i := i) (row := r.Row.toNat) (b := ⟨r.Seq, newB zi g i r ((dataL z r).getD i [])⟩) (z := zi)).2
       have hz := (H68.sub (.cons_cons _ (.cons_cons _ (.cons_cons _ (.cons_cons _ (.cons _ (.cons _ (.cons _ (.cons _ (.cons _ (.cons _ (.cons _ (.cons _ (.cons _ (.cons _ (.cons _ (.cons _ (.cons_cons _ (.cons _ (.cons _ (.cons _ (.cons _ (.cons _ (.cons _ (.cons _ List.Sublist.slnil)))))))))))))))))))))))))
       rw [hz1, blkT_tick, ← blkW_yes hp1, ← hnb] at hz
       exact ⟨(i + 1, blkW g.toNat i r.Row.toNat ⟨r.Seq, newB zi g i r ((dataL z r).getD i [])⟩ zi, _, _), ⟨rfl, rfl, rfl, rfl, rfl, rfl, trivial⟩, ⟨hz, by (try dsimp only); omega, by (try dsimp only); rw [hdl, redoI_go (by omega) hsk hp1], by (try dsimp only); rw [blkW_shape]; exact hsh, by (try dsimp only); omega, by (try dsimp only); omega, fun j hj => (hf3 j (by (try dsimp only at hj); omega)).trans (hdv j (by (try dsimp only at hj); omega)), by (try dsimp only); omega, by (try dsimp only); rw [blkW_down hp1]; exact hdn2⟩, by dsimp only; omega⟩
  ·refine W_exit (W_sr (sA rfl rfl (s_nil (rT hQ Tryz.results114 rfl ?_))))
   have hz := H41.doneW
   rw [hdl, redoI_end (by omega)]
   exact ⟨rfl, hz⟩
end Go.Wk
namespace Go.Wk
open Go.Proofs Rp
set_option maxRecDepth 10000
theorem Tryz_spec_RedoMove {w : World} {z : Wld} {zA9 zA10 zA11 rA6 rA7 rA8 : Option Addr} {zC9 zC10 zC11 rC6 rC7 rC8 : Nat} {g : Int} {r : Rec} (zK : z.Ok) (zS9 : Sees w [.slice zA9 z.Groups.length zC9] z.Groups) (zS10 : Sees w [.slice zA10 z.On.length zC10] z.On) (zS11 : Sees w [.slice zA11 z.Tapes.length zC11] z.Tapes) (rK : r.Ok) (rS6 : Sees w [.slice rA6 r.Rows.length rC6] r.Rows) (rS7 : Sees w [.slice rA7 r.Data.length rC7] r.Data) (rS8 : Sees w [.slice rA8 r.Delta.length rC8] r.Delta) (hb : szWld z ≤ 1048576) : Ret Tryz.prog 43 #[z.val zA9 zC9 zA10 zC10 zA11 zC11, .int .i64 g, r.val rA6 rC6 rA7 rC7 rA8 rC8] w fun v w' => Ext No w w' ∧ (∃ A10 C10 A11 C11 A12 C12, v = (redoF z g r).val A10 C10 A11 C11 A12 C12 ∧ Res w w' [.int .i64 (redoF z g r).Code, .int .i64 (redoF z g r).Wd.Shape.Groups, .int .i64 (redoF z g r).Wd.Shape.Column, .int .i64 (redoF z g r).Wd.Shape.Data, .int .i64 (redoF z g r).Wd.Shape.Spare, .int .i64 (redoF z g r).Wd.Shape.Rows, .int .i64 (redoF z g r).Wd.Shape.Cap, .int .i64 (redoF z g r).Wd.Shape.Batch, .int .i64 (redoF z g r).Wd.Shape.Queue, .int .i64 (redoF z g r).Wd.Shape.Stage, .slice A10 (redoF z g r).Wd.Groups.length C10, .slice A11 (redoF z g r).Wd.On.length C11, .slice A12 (redoF z g r).Wd.Tapes.length C12, .int .i64 (redoF z g r).Wd.Writes, .int .i64 (redoF z g r).Wd.Stop, .bool (redoF z g r).Wd.Down] (redoF z g r)) := by
 have zK2 := zK
 unfold Wld.Ok Shape.Ok at zK2
 try unfold I64ok at zK2
 try unfold maxLen at zK2
 have zL9 := sL zS9
 obtain ⟨zF9, zO9⟩ := zS9
 have zL10 := sL zS10
 obtain ⟨zF10, zO10⟩ := zS10
 have zL11 := sL zS11
 obtain ⟨zF11, zO11⟩ := zS11
 have rK2 := rK
 unfold Rec.Ok at rK2
 try unfold I64ok at rK2
 try unfold maxLen at rK2
 have rN2 : r.Name.size ≤ maxLen := by unfold maxLen; omega
 have rL6 := sL rS6
 obtain ⟨rF6, rO6⟩ := rS6
 have rL7 := sL rS7
 obtain ⟨rF7, rO7⟩ := rS7
 have rL8 := sL rS8
 obtain ⟨rF8, rO8⟩ := rS8
 refine ret_Q (vs := [z.val zA9 zC9 zA10 zC10 zA11 zC11, .int .i64 g, r.val rA6 rC6 rA7 rC7 rA8 rC8]) Tryz.func43 rfl Tryz.ntmps43 rfl (fun Q hQ hN => ?_)
 have H0 := Sep.start (w := w) (F := [seen false [.slice zA9 z.Groups.length zC9] z.Groups zF9, seen false [.slice zA10 z.On.length zC10] z.On zF10, seen false [.slice zA11 z.Tapes.length zC11] z.Tapes zF11, seen false [.slice rA6 r.Rows.length rC6] r.Rows rF6, seen false [.slice rA7 r.Data.length rC7] r.Data rF7, seen false [.slice rA8 r.Delta.length rC8] r.Delta rF8]) (all_cons zO9 (all_cons zO10 (all_cons zO11 (all_cons rO6 (all_cons rO7 (all_cons rO8 (by simp)))))))
 refine W_sr (s_box (wn rfl) rfl rfl H0 (fun b1 w1 e1 g1 H1 => ?_))
 refine s_box (wn rfl) rfl rfl H1 (fun b2 w2 e2 g2 H2 => ?_)
 refine s_var (wn rfl) rfl Tryz.zeroValue66 H2 (fun b3 w3 e3 g3 H3 => ?_)
 refine s_nil (W_seq (W_sr (sV rfl (py_loadS tu38 rfl ts38 rfl rfl (At.whole (H3.box 0 rfl))) (sM rfl rfl (s_call (wn rfl) rfl rfl (pc_call Tryz.func111 rfl Tryz_nm111 rfl) (Tryz_spec_l7Where (by assumption) (H3.sees 0 rfl) (H3.sees 1 rfl) (H3.sees 2 rfl)) (fun v1 w4 r1 => ?_))))))
 obtain ⟨e4, rfl⟩ := r1
 have H4 := H3.to e4
 refine sA rfl rfl (s_nil (W_sr (sM rfl rfl (sV rfl (py_neq rfl rfl) (s_nil (W_ifd rfl (fun c1 => ?_) (fun c1 => ?_)))))))
 ·refine W_sr (sM rfl rfl (sV rfl (py_buildS Tryz_pl66 rfl rfl) (s_stoS (wn rfl) ts66 rfl rfl rfl rfl H4 2 rfl rfl (fun w5 e5 H5 => ?_))))
  dsimp only [lNA, lCA, lSZ, lSS, layL] at H5
  refine s_nil (W_ret (hQ _ _ (finC Tryz.results43 rfl (run_loadVarS tu66 rfl ts66 rfl (At.whole (H5.box 2 rfl))) ?_)))
  rw [redoF_bad (by omega)]
  exact ⟨H5.ext, none, 0, none, 0, none, 0, rfl, wld_nil (by unfold I64ok; have := whereF_cd (z := z) (g := g) (row := 0); (try dsimp only); omega)⟩
 ·refine W_skip (W_seq (W_seq ?_))
  have hwr : whereF z g 0 = 0 := by omega
  obtain ⟨hs0, hG, hg, _, hon⟩ := whereF_ok hwr
  have hs := hs0
  have hgi := ins_iff.1 hg
  have hu := whereF_up hwr
  obtain ⟨hwf, hdn⟩ := upF_ok hu
  have hfa := world_fault hwf
  obtain ⟨hw0, hw1, _, _⟩ := worldF_rng hwf
  refine W_reg (sV rfl (py_field tu38 rfl ts34 rfl rfl) (sV rfl (py_loadS tu34 rfl ts34 rfl rfl (At.sub (H4.box 0 rfl) 9)) (sV rfl (py_loadS tu68 rfl ts68 rfl rfl (At.whole (H4.box 1 rfl))) (s_call (wn rfl) rfl rfl (pc_call Tryz.func112 rfl Tryz_nm112 rfl) (Tryz_spec_RecFault (by assumption) (H4.sees 3 rfl) (H4.sees 4 rfl) (H4.sees 5 rfl)) (fun v2 w6 r2 => ?_)))))
  obtain ⟨e6, rfl⟩ := r2
  have H6 := H4.to e6
  refine sV rfl (py_neq rfl rfl) (sM rfl rfl (s_grp 3 (j := 5) (want := false) (t := 25) rfl rfl rfl rfl (fun hg1 kk1 => s_val (wgE rfl rfl rfl hg1) rfl rfl (py_field tu68 rfl ts2 rfl rfl) (s_val (wgE rfl rfl rfl hg1) rfl rfl (py_load tu2 rfl rfl (cell_atL (H6.box 1 rfl) rfl)) (s_val (wgE rfl rfl rfl hg1) rfl rfl (py_neq rfl rfl) (kk1 _ _ (kx rfl (kx rfl (kx rfl k0))) rfl Ext.refl)))) (fun w7 e7 => ?_)))
  have H7 := H6.to e7
  refine sV rfl (py_bor rfl rfl) (sM rfl rfl (s_grp 11 (j := 10) (want := false) (t := 38) rfl rfl rfl rfl (fun hg2 kk2 => s_val (wgE rfl rfl rfl hg2) rfl rfl (py_move rfl) (s_val (wgE rfl rfl rfl hg2) rfl rfl (py_field tu38 rfl ts34 rfl rfl) (s_val (wgE rfl rfl rfl hg2) rfl rfl (py_field tu34 rfl ts2 rfl rfl) (s_val (wgE rfl rfl rfl hg2) rfl rfl (py_load tu2 rfl rfl (cell_atL (H7.box 0 rfl) rfl)) (s_val (wgE rfl rfl rfl hg2) rfl rfl (py_lss rfl rfl) (s_val (wgE rfl rfl rfl hg2) rfl rfl (py_move rfl) (s_grp 4 (j := 16) (want := true) (t := 37) rfl rfl rfl rfl (fun hg3 kk3 => s_val (wgE rfl rfl rfl hg3) rfl rfl (py_move rfl) (s_val (wgE rfl rfl rfl hg3) rfl rfl (py_field tu68 rfl ts2 rfl rfl) (s_val (wgE rfl rfl rfl hg3) rfl rfl (py_load tu2 rfl rfl (cell_atL (H7.box 1 rfl) rfl)) (s_val (wgE rfl rfl rfl hg3) rfl rfl (py_neq rfl rfl) (kk3 _ _ (kx rfl (kx rfl (kx rfl (kx rfl k0)))) rfl Ext.refl))))) (fun w9 e9 => s_val (wgE rfl rfl rfl hg2) rfl rfl (py_band rfl rfl) (kk2 _ _ (kx rfl (kx rfl (kx rfl (kx rfl (kx rfl (kx rfl (kx rfl (kx rfl k0)))))))) rfl (Ext.refl.trans e9)))))))))) (fun w8 e8 => ?_)))
  have H9 := H7.to e8
  refine sV rfl (py_bor rfl rfl) (s_nil (W_if rfl (fun c2 => ?_) (fun c2 => ?_)))
  ·refine W_sr (sV rfl (py_buildS Tryz_pl66 rfl rfl) (s_stoS (wn rfl) ts66 rfl rfl rfl rfl H9 2 rfl rfl (fun w10 e10 H10 => ?_)))
   dsimp only [lNA, lCA, lSZ, lSS, layL] at H10
   refine s_nil (W_ret (hQ _ _ (finC Tryz.results43 rfl (run_loadVarS tu66 rfl ts66 rfl (At.whole (H10.box 2 rfl))) ?_)))
   rw [redoF_no hwr (by rw [redoBad_spec hfa (by omega)]; exact c2)]
   exact ⟨H10.ext, none, 0, none, 0, none, 0, rfl, wld_nil (by unfold I64ok; (try dsimp only); omega)⟩
  ·refine W_skip (W_seq ?_)
   have hbad : redoBad z g r = false := by rw [redoBad_spec hfa (by omega)]; exact c2
   obtain ⟨hm, hk⟩ := redoBad_no hbad
   refine W_reg (sV rfl (py_loadS tu38 rfl ts38 rfl rfl (At.whole (H9.box 0 rfl))) (s_call (wn rfl) rfl rfl (pc_call Tryz.func113 rfl Tryz_nm113 rfl) (Tryz_spec_l5Copy (by assumption) (H9.sees 0 rfl) (H9.sees 1 rfl) (H9.sees 2 rfl) (by first | assumption | omega)) (fun v3 w11 r3 => ?_)))
   obtain ⟨e11, sa1, sk1, sa2, sk2, sa3, sk3, rfl, r3⟩ := r3
   obtain ⟨fp1, H11⟩ := H9.res e11 r3
   obtain ⟨sf1, sf2, sf3, sq1, sok1, so1, so2, so3⟩ := own_WldC (H11.mine 3 rfl)
   have H12 := H11.part 3 rfl [mine [.slice _ z.Groups.length _] z.Groups sf1, mine [.slice _ z.On.length _] z.On sf2, mine [.slice _ z.Tapes.length _] z.Tapes sf3] (all_cons so1 (all_cons so2 (all_cons so3 (by simp)))) (by simp [blocks, mine, sq1])
   try dsimp only [lNA, lCA, lSZ, lSS] at H12
   refine s_var (wn rfl) rfl Tryz.zeroValue38 H12 (fun b4 w12 e12 g4 H13 => ?_)
   refine s_stoS (wn rfl) ts38 rfl rfl rfl rfl H13 7 rfl rfl (fun w13 e13 H14 => ?_)
   dsimp only [lNA, lCA, lSZ, lSS, layL] at H14
   refine s_nil (W_sr (sM rfl rfl (sV rfl (py_loadS tu68 rfl ts68 rfl rfl (At.whole (H14.box 1 rfl))) ?_)))
   obtain ⟨fp2, H15⟩ := H14.closeW 7 4 5 6 z rfl rfl rfl rfl rfl rfl rfl rfl rfl rfl zK
   try dsimp only [lNA, lCA, lSZ, lSS] at H15
   refine s_call (wn rfl) rfl rfl (pc_call Tryz.func114 rfl Tryz_nm114 rfl) (Tryz_spec_l7Redo (H15.wldAt 7 rfl) (H15.nodup1 (i := 7) rfl) (by assumption) (own_weak (H15.seen 3 rfl)) (fun b hb => H15.off 3 rfl 7 rfl hb) (own_weak (H15.seen 4 rfl)) (fun b hb => H15.off 4 rfl 7 rfl hb) (own_weak (H15.seen 5 rfl)) (fun b hb => H15.off 5 rfl 7 rfl hb) (by first | assumption | omega) (by first | assumption | omega) (by first | assumption | omega) (by first | assumption | omega) (by first | assumption | omega) (by first | assumption | omega) (by first | assumption | omega)) (fun v4 w14 r4 => ?_)
   obtain ⟨rfl, mm1⟩ := r4
   obtain ⟨fp3, H16⟩ := H15.mutW 7 rfl mm1
   try dsimp only [lNA, lCA, lSZ, lSS] at H16
   refine sA rfl rfl (s_nil (W_seq ?_))
   obtain ⟨wA1, wC1, wA2, wC2, wA3, wC3, wf1, wf2, wf3, wok1, H17⟩ := H16.openW 7 rfl
   try dsimp only [lNA, lCA, lSZ, lSS] at H17
   have wok1U := wok1
   unfold Wld.Ok Shape.Ok I64ok at wok1U
   have wL1 := oL (H17.mine 9 rfl)
   have wL2 := oL (H17.mine 10 rfl)
   have wL3 := oL (H17.mine 11 rfl)
   refine W_reg (sV rfl (py_loadS tu38 rfl ts38 rfl rfl (At.whole (H17.box 7 rfl))) (sM rfl rfl (s_call (wn rfl) rfl rfl (pc_call Tryz.func115 rfl Tryz_nm115 rfl) (Tryz_spec_l7Told (by assumption) (H17.msees 9 rfl) (H17.msees 10 rfl) (H17.msees 11 rfl)) (fun v5 w15 r5 => ?_))))
   obtain ⟨e15, rfl⟩ := r5
   have H18 := H17.to e15
   refine s_stoS (wn rfl) ts66 rfl rfl rfl rfl H18 2 rfl rfl (fun w16 e16 H19 => ?_)
   dsimp only [lNA, lCA, lSZ, lSS, layL] at H19
   refine s_nil (W_ret (hQ _ _ (finC Tryz.results43 rfl (run_loadVarS tu66 rfl ts66 rfl (At.whole (H19.box 2 rfl))) ?_)))
   rw [redoF_ok hwr hbad]
   exact ⟨H19.ext, _, _, _, _, _, _, rfl, WldResult.out (x := ⟨if (redoP z g r).1 = true then 0 else 9, (redoP z g r).2⟩) (H19.sub (.cons _ (.cons _ (.cons _ (.cons _ (.cons _ (.cons _ (.cons _ (.cons _ (.cons _ (.cons_cons _ (.cons_cons _ (.cons_cons _ List.Sublist.slnil))))))))))))) ⟨(by show I64ok (if (redoP z g r).1 = true then 0 else 9); unfold I64ok; split <;> omega), (by assumption)⟩⟩
end Go.Wk
