/-
  The functions walked, each once. (Printed by a program of mine.)
-/
import Derived.Test.YtlcpnnnangneeaaBase
import Derived.Test.YtlcpnnnangneeaaWkO
namespace Go.Wk
open Go.Proofs Rp
set_option maxRecDepth 10000
theorem Try_impl_MulG {w : World} {a : UInt8} {b : UInt8}  : Ret Try.prog 153 #[.int .u8 a.toNat, .int .u8 b.toNat] w fun v w' => Ext No w w' ∧ (v = .int .u8 (mulG a b).toNat) := by
  refine ret_Q (vs := [.int .u8 a.toNat, .int .u8 b.toNat]) Try.func153 rfl Try.ntmps153 rfl (fun Q hQ hN => ?_)
  have H0 := Sep.start (w := w) (F := []) (by simp)
  refine W_seq ?_
  refine W_reg ?_
  refine s_val (wn rfl) rfl rfl (py_assign rfl) ?_
  refine s_nil ?_
  refine W_seq ?_
  refine W_reg ?_
  refine s_val (wn rfl) rfl rfl (py_assign rfl) ?_
  refine s_nil ?_
  refine W_seq ?_
  refine W_block ?_
  refine W_loop (γ := UInt8 × UInt8 × UInt8) (fun (x, y, o) => [(0, .int .u8 x.toNat), (1, .int .u8 y.toNat), (5, .int .u8 o.toNat)]) (fun (x, y, o) w' => Sep No w [] [] w' ∧ mulR 8 x y o = mulG a b) (fun (x, y, o) => y.toNat) (a, b, 0) ⟨rfl, rfl, rfl, trivial⟩ ⟨H0, rfl⟩ (fun (x, y, o) w1 H1 => ?_)
  obtain ⟨H1, hI⟩ := H1
  refine W_seq ?_
  refine W_seq ?_
  refine W_reg ?_
  refine s_val (wn rfl) rfl rfl (py_move rfl) (s_val (wn rfl) rfl rfl (py_gtr rfl rfl) ?_)
  refine s_nil ?_
  refine W_ifd rfl (fun c1 => ?_) (fun c1 => ?_)
  · refine W_skip ?_
    refine W_seq ?_
    refine W_block ?_
    refine W_seq ?_
    refine W_seq ?_
    refine W_reg ?_
    refine s_val (wn rfl) rfl rfl (py_move rfl) (s_val (wn rfl) rfl rfl (py_and8 (b := 1) rfl rfl) (s_val (wn rfl) rfl rfl (py_eql rfl rfl) ?_))
    refine s_nil ?_
    refine W_ifd rfl (fun c2 => ?_) (fun c2 => ?_)
    · refine W_reg ?_
      refine s_val (wn rfl) rfl rfl (py_move rfl) (s_val (wn rfl) rfl rfl (py_move rfl) (s_val (wn rfl) rfl rfl (py_xor8 rfl rfl) (s_val (wn rfl) rfl rfl (py_assign rfl) ?_)))
      refine s_nil ?_
      refine W_seq ?_
      refine W_reg ?_
      refine s_val (wn rfl) rfl rfl (py_move rfl) (s_val (wn rfl) rfl rfl (py_and8 (b := 128) rfl rfl) (s_val (wn rfl) rfl rfl (py_neq rfl rfl) ?_))
      refine s_nil ?_
      refine W_ifd rfl (fun c3 => ?_) (fun c3 => ?_)
      · refine W_reg ?_
        refine s_val (wn rfl) rfl rfl (py_move rfl) (s_val (wn rfl) rfl rfl (py_shl8 (k := 1) (by omega) rfl rfl) (s_val (wn rfl) rfl rfl (py_xor8 (b := 29) rfl rfl) (s_val (wn rfl) rfl rfl (py_assign rfl) ?_)))
        refine s_nil ?_
        refine W_reg ?_
        refine s_val (wn rfl) rfl rfl (py_move rfl) (s_val (wn rfl) rfl rfl (py_shr8 (k := 1) rfl rfl) (s_val (wn rfl) rfl rfl (py_assign rfl) ?_))
        refine s_nil ?_
        refine ⟨(_, _, _), ⟨rfl, rfl, rfl, trivial⟩, ⟨H1, ?_⟩, ?_⟩
        · rw [← hI, mulR_round x y o, xt, if_neg (fun e => c3 ((u8_inj (b := 0)).2 e)), if_pos ((u8_inj (b := 1)).1 c2)]
        · dsimp only
          rw [shrN_toNat]
          omega
      · refine W_reg ?_
        refine s_val (wn rfl) rfl rfl (py_move rfl) (s_val (wn rfl) rfl rfl (py_shl8 (k := 1) (by omega) rfl rfl) (s_val (wn rfl) rfl rfl (py_assign rfl) ?_))
        refine s_nil ?_
        refine W_reg ?_
        refine s_val (wn rfl) rfl rfl (py_move rfl) (s_val (wn rfl) rfl rfl (py_shr8 (k := 1) rfl rfl) (s_val (wn rfl) rfl rfl (py_assign rfl) ?_))
        refine s_nil ?_
        refine ⟨(_, _, _), ⟨rfl, rfl, rfl, trivial⟩, ⟨H1, ?_⟩, ?_⟩
        · rw [← hI, mulR_round x y o, xt, if_pos (u8_zero (by omega)), if_pos ((u8_inj (b := 1)).1 c2)]
        · dsimp only
          rw [shrN_toNat]
          omega
    · refine W_skip ?_
      refine W_seq ?_
      refine W_reg ?_
      refine s_val (wn rfl) rfl rfl (py_move rfl) (s_val (wn rfl) rfl rfl (py_and8 (b := 128) rfl rfl) (s_val (wn rfl) rfl rfl (py_neq rfl rfl) ?_))
      refine s_nil ?_
      refine W_ifd rfl (fun c4 => ?_) (fun c4 => ?_)
      · refine W_reg ?_
        refine s_val (wn rfl) rfl rfl (py_move rfl) (s_val (wn rfl) rfl rfl (py_shl8 (k := 1) (by omega) rfl rfl) (s_val (wn rfl) rfl rfl (py_xor8 (b := 29) rfl rfl) (s_val (wn rfl) rfl rfl (py_assign rfl) ?_)))
        refine s_nil ?_
        refine W_reg ?_
        refine s_val (wn rfl) rfl rfl (py_move rfl) (s_val (wn rfl) rfl rfl (py_shr8 (k := 1) rfl rfl) (s_val (wn rfl) rfl rfl (py_assign rfl) ?_))
        refine s_nil ?_
        refine ⟨(_, _, _), ⟨rfl, rfl, rfl, trivial⟩, ⟨H1, ?_⟩, ?_⟩
        · rw [← hI, mulR_round x y o, xt, if_neg (fun e => c4 ((u8_inj (b := 0)).2 e)), if_neg (fun e => c2 ((u8_inj (b := 1)).2 e))]
        · dsimp only
          rw [shrN_toNat]
          omega
      · refine W_reg ?_
        refine s_val (wn rfl) rfl rfl (py_move rfl) (s_val (wn rfl) rfl rfl (py_shl8 (k := 1) (by omega) rfl rfl) (s_val (wn rfl) rfl rfl (py_assign rfl) ?_))
        refine s_nil ?_
        refine W_reg ?_
        refine s_val (wn rfl) rfl rfl (py_move rfl) (s_val (wn rfl) rfl rfl (py_shr8 (k := 1) rfl rfl) (s_val (wn rfl) rfl rfl (py_assign rfl) ?_))
        refine s_nil ?_
        refine ⟨(_, _, _), ⟨rfl, rfl, rfl, trivial⟩, ⟨H1, ?_⟩, ?_⟩
        · rw [← hI, mulR_round x y o, xt, if_pos (u8_zero (by omega)), if_neg (fun e => c2 ((u8_inj (b := 1)).2 e))]
        · dsimp only
          rw [shrN_toNat]
          omega
  · refine W_exit ?_
    refine W_seq ?_
    refine W_reg ?_
    refine s_val (wn rfl) rfl rfl (py_move rfl) (s_val (wn rfl) rfl rfl (py_assign rfl) ?_)
    refine s_nil ?_
    refine W_ret (hQ _ _ (fin1 Try.results153 rfl ?_))
    obtain rfl : y = 0 := u8_zero (by omega)
    exact ⟨H1.ext, by rw [← hI, mulR_zero]⟩
theorem Try_spec_MulG {w : World} {a : UInt8} {b : UInt8}  : Ret Try.prog 185 #[.int .u8 a.toNat, .int .u8 b.toNat] w fun v w' => Ext No w w' ∧ (v = .int .u8 (mulG a b).toNat) := by
  have al := a.toNat_lt
  refine ret_Q (vs := [.int .u8 a.toNat, .int .u8 b.toNat]) Try.func185 rfl Try.ntmps185 rfl (fun Q hQ hN => ?_)
  have H0 := Sep.start (w := w) (F := []) (by simp)
  refine W_seq ?_
  refine W_reg ?_
  refine s_val (wn rfl) rfl rfl (py_assign rfl) ?_
  refine s_nil ?_
  refine W_seq ?_
  refine W_reg ?_
  refine s_val (wn rfl) rfl rfl (py_assign rfl) ?_
  refine s_nil ?_
  refine W_seq ?_
  refine W_reg ?_
  refine s_val (wn rfl) rfl rfl (py_move rfl) (s_val (wn rfl) rfl rfl (py_conv Try.underlying5 Try.underlying3 rfl (in64 ⟨by omega, by omega⟩)) (s_val (wn rfl) rfl rfl (py_assign rfl) ?_))
  refine s_nil ?_
  refine W_seq ?_
  refine W_seq ?_
  refine W_reg ?_
  refine s_val (wn rfl) rfl rfl (py_assign rfl) ?_
  refine s_nil ?_
  refine W_block ?_
  refine W_loop (γ := Nat × UInt8 × UInt8) (fun (k, x, o) => [(1, .int .u8 b.toNat), (5, .int .i64 o.toNat), (6, .int .i64 x.toNat), (7, .int .i64 k)]) (fun (k, x, o) w' => Sep No w [] [] w' ∧ k ≤ 8 ∧ mulR (8 - k) x (shrN b k) o = mulG a b) (fun (k, x, o) => 8 - k) (0, a, 0) ⟨rfl, rfl, rfl, rfl, trivial⟩ ⟨H0, by omega, by rw [shrN_zero]; rfl⟩ (fun (k, x, o) w1 H1 => ?_)
  obtain ⟨H1, hk, hI⟩ := H1
  refine W_seq ?_
  refine W_seq ?_
  refine W_reg ?_
  refine s_val (wn rfl) rfl rfl (py_move rfl) (s_val (wn rfl) rfl rfl (py_lss rfl rfl) ?_)
  refine s_nil ?_
  refine W_ifd rfl (fun c1 => ?_) (fun c1 => ?_)
  · refine W_skip ?_
    refine W_seq ?_
    refine W_block ?_
    refine W_seq ?_
    refine W_seq ?_
    refine W_reg ?_
    refine s_val (wn rfl) rfl rfl (py_move rfl) (s_val (wn rfl) rfl rfl (py_move rfl) (s_val (wn rfl) rfl rfl (py_conv Try.underlying3 Try.underlying190 rfl (inu64 (by omega))) (s_val (wn rfl) rfl rfl (py_shr8 (k := k) rfl rfl) (s_val (wn rfl) rfl rfl (py_and8 (b := 1) rfl rfl) (s_val (wn rfl) rfl rfl (py_eql rfl rfl) ?_)))))
    refine s_nil ?_
    refine W_ifd rfl (fun c2 => ?_) (fun c2 => ?_)
    · refine W_reg ?_
      refine s_val (wn rfl) rfl rfl (py_move rfl) (s_val (wn rfl) rfl rfl (py_move rfl) (s_val (wn rfl) rfl rfl (py_xorI o x rfl rfl) (s_val (wn rfl) rfl rfl (py_assign rfl) ?_)))
      refine s_nil ?_
      refine W_seq ?_
      have xl := x.toNat_lt
      refine W_reg ?_
      refine s_val (wn rfl) rfl rfl (py_move rfl) (s_val (wn rfl) rfl rfl (py_mul rfl rfl (in64 ⟨by omega, by omega⟩)) (s_val (wn rfl) rfl rfl (py_assign rfl) ?_))
      refine s_nil ?_
      refine W_seq ?_
      refine W_reg ?_
      refine s_val (wn rfl) rfl rfl (py_move rfl) (s_val (wn rfl) rfl rfl (py_gtr rfl rfl) ?_)
      refine s_nil ?_
      refine W_ifd rfl (fun c3 => ?_) (fun c3 => ?_)
      · refine W_reg ?_
        refine s_val (wn rfl) rfl rfl (py_move rfl) (s_val (wn rfl) rfl rfl (py_xor rfl rfl) (s_val (wn rfl) rfl rfl (py_assign rfl) ?_))
        refine s_nil ?_
        refine W_reg ?_
        refine s_val (wn rfl) rfl rfl (py_move rfl) (s_val (wn rfl) rfl rfl (py_add rfl rfl (in64 ⟨by omega, by omega⟩)) (s_val (wn rfl) rfl rfl (py_assign rfl) ?_))
        refine s_nil ?_
        refine ⟨(k + 1, xt x, _), ⟨rfl, rfl, eqI (xt_big x (by omega)), rfl, trivial⟩, ⟨H1, by omega, ?_⟩, by dsimp only; omega⟩
        rw [mulR_next (k := k) (by omega) x b o, if_pos (u8_one c2)] at hI
        exact hI
      · refine W_skip ?_
        refine W_reg ?_
        refine s_val (wn rfl) rfl rfl (py_move rfl) (s_val (wn rfl) rfl rfl (py_add rfl rfl (in64 ⟨by omega, by omega⟩)) (s_val (wn rfl) rfl rfl (py_assign rfl) ?_))
        refine s_nil ?_
        refine ⟨(k + 1, xt x, _), ⟨rfl, rfl, eqI (xt_small x (by omega)), rfl, trivial⟩, ⟨H1, by omega, ?_⟩, by dsimp only; omega⟩
        rw [mulR_next (k := k) (by omega) x b o, if_pos (u8_one c2)] at hI
        exact hI
    · refine W_skip ?_
      refine W_seq ?_
      have xl := x.toNat_lt
      refine W_reg ?_
      refine s_val (wn rfl) rfl rfl (py_move rfl) (s_val (wn rfl) rfl rfl (py_mul rfl rfl (in64 ⟨by omega, by omega⟩)) (s_val (wn rfl) rfl rfl (py_assign rfl) ?_))
      refine s_nil ?_
      refine W_seq ?_
      refine W_reg ?_
      refine s_val (wn rfl) rfl rfl (py_move rfl) (s_val (wn rfl) rfl rfl (py_gtr rfl rfl) ?_)
      refine s_nil ?_
      refine W_ifd rfl (fun c4 => ?_) (fun c4 => ?_)
      · refine W_reg ?_
        refine s_val (wn rfl) rfl rfl (py_move rfl) (s_val (wn rfl) rfl rfl (py_xor rfl rfl) (s_val (wn rfl) rfl rfl (py_assign rfl) ?_))
        refine s_nil ?_
        refine W_reg ?_
        refine s_val (wn rfl) rfl rfl (py_move rfl) (s_val (wn rfl) rfl rfl (py_add rfl rfl (in64 ⟨by omega, by omega⟩)) (s_val (wn rfl) rfl rfl (py_assign rfl) ?_))
        refine s_nil ?_
        refine ⟨(k + 1, xt x, _), ⟨rfl, rfl, eqI (xt_big x (by omega)), rfl, trivial⟩, ⟨H1, by omega, ?_⟩, by dsimp only; omega⟩
        rw [mulR_next (k := k) (by omega) x b o, if_neg (fun e => c2 ((u8_inj (b := 1)).2 e))] at hI
        exact hI
      · refine W_skip ?_
        refine W_reg ?_
        refine s_val (wn rfl) rfl rfl (py_move rfl) (s_val (wn rfl) rfl rfl (py_add rfl rfl (in64 ⟨by omega, by omega⟩)) (s_val (wn rfl) rfl rfl (py_assign rfl) ?_))
        refine s_nil ?_
        refine ⟨(k + 1, xt x, _), ⟨rfl, rfl, eqI (xt_small x (by omega)), rfl, trivial⟩, ⟨H1, by omega, ?_⟩, by dsimp only; omega⟩
        rw [mulR_next (k := k) (by omega) x b o, if_neg (fun e => c2 ((u8_inj (b := 1)).2 e))] at hI
        exact hI
  · refine W_exit ?_
    refine W_seq ?_
    refine W_reg ?_
    refine s_val (wn rfl) rfl rfl (py_move rfl) (s_val (wn rfl) rfl rfl (py_conv8 Try.underlying3 Try.underlying5 rfl) (s_val (wn rfl) rfl rfl (py_assign rfl) ?_))
    refine s_nil ?_
    refine W_ret (hQ _ _ (fin1 Try.results185 rfl ?_))
    obtain rfl : k = 8 := by omega
    exact ⟨H1.ext, by rw [u8Of_nat, ← hI]; rfl⟩
theorem Try_spec_PowG {w : World} {a : UInt8}  : Ret Try.prog 190 #[.int .u8 a.toNat, .int .i64 254] w fun v w' => Ext No w w' ∧ (v = .int .u8 (invG a).toNat) := by
  refine ret_Q (vs := [.int .u8 a.toNat, .int .i64 254]) Try.func190 rfl Try.ntmps190 rfl (fun Q hQ hN => ?_)
  have H0 := Sep.start (w := w) (F := []) (by simp)
  refine W_seq ?_
  refine W_reg ?_
  refine s_val (wn rfl) rfl rfl (py_assign rfl) ?_
  refine s_nil ?_
  refine W_seq ?_
  refine W_seq ?_
  refine W_reg ?_
  refine s_val (wn rfl) rfl rfl (py_move rfl) (s_val (wn rfl) rfl rfl (py_lss rfl rfl) ?_)
  refine s_nil ?_
  refine W_ifd rfl (fun c1 => ?_) (fun c1 => ?_)
  · exact absurd c1 (by decide)
  · refine W_skip ?_
    refine W_seq ?_
    refine W_seq ?_
    refine W_reg ?_
    refine s_val (wn rfl) rfl rfl (py_move rfl) (s_val (wn rfl) rfl rfl (py_gtr rfl rfl) (s_val (wn rfl) rfl rfl (py_move rfl) ?_))
    refine s_grp 2 (j := 2) (want := true) (t := 12) rfl rfl rfl rfl (fun hg1 kk1 => s_val (wgE rfl rfl rfl hg1) rfl rfl (py_move rfl) (s_val (wgE rfl rfl rfl hg1) rfl rfl (py_neq rfl rfl) (kk1 _ _ (kx rfl (kx rfl k0)) rfl Ext.refl))) (fun w1 e1 => ?_)
    have H1 := H0.to e1
    refine s_val (wn rfl) rfl rfl (py_band rfl rfl) ?_
    refine s_nil ?_
    refine W_if rfl (fun c2 => ?_) (fun c2 => ?_)
    · refine W_reg ?_
      refine s_val (wn rfl) rfl rfl (py_move rfl) (s_val (wn rfl) rfl rfl (py_rem rfl rfl (by omega)) (s_val (wn rfl) rfl rfl (py_assign rfl) ?_))
      refine s_nil ?_
      refine W_seq ?_
      refine W_seq ?_
      refine W_reg ?_
      refine s_val (wn rfl) rfl rfl (py_move rfl) (s_val (wn rfl) rfl rfl (py_gtr rfl rfl) (s_val (wn rfl) rfl rfl (py_move rfl) ?_))
      refine s_grp 2 (j := 2) (want := true) (t := 20) rfl rfl rfl rfl (fun hg2 kk2 => s_val (wgE rfl rfl rfl hg2) rfl rfl (py_move rfl) (s_val (wgE rfl rfl rfl hg2) rfl rfl (py_eql rfl rfl) (kk2 _ _ (kx rfl (kx rfl k0)) rfl Ext.refl))) (fun w2 e2 => ?_)
      have H2 := H1.to e2
      refine s_val (wn rfl) rfl rfl (py_band rfl rfl) ?_
      refine s_nil ?_
      refine W_if rfl (fun c3 => ?_) (fun c3 => ?_)
      · refine W_seq ?_
        refine W_reg ?_
        refine s_val (wn rfl) rfl rfl (py_assign rfl) ?_
        refine s_nil ?_
        refine W_ret (hQ _ _ (fin1 Try.results190 rfl ?_))
        obtain rfl : a = 0 := u8_zero (by simp at c3; omega)
        exact ⟨H2.ext, by rw [inv_zero]; rfl⟩
      · refine W_skip ?_
        refine W_seq ?_
        refine W_reg ?_
        refine s_val (wn rfl) rfl rfl (py_assign rfl) ?_
        refine s_nil ?_
        refine W_seq ?_
        refine W_block ?_
        refine W_loop (γ := Nat × UInt8) (fun (m, o) => [(0, .int .u8 a.toNat), (1, .int .i64 m), (5, .int .u8 o.toNat)]) (fun (m, o) w' => Sep No w [] [] w' ∧ m ≤ 254 ∧ mulG o (pw a m) = invG a) (fun (m, o) => m) (254, 1) ⟨rfl, eqI (by decide), rfl, trivial⟩ ⟨H2, by omega, mul_one_l _⟩ (fun (m, o) w3 H3 => ?_)
        obtain ⟨H3, hm, hI⟩ := H3
        refine W_seq ?_
        refine W_seq ?_
        refine W_reg ?_
        refine s_val (wn rfl) rfl rfl (py_move rfl) (s_val (wn rfl) rfl rfl (py_gtr rfl rfl) ?_)
        refine s_nil ?_
        refine W_ifd rfl (fun c4 => ?_) (fun c4 => ?_)
        · refine W_skip ?_
          refine W_seq ?_
          refine W_block ?_
          refine W_reg ?_
          refine s_val (wn rfl) rfl rfl (py_move rfl) (s_val (wn rfl) rfl rfl (py_move rfl) ?_)
          refine s_call (wn rfl) rfl rfl (pc_call Try.func185 rfl Try_nm185 rfl) Try_spec_MulG (fun v1 w4 r1 => ?_)
          obtain ⟨e3, rfl⟩ := r1
          have H4 := H3.to e3
          refine s_val (wn rfl) rfl rfl (py_assign rfl) ?_
          refine s_nil ?_
          refine W_reg ?_
          refine s_val (wn rfl) rfl rfl (py_move rfl) (s_val (wn rfl) rfl rfl (py_sub rfl rfl (in64 ⟨by omega, by omega⟩)) (s_val (wn rfl) rfl rfl (py_assign rfl) ?_))
          refine s_nil ?_
          obtain ⟨m, rfl⟩ : ∃ j, m = j + 1 := ⟨m - 1, by omega⟩
          refine ⟨(m, _), ⟨rfl, eqI (by omega), rfl, trivial⟩, ⟨H4, by omega, by rw [← hI, pw_step]⟩, by dsimp only; omega⟩
        · refine W_exit ?_
          refine W_seq ?_
          refine W_reg ?_
          refine s_val (wn rfl) rfl rfl (py_move rfl) (s_val (wn rfl) rfl rfl (py_assign rfl) ?_)
          refine s_nil ?_
          refine W_ret (hQ _ _ (fin1 Try.results190 rfl ?_))
          obtain rfl : m = 0 := by omega
          exact ⟨H3.ext, by rw [← hI]; show _ = Value.int .u8 (mulG o 1).toNat; rw [mul_one_r]⟩
    · refine W_skip ?_
      refine W_seq ?_
      refine W_seq ?_
      refine W_reg ?_
      refine s_val (wn rfl) rfl rfl (py_move rfl) (s_val (wn rfl) rfl rfl (py_gtr rfl rfl) (s_val (wn rfl) rfl rfl (py_move rfl) ?_))
      refine s_grp 2 (j := 2) (want := true) (t := 20) rfl rfl rfl rfl (fun hg3 kk3 => s_val (wgE rfl rfl rfl hg3) rfl rfl (py_move rfl) (s_val (wgE rfl rfl rfl hg3) rfl rfl (py_eql rfl rfl) (kk3 _ _ (kx rfl (kx rfl k0)) rfl Ext.refl))) (fun w5 e4 => ?_)
      have H5 := H1.to e4
      refine s_val (wn rfl) rfl rfl (py_band rfl rfl) ?_
      refine s_nil ?_
      refine W_if rfl (fun c5 => ?_) (fun c5 => ?_)
      · refine W_seq ?_
        refine W_reg ?_
        refine s_val (wn rfl) rfl rfl (py_assign rfl) ?_
        refine s_nil ?_
        refine W_ret (hQ _ _ (fin1 Try.results190 rfl ?_))
        obtain rfl : a = 0 := u8_zero (by simp at c5; omega)
        exact ⟨H5.ext, by rw [inv_zero]; rfl⟩
      · refine W_skip ?_
        refine W_seq ?_
        refine W_reg ?_
        refine s_val (wn rfl) rfl rfl (py_assign rfl) ?_
        refine s_nil ?_
        refine W_seq ?_
        refine W_block ?_
        refine W_loop (γ := Nat × UInt8) (fun (m, o) => [(0, .int .u8 a.toNat), (1, .int .i64 m), (5, .int .u8 o.toNat)]) (fun (m, o) w' => Sep No w [] [] w' ∧ m ≤ 254 ∧ mulG o (pw a m) = invG a) (fun (m, o) => m) (254, 1) ⟨rfl, eqI (by decide), rfl, trivial⟩ ⟨H5, by omega, mul_one_l _⟩ (fun (m, o) w6 H6 => ?_)
        obtain ⟨H6, hm, hI⟩ := H6
        refine W_seq ?_
        refine W_seq ?_
        refine W_reg ?_
        refine s_val (wn rfl) rfl rfl (py_move rfl) (s_val (wn rfl) rfl rfl (py_gtr rfl rfl) ?_)
        refine s_nil ?_
        refine W_ifd rfl (fun c6 => ?_) (fun c6 => ?_)
        · refine W_skip ?_
          refine W_seq ?_
          refine W_block ?_
          refine W_reg ?_
          refine s_val (wn rfl) rfl rfl (py_move rfl) (s_val (wn rfl) rfl rfl (py_move rfl) ?_)
          refine s_call (wn rfl) rfl rfl (pc_call Try.func185 rfl Try_nm185 rfl) Try_spec_MulG (fun v2 w7 r2 => ?_)
          obtain ⟨e5, rfl⟩ := r2
          have H7 := H6.to e5
          refine s_val (wn rfl) rfl rfl (py_assign rfl) ?_
          refine s_nil ?_
          refine W_reg ?_
          refine s_val (wn rfl) rfl rfl (py_move rfl) (s_val (wn rfl) rfl rfl (py_sub rfl rfl (in64 ⟨by omega, by omega⟩)) (s_val (wn rfl) rfl rfl (py_assign rfl) ?_))
          refine s_nil ?_
          obtain ⟨m, rfl⟩ : ∃ j, m = j + 1 := ⟨m - 1, by omega⟩
          refine ⟨(m, _), ⟨rfl, eqI (by omega), rfl, trivial⟩, ⟨H7, by omega, by rw [← hI, pw_step]⟩, by dsimp only; omega⟩
        · refine W_exit ?_
          refine W_seq ?_
          refine W_reg ?_
          refine s_val (wn rfl) rfl rfl (py_move rfl) (s_val (wn rfl) rfl rfl (py_assign rfl) ?_)
          refine s_nil ?_
          refine W_ret (hQ _ _ (fin1 Try.results190 rfl ?_))
          obtain rfl : m = 0 := by omega
          exact ⟨H6.ext, by rw [← hI]; show _ = Value.int .u8 (mulG o 1).toNat; rw [mul_one_r]⟩
theorem Try_impl_PowG {w : World} {a : UInt8}  : Ret Try.prog 191 #[.int .u8 a.toNat, .int .i64 254] w fun v w' => Ext No w w' ∧ (v = .int .u8 (invG a).toNat) := by
  refine ret_Q (vs := [.int .u8 a.toNat, .int .i64 254]) Try.func191 rfl Try.ntmps191 rfl (fun Q hQ hN => ?_)
  have H0 := Sep.start (w := w) (F := []) (by simp)
  refine W_seq ?_
  refine W_reg ?_
  refine s_val (wn rfl) rfl rfl (py_assign rfl) ?_
  refine s_nil ?_
  refine W_seq ?_
  refine W_seq ?_
  refine W_reg ?_
  refine s_val (wn rfl) rfl rfl (py_move rfl) (s_val (wn rfl) rfl rfl (py_lss rfl rfl) ?_)
  refine s_nil ?_
  refine W_ifd rfl (fun c1 => ?_) (fun c1 => ?_)
  · exact absurd c1 (by decide)
  · refine W_skip ?_
    refine W_seq ?_
    refine W_reg ?_
    refine s_val (wn rfl) rfl rfl (py_assign rfl) ?_
    refine s_nil ?_
    refine W_seq ?_
    refine W_block ?_
    refine W_loop (γ := Nat × UInt8 × UInt8) (fun (m, x, o) => [(0, .int .u8 x.toNat), (1, .int .i64 m), (5, .int .u8 o.toNat)]) (fun (m, x, o) w' => Sep No w [] [] w' ∧ m ≤ 254 ∧ mulG o (pw x m) = invG a) (fun (m, x, o) => m) (254, a, 1) ⟨rfl, rfl, rfl, trivial⟩ ⟨H0, by omega, mul_one_l _⟩ (fun (m, x, o) w1 H1 => ?_)
    obtain ⟨H1, hm, hI⟩ := H1
    refine W_seq ?_
    refine W_seq ?_
    refine W_reg ?_
    refine s_val (wn rfl) rfl rfl (py_move rfl) (s_val (wn rfl) rfl rfl (py_gtr rfl rfl) ?_)
    refine s_nil ?_
    refine W_ifd rfl (fun c2 => ?_) (fun c2 => ?_)
    · refine W_skip ?_
      refine W_seq ?_
      refine W_block ?_
      refine W_seq ?_
      refine W_seq ?_
      refine W_reg ?_
      refine s_val (wn rfl) rfl rfl (py_move rfl) (s_val (wn rfl) rfl rfl (py_andI1 (m := m) (by omega) rfl rfl) (s_val (wn rfl) rfl rfl (py_eql rfl rfl) ?_))
      refine s_nil ?_
      refine W_ifd rfl (fun c3 => ?_) (fun c3 => ?_)
      · refine W_reg ?_
        refine s_val (wn rfl) rfl rfl (py_move rfl) (s_val (wn rfl) rfl rfl (py_move rfl) ?_)
        refine s_call (wn rfl) rfl rfl (pc_call Try.func153 rfl Try_nm153 rfl) Try_impl_MulG (fun v1 w2 r1 => ?_)
        obtain ⟨e1, rfl⟩ := r1
        have H2 := H1.to e1
        refine s_val (wn rfl) rfl rfl (py_assign rfl) ?_
        refine s_nil ?_
        refine W_reg ?_
        refine s_val (wn rfl) rfl rfl (py_move rfl) (s_val (wn rfl) rfl rfl (py_move rfl) ?_)
        refine s_call (wn rfl) rfl rfl (pc_call Try.func153 rfl Try_nm153 rfl) Try_impl_MulG (fun v2 w3 r2 => ?_)
        obtain ⟨e2, rfl⟩ := r2
        have H3 := H2.to e2
        refine s_val (wn rfl) rfl rfl (py_assign rfl) ?_
        refine s_nil ?_
        refine W_reg ?_
        refine s_val (wn rfl) rfl rfl (py_move rfl) (s_val (wn rfl) rfl rfl (py_shrI1 (m := m) rfl rfl) (s_val (wn rfl) rfl rfl (py_assign rfl) ?_))
        refine s_nil ?_
        refine ⟨(m / 2, _, _), ⟨rfl, rfl, rfl, trivial⟩, ⟨H3, by omega, by rw [← hI]; exact (pw_odd o x (m := m) (by omega)).symm⟩, by dsimp only; omega⟩
      · refine W_skip ?_
        refine W_reg ?_
        refine s_val (wn rfl) rfl rfl (py_move rfl) (s_val (wn rfl) rfl rfl (py_move rfl) ?_)
        refine s_call (wn rfl) rfl rfl (pc_call Try.func153 rfl Try_nm153 rfl) Try_impl_MulG (fun v3 w4 r3 => ?_)
        obtain ⟨e3, rfl⟩ := r3
        have H4 := H1.to e3
        refine s_val (wn rfl) rfl rfl (py_assign rfl) ?_
        refine s_nil ?_
        refine W_reg ?_
        refine s_val (wn rfl) rfl rfl (py_move rfl) (s_val (wn rfl) rfl rfl (py_shrI1 (m := m) rfl rfl) (s_val (wn rfl) rfl rfl (py_assign rfl) ?_))
        refine s_nil ?_
        refine ⟨(m / 2, _, _), ⟨rfl, rfl, rfl, trivial⟩, ⟨H4, by omega, by rw [← hI]; exact (pw_even o x (m := m) (by omega)).symm⟩, by dsimp only; omega⟩
    · refine W_exit ?_
      refine W_seq ?_
      refine W_reg ?_
      refine s_val (wn rfl) rfl rfl (py_move rfl) (s_val (wn rfl) rfl rfl (py_assign rfl) ?_)
      refine s_nil ?_
      refine W_ret (hQ _ _ (fin1 Try.results191 rfl ?_))
      obtain rfl : m = 0 := by omega
      exact ⟨H1.ext, by rw [← hI]; show _ = Value.int .u8 (mulG o 1).toNat; rw [mul_one_r]⟩
theorem Try_impl_div {w : World} {a : UInt8} {b : UInt8}  : Ret Try.prog 187 #[.int .u8 a.toNat, .int .u8 b.toNat] w fun v w' => Ext No w w' ∧ (v = .int .u8 (mulG a (invG b)).toNat) := by
  refine ret_Q (vs := [.int .u8 a.toNat, .int .u8 b.toNat]) Try.func187 rfl Try.ntmps187 rfl (fun Q hQ hN => ?_)
  have H0 := Sep.start (w := w) (F := []) (by simp)
  refine W_seq ?_
  refine W_reg ?_
  refine s_val (wn rfl) rfl rfl (py_assign rfl) ?_
  refine s_nil ?_
  refine W_seq ?_
  refine W_reg ?_
  refine s_val (wn rfl) rfl rfl (py_move rfl) (s_val (wn rfl) rfl rfl (py_move rfl) ?_)
  refine s_call (wn rfl) rfl rfl (pc_call Try.func191 rfl Try_nm191 rfl) Try_impl_PowG (fun v1 w1 r1 => ?_)
  obtain ⟨e1, rfl⟩ := r1
  have H1 := H0.to e1
  refine s_call (wn rfl) rfl rfl (pc_call Try.func153 rfl Try_nm153 rfl) Try_impl_MulG (fun v2 w2 r2 => ?_)
  obtain ⟨e2, rfl⟩ := r2
  have H2 := H1.to e2
  refine s_val (wn rfl) rfl rfl (py_assign rfl) ?_
  refine s_nil ?_
  refine W_ret (hQ _ _ (fin1 Try.results187 rfl ?_))
  exact ⟨H2.ext, rfl⟩
theorem Try_spec_l1Inv {w : World} {a : UInt8}  : Ret Try.prog 186 #[.int .u8 a.toNat] w fun v w' => Ext No w w' ∧ (v = .int .u8 (invG a).toNat) := by
  refine ret_Q (vs := [.int .u8 a.toNat]) Try.func186 rfl Try.ntmps186 rfl (fun Q hQ hN => ?_)
  have H0 := Sep.start (w := w) (F := []) (by simp)
  refine W_seq ?_
  refine W_reg ?_
  refine s_val (wn rfl) rfl rfl (py_assign rfl) ?_
  refine s_nil ?_
  refine W_seq ?_
  refine W_reg ?_
  refine s_val (wn rfl) rfl rfl (py_move rfl) ?_
  refine s_call (wn rfl) rfl rfl (pc_call Try.func190 rfl Try_nm190 rfl) Try_spec_PowG (fun v1 w1 r1 => ?_)
  obtain ⟨e1, rfl⟩ := r1
  have H1 := H0.to e1
  refine s_val (wn rfl) rfl rfl (py_assign rfl) ?_
  refine s_nil ?_
  refine W_ret (hQ _ _ (fin1 Try.results186 rfl ?_))
  exact ⟨H1.ext, rfl⟩
theorem Try_impl_cauchy {w : World} {j : Int} {i : Int} (hj : 0 ≤ j ∧ j ≤ 1000) : Ret Try.prog 177 #[.int .i64 j, .int .i64 i] w fun v w' => Ext No w w' ∧ (v = .int .u8 (cauchy j i).toNat) := by
  refine ret_Q (vs := [.int .i64 j, .int .i64 i]) Try.func177 rfl Try.ntmps177 rfl (fun Q hQ hN => ?_)
  have H0 := Sep.start (w := w) (F := []) (by simp)
  refine W_seq ?_
  refine W_reg ?_
  refine s_val (wn rfl) rfl rfl (py_assign rfl) ?_
  refine s_nil ?_
  refine W_seq ?_
  refine W_reg ?_
  refine s_val (wn rfl) rfl rfl (py_move rfl) (s_val (wn rfl) rfl rfl (py_add rfl rfl (in64 ⟨by omega, by omega⟩)) (s_val (wn rfl) rfl rfl (py_conv8 Try.underlying2 Try.underlying5 rfl) (s_val (wn rfl) rfl rfl (py_move rfl) (s_val (wn rfl) rfl rfl (py_conv8 Try.underlying2 Try.underlying5 rfl) (s_val (wn rfl) rfl rfl (py_xor8 rfl rfl) ?_)))))
  refine s_call (wn rfl) rfl rfl (pc_call Try.func187 rfl Try_nm187 rfl) (Try_impl_div (a := 1)) (fun v1 w1 r1 => ?_)
  obtain ⟨e1, rfl⟩ := r1
  have H1 := H0.to e1
  refine s_val (wn rfl) rfl rfl (py_assign rfl) ?_
  refine s_nil ?_
  refine W_ret (hQ _ _ (fin1 Try.results177 rfl ?_))
  exact ⟨H1.ext, by rw [mul_one_l, cauchy]⟩
theorem Try_spec_l1Cauchy {w : World} {j : Int} {i : Int} (hj : 0 ≤ j ∧ j ≤ 1000) : Ret Try.prog 174 #[.int .i64 j, .int .i64 i] w fun v w' => Ext No w w' ∧ (v = .int .u8 (cauchy j i).toNat) := by
  refine ret_Q (vs := [.int .i64 j, .int .i64 i]) Try.func174 rfl Try.ntmps174 rfl (fun Q hQ hN => ?_)
  have H0 := Sep.start (w := w) (F := []) (by simp)
  refine W_seq ?_
  refine W_reg ?_
  refine s_val (wn rfl) rfl rfl (py_assign rfl) ?_
  refine s_nil ?_
  refine W_seq ?_
  refine W_reg ?_
  refine s_val (wn rfl) rfl rfl (py_move rfl) (s_val (wn rfl) rfl rfl (py_add rfl rfl (in64 ⟨by omega, by omega⟩)) (s_val (wn rfl) rfl rfl (py_conv8 Try.underlying2 Try.underlying5 rfl) (s_val (wn rfl) rfl rfl (py_move rfl) (s_val (wn rfl) rfl rfl (py_conv8 Try.underlying2 Try.underlying5 rfl) (s_val (wn rfl) rfl rfl (py_xor8 rfl rfl) ?_)))))
  refine s_call (wn rfl) rfl rfl (pc_call Try.func186 rfl Try_nm186 rfl) Try_spec_l1Inv (fun v1 w1 r1 => ?_)
  obtain ⟨e1, rfl⟩ := r1
  have H1 := H0.to e1
  refine s_val (wn rfl) rfl rfl (py_assign rfl) ?_
  refine s_nil ?_
  refine W_ret (hQ _ _ (fin1 Try.results174 rfl ?_))
  exact ⟨H1.ext, by rw [cauchy]⟩
end Go.Wk
