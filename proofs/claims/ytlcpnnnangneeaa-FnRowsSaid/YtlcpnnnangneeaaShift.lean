/-
  The functions walked, each once. (Printed by a program of mine.)
-/
import Derived.Test.YtlcpnnnangneeaaFits
import Derived.Test.YtlcpnnnangneeaaWkX
import Derived.Test.YtlcpnnnangneeaaWkT
namespace Go.Wk
open Go.Proofs Rp
set_option maxRecDepth 10000
theorem Try_impl_ShiftRow {w : World} {x : Int} {y : Int} {xs : List (List UInt8)} {xsA : Option Addr} {xsC : Nat} {ys : List UInt8} {ysA : Option Addr} {ysC : Nat} (xsS : Sees w [.slice xsA xs.length xsC] xs) (ysS : Sees w [.slice ysA ys.length ysC] ys) : Ret Try.prog 41 #[.int .i64 x, .int .i64 y, .slice xsA xs.length xsC, .slice ysA ys.length ysC] w fun v w' => Ext No w w' ∧ (∃ A1 C1, v = (shiftRow x y xs ys).val A1 C1 ∧ Res w w' [.int .i64 (shiftRow x y xs ys).Code, .slice A1 (shiftRow x y xs ys).Blocks.length C1] (shiftRow x y xs ys)) := by
  have xsL := sees_len xsS
  unfold maxLen at xsL
  obtain ⟨xsF, xsO⟩ := xsS
  have ysL := sees_len ysS
  unfold maxLen at ysL
  obtain ⟨ysF, ysO⟩ := ysS
  refine ret_Q (vs := [.int .i64 x, .int .i64 y, .slice xsA xs.length xsC, .slice ysA ys.length ysC]) Try.func41 rfl Try.ntmps41 rfl (fun Q hQ hN => ?_)
  have H0 := Sep.start (w := w) (F := [seen false [.slice xsA xs.length xsC] xs xsF, seen false [.slice ysA ys.length ysC] ys ysF]) (all_cons xsO (all_cons ysO (by simp)))
  refine W_seq ?_
  refine W_reg ?_
  refine s_var (wn rfl) rfl Try.zeroValue45 H0 (fun b1 w1 e1 g1 H1 => ?_)
  refine s_nil ?_
  refine W_seq ?_
  refine W_reg ?_
  refine s_val (wn rfl) rfl rfl (py_move rfl) (s_val (wn rfl) rfl rfl (py_move rfl) (s_val (wn rfl) rfl rfl (py_buildS Try_pl105 rfl rfl) ?_))
  refine s_var (wn rfl) rfl Try.zeroValue105 H1 (fun b2 w2 e2 g2 H2 => ?_)
  refine s_stoS (wn rfl) Try.sizeOf105 rfl rfl rfl rfl H2 1 rfl rfl (fun w3 e3 H3 => ?_)
  dsimp only [List.nil_append, List.cons_append, List.set_cons_zero, List.set_cons_succ, layL] at H3
  refine s_nil ?_
  refine W_seq ?_
  refine W_block ?_
  refine W_seq ?_
  refine W_reg ?_
  refine s_val (wn rfl) rfl rfl (py_loadS Try.underlying105 rfl Try.sizeOf105 rfl rfl (At.whole (H3.box 1 rfl))) ?_
  refine s_call (wn rfl) rfl rfl (pc_call Try.func81 rfl Try_nm81 rfl) Try_impl_rowCode_ok (fun v1 w4 r1 => ?_)
  obtain ⟨e4, rfl⟩ := r1
  have H4 := H3.to e4
  refine s_val (wn rfl) rfl rfl (py_not rfl) (s_val (wn rfl) rfl rfl (py_assign rfl) ?_)
  refine s_nil ?_
  refine W_if rfl (fun c1 => ?_) (fun c1 => ?_)
  · refine W_seq ?_
    refine W_reg ?_
    refine s_val (wn rfl) rfl rfl (py_buildS Try_pl45 rfl rfl) ?_
    refine s_stoS (wn rfl) Try.sizeOf45 rfl rfl rfl rfl H4 0 rfl rfl (fun w5 e5 H5 => ?_)
    dsimp only [List.nil_append, List.cons_append, List.set_cons_zero, List.set_cons_succ, layL] at H5
    refine s_nil ?_
    refine W_ret (hQ _ _ (finC Try.results41 rfl (run_loadVarS Try.underlying45 rfl Try.sizeOf45 rfl (At.whole (H5.box 0 rfl))) ?_))
    rw [shiftRow_range (not_true c1)]
    exact ⟨H5.ext, none, 0, rfl, blocks_nil (by unfold I64ok; dsimp only; omega)⟩
  · refine W_seq ?_
    have bd0 := rOK_bd (not_false c1)
    refine W_reg ?_
    refine s_val (wn rfl) rfl rfl (py_loadS Try.underlying105 rfl Try.sizeOf105 rfl rfl (At.whole (H4.box 1 rfl))) (s_val (wn rfl) rfl rfl (py_move rfl) ?_)
    refine s_call (wn rfl) rfl rfl (pc_call Try.func93 rfl Try_nm93 rfl) (Try_impl_rowCode_whole (by omega) (H4.sees 0 rfl)) (fun v2 w6 r2 => ?_)
    obtain ⟨e6, rfl⟩ := r2
    have H6 := H4.to e6
    refine s_val (wn rfl) rfl rfl (py_not rfl) (s_val (wn rfl) rfl rfl (py_move rfl) ?_)
    refine s_grp 5 (j := 4) (want := false) (t := 31) rfl rfl rfl rfl (fun hg1 kk1 => s_val (wgE rfl rfl rfl hg1) rfl rfl (py_move rfl) (s_val (wgE rfl rfl rfl hg1) rfl rfl (py_len Try.underlying34 rfl) (s_val (wgE rfl rfl rfl hg1) rfl rfl (py_loadS Try.underlying105 rfl Try.sizeOf105 rfl rfl (At.whole (H6.box 1 rfl))) (s_callv (wgE rfl rfl rfl hg1) rfl rfl (pc_call Try.func82 rfl Try_nm82 rfl) (Try_impl_rowCode_length (by omega)) (fun w8 e8 => s_val (wgE rfl rfl rfl hg1) rfl rfl (py_neq rfl rfl) (kk1 _ _ (kx rfl (kx rfl (kx rfl (kx rfl (kx rfl k0))))) rfl (Ext.refl.trans e8))))))) (fun w7 e7 => ?_)
    have H7 := H6.to e7
    refine s_val (wn rfl) rfl rfl (py_bor rfl rfl) (s_val (wn rfl) rfl rfl (py_assign rfl) ?_)
    refine s_nil ?_
    refine W_if rfl (fun c2 => ?_) (fun c2 => ?_)
    · refine W_seq ?_
      refine W_reg ?_
      refine s_val (wn rfl) rfl rfl (py_buildS Try_pl45 rfl rfl) ?_
      refine s_stoS (wn rfl) Try.sizeOf45 rfl rfl rfl rfl H7 0 rfl rfl (fun w9 e9 H8 => ?_)
      dsimp only [List.nil_append, List.cons_append, List.set_cons_zero, List.set_cons_succ, layL] at H8
      refine s_nil ?_
      refine W_ret (hQ _ _ (finC Try.results41 rfl (run_loadVarS Try.underlying45 rfl Try.sizeOf45 rfl (At.whole (H8.box 0 rfl))) ?_))
      rw [shiftRow_form (not_false c1) c2]
      exact ⟨H8.ext, none, 0, rfl, blocks_nil (by unfold I64ok; dsimp only; omega)⟩
    · refine W_skip ?_
      refine W_seq ?_
      obtain ⟨wl, yl, hy⟩ := shiftRow_full (not_false c1) c2
      obtain ⟨wl1, w4⟩ := wholeL_len wl
      have bd := rOK_bd (not_false c1)
      have ml := encG_len (n := x.toNat) (m := x.toNat + y.toNat) (xs := ys)
      refine W_reg ?_
      refine s_val (wn rfl) rfl rfl (py_loadS Try.underlying105 rfl Try.sizeOf105 rfl rfl (At.whole (H7.box 1 rfl))) (s_val (wn rfl) rfl rfl (py_move rfl) ?_)
      refine s_call (wn rfl) rfl rfl (pc_call Try.func83 rfl Try_nm83 rfl) (Try_impl_rowCode_encode (n := x.toNat) (s := y.toNat) (by omega) (by omega) (by omega) (by omega) (H7.sees 1 rfl)) (fun v3 w10 r3 => ?_)
      obtain ⟨e10, r3⟩ := r3
      obtain ⟨fp1, H9⟩ := H7.res e10 r3
      obtain ⟨a1, k1, q1⟩ := own_slice (H9.mine 2 rfl)
      cases q1
      refine s_val (wn rfl) rfl rfl (py_assign rfl) ?_
      refine s_nil ?_
      refine W_seq ?_
      refine W_seq ?_
      refine W_reg ?_
      refine s_val (wn rfl) rfl rfl (py_move rfl) (s_val (wn rfl) rfl rfl (py_len Try.underlying43 rfl) (s_val (wn rfl) rfl rfl (py_move rfl) ?_))
      refine s_nil ?_
      refine W_block ?_
      refine W_loop (γ := Nat × List Nat) (fun (k, f) => [(8, .pointer (some ⟨b1, 0, none⟩)), (10, .slice a1 (encG x.toNat (x.toNat + y.toNat) ys).length k1), (37, .slice xsA xs.length xsC), (38, .int .i64 xs.length), (39, .int .i64 k)]) (fun (k, f) w' => Sep No w [box b1 (.cells #[.int .i64 0, .slice none 0 0] 45), box b2 (.cells #[.int .i64 x, .int .i64 y] 105), mine [.slice a1 (encG x.toNat (x.toNat + y.toNat) ys).length k1] (shiftIn (encG x.toNat (x.toNat + y.toNat) ys) xs k) f] [seen false [.slice xsA xs.length xsC] xs xsF, seen false [.slice ysA ys.length ysC] ys ysF] w' ∧ k ≤ xs.length) (fun (k, f) => xs.length - k) (0, _) ⟨rfl, rfl, rfl, rfl, rfl, trivial⟩ ⟨by rw [shiftIn_zero]; exact H9, by omega⟩ (fun (k, f) w11 H10 => ?_)
      obtain ⟨H10, hk⟩ := H10
      refine W_seq ?_
      refine W_reg ?_
      refine s_val (wn rfl) rfl rfl (py_lss rfl rfl) ?_
      refine s_nil ?_
      refine W_seq ?_
      refine W_ifd rfl (fun c3 => ?_) (fun c3 => ?_)
      · refine W_skip ?_
        refine W_seq ?_
        refine W_block ?_
        refine W_seq ?_
        obtain ⟨eb1, eo1, ea1, ek1, ef1, ee1, ec1, eO1, eH1⟩ := elem_sl (H10.seen 0 rfl) k (by omega)
        have eP1 := H10.look1 0 rfl eO1 eH1
        refine W_reg ?_
        refine s_val (wn rfl) rfl rfl (py_move rfl) (s_val (wn rfl) rfl rfl (py_elz Try.underlying43 Try.sizeOf34 rfl rfl ee1 k (by omega) (by omega)) (s_val (wn rfl) rfl rfl (py_load Try.underlying34 rfl rfl ec1) (s_val (wn rfl) rfl rfl (py_assign rfl) (s_val (wn rfl) rfl rfl (py_assign rfl) ?_))))
        refine s_nil ?_
        have hle : ((shiftIn (encG x.toNat (x.toNat + y.toNat) ys) xs k).getD k []).length = (xs.getD k []).length := by rw [shiftIn_get (by omega), encG_lens (by omega) k (by omega), w4 k (by omega)]
        obtain ⟨eb2, eo2, ea2, ek2, ef2, ee2, ec2, eO2, eN1, eS1, eB1⟩ := eP1.mutSl 2 rfl k (by rw [shiftIn_len (by omega)]; omega)
        refine W_reg ?_
        refine s_val (wn rfl) rfl rfl (py_move rfl) (s_val (wn rfl) rfl rfl (py_move rfl) (s_val (wn rfl) rfl rfl (py_elz Try.underlying43 Try.sizeOf34 rfl rfl ee2 k (by omega) (by omega)) (s_val (wn rfl) rfl rfl (py_load Try.underlying34 rfl rfl ec2) (s_val (wn rfl) rfl rfl (py_move rfl) ?_))))
        refine s_call (wn rfl) rfl rfl (pc_call Try.func94 rfl Try_nm94 rfl) (Try_impl_put eO2 eN1 (own_weak (eP1.seen 2 rfl)) (fun b hb hm => eP1.off 2 rfl 2 rfl hb (eS1 b hm)) (by first | assumption | omega) (c := 1)) (fun v4 w12 r4 => ?_)
        obtain ⟨fp2, H11⟩ := eB1 _ _ r4
        refine s_nil ?_
        refine W_reg ?_
        refine s_val (wn rfl) rfl rfl (py_add rfl rfl (in64 ⟨by omega, by omega⟩)) (s_val (wn rfl) rfl rfl (py_move rfl) ?_)
        refine s_nil ?_
        have hz := H11.ftake 2
        rw [scaleG_one, shiftIn_get (by omega), addG_comm, shiftIn_step (by omega) rfl] at hz
        refine ⟨(k + 1, _), ⟨rfl, rfl, rfl, rfl, rfl, trivial⟩, ⟨hz, by omega⟩, by dsimp only; omega⟩
      · refine W_exit ?_
        refine W_seq ?_
        refine W_reg ?_
        refine s_val (wn rfl) rfl rfl (py_move rfl) (s_val (wn rfl) rfl rfl (py_buildS Try_pl45 rfl rfl) ?_)
        refine s_stoS (wn rfl) Try.sizeOf45 rfl rfl rfl rfl H10 0 rfl rfl (fun w13 e12 H12 => ?_)
        dsimp only [List.nil_append, List.cons_append, List.set_cons_zero, List.set_cons_succ, layL] at H12
        refine s_nil ?_
        refine W_ret (hQ _ _ (finC Try.results41 rfl (run_loadVarS Try.underlying45 rfl Try.sizeOf45 rfl (At.whole (H12.box 0 rfl))) ?_))
        rw [hy]
        obtain rfl : k = xs.length := by omega
        have hz := H12.sub (.cons _ (.cons _ (.cons_cons _ List.Sublist.slnil)))
        rw [shiftIn_all (by omega)] at hz
        obtain ⟨hn, hr⟩ := blocks_out (k := 0) hz (by unfold I64ok; omega)
        exact ⟨H12.ext, a1, k1, (by simp only [BlocksResult.val, ← hn]; rfl), hr⟩
theorem Try_spec_ShiftRow {w : World} {x : Int} {y : Int} {xs : List (List UInt8)} {xsA : Option Addr} {xsC : Nat} {ys : List UInt8} {ysA : Option Addr} {ysC : Nat} (xsS : Sees w [.slice xsA xs.length xsC] xs) (ysS : Sees w [.slice ysA ys.length ysC] ys) : Ret Try.prog 49 #[.int .i64 x, .int .i64 y, .slice xsA xs.length xsC, .slice ysA ys.length ysC] w fun v w' => Ext No w w' ∧ (∃ A1 C1, v = (shiftRow x y xs ys).val A1 C1 ∧ Res w w' [.int .i64 (shiftRow x y xs ys).Code, .slice A1 (shiftRow x y xs ys).Blocks.length C1] (shiftRow x y xs ys)) := by
  have xsL := sees_len xsS
  unfold maxLen at xsL
  obtain ⟨xsF, xsO⟩ := xsS
  have ysL := sees_len ysS
  unfold maxLen at ysL
  obtain ⟨ysF, ysO⟩ := ysS
  refine ret_Q (vs := [.int .i64 x, .int .i64 y, .slice xsA xs.length xsC, .slice ysA ys.length ysC]) Try.func49 rfl Try.ntmps49 rfl (fun Q hQ hN => ?_)
  have H0 := Sep.start (w := w) (F := [seen false [.slice xsA xs.length xsC] xs xsF, seen false [.slice ysA ys.length ysC] ys ysF]) (all_cons xsO (all_cons ysO (by simp)))
  refine W_seq ?_
  refine W_reg ?_
  refine s_var (wn rfl) rfl Try.zeroValue45 H0 (fun b1 w1 e1 g1 H1 => ?_)
  refine s_nil ?_
  refine W_seq ?_
  refine W_seq ?_
  refine W_reg ?_
  refine s_val (wn rfl) rfl rfl (py_move rfl) (s_val (wn rfl) rfl rfl (py_move rfl) ?_)
  refine s_call (wn rfl) rfl rfl (pc_call Try.func79 rfl Try_nm79 rfl) Try_spec_l2Shape (fun v1 w2 r1 => ?_)
  obtain ⟨e2, rfl⟩ := r1
  have H2 := H1.to e2
  refine s_val (wn rfl) rfl rfl (py_not rfl) ?_
  refine s_nil ?_
  refine W_if rfl (fun c1 => ?_) (fun c1 => ?_)
  · refine W_seq ?_
    refine W_reg ?_
    refine s_val (wn rfl) rfl rfl (py_buildS Try_pl45 rfl rfl) ?_
    refine s_stoS (wn rfl) Try.sizeOf45 rfl rfl rfl rfl H2 0 rfl rfl (fun w3 e3 H3 => ?_)
    dsimp only [List.nil_append, List.cons_append, List.set_cons_zero, List.set_cons_succ, layL] at H3
    refine s_nil ?_
    refine W_ret (hQ _ _ (finC Try.results49 rfl (run_loadVarS Try.underlying45 rfl Try.sizeOf45 rfl (At.whole (H3.box 0 rfl))) ?_))
    rw [shiftRow_range (not_true c1)]
    exact ⟨H3.ext, none, 0, rfl, blocks_nil (by unfold I64ok; dsimp only; omega)⟩
  · refine W_skip ?_
    refine W_seq ?_
    refine W_seq ?_
    have bd0 := rOK_bd (not_false c1)
    refine W_reg ?_
    refine s_val (wn rfl) rfl rfl (py_move rfl) (s_val (wn rfl) rfl rfl (py_move rfl) (s_val (wn rfl) rfl rfl (py_move rfl) (s_val (wn rfl) rfl rfl (py_add rfl rfl (in64 ⟨by omega, by omega⟩)) ?_)))
    refine s_call (wn rfl) rfl rfl (pc_call Try.func96 rfl Try_nm96 rfl) (Try_spec_l2Whole (H2.sees 0 rfl)) (fun v2 w4 r2 => ?_)
    obtain ⟨e4, rfl⟩ := r2
    have H4 := H2.to e4
    refine s_val (wn rfl) rfl rfl (py_not rfl) (s_val (wn rfl) rfl rfl (py_move rfl) ?_)
    refine s_grp 5 (j := 6) (want := false) (t := 28) rfl rfl rfl rfl (fun hg1 kk1 => s_val (wgE rfl rfl rfl hg1) rfl rfl (py_move rfl) (s_val (wgE rfl rfl rfl hg1) rfl rfl (py_len Try.underlying34 rfl) (s_val (wgE rfl rfl rfl hg1) rfl rfl (py_move rfl) (s_val (wgE rfl rfl rfl hg1) rfl rfl (py_mul rfl rfl (in64 ⟨by omega, by omega⟩)) (s_val (wgE rfl rfl rfl hg1) rfl rfl (py_neq rfl rfl) (kk1 _ _ (kx rfl (kx rfl (kx rfl (kx rfl (kx rfl k0))))) rfl Ext.refl)))))) (fun w5 e5 => ?_)
    have H5 := H4.to e5
    refine s_val (wn rfl) rfl rfl (py_bor rfl rfl) ?_
    refine s_nil ?_
    refine W_if rfl (fun c2 => ?_) (fun c2 => ?_)
    · refine W_seq ?_
      refine W_reg ?_
      refine s_val (wn rfl) rfl rfl (py_buildS Try_pl45 rfl rfl) ?_
      refine s_stoS (wn rfl) Try.sizeOf45 rfl rfl rfl rfl H5 0 rfl rfl (fun w6 e6 H6 => ?_)
      dsimp only [List.nil_append, List.cons_append, List.set_cons_zero, List.set_cons_succ, layL] at H6
      refine s_nil ?_
      refine W_ret (hQ _ _ (finC Try.results49 rfl (run_loadVarS Try.underlying45 rfl Try.sizeOf45 rfl (At.whole (H6.box 0 rfl))) ?_))
      rw [shiftRow_form (not_false c1) c2]
      exact ⟨H6.ext, none, 0, rfl, blocks_nil (by unfold I64ok; dsimp only; omega)⟩
    · refine W_skip ?_
      refine W_seq ?_
      obtain ⟨wl, yl, hy⟩ := shiftRow_full (not_false c1) c2
      obtain ⟨wl1, w4⟩ := wholeL_len wl
      have bd := rOK_bd (not_false c1)
      have ml := encG_len (n := x.toNat) (m := x.toNat + y.toNat) (xs := ys)
      refine W_reg ?_
      refine s_val (wn rfl) rfl rfl (py_move rfl) (s_val (wn rfl) rfl rfl (py_move rfl) (s_val (wn rfl) rfl rfl (py_move rfl) ?_))
      refine s_call (wn rfl) rfl rfl (pc_call Try.func80 rfl Try_nm80 rfl) (Try_spec_l2Encode (n := x.toNat) (s := y.toNat) (by omega) (by omega) (by omega) (by omega) (H5.sees 1 rfl)) (fun v3 w7 r3 => ?_)
      obtain ⟨e7, r3⟩ := r3
      obtain ⟨fp1, H7, fr1⟩ := H5.resS e7 r3
      obtain ⟨a1, k1, q1⟩ := own_slice (H7.seen 2 rfl)
      cases q1
      refine s_val (wn rfl) rfl rfl (py_assign rfl) ?_
      refine s_nil ?_
      refine W_seq ?_
      refine W_reg ?_
      refine s_val (wn rfl) rfl rfl (py_buildS Try_pl45 rfl rfl) ?_
      refine s_var (wn rfl) rfl Try.zeroValue45 H7 (fun b2 w8 e8 g2 H8 => ?_)
      refine s_stoS (wn rfl) Try.sizeOf45 rfl rfl rfl rfl H8 1 rfl rfl (fun w9 e9 H9 => ?_)
      dsimp only [List.nil_append, List.cons_append, List.set_cons_zero, List.set_cons_succ, layL] at H9
      refine s_nil ?_
      refine W_seq ?_
      refine W_seq ?_
      refine W_reg ?_
      refine s_val (wn rfl) rfl rfl (py_assign rfl) ?_
      refine s_nil ?_
      refine W_block ?_
      refine W_loop (γ := Nat × Value × List Nat) (fun (k, vo, f) => [(2, .slice xsA xs.length xsC), (8, .pointer (some ⟨b1, 0, none⟩)), (9, .slice a1 (encG x.toNat (x.toNat + y.toNat) ys).length k1), (10, .pointer (some ⟨b2, 0, none⟩)), (11, .int .i64 k)]) (fun (k, vo, f) w' => Sep No w [box b1 (.cells #[.int .i64 0, .slice none 0 0] 45), box b2 (.cells #[.int .i64 0, vo] 45), mine [vo] (shiftTo (encG x.toNat (x.toNat + y.toNat) ys) xs k) f] [seen false [.slice xsA xs.length xsC] xs xsF, seen false [.slice ysA ys.length ysC] ys ysF, seen false [.slice a1 (encG x.toNat (x.toNat + y.toNat) ys).length k1] (encG x.toNat (x.toNat + y.toNat) ys) fp1] w' ∧ k ≤ xs.length) (fun (k, vo, f) => xs.length - k) (0, .slice none 0 0, []) ⟨rfl, rfl, rfl, rfl, rfl, trivial⟩ ⟨H9.nilD (α := List UInt8), by omega⟩ (fun (k, vo, f) w10 H10 => ?_)
      obtain ⟨H10, hk⟩ := H10
      refine W_seq ?_
      refine W_seq ?_
      refine W_reg ?_
      refine s_val (wn rfl) rfl rfl (py_move rfl) (s_val (wn rfl) rfl rfl (py_move rfl) (s_val (wn rfl) rfl rfl (py_len Try.underlying43 rfl) (s_val (wn rfl) rfl rfl (py_lss rfl rfl) ?_)))
      refine s_nil ?_
      refine W_ifd rfl (fun c3 => ?_) (fun c3 => ?_)
      · refine W_skip ?_
        refine W_seq ?_
        refine W_block ?_
        have l4 := encG_lens (n := x.toNat) (m := x.toNat + y.toNat) (xs := ys) (by omega) k (by omega)
        have l5 := w4 k (by omega)
        have sl := shiftTo_len (ms := (encG x.toNat (x.toNat + y.toNat) ys)) (xs := xs) (k := k)
        obtain ⟨eb1, eo1, ea1, ek1, ef1, ee1, ec1, eO1, eH1, em1⟩ := elem_slm (H10.seen 0 rfl) k (by omega)
        have eP1 := H10.look1 0 rfl eO1 eH1
        obtain ⟨eb2, eo2, ea2, ek2, ef2, ee2, ec2, eO2, eH2, em2⟩ := elem_slm (eP1.seen 2 rfl) k (by omega)
        have eP2 := eP1.look1 2 rfl eO2 eH2
        refine W_drw (S := Ext (· ∈ f) _) [(0, true), (1, true), (2, true), (3, true), (4, true), (5, true), (6, true), (7, true), (8, true), (9, true), (10, false), (11, false), (12, false), (13, true), (14, false)] (by kernel_rfl) (by kernel_rfl) (by kernel_rfl) rfl (fun _ => Ext.refl.drawn _) (fun q2 => ?_)
        have H11 := eP2.drawn q2
        refine d_val rfl (wn rfl) rfl rfl (fun zw hx => py_field Try.underlying45 rfl Try.sizeOf43 rfl rfl) (d_val rfl (wn rfl) rfl rfl (fun zw hx => py_load Try.underlying43 rfl rfl (cell_atL (hx.heapM (H11.boff 1 rfl 2 rfl rfl) (H11.box 1 rfl)) rfl)) (d_val rfl (wn rfl) rfl rfl (fun zw hx => py_move rfl) (d_val rfl (wn rfl) rfl rfl (fun zw hx => py_move rfl) (d_val rfl (wn rfl) rfl rfl (fun zw hx => py_elz Try.underlying43 Try.sizeOf34 rfl rfl ee1 k (by omega) (by omega)) (d_val rfl (wn rfl) rfl rfl (fun zw hx => py_load Try.underlying34 rfl rfl (hx.cellM (H11.off 0 rfl 2 rfl em1) ec1)) (d_val rfl (wn rfl) rfl rfl (fun zw hx => py_move rfl) (d_val rfl (wn rfl) rfl rfl (fun zw hx => py_move rfl) (d_val rfl (wn rfl) rfl rfl (fun zw hx => py_elz Try.underlying43 Try.sizeOf34 rfl rfl ee2 k (by omega) (by omega)) (d_val rfl (wn rfl) rfl rfl (fun zw hx => py_load Try.underlying34 rfl rfl (hx.cellM (H11.off 2 rfl 2 rfl em2) ec2)) ?_)))))))))
        refine d_call rfl (wn rfl) rfl rfl (pc_call Try.func102 rfl Try_nm102 rfl) (Try_spec_l1Add (H11.sees 3 rfl) (H11.sees 4 rfl) (by omega)) (fun hS _ _ r _ => hS.trans r.1.no) (fun v4 w11 r4 => ?_)
        obtain ⟨e10, r4⟩ := r4
        obtain ⟨fp2, H12⟩ := H11.res e10 r4
        obtain ⟨a2, k2, q3⟩ := own_slice (H12.mine 3 rfl)
        cases q3
        refine d_lit1 rfl (wn rfl) rfl Try.underlying43 Try_ty34 rfl rfl rfl rfl H12 (fun _ h e => h.trans e.no) (fun b3 w12 e11 g3 H13 => ?_)
        refine d_app2 rfl (wn rfl) rfl Try.underlying43 Try_ty34 rfl rfl rfl H13 2 4 3 rfl rfl rfl rfl (by unfold maxLen; omega) (by omega) (fun _ h e => h.trans e) (fun v5 w13 fp3 H14 => ?_)
        refine d_val rfl (wn rfl) rfl rfl (fun zw hx => py_field Try.underlying45 rfl Try.sizeOf43 rfl rfl) ?_
        obtain ⟨a3, k3, q4⟩ := own_slice (H14.mine 2 rfl)
        cases q4
        refine d_sto rfl (wn rfl) Try.sizeOf43 rfl rfl rfl H14 1 rfl rfl (fun _ _ _ hr => absurd rfl hr) (fun w14 e12 H15 => ?_)
        dsimp only [List.nil_append, List.cons_append, List.set_cons_zero, List.set_cons_succ, layL] at H15
        refine d_nil ?_
        refine W_reg ?_
        refine s_val (wn rfl) rfl rfl (py_move rfl) (s_val (wn rfl) rfl rfl (py_add rfl rfl (in64 ⟨by omega, by omega⟩)) (s_val (wn rfl) rfl rfl (py_assign rfl) ?_))
        refine s_nil ?_
        have hz := H15.ftake 3 |>.sub (.cons_cons _ (.cons_cons _ (.cons_cons _ (.cons _ (.cons _ List.Sublist.slnil)))))
        rw [shiftTo_step] at hz
        refine ⟨(k + 1, _, _), ⟨rfl, rfl, rfl, rfl, rfl, trivial⟩, ⟨hz, by omega⟩, by dsimp only; omega⟩
      · refine W_exit ?_
        refine W_seq ?_
        obtain ⟨qa, qc, qq⟩ := own_slice (H10.mine 2 rfl)
        cases qq
        refine W_reg ?_
        refine s_val (wn rfl) rfl rfl (py_loadS Try.underlying45 rfl Try.sizeOf45 rfl rfl (At.whole (H10.box 1 rfl))) ?_
        refine s_stoS (wn rfl) Try.sizeOf45 rfl rfl rfl rfl H10 0 rfl rfl (fun w15 e13 H16 => ?_)
        dsimp only [List.nil_append, List.cons_append, List.set_cons_zero, List.set_cons_succ, layL] at H16
        refine s_nil ?_
        refine W_ret (hQ _ _ (finC Try.results49 rfl (run_loadVarS Try.underlying45 rfl Try.sizeOf45 rfl (At.whole (H16.box 0 rfl))) ?_))
        rw [hy]
        obtain rfl : k = xs.length := by omega
        have hz := H16.sub (.cons _ (.cons _ (.cons_cons _ List.Sublist.slnil)))
        exact ⟨H16.ext, _, _, rfl, BlocksResult.out (x := ⟨0, shiftL (encG x.toNat (x.toNat + y.toNat) ys) xs⟩) hz (by show I64ok 0; unfold I64ok; omega)⟩
theorem Try_laws_FnExactShiftRow {w : World} {x : Int} {y : Int} {xs : List (List UInt8)} {xsA : Option Addr} {xsC : Nat} {ys : List UInt8} {ysA : Option Addr} {ysC : Nat} (xsS : Sees w [.slice xsA xs.length xsC] xs) (ysS : Sees w [.slice ysA ys.length ysC] ys) : Ret Try.prog 9 #[.int .i64 x, .int .i64 y, .slice xsA xs.length xsC, .slice ysA ys.length ysC] w fun v w' => Ext No w w' ∧ (v = .bool true) := by
  have xsL := sees_len xsS
  unfold maxLen at xsL
  obtain ⟨xsF, xsO⟩ := xsS
  have ysL := sees_len ysS
  unfold maxLen at ysL
  obtain ⟨ysF, ysO⟩ := ysS
  have cnt := shiftRow_cnt (d := x) (s := y) (xs := xs) (ys := ys)
  refine ret_Q (vs := [.int .i64 x, .int .i64 y, .slice xsA xs.length xsC, .slice ysA ys.length ysC]) Try.func9 rfl Try.ntmps9 rfl (fun Q hQ hN => ?_)
  have H0 := Sep.start (w := w) (F := [seen false [.slice xsA xs.length xsC] xs xsF, seen false [.slice ysA ys.length ysC] ys ysF]) (all_cons xsO (all_cons ysO (by simp)))
  refine W_seq ?_
  refine W_reg ?_
  refine s_val (wn rfl) rfl rfl (py_assign rfl) ?_
  refine s_nil ?_
  refine W_seq ?_
  refine W_seq ?_
  refine W_reg ?_
  refine s_val (wn rfl) rfl rfl (py_move rfl) (s_val (wn rfl) rfl rfl (py_len Try.underlying34 rfl) (s_val (wn rfl) rfl rfl (py_gtr rfl rfl) ?_))
  refine s_nil ?_
  refine W_ifd rfl (fun c1 => ?_) (fun c1 => ?_)
  · refine W_seq ?_
    refine W_reg ?_
    refine s_val (wn rfl) rfl rfl (py_assign rfl) ?_
    refine s_nil ?_
    refine W_ret (hQ _ _ (fin1 Try.results9 rfl ?_))
    exact ⟨H0.ext, rfl⟩
  · refine W_skip ?_
    refine W_seq ?_
    refine W_reg ?_
    refine s_val (wn rfl) rfl rfl (py_assign rfl) ?_
    refine s_nil ?_
    refine W_seq ?_
    refine W_reg ?_
    refine s_val (wn rfl) rfl rfl (py_move rfl) (s_val (wn rfl) rfl rfl (py_move rfl) ?_)
    refine s_call (wn rfl) rfl rfl (pc_call Try.func44 rfl Try_nm44 rfl) (Try_laws_szByteSS (H0.sees 0 rfl) (by omega)) (fun v1 w1 r1 => ?_)
    obtain ⟨e1, rfl⟩ := r1
    have H1 := H0.to e1
    refine s_val (wn rfl) rfl rfl (py_assign rfl) ?_
    refine s_nil ?_
    refine W_seq ?_
    refine W_seq ?_
    refine W_reg ?_
    refine s_val (wn rfl) rfl rfl (py_move rfl) (s_val (wn rfl) rfl rfl (py_lss rfl rfl) ?_)
    refine s_nil ?_
    refine W_ifd rfl (fun c2 => ?_) (fun c2 => ?_)
    · refine W_seq ?_
      refine W_reg ?_
      refine s_val (wn rfl) rfl rfl (py_assign rfl) ?_
      refine s_nil ?_
      refine W_ret (hQ _ _ (fin1 Try.results9 rfl ?_))
      exact ⟨H1.ext, rfl⟩
    · refine W_skip ?_
      refine W_seq ?_
      have hl : totB xs ≤ 1048576 := by revert c2; split <;> omega
      have hct := cnt_tot hl
      refine W_reg ?_
      refine s_val (wn rfl) rfl rfl (py_move rfl) (s_val (wn rfl) rfl rfl (py_move rfl) (s_val (wn rfl) rfl rfl (py_move rfl) ?_))
      refine s_call (wn rfl) rfl rfl (pc_call Try.func46 rfl Try_nm46 rfl) (Try_laws_toByteSS (H1.sees 0 rfl) (by omega)) (fun v2 w2 r2 => ?_)
      obtain ⟨e2, r2⟩ := r2
      obtain ⟨fp1, H2⟩ := H1.res e2 r2
      obtain ⟨a1, k1, q1⟩ := own_slice (H2.mine 0 rfl)
      cases q1
      refine s_val (wn rfl) rfl rfl (py_move rfl) ?_
      refine s_call (wn rfl) rfl rfl (pc_call Try.func26 rfl Try_nm26 rfl) (Try_laws_toByteS (H2.sees 1 rfl) (by omega)) (fun v3 w3 r3 => ?_)
      obtain ⟨e3, r3⟩ := r3
      obtain ⟨fp2, H3⟩ := H2.res e3 r3
      obtain ⟨a2, k2, q2⟩ := own_slice (H3.mine 1 rfl)
      cases q2
      refine s_call (wn rfl) rfl rfl (pc_call Try.func49 rfl Try_nm49 rfl) (Try_spec_ShiftRow (H3.msees 0 rfl) (H3.msees 1 rfl)) (fun v4 w4 r4 => ?_)
      obtain ⟨e4, sa1, sk1, rfl, r4⟩ := r4
      obtain ⟨fp3, H4⟩ := H3.res e4 r4
      have H5 := H4.share 2 rfl
      obtain ⟨sf1, sq1, sok1, so1⟩ := own_BlocksResultC (H5.seen 2 rfl)
      have H7 := H5.look1 2 rfl so1 (fun b hb => by rw [sq1]; simp [hb])
      refine s_var (wn rfl) rfl Try.zeroValue45 H7 (fun b1 w5 e5 g1 H8 => ?_)
      refine s_stoS (wn rfl) Try.sizeOf45 rfl rfl rfl rfl H8 3 rfl rfl (fun w6 e6 H9 => ?_)
      dsimp only [List.nil_append, List.cons_append, List.set_cons_zero, List.set_cons_succ, layL] at H9
      refine s_nil ?_
      refine W_seq ?_
      refine W_reg ?_
      refine s_val (wn rfl) rfl rfl (py_move rfl) ?_
      refine s_call (wn rfl) rfl rfl (pc_call Try.func46 rfl Try_nm46 rfl) (Try_laws_toByteSS (H9.sees 0 rfl) (by omega)) (fun v5 w7 r5 => ?_)
      obtain ⟨e7, r5⟩ := r5
      obtain ⟨fp4, H10⟩ := H9.res e7 r5
      obtain ⟨a3, k3, q3⟩ := own_slice (H10.mine 4 rfl)
      cases q3
      refine s_val (wn rfl) rfl rfl (py_assign rfl) ?_
      refine s_nil ?_
      refine W_seq ?_
      refine W_reg ?_
      refine s_val (wn rfl) rfl rfl (py_move rfl) ?_
      refine s_call (wn rfl) rfl rfl (pc_call Try.func26 rfl Try_nm26 rfl) (Try_laws_toByteS (H10.sees 1 rfl) (by omega)) (fun v6 w8 r6 => ?_)
      obtain ⟨e8, r6⟩ := r6
      obtain ⟨fp5, H11⟩ := H10.res e8 r6
      obtain ⟨a4, k4, q4⟩ := own_slice (H11.mine 5 rfl)
      cases q4
      refine s_val (wn rfl) rfl rfl (py_assign rfl) ?_
      refine s_nil ?_
      refine W_seq ?_
      refine W_reg ?_
      refine s_val (wn rfl) rfl rfl (py_move rfl) (s_val (wn rfl) rfl rfl (py_move rfl) (s_val (wn rfl) rfl rfl (py_move rfl) (s_val (wn rfl) rfl rfl (py_move rfl) ?_)))
      refine s_call (wn rfl) rfl rfl (pc_call Try.func41 rfl Try_nm41 rfl) (Try_impl_ShiftRow (H11.msees 4 rfl) (H11.msees 5 rfl)) (fun v7 w9 r7 => ?_)
      obtain ⟨e9, sa2, sk2, rfl, r7⟩ := r7
      obtain ⟨fp6, H12⟩ := H11.res e9 r7
      obtain ⟨sf2, sq2, sok2, so2⟩ := own_BlocksResultC (H12.mine 6 rfl)
      have H13 := H12.part 6 rfl [mine [.slice _ (shiftRow x y xs ys).Blocks.length _] (shiftRow x y xs ys).Blocks sf2] (all_cons so2 (by simp)) (by simp [blocks, mine, sq2])
      try dsimp only [List.nil_append, List.cons_append, List.set_cons_zero, List.set_cons_succ] at H13
      refine s_var (wn rfl) rfl Try.zeroValue45 H13 (fun b2 w10 e10 g2 H14 => ?_)
      refine s_stoS (wn rfl) Try.sizeOf45 rfl rfl rfl rfl H14 8 rfl rfl (fun w11 e11 H15 => ?_)
      dsimp only [List.nil_append, List.cons_append, List.set_cons_zero, List.set_cons_succ, layL] at H15
      refine s_nil ?_
      refine W_seq ?_
      refine W_seq ?_
      refine W_reg ?_
      refine s_val (wn rfl) rfl rfl (py_loadS Try.underlying45 rfl Try.sizeOf45 rfl rfl (At.whole (H15.box 8 rfl))) (s_val (wn rfl) rfl rfl (py_loadS Try.underlying45 rfl Try.sizeOf45 rfl rfl (At.whole (H15.box 3 rfl))) ?_)
      refine s_call (wn rfl) rfl rfl (pc_call Try.func28 rfl Try_nm28 rfl) (Try_laws_eqBlocksResult (by assumption) (H15.msees 7 rfl) (by assumption) (H15.sees 3 rfl)) (fun v8 w12 r8 => ?_)
      obtain ⟨e12, rfl⟩ := r8
      have H16 := H15.to e12
      refine s_val (wn rfl) rfl rfl (py_not rfl) ?_
      refine s_nil ?_
      refine W_if rfl (fun c3 => ?_) (fun c3 => ?_)
      · exact absurd c3 (by simp)
      · refine W_skip ?_
        refine W_seq ?_
        refine W_seq ?_
        refine W_reg ?_
        refine s_val (wn rfl) rfl rfl (py_move rfl) (s_val (wn rfl) rfl rfl (py_move rfl) ?_)
        refine s_call (wn rfl) rfl rfl (pc_call Try.func46 rfl Try_nm46 rfl) (Try_laws_toByteSS (H16.sees 0 rfl) (by omega)) (fun v9 w13 r9 => ?_)
        obtain ⟨e13, r9⟩ := r9
        obtain ⟨fp7, H17⟩ := H16.res e13 r9
        obtain ⟨a5, k5, q5⟩ := own_slice (H17.mine 9 rfl)
        cases q5
        refine s_call (wn rfl) rfl rfl (pc_call Try.func48 rfl Try_nm48 rfl) (Try_laws_eqByteSS (H17.msees 4 rfl) (H17.msees 9 rfl)) (fun v10 w14 r10 => ?_)
        obtain ⟨e14, rfl⟩ := r10
        have H18 := H17.to e14
        refine s_val (wn rfl) rfl rfl (py_not rfl) ?_
        refine s_nil ?_
        refine W_if rfl (fun c4 => ?_) (fun c4 => ?_)
        · exact absurd c4 (by simp)
        · refine W_skip ?_
          refine W_seq ?_
          refine W_seq ?_
          refine W_reg ?_
          refine s_val (wn rfl) rfl rfl (py_move rfl) (s_val (wn rfl) rfl rfl (py_move rfl) ?_)
          refine s_call (wn rfl) rfl rfl (pc_call Try.func26 rfl Try_nm26 rfl) (Try_laws_toByteS (H18.sees 1 rfl) (by omega)) (fun v11 w15 r11 => ?_)
          obtain ⟨e15, r11⟩ := r11
          obtain ⟨fp8, H19⟩ := H18.res e15 r11
          obtain ⟨a6, k6, q6⟩ := own_slice (H19.mine 10 rfl)
          cases q6
          refine s_call (wn rfl) rfl rfl (pc_call Try.func29 rfl Try_nm29 rfl) (Try_laws_eqByteS (H19.msees 5 rfl) (H19.msees 10 rfl)) (fun v12 w16 r12 => ?_)
          obtain ⟨e16, rfl⟩ := r12
          have H20 := H19.to e16
          refine s_val (wn rfl) rfl rfl (py_not rfl) ?_
          refine s_nil ?_
          refine W_if rfl (fun c5 => ?_) (fun c5 => ?_)
          · exact absurd c5 (by simp)
          · refine W_skip ?_
            refine W_seq ?_
            refine W_reg ?_
            refine s_val (wn rfl) rfl rfl (py_assign rfl) ?_
            refine s_nil ?_
            refine W_seq ?_
            refine W_reg ?_
            refine s_val (wn rfl) rfl rfl (py_move rfl) (s_val (wn rfl) rfl rfl (py_move rfl) ?_)
            refine s_call (wn rfl) rfl rfl (pc_call Try.func50 rfl Try_nm50 rfl) (Try_laws_markByteSS (H20.mine 4 rfl) (H20.nodup1 (i := 4) rfl) (by constructor <;> omega)) (fun v13 w17 r13 => ?_)
            obtain ⟨rfl, mx1, mm1, ml1, mk1⟩ := r13
            obtain ⟨fp9, H21⟩ := H20.mut 4 rfl mm1
            try dsimp only [List.nil_append, List.cons_append, List.set_cons_zero, List.set_cons_succ] at H21
            refine s_val (wn rfl) rfl rfl (py_assign rfl) ?_
            refine s_nil ?_
            refine W_seq ?_
            refine W_reg ?_
            refine s_val (wn rfl) rfl rfl (py_move rfl) (s_val (wn rfl) rfl rfl (py_move rfl) ?_)
            refine s_call (wn rfl) rfl rfl (pc_call Try.func30 rfl Try_nm30 rfl) (Try_laws_markByteS (H21.mine 5 rfl) (H21.nodup1 (i := 5) rfl) (by constructor <;> omega)) (fun v14 w18 r14 => ?_)
            obtain ⟨rfl, mx2, mm2, ml2, mk2⟩ := r14
            obtain ⟨fp10, H22⟩ := H21.mut 5 rfl mm2
            try dsimp only [List.nil_append, List.cons_append, List.set_cons_zero, List.set_cons_succ] at H22
            refine s_val (wn rfl) rfl rfl (py_assign rfl) ?_
            refine s_nil ?_
            refine W_seq ?_
            refine W_seq ?_
            refine W_reg ?_
            refine s_val (wn rfl) rfl rfl (py_move rfl) (s_val (wn rfl) rfl rfl (py_lss rfl rfl) (s_val (wn rfl) rfl rfl (py_move rfl) ?_))
            refine s_grp 4 (j := 2) (want := false) (t := 68) rfl rfl rfl rfl (fun hg1 kk1 => s_val (wgE rfl rfl rfl hg1) rfl rfl (py_loadS Try.underlying45 rfl Try.sizeOf45 rfl rfl (At.whole (H22.box 8 rfl))) (s_val (wgE rfl rfl rfl hg1) rfl rfl (py_loadS Try.underlying45 rfl Try.sizeOf45 rfl rfl (At.whole (H22.box 3 rfl))) (s_callv (wgE rfl rfl rfl hg1) rfl rfl (pc_call Try.func28 rfl Try_nm28 rfl) (Try_laws_eqBlocksResult (by assumption) (H22.msees 7 rfl) (by assumption) (H22.sees 3 rfl)) (fun w20 e20 => s_val (wgE rfl rfl rfl hg1) rfl rfl (py_not rfl) (kk1 _ _ (kx rfl (kx rfl (kx rfl (kx rfl k0)))) rfl (Ext.refl.trans e20)))))) (fun w19 e19 => ?_)
            have H23 := H22.to e19
            refine s_val (wn rfl) rfl rfl (py_bor rfl rfl) ?_
            refine s_nil ?_
            refine W_if rfl (fun c6 => ?_) (fun c6 => ?_)
            · exact absurd c6 (by simp; omega)
            · refine W_skip ?_
              refine W_seq ?_
              refine W_reg ?_
              refine s_val (wn rfl) rfl rfl (py_assign rfl) ?_
              refine s_nil ?_
              refine W_seq ?_
              refine W_reg ?_
              refine s_val (wn rfl) rfl rfl (py_loadS Try.underlying45 rfl Try.sizeOf45 rfl rfl (At.whole (H23.box 8 rfl))) (s_val (wn rfl) rfl rfl (py_move rfl) ?_)
              refine s_call (wn rfl) rfl rfl (pc_call Try.func31 rfl Try_nm31 rfl) (Try_laws_markBlocksResult (H23.mine 7 rfl) (H23.nodup1 (i := 7) rfl) (by constructor <;> omega)) (fun v15 w21 r15 => ?_)
              obtain ⟨rfl, mx3, mm3, ml3, mk3⟩ := r15
              obtain ⟨fp11, H24⟩ := H23.mut 7 rfl mm3
              try dsimp only [List.nil_append, List.cons_append, List.set_cons_zero, List.set_cons_succ] at H24
              refine s_val (wn rfl) rfl rfl (py_assign rfl) ?_
              refine s_nil ?_
              refine W_seq ?_
              refine W_reg ?_
              refine s_val (wn rfl) rfl rfl (py_assign rfl) ?_
              refine s_nil ?_
              refine W_seq ?_
              obtain ⟨ms, mb⟩ := mk3
              have cs := cntB_same ms ml3
              refine W_reg ?_
              refine s_val (wn rfl) rfl rfl (py_loadS Try.underlying45 rfl Try.sizeOf45 rfl rfl (At.whole (H24.box 8 rfl))) (s_val (wn rfl) rfl rfl (py_move rfl) ?_)
              refine s_call (wn rfl) rfl rfl (pc_call Try.func32 rfl Try_nm32 rfl) (Try_laws_heldBlocksResult (H24.msees 7 rfl) (by constructor <;> omega) (by assumption)) (fun v16 w22 r16 => ?_)
              obtain ⟨e22, rfl⟩ := r16
              have H25 := H24.to e22
              refine s_val (wn rfl) rfl rfl (py_assign rfl) ?_
              refine s_nil ?_
              refine W_seq ?_
              refine W_seq ?_
              refine W_reg ?_
              refine s_val (wn rfl) rfl rfl (py_move rfl) (s_val (wn rfl) rfl rfl (py_lss rfl rfl) ?_)
              refine s_nil ?_
              refine W_ifd rfl (fun c7 => ?_) (fun c7 => ?_)
              · exact absurd c7 (by omega)
              · refine W_skip ?_
                refine W_seq ?_
                refine W_seq ?_
                refine W_reg ?_
                refine s_val (wn rfl) rfl rfl (py_move rfl) (s_val (wn rfl) rfl rfl (py_move rfl) (s_val (wn rfl) rfl rfl (py_neq rfl rfl) ?_))
                refine s_nil ?_
                refine W_ifd rfl (fun c8 => ?_) (fun c8 => ?_)
                · exact absurd c8 (by omega)
                · refine W_skip ?_
                  refine W_seq ?_
                  refine W_reg ?_
                  refine s_val (wn rfl) rfl rfl (py_move rfl) (s_val (wn rfl) rfl rfl (py_move rfl) (s_val (wn rfl) rfl rfl (py_move rfl) ?_))
                  refine s_call (wn rfl) rfl rfl (pc_call Try.func46 rfl Try_nm46 rfl) (Try_laws_toByteSS (H25.sees 0 rfl) (by omega)) (fun v17 w23 r17 => ?_)
                  obtain ⟨e23, r17⟩ := r17
                  obtain ⟨fp12, H26⟩ := H25.res e23 r17
                  obtain ⟨a7, k7, q7⟩ := own_slice (H26.mine 11 rfl)
                  cases q7
                  refine s_val (wn rfl) rfl rfl (py_move rfl) ?_
                  refine s_call (wn rfl) rfl rfl (pc_call Try.func26 rfl Try_nm26 rfl) (Try_laws_toByteS (H26.sees 1 rfl) (by omega)) (fun v18 w24 r18 => ?_)
                  obtain ⟨e24, r18⟩ := r18
                  obtain ⟨fp13, H27⟩ := H26.res e24 r18
                  obtain ⟨a8, k8, q8⟩ := own_slice (H27.mine 12 rfl)
                  cases q8
                  refine s_call (wn rfl) rfl rfl (pc_call Try.func41 rfl Try_nm41 rfl) (Try_impl_ShiftRow (H27.msees 11 rfl) (H27.msees 12 rfl)) (fun v19 w25 r19 => ?_)
                  obtain ⟨e25, sa3, sk3, rfl, r19⟩ := r19
                  obtain ⟨fp14, H28⟩ := H27.res e25 r19
                  have H29 := H28.share 13 rfl
                  obtain ⟨sf3, sq3, sok3, so3⟩ := own_BlocksResultC (H29.seen 4 rfl)
                  have H31 := H29.look1 4 rfl so3 (fun b hb => by rw [sq3]; simp [hb])
                  refine s_var (wn rfl) rfl Try.zeroValue45 H31 (fun b3 w26 e26 g3 H32 => ?_)
                  refine s_stoS (wn rfl) Try.sizeOf45 rfl rfl rfl rfl H32 14 rfl rfl (fun w27 e27 H33 => ?_)
                  dsimp only [List.nil_append, List.cons_append, List.set_cons_zero, List.set_cons_succ, layL] at H33
                  refine s_nil ?_
                  refine W_seq ?_
                  refine W_seq ?_
                  refine W_reg ?_
                  refine s_val (wn rfl) rfl rfl (py_loadS Try.underlying45 rfl Try.sizeOf45 rfl rfl (At.whole (H33.box 14 rfl))) (s_val (wn rfl) rfl rfl (py_loadS Try.underlying45 rfl Try.sizeOf45 rfl rfl (At.whole (H33.box 3 rfl))) ?_)
                  refine s_call (wn rfl) rfl rfl (pc_call Try.func28 rfl Try_nm28 rfl) (Try_laws_eqBlocksResult (by assumption) (H33.sees 5 rfl) (by assumption) (H33.sees 3 rfl)) (fun v20 w28 r20 => ?_)
                  obtain ⟨e28, rfl⟩ := r20
                  have H34 := H33.to e28
                  refine s_val (wn rfl) rfl rfl (py_not rfl) ?_
                  refine s_nil ?_
                  refine W_if rfl (fun c9 => ?_) (fun c9 => ?_)
                  · exact absurd c9 (by simp)
                  · refine W_skip ?_
                    refine W_seq ?_
                    refine W_reg ?_
                    refine s_val (wn rfl) rfl rfl (py_assign rfl) ?_
                    refine s_nil ?_
                    refine W_seq ?_
                    refine W_reg ?_
                    refine s_val (wn rfl) rfl rfl (py_loadS Try.underlying45 rfl Try.sizeOf45 rfl rfl (At.whole (H34.box 8 rfl))) (s_val (wn rfl) rfl rfl (py_move rfl) ?_)
                    refine s_call (wn rfl) rfl rfl (pc_call Try.func32 rfl Try_nm32 rfl) (Try_laws_heldBlocksResult (H34.msees 7 rfl) (by constructor <;> omega) (by assumption)) (fun v21 w29 r21 => ?_)
                    obtain ⟨e29, rfl⟩ := r21
                    have H35 := H34.to e29
                    refine s_val (wn rfl) rfl rfl (py_assign rfl) ?_
                    refine s_nil ?_
                    refine W_seq ?_
                    refine W_seq ?_
                    refine W_reg ?_
                    refine s_val (wn rfl) rfl rfl (py_move rfl) (s_val (wn rfl) rfl rfl (py_lss rfl rfl) ?_)
                    refine s_nil ?_
                    refine W_ifd rfl (fun c10 => ?_) (fun c10 => ?_)
                    · exact absurd c10 (by omega)
                    · refine W_skip ?_
                      refine W_seq ?_
                      refine W_seq ?_
                      refine W_reg ?_
                      refine s_val (wn rfl) rfl rfl (py_move rfl) (s_val (wn rfl) rfl rfl (py_move rfl) (s_val (wn rfl) rfl rfl (py_neq rfl rfl) ?_))
                      refine s_nil ?_
                      refine W_ifd rfl (fun c11 => ?_) (fun c11 => ?_)
                      · exact absurd c11 (by omega)
                      · refine W_skip ?_
                        refine W_seq ?_
                        refine W_reg ?_
                        refine s_val (wn rfl) rfl rfl (py_assign rfl) ?_
                        refine s_nil ?_
                        refine W_ret (hQ _ _ (fin1 Try.results9 rfl ?_))
                        exact ⟨H35.ext, rfl⟩
end Go.Wk
