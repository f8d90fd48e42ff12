/-
  Laws on walking, and the functions walked, each once: what this claim comes to.
-/
import Derived.Test.YthfpkjhjkbpbiaaGreatZa4
set_option linter.unusedVariables false
set_option linter.unusedSimpArgs false
namespace Go.Wk
open Go.Proofs Rp
set_option maxRecDepth 10000
theorem Tryz_clone_i {w : World} {xs : List Int} {xsA : Option Addr} {xsC : Nat} (xsS : Sees w [.slice xsA xs.length xsC] xs) (hl : xs.length ≤ 100000000) : Ret Tryz.prog 150 #[.slice xsA xs.length xsC] w fun v w' => Ext No w w' ∧ (Res w w' [v] xs) := by
 have xsL := sees_len xsS
 unfold maxLen at xsL
 obtain ⟨xsF, xsO⟩ := xsS
 refine ret_Q (vs := [.slice xsA xs.length xsC]) Tryz.func150 rfl Tryz.ntmps150 rfl (fun Q hQ hN => ?_)
 have H0 := Sep.start (w := w) (F := [seen false [.slice xsA xs.length xsC] xs xsF]) (all_cons xsO (by simp))
 refine W_sr (sV rfl (py_assign rfl) (s_nil (W_seq (W_sr (sV rfl (py_move rfl) (sV rfl (py_slnil Tryz.underlying25 rfl rfl) (s_nil (W_if rfl (fun c1 => ?_) (fun c1 => ?_)))))))))
 ·refine W_sr (sV rfl (py_assign rfl) (s_nil (W_ret (hQ _ _ (fin1 Tryz.results150 rfl ?_)))))
  have e : xs = [] := own_none xsO c1
  exact ⟨H0.ext, e ▸ ⟨[], .inr (.inl ⟨rfl, rfl, rfl⟩), .nil, by simp⟩⟩
 ·refine W_skip (W_sr (s_lit0 (α := Int) (wn rfl) rfl Tryz.underlying25 Tryz_ty2 H0 (fun b1 w1 e1 g1 H1 => ?_)))
  refine sV rfl (py_move rfl) (s_appF (wn rfl) rfl Tryz.underlying25 Tryz_ty2 rfl rfl rfl H1 0 rfl (H1.seen 0 rfl) (by (try simp only [List.length_nil]); unfold maxLen; omega) (by (try simp only [List.length_nil]); omega) (fun v1 w2 fp1 H2 => ?_))
  refine sV rfl (py_assign rfl) (s_nil (W_ret (hQ _ _ (fin1 Tryz.results150 rfl ?_))))
  exact ⟨H2.ext, by
   have h := H2.out 0 rfl
   rwa [List.nil_append] at h⟩
theorem Tryz_clone_b {w : World} {xs : List UInt8} {xsA : Option Addr} {xsC : Nat} (xsS : Sees w [.slice xsA xs.length xsC] xs) (hl : xs.length ≤ 100000000) : Ret Tryz.prog 151 #[.slice xsA xs.length xsC] w fun v w' => Ext No w w' ∧ (Res w w' [v] xs) := by
 have xsL := sees_len xsS
 unfold maxLen at xsL
 obtain ⟨xsF, xsO⟩ := xsS
 refine ret_Q (vs := [.slice xsA xs.length xsC]) Tryz.func151 rfl Tryz.ntmps151 rfl (fun Q hQ hN => ?_)
 have H0 := Sep.start (w := w) (F := [seen false [.slice xsA xs.length xsC] xs xsF]) (all_cons xsO (by simp))
 refine W_sr (sV rfl (py_assign rfl) (s_nil (W_seq (W_sr (sV rfl (py_move rfl) (sV rfl (py_slnil Tryz.underlying45 rfl rfl) (s_nil (W_if rfl (fun c1 => ?_) (fun c1 => ?_)))))))))
 ·refine W_sr (sV rfl (py_assign rfl) (s_nil (W_ret (hQ _ _ (fin1 Tryz.results151 rfl ?_)))))
  have e : xs = [] := own_none xsO c1
  exact ⟨H0.ext, e ▸ ⟨[], .inr (.inl ⟨rfl, rfl, rfl⟩), .nil, by simp⟩⟩
 ·refine W_skip (W_sr (s_lit0 (α := UInt8) (wn rfl) rfl Tryz.underlying45 Tryz_ty5 H0 (fun b1 w1 e1 g1 H1 => ?_)))
  refine sV rfl (py_move rfl) (s_appF (wn rfl) rfl Tryz.underlying45 Tryz_ty5 rfl rfl rfl H1 0 rfl (H1.seen 0 rfl) (by (try simp only [List.length_nil]); unfold maxLen; omega) (by (try simp only [List.length_nil]); omega) (fun v1 w2 fp1 H2 => ?_))
  refine sV rfl (py_assign rfl) (s_nil (W_ret (hQ _ _ (fin1 Tryz.results151 rfl ?_))))
  exact ⟨H2.ext, by
   have h := H2.out 0 rfl
   rwa [List.nil_append] at h⟩
theorem Tryz_impl_cloneRec {w : World} {r : Rec} {rA6 : Option Addr} {rC6 : Nat} {rA7 : Option Addr} {rC7 : Nat} {rA8 : Option Addr} {rC8 : Nat} (rK : r.Ok) (rS6 : Sees w [.slice rA6 r.Rows.length rC6] r.Rows) (rS7 : Sees w [.slice rA7 r.Data.length rC7] r.Data) (rS8 : Sees w [.slice rA8 r.Delta.length rC8] r.Delta) (hb : szRec r ≤ 1048576) : Ret Tryz.prog 74 #[r.val rA6 rC6 rA7 rC7 rA8 rC8] w fun v w' => Ext No w w' ∧ (∃ A6 C6 A7 C7 A8 C8, v = r.val A6 C6 A7 C7 A8 C8 ∧ Res w w' [.int .i64 r.Kind, .int .i64 r.Seq, .string r.Name, .int .i64 r.Length, .int .i64 r.Group, .int .i64 r.Row, .slice A6 r.Rows.length C6, .slice A7 r.Data.length C7, .slice A8 r.Delta.length C8] r) := by
 have rK2 := rK
 unfold Rec.Ok at rK2
 try unfold I64ok at rK2
 try unfold maxLen at rK2
 have rN2 : r.Name.size ≤ maxLen := by unfold maxLen; omega
 have rL6 := sees_len rS6
 unfold maxLen at rL6
 obtain ⟨rF6, rO6⟩ := rS6
 have rL7 := sees_len rS7
 unfold maxLen at rL7
 obtain ⟨rF7, rO7⟩ := rS7
 have rL8 := sees_len rS8
 unfold maxLen at rL8
 obtain ⟨rF8, rO8⟩ := rS8
 unfold szRec at hb
 refine ret_Q (vs := [r.val rA6 rC6 rA7 rC7 rA8 rC8]) Tryz.func74 rfl Tryz.ntmps74 rfl (fun Q hQ hN => ?_)
 have H0 := Sep.start (w := w) (F := [seen false [.slice rA6 r.Rows.length rC6] r.Rows rF6, seen false [.slice rA7 r.Data.length rC7] r.Data rF7, seen false [.slice rA8 r.Delta.length rC8] r.Delta rF8]) (all_cons rO6 (all_cons rO7 (all_cons rO8 (by simp))))
 refine W_sr (s_box (wn rfl) rfl rfl H0 (fun b1 w1 e1 g1 H1 => ?_))
 refine s_var (wn rfl) rfl Tryz.zeroValue68 H1 (fun b2 w2 e2 g2 H2 => ?_)
 refine s_nil (W_seq (W_drw (S := Ext (· ∈ [b1]) _) [(0, true), (3, true), (6, true), (1089, false), (1, false), (1032, false), (2, false), (1020, false), (4, false), (1009, false), (5, false), (7, false), (9, true), (8, false), (10, false), (11, true), (12, false), (13, true), (14, false), (7, false), (9, true), (5, false), (8, false), (10, false), (11, true), (12, false), (13, true), (14, false), (7, false), (4, false), (9, true), (5, false), (8, false), (10, false), (11, true), (12, false), (13, true), (14, false), (1032, false), (4, false), (1020, false), (2, false), (1009, false), (5, false), (7, false), (9, true), (8, false), (10, false), (11, true), (12, false), (13, true), (14, false), (7, false), (9, true), (5, false), (8, false), (10, false), (11, true), (12, false), (13, true), (14, false), (7, false), (2, false), (9, true), (5, false), (8, false), (10, false), (11, true), (12, false), (13, true), (14, false), (7, false), (1010, false), (2, false), (4, false), (9, true), (5, false), (8, false), (10, false), (11, true), (12, false), (13, true), (14, false), (4, false), (2, false), (9, true), (5, false), (8, false), (10, false), (11, true), (12, false), (13, true), (14, false), (1045, false), (4, false), (1032, false), (1, false), (1020, false), (2, false), (1009, false), (5, false), (7, false), (9, true), (8, false), (10, false), (11, true), (12, false), (13, true), (14, false), (7, false), (9, true), (5, false), (8, false), (10, false), (11, true), (12, false), (13, true), (14, false), (7, false), (2, false), (9, true), (5, false), (8, false), (10, false), (11, true), (12, false), (13, true), (14, false), (7, false), (1, false), (2, false), (9, true), (5, false), (8, false), (10, false), (11, true), (12, false), (13, true), (14, false), (7, false), (1022, false), (1, false), (1010, false), (2, false), (4, false), (9, true), (5, false), (8, false), (10, false), (11, true), (12, false), (13, true), (14, false), (4, false), (2, false), (9, true), (5, false), (8, false), (10, false), (11, true), (12, false), (13, true), (14, false), (4, false), (1, false), (2, false), (9, true), (5, false), (8, false), (10, false), (11, true), (12, false), (13, true), (14, false)] (by kernel_rfl) (by kernel_rfl) (by kernel_rfl) rfl (fun _ => Ext.refl.drawn _) (fun q1 => ?_)))
 have H3 := H2.drawn q1
 refine dV rfl rfl (fun zw hx => py_field Tryz.underlying68 rfl Tryz.sizeOf25 rfl rfl) (dV rfl rfl (fun zw hx => py_field Tryz.underlying68 rfl Tryz.sizeOf45 rfl rfl) (dV rfl rfl (fun zw hx => py_field Tryz.underlying68 rfl Tryz.sizeOf45 rfl rfl) (d_fork (l1 := [(1, false), (1032, false), (2, false), (1020, false), (4, false), (1009, false), (5, false), (7, false), (9, true), (8, false), (10, false), (11, true), (12, false), (13, true), (14, false), (7, false), (9, true), (5, false), (8, false), (10, false), (11, true), (12, false), (13, true), (14, false), (7, false), (4, false), (9, true), (5, false), (8, false), (10, false), (11, true), (12, false), (13, true), (14, false), (1032, false), (4, false), (1020, false), (2, false), (1009, false), (5, false), (7, false), (9, true), (8, false), (10, false), (11, true), (12, false), (13, true), (14, false), (7, false), (9, true), (5, false), (8, false), (10, false), (11, true), (12, false), (13, true), (14, false), (7, false), (2, false), (9, true), (5, false), (8, false), (10, false), (11, true), (12, false), (13, true), (14, false), (7, false), (1010, false), (2, false), (4, false), (9, true), (5, false), (8, false), (10, false), (11, true), (12, false), (13, true), (14, false), (4, false), (2, false), (9, true), (5, false), (8, false), (10, false), (11, true), (12, false), (13, true), (14, false)]) (l2 := [(1045, false), (4, false), (1032, false), (1, false), (1020, false), (2, false), (1009, false), (5, false), (7, false), (9, true), (8, false), (10, false), (11, true), (12, false), (13, true), (14, false), (7, false), (9, true), (5, false), (8, false), (10, false), (11, true), (12, false), (13, true), (14, false), (7, false), (2, false), (9, true), (5, false), (8, false), (10, false), (11, true), (12, false), (13, true), (14, false), (7, false), (1, false), (2, false), (9, true), (5, false), (8, false), (10, false), (11, true), (12, false), (13, true), (14, false), (7, false), (1022, false), (1, false), (1010, false), (2, false), (4, false), (9, true), (5, false), (8, false), (10, false), (11, true), (12, false), (13, true), (14, false), (4, false), (2, false), (9, true), (5, false), (8, false), (10, false), (11, true), (12, false), (13, true), (14, false), (4, false), (1, false), (2, false), (9, true), (5, false), (8, false), (10, false), (11, true), (12, false), (13, true), (14, false)]) rfl rfl rfl rfl ?_ ?_)))
 ·refine d_end rfl (wn rfl) rfl rfl (py_load Tryz.underlying25 rfl rfl (cell_atL (H3.box 0 rfl) rfl)) (d_fork (l1 := [(2, false), (1020, false), (4, false), (1009, false), (5, false), (7, false), (9, true), (8, false), (10, false), (11, true), (12, false), (13, true), (14, false), (7, false), (9, true), (5, false), (8, false), (10, false), (11, true), (12, false), (13, true), (14, false), (7, false), (4, false), (9, true), (5, false), (8, false), (10, false), (11, true), (12, false), (13, true), (14, false)]) (l2 := [(1032, false), (4, false), (1020, false), (2, false), (1009, false), (5, false), (7, false), (9, true), (8, false), (10, false), (11, true), (12, false), (13, true), (14, false), (7, false), (9, true), (5, false), (8, false), (10, false), (11, true), (12, false), (13, true), (14, false), (7, false), (2, false), (9, true), (5, false), (8, false), (10, false), (11, true), (12, false), (13, true), (14, false), (7, false), (1010, false), (2, false), (4, false), (9, true), (5, false), (8, false), (10, false), (11, true), (12, false), (13, true), (14, false), (4, false), (2, false), (9, true), (5, false), (8, false), (10, false), (11, true), (12, false), (13, true), (14, false)]) rfl rfl rfl rfl ?_ ?_)
  ·refine d_call rfl (wn rfl) rfl rfl (pc_call Tryz.func150 rfl Tryz_nm150 rfl) (Tryz_clone_i (H3.sees 0 rfl) (by omega)) (fun hS _ _ r _ => hS.trans r.1.no) (fun v1 w3 r1 => ?_)
   obtain ⟨e3, r1⟩ := r1
   obtain ⟨fp1, H4⟩ := H3.res e3 r1
   obtain ⟨a1, k1, q2⟩ := own_slice (H4.mine 2 rfl)
   cases q2
   refine d_fork (l1 := [(4, false), (1009, false), (5, false), (7, false), (9, true), (8, false), (10, false), (11, true), (12, false), (13, true), (14, false), (7, false), (9, true), (5, false), (8, false), (10, false), (11, true), (12, false), (13, true), (14, false)]) (l2 := [(7, false), (4, false), (9, true), (5, false), (8, false), (10, false), (11, true), (12, false), (13, true), (14, false)]) rfl rfl rfl rfl ?_ ?_
   ·refine d_end rfl (wn rfl) rfl rfl (py_load Tryz.underlying45 rfl rfl (cell_atL (H4.box 0 rfl) rfl)) (d_fork (l1 := [(5, false), (7, false), (9, true), (8, false), (10, false), (11, true), (12, false), (13, true), (14, false)]) (l2 := [(7, false), (9, true), (5, false), (8, false), (10, false), (11, true), (12, false), (13, true), (14, false)]) rfl rfl rfl rfl ?_ ?_)
    ·refine d_call rfl (wn rfl) rfl rfl (pc_call Tryz.func151 rfl Tryz_nm151 rfl) (Tryz_clone_b (H4.sees 1 rfl) (by omega)) (fun hS _ _ r _ => hS.trans r.1.no) (fun v2 w4 r2 => ?_)
     obtain ⟨e4, r2⟩ := r2
     obtain ⟨fp2, H5⟩ := H4.res e4 r2
     obtain ⟨a2, k2, q3⟩ := own_slice (H5.mine 3 rfl)
     cases q3
     refine d_end rfl (wn rfl) rfl rfl (py_load Tryz.underlying45 rfl rfl (cell_atL (H5.box 0 rfl) rfl)) (dV rfl rfl (fun zw hx => py_field Tryz.underlying68 rfl Tryz.sizeOf25 rfl rfl) (d_call rfl (wn rfl) rfl rfl (pc_call Tryz.func151 rfl Tryz_nm151 rfl) (Tryz_clone_b (H5.sees 2 rfl) (by omega)) (fun hS _ _ r _ => hS.trans r.1.no) (fun v3 w5 r3 => ?_)))
     obtain ⟨e5, r3⟩ := r3
     obtain ⟨fp3, H6⟩ := H5.res e5 r3
     obtain ⟨a3, k3, q4⟩ := own_slice (H6.mine 4 rfl)
     cases q4
     refine d_sto rfl (wn rfl) Tryz.sizeOf25 rfl rfl rfl H6 0 rfl rfl (fun _ h e _ => h.trans (e.mono fun _ _ q => by simp [q])) (fun w6 e6 H7 => ?_)
     dsimp only [List.nil_append, List.cons_append, List.set_cons_zero, List.set_cons_succ, layL] at H7
     refine dV rfl rfl (fun zw hx => py_field Tryz.underlying68 rfl Tryz.sizeOf45 rfl rfl) (d_sto rfl (wn rfl) Tryz.sizeOf45 rfl rfl rfl H7 0 rfl rfl (fun _ h e _ => h.trans (e.mono fun _ _ q => by simp [q])) (fun w7 e7 H8 => ?_))
     dsimp only [List.nil_append, List.cons_append, List.set_cons_zero, List.set_cons_succ, layL] at H8
     refine dV rfl rfl (fun zw hx => py_field Tryz.underlying68 rfl Tryz.sizeOf45 rfl rfl) (d_sto rfl (wn rfl) Tryz.sizeOf45 rfl rfl rfl H8 0 rfl rfl (fun _ h e _ => h.trans (e.mono fun _ _ q => by simp [q])) (fun w8 e8 H9 => ?_))
     dsimp only [List.nil_append, List.cons_append, List.set_cons_zero, List.set_cons_succ, layL] at H9
     refine d_nil (W_sr (sV rfl (py_loadS Tryz.underlying68 rfl Tryz.sizeOf68 rfl rfl (At.whole (H9.box 0 rfl))) (s_stoS (wn rfl) Tryz.sizeOf68 rfl rfl rfl rfl H9 1 rfl rfl (fun w9 e9 H10 => ?_))))
     dsimp only [List.nil_append, List.cons_append, List.set_cons_zero, List.set_cons_succ, layL] at H10
     refine s_nil (W_ret (hQ _ _ (finC Tryz.results74 rfl (run_loadVarS Tryz.underlying68 rfl Tryz.sizeOf68 rfl (At.whole (H10.box 1 rfl))) ?_)))
     exact ⟨H10.ext, _, _, _, _, _, _, rfl, Rec.out (H10.sub (.cons _ (.cons _ (.cons_cons _ (.cons_cons _ (.cons_cons _ List.Sublist.slnil)))))) (by assumption)⟩
    ·refine d_end rfl (wn rfl) rfl rfl (py_load Tryz.underlying45 rfl rfl (cell_atL (H4.box 0 rfl) rfl)) (dV rfl rfl (fun zw hx => py_field Tryz.underlying68 rfl Tryz.sizeOf25 rfl rfl) (d_call rfl (wn rfl) rfl rfl (pc_call Tryz.func151 rfl Tryz_nm151 rfl) (Tryz_clone_b (H4.sees 1 rfl) (by omega)) (fun hS _ _ r _ => hS.trans r.1.no) (fun v4 w10 r4 => ?_)))
     obtain ⟨e10, r4⟩ := r4
     obtain ⟨fp4, H11⟩ := H4.res e10 r4
     obtain ⟨a4, k4, q5⟩ := own_slice (H11.mine 3 rfl)
     cases q5
     refine d_call rfl (wn rfl) rfl rfl (pc_call Tryz.func151 rfl Tryz_nm151 rfl) (Tryz_clone_b (H11.sees 2 rfl) (by omega)) (fun hS _ _ r _ => hS.trans r.1.no) (fun v5 w11 r5 => ?_)
     obtain ⟨e11, r5⟩ := r5
     obtain ⟨fp5, H12⟩ := H11.res e11 r5
     obtain ⟨a5, k5, q6⟩ := own_slice (H12.mine 4 rfl)
     cases q6
     refine d_sto rfl (wn rfl) Tryz.sizeOf25 rfl rfl rfl H12 0 rfl rfl (fun _ h e _ => h.trans (e.mono fun _ _ q => by simp [q])) (fun w12 e12 H13 => ?_)
     dsimp only [List.nil_append, List.cons_append, List.set_cons_zero, List.set_cons_succ, layL] at H13
     refine dV rfl rfl (fun zw hx => py_field Tryz.underlying68 rfl Tryz.sizeOf45 rfl rfl) (d_sto rfl (wn rfl) Tryz.sizeOf45 rfl rfl rfl H13 0 rfl rfl (fun _ h e _ => h.trans (e.mono fun _ _ q => by simp [q])) (fun w13 e13 H14 => ?_))
     dsimp only [List.nil_append, List.cons_append, List.set_cons_zero, List.set_cons_succ, layL] at H14
     refine dV rfl rfl (fun zw hx => py_field Tryz.underlying68 rfl Tryz.sizeOf45 rfl rfl) (d_sto rfl (wn rfl) Tryz.sizeOf45 rfl rfl rfl H14 0 rfl rfl (fun _ h e _ => h.trans (e.mono fun _ _ q => by simp [q])) (fun w14 e14 H15 => ?_))
     dsimp only [List.nil_append, List.cons_append, List.set_cons_zero, List.set_cons_succ, layL] at H15
     refine d_nil (W_sr (sV rfl (py_loadS Tryz.underlying68 rfl Tryz.sizeOf68 rfl rfl (At.whole (H15.box 0 rfl))) (s_stoS (wn rfl) Tryz.sizeOf68 rfl rfl rfl rfl H15 1 rfl rfl (fun w15 e15 H16 => ?_))))
     dsimp only [List.nil_append, List.cons_append, List.set_cons_zero, List.set_cons_succ, layL] at H16
     refine s_nil (W_ret (hQ _ _ (finC Tryz.results74 rfl (run_loadVarS Tryz.underlying68 rfl Tryz.sizeOf68 rfl (At.whole (H16.box 1 rfl))) ?_)))
     exact ⟨H16.ext, _, _, _, _, _, _, rfl, Rec.out (H16.sub (.cons _ (.cons _ (.cons_cons _ (.cons_cons _ (.cons_cons _ List.Sublist.slnil)))))) (by assumption)⟩
   ·refine d_end rfl (wn rfl) rfl rfl (py_load Tryz.underlying45 rfl rfl (cell_atL (H4.box 0 rfl) rfl)) (d_end rfl (wn rfl) rfl rfl (py_load Tryz.underlying45 rfl rfl (cell_atL (H4.box 0 rfl) rfl)) (dV rfl rfl (fun zw hx => py_field Tryz.underlying68 rfl Tryz.sizeOf25 rfl rfl) (d_call rfl (wn rfl) rfl rfl (pc_call Tryz.func151 rfl Tryz_nm151 rfl) (Tryz_clone_b (H4.sees 1 rfl) (by omega)) (fun hS _ _ r _ => hS.trans r.1.no) (fun v6 w16 r6 => ?_))))
    obtain ⟨e16, r6⟩ := r6
    obtain ⟨fp6, H17⟩ := H4.res e16 r6
    obtain ⟨a6, k6, q7⟩ := own_slice (H17.mine 3 rfl)
    cases q7
    refine d_call rfl (wn rfl) rfl rfl (pc_call Tryz.func151 rfl Tryz_nm151 rfl) (Tryz_clone_b (H17.sees 2 rfl) (by omega)) (fun hS _ _ r _ => hS.trans r.1.no) (fun v7 w17 r7 => ?_)
    obtain ⟨e17, r7⟩ := r7
    obtain ⟨fp7, H18⟩ := H17.res e17 r7
    obtain ⟨a7, k7, q8⟩ := own_slice (H18.mine 4 rfl)
    cases q8
    refine d_sto rfl (wn rfl) Tryz.sizeOf25 rfl rfl rfl H18 0 rfl rfl (fun _ h e _ => h.trans (e.mono fun _ _ q => by simp [q])) (fun w18 e18 H19 => ?_)
    dsimp only [List.nil_append, List.cons_append, List.set_cons_zero, List.set_cons_succ, layL] at H19
    refine dV rfl rfl (fun zw hx => py_field Tryz.underlying68 rfl Tryz.sizeOf45 rfl rfl) (d_sto rfl (wn rfl) Tryz.sizeOf45 rfl rfl rfl H19 0 rfl rfl (fun _ h e _ => h.trans (e.mono fun _ _ q => by simp [q])) (fun w19 e19 H20 => ?_))
    dsimp only [List.nil_append, List.cons_append, List.set_cons_zero, List.set_cons_succ, layL] at H20
    refine dV rfl rfl (fun zw hx => py_field Tryz.underlying68 rfl Tryz.sizeOf45 rfl rfl) (d_sto rfl (wn rfl) Tryz.sizeOf45 rfl rfl rfl H20 0 rfl rfl (fun _ h e _ => h.trans (e.mono fun _ _ q => by simp [q])) (fun w20 e20 H21 => ?_))
    dsimp only [List.nil_append, List.cons_append, List.set_cons_zero, List.set_cons_succ, layL] at H21
    refine d_nil (W_sr (sV rfl (py_loadS Tryz.underlying68 rfl Tryz.sizeOf68 rfl rfl (At.whole (H21.box 0 rfl))) (s_stoS (wn rfl) Tryz.sizeOf68 rfl rfl rfl rfl H21 1 rfl rfl (fun w21 e21 H22 => ?_))))
    dsimp only [List.nil_append, List.cons_append, List.set_cons_zero, List.set_cons_succ, layL] at H22
    refine s_nil (W_ret (hQ _ _ (finC Tryz.results74 rfl (run_loadVarS Tryz.underlying68 rfl Tryz.sizeOf68 rfl (At.whole (H22.box 1 rfl))) ?_)))
    exact ⟨H22.ext, _, _, _, _, _, _, rfl, Rec.out (H22.sub (.cons _ (.cons _ (.cons_cons _ (.cons_cons _ (.cons_cons _ List.Sublist.slnil)))))) (by assumption)⟩
  refine d_fork (l1 := [(4, false), (1020, false), (2, false), (1009, false), (5, false), (7, false), (9, true), (8, false), (10, false), (11, true), (12, false), (13, true), (14, false), (7, false), (9, true), (5, false), (8, false), (10, false), (11, true), (12, false), (13, true), (14, false), (7, false), (2, false), (9, true), (5, false), (8, false), (10, false), (11, true), (12, false), (13, true), (14, false)]) (l2 := [(7, false), (1010, false), (2, false), (4, false), (9, true), (5, false), (8, false), (10, false), (11, true), (12, false), (13, true), (14, false), (4, false), (2, false), (9, true), (5, false), (8, false), (10, false), (11, true), (12, false), (13, true), (14, false)]) rfl rfl rfl rfl ?_ ?_
  ·refine d_end rfl (wn rfl) rfl rfl (py_load Tryz.underlying45 rfl rfl (cell_atL (H3.box 0 rfl) rfl)) (d_fork (l1 := [(2, false), (1009, false), (5, false), (7, false), (9, true), (8, false), (10, false), (11, true), (12, false), (13, true), (14, false), (7, false), (9, true), (5, false), (8, false), (10, false), (11, true), (12, false), (13, true), (14, false)]) (l2 := [(7, false), (2, false), (9, true), (5, false), (8, false), (10, false), (11, true), (12, false), (13, true), (14, false)]) rfl rfl rfl rfl ?_ ?_)
   ·refine d_call rfl (wn rfl) rfl rfl (pc_call Tryz.func150 rfl Tryz_nm150 rfl) (Tryz_clone_i (H3.sees 0 rfl) (by omega)) (fun hS _ _ r _ => hS.trans r.1.no) (fun v8 w22 r8 => ?_)
    obtain ⟨e22, r8⟩ := r8
    obtain ⟨fp8, H23⟩ := H3.res e22 r8
    obtain ⟨a8, k8, q9⟩ := own_slice (H23.mine 2 rfl)
    cases q9
    refine d_fork (l1 := [(5, false), (7, false), (9, true), (8, false), (10, false), (11, true), (12, false), (13, true), (14, false)]) (l2 := [(7, false), (9, true), (5, false), (8, false), (10, false), (11, true), (12, false), (13, true), (14, false)]) rfl rfl rfl rfl ?_ ?_
    ·refine d_call rfl (wn rfl) rfl rfl (pc_call Tryz.func151 rfl Tryz_nm151 rfl) (Tryz_clone_b (H23.sees 1 rfl) (by omega)) (fun hS _ _ r _ => hS.trans r.1.no) (fun v9 w23 r9 => ?_)
     obtain ⟨e23, r9⟩ := r9
     obtain ⟨fp9, H24⟩ := H23.res e23 r9
     obtain ⟨a9, k9, q10⟩ := own_slice (H24.mine 3 rfl)
     cases q10
     refine d_end rfl (wn rfl) rfl rfl (py_load Tryz.underlying45 rfl rfl (cell_atL (H24.box 0 rfl) rfl)) (dV rfl rfl (fun zw hx => py_field Tryz.underlying68 rfl Tryz.sizeOf25 rfl rfl) (d_call rfl (wn rfl) rfl rfl (pc_call Tryz.func151 rfl Tryz_nm151 rfl) (Tryz_clone_b (H24.sees 2 rfl) (by omega)) (fun hS _ _ r _ => hS.trans r.1.no) (fun v10 w24 r10 => ?_)))
     obtain ⟨e24, r10⟩ := r10
     obtain ⟨fp10, H25⟩ := H24.res e24 r10
     obtain ⟨a10, k10, q11⟩ := own_slice (H25.mine 4 rfl)
     cases q11
     refine d_sto rfl (wn rfl) Tryz.sizeOf25 rfl rfl rfl H25 0 rfl rfl (fun _ h e _ => h.trans (e.mono fun _ _ q => by simp [q])) (fun w25 e25 H26 => ?_)
     dsimp only [List.nil_append, List.cons_append, List.set_cons_zero, List.set_cons_succ, layL] at H26
     refine dV rfl rfl (fun zw hx => py_field Tryz.underlying68 rfl Tryz.sizeOf45 rfl rfl) (d_sto rfl (wn rfl) Tryz.sizeOf45 rfl rfl rfl H26 0 rfl rfl (fun _ h e _ => h.trans (e.mono fun _ _ q => by simp [q])) (fun w26 e26 H27 => ?_))
     dsimp only [List.nil_append, List.cons_append, List.set_cons_zero, List.set_cons_succ, layL] at H27
     refine dV rfl rfl (fun zw hx => py_field Tryz.underlying68 rfl Tryz.sizeOf45 rfl rfl) (d_sto rfl (wn rfl) Tryz.sizeOf45 rfl rfl rfl H27 0 rfl rfl (fun _ h e _ => h.trans (e.mono fun _ _ q => by simp [q])) (fun w27 e27 H28 => ?_))
     dsimp only [List.nil_append, List.cons_append, List.set_cons_zero, List.set_cons_succ, layL] at H28
     refine d_nil (W_sr (sV rfl (py_loadS Tryz.underlying68 rfl Tryz.sizeOf68 rfl rfl (At.whole (H28.box 0 rfl))) (s_stoS (wn rfl) Tryz.sizeOf68 rfl rfl rfl rfl H28 1 rfl rfl (fun w28 e28 H29 => ?_))))
     dsimp only [List.nil_append, List.cons_append, List.set_cons_zero, List.set_cons_succ, layL] at H29
     refine s_nil (W_ret (hQ _ _ (finC Tryz.results74 rfl (run_loadVarS Tryz.underlying68 rfl Tryz.sizeOf68 rfl (At.whole (H29.box 1 rfl))) ?_)))
     exact ⟨H29.ext, _, _, _, _, _, _, rfl, Rec.out (H29.sub (.cons _ (.cons _ (.cons_cons _ (.cons_cons _ (.cons_cons _ List.Sublist.slnil)))))) (by assumption)⟩
    ·refine d_end rfl (wn rfl) rfl rfl (py_load Tryz.underlying45 rfl rfl (cell_atL (H23.box 0 rfl) rfl)) (dV rfl rfl (fun zw hx => py_field Tryz.underlying68 rfl Tryz.sizeOf25 rfl rfl) (d_call rfl (wn rfl) rfl rfl (pc_call Tryz.func151 rfl Tryz_nm151 rfl) (Tryz_clone_b (H23.sees 1 rfl) (by omega)) (fun hS _ _ r _ => hS.trans r.1.no) (fun v11 w29 r11 => ?_)))
     obtain ⟨e29, r11⟩ := r11
     obtain ⟨fp11, H30⟩ := H23.res e29 r11
     obtain ⟨a11, k11, q12⟩ := own_slice (H30.mine 3 rfl)
     cases q12
     refine d_call rfl (wn rfl) rfl rfl (pc_call Tryz.func151 rfl Tryz_nm151 rfl) (Tryz_clone_b (H30.sees 2 rfl) (by omega)) (fun hS _ _ r _ => hS.trans r.1.no) (fun v12 w30 r12 => ?_)
     obtain ⟨e30, r12⟩ := r12
     obtain ⟨fp12, H31⟩ := H30.res e30 r12
     obtain ⟨a12, k12, q13⟩ := own_slice (H31.mine 4 rfl)
     cases q13
     refine d_sto rfl (wn rfl) Tryz.sizeOf25 rfl rfl rfl H31 0 rfl rfl (fun _ h e _ => h.trans (e.mono fun _ _ q => by simp [q])) (fun w31 e31 H32 => ?_)
     dsimp only [List.nil_append, List.cons_append, List.set_cons_zero, List.set_cons_succ, layL] at H32
     refine dV rfl rfl (fun zw hx => py_field Tryz.underlying68 rfl Tryz.sizeOf45 rfl rfl) (d_sto rfl (wn rfl) Tryz.sizeOf45 rfl rfl rfl H32 0 rfl rfl (fun _ h e _ => h.trans (e.mono fun _ _ q => by simp [q])) (fun w32 e32 H33 => ?_))
     dsimp only [List.nil_append, List.cons_append, List.set_cons_zero, List.set_cons_succ, layL] at H33
     refine dV rfl rfl (fun zw hx => py_field Tryz.underlying68 rfl Tryz.sizeOf45 rfl rfl) (d_sto rfl (wn rfl) Tryz.sizeOf45 rfl rfl rfl H33 0 rfl rfl (fun _ h e _ => h.trans (e.mono fun _ _ q => by simp [q])) (fun w33 e33 H34 => ?_))
     dsimp only [List.nil_append, List.cons_append, List.set_cons_zero, List.set_cons_succ, layL] at H34
     refine d_nil (W_sr (sV rfl (py_loadS Tryz.underlying68 rfl Tryz.sizeOf68 rfl rfl (At.whole (H34.box 0 rfl))) (s_stoS (wn rfl) Tryz.sizeOf68 rfl rfl rfl rfl H34 1 rfl rfl (fun w34 e34 H35 => ?_))))
     dsimp only [List.nil_append, List.cons_append, List.set_cons_zero, List.set_cons_succ, layL] at H35
     refine s_nil (W_ret (hQ _ _ (finC Tryz.results74 rfl (run_loadVarS Tryz.underlying68 rfl Tryz.sizeOf68 rfl (At.whole (H35.box 1 rfl))) ?_)))
     exact ⟨H35.ext, _, _, _, _, _, _, rfl, Rec.out (H35.sub (.cons _ (.cons _ (.cons_cons _ (.cons_cons _ (.cons_cons _ List.Sublist.slnil)))))) (by assumption)⟩
   ·refine d_end rfl (wn rfl) rfl rfl (py_load Tryz.underlying45 rfl rfl (cell_atL (H3.box 0 rfl) rfl)) (d_call rfl (wn rfl) rfl rfl (pc_call Tryz.func150 rfl Tryz_nm150 rfl) (Tryz_clone_i (H3.sees 0 rfl) (by omega)) (fun hS _ _ r _ => hS.trans r.1.no) (fun v13 w35 r13 => ?_))
    obtain ⟨e35, r13⟩ := r13
    obtain ⟨fp13, H36⟩ := H3.res e35 r13
    obtain ⟨a13, k13, q14⟩ := own_slice (H36.mine 2 rfl)
    cases q14
    refine dV rfl rfl (fun zw hx => py_field Tryz.underlying68 rfl Tryz.sizeOf25 rfl rfl) (d_call rfl (wn rfl) rfl rfl (pc_call Tryz.func151 rfl Tryz_nm151 rfl) (Tryz_clone_b (H36.sees 1 rfl) (by omega)) (fun hS _ _ r _ => hS.trans r.1.no) (fun v14 w36 r14 => ?_))
    obtain ⟨e36, r14⟩ := r14
    obtain ⟨fp14, H37⟩ := H36.res e36 r14
    obtain ⟨a14, k14, q15⟩ := own_slice (H37.mine 3 rfl)
    cases q15
    refine d_call rfl (wn rfl) rfl rfl (pc_call Tryz.func151 rfl Tryz_nm151 rfl) (Tryz_clone_b (H37.sees 2 rfl) (by omega)) (fun hS _ _ r _ => hS.trans r.1.no) (fun v15 w37 r15 => ?_)
    obtain ⟨e37, r15⟩ := r15
    obtain ⟨fp15, H38⟩ := H37.res e37 r15
    obtain ⟨a15, k15, q16⟩ := own_slice (H38.mine 4 rfl)
    cases q16
    refine d_sto rfl (wn rfl) Tryz.sizeOf25 rfl rfl rfl H38 0 rfl rfl (fun _ h e _ => h.trans (e.mono fun _ _ q => by simp [q])) (fun w38 e38 H39 => ?_)
    dsimp only [List.nil_append, List.cons_append, List.set_cons_zero, List.set_cons_succ, layL] at H39
    refine dV rfl rfl (fun zw hx => py_field Tryz.underlying68 rfl Tryz.sizeOf45 rfl rfl) (d_sto rfl (wn rfl) Tryz.sizeOf45 rfl rfl rfl H39 0 rfl rfl (fun _ h e _ => h.trans (e.mono fun _ _ q => by simp [q])) (fun w39 e39 H40 => ?_))
    dsimp only [List.nil_append, List.cons_append, List.set_cons_zero, List.set_cons_succ, layL] at H40
    refine dV rfl rfl (fun zw hx => py_field Tryz.underlying68 rfl Tryz.sizeOf45 rfl rfl) (d_sto rfl (wn rfl) Tryz.sizeOf45 rfl rfl rfl H40 0 rfl rfl (fun _ h e _ => h.trans (e.mono fun _ _ q => by simp [q])) (fun w40 e40 H41 => ?_))
    dsimp only [List.nil_append, List.cons_append, List.set_cons_zero, List.set_cons_succ, layL] at H41
    refine d_nil (W_sr (sV rfl (py_loadS Tryz.underlying68 rfl Tryz.sizeOf68 rfl rfl (At.whole (H41.box 0 rfl))) (s_stoS (wn rfl) Tryz.sizeOf68 rfl rfl rfl rfl H41 1 rfl rfl (fun w41 e41 H42 => ?_))))
    dsimp only [List.nil_append, List.cons_append, List.set_cons_zero, List.set_cons_succ, layL] at H42
    refine s_nil (W_ret (hQ _ _ (finC Tryz.results74 rfl (run_loadVarS Tryz.underlying68 rfl Tryz.sizeOf68 rfl (At.whole (H42.box 1 rfl))) ?_)))
    exact ⟨H42.ext, _, _, _, _, _, _, rfl, Rec.out (H42.sub (.cons _ (.cons _ (.cons_cons _ (.cons_cons _ (.cons_cons _ List.Sublist.slnil)))))) (by assumption)⟩
  ·refine d_end rfl (wn rfl) rfl rfl (py_load Tryz.underlying45 rfl rfl (cell_atL (H3.box 0 rfl) rfl)) (d_fork (l1 := [(2, false), (4, false), (9, true), (5, false), (8, false), (10, false), (11, true), (12, false), (13, true), (14, false)]) (l2 := [(4, false), (2, false), (9, true), (5, false), (8, false), (10, false), (11, true), (12, false), (13, true), (14, false)]) rfl rfl rfl rfl ?_ ?_)
   ·refine d_call rfl (wn rfl) rfl rfl (pc_call Tryz.func150 rfl Tryz_nm150 rfl) (Tryz_clone_i (H3.sees 0 rfl) (by omega)) (fun hS _ _ r _ => hS.trans r.1.no) (fun v16 w42 r16 => ?_)
    obtain ⟨e42, r16⟩ := r16
    obtain ⟨fp16, H43⟩ := H3.res e42 r16
    obtain ⟨a16, k16, q17⟩ := own_slice (H43.mine 2 rfl)
    cases q17
    refine d_end rfl (wn rfl) rfl rfl (py_load Tryz.underlying45 rfl rfl (cell_atL (H43.box 0 rfl) rfl)) (dV rfl rfl (fun zw hx => py_field Tryz.underlying68 rfl Tryz.sizeOf25 rfl rfl) (d_call rfl (wn rfl) rfl rfl (pc_call Tryz.func151 rfl Tryz_nm151 rfl) (Tryz_clone_b (H43.sees 1 rfl) (by omega)) (fun hS _ _ r _ => hS.trans r.1.no) (fun v17 w43 r17 => ?_)))
    obtain ⟨e43, r17⟩ := r17
    obtain ⟨fp17, H44⟩ := H43.res e43 r17
    obtain ⟨a17, k17, q18⟩ := own_slice (H44.mine 3 rfl)
    cases q18
    refine d_call rfl (wn rfl) rfl rfl (pc_call Tryz.func151 rfl Tryz_nm151 rfl) (Tryz_clone_b (H44.sees 2 rfl) (by omega)) (fun hS _ _ r _ => hS.trans r.1.no) (fun v18 w44 r18 => ?_)
    obtain ⟨e44, r18⟩ := r18
    obtain ⟨fp18, H45⟩ := H44.res e44 r18
    obtain ⟨a18, k18, q19⟩ := own_slice (H45.mine 4 rfl)
    cases q19
    refine d_sto rfl (wn rfl) Tryz.sizeOf25 rfl rfl rfl H45 0 rfl rfl (fun _ h e _ => h.trans (e.mono fun _ _ q => by simp [q])) (fun w45 e45 H46 => ?_)
    dsimp only [List.nil_append, List.cons_append, List.set_cons_zero, List.set_cons_succ, layL] at H46
    refine dV rfl rfl (fun zw hx => py_field Tryz.underlying68 rfl Tryz.sizeOf45 rfl rfl) (d_sto rfl (wn rfl) Tryz.sizeOf45 rfl rfl rfl H46 0 rfl rfl (fun _ h e _ => h.trans (e.mono fun _ _ q => by simp [q])) (fun w46 e46 H47 => ?_))
    dsimp only [List.nil_append, List.cons_append, List.set_cons_zero, List.set_cons_succ, layL] at H47
    refine dV rfl rfl (fun zw hx => py_field Tryz.underlying68 rfl Tryz.sizeOf45 rfl rfl) (d_sto rfl (wn rfl) Tryz.sizeOf45 rfl rfl rfl H47 0 rfl rfl (fun _ h e _ => h.trans (e.mono fun _ _ q => by simp [q])) (fun w47 e47 H48 => ?_))
    dsimp only [List.nil_append, List.cons_append, List.set_cons_zero, List.set_cons_succ, layL] at H48
    refine d_nil (W_sr (sV rfl (py_loadS Tryz.underlying68 rfl Tryz.sizeOf68 rfl rfl (At.whole (H48.box 0 rfl))) (s_stoS (wn rfl) Tryz.sizeOf68 rfl rfl rfl rfl H48 1 rfl rfl (fun w48 e48 H49 => ?_))))
    dsimp only [List.nil_append, List.cons_append, List.set_cons_zero, List.set_cons_succ, layL] at H49
    refine s_nil (W_ret (hQ _ _ (finC Tryz.results74 rfl (run_loadVarS Tryz.underlying68 rfl Tryz.sizeOf68 rfl (At.whole (H49.box 1 rfl))) ?_)))
    exact ⟨H49.ext, _, _, _, _, _, _, rfl, Rec.out (H49.sub (.cons _ (.cons _ (.cons_cons _ (.cons_cons _ (.cons_cons _ List.Sublist.slnil)))))) (by assumption)⟩
   ·refine d_end rfl (wn rfl) rfl rfl (py_load Tryz.underlying45 rfl rfl (cell_atL (H3.box 0 rfl) rfl)) (d_call rfl (wn rfl) rfl rfl (pc_call Tryz.func150 rfl Tryz_nm150 rfl) (Tryz_clone_i (H3.sees 0 rfl) (by omega)) (fun hS _ _ r _ => hS.trans r.1.no) (fun v19 w49 r19 => ?_))
    obtain ⟨e49, r19⟩ := r19
    obtain ⟨fp19, H50⟩ := H3.res e49 r19
    obtain ⟨a19, k19, q20⟩ := own_slice (H50.mine 2 rfl)
    cases q20
    refine dV rfl rfl (fun zw hx => py_field Tryz.underlying68 rfl Tryz.sizeOf25 rfl rfl) (d_call rfl (wn rfl) rfl rfl (pc_call Tryz.func151 rfl Tryz_nm151 rfl) (Tryz_clone_b (H50.sees 1 rfl) (by omega)) (fun hS _ _ r _ => hS.trans r.1.no) (fun v20 w50 r20 => ?_))
    obtain ⟨e50, r20⟩ := r20
    obtain ⟨fp20, H51⟩ := H50.res e50 r20
    obtain ⟨a20, k20, q21⟩ := own_slice (H51.mine 3 rfl)
    cases q21
    refine d_call rfl (wn rfl) rfl rfl (pc_call Tryz.func151 rfl Tryz_nm151 rfl) (Tryz_clone_b (H51.sees 2 rfl) (by omega)) (fun hS _ _ r _ => hS.trans r.1.no) (fun v21 w51 r21 => ?_)
    obtain ⟨e51, r21⟩ := r21
    obtain ⟨fp21, H52⟩ := H51.res e51 r21
    obtain ⟨a21, k21, q22⟩ := own_slice (H52.mine 4 rfl)
    cases q22
    refine d_sto rfl (wn rfl) Tryz.sizeOf25 rfl rfl rfl H52 0 rfl rfl (fun _ h e _ => h.trans (e.mono fun _ _ q => by simp [q])) (fun w52 e52 H53 => ?_)
    dsimp only [List.nil_append, List.cons_append, List.set_cons_zero, List.set_cons_succ, layL] at H53
    refine dV rfl rfl (fun zw hx => py_field Tryz.underlying68 rfl Tryz.sizeOf45 rfl rfl) (d_sto rfl (wn rfl) Tryz.sizeOf45 rfl rfl rfl H53 0 rfl rfl (fun _ h e _ => h.trans (e.mono fun _ _ q => by simp [q])) (fun w53 e53 H54 => ?_))
    dsimp only [List.nil_append, List.cons_append, List.set_cons_zero, List.set_cons_succ, layL] at H54
    refine dV rfl rfl (fun zw hx => py_field Tryz.underlying68 rfl Tryz.sizeOf45 rfl rfl) (d_sto rfl (wn rfl) Tryz.sizeOf45 rfl rfl rfl H54 0 rfl rfl (fun _ h e _ => h.trans (e.mono fun _ _ q => by simp [q])) (fun w54 e54 H55 => ?_))
    dsimp only [List.nil_append, List.cons_append, List.set_cons_zero, List.set_cons_succ, layL] at H55
    refine d_nil (W_sr (sV rfl (py_loadS Tryz.underlying68 rfl Tryz.sizeOf68 rfl rfl (At.whole (H55.box 0 rfl))) (s_stoS (wn rfl) Tryz.sizeOf68 rfl rfl rfl rfl H55 1 rfl rfl (fun w55 e55 H56 => ?_))))
    dsimp only [List.nil_append, List.cons_append, List.set_cons_zero, List.set_cons_succ, layL] at H56
    refine s_nil (W_ret (hQ _ _ (finC Tryz.results74 rfl (run_loadVarS Tryz.underlying68 rfl Tryz.sizeOf68 rfl (At.whole (H56.box 1 rfl))) ?_)))
    exact ⟨H56.ext, _, _, _, _, _, _, rfl, Rec.out (H56.sub (.cons _ (.cons _ (.cons_cons _ (.cons_cons _ (.cons_cons _ List.Sublist.slnil)))))) (by assumption)⟩
 refine d_fork (l1 := [(4, false), (1032, false), (1, false), (1020, false), (2, false), (1009, false), (5, false), (7, false), (9, true), (8, false), (10, false), (11, true), (12, false), (13, true), (14, false), (7, false), (9, true), (5, false), (8, false), (10, false), (11, true), (12, false), (13, true), (14, false), (7, false), (2, false), (9, true), (5, false), (8, false), (10, false), (11, true), (12, false), (13, true), (14, false), (7, false), (1, false), (2, false), (9, true), (5, false), (8, false), (10, false), (11, true), (12, false), (13, true), (14, false)]) (l2 := [(7, false), (1022, false), (1, false), (1010, false), (2, false), (4, false), (9, true), (5, false), (8, false), (10, false), (11, true), (12, false), (13, true), (14, false), (4, false), (2, false), (9, true), (5, false), (8, false), (10, false), (11, true), (12, false), (13, true), (14, false), (4, false), (1, false), (2, false), (9, true), (5, false), (8, false), (10, false), (11, true), (12, false), (13, true), (14, false)]) rfl rfl rfl rfl ?_ ?_
 ·refine d_end rfl (wn rfl) rfl rfl (py_load Tryz.underlying45 rfl rfl (cell_atL (H3.box 0 rfl) rfl)) (d_fork (l1 := [(1, false), (1020, false), (2, false), (1009, false), (5, false), (7, false), (9, true), (8, false), (10, false), (11, true), (12, false), (13, true), (14, false), (7, false), (9, true), (5, false), (8, false), (10, false), (11, true), (12, false), (13, true), (14, false), (7, false), (2, false), (9, true), (5, false), (8, false), (10, false), (11, true), (12, false), (13, true), (14, false)]) (l2 := [(7, false), (1, false), (2, false), (9, true), (5, false), (8, false), (10, false), (11, true), (12, false), (13, true), (14, false)]) rfl rfl rfl rfl ?_ ?_)
  ·refine d_end rfl (wn rfl) rfl rfl (py_load Tryz.underlying25 rfl rfl (cell_atL (H3.box 0 rfl) rfl)) (d_fork (l1 := [(2, false), (1009, false), (5, false), (7, false), (9, true), (8, false), (10, false), (11, true), (12, false), (13, true), (14, false), (7, false), (9, true), (5, false), (8, false), (10, false), (11, true), (12, false), (13, true), (14, false)]) (l2 := [(7, false), (2, false), (9, true), (5, false), (8, false), (10, false), (11, true), (12, false), (13, true), (14, false)]) rfl rfl rfl rfl ?_ ?_)
   ·refine d_call rfl (wn rfl) rfl rfl (pc_call Tryz.func150 rfl Tryz_nm150 rfl) (Tryz_clone_i (H3.sees 0 rfl) (by omega)) (fun hS _ _ r _ => hS.trans r.1.no) (fun v22 w56 r22 => ?_)
    obtain ⟨e56, r22⟩ := r22
    obtain ⟨fp22, H57⟩ := H3.res e56 r22
    obtain ⟨a22, k22, q23⟩ := own_slice (H57.mine 2 rfl)
    cases q23
    refine d_fork (l1 := [(5, false), (7, false), (9, true), (8, false), (10, false), (11, true), (12, false), (13, true), (14, false)]) (l2 := [(7, false), (9, true), (5, false), (8, false), (10, false), (11, true), (12, false), (13, true), (14, false)]) rfl rfl rfl rfl ?_ ?_
    ·refine d_call rfl (wn rfl) rfl rfl (pc_call Tryz.func151 rfl Tryz_nm151 rfl) (Tryz_clone_b (H57.sees 1 rfl) (by omega)) (fun hS _ _ r _ => hS.trans r.1.no) (fun v23 w57 r23 => ?_)
     obtain ⟨e57, r23⟩ := r23
     obtain ⟨fp23, H58⟩ := H57.res e57 r23
     obtain ⟨a23, k23, q24⟩ := own_slice (H58.mine 3 rfl)
     cases q24
     refine d_end rfl (wn rfl) rfl rfl (py_load Tryz.underlying45 rfl rfl (cell_atL (H58.box 0 rfl) rfl)) (dV rfl rfl (fun zw hx => py_field Tryz.underlying68 rfl Tryz.sizeOf25 rfl rfl) (d_call rfl (wn rfl) rfl rfl (pc_call Tryz.func151 rfl Tryz_nm151 rfl) (Tryz_clone_b (H58.sees 2 rfl) (by omega)) (fun hS _ _ r _ => hS.trans r.1.no) (fun v24 w58 r24 => ?_)))
     obtain ⟨e58, r24⟩ := r24
     obtain ⟨fp24, H59⟩ := H58.res e58 r24
     obtain ⟨a24, k24, q25⟩ := own_slice (H59.mine 4 rfl)
     cases q25
     refine d_sto rfl (wn rfl) Tryz.sizeOf25 rfl rfl rfl H59 0 rfl rfl (fun _ h e _ => h.trans (e.mono fun _ _ q => by simp [q])) (fun w59 e59 H60 => ?_)
     dsimp only [List.nil_append, List.cons_append, List.set_cons_zero, List.set_cons_succ, layL] at H60
     refine dV rfl rfl (fun zw hx => py_field Tryz.underlying68 rfl Tryz.sizeOf45 rfl rfl) (d_sto rfl (wn rfl) Tryz.sizeOf45 rfl rfl rfl H60 0 rfl rfl (fun _ h e _ => h.trans (e.mono fun _ _ q => by simp [q])) (fun w60 e60 H61 => ?_))
     dsimp only [List.nil_append, List.cons_append, List.set_cons_zero, List.set_cons_succ, layL] at H61
     refine dV rfl rfl (fun zw hx => py_field Tryz.underlying68 rfl Tryz.sizeOf45 rfl rfl) (d_sto rfl (wn rfl) Tryz.sizeOf45 rfl rfl rfl H61 0 rfl rfl (fun _ h e _ => h.trans (e.mono fun _ _ q => by simp [q])) (fun w61 e61 H62 => ?_))
     dsimp only [List.nil_append, List.cons_append, List.set_cons_zero, List.set_cons_succ, layL] at H62
     refine d_nil (W_sr (sV rfl (py_loadS Tryz.underlying68 rfl Tryz.sizeOf68 rfl rfl (At.whole (H62.box 0 rfl))) (s_stoS (wn rfl) Tryz.sizeOf68 rfl rfl rfl rfl H62 1 rfl rfl (fun w62 e62 H63 => ?_))))
     dsimp only [List.nil_append, List.cons_append, List.set_cons_zero, List.set_cons_succ, layL] at H63
     refine s_nil (W_ret (hQ _ _ (finC Tryz.results74 rfl (run_loadVarS Tryz.underlying68 rfl Tryz.sizeOf68 rfl (At.whole (H63.box 1 rfl))) ?_)))
     exact ⟨H63.ext, _, _, _, _, _, _, rfl, Rec.out (H63.sub (.cons _ (.cons _ (.cons_cons _ (.cons_cons _ (.cons_cons _ List.Sublist.slnil)))))) (by assumption)⟩
    ·refine d_end rfl (wn rfl) rfl rfl (py_load Tryz.underlying45 rfl rfl (cell_atL (H57.box 0 rfl) rfl)) (dV rfl rfl (fun zw hx => py_field Tryz.underlying68 rfl Tryz.sizeOf25 rfl rfl) (d_call rfl (wn rfl) rfl rfl (pc_call Tryz.func151 rfl Tryz_nm151 rfl) (Tryz_clone_b (H57.sees 1 rfl) (by omega)) (fun hS _ _ r _ => hS.trans r.1.no) (fun v25 w63 r25 => ?_)))
     obtain ⟨e63, r25⟩ := r25
     obtain ⟨fp25, H64⟩ := H57.res e63 r25
     obtain ⟨a25, k25, q26⟩ := own_slice (H64.mine 3 rfl)
     cases q26
     refine d_call rfl (wn rfl) rfl rfl (pc_call Tryz.func151 rfl Tryz_nm151 rfl) (Tryz_clone_b (H64.sees 2 rfl) (by omega)) (fun hS _ _ r _ => hS.trans r.1.no) (fun v26 w64 r26 => ?_)
     obtain ⟨e64, r26⟩ := r26
     obtain ⟨fp26, H65⟩ := H64.res e64 r26
     obtain ⟨a26, k26, q27⟩ := own_slice (H65.mine 4 rfl)
     cases q27
     refine d_sto rfl (wn rfl) Tryz.sizeOf25 rfl rfl rfl H65 0 rfl rfl (fun _ h e _ => h.trans (e.mono fun _ _ q => by simp [q])) (fun w65 e65 H66 => ?_)
     dsimp only [List.nil_append, List.cons_append, List.set_cons_zero, List.set_cons_succ, layL] at H66
     refine dV rfl rfl (fun zw hx => py_field Tryz.underlying68 rfl Tryz.sizeOf45 rfl rfl) (d_sto rfl (wn rfl) Tryz.sizeOf45 rfl rfl rfl H66 0 rfl rfl (fun _ h e _ => h.trans (e.mono fun _ _ q => by simp [q])) (fun w66 e66 H67 => ?_))
     dsimp only [List.nil_append, List.cons_append, List.set_cons_zero, List.set_cons_succ, layL] at H67
     refine dV rfl rfl (fun zw hx => py_field Tryz.underlying68 rfl Tryz.sizeOf45 rfl rfl) (d_sto rfl (wn rfl) Tryz.sizeOf45 rfl rfl rfl H67 0 rfl rfl (fun _ h e _ => h.trans (e.mono fun _ _ q => by simp [q])) (fun w67 e67 H68 => ?_))
     dsimp only [List.nil_append, List.cons_append, List.set_cons_zero, List.set_cons_succ, layL] at H68
     refine d_nil (W_sr (sV rfl (py_loadS Tryz.underlying68 rfl Tryz.sizeOf68 rfl rfl (At.whole (H68.box 0 rfl))) (s_stoS (wn rfl) Tryz.sizeOf68 rfl rfl rfl rfl H68 1 rfl rfl (fun w68 e68 H69 => ?_))))
     dsimp only [List.nil_append, List.cons_append, List.set_cons_zero, List.set_cons_succ, layL] at H69
     refine s_nil (W_ret (hQ _ _ (finC Tryz.results74 rfl (run_loadVarS Tryz.underlying68 rfl Tryz.sizeOf68 rfl (At.whole (H69.box 1 rfl))) ?_)))
     exact ⟨H69.ext, _, _, _, _, _, _, rfl, Rec.out (H69.sub (.cons _ (.cons _ (.cons_cons _ (.cons_cons _ (.cons_cons _ List.Sublist.slnil)))))) (by assumption)⟩
   ·refine d_end rfl (wn rfl) rfl rfl (py_load Tryz.underlying45 rfl rfl (cell_atL (H3.box 0 rfl) rfl)) (d_call rfl (wn rfl) rfl rfl (pc_call Tryz.func150 rfl Tryz_nm150 rfl) (Tryz_clone_i (H3.sees 0 rfl) (by omega)) (fun hS _ _ r _ => hS.trans r.1.no) (fun v27 w69 r27 => ?_))
    obtain ⟨e69, r27⟩ := r27
    obtain ⟨fp27, H70⟩ := H3.res e69 r27
    obtain ⟨a27, k27, q28⟩ := own_slice (H70.mine 2 rfl)
    cases q28
    refine dV rfl rfl (fun zw hx => py_field Tryz.underlying68 rfl Tryz.sizeOf25 rfl rfl) (d_call rfl (wn rfl) rfl rfl (pc_call Tryz.func151 rfl Tryz_nm151 rfl) (Tryz_clone_b (H70.sees 1 rfl) (by omega)) (fun hS _ _ r _ => hS.trans r.1.no) (fun v28 w70 r28 => ?_))
    obtain ⟨e70, r28⟩ := r28
    obtain ⟨fp28, H71⟩ := H70.res e70 r28
    obtain ⟨a28, k28, q29⟩ := own_slice (H71.mine 3 rfl)
    cases q29
    refine d_call rfl (wn rfl) rfl rfl (pc_call Tryz.func151 rfl Tryz_nm151 rfl) (Tryz_clone_b (H71.sees 2 rfl) (by omega)) (fun hS _ _ r _ => hS.trans r.1.no) (fun v29 w71 r29 => ?_)
    obtain ⟨e71, r29⟩ := r29
    obtain ⟨fp29, H72⟩ := H71.res e71 r29
    obtain ⟨a29, k29, q30⟩ := own_slice (H72.mine 4 rfl)
    cases q30
    refine d_sto rfl (wn rfl) Tryz.sizeOf25 rfl rfl rfl H72 0 rfl rfl (fun _ h e _ => h.trans (e.mono fun _ _ q => by simp [q])) (fun w72 e72 H73 => ?_)
    dsimp only [List.nil_append, List.cons_append, List.set_cons_zero, List.set_cons_succ, layL] at H73
    refine dV rfl rfl (fun zw hx => py_field Tryz.underlying68 rfl Tryz.sizeOf45 rfl rfl) (d_sto rfl (wn rfl) Tryz.sizeOf45 rfl rfl rfl H73 0 rfl rfl (fun _ h e _ => h.trans (e.mono fun _ _ q => by simp [q])) (fun w73 e73 H74 => ?_))
    dsimp only [List.nil_append, List.cons_append, List.set_cons_zero, List.set_cons_succ, layL] at H74
    refine dV rfl rfl (fun zw hx => py_field Tryz.underlying68 rfl Tryz.sizeOf45 rfl rfl) (d_sto rfl (wn rfl) Tryz.sizeOf45 rfl rfl rfl H74 0 rfl rfl (fun _ h e _ => h.trans (e.mono fun _ _ q => by simp [q])) (fun w74 e74 H75 => ?_))
    dsimp only [List.nil_append, List.cons_append, List.set_cons_zero, List.set_cons_succ, layL] at H75
    refine d_nil (W_sr (sV rfl (py_loadS Tryz.underlying68 rfl Tryz.sizeOf68 rfl rfl (At.whole (H75.box 0 rfl))) (s_stoS (wn rfl) Tryz.sizeOf68 rfl rfl rfl rfl H75 1 rfl rfl (fun w75 e75 H76 => ?_))))
    dsimp only [List.nil_append, List.cons_append, List.set_cons_zero, List.set_cons_succ, layL] at H76
    refine s_nil (W_ret (hQ _ _ (finC Tryz.results74 rfl (run_loadVarS Tryz.underlying68 rfl Tryz.sizeOf68 rfl (At.whole (H76.box 1 rfl))) ?_)))
    exact ⟨H76.ext, _, _, _, _, _, _, rfl, Rec.out (H76.sub (.cons _ (.cons _ (.cons_cons _ (.cons_cons _ (.cons_cons _ List.Sublist.slnil)))))) (by assumption)⟩
  ·refine d_end rfl (wn rfl) rfl rfl (py_load Tryz.underlying45 rfl rfl (cell_atL (H3.box 0 rfl) rfl)) (d_end rfl (wn rfl) rfl rfl (py_load Tryz.underlying25 rfl rfl (cell_atL (H3.box 0 rfl) rfl)) (d_call rfl (wn rfl) rfl rfl (pc_call Tryz.func150 rfl Tryz_nm150 rfl) (Tryz_clone_i (H3.sees 0 rfl) (by omega)) (fun hS _ _ r _ => hS.trans r.1.no) (fun v30 w76 r30 => ?_)))
   obtain ⟨e76, r30⟩ := r30
   obtain ⟨fp30, H77⟩ := H3.res e76 r30
   obtain ⟨a30, k30, q31⟩ := own_slice (H77.mine 2 rfl)
   cases q31
   refine dV rfl rfl (fun zw hx => py_field Tryz.underlying68 rfl Tryz.sizeOf25 rfl rfl) (d_call rfl (wn rfl) rfl rfl (pc_call Tryz.func151 rfl Tryz_nm151 rfl) (Tryz_clone_b (H77.sees 1 rfl) (by omega)) (fun hS _ _ r _ => hS.trans r.1.no) (fun v31 w77 r31 => ?_))
   obtain ⟨e77, r31⟩ := r31
   obtain ⟨fp31, H78⟩ := H77.res e77 r31
   obtain ⟨a31, k31, q32⟩ := own_slice (H78.mine 3 rfl)
   cases q32
   refine d_call rfl (wn rfl) rfl rfl (pc_call Tryz.func151 rfl Tryz_nm151 rfl) (Tryz_clone_b (H78.sees 2 rfl) (by omega)) (fun hS _ _ r _ => hS.trans r.1.no) (fun v32 w78 r32 => ?_)
   obtain ⟨e78, r32⟩ := r32
   obtain ⟨fp32, H79⟩ := H78.res e78 r32
   obtain ⟨a32, k32, q33⟩ := own_slice (H79.mine 4 rfl)
   cases q33
   refine d_sto rfl (wn rfl) Tryz.sizeOf25 rfl rfl rfl H79 0 rfl rfl (fun _ h e _ => h.trans (e.mono fun _ _ q => by simp [q])) (fun w79 e79 H80 => ?_)
   dsimp only [List.nil_append, List.cons_append, List.set_cons_zero, List.set_cons_succ, layL] at H80
   refine dV rfl rfl (fun zw hx => py_field Tryz.underlying68 rfl Tryz.sizeOf45 rfl rfl) (d_sto rfl (wn rfl) Tryz.sizeOf45 rfl rfl rfl H80 0 rfl rfl (fun _ h e _ => h.trans (e.mono fun _ _ q => by simp [q])) (fun w80 e80 H81 => ?_))
   dsimp only [List.nil_append, List.cons_append, List.set_cons_zero, List.set_cons_succ, layL] at H81
   refine dV rfl rfl (fun zw hx => py_field Tryz.underlying68 rfl Tryz.sizeOf45 rfl rfl) (d_sto rfl (wn rfl) Tryz.sizeOf45 rfl rfl rfl H81 0 rfl rfl (fun _ h e _ => h.trans (e.mono fun _ _ q => by simp [q])) (fun w81 e81 H82 => ?_))
   dsimp only [List.nil_append, List.cons_append, List.set_cons_zero, List.set_cons_succ, layL] at H82
   refine d_nil (W_sr (sV rfl (py_loadS Tryz.underlying68 rfl Tryz.sizeOf68 rfl rfl (At.whole (H82.box 0 rfl))) (s_stoS (wn rfl) Tryz.sizeOf68 rfl rfl rfl rfl H82 1 rfl rfl (fun w82 e82 H83 => ?_))))
   dsimp only [List.nil_append, List.cons_append, List.set_cons_zero, List.set_cons_succ, layL] at H83
   refine s_nil (W_ret (hQ _ _ (finC Tryz.results74 rfl (run_loadVarS Tryz.underlying68 rfl Tryz.sizeOf68 rfl (At.whole (H83.box 1 rfl))) ?_)))
   exact ⟨H83.ext, _, _, _, _, _, _, rfl, Rec.out (H83.sub (.cons _ (.cons _ (.cons_cons _ (.cons_cons _ (.cons_cons _ List.Sublist.slnil)))))) (by assumption)⟩
 ·refine d_end rfl (wn rfl) rfl rfl (py_load Tryz.underlying45 rfl rfl (cell_atL (H3.box 0 rfl) rfl)) (d_fork (l1 := [(1, false), (1010, false), (2, false), (4, false), (9, true), (5, false), (8, false), (10, false), (11, true), (12, false), (13, true), (14, false), (4, false), (2, false), (9, true), (5, false), (8, false), (10, false), (11, true), (12, false), (13, true), (14, false)]) (l2 := [(4, false), (1, false), (2, false), (9, true), (5, false), (8, false), (10, false), (11, true), (12, false), (13, true), (14, false)]) rfl rfl rfl rfl ?_ ?_)
  ·refine d_end rfl (wn rfl) rfl rfl (py_load Tryz.underlying25 rfl rfl (cell_atL (H3.box 0 rfl) rfl)) (d_fork (l1 := [(2, false), (4, false), (9, true), (5, false), (8, false), (10, false), (11, true), (12, false), (13, true), (14, false)]) (l2 := [(4, false), (2, false), (9, true), (5, false), (8, false), (10, false), (11, true), (12, false), (13, true), (14, false)]) rfl rfl rfl rfl ?_ ?_)
   ·refine d_call rfl (wn rfl) rfl rfl (pc_call Tryz.func150 rfl Tryz_nm150 rfl) (Tryz_clone_i (H3.sees 0 rfl) (by omega)) (fun hS _ _ r _ => hS.trans r.1.no) (fun v33 w83 r33 => ?_)
    obtain ⟨e83, r33⟩ := r33
    obtain ⟨fp33, H84⟩ := H3.res e83 r33
    obtain ⟨a33, k33, q34⟩ := own_slice (H84.mine 2 rfl)
    cases q34
    refine d_end rfl (wn rfl) rfl rfl (py_load Tryz.underlying45 rfl rfl (cell_atL (H84.box 0 rfl) rfl)) (dV rfl rfl (fun zw hx => py_field Tryz.underlying68 rfl Tryz.sizeOf25 rfl rfl) (d_call rfl (wn rfl) rfl rfl (pc_call Tryz.func151 rfl Tryz_nm151 rfl) (Tryz_clone_b (H84.sees 1 rfl) (by omega)) (fun hS _ _ r _ => hS.trans r.1.no) (fun v34 w84 r34 => ?_)))
    obtain ⟨e84, r34⟩ := r34
    obtain ⟨fp34, H85⟩ := H84.res e84 r34
    obtain ⟨a34, k34, q35⟩ := own_slice (H85.mine 3 rfl)
    cases q35
    refine d_call rfl (wn rfl) rfl rfl (pc_call Tryz.func151 rfl Tryz_nm151 rfl) (Tryz_clone_b (H85.sees 2 rfl) (by omega)) (fun hS _ _ r _ => hS.trans r.1.no) (fun v35 w85 r35 => ?_)
    obtain ⟨e85, r35⟩ := r35
    obtain ⟨fp35, H86⟩ := H85.res e85 r35
    obtain ⟨a35, k35, q36⟩ := own_slice (H86.mine 4 rfl)
    cases q36
    refine d_sto rfl (wn rfl) Tryz.sizeOf25 rfl rfl rfl H86 0 rfl rfl (fun _ h e _ => h.trans (e.mono fun _ _ q => by simp [q])) (fun w86 e86 H87 => ?_)
    dsimp only [List.nil_append, List.cons_append, List.set_cons_zero, List.set_cons_succ, layL] at H87
    refine dV rfl rfl (fun zw hx => py_field Tryz.underlying68 rfl Tryz.sizeOf45 rfl rfl) (d_sto rfl (wn rfl) Tryz.sizeOf45 rfl rfl rfl H87 0 rfl rfl (fun _ h e _ => h.trans (e.mono fun _ _ q => by simp [q])) (fun w87 e87 H88 => ?_))
    dsimp only [List.nil_append, List.cons_append, List.set_cons_zero, List.set_cons_succ, layL] at H88
    refine dV rfl rfl (fun zw hx => py_field Tryz.underlying68 rfl Tryz.sizeOf45 rfl rfl) (d_sto rfl (wn rfl) Tryz.sizeOf45 rfl rfl rfl H88 0 rfl rfl (fun _ h e _ => h.trans (e.mono fun _ _ q => by simp [q])) (fun w88 e88 H89 => ?_))
    dsimp only [List.nil_append, List.cons_append, List.set_cons_zero, List.set_cons_succ, layL] at H89
    refine d_nil (W_sr (sV rfl (py_loadS Tryz.underlying68 rfl Tryz.sizeOf68 rfl rfl (At.whole (H89.box 0 rfl))) (s_stoS (wn rfl) Tryz.sizeOf68 rfl rfl rfl rfl H89 1 rfl rfl (fun w89 e89 H90 => ?_))))
    dsimp only [List.nil_append, List.cons_append, List.set_cons_zero, List.set_cons_succ, layL] at H90
    refine s_nil (W_ret (hQ _ _ (finC Tryz.results74 rfl (run_loadVarS Tryz.underlying68 rfl Tryz.sizeOf68 rfl (At.whole (H90.box 1 rfl))) ?_)))
    exact ⟨H90.ext, _, _, _, _, _, _, rfl, Rec.out (H90.sub (.cons _ (.cons _ (.cons_cons _ (.cons_cons _ (.cons_cons _ List.Sublist.slnil)))))) (by assumption)⟩
   ·refine d_end rfl (wn rfl) rfl rfl (py_load Tryz.underlying45 rfl rfl (cell_atL (H3.box 0 rfl) rfl)) (d_call rfl (wn rfl) rfl rfl (pc_call Tryz.func150 rfl Tryz_nm150 rfl) (Tryz_clone_i (H3.sees 0 rfl) (by omega)) (fun hS _ _ r _ => hS.trans r.1.no) (fun v36 w90 r36 => ?_))
    obtain ⟨e90, r36⟩ := r36
    obtain ⟨fp36, H91⟩ := H3.res e90 r36
    obtain ⟨a36, k36, q37⟩ := own_slice (H91.mine 2 rfl)
    cases q37
    refine dV rfl rfl (fun zw hx => py_field Tryz.underlying68 rfl Tryz.sizeOf25 rfl rfl) (d_call rfl (wn rfl) rfl rfl (pc_call Tryz.func151 rfl Tryz_nm151 rfl) (Tryz_clone_b (H91.sees 1 rfl) (by omega)) (fun hS _ _ r _ => hS.trans r.1.no) (fun v37 w91 r37 => ?_))
    obtain ⟨e91, r37⟩ := r37
    obtain ⟨fp37, H92⟩ := H91.res e91 r37
    obtain ⟨a37, k37, q38⟩ := own_slice (H92.mine 3 rfl)
    cases q38
    refine d_call rfl (wn rfl) rfl rfl (pc_call Tryz.func151 rfl Tryz_nm151 rfl) (Tryz_clone_b (H92.sees 2 rfl) (by omega)) (fun hS _ _ r _ => hS.trans r.1.no) (fun v38 w92 r38 => ?_)
    obtain ⟨e92, r38⟩ := r38
    obtain ⟨fp38, H93⟩ := H92.res e92 r38
    obtain ⟨a38, k38, q39⟩ := own_slice (H93.mine 4 rfl)
    cases q39
    refine d_sto rfl (wn rfl) Tryz.sizeOf25 rfl rfl rfl H93 0 rfl rfl (fun _ h e _ => h.trans (e.mono fun _ _ q => by simp [q])) (fun w93 e93 H94 => ?_)
    dsimp only [List.nil_append, List.cons_append, List.set_cons_zero, List.set_cons_succ, layL] at H94
    refine dV rfl rfl (fun zw hx => py_field Tryz.underlying68 rfl Tryz.sizeOf45 rfl rfl) (d_sto rfl (wn rfl) Tryz.sizeOf45 rfl rfl rfl H94 0 rfl rfl (fun _ h e _ => h.trans (e.mono fun _ _ q => by simp [q])) (fun w94 e94 H95 => ?_))
    dsimp only [List.nil_append, List.cons_append, List.set_cons_zero, List.set_cons_succ, layL] at H95
    refine dV rfl rfl (fun zw hx => py_field Tryz.underlying68 rfl Tryz.sizeOf45 rfl rfl) (d_sto rfl (wn rfl) Tryz.sizeOf45 rfl rfl rfl H95 0 rfl rfl (fun _ h e _ => h.trans (e.mono fun _ _ q => by simp [q])) (fun w95 e95 H96 => ?_))
    dsimp only [List.nil_append, List.cons_append, List.set_cons_zero, List.set_cons_succ, layL] at H96
    refine d_nil (W_sr (sV rfl (py_loadS Tryz.underlying68 rfl Tryz.sizeOf68 rfl rfl (At.whole (H96.box 0 rfl))) (s_stoS (wn rfl) Tryz.sizeOf68 rfl rfl rfl rfl H96 1 rfl rfl (fun w96 e96 H97 => ?_))))
    dsimp only [List.nil_append, List.cons_append, List.set_cons_zero, List.set_cons_succ, layL] at H97
    refine s_nil (W_ret (hQ _ _ (finC Tryz.results74 rfl (run_loadVarS Tryz.underlying68 rfl Tryz.sizeOf68 rfl (At.whole (H97.box 1 rfl))) ?_)))
    exact ⟨H97.ext, _, _, _, _, _, _, rfl, Rec.out (H97.sub (.cons _ (.cons _ (.cons_cons _ (.cons_cons _ (.cons_cons _ List.Sublist.slnil)))))) (by assumption)⟩
  ·refine d_end rfl (wn rfl) rfl rfl (py_load Tryz.underlying45 rfl rfl (cell_atL (H3.box 0 rfl) rfl)) (d_end rfl (wn rfl) rfl rfl (py_load Tryz.underlying25 rfl rfl (cell_atL (H3.box 0 rfl) rfl)) (d_call rfl (wn rfl) rfl rfl (pc_call Tryz.func150 rfl Tryz_nm150 rfl) (Tryz_clone_i (H3.sees 0 rfl) (by omega)) (fun hS _ _ r _ => hS.trans r.1.no) (fun v39 w97 r39 => ?_)))
   obtain ⟨e97, r39⟩ := r39
   obtain ⟨fp39, H98⟩ := H3.res e97 r39
   obtain ⟨a39, k39, q40⟩ := own_slice (H98.mine 2 rfl)
   cases q40
   refine dV rfl rfl (fun zw hx => py_field Tryz.underlying68 rfl Tryz.sizeOf25 rfl rfl) (d_call rfl (wn rfl) rfl rfl (pc_call Tryz.func151 rfl Tryz_nm151 rfl) (Tryz_clone_b (H98.sees 1 rfl) (by omega)) (fun hS _ _ r _ => hS.trans r.1.no) (fun v40 w98 r40 => ?_))
   obtain ⟨e98, r40⟩ := r40
   obtain ⟨fp40, H99⟩ := H98.res e98 r40
   obtain ⟨a40, k40, q41⟩ := own_slice (H99.mine 3 rfl)
   cases q41
   refine d_call rfl (wn rfl) rfl rfl (pc_call Tryz.func151 rfl Tryz_nm151 rfl) (Tryz_clone_b (H99.sees 2 rfl) (by omega)) (fun hS _ _ r _ => hS.trans r.1.no) (fun v41 w99 r41 => ?_)
   obtain ⟨e99, r41⟩ := r41
   obtain ⟨fp41, H100⟩ := H99.res e99 r41
   obtain ⟨a41, k41, q42⟩ := own_slice (H100.mine 4 rfl)
   cases q42
   refine d_sto rfl (wn rfl) Tryz.sizeOf25 rfl rfl rfl H100 0 rfl rfl (fun _ h e _ => h.trans (e.mono fun _ _ q => by simp [q])) (fun w100 e100 H101 => ?_)
   dsimp only [List.nil_append, List.cons_append, List.set_cons_zero, List.set_cons_succ, layL] at H101
   refine dV rfl rfl (fun zw hx => py_field Tryz.underlying68 rfl Tryz.sizeOf45 rfl rfl) (d_sto rfl (wn rfl) Tryz.sizeOf45 rfl rfl rfl H101 0 rfl rfl (fun _ h e _ => h.trans (e.mono fun _ _ q => by simp [q])) (fun w101 e101 H102 => ?_))
   dsimp only [List.nil_append, List.cons_append, List.set_cons_zero, List.set_cons_succ, layL] at H102
   refine dV rfl rfl (fun zw hx => py_field Tryz.underlying68 rfl Tryz.sizeOf45 rfl rfl) (d_sto rfl (wn rfl) Tryz.sizeOf45 rfl rfl rfl H102 0 rfl rfl (fun _ h e _ => h.trans (e.mono fun _ _ q => by simp [q])) (fun w102 e102 H103 => ?_))
   dsimp only [List.nil_append, List.cons_append, List.set_cons_zero, List.set_cons_succ, layL] at H103
   refine d_nil (W_sr (sV rfl (py_loadS Tryz.underlying68 rfl Tryz.sizeOf68 rfl rfl (At.whole (H103.box 0 rfl))) (s_stoS (wn rfl) Tryz.sizeOf68 rfl rfl rfl rfl H103 1 rfl rfl (fun w103 e103 H104 => ?_))))
   dsimp only [List.nil_append, List.cons_append, List.set_cons_zero, List.set_cons_succ, layL] at H104
   refine s_nil (W_ret (hQ _ _ (finC Tryz.results74 rfl (run_loadVarS Tryz.underlying68 rfl Tryz.sizeOf68 rfl (At.whole (H104.box 1 rfl))) ?_)))
   exact ⟨H104.ext, _, _, _, _, _, _, rfl, Rec.out (H104.sub (.cons _ (.cons _ (.cons_cons _ (.cons_cons _ (.cons_cons _ List.Sublist.slnil)))))) (by assumption)⟩
theorem Tryz_spec_l5CopyRec {w : World} {r : Rec} {rA6 : Option Addr} {rC6 : Nat} {rA7 : Option Addr} {rC7 : Nat} {rA8 : Option Addr} {rC8 : Nat} (rK : r.Ok) (rS6 : Sees w [.slice rA6 r.Rows.length rC6] r.Rows) (rS7 : Sees w [.slice rA7 r.Data.length rC7] r.Data) (rS8 : Sees w [.slice rA8 r.Delta.length rC8] r.Delta) (hb : szRec r ≤ 1048576) : Ret Tryz.prog 65 #[r.val rA6 rC6 rA7 rC7 rA8 rC8] w fun v w' => Ext No w w' ∧ (∃ A6 C6 A7 C7 A8 C8, v = r.val A6 C6 A7 C7 A8 C8 ∧ Res w w' [.int .i64 r.Kind, .int .i64 r.Seq, .string r.Name, .int .i64 r.Length, .int .i64 r.Group, .int .i64 r.Row, .slice A6 r.Rows.length C6, .slice A7 r.Data.length C7, .slice A8 r.Delta.length C8] r) := by
 have rK2 := rK
 unfold Rec.Ok at rK2
 try unfold I64ok at rK2
 try unfold maxLen at rK2
 have rN2 : r.Name.size ≤ maxLen := by unfold maxLen; omega
 have rL6 := sees_len rS6
 unfold maxLen at rL6
 obtain ⟨rF6, rO6⟩ := rS6
 have rL7 := sees_len rS7
 unfold maxLen at rL7
 obtain ⟨rF7, rO7⟩ := rS7
 have rL8 := sees_len rS8
 unfold maxLen at rL8
 obtain ⟨rF8, rO8⟩ := rS8
 unfold szRec at hb
 refine ret_Q (vs := [r.val rA6 rC6 rA7 rC7 rA8 rC8]) Tryz.func65 rfl Tryz.ntmps65 rfl (fun Q hQ hN => ?_)
 have H0 := Sep.start (w := w) (F := [seen false [.slice rA6 r.Rows.length rC6] r.Rows rF6, seen false [.slice rA7 r.Data.length rC7] r.Data rF7, seen false [.slice rA8 r.Delta.length rC8] r.Delta rF8]) (all_cons rO6 (all_cons rO7 (all_cons rO8 (by simp))))
 refine W_sr (s_box (wn rfl) rfl rfl H0 (fun b1 w1 e1 g1 H1 => ?_))
 refine s_var (wn rfl) rfl Tryz.zeroValue68 H1 (fun b2 w2 e2 g2 H2 => ?_)
 refine s_nil (W_sr (s_lit0 (α := Int) (wn rfl) rfl Tryz.underlying25 Tryz_ty2 H2 (fun b3 w3 e3 g3 H3 => ?_)))
 refine sV rfl (py_field Tryz.underlying68 rfl Tryz.sizeOf25 rfl rfl) (sV rfl (py_load Tryz.underlying25 rfl rfl (cell_atL (H3.box 0 rfl) rfl)) (s_appF (wn rfl) rfl Tryz.underlying25 Tryz_ty2 rfl rfl rfl H3 2 rfl (H3.seen 0 rfl) (by (try simp only [List.length_nil]); unfold maxLen; omega) (by (try simp only [List.length_nil]); omega) (fun v1 w4 fp1 H4 => ?_)))
 refine sV rfl (py_field Tryz.underlying68 rfl Tryz.sizeOf25 rfl rfl) ?_
 obtain ⟨a1, k1, q1⟩ := own_slice (H4.mine 2 rfl)
 cases q1
 refine s_sto (wn rfl) Tryz.sizeOf25 rfl rfl rfl H4 0 rfl rfl (fun w5 e4 H5 => ?_)
 dsimp only [List.nil_append, List.cons_append, List.set_cons_zero, List.set_cons_succ, layL] at H5
 refine s_nil (W_sr (s_lit0 (α := UInt8) (wn rfl) rfl Tryz.underlying45 Tryz_ty5 H5 (fun b4 w6 e5 g4 H6 => ?_)))
 refine sV rfl (py_field Tryz.underlying68 rfl Tryz.sizeOf45 rfl rfl) (sV rfl (py_load Tryz.underlying45 rfl rfl (cell_atL (H6.box 0 rfl) rfl)) (s_appF (wn rfl) rfl Tryz.underlying45 Tryz_ty5 rfl rfl rfl H6 3 rfl (H6.seen 1 rfl) (by (try simp only [List.length_nil]); unfold maxLen; omega) (by (try simp only [List.length_nil]); omega) (fun v2 w7 fp2 H7 => ?_)))
 refine sV rfl (py_field Tryz.underlying68 rfl Tryz.sizeOf45 rfl rfl) ?_
 obtain ⟨a2, k2, q2⟩ := own_slice (H7.mine 3 rfl)
 cases q2
 refine s_sto (wn rfl) Tryz.sizeOf45 rfl rfl rfl H7 0 rfl rfl (fun w8 e6 H8 => ?_)
 dsimp only [List.nil_append, List.cons_append, List.set_cons_zero, List.set_cons_succ, layL] at H8
 refine s_nil (W_sr (s_lit0 (α := UInt8) (wn rfl) rfl Tryz.underlying45 Tryz_ty5 H8 (fun b5 w9 e7 g5 H9 => ?_)))
 refine sV rfl (py_field Tryz.underlying68 rfl Tryz.sizeOf45 rfl rfl) (sV rfl (py_load Tryz.underlying45 rfl rfl (cell_atL (H9.box 0 rfl) rfl)) (s_appF (wn rfl) rfl Tryz.underlying45 Tryz_ty5 rfl rfl rfl H9 4 rfl (H9.seen 2 rfl) (by (try simp only [List.length_nil]); unfold maxLen; omega) (by (try simp only [List.length_nil]); omega) (fun v3 w10 fp3 H10 => ?_)))
 refine sV rfl (py_field Tryz.underlying68 rfl Tryz.sizeOf45 rfl rfl) ?_
 obtain ⟨a3, k3, q3⟩ := own_slice (H10.mine 4 rfl)
 cases q3
 refine s_sto (wn rfl) Tryz.sizeOf45 rfl rfl rfl H10 0 rfl rfl (fun w11 e8 H11 => ?_)
 dsimp only [List.nil_append, List.cons_append, List.set_cons_zero, List.set_cons_succ, layL] at H11
 refine s_nil (W_sr (sV rfl (py_loadS Tryz.underlying68 rfl Tryz.sizeOf68 rfl rfl (At.whole (H11.box 0 rfl))) (s_stoS (wn rfl) Tryz.sizeOf68 rfl rfl rfl rfl H11 1 rfl rfl (fun w12 e9 H12 => ?_))))
 dsimp only [List.nil_append, List.cons_append, List.set_cons_zero, List.set_cons_succ, layL] at H12
 refine s_nil (W_ret (hQ _ _ (finC Tryz.results65 rfl (run_loadVarS Tryz.underlying68 rfl Tryz.sizeOf68 rfl (At.whole (H12.box 1 rfl))) ?_)))
 exact ⟨H12.ext, _, _, _, _, _, _, rfl, Rec.out (H12.sub (.cons _ (.cons _ (.cons_cons _ (.cons_cons _ (.cons_cons _ List.Sublist.slnil)))))) (by assumption)⟩
end Go.Wk
namespace Go.Wk
open Go.Proofs Rp
set_option maxRecDepth 10000
theorem Tryz_spec_ShareWhole {w : World} {r : Rec} {rA6 : Option Addr} {rC6 : Nat} {rA7 : Option Addr} {rC7 : Nat} {rA8 : Option Addr} {rC8 : Nat} (rK : r.Ok) (rS6 : Sees w [.slice rA6 r.Rows.length rC6] r.Rows) (rS7 : Sees w [.slice rA7 r.Data.length rC7] r.Data) (rS8 : Sees w [.slice rA8 r.Delta.length rC8] r.Delta) : Ret Tryz.prog 85 #[r.val rA6 rC6 rA7 rC7 rA8 rC8] w fun v w' => Ext No w w' ∧ (v = .bool (shareWhole r)) := by
 have rK2 := rK
 unfold Rec.Ok at rK2
 try unfold I64ok at rK2
 try unfold maxLen at rK2
 have rN2 : r.Name.size ≤ maxLen := by unfold maxLen; omega
 have rL6 := sees_len rS6
 unfold maxLen at rL6
 obtain ⟨rF6, rO6⟩ := rS6
 have rL7 := sees_len rS7
 unfold maxLen at rL7
 obtain ⟨rF7, rO7⟩ := rS7
 have rL8 := sees_len rS8
 unfold maxLen at rL8
 obtain ⟨rF8, rO8⟩ := rS8
 refine ret_Q (vs := [r.val rA6 rC6 rA7 rC7 rA8 rC8]) Tryz.func85 rfl Tryz.ntmps85 rfl (fun Q hQ hN => ?_)
 have H0 := Sep.start (w := w) (F := [seen false [.slice rA6 r.Rows.length rC6] r.Rows rF6, seen false [.slice rA7 r.Data.length rC7] r.Data rF7, seen false [.slice rA8 r.Delta.length rC8] r.Delta rF8]) (all_cons rO6 (all_cons rO7 (all_cons rO8 (by simp))))
 refine W_sr (s_box (wn rfl) rfl rfl H0 (fun b1 w1 e1 g1 H1 => ?_))
 refine sV rfl (py_assign rfl) (s_nil (W_seq (W_sr (sV rfl (py_field Tryz.underlying68 rfl Tryz.sizeOf2 rfl rfl) (sV rfl (py_load Tryz.underlying2 rfl rfl (cell_atL (H1.box 0 rfl) rfl)) (sV rfl (py_neq rfl rfl) (s_nil (W_ifd rfl (fun c1 => ?_) (fun c1 => ?_)))))))))
 ·refine W_sr (sV rfl (py_assign rfl) (s_nil (W_ret (hQ _ _ (fin1 Tryz.results85 rfl ?_)))))
  exact ⟨H1.ext, by rw [share_kind c1]⟩
 ·refine W_skip (W_seq (W_sr (sV rfl (py_assign rfl) (s_nil (W_block (W_loop (γ := Nat) (fun k => [(1, .pointer (some ⟨b1, 0, none⟩)), (3, .int .i64 k)]) (fun k w' => Sep No w [box b1 (.cells (r.val rA6 rC6 rA7 rC7 rA8 rC8).cells 68)] [seen false [.slice rA6 r.Rows.length rC6] r.Rows rF6, seen false [.slice rA7 r.Data.length rC7] r.Data rF7, seen false [.slice rA8 r.Delta.length rC8] r.Delta rF8] w' ∧ k ≤ r.Delta.length ∧ (∀ i, i < k → shareAt r i = true)) (fun k => r.Delta.length - k) 0 ⟨rfl, rfl, trivial⟩ ⟨H1, by omega, fun i hi => by omega⟩ (fun k w2 H2 => ?_)))))))
  obtain ⟨H2, hk, he⟩ := H2
  refine W_seq (W_sr (sV rfl (py_move rfl) (sV rfl (py_field Tryz.underlying68 rfl Tryz.sizeOf45 rfl rfl) (sV rfl (py_load Tryz.underlying45 rfl rfl (cell_atL (H2.box 0 rfl) rfl)) (sV rfl (py_len Tryz.underlying45 rfl) (sV rfl (py_lss rfl rfl) (s_nil (W_ifd rfl (fun c2 => ?_) (fun c2 => ?_)))))))))
  ·refine W_skip (W_seq (W_block (W_seq ?_)))
   obtain ⟨eb1, eo1, ee1, ec1⟩ := elem_u8 (H2.seen 2 rfl) k (by omega)
   refine W_reg (sV rfl (py_field Tryz.underlying68 rfl Tryz.sizeOf45 rfl rfl) (sV rfl (py_load Tryz.underlying45 rfl rfl (cell_atL (H2.box 0 rfl) rfl)) (sV rfl (py_move rfl) (sV rfl (py_elz Tryz.underlying45 Tryz.sizeOf5 rfl rfl ee1 k (by omega) (by omega)) (sV rfl (py_load Tryz.underlying5 rfl rfl ec1) (sV rfl (py_neq rfl rfl) (sV rfl (py_move rfl) (s_grp 5 (j := 6) (want := true) (t := 25) rfl rfl rfl rfl (fun hg1 kk1 => s_val (wgE rfl rfl rfl hg1) rfl rfl (py_field Tryz.underlying68 rfl Tryz.sizeOf25 rfl rfl) (s_val (wgE rfl rfl rfl hg1) rfl rfl (py_load Tryz.underlying25 rfl rfl (cell_atL (H2.box 0 rfl) rfl)) (s_val (wgE rfl rfl rfl hg1) rfl rfl (py_move rfl) (s_callv (wgE rfl rfl rfl hg1) rfl rfl (pc_call Tryz.func156 rfl Tryz_nm156 rfl) (Tryz_spec_l1Has (H2.sees 0 rfl)) (fun w4 e3 => s_val (wgE rfl rfl rfl hg1) rfl rfl (py_not rfl) (kk1 _ _ (kx rfl (kx rfl (kx rfl (kx rfl (kx rfl k0))))) rfl (Ext.refl.trans e3))))))) (fun w3 e2 => ?_)))))))))
   have H3 := H2.to e2
   refine sV rfl (py_band rfl rfl) (s_nil (W_if rfl (fun c3 => ?_) (fun c3 => ?_)))
   ·refine W_sr (sV rfl (py_assign rfl) (s_nil (W_ret (hQ _ _ (fin1 Tryz.results85 rfl ?_)))))
    exact ⟨H3.ext, by rw [share_bad (k := k) (by omega) (by rw [share_at, c3]; rfl)]⟩
   ·refine W_skip (W_reg (sV rfl (py_move rfl) (sV rfl (py_add rfl rfl (in64 ⟨by omega, by omega⟩)) (sV rfl (py_assign rfl) (s_nil (⟨k + 1, ⟨rfl, rfl, trivial⟩, ⟨H3, by omega, fun i hi => ?_⟩, by dsimp only; omega⟩))))))
    by_cases e : i = k
    ·subst e; rw [share_at, c3]; rfl
    ·exact he i (by omega)
  ·refine W_exit (W_sr (sV rfl (py_assign rfl) (s_nil (W_ret (hQ _ _ (fin1 Tryz.results85 rfl ?_))))))
   exact ⟨H2.ext, by rw [share_all (fun i hi => he i (by omega)), decide_eq_true (by omega)]⟩
theorem Tryz_impl_ShareWhole {w : World} {r : Rec} {rA6 : Option Addr} {rC6 : Nat} {rA7 : Option Addr} {rC7 : Nat} {rA8 : Option Addr} {rC8 : Nat} (rK : r.Ok) (rS6 : Sees w [.slice rA6 r.Rows.length rC6] r.Rows) (rS7 : Sees w [.slice rA7 r.Data.length rC7] r.Data) (rS8 : Sees w [.slice rA8 r.Delta.length rC8] r.Delta) : Ret Tryz.prog 157 #[r.val rA6 rC6 rA7 rC7 rA8 rC8] w fun v w' => Ext No w w' ∧ (v = .bool (shareWhole r)) := by
 have rK2 := rK
 unfold Rec.Ok at rK2
 try unfold I64ok at rK2
 try unfold maxLen at rK2
 have rN2 : r.Name.size ≤ maxLen := by unfold maxLen; omega
 have rL6 := sees_len rS6
 unfold maxLen at rL6
 obtain ⟨rF6, rO6⟩ := rS6
 have rL7 := sees_len rS7
 unfold maxLen at rL7
 obtain ⟨rF7, rO7⟩ := rS7
 have rL8 := sees_len rS8
 unfold maxLen at rL8
 obtain ⟨rF8, rO8⟩ := rS8
 refine ret_Q (vs := [r.val rA6 rC6 rA7 rC7 rA8 rC8]) Tryz.func157 rfl Tryz.ntmps157 rfl (fun Q hQ hN => ?_)
 have H0 := Sep.start (w := w) (F := [seen false [.slice rA6 r.Rows.length rC6] r.Rows rF6, seen false [.slice rA7 r.Data.length rC7] r.Data rF7, seen false [.slice rA8 r.Delta.length rC8] r.Delta rF8]) (all_cons rO6 (all_cons rO7 (all_cons rO8 (by simp))))
 refine W_sr (s_box (wn rfl) rfl rfl H0 (fun b1 w1 e1 g1 H1 => ?_))
 refine sV rfl (py_assign rfl) (s_nil (W_seq (W_sr (sV rfl (py_field Tryz.underlying68 rfl Tryz.sizeOf45 rfl rfl) (sV rfl (py_load Tryz.underlying45 rfl rfl (cell_atL (H1.box 0 rfl) rfl)) (sV rfl (py_len Tryz.underlying45 rfl) (sV rfl (py_move rfl) (s_nil (W_block (W_loop (γ := Nat) (fun k => [(1, .pointer (some ⟨b1, 0, none⟩)), (6, .slice rA8 r.Delta.length rC8), (7, .int .i64 r.Delta.length), (8, .int .i64 k)]) (fun k w' => Sep No w [box b1 (.cells (r.val rA6 rC6 rA7 rC7 rA8 rC8).cells 68)] [seen false [.slice rA6 r.Rows.length rC6] r.Rows rF6, seen false [.slice rA7 r.Data.length rC7] r.Data rF7, seen false [.slice rA8 r.Delta.length rC8] r.Delta rF8] w' ∧ k ≤ r.Delta.length ∧ (∀ i, i < k → shareAt r i = true)) (fun k => r.Delta.length - k) 0 ⟨rfl, rfl, rfl, rfl, trivial⟩ ⟨H1, by omega, fun i hi => by omega⟩ (fun k w2 H2 => ?_)))))))))))
 obtain ⟨H2, hk, he⟩ := H2
 refine W_sr (sV rfl (py_lss rfl rfl) (s_nil (W_seq (W_ifd rfl (fun c1 => ?_) (fun c1 => ?_)))))
 ·refine W_skip (W_seq (W_block (W_seq ?_)))
  obtain ⟨eb1, eo1, ee1, ec1⟩ := elem_u8 (H2.seen 2 rfl) k (by omega)
  refine W_reg (sV rfl (py_move rfl) (sV rfl (py_elz Tryz.underlying45 Tryz.sizeOf5 rfl rfl ee1 k (by omega) (by omega)) (sV rfl (py_load Tryz.underlying5 rfl rfl ec1) (sV rfl (py_assign rfl) (sV rfl (py_assign rfl) (s_nil (W_sr (sV rfl (py_move rfl) (sV rfl (py_neq rfl rfl) (sV rfl (py_move rfl) (s_grp 5 (j := 2) (want := true) (t := 20) rfl rfl rfl rfl (fun hg1 kk1 => s_val (wgE rfl rfl rfl hg1) rfl rfl (py_field Tryz.underlying68 rfl Tryz.sizeOf25 rfl rfl) (s_val (wgE rfl rfl rfl hg1) rfl rfl (py_load Tryz.underlying25 rfl rfl (cell_atL (H2.box 0 rfl) rfl)) (s_val (wgE rfl rfl rfl hg1) rfl rfl (py_move rfl) (s_callv (wgE rfl rfl rfl hg1) rfl rfl (pc_call Tryz.func243 rfl Tryz_nm243 rfl) (Tryz_slices_Contains_int64_int64 (H2.sees 0 rfl)) (fun w4 e3 => s_val (wgE rfl rfl rfl hg1) rfl rfl (py_not rfl) (kk1 _ _ (kx rfl (kx rfl (kx rfl (kx rfl (kx rfl k0))))) rfl (Ext.refl.trans e3))))))) (fun w3 e2 => ?_))))))))))))
  have H3 := H2.to e2
  refine sV rfl (py_band rfl rfl) (s_nil (W_if rfl (fun c2 => ?_) (fun c2 => ?_)))
  ·refine W_sr (sV rfl (py_assign rfl) (s_nil (W_ret (hQ _ _ (fin1 Tryz.results157 rfl ?_)))))
   exact ⟨H3.ext, by rw [share_bad (k := k) (by omega) (by rw [share_at, c2]; rfl)]⟩
  ·refine W_skip (W_reg (sV rfl (py_add rfl rfl (in64 ⟨by omega, by omega⟩)) (sV rfl (py_move rfl) (s_nil (⟨k + 1, ⟨rfl, rfl, rfl, rfl, trivial⟩, ⟨H3, by omega, fun i hi => ?_⟩, by dsimp only; omega⟩)))))
   by_cases e : i = k
   ·subst e; rw [share_at, c2]; rfl
   ·exact he i (by omega)
 ·refine W_exit (W_sr (sV rfl (py_field Tryz.underlying68 rfl Tryz.sizeOf2 rfl rfl) (sV rfl (py_load Tryz.underlying2 rfl rfl (cell_atL (H2.box 0 rfl) rfl)) (sV rfl (py_eql rfl rfl) (sV rfl (py_assign rfl) (s_nil (W_ret (hQ _ _ (fin1 Tryz.results157 rfl ?_)))))))))
  exact ⟨H2.ext, by rw [share_all (fun i hi => he i (by omega))]⟩
end Go.Wk
namespace Go.Wk
open Rp (sz own)
section
variable {z : Wld} {r : Rec} {g row : Int}
theorem dd_mem {r : Rec} : ∀ {rs out : List Rec}, r ∈ rs.foldl ddR out → r ∈ out ∨ r ∈ rs
  | [], _, h => .inl h
  | x :: rs, out, h => by
    rcases dd_mem (rs := rs) h with h | h
    · unfold ddR at h
      split at h
      · exact .inl h
      · rcases List.mem_append.1 h with h | h
        · exact .inl h
        · exact .inr (by rw [List.mem_singleton] at h; simp [h])
    · exact .inr (List.mem_cons_of_mem _ h)
theorem cnt_stable : Stable kLt keyR (dds (allR z z.Tapes.length)) (cntL z) := (stable_ex _).choose_spec
theorem cnt_mem (h : r ∈ cntL z) : ∃ k j, k < z.Tapes.length ∧ j < (z.Tapes.getD k default).Recs.length ∧ (z.Tapes.getD k default).Recs.getD j default = r := by
  have h1 : r ∈ dds (allR z z.Tapes.length) := cnt_stable.2.mem h
  rcases dd_mem h1 with h2 | h2
  · cases h2
  · unfold allR at h2
    rw [List.take_length] at h2
    obtain ⟨l, hl, hr⟩ := List.mem_flatten.1 h2
    obtain ⟨t, ht, rfl⟩ := List.mem_map.1 hl
    obtain ⟨k, hk, e⟩ := List.getElem_of_mem ht
    obtain ⟨j, hj, e2⟩ := List.getElem_of_mem hr
    have e3 : z.Tapes.getD k default = t := by rw [getD_el hk]; exact e
    exact ⟨k, j, hk, by rw [e3]; exact hj, by rw [e3, getD_el hj]; exact e2⟩
theorem cnt_sz (h : r ∈ cntL z) : szRec r ≤ szWld z := by
  obtain ⟨k, j, hk, hj, e⟩ := cnt_mem h
  have h1 := (szL_get (f := szTape) (Nat.le_refl _) k hk).1
  have h2 := (szL_get (f := szRec) (Nat.le_refl _) j hj).1
  rw [e] at h2
  have h3 : szTape (z.Tapes.getD k default) = szL szRec (z.Tapes.getD k default).Recs := rfl
  unfold szWld
  omega
theorem opR_mem (h : 0 ≤ shLast z g row) : opR z g row ∈ cntL z := by
  have hb := lastI_bd (p := shP g row) (rs := cntL z)
  unfold opR
  rw [if_pos h, getD_el (by unfold shLast at *; omega)]
  exact List.getElem_mem _
theorem opR_sz : szRec (opR z g row) ≤ szWld z := by
  by_cases h : 0 ≤ shLast z g row
  · exact cnt_sz (opR_mem h)
  · unfold opR; rw [if_neg h]; exact Nat.zero_le _
theorem mkRec_sz : mkRec r ≤ 6 + szRec r := by unfold mkRec szRec; omega
theorem mkL_one {α : Type} [Inhabited α] {f : α → Nat} {x : α} : mkL f [x] = f x := Nat.zero_add _
theorem mkL_nil {α : Type} [Inhabited α] {f : α → Nat} : mkL f ([] : List α) = 0 := rfl
theorem openSh_mk (h : szWld z ≤ 1048576) : mkL mkRec (openShF z g row).Recs ≤ 2000000 := by
  have h1 := opR_sz (z := z) (g := g) (row := row)
  have h2 := mkRec_sz (r := opR z g row)
  unfold openShF
  split
  · split
    · show mkL mkRec [opR z g row] ≤ _
      rw [mkL_one]; omega
    · show mkL mkRec [] ≤ _
      rw [mkL_nil]; omega
  · show mkL mkRec [] ≤ _
    rw [mkL_nil]; omega
theorem openSh_Ok : (openShF z g row).Ok := by
  have := askF_cd (z := z) (g := g) (row := row)
  unfold openShF
  split
  · split <;> (show I64ok _; unfold I64ok; dsimp only; omega)
  · show I64ok _; unfold I64ok; dsimp only; omega
theorem whole_Ok : (wholeF z g row).Ok := by
  have := askF_cd (z := z) (g := g) (row := row)
  unfold wholeF
  repeat' split
  all_goals (show I64ok _; unfold I64ok; dsimp only; omega)
theorem whole_len (h : szWld z ≤ 1048576) : (wholeF z g row).Bytes.length ≤ 1048576 := by
  have h1 := opR_sz (z := z) (g := g) (row := row)
  have h2 : (opR z g row).Data.length ≤ szRec (opR z g row) := by unfold szRec; omega
  unfold wholeF
  repeat' split
  all_goals (dsimp only; first | omega | simp)
theorem wholeC_bd : 0 ≤ wholeC z g row ∧ wholeC z g row ≤ 6 := by
  unfold wholeC
  repeat' split
  all_goals omega
noncomputable def wholeB (z : Wld) (g row : Int) : List UInt8 := if wholeC z g row = 0 then (opR z g row).Data else []
noncomputable def wholeR (z : Wld) (g row : Int) : Rec := if wholeC z g row = 0 then opR z g row else default
theorem wholeB_yes (h : wholeC z g row = 0) : wholeB z g row = (opR z g row).Data := if_pos h
theorem wholeB_no (h : wholeC z g row ≠ 0) : wholeB z g row = [] := if_neg h
theorem wholeR_yes (h : wholeC z g row = 0) : wholeR z g row = opR z g row := if_pos h
theorem wholeR_no (h : wholeC z g row ≠ 0) : wholeR z g row = default := if_neg h
theorem whole_eq (h : askF z g row = 0) : wholeF z g row = ⟨wholeC z g row, wholeB z g row⟩ := by
  unfold wholeB wholeF wholeC
  rw [if_pos h]
  repeat' split
  all_goals first | rfl | (exfalso; omega)
theorem openSh_zero (h : (openShF z g row).Code = 0) : askF z g row = 0 ∧ opOK z g row = true ∧ openShF z g row = ⟨0, [opR z g row]⟩ := by
  unfold openShF at h ⊢
  split at h
  · next h1 =>
    rw [if_pos h1]
    split at h
    · next h2 => rw [if_pos h2]; exact ⟨h1, h2, rfl⟩
    · exact absurd h (by decide)
  · next h1 => exact absurd h h1
theorem whole_code (h : (openShF z g row).Code ≠ 0) : wholeF z g row = ⟨(openShF z g row).Code, []⟩ := by
  unfold openShF at h ⊢
  unfold wholeF
  repeat' split
  all_goals first | rfl | (exfalso; revert h; simp_all)
theorem notReady_Ok : (notReadyF z g).Ok := by
  have := askF_cd (z := z) (g := g) (row := 0)
  unfold notReadyF
  split <;> (show I64ok _; unfold I64ok; dsimp only; omega)
theorem notReady_len : (notReadyF z g).Lst.length ≤ z.Shape.Rows.toNat := by
  have := unready_len (z := z) (g := g) z.Shape.Rows.toNat
  unfold notReadyF
  split
  · exact this
  · simp
theorem notReady_len2 : (notReadyF z g).Lst.length ≤ 1000 := by
  have h1 := notReady_len (z := z) (g := g)
  by_cases h : askF z g 0 = 0
  · have := shape_bd (askF_ok h).2.1; omega
  · rw [notReady_bad h]; exact Nat.zero_le _
theorem recs_nil {w0 w : World} {c : Int} (h : I64ok c) : Res w0 w [.int .i64 c, .slice none 0 0] (⟨c, []⟩ : RecsResult) :=
  ⟨_, RecsResult.own_mk (x := ⟨c, []⟩) h (.inr (.inl ⟨rfl, rfl, rfl⟩)), List.nodup_nil, by simp⟩
end
section
variable {M : Nat → Prop} {w0 w : World} {Δ F : List Rsc} {α : Type} [Rp α]
theorem Sep.litS (h : Sep M w0 Δ F w) (i j : Nat) {b : Nat} {T : TypeId} {cs : List Value} {x : α} {fp : List Nat} (hi : Δ[i]? = some (Wk.box b (.cells cs.toArray T))) (hj : Δ[j]? = some (Wk.mine cs x fp)) (hij : Nat.beq j i = false) :
    Sep M w0 ((Δ.set j gone).set i (Wk.mine [.slice (some ⟨b, 0, none⟩) 1 1] [x] (b :: fp))) F w := by
  have hne : j ≠ i := fun e => by subst e; simp at hij
  have H1 := h.join2 i j hi hj hij
  have g : ((Δ.set j gone).set i (cat (Wk.box b (.cells cs.toArray T)) (Wk.mine cs x fp)))[i]? = some (cat (Wk.box b (.cells cs.toArray T)) (Wk.mine cs x fp)) :=
    List.getElem?_set_self (by have := (List.getElem?_eq_some_iff.1 hi).1; simpa using this)
  have hφ : (cat (Wk.box b (.cells cs.toArray T)) (Wk.mine cs x fp)).φ w := H1.r i g
  have hn := H1.nodup1 g
  obtain ⟨h1, h2⟩ := hφ
  have hl := Rp.len (show own true w cs x fp from h2)
  have H2 := H1.conv i (Wk.mine [.slice (some ⟨b, 0, none⟩) 1 1] [x] (b :: fp)) g
    (.inr (.inr ⟨b, 0, 1, cs.toArray, T, (0, 0), fp, rfl, rfl, h1, fun _ => rfl, Nat.le_refl _, by simp [maxLen], by simp [hl], by
      rw [List.drop_zero]; exact ownL.one h2⟩)) (fun b hb => hb) hn
  rw [List.set_set] at H2
  exact H2
end
end Go.Wk
namespace Go.Wk
open Go.Proofs Rp
set_option maxRecDepth 10000
theorem Tryz_impl_OpenShare {w : World} {z : Wld} {zA9 : Option Addr} {zC9 : Nat} {zA10 : Option Addr} {zC10 : Nat} {zA11 : Option Addr} {zC11 : Nat} {g : Int} {row : Int} (zK : z.Ok) (zS9 : Sees w [.slice zA9 z.Groups.length zC9] z.Groups) (zS10 : Sees w [.slice zA10 z.On.length zC10] z.On) (zS11 : Sees w [.slice zA11 z.Tapes.length zC11] z.Tapes) (hb : szWld z ≤ 1048576) : Ret Tryz.prog 18 #[z.val zA9 zC9 zA10 zC10 zA11 zC11, .int .i64 g, .int .i64 row] w fun v w' => Ext No w w' ∧ (∃ A1 C1, v = (openShF z g row).val A1 C1 ∧ Res w w' [.int .i64 (openShF z g row).Code, .slice A1 (openShF z g row).Recs.length C1] (openShF z g row)) := by
 have zK2 := zK
 unfold Wld.Ok Shape.Ok at zK2
 try unfold I64ok at zK2
 try unfold maxLen at zK2
 have zL9 := sees_len zS9
 unfold maxLen at zL9
 obtain ⟨zF9, zO9⟩ := zS9
 have zL10 := sees_len zS10
 unfold maxLen at zL10
 obtain ⟨zF10, zO10⟩ := zS10
 have zL11 := sees_len zS11
 unfold maxLen at zL11
 obtain ⟨zF11, zO11⟩ := zS11
 refine ret_Q (vs := [z.val zA9 zC9 zA10 zC10 zA11 zC11, .int .i64 g, .int .i64 row]) Tryz.func18 rfl Tryz.ntmps18 rfl (fun Q hQ hN => ?_)
 have H0 := Sep.start (w := w) (F := [seen false [.slice zA9 z.Groups.length zC9] z.Groups zF9, seen false [.slice zA10 z.On.length zC10] z.On zF10, seen false [.slice zA11 z.Tapes.length zC11] z.Tapes zF11]) (all_cons zO9 (all_cons zO10 (all_cons zO11 (by simp))))
 refine W_sr (s_box (wn rfl) rfl rfl H0 (fun b1 w1 e1 g1 H1 => ?_))
 refine s_var (wn rfl) rfl Tryz.zeroValue32 H1 (fun b2 w2 e2 g2 H2 => ?_)
 refine s_nil (W_sr (sV rfl (py_loadS Tryz.underlying38 rfl Tryz.sizeOf38 rfl rfl (At.whole (H2.box 0 rfl))) (s_call (wn rfl) rfl rfl (pc_call Tryz.func70 rfl Tryz_nm70 rfl) (Tryz_impl_WorldFault (by assumption) (H2.sees 0 rfl) (H2.sees 1 rfl) (H2.sees 2 rfl)) (fun v1 w3 r1 => ?_))))
 obtain ⟨e3, rfl⟩ := r1
 have H3 := H2.to e3
 refine sV rfl (py_assign rfl) (s_nil (W_seq (W_block (W_sr (sV rfl (py_move rfl) (sV rfl (py_neq rfl rfl) (sV rfl (py_assign rfl) (s_nil (W_ifd rfl (fun c1 => ?_) (fun c1 => ?_))))))))))
 ·refine W_sr (sV rfl (py_move rfl) (sV rfl (py_buildS Tryz_pl32 rfl rfl) (s_stoS (wn rfl) Tryz.sizeOf32 rfl rfl rfl rfl H3 1 rfl rfl (fun w4 e4 H4 => ?_))))
  dsimp only [List.nil_append, List.cons_append, List.set_cons_zero, List.set_cons_succ, layL] at H4
  refine s_nil (W_ret (hQ _ _ (finC Tryz.results18 rfl (run_loadVarS Tryz.underlying32 rfl Tryz.sizeOf32 rfl (At.whole (H4.box 1 rfl))) ?_)))
  rw [openSh_bad (by rw [ask_world (by omega)]; omega), ask_world (by omega)]
  exact ⟨H4.ext, none, 0, rfl, recs_nil (by unfold I64ok; have := worldF_cd (z := z); dsimp only; omega)⟩
 ·refine W_seq ?_
  obtain ⟨hs, hG, hO⟩ := worldF_ok (w := z) (by omega)
  refine W_reg (sV rfl (py_field Tryz.underlying38 rfl Tryz.sizeOf34 rfl rfl) (sV rfl (py_loadS Tryz.underlying34 rfl Tryz.sizeOf34 rfl rfl (At.sub (H3.box 0 rfl) 9)) (sV rfl (py_move rfl) (s_call (wn rfl) rfl rfl (pc_call Tryz.func71 rfl Tryz_nm71 rfl) (Tryz_impl_Shape_isGroup (by assumption)) (fun v2 w5 r2 => ?_)))))
  obtain ⟨e5, rfl⟩ := r2
  have H5 := H3.to e5
  refine sV rfl (py_not rfl) (sV rfl (py_move rfl) (s_grp 5 (j := 5) (want := false) (t := 28) rfl rfl rfl rfl (fun hg1 kk1 => s_val (wgE rfl rfl rfl hg1) rfl rfl (py_field Tryz.underlying38 rfl Tryz.sizeOf34 rfl rfl) (s_val (wgE rfl rfl rfl hg1) rfl rfl (py_loadS Tryz.underlying34 rfl Tryz.sizeOf34 rfl rfl (At.sub (H5.box 0 rfl) 9)) (s_val (wgE rfl rfl rfl hg1) rfl rfl (py_move rfl) (s_callv (wgE rfl rfl rfl hg1) rfl rfl (pc_call Tryz.func72 rfl Tryz_nm72 rfl) (Tryz_impl_Shape_isRow (by assumption)) (fun w7 e7 => s_val (wgE rfl rfl rfl hg1) rfl rfl (py_not rfl) (kk1 _ _ (kx rfl (kx rfl (kx rfl (kx rfl (kx rfl k0))))) rfl (Ext.refl.trans e7))))))) (fun w6 e6 => ?_)))
  have H6 := H5.to e6
  refine sV rfl (py_bor rfl rfl) (sV rfl (py_assign rfl) (s_nil (W_if rfl (fun c2 => ?_) (fun c2 => ?_))))
  ·refine W_seq ?_
   have aq : askF z g row = 3 := ask_place (by omega) (by rw [place_zero hs]; revert c2; cases ins g 0 (z.Shape.Groups + z.Shape.Column - 1) <;> cases ins row 0 (z.Shape.Rows - 1) <;> simp)
   refine W_reg (sV rfl (py_buildS Tryz_pl32 rfl rfl) (s_stoS (wn rfl) Tryz.sizeOf32 rfl rfl rfl rfl H6 1 rfl rfl (fun w8 e8 H7 => ?_)))
   dsimp only [List.nil_append, List.cons_append, List.set_cons_zero, List.set_cons_succ, layL] at H7
   refine s_nil (W_ret (hQ _ _ (finC Tryz.results18 rfl (run_loadVarS Tryz.underlying32 rfl Tryz.sizeOf32 rfl (At.whole (H7.box 1 rfl))) ?_)))
   rw [openSh_bad (by rw [aq]; omega), aq]
   exact ⟨H7.ext, none, 0, rfl, recs_nil (by unfold I64ok; have := worldF_cd (z := z); dsimp only; omega)⟩
  ·refine W_skip (W_seq ?_)
   have hw0 : worldF z = 0 := by omega
   obtain ⟨hs, hG, hO⟩ := worldF_ok hw0
   have hT := (worldF_ok hw0).2.2.2.1
   have hrl := recs_bd hw0
   have hpl : placeF z.Shape g 0 row = true := by rw [place_zero hs]; revert c2; simp
   have aq : askF z g row = 0 := ask_fine hw0 hpl
   have hsz := opR_sz (z := z) (g := g) (row := row)
   refine W_reg (sV rfl (py_move rfl) (sV rfl (py_move rfl) (s_call (wn rfl) rfl rfl (pc_call Tryz.func73 rfl Tryz_nm73 rfl) (Tryz_impl_World_openShare (H6.box 0 rfl) (by assumption) (own_weak (H6.seen 0 rfl)) (own_weak (H6.seen 1 rfl)) (own_weak (H6.seen 2 rfl)) (by first | assumption | omega) (by first | assumption | omega)) (fun v3 w9 r3 => ?_))))
   obtain ⟨e9, pA1, pA2, pA3, pA4, pA5, pA6, rfl, hI1⟩ := r3
   have H8 := H6.to e9
   obtain ⟨pf1, pf2, pf3, pok1, pl1, pl2, pl3, H9⟩ := H8.recF 2 rfl hI1
   unfold maxLen at pl1 pl2 pl3
   try dsimp only [List.nil_append, List.cons_append, List.set_cons_zero, List.set_cons_succ] at H9
   refine sV rfl (py_move rfl) (sV rfl (py_extr rfl rfl) (sV rfl (py_extr rfl rfl) (s_var (wn rfl) rfl Tryz.zeroValue68 H9 (fun b3 w10 e10 g3 H10 => ?_))))
   refine s_stoS (wn rfl) Tryz.sizeOf68 rfl rfl rfl rfl H10 2 rfl rfl (fun w11 e11 H11 => ?_)
   dsimp only [List.nil_append, List.cons_append, List.set_cons_zero, List.set_cons_succ, layL] at H11
   refine sV rfl (py_assign rfl) (s_nil (W_seq (W_sr (sV rfl (py_move rfl) (sV rfl (py_not rfl) (s_nil (W_if rfl (fun c3 => ?_) (fun c3 => ?_))))))))
   ·refine W_sr (sV rfl (py_buildS Tryz_pl32 rfl rfl) (s_stoS (wn rfl) Tryz.sizeOf32 rfl rfl rfl rfl H11 1 rfl rfl (fun w12 e12 H12 => ?_)))
    dsimp only [List.nil_append, List.cons_append, List.set_cons_zero, List.set_cons_succ, layL] at H12
    refine s_nil (W_ret (hQ _ _ (finC Tryz.results18 rfl (run_loadVarS Tryz.underlying32 rfl Tryz.sizeOf32 rfl (At.whole (H12.box 1 rfl))) ?_)))
    rw [openSh_none aq (by simpa using c3)]
    exact ⟨H12.ext, none, 0, rfl, recs_nil (by unfold I64ok; have := worldF_cd (z := z); dsimp only; omega)⟩
   ·refine W_skip (W_sr (sV rfl (py_loadS Tryz.underlying68 rfl Tryz.sizeOf68 rfl rfl (At.whole (H11.box 2 rfl))) (s_call (wn rfl) rfl rfl (pc_call Tryz.func74 rfl Tryz_nm74 rfl) (Tryz_impl_cloneRec (by assumption) (H11.sees 3 rfl) (H11.sees 4 rfl) (H11.sees 5 rfl) (by first | assumption | omega)) (fun v4 w13 r4 => ?_))))
    obtain ⟨e13, sa1, sk1, sa2, sk2, sa3, sk3, rfl, r4⟩ := r4
    obtain ⟨fp1, H13⟩ := H11.res e13 r4
    refine s_lit1 (wn rfl) rfl Tryz.underlying30 Tryz_ty68 rfl rfl rfl rfl H13 (fun b4 w14 e14 g4 H14 => ?_)
    have H15 := H14.litS 4 3 rfl rfl rfl
    try dsimp only [List.nil_append, List.cons_append, List.set_cons_zero, List.set_cons_succ] at H15
    refine sV rfl (py_buildS Tryz_pl32 rfl rfl) (s_stoS (wn rfl) Tryz.sizeOf32 rfl rfl rfl rfl H15 1 rfl rfl (fun w15 e15 H16 => ?_))
    dsimp only [List.nil_append, List.cons_append, List.set_cons_zero, List.set_cons_succ, layL] at H16
    refine s_nil (W_ret (hQ _ _ (finC Tryz.results18 rfl (run_loadVarS Tryz.underlying32 rfl Tryz.sizeOf32 rfl (At.whole (H16.box 1 rfl))) ?_)))
    rw [openSh_one aq (by simpa using c3)]
    exact ⟨H16.ext, _, _, rfl, RecsResult.out (x := ⟨0, [opR z g row]⟩) (H16.sub (.cons _ (.cons _ (.cons _ (.cons _ (.cons_cons _ List.Sublist.slnil)))))) (by show I64ok 0; unfold I64ok; omega)⟩
theorem Tryz_spec_OpenShare {w : World} {z : Wld} {zA9 : Option Addr} {zC9 : Nat} {zA10 : Option Addr} {zC10 : Nat} {zA11 : Option Addr} {zC11 : Nat} {g : Int} {row : Int} (zK : z.Ok) (zS9 : Sees w [.slice zA9 z.Groups.length zC9] z.Groups) (zS10 : Sees w [.slice zA10 z.On.length zC10] z.On) (zS11 : Sees w [.slice zA11 z.Tapes.length zC11] z.Tapes) (hb : szWld z ≤ 1048576) : Ret Tryz.prog 16 #[z.val zA9 zC9 zA10 zC10 zA11 zC11, .int .i64 g, .int .i64 row] w fun v w' => Ext No w w' ∧ (∃ A1 C1, v = (openShF z g row).val A1 C1 ∧ Res w w' [.int .i64 (openShF z g row).Code, .slice A1 (openShF z g row).Recs.length C1] (openShF z g row)) := by
 have zK2 := zK
 unfold Wld.Ok Shape.Ok at zK2
 try unfold I64ok at zK2
 try unfold maxLen at zK2
 have zL9 := sees_len zS9
 unfold maxLen at zL9
 obtain ⟨zF9, zO9⟩ := zS9
 have zL10 := sees_len zS10
 unfold maxLen at zL10
 obtain ⟨zF10, zO10⟩ := zS10
 have zL11 := sees_len zS11
 unfold maxLen at zL11
 obtain ⟨zF11, zO11⟩ := zS11
 refine ret_Q (vs := [z.val zA9 zC9 zA10 zC10 zA11 zC11, .int .i64 g, .int .i64 row]) Tryz.func16 rfl Tryz.ntmps16 rfl (fun Q hQ hN => ?_)
 have H0 := Sep.start (w := w) (F := [seen false [.slice zA9 z.Groups.length zC9] z.Groups zF9, seen false [.slice zA10 z.On.length zC10] z.On zF10, seen false [.slice zA11 z.Tapes.length zC11] z.Tapes zF11]) (all_cons zO9 (all_cons zO10 (all_cons zO11 (by simp))))
 refine W_sr (s_box (wn rfl) rfl rfl H0 (fun b1 w1 e1 g1 H1 => ?_))
 refine s_var (wn rfl) rfl Tryz.zeroValue32 H1 (fun b2 w2 e2 g2 H2 => ?_)
 refine s_nil (W_seq (W_sr (sV rfl (py_loadS Tryz.underlying38 rfl Tryz.sizeOf38 rfl rfl (At.whole (H2.box 0 rfl))) (sV rfl (py_move rfl) (sV rfl (py_move rfl) (s_call (wn rfl) rfl rfl (pc_call Tryz.func62 rfl Tryz_nm62 rfl) (Tryz_spec_l8Asked (by assumption) (H2.sees 0 rfl) (H2.sees 1 rfl) (H2.sees 2 rfl)) (fun v1 w3 r1 => ?_)))))))
 obtain ⟨e3, rfl⟩ := r1
 have H3 := H2.to e3
 refine sV rfl (py_assign rfl) (s_nil (W_sr (sV rfl (py_move rfl) (sV rfl (py_neq rfl rfl) (s_nil (W_ifd rfl (fun c1 => ?_) (fun c1 => ?_)))))))
 ·refine W_sr (sV rfl (py_move rfl) (sV rfl (py_buildS Tryz_pl32 rfl rfl) (s_stoS (wn rfl) Tryz.sizeOf32 rfl rfl rfl rfl H3 1 rfl rfl (fun w4 e4 H4 => ?_))))
  dsimp only [List.nil_append, List.cons_append, List.set_cons_zero, List.set_cons_succ, layL] at H4
  refine s_nil (W_ret (hQ _ _ (finC Tryz.results16 rfl (run_loadVarS Tryz.underlying32 rfl Tryz.sizeOf32 rfl (At.whole (H4.box 1 rfl))) ?_)))
  rw [openSh_bad (by omega)]
  exact ⟨H4.ext, none, 0, rfl, recs_nil (by unfold I64ok; have := askF_cd (z := z) (g := g) (row := row); dsimp only; omega)⟩
 ·refine W_skip (W_seq ?_)
  obtain ⟨hw0, hs, hG, hg, hr⟩ := askF_ok (z := z) (g := g) (row := row) (by omega)
  have hT := (worldF_ok hw0).2.2.2.1
  have hrl := recs_bd hw0
  have aq : askF z g row = 0 := by omega
  have hsz := opR_sz (z := z) (g := g) (row := row)
  have hob := opAt_bd (z := z) (g := g) (row := row)
  refine W_reg (s_call (wn rfl) rfl rfl (pc_call Tryz.func63 rfl Tryz_nm63 rfl) (Tryz_spec_l6Counted (H3.box 0 rfl) (by assumption) (own_weak (H3.seen 0 rfl)) (own_weak (H3.seen 1 rfl)) (own_weak (H3.seen 2 rfl)) (by first | assumption | omega) (by first | assumption | omega)) (fun v2 w5 r2 => ?_))
  obtain ⟨e5, vs1, r2, hR1, hM1⟩ := r2
  obtain ⟨fp1, H5⟩ := H3.res e5 r2
  obtain ⟨sa1, sk1, sq1⟩ := own_slice (H5.mine 2 rfl)
  cases sq1
  have hl1 : vs1.length = (cntL z).length := by rw [← hM1, List.length_map]
  have hb1 := cntL_bd (z := z) (by first | assumption | omega) (by assumption)
  have hRw1 : RdV w zF11 vs1 := hR1.back H5.ext (Rp.lt zO11)
  refine sV rfl (py_assign rfl) (s_nil (W_sr (sV rfl (py_field Tryz.underlying38 rfl Tryz.sizeOf34 rfl rfl) (sV rfl (py_loadS Tryz.underlying34 rfl Tryz.sizeOf34 rfl rfl (At.sub (H5.box 0 rfl) 9)) (sV rfl (py_move rfl) (sV rfl (py_move rfl) (sV rfl (py_move rfl) ?_)))))))
  have lc5 := Tryz_spec_l8Open (s := z.Shape) (xs := vs1.map RecV.r) (g := g) (row := row) (by rw [List.length_map]; exact (hRw1.to H5.ext).list (H5.mine 2 rfl))
  rw [List.length_map, hM1, opI_cnt] at lc5
  refine s_call (wn rfl) rfl rfl (pc_call Tryz.func64 rfl Tryz_nm64 rfl) lc5 (fun v3 w6 r3 => ?_)
  obtain ⟨e6, rfl⟩ := r3
  have H6 := H5.to e6
  refine sV rfl (py_assign rfl) (s_nil (W_seq (W_sr (sV rfl (py_move rfl) (sV rfl (py_lss rfl rfl) (s_nil (W_ifd rfl (fun c2 => ?_) (fun c2 => ?_))))))))
  ·refine W_sr (sV rfl (py_buildS Tryz_pl32 rfl rfl) (s_stoS (wn rfl) Tryz.sizeOf32 rfl rfl rfl rfl H6 1 rfl rfl (fun w7 e7 H7 => ?_)))
   dsimp only [List.nil_append, List.cons_append, List.set_cons_zero, List.set_cons_succ, layL] at H7
   refine s_nil (W_ret (hQ _ _ (finC Tryz.results16 rfl (run_loadVarS Tryz.underlying32 rfl Tryz.sizeOf32 rfl (At.whole (H7.box 1 rfl))) ?_)))
   rw [openSh_none aq (by rw [opAt_ok, decide_eq_false (by omega)])]
   exact ⟨H7.ext, none, 0, rfl, recs_nil (by unfold I64ok; have := worldF_cd (z := z); dsimp only; omega)⟩
  ·refine W_skip (W_seq ?_)
   obtain ⟨eb1, eo1, ee1, ec1, eK1⟩ := H6.viewAt 2 rfl (opAt z g row).toNat (by omega)
   refine W_reg (sV rfl (py_move rfl) (sV rfl (py_move rfl) (sV rfl (py_elz Tryz.underlying30 Tryz.sizeOf68 rfl rfl ee1 (opAt z g row).toNat (by omega) (by omega)) (sV rfl (py_loadS Tryz.underlying68 rfl Tryz.sizeOf68 rfl rfl ec1) ?_))))
   have hin := (hRw1.to H6.ext).inAt (k := (opAt z g row).toNat) (by omega)
   have hur : (vs1.getD (opAt z g row).toNat default).r = opR z g row := by rw [map_getD hM1 (by omega)]; exact (opAt_R (by omega)).symm
   have lc := Tryz_spec_l5CopyRec (r := (vs1.getD (opAt z g row).toNat default).r) hin.ok hin.sees.1 hin.sees.2.1 hin.sees.2.2 (by rw [hur]; omega)
   refine s_call (wn rfl) rfl rfl (pc_call Tryz.func65 rfl Tryz_nm65 rfl) lc (fun v4 w8 r4 => ?_)
   obtain ⟨e8, sa2, sk2, sa3, sk3, sa4, sk4, rfl, r4⟩ := r4
   obtain ⟨fp2, H8⟩ := H6.res e8 r4
   refine s_lit1 (wn rfl) rfl Tryz.underlying30 Tryz_ty68 rfl rfl rfl rfl H8 (fun b3 w9 e9 g3 H9 => ?_)
   have H10 := H9.litS 4 3 rfl rfl rfl
   try dsimp only [List.nil_append, List.cons_append, List.set_cons_zero, List.set_cons_succ] at H10
   refine sV rfl (py_buildS Tryz_pl32 rfl rfl) (s_stoS (wn rfl) Tryz.sizeOf32 rfl rfl rfl rfl H10 1 rfl rfl (fun w10 e10 H11 => ?_))
   dsimp only [List.nil_append, List.cons_append, List.set_cons_zero, List.set_cons_succ, layL] at H11
   refine s_nil (W_ret (hQ _ _ (finC Tryz.results16 rfl (run_loadVarS Tryz.underlying32 rfl Tryz.sizeOf32 rfl (At.whole (H11.box 1 rfl))) ?_)))
   rw [openSh_one aq (by rw [opAt_ok, decide_eq_true (by omega)]), ← hur]
   exact ⟨H11.ext, _, _, rfl, RecsResult.out (x := ⟨0, [(vs1.getD (opAt z g row).toNat default).r]⟩) (H11.sub (.cons _ (.cons _ (.cons _ (.cons _ (.cons_cons _ List.Sublist.slnil)))))) (by show I64ok 0; unfold I64ok; omega)⟩
theorem Tryz_impl_World_wholeShare {w : World} {zb : Nat} {z : Wld} {zA9 : Option Addr} {zC9 : Nat} {zA10 : Option Addr} {zC10 : Nat} {zA11 : Option Addr} {zC11 : Nat} {zF9 : List Nat} {zF10 : List Nat} {zF11 : List Nat} {g : Int} {row : Int} (zB : w.heap[zb]? = some (.cells [.int .i64 z.Shape.Groups, .int .i64 z.Shape.Column, .int .i64 z.Shape.Data, .int .i64 z.Shape.Spare, .int .i64 z.Shape.Rows, .int .i64 z.Shape.Cap, .int .i64 z.Shape.Batch, .int .i64 z.Shape.Queue, .int .i64 z.Shape.Stage, .slice zA9 z.Groups.length zC9, .slice zA10 z.On.length zC10, .slice zA11 z.Tapes.length zC11, .int .i64 z.Writes, .int .i64 z.Stop, .bool z.Down].toArray 38)) (zK : z.Ok) (zO9 : own false w [.slice zA9 z.Groups.length zC9] z.Groups zF9) (zO10 : own false w [.slice zA10 z.On.length zC10] z.On zF10) (zO11 : own false w [.slice zA11 z.Tapes.length zC11] z.Tapes zF11) (hT : z.Tapes.length = 2) (hrl : ∀ k, (z.Tapes.getD k default).Recs.length ≤ 200000) (hb : szWld z ≤ 1048576) : Ret Tryz.prog 86 #[.pointer (some ⟨zb, 0, none⟩), .int .i64 g, .int .i64 row] w fun v w' => Ext No w w' ∧ (∃ A C A6 C6 A7 C7 A8 C8, v = .tuple #[.slice A (wholeB z g row).length C, (wholeR z g row).val A6 C6 A7 C7 A8 C8, .int .i64 (wholeC z g row)] ∧ Res w w' [.slice A (wholeB z g row).length C] (wholeB z g row) ∧ InF w' zF11 (RecV.mk (wholeR z g row) A6 C6 A7 C7 A8 C8).cs (wholeR z g row)) := by
 have zK2 := zK
 unfold Wld.Ok Shape.Ok at zK2
 try unfold I64ok at zK2
 try unfold maxLen at zK2
 have zL9 := own_len_le zO9
 unfold maxLen at zL9
 have zL10 := own_len_le zO10
 unfold maxLen at zL10
 have zL11 := own_len_le zO11
 unfold maxLen at zL11
 have hsz := opR_sz (z := z) (g := g) (row := row)
 have hszu : (opR z g row).Data.length ≤ szRec (opR z g row) := by unfold szRec; omega
 refine ret_Q (vs := [.pointer (some ⟨zb, 0, none⟩), .int .i64 g, .int .i64 row]) Tryz.func86 rfl Tryz.ntmps86 rfl (fun Q hQ hN => ?_)
 have H0 := Sep.start (w := w) (F := [box zb (.cells [.int .i64 z.Shape.Groups, .int .i64 z.Shape.Column, .int .i64 z.Shape.Data, .int .i64 z.Shape.Spare, .int .i64 z.Shape.Rows, .int .i64 z.Shape.Cap, .int .i64 z.Shape.Batch, .int .i64 z.Shape.Queue, .int .i64 z.Shape.Stage, .slice zA9 z.Groups.length zC9, .slice zA10 z.On.length zC10, .slice zA11 z.Tapes.length zC11, .int .i64 z.Writes, .int .i64 z.Stop, .bool z.Down].toArray 38), seen false [.slice zA9 z.Groups.length zC9] z.Groups zF9, seen false [.slice zA10 z.On.length zC10] z.On zF10, seen false [.slice zA11 z.Tapes.length zC11] z.Tapes zF11]) (all_cons (by exact zB) (all_cons zO9 (all_cons zO10 (all_cons zO11 (by simp)))))
 refine W_sr (sV rfl (py_assign rfl) (s_var (wn rfl) rfl Tryz.zeroValue68 H0 (fun b1 w1 e1 g1 H1 => ?_)))
 refine sV rfl (py_assign rfl) (s_nil (W_sr (sV rfl (py_move rfl) (sV rfl (py_move rfl) (sV rfl (py_move rfl) (s_call (wn rfl) rfl rfl (pc_call Tryz.func73 rfl Tryz_nm73 rfl) (Tryz_impl_World_openShare (H1.fbox 0 rfl) (by assumption) (own_weak (H1.seen 1 rfl)) (own_weak (H1.seen 2 rfl)) (own_weak (H1.seen 3 rfl)) (by first | assumption | omega) (by first | assumption | omega)) (fun v1 w2 r1 => ?_)))))))
 obtain ⟨e2, pA1, pA2, pA3, pA4, pA5, pA6, rfl, hI1⟩ := r1
 have H2 := H1.to e2
 obtain ⟨pf1, pf2, pf3, pok1, pl1, pl2, pl3, H3⟩ := H2.recF 3 rfl hI1
 unfold maxLen at pl1 pl2 pl3
 try dsimp only [List.nil_append, List.cons_append, List.set_cons_zero, List.set_cons_succ] at H3
 refine sV rfl (py_move rfl) (sV rfl (py_extr rfl rfl) (sV rfl (py_extr rfl rfl) (s_var (wn rfl) rfl Tryz.zeroValue68 H3 (fun b2 w3 e3 g2 H4 => ?_))))
 refine s_stoS (wn rfl) Tryz.sizeOf68 rfl rfl rfl rfl H4 1 rfl rfl (fun w4 e4 H5 => ?_)
 dsimp only [List.nil_append, List.cons_append, List.set_cons_zero, List.set_cons_succ, layL] at H5
 refine sV rfl (py_assign rfl) (s_nil (W_seq (W_block (W_sr (sV rfl (py_move rfl) (sV rfl (py_not rfl) (sV rfl (py_assign rfl) (s_nil (W_if rfl (fun c1 => ?_) (fun c1 => ?_))))))))))
 ·refine W_sr (sV rfl (py_buildS Tryz_pl68 rfl rfl) (sV rfl (py_assign rfl) (s_stoS (wn rfl) Tryz.sizeOf68 rfl rfl rfl rfl H5 0 rfl rfl (fun w5 e5 H6 => ?_))))
  dsimp only [List.nil_append, List.cons_append, List.set_cons_zero, List.set_cons_succ, layL] at H6
  refine sV rfl (py_assign rfl) (s_nil (W_ret (hQ _ _ (finTCT Tryz.results86 rfl (run_loadVarS Tryz.underlying68 rfl Tryz.sizeOf68 rfl (At.whole (H6.box 0 rfl))) rfl rfl (⟨H6.ext, none, 0, none, 0, none, 0, none, 0, ?_, ?_, ?_⟩)))))
  ·rw [wholeB_no (wholeC_none (by simpa using c1) ▸ by omega), wholeR_no (wholeC_none (by simpa using c1) ▸ by omega), wholeC_none (by simpa using c1)]; rfl
  ·rw [wholeB_no (wholeC_none (by simpa using c1) ▸ by omega)]; exact ⟨[], .inr (.inl ⟨rfl, rfl, rfl⟩), .nil, by simp⟩
  ·rw [wholeR_no (wholeC_none (by simpa using c1) ▸ by omega)]; exact inF_zero
 ·refine W_sr (sV rfl (py_loadS Tryz.underlying68 rfl Tryz.sizeOf68 rfl rfl (At.whole (H5.box 1 rfl))) (s_call (wn rfl) rfl rfl (pc_call Tryz.func157 rfl Tryz_nm157 rfl) (Tryz_impl_ShareWhole (by assumption) (H5.sees 4 rfl) (H5.sees 5 rfl) (H5.sees 6 rfl)) (fun v2 w6 r2 => ?_)))
  obtain ⟨e6, rfl⟩ := r2
  have H7 := H5.to e6
  refine sV rfl (py_not rfl) (sV rfl (py_assign rfl) (s_nil (W_if rfl (fun c2 => ?_) (fun c2 => ?_))))
  ·refine W_sr (sV rfl (py_buildS Tryz_pl68 rfl rfl) (sV rfl (py_assign rfl) (s_stoS (wn rfl) Tryz.sizeOf68 rfl rfl rfl rfl H7 0 rfl rfl (fun w7 e7 H8 => ?_))))
   dsimp only [List.nil_append, List.cons_append, List.set_cons_zero, List.set_cons_succ, layL] at H8
   refine sV rfl (py_assign rfl) (s_nil (W_ret (hQ _ _ (finTCT Tryz.results86 rfl (run_loadVarS Tryz.underlying68 rfl Tryz.sizeOf68 rfl (At.whole (H8.box 0 rfl))) rfl rfl ?_))))
   have hcz : wholeC z g row = 6 := wholeC_zero (by simpa using c1) (by simpa using c2)
   refine ⟨H8.ext, none, 0, none, 0, none, 0, none, 0, ?_, ?_, ?_⟩
   ·rw [wholeB_no (by omega), wholeR_no (by omega), hcz]; rfl
   ·rw [wholeB_no (by omega)]; exact ⟨[], .inr (.inl ⟨rfl, rfl, rfl⟩), .nil, by simp⟩
   ·rw [wholeR_no (by omega)]; exact inF_zero
  ·refine W_skip (W_seq (W_drw (S := Ext (· ∈ [b1]) _) [(0, true), (1, true), (3, true), (2, false), (4, true), (5, false), (6, false)] (by kernel_rfl) (by kernel_rfl) (by kernel_rfl) rfl (fun _ => Ext.refl.drawn _) (fun q1 => ?_)))
   have H9 := H7.drawn q1
   refine dV rfl rfl (fun zw hx => py_field Tryz.underlying68 rfl Tryz.sizeOf45 rfl rfl) (dV rfl rfl (fun zw hx => py_load Tryz.underlying45 rfl rfl (cell_atL (hx.heapM (H9.boff 1 rfl 0 rfl rfl) (H9.box 1 rfl)) rfl)) (dV rfl rfl (fun zw hx => py_loadS Tryz.underlying68 rfl Tryz.sizeOf68 rfl rfl (At.whole (hx.heapM (H9.boff 1 rfl 0 rfl rfl) (H9.box 1 rfl)))) (d_call rfl (wn rfl) rfl rfl (pc_call Tryz.func151 rfl Tryz_nm151 rfl) (Tryz_clone_b (H9.sees 5 rfl) (by omega)) (fun hS _ _ r _ => hS.trans r.1.no) (fun v3 w8 r3 => ?_))))
   obtain ⟨e8, r3⟩ := r3
   obtain ⟨fp1, H10⟩ := H9.res e8 r3
   obtain ⟨a1, k1, q2⟩ := own_slice (H10.mine 2 rfl)
   cases q2
   refine dV rfl rfl (fun zw hx => py_assign rfl) (d_stoS rfl (wn rfl) Tryz.sizeOf68 rfl rfl rfl rfl H10 0 rfl rfl (fun _ h e _ => h.trans (e.mono fun _ _ q => by simp [q])) (fun w9 e9 H11 => ?_))
   dsimp only [List.nil_append, List.cons_append, List.set_cons_zero, List.set_cons_succ, layL] at H11
   refine d_end rfl (wn rfl) rfl rfl (py_assign rfl) (d_nil (W_ret (hQ _ _ (finTCT Tryz.results86 rfl (run_loadVarS Tryz.underlying68 rfl Tryz.sizeOf68 rfl (At.whole (H11.box 0 rfl))) rfl rfl ?_))))
   have hcz : wholeC z g row = 0 := wholeC_one (by simpa using c1) (by simpa using c2)
   rw [wholeB_yes hcz, wholeR_yes hcz, hcz]
   exact ⟨H11.ext, _, _, pA1, pA2, pA3, pA4, pA5, pA6, rfl, H11.out 2 rfl, (hI1.back H2.ext (Rp.lt zO11)).to H11.ext⟩
theorem Tryz_impl_WholeShare {w : World} {z : Wld} {zA9 : Option Addr} {zC9 : Nat} {zA10 : Option Addr} {zC10 : Nat} {zA11 : Option Addr} {zC11 : Nat} {g : Int} {row : Int} (zK : z.Ok) (zS9 : Sees w [.slice zA9 z.Groups.length zC9] z.Groups) (zS10 : Sees w [.slice zA10 z.On.length zC10] z.On) (zS11 : Sees w [.slice zA11 z.Tapes.length zC11] z.Tapes) (hb : szWld z ≤ 1048576) : Ret Tryz.prog 25 #[z.val zA9 zC9 zA10 zC10 zA11 zC11, .int .i64 g, .int .i64 row] w fun v w' => Ext No w w' ∧ (∃ A1 C1, v = (wholeF z g row).val A1 C1 ∧ Res w w' [.int .i64 (wholeF z g row).Code, .slice A1 (wholeF z g row).Bytes.length C1] (wholeF z g row)) := by
 have zK2 := zK
 unfold Wld.Ok Shape.Ok at zK2
 try unfold I64ok at zK2
 try unfold maxLen at zK2
 have zL9 := sees_len zS9
 unfold maxLen at zL9
 obtain ⟨zF9, zO9⟩ := zS9
 have zL10 := sees_len zS10
 unfold maxLen at zL10
 obtain ⟨zF10, zO10⟩ := zS10
 have zL11 := sees_len zS11
 unfold maxLen at zL11
 obtain ⟨zF11, zO11⟩ := zS11
 refine ret_Q (vs := [z.val zA9 zC9 zA10 zC10 zA11 zC11, .int .i64 g, .int .i64 row]) Tryz.func25 rfl Tryz.ntmps25 rfl (fun Q hQ hN => ?_)
 have H0 := Sep.start (w := w) (F := [seen false [.slice zA9 z.Groups.length zC9] z.Groups zF9, seen false [.slice zA10 z.On.length zC10] z.On zF10, seen false [.slice zA11 z.Tapes.length zC11] z.Tapes zF11]) (all_cons zO9 (all_cons zO10 (all_cons zO11 (by simp))))
 refine W_sr (s_box (wn rfl) rfl rfl H0 (fun b1 w1 e1 g1 H1 => ?_))
 refine s_var (wn rfl) rfl Tryz.zeroValue47 H1 (fun b2 w2 e2 g2 H2 => ?_)
 refine s_nil (W_sr (sV rfl (py_loadS Tryz.underlying38 rfl Tryz.sizeOf38 rfl rfl (At.whole (H2.box 0 rfl))) (s_call (wn rfl) rfl rfl (pc_call Tryz.func70 rfl Tryz_nm70 rfl) (Tryz_impl_WorldFault (by assumption) (H2.sees 0 rfl) (H2.sees 1 rfl) (H2.sees 2 rfl)) (fun v1 w3 r1 => ?_))))
 obtain ⟨e3, rfl⟩ := r1
 have H3 := H2.to e3
 refine sV rfl (py_assign rfl) (s_nil (W_seq (W_block (W_sr (sV rfl (py_move rfl) (sV rfl (py_neq rfl rfl) (sV rfl (py_assign rfl) (s_nil (W_ifd rfl (fun c1 => ?_) (fun c1 => ?_))))))))))
 ·refine W_sr (sV rfl (py_move rfl) (sV rfl (py_buildS Tryz_pl47 rfl rfl) (s_stoS (wn rfl) Tryz.sizeOf47 rfl rfl rfl rfl H3 1 rfl rfl (fun w4 e4 H4 => ?_))))
  dsimp only [List.nil_append, List.cons_append, List.set_cons_zero, List.set_cons_succ, layL] at H4
  refine s_nil (W_ret (hQ _ _ (finC Tryz.results25 rfl (run_loadVarS Tryz.underlying47 rfl Tryz.sizeOf47 rfl (At.whole (H4.box 1 rfl))) ?_)))
  rw [whole_bad (by rw [ask_world (by omega)]; omega), ask_world (by omega)]
  exact ⟨H4.ext, none, 0, rfl, bytes_nil (by unfold I64ok; have := worldF_cd (z := z); dsimp only; omega)⟩
 ·refine W_seq ?_
  obtain ⟨hs, hG, hO⟩ := worldF_ok (w := z) (by omega)
  refine W_reg (sV rfl (py_field Tryz.underlying38 rfl Tryz.sizeOf34 rfl rfl) (sV rfl (py_loadS Tryz.underlying34 rfl Tryz.sizeOf34 rfl rfl (At.sub (H3.box 0 rfl) 9)) (sV rfl (py_move rfl) (s_call (wn rfl) rfl rfl (pc_call Tryz.func71 rfl Tryz_nm71 rfl) (Tryz_impl_Shape_isGroup (by assumption)) (fun v2 w5 r2 => ?_)))))
  obtain ⟨e5, rfl⟩ := r2
  have H5 := H3.to e5
  refine sV rfl (py_not rfl) (sV rfl (py_move rfl) (s_grp 5 (j := 5) (want := false) (t := 28) rfl rfl rfl rfl (fun hg1 kk1 => s_val (wgE rfl rfl rfl hg1) rfl rfl (py_field Tryz.underlying38 rfl Tryz.sizeOf34 rfl rfl) (s_val (wgE rfl rfl rfl hg1) rfl rfl (py_loadS Tryz.underlying34 rfl Tryz.sizeOf34 rfl rfl (At.sub (H5.box 0 rfl) 9)) (s_val (wgE rfl rfl rfl hg1) rfl rfl (py_move rfl) (s_callv (wgE rfl rfl rfl hg1) rfl rfl (pc_call Tryz.func72 rfl Tryz_nm72 rfl) (Tryz_impl_Shape_isRow (by assumption)) (fun w7 e7 => s_val (wgE rfl rfl rfl hg1) rfl rfl (py_not rfl) (kk1 _ _ (kx rfl (kx rfl (kx rfl (kx rfl (kx rfl k0))))) rfl (Ext.refl.trans e7))))))) (fun w6 e6 => ?_)))
  have H6 := H5.to e6
  refine sV rfl (py_bor rfl rfl) (sV rfl (py_assign rfl) (s_nil (W_if rfl (fun c2 => ?_) (fun c2 => ?_))))
  ·refine W_seq ?_
   have aq : askF z g row = 3 := ask_place (by omega) (by rw [place_zero hs]; revert c2; cases ins g 0 (z.Shape.Groups + z.Shape.Column - 1) <;> cases ins row 0 (z.Shape.Rows - 1) <;> simp)
   refine W_reg (sV rfl (py_buildS Tryz_pl47 rfl rfl) (s_stoS (wn rfl) Tryz.sizeOf47 rfl rfl rfl rfl H6 1 rfl rfl (fun w8 e8 H7 => ?_)))
   dsimp only [List.nil_append, List.cons_append, List.set_cons_zero, List.set_cons_succ, layL] at H7
   refine s_nil (W_ret (hQ _ _ (finC Tryz.results25 rfl (run_loadVarS Tryz.underlying47 rfl Tryz.sizeOf47 rfl (At.whole (H7.box 1 rfl))) ?_)))
   rw [whole_bad (by rw [aq]; omega), aq]
   exact ⟨H7.ext, none, 0, rfl, bytes_nil (by unfold I64ok; have := worldF_cd (z := z); dsimp only; omega)⟩
  ·refine W_skip (W_seq ?_)
   have hw0 : worldF z = 0 := by omega
   obtain ⟨hs, hG, hO⟩ := worldF_ok hw0
   have hT := (worldF_ok hw0).2.2.2.1
   have hrl := recs_bd hw0
   have hpl : placeF z.Shape g 0 row = true := by rw [place_zero hs]; revert c2; simp
   have aq : askF z g row = 0 := ask_fine hw0 hpl
   have hsz := opR_sz (z := z) (g := g) (row := row)
   have hwe := whole_eq aq
   refine W_reg (sV rfl (py_move rfl) (sV rfl (py_move rfl) (s_call (wn rfl) rfl rfl (pc_call Tryz.func86 rfl Tryz_nm86 rfl) (Tryz_impl_World_wholeShare (H6.box 0 rfl) (by assumption) (own_weak (H6.seen 0 rfl)) (own_weak (H6.seen 1 rfl)) (own_weak (H6.seen 2 rfl)) (by first | assumption | omega) (by first | assumption | omega) (by first | assumption | omega)) (fun v3 w9 r3 => ?_))))
   obtain ⟨e9, pA1, pA2, pA3, pA4, pA5, pA6, pA7, pA8, rfl, r3, hI1⟩ := r3
   obtain ⟨fp1, H8⟩ := H6.res e9 r3
   refine sV rfl (py_move rfl) (sV rfl (py_extr rfl rfl) (sV rfl (py_extr rfl rfl) (sV rfl (py_extr rfl rfl) (s_var (wn rfl) rfl Tryz.zeroValue68 H8 (fun b3 w10 e10 g3 H9 => ?_)))))
   refine sV rfl (py_assign rfl) (s_stoS (wn rfl) Tryz.sizeOf68 rfl rfl rfl rfl H9 3 rfl rfl (fun w11 e11 H10 => ?_))
   dsimp only [List.nil_append, List.cons_append, List.set_cons_zero, List.set_cons_succ, layL] at H10
   refine sV rfl (py_assign rfl) (s_nil (W_sr (sV rfl (py_move rfl) (sV rfl (py_move rfl) (sV rfl (py_buildS Tryz_pl47 rfl rfl) (s_stoS (wn rfl) Tryz.sizeOf47 rfl rfl rfl rfl H10 1 rfl rfl (fun w12 e12 H11 => ?_)))))))
   dsimp only [List.nil_append, List.cons_append, List.set_cons_zero, List.set_cons_succ, layL] at H11
   refine s_nil (W_ret (hQ _ _ (finC Tryz.results25 rfl (run_loadVarS Tryz.underlying47 rfl Tryz.sizeOf47 rfl (At.whole (H11.box 1 rfl))) ?_)))
   rw [hwe]
   exact ⟨H11.ext, _, _, rfl, BytesResult.out (x := ⟨wholeC z g row, wholeB z g row⟩) (H11.sub (.cons _ (.cons _ (.cons_cons _ (.cons _ List.Sublist.slnil))))) (by have := wholeC_bd (z := z) (g := g) (row := row); show I64ok (wholeC z g row); unfold I64ok; omega)⟩
theorem Tryz_spec_WholeShare {w : World} {z : Wld} {zA9 : Option Addr} {zC9 : Nat} {zA10 : Option Addr} {zC10 : Nat} {zA11 : Option Addr} {zC11 : Nat} {g : Int} {row : Int} (zK : z.Ok) (zS9 : Sees w [.slice zA9 z.Groups.length zC9] z.Groups) (zS10 : Sees w [.slice zA10 z.On.length zC10] z.On) (zS11 : Sees w [.slice zA11 z.Tapes.length zC11] z.Tapes) (hb : szWld z ≤ 1048576) : Ret Tryz.prog 24 #[z.val zA9 zC9 zA10 zC10 zA11 zC11, .int .i64 g, .int .i64 row] w fun v w' => Ext No w w' ∧ (∃ A1 C1, v = (wholeF z g row).val A1 C1 ∧ Res w w' [.int .i64 (wholeF z g row).Code, .slice A1 (wholeF z g row).Bytes.length C1] (wholeF z g row)) := by
 have zK2 := zK
 unfold Wld.Ok Shape.Ok at zK2
 try unfold I64ok at zK2
 try unfold maxLen at zK2
 have zL9 := sees_len zS9
 unfold maxLen at zL9
 obtain ⟨zF9, zO9⟩ := zS9
 have zL10 := sees_len zS10
 unfold maxLen at zL10
 obtain ⟨zF10, zO10⟩ := zS10
 have zL11 := sees_len zS11
 unfold maxLen at zL11
 obtain ⟨zF11, zO11⟩ := zS11
 refine ret_Q (vs := [z.val zA9 zC9 zA10 zC10 zA11 zC11, .int .i64 g, .int .i64 row]) Tryz.func24 rfl Tryz.ntmps24 rfl (fun Q hQ hN => ?_)
 have H0 := Sep.start (w := w) (F := [seen false [.slice zA9 z.Groups.length zC9] z.Groups zF9, seen false [.slice zA10 z.On.length zC10] z.On zF10, seen false [.slice zA11 z.Tapes.length zC11] z.Tapes zF11]) (all_cons zO9 (all_cons zO10 (all_cons zO11 (by simp))))
 refine W_sr (s_box (wn rfl) rfl rfl H0 (fun b1 w1 e1 g1 H1 => ?_))
 refine s_var (wn rfl) rfl Tryz.zeroValue47 H1 (fun b2 w2 e2 g2 H2 => ?_)
 refine s_nil (W_sr (sV rfl (py_loadS Tryz.underlying38 rfl Tryz.sizeOf38 rfl rfl (At.whole (H2.box 0 rfl))) (sV rfl (py_move rfl) (sV rfl (py_move rfl) (s_call (wn rfl) rfl rfl (pc_call Tryz.func16 rfl Tryz_nm16 rfl) (Tryz_spec_OpenShare (by assumption) (H2.sees 0 rfl) (H2.sees 1 rfl) (H2.sees 2 rfl) (by first | assumption | omega)) (fun v1 w3 r1 => ?_))))))
 obtain ⟨e3, sa1, sk1, rfl, r1⟩ := r1
 obtain ⟨fp1, H3⟩ := H2.res e3 r1
 obtain ⟨sf1, sq1, sok1, so1⟩ := own_RecsResultC (H3.mine 2 rfl)
 have H4 := H3.part 2 rfl [mine [.slice _ (openShF z g row).Recs.length _] (openShF z g row).Recs sf1] (all_cons so1 (by simp)) (by simp [blocks, mine, sq1])
 try dsimp only [List.nil_append, List.cons_append, List.set_cons_zero, List.set_cons_succ] at H4
 refine s_var (wn rfl) rfl Tryz.zeroValue32 H4 (fun b3 w4 e4 g3 H5 => ?_)
 refine s_stoS (wn rfl) Tryz.sizeOf32 rfl rfl rfl rfl H5 4 rfl rfl (fun w5 e5 H6 => ?_)
 dsimp only [List.nil_append, List.cons_append, List.set_cons_zero, List.set_cons_succ, layL] at H6
 refine s_nil (W_seq (W_sr (sV rfl (py_field Tryz.underlying32 rfl Tryz.sizeOf2 rfl rfl) (sV rfl (py_load Tryz.underlying2 rfl rfl (cell_atL (H6.box 4 rfl) rfl)) (sV rfl (py_neq rfl rfl) (s_nil (W_ifd rfl (fun c1 => ?_) (fun c1 => ?_))))))))
 ·refine W_sr (sV rfl (py_field Tryz.underlying32 rfl Tryz.sizeOf2 rfl rfl) (sV rfl (py_load Tryz.underlying2 rfl rfl (cell_atL (H6.box 4 rfl) rfl)) (sV rfl (py_buildS Tryz_pl47 rfl rfl) (s_stoS (wn rfl) Tryz.sizeOf47 rfl rfl rfl rfl H6 1 rfl rfl (fun w6 e6 H7 => ?_)))))
  dsimp only [List.nil_append, List.cons_append, List.set_cons_zero, List.set_cons_succ, layL] at H7
  refine s_nil (W_ret (hQ _ _ (finC Tryz.results24 rfl (run_loadVarS Tryz.underlying47 rfl Tryz.sizeOf47 rfl (At.whole (H7.box 1 rfl))) ?_)))
  rw [whole_code (by omega)]
  exact ⟨H7.ext, none, 0, rfl, bytes_nil (by unfold I64ok; have := (show -9223372036854775808 ≤ (openShF z g row).Code ∧ (openShF z g row).Code ≤ 9223372036854775807 from openSh_Ok); dsimp only; omega)⟩
 ·refine W_skip (W_seq (W_seq ?_))
  obtain ⟨aq, hok, e9⟩ := openSh_zero (z := z) (g := g) (row := row) (by omega)
  have hrl1 : (openShF z g row).Recs.length = 1 := by rw [e9]; rfl
  have HZ := H6
  rw [e9] at HZ
  dsimp only at HZ
  rw [show [opR z g row].length = 1 from rfl] at HZ
  obtain ⟨eb1, eo1, eT1, eF1, eG1, ea1, ek1, ea2, ek2, ea3, ek3, eg1, eg2, eg3, ee1, eK1, eH1⟩ := Rec.focus HZ 3 rfl 0 (by simp)
  have eK1U := eK1
  unfold Rec.Ok at eK1U
  try unfold I64ok at eK1U
  try unfold maxLen at eK1U
  try dsimp only [List.nil_append, List.cons_append, List.set_cons_zero, List.set_cons_succ] at eH1
  refine W_reg (sV rfl (py_field Tryz.underlying32 rfl Tryz.sizeOf30 rfl rfl) (sV rfl (py_load Tryz.underlying30 rfl rfl (cell_atL (eH1.box 4 rfl) rfl)) (sV rfl (py_elz Tryz.underlying30 Tryz.sizeOf68 rfl rfl ee1 0 (by omega) (by omega)) (sV rfl (py_loadS Tryz.underlying68 rfl Tryz.sizeOf68 rfl rfl (eH1.holAt 3 rfl)) (s_call (wn rfl) rfl rfl (pc_call Tryz.func85 rfl Tryz_nm85 rfl) (Tryz_spec_ShareWhole (by assumption) (eH1.msees 6 rfl) (eH1.msees 7 rfl) (eH1.msees 8 rfl)) (fun v2 w7 r2 => ?_))))))
  obtain ⟨e7, rfl⟩ := r2
  have H8 := eH1.to e7
  refine sV rfl (py_not rfl) (s_nil (W_if rfl (fun c2 => ?_) (fun c2 => ?_)))
  ·refine W_sr (sV rfl (py_buildS Tryz_pl47 rfl rfl) (s_stoS (wn rfl) Tryz.sizeOf47 rfl rfl rfl rfl H8 1 rfl rfl (fun w8 e8 H9 => ?_)))
   dsimp only [List.nil_append, List.cons_append, List.set_cons_zero, List.set_cons_succ, layL] at H9
   refine s_nil (W_ret (hQ _ _ (finC Tryz.results24 rfl (run_loadVarS Tryz.underlying47 rfl Tryz.sizeOf47 rfl (At.whole (H9.box 1 rfl))) ?_)))
   rw [whole_zero aq hok (by simpa using c2)]
   exact ⟨H9.ext, none, 0, rfl, bytes_nil (by unfold I64ok; have := worldF_cd (z := z); dsimp only; omega)⟩
  ·refine W_skip (W_sr (sV rfl (py_field Tryz.underlying32 rfl Tryz.sizeOf30 rfl rfl) (sV rfl (py_load Tryz.underlying30 rfl rfl (cell_atL (H8.box 4 rfl) rfl)) (sV rfl (py_elz Tryz.underlying30 Tryz.sizeOf68 rfl rfl ee1 0 (by omega) (by omega)) (sV rfl (py_field Tryz.underlying68 rfl Tryz.sizeOf45 rfl rfl) (sV rfl (py_load Tryz.underlying45 rfl rfl (at_cell (H8.holAt 3 rfl) 7 rfl)) (sV rfl (py_buildS Tryz_pl47 rfl rfl) (s_stoS (wn rfl) Tryz.sizeOf47 rfl rfl rfl rfl H8 1 rfl rfl (fun w9 e9 H10 => ?_)))))))))
   dsimp only [List.nil_append, List.cons_append, List.set_cons_zero, List.set_cons_succ, layL] at H10
   refine s_nil (W_ret (hQ _ _ (finC Tryz.results24 rfl (run_loadVarS Tryz.underlying47 rfl Tryz.sizeOf47 rfl (At.whole (H10.box 1 rfl))) ?_)))
   rw [whole_one aq hok (by simpa using c2)]
   exact ⟨H10.ext, _, _, rfl, BytesResult.out (x := ⟨0, (opR z g row).Data⟩) (H10.sub (.cons _ (.cons _ (.cons _ (.cons _ (.cons _ (.cons _ (.cons _ (.cons_cons _ (.cons _ List.Sublist.slnil)))))))))) (by show I64ok 0; unfold I64ok; omega)⟩
theorem Tryz_impl_World_notReady {w : World} {zb : Nat} {z : Wld} {zA9 : Option Addr} {zC9 : Nat} {zA10 : Option Addr} {zC10 : Nat} {zA11 : Option Addr} {zC11 : Nat} {zF9 : List Nat} {zF10 : List Nat} {zF11 : List Nat} {g : Int} (zB : w.heap[zb]? = some (.cells [.int .i64 z.Shape.Groups, .int .i64 z.Shape.Column, .int .i64 z.Shape.Data, .int .i64 z.Shape.Spare, .int .i64 z.Shape.Rows, .int .i64 z.Shape.Cap, .int .i64 z.Shape.Batch, .int .i64 z.Shape.Queue, .int .i64 z.Shape.Stage, .slice zA9 z.Groups.length zC9, .slice zA10 z.On.length zC10, .slice zA11 z.Tapes.length zC11, .int .i64 z.Writes, .int .i64 z.Stop, .bool z.Down].toArray 38)) (zK : z.Ok) (zO9 : own false w [.slice zA9 z.Groups.length zC9] z.Groups zF9) (zO10 : own false w [.slice zA10 z.On.length zC10] z.On zF10) (zO11 : own false w [.slice zA11 z.Tapes.length zC11] z.Tapes zF11) (hs : z.Shape.ok = true) (hG : groupsOK z = true) (hg : ins g 0 (z.Shape.Groups + z.Shape.Column - 1) = true) (hT : z.Tapes.length = 2) (hrl : ∀ k, (z.Tapes.getD k default).Recs.length ≤ 200000) (hb : szWld z ≤ 1048576) : Ret Tryz.prog 91 #[.pointer (some ⟨zb, 0, none⟩), .int .i64 g] w fun v w' => Ext No w w' ∧ (Res w w' [v] (unreadyTo z g z.Shape.Rows.toNat)) := by
 have zK2 := zK
 unfold Wld.Ok Shape.Ok at zK2
 try unfold I64ok at zK2
 try unfold maxLen at zK2
 have zL9 := own_len_le zO9
 unfold maxLen at zL9
 have zL10 := own_len_le zO10
 unfold maxLen at zL10
 have zL11 := own_len_le zO11
 unfold maxLen at zL11
 have sbd := shape_bd hs
 refine ret_Q (vs := [.pointer (some ⟨zb, 0, none⟩), .int .i64 g]) Tryz.func91 rfl Tryz.ntmps91 rfl (fun Q hQ hN => ?_)
 have H0 := Sep.start (w := w) (F := [box zb (.cells [.int .i64 z.Shape.Groups, .int .i64 z.Shape.Column, .int .i64 z.Shape.Data, .int .i64 z.Shape.Spare, .int .i64 z.Shape.Rows, .int .i64 z.Shape.Cap, .int .i64 z.Shape.Batch, .int .i64 z.Shape.Queue, .int .i64 z.Shape.Stage, .slice zA9 z.Groups.length zC9, .slice zA10 z.On.length zC10, .slice zA11 z.Tapes.length zC11, .int .i64 z.Writes, .int .i64 z.Stop, .bool z.Down].toArray 38), seen false [.slice zA9 z.Groups.length zC9] z.Groups zF9, seen false [.slice zA10 z.On.length zC10] z.On zF10, seen false [.slice zA11 z.Tapes.length zC11] z.Tapes zF11]) (all_cons (by exact zB) (all_cons zO9 (all_cons zO10 (all_cons zO11 (by simp)))))
 refine W_sr (sV rfl (py_assign rfl) (s_nil (W_sr (s_lit0 (α := Int) (wn rfl) rfl Tryz.underlying25 Tryz_ty2 H0 (fun b1 w1 e1 g1 H1 => ?_)))))
 refine sV rfl (py_assign rfl) (s_nil (W_seq (W_sr (sV rfl (py_move rfl) (sV rfl (py_nil rfl) (sV rfl (py_field Tryz.underlying38 rfl Tryz.sizeOf34 rfl rfl) (sV rfl (py_field Tryz.underlying34 rfl Tryz.sizeOf2 rfl rfl) (sV rfl (py_load Tryz.underlying2 rfl rfl (cell_atL (H1.fbox 0 rfl) rfl)) (sV rfl (py_move rfl) (s_nil (W_block (W_loopA (α := Int) (γ := Nat) (fun k => (unreadyTo z g k)) 0 H1 0 rfl 5 rfl [(0, _), (1, _), (4, _), (15, _)] ⟨rfl, rfl, rfl, rfl, trivial⟩ (fun k => [(16, .int .i64 k)]) (fun k => k ≤ z.Shape.Rows.toNat ∧ True) (fun k => z.Shape.Rows.toNat - k) ⟨rfl, trivial⟩ ⟨by omega, trivial⟩ (fun k vA1 fA1 w2 H2 ⟨hk, _⟩ => ?_)))))))))))))
 dsimp only [List.cons_append, List.nil_append, List.set_cons_zero, List.set_cons_succ] at H2 ⊢
 refine W_sr (sV rfl (py_lss rfl rfl) (s_nil (W_seq (W_ifd rfl (fun c1 => ?_) (fun c1 => ?_)))))
 ·refine W_skip (W_seq (W_block (W_sr (sV rfl (py_move rfl) (sV rfl (py_assign rfl) (s_nil (W_sr (sV rfl (py_move rfl) (sV rfl (py_move rfl) (sV rfl (py_move rfl) (s_call (wn rfl) rfl rfl (pc_call Tryz.func86 rfl Tryz_nm86 rfl) (Tryz_impl_World_wholeShare (H2.fbox 0 rfl) (by assumption) (own_weak (H2.seen 1 rfl)) (own_weak (H2.seen 2 rfl)) (own_weak (H2.seen 3 rfl)) (by first | assumption | omega) (by first | assumption | omega) (by first | assumption | omega)) (fun v1 w3 r1 => ?_))))))))))))
  obtain ⟨e2, pA1, pA2, pA3, pA4, pA5, pA6, pA7, pA8, rfl, r1, hI1⟩ := r1
  obtain ⟨fp1, H3⟩ := H2.res e2 r1
  refine sV rfl (py_move rfl) (sV rfl (py_extr rfl rfl) (sV rfl (py_extr rfl rfl) (sV rfl (py_extr rfl rfl) (s_var (wn rfl) rfl Tryz.zeroValue68 H3 (fun b2 w4 e3 g2 H4 => ?_)))))
  refine sV rfl (py_assign rfl) (s_stoS (wn rfl) Tryz.sizeOf68 rfl rfl rfl rfl H4 2 rfl rfl (fun w5 e4 H5 => ?_))
  dsimp only [List.nil_append, List.cons_append, List.set_cons_zero, List.set_cons_succ, layL] at H5
  refine sV rfl (py_assign rfl) (s_nil (W_sr (sV rfl (py_move rfl) (sV rfl (py_move rfl) (s_call (wn rfl) rfl rfl (pc_call Tryz.func101 rfl Tryz_nm101 rfl) (Tryz_impl_World_dead (H5.fbox 0 rfl) (by assumption) (H5.sees 1 rfl) (H5.sees 2 rfl) (H5.sees 3 rfl) (by assumption) (by assumption) (by assumption)) (fun v2 w6 r2 => ?_))))))
  obtain ⟨e5, rfl⟩ := r2
  have H6 := H5.to e5
  refine sV rfl (py_move rfl) (s_grp 2 (j := 3) (want := true) (t := 32) rfl rfl rfl rfl (fun hg1 kk1 => s_val (wgE rfl rfl rfl hg1) rfl rfl (py_move rfl) (s_val (wgE rfl rfl rfl hg1) rfl rfl (py_neq rfl rfl) (kk1 _ _ (kx rfl (kx rfl k0)) rfl Ext.refl))) (fun w7 e6 => ?_))
  have H7 := H6.to e6
  refine sV rfl (py_band rfl rfl) (s_nil (W_if rfl (fun c2 => ?_) (fun c2 => ?_)))
  ·have ul := unready_len (z := z) (g := g) k
   refine W_reg (sV rfl (py_move rfl) (sV rfl (py_move rfl) (s_lit1 (wn rfl) rfl Tryz.underlying25 Tryz_ty2 rfl rfl rfl rfl H7 (fun b3 w8 e7 g3 H8 => ?_))))
   refine s_app1 (wn rfl) rfl Tryz.underlying25 Tryz_ty2 rfl rfl rfl H8 0 3 rfl rfl (own_bi (by first | assumption | (unfold I64ok; omega))) (by unfold maxLen; omega) (by omega) (fun v3 w9 fp2 H9 => ?_)
   refine sV rfl (py_assign rfl) (s_nil (W_reg (sV rfl (py_add rfl rfl (in64 ⟨by omega, by omega⟩)) (sV rfl (py_move rfl) (s_nil ?_)))))
   rw [← unready_yes (by revert c2; simp; intro h _; exact h) (by revert c2; simp)] at H9
   exact ⟨(k + 1, _, _), ⟨rfl, rfl, rfl, rfl, rfl, rfl, trivial⟩, ⟨(H9.dtake 1), by omega, trivial⟩, by dsimp only; omega⟩
  ·refine W_skip (W_reg (sV rfl (py_add rfl rfl (in64 ⟨by omega, by omega⟩)) (sV rfl (py_move rfl) (s_nil ?_))))
   rw [← unready_no (by revert c2; cases deadF z g <;> simp)] at H7
   exact ⟨(k + 1, _, _), ⟨rfl, rfl, rfl, rfl, rfl, rfl, trivial⟩, ⟨(H7.dtake 1), by omega, trivial⟩, by dsimp only; omega⟩
 ·refine W_exit (W_sr (sV rfl (py_move rfl) (sV rfl (py_assign rfl) (s_nil (W_ret (hQ _ _ (fin1 Tryz.results91 rfl ?_)))))))
  obtain rfl : k = z.Shape.Rows.toNat := by omega
  exact ⟨H2.ext, H2.out 0 rfl⟩
theorem Tryz_impl_NotReady {w : World} {z : Wld} {zA9 : Option Addr} {zC9 : Nat} {zA10 : Option Addr} {zC10 : Nat} {zA11 : Option Addr} {zC11 : Nat} {g : Int} (zK : z.Ok) (zS9 : Sees w [.slice zA9 z.Groups.length zC9] z.Groups) (zS10 : Sees w [.slice zA10 z.On.length zC10] z.On) (zS11 : Sees w [.slice zA11 z.Tapes.length zC11] z.Tapes) (hb : szWld z ≤ 1048576) : Ret Tryz.prog 30 #[z.val zA9 zC9 zA10 zC10 zA11 zC11, .int .i64 g] w fun v w' => Ext No w w' ∧ (∃ A1 C1, v = (notReadyF z g).val A1 C1 ∧ Res w w' [.int .i64 (notReadyF z g).Code, .slice A1 (notReadyF z g).Lst.length C1] (notReadyF z g)) := by
 have zK2 := zK
 unfold Wld.Ok Shape.Ok at zK2
 try unfold I64ok at zK2
 try unfold maxLen at zK2
 have zL9 := sees_len zS9
 unfold maxLen at zL9
 obtain ⟨zF9, zO9⟩ := zS9
 have zL10 := sees_len zS10
 unfold maxLen at zL10
 obtain ⟨zF10, zO10⟩ := zS10
 have zL11 := sees_len zS11
 unfold maxLen at zL11
 obtain ⟨zF11, zO11⟩ := zS11
 refine ret_Q (vs := [z.val zA9 zC9 zA10 zC10 zA11 zC11, .int .i64 g]) Tryz.func30 rfl Tryz.ntmps30 rfl (fun Q hQ hN => ?_)
 have H0 := Sep.start (w := w) (F := [seen false [.slice zA9 z.Groups.length zC9] z.Groups zF9, seen false [.slice zA10 z.On.length zC10] z.On zF10, seen false [.slice zA11 z.Tapes.length zC11] z.Tapes zF11]) (all_cons zO9 (all_cons zO10 (all_cons zO11 (by simp))))
 refine W_sr (s_box (wn rfl) rfl rfl H0 (fun b1 w1 e1 g1 H1 => ?_))
 refine s_var (wn rfl) rfl Tryz.zeroValue52 H1 (fun b2 w2 e2 g2 H2 => ?_)
 refine s_nil (W_sr (sV rfl (py_loadS Tryz.underlying38 rfl Tryz.sizeOf38 rfl rfl (At.whole (H2.box 0 rfl))) (s_call (wn rfl) rfl rfl (pc_call Tryz.func70 rfl Tryz_nm70 rfl) (Tryz_impl_WorldFault (by assumption) (H2.sees 0 rfl) (H2.sees 1 rfl) (H2.sees 2 rfl)) (fun v1 w3 r1 => ?_))))
 obtain ⟨e3, rfl⟩ := r1
 have H3 := H2.to e3
 refine sV rfl (py_assign rfl) (s_nil (W_seq (W_block (W_sr (sV rfl (py_move rfl) (sV rfl (py_neq rfl rfl) (sV rfl (py_assign rfl) (s_nil (W_ifd rfl (fun c1 => ?_) (fun c1 => ?_))))))))))
 ·refine W_sr (sV rfl (py_move rfl) (sV rfl (py_buildS Tryz_pl52 rfl rfl) (s_stoS (wn rfl) Tryz.sizeOf52 rfl rfl rfl rfl H3 1 rfl rfl (fun w4 e4 H4 => ?_))))
  dsimp only [List.nil_append, List.cons_append, List.set_cons_zero, List.set_cons_succ, layL] at H4
  refine s_nil (W_ret (hQ _ _ (finC Tryz.results30 rfl (run_loadVarS Tryz.underlying52 rfl Tryz.sizeOf52 rfl (At.whole (H4.box 1 rfl))) ?_)))
  rw [notReady_bad (by rw [ask_world (by omega)]; omega), ask_world (by omega)]
  exact ⟨H4.ext, none, 0, rfl, ints_nil (by unfold I64ok; have := worldF_cd (z := z); dsimp only; omega)⟩
 ·refine W_seq ?_
  obtain ⟨hs, hG, hO⟩ := worldF_ok (w := z) (by omega)
  refine W_reg (sV rfl (py_field Tryz.underlying38 rfl Tryz.sizeOf34 rfl rfl) (sV rfl (py_loadS Tryz.underlying34 rfl Tryz.sizeOf34 rfl rfl (At.sub (H3.box 0 rfl) 9)) (sV rfl (py_move rfl) (s_call (wn rfl) rfl rfl (pc_call Tryz.func71 rfl Tryz_nm71 rfl) (Tryz_impl_Shape_isGroup (by assumption)) (fun v2 w5 r2 => ?_)))))
  obtain ⟨e5, rfl⟩ := r2
  have H5 := H3.to e5
  refine sV rfl (py_not rfl) (sV rfl (py_assign rfl) (s_nil (W_if rfl (fun c2 => ?_) (fun c2 => ?_))))
  ·refine W_seq ?_
   have aq : askF z g 0 = 3 := ask_place (by omega) (by rw [place_grp hs]; exact not_true c2)
   refine W_reg (sV rfl (py_buildS Tryz_pl52 rfl rfl) (s_stoS (wn rfl) Tryz.sizeOf52 rfl rfl rfl rfl H5 1 rfl rfl (fun w6 e6 H6 => ?_)))
   dsimp only [List.nil_append, List.cons_append, List.set_cons_zero, List.set_cons_succ, layL] at H6
   refine s_nil (W_ret (hQ _ _ (finC Tryz.results30 rfl (run_loadVarS Tryz.underlying52 rfl Tryz.sizeOf52 rfl (At.whole (H6.box 1 rfl))) ?_)))
   rw [notReady_bad (by rw [aq]; omega), aq]
   exact ⟨H6.ext, none, 0, rfl, ints_nil (by unfold I64ok; have := worldF_cd (z := z); dsimp only; omega)⟩
  ·refine W_skip (W_seq ?_)
   have hw0 : worldF z = 0 := by omega
   have hT := (worldF_ok hw0).2.2.2.1
   have hrl := recs_bd hw0
   have hg := not_false c2
   have aq : askF z g 0 = 0 := ask_fine (by omega) (by rw [place_grp hs]; exact hg)
   refine W_reg (sV rfl (py_move rfl) (s_call (wn rfl) rfl rfl (pc_call Tryz.func91 rfl Tryz_nm91 rfl) (Tryz_impl_World_notReady (H5.box 0 rfl) (by assumption) (own_weak (H5.seen 0 rfl)) (own_weak (H5.seen 1 rfl)) (own_weak (H5.seen 2 rfl)) (by assumption) (by assumption) (by assumption) (by first | assumption | omega) (by first | assumption | omega) (by first | assumption | omega)) (fun v3 w7 r3 => ?_)))
   obtain ⟨e7, r3⟩ := r3
   obtain ⟨fp1, H7⟩ := H5.res e7 r3
   obtain ⟨a1, k1, q1⟩ := own_slice (H7.mine 2 rfl)
   cases q1
   refine sV rfl (py_buildS Tryz_pl52 rfl rfl) (s_stoS (wn rfl) Tryz.sizeOf52 rfl rfl rfl rfl H7 1 rfl rfl (fun w8 e8 H8 => ?_))
   dsimp only [List.nil_append, List.cons_append, List.set_cons_zero, List.set_cons_succ, layL] at H8
   refine s_nil (W_ret (hQ _ _ (finC Tryz.results30 rfl (run_loadVarS Tryz.underlying52 rfl Tryz.sizeOf52 rfl (At.whole (H8.box 1 rfl))) ?_)))
   rw [notReady_ok (by omega)]
   exact ⟨H8.ext, _, _, rfl, IntsResult.out (x := ⟨0, unreadyTo z g z.Shape.Rows.toNat⟩) (H8.sub (.cons _ (.cons _ (.cons_cons _ List.Sublist.slnil)))) (by show I64ok 0; unfold I64ok; omega)⟩
theorem Tryz_spec_l10NotReady {w : World} {zb : Nat} {z : Wld} {zA9 : Option Addr} {zC9 : Nat} {zA10 : Option Addr} {zC10 : Nat} {zA11 : Option Addr} {zC11 : Nat} {zF9 : List Nat} {zF10 : List Nat} {zF11 : List Nat} {g : Int} (zB : w.heap[zb]? = some (.cells [.int .i64 z.Shape.Groups, .int .i64 z.Shape.Column, .int .i64 z.Shape.Data, .int .i64 z.Shape.Spare, .int .i64 z.Shape.Rows, .int .i64 z.Shape.Cap, .int .i64 z.Shape.Batch, .int .i64 z.Shape.Queue, .int .i64 z.Shape.Stage, .slice zA9 z.Groups.length zC9, .slice zA10 z.On.length zC10, .slice zA11 z.Tapes.length zC11, .int .i64 z.Writes, .int .i64 z.Stop, .bool z.Down].toArray 38)) (zK : z.Ok) (zO9 : own false w [.slice zA9 z.Groups.length zC9] z.Groups zF9) (zO10 : own false w [.slice zA10 z.On.length zC10] z.On zF10) (zO11 : own false w [.slice zA11 z.Tapes.length zC11] z.Tapes zF11) (hs : z.Shape.ok = true) (hG : groupsOK z = true) (hg : ins g 0 (z.Shape.Groups + z.Shape.Column - 1) = true) (hT : z.Tapes.length = 2) (hrl : ∀ k, (z.Tapes.getD k default).Recs.length ≤ 200000) (hb : szWld z ≤ 1048576) : Ret Tryz.prog 90 #[.pointer (some ⟨zb, 0, none⟩), .int .i64 g] w fun v w' => Ext No w w' ∧ (Res w w' [v] (unreadyTo z g z.Shape.Rows.toNat)) := by
 have zK2 := zK
 unfold Wld.Ok Shape.Ok at zK2
 try unfold I64ok at zK2
 try unfold maxLen at zK2
 have zL9 := own_len_le zO9
 unfold maxLen at zL9
 have zL10 := own_len_le zO10
 unfold maxLen at zL10
 have zL11 := own_len_le zO11
 unfold maxLen at zL11
 have sbd := shape_bd hs
 refine ret_Q (vs := [.pointer (some ⟨zb, 0, none⟩), .int .i64 g]) Tryz.func90 rfl Tryz.ntmps90 rfl (fun Q hQ hN => ?_)
 have H0 := Sep.start (w := w) (F := [box zb (.cells [.int .i64 z.Shape.Groups, .int .i64 z.Shape.Column, .int .i64 z.Shape.Data, .int .i64 z.Shape.Spare, .int .i64 z.Shape.Rows, .int .i64 z.Shape.Cap, .int .i64 z.Shape.Batch, .int .i64 z.Shape.Queue, .int .i64 z.Shape.Stage, .slice zA9 z.Groups.length zC9, .slice zA10 z.On.length zC10, .slice zA11 z.Tapes.length zC11, .int .i64 z.Writes, .int .i64 z.Stop, .bool z.Down].toArray 38), seen false [.slice zA9 z.Groups.length zC9] z.Groups zF9, seen false [.slice zA10 z.On.length zC10] z.On zF10, seen false [.slice zA11 z.Tapes.length zC11] z.Tapes zF11]) (all_cons (by exact zB) (all_cons zO9 (all_cons zO10 (all_cons zO11 (by simp)))))
 refine W_sr (sV rfl (py_assign rfl) (s_nil (W_sr (s_lit0 (α := Int) (wn rfl) rfl Tryz.underlying25 Tryz_ty2 H0 (fun b1 w1 e1 g1 H1 => ?_)))))
 refine sV rfl (py_assign rfl) (s_nil (W_seq (W_sr (sV rfl (py_move rfl) (sV rfl (py_move rfl) (s_call (wn rfl) rfl rfl (pc_call Tryz.func158 rfl Tryz_nm158 rfl) (Tryz_spec_l7Dead (H1.fbox 0 rfl) (by assumption) (H1.sees 1 rfl) (H1.sees 2 rfl) (H1.sees 3 rfl) (by assumption) (by assumption) (by assumption)) (fun v1 w2 r1 => ?_)))))))
 obtain ⟨e2, rfl⟩ := r1
 have H2 := H1.to e2
 refine sV rfl (py_not rfl) (s_nil (W_if rfl (fun c1 => ?_) (fun c1 => ?_)))
 ·have hdd : deadF z g = false := by simpa using c1
  refine W_sr (sV rfl (py_move rfl) (sV rfl (py_assign rfl) (s_nil (W_ret (hQ _ _ (fin1 Tryz.results90 rfl ?_))))))
  exact ⟨H2.ext, by have hz := H2.out 0 rfl; rwa [← unready_alive hdd z.Shape.Rows.toNat] at hz⟩
 ·have hdd : deadF z g = true := by simpa using c1
  refine W_skip (W_sr (sV rfl (py_move rfl) (s_call (wn rfl) rfl rfl (pc_call Tryz.func63 rfl Tryz_nm63 rfl) (Tryz_spec_l6Counted (H2.fbox 0 rfl) (by assumption) (own_weak (H2.seen 1 rfl)) (own_weak (H2.seen 2 rfl)) (own_weak (H2.seen 3 rfl)) (by first | assumption | omega) (by first | assumption | omega)) (fun v2 w3 r2 => ?_))))
  obtain ⟨e3, vs1, r2, hR1, hM1⟩ := r2
  obtain ⟨fp1, H3⟩ := H2.res e3 r2
  obtain ⟨sa1, sk1, sq1⟩ := own_slice (H3.mine 1 rfl)
  cases sq1
  have hl1 : vs1.length = (cntL z).length := by rw [← hM1, List.length_map]
  have hb1 := cntL_bd (z := z) (by first | assumption | omega) (by assumption)
  have hRw1 : RdV w zF11 vs1 := hR1.back H3.ext (Rp.lt zO11)
  refine sV rfl (py_assign rfl) (s_nil (W_seq (W_sr (sV rfl (py_assign rfl) (s_nil (W_block (W_loopA (α := Int) (γ := Nat) (fun k => (unreadyTo z g k)) 0 H3 0 rfl 5 rfl [(0, _), (1, _), (4, _), (6, _)] ⟨rfl, rfl, rfl, rfl, trivial⟩ (fun k => [(7, .int .i64 k)]) (fun k => k ≤ z.Shape.Rows.toNat ∧ True) (fun k => z.Shape.Rows.toNat - k) ⟨rfl, trivial⟩ ⟨by omega, trivial⟩ (fun k vA1 fA1 w4 H4 ⟨hk, _⟩ => ?_))))))))
  dsimp only [List.cons_append, List.nil_append, List.set_cons_zero, List.set_cons_succ] at H4 ⊢
  refine W_seq (W_sr (sV rfl (py_move rfl) (sV rfl (py_move rfl) (sV rfl (py_nil rfl) (sV rfl (py_field Tryz.underlying38 rfl Tryz.sizeOf34 rfl rfl) (sV rfl (py_field Tryz.underlying34 rfl Tryz.sizeOf2 rfl rfl) (sV rfl (py_load Tryz.underlying2 rfl rfl (cell_atL (H4.fbox 0 rfl) rfl)) (sV rfl (py_lss rfl rfl) (s_nil (W_ifd rfl (fun c2 => ?_) (fun c2 => ?_)))))))))))
  ·refine W_skip (W_seq (W_block (W_seq ?_)))
   have ul := unready_len (z := z) (g := g) k
   have hob := opAt_bd (z := z) (g := g) (row := k)
   refine W_reg (sV rfl (py_move rfl) (sV rfl (py_nil rfl) (sV rfl (py_field Tryz.underlying38 rfl Tryz.sizeOf34 rfl rfl) (sV rfl (py_loadS Tryz.underlying34 rfl Tryz.sizeOf34 rfl rfl (At.sub (H4.fbox 0 rfl) 9)) (sV rfl (py_move rfl) (sV rfl (py_move rfl) (sV rfl (py_move rfl) ?_)))))))
   have lc8 := Tryz_spec_l8Open (s := z.Shape) (xs := vs1.map RecV.r) (g := g) (row := k) (by rw [List.length_map]; exact (hRw1.to H4.ext).list (H4.mine 1 rfl))
   rw [List.length_map, hM1, opI_cnt] at lc8
   refine s_call (wn rfl) rfl rfl (pc_call Tryz.func64 rfl Tryz_nm64 rfl) lc8 (fun v3 w5 r3 => ?_)
   obtain ⟨e4, rfl⟩ := r3
   have H5 := H4.to e4
   refine sV rfl (py_assign rfl) (s_nil (W_sr (sV rfl (py_move rfl) (sV rfl (py_lss rfl rfl) (sV rfl (py_move rfl) (s_case (t := 36) rfl (fun hg1 => ?_) (fun hg1 => ?_)))))))
   ·try simp only [decide_eq_true_eq, decide_eq_false_iff_not] at hg1
    refine s_skip (wog (b := true) rfl rfl rfl) rfl rfl (s_skip (wog (b := true) rfl rfl rfl) rfl rfl (s_skip (wog (b := true) rfl rfl rfl) rfl rfl (s_skip (wog (b := true) rfl rfl rfl) rfl rfl (s_skip (wog (b := true) rfl rfl rfl) rfl rfl (s_skip (wog (b := true) rfl rfl rfl) rfl rfl (sV rfl (py_pickT rfl rfl) (s_nil (W_ift rfl (W_reg (sV rfl (py_move rfl) (sV rfl (py_move rfl) (s_lit1 (wn rfl) rfl Tryz.underlying25 Tryz_ty2 rfl rfl rfl rfl H5 (fun b2 w6 e5 g2 H6 => ?_)))))))))))))
    refine s_app1 (wn rfl) rfl Tryz.underlying25 Tryz_ty2 rfl rfl rfl H6 0 2 rfl rfl (own_bi (by first | assumption | (unfold I64ok; omega))) (by unfold maxLen; omega) (by omega) (fun v4 w7 fp2 H7 => ?_)
    refine sV rfl (py_assign rfl) (s_nil (W_reg (sV rfl (py_move rfl) (sV rfl (py_add rfl rfl (in64 ⟨by omega, by omega⟩)) (sV rfl (py_assign rfl) (s_nil ?_))))))
    have hcw : wholeC z g k ≠ 0 := by rw [wholeC_none (by rw [opAt_ok, decide_eq_false (by omega)])]; omega
    rw [← unready_yes hdd hcw] at H7
    exact ⟨(k + 1, _, _), ⟨rfl, rfl, rfl, rfl, rfl, rfl, trivial⟩, ⟨(H7.dtake 2), by omega, trivial⟩, by dsimp only; omega⟩
   ·try simp only [decide_eq_true_eq, decide_eq_false_iff_not] at hg1
    refine s_val (wg rfl rfl rfl) rfl rfl (py_move rfl) (s_val (wg rfl rfl rfl) rfl rfl (py_move rfl) ?_)
    obtain ⟨eb1, eo1, ee1, ec1, eK1⟩ := H5.viewAt 1 rfl (opAt z g k).toNat (by omega)
    refine s_val (wg rfl rfl rfl) rfl rfl (py_elz Tryz.underlying30 Tryz.sizeOf68 rfl rfl ee1 (opAt z g k).toNat (by omega) (by omega)) (s_val (wg rfl rfl rfl) rfl rfl (py_loadS Tryz.underlying68 rfl Tryz.sizeOf68 rfl rfl ec1) ?_)
    have hin := (hRw1.to H5.ext).inAt (k := (opAt z g k).toNat) (by omega)
    have hur : (vs1.getD (opAt z g k).toNat default).r = opR z g k := by rw [map_getD hM1 (by omega)]; exact (opAt_R (by omega)).symm
    refine s_call (wg rfl rfl rfl) rfl rfl (pc_call Tryz.func85 rfl Tryz_nm85 rfl) (Tryz_spec_ShareWhole (r := (vs1.getD (opAt z g k).toNat default).r) hin.ok hin.sees.1 hin.sees.2.1 hin.sees.2.2) (fun v5 w8 r4 => ?_)
    obtain ⟨e6, rfl⟩ := r4
    have H8 := H5.to e6
    refine s_val (wg rfl rfl rfl) rfl rfl (py_not rfl) (sV rfl (py_pickF rfl rfl) (s_nil (W_if rfl (fun c3 => ?_) (fun c3 => ?_))))
    ·refine W_reg (sV rfl (py_move rfl) (sV rfl (py_move rfl) (s_lit1 (wn rfl) rfl Tryz.underlying25 Tryz_ty2 rfl rfl rfl rfl H8 (fun b3 w9 e7 g3 H9 => ?_))))
     refine s_app1 (wn rfl) rfl Tryz.underlying25 Tryz_ty2 rfl rfl rfl H9 0 2 rfl rfl (own_bi (by first | assumption | (unfold I64ok; omega))) (by unfold maxLen; omega) (by omega) (fun v6 w10 fp3 H10 => ?_)
     refine sV rfl (py_assign rfl) (s_nil (W_reg (sV rfl (py_move rfl) (sV rfl (py_add rfl rfl (in64 ⟨by omega, by omega⟩)) (sV rfl (py_assign rfl) (s_nil ?_))))))
     have hcw : wholeC z g k ≠ 0 := by rw [wholeC_zero (by rw [opAt_ok, decide_eq_true (by omega)]) (by rw [← hur]; simpa using c3)]; omega
     rw [← unready_yes hdd hcw] at H10
     exact ⟨(k + 1, _, _), ⟨rfl, rfl, rfl, rfl, rfl, rfl, trivial⟩, ⟨(H10.dtake 2), by omega, trivial⟩, by dsimp only; omega⟩
    ·refine W_skip (W_reg (sV rfl (py_move rfl) (sV rfl (py_add rfl rfl (in64 ⟨by omega, by omega⟩)) (sV rfl (py_assign rfl) (s_nil ?_)))))
     have hcw : wholeC z g k = 0 := wholeC_one (by rw [opAt_ok, decide_eq_true (by omega)]) (by rw [← hur]; simpa using c3)
     rw [← unready_no (.inr hcw)] at H8
     exact ⟨(k + 1, _, _), ⟨rfl, rfl, rfl, rfl, rfl, rfl, trivial⟩, ⟨H8, by omega, trivial⟩, by dsimp only; omega⟩
  ·refine W_exit (W_sr (sV rfl (py_move rfl) (sV rfl (py_assign rfl) (s_nil (W_ret (hQ _ _ (fin1 Tryz.results90 rfl ?_)))))))
   obtain rfl : k = z.Shape.Rows.toNat := by omega
   exact ⟨H4.ext, H4.out 0 rfl⟩
theorem Tryz_spec_NotReady {w : World} {z : Wld} {zA9 : Option Addr} {zC9 : Nat} {zA10 : Option Addr} {zC10 : Nat} {zA11 : Option Addr} {zC11 : Nat} {g : Int} (zK : z.Ok) (zS9 : Sees w [.slice zA9 z.Groups.length zC9] z.Groups) (zS10 : Sees w [.slice zA10 z.On.length zC10] z.On) (zS11 : Sees w [.slice zA11 z.Tapes.length zC11] z.Tapes) (hb : szWld z ≤ 1048576) : Ret Tryz.prog 29 #[z.val zA9 zC9 zA10 zC10 zA11 zC11, .int .i64 g] w fun v w' => Ext No w w' ∧ (∃ A1 C1, v = (notReadyF z g).val A1 C1 ∧ Res w w' [.int .i64 (notReadyF z g).Code, .slice A1 (notReadyF z g).Lst.length C1] (notReadyF z g)) := by
 have zK2 := zK
 unfold Wld.Ok Shape.Ok at zK2
 try unfold I64ok at zK2
 try unfold maxLen at zK2
 have zL9 := sees_len zS9
 unfold maxLen at zL9
 obtain ⟨zF9, zO9⟩ := zS9
 have zL10 := sees_len zS10
 unfold maxLen at zL10
 obtain ⟨zF10, zO10⟩ := zS10
 have zL11 := sees_len zS11
 unfold maxLen at zL11
 obtain ⟨zF11, zO11⟩ := zS11
 refine ret_Q (vs := [z.val zA9 zC9 zA10 zC10 zA11 zC11, .int .i64 g]) Tryz.func29 rfl Tryz.ntmps29 rfl (fun Q hQ hN => ?_)
 have H0 := Sep.start (w := w) (F := [seen false [.slice zA9 z.Groups.length zC9] z.Groups zF9, seen false [.slice zA10 z.On.length zC10] z.On zF10, seen false [.slice zA11 z.Tapes.length zC11] z.Tapes zF11]) (all_cons zO9 (all_cons zO10 (all_cons zO11 (by simp))))
 refine W_sr (s_box (wn rfl) rfl rfl H0 (fun b1 w1 e1 g1 H1 => ?_))
 refine s_var (wn rfl) rfl Tryz.zeroValue52 H1 (fun b2 w2 e2 g2 H2 => ?_)
 refine s_nil (W_seq (W_sr (sV rfl (py_loadS Tryz.underlying38 rfl Tryz.sizeOf38 rfl rfl (At.whole (H2.box 0 rfl))) (sV rfl (py_move rfl) (s_call (wn rfl) rfl rfl (pc_call Tryz.func62 rfl Tryz_nm62 rfl) (Tryz_spec_l8Asked (by assumption) (H2.sees 0 rfl) (H2.sees 1 rfl) (H2.sees 2 rfl)) (fun v1 w3 r1 => ?_))))))
 obtain ⟨e3, rfl⟩ := r1
 have H3 := H2.to e3
 refine sV rfl (py_assign rfl) (s_nil (W_sr (sV rfl (py_move rfl) (sV rfl (py_neq rfl rfl) (s_nil (W_ifd rfl (fun c1 => ?_) (fun c1 => ?_)))))))
 ·refine W_sr (sV rfl (py_move rfl) (sV rfl (py_buildS Tryz_pl52 rfl rfl) (s_stoS (wn rfl) Tryz.sizeOf52 rfl rfl rfl rfl H3 1 rfl rfl (fun w4 e4 H4 => ?_))))
  dsimp only [List.nil_append, List.cons_append, List.set_cons_zero, List.set_cons_succ, layL] at H4
  refine s_nil (W_ret (hQ _ _ (finC Tryz.results29 rfl (run_loadVarS Tryz.underlying52 rfl Tryz.sizeOf52 rfl (At.whole (H4.box 1 rfl))) ?_)))
  rw [notReady_bad (by omega)]
  exact ⟨H4.ext, none, 0, rfl, ints_nil (by unfold I64ok; have := askF_cd (z := z) (g := g) (row := 0); dsimp only; omega)⟩
 ·refine W_skip (W_seq ?_)
  obtain ⟨hw0, hs, hG, hg, _⟩ := askF_ok (z := z) (g := g) (row := 0) (by omega)
  have hT := (worldF_ok hw0).2.2.2.1
  have hrl := recs_bd hw0
  refine W_reg (sV rfl (py_move rfl) (s_call (wn rfl) rfl rfl (pc_call Tryz.func90 rfl Tryz_nm90 rfl) (Tryz_spec_l10NotReady (H3.box 0 rfl) (by assumption) (own_weak (H3.seen 0 rfl)) (own_weak (H3.seen 1 rfl)) (own_weak (H3.seen 2 rfl)) (by assumption) (by assumption) (by assumption) (by first | assumption | omega) (by first | assumption | omega) (by first | assumption | omega)) (fun v2 w5 r2 => ?_)))
  obtain ⟨e5, r2⟩ := r2
  obtain ⟨fp1, H5⟩ := H3.res e5 r2
  obtain ⟨a1, k1, q1⟩ := own_slice (H5.mine 2 rfl)
  cases q1
  refine sV rfl (py_buildS Tryz_pl52 rfl rfl) (s_stoS (wn rfl) Tryz.sizeOf52 rfl rfl rfl rfl H5 1 rfl rfl (fun w6 e6 H6 => ?_))
  dsimp only [List.nil_append, List.cons_append, List.set_cons_zero, List.set_cons_succ, layL] at H6
  refine s_nil (W_ret (hQ _ _ (finC Tryz.results29 rfl (run_loadVarS Tryz.underlying52 rfl Tryz.sizeOf52 rfl (At.whole (H6.box 1 rfl))) ?_)))
  rw [notReady_ok (by omega)]
  exact ⟨H6.ext, _, _, rfl, IntsResult.out (x := ⟨0, unreadyTo z g z.Shape.Rows.toNat⟩) (H6.sub (.cons _ (.cons _ (.cons_cons _ List.Sublist.slnil)))) (by show I64ok 0; unfold I64ok; omega)⟩
end Go.Wk
namespace Go.Wk
open Go.Proofs Rp
set_option maxRecDepth 10000
theorem Tryz_laws_markBlockS {w : World} {xs : List Block} {xsA : Option Addr} {xsC : Nat} {k : Int} {fp : List Nat} (o : own true w [.slice xsA xs.length xsC] xs fp) (nd : fp.Nodup) (hk : 0 ≤ k ∧ k + mkL mkBlock xs ≤ 4611686018427387904) : Ret Tryz.prog 253 #[.slice xsA xs.length xsC, .int .i64 k] w fun v w' => (v = .int .i64 (k + mkL mkBlock xs) ∧ ∃ xs', Mut w w' fp [.slice xsA xs.length xsC] xs' ∧ (xs'.length = xs.length ∧ mkL mkBlock xs' = mkL mkBlock xs ∧ MkL MkBlock mkBlock xs' k)) := by
 have len := own_len_le o
 unfold maxLen at len
 refine ret_Q (vs := [.slice xsA xs.length xsC, .int .i64 k]) Tryz.func253 rfl Tryz.ntmps253 rfl (fun Q hQ hN => ?_)
 have H0 := Sep.begin o nd
 refine W_sr (sV rfl (py_assign rfl) (s_nil (W_seq (W_sr (sV rfl (py_assign rfl) (s_nil (W_block (W_loop (γ := Nat × List Block × List Nat) (fun (i, ys, f) => [(0, .slice xsA xs.length xsC), (1, .int .i64 (k + sumN (fun i => mkBlock (xs.getD i default)) i)), (5, .int .i64 i)]) (fun (i, ys, f) w' => Sep (· ∈ fp) w [mine [.slice xsA xs.length xsC] ys f] [] w' ∧ MkInv MkBlock mkBlock xs k i ys ∧ True) (fun (i, ys, f) => xs.length - i) (0, xs, fp) ⟨rfl, eqI (by simp [sumN]), rfl, trivial⟩ ⟨H0, mk_begin, trivial⟩ (fun (i, ys, f) w1 H1 => ?_)))))))))
 obtain ⟨H1, hI, _⟩ := H1
 refine W_seq (W_seq ?_)
 have hiB := hI.1
 have hys := hI.2.1
 refine W_reg (sV rfl (py_move rfl) (sV rfl (py_move rfl) (sV rfl (py_len Tryz.underlying178 rfl) (sV rfl (py_lss rfl rfl) (s_nil (W_ifd rfl (fun c1 => ?_) (fun c1 => ?_)))))))
 ·refine W_skip (W_seq (W_block (W_seq ?_)))
  have hiL : i < xs.length := by omega
  have hat := mk_at hI
  obtain ⟨sg, sl⟩ := mkL_at (c := mkBlock) hiL
  have hci : mkBlock (ys.getD i default) = mkBlock (xs.getD i default) := hI.2.2.1 i
  have hcu : mkBlock (ys.getD i default) = 1 + (ys.getD i default).Bytes.length := rfl
  obtain ⟨eb1, eo1, eT1, eF1, eG1, ea1, ek1, eg1, ee1, eK1, eH1⟩ := Block.focus H1 0 rfl i (by omega)
  have eK1U := eK1
  unfold Block.Ok at eK1U
  try unfold I64ok at eK1U
  try unfold maxLen at eK1U
  try dsimp only [List.nil_append, List.cons_append, List.set_cons_zero, List.set_cons_succ] at eH1
  refine W_reg (sV rfl (py_move rfl) (sV rfl (py_move rfl) (sV rfl (py_move rfl) (sV rfl (py_elz Tryz.underlying178 Tryz.sizeOf182 rfl rfl ee1 i (by omega) (by omega)) (sV rfl (py_field Tryz.underlying182 rfl Tryz.sizeOf2 rfl rfl) (s_hsto (wn rfl) Tryz.sizeOf2 eH1 0 0 rfl rfl rfl rfl rfl (fun w2 H2 => ?_)))))))
  dsimp only [List.nil_append, List.cons_append, List.set_cons_zero, List.set_cons_succ, layL] at H2
  refine s_nil (W_sr (sV rfl (py_move rfl) (sV rfl (py_add rfl rfl (in64 ⟨by omega, by omega⟩)) (sV rfl (py_assign rfl) (s_nil (W_reg (sV rfl (py_move rfl) (sV rfl (py_move rfl) (sV rfl (py_elz Tryz.underlying178 Tryz.sizeOf182 rfl rfl ee1 i (by omega) (by omega)) (sV rfl (py_field Tryz.underlying182 rfl Tryz.sizeOf45 rfl rfl) (sV rfl (py_load Tryz.underlying45 rfl rfl (at_cell (H2.holAt 0 rfl) 1 rfl)) (sV rfl (py_move rfl) (s_call (wn rfl) rfl rfl (pc_call Tryz.func88 rfl Tryz_nm88 rfl) (Tryz_laws_markByteS (H2.mine 2 rfl) (H2.nodup1 (i := 2) rfl) (by constructor <;> omega)) (fun v1 w3 r1 => ?_))))))))))))))
  obtain ⟨rfl, mx1, mm1, ml1, mk1⟩ := r1
  obtain ⟨fp1, H3⟩ := H2.mut 2 rfl mm1
  try dsimp only [List.nil_append, List.cons_append, List.set_cons_zero, List.set_cons_succ] at H3
  refine sV rfl (py_assign rfl) (s_nil (W_reg (sV rfl (py_move rfl) (sV rfl (py_add rfl rfl (in64 ⟨by omega, by omega⟩)) (sV rfl (py_assign rfl) (s_nil ?_))))))
  have okz : (⟨(k + sumN (fun i => mkBlock (xs.getD i default)) i), mx1⟩ : Block).Ok := by unfold Block.Ok I64ok; dsimp only; omega
  obtain ⟨fp2, H4⟩ := Block.fill H3 0 2 rfl rfl rfl okz
  try dsimp only [List.nil_append, List.cons_append, List.set_cons_zero, List.set_cons_succ] at H4
  refine ⟨(i + 1, _, _), ⟨rfl, eqI (by omega), rfl, trivial⟩, ⟨(H4.dtake 1), mk_step hI hiL (by rw [← hci]; unfold mkBlock; dsimp only; omega) ⟨rfl, mk1⟩, trivial⟩, by dsimp only; omega⟩
 ·refine W_exit (W_sr (sV rfl (py_move rfl) (sV rfl (py_assign rfl) (s_nil (W_ret (hQ _ _ (fin1 Tryz.results253 rfl ?_)))))))
  obtain rfl : i = xs.length := by omega
  exact ⟨rfl, _, H1.done, mk_end hI⟩
theorem Tryz_laws_markDriveS {w : World} {xs : List Drive} {xsA : Option Addr} {xsC : Nat} {k : Int} {fp : List Nat} (o : own true w [.slice xsA xs.length xsC] xs fp) (nd : fp.Nodup) (hk : 0 ≤ k ∧ k + mkL mkDrive xs ≤ 4611686018427387904) : Ret Tryz.prog 154 #[.slice xsA xs.length xsC, .int .i64 k] w fun v w' => (v = .int .i64 (k + mkL mkDrive xs) ∧ ∃ xs', Mut w w' fp [.slice xsA xs.length xsC] xs' ∧ (xs'.length = xs.length ∧ mkL mkDrive xs' = mkL mkDrive xs ∧ MkL MkDrive mkDrive xs' k)) := by
 have len := own_len_le o
 unfold maxLen at len
 refine ret_Q (vs := [.slice xsA xs.length xsC, .int .i64 k]) Tryz.func154 rfl Tryz.ntmps154 rfl (fun Q hQ hN => ?_)
 have H0 := Sep.begin o nd
 refine W_sr (sV rfl (py_assign rfl) (s_nil (W_seq (W_sr (sV rfl (py_assign rfl) (s_nil (W_block (W_loop (γ := Nat × List Drive × List Nat) (fun (i, ys, f) => [(0, .slice xsA xs.length xsC), (1, .int .i64 (k + sumN (fun i => mkDrive (xs.getD i default)) i)), (5, .int .i64 i)]) (fun (i, ys, f) w' => Sep (· ∈ fp) w [mine [.slice xsA xs.length xsC] ys f] [] w' ∧ MkInv MkDrive mkDrive xs k i ys ∧ True) (fun (i, ys, f) => xs.length - i) (0, xs, fp) ⟨rfl, eqI (by simp [sumN]), rfl, trivial⟩ ⟨H0, mk_begin, trivial⟩ (fun (i, ys, f) w1 H1 => ?_)))))))))
 obtain ⟨H1, hI, _⟩ := H1
 refine W_seq (W_seq ?_)
 have hiB := hI.1
 have hys := hI.2.1
 refine W_reg (sV rfl (py_move rfl) (sV rfl (py_move rfl) (sV rfl (py_len Tryz.underlying142 rfl) (sV rfl (py_lss rfl rfl) (s_nil (W_ifd rfl (fun c1 => ?_) (fun c1 => ?_)))))))
 ·refine W_skip (W_seq (W_block (W_seq ?_)))
  have hiL : i < xs.length := by omega
  have hat := mk_at hI
  obtain ⟨sg, sl⟩ := mkL_at (c := mkDrive) hiL
  have hci : mkDrive (ys.getD i default) = mkDrive (xs.getD i default) := hI.2.2.1 i
  have hcu : mkDrive (ys.getD i default) = 1 + mkL mkBlock (ys.getD i default).Blocks := rfl
  obtain ⟨eb1, eo1, eT1, eF1, eG1, ea1, ek1, eg1, ee1, eK1, eH1⟩ := Drive.focus H1 0 rfl i (by omega)
  have eK1U := eK1
  unfold Drive.Ok at eK1U
  try unfold I64ok at eK1U
  try unfold maxLen at eK1U
  try dsimp only [List.nil_append, List.cons_append, List.set_cons_zero, List.set_cons_succ] at eH1
  refine W_reg (sV rfl (py_move rfl) (sV rfl (py_move rfl) (sV rfl (py_move rfl) (sV rfl (py_rem rfl rfl (by omega)) (sV rfl (py_eql rfl rfl) (sV rfl (py_elz Tryz.underlying142 Tryz.sizeOf180 rfl rfl ee1 i (by omega) (by omega)) (sV rfl (py_field Tryz.underlying180 rfl Tryz.sizeOf4 rfl rfl) (s_hsto (wn rfl) Tryz.sizeOf4 eH1 0 0 rfl rfl rfl rfl rfl (fun w2 H2 => ?_)))))))))
  dsimp only [List.nil_append, List.cons_append, List.set_cons_zero, List.set_cons_succ, layL] at H2
  refine s_nil (W_sr (sV rfl (py_move rfl) (sV rfl (py_add rfl rfl (in64 ⟨by omega, by omega⟩)) (sV rfl (py_assign rfl) (s_nil (W_reg (sV rfl (py_move rfl) (sV rfl (py_move rfl) (sV rfl (py_elz Tryz.underlying142 Tryz.sizeOf180 rfl rfl ee1 i (by omega) (by omega)) (sV rfl (py_field Tryz.underlying180 rfl Tryz.sizeOf178 rfl rfl) (sV rfl (py_load Tryz.underlying178 rfl rfl (at_cell (H2.holAt 0 rfl) 1 rfl)) (sV rfl (py_move rfl) (s_call (wn rfl) rfl rfl (pc_call Tryz.func253 rfl Tryz_nm253 rfl) (Tryz_laws_markBlockS (H2.mine 2 rfl) (H2.nodup1 (i := 2) rfl) (by constructor <;> omega)) (fun v1 w3 r1 => ?_))))))))))))))
  obtain ⟨rfl, mx1, mm1, ml1⟩ := r1
  obtain ⟨fp1, H3⟩ := H2.mut 2 rfl mm1
  try dsimp only [List.nil_append, List.cons_append, List.set_cons_zero, List.set_cons_succ] at H3
  refine sV rfl (py_assign rfl) (s_nil (W_reg (sV rfl (py_move rfl) (sV rfl (py_add rfl rfl (in64 ⟨by omega, by omega⟩)) (sV rfl (py_assign rfl) (s_nil ?_))))))
  have okz : (⟨decide ((k + sumN (fun i => mkDrive (xs.getD i default)) i).tmod 3 = 0), mx1⟩ : Drive).Ok := trivial
  obtain ⟨fp2, H4⟩ := Drive.fill H3 0 2 rfl rfl rfl okz
  try dsimp only [List.nil_append, List.cons_append, List.set_cons_zero, List.set_cons_succ] at H4
  refine ⟨(i + 1, _, _), ⟨rfl, eqI (by omega), rfl, trivial⟩, ⟨(H4.dtake 1), mk_step hI hiL (by rw [← hci]; unfold mkDrive; dsimp only; rw [ml1.2.1]) ⟨rfl, ml1.2.2⟩, trivial⟩, by dsimp only; omega⟩
 ·refine W_exit (W_sr (sV rfl (py_move rfl) (sV rfl (py_assign rfl) (s_nil (W_ret (hQ _ _ (fin1 Tryz.results154 rfl ?_)))))))
  obtain rfl : i = xs.length := by omega
  exact ⟨rfl, _, H1.done, mk_end hI⟩
theorem Tryz_laws_markDriveSS {w : World} {xs : List (List Drive)} {xsA : Option Addr} {xsC : Nat} {k : Int} {fp : List Nat} (o : own true w [.slice xsA xs.length xsC] xs fp) (nd : fp.Nodup) (hk : 0 ≤ k ∧ k + mkL (mkL mkDrive) xs ≤ 4611686018427387904) : Ret Tryz.prog 80 #[.slice xsA xs.length xsC, .int .i64 k] w fun v w' => (v = .int .i64 (k + mkL (mkL mkDrive) xs) ∧ ∃ xs', Mut w w' fp [.slice xsA xs.length xsC] xs' ∧ (xs'.length = xs.length ∧ mkL (mkL mkDrive) xs' = mkL (mkL mkDrive) xs ∧ MkL (MkL MkDrive mkDrive) (mkL mkDrive) xs' k)) := by
 have len := own_len_le o
 unfold maxLen at len
 refine ret_Q (vs := [.slice xsA xs.length xsC, .int .i64 k]) Tryz.func80 rfl Tryz.ntmps80 rfl (fun Q hQ hN => ?_)
 have H0 := Sep.begin o nd
 refine W_sr (sV rfl (py_assign rfl) (s_nil (W_seq (W_sr (sV rfl (py_assign rfl) (s_nil (W_block (W_loop (γ := Nat × List (List Drive) × List Nat) (fun (i, ys, f) => [(0, .slice xsA xs.length xsC), (1, .int .i64 (k + sumN (fun i => (mkL mkDrive) (xs.getD i default)) i)), (5, .int .i64 i)]) (fun (i, ys, f) w' => Sep (· ∈ fp) w [mine [.slice xsA xs.length xsC] ys f] [] w' ∧ MkInv (MkL MkDrive mkDrive) (mkL mkDrive) xs k i ys ∧ True) (fun (i, ys, f) => xs.length - i) (0, xs, fp) ⟨rfl, eqI (by simp [sumN]), rfl, trivial⟩ ⟨H0, mk_begin, trivial⟩ (fun (i, ys, f) w1 H1 => ?_)))))))))
 obtain ⟨H1, hI, _⟩ := H1
 refine W_seq (W_seq ?_)
 have hiB := hI.1
 have hys := hI.2.1
 refine W_reg (sV rfl (py_move rfl) (sV rfl (py_move rfl) (sV rfl (py_len Tryz.underlying35 rfl) (sV rfl (py_lss rfl rfl) (s_nil (W_ifd rfl (fun c1 => ?_) (fun c1 => ?_)))))))
 ·refine W_skip (W_seq (W_block ?_))
  have hiL : i < xs.length := by omega
  have hat := mk_at hI
  obtain ⟨sg, sl⟩ := mkL_at (c := (mkL mkDrive)) hiL
  have hci : (mkL mkDrive) (ys.getD i default) = (mkL mkDrive) (xs.getD i default) := hI.2.2.1 i
  have hcu : mkL mkDrive (ys.getD i default) = mkL mkDrive (ys.getD i []) := rfl
  obtain ⟨eb1, eo1, eT1, eF1, eG1, ea1, ek1, eg1, ee1, eH1⟩ := H1.focusL 0 rfl i (by omega)
  try dsimp only [List.nil_append, List.cons_append, List.set_cons_zero, List.set_cons_succ] at eH1
  refine W_reg (sV rfl (py_move rfl) (sV rfl (py_move rfl) (sV rfl (py_elz Tryz.underlying35 Tryz.sizeOf142 rfl rfl ee1 i (by omega) (by omega)) (sV rfl (py_load Tryz.underlying142 rfl rfl (at_cell (eH1.holAt 0 rfl) 0 rfl)) (sV rfl (py_move rfl) (s_call (wn rfl) rfl rfl (pc_call Tryz.func154 rfl Tryz_nm154 rfl) (Tryz_laws_markDriveS (eH1.mine 1 rfl) (eH1.nodup1 (i := 1) rfl) (by constructor <;> omega)) (fun v1 w2 r1 => ?_)))))))
  obtain ⟨rfl, mx1, mm1, ml1⟩ := r1
  obtain ⟨fp1, H2⟩ := eH1.mut 1 rfl mm1
  try dsimp only [List.nil_append, List.cons_append, List.set_cons_zero, List.set_cons_succ] at H2
  refine sV rfl (py_assign rfl) (s_nil (W_reg (sV rfl (py_move rfl) (sV rfl (py_add rfl rfl (in64 ⟨by omega, by omega⟩)) (sV rfl (py_assign rfl) (s_nil ?_))))))
  obtain ⟨fp2, H3⟩ := H2.fill 0 1 rfl rfl rfl
  try dsimp only [List.nil_append, List.cons_append, List.set_cons_zero, List.set_cons_succ] at H3
  refine ⟨(i + 1, _, _), ⟨rfl, eqI (by omega), rfl, trivial⟩, ⟨(H3.dtake 1), mk_step hI hiL (by rw [← hci]; exact ml1.2.1) ml1.2.2, trivial⟩, by dsimp only; omega⟩
 ·refine W_exit (W_sr (sV rfl (py_move rfl) (sV rfl (py_assign rfl) (s_nil (W_ret (hQ _ _ (fin1 Tryz.results80 rfl ?_)))))))
  obtain rfl : i = xs.length := by omega
  exact ⟨rfl, _, H1.done, mk_end hI⟩
theorem Tryz_laws_markText {w : World} {k : Int} (hk : -1000 ≤ k ∧ k ≤ 4611686018427388904) : Ret Tryz.prog 155 #[.int .i64 k] w fun v w' => Ext No w w' ∧ (v = .string (mText k) ∧ (mText k).size ≤ maxLen) := by
 refine ret_Q (vs := [.int .i64 k]) Tryz.func155 rfl Tryz.ntmps155 rfl (fun Q hQ hN => ?_)
 have H0 := Sep.start (w := w) (F := []) (by simp)
 refine W_sr (sV rfl (py_assign rfl) (s_nil (W_seq (W_sr (sV rfl (py_move rfl) (sV rfl (py_leq rfl rfl) (s_nil (W_ifd rfl (fun c1 => ?_) (fun c1 => ?_)))))))))
 ·refine W_sr (sV rfl (py_assign rfl) (s_nil (W_ret (hQ _ _ (fin1 Tryz.results155 rfl ?_)))))
  exact ⟨H0.ext, by rw [mText, if_pos (by omega)], by rw [mText, if_pos (by omega)]; exact Nat.le_of_ble_eq_true rfl⟩
 ·refine W_skip (W_sr (sV rfl (py_assign rfl) (s_nil (W_seq (W_block (W_loopS (γ := Nat × Nat × ByteArray) H0 [(2, _)] ⟨rfl, trivial⟩ (fun (f, m, out) => [(0, .int .i64 (m : Nat)), (3, .string out)]) (fun (f, m, out) => (m : Int) ≤ k ∧ m < 10 ^ f ∧ out.size + f ≤ 30 ∧ digits 30 k.toNat ⟨#[]⟩ = digits f m out) (fun (f, m, out) => m) (30, k.toNat, ⟨#[]⟩) ⟨eqI (by omega), rfl, trivial⟩ ⟨by omega, digits_bd (by omega), by decide, rfl⟩ (fun (f, m, out) w1 H1 ⟨hm, hf, ho, hd⟩ => ?_)))))))
  dsimp only [List.cons_append, List.nil_append]
  refine W_seq (W_sr (sV rfl (py_move rfl) (sV rfl (py_gtr rfl rfl) (s_nil (W_ifd rfl (fun c2 => ?_) (fun c2 => ?_))))))
  ·refine W_skip (W_block (W_seq ?_))
   have hb := tmod_bd (a := (m : Int)) (b := 10) (by omega) (by omega)
   refine W_reg (sV rfl (py_move rfl) (sV rfl (py_rem rfl rfl (by omega)) (sV rfl (py_add rfl rfl (in64 ⟨by omega, by omega⟩)) (sV rfl (py_conv8 Tryz.underlying3 Tryz.underlying5 rfl) (s_lit1 (wn rfl) rfl Tryz.underlying45 Tryz_ty5 rfl rfl rfl rfl H1 (fun b1 w2 e1 g1 H2 => ?_))))))
   have H3 := H2.litW 0 rfl (own_b8 (x := u8Of (48 + (m : Int).tmod 10)))
   try dsimp only [List.nil_append, List.cons_append, List.set_cons_zero, List.set_cons_succ] at H3
   refine sV rfl (py_b2s Tryz.underlying45 Tryz.underlying5 Tryz.underlying9 rfl (H3.mine 0 rfl)) ((sV rfl (py_move rfl) (sV rfl (py_sadd rfl rfl (by rw [strB_size]; simp only [List.length_cons, List.length_nil]; omega)) (sV rfl (py_assign rfl) (s_nil ?_)))))
   have hb2 := tdiv_bd (a := (m : Int)) (b := 10) (by omega) (by omega)
   refine W_reg (sV rfl (py_move rfl) (sV rfl (py_quo rfl rfl (by omega) (in64 ⟨by omega, by omega⟩)) (sV rfl (py_assign rfl) (s_nil ?_))))
   rcases f with _ | f
   ·simp at hf; omega
   ·refine ⟨(f, m / 10, strB [UInt8.ofNat (48 + m % 10)] ++ out), ⟨eqI (by rw [Int.tdiv_eq_ediv_of_nonneg (by omega)]; dsimp only; omega), eqStr (by rw [dig_eq]), rfl, trivial⟩, ⟨(H3.dtake 0), by dsimp only; omega, by rw [Nat.pow_succ] at hf; dsimp only; omega, by dsimp only; rw [ByteArray.size_append, strB_size]; simp only [List.length_cons, List.length_nil]; omega, hd.trans (digits_step (by omega))⟩, by dsimp only; omega⟩
  ·refine W_exit (W_seq ?_)
   have h1z : (⟨#[109]⟩ : ByteArray).size = 1 := rfl
   refine W_reg (sV rfl (py_move rfl) (sV rfl (py_sadd rfl rfl (by omega)) (sV rfl (py_assign rfl) (s_nil (W_ret (hQ _ _ (fin1 Tryz.results155 rfl ?_)))))))
   obtain rfl : m = 0 := by omega
   have hq : mText k = ⟨#[109]⟩ ++ out := by rw [mText, if_neg (by omega), hd, digits_zero]
   exact ⟨H1.ext, by rw [hq], by rw [hq, ByteArray.size_append]; unfold maxLen; omega⟩
theorem Tryz_laws_markRecS {w : World} {xs : List Rec} {xsA : Option Addr} {xsC : Nat} {k : Int} {fp : List Nat} (o : own true w [.slice xsA xs.length xsC] xs fp) (nd : fp.Nodup) (hk : 0 ≤ k ∧ k + mkL mkRec xs ≤ 4611686018427387904) : Ret Tryz.prog 83 #[.slice xsA xs.length xsC, .int .i64 k] w fun v w' => (v = .int .i64 (k + mkL mkRec xs) ∧ ∃ xs', Mut w w' fp [.slice xsA xs.length xsC] xs' ∧ (xs'.length = xs.length ∧ mkL mkRec xs' = mkL mkRec xs ∧ MkL MkRec mkRec xs' k)) := by
 have len := own_len_le o
 unfold maxLen at len
 refine ret_Q (vs := [.slice xsA xs.length xsC, .int .i64 k]) Tryz.func83 rfl Tryz.ntmps83 rfl (fun Q hQ hN => ?_)
 have H0 := Sep.begin o nd
 refine W_sr (sV rfl (py_assign rfl) (s_nil (W_seq (W_sr (sV rfl (py_assign rfl) (s_nil (W_block (W_loop (γ := Nat × List Rec × List Nat) (fun (i, ys, f) => [(0, .slice xsA xs.length xsC), (1, .int .i64 (k + sumN (fun i => mkRec (xs.getD i default)) i)), (5, .int .i64 i)]) (fun (i, ys, f) w' => Sep (· ∈ fp) w [mine [.slice xsA xs.length xsC] ys f] [] w' ∧ MkInv MkRec mkRec xs k i ys ∧ True) (fun (i, ys, f) => xs.length - i) (0, xs, fp) ⟨rfl, eqI (by simp [sumN]), rfl, trivial⟩ ⟨H0, mk_begin, trivial⟩ (fun (i, ys, f) w1 H1 => ?_)))))))))
 obtain ⟨H1, hI, _⟩ := H1
 refine W_seq (W_seq ?_)
 have hiB := hI.1
 have hys := hI.2.1
 refine W_reg (sV rfl (py_move rfl) (sV rfl (py_move rfl) (sV rfl (py_len Tryz.underlying30 rfl) (sV rfl (py_lss rfl rfl) (s_nil (W_ifd rfl (fun c1 => ?_) (fun c1 => ?_)))))))
 ·refine W_skip (W_seq (W_block (W_seq ?_)))
  have hiL : i < xs.length := by omega
  have hat := mk_at hI
  obtain ⟨sg, sl⟩ := mkL_at (c := mkRec) hiL
  have hci : mkRec (ys.getD i default) = mkRec (xs.getD i default) := hI.2.2.1 i
  have hcu : mkRec (ys.getD i default) = 6 + (ys.getD i default).Rows.length + (ys.getD i default).Data.length + (ys.getD i default).Delta.length := rfl
  obtain ⟨eb1, eo1, eT1, eF1, eG1, ea1, ek1, ea2, ek2, ea3, ek3, eg1, eg2, eg3, ee1, eK1, eH1⟩ := Rec.focus H1 0 rfl i (by omega)
  have eK1U := eK1
  unfold Rec.Ok at eK1U
  try unfold I64ok at eK1U
  try unfold maxLen at eK1U
  try dsimp only [List.nil_append, List.cons_append, List.set_cons_zero, List.set_cons_succ] at eH1
  refine W_reg (sV rfl (py_move rfl) (sV rfl (py_move rfl) (sV rfl (py_move rfl) (sV rfl (py_elz Tryz.underlying30 Tryz.sizeOf68 rfl rfl ee1 i (by omega) (by omega)) (sV rfl (py_field Tryz.underlying68 rfl Tryz.sizeOf2 rfl rfl) (s_hsto (wn rfl) Tryz.sizeOf2 eH1 0 0 rfl rfl rfl rfl rfl (fun w2 H2 => ?_)))))))
  dsimp only [List.nil_append, List.cons_append, List.set_cons_zero, List.set_cons_succ, layL] at H2
  refine s_nil (W_sr (sV rfl (py_move rfl) (sV rfl (py_add rfl rfl (in64 ⟨by omega, by omega⟩)) (sV rfl (py_assign rfl) (s_nil (W_sr (sV rfl (py_move rfl) (sV rfl (py_move rfl) (sV rfl (py_move rfl) (sV rfl (py_elz Tryz.underlying30 Tryz.sizeOf68 rfl rfl ee1 i (by omega) (by omega)) (sV rfl (py_field Tryz.underlying68 rfl Tryz.sizeOf2 rfl rfl) (s_hsto (wn rfl) Tryz.sizeOf2 H2 0 1 rfl rfl rfl rfl rfl (fun w3 H3 => ?_)))))))))))))
  dsimp only [List.nil_append, List.cons_append, List.set_cons_zero, List.set_cons_succ, layL] at H3
  refine s_nil (W_sr (sV rfl (py_move rfl) (sV rfl (py_add rfl rfl (in64 ⟨by omega, by omega⟩)) (sV rfl (py_assign rfl) (s_nil (W_sr (sV rfl (py_move rfl) (sV rfl (py_move rfl) (sV rfl (py_move rfl) (s_call (wn rfl) rfl rfl (pc_call Tryz.func155 rfl Tryz_nm155 rfl) (Tryz_laws_markText (by omega)) (fun v1 w4 r1 => ?_)))))))))))
  obtain ⟨e3, rfl, mt1⟩ := r1
  have H4 := H3.to e3
  refine sV rfl (py_elz Tryz.underlying30 Tryz.sizeOf68 rfl rfl ee1 i (by omega) (by omega)) (sV rfl (py_field Tryz.underlying68 rfl Tryz.sizeOf9 rfl rfl) (s_hsto (wn rfl) Tryz.sizeOf9 H4 0 2 rfl rfl rfl rfl rfl (fun w5 H5 => ?_)))
  dsimp only [List.nil_append, List.cons_append, List.set_cons_zero, List.set_cons_succ, layL] at H5
  refine s_nil (W_sr (sV rfl (py_move rfl) (sV rfl (py_add rfl rfl (in64 ⟨by omega, by omega⟩)) (sV rfl (py_assign rfl) (s_nil (W_sr (sV rfl (py_move rfl) (sV rfl (py_move rfl) (sV rfl (py_move rfl) (sV rfl (py_elz Tryz.underlying30 Tryz.sizeOf68 rfl rfl ee1 i (by omega) (by omega)) (sV rfl (py_field Tryz.underlying68 rfl Tryz.sizeOf2 rfl rfl) (s_hsto (wn rfl) Tryz.sizeOf2 H5 0 3 rfl rfl rfl rfl rfl (fun w6 H6 => ?_)))))))))))))
  dsimp only [List.nil_append, List.cons_append, List.set_cons_zero, List.set_cons_succ, layL] at H6
  refine s_nil (W_sr (sV rfl (py_move rfl) (sV rfl (py_add rfl rfl (in64 ⟨by omega, by omega⟩)) (sV rfl (py_assign rfl) (s_nil (W_sr (sV rfl (py_move rfl) (sV rfl (py_move rfl) (sV rfl (py_move rfl) (sV rfl (py_elz Tryz.underlying30 Tryz.sizeOf68 rfl rfl ee1 i (by omega) (by omega)) (sV rfl (py_field Tryz.underlying68 rfl Tryz.sizeOf2 rfl rfl) (s_hsto (wn rfl) Tryz.sizeOf2 H6 0 4 rfl rfl rfl rfl rfl (fun w7 H7 => ?_)))))))))))))
  dsimp only [List.nil_append, List.cons_append, List.set_cons_zero, List.set_cons_succ, layL] at H7
  refine s_nil (W_sr (sV rfl (py_move rfl) (sV rfl (py_add rfl rfl (in64 ⟨by omega, by omega⟩)) (sV rfl (py_assign rfl) (s_nil (W_sr (sV rfl (py_move rfl) (sV rfl (py_move rfl) (sV rfl (py_move rfl) (sV rfl (py_elz Tryz.underlying30 Tryz.sizeOf68 rfl rfl ee1 i (by omega) (by omega)) (sV rfl (py_field Tryz.underlying68 rfl Tryz.sizeOf2 rfl rfl) (s_hsto (wn rfl) Tryz.sizeOf2 H7 0 5 rfl rfl rfl rfl rfl (fun w8 H8 => ?_)))))))))))))
  dsimp only [List.nil_append, List.cons_append, List.set_cons_zero, List.set_cons_succ, layL] at H8
  refine s_nil (W_sr (sV rfl (py_move rfl) (sV rfl (py_add rfl rfl (in64 ⟨by omega, by omega⟩)) (sV rfl (py_assign rfl) (s_nil (W_sr (sV rfl (py_move rfl) (sV rfl (py_move rfl) (sV rfl (py_elz Tryz.underlying30 Tryz.sizeOf68 rfl rfl ee1 i (by omega) (by omega)) (sV rfl (py_field Tryz.underlying68 rfl Tryz.sizeOf25 rfl rfl) (sV rfl (py_load Tryz.underlying25 rfl rfl (at_cell (H8.holAt 0 rfl) 6 rfl)) (sV rfl (py_move rfl) (s_call (wn rfl) rfl rfl (pc_call Tryz.func81 rfl Tryz_nm81 rfl) (Tryz_laws_markInt64S (H8.mine 2 rfl) (H8.nodup1 (i := 2) rfl) (by constructor <;> omega)) (fun v2 w9 r2 => ?_))))))))))))))
  obtain ⟨rfl, mx1, mm1, ml1, mk1⟩ := r2
  obtain ⟨fp1, H9⟩ := H8.mut 2 rfl mm1
  try dsimp only [List.nil_append, List.cons_append, List.set_cons_zero, List.set_cons_succ] at H9
  refine sV rfl (py_assign rfl) (s_nil (W_sr (sV rfl (py_move rfl) (sV rfl (py_move rfl) (sV rfl (py_elz Tryz.underlying30 Tryz.sizeOf68 rfl rfl ee1 i (by omega) (by omega)) (sV rfl (py_field Tryz.underlying68 rfl Tryz.sizeOf45 rfl rfl) (sV rfl (py_load Tryz.underlying45 rfl rfl (at_cell (H9.holAt 0 rfl) 7 rfl)) (sV rfl (py_move rfl) (s_call (wn rfl) rfl rfl (pc_call Tryz.func88 rfl Tryz_nm88 rfl) (Tryz_laws_markByteS (H9.mine 3 rfl) (H9.nodup1 (i := 3) rfl) (by constructor <;> omega)) (fun v3 w10 r3 => ?_))))))))))
  obtain ⟨rfl, mx2, mm2, ml2, mk2⟩ := r3
  obtain ⟨fp2, H10⟩ := H9.mut 3 rfl mm2
  try dsimp only [List.nil_append, List.cons_append, List.set_cons_zero, List.set_cons_succ] at H10
  refine sV rfl (py_assign rfl) (s_nil (W_reg (sV rfl (py_move rfl) (sV rfl (py_move rfl) (sV rfl (py_elz Tryz.underlying30 Tryz.sizeOf68 rfl rfl ee1 i (by omega) (by omega)) (sV rfl (py_field Tryz.underlying68 rfl Tryz.sizeOf45 rfl rfl) (sV rfl (py_load Tryz.underlying45 rfl rfl (at_cell (H10.holAt 0 rfl) 8 rfl)) (sV rfl (py_move rfl) (s_call (wn rfl) rfl rfl (pc_call Tryz.func88 rfl Tryz_nm88 rfl) (Tryz_laws_markByteS (H10.mine 4 rfl) (H10.nodup1 (i := 4) rfl) (by constructor <;> omega)) (fun v4 w11 r4 => ?_))))))))))
  obtain ⟨rfl, mx3, mm3, ml3, mk3⟩ := r4
  obtain ⟨fp3, H11⟩ := H10.mut 4 rfl mm3
  try dsimp only [List.nil_append, List.cons_append, List.set_cons_zero, List.set_cons_succ] at H11
  refine sV rfl (py_assign rfl) (s_nil (W_reg (sV rfl (py_move rfl) (sV rfl (py_add rfl rfl (in64 ⟨by omega, by omega⟩)) (sV rfl (py_assign rfl) (s_nil ?_))))))
  have okz : (⟨(k + sumN (fun i => mkRec (xs.getD i default)) i), (k + sumN (fun i => mkRec (xs.getD i default)) i) + 1, mText ((k + sumN (fun i => mkRec (xs.getD i default)) i) + 1 + 1), (k + sumN (fun i => mkRec (xs.getD i default)) i) + 1 + 1 + 1, (k + sumN (fun i => mkRec (xs.getD i default)) i) + 1 + 1 + 1 + 1, (k + sumN (fun i => mkRec (xs.getD i default)) i) + 1 + 1 + 1 + 1 + 1, mx1, mx2, mx3⟩ : Rec).Ok := by unfold Rec.Ok I64ok; dsimp only; omega
  obtain ⟨fp4, H12⟩ := Rec.fill H11 0 2 3 4 rfl rfl rfl rfl rfl rfl rfl rfl rfl rfl okz
  try dsimp only [List.nil_append, List.cons_append, List.set_cons_zero, List.set_cons_succ] at H12
  refine ⟨(i + 1, _, _), ⟨rfl, eqI (by omega), rfl, trivial⟩, ⟨(H12.dtake 1), mk_step hI hiL (by rw [← hci]; unfold mkRec; dsimp only; omega) (by
   refine ⟨rfl, rfl, ?_, by dsimp only; omega, by dsimp only; omega, by dsimp only; omega, ?_, ?_, ?_⟩
   ·dsimp only; congr 1; omega
   ·have := mk1; dsimp only; rwa [show (k + sumN (fun i => mkRec (xs.getD i default)) i) + 1 + 1 + 1 + 1 + 1 + 1 = (k + sumN (fun i => mkRec (xs.getD i default)) i) + 6 by omega] at this
   ·have := mk2; dsimp only; rwa [show (k + sumN (fun i => mkRec (xs.getD i default)) i) + 1 + 1 + 1 + 1 + 1 + 1 + ((ys.getD i default).Rows.length : Int) = (k + sumN (fun i => mkRec (xs.getD i default)) i) + 6 + mx1.length by omega] at this
   ·have := mk3; dsimp only; rwa [show (k + sumN (fun i => mkRec (xs.getD i default)) i) + 1 + 1 + 1 + 1 + 1 + 1 + ((ys.getD i default).Rows.length : Int) + ((ys.getD i default).Data.length : Int) = (k + sumN (fun i => mkRec (xs.getD i default)) i) + 6 + mx1.length + mx2.length by omega] at this), trivial⟩, by dsimp only; omega⟩
 ·refine W_exit (W_sr (sV rfl (py_move rfl) (sV rfl (py_assign rfl) (s_nil (W_ret (hQ _ _ (fin1 Tryz.results83 rfl ?_)))))))
  obtain rfl : i = xs.length := by omega
  exact ⟨rfl, _, H1.done, mk_end hI⟩
theorem Tryz_laws_markTapeS {w : World} {xs : List Tape} {xsA : Option Addr} {xsC : Nat} {k : Int} {fp : List Nat} (o : own true w [.slice xsA xs.length xsC] xs fp) (nd : fp.Nodup) (hk : 0 ≤ k ∧ k + mkL mkTape xs ≤ 4611686018427387904) : Ret Tryz.prog 82 #[.slice xsA xs.length xsC, .int .i64 k] w fun v w' => (v = .int .i64 (k + mkL mkTape xs) ∧ ∃ xs', Mut w w' fp [.slice xsA xs.length xsC] xs' ∧ (xs'.length = xs.length ∧ mkL mkTape xs' = mkL mkTape xs ∧ MkL MkTape mkTape xs' k)) := by
 have len := own_len_le o
 unfold maxLen at len
 refine ret_Q (vs := [.slice xsA xs.length xsC, .int .i64 k]) Tryz.func82 rfl Tryz.ntmps82 rfl (fun Q hQ hN => ?_)
 have H0 := Sep.begin o nd
 refine W_sr (sV rfl (py_assign rfl) (s_nil (W_seq (W_sr (sV rfl (py_assign rfl) (s_nil (W_block (W_loop (γ := Nat × List Tape × List Nat) (fun (i, ys, f) => [(0, .slice xsA xs.length xsC), (1, .int .i64 (k + sumN (fun i => mkTape (xs.getD i default)) i)), (5, .int .i64 i)]) (fun (i, ys, f) w' => Sep (· ∈ fp) w [mine [.slice xsA xs.length xsC] ys f] [] w' ∧ MkInv MkTape mkTape xs k i ys ∧ True) (fun (i, ys, f) => xs.length - i) (0, xs, fp) ⟨rfl, eqI (by simp [sumN]), rfl, trivial⟩ ⟨H0, mk_begin, trivial⟩ (fun (i, ys, f) w1 H1 => ?_)))))))))
 obtain ⟨H1, hI, _⟩ := H1
 refine W_seq (W_seq ?_)
 have hiB := hI.1
 have hys := hI.2.1
 refine W_reg (sV rfl (py_move rfl) (sV rfl (py_move rfl) (sV rfl (py_len Tryz.underlying36 rfl) (sV rfl (py_lss rfl rfl) (s_nil (W_ifd rfl (fun c1 => ?_) (fun c1 => ?_)))))))
 ·refine W_skip (W_seq (W_block (W_seq ?_)))
  have hiL : i < xs.length := by omega
  have hat := mk_at hI
  obtain ⟨sg, sl⟩ := mkL_at (c := mkTape) hiL
  have hci : mkTape (ys.getD i default) = mkTape (xs.getD i default) := hI.2.2.1 i
  have hcu : mkTape (ys.getD i default) = 1 + mkL mkRec (ys.getD i default).Recs := rfl
  obtain ⟨eb1, eo1, eT1, eF1, eG1, ea1, ek1, eg1, ee1, eK1, eH1⟩ := Tape.focus H1 0 rfl i (by omega)
  have eK1U := eK1
  unfold Tape.Ok at eK1U
  try unfold I64ok at eK1U
  try unfold maxLen at eK1U
  try dsimp only [List.nil_append, List.cons_append, List.set_cons_zero, List.set_cons_succ] at eH1
  refine W_reg (sV rfl (py_move rfl) (sV rfl (py_move rfl) (sV rfl (py_move rfl) (sV rfl (py_rem rfl rfl (by omega)) (sV rfl (py_eql rfl rfl) (sV rfl (py_elz Tryz.underlying36 Tryz.sizeOf139 rfl rfl ee1 i (by omega) (by omega)) (sV rfl (py_field Tryz.underlying139 rfl Tryz.sizeOf4 rfl rfl) (s_hsto (wn rfl) Tryz.sizeOf4 eH1 0 0 rfl rfl rfl rfl rfl (fun w2 H2 => ?_)))))))))
  dsimp only [List.nil_append, List.cons_append, List.set_cons_zero, List.set_cons_succ, layL] at H2
  refine s_nil (W_sr (sV rfl (py_move rfl) (sV rfl (py_add rfl rfl (in64 ⟨by omega, by omega⟩)) (sV rfl (py_assign rfl) (s_nil (W_reg (sV rfl (py_move rfl) (sV rfl (py_move rfl) (sV rfl (py_elz Tryz.underlying36 Tryz.sizeOf139 rfl rfl ee1 i (by omega) (by omega)) (sV rfl (py_field Tryz.underlying139 rfl Tryz.sizeOf30 rfl rfl) (sV rfl (py_load Tryz.underlying30 rfl rfl (at_cell (H2.holAt 0 rfl) 1 rfl)) (sV rfl (py_move rfl) (s_call (wn rfl) rfl rfl (pc_call Tryz.func83 rfl Tryz_nm83 rfl) (Tryz_laws_markRecS (H2.mine 2 rfl) (H2.nodup1 (i := 2) rfl) (by constructor <;> omega)) (fun v1 w3 r1 => ?_))))))))))))))
  obtain ⟨rfl, mx1, mm1, ml1⟩ := r1
  obtain ⟨fp1, H3⟩ := H2.mut 2 rfl mm1
  try dsimp only [List.nil_append, List.cons_append, List.set_cons_zero, List.set_cons_succ] at H3
  refine sV rfl (py_assign rfl) (s_nil (W_reg (sV rfl (py_move rfl) (sV rfl (py_add rfl rfl (in64 ⟨by omega, by omega⟩)) (sV rfl (py_assign rfl) (s_nil ?_))))))
  have okz : (⟨decide ((k + sumN (fun i => mkTape (xs.getD i default)) i).tmod 3 = 0), mx1⟩ : Tape).Ok := trivial
  obtain ⟨fp2, H4⟩ := Tape.fill H3 0 2 rfl rfl rfl okz
  try dsimp only [List.nil_append, List.cons_append, List.set_cons_zero, List.set_cons_succ] at H4
  refine ⟨(i + 1, _, _), ⟨rfl, eqI (by omega), rfl, trivial⟩, ⟨(H4.dtake 1), mk_step hI hiL (by rw [← hci]; unfold mkTape; dsimp only; rw [ml1.2.1]) ⟨rfl, ml1.2.2⟩, trivial⟩, by dsimp only; omega⟩
 ·refine W_exit (W_sr (sV rfl (py_move rfl) (sV rfl (py_assign rfl) (s_nil (W_ret (hQ _ _ (fin1 Tryz.results82 rfl ?_)))))))
  obtain rfl : i = xs.length := by omega
  exact ⟨rfl, _, H1.done, mk_end hI⟩
end Go.Wk
namespace Go.Wk
open Go.Proofs Rp
set_option maxRecDepth 10000
theorem Tryz_laws_markWorld {w : World} {x : Wld} {xA9 : Option Addr} {xC9 : Nat} {xA10 : Option Addr} {xC10 : Nat} {xA11 : Option Addr} {xC11 : Nat} {k : Int} {fp : List Nat} (xK : x.Ok) (o : own true w [.int .i64 x.Shape.Groups, .int .i64 x.Shape.Column, .int .i64 x.Shape.Data, .int .i64 x.Shape.Spare, .int .i64 x.Shape.Rows, .int .i64 x.Shape.Cap, .int .i64 x.Shape.Batch, .int .i64 x.Shape.Queue, .int .i64 x.Shape.Stage, .slice xA9 x.Groups.length xC9, .slice xA10 x.On.length xC10, .slice xA11 x.Tapes.length xC11, .int .i64 x.Writes, .int .i64 x.Stop, .bool x.Down] x fp) (nd : fp.Nodup) (hk : 0 ≤ k ∧ k + mkWld x ≤ 4611686018427387904) : Ret Tryz.prog 21 #[x.val xA9 xC9 xA10 xC10 xA11 xC11, .int .i64 k] w fun v w' => (v = .int .i64 (k + mkWld x) ∧ ∃ x' : Wld, Mut w w' fp [.int .i64 x.Shape.Groups, .int .i64 x.Shape.Column, .int .i64 x.Shape.Data, .int .i64 x.Shape.Spare, .int .i64 x.Shape.Rows, .int .i64 x.Shape.Cap, .int .i64 x.Shape.Batch, .int .i64 x.Shape.Queue, .int .i64 x.Shape.Stage, .slice xA9 x.Groups.length xC9, .slice xA10 x.On.length xC10, .slice xA11 x.Tapes.length xC11, .int .i64 x.Writes, .int .i64 x.Stop, .bool x.Down] x' ∧ (x'.Groups.length = x.Groups.length ∧ x'.On.length = x.On.length ∧ x'.Tapes.length = x.Tapes.length ∧ mkWld x' = mkWld x ∧ MkWld x' k ∧ x'.Shape = x.Shape ∧ x'.Writes = x.Writes ∧ x'.Stop = x.Stop ∧ x'.Down = x.Down)) := by
 unfold mkWld at hk
 refine ret_Q (vs := [x.val xA9 xC9 xA10 xC10 xA11 xC11, .int .i64 k]) Tryz.func21 rfl Tryz.ntmps21 rfl (fun Q hQ hN => ?_)
 obtain ⟨f9, f10, f11, ef, ok, o9, o10, o11⟩ := own_WldC o
 have H0 := (Sep.begin o nd).part 0 rfl [mine [.slice xA9 x.Groups.length xC9] x.Groups f9, mine [.slice xA10 x.On.length xC10] x.On f10, mine [.slice xA11 x.Tapes.length xC11] x.Tapes f11] (all_cons o9 (all_cons o10 (all_cons o11 (by simp)))) (by simp [blocks, mine, ef])
 try dsimp only [List.nil_append, List.cons_append, List.set_cons_zero, List.set_cons_succ] at H0
 refine W_sr (s_box (wn rfl) rfl rfl H0 (fun b1 w1 e1 g1 H1 => ?_))
 refine sV rfl (py_assign rfl) (s_nil (W_sr (sV rfl (py_field Tryz.underlying38 rfl Tryz.sizeOf35 rfl rfl) (sV rfl (py_load Tryz.underlying35 rfl rfl (cell_atL (H1.box 4 rfl) rfl)) (sV rfl (py_move rfl) (s_call (wn rfl) rfl rfl (pc_call Tryz.func80 rfl Tryz_nm80 rfl) (Tryz_laws_markDriveSS (H1.mine 1 rfl) (H1.nodup1 (i := 1) rfl) (by constructor <;> omega)) (fun v1 w2 r1 => ?_)))))))
 obtain ⟨rfl, mx1, mm1, ml1⟩ := r1
 obtain ⟨fp1, H2⟩ := H1.mut 1 rfl mm1
 try dsimp only [List.nil_append, List.cons_append, List.set_cons_zero, List.set_cons_succ] at H2
 refine sV rfl (py_assign rfl) (s_nil (W_sr (sV rfl (py_field Tryz.underlying38 rfl Tryz.sizeOf25 rfl rfl) (sV rfl (py_load Tryz.underlying25 rfl rfl (cell_atL (H2.box 4 rfl) rfl)) (sV rfl (py_move rfl) (s_call (wn rfl) rfl rfl (pc_call Tryz.func81 rfl Tryz_nm81 rfl) (Tryz_laws_markInt64S (H2.mine 2 rfl) (H2.nodup1 (i := 2) rfl) (by constructor <;> omega)) (fun v2 w3 r2 => ?_)))))))
 obtain ⟨rfl, mx2, mm2, ml2, mk1⟩ := r2
 obtain ⟨fp2, H3⟩ := H2.mut 2 rfl mm2
 try dsimp only [List.nil_append, List.cons_append, List.set_cons_zero, List.set_cons_succ] at H3
 refine sV rfl (py_assign rfl) (s_nil (W_sr (sV rfl (py_field Tryz.underlying38 rfl Tryz.sizeOf36 rfl rfl) (sV rfl (py_load Tryz.underlying36 rfl rfl (cell_atL (H3.box 4 rfl) rfl)) (sV rfl (py_move rfl) (s_call (wn rfl) rfl rfl (pc_call Tryz.func82 rfl Tryz_nm82 rfl) (Tryz_laws_markTapeS (H3.mine 3 rfl) (H3.nodup1 (i := 3) rfl) (by constructor <;> omega)) (fun v3 w4 r3 => ?_)))))))
 obtain ⟨rfl, mx3, mm3, ml3⟩ := r3
 obtain ⟨fp3, H4⟩ := H3.mut 3 rfl mm3
 try dsimp only [List.nil_append, List.cons_append, List.set_cons_zero, List.set_cons_succ] at H4
 refine sV rfl (py_assign rfl) (s_nil (W_sr (sV rfl (py_move rfl) (sV rfl (py_assign rfl) (s_nil (W_ret (hQ _ _ (fin1 Tryz.results21 rfl ?_))))))))
 exact ⟨congrArg (Value.int .i64) (by unfold mkWld; omega), Wld.mkOut ok (H4.dtake 4) ml1 ml2 mk1 ml3⟩
theorem Tryz_w_markIntsResult {w : World} {xs : List Int} {xsA : Option Addr} {xsC : Nat} {c k : Int} {fp : List Nat} (o : own true w [.slice xsA xs.length xsC] xs fp) (nd : fp.Nodup) (hk : 0 ≤ k ∧ k + xs.length ≤ 4611686018427387904) : Ret Tryz.prog 32 #[.agg #[.int .i64 c, .slice xsA xs.length xsC], .int .i64 k] w fun v w' => (v = .int .i64 (k + xs.length) ∧ ∃ xs', Mut w w' fp [.slice xsA xs.length xsC] xs' ∧ xs'.length = xs.length ∧ MarkI xs' k) := by
 refine ret_Q (vs := [.agg #[.int .i64 c, .slice xsA xs.length xsC], .int .i64 k]) Tryz.func32 rfl Tryz.ntmps32 rfl (fun Q hQ hN => ?_)
 have H0 := Sep.begin o nd
 refine W_sr (s_box (wn rfl) rfl rfl H0 (fun b1 w1 e1 g1 H1 => ?_))
 refine sV rfl (py_assign rfl) (s_nil (W_sr (sV rfl (py_field Tryz.underlying52 rfl Tryz.sizeOf25 rfl rfl) (sV rfl (py_load Tryz.underlying25 rfl rfl (cell_atL (H1.box 1 rfl) rfl)) (sV rfl (py_move rfl) (s_call (wn rfl) rfl rfl (pc_call Tryz.func81 rfl Tryz_nm81 rfl) (Tryz_laws_markInt64S (H1.mine 0 rfl) (H1.nodup1 (i := 0) rfl) (by constructor <;> omega)) (fun v1 w2 r1 => ?_)))))))
 obtain ⟨rfl, mx1, mm1, ml1, mk1⟩ := r1
 obtain ⟨fp1, H2⟩ := H1.mut 0 rfl mm1
 try dsimp only [List.nil_append, List.cons_append, List.set_cons_zero, List.set_cons_succ] at H2
 refine sV rfl (py_assign rfl) (s_nil (W_sr (sV rfl (py_move rfl) (sV rfl (py_assign rfl) (s_nil (W_ret (hQ _ _ (fin1 Tryz.results32 rfl ?_))))))))
 have hz := H2.dtake 1
 exact ⟨rfl, _, hz.done, ml1, mk1⟩
theorem Tryz_w_heldIntsResult {w : World} {xs : List Int} {xsA : Option Addr} {n xsC : Nat} {c k : Int} (xsS : Sees w [.slice xsA n xsC] xs) (hk : 0 ≤ k ∧ k + xs.length ≤ 4611686018427387904) (hm : MarkI xs k) : Ret Tryz.prog 33 #[.agg #[.int .i64 c, .slice xsA n xsC], .int .i64 k] w fun v w' => Ext No w w' ∧ (v = .int .i64 (k + xs.length)) := by
 obtain ⟨xsF, xsO⟩ := xsS
 obtain rfl := own_n xsO
 refine ret_Q (vs := [.agg #[.int .i64 c, .slice xsA xs.length xsC], .int .i64 k]) Tryz.func33 rfl Tryz.ntmps33 rfl (fun Q hQ hN => ?_)
 have H0 := Sep.start (w := w) (F := [seen false [.slice xsA xs.length xsC] xs xsF]) (all_cons xsO (by simp))
 refine W_sr (s_box (wn rfl) rfl rfl H0 (fun b1 w1 e1 g1 H1 => ?_))
 refine sV rfl (py_assign rfl) (s_nil (W_sr (sV rfl (py_field Tryz.underlying52 rfl Tryz.sizeOf25 rfl rfl) (sV rfl (py_load Tryz.underlying25 rfl rfl (cell_atL (H1.box 0 rfl) rfl)) (sV rfl (py_move rfl) (s_call (wn rfl) rfl rfl (pc_call Tryz.func92 rfl Tryz_nm92 rfl) (Tryz_laws_heldInt64S (H1.sees 0 rfl) (by constructor <;> omega) (by assumption)) (fun v1 w2 r1 => ?_)))))))
 obtain ⟨e2, rfl⟩ := r1
 have H2 := H1.to e2
 refine sV rfl (py_assign rfl) (s_nil (W_seq (W_sr (sV rfl (py_move rfl) (sV rfl (py_lss rfl rfl) (s_nil (W_ifd rfl (fun c1 => ?_) (fun c1 => ?_))))))))
 ·refine W_sr (sV rfl (py_assign rfl) (s_nil (W_ret (hQ _ _ (fin1 Tryz.results33 rfl ?_)))))
  exact absurd c1 (by omega)
 ·refine W_skip (W_sr (sV rfl (py_move rfl) (sV rfl (py_assign rfl) (s_nil (W_ret (hQ _ _ (fin1 Tryz.results33 rfl ?_)))))))
  exact ⟨H2.ext, rfl⟩
theorem Tryz_w_eqIntsResult {w : World} {a : IntsResult} {aA1 : Option Addr} {aC1 : Nat} {b : IntsResult} {bA1 : Option Addr} {bC1 : Nat} (aK : a.Ok) (aS1 : Sees w [.slice aA1 a.Lst.length aC1] a.Lst) (bK : b.Ok) (bS1 : Sees w [.slice bA1 b.Lst.length bC1] b.Lst) : Ret Tryz.prog 31 #[a.val aA1 aC1, b.val bA1 bC1] w fun v w' => Ext No w w' ∧ (v = .bool (decide (a = b))) := by
 have aK2 := aK
 unfold IntsResult.Ok at aK2
 try unfold I64ok at aK2
 try unfold maxLen at aK2
 have aL1 := sees_len aS1
 unfold maxLen at aL1
 obtain ⟨aF1, aO1⟩ := aS1
 have bK2 := bK
 unfold IntsResult.Ok at bK2
 try unfold I64ok at bK2
 try unfold maxLen at bK2
 have bL1 := sees_len bS1
 unfold maxLen at bL1
 obtain ⟨bF1, bO1⟩ := bS1
 refine ret_Q (vs := [a.val aA1 aC1, b.val bA1 bC1]) Tryz.func31 rfl Tryz.ntmps31 rfl (fun Q hQ hN => ?_)
 have H0 := Sep.start (w := w) (F := [seen false [.slice aA1 a.Lst.length aC1] a.Lst aF1, seen false [.slice bA1 b.Lst.length bC1] b.Lst bF1]) (all_cons aO1 (all_cons bO1 (by simp)))
 refine W_sr (s_box (wn rfl) rfl rfl H0 (fun b1 w1 e1 g1 H1 => ?_))
 refine s_box (wn rfl) rfl rfl H1 (fun b2 w2 e2 g2 H2 => ?_)
 refine sV rfl (py_assign rfl) (s_nil (W_seq (W_sr (sV rfl (py_field Tryz.underlying52 rfl Tryz.sizeOf2 rfl rfl) (sV rfl (py_load Tryz.underlying2 rfl rfl (cell_atL (H2.box 0 rfl) rfl)) (sV rfl (py_field Tryz.underlying52 rfl Tryz.sizeOf2 rfl rfl) (sV rfl (py_load Tryz.underlying2 rfl rfl (cell_atL (H2.box 1 rfl) rfl)) (sV rfl (py_neq rfl rfl) (s_nil (W_ifd rfl (fun c1 => ?_) (fun c1 => ?_)))))))))))
 ·refine W_sr (sV rfl (py_assign rfl) (s_nil (W_ret (hQ _ _ (fin1 Tryz.results31 rfl (⟨H2.ext, ?_⟩))))))
  rw [decide_eq_false (fun e => by subst e; first | exact c1 rfl | simp at c1)]
 ·refine W_skip (W_seq (W_sr (sV rfl (py_field Tryz.underlying52 rfl Tryz.sizeOf25 rfl rfl) (sV rfl (py_load Tryz.underlying25 rfl rfl (cell_atL (H2.box 0 rfl) rfl)) (sV rfl (py_field Tryz.underlying52 rfl Tryz.sizeOf25 rfl rfl) (sV rfl (py_load Tryz.underlying25 rfl rfl (cell_atL (H2.box 1 rfl) rfl)) (s_call (wn rfl) rfl rfl (pc_call Tryz.func78 rfl Tryz_nm78 rfl) (Tryz_laws_eqInt64S (H2.sees 0 rfl) (H2.sees 1 rfl)) (fun v1 w3 r1 => ?_))))))))
  obtain ⟨e3, rfl⟩ := r1
  have H3 := H2.to e3
  refine sV rfl (py_not rfl) (s_nil (W_if rfl (fun c2 => ?_) (fun c2 => ?_)))
  ·refine W_sr (sV rfl (py_assign rfl) (s_nil (W_ret (hQ _ _ (fin1 Tryz.results31 rfl (⟨H3.ext, ?_⟩))))))
   rw [decide_eq_false (fun e => by subst e; first | exact c2 rfl | simp at c2)]
  ·refine W_skip (W_sr (sV rfl (py_assign rfl) (s_nil (W_ret (hQ _ _ (fin1 Tryz.results31 rfl (⟨H3.ext, ?_⟩)))))))
   rw [decide_eq_true]
   cases a; cases b; simp_all
theorem Tryz_w_markBytesResult {w : World} {xs : List UInt8} {xsA : Option Addr} {xsC : Nat} {c k : Int} {fp : List Nat} (o : own true w [.slice xsA xs.length xsC] xs fp) (nd : fp.Nodup) (hk : 0 ≤ k ∧ k + xs.length ≤ 4611686018427387904) : Ret Tryz.prog 27 #[.agg #[.int .i64 c, .slice xsA xs.length xsC], .int .i64 k] w fun v w' => (v = .int .i64 (k + xs.length) ∧ ∃ xs', Mut w w' fp [.slice xsA xs.length xsC] xs' ∧ xs'.length = xs.length ∧ MarkB xs' k) := by
 refine ret_Q (vs := [.agg #[.int .i64 c, .slice xsA xs.length xsC], .int .i64 k]) Tryz.func27 rfl Tryz.ntmps27 rfl (fun Q hQ hN => ?_)
 have H0 := Sep.begin o nd
 refine W_sr (s_box (wn rfl) rfl rfl H0 (fun b1 w1 e1 g1 H1 => ?_))
 refine sV rfl (py_assign rfl) (s_nil (W_sr (sV rfl (py_field Tryz.underlying47 rfl Tryz.sizeOf45 rfl rfl) (sV rfl (py_load Tryz.underlying45 rfl rfl (cell_atL (H1.box 1 rfl) rfl)) (sV rfl (py_move rfl) (s_call (wn rfl) rfl rfl (pc_call Tryz.func88 rfl Tryz_nm88 rfl) (Tryz_laws_markByteS (H1.mine 0 rfl) (H1.nodup1 (i := 0) rfl) (by constructor <;> omega)) (fun v1 w2 r1 => ?_)))))))
 obtain ⟨rfl, mx1, mm1, ml1, mk1⟩ := r1
 obtain ⟨fp1, H2⟩ := H1.mut 0 rfl mm1
 try dsimp only [List.nil_append, List.cons_append, List.set_cons_zero, List.set_cons_succ] at H2
 refine sV rfl (py_assign rfl) (s_nil (W_sr (sV rfl (py_move rfl) (sV rfl (py_assign rfl) (s_nil (W_ret (hQ _ _ (fin1 Tryz.results27 rfl ?_))))))))
 have hz := H2.dtake 1
 exact ⟨rfl, _, hz.done, ml1, mk1⟩
theorem Tryz_w_heldBytesResult {w : World} {xs : List UInt8} {xsA : Option Addr} {n xsC : Nat} {c k : Int} (xsS : Sees w [.slice xsA n xsC] xs) (hk : 0 ≤ k ∧ k + xs.length ≤ 4611686018427387904) (hm : MarkB xs k) : Ret Tryz.prog 28 #[.agg #[.int .i64 c, .slice xsA n xsC], .int .i64 k] w fun v w' => Ext No w w' ∧ (v = .int .i64 (k + xs.length)) := by
 obtain ⟨xsF, xsO⟩ := xsS
 obtain rfl := own_n xsO
 refine ret_Q (vs := [.agg #[.int .i64 c, .slice xsA xs.length xsC], .int .i64 k]) Tryz.func28 rfl Tryz.ntmps28 rfl (fun Q hQ hN => ?_)
 have H0 := Sep.start (w := w) (F := [seen false [.slice xsA xs.length xsC] xs xsF]) (all_cons xsO (by simp))
 refine W_sr (s_box (wn rfl) rfl rfl H0 (fun b1 w1 e1 g1 H1 => ?_))
 refine sV rfl (py_assign rfl) (s_nil (W_sr (sV rfl (py_field Tryz.underlying47 rfl Tryz.sizeOf45 rfl rfl) (sV rfl (py_load Tryz.underlying45 rfl rfl (cell_atL (H1.box 0 rfl) rfl)) (sV rfl (py_move rfl) (s_call (wn rfl) rfl rfl (pc_call Tryz.func89 rfl Tryz_nm89 rfl) (Tryz_laws_heldByteS (H1.sees 0 rfl) (by constructor <;> omega) (by assumption)) (fun v1 w2 r1 => ?_)))))))
 obtain ⟨e2, rfl⟩ := r1
 have H2 := H1.to e2
 refine sV rfl (py_assign rfl) (s_nil (W_seq (W_sr (sV rfl (py_move rfl) (sV rfl (py_lss rfl rfl) (s_nil (W_ifd rfl (fun c1 => ?_) (fun c1 => ?_))))))))
 ·refine W_sr (sV rfl (py_assign rfl) (s_nil (W_ret (hQ _ _ (fin1 Tryz.results28 rfl ?_)))))
  exact absurd c1 (by omega)
 ·refine W_skip (W_sr (sV rfl (py_move rfl) (sV rfl (py_assign rfl) (s_nil (W_ret (hQ _ _ (fin1 Tryz.results28 rfl ?_)))))))
  exact ⟨H2.ext, rfl⟩
theorem Tryz_w_eqBytesResult {w : World} {a : BytesResult} {aA1 : Option Addr} {aC1 : Nat} {b : BytesResult} {bA1 : Option Addr} {bC1 : Nat} (aK : a.Ok) (aS1 : Sees w [.slice aA1 a.Bytes.length aC1] a.Bytes) (bK : b.Ok) (bS1 : Sees w [.slice bA1 b.Bytes.length bC1] b.Bytes) : Ret Tryz.prog 26 #[a.val aA1 aC1, b.val bA1 bC1] w fun v w' => Ext No w w' ∧ (v = .bool (decide (a = b))) := by
 have aK2 := aK
 unfold BytesResult.Ok at aK2
 try unfold I64ok at aK2
 try unfold maxLen at aK2
 have aL1 := sees_len aS1
 unfold maxLen at aL1
 obtain ⟨aF1, aO1⟩ := aS1
 have bK2 := bK
 unfold BytesResult.Ok at bK2
 try unfold I64ok at bK2
 try unfold maxLen at bK2
 have bL1 := sees_len bS1
 unfold maxLen at bL1
 obtain ⟨bF1, bO1⟩ := bS1
 refine ret_Q (vs := [a.val aA1 aC1, b.val bA1 bC1]) Tryz.func26 rfl Tryz.ntmps26 rfl (fun Q hQ hN => ?_)
 have H0 := Sep.start (w := w) (F := [seen false [.slice aA1 a.Bytes.length aC1] a.Bytes aF1, seen false [.slice bA1 b.Bytes.length bC1] b.Bytes bF1]) (all_cons aO1 (all_cons bO1 (by simp)))
 refine W_sr (s_box (wn rfl) rfl rfl H0 (fun b1 w1 e1 g1 H1 => ?_))
 refine s_box (wn rfl) rfl rfl H1 (fun b2 w2 e2 g2 H2 => ?_)
 refine sV rfl (py_assign rfl) (s_nil (W_seq (W_sr (sV rfl (py_field Tryz.underlying47 rfl Tryz.sizeOf2 rfl rfl) (sV rfl (py_load Tryz.underlying2 rfl rfl (cell_atL (H2.box 0 rfl) rfl)) (sV rfl (py_field Tryz.underlying47 rfl Tryz.sizeOf2 rfl rfl) (sV rfl (py_load Tryz.underlying2 rfl rfl (cell_atL (H2.box 1 rfl) rfl)) (sV rfl (py_neq rfl rfl) (s_nil (W_ifd rfl (fun c1 => ?_) (fun c1 => ?_)))))))))))
 ·refine W_sr (sV rfl (py_assign rfl) (s_nil (W_ret (hQ _ _ (fin1 Tryz.results26 rfl (⟨H2.ext, ?_⟩))))))
  rw [decide_eq_false (fun e => by subst e; first | exact c1 rfl | simp at c1)]
 ·refine W_skip (W_seq (W_sr (sV rfl (py_field Tryz.underlying47 rfl Tryz.sizeOf45 rfl rfl) (sV rfl (py_load Tryz.underlying45 rfl rfl (cell_atL (H2.box 0 rfl) rfl)) (sV rfl (py_field Tryz.underlying47 rfl Tryz.sizeOf45 rfl rfl) (sV rfl (py_load Tryz.underlying45 rfl rfl (cell_atL (H2.box 1 rfl) rfl)) (s_call (wn rfl) rfl rfl (pc_call Tryz.func87 rfl Tryz_nm87 rfl) (Tryz_laws_eqByteS (H2.sees 0 rfl) (H2.sees 1 rfl)) (fun v1 w3 r1 => ?_))))))))
  obtain ⟨e3, rfl⟩ := r1
  have H3 := H2.to e3
  refine sV rfl (py_not rfl) (s_nil (W_if rfl (fun c2 => ?_) (fun c2 => ?_)))
  ·refine W_sr (sV rfl (py_assign rfl) (s_nil (W_ret (hQ _ _ (fin1 Tryz.results26 rfl (⟨H3.ext, ?_⟩))))))
   rw [decide_eq_false (fun e => by subst e; first | exact c2 rfl | simp at c2)]
  ·refine W_skip (W_sr (sV rfl (py_assign rfl) (s_nil (W_ret (hQ _ _ (fin1 Tryz.results26 rfl (⟨H3.ext, ?_⟩)))))))
   rw [decide_eq_true]
   cases a; cases b; simp_all
end Go.Wk
namespace Go.Wk
open Go.Proofs Rp
set_option maxRecDepth 10000
set_option maxHeartbeats 1000000 in
theorem Tryz_laws_heldRecS {w : World} {xs : List Rec} {xsA : Option Addr} {xsC : Nat} {k : Int} (xsS : Sees w [.slice xsA xs.length xsC] xs) (hk : 0 ≤ k ∧ k + mkL mkRec xs ≤ 4611686018427387904) (hm : MkL MkRec mkRec xs k) : Ret Tryz.prog 84 #[.slice xsA xs.length xsC, .int .i64 k] w fun v w' => Ext No w w' ∧ (v = .int .i64 (k + mkL mkRec xs)) := by
 have xsL := sees_len xsS
 unfold maxLen at xsL
 obtain ⟨xsF, xsO⟩ := xsS
 refine ret_Q (vs := [.slice xsA xs.length xsC, .int .i64 k]) Tryz.func84 rfl Tryz.ntmps84 rfl (fun Q hQ hN => ?_)
 have H0 := Sep.start (w := w) (F := [seen false [.slice xsA xs.length xsC] xs xsF]) (all_cons xsO (by simp))
 refine W_sr (sV rfl (py_assign rfl) (s_nil (W_seq (W_sr (sV rfl (py_assign rfl) (s_nil (W_block (W_loopS (γ := Nat) H0 [(0, _)] ⟨rfl, trivial⟩ (fun i => [(1, .int .i64 (k + sumN (fun i => mkRec (xs.getD i default)) i)), (5, .int .i64 i)]) (fun i => i ≤ xs.length ∧ True) (fun i => xs.length - i) 0 ⟨eqI (by simp [sumN]), rfl, trivial⟩ ⟨by omega, trivial⟩ (fun i w1 H1 ⟨hi, _⟩ => ?_)))))))))
 dsimp only [List.cons_append, List.nil_append]
 refine W_seq (W_sr (sV rfl (py_move rfl) (sV rfl (py_move rfl) (sV rfl (py_len Tryz.underlying30 rfl) (sV rfl (py_lss rfl rfl) (s_nil (W_ifd rfl (fun c1 => ?_) (fun c1 => ?_))))))))
 ·refine W_skip (W_seq (W_block (W_seq (W_seq ?_))))
  have hmi := hm i (by omega)
  obtain ⟨sg, sl⟩ := mkL_at (c := mkRec) (xs := xs) (i := i) (by omega)
  have hcu : mkRec (xs.getD i default) = 6 + (xs.getD i default).Rows.length + (xs.getD i default).Data.length + (xs.getD i default).Delta.length := rfl
  obtain ⟨m1, m2, m3, m4, m5, m6, m7, m8, m9⟩ := hmi
  have n3 : (xs.getD i default).Name = mText ((k + sumN (fun i => mkRec (xs.getD i default)) i) + 1 + 1) := by rw [m3]; congr 1; omega
  have n7 : MarkI (xs.getD i default).Rows ((k + sumN (fun i => mkRec (xs.getD i default)) i) + 1 + 1 + 1 + 1 + 1 + 1) := by rwa [show (k + sumN (fun i => mkRec (xs.getD i default)) i) + 1 + 1 + 1 + 1 + 1 + 1 = (k + sumN (fun i => mkRec (xs.getD i default)) i) + 6 by omega]
  have n8 : MarkB (xs.getD i default).Data ((k + sumN (fun i => mkRec (xs.getD i default)) i) + 1 + 1 + 1 + 1 + 1 + 1 + (xs.getD i default).Rows.length) := by rwa [show (k + sumN (fun i => mkRec (xs.getD i default)) i) + 1 + 1 + 1 + 1 + 1 + 1 = (k + sumN (fun i => mkRec (xs.getD i default)) i) + 6 by omega]
  have n9 : MarkB (xs.getD i default).Delta ((k + sumN (fun i => mkRec (xs.getD i default)) i) + 1 + 1 + 1 + 1 + 1 + 1 + (xs.getD i default).Rows.length + (xs.getD i default).Data.length) := by rwa [show (k + sumN (fun i => mkRec (xs.getD i default)) i) + 1 + 1 + 1 + 1 + 1 + 1 = (k + sumN (fun i => mkRec (xs.getD i default)) i) + 6 by omega]
  obtain ⟨eb1, eo1, es1, ef1, ee1, ec1, eO1, eH1, em1⟩ := elem_st (H1.seen 0 rfl) i (by omega)
  obtain ⟨ea1, ek1, ea2, ek2, ea3, ek3, eg1, eg2, eg3, rfl, eq1, eK1, eo2, eo3, eo4⟩ := own_Rec eO1
  have eK1U := eK1
  unfold Rec.Ok at eK1U
  try unfold I64ok at eK1U
  try unfold maxLen at eK1U
  refine W_reg (sV rfl (py_move rfl) (sV rfl (py_move rfl) (sV rfl (py_elz Tryz.underlying30 Tryz.sizeOf68 rfl rfl ee1 i (by omega) (by omega)) (sV rfl (py_field Tryz.underlying68 rfl Tryz.sizeOf2 rfl rfl) (sV rfl (py_load Tryz.underlying2 rfl rfl (at_cell ec1 0 rfl)) (sV rfl (py_move rfl) (sV rfl (py_neq rfl rfl) (s_nil (W_ifd rfl (fun c2 => ?_) (fun c2 => ?_))))))))))
  ·exact absurd c2 (by omega)
  ·refine W_skip (W_sr (sV rfl (py_move rfl) (sV rfl (py_add rfl rfl (in64 ⟨by omega, by omega⟩)) (sV rfl (py_assign rfl) (s_nil (W_seq (W_seq ?_)))))))
   obtain ⟨eb2, eo5, es2, ef2, ee2, ec2, eO2, eH2, em2⟩ := elem_st (H1.seen 0 rfl) i (by omega)
   obtain ⟨ea4, ek4, ea5, ek5, ea6, ek6, eg4, eg5, eg6, rfl, eq2, eK2, eo6, eo7, eo8⟩ := own_Rec eO2
   have eK2U := eK2
   unfold Rec.Ok at eK2U
   try unfold I64ok at eK2U
   try unfold maxLen at eK2U
   refine W_reg (sV rfl (py_move rfl) (sV rfl (py_move rfl) (sV rfl (py_elz Tryz.underlying30 Tryz.sizeOf68 rfl rfl ee2 i (by omega) (by omega)) (sV rfl (py_field Tryz.underlying68 rfl Tryz.sizeOf2 rfl rfl) (sV rfl (py_load Tryz.underlying2 rfl rfl (at_cell ec2 1 rfl)) (sV rfl (py_move rfl) (sV rfl (py_neq rfl rfl) (s_nil (W_ifd rfl (fun c3 => ?_) (fun c3 => ?_))))))))))
   ·exact absurd c3 (by omega)
   ·refine W_skip (W_sr (sV rfl (py_move rfl) (sV rfl (py_add rfl rfl (in64 ⟨by omega, by omega⟩)) (sV rfl (py_assign rfl) (s_nil (W_seq (W_seq ?_)))))))
    obtain ⟨eb3, eo9, es3, ef3, ee3, ec3, eO3, eH3, em3⟩ := elem_st (H1.seen 0 rfl) i (by omega)
    obtain ⟨ea7, ek7, ea8, ek8, ea9, ek9, eg7, eg8, eg9, rfl, eq3, eK3, eo10, eo11, eo12⟩ := own_Rec eO3
    have eK3U := eK3
    unfold Rec.Ok at eK3U
    try unfold I64ok at eK3U
    try unfold maxLen at eK3U
    refine W_drw (S := Ext No _) [(0, true), (1, true), (2, true), (3, true), (4, true), (5, true), (6, false), (7, false)] (by kernel_rfl) (by kernel_rfl) (by kernel_rfl) rfl (fun _ => Ext.refl.drawn _) (fun q1 => ?_)
    have H2 := H1.drawn q1
    refine dV rfl rfl (fun zw hx => py_move rfl) (dV rfl rfl (fun zw hx => py_move rfl) (dV rfl rfl (fun zw hx => py_elz Tryz.underlying30 Tryz.sizeOf68 rfl rfl ee3 i (by omega) (by omega)) (dV rfl rfl (fun zw hx => py_field Tryz.underlying68 rfl Tryz.sizeOf9 rfl rfl) (dV rfl rfl (fun zw hx => py_load Tryz.underlying9 rfl rfl (at_cell (hx.at ec3) 2 rfl)) (dV rfl rfl (fun zw hx => py_move rfl) (d_call rfl (wn rfl) rfl rfl (pc_call Tryz.func155 rfl Tryz_nm155 rfl) (Tryz_laws_markText (by omega)) (fun hS _ _ r _ => hS.trans r.1.no) (fun v1 w2 r1 => ?_)))))))
    obtain ⟨e1, rfl, mt1⟩ := r1
    have H3 := H2.to e1
    refine d_end rfl (wn rfl) rfl rfl (py_sneq rfl rfl) (d_nil (W_if rfl (fun c4 => ?_) (fun c4 => ?_)))
    ·exfalso; rw [n3] at c4; simp at c4
    ·refine W_skip (W_sr (sV rfl (py_move rfl) (sV rfl (py_add rfl rfl (in64 ⟨by omega, by omega⟩)) (sV rfl (py_assign rfl) (s_nil (W_seq (W_seq ?_)))))))
     obtain ⟨eb4, eo13, es4, ef4, ee4, ec4, eO4, eH4, em4⟩ := elem_st (H3.seen 0 rfl) i (by omega)
     obtain ⟨ea10, ek10, ea11, ek11, ea12, ek12, eg10, eg11, eg12, rfl, eq4, eK4, eo14, eo15, eo16⟩ := own_Rec eO4
     have eK4U := eK4
     unfold Rec.Ok at eK4U
     try unfold I64ok at eK4U
     try unfold maxLen at eK4U
     refine W_reg (sV rfl (py_move rfl) (sV rfl (py_move rfl) (sV rfl (py_elz Tryz.underlying30 Tryz.sizeOf68 rfl rfl ee4 i (by omega) (by omega)) (sV rfl (py_field Tryz.underlying68 rfl Tryz.sizeOf2 rfl rfl) (sV rfl (py_load Tryz.underlying2 rfl rfl (at_cell ec4 3 rfl)) (sV rfl (py_move rfl) (sV rfl (py_neq rfl rfl) (s_nil (W_ifd rfl (fun c5 => ?_) (fun c5 => ?_))))))))))
     ·exact absurd c5 (by omega)
     ·refine W_skip (W_sr (sV rfl (py_move rfl) (sV rfl (py_add rfl rfl (in64 ⟨by omega, by omega⟩)) (sV rfl (py_assign rfl) (s_nil (W_seq (W_seq ?_)))))))
      obtain ⟨eb5, eo17, es5, ef5, ee5, ec5, eO5, eH5, em5⟩ := elem_st (H3.seen 0 rfl) i (by omega)
      obtain ⟨ea13, ek13, ea14, ek14, ea15, ek15, eg13, eg14, eg15, rfl, eq5, eK5, eo18, eo19, eo20⟩ := own_Rec eO5
      have eK5U := eK5
      unfold Rec.Ok at eK5U
      try unfold I64ok at eK5U
      try unfold maxLen at eK5U
      refine W_reg (sV rfl (py_move rfl) (sV rfl (py_move rfl) (sV rfl (py_elz Tryz.underlying30 Tryz.sizeOf68 rfl rfl ee5 i (by omega) (by omega)) (sV rfl (py_field Tryz.underlying68 rfl Tryz.sizeOf2 rfl rfl) (sV rfl (py_load Tryz.underlying2 rfl rfl (at_cell ec5 4 rfl)) (sV rfl (py_move rfl) (sV rfl (py_neq rfl rfl) (s_nil (W_ifd rfl (fun c6 => ?_) (fun c6 => ?_))))))))))
      ·exact absurd c6 (by omega)
      ·refine W_skip (W_sr (sV rfl (py_move rfl) (sV rfl (py_add rfl rfl (in64 ⟨by omega, by omega⟩)) (sV rfl (py_assign rfl) (s_nil (W_seq (W_seq ?_)))))))
       obtain ⟨eb6, eo21, es6, ef6, ee6, ec6, eO6, eH6, em6⟩ := elem_st (H3.seen 0 rfl) i (by omega)
       obtain ⟨ea16, ek16, ea17, ek17, ea18, ek18, eg16, eg17, eg18, rfl, eq6, eK6, eo22, eo23, eo24⟩ := own_Rec eO6
       have eK6U := eK6
       unfold Rec.Ok at eK6U
       try unfold I64ok at eK6U
       try unfold maxLen at eK6U
       refine W_reg (sV rfl (py_move rfl) (sV rfl (py_move rfl) (sV rfl (py_elz Tryz.underlying30 Tryz.sizeOf68 rfl rfl ee6 i (by omega) (by omega)) (sV rfl (py_field Tryz.underlying68 rfl Tryz.sizeOf2 rfl rfl) (sV rfl (py_load Tryz.underlying2 rfl rfl (at_cell ec6 5 rfl)) (sV rfl (py_move rfl) (sV rfl (py_neq rfl rfl) (s_nil (W_ifd rfl (fun c7 => ?_) (fun c7 => ?_))))))))))
       ·exact absurd c7 (by omega)
       ·refine W_skip (W_sr (sV rfl (py_move rfl) (sV rfl (py_add rfl rfl (in64 ⟨by omega, by omega⟩)) (sV rfl (py_assign rfl) (s_nil (W_seq ?_))))))
        obtain ⟨eb7, eo25, es7, ef7, ee7, ec7, eO7, eH7, em7⟩ := elem_st (H3.seen 0 rfl) i (by omega)
        obtain ⟨ea19, ek19, ea20, ek20, ea21, ek21, eg19, eg20, eg21, rfl, eq7, eK7, eo26, eo27, eo28⟩ := own_Rec eO7
        have eK7U := eK7
        unfold Rec.Ok at eK7U
        try unfold I64ok at eK7U
        try unfold maxLen at eK7U
        have eP1 := H3.look1 0 rfl eo26 (fun b hb => eH7 b (by rw [eq7]; simp [hb]))
        have eL1 := own_len_le eo26
        unfold maxLen at eL1
        refine W_reg (sV rfl (py_move rfl) (sV rfl (py_move rfl) (sV rfl (py_elz Tryz.underlying30 Tryz.sizeOf68 rfl rfl ee7 i (by omega) (by omega)) (sV rfl (py_field Tryz.underlying68 rfl Tryz.sizeOf25 rfl rfl) (sV rfl (py_load Tryz.underlying25 rfl rfl (at_cell ec7 6 rfl)) (sV rfl (py_move rfl) (s_call (wn rfl) rfl rfl (pc_call Tryz.func92 rfl Tryz_nm92 rfl) (Tryz_laws_heldInt64S (eP1.sees 1 rfl) (by constructor <;> omega) (by assumption)) (fun v2 w3 r2 => ?_))))))))
        obtain ⟨e2, rfl⟩ := r2
        have H4 := eP1.to e2
        refine sV rfl (py_assign rfl) (s_nil (W_seq (W_sr (sV rfl (py_move rfl) (sV rfl (py_lss rfl rfl) (s_nil (W_ifd rfl (fun c8 => ?_) (fun c8 => ?_))))))))
        ·exact absurd c8 (by omega)
        ·refine W_skip (W_seq ?_)
         obtain ⟨eb8, eo29, es8, ef8, ee8, ec8, eO8, eH8, em8⟩ := elem_st (H4.seen 0 rfl) i (by omega)
         obtain ⟨ea22, ek22, ea23, ek23, ea24, ek24, eg22, eg23, eg24, rfl, eq8, eK8, eo30, eo31, eo32⟩ := own_Rec eO8
         have eK8U := eK8
         unfold Rec.Ok at eK8U
         try unfold I64ok at eK8U
         try unfold maxLen at eK8U
         have eP2 := H4.look1 0 rfl eo31 (fun b hb => eH8 b (by rw [eq8]; simp [hb]))
         have eL2 := own_len_le eo31
         unfold maxLen at eL2
         refine W_reg (sV rfl (py_move rfl) (sV rfl (py_move rfl) (sV rfl (py_elz Tryz.underlying30 Tryz.sizeOf68 rfl rfl ee8 i (by omega) (by omega)) (sV rfl (py_field Tryz.underlying68 rfl Tryz.sizeOf45 rfl rfl) (sV rfl (py_load Tryz.underlying45 rfl rfl (at_cell ec8 7 rfl)) (sV rfl (py_move rfl) (s_call (wn rfl) rfl rfl (pc_call Tryz.func89 rfl Tryz_nm89 rfl) (Tryz_laws_heldByteS (eP2.sees 2 rfl) (by constructor <;> omega) (by assumption)) (fun v3 w4 r3 => ?_))))))))
         obtain ⟨e3, rfl⟩ := r3
         have H5 := eP2.to e3
         refine sV rfl (py_assign rfl) (s_nil (W_seq (W_sr (sV rfl (py_move rfl) (sV rfl (py_lss rfl rfl) (s_nil (W_ifd rfl (fun c9 => ?_) (fun c9 => ?_))))))))
         ·exact absurd c9 (by omega)
         ·refine W_skip (W_seq ?_)
          obtain ⟨eb9, eo33, es9, ef9, ee9, ec9, eO9, eH9, em9⟩ := elem_st (H5.seen 0 rfl) i (by omega)
          obtain ⟨ea25, ek25, ea26, ek26, ea27, ek27, eg25, eg26, eg27, rfl, eq9, eK9, eo34, eo35, eo36⟩ := own_Rec eO9
          have eK9U := eK9
          unfold Rec.Ok at eK9U
          try unfold I64ok at eK9U
          try unfold maxLen at eK9U
          have eP3 := H5.look1 0 rfl eo36 (fun b hb => eH9 b (by rw [eq9]; simp [hb]))
          have eL3 := own_len_le eo36
          unfold maxLen at eL3
          refine W_reg (sV rfl (py_move rfl) (sV rfl (py_move rfl) (sV rfl (py_elz Tryz.underlying30 Tryz.sizeOf68 rfl rfl ee9 i (by omega) (by omega)) (sV rfl (py_field Tryz.underlying68 rfl Tryz.sizeOf45 rfl rfl) (sV rfl (py_load Tryz.underlying45 rfl rfl (at_cell ec9 8 rfl)) (sV rfl (py_move rfl) (s_call (wn rfl) rfl rfl (pc_call Tryz.func89 rfl Tryz_nm89 rfl) (Tryz_laws_heldByteS (eP3.sees 3 rfl) (by constructor <;> omega) (by assumption)) (fun v4 w5 r4 => ?_))))))))
          obtain ⟨e4, rfl⟩ := r4
          have H6 := eP3.to e4
          refine sV rfl (py_assign rfl) (s_nil (W_sr (sV rfl (py_move rfl) (sV rfl (py_lss rfl rfl) (s_nil (W_ifd rfl (fun c10 => ?_) (fun c10 => ?_)))))))
          ·exact absurd c10 (by omega)
          ·refine W_skip (W_reg (sV rfl (py_move rfl) (sV rfl (py_add rfl rfl (in64 ⟨by omega, by omega⟩)) (sV rfl (py_assign rfl) (s_nil (⟨i + 1, ⟨eqI (by omega), rfl, rfl, trivial⟩, ⟨(H6.ftake 1), by omega, trivial⟩, by dsimp only; omega⟩))))))
 ·refine W_exit (W_sr (sV rfl (py_move rfl) (sV rfl (py_assign rfl) (s_nil (W_ret (hQ _ _ (fin1 Tryz.results84 rfl ?_)))))))
  obtain rfl : i = xs.length := by omega
  exact ⟨H1.ext, rfl⟩
end Go.Wk
namespace Go.Wk
open Go.Proofs Rp
set_option maxRecDepth 10000
theorem Tryz_laws_markRecsResult {w : World} {xs : List Rec} {xsA : Option Addr} {xsC : Nat} {c k : Int} {fp : List Nat} (o : own true w [.slice xsA xs.length xsC] xs fp) (nd : fp.Nodup) (hk : 0 ≤ k ∧ k + mkL mkRec xs ≤ 4611686018427387904) : Ret Tryz.prog 22 #[.agg #[.int .i64 c, .slice xsA xs.length xsC], .int .i64 k] w fun v w' => (v = .int .i64 (k + mkL mkRec xs) ∧ ∃ xs', Mut w w' fp [.slice xsA xs.length xsC] xs' ∧ (xs'.length = xs.length ∧ mkL mkRec xs' = mkL mkRec xs) ∧ MkL MkRec mkRec xs' k) := by
 refine ret_Q (vs := [.agg #[.int .i64 c, .slice xsA xs.length xsC], .int .i64 k]) Tryz.func22 rfl Tryz.ntmps22 rfl (fun Q hQ hN => ?_)
 have H0 := Sep.begin o nd
 refine W_sr (s_box (wn rfl) rfl rfl H0 (fun b1 w1 e1 g1 H1 => ?_))
 refine sV rfl (py_assign rfl) (s_nil (W_sr (sV rfl (py_field Tryz.underlying32 rfl Tryz.sizeOf30 rfl rfl) (sV rfl (py_load Tryz.underlying30 rfl rfl (cell_atL (H1.box 1 rfl) rfl)) (sV rfl (py_move rfl) (s_call (wn rfl) rfl rfl (pc_call Tryz.func83 rfl Tryz_nm83 rfl) (Tryz_laws_markRecS (H1.mine 0 rfl) (H1.nodup1 (i := 0) rfl) (by constructor <;> omega)) (fun v1 w2 r1 => ?_)))))))
 obtain ⟨rfl, mx1, mm1, ml1⟩ := r1
 obtain ⟨fp1, H2⟩ := H1.mut 0 rfl mm1
 try dsimp only [List.nil_append, List.cons_append, List.set_cons_zero, List.set_cons_succ] at H2
 refine sV rfl (py_assign rfl) (s_nil (W_sr (sV rfl (py_move rfl) (sV rfl (py_assign rfl) (s_nil (W_ret (hQ _ _ (fin1 Tryz.results22 rfl ?_))))))))
 have hz := H2.dtake 1
 exact ⟨rfl, _, hz.done, ⟨ml1.1, ml1.2.1⟩, ml1.2.2⟩
theorem Tryz_laws_heldRecsResult {w : World} {xs : List Rec} {xsA : Option Addr} {n xsC : Nat} {c k : Int} (xsS : Sees w [.slice xsA n xsC] xs) (hk : 0 ≤ k ∧ k + mkL mkRec xs ≤ 4611686018427387904) (hm : MkL MkRec mkRec xs k) : Ret Tryz.prog 23 #[.agg #[.int .i64 c, .slice xsA n xsC], .int .i64 k] w fun v w' => Ext No w w' ∧ (v = .int .i64 (k + mkL mkRec xs)) := by
 obtain ⟨xsF, xsO⟩ := xsS
 obtain rfl := own_n xsO
 refine ret_Q (vs := [.agg #[.int .i64 c, .slice xsA xs.length xsC], .int .i64 k]) Tryz.func23 rfl Tryz.ntmps23 rfl (fun Q hQ hN => ?_)
 have H0 := Sep.start (w := w) (F := [seen false [.slice xsA xs.length xsC] xs xsF]) (all_cons xsO (by simp))
 refine W_sr (s_box (wn rfl) rfl rfl H0 (fun b1 w1 e1 g1 H1 => ?_))
 refine sV rfl (py_assign rfl) (s_nil (W_sr (sV rfl (py_field Tryz.underlying32 rfl Tryz.sizeOf30 rfl rfl) (sV rfl (py_load Tryz.underlying30 rfl rfl (cell_atL (H1.box 0 rfl) rfl)) (sV rfl (py_move rfl) (s_call (wn rfl) rfl rfl (pc_call Tryz.func84 rfl Tryz_nm84 rfl) (Tryz_laws_heldRecS (H1.sees 0 rfl) (by constructor <;> omega) (by assumption)) (fun v1 w2 r1 => ?_)))))))
 obtain ⟨e2, rfl⟩ := r1
 have H2 := H1.to e2
 refine sV rfl (py_assign rfl) (s_nil (W_seq (W_sr (sV rfl (py_move rfl) (sV rfl (py_lss rfl rfl) (s_nil (W_ifd rfl (fun c1 => ?_) (fun c1 => ?_))))))))
 ·refine W_sr (sV rfl (py_assign rfl) (s_nil (W_ret (hQ _ _ (fin1 Tryz.results23 rfl ?_)))))
  exact absurd c1 (by omega)
 ·refine W_skip (W_sr (sV rfl (py_move rfl) (sV rfl (py_assign rfl) (s_nil (W_ret (hQ _ _ (fin1 Tryz.results23 rfl ?_)))))))
  exact ⟨H2.ext, rfl⟩
theorem Tryz_laws_eqRecsResult {w : World} {a : RecsResult} {aA1 : Option Addr} {aC1 : Nat} {b : RecsResult} {bA1 : Option Addr} {bC1 : Nat} (aK : a.Ok) (aS1 : Sees w [.slice aA1 a.Recs.length aC1] a.Recs) (bK : b.Ok) (bS1 : Sees w [.slice bA1 b.Recs.length bC1] b.Recs) : Ret Tryz.prog 19 #[a.val aA1 aC1, b.val bA1 bC1] w fun v w' => Ext No w w' ∧ (v = .bool (decide (a = b))) := by
 have aK2 := aK
 unfold RecsResult.Ok at aK2
 try unfold I64ok at aK2
 try unfold maxLen at aK2
 have aL1 := sees_len aS1
 unfold maxLen at aL1
 obtain ⟨aF1, aO1⟩ := aS1
 have bK2 := bK
 unfold RecsResult.Ok at bK2
 try unfold I64ok at bK2
 try unfold maxLen at bK2
 have bL1 := sees_len bS1
 unfold maxLen at bL1
 obtain ⟨bF1, bO1⟩ := bS1
 refine ret_Q (vs := [a.val aA1 aC1, b.val bA1 bC1]) Tryz.func19 rfl Tryz.ntmps19 rfl (fun Q hQ hN => ?_)
 have H0 := Sep.start (w := w) (F := [seen false [.slice aA1 a.Recs.length aC1] a.Recs aF1, seen false [.slice bA1 b.Recs.length bC1] b.Recs bF1]) (all_cons aO1 (all_cons bO1 (by simp)))
 refine W_sr (s_box (wn rfl) rfl rfl H0 (fun b1 w1 e1 g1 H1 => ?_))
 refine s_box (wn rfl) rfl rfl H1 (fun b2 w2 e2 g2 H2 => ?_)
 refine sV rfl (py_assign rfl) (s_nil (W_seq (W_sr (sV rfl (py_field Tryz.underlying32 rfl Tryz.sizeOf2 rfl rfl) (sV rfl (py_load Tryz.underlying2 rfl rfl (cell_atL (H2.box 0 rfl) rfl)) (sV rfl (py_field Tryz.underlying32 rfl Tryz.sizeOf2 rfl rfl) (sV rfl (py_load Tryz.underlying2 rfl rfl (cell_atL (H2.box 1 rfl) rfl)) (sV rfl (py_neq rfl rfl) (s_nil (W_ifd rfl (fun c1 => ?_) (fun c1 => ?_)))))))))))
 ·refine W_sr (sV rfl (py_assign rfl) (s_nil (W_ret (hQ _ _ (fin1 Tryz.results19 rfl (⟨H2.ext, ?_⟩))))))
  rw [decide_eq_false (fun e => by subst e; first | exact c1 rfl | simp at c1)]
 ·refine W_skip (W_seq (W_sr (sV rfl (py_field Tryz.underlying32 rfl Tryz.sizeOf30 rfl rfl) (sV rfl (py_load Tryz.underlying30 rfl rfl (cell_atL (H2.box 0 rfl) rfl)) (sV rfl (py_field Tryz.underlying32 rfl Tryz.sizeOf30 rfl rfl) (sV rfl (py_load Tryz.underlying30 rfl rfl (cell_atL (H2.box 1 rfl) rfl)) (s_call (wn rfl) rfl rfl (pc_call Tryz.func75 rfl Tryz_nm75 rfl) (Tryz_laws_eqRecS (H2.sees 0 rfl) (H2.sees 1 rfl)) (fun v1 w3 r1 => ?_))))))))
  obtain ⟨e3, rfl⟩ := r1
  have H3 := H2.to e3
  refine sV rfl (py_not rfl) (s_nil (W_if rfl (fun c2 => ?_) (fun c2 => ?_)))
  ·refine W_sr (sV rfl (py_assign rfl) (s_nil (W_ret (hQ _ _ (fin1 Tryz.results19 rfl (⟨H3.ext, ?_⟩))))))
   rw [decide_eq_false (fun e => by subst e; first | exact c2 rfl | simp at c2)]
  ·refine W_skip (W_sr (sV rfl (py_assign rfl) (s_nil (W_ret (hQ _ _ (fin1 Tryz.results19 rfl (⟨H3.ext, ?_⟩)))))))
   rw [decide_eq_true]
   cases a; cases b; simp_all
end Go.Wk
namespace Go.Wk
open Go.Proofs Rp
set_option maxRecDepth 10000
theorem Tryz_laws_FnExactOpenShare {w : World} {z : Wld} {zA9 : Option Addr} {zC9 : Nat} {zA10 : Option Addr} {zC10 : Nat} {zA11 : Option Addr} {zC11 : Nat} {g : Int} {row : Int} (zK : z.Ok) (zS9 : Sees w [.slice zA9 z.Groups.length zC9] z.Groups) (zS10 : Sees w [.slice zA10 z.On.length zC10] z.On) (zS11 : Sees w [.slice zA11 z.Tapes.length zC11] z.Tapes) : Ret Tryz.prog 3 #[z.val zA9 zC9 zA10 zC10 zA11 zC11, .int .i64 g, .int .i64 row] w fun v w' => Ext No w w' ∧ (v = .bool true) := by
 have zK2 := zK
 unfold Wld.Ok Shape.Ok at zK2
 try unfold I64ok at zK2
 try unfold maxLen at zK2
 have zL9 := sees_len zS9
 unfold maxLen at zL9
 obtain ⟨zF9, zO9⟩ := zS9
 have zL10 := sees_len zS10
 unfold maxLen at zL10
 obtain ⟨zF10, zO10⟩ := zS10
 have zL11 := sees_len zS11
 unfold maxLen at zL11
 obtain ⟨zF11, zO11⟩ := zS11
 refine ret_Q (vs := [z.val zA9 zC9 zA10 zC10 zA11 zC11, .int .i64 g, .int .i64 row]) Tryz.func3 rfl Tryz.ntmps3 rfl (fun Q hQ hN => ?_)
 have H0 := Sep.start (w := w) (F := [seen false [.slice zA9 z.Groups.length zC9] z.Groups zF9, seen false [.slice zA10 z.On.length zC10] z.On zF10, seen false [.slice zA11 z.Tapes.length zC11] z.Tapes zF11]) (all_cons zO9 (all_cons zO10 (all_cons zO11 (by simp))))
 refine W_sr (s_box (wn rfl) rfl rfl H0 (fun b1 w1 e1 g1 H1 => ?_))
 refine sV rfl (py_assign rfl) (s_nil (W_sr (sV rfl (py_assign rfl) (s_nil (W_sr (sV rfl (py_loadS Tryz.underlying28 rfl Tryz.sizeOf28 rfl rfl (At.whole (H1.box 0 rfl))) (sV rfl (py_move rfl) (s_call (wn rfl) rfl rfl (pc_call Tryz.func15 rfl Tryz_nm15 rfl) (Tryz_laws_szWorld (by assumption) (H1.sees 0 rfl) (H1.sees 1 rfl) (H1.sees 2 rfl) (by omega)) (fun v1 w2 r1 => ?_)))))))))
 obtain ⟨e2, rfl⟩ := r1
 have H2 := H1.to e2
 refine sV rfl (py_assign rfl) (s_nil (W_seq (W_sr (sV rfl (py_move rfl) (sV rfl (py_lss rfl rfl) (s_nil (W_ifd rfl (fun c1 => ?_) (fun c1 => ?_))))))))
 ·refine W_sr (sV rfl (py_assign rfl) (s_nil (W_ret (hQ _ _ (fin1 Tryz.results3 rfl ?_)))))
  exact ⟨H2.ext, rfl⟩
 ·refine W_skip (W_seq ?_)
  have hsz : szWld z ≤ 1048576 := by omega
  have hmk := mkWld_le z
  have cnt := openSh_mk (z := z) (g := g) (row := row) hsz
  have hOk := openSh_Ok (z := z) (g := g) (row := row)
  refine W_reg (sV rfl (py_loadS Tryz.underlying28 rfl Tryz.sizeOf28 rfl rfl (At.whole (H2.box 0 rfl))) (s_call (wn rfl) rfl rfl (pc_call Tryz.func17 rfl Tryz_nm17 rfl) (Tryz_laws_toWorld (by assumption) (H2.sees 0 rfl) (H2.sees 1 rfl) (H2.sees 2 rfl) (by assumption)) (fun v2 w3 r2 => ?_)))
  obtain ⟨e3, sa1, sk1, sa2, sk2, sa3, sk3, rfl, r2⟩ := r2
  obtain ⟨fp1, H3⟩ := H2.res e3 r2
  have H4 := H3.share 1 rfl
  obtain ⟨sf1, sf2, sf3, sq1, sok1, so1, so2, so3⟩ := own_WldC (H4.seen 3 rfl)
  have H6 := H4.look1 3 rfl so1 (fun b hb => by rw [sq1]; simp [hb])
  have H7 := H6.look1 3 rfl so2 (fun b hb => by rw [sq1]; simp [hb])
  have H8 := H7.look1 3 rfl so3 (fun b hb => by rw [sq1]; simp [hb])
  refine sV rfl (py_move rfl) (sV rfl (py_move rfl) (s_call (wn rfl) rfl rfl (pc_call Tryz.func16 rfl Tryz_nm16 rfl) (Tryz_spec_OpenShare (by assumption) (H8.sees 4 rfl) (H8.sees 5 rfl) (H8.sees 6 rfl) (by first | assumption | omega)) (fun v3 w4 r3 => ?_)))
  obtain ⟨e4, sa4, sk4, rfl, r3⟩ := r3
  obtain ⟨fp2, H9⟩ := H8.res e4 r3
  have H10 := H9.share 2 rfl
  obtain ⟨sf4, sq2, sok2, so4⟩ := own_RecsResultC (H10.seen 7 rfl)
  have H12 := H10.look1 7 rfl so4 (fun b hb => by rw [sq2]; simp [hb])
  refine s_var (wn rfl) rfl Tryz.zeroValue32 H12 (fun b2 w5 e5 g2 H13 => ?_)
  refine s_stoS (wn rfl) Tryz.sizeOf32 rfl rfl rfl rfl H13 3 rfl rfl (fun w6 e6 H14 => ?_)
  dsimp only [List.nil_append, List.cons_append, List.set_cons_zero, List.set_cons_succ, layL] at H14
  refine s_nil (W_sr (sV rfl (py_loadS Tryz.underlying28 rfl Tryz.sizeOf28 rfl rfl (At.whole (H14.box 0 rfl))) (s_call (wn rfl) rfl rfl (pc_call Tryz.func17 rfl Tryz_nm17 rfl) (Tryz_laws_toWorld (by assumption) (H14.sees 0 rfl) (H14.sees 1 rfl) (H14.sees 2 rfl) (by assumption)) (fun v4 w7 r4 => ?_))))
  obtain ⟨e7, sa5, sk5, sa6, sk6, sa7, sk7, rfl, r4⟩ := r4
  obtain ⟨fp3, H15⟩ := H14.res e7 r4
  refine s_var (wn rfl) rfl Tryz.zeroValue38 H15 (fun b3 w8 e8 g3 H16 => ?_)
  refine s_stoS (wn rfl) Tryz.sizeOf38 rfl rfl rfl rfl H16 5 rfl rfl (fun w9 e9 H17 => ?_)
  dsimp only [List.nil_append, List.cons_append, List.set_cons_zero, List.set_cons_succ, layL] at H17
  refine s_nil (W_sr (sV rfl (py_loadS Tryz.underlying38 rfl Tryz.sizeOf38 rfl rfl (At.whole (H17.box 5 rfl))) (sV rfl (py_move rfl) (sV rfl (py_move rfl) (s_call (wn rfl) rfl rfl (pc_call Tryz.func18 rfl Tryz_nm18 rfl) (Tryz_impl_OpenShare (by assumption) (Wld.see9 (H17.mine 4 rfl)) (Wld.see10 (H17.mine 4 rfl)) (Wld.see11 (H17.mine 4 rfl)) (by first | assumption | omega)) (fun v5 w10 r5 => ?_))))))
  obtain ⟨e10, sa8, sk8, rfl, r5⟩ := r5
  obtain ⟨fp4, H18⟩ := H17.res e10 r5
  obtain ⟨sf5, sq3, sok3, so5⟩ := own_RecsResultC (H18.mine 6 rfl)
  have H19 := H18.part 6 rfl [mine [.slice _ (openShF z g row).Recs.length _] (openShF z g row).Recs sf5] (all_cons so5 (by simp)) (by simp [blocks, mine, sq3])
  try dsimp only [List.nil_append, List.cons_append, List.set_cons_zero, List.set_cons_succ] at H19
  refine s_var (wn rfl) rfl Tryz.zeroValue32 H19 (fun b4 w11 e11 g4 H20 => ?_)
  refine s_stoS (wn rfl) Tryz.sizeOf32 rfl rfl rfl rfl H20 8 rfl rfl (fun w12 e12 H21 => ?_)
  dsimp only [List.nil_append, List.cons_append, List.set_cons_zero, List.set_cons_succ, layL] at H21
  refine s_nil (W_seq (W_sr (sV rfl (py_loadS Tryz.underlying32 rfl Tryz.sizeOf32 rfl rfl (At.whole (H21.box 8 rfl))) (sV rfl (py_loadS Tryz.underlying32 rfl Tryz.sizeOf32 rfl rfl (At.whole (H21.box 3 rfl))) (s_call (wn rfl) rfl rfl (pc_call Tryz.func19 rfl Tryz_nm19 rfl) (Tryz_laws_eqRecsResult (by assumption) (H21.msees 7 rfl) (by assumption) (H21.sees 8 rfl)) (fun v6 w13 r6 => ?_))))))
  obtain ⟨e13, rfl⟩ := r6
  have H22 := H21.to e13
  refine sV rfl (py_not rfl) (s_nil (W_if rfl (fun c2 => ?_) (fun c2 => ?_)))
  ·exfalso; simp_all
  ·refine W_skip (W_seq (W_seq (W_drw (S := Ext No _) [(0, true), (1, true), (2, false), (3, false), (4, false)] (by kernel_rfl) (by kernel_rfl) (by kernel_rfl) rfl (fun _ => Ext.refl.drawn _) (fun q1 => ?_))))
   have H23 := H22.drawn q1
   refine dV rfl rfl (fun zw hx => py_loadS Tryz.underlying38 rfl Tryz.sizeOf38 rfl rfl (At.whole (hx.heap (H23.box 5 rfl)))) (dV rfl rfl (fun zw hx => py_loadS Tryz.underlying28 rfl Tryz.sizeOf28 rfl rfl (At.whole (hx.heap (H23.box 0 rfl)))) (d_call rfl (wn rfl) rfl rfl (pc_call Tryz.func17 rfl Tryz_nm17 rfl) (Tryz_laws_toWorld (by assumption) (H23.sees 0 rfl) (H23.sees 1 rfl) (H23.sees 2 rfl) (by assumption)) (fun hS _ _ r _ => hS.trans r.1.no) (fun v7 w14 r7 => ?_)))
   obtain ⟨e14, sa9, sk9, sa10, sk10, sa11, sk11, rfl, r7⟩ := r7
   obtain ⟨fp5, H24⟩ := H23.res e14 r7
   have H25 := H24.share 9 rfl
   obtain ⟨sf6, sf7, sf8, sq4, sok4, so6, so7, so8⟩ := own_WldC (H25.seen 9 rfl)
   have H27 := H25.look1 9 rfl so6 (fun b hb => by rw [sq4]; simp [hb])
   have H28 := H27.look1 9 rfl so7 (fun b hb => by rw [sq4]; simp [hb])
   have H29 := H28.look1 9 rfl so8 (fun b hb => by rw [sq4]; simp [hb])
   refine d_call rfl (wn rfl) rfl rfl (pc_call Tryz.func20 rfl Tryz_nm20 rfl) (Tryz_laws_eqWorld (by assumption) (Wld.see9 (H29.mine 4 rfl)) (Wld.see10 (H29.mine 4 rfl)) (Wld.see11 (H29.mine 4 rfl)) (by assumption) (H29.sees 10 rfl) (H29.sees 11 rfl) (H29.sees 12 rfl)) (fun hS _ _ r _ => hS.trans r.1.no) (fun v8 w15 r8 => ?_)
   obtain ⟨e15, rfl⟩ := r8
   have H30 := H29.to e15
   refine d_end rfl (wn rfl) rfl rfl (py_not rfl) (d_nil (W_if rfl (fun c3 => ?_) (fun c3 => ?_)))
   ·exfalso; simp_all
   ·refine W_skip (W_sr (sV rfl (py_assign rfl) (s_nil (W_sr (sV rfl (py_loadS Tryz.underlying38 rfl Tryz.sizeOf38 rfl rfl (At.whole (H30.box 5 rfl))) (sV rfl (py_move rfl) (s_call (wn rfl) rfl rfl (pc_call Tryz.func21 rfl Tryz_nm21 rfl) (Tryz_laws_markWorld (by assumption) (H30.mine 4 rfl) (H30.nodup1 (i := 4) rfl) (by constructor <;> omega)) (fun v9 w16 r9 => ?_))))))))
    obtain ⟨rfl, mx1, mm1, ml1⟩ := r9
    obtain ⟨fp6, H31⟩ := H30.mut 4 rfl mm1
    try dsimp only [List.nil_append, List.cons_append, List.set_cons_zero, List.set_cons_succ] at H31
    refine sV rfl (py_assign rfl) (s_nil (W_seq (W_sr (sV rfl (py_move rfl) (sV rfl (py_lss rfl rfl) (sV rfl (py_move rfl) (s_grp 4 (j := 2) (want := false) (t := 49) rfl rfl rfl rfl (fun hg1 kk1 => s_val (wgE rfl rfl rfl hg1) rfl rfl (py_loadS Tryz.underlying32 rfl Tryz.sizeOf32 rfl rfl (At.whole (H31.box 8 rfl))) (s_val (wgE rfl rfl rfl hg1) rfl rfl (py_loadS Tryz.underlying32 rfl Tryz.sizeOf32 rfl rfl (At.whole (H31.box 3 rfl))) (s_callv (wgE rfl rfl rfl hg1) rfl rfl (pc_call Tryz.func19 rfl Tryz_nm19 rfl) (Tryz_laws_eqRecsResult (by assumption) (H31.msees 7 rfl) (by assumption) (H31.sees 8 rfl)) (fun w18 e18 => s_val (wgE rfl rfl rfl hg1) rfl rfl (py_not rfl) (kk1 _ _ (kx rfl (kx rfl (kx rfl (kx rfl k0)))) rfl (Ext.refl.trans e18)))))) (fun w17 e17 => ?_))))))))
    have H32 := H31.to e17
    refine sV rfl (py_bor rfl rfl) (s_nil (W_if rfl (fun c4 => ?_) (fun c4 => ?_)))
    ·exact absurd c4 (by simp; omega)
    ·refine W_skip (W_sr (sV rfl (py_assign rfl) (s_nil (W_sr (sV rfl (py_loadS Tryz.underlying32 rfl Tryz.sizeOf32 rfl rfl (At.whole (H32.box 8 rfl))) (sV rfl (py_move rfl) (s_call (wn rfl) rfl rfl (pc_call Tryz.func22 rfl Tryz_nm22 rfl) (Tryz_laws_markRecsResult (H32.mine 7 rfl) (H32.nodup1 (i := 7) rfl) (by constructor <;> omega)) (fun v10 w19 r10 => ?_))))))))
     obtain ⟨rfl, mx2, mm2, ml2, mk1⟩ := r10
     obtain ⟨fp7, H33⟩ := H32.mut 7 rfl mm2
     try dsimp only [List.nil_append, List.cons_append, List.set_cons_zero, List.set_cons_succ] at H33
     refine sV rfl (py_assign rfl) (s_nil (W_sr (sV rfl (py_assign rfl) (s_nil (W_sr (sV rfl (py_loadS Tryz.underlying32 rfl Tryz.sizeOf32 rfl rfl (At.whole (H33.box 8 rfl))) (sV rfl (py_move rfl) (s_call (wn rfl) rfl rfl (pc_call Tryz.func23 rfl Tryz_nm23 rfl) (Tryz_laws_heldRecsResult (H33.msees 7 rfl) (by constructor <;> omega) (by assumption)) (fun v11 w20 r11 => ?_)))))))))
     obtain ⟨e20, rfl⟩ := r11
     have H34 := H33.to e20
     refine sV rfl (py_assign rfl) (s_nil (W_seq (W_sr (sV rfl (py_move rfl) (sV rfl (py_lss rfl rfl) (s_nil (W_ifd rfl (fun c5 => ?_) (fun c5 => ?_))))))))
     ·exact absurd c5 (by omega)
     ·refine W_skip (W_seq (W_sr (sV rfl (py_move rfl) (sV rfl (py_move rfl) (sV rfl (py_neq rfl rfl) (s_nil (W_ifd rfl (fun c6 => ?_) (fun c6 => ?_))))))))
      ·exact absurd c6 (by omega)
      ·refine W_skip (W_sr (sV rfl (py_loadS Tryz.underlying28 rfl Tryz.sizeOf28 rfl rfl (At.whole (H34.box 0 rfl))) (s_call (wn rfl) rfl rfl (pc_call Tryz.func17 rfl Tryz_nm17 rfl) (Tryz_laws_toWorld (by assumption) (H34.sees 0 rfl) (H34.sees 1 rfl) (H34.sees 2 rfl) (by assumption)) (fun v12 w21 r12 => ?_))))
       obtain ⟨e21, sa12, sk12, sa13, sk13, sa14, sk14, rfl, r12⟩ := r12
       obtain ⟨fp8, H35⟩ := H34.res e21 r12
       have H36 := H35.share 10 rfl
       obtain ⟨sf9, sf10, sf11, sq5, sok5, so9, so10, so11⟩ := own_WldC (H36.seen 13 rfl)
       have H38 := H36.look1 13 rfl so9 (fun b hb => by rw [sq5]; simp [hb])
       have H39 := H38.look1 13 rfl so10 (fun b hb => by rw [sq5]; simp [hb])
       have H40 := H39.look1 13 rfl so11 (fun b hb => by rw [sq5]; simp [hb])
       refine sV rfl (py_move rfl) (sV rfl (py_move rfl) (s_call (wn rfl) rfl rfl (pc_call Tryz.func18 rfl Tryz_nm18 rfl) (Tryz_impl_OpenShare (by assumption) (H40.sees 14 rfl) (H40.sees 15 rfl) (H40.sees 16 rfl) (by first | assumption | omega)) (fun v13 w22 r13 => ?_)))
       obtain ⟨e22, sa15, sk15, rfl, r13⟩ := r13
       obtain ⟨fp9, H41⟩ := H40.res e22 r13
       have H42 := H41.share 11 rfl
       obtain ⟨sf12, sq6, sok6, so12⟩ := own_RecsResultC (H42.seen 17 rfl)
       have H44 := H42.look1 17 rfl so12 (fun b hb => by rw [sq6]; simp [hb])
       refine s_var (wn rfl) rfl Tryz.zeroValue32 H44 (fun b5 w23 e23 g5 H45 => ?_)
       refine s_stoS (wn rfl) Tryz.sizeOf32 rfl rfl rfl rfl H45 12 rfl rfl (fun w24 e24 H46 => ?_)
       dsimp only [List.nil_append, List.cons_append, List.set_cons_zero, List.set_cons_succ, layL] at H46
       refine s_nil (W_seq (W_sr (sV rfl (py_loadS Tryz.underlying32 rfl Tryz.sizeOf32 rfl rfl (At.whole (H46.box 12 rfl))) (sV rfl (py_loadS Tryz.underlying32 rfl Tryz.sizeOf32 rfl rfl (At.whole (H46.box 3 rfl))) (s_call (wn rfl) rfl rfl (pc_call Tryz.func19 rfl Tryz_nm19 rfl) (Tryz_laws_eqRecsResult (by assumption) (H46.sees 18 rfl) (by assumption) (H46.sees 8 rfl)) (fun v14 w25 r14 => ?_))))))
       obtain ⟨e25, rfl⟩ := r14
       have H47 := H46.to e25
       refine sV rfl (py_not rfl) (s_nil (W_if rfl (fun c7 => ?_) (fun c7 => ?_)))
       ·exfalso; simp_all
       ·refine W_skip (W_sr (sV rfl (py_assign rfl) (s_nil (W_sr (sV rfl (py_loadS Tryz.underlying32 rfl Tryz.sizeOf32 rfl rfl (At.whole (H47.box 8 rfl))) (sV rfl (py_move rfl) (s_call (wn rfl) rfl rfl (pc_call Tryz.func23 rfl Tryz_nm23 rfl) (Tryz_laws_heldRecsResult (H47.msees 7 rfl) (by constructor <;> omega) (by assumption)) (fun v15 w26 r15 => ?_))))))))
        obtain ⟨e26, rfl⟩ := r15
        have H48 := H47.to e26
        refine sV rfl (py_assign rfl) (s_nil (W_seq (W_sr (sV rfl (py_move rfl) (sV rfl (py_lss rfl rfl) (s_nil (W_ifd rfl (fun c8 => ?_) (fun c8 => ?_))))))))
        ·exact absurd c8 (by omega)
        ·refine W_skip (W_seq (W_sr (sV rfl (py_move rfl) (sV rfl (py_move rfl) (sV rfl (py_neq rfl rfl) (s_nil (W_ifd rfl (fun c9 => ?_) (fun c9 => ?_))))))))
         ·exact absurd c9 (by omega)
         ·refine W_skip (W_sr (sV rfl (py_assign rfl) (s_nil (W_ret (hQ _ _ (fin1 Tryz.results3 rfl ?_))))))
          exact ⟨H48.ext, rfl⟩
theorem Tryz_laws_FnExactWholeShare {w : World} {z : Wld} {zA9 : Option Addr} {zC9 : Nat} {zA10 : Option Addr} {zC10 : Nat} {zA11 : Option Addr} {zC11 : Nat} {g : Int} {row : Int} (zK : z.Ok) (zS9 : Sees w [.slice zA9 z.Groups.length zC9] z.Groups) (zS10 : Sees w [.slice zA10 z.On.length zC10] z.On) (zS11 : Sees w [.slice zA11 z.Tapes.length zC11] z.Tapes) : Ret Tryz.prog 4 #[z.val zA9 zC9 zA10 zC10 zA11 zC11, .int .i64 g, .int .i64 row] w fun v w' => Ext No w w' ∧ (v = .bool true) := by
 have zK2 := zK
 unfold Wld.Ok Shape.Ok at zK2
 try unfold I64ok at zK2
 try unfold maxLen at zK2
 have zL9 := sees_len zS9
 unfold maxLen at zL9
 obtain ⟨zF9, zO9⟩ := zS9
 have zL10 := sees_len zS10
 unfold maxLen at zL10
 obtain ⟨zF10, zO10⟩ := zS10
 have zL11 := sees_len zS11
 unfold maxLen at zL11
 obtain ⟨zF11, zO11⟩ := zS11
 refine ret_Q (vs := [z.val zA9 zC9 zA10 zC10 zA11 zC11, .int .i64 g, .int .i64 row]) Tryz.func4 rfl Tryz.ntmps4 rfl (fun Q hQ hN => ?_)
 have H0 := Sep.start (w := w) (F := [seen false [.slice zA9 z.Groups.length zC9] z.Groups zF9, seen false [.slice zA10 z.On.length zC10] z.On zF10, seen false [.slice zA11 z.Tapes.length zC11] z.Tapes zF11]) (all_cons zO9 (all_cons zO10 (all_cons zO11 (by simp))))
 refine W_sr (s_box (wn rfl) rfl rfl H0 (fun b1 w1 e1 g1 H1 => ?_))
 refine sV rfl (py_assign rfl) (s_nil (W_sr (sV rfl (py_assign rfl) (s_nil (W_sr (sV rfl (py_loadS Tryz.underlying28 rfl Tryz.sizeOf28 rfl rfl (At.whole (H1.box 0 rfl))) (sV rfl (py_move rfl) (s_call (wn rfl) rfl rfl (pc_call Tryz.func15 rfl Tryz_nm15 rfl) (Tryz_laws_szWorld (by assumption) (H1.sees 0 rfl) (H1.sees 1 rfl) (H1.sees 2 rfl) (by omega)) (fun v1 w2 r1 => ?_)))))))))
 obtain ⟨e2, rfl⟩ := r1
 have H2 := H1.to e2
 refine sV rfl (py_assign rfl) (s_nil (W_seq (W_sr (sV rfl (py_move rfl) (sV rfl (py_lss rfl rfl) (s_nil (W_ifd rfl (fun c1 => ?_) (fun c1 => ?_))))))))
 ·refine W_sr (sV rfl (py_assign rfl) (s_nil (W_ret (hQ _ _ (fin1 Tryz.results4 rfl ?_)))))
  exact ⟨H2.ext, rfl⟩
 ·refine W_skip (W_seq ?_)
  have hsz : szWld z ≤ 1048576 := by omega
  have hmk := mkWld_le z
  have cnt := whole_len (z := z) (g := g) (row := row) hsz
  have hOk := whole_Ok (z := z) (g := g) (row := row)
  refine W_reg (sV rfl (py_loadS Tryz.underlying28 rfl Tryz.sizeOf28 rfl rfl (At.whole (H2.box 0 rfl))) (s_call (wn rfl) rfl rfl (pc_call Tryz.func17 rfl Tryz_nm17 rfl) (Tryz_laws_toWorld (by assumption) (H2.sees 0 rfl) (H2.sees 1 rfl) (H2.sees 2 rfl) (by assumption)) (fun v2 w3 r2 => ?_)))
  obtain ⟨e3, sa1, sk1, sa2, sk2, sa3, sk3, rfl, r2⟩ := r2
  obtain ⟨fp1, H3⟩ := H2.res e3 r2
  have H4 := H3.share 1 rfl
  obtain ⟨sf1, sf2, sf3, sq1, sok1, so1, so2, so3⟩ := own_WldC (H4.seen 3 rfl)
  have H6 := H4.look1 3 rfl so1 (fun b hb => by rw [sq1]; simp [hb])
  have H7 := H6.look1 3 rfl so2 (fun b hb => by rw [sq1]; simp [hb])
  have H8 := H7.look1 3 rfl so3 (fun b hb => by rw [sq1]; simp [hb])
  refine sV rfl (py_move rfl) (sV rfl (py_move rfl) (s_call (wn rfl) rfl rfl (pc_call Tryz.func24 rfl Tryz_nm24 rfl) (Tryz_spec_WholeShare (by assumption) (H8.sees 4 rfl) (H8.sees 5 rfl) (H8.sees 6 rfl) (by first | assumption | omega)) (fun v3 w4 r3 => ?_)))
  obtain ⟨e4, sa4, sk4, rfl, r3⟩ := r3
  obtain ⟨fp2, H9⟩ := H8.res e4 r3
  have H10 := H9.share 2 rfl
  obtain ⟨sf4, sq2, sok2, so4⟩ := own_BytesResultC (H10.seen 7 rfl)
  have H12 := H10.look1 7 rfl so4 (fun b hb => by rw [sq2]; simp [hb])
  refine s_var (wn rfl) rfl Tryz.zeroValue47 H12 (fun b2 w5 e5 g2 H13 => ?_)
  refine s_stoS (wn rfl) Tryz.sizeOf47 rfl rfl rfl rfl H13 3 rfl rfl (fun w6 e6 H14 => ?_)
  dsimp only [List.nil_append, List.cons_append, List.set_cons_zero, List.set_cons_succ, layL] at H14
  refine s_nil (W_sr (sV rfl (py_loadS Tryz.underlying28 rfl Tryz.sizeOf28 rfl rfl (At.whole (H14.box 0 rfl))) (s_call (wn rfl) rfl rfl (pc_call Tryz.func17 rfl Tryz_nm17 rfl) (Tryz_laws_toWorld (by assumption) (H14.sees 0 rfl) (H14.sees 1 rfl) (H14.sees 2 rfl) (by assumption)) (fun v4 w7 r4 => ?_))))
  obtain ⟨e7, sa5, sk5, sa6, sk6, sa7, sk7, rfl, r4⟩ := r4
  obtain ⟨fp3, H15⟩ := H14.res e7 r4
  refine s_var (wn rfl) rfl Tryz.zeroValue38 H15 (fun b3 w8 e8 g3 H16 => ?_)
  refine s_stoS (wn rfl) Tryz.sizeOf38 rfl rfl rfl rfl H16 5 rfl rfl (fun w9 e9 H17 => ?_)
  dsimp only [List.nil_append, List.cons_append, List.set_cons_zero, List.set_cons_succ, layL] at H17
  refine s_nil (W_sr (sV rfl (py_loadS Tryz.underlying38 rfl Tryz.sizeOf38 rfl rfl (At.whole (H17.box 5 rfl))) (sV rfl (py_move rfl) (sV rfl (py_move rfl) (s_call (wn rfl) rfl rfl (pc_call Tryz.func25 rfl Tryz_nm25 rfl) (Tryz_impl_WholeShare (by assumption) (Wld.see9 (H17.mine 4 rfl)) (Wld.see10 (H17.mine 4 rfl)) (Wld.see11 (H17.mine 4 rfl)) (by first | assumption | omega)) (fun v5 w10 r5 => ?_))))))
  obtain ⟨e10, sa8, sk8, rfl, r5⟩ := r5
  obtain ⟨fp4, H18⟩ := H17.res e10 r5
  obtain ⟨sf5, sq3, sok3, so5⟩ := own_BytesResultC (H18.mine 6 rfl)
  have H19 := H18.part 6 rfl [mine [.slice _ (wholeF z g row).Bytes.length _] (wholeF z g row).Bytes sf5] (all_cons so5 (by simp)) (by simp [blocks, mine, sq3])
  try dsimp only [List.nil_append, List.cons_append, List.set_cons_zero, List.set_cons_succ] at H19
  refine s_var (wn rfl) rfl Tryz.zeroValue47 H19 (fun b4 w11 e11 g4 H20 => ?_)
  refine s_stoS (wn rfl) Tryz.sizeOf47 rfl rfl rfl rfl H20 8 rfl rfl (fun w12 e12 H21 => ?_)
  dsimp only [List.nil_append, List.cons_append, List.set_cons_zero, List.set_cons_succ, layL] at H21
  refine s_nil (W_seq (W_sr (sV rfl (py_loadS Tryz.underlying47 rfl Tryz.sizeOf47 rfl rfl (At.whole (H21.box 8 rfl))) (sV rfl (py_loadS Tryz.underlying47 rfl Tryz.sizeOf47 rfl rfl (At.whole (H21.box 3 rfl))) (s_call (wn rfl) rfl rfl (pc_call Tryz.func26 rfl Tryz_nm26 rfl) (Tryz_w_eqBytesResult (by assumption) (H21.msees 7 rfl) (by assumption) (H21.sees 8 rfl)) (fun v6 w13 r6 => ?_))))))
  obtain ⟨e13, rfl⟩ := r6
  have H22 := H21.to e13
  refine sV rfl (py_not rfl) (s_nil (W_if rfl (fun c2 => ?_) (fun c2 => ?_)))
  ·exfalso; simp_all
  ·refine W_skip (W_seq (W_seq (W_drw (S := Ext No _) [(0, true), (1, true), (2, false), (3, false), (4, false)] (by kernel_rfl) (by kernel_rfl) (by kernel_rfl) rfl (fun _ => Ext.refl.drawn _) (fun q1 => ?_))))
   have H23 := H22.drawn q1
   refine dV rfl rfl (fun zw hx => py_loadS Tryz.underlying38 rfl Tryz.sizeOf38 rfl rfl (At.whole (hx.heap (H23.box 5 rfl)))) (dV rfl rfl (fun zw hx => py_loadS Tryz.underlying28 rfl Tryz.sizeOf28 rfl rfl (At.whole (hx.heap (H23.box 0 rfl)))) (d_call rfl (wn rfl) rfl rfl (pc_call Tryz.func17 rfl Tryz_nm17 rfl) (Tryz_laws_toWorld (by assumption) (H23.sees 0 rfl) (H23.sees 1 rfl) (H23.sees 2 rfl) (by assumption)) (fun hS _ _ r _ => hS.trans r.1.no) (fun v7 w14 r7 => ?_)))
   obtain ⟨e14, sa9, sk9, sa10, sk10, sa11, sk11, rfl, r7⟩ := r7
   obtain ⟨fp5, H24⟩ := H23.res e14 r7
   have H25 := H24.share 9 rfl
   obtain ⟨sf6, sf7, sf8, sq4, sok4, so6, so7, so8⟩ := own_WldC (H25.seen 9 rfl)
   have H27 := H25.look1 9 rfl so6 (fun b hb => by rw [sq4]; simp [hb])
   have H28 := H27.look1 9 rfl so7 (fun b hb => by rw [sq4]; simp [hb])
   have H29 := H28.look1 9 rfl so8 (fun b hb => by rw [sq4]; simp [hb])
   refine d_call rfl (wn rfl) rfl rfl (pc_call Tryz.func20 rfl Tryz_nm20 rfl) (Tryz_laws_eqWorld (by assumption) (Wld.see9 (H29.mine 4 rfl)) (Wld.see10 (H29.mine 4 rfl)) (Wld.see11 (H29.mine 4 rfl)) (by assumption) (H29.sees 10 rfl) (H29.sees 11 rfl) (H29.sees 12 rfl)) (fun hS _ _ r _ => hS.trans r.1.no) (fun v8 w15 r8 => ?_)
   obtain ⟨e15, rfl⟩ := r8
   have H30 := H29.to e15
   refine d_end rfl (wn rfl) rfl rfl (py_not rfl) (d_nil (W_if rfl (fun c3 => ?_) (fun c3 => ?_)))
   ·exfalso; simp_all
   ·refine W_skip (W_sr (sV rfl (py_assign rfl) (s_nil (W_sr (sV rfl (py_loadS Tryz.underlying38 rfl Tryz.sizeOf38 rfl rfl (At.whole (H30.box 5 rfl))) (sV rfl (py_move rfl) (s_call (wn rfl) rfl rfl (pc_call Tryz.func21 rfl Tryz_nm21 rfl) (Tryz_laws_markWorld (by assumption) (H30.mine 4 rfl) (H30.nodup1 (i := 4) rfl) (by constructor <;> omega)) (fun v9 w16 r9 => ?_))))))))
    obtain ⟨rfl, mx1, mm1, ml1⟩ := r9
    obtain ⟨fp6, H31⟩ := H30.mut 4 rfl mm1
    try dsimp only [List.nil_append, List.cons_append, List.set_cons_zero, List.set_cons_succ] at H31
    refine sV rfl (py_assign rfl) (s_nil (W_seq (W_sr (sV rfl (py_move rfl) (sV rfl (py_lss rfl rfl) (sV rfl (py_move rfl) (s_grp 4 (j := 2) (want := false) (t := 49) rfl rfl rfl rfl (fun hg1 kk1 => s_val (wgE rfl rfl rfl hg1) rfl rfl (py_loadS Tryz.underlying47 rfl Tryz.sizeOf47 rfl rfl (At.whole (H31.box 8 rfl))) (s_val (wgE rfl rfl rfl hg1) rfl rfl (py_loadS Tryz.underlying47 rfl Tryz.sizeOf47 rfl rfl (At.whole (H31.box 3 rfl))) (s_callv (wgE rfl rfl rfl hg1) rfl rfl (pc_call Tryz.func26 rfl Tryz_nm26 rfl) (Tryz_w_eqBytesResult (by assumption) (H31.msees 7 rfl) (by assumption) (H31.sees 8 rfl)) (fun w18 e18 => s_val (wgE rfl rfl rfl hg1) rfl rfl (py_not rfl) (kk1 _ _ (kx rfl (kx rfl (kx rfl (kx rfl k0)))) rfl (Ext.refl.trans e18)))))) (fun w17 e17 => ?_))))))))
    have H32 := H31.to e17
    refine sV rfl (py_bor rfl rfl) (s_nil (W_if rfl (fun c4 => ?_) (fun c4 => ?_)))
    ·exact absurd c4 (by simp; omega)
    ·refine W_skip (W_sr (sV rfl (py_assign rfl) (s_nil (W_sr (sV rfl (py_loadS Tryz.underlying47 rfl Tryz.sizeOf47 rfl rfl (At.whole (H32.box 8 rfl))) (sV rfl (py_move rfl) (s_call (wn rfl) rfl rfl (pc_call Tryz.func27 rfl Tryz_nm27 rfl) (Tryz_w_markBytesResult (H32.mine 7 rfl) (H32.nodup1 (i := 7) rfl) (by constructor <;> omega)) (fun v10 w19 r10 => ?_))))))))
     obtain ⟨rfl, mx2, mm2, ml2, mk1⟩ := r10
     obtain ⟨fp7, H33⟩ := H32.mut 7 rfl mm2
     try dsimp only [List.nil_append, List.cons_append, List.set_cons_zero, List.set_cons_succ] at H33
     refine sV rfl (py_assign rfl) (s_nil (W_sr (sV rfl (py_assign rfl) (s_nil (W_sr (sV rfl (py_loadS Tryz.underlying47 rfl Tryz.sizeOf47 rfl rfl (At.whole (H33.box 8 rfl))) (sV rfl (py_move rfl) (s_call (wn rfl) rfl rfl (pc_call Tryz.func28 rfl Tryz_nm28 rfl) (Tryz_w_heldBytesResult (H33.msees 7 rfl) (by constructor <;> omega) (by assumption)) (fun v11 w20 r11 => ?_)))))))))
     obtain ⟨e20, rfl⟩ := r11
     have H34 := H33.to e20
     refine sV rfl (py_assign rfl) (s_nil (W_seq (W_sr (sV rfl (py_move rfl) (sV rfl (py_lss rfl rfl) (s_nil (W_ifd rfl (fun c5 => ?_) (fun c5 => ?_))))))))
     ·exact absurd c5 (by omega)
     ·refine W_skip (W_seq (W_sr (sV rfl (py_move rfl) (sV rfl (py_move rfl) (sV rfl (py_neq rfl rfl) (s_nil (W_ifd rfl (fun c6 => ?_) (fun c6 => ?_))))))))
      ·exact absurd c6 (by omega)
      ·refine W_skip (W_sr (sV rfl (py_loadS Tryz.underlying28 rfl Tryz.sizeOf28 rfl rfl (At.whole (H34.box 0 rfl))) (s_call (wn rfl) rfl rfl (pc_call Tryz.func17 rfl Tryz_nm17 rfl) (Tryz_laws_toWorld (by assumption) (H34.sees 0 rfl) (H34.sees 1 rfl) (H34.sees 2 rfl) (by assumption)) (fun v12 w21 r12 => ?_))))
       obtain ⟨e21, sa12, sk12, sa13, sk13, sa14, sk14, rfl, r12⟩ := r12
       obtain ⟨fp8, H35⟩ := H34.res e21 r12
       have H36 := H35.share 10 rfl
       obtain ⟨sf9, sf10, sf11, sq5, sok5, so9, so10, so11⟩ := own_WldC (H36.seen 13 rfl)
       have H38 := H36.look1 13 rfl so9 (fun b hb => by rw [sq5]; simp [hb])
       have H39 := H38.look1 13 rfl so10 (fun b hb => by rw [sq5]; simp [hb])
       have H40 := H39.look1 13 rfl so11 (fun b hb => by rw [sq5]; simp [hb])
       refine sV rfl (py_move rfl) (sV rfl (py_move rfl) (s_call (wn rfl) rfl rfl (pc_call Tryz.func25 rfl Tryz_nm25 rfl) (Tryz_impl_WholeShare (by assumption) (H40.sees 14 rfl) (H40.sees 15 rfl) (H40.sees 16 rfl) (by first | assumption | omega)) (fun v13 w22 r13 => ?_)))
       obtain ⟨e22, sa15, sk15, rfl, r13⟩ := r13
       obtain ⟨fp9, H41⟩ := H40.res e22 r13
       have H42 := H41.share 11 rfl
       obtain ⟨sf12, sq6, sok6, so12⟩ := own_BytesResultC (H42.seen 17 rfl)
       have H44 := H42.look1 17 rfl so12 (fun b hb => by rw [sq6]; simp [hb])
       refine s_var (wn rfl) rfl Tryz.zeroValue47 H44 (fun b5 w23 e23 g5 H45 => ?_)
       refine s_stoS (wn rfl) Tryz.sizeOf47 rfl rfl rfl rfl H45 12 rfl rfl (fun w24 e24 H46 => ?_)
       dsimp only [List.nil_append, List.cons_append, List.set_cons_zero, List.set_cons_succ, layL] at H46
       refine s_nil (W_seq (W_sr (sV rfl (py_loadS Tryz.underlying47 rfl Tryz.sizeOf47 rfl rfl (At.whole (H46.box 12 rfl))) (sV rfl (py_loadS Tryz.underlying47 rfl Tryz.sizeOf47 rfl rfl (At.whole (H46.box 3 rfl))) (s_call (wn rfl) rfl rfl (pc_call Tryz.func26 rfl Tryz_nm26 rfl) (Tryz_w_eqBytesResult (by assumption) (H46.sees 18 rfl) (by assumption) (H46.sees 8 rfl)) (fun v14 w25 r14 => ?_))))))
       obtain ⟨e25, rfl⟩ := r14
       have H47 := H46.to e25
       refine sV rfl (py_not rfl) (s_nil (W_if rfl (fun c7 => ?_) (fun c7 => ?_)))
       ·exfalso; simp_all
       ·refine W_skip (W_sr (sV rfl (py_assign rfl) (s_nil (W_sr (sV rfl (py_loadS Tryz.underlying47 rfl Tryz.sizeOf47 rfl rfl (At.whole (H47.box 8 rfl))) (sV rfl (py_move rfl) (s_call (wn rfl) rfl rfl (pc_call Tryz.func28 rfl Tryz_nm28 rfl) (Tryz_w_heldBytesResult (H47.msees 7 rfl) (by constructor <;> omega) (by assumption)) (fun v15 w26 r15 => ?_))))))))
        obtain ⟨e26, rfl⟩ := r15
        have H48 := H47.to e26
        refine sV rfl (py_assign rfl) (s_nil (W_seq (W_sr (sV rfl (py_move rfl) (sV rfl (py_lss rfl rfl) (s_nil (W_ifd rfl (fun c8 => ?_) (fun c8 => ?_))))))))
        ·exact absurd c8 (by omega)
        ·refine W_skip (W_seq (W_sr (sV rfl (py_move rfl) (sV rfl (py_move rfl) (sV rfl (py_neq rfl rfl) (s_nil (W_ifd rfl (fun c9 => ?_) (fun c9 => ?_))))))))
         ·exact absurd c9 (by omega)
         ·refine W_skip (W_sr (sV rfl (py_assign rfl) (s_nil (W_ret (hQ _ _ (fin1 Tryz.results4 rfl ?_))))))
          exact ⟨H48.ext, rfl⟩
theorem Tryz_laws_FnExactNotReady {w : World} {z : Wld} {zA9 : Option Addr} {zC9 : Nat} {zA10 : Option Addr} {zC10 : Nat} {zA11 : Option Addr} {zC11 : Nat} {g : Int} (zK : z.Ok) (zS9 : Sees w [.slice zA9 z.Groups.length zC9] z.Groups) (zS10 : Sees w [.slice zA10 z.On.length zC10] z.On) (zS11 : Sees w [.slice zA11 z.Tapes.length zC11] z.Tapes) : Ret Tryz.prog 5 #[z.val zA9 zC9 zA10 zC10 zA11 zC11, .int .i64 g] w fun v w' => Ext No w w' ∧ (v = .bool true) := by
 have zK2 := zK
 unfold Wld.Ok Shape.Ok at zK2
 try unfold I64ok at zK2
 try unfold maxLen at zK2
 have zL9 := sees_len zS9
 unfold maxLen at zL9
 obtain ⟨zF9, zO9⟩ := zS9
 have zL10 := sees_len zS10
 unfold maxLen at zL10
 obtain ⟨zF10, zO10⟩ := zS10
 have zL11 := sees_len zS11
 unfold maxLen at zL11
 obtain ⟨zF11, zO11⟩ := zS11
 refine ret_Q (vs := [z.val zA9 zC9 zA10 zC10 zA11 zC11, .int .i64 g]) Tryz.func5 rfl Tryz.ntmps5 rfl (fun Q hQ hN => ?_)
 have H0 := Sep.start (w := w) (F := [seen false [.slice zA9 z.Groups.length zC9] z.Groups zF9, seen false [.slice zA10 z.On.length zC10] z.On zF10, seen false [.slice zA11 z.Tapes.length zC11] z.Tapes zF11]) (all_cons zO9 (all_cons zO10 (all_cons zO11 (by simp))))
 refine W_sr (s_box (wn rfl) rfl rfl H0 (fun b1 w1 e1 g1 H1 => ?_))
 refine sV rfl (py_assign rfl) (s_nil (W_sr (sV rfl (py_assign rfl) (s_nil (W_sr (sV rfl (py_loadS Tryz.underlying28 rfl Tryz.sizeOf28 rfl rfl (At.whole (H1.box 0 rfl))) (sV rfl (py_move rfl) (s_call (wn rfl) rfl rfl (pc_call Tryz.func15 rfl Tryz_nm15 rfl) (Tryz_laws_szWorld (by assumption) (H1.sees 0 rfl) (H1.sees 1 rfl) (H1.sees 2 rfl) (by omega)) (fun v1 w2 r1 => ?_)))))))))
 obtain ⟨e2, rfl⟩ := r1
 have H2 := H1.to e2
 refine sV rfl (py_assign rfl) (s_nil (W_seq (W_sr (sV rfl (py_move rfl) (sV rfl (py_lss rfl rfl) (s_nil (W_ifd rfl (fun c1 => ?_) (fun c1 => ?_))))))))
 ·refine W_sr (sV rfl (py_assign rfl) (s_nil (W_ret (hQ _ _ (fin1 Tryz.results5 rfl ?_)))))
  exact ⟨H2.ext, rfl⟩
 ·refine W_skip (W_seq ?_)
  have hsz : szWld z ≤ 1048576 := by omega
  have hmk := mkWld_le z
  have cnt := notReady_len2 (z := z) (g := g)
  have hOk := notReady_Ok (z := z) (g := g)
  refine W_reg (sV rfl (py_loadS Tryz.underlying28 rfl Tryz.sizeOf28 rfl rfl (At.whole (H2.box 0 rfl))) (s_call (wn rfl) rfl rfl (pc_call Tryz.func17 rfl Tryz_nm17 rfl) (Tryz_laws_toWorld (by assumption) (H2.sees 0 rfl) (H2.sees 1 rfl) (H2.sees 2 rfl) (by assumption)) (fun v2 w3 r2 => ?_)))
  obtain ⟨e3, sa1, sk1, sa2, sk2, sa3, sk3, rfl, r2⟩ := r2
  obtain ⟨fp1, H3⟩ := H2.res e3 r2
  have H4 := H3.share 1 rfl
  obtain ⟨sf1, sf2, sf3, sq1, sok1, so1, so2, so3⟩ := own_WldC (H4.seen 3 rfl)
  have H6 := H4.look1 3 rfl so1 (fun b hb => by rw [sq1]; simp [hb])
  have H7 := H6.look1 3 rfl so2 (fun b hb => by rw [sq1]; simp [hb])
  have H8 := H7.look1 3 rfl so3 (fun b hb => by rw [sq1]; simp [hb])
  refine sV rfl (py_move rfl) (s_call (wn rfl) rfl rfl (pc_call Tryz.func29 rfl Tryz_nm29 rfl) (Tryz_spec_NotReady (by assumption) (H8.sees 4 rfl) (H8.sees 5 rfl) (H8.sees 6 rfl) (by first | assumption | omega)) (fun v3 w4 r3 => ?_))
  obtain ⟨e4, sa4, sk4, rfl, r3⟩ := r3
  obtain ⟨fp2, H9⟩ := H8.res e4 r3
  have H10 := H9.share 2 rfl
  obtain ⟨sf4, sq2, sok2, so4⟩ := own_IntsResultC (H10.seen 7 rfl)
  have H12 := H10.look1 7 rfl so4 (fun b hb => by rw [sq2]; simp [hb])
  refine s_var (wn rfl) rfl Tryz.zeroValue52 H12 (fun b2 w5 e5 g2 H13 => ?_)
  refine s_stoS (wn rfl) Tryz.sizeOf52 rfl rfl rfl rfl H13 3 rfl rfl (fun w6 e6 H14 => ?_)
  dsimp only [List.nil_append, List.cons_append, List.set_cons_zero, List.set_cons_succ, layL] at H14
  refine s_nil (W_sr (sV rfl (py_loadS Tryz.underlying28 rfl Tryz.sizeOf28 rfl rfl (At.whole (H14.box 0 rfl))) (s_call (wn rfl) rfl rfl (pc_call Tryz.func17 rfl Tryz_nm17 rfl) (Tryz_laws_toWorld (by assumption) (H14.sees 0 rfl) (H14.sees 1 rfl) (H14.sees 2 rfl) (by assumption)) (fun v4 w7 r4 => ?_))))
  obtain ⟨e7, sa5, sk5, sa6, sk6, sa7, sk7, rfl, r4⟩ := r4
  obtain ⟨fp3, H15⟩ := H14.res e7 r4
  refine s_var (wn rfl) rfl Tryz.zeroValue38 H15 (fun b3 w8 e8 g3 H16 => ?_)
  refine s_stoS (wn rfl) Tryz.sizeOf38 rfl rfl rfl rfl H16 5 rfl rfl (fun w9 e9 H17 => ?_)
  dsimp only [List.nil_append, List.cons_append, List.set_cons_zero, List.set_cons_succ, layL] at H17
  refine s_nil (W_sr (sV rfl (py_loadS Tryz.underlying38 rfl Tryz.sizeOf38 rfl rfl (At.whole (H17.box 5 rfl))) (sV rfl (py_move rfl) (s_call (wn rfl) rfl rfl (pc_call Tryz.func30 rfl Tryz_nm30 rfl) (Tryz_impl_NotReady (by assumption) (Wld.see9 (H17.mine 4 rfl)) (Wld.see10 (H17.mine 4 rfl)) (Wld.see11 (H17.mine 4 rfl)) (by first | assumption | omega)) (fun v5 w10 r5 => ?_)))))
  obtain ⟨e10, sa8, sk8, rfl, r5⟩ := r5
  obtain ⟨fp4, H18⟩ := H17.res e10 r5
  obtain ⟨sf5, sq3, sok3, so5⟩ := own_IntsResultC (H18.mine 6 rfl)
  have H19 := H18.part 6 rfl [mine [.slice _ (notReadyF z g).Lst.length _] (notReadyF z g).Lst sf5] (all_cons so5 (by simp)) (by simp [blocks, mine, sq3])
  try dsimp only [List.nil_append, List.cons_append, List.set_cons_zero, List.set_cons_succ] at H19
  refine s_var (wn rfl) rfl Tryz.zeroValue52 H19 (fun b4 w11 e11 g4 H20 => ?_)
  refine s_stoS (wn rfl) Tryz.sizeOf52 rfl rfl rfl rfl H20 8 rfl rfl (fun w12 e12 H21 => ?_)
  dsimp only [List.nil_append, List.cons_append, List.set_cons_zero, List.set_cons_succ, layL] at H21
  refine s_nil (W_seq (W_sr (sV rfl (py_loadS Tryz.underlying52 rfl Tryz.sizeOf52 rfl rfl (At.whole (H21.box 8 rfl))) (sV rfl (py_loadS Tryz.underlying52 rfl Tryz.sizeOf52 rfl rfl (At.whole (H21.box 3 rfl))) (s_call (wn rfl) rfl rfl (pc_call Tryz.func31 rfl Tryz_nm31 rfl) (Tryz_w_eqIntsResult (by assumption) (H21.msees 7 rfl) (by assumption) (H21.sees 8 rfl)) (fun v6 w13 r6 => ?_))))))
  obtain ⟨e13, rfl⟩ := r6
  have H22 := H21.to e13
  refine sV rfl (py_not rfl) (s_nil (W_if rfl (fun c2 => ?_) (fun c2 => ?_)))
  ·exfalso; simp_all
  ·refine W_skip (W_seq (W_seq (W_drw (S := Ext No _) [(0, true), (1, true), (2, false), (3, false), (4, false)] (by kernel_rfl) (by kernel_rfl) (by kernel_rfl) rfl (fun _ => Ext.refl.drawn _) (fun q1 => ?_))))
   have H23 := H22.drawn q1
   refine dV rfl rfl (fun zw hx => py_loadS Tryz.underlying38 rfl Tryz.sizeOf38 rfl rfl (At.whole (hx.heap (H23.box 5 rfl)))) (dV rfl rfl (fun zw hx => py_loadS Tryz.underlying28 rfl Tryz.sizeOf28 rfl rfl (At.whole (hx.heap (H23.box 0 rfl)))) (d_call rfl (wn rfl) rfl rfl (pc_call Tryz.func17 rfl Tryz_nm17 rfl) (Tryz_laws_toWorld (by assumption) (H23.sees 0 rfl) (H23.sees 1 rfl) (H23.sees 2 rfl) (by assumption)) (fun hS _ _ r _ => hS.trans r.1.no) (fun v7 w14 r7 => ?_)))
   obtain ⟨e14, sa9, sk9, sa10, sk10, sa11, sk11, rfl, r7⟩ := r7
   obtain ⟨fp5, H24⟩ := H23.res e14 r7
   have H25 := H24.share 9 rfl
   obtain ⟨sf6, sf7, sf8, sq4, sok4, so6, so7, so8⟩ := own_WldC (H25.seen 9 rfl)
   have H27 := H25.look1 9 rfl so6 (fun b hb => by rw [sq4]; simp [hb])
   have H28 := H27.look1 9 rfl so7 (fun b hb => by rw [sq4]; simp [hb])
   have H29 := H28.look1 9 rfl so8 (fun b hb => by rw [sq4]; simp [hb])
   refine d_call rfl (wn rfl) rfl rfl (pc_call Tryz.func20 rfl Tryz_nm20 rfl) (Tryz_laws_eqWorld (by assumption) (Wld.see9 (H29.mine 4 rfl)) (Wld.see10 (H29.mine 4 rfl)) (Wld.see11 (H29.mine 4 rfl)) (by assumption) (H29.sees 10 rfl) (H29.sees 11 rfl) (H29.sees 12 rfl)) (fun hS _ _ r _ => hS.trans r.1.no) (fun v8 w15 r8 => ?_)
   obtain ⟨e15, rfl⟩ := r8
   have H30 := H29.to e15
   refine d_end rfl (wn rfl) rfl rfl (py_not rfl) (d_nil (W_if rfl (fun c3 => ?_) (fun c3 => ?_)))
   ·exfalso; simp_all
   ·refine W_skip (W_sr (sV rfl (py_assign rfl) (s_nil (W_sr (sV rfl (py_loadS Tryz.underlying38 rfl Tryz.sizeOf38 rfl rfl (At.whole (H30.box 5 rfl))) (sV rfl (py_move rfl) (s_call (wn rfl) rfl rfl (pc_call Tryz.func21 rfl Tryz_nm21 rfl) (Tryz_laws_markWorld (by assumption) (H30.mine 4 rfl) (H30.nodup1 (i := 4) rfl) (by constructor <;> omega)) (fun v9 w16 r9 => ?_))))))))
    obtain ⟨rfl, mx1, mm1, ml1⟩ := r9
    obtain ⟨fp6, H31⟩ := H30.mut 4 rfl mm1
    try dsimp only [List.nil_append, List.cons_append, List.set_cons_zero, List.set_cons_succ] at H31
    refine sV rfl (py_assign rfl) (s_nil (W_seq (W_sr (sV rfl (py_move rfl) (sV rfl (py_lss rfl rfl) (sV rfl (py_move rfl) (s_grp 4 (j := 2) (want := false) (t := 45) rfl rfl rfl rfl (fun hg1 kk1 => s_val (wgE rfl rfl rfl hg1) rfl rfl (py_loadS Tryz.underlying52 rfl Tryz.sizeOf52 rfl rfl (At.whole (H31.box 8 rfl))) (s_val (wgE rfl rfl rfl hg1) rfl rfl (py_loadS Tryz.underlying52 rfl Tryz.sizeOf52 rfl rfl (At.whole (H31.box 3 rfl))) (s_callv (wgE rfl rfl rfl hg1) rfl rfl (pc_call Tryz.func31 rfl Tryz_nm31 rfl) (Tryz_w_eqIntsResult (by assumption) (H31.msees 7 rfl) (by assumption) (H31.sees 8 rfl)) (fun w18 e18 => s_val (wgE rfl rfl rfl hg1) rfl rfl (py_not rfl) (kk1 _ _ (kx rfl (kx rfl (kx rfl (kx rfl k0)))) rfl (Ext.refl.trans e18)))))) (fun w17 e17 => ?_))))))))
    have H32 := H31.to e17
    refine sV rfl (py_bor rfl rfl) (s_nil (W_if rfl (fun c4 => ?_) (fun c4 => ?_)))
    ·exact absurd c4 (by simp; omega)
    ·refine W_skip (W_sr (sV rfl (py_assign rfl) (s_nil (W_sr (sV rfl (py_loadS Tryz.underlying52 rfl Tryz.sizeOf52 rfl rfl (At.whole (H32.box 8 rfl))) (sV rfl (py_move rfl) (s_call (wn rfl) rfl rfl (pc_call Tryz.func32 rfl Tryz_nm32 rfl) (Tryz_w_markIntsResult (H32.mine 7 rfl) (H32.nodup1 (i := 7) rfl) (by constructor <;> omega)) (fun v10 w19 r10 => ?_))))))))
     obtain ⟨rfl, mx2, mm2, ml2, mk1⟩ := r10
     obtain ⟨fp7, H33⟩ := H32.mut 7 rfl mm2
     try dsimp only [List.nil_append, List.cons_append, List.set_cons_zero, List.set_cons_succ] at H33
     refine sV rfl (py_assign rfl) (s_nil (W_sr (sV rfl (py_assign rfl) (s_nil (W_sr (sV rfl (py_loadS Tryz.underlying52 rfl Tryz.sizeOf52 rfl rfl (At.whole (H33.box 8 rfl))) (sV rfl (py_move rfl) (s_call (wn rfl) rfl rfl (pc_call Tryz.func33 rfl Tryz_nm33 rfl) (Tryz_w_heldIntsResult (H33.msees 7 rfl) (by constructor <;> omega) (by assumption)) (fun v11 w20 r11 => ?_)))))))))
     obtain ⟨e20, rfl⟩ := r11
     have H34 := H33.to e20
     refine sV rfl (py_assign rfl) (s_nil (W_seq (W_sr (sV rfl (py_move rfl) (sV rfl (py_lss rfl rfl) (s_nil (W_ifd rfl (fun c5 => ?_) (fun c5 => ?_))))))))
     ·exact absurd c5 (by omega)
     ·refine W_skip (W_seq (W_sr (sV rfl (py_move rfl) (sV rfl (py_move rfl) (sV rfl (py_neq rfl rfl) (s_nil (W_ifd rfl (fun c6 => ?_) (fun c6 => ?_))))))))
      ·exact absurd c6 (by omega)
      ·refine W_skip (W_sr (sV rfl (py_loadS Tryz.underlying28 rfl Tryz.sizeOf28 rfl rfl (At.whole (H34.box 0 rfl))) (s_call (wn rfl) rfl rfl (pc_call Tryz.func17 rfl Tryz_nm17 rfl) (Tryz_laws_toWorld (by assumption) (H34.sees 0 rfl) (H34.sees 1 rfl) (H34.sees 2 rfl) (by assumption)) (fun v12 w21 r12 => ?_))))
       obtain ⟨e21, sa12, sk12, sa13, sk13, sa14, sk14, rfl, r12⟩ := r12
       obtain ⟨fp8, H35⟩ := H34.res e21 r12
       have H36 := H35.share 10 rfl
       obtain ⟨sf9, sf10, sf11, sq5, sok5, so9, so10, so11⟩ := own_WldC (H36.seen 13 rfl)
       have H38 := H36.look1 13 rfl so9 (fun b hb => by rw [sq5]; simp [hb])
       have H39 := H38.look1 13 rfl so10 (fun b hb => by rw [sq5]; simp [hb])
       have H40 := H39.look1 13 rfl so11 (fun b hb => by rw [sq5]; simp [hb])
       refine sV rfl (py_move rfl) (s_call (wn rfl) rfl rfl (pc_call Tryz.func30 rfl Tryz_nm30 rfl) (Tryz_impl_NotReady (by assumption) (H40.sees 14 rfl) (H40.sees 15 rfl) (H40.sees 16 rfl) (by first | assumption | omega)) (fun v13 w22 r13 => ?_))
       obtain ⟨e22, sa15, sk15, rfl, r13⟩ := r13
       obtain ⟨fp9, H41⟩ := H40.res e22 r13
       have H42 := H41.share 11 rfl
       obtain ⟨sf12, sq6, sok6, so12⟩ := own_IntsResultC (H42.seen 17 rfl)
       have H44 := H42.look1 17 rfl so12 (fun b hb => by rw [sq6]; simp [hb])
       refine s_var (wn rfl) rfl Tryz.zeroValue52 H44 (fun b5 w23 e23 g5 H45 => ?_)
       refine s_stoS (wn rfl) Tryz.sizeOf52 rfl rfl rfl rfl H45 12 rfl rfl (fun w24 e24 H46 => ?_)
       dsimp only [List.nil_append, List.cons_append, List.set_cons_zero, List.set_cons_succ, layL] at H46
       refine s_nil (W_seq (W_sr (sV rfl (py_loadS Tryz.underlying52 rfl Tryz.sizeOf52 rfl rfl (At.whole (H46.box 12 rfl))) (sV rfl (py_loadS Tryz.underlying52 rfl Tryz.sizeOf52 rfl rfl (At.whole (H46.box 3 rfl))) (s_call (wn rfl) rfl rfl (pc_call Tryz.func31 rfl Tryz_nm31 rfl) (Tryz_w_eqIntsResult (by assumption) (H46.sees 18 rfl) (by assumption) (H46.sees 8 rfl)) (fun v14 w25 r14 => ?_))))))
       obtain ⟨e25, rfl⟩ := r14
       have H47 := H46.to e25
       refine sV rfl (py_not rfl) (s_nil (W_if rfl (fun c7 => ?_) (fun c7 => ?_)))
       ·exfalso; simp_all
       ·refine W_skip (W_sr (sV rfl (py_assign rfl) (s_nil (W_sr (sV rfl (py_loadS Tryz.underlying52 rfl Tryz.sizeOf52 rfl rfl (At.whole (H47.box 8 rfl))) (sV rfl (py_move rfl) (s_call (wn rfl) rfl rfl (pc_call Tryz.func33 rfl Tryz_nm33 rfl) (Tryz_w_heldIntsResult (H47.msees 7 rfl) (by constructor <;> omega) (by assumption)) (fun v15 w26 r15 => ?_))))))))
        obtain ⟨e26, rfl⟩ := r15
        have H48 := H47.to e26
        refine sV rfl (py_assign rfl) (s_nil (W_seq (W_sr (sV rfl (py_move rfl) (sV rfl (py_lss rfl rfl) (s_nil (W_ifd rfl (fun c8 => ?_) (fun c8 => ?_))))))))
        ·exact absurd c8 (by omega)
        ·refine W_skip (W_seq (W_sr (sV rfl (py_move rfl) (sV rfl (py_move rfl) (sV rfl (py_neq rfl rfl) (s_nil (W_ifd rfl (fun c9 => ?_) (fun c9 => ?_))))))))
         ·exact absurd c9 (by omega)
         ·refine W_skip (W_sr (sV rfl (py_assign rfl) (s_nil (W_ret (hQ _ _ (fin1 Tryz.results5 rfl ?_))))))
          exact ⟨H48.ext, rfl⟩
end Go.Wk
