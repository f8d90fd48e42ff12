/-
  Laws on walking, and the functions walked, each once: what this claim comes to.
-/
import Derived.Test.YtceeelcijjkefaaGreatZa3
set_option linter.unusedVariables false
set_option linter.unusedSimpArgs false
namespace Go.Wk
open Go.Proofs Rp
set_option maxRecDepth 10000
theorem Tryz_clone_i {w : World} {xs : List Int} {xsA : Option Addr} {xsC : Nat} (xsS : Sees w [.slice xsA xs.length xsC] xs) (hl : xs.length ≤ 100000000) : Ret Tryz.prog 168 #[.slice xsA xs.length xsC] w fun v w' => Ext No w w' ∧ (Res w w' [v] xs) := by
 have xsL := sees_len xsS
 unfold maxLen at xsL
 obtain ⟨xsF, xsO⟩ := xsS
 refine ret_Q (vs := [.slice xsA xs.length xsC]) Tryz.func168 rfl Tryz.ntmps168 rfl (fun Q hQ hN => ?_)
 have H0 := Sep.start (w := w) (F := [seen false [.slice xsA xs.length xsC] xs xsF]) (all_cons xsO (by simp))
 refine W_sr (sV rfl (py_assign rfl) (s_nil (W_seq (W_sr (sV rfl (py_move rfl) (sV rfl (py_slnil Tryz.underlying25 rfl rfl) (s_nil (W_if rfl (fun c1 => ?_) (fun c1 => ?_)))))))))
 ·refine W_sr (sV rfl (py_assign rfl) (s_nil (W_ret (hQ _ _ (fin1 Tryz.results168 rfl ?_)))))
  have e : xs = [] := own_none xsO c1
  exact ⟨H0.ext, e ▸ ⟨[], .inr (.inl ⟨rfl, rfl, rfl⟩), .nil, by simp⟩⟩
 ·refine W_skip (W_sr (s_lit0 (α := Int) (wn rfl) rfl Tryz.underlying25 Tryz_ty2 H0 (fun b1 w1 e1 g1 H1 => ?_)))
  refine sV rfl (py_move rfl) (s_appF (wn rfl) rfl Tryz.underlying25 Tryz_ty2 rfl rfl rfl H1 0 rfl (H1.seen 0 rfl) (by (try simp only [List.length_nil]); unfold maxLen; omega) (by (try simp only [List.length_nil]); omega) (fun v1 w2 fp1 H2 => ?_))
  refine sV rfl (py_assign rfl) (s_nil (W_ret (hQ _ _ (fin1 Tryz.results168 rfl ?_))))
  exact ⟨H2.ext, by
   have h := H2.out 0 rfl
   rwa [List.nil_append] at h⟩
theorem Tryz_clone_b {w : World} {xs : List UInt8} {xsA : Option Addr} {xsC : Nat} (xsS : Sees w [.slice xsA xs.length xsC] xs) (hl : xs.length ≤ 100000000) : Ret Tryz.prog 197 #[.slice xsA xs.length xsC] w fun v w' => Ext No w w' ∧ (Res w w' [v] xs) := by
 have xsL := sees_len xsS
 unfold maxLen at xsL
 obtain ⟨xsF, xsO⟩ := xsS
 refine ret_Q (vs := [.slice xsA xs.length xsC]) Tryz.func197 rfl Tryz.ntmps197 rfl (fun Q hQ hN => ?_)
 have H0 := Sep.start (w := w) (F := [seen false [.slice xsA xs.length xsC] xs xsF]) (all_cons xsO (by simp))
 refine W_sr (sV rfl (py_assign rfl) (s_nil (W_seq (W_sr (sV rfl (py_move rfl) (sV rfl (py_slnil Tryz.underlying61 rfl rfl) (s_nil (W_if rfl (fun c1 => ?_) (fun c1 => ?_)))))))))
 ·refine W_sr (sV rfl (py_assign rfl) (s_nil (W_ret (hQ _ _ (fin1 Tryz.results197 rfl ?_)))))
  have e : xs = [] := own_none xsO c1
  exact ⟨H0.ext, e ▸ ⟨[], .inr (.inl ⟨rfl, rfl, rfl⟩), .nil, by simp⟩⟩
 ·refine W_skip (W_sr (s_lit0 (α := UInt8) (wn rfl) rfl Tryz.underlying61 Tryz_ty5 H0 (fun b1 w1 e1 g1 H1 => ?_)))
  refine sV rfl (py_move rfl) (s_appF (wn rfl) rfl Tryz.underlying61 Tryz_ty5 rfl rfl rfl H1 0 rfl (H1.seen 0 rfl) (by (try simp only [List.length_nil]); unfold maxLen; omega) (by (try simp only [List.length_nil]); omega) (fun v1 w2 fp1 H2 => ?_))
  refine sV rfl (py_assign rfl) (s_nil (W_ret (hQ _ _ (fin1 Tryz.results197 rfl ?_))))
  exact ⟨H2.ext, by
   have h := H2.out 0 rfl
   rwa [List.nil_append] at h⟩
theorem Tryz_impl_cloneRec {w : World} {r : Rec} {rA6 : Option Addr} {rC6 : Nat} {rA7 : Option Addr} {rC7 : Nat} {rA8 : Option Addr} {rC8 : Nat} (rK : r.Ok) (rS6 : Sees w [.slice rA6 r.Rows.length rC6] r.Rows) (rS7 : Sees w [.slice rA7 r.Data.length rC7] r.Data) (rS8 : Sees w [.slice rA8 r.Delta.length rC8] r.Delta) (hb : szRec r ≤ 1048576) : Ret Tryz.prog 131 #[r.val rA6 rC6 rA7 rC7 rA8 rC8] w fun v w' => Ext No w w' ∧ (∃ A6 C6 A7 C7 A8 C8, v = r.val A6 C6 A7 C7 A8 C8 ∧ Res w w' [.int .i64 r.Kind, .int .i64 r.Seq, .string r.Name, .int .i64 r.Length, .int .i64 r.Group, .int .i64 r.Row, .slice A6 r.Rows.length C6, .slice A7 r.Data.length C7, .slice A8 r.Delta.length C8] r) := by
 have rK2 := rK
 unfold Rec.Ok at rK2
 try unfold I64ok at rK2
 try unfold maxLen at rK2
 have rN2 : r.Name.size ≤ maxLen := by unfold maxLen; omega
 have rL6 := sees_len rS6
 unfold maxLen at rL6
 obtain ⟨rF6, rO6⟩ := rS6
 have rL7 := sees_len rS7
 unfold maxLen at rL7
 obtain ⟨rF7, rO7⟩ := rS7
 have rL8 := sees_len rS8
 unfold maxLen at rL8
 obtain ⟨rF8, rO8⟩ := rS8
 unfold szRec at hb
 refine ret_Q (vs := [r.val rA6 rC6 rA7 rC7 rA8 rC8]) Tryz.func131 rfl Tryz.ntmps131 rfl (fun Q hQ hN => ?_)
 have H0 := Sep.start (w := w) (F := [seen false [.slice rA6 r.Rows.length rC6] r.Rows rF6, seen false [.slice rA7 r.Data.length rC7] r.Data rF7, seen false [.slice rA8 r.Delta.length rC8] r.Delta rF8]) (all_cons rO6 (all_cons rO7 (all_cons rO8 (by simp))))
 refine W_sr (s_box (wn rfl) rfl rfl H0 (fun b1 w1 e1 g1 H1 => ?_))
 refine s_var (wn rfl) rfl Tryz.zeroValue66 H1 (fun b2 w2 e2 g2 H2 => ?_)
 refine s_nil (W_seq (W_drw (S := Ext (· ∈ [b1]) _) [(0, true), (3, true), (6, true), (1089, false), (1, false), (1032, false), (2, false), (1020, false), (4, false), (1009, false), (5, false), (7, false), (9, true), (8, false), (10, false), (11, true), (12, false), (13, true), (14, false), (7, false), (9, true), (5, false), (8, false), (10, false), (11, true), (12, false), (13, true), (14, false), (7, false), (4, false), (9, true), (5, false), (8, false), (10, false), (11, true), (12, false), (13, true), (14, false), (1032, false), (4, false), (1020, false), (2, false), (1009, false), (5, false), (7, false), (9, true), (8, false), (10, false), (11, true), (12, false), (13, true), (14, false), (7, false), (9, true), (5, false), (8, false), (10, false), (11, true), (12, false), (13, true), (14, false), (7, false), (2, false), (9, true), (5, false), (8, false), (10, false), (11, true), (12, false), (13, true), (14, false), (7, false), (1010, false), (2, false), (4, false), (9, true), (5, false), (8, false), (10, false), (11, true), (12, false), (13, true), (14, false), (4, false), (2, false), (9, true), (5, false), (8, false), (10, false), (11, true), (12, false), (13, true), (14, false), (1045, false), (4, false), (1032, false), (1, false), (1020, false), (2, false), (1009, false), (5, false), (7, false), (9, true), (8, false), (10, false), (11, true), (12, false), (13, true), (14, false), (7, false), (9, true), (5, false), (8, false), (10, false), (11, true), (12, false), (13, true), (14, false), (7, false), (2, false), (9, true), (5, false), (8, false), (10, false), (11, true), (12, false), (13, true), (14, false), (7, false), (1, false), (2, false), (9, true), (5, false), (8, false), (10, false), (11, true), (12, false), (13, true), (14, false), (7, false), (1022, false), (1, false), (1010, false), (2, false), (4, false), (9, true), (5, false), (8, false), (10, false), (11, true), (12, false), (13, true), (14, false), (4, false), (2, false), (9, true), (5, false), (8, false), (10, false), (11, true), (12, false), (13, true), (14, false), (4, false), (1, false), (2, false), (9, true), (5, false), (8, false), (10, false), (11, true), (12, false), (13, true), (14, false)] (by kernel_rfl) (by kernel_rfl) (by kernel_rfl) rfl (fun _ => Ext.refl.drawn _) (fun q1 => ?_)))
 have H3 := H2.drawn q1
 refine dV rfl rfl (fun zw hx => py_field Tryz.underlying66 rfl Tryz.sizeOf25 rfl rfl) (dV rfl rfl (fun zw hx => py_field Tryz.underlying66 rfl Tryz.sizeOf61 rfl rfl) (dV rfl rfl (fun zw hx => py_field Tryz.underlying66 rfl Tryz.sizeOf61 rfl rfl) (d_fork (l1 := [(1, false), (1032, false), (2, false), (1020, false), (4, false), (1009, false), (5, false), (7, false), (9, true), (8, false), (10, false), (11, true), (12, false), (13, true), (14, false), (7, false), (9, true), (5, false), (8, false), (10, false), (11, true), (12, false), (13, true), (14, false), (7, false), (4, false), (9, true), (5, false), (8, false), (10, false), (11, true), (12, false), (13, true), (14, false), (1032, false), (4, false), (1020, false), (2, false), (1009, false), (5, false), (7, false), (9, true), (8, false), (10, false), (11, true), (12, false), (13, true), (14, false), (7, false), (9, true), (5, false), (8, false), (10, false), (11, true), (12, false), (13, true), (14, false), (7, false), (2, false), (9, true), (5, false), (8, false), (10, false), (11, true), (12, false), (13, true), (14, false), (7, false), (1010, false), (2, false), (4, false), (9, true), (5, false), (8, false), (10, false), (11, true), (12, false), (13, true), (14, false), (4, false), (2, false), (9, true), (5, false), (8, false), (10, false), (11, true), (12, false), (13, true), (14, false)]) (l2 := [(1045, false), (4, false), (1032, false), (1, false), (1020, false), (2, false), (1009, false), (5, false), (7, false), (9, true), (8, false), (10, false), (11, true), (12, false), (13, true), (14, false), (7, false), (9, true), (5, false), (8, false), (10, false), (11, true), (12, false), (13, true), (14, false), (7, false), (2, false), (9, true), (5, false), (8, false), (10, false), (11, true), (12, false), (13, true), (14, false), (7, false), (1, false), (2, false), (9, true), (5, false), (8, false), (10, false), (11, true), (12, false), (13, true), (14, false), (7, false), (1022, false), (1, false), (1010, false), (2, false), (4, false), (9, true), (5, false), (8, false), (10, false), (11, true), (12, false), (13, true), (14, false), (4, false), (2, false), (9, true), (5, false), (8, false), (10, false), (11, true), (12, false), (13, true), (14, false), (4, false), (1, false), (2, false), (9, true), (5, false), (8, false), (10, false), (11, true), (12, false), (13, true), (14, false)]) rfl rfl rfl rfl ?_ ?_)))
 ·refine d_end rfl (wn rfl) rfl rfl (py_load Tryz.underlying25 rfl rfl (cell_atL (H3.box 0 rfl) rfl)) (d_fork (l1 := [(2, false), (1020, false), (4, false), (1009, false), (5, false), (7, false), (9, true), (8, false), (10, false), (11, true), (12, false), (13, true), (14, false), (7, false), (9, true), (5, false), (8, false), (10, false), (11, true), (12, false), (13, true), (14, false), (7, false), (4, false), (9, true), (5, false), (8, false), (10, false), (11, true), (12, false), (13, true), (14, false)]) (l2 := [(1032, false), (4, false), (1020, false), (2, false), (1009, false), (5, false), (7, false), (9, true), (8, false), (10, false), (11, true), (12, false), (13, true), (14, false), (7, false), (9, true), (5, false), (8, false), (10, false), (11, true), (12, false), (13, true), (14, false), (7, false), (2, false), (9, true), (5, false), (8, false), (10, false), (11, true), (12, false), (13, true), (14, false), (7, false), (1010, false), (2, false), (4, false), (9, true), (5, false), (8, false), (10, false), (11, true), (12, false), (13, true), (14, false), (4, false), (2, false), (9, true), (5, false), (8, false), (10, false), (11, true), (12, false), (13, true), (14, false)]) rfl rfl rfl rfl ?_ ?_)
  ·refine d_call rfl (wn rfl) rfl rfl (pc_call Tryz.func168 rfl Tryz_nm168 rfl) (Tryz_clone_i (H3.sees 0 rfl) (by omega)) (fun hS _ _ r _ => hS.trans r.1.no) (fun v1 w3 r1 => ?_)
   obtain ⟨e3, r1⟩ := r1
   obtain ⟨fp1, H4⟩ := H3.res e3 r1
   obtain ⟨a1, k1, q2⟩ := own_slice (H4.mine 2 rfl)
   cases q2
   refine d_fork (l1 := [(4, false), (1009, false), (5, false), (7, false), (9, true), (8, false), (10, false), (11, true), (12, false), (13, true), (14, false), (7, false), (9, true), (5, false), (8, false), (10, false), (11, true), (12, false), (13, true), (14, false)]) (l2 := [(7, false), (4, false), (9, true), (5, false), (8, false), (10, false), (11, true), (12, false), (13, true), (14, false)]) rfl rfl rfl rfl ?_ ?_
   ·refine d_end rfl (wn rfl) rfl rfl (py_load Tryz.underlying61 rfl rfl (cell_atL (H4.box 0 rfl) rfl)) (d_fork (l1 := [(5, false), (7, false), (9, true), (8, false), (10, false), (11, true), (12, false), (13, true), (14, false)]) (l2 := [(7, false), (9, true), (5, false), (8, false), (10, false), (11, true), (12, false), (13, true), (14, false)]) rfl rfl rfl rfl ?_ ?_)
    ·refine d_call rfl (wn rfl) rfl rfl (pc_call Tryz.func197 rfl Tryz_nm197 rfl) (Tryz_clone_b (H4.sees 1 rfl) (by omega)) (fun hS _ _ r _ => hS.trans r.1.no) (fun v2 w4 r2 => ?_)
     obtain ⟨e4, r2⟩ := r2
     obtain ⟨fp2, H5⟩ := H4.res e4 r2
     obtain ⟨a2, k2, q3⟩ := own_slice (H5.mine 3 rfl)
     cases q3
     refine d_end rfl (wn rfl) rfl rfl (py_load Tryz.underlying61 rfl rfl (cell_atL (H5.box 0 rfl) rfl)) (dV rfl rfl (fun zw hx => py_field Tryz.underlying66 rfl Tryz.sizeOf25 rfl rfl) (d_call rfl (wn rfl) rfl rfl (pc_call Tryz.func197 rfl Tryz_nm197 rfl) (Tryz_clone_b (H5.sees 2 rfl) (by omega)) (fun hS _ _ r _ => hS.trans r.1.no) (fun v3 w5 r3 => ?_)))
     obtain ⟨e5, r3⟩ := r3
     obtain ⟨fp3, H6⟩ := H5.res e5 r3
     obtain ⟨a3, k3, q4⟩ := own_slice (H6.mine 4 rfl)
     cases q4
     refine d_sto rfl (wn rfl) Tryz.sizeOf25 rfl rfl rfl H6 0 rfl rfl (fun _ h e _ => h.trans (e.mono fun _ _ q => by simp [q])) (fun w6 e6 H7 => ?_)
     dsimp only [List.nil_append, List.cons_append, List.set_cons_zero, List.set_cons_succ, layL] at H7
     refine dV rfl rfl (fun zw hx => py_field Tryz.underlying66 rfl Tryz.sizeOf61 rfl rfl) (d_sto rfl (wn rfl) Tryz.sizeOf61 rfl rfl rfl H7 0 rfl rfl (fun _ h e _ => h.trans (e.mono fun _ _ q => by simp [q])) (fun w7 e7 H8 => ?_))
     dsimp only [List.nil_append, List.cons_append, List.set_cons_zero, List.set_cons_succ, layL] at H8
     refine dV rfl rfl (fun zw hx => py_field Tryz.underlying66 rfl Tryz.sizeOf61 rfl rfl) (d_sto rfl (wn rfl) Tryz.sizeOf61 rfl rfl rfl H8 0 rfl rfl (fun _ h e _ => h.trans (e.mono fun _ _ q => by simp [q])) (fun w8 e8 H9 => ?_))
     dsimp only [List.nil_append, List.cons_append, List.set_cons_zero, List.set_cons_succ, layL] at H9
     refine d_nil (W_sr (sV rfl (py_loadS Tryz.underlying66 rfl Tryz.sizeOf66 rfl rfl (At.whole (H9.box 0 rfl))) (s_stoS (wn rfl) Tryz.sizeOf66 rfl rfl rfl rfl H9 1 rfl rfl (fun w9 e9 H10 => ?_))))
     dsimp only [List.nil_append, List.cons_append, List.set_cons_zero, List.set_cons_succ, layL] at H10
     refine s_nil (W_ret (hQ _ _ (finC Tryz.results131 rfl (run_loadVarS Tryz.underlying66 rfl Tryz.sizeOf66 rfl (At.whole (H10.box 1 rfl))) ?_)))
     exact ⟨H10.ext, _, _, _, _, _, _, rfl, Rec.out (H10.sub (.cons _ (.cons _ (.cons_cons _ (.cons_cons _ (.cons_cons _ List.Sublist.slnil)))))) (by assumption)⟩
    ·refine d_end rfl (wn rfl) rfl rfl (py_load Tryz.underlying61 rfl rfl (cell_atL (H4.box 0 rfl) rfl)) (dV rfl rfl (fun zw hx => py_field Tryz.underlying66 rfl Tryz.sizeOf25 rfl rfl) (d_call rfl (wn rfl) rfl rfl (pc_call Tryz.func197 rfl Tryz_nm197 rfl) (Tryz_clone_b (H4.sees 1 rfl) (by omega)) (fun hS _ _ r _ => hS.trans r.1.no) (fun v4 w10 r4 => ?_)))
     obtain ⟨e10, r4⟩ := r4
     obtain ⟨fp4, H11⟩ := H4.res e10 r4
     obtain ⟨a4, k4, q5⟩ := own_slice (H11.mine 3 rfl)
     cases q5
     refine d_call rfl (wn rfl) rfl rfl (pc_call Tryz.func197 rfl Tryz_nm197 rfl) (Tryz_clone_b (H11.sees 2 rfl) (by omega)) (fun hS _ _ r _ => hS.trans r.1.no) (fun v5 w11 r5 => ?_)
     obtain ⟨e11, r5⟩ := r5
     obtain ⟨fp5, H12⟩ := H11.res e11 r5
     obtain ⟨a5, k5, q6⟩ := own_slice (H12.mine 4 rfl)
     cases q6
     refine d_sto rfl (wn rfl) Tryz.sizeOf25 rfl rfl rfl H12 0 rfl rfl (fun _ h e _ => h.trans (e.mono fun _ _ q => by simp [q])) (fun w12 e12 H13 => ?_)
     dsimp only [List.nil_append, List.cons_append, List.set_cons_zero, List.set_cons_succ, layL] at H13
     refine dV rfl rfl (fun zw hx => py_field Tryz.underlying66 rfl Tryz.sizeOf61 rfl rfl) (d_sto rfl (wn rfl) Tryz.sizeOf61 rfl rfl rfl H13 0 rfl rfl (fun _ h e _ => h.trans (e.mono fun _ _ q => by simp [q])) (fun w13 e13 H14 => ?_))
     dsimp only [List.nil_append, List.cons_append, List.set_cons_zero, List.set_cons_succ, layL] at H14
     refine dV rfl rfl (fun zw hx => py_field Tryz.underlying66 rfl Tryz.sizeOf61 rfl rfl) (d_sto rfl (wn rfl) Tryz.sizeOf61 rfl rfl rfl H14 0 rfl rfl (fun _ h e _ => h.trans (e.mono fun _ _ q => by simp [q])) (fun w14 e14 H15 => ?_))
     dsimp only [List.nil_append, List.cons_append, List.set_cons_zero, List.set_cons_succ, layL] at H15
     refine d_nil (W_sr (sV rfl (py_loadS Tryz.underlying66 rfl Tryz.sizeOf66 rfl rfl (At.whole (H15.box 0 rfl))) (s_stoS (wn rfl) Tryz.sizeOf66 rfl rfl rfl rfl H15 1 rfl rfl (fun w15 e15 H16 => ?_))))
     dsimp only [List.nil_append, List.cons_append, List.set_cons_zero, List.set_cons_succ, layL] at H16
     refine s_nil (W_ret (hQ _ _ (finC Tryz.results131 rfl (run_loadVarS Tryz.underlying66 rfl Tryz.sizeOf66 rfl (At.whole (H16.box 1 rfl))) ?_)))
     exact ⟨H16.ext, _, _, _, _, _, _, rfl, Rec.out (H16.sub (.cons _ (.cons _ (.cons_cons _ (.cons_cons _ (.cons_cons _ List.Sublist.slnil)))))) (by assumption)⟩
   ·refine d_end rfl (wn rfl) rfl rfl (py_load Tryz.underlying61 rfl rfl (cell_atL (H4.box 0 rfl) rfl)) (d_end rfl (wn rfl) rfl rfl (py_load Tryz.underlying61 rfl rfl (cell_atL (H4.box 0 rfl) rfl)) (dV rfl rfl (fun zw hx => py_field Tryz.underlying66 rfl Tryz.sizeOf25 rfl rfl) (d_call rfl (wn rfl) rfl rfl (pc_call Tryz.func197 rfl Tryz_nm197 rfl) (Tryz_clone_b (H4.sees 1 rfl) (by omega)) (fun hS _ _ r _ => hS.trans r.1.no) (fun v6 w16 r6 => ?_))))
    obtain ⟨e16, r6⟩ := r6
    obtain ⟨fp6, H17⟩ := H4.res e16 r6
    obtain ⟨a6, k6, q7⟩ := own_slice (H17.mine 3 rfl)
    cases q7
    refine d_call rfl (wn rfl) rfl rfl (pc_call Tryz.func197 rfl Tryz_nm197 rfl) (Tryz_clone_b (H17.sees 2 rfl) (by omega)) (fun hS _ _ r _ => hS.trans r.1.no) (fun v7 w17 r7 => ?_)
    obtain ⟨e17, r7⟩ := r7
    obtain ⟨fp7, H18⟩ := H17.res e17 r7
    obtain ⟨a7, k7, q8⟩ := own_slice (H18.mine 4 rfl)
    cases q8
    refine d_sto rfl (wn rfl) Tryz.sizeOf25 rfl rfl rfl H18 0 rfl rfl (fun _ h e _ => h.trans (e.mono fun _ _ q => by simp [q])) (fun w18 e18 H19 => ?_)
    dsimp only [List.nil_append, List.cons_append, List.set_cons_zero, List.set_cons_succ, layL] at H19
    refine dV rfl rfl (fun zw hx => py_field Tryz.underlying66 rfl Tryz.sizeOf61 rfl rfl) (d_sto rfl (wn rfl) Tryz.sizeOf61 rfl rfl rfl H19 0 rfl rfl (fun _ h e _ => h.trans (e.mono fun _ _ q => by simp [q])) (fun w19 e19 H20 => ?_))
    dsimp only [List.nil_append, List.cons_append, List.set_cons_zero, List.set_cons_succ, layL] at H20
    refine dV rfl rfl (fun zw hx => py_field Tryz.underlying66 rfl Tryz.sizeOf61 rfl rfl) (d_sto rfl (wn rfl) Tryz.sizeOf61 rfl rfl rfl H20 0 rfl rfl (fun _ h e _ => h.trans (e.mono fun _ _ q => by simp [q])) (fun w20 e20 H21 => ?_))
    dsimp only [List.nil_append, List.cons_append, List.set_cons_zero, List.set_cons_succ, layL] at H21
    refine d_nil (W_sr (sV rfl (py_loadS Tryz.underlying66 rfl Tryz.sizeOf66 rfl rfl (At.whole (H21.box 0 rfl))) (s_stoS (wn rfl) Tryz.sizeOf66 rfl rfl rfl rfl H21 1 rfl rfl (fun w21 e21 H22 => ?_))))
    dsimp only [List.nil_append, List.cons_append, List.set_cons_zero, List.set_cons_succ, layL] at H22
    refine s_nil (W_ret (hQ _ _ (finC Tryz.results131 rfl (run_loadVarS Tryz.underlying66 rfl Tryz.sizeOf66 rfl (At.whole (H22.box 1 rfl))) ?_)))
    exact ⟨H22.ext, _, _, _, _, _, _, rfl, Rec.out (H22.sub (.cons _ (.cons _ (.cons_cons _ (.cons_cons _ (.cons_cons _ List.Sublist.slnil)))))) (by assumption)⟩
  refine d_fork (l1 := [(4, false), (1020, false), (2, false), (1009, false), (5, false), (7, false), (9, true), (8, false), (10, false), (11, true), (12, false), (13, true), (14, false), (7, false), (9, true), (5, false), (8, false), (10, false), (11, true), (12, false), (13, true), (14, false), (7, false), (2, false), (9, true), (5, false), (8, false), (10, false), (11, true), (12, false), (13, true), (14, false)]) (l2 := [(7, false), (1010, false), (2, false), (4, false), (9, true), (5, false), (8, false), (10, false), (11, true), (12, false), (13, true), (14, false), (4, false), (2, false), (9, true), (5, false), (8, false), (10, false), (11, true), (12, false), (13, true), (14, false)]) rfl rfl rfl rfl ?_ ?_
  ·refine d_end rfl (wn rfl) rfl rfl (py_load Tryz.underlying61 rfl rfl (cell_atL (H3.box 0 rfl) rfl)) (d_fork (l1 := [(2, false), (1009, false), (5, false), (7, false), (9, true), (8, false), (10, false), (11, true), (12, false), (13, true), (14, false), (7, false), (9, true), (5, false), (8, false), (10, false), (11, true), (12, false), (13, true), (14, false)]) (l2 := [(7, false), (2, false), (9, true), (5, false), (8, false), (10, false), (11, true), (12, false), (13, true), (14, false)]) rfl rfl rfl rfl ?_ ?_)
   ·refine d_call rfl (wn rfl) rfl rfl (pc_call Tryz.func168 rfl Tryz_nm168 rfl) (Tryz_clone_i (H3.sees 0 rfl) (by omega)) (fun hS _ _ r _ => hS.trans r.1.no) (fun v8 w22 r8 => ?_)
    obtain ⟨e22, r8⟩ := r8
    obtain ⟨fp8, H23⟩ := H3.res e22 r8
    obtain ⟨a8, k8, q9⟩ := own_slice (H23.mine 2 rfl)
    cases q9
    refine d_fork (l1 := [(5, false), (7, false), (9, true), (8, false), (10, false), (11, true), (12, false), (13, true), (14, false)]) (l2 := [(7, false), (9, true), (5, false), (8, false), (10, false), (11, true), (12, false), (13, true), (14, false)]) rfl rfl rfl rfl ?_ ?_
    ·refine d_call rfl (wn rfl) rfl rfl (pc_call Tryz.func197 rfl Tryz_nm197 rfl) (Tryz_clone_b (H23.sees 1 rfl) (by omega)) (fun hS _ _ r _ => hS.trans r.1.no) (fun v9 w23 r9 => ?_)
     obtain ⟨e23, r9⟩ := r9
     obtain ⟨fp9, H24⟩ := H23.res e23 r9
     obtain ⟨a9, k9, q10⟩ := own_slice (H24.mine 3 rfl)
     cases q10
     refine d_end rfl (wn rfl) rfl rfl (py_load Tryz.underlying61 rfl rfl (cell_atL (H24.box 0 rfl) rfl)) (dV rfl rfl (fun zw hx => py_field Tryz.underlying66 rfl Tryz.sizeOf25 rfl rfl) (d_call rfl (wn rfl) rfl rfl (pc_call Tryz.func197 rfl Tryz_nm197 rfl) (Tryz_clone_b (H24.sees 2 rfl) (by omega)) (fun hS _ _ r _ => hS.trans r.1.no) (fun v10 w24 r10 => ?_)))
     obtain ⟨e24, r10⟩ := r10
     obtain ⟨fp10, H25⟩ := H24.res e24 r10
     obtain ⟨a10, k10, q11⟩ := own_slice (H25.mine 4 rfl)
     cases q11
     refine d_sto rfl (wn rfl) Tryz.sizeOf25 rfl rfl rfl H25 0 rfl rfl (fun _ h e _ => h.trans (e.mono fun _ _ q => by simp [q])) (fun w25 e25 H26 => ?_)
     dsimp only [List.nil_append, List.cons_append, List.set_cons_zero, List.set_cons_succ, layL] at H26
     refine dV rfl rfl (fun zw hx => py_field Tryz.underlying66 rfl Tryz.sizeOf61 rfl rfl) (d_sto rfl (wn rfl) Tryz.sizeOf61 rfl rfl rfl H26 0 rfl rfl (fun _ h e _ => h.trans (e.mono fun _ _ q => by simp [q])) (fun w26 e26 H27 => ?_))
     dsimp only [List.nil_append, List.cons_append, List.set_cons_zero, List.set_cons_succ, layL] at H27
     refine dV rfl rfl (fun zw hx => py_field Tryz.underlying66 rfl Tryz.sizeOf61 rfl rfl) (d_sto rfl (wn rfl) Tryz.sizeOf61 rfl rfl rfl H27 0 rfl rfl (fun _ h e _ => h.trans (e.mono fun _ _ q => by simp [q])) (fun w27 e27 H28 => ?_))
     dsimp only [List.nil_append, List.cons_append, List.set_cons_zero, List.set_cons_succ, layL] at H28
     refine d_nil (W_sr (sV rfl (py_loadS Tryz.underlying66 rfl Tryz.sizeOf66 rfl rfl (At.whole (H28.box 0 rfl))) (s_stoS (wn rfl) Tryz.sizeOf66 rfl rfl rfl rfl H28 1 rfl rfl (fun w28 e28 H29 => ?_))))
     dsimp only [List.nil_append, List.cons_append, List.set_cons_zero, List.set_cons_succ, layL] at H29
     refine s_nil (W_ret (hQ _ _ (finC Tryz.results131 rfl (run_loadVarS Tryz.underlying66 rfl Tryz.sizeOf66 rfl (At.whole (H29.box 1 rfl))) ?_)))
     exact ⟨H29.ext, _, _, _, _, _, _, rfl, Rec.out (H29.sub (.cons _ (.cons _ (.cons_cons _ (.cons_cons _ (.cons_cons _ List.Sublist.slnil)))))) (by assumption)⟩
    ·refine d_end rfl (wn rfl) rfl rfl (py_load Tryz.underlying61 rfl rfl (cell_atL (H23.box 0 rfl) rfl)) (dV rfl rfl (fun zw hx => py_field Tryz.underlying66 rfl Tryz.sizeOf25 rfl rfl) (d_call rfl (wn rfl) rfl rfl (pc_call Tryz.func197 rfl Tryz_nm197 rfl) (Tryz_clone_b (H23.sees 1 rfl) (by omega)) (fun hS _ _ r _ => hS.trans r.1.no) (fun v11 w29 r11 => ?_)))
     obtain ⟨e29, r11⟩ := r11
     obtain ⟨fp11, H30⟩ := H23.res e29 r11
     obtain ⟨a11, k11, q12⟩ := own_slice (H30.mine 3 rfl)
     cases q12
     refine d_call rfl (wn rfl) rfl rfl (pc_call Tryz.func197 rfl Tryz_nm197 rfl) (Tryz_clone_b (H30.sees 2 rfl) (by omega)) (fun hS _ _ r _ => hS.trans r.1.no) (fun v12 w30 r12 => ?_)
     obtain ⟨e30, r12⟩ := r12
     obtain ⟨fp12, H31⟩ := H30.res e30 r12
     obtain ⟨a12, k12, q13⟩ := own_slice (H31.mine 4 rfl)
     cases q13
     refine d_sto rfl (wn rfl) Tryz.sizeOf25 rfl rfl rfl H31 0 rfl rfl (fun _ h e _ => h.trans (e.mono fun _ _ q => by simp [q])) (fun w31 e31 H32 => ?_)
     dsimp only [List.nil_append, List.cons_append, List.set_cons_zero, List.set_cons_succ, layL] at H32
     refine dV rfl rfl (fun zw hx => py_field Tryz.underlying66 rfl Tryz.sizeOf61 rfl rfl) (d_sto rfl (wn rfl) Tryz.sizeOf61 rfl rfl rfl H32 0 rfl rfl (fun _ h e _ => h.trans (e.mono fun _ _ q => by simp [q])) (fun w32 e32 H33 => ?_))
     dsimp only [List.nil_append, List.cons_append, List.set_cons_zero, List.set_cons_succ, layL] at H33
     refine dV rfl rfl (fun zw hx => py_field Tryz.underlying66 rfl Tryz.sizeOf61 rfl rfl) (d_sto rfl (wn rfl) Tryz.sizeOf61 rfl rfl rfl H33 0 rfl rfl (fun _ h e _ => h.trans (e.mono fun _ _ q => by simp [q])) (fun w33 e33 H34 => ?_))
     dsimp only [List.nil_append, List.cons_append, List.set_cons_zero, List.set_cons_succ, layL] at H34
     refine d_nil (W_sr (sV rfl (py_loadS Tryz.underlying66 rfl Tryz.sizeOf66 rfl rfl (At.whole (H34.box 0 rfl))) (s_stoS (wn rfl) Tryz.sizeOf66 rfl rfl rfl rfl H34 1 rfl rfl (fun w34 e34 H35 => ?_))))
     dsimp only [List.nil_append, List.cons_append, List.set_cons_zero, List.set_cons_succ, layL] at H35
     refine s_nil (W_ret (hQ _ _ (finC Tryz.results131 rfl (run_loadVarS Tryz.underlying66 rfl Tryz.sizeOf66 rfl (At.whole (H35.box 1 rfl))) ?_)))
     exact ⟨H35.ext, _, _, _, _, _, _, rfl, Rec.out (H35.sub (.cons _ (.cons _ (.cons_cons _ (.cons_cons _ (.cons_cons _ List.Sublist.slnil)))))) (by assumption)⟩
   ·refine d_end rfl (wn rfl) rfl rfl (py_load Tryz.underlying61 rfl rfl (cell_atL (H3.box 0 rfl) rfl)) (d_call rfl (wn rfl) rfl rfl (pc_call Tryz.func168 rfl Tryz_nm168 rfl) (Tryz_clone_i (H3.sees 0 rfl) (by omega)) (fun hS _ _ r _ => hS.trans r.1.no) (fun v13 w35 r13 => ?_))
    obtain ⟨e35, r13⟩ := r13
    obtain ⟨fp13, H36⟩ := H3.res e35 r13
    obtain ⟨a13, k13, q14⟩ := own_slice (H36.mine 2 rfl)
    cases q14
    refine dV rfl rfl (fun zw hx => py_field Tryz.underlying66 rfl Tryz.sizeOf25 rfl rfl) (d_call rfl (wn rfl) rfl rfl (pc_call Tryz.func197 rfl Tryz_nm197 rfl) (Tryz_clone_b (H36.sees 1 rfl) (by omega)) (fun hS _ _ r _ => hS.trans r.1.no) (fun v14 w36 r14 => ?_))
    obtain ⟨e36, r14⟩ := r14
    obtain ⟨fp14, H37⟩ := H36.res e36 r14
    obtain ⟨a14, k14, q15⟩ := own_slice (H37.mine 3 rfl)
    cases q15
    refine d_call rfl (wn rfl) rfl rfl (pc_call Tryz.func197 rfl Tryz_nm197 rfl) (Tryz_clone_b (H37.sees 2 rfl) (by omega)) (fun hS _ _ r _ => hS.trans r.1.no) (fun v15 w37 r15 => ?_)
    obtain ⟨e37, r15⟩ := r15
    obtain ⟨fp15, H38⟩ := H37.res e37 r15
    obtain ⟨a15, k15, q16⟩ := own_slice (H38.mine 4 rfl)
    cases q16
    refine d_sto rfl (wn rfl) Tryz.sizeOf25 rfl rfl rfl H38 0 rfl rfl (fun _ h e _ => h.trans (e.mono fun _ _ q => by simp [q])) (fun w38 e38 H39 => ?_)
    dsimp only [List.nil_append, List.cons_append, List.set_cons_zero, List.set_cons_succ, layL] at H39
    refine dV rfl rfl (fun zw hx => py_field Tryz.underlying66 rfl Tryz.sizeOf61 rfl rfl) (d_sto rfl (wn rfl) Tryz.sizeOf61 rfl rfl rfl H39 0 rfl rfl (fun _ h e _ => h.trans (e.mono fun _ _ q => by simp [q])) (fun w39 e39 H40 => ?_))
    dsimp only [List.nil_append, List.cons_append, List.set_cons_zero, List.set_cons_succ, layL] at H40
    refine dV rfl rfl (fun zw hx => py_field Tryz.underlying66 rfl Tryz.sizeOf61 rfl rfl) (d_sto rfl (wn rfl) Tryz.sizeOf61 rfl rfl rfl H40 0 rfl rfl (fun _ h e _ => h.trans (e.mono fun _ _ q => by simp [q])) (fun w40 e40 H41 => ?_))
    dsimp only [List.nil_append, List.cons_append, List.set_cons_zero, List.set_cons_succ, layL] at H41
    refine d_nil (W_sr (sV rfl (py_loadS Tryz.underlying66 rfl Tryz.sizeOf66 rfl rfl (At.whole (H41.box 0 rfl))) (s_stoS (wn rfl) Tryz.sizeOf66 rfl rfl rfl rfl H41 1 rfl rfl (fun w41 e41 H42 => ?_))))
    dsimp only [List.nil_append, List.cons_append, List.set_cons_zero, List.set_cons_succ, layL] at H42
    refine s_nil (W_ret (hQ _ _ (finC Tryz.results131 rfl (run_loadVarS Tryz.underlying66 rfl Tryz.sizeOf66 rfl (At.whole (H42.box 1 rfl))) ?_)))
    exact ⟨H42.ext, _, _, _, _, _, _, rfl, Rec.out (H42.sub (.cons _ (.cons _ (.cons_cons _ (.cons_cons _ (.cons_cons _ List.Sublist.slnil)))))) (by assumption)⟩
  ·refine d_end rfl (wn rfl) rfl rfl (py_load Tryz.underlying61 rfl rfl (cell_atL (H3.box 0 rfl) rfl)) (d_fork (l1 := [(2, false), (4, false), (9, true), (5, false), (8, false), (10, false), (11, true), (12, false), (13, true), (14, false)]) (l2 := [(4, false), (2, false), (9, true), (5, false), (8, false), (10, false), (11, true), (12, false), (13, true), (14, false)]) rfl rfl rfl rfl ?_ ?_)
   ·refine d_call rfl (wn rfl) rfl rfl (pc_call Tryz.func168 rfl Tryz_nm168 rfl) (Tryz_clone_i (H3.sees 0 rfl) (by omega)) (fun hS _ _ r _ => hS.trans r.1.no) (fun v16 w42 r16 => ?_)
    obtain ⟨e42, r16⟩ := r16
    obtain ⟨fp16, H43⟩ := H3.res e42 r16
    obtain ⟨a16, k16, q17⟩ := own_slice (H43.mine 2 rfl)
    cases q17
    refine d_end rfl (wn rfl) rfl rfl (py_load Tryz.underlying61 rfl rfl (cell_atL (H43.box 0 rfl) rfl)) (dV rfl rfl (fun zw hx => py_field Tryz.underlying66 rfl Tryz.sizeOf25 rfl rfl) (d_call rfl (wn rfl) rfl rfl (pc_call Tryz.func197 rfl Tryz_nm197 rfl) (Tryz_clone_b (H43.sees 1 rfl) (by omega)) (fun hS _ _ r _ => hS.trans r.1.no) (fun v17 w43 r17 => ?_)))
    obtain ⟨e43, r17⟩ := r17
    obtain ⟨fp17, H44⟩ := H43.res e43 r17
    obtain ⟨a17, k17, q18⟩ := own_slice (H44.mine 3 rfl)
    cases q18
    refine d_call rfl (wn rfl) rfl rfl (pc_call Tryz.func197 rfl Tryz_nm197 rfl) (Tryz_clone_b (H44.sees 2 rfl) (by omega)) (fun hS _ _ r _ => hS.trans r.1.no) (fun v18 w44 r18 => ?_)
    obtain ⟨e44, r18⟩ := r18
    obtain ⟨fp18, H45⟩ := H44.res e44 r18
    obtain ⟨a18, k18, q19⟩ := own_slice (H45.mine 4 rfl)
    cases q19
    refine d_sto rfl (wn rfl) Tryz.sizeOf25 rfl rfl rfl H45 0 rfl rfl (fun _ h e _ => h.trans (e.mono fun _ _ q => by simp [q])) (fun w45 e45 H46 => ?_)
    dsimp only [List.nil_append, List.cons_append, List.set_cons_zero, List.set_cons_succ, layL] at H46
    refine dV rfl rfl (fun zw hx => py_field Tryz.underlying66 rfl Tryz.sizeOf61 rfl rfl) (d_sto rfl (wn rfl) Tryz.sizeOf61 rfl rfl rfl H46 0 rfl rfl (fun _ h e _ => h.trans (e.mono fun _ _ q => by simp [q])) (fun w46 e46 H47 => ?_))
    dsimp only [List.nil_append, List.cons_append, List.set_cons_zero, List.set_cons_succ, layL] at H47
    refine dV rfl rfl (fun zw hx => py_field Tryz.underlying66 rfl Tryz.sizeOf61 rfl rfl) (d_sto rfl (wn rfl) Tryz.sizeOf61 rfl rfl rfl H47 0 rfl rfl (fun _ h e _ => h.trans (e.mono fun _ _ q => by simp [q])) (fun w47 e47 H48 => ?_))
    dsimp only [List.nil_append, List.cons_append, List.set_cons_zero, List.set_cons_succ, layL] at H48
    refine d_nil (W_sr (sV rfl (py_loadS Tryz.underlying66 rfl Tryz.sizeOf66 rfl rfl (At.whole (H48.box 0 rfl))) (s_stoS (wn rfl) Tryz.sizeOf66 rfl rfl rfl rfl H48 1 rfl rfl (fun w48 e48 H49 => ?_))))
    dsimp only [List.nil_append, List.cons_append, List.set_cons_zero, List.set_cons_succ, layL] at H49
    refine s_nil (W_ret (hQ _ _ (finC Tryz.results131 rfl (run_loadVarS Tryz.underlying66 rfl Tryz.sizeOf66 rfl (At.whole (H49.box 1 rfl))) ?_)))
    exact ⟨H49.ext, _, _, _, _, _, _, rfl, Rec.out (H49.sub (.cons _ (.cons _ (.cons_cons _ (.cons_cons _ (.cons_cons _ List.Sublist.slnil)))))) (by assumption)⟩
   ·refine d_end rfl (wn rfl) rfl rfl (py_load Tryz.underlying61 rfl rfl (cell_atL (H3.box 0 rfl) rfl)) (d_call rfl (wn rfl) rfl rfl (pc_call Tryz.func168 rfl Tryz_nm168 rfl) (Tryz_clone_i (H3.sees 0 rfl) (by omega)) (fun hS _ _ r _ => hS.trans r.1.no) (fun v19 w49 r19 => ?_))
    obtain ⟨e49, r19⟩ := r19
    obtain ⟨fp19, H50⟩ := H3.res e49 r19
    obtain ⟨a19, k19, q20⟩ := own_slice (H50.mine 2 rfl)
    cases q20
    refine dV rfl rfl (fun zw hx => py_field Tryz.underlying66 rfl Tryz.sizeOf25 rfl rfl) (d_call rfl (wn rfl) rfl rfl (pc_call Tryz.func197 rfl Tryz_nm197 rfl) (Tryz_clone_b (H50.sees 1 rfl) (by omega)) (fun hS _ _ r _ => hS.trans r.1.no) (fun v20 w50 r20 => ?_))
    obtain ⟨e50, r20⟩ := r20
    obtain ⟨fp20, H51⟩ := H50.res e50 r20
    obtain ⟨a20, k20, q21⟩ := own_slice (H51.mine 3 rfl)
    cases q21
    refine d_call rfl (wn rfl) rfl rfl (pc_call Tryz.func197 rfl Tryz_nm197 rfl) (Tryz_clone_b (H51.sees 2 rfl) (by omega)) (fun hS _ _ r _ => hS.trans r.1.no) (fun v21 w51 r21 => ?_)
    obtain ⟨e51, r21⟩ := r21
    obtain ⟨fp21, H52⟩ := H51.res e51 r21
    obtain ⟨a21, k21, q22⟩ := own_slice (H52.mine 4 rfl)
    cases q22
    refine d_sto rfl (wn rfl) Tryz.sizeOf25 rfl rfl rfl H52 0 rfl rfl (fun _ h e _ => h.trans (e.mono fun _ _ q => by simp [q])) (fun w52 e52 H53 => ?_)
    dsimp only [List.nil_append, List.cons_append, List.set_cons_zero, List.set_cons_succ, layL] at H53
    refine dV rfl rfl (fun zw hx => py_field Tryz.underlying66 rfl Tryz.sizeOf61 rfl rfl) (d_sto rfl (wn rfl) Tryz.sizeOf61 rfl rfl rfl H53 0 rfl rfl (fun _ h e _ => h.trans (e.mono fun _ _ q => by simp [q])) (fun w53 e53 H54 => ?_))
    dsimp only [List.nil_append, List.cons_append, List.set_cons_zero, List.set_cons_succ, layL] at H54
    refine dV rfl rfl (fun zw hx => py_field Tryz.underlying66 rfl Tryz.sizeOf61 rfl rfl) (d_sto rfl (wn rfl) Tryz.sizeOf61 rfl rfl rfl H54 0 rfl rfl (fun _ h e _ => h.trans (e.mono fun _ _ q => by simp [q])) (fun w54 e54 H55 => ?_))
    dsimp only [List.nil_append, List.cons_append, List.set_cons_zero, List.set_cons_succ, layL] at H55
    refine d_nil (W_sr (sV rfl (py_loadS Tryz.underlying66 rfl Tryz.sizeOf66 rfl rfl (At.whole (H55.box 0 rfl))) (s_stoS (wn rfl) Tryz.sizeOf66 rfl rfl rfl rfl H55 1 rfl rfl (fun w55 e55 H56 => ?_))))
    dsimp only [List.nil_append, List.cons_append, List.set_cons_zero, List.set_cons_succ, layL] at H56
    refine s_nil (W_ret (hQ _ _ (finC Tryz.results131 rfl (run_loadVarS Tryz.underlying66 rfl Tryz.sizeOf66 rfl (At.whole (H56.box 1 rfl))) ?_)))
    exact ⟨H56.ext, _, _, _, _, _, _, rfl, Rec.out (H56.sub (.cons _ (.cons _ (.cons_cons _ (.cons_cons _ (.cons_cons _ List.Sublist.slnil)))))) (by assumption)⟩
 refine d_fork (l1 := [(4, false), (1032, false), (1, false), (1020, false), (2, false), (1009, false), (5, false), (7, false), (9, true), (8, false), (10, false), (11, true), (12, false), (13, true), (14, false), (7, false), (9, true), (5, false), (8, false), (10, false), (11, true), (12, false), (13, true), (14, false), (7, false), (2, false), (9, true), (5, false), (8, false), (10, false), (11, true), (12, false), (13, true), (14, false), (7, false), (1, false), (2, false), (9, true), (5, false), (8, false), (10, false), (11, true), (12, false), (13, true), (14, false)]) (l2 := [(7, false), (1022, false), (1, false), (1010, false), (2, false), (4, false), (9, true), (5, false), (8, false), (10, false), (11, true), (12, false), (13, true), (14, false), (4, false), (2, false), (9, true), (5, false), (8, false), (10, false), (11, true), (12, false), (13, true), (14, false), (4, false), (1, false), (2, false), (9, true), (5, false), (8, false), (10, false), (11, true), (12, false), (13, true), (14, false)]) rfl rfl rfl rfl ?_ ?_
 ·refine d_end rfl (wn rfl) rfl rfl (py_load Tryz.underlying61 rfl rfl (cell_atL (H3.box 0 rfl) rfl)) (d_fork (l1 := [(1, false), (1020, false), (2, false), (1009, false), (5, false), (7, false), (9, true), (8, false), (10, false), (11, true), (12, false), (13, true), (14, false), (7, false), (9, true), (5, false), (8, false), (10, false), (11, true), (12, false), (13, true), (14, false), (7, false), (2, false), (9, true), (5, false), (8, false), (10, false), (11, true), (12, false), (13, true), (14, false)]) (l2 := [(7, false), (1, false), (2, false), (9, true), (5, false), (8, false), (10, false), (11, true), (12, false), (13, true), (14, false)]) rfl rfl rfl rfl ?_ ?_)
  ·refine d_end rfl (wn rfl) rfl rfl (py_load Tryz.underlying25 rfl rfl (cell_atL (H3.box 0 rfl) rfl)) (d_fork (l1 := [(2, false), (1009, false), (5, false), (7, false), (9, true), (8, false), (10, false), (11, true), (12, false), (13, true), (14, false), (7, false), (9, true), (5, false), (8, false), (10, false), (11, true), (12, false), (13, true), (14, false)]) (l2 := [(7, false), (2, false), (9, true), (5, false), (8, false), (10, false), (11, true), (12, false), (13, true), (14, false)]) rfl rfl rfl rfl ?_ ?_)
   ·refine d_call rfl (wn rfl) rfl rfl (pc_call Tryz.func168 rfl Tryz_nm168 rfl) (Tryz_clone_i (H3.sees 0 rfl) (by omega)) (fun hS _ _ r _ => hS.trans r.1.no) (fun v22 w56 r22 => ?_)
    obtain ⟨e56, r22⟩ := r22
    obtain ⟨fp22, H57⟩ := H3.res e56 r22
    obtain ⟨a22, k22, q23⟩ := own_slice (H57.mine 2 rfl)
    cases q23
    refine d_fork (l1 := [(5, false), (7, false), (9, true), (8, false), (10, false), (11, true), (12, false), (13, true), (14, false)]) (l2 := [(7, false), (9, true), (5, false), (8, false), (10, false), (11, true), (12, false), (13, true), (14, false)]) rfl rfl rfl rfl ?_ ?_
    ·refine d_call rfl (wn rfl) rfl rfl (pc_call Tryz.func197 rfl Tryz_nm197 rfl) (Tryz_clone_b (H57.sees 1 rfl) (by omega)) (fun hS _ _ r _ => hS.trans r.1.no) (fun v23 w57 r23 => ?_)
     obtain ⟨e57, r23⟩ := r23
     obtain ⟨fp23, H58⟩ := H57.res e57 r23
     obtain ⟨a23, k23, q24⟩ := own_slice (H58.mine 3 rfl)
     cases q24
     refine d_end rfl (wn rfl) rfl rfl (py_load Tryz.underlying61 rfl rfl (cell_atL (H58.box 0 rfl) rfl)) (dV rfl rfl (fun zw hx => py_field Tryz.underlying66 rfl Tryz.sizeOf25 rfl rfl) (d_call rfl (wn rfl) rfl rfl (pc_call Tryz.func197 rfl Tryz_nm197 rfl) (Tryz_clone_b (H58.sees 2 rfl) (by omega)) (fun hS _ _ r _ => hS.trans r.1.no) (fun v24 w58 r24 => ?_)))
     obtain ⟨e58, r24⟩ := r24
     obtain ⟨fp24, H59⟩ := H58.res e58 r24
     obtain ⟨a24, k24, q25⟩ := own_slice (H59.mine 4 rfl)
     cases q25
     refine d_sto rfl (wn rfl) Tryz.sizeOf25 rfl rfl rfl H59 0 rfl rfl (fun _ h e _ => h.trans (e.mono fun _ _ q => by simp [q])) (fun w59 e59 H60 => ?_)
     dsimp only [List.nil_append, List.cons_append, List.set_cons_zero, List.set_cons_succ, layL] at H60
     refine dV rfl rfl (fun zw hx => py_field Tryz.underlying66 rfl Tryz.sizeOf61 rfl rfl) (d_sto rfl (wn rfl) Tryz.sizeOf61 rfl rfl rfl H60 0 rfl rfl (fun _ h e _ => h.trans (e.mono fun _ _ q => by simp [q])) (fun w60 e60 H61 => ?_))
     dsimp only [List.nil_append, List.cons_append, List.set_cons_zero, List.set_cons_succ, layL] at H61
     refine dV rfl rfl (fun zw hx => py_field Tryz.underlying66 rfl Tryz.sizeOf61 rfl rfl) (d_sto rfl (wn rfl) Tryz.sizeOf61 rfl rfl rfl H61 0 rfl rfl (fun _ h e _ => h.trans (e.mono fun _ _ q => by simp [q])) (fun w61 e61 H62 => ?_))
     dsimp only [List.nil_append, List.cons_append, List.set_cons_zero, List.set_cons_succ, layL] at H62
     refine d_nil (W_sr (sV rfl (py_loadS Tryz.underlying66 rfl Tryz.sizeOf66 rfl rfl (At.whole (H62.box 0 rfl))) (s_stoS (wn rfl) Tryz.sizeOf66 rfl rfl rfl rfl H62 1 rfl rfl (fun w62 e62 H63 => ?_))))
     dsimp only [List.nil_append, List.cons_append, List.set_cons_zero, List.set_cons_succ, layL] at H63
     refine s_nil (W_ret (hQ _ _ (finC Tryz.results131 rfl (run_loadVarS Tryz.underlying66 rfl Tryz.sizeOf66 rfl (At.whole (H63.box 1 rfl))) ?_)))
     exact ⟨H63.ext, _, _, _, _, _, _, rfl, Rec.out (H63.sub (.cons _ (.cons _ (.cons_cons _ (.cons_cons _ (.cons_cons _ List.Sublist.slnil)))))) (by assumption)⟩
    ·refine d_end rfl (wn rfl) rfl rfl (py_load Tryz.underlying61 rfl rfl (cell_atL (H57.box 0 rfl) rfl)) (dV rfl rfl (fun zw hx => py_field Tryz.underlying66 rfl Tryz.sizeOf25 rfl rfl) (d_call rfl (wn rfl) rfl rfl (pc_call Tryz.func197 rfl Tryz_nm197 rfl) (Tryz_clone_b (H57.sees 1 rfl) (by omega)) (fun hS _ _ r _ => hS.trans r.1.no) (fun v25 w63 r25 => ?_)))
     obtain ⟨e63, r25⟩ := r25
     obtain ⟨fp25, H64⟩ := H57.res e63 r25
     obtain ⟨a25, k25, q26⟩ := own_slice (H64.mine 3 rfl)
     cases q26
     refine d_call rfl (wn rfl) rfl rfl (pc_call Tryz.func197 rfl Tryz_nm197 rfl) (Tryz_clone_b (H64.sees 2 rfl) (by omega)) (fun hS _ _ r _ => hS.trans r.1.no) (fun v26 w64 r26 => ?_)
     obtain ⟨e64, r26⟩ := r26
     obtain ⟨fp26, H65⟩ := H64.res e64 r26
     obtain ⟨a26, k26, q27⟩ := own_slice (H65.mine 4 rfl)
     cases q27
     refine d_sto rfl (wn rfl) Tryz.sizeOf25 rfl rfl rfl H65 0 rfl rfl (fun _ h e _ => h.trans (e.mono fun _ _ q => by simp [q])) (fun w65 e65 H66 => ?_)
     dsimp only [List.nil_append, List.cons_append, List.set_cons_zero, List.set_cons_succ, layL] at H66
     refine dV rfl rfl (fun zw hx => py_field Tryz.underlying66 rfl Tryz.sizeOf61 rfl rfl) (d_sto rfl (wn rfl) Tryz.sizeOf61 rfl rfl rfl H66 0 rfl rfl (fun _ h e _ => h.trans (e.mono fun _ _ q => by simp [q])) (fun w66 e66 H67 => ?_))
     dsimp only [List.nil_append, List.cons_append, List.set_cons_zero, List.set_cons_succ, layL] at H67
     refine dV rfl rfl (fun zw hx => py_field Tryz.underlying66 rfl Tryz.sizeOf61 rfl rfl) (d_sto rfl (wn rfl) Tryz.sizeOf61 rfl rfl rfl H67 0 rfl rfl (fun _ h e _ => h.trans (e.mono fun _ _ q => by simp [q])) (fun w67 e67 H68 => ?_))
     dsimp only [List.nil_append, List.cons_append, List.set_cons_zero, List.set_cons_succ, layL] at H68
     refine d_nil (W_sr (sV rfl (py_loadS Tryz.underlying66 rfl Tryz.sizeOf66 rfl rfl (At.whole (H68.box 0 rfl))) (s_stoS (wn rfl) Tryz.sizeOf66 rfl rfl rfl rfl H68 1 rfl rfl (fun w68 e68 H69 => ?_))))
     dsimp only [List.nil_append, List.cons_append, List.set_cons_zero, List.set_cons_succ, layL] at H69
     refine s_nil (W_ret (hQ _ _ (finC Tryz.results131 rfl (run_loadVarS Tryz.underlying66 rfl Tryz.sizeOf66 rfl (At.whole (H69.box 1 rfl))) ?_)))
     exact ⟨H69.ext, _, _, _, _, _, _, rfl, Rec.out (H69.sub (.cons _ (.cons _ (.cons_cons _ (.cons_cons _ (.cons_cons _ List.Sublist.slnil)))))) (by assumption)⟩
   ·refine d_end rfl (wn rfl) rfl rfl (py_load Tryz.underlying61 rfl rfl (cell_atL (H3.box 0 rfl) rfl)) (d_call rfl (wn rfl) rfl rfl (pc_call Tryz.func168 rfl Tryz_nm168 rfl) (Tryz_clone_i (H3.sees 0 rfl) (by omega)) (fun hS _ _ r _ => hS.trans r.1.no) (fun v27 w69 r27 => ?_))
    obtain ⟨e69, r27⟩ := r27
    obtain ⟨fp27, H70⟩ := H3.res e69 r27
    obtain ⟨a27, k27, q28⟩ := own_slice (H70.mine 2 rfl)
    cases q28
    refine dV rfl rfl (fun zw hx => py_field Tryz.underlying66 rfl Tryz.sizeOf25 rfl rfl) (d_call rfl (wn rfl) rfl rfl (pc_call Tryz.func197 rfl Tryz_nm197 rfl) (Tryz_clone_b (H70.sees 1 rfl) (by omega)) (fun hS _ _ r _ => hS.trans r.1.no) (fun v28 w70 r28 => ?_))
    obtain ⟨e70, r28⟩ := r28
    obtain ⟨fp28, H71⟩ := H70.res e70 r28
    obtain ⟨a28, k28, q29⟩ := own_slice (H71.mine 3 rfl)
    cases q29
    refine d_call rfl (wn rfl) rfl rfl (pc_call Tryz.func197 rfl Tryz_nm197 rfl) (Tryz_clone_b (H71.sees 2 rfl) (by omega)) (fun hS _ _ r _ => hS.trans r.1.no) (fun v29 w71 r29 => ?_)
    obtain ⟨e71, r29⟩ := r29
    obtain ⟨fp29, H72⟩ := H71.res e71 r29
    obtain ⟨a29, k29, q30⟩ := own_slice (H72.mine 4 rfl)
    cases q30
    refine d_sto rfl (wn rfl) Tryz.sizeOf25 rfl rfl rfl H72 0 rfl rfl (fun _ h e _ => h.trans (e.mono fun _ _ q => by simp [q])) (fun w72 e72 H73 => ?_)
    dsimp only [List.nil_append, List.cons_append, List.set_cons_zero, List.set_cons_succ, layL] at H73
    refine dV rfl rfl (fun zw hx => py_field Tryz.underlying66 rfl Tryz.sizeOf61 rfl rfl) (d_sto rfl (wn rfl) Tryz.sizeOf61 rfl rfl rfl H73 0 rfl rfl (fun _ h e _ => h.trans (e.mono fun _ _ q => by simp [q])) (fun w73 e73 H74 => ?_))
    dsimp only [List.nil_append, List.cons_append, List.set_cons_zero, List.set_cons_succ, layL] at H74
    refine dV rfl rfl (fun zw hx => py_field Tryz.underlying66 rfl Tryz.sizeOf61 rfl rfl) (d_sto rfl (wn rfl) Tryz.sizeOf61 rfl rfl rfl H74 0 rfl rfl (fun _ h e _ => h.trans (e.mono fun _ _ q => by simp [q])) (fun w74 e74 H75 => ?_))
    dsimp only [List.nil_append, List.cons_append, List.set_cons_zero, List.set_cons_succ, layL] at H75
    refine d_nil (W_sr (sV rfl (py_loadS Tryz.underlying66 rfl Tryz.sizeOf66 rfl rfl (At.whole (H75.box 0 rfl))) (s_stoS (wn rfl) Tryz.sizeOf66 rfl rfl rfl rfl H75 1 rfl rfl (fun w75 e75 H76 => ?_))))
    dsimp only [List.nil_append, List.cons_append, List.set_cons_zero, List.set_cons_succ, layL] at H76
    refine s_nil (W_ret (hQ _ _ (finC Tryz.results131 rfl (run_loadVarS Tryz.underlying66 rfl Tryz.sizeOf66 rfl (At.whole (H76.box 1 rfl))) ?_)))
    exact ⟨H76.ext, _, _, _, _, _, _, rfl, Rec.out (H76.sub (.cons _ (.cons _ (.cons_cons _ (.cons_cons _ (.cons_cons _ List.Sublist.slnil)))))) (by assumption)⟩
  ·refine d_end rfl (wn rfl) rfl rfl (py_load Tryz.underlying61 rfl rfl (cell_atL (H3.box 0 rfl) rfl)) (d_end rfl (wn rfl) rfl rfl (py_load Tryz.underlying25 rfl rfl (cell_atL (H3.box 0 rfl) rfl)) (d_call rfl (wn rfl) rfl rfl (pc_call Tryz.func168 rfl Tryz_nm168 rfl) (Tryz_clone_i (H3.sees 0 rfl) (by omega)) (fun hS _ _ r _ => hS.trans r.1.no) (fun v30 w76 r30 => ?_)))
   obtain ⟨e76, r30⟩ := r30
   obtain ⟨fp30, H77⟩ := H3.res e76 r30
   obtain ⟨a30, k30, q31⟩ := own_slice (H77.mine 2 rfl)
   cases q31
   refine dV rfl rfl (fun zw hx => py_field Tryz.underlying66 rfl Tryz.sizeOf25 rfl rfl) (d_call rfl (wn rfl) rfl rfl (pc_call Tryz.func197 rfl Tryz_nm197 rfl) (Tryz_clone_b (H77.sees 1 rfl) (by omega)) (fun hS _ _ r _ => hS.trans r.1.no) (fun v31 w77 r31 => ?_))
   obtain ⟨e77, r31⟩ := r31
   obtain ⟨fp31, H78⟩ := H77.res e77 r31
   obtain ⟨a31, k31, q32⟩ := own_slice (H78.mine 3 rfl)
   cases q32
   refine d_call rfl (wn rfl) rfl rfl (pc_call Tryz.func197 rfl Tryz_nm197 rfl) (Tryz_clone_b (H78.sees 2 rfl) (by omega)) (fun hS _ _ r _ => hS.trans r.1.no) (fun v32 w78 r32 => ?_)
   obtain ⟨e78, r32⟩ := r32
   obtain ⟨fp32, H79⟩ := H78.res e78 r32
   obtain ⟨a32, k32, q33⟩ := own_slice (H79.mine 4 rfl)
   cases q33
   refine d_sto rfl (wn rfl) Tryz.sizeOf25 rfl rfl rfl H79 0 rfl rfl (fun _ h e _ => h.trans (e.mono fun _ _ q => by simp [q])) (fun w79 e79 H80 => ?_)
   dsimp only [List.nil_append, List.cons_append, List.set_cons_zero, List.set_cons_succ, layL] at H80
   refine dV rfl rfl (fun zw hx => py_field Tryz.underlying66 rfl Tryz.sizeOf61 rfl rfl) (d_sto rfl (wn rfl) Tryz.sizeOf61 rfl rfl rfl H80 0 rfl rfl (fun _ h e _ => h.trans (e.mono fun _ _ q => by simp [q])) (fun w80 e80 H81 => ?_))
   dsimp only [List.nil_append, List.cons_append, List.set_cons_zero, List.set_cons_succ, layL] at H81
   refine dV rfl rfl (fun zw hx => py_field Tryz.underlying66 rfl Tryz.sizeOf61 rfl rfl) (d_sto rfl (wn rfl) Tryz.sizeOf61 rfl rfl rfl H81 0 rfl rfl (fun _ h e _ => h.trans (e.mono fun _ _ q => by simp [q])) (fun w81 e81 H82 => ?_))
   dsimp only [List.nil_append, List.cons_append, List.set_cons_zero, List.set_cons_succ, layL] at H82
   refine d_nil (W_sr (sV rfl (py_loadS Tryz.underlying66 rfl Tryz.sizeOf66 rfl rfl (At.whole (H82.box 0 rfl))) (s_stoS (wn rfl) Tryz.sizeOf66 rfl rfl rfl rfl H82 1 rfl rfl (fun w82 e82 H83 => ?_))))
   dsimp only [List.nil_append, List.cons_append, List.set_cons_zero, List.set_cons_succ, layL] at H83
   refine s_nil (W_ret (hQ _ _ (finC Tryz.results131 rfl (run_loadVarS Tryz.underlying66 rfl Tryz.sizeOf66 rfl (At.whole (H83.box 1 rfl))) ?_)))
   exact ⟨H83.ext, _, _, _, _, _, _, rfl, Rec.out (H83.sub (.cons _ (.cons _ (.cons_cons _ (.cons_cons _ (.cons_cons _ List.Sublist.slnil)))))) (by assumption)⟩
 ·refine d_end rfl (wn rfl) rfl rfl (py_load Tryz.underlying61 rfl rfl (cell_atL (H3.box 0 rfl) rfl)) (d_fork (l1 := [(1, false), (1010, false), (2, false), (4, false), (9, true), (5, false), (8, false), (10, false), (11, true), (12, false), (13, true), (14, false), (4, false), (2, false), (9, true), (5, false), (8, false), (10, false), (11, true), (12, false), (13, true), (14, false)]) (l2 := [(4, false), (1, false), (2, false), (9, true), (5, false), (8, false), (10, false), (11, true), (12, false), (13, true), (14, false)]) rfl rfl rfl rfl ?_ ?_)
  ·refine d_end rfl (wn rfl) rfl rfl (py_load Tryz.underlying25 rfl rfl (cell_atL (H3.box 0 rfl) rfl)) (d_fork (l1 := [(2, false), (4, false), (9, true), (5, false), (8, false), (10, false), (11, true), (12, false), (13, true), (14, false)]) (l2 := [(4, false), (2, false), (9, true), (5, false), (8, false), (10, false), (11, true), (12, false), (13, true), (14, false)]) rfl rfl rfl rfl ?_ ?_)
   ·refine d_call rfl (wn rfl) rfl rfl (pc_call Tryz.func168 rfl Tryz_nm168 rfl) (Tryz_clone_i (H3.sees 0 rfl) (by omega)) (fun hS _ _ r _ => hS.trans r.1.no) (fun v33 w83 r33 => ?_)
    obtain ⟨e83, r33⟩ := r33
    obtain ⟨fp33, H84⟩ := H3.res e83 r33
    obtain ⟨a33, k33, q34⟩ := own_slice (H84.mine 2 rfl)
    cases q34
    refine d_end rfl (wn rfl) rfl rfl (py_load Tryz.underlying61 rfl rfl (cell_atL (H84.box 0 rfl) rfl)) (dV rfl rfl (fun zw hx => py_field Tryz.underlying66 rfl Tryz.sizeOf25 rfl rfl) (d_call rfl (wn rfl) rfl rfl (pc_call Tryz.func197 rfl Tryz_nm197 rfl) (Tryz_clone_b (H84.sees 1 rfl) (by omega)) (fun hS _ _ r _ => hS.trans r.1.no) (fun v34 w84 r34 => ?_)))
    obtain ⟨e84, r34⟩ := r34
    obtain ⟨fp34, H85⟩ := H84.res e84 r34
    obtain ⟨a34, k34, q35⟩ := own_slice (H85.mine 3 rfl)
    cases q35
    refine d_call rfl (wn rfl) rfl rfl (pc_call Tryz.func197 rfl Tryz_nm197 rfl) (Tryz_clone_b (H85.sees 2 rfl) (by omega)) (fun hS _ _ r _ => hS.trans r.1.no) (fun v35 w85 r35 => ?_)
    obtain ⟨e85, r35⟩ := r35
    obtain ⟨fp35, H86⟩ := H85.res e85 r35
    obtain ⟨a35, k35, q36⟩ := own_slice (H86.mine 4 rfl)
    cases q36
    refine d_sto rfl (wn rfl) Tryz.sizeOf25 rfl rfl rfl H86 0 rfl rfl (fun _ h e _ => h.trans (e.mono fun _ _ q => by simp [q])) (fun w86 e86 H87 => ?_)
    dsimp only [List.nil_append, List.cons_append, List.set_cons_zero, List.set_cons_succ, layL] at H87
    refine dV rfl rfl (fun zw hx => py_field Tryz.underlying66 rfl Tryz.sizeOf61 rfl rfl) (d_sto rfl (wn rfl) Tryz.sizeOf61 rfl rfl rfl H87 0 rfl rfl (fun _ h e _ => h.trans (e.mono fun _ _ q => by simp [q])) (fun w87 e87 H88 => ?_))
    dsimp only [List.nil_append, List.cons_append, List.set_cons_zero, List.set_cons_succ, layL] at H88
    refine dV rfl rfl (fun zw hx => py_field Tryz.underlying66 rfl Tryz.sizeOf61 rfl rfl) (d_sto rfl (wn rfl) Tryz.sizeOf61 rfl rfl rfl H88 0 rfl rfl (fun _ h e _ => h.trans (e.mono fun _ _ q => by simp [q])) (fun w88 e88 H89 => ?_))
    dsimp only [List.nil_append, List.cons_append, List.set_cons_zero, List.set_cons_succ, layL] at H89
    refine d_nil (W_sr (sV rfl (py_loadS Tryz.underlying66 rfl Tryz.sizeOf66 rfl rfl (At.whole (H89.box 0 rfl))) (s_stoS (wn rfl) Tryz.sizeOf66 rfl rfl rfl rfl H89 1 rfl rfl (fun w89 e89 H90 => ?_))))
    dsimp only [List.nil_append, List.cons_append, List.set_cons_zero, List.set_cons_succ, layL] at H90
    refine s_nil (W_ret (hQ _ _ (finC Tryz.results131 rfl (run_loadVarS Tryz.underlying66 rfl Tryz.sizeOf66 rfl (At.whole (H90.box 1 rfl))) ?_)))
    exact ⟨H90.ext, _, _, _, _, _, _, rfl, Rec.out (H90.sub (.cons _ (.cons _ (.cons_cons _ (.cons_cons _ (.cons_cons _ List.Sublist.slnil)))))) (by assumption)⟩
   ·refine d_end rfl (wn rfl) rfl rfl (py_load Tryz.underlying61 rfl rfl (cell_atL (H3.box 0 rfl) rfl)) (d_call rfl (wn rfl) rfl rfl (pc_call Tryz.func168 rfl Tryz_nm168 rfl) (Tryz_clone_i (H3.sees 0 rfl) (by omega)) (fun hS _ _ r _ => hS.trans r.1.no) (fun v36 w90 r36 => ?_))
    obtain ⟨e90, r36⟩ := r36
    obtain ⟨fp36, H91⟩ := H3.res e90 r36
    obtain ⟨a36, k36, q37⟩ := own_slice (H91.mine 2 rfl)
    cases q37
    refine dV rfl rfl (fun zw hx => py_field Tryz.underlying66 rfl Tryz.sizeOf25 rfl rfl) (d_call rfl (wn rfl) rfl rfl (pc_call Tryz.func197 rfl Tryz_nm197 rfl) (Tryz_clone_b (H91.sees 1 rfl) (by omega)) (fun hS _ _ r _ => hS.trans r.1.no) (fun v37 w91 r37 => ?_))
    obtain ⟨e91, r37⟩ := r37
    obtain ⟨fp37, H92⟩ := H91.res e91 r37
    obtain ⟨a37, k37, q38⟩ := own_slice (H92.mine 3 rfl)
    cases q38
    refine d_call rfl (wn rfl) rfl rfl (pc_call Tryz.func197 rfl Tryz_nm197 rfl) (Tryz_clone_b (H92.sees 2 rfl) (by omega)) (fun hS _ _ r _ => hS.trans r.1.no) (fun v38 w92 r38 => ?_)
    obtain ⟨e92, r38⟩ := r38
    obtain ⟨fp38, H93⟩ := H92.res e92 r38
    obtain ⟨a38, k38, q39⟩ := own_slice (H93.mine 4 rfl)
    cases q39
    refine d_sto rfl (wn rfl) Tryz.sizeOf25 rfl rfl rfl H93 0 rfl rfl (fun _ h e _ => h.trans (e.mono fun _ _ q => by simp [q])) (fun w93 e93 H94 => ?_)
    dsimp only [List.nil_append, List.cons_append, List.set_cons_zero, List.set_cons_succ, layL] at H94
    refine dV rfl rfl (fun zw hx => py_field Tryz.underlying66 rfl Tryz.sizeOf61 rfl rfl) (d_sto rfl (wn rfl) Tryz.sizeOf61 rfl rfl rfl H94 0 rfl rfl (fun _ h e _ => h.trans (e.mono fun _ _ q => by simp [q])) (fun w94 e94 H95 => ?_))
    dsimp only [List.nil_append, List.cons_append, List.set_cons_zero, List.set_cons_succ, layL] at H95
    refine dV rfl rfl (fun zw hx => py_field Tryz.underlying66 rfl Tryz.sizeOf61 rfl rfl) (d_sto rfl (wn rfl) Tryz.sizeOf61 rfl rfl rfl H95 0 rfl rfl (fun _ h e _ => h.trans (e.mono fun _ _ q => by simp [q])) (fun w95 e95 H96 => ?_))
    dsimp only [List.nil_append, List.cons_append, List.set_cons_zero, List.set_cons_succ, layL] at H96
    refine d_nil (W_sr (sV rfl (py_loadS Tryz.underlying66 rfl Tryz.sizeOf66 rfl rfl (At.whole (H96.box 0 rfl))) (s_stoS (wn rfl) Tryz.sizeOf66 rfl rfl rfl rfl H96 1 rfl rfl (fun w96 e96 H97 => ?_))))
    dsimp only [List.nil_append, List.cons_append, List.set_cons_zero, List.set_cons_succ, layL] at H97
    refine s_nil (W_ret (hQ _ _ (finC Tryz.results131 rfl (run_loadVarS Tryz.underlying66 rfl Tryz.sizeOf66 rfl (At.whole (H97.box 1 rfl))) ?_)))
    exact ⟨H97.ext, _, _, _, _, _, _, rfl, Rec.out (H97.sub (.cons _ (.cons _ (.cons_cons _ (.cons_cons _ (.cons_cons _ List.Sublist.slnil)))))) (by assumption)⟩
  ·refine d_end rfl (wn rfl) rfl rfl (py_load Tryz.underlying61 rfl rfl (cell_atL (H3.box 0 rfl) rfl)) (d_end rfl (wn rfl) rfl rfl (py_load Tryz.underlying25 rfl rfl (cell_atL (H3.box 0 rfl) rfl)) (d_call rfl (wn rfl) rfl rfl (pc_call Tryz.func168 rfl Tryz_nm168 rfl) (Tryz_clone_i (H3.sees 0 rfl) (by omega)) (fun hS _ _ r _ => hS.trans r.1.no) (fun v39 w97 r39 => ?_)))
   obtain ⟨e97, r39⟩ := r39
   obtain ⟨fp39, H98⟩ := H3.res e97 r39
   obtain ⟨a39, k39, q40⟩ := own_slice (H98.mine 2 rfl)
   cases q40
   refine dV rfl rfl (fun zw hx => py_field Tryz.underlying66 rfl Tryz.sizeOf25 rfl rfl) (d_call rfl (wn rfl) rfl rfl (pc_call Tryz.func197 rfl Tryz_nm197 rfl) (Tryz_clone_b (H98.sees 1 rfl) (by omega)) (fun hS _ _ r _ => hS.trans r.1.no) (fun v40 w98 r40 => ?_))
   obtain ⟨e98, r40⟩ := r40
   obtain ⟨fp40, H99⟩ := H98.res e98 r40
   obtain ⟨a40, k40, q41⟩ := own_slice (H99.mine 3 rfl)
   cases q41
   refine d_call rfl (wn rfl) rfl rfl (pc_call Tryz.func197 rfl Tryz_nm197 rfl) (Tryz_clone_b (H99.sees 2 rfl) (by omega)) (fun hS _ _ r _ => hS.trans r.1.no) (fun v41 w99 r41 => ?_)
   obtain ⟨e99, r41⟩ := r41
   obtain ⟨fp41, H100⟩ := H99.res e99 r41
   obtain ⟨a41, k41, q42⟩ := own_slice (H100.mine 4 rfl)
   cases q42
   refine d_sto rfl (wn rfl) Tryz.sizeOf25 rfl rfl rfl H100 0 rfl rfl (fun _ h e _ => h.trans (e.mono fun _ _ q => by simp [q])) (fun w100 e100 H101 => ?_)
   dsimp only [List.nil_append, List.cons_append, List.set_cons_zero, List.set_cons_succ, layL] at H101
   refine dV rfl rfl (fun zw hx => py_field Tryz.underlying66 rfl Tryz.sizeOf61 rfl rfl) (d_sto rfl (wn rfl) Tryz.sizeOf61 rfl rfl rfl H101 0 rfl rfl (fun _ h e _ => h.trans (e.mono fun _ _ q => by simp [q])) (fun w101 e101 H102 => ?_))
   dsimp only [List.nil_append, List.cons_append, List.set_cons_zero, List.set_cons_succ, layL] at H102
   refine dV rfl rfl (fun zw hx => py_field Tryz.underlying66 rfl Tryz.sizeOf61 rfl rfl) (d_sto rfl (wn rfl) Tryz.sizeOf61 rfl rfl rfl H102 0 rfl rfl (fun _ h e _ => h.trans (e.mono fun _ _ q => by simp [q])) (fun w102 e102 H103 => ?_))
   dsimp only [List.nil_append, List.cons_append, List.set_cons_zero, List.set_cons_succ, layL] at H103
   refine d_nil (W_sr (sV rfl (py_loadS Tryz.underlying66 rfl Tryz.sizeOf66 rfl rfl (At.whole (H103.box 0 rfl))) (s_stoS (wn rfl) Tryz.sizeOf66 rfl rfl rfl rfl H103 1 rfl rfl (fun w103 e103 H104 => ?_))))
   dsimp only [List.nil_append, List.cons_append, List.set_cons_zero, List.set_cons_succ, layL] at H104
   refine s_nil (W_ret (hQ _ _ (finC Tryz.results131 rfl (run_loadVarS Tryz.underlying66 rfl Tryz.sizeOf66 rfl (At.whole (H104.box 1 rfl))) ?_)))
   exact ⟨H104.ext, _, _, _, _, _, _, rfl, Rec.out (H104.sub (.cons _ (.cons _ (.cons_cons _ (.cons_cons _ (.cons_cons _ List.Sublist.slnil)))))) (by assumption)⟩
theorem Tryz_spec_l5CopyRec {w : World} {r : Rec} {rA6 : Option Addr} {rC6 : Nat} {rA7 : Option Addr} {rC7 : Nat} {rA8 : Option Addr} {rC8 : Nat} (rK : r.Ok) (rS6 : Sees w [.slice rA6 r.Rows.length rC6] r.Rows) (rS7 : Sees w [.slice rA7 r.Data.length rC7] r.Data) (rS8 : Sees w [.slice rA8 r.Delta.length rC8] r.Delta) (hb : szRec r ≤ 1048576) : Ret Tryz.prog 129 #[r.val rA6 rC6 rA7 rC7 rA8 rC8] w fun v w' => Ext No w w' ∧ (∃ A6 C6 A7 C7 A8 C8, v = r.val A6 C6 A7 C7 A8 C8 ∧ Res w w' [.int .i64 r.Kind, .int .i64 r.Seq, .string r.Name, .int .i64 r.Length, .int .i64 r.Group, .int .i64 r.Row, .slice A6 r.Rows.length C6, .slice A7 r.Data.length C7, .slice A8 r.Delta.length C8] r) := by
 have rK2 := rK
 unfold Rec.Ok at rK2
 try unfold I64ok at rK2
 try unfold maxLen at rK2
 have rN2 : r.Name.size ≤ maxLen := by unfold maxLen; omega
 have rL6 := sees_len rS6
 unfold maxLen at rL6
 obtain ⟨rF6, rO6⟩ := rS6
 have rL7 := sees_len rS7
 unfold maxLen at rL7
 obtain ⟨rF7, rO7⟩ := rS7
 have rL8 := sees_len rS8
 unfold maxLen at rL8
 obtain ⟨rF8, rO8⟩ := rS8
 unfold szRec at hb
 refine ret_Q (vs := [r.val rA6 rC6 rA7 rC7 rA8 rC8]) Tryz.func129 rfl Tryz.ntmps129 rfl (fun Q hQ hN => ?_)
 have H0 := Sep.start (w := w) (F := [seen false [.slice rA6 r.Rows.length rC6] r.Rows rF6, seen false [.slice rA7 r.Data.length rC7] r.Data rF7, seen false [.slice rA8 r.Delta.length rC8] r.Delta rF8]) (all_cons rO6 (all_cons rO7 (all_cons rO8 (by simp))))
 refine W_sr (s_box (wn rfl) rfl rfl H0 (fun b1 w1 e1 g1 H1 => ?_))
 refine s_var (wn rfl) rfl Tryz.zeroValue66 H1 (fun b2 w2 e2 g2 H2 => ?_)
 refine s_nil (W_sr (s_lit0 (α := Int) (wn rfl) rfl Tryz.underlying25 Tryz_ty2 H2 (fun b3 w3 e3 g3 H3 => ?_)))
 refine sV rfl (py_field Tryz.underlying66 rfl Tryz.sizeOf25 rfl rfl) (sV rfl (py_load Tryz.underlying25 rfl rfl (cell_atL (H3.box 0 rfl) rfl)) (s_appF (wn rfl) rfl Tryz.underlying25 Tryz_ty2 rfl rfl rfl H3 2 rfl (H3.seen 0 rfl) (by (try simp only [List.length_nil]); unfold maxLen; omega) (by (try simp only [List.length_nil]); omega) (fun v1 w4 fp1 H4 => ?_)))
 refine sV rfl (py_field Tryz.underlying66 rfl Tryz.sizeOf25 rfl rfl) ?_
 obtain ⟨a1, k1, q1⟩ := own_slice (H4.mine 2 rfl)
 cases q1
 refine s_sto (wn rfl) Tryz.sizeOf25 rfl rfl rfl H4 0 rfl rfl (fun w5 e4 H5 => ?_)
 dsimp only [List.nil_append, List.cons_append, List.set_cons_zero, List.set_cons_succ, layL] at H5
 refine s_nil (W_sr (s_lit0 (α := UInt8) (wn rfl) rfl Tryz.underlying61 Tryz_ty5 H5 (fun b4 w6 e5 g4 H6 => ?_)))
 refine sV rfl (py_field Tryz.underlying66 rfl Tryz.sizeOf61 rfl rfl) (sV rfl (py_load Tryz.underlying61 rfl rfl (cell_atL (H6.box 0 rfl) rfl)) (s_appF (wn rfl) rfl Tryz.underlying61 Tryz_ty5 rfl rfl rfl H6 3 rfl (H6.seen 1 rfl) (by (try simp only [List.length_nil]); unfold maxLen; omega) (by (try simp only [List.length_nil]); omega) (fun v2 w7 fp2 H7 => ?_)))
 refine sV rfl (py_field Tryz.underlying66 rfl Tryz.sizeOf61 rfl rfl) ?_
 obtain ⟨a2, k2, q2⟩ := own_slice (H7.mine 3 rfl)
 cases q2
 refine s_sto (wn rfl) Tryz.sizeOf61 rfl rfl rfl H7 0 rfl rfl (fun w8 e6 H8 => ?_)
 dsimp only [List.nil_append, List.cons_append, List.set_cons_zero, List.set_cons_succ, layL] at H8
 refine s_nil (W_sr (s_lit0 (α := UInt8) (wn rfl) rfl Tryz.underlying61 Tryz_ty5 H8 (fun b5 w9 e7 g5 H9 => ?_)))
 refine sV rfl (py_field Tryz.underlying66 rfl Tryz.sizeOf61 rfl rfl) (sV rfl (py_load Tryz.underlying61 rfl rfl (cell_atL (H9.box 0 rfl) rfl)) (s_appF (wn rfl) rfl Tryz.underlying61 Tryz_ty5 rfl rfl rfl H9 4 rfl (H9.seen 2 rfl) (by (try simp only [List.length_nil]); unfold maxLen; omega) (by (try simp only [List.length_nil]); omega) (fun v3 w10 fp3 H10 => ?_)))
 refine sV rfl (py_field Tryz.underlying66 rfl Tryz.sizeOf61 rfl rfl) ?_
 obtain ⟨a3, k3, q3⟩ := own_slice (H10.mine 4 rfl)
 cases q3
 refine s_sto (wn rfl) Tryz.sizeOf61 rfl rfl rfl H10 0 rfl rfl (fun w11 e8 H11 => ?_)
 dsimp only [List.nil_append, List.cons_append, List.set_cons_zero, List.set_cons_succ, layL] at H11
 refine s_nil (W_sr (sV rfl (py_loadS Tryz.underlying66 rfl Tryz.sizeOf66 rfl rfl (At.whole (H11.box 0 rfl))) (s_stoS (wn rfl) Tryz.sizeOf66 rfl rfl rfl rfl H11 1 rfl rfl (fun w12 e9 H12 => ?_))))
 dsimp only [List.nil_append, List.cons_append, List.set_cons_zero, List.set_cons_succ, layL] at H12
 refine s_nil (W_ret (hQ _ _ (finC Tryz.results129 rfl (run_loadVarS Tryz.underlying66 rfl Tryz.sizeOf66 rfl (At.whole (H12.box 1 rfl))) ?_)))
 exact ⟨H12.ext, _, _, _, _, _, _, rfl, Rec.out (H12.sub (.cons _ (.cons _ (.cons_cons _ (.cons_cons _ (.cons_cons _ List.Sublist.slnil)))))) (by assumption)⟩
theorem Tryz_impl_cloneRecs {w : World} {xs : List Rec} {xsA : Option Addr} {xsC : Nat} (xsS : Sees w [.slice xsA xs.length xsC] xs) (hl : szL szRec xs ≤ 1048576) : Ret Tryz.prog 170 #[.slice xsA xs.length xsC] w fun v w' => Ext No w w' ∧ (Res w w' [v] xs) := by
 have xsL := sees_len xsS
 unfold maxLen at xsL
 obtain ⟨xsF, xsO⟩ := xsS
 have hl0 : xs.length ≤ 1048576 := by unfold szL at hl; omega
 refine ret_Q (vs := [.slice xsA xs.length xsC]) Tryz.func170 rfl Tryz.ntmps170 rfl (fun Q hQ hN => ?_)
 have H0 := Sep.start (w := w) (F := [seen false [.slice xsA xs.length xsC] xs xsF]) (all_cons xsO (by simp))
 refine W_sr (sV rfl (py_assign rfl) (s_nil (W_sr (s_lit0 (α := Rec) (wn rfl) rfl Tryz.underlying82 Tryz_ty66 H0 (fun b1 w1 e1 g1 H1 => ?_)))))
 refine sV rfl (py_assign rfl) (s_nil (W_seq (W_sr (sV rfl (py_move rfl) (sV rfl (py_len Tryz.underlying82 rfl) (sV rfl (py_move rfl) (s_nil (W_block (W_loopA (α := Rec) (γ := Nat) (fun k => xs.take k) 0 H1 0 rfl 3 rfl [(2, _), (7, _), (8, _)] ⟨rfl, rfl, rfl, trivial⟩ (fun k => [(9, .int .i64 k)]) (fun k => k ≤ xs.length ∧ True) (fun k => xs.length - k) ⟨rfl, trivial⟩ ⟨by omega, trivial⟩ (fun k vA1 fA1 w2 H2 ⟨hk, _⟩ => ?_))))))))))
 dsimp only [List.cons_append, List.nil_append, List.set_cons_zero, List.set_cons_succ] at H2 ⊢
 refine W_sr (sV rfl (py_lss rfl rfl) (s_nil (W_seq (W_ifd rfl (fun c1 => ?_) (fun c1 => ?_)))))
 ·refine W_skip (W_seq (W_block (W_seq ?_)))
  obtain ⟨hg, hg2⟩ := szL_get hl k (by omega)
  have tl := List.length_take (i := k) (l := xs)
  obtain ⟨eb1, eo1, es1, ef1, ee1, ec1, eO1, eH1, em1⟩ := elem_st (H2.seen 0 rfl) k (by omega)
  obtain ⟨ea1, ek1, ea2, ek2, ea3, ek3, eg1, eg2, eg3, rfl, eq1, eK1, eo2, eo3, eo4⟩ := own_Rec eO1
  have eK1U := eK1
  unfold Rec.Ok at eK1U
  try unfold I64ok at eK1U
  try unfold maxLen at eK1U
  have eP1 := H2.look1 0 rfl eo2 (fun b hb => eH1 b (by rw [eq1]; simp [hb]))
  have eL1 := own_len_le eo2
  unfold maxLen at eL1
  have eP2 := eP1.look1 0 rfl eo3 (fun b hb => eH1 b (by rw [eq1]; simp [hb]))
  have eL2 := own_len_le eo3
  unfold maxLen at eL2
  have eP3 := eP2.look1 0 rfl eo4 (fun b hb => eH1 b (by rw [eq1]; simp [hb]))
  have eL3 := own_len_le eo4
  unfold maxLen at eL3
  refine W_reg (sV rfl (py_elz Tryz.underlying82 Tryz.sizeOf66 rfl rfl ee1 k (by omega) (by omega)) (sV rfl (py_loadS Tryz.underlying66 rfl Tryz.sizeOf66 rfl rfl ec1) (s_var (wn rfl) rfl Tryz.zeroValue66 eP3 (fun b2 w3 e2 g2 H3 => ?_))))
  refine s_stoS (wn rfl) Tryz.sizeOf66 rfl rfl rfl rfl H3 1 rfl rfl (fun w4 e3 H4 => ?_)
  dsimp only [List.nil_append, List.cons_append, List.set_cons_zero, List.set_cons_succ, layL] at H4
  refine s_nil (W_reg (sV rfl (py_move rfl) (sV rfl (py_loadS Tryz.underlying66 rfl Tryz.sizeOf66 rfl rfl (At.whole (H4.box 1 rfl))) (s_call (wn rfl) rfl rfl (pc_call Tryz.func131 rfl Tryz_nm131 rfl) (Tryz_impl_cloneRec (by assumption) (H4.sees 1 rfl) (H4.sees 2 rfl) (H4.sees 3 rfl) (by first | assumption | omega)) (fun v1 w5 r1 => ?_)))))
  obtain ⟨e4, sa1, sk1, sa2, sk2, sa3, sk3, rfl, r1⟩ := r1
  obtain ⟨fp1, H5⟩ := H4.res e4 r1
  refine s_lit1 (wn rfl) rfl Tryz.underlying82 Tryz_ty66 rfl rfl rfl rfl H5 (fun b3 w6 e5 g3 H6 => ?_)
  refine s_app2 (wn rfl) rfl Tryz.underlying82 Tryz_ty66 rfl rfl rfl H6 0 3 2 rfl rfl rfl rfl (by unfold maxLen; omega) (by omega) (fun v2 w7 fp2 H7 => ?_)
  refine sV rfl (py_assign rfl) (s_nil (W_reg (sV rfl (py_add rfl rfl (in64 ⟨by omega, by omega⟩)) (sV rfl (py_move rfl) (s_nil ?_)))))
  exact ⟨(k + 1, _, _), ⟨rfl, rfl, rfl, rfl, rfl, trivial⟩, ⟨by dsimp only; rw [← take_step (xs := xs) (d := default) (by omega)]; exact ((H7.ftake 1).dtake 1), by omega, trivial⟩, by dsimp only; omega⟩
 ·refine W_exit (W_seq ?_)
  obtain rfl : k = xs.length := by omega
  rw [List.take_length] at H2
  refine W_reg (sV rfl (py_move rfl) (sV rfl (py_assign rfl) (s_nil (W_ret (hQ _ _ (fin1 Tryz.results170 rfl ?_))))))
  exact ⟨H2.ext, H2.out 0 rfl⟩
theorem Tryz_spec_l5CopyRecs {w : World} {xs : List Rec} {xsA : Option Addr} {xsC : Nat} (xsS : Sees w [.slice xsA xs.length xsC] xs) (hl : szL szRec xs ≤ 1048576) : Ret Tryz.prog 165 #[.slice xsA xs.length xsC] w fun v w' => Ext No w w' ∧ (Res w w' [v] xs) := by
 have xsL := sees_len xsS
 unfold maxLen at xsL
 obtain ⟨xsF, xsO⟩ := xsS
 have hl0 : xs.length ≤ 1048576 := by unfold szL at hl; omega
 refine ret_Q (vs := [.slice xsA xs.length xsC]) Tryz.func165 rfl Tryz.ntmps165 rfl (fun Q hQ hN => ?_)
 have H0 := Sep.start (w := w) (F := [seen false [.slice xsA xs.length xsC] xs xsF]) (all_cons xsO (by simp))
 refine W_sr (sV rfl (py_assign rfl) (s_nil (W_sr (s_lit0 (α := Rec) (wn rfl) rfl Tryz.underlying82 Tryz_ty66 H0 (fun b1 w1 e1 g1 H1 => ?_)))))
 refine sV rfl (py_assign rfl) (s_nil (W_seq (W_sr (sV rfl (py_assign rfl) (s_nil (W_block (W_loopA (α := Rec) (γ := Nat) (fun k => xs.take k) 0 H1 0 rfl 3 rfl [(0, _), (2, _)] ⟨rfl, rfl, trivial⟩ (fun k => [(4, .int .i64 k)]) (fun k => k ≤ xs.length ∧ True) (fun k => xs.length - k) ⟨rfl, trivial⟩ ⟨by omega, trivial⟩ (fun k vA1 fA1 w2 H2 ⟨hk, _⟩ => ?_))))))))
 dsimp only [List.cons_append, List.nil_append, List.set_cons_zero, List.set_cons_succ] at H2 ⊢
 refine W_seq (W_sr (sV rfl (py_move rfl) (sV rfl (py_move rfl) (sV rfl (py_len Tryz.underlying82 rfl) (sV rfl (py_lss rfl rfl) (s_nil (W_ifd rfl (fun c1 => ?_) (fun c1 => ?_))))))))
 ·refine W_skip (W_seq (W_block ?_))
  obtain ⟨hg, hg2⟩ := szL_get hl k (by omega)
  have tl := List.length_take (i := k) (l := xs)
  obtain ⟨eb1, eo1, es1, ef1, ee1, ec1, eO1, eH1, em1⟩ := elem_st (H2.seen 0 rfl) k (by omega)
  obtain ⟨ea1, ek1, ea2, ek2, ea3, ek3, eg1, eg2, eg3, rfl, eq1, eK1, eo2, eo3, eo4⟩ := own_Rec eO1
  have eK1U := eK1
  unfold Rec.Ok at eK1U
  try unfold I64ok at eK1U
  try unfold maxLen at eK1U
  have eP1 := H2.look1 0 rfl eo2 (fun b hb => eH1 b (by rw [eq1]; simp [hb]))
  have eL1 := own_len_le eo2
  unfold maxLen at eL1
  have eP2 := eP1.look1 0 rfl eo3 (fun b hb => eH1 b (by rw [eq1]; simp [hb]))
  have eL2 := own_len_le eo3
  unfold maxLen at eL2
  have eP3 := eP2.look1 0 rfl eo4 (fun b hb => eH1 b (by rw [eq1]; simp [hb]))
  have eL3 := own_len_le eo4
  unfold maxLen at eL3
  refine W_reg (sV rfl (py_move rfl) (sV rfl (py_move rfl) (sV rfl (py_move rfl) (sV rfl (py_elz Tryz.underlying82 Tryz.sizeOf66 rfl rfl ee1 k (by omega) (by omega)) (sV rfl (py_loadS Tryz.underlying66 rfl Tryz.sizeOf66 rfl rfl ec1) (s_call (wn rfl) rfl rfl (pc_call Tryz.func129 rfl Tryz_nm129 rfl) (Tryz_spec_l5CopyRec (by assumption) (eP3.sees 1 rfl) (eP3.sees 2 rfl) (eP3.sees 3 rfl) (by first | assumption | omega)) (fun v1 w3 r1 => ?_)))))))
  obtain ⟨e2, sa1, sk1, sa2, sk2, sa3, sk3, rfl, r1⟩ := r1
  obtain ⟨fp1, H3⟩ := eP3.res e2 r1
  refine s_lit1 (wn rfl) rfl Tryz.underlying82 Tryz_ty66 rfl rfl rfl rfl H3 (fun b2 w4 e3 g2 H4 => ?_)
  refine s_app2 (wn rfl) rfl Tryz.underlying82 Tryz_ty66 rfl rfl rfl H4 0 2 1 rfl rfl rfl rfl (by unfold maxLen; omega) (by omega) (fun v2 w5 fp2 H5 => ?_)
  refine sV rfl (py_assign rfl) (s_nil (W_reg (sV rfl (py_move rfl) (sV rfl (py_add rfl rfl (in64 ⟨by omega, by omega⟩)) (sV rfl (py_assign rfl) (s_nil ?_))))))
  exact ⟨(k + 1, _, _), ⟨rfl, rfl, rfl, rfl, trivial⟩, ⟨by dsimp only; rw [← take_step (xs := xs) (d := default) (by omega)]; exact ((H5.ftake 1).dtake 1), by omega, trivial⟩, by dsimp only; omega⟩
 ·refine W_exit (W_seq ?_)
  obtain rfl : k = xs.length := by omega
  rw [List.take_length] at H2
  refine W_reg (sV rfl (py_move rfl) (sV rfl (py_assign rfl) (s_nil (W_ret (hQ _ _ (fin1 Tryz.results165 rfl ?_))))))
  exact ⟨H2.ext, H2.out 0 rfl⟩
theorem Tryz_spec_l5CopyBlock {w : World} {x : Block} {xA1 : Option Addr} {xC1 : Nat} (xK : x.Ok) (xS1 : Sees w [.slice xA1 x.Bytes.length xC1] x.Bytes) (hb : szBlock x ≤ 1048576) : Ret Tryz.prog 164 #[x.val xA1 xC1] w fun v w' => Ext No w w' ∧ (∃ A1 C1, v = x.val A1 C1 ∧ Res w w' [.int .i64 x.Stamp, .slice A1 x.Bytes.length C1] x) := by
 have xK2 := xK
 unfold Block.Ok at xK2
 try unfold I64ok at xK2
 try unfold maxLen at xK2
 have xL1 := sees_len xS1
 unfold maxLen at xL1
 obtain ⟨xF1, xO1⟩ := xS1
 unfold szBlock at hb
 refine ret_Q (vs := [x.val xA1 xC1]) Tryz.func164 rfl Tryz.ntmps164 rfl (fun Q hQ hN => ?_)
 have H0 := Sep.start (w := w) (F := [seen false [.slice xA1 x.Bytes.length xC1] x.Bytes xF1]) (all_cons xO1 (by simp))
 refine W_sr (s_box (wn rfl) rfl rfl H0 (fun b1 w1 e1 g1 H1 => ?_))
 refine s_var (wn rfl) rfl Tryz.zeroValue152 H1 (fun b2 w2 e2 g2 H2 => ?_)
 refine s_nil (W_seq (W_drw (S := Ext No _) [(0, true), (1, true), (3, true), (4, true), (2, false), (5, false), (6, true), (7, false)] (by kernel_rfl) (by kernel_rfl) (by kernel_rfl) rfl (fun _ => Ext.refl.drawn _) (fun q1 => ?_)))
 have H3 := H2.drawn q1
 refine dV rfl rfl (fun zw hx => py_field Tryz.underlying152 rfl Tryz.sizeOf2 rfl rfl) (dV rfl rfl (fun zw hx => py_load Tryz.underlying2 rfl rfl (cell_atL (hx.heap (H3.box 0 rfl)) rfl)) (dV rfl rfl (fun zw hx => py_field Tryz.underlying152 rfl Tryz.sizeOf61 rfl rfl) (dV rfl rfl (fun zw hx => py_load Tryz.underlying61 rfl rfl (cell_atL (hx.heap (H3.box 0 rfl)) rfl)) (d_S (fun hs1 => ?_) (by simp)))))
 refine d_lit0 (α := UInt8) rfl (wn rfl) rfl Tryz.underlying61 Tryz_ty5 H3 (fun _ h e => h.trans e.no) (fun b3 w3 e3 g3 H4 => ?_)
 refine d_S (fun hs2 => ?_) (by simp)
 refine d_appFS rfl (wn rfl) rfl Tryz.underlying61 Tryz_ty5 rfl rfl rfl H4 2 rfl (H4.seen 0 rfl) (by (try simp only [List.length_nil]); unfold maxLen; omega) (by (try simp only [List.length_nil]); omega) (fun b hb => by simp only [List.mem_singleton] at hb; rw [hb]; exact Nat.le_trans hs1.size g3) (fun v1 w4 fp1 sb1 H5 => ?_)
 try dsimp only [List.nil_append, List.cons_append, List.set_cons_zero, List.set_cons_succ] at H5
 obtain ⟨a1, k1, q2⟩ := own_slice (H5.mine 2 rfl)
 cases q2
 refine dV rfl rfl (fun zw hx => py_buildS Tryz_pl152 rfl rfl) (d_stoS rfl (wn rfl) Tryz.sizeOf152 rfl rfl rfl rfl H5 1 rfl rfl (fun _ _ _ hr => absurd rfl hr) (fun w5 e4 H6 => ?_))
 dsimp only [List.nil_append, List.cons_append, List.set_cons_zero, List.set_cons_succ, layL] at H6
 refine d_nil (W_ret (hQ _ _ (finC Tryz.results164 rfl (run_loadVarS Tryz.underlying152 rfl Tryz.sizeOf152 rfl (At.whole (H6.box 1 rfl))) ?_)))
 exact ⟨H6.ext, _, _, rfl, Block.out (H6.sub (.cons _ (.cons _ (.cons_cons _ List.Sublist.slnil)))) (by assumption)⟩
theorem Tryz_impl_cloneDrive {w : World} {x : Drive} {xA1 : Option Addr} {xC1 : Nat} (xK : x.Ok) (xS1 : Sees w [.slice xA1 x.Blocks.length xC1] x.Blocks) (hb : szDrive x ≤ 1048576) : Ret Tryz.prog 169 #[x.val xA1 xC1] w fun v w' => Ext No w w' ∧ (∃ A1 C1, v = x.val A1 C1 ∧ Res w w' [.bool x.Wiped, .slice A1 x.Blocks.length C1] x) := by
 have xK2 := xK
 unfold Drive.Ok at xK2
 try unfold I64ok at xK2
 try unfold maxLen at xK2
 have xL1 := sees_len xS1
 unfold maxLen at xL1
 obtain ⟨xF1, xO1⟩ := xS1
 unfold szDrive at hb
 have hl0 : x.Blocks.length ≤ 1048576 := by unfold szL at hb; omega
 refine ret_Q (vs := [x.val xA1 xC1]) Tryz.func169 rfl Tryz.ntmps169 rfl (fun Q hQ hN => ?_)
 have H0 := Sep.start (w := w) (F := [seen false [.slice xA1 x.Blocks.length xC1] x.Blocks xF1]) (all_cons xO1 (by simp))
 refine W_sr (s_box (wn rfl) rfl rfl H0 (fun b1 w1 e1 g1 H1 => ?_))
 refine s_var (wn rfl) rfl Tryz.zeroValue150 H1 (fun b2 w2 e2 g2 H2 => ?_)
 refine s_nil (W_sr (sV rfl (py_field Tryz.underlying150 rfl Tryz.sizeOf4 rfl rfl) (sV rfl (py_load Tryz.underlying4 rfl rfl (cell_atL (H2.box 0 rfl) rfl)) (sV rfl (py_buildS Tryz_pl150 rfl rfl) (s_var (wn rfl) rfl Tryz.zeroValue150 H2 (fun b3 w3 e3 g3 H3 => ?_))))))
 refine s_stoS (wn rfl) Tryz.sizeOf150 rfl rfl rfl rfl H3 2 rfl rfl (fun w4 e4 H4 => ?_)
 dsimp only [List.nil_append, List.cons_append, List.set_cons_zero, List.set_cons_succ, layL] at H4
 refine s_nil (W_seq (W_sr (sV rfl (py_field Tryz.underlying150 rfl Tryz.sizeOf148 rfl rfl) (sV rfl (py_load Tryz.underlying148 rfl rfl (cell_atL (H4.box 0 rfl) rfl)) (sV rfl (py_len Tryz.underlying148 rfl) (sV rfl (py_move rfl) (s_nil (W_block ?_))))))))
 have H6 := H4.nilW (α := Block)
 try dsimp only [List.nil_append, List.cons_append, List.set_cons_zero, List.set_cons_succ] at H6
 refine W_loopB (α := Block) (γ := Nat) (fun k => x.Blocks.take k) 0 H6 3 2 1 rfl rfl rfl rfl [(2, _), (3, _), (10, _), (11, _)] ⟨rfl, rfl, rfl, rfl, trivial⟩ (fun k => [(12, .int .i64 k)]) (fun k => k ≤ x.Blocks.length ∧ True) (fun k => x.Blocks.length - k) ⟨rfl, trivial⟩ ⟨by omega, trivial⟩ (fun k vA1 fA1 w5 H5 ⟨hk, _⟩ => ?_)
 dsimp only [List.cons_append, List.nil_append, List.set_cons_zero, List.set_cons_succ] at H5 ⊢
 refine W_sr (sV rfl (py_lss rfl rfl) (s_nil (W_seq (W_ifd rfl (fun c1 => ?_) (fun c1 => ?_)))))
 ·refine W_skip (W_seq (W_block (W_seq ?_)))
  obtain ⟨hg, hg2⟩ := szL_get hb k (by omega)
  unfold szBlock at hg
  have tl := List.length_take (i := k) (l := x.Blocks)
  obtain ⟨eb1, eo1, es1, ef1, ee1, ec1, eO1, eH1, em1⟩ := elem_st (H5.seen 0 rfl) k (by omega)
  obtain ⟨ea1, ek1, eg1, rfl, eq1, eK1, eo2⟩ := own_Block eO1
  have eK1U := eK1
  unfold Block.Ok at eK1U
  try unfold I64ok at eK1U
  try unfold maxLen at eK1U
  have eP1 := H5.look1 0 rfl eo2 (fun b hb => eH1 b (by rw [eq1]; simp [hb]))
  have eL1 := own_len_le eo2
  unfold maxLen at eL1
  refine W_reg (sV rfl (py_elz Tryz.underlying148 Tryz.sizeOf152 rfl rfl ee1 k (by omega) (by omega)) (sV rfl (py_loadS Tryz.underlying152 rfl Tryz.sizeOf152 rfl rfl ec1) (s_var (wn rfl) rfl Tryz.zeroValue152 eP1 (fun b4 w6 e5 g4 H7 => ?_))))
  refine s_stoS (wn rfl) Tryz.sizeOf152 rfl rfl rfl rfl H7 4 rfl rfl (fun w7 e6 H8 => ?_)
  dsimp only [List.nil_append, List.cons_append, List.set_cons_zero, List.set_cons_succ, layL] at H8
  refine s_nil (W_drw (S := Ext (· ∈ fA1) _) [(0, true), (1, true), (2, true), (3, true), (4, true), (5, true), (6, false), (7, true), (8, false), (9, false), (10, true), (11, false)] (by kernel_rfl) (by kernel_rfl) (by kernel_rfl) rfl (fun _ => Ext.refl.drawn _) (fun q1 => ?_))
  have H9 := H8.drawn q1
  refine dV rfl rfl (fun zw hx => py_field Tryz.underlying150 rfl Tryz.sizeOf148 rfl rfl) (dV rfl rfl (fun zw hx => py_load Tryz.underlying148 rfl rfl (cell_atL (hx.heapM (H9.boff 2 rfl 3 rfl rfl) (H9.box 2 rfl)) rfl)) (dV rfl rfl (fun zw hx => py_field Tryz.underlying152 rfl Tryz.sizeOf2 rfl rfl) (dV rfl rfl (fun zw hx => py_load Tryz.underlying2 rfl rfl (cell_atL (hx.heapM (H9.boff 4 rfl 3 rfl rfl) (H9.box 4 rfl)) rfl)) (dV rfl rfl (fun zw hx => py_field Tryz.underlying152 rfl Tryz.sizeOf61 rfl rfl) (dV rfl rfl (fun zw hx => py_load Tryz.underlying61 rfl rfl (cell_atL (hx.heapM (H9.boff 4 rfl 3 rfl rfl) (H9.box 4 rfl)) rfl)) (d_call rfl (wn rfl) rfl rfl (pc_call Tryz.func197 rfl Tryz_nm197 rfl) (Tryz_clone_b (H9.sees 1 rfl) (by omega)) (fun hS _ _ r _ => hS.trans r.1.no) (fun v1 w8 r1 => ?_)))))))
  obtain ⟨e7, r1⟩ := r1
  obtain ⟨fp1, H10⟩ := H9.res e7 r1
  obtain ⟨a1, k1, q2⟩ := own_slice (H10.mine 5 rfl)
  cases q2
  refine dV rfl rfl (fun zw hx => py_buildS Tryz_pl152 rfl rfl) (d_lit1 rfl (wn rfl) rfl Tryz.underlying148 Tryz_ty152 rfl rfl rfl rfl H10 (fun _ h e => h.trans e.no) (fun b5 w9 e8 g5 H11 => ?_))
  have H12 := H11.asSt 5 ((x.Blocks.getD k default) : Block) rfl (Block.own_mk (x := (x.Blocks.getD k default)) (by assumption) (H11.mine 5 rfl))
  try dsimp only [List.nil_append, List.cons_append, List.set_cons_zero, List.set_cons_succ] at H12
  refine d_app2 rfl (wn rfl) rfl Tryz.underlying148 Tryz_ty152 rfl rfl rfl H12 3 6 5 rfl rfl rfl rfl (by unfold maxLen; omega) (by omega) (fun _ h e => h.trans e) (fun v2 w10 fp2 H13 => ?_)
  refine dV rfl rfl (fun zw hx => py_field Tryz.underlying150 rfl Tryz.sizeOf148 rfl rfl) ?_
  obtain ⟨a2, k2, q3⟩ := own_slice (H13.mine 3 rfl)
  cases q3
  refine d_sto rfl (wn rfl) Tryz.sizeOf148 rfl rfl rfl H13 2 rfl rfl (fun _ _ _ hr => absurd rfl hr) (fun w11 e9 H14 => ?_)
  dsimp only [List.nil_append, List.cons_append, List.set_cons_zero, List.set_cons_succ, layL] at H14
  refine d_nil (W_reg (sV rfl (py_add rfl rfl (in64 ⟨by omega, by omega⟩)) (sV rfl (py_move rfl) (s_nil ?_))))
  exact ⟨(k + 1, _, _), ⟨rfl, rfl, rfl, rfl, rfl, trivial⟩, ⟨by dsimp only; rw [← take_step (xs := x.Blocks) (d := default) (by omega)]; exact ((H14.ftake 1).dtake 4), by omega, trivial⟩, by dsimp only; omega⟩
 ·refine W_exit (W_seq ?_)
  obtain rfl : k = x.Blocks.length := by omega
  rw [List.take_length] at H5
  refine W_reg (sV rfl (py_loadS Tryz.underlying150 rfl Tryz.sizeOf150 rfl rfl (At.whole (H5.box 2 rfl))) ?_)
  obtain ⟨a3, k3, q4⟩ := own_slice (H5.mine 3 rfl)
  cases q4
  refine s_stoS (wn rfl) Tryz.sizeOf150 rfl rfl rfl rfl H5 1 rfl rfl (fun w12 e10 H15 => ?_)
  dsimp only [List.nil_append, List.cons_append, List.set_cons_zero, List.set_cons_succ, layL] at H15
  refine s_nil (W_ret (hQ _ _ (finC Tryz.results169 rfl (run_loadVarS Tryz.underlying150 rfl Tryz.sizeOf150 rfl (At.whole (H15.box 1 rfl))) ?_)))
  exact ⟨H15.ext, _, _, rfl, Drive.out (H15.sub (.cons _ (.cons _ (.cons _ (.cons_cons _ List.Sublist.slnil))))) (by assumption)⟩
theorem Tryz_impl_cloneWorld {w : World} {z : Wld} {zA9 : Option Addr} {zC9 : Nat} {zA10 : Option Addr} {zC10 : Nat} {zA11 : Option Addr} {zC11 : Nat} (zK : z.Ok) (zS9 : Sees w [.slice zA9 z.Groups.length zC9] z.Groups) (zS10 : Sees w [.slice zA10 z.On.length zC10] z.On) (zS11 : Sees w [.slice zA11 z.Tapes.length zC11] z.Tapes) (hb : szWld z ≤ 1048576) : Ret Tryz.prog 103 #[z.val zA9 zC9 zA10 zC10 zA11 zC11] w fun v w' => Ext No w w' ∧ (∃ A9 C9 A10 C10 A11 C11, v = z.val A9 C9 A10 C10 A11 C11 ∧ Res w w' [.int .i64 z.Shape.Groups, .int .i64 z.Shape.Column, .int .i64 z.Shape.Data, .int .i64 z.Shape.Spare, .int .i64 z.Shape.Rows, .int .i64 z.Shape.Cap, .int .i64 z.Shape.Batch, .int .i64 z.Shape.Queue, .int .i64 z.Shape.Stage, .slice A9 z.Groups.length C9, .slice A10 z.On.length C10, .slice A11 z.Tapes.length C11, .int .i64 z.Writes, .int .i64 z.Stop, .bool z.Down] z) := by
 have zK2 := zK
 unfold Wld.Ok Shape.Ok at zK2
 try unfold I64ok at zK2
 try unfold maxLen at zK2
 have zL9 := sees_len zS9
 unfold maxLen at zL9
 obtain ⟨zF9, zO9⟩ := zS9
 have zL10 := sees_len zS10
 unfold maxLen at zL10
 obtain ⟨zF10, zO10⟩ := zS10
 have zL11 := sees_len zS11
 unfold maxLen at zL11
 obtain ⟨zF11, zO11⟩ := zS11
 have hcu : szWld z = szL (szL szDrive) z.Groups + z.On.length + szL szTape z.Tapes := rfl
 have hg0 : szL (szL szDrive) z.Groups ≤ 1048576 := by omega
 have ht0 : szL szTape z.Tapes ≤ 1048576 := by omega
 have hgl : z.Groups.length ≤ 1048576 := by unfold szL at hg0; omega
 have htl : z.Tapes.length ≤ 1048576 := by unfold szL at ht0; omega
 refine ret_Q (vs := [z.val zA9 zC9 zA10 zC10 zA11 zC11]) Tryz.func103 rfl Tryz.ntmps103 rfl (fun Q hQ hN => ?_)
 have H0 := Sep.start (w := w) (F := [seen false [.slice zA9 z.Groups.length zC9] z.Groups zF9, seen false [.slice zA10 z.On.length zC10] z.On zF10, seen false [.slice zA11 z.Tapes.length zC11] z.Tapes zF11]) (all_cons zO9 (all_cons zO10 (all_cons zO11 (by simp))))
 refine W_sr (s_box (wn rfl) rfl rfl H0 (fun b1 w1 e1 g1 H1 => ?_))
 refine s_var (wn rfl) rfl Tryz.zeroValue37 H1 (fun b2 w2 e2 g2 H2 => ?_)
 refine s_nil (W_sr (sV rfl (py_loadS Tryz.underlying37 rfl Tryz.sizeOf37 rfl rfl (At.whole (H2.box 0 rfl))) (s_var (wn rfl) rfl Tryz.zeroValue37 H2 (fun b3 w3 e3 g3 H3 => ?_))))
 refine s_stoS (wn rfl) Tryz.sizeOf37 rfl rfl rfl rfl H3 2 rfl rfl (fun w4 e4 H4 => ?_)
 dsimp only [List.nil_append, List.cons_append, List.set_cons_zero, List.set_cons_succ, layL] at H4
 refine s_nil (W_sr (sV rfl (py_field Tryz.underlying37 rfl Tryz.sizeOf25 rfl rfl) (sV rfl (py_load Tryz.underlying25 rfl rfl (cell_atL (H4.box 0 rfl) rfl)) (s_call (wn rfl) rfl rfl (pc_call Tryz.func168 rfl Tryz_nm168 rfl) (Tryz_clone_i (H4.sees 1 rfl) (by omega)) (fun v1 w5 r1 => ?_)))))
 obtain ⟨e5, r1⟩ := r1
 obtain ⟨fp1, H5⟩ := H4.res e5 r1
 obtain ⟨a1, k1, q1⟩ := own_slice (H5.mine 3 rfl)
 cases q1
 refine sV rfl (py_field Tryz.underlying37 rfl Tryz.sizeOf34 rfl rfl) (s_sto (wn rfl) Tryz.sizeOf34 rfl rfl rfl H5 2 rfl rfl (fun w6 e6 H6 => ?_))
 dsimp only [List.nil_append, List.cons_append, List.set_cons_zero, List.set_cons_succ, layL] at H6
 refine sV rfl (py_field Tryz.underlying37 rfl Tryz.sizeOf25 rfl rfl) (s_sto (wn rfl) Tryz.sizeOf25 rfl rfl rfl H6 2 rfl rfl (fun w7 e7 H7 => ?_))
 dsimp only [List.nil_append, List.cons_append, List.set_cons_zero, List.set_cons_succ, layL] at H7
 refine sV rfl (py_field Tryz.underlying37 rfl Tryz.sizeOf35 rfl rfl) (s_sto (wn rfl) Tryz.sizeOf35 rfl rfl rfl H7 2 rfl rfl (fun w8 e8 H8 => ?_))
 dsimp only [List.nil_append, List.cons_append, List.set_cons_zero, List.set_cons_succ, layL] at H8
 refine s_nil (W_seq (W_sr (sV rfl (py_field Tryz.underlying37 rfl Tryz.sizeOf34 rfl rfl) (sV rfl (py_load Tryz.underlying34 rfl rfl (cell_atL (H8.box 0 rfl) rfl)) (sV rfl (py_len Tryz.underlying34 rfl) (sV rfl (py_move rfl) (s_nil (W_block ?_))))))))
 have H10 := H8.nilW (α := (List Drive))
 try dsimp only [List.nil_append, List.cons_append, List.set_cons_zero, List.set_cons_succ] at H10
 refine W_loopB (α := (List Drive)) (γ := Nat) (fun k => z.Groups.take k) 0 H10 4 2 9 rfl rfl rfl rfl [(1, _), (2, _), (3, _), (19, _), (20, _)] ⟨rfl, rfl, rfl, rfl, rfl, trivial⟩ (fun k => [(21, .int .i64 k)]) (fun k => k ≤ z.Groups.length ∧ True) (fun k => z.Groups.length - k) ⟨rfl, trivial⟩ ⟨by omega, trivial⟩ (fun k vA1 fA1 w9 H9 ⟨hk, _⟩ => ?_)
 dsimp only [List.cons_append, List.nil_append, List.set_cons_zero, List.set_cons_succ] at H9 ⊢
 refine W_sr (sV rfl (py_lss rfl rfl) (s_nil (W_seq (W_ifd rfl (fun c1 => ?_) (fun c1 => ?_)))))
 ·refine W_skip (W_seq (W_block (W_seq ?_)))
  have hgk : szL szDrive (z.Groups.getD k []) ≤ 1048576 := (szL_get hg0 k (by omega)).1
  have hgkl : (z.Groups.getD k []).length ≤ 1048576 := by unfold szL at hgk; omega
  have tlg := List.length_take (i := k) (l := z.Groups)
  obtain ⟨eb1, eo1, ea1, ek1, ef1, ee1, ec1, eO1, eH1⟩ := elem_sl (H9.seen 0 rfl) k (by omega)
  have eP1 := H9.look1 0 rfl eO1 eH1
  refine W_reg (sV rfl (py_elz Tryz.underlying34 Tryz.sizeOf147 rfl rfl ee1 k (by omega) (by omega)) (sV rfl (py_load Tryz.underlying147 rfl rfl ec1) (sV rfl (py_assign rfl) (s_nil (W_sr (s_lit0 (α := Drive) (wn rfl) rfl Tryz.underlying147 Tryz_ty150 eP1 (fun b4 w10 e9 g4 H11 => ?_)))))))
  refine sV rfl (py_assign rfl) (s_nil (W_seq (W_sr (sV rfl (py_move rfl) (sV rfl (py_len Tryz.underlying147 rfl) (sV rfl (py_move rfl) (s_nil (W_block (W_loopA (α := Drive) (γ := Nat) (fun m2 => (z.Groups.getD k []).take m2) 0 H11 5 rfl 6 rfl [(1, _), (2, _), (3, _), (19, _), (20, _), (21, _), (26, _), (27, _)] ⟨rfl, rfl, rfl, rfl, rfl, rfl, rfl, rfl, trivial⟩ (fun m2 => [(28, .int .i64 m2)]) (fun m2 => m2 ≤ (z.Groups.getD k []).length ∧ True) (fun m2 => (z.Groups.getD k []).length - m2) ⟨rfl, trivial⟩ ⟨by omega, trivial⟩ (fun m2 vA2 fA2 w11 H12 ⟨hm2, _⟩ => ?_))))))))))
  dsimp only [List.cons_append, List.nil_append, List.set_cons_zero, List.set_cons_succ] at H12 ⊢
  refine W_sr (sV rfl (py_lss rfl rfl) (s_nil (W_seq (W_ifd rfl (fun c2 => ?_) (fun c2 => ?_)))))
  ·refine W_skip (W_seq (W_block (W_seq ?_)))
   have hdk : szDrive ((z.Groups.getD k []).getD m2 default) ≤ 1048576 := (szL_get hgk m2 (by omega)).1
   have tld := List.length_take (i := m2) (l := (z.Groups.getD k []))
   obtain ⟨eb2, eo2, es1, ef2, ee2, ec2, eO2, eH2, em1⟩ := elem_st (H12.seen 3 rfl) m2 (by omega)
   obtain ⟨ea2, ek2, eg1, rfl, eq1, eK1, eo3⟩ := own_Drive eO2
   have eP2 := H12.look1 3 rfl eo3 (fun b hb => eH2 b (by rw [eq1]; simp [hb]))
   have eL1 := own_len_le eo3
   unfold maxLen at eL1
   refine W_reg (sV rfl (py_elz Tryz.underlying147 Tryz.sizeOf150 rfl rfl ee2 m2 (by omega) (by omega)) (sV rfl (py_loadS Tryz.underlying150 rfl Tryz.sizeOf150 rfl rfl ec2) (s_var (wn rfl) rfl Tryz.zeroValue150 eP2 (fun b5 w12 e10 g5 H13 => ?_))))
   refine s_stoS (wn rfl) Tryz.sizeOf150 rfl rfl rfl rfl H13 6 rfl rfl (fun w13 e11 H14 => ?_)
   dsimp only [List.nil_append, List.cons_append, List.set_cons_zero, List.set_cons_succ, layL] at H14
   refine s_nil (W_reg (sV rfl (py_move rfl) (sV rfl (py_loadS Tryz.underlying150 rfl Tryz.sizeOf150 rfl rfl (At.whole (H14.box 6 rfl))) (s_call (wn rfl) rfl rfl (pc_call Tryz.func169 rfl Tryz_nm169 rfl) (Tryz_impl_cloneDrive (by assumption) (H14.sees 4 rfl) (by first | assumption | omega)) (fun v2 w14 r2 => ?_)))))
   obtain ⟨e12, sa1, sk1, rfl, r2⟩ := r2
   obtain ⟨fp2, H15⟩ := H14.res e12 r2
   refine s_lit1 (wn rfl) rfl Tryz.underlying147 Tryz_ty150 rfl rfl rfl rfl H15 (fun b6 w15 e13 g6 H16 => ?_)
   refine s_app2 (wn rfl) rfl Tryz.underlying147 Tryz_ty150 rfl rfl rfl H16 5 8 7 rfl rfl rfl rfl (by unfold maxLen; omega) (by omega) (fun v3 w16 fp3 H17 => ?_)
   refine sV rfl (py_assign rfl) (s_nil (W_reg (sV rfl (py_add rfl rfl (in64 ⟨by omega, by omega⟩)) (sV rfl (py_move rfl) (s_nil ?_)))))
   exact ⟨(m2 + 1, _, _), ⟨rfl, rfl, rfl, rfl, rfl, rfl, rfl, rfl, rfl, rfl, trivial⟩, ⟨by dsimp only; rw [← take_step (xs := (z.Groups.getD k [])) (d := default) (by omega)]; exact ((H17.ftake 4).dtake 6), by omega, trivial⟩, by dsimp only; omega⟩
  ·refine W_exit ?_
   obtain rfl : m2 = (z.Groups.getD k []).length := by omega
   rw [List.take_length] at H12
   refine W_reg (sV rfl (py_field Tryz.underlying37 rfl Tryz.sizeOf34 rfl rfl) (sV rfl (py_load Tryz.underlying34 rfl rfl (cell_atL (H12.box 2 rfl) rfl)) (sV rfl (py_move rfl) ?_)))
   obtain ⟨a2, k2, q2⟩ := own_slice (H12.mine 5 rfl)
   cases q2
   refine s_lit1 (wn rfl) rfl Tryz.underlying34 Tryz_ty147 rfl rfl rfl rfl H12 (fun b7 w17 e14 g7 H18 => ?_)
   refine s_app2 (wn rfl) rfl Tryz.underlying34 Tryz_ty147 rfl rfl rfl H18 4 6 5 rfl rfl rfl rfl (by unfold maxLen; omega) (by omega) (fun v4 w18 fp4 H19 => ?_)
   refine sV rfl (py_field Tryz.underlying37 rfl Tryz.sizeOf34 rfl rfl) ?_
   obtain ⟨a3, k3, q3⟩ := own_slice (H19.mine 4 rfl)
   cases q3
   refine s_sto (wn rfl) Tryz.sizeOf34 rfl rfl rfl H19 2 rfl rfl (fun w19 e15 H20 => ?_)
   dsimp only [List.nil_append, List.cons_append, List.set_cons_zero, List.set_cons_succ, layL] at H20
   refine s_nil (W_reg (sV rfl (py_add rfl rfl (in64 ⟨by omega, by omega⟩)) (sV rfl (py_move rfl) (s_nil ?_))))
   exact ⟨(k + 1, _, _), ⟨rfl, rfl, rfl, rfl, rfl, rfl, trivial⟩, ⟨by dsimp only; rw [← take_step (xs := z.Groups) (d := []) (by omega)]; exact ((H20.ftake 3).dtake 5), by omega, trivial⟩, by dsimp only; omega⟩
 ·refine W_exit (W_seq (W_seq ?_))
  obtain rfl : k = z.Groups.length := by omega
  rw [List.take_length] at H9
  refine W_reg (sV rfl (py_field Tryz.underlying37 rfl Tryz.sizeOf35 rfl rfl) (sV rfl (py_load Tryz.underlying35 rfl rfl (cell_atL (H9.box 0 rfl) rfl)) (sV rfl (py_len Tryz.underlying35 rfl) (sV rfl (py_move rfl) (s_nil (W_block ?_))))))
  have H22 := H9.nilW (α := Tape)
  try dsimp only [List.nil_append, List.cons_append, List.set_cons_zero, List.set_cons_succ] at H22
  refine W_loopB (α := Tape) (γ := Nat) (fun k => z.Tapes.take k) 0 H22 5 2 11 rfl rfl rfl rfl [(2, _), (3, _), (46, _), (47, _)] ⟨rfl, rfl, rfl, rfl, trivial⟩ (fun k => [(48, .int .i64 k)]) (fun k => k ≤ z.Tapes.length ∧ True) (fun k => z.Tapes.length - k) ⟨rfl, trivial⟩ ⟨by omega, trivial⟩ (fun k vA3 fA3 w20 H21 ⟨hk, _⟩ => ?_)
  dsimp only [List.cons_append, List.nil_append, List.set_cons_zero, List.set_cons_succ] at H21 ⊢
  refine W_sr (sV rfl (py_lss rfl rfl) (s_nil (W_seq (W_ifd rfl (fun c3 => ?_) (fun c3 => ?_)))))
  ·refine W_skip (W_seq (W_block (W_seq ?_)))
   have htk : szTape (z.Tapes.getD k default) ≤ 1048576 := (szL_get ht0 k (by omega)).1
   unfold szTape at htk
   have tlt := List.length_take (i := k) (l := z.Tapes)
   obtain ⟨eb3, eo4, es2, ef3, ee3, ec3, eO3, eH3, em2⟩ := elem_st (H21.seen 2 rfl) k (by omega)
   obtain ⟨ea3, ek3, eg2, rfl, eq2, eK2, eo5⟩ := own_Tape eO3
   have eP3 := H21.look1 2 rfl eo5 (fun b hb => eH3 b (by rw [eq2]; simp [hb]))
   have eL2 := own_len_le eo5
   unfold maxLen at eL2
   refine W_reg (sV rfl (py_elz Tryz.underlying35 Tryz.sizeOf155 rfl rfl ee3 k (by omega) (by omega)) (sV rfl (py_loadS Tryz.underlying155 rfl Tryz.sizeOf155 rfl rfl ec3) (s_var (wn rfl) rfl Tryz.zeroValue155 eP3 (fun b8 w21 e16 g8 H23 => ?_))))
   refine s_stoS (wn rfl) Tryz.sizeOf155 rfl rfl rfl rfl H23 6 rfl rfl (fun w22 e17 H24 => ?_)
   dsimp only [List.nil_append, List.cons_append, List.set_cons_zero, List.set_cons_succ, layL] at H24
   refine s_nil (W_drw (S := Ext (· ∈ fA3) _) [(0, true), (1, true), (2, true), (3, true), (4, true), (5, true), (6, false), (7, true), (8, false), (9, false), (10, true), (11, false)] (by kernel_rfl) (by kernel_rfl) (by kernel_rfl) rfl (fun _ => Ext.refl.drawn _) (fun q4 => ?_))
   have H25 := H24.drawn q4
   refine dV rfl rfl (fun zw hx => py_field Tryz.underlying37 rfl Tryz.sizeOf35 rfl rfl) (dV rfl rfl (fun zw hx => py_load Tryz.underlying35 rfl rfl (cell_atL (hx.heapM (H25.boff 2 rfl 5 rfl rfl) (H25.box 2 rfl)) rfl)) (dV rfl rfl (fun zw hx => py_field Tryz.underlying155 rfl Tryz.sizeOf4 rfl rfl) (dV rfl rfl (fun zw hx => py_load Tryz.underlying4 rfl rfl (cell_atL (hx.heapM (H25.boff 6 rfl 5 rfl rfl) (H25.box 6 rfl)) rfl)) (dV rfl rfl (fun zw hx => py_field Tryz.underlying155 rfl Tryz.sizeOf82 rfl rfl) (dV rfl rfl (fun zw hx => py_load Tryz.underlying82 rfl rfl (cell_atL (hx.heapM (H25.boff 6 rfl 5 rfl rfl) (H25.box 6 rfl)) rfl)) (d_call rfl (wn rfl) rfl rfl (pc_call Tryz.func170 rfl Tryz_nm170 rfl) (Tryz_impl_cloneRecs (H25.sees 3 rfl) (by first | assumption | omega)) (fun hS _ _ r _ => hS.trans r.1.no) (fun v5 w23 r3 => ?_)))))))
   obtain ⟨e18, r3⟩ := r3
   obtain ⟨fp5, H26⟩ := H25.res e18 r3
   obtain ⟨a4, k4, q5⟩ := own_slice (H26.mine 7 rfl)
   cases q5
   refine dV rfl rfl (fun zw hx => py_buildS Tryz_pl155 rfl rfl) (d_lit1 rfl (wn rfl) rfl Tryz.underlying35 Tryz_ty155 rfl rfl rfl rfl H26 (fun _ h e => h.trans e.no) (fun b9 w24 e19 g9 H27 => ?_))
   have H28 := H27.asSt 7 ((z.Tapes.getD k default) : Tape) rfl (Tape.own_mk (x := (z.Tapes.getD k default)) (by assumption) (H27.mine 7 rfl))
   try dsimp only [List.nil_append, List.cons_append, List.set_cons_zero, List.set_cons_succ] at H28
   refine d_app2 rfl (wn rfl) rfl Tryz.underlying35 Tryz_ty155 rfl rfl rfl H28 5 8 7 rfl rfl rfl rfl (by unfold maxLen; omega) (by omega) (fun _ h e => h.trans e) (fun v6 w25 fp6 H29 => ?_)
   refine dV rfl rfl (fun zw hx => py_field Tryz.underlying37 rfl Tryz.sizeOf35 rfl rfl) ?_
   obtain ⟨a5, k5, q6⟩ := own_slice (H29.mine 5 rfl)
   cases q6
   refine d_sto rfl (wn rfl) Tryz.sizeOf35 rfl rfl rfl H29 2 rfl rfl (fun _ _ _ hr => absurd rfl hr) (fun w26 e20 H30 => ?_)
   dsimp only [List.nil_append, List.cons_append, List.set_cons_zero, List.set_cons_succ, layL] at H30
   refine d_nil (W_reg (sV rfl (py_add rfl rfl (in64 ⟨by omega, by omega⟩)) (sV rfl (py_move rfl) (s_nil ?_))))
   exact ⟨(k + 1, _, _), ⟨rfl, rfl, rfl, rfl, rfl, trivial⟩, ⟨by dsimp only; rw [← take_step (xs := z.Tapes) (d := default) (by omega)]; exact ((H30.ftake 3).dtake 6), by omega, trivial⟩, by dsimp only; omega⟩
  ·refine W_exit (W_seq ?_)
   obtain rfl : k = z.Tapes.length := by omega
   rw [List.take_length] at H21
   refine W_reg (sV rfl (py_loadS Tryz.underlying37 rfl Tryz.sizeOf37 rfl rfl (At.whole (H21.box 2 rfl))) ?_)
   obtain ⟨a6, k6, q7⟩ := own_slice (H21.mine 4 rfl)
   cases q7
   obtain ⟨a7, k7, q8⟩ := own_slice (H21.mine 5 rfl)
   cases q8
   refine s_stoS (wn rfl) Tryz.sizeOf37 rfl rfl rfl rfl H21 1 rfl rfl (fun w27 e21 H31 => ?_)
   dsimp only [List.nil_append, List.cons_append, List.set_cons_zero, List.set_cons_succ, layL] at H31
   refine s_nil (W_ret (hQ _ _ (finC Tryz.results103 rfl (run_loadVarS Tryz.underlying37 rfl Tryz.sizeOf37 rfl (At.whole (H31.box 1 rfl))) ?_)))
   exact ⟨H31.ext, _, _, _, _, _, _, rfl, Wld.out ((H31.sub (.cons _ (.cons _ (.cons _ (.cons_cons _ (.cons_cons _ (.cons_cons _ List.Sublist.slnil))))))).perm (.swap _ _ _)) (by assumption)⟩
theorem Tryz_spec_l5Copy {w : World} {z : Wld} {zA9 : Option Addr} {zC9 : Nat} {zA10 : Option Addr} {zC10 : Nat} {zA11 : Option Addr} {zC11 : Nat} (zK : z.Ok) (zS9 : Sees w [.slice zA9 z.Groups.length zC9] z.Groups) (zS10 : Sees w [.slice zA10 z.On.length zC10] z.On) (zS11 : Sees w [.slice zA11 z.Tapes.length zC11] z.Tapes) (hb : szWld z ≤ 1048576) : Ret Tryz.prog 100 #[z.val zA9 zC9 zA10 zC10 zA11 zC11] w fun v w' => Ext No w w' ∧ (∃ A9 C9 A10 C10 A11 C11, v = z.val A9 C9 A10 C10 A11 C11 ∧ Res w w' [.int .i64 z.Shape.Groups, .int .i64 z.Shape.Column, .int .i64 z.Shape.Data, .int .i64 z.Shape.Spare, .int .i64 z.Shape.Rows, .int .i64 z.Shape.Cap, .int .i64 z.Shape.Batch, .int .i64 z.Shape.Queue, .int .i64 z.Shape.Stage, .slice A9 z.Groups.length C9, .slice A10 z.On.length C10, .slice A11 z.Tapes.length C11, .int .i64 z.Writes, .int .i64 z.Stop, .bool z.Down] z) := by
 have zK2 := zK
 unfold Wld.Ok Shape.Ok at zK2
 try unfold I64ok at zK2
 try unfold maxLen at zK2
 have zL9 := sees_len zS9
 unfold maxLen at zL9
 obtain ⟨zF9, zO9⟩ := zS9
 have zL10 := sees_len zS10
 unfold maxLen at zL10
 obtain ⟨zF10, zO10⟩ := zS10
 have zL11 := sees_len zS11
 unfold maxLen at zL11
 obtain ⟨zF11, zO11⟩ := zS11
 have hcu : szWld z = szL (szL szDrive) z.Groups + z.On.length + szL szTape z.Tapes := rfl
 have hg0 : szL (szL szDrive) z.Groups ≤ 1048576 := by omega
 have ht0 : szL szTape z.Tapes ≤ 1048576 := by omega
 have hgl : z.Groups.length ≤ 1048576 := by unfold szL at hg0; omega
 have htl : z.Tapes.length ≤ 1048576 := by unfold szL at ht0; omega
 refine ret_Q (vs := [z.val zA9 zC9 zA10 zC10 zA11 zC11]) Tryz.func100 rfl Tryz.ntmps100 rfl (fun Q hQ hN => ?_)
 have H0 := Sep.start (w := w) (F := [seen false [.slice zA9 z.Groups.length zC9] z.Groups zF9, seen false [.slice zA10 z.On.length zC10] z.On zF10, seen false [.slice zA11 z.Tapes.length zC11] z.Tapes zF11]) (all_cons zO9 (all_cons zO10 (all_cons zO11 (by simp))))
 refine W_sr (s_box (wn rfl) rfl rfl H0 (fun b1 w1 e1 g1 H1 => ?_))
 refine s_var (wn rfl) rfl Tryz.zeroValue37 H1 (fun b2 w2 e2 g2 H2 => ?_)
 refine s_nil (W_sr (sV rfl (py_loadS Tryz.underlying37 rfl Tryz.sizeOf37 rfl rfl (At.whole (H2.box 0 rfl))) (s_var (wn rfl) rfl Tryz.zeroValue37 H2 (fun b3 w3 e3 g3 H3 => ?_))))
 refine s_stoS (wn rfl) Tryz.sizeOf37 rfl rfl rfl rfl H3 2 rfl rfl (fun w4 e4 H4 => ?_)
 dsimp only [List.nil_append, List.cons_append, List.set_cons_zero, List.set_cons_succ, layL] at H4
 refine s_nil (W_sr (sV rfl (py_field Tryz.underlying37 rfl Tryz.sizeOf34 rfl rfl) (s_sto (wn rfl) Tryz.sizeOf34 rfl rfl rfl H4 2 rfl rfl (fun w5 e5 H5 => ?_))))
 dsimp only [List.nil_append, List.cons_append, List.set_cons_zero, List.set_cons_succ, layL] at H5
 refine s_nil (W_seq (W_sr (sV rfl (py_assign rfl) (s_nil (W_block ?_)))))
 have H7 := H5.nilW (α := (List Drive))
 try dsimp only [List.nil_append, List.cons_append, List.set_cons_zero, List.set_cons_succ] at H7
 refine W_loopB (α := (List Drive)) (γ := Nat) (fun k => z.Groups.take k) 0 H7 3 2 9 rfl rfl rfl rfl [(1, _), (2, _), (3, _)] ⟨rfl, rfl, rfl, trivial⟩ (fun k => [(4, .int .i64 k)]) (fun k => k ≤ z.Groups.length ∧ True) (fun k => z.Groups.length - k) ⟨rfl, trivial⟩ ⟨by omega, trivial⟩ (fun k vA1 fA1 w6 H6 ⟨hk, _⟩ => ?_)
 dsimp only [List.cons_append, List.nil_append, List.set_cons_zero, List.set_cons_succ] at H6 ⊢
 refine W_seq (W_sr (sV rfl (py_move rfl) (sV rfl (py_field Tryz.underlying37 rfl Tryz.sizeOf34 rfl rfl) (sV rfl (py_load Tryz.underlying34 rfl rfl (cell_atL (H6.box 0 rfl) rfl)) (sV rfl (py_len Tryz.underlying34 rfl) (sV rfl (py_lss rfl rfl) (s_nil (W_ifd rfl (fun c1 => ?_) (fun c1 => ?_)))))))))
 ·refine W_skip (W_seq (W_block (W_seq ?_)))
  have hgk : szL szDrive (z.Groups.getD k []) ≤ 1048576 := (szL_get hg0 k (by omega)).1
  have hgkl : (z.Groups.getD k []).length ≤ 1048576 := by unfold szL at hgk; omega
  have tlg := List.length_take (i := k) (l := z.Groups)
  refine W_reg (s_lit0 (α := Drive) (wn rfl) rfl Tryz.underlying147 Tryz_ty150 H6 (fun b4 w7 e6 g4 H8 => ?_))
  refine sV rfl (py_assign rfl) (s_nil (W_seq (W_sr (sV rfl (py_assign rfl) (s_nil (W_block (W_loopA (α := Drive) (γ := Nat) (fun m2 => (z.Groups.getD k []).take m2) 0 H8 4 rfl 5 rfl [(1, _), (2, _), (3, _), (4, _)] ⟨rfl, rfl, rfl, rfl, trivial⟩ (fun m2 => [(6, .int .i64 m2)]) (fun m2 => m2 ≤ (z.Groups.getD k []).length ∧ True) (fun m2 => (z.Groups.getD k []).length - m2) ⟨rfl, trivial⟩ ⟨by omega, trivial⟩ (fun m2 vA2 fA2 w8 H9 ⟨hm2, _⟩ => ?_))))))))
  dsimp only [List.cons_append, List.nil_append, List.set_cons_zero, List.set_cons_succ] at H9 ⊢
  refine W_seq (W_seq ?_)
  obtain ⟨eb1, eo1, ea1, ek1, ef1, ee1, ec1, eO1, eH1⟩ := elem_sl (H9.seen 0 rfl) k (by omega)
  have eP1 := H9.look1 0 rfl eO1 eH1
  refine W_reg (sV rfl (py_move rfl) (sV rfl (py_field Tryz.underlying37 rfl Tryz.sizeOf34 rfl rfl) (sV rfl (py_load Tryz.underlying34 rfl rfl (cell_atL (eP1.box 0 rfl) rfl)) (sV rfl (py_move rfl) (sV rfl (py_elz Tryz.underlying34 Tryz.sizeOf147 rfl rfl ee1 k (by omega) (by omega)) (sV rfl (py_load Tryz.underlying147 rfl rfl ec1) (sV rfl (py_len Tryz.underlying147 rfl) (sV rfl (py_lss rfl rfl) (s_nil (W_ifd rfl (fun c2 => ?_) (fun c2 => ?_)))))))))))
  ·refine W_skip (W_seq (W_block (W_seq ?_)))
   have hdk : szDrive ((z.Groups.getD k []).getD m2 default) ≤ 1048576 := (szL_get hgk m2 (by omega)).1
   have tld := List.length_take (i := m2) (l := (z.Groups.getD k []))
   obtain ⟨eb2, eo2, ea2, ek2, ef2, ee2, ec2, eO2, eH2⟩ := elem_sl (eP1.seen 0 rfl) k (by omega)
   have eP2 := eP1.look1 0 rfl eO2 eH2
   obtain ⟨eb3, eo3, es1, ef3, ee3, ec3, eO3, eH3, em1⟩ := elem_st (eP2.seen 4 rfl) m2 (by omega)
   obtain ⟨ea3, ek3, eg1, rfl, eq1, eK1, eo4⟩ := own_Drive eO3
   have eP3 := eP2.look1 4 rfl eo4 (fun b hb => eH3 b (by rw [eq1]; simp [hb]))
   have eL1 := own_len_le eo4
   unfold maxLen at eL1
   refine W_reg (sV rfl (py_field Tryz.underlying37 rfl Tryz.sizeOf34 rfl rfl) (sV rfl (py_load Tryz.underlying34 rfl rfl (cell_atL (eP3.box 0 rfl) rfl)) (sV rfl (py_move rfl) (sV rfl (py_elz Tryz.underlying34 Tryz.sizeOf147 rfl rfl ee2 k (by omega) (by omega)) (sV rfl (py_load Tryz.underlying147 rfl rfl ec2) (sV rfl (py_move rfl) (sV rfl (py_elz Tryz.underlying147 Tryz.sizeOf150 rfl rfl ee3 m2 (by omega) (by omega)) (sV rfl (py_field Tryz.underlying150 rfl Tryz.sizeOf4 rfl rfl) (sV rfl (py_load Tryz.underlying4 rfl rfl (at_cell ec3 0 rfl)) (sV rfl (py_buildS Tryz_pl150 rfl rfl) (s_var (wn rfl) rfl Tryz.zeroValue150 eP3 (fun b5 w9 e7 g5 H10 => ?_))))))))))))
   refine s_stoS (wn rfl) Tryz.sizeOf150 rfl rfl rfl rfl H10 5 rfl rfl (fun w10 e8 H11 => ?_)
   dsimp only [List.nil_append, List.cons_append, List.set_cons_zero, List.set_cons_succ, layL] at H11
   refine s_nil (W_seq (W_sr (sV rfl (py_assign rfl) (s_nil (W_block ?_)))))
   have H13 := H11.nilW (α := Block)
   try dsimp only [List.nil_append, List.cons_append, List.set_cons_zero, List.set_cons_succ] at H13
   refine W_loopB (α := Block) (γ := Nat) (fun m3 => ((z.Groups.getD k []).getD m2 default).Blocks.take m3) 0 H13 6 5 1 rfl rfl rfl rfl [(1, _), (2, _), (3, _), (4, _), (5, _), (6, _), (7, _)] ⟨rfl, rfl, rfl, rfl, rfl, rfl, rfl, trivial⟩ (fun m3 => [(8, .int .i64 m3)]) (fun m3 => m3 ≤ ((z.Groups.getD k []).getD m2 default).Blocks.length ∧ True) (fun m3 => ((z.Groups.getD k []).getD m2 default).Blocks.length - m3) ⟨rfl, trivial⟩ ⟨by omega, trivial⟩ (fun m3 vA3 fA3 w11 H12 ⟨hm3, _⟩ => ?_)
   dsimp only [List.cons_append, List.nil_append, List.set_cons_zero, List.set_cons_succ] at H12 ⊢
   refine W_seq (W_seq ?_)
   skip
   obtain ⟨eb4, eo5, ea4, ek4, ef4, ee4, ec4, eO4, eH4⟩ := elem_sl (H12.seen 0 rfl) k (by omega)
   have eP4 := H12.look1 0 rfl eO4 eH4
   obtain ⟨eb5, eo6, es2, ef5, ee5, ec5, eO5, eH5, em2⟩ := elem_st (eP4.seen 6 rfl) m2 (by omega)
   obtain ⟨ea5, ek5, eg2, rfl, eq2, eK2, eo7⟩ := own_Drive eO5
   have eP5 := eP4.look1 6 rfl eo7 (fun b hb => eH5 b (by rw [eq2]; simp [hb]))
   have eL2 := own_len_le eo7
   unfold maxLen at eL2
   refine W_reg (sV rfl (py_move rfl) (sV rfl (py_field Tryz.underlying37 rfl Tryz.sizeOf34 rfl rfl) (sV rfl (py_load Tryz.underlying34 rfl rfl (cell_atL (eP5.box 0 rfl) rfl)) (sV rfl (py_move rfl) (sV rfl (py_elz Tryz.underlying34 Tryz.sizeOf147 rfl rfl ee4 k (by omega) (by omega)) (sV rfl (py_load Tryz.underlying147 rfl rfl ec4) (sV rfl (py_move rfl) (sV rfl (py_elz Tryz.underlying147 Tryz.sizeOf150 rfl rfl ee5 m2 (by omega) (by omega)) (sV rfl (py_field Tryz.underlying150 rfl Tryz.sizeOf148 rfl rfl) (sV rfl (py_load Tryz.underlying148 rfl rfl (at_cell ec5 1 rfl)) (sV rfl (py_len Tryz.underlying148 rfl) (sV rfl (py_lss rfl rfl) (s_nil (W_ifd rfl (fun c3 => ?_) (fun c3 => ?_)))))))))))))))
   ·refine W_skip (W_seq (W_block ?_))
    have hbl : ((z.Groups.getD k []).getD m2 default).Blocks.length ≤ 1048576 := by unfold szDrive szL at hdk; omega
    have hbk : szBlock (((z.Groups.getD k []).getD m2 default).Blocks.getD m3 default) ≤ 1048576 := (szL_get (by unfold szDrive at hdk; exact hdk) m3 (by omega)).1
    have tlb := List.length_take (i := m3) (l := ((z.Groups.getD k []).getD m2 default).Blocks)
    obtain ⟨eb6, eo8, ea6, ek6, ef6, ee6, ec6, eO6, eH6, em3⟩ := elem_slm (eP5.seen 0 rfl) k (by omega)
    have eP6 := eP5.look1 0 rfl eO6 eH6
    obtain ⟨eb7, eo9, es3, ef7, ee7, ec7, eO7, eH7, em4⟩ := elem_st (eP6.seen 8 rfl) m2 (by omega)
    obtain ⟨ea7, ek7, eg3, rfl, eq3, eK3, eo10⟩ := own_Drive eO7
    have eP7 := eP6.look1 8 rfl eo10 (fun b hb => eH7 b (by rw [eq3]; simp [hb]))
    have eL3 := own_len_le eo10
    unfold maxLen at eL3
    obtain ⟨eb8, eo11, es4, ef8, ee8, ec8, eO8, eH8, em5⟩ := elem_st (eP7.seen 9 rfl) m3 (by omega)
    obtain ⟨ea8, ek8, eg4, rfl, eq4, eK4, eo12⟩ := own_Block eO8
    have eK4U := eK4
    unfold Block.Ok at eK4U
    try unfold I64ok at eK4U
    try unfold maxLen at eK4U
    have eP8 := eP7.look1 9 rfl eo12 (fun b hb => eH8 b (by rw [eq4]; simp [hb]))
    have eL4 := own_len_le eo12
    unfold maxLen at eL4
    refine W_drw (S := Ext (· ∈ fA3) _) [(0, true), (1, true), (2, true), (3, true), (4, true), (5, true), (6, true), (7, true), (8, true), (9, true), (10, true), (11, true), (12, true), (13, true), (14, false), (15, false), (16, false), (17, true), (18, false)] (by kernel_rfl) (by kernel_rfl) (by kernel_rfl) rfl (fun _ => Ext.refl.drawn _) (fun q1 => ?_)
    have H14 := eP8.drawn q1
    refine dV rfl rfl (fun zw hx => py_field Tryz.underlying150 rfl Tryz.sizeOf148 rfl rfl) (dV rfl rfl (fun zw hx => py_load Tryz.underlying148 rfl rfl (cell_atL (hx.heapM (H14.boff 5 rfl 6 rfl rfl) (H14.box 5 rfl)) rfl)) (dV rfl rfl (fun zw hx => py_field Tryz.underlying37 rfl Tryz.sizeOf34 rfl rfl) (dV rfl rfl (fun zw hx => py_load Tryz.underlying34 rfl rfl (cell_atL (hx.heapM (H14.boff 0 rfl 6 rfl rfl) (H14.box 0 rfl)) rfl)) (dV rfl rfl (fun zw hx => py_move rfl) (dV rfl rfl (fun zw hx => py_elz Tryz.underlying34 Tryz.sizeOf147 rfl rfl ee6 k (by omega) (by omega)) (dV rfl rfl (fun zw hx => py_load Tryz.underlying147 rfl rfl (hx.cellM (H14.off 0 rfl 6 rfl em3) ec6)) (dV rfl rfl (fun zw hx => py_move rfl) (dV rfl rfl (fun zw hx => py_elz Tryz.underlying147 Tryz.sizeOf150 rfl rfl ee7 m2 (by omega) (by omega)) (dV rfl rfl (fun zw hx => py_field Tryz.underlying150 rfl Tryz.sizeOf148 rfl rfl) (dV rfl rfl (fun zw hx => py_load Tryz.underlying148 rfl rfl (at_cell (hx.atM (H14.off 8 rfl 6 rfl em4) ec7) 1 rfl)) (dV rfl rfl (fun zw hx => py_move rfl) (dV rfl rfl (fun zw hx => py_elz Tryz.underlying148 Tryz.sizeOf152 rfl rfl ee8 m3 (by omega) (by omega)) (dV rfl rfl (fun zw hx => py_loadS Tryz.underlying152 rfl Tryz.sizeOf152 rfl rfl (hx.atM (H14.off 9 rfl 6 rfl em5) ec8)) (d_call rfl (wn rfl) rfl rfl (pc_call Tryz.func164 rfl Tryz_nm164 rfl) (Tryz_spec_l5CopyBlock (by assumption) (H14.sees 10 rfl) (by first | assumption | omega)) (fun hS _ _ r _ => hS.trans r.1.no) (fun v1 w12 r1 => ?_)))))))))))))))
    obtain ⟨e9, sa1, sk1, rfl, r1⟩ := r1
    obtain ⟨fp1, H15⟩ := H14.res e9 r1
    refine d_lit1 rfl (wn rfl) rfl Tryz.underlying148 Tryz_ty152 rfl rfl rfl rfl H15 (fun _ h e => h.trans e.no) (fun b6 w13 e10 g6 H16 => ?_)
    refine d_app2 rfl (wn rfl) rfl Tryz.underlying148 Tryz_ty152 rfl rfl rfl H16 6 8 7 rfl rfl rfl rfl (by unfold maxLen; omega) (by omega) (fun _ h e => h.trans e) (fun v2 w14 fp2 H17 => ?_)
    refine dV rfl rfl (fun zw hx => py_field Tryz.underlying150 rfl Tryz.sizeOf148 rfl rfl) ?_
    obtain ⟨a1, k1, q2⟩ := own_slice (H17.mine 6 rfl)
    cases q2
    refine d_sto rfl (wn rfl) Tryz.sizeOf148 rfl rfl rfl H17 5 rfl rfl (fun _ _ _ hr => absurd rfl hr) (fun w15 e11 H18 => ?_)
    dsimp only [List.nil_append, List.cons_append, List.set_cons_zero, List.set_cons_succ, layL] at H18
    refine d_nil (W_reg (sV rfl (py_move rfl) (sV rfl (py_add rfl rfl (in64 ⟨by omega, by omega⟩)) (sV rfl (py_assign rfl) (s_nil ?_)))))
    exact ⟨(m3 + 1, _, _), ⟨rfl, rfl, rfl, rfl, rfl, rfl, rfl, rfl, trivial⟩, ⟨by dsimp only; rw [← take_step (xs := ((z.Groups.getD k []).getD m2 default).Blocks) (d := default) (by omega)]; exact ((H18.ftake 6).dtake 7), by omega, trivial⟩, by dsimp only; omega⟩
   ·refine W_exit ?_
    obtain rfl : m3 = ((z.Groups.getD k []).getD m2 default).Blocks.length := by omega
    rw [List.take_length] at eP5
    refine W_reg (sV rfl (py_move rfl) (sV rfl (py_loadS Tryz.underlying150 rfl Tryz.sizeOf150 rfl rfl (At.whole (eP5.box 5 rfl))) (s_lit1 (wn rfl) rfl Tryz.underlying147 Tryz_ty150 rfl rfl rfl rfl eP5 (fun b7 w16 e12 g7 H19 => ?_))))
    obtain ⟨a2, k2, q3⟩ := own_slice (H19.mine 6 rfl)
    cases q3
    have H20 := H19.asSt 6 (((z.Groups.getD k []).getD m2 default) : Drive) rfl (Drive.own_mk (x := ((z.Groups.getD k []).getD m2 default)) (by assumption) (H19.mine 6 rfl))
    try dsimp only [List.nil_append, List.cons_append, List.set_cons_zero, List.set_cons_succ] at H20
    refine s_app2 (wn rfl) rfl Tryz.underlying147 Tryz_ty150 rfl rfl rfl H20 4 7 6 rfl rfl rfl rfl (by unfold maxLen; omega) (by omega) (fun v3 w17 fp3 H21 => ?_)
    refine sV rfl (py_assign rfl) (s_nil (W_reg (sV rfl (py_move rfl) (sV rfl (py_add rfl rfl (in64 ⟨by omega, by omega⟩)) (sV rfl (py_assign rfl) (s_nil ?_))))))
    exact ⟨(m2 + 1, _, _), ⟨rfl, rfl, rfl, rfl, rfl, rfl, trivial⟩, ⟨by dsimp only; rw [← take_step (xs := (z.Groups.getD k [])) (d := default) (by omega)]; exact ((H21.ftake 3).dtake 5), by omega, trivial⟩, by dsimp only; omega⟩
  ·refine W_exit ?_
   obtain rfl : m2 = (z.Groups.getD k []).length := by omega
   rw [List.take_length] at eP1
   refine W_reg (sV rfl (py_field Tryz.underlying37 rfl Tryz.sizeOf34 rfl rfl) (sV rfl (py_load Tryz.underlying34 rfl rfl (cell_atL (eP1.box 2 rfl) rfl)) (sV rfl (py_move rfl) ?_)))
   obtain ⟨a3, k3, q4⟩ := own_slice (eP1.mine 4 rfl)
   cases q4
   refine s_lit1 (wn rfl) rfl Tryz.underlying34 Tryz_ty147 rfl rfl rfl rfl eP1 (fun b8 w18 e13 g8 H22 => ?_)
   refine s_app2 (wn rfl) rfl Tryz.underlying34 Tryz_ty147 rfl rfl rfl H22 3 5 4 rfl rfl rfl rfl (by unfold maxLen; omega) (by omega) (fun v4 w19 fp4 H23 => ?_)
   refine sV rfl (py_field Tryz.underlying37 rfl Tryz.sizeOf34 rfl rfl) ?_
   obtain ⟨a4, k4, q5⟩ := own_slice (H23.mine 3 rfl)
   cases q5
   refine s_sto (wn rfl) Tryz.sizeOf34 rfl rfl rfl H23 2 rfl rfl (fun w20 e14 H24 => ?_)
   dsimp only [List.nil_append, List.cons_append, List.set_cons_zero, List.set_cons_succ, layL] at H24
   refine s_nil (W_reg (sV rfl (py_move rfl) (sV rfl (py_add rfl rfl (in64 ⟨by omega, by omega⟩)) (sV rfl (py_assign rfl) (s_nil ?_)))))
   exact ⟨(k + 1, _, _), ⟨rfl, rfl, rfl, rfl, trivial⟩, ⟨by dsimp only; rw [← take_step (xs := z.Groups) (d := []) (by omega)]; exact ((H24.ftake 3).dtake 4), by omega, trivial⟩, by dsimp only; omega⟩
 ·refine W_exit (W_seq ?_)
  obtain rfl : k = z.Groups.length := by omega
  rw [List.take_length] at H6
  refine W_reg (s_lit0 (α := Int) (wn rfl) rfl Tryz.underlying25 Tryz_ty2 H6 (fun b9 w21 e15 g9 H25 => ?_))
  refine sV rfl (py_field Tryz.underlying37 rfl Tryz.sizeOf25 rfl rfl) (sV rfl (py_load Tryz.underlying25 rfl rfl (cell_atL (H25.box 0 rfl) rfl)) (s_appF (wn rfl) rfl Tryz.underlying25 Tryz_ty2 rfl rfl rfl H25 4 rfl (H25.seen 1 rfl) (by (try simp only [List.length_nil]); unfold maxLen; omega) (by (try simp only [List.length_nil]); omega) (fun v5 w22 fp5 H26 => ?_)))
  refine sV rfl (py_field Tryz.underlying37 rfl Tryz.sizeOf25 rfl rfl) ?_
  obtain ⟨a5, k5, q6⟩ := own_slice (H26.mine 4 rfl)
  cases q6
  refine s_sto (wn rfl) Tryz.sizeOf25 rfl rfl rfl H26 2 rfl rfl (fun w23 e16 H27 => ?_)
  dsimp only [List.nil_append, List.cons_append, List.set_cons_zero, List.set_cons_succ, layL] at H27
  refine s_nil (W_sr (sV rfl (py_field Tryz.underlying37 rfl Tryz.sizeOf35 rfl rfl) (s_sto (wn rfl) Tryz.sizeOf35 rfl rfl rfl H27 2 rfl rfl (fun w24 e17 H28 => ?_))))
  dsimp only [List.nil_append, List.cons_append, List.set_cons_zero, List.set_cons_succ, layL] at H28
  refine s_nil (W_seq (W_sr (sV rfl (py_assign rfl) (s_nil (W_block ?_)))))
  have H30 := H28.nilW (α := Tape)
  try dsimp only [List.nil_append, List.cons_append, List.set_cons_zero, List.set_cons_succ] at H30
  refine W_loopB (α := Tape) (γ := Nat) (fun k => z.Tapes.take k) 0 H30 5 2 11 rfl rfl rfl rfl [(1, _), (2, _), (3, _)] ⟨rfl, rfl, rfl, trivial⟩ (fun k => [(9, .int .i64 k)]) (fun k => k ≤ z.Tapes.length ∧ True) (fun k => z.Tapes.length - k) ⟨rfl, trivial⟩ ⟨by omega, trivial⟩ (fun k vA4 fA4 w25 H29 ⟨hk, _⟩ => ?_)
  dsimp only [List.cons_append, List.nil_append, List.set_cons_zero, List.set_cons_succ] at H29 ⊢
  refine W_seq (W_sr (sV rfl (py_move rfl) (sV rfl (py_field Tryz.underlying37 rfl Tryz.sizeOf35 rfl rfl) (sV rfl (py_load Tryz.underlying35 rfl rfl (cell_atL (H29.box 0 rfl) rfl)) (sV rfl (py_len Tryz.underlying35 rfl) (sV rfl (py_lss rfl rfl) (s_nil (W_ifd rfl (fun c4 => ?_) (fun c4 => ?_)))))))))
  ·refine W_skip (W_seq (W_block ?_))
   have htk : szTape (z.Tapes.getD k default) ≤ 1048576 := (szL_get ht0 k (by omega)).1
   unfold szTape at htk
   have tlt := List.length_take (i := k) (l := z.Tapes)
   obtain ⟨eb9, eo13, es5, ef9, ee9, ec9, eO9, eH9, em6⟩ := elem_st (H29.seen 2 rfl) k (by omega)
   obtain ⟨ea9, ek9, eg5, rfl, eq5, eK5, eo14⟩ := own_Tape eO9
   have eP9 := H29.look1 2 rfl eo14 (fun b hb => eH9 b (by rw [eq5]; simp [hb]))
   have eL5 := own_len_le eo14
   unfold maxLen at eL5
   refine W_drw (S := Ext (· ∈ fA4) _) [(0, true), (1, true), (2, true), (3, true), (4, true), (5, true), (6, true), (7, true), (8, true), (9, true), (10, true), (11, true), (12, true), (13, true), (14, false), (15, true), (16, false), (17, false), (18, true), (19, false)] (by kernel_rfl) (by kernel_rfl) (by kernel_rfl) rfl (fun _ => Ext.refl.drawn _) (fun q7 => ?_)
   have H31 := eP9.drawn q7
   refine dV rfl rfl (fun zw hx => py_field Tryz.underlying37 rfl Tryz.sizeOf35 rfl rfl) (dV rfl rfl (fun zw hx => py_load Tryz.underlying35 rfl rfl (cell_atL (hx.heapM (H31.boff 2 rfl 5 rfl rfl) (H31.box 2 rfl)) rfl)) (dV rfl rfl (fun zw hx => py_field Tryz.underlying37 rfl Tryz.sizeOf35 rfl rfl) (dV rfl rfl (fun zw hx => py_load Tryz.underlying35 rfl rfl (cell_atL (hx.heapM (H31.boff 0 rfl 5 rfl rfl) (H31.box 0 rfl)) rfl)) (dV rfl rfl (fun zw hx => py_move rfl) (dV rfl rfl (fun zw hx => py_elz Tryz.underlying35 Tryz.sizeOf155 rfl rfl ee9 k (by omega) (by omega)) (dV rfl rfl (fun zw hx => py_field Tryz.underlying155 rfl Tryz.sizeOf4 rfl rfl) (dV rfl rfl (fun zw hx => py_load Tryz.underlying4 rfl rfl (at_cell (hx.atM (H31.off 2 rfl 5 rfl em6) ec9) 0 rfl)) (dV rfl rfl (fun zw hx => py_field Tryz.underlying37 rfl Tryz.sizeOf35 rfl rfl) (dV rfl rfl (fun zw hx => py_load Tryz.underlying35 rfl rfl (cell_atL (hx.heapM (H31.boff 0 rfl 5 rfl rfl) (H31.box 0 rfl)) rfl)) (dV rfl rfl (fun zw hx => py_move rfl) (dV rfl rfl (fun zw hx => py_elz Tryz.underlying35 Tryz.sizeOf155 rfl rfl ee9 k (by omega) (by omega)) (dV rfl rfl (fun zw hx => py_field Tryz.underlying155 rfl Tryz.sizeOf82 rfl rfl) (dV rfl rfl (fun zw hx => py_load Tryz.underlying82 rfl rfl (at_cell (hx.atM (H31.off 2 rfl 5 rfl em6) ec9) 1 rfl)) (d_call rfl (wn rfl) rfl rfl (pc_call Tryz.func165 rfl Tryz_nm165 rfl) (Tryz_spec_l5CopyRecs (H31.sees 3 rfl) (by first | assumption | omega)) (fun hS _ _ r _ => hS.trans r.1.no) (fun v6 w26 r2 => ?_)))))))))))))))
   obtain ⟨e18, r2⟩ := r2
   obtain ⟨fp6, H32⟩ := H31.res e18 r2
   obtain ⟨a6, k6, q8⟩ := own_slice (H32.mine 6 rfl)
   cases q8
   refine dV rfl rfl (fun zw hx => py_buildS Tryz_pl155 rfl rfl) (d_lit1 rfl (wn rfl) rfl Tryz.underlying35 Tryz_ty155 rfl rfl rfl rfl H32 (fun _ h e => h.trans e.no) (fun b10 w27 e19 g10 H33 => ?_))
   have H34 := H33.asSt 6 ((z.Tapes.getD k default) : Tape) rfl (Tape.own_mk (x := (z.Tapes.getD k default)) (by assumption) (H33.mine 6 rfl))
   try dsimp only [List.nil_append, List.cons_append, List.set_cons_zero, List.set_cons_succ] at H34
   refine d_app2 rfl (wn rfl) rfl Tryz.underlying35 Tryz_ty155 rfl rfl rfl H34 5 7 6 rfl rfl rfl rfl (by unfold maxLen; omega) (by omega) (fun _ h e => h.trans e) (fun v7 w28 fp7 H35 => ?_)
   refine dV rfl rfl (fun zw hx => py_field Tryz.underlying37 rfl Tryz.sizeOf35 rfl rfl) ?_
   obtain ⟨a7, k7, q9⟩ := own_slice (H35.mine 5 rfl)
   cases q9
   refine d_sto rfl (wn rfl) Tryz.sizeOf35 rfl rfl rfl H35 2 rfl rfl (fun _ _ _ hr => absurd rfl hr) (fun w29 e20 H36 => ?_)
   dsimp only [List.nil_append, List.cons_append, List.set_cons_zero, List.set_cons_succ, layL] at H36
   refine d_nil (W_reg (sV rfl (py_move rfl) (sV rfl (py_add rfl rfl (in64 ⟨by omega, by omega⟩)) (sV rfl (py_assign rfl) (s_nil ?_)))))
   exact ⟨(k + 1, _, _), ⟨rfl, rfl, rfl, rfl, trivial⟩, ⟨by dsimp only; rw [← take_step (xs := z.Tapes) (d := default) (by omega)]; exact ((H36.ftake 3).dtake 6), by omega, trivial⟩, by dsimp only; omega⟩
  ·refine W_exit (W_seq ?_)
   obtain rfl : k = z.Tapes.length := by omega
   rw [List.take_length] at H29
   refine W_reg (sV rfl (py_loadS Tryz.underlying37 rfl Tryz.sizeOf37 rfl rfl (At.whole (H29.box 2 rfl))) ?_)
   obtain ⟨a8, k8, q10⟩ := own_slice (H29.mine 3 rfl)
   cases q10
   obtain ⟨a9, k9, q11⟩ := own_slice (H29.mine 5 rfl)
   cases q11
   refine s_stoS (wn rfl) Tryz.sizeOf37 rfl rfl rfl rfl H29 1 rfl rfl (fun w30 e21 H37 => ?_)
   dsimp only [List.nil_append, List.cons_append, List.set_cons_zero, List.set_cons_succ, layL] at H37
   refine s_nil (W_ret (hQ _ _ (finC Tryz.results100 rfl (run_loadVarS Tryz.underlying37 rfl Tryz.sizeOf37 rfl (At.whole (H37.box 1 rfl))) ?_)))
   exact ⟨H37.ext, _, _, _, _, _, _, rfl, Wld.out (H37.sub (.cons _ (.cons _ (.cons _ (.cons_cons _ (.cons_cons _ (.cons_cons _ List.Sublist.slnil))))))) (by assumption)⟩
end Go.Wk
namespace Go.Wk
open Go.Proofs Rp
set_option maxRecDepth 10000
theorem Tryz_impl_downIf {w : World} {d : Bool}  : Ret Tryz.prog 171 #[.bool d] w fun v w' => Ext No w w' ∧ (v = .int .i64 (if d = true then 0 else 9)) := by
 refine ret_Q (vs := [.bool d]) Tryz.func171 rfl Tryz.ntmps171 rfl (fun Q hQ hN => ?_)
 have H0 := Sep.start (w := w) (F := []) (by simp)
 refine W_sr (sV rfl (py_assign rfl) (s_nil (W_seq (W_sr (sV rfl (py_move rfl) (sV rfl (py_not rfl) (s_nil (W_if rfl (fun c1 => ?_) (fun c1 => ?_)))))))))
 ·refine W_sr (sV rfl (py_assign rfl) (s_nil (W_ret (hQ _ _ (fin1 Tryz.results171 rfl ?_)))))
  exact ⟨H0.ext, by simp_all⟩
 ·refine W_skip (W_sr (sV rfl (py_assign rfl) (s_nil (W_ret (hQ _ _ (fin1 Tryz.results171 rfl ?_))))))
  exact ⟨H0.ext, by simp_all⟩
theorem Tryz_impl_World_cut {w : World} {z : Wld} {zb : Nat} {fp : List Nat} (o : OwnW w zb 37 z fp) (nd : fp.Nodup) : Ret Tryz.prog 278 #[.pointer (some ⟨zb, 0, none⟩)] w fun v w' => (MutW w w' fp zb 37 (cutW z)) := by
 refine ret_Q (vs := [.pointer (some ⟨zb, 0, none⟩)]) Tryz.func278 rfl Tryz.ntmps278 rfl (fun Q hQ hN => ?_)
 have H0 := Sep.beginW o nd
 obtain ⟨wA1, wC1, wA2, wC2, wA3, wC3, wf1, wf2, wf3, wok1, H1⟩ := H0.openW 0 rfl
 try dsimp only [List.nil_append, List.cons_append, List.set_cons_zero, List.set_cons_succ] at H1
 have wok1U := wok1
 unfold Wld.Ok Shape.Ok I64ok at wok1U
 have wL1 := own_len_le (H1.mine 2 rfl)
 unfold maxLen at wL1
 have wL2 := own_len_le (H1.mine 3 rfl)
 unfold maxLen at wL2
 have wL3 := own_len_le (H1.mine 4 rfl)
 unfold maxLen at wL3
 refine W_reg (sV rfl (py_move rfl) (sV rfl (py_move rfl) (sV rfl (py_nil rfl) (sV rfl (py_field Tryz.underlying37 rfl Tryz.sizeOf4 rfl rfl) (s_sto (wn rfl) Tryz.sizeOf4 rfl rfl rfl H1 0 rfl rfl (fun w1 e1 H2 => ?_))))))
 dsimp only [List.nil_append, List.cons_append, List.set_cons_zero, List.set_cons_succ, layL] at H2
 refine sV rfl (py_nil rfl) (sV rfl (py_field Tryz.underlying37 rfl Tryz.sizeOf25 rfl rfl) (s_sto (wn rfl) Tryz.sizeOf25 rfl rfl rfl H2 0 rfl rfl (fun w2 e2 H3 => ?_)))
 dsimp only [List.nil_append, List.cons_append, List.set_cons_zero, List.set_cons_succ, layL] at H3
 refine s_nil (hN _ _ (fin0 Tryz.results278 ?_))
 have H4 := H3.nilW (α := Int)
 try dsimp only [List.nil_append, List.cons_append, List.set_cons_zero, List.set_cons_succ] at H4
 obtain ⟨fp1, H5⟩ := H4.closeW 0 2 5 4 (cutW z) rfl rfl rfl rfl rfl rfl rfl rfl rfl rfl (cutW_ok wok1)
 try dsimp only [List.nil_append, List.cons_append, List.set_cons_zero, List.set_cons_succ] at H5
 have hz := H5.doneW
 exact hz
theorem Tryz_impl_World_raw {w : World} {z : Wld} {zb : Nat} {fp : List Nat} {y : Wld} {dof : FuncId} {doL : List Value} {doF : Func} (o : OwnW w zb 37 z fp) (nd : fp.Nodup) (doH : Tryz.prog.funcs[dof]? = some doF) (doB : doF.body.isNone = false) (doN : (doF.name == "runtime.NumGoroutine") = false) (doC : ∀ w1 fp1, OwnW w1 zb 37 z fp1 → fp1.Nodup → (∀ x ∈ fp1, x ∈ fp ∨ w.heap.size ≤ x) → Ext (· ∈ fp) w w1 → Ret Tryz.prog dof doL.toArray w1 fun v w' => MutW w1 w' fp1 zb 37 y) (hy : y.Writes ≤ 2000000000) : Ret Tryz.prog 232 #[.pointer (some ⟨zb, 0, none⟩), .func (.func dof) #[] doL.toArray] w fun v w' => (v = .bool (!noPower z) ∧ MutW w w' fp zb 37 (rawW z y)) := by
 refine ret_Q (vs := [.pointer (some ⟨zb, 0, none⟩), .func (.func dof) #[] doL.toArray]) Tryz.func232 rfl Tryz.ntmps232 rfl (fun Q hQ hN => ?_)
 have H0 := Sep.beginW o nd
 refine W_sr (sV rfl (py_assign rfl) (s_nil (W_seq (W_seq ?_))))
 obtain ⟨wA1, wC1, wA2, wC2, wA3, wC3, wf1, wf2, wf3, wok1, H1⟩ := H0.openW 0 rfl
 try dsimp only [List.nil_append, List.cons_append, List.set_cons_zero, List.set_cons_succ] at H1
 have wok1U := wok1
 unfold Wld.Ok Shape.Ok I64ok at wok1U
 have wL1 := own_len_le (H1.mine 2 rfl)
 unfold maxLen at wL1
 have wL2 := own_len_le (H1.mine 3 rfl)
 unfold maxLen at wL2
 have wL3 := own_len_le (H1.mine 4 rfl)
 unfold maxLen at wL3
 refine W_drw (S := Ext No _) [(0, true), (1, true), (2, true), (3, true), (4, true), (5, true), (6, true), (7, true), (8, true), (9, true), (10, true), (11, true), (12, true), (13, true), (14, true), (15, false)] (by kernel_rfl) (by kernel_rfl) (by kernel_rfl) rfl (fun _ => Ext.refl.drawn _) (fun q1 => ?_)
 have H2 := H1.drawn q1
 refine dV rfl rfl (fun zw hx => py_move rfl) (dV rfl rfl (fun zw hx => py_nil rfl) (dV rfl rfl (fun zw hx => py_field Tryz.underlying37 rfl Tryz.sizeOf2 rfl rfl) (dV rfl rfl (fun zw hx => py_load Tryz.underlying2 rfl rfl (cell_atL (hx.heap (H2.box 0 rfl)) rfl)) (dV rfl rfl (fun zw hx => py_neq rfl rfl) (dV rfl rfl (fun zw hx => py_move rfl) (d_case (t := 10) rfl (fun hg1 => ?_) (fun hg1 => ?_)))))))
 ·try simp only [decide_eq_true_eq, decide_eq_false_iff_not] at hg1
  refine d_val rfl (wg rfl rfl rfl) rfl rfl (fun zw hx => py_move rfl) (d_val rfl (wg rfl rfl rfl) rfl rfl (fun zw hx => py_nil rfl) (d_val rfl (wg rfl rfl rfl) rfl rfl (fun zw hx => py_field Tryz.underlying37 rfl Tryz.sizeOf2 rfl rfl) (d_val rfl (wg rfl rfl rfl) rfl rfl (fun zw hx => py_load Tryz.underlying2 rfl rfl (cell_atL (hx.heap (H2.box 0 rfl)) rfl)) (d_val rfl (wg rfl rfl rfl) rfl rfl (fun zw hx => py_move rfl) (d_val rfl (wg rfl rfl rfl) rfl rfl (fun zw hx => py_nil rfl) (d_val rfl (wg rfl rfl rfl) rfl rfl (fun zw hx => py_field Tryz.underlying37 rfl Tryz.sizeOf2 rfl rfl) (d_val rfl (wg rfl rfl rfl) rfl rfl (fun zw hx => py_load Tryz.underlying2 rfl rfl (cell_atL (hx.heap (H2.box 0 rfl)) rfl)) (d_val rfl (wg rfl rfl rfl) rfl rfl (fun zw hx => py_geq rfl rfl) (d_end rfl (wn rfl) rfl rfl (py_pickT rfl rfl) (d_nil (W_ifd rfl (fun c1 => ?_) (fun c1 => ?_))))))))))))
  ·refine W_seq ?_
   have hnp : noPower z = true := noPower_yes (by omega) (by omega)
   refine W_reg (sV rfl (py_move rfl) ?_)
   obtain ⟨fp1, H3⟩ := H2.closeW 0 2 3 4 z rfl rfl rfl rfl rfl rfl rfl rfl rfl rfl wok1
   try dsimp only [List.nil_append, List.cons_append, List.set_cons_zero, List.set_cons_succ] at H3
   refine s_call (wn rfl) rfl rfl (pc_call Tryz.func278 rfl Tryz_nm278 rfl) (Tryz_impl_World_cut (H3.wldAt 0 rfl) (H3.nodup1 (i := 0) rfl)) (fun v1 w1 r1 => ?_)
   have mm1 := r1
   obtain ⟨fp2, H4⟩ := H3.mutW 0 rfl mm1
   try dsimp only [List.nil_append, List.cons_append, List.set_cons_zero, List.set_cons_succ] at H4
   refine s_nil (W_sr (sV rfl (py_assign rfl) (s_nil (W_ret (hQ _ _ (fin1 Tryz.results232 rfl ?_))))))
   have hz := H4.doneW
   rw [← rawW_no (y := y) hnp] at hz
   exact ⟨(by rw [hnp]; rfl), hz⟩
  ·refine W_skip (W_seq ?_)
   have hnp : noPower z = false := noPower_no (.inr (by omega))
   refine W_reg (sV rfl (py_move rfl) ?_)
   obtain ⟨fp3, H5⟩ := H2.closeW 0 2 3 4 z rfl rfl rfl rfl rfl rfl rfl rfl rfl rfl wok1
   try dsimp only [List.nil_append, List.cons_append, List.set_cons_zero, List.set_cons_succ] at H5
   refine s_call (wn rfl) rfl rfl (pc_callv (lb := doL) rfl doH doB doN rfl) (doC _ _ (H5.wldAt 0 rfl) (H5.nodup1 (i := 0) rfl) (fun x hx => H5.new x (H5.inB 0 rfl hx)) H5.ext) (fun v2 w2 r2 => ?_)
   obtain ⟨fp4, H6⟩ := H5.mutW 0 rfl r2
   try dsimp only [List.nil_append, List.cons_append, List.set_cons_zero, List.set_cons_succ] at H6
   refine s_nil (W_seq ?_)
   obtain ⟨wA4, wC4, wA5, wC5, wA6, wC6, wf4, wf5, wf6, wok2, H7⟩ := H6.openW 0 rfl
   try dsimp only [List.nil_append, List.cons_append, List.set_cons_zero, List.set_cons_succ] at H7
   have wok2U := wok2
   unfold Wld.Ok Shape.Ok I64ok at wok2U
   have wL4 := own_len_le (H7.mine 6 rfl)
   unfold maxLen at wL4
   have wL5 := own_len_le (H7.mine 7 rfl)
   unfold maxLen at wL5
   have wL6 := own_len_le (H7.mine 8 rfl)
   unfold maxLen at wL6
   refine W_reg (sV rfl (py_move rfl) (sV rfl (py_nil rfl) (sV rfl (py_field Tryz.underlying37 rfl Tryz.sizeOf2 rfl rfl) (sV rfl (py_load Tryz.underlying2 rfl rfl (cell_atL (H7.box 0 rfl) rfl)) (sV rfl (py_add rfl rfl (in64 ⟨by omega, by omega⟩)) (sV rfl (py_nil rfl) (sV rfl (py_field Tryz.underlying37 rfl Tryz.sizeOf2 rfl rfl) (s_sto (wn rfl) Tryz.sizeOf2 rfl rfl rfl H7 0 rfl rfl (fun w3 e2 H8 => ?_)))))))))
   dsimp only [List.nil_append, List.cons_append, List.set_cons_zero, List.set_cons_succ, layL] at H8
   refine s_nil (W_sr (sV rfl (py_assign rfl) (s_nil (W_ret (hQ _ _ (fin1 Tryz.results232 rfl ?_))))))
   obtain ⟨fp5, H9⟩ := H8.closeW 0 6 7 8 (tickW y) rfl rfl rfl rfl rfl rfl rfl rfl rfl rfl (tickW_ok wok2 hy)
   try dsimp only [List.nil_append, List.cons_append, List.set_cons_zero, List.set_cons_succ] at H9
   have hz := H9.doneW
   rw [← rawW_yes hnp] at hz
   exact ⟨(by rw [hnp]; rfl), hz⟩
 ·try simp only [decide_eq_true_eq, decide_eq_false_iff_not] at hg1
  refine d_skip rfl (wog (b := false) rfl rfl rfl) rfl rfl (d_skip rfl (wog (b := false) rfl rfl rfl) rfl rfl (d_skip rfl (wog (b := false) rfl rfl rfl) rfl rfl (d_skip rfl (wog (b := false) rfl rfl rfl) rfl rfl (d_skip rfl (wog (b := false) rfl rfl rfl) rfl rfl (d_skip rfl (wog (b := false) rfl rfl rfl) rfl rfl (d_skip rfl (wog (b := false) rfl rfl rfl) rfl rfl (d_skip rfl (wog (b := false) rfl rfl rfl) rfl rfl (d_skip rfl (wog (b := false) rfl rfl rfl) rfl rfl (d_end rfl (wn rfl) rfl rfl (py_pickF rfl rfl) (d_nil (W_iff rfl (W_skip (W_seq ?_)))))))))))))
  have hnp : noPower z = false := noPower_no (.inl (by omega))
  refine W_reg (sV rfl (py_move rfl) ?_)
  obtain ⟨fp6, H10⟩ := H2.closeW 0 2 3 4 z rfl rfl rfl rfl rfl rfl rfl rfl rfl rfl wok1
  try dsimp only [List.nil_append, List.cons_append, List.set_cons_zero, List.set_cons_succ] at H10
  refine s_call (wn rfl) rfl rfl (pc_callv (lb := doL) rfl doH doB doN rfl) (doC _ _ (H10.wldAt 0 rfl) (H10.nodup1 (i := 0) rfl) (fun x hx => H10.new x (H10.inB 0 rfl hx)) H10.ext) (fun v3 w4 r3 => ?_)
  obtain ⟨fp7, H11⟩ := H10.mutW 0 rfl r3
  try dsimp only [List.nil_append, List.cons_append, List.set_cons_zero, List.set_cons_succ] at H11
  refine s_nil (W_seq ?_)
  obtain ⟨wA7, wC7, wA8, wC8, wA9, wC9, wf7, wf8, wf9, wok3, H12⟩ := H11.openW 0 rfl
  try dsimp only [List.nil_append, List.cons_append, List.set_cons_zero, List.set_cons_succ] at H12
  have wok3U := wok3
  unfold Wld.Ok Shape.Ok I64ok at wok3U
  have wL7 := own_len_le (H12.mine 6 rfl)
  unfold maxLen at wL7
  have wL8 := own_len_le (H12.mine 7 rfl)
  unfold maxLen at wL8
  have wL9 := own_len_le (H12.mine 8 rfl)
  unfold maxLen at wL9
  refine W_reg (sV rfl (py_move rfl) (sV rfl (py_nil rfl) (sV rfl (py_field Tryz.underlying37 rfl Tryz.sizeOf2 rfl rfl) (sV rfl (py_load Tryz.underlying2 rfl rfl (cell_atL (H12.box 0 rfl) rfl)) (sV rfl (py_add rfl rfl (in64 ⟨by omega, by omega⟩)) (sV rfl (py_nil rfl) (sV rfl (py_field Tryz.underlying37 rfl Tryz.sizeOf2 rfl rfl) (s_sto (wn rfl) Tryz.sizeOf2 rfl rfl rfl H12 0 rfl rfl (fun w5 e3 H13 => ?_)))))))))
  dsimp only [List.nil_append, List.cons_append, List.set_cons_zero, List.set_cons_succ, layL] at H13
  refine s_nil (W_sr (sV rfl (py_assign rfl) (s_nil (W_ret (hQ _ _ (fin1 Tryz.results232 rfl ?_))))))
  obtain ⟨fp8, H14⟩ := H13.closeW 0 6 7 8 (tickW y) rfl rfl rfl rfl rfl rfl rfl rfl rfl rfl (tickW_ok wok3 hy)
  try dsimp only [List.nil_append, List.cons_append, List.set_cons_zero, List.set_cons_succ] at H14
  have hz := H14.doneW
  rw [← rawW_yes hnp] at hz
  exact ⟨(by rw [hnp]; rfl), hz⟩
theorem Tryz_impl_changed_yes {w : World} {x : Wld} {xA9 : Option Addr} {xC9 : Nat} {xA10 : Option Addr} {xC10 : Nat} {xA11 : Option Addr} {xC11 : Nat} {c : Int} (xK : x.Ok) (xS9 : Sees w [.slice xA9 x.Groups.length xC9] x.Groups) (xS10 : Sees w [.slice xA10 x.On.length xC10] x.On) (xS11 : Sees w [.slice xA11 x.Tapes.length xC11] x.Tapes) (hc : c = 0 ∨ c = 9) : Ret Tryz.prog 105 #[x.val xA9 xC9 xA10 xC10 xA11 xC11, .int .i64 c] w fun v w' => Ext No w w' ∧ (v = (⟨c, x⟩ : WldResult).val xA9 xC9 xA10 xC10 xA11 xC11) := by
 have xK2 := xK
 unfold Wld.Ok Shape.Ok at xK2
 try unfold I64ok at xK2
 try unfold maxLen at xK2
 have xL9 := sees_len xS9
 unfold maxLen at xL9
 obtain ⟨xF9, xO9⟩ := xS9
 have xL10 := sees_len xS10
 unfold maxLen at xL10
 obtain ⟨xF10, xO10⟩ := xS10
 have xL11 := sees_len xS11
 unfold maxLen at xL11
 obtain ⟨xF11, xO11⟩ := xS11
 refine ret_Q (vs := [x.val xA9 xC9 xA10 xC10 xA11 xC11, .int .i64 c]) Tryz.func105 rfl Tryz.ntmps105 rfl (fun Q hQ hN => ?_)
 have H0 := Sep.start (w := w) (F := [seen false [.slice xA9 x.Groups.length xC9] x.Groups xF9, seen false [.slice xA10 x.On.length xC10] x.On xF10, seen false [.slice xA11 x.Tapes.length xC11] x.Tapes xF11]) (all_cons xO9 (all_cons xO10 (all_cons xO11 (by simp))))
 refine W_sr (s_box (wn rfl) rfl rfl H0 (fun b1 w1 e1 g1 H1 => ?_))
 refine s_var (wn rfl) rfl Tryz.zeroValue57 H1 (fun b2 w2 e2 g2 H2 => ?_)
 refine s_nil (W_seq (W_sr (sV rfl (py_move rfl) (sV rfl (py_neq rfl rfl) (sV rfl (py_move rfl) (s_case (t := 7) rfl (fun hg1 => ?_) (fun hg1 => ?_)))))))
 ·try simp only [decide_eq_true_eq, decide_eq_false_iff_not] at hg1
  refine s_val (wg rfl rfl rfl) rfl rfl (py_move rfl) (s_val (wg rfl rfl rfl) rfl rfl (py_neq rfl rfl) (sV rfl (py_pickT rfl rfl) (s_nil (W_ifd rfl (fun c1 => ?_) (fun c1 => ?_)))))
  ·exfalso; simp_all
  ·refine W_skip (W_sr (sV rfl (py_move rfl) (sV rfl (py_loadS Tryz.underlying37 rfl Tryz.sizeOf37 rfl rfl (At.whole (H2.box 0 rfl))) (sV rfl (py_buildS Tryz_pl57 rfl rfl) (s_stoS (wn rfl) Tryz.sizeOf57 rfl rfl rfl rfl H2 1 rfl rfl (fun w3 e3 H3 => ?_))))))
   dsimp only [List.nil_append, List.cons_append, List.set_cons_zero, List.set_cons_succ, layL] at H3
   refine s_nil (W_ret (hQ _ _ (finC Tryz.results105 rfl (run_loadVarS Tryz.underlying57 rfl Tryz.sizeOf57 rfl (At.whole (H3.box 1 rfl))) ?_)))
   exact ⟨H3.ext, rfl⟩
 ·try simp only [decide_eq_true_eq, decide_eq_false_iff_not] at hg1
  refine s_skip (wog (b := false) rfl rfl rfl) rfl rfl (s_skip (wog (b := false) rfl rfl rfl) rfl rfl (sV rfl (py_pickF rfl rfl) (s_nil (W_iff rfl (W_skip (W_sr (sV rfl (py_move rfl) (sV rfl (py_loadS Tryz.underlying37 rfl Tryz.sizeOf37 rfl rfl (At.whole (H2.box 0 rfl))) (sV rfl (py_buildS Tryz_pl57 rfl rfl) (s_stoS (wn rfl) Tryz.sizeOf57 rfl rfl rfl rfl H2 1 rfl rfl (fun w4 e4 H4 => ?_)))))))))))
  dsimp only [List.nil_append, List.cons_append, List.set_cons_zero, List.set_cons_succ, layL] at H4
  refine s_nil (W_ret (hQ _ _ (finC Tryz.results105 rfl (run_loadVarS Tryz.underlying57 rfl Tryz.sizeOf57 rfl (At.whole (H4.box 1 rfl))) ?_)))
  exact ⟨H4.ext, rfl⟩
theorem Tryz_spec_l7Told {w : World} {x : Wld} {xA9 : Option Addr} {xC9 : Nat} {xA10 : Option Addr} {xC10 : Nat} {xA11 : Option Addr} {xC11 : Nat} {d : Bool} (xK : x.Ok) (xS9 : Sees w [.slice xA9 x.Groups.length xC9] x.Groups) (xS10 : Sees w [.slice xA10 x.On.length xC10] x.On) (xS11 : Sees w [.slice xA11 x.Tapes.length xC11] x.Tapes) : Ret Tryz.prog 102 #[x.val xA9 xC9 xA10 xC10 xA11 xC11, .bool d] w fun v w' => Ext No w w' ∧ (v = (⟨if d = true then 0 else 9, x⟩ : WldResult).val xA9 xC9 xA10 xC10 xA11 xC11) := by
 have xK2 := xK
 unfold Wld.Ok Shape.Ok at xK2
 try unfold I64ok at xK2
 try unfold maxLen at xK2
 have xL9 := sees_len xS9
 unfold maxLen at xL9
 obtain ⟨xF9, xO9⟩ := xS9
 have xL10 := sees_len xS10
 unfold maxLen at xL10
 obtain ⟨xF10, xO10⟩ := xS10
 have xL11 := sees_len xS11
 unfold maxLen at xL11
 obtain ⟨xF11, xO11⟩ := xS11
 refine ret_Q (vs := [x.val xA9 xC9 xA10 xC10 xA11 xC11, .bool d]) Tryz.func102 rfl Tryz.ntmps102 rfl (fun Q hQ hN => ?_)
 have H0 := Sep.start (w := w) (F := [seen false [.slice xA9 x.Groups.length xC9] x.Groups xF9, seen false [.slice xA10 x.On.length xC10] x.On xF10, seen false [.slice xA11 x.Tapes.length xC11] x.Tapes xF11]) (all_cons xO9 (all_cons xO10 (all_cons xO11 (by simp))))
 refine W_sr (s_box (wn rfl) rfl rfl H0 (fun b1 w1 e1 g1 H1 => ?_))
 refine s_var (wn rfl) rfl Tryz.zeroValue57 H1 (fun b2 w2 e2 g2 H2 => ?_)
 refine s_nil (W_seq (W_sr (sV rfl (py_move rfl) (sV rfl (py_not rfl) (s_nil (W_if rfl (fun c1 => ?_) (fun c1 => ?_)))))))
 ·refine W_sr (sV rfl (py_loadS Tryz.underlying37 rfl Tryz.sizeOf37 rfl rfl (At.whole (H2.box 0 rfl))) (sV rfl (py_buildS Tryz_pl57 rfl rfl) (s_stoS (wn rfl) Tryz.sizeOf57 rfl rfl rfl rfl H2 1 rfl rfl (fun w3 e3 H3 => ?_))))
  dsimp only [List.nil_append, List.cons_append, List.set_cons_zero, List.set_cons_succ, layL] at H3
  refine s_nil (W_ret (hQ _ _ (finC Tryz.results102 rfl (run_loadVarS Tryz.underlying57 rfl Tryz.sizeOf57 rfl (At.whole (H3.box 1 rfl))) ?_)))
  exact ⟨H3.ext, by cases d; (· rfl); (· exact absurd c1 (by simp))⟩
 ·refine W_skip (W_sr (sV rfl (py_loadS Tryz.underlying37 rfl Tryz.sizeOf37 rfl rfl (At.whole (H2.box 0 rfl))) (sV rfl (py_buildS Tryz_pl57 rfl rfl) (s_stoS (wn rfl) Tryz.sizeOf57 rfl rfl rfl rfl H2 1 rfl rfl (fun w4 e4 H4 => ?_)))))
  dsimp only [List.nil_append, List.cons_append, List.set_cons_zero, List.set_cons_succ, layL] at H4
  refine s_nil (W_ret (hQ _ _ (finC Tryz.results102 rfl (run_loadVarS Tryz.underlying57 rfl Tryz.sizeOf57 rfl (At.whole (H4.box 1 rfl))) ?_)))
  exact ⟨H4.ext, by cases d; (· exact absurd c1 (by simp)); (· rfl)⟩
theorem Tryz_spec_l5Raw {w : World} {z : Wld} {zb : Nat} {fp : List Nat} (o : OwnW w zb 37 z fp) (nd : fp.Nodup) (hd : z.Down = false) (hw : z.Writes ≤ 2000000000) : Ret Tryz.prog 166 #[.pointer (some ⟨zb, 0, none⟩)] w fun v w' => (v = .bool (!noPower z) ∧ MutW w w' fp zb 37 (rawW z z)) := by
 refine ret_Q (vs := [.pointer (some ⟨zb, 0, none⟩)]) Tryz.func166 rfl Tryz.ntmps166 rfl (fun Q hQ hN => ?_)
 have H0 := Sep.beginW o nd
 refine W_sr (sV rfl (py_assign rfl) (s_nil (W_seq (W_seq ?_))))
 obtain ⟨wA1, wC1, wA2, wC2, wA3, wC3, wf1, wf2, wf3, wok1, H1⟩ := H0.openW 0 rfl
 try dsimp only [List.nil_append, List.cons_append, List.set_cons_zero, List.set_cons_succ] at H1
 have wok1U := wok1
 unfold Wld.Ok Shape.Ok I64ok at wok1U
 have wL1 := own_len_le (H1.mine 2 rfl)
 unfold maxLen at wL1
 have wL2 := own_len_le (H1.mine 3 rfl)
 unfold maxLen at wL2
 have wL3 := own_len_le (H1.mine 4 rfl)
 unfold maxLen at wL3
 refine W_reg (sV rfl (py_move rfl) (sV rfl (py_nil rfl) (sV rfl (py_field Tryz.underlying37 rfl Tryz.sizeOf4 rfl rfl) (sV rfl (py_load Tryz.underlying4 rfl rfl (cell_atL (H1.box 0 rfl) rfl)) (s_nil (W_if rfl (fun c1 => ?_) (fun c1 => ?_)))))))
 ·exfalso; simp_all
 ·refine W_skip (W_seq (W_seq (W_drw (S := Ext No _) [(0, true), (1, true), (2, true), (3, true), (4, true), (5, true), (6, true), (7, true), (8, true), (9, true), (10, true), (11, true), (12, true), (13, true), (14, true), (15, false)] (by kernel_rfl) (by kernel_rfl) (by kernel_rfl) rfl (fun _ => Ext.refl.drawn _) (fun q1 => ?_))))
  have H2 := H1.drawn q1
  refine dV rfl rfl (fun zw hx => py_move rfl) (dV rfl rfl (fun zw hx => py_nil rfl) (dV rfl rfl (fun zw hx => py_field Tryz.underlying37 rfl Tryz.sizeOf2 rfl rfl) (dV rfl rfl (fun zw hx => py_load Tryz.underlying2 rfl rfl (cell_atL (hx.heap (H2.box 0 rfl)) rfl)) (dV rfl rfl (fun zw hx => py_neq rfl rfl) (dV rfl rfl (fun zw hx => py_move rfl) (d_case (t := 12) rfl (fun hg1 => ?_) (fun hg1 => ?_)))))))
  ·try simp only [decide_eq_true_eq, decide_eq_false_iff_not] at hg1
   refine d_val rfl (wg rfl rfl rfl) rfl rfl (fun zw hx => py_move rfl) (d_val rfl (wg rfl rfl rfl) rfl rfl (fun zw hx => py_nil rfl) (d_val rfl (wg rfl rfl rfl) rfl rfl (fun zw hx => py_field Tryz.underlying37 rfl Tryz.sizeOf2 rfl rfl) (d_val rfl (wg rfl rfl rfl) rfl rfl (fun zw hx => py_load Tryz.underlying2 rfl rfl (cell_atL (hx.heap (H2.box 0 rfl)) rfl)) (d_val rfl (wg rfl rfl rfl) rfl rfl (fun zw hx => py_move rfl) (d_val rfl (wg rfl rfl rfl) rfl rfl (fun zw hx => py_nil rfl) (d_val rfl (wg rfl rfl rfl) rfl rfl (fun zw hx => py_field Tryz.underlying37 rfl Tryz.sizeOf2 rfl rfl) (d_val rfl (wg rfl rfl rfl) rfl rfl (fun zw hx => py_load Tryz.underlying2 rfl rfl (cell_atL (hx.heap (H2.box 0 rfl)) rfl)) (d_val rfl (wg rfl rfl rfl) rfl rfl (fun zw hx => py_geq rfl rfl) (d_end rfl (wn rfl) rfl rfl (py_pickT rfl rfl) (d_nil (W_ifd rfl (fun c2 => ?_) (fun c2 => ?_))))))))))))
   ·refine W_seq ?_
    have hnp : noPower z = true := noPower_yes (by omega) (by omega)
    refine W_reg (sV rfl (py_move rfl) (sV rfl (py_nil rfl) (sV rfl (py_field Tryz.underlying37 rfl Tryz.sizeOf4 rfl rfl) (s_sto (wn rfl) Tryz.sizeOf4 rfl rfl rfl H2 0 rfl rfl (fun w1 e1 H3 => ?_)))))
    dsimp only [List.nil_append, List.cons_append, List.set_cons_zero, List.set_cons_succ, layL] at H3
    refine s_nil (W_sr (sV rfl (py_move rfl) (sV rfl (py_nil rfl) (sV rfl (py_field Tryz.underlying37 rfl Tryz.sizeOf25 rfl rfl) (s_sto (wn rfl) Tryz.sizeOf25 rfl rfl rfl H3 0 rfl rfl (fun w2 e2 H4 => ?_))))))
    dsimp only [List.nil_append, List.cons_append, List.set_cons_zero, List.set_cons_succ, layL] at H4
    refine s_nil (W_sr (sV rfl (py_assign rfl) (s_nil (W_ret (hQ _ _ (fin1 Tryz.results166 rfl ?_))))))
    have H5 := H4.nilW (α := Int)
    try dsimp only [List.nil_append, List.cons_append, List.set_cons_zero, List.set_cons_succ] at H5
    obtain ⟨fp1, H6⟩ := H5.closeW 0 2 5 4 (cutW z) rfl rfl rfl rfl rfl rfl rfl rfl rfl rfl (cutW_ok wok1)
    try dsimp only [List.nil_append, List.cons_append, List.set_cons_zero, List.set_cons_succ] at H6
    have hz := H6.doneW
    rw [← rawW_no (y := z) hnp] at hz
    exact ⟨(by rw [hnp]; rfl), hz⟩
   ·refine W_skip (W_seq ?_)
    have hnp : noPower z = false := noPower_no (.inr (by omega))
    refine W_reg (sV rfl (py_move rfl) (sV rfl (py_move rfl) (sV rfl (py_nil rfl) (sV rfl (py_field Tryz.underlying37 rfl Tryz.sizeOf2 rfl rfl) (sV rfl (py_load Tryz.underlying2 rfl rfl (cell_atL (H2.box 0 rfl) rfl)) (sV rfl (py_add rfl rfl (in64 ⟨by omega, by omega⟩)) (sV rfl (py_nil rfl) (sV rfl (py_field Tryz.underlying37 rfl Tryz.sizeOf2 rfl rfl) (s_sto (wn rfl) Tryz.sizeOf2 rfl rfl rfl H2 0 rfl rfl (fun w3 e3 H7 => ?_))))))))))
    dsimp only [List.nil_append, List.cons_append, List.set_cons_zero, List.set_cons_succ, layL] at H7
    refine s_nil (W_sr (sV rfl (py_assign rfl) (s_nil (W_ret (hQ _ _ (fin1 Tryz.results166 rfl ?_))))))
    obtain ⟨fp2, H8⟩ := H7.closeW 0 2 3 4 (tickW z) rfl rfl rfl rfl rfl rfl rfl rfl rfl rfl (tickW_ok wok1 hw)
    try dsimp only [List.nil_append, List.cons_append, List.set_cons_zero, List.set_cons_succ] at H8
    have hz := H8.doneW
    rw [← rawW_yes hnp] at hz
    exact ⟨(by rw [hnp]; rfl), hz⟩
  ·try simp only [decide_eq_true_eq, decide_eq_false_iff_not] at hg1
   refine d_skip rfl (wog (b := false) rfl rfl rfl) rfl rfl (d_skip rfl (wog (b := false) rfl rfl rfl) rfl rfl (d_skip rfl (wog (b := false) rfl rfl rfl) rfl rfl (d_skip rfl (wog (b := false) rfl rfl rfl) rfl rfl (d_skip rfl (wog (b := false) rfl rfl rfl) rfl rfl (d_skip rfl (wog (b := false) rfl rfl rfl) rfl rfl (d_skip rfl (wog (b := false) rfl rfl rfl) rfl rfl (d_skip rfl (wog (b := false) rfl rfl rfl) rfl rfl (d_skip rfl (wog (b := false) rfl rfl rfl) rfl rfl (d_end rfl (wn rfl) rfl rfl (py_pickF rfl rfl) (d_nil (W_iff rfl (W_skip (W_seq ?_)))))))))))))
   have hnp : noPower z = false := noPower_no (.inl (by omega))
   refine W_reg (sV rfl (py_move rfl) (sV rfl (py_move rfl) (sV rfl (py_nil rfl) (sV rfl (py_field Tryz.underlying37 rfl Tryz.sizeOf2 rfl rfl) (sV rfl (py_load Tryz.underlying2 rfl rfl (cell_atL (H2.box 0 rfl) rfl)) (sV rfl (py_add rfl rfl (in64 ⟨by omega, by omega⟩)) (sV rfl (py_nil rfl) (sV rfl (py_field Tryz.underlying37 rfl Tryz.sizeOf2 rfl rfl) (s_sto (wn rfl) Tryz.sizeOf2 rfl rfl rfl H2 0 rfl rfl (fun w4 e4 H9 => ?_))))))))))
   dsimp only [List.nil_append, List.cons_append, List.set_cons_zero, List.set_cons_succ, layL] at H9
   refine s_nil (W_sr (sV rfl (py_assign rfl) (s_nil (W_ret (hQ _ _ (fin1 Tryz.results166 rfl ?_))))))
   obtain ⟨fp3, H10⟩ := H9.closeW 0 2 3 4 (tickW z) rfl rfl rfl rfl rfl rfl rfl rfl rfl rfl (tickW_ok wok1 hw)
   try dsimp only [List.nil_append, List.cons_append, List.set_cons_zero, List.set_cons_succ] at H10
   have hz := H10.doneW
   rw [← rawW_yes hnp] at hz
   exact ⟨(by rw [hnp]; rfl), hz⟩
end Go.Wk
namespace Go.Wk
open Rp (sz own)
structure RecV where
  r : Rec
  A6 : Option Addr
  C6 : Nat
  A7 : Option Addr
  C7 : Nat
  A8 : Option Addr
  C8 : Nat
def RecV.cs (v : RecV) : List Value := [.int .i64 v.r.Kind, .int .i64 v.r.Seq, .string v.r.Name, .int .i64 v.r.Length, .int .i64 v.r.Group, .int .i64 v.r.Row, .slice v.A6 v.r.Rows.length v.C6, .slice v.A7 v.r.Data.length v.C7, .slice v.A8 v.r.Delta.length v.C8]
instance : Inhabited RecV := ⟨⟨default, none, 0, none, 0, none, 0⟩⟩
theorem RecV.one {v : RecV} : ∀ x ∈ v.cs, x.oneCell' = true := by
  intro x hx
  simp only [RecV.cs, List.mem_cons, List.not_mem_nil, or_false] at hx
  rcases hx with rfl | rfl | rfl | rfl | rfl | rfl | rfl | rfl | rfl <;> rfl
instance : Rp RecV where
  sz := 9
  pos := by decide
  own _ _ cs v fp := cs = v.cs ∧ fp = [] ∧ v.r.Ok
  len h := by rw [h.1]; rfl
  one h v hv := by rw [h.1] at hv; exact RecV.one v hv
  st h _ := h
  lt h b hb := by rw [h.2.1] at hb; simp at hb
  weak h := h
def ownP (w : World) : List RecV → List Nat → Prop
  | [], f => f = []
  | v :: vs, f => ∃ f1 f2, f = f1 ++ f2 ∧ own true w v.cs v.r f1 ∧ ownP w vs f2
theorem ownP.st {w w' : World} : ∀ {vs f}, ownP w vs f → (∀ b ∈ f, w'.heap[b]? = w.heap[b]?) → ownP w' vs f
  | [], _, h, _ => h
  | v :: vs, f, ⟨f1, f2, e, h1, h2⟩, k => by
    subst e
    exact ⟨f1, f2, rfl, Rp.st h1 fun b hb => k b (by simp [hb]), ownP.st h2 fun b hb => k b (by simp [hb])⟩
theorem ownP.lt {w : World} : ∀ {vs f}, ownP w vs f → ∀ b ∈ f, b < w.heap.size
  | [], f, h, b, hb => by rw [show f = [] from h] at hb; simp at hb
  | v :: vs, f, ⟨f1, f2, e, h1, h2⟩, b, hb => by
    subst e
    rcases List.mem_append.1 hb with hb | hb
    · exact Rp.lt h1 b hb
    · exact ownP.lt h2 b hb
theorem ownP.sub {w : World} {vs' vs : List RecV} (hs : vs'.Sublist vs) : ∀ {f}, ownP w vs f → ∃ f', ownP w vs' f' ∧ f'.Sublist f := by
  induction hs with
  | slnil => exact fun h => ⟨[], rfl, by rw [show _ = [] from h]; exact .slnil⟩
  | cons a s ih =>
    rintro f ⟨f1, f2, e, h1, h2⟩
    obtain ⟨f', h3, h4⟩ := ih h2
    exact ⟨f', h3, by rw [e]; exact h4.trans (List.sublist_append_right _ _)⟩
  | cons_cons a s ih =>
    rintro f ⟨f1, f2, e, h1, h2⟩
    obtain ⟨f', h3, h4⟩ := ih h2
    exact ⟨f1 ++ f', ⟨f1, f', rfl, h1, h3⟩, by rw [e]; exact (List.Sublist.refl _).append h4⟩
theorem ownL_toV {w : World} : ∀ {rs : List Rec} {cs fp}, ownL true w cs rs fp → ∃ vs : List RecV, vs.map RecV.r = rs ∧ ownL true w cs vs [] ∧ ownP w vs fp
  | [], cs, fp, h => ⟨[], rfl, rfl, h⟩
  | x :: xs, cs, fp, ⟨f1, f2, e, h1, h2⟩ => by
    obtain ⟨A6, C6, A7, C7, A8, C8, f6, f7, f8, e1, ef, ok, o6, o7, o8⟩ := own_Rec h1
    obtain ⟨vs, e2, h3, h4⟩ := ownL_toV h2
    refine ⟨⟨x, A6, C6, A7, C7, A8, C8⟩ :: vs, by simp [e2], ⟨[], [], rfl, ⟨e1, rfl, ok⟩, h3⟩, ⟨f1, f2, e, ?_, h4⟩⟩
    rw [e1] at h1; exact h1
theorem ownL_ofV {w : World} : ∀ {vs : List RecV} {cs fp f0}, ownL true w cs vs f0 → ownP w vs fp → f0 = [] ∧ ownL true w cs (vs.map RecV.r) fp
  | [], _, _, _, h, hp => ⟨h, hp⟩
  | v :: vs, cs, fp, f0, ⟨g1, g2, e0, ⟨e1, eg, ok⟩, h2⟩, ⟨f1, f2, e, h1, h3⟩ => by
    obtain ⟨r1, r2⟩ := ownL_ofV h2 h3
    refine ⟨by rw [e0, eg, r1]; rfl, ⟨f1, f2, e, ?_, r2⟩⟩
    rw [show cs.take (sz Rec) = v.cs from e1]; exact h1
theorem ownL_takeV {w : World} : ∀ {vs : List RecV} {cs f0} (i : Nat), ownL true w cs vs f0 → ownL true w cs (vs.take i) [] ∧ f0 = []
  | [], _, _, i, h => by rw [List.take_nil]; exact ⟨rfl, h⟩
  | v :: vs, cs, f0, 0, ⟨g1, g2, e0, ⟨e1, eg, ok⟩, h2⟩ => by
    have := (ownL_takeV 0 h2).2
    exact ⟨rfl, by rw [e0, eg, this]; rfl⟩
  | v :: vs, cs, f0, i + 1, ⟨g1, g2, e0, ⟨e1, eg, ok⟩, h2⟩ => by
    obtain ⟨h3, h4⟩ := ownL_takeV i h2
    exact ⟨⟨[], [], rfl, ⟨e1, rfl, ok⟩, h3⟩, by rw [e0, eg, h4]; rfl⟩
theorem own_toV {w : World} {ad n cap} {rs : List Rec} {fp} (h : own true w [.slice ad n cap] rs fp) : ∃ (vs : List RecV) (f0 f1 : List Nat), vs.map RecV.r = rs ∧ fp = f0 ++ f1 ∧ own true w [.slice ad n cap] vs f0 ∧ ownP w vs f1 := by
  rcases h with ⟨hf, _⟩ | ⟨e, rfl, rfl⟩ | ⟨b, o, cap', cur, T, fr, fs, h1, h2, h3, h4, h5, h6, h7, h8⟩
  · cases hf
  · exact ⟨[], [], [], rfl, rfl, .inr (.inl ⟨e, rfl, rfl⟩), rfl⟩
  · obtain ⟨vs, e1, h9, h10⟩ := ownL_toV h8
    have el : vs.length = rs.length := by rw [← e1, List.length_map]
    exact ⟨vs, [b], fs, e1, by rw [h2]; rfl, .inr (.inr ⟨b, o, cap', cur, T, fr, [], by rw [el]; exact h1, rfl, h3, h4, by rw [el]; exact h5, h6, h7, h9⟩), h10⟩
theorem own_ofV {w : World} {ad n cap} {vs : List RecV} {f0 f1} (h : own true w [.slice ad n cap] vs f0) (hp : ownP w vs f1) : own true w [.slice ad n cap] (vs.map RecV.r) (f0 ++ f1) := by
  rcases h with ⟨hf, _⟩ | ⟨e, rfl, rfl⟩ | ⟨b, o, cap', cur, T, fr, fs, h1, h2, h3, h4, h5, h6, h7, h8⟩
  · cases hf
  · rw [show f1 = [] from hp]; exact .inr (.inl ⟨e, rfl, rfl⟩)
  · obtain ⟨e, h9⟩ := ownL_ofV h8 hp
    have el : (vs.map RecV.r).length = vs.length := List.length_map _
    exact .inr (.inr ⟨b, o, cap', cur, T, fr, f1, by rw [el]; exact h1, by rw [h2, e]; rfl, h3, h4, by rw [el]; exact h5, h6, h7, h9⟩)
def poolR (vs : List RecV) (f : List Nat) : Rsc := ⟨f, fun w => ownP w vs f, fun h k => h.st k, fun h => h.lt⟩
section
variable {M : Nat → Prop} {w0 w : World} {Δ F : List Rsc}
theorem Sep.toViews (h : Sep M w0 Δ F w) (i : Nat) {ad n cap} {rs : List Rec} {fp} (hi : Δ[i]? = some (Wk.mine [.slice ad n cap] rs fp)) :
    ∃ (vs : List RecV) (f0 f1 : List Nat), vs.map RecV.r = rs ∧ Sep M w0 (Δ.set i (Wk.mine [.slice ad n cap] vs f0) ++ [gone, poolR vs f1]) F w := by
  obtain ⟨vs, f0, f1, e1, ef, h1, h2⟩ := own_toV (h.mine i hi)
  have hil : i < Δ.length := (List.getElem?_eq_some_iff.1 hi).1
  have p2 : (poolR vs f1).φ w := h2
  have H2 := h.part i hi [Wk.mine [.slice ad n cap] vs f0, poolR vs f1] (all_cons h1 (all_cons p2 (by simp))) (by simp [blocks, Wk.mine, poolR, ef])
  exact ⟨vs, f0, f1, e1, H2.perm (set_swap hil)⟩
theorem Sep.ofViews (h : Sep M w0 Δ F w) (i j : Nat) {ad n cap} {vs : List RecV} {f0 f1} (hi : Δ[i]? = some (Wk.mine [.slice ad n cap] vs f0)) (hj : Δ[j]? = some (poolR vs f1)) (hij : Nat.beq j i = false) :
    ∃ fp, Sep M w0 ((Δ.set j gone).set i (Wk.mine [.slice ad n cap] (vs.map RecV.r) fp)) F w := by
  have hne : j ≠ i := fun e => by subst e; simp at hij
  have H1 := h.join2 i j hi hj hij
  have g : ((Δ.set j gone).set i (cat (Wk.mine [.slice ad n cap] vs f0) (poolR vs f1)))[i]? = some (cat (Wk.mine [.slice ad n cap] vs f0) (poolR vs f1)) :=
    List.getElem?_set_self (by have := (List.getElem?_eq_some_iff.1 hi).1; simpa using this)
  have hφ : (cat (Wk.mine [.slice ad n cap] vs f0) (poolR vs f1)).φ w := H1.r i g
  have hn := H1.nodup1 g
  have H2 := H1.conv i (Wk.mine [.slice ad n cap] (vs.map RecV.r) (f0 ++ f1)) g (own_ofV hφ.1 hφ.2) (fun b hb => hb) hn
  rw [List.set_set] at H2
  exact ⟨_, H2⟩
theorem Sep.poolSub (h : Sep M w0 Δ F w) (j : Nat) {vs : List RecV} {f} (hj : Δ[j]? = some (poolR vs f)) {vs' : List RecV} (hs : vs'.Sublist vs) : ∃ f', Sep M w0 (Δ.set j (poolR vs' f')) F w := by
  obtain ⟨f', h1, h2⟩ := ownP.sub hs (h.r j hj)
  have hn := h.nodup1 hj
  exact ⟨f', h.conv j (poolR vs' f') hj h1 (fun b hb => h2.subset hb) (h2.nodup hn)⟩
theorem Sep.viewAt (h : Sep M w0 Δ F w) (i : Nat) {ad n cap} {vs : List RecV} {f} (hi : Δ[i]? = some (Wk.mine [.slice ad n cap] vs f)) (k : Nat) (hk : k < vs.length) :
    ∃ b o, ad = some ⟨b, o, none⟩ ∧ At w b (o + k * 9) (vs.getD k default).cs ∧ (vs.getD k default).r.Ok := by
  obtain ⟨b, o, cs, fk, e, hat, hx, _⟩ := own_elem (h.mine i hi) k hk
  rw [getD_el hk]
  obtain ⟨e1, _, ok⟩ := hx
  exact ⟨b, o, e, by rw [← e1]; exact hat, ok⟩
end
section
variable {P : Program} {n : Nat} {ops : Array Oper} {Q : Post} {L : Env} {w w0 : World} {M : Nat → Prop} {Δ F : List Rsc} {d : Option Tmp} {ty : TypeId} {p : String} {af : Array Edge} {g : Option (Nat × Bool)} {rest : List Oper}
theorem s_elstV {t : TypeId} {x y : Operand} {b off : Nat} {ad : Option Addr} {len cap : Nat} {xs : List RecV} {fp : List Nat} {u : RecV} (hw : Wn ops n L ⟨none, .store t x y, ty, p, af, g⟩) (hs : ∀ w, (sizeOf t).run P w = .ok 9 w)
    (H : Sep M w0 Δ F w) (i : Nat) (hi : Δ[i]? = some (Wk.mine [.slice ad len cap] xs fp)) (q : Nat) (hq : q < xs.length) (hx : evL L x = some (.pointer (some ⟨b, off + q * 9, none⟩))) (had : ad = some ⟨b, off, none⟩) (hy : evL L y = some (.agg u.cs.toArray)) (ok : u.r.Ok)
    (k : ∀ w' fp', Sep M w0 (Δ.set i (Wk.mine [.slice ad len cap] (xs.set q u) fp')) F w' → RL P n ops Q rest L w') :
    RL P n ops Q (⟨none, .store t x y, ty, p, af, g⟩ :: rest) L w := by
  obtain ⟨b', o', cur, T, e1, hb, hsz, hk⟩ := H.elset i hi q hq
  rw [had] at e1
  simp only [Option.some.injEq, Addr.mk.injEq, and_true] at e1
  obtain ⟨rfl, rfl⟩ := e1
  obtain ⟨fp', h⟩ := hk u.cs u ⟨rfl, rfl, ok⟩
  exact s_do hw rfl (pd_storeS hs hx hy rfl RecV.one hb hsz) (k _ fp' h)
theorem zero_mem {c : Array Value} {m : Nat} (h : ∀ v ∈ c.toList, v.oneCell' = true) : ∀ v ∈ (Builtin.zeroCells c m).toList, v.oneCell' = true := by
  intro v hv
  simp only [Builtin.zeroCells, Array.toList_map, List.mem_map, Array.toList_range, List.mem_range] at hv
  obtain ⟨i, hi, rfl⟩ := hv
  have hs : 0 < c.size := by
    rcases Nat.eq_zero_or_pos c.size with e | e
    · rw [e] at hi; simp at hi
    · exact e
  have hlt := Nat.mod_lt i hs
  rw [getElem!_pos c _ hlt]
  exact h _ (by simp)
theorem s_new0 {o : Oper} {v : Value} {w' : World} (hw : Wn ops n L o) (hd : o.dst = none) (hp : Pn P n L w o v w')
    (k : RL P n ops Q rest L w') : RL P n ops Q (o :: rest) L w := fun a ha => wpList_step fun K hK => by
  rw [if_pos (hw a ha)]
  unfold Oper.wp
  rw [hp a ha, Oper.upon_value, hd]
  exact hK _ _ (k _ ha)
theorem take_drop_eq {l l' : List Value} {o n : Nat} (h : ∀ j, j < o + n → l'[j]? = l[j]?) : (l'.drop o).take n = (l.drop o).take n := by
  apply List.ext_getElem?
  intro j
  rw [List.getElem?_take, List.getElem?_take]
  split
  · rw [List.getElem?_drop, List.getElem?_drop]; exact h _ (by omega)
  · rfl
theorem run_clear0 {t : TypeId} {e : TypeId} {a : Option Addr} {c : Nat} {w : World} (ht : P.underlying t = some (.slice e)) : (Builtin.clear_ #[t] ty #[.slice a 0 c]).run P w = .ok (.tuple #[]) w := by
  cases a <;> simp [Builtin.clear_, run_underlying ht]
theorem run_clearN {t e : TypeId} {z : Value} {bytes size m c b o : Nat} {cur : Array Value} {T : TypeId} {w : World} (ht : P.underlying t = some (.slice e)) (hT : Ty P e z size bytes) (hz : z.cells.size = size) (hz1 : ∀ v ∈ z.cells.toList, v.oneCell' = true) (hb : w.heap[b]? = some (.cells cur T (0, 0))) (hm : 0 < m) (hsz : o + m * size ≤ cur.size) :
    (Builtin.clear_ #[t] ty #[.slice (some ⟨b, o, none⟩) m c]).run P w = .ok (.tuple #[]) (Wk.put w b (.cells (lay cur o (Builtin.zeroCells z.cells m).toList) T (0, 0))) := by
  obtain ⟨i, hi1, hi2, hi3, hi4⟩ := hT.parts
  have hr := run_storeCells (P := P) (Builtin.zeroCells z.cells m).toList w o 0 cur hb (zero_mem hz1) (by simp only [Array.length_toList, size_zeroCells, hz]; omega)
  rw [Nat.add_zero] at hr
  obtain ⟨m', rfl⟩ : ∃ m', m = m' + 1 := ⟨m - 1, by omega⟩
  simp [Builtin.clear_, run_underlying ht, zeroValue, typeInfo, hi1, hi2, hr]
theorem s_clearV {t e : TypeId} {x : Operand} {z : Value} {bytes b off k cap m c l : Nat} {xs : List RecV} {fp : List Nat} (hw : Wn ops n L ⟨none, .call ⟨.builtin .clear, #[x], #[t]⟩, ty, p, af, g⟩) (ht : P.underlying t = some (.slice e)) (hT : Ty P e z 9 bytes) (hz : z.cells.size = 9) (hz1 : ∀ v ∈ z.cells.toList, v.oneCell' = true)
    (hx : evL L x = some (.slice (slA (some ⟨b, off, none⟩) k cap 9) l c)) (hl : l = xs.length - k) (hk : k ≤ xs.length)
    (H : Sep M w0 Δ F w) (i : Nat) (hi : Δ[i]? = some (Wk.mine [.slice (some ⟨b, off, none⟩) m cap] xs fp))
    (kk : ∀ w', Sep M w0 (Δ.set i (Wk.mine [.slice (some ⟨b, off, none⟩) k cap] (xs.take k) fp)) F w' → RL P n ops Q rest L w') :
    RL P n ops Q (⟨none, .call ⟨.builtin .clear, #[x], #[t]⟩, ty, p, af, g⟩ :: rest) L w := by
  subst hl
  have o := H.mine i hi
  rcases o with ⟨hf, _⟩ | ⟨e1, _⟩ | ⟨b', o', cap', cur, T, fr, fs, h1, h2, h3, h4, h5, h6, h7, h8⟩
  · cases hf
  · simp at e1
  · simp only [List.cons.injEq, Value.slice.injEq, Option.some.injEq, Addr.mk.injEq, and_true] at h1
    obtain ⟨⟨rfl, rfl⟩, hm, hc⟩ := h1
    subst hc
    have hfr := h4 rfl
    subst hfr
    obtain ⟨h9, h10⟩ := ownL_takeV k h8
    subst h10
    subst h2
    have hn := H.nodup1 hi
    have e9 : sz RecV = 9 := rfl
    have el : (xs.take k).length = k := by rw [List.length_take]; omega
    rcases Nat.eq_zero_or_pos (xs.length - k) with e | e
    · have hr := run_clear0 (P := P) (ty := ty) (w := w) (a := slA (some ⟨b, off, none⟩) k cap 9) (c := c) ht
      rw [← e] at hr
      refine s_new0 hw rfl (v := .tuple #[]) (w' := w) (fun a ha => ?_) (kk _ (H.conv i (Wk.mine [.slice (some ⟨b, off, none⟩) k cap] (xs.take k) [b]) hi (.inr (.inr ⟨b, off, cap, cur, T, (0, 0), [], by rw [el], rfl, h3, fun _ => rfl, by rw [el]; omega, h6, h7, h9⟩)) (fun b hb => hb) hn))
      simp [execOp, resolve, invoke, builtin, ha.eval hx, hr]
    · have hlt : k < cap := by omega
      have ea : slA (some ⟨b, off, none⟩) k cap 9 = some ⟨b, off + k * 9, none⟩ := by
        unfold slA; rw [if_neg (by omega)]; simp [add_lit]
      rw [ea] at hx
      have hsz : off + k * 9 + (xs.length - k) * 9 ≤ cur.size := by rw [e9] at h7; omega
      have hr := run_clearN (P := P) (ty := ty) (c := c) ht hT hz hz1 h3 e hsz
      have hE : Ext (· = b) w (Wk.put w b (.cells (lay cur (off + k * 9) (Builtin.zeroCells z.cells (xs.length - k)).toList) T (0, 0))) := Ext.refl.put (.inl rfl)
      refine s_new0 hw rfl (v := .tuple #[]) (w' := Wk.put w b (.cells (lay cur (off + k * 9) (Builtin.zeroCells z.cells (xs.length - k)).toList) T (0, 0))) (fun a ha => ?_) (kk _ (H.set hi (q := Wk.mine [.slice (some ⟨b, off, none⟩) k cap] (xs.take k) [b]) (hE.mono fun b' _ e => by subst e; simp [Wk.mine])
        (.inr (.inr ⟨b, off, cap, _, T, (0, 0), [], by rw [el], rfl, put_heap h3, fun _ => rfl, by rw [el]; omega, h6, by rw [lay_size]; exact h7, (h9.congr (take_drop_eq fun j hj => ?_)).st fun x hx => by simp at hx⟩)) hn (fun b' hb' => .inl hb')))
      · simp [execOp, resolve, invoke, builtin, ha.eval hx, hr]
      · rw [el, e9] at hj
        rw [Array.getElem?_toList, Array.getElem?_toList]
        exact lay_get _ _ _ _ (.inl hj)
end
end Go.Wk
namespace Go.Wk
open Rp (sz own)
def keepR (p : Rec → Bool) (rs : List Rec) : List Rec := rs.filter fun r => !p r
def keepV (p : Rec → Bool) (vs : List RecV) : List RecV := vs.filter fun v => !p v.r
theorem keepV_map {p : Rec → Bool} {vs : List RecV} : (keepV p vs).map RecV.r = keepR p (vs.map RecV.r) := by
  unfold keepV keepR; rw [List.filter_map]; rfl
theorem keepV_sub {p : Rec → Bool} {vs : List RecV} : (keepV p vs).Sublist vs := List.filter_sublist
theorem keepV_yes {p : Rec → Bool} {vs : List RecV} {k : Nat} (hk : k < vs.length) (h : p (vs.getD k default).r = false) : keepV p (vs.take (k + 1)) = keepV p (vs.take k) ++ [vs.getD k default] := by
  rw [← take_step (d := default) hk]
  unfold keepV
  rw [List.filter_append, List.filter_cons_of_pos (by simp only [h, Bool.not_false]), List.filter_nil]
theorem keepV_no {p : Rec → Bool} {vs : List RecV} {k : Nat} (hk : k < vs.length) (h : p (vs.getD k default).r = true) : keepV p (vs.take (k + 1)) = keepV p (vs.take k) := by
  rw [← take_step (d := default) hk]
  unfold keepV
  rw [List.filter_append, List.filter_cons_of_neg (by simp only [h, Bool.not_true]; exact Bool.false_ne_true), List.filter_nil, List.append_nil]
theorem keepV_all {p : Rec → Bool} {vs : List RecV} : ∀ {k : Nat}, k ≤ vs.length → (∀ i, i < k → p (vs.getD i default).r = false) → keepV p (vs.take k) = vs.take k
  | 0, _, _ => by simp [keepV]
  | k + 1, hk, h => by
    rw [keepV_yes (by omega) (h k (by omega)), keepV_all (by omega) fun i hi => h i (by omega), take_step (by omega)]
theorem keepV_len {p : Rec → Bool} {vs : List RecV} {k : Nat} : (keepV p (vs.take k)).length ≤ k := by
  have h1 : (keepV p (vs.take k)).length ≤ (vs.take k).length := List.length_filter_le _ _
  rw [List.length_take] at h1; omega
theorem keepR_none {p : Rec → Bool} {rs : List Rec} (h : firstOf p rs = -1) : keepR p rs = rs := by
  unfold firstOf at h
  cases hq : rs.findIdx? p with
  | some k => rw [hq] at h; simp only at h; omega
  | none =>
    rw [List.findIdx?_eq_none_iff] at hq
    unfold keepR
    rw [List.filter_eq_self]
    intro a ha
    have := hq a ha
    simpa using this
theorem firstOf_get {α : Type} {p : α → Bool} {xs : List α} {d : α} (h : ¬ firstOf p xs = -1) : ∃ k : Nat, firstOf p xs = k ∧ k < xs.length ∧ p (xs.getD k d) = true ∧ ∀ i, i < k → p (xs.getD i d) = false := by
  unfold firstOf at h ⊢
  cases hq : xs.findIdx? p with
  | none => rw [hq] at h; simp at h
  | some k =>
    rw [List.findIdx?_eq_some_iff_getElem] at hq
    obtain ⟨h1, h2, h3⟩ := hq
    refine ⟨k, rfl, h1, by rw [getD_el h1]; exact h2, fun i hi => ?_⟩
    have := h3 i hi
    rw [getD_el (by omega)]
    simpa using this
theorem getD_map {vs : List RecV} {k : Nat} : (vs.map RecV.r).getD k default = (vs.getD k default).r := by
  simp only [List.getD, List.getElem?_map]
  cases vs[k]? <;> rfl
def DInv (p : Rec → Bool) (vs ws : List RecV) (i j : Nat) : Prop := j ≤ vs.length ∧ ws.length = vs.length ∧ i < j ∧ ws.take i = keepV p (vs.take j) ∧ ws.drop j = vs.drop j
section
variable {p : Rec → Bool} {vs ws : List RecV} {i j : Nat}
theorem dinv_at (h : DInv p vs ws i j) : ws.getD j default = vs.getD j default := by
  have := congrArg (fun l => l.getD 0 default) h.2.2.2.2
  simpa [List.getD] using this
theorem dinv_start {k : Nat} (hk : k < vs.length) (h1 : p (vs.getD k default).r = true) (h2 : ∀ i, i < k → p (vs.getD i default).r = false) : DInv p vs vs k (k + 1) :=
  ⟨by omega, rfl, by omega, by rw [keepV_no hk h1, keepV_all (by omega) h2], rfl⟩
theorem dinv_no (h : DInv p vs ws i j) (hj : j < vs.length) (hp : p (vs.getD j default).r = true) : DInv p vs ws i (j + 1) := by
  obtain ⟨h1, h2, h3, h4, h5⟩ := h
  refine ⟨by omega, h2, by omega, by rw [keepV_no hj hp]; exact h4, ?_⟩
  have := congrArg (List.drop 1) h5
  simpa [List.drop_drop] using this
theorem dinv_yes (h : DInv p vs ws i j) (hj : j < vs.length) (hp : p (vs.getD j default).r = false) : DInv p vs (ws.set i (vs.getD j default)) (i + 1) (j + 1) := by
  obtain ⟨h1, h2, h3, h4, h5⟩ := h
  refine ⟨by omega, by rw [List.length_set]; exact h2, by omega, ?_, ?_⟩
  · rw [keepV_yes hj hp, ← h4, ← take_step (d := default) (by rw [List.length_set]; omega), List.take_set_of_le (by omega)]
    congr 2
    rw [getD_set, if_pos ⟨rfl, by omega⟩]
  · rw [List.drop_set_of_lt (by omega)]
    have := congrArg (List.drop 1) h5
    simpa [List.drop_drop] using this
theorem dinv_end (h : DInv p vs ws i j) (hj : j = vs.length) : ws.take i = keepV p vs := by
  subst hj
  have := h.2.2.2.1
  rwa [List.take_length] at this
end
def pKS (kd sq : Int) (r : Rec) : Bool := decide (r.Kind = kd) && decide (r.Seq = sq)
def stT (t : Nat) (kd sq : Int) (z : Wld) : Wld := ⟨z.Shape, z.Groups, z.On, z.Tapes.set t ⟨(z.Tapes.getD t default).Wiped, keepR (pKS kd sq) (z.Tapes.getD t default).Recs⟩, z.Writes, z.Stop, z.Down⟩
def strW (t : Nat) (kd sq : Int) (z : Wld) : Wld := rawW z (stT t kd sq z)
def strOK (z : Wld) (kd sq : Int) : Bool := !noPower z && !noPower (strW 0 kd sq z)
def strBW (z : Wld) (kd sq : Int) : Wld := if noPower z = true then cutW z else strW 1 kd sq (strW 0 kd sq z)
def strikeF (z : Wld) (kd sq : Int) : WldResult := if upF z = 0 then ⟨if strOK z kd sq = true then 0 else 9, strBW z kd sq⟩ else ⟨upF z, noWld⟩
section
variable {t : Nat} {kd sq : Int} {z : Wld}
theorem stT_ok (h : z.Ok) : (stT t kd sq z).Ok := h
theorem strW_tapes : (strW t kd sq z).Tapes.length = z.Tapes.length := by
  unfold strW rawW; split
  · rfl
  · simp [tickW, stT]
theorem strW_writes : z.Writes ≤ (strW t kd sq z).Writes ∧ (strW t kd sq z).Writes ≤ z.Writes + 1 := by
  unfold strW rawW; split
  · show z.Writes ≤ z.Writes ∧ z.Writes ≤ z.Writes + 1; omega
  · show z.Writes ≤ z.Writes + 1 ∧ z.Writes + 1 ≤ z.Writes + 1; omega
theorem keepR_len {p : Rec → Bool} {rs : List Rec} : (keepR p rs).length ≤ rs.length := List.length_filter_le _ _
theorem strW_recs {u : Nat} : ((strW t kd sq z).Tapes.getD u default).Recs.length ≤ (z.Tapes.getD u default).Recs.length := by
  unfold strW rawW; split
  · show (z.Tapes.getD u default).Recs.length ≤ _; omega
  · show ((z.Tapes.set t _).getD u default).Recs.length ≤ _
    rw [getD_set]; split
    · next h => rw [h.1]; exact keepR_len
    · omega
theorem strW_down (h : noPower z = false) : (strW t kd sq z).Down = z.Down := by
  unfold strW; rw [rawW_yes h]; rfl
theorem strBW_no (h : noPower z = true) : strBW z kd sq = strW 0 kd sq z ∧ strOK z kd sq = false := by
  unfold strBW strOK strW
  rw [if_pos h, h, rawW_no h]; exact ⟨rfl, rfl⟩
theorem strBW_yes (h : noPower z = false) : strBW z kd sq = strW 1 kd sq (strW 0 kd sq z) ∧ strOK z kd sq = !noPower (strW 0 kd sq z) := by
  unfold strBW strOK
  rw [if_neg (by simp [h]), h]; exact ⟨rfl, rfl⟩
theorem strike_bad (h : upF z ≠ 0) : strikeF z kd sq = ⟨upF z, noWld⟩ := by rw [strikeF, if_neg h]
theorem strike_ok (h : upF z = 0) : strikeF z kd sq = ⟨if strOK z kd sq = true then 0 else 9, strBW z kd sq⟩ := by rw [strikeF, if_pos h]
theorem strW_ok (h : z.Ok) (h2 : z.Writes ≤ 2000000000) : (strW t kd sq z).Ok := by
  unfold strW rawW; split
  · exact cutW_ok h
  · exact tickW_ok (z := stT t kd sq z) (stT_ok h) h2
theorem strBW_ok (h : z.Ok) (h2 : z.Writes ≤ 1000000000) : (strBW z kd sq).Ok := by
  unfold strBW; split
  · exact cutW_ok h
  · have := strW_writes (t := 0) (kd := kd) (sq := sq) (z := z)
    exact strW_ok (strW_ok h (by omega)) (by omega)
theorem strike_Ok (h : z.Ok) : (strikeF z kd sq).Ok := by
  have h1 := upF_cd (z := z)
  unfold strikeF
  split
  · next hu =>
    refine ⟨?_, strBW_ok h (worldF_rng (upF_ok hu).1).2.1⟩
    show I64ok (if strOK z kd sq = true then 0 else 9)
    unfold I64ok; split <;> omega
  · exact ⟨(show I64ok (upF z) by unfold I64ok; omega), noWld_ok⟩
theorem mkL_filter {α : Type} [Inhabited α] {f : α → Nat} {p : α → Bool} {xs : List α} : mkL f (xs.filter p) ≤ mkL f xs := by
  have key : ∀ k, k ≤ xs.length → mkL f ((xs.take k).filter p) ≤ mkL f (xs.take k) := by
    intro k
    induction k with
    | zero => intro _; simp
    | succ k ih =>
      intro hk
      have h1 := ih (by omega)
      rw [← take_step (d := default) (by omega), List.filter_append, mkL_snoc]
      by_cases hp : p (xs.getD k default) = true
      · rw [List.filter_cons_of_pos hp, List.filter_nil, mkL_snoc]; omega
      · rw [List.filter_cons_of_neg hp, List.filter_nil, List.append_nil]; omega
  have := key xs.length (Nat.le_refl _)
  rwa [List.take_length] at this
theorem mk_str (h : t < z.Tapes.length) : mkWld (strW t kd sq z) ≤ 2 * mkWld z := by
  unfold strW rawW; split
  · have := mk_cut (z := z); omega
  · have h1 := mkL_set (f := mkTape) (xs := z.Tapes) (i := t) (y := ⟨(z.Tapes.getD t default).Wiped, keepR (pKS kd sq) (z.Tapes.getD t default).Recs⟩)
    have h2 := mkL_el (f := mkTape) h
    have h3 : mkTape ⟨(z.Tapes.getD t default).Wiped, keepR (pKS kd sq) (z.Tapes.getD t default).Recs⟩ ≤ mkTape (z.Tapes.getD t default) := by
      unfold mkTape keepR; dsimp only
      have := mkL_filter (f := mkRec) (p := fun r => !pKS kd sq r) (xs := (z.Tapes.getD t default).Recs)
      omega
    unfold mkWld tickW stT; dsimp only; omega
theorem mk_strike : mkWld (strikeF z kd sq).Wd ≤ 4 * mkWld z := by
  have h0 : mkWld noWld = 0 := rfl
  unfold strikeF
  split
  · next h =>
    have hT := (worldF_ok (upF_ok h).1).2.2.2.1
    show mkWld (strBW z kd sq) ≤ _
    unfold strBW; split
    · have := mk_cut (z := z); omega
    · have h1 := mk_str (t := 0) (kd := kd) (sq := sq) (z := z) (by omega)
      have h2 := mk_str (t := 1) (kd := kd) (sq := sq) (z := strW 0 kd sq z) (by rw [strW_tapes]; omega)
      omega
  · show mkWld noWld ≤ _; omega
end
theorem pKS_kd {kd sq : Int} {r : Rec} (h : ¬ r.Kind = kd) : pKS kd sq r = false := by unfold pKS; rw [decide_eq_false h]; rfl
theorem pKS_sq {kd sq : Int} {r : Rec} (h : ¬ r.Seq = sq) : pKS kd sq r = false := by unfold pKS; rw [decide_eq_false h, Bool.and_false]
theorem pKS_eq {kd sq : Int} {r : Rec} (h : r.Kind = kd) : pKS kd sq r = decide (r.Seq = sq) := by unfold pKS; rw [decide_eq_true h, Bool.true_and]
theorem recv_own {w : World} {v : RecV} (ok : v.r.Ok) : own true w v.cs v [] := ⟨rfl, rfl, ok⟩
def strN (z : Wld) (kd sq : Int) : Nat → Wld
  | 0 => z
  | k + 1 => strW k kd sq (strN z kd sq k)
theorem strN_facts {z : Wld} {kd sq : Int} (hd : z.Down = false) (hT : z.Tapes.length = 2) : ∀ k, (∀ i, i < k → noPower (strN z kd sq i) = false) → (strN z kd sq k).Down = false ∧ (strN z kd sq k).Tapes.length = 2 ∧ (strN z kd sq k).Writes ≤ z.Writes + k
  | 0, _ => ⟨hd, hT, by show z.Writes ≤ _; omega⟩
  | k + 1, h => by
    obtain ⟨h1, h2, h3⟩ := strN_facts hd hT k fun i hi => h i (by omega)
    have h4 := (strW_writes (t := k) (kd := kd) (sq := sq) (z := strN z kd sq k)).2
    exact ⟨(strW_down (h k (by omega))).trans h1, strW_tapes.trans h2, by show (strW k kd sq (strN z kd sq k)).Writes ≤ _; omega⟩
theorem strN_step {z z1 : Wld} {kd sq : Int} {k : Nat} (h : noPower (strN z kd sq k) = false) (e : z1 = tickW (strN z kd sq k)) : stT k kd sq z1 = strN z kd sq (k + 1) := by
  subst e
  show _ = strW k kd sq (strN z kd sq k)
  unfold strW; rw [rawW_yes h]; rfl
section
variable {M : Nat → Prop} {w0 w : World} {Δ F : List Rsc}
theorem Sep.viewSeen (h : Sep M w0 Δ F w) (i : Nat) {s : Bool} {ad n cap} {vs : List RecV} {f} (hi : F[i]? = some (Wk.seen s [.slice ad n cap] vs f)) (k : Nat) (hk : k < vs.length) :
    ∃ b o, ad = some ⟨b, o, none⟩ ∧ At w b (o + k * 9) (vs.getD k default).cs ∧ (vs.getD k default).r.Ok := by
  have hx : own s w [.slice ad n cap] vs f := h.fs _ (List.mem_of_getElem? hi)
  obtain ⟨b, o, cs, fk, e, hat, hx, _⟩ := own_elem hx k hk
  rw [getD_el hk]
  obtain ⟨e1, _, ok⟩ := hx
  exact ⟨b, o, e, by rw [← e1]; exact hat, ok⟩
end
theorem strN_recs {z : Wld} {kd sq : Int} {u : Nat} : ∀ k, ((strN z kd sq k).Tapes.getD u default).Recs.length ≤ (z.Tapes.getD u default).Recs.length
  | 0 => Nat.le_refl _
  | k + 1 => Nat.le_trans (strW_recs (t := k) (kd := kd) (sq := sq) (z := strN z kd sq k)) (strN_recs k)
theorem strN_rl {z : Wld} {kd sq : Int} (h : worldF z = 0) : ∀ k, ((strN z kd sq k).Tapes.getD k default).Recs.length ≤ 100000 ∧ True := fun k => by
  refine ⟨?_, trivial⟩
  have h1 := strN_recs (z := z) (kd := kd) (sq := sq) (u := k) k
  obtain ⟨h2, h3⟩ := recs_le h
  have hT := (worldF_ok h).2.2.2.1
  have h4 : (z.Tapes.getD k default).Recs.length ≤ 200 := by
    by_cases e0 : k = 0
    · rw [e0]; exact h2
    · by_cases e1 : k = 1
      · rw [e1]; exact h3
      · rw [show z.Tapes.getD k default = default from by simp [List.getD, List.getElem?_eq_none (show z.Tapes.length ≤ k by omega)]]
        exact Nat.zero_le _
  omega
end Go.Wk
namespace Go.Wk
open Go.Proofs Rp
set_option maxRecDepth 10000
theorem Tryz_impl_World_strike_1_1 {w : World} {r : Rec} {rA6 : Option Addr} {rC6 : Nat} {rA7 : Option Addr} {rC7 : Nat} {rA8 : Option Addr} {rC8 : Nat} {kd sq : Int} {b1 b2 : Nat} (h1 : w.heap[b1]? = some (.cells [.int .i64 kd].toArray 2)) (h2 : w.heap[b2]? = some (.cells [.int .i64 sq].toArray 2)) : Ret Tryz.prog 235 #[r.val rA6 rC6 rA7 rC7 rA8 rC8, .pointer (some ⟨b1, 0, none⟩), .pointer (some ⟨b2, 0, none⟩)] w fun v w' => Ext No w w' ∧ (v = .bool (pKS kd sq r)) := by
 refine ret_Q (vs := [r.val rA6 rC6 rA7 rC7 rA8 rC8, .pointer (some ⟨b1, 0, none⟩), .pointer (some ⟨b2, 0, none⟩)]) Tryz.func235 rfl Tryz.ntmps235 rfl (fun Q hQ hN => ?_)
 have H0 := Sep.start (w := w) (F := [box b1 (.cells [.int .i64 kd].toArray 2), box b2 (.cells [.int .i64 sq].toArray 2)]) (all_cons (by exact h1) (all_cons (by exact h2) (by simp)))
 refine W_sr (s_box (wn rfl) rfl rfl H0 (fun b1 w1 e1 g1 H1 => ?_))
 refine sV rfl (py_assign rfl) (s_nil (W_sr (sV rfl (py_field Tryz.underlying66 rfl Tryz.sizeOf2 rfl rfl) (sV rfl (py_load Tryz.underlying2 rfl rfl (cell_atL (H1.box 0 rfl) rfl)) (sV rfl (py_load Tryz.underlying2 rfl rfl (cell_atL (H1.fbox 0 rfl) rfl)) (sV rfl (py_eql rfl rfl) (sV rfl (py_move rfl) (s_case (t := 9) rfl (fun hg1 => ?_) (fun hg1 => ?_)))))))))
 ·try simp only [decide_eq_true_eq, decide_eq_false_iff_not] at hg1
  refine s_val (wg rfl rfl rfl) rfl rfl (py_field Tryz.underlying66 rfl Tryz.sizeOf2 rfl rfl) (s_val (wg rfl rfl rfl) rfl rfl (py_load Tryz.underlying2 rfl rfl (cell_atL (H1.box 0 rfl) rfl)) (s_val (wg rfl rfl rfl) rfl rfl (py_load Tryz.underlying2 rfl rfl (cell_atL (H1.fbox 1 rfl) rfl)) (s_val (wg rfl rfl rfl) rfl rfl (py_eql rfl rfl) (sV rfl (py_pickT rfl rfl) (sV rfl (py_assign rfl) (s_nil (W_ret (hQ _ _ (fin1 Tryz.results235 rfl ?_)))))))))
  exact ⟨H1.ext, congrArg Value.bool ((pKS_eq hg1).symm)⟩
 ·try simp only [decide_eq_true_eq, decide_eq_false_iff_not] at hg1
  refine s_skip (wog (b := false) rfl rfl rfl) rfl rfl (s_skip (wog (b := false) rfl rfl rfl) rfl rfl (s_skip (wog (b := false) rfl rfl rfl) rfl rfl (s_skip (wog (b := false) rfl rfl rfl) rfl rfl (sV rfl (py_pickF rfl rfl) (sV rfl (py_assign rfl) (s_nil (W_ret (hQ _ _ (fin1 Tryz.results235 rfl ?_)))))))))
  exact ⟨H1.ext, congrArg Value.bool ((pKS_kd hg1).symm)⟩
theorem Tryz_slices_DeleteFunc_impl_Rec_impl_Rec {w : World} {rs : List Rec} {A : Option Addr} {n C : Nat} {fp : List Nat} {gf : FuncId} {gL : List Value} {gF : Func} {p : Rec → Bool} (o : own true w [.slice A n C] rs fp) (nd : fp.Nodup) (gH : Tryz.prog.funcs[gf]? = some gF) (gB : gF.body.isNone = false) (gN : (gF.name == "runtime.NumGoroutine") = false) (gC : ∀ w1, Ext (· ∈ fp) w w1 → ∀ (y : Rec) (A6 : Option Addr) (C6 : Nat) (A7 : Option Addr) (C7 : Nat) (A8 : Option Addr) (C8 : Nat), Ret Tryz.prog gf (([y.val A6 C6 A7 C7 A8 C8] : List Value) ++ gL).toArray w1 fun v w' => Ext No w1 w' ∧ v = .bool (p y)) : Ret Tryz.prog 234 #[.slice A n C, .func (.func gf) #[] gL.toArray] w fun v w' => (∃ m, v = .slice A m C ∧ Mut w w' fp [.slice A m C] (keepR p rs)) := by
 obtain rfl := own_n o
 refine ret_Q (vs := [.slice A rs.length C, .func (.func gf) #[] gL.toArray]) Tryz.func234 rfl Tryz.ntmps234 rfl (fun Q hQ hN => ?_)
 have H0 := Sep.begin o nd
 refine W_sr (sV rfl (py_assign rfl) (s_nil (W_sr (sV rfl (py_move rfl) (sV rfl (py_move rfl) (s_call (wn rfl) rfl rfl (pc_call Tryz.func279 rfl Tryz_nm279 rfl) (Tryz_IndexFunc_Rec (H0.msees 0 rfl) (p := p) gH gB gN (fun w1 e1 i0 hi0 a6 c6 a7 c7 a8 c8 K s6 s7 s8 => gC w1 (H0.ext.trans e1.no) _ a6 c6 a7 c7 a8 c8)) (fun v1 w1 r1 => ?_)))))))
 obtain ⟨e1, rfl⟩ := r1
 have H1 := H0.to e1
 refine sV rfl (py_assign rfl) (s_nil (W_seq (W_sr (sV rfl (py_move rfl) (sV rfl (py_eql rfl rfl) (s_nil (W_ifd rfl (fun c1 => ?_) (fun c1 => ?_))))))))
 ·refine W_sr (sV rfl (py_move rfl) (sV rfl (py_assign rfl) (s_nil (W_ret (hQ _ _ (fin1 Tryz.results234 rfl ?_))))))
  exact ⟨_, rfl, by rw [keepR_none c1]; exact H1.done⟩
 ·refine W_skip (W_seq (W_seq ?_))
  obtain ⟨k0, hk0, hkl, hkp, hkn⟩ := firstOf_get (d := default) c1
  obtain ⟨vs, f0, f1, hvs, HV⟩ := H1.toViews 0 rfl
  try dsimp only [List.nil_append, List.cons_append, List.set_cons_zero, List.set_cons_succ] at HV
  have hvl : vs.length = rs.length := by rw [← hvs, List.length_map]
  obtain ⟨hb0, ho0, had0⟩ := own_addr (HV.mine 0 rfl) 0 (by omega)
  subst had0
  rw [← hvs, getD_map] at hkp
  have hkn2 : ∀ i, i < k0 → p (vs.getD i default).r = false := fun i hi => by have := hkn i hi; rwa [← hvs, getD_map] at this
  have hrl := own_len_le (HV.mine 0 rfl)
  unfold maxLen at hrl
  refine W_reg (sV rfl (py_move rfl) (sV rfl (py_add rfl rfl (in64 ⟨by omega, by omega⟩)) (sV rfl (py_assign rfl) (s_nil (W_block (W_loop (γ := Nat × Nat × List RecV × List Nat) (fun (i, j, ws, f) => [(0, .slice (some ⟨hb0, ho0, none⟩) rs.length C), (1, .func (.func gf) #[] gL.toArray), (5, .int .i64 i), (6, .int .i64 j)]) (fun (i, j, ws, f) w' => Sep (· ∈ fp) w [mine [.slice (some ⟨hb0, ho0, none⟩) rs.length C] ws f, gone, poolR vs f1] [] w' ∧ DInv p vs ws i j) (fun (i, j, ws, f) => vs.length - j) (k0, k0 + 1, vs, f0) ⟨rfl, rfl, eqI hk0, eqI (by omega), trivial⟩ ⟨HV, dinv_start (by omega) hkp hkn2⟩ (fun (i, j, ws, f) w2 H2 => ?_)))))))
  obtain ⟨H2, hI⟩ := H2
  refine W_seq (W_sr (sV rfl (py_move rfl) (sV rfl (py_move rfl) (sV rfl (py_len Tryz.underlying82 rfl) (sV rfl (py_lss rfl rfl) (s_nil (W_ifd rfl (fun c2 => ?_) (fun c2 => ?_))))))))
  ·refine W_skip (W_seq (W_block (W_seq ?_)))
   obtain ⟨eb, eo, ea, eat, eok⟩ := H2.viewAt 0 rfl j (by have := hI.2.1; omega)
   rw [dinv_at hI] at eat eok
   cases ea
   have hwl := hI.2.1
   have hij := hI.2.2.1
   refine W_reg (sV rfl (py_move rfl) (sV rfl (py_move rfl) (sV rfl (py_elz Tryz.underlying82 Tryz.sizeOf66 rfl rfl rfl j (by omega) (by omega)) (sV rfl (py_loadS Tryz.underlying66 rfl Tryz.sizeOf66 rfl rfl eat) (s_var (wn rfl) rfl Tryz.zeroValue66 H2 (fun b1 w3 e2 g1 H3 => ?_))))))
   refine s_stoS (wn rfl) Tryz.sizeOf66 rfl rfl rfl rfl H3 3 rfl rfl (fun w4 e3 H4 => ?_)
   dsimp only [List.nil_append, List.cons_append, List.set_cons_zero, List.set_cons_succ, layL] at H4
   refine s_nil (W_sr (sV rfl (py_move rfl) (sV rfl (py_loadS Tryz.underlying66 rfl Tryz.sizeOf66 rfl rfl (At.whole (H4.box 3 rfl))) (s_call (wn rfl) rfl rfl (pc_callv (lb := gL) rfl gH gB gN rfl) (gC _ H4.ext (vs.getD j default).r (vs.getD j default).A6 (vs.getD j default).C6 (vs.getD j default).A7 (vs.getD j default).C7 (vs.getD j default).A8 (vs.getD j default).C8) (fun v2 w5 r2 => ?_)))))
   obtain ⟨e4, rfl⟩ := r2
   have H5 := H4.to e4
   refine sV rfl (py_not rfl) (s_nil (W_if rfl (fun c3 => ?_) (fun c3 => ?_)))
   ·refine W_sr (sV rfl (py_move rfl) (sV rfl (py_move rfl) (sV rfl (py_loadS Tryz.underlying66 rfl Tryz.sizeOf66 rfl rfl (At.whole (H5.box 3 rfl))) (sV rfl (py_elz Tryz.underlying82 Tryz.sizeOf66 rfl rfl rfl i (by omega) (by omega)) (s_elstV (u := (vs.getD j default)) (wn rfl) Tryz.sizeOf66 H5 0 rfl i (by omega) rfl rfl rfl eok (fun w6 fp1 H6 => ?_))))))
    try dsimp only [List.nil_append, List.cons_append, List.set_cons_zero, List.set_cons_succ] at H6
    refine s_nil (W_reg (sV rfl (py_move rfl) (sV rfl (py_add rfl rfl (in64 ⟨by omega, by omega⟩)) (sV rfl (py_assign rfl) (s_nil (W_reg (sV rfl (py_move rfl) (sV rfl (py_add rfl rfl (in64 ⟨by omega, by omega⟩)) (sV rfl (py_assign rfl) (s_nil (⟨(i + 1, j + 1, _, _), ⟨rfl, rfl, rfl, rfl, trivial⟩, ⟨(H6.dtake 3), dinv_yes hI (by omega) (by simpa using c3)⟩, by dsimp only; omega⟩)))))))))))
   ·refine W_skip (W_reg (sV rfl (py_move rfl) (sV rfl (py_add rfl rfl (in64 ⟨by omega, by omega⟩)) (sV rfl (py_assign rfl) (s_nil (⟨(i, j + 1, _, _), ⟨rfl, rfl, rfl, rfl, trivial⟩, ⟨(H5.dtake 3), dinv_no hI (by omega) (by simpa using c3)⟩, by dsimp only; omega⟩))))))
  ·refine W_exit (W_seq ?_)
   have hwl := hI.2.1
   have hij := hI.2.2.1
   have hjl := hI.1
   refine W_reg (sV rfl (py_move rfl) (sV rfl (py_move rfl) (sV rfl (py_slcL Tryz.underlying82 Tryz.sizeOf66 rfl rfl i rfl (by omega)) (s_clearV (wn rfl) Tryz.underlying82 Tryz_ty66 rfl (allOne_spec rfl) rfl (by omega) (by omega) H2 0 rfl (fun w7 H7 => ?_)))))
   try dsimp only [List.nil_append, List.cons_append, List.set_cons_zero, List.set_cons_succ] at H7
   refine s_nil (W_seq ?_)
   have hcp := own_le_cap (H7.mine 0 rfl)
   rw [List.length_take] at hcp
   refine W_reg (sV rfl (py_move rfl) (sV rfl (py_move rfl) (sV rfl (py_slc0 Tryz.underlying82 Tryz.sizeOf66 rfl rfl i rfl (by omega)) (sV rfl (py_assign rfl) (s_nil (W_ret (hQ _ _ (fin1 Tryz.results234 rfl ?_))))))))
   have HE := H7
   rw [dinv_end hI (by omega)] at HE
   obtain ⟨f9, H9⟩ := HE.poolSub 2 rfl (keepV_sub (p := p))
   try dsimp only [List.nil_append, List.cons_append, List.set_cons_zero, List.set_cons_succ] at H9
   obtain ⟨f8, H8⟩ := H9.ofViews 0 2 rfl rfl rfl
   try dsimp only [List.nil_append, List.cons_append, List.set_cons_zero, List.set_cons_succ] at H8
   rw [keepV_map, hvs] at H8
   exact ⟨_, rfl, (H8.dtake 1).done⟩
theorem Tryz_impl_World_strike_1 {w : World} {z : Wld} {zb t b1 b2 b3 b4 : Nat} {kd sq : Int} {fp : List Nat} (o : OwnW w zb 37 z fp) (nd : fp.Nodup) (h1 : w.heap[b1]? = some (.cells [.pointer (some ⟨zb, 0, none⟩)].toArray 93)) (d1 : b1 ∉ fp) (h2 : w.heap[b2]? = some (.cells [.int .i64 (t : Nat)].toArray 2)) (d2 : b2 ∉ fp) (h3 : w.heap[b3]? = some (.cells [.int .i64 kd].toArray 2)) (d3 : b3 ∉ fp) (h4 : w.heap[b4]? = some (.cells [.int .i64 sq].toArray 2)) (d4 : b4 ∉ fp) (ht : t < z.Tapes.length) : Ret Tryz.prog 233 #[.pointer (some ⟨b1, 0, none⟩), .pointer (some ⟨b2, 0, none⟩), .pointer (some ⟨b3, 0, none⟩), .pointer (some ⟨b4, 0, none⟩)] w fun v w' => (MutW w w' fp zb 37 (stT t kd sq z)) := by
 refine ret_Q (vs := [.pointer (some ⟨b1, 0, none⟩), .pointer (some ⟨b2, 0, none⟩), .pointer (some ⟨b3, 0, none⟩), .pointer (some ⟨b4, 0, none⟩)]) Tryz.func233 rfl Tryz.ntmps233 rfl (fun Q hQ hN => ?_)
 have H0 := ((((Sep.beginW o nd).boxF h1 d1).boxF h2 d2).boxF h3 d3).boxF h4 d4
 try dsimp only [List.nil_append, List.cons_append, List.set_cons_zero, List.set_cons_succ] at H0
 refine W_seq ?_
 obtain ⟨wA1, wC1, wA2, wC2, wA3, wC3, wf1, wf2, wf3, wok1, H1⟩ := H0.openW 0 rfl
 try dsimp only [List.nil_append, List.cons_append, List.set_cons_zero, List.set_cons_succ] at H1
 have wok1U := wok1
 unfold Wld.Ok Shape.Ok I64ok at wok1U
 have wL1 := own_len_le (H1.mine 2 rfl)
 unfold maxLen at wL1
 have wL2 := own_len_le (H1.mine 3 rfl)
 unfold maxLen at wL2
 have wL3 := own_len_le (H1.mine 4 rfl)
 unfold maxLen at wL3
 obtain ⟨eb1, eo1, eT1, eF1, eG1, ea1, ek1, eg1, ee1, eK1, eH1⟩ := Tape.focus H1 4 rfl t (by omega)
 have eK1U := eK1
 unfold Tape.Ok at eK1U
 try unfold I64ok at eK1U
 try unfold maxLen at eK1U
 try dsimp only [List.nil_append, List.cons_append, List.set_cons_zero, List.set_cons_succ] at eH1
 refine W_drw (S := Ext No _) [(0, true), (1, true), (2, true), (3, true), (4, true), (5, true), (6, false)] (by kernel_rfl) (by kernel_rfl) (by kernel_rfl) rfl (fun _ => Ext.refl.drawn _) (fun q1 => ?_)
 have H2 := eH1.drawn q1
 refine dV rfl rfl (fun zw hx => py_load Tryz.underlying93 rfl rfl (cell_atL (hx.heap (H2.fbox 0 rfl)) rfl)) (dV rfl rfl (fun zw hx => py_nil rfl) (dV rfl rfl (fun zw hx => py_field Tryz.underlying37 rfl Tryz.sizeOf35 rfl rfl) (dV rfl rfl (fun zw hx => py_load Tryz.underlying35 rfl rfl (cell_atL (hx.heap (H2.box 0 rfl)) rfl)) (dV rfl rfl (fun zw hx => py_load Tryz.underlying2 rfl rfl (cell_atL (hx.heap (H2.fbox 1 rfl)) rfl)) (dV rfl rfl (fun zw hx => py_elz Tryz.underlying35 Tryz.sizeOf155 rfl rfl ee1 t (by omega) (by omega)) (d_end rfl (wn rfl) rfl rfl (py_assign rfl) (d_nil (W_reg (sV rfl (py_move rfl) (sV rfl (py_move rfl) (sV rfl (py_nil rfl) (sV rfl (py_field Tryz.underlying155 rfl Tryz.sizeOf82 rfl rfl) (sV rfl (py_load Tryz.underlying82 rfl rfl (at_cell (H2.holAt 4 rfl) 1 rfl)) (sV rfl (py_func rfl) (s_call (wn rfl) rfl rfl (pc_call Tryz.func234 rfl Tryz_nm234 rfl) (Tryz_slices_DeleteFunc_impl_Rec_impl_Rec (p := pKS kd sq) (H2.mine 6 rfl) (H2.nodup1 (i := 6) rfl) Tryz.func235 rfl Tryz_nm235 (fun w1 e1 y a6 c6 a7 c7 a8 c8 => Tryz_impl_World_strike_1_1 (e1.heapM (H2.foff 2 rfl 6 rfl rfl) (H2.fbox 2 rfl)) (e1.heapM (H2.foff 3 rfl 6 rfl rfl) (H2.fbox 3 rfl)))) (fun v1 w1 r1 => ?_))))))))))))))))
 obtain ⟨dm1, rfl, mm1⟩ := r1
 obtain ⟨fp1, H3⟩ := H2.mut 6 rfl mm1
 try dsimp only [List.nil_append, List.cons_append, List.set_cons_zero, List.set_cons_succ] at H3
 refine sV rfl (py_nil rfl) (sV rfl (py_field Tryz.underlying155 rfl Tryz.sizeOf82 rfl rfl) (s_hsto (wn rfl) Tryz.sizeOf82 H3 4 1 rfl rfl rfl rfl rfl (fun w2 H4 => ?_)))
 dsimp only [List.nil_append, List.cons_append, List.set_cons_zero, List.set_cons_succ, layL] at H4
 refine s_nil (hN _ _ (fin0 Tryz.results233 ?_))
 obtain ⟨fp2, H5⟩ := Tape.fill H4 4 6 rfl rfl rfl trivial
 try dsimp only [List.nil_append, List.cons_append, List.set_cons_zero, List.set_cons_succ] at H5
 obtain ⟨fp3, H6⟩ := H5.closeW 0 2 3 4 (stT t kd sq z) rfl rfl rfl rfl rfl rfl rfl rfl rfl rfl (stT_ok wok1)
 try dsimp only [List.nil_append, List.cons_append, List.set_cons_zero, List.set_cons_succ] at H6
 have hz := H6.doneW
 exact hz
theorem Tryz_impl_World_strike {w : World} {z : Wld} {zb : Nat} {fp : List Nat} {t : Nat} {kd : Int} {sq : Int} (o : OwnW w zb 37 z fp) (nd : fp.Nodup) (ht : t < z.Tapes.length) (hw : z.Writes ≤ 2000000000) : Ret Tryz.prog 172 #[.pointer (some ⟨zb, 0, none⟩), .int .i64 t, .int .i64 kd, .int .i64 sq] w fun v w' => (v = .bool (!noPower z) ∧ MutW w w' fp zb 37 (strW t kd sq z)) := by
 refine ret_Q (vs := [.pointer (some ⟨zb, 0, none⟩), .int .i64 t, .int .i64 kd, .int .i64 sq]) Tryz.func172 rfl Tryz.ntmps172 rfl (fun Q hQ hN => ?_)
 have H0 := Sep.beginW o nd
 refine W_sr (s_box (wn rfl) rfl rfl H0 (fun b1 w1 e1 g1 H1 => ?_))
 refine s_box (wn rfl) rfl rfl H1 (fun b2 w2 e2 g2 H2 => ?_)
 refine s_box (wn rfl) rfl rfl H2 (fun b3 w3 e3 g3 H3 => ?_)
 refine s_box (wn rfl) rfl rfl H3 (fun b4 w4 e4 g4 H4 => ?_)
 refine sV rfl (py_assign rfl) (s_nil (W_sr (sV rfl (py_load Tryz.underlying93 rfl rfl (cell_atL (H4.box 1 rfl) rfl)) (sV rfl (py_func rfl) (s_call (wn rfl) rfl rfl (pc_call Tryz.func232 rfl Tryz_nm232 rfl) (Tryz_impl_World_raw (H4.wldAt 0 rfl) (H4.nodup1 (i := 0) rfl) (y := stT t kd sq z) Tryz.func233 rfl Tryz_nm233 (fun w1 fp1 o1 n1 s1 e1 => Tryz_impl_World_strike_1 o1 n1 (H4.boxFar 0 1 rfl rfl rfl s1 e1).1 (H4.boxFar 0 1 rfl rfl rfl s1 e1).2 (H4.boxFar 0 2 rfl rfl rfl s1 e1).1 (H4.boxFar 0 2 rfl rfl rfl s1 e1).2 (H4.boxFar 0 3 rfl rfl rfl s1 e1).1 (H4.boxFar 0 3 rfl rfl rfl s1 e1).2 (H4.boxFar 0 4 rfl rfl rfl s1 e1).1 (H4.boxFar 0 4 rfl rfl rfl s1 e1).2 ht) (by first | assumption | omega)) (fun v1 w5 r1 => ?_))))))
 obtain ⟨rfl, mm1⟩ := r1
 obtain ⟨fp1, H5⟩ := H4.mutW 0 rfl mm1
 try dsimp only [List.nil_append, List.cons_append, List.set_cons_zero, List.set_cons_succ] at H5
 refine sV rfl (py_assign rfl) (s_nil (W_ret (hQ _ _ (fin1 Tryz.results172 rfl ?_))))
 exact ⟨rfl, H5.doneW⟩
theorem Tryz_impl_World_strikeBoth {w : World} {z : Wld} {zb : Nat} {fp : List Nat} {kd : Int} {sq : Int} (o : OwnW w zb 37 z fp) (nd : fp.Nodup) (hT : z.Tapes.length = 2) (hw : z.Writes ≤ 1000000000) : Ret Tryz.prog 104 #[.pointer (some ⟨zb, 0, none⟩), .int .i64 kd, .int .i64 sq] w fun v w' => (v = .int .i64 (if strOK z kd sq = true then 0 else 9) ∧ MutW w w' fp zb 37 (strBW z kd sq)) := by
 have aw := (strW_writes (t := 0) (kd := kd) (sq := sq) (z := z)).2
 have at_ := strW_tapes (t := 0) (kd := kd) (sq := sq) (z := z)
 refine ret_Q (vs := [.pointer (some ⟨zb, 0, none⟩), .int .i64 kd, .int .i64 sq]) Tryz.func104 rfl Tryz.ntmps104 rfl (fun Q hQ hN => ?_)
 have H0 := Sep.beginW o nd
 refine W_sr (sV rfl (py_assign rfl) (s_nil (W_sr (sV rfl (py_move rfl) (sV rfl (py_move rfl) (sV rfl (py_move rfl) (s_call (wn rfl) rfl rfl (pc_call Tryz.func172 rfl Tryz_nm172 rfl) (Tryz_impl_World_strike (H0.wldAt 0 rfl) (H0.nodup1 (i := 0) rfl) (by first | assumption | omega) (by first | assumption | omega) (t := 0)) (fun v1 w1 r1 => ?_))))))))
 obtain ⟨rfl, mm1⟩ := r1
 obtain ⟨fp1, H1⟩ := H0.mutW 0 rfl mm1
 try dsimp only [List.nil_append, List.cons_append, List.set_cons_zero, List.set_cons_succ] at H1
 refine sV rfl (py_move rfl) (s_case (t := 11) rfl (fun hg1 => ?_) (fun hg1 => ?_))
 ·try simp only [decide_eq_true_eq, decide_eq_false_iff_not] at hg1
  refine s_val (wg rfl rfl rfl) rfl rfl (py_move rfl) (s_val (wg rfl rfl rfl) rfl rfl (py_move rfl) (s_val (wg rfl rfl rfl) rfl rfl (py_move rfl) (s_call (wg rfl rfl rfl) rfl rfl (pc_call Tryz.func172 rfl Tryz_nm172 rfl) (Tryz_impl_World_strike (H1.wldAt 0 rfl) (H1.nodup1 (i := 0) rfl) (by first | assumption | omega) (by first | assumption | omega) (t := 1)) (fun v2 w2 r2 => ?_))))
  obtain ⟨rfl, mm2⟩ := r2
  obtain ⟨fp2, H2⟩ := H1.mutW 0 rfl mm2
  try dsimp only [List.nil_append, List.cons_append, List.set_cons_zero, List.set_cons_succ] at H2
  refine sV rfl (py_pickT rfl rfl) (s_call (wn rfl) rfl rfl (pc_call Tryz.func171 rfl Tryz_nm171 rfl) Tryz_impl_downIf (fun v3 w3 r3 => ?_))
  obtain ⟨e3, rfl⟩ := r3
  have H3 := H2.to e3
  refine sV rfl (py_assign rfl) (s_nil (W_ret (hQ _ _ (fin1 Tryz.results104 rfl ?_))))
  have hnp : noPower z = false := by simpa using hg1
  have hz := H3.doneW
  rw [← (strBW_yes (kd := kd) (sq := sq) hnp).1] at hz
  exact ⟨(by rw [(strBW_yes (kd := kd) (sq := sq) hnp).2]), hz⟩
 ·try simp only [decide_eq_true_eq, decide_eq_false_iff_not] at hg1
  refine s_skip (wog (b := false) rfl rfl rfl) rfl rfl (s_skip (wog (b := false) rfl rfl rfl) rfl rfl (s_skip (wog (b := false) rfl rfl rfl) rfl rfl (s_skip (wog (b := false) rfl rfl rfl) rfl rfl (sV rfl (py_pickF rfl rfl) (s_call (wn rfl) rfl rfl (pc_call Tryz.func171 rfl Tryz_nm171 rfl) Tryz_impl_downIf (fun v4 w4 r4 => ?_))))))
  obtain ⟨e4, rfl⟩ := r4
  have H4 := H1.to e4
  refine sV rfl (py_assign rfl) (s_nil (W_ret (hQ _ _ (fin1 Tryz.results104 rfl ?_))))
  have hnp : noPower z = true := by simpa using hg1
  have hz := H4.doneW
  rw [← (strBW_no (kd := kd) (sq := sq) hnp).1] at hz
  exact ⟨(by rw [(strBW_no (kd := kd) (sq := sq) hnp).2]), hz⟩
theorem Tryz_spec_l5Strike {w : World} {vs : List RecV} {A : Option Addr} {n C : Nat} {kd sq : Int} (vS : Sees w [.slice A n C] vs) (hl : vs.length ≤ 100000) : Ret Tryz.prog 167 #[.slice A n C, .int .i64 kd, .int .i64 sq] w fun v w' => Ext No w w' ∧ (Res w w' [v] (keepV (pKS kd sq) vs)) := by
 obtain ⟨f0, vO⟩ := vS
 obtain rfl := own_n vO
 have vL := own_len_le vO
 unfold maxLen at vL
 refine ret_Q (vs := [.slice A vs.length C, .int .i64 kd, .int .i64 sq]) Tryz.func167 rfl Tryz.ntmps167 rfl (fun Q hQ hN => ?_)
 have H0 := Sep.start (w := w) (F := [seen false [.slice A vs.length C] vs f0]) (all_cons vO (by simp))
 refine W_sr (sV rfl (py_assign rfl) (s_nil (W_sr (s_lit0 (α := RecV) (wn rfl) rfl Tryz.underlying82 Tryz_ty66 H0 (fun b1 w1 e1 g1 H1 => ?_)))))
 refine sV rfl (py_assign rfl) (s_nil (W_seq (W_sr (sV rfl (py_assign rfl) (s_nil (W_block (W_loopA (α := RecV) (γ := Nat) (fun k => (keepV (pKS kd sq) (vs.take k))) 0 H1 0 rfl 7 rfl [(0, _), (1, _), (2, _), (6, _)] ⟨rfl, rfl, rfl, rfl, trivial⟩ (fun k => [(8, .int .i64 k)]) (fun k => k ≤ vs.length ∧ True) (fun k => vs.length - k) ⟨rfl, trivial⟩ ⟨by omega, trivial⟩ (fun k vA1 fA1 w2 H2 ⟨hk, _⟩ => ?_))))))))
 dsimp only [List.cons_append, List.nil_append, List.set_cons_zero, List.set_cons_succ] at H2 ⊢
 refine W_seq (W_sr (sV rfl (py_move rfl) (sV rfl (py_move rfl) (sV rfl (py_len Tryz.underlying82 rfl) (sV rfl (py_lss rfl rfl) (s_nil (W_ifd rfl (fun c1 => ?_) (fun c1 => ?_))))))))
 ·refine W_skip (W_seq (W_block (W_seq ?_)))
  have kl := keepV_len (p := pKS kd sq) (vs := vs) (k := k)
  obtain ⟨eb1, eo1, ee1, ec1, eK1⟩ := H2.viewSeen 0 rfl k (by omega)
  refine W_reg (sV rfl (py_move rfl) (sV rfl (py_move rfl) (sV rfl (py_elz Tryz.underlying82 Tryz.sizeOf66 rfl rfl ee1 k (by omega) (by omega)) (sV rfl (py_field Tryz.underlying66 rfl Tryz.sizeOf2 rfl rfl) (sV rfl (py_load Tryz.underlying2 rfl rfl (at_cell ec1 0 rfl)) (sV rfl (py_move rfl) (sV rfl (py_neq rfl rfl) (sV rfl (py_move rfl) (s_case (t := 23) rfl (fun hg1 => ?_) (fun hg1 => ?_))))))))))
  ·try simp only [decide_eq_true_eq, decide_eq_false_iff_not] at hg1
   refine s_skip (wog (b := true) rfl rfl rfl) rfl rfl (s_skip (wog (b := true) rfl rfl rfl) rfl rfl (s_skip (wog (b := true) rfl rfl rfl) rfl rfl (s_skip (wog (b := true) rfl rfl rfl) rfl rfl (s_skip (wog (b := true) rfl rfl rfl) rfl rfl (s_skip (wog (b := true) rfl rfl rfl) rfl rfl (s_skip (wog (b := true) rfl rfl rfl) rfl rfl (sV rfl (py_pickT rfl rfl) (s_nil (W_ift rfl ?_)))))))))
   obtain ⟨eb2, eo2, ee2, ec2, eK2⟩ := H2.viewSeen 0 rfl k (by omega)
   refine W_reg (sV rfl (py_move rfl) (sV rfl (py_move rfl) (sV rfl (py_move rfl) (sV rfl (py_elz Tryz.underlying82 Tryz.sizeOf66 rfl rfl ee2 k (by omega) (by omega)) (sV rfl (py_loadS Tryz.underlying66 rfl Tryz.sizeOf66 rfl rfl ec2) (s_lit1 (wn rfl) rfl Tryz.underlying82 Tryz_ty66 rfl rfl rfl rfl H2 (fun b2 w3 e2 g2 H3 => ?_)))))))
   refine s_app1 (wn rfl) rfl Tryz.underlying82 Tryz_ty66 rfl rfl rfl H3 0 1 rfl rfl (recv_own (v := (vs.getD k default)) (by assumption)) (by unfold maxLen; omega) (by omega) (fun v1 w4 fp1 H4 => ?_)
   refine sV rfl (py_assign rfl) (s_nil (W_reg (sV rfl (py_move rfl) (sV rfl (py_add rfl rfl (in64 ⟨by omega, by omega⟩)) (sV rfl (py_assign rfl) (s_nil ?_))))))
   exact ⟨(k + 1, _, _), ⟨rfl, rfl, rfl, rfl, rfl, rfl, trivial⟩, ⟨by dsimp only; rw [keepV_yes (by omega) (pKS_kd (r := (vs.getD k default).r) hg1)]; exact (H4.dtake 1), by omega, trivial⟩, by dsimp only; omega⟩
  ·try simp only [decide_eq_true_eq, decide_eq_false_iff_not] at hg1
   refine s_val (wg rfl rfl rfl) rfl rfl (py_move rfl) (s_val (wg rfl rfl rfl) rfl rfl (py_move rfl) (s_val (wg rfl rfl rfl) rfl rfl (py_elz Tryz.underlying82 Tryz.sizeOf66 rfl rfl ee1 k (by omega) (by omega)) (s_val (wg rfl rfl rfl) rfl rfl (py_field Tryz.underlying66 rfl Tryz.sizeOf2 rfl rfl) (s_val (wg rfl rfl rfl) rfl rfl (py_load Tryz.underlying2 rfl rfl (at_cell ec1 1 rfl)) (s_val (wg rfl rfl rfl) rfl rfl (py_move rfl) (s_val (wg rfl rfl rfl) rfl rfl (py_neq rfl rfl) (sV rfl (py_pickF rfl rfl) (s_nil (W_ifd rfl (fun c2 => ?_) (fun c2 => ?_))))))))))
   ·obtain ⟨eb3, eo3, ee3, ec3, eK3⟩ := H2.viewSeen 0 rfl k (by omega)
    refine W_reg (sV rfl (py_move rfl) (sV rfl (py_move rfl) (sV rfl (py_move rfl) (sV rfl (py_elz Tryz.underlying82 Tryz.sizeOf66 rfl rfl ee3 k (by omega) (by omega)) (sV rfl (py_loadS Tryz.underlying66 rfl Tryz.sizeOf66 rfl rfl ec3) (s_lit1 (wn rfl) rfl Tryz.underlying82 Tryz_ty66 rfl rfl rfl rfl H2 (fun b3 w5 e3 g3 H5 => ?_)))))))
    refine s_app1 (wn rfl) rfl Tryz.underlying82 Tryz_ty66 rfl rfl rfl H5 0 1 rfl rfl (recv_own (v := (vs.getD k default)) (by assumption)) (by unfold maxLen; omega) (by omega) (fun v2 w6 fp2 H6 => ?_)
    refine sV rfl (py_assign rfl) (s_nil (W_reg (sV rfl (py_move rfl) (sV rfl (py_add rfl rfl (in64 ⟨by omega, by omega⟩)) (sV rfl (py_assign rfl) (s_nil ?_))))))
    exact ⟨(k + 1, _, _), ⟨rfl, rfl, rfl, rfl, rfl, rfl, trivial⟩, ⟨by dsimp only; rw [keepV_yes (by omega) (pKS_sq (r := (vs.getD k default).r) c2)]; exact (H6.dtake 1), by omega, trivial⟩, by dsimp only; omega⟩
   ·refine W_skip (W_reg (sV rfl (py_move rfl) (sV rfl (py_add rfl rfl (in64 ⟨by omega, by omega⟩)) (sV rfl (py_assign rfl) (s_nil ?_)))))
    exact ⟨(k + 1, _, _), ⟨rfl, rfl, rfl, rfl, rfl, rfl, trivial⟩, ⟨by dsimp only; rw [keepV_no (by omega) ((pKS_eq (r := (vs.getD k default).r) (by omega)).trans (decide_eq_true (by omega)))]; exact H2, by omega, trivial⟩, by dsimp only; omega⟩
 ·refine W_exit (W_sr (sV rfl (py_move rfl) (sV rfl (py_assign rfl) (s_nil (W_ret (hQ _ _ (fin1 Tryz.results167 rfl ?_)))))))
  obtain rfl : k = vs.length := by omega
  have hz := H2.out 0 rfl
  rw [List.take_length] at hz
  exact ⟨H2.ext, hz⟩
theorem Tryz_spec_l7Strike {w : World} {z : Wld} {zb : Nat} {fp : List Nat} {kd : Int} {sq : Int} (o : OwnW w zb 37 z fp) (nd : fp.Nodup) (hd : z.Down = false) (hT : z.Tapes.length = 2) (hw : z.Writes ≤ 1000000000) (hrl : ∀ k, (strN z kd sq k |>.Tapes.getD k default).Recs.length ≤ 100000 ∧ True) : Ret Tryz.prog 101 #[.pointer (some ⟨zb, 0, none⟩), .int .i64 kd, .int .i64 sq] w fun v w' => (v = .bool (strOK z kd sq) ∧ MutW w w' fp zb 37 (strBW z kd sq)) := by
 refine ret_Q (vs := [.pointer (some ⟨zb, 0, none⟩), .int .i64 kd, .int .i64 sq]) Tryz.func101 rfl Tryz.ntmps101 rfl (fun Q hQ hN => ?_)
 have H0 := Sep.beginW o nd
 refine W_sr (sV rfl (py_assign rfl) (s_nil (W_seq (W_sr (sV rfl (py_assign rfl) (s_nil (W_block (W_loop (γ := Nat × List Nat) (fun (k, f) => [(0, .pointer (some ⟨zb, 0, none⟩)), (1, .int .i64 kd), (2, .int .i64 sq), (7, .int .i64 k)]) (fun (k, f) w' => Sep (· ∈ fp) w [wldR zb 37 (strN z kd sq k) f] [] w' ∧ k ≤ 2 ∧ (∀ i, i < k → noPower (strN z kd sq i) = false)) (fun (k, f) => 2 - k) (0, _) ⟨rfl, rfl, rfl, rfl, trivial⟩ ⟨H0, by omega, fun i hi => by omega⟩ (fun (k, f) w1 H1 => ?_)))))))))
 obtain ⟨H1, hk, hnp⟩ := H1
 refine W_seq (W_sr (sV rfl (py_move rfl) (sV rfl (py_lss rfl rfl) (s_nil (W_ifd rfl (fun c1 => ?_) (fun c1 => ?_))))))
 ·refine W_skip (W_seq (W_block (W_seq (W_seq ?_))))
  obtain ⟨fd, fT, fw⟩ := strN_facts (kd := kd) (sq := sq) hd hT k hnp
  obtain ⟨fr, _⟩ := hrl k
  refine W_reg (sV rfl (py_move rfl) (s_call (wn rfl) rfl rfl (pc_call Tryz.func166 rfl Tryz_nm166 rfl) (Tryz_spec_l5Raw (H1.wldAt 0 rfl) (H1.nodup1 (i := 0) rfl) (by first | assumption | omega) (by first | assumption | omega)) (fun v1 w2 r1 => ?_)))
  obtain ⟨rfl, mm1⟩ := r1
  obtain ⟨fp1, H2⟩ := H1.mutW 0 rfl mm1
  try dsimp only [List.nil_append, List.cons_append, List.set_cons_zero, List.set_cons_succ] at H2
  refine sV rfl (py_not rfl) (s_nil (W_if rfl (fun c2 => ?_) (fun c2 => ?_)))
  ·refine W_sr (sV rfl (py_assign rfl) (s_nil (W_ret (hQ _ _ (fin1 Tryz.results101 rfl ?_)))))
   have hp1 : noPower (strN z kd sq k) = true := by simpa using c2
   have hz := H2.doneW
   rw [rawW_no hp1] at hz
   have hk : k = 0 ∨ k = 1 := by omega
   rcases hk with rfl | rfl
   ·have e2 := strBW_no (kd := kd) (sq := sq) (show noPower z = true from hp1)
    exact ⟨(by rw [e2.2]), (by rw [e2.1]; unfold strW; rw [rawW_no (show noPower z = true from hp1)]; exact hz)⟩
   ·have h0 : noPower z = false := hnp 0 (by omega)
    have e2 := strBW_yes (kd := kd) (sq := sq) h0
    have hp2 : noPower (strW 0 kd sq z) = true := hp1
    exact ⟨(by rw [e2.2, hp2]; rfl), (by rw [e2.1]; unfold strW; rw [rawW_no (show noPower (rawW z (stT 0 kd sq z)) = true from hp2)]; exact hz)⟩
  ·refine W_skip ?_
   have hp1 : noPower (strN z kd sq k) = false := by simpa using c2
   obtain ⟨z1, hz1⟩ : ∃ z1, z1 = tickW (strN z kd sq k) := ⟨_, rfl⟩
   have HZ := H2
   rw [rawW_yes hp1, ← hz1] at HZ
   have ht1 : k < z1.Tapes.length := by rw [hz1]; show k < (strN z kd sq k).Tapes.length; omega
   have hl1 : (z1.Tapes.getD k default).Recs.length ≤ 100000 := by rw [hz1]; exact fr
   obtain ⟨wA1, wC1, wA2, wC2, wA3, wC3, wf1, wf2, wf3, wok1, H3⟩ := HZ.openW 0 rfl
   try dsimp only [List.nil_append, List.cons_append, List.set_cons_zero, List.set_cons_succ] at H3
   have wok1U := wok1
   unfold Wld.Ok Shape.Ok I64ok at wok1U
   have wL1 := own_len_le (H3.mine 2 rfl)
   unfold maxLen at wL1
   have wL2 := own_len_le (H3.mine 3 rfl)
   unfold maxLen at wL2
   have wL3 := own_len_le (H3.mine 4 rfl)
   unfold maxLen at wL3
   obtain ⟨eb1, eo1, eT1, eF1, eG1, ea1, ek1, eg1, ee1, eK1, eH1⟩ := Tape.focus H3 4 rfl k (by omega)
   have eK1U := eK1
   unfold Tape.Ok at eK1U
   try unfold I64ok at eK1U
   try unfold maxLen at eK1U
   try dsimp only [List.nil_append, List.cons_append, List.set_cons_zero, List.set_cons_succ] at eH1
   refine W_drw (S := eH1.S2 4 6) [(0, true), (1, true), (2, true), (3, true), (4, true), (5, true), (6, true), (7, true), (8, true), (9, true), (10, true), (11, true), (13, true), (14, true), (12, false), (15, false), (16, true), (17, true), (18, false)] (by kernel_rfl) (by kernel_rfl) (by kernel_rfl) rfl (fun _ => show eH1.S2 4 6 _ from Ext.refl.drawn _) (fun q1 => ?_)
   have H4 := eH1.drawn q1
   refine dV rfl rfl (fun zw hx => py_move rfl) (dV rfl rfl (fun zw hx => py_nil rfl) (dV rfl rfl (fun zw hx => py_field Tryz.underlying37 rfl Tryz.sizeOf35 rfl rfl) (dV rfl rfl (fun zw hx => py_load Tryz.underlying35 rfl rfl (cell_atL (eH1.s2Box hx 0 rfl rfl rfl rfl rfl) rfl)) (dV rfl rfl (fun zw hx => py_move rfl) (dV rfl rfl (fun zw hx => py_move rfl) (dV rfl rfl (fun zw hx => py_nil rfl) (dV rfl rfl (fun zw hx => py_field Tryz.underlying37 rfl Tryz.sizeOf35 rfl rfl) (dV rfl rfl (fun zw hx => py_load Tryz.underlying35 rfl rfl (cell_atL (eH1.s2Box hx 0 rfl rfl rfl rfl rfl) rfl)) (dV rfl rfl (fun zw hx => py_move rfl) (dV rfl rfl (fun zw hx => py_elz Tryz.underlying35 Tryz.sizeOf155 rfl rfl ee1 k (by omega) (by omega)) (dV rfl rfl (fun zw hx => py_field Tryz.underlying155 rfl Tryz.sizeOf82 rfl rfl) (dV rfl rfl (fun zw hx => py_move rfl) (dV rfl rfl (fun zw hx => py_move rfl) (d_end rfl (wn rfl) rfl rfl (py_load Tryz.underlying82 rfl rfl (at_cell (H4.holAt 4 rfl) 1 rfl)) ?_))))))))))))))
   obtain ⟨vs, f0, f1, hvs, H5⟩ := H4.toViews 6 rfl
   try dsimp only [List.nil_append, List.cons_append, List.set_cons_zero, List.set_cons_succ] at H5
   have hvl : vs.length = (z1.Tapes.getD k default).Recs.length := by rw [← hvs, List.length_map]
   refine d_call rfl (wn rfl) rfl rfl (pc_call Tryz.func167 rfl Tryz_nm167 rfl) (Tryz_spec_l5Strike (kd := kd) (sq := sq) (vs := vs) (H5.msees 6 rfl) (by omega)) (fun hS _ _ r _ => eH1.s2Call hS r.1) (fun v2 w3 r2 => ?_)
   obtain ⟨e2, r2⟩ := r2
   obtain ⟨fp2, H6⟩ := H5.res e2 r2
   obtain ⟨a1, k1, q2⟩ := own_slice (H6.mine 9 rfl)
   cases q2
   refine dV rfl rfl (fun zw hx => py_elz Tryz.underlying35 Tryz.sizeOf155 rfl rfl ee1 k (by omega) (by omega)) (dV rfl rfl (fun zw hx => py_field Tryz.underlying155 rfl Tryz.sizeOf82 rfl rfl) (d_hsto rfl (wn rfl) Tryz.sizeOf82 H6 4 1 rfl rfl rfl rfl rfl (fun _ h e _ => eH1.s2In h 4 rfl (.inl rfl) e (fun _ hb => by rw [hb]; exact List.mem_cons_self)) (fun w4 H7 => ?_)))
   dsimp only [List.nil_append, List.cons_append, List.set_cons_zero, List.set_cons_succ, layL] at H7
   refine d_nil (W_reg (sV rfl (py_move rfl) (sV rfl (py_add rfl rfl (in64 ⟨by omega, by omega⟩)) (sV rfl (py_assign rfl) (s_nil ?_)))))
   obtain ⟨f9, H9⟩ := H7.poolSub 8 rfl (keepV_sub (p := pKS kd sq))
   try dsimp only [List.nil_append, List.cons_append, List.set_cons_zero, List.set_cons_succ] at H9
   obtain ⟨f8, H8⟩ := H9.ofViews 9 8 rfl rfl rfl
   try dsimp only [List.nil_append, List.cons_append, List.set_cons_zero, List.set_cons_succ] at H8
   rw [keepV_map, hvs] at H8
   obtain ⟨fp3, H8⟩ := Tape.fill H8 4 9 rfl rfl rfl trivial
   try dsimp only [List.nil_append, List.cons_append, List.set_cons_zero, List.set_cons_succ] at H8
   obtain ⟨fp4, H9⟩ := H8.closeW 0 2 3 4 (stT k kd sq z1) rfl rfl rfl rfl rfl rfl rfl rfl rfl rfl (stT_ok wok1)
   try dsimp only [List.nil_append, List.cons_append, List.set_cons_zero, List.set_cons_succ] at H9
   have hz := H9.dtake 1
   rw [strN_step hp1 hz1] at hz
   refine ⟨(k + 1, _), ⟨rfl, rfl, rfl, rfl, trivial⟩, ⟨hz, by omega, fun i hi => ?_⟩, by dsimp only; omega⟩
   by_cases e : i = k
   ·subst e; exact hp1
   ·exact hnp i (by omega)
 ·refine W_exit (W_sr (sV rfl (py_assign rfl) (s_nil (W_ret (hQ _ _ (fin1 Tryz.results101 rfl ?_))))))
  obtain rfl : k = 2 := by omega
  have h0 : noPower z = false := hnp 0 (by omega)
  have h1 : noPower (strW 0 kd sq z) = false := hnp 1 (by omega)
  have e2 := strBW_yes (kd := kd) (sq := sq) h0
  have hz := H1.doneW
  exact ⟨(by rw [e2.2, h1]; rfl), (by rw [e2.1]; exact hz)⟩
end Go.Wk
namespace Go.Wk
open Go.Proofs Rp
set_option maxRecDepth 10000
theorem Tryz_impl_StrikeBoth {w : World} {z : Wld} {zA9 : Option Addr} {zC9 : Nat} {zA10 : Option Addr} {zC10 : Nat} {zA11 : Option Addr} {zC11 : Nat} {kd : Int} {sq : Int} (zK : z.Ok) (zS9 : Sees w [.slice zA9 z.Groups.length zC9] z.Groups) (zS10 : Sees w [.slice zA10 z.On.length zC10] z.On) (zS11 : Sees w [.slice zA11 z.Tapes.length zC11] z.Tapes) (hb : szWld z ≤ 1048576) : Ret Tryz.prog 35 #[z.val zA9 zC9 zA10 zC10 zA11 zC11, .int .i64 kd, .int .i64 sq] w fun v w' => Ext No w w' ∧ (∃ A10 C10 A11 C11 A12 C12, v = (strikeF z kd sq).val A10 C10 A11 C11 A12 C12 ∧ Res w w' [.int .i64 (strikeF z kd sq).Code, .int .i64 (strikeF z kd sq).Wd.Shape.Groups, .int .i64 (strikeF z kd sq).Wd.Shape.Column, .int .i64 (strikeF z kd sq).Wd.Shape.Data, .int .i64 (strikeF z kd sq).Wd.Shape.Spare, .int .i64 (strikeF z kd sq).Wd.Shape.Rows, .int .i64 (strikeF z kd sq).Wd.Shape.Cap, .int .i64 (strikeF z kd sq).Wd.Shape.Batch, .int .i64 (strikeF z kd sq).Wd.Shape.Queue, .int .i64 (strikeF z kd sq).Wd.Shape.Stage, .slice A10 (strikeF z kd sq).Wd.Groups.length C10, .slice A11 (strikeF z kd sq).Wd.On.length C11, .slice A12 (strikeF z kd sq).Wd.Tapes.length C12, .int .i64 (strikeF z kd sq).Wd.Writes, .int .i64 (strikeF z kd sq).Wd.Stop, .bool (strikeF z kd sq).Wd.Down] (strikeF z kd sq)) := by
 have zK2 := zK
 unfold Wld.Ok Shape.Ok at zK2
 try unfold I64ok at zK2
 try unfold maxLen at zK2
 have zL9 := sees_len zS9
 unfold maxLen at zL9
 obtain ⟨zF9, zO9⟩ := zS9
 have zL10 := sees_len zS10
 unfold maxLen at zL10
 obtain ⟨zF10, zO10⟩ := zS10
 have zL11 := sees_len zS11
 unfold maxLen at zL11
 obtain ⟨zF11, zO11⟩ := zS11
 refine ret_Q (vs := [z.val zA9 zC9 zA10 zC10 zA11 zC11, .int .i64 kd, .int .i64 sq]) Tryz.func35 rfl Tryz.ntmps35 rfl (fun Q hQ hN => ?_)
 have H0 := Sep.start (w := w) (F := [seen false [.slice zA9 z.Groups.length zC9] z.Groups zF9, seen false [.slice zA10 z.On.length zC10] z.On zF10, seen false [.slice zA11 z.Tapes.length zC11] z.Tapes zF11]) (all_cons zO9 (all_cons zO10 (all_cons zO11 (by simp))))
 refine W_sr (s_box (wn rfl) rfl rfl H0 (fun b1 w1 e1 g1 H1 => ?_))
 refine s_var (wn rfl) rfl Tryz.zeroValue57 H1 (fun b2 w2 e2 g2 H2 => ?_)
 refine s_nil (W_seq (W_sr (sV rfl (py_loadS Tryz.underlying37 rfl Tryz.sizeOf37 rfl rfl (At.whole (H2.box 0 rfl))) (s_call (wn rfl) rfl rfl (pc_call Tryz.func75 rfl Tryz_nm75 rfl) (Tryz_impl_upFault (by assumption) (H2.sees 0 rfl) (H2.sees 1 rfl) (H2.sees 2 rfl)) (fun v1 w3 r1 => ?_)))))
 obtain ⟨e3, rfl⟩ := r1
 have H3 := H2.to e3
 refine sV rfl (py_assign rfl) (s_nil (W_sr (sV rfl (py_move rfl) (sV rfl (py_neq rfl rfl) (s_nil (W_ifd rfl (fun c1 => ?_) (fun c1 => ?_)))))))
 ·refine W_sr (sV rfl (py_move rfl) (sV rfl (py_buildS Tryz_pl57 rfl rfl) (s_stoS (wn rfl) Tryz.sizeOf57 rfl rfl rfl rfl H3 1 rfl rfl (fun w4 e4 H4 => ?_))))
  dsimp only [List.nil_append, List.cons_append, List.set_cons_zero, List.set_cons_succ, layL] at H4
  refine s_nil (W_ret (hQ _ _ (finC Tryz.results35 rfl (run_loadVarS Tryz.underlying57 rfl Tryz.sizeOf57 rfl (At.whole (H4.box 1 rfl))) ?_)))
  rw [strike_bad (by omega)]
  exact ⟨H4.ext, none, 0, none, 0, none, 0, rfl, wld_nil (by unfold I64ok; have := upF_cd (z := z); (try dsimp only); omega)⟩
 ·refine W_skip (W_seq ?_)
  have hu : upF z = 0 := by omega
  obtain ⟨hwf, hdn⟩ := upF_ok hu
  have hT := (worldF_ok hwf).2.2.2.1
  obtain ⟨hw0, hw1, _, _⟩ := worldF_rng hwf
  have hrl := strN_rl (kd := kd) (sq := sq) hwf
  refine W_reg (sV rfl (py_loadS Tryz.underlying37 rfl Tryz.sizeOf37 rfl rfl (At.whole (H3.box 0 rfl))) (s_call (wn rfl) rfl rfl (pc_call Tryz.func103 rfl Tryz_nm103 rfl) (Tryz_impl_cloneWorld (by assumption) (H3.sees 0 rfl) (H3.sees 1 rfl) (H3.sees 2 rfl) (by first | assumption | omega)) (fun v2 w5 r2 => ?_)))
  obtain ⟨e5, sa1, sk1, sa2, sk2, sa3, sk3, rfl, r2⟩ := r2
  obtain ⟨fp1, H5⟩ := H3.res e5 r2
  obtain ⟨sf1, sf2, sf3, sq1, sok1, so1, so2, so3⟩ := own_WldC (H5.mine 2 rfl)
  have H6 := H5.part 2 rfl [mine [.slice _ z.Groups.length _] z.Groups sf1, mine [.slice _ z.On.length _] z.On sf2, mine [.slice _ z.Tapes.length _] z.Tapes sf3] (all_cons so1 (all_cons so2 (all_cons so3 (by simp)))) (by simp [blocks, mine, sq1])
  try dsimp only [List.nil_append, List.cons_append, List.set_cons_zero, List.set_cons_succ] at H6
  refine s_var (wn rfl) rfl Tryz.zeroValue37 H6 (fun b3 w6 e6 g3 H7 => ?_)
  refine s_stoS (wn rfl) Tryz.sizeOf37 rfl rfl rfl rfl H7 6 rfl rfl (fun w7 e7 H8 => ?_)
  dsimp only [List.nil_append, List.cons_append, List.set_cons_zero, List.set_cons_succ, layL] at H8
  refine s_nil (W_sr (sV rfl (py_move rfl) (sV rfl (py_move rfl) ?_)))
  obtain ⟨fp2, H9⟩ := H8.closeW 6 3 4 5 z rfl rfl rfl rfl rfl rfl rfl rfl rfl rfl zK
  try dsimp only [List.nil_append, List.cons_append, List.set_cons_zero, List.set_cons_succ] at H9
  refine s_call (wn rfl) rfl rfl (pc_call Tryz.func104 rfl Tryz_nm104 rfl) (Tryz_impl_World_strikeBoth (H9.wldAt 6 rfl) (H9.nodup1 (i := 6) rfl) (by first | assumption | omega) (by first | assumption | omega)) (fun v3 w8 r3 => ?_)
  obtain ⟨rfl, mm1⟩ := r3
  obtain ⟨fp3, H10⟩ := H9.mutW 6 rfl mm1
  try dsimp only [List.nil_append, List.cons_append, List.set_cons_zero, List.set_cons_succ] at H10
  refine sV rfl (py_assign rfl) (s_nil (W_seq ?_))
  obtain ⟨wA1, wC1, wA2, wC2, wA3, wC3, wf1, wf2, wf3, wok1, H11⟩ := H10.openW 6 rfl
  try dsimp only [List.nil_append, List.cons_append, List.set_cons_zero, List.set_cons_succ] at H11
  have wok1U := wok1
  unfold Wld.Ok Shape.Ok I64ok at wok1U
  have wL1 := own_len_le (H11.mine 8 rfl)
  unfold maxLen at wL1
  have wL2 := own_len_le (H11.mine 9 rfl)
  unfold maxLen at wL2
  have wL3 := own_len_le (H11.mine 10 rfl)
  unfold maxLen at wL3
  refine W_reg (sV rfl (py_loadS Tryz.underlying37 rfl Tryz.sizeOf37 rfl rfl (At.whole (H11.box 6 rfl))) (sV rfl (py_move rfl) (s_call (wn rfl) rfl rfl (pc_call Tryz.func105 rfl Tryz_nm105 rfl) (Tryz_impl_changed_yes (by assumption) (H11.msees 8 rfl) (H11.msees 9 rfl) (H11.msees 10 rfl) (by first | assumption | (split <;> simp))) (fun v4 w9 r4 => ?_))))
  obtain ⟨e9, rfl⟩ := r4
  have H12 := H11.to e9
  refine s_stoS (wn rfl) Tryz.sizeOf57 rfl rfl rfl rfl H12 1 rfl rfl (fun w10 e10 H13 => ?_)
  dsimp only [List.nil_append, List.cons_append, List.set_cons_zero, List.set_cons_succ, layL] at H13
  refine s_nil (W_ret (hQ _ _ (finC Tryz.results35 rfl (run_loadVarS Tryz.underlying57 rfl Tryz.sizeOf57 rfl (At.whole (H13.box 1 rfl))) ?_)))
  rw [strike_ok hu]
  exact ⟨H13.ext, _, _, _, _, _, _, rfl, WldResult.out (x := ⟨if strOK z kd sq = true then 0 else 9, strBW z kd sq⟩) (H13.sub (.cons _ (.cons _ (.cons _ (.cons _ (.cons _ (.cons _ (.cons _ (.cons _ (.cons_cons _ (.cons_cons _ (.cons_cons _ List.Sublist.slnil)))))))))))) ⟨(by show I64ok (if strOK z kd sq = true then 0 else 9); unfold I64ok; split <;> omega), (by assumption)⟩⟩
theorem Tryz_spec_StrikeBoth {w : World} {z : Wld} {zA9 : Option Addr} {zC9 : Nat} {zA10 : Option Addr} {zC10 : Nat} {zA11 : Option Addr} {zC11 : Nat} {kd : Int} {sq : Int} (zK : z.Ok) (zS9 : Sees w [.slice zA9 z.Groups.length zC9] z.Groups) (zS10 : Sees w [.slice zA10 z.On.length zC10] z.On) (zS11 : Sees w [.slice zA11 z.Tapes.length zC11] z.Tapes) (hb : szWld z ≤ 1048576) : Ret Tryz.prog 34 #[z.val zA9 zC9 zA10 zC10 zA11 zC11, .int .i64 kd, .int .i64 sq] w fun v w' => Ext No w w' ∧ (∃ A10 C10 A11 C11 A12 C12, v = (strikeF z kd sq).val A10 C10 A11 C11 A12 C12 ∧ Res w w' [.int .i64 (strikeF z kd sq).Code, .int .i64 (strikeF z kd sq).Wd.Shape.Groups, .int .i64 (strikeF z kd sq).Wd.Shape.Column, .int .i64 (strikeF z kd sq).Wd.Shape.Data, .int .i64 (strikeF z kd sq).Wd.Shape.Spare, .int .i64 (strikeF z kd sq).Wd.Shape.Rows, .int .i64 (strikeF z kd sq).Wd.Shape.Cap, .int .i64 (strikeF z kd sq).Wd.Shape.Batch, .int .i64 (strikeF z kd sq).Wd.Shape.Queue, .int .i64 (strikeF z kd sq).Wd.Shape.Stage, .slice A10 (strikeF z kd sq).Wd.Groups.length C10, .slice A11 (strikeF z kd sq).Wd.On.length C11, .slice A12 (strikeF z kd sq).Wd.Tapes.length C12, .int .i64 (strikeF z kd sq).Wd.Writes, .int .i64 (strikeF z kd sq).Wd.Stop, .bool (strikeF z kd sq).Wd.Down] (strikeF z kd sq)) := by
 have zK2 := zK
 unfold Wld.Ok Shape.Ok at zK2
 try unfold I64ok at zK2
 try unfold maxLen at zK2
 have zL9 := sees_len zS9
 unfold maxLen at zL9
 obtain ⟨zF9, zO9⟩ := zS9
 have zL10 := sees_len zS10
 unfold maxLen at zL10
 obtain ⟨zF10, zO10⟩ := zS10
 have zL11 := sees_len zS11
 unfold maxLen at zL11
 obtain ⟨zF11, zO11⟩ := zS11
 refine ret_Q (vs := [z.val zA9 zC9 zA10 zC10 zA11 zC11, .int .i64 kd, .int .i64 sq]) Tryz.func34 rfl Tryz.ntmps34 rfl (fun Q hQ hN => ?_)
 have H0 := Sep.start (w := w) (F := [seen false [.slice zA9 z.Groups.length zC9] z.Groups zF9, seen false [.slice zA10 z.On.length zC10] z.On zF10, seen false [.slice zA11 z.Tapes.length zC11] z.Tapes zF11]) (all_cons zO9 (all_cons zO10 (all_cons zO11 (by simp))))
 refine W_sr (s_box (wn rfl) rfl rfl H0 (fun b1 w1 e1 g1 H1 => ?_))
 refine s_var (wn rfl) rfl Tryz.zeroValue57 H1 (fun b2 w2 e2 g2 H2 => ?_)
 refine s_nil (W_seq (W_sr (sV rfl (py_loadS Tryz.underlying37 rfl Tryz.sizeOf37 rfl rfl (At.whole (H2.box 0 rfl))) (s_call (wn rfl) rfl rfl (pc_call Tryz.func99 rfl Tryz_nm99 rfl) (Tryz_spec_l5Asked (by assumption) (H2.sees 0 rfl) (H2.sees 1 rfl) (H2.sees 2 rfl)) (fun v1 w3 r1 => ?_)))))
 obtain ⟨e3, rfl⟩ := r1
 have H3 := H2.to e3
 refine sV rfl (py_assign rfl) (s_nil (W_sr (sV rfl (py_move rfl) (sV rfl (py_neq rfl rfl) (s_nil (W_ifd rfl (fun c1 => ?_) (fun c1 => ?_)))))))
 ·refine W_sr (sV rfl (py_move rfl) (sV rfl (py_buildS Tryz_pl57 rfl rfl) (s_stoS (wn rfl) Tryz.sizeOf57 rfl rfl rfl rfl H3 1 rfl rfl (fun w4 e4 H4 => ?_))))
  dsimp only [List.nil_append, List.cons_append, List.set_cons_zero, List.set_cons_succ, layL] at H4
  refine s_nil (W_ret (hQ _ _ (finC Tryz.results34 rfl (run_loadVarS Tryz.underlying57 rfl Tryz.sizeOf57 rfl (At.whole (H4.box 1 rfl))) ?_)))
  rw [strike_bad (by omega)]
  exact ⟨H4.ext, none, 0, none, 0, none, 0, rfl, wld_nil (by unfold I64ok; have := upF_cd (z := z); (try dsimp only); omega)⟩
 ·refine W_skip (W_seq ?_)
  have hu : upF z = 0 := by omega
  obtain ⟨hwf, hdn⟩ := upF_ok hu
  have hT := (worldF_ok hwf).2.2.2.1
  obtain ⟨hw0, hw1, _, _⟩ := worldF_rng hwf
  have hrl := strN_rl (kd := kd) (sq := sq) hwf
  refine W_reg (sV rfl (py_loadS Tryz.underlying37 rfl Tryz.sizeOf37 rfl rfl (At.whole (H3.box 0 rfl))) (s_call (wn rfl) rfl rfl (pc_call Tryz.func100 rfl Tryz_nm100 rfl) (Tryz_spec_l5Copy (by assumption) (H3.sees 0 rfl) (H3.sees 1 rfl) (H3.sees 2 rfl) (by first | assumption | omega)) (fun v2 w5 r2 => ?_)))
  obtain ⟨e5, sa1, sk1, sa2, sk2, sa3, sk3, rfl, r2⟩ := r2
  obtain ⟨fp1, H5⟩ := H3.res e5 r2
  obtain ⟨sf1, sf2, sf3, sq1, sok1, so1, so2, so3⟩ := own_WldC (H5.mine 2 rfl)
  have H6 := H5.part 2 rfl [mine [.slice _ z.Groups.length _] z.Groups sf1, mine [.slice _ z.On.length _] z.On sf2, mine [.slice _ z.Tapes.length _] z.Tapes sf3] (all_cons so1 (all_cons so2 (all_cons so3 (by simp)))) (by simp [blocks, mine, sq1])
  try dsimp only [List.nil_append, List.cons_append, List.set_cons_zero, List.set_cons_succ] at H6
  refine s_var (wn rfl) rfl Tryz.zeroValue37 H6 (fun b3 w6 e6 g3 H7 => ?_)
  refine s_stoS (wn rfl) Tryz.sizeOf37 rfl rfl rfl rfl H7 6 rfl rfl (fun w7 e7 H8 => ?_)
  dsimp only [List.nil_append, List.cons_append, List.set_cons_zero, List.set_cons_succ, layL] at H8
  refine s_nil (W_sr (sV rfl (py_move rfl) (sV rfl (py_move rfl) ?_)))
  obtain ⟨fp2, H9⟩ := H8.closeW 6 3 4 5 z rfl rfl rfl rfl rfl rfl rfl rfl rfl rfl zK
  try dsimp only [List.nil_append, List.cons_append, List.set_cons_zero, List.set_cons_succ] at H9
  refine s_call (wn rfl) rfl rfl (pc_call Tryz.func101 rfl Tryz_nm101 rfl) (Tryz_spec_l7Strike (H9.wldAt 6 rfl) (H9.nodup1 (i := 6) rfl) (by first | assumption | omega) (by first | assumption | omega) (by first | assumption | omega) (by assumption)) (fun v3 w8 r3 => ?_)
  obtain ⟨rfl, mm1⟩ := r3
  obtain ⟨fp3, H10⟩ := H9.mutW 6 rfl mm1
  try dsimp only [List.nil_append, List.cons_append, List.set_cons_zero, List.set_cons_succ] at H10
  refine sV rfl (py_assign rfl) (s_nil (W_seq ?_))
  obtain ⟨wA1, wC1, wA2, wC2, wA3, wC3, wf1, wf2, wf3, wok1, H11⟩ := H10.openW 6 rfl
  try dsimp only [List.nil_append, List.cons_append, List.set_cons_zero, List.set_cons_succ] at H11
  have wok1U := wok1
  unfold Wld.Ok Shape.Ok I64ok at wok1U
  have wL1 := own_len_le (H11.mine 8 rfl)
  unfold maxLen at wL1
  have wL2 := own_len_le (H11.mine 9 rfl)
  unfold maxLen at wL2
  have wL3 := own_len_le (H11.mine 10 rfl)
  unfold maxLen at wL3
  refine W_reg (sV rfl (py_loadS Tryz.underlying37 rfl Tryz.sizeOf37 rfl rfl (At.whole (H11.box 6 rfl))) (sV rfl (py_move rfl) (s_call (wn rfl) rfl rfl (pc_call Tryz.func102 rfl Tryz_nm102 rfl) (Tryz_spec_l7Told (by assumption) (H11.msees 8 rfl) (H11.msees 9 rfl) (H11.msees 10 rfl)) (fun v4 w9 r4 => ?_))))
  obtain ⟨e9, rfl⟩ := r4
  have H12 := H11.to e9
  refine s_stoS (wn rfl) Tryz.sizeOf57 rfl rfl rfl rfl H12 1 rfl rfl (fun w10 e10 H13 => ?_)
  dsimp only [List.nil_append, List.cons_append, List.set_cons_zero, List.set_cons_succ, layL] at H13
  refine s_nil (W_ret (hQ _ _ (finC Tryz.results34 rfl (run_loadVarS Tryz.underlying57 rfl Tryz.sizeOf57 rfl (At.whole (H13.box 1 rfl))) ?_)))
  rw [strike_ok hu]
  exact ⟨H13.ext, _, _, _, _, _, _, rfl, WldResult.out (x := ⟨if strOK z kd sq = true then 0 else 9, strBW z kd sq⟩) (H13.sub (.cons _ (.cons _ (.cons _ (.cons _ (.cons _ (.cons _ (.cons _ (.cons _ (.cons_cons _ (.cons_cons _ (.cons_cons _ List.Sublist.slnil)))))))))))) ⟨(by show I64ok (if strOK z kd sq = true then 0 else 9); unfold I64ok; split <;> omega), (by assumption)⟩⟩
end Go.Wk
namespace Go.Wk
open Go.Proofs Rp
set_option maxRecDepth 10000
set_option maxHeartbeats 2000000 in
theorem Tryz_laws_FnExactStrikeBoth {w : World} {z : Wld} {zA9 : Option Addr} {zC9 : Nat} {zA10 : Option Addr} {zC10 : Nat} {zA11 : Option Addr} {zC11 : Nat} {kd : Int} {sq : Int} (zK : z.Ok) (zS9 : Sees w [.slice zA9 z.Groups.length zC9] z.Groups) (zS10 : Sees w [.slice zA10 z.On.length zC10] z.On) (zS11 : Sees w [.slice zA11 z.Tapes.length zC11] z.Tapes) : Ret Tryz.prog 7 #[z.val zA9 zC9 zA10 zC10 zA11 zC11, .int .i64 kd, .int .i64 sq] w fun v w' => Ext No w w' ∧ (v = .bool true) := by
 have zK2 := zK
 unfold Wld.Ok Shape.Ok at zK2
 try unfold I64ok at zK2
 try unfold maxLen at zK2
 have zL9 := sees_len zS9
 unfold maxLen at zL9
 obtain ⟨zF9, zO9⟩ := zS9
 have zL10 := sees_len zS10
 unfold maxLen at zL10
 obtain ⟨zF10, zO10⟩ := zS10
 have zL11 := sees_len zS11
 unfold maxLen at zL11
 obtain ⟨zF11, zO11⟩ := zS11
 refine ret_Q (vs := [z.val zA9 zC9 zA10 zC10 zA11 zC11, .int .i64 kd, .int .i64 sq]) Tryz.func7 rfl Tryz.ntmps7 rfl (fun Q hQ hN => ?_)
 have H0 := Sep.start (w := w) (F := [seen false [.slice zA9 z.Groups.length zC9] z.Groups zF9, seen false [.slice zA10 z.On.length zC10] z.On zF10, seen false [.slice zA11 z.Tapes.length zC11] z.Tapes zF11]) (all_cons zO9 (all_cons zO10 (all_cons zO11 (by simp))))
 refine W_sr (s_box (wn rfl) rfl rfl H0 (fun b1 w1 e1 g1 H1 => ?_))
 refine sV rfl (py_assign rfl) (s_nil (W_sr (sV rfl (py_assign rfl) (s_nil (W_sr (sV rfl (py_loadS Tryz.underlying28 rfl Tryz.sizeOf28 rfl rfl (At.whole (H1.box 0 rfl))) (sV rfl (py_move rfl) (s_call (wn rfl) rfl rfl (pc_call Tryz.func15 rfl Tryz_nm15 rfl) (Tryz_laws_szWorld (by assumption) (H1.sees 0 rfl) (H1.sees 1 rfl) (H1.sees 2 rfl) (by omega)) (fun v1 w2 r1 => ?_)))))))))
 obtain ⟨e2, rfl⟩ := r1
 have H2 := H1.to e2
 refine sV rfl (py_assign rfl) (s_nil (W_seq (W_sr (sV rfl (py_move rfl) (sV rfl (py_lss rfl rfl) (s_nil (W_ifd rfl (fun c1 => ?_) (fun c1 => ?_))))))))
 ·refine W_sr (sV rfl (py_assign rfl) (s_nil (W_ret (hQ _ _ (fin1 Tryz.results7 rfl ?_)))))
  exact ⟨H2.ext, rfl⟩
 ·refine W_skip (W_seq ?_)
  have hsz : szWld z ≤ 1048576 := by omega
  have hmk := mkWld_le z
  have hml := mk_strike (z := z) (kd := kd) (sq := sq)
  have hOk := strike_Ok (z := z) (kd := kd) (sq := sq) zK
  refine W_reg (sV rfl (py_loadS Tryz.underlying28 rfl Tryz.sizeOf28 rfl rfl (At.whole (H2.box 0 rfl))) (s_call (wn rfl) rfl rfl (pc_call Tryz.func17 rfl Tryz_nm17 rfl) (Tryz_laws_toWorld (by assumption) (H2.sees 0 rfl) (H2.sees 1 rfl) (H2.sees 2 rfl) (by assumption)) (fun v2 w3 r2 => ?_)))
  obtain ⟨e3, sa1, sk1, sa2, sk2, sa3, sk3, rfl, r2⟩ := r2
  obtain ⟨fp1, H3⟩ := H2.res e3 r2
  have H4 := H3.share 1 rfl
  obtain ⟨sf1, sf2, sf3, sq1, sok1, so1, so2, so3⟩ := own_WldC (H4.seen 3 rfl)
  have H6 := H4.look1 3 rfl so1 (fun b hb => by rw [sq1]; simp [hb])
  have H7 := H6.look1 3 rfl so2 (fun b hb => by rw [sq1]; simp [hb])
  have H8 := H7.look1 3 rfl so3 (fun b hb => by rw [sq1]; simp [hb])
  refine sV rfl (py_move rfl) (sV rfl (py_move rfl) (s_call (wn rfl) rfl rfl (pc_call Tryz.func34 rfl Tryz_nm34 rfl) (Tryz_spec_StrikeBoth (by assumption) (H8.sees 4 rfl) (H8.sees 5 rfl) (H8.sees 6 rfl) (by first | assumption | omega)) (fun v3 w4 r3 => ?_)))
  obtain ⟨e4, sa4, sk4, sa5, sk5, sa6, sk6, rfl, r3⟩ := r3
  obtain ⟨fp2, H9⟩ := H8.res e4 r3
  have H10 := H9.share 2 rfl
  obtain ⟨sf4, sf5, sf6, sq2, sok2, so4, so5, so6⟩ := own_WldResultC (H10.seen 7 rfl)
  have H12 := H10.look1 7 rfl so4 (fun b hb => by rw [sq2]; simp [hb])
  have H13 := H12.look1 7 rfl so5 (fun b hb => by rw [sq2]; simp [hb])
  have H14 := H13.look1 7 rfl so6 (fun b hb => by rw [sq2]; simp [hb])
  refine s_var (wn rfl) rfl Tryz.zeroValue57 H14 (fun b2 w5 e5 g2 H15 => ?_)
  refine s_stoS (wn rfl) Tryz.sizeOf57 rfl rfl rfl rfl H15 3 rfl rfl (fun w6 e6 H16 => ?_)
  dsimp only [List.nil_append, List.cons_append, List.set_cons_zero, List.set_cons_succ, layL] at H16
  refine s_nil (W_sr (sV rfl (py_loadS Tryz.underlying28 rfl Tryz.sizeOf28 rfl rfl (At.whole (H16.box 0 rfl))) (s_call (wn rfl) rfl rfl (pc_call Tryz.func17 rfl Tryz_nm17 rfl) (Tryz_laws_toWorld (by assumption) (H16.sees 0 rfl) (H16.sees 1 rfl) (H16.sees 2 rfl) (by assumption)) (fun v4 w7 r4 => ?_))))
  obtain ⟨e7, sa7, sk7, sa8, sk8, sa9, sk9, rfl, r4⟩ := r4
  obtain ⟨fp3, H17⟩ := H16.res e7 r4
  refine s_var (wn rfl) rfl Tryz.zeroValue37 H17 (fun b3 w8 e8 g3 H18 => ?_)
  refine s_stoS (wn rfl) Tryz.sizeOf37 rfl rfl rfl rfl H18 5 rfl rfl (fun w9 e9 H19 => ?_)
  dsimp only [List.nil_append, List.cons_append, List.set_cons_zero, List.set_cons_succ, layL] at H19
  refine s_nil (W_sr (sV rfl (py_loadS Tryz.underlying37 rfl Tryz.sizeOf37 rfl rfl (At.whole (H19.box 5 rfl))) (sV rfl (py_move rfl) (sV rfl (py_move rfl) (s_call (wn rfl) rfl rfl (pc_call Tryz.func35 rfl Tryz_nm35 rfl) (Tryz_impl_StrikeBoth (by assumption) (Wld.see9 (H19.mine 4 rfl)) (Wld.see10 (H19.mine 4 rfl)) (Wld.see11 (H19.mine 4 rfl)) (by first | assumption | omega)) (fun v5 w10 r5 => ?_))))))
  obtain ⟨e10, sa10, sk10, sa11, sk11, sa12, sk12, rfl, r5⟩ := r5
  obtain ⟨fp4, H20⟩ := H19.res e10 r5
  refine s_var (wn rfl) rfl Tryz.zeroValue57 H20 (fun b4 w11 e11 g4 H21 => ?_)
  refine s_stoS (wn rfl) Tryz.sizeOf57 rfl rfl rfl rfl H21 7 rfl rfl (fun w12 e12 H22 => ?_)
  dsimp only [List.nil_append, List.cons_append, List.set_cons_zero, List.set_cons_succ, layL] at H22
  refine s_nil (W_seq (W_sr (sV rfl (py_loadS Tryz.underlying57 rfl Tryz.sizeOf57 rfl rfl (At.whole (H22.box 7 rfl))) (sV rfl (py_loadS Tryz.underlying57 rfl Tryz.sizeOf57 rfl rfl (At.whole (H22.box 3 rfl))) (s_call (wn rfl) rfl rfl (pc_call Tryz.func36 rfl Tryz_nm36 rfl) (Tryz_laws_eqWorldResult (by assumption) (WldResult.see10 (H22.mine 6 rfl)) (WldResult.see11 (H22.mine 6 rfl)) (WldResult.see12 (H22.mine 6 rfl)) (by assumption) (H22.sees 8 rfl) (H22.sees 9 rfl) (H22.sees 10 rfl)) (fun v6 w13 r6 => ?_))))))
  obtain ⟨e13, rfl⟩ := r6
  have H23 := H22.to e13
  refine sV rfl (py_not rfl) (s_nil (W_if rfl (fun c2 => ?_) (fun c2 => ?_)))
  ·exfalso; simp_all
  ·refine W_skip (W_seq (W_seq (W_drw (S := Ext No _) [(0, true), (1, true), (2, false), (3, false), (4, false)] (by kernel_rfl) (by kernel_rfl) (by kernel_rfl) rfl (fun _ => Ext.refl.drawn _) (fun q1 => ?_))))
   have H24 := H23.drawn q1
   refine dV rfl rfl (fun zw hx => py_loadS Tryz.underlying37 rfl Tryz.sizeOf37 rfl rfl (At.whole (hx.heap (H24.box 5 rfl)))) (dV rfl rfl (fun zw hx => py_loadS Tryz.underlying28 rfl Tryz.sizeOf28 rfl rfl (At.whole (hx.heap (H24.box 0 rfl)))) (d_call rfl (wn rfl) rfl rfl (pc_call Tryz.func17 rfl Tryz_nm17 rfl) (Tryz_laws_toWorld (by assumption) (H24.sees 0 rfl) (H24.sees 1 rfl) (H24.sees 2 rfl) (by assumption)) (fun hS _ _ r _ => hS.trans r.1.no) (fun v7 w14 r7 => ?_)))
   obtain ⟨e14, sa13, sk13, sa14, sk14, sa15, sk15, rfl, r7⟩ := r7
   obtain ⟨fp5, H25⟩ := H24.res e14 r7
   have H26 := H25.share 8 rfl
   obtain ⟨sf7, sf8, sf9, sq3, sok3, so7, so8, so9⟩ := own_WldC (H26.seen 11 rfl)
   have H28 := H26.look1 11 rfl so7 (fun b hb => by rw [sq3]; simp [hb])
   have H29 := H28.look1 11 rfl so8 (fun b hb => by rw [sq3]; simp [hb])
   have H30 := H29.look1 11 rfl so9 (fun b hb => by rw [sq3]; simp [hb])
   refine d_call rfl (wn rfl) rfl rfl (pc_call Tryz.func20 rfl Tryz_nm20 rfl) (Tryz_laws_eqWorld (by assumption) (Wld.see9 (H30.mine 4 rfl)) (Wld.see10 (H30.mine 4 rfl)) (Wld.see11 (H30.mine 4 rfl)) (by assumption) (H30.sees 12 rfl) (H30.sees 13 rfl) (H30.sees 14 rfl)) (fun hS _ _ r _ => hS.trans r.1.no) (fun v8 w15 r8 => ?_)
   obtain ⟨e15, rfl⟩ := r8
   have H31 := H30.to e15
   refine d_end rfl (wn rfl) rfl rfl (py_not rfl) (d_nil (W_if rfl (fun c3 => ?_) (fun c3 => ?_)))
   ·exfalso; simp_all
   ·refine W_skip (W_sr (sV rfl (py_assign rfl) (s_nil (W_sr (sV rfl (py_loadS Tryz.underlying37 rfl Tryz.sizeOf37 rfl rfl (At.whole (H31.box 5 rfl))) (sV rfl (py_move rfl) (s_call (wn rfl) rfl rfl (pc_call Tryz.func24 rfl Tryz_nm24 rfl) (Tryz_laws_markWorld (by assumption) (H31.mine 4 rfl) (H31.nodup1 (i := 4) rfl) (by constructor <;> omega)) (fun v9 w16 r9 => ?_))))))))
    obtain ⟨rfl, mx1, mm1, ml1⟩ := r9
    obtain ⟨fp6, H32⟩ := H31.mut 4 rfl mm1
    try dsimp only [List.nil_append, List.cons_append, List.set_cons_zero, List.set_cons_succ] at H32
    refine sV rfl (py_assign rfl) (s_nil (W_seq (W_sr (sV rfl (py_move rfl) (sV rfl (py_lss rfl rfl) (sV rfl (py_move rfl) (s_grp 4 (j := 2) (want := false) (t := 49) rfl rfl rfl rfl (fun hg1 kk1 => s_val (wgE rfl rfl rfl hg1) rfl rfl (py_loadS Tryz.underlying57 rfl Tryz.sizeOf57 rfl rfl (At.whole (H32.box 7 rfl))) (s_val (wgE rfl rfl rfl hg1) rfl rfl (py_loadS Tryz.underlying57 rfl Tryz.sizeOf57 rfl rfl (At.whole (H32.box 3 rfl))) (s_callv (wgE rfl rfl rfl hg1) rfl rfl (pc_call Tryz.func36 rfl Tryz_nm36 rfl) (Tryz_laws_eqWorldResult (by assumption) (WldResult.see10 (H32.mine 6 rfl)) (WldResult.see11 (H32.mine 6 rfl)) (WldResult.see12 (H32.mine 6 rfl)) (by assumption) (H32.sees 8 rfl) (H32.sees 9 rfl) (H32.sees 10 rfl)) (fun w18 e18 => s_val (wgE rfl rfl rfl hg1) rfl rfl (py_not rfl) (kk1 _ _ (kx rfl (kx rfl (kx rfl (kx rfl k0)))) rfl (Ext.refl.trans e18)))))) (fun w17 e17 => ?_))))))))
    have H33 := H32.to e17
    refine sV rfl (py_bor rfl rfl) (s_nil (W_if rfl (fun c4 => ?_) (fun c4 => ?_)))
    ·exact absurd c4 (by simp; omega)
    ·refine W_skip (W_sr (sV rfl (py_assign rfl) (s_nil (W_sr (sV rfl (py_loadS Tryz.underlying57 rfl Tryz.sizeOf57 rfl rfl (At.whole (H33.box 7 rfl))) (sV rfl (py_move rfl) (s_call (wn rfl) rfl rfl (pc_call Tryz.func37 rfl Tryz_nm37 rfl) (Tryz_laws_markWorldResult (H33.mine 6 rfl) (H33.nodup1 (i := 6) rfl) (by constructor <;> omega)) (fun v10 w19 r10 => ?_))))))))
     obtain ⟨rfl, mx2, mm2, ml2⟩ := r10
     obtain ⟨fp7, H34⟩ := H33.mut 6 rfl mm2
     try dsimp only [List.nil_append, List.cons_append, List.set_cons_zero, List.set_cons_succ] at H34
     refine sV rfl (py_assign rfl) (s_nil (W_sr (sV rfl (py_assign rfl) (s_nil (W_sr (sV rfl (py_loadS Tryz.underlying57 rfl Tryz.sizeOf57 rfl rfl (At.whole (H34.box 7 rfl))) (sV rfl (py_move rfl) (s_call (wn rfl) rfl rfl (pc_call Tryz.func38 rfl Tryz_nm38 rfl) (Tryz_laws_heldWorldResult (x := mx2) (wr_see (H34.mine 6 rfl)).1 (wr_see (H34.mine 6 rfl)).2.1 (wr_see (H34.mine 6 rfl)).2.2 (by have := ml2.2.2.2.1; constructor <;> omega) ml2.2.2.2.2.1) (fun v11 w20 r11 => ?_)))))))))
     obtain ⟨e20, rfl⟩ := r11
     have H35 := H34.to e20
     refine sV rfl (py_assign rfl) (s_nil (W_seq (W_seq ?_)))
     have hq := ml2.2.2.2.1
     refine W_reg (sV rfl (py_move rfl) (sV rfl (py_lss rfl rfl) (s_nil (W_ifd rfl (fun c5 => ?_) (fun c5 => ?_)))))
     ·exact absurd c5 (by omega)
     ·refine W_skip (W_seq (W_sr (sV rfl (py_move rfl) (sV rfl (py_move rfl) (sV rfl (py_neq rfl rfl) (s_nil (W_ifd rfl (fun c6 => ?_) (fun c6 => ?_))))))))
      ·exact absurd c6 (by omega)
      ·refine W_skip (W_sr (sV rfl (py_loadS Tryz.underlying28 rfl Tryz.sizeOf28 rfl rfl (At.whole (H35.box 0 rfl))) (s_call (wn rfl) rfl rfl (pc_call Tryz.func17 rfl Tryz_nm17 rfl) (Tryz_laws_toWorld (by assumption) (H35.sees 0 rfl) (H35.sees 1 rfl) (H35.sees 2 rfl) (by assumption)) (fun v12 w21 r12 => ?_))))
       obtain ⟨e21, sa16, sk16, sa17, sk17, sa18, sk18, rfl, r12⟩ := r12
       obtain ⟨fp8, H36⟩ := H35.res e21 r12
       have H37 := H36.share 9 rfl
       obtain ⟨sf10, sf11, sf12, sq4, sok4, so10, so11, so12⟩ := own_WldC (H37.seen 15 rfl)
       have H39 := H37.look1 15 rfl so10 (fun b hb => by rw [sq4]; simp [hb])
       have H40 := H39.look1 15 rfl so11 (fun b hb => by rw [sq4]; simp [hb])
       have H41 := H40.look1 15 rfl so12 (fun b hb => by rw [sq4]; simp [hb])
       refine sV rfl (py_move rfl) (sV rfl (py_move rfl) (s_call (wn rfl) rfl rfl (pc_call Tryz.func35 rfl Tryz_nm35 rfl) (Tryz_impl_StrikeBoth (by assumption) (H41.sees 16 rfl) (H41.sees 17 rfl) (H41.sees 18 rfl) (by first | assumption | omega)) (fun v13 w22 r13 => ?_)))
       obtain ⟨e22, sa19, sk19, sa20, sk20, sa21, sk21, rfl, r13⟩ := r13
       obtain ⟨fp9, H42⟩ := H41.res e22 r13
       have H43 := H42.share 10 rfl
       obtain ⟨sf13, sf14, sf15, sq5, sok5, so13, so14, so15⟩ := own_WldResultC (H43.seen 19 rfl)
       have H45 := H43.look1 19 rfl so13 (fun b hb => by rw [sq5]; simp [hb])
       have H46 := H45.look1 19 rfl so14 (fun b hb => by rw [sq5]; simp [hb])
       have H47 := H46.look1 19 rfl so15 (fun b hb => by rw [sq5]; simp [hb])
       refine s_var (wn rfl) rfl Tryz.zeroValue57 H47 (fun b5 w23 e23 g5 H48 => ?_)
       refine s_stoS (wn rfl) Tryz.sizeOf57 rfl rfl rfl rfl H48 11 rfl rfl (fun w24 e24 H49 => ?_)
       dsimp only [List.nil_append, List.cons_append, List.set_cons_zero, List.set_cons_succ, layL] at H49
       refine s_nil (W_seq (W_sr (sV rfl (py_loadS Tryz.underlying57 rfl Tryz.sizeOf57 rfl rfl (At.whole (H49.box 11 rfl))) (sV rfl (py_loadS Tryz.underlying57 rfl Tryz.sizeOf57 rfl rfl (At.whole (H49.box 3 rfl))) (s_call (wn rfl) rfl rfl (pc_call Tryz.func36 rfl Tryz_nm36 rfl) (Tryz_laws_eqWorldResult (by assumption) (H49.sees 20 rfl) (H49.sees 21 rfl) (H49.sees 22 rfl) (by assumption) (H49.sees 8 rfl) (H49.sees 9 rfl) (H49.sees 10 rfl)) (fun v14 w25 r14 => ?_))))))
       obtain ⟨e25, rfl⟩ := r14
       have H50 := H49.to e25
       refine sV rfl (py_not rfl) (s_nil (W_if rfl (fun c7 => ?_) (fun c7 => ?_)))
       ·exfalso; simp_all
       ·refine W_skip (W_sr (sV rfl (py_assign rfl) (s_nil (W_sr (sV rfl (py_loadS Tryz.underlying57 rfl Tryz.sizeOf57 rfl rfl (At.whole (H50.box 7 rfl))) (sV rfl (py_move rfl) (s_call (wn rfl) rfl rfl (pc_call Tryz.func38 rfl Tryz_nm38 rfl) (Tryz_laws_heldWorldResult (x := mx2) (wr_see (H50.mine 6 rfl)).1 (wr_see (H50.mine 6 rfl)).2.1 (wr_see (H50.mine 6 rfl)).2.2 (by have := ml2.2.2.2.1; constructor <;> omega) ml2.2.2.2.2.1) (fun v15 w26 r15 => ?_))))))))
        obtain ⟨e26, rfl⟩ := r15
        have H51 := H50.to e26
        refine sV rfl (py_assign rfl) (s_nil (W_seq (W_sr (sV rfl (py_move rfl) (sV rfl (py_lss rfl rfl) (s_nil (W_ifd rfl (fun c8 => ?_) (fun c8 => ?_))))))))
        ·exact absurd c8 (by omega)
        ·refine W_skip (W_seq (W_sr (sV rfl (py_move rfl) (sV rfl (py_move rfl) (sV rfl (py_neq rfl rfl) (s_nil (W_ifd rfl (fun c9 => ?_) (fun c9 => ?_))))))))
         ·exact absurd c9 (by omega)
         ·refine W_skip (W_sr (sV rfl (py_assign rfl) (s_nil (W_ret (hQ _ _ (fin1 Tryz.results7 rfl ?_))))))
          exact ⟨H51.ext, rfl⟩
end Go.Wk
