/-
  Laws on walking, and the functions walked, each once: what this claim comes to.
-/
import Derived.Test.YthfpkjhjkbpbiaaGreatZd3
set_option linter.unusedVariables false
set_option linter.unusedSimpArgs false
namespace Go.Wk
open Go.Proofs Rp
set_option maxRecDepth 10000
theorem Tryz_clone_i {w : World} {xs : List Int} {xsA : Option Addr} {xsC : Nat} (xsS : Sees w [.slice xsA xs.length xsC] xs) (hl : xs.length ≤ 100000000) : Ret Tryz.prog 150 #[.slice xsA xs.length xsC] w fun v w' => Ext No w w' ∧ (Res w w' [v] xs) := by
 have xsL := sL xsS
 obtain ⟨xsF, xsO⟩ := xsS
 refine ret_Q (vs := [.slice xsA xs.length xsC]) Tryz.func150 rfl Tryz.ntmps150 rfl (fun Q hQ hN => ?_)
 have H0 := Sep.start (w := w) (F := [seen false [.slice xsA xs.length xsC] xs xsF]) (all_cons xsO (by simp))
 refine W_sr (sA rfl rfl (s_nil (W_seq (W_sr (sM rfl rfl (sV rfl (py_slnil tu25 rfl rfl) (s_nil (W_if rfl (fun c1 => ?_) (fun c1 => ?_)))))))))
 ·refine W_sr (sA rfl rfl (s_nil (rT hQ Tryz.results150 rfl ?_)))
  have e : xs = [] := own_none xsO c1
  exact ⟨H0.ext, e ▸ ⟨[], .inr (.inl ⟨rfl, rfl, rfl⟩), .nil, by simp⟩⟩
 ·refine W_skip (W_sr (s_lit0 (α := Int) (wn rfl) rfl tu25 Tryz_ty2 H0 (fun b1 w1 e1 g1 H1 => ?_)))
  refine sM rfl rfl (s_appF (wn rfl) rfl tu25 Tryz_ty2 rfl rfl rfl H1 0 rfl (H1.seen 0 rfl) (by (try simp only [List.length_nil]); unfold maxLen; omega) (by (try simp only [List.length_nil]); omega) (fun v1 w2 fp1 H2 => ?_))
  refine sA rfl rfl (s_nil (rT hQ Tryz.results150 rfl ?_))
  exact ⟨H2.ext, by
   have h := H2.out 0 rfl
   rwa [List.nil_append] at h⟩
theorem Tryz_clone_b {w : World} {xs : List UInt8} {xsA : Option Addr} {xsC : Nat} (xsS : Sees w [.slice xsA xs.length xsC] xs) (hl : xs.length ≤ 100000000) : Ret Tryz.prog 151 #[.slice xsA xs.length xsC] w fun v w' => Ext No w w' ∧ (Res w w' [v] xs) := by
 have xsL := sL xsS
 obtain ⟨xsF, xsO⟩ := xsS
 refine ret_Q (vs := [.slice xsA xs.length xsC]) Tryz.func151 rfl Tryz.ntmps151 rfl (fun Q hQ hN => ?_)
 have H0 := Sep.start (w := w) (F := [seen false [.slice xsA xs.length xsC] xs xsF]) (all_cons xsO (by simp))
 refine W_sr (sA rfl rfl (s_nil (W_seq (W_sr (sM rfl rfl (sV rfl (py_slnil tu45 rfl rfl) (s_nil (W_if rfl (fun c1 => ?_) (fun c1 => ?_)))))))))
 ·refine W_sr (sA rfl rfl (s_nil (rT hQ Tryz.results151 rfl ?_)))
  have e : xs = [] := own_none xsO c1
  exact ⟨H0.ext, e ▸ ⟨[], .inr (.inl ⟨rfl, rfl, rfl⟩), .nil, by simp⟩⟩
 ·refine W_skip (W_sr (s_lit0 (α := UInt8) (wn rfl) rfl tu45 Tryz_ty5 H0 (fun b1 w1 e1 g1 H1 => ?_)))
  refine sM rfl rfl (s_appF (wn rfl) rfl tu45 Tryz_ty5 rfl rfl rfl H1 0 rfl (H1.seen 0 rfl) (by (try simp only [List.length_nil]); unfold maxLen; omega) (by (try simp only [List.length_nil]); omega) (fun v1 w2 fp1 H2 => ?_))
  refine sA rfl rfl (s_nil (rT hQ Tryz.results151 rfl ?_))
  exact ⟨H2.ext, by
   have h := H2.out 0 rfl
   rwa [List.nil_append] at h⟩
theorem Tryz_impl_cloneRec {w : World} {r : Rec} {rA6 rA7 rA8 : Option Addr} {rC6 rC7 rC8 : Nat} (rK : r.Ok) (rS6 : Sees w [.slice rA6 r.Rows.length rC6] r.Rows) (rS7 : Sees w [.slice rA7 r.Data.length rC7] r.Data) (rS8 : Sees w [.slice rA8 r.Delta.length rC8] r.Delta) (hb : szRec r ≤ 1048576) : Ret Tryz.prog 74 #[r.val rA6 rC6 rA7 rC7 rA8 rC8] w fun v w' => Ext No w w' ∧ (∃ A6 C6 A7 C7 A8 C8, v = r.val A6 C6 A7 C7 A8 C8 ∧ Res w w' [.int .i64 r.Kind, .int .i64 r.Seq, .string r.Name, .int .i64 r.Length, .int .i64 r.Group, .int .i64 r.Row, .slice A6 r.Rows.length C6, .slice A7 r.Data.length C7, .slice A8 r.Delta.length C8] r) := by
 have rK2 := rK
 unfold Rec.Ok at rK2
 try unfold I64ok at rK2
 try unfold maxLen at rK2
 have rN2 : r.Name.size ≤ maxLen := by unfold maxLen; omega
 have rL6 := sL rS6
 obtain ⟨rF6, rO6⟩ := rS6
 have rL7 := sL rS7
 obtain ⟨rF7, rO7⟩ := rS7
 have rL8 := sL rS8
 obtain ⟨rF8, rO8⟩ := rS8
 unfold szRec at hb
 refine ret_Q (vs := [r.val rA6 rC6 rA7 rC7 rA8 rC8]) Tryz.func74 rfl Tryz.ntmps74 rfl (fun Q hQ hN => ?_)
 have H0 := Sep.start (w := w) (F := [seen false [.slice rA6 r.Rows.length rC6] r.Rows rF6, seen false [.slice rA7 r.Data.length rC7] r.Data rF7, seen false [.slice rA8 r.Delta.length rC8] r.Delta rF8]) (all_cons rO6 (all_cons rO7 (all_cons rO8 (by simp))))
 refine W_sr (s_box (wn rfl) rfl rfl H0 (fun b1 w1 e1 g1 H1 => ?_))
 refine s_var (wn rfl) rfl Tryz.zeroValue68 H1 (fun b2 w2 e2 g2 H2 => ?_)
 refine s_nil (W_seq (W_drw (S := Ext (· ∈ [b1]) _) [(0, true), (3, true), (6, true), (1089, false), (1, false), (1032, false), (2, false), (1020, false), (4, false), (1009, false), (5, false), (7, false), (9, true), (8, false), (10, false), (11, true), (12, false), (13, true), (14, false), (7, false), (9, true), (5, false), (8, false), (10, false), (11, true), (12, false), (13, true), (14, false), (7, false), (4, false), (9, true), (5, false), (8, false), (10, false), (11, true), (12, false), (13, true), (14, false), (1032, false), (4, false), (1020, false), (2, false), (1009, false), (5, false), (7, false), (9, true), (8, false), (10, false), (11, true), (12, false), (13, true), (14, false), (7, false), (9, true), (5, false), (8, false), (10, false), (11, true), (12, false), (13, true), (14, false), (7, false), (2, false), (9, true), (5, false), (8, false), (10, false), (11, true), (12, false), (13, true), (14, false), (7, false), (1010, false), (2, false), (4, false), (9, true), (5, false), (8, false), (10, false), (11, true), (12, false), (13, true), (14, false), (4, false), (2, false), (9, true), (5, false), (8, false), (10, false), (11, true), (12, false), (13, true), (14, false), (1045, false), (4, false), (1032, false), (1, false), (1020, false), (2, false), (1009, false), (5, false), (7, false), (9, true), (8, false), (10, false), (11, true), (12, false), (13, true), (14, false), (7, false), (9, true), (5, false), (8, false), (10, false), (11, true), (12, false), (13, true), (14, false), (7, false), (2, false), (9, true), (5, false), (8, false), (10, false), (11, true), (12, false), (13, true), (14, false), (7, false), (1, false), (2, false), (9, true), (5, false), (8, false), (10, false), (11, true), (12, false), (13, true), (14, false), (7, false), (1022, false), (1, false), (1010, false), (2, false), (4, false), (9, true), (5, false), (8, false), (10, false), (11, true), (12, false), (13, true), (14, false), (4, false), (2, false), (9, true), (5, false), (8, false), (10, false), (11, true), (12, false), (13, true), (14, false), (4, false), (1, false), (2, false), (9, true), (5, false), (8, false), (10, false), (11, true), (12, false), (13, true), (14, false)] (by kernel_rfl) (by kernel_rfl) (by kernel_rfl) rfl (fun _ => Ext.refl.drawn _) (fun q1 => ?_)))
 have H3 := H2.drawn q1
 refine dV rfl rfl (fun zw hx => py_field tu68 rfl ts25 rfl rfl) (dV rfl rfl (fun zw hx => py_field tu68 rfl ts45 rfl rfl) (dV rfl rfl (fun zw hx => py_field tu68 rfl ts45 rfl rfl) (d_fork (l1 := [(1, false), (1032, false), (2, false), (1020, false), (4, false), (1009, false), (5, false), (7, false), (9, true), (8, false), (10, false), (11, true), (12, false), (13, true), (14, false), (7, false), (9, true), (5, false), (8, false), (10, false), (11, true), (12, false), (13, true), (14, false), (7, false), (4, false), (9, true), (5, false), (8, false), (10, false), (11, true), (12, false), (13, true), (14, false), (1032, false), (4, false), (1020, false), (2, false), (1009, false), (5, false), (7, false), (9, true), (8, false), (10, false), (11, true), (12, false), (13, true), (14, false), (7, false), (9, true), (5, false), (8, false), (10, false), (11, true), (12, false), (13, true), (14, false), (7, false), (2, false), (9, true), (5, false), (8, false), (10, false), (11, true), (12, false), (13, true), (14, false), (7, false), (1010, false), (2, false), (4, false), (9, true), (5, false), (8, false), (10, false), (11, true), (12, false), (13, true), (14, false), (4, false), (2, false), (9, true), (5, false), (8, false), (10, false), (11, true), (12, false), (13, true), (14, false)]) (l2 := [(1045, false), (4, false), (1032, false), (1, false), (1020, false), (2, false), (1009, false), (5, false), (7, false), (9, true), (8, false), (10, false), (11, true), (12, false), (13, true), (14, false), (7, false), (9, true), (5, false), (8, false), (10, false), (11, true), (12, false), (13, true), (14, false), (7, false), (2, false), (9, true), (5, false), (8, false), (10, false), (11, true), (12, false), (13, true), (14, false), (7, false), (1, false), (2, false), (9, true), (5, false), (8, false), (10, false), (11, true), (12, false), (13, true), (14, false), (7, false), (1022, false), (1, false), (1010, false), (2, false), (4, false), (9, true), (5, false), (8, false), (10, false), (11, true), (12, false), (13, true), (14, false), (4, false), (2, false), (9, true), (5, false), (8, false), (10, false), (11, true), (12, false), (13, true), (14, false), (4, false), (1, false), (2, false), (9, true), (5, false), (8, false), (10, false), (11, true), (12, false), (13, true), (14, false)]) rfl rfl rfl rfl ?_ ?_)))
 ·refine d_end rfl (wn rfl) rfl rfl (py_load tu25 rfl rfl (cell_atL (H3.box 0 rfl) rfl)) (d_fork (l1 := [(2, false), (1020, false), (4, false), (1009, false), (5, false), (7, false), (9, true), (8, false), (10, false), (11, true), (12, false), (13, true), (14, false), (7, false), (9, true), (5, false), (8, false), (10, false), (11, true), (12, false), (13, true), (14, false), (7, false), (4, false), (9, true), (5, false), (8, false), (10, false), (11, true), (12, false), (13, true), (14, false)]) (l2 := [(1032, false), (4, false), (1020, false), (2, false), (1009, false), (5, false), (7, false), (9, true), (8, false), (10, false), (11, true), (12, false), (13, true), (14, false), (7, false), (9, true), (5, false), (8, false), (10, false), (11, true), (12, false), (13, true), (14, false), (7, false), (2, false), (9, true), (5, false), (8, false), (10, false), (11, true), (12, false), (13, true), (14, false), (7, false), (1010, false), (2, false), (4, false), (9, true), (5, false), (8, false), (10, false), (11, true), (12, false), (13, true), (14, false), (4, false), (2, false), (9, true), (5, false), (8, false), (10, false), (11, true), (12, false), (13, true), (14, false)]) rfl rfl rfl rfl ?_ ?_)
  ·refine d_call rfl (wn rfl) rfl rfl (pc_call Tryz.func150 rfl Tryz_nm150 rfl) (Tryz_clone_i (H3.sees 0 rfl) (by omega)) (fun hS _ _ r _ => hS.trans r.1.no) (fun v1 w3 r1 => ?_)
   obtain ⟨e3, r1⟩ := r1
   obtain ⟨fp1, H4⟩ := H3.res e3 r1
   obtain ⟨a1, k1, q2⟩ := own_slice (H4.mine 2 rfl)
   cases q2
   refine d_fork (l1 := [(4, false), (1009, false), (5, false), (7, false), (9, true), (8, false), (10, false), (11, true), (12, false), (13, true), (14, false), (7, false), (9, true), (5, false), (8, false), (10, false), (11, true), (12, false), (13, true), (14, false)]) (l2 := [(7, false), (4, false), (9, true), (5, false), (8, false), (10, false), (11, true), (12, false), (13, true), (14, false)]) rfl rfl rfl rfl ?_ ?_
   ·refine d_end rfl (wn rfl) rfl rfl (py_load tu45 rfl rfl (cell_atL (H4.box 0 rfl) rfl)) (d_fork (l1 := [(5, false), (7, false), (9, true), (8, false), (10, false), (11, true), (12, false), (13, true), (14, false)]) (l2 := [(7, false), (9, true), (5, false), (8, false), (10, false), (11, true), (12, false), (13, true), (14, false)]) rfl rfl rfl rfl ?_ ?_)
    ·refine d_call rfl (wn rfl) rfl rfl (pc_call Tryz.func151 rfl Tryz_nm151 rfl) (Tryz_clone_b (H4.sees 1 rfl) (by omega)) (fun hS _ _ r _ => hS.trans r.1.no) (fun v2 w4 r2 => ?_)
     obtain ⟨e4, r2⟩ := r2
     obtain ⟨fp2, H5⟩ := H4.res e4 r2
     obtain ⟨a2, k2, q3⟩ := own_slice (H5.mine 3 rfl)
     cases q3
     refine d_end rfl (wn rfl) rfl rfl (py_load tu45 rfl rfl (cell_atL (H5.box 0 rfl) rfl)) (dV rfl rfl (fun zw hx => py_field tu68 rfl ts25 rfl rfl) (d_call rfl (wn rfl) rfl rfl (pc_call Tryz.func151 rfl Tryz_nm151 rfl) (Tryz_clone_b (H5.sees 2 rfl) (by omega)) (fun hS _ _ r _ => hS.trans r.1.no) (fun v3 w5 r3 => ?_)))
     obtain ⟨e5, r3⟩ := r3
     obtain ⟨fp3, H6⟩ := H5.res e5 r3
     obtain ⟨a3, k3, q4⟩ := own_slice (H6.mine 4 rfl)
     cases q4
     refine d_sto rfl (wn rfl) ts25 rfl rfl rfl H6 0 rfl rfl (fun _ h e _ => h.trans (e.mono fun _ _ q => by simp [q])) (fun w6 e6 H7 => ?_)
     dsimp only [lNA, lCA, lSZ, lSS, layL] at H7
     refine dV rfl rfl (fun zw hx => py_field tu68 rfl ts45 rfl rfl) (d_sto rfl (wn rfl) ts45 rfl rfl rfl H7 0 rfl rfl (fun _ h e _ => h.trans (e.mono fun _ _ q => by simp [q])) (fun w7 e7 H8 => ?_))
     dsimp only [lNA, lCA, lSZ, lSS, layL] at H8
     refine dV rfl rfl (fun zw hx => py_field tu68 rfl ts45 rfl rfl) (d_sto rfl (wn rfl) ts45 rfl rfl rfl H8 0 rfl rfl (fun _ h e _ => h.trans (e.mono fun _ _ q => by simp [q])) (fun w8 e8 H9 => ?_))
     dsimp only [lNA, lCA, lSZ, lSS, layL] at H9
     refine d_nil (W_sr (sV rfl (py_loadS tu68 rfl ts68 rfl rfl (At.whole (H9.box 0 rfl))) (s_stoS (wn rfl) ts68 rfl rfl rfl rfl H9 1 rfl rfl (fun w9 e9 H10 => ?_))))
     dsimp only [lNA, lCA, lSZ, lSS, layL] at H10
     refine s_nil (W_ret (hQ _ _ (finC Tryz.results74 rfl (run_loadVarS tu68 rfl ts68 rfl (At.whole (H10.box 1 rfl))) ?_)))
     exact ⟨H10.ext, _, _, _, _, _, _, rfl, Rec.out (H10.sub (.cons _ (.cons _ (.cons_cons _ (.cons_cons _ (.cons_cons _ List.Sublist.slnil)))))) (by assumption)⟩
    ·refine d_end rfl (wn rfl) rfl rfl (py_load tu45 rfl rfl (cell_atL (H4.box 0 rfl) rfl)) (dV rfl rfl (fun zw hx => py_field tu68 rfl ts25 rfl rfl) (d_call rfl (wn rfl) rfl rfl (pc_call Tryz.func151 rfl Tryz_nm151 rfl) (Tryz_clone_b (H4.sees 1 rfl) (by omega)) (fun hS _ _ r _ => hS.trans r.1.no) (fun v4 w10 r4 => ?_)))
     obtain ⟨e10, r4⟩ := r4
     obtain ⟨fp4, H11⟩ := H4.res e10 r4
     obtain ⟨a4, k4, q5⟩ := own_slice (H11.mine 3 rfl)
     cases q5
     refine d_call rfl (wn rfl) rfl rfl (pc_call Tryz.func151 rfl Tryz_nm151 rfl) (Tryz_clone_b (H11.sees 2 rfl) (by omega)) (fun hS _ _ r _ => hS.trans r.1.no) (fun v5 w11 r5 => ?_)
     obtain ⟨e11, r5⟩ := r5
     obtain ⟨fp5, H12⟩ := H11.res e11 r5
     obtain ⟨a5, k5, q6⟩ := own_slice (H12.mine 4 rfl)
     cases q6
     refine d_sto rfl (wn rfl) ts25 rfl rfl rfl H12 0 rfl rfl (fun _ h e _ => h.trans (e.mono fun _ _ q => by simp [q])) (fun w12 e12 H13 => ?_)
     dsimp only [lNA, lCA, lSZ, lSS, layL] at H13
     refine dV rfl rfl (fun zw hx => py_field tu68 rfl ts45 rfl rfl) (d_sto rfl (wn rfl) ts45 rfl rfl rfl H13 0 rfl rfl (fun _ h e _ => h.trans (e.mono fun _ _ q => by simp [q])) (fun w13 e13 H14 => ?_))
     dsimp only [lNA, lCA, lSZ, lSS, layL] at H14
     refine dV rfl rfl (fun zw hx => py_field tu68 rfl ts45 rfl rfl) (d_sto rfl (wn rfl) ts45 rfl rfl rfl H14 0 rfl rfl (fun _ h e _ => h.trans (e.mono fun _ _ q => by simp [q])) (fun w14 e14 H15 => ?_))
     dsimp only [lNA, lCA, lSZ, lSS, layL] at H15
     refine d_nil (W_sr (sV rfl (py_loadS tu68 rfl ts68 rfl rfl (At.whole (H15.box 0 rfl))) (s_stoS (wn rfl) ts68 rfl rfl rfl rfl H15 1 rfl rfl (fun w15 e15 H16 => ?_))))
     dsimp only [lNA, lCA, lSZ, lSS, layL] at H16
     refine s_nil (W_ret (hQ _ _ (finC Tryz.results74 rfl (run_loadVarS tu68 rfl ts68 rfl (At.whole (H16.box 1 rfl))) ?_)))
     exact ⟨H16.ext, _, _, _, _, _, _, rfl, Rec.out (H16.sub (.cons _ (.cons _ (.cons_cons _ (.cons_cons _ (.cons_cons _ List.Sublist.slnil)))))) (by assumption)⟩
   ·refine d_end rfl (wn rfl) rfl rfl (py_load tu45 rfl rfl (cell_atL (H4.box 0 rfl) rfl)) (d_end rfl (wn rfl) rfl rfl (py_load tu45 rfl rfl (cell_atL (H4.box 0 rfl) rfl)) (dV rfl rfl (fun zw hx => py_field tu68 rfl ts25 rfl rfl) (d_call rfl (wn rfl) rfl rfl (pc_call Tryz.func151 rfl Tryz_nm151 rfl) (Tryz_clone_b (H4.sees 1 rfl) (by omega)) (fun hS _ _ r _ => hS.trans r.1.no) (fun v6 w16 r6 => ?_))))
    obtain ⟨e16, r6⟩ := r6
    obtain ⟨fp6, H17⟩ := H4.res e16 r6
    obtain ⟨a6, k6, q7⟩ := own_slice (H17.mine 3 rfl)
    cases q7
    refine d_call rfl (wn rfl) rfl rfl (pc_call Tryz.func151 rfl Tryz_nm151 rfl) (Tryz_clone_b (H17.sees 2 rfl) (by omega)) (fun hS _ _ r _ => hS.trans r.1.no) (fun v7 w17 r7 => ?_)
    obtain ⟨e17, r7⟩ := r7
    obtain ⟨fp7, H18⟩ := H17.res e17 r7
    obtain ⟨a7, k7, q8⟩ := own_slice (H18.mine 4 rfl)
    cases q8
    refine d_sto rfl (wn rfl) ts25 rfl rfl rfl H18 0 rfl rfl (fun _ h e _ => h.trans (e.mono fun _ _ q => by simp [q])) (fun w18 e18 H19 => ?_)
    dsimp only [lNA, lCA, lSZ, lSS, layL] at H19
    refine dV rfl rfl (fun zw hx => py_field tu68 rfl ts45 rfl rfl) (d_sto rfl (wn rfl) ts45 rfl rfl rfl H19 0 rfl rfl (fun _ h e _ => h.trans (e.mono fun _ _ q => by simp [q])) (fun w19 e19 H20 => ?_))
    dsimp only [lNA, lCA, lSZ, lSS, layL] at H20
    refine dV rfl rfl (fun zw hx => py_field tu68 rfl ts45 rfl rfl) (d_sto rfl (wn rfl) ts45 rfl rfl rfl H20 0 rfl rfl (fun _ h e _ => h.trans (e.mono fun _ _ q => by simp [q])) (fun w20 e20 H21 => ?_))
    dsimp only [lNA, lCA, lSZ, lSS, layL] at H21
    refine d_nil (W_sr (sV rfl (py_loadS tu68 rfl ts68 rfl rfl (At.whole (H21.box 0 rfl))) (s_stoS (wn rfl) ts68 rfl rfl rfl rfl H21 1 rfl rfl (fun w21 e21 H22 => ?_))))
    dsimp only [lNA, lCA, lSZ, lSS, layL] at H22
    refine s_nil (W_ret (hQ _ _ (finC Tryz.results74 rfl (run_loadVarS tu68 rfl ts68 rfl (At.whole (H22.box 1 rfl))) ?_)))
    exact ⟨H22.ext, _, _, _, _, _, _, rfl, Rec.out (H22.sub (.cons _ (.cons _ (.cons_cons _ (.cons_cons _ (.cons_cons _ List.Sublist.slnil)))))) (by assumption)⟩
  refine d_fork (l1 := [(4, false), (1020, false), (2, false), (1009, false), (5, false), (7, false), (9, true), (8, false), (10, false), (11, true), (12, false), (13, true), (14, false), (7, false), (9, true), (5, false), (8, false), (10, false), (11, true), (12, false), (13, true), (14, false), (7, false), (2, false), (9, true), (5, false), (8, false), (10, false), (11, true), (12, false), (13, true), (14, false)]) (l2 := [(7, false), (1010, false), (2, false), (4, false), (9, true), (5, false), (8, false), (10, false), (11, true), (12, false), (13, true), (14, false), (4, false), (2, false), (9, true), (5, false), (8, false), (10, false), (11, true), (12, false), (13, true), (14, false)]) rfl rfl rfl rfl ?_ ?_
  ·refine d_end rfl (wn rfl) rfl rfl (py_load tu45 rfl rfl (cell_atL (H3.box 0 rfl) rfl)) (d_fork (l1 := [(2, false), (1009, false), (5, false), (7, false), (9, true), (8, false), (10, false), (11, true), (12, false), (13, true), (14, false), (7, false), (9, true), (5, false), (8, false), (10, false), (11, true), (12, false), (13, true), (14, false)]) (l2 := [(7, false), (2, false), (9, true), (5, false), (8, false), (10, false), (11, true), (12, false), (13, true), (14, false)]) rfl rfl rfl rfl ?_ ?_)
   ·refine d_call rfl (wn rfl) rfl rfl (pc_call Tryz.func150 rfl Tryz_nm150 rfl) (Tryz_clone_i (H3.sees 0 rfl) (by omega)) (fun hS _ _ r _ => hS.trans r.1.no) (fun v8 w22 r8 => ?_)
    obtain ⟨e22, r8⟩ := r8
    obtain ⟨fp8, H23⟩ := H3.res e22 r8
    obtain ⟨a8, k8, q9⟩ := own_slice (H23.mine 2 rfl)
    cases q9
    refine d_fork (l1 := [(5, false), (7, false), (9, true), (8, false), (10, false), (11, true), (12, false), (13, true), (14, false)]) (l2 := [(7, false), (9, true), (5, false), (8, false), (10, false), (11, true), (12, false), (13, true), (14, false)]) rfl rfl rfl rfl ?_ ?_
    ·refine d_call rfl (wn rfl) rfl rfl (pc_call Tryz.func151 rfl Tryz_nm151 rfl) (Tryz_clone_b (H23.sees 1 rfl) (by omega)) (fun hS _ _ r _ => hS.trans r.1.no) (fun v9 w23 r9 => ?_)
     obtain ⟨e23, r9⟩ := r9
     obtain ⟨fp9, H24⟩ := H23.res e23 r9
     obtain ⟨a9, k9, q10⟩ := own_slice (H24.mine 3 rfl)
     cases q10
     refine d_end rfl (wn rfl) rfl rfl (py_load tu45 rfl rfl (cell_atL (H24.box 0 rfl) rfl)) (dV rfl rfl (fun zw hx => py_field tu68 rfl ts25 rfl rfl) (d_call rfl (wn rfl) rfl rfl (pc_call Tryz.func151 rfl Tryz_nm151 rfl) (Tryz_clone_b (H24.sees 2 rfl) (by omega)) (fun hS _ _ r _ => hS.trans r.1.no) (fun v10 w24 r10 => ?_)))
     obtain ⟨e24, r10⟩ := r10
     obtain ⟨fp10, H25⟩ := H24.res e24 r10
     obtain ⟨a10, k10, q11⟩ := own_slice (H25.mine 4 rfl)
     cases q11
     refine d_sto rfl (wn rfl) ts25 rfl rfl rfl H25 0 rfl rfl (fun _ h e _ => h.trans (e.mono fun _ _ q => by simp [q])) (fun w25 e25 H26 => ?_)
     dsimp only [lNA, lCA, lSZ, lSS, layL] at H26
     refine dV rfl rfl (fun zw hx => py_field tu68 rfl ts45 rfl rfl) (d_sto rfl (wn rfl) ts45 rfl rfl rfl H26 0 rfl rfl (fun _ h e _ => h.trans (e.mono fun _ _ q => by simp [q])) (fun w26 e26 H27 => ?_))
     dsimp only [lNA, lCA, lSZ, lSS, layL] at H27
     refine dV rfl rfl (fun zw hx => py_field tu68 rfl ts45 rfl rfl) (d_sto rfl (wn rfl) ts45 rfl rfl rfl H27 0 rfl rfl (fun _ h e _ => h.trans (e.mono fun _ _ q => by simp [q])) (fun w27 e27 H28 => ?_))
     dsimp only [lNA, lCA, lSZ, lSS, layL] at H28
     refine d_nil (W_sr (sV rfl (py_loadS tu68 rfl ts68 rfl rfl (At.whole (H28.box 0 rfl))) (s_stoS (wn rfl) ts68 rfl rfl rfl rfl H28 1 rfl rfl (fun w28 e28 H29 => ?_))))
     dsimp only [lNA, lCA, lSZ, lSS, layL] at H29
     refine s_nil (W_ret (hQ _ _ (finC Tryz.results74 rfl (run_loadVarS tu68 rfl ts68 rfl (At.whole (H29.box 1 rfl))) ?_)))
     exact ⟨H29.ext, _, _, _, _, _, _, rfl, Rec.out (H29.sub (.cons _ (.cons _ (.cons_cons _ (.cons_cons _ (.cons_cons _ List.Sublist.slnil)))))) (by assumption)⟩
    ·refine d_end rfl (wn rfl) rfl rfl (py_load tu45 rfl rfl (cell_atL (H23.box 0 rfl) rfl)) (dV rfl rfl (fun zw hx => py_field tu68 rfl ts25 rfl rfl) (d_call rfl (wn rfl) rfl rfl (pc_call Tryz.func151 rfl Tryz_nm151 rfl) (Tryz_clone_b (H23.sees 1 rfl) (by omega)) (fun hS _ _ r _ => hS.trans r.1.no) (fun v11 w29 r11 => ?_)))
     obtain ⟨e29, r11⟩ := r11
     obtain ⟨fp11, H30⟩ := H23.res e29 r11
     obtain ⟨a11, k11, q12⟩ := own_slice (H30.mine 3 rfl)
     cases q12
     refine d_call rfl (wn rfl) rfl rfl (pc_call Tryz.func151 rfl Tryz_nm151 rfl) (Tryz_clone_b (H30.sees 2 rfl) (by omega)) (fun hS _ _ r _ => hS.trans r.1.no) (fun v12 w30 r12 => ?_)
     obtain ⟨e30, r12⟩ := r12
     obtain ⟨fp12, H31⟩ := H30.res e30 r12
     obtain ⟨a12, k12, q13⟩ := own_slice (H31.mine 4 rfl)
     cases q13
     refine d_sto rfl (wn rfl) ts25 rfl rfl rfl H31 0 rfl rfl (fun _ h e _ => h.trans (e.mono fun _ _ q => by simp [q])) (fun w31 e31 H32 => ?_)
     dsimp only [lNA, lCA, lSZ, lSS, layL] at H32
     refine dV rfl rfl (fun zw hx => py_field tu68 rfl ts45 rfl rfl) (d_sto rfl (wn rfl) ts45 rfl rfl rfl H32 0 rfl rfl (fun _ h e _ => h.trans (e.mono fun _ _ q => by simp [q])) (fun w32 e32 H33 => ?_))
     dsimp only [lNA, lCA, lSZ, lSS, layL] at H33
     refine dV rfl rfl (fun zw hx => py_field tu68 rfl ts45 rfl rfl) (d_sto rfl (wn rfl) ts45 rfl rfl rfl H33 0 rfl rfl (fun _ h e _ => h.trans (e.mono fun _ _ q => by simp [q])) (fun w33 e33 H34 => ?_))
     dsimp only [lNA, lCA, lSZ, lSS, layL] at H34
     refine d_nil (W_sr (sV rfl (py_loadS tu68 rfl ts68 rfl rfl (At.whole (H34.box 0 rfl))) (s_stoS (wn rfl) ts68 rfl rfl rfl rfl H34 1 rfl rfl (fun w34 e34 H35 => ?_))))
     dsimp only [lNA, lCA, lSZ, lSS, layL] at H35
     refine s_nil (W_ret (hQ _ _ (finC Tryz.results74 rfl (run_loadVarS tu68 rfl ts68 rfl (At.whole (H35.box 1 rfl))) ?_)))
     exact ⟨H35.ext, _, _, _, _, _, _, rfl, Rec.out (H35.sub (.cons _ (.cons _ (.cons_cons _ (.cons_cons _ (.cons_cons _ List.Sublist.slnil)))))) (by assumption)⟩
   ·refine d_end rfl (wn rfl) rfl rfl (py_load tu45 rfl rfl (cell_atL (H3.box 0 rfl) rfl)) (d_call rfl (wn rfl) rfl rfl (pc_call Tryz.func150 rfl Tryz_nm150 rfl) (Tryz_clone_i (H3.sees 0 rfl) (by omega)) (fun hS _ _ r _ => hS.trans r.1.no) (fun v13 w35 r13 => ?_))
    obtain ⟨e35, r13⟩ := r13
    obtain ⟨fp13, H36⟩ := H3.res e35 r13
    obtain ⟨a13, k13, q14⟩ := own_slice (H36.mine 2 rfl)
    cases q14
    refine dV rfl rfl (fun zw hx => py_field tu68 rfl ts25 rfl rfl) (d_call rfl (wn rfl) rfl rfl (pc_call Tryz.func151 rfl Tryz_nm151 rfl) (Tryz_clone_b (H36.sees 1 rfl) (by omega)) (fun hS _ _ r _ => hS.trans r.1.no) (fun v14 w36 r14 => ?_))
    obtain ⟨e36, r14⟩ := r14
    obtain ⟨fp14, H37⟩ := H36.res e36 r14
    obtain ⟨a14, k14, q15⟩ := own_slice (H37.mine 3 rfl)
    cases q15
    refine d_call rfl (wn rfl) rfl rfl (pc_call Tryz.func151 rfl Tryz_nm151 rfl) (Tryz_clone_b (H37.sees 2 rfl) (by omega)) (fun hS _ _ r _ => hS.trans r.1.no) (fun v15 w37 r15 => ?_)
    obtain ⟨e37, r15⟩ := r15
    obtain ⟨fp15, H38⟩ := H37.res e37 r15
    obtain ⟨a15, k15, q16⟩ := own_slice (H38.mine 4 rfl)
    cases q16
    refine d_sto rfl (wn rfl) ts25 rfl rfl rfl H38 0 rfl rfl (fun _ h e _ => h.trans (e.mono fun _ _ q => by simp [q])) (fun w38 e38 H39 => ?_)
    dsimp only [lNA, lCA, lSZ, lSS, layL] at H39
    refine dV rfl rfl (fun zw hx => py_field tu68 rfl ts45 rfl rfl) (d_sto rfl (wn rfl) ts45 rfl rfl rfl H39 0 rfl rfl (fun _ h e _ => h.trans (e.mono fun _ _ q => by simp [q])) (fun w39 e39 H40 => ?_))
    dsimp only [lNA, lCA, lSZ, lSS, layL] at H40
    refine dV rfl rfl (fun zw hx => py_field tu68 rfl ts45 rfl rfl) (d_sto rfl (wn rfl) ts45 rfl rfl rfl H40 0 rfl rfl (fun _ h e _ => h.trans (e.mono fun _ _ q => by simp [q])) (fun w40 e40 H41 => ?_))
    dsimp only [lNA, lCA, lSZ, lSS, layL] at H41
    refine d_nil (W_sr (sV rfl (py_loadS tu68 rfl ts68 rfl rfl (At.whole (H41.box 0 rfl))) (s_stoS (wn rfl) ts68 rfl rfl rfl rfl H41 1 rfl rfl (fun w41 e41 H42 => ?_))))
    dsimp only [lNA, lCA, lSZ, lSS, layL] at H42
    refine s_nil (W_ret (hQ _ _ (finC Tryz.results74 rfl (run_loadVarS tu68 rfl ts68 rfl (At.whole (H42.box 1 rfl))) ?_)))
    exact ⟨H42.ext, _, _, _, _, _, _, rfl, Rec.out (H42.sub (.cons _ (.cons _ (.cons_cons _ (.cons_cons _ (.cons_cons _ List.Sublist.slnil)))))) (by assumption)⟩
  ·refine d_end rfl (wn rfl) rfl rfl (py_load tu45 rfl rfl (cell_atL (H3.box 0 rfl) rfl)) (d_fork (l1 := [(2, false), (4, false), (9, true), (5, false), (8, false), (10, false), (11, true), (12, false), (13, true), (14, false)]) (l2 := [(4, false), (2, false), (9, true), (5, false), (8, false), (10, false), (11, true), (12, false), (13, true), (14, false)]) rfl rfl rfl rfl ?_ ?_)
   ·refine d_call rfl (wn rfl) rfl rfl (pc_call Tryz.func150 rfl Tryz_nm150 rfl) (Tryz_clone_i (H3.sees 0 rfl) (by omega)) (fun hS _ _ r _ => hS.trans r.1.no) (fun v16 w42 r16 => ?_)
    obtain ⟨e42, r16⟩ := r16
    obtain ⟨fp16, H43⟩ := H3.res e42 r16
    obtain ⟨a16, k16, q17⟩ := own_slice (H43.mine 2 rfl)
    cases q17
    refine d_end rfl (wn rfl) rfl rfl (py_load tu45 rfl rfl (cell_atL (H43.box 0 rfl) rfl)) (dV rfl rfl (fun zw hx => py_field tu68 rfl ts25 rfl rfl) (d_call rfl (wn rfl) rfl rfl (pc_call Tryz.func151 rfl Tryz_nm151 rfl) (Tryz_clone_b (H43.sees 1 rfl) (by omega)) (fun hS _ _ r _ => hS.trans r.1.no) (fun v17 w43 r17 => ?_)))
    obtain ⟨e43, r17⟩ := r17
    obtain ⟨fp17, H44⟩ := H43.res e43 r17
    obtain ⟨a17, k17, q18⟩ := own_slice (H44.mine 3 rfl)
    cases q18
    refine d_call rfl (wn rfl) rfl rfl (pc_call Tryz.func151 rfl Tryz_nm151 rfl) (Tryz_clone_b (H44.sees 2 rfl) (by omega)) (fun hS _ _ r _ => hS.trans r.1.no) (fun v18 w44 r18 => ?_)
    obtain ⟨e44, r18⟩ := r18
    obtain ⟨fp18, H45⟩ := H44.res e44 r18
    obtain ⟨a18, k18, q19⟩ := own_slice (H45.mine 4 rfl)
    cases q19
    refine d_sto rfl (wn rfl) ts25 rfl rfl rfl H45 0 rfl rfl (fun _ h e _ => h.trans (e.mono fun _ _ q => by simp [q])) (fun w45 e45 H46 => ?_)
    dsimp only [lNA, lCA, lSZ, lSS, layL] at H46
    refine dV rfl rfl (fun zw hx => py_field tu68 rfl ts45 rfl rfl) (d_sto rfl (wn rfl) ts45 rfl rfl rfl H46 0 rfl rfl (fun _ h e _ => h.trans (e.mono fun _ _ q => by simp [q])) (fun w46 e46 H47 => ?_))
    dsimp only [lNA, lCA, lSZ, lSS, layL] at H47
    refine dV rfl rfl (fun zw hx => py_field tu68 rfl ts45 rfl rfl) (d_sto rfl (wn rfl) ts45 rfl rfl rfl H47 0 rfl rfl (fun _ h e _ => h.trans (e.mono fun _ _ q => by simp [q])) (fun w47 e47 H48 => ?_))
    dsimp only [lNA, lCA, lSZ, lSS, layL] at H48
    refine d_nil (W_sr (sV rfl (py_loadS tu68 rfl ts68 rfl rfl (At.whole (H48.box 0 rfl))) (s_stoS (wn rfl) ts68 rfl rfl rfl rfl H48 1 rfl rfl (fun w48 e48 H49 => ?_))))
    dsimp only [lNA, lCA, lSZ, lSS, layL] at H49
    refine s_nil (W_ret (hQ _ _ (finC Tryz.results74 rfl (run_loadVarS tu68 rfl ts68 rfl (At.whole (H49.box 1 rfl))) ?_)))
    exact ⟨H49.ext, _, _, _, _, _, _, rfl, Rec.out (H49.sub (.cons _ (.cons _ (.cons_cons _ (.cons_cons _ (.cons_cons _ List.Sublist.slnil)))))) (by assumption)⟩
   ·refine d_end rfl (wn rfl) rfl rfl (py_load tu45 rfl rfl (cell_atL (H3.box 0 rfl) rfl)) (d_call rfl (wn rfl) rfl rfl (pc_call Tryz.func150 rfl Tryz_nm150 rfl) (Tryz_clone_i (H3.sees 0 rfl) (by omega)) (fun hS _ _ r _ => hS.trans r.1.no) (fun v19 w49 r19 => ?_))
    obtain ⟨e49, r19⟩ := r19
    obtain ⟨fp19, H50⟩ := H3.res e49 r19
    obtain ⟨a19, k19, q20⟩ := own_slice (H50.mine 2 rfl)
    cases q20
    refine dV rfl rfl (fun zw hx => py_field tu68 rfl ts25 rfl rfl) (d_call rfl (wn rfl) rfl rfl (pc_call Tryz.func151 rfl Tryz_nm151 rfl) (Tryz_clone_b (H50.sees 1 rfl) (by omega)) (fun hS _ _ r _ => hS.trans r.1.no) (fun v20 w50 r20 => ?_))
    obtain ⟨e50, r20⟩ := r20
    obtain ⟨fp20, H51⟩ := H50.res e50 r20
    obtain ⟨a20, k20, q21⟩ := own_slice (H51.mine 3 rfl)
    cases q21
    refine d_call rfl (wn rfl) rfl rfl (pc_call Tryz.func151 rfl Tryz_nm151 rfl) (Tryz_clone_b (H51.sees 2 rfl) (by omega)) (fun hS _ _ r _ => hS.trans r.1.no) (fun v21 w51 r21 => ?_)
    obtain ⟨e51, r21⟩ := r21
    obtain ⟨fp21, H52⟩ := H51.res e51 r21
    obtain ⟨a21, k21, q22⟩ := own_slice (H52.mine 4 rfl)
    cases q22
    refine d_sto rfl (wn rfl) ts25 rfl rfl rfl H52 0 rfl rfl (fun _ h e _ => h.trans (e.mono fun _ _ q => by simp [q])) (fun w52 e52 H53 => ?_)
    dsimp only [lNA, lCA, lSZ, lSS, layL] at H53
    refine dV rfl rfl (fun zw hx => py_field tu68 rfl ts45 rfl rfl) (d_sto rfl (wn rfl) ts45 rfl rfl rfl H53 0 rfl rfl (fun _ h e _ => h.trans (e.mono fun _ _ q => by simp [q])) (fun w53 e53 H54 => ?_))
    dsimp only [lNA, lCA, lSZ, lSS, layL] at H54
    refine dV rfl rfl (fun zw hx => py_field tu68 rfl ts45 rfl rfl) (d_sto rfl (wn rfl) ts45 rfl rfl rfl H54 0 rfl rfl (fun _ h e _ => h.trans (e.mono fun _ _ q => by simp [q])) (fun w54 e54 H55 => ?_))
    dsimp only [lNA, lCA, lSZ, lSS, layL] at H55
    refine d_nil (W_sr (sV rfl (py_loadS tu68 rfl ts68 rfl rfl (At.whole (H55.box 0 rfl))) (s_stoS (wn rfl) ts68 rfl rfl rfl rfl H55 1 rfl rfl (fun w55 e55 H56 => ?_))))
    dsimp only [lNA, lCA, lSZ, lSS, layL] at H56
    refine s_nil (W_ret (hQ _ _ (finC Tryz.results74 rfl (run_loadVarS tu68 rfl ts68 rfl (At.whole (H56.box 1 rfl))) ?_)))
    exact ⟨H56.ext, _, _, _, _, _, _, rfl, Rec.out (H56.sub (.cons _ (.cons _ (.cons_cons _ (.cons_cons _ (.cons_cons _ List.Sublist.slnil)))))) (by assumption)⟩
 refine d_fork (l1 := [(4, false), (1032, false), (1, false), (1020, false), (2, false), (1009, false), (5, false), (7, false), (9, true), (8, false), (10, false), (11, true), (12, false), (13, true), (14, false), (7, false), (9, true), (5, false), (8, false), (10, false), (11, true), (12, false), (13, true), (14, false), (7, false), (2, false), (9, true), (5, false), (8, false), (10, false), (11, true), (12, false), (13, true), (14, false), (7, false), (1, false), (2, false), (9, true), (5, false), (8, false), (10, false), (11, true), (12, false), (13, true), (14, false)]) (l2 := [(7, false), (1022, false), (1, false), (1010, false), (2, false), (4, false), (9, true), (5, false), (8, false), (10, false), (11, true), (12, false), (13, true), (14, false), (4, false), (2, false), (9, true), (5, false), (8, false), (10, false), (11, true), (12, false), (13, true), (14, false), (4, false), (1, false), (2, false), (9, true), (5, false), (8, false), (10, false), (11, true), (12, false), (13, true), (14, false)]) rfl rfl rfl rfl ?_ ?_
 ·refine d_end rfl (wn rfl) rfl rfl (py_load tu45 rfl rfl (cell_atL (H3.box 0 rfl) rfl)) (d_fork (l1 := [(1, false), (1020, false), (2, false), (1009, false), (5, false), (7, false), (9, true), (8, false), (10, false), (11, true), (12, false), (13, true), (14, false), (7, false), (9, true), (5, false), (8, false), (10, false), (11, true), (12, false), (13, true), (14, false), (7, false), (2, false), (9, true), (5, false), (8, false), (10, false), (11, true), (12, false), (13, true), (14, false)]) (l2 := [(7, false), (1, false), (2, false), (9, true), (5, false), (8, false), (10, false), (11, true), (12, false), (13, true), (14, false)]) rfl rfl rfl rfl ?_ ?_)
  ·refine d_end rfl (wn rfl) rfl rfl (py_load tu25 rfl rfl (cell_atL (H3.box 0 rfl) rfl)) (d_fork (l1 := [(2, false), (1009, false), (5, false), (7, false), (9, true), (8, false), (10, false), (11, true), (12, false), (13, true), (14, false), (7, false), (9, true), (5, false), (8, false), (10, false), (11, true), (12, false), (13, true), (14, false)]) (l2 := [(7, false), (2, false), (9, true), (5, false), (8, false), (10, false), (11, true), (12, false), (13, true), (14, false)]) rfl rfl rfl rfl ?_ ?_)
   ·refine d_call rfl (wn rfl) rfl rfl (pc_call Tryz.func150 rfl Tryz_nm150 rfl) (Tryz_clone_i (H3.sees 0 rfl) (by omega)) (fun hS _ _ r _ => hS.trans r.1.no) (fun v22 w56 r22 => ?_)
    obtain ⟨e56, r22⟩ := r22
    obtain ⟨fp22, H57⟩ := H3.res e56 r22
    obtain ⟨a22, k22, q23⟩ := own_slice (H57.mine 2 rfl)
    cases q23
    refine d_fork (l1 := [(5, false), (7, false), (9, true), (8, false), (10, false), (11, true), (12, false), (13, true), (14, false)]) (l2 := [(7, false), (9, true), (5, false), (8, false), (10, false), (11, true), (12, false), (13, true), (14, false)]) rfl rfl rfl rfl ?_ ?_
    ·refine d_call rfl (wn rfl) rfl rfl (pc_call Tryz.func151 rfl Tryz_nm151 rfl) (Tryz_clone_b (H57.sees 1 rfl) (by omega)) (fun hS _ _ r _ => hS.trans r.1.no) (fun v23 w57 r23 => ?_)
     obtain ⟨e57, r23⟩ := r23
     obtain ⟨fp23, H58⟩ := H57.res e57 r23
     obtain ⟨a23, k23, q24⟩ := own_slice (H58.mine 3 rfl)
     cases q24
     refine d_end rfl (wn rfl) rfl rfl (py_load tu45 rfl rfl (cell_atL (H58.box 0 rfl) rfl)) (dV rfl rfl (fun zw hx => py_field tu68 rfl ts25 rfl rfl) (d_call rfl (wn rfl) rfl rfl (pc_call Tryz.func151 rfl Tryz_nm151 rfl) (Tryz_clone_b (H58.sees 2 rfl) (by omega)) (fun hS _ _ r _ => hS.trans r.1.no) (fun v24 w58 r24 => ?_)))
     obtain ⟨e58, r24⟩ := r24
     obtain ⟨fp24, H59⟩ := H58.res e58 r24
     obtain ⟨a24, k24, q25⟩ := own_slice (H59.mine 4 rfl)
     cases q25
     refine d_sto rfl (wn rfl) ts25 rfl rfl rfl H59 0 rfl rfl (fun _ h e _ => h.trans (e.mono fun _ _ q => by simp [q])) (fun w59 e59 H60 => ?_)
     dsimp only [lNA, lCA, lSZ, lSS, layL] at H60
     refine dV rfl rfl (fun zw hx => py_field tu68 rfl ts45 rfl rfl) (d_sto rfl (wn rfl) ts45 rfl rfl rfl H60 0 rfl rfl (fun _ h e _ => h.trans (e.mono fun _ _ q => by simp [q])) (fun w60 e60 H61 => ?_))
     dsimp only [lNA, lCA, lSZ, lSS, layL] at H61
     refine dV rfl rfl (fun zw hx => py_field tu68 rfl ts45 rfl rfl) (d_sto rfl (wn rfl) ts45 rfl rfl rfl H61 0 rfl rfl (fun _ h e _ => h.trans (e.mono fun _ _ q => by simp [q])) (fun w61 e61 H62 => ?_))
     dsimp only [lNA, lCA, lSZ, lSS, layL] at H62
     refine d_nil (W_sr (sV rfl (py_loadS tu68 rfl ts68 rfl rfl (At.whole (H62.box 0 rfl))) (s_stoS (wn rfl) ts68 rfl rfl rfl rfl H62 1 rfl rfl (fun w62 e62 H63 => ?_))))
     dsimp only [lNA, lCA, lSZ, lSS, layL] at H63
     refine s_nil (W_ret (hQ _ _ (finC Tryz.results74 rfl (run_loadVarS tu68 rfl ts68 rfl (At.whole (H63.box 1 rfl))) ?_)))
     exact ⟨H63.ext, _, _, _, _, _, _, rfl, Rec.out (H63.sub (.cons _ (.cons _ (.cons_cons _ (.cons_cons _ (.cons_cons _ List.Sublist.slnil)))))) (by assumption)⟩
    ·refine d_end rfl (wn rfl) rfl rfl (py_load tu45 rfl rfl (cell_atL (H57.box 0 rfl) rfl)) (dV rfl rfl (fun zw hx => py_field tu68 rfl ts25 rfl rfl) (d_call rfl (wn rfl) rfl rfl (pc_call Tryz.func151 rfl Tryz_nm151 rfl) (Tryz_clone_b (H57.sees 1 rfl) (by omega)) (fun hS _ _ r _ => hS.trans r.1.no) (fun v25 w63 r25 => ?_)))
     obtain ⟨e63, r25⟩ := r25
     obtain ⟨fp25, H64⟩ := H57.res e63 r25
     obtain ⟨a25, k25, q26⟩ := own_slice (H64.mine 3 rfl)
     cases q26
     refine d_call rfl (wn rfl) rfl rfl (pc_call Tryz.func151 rfl Tryz_nm151 rfl) (Tryz_clone_b (H64.sees 2 rfl) (by omega)) (fun hS _ _ r _ => hS.trans r.1.no) (fun v26 w64 r26 => ?_)
     obtain ⟨e64, r26⟩ := r26
     obtain ⟨fp26, H65⟩ := H64.res e64 r26
     obtain ⟨a26, k26, q27⟩ := own_slice (H65.mine 4 rfl)
     cases q27
     refine d_sto rfl (wn rfl) ts25 rfl rfl rfl H65 0 rfl rfl (fun _ h e _ => h.trans (e.mono fun _ _ q => by simp [q])) (fun w65 e65 H66 => ?_)
     dsimp only [lNA, lCA, lSZ, lSS, layL] at H66
     refine dV rfl rfl (fun zw hx => py_field tu68 rfl ts45 rfl rfl) (d_sto rfl (wn rfl) ts45 rfl rfl rfl H66 0 rfl rfl (fun _ h e _ => h.trans (e.mono fun _ _ q => by simp [q])) (fun w66 e66 H67 => ?_))
     dsimp only [lNA, lCA, lSZ, lSS, layL] at H67
     refine dV rfl rfl (fun zw hx => py_field tu68 rfl ts45 rfl rfl) (d_sto rfl (wn rfl) ts45 rfl rfl rfl H67 0 rfl rfl (fun _ h e _ => h.trans (e.mono fun _ _ q => by simp [q])) (fun w67 e67 H68 => ?_))
     dsimp only [lNA, lCA, lSZ, lSS, layL] at H68
     refine d_nil (W_sr (sV rfl (py_loadS tu68 rfl ts68 rfl rfl (At.whole (H68.box 0 rfl))) (s_stoS (wn rfl) ts68 rfl rfl rfl rfl H68 1 rfl rfl (fun w68 e68 H69 => ?_))))
     dsimp only [lNA, lCA, lSZ, lSS, layL] at H69
     refine s_nil (W_ret (hQ _ _ (finC Tryz.results74 rfl (run_loadVarS tu68 rfl ts68 rfl (At.whole (H69.box 1 rfl))) ?_)))
     exact ⟨H69.ext, _, _, _, _, _, _, rfl, Rec.out (H69.sub (.cons _ (.cons _ (.cons_cons _ (.cons_cons _ (.cons_cons _ List.Sublist.slnil)))))) (by assumption)⟩
   ·refine d_end rfl (wn rfl) rfl rfl (py_load tu45 rfl rfl (cell_atL (H3.box 0 rfl) rfl)) (d_call rfl (wn rfl) rfl rfl (pc_call Tryz.func150 rfl Tryz_nm150 rfl) (Tryz_clone_i (H3.sees 0 rfl) (by omega)) (fun hS _ _ r _ => hS.trans r.1.no) (fun v27 w69 r27 => ?_))
    obtain ⟨e69, r27⟩ := r27
    obtain ⟨fp27, H70⟩ := H3.res e69 r27
    obtain ⟨a27, k27, q28⟩ := own_slice (H70.mine 2 rfl)
    cases q28
    refine dV rfl rfl (fun zw hx => py_field tu68 rfl ts25 rfl rfl) (d_call rfl (wn rfl) rfl rfl (pc_call Tryz.func151 rfl Tryz_nm151 rfl) (Tryz_clone_b (H70.sees 1 rfl) (by omega)) (fun hS _ _ r _ => hS.trans r.1.no) (fun v28 w70 r28 => ?_))
    obtain ⟨e70, r28⟩ := r28
    obtain ⟨fp28, H71⟩ := H70.res e70 r28
    obtain ⟨a28, k28, q29⟩ := own_slice (H71.mine 3 rfl)
    cases q29
    refine d_call rfl (wn rfl) rfl rfl (pc_call Tryz.func151 rfl Tryz_nm151 rfl) (Tryz_clone_b (H71.sees 2 rfl) (by omega)) (fun hS _ _ r _ => hS.trans r.1.no) (fun v29 w71 r29 => ?_)
    obtain ⟨e71, r29⟩ := r29
    obtain ⟨fp29, H72⟩ := H71.res e71 r29
    obtain ⟨a29, k29, q30⟩ := own_slice (H72.mine 4 rfl)
    cases q30
    refine d_sto rfl (wn rfl) ts25 rfl rfl rfl H72 0 rfl rfl (fun _ h e _ => h.trans (e.mono fun _ _ q => by simp [q])) (fun w72 e72 H73 => ?_)
    dsimp only [lNA, lCA, lSZ, lSS, layL] at H73
    refine dV rfl rfl (fun zw hx => py_field tu68 rfl ts45 rfl rfl) (d_sto rfl (wn rfl) ts45 rfl rfl rfl H73 0 rfl rfl (fun _ h e _ => h.trans (e.mono fun _ _ q => by simp [q])) (fun w73 e73 H74 => ?_))
    dsimp only [lNA, lCA, lSZ, lSS, layL] at H74
    refine dV rfl rfl (fun zw hx => py_field tu68 rfl ts45 rfl rfl) (d_sto rfl (wn rfl) ts45 rfl rfl rfl H74 0 rfl rfl (fun _ h e _ => h.trans (e.mono fun _ _ q => by simp [q])) (fun w74 e74 H75 => ?_))
    dsimp only [lNA, lCA, lSZ, lSS, layL] at H75
    refine d_nil (W_sr (sV rfl (py_loadS tu68 rfl ts68 rfl rfl (At.whole (H75.box 0 rfl))) (s_stoS (wn rfl) ts68 rfl rfl rfl rfl H75 1 rfl rfl (fun w75 e75 H76 => ?_))))
    dsimp only [lNA, lCA, lSZ, lSS, layL] at H76
    refine s_nil (W_ret (hQ _ _ (finC Tryz.results74 rfl (run_loadVarS tu68 rfl ts68 rfl (At.whole (H76.box 1 rfl))) ?_)))
    exact ⟨H76.ext, _, _, _, _, _, _, rfl, Rec.out (H76.sub (.cons _ (.cons _ (.cons_cons _ (.cons_cons _ (.cons_cons _ List.Sublist.slnil)))))) (by assumption)⟩
  ·refine d_end rfl (wn rfl) rfl rfl (py_load tu45 rfl rfl (cell_atL (H3.box 0 rfl) rfl)) (d_end rfl (wn rfl) rfl rfl (py_load tu25 rfl rfl (cell_atL (H3.box 0 rfl) rfl)) (d_call rfl (wn rfl) rfl rfl (pc_call Tryz.func150 rfl Tryz_nm150 rfl) (Tryz_clone_i (H3.sees 0 rfl) (by omega)) (fun hS _ _ r _ => hS.trans r.1.no) (fun v30 w76 r30 => ?_)))
   obtain ⟨e76, r30⟩ := r30
   obtain ⟨fp30, H77⟩ := H3.res e76 r30
   obtain ⟨a30, k30, q31⟩ := own_slice (H77.mine 2 rfl)
   cases q31
   refine dV rfl rfl (fun zw hx => py_field tu68 rfl ts25 rfl rfl) (d_call rfl (wn rfl) rfl rfl (pc_call Tryz.func151 rfl Tryz_nm151 rfl) (Tryz_clone_b (H77.sees 1 rfl) (by omega)) (fun hS _ _ r _ => hS.trans r.1.no) (fun v31 w77 r31 => ?_))
   obtain ⟨e77, r31⟩ := r31
   obtain ⟨fp31, H78⟩ := H77.res e77 r31
   obtain ⟨a31, k31, q32⟩ := own_slice (H78.mine 3 rfl)
   cases q32
   refine d_call rfl (wn rfl) rfl rfl (pc_call Tryz.func151 rfl Tryz_nm151 rfl) (Tryz_clone_b (H78.sees 2 rfl) (by omega)) (fun hS _ _ r _ => hS.trans r.1.no) (fun v32 w78 r32 => ?_)
   obtain ⟨e78, r32⟩ := r32
   obtain ⟨fp32, H79⟩ := H78.res e78 r32
   obtain ⟨a32, k32, q33⟩ := own_slice (H79.mine 4 rfl)
   cases q33
   refine d_sto rfl (wn rfl) ts25 rfl rfl rfl H79 0 rfl rfl (fun _ h e _ => h.trans (e.mono fun _ _ q => by simp [q])) (fun w79 e79 H80 => ?_)
   dsimp only [lNA, lCA, lSZ, lSS, layL] at H80
   refine dV rfl rfl (fun zw hx => py_field tu68 rfl ts45 rfl rfl) (d_sto rfl (wn rfl) ts45 rfl rfl rfl H80 0 rfl rfl (fun _ h e _ => h.trans (e.mono fun _ _ q => by simp [q])) (fun w80 e80 H81 => ?_))
   dsimp only [lNA, lCA, lSZ, lSS, layL] at H81
   refine dV rfl rfl (fun zw hx => py_field tu68 rfl ts45 rfl rfl) (d_sto rfl (wn rfl) ts45 rfl rfl rfl H81 0 rfl rfl (fun _ h e _ => h.trans (e.mono fun _ _ q => by simp [q])) (fun w81 e81 H82 => ?_))
   dsimp only [lNA, lCA, lSZ, lSS, layL] at H82
   refine d_nil (W_sr (sV rfl (py_loadS tu68 rfl ts68 rfl rfl (At.whole (H82.box 0 rfl))) (s_stoS (wn rfl) ts68 rfl rfl rfl rfl H82 1 rfl rfl (fun w82 e82 H83 => ?_))))
   dsimp only [lNA, lCA, lSZ, lSS, layL] at H83
   refine s_nil (W_ret (hQ _ _ (finC Tryz.results74 rfl (run_loadVarS tu68 rfl ts68 rfl (At.whole (H83.box 1 rfl))) ?_)))
   exact ⟨H83.ext, _, _, _, _, _, _, rfl, Rec.out (H83.sub (.cons _ (.cons _ (.cons_cons _ (.cons_cons _ (.cons_cons _ List.Sublist.slnil)))))) (by assumption)⟩
 ·refine d_end rfl (wn rfl) rfl rfl (py_load tu45 rfl rfl (cell_atL (H3.box 0 rfl) rfl)) (d_fork (l1 := [(1, false), (1010, false), (2, false), (4, false), (9, true), (5, false), (8, false), (10, false), (11, true), (12, false), (13, true), (14, false), (4, false), (2, false), (9, true), (5, false), (8, false), (10, false), (11, true), (12, false), (13, true), (14, false)]) (l2 := [(4, false), (1, false), (2, false), (9, true), (5, false), (8, false), (10, false), (11, true), (12, false), (13, true), (14, false)]) rfl rfl rfl rfl ?_ ?_)
  ·refine d_end rfl (wn rfl) rfl rfl (py_load tu25 rfl rfl (cell_atL (H3.box 0 rfl) rfl)) (d_fork (l1 := [(2, false), (4, false), (9, true), (5, false), (8, false), (10, false), (11, true), (12, false), (13, true), (14, false)]) (l2 := [(4, false), (2, false), (9, true), (5, false), (8, false), (10, false), (11, true), (12, false), (13, true), (14, false)]) rfl rfl rfl rfl ?_ ?_)
   ·refine d_call rfl (wn rfl) rfl rfl (pc_call Tryz.func150 rfl Tryz_nm150 rfl) (Tryz_clone_i (H3.sees 0 rfl) (by omega)) (fun hS _ _ r _ => hS.trans r.1.no) (fun v33 w83 r33 => ?_)
    obtain ⟨e83, r33⟩ := r33
    obtain ⟨fp33, H84⟩ := H3.res e83 r33
    obtain ⟨a33, k33, q34⟩ := own_slice (H84.mine 2 rfl)
    cases q34
    refine d_end rfl (wn rfl) rfl rfl (py_load tu45 rfl rfl (cell_atL (H84.box 0 rfl) rfl)) (dV rfl rfl (fun zw hx => py_field tu68 rfl ts25 rfl rfl) (d_call rfl (wn rfl) rfl rfl (pc_call Tryz.func151 rfl Tryz_nm151 rfl) (Tryz_clone_b (H84.sees 1 rfl) (by omega)) (fun hS _ _ r _ => hS.trans r.1.no) (fun v34 w84 r34 => ?_)))
    obtain ⟨e84, r34⟩ := r34
    obtain ⟨fp34, H85⟩ := H84.res e84 r34
    obtain ⟨a34, k34, q35⟩ := own_slice (H85.mine 3 rfl)
    cases q35
    refine d_call rfl (wn rfl) rfl rfl (pc_call Tryz.func151 rfl Tryz_nm151 rfl) (Tryz_clone_b (H85.sees 2 rfl) (by omega)) (fun hS _ _ r _ => hS.trans r.1.no) (fun v35 w85 r35 => ?_)
    obtain ⟨e85, r35⟩ := r35
    obtain ⟨fp35, H86⟩ := H85.res e85 r35
    obtain ⟨a35, k35, q36⟩ := own_slice (H86.mine 4 rfl)
    cases q36
    refine d_sto rfl (wn rfl) ts25 rfl rfl rfl H86 0 rfl rfl (fun _ h e _ => h.trans (e.mono fun _ _ q => by simp [q])) (fun w86 e86 H87 => ?_)
    dsimp only [lNA, lCA, lSZ, lSS, layL] at H87
    refine dV rfl rfl (fun zw hx => py_field tu68 rfl ts45 rfl rfl) (d_sto rfl (wn rfl) ts45 rfl rfl rfl H87 0 rfl rfl (fun _ h e _ => h.trans (e.mono fun _ _ q => by simp [q])) (fun w87 e87 H88 => ?_))
    dsimp only [lNA, lCA, lSZ, lSS, layL] at H88
    refine dV rfl rfl (fun zw hx => py_field tu68 rfl ts45 rfl rfl) (d_sto rfl (wn rfl) ts45 rfl rfl rfl H88 0 rfl rfl (fun _ h e _ => h.trans (e.mono fun _ _ q => by simp [q])) (fun w88 e88 H89 => ?_))
    dsimp only [lNA, lCA, lSZ, lSS, layL] at H89
    refine d_nil (W_sr (sV rfl (py_loadS tu68 rfl ts68 rfl rfl (At.whole (H89.box 0 rfl))) (s_stoS (wn rfl) ts68 rfl rfl rfl rfl H89 1 rfl rfl (fun w89 e89 H90 => ?_))))
    dsimp only [lNA, lCA, lSZ, lSS, layL] at H90
    refine s_nil (W_ret (hQ _ _ (finC Tryz.results74 rfl (run_loadVarS tu68 rfl ts68 rfl (At.whole (H90.box 1 rfl))) ?_)))
    exact ⟨H90.ext, _, _, _, _, _, _, rfl, Rec.out (H90.sub (.cons _ (.cons _ (.cons_cons _ (.cons_cons _ (.cons_cons _ List.Sublist.slnil)))))) (by assumption)⟩
   ·refine d_end rfl (wn rfl) rfl rfl (py_load tu45 rfl rfl (cell_atL (H3.box 0 rfl) rfl)) (d_call rfl (wn rfl) rfl rfl (pc_call Tryz.func150 rfl Tryz_nm150 rfl) (Tryz_clone_i (H3.sees 0 rfl) (by omega)) (fun hS _ _ r _ => hS.trans r.1.no) (fun v36 w90 r36 => ?_))
    obtain ⟨e90, r36⟩ := r36
    obtain ⟨fp36, H91⟩ := H3.res e90 r36
    obtain ⟨a36, k36, q37⟩ := own_slice (H91.mine 2 rfl)
    cases q37
    refine dV rfl rfl (fun zw hx => py_field tu68 rfl ts25 rfl rfl) (d_call rfl (wn rfl) rfl rfl (pc_call Tryz.func151 rfl Tryz_nm151 rfl) (Tryz_clone_b (H91.sees 1 rfl) (by omega)) (fun hS _ _ r _ => hS.trans r.1.no) (fun v37 w91 r37 => ?_))
    obtain ⟨e91, r37⟩ := r37
    obtain ⟨fp37, H92⟩ := H91.res e91 r37
    obtain ⟨a37, k37, q38⟩ := own_slice (H92.mine 3 rfl)
    cases q38
    refine d_call rfl (wn rfl) rfl rfl (pc_call Tryz.func151 rfl Tryz_nm151 rfl) (Tryz_clone_b (H92.sees 2 rfl) (by omega)) (fun hS _ _ r _ => hS.trans r.1.no) (fun v38 w92 r38 => ?_)
    obtain ⟨e92, r38⟩ := r38
    obtain ⟨fp38, H93⟩ := H92.res e92 r38
    obtain ⟨a38, k38, q39⟩ := own_slice (H93.mine 4 rfl)
    cases q39
    refine d_sto rfl (wn rfl) ts25 rfl rfl rfl H93 0 rfl rfl (fun _ h e _ => h.trans (e.mono fun _ _ q => by simp [q])) (fun w93 e93 H94 => ?_)
    dsimp only [lNA, lCA, lSZ, lSS, layL] at H94
    refine dV rfl rfl (fun zw hx => py_field tu68 rfl ts45 rfl rfl) (d_sto rfl (wn rfl) ts45 rfl rfl rfl H94 0 rfl rfl (fun _ h e _ => h.trans (e.mono fun _ _ q => by simp [q])) (fun w94 e94 H95 => ?_))
    dsimp only [lNA, lCA, lSZ, lSS, layL] at H95
    refine dV rfl rfl (fun zw hx => py_field tu68 rfl ts45 rfl rfl) (d_sto rfl (wn rfl) ts45 rfl rfl rfl H95 0 rfl rfl (fun _ h e _ => h.trans (e.mono fun _ _ q => by simp [q])) (fun w95 e95 H96 => ?_))
    dsimp only [lNA, lCA, lSZ, lSS, layL] at H96
    refine d_nil (W_sr (sV rfl (py_loadS tu68 rfl ts68 rfl rfl (At.whole (H96.box 0 rfl))) (s_stoS (wn rfl) ts68 rfl rfl rfl rfl H96 1 rfl rfl (fun w96 e96 H97 => ?_))))
    dsimp only [lNA, lCA, lSZ, lSS, layL] at H97
    refine s_nil (W_ret (hQ _ _ (finC Tryz.results74 rfl (run_loadVarS tu68 rfl ts68 rfl (At.whole (H97.box 1 rfl))) ?_)))
    exact ⟨H97.ext, _, _, _, _, _, _, rfl, Rec.out (H97.sub (.cons _ (.cons _ (.cons_cons _ (.cons_cons _ (.cons_cons _ List.Sublist.slnil)))))) (by assumption)⟩
  ·refine d_end rfl (wn rfl) rfl rfl (py_load tu45 rfl rfl (cell_atL (H3.box 0 rfl) rfl)) (d_end rfl (wn rfl) rfl rfl (py_load tu25 rfl rfl (cell_atL (H3.box 0 rfl) rfl)) (d_call rfl (wn rfl) rfl rfl (pc_call Tryz.func150 rfl Tryz_nm150 rfl) (Tryz_clone_i (H3.sees 0 rfl) (by omega)) (fun hS _ _ r _ => hS.trans r.1.no) (fun v39 w97 r39 => ?_)))
   obtain ⟨e97, r39⟩ := r39
   obtain ⟨fp39, H98⟩ := H3.res e97 r39
   obtain ⟨a39, k39, q40⟩ := own_slice (H98.mine 2 rfl)
   cases q40
   refine dV rfl rfl (fun zw hx => py_field tu68 rfl ts25 rfl rfl) (d_call rfl (wn rfl) rfl rfl (pc_call Tryz.func151 rfl Tryz_nm151 rfl) (Tryz_clone_b (H98.sees 1 rfl) (by omega)) (fun hS _ _ r _ => hS.trans r.1.no) (fun v40 w98 r40 => ?_))
   obtain ⟨e98, r40⟩ := r40
   obtain ⟨fp40, H99⟩ := H98.res e98 r40
   obtain ⟨a40, k40, q41⟩ := own_slice (H99.mine 3 rfl)
   cases q41
   refine d_call rfl (wn rfl) rfl rfl (pc_call Tryz.func151 rfl Tryz_nm151 rfl) (Tryz_clone_b (H99.sees 2 rfl) (by omega)) (fun hS _ _ r _ => hS.trans r.1.no) (fun v41 w99 r41 => ?_)
   obtain ⟨e99, r41⟩ := r41
   obtain ⟨fp41, H100⟩ := H99.res e99 r41
   obtain ⟨a41, k41, q42⟩ := own_slice (H100.mine 4 rfl)
   cases q42
   refine d_sto rfl (wn rfl) ts25 rfl rfl rfl H100 0 rfl rfl (fun _ h e _ => h.trans (e.mono fun _ _ q => by simp [q])) (fun w100 e100 H101 => ?_)
   dsimp only [lNA, lCA, lSZ, lSS, layL] at H101
   refine dV rfl rfl (fun zw hx => py_field tu68 rfl ts45 rfl rfl) (d_sto rfl (wn rfl) ts45 rfl rfl rfl H101 0 rfl rfl (fun _ h e _ => h.trans (e.mono fun _ _ q => by simp [q])) (fun w101 e101 H102 => ?_))
   dsimp only [lNA, lCA, lSZ, lSS, layL] at H102
   refine dV rfl rfl (fun zw hx => py_field tu68 rfl ts45 rfl rfl) (d_sto rfl (wn rfl) ts45 rfl rfl rfl H102 0 rfl rfl (fun _ h e _ => h.trans (e.mono fun _ _ q => by simp [q])) (fun w102 e102 H103 => ?_))
   dsimp only [lNA, lCA, lSZ, lSS, layL] at H103
   refine d_nil (W_sr (sV rfl (py_loadS tu68 rfl ts68 rfl rfl (At.whole (H103.box 0 rfl))) (s_stoS (wn rfl) ts68 rfl rfl rfl rfl H103 1 rfl rfl (fun w103 e103 H104 => ?_))))
   dsimp only [lNA, lCA, lSZ, lSS, layL] at H104
   refine s_nil (W_ret (hQ _ _ (finC Tryz.results74 rfl (run_loadVarS tu68 rfl ts68 rfl (At.whole (H104.box 1 rfl))) ?_)))
   exact ⟨H104.ext, _, _, _, _, _, _, rfl, Rec.out (H104.sub (.cons _ (.cons _ (.cons_cons _ (.cons_cons _ (.cons_cons _ List.Sublist.slnil)))))) (by assumption)⟩
theorem Tryz_spec_l5CopyRec {w : World} {r : Rec} {rA6 rA7 rA8 : Option Addr} {rC6 rC7 rC8 : Nat} (rK : r.Ok) (rS6 : Sees w [.slice rA6 r.Rows.length rC6] r.Rows) (rS7 : Sees w [.slice rA7 r.Data.length rC7] r.Data) (rS8 : Sees w [.slice rA8 r.Delta.length rC8] r.Delta) (hb : szRec r ≤ 1048576) : Ret Tryz.prog 65 #[r.val rA6 rC6 rA7 rC7 rA8 rC8] w fun v w' => Ext No w w' ∧ (∃ A6 C6 A7 C7 A8 C8, v = r.val A6 C6 A7 C7 A8 C8 ∧ Res w w' [.int .i64 r.Kind, .int .i64 r.Seq, .string r.Name, .int .i64 r.Length, .int .i64 r.Group, .int .i64 r.Row, .slice A6 r.Rows.length C6, .slice A7 r.Data.length C7, .slice A8 r.Delta.length C8] r) := by
 have rK2 := rK
 unfold Rec.Ok at rK2
 try unfold I64ok at rK2
 try unfold maxLen at rK2
 have rN2 : r.Name.size ≤ maxLen := by unfold maxLen; omega
 have rL6 := sL rS6
 obtain ⟨rF6, rO6⟩ := rS6
 have rL7 := sL rS7
 obtain ⟨rF7, rO7⟩ := rS7
 have rL8 := sL rS8
 obtain ⟨rF8, rO8⟩ := rS8
 unfold szRec at hb
 refine ret_Q (vs := [r.val rA6 rC6 rA7 rC7 rA8 rC8]) Tryz.func65 rfl Tryz.ntmps65 rfl (fun Q hQ hN => ?_)
 have H0 := Sep.start (w := w) (F := [seen false [.slice rA6 r.Rows.length rC6] r.Rows rF6, seen false [.slice rA7 r.Data.length rC7] r.Data rF7, seen false [.slice rA8 r.Delta.length rC8] r.Delta rF8]) (all_cons rO6 (all_cons rO7 (all_cons rO8 (by simp))))
 refine W_sr (s_box (wn rfl) rfl rfl H0 (fun b1 w1 e1 g1 H1 => ?_))
 refine s_var (wn rfl) rfl Tryz.zeroValue68 H1 (fun b2 w2 e2 g2 H2 => ?_)
 refine s_nil (W_sr (s_lit0 (α := Int) (wn rfl) rfl tu25 Tryz_ty2 H2 (fun b3 w3 e3 g3 H3 => ?_)))
 refine sV rfl (py_field tu68 rfl ts25 rfl rfl) (sV rfl (py_load tu25 rfl rfl (cell_atL (H3.box 0 rfl) rfl)) (s_appF (wn rfl) rfl tu25 Tryz_ty2 rfl rfl rfl H3 2 rfl (H3.seen 0 rfl) (by (try simp only [List.length_nil]); unfold maxLen; omega) (by (try simp only [List.length_nil]); omega) (fun v1 w4 fp1 H4 => ?_)))
 refine sV rfl (py_field tu68 rfl ts25 rfl rfl) ?_
 obtain ⟨a1, k1, q1⟩ := own_slice (H4.mine 2 rfl)
 cases q1
 refine s_sto (wn rfl) ts25 rfl rfl rfl H4 0 rfl rfl (fun w5 e4 H5 => ?_)
 dsimp only [lNA, lCA, lSZ, lSS, layL] at H5
 refine s_nil (W_sr (s_lit0 (α := UInt8) (wn rfl) rfl tu45 Tryz_ty5 H5 (fun b4 w6 e5 g4 H6 => ?_)))
 refine sV rfl (py_field tu68 rfl ts45 rfl rfl) (sV rfl (py_load tu45 rfl rfl (cell_atL (H6.box 0 rfl) rfl)) (s_appF (wn rfl) rfl tu45 Tryz_ty5 rfl rfl rfl H6 3 rfl (H6.seen 1 rfl) (by (try simp only [List.length_nil]); unfold maxLen; omega) (by (try simp only [List.length_nil]); omega) (fun v2 w7 fp2 H7 => ?_)))
 refine sV rfl (py_field tu68 rfl ts45 rfl rfl) ?_
 obtain ⟨a2, k2, q2⟩ := own_slice (H7.mine 3 rfl)
 cases q2
 refine s_sto (wn rfl) ts45 rfl rfl rfl H7 0 rfl rfl (fun w8 e6 H8 => ?_)
 dsimp only [lNA, lCA, lSZ, lSS, layL] at H8
 refine s_nil (W_sr (s_lit0 (α := UInt8) (wn rfl) rfl tu45 Tryz_ty5 H8 (fun b5 w9 e7 g5 H9 => ?_)))
 refine sV rfl (py_field tu68 rfl ts45 rfl rfl) (sV rfl (py_load tu45 rfl rfl (cell_atL (H9.box 0 rfl) rfl)) (s_appF (wn rfl) rfl tu45 Tryz_ty5 rfl rfl rfl H9 4 rfl (H9.seen 2 rfl) (by (try simp only [List.length_nil]); unfold maxLen; omega) (by (try simp only [List.length_nil]); omega) (fun v3 w10 fp3 H10 => ?_)))
 refine sV rfl (py_field tu68 rfl ts45 rfl rfl) ?_
 obtain ⟨a3, k3, q3⟩ := own_slice (H10.mine 4 rfl)
 cases q3
 refine s_sto (wn rfl) ts45 rfl rfl rfl H10 0 rfl rfl (fun w11 e8 H11 => ?_)
 dsimp only [lNA, lCA, lSZ, lSS, layL] at H11
 refine s_nil (W_sr (sV rfl (py_loadS tu68 rfl ts68 rfl rfl (At.whole (H11.box 0 rfl))) (s_stoS (wn rfl) ts68 rfl rfl rfl rfl H11 1 rfl rfl (fun w12 e9 H12 => ?_))))
 dsimp only [lNA, lCA, lSZ, lSS, layL] at H12
 refine s_nil (W_ret (hQ _ _ (finC Tryz.results65 rfl (run_loadVarS tu68 rfl ts68 rfl (At.whole (H12.box 1 rfl))) ?_)))
 exact ⟨H12.ext, _, _, _, _, _, _, rfl, Rec.out (H12.sub (.cons _ (.cons _ (.cons_cons _ (.cons_cons _ (.cons_cons _ List.Sublist.slnil)))))) (by assumption)⟩
theorem Tryz_impl_cloneRecs {w : World} {xs : List Rec} {xsA : Option Addr} {xsC : Nat} (xsS : Sees w [.slice xsA xs.length xsC] xs) (hl : szL szRec xs ≤ 1048576) : Ret Tryz.prog 108 #[.slice xsA xs.length xsC] w fun v w' => Ext No w w' ∧ (Res w w' [v] xs) := by
 have xsL := sL xsS
 obtain ⟨xsF, xsO⟩ := xsS
 have hl0 : xs.length ≤ 1048576 := by unfold szL at hl; omega
 refine ret_Q (vs := [.slice xsA xs.length xsC]) Tryz.func108 rfl Tryz.ntmps108 rfl (fun Q hQ hN => ?_)
 have H0 := Sep.start (w := w) (F := [seen false [.slice xsA xs.length xsC] xs xsF]) (all_cons xsO (by simp))
 refine W_sr (sA rfl rfl (s_nil (W_sr (s_lit0 (α := Rec) (wn rfl) rfl tu30 Tryz_ty68 H0 (fun b1 w1 e1 g1 H1 => ?_)))))
 refine sA rfl rfl (s_nil (W_seq (W_sr (sM rfl rfl (sV rfl (py_len tu30 rfl) (sM rfl rfl (s_nil (W_block (W_loopA (α := Rec) (γ := Nat) (fun k => xs.take k) 0 H1 0 rfl 3 rfl [(2, _), (7, _), (8, _)] ⟨rfl, rfl, rfl, trivial⟩ (fun k => [(9, .int .i64 k)]) (fun k => k ≤ xs.length ∧ True) (fun k => xs.length - k) ⟨rfl, trivial⟩ ⟨by omega, trivial⟩ (fun k vA1 fA1 w2 H2 ⟨hk, _⟩ => ?_))))))))))
 dsimp only [lCA, lNA, lSZ, lSS] at H2 ⊢
 refine W_sr (sV rfl (py_lss rfl rfl) (s_nil (W_seq (W_ifd rfl (fun c1 => ?_) (fun c1 => ?_)))))
 ·refine W_skip (W_seq (W_block (W_seq ?_)))
  obtain ⟨hg, hg2⟩ := szL_get hl k (by omega)
  have tl := List.length_take (i := k) (l := xs)
  obtain ⟨eb1, eo1, es1, ef1, ee1, ec1, eO1, eH1, em1⟩ := elem_st (H2.seen 0 rfl) k (by omega)
  obtain ⟨ea1, ek1, ea2, ek2, ea3, ek3, eg1, eg2, eg3, rfl, eq1, eK1, eo2, eo3, eo4⟩ := own_Rec eO1
  have eK1U := eK1
  unfold Rec.Ok at eK1U
  try unfold I64ok at eK1U
  try unfold maxLen at eK1U
  have eP1 := H2.look1 0 rfl eo2 (fun b hb => eH1 b (by rw [eq1]; simp [hb]))
  have eL1 := oL eo2
  have eP2 := eP1.look1 0 rfl eo3 (fun b hb => eH1 b (by rw [eq1]; simp [hb]))
  have eL2 := oL eo3
  have eP3 := eP2.look1 0 rfl eo4 (fun b hb => eH1 b (by rw [eq1]; simp [hb]))
  have eL3 := oL eo4
  refine W_reg (sV rfl (py_elz tu30 ts68 rfl rfl ee1 k (by omega) (by omega)) (sV rfl (py_loadS tu68 rfl ts68 rfl rfl ec1) (s_var (wn rfl) rfl Tryz.zeroValue68 eP3 (fun b2 w3 e2 g2 H3 => ?_))))
  refine s_stoS (wn rfl) ts68 rfl rfl rfl rfl H3 1 rfl rfl (fun w4 e3 H4 => ?_)
  dsimp only [lNA, lCA, lSZ, lSS, layL] at H4
  refine s_nil (W_reg (sM rfl rfl (sV rfl (py_loadS tu68 rfl ts68 rfl rfl (At.whole (H4.box 1 rfl))) (s_call (wn rfl) rfl rfl (pc_call Tryz.func74 rfl Tryz_nm74 rfl) (Tryz_impl_cloneRec (by assumption) (H4.sees 1 rfl) (H4.sees 2 rfl) (H4.sees 3 rfl) (by first | assumption | omega)) (fun v1 w5 r1 => ?_)))))
  obtain ⟨e4, sa1, sk1, sa2, sk2, sa3, sk3, rfl, r1⟩ := r1
  obtain ⟨fp1, H5⟩ := H4.res e4 r1
  refine s_lit1 (wn rfl) rfl tu30 Tryz_ty68 rfl rfl rfl rfl H5 (fun b3 w6 e5 g3 H6 => ?_)
  refine s_app2 (wn rfl) rfl tu30 Tryz_ty68 rfl rfl rfl H6 0 3 2 rfl rfl rfl rfl (by unfold maxLen; omega) (by omega) (fun v2 w7 fp2 H7 => ?_)
  refine sA rfl rfl (s_nil (W_reg (sV rfl (py_add rfl rfl (in64 ⟨by omega, by omega⟩)) (sM rfl rfl (s_nil ?_)))))
  exact ⟨(k + 1, _, _), ⟨rfl, rfl, rfl, rfl, rfl, trivial⟩, ⟨by dsimp only; rw [← take_step (xs := xs) (d := default) (by omega)]; exact ((H7.ftake 1).dtake 1), by omega, trivial⟩, by dsimp only; omega⟩
 ·refine W_exit (W_seq ?_)
  obtain rfl : k = xs.length := by omega
  rw [List.take_length] at H2
  refine W_reg (sM rfl rfl (sA rfl rfl (s_nil (rT hQ Tryz.results108 rfl ?_))))
  exact ⟨H2.ext, H2.out 0 rfl⟩
theorem Tryz_spec_l5CopyRecs {w : World} {xs : List Rec} {xsA : Option Addr} {xsC : Nat} (xsS : Sees w [.slice xsA xs.length xsC] xs) (hl : szL szRec xs ≤ 1048576) : Ret Tryz.prog 94 #[.slice xsA xs.length xsC] w fun v w' => Ext No w w' ∧ (Res w w' [v] xs) := by
 have xsL := sL xsS
 obtain ⟨xsF, xsO⟩ := xsS
 have hl0 : xs.length ≤ 1048576 := by unfold szL at hl; omega
 refine ret_Q (vs := [.slice xsA xs.length xsC]) Tryz.func94 rfl Tryz.ntmps94 rfl (fun Q hQ hN => ?_)
 have H0 := Sep.start (w := w) (F := [seen false [.slice xsA xs.length xsC] xs xsF]) (all_cons xsO (by simp))
 refine W_sr (sA rfl rfl (s_nil (W_sr (s_lit0 (α := Rec) (wn rfl) rfl tu30 Tryz_ty68 H0 (fun b1 w1 e1 g1 H1 => ?_)))))
 refine sA rfl rfl (s_nil (W_seq (W_sr (sA rfl rfl (s_nil (W_block (W_loopA (α := Rec) (γ := Nat) (fun k => xs.take k) 0 H1 0 rfl 3 rfl [(0, _), (2, _)] ⟨rfl, rfl, trivial⟩ (fun k => [(4, .int .i64 k)]) (fun k => k ≤ xs.length ∧ True) (fun k => xs.length - k) ⟨rfl, trivial⟩ ⟨by omega, trivial⟩ (fun k vA1 fA1 w2 H2 ⟨hk, _⟩ => ?_))))))))
 dsimp only [lCA, lNA, lSZ, lSS] at H2 ⊢
 refine W_seq (W_sr (sM rfl rfl (sM rfl rfl (sV rfl (py_len tu30 rfl) (sV rfl (py_lss rfl rfl) (s_nil (W_ifd rfl (fun c1 => ?_) (fun c1 => ?_))))))))
 ·refine W_skip (W_seq (W_block ?_))
  obtain ⟨hg, hg2⟩ := szL_get hl k (by omega)
  have tl := List.length_take (i := k) (l := xs)
  obtain ⟨eb1, eo1, es1, ef1, ee1, ec1, eO1, eH1, em1⟩ := elem_st (H2.seen 0 rfl) k (by omega)
  obtain ⟨ea1, ek1, ea2, ek2, ea3, ek3, eg1, eg2, eg3, rfl, eq1, eK1, eo2, eo3, eo4⟩ := own_Rec eO1
  have eK1U := eK1
  unfold Rec.Ok at eK1U
  try unfold I64ok at eK1U
  try unfold maxLen at eK1U
  have eP1 := H2.look1 0 rfl eo2 (fun b hb => eH1 b (by rw [eq1]; simp [hb]))
  have eL1 := oL eo2
  have eP2 := eP1.look1 0 rfl eo3 (fun b hb => eH1 b (by rw [eq1]; simp [hb]))
  have eL2 := oL eo3
  have eP3 := eP2.look1 0 rfl eo4 (fun b hb => eH1 b (by rw [eq1]; simp [hb]))
  have eL3 := oL eo4
  refine W_reg (sM rfl rfl (sM rfl rfl (sM rfl rfl (sV rfl (py_elz tu30 ts68 rfl rfl ee1 k (by omega) (by omega)) (sV rfl (py_loadS tu68 rfl ts68 rfl rfl ec1) (s_call (wn rfl) rfl rfl (pc_call Tryz.func65 rfl Tryz_nm65 rfl) (Tryz_spec_l5CopyRec (by assumption) (eP3.sees 1 rfl) (eP3.sees 2 rfl) (eP3.sees 3 rfl) (by first | assumption | omega)) (fun v1 w3 r1 => ?_)))))))
  obtain ⟨e2, sa1, sk1, sa2, sk2, sa3, sk3, rfl, r1⟩ := r1
  obtain ⟨fp1, H3⟩ := eP3.res e2 r1
  refine s_lit1 (wn rfl) rfl tu30 Tryz_ty68 rfl rfl rfl rfl H3 (fun b2 w4 e3 g2 H4 => ?_)
  refine s_app2 (wn rfl) rfl tu30 Tryz_ty68 rfl rfl rfl H4 0 2 1 rfl rfl rfl rfl (by unfold maxLen; omega) (by omega) (fun v2 w5 fp2 H5 => ?_)
  refine sA rfl rfl (s_nil (W_reg (sM rfl rfl (sV rfl (py_add rfl rfl (in64 ⟨by omega, by omega⟩)) (sA rfl rfl (s_nil ?_))))))
  exact ⟨(k + 1, _, _), ⟨rfl, rfl, rfl, rfl, trivial⟩, ⟨by dsimp only; rw [← take_step (xs := xs) (d := default) (by omega)]; exact ((H5.ftake 1).dtake 1), by omega, trivial⟩, by dsimp only; omega⟩
 ·refine W_exit (W_seq ?_)
  obtain rfl : k = xs.length := by omega
  rw [List.take_length] at H2
  refine W_reg (sM rfl rfl (sA rfl rfl (s_nil (rT hQ Tryz.results94 rfl ?_))))
  exact ⟨H2.ext, H2.out 0 rfl⟩
theorem Tryz_spec_l5CopyBlock {w : World} {x : Block} {xA1 : Option Addr} {xC1 : Nat} (xK : x.Ok) (xS1 : Sees w [.slice xA1 x.Bytes.length xC1] x.Bytes) (hb : szBlock x ≤ 1048576) : Ret Tryz.prog 193 #[x.val xA1 xC1] w fun v w' => Ext No w w' ∧ (∃ A1 C1, v = x.val A1 C1 ∧ Res w w' [.int .i64 x.Stamp, .slice A1 x.Bytes.length C1] x) := by
 have xK2 := xK
 unfold Block.Ok at xK2
 try unfold I64ok at xK2
 try unfold maxLen at xK2
 have xL1 := sL xS1
 obtain ⟨xF1, xO1⟩ := xS1
 unfold szBlock at hb
 refine ret_Q (vs := [x.val xA1 xC1]) Tryz.func193 rfl Tryz.ntmps193 rfl (fun Q hQ hN => ?_)
 have H0 := Sep.start (w := w) (F := [seen false [.slice xA1 x.Bytes.length xC1] x.Bytes xF1]) (all_cons xO1 (by simp))
 refine W_sr (s_box (wn rfl) rfl rfl H0 (fun b1 w1 e1 g1 H1 => ?_))
 refine s_var (wn rfl) rfl Tryz.zeroValue182 H1 (fun b2 w2 e2 g2 H2 => ?_)
 refine s_nil (W_seq (W_drw (S := Ext No _) [(0, true), (1, true), (3, true), (4, true), (2, false), (5, false), (6, true), (7, false)] (by kernel_rfl) (by kernel_rfl) (by kernel_rfl) rfl (fun _ => Ext.refl.drawn _) (fun q1 => ?_)))
 have H3 := H2.drawn q1
 refine dV rfl rfl (fun zw hx => py_field tu182 rfl ts2 rfl rfl) (dV rfl rfl (fun zw hx => py_load tu2 rfl rfl (cell_atL (hx.heap (H3.box 0 rfl)) rfl)) (dV rfl rfl (fun zw hx => py_field tu182 rfl ts45 rfl rfl) (dV rfl rfl (fun zw hx => py_load tu45 rfl rfl (cell_atL (hx.heap (H3.box 0 rfl)) rfl)) (d_S (fun hs1 => ?_) (by simp)))))
 refine d_lit0 (α := UInt8) rfl (wn rfl) rfl tu45 Tryz_ty5 H3 (fun _ h e => h.trans e.no) (fun b3 w3 e3 g3 H4 => ?_)
 refine d_S (fun hs2 => ?_) (by simp)
 refine d_appFS rfl (wn rfl) rfl tu45 Tryz_ty5 rfl rfl rfl H4 2 rfl (H4.seen 0 rfl) (by (try simp only [List.length_nil]); unfold maxLen; omega) (by (try simp only [List.length_nil]); omega) (fun b hb => by simp only [List.mem_singleton] at hb; rw [hb]; exact Nat.le_trans hs1.size g3) (fun v1 w4 fp1 sb1 H5 => ?_)
 try dsimp only [lNA, lCA, lSZ, lSS] at H5
 obtain ⟨a1, k1, q2⟩ := own_slice (H5.mine 2 rfl)
 cases q2
 refine dV rfl rfl (fun zw hx => py_buildS Tryz_pl182 rfl rfl) (d_stoS rfl (wn rfl) ts182 rfl rfl rfl rfl H5 1 rfl rfl (fun _ _ _ hr => absurd rfl hr) (fun w5 e4 H6 => ?_))
 dsimp only [lNA, lCA, lSZ, lSS, layL] at H6
 refine d_nil (W_ret (hQ _ _ (finC Tryz.results193 rfl (run_loadVarS tu182 rfl ts182 rfl (At.whole (H6.box 1 rfl))) ?_)))
 exact ⟨H6.ext, _, _, rfl, Block.out (H6.sub (.cons _ (.cons _ (.cons_cons _ List.Sublist.slnil)))) (by assumption)⟩
theorem Tryz_impl_cloneDrive {w : World} {x : Drive} {xA1 : Option Addr} {xC1 : Nat} (xK : x.Ok) (xS1 : Sees w [.slice xA1 x.Blocks.length xC1] x.Blocks) (hb : szDrive x ≤ 1048576) : Ret Tryz.prog 206 #[x.val xA1 xC1] w fun v w' => Ext No w w' ∧ (∃ A1 C1, v = x.val A1 C1 ∧ Res w w' [.bool x.Wiped, .slice A1 x.Blocks.length C1] x) := by
 have xK2 := xK
 unfold Drive.Ok at xK2
 try unfold I64ok at xK2
 try unfold maxLen at xK2
 have xL1 := sL xS1
 obtain ⟨xF1, xO1⟩ := xS1
 unfold szDrive at hb
 have hl0 : x.Blocks.length ≤ 1048576 := by unfold szL at hb; omega
 refine ret_Q (vs := [x.val xA1 xC1]) Tryz.func206 rfl Tryz.ntmps206 rfl (fun Q hQ hN => ?_)
 have H0 := Sep.start (w := w) (F := [seen false [.slice xA1 x.Blocks.length xC1] x.Blocks xF1]) (all_cons xO1 (by simp))
 refine W_sr (s_box (wn rfl) rfl rfl H0 (fun b1 w1 e1 g1 H1 => ?_))
 refine s_var (wn rfl) rfl Tryz.zeroValue180 H1 (fun b2 w2 e2 g2 H2 => ?_)
 refine s_nil (W_sr (sV rfl (py_field tu180 rfl ts4 rfl rfl) (sV rfl (py_load tu4 rfl rfl (cell_atL (H2.box 0 rfl) rfl)) (sV rfl (py_buildS Tryz_pl180 rfl rfl) (s_var (wn rfl) rfl Tryz.zeroValue180 H2 (fun b3 w3 e3 g3 H3 => ?_))))))
 refine s_stoS (wn rfl) ts180 rfl rfl rfl rfl H3 2 rfl rfl (fun w4 e4 H4 => ?_)
 dsimp only [lNA, lCA, lSZ, lSS, layL] at H4
 refine s_nil (W_seq (W_sr (sV rfl (py_field tu180 rfl ts178 rfl rfl) (sV rfl (py_load tu178 rfl rfl (cell_atL (H4.box 0 rfl) rfl)) (sV rfl (py_len tu178 rfl) (sM rfl rfl (s_nil (W_block ?_))))))))
 have H6 := H4.nilW (α := Block)
 try dsimp only [lNA, lCA, lSZ, lSS] at H6
 refine W_loopB (α := Block) (γ := Nat) (fun k => x.Blocks.take k) 0 H6 3 2 1 rfl rfl rfl rfl [(2, _), (3, _), (10, _), (11, _)] ⟨rfl, rfl, rfl, rfl, trivial⟩ (fun k => [(12, .int .i64 k)]) (fun k => k ≤ x.Blocks.length ∧ True) (fun k => x.Blocks.length - k) ⟨rfl, trivial⟩ ⟨by omega, trivial⟩ (fun k vA1 fA1 w5 H5 ⟨hk, _⟩ => ?_)
 dsimp only [lCA, lNA, lSZ, lSS] at H5 ⊢
 refine W_sr (sV rfl (py_lss rfl rfl) (s_nil (W_seq (W_ifd rfl (fun c1 => ?_) (fun c1 => ?_)))))
 ·refine W_skip (W_seq (W_block (W_seq ?_)))
  obtain ⟨hg, hg2⟩ := szL_get hb k (by omega)
  unfold szBlock at hg
  have tl := List.length_take (i := k) (l := x.Blocks)
  obtain ⟨eb1, eo1, es1, ef1, ee1, ec1, eO1, eH1, em1⟩ := elem_st (H5.seen 0 rfl) k (by omega)
  obtain ⟨ea1, ek1, eg1, rfl, eq1, eK1, eo2⟩ := own_Block eO1
  have eK1U := eK1
  unfold Block.Ok at eK1U
  try unfold I64ok at eK1U
  try unfold maxLen at eK1U
  have eP1 := H5.look1 0 rfl eo2 (fun b hb => eH1 b (by rw [eq1]; simp [hb]))
  have eL1 := oL eo2
  refine W_reg (sV rfl (py_elz tu178 ts182 rfl rfl ee1 k (by omega) (by omega)) (sV rfl (py_loadS tu182 rfl ts182 rfl rfl ec1) (s_var (wn rfl) rfl Tryz.zeroValue182 eP1 (fun b4 w6 e5 g4 H7 => ?_))))
  refine s_stoS (wn rfl) ts182 rfl rfl rfl rfl H7 4 rfl rfl (fun w7 e6 H8 => ?_)
  dsimp only [lNA, lCA, lSZ, lSS, layL] at H8
  refine s_nil (W_drw (S := Ext (· ∈ fA1) _) [(0, true), (1, true), (2, true), (3, true), (4, true), (5, true), (6, false), (7, true), (8, false), (9, false), (10, true), (11, false)] (by kernel_rfl) (by kernel_rfl) (by kernel_rfl) rfl (fun _ => Ext.refl.drawn _) (fun q1 => ?_))
  have H9 := H8.drawn q1
  refine dV rfl rfl (fun zw hx => py_field tu180 rfl ts178 rfl rfl) (dV rfl rfl (fun zw hx => py_load tu178 rfl rfl (cell_atL (hx.heapM (H9.boff 2 rfl 3 rfl rfl) (H9.box 2 rfl)) rfl)) (dV rfl rfl (fun zw hx => py_field tu182 rfl ts2 rfl rfl) (dV rfl rfl (fun zw hx => py_load tu2 rfl rfl (cell_atL (hx.heapM (H9.boff 4 rfl 3 rfl rfl) (H9.box 4 rfl)) rfl)) (dV rfl rfl (fun zw hx => py_field tu182 rfl ts45 rfl rfl) (dV rfl rfl (fun zw hx => py_load tu45 rfl rfl (cell_atL (hx.heapM (H9.boff 4 rfl 3 rfl rfl) (H9.box 4 rfl)) rfl)) (d_call rfl (wn rfl) rfl rfl (pc_call Tryz.func151 rfl Tryz_nm151 rfl) (Tryz_clone_b (H9.sees 1 rfl) (by omega)) (fun hS _ _ r _ => hS.trans r.1.no) (fun v1 w8 r1 => ?_)))))))
  obtain ⟨e7, r1⟩ := r1
  obtain ⟨fp1, H10⟩ := H9.res e7 r1
  obtain ⟨a1, k1, q2⟩ := own_slice (H10.mine 5 rfl)
  cases q2
  refine dV rfl rfl (fun zw hx => py_buildS Tryz_pl182 rfl rfl) (d_lit1 rfl (wn rfl) rfl tu178 Tryz_ty182 rfl rfl rfl rfl H10 (fun _ h e => h.trans e.no) (fun b5 w9 e8 g5 H11 => ?_))
  have H12 := H11.asSt 5 ((x.Blocks.getD k default) : Block) rfl (Block.own_mk (x := (x.Blocks.getD k default)) (by assumption) (H11.mine 5 rfl))
  try dsimp only [lNA, lCA, lSZ, lSS] at H12
  refine d_app2 rfl (wn rfl) rfl tu178 Tryz_ty182 rfl rfl rfl H12 3 6 5 rfl rfl rfl rfl (by unfold maxLen; omega) (by omega) (fun _ h e => h.trans e) (fun v2 w10 fp2 H13 => ?_)
  refine dV rfl rfl (fun zw hx => py_field tu180 rfl ts178 rfl rfl) ?_
  obtain ⟨a2, k2, q3⟩ := own_slice (H13.mine 3 rfl)
  cases q3
  refine d_sto rfl (wn rfl) ts178 rfl rfl rfl H13 2 rfl rfl (fun _ _ _ hr => absurd rfl hr) (fun w11 e9 H14 => ?_)
  dsimp only [lNA, lCA, lSZ, lSS, layL] at H14
  refine d_nil (W_reg (sV rfl (py_add rfl rfl (in64 ⟨by omega, by omega⟩)) (sM rfl rfl (s_nil ?_))))
  exact ⟨(k + 1, _, _), ⟨rfl, rfl, rfl, rfl, rfl, trivial⟩, ⟨by dsimp only; rw [← take_step (xs := x.Blocks) (d := default) (by omega)]; exact ((H14.ftake 1).dtake 4), by omega, trivial⟩, by dsimp only; omega⟩
 ·refine W_exit (W_seq ?_)
  obtain rfl : k = x.Blocks.length := by omega
  rw [List.take_length] at H5
  refine W_reg (sV rfl (py_loadS tu180 rfl ts180 rfl rfl (At.whole (H5.box 2 rfl))) ?_)
  obtain ⟨a3, k3, q4⟩ := own_slice (H5.mine 3 rfl)
  cases q4
  refine s_stoS (wn rfl) ts180 rfl rfl rfl rfl H5 1 rfl rfl (fun w12 e10 H15 => ?_)
  dsimp only [lNA, lCA, lSZ, lSS, layL] at H15
  refine s_nil (W_ret (hQ _ _ (finC Tryz.results206 rfl (run_loadVarS tu180 rfl ts180 rfl (At.whole (H15.box 1 rfl))) ?_)))
  exact ⟨H15.ext, _, _, rfl, Drive.out (H15.sub (.cons _ (.cons _ (.cons _ (.cons_cons _ List.Sublist.slnil))))) (by assumption)⟩
theorem Tryz_impl_cloneWorld {w : World} {z : Wld} {zA9 zA10 zA11 : Option Addr} {zC9 zC10 zC11 : Nat} (zK : z.Ok) (zS9 : Sees w [.slice zA9 z.Groups.length zC9] z.Groups) (zS10 : Sees w [.slice zA10 z.On.length zC10] z.On) (zS11 : Sees w [.slice zA11 z.Tapes.length zC11] z.Tapes) (hb : szWld z ≤ 1048576) : Ret Tryz.prog 121 #[z.val zA9 zC9 zA10 zC10 zA11 zC11] w fun v w' => Ext No w w' ∧ (∃ A9 C9 A10 C10 A11 C11, v = z.val A9 C9 A10 C10 A11 C11 ∧ Res w w' [.int .i64 z.Shape.Groups, .int .i64 z.Shape.Column, .int .i64 z.Shape.Data, .int .i64 z.Shape.Spare, .int .i64 z.Shape.Rows, .int .i64 z.Shape.Cap, .int .i64 z.Shape.Batch, .int .i64 z.Shape.Queue, .int .i64 z.Shape.Stage, .slice A9 z.Groups.length C9, .slice A10 z.On.length C10, .slice A11 z.Tapes.length C11, .int .i64 z.Writes, .int .i64 z.Stop, .bool z.Down] z) := by
 have zK2 := zK
 unfold Wld.Ok Shape.Ok at zK2
 try unfold I64ok at zK2
 try unfold maxLen at zK2
 have zL9 := sL zS9
 obtain ⟨zF9, zO9⟩ := zS9
 have zL10 := sL zS10
 obtain ⟨zF10, zO10⟩ := zS10
 have zL11 := sL zS11
 obtain ⟨zF11, zO11⟩ := zS11
 have hcu : szWld z = szL (szL szDrive) z.Groups + z.On.length + szL szTape z.Tapes := rfl
 have hg0 : szL (szL szDrive) z.Groups ≤ 1048576 := by omega
 have ht0 : szL szTape z.Tapes ≤ 1048576 := by omega
 have hgl : z.Groups.length ≤ 1048576 := by unfold szL at hg0; omega
 have htl : z.Tapes.length ≤ 1048576 := by unfold szL at ht0; omega
 refine ret_Q (vs := [z.val zA9 zC9 zA10 zC10 zA11 zC11]) Tryz.func121 rfl Tryz.ntmps121 rfl (fun Q hQ hN => ?_)
 have H0 := Sep.start (w := w) (F := [seen false [.slice zA9 z.Groups.length zC9] z.Groups zF9, seen false [.slice zA10 z.On.length zC10] z.On zF10, seen false [.slice zA11 z.Tapes.length zC11] z.Tapes zF11]) (all_cons zO9 (all_cons zO10 (all_cons zO11 (by simp))))
 refine W_sr (s_box (wn rfl) rfl rfl H0 (fun b1 w1 e1 g1 H1 => ?_))
 refine s_var (wn rfl) rfl Tryz.zeroValue38 H1 (fun b2 w2 e2 g2 H2 => ?_)
 refine s_nil (W_sr (sV rfl (py_loadS tu38 rfl ts38 rfl rfl (At.whole (H2.box 0 rfl))) (s_var (wn rfl) rfl Tryz.zeroValue38 H2 (fun b3 w3 e3 g3 H3 => ?_))))
 refine s_stoS (wn rfl) ts38 rfl rfl rfl rfl H3 2 rfl rfl (fun w4 e4 H4 => ?_)
 dsimp only [lNA, lCA, lSZ, lSS, layL] at H4
 refine s_nil (W_sr (sV rfl (py_field tu38 rfl ts25 rfl rfl) (sV rfl (py_load tu25 rfl rfl (cell_atL (H4.box 0 rfl) rfl)) (s_call (wn rfl) rfl rfl (pc_call Tryz.func150 rfl Tryz_nm150 rfl) (Tryz_clone_i (H4.sees 1 rfl) (by omega)) (fun v1 w5 r1 => ?_)))))
 obtain ⟨e5, r1⟩ := r1
 obtain ⟨fp1, H5⟩ := H4.res e5 r1
 obtain ⟨a1, k1, q1⟩ := own_slice (H5.mine 3 rfl)
 cases q1
 refine sV rfl (py_field tu38 rfl ts35 rfl rfl) (s_sto (wn rfl) ts35 rfl rfl rfl H5 2 rfl rfl (fun w6 e6 H6 => ?_))
 dsimp only [lNA, lCA, lSZ, lSS, layL] at H6
 refine sV rfl (py_field tu38 rfl ts25 rfl rfl) (s_sto (wn rfl) ts25 rfl rfl rfl H6 2 rfl rfl (fun w7 e7 H7 => ?_))
 dsimp only [lNA, lCA, lSZ, lSS, layL] at H7
 refine sV rfl (py_field tu38 rfl ts36 rfl rfl) (s_sto (wn rfl) ts36 rfl rfl rfl H7 2 rfl rfl (fun w8 e8 H8 => ?_))
 dsimp only [lNA, lCA, lSZ, lSS, layL] at H8
 refine s_nil (W_seq (W_sr (sV rfl (py_field tu38 rfl ts35 rfl rfl) (sV rfl (py_load tu35 rfl rfl (cell_atL (H8.box 0 rfl) rfl)) (sV rfl (py_len tu35 rfl) (sM rfl rfl (s_nil (W_block ?_))))))))
 have H10 := H8.nilW (α := (List Drive))
 try dsimp only [lNA, lCA, lSZ, lSS] at H10
 refine W_loopB (α := (List Drive)) (γ := Nat) (fun k => z.Groups.take k) 0 H10 4 2 9 rfl rfl rfl rfl [(1, _), (2, _), (3, _), (19, _), (20, _)] ⟨rfl, rfl, rfl, rfl, rfl, trivial⟩ (fun k => [(21, .int .i64 k)]) (fun k => k ≤ z.Groups.length ∧ True) (fun k => z.Groups.length - k) ⟨rfl, trivial⟩ ⟨by omega, trivial⟩ (fun k vA1 fA1 w9 H9 ⟨hk, _⟩ => ?_)
 dsimp only [lCA, lNA, lSZ, lSS] at H9 ⊢
 refine W_sr (sV rfl (py_lss rfl rfl) (s_nil (W_seq (W_ifd rfl (fun c1 => ?_) (fun c1 => ?_)))))
 ·refine W_skip (W_seq (W_block (W_seq ?_)))
  have hgk : szL szDrive (z.Groups.getD k []) ≤ 1048576 := (szL_get hg0 k (by omega)).1
  have hgkl : (z.Groups.getD k []).length ≤ 1048576 := by unfold szL at hgk; omega
  have tlg := List.length_take (i := k) (l := z.Groups)
  obtain ⟨eb1, eo1, ea1, ek1, ef1, ee1, ec1, eO1, eH1⟩ := elem_sl (H9.seen 0 rfl) k (by omega)
  have eP1 := H9.look1 0 rfl eO1 eH1
  refine W_reg (sV rfl (py_elz tu35 ts142 rfl rfl ee1 k (by omega) (by omega)) (sV rfl (py_load tu142 rfl rfl ec1) (sA rfl rfl (s_nil (W_sr (s_lit0 (α := Drive) (wn rfl) rfl tu142 Tryz_ty180 eP1 (fun b4 w10 e9 g4 H11 => ?_)))))))
  refine sA rfl rfl (s_nil (W_seq (W_sr (sM rfl rfl (sV rfl (py_len tu142 rfl) (sM rfl rfl (s_nil (W_block (W_loopA (α := Drive) (γ := Nat) (fun m2 => (z.Groups.getD k []).take m2) 0 H11 5 rfl 6 rfl [(1, _), (2, _), (3, _), (19, _), (20, _), (21, _), (26, _), (27, _)] ⟨rfl, rfl, rfl, rfl, rfl, rfl, rfl, rfl, trivial⟩ (fun m2 => [(28, .int .i64 m2)]) (fun m2 => m2 ≤ (z.Groups.getD k []).length ∧ True) (fun m2 => (z.Groups.getD k []).length - m2) ⟨rfl, trivial⟩ ⟨by omega, trivial⟩ (fun m2 vA2 fA2 w11 H12 ⟨hm2, _⟩ => ?_))))))))))
  dsimp only [lCA, lNA, lSZ, lSS] at H12 ⊢
  refine W_sr (sV rfl (py_lss rfl rfl) (s_nil (W_seq (W_ifd rfl (fun c2 => ?_) (fun c2 => ?_)))))
  ·refine W_skip (W_seq (W_block (W_seq ?_)))
   have hdk : szDrive ((z.Groups.getD k []).getD m2 default) ≤ 1048576 := (szL_get hgk m2 (by omega)).1
   have tld := List.length_take (i := m2) (l := (z.Groups.getD k []))
   obtain ⟨eb2, eo2, es1, ef2, ee2, ec2, eO2, eH2, em1⟩ := elem_st (H12.seen 3 rfl) m2 (by omega)
   obtain ⟨ea2, ek2, eg1, rfl, eq1, eK1, eo3⟩ := own_Drive eO2
   have eP2 := H12.look1 3 rfl eo3 (fun b hb => eH2 b (by rw [eq1]; simp [hb]))
   have eL1 := oL eo3
   refine W_reg (sV rfl (py_elz tu142 ts180 rfl rfl ee2 m2 (by omega) (by omega)) (sV rfl (py_loadS tu180 rfl ts180 rfl rfl ec2) (s_var (wn rfl) rfl Tryz.zeroValue180 eP2 (fun b5 w12 e10 g5 H13 => ?_))))
   refine s_stoS (wn rfl) ts180 rfl rfl rfl rfl H13 6 rfl rfl (fun w13 e11 H14 => ?_)
   dsimp only [lNA, lCA, lSZ, lSS, layL] at H14
   refine s_nil (W_reg (sM rfl rfl (sV rfl (py_loadS tu180 rfl ts180 rfl rfl (At.whole (H14.box 6 rfl))) (s_call (wn rfl) rfl rfl (pc_call Tryz.func206 rfl Tryz_nm206 rfl) (Tryz_impl_cloneDrive (by assumption) (H14.sees 4 rfl) (by first | assumption | omega)) (fun v2 w14 r2 => ?_)))))
   obtain ⟨e12, sa1, sk1, rfl, r2⟩ := r2
   obtain ⟨fp2, H15⟩ := H14.res e12 r2
   refine s_lit1 (wn rfl) rfl tu142 Tryz_ty180 rfl rfl rfl rfl H15 (fun b6 w15 e13 g6 H16 => ?_)
   refine s_app2 (wn rfl) rfl tu142 Tryz_ty180 rfl rfl rfl H16 5 8 7 rfl rfl rfl rfl (by unfold maxLen; omega) (by omega) (fun v3 w16 fp3 H17 => ?_)
   refine sA rfl rfl (s_nil (W_reg (sV rfl (py_add rfl rfl (in64 ⟨by omega, by omega⟩)) (sM rfl rfl (s_nil ?_)))))
   exact ⟨(m2 + 1, _, _), ⟨rfl, rfl, rfl, rfl, rfl, rfl, rfl, rfl, rfl, rfl, trivial⟩, ⟨by dsimp only; rw [← take_step (xs := (z.Groups.getD k [])) (d := default) (by omega)]; exact ((H17.ftake 4).dtake 6), by omega, trivial⟩, by dsimp only; omega⟩
  ·refine W_exit ?_
   obtain rfl : m2 = (z.Groups.getD k []).length := by omega
   rw [List.take_length] at H12
   refine W_reg (sV rfl (py_field tu38 rfl ts35 rfl rfl) (sV rfl (py_load tu35 rfl rfl (cell_atL (H12.box 2 rfl) rfl)) (sM rfl rfl ?_)))
   obtain ⟨a2, k2, q2⟩ := own_slice (H12.mine 5 rfl)
   cases q2
   refine s_lit1 (wn rfl) rfl tu35 Tryz_ty142 rfl rfl rfl rfl H12 (fun b7 w17 e14 g7 H18 => ?_)
   refine s_app2 (wn rfl) rfl tu35 Tryz_ty142 rfl rfl rfl H18 4 6 5 rfl rfl rfl rfl (by unfold maxLen; omega) (by omega) (fun v4 w18 fp4 H19 => ?_)
   refine sV rfl (py_field tu38 rfl ts35 rfl rfl) ?_
   obtain ⟨a3, k3, q3⟩ := own_slice (H19.mine 4 rfl)
   cases q3
   refine s_sto (wn rfl) ts35 rfl rfl rfl H19 2 rfl rfl (fun w19 e15 H20 => ?_)
   dsimp only [lNA, lCA, lSZ, lSS, layL] at H20
   refine s_nil (W_reg (sV rfl (py_add rfl rfl (in64 ⟨by omega, by omega⟩)) (sM rfl rfl (s_nil ?_))))
   exact ⟨(k + 1, _, _), ⟨rfl, rfl, rfl, rfl, rfl, rfl, trivial⟩, ⟨by dsimp only; rw [← take_step (xs := z.Groups) (d := []) (by omega)]; exact ((H20.ftake 3).dtake 5), by omega, trivial⟩, by dsimp only; omega⟩
 ·refine W_exit (W_seq (W_seq ?_))
  obtain rfl : k = z.Groups.length := by omega
  rw [List.take_length] at H9
  refine W_reg (sV rfl (py_field tu38 rfl ts36 rfl rfl) (sV rfl (py_load tu36 rfl rfl (cell_atL (H9.box 0 rfl) rfl)) (sV rfl (py_len tu36 rfl) (sM rfl rfl (s_nil (W_block ?_))))))
  have H22 := H9.nilW (α := Tape)
  try dsimp only [lNA, lCA, lSZ, lSS] at H22
  refine W_loopB (α := Tape) (γ := Nat) (fun k => z.Tapes.take k) 0 H22 5 2 11 rfl rfl rfl rfl [(2, _), (3, _), (46, _), (47, _)] ⟨rfl, rfl, rfl, rfl, trivial⟩ (fun k => [(48, .int .i64 k)]) (fun k => k ≤ z.Tapes.length ∧ True) (fun k => z.Tapes.length - k) ⟨rfl, trivial⟩ ⟨by omega, trivial⟩ (fun k vA3 fA3 w20 H21 ⟨hk, _⟩ => ?_)
  dsimp only [lCA, lNA, lSZ, lSS] at H21 ⊢
  refine W_sr (sV rfl (py_lss rfl rfl) (s_nil (W_seq (W_ifd rfl (fun c3 => ?_) (fun c3 => ?_)))))
  ·refine W_skip (W_seq (W_block (W_seq ?_)))
   have htk : szTape (z.Tapes.getD k default) ≤ 1048576 := (szL_get ht0 k (by omega)).1
   unfold szTape at htk
   have tlt := List.length_take (i := k) (l := z.Tapes)
   obtain ⟨eb3, eo4, es2, ef3, ee3, ec3, eO3, eH3, em2⟩ := elem_st (H21.seen 2 rfl) k (by omega)
   obtain ⟨ea3, ek3, eg2, rfl, eq2, eK2, eo5⟩ := own_Tape eO3
   have eP3 := H21.look1 2 rfl eo5 (fun b hb => eH3 b (by rw [eq2]; simp [hb]))
   have eL2 := oL eo5
   refine W_reg (sV rfl (py_elz tu36 ts139 rfl rfl ee3 k (by omega) (by omega)) (sV rfl (py_loadS tu139 rfl ts139 rfl rfl ec3) (s_var (wn rfl) rfl Tryz.zeroValue139 eP3 (fun b8 w21 e16 g8 H23 => ?_))))
   refine s_stoS (wn rfl) ts139 rfl rfl rfl rfl H23 6 rfl rfl (fun w22 e17 H24 => ?_)
   dsimp only [lNA, lCA, lSZ, lSS, layL] at H24
   refine s_nil (W_drw (S := Ext (· ∈ fA3) _) [(0, true), (1, true), (2, true), (3, true), (4, true), (5, true), (6, false), (7, true), (8, false), (9, false), (10, true), (11, false)] (by kernel_rfl) (by kernel_rfl) (by kernel_rfl) rfl (fun _ => Ext.refl.drawn _) (fun q4 => ?_))
   have H25 := H24.drawn q4
   refine dV rfl rfl (fun zw hx => py_field tu38 rfl ts36 rfl rfl) (dV rfl rfl (fun zw hx => py_load tu36 rfl rfl (cell_atL (hx.heapM (H25.boff 2 rfl 5 rfl rfl) (H25.box 2 rfl)) rfl)) (dV rfl rfl (fun zw hx => py_field tu139 rfl ts4 rfl rfl) (dV rfl rfl (fun zw hx => py_load tu4 rfl rfl (cell_atL (hx.heapM (H25.boff 6 rfl 5 rfl rfl) (H25.box 6 rfl)) rfl)) (dV rfl rfl (fun zw hx => py_field tu139 rfl ts30 rfl rfl) (dV rfl rfl (fun zw hx => py_load tu30 rfl rfl (cell_atL (hx.heapM (H25.boff 6 rfl 5 rfl rfl) (H25.box 6 rfl)) rfl)) (d_call rfl (wn rfl) rfl rfl (pc_call Tryz.func108 rfl Tryz_nm108 rfl) (Tryz_impl_cloneRecs (H25.sees 3 rfl) (by first | assumption | omega)) (fun hS _ _ r _ => hS.trans r.1.no) (fun v5 w23 r3 => ?_)))))))
   obtain ⟨e18, r3⟩ := r3
   obtain ⟨fp5, H26⟩ := H25.res e18 r3
   obtain ⟨a4, k4, q5⟩ := own_slice (H26.mine 7 rfl)
   cases q5
   refine dV rfl rfl (fun zw hx => py_buildS Tryz_pl139 rfl rfl) (d_lit1 rfl (wn rfl) rfl tu36 Tryz_ty139 rfl rfl rfl rfl H26 (fun _ h e => h.trans e.no) (fun b9 w24 e19 g9 H27 => ?_))
   have H28 := H27.asSt 7 ((z.Tapes.getD k default) : Tape) rfl (Tape.own_mk (x := (z.Tapes.getD k default)) (by assumption) (H27.mine 7 rfl))
   try dsimp only [lNA, lCA, lSZ, lSS] at H28
   refine d_app2 rfl (wn rfl) rfl tu36 Tryz_ty139 rfl rfl rfl H28 5 8 7 rfl rfl rfl rfl (by unfold maxLen; omega) (by omega) (fun _ h e => h.trans e) (fun v6 w25 fp6 H29 => ?_)
   refine dV rfl rfl (fun zw hx => py_field tu38 rfl ts36 rfl rfl) ?_
   obtain ⟨a5, k5, q6⟩ := own_slice (H29.mine 5 rfl)
   cases q6
   refine d_sto rfl (wn rfl) ts36 rfl rfl rfl H29 2 rfl rfl (fun _ _ _ hr => absurd rfl hr) (fun w26 e20 H30 => ?_)
   dsimp only [lNA, lCA, lSZ, lSS, layL] at H30
   refine d_nil (W_reg (sV rfl (py_add rfl rfl (in64 ⟨by omega, by omega⟩)) (sM rfl rfl (s_nil ?_))))
   exact ⟨(k + 1, _, _), ⟨rfl, rfl, rfl, rfl, rfl, trivial⟩, ⟨by dsimp only; rw [← take_step (xs := z.Tapes) (d := default) (by omega)]; exact ((H30.ftake 3).dtake 6), by omega, trivial⟩, by dsimp only; omega⟩
  ·refine W_exit (W_seq ?_)
   obtain rfl : k = z.Tapes.length := by omega
   rw [List.take_length] at H21
   refine W_reg (sV rfl (py_loadS tu38 rfl ts38 rfl rfl (At.whole (H21.box 2 rfl))) ?_)
   obtain ⟨a6, k6, q7⟩ := own_slice (H21.mine 4 rfl)
   cases q7
   obtain ⟨a7, k7, q8⟩ := own_slice (H21.mine 5 rfl)
   cases q8
   refine s_stoS (wn rfl) ts38 rfl rfl rfl rfl H21 1 rfl rfl (fun w27 e21 H31 => ?_)
   dsimp only [lNA, lCA, lSZ, lSS, layL] at H31
   refine s_nil (W_ret (hQ _ _ (finC Tryz.results121 rfl (run_loadVarS tu38 rfl ts38 rfl (At.whole (H31.box 1 rfl))) ?_)))
   exact ⟨H31.ext, _, _, _, _, _, _, rfl, Wld.out ((H31.sub (.cons _ (.cons _ (.cons _ (.cons_cons _ (.cons_cons _ (.cons_cons _ List.Sublist.slnil))))))).perm (.swap _ _ _)) (by assumption)⟩
theorem Tryz_spec_l5Copy {w : World} {z : Wld} {zA9 zA10 zA11 : Option Addr} {zC9 zC10 zC11 : Nat} (zK : z.Ok) (zS9 : Sees w [.slice zA9 z.Groups.length zC9] z.Groups) (zS10 : Sees w [.slice zA10 z.On.length zC10] z.On) (zS11 : Sees w [.slice zA11 z.Tapes.length zC11] z.Tapes) (hb : szWld z ≤ 1048576) : Ret Tryz.prog 113 #[z.val zA9 zC9 zA10 zC10 zA11 zC11] w fun v w' => Ext No w w' ∧ (∃ A9 C9 A10 C10 A11 C11, v = z.val A9 C9 A10 C10 A11 C11 ∧ Res w w' [.int .i64 z.Shape.Groups, .int .i64 z.Shape.Column, .int .i64 z.Shape.Data, .int .i64 z.Shape.Spare, .int .i64 z.Shape.Rows, .int .i64 z.Shape.Cap, .int .i64 z.Shape.Batch, .int .i64 z.Shape.Queue, .int .i64 z.Shape.Stage, .slice A9 z.Groups.length C9, .slice A10 z.On.length C10, .slice A11 z.Tapes.length C11, .int .i64 z.Writes, .int .i64 z.Stop, .bool z.Down] z) := by
 have zK2 := zK
 unfold Wld.Ok Shape.Ok at zK2
 try unfold I64ok at zK2
 try unfold maxLen at zK2
 have zL9 := sL zS9
 obtain ⟨zF9, zO9⟩ := zS9
 have zL10 := sL zS10
 obtain ⟨zF10, zO10⟩ := zS10
 have zL11 := sL zS11
 obtain ⟨zF11, zO11⟩ := zS11
 have hcu : szWld z = szL (szL szDrive) z.Groups + z.On.length + szL szTape z.Tapes := rfl
 have hg0 : szL (szL szDrive) z.Groups ≤ 1048576 := by omega
 have ht0 : szL szTape z.Tapes ≤ 1048576 := by omega
 have hgl : z.Groups.length ≤ 1048576 := by unfold szL at hg0; omega
 have htl : z.Tapes.length ≤ 1048576 := by unfold szL at ht0; omega
 refine ret_Q (vs := [z.val zA9 zC9 zA10 zC10 zA11 zC11]) Tryz.func113 rfl Tryz.ntmps113 rfl (fun Q hQ hN => ?_)
 have H0 := Sep.start (w := w) (F := [seen false [.slice zA9 z.Groups.length zC9] z.Groups zF9, seen false [.slice zA10 z.On.length zC10] z.On zF10, seen false [.slice zA11 z.Tapes.length zC11] z.Tapes zF11]) (all_cons zO9 (all_cons zO10 (all_cons zO11 (by simp))))
 refine W_sr (s_box (wn rfl) rfl rfl H0 (fun b1 w1 e1 g1 H1 => ?_))
 refine s_var (wn rfl) rfl Tryz.zeroValue38 H1 (fun b2 w2 e2 g2 H2 => ?_)
 refine s_nil (W_sr (sV rfl (py_loadS tu38 rfl ts38 rfl rfl (At.whole (H2.box 0 rfl))) (s_var (wn rfl) rfl Tryz.zeroValue38 H2 (fun b3 w3 e3 g3 H3 => ?_))))
 refine s_stoS (wn rfl) ts38 rfl rfl rfl rfl H3 2 rfl rfl (fun w4 e4 H4 => ?_)
 dsimp only [lNA, lCA, lSZ, lSS, layL] at H4
 refine s_nil (W_sr (sV rfl (py_field tu38 rfl ts35 rfl rfl) (s_sto (wn rfl) ts35 rfl rfl rfl H4 2 rfl rfl (fun w5 e5 H5 => ?_))))
 dsimp only [lNA, lCA, lSZ, lSS, layL] at H5
 refine s_nil (W_seq (W_sr (sA rfl rfl (s_nil (W_block ?_)))))
 have H7 := H5.nilW (α := (List Drive))
 try dsimp only [lNA, lCA, lSZ, lSS] at H7
 refine W_loopB (α := (List Drive)) (γ := Nat) (fun k => z.Groups.take k) 0 H7 3 2 9 rfl rfl rfl rfl [(1, _), (2, _), (3, _)] ⟨rfl, rfl, rfl, trivial⟩ (fun k => [(4, .int .i64 k)]) (fun k => k ≤ z.Groups.length ∧ True) (fun k => z.Groups.length - k) ⟨rfl, trivial⟩ ⟨by omega, trivial⟩ (fun k vA1 fA1 w6 H6 ⟨hk, _⟩ => ?_)
 dsimp only [lCA, lNA, lSZ, lSS] at H6 ⊢
 refine W_seq (W_sr (sM rfl rfl (sV rfl (py_field tu38 rfl ts35 rfl rfl) (sV rfl (py_load tu35 rfl rfl (cell_atL (H6.box 0 rfl) rfl)) (sV rfl (py_len tu35 rfl) (sV rfl (py_lss rfl rfl) (s_nil (W_ifd rfl (fun c1 => ?_) (fun c1 => ?_)))))))))
 ·refine W_skip (W_seq (W_block (W_seq ?_)))
  have hgk : szL szDrive (z.Groups.getD k []) ≤ 1048576 := (szL_get hg0 k (by omega)).1
  have hgkl : (z.Groups.getD k []).length ≤ 1048576 := by unfold szL at hgk; omega
  have tlg := List.length_take (i := k) (l := z.Groups)
  refine W_reg (s_lit0 (α := Drive) (wn rfl) rfl tu142 Tryz_ty180 H6 (fun b4 w7 e6 g4 H8 => ?_))
  refine sA rfl rfl (s_nil (W_seq (W_sr (sA rfl rfl (s_nil (W_block (W_loopA (α := Drive) (γ := Nat) (fun m2 => (z.Groups.getD k []).take m2) 0 H8 4 rfl 5 rfl [(1, _), (2, _), (3, _), (4, _)] ⟨rfl, rfl, rfl, rfl, trivial⟩ (fun m2 => [(6, .int .i64 m2)]) (fun m2 => m2 ≤ (z.Groups.getD k []).length ∧ True) (fun m2 => (z.Groups.getD k []).length - m2) ⟨rfl, trivial⟩ ⟨by omega, trivial⟩ (fun m2 vA2 fA2 w8 H9 ⟨hm2, _⟩ => ?_))))))))
  dsimp only [lCA, lNA, lSZ, lSS] at H9 ⊢
  refine W_seq (W_seq ?_)
  obtain ⟨eb1, eo1, ea1, ek1, ef1, ee1, ec1, eO1, eH1⟩ := elem_sl (H9.seen 0 rfl) k (by omega)
  have eP1 := H9.look1 0 rfl eO1 eH1
  refine W_reg (sM rfl rfl (sV rfl (py_field tu38 rfl ts35 rfl rfl) (sV rfl (py_load tu35 rfl rfl (cell_atL (eP1.box 0 rfl) rfl)) (sM rfl rfl (sV rfl (py_elz tu35 ts142 rfl rfl ee1 k (by omega) (by omega)) (sV rfl (py_load tu142 rfl rfl ec1) (sV rfl (py_len tu142 rfl) (sV rfl (py_lss rfl rfl) (s_nil (W_ifd rfl (fun c2 => ?_) (fun c2 => ?_)))))))))))
  ·refine W_skip (W_seq (W_block (W_seq ?_)))
   have hdk : szDrive ((z.Groups.getD k []).getD m2 default) ≤ 1048576 := (szL_get hgk m2 (by omega)).1
   have tld := List.length_take (i := m2) (l := (z.Groups.getD k []))
   obtain ⟨eb2, eo2, ea2, ek2, ef2, ee2, ec2, eO2, eH2⟩ := elem_sl (eP1.seen 0 rfl) k (by omega)
   have eP2 := eP1.look1 0 rfl eO2 eH2
   obtain ⟨eb3, eo3, es1, ef3, ee3, ec3, eO3, eH3, em1⟩ := elem_st (eP2.seen 4 rfl) m2 (by omega)
   obtain ⟨ea3, ek3, eg1, rfl, eq1, eK1, eo4⟩ := own_Drive eO3
   have eP3 := eP2.look1 4 rfl eo4 (fun b hb => eH3 b (by rw [eq1]; simp [hb]))
   have eL1 := oL eo4
   refine W_reg (sV rfl (py_field tu38 rfl ts35 rfl rfl) (sV rfl (py_load tu35 rfl rfl (cell_atL (eP3.box 0 rfl) rfl)) (sM rfl rfl (sV rfl (py_elz tu35 ts142 rfl rfl ee2 k (by omega) (by omega)) (sV rfl (py_load tu142 rfl rfl ec2) (sM rfl rfl (sV rfl (py_elz tu142 ts180 rfl rfl ee3 m2 (by omega) (by omega)) (sV rfl (py_field tu180 rfl ts4 rfl rfl) (sV rfl (py_load tu4 rfl rfl (at_cell ec3 0 rfl)) (sV rfl (py_buildS Tryz_pl180 rfl rfl) (s_var (wn rfl) rfl Tryz.zeroValue180 eP3 (fun b5 w9 e7 g5 H10 => ?_))))))))))))
   refine s_stoS (wn rfl) ts180 rfl rfl rfl rfl H10 5 rfl rfl (fun w10 e8 H11 => ?_)
   dsimp only [lNA, lCA, lSZ, lSS, layL] at H11
   refine s_nil (W_seq (W_sr (sA rfl rfl (s_nil (W_block ?_)))))
   have H13 := H11.nilW (α := Block)
   try dsimp only [lNA, lCA, lSZ, lSS] at H13
   refine W_loopB (α := Block) (γ := Nat) (fun m3 => ((z.Groups.getD k []).getD m2 default).Blocks.take m3) 0 H13 6 5 1 rfl rfl rfl rfl [(1, _), (2, _), (3, _), (4, _), (5, _), (6, _), (7, _)] ⟨rfl, rfl, rfl, rfl, rfl, rfl, rfl, trivial⟩ (fun m3 => [(8, .int .i64 m3)]) (fun m3 => m3 ≤ ((z.Groups.getD k []).getD m2 default).Blocks.length ∧ True) (fun m3 => ((z.Groups.getD k []).getD m2 default).Blocks.length - m3) ⟨rfl, trivial⟩ ⟨by omega, trivial⟩ (fun m3 vA3 fA3 w11 H12 ⟨hm3, _⟩ => ?_)
   dsimp only [lCA, lNA, lSZ, lSS] at H12 ⊢
   refine W_seq (W_seq ?_)
   skip
   obtain ⟨eb4, eo5, ea4, ek4, ef4, ee4, ec4, eO4, eH4⟩ := elem_sl (H12.seen 0 rfl) k (by omega)
   have eP4 := H12.look1 0 rfl eO4 eH4
   obtain ⟨eb5, eo6, es2, ef5, ee5, ec5, eO5, eH5, em2⟩ := elem_st (eP4.seen 6 rfl) m2 (by omega)
   obtain ⟨ea5, ek5, eg2, rfl, eq2, eK2, eo7⟩ := own_Drive eO5
   have eP5 := eP4.look1 6 rfl eo7 (fun b hb => eH5 b (by rw [eq2]; simp [hb]))
   have eL2 := oL eo7
   refine W_reg (sM rfl rfl (sV rfl (py_field tu38 rfl ts35 rfl rfl) (sV rfl (py_load tu35 rfl rfl (cell_atL (eP5.box 0 rfl) rfl)) (sM rfl rfl (sV rfl (py_elz tu35 ts142 rfl rfl ee4 k (by omega) (by omega)) (sV rfl (py_load tu142 rfl rfl ec4) (sM rfl rfl (sV rfl (py_elz tu142 ts180 rfl rfl ee5 m2 (by omega) (by omega)) (sV rfl (py_field tu180 rfl ts178 rfl rfl) (sV rfl (py_load tu178 rfl rfl (at_cell ec5 1 rfl)) (sV rfl (py_len tu178 rfl) (sV rfl (py_lss rfl rfl) (s_nil (W_ifd rfl (fun c3 => ?_) (fun c3 => ?_)))))))))))))))
   ·refine W_skip (W_seq (W_block ?_))
    have hbl : ((z.Groups.getD k []).getD m2 default).Blocks.length ≤ 1048576 := by unfold szDrive szL at hdk; omega
    have hbk : szBlock (((z.Groups.getD k []).getD m2 default).Blocks.getD m3 default) ≤ 1048576 := (szL_get (by unfold szDrive at hdk; exact hdk) m3 (by omega)).1
    have tlb := List.length_take (i := m3) (l := ((z.Groups.getD k []).getD m2 default).Blocks)
    obtain ⟨eb6, eo8, ea6, ek6, ef6, ee6, ec6, eO6, eH6, em3⟩ := elem_slm (eP5.seen 0 rfl) k (by omega)
    have eP6 := eP5.look1 0 rfl eO6 eH6
    obtain ⟨eb7, eo9, es3, ef7, ee7, ec7, eO7, eH7, em4⟩ := elem_st (eP6.seen 8 rfl) m2 (by omega)
    obtain ⟨ea7, ek7, eg3, rfl, eq3, eK3, eo10⟩ := own_Drive eO7
    have eP7 := eP6.look1 8 rfl eo10 (fun b hb => eH7 b (by rw [eq3]; simp [hb]))
    have eL3 := oL eo10
    obtain ⟨eb8, eo11, es4, ef8, ee8, ec8, eO8, eH8, em5⟩ := elem_st (eP7.seen 9 rfl) m3 (by omega)
    obtain ⟨ea8, ek8, eg4, rfl, eq4, eK4, eo12⟩ := own_Block eO8
    have eK4U := eK4
    unfold Block.Ok at eK4U
    try unfold I64ok at eK4U
    try unfold maxLen at eK4U
    have eP8 := eP7.look1 9 rfl eo12 (fun b hb => eH8 b (by rw [eq4]; simp [hb]))
    have eL4 := oL eo12
    refine W_drw (S := Ext (· ∈ fA3) _) [(0, true), (1, true), (2, true), (3, true), (4, true), (5, true), (6, true), (7, true), (8, true), (9, true), (10, true), (11, true), (12, true), (13, true), (14, false), (15, false), (16, false), (17, true), (18, false)] (by kernel_rfl) (by kernel_rfl) (by kernel_rfl) rfl (fun _ => Ext.refl.drawn _) (fun q1 => ?_)
    have H14 := eP8.drawn q1
    refine dV rfl rfl (fun zw hx => py_field tu180 rfl ts178 rfl rfl) (dV rfl rfl (fun zw hx => py_load tu178 rfl rfl (cell_atL (hx.heapM (H14.boff 5 rfl 6 rfl rfl) (H14.box 5 rfl)) rfl)) (dV rfl rfl (fun zw hx => py_field tu38 rfl ts35 rfl rfl) (dV rfl rfl (fun zw hx => py_load tu35 rfl rfl (cell_atL (hx.heapM (H14.boff 0 rfl 6 rfl rfl) (H14.box 0 rfl)) rfl)) (dM rfl rfl rfl (dV rfl rfl (fun zw hx => py_elz tu35 ts142 rfl rfl ee6 k (by omega) (by omega)) (dV rfl rfl (fun zw hx => py_load tu142 rfl rfl (hx.cellM (H14.off 0 rfl 6 rfl em3) ec6)) (dM rfl rfl rfl (dV rfl rfl (fun zw hx => py_elz tu142 ts180 rfl rfl ee7 m2 (by omega) (by omega)) (dV rfl rfl (fun zw hx => py_field tu180 rfl ts178 rfl rfl) (dV rfl rfl (fun zw hx => py_load tu178 rfl rfl (at_cell (hx.atM (H14.off 8 rfl 6 rfl em4) ec7) 1 rfl)) (dM rfl rfl rfl (dV rfl rfl (fun zw hx => py_elz tu178 ts182 rfl rfl ee8 m3 (by omega) (by omega)) (dV rfl rfl (fun zw hx => py_loadS tu182 rfl ts182 rfl rfl (hx.atM (H14.off 9 rfl 6 rfl em5) ec8)) (d_call rfl (wn rfl) rfl rfl (pc_call Tryz.func193 rfl Tryz_nm193 rfl) (Tryz_spec_l5CopyBlock (by assumption) (H14.sees 10 rfl) (by first | assumption | omega)) (fun hS _ _ r _ => hS.trans r.1.no) (fun v1 w12 r1 => ?_)))))))))))))))
    obtain ⟨e9, sa1, sk1, rfl, r1⟩ := r1
    obtain ⟨fp1, H15⟩ := H14.res e9 r1
    refine d_lit1 rfl (wn rfl) rfl tu178 Tryz_ty182 rfl rfl rfl rfl H15 (fun _ h e => h.trans e.no) (fun b6 w13 e10 g6 H16 => ?_)
    refine d_app2 rfl (wn rfl) rfl tu178 Tryz_ty182 rfl rfl rfl H16 6 8 7 rfl rfl rfl rfl (by unfold maxLen; omega) (by omega) (fun _ h e => h.trans e) (fun v2 w14 fp2 H17 => ?_)
    refine dV rfl rfl (fun zw hx => py_field tu180 rfl ts178 rfl rfl) ?_
    obtain ⟨a1, k1, q2⟩ := own_slice (H17.mine 6 rfl)
    cases q2
    refine d_sto rfl (wn rfl) ts178 rfl rfl rfl H17 5 rfl rfl (fun _ _ _ hr => absurd rfl hr) (fun w15 e11 H18 => ?_)
    dsimp only [lNA, lCA, lSZ, lSS, layL] at H18
    refine d_nil (W_reg (sM rfl rfl (sV rfl (py_add rfl rfl (in64 ⟨by omega, by omega⟩)) (sA rfl rfl (s_nil ?_)))))
    exact ⟨(m3 + 1, _, _), ⟨rfl, rfl, rfl, rfl, rfl, rfl, rfl, rfl, trivial⟩, ⟨by dsimp only; rw [← take_step (xs := ((z.Groups.getD k []).getD m2 default).Blocks) (d := default) (by omega)]; exact ((H18.ftake 6).dtake 7), by omega, trivial⟩, by dsimp only; omega⟩
   ·refine W_exit ?_
    obtain rfl : m3 = ((z.Groups.getD k []).getD m2 default).Blocks.length := by omega
    rw [List.take_length] at eP5
    refine W_reg (sM rfl rfl (sV rfl (py_loadS tu180 rfl ts180 rfl rfl (At.whole (eP5.box 5 rfl))) (s_lit1 (wn rfl) rfl tu142 Tryz_ty180 rfl rfl rfl rfl eP5 (fun b7 w16 e12 g7 H19 => ?_))))
    obtain ⟨a2, k2, q3⟩ := own_slice (H19.mine 6 rfl)
    cases q3
    have H20 := H19.asSt 6 (((z.Groups.getD k []).getD m2 default) : Drive) rfl (Drive.own_mk (x := ((z.Groups.getD k []).getD m2 default)) (by assumption) (H19.mine 6 rfl))
    try dsimp only [lNA, lCA, lSZ, lSS] at H20
    refine s_app2 (wn rfl) rfl tu142 Tryz_ty180 rfl rfl rfl H20 4 7 6 rfl rfl rfl rfl (by unfold maxLen; omega) (by omega) (fun v3 w17 fp3 H21 => ?_)
    refine sA rfl rfl (s_nil (W_reg (sM rfl rfl (sV rfl (py_add rfl rfl (in64 ⟨by omega, by omega⟩)) (sA rfl rfl (s_nil ?_))))))
    exact ⟨(m2 + 1, _, _), ⟨rfl, rfl, rfl, rfl, rfl, rfl, trivial⟩, ⟨by dsimp only; rw [← take_step (xs := (z.Groups.getD k [])) (d := default) (by omega)]; exact ((H21.ftake 3).dtake 5), by omega, trivial⟩, by dsimp only; omega⟩
  ·refine W_exit ?_
   obtain rfl : m2 = (z.Groups.getD k []).length := by omega
   rw [List.take_length] at eP1
   refine W_reg (sV rfl (py_field tu38 rfl ts35 rfl rfl) (sV rfl (py_load tu35 rfl rfl (cell_atL (eP1.box 2 rfl) rfl)) (sM rfl rfl ?_)))
   obtain ⟨a3, k3, q4⟩ := own_slice (eP1.mine 4 rfl)
   cases q4
   refine s_lit1 (wn rfl) rfl tu35 Tryz_ty142 rfl rfl rfl rfl eP1 (fun b8 w18 e13 g8 H22 => ?_)
   refine s_app2 (wn rfl) rfl tu35 Tryz_ty142 rfl rfl rfl H22 3 5 4 rfl rfl rfl rfl (by unfold maxLen; omega) (by omega) (fun v4 w19 fp4 H23 => ?_)
   refine sV rfl (py_field tu38 rfl ts35 rfl rfl) ?_
   obtain ⟨a4, k4, q5⟩ := own_slice (H23.mine 3 rfl)
   cases q5
   refine s_sto (wn rfl) ts35 rfl rfl rfl H23 2 rfl rfl (fun w20 e14 H24 => ?_)
   dsimp only [lNA, lCA, lSZ, lSS, layL] at H24
   refine s_nil (W_reg (sM rfl rfl (sV rfl (py_add rfl rfl (in64 ⟨by omega, by omega⟩)) (sA rfl rfl (s_nil ?_)))))
   exact ⟨(k + 1, _, _), ⟨rfl, rfl, rfl, rfl, trivial⟩, ⟨by dsimp only; rw [← take_step (xs := z.Groups) (d := []) (by omega)]; exact ((H24.ftake 3).dtake 4), by omega, trivial⟩, by dsimp only; omega⟩
 ·refine W_exit (W_seq ?_)
  obtain rfl : k = z.Groups.length := by omega
  rw [List.take_length] at H6
  refine W_reg (s_lit0 (α := Int) (wn rfl) rfl tu25 Tryz_ty2 H6 (fun b9 w21 e15 g9 H25 => ?_))
  refine sV rfl (py_field tu38 rfl ts25 rfl rfl) (sV rfl (py_load tu25 rfl rfl (cell_atL (H25.box 0 rfl) rfl)) (s_appF (wn rfl) rfl tu25 Tryz_ty2 rfl rfl rfl H25 4 rfl (H25.seen 1 rfl) (by (try simp only [List.length_nil]); unfold maxLen; omega) (by (try simp only [List.length_nil]); omega) (fun v5 w22 fp5 H26 => ?_)))
  refine sV rfl (py_field tu38 rfl ts25 rfl rfl) ?_
  obtain ⟨a5, k5, q6⟩ := own_slice (H26.mine 4 rfl)
  cases q6
  refine s_sto (wn rfl) ts25 rfl rfl rfl H26 2 rfl rfl (fun w23 e16 H27 => ?_)
  dsimp only [lNA, lCA, lSZ, lSS, layL] at H27
  refine s_nil (W_sr (sV rfl (py_field tu38 rfl ts36 rfl rfl) (s_sto (wn rfl) ts36 rfl rfl rfl H27 2 rfl rfl (fun w24 e17 H28 => ?_))))
  dsimp only [lNA, lCA, lSZ, lSS, layL] at H28
  refine s_nil (W_seq (W_sr (sA rfl rfl (s_nil (W_block ?_)))))
  have H30 := H28.nilW (α := Tape)
  try dsimp only [lNA, lCA, lSZ, lSS] at H30
  refine W_loopB (α := Tape) (γ := Nat) (fun k => z.Tapes.take k) 0 H30 5 2 11 rfl rfl rfl rfl [(1, _), (2, _), (3, _)] ⟨rfl, rfl, rfl, trivial⟩ (fun k => [(9, .int .i64 k)]) (fun k => k ≤ z.Tapes.length ∧ True) (fun k => z.Tapes.length - k) ⟨rfl, trivial⟩ ⟨by omega, trivial⟩ (fun k vA4 fA4 w25 H29 ⟨hk, _⟩ => ?_)
  dsimp only [lCA, lNA, lSZ, lSS] at H29 ⊢
  refine W_seq (W_sr (sM rfl rfl (sV rfl (py_field tu38 rfl ts36 rfl rfl) (sV rfl (py_load tu36 rfl rfl (cell_atL (H29.box 0 rfl) rfl)) (sV rfl (py_len tu36 rfl) (sV rfl (py_lss rfl rfl) (s_nil (W_ifd rfl (fun c4 => ?_) (fun c4 => ?_)))))))))
  ·refine W_skip (W_seq (W_block ?_))
   have htk : szTape (z.Tapes.getD k default) ≤ 1048576 := (szL_get ht0 k (by omega)).1
   unfold szTape at htk
   have tlt := List.length_take (i := k) (l := z.Tapes)
   obtain ⟨eb9, eo13, es5, ef9, ee9, ec9, eO9, eH9, em6⟩ := elem_st (H29.seen 2 rfl) k (by omega)
   obtain ⟨ea9, ek9, eg5, rfl, eq5, eK5, eo14⟩ := own_Tape eO9
   have eP9 := H29.look1 2 rfl eo14 (fun b hb => eH9 b (by rw [eq5]; simp [hb]))
   have eL5 := oL eo14
   refine W_drw (S := Ext (· ∈ fA4) _) [(0, true), (1, true), (2, true), (3, true), (4, true), (5, true), (6, true), (7, true), (8, true), (9, true), (10, true), (11, true), (12, true), (13, true), (14, false), (15, true), (16, false), (17, false), (18, true), (19, false)] (by kernel_rfl) (by kernel_rfl) (by kernel_rfl) rfl (fun _ => Ext.refl.drawn _) (fun q7 => ?_)
   have H31 := eP9.drawn q7
   refine dV rfl rfl (fun zw hx => py_field tu38 rfl ts36 rfl rfl) (dV rfl rfl (fun zw hx => py_load tu36 rfl rfl (cell_atL (hx.heapM (H31.boff 2 rfl 5 rfl rfl) (H31.box 2 rfl)) rfl)) (dV rfl rfl (fun zw hx => py_field tu38 rfl ts36 rfl rfl) (dV rfl rfl (fun zw hx => py_load tu36 rfl rfl (cell_atL (hx.heapM (H31.boff 0 rfl 5 rfl rfl) (H31.box 0 rfl)) rfl)) (dM rfl rfl rfl (dV rfl rfl (fun zw hx => py_elz tu36 ts139 rfl rfl ee9 k (by omega) (by omega)) (dV rfl rfl (fun zw hx => py_field tu139 rfl ts4 rfl rfl) (dV rfl rfl (fun zw hx => py_load tu4 rfl rfl (at_cell (hx.atM (H31.off 2 rfl 5 rfl em6) ec9) 0 rfl)) (dV rfl rfl (fun zw hx => py_field tu38 rfl ts36 rfl rfl) (dV rfl rfl (fun zw hx => py_load tu36 rfl rfl (cell_atL (hx.heapM (H31.boff 0 rfl 5 rfl rfl) (H31.box 0 rfl)) rfl)) (dM rfl rfl rfl (dV rfl rfl (fun zw hx => py_elz tu36 ts139 rfl rfl ee9 k (by omega) (by omega)) (dV rfl rfl (fun zw hx => py_field tu139 rfl ts30 rfl rfl) (dV rfl rfl (fun zw hx => py_load tu30 rfl rfl (at_cell (hx.atM (H31.off 2 rfl 5 rfl em6) ec9) 1 rfl)) (d_call rfl (wn rfl) rfl rfl (pc_call Tryz.func94 rfl Tryz_nm94 rfl) (Tryz_spec_l5CopyRecs (H31.sees 3 rfl) (by first | assumption | omega)) (fun hS _ _ r _ => hS.trans r.1.no) (fun v6 w26 r2 => ?_)))))))))))))))
   obtain ⟨e18, r2⟩ := r2
   obtain ⟨fp6, H32⟩ := H31.res e18 r2
   obtain ⟨a6, k6, q8⟩ := own_slice (H32.mine 6 rfl)
   cases q8
   refine dV rfl rfl (fun zw hx => py_buildS Tryz_pl139 rfl rfl) (d_lit1 rfl (wn rfl) rfl tu36 Tryz_ty139 rfl rfl rfl rfl H32 (fun _ h e => h.trans e.no) (fun b10 w27 e19 g10 H33 => ?_))
   have H34 := H33.asSt 6 ((z.Tapes.getD k default) : Tape) rfl (Tape.own_mk (x := (z.Tapes.getD k default)) (by assumption) (H33.mine 6 rfl))
   try dsimp only [lNA, lCA, lSZ, lSS] at H34
   refine d_app2 rfl (wn rfl) rfl tu36 Tryz_ty139 rfl rfl rfl H34 5 7 6 rfl rfl rfl rfl (by unfold maxLen; omega) (by omega) (fun _ h e => h.trans e) (fun v7 w28 fp7 H35 => ?_)
   refine dV rfl rfl (fun zw hx => py_field tu38 rfl ts36 rfl rfl) ?_
   obtain ⟨a7, k7, q9⟩ := own_slice (H35.mine 5 rfl)
   cases q9
   refine d_sto rfl (wn rfl) ts36 rfl rfl rfl H35 2 rfl rfl (fun _ _ _ hr => absurd rfl hr) (fun w29 e20 H36 => ?_)
   dsimp only [lNA, lCA, lSZ, lSS, layL] at H36
   refine d_nil (W_reg (sM rfl rfl (sV rfl (py_add rfl rfl (in64 ⟨by omega, by omega⟩)) (sA rfl rfl (s_nil ?_)))))
   exact ⟨(k + 1, _, _), ⟨rfl, rfl, rfl, rfl, trivial⟩, ⟨by dsimp only; rw [← take_step (xs := z.Tapes) (d := default) (by omega)]; exact ((H36.ftake 3).dtake 6), by omega, trivial⟩, by dsimp only; omega⟩
  ·refine W_exit (W_seq ?_)
   obtain rfl : k = z.Tapes.length := by omega
   rw [List.take_length] at H29
   refine W_reg (sV rfl (py_loadS tu38 rfl ts38 rfl rfl (At.whole (H29.box 2 rfl))) ?_)
   obtain ⟨a8, k8, q10⟩ := own_slice (H29.mine 3 rfl)
   cases q10
   obtain ⟨a9, k9, q11⟩ := own_slice (H29.mine 5 rfl)
   cases q11
   refine s_stoS (wn rfl) ts38 rfl rfl rfl rfl H29 1 rfl rfl (fun w30 e21 H37 => ?_)
   dsimp only [lNA, lCA, lSZ, lSS, layL] at H37
   refine s_nil (W_ret (hQ _ _ (finC Tryz.results113 rfl (run_loadVarS tu38 rfl ts38 rfl (At.whole (H37.box 1 rfl))) ?_)))
   exact ⟨H37.ext, _, _, _, _, _, _, rfl, Wld.out (H37.sub (.cons _ (.cons _ (.cons _ (.cons_cons _ (.cons_cons _ (.cons_cons _ List.Sublist.slnil))))))) (by assumption)⟩
end Go.Wk
namespace Go.Wk
open Rp (sz own)
section
variable {z : Wld} {r : Rec} {g row : Int}
theorem dd_mem {r : Rec} : ∀ {rs out : List Rec}, r ∈ rs.foldl ddR out → r ∈ out ∨ r ∈ rs
  | [], _, h => .inl h
  | x :: rs, out, h => by
    rcases dd_mem (rs := rs) h with h | h
    · unfold ddR at h
      split at h
      · exact .inl h
      · rcases List.mem_append.1 h with h | h
        · exact .inl h
        · exact .inr (by rw [List.mem_singleton] at h; simp [h])
    · exact .inr (List.mem_cons_of_mem _ h)
theorem cnt_stable : Stable kLt keyR (dds (allR z z.Tapes.length)) (cntL z) := (stable_ex _).choose_spec
theorem cnt_mem (h : r ∈ cntL z) : ∃ k j, k < z.Tapes.length ∧ j < (z.Tapes.getD k default).Recs.length ∧ (z.Tapes.getD k default).Recs.getD j default = r := by
  have h1 : r ∈ dds (allR z z.Tapes.length) := cnt_stable.2.mem h
  rcases dd_mem h1 with h2 | h2
  · cases h2
  · unfold allR at h2
    rw [List.take_length] at h2
    obtain ⟨l, hl, hr⟩ := List.mem_flatten.1 h2
    obtain ⟨t, ht, rfl⟩ := List.mem_map.1 hl
    obtain ⟨k, hk, e⟩ := List.getElem_of_mem ht
    obtain ⟨j, hj, e2⟩ := List.getElem_of_mem hr
    have e3 : z.Tapes.getD k default = t := by rw [getD_el hk]; exact e
    exact ⟨k, j, hk, by rw [e3]; exact hj, by rw [e3, getD_el hj]; exact e2⟩
theorem cnt_sz (h : r ∈ cntL z) : szRec r ≤ szWld z := by
  obtain ⟨k, j, hk, hj, e⟩ := cnt_mem h
  have h1 := (szL_get (f := szTape) (Nat.le_refl _) k hk).1
  have h2 := (szL_get (f := szRec) (Nat.le_refl _) j hj).1
  rw [e] at h2
  have h3 : szTape (z.Tapes.getD k default) = szL szRec (z.Tapes.getD k default).Recs := rfl
  unfold szWld
  omega
end
end Go.Wk
namespace Go.Wk
open Rp (sz own)
section
variable {z : Wld} {r : Rec} {g row : Int} {k j : Nat}
theorem cnt_recF (h : worldF z = 0) (hr : r ∈ cntL z) : recF z.Shape r = 0 := by
  obtain ⟨k, j, hk, hj, e⟩ := cnt_mem hr
  have ht := (worldF_ok h).2.2.2.2
  rcases Decidable.em (recF z.Shape r = 0) with c | c
  · exact c
  · exfalso
    have h0 : tapeF z.Shape z.Tapes z.Tapes.length = 0 := by
      unfold tapesF at ht
      split at ht
      · cases ht
      · split at ht
        · next c2 => exact absurd ht c2
        · omega
    have hk0 : tapeF z.Shape z.Tapes (k + 1) = 0 := by
      rcases Decidable.em (tapeF z.Shape z.Tapes (k + 1) = 0) with c2 | c2
      · exact c2
      · rw [tapeF_stay c2 _ hk] at h0; exact absurd h0 c2
    have hk1 : tapeF z.Shape z.Tapes k = 0 := by
      rcases Decidable.em (tapeF z.Shape z.Tapes k = 0) with c2 | c2
      · exact c2
      · rw [tapeF_stay c2 _ (Nat.le_succ k)] at hk0; exact absurd hk0 c2
    rw [tapeF_next hk1] at hk0
    have hj0 : recsF z.Shape (z.Tapes.getD k default).Recs (j + 1) = 0 := by
      rcases Decidable.em (recsF z.Shape (z.Tapes.getD k default).Recs (j + 1) = 0) with c2 | c2
      · exact c2
      · rw [recsF_stay c2 _ hj] at hk0; exact absurd hk0 c2
    have hj1 : recsF z.Shape (z.Tapes.getD k default).Recs j = 0 := by
      rcases Decidable.em (recsF z.Shape (z.Tapes.getD k default).Recs j = 0) with c2 | c2
      · exact c2
      · rw [recsF_stay c2 _ (Nat.le_succ j)] at hj0; exact absurd hj0 c2
    rw [recsF_next hj1, e] at hj0
    exact c hj0
end
end Go.Wk

namespace Go.Wk
open Go.Proofs Rp
set_option maxRecDepth 10000
theorem Tryz_big_impl_cloneRecs {w : World} {xs : List Rec} {xsA : Option Addr} {xsC : Nat} (xsS : Sees w [.slice xsA xs.length xsC] xs) (hl : xs.length ≤ 1000000) (hsz : ∀ i, i < xs.length → szRec (xs.getD i default) ≤ 1048576) : Ret Tryz.prog 108 #[.slice xsA xs.length xsC] w fun v w' => Ext No w w' ∧ (Res w w' [v] xs) := by
 have xsL := sL xsS
 obtain ⟨xsF, xsO⟩ := xsS
 refine ret_Q (vs := [.slice xsA xs.length xsC]) Tryz.func108 rfl Tryz.ntmps108 rfl (fun Q hQ hN => ?_)
 have H0 := Sep.start (w := w) (F := [seen false [.slice xsA xs.length xsC] xs xsF]) (all_cons xsO (by simp))
 refine W_sr (sA rfl rfl (s_nil (W_sr (s_lit0 (α := Rec) (wn rfl) rfl tu30 Tryz_ty68 H0 (fun b1 w1 e1 g1 H1 => ?_)))))
 refine sA rfl rfl (s_nil (W_seq (W_sr (sM rfl rfl (sV rfl (py_len tu30 rfl) (sM rfl rfl (s_nil (W_block (W_loopA (α := Rec) (γ := Nat) (fun k => xs.take k) 0 H1 0 rfl 3 rfl [(2, _), (7, _), (8, _)] ⟨rfl, rfl, rfl, trivial⟩ (fun k => [(9, .int .i64 k)]) (fun k => k ≤ xs.length ∧ True) (fun k => xs.length - k) ⟨rfl, trivial⟩ ⟨by omega, trivial⟩ (fun k vA1 fA1 w2 H2 ⟨hk, _⟩ => ?_))))))))))
 dsimp only [lCA, lNA, lSZ, lSS] at H2 ⊢
 refine W_sr (sV rfl (py_lss rfl rfl) (s_nil (W_seq (W_ifd rfl (fun c1 => ?_) (fun c1 => ?_)))))
 ·refine W_skip (W_seq (W_block (W_seq ?_)))
  have hg := hsz k (by omega)
  have tl := List.length_take (i := k) (l := xs)
  obtain ⟨eb1, eo1, es1, ef1, ee1, ec1, eO1, eH1, em1⟩ := elem_st (H2.seen 0 rfl) k (by omega)
  obtain ⟨ea1, ek1, ea2, ek2, ea3, ek3, eg1, eg2, eg3, rfl, eq1, eK1, eo2, eo3, eo4⟩ := own_Rec eO1
  have eK1U := eK1
  unfold Rec.Ok at eK1U
  try unfold I64ok at eK1U
  try unfold maxLen at eK1U
  have eP1 := H2.look1 0 rfl eo2 (fun b hb => eH1 b (by rw [eq1]; simp [hb]))
  have eL1 := oL eo2
  have eP2 := eP1.look1 0 rfl eo3 (fun b hb => eH1 b (by rw [eq1]; simp [hb]))
  have eL2 := oL eo3
  have eP3 := eP2.look1 0 rfl eo4 (fun b hb => eH1 b (by rw [eq1]; simp [hb]))
  have eL3 := oL eo4
  refine W_reg (sV rfl (py_elz tu30 ts68 rfl rfl ee1 k (by omega) (by omega)) (sV rfl (py_loadS tu68 rfl ts68 rfl rfl ec1) (s_var (wn rfl) rfl Tryz.zeroValue68 eP3 (fun b2 w3 e2 g2 H3 => ?_))))
  refine s_stoS (wn rfl) ts68 rfl rfl rfl rfl H3 1 rfl rfl (fun w4 e3 H4 => ?_)
  dsimp only [lNA, lCA, lSZ, lSS, layL] at H4
  refine s_nil (W_reg (sM rfl rfl (sV rfl (py_loadS tu68 rfl ts68 rfl rfl (At.whole (H4.box 1 rfl))) (s_call (wn rfl) rfl rfl (pc_call Tryz.func74 rfl Tryz_nm74 rfl) (Tryz_impl_cloneRec (by assumption) (H4.sees 1 rfl) (H4.sees 2 rfl) (H4.sees 3 rfl) (by first | assumption | omega)) (fun v1 w5 r1 => ?_)))))
  obtain ⟨e4, sa1, sk1, sa2, sk2, sa3, sk3, rfl, r1⟩ := r1
  obtain ⟨fp1, H5⟩ := H4.res e4 r1
  refine s_lit1 (wn rfl) rfl tu30 Tryz_ty68 rfl rfl rfl rfl H5 (fun b3 w6 e5 g3 H6 => ?_)
  refine s_app2 (wn rfl) rfl tu30 Tryz_ty68 rfl rfl rfl H6 0 3 2 rfl rfl rfl rfl (by unfold maxLen; omega) (by omega) (fun v2 w7 fp2 H7 => ?_)
  refine sA rfl rfl (s_nil (W_reg (sV rfl (py_add rfl rfl (in64 ⟨by omega, by omega⟩)) (sM rfl rfl (s_nil ?_)))))
  exact ⟨(k + 1, _, _), ⟨rfl, rfl, rfl, rfl, rfl, trivial⟩, ⟨by dsimp only; rw [← take_step (xs := xs) (d := default) (by omega)]; exact ((H7.ftake 1).dtake 1), by omega, trivial⟩, by dsimp only; omega⟩
 ·refine W_exit (W_seq ?_)
  obtain rfl : k = xs.length := by omega
  rw [List.take_length] at H2
  refine W_reg (sM rfl rfl (sA rfl rfl (s_nil (rT hQ Tryz.results108 rfl ?_))))
  exact ⟨H2.ext, H2.out 0 rfl⟩
end Go.Wk
namespace Go.Wk
open Go.Proofs Rp
set_option maxRecDepth 10000
theorem Tryz_laws_markBlockS {w : World} {xs : List Block} {xsA : Option Addr} {xsC : Nat} {k : Int} {fp : List Nat} (o : own true w [.slice xsA xs.length xsC] xs fp) (nd : fp.Nodup) (hk : 0 ≤ k ∧ k + mkL mkBlock xs ≤ 4611686018427387904) : Ret Tryz.prog 253 #[.slice xsA xs.length xsC, .int .i64 k] w fun v w' => (v = .int .i64 (k + mkL mkBlock xs) ∧ ∃ xs', Mut w w' fp [.slice xsA xs.length xsC] xs' ∧ (xs'.length = xs.length ∧ mkL mkBlock xs' = mkL mkBlock xs ∧ MkL MkBlock mkBlock xs' k)) := by
 have len := oL o
 refine ret_Q (vs := [.slice xsA xs.length xsC, .int .i64 k]) Tryz.func253 rfl Tryz.ntmps253 rfl (fun Q hQ hN => ?_)
 have H0 := Sep.begin o nd
 refine W_sr (sA rfl rfl (s_nil (W_seq (W_sr (sA rfl rfl (s_nil (W_block (W_loop (γ := Nat × List Block × List Nat) (fun (i, ys, f) => [(0, .slice xsA xs.length xsC), (1, .int .i64 (k + sumN (fun i => mkBlock (xs.getD i default)) i)), (5, .int .i64 i)]) (fun (i, ys, f) w' => Sep (· ∈ fp) w [mine [.slice xsA xs.length xsC] ys f] [] w' ∧ MkInv MkBlock mkBlock xs k i ys ∧ True) (fun (i, ys, f) => xs.length - i) (0, xs, fp) ⟨rfl, eqI (by simp [sumN]), rfl, trivial⟩ ⟨H0, mk_begin, trivial⟩ (fun (i, ys, f) w1 H1 => ?_)))))))))
 obtain ⟨H1, hI, _⟩ := H1
 refine W_seq (W_seq ?_)
 have hiB := hI.1
 have hys := hI.2.1
 refine W_reg (sM rfl rfl (sM rfl rfl (sV rfl (py_len tu178 rfl) (sV rfl (py_lss rfl rfl) (s_nil (W_ifd rfl (fun c1 => ?_) (fun c1 => ?_)))))))
 ·refine W_skip (W_seq (W_block (W_seq ?_)))
  have hiL : i < xs.length := by omega
  have hat := mk_at hI
  obtain ⟨sg, sl⟩ := mkL_at (c := mkBlock) hiL
  have hci : mkBlock (ys.getD i default) = mkBlock (xs.getD i default) := hI.2.2.1 i
  have hcu : mkBlock (ys.getD i default) = 1 + (ys.getD i default).Bytes.length := rfl
  obtain ⟨eb1, eo1, eT1, eF1, eG1, ea1, ek1, eg1, ee1, eK1, eH1⟩ := Block.focus H1 0 rfl i (by omega)
  have eK1U := eK1
  unfold Block.Ok at eK1U
  try unfold I64ok at eK1U
  try unfold maxLen at eK1U
  try dsimp only [lNA, lCA, lSZ, lSS] at eH1
  refine W_reg (sM rfl rfl (sM rfl rfl (sM rfl rfl (sV rfl (py_elz tu178 ts182 rfl rfl ee1 i (by omega) (by omega)) (sV rfl (py_field tu182 rfl ts2 rfl rfl) (s_hsto (wn rfl) ts2 eH1 0 0 rfl rfl rfl rfl rfl (fun w2 H2 => ?_)))))))
  dsimp only [lNA, lCA, lSZ, lSS, layL] at H2
  refine s_nil (W_sr (sM rfl rfl (sV rfl (py_add rfl rfl (in64 ⟨by omega, by omega⟩)) (sA rfl rfl (s_nil (W_reg (sM rfl rfl (sM rfl rfl (sV rfl (py_elz tu178 ts182 rfl rfl ee1 i (by omega) (by omega)) (sV rfl (py_field tu182 rfl ts45 rfl rfl) (sV rfl (py_load tu45 rfl rfl (at_cell (H2.holAt 0 rfl) 1 rfl)) (sM rfl rfl (s_call (wn rfl) rfl rfl (pc_call Tryz.func88 rfl Tryz_nm88 rfl) (Tryz_laws_markByteS (H2.mine 2 rfl) (H2.nodup1 (i := 2) rfl) (by constructor <;> omega)) (fun v1 w3 r1 => ?_))))))))))))))
  obtain ⟨rfl, mx1, mm1, ml1, mk1⟩ := r1
  obtain ⟨fp1, H3⟩ := H2.mut 2 rfl mm1
  try dsimp only [lNA, lCA, lSZ, lSS] at H3
  refine sA rfl rfl (s_nil (W_reg (sM rfl rfl (sV rfl (py_add rfl rfl (in64 ⟨by omega, by omega⟩)) (sA rfl rfl (s_nil ?_))))))
  have okz : (⟨(k + sumN (fun i => mkBlock (xs.getD i default)) i), mx1⟩ : Block).Ok := by unfold Block.Ok I64ok; dsimp only; omega
  obtain ⟨fp2, H4⟩ := Block.fill H3 0 2 rfl rfl rfl okz
  try dsimp only [lNA, lCA, lSZ, lSS] at H4
  refine ⟨(i + 1, _, _), ⟨rfl, eqI (by omega), rfl, trivial⟩, ⟨(H4.dtake 1), mk_step hI hiL (by rw [← hci]; unfold mkBlock; dsimp only; omega) ⟨rfl, mk1⟩, trivial⟩, by dsimp only; omega⟩
 ·refine W_exit (W_sr (sM rfl rfl (sA rfl rfl (s_nil (rT hQ Tryz.results253 rfl ?_)))))
  obtain rfl : i = xs.length := by omega
  exact ⟨rfl, _, H1.done, mk_end hI⟩
theorem Tryz_laws_markDriveS {w : World} {xs : List Drive} {xsA : Option Addr} {xsC : Nat} {k : Int} {fp : List Nat} (o : own true w [.slice xsA xs.length xsC] xs fp) (nd : fp.Nodup) (hk : 0 ≤ k ∧ k + mkL mkDrive xs ≤ 4611686018427387904) : Ret Tryz.prog 154 #[.slice xsA xs.length xsC, .int .i64 k] w fun v w' => (v = .int .i64 (k + mkL mkDrive xs) ∧ ∃ xs', Mut w w' fp [.slice xsA xs.length xsC] xs' ∧ (xs'.length = xs.length ∧ mkL mkDrive xs' = mkL mkDrive xs ∧ MkL MkDrive mkDrive xs' k)) := by
 have len := oL o
 refine ret_Q (vs := [.slice xsA xs.length xsC, .int .i64 k]) Tryz.func154 rfl Tryz.ntmps154 rfl (fun Q hQ hN => ?_)
 have H0 := Sep.begin o nd
 refine W_sr (sA rfl rfl (s_nil (W_seq (W_sr (sA rfl rfl (s_nil (W_block (W_loop (γ := Nat × List Drive × List Nat) (fun (i, ys, f) => [(0, .slice xsA xs.length xsC), (1, .int .i64 (k + sumN (fun i => mkDrive (xs.getD i default)) i)), (5, .int .i64 i)]) (fun (i, ys, f) w' => Sep (· ∈ fp) w [mine [.slice xsA xs.length xsC] ys f] [] w' ∧ MkInv MkDrive mkDrive xs k i ys ∧ True) (fun (i, ys, f) => xs.length - i) (0, xs, fp) ⟨rfl, eqI (by simp [sumN]), rfl, trivial⟩ ⟨H0, mk_begin, trivial⟩ (fun (i, ys, f) w1 H1 => ?_)))))))))
 obtain ⟨H1, hI, _⟩ := H1
 refine W_seq (W_seq ?_)
 have hiB := hI.1
 have hys := hI.2.1
 refine W_reg (sM rfl rfl (sM rfl rfl (sV rfl (py_len tu142 rfl) (sV rfl (py_lss rfl rfl) (s_nil (W_ifd rfl (fun c1 => ?_) (fun c1 => ?_)))))))
 ·refine W_skip (W_seq (W_block (W_seq ?_)))
  have hiL : i < xs.length := by omega
  have hat := mk_at hI
  obtain ⟨sg, sl⟩ := mkL_at (c := mkDrive) hiL
  have hci : mkDrive (ys.getD i default) = mkDrive (xs.getD i default) := hI.2.2.1 i
  have hcu : mkDrive (ys.getD i default) = 1 + mkL mkBlock (ys.getD i default).Blocks := rfl
  obtain ⟨eb1, eo1, eT1, eF1, eG1, ea1, ek1, eg1, ee1, eK1, eH1⟩ := Drive.focus H1 0 rfl i (by omega)
  have eK1U := eK1
  unfold Drive.Ok at eK1U
  try unfold I64ok at eK1U
  try unfold maxLen at eK1U
  try dsimp only [lNA, lCA, lSZ, lSS] at eH1
  refine W_reg (sM rfl rfl (sM rfl rfl (sM rfl rfl (sV rfl (py_rem rfl rfl (by omega)) (sV rfl (py_eql rfl rfl) (sV rfl (py_elz tu142 ts180 rfl rfl ee1 i (by omega) (by omega)) (sV rfl (py_field tu180 rfl ts4 rfl rfl) (s_hsto (wn rfl) ts4 eH1 0 0 rfl rfl rfl rfl rfl (fun w2 H2 => ?_)))))))))
  dsimp only [lNA, lCA, lSZ, lSS, layL] at H2
  refine s_nil (W_sr (sM rfl rfl (sV rfl (py_add rfl rfl (in64 ⟨by omega, by omega⟩)) (sA rfl rfl (s_nil (W_reg (sM rfl rfl (sM rfl rfl (sV rfl (py_elz tu142 ts180 rfl rfl ee1 i (by omega) (by omega)) (sV rfl (py_field tu180 rfl ts178 rfl rfl) (sV rfl (py_load tu178 rfl rfl (at_cell (H2.holAt 0 rfl) 1 rfl)) (sM rfl rfl (s_call (wn rfl) rfl rfl (pc_call Tryz.func253 rfl Tryz_nm253 rfl) (Tryz_laws_markBlockS (H2.mine 2 rfl) (H2.nodup1 (i := 2) rfl) (by constructor <;> omega)) (fun v1 w3 r1 => ?_))))))))))))))
  obtain ⟨rfl, mx1, mm1, ml1⟩ := r1
  obtain ⟨fp1, H3⟩ := H2.mut 2 rfl mm1
  try dsimp only [lNA, lCA, lSZ, lSS] at H3
  refine sA rfl rfl (s_nil (W_reg (sM rfl rfl (sV rfl (py_add rfl rfl (in64 ⟨by omega, by omega⟩)) (sA rfl rfl (s_nil ?_))))))
  have okz : (⟨decide ((k + sumN (fun i => mkDrive (xs.getD i default)) i).tmod 3 = 0), mx1⟩ : Drive).Ok := trivial
  obtain ⟨fp2, H4⟩ := Drive.fill H3 0 2 rfl rfl rfl okz
  try dsimp only [lNA, lCA, lSZ, lSS] at H4
  refine ⟨(i + 1, _, _), ⟨rfl, eqI (by omega), rfl, trivial⟩, ⟨(H4.dtake 1), mk_step hI hiL (by rw [← hci]; unfold mkDrive; dsimp only; rw [ml1.2.1]) ⟨rfl, ml1.2.2⟩, trivial⟩, by dsimp only; omega⟩
 ·refine W_exit (W_sr (sM rfl rfl (sA rfl rfl (s_nil (rT hQ Tryz.results154 rfl ?_)))))
  obtain rfl : i = xs.length := by omega
  exact ⟨rfl, _, H1.done, mk_end hI⟩
theorem Tryz_laws_markDriveSS {w : World} {xs : List (List Drive)} {xsA : Option Addr} {xsC : Nat} {k : Int} {fp : List Nat} (o : own true w [.slice xsA xs.length xsC] xs fp) (nd : fp.Nodup) (hk : 0 ≤ k ∧ k + mkL (mkL mkDrive) xs ≤ 4611686018427387904) : Ret Tryz.prog 80 #[.slice xsA xs.length xsC, .int .i64 k] w fun v w' => (v = .int .i64 (k + mkL (mkL mkDrive) xs) ∧ ∃ xs', Mut w w' fp [.slice xsA xs.length xsC] xs' ∧ (xs'.length = xs.length ∧ mkL (mkL mkDrive) xs' = mkL (mkL mkDrive) xs ∧ MkL (MkL MkDrive mkDrive) (mkL mkDrive) xs' k)) := by
 have len := oL o
 refine ret_Q (vs := [.slice xsA xs.length xsC, .int .i64 k]) Tryz.func80 rfl Tryz.ntmps80 rfl (fun Q hQ hN => ?_)
 have H0 := Sep.begin o nd
 refine W_sr (sA rfl rfl (s_nil (W_seq (W_sr (sA rfl rfl (s_nil (W_block (W_loop (γ := Nat × List (List Drive) × List Nat) (fun (i, ys, f) => [(0, .slice xsA xs.length xsC), (1, .int .i64 (k + sumN (fun i => (mkL mkDrive) (xs.getD i default)) i)), (5, .int .i64 i)]) (fun (i, ys, f) w' => Sep (· ∈ fp) w [mine [.slice xsA xs.length xsC] ys f] [] w' ∧ MkInv (MkL MkDrive mkDrive) (mkL mkDrive) xs k i ys ∧ True) (fun (i, ys, f) => xs.length - i) (0, xs, fp) ⟨rfl, eqI (by simp [sumN]), rfl, trivial⟩ ⟨H0, mk_begin, trivial⟩ (fun (i, ys, f) w1 H1 => ?_)))))))))
 obtain ⟨H1, hI, _⟩ := H1
 refine W_seq (W_seq ?_)
 have hiB := hI.1
 have hys := hI.2.1
 refine W_reg (sM rfl rfl (sM rfl rfl (sV rfl (py_len tu35 rfl) (sV rfl (py_lss rfl rfl) (s_nil (W_ifd rfl (fun c1 => ?_) (fun c1 => ?_)))))))
 ·refine W_skip (W_seq (W_block ?_))
  have hiL : i < xs.length := by omega
  have hat := mk_at hI
  obtain ⟨sg, sl⟩ := mkL_at (c := (mkL mkDrive)) hiL
  have hci : (mkL mkDrive) (ys.getD i default) = (mkL mkDrive) (xs.getD i default) := hI.2.2.1 i
  have hcu : mkL mkDrive (ys.getD i default) = mkL mkDrive (ys.getD i []) := rfl
  obtain ⟨eb1, eo1, eT1, eF1, eG1, ea1, ek1, eg1, ee1, eH1⟩ := H1.focusL 0 rfl i (by omega)
  try dsimp only [lNA, lCA, lSZ, lSS] at eH1
  refine W_reg (sM rfl rfl (sM rfl rfl (sV rfl (py_elz tu35 ts142 rfl rfl ee1 i (by omega) (by omega)) (sV rfl (py_load tu142 rfl rfl (at_cell (eH1.holAt 0 rfl) 0 rfl)) (sM rfl rfl (s_call (wn rfl) rfl rfl (pc_call Tryz.func154 rfl Tryz_nm154 rfl) (Tryz_laws_markDriveS (eH1.mine 1 rfl) (eH1.nodup1 (i := 1) rfl) (by constructor <;> omega)) (fun v1 w2 r1 => ?_)))))))
  obtain ⟨rfl, mx1, mm1, ml1⟩ := r1
  obtain ⟨fp1, H2⟩ := eH1.mut 1 rfl mm1
  try dsimp only [lNA, lCA, lSZ, lSS] at H2
  refine sA rfl rfl (s_nil (W_reg (sM rfl rfl (sV rfl (py_add rfl rfl (in64 ⟨by omega, by omega⟩)) (sA rfl rfl (s_nil ?_))))))
  obtain ⟨fp2, H3⟩ := H2.fill 0 1 rfl rfl rfl
  try dsimp only [lNA, lCA, lSZ, lSS] at H3
  refine ⟨(i + 1, _, _), ⟨rfl, eqI (by omega), rfl, trivial⟩, ⟨(H3.dtake 1), mk_step hI hiL (by rw [← hci]; exact ml1.2.1) ml1.2.2, trivial⟩, by dsimp only; omega⟩
 ·refine W_exit (W_sr (sM rfl rfl (sA rfl rfl (s_nil (rT hQ Tryz.results80 rfl ?_)))))
  obtain rfl : i = xs.length := by omega
  exact ⟨rfl, _, H1.done, mk_end hI⟩
theorem Tryz_laws_markText {w : World} {k : Int} (hk : -1000 ≤ k ∧ k ≤ 4611686018427388904) : Ret Tryz.prog 155 #[.int .i64 k] w fun v w' => Ext No w w' ∧ (v = .string (mText k) ∧ (mText k).size ≤ maxLen) := by
 refine ret_Q (vs := [.int .i64 k]) Tryz.func155 rfl Tryz.ntmps155 rfl (fun Q hQ hN => ?_)
 have H0 := Sep.start (w := w) (F := []) (by simp)
 refine W_sr (sA rfl rfl (s_nil (W_seq (W_sr (sM rfl rfl (sV rfl (py_leq rfl rfl) (s_nil (W_ifd rfl (fun c1 => ?_) (fun c1 => ?_)))))))))
 ·refine W_sr (sA rfl rfl (s_nil (rT hQ Tryz.results155 rfl ?_)))
  exact ⟨H0.ext, by rw [mText, if_pos (by omega)], by rw [mText, if_pos (by omega)]; exact Nat.le_of_ble_eq_true rfl⟩
 ·refine W_skip (W_sr (sA rfl rfl (s_nil (W_seq (W_block (W_loopS (γ := Nat × Nat × ByteArray) H0 [(2, _)] ⟨rfl, trivial⟩ (fun (f, m, out) => [(0, .int .i64 (m : Nat)), (3, .string out)]) (fun (f, m, out) => (m : Int) ≤ k ∧ m < 10 ^ f ∧ out.size + f ≤ 30 ∧ digits 30 k.toNat ⟨#[]⟩ = digits f m out) (fun (f, m, out) => m) (30, k.toNat, ⟨#[]⟩) ⟨eqI (by omega), rfl, trivial⟩ ⟨by omega, digits_bd (by omega), by decide, rfl⟩ (fun (f, m, out) w1 H1 ⟨hm, hf, ho, hd⟩ => ?_)))))))
  dsimp only [lCA, lNA]
  refine W_seq (W_sr (sM rfl rfl (sV rfl (py_gtr rfl rfl) (s_nil (W_ifd rfl (fun c2 => ?_) (fun c2 => ?_))))))
  ·refine W_skip (W_block (W_seq ?_))
   have hb := tmod_bd (a := (m : Int)) (b := 10) (by omega) (by omega)
   refine W_reg (sM rfl rfl (sV rfl (py_rem rfl rfl (by omega)) (sV rfl (py_add rfl rfl (in64 ⟨by omega, by omega⟩)) (sV rfl (py_conv8 tu3 tu5 rfl) (s_lit1 (wn rfl) rfl tu45 Tryz_ty5 rfl rfl rfl rfl H1 (fun b1 w2 e1 g1 H2 => ?_))))))
   have H3 := H2.litW 0 rfl (own_b8 (x := u8Of (48 + (m : Int).tmod 10)))
   try dsimp only [lNA, lCA, lSZ, lSS] at H3
   refine sV rfl (py_b2s tu45 tu5 tu9 rfl (H3.mine 0 rfl)) ((sM rfl rfl (sV rfl (py_sadd rfl rfl (by rw [strB_size]; simp only [List.length_cons, List.length_nil]; omega)) (sA rfl rfl (s_nil ?_)))))
   have hb2 := tdiv_bd (a := (m : Int)) (b := 10) (by omega) (by omega)
   refine W_reg (sM rfl rfl (sV rfl (py_quo rfl rfl (by omega) (in64 ⟨by omega, by omega⟩)) (sA rfl rfl (s_nil ?_))))
   rcases f with _ | f
   ·simp at hf; omega
   ·refine ⟨(f, m / 10, strB [UInt8.ofNat (48 + m % 10)] ++ out), ⟨eqI (by rw [Int.tdiv_eq_ediv_of_nonneg (by omega)]; dsimp only; omega), eqStr (by rw [dig_eq]), rfl, trivial⟩, ⟨(H3.dtake 0), by dsimp only; omega, by rw [Nat.pow_succ] at hf; dsimp only; omega, by dsimp only; rw [ByteArray.size_append, strB_size]; simp only [List.length_cons, List.length_nil]; omega, hd.trans (digits_step (by omega))⟩, by dsimp only; omega⟩
  ·refine W_exit (W_seq ?_)
   have h1z : (⟨#[109]⟩ : ByteArray).size = 1 := rfl
   refine W_reg (sM rfl rfl (sV rfl (py_sadd rfl rfl (by omega)) (sA rfl rfl (s_nil (rT hQ Tryz.results155 rfl ?_)))))
   obtain rfl : m = 0 := by omega
   have hq : mText k = ⟨#[109]⟩ ++ out := by rw [mText, if_neg (by omega), hd, digits_zero]
   exact ⟨H1.ext, by rw [hq], by rw [hq, ByteArray.size_append]; unfold maxLen; omega⟩
theorem Tryz_laws_markRecS {w : World} {xs : List Rec} {xsA : Option Addr} {xsC : Nat} {k : Int} {fp : List Nat} (o : own true w [.slice xsA xs.length xsC] xs fp) (nd : fp.Nodup) (hk : 0 ≤ k ∧ k + mkL mkRec xs ≤ 4611686018427387904) : Ret Tryz.prog 83 #[.slice xsA xs.length xsC, .int .i64 k] w fun v w' => (v = .int .i64 (k + mkL mkRec xs) ∧ ∃ xs', Mut w w' fp [.slice xsA xs.length xsC] xs' ∧ (xs'.length = xs.length ∧ mkL mkRec xs' = mkL mkRec xs ∧ MkL MkRec mkRec xs' k)) := by
 have len := oL o
 refine ret_Q (vs := [.slice xsA xs.length xsC, .int .i64 k]) Tryz.func83 rfl Tryz.ntmps83 rfl (fun Q hQ hN => ?_)
 have H0 := Sep.begin o nd
 refine W_sr (sA rfl rfl (s_nil (W_seq (W_sr (sA rfl rfl (s_nil (W_block (W_loop (γ := Nat × List Rec × List Nat) (fun (i, ys, f) => [(0, .slice xsA xs.length xsC), (1, .int .i64 (k + sumN (fun i => mkRec (xs.getD i default)) i)), (5, .int .i64 i)]) (fun (i, ys, f) w' => Sep (· ∈ fp) w [mine [.slice xsA xs.length xsC] ys f] [] w' ∧ MkInv MkRec mkRec xs k i ys ∧ True) (fun (i, ys, f) => xs.length - i) (0, xs, fp) ⟨rfl, eqI (by simp [sumN]), rfl, trivial⟩ ⟨H0, mk_begin, trivial⟩ (fun (i, ys, f) w1 H1 => ?_)))))))))
 obtain ⟨H1, hI, _⟩ := H1
 refine W_seq (W_seq ?_)
 have hiB := hI.1
 have hys := hI.2.1
 refine W_reg (sM rfl rfl (sM rfl rfl (sV rfl (py_len tu30 rfl) (sV rfl (py_lss rfl rfl) (s_nil (W_ifd rfl (fun c1 => ?_) (fun c1 => ?_)))))))
 ·refine W_skip (W_seq (W_block (W_seq ?_)))
  have hiL : i < xs.length := by omega
  have hat := mk_at hI
  obtain ⟨sg, sl⟩ := mkL_at (c := mkRec) hiL
  have hci : mkRec (ys.getD i default) = mkRec (xs.getD i default) := hI.2.2.1 i
  have hcu : mkRec (ys.getD i default) = 6 + (ys.getD i default).Rows.length + (ys.getD i default).Data.length + (ys.getD i default).Delta.length := rfl
  obtain ⟨eb1, eo1, eT1, eF1, eG1, ea1, ek1, ea2, ek2, ea3, ek3, eg1, eg2, eg3, ee1, eK1, eH1⟩ := Rec.focus H1 0 rfl i (by omega)
  have eK1U := eK1
  unfold Rec.Ok at eK1U
  try unfold I64ok at eK1U
  try unfold maxLen at eK1U
  try dsimp only [lNA, lCA, lSZ, lSS] at eH1
  refine W_reg (sM rfl rfl (sM rfl rfl (sM rfl rfl (sV rfl (py_elz tu30 ts68 rfl rfl ee1 i (by omega) (by omega)) (sV rfl (py_field tu68 rfl ts2 rfl rfl) (s_hsto (wn rfl) ts2 eH1 0 0 rfl rfl rfl rfl rfl (fun w2 H2 => ?_)))))))
  dsimp only [lNA, lCA, lSZ, lSS, layL] at H2
  refine s_nil (W_sr (sM rfl rfl (sV rfl (py_add rfl rfl (in64 ⟨by omega, by omega⟩)) (sA rfl rfl (s_nil (W_sr (sM rfl rfl (sM rfl rfl (sM rfl rfl (sV rfl (py_elz tu30 ts68 rfl rfl ee1 i (by omega) (by omega)) (sV rfl (py_field tu68 rfl ts2 rfl rfl) (s_hsto (wn rfl) ts2 H2 0 1 rfl rfl rfl rfl rfl (fun w3 H3 => ?_)))))))))))))
  dsimp only [lNA, lCA, lSZ, lSS, layL] at H3
  refine s_nil (W_sr (sM rfl rfl (sV rfl (py_add rfl rfl (in64 ⟨by omega, by omega⟩)) (sA rfl rfl (s_nil (W_sr (sM rfl rfl (sM rfl rfl (sM rfl rfl (s_call (wn rfl) rfl rfl (pc_call Tryz.func155 rfl Tryz_nm155 rfl) (Tryz_laws_markText (by omega)) (fun v1 w4 r1 => ?_)))))))))))
  obtain ⟨e3, rfl, mt1⟩ := r1
  have H4 := H3.to e3
  refine sV rfl (py_elz tu30 ts68 rfl rfl ee1 i (by omega) (by omega)) (sV rfl (py_field tu68 rfl ts9 rfl rfl) (s_hsto (wn rfl) ts9 H4 0 2 rfl rfl rfl rfl rfl (fun w5 H5 => ?_)))
  dsimp only [lNA, lCA, lSZ, lSS, layL] at H5
  refine s_nil (W_sr (sM rfl rfl (sV rfl (py_add rfl rfl (in64 ⟨by omega, by omega⟩)) (sA rfl rfl (s_nil (W_sr (sM rfl rfl (sM rfl rfl (sM rfl rfl (sV rfl (py_elz tu30 ts68 rfl rfl ee1 i (by omega) (by omega)) (sV rfl (py_field tu68 rfl ts2 rfl rfl) (s_hsto (wn rfl) ts2 H5 0 3 rfl rfl rfl rfl rfl (fun w6 H6 => ?_)))))))))))))
  dsimp only [lNA, lCA, lSZ, lSS, layL] at H6
  refine s_nil (W_sr (sM rfl rfl (sV rfl (py_add rfl rfl (in64 ⟨by omega, by omega⟩)) (sA rfl rfl (s_nil (W_sr (sM rfl rfl (sM rfl rfl (sM rfl rfl (sV rfl (py_elz tu30 ts68 rfl rfl ee1 i (by omega) (by omega)) (sV rfl (py_field tu68 rfl ts2 rfl rfl) (s_hsto (wn rfl) ts2 H6 0 4 rfl rfl rfl rfl rfl (fun w7 H7 => ?_)))))))))))))
  dsimp only [lNA, lCA, lSZ, lSS, layL] at H7
  refine s_nil (W_sr (sM rfl rfl (sV rfl (py_add rfl rfl (in64 ⟨by omega, by omega⟩)) (sA rfl rfl (s_nil (W_sr (sM rfl rfl (sM rfl rfl (sM rfl rfl (sV rfl (py_elz tu30 ts68 rfl rfl ee1 i (by omega) (by omega)) (sV rfl (py_field tu68 rfl ts2 rfl rfl) (s_hsto (wn rfl) ts2 H7 0 5 rfl rfl rfl rfl rfl (fun w8 H8 => ?_)))))))))))))
  dsimp only [lNA, lCA, lSZ, lSS, layL] at H8
  refine s_nil (W_sr (sM rfl rfl (sV rfl (py_add rfl rfl (in64 ⟨by omega, by omega⟩)) (sA rfl rfl (s_nil (W_sr (sM rfl rfl (sM rfl rfl (sV rfl (py_elz tu30 ts68 rfl rfl ee1 i (by omega) (by omega)) (sV rfl (py_field tu68 rfl ts25 rfl rfl) (sV rfl (py_load tu25 rfl rfl (at_cell (H8.holAt 0 rfl) 6 rfl)) (sM rfl rfl (s_call (wn rfl) rfl rfl (pc_call Tryz.func81 rfl Tryz_nm81 rfl) (Tryz_laws_markInt64S (H8.mine 2 rfl) (H8.nodup1 (i := 2) rfl) (by constructor <;> omega)) (fun v2 w9 r2 => ?_))))))))))))))
  obtain ⟨rfl, mx1, mm1, ml1, mk1⟩ := r2
  obtain ⟨fp1, H9⟩ := H8.mut 2 rfl mm1
  try dsimp only [lNA, lCA, lSZ, lSS] at H9
  refine sA rfl rfl (s_nil (W_sr (sM rfl rfl (sM rfl rfl (sV rfl (py_elz tu30 ts68 rfl rfl ee1 i (by omega) (by omega)) (sV rfl (py_field tu68 rfl ts45 rfl rfl) (sV rfl (py_load tu45 rfl rfl (at_cell (H9.holAt 0 rfl) 7 rfl)) (sM rfl rfl (s_call (wn rfl) rfl rfl (pc_call Tryz.func88 rfl Tryz_nm88 rfl) (Tryz_laws_markByteS (H9.mine 3 rfl) (H9.nodup1 (i := 3) rfl) (by constructor <;> omega)) (fun v3 w10 r3 => ?_))))))))))
  obtain ⟨rfl, mx2, mm2, ml2, mk2⟩ := r3
  obtain ⟨fp2, H10⟩ := H9.mut 3 rfl mm2
  try dsimp only [lNA, lCA, lSZ, lSS] at H10
  refine sA rfl rfl (s_nil (W_reg (sM rfl rfl (sM rfl rfl (sV rfl (py_elz tu30 ts68 rfl rfl ee1 i (by omega) (by omega)) (sV rfl (py_field tu68 rfl ts45 rfl rfl) (sV rfl (py_load tu45 rfl rfl (at_cell (H10.holAt 0 rfl) 8 rfl)) (sM rfl rfl (s_call (wn rfl) rfl rfl (pc_call Tryz.func88 rfl Tryz_nm88 rfl) (Tryz_laws_markByteS (H10.mine 4 rfl) (H10.nodup1 (i := 4) rfl) (by constructor <;> omega)) (fun v4 w11 r4 => ?_))))))))))
  obtain ⟨rfl, mx3, mm3, ml3, mk3⟩ := r4
  obtain ⟨fp3, H11⟩ := H10.mut 4 rfl mm3
  try dsimp only [lNA, lCA, lSZ, lSS] at H11
  refine sA rfl rfl (s_nil (W_reg (sM rfl rfl (sV rfl (py_add rfl rfl (in64 ⟨by omega, by omega⟩)) (sA rfl rfl (s_nil ?_))))))
  have okz : (⟨(k + sumN (fun i => mkRec (xs.getD i default)) i), (k + sumN (fun i => mkRec (xs.getD i default)) i) + 1, mText ((k + sumN (fun i => mkRec (xs.getD i default)) i) + 1 + 1), (k + sumN (fun i => mkRec (xs.getD i default)) i) + 1 + 1 + 1, (k + sumN (fun i => mkRec (xs.getD i default)) i) + 1 + 1 + 1 + 1, (k + sumN (fun i => mkRec (xs.getD i default)) i) + 1 + 1 + 1 + 1 + 1, mx1, mx2, mx3⟩ : Rec).Ok := by unfold Rec.Ok I64ok; dsimp only; omega
  obtain ⟨fp4, H12⟩ := Rec.fill H11 0 2 3 4 rfl rfl rfl rfl rfl rfl rfl rfl rfl rfl okz
  try dsimp only [lNA, lCA, lSZ, lSS] at H12
  refine ⟨(i + 1, _, _), ⟨rfl, eqI (by omega), rfl, trivial⟩, ⟨(H12.dtake 1), mk_step hI hiL (by rw [← hci]; unfold mkRec; dsimp only; omega) (by
   refine ⟨rfl, rfl, ?_, by dsimp only; omega, by dsimp only; omega, by dsimp only; omega, ?_, ?_, ?_⟩
   ·dsimp only; congr 1; omega
   ·have := mk1; dsimp only; rwa [show (k + sumN (fun i => mkRec (xs.getD i default)) i) + 1 + 1 + 1 + 1 + 1 + 1 = (k + sumN (fun i => mkRec (xs.getD i default)) i) + 6 by omega] at this
   ·have := mk2; dsimp only; rwa [show (k + sumN (fun i => mkRec (xs.getD i default)) i) + 1 + 1 + 1 + 1 + 1 + 1 + ((ys.getD i default).Rows.length : Int) = (k + sumN (fun i => mkRec (xs.getD i default)) i) + 6 + mx1.length by omega] at this
   ·have := mk3; dsimp only; rwa [show (k + sumN (fun i => mkRec (xs.getD i default)) i) + 1 + 1 + 1 + 1 + 1 + 1 + ((ys.getD i default).Rows.length : Int) + ((ys.getD i default).Data.length : Int) = (k + sumN (fun i => mkRec (xs.getD i default)) i) + 6 + mx1.length + mx2.length by omega] at this), trivial⟩, by dsimp only; omega⟩
 ·refine W_exit (W_sr (sM rfl rfl (sA rfl rfl (s_nil (rT hQ Tryz.results83 rfl ?_)))))
  obtain rfl : i = xs.length := by omega
  exact ⟨rfl, _, H1.done, mk_end hI⟩
theorem Tryz_laws_markTapeS {w : World} {xs : List Tape} {xsA : Option Addr} {xsC : Nat} {k : Int} {fp : List Nat} (o : own true w [.slice xsA xs.length xsC] xs fp) (nd : fp.Nodup) (hk : 0 ≤ k ∧ k + mkL mkTape xs ≤ 4611686018427387904) : Ret Tryz.prog 82 #[.slice xsA xs.length xsC, .int .i64 k] w fun v w' => (v = .int .i64 (k + mkL mkTape xs) ∧ ∃ xs', Mut w w' fp [.slice xsA xs.length xsC] xs' ∧ (xs'.length = xs.length ∧ mkL mkTape xs' = mkL mkTape xs ∧ MkL MkTape mkTape xs' k)) := by
 have len := oL o
 refine ret_Q (vs := [.slice xsA xs.length xsC, .int .i64 k]) Tryz.func82 rfl Tryz.ntmps82 rfl (fun Q hQ hN => ?_)
 have H0 := Sep.begin o nd
 refine W_sr (sA rfl rfl (s_nil (W_seq (W_sr (sA rfl rfl (s_nil (W_block (W_loop (γ := Nat × List Tape × List Nat) (fun (i, ys, f) => [(0, .slice xsA xs.length xsC), (1, .int .i64 (k + sumN (fun i => mkTape (xs.getD i default)) i)), (5, .int .i64 i)]) (fun (i, ys, f) w' => Sep (· ∈ fp) w [mine [.slice xsA xs.length xsC] ys f] [] w' ∧ MkInv MkTape mkTape xs k i ys ∧ True) (fun (i, ys, f) => xs.length - i) (0, xs, fp) ⟨rfl, eqI (by simp [sumN]), rfl, trivial⟩ ⟨H0, mk_begin, trivial⟩ (fun (i, ys, f) w1 H1 => ?_)))))))))
 obtain ⟨H1, hI, _⟩ := H1
 refine W_seq (W_seq ?_)
 have hiB := hI.1
 have hys := hI.2.1
 refine W_reg (sM rfl rfl (sM rfl rfl (sV rfl (py_len tu36 rfl) (sV rfl (py_lss rfl rfl) (s_nil (W_ifd rfl (fun c1 => ?_) (fun c1 => ?_)))))))
 ·refine W_skip (W_seq (W_block (W_seq ?_)))
  have hiL : i < xs.length := by omega
  have hat := mk_at hI
  obtain ⟨sg, sl⟩ := mkL_at (c := mkTape) hiL
  have hci : mkTape (ys.getD i default) = mkTape (xs.getD i default) := hI.2.2.1 i
  have hcu : mkTape (ys.getD i default) = 1 + mkL mkRec (ys.getD i default).Recs := rfl
  obtain ⟨eb1, eo1, eT1, eF1, eG1, ea1, ek1, eg1, ee1, eK1, eH1⟩ := Tape.focus H1 0 rfl i (by omega)
  have eK1U := eK1
  unfold Tape.Ok at eK1U
  try unfold I64ok at eK1U
  try unfold maxLen at eK1U
  try dsimp only [lNA, lCA, lSZ, lSS] at eH1
  refine W_reg (sM rfl rfl (sM rfl rfl (sM rfl rfl (sV rfl (py_rem rfl rfl (by omega)) (sV rfl (py_eql rfl rfl) (sV rfl (py_elz tu36 ts139 rfl rfl ee1 i (by omega) (by omega)) (sV rfl (py_field tu139 rfl ts4 rfl rfl) (s_hsto (wn rfl) ts4 eH1 0 0 rfl rfl rfl rfl rfl (fun w2 H2 => ?_)))))))))
  dsimp only [lNA, lCA, lSZ, lSS, layL] at H2
  refine s_nil (W_sr (sM rfl rfl (sV rfl (py_add rfl rfl (in64 ⟨by omega, by omega⟩)) (sA rfl rfl (s_nil (W_reg (sM rfl rfl (sM rfl rfl (sV rfl (py_elz tu36 ts139 rfl rfl ee1 i (by omega) (by omega)) (sV rfl (py_field tu139 rfl ts30 rfl rfl) (sV rfl (py_load tu30 rfl rfl (at_cell (H2.holAt 0 rfl) 1 rfl)) (sM rfl rfl (s_call (wn rfl) rfl rfl (pc_call Tryz.func83 rfl Tryz_nm83 rfl) (Tryz_laws_markRecS (H2.mine 2 rfl) (H2.nodup1 (i := 2) rfl) (by constructor <;> omega)) (fun v1 w3 r1 => ?_))))))))))))))
  obtain ⟨rfl, mx1, mm1, ml1⟩ := r1
  obtain ⟨fp1, H3⟩ := H2.mut 2 rfl mm1
  try dsimp only [lNA, lCA, lSZ, lSS] at H3
  refine sA rfl rfl (s_nil (W_reg (sM rfl rfl (sV rfl (py_add rfl rfl (in64 ⟨by omega, by omega⟩)) (sA rfl rfl (s_nil ?_))))))
  have okz : (⟨decide ((k + sumN (fun i => mkTape (xs.getD i default)) i).tmod 3 = 0), mx1⟩ : Tape).Ok := trivial
  obtain ⟨fp2, H4⟩ := Tape.fill H3 0 2 rfl rfl rfl okz
  try dsimp only [lNA, lCA, lSZ, lSS] at H4
  refine ⟨(i + 1, _, _), ⟨rfl, eqI (by omega), rfl, trivial⟩, ⟨(H4.dtake 1), mk_step hI hiL (by rw [← hci]; unfold mkTape; dsimp only; rw [ml1.2.1]) ⟨rfl, ml1.2.2⟩, trivial⟩, by dsimp only; omega⟩
 ·refine W_exit (W_sr (sM rfl rfl (sA rfl rfl (s_nil (rT hQ Tryz.results82 rfl ?_)))))
  obtain rfl : i = xs.length := by omega
  exact ⟨rfl, _, H1.done, mk_end hI⟩
end Go.Wk
namespace Go.Wk
open Go.Proofs Rp
set_option maxRecDepth 10000
theorem Tryz_laws_markWorld {w : World} {x : Wld} {xA9 xA10 xA11 : Option Addr} {xC9 xC10 xC11 : Nat} {k : Int} {fp : List Nat} (xK : x.Ok) (o : own true w [.int .i64 x.Shape.Groups, .int .i64 x.Shape.Column, .int .i64 x.Shape.Data, .int .i64 x.Shape.Spare, .int .i64 x.Shape.Rows, .int .i64 x.Shape.Cap, .int .i64 x.Shape.Batch, .int .i64 x.Shape.Queue, .int .i64 x.Shape.Stage, .slice xA9 x.Groups.length xC9, .slice xA10 x.On.length xC10, .slice xA11 x.Tapes.length xC11, .int .i64 x.Writes, .int .i64 x.Stop, .bool x.Down] x fp) (nd : fp.Nodup) (hk : 0 ≤ k ∧ k + mkWld x ≤ 4611686018427387904) : Ret Tryz.prog 21 #[x.val xA9 xC9 xA10 xC10 xA11 xC11, .int .i64 k] w fun v w' => (v = .int .i64 (k + mkWld x) ∧ ∃ x' : Wld, Mut w w' fp [.int .i64 x.Shape.Groups, .int .i64 x.Shape.Column, .int .i64 x.Shape.Data, .int .i64 x.Shape.Spare, .int .i64 x.Shape.Rows, .int .i64 x.Shape.Cap, .int .i64 x.Shape.Batch, .int .i64 x.Shape.Queue, .int .i64 x.Shape.Stage, .slice xA9 x.Groups.length xC9, .slice xA10 x.On.length xC10, .slice xA11 x.Tapes.length xC11, .int .i64 x.Writes, .int .i64 x.Stop, .bool x.Down] x' ∧ (x'.Groups.length = x.Groups.length ∧ x'.On.length = x.On.length ∧ x'.Tapes.length = x.Tapes.length ∧ mkWld x' = mkWld x ∧ MkWld x' k ∧ x'.Shape = x.Shape ∧ x'.Writes = x.Writes ∧ x'.Stop = x.Stop ∧ x'.Down = x.Down)) := by
 unfold mkWld at hk
 refine ret_Q (vs := [x.val xA9 xC9 xA10 xC10 xA11 xC11, .int .i64 k]) Tryz.func21 rfl Tryz.ntmps21 rfl (fun Q hQ hN => ?_)
 obtain ⟨f9, f10, f11, ef, ok, o9, o10, o11⟩ := own_WldC o
 have H0 := (Sep.begin o nd).part 0 rfl [mine [.slice xA9 x.Groups.length xC9] x.Groups f9, mine [.slice xA10 x.On.length xC10] x.On f10, mine [.slice xA11 x.Tapes.length xC11] x.Tapes f11] (all_cons o9 (all_cons o10 (all_cons o11 (by simp)))) (by simp [blocks, mine, ef])
 try dsimp only [lNA, lCA, lSZ, lSS] at H0
 refine W_sr (s_box (wn rfl) rfl rfl H0 (fun b1 w1 e1 g1 H1 => ?_))
 refine sA rfl rfl (s_nil (W_sr (sV rfl (py_field tu38 rfl ts35 rfl rfl) (sV rfl (py_load tu35 rfl rfl (cell_atL (H1.box 4 rfl) rfl)) (sM rfl rfl (s_call (wn rfl) rfl rfl (pc_call Tryz.func80 rfl Tryz_nm80 rfl) (Tryz_laws_markDriveSS (H1.mine 1 rfl) (H1.nodup1 (i := 1) rfl) (by constructor <;> omega)) (fun v1 w2 r1 => ?_)))))))
 obtain ⟨rfl, mx1, mm1, ml1⟩ := r1
 obtain ⟨fp1, H2⟩ := H1.mut 1 rfl mm1
 try dsimp only [lNA, lCA, lSZ, lSS] at H2
 refine sA rfl rfl (s_nil (W_sr (sV rfl (py_field tu38 rfl ts25 rfl rfl) (sV rfl (py_load tu25 rfl rfl (cell_atL (H2.box 4 rfl) rfl)) (sM rfl rfl (s_call (wn rfl) rfl rfl (pc_call Tryz.func81 rfl Tryz_nm81 rfl) (Tryz_laws_markInt64S (H2.mine 2 rfl) (H2.nodup1 (i := 2) rfl) (by constructor <;> omega)) (fun v2 w3 r2 => ?_)))))))
 obtain ⟨rfl, mx2, mm2, ml2, mk1⟩ := r2
 obtain ⟨fp2, H3⟩ := H2.mut 2 rfl mm2
 try dsimp only [lNA, lCA, lSZ, lSS] at H3
 refine sA rfl rfl (s_nil (W_sr (sV rfl (py_field tu38 rfl ts36 rfl rfl) (sV rfl (py_load tu36 rfl rfl (cell_atL (H3.box 4 rfl) rfl)) (sM rfl rfl (s_call (wn rfl) rfl rfl (pc_call Tryz.func82 rfl Tryz_nm82 rfl) (Tryz_laws_markTapeS (H3.mine 3 rfl) (H3.nodup1 (i := 3) rfl) (by constructor <;> omega)) (fun v3 w4 r3 => ?_)))))))
 obtain ⟨rfl, mx3, mm3, ml3⟩ := r3
 obtain ⟨fp3, H4⟩ := H3.mut 3 rfl mm3
 try dsimp only [lNA, lCA, lSZ, lSS] at H4
 refine sA rfl rfl (s_nil (W_sr (sM rfl rfl (sA rfl rfl (s_nil (rT hQ Tryz.results21 rfl ?_))))))
 exact ⟨congrArg (Value.int .i64) (by unfold mkWld; omega), Wld.mkOut ok (H4.dtake 4) ml1 ml2 mk1 ml3⟩
end Go.Wk
namespace Go.Wk
open Go.Proofs Rp
set_option maxRecDepth 10000
theorem Tryz_laws_heldBlockS {w : World} {xs : List Block} {xsA : Option Addr} {xsC : Nat} {k : Int} (xsS : Sees w [.slice xsA xs.length xsC] xs) (hk : 0 ≤ k ∧ k + mkL mkBlock xs ≤ 4611686018427387904) (hm : MkL MkBlock mkBlock xs k) : Ret Tryz.prog 335 #[.slice xsA xs.length xsC, .int .i64 k] w fun v w' => Ext No w w' ∧ (v = .int .i64 (k + mkL mkBlock xs)) := by
 have xsL := sL xsS
 obtain ⟨xsF, xsO⟩ := xsS
 refine ret_Q (vs := [.slice xsA xs.length xsC, .int .i64 k]) Tryz.func335 rfl Tryz.ntmps335 rfl (fun Q hQ hN => ?_)
 have H0 := Sep.start (w := w) (F := [seen false [.slice xsA xs.length xsC] xs xsF]) (all_cons xsO (by simp))
 refine W_sr (sA rfl rfl (s_nil (W_seq (W_sr (sA rfl rfl (s_nil (W_block (W_loopS (γ := Nat) H0 [(0, _)] ⟨rfl, trivial⟩ (fun i => [(1, .int .i64 (k + sumN (fun i => mkBlock (xs.getD i default)) i)), (5, .int .i64 i)]) (fun i => i ≤ xs.length ∧ True) (fun i => xs.length - i) 0 ⟨eqI (by simp [sumN]), rfl, trivial⟩ ⟨by omega, trivial⟩ (fun i w1 H1 ⟨hi, _⟩ => ?_)))))))))
 dsimp only [lCA, lNA]
 refine W_seq (W_sr (sM rfl rfl (sM rfl rfl (sV rfl (py_len tu178 rfl) (sV rfl (py_lss rfl rfl) (s_nil (W_ifd rfl (fun c1 => ?_) (fun c1 => ?_))))))))
 ·refine W_skip (W_seq (W_block (W_seq (W_seq ?_))))
  have hmi := hm i (by omega)
  obtain ⟨sg, sl⟩ := mkL_at (c := mkBlock) (xs := xs) (i := i) (by omega)
  have hcu : mkBlock (xs.getD i default) = 1 + (xs.getD i default).Bytes.length := rfl
  obtain ⟨hm1, hm2⟩ := hmi
  obtain ⟨eb1, eo1, es1, ef1, ee1, ec1, eO1, eH1, em1⟩ := elem_st (H1.seen 0 rfl) i (by omega)
  obtain ⟨ea1, ek1, eg1, rfl, eq1, eK1, eo2⟩ := own_Block eO1
  have eK1U := eK1
  unfold Block.Ok at eK1U
  try unfold I64ok at eK1U
  try unfold maxLen at eK1U
  have eP1 := H1.look1 0 rfl eo2 (fun b hb => eH1 b (by rw [eq1]; simp [hb]))
  have eL1 := oL eo2
  refine W_reg (sM rfl rfl (sM rfl rfl (sV rfl (py_elz tu178 ts182 rfl rfl ee1 i (by omega) (by omega)) (sV rfl (py_field tu182 rfl ts2 rfl rfl) (sV rfl (py_load tu2 rfl rfl (at_cell ec1 0 rfl)) (sM rfl rfl (sV rfl (py_neq rfl rfl) (s_nil (W_ifd rfl (fun c2 => ?_) (fun c2 => ?_))))))))))
  ·exact absurd hm1 c2
  ·refine W_skip (W_sr (sM rfl rfl (sV rfl (py_add rfl rfl (in64 ⟨by omega, by omega⟩)) (sA rfl rfl (s_nil (W_seq ?_))))))
   obtain ⟨eb2, eo3, es2, ef2, ee2, ec2, eO2, eH2, em2⟩ := elem_st (eP1.seen 0 rfl) i (by omega)
   obtain ⟨ea2, ek2, eg2, rfl, eq2, eK2, eo4⟩ := own_Block eO2
   have eK2U := eK2
   unfold Block.Ok at eK2U
   try unfold I64ok at eK2U
   try unfold maxLen at eK2U
   have eP2 := eP1.look1 0 rfl eo4 (fun b hb => eH2 b (by rw [eq2]; simp [hb]))
   have eL2 := oL eo4
   refine W_reg (sM rfl rfl (sM rfl rfl (sV rfl (py_elz tu178 ts182 rfl rfl ee2 i (by omega) (by omega)) (sV rfl (py_field tu182 rfl ts45 rfl rfl) (sV rfl (py_load tu45 rfl rfl (at_cell ec2 1 rfl)) (sM rfl rfl (s_call (wn rfl) rfl rfl (pc_call Tryz.func89 rfl Tryz_nm89 rfl) (Tryz_laws_heldByteS (eP2.sees 2 rfl) (by constructor <;> omega) (by assumption)) (fun v1 w2 r1 => ?_))))))))
   obtain ⟨e1, rfl⟩ := r1
   have H2 := eP2.to e1
   refine sA rfl rfl (s_nil (W_sr (sM rfl rfl (sV rfl (py_lss rfl rfl) (s_nil (W_ifd rfl (fun c3 => ?_) (fun c3 => ?_)))))))
   ·exact absurd c3 (by omega)
   ·refine W_skip (W_reg (sM rfl rfl (sV rfl (py_add rfl rfl (in64 ⟨by omega, by omega⟩)) (sA rfl rfl (s_nil (⟨i + 1, ⟨eqI (by omega), rfl, rfl, trivial⟩, ⟨(H2.ftake 1), by omega, trivial⟩, by dsimp only; omega⟩))))))
 ·refine W_exit (W_sr (sM rfl rfl (sA rfl rfl (s_nil (rT hQ Tryz.results335 rfl ?_)))))
  obtain rfl : i = xs.length := by omega
  exact ⟨H1.ext, rfl⟩
theorem Tryz_laws_heldDriveS {w : World} {xs : List Drive} {xsA : Option Addr} {xsC : Nat} {k : Int} (xsS : Sees w [.slice xsA xs.length xsC] xs) (hk : 0 ≤ k ∧ k + mkL mkDrive xs ≤ 4611686018427387904) (hm : MkL MkDrive mkDrive xs k) : Ret Tryz.prog 292 #[.slice xsA xs.length xsC, .int .i64 k] w fun v w' => Ext No w w' ∧ (v = .int .i64 (k + mkL mkDrive xs)) := by
 have xsL := sL xsS
 obtain ⟨xsF, xsO⟩ := xsS
 refine ret_Q (vs := [.slice xsA xs.length xsC, .int .i64 k]) Tryz.func292 rfl Tryz.ntmps292 rfl (fun Q hQ hN => ?_)
 have H0 := Sep.start (w := w) (F := [seen false [.slice xsA xs.length xsC] xs xsF]) (all_cons xsO (by simp))
 refine W_sr (sA rfl rfl (s_nil (W_seq (W_sr (sA rfl rfl (s_nil (W_block (W_loopS (γ := Nat) H0 [(0, _)] ⟨rfl, trivial⟩ (fun i => [(1, .int .i64 (k + sumN (fun i => mkDrive (xs.getD i default)) i)), (5, .int .i64 i)]) (fun i => i ≤ xs.length ∧ True) (fun i => xs.length - i) 0 ⟨eqI (by simp [sumN]), rfl, trivial⟩ ⟨by omega, trivial⟩ (fun i w1 H1 ⟨hi, _⟩ => ?_)))))))))
 dsimp only [lCA, lNA]
 refine W_seq (W_sr (sM rfl rfl (sM rfl rfl (sV rfl (py_len tu142 rfl) (sV rfl (py_lss rfl rfl) (s_nil (W_ifd rfl (fun c1 => ?_) (fun c1 => ?_))))))))
 ·refine W_skip (W_seq (W_block (W_seq (W_seq ?_))))
  have hmi := hm i (by omega)
  obtain ⟨sg, sl⟩ := mkL_at (c := mkDrive) (xs := xs) (i := i) (by omega)
  have hcu : mkDrive (xs.getD i default) = 1 + mkL mkBlock (xs.getD i default).Blocks := rfl
  obtain ⟨hm1, hm2⟩ := hmi
  obtain ⟨eb1, eo1, es1, ef1, ee1, ec1, eO1, eH1, em1⟩ := elem_st (H1.seen 0 rfl) i (by omega)
  obtain ⟨ea1, ek1, eg1, rfl, eq1, eK1, eo2⟩ := own_Drive eO1
  have eP1 := H1.look1 0 rfl eo2 (fun b hb => eH1 b (by rw [eq1]; simp [hb]))
  have eL1 := oL eo2
  refine W_reg (sM rfl rfl (sM rfl rfl (sV rfl (py_elz tu142 ts180 rfl rfl ee1 i (by omega) (by omega)) (sV rfl (py_field tu180 rfl ts4 rfl rfl) (sV rfl (py_load tu4 rfl rfl (at_cell ec1 0 rfl)) (sM rfl rfl (sV rfl (py_rem rfl rfl (by omega)) (sV rfl (py_eql rfl rfl) (sV rfl (py_bneq tu4 rfl rfl) (s_nil (W_if rfl (fun c2 => ?_) (fun c2 => ?_))))))))))))
  ·exfalso; rw [hm1] at c2; simp at c2
  ·refine W_skip (W_sr (sM rfl rfl (sV rfl (py_add rfl rfl (in64 ⟨by omega, by omega⟩)) (sA rfl rfl (s_nil (W_seq ?_))))))
   obtain ⟨eb2, eo3, es2, ef2, ee2, ec2, eO2, eH2, em2⟩ := elem_st (eP1.seen 0 rfl) i (by omega)
   obtain ⟨ea2, ek2, eg2, rfl, eq2, eK2, eo4⟩ := own_Drive eO2
   have eP2 := eP1.look1 0 rfl eo4 (fun b hb => eH2 b (by rw [eq2]; simp [hb]))
   have eL2 := oL eo4
   refine W_reg (sM rfl rfl (sM rfl rfl (sV rfl (py_elz tu142 ts180 rfl rfl ee2 i (by omega) (by omega)) (sV rfl (py_field tu180 rfl ts178 rfl rfl) (sV rfl (py_load tu178 rfl rfl (at_cell ec2 1 rfl)) (sM rfl rfl (s_call (wn rfl) rfl rfl (pc_call Tryz.func335 rfl Tryz_nm335 rfl) (Tryz_laws_heldBlockS (eP2.sees 2 rfl) (by constructor <;> omega) (by assumption)) (fun v1 w2 r1 => ?_))))))))
   obtain ⟨e1, rfl⟩ := r1
   have H2 := eP2.to e1
   refine sA rfl rfl (s_nil (W_sr (sM rfl rfl (sV rfl (py_lss rfl rfl) (s_nil (W_ifd rfl (fun c3 => ?_) (fun c3 => ?_)))))))
   ·exact absurd c3 (by omega)
   ·refine W_skip (W_reg (sM rfl rfl (sV rfl (py_add rfl rfl (in64 ⟨by omega, by omega⟩)) (sA rfl rfl (s_nil (⟨i + 1, ⟨eqI (by omega), rfl, rfl, trivial⟩, ⟨(H2.ftake 1), by omega, trivial⟩, by dsimp only; omega⟩))))))
 ·refine W_exit (W_sr (sM rfl rfl (sA rfl rfl (s_nil (rT hQ Tryz.results292 rfl ?_)))))
  obtain rfl : i = xs.length := by omega
  exact ⟨H1.ext, rfl⟩
theorem Tryz_laws_heldDriveSS {w : World} {xs : List (List Drive)} {xsA : Option Addr} {xsC : Nat} {k : Int} (xsS : Sees w [.slice xsA xs.length xsC] xs) (hk : 0 ≤ k ∧ k + mkL (mkL mkDrive) xs ≤ 4611686018427387904) (hm : MkL (MkL MkDrive mkDrive) (mkL mkDrive) xs k) : Ret Tryz.prog 212 #[.slice xsA xs.length xsC, .int .i64 k] w fun v w' => Ext No w w' ∧ (v = .int .i64 (k + mkL (mkL mkDrive) xs)) := by
 have xsL := sL xsS
 obtain ⟨xsF, xsO⟩ := xsS
 refine ret_Q (vs := [.slice xsA xs.length xsC, .int .i64 k]) Tryz.func212 rfl Tryz.ntmps212 rfl (fun Q hQ hN => ?_)
 have H0 := Sep.start (w := w) (F := [seen false [.slice xsA xs.length xsC] xs xsF]) (all_cons xsO (by simp))
 refine W_sr (sA rfl rfl (s_nil (W_seq (W_sr (sA rfl rfl (s_nil (W_block (W_loopS (γ := Nat) H0 [(0, _)] ⟨rfl, trivial⟩ (fun i => [(1, .int .i64 (k + sumN (fun i => (mkL mkDrive) (xs.getD i default)) i)), (5, .int .i64 i)]) (fun i => i ≤ xs.length ∧ True) (fun i => xs.length - i) 0 ⟨eqI (by simp [sumN]), rfl, trivial⟩ ⟨by omega, trivial⟩ (fun i w1 H1 ⟨hi, _⟩ => ?_)))))))))
 dsimp only [lCA, lNA]
 refine W_seq (W_sr (sM rfl rfl (sM rfl rfl (sV rfl (py_len tu35 rfl) (sV rfl (py_lss rfl rfl) (s_nil (W_ifd rfl (fun c1 => ?_) (fun c1 => ?_))))))))
 ·refine W_skip (W_seq (W_block (W_seq ?_)))
  have hmi := hm i (by omega)
  obtain ⟨sg, sl⟩ := mkL_at (c := (mkL mkDrive)) (xs := xs) (i := i) (by omega)
  have hcu : mkL mkDrive (xs.getD i default) = mkL mkDrive (xs.getD i []) := rfl
  have hm2 : MkL MkDrive mkDrive (xs.getD i []) ((k + sumN (fun i => (mkL mkDrive) (xs.getD i default)) i)) := hmi
  obtain ⟨eb1, eo1, ea1, ek1, ef1, ee1, ec1, eO1, eH1⟩ := elem_sl (H1.seen 0 rfl) i (by omega)
  have eP1 := H1.look1 0 rfl eO1 eH1
  refine W_reg (sM rfl rfl (sM rfl rfl (sV rfl (py_elz tu35 ts142 rfl rfl ee1 i (by omega) (by omega)) (sV rfl (py_load tu142 rfl rfl ec1) (sM rfl rfl (s_call (wn rfl) rfl rfl (pc_call Tryz.func292 rfl Tryz_nm292 rfl) (Tryz_laws_heldDriveS (eP1.sees 1 rfl) (by constructor <;> omega) (by assumption)) (fun v1 w2 r1 => ?_)))))))
  obtain ⟨e1, rfl⟩ := r1
  have H2 := eP1.to e1
  refine sA rfl rfl (s_nil (W_sr (sM rfl rfl (sV rfl (py_lss rfl rfl) (s_nil (W_ifd rfl (fun c2 => ?_) (fun c2 => ?_)))))))
  ·exact absurd c2 (by omega)
  ·refine W_skip (W_reg (sM rfl rfl (sV rfl (py_add rfl rfl (in64 ⟨by omega, by omega⟩)) (sA rfl rfl (s_nil (⟨i + 1, ⟨eqI (by omega), rfl, rfl, trivial⟩, ⟨(H2.ftake 1), by omega, trivial⟩, by dsimp only; omega⟩))))))
 ·refine W_exit (W_sr (sM rfl rfl (sA rfl rfl (s_nil (rT hQ Tryz.results212 rfl ?_)))))
  obtain rfl : i = xs.length := by omega
  exact ⟨H1.ext, rfl⟩
set_option maxHeartbeats 1000000 in
theorem Tryz_laws_heldRecS {w : World} {xs : List Rec} {xsA : Option Addr} {xsC : Nat} {k : Int} (xsS : Sees w [.slice xsA xs.length xsC] xs) (hk : 0 ≤ k ∧ k + mkL mkRec xs ≤ 4611686018427387904) (hm : MkL MkRec mkRec xs k) : Ret Tryz.prog 84 #[.slice xsA xs.length xsC, .int .i64 k] w fun v w' => Ext No w w' ∧ (v = .int .i64 (k + mkL mkRec xs)) := by
 have xsL := sL xsS
 obtain ⟨xsF, xsO⟩ := xsS
 refine ret_Q (vs := [.slice xsA xs.length xsC, .int .i64 k]) Tryz.func84 rfl Tryz.ntmps84 rfl (fun Q hQ hN => ?_)
 have H0 := Sep.start (w := w) (F := [seen false [.slice xsA xs.length xsC] xs xsF]) (all_cons xsO (by simp))
 refine W_sr (sA rfl rfl (s_nil (W_seq (W_sr (sA rfl rfl (s_nil (W_block (W_loopS (γ := Nat) H0 [(0, _)] ⟨rfl, trivial⟩ (fun i => [(1, .int .i64 (k + sumN (fun i => mkRec (xs.getD i default)) i)), (5, .int .i64 i)]) (fun i => i ≤ xs.length ∧ True) (fun i => xs.length - i) 0 ⟨eqI (by simp [sumN]), rfl, trivial⟩ ⟨by omega, trivial⟩ (fun i w1 H1 ⟨hi, _⟩ => ?_)))))))))
 dsimp only [lCA, lNA]
 refine W_seq (W_sr (sM rfl rfl (sM rfl rfl (sV rfl (py_len tu30 rfl) (sV rfl (py_lss rfl rfl) (s_nil (W_ifd rfl (fun c1 => ?_) (fun c1 => ?_))))))))
 ·refine W_skip (W_seq (W_block (W_seq (W_seq ?_))))
  have hmi := hm i (by omega)
  obtain ⟨sg, sl⟩ := mkL_at (c := mkRec) (xs := xs) (i := i) (by omega)
  have hcu : mkRec (xs.getD i default) = 6 + (xs.getD i default).Rows.length + (xs.getD i default).Data.length + (xs.getD i default).Delta.length := rfl
  obtain ⟨m1, m2, m3, m4, m5, m6, m7, m8, m9⟩ := hmi
  have n3 : (xs.getD i default).Name = mText ((k + sumN (fun i => mkRec (xs.getD i default)) i) + 1 + 1) := by rw [m3]; congr 1; omega
  have n7 : MarkI (xs.getD i default).Rows ((k + sumN (fun i => mkRec (xs.getD i default)) i) + 1 + 1 + 1 + 1 + 1 + 1) := by rwa [show (k + sumN (fun i => mkRec (xs.getD i default)) i) + 1 + 1 + 1 + 1 + 1 + 1 = (k + sumN (fun i => mkRec (xs.getD i default)) i) + 6 by omega]
  have n8 : MarkB (xs.getD i default).Data ((k + sumN (fun i => mkRec (xs.getD i default)) i) + 1 + 1 + 1 + 1 + 1 + 1 + (xs.getD i default).Rows.length) := by rwa [show (k + sumN (fun i => mkRec (xs.getD i default)) i) + 1 + 1 + 1 + 1 + 1 + 1 = (k + sumN (fun i => mkRec (xs.getD i default)) i) + 6 by omega]
  have n9 : MarkB (xs.getD i default).Delta ((k + sumN (fun i => mkRec (xs.getD i default)) i) + 1 + 1 + 1 + 1 + 1 + 1 + (xs.getD i default).Rows.length + (xs.getD i default).Data.length) := by rwa [show (k + sumN (fun i => mkRec (xs.getD i default)) i) + 1 + 1 + 1 + 1 + 1 + 1 = (k + sumN (fun i => mkRec (xs.getD i default)) i) + 6 by omega]
  obtain ⟨eb1, eo1, es1, ef1, ee1, ec1, eO1, eH1, em1⟩ := elem_st (H1.seen 0 rfl) i (by omega)
  obtain ⟨ea1, ek1, ea2, ek2, ea3, ek3, eg1, eg2, eg3, rfl, eq1, eK1, eo2, eo3, eo4⟩ := own_Rec eO1
  have eK1U := eK1
  unfold Rec.Ok at eK1U
  try unfold I64ok at eK1U
  try unfold maxLen at eK1U
  refine W_reg (sM rfl rfl (sM rfl rfl (sV rfl (py_elz tu30 ts68 rfl rfl ee1 i (by omega) (by omega)) (sV rfl (py_field tu68 rfl ts2 rfl rfl) (sV rfl (py_load tu2 rfl rfl (at_cell ec1 0 rfl)) (sM rfl rfl (sV rfl (py_neq rfl rfl) (s_nil (W_ifd rfl (fun c2 => ?_) (fun c2 => ?_))))))))))
  ·exact absurd c2 (by omega)
  ·refine W_skip (W_sr (sM rfl rfl (sV rfl (py_add rfl rfl (in64 ⟨by omega, by omega⟩)) (sA rfl rfl (s_nil (W_seq (W_seq ?_)))))))
   obtain ⟨eb2, eo5, es2, ef2, ee2, ec2, eO2, eH2, em2⟩ := elem_st (H1.seen 0 rfl) i (by omega)
   obtain ⟨ea4, ek4, ea5, ek5, ea6, ek6, eg4, eg5, eg6, rfl, eq2, eK2, eo6, eo7, eo8⟩ := own_Rec eO2
   have eK2U := eK2
   unfold Rec.Ok at eK2U
   try unfold I64ok at eK2U
   try unfold maxLen at eK2U
   refine W_reg (sM rfl rfl (sM rfl rfl (sV rfl (py_elz tu30 ts68 rfl rfl ee2 i (by omega) (by omega)) (sV rfl (py_field tu68 rfl ts2 rfl rfl) (sV rfl (py_load tu2 rfl rfl (at_cell ec2 1 rfl)) (sM rfl rfl (sV rfl (py_neq rfl rfl) (s_nil (W_ifd rfl (fun c3 => ?_) (fun c3 => ?_))))))))))
   ·exact absurd c3 (by omega)
   ·refine W_skip (W_sr (sM rfl rfl (sV rfl (py_add rfl rfl (in64 ⟨by omega, by omega⟩)) (sA rfl rfl (s_nil (W_seq (W_seq ?_)))))))
    obtain ⟨eb3, eo9, es3, ef3, ee3, ec3, eO3, eH3, em3⟩ := elem_st (H1.seen 0 rfl) i (by omega)
    obtain ⟨ea7, ek7, ea8, ek8, ea9, ek9, eg7, eg8, eg9, rfl, eq3, eK3, eo10, eo11, eo12⟩ := own_Rec eO3
    have eK3U := eK3
    unfold Rec.Ok at eK3U
    try unfold I64ok at eK3U
    try unfold maxLen at eK3U
    refine W_drw (S := Ext No _) [(0, true), (1, true), (2, true), (3, true), (4, true), (5, true), (6, false), (7, false)] (by kernel_rfl) (by kernel_rfl) (by kernel_rfl) rfl (fun _ => Ext.refl.drawn _) (fun q1 => ?_)
    have H2 := H1.drawn q1
    refine dM rfl rfl rfl (dM rfl rfl rfl (dV rfl rfl (fun zw hx => py_elz tu30 ts68 rfl rfl ee3 i (by omega) (by omega)) (dV rfl rfl (fun zw hx => py_field tu68 rfl ts9 rfl rfl) (dV rfl rfl (fun zw hx => py_load tu9 rfl rfl (at_cell (hx.at ec3) 2 rfl)) (dM rfl rfl rfl (d_call rfl (wn rfl) rfl rfl (pc_call Tryz.func155 rfl Tryz_nm155 rfl) (Tryz_laws_markText (by omega)) (fun hS _ _ r _ => hS.trans r.1.no) (fun v1 w2 r1 => ?_)))))))
    obtain ⟨e1, rfl, mt1⟩ := r1
    have H3 := H2.to e1
    refine d_end rfl (wn rfl) rfl rfl (py_sneq rfl rfl) (d_nil (W_if rfl (fun c4 => ?_) (fun c4 => ?_)))
    ·exfalso; rw [n3] at c4; simp at c4
    ·refine W_skip (W_sr (sM rfl rfl (sV rfl (py_add rfl rfl (in64 ⟨by omega, by omega⟩)) (sA rfl rfl (s_nil (W_seq (W_seq ?_)))))))
     obtain ⟨eb4, eo13, es4, ef4, ee4, ec4, eO4, eH4, em4⟩ := elem_st (H3.seen 0 rfl) i (by omega)
     obtain ⟨ea10, ek10, ea11, ek11, ea12, ek12, eg10, eg11, eg12, rfl, eq4, eK4, eo14, eo15, eo16⟩ := own_Rec eO4
     have eK4U := eK4
     unfold Rec.Ok at eK4U
     try unfold I64ok at eK4U
     try unfold maxLen at eK4U
     refine W_reg (sM rfl rfl (sM rfl rfl (sV rfl (py_elz tu30 ts68 rfl rfl ee4 i (by omega) (by omega)) (sV rfl (py_field tu68 rfl ts2 rfl rfl) (sV rfl (py_load tu2 rfl rfl (at_cell ec4 3 rfl)) (sM rfl rfl (sV rfl (py_neq rfl rfl) (s_nil (W_ifd rfl (fun c5 => ?_) (fun c5 => ?_))))))))))
     ·exact absurd c5 (by omega)
     ·refine W_skip (W_sr (sM rfl rfl (sV rfl (py_add rfl rfl (in64 ⟨by omega, by omega⟩)) (sA rfl rfl (s_nil (W_seq (W_seq ?_)))))))
      obtain ⟨eb5, eo17, es5, ef5, ee5, ec5, eO5, eH5, em5⟩ := elem_st (H3.seen 0 rfl) i (by omega)
      obtain ⟨ea13, ek13, ea14, ek14, ea15, ek15, eg13, eg14, eg15, rfl, eq5, eK5, eo18, eo19, eo20⟩ := own_Rec eO5
      have eK5U := eK5
      unfold Rec.Ok at eK5U
      try unfold I64ok at eK5U
      try unfold maxLen at eK5U
      refine W_reg (sM rfl rfl (sM rfl rfl (sV rfl (py_elz tu30 ts68 rfl rfl ee5 i (by omega) (by omega)) (sV rfl (py_field tu68 rfl ts2 rfl rfl) (sV rfl (py_load tu2 rfl rfl (at_cell ec5 4 rfl)) (sM rfl rfl (sV rfl (py_neq rfl rfl) (s_nil (W_ifd rfl (fun c6 => ?_) (fun c6 => ?_))))))))))
      ·exact absurd c6 (by omega)
      ·refine W_skip (W_sr (sM rfl rfl (sV rfl (py_add rfl rfl (in64 ⟨by omega, by omega⟩)) (sA rfl rfl (s_nil (W_seq (W_seq ?_)))))))
       obtain ⟨eb6, eo21, es6, ef6, ee6, ec6, eO6, eH6, em6⟩ := elem_st (H3.seen 0 rfl) i (by omega)
       obtain ⟨ea16, ek16, ea17, ek17, ea18, ek18, eg16, eg17, eg18, rfl, eq6, eK6, eo22, eo23, eo24⟩ := own_Rec eO6
       have eK6U := eK6
       unfold Rec.Ok at eK6U
       try unfold I64ok at eK6U
       try unfold maxLen at eK6U
       refine W_reg (sM rfl rfl (sM rfl rfl (sV rfl (py_elz tu30 ts68 rfl rfl ee6 i (by omega) (by omega)) (sV rfl (py_field tu68 rfl ts2 rfl rfl) (sV rfl (py_load tu2 rfl rfl (at_cell ec6 5 rfl)) (sM rfl rfl (sV rfl (py_neq rfl rfl) (s_nil (W_ifd rfl (fun c7 => ?_) (fun c7 => ?_))))))))))
       ·exact absurd c7 (by omega)
       ·refine W_skip (W_sr (sM rfl rfl (sV rfl (py_add rfl rfl (in64 ⟨by omega, by omega⟩)) (sA rfl rfl (s_nil (W_seq ?_))))))
        obtain ⟨eb7, eo25, es7, ef7, ee7, ec7, eO7, eH7, em7⟩ := elem_st (H3.seen 0 rfl) i (by omega)
        obtain ⟨ea19, ek19, ea20, ek20, ea21, ek21, eg19, eg20, eg21, rfl, eq7, eK7, eo26, eo27, eo28⟩ := own_Rec eO7
        have eK7U := eK7
        unfold Rec.Ok at eK7U
        try unfold I64ok at eK7U
        try unfold maxLen at eK7U
        have eP1 := H3.look1 0 rfl eo26 (fun b hb => eH7 b (by rw [eq7]; simp [hb]))
        have eL1 := oL eo26
        refine W_reg (sM rfl rfl (sM rfl rfl (sV rfl (py_elz tu30 ts68 rfl rfl ee7 i (by omega) (by omega)) (sV rfl (py_field tu68 rfl ts25 rfl rfl) (sV rfl (py_load tu25 rfl rfl (at_cell ec7 6 rfl)) (sM rfl rfl (s_call (wn rfl) rfl rfl (pc_call Tryz.func92 rfl Tryz_nm92 rfl) (Tryz_laws_heldInt64S (eP1.sees 1 rfl) (by constructor <;> omega) (by assumption)) (fun v2 w3 r2 => ?_))))))))
        obtain ⟨e2, rfl⟩ := r2
        have H4 := eP1.to e2
        refine sA rfl rfl (s_nil (W_seq (W_sr (sM rfl rfl (sV rfl (py_lss rfl rfl) (s_nil (W_ifd rfl (fun c8 => ?_) (fun c8 => ?_))))))))
        ·exact absurd c8 (by omega)
        ·refine W_skip (W_seq ?_)
         obtain ⟨eb8, eo29, es8, ef8, ee8, ec8, eO8, eH8, em8⟩ := elem_st (H4.seen 0 rfl) i (by omega)
         obtain ⟨ea22, ek22, ea23, ek23, ea24, ek24, eg22, eg23, eg24, rfl, eq8, eK8, eo30, eo31, eo32⟩ := own_Rec eO8
         have eK8U := eK8
         unfold Rec.Ok at eK8U
         try unfold I64ok at eK8U
         try unfold maxLen at eK8U
         have eP2 := H4.look1 0 rfl eo31 (fun b hb => eH8 b (by rw [eq8]; simp [hb]))
         have eL2 := oL eo31
         refine W_reg (sM rfl rfl (sM rfl rfl (sV rfl (py_elz tu30 ts68 rfl rfl ee8 i (by omega) (by omega)) (sV rfl (py_field tu68 rfl ts45 rfl rfl) (sV rfl (py_load tu45 rfl rfl (at_cell ec8 7 rfl)) (sM rfl rfl (s_call (wn rfl) rfl rfl (pc_call Tryz.func89 rfl Tryz_nm89 rfl) (Tryz_laws_heldByteS (eP2.sees 2 rfl) (by constructor <;> omega) (by assumption)) (fun v3 w4 r3 => ?_))))))))
         obtain ⟨e3, rfl⟩ := r3
         have H5 := eP2.to e3
         refine sA rfl rfl (s_nil (W_seq (W_sr (sM rfl rfl (sV rfl (py_lss rfl rfl) (s_nil (W_ifd rfl (fun c9 => ?_) (fun c9 => ?_))))))))
         ·exact absurd c9 (by omega)
         ·refine W_skip (W_seq ?_)
          obtain ⟨eb9, eo33, es9, ef9, ee9, ec9, eO9, eH9, em9⟩ := elem_st (H5.seen 0 rfl) i (by omega)
          obtain ⟨ea25, ek25, ea26, ek26, ea27, ek27, eg25, eg26, eg27, rfl, eq9, eK9, eo34, eo35, eo36⟩ := own_Rec eO9
          have eK9U := eK9
          unfold Rec.Ok at eK9U
          try unfold I64ok at eK9U
          try unfold maxLen at eK9U
          have eP3 := H5.look1 0 rfl eo36 (fun b hb => eH9 b (by rw [eq9]; simp [hb]))
          have eL3 := oL eo36
          refine W_reg (sM rfl rfl (sM rfl rfl (sV rfl (py_elz tu30 ts68 rfl rfl ee9 i (by omega) (by omega)) (sV rfl (py_field tu68 rfl ts45 rfl rfl) (sV rfl (py_load tu45 rfl rfl (at_cell ec9 8 rfl)) (sM rfl rfl (s_call (wn rfl) rfl rfl (pc_call Tryz.func89 rfl Tryz_nm89 rfl) (Tryz_laws_heldByteS (eP3.sees 3 rfl) (by constructor <;> omega) (by assumption)) (fun v4 w5 r4 => ?_))))))))
          obtain ⟨e4, rfl⟩ := r4
          have H6 := eP3.to e4
          refine sA rfl rfl (s_nil (W_sr (sM rfl rfl (sV rfl (py_lss rfl rfl) (s_nil (W_ifd rfl (fun c10 => ?_) (fun c10 => ?_)))))))
          ·exact absurd c10 (by omega)
          ·refine W_skip (W_reg (sM rfl rfl (sV rfl (py_add rfl rfl (in64 ⟨by omega, by omega⟩)) (sA rfl rfl (s_nil (⟨i + 1, ⟨eqI (by omega), rfl, rfl, trivial⟩, ⟨(H6.ftake 1), by omega, trivial⟩, by dsimp only; omega⟩))))))
 ·refine W_exit (W_sr (sM rfl rfl (sA rfl rfl (s_nil (rT hQ Tryz.results84 rfl ?_)))))
  obtain rfl : i = xs.length := by omega
  exact ⟨H1.ext, rfl⟩
theorem Tryz_laws_heldTapeS {w : World} {xs : List Tape} {xsA : Option Addr} {xsC : Nat} {k : Int} (xsS : Sees w [.slice xsA xs.length xsC] xs) (hk : 0 ≤ k ∧ k + mkL mkTape xs ≤ 4611686018427387904) (hm : MkL MkTape mkTape xs k) : Ret Tryz.prog 213 #[.slice xsA xs.length xsC, .int .i64 k] w fun v w' => Ext No w w' ∧ (v = .int .i64 (k + mkL mkTape xs)) := by
 have xsL := sL xsS
 obtain ⟨xsF, xsO⟩ := xsS
 refine ret_Q (vs := [.slice xsA xs.length xsC, .int .i64 k]) Tryz.func213 rfl Tryz.ntmps213 rfl (fun Q hQ hN => ?_)
 have H0 := Sep.start (w := w) (F := [seen false [.slice xsA xs.length xsC] xs xsF]) (all_cons xsO (by simp))
 refine W_sr (sA rfl rfl (s_nil (W_seq (W_sr (sA rfl rfl (s_nil (W_block (W_loopS (γ := Nat) H0 [(0, _)] ⟨rfl, trivial⟩ (fun i => [(1, .int .i64 (k + sumN (fun i => mkTape (xs.getD i default)) i)), (5, .int .i64 i)]) (fun i => i ≤ xs.length ∧ True) (fun i => xs.length - i) 0 ⟨eqI (by simp [sumN]), rfl, trivial⟩ ⟨by omega, trivial⟩ (fun i w1 H1 ⟨hi, _⟩ => ?_)))))))))
 dsimp only [lCA, lNA]
 refine W_seq (W_sr (sM rfl rfl (sM rfl rfl (sV rfl (py_len tu36 rfl) (sV rfl (py_lss rfl rfl) (s_nil (W_ifd rfl (fun c1 => ?_) (fun c1 => ?_))))))))
 ·refine W_skip (W_seq (W_block (W_seq (W_seq ?_))))
  have hmi := hm i (by omega)
  obtain ⟨sg, sl⟩ := mkL_at (c := mkTape) (xs := xs) (i := i) (by omega)
  have hcu : mkTape (xs.getD i default) = 1 + mkL mkRec (xs.getD i default).Recs := rfl
  obtain ⟨hm1, hm2⟩ := hmi
  obtain ⟨eb1, eo1, es1, ef1, ee1, ec1, eO1, eH1, em1⟩ := elem_st (H1.seen 0 rfl) i (by omega)
  obtain ⟨ea1, ek1, eg1, rfl, eq1, eK1, eo2⟩ := own_Tape eO1
  have eP1 := H1.look1 0 rfl eo2 (fun b hb => eH1 b (by rw [eq1]; simp [hb]))
  have eL1 := oL eo2
  refine W_reg (sM rfl rfl (sM rfl rfl (sV rfl (py_elz tu36 ts139 rfl rfl ee1 i (by omega) (by omega)) (sV rfl (py_field tu139 rfl ts4 rfl rfl) (sV rfl (py_load tu4 rfl rfl (at_cell ec1 0 rfl)) (sM rfl rfl (sV rfl (py_rem rfl rfl (by omega)) (sV rfl (py_eql rfl rfl) (sV rfl (py_bneq tu4 rfl rfl) (s_nil (W_if rfl (fun c2 => ?_) (fun c2 => ?_))))))))))))
  ·exfalso; rw [hm1] at c2; simp at c2
  ·refine W_skip (W_sr (sM rfl rfl (sV rfl (py_add rfl rfl (in64 ⟨by omega, by omega⟩)) (sA rfl rfl (s_nil (W_seq ?_))))))
   obtain ⟨eb2, eo3, es2, ef2, ee2, ec2, eO2, eH2, em2⟩ := elem_st (eP1.seen 0 rfl) i (by omega)
   obtain ⟨ea2, ek2, eg2, rfl, eq2, eK2, eo4⟩ := own_Tape eO2
   have eP2 := eP1.look1 0 rfl eo4 (fun b hb => eH2 b (by rw [eq2]; simp [hb]))
   have eL2 := oL eo4
   refine W_reg (sM rfl rfl (sM rfl rfl (sV rfl (py_elz tu36 ts139 rfl rfl ee2 i (by omega) (by omega)) (sV rfl (py_field tu139 rfl ts30 rfl rfl) (sV rfl (py_load tu30 rfl rfl (at_cell ec2 1 rfl)) (sM rfl rfl (s_call (wn rfl) rfl rfl (pc_call Tryz.func84 rfl Tryz_nm84 rfl) (Tryz_laws_heldRecS (eP2.sees 2 rfl) (by constructor <;> omega) (by assumption)) (fun v1 w2 r1 => ?_))))))))
   obtain ⟨e1, rfl⟩ := r1
   have H2 := eP2.to e1
   refine sA rfl rfl (s_nil (W_sr (sM rfl rfl (sV rfl (py_lss rfl rfl) (s_nil (W_ifd rfl (fun c3 => ?_) (fun c3 => ?_)))))))
   ·exact absurd c3 (by omega)
   ·refine W_skip (W_reg (sM rfl rfl (sV rfl (py_add rfl rfl (in64 ⟨by omega, by omega⟩)) (sA rfl rfl (s_nil (⟨i + 1, ⟨eqI (by omega), rfl, rfl, trivial⟩, ⟨(H2.ftake 1), by omega, trivial⟩, by dsimp only; omega⟩))))))
 ·refine W_exit (W_sr (sM rfl rfl (sA rfl rfl (s_nil (rT hQ Tryz.results213 rfl ?_)))))
  obtain rfl : i = xs.length := by omega
  exact ⟨H1.ext, rfl⟩
theorem Tryz_laws_heldWorld {w : World} {x : Wld} {s0 s1 s2 s3 s4 s5 s6 s7 s8 wr sp k : Int} {dn : Bool} {A9 A10 A11 : Option Addr} {n9 C9 n10 C10 n11 C11 : Nat} (e9 : Sees w [.slice A9 n9 C9] x.Groups) (e10 : Sees w [.slice A10 n10 C10] x.On) (e11 : Sees w [.slice A11 n11 C11] x.Tapes) (hk : 0 ≤ k ∧ k + mkWld x ≤ 4611686018427387904) (hm : MkWld x k) : Ret Tryz.prog 124 #[.agg #[.int .i64 s0, .int .i64 s1, .int .i64 s2, .int .i64 s3, .int .i64 s4, .int .i64 s5, .int .i64 s6, .int .i64 s7, .int .i64 s8, .slice A9 n9 C9, .slice A10 n10 C10, .slice A11 n11 C11, .int .i64 wr, .int .i64 sp, .bool dn], .int .i64 k] w fun v w' => Ext No w w' ∧ (v = .int .i64 (k + mkWld x)) := by
 obtain ⟨f9, o9⟩ := e9
 obtain rfl := own_n o9
 obtain ⟨f10, o10⟩ := e10
 obtain rfl := own_n o10
 obtain ⟨f11, o11⟩ := e11
 obtain rfl := own_n o11
 have hcu : mkWld x = mkL (mkL mkDrive) x.Groups + x.On.length + mkL mkTape x.Tapes := rfl
 obtain ⟨m1, m2, m3⟩ := hm
 refine ret_Q (vs := [.agg #[.int .i64 s0, .int .i64 s1, .int .i64 s2, .int .i64 s3, .int .i64 s4, .int .i64 s5, .int .i64 s6, .int .i64 s7, .int .i64 s8, .slice A9 x.Groups.length C9, .slice A10 x.On.length C10, .slice A11 x.Tapes.length C11, .int .i64 wr, .int .i64 sp, .bool dn], .int .i64 k]) Tryz.func124 rfl Tryz.ntmps124 rfl (fun Q hQ hN => ?_)
 have H0 := Sep.start (w := w) (F := [seen false [.slice A9 x.Groups.length C9] x.Groups f9, seen false [.slice A10 x.On.length C10] x.On f10, seen false [.slice A11 x.Tapes.length C11] x.Tapes f11]) (all_cons o9 (all_cons o10 (all_cons o11 (by simp))))
 refine W_sr (s_box (wn rfl) rfl rfl H0 (fun b1 w1 e1 g1 H1 => ?_))
 refine sA rfl rfl (s_nil (W_sr (sV rfl (py_field tu38 rfl ts35 rfl rfl) (sV rfl (py_load tu35 rfl rfl (cell_atL (H1.box 0 rfl) rfl)) (sM rfl rfl (s_call (wn rfl) rfl rfl (pc_call Tryz.func212 rfl Tryz_nm212 rfl) (Tryz_laws_heldDriveSS (H1.sees 0 rfl) (by constructor <;> omega) (by assumption)) (fun v1 w2 r1 => ?_)))))))
 obtain ⟨e2, rfl⟩ := r1
 have H2 := H1.to e2
 refine sA rfl rfl (s_nil (W_seq (W_sr (sM rfl rfl (sV rfl (py_lss rfl rfl) (s_nil (W_ifd rfl (fun c1 => ?_) (fun c1 => ?_))))))))
 ·exact absurd c1 (by omega)
 ·refine W_skip (W_sr (sV rfl (py_field tu38 rfl ts25 rfl rfl) (sV rfl (py_load tu25 rfl rfl (cell_atL (H2.box 0 rfl) rfl)) (sM rfl rfl (s_call (wn rfl) rfl rfl (pc_call Tryz.func92 rfl Tryz_nm92 rfl) (Tryz_laws_heldInt64S (H2.sees 1 rfl) (by constructor <;> omega) (by assumption)) (fun v2 w3 r2 => ?_))))))
  obtain ⟨e3, rfl⟩ := r2
  have H3 := H2.to e3
  refine sA rfl rfl (s_nil (W_seq (W_sr (sM rfl rfl (sV rfl (py_lss rfl rfl) (s_nil (W_ifd rfl (fun c2 => ?_) (fun c2 => ?_))))))))
  ·exact absurd c2 (by omega)
  ·refine W_skip (W_sr (sV rfl (py_field tu38 rfl ts36 rfl rfl) (sV rfl (py_load tu36 rfl rfl (cell_atL (H3.box 0 rfl) rfl)) (sM rfl rfl (s_call (wn rfl) rfl rfl (pc_call Tryz.func213 rfl Tryz_nm213 rfl) (Tryz_laws_heldTapeS (H3.sees 2 rfl) (by constructor <;> omega) (by assumption)) (fun v3 w4 r3 => ?_))))))
   obtain ⟨e4, rfl⟩ := r3
   have H4 := H3.to e4
   refine sA rfl rfl (s_nil (W_seq (W_sr (sM rfl rfl (sV rfl (py_lss rfl rfl) (s_nil (W_ifd rfl (fun c3 => ?_) (fun c3 => ?_))))))))
   ·exact absurd c3 (by omega)
   ·refine W_skip (W_sr (sM rfl rfl (sA rfl rfl (s_nil (rT hQ Tryz.results124 rfl ?_)))))
    exact ⟨H4.ext, congrArg (Value.int .i64) (by omega)⟩
theorem Tryz_laws_heldWorldResult {w : World} {x : Wld} {c s0 s1 s2 s3 s4 s5 s6 s7 s8 wr sp k : Int} {dn : Bool} {A9 A10 A11 : Option Addr} {n9 C9 n10 C10 n11 C11 : Nat} (e9 : Sees w [.slice A9 n9 C9] x.Groups) (e10 : Sees w [.slice A10 n10 C10] x.On) (e11 : Sees w [.slice A11 n11 C11] x.Tapes) (hk : 0 ≤ k ∧ k + mkWld x ≤ 4611686018427387904) (hm : MkWld x k) : Ret Tryz.prog 50 #[.agg #[.int .i64 c, .int .i64 s0, .int .i64 s1, .int .i64 s2, .int .i64 s3, .int .i64 s4, .int .i64 s5, .int .i64 s6, .int .i64 s7, .int .i64 s8, .slice A9 n9 C9, .slice A10 n10 C10, .slice A11 n11 C11, .int .i64 wr, .int .i64 sp, .bool dn], .int .i64 k] w fun v w' => Ext No w w' ∧ (v = .int .i64 (k + mkWld x)) := by
 obtain ⟨f9, o9⟩ := e9
 obtain rfl := own_n o9
 obtain ⟨f10, o10⟩ := e10
 obtain rfl := own_n o10
 obtain ⟨f11, o11⟩ := e11
 obtain rfl := own_n o11
 skip
 refine ret_Q (vs := [.agg #[.int .i64 c, .int .i64 s0, .int .i64 s1, .int .i64 s2, .int .i64 s3, .int .i64 s4, .int .i64 s5, .int .i64 s6, .int .i64 s7, .int .i64 s8, .slice A9 x.Groups.length C9, .slice A10 x.On.length C10, .slice A11 x.Tapes.length C11, .int .i64 wr, .int .i64 sp, .bool dn], .int .i64 k]) Tryz.func50 rfl Tryz.ntmps50 rfl (fun Q hQ hN => ?_)
 have H0 := Sep.start (w := w) (F := [seen false [.slice A9 x.Groups.length C9] x.Groups f9, seen false [.slice A10 x.On.length C10] x.On f10, seen false [.slice A11 x.Tapes.length C11] x.Tapes f11]) (all_cons o9 (all_cons o10 (all_cons o11 (by simp))))
 refine W_sr (s_box (wn rfl) rfl rfl H0 (fun b1 w1 e1 g1 H1 => ?_))
 refine sA rfl rfl (s_nil (W_sr (sV rfl (py_field tu66 rfl ts38 rfl rfl) (sV rfl (py_loadS tu38 rfl ts38 rfl rfl (At.sub (H1.box 0 rfl) 15)) (sM rfl rfl (s_call (wn rfl) rfl rfl (pc_call Tryz.func124 rfl Tryz_nm124 rfl) (Tryz_laws_heldWorld (H1.sees 0 rfl) (H1.sees 1 rfl) (H1.sees 2 rfl) (by constructor <;> omega) (by assumption)) (fun v1 w2 r1 => ?_)))))))
 obtain ⟨e2, rfl⟩ := r1
 have H2 := H1.to e2
 refine sA rfl rfl (s_nil (W_seq (W_sr (sM rfl rfl (sV rfl (py_lss rfl rfl) (s_nil (W_ifd rfl (fun c1 => ?_) (fun c1 => ?_))))))))
 ·exact absurd c1 (by omega)
 ·refine W_skip (W_sr (sM rfl rfl (sA rfl rfl (s_nil (rT hQ Tryz.results50 rfl ?_)))))
  exact ⟨H2.ext, rfl⟩
theorem Tryz_laws_markWorldResult {w : World} {y : WldResult} {yA10 yA11 yA12 : Option Addr} {yC10 yC11 yC12 : Nat} {k : Int} {fp : List Nat} (o : own true w [.int .i64 y.Code, .int .i64 y.Wd.Shape.Groups, .int .i64 y.Wd.Shape.Column, .int .i64 y.Wd.Shape.Data, .int .i64 y.Wd.Shape.Spare, .int .i64 y.Wd.Shape.Rows, .int .i64 y.Wd.Shape.Cap, .int .i64 y.Wd.Shape.Batch, .int .i64 y.Wd.Shape.Queue, .int .i64 y.Wd.Shape.Stage, .slice yA10 y.Wd.Groups.length yC10, .slice yA11 y.Wd.On.length yC11, .slice yA12 y.Wd.Tapes.length yC12, .int .i64 y.Wd.Writes, .int .i64 y.Wd.Stop, .bool y.Wd.Down] y fp) (nd : fp.Nodup) (hk : 0 ≤ k ∧ k + mkWld y.Wd ≤ 4611686018427387904) : Ret Tryz.prog 49 #[y.val yA10 yC10 yA11 yC11 yA12 yC12, .int .i64 k] w fun v w' => (v = .int .i64 (k + mkWld y.Wd) ∧ ∃ x' : Wld, Mut w w' fp [.int .i64 y.Code, .int .i64 y.Wd.Shape.Groups, .int .i64 y.Wd.Shape.Column, .int .i64 y.Wd.Shape.Data, .int .i64 y.Wd.Shape.Spare, .int .i64 y.Wd.Shape.Rows, .int .i64 y.Wd.Shape.Cap, .int .i64 y.Wd.Shape.Batch, .int .i64 y.Wd.Shape.Queue, .int .i64 y.Wd.Shape.Stage, .slice yA10 y.Wd.Groups.length yC10, .slice yA11 y.Wd.On.length yC11, .slice yA12 y.Wd.Tapes.length yC12, .int .i64 y.Wd.Writes, .int .i64 y.Wd.Stop, .bool y.Wd.Down] (⟨y.Code, x'⟩ : WldResult) ∧ (x'.Groups.length = y.Wd.Groups.length ∧ x'.On.length = y.Wd.On.length ∧ x'.Tapes.length = y.Wd.Tapes.length ∧ mkWld x' = mkWld y.Wd ∧ MkWld x' k ∧ x'.Shape = y.Wd.Shape ∧ x'.Writes = y.Wd.Writes ∧ x'.Stop = y.Wd.Stop ∧ x'.Down = y.Wd.Down)) := by
 refine ret_Q (vs := [y.val yA10 yC10 yA11 yC11 yA12 yC12, .int .i64 k]) Tryz.func49 rfl Tryz.ntmps49 rfl (fun Q hQ hN => ?_)
 obtain ⟨f10, f11, f12, ef, ok, o10, o11, o12⟩ := own_WldResultC o
 have H0 := (Sep.begin o nd).conv 0 (mine [.int .i64 y.Wd.Shape.Groups, .int .i64 y.Wd.Shape.Column, .int .i64 y.Wd.Shape.Data, .int .i64 y.Wd.Shape.Spare, .int .i64 y.Wd.Shape.Rows, .int .i64 y.Wd.Shape.Cap, .int .i64 y.Wd.Shape.Batch, .int .i64 y.Wd.Shape.Queue, .int .i64 y.Wd.Shape.Stage, .slice yA10 y.Wd.Groups.length yC10, .slice yA11 y.Wd.On.length yC11, .slice yA12 y.Wd.Tapes.length yC12, .int .i64 y.Wd.Writes, .int .i64 y.Wd.Stop, .bool y.Wd.Down] y.Wd (f10 ++ (f11 ++ f12))) rfl (Wld.own_mk ok.2 o10 o11 o12) (fun b hb => by rw [ef]; exact hb) (by rw [← ef]; exact nd)
 try dsimp only [lNA, lCA, lSZ, lSS] at H0
 have okW := ok.2
 refine W_sr (s_box (wn rfl) rfl rfl H0 (fun b1 w1 e1 g1 H1 => ?_))
 refine sA rfl rfl (s_nil (W_sr (sV rfl (py_field tu66 rfl ts38 rfl rfl) (sV rfl (py_loadS tu38 rfl ts38 rfl rfl (At.sub (H1.box 1 rfl) 15)) (sM rfl rfl (s_call (wn rfl) rfl rfl (pc_call Tryz.func21 rfl Tryz_nm21 rfl) (Tryz_laws_markWorld (by assumption) (H1.mine 0 rfl) (H1.nodup1 (i := 0) rfl) (by constructor <;> omega)) (fun v1 w2 r1 => ?_)))))))
 obtain ⟨rfl, mx1, mm1, ml1⟩ := r1
 obtain ⟨fp1, H2⟩ := H1.mut 0 rfl mm1
 try dsimp only [lNA, lCA, lSZ, lSS] at H2
 refine sA rfl rfl (s_nil (W_sr (sM rfl rfl (sA rfl rfl (s_nil (rT hQ Tryz.results49 rfl ?_))))))
 exact ⟨rfl, mx1, WldResult.mutW ok (H2.dtake 1), ml1⟩
theorem Tryz_laws_eqWorldResult {w : World} {a : WldResult} {aA10 aA11 aA12 : Option Addr} {aC10 aC11 aC12 : Nat} {b : WldResult} {bA10 bA11 bA12 : Option Addr} {bC10 bC11 bC12 : Nat} (aK : a.Ok) (aS10 : Sees w [.slice aA10 a.Wd.Groups.length aC10] a.Wd.Groups) (aS11 : Sees w [.slice aA11 a.Wd.On.length aC11] a.Wd.On) (aS12 : Sees w [.slice aA12 a.Wd.Tapes.length aC12] a.Wd.Tapes) (bK : b.Ok) (bS10 : Sees w [.slice bA10 b.Wd.Groups.length bC10] b.Wd.Groups) (bS11 : Sees w [.slice bA11 b.Wd.On.length bC11] b.Wd.On) (bS12 : Sees w [.slice bA12 b.Wd.Tapes.length bC12] b.Wd.Tapes) : Ret Tryz.prog 46 #[a.val aA10 aC10 aA11 aC11 aA12 aC12, b.val bA10 bC10 bA11 bC11 bA12 bC12] w fun v w' => Ext No w w' ∧ (v = .bool (decide (a = b))) := by
 have aK2 := aK
 unfold WldResult.Ok Wld.Ok Shape.Ok at aK2
 try unfold I64ok at aK2
 try unfold maxLen at aK2
 have aL10 := sL aS10
 obtain ⟨aF10, aO10⟩ := aS10
 have aL11 := sL aS11
 obtain ⟨aF11, aO11⟩ := aS11
 have aL12 := sL aS12
 obtain ⟨aF12, aO12⟩ := aS12
 have bK2 := bK
 unfold WldResult.Ok Wld.Ok Shape.Ok at bK2
 try unfold I64ok at bK2
 try unfold maxLen at bK2
 have bL10 := sL bS10
 obtain ⟨bF10, bO10⟩ := bS10
 have bL11 := sL bS11
 obtain ⟨bF11, bO11⟩ := bS11
 have bL12 := sL bS12
 obtain ⟨bF12, bO12⟩ := bS12
 have aK3 := aK.2
 have bK3 := bK.2
 refine ret_Q (vs := [a.val aA10 aC10 aA11 aC11 aA12 aC12, b.val bA10 bC10 bA11 bC11 bA12 bC12]) Tryz.func46 rfl Tryz.ntmps46 rfl (fun Q hQ hN => ?_)
 have H0 := Sep.start (w := w) (F := [seen false [.slice aA10 a.Wd.Groups.length aC10] a.Wd.Groups aF10, seen false [.slice aA11 a.Wd.On.length aC11] a.Wd.On aF11, seen false [.slice aA12 a.Wd.Tapes.length aC12] a.Wd.Tapes aF12, seen false [.slice bA10 b.Wd.Groups.length bC10] b.Wd.Groups bF10, seen false [.slice bA11 b.Wd.On.length bC11] b.Wd.On bF11, seen false [.slice bA12 b.Wd.Tapes.length bC12] b.Wd.Tapes bF12]) (all_cons aO10 (all_cons aO11 (all_cons aO12 (all_cons bO10 (all_cons bO11 (all_cons bO12 (by simp)))))))
 refine W_sr (s_box (wn rfl) rfl rfl H0 (fun b1 w1 e1 g1 H1 => ?_))
 refine s_box (wn rfl) rfl rfl H1 (fun b2 w2 e2 g2 H2 => ?_)
 refine sA rfl rfl (s_nil (W_seq (W_sr (sV rfl (py_field tu66 rfl ts2 rfl rfl) (sV rfl (py_load tu2 rfl rfl (cell_atL (H2.box 0 rfl) rfl)) (sV rfl (py_field tu66 rfl ts2 rfl rfl) (sV rfl (py_load tu2 rfl rfl (cell_atL (H2.box 1 rfl) rfl)) (sV rfl (py_neq rfl rfl) (s_nil (W_ifd rfl (fun c1 => ?_) (fun c1 => ?_)))))))))))
 ·refine W_sr (sA rfl rfl (s_nil (rT hQ Tryz.results46 rfl (⟨H2.ext, ?_⟩))))
  rw [decide_eq_false (fun e => by subst e; first | exact c1 rfl | simp at c1)]
 ·refine W_skip (W_seq (W_sr (sV rfl (py_field tu66 rfl ts38 rfl rfl) (sV rfl (py_loadS tu38 rfl ts38 rfl rfl (At.sub (H2.box 0 rfl) 15)) (sV rfl (py_field tu66 rfl ts38 rfl rfl) (sV rfl (py_loadS tu38 rfl ts38 rfl rfl (At.sub (H2.box 1 rfl) 15)) (s_call (wn rfl) rfl rfl (pc_call Tryz.func20 rfl Tryz_nm20 rfl) (Tryz_laws_eqWorld (by assumption) (H2.sees 0 rfl) (H2.sees 1 rfl) (H2.sees 2 rfl) (by assumption) (H2.sees 3 rfl) (H2.sees 4 rfl) (H2.sees 5 rfl)) (fun v1 w3 r1 => ?_))))))))
  obtain ⟨e3, rfl⟩ := r1
  have H3 := H2.to e3
  refine sV rfl (py_not rfl) (s_nil (W_if rfl (fun c2 => ?_) (fun c2 => ?_)))
  ·refine W_sr (sA rfl rfl (s_nil (rT hQ Tryz.results46 rfl (⟨H3.ext, ?_⟩))))
   rw [decide_eq_false (fun e => by subst e; first | exact c2 rfl | simp at c2)]
  ·refine W_skip (W_sr (sA rfl rfl (s_nil (rT hQ Tryz.results46 rfl (⟨H3.ext, ?_⟩)))))
   rw [decide_eq_true]
   cases a; cases b; simp_all
end Go.Wk
namespace Go.Wk
open Go.Proofs Rp
set_option maxRecDepth 10000
theorem Tryz_impl_downIf {w : World} {d : Bool}  : Ret Tryz.prog 298 #[.bool d] w fun v w' => Ext No w w' ∧ (v = .int .i64 (if d = true then 0 else 9)) := by
 refine ret_Q (vs := [.bool d]) Tryz.func298 rfl Tryz.ntmps298 rfl (fun Q hQ hN => ?_)
 have H0 := Sep.start (w := w) (F := []) (by simp)
 refine W_sr (sA rfl rfl (s_nil (W_seq (W_sr (sM rfl rfl (sV rfl (py_not rfl) (s_nil (W_if rfl (fun c1 => ?_) (fun c1 => ?_)))))))))
 ·refine W_sr (sA rfl rfl (s_nil (rT hQ Tryz.results298 rfl ?_)))
  exact ⟨H0.ext, by simp_all⟩
 ·refine W_skip (W_sr (sA rfl rfl (s_nil (rT hQ Tryz.results298 rfl ?_))))
  exact ⟨H0.ext, by simp_all⟩
theorem Tryz_impl_World_cut {w : World} {z : Wld} {zb : Nat} {fp : List Nat} (o : OwnW w zb 38 z fp) (nd : fp.Nodup) : Ret Tryz.prog 334 #[.pointer (some ⟨zb, 0, none⟩)] w fun v w' => (MutW w w' fp zb 38 (cutW z)) := by
 refine ret_Q (vs := [.pointer (some ⟨zb, 0, none⟩)]) Tryz.func334 rfl Tryz.ntmps334 rfl (fun Q hQ hN => ?_)
 have H0 := Sep.beginW o nd
 obtain ⟨wA1, wC1, wA2, wC2, wA3, wC3, wf1, wf2, wf3, wok1, H1⟩ := H0.openW 0 rfl
 try dsimp only [lNA, lCA, lSZ, lSS] at H1
 have wok1U := wok1
 unfold Wld.Ok Shape.Ok I64ok at wok1U
 have wL1 := oL (H1.mine 2 rfl)
 have wL2 := oL (H1.mine 3 rfl)
 have wL3 := oL (H1.mine 4 rfl)
 refine W_reg (sM rfl rfl (sM rfl rfl (sV rfl (py_nil rfl) (sV rfl (py_field tu38 rfl ts4 rfl rfl) (s_sto (wn rfl) ts4 rfl rfl rfl H1 0 rfl rfl (fun w1 e1 H2 => ?_))))))
 dsimp only [lNA, lCA, lSZ, lSS, layL] at H2
 refine sV rfl (py_nil rfl) (sV rfl (py_field tu38 rfl ts25 rfl rfl) (s_sto (wn rfl) ts25 rfl rfl rfl H2 0 rfl rfl (fun w2 e2 H3 => ?_)))
 dsimp only [lNA, lCA, lSZ, lSS, layL] at H3
 refine s_nil (hN _ _ (fin0 Tryz.results334 ?_))
 have H4 := H3.nilW (α := Int)
 try dsimp only [lNA, lCA, lSZ, lSS] at H4
 obtain ⟨fp1, H5⟩ := H4.closeW 0 2 5 4 (cutW z) rfl rfl rfl rfl rfl rfl rfl rfl rfl rfl (cutW_ok wok1)
 try dsimp only [lNA, lCA, lSZ, lSS] at H5
 have hz := H5.doneW
 exact hz
theorem Tryz_impl_World_raw {w : World} {z y : Wld} {zb : Nat} {fp : List Nat} {dof : FuncId} {doL : List Value} {doF : Func} (o : OwnW w zb 38 z fp) (nd : fp.Nodup) (doH : Tryz.prog.funcs[dof]? = some doF) (doB : doF.body.isNone = false) (doN : NG doF) (doC : ∀ w1 fp1, OwnW w1 zb 38 z fp1 → fp1.Nodup → (∀ x ∈ fp1, x ∈ fp ∨ w.heap.size ≤ x) → Ext (· ∈ fp) w w1 → Ret Tryz.prog dof doL.toArray w1 fun v w' => MutW w1 w' fp1 zb 38 y) (hy : y.Writes ≤ 2000000000) : Ret Tryz.prog 290 #[.pointer (some ⟨zb, 0, none⟩), .func (.func dof) #[] doL.toArray] w fun v w' => (v = .bool (!noPower z) ∧ MutW w w' fp zb 38 (rawW z y)) := by
 refine ret_Q (vs := [.pointer (some ⟨zb, 0, none⟩), .func (.func dof) #[] doL.toArray]) Tryz.func290 rfl Tryz.ntmps290 rfl (fun Q hQ hN => ?_)
 have H0 := Sep.beginW o nd
 refine W_sr (sA rfl rfl (s_nil (W_seq (W_seq ?_))))
 obtain ⟨wA1, wC1, wA2, wC2, wA3, wC3, wf1, wf2, wf3, wok1, H1⟩ := H0.openW 0 rfl
 try dsimp only [lNA, lCA, lSZ, lSS] at H1
 have wok1U := wok1
 unfold Wld.Ok Shape.Ok I64ok at wok1U
 have wL1 := oL (H1.mine 2 rfl)
 have wL2 := oL (H1.mine 3 rfl)
 have wL3 := oL (H1.mine 4 rfl)
 refine W_drw (S := Ext No _) [(0, true), (1, true), (2, true), (3, true), (4, true), (5, true), (6, true), (7, true), (8, true), (9, true), (10, true), (11, true), (12, true), (13, true), (14, true), (15, false)] (by kernel_rfl) (by kernel_rfl) (by kernel_rfl) rfl (fun _ => Ext.refl.drawn _) (fun q1 => ?_)
 have H2 := H1.drawn q1
 refine dM rfl rfl rfl (dV rfl rfl (fun zw hx => py_nil rfl) (dV rfl rfl (fun zw hx => py_field tu38 rfl ts2 rfl rfl) (dV rfl rfl (fun zw hx => py_load tu2 rfl rfl (cell_atL (hx.heap (H2.box 0 rfl)) rfl)) (dV rfl rfl (fun zw hx => py_neq rfl rfl) (dM rfl rfl rfl (d_case (t := 10) rfl (fun hg1 => ?_) (fun hg1 => ?_)))))))
 ·try simp only [decide_eq_true_eq, decide_eq_false_iff_not] at hg1
  refine d_val rfl (wg rfl rfl rfl) rfl rfl (fun zw hx => py_move rfl) (d_val rfl (wg rfl rfl rfl) rfl rfl (fun zw hx => py_nil rfl) (d_val rfl (wg rfl rfl rfl) rfl rfl (fun zw hx => py_field tu38 rfl ts2 rfl rfl) (d_val rfl (wg rfl rfl rfl) rfl rfl (fun zw hx => py_load tu2 rfl rfl (cell_atL (hx.heap (H2.box 0 rfl)) rfl)) (d_val rfl (wg rfl rfl rfl) rfl rfl (fun zw hx => py_move rfl) (d_val rfl (wg rfl rfl rfl) rfl rfl (fun zw hx => py_nil rfl) (d_val rfl (wg rfl rfl rfl) rfl rfl (fun zw hx => py_field tu38 rfl ts2 rfl rfl) (d_val rfl (wg rfl rfl rfl) rfl rfl (fun zw hx => py_load tu2 rfl rfl (cell_atL (hx.heap (H2.box 0 rfl)) rfl)) (d_val rfl (wg rfl rfl rfl) rfl rfl (fun zw hx => py_geq rfl rfl) (d_end rfl (wn rfl) rfl rfl (py_pickT rfl rfl) (d_nil (W_ifd rfl (fun c1 => ?_) (fun c1 => ?_))))))))))))
  ·refine W_seq ?_
   have hnp : noPower z = true := noPower_yes (by omega) (by omega)
   refine W_reg (sM rfl rfl ?_)
   obtain ⟨fp1, H3⟩ := H2.closeW 0 2 3 4 z rfl rfl rfl rfl rfl rfl rfl rfl rfl rfl wok1
   try dsimp only [lNA, lCA, lSZ, lSS] at H3
   refine s_call (wn rfl) rfl rfl (pc_call Tryz.func334 rfl Tryz_nm334 rfl) (Tryz_impl_World_cut (H3.wldAt 0 rfl) (H3.nodup1 (i := 0) rfl)) (fun v1 w1 r1 => ?_)
   have mm1 := r1
   obtain ⟨fp2, H4⟩ := H3.mutW 0 rfl mm1
   try dsimp only [lNA, lCA, lSZ, lSS] at H4
   refine s_nil (W_sr (sA rfl rfl (s_nil (rT hQ Tryz.results290 rfl ?_))))
   have hz := H4.doneW
   rw [← rawW_no (y := y) hnp] at hz
   exact ⟨(by rw [hnp]; rfl), hz⟩
  ·refine W_skip (W_seq ?_)
   have hnp : noPower z = false := noPower_no (.inr (by omega))
   refine W_reg (sM rfl rfl ?_)
   obtain ⟨fp3, H5⟩ := H2.closeW 0 2 3 4 z rfl rfl rfl rfl rfl rfl rfl rfl rfl rfl wok1
   try dsimp only [lNA, lCA, lSZ, lSS] at H5
   refine s_call (wn rfl) rfl rfl (pc_callv (lb := doL) rfl doH doB doN rfl) (doC _ _ (H5.wldAt 0 rfl) (H5.nodup1 (i := 0) rfl) (fun x hx => H5.new x (H5.inB 0 rfl hx)) H5.ext) (fun v2 w2 r2 => ?_)
   obtain ⟨fp4, H6⟩ := H5.mutW 0 rfl r2
   try dsimp only [lNA, lCA, lSZ, lSS] at H6
   refine s_nil (W_seq ?_)
   obtain ⟨wA4, wC4, wA5, wC5, wA6, wC6, wf4, wf5, wf6, wok2, H7⟩ := H6.openW 0 rfl
   try dsimp only [lNA, lCA, lSZ, lSS] at H7
   have wok2U := wok2
   unfold Wld.Ok Shape.Ok I64ok at wok2U
   have wL4 := oL (H7.mine 6 rfl)
   have wL5 := oL (H7.mine 7 rfl)
   have wL6 := oL (H7.mine 8 rfl)
   refine W_reg (sM rfl rfl (sV rfl (py_nil rfl) (sV rfl (py_field tu38 rfl ts2 rfl rfl) (sV rfl (py_load tu2 rfl rfl (cell_atL (H7.box 0 rfl) rfl)) (sV rfl (py_add rfl rfl (in64 ⟨by omega, by omega⟩)) (sV rfl (py_nil rfl) (sV rfl (py_field tu38 rfl ts2 rfl rfl) (s_sto (wn rfl) ts2 rfl rfl rfl H7 0 rfl rfl (fun w3 e2 H8 => ?_)))))))))
   dsimp only [lNA, lCA, lSZ, lSS, layL] at H8
   refine s_nil (W_sr (sA rfl rfl (s_nil (rT hQ Tryz.results290 rfl ?_))))
   obtain ⟨fp5, H9⟩ := H8.closeW 0 6 7 8 (tickW y) rfl rfl rfl rfl rfl rfl rfl rfl rfl rfl (tickW_ok wok2 hy)
   try dsimp only [lNA, lCA, lSZ, lSS] at H9
   have hz := H9.doneW
   rw [← rawW_yes hnp] at hz
   exact ⟨(by rw [hnp]; rfl), hz⟩
 ·try simp only [decide_eq_true_eq, decide_eq_false_iff_not] at hg1
  refine dKf rfl rfl rfl rfl (dKf rfl rfl rfl rfl (dKf rfl rfl rfl rfl (dKf rfl rfl rfl rfl (dKf rfl rfl rfl rfl (dKf rfl rfl rfl rfl (dKf rfl rfl rfl rfl (dKf rfl rfl rfl rfl (dKf rfl rfl rfl rfl (d_end rfl (wn rfl) rfl rfl (py_pickF rfl rfl) (d_nil (W_iff rfl (W_skip (W_seq ?_)))))))))))))
  have hnp : noPower z = false := noPower_no (.inl (by omega))
  refine W_reg (sM rfl rfl ?_)
  obtain ⟨fp6, H10⟩ := H2.closeW 0 2 3 4 z rfl rfl rfl rfl rfl rfl rfl rfl rfl rfl wok1
  try dsimp only [lNA, lCA, lSZ, lSS] at H10
  refine s_call (wn rfl) rfl rfl (pc_callv (lb := doL) rfl doH doB doN rfl) (doC _ _ (H10.wldAt 0 rfl) (H10.nodup1 (i := 0) rfl) (fun x hx => H10.new x (H10.inB 0 rfl hx)) H10.ext) (fun v3 w4 r3 => ?_)
  obtain ⟨fp7, H11⟩ := H10.mutW 0 rfl r3
  try dsimp only [lNA, lCA, lSZ, lSS] at H11
  refine s_nil (W_seq ?_)
  obtain ⟨wA7, wC7, wA8, wC8, wA9, wC9, wf7, wf8, wf9, wok3, H12⟩ := H11.openW 0 rfl
  try dsimp only [lNA, lCA, lSZ, lSS] at H12
  have wok3U := wok3
  unfold Wld.Ok Shape.Ok I64ok at wok3U
  have wL7 := oL (H12.mine 6 rfl)
  have wL8 := oL (H12.mine 7 rfl)
  have wL9 := oL (H12.mine 8 rfl)
  refine W_reg (sM rfl rfl (sV rfl (py_nil rfl) (sV rfl (py_field tu38 rfl ts2 rfl rfl) (sV rfl (py_load tu2 rfl rfl (cell_atL (H12.box 0 rfl) rfl)) (sV rfl (py_add rfl rfl (in64 ⟨by omega, by omega⟩)) (sV rfl (py_nil rfl) (sV rfl (py_field tu38 rfl ts2 rfl rfl) (s_sto (wn rfl) ts2 rfl rfl rfl H12 0 rfl rfl (fun w5 e3 H13 => ?_)))))))))
  dsimp only [lNA, lCA, lSZ, lSS, layL] at H13
  refine s_nil (W_sr (sA rfl rfl (s_nil (rT hQ Tryz.results290 rfl ?_))))
  obtain ⟨fp8, H14⟩ := H13.closeW 0 6 7 8 (tickW y) rfl rfl rfl rfl rfl rfl rfl rfl rfl rfl (tickW_ok wok3 hy)
  try dsimp only [lNA, lCA, lSZ, lSS] at H14
  have hz := H14.doneW
  rw [← rawW_yes hnp] at hz
  exact ⟨(by rw [hnp]; rfl), hz⟩
theorem Tryz_impl_changed_yes {w : World} {x : Wld} {xA9 xA10 xA11 : Option Addr} {xC9 xC10 xC11 : Nat} {c : Int} (xK : x.Ok) (xS9 : Sees w [.slice xA9 x.Groups.length xC9] x.Groups) (xS10 : Sees w [.slice xA10 x.On.length xC10] x.On) (xS11 : Sees w [.slice xA11 x.Tapes.length xC11] x.Tapes) (hc : c = 0 ∨ c = 9) : Ret Tryz.prog 123 #[x.val xA9 xC9 xA10 xC10 xA11 xC11, .int .i64 c] w fun v w' => Ext No w w' ∧ (v = (⟨c, x⟩ : WldResult).val xA9 xC9 xA10 xC10 xA11 xC11) := by
 have xK2 := xK
 unfold Wld.Ok Shape.Ok at xK2
 try unfold I64ok at xK2
 try unfold maxLen at xK2
 have xL9 := sL xS9
 obtain ⟨xF9, xO9⟩ := xS9
 have xL10 := sL xS10
 obtain ⟨xF10, xO10⟩ := xS10
 have xL11 := sL xS11
 obtain ⟨xF11, xO11⟩ := xS11
 refine ret_Q (vs := [x.val xA9 xC9 xA10 xC10 xA11 xC11, .int .i64 c]) Tryz.func123 rfl Tryz.ntmps123 rfl (fun Q hQ hN => ?_)
 have H0 := Sep.start (w := w) (F := [seen false [.slice xA9 x.Groups.length xC9] x.Groups xF9, seen false [.slice xA10 x.On.length xC10] x.On xF10, seen false [.slice xA11 x.Tapes.length xC11] x.Tapes xF11]) (all_cons xO9 (all_cons xO10 (all_cons xO11 (by simp))))
 refine W_sr (s_box (wn rfl) rfl rfl H0 (fun b1 w1 e1 g1 H1 => ?_))
 refine s_var (wn rfl) rfl Tryz.zeroValue66 H1 (fun b2 w2 e2 g2 H2 => ?_)
 refine s_nil (W_seq (W_sr (sM rfl rfl (sV rfl (py_neq rfl rfl) (sM rfl rfl (s_case (t := 7) rfl (fun hg1 => ?_) (fun hg1 => ?_)))))))
 ·try simp only [decide_eq_true_eq, decide_eq_false_iff_not] at hg1
  refine s_val (wg rfl rfl rfl) rfl rfl (py_move rfl) (s_val (wg rfl rfl rfl) rfl rfl (py_neq rfl rfl) (sV rfl (py_pickT rfl rfl) (s_nil (W_ifd rfl (fun c1 => ?_) (fun c1 => ?_)))))
  ·exfalso; simp_all
  ·refine W_skip (W_sr (sM rfl rfl (sV rfl (py_loadS tu38 rfl ts38 rfl rfl (At.whole (H2.box 0 rfl))) (sV rfl (py_buildS Tryz_pl66 rfl rfl) (s_stoS (wn rfl) ts66 rfl rfl rfl rfl H2 1 rfl rfl (fun w3 e3 H3 => ?_))))))
   dsimp only [lNA, lCA, lSZ, lSS, layL] at H3
   refine s_nil (W_ret (hQ _ _ (finC Tryz.results123 rfl (run_loadVarS tu66 rfl ts66 rfl (At.whole (H3.box 1 rfl))) ?_)))
   exact ⟨H3.ext, rfl⟩
 ·try simp only [decide_eq_true_eq, decide_eq_false_iff_not] at hg1
  refine sKf rfl rfl rfl (sKf rfl rfl rfl (sV rfl (py_pickF rfl rfl) (s_nil (W_iff rfl (W_skip (W_sr (sM rfl rfl (sV rfl (py_loadS tu38 rfl ts38 rfl rfl (At.whole (H2.box 0 rfl))) (sV rfl (py_buildS Tryz_pl66 rfl rfl) (s_stoS (wn rfl) ts66 rfl rfl rfl rfl H2 1 rfl rfl (fun w4 e4 H4 => ?_)))))))))))
  dsimp only [lNA, lCA, lSZ, lSS, layL] at H4
  refine s_nil (W_ret (hQ _ _ (finC Tryz.results123 rfl (run_loadVarS tu66 rfl ts66 rfl (At.whole (H4.box 1 rfl))) ?_)))
  exact ⟨H4.ext, rfl⟩
theorem Tryz_spec_l7Told {w : World} {x : Wld} {xA9 xA10 xA11 : Option Addr} {xC9 xC10 xC11 : Nat} {d : Bool} (xK : x.Ok) (xS9 : Sees w [.slice xA9 x.Groups.length xC9] x.Groups) (xS10 : Sees w [.slice xA10 x.On.length xC10] x.On) (xS11 : Sees w [.slice xA11 x.Tapes.length xC11] x.Tapes) : Ret Tryz.prog 115 #[x.val xA9 xC9 xA10 xC10 xA11 xC11, .bool d] w fun v w' => Ext No w w' ∧ (v = (⟨if d = true then 0 else 9, x⟩ : WldResult).val xA9 xC9 xA10 xC10 xA11 xC11) := by
 have xK2 := xK
 unfold Wld.Ok Shape.Ok at xK2
 try unfold I64ok at xK2
 try unfold maxLen at xK2
 have xL9 := sL xS9
 obtain ⟨xF9, xO9⟩ := xS9
 have xL10 := sL xS10
 obtain ⟨xF10, xO10⟩ := xS10
 have xL11 := sL xS11
 obtain ⟨xF11, xO11⟩ := xS11
 refine ret_Q (vs := [x.val xA9 xC9 xA10 xC10 xA11 xC11, .bool d]) Tryz.func115 rfl Tryz.ntmps115 rfl (fun Q hQ hN => ?_)
 have H0 := Sep.start (w := w) (F := [seen false [.slice xA9 x.Groups.length xC9] x.Groups xF9, seen false [.slice xA10 x.On.length xC10] x.On xF10, seen false [.slice xA11 x.Tapes.length xC11] x.Tapes xF11]) (all_cons xO9 (all_cons xO10 (all_cons xO11 (by simp))))
 refine W_sr (s_box (wn rfl) rfl rfl H0 (fun b1 w1 e1 g1 H1 => ?_))
 refine s_var (wn rfl) rfl Tryz.zeroValue66 H1 (fun b2 w2 e2 g2 H2 => ?_)
 refine s_nil (W_seq (W_sr (sM rfl rfl (sV rfl (py_not rfl) (s_nil (W_if rfl (fun c1 => ?_) (fun c1 => ?_)))))))
 ·refine W_sr (sV rfl (py_loadS tu38 rfl ts38 rfl rfl (At.whole (H2.box 0 rfl))) (sV rfl (py_buildS Tryz_pl66 rfl rfl) (s_stoS (wn rfl) ts66 rfl rfl rfl rfl H2 1 rfl rfl (fun w3 e3 H3 => ?_))))
  dsimp only [lNA, lCA, lSZ, lSS, layL] at H3
  refine s_nil (W_ret (hQ _ _ (finC Tryz.results115 rfl (run_loadVarS tu66 rfl ts66 rfl (At.whole (H3.box 1 rfl))) ?_)))
  exact ⟨H3.ext, by cases d; (· rfl); (· exact absurd c1 (by simp))⟩
 ·refine W_skip (W_sr (sV rfl (py_loadS tu38 rfl ts38 rfl rfl (At.whole (H2.box 0 rfl))) (sV rfl (py_buildS Tryz_pl66 rfl rfl) (s_stoS (wn rfl) ts66 rfl rfl rfl rfl H2 1 rfl rfl (fun w4 e4 H4 => ?_)))))
  dsimp only [lNA, lCA, lSZ, lSS, layL] at H4
  refine s_nil (W_ret (hQ _ _ (finC Tryz.results115 rfl (run_loadVarS tu66 rfl ts66 rfl (At.whole (H4.box 1 rfl))) ?_)))
  exact ⟨H4.ext, by cases d; (· exact absurd c1 (by simp)); (· rfl)⟩
theorem Tryz_spec_l5Raw {w : World} {z : Wld} {zb : Nat} {fp : List Nat} (o : OwnW w zb 38 z fp) (nd : fp.Nodup) (hd : z.Down = false) (hw : z.Writes ≤ 2000000000) : Ret Tryz.prog 198 #[.pointer (some ⟨zb, 0, none⟩)] w fun v w' => (v = .bool (!noPower z) ∧ MutW w w' fp zb 38 (rawW z z)) := by
 refine ret_Q (vs := [.pointer (some ⟨zb, 0, none⟩)]) Tryz.func198 rfl Tryz.ntmps198 rfl (fun Q hQ hN => ?_)
 have H0 := Sep.beginW o nd
 refine W_sr (sA rfl rfl (s_nil (W_seq (W_seq ?_))))
 obtain ⟨wA1, wC1, wA2, wC2, wA3, wC3, wf1, wf2, wf3, wok1, H1⟩ := H0.openW 0 rfl
 try dsimp only [lNA, lCA, lSZ, lSS] at H1
 have wok1U := wok1
 unfold Wld.Ok Shape.Ok I64ok at wok1U
 have wL1 := oL (H1.mine 2 rfl)
 have wL2 := oL (H1.mine 3 rfl)
 have wL3 := oL (H1.mine 4 rfl)
 refine W_reg (sM rfl rfl (sV rfl (py_nil rfl) (sV rfl (py_field tu38 rfl ts4 rfl rfl) (sV rfl (py_load tu4 rfl rfl (cell_atL (H1.box 0 rfl) rfl)) (s_nil (W_if rfl (fun c1 => ?_) (fun c1 => ?_)))))))
 ·exfalso; simp_all
 ·refine W_skip (W_seq (W_seq (W_drw (S := Ext No _) [(0, true), (1, true), (2, true), (3, true), (4, true), (5, true), (6, true), (7, true), (8, true), (9, true), (10, true), (11, true), (12, true), (13, true), (14, true), (15, false)] (by kernel_rfl) (by kernel_rfl) (by kernel_rfl) rfl (fun _ => Ext.refl.drawn _) (fun q1 => ?_))))
  have H2 := H1.drawn q1
  refine dM rfl rfl rfl (dV rfl rfl (fun zw hx => py_nil rfl) (dV rfl rfl (fun zw hx => py_field tu38 rfl ts2 rfl rfl) (dV rfl rfl (fun zw hx => py_load tu2 rfl rfl (cell_atL (hx.heap (H2.box 0 rfl)) rfl)) (dV rfl rfl (fun zw hx => py_neq rfl rfl) (dM rfl rfl rfl (d_case (t := 12) rfl (fun hg1 => ?_) (fun hg1 => ?_)))))))
  ·try simp only [decide_eq_true_eq, decide_eq_false_iff_not] at hg1
   refine d_val rfl (wg rfl rfl rfl) rfl rfl (fun zw hx => py_move rfl) (d_val rfl (wg rfl rfl rfl) rfl rfl (fun zw hx => py_nil rfl) (d_val rfl (wg rfl rfl rfl) rfl rfl (fun zw hx => py_field tu38 rfl ts2 rfl rfl) (d_val rfl (wg rfl rfl rfl) rfl rfl (fun zw hx => py_load tu2 rfl rfl (cell_atL (hx.heap (H2.box 0 rfl)) rfl)) (d_val rfl (wg rfl rfl rfl) rfl rfl (fun zw hx => py_move rfl) (d_val rfl (wg rfl rfl rfl) rfl rfl (fun zw hx => py_nil rfl) (d_val rfl (wg rfl rfl rfl) rfl rfl (fun zw hx => py_field tu38 rfl ts2 rfl rfl) (d_val rfl (wg rfl rfl rfl) rfl rfl (fun zw hx => py_load tu2 rfl rfl (cell_atL (hx.heap (H2.box 0 rfl)) rfl)) (d_val rfl (wg rfl rfl rfl) rfl rfl (fun zw hx => py_geq rfl rfl) (d_end rfl (wn rfl) rfl rfl (py_pickT rfl rfl) (d_nil (W_ifd rfl (fun c2 => ?_) (fun c2 => ?_))))))))))))
   ·refine W_seq ?_
    have hnp : noPower z = true := noPower_yes (by omega) (by omega)
    refine W_reg (sM rfl rfl (sV rfl (py_nil rfl) (sV rfl (py_field tu38 rfl ts4 rfl rfl) (s_sto (wn rfl) ts4 rfl rfl rfl H2 0 rfl rfl (fun w1 e1 H3 => ?_)))))
    dsimp only [lNA, lCA, lSZ, lSS, layL] at H3
    refine s_nil (W_sr (sM rfl rfl (sV rfl (py_nil rfl) (sV rfl (py_field tu38 rfl ts25 rfl rfl) (s_sto (wn rfl) ts25 rfl rfl rfl H3 0 rfl rfl (fun w2 e2 H4 => ?_))))))
    dsimp only [lNA, lCA, lSZ, lSS, layL] at H4
    refine s_nil (W_sr (sA rfl rfl (s_nil (rT hQ Tryz.results198 rfl ?_))))
    have H5 := H4.nilW (α := Int)
    try dsimp only [lNA, lCA, lSZ, lSS] at H5
    obtain ⟨fp1, H6⟩ := H5.closeW 0 2 5 4 (cutW z) rfl rfl rfl rfl rfl rfl rfl rfl rfl rfl (cutW_ok wok1)
    try dsimp only [lNA, lCA, lSZ, lSS] at H6
    have hz := H6.doneW
    rw [← rawW_no (y := z) hnp] at hz
    exact ⟨(by rw [hnp]; rfl), hz⟩
   ·refine W_skip (W_seq ?_)
    have hnp : noPower z = false := noPower_no (.inr (by omega))
    refine W_reg (sM rfl rfl (sM rfl rfl (sV rfl (py_nil rfl) (sV rfl (py_field tu38 rfl ts2 rfl rfl) (sV rfl (py_load tu2 rfl rfl (cell_atL (H2.box 0 rfl) rfl)) (sV rfl (py_add rfl rfl (in64 ⟨by omega, by omega⟩)) (sV rfl (py_nil rfl) (sV rfl (py_field tu38 rfl ts2 rfl rfl) (s_sto (wn rfl) ts2 rfl rfl rfl H2 0 rfl rfl (fun w3 e3 H7 => ?_))))))))))
    dsimp only [lNA, lCA, lSZ, lSS, layL] at H7
    refine s_nil (W_sr (sA rfl rfl (s_nil (rT hQ Tryz.results198 rfl ?_))))
    obtain ⟨fp2, H8⟩ := H7.closeW 0 2 3 4 (tickW z) rfl rfl rfl rfl rfl rfl rfl rfl rfl rfl (tickW_ok wok1 hw)
    try dsimp only [lNA, lCA, lSZ, lSS] at H8
    have hz := H8.doneW
    rw [← rawW_yes hnp] at hz
    exact ⟨(by rw [hnp]; rfl), hz⟩
  ·try simp only [decide_eq_true_eq, decide_eq_false_iff_not] at hg1
   refine dKf rfl rfl rfl rfl (dKf rfl rfl rfl rfl (dKf rfl rfl rfl rfl (dKf rfl rfl rfl rfl (dKf rfl rfl rfl rfl (dKf rfl rfl rfl rfl (dKf rfl rfl rfl rfl (dKf rfl rfl rfl rfl (dKf rfl rfl rfl rfl (d_end rfl (wn rfl) rfl rfl (py_pickF rfl rfl) (d_nil (W_iff rfl (W_skip (W_seq ?_)))))))))))))
   have hnp : noPower z = false := noPower_no (.inl (by omega))
   refine W_reg (sM rfl rfl (sM rfl rfl (sV rfl (py_nil rfl) (sV rfl (py_field tu38 rfl ts2 rfl rfl) (sV rfl (py_load tu2 rfl rfl (cell_atL (H2.box 0 rfl) rfl)) (sV rfl (py_add rfl rfl (in64 ⟨by omega, by omega⟩)) (sV rfl (py_nil rfl) (sV rfl (py_field tu38 rfl ts2 rfl rfl) (s_sto (wn rfl) ts2 rfl rfl rfl H2 0 rfl rfl (fun w4 e4 H9 => ?_))))))))))
   dsimp only [lNA, lCA, lSZ, lSS, layL] at H9
   refine s_nil (W_sr (sA rfl rfl (s_nil (rT hQ Tryz.results198 rfl ?_))))
   obtain ⟨fp3, H10⟩ := H9.closeW 0 2 3 4 (tickW z) rfl rfl rfl rfl rfl rfl rfl rfl rfl rfl (tickW_ok wok1 hw)
   try dsimp only [lNA, lCA, lSZ, lSS] at H10
   have hz := H10.doneW
   rw [← rawW_yes hnp] at hz
   exact ⟨(by rw [hnp]; rfl), hz⟩
end Go.Wk
namespace Go.Wk
open Go.Proofs Rp
set_option maxRecDepth 10000
theorem Tryz_impl_World_strike_1_1 {w : World} {r : Rec} {rA6 rA7 rA8 : Option Addr} {rC6 rC7 rC8 b1 b2 : Nat} {kd sq : Int} (h1 : w.heap[b1]? = some (.cells [.int .i64 kd].toArray 2)) (h2 : w.heap[b2]? = some (.cells [.int .i64 sq].toArray 2)) : Ret Tryz.prog 337 #[r.val rA6 rC6 rA7 rC7 rA8 rC8, .pointer (some ⟨b1, 0, none⟩), .pointer (some ⟨b2, 0, none⟩)] w fun v w' => Ext No w w' ∧ (v = .bool (pKS kd sq r)) := by
 refine ret_Q (vs := [r.val rA6 rC6 rA7 rC7 rA8 rC8, .pointer (some ⟨b1, 0, none⟩), .pointer (some ⟨b2, 0, none⟩)]) Tryz.func337 rfl Tryz.ntmps337 rfl (fun Q hQ hN => ?_)
 have H0 := Sep.start (w := w) (F := [box b1 (.cells [.int .i64 kd].toArray 2), box b2 (.cells [.int .i64 sq].toArray 2)]) (all_cons (by exact h1) (all_cons (by exact h2) (by simp)))
 refine W_sr (s_box (wn rfl) rfl rfl H0 (fun b1 w1 e1 g1 H1 => ?_))
 refine sA rfl rfl (s_nil (W_sr (sV rfl (py_field tu68 rfl ts2 rfl rfl) (sV rfl (py_load tu2 rfl rfl (cell_atL (H1.box 0 rfl) rfl)) (sV rfl (py_load tu2 rfl rfl (cell_atL (H1.fbox 0 rfl) rfl)) (sV rfl (py_eql rfl rfl) (sM rfl rfl (s_case (t := 9) rfl (fun hg1 => ?_) (fun hg1 => ?_)))))))))
 ·try simp only [decide_eq_true_eq, decide_eq_false_iff_not] at hg1
  refine s_val (wg rfl rfl rfl) rfl rfl (py_field tu68 rfl ts2 rfl rfl) (s_val (wg rfl rfl rfl) rfl rfl (py_load tu2 rfl rfl (cell_atL (H1.box 0 rfl) rfl)) (s_val (wg rfl rfl rfl) rfl rfl (py_load tu2 rfl rfl (cell_atL (H1.fbox 1 rfl) rfl)) (s_val (wg rfl rfl rfl) rfl rfl (py_eql rfl rfl) (sV rfl (py_pickT rfl rfl) (sA rfl rfl (s_nil (rT hQ Tryz.results337 rfl ?_)))))))
  exact ⟨H1.ext, congrArg Value.bool ((pKS_eq hg1).symm)⟩
 ·try simp only [decide_eq_true_eq, decide_eq_false_iff_not] at hg1
  refine sKf rfl rfl rfl (sKf rfl rfl rfl (sKf rfl rfl rfl (sKf rfl rfl rfl (sV rfl (py_pickF rfl rfl) (sA rfl rfl (s_nil (rT hQ Tryz.results337 rfl ?_)))))))
  exact ⟨H1.ext, congrArg Value.bool ((pKS_kd hg1).symm)⟩
theorem Tryz_slices_DeleteFunc_impl_Rec_impl_Rec {w : World} {rs : List Rec} {A : Option Addr} {n C : Nat} {fp : List Nat} {gf : FuncId} {gL : List Value} {gF : Func} {p : Rec → Bool} (o : own true w [.slice A n C] rs fp) (nd : fp.Nodup) (gH : Tryz.prog.funcs[gf]? = some gF) (gB : gF.body.isNone = false) (gN : NG gF) (gC : ∀ w1, Ext (· ∈ fp) w w1 → ∀ (y : Rec) (A6 : Option Addr) (C6 : Nat) (A7 : Option Addr) (C7 : Nat) (A8 : Option Addr) (C8 : Nat), Ret Tryz.prog gf (([y.val A6 C6 A7 C7 A8 C8] : List Value) ++ gL).toArray w1 fun v w' => Ext No w1 w' ∧ v = .bool (p y)) : Ret Tryz.prog 293 #[.slice A n C, .func (.func gf) #[] gL.toArray] w fun v w' => (∃ m, v = .slice A m C ∧ Mut w w' fp [.slice A m C] (keepR p rs)) := by
 obtain rfl := own_n o
 refine ret_Q (vs := [.slice A rs.length C, .func (.func gf) #[] gL.toArray]) Tryz.func293 rfl Tryz.ntmps293 rfl (fun Q hQ hN => ?_)
 have H0 := Sep.begin o nd
 refine W_sr (sA rfl rfl (s_nil (W_sr (sM rfl rfl (sM rfl rfl (s_call (wn rfl) rfl rfl (pc_call Tryz.func182 rfl Tryz_nm182 rfl) (Tryz_IndexFunc_Rec (H0.msees 0 rfl) (p := p) gH gB gN (fun w1 e1 i0 hi0 a6 c6 a7 c7 a8 c8 K s6 s7 s8 => gC w1 (H0.ext.trans e1.no) _ a6 c6 a7 c7 a8 c8)) (fun v1 w1 r1 => ?_)))))))
 obtain ⟨e1, rfl⟩ := r1
 have H1 := H0.to e1
 refine sA rfl rfl (s_nil (W_seq (W_sr (sM rfl rfl (sV rfl (py_eql rfl rfl) (s_nil (W_ifd rfl (fun c1 => ?_) (fun c1 => ?_))))))))
 ·refine W_sr (sM rfl rfl (sA rfl rfl (s_nil (rT hQ Tryz.results293 rfl ?_))))
  exact ⟨_, rfl, by rw [keepR_none c1]; exact H1.done⟩
 ·refine W_skip (W_seq (W_seq ?_))
  obtain ⟨k0, hk0, hkl, hkp, hkn⟩ := firstOf_get (d := default) c1
  obtain ⟨vs, f0, f1, hvs, HV⟩ := H1.toViews 0 rfl
  try dsimp only [lNA, lCA, lSZ, lSS] at HV
  have hvl : vs.length = rs.length := by rw [← hvs, List.length_map]
  obtain ⟨hb0, ho0, had0⟩ := own_addr (HV.mine 0 rfl) 0 (by omega)
  subst had0
  rw [← hvs, getD_map] at hkp
  have hkn2 : ∀ i, i < k0 → p (vs.getD i default).r = false := fun i hi => by have := hkn i hi; rwa [← hvs, getD_map] at this
  have hrl := oL (HV.mine 0 rfl)
  refine W_reg (sM rfl rfl (sV rfl (py_add rfl rfl (in64 ⟨by omega, by omega⟩)) (sA rfl rfl (s_nil (W_block (W_loop (γ := Nat × Nat × List RecV × List Nat) (fun (i, j, ws, f) => [(0, .slice (some ⟨hb0, ho0, none⟩) rs.length C), (1, .func (.func gf) #[] gL.toArray), (5, .int .i64 i), (6, .int .i64 j)]) (fun (i, j, ws, f) w' => Sep (· ∈ fp) w [mine [.slice (some ⟨hb0, ho0, none⟩) rs.length C] ws f, gone, poolR vs f1] [] w' ∧ DInv p vs ws i j) (fun (i, j, ws, f) => vs.length - j) (k0, k0 + 1, vs, f0) ⟨rfl, rfl, eqI hk0, eqI (by omega), trivial⟩ ⟨HV, dinv_start (by omega) hkp hkn2⟩ (fun (i, j, ws, f) w2 H2 => ?_)))))))
  obtain ⟨H2, hI⟩ := H2
  refine W_seq (W_sr (sM rfl rfl (sM rfl rfl (sV rfl (py_len tu30 rfl) (sV rfl (py_lss rfl rfl) (s_nil (W_ifd rfl (fun c2 => ?_) (fun c2 => ?_))))))))
  ·refine W_skip (W_seq (W_block (W_seq ?_)))
   obtain ⟨eb, eo, ea, eat, eok⟩ := H2.viewAt 0 rfl j (by have := hI.2.1; omega)
   rw [dinv_at hI] at eat eok
   cases ea
   have hwl := hI.2.1
   have hij := hI.2.2.1
   refine W_reg (sM rfl rfl (sM rfl rfl (sV rfl (py_elz tu30 ts68 rfl rfl rfl j (by omega) (by omega)) (sV rfl (py_loadS tu68 rfl ts68 rfl rfl eat) (s_var (wn rfl) rfl Tryz.zeroValue68 H2 (fun b1 w3 e2 g1 H3 => ?_))))))
   refine s_stoS (wn rfl) ts68 rfl rfl rfl rfl H3 3 rfl rfl (fun w4 e3 H4 => ?_)
   dsimp only [lNA, lCA, lSZ, lSS, layL] at H4
   refine s_nil (W_sr (sM rfl rfl (sV rfl (py_loadS tu68 rfl ts68 rfl rfl (At.whole (H4.box 3 rfl))) (s_call (wn rfl) rfl rfl (pc_callv (lb := gL) rfl gH gB gN rfl) (gC _ H4.ext (vs.getD j default).r (vs.getD j default).A6 (vs.getD j default).C6 (vs.getD j default).A7 (vs.getD j default).C7 (vs.getD j default).A8 (vs.getD j default).C8) (fun v2 w5 r2 => ?_)))))
   obtain ⟨e4, rfl⟩ := r2
   have H5 := H4.to e4
   refine sV rfl (py_not rfl) (s_nil (W_if rfl (fun c3 => ?_) (fun c3 => ?_)))
   ·refine W_sr (sM rfl rfl (sM rfl rfl (sV rfl (py_loadS tu68 rfl ts68 rfl rfl (At.whole (H5.box 3 rfl))) (sV rfl (py_elz tu30 ts68 rfl rfl rfl i (by omega) (by omega)) (s_elstV (u := (vs.getD j default)) (wn rfl) ts68 H5 0 rfl i (by omega) rfl rfl rfl eok (fun w6 fp1 H6 => ?_))))))
    try dsimp only [lNA, lCA, lSZ, lSS] at H6
    refine s_nil (W_reg (sM rfl rfl (sV rfl (py_add rfl rfl (in64 ⟨by omega, by omega⟩)) (sA rfl rfl (s_nil (W_reg (sM rfl rfl (sV rfl (py_add rfl rfl (in64 ⟨by omega, by omega⟩)) (sA rfl rfl (s_nil (⟨(i + 1, j + 1, _, _), ⟨rfl, rfl, rfl, rfl, trivial⟩, ⟨(H6.dtake 3), dinv_yes hI (by omega) (by simpa using c3)⟩, by dsimp only; omega⟩)))))))))))
   ·refine W_skip (W_reg (sM rfl rfl (sV rfl (py_add rfl rfl (in64 ⟨by omega, by omega⟩)) (sA rfl rfl (s_nil (⟨(i, j + 1, _, _), ⟨rfl, rfl, rfl, rfl, trivial⟩, ⟨(H5.dtake 3), dinv_no hI (by omega) (by simpa using c3)⟩, by dsimp only; omega⟩))))))
  ·refine W_exit (W_seq ?_)
   have hwl := hI.2.1
   have hij := hI.2.2.1
   have hjl := hI.1
   refine W_reg (sM rfl rfl (sM rfl rfl (sV rfl (py_slcL tu30 ts68 rfl rfl i rfl (by omega)) (s_clearV (wn rfl) tu30 Tryz_ty68 rfl (allOne_spec rfl) rfl (by omega) (by omega) H2 0 rfl (fun w7 H7 => ?_)))))
   try dsimp only [lNA, lCA, lSZ, lSS] at H7
   refine s_nil (W_seq ?_)
   have hcp := own_le_cap (H7.mine 0 rfl)
   rw [List.length_take] at hcp
   refine W_reg (sM rfl rfl (sM rfl rfl (sV rfl (py_slc0 tu30 ts68 rfl rfl i rfl (by omega)) (sA rfl rfl (s_nil (rT hQ Tryz.results293 rfl ?_))))))
   have HE := H7
   rw [dinv_end hI (by omega)] at HE
   obtain ⟨f9, H9⟩ := HE.poolSub 2 rfl (keepV_sub (p := p))
   try dsimp only [lNA, lCA, lSZ, lSS] at H9
   obtain ⟨f8, H8⟩ := H9.ofViews 0 2 rfl rfl rfl
   try dsimp only [lNA, lCA, lSZ, lSS] at H8
   rw [keepV_map, hvs] at H8
   exact ⟨_, rfl, (H8.dtake 1).done⟩
theorem Tryz_impl_World_strike_1 {w : World} {z : Wld} {zb t b1 b2 b3 b4 : Nat} {kd sq : Int} {fp : List Nat} (o : OwnW w zb 38 z fp) (nd : fp.Nodup) (h1 : w.heap[b1]? = some (.cells [.pointer (some ⟨zb, 0, none⟩)].toArray 82)) (d1 : b1 ∉ fp) (h2 : w.heap[b2]? = some (.cells [.int .i64 (t : Nat)].toArray 2)) (d2 : b2 ∉ fp) (h3 : w.heap[b3]? = some (.cells [.int .i64 kd].toArray 2)) (d3 : b3 ∉ fp) (h4 : w.heap[b4]? = some (.cells [.int .i64 sq].toArray 2)) (d4 : b4 ∉ fp) (ht : t < z.Tapes.length) : Ret Tryz.prog 336 #[.pointer (some ⟨b1, 0, none⟩), .pointer (some ⟨b2, 0, none⟩), .pointer (some ⟨b3, 0, none⟩), .pointer (some ⟨b4, 0, none⟩)] w fun v w' => (MutW w w' fp zb 38 (stT t kd sq z)) := by
 refine ret_Q (vs := [.pointer (some ⟨b1, 0, none⟩), .pointer (some ⟨b2, 0, none⟩), .pointer (some ⟨b3, 0, none⟩), .pointer (some ⟨b4, 0, none⟩)]) Tryz.func336 rfl Tryz.ntmps336 rfl (fun Q hQ hN => ?_)
 have H0 := ((((Sep.beginW o nd).boxF h1 d1).boxF h2 d2).boxF h3 d3).boxF h4 d4
 try dsimp only [lNA, lCA, lSZ, lSS] at H0
 refine W_seq ?_
 obtain ⟨wA1, wC1, wA2, wC2, wA3, wC3, wf1, wf2, wf3, wok1, H1⟩ := H0.openW 0 rfl
 try dsimp only [lNA, lCA, lSZ, lSS] at H1
 have wok1U := wok1
 unfold Wld.Ok Shape.Ok I64ok at wok1U
 have wL1 := oL (H1.mine 2 rfl)
 have wL2 := oL (H1.mine 3 rfl)
 have wL3 := oL (H1.mine 4 rfl)
 obtain ⟨eb1, eo1, eT1, eF1, eG1, ea1, ek1, eg1, ee1, eK1, eH1⟩ := Tape.focus H1 4 rfl t (by omega)
 have eK1U := eK1
 unfold Tape.Ok at eK1U
 try unfold I64ok at eK1U
 try unfold maxLen at eK1U
 try dsimp only [lNA, lCA, lSZ, lSS] at eH1
 refine W_drw (S := Ext No _) [(0, true), (1, true), (2, true), (3, true), (4, true), (5, true), (6, false)] (by kernel_rfl) (by kernel_rfl) (by kernel_rfl) rfl (fun _ => Ext.refl.drawn _) (fun q1 => ?_)
 have H2 := eH1.drawn q1
 refine dV rfl rfl (fun zw hx => py_load tu82 rfl rfl (cell_atL (hx.heap (H2.fbox 0 rfl)) rfl)) (dV rfl rfl (fun zw hx => py_nil rfl) (dV rfl rfl (fun zw hx => py_field tu38 rfl ts36 rfl rfl) (dV rfl rfl (fun zw hx => py_load tu36 rfl rfl (cell_atL (hx.heap (H2.box 0 rfl)) rfl)) (dV rfl rfl (fun zw hx => py_load tu2 rfl rfl (cell_atL (hx.heap (H2.fbox 1 rfl)) rfl)) (dV rfl rfl (fun zw hx => py_elz tu36 ts139 rfl rfl ee1 t (by omega) (by omega)) (d_end rfl (wn rfl) rfl rfl (py_assign rfl) (d_nil (W_reg (sM rfl rfl (sM rfl rfl (sV rfl (py_nil rfl) (sV rfl (py_field tu139 rfl ts30 rfl rfl) (sV rfl (py_load tu30 rfl rfl (at_cell (H2.holAt 4 rfl) 1 rfl)) (sV rfl (py_func rfl) (s_call (wn rfl) rfl rfl (pc_call Tryz.func293 rfl Tryz_nm293 rfl) (Tryz_slices_DeleteFunc_impl_Rec_impl_Rec (p := pKS kd sq) (H2.mine 6 rfl) (H2.nodup1 (i := 6) rfl) Tryz.func337 rfl Tryz_nm337 (fun w1 e1 y a6 c6 a7 c7 a8 c8 => Tryz_impl_World_strike_1_1 (e1.heapM (H2.foff 2 rfl 6 rfl rfl) (H2.fbox 2 rfl)) (e1.heapM (H2.foff 3 rfl 6 rfl rfl) (H2.fbox 3 rfl)))) (fun v1 w1 r1 => ?_))))))))))))))))
 obtain ⟨dm1, rfl, mm1⟩ := r1
 obtain ⟨fp1, H3⟩ := H2.mut 6 rfl mm1
 try dsimp only [lNA, lCA, lSZ, lSS] at H3
 refine sV rfl (py_nil rfl) (sV rfl (py_field tu139 rfl ts30 rfl rfl) (s_hsto (wn rfl) ts30 H3 4 1 rfl rfl rfl rfl rfl (fun w2 H4 => ?_)))
 dsimp only [lNA, lCA, lSZ, lSS, layL] at H4
 refine s_nil (hN _ _ (fin0 Tryz.results336 ?_))
 obtain ⟨fp2, H5⟩ := Tape.fill H4 4 6 rfl rfl rfl trivial
 try dsimp only [lNA, lCA, lSZ, lSS] at H5
 obtain ⟨fp3, H6⟩ := H5.closeW 0 2 3 4 (stT t kd sq z) rfl rfl rfl rfl rfl rfl rfl rfl rfl rfl (stT_ok wok1)
 try dsimp only [lNA, lCA, lSZ, lSS] at H6
 have hz := H6.doneW
 exact hz
theorem Tryz_impl_World_strike {w : World} {z : Wld} {zb t : Nat} {fp : List Nat} {kd sq : Int} (o : OwnW w zb 38 z fp) (nd : fp.Nodup) (ht : t < z.Tapes.length) (hw : z.Writes ≤ 2000000000) : Ret Tryz.prog 299 #[.pointer (some ⟨zb, 0, none⟩), .int .i64 t, .int .i64 kd, .int .i64 sq] w fun v w' => (v = .bool (!noPower z) ∧ MutW w w' fp zb 38 (strW t kd sq z)) := by
 refine ret_Q (vs := [.pointer (some ⟨zb, 0, none⟩), .int .i64 t, .int .i64 kd, .int .i64 sq]) Tryz.func299 rfl Tryz.ntmps299 rfl (fun Q hQ hN => ?_)
 have H0 := Sep.beginW o nd
 refine W_sr (s_box (wn rfl) rfl rfl H0 (fun b1 w1 e1 g1 H1 => ?_))
 refine s_box (wn rfl) rfl rfl H1 (fun b2 w2 e2 g2 H2 => ?_)
 refine s_box (wn rfl) rfl rfl H2 (fun b3 w3 e3 g3 H3 => ?_)
 refine s_box (wn rfl) rfl rfl H3 (fun b4 w4 e4 g4 H4 => ?_)
 refine sA rfl rfl (s_nil (W_sr (sV rfl (py_load tu82 rfl rfl (cell_atL (H4.box 1 rfl) rfl)) (sV rfl (py_func rfl) (s_call (wn rfl) rfl rfl (pc_call Tryz.func290 rfl Tryz_nm290 rfl) (Tryz_impl_World_raw (H4.wldAt 0 rfl) (H4.nodup1 (i := 0) rfl) (y := stT t kd sq z) Tryz.func336 rfl Tryz_nm336 (fun w1 fp1 o1 n1 s1 e1 => Tryz_impl_World_strike_1 o1 n1 (H4.boxFar 0 1 rfl rfl rfl s1 e1).1 (H4.boxFar 0 1 rfl rfl rfl s1 e1).2 (H4.boxFar 0 2 rfl rfl rfl s1 e1).1 (H4.boxFar 0 2 rfl rfl rfl s1 e1).2 (H4.boxFar 0 3 rfl rfl rfl s1 e1).1 (H4.boxFar 0 3 rfl rfl rfl s1 e1).2 (H4.boxFar 0 4 rfl rfl rfl s1 e1).1 (H4.boxFar 0 4 rfl rfl rfl s1 e1).2 ht) (by first | assumption | omega)) (fun v1 w5 r1 => ?_))))))
 obtain ⟨rfl, mm1⟩ := r1
 obtain ⟨fp1, H5⟩ := H4.mutW 0 rfl mm1
 try dsimp only [lNA, lCA, lSZ, lSS] at H5
 refine sA rfl rfl (s_nil (rT hQ Tryz.results299 rfl ?_))
 exact ⟨rfl, H5.doneW⟩
theorem Tryz_impl_World_strikeBoth {w : World} {z : Wld} {zb : Nat} {fp : List Nat} {kd sq : Int} (o : OwnW w zb 38 z fp) (nd : fp.Nodup) (hT : z.Tapes.length = 2) (hw : z.Writes ≤ 1500000000) : Ret Tryz.prog 223 #[.pointer (some ⟨zb, 0, none⟩), .int .i64 kd, .int .i64 sq] w fun v w' => (v = .int .i64 (if strOK z kd sq = true then 0 else 9) ∧ MutW w w' fp zb 38 (strBW z kd sq)) := by
 have aw := (strW_writes (t := 0) (kd := kd) (sq := sq) (z := z)).2
 have at_ := strW_tapes (t := 0) (kd := kd) (sq := sq) (z := z)
 refine ret_Q (vs := [.pointer (some ⟨zb, 0, none⟩), .int .i64 kd, .int .i64 sq]) Tryz.func223 rfl Tryz.ntmps223 rfl (fun Q hQ hN => ?_)
 have H0 := Sep.beginW o nd
 refine W_sr (sA rfl rfl (s_nil (W_sr (sM rfl rfl (sM rfl rfl (sM rfl rfl (s_call (wn rfl) rfl rfl (pc_call Tryz.func299 rfl Tryz_nm299 rfl) (Tryz_impl_World_strike (H0.wldAt 0 rfl) (H0.nodup1 (i := 0) rfl) (by first | assumption | omega) (by first | assumption | omega) (t := 0)) (fun v1 w1 r1 => ?_))))))))
 obtain ⟨rfl, mm1⟩ := r1
 obtain ⟨fp1, H1⟩ := H0.mutW 0 rfl mm1
 try dsimp only [lNA, lCA, lSZ, lSS] at H1
 refine sM rfl rfl (s_case (t := 11) rfl (fun hg1 => ?_) (fun hg1 => ?_))
 ·try simp only [decide_eq_true_eq, decide_eq_false_iff_not] at hg1
  refine s_val (wg rfl rfl rfl) rfl rfl (py_move rfl) (s_val (wg rfl rfl rfl) rfl rfl (py_move rfl) (s_val (wg rfl rfl rfl) rfl rfl (py_move rfl) (s_call (wg rfl rfl rfl) rfl rfl (pc_call Tryz.func299 rfl Tryz_nm299 rfl) (Tryz_impl_World_strike (H1.wldAt 0 rfl) (H1.nodup1 (i := 0) rfl) (by first | assumption | omega) (by first | assumption | omega) (t := 1)) (fun v2 w2 r2 => ?_))))
  obtain ⟨rfl, mm2⟩ := r2
  obtain ⟨fp2, H2⟩ := H1.mutW 0 rfl mm2
  try dsimp only [lNA, lCA, lSZ, lSS] at H2
  refine sV rfl (py_pickT rfl rfl) (s_call (wn rfl) rfl rfl (pc_call Tryz.func298 rfl Tryz_nm298 rfl) Tryz_impl_downIf (fun v3 w3 r3 => ?_))
  obtain ⟨e3, rfl⟩ := r3
  have H3 := H2.to e3
  refine sA rfl rfl (s_nil (rT hQ Tryz.results223 rfl ?_))
  have hnp : noPower z = false := by simpa using hg1
  have hz := H3.doneW
  rw [← (strBW_yes (kd := kd) (sq := sq) hnp).1] at hz
  exact ⟨(by rw [(strBW_yes (kd := kd) (sq := sq) hnp).2]), hz⟩
 ·try simp only [decide_eq_true_eq, decide_eq_false_iff_not] at hg1
  refine sKf rfl rfl rfl (sKf rfl rfl rfl (sKf rfl rfl rfl (sKf rfl rfl rfl (sV rfl (py_pickF rfl rfl) (s_call (wn rfl) rfl rfl (pc_call Tryz.func298 rfl Tryz_nm298 rfl) Tryz_impl_downIf (fun v4 w4 r4 => ?_))))))
  obtain ⟨e4, rfl⟩ := r4
  have H4 := H1.to e4
  refine sA rfl rfl (s_nil (rT hQ Tryz.results223 rfl ?_))
  have hnp : noPower z = true := by simpa using hg1
  have hz := H4.doneW
  rw [← (strBW_no (kd := kd) (sq := sq) hnp).1] at hz
  exact ⟨(by rw [(strBW_no (kd := kd) (sq := sq) hnp).2]), hz⟩
theorem Tryz_spec_l5Strike {w : World} {vs : List RecV} {A : Option Addr} {n C : Nat} {kd sq : Int} (vS : Sees w [.slice A n C] vs) (hl : vs.length ≤ 100000) : Ret Tryz.prog 297 #[.slice A n C, .int .i64 kd, .int .i64 sq] w fun v w' => Ext No w w' ∧ (Res w w' [v] (keepV (pKS kd sq) vs)) := by
 obtain ⟨f0, vO⟩ := vS
 obtain rfl := own_n vO
 have vL := oL vO
 refine ret_Q (vs := [.slice A vs.length C, .int .i64 kd, .int .i64 sq]) Tryz.func297 rfl Tryz.ntmps297 rfl (fun Q hQ hN => ?_)
 have H0 := Sep.start (w := w) (F := [seen false [.slice A vs.length C] vs f0]) (all_cons vO (by simp))
 refine W_sr (sA rfl rfl (s_nil (W_sr (s_lit0 (α := RecV) (wn rfl) rfl tu30 Tryz_ty68 H0 (fun b1 w1 e1 g1 H1 => ?_)))))
 refine sA rfl rfl (s_nil (W_seq (W_sr (sA rfl rfl (s_nil (W_block (W_loopA (α := RecV) (γ := Nat) (fun k => (keepV (pKS kd sq) (vs.take k))) 0 H1 0 rfl 7 rfl [(0, _), (1, _), (2, _), (6, _)] ⟨rfl, rfl, rfl, rfl, trivial⟩ (fun k => [(8, .int .i64 k)]) (fun k => k ≤ vs.length ∧ True) (fun k => vs.length - k) ⟨rfl, trivial⟩ ⟨by omega, trivial⟩ (fun k vA1 fA1 w2 H2 ⟨hk, _⟩ => ?_))))))))
 dsimp only [lCA, lNA, lSZ, lSS] at H2 ⊢
 refine W_seq (W_sr (sM rfl rfl (sM rfl rfl (sV rfl (py_len tu30 rfl) (sV rfl (py_lss rfl rfl) (s_nil (W_ifd rfl (fun c1 => ?_) (fun c1 => ?_))))))))
 ·refine W_skip (W_seq (W_block (W_seq ?_)))
  have kl := keepV_len (p := pKS kd sq) (vs := vs) (k := k)
  obtain ⟨eb1, eo1, ee1, ec1, eK1⟩ := H2.viewSeen 0 rfl k (by omega)
  refine W_reg (sM rfl rfl (sM rfl rfl (sV rfl (py_elz tu30 ts68 rfl rfl ee1 k (by omega) (by omega)) (sV rfl (py_field tu68 rfl ts2 rfl rfl) (sV rfl (py_load tu2 rfl rfl (at_cell ec1 0 rfl)) (sM rfl rfl (sV rfl (py_neq rfl rfl) (sM rfl rfl (s_case (t := 23) rfl (fun hg1 => ?_) (fun hg1 => ?_))))))))))
  ·try simp only [decide_eq_true_eq, decide_eq_false_iff_not] at hg1
   refine sKt rfl rfl rfl (sKt rfl rfl rfl (sKt rfl rfl rfl (sKt rfl rfl rfl (sKt rfl rfl rfl (sKt rfl rfl rfl (sKt rfl rfl rfl (sV rfl (py_pickT rfl rfl) (s_nil (W_ift rfl ?_)))))))))
   obtain ⟨eb2, eo2, ee2, ec2, eK2⟩ := H2.viewSeen 0 rfl k (by omega)
   refine W_reg (sM rfl rfl (sM rfl rfl (sM rfl rfl (sV rfl (py_elz tu30 ts68 rfl rfl ee2 k (by omega) (by omega)) (sV rfl (py_loadS tu68 rfl ts68 rfl rfl ec2) (s_lit1 (wn rfl) rfl tu30 Tryz_ty68 rfl rfl rfl rfl H2 (fun b2 w3 e2 g2 H3 => ?_)))))))
   refine s_app1 (wn rfl) rfl tu30 Tryz_ty68 rfl rfl rfl H3 0 1 rfl rfl (recv_own (v := (vs.getD k default)) (by assumption)) (by unfold maxLen; omega) (by omega) (fun v1 w4 fp1 H4 => ?_)
   refine sA rfl rfl (s_nil (W_reg (sM rfl rfl (sV rfl (py_add rfl rfl (in64 ⟨by omega, by omega⟩)) (sA rfl rfl (s_nil ?_))))))
   exact ⟨(k + 1, _, _), ⟨rfl, rfl, rfl, rfl, rfl, rfl, trivial⟩, ⟨by dsimp only; rw [keepV_yes (by omega) (pKS_kd (r := (vs.getD k default).r) hg1)]; exact (H4.dtake 1), by omega, trivial⟩, by dsimp only; omega⟩
  ·try simp only [decide_eq_true_eq, decide_eq_false_iff_not] at hg1
   refine s_val (wg rfl rfl rfl) rfl rfl (py_move rfl) (s_val (wg rfl rfl rfl) rfl rfl (py_move rfl) (s_val (wg rfl rfl rfl) rfl rfl (py_elz tu30 ts68 rfl rfl ee1 k (by omega) (by omega)) (s_val (wg rfl rfl rfl) rfl rfl (py_field tu68 rfl ts2 rfl rfl) (s_val (wg rfl rfl rfl) rfl rfl (py_load tu2 rfl rfl (at_cell ec1 1 rfl)) (s_val (wg rfl rfl rfl) rfl rfl (py_move rfl) (s_val (wg rfl rfl rfl) rfl rfl (py_neq rfl rfl) (sV rfl (py_pickF rfl rfl) (s_nil (W_ifd rfl (fun c2 => ?_) (fun c2 => ?_))))))))))
   ·obtain ⟨eb3, eo3, ee3, ec3, eK3⟩ := H2.viewSeen 0 rfl k (by omega)
    refine W_reg (sM rfl rfl (sM rfl rfl (sM rfl rfl (sV rfl (py_elz tu30 ts68 rfl rfl ee3 k (by omega) (by omega)) (sV rfl (py_loadS tu68 rfl ts68 rfl rfl ec3) (s_lit1 (wn rfl) rfl tu30 Tryz_ty68 rfl rfl rfl rfl H2 (fun b3 w5 e3 g3 H5 => ?_)))))))
    refine s_app1 (wn rfl) rfl tu30 Tryz_ty68 rfl rfl rfl H5 0 1 rfl rfl (recv_own (v := (vs.getD k default)) (by assumption)) (by unfold maxLen; omega) (by omega) (fun v2 w6 fp2 H6 => ?_)
    refine sA rfl rfl (s_nil (W_reg (sM rfl rfl (sV rfl (py_add rfl rfl (in64 ⟨by omega, by omega⟩)) (sA rfl rfl (s_nil ?_))))))
    exact ⟨(k + 1, _, _), ⟨rfl, rfl, rfl, rfl, rfl, rfl, trivial⟩, ⟨by dsimp only; rw [keepV_yes (by omega) (pKS_sq (r := (vs.getD k default).r) c2)]; exact (H6.dtake 1), by omega, trivial⟩, by dsimp only; omega⟩
   ·refine W_skip (W_reg (sM rfl rfl (sV rfl (py_add rfl rfl (in64 ⟨by omega, by omega⟩)) (sA rfl rfl (s_nil ?_)))))
    exact ⟨(k + 1, _, _), ⟨rfl, rfl, rfl, rfl, rfl, rfl, trivial⟩, ⟨by dsimp only; rw [keepV_no (by omega) ((pKS_eq (r := (vs.getD k default).r) (by omega)).trans (decide_eq_true (by omega)))]; exact H2, by omega, trivial⟩, by dsimp only; omega⟩
 ·refine W_exit (W_sr (sM rfl rfl (sA rfl rfl (s_nil (rT hQ Tryz.results297 rfl ?_)))))
  obtain rfl : k = vs.length := by omega
  have hz := H2.out 0 rfl
  rw [List.take_length] at hz
  exact ⟨H2.ext, hz⟩
theorem Tryz_spec_l7Strike {w : World} {z : Wld} {zb : Nat} {fp : List Nat} {kd sq : Int} (o : OwnW w zb 38 z fp) (nd : fp.Nodup) (hd : z.Down = false) (hT : z.Tapes.length = 2) (hw : z.Writes ≤ 1500000000) (hrl : ∀ k, (strN z kd sq k |>.Tapes.getD k default).Recs.length ≤ 100000 ∧ True) : Ret Tryz.prog 219 #[.pointer (some ⟨zb, 0, none⟩), .int .i64 kd, .int .i64 sq] w fun v w' => (v = .bool (strOK z kd sq) ∧ MutW w w' fp zb 38 (strBW z kd sq)) := by
 refine ret_Q (vs := [.pointer (some ⟨zb, 0, none⟩), .int .i64 kd, .int .i64 sq]) Tryz.func219 rfl Tryz.ntmps219 rfl (fun Q hQ hN => ?_)
 have H0 := Sep.beginW o nd
 refine W_sr (sA rfl rfl (s_nil (W_seq (W_sr (sA rfl rfl (s_nil (W_block (W_loop (γ := Nat × List Nat) (fun (k, f) => [(0, .pointer (some ⟨zb, 0, none⟩)), (1, .int .i64 kd), (2, .int .i64 sq), (7, .int .i64 k)]) (fun (k, f) w' => Sep (· ∈ fp) w [wldR zb 38 (strN z kd sq k) f] [] w' ∧ k ≤ 2 ∧ (∀ i, i < k → noPower (strN z kd sq i) = false)) (fun (k, f) => 2 - k) (0, _) ⟨rfl, rfl, rfl, rfl, trivial⟩ ⟨H0, by omega, fun i hi => by omega⟩ (fun (k, f) w1 H1 => ?_)))))))))
 obtain ⟨H1, hk, hnp⟩ := H1
 refine W_seq (W_sr (sM rfl rfl (sV rfl (py_lss rfl rfl) (s_nil (W_ifd rfl (fun c1 => ?_) (fun c1 => ?_))))))
 ·refine W_skip (W_seq (W_block (W_seq (W_seq ?_))))
  obtain ⟨fd, fT, fw⟩ := strN_facts (kd := kd) (sq := sq) hd hT k hnp
  obtain ⟨fr, _⟩ := hrl k
  refine W_reg (sM rfl rfl (s_call (wn rfl) rfl rfl (pc_call Tryz.func198 rfl Tryz_nm198 rfl) (Tryz_spec_l5Raw (H1.wldAt 0 rfl) (H1.nodup1 (i := 0) rfl) (by first | assumption | omega) (by first | assumption | omega)) (fun v1 w2 r1 => ?_)))
  obtain ⟨rfl, mm1⟩ := r1
  obtain ⟨fp1, H2⟩ := H1.mutW 0 rfl mm1
  try dsimp only [lNA, lCA, lSZ, lSS] at H2
  refine sV rfl (py_not rfl) (s_nil (W_if rfl (fun c2 => ?_) (fun c2 => ?_)))
  ·refine W_sr (sA rfl rfl (s_nil (rT hQ Tryz.results219 rfl ?_)))
   have hp1 : noPower (strN z kd sq k) = true := by simpa using c2
   have hz := H2.doneW
   rw [rawW_no hp1] at hz
   have hk : k = 0 ∨ k = 1 := by omega
   rcases hk with rfl | rfl
   ·have e2 := strBW_no (kd := kd) (sq := sq) (show noPower z = true from hp1)
    exact ⟨(by rw [e2.2]), (by rw [e2.1]; unfold strW; rw [rawW_no (show noPower z = true from hp1)]; exact hz)⟩
   ·have h0 : noPower z = false := hnp 0 (by omega)
    have e2 := strBW_yes (kd := kd) (sq := sq) h0
    have hp2 : noPower (strW 0 kd sq z) = true := hp1
    exact ⟨(by rw [e2.2, hp2]; rfl), (by rw [e2.1]; unfold strW; rw [rawW_no (show noPower (rawW z (stT 0 kd sq z)) = true from hp2)]; exact hz)⟩
  ·refine W_skip ?_
   have hp1 : noPower (strN z kd sq k) = false := by simpa using c2
   obtain ⟨z1, hz1⟩ : ∃ z1, z1 = tickW (strN z kd sq k) := ⟨_, rfl⟩
   have HZ := H2
   rw [rawW_yes hp1, ← hz1] at HZ
   have ht1 : k < z1.Tapes.length := by rw [hz1]; show k < (strN z kd sq k).Tapes.length; omega
   have hl1 : (z1.Tapes.getD k default).Recs.length ≤ 100000 := by rw [hz1]; exact fr
   obtain ⟨wA1, wC1, wA2, wC2, wA3, wC3, wf1, wf2, wf3, wok1, H3⟩ := HZ.openW 0 rfl
   try dsimp only [lNA, lCA, lSZ, lSS] at H3
   have wok1U := wok1
   unfold Wld.Ok Shape.Ok I64ok at wok1U
   have wL1 := oL (H3.mine 2 rfl)
   have wL2 := oL (H3.mine 3 rfl)
   have wL3 := oL (H3.mine 4 rfl)
   obtain ⟨eb1, eo1, eT1, eF1, eG1, ea1, ek1, eg1, ee1, eK1, eH1⟩ := Tape.focus H3 4 rfl k (by omega)
   have eK1U := eK1
   unfold Tape.Ok at eK1U
   try unfold I64ok at eK1U
   try unfold maxLen at eK1U
   try dsimp only [lNA, lCA, lSZ, lSS] at eH1
   refine W_drw (S := eH1.S2 4 6) [(0, true), (1, true), (2, true), (3, true), (4, true), (5, true), (6, true), (7, true), (8, true), (9, true), (10, true), (11, true), (13, true), (14, true), (12, false), (15, false), (16, true), (17, true), (18, false)] (by kernel_rfl) (by kernel_rfl) (by kernel_rfl) rfl (fun _ => show eH1.S2 4 6 _ from Ext.refl.drawn _) (fun q1 => ?_)
   have H4 := eH1.drawn q1
   refine dM rfl rfl rfl (dV rfl rfl (fun zw hx => py_nil rfl) (dV rfl rfl (fun zw hx => py_field tu38 rfl ts36 rfl rfl) (dV rfl rfl (fun zw hx => py_load tu36 rfl rfl (cell_atL (eH1.s2Box hx 0 rfl rfl rfl rfl rfl) rfl)) (dM rfl rfl rfl (dM rfl rfl rfl (dV rfl rfl (fun zw hx => py_nil rfl) (dV rfl rfl (fun zw hx => py_field tu38 rfl ts36 rfl rfl) (dV rfl rfl (fun zw hx => py_load tu36 rfl rfl (cell_atL (eH1.s2Box hx 0 rfl rfl rfl rfl rfl) rfl)) (dM rfl rfl rfl (dV rfl rfl (fun zw hx => py_elz tu36 ts139 rfl rfl ee1 k (by omega) (by omega)) (dV rfl rfl (fun zw hx => py_field tu139 rfl ts30 rfl rfl) (dM rfl rfl rfl (dM rfl rfl rfl (d_end rfl (wn rfl) rfl rfl (py_load tu30 rfl rfl (at_cell (H4.holAt 4 rfl) 1 rfl)) ?_))))))))))))))
   obtain ⟨vs, f0, f1, hvs, H5⟩ := H4.toViews 6 rfl
   try dsimp only [lNA, lCA, lSZ, lSS] at H5
   have hvl : vs.length = (z1.Tapes.getD k default).Recs.length := by rw [← hvs, List.length_map]
   refine d_call rfl (wn rfl) rfl rfl (pc_call Tryz.func297 rfl Tryz_nm297 rfl) (Tryz_spec_l5Strike (kd := kd) (sq := sq) (vs := vs) (H5.msees 6 rfl) (by omega)) (fun hS _ _ r _ => eH1.s2Call hS r.1) (fun v2 w3 r2 => ?_)
   obtain ⟨e2, r2⟩ := r2
   obtain ⟨fp2, H6⟩ := H5.res e2 r2
   obtain ⟨a1, k1, q2⟩ := own_slice (H6.mine 9 rfl)
   cases q2
   refine dV rfl rfl (fun zw hx => py_elz tu36 ts139 rfl rfl ee1 k (by omega) (by omega)) (dV rfl rfl (fun zw hx => py_field tu139 rfl ts30 rfl rfl) (d_hsto rfl (wn rfl) ts30 H6 4 1 rfl rfl rfl rfl rfl (fun _ h e _ => eH1.s2In h 4 rfl (.inl rfl) e (fun _ hb => by rw [hb]; exact List.mem_cons_self)) (fun w4 H7 => ?_)))
   dsimp only [lNA, lCA, lSZ, lSS, layL] at H7
   refine d_nil (W_reg (sM rfl rfl (sV rfl (py_add rfl rfl (in64 ⟨by omega, by omega⟩)) (sA rfl rfl (s_nil ?_)))))
   obtain ⟨f9, H9⟩ := H7.poolSub 8 rfl (keepV_sub (p := pKS kd sq))
   try dsimp only [lNA, lCA, lSZ, lSS] at H9
   obtain ⟨f8, H8⟩ := H9.ofViews 9 8 rfl rfl rfl
   try dsimp only [lNA, lCA, lSZ, lSS] at H8
   rw [keepV_map, hvs] at H8
   obtain ⟨fp3, H8⟩ := Tape.fill H8 4 9 rfl rfl rfl trivial
   try dsimp only [lNA, lCA, lSZ, lSS] at H8
   obtain ⟨fp4, H9⟩ := H8.closeW 0 2 3 4 (stT k kd sq z1) rfl rfl rfl rfl rfl rfl rfl rfl rfl rfl (stT_ok wok1)
   try dsimp only [lNA, lCA, lSZ, lSS] at H9
   have hz := H9.dtake 1
   rw [strN_step hp1 hz1] at hz
   refine ⟨(k + 1, _), ⟨rfl, rfl, rfl, rfl, trivial⟩, ⟨hz, by omega, fun i hi => ?_⟩, by dsimp only; omega⟩
   by_cases e : i = k
   ·subst e; exact hp1
   ·exact hnp i (by omega)
 ·refine W_exit (W_sr (sA rfl rfl (s_nil (rT hQ Tryz.results219 rfl ?_))))
  obtain rfl : k = 2 := by omega
  have h0 : noPower z = false := hnp 0 (by omega)
  have h1 : noPower (strW 0 kd sq z) = false := hnp 1 (by omega)
  have e2 := strBW_yes (kd := kd) (sq := sq) h0
  have hz := H1.doneW
  exact ⟨(by rw [e2.2, h1]; rfl), (by rw [e2.1]; exact hz)⟩
end Go.Wk
namespace Go.Wk
open Rp (sz own)
section
variable {α : Type} [Inhabited α] {f : α → Nat} {xs : List α} {y : α} {i : Nat}
theorem mkL_set2 (h : i < xs.length) : mkL f (xs.set i y) + f (xs.getD i default) = mkL f xs + f y := by
  unfold mkL
  rw [List.length_set]
  have e1 : sumN (fun j => f ((xs.set i y).getD j default) + (if j = i then f (xs.getD i default) else 0)) xs.length = sumN (fun j => f (xs.getD j default) + (if j = i then f y else 0)) xs.length :=
    sumN_congr fun j hj => by
      rw [getD_set]
      by_cases e : j = i
      · subst e; rw [if_pos ⟨rfl, h⟩, if_pos rfl, if_pos rfl]; omega
      · rw [if_neg (fun q => e q.1), if_neg e, if_neg e]
  rw [sumN_plus, sumN_plus, sumN_one, sumN_one, if_pos h, if_pos h] at e1
  exact e1
end
end Go.Wk

namespace Go.Wk
open Rp (sz own)
theorem own_bl {w : World} {x : Bool} : own true w [.bool x] x [] := ⟨rfl, rfl⟩
theorem elem_bool {s w ad n cap} {xs : List Bool} {fp} (h : own s w [.slice ad n cap] xs fp) (k : Nat) (hk : k < xs.length) :
    ∃ b o, ad = some ⟨b, o, none⟩ ∧ w.cell? ⟨b, o + k * 1, none⟩ = some (.bool (xs.getD k false)) := by
  obtain ⟨b, o, cs, f, h1, h2, h3, _⟩ := own_elem h k hk
  rw [show xs.getD k false = xs[k] from by simp [List.getD, hk]]
  exact ⟨b, o, h1, h2 0 (.bool xs[k]) (by rw [h3.1]; rfl)⟩
theorem bset {bs : List Bool} {f : Nat → Bool} {k : Nat} (hk : k < bs.length) (h : ∀ i, i < k → bs.getD i false = f i) : ∀ i, i < k + 1 → (bs.set k (f k)).getD i false = f i := by
  intro i hi
  rw [getD_set]
  by_cases e : i = k
  · rw [if_pos ⟨e, hk⟩, e]
  · rw [if_neg (fun q => e q.1)]; exact h i (by omega)
def itP (nm : ByteArray) (x : Rec) : Bool := decide (x.Kind = 1) && (x.Name.toList == nm.toList)
def mvP (q : Int) (x : Rec) : Bool := decide (x.Kind = 2) && decide (x.Seq = q)
def dnP (q g : Int) (x : Rec) : Bool := decide (x.Kind = 3) && (decide (x.Seq = q) && decide (x.Group = g))
def dnTo (s : Shape) (xs : List Rec) (q : Int) : Nat → Bool
  | 0 => true
  | k + 1 => dnTo s xs q k && xs.any (dnP q (s.Groups + k))
def setl (s : Shape) (xs : List Rec) (r : Rec) : Bool := dnTo s xs r.Seq s.Column.toNat && xs.any (dnP r.Seq r.Group)
def spent (s : Shape) (xs : List Rec) (a : Nat) : Bool :=
  if (xs.getD a default).Kind = 1 then (xs.drop (a + 1)).any (itP (xs.getD a default).Name)
  else if (xs.getD a default).Kind = 2 then setl s xs (xs.getD a default)
  else if (xs.getD a default).Kind = 3 then !xs.any (mvP (xs.getD a default).Seq)
  else xs.any (spS (xs.getD a default))
def topS (xs : List Rec) : Int := (xs.getD (xs.length - 1) default).Seq
def slFl (s : Shape) (xs : List Rec) (r : Rec) : Nat → Bool
  | 0 => decide (r.Seq < topS xs)
  | j + 1 => slFl s xs r j && (spent s xs j || (!decide ((xs.getD j default).Kind = r.Kind) || !decide ((xs.getD j default).Seq = r.Seq)))
def slTo (s : Shape) (xs : List Rec) : Nat → List Rec
  | 0 => []
  | k + 1 => if slFl s xs (xs.getD k default) xs.length = true then slTo s xs k ++ [xs.getD k default] else slTo s xs k
noncomputable def spentL (z : Wld) : List Rec := slTo z.Shape (cntL z) (cntL z).length
section
variable {z : Wld} {s : Shape} {r : Rec} {xs : List Rec} {a j k n : Nat} {q g : Int}
theorem spent_1 (h : (xs.getD a default).Kind = 1) : spent s xs a = (xs.drop (a + 1)).any (itP (xs.getD a default).Name) := if_pos h
theorem spent_2 (h : (xs.getD a default).Kind = 2) : spent s xs a = setl s xs (xs.getD a default) := by rw [spent, if_neg (by omega), if_pos h]
theorem spent_3 (h : (xs.getD a default).Kind = 3) : spent s xs a = !xs.any (mvP (xs.getD a default).Seq) := by rw [spent, if_neg (by omega), if_neg (by omega), if_pos h]
theorem spent_4 (h : (xs.getD a default).Kind = 4) : spent s xs a = xs.any (spS (xs.getD a default)) := by rw [spent, if_neg (by omega), if_neg (by omega), if_neg (by omega)]
theorem dnTo_no (h : k < n) (h2 : xs.any (dnP q (s.Groups + k)) = false) : dnTo s xs q n = false := by
  induction n with
  | zero => omega
  | succ n ih =>
    rw [dnTo]
    by_cases e : k = n
    · subst e; rw [h2, Bool.and_false]
    · rw [ih (by omega), Bool.false_and]
theorem dnTo_all (h : ∀ i, i < n → xs.any (dnP q (s.Groups + i)) = true) : dnTo s xs q n = true := by
  induction n with
  | zero => rfl
  | succ n ih => rw [dnTo, ih fun i hi => h i (by omega), h n (by omega)]; rfl
theorem cut_drop {α : Type} {xs : List α} {l : Nat} : cut xs l xs.length = xs.drop l := by unfold cut; exact List.take_of_length_le (by rw [List.length_drop]; omega)
theorem setl_all (h : ∀ i, i < s.Column.toNat → xs.any (dnP r.Seq (s.Groups + i)) = true) : setl s xs r = xs.any (dnP r.Seq r.Group) := by unfold setl; rw [dnTo_all h, Bool.true_and]
theorem setl_no (hk : k < s.Column.toNat) (h : xs.any (dnP r.Seq (s.Groups + k)) = false) : setl s xs r = false := by unfold setl; rw [dnTo_no hk h, Bool.false_and]
theorem slFl_mono (h : slFl s xs r j = false) (hj : j ≤ n) : slFl s xs r n = false := by
  induction n with
  | zero => rw [show j = 0 by omega] at h; exact h
  | succ n ih =>
    by_cases e : j = n + 1
    · rw [← e]; exact h
    · rw [slFl, ih (by omega), Bool.false_and]
theorem drop_any {p : Rec → Bool} (h : a < xs.length) (hp : p (xs.getD a default) = true) : (xs.drop (a + 1)).any p = !decide (lastI p xs = (a : Int)) := by
  by_cases e : (xs.drop (a + 1)).any p = true
  · rw [e]
    obtain ⟨x, hx, hpx⟩ := List.any_eq_true.1 e
    obtain ⟨i, hi, ei⟩ := List.getElem_of_mem hx
    rw [List.length_drop] at hi
    rw [List.getElem_drop] at ei
    rw [decide_eq_false]
    · rfl
    intro e2
    have h3 : p (xs.getD (a + 1 + i) default) = true := by rw [getD_el (by omega), ei]; exact hpx
    have h4 : ∀ {n}, a + 1 + i < n → (a + 1 + i : Int) ≤ lastTo p xs n := by
      intro n
      induction n with
      | zero => intro q; omega
      | succ n ih =>
        intro q
        rw [lastTo]
        split
        · omega
        · next c =>
          by_cases e5 : n = a + 1 + i
          · subst e5; exact absurd h3 c
          · exact ih (by omega)
    have h5 := h4 (n := xs.length) (by omega)
    unfold lastI at e2
    omega
  · rw [Bool.not_eq_true] at e
    rw [e, decide_eq_true]
    · rfl
    refine lastI_at h hp fun i h1 h2 => ?_
    rw [List.any_eq_false] at e
    have := e (xs.getD i default) (by
      rw [getD_el h2]
      have : xs[i] = (xs.drop (a + 1))[i - (a + 1)]'(by rw [List.length_drop]; omega) := by rw [List.getElem_drop]; congr 1; omega
      rw [this]; exact List.getElem_mem _)
    simpa using this
theorem topS_map {vs : List RecV} (h : vs.map RecV.r = xs) (h0 : 0 < vs.length) : (vs.getD (vs.length - 1) default).r.Seq = topS xs := by
  unfold topS
  have e : xs.length = vs.length := by rw [← h, List.length_map]
  rw [map_getD h (by omega), e]
theorem slTo_sub : ∀ {k}, k ≤ xs.length → (slTo s xs k).Sublist (xs.take k)
  | 0, _ => List.nil_sublist _
  | k + 1, h => by
    have ih := slTo_sub (k := k) (by omega)
    rw [slTo, ← take_step (d := default) (by omega)]
    split
    · exact ih.append (List.Sublist.refl _)
    · exact ih.trans (List.sublist_append_left _ _)
theorem slTo_len (h : k ≤ xs.length) : (slTo s xs k).length ≤ k := by
  have := (slTo_sub (s := s) h).length_le
  rw [List.length_take] at this; omega
theorem spentL_sub : (spentL z).Sublist (cntL z) := by
  have := slTo_sub (s := z.Shape) (xs := cntL z) (Nat.le_refl _)
  rwa [List.take_length] at this
theorem slTo_yes (h : slFl s xs (xs.getD k default) xs.length = true) : slTo s xs (k + 1) = slTo s xs k ++ [xs.getD k default] := if_pos h
theorem slTo_no (h : slFl s xs (xs.getD k default) xs.length = false) : slTo s xs (k + 1) = slTo s xs k := if_neg (by rw [h]; simp)
theorem slTo_noj (h : slFl s xs (xs.getD k default) j = false) (hj : j ≤ xs.length) : slTo s xs (k + 1) = slTo s xs k := slTo_no (slFl_mono h hj)
theorem cnt_kind (h : worldF z = 0) (hr : r ∈ cntL z) : 1 ≤ r.Kind ∧ r.Kind ≤ 4 := by
  have h1 := cnt_recF h hr
  unfold recF at h1
  by_cases c : ins r.Kind 1 4 = true
  · exact ins_iff.1 c
  · exfalso; rw [if_neg c] at h1; omega
end
section
variable {z : Wld} {s : Shape} {r : Rec} {xs : List Rec} {j k : Nat}
theorem slFl_same (h : slFl s xs r j = true) (h1 : (xs.getD j default).Kind = r.Kind) (h2 : (xs.getD j default).Seq = r.Seq) : slFl s xs r (j + 1) = spent s xs j := by
  rw [slFl, h, decide_eq_true h1, decide_eq_true h2]; simp
theorem slFl_diff (h : slFl s xs r j = true) (h1 : ¬ ((xs.getD j default).Kind = r.Kind ∧ (xs.getD j default).Seq = r.Seq)) : slFl s xs r (j + 1) = true := by
  rw [slFl, h]
  by_cases c : (xs.getD j default).Kind = r.Kind
  · rw [decide_eq_false (fun c2 => h1 ⟨c, c2⟩)]; simp
  · rw [decide_eq_false c]; simp
theorem spentL_sz (hr : r ∈ spentL z) : szRec r ≤ szWld z := cnt_sz (spentL_sub.mem hr)
end
def dupAt (xs : List Rec) (i : Nat) : Bool := decide (0 < i) && (decide ((xs.getD i default).Kind = (xs.getD (i - 1) default).Kind) && decide ((xs.getD i default).Seq = (xs.getD (i - 1) default).Seq))
def sameKS (r x : Rec) : Bool := decide (x.Kind = r.Kind) && decide (x.Seq = r.Seq)
def clnI (xs : List Rec) : Nat → Nat → Wld → Bool × Wld
  | 0, _, z => (true, z)
  | n + 1, i, z => if dupAt xs i = true then clnI xs n (i + 1) z else
      if strOK z (xs.getD i default).Kind (xs.getD i default).Seq = true then clnI xs n (i + 1) (strBW z (xs.getD i default).Kind (xs.getD i default).Seq)
      else (false, strBW z (xs.getD i default).Kind (xs.getD i default).Seq)
noncomputable def clnP (z : Wld) : Bool × Wld := clnI (spentL z) (spentL z).length 0 z
noncomputable def cleanF (z : Wld) : WldResult := if upF z = 0 then ⟨if (clnP z).1 = true then 0 else 9, (clnP z).2⟩ else ⟨upF z, noWld⟩
section
variable {z : Wld} {xs : List Rec} {i k n : Nat} {kd sq : Int}
theorem clnI_at (h : i < xs.length) : clnI xs (xs.length - i) i z = if dupAt xs i = true then clnI xs (xs.length - (i + 1)) (i + 1) z else
      if strOK z (xs.getD i default).Kind (xs.getD i default).Seq = true then clnI xs (xs.length - (i + 1)) (i + 1) (strBW z (xs.getD i default).Kind (xs.getD i default).Seq)
      else (false, strBW z (xs.getD i default).Kind (xs.getD i default).Seq) := by
  rw [show xs.length - i = (xs.length - (i + 1)) + 1 by omega]; rfl
theorem clnI_dup (h : i < xs.length) (c : dupAt xs i = true) : clnI xs (xs.length - i) i z = clnI xs (xs.length - (i + 1)) (i + 1) z := by rw [clnI_at h, if_pos c]
theorem clnI_go (h : i < xs.length) (c : dupAt xs i = false) (o : strOK z (xs.getD i default).Kind (xs.getD i default).Seq = true) : clnI xs (xs.length - i) i z = clnI xs (xs.length - (i + 1)) (i + 1) (strBW z (xs.getD i default).Kind (xs.getD i default).Seq) := by rw [clnI_at h, if_neg (by simp [c]), if_pos o]
theorem clnI_stop (h : i < xs.length) (c : dupAt xs i = false) (o : strOK z (xs.getD i default).Kind (xs.getD i default).Seq = false) : clnI xs (xs.length - i) i z = (false, strBW z (xs.getD i default).Kind (xs.getD i default).Seq) := by rw [clnI_at h, if_neg (by rw [c]; simp), if_neg (by rw [o]; simp)]
theorem clnI_end (h : ¬ i < xs.length) : clnI xs (xs.length - i) i z = (true, z) := by rw [show xs.length - i = 0 by omega]; rfl
theorem strBW_facts (hT : z.Tapes.length = 2) : (strBW z kd sq).Tapes.length = 2 ∧ z.Writes ≤ (strBW z kd sq).Writes ∧ (strBW z kd sq).Writes ≤ z.Writes + 2 ∧ mkWld (strBW z kd sq) ≤ mkWld z ∧ ∀ u, ((strBW z kd sq).Tapes.getD u default).Recs.length ≤ (z.Tapes.getD u default).Recs.length := by
  have key : ∀ {z : Wld} {t : Nat}, t < z.Tapes.length → mkWld (strW t kd sq z) ≤ mkWld z := by
    intro z t h
    unfold strW rawW; split
    · have := mk_cut (z := z); omega
    · have h1 := mkL_set2 (f := mkTape) (xs := z.Tapes) (i := t) (y := ⟨(z.Tapes.getD t default).Wiped, keepR (pKS kd sq) (z.Tapes.getD t default).Recs⟩) h
      have h3 : mkTape ⟨(z.Tapes.getD t default).Wiped, keepR (pKS kd sq) (z.Tapes.getD t default).Recs⟩ ≤ mkTape (z.Tapes.getD t default) := by
        unfold mkTape keepR; dsimp only
        have := mkL_filter (f := mkRec) (p := fun r => !pKS kd sq r) (xs := (z.Tapes.getD t default).Recs)
        omega
      unfold mkWld tickW stT; dsimp only; omega
  by_cases hp : noPower z = true
  · rw [(strBW_no hp).1]
    have h1 := strW_writes (t := 0) (kd := kd) (sq := sq) (z := z)
    exact ⟨by rw [strW_tapes]; exact hT, h1.1, by omega, key (by omega), fun u => strW_recs⟩
  · rw [(strBW_yes (by simpa using hp)).1]
    have h1 := strW_writes (t := 0) (kd := kd) (sq := sq) (z := z)
    have h2 := strW_writes (t := 1) (kd := kd) (sq := sq) (z := strW 0 kd sq z)
    have h3 := key (z := z) (t := 0) (by omega)
    have h4 := key (z := strW 0 kd sq z) (t := 1) (by rw [strW_tapes]; omega)
    exact ⟨by rw [strW_tapes, strW_tapes]; exact hT, by omega, by omega, by omega, fun u => Nat.le_trans strW_recs strW_recs⟩
theorem strBW_down (h : strOK z kd sq = true) : (strBW z kd sq).Down = z.Down := by
  unfold strOK at h
  simp only [Bool.and_eq_true, Bool.not_eq_true'] at h
  rw [(strBW_yes h.1).1, strW_down h.2, strW_down h.1]
theorem strBW_ok2 (h : z.Ok) (h2 : z.Writes ≤ 1500000000) : (strBW z kd sq).Ok := by
  have h1 := strW_writes (t := 0) (kd := kd) (sq := sq) (z := z)
  unfold strBW; split
  · exact cutW_ok h
  · exact strW_ok (strW_ok h (by omega)) (by omega)
theorem clnI_mk : ∀ {n i : Nat} {z : Wld}, z.Tapes.length = 2 → mkWld (clnI xs n i z).2 ≤ mkWld z
  | 0, _, _, _ => Nat.le_refl _
  | n + 1, i, z, hT => by
    obtain ⟨h1, _, _, h3, _⟩ := strBW_facts (z := z) (kd := (xs.getD i default).Kind) (sq := (xs.getD i default).Seq) hT
    rw [clnI]
    split
    · exact clnI_mk hT
    · split
      · exact Nat.le_trans (clnI_mk h1) h3
      · exact h3
theorem clnI_ok : ∀ {n i : Nat} {z : Wld}, z.Ok → z.Tapes.length = 2 → z.Writes + 2 * (n : Int) ≤ 1500000000 → (clnI xs n i z).2.Ok
  | 0, _, _, h, _, _ => h
  | n + 1, i, z, h, hT, hw => by
    obtain ⟨h1, _, h2, _, _⟩ := strBW_facts (z := z) (kd := (xs.getD i default).Kind) (sq := (xs.getD i default).Seq) hT
    rw [clnI]
    split
    · exact clnI_ok h hT (by omega)
    · split
      · exact clnI_ok (strBW_ok2 h (by omega)) h1 (by omega)
      · exact strBW_ok2 h (by omega)
theorem spent_len (h : worldF z = 0) : (spentL z).length ≤ 600000 := by
  have h1 := (spentL_sub (z := z)).length_le
  have h2 := cntL_bd (z := z) (worldF_ok h).2.2.2.1 (recs_bd h)
  omega
theorem recs_all (h : worldF z = 0) : ∀ k, (z.Tapes.getD k default).Recs.length ≤ 100000 := fun k => by
  have hT := (worldF_ok h).2.2.2.1
  obtain ⟨h1, h2⟩ := recs_le h
  by_cases e : k < 2
  · have : k = 0 ∨ k = 1 := by omega
    rcases this with rfl | rfl <;> omega
  · have : z.Tapes.getD k default = default := by simp [List.getD, List.getElem?_eq_none (show z.Tapes.length ≤ k by omega)]
    rw [this]; exact Nat.zero_le _
theorem cleanF_bad (h : upF z ≠ 0) : cleanF z = ⟨upF z, noWld⟩ := if_neg h
theorem cleanF_ok (h : upF z = 0) : cleanF z = ⟨if (clnP z).1 = true then 0 else 9, (clnP z).2⟩ := if_pos h
theorem mk_clean : mkWld (cleanF z).Wd ≤ mkWld z := by
  have h0 : mkWld noWld = 0 := rfl
  unfold cleanF
  split
  · next h => exact clnI_mk (worldF_ok (upF_ok h).1).2.2.2.1
  · show mkWld noWld ≤ _; omega
theorem clnP_ok (h : z.Ok) (hw : worldF z = 0) : (clnP z).2.Ok := by
  have h2 := spent_len hw
  obtain ⟨hw0, hw1, _, _⟩ := worldF_rng hw
  exact clnI_ok h (worldF_ok hw).2.2.2.1 (by omega)
theorem clean_Ok (h : z.Ok) : (cleanF z).Ok := by
  have h1 := upF_cd (z := z)
  unfold cleanF
  split
  · next hu => exact ⟨by show I64ok (if (clnP z).1 = true then 0 else 9); unfold I64ok; split <;> omega, clnP_ok h (upF_ok hu).1⟩
  · exact ⟨by show I64ok (upF z); unfold I64ok; omega, noWld_ok⟩
end
section
variable {α K : Type} {lt : K → K → Prop} {key : α → K}
theorem Ord.sub {xs ys : List α} (h : Ord lt key xs) (hs : ys.Sublist xs) : Ord lt key ys := by
  induction hs with
  | slnil => exact .nil
  | cons a hs ih => cases h with | cons h1 h2 => exact ih h2
  | cons_cons a hs ih => cases h with | cons h1 h2 => exact .cons (fun y hy => h1 y (hs.mem hy)) (ih h2)
theorem Ord.at [Inhabited α] {xs : List α} (h : Ord lt key xs) : ∀ {i j : Nat}, i < j → j < xs.length → ¬ lt (key (xs.getD j default)) (key (xs.getD i default)) := by
  induction h with
  | nil => intro i j _ h; simp at h
  | cons h1 h2 ih =>
    intro i j hij hj
    obtain ⟨j, rfl⟩ : ∃ k, j = k + 1 := ⟨j - 1, by omega⟩
    rw [List.length_cons] at hj
    rcases Nat.eq_zero_or_pos i with e | e
    · subst e
      rw [List.getD_cons_succ, List.getD_cons_zero, getD_el (by omega)]
      exact h1 _ (List.getElem_mem _)
    · obtain ⟨i, rfl⟩ : ∃ k, i = k + 1 := ⟨i - 1, by omega⟩
      rw [List.getD_cons_succ, List.getD_cons_succ]
      exact ih (by omega) (by omega)
end
section
variable {z : Wld} {xs : List Rec} {i : Nat}
theorem dup_any (ho : Ord kLt keyR xs) (h : i < xs.length) : (xs.take i).any (sameKS (xs.getD i default)) = dupAt xs i := by
  cases hd : dupAt xs i
  · rw [List.any_eq_false]
    intro x hx
    obtain ⟨j, hj, e⟩ := List.getElem_of_mem hx
    rw [List.length_take] at hj
    rw [List.getElem_take, ← getD_el (d := default)] at e
    subst e
    intro h2
    unfold sameKS at h2
    simp only [Bool.and_eq_true, decide_eq_true_eq] at h2
    have h3 := ho.at (i := i - 1) (j := i) (by omega) h
    have h4 : j = i - 1 ∨ ¬ kLt (keyR (xs.getD (i - 1) default)) (keyR (xs.getD j default)) := by
      by_cases e : j = i - 1
      · exact .inl e
      · exact .inr (ho.at (by omega) (by omega))
    unfold dupAt at hd
    simp only [Bool.and_eq_false_iff, decide_eq_false_iff_not] at hd
    rcases h4 with h4 | h4
    · subst h4; omega
    · unfold kLt keyR at h3 h4
      dsimp only at h3 h4
      omega
  · unfold dupAt at hd
    simp only [Bool.and_eq_true, decide_eq_true_eq] at hd
    refine anyR_yes (k := i - 1) (by rw [List.length_take]; omega) ?_
    have e : (xs.take i).getD (i - 1) default = xs.getD (i - 1) default := by
      rw [getD_el (by rw [List.length_take]; omega), getD_el (by omega), List.getElem_take]
    rw [e]; unfold sameKS
    rw [decide_eq_true hd.2.1.symm, decide_eq_true hd.2.2.symm]; rfl
theorem spent_ord : Ord kLt keyR (spentL z) := cnt_stable.1.sub spentL_sub
end
end Go.Wk
