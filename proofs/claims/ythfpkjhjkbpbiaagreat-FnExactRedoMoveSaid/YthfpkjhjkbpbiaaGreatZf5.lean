/-
  Laws on walking, and the functions walked, each once: what this claim comes to.
-/
import Derived.Test.YthfpkjhjkbpbiaaGreatZf4
set_option linter.unusedVariables false
set_option linter.unusedSimpArgs false
namespace Go.Wk
open Go.Proofs Rp
set_option maxRecDepth 10000
set_option maxHeartbeats 8000000 in
theorem Tryz_laws_FnExactRedoMove {w : World} {z : Wld} {zA9 zA10 zA11 rA6 rA7 rA8 : Option Addr} {zC9 zC10 zC11 rC6 rC7 rC8 : Nat} {g : Int} {r : Rec} (zK : z.Ok) (zS9 : Sees w [.slice zA9 z.Groups.length zC9] z.Groups) (zS10 : Sees w [.slice zA10 z.On.length zC10] z.On) (zS11 : Sees w [.slice zA11 z.Tapes.length zC11] z.Tapes) (rK : r.Ok) (rS6 : Sees w [.slice rA6 r.Rows.length rC6] r.Rows) (rS7 : Sees w [.slice rA7 r.Data.length rC7] r.Data) (rS8 : Sees w [.slice rA8 r.Delta.length rC8] r.Delta) : Ret Tryz.prog 10 #[z.val zA9 zC9 zA10 zC10 zA11 zC11, .int .i64 g, r.val rA6 rC6 rA7 rC7 rA8 rC8] w fun v w' => Ext No w w' ∧ (v = .bool true) := by
 have zK2 := zK
 unfold Wld.Ok Shape.Ok at zK2
 try unfold I64ok at zK2
 try unfold maxLen at zK2
 have zL9 := sL zS9
 obtain ⟨zF9, zO9⟩ := zS9
 have zL10 := sL zS10
 obtain ⟨zF10, zO10⟩ := zS10
 have zL11 := sL zS11
 obtain ⟨zF11, zO11⟩ := zS11
 have rK2 := rK
 unfold Rec.Ok at rK2
 try unfold I64ok at rK2
 try unfold maxLen at rK2
 have rN2 : r.Name.size ≤ maxLen := by unfold maxLen; omega
 have rL6 := sL rS6
 obtain ⟨rF6, rO6⟩ := rS6
 have rL7 := sL rS7
 obtain ⟨rF7, rO7⟩ := rS7
 have rL8 := sL rS8
 obtain ⟨rF8, rO8⟩ := rS8
 refine ret_Q (vs := [z.val zA9 zC9 zA10 zC10 zA11 zC11, .int .i64 g, r.val rA6 rC6 rA7 rC7 rA8 rC8]) Tryz.func10 rfl Tryz.ntmps10 rfl (fun Q hQ hN => ?_)
 have H0 := Sep.start (w := w) (F := [seen false [.slice zA9 z.Groups.length zC9] z.Groups zF9, seen false [.slice zA10 z.On.length zC10] z.On zF10, seen false [.slice zA11 z.Tapes.length zC11] z.Tapes zF11, seen false [.slice rA6 r.Rows.length rC6] r.Rows rF6, seen false [.slice rA7 r.Data.length rC7] r.Data rF7, seen false [.slice rA8 r.Delta.length rC8] r.Delta rF8]) (all_cons zO9 (all_cons zO10 (all_cons zO11 (all_cons rO6 (all_cons rO7 (all_cons rO8 (by simp)))))))
 refine W_sr (s_box (wn rfl) rfl rfl H0 (fun b1 w1 e1 g1 H1 => ?_))
 refine s_box (wn rfl) rfl rfl H1 (fun b2 w2 e2 g2 H2 => ?_)
 refine sA rfl rfl (s_nil (W_sr (sA rfl rfl (s_nil (W_sr (sV rfl (py_loadS tu28 rfl ts28 rfl rfl (At.whole (H2.box 0 rfl))) (sM rfl rfl (s_call (wn rfl) rfl rfl (pc_call Tryz.func15 rfl Tryz_nm15 rfl) (Tryz_laws_szWorld (by assumption) (H2.sees 0 rfl) (H2.sees 1 rfl) (H2.sees 2 rfl) (by omega)) (fun v1 w3 r1 => ?_)))))))))
 obtain ⟨e3, rfl⟩ := r1
 have H3 := H2.to e3
 refine sA rfl rfl (s_nil (W_seq (W_sr (sM rfl rfl (sV rfl (py_lss rfl rfl) (s_nil (W_ifd rfl (fun c1 => ?_) (fun c1 => ?_))))))))
 ·refine W_sr (sA rfl rfl (s_nil (rT hQ Tryz.results10 rfl ?_)))
  exact ⟨H3.ext, rfl⟩
 ·refine W_skip (W_seq ?_)
  have hsz : szWld z ≤ 1048576 := by omega
  refine W_reg (sV rfl (py_loadS tu63 rfl ts63 rfl rfl (At.whole (H3.box 1 rfl))) (sM rfl rfl (s_call (wn rfl) rfl rfl (pc_call Tryz.func42 rfl Tryz_nm42 rfl) (Tryz_laws_szRec (by assumption) (H3.sees 3 rfl) (H3.sees 4 rfl) (H3.sees 5 rfl) (by omega)) (fun v2 w4 r2 => ?_))))
  obtain ⟨e4, rfl⟩ := r2
  have H4 := H3.to e4
  refine sA rfl rfl (s_nil (W_seq (W_sr (sM rfl rfl (sV rfl (py_lss rfl rfl) (s_nil (W_ifd rfl (fun c2 => ?_) (fun c2 => ?_))))))))
  ·refine W_sr (sA rfl rfl (s_nil (rT hQ Tryz.results10 rfl ?_)))
   exact ⟨H4.ext, rfl⟩
  ·refine W_skip (W_seq ?_)
   have hszr : szRec r ≤ 1048576 := by omega
   have hmk := mkWld_le z
   have hml := mk_redo (z := z) (g := g) (r := r)
   have hmr : mkRec r = 6 + r.Rows.length + r.Data.length + r.Delta.length := rfl
   have hsr : szRec r = r.Name.size + r.Rows.length + r.Data.length + r.Delta.length := rfl
   have hOk := redo_Ok2 (z := z) (g := g) (r := r) zK
   refine W_drw (S := Ext No _) [(0, true), (2, true), (3, true), (1014, false), (1, false), (1008, false), (4, false), (1003, false), (5, false), (6, false), (7, false), (6, false), (5, false), (7, false), (6, false), (4, false), (5, false), (7, false), (6, false), (1, false), (4, false), (5, false), (7, false)] (by kernel_rfl) (by kernel_rfl) (by kernel_rfl) rfl (fun _ => Ext.refl.drawn _) (fun q1 => ?_)
   have H5 := H4.drawn q1
   refine dV rfl rfl (fun zw hx => py_loadS tu28 rfl ts28 rfl rfl (At.whole (hx.heap (H5.box 0 rfl)))) (dM rfl rfl rfl (dV rfl rfl (fun zw hx => py_loadS tu63 rfl ts63 rfl rfl (At.whole (hx.heap (H5.box 1 rfl)))) (d_fork (l1 := [(1, false), (1008, false), (4, false), (1003, false), (5, false), (6, false), (7, false), (6, false), (5, false), (7, false), (6, false), (4, false), (5, false), (7, false)]) (l2 := [(6, false), (1, false), (4, false), (5, false), (7, false)]) rfl rfl rfl rfl ?_ ?_)))
   ·refine d_call rfl (wn rfl) rfl rfl (pc_call Tryz.func17 rfl Tryz_nm17 rfl) (Tryz_laws_toWorld (by assumption) (H5.sees 0 rfl) (H5.sees 1 rfl) (H5.sees 2 rfl) (by assumption)) (fun hS _ _ r _ => hS.trans r.1.no) (fun v3 w5 r3 => ?_)
    obtain ⟨e5, sa1, sk1, sa2, sk2, sa3, sk3, rfl, r3⟩ := r3
    obtain ⟨fp1, H6⟩ := H5.res e5 r3
    have H7 := H6.share 2 rfl
    obtain ⟨sf1, sf2, sf3, sq1, sok1, so1, so2, so3⟩ := own_WldC (H7.seen 6 rfl)
    have H9 := H7.look1 6 rfl so1 (fun b hb => by rw [sq1]; simp [hb])
    have H10 := H9.look1 6 rfl so2 (fun b hb => by rw [sq1]; simp [hb])
    have H11 := H10.look1 6 rfl so3 (fun b hb => by rw [sq1]; simp [hb])
    refine d_fork (l1 := [(4, false), (1003, false), (5, false), (6, false), (7, false), (6, false), (5, false), (7, false)]) (l2 := [(6, false), (4, false), (5, false), (7, false)]) rfl rfl rfl rfl ?_ ?_
    ·refine d_call rfl (wn rfl) rfl rfl (pc_call Tryz.func44 rfl Tryz_nm44 rfl) (Tryz_laws_toRec (by assumption) (H11.sees 3 rfl) (H11.sees 4 rfl) (H11.sees 5 rfl) (by assumption)) (fun hS _ _ r _ => hS.trans r.1.no) (fun v4 w6 r4 => ?_)
     obtain ⟨e6, sa4, sk4, sa5, sk5, sa6, sk6, rfl, r4⟩ := r4
     obtain ⟨fp2, H12⟩ := H11.res e6 r4
     have H13 := H12.share 3 rfl
     obtain ⟨sf4, sf5, sf6, sq2, sok2, so4, so5, so6⟩ := own_RecC (H13.seen 10 rfl)
     have H15 := H13.look1 10 rfl so4 (fun b hb => by rw [sq2]; simp [hb])
     have H16 := H15.look1 10 rfl so5 (fun b hb => by rw [sq2]; simp [hb])
     have H17 := H16.look1 10 rfl so6 (fun b hb => by rw [sq2]; simp [hb])
     refine d_fork (l1 := [(5, false), (6, false), (7, false)]) (l2 := [(6, false), (5, false), (7, false)]) rfl rfl rfl rfl ?_ ?_
     ·refine d_call rfl (wn rfl) rfl rfl (pc_call Tryz.func43 rfl Tryz_nm43 rfl) (Tryz_spec_RedoMove (by assumption) (H17.sees 7 rfl) (H17.sees 8 rfl) (H17.sees 9 rfl) (by assumption) (H17.sees 11 rfl) (H17.sees 12 rfl) (H17.sees 13 rfl) (by first | assumption | omega)) (fun hS _ _ r _ => hS.trans r.1.no) (fun v5 w7 r5 => ?_)
      obtain ⟨e7, sa7, sk7, sa8, sk8, sa9, sk9, rfl, r5⟩ := r5
      obtain ⟨fp3, H18⟩ := H17.res e7 r5
      have H19 := H18.share 4 rfl
      obtain ⟨sf7, sf8, sf9, sq3, sok3, so7, so8, so9⟩ := own_WldResultC (H19.seen 14 rfl)
      have H21 := H19.look1 14 rfl so7 (fun b hb => by rw [sq3]; simp [hb])
      have H22 := H21.look1 14 rfl so8 (fun b hb => by rw [sq3]; simp [hb])
      have H23 := H22.look1 14 rfl so9 (fun b hb => by rw [sq3]; simp [hb])
      refine d_var rfl (wn rfl) rfl Tryz.zeroValue66 H23 (fun _ h e => h.trans e.no) (fun b3 w8 e8 g3 H24 => ?_)
      refine d_stoS rfl (wn rfl) ts66 rfl rfl rfl rfl H24 5 rfl rfl (fun _ _ _ hr => absurd rfl hr) (fun w9 e9 H25 => ?_)
      dsimp only [lNA, lCA, lSZ, lSS, layL] at H25
      refine d_nil (W_sr (sV rfl (py_loadS tu28 rfl ts28 rfl rfl (At.whole (H25.box 0 rfl))) (s_call (wn rfl) rfl rfl (pc_call Tryz.func17 rfl Tryz_nm17 rfl) (Tryz_laws_toWorld (by assumption) (H25.sees 0 rfl) (H25.sees 1 rfl) (H25.sees 2 rfl) (by assumption)) (fun v6 w10 r6 => ?_))))
      obtain ⟨e10, sa10, sk10, sa11, sk11, sa12, sk12, rfl, r6⟩ := r6
      obtain ⟨fp4, H26⟩ := H25.res e10 r6
      refine s_var (wn rfl) rfl Tryz.zeroValue38 H26 (fun b4 w11 e11 g4 H27 => ?_)
      refine s_stoS (wn rfl) ts38 rfl rfl rfl rfl H27 7 rfl rfl (fun w12 e12 H28 => ?_)
      dsimp only [lNA, lCA, lSZ, lSS, layL] at H28
      refine s_nil (W_sr (sV rfl (py_loadS tu63 rfl ts63 rfl rfl (At.whole (H28.box 1 rfl))) (s_call (wn rfl) rfl rfl (pc_call Tryz.func44 rfl Tryz_nm44 rfl) (Tryz_laws_toRec (by assumption) (H28.sees 3 rfl) (H28.sees 4 rfl) (H28.sees 5 rfl) (by assumption)) (fun v7 w13 r7 => ?_))))
      obtain ⟨e13, sa13, sk13, sa14, sk14, sa15, sk15, rfl, r7⟩ := r7
      obtain ⟨fp5, H29⟩ := H28.res e13 r7
      refine s_var (wn rfl) rfl Tryz.zeroValue68 H29 (fun b5 w14 e14 g5 H30 => ?_)
      refine s_stoS (wn rfl) ts68 rfl rfl rfl rfl H30 9 rfl rfl (fun w15 e15 H31 => ?_)
      dsimp only [lNA, lCA, lSZ, lSS, layL] at H31
      refine s_nil (W_sr (sV rfl (py_loadS tu38 rfl ts38 rfl rfl (At.whole (H31.box 7 rfl))) (sM rfl rfl (sV rfl (py_loadS tu68 rfl ts68 rfl rfl (At.whole (H31.box 9 rfl))) (s_call (wn rfl) rfl rfl (pc_call Tryz.func45 rfl Tryz_nm45 rfl) (Tryz_impl_RedoMove (by assumption) (Wld.see9 (H31.mine 6 rfl)) (Wld.see10 (H31.mine 6 rfl)) (Wld.see11 (H31.mine 6 rfl)) (by assumption) (Rec.see6 (H31.mine 8 rfl)) (Rec.see7 (H31.mine 8 rfl)) (Rec.see8 (H31.mine 8 rfl)) (by first | assumption | omega)) (fun v8 w16 r8 => ?_))))))
      obtain ⟨e16, sa16, sk16, sa17, sk17, sa18, sk18, rfl, r8⟩ := r8
      obtain ⟨fp6, H32⟩ := H31.res e16 r8
      refine s_var (wn rfl) rfl Tryz.zeroValue66 H32 (fun b6 w17 e17 g6 H33 => ?_)
      refine s_stoS (wn rfl) ts66 rfl rfl rfl rfl H33 11 rfl rfl (fun w18 e18 H34 => ?_)
      dsimp only [lNA, lCA, lSZ, lSS, layL] at H34
      refine s_nil (W_seq (W_sr (sV rfl (py_loadS tu66 rfl ts66 rfl rfl (At.whole (H34.box 11 rfl))) (sV rfl (py_loadS tu66 rfl ts66 rfl rfl (At.whole (H34.box 5 rfl))) (s_call (wn rfl) rfl rfl (pc_call Tryz.func46 rfl Tryz_nm46 rfl) (Tryz_laws_eqWorldResult (by assumption) (WldResult.see10 (H34.mine 10 rfl)) (WldResult.see11 (H34.mine 10 rfl)) (WldResult.see12 (H34.mine 10 rfl)) (by assumption) (H34.sees 15 rfl) (H34.sees 16 rfl) (H34.sees 17 rfl)) (fun v9 w19 r9 => ?_))))))
      obtain ⟨e19, rfl⟩ := r9
      have H35 := H34.to e19
      refine sV rfl (py_not rfl) (s_nil (W_if rfl (fun c3 => ?_) (fun c3 => ?_)))
      ·exfalso; simp_all
      ·refine W_skip (W_seq (W_seq (W_drw (S := Ext No _) [(0, true), (1, true), (2, false), (3, false), (4, false)] (by kernel_rfl) (by kernel_rfl) (by kernel_rfl) rfl (fun _ => Ext.refl.drawn _) (fun q2 => ?_))))
       have H36 := H35.drawn q2
       refine dV rfl rfl (fun zw hx => py_loadS tu38 rfl ts38 rfl rfl (At.whole (hx.heap (H36.box 7 rfl)))) (dV rfl rfl (fun zw hx => py_loadS tu28 rfl ts28 rfl rfl (At.whole (hx.heap (H36.box 0 rfl)))) (d_call rfl (wn rfl) rfl rfl (pc_call Tryz.func17 rfl Tryz_nm17 rfl) (Tryz_laws_toWorld (by assumption) (H36.sees 0 rfl) (H36.sees 1 rfl) (H36.sees 2 rfl) (by assumption)) (fun hS _ _ r _ => hS.trans r.1.no) (fun v10 w20 r10 => ?_)))
       obtain ⟨e20, sa19, sk19, sa20, sk20, sa21, sk21, rfl, r10⟩ := r10
       obtain ⟨fp7, H37⟩ := H36.res e20 r10
       have H38 := H37.share 12 rfl
       obtain ⟨sf10, sf11, sf12, sq4, sok4, so10, so11, so12⟩ := own_WldC (H38.seen 18 rfl)
       have H40 := H38.look1 18 rfl so10 (fun b hb => by rw [sq4]; simp [hb])
       have H41 := H40.look1 18 rfl so11 (fun b hb => by rw [sq4]; simp [hb])
       have H42 := H41.look1 18 rfl so12 (fun b hb => by rw [sq4]; simp [hb])
       refine d_call rfl (wn rfl) rfl rfl (pc_call Tryz.func20 rfl Tryz_nm20 rfl) (Tryz_laws_eqWorld (by assumption) (Wld.see9 (H42.mine 6 rfl)) (Wld.see10 (H42.mine 6 rfl)) (Wld.see11 (H42.mine 6 rfl)) (by assumption) (H42.sees 19 rfl) (H42.sees 20 rfl) (H42.sees 21 rfl)) (fun hS _ _ r _ => hS.trans r.1.no) (fun v11 w21 r11 => ?_)
       obtain ⟨e21, rfl⟩ := r11
       have H43 := H42.to e21
       refine d_end rfl (wn rfl) rfl rfl (py_not rfl) (d_nil (W_if rfl (fun c4 => ?_) (fun c4 => ?_)))
       ·exfalso; simp_all
       ·refine W_skip (W_seq (W_seq (W_drw (S := Ext No _) [(0, true), (1, true), (2, false), (3, false), (4, false)] (by kernel_rfl) (by kernel_rfl) (by kernel_rfl) rfl (fun _ => Ext.refl.drawn _) (fun q3 => ?_))))
        have H44 := H43.drawn q3
        refine dV rfl rfl (fun zw hx => py_loadS tu68 rfl ts68 rfl rfl (At.whole (hx.heap (H44.box 9 rfl)))) (dV rfl rfl (fun zw hx => py_loadS tu63 rfl ts63 rfl rfl (At.whole (hx.heap (H44.box 1 rfl)))) (d_call rfl (wn rfl) rfl rfl (pc_call Tryz.func44 rfl Tryz_nm44 rfl) (Tryz_laws_toRec (by assumption) (H44.sees 3 rfl) (H44.sees 4 rfl) (H44.sees 5 rfl) (by assumption)) (fun hS _ _ r _ => hS.trans r.1.no) (fun v12 w22 r12 => ?_)))
        obtain ⟨e22, sa22, sk22, sa23, sk23, sa24, sk24, rfl, r12⟩ := r12
        obtain ⟨fp8, H45⟩ := H44.res e22 r12
        have H46 := H45.share 13 rfl
        obtain ⟨sf13, sf14, sf15, sq5, sok5, so13, so14, so15⟩ := own_RecC (H46.seen 22 rfl)
        have H48 := H46.look1 22 rfl so13 (fun b hb => by rw [sq5]; simp [hb])
        have H49 := H48.look1 22 rfl so14 (fun b hb => by rw [sq5]; simp [hb])
        have H50 := H49.look1 22 rfl so15 (fun b hb => by rw [sq5]; simp [hb])
        refine d_call rfl (wn rfl) rfl rfl (pc_call Tryz.func47 rfl Tryz_nm47 rfl) (Tryz_laws_eqRec (by assumption) (Rec.see6 (H50.mine 8 rfl)) (Rec.see7 (H50.mine 8 rfl)) (Rec.see8 (H50.mine 8 rfl)) (by assumption) (H50.sees 23 rfl) (H50.sees 24 rfl) (H50.sees 25 rfl)) (fun hS _ _ r _ => hS.trans r.1.no) (fun v13 w23 r13 => ?_)
        obtain ⟨e23, rfl⟩ := r13
        have H51 := H50.to e23
        refine d_end rfl (wn rfl) rfl rfl (py_not rfl) (d_nil (W_if rfl (fun c5 => ?_) (fun c5 => ?_)))
        ·exfalso; simp_all
        ·refine W_skip (W_sr (sA rfl rfl (s_nil (W_sr (sV rfl (py_loadS tu38 rfl ts38 rfl rfl (At.whole (H51.box 7 rfl))) (sM rfl rfl (s_call (wn rfl) rfl rfl (pc_call Tryz.func21 rfl Tryz_nm21 rfl) (Tryz_laws_markWorld (by assumption) (H51.mine 6 rfl) (H51.nodup1 (i := 6) rfl) (by constructor <;> omega)) (fun v14 w24 r14 => ?_))))))))
         obtain ⟨rfl, mx1, mm1, ml1⟩ := r14
         obtain ⟨fp9, H52⟩ := H51.mut 6 rfl mm1
         try dsimp only [lNA, lCA, lSZ, lSS] at H52
         refine sA rfl rfl (s_nil (W_sr (sV rfl (py_loadS tu68 rfl ts68 rfl rfl (At.whole (H52.box 9 rfl))) (sM rfl rfl (s_call (wn rfl) rfl rfl (pc_call Tryz.func48 rfl Tryz_nm48 rfl) (Tryz_laws_markRec (by assumption) (H52.mine 8 rfl) (H52.nodup1 (i := 8) rfl) (by constructor <;> omega)) (fun v15 w25 r15 => ?_))))))
         obtain ⟨rfl, mx2, mm2, ml2⟩ := r15
         obtain ⟨fp10, H53⟩ := H52.mut 8 rfl mm2
         try dsimp only [lNA, lCA, lSZ, lSS] at H53
         refine sA rfl rfl (s_nil (W_seq (W_sr (sM rfl rfl (sV rfl (py_lss rfl rfl) (sM rfl rfl (s_grp 4 (j := 2) (want := false) (t := 66) rfl rfl rfl rfl (fun hg1 kk1 => s_val (wgE rfl rfl rfl hg1) rfl rfl (py_loadS tu66 rfl ts66 rfl rfl (At.whole (H53.box 11 rfl))) (s_val (wgE rfl rfl rfl hg1) rfl rfl (py_loadS tu66 rfl ts66 rfl rfl (At.whole (H53.box 5 rfl))) (s_callv (wgE rfl rfl rfl hg1) rfl rfl (pc_call Tryz.func46 rfl Tryz_nm46 rfl) (Tryz_laws_eqWorldResult (by assumption) (WldResult.see10 (H53.mine 10 rfl)) (WldResult.see11 (H53.mine 10 rfl)) (WldResult.see12 (H53.mine 10 rfl)) (by assumption) (H53.sees 15 rfl) (H53.sees 16 rfl) (H53.sees 17 rfl)) (fun w27 e27 => s_val (wgE rfl rfl rfl hg1) rfl rfl (py_not rfl) (kk1 _ _ (kx rfl (kx rfl (kx rfl (kx rfl k0)))) rfl (Ext.refl.trans e27)))))) (fun w26 e26 => ?_))))))))
         have H54 := H53.to e26
         refine sV rfl (py_bor rfl rfl) (s_nil (W_if rfl (fun c6 => ?_) (fun c6 => ?_)))
         ·exact absurd c6 (by simp; omega)
         ·refine W_skip (W_sr (sA rfl rfl (s_nil (W_sr (sV rfl (py_loadS tu66 rfl ts66 rfl rfl (At.whole (H54.box 11 rfl))) (sM rfl rfl (s_call (wn rfl) rfl rfl (pc_call Tryz.func49 rfl Tryz_nm49 rfl) (Tryz_laws_markWorldResult (H54.mine 10 rfl) (H54.nodup1 (i := 10) rfl) (by constructor <;> omega)) (fun v16 w28 r16 => ?_))))))))
          obtain ⟨rfl, mx3, mm3, ml3⟩ := r16
          obtain ⟨fp11, H55⟩ := H54.mut 10 rfl mm3
          try dsimp only [lNA, lCA, lSZ, lSS] at H55
          refine sA rfl rfl (s_nil (W_sr (sA rfl rfl (s_nil (W_sr (sV rfl (py_loadS tu66 rfl ts66 rfl rfl (At.whole (H55.box 11 rfl))) (sM rfl rfl (s_call (wn rfl) rfl rfl (pc_call Tryz.func50 rfl Tryz_nm50 rfl) (Tryz_laws_heldWorldResult (x := mx3) (wr_see (H55.mine 10 rfl)).1 (wr_see (H55.mine 10 rfl)).2.1 (wr_see (H55.mine 10 rfl)).2.2 (by have := ml3.2.2.2.1; constructor <;> omega) ml3.2.2.2.2.1) (fun v17 w29 r17 => ?_)))))))))
          obtain ⟨e29, rfl⟩ := r17
          have H56 := H55.to e29
          refine sA rfl rfl (s_nil (W_seq (W_seq ?_)))
          have hq := ml3.2.2.2.1
          refine W_reg (sM rfl rfl (sV rfl (py_lss rfl rfl) (s_nil (W_ifd rfl (fun c7 => ?_) (fun c7 => ?_)))))
          ·exact absurd c7 (by omega)
          ·refine W_skip (W_seq (W_sr (sM rfl rfl (sM rfl rfl (sV rfl (py_neq rfl rfl) (s_nil (W_ifd rfl (fun c8 => ?_) (fun c8 => ?_))))))))
           ·exact absurd c8 (by omega)
           ·refine W_skip (W_seq (W_drw (S := Ext No _) [(0, true), (2, true), (3, true), (1014, false), (1, false), (1008, false), (4, false), (1003, false), (5, false), (6, false), (7, false), (6, false), (5, false), (7, false), (6, false), (4, false), (5, false), (7, false), (6, false), (1, false), (4, false), (5, false), (7, false)] (by kernel_rfl) (by kernel_rfl) (by kernel_rfl) rfl (fun _ => Ext.refl.drawn _) (fun q4 => ?_)))
            have H57 := H56.drawn q4
            refine dV rfl rfl (fun zw hx => py_loadS tu28 rfl ts28 rfl rfl (At.whole (hx.heap (H57.box 0 rfl)))) (dM rfl rfl rfl (dV rfl rfl (fun zw hx => py_loadS tu63 rfl ts63 rfl rfl (At.whole (hx.heap (H57.box 1 rfl)))) (d_fork (l1 := [(1, false), (1008, false), (4, false), (1003, false), (5, false), (6, false), (7, false), (6, false), (5, false), (7, false), (6, false), (4, false), (5, false), (7, false)]) (l2 := [(6, false), (1, false), (4, false), (5, false), (7, false)]) rfl rfl rfl rfl ?_ ?_)))
            ·refine d_call rfl (wn rfl) rfl rfl (pc_call Tryz.func17 rfl Tryz_nm17 rfl) (Tryz_laws_toWorld (by assumption) (H57.sees 0 rfl) (H57.sees 1 rfl) (H57.sees 2 rfl) (by assumption)) (fun hS _ _ r _ => hS.trans r.1.no) (fun v18 w30 r18 => ?_)
             obtain ⟨e30, sa25, sk25, sa26, sk26, sa27, sk27, rfl, r18⟩ := r18
             obtain ⟨fp12, H58⟩ := H57.res e30 r18
             have H59 := H58.share 14 rfl
             obtain ⟨sf16, sf17, sf18, sq6, sok6, so16, so17, so18⟩ := own_WldC (H59.seen 26 rfl)
             have H61 := H59.look1 26 rfl so16 (fun b hb => by rw [sq6]; simp [hb])
             have H62 := H61.look1 26 rfl so17 (fun b hb => by rw [sq6]; simp [hb])
             have H63 := H62.look1 26 rfl so18 (fun b hb => by rw [sq6]; simp [hb])
             refine d_fork (l1 := [(4, false), (1003, false), (5, false), (6, false), (7, false), (6, false), (5, false), (7, false)]) (l2 := [(6, false), (4, false), (5, false), (7, false)]) rfl rfl rfl rfl ?_ ?_
             ·refine d_call rfl (wn rfl) rfl rfl (pc_call Tryz.func44 rfl Tryz_nm44 rfl) (Tryz_laws_toRec (by assumption) (H63.sees 3 rfl) (H63.sees 4 rfl) (H63.sees 5 rfl) (by assumption)) (fun hS _ _ r _ => hS.trans r.1.no) (fun v19 w31 r19 => ?_)
              obtain ⟨e31, sa28, sk28, sa29, sk29, sa30, sk30, rfl, r19⟩ := r19
              obtain ⟨fp13, H64⟩ := H63.res e31 r19
              have H65 := H64.share 15 rfl
              obtain ⟨sf19, sf20, sf21, sq7, sok7, so19, so20, so21⟩ := own_RecC (H65.seen 30 rfl)
              have H67 := H65.look1 30 rfl so19 (fun b hb => by rw [sq7]; simp [hb])
              have H68 := H67.look1 30 rfl so20 (fun b hb => by rw [sq7]; simp [hb])
              have H69 := H68.look1 30 rfl so21 (fun b hb => by rw [sq7]; simp [hb])
              refine d_fork (l1 := [(5, false), (6, false), (7, false)]) (l2 := [(6, false), (5, false), (7, false)]) rfl rfl rfl rfl ?_ ?_
              ·refine d_call rfl (wn rfl) rfl rfl (pc_call Tryz.func45 rfl Tryz_nm45 rfl) (Tryz_impl_RedoMove (by assumption) (H69.sees 27 rfl) (H69.sees 28 rfl) (H69.sees 29 rfl) (by assumption) (H69.sees 31 rfl) (H69.sees 32 rfl) (H69.sees 33 rfl) (by first | assumption | omega)) (fun hS _ _ r _ => hS.trans r.1.no) (fun v20 w32 r20 => ?_)
               obtain ⟨e32, sa31, sk31, sa32, sk32, sa33, sk33, rfl, r20⟩ := r20
               obtain ⟨fp14, H70⟩ := H69.res e32 r20
               have H71 := H70.share 16 rfl
               obtain ⟨sf22, sf23, sf24, sq8, sok8, so22, so23, so24⟩ := own_WldResultC (H71.seen 34 rfl)
               have H73 := H71.look1 34 rfl so22 (fun b hb => by rw [sq8]; simp [hb])
               have H74 := H73.look1 34 rfl so23 (fun b hb => by rw [sq8]; simp [hb])
               have H75 := H74.look1 34 rfl so24 (fun b hb => by rw [sq8]; simp [hb])
               refine d_var rfl (wn rfl) rfl Tryz.zeroValue66 H75 (fun _ h e => h.trans e.no) (fun b7 w33 e33 g7 H76 => ?_)
               refine d_stoS rfl (wn rfl) ts66 rfl rfl rfl rfl H76 17 rfl rfl (fun _ _ _ hr => absurd rfl hr) (fun w34 e34 H77 => ?_)
               dsimp only [lNA, lCA, lSZ, lSS, layL] at H77
               refine d_nil (W_seq (W_sr (sV rfl (py_loadS tu66 rfl ts66 rfl rfl (At.whole (H77.box 17 rfl))) (sV rfl (py_loadS tu66 rfl ts66 rfl rfl (At.whole (H77.box 5 rfl))) (s_call (wn rfl) rfl rfl (pc_call Tryz.func46 rfl Tryz_nm46 rfl) (Tryz_laws_eqWorldResult (by assumption) (H77.sees 35 rfl) (H77.sees 36 rfl) (H77.sees 37 rfl) (by assumption) (H77.sees 15 rfl) (H77.sees 16 rfl) (H77.sees 17 rfl)) (fun v21 w35 r21 => ?_))))))
               obtain ⟨e35, rfl⟩ := r21
               have H78 := H77.to e35
               refine sV rfl (py_not rfl) (s_nil (W_if rfl (fun c9 => ?_) (fun c9 => ?_)))
               ·exfalso; simp_all
               ·refine W_skip (W_sr (sA rfl rfl (s_nil (W_sr (sV rfl (py_loadS tu66 rfl ts66 rfl rfl (At.whole (H78.box 11 rfl))) (sM rfl rfl (s_call (wn rfl) rfl rfl (pc_call Tryz.func50 rfl Tryz_nm50 rfl) (Tryz_laws_heldWorldResult (x := mx3) (wr_see (H78.mine 10 rfl)).1 (wr_see (H78.mine 10 rfl)).2.1 (wr_see (H78.mine 10 rfl)).2.2 (by have := ml3.2.2.2.1; constructor <;> omega) ml3.2.2.2.2.1) (fun v22 w36 r22 => ?_))))))))
                obtain ⟨e36, rfl⟩ := r22
                have H79 := H78.to e36
                refine sA rfl rfl (s_nil (W_seq (W_sr (sM rfl rfl (sV rfl (py_lss rfl rfl) (s_nil (W_ifd rfl (fun c10 => ?_) (fun c10 => ?_))))))))
                ·exact absurd c10 (by omega)
                ·refine W_skip (W_seq (W_sr (sM rfl rfl (sM rfl rfl (sV rfl (py_neq rfl rfl) (s_nil (W_ifd rfl (fun c11 => ?_) (fun c11 => ?_))))))))
                 ·exact absurd c11 (by omega)
                 ·refine W_skip (W_sr (sA rfl rfl (s_nil (rT hQ Tryz.results10 rfl ?_))))
                  exact ⟨H79.ext, rfl⟩
              ·refine d_var rfl (wn rfl) rfl Tryz.zeroValue66 H69 (fun _ h e => h.trans e.no) (fun b8 w37 e37 g8 H80 => ?_)
               refine d_call rfl (wn rfl) rfl rfl (pc_call Tryz.func45 rfl Tryz_nm45 rfl) (Tryz_impl_RedoMove (by assumption) (H80.sees 27 rfl) (H80.sees 28 rfl) (H80.sees 29 rfl) (by assumption) (H80.sees 31 rfl) (H80.sees 32 rfl) (H80.sees 33 rfl) (by first | assumption | omega)) (fun hS _ _ r _ => hS.trans r.1.no) (fun v23 w38 r23 => ?_)
               obtain ⟨e38, sa34, sk34, sa35, sk35, sa36, sk36, rfl, r23⟩ := r23
               obtain ⟨fp15, H81⟩ := H80.res e38 r23
               have H82 := H81.share 17 rfl
               obtain ⟨sf25, sf26, sf27, sq9, sok9, so25, so26, so27⟩ := own_WldResultC (H82.seen 34 rfl)
               have H84 := H82.look1 34 rfl so25 (fun b hb => by rw [sq9]; simp [hb])
               have H85 := H84.look1 34 rfl so26 (fun b hb => by rw [sq9]; simp [hb])
               have H86 := H85.look1 34 rfl so27 (fun b hb => by rw [sq9]; simp [hb])
               refine d_stoS rfl (wn rfl) ts66 rfl rfl rfl rfl H86 16 rfl rfl (fun _ _ _ hr => absurd rfl hr) (fun w39 e39 H87 => ?_)
               dsimp only [lNA, lCA, lSZ, lSS, layL] at H87
               refine d_nil (W_seq (W_sr (sV rfl (py_loadS tu66 rfl ts66 rfl rfl (At.whole (H87.box 16 rfl))) (sV rfl (py_loadS tu66 rfl ts66 rfl rfl (At.whole (H87.box 5 rfl))) (s_call (wn rfl) rfl rfl (pc_call Tryz.func46 rfl Tryz_nm46 rfl) (Tryz_laws_eqWorldResult (by assumption) (H87.sees 35 rfl) (H87.sees 36 rfl) (H87.sees 37 rfl) (by assumption) (H87.sees 15 rfl) (H87.sees 16 rfl) (H87.sees 17 rfl)) (fun v24 w40 r24 => ?_))))))
               obtain ⟨e40, rfl⟩ := r24
               have H88 := H87.to e40
               refine sV rfl (py_not rfl) (s_nil (W_if rfl (fun c12 => ?_) (fun c12 => ?_)))
               ·exfalso; simp_all
               ·refine W_skip (W_sr (sA rfl rfl (s_nil (W_sr (sV rfl (py_loadS tu66 rfl ts66 rfl rfl (At.whole (H88.box 11 rfl))) (sM rfl rfl (s_call (wn rfl) rfl rfl (pc_call Tryz.func50 rfl Tryz_nm50 rfl) (Tryz_laws_heldWorldResult (x := mx3) (wr_see (H88.mine 10 rfl)).1 (wr_see (H88.mine 10 rfl)).2.1 (wr_see (H88.mine 10 rfl)).2.2 (by have := ml3.2.2.2.1; constructor <;> omega) ml3.2.2.2.2.1) (fun v25 w41 r25 => ?_))))))))
                obtain ⟨e41, rfl⟩ := r25
                have H89 := H88.to e41
                refine sA rfl rfl (s_nil (W_seq (W_sr (sM rfl rfl (sV rfl (py_lss rfl rfl) (s_nil (W_ifd rfl (fun c13 => ?_) (fun c13 => ?_))))))))
                ·exact absurd c13 (by omega)
                ·refine W_skip (W_seq (W_sr (sM rfl rfl (sM rfl rfl (sV rfl (py_neq rfl rfl) (s_nil (W_ifd rfl (fun c14 => ?_) (fun c14 => ?_))))))))
                 ·exact absurd c14 (by omega)
                 ·refine W_skip (W_sr (sA rfl rfl (s_nil (rT hQ Tryz.results10 rfl ?_))))
                  exact ⟨H89.ext, rfl⟩
             ·refine d_var rfl (wn rfl) rfl Tryz.zeroValue66 H63 (fun _ h e => h.trans e.no) (fun b9 w42 e42 g9 H90 => ?_)
              refine d_call rfl (wn rfl) rfl rfl (pc_call Tryz.func44 rfl Tryz_nm44 rfl) (Tryz_laws_toRec (by assumption) (H90.sees 3 rfl) (H90.sees 4 rfl) (H90.sees 5 rfl) (by assumption)) (fun hS _ _ r _ => hS.trans r.1.no) (fun v26 w43 r26 => ?_)
              obtain ⟨e43, sa37, sk37, sa38, sk38, sa39, sk39, rfl, r26⟩ := r26
              obtain ⟨fp16, H91⟩ := H90.res e43 r26
              have H92 := H91.share 16 rfl
              obtain ⟨sf28, sf29, sf30, sq10, sok10, so28, so29, so30⟩ := own_RecC (H92.seen 30 rfl)
              have H94 := H92.look1 30 rfl so28 (fun b hb => by rw [sq10]; simp [hb])
              have H95 := H94.look1 30 rfl so29 (fun b hb => by rw [sq10]; simp [hb])
              have H96 := H95.look1 30 rfl so30 (fun b hb => by rw [sq10]; simp [hb])
              refine d_call rfl (wn rfl) rfl rfl (pc_call Tryz.func45 rfl Tryz_nm45 rfl) (Tryz_impl_RedoMove (by assumption) (H96.sees 27 rfl) (H96.sees 28 rfl) (H96.sees 29 rfl) (by assumption) (H96.sees 31 rfl) (H96.sees 32 rfl) (H96.sees 33 rfl) (by first | assumption | omega)) (fun hS _ _ r _ => hS.trans r.1.no) (fun v27 w44 r27 => ?_)
              obtain ⟨e44, sa40, sk40, sa41, sk41, sa42, sk42, rfl, r27⟩ := r27
              obtain ⟨fp17, H97⟩ := H96.res e44 r27
              have H98 := H97.share 17 rfl
              obtain ⟨sf31, sf32, sf33, sq11, sok11, so31, so32, so33⟩ := own_WldResultC (H98.seen 34 rfl)
              have H100 := H98.look1 34 rfl so31 (fun b hb => by rw [sq11]; simp [hb])
              have H101 := H100.look1 34 rfl so32 (fun b hb => by rw [sq11]; simp [hb])
              have H102 := H101.look1 34 rfl so33 (fun b hb => by rw [sq11]; simp [hb])
              refine d_stoS rfl (wn rfl) ts66 rfl rfl rfl rfl H102 15 rfl rfl (fun _ _ _ hr => absurd rfl hr) (fun w45 e45 H103 => ?_)
              dsimp only [lNA, lCA, lSZ, lSS, layL] at H103
              refine d_nil (W_seq (W_sr (sV rfl (py_loadS tu66 rfl ts66 rfl rfl (At.whole (H103.box 15 rfl))) (sV rfl (py_loadS tu66 rfl ts66 rfl rfl (At.whole (H103.box 5 rfl))) (s_call (wn rfl) rfl rfl (pc_call Tryz.func46 rfl Tryz_nm46 rfl) (Tryz_laws_eqWorldResult (by assumption) (H103.sees 35 rfl) (H103.sees 36 rfl) (H103.sees 37 rfl) (by assumption) (H103.sees 15 rfl) (H103.sees 16 rfl) (H103.sees 17 rfl)) (fun v28 w46 r28 => ?_))))))
              obtain ⟨e46, rfl⟩ := r28
              have H104 := H103.to e46
              refine sV rfl (py_not rfl) (s_nil (W_if rfl (fun c15 => ?_) (fun c15 => ?_)))
              ·exfalso; simp_all
              ·refine W_skip (W_sr (sA rfl rfl (s_nil (W_sr (sV rfl (py_loadS tu66 rfl ts66 rfl rfl (At.whole (H104.box 11 rfl))) (sM rfl rfl (s_call (wn rfl) rfl rfl (pc_call Tryz.func50 rfl Tryz_nm50 rfl) (Tryz_laws_heldWorldResult (x := mx3) (wr_see (H104.mine 10 rfl)).1 (wr_see (H104.mine 10 rfl)).2.1 (wr_see (H104.mine 10 rfl)).2.2 (by have := ml3.2.2.2.1; constructor <;> omega) ml3.2.2.2.2.1) (fun v29 w47 r29 => ?_))))))))
               obtain ⟨e47, rfl⟩ := r29
               have H105 := H104.to e47
               refine sA rfl rfl (s_nil (W_seq (W_sr (sM rfl rfl (sV rfl (py_lss rfl rfl) (s_nil (W_ifd rfl (fun c16 => ?_) (fun c16 => ?_))))))))
               ·exact absurd c16 (by omega)
               ·refine W_skip (W_seq (W_sr (sM rfl rfl (sM rfl rfl (sV rfl (py_neq rfl rfl) (s_nil (W_ifd rfl (fun c17 => ?_) (fun c17 => ?_))))))))
                ·exact absurd c17 (by omega)
                ·refine W_skip (W_sr (sA rfl rfl (s_nil (rT hQ Tryz.results10 rfl ?_))))
                 exact ⟨H105.ext, rfl⟩
            ·refine d_var rfl (wn rfl) rfl Tryz.zeroValue66 H57 (fun _ h e => h.trans e.no) (fun b10 w48 e48 g10 H106 => ?_)
             refine d_call rfl (wn rfl) rfl rfl (pc_call Tryz.func17 rfl Tryz_nm17 rfl) (Tryz_laws_toWorld (by assumption) (H106.sees 0 rfl) (H106.sees 1 rfl) (H106.sees 2 rfl) (by assumption)) (fun hS _ _ r _ => hS.trans r.1.no) (fun v30 w49 r30 => ?_)
             obtain ⟨e49, sa43, sk43, sa44, sk44, sa45, sk45, rfl, r30⟩ := r30
             obtain ⟨fp18, H107⟩ := H106.res e49 r30
             have H108 := H107.share 15 rfl
             obtain ⟨sf34, sf35, sf36, sq12, sok12, so34, so35, so36⟩ := own_WldC (H108.seen 26 rfl)
             have H110 := H108.look1 26 rfl so34 (fun b hb => by rw [sq12]; simp [hb])
             have H111 := H110.look1 26 rfl so35 (fun b hb => by rw [sq12]; simp [hb])
             have H112 := H111.look1 26 rfl so36 (fun b hb => by rw [sq12]; simp [hb])
             refine d_call rfl (wn rfl) rfl rfl (pc_call Tryz.func44 rfl Tryz_nm44 rfl) (Tryz_laws_toRec (by assumption) (H112.sees 3 rfl) (H112.sees 4 rfl) (H112.sees 5 rfl) (by assumption)) (fun hS _ _ r _ => hS.trans r.1.no) (fun v31 w50 r31 => ?_)
             obtain ⟨e50, sa46, sk46, sa47, sk47, sa48, sk48, rfl, r31⟩ := r31
             obtain ⟨fp19, H113⟩ := H112.res e50 r31
             have H114 := H113.share 16 rfl
             obtain ⟨sf37, sf38, sf39, sq13, sok13, so37, so38, so39⟩ := own_RecC (H114.seen 30 rfl)
             have H116 := H114.look1 30 rfl so37 (fun b hb => by rw [sq13]; simp [hb])
             have H117 := H116.look1 30 rfl so38 (fun b hb => by rw [sq13]; simp [hb])
             have H118 := H117.look1 30 rfl so39 (fun b hb => by rw [sq13]; simp [hb])
             refine d_call rfl (wn rfl) rfl rfl (pc_call Tryz.func45 rfl Tryz_nm45 rfl) (Tryz_impl_RedoMove (by assumption) (H118.sees 27 rfl) (H118.sees 28 rfl) (H118.sees 29 rfl) (by assumption) (H118.sees 31 rfl) (H118.sees 32 rfl) (H118.sees 33 rfl) (by first | assumption | omega)) (fun hS _ _ r _ => hS.trans r.1.no) (fun v32 w51 r32 => ?_)
             obtain ⟨e51, sa49, sk49, sa50, sk50, sa51, sk51, rfl, r32⟩ := r32
             obtain ⟨fp20, H119⟩ := H118.res e51 r32
             have H120 := H119.share 17 rfl
             obtain ⟨sf40, sf41, sf42, sq14, sok14, so40, so41, so42⟩ := own_WldResultC (H120.seen 34 rfl)
             have H122 := H120.look1 34 rfl so40 (fun b hb => by rw [sq14]; simp [hb])
             have H123 := H122.look1 34 rfl so41 (fun b hb => by rw [sq14]; simp [hb])
             have H124 := H123.look1 34 rfl so42 (fun b hb => by rw [sq14]; simp [hb])
             refine d_stoS rfl (wn rfl) ts66 rfl rfl rfl rfl H124 14 rfl rfl (fun _ _ _ hr => absurd rfl hr) (fun w52 e52 H125 => ?_)
             dsimp only [lNA, lCA, lSZ, lSS, layL] at H125
             refine d_nil (W_seq (W_sr (sV rfl (py_loadS tu66 rfl ts66 rfl rfl (At.whole (H125.box 14 rfl))) (sV rfl (py_loadS tu66 rfl ts66 rfl rfl (At.whole (H125.box 5 rfl))) (s_call (wn rfl) rfl rfl (pc_call Tryz.func46 rfl Tryz_nm46 rfl) (Tryz_laws_eqWorldResult (by assumption) (H125.sees 35 rfl) (H125.sees 36 rfl) (H125.sees 37 rfl) (by assumption) (H125.sees 15 rfl) (H125.sees 16 rfl) (H125.sees 17 rfl)) (fun v33 w53 r33 => ?_))))))
             obtain ⟨e53, rfl⟩ := r33
             have H126 := H125.to e53
             refine sV rfl (py_not rfl) (s_nil (W_if rfl (fun c18 => ?_) (fun c18 => ?_)))
             ·exfalso; simp_all
             ·refine W_skip (W_sr (sA rfl rfl (s_nil (W_sr (sV rfl (py_loadS tu66 rfl ts66 rfl rfl (At.whole (H126.box 11 rfl))) (sM rfl rfl (s_call (wn rfl) rfl rfl (pc_call Tryz.func50 rfl Tryz_nm50 rfl) (Tryz_laws_heldWorldResult (x := mx3) (wr_see (H126.mine 10 rfl)).1 (wr_see (H126.mine 10 rfl)).2.1 (wr_see (H126.mine 10 rfl)).2.2 (by have := ml3.2.2.2.1; constructor <;> omega) ml3.2.2.2.2.1) (fun v34 w54 r34 => ?_))))))))
              obtain ⟨e54, rfl⟩ := r34
              have H127 := H126.to e54
              refine sA rfl rfl (s_nil (W_seq (W_sr (sM rfl rfl (sV rfl (py_lss rfl rfl) (s_nil (W_ifd rfl (fun c19 => ?_) (fun c19 => ?_))))))))
              ·exact absurd c19 (by omega)
              ·refine W_skip (W_seq (W_sr (sM rfl rfl (sM rfl rfl (sV rfl (py_neq rfl rfl) (s_nil (W_ifd rfl (fun c20 => ?_) (fun c20 => ?_))))))))
               ·exact absurd c20 (by omega)
               ·refine W_skip (W_sr (sA rfl rfl (s_nil (rT hQ Tryz.results10 rfl ?_))))
                exact ⟨H127.ext, rfl⟩
     ·refine d_var rfl (wn rfl) rfl Tryz.zeroValue66 H17 (fun _ h e => h.trans e.no) (fun b11 w55 e55 g11 H128 => ?_)
      refine d_call rfl (wn rfl) rfl rfl (pc_call Tryz.func43 rfl Tryz_nm43 rfl) (Tryz_spec_RedoMove (by assumption) (H128.sees 7 rfl) (H128.sees 8 rfl) (H128.sees 9 rfl) (by assumption) (H128.sees 11 rfl) (H128.sees 12 rfl) (H128.sees 13 rfl) (by first | assumption | omega)) (fun hS _ _ r _ => hS.trans r.1.no) (fun v35 w56 r35 => ?_)
      obtain ⟨e56, sa52, sk52, sa53, sk53, sa54, sk54, rfl, r35⟩ := r35
      obtain ⟨fp21, H129⟩ := H128.res e56 r35
      have H130 := H129.share 5 rfl
      obtain ⟨sf43, sf44, sf45, sq15, sok15, so43, so44, so45⟩ := own_WldResultC (H130.seen 14 rfl)
      have H132 := H130.look1 14 rfl so43 (fun b hb => by rw [sq15]; simp [hb])
      have H133 := H132.look1 14 rfl so44 (fun b hb => by rw [sq15]; simp [hb])
      have H134 := H133.look1 14 rfl so45 (fun b hb => by rw [sq15]; simp [hb])
      refine d_stoS rfl (wn rfl) ts66 rfl rfl rfl rfl H134 4 rfl rfl (fun _ _ _ hr => absurd rfl hr) (fun w57 e57 H135 => ?_)
      dsimp only [lNA, lCA, lSZ, lSS, layL] at H135
      refine d_nil (W_sr (sV rfl (py_loadS tu28 rfl ts28 rfl rfl (At.whole (H135.box 0 rfl))) (s_call (wn rfl) rfl rfl (pc_call Tryz.func17 rfl Tryz_nm17 rfl) (Tryz_laws_toWorld (by assumption) (H135.sees 0 rfl) (H135.sees 1 rfl) (H135.sees 2 rfl) (by assumption)) (fun v36 w58 r36 => ?_))))
      obtain ⟨e58, sa55, sk55, sa56, sk56, sa57, sk57, rfl, r36⟩ := r36
      obtain ⟨fp22, H136⟩ := H135.res e58 r36
      refine s_var (wn rfl) rfl Tryz.zeroValue38 H136 (fun b12 w59 e59 g12 H137 => ?_)
      refine s_stoS (wn rfl) ts38 rfl rfl rfl rfl H137 7 rfl rfl (fun w60 e60 H138 => ?_)
      dsimp only [lNA, lCA, lSZ, lSS, layL] at H138
      refine s_nil (W_sr (sV rfl (py_loadS tu63 rfl ts63 rfl rfl (At.whole (H138.box 1 rfl))) (s_call (wn rfl) rfl rfl (pc_call Tryz.func44 rfl Tryz_nm44 rfl) (Tryz_laws_toRec (by assumption) (H138.sees 3 rfl) (H138.sees 4 rfl) (H138.sees 5 rfl) (by assumption)) (fun v37 w61 r37 => ?_))))
      obtain ⟨e61, sa58, sk58, sa59, sk59, sa60, sk60, rfl, r37⟩ := r37
      obtain ⟨fp23, H139⟩ := H138.res e61 r37
      refine s_var (wn rfl) rfl Tryz.zeroValue68 H139 (fun b13 w62 e62 g13 H140 => ?_)
      refine s_stoS (wn rfl) ts68 rfl rfl rfl rfl H140 9 rfl rfl (fun w63 e63 H141 => ?_)
      dsimp only [lNA, lCA, lSZ, lSS, layL] at H141
      refine s_nil (W_sr (sV rfl (py_loadS tu38 rfl ts38 rfl rfl (At.whole (H141.box 7 rfl))) (sM rfl rfl (sV rfl (py_loadS tu68 rfl ts68 rfl rfl (At.whole (H141.box 9 rfl))) (s_call (wn rfl) rfl rfl (pc_call Tryz.func45 rfl Tryz_nm45 rfl) (Tryz_impl_RedoMove (by assumption) (Wld.see9 (H141.mine 6 rfl)) (Wld.see10 (H141.mine 6 rfl)) (Wld.see11 (H141.mine 6 rfl)) (by assumption) (Rec.see6 (H141.mine 8 rfl)) (Rec.see7 (H141.mine 8 rfl)) (Rec.see8 (H141.mine 8 rfl)) (by first | assumption | omega)) (fun v38 w64 r38 => ?_))))))
      obtain ⟨e64, sa61, sk61, sa62, sk62, sa63, sk63, rfl, r38⟩ := r38
      obtain ⟨fp24, H142⟩ := H141.res e64 r38
      refine s_var (wn rfl) rfl Tryz.zeroValue66 H142 (fun b14 w65 e65 g14 H143 => ?_)
      refine s_stoS (wn rfl) ts66 rfl rfl rfl rfl H143 11 rfl rfl (fun w66 e66 H144 => ?_)
      dsimp only [lNA, lCA, lSZ, lSS, layL] at H144
      refine s_nil (W_seq (W_sr (sV rfl (py_loadS tu66 rfl ts66 rfl rfl (At.whole (H144.box 11 rfl))) (sV rfl (py_loadS tu66 rfl ts66 rfl rfl (At.whole (H144.box 4 rfl))) (s_call (wn rfl) rfl rfl (pc_call Tryz.func46 rfl Tryz_nm46 rfl) (Tryz_laws_eqWorldResult (by assumption) (WldResult.see10 (H144.mine 10 rfl)) (WldResult.see11 (H144.mine 10 rfl)) (WldResult.see12 (H144.mine 10 rfl)) (by assumption) (H144.sees 15 rfl) (H144.sees 16 rfl) (H144.sees 17 rfl)) (fun v39 w67 r39 => ?_))))))
      obtain ⟨e67, rfl⟩ := r39
      have H145 := H144.to e67
      refine sV rfl (py_not rfl) (s_nil (W_if rfl (fun c21 => ?_) (fun c21 => ?_)))
      ·exfalso; simp_all
      ·refine W_skip (W_seq (W_seq (W_drw (S := Ext No _) [(0, true), (1, true), (2, false), (3, false), (4, false)] (by kernel_rfl) (by kernel_rfl) (by kernel_rfl) rfl (fun _ => Ext.refl.drawn _) (fun q5 => ?_))))
       have H146 := H145.drawn q5
       refine dV rfl rfl (fun zw hx => py_loadS tu38 rfl ts38 rfl rfl (At.whole (hx.heap (H146.box 7 rfl)))) (dV rfl rfl (fun zw hx => py_loadS tu28 rfl ts28 rfl rfl (At.whole (hx.heap (H146.box 0 rfl)))) (d_call rfl (wn rfl) rfl rfl (pc_call Tryz.func17 rfl Tryz_nm17 rfl) (Tryz_laws_toWorld (by assumption) (H146.sees 0 rfl) (H146.sees 1 rfl) (H146.sees 2 rfl) (by assumption)) (fun hS _ _ r _ => hS.trans r.1.no) (fun v40 w68 r40 => ?_)))
       obtain ⟨e68, sa64, sk64, sa65, sk65, sa66, sk66, rfl, r40⟩ := r40
       obtain ⟨fp25, H147⟩ := H146.res e68 r40
       have H148 := H147.share 12 rfl
       obtain ⟨sf46, sf47, sf48, sq16, sok16, so46, so47, so48⟩ := own_WldC (H148.seen 18 rfl)
       have H150 := H148.look1 18 rfl so46 (fun b hb => by rw [sq16]; simp [hb])
       have H151 := H150.look1 18 rfl so47 (fun b hb => by rw [sq16]; simp [hb])
       have H152 := H151.look1 18 rfl so48 (fun b hb => by rw [sq16]; simp [hb])
       refine d_call rfl (wn rfl) rfl rfl (pc_call Tryz.func20 rfl Tryz_nm20 rfl) (Tryz_laws_eqWorld (by assumption) (Wld.see9 (H152.mine 6 rfl)) (Wld.see10 (H152.mine 6 rfl)) (Wld.see11 (H152.mine 6 rfl)) (by assumption) (H152.sees 19 rfl) (H152.sees 20 rfl) (H152.sees 21 rfl)) (fun hS _ _ r _ => hS.trans r.1.no) (fun v41 w69 r41 => ?_)
       obtain ⟨e69, rfl⟩ := r41
       have H153 := H152.to e69
       refine d_end rfl (wn rfl) rfl rfl (py_not rfl) (d_nil (W_if rfl (fun c22 => ?_) (fun c22 => ?_)))
       ·exfalso; simp_all
       ·refine W_skip (W_seq (W_seq (W_drw (S := Ext No _) [(0, true), (1, true), (2, false), (3, false), (4, false)] (by kernel_rfl) (by kernel_rfl) (by kernel_rfl) rfl (fun _ => Ext.refl.drawn _) (fun q6 => ?_))))
        have H154 := H153.drawn q6
        refine dV rfl rfl (fun zw hx => py_loadS tu68 rfl ts68 rfl rfl (At.whole (hx.heap (H154.box 9 rfl)))) (dV rfl rfl (fun zw hx => py_loadS tu63 rfl ts63 rfl rfl (At.whole (hx.heap (H154.box 1 rfl)))) (d_call rfl (wn rfl) rfl rfl (pc_call Tryz.func44 rfl Tryz_nm44 rfl) (Tryz_laws_toRec (by assumption) (H154.sees 3 rfl) (H154.sees 4 rfl) (H154.sees 5 rfl) (by assumption)) (fun hS _ _ r _ => hS.trans r.1.no) (fun v42 w70 r42 => ?_)))
        obtain ⟨e70, sa67, sk67, sa68, sk68, sa69, sk69, rfl, r42⟩ := r42
        obtain ⟨fp26, H155⟩ := H154.res e70 r42
        have H156 := H155.share 13 rfl
        obtain ⟨sf49, sf50, sf51, sq17, sok17, so49, so50, so51⟩ := own_RecC (H156.seen 22 rfl)
        have H158 := H156.look1 22 rfl so49 (fun b hb => by rw [sq17]; simp [hb])
        have H159 := H158.look1 22 rfl so50 (fun b hb => by rw [sq17]; simp [hb])
        have H160 := H159.look1 22 rfl so51 (fun b hb => by rw [sq17]; simp [hb])
        refine d_call rfl (wn rfl) rfl rfl (pc_call Tryz.func47 rfl Tryz_nm47 rfl) (Tryz_laws_eqRec (by assumption) (Rec.see6 (H160.mine 8 rfl)) (Rec.see7 (H160.mine 8 rfl)) (Rec.see8 (H160.mine 8 rfl)) (by assumption) (H160.sees 23 rfl) (H160.sees 24 rfl) (H160.sees 25 rfl)) (fun hS _ _ r _ => hS.trans r.1.no) (fun v43 w71 r43 => ?_)
        obtain ⟨e71, rfl⟩ := r43
        have H161 := H160.to e71
        refine d_end rfl (wn rfl) rfl rfl (py_not rfl) (d_nil (W_if rfl (fun c23 => ?_) (fun c23 => ?_)))
        ·exfalso; simp_all
        ·refine W_skip (W_sr (sA rfl rfl (s_nil (W_sr (sV rfl (py_loadS tu38 rfl ts38 rfl rfl (At.whole (H161.box 7 rfl))) (sM rfl rfl (s_call (wn rfl) rfl rfl (pc_call Tryz.func21 rfl Tryz_nm21 rfl) (Tryz_laws_markWorld (by assumption) (H161.mine 6 rfl) (H161.nodup1 (i := 6) rfl) (by constructor <;> omega)) (fun v44 w72 r44 => ?_))))))))
         obtain ⟨rfl, mx4, mm4, ml4⟩ := r44
         obtain ⟨fp27, H162⟩ := H161.mut 6 rfl mm4
         try dsimp only [lNA, lCA, lSZ, lSS] at H162
         refine sA rfl rfl (s_nil (W_sr (sV rfl (py_loadS tu68 rfl ts68 rfl rfl (At.whole (H162.box 9 rfl))) (sM rfl rfl (s_call (wn rfl) rfl rfl (pc_call Tryz.func48 rfl Tryz_nm48 rfl) (Tryz_laws_markRec (by assumption) (H162.mine 8 rfl) (H162.nodup1 (i := 8) rfl) (by constructor <;> omega)) (fun v45 w73 r45 => ?_))))))
         obtain ⟨rfl, mx5, mm5, ml5⟩ := r45
         obtain ⟨fp28, H163⟩ := H162.mut 8 rfl mm5
         try dsimp only [lNA, lCA, lSZ, lSS] at H163
         refine sA rfl rfl (s_nil (W_seq (W_sr (sM rfl rfl (sV rfl (py_lss rfl rfl) (sM rfl rfl (s_grp 4 (j := 2) (want := false) (t := 66) rfl rfl rfl rfl (fun hg2 kk2 => s_val (wgE rfl rfl rfl hg2) rfl rfl (py_loadS tu66 rfl ts66 rfl rfl (At.whole (H163.box 11 rfl))) (s_val (wgE rfl rfl rfl hg2) rfl rfl (py_loadS tu66 rfl ts66 rfl rfl (At.whole (H163.box 4 rfl))) (s_callv (wgE rfl rfl rfl hg2) rfl rfl (pc_call Tryz.func46 rfl Tryz_nm46 rfl) (Tryz_laws_eqWorldResult (by assumption) (WldResult.see10 (H163.mine 10 rfl)) (WldResult.see11 (H163.mine 10 rfl)) (WldResult.see12 (H163.mine 10 rfl)) (by assumption) (H163.sees 15 rfl) (H163.sees 16 rfl) (H163.sees 17 rfl)) (fun w75 e75 => s_val (wgE rfl rfl rfl hg2) rfl rfl (py_not rfl) (kk2 _ _ (kx rfl (kx rfl (kx rfl (kx rfl k0)))) rfl (Ext.refl.trans e75)))))) (fun w74 e74 => ?_))))))))
         have H164 := H163.to e74
         refine sV rfl (py_bor rfl rfl) (s_nil (W_if rfl (fun c24 => ?_) (fun c24 => ?_)))
         ·exact absurd c24 (by simp; omega)
         ·refine W_skip (W_sr (sA rfl rfl (s_nil (W_sr (sV rfl (py_loadS tu66 rfl ts66 rfl rfl (At.whole (H164.box 11 rfl))) (sM rfl rfl (s_call (wn rfl) rfl rfl (pc_call Tryz.func49 rfl Tryz_nm49 rfl) (Tryz_laws_markWorldResult (H164.mine 10 rfl) (H164.nodup1 (i := 10) rfl) (by constructor <;> omega)) (fun v46 w76 r46 => ?_))))))))
          obtain ⟨rfl, mx6, mm6, ml6⟩ := r46
          obtain ⟨fp29, H165⟩ := H164.mut 10 rfl mm6
          try dsimp only [lNA, lCA, lSZ, lSS] at H165
          refine sA rfl rfl (s_nil (W_sr (sA rfl rfl (s_nil (W_sr (sV rfl (py_loadS tu66 rfl ts66 rfl rfl (At.whole (H165.box 11 rfl))) (sM rfl rfl (s_call (wn rfl) rfl rfl (pc_call Tryz.func50 rfl Tryz_nm50 rfl) (Tryz_laws_heldWorldResult (x := mx6) (wr_see (H165.mine 10 rfl)).1 (wr_see (H165.mine 10 rfl)).2.1 (wr_see (H165.mine 10 rfl)).2.2 (by have := ml6.2.2.2.1; constructor <;> omega) ml6.2.2.2.2.1) (fun v47 w77 r47 => ?_)))))))))
          obtain ⟨e77, rfl⟩ := r47
          have H166 := H165.to e77
          refine sA rfl rfl (s_nil (W_seq (W_seq ?_)))
          have hq := ml6.2.2.2.1
          refine W_reg (sM rfl rfl (sV rfl (py_lss rfl rfl) (s_nil (W_ifd rfl (fun c25 => ?_) (fun c25 => ?_)))))
          ·exact absurd c25 (by omega)
          ·refine W_skip (W_seq (W_sr (sM rfl rfl (sM rfl rfl (sV rfl (py_neq rfl rfl) (s_nil (W_ifd rfl (fun c26 => ?_) (fun c26 => ?_))))))))
           ·exact absurd c26 (by omega)
           ·refine W_skip (W_seq (W_drw (S := Ext No _) [(0, true), (2, true), (3, true), (1014, false), (1, false), (1008, false), (4, false), (1003, false), (5, false), (6, false), (7, false), (6, false), (5, false), (7, false), (6, false), (4, false), (5, false), (7, false), (6, false), (1, false), (4, false), (5, false), (7, false)] (by kernel_rfl) (by kernel_rfl) (by kernel_rfl) rfl (fun _ => Ext.refl.drawn _) (fun q7 => ?_)))
            have H167 := H166.drawn q7
            refine dV rfl rfl (fun zw hx => py_loadS tu28 rfl ts28 rfl rfl (At.whole (hx.heap (H167.box 0 rfl)))) (dM rfl rfl rfl (dV rfl rfl (fun zw hx => py_loadS tu63 rfl ts63 rfl rfl (At.whole (hx.heap (H167.box 1 rfl)))) (d_fork (l1 := [(1, false), (1008, false), (4, false), (1003, false), (5, false), (6, false), (7, false), (6, false), (5, false), (7, false), (6, false), (4, false), (5, false), (7, false)]) (l2 := [(6, false), (1, false), (4, false), (5, false), (7, false)]) rfl rfl rfl rfl ?_ ?_)))
            ·refine d_call rfl (wn rfl) rfl rfl (pc_call Tryz.func17 rfl Tryz_nm17 rfl) (Tryz_laws_toWorld (by assumption) (H167.sees 0 rfl) (H167.sees 1 rfl) (H167.sees 2 rfl) (by assumption)) (fun hS _ _ r _ => hS.trans r.1.no) (fun v48 w78 r48 => ?_)
             obtain ⟨e78, sa70, sk70, sa71, sk71, sa72, sk72, rfl, r48⟩ := r48
             obtain ⟨fp30, H168⟩ := H167.res e78 r48
             have H169 := H168.share 14 rfl
             obtain ⟨sf52, sf53, sf54, sq18, sok18, so52, so53, so54⟩ := own_WldC (H169.seen 26 rfl)
             have H171 := H169.look1 26 rfl so52 (fun b hb => by rw [sq18]; simp [hb])
             have H172 := H171.look1 26 rfl so53 (fun b hb => by rw [sq18]; simp [hb])
             have H173 := H172.look1 26 rfl so54 (fun b hb => by rw [sq18]; simp [hb])
             refine d_fork (l1 := [(4, false), (1003, false), (5, false), (6, false), (7, false), (6, false), (5, false), (7, false)]) (l2 := [(6, false), (4, false), (5, false), (7, false)]) rfl rfl rfl rfl ?_ ?_
             ·refine d_call rfl (wn rfl) rfl rfl (pc_call Tryz.func44 rfl Tryz_nm44 rfl) (Tryz_laws_toRec (by assumption) (H173.sees 3 rfl) (H173.sees 4 rfl) (H173.sees 5 rfl) (by assumption)) (fun hS _ _ r _ => hS.trans r.1.no) (fun v49 w79 r49 => ?_)
              obtain ⟨e79, sa73, sk73, sa74, sk74, sa75, sk75, rfl, r49⟩ := r49
              obtain ⟨fp31, H174⟩ := H173.res e79 r49
              have H175 := H174.share 15 rfl
              obtain ⟨sf55, sf56, sf57, sq19, sok19, so55, so56, so57⟩ := own_RecC (H175.seen 30 rfl)
              have H177 := H175.look1 30 rfl so55 (fun b hb => by rw [sq19]; simp [hb])
              have H178 := H177.look1 30 rfl so56 (fun b hb => by rw [sq19]; simp [hb])
              have H179 := H178.look1 30 rfl so57 (fun b hb => by rw [sq19]; simp [hb])
              refine d_fork (l1 := [(5, false), (6, false), (7, false)]) (l2 := [(6, false), (5, false), (7, false)]) rfl rfl rfl rfl ?_ ?_
              ·refine d_call rfl (wn rfl) rfl rfl (pc_call Tryz.func45 rfl Tryz_nm45 rfl) (Tryz_impl_RedoMove (by assumption) (H179.sees 27 rfl) (H179.sees 28 rfl) (H179.sees 29 rfl) (by assumption) (H179.sees 31 rfl) (H179.sees 32 rfl) (H179.sees 33 rfl) (by first | assumption | omega)) (fun hS _ _ r _ => hS.trans r.1.no) (fun v50 w80 r50 => ?_)
               obtain ⟨e80, sa76, sk76, sa77, sk77, sa78, sk78, rfl, r50⟩ := r50
               obtain ⟨fp32, H180⟩ := H179.res e80 r50
               have H181 := H180.share 16 rfl
               obtain ⟨sf58, sf59, sf60, sq20, sok20, so58, so59, so60⟩ := own_WldResultC (H181.seen 34 rfl)
               have H183 := H181.look1 34 rfl so58 (fun b hb => by rw [sq20]; simp [hb])
               have H184 := H183.look1 34 rfl so59 (fun b hb => by rw [sq20]; simp [hb])
               have H185 := H184.look1 34 rfl so60 (fun b hb => by rw [sq20]; simp [hb])
               refine d_var rfl (wn rfl) rfl Tryz.zeroValue66 H185 (fun _ h e => h.trans e.no) (fun b15 w81 e81 g15 H186 => ?_)
               refine d_stoS rfl (wn rfl) ts66 rfl rfl rfl rfl H186 17 rfl rfl (fun _ _ _ hr => absurd rfl hr) (fun w82 e82 H187 => ?_)
               dsimp only [lNA, lCA, lSZ, lSS, layL] at H187
               refine d_nil (W_seq (W_sr (sV rfl (py_loadS tu66 rfl ts66 rfl rfl (At.whole (H187.box 17 rfl))) (sV rfl (py_loadS tu66 rfl ts66 rfl rfl (At.whole (H187.box 4 rfl))) (s_call (wn rfl) rfl rfl (pc_call Tryz.func46 rfl Tryz_nm46 rfl) (Tryz_laws_eqWorldResult (by assumption) (H187.sees 35 rfl) (H187.sees 36 rfl) (H187.sees 37 rfl) (by assumption) (H187.sees 15 rfl) (H187.sees 16 rfl) (H187.sees 17 rfl)) (fun v51 w83 r51 => ?_))))))
               obtain ⟨e83, rfl⟩ := r51
               have H188 := H187.to e83
               refine sV rfl (py_not rfl) (s_nil (W_if rfl (fun c27 => ?_) (fun c27 => ?_)))
               ·exfalso; simp_all
               ·refine W_skip (W_sr (sA rfl rfl (s_nil (W_sr (sV rfl (py_loadS tu66 rfl ts66 rfl rfl (At.whole (H188.box 11 rfl))) (sM rfl rfl (s_call (wn rfl) rfl rfl (pc_call Tryz.func50 rfl Tryz_nm50 rfl) (Tryz_laws_heldWorldResult (x := mx6) (wr_see (H188.mine 10 rfl)).1 (wr_see (H188.mine 10 rfl)).2.1 (wr_see (H188.mine 10 rfl)).2.2 (by have := ml6.2.2.2.1; constructor <;> omega) ml6.2.2.2.2.1) (fun v52 w84 r52 => ?_))))))))
                obtain ⟨e84, rfl⟩ := r52
                have H189 := H188.to e84
                refine sA rfl rfl (s_nil (W_seq (W_sr (sM rfl rfl (sV rfl (py_lss rfl rfl) (s_nil (W_ifd rfl (fun c28 => ?_) (fun c28 => ?_))))))))
                ·exact absurd c28 (by omega)
                ·refine W_skip (W_seq (W_sr (sM rfl rfl (sM rfl rfl (sV rfl (py_neq rfl rfl) (s_nil (W_ifd rfl (fun c29 => ?_) (fun c29 => ?_))))))))
                 ·exact absurd c29 (by omega)
                 ·refine W_skip (W_sr (sA rfl rfl (s_nil (rT hQ Tryz.results10 rfl ?_))))
                  exact ⟨H189.ext, rfl⟩
              ·refine d_var rfl (wn rfl) rfl Tryz.zeroValue66 H179 (fun _ h e => h.trans e.no) (fun b16 w85 e85 g16 H190 => ?_)
               refine d_call rfl (wn rfl) rfl rfl (pc_call Tryz.func45 rfl Tryz_nm45 rfl) (Tryz_impl_RedoMove (by assumption) (H190.sees 27 rfl) (H190.sees 28 rfl) (H190.sees 29 rfl) (by assumption) (H190.sees 31 rfl) (H190.sees 32 rfl) (H190.sees 33 rfl) (by first | assumption | omega)) (fun hS _ _ r _ => hS.trans r.1.no) (fun v53 w86 r53 => ?_)
               obtain ⟨e86, sa79, sk79, sa80, sk80, sa81, sk81, rfl, r53⟩ := r53
               obtain ⟨fp33, H191⟩ := H190.res e86 r53
               have H192 := H191.share 17 rfl
               obtain ⟨sf61, sf62, sf63, sq21, sok21, so61, so62, so63⟩ := own_WldResultC (H192.seen 34 rfl)
               have H194 := H192.look1 34 rfl so61 (fun b hb => by rw [sq21]; simp [hb])
               have H195 := H194.look1 34 rfl so62 (fun b hb => by rw [sq21]; simp [hb])
               have H196 := H195.look1 34 rfl so63 (fun b hb => by rw [sq21]; simp [hb])
               refine d_stoS rfl (wn rfl) ts66 rfl rfl rfl rfl H196 16 rfl rfl (fun _ _ _ hr => absurd rfl hr) (fun w87 e87 H197 => ?_)
               dsimp only [lNA, lCA, lSZ, lSS, layL] at H197
               refine d_nil (W_seq (W_sr (sV rfl (py_loadS tu66 rfl ts66 rfl rfl (At.whole (H197.box 16 rfl))) (sV rfl (py_loadS tu66 rfl ts66 rfl rfl (At.whole (H197.box 4 rfl))) (s_call (wn rfl) rfl rfl (pc_call Tryz.func46 rfl Tryz_nm46 rfl) (Tryz_laws_eqWorldResult (by assumption) (H197.sees 35 rfl) (H197.sees 36 rfl) (H197.sees 37 rfl) (by assumption) (H197.sees 15 rfl) (H197.sees 16 rfl) (H197.sees 17 rfl)) (fun v54 w88 r54 => ?_))))))
               obtain ⟨e88, rfl⟩ := r54
               have H198 := H197.to e88
               refine sV rfl (py_not rfl) (s_nil (W_if rfl (fun c30 => ?_) (fun c30 => ?_)))
               ·exfalso; simp_all
               ·refine W_skip (W_sr (sA rfl rfl (s_nil (W_sr (sV rfl (py_loadS tu66 rfl ts66 rfl rfl (At.whole (H198.box 11 rfl))) (sM rfl rfl (s_call (wn rfl) rfl rfl (pc_call Tryz.func50 rfl Tryz_nm50 rfl) (Tryz_laws_heldWorldResult (x := mx6) (wr_see (H198.mine 10 rfl)).1 (wr_see (H198.mine 10 rfl)).2.1 (wr_see (H198.mine 10 rfl)).2.2 (by have := ml6.2.2.2.1; constructor <;> omega) ml6.2.2.2.2.1) (fun v55 w89 r55 => ?_))))))))
                obtain ⟨e89, rfl⟩ := r55
                have H199 := H198.to e89
                refine sA rfl rfl (s_nil (W_seq (W_sr (sM rfl rfl (sV rfl (py_lss rfl rfl) (s_nil (W_ifd rfl (fun c31 => ?_) (fun c31 => ?_))))))))
                ·exact absurd c31 (by omega)
                ·refine W_skip (W_seq (W_sr (sM rfl rfl (sM rfl rfl (sV rfl (py_neq rfl rfl) (s_nil (W_ifd rfl (fun c32 => ?_) (fun c32 => ?_))))))))
                 ·exact absurd c32 (by omega)
                 ·refine W_skip (W_sr (sA rfl rfl (s_nil (rT hQ Tryz.results10 rfl ?_))))
                  exact ⟨H199.ext, rfl⟩
             ·refine d_var rfl (wn rfl) rfl Tryz.zeroValue66 H173 (fun _ h e => h.trans e.no) (fun b17 w90 e90 g17 H200 => ?_)
              refine d_call rfl (wn rfl) rfl rfl (pc_call Tryz.func44 rfl Tryz_nm44 rfl) (Tryz_laws_toRec (by assumption) (H200.sees 3 rfl) (H200.sees 4 rfl) (H200.sees 5 rfl) (by assumption)) (fun hS _ _ r _ => hS.trans r.1.no) (fun v56 w91 r56 => ?_)
              obtain ⟨e91, sa82, sk82, sa83, sk83, sa84, sk84, rfl, r56⟩ := r56
              obtain ⟨fp34, H201⟩ := H200.res e91 r56
              have H202 := H201.share 16 rfl
              obtain ⟨sf64, sf65, sf66, sq22, sok22, so64, so65, so66⟩ := own_RecC (H202.seen 30 rfl)
              have H204 := H202.look1 30 rfl so64 (fun b hb => by rw [sq22]; simp [hb])
              have H205 := H204.look1 30 rfl so65 (fun b hb => by rw [sq22]; simp [hb])
              have H206 := H205.look1 30 rfl so66 (fun b hb => by rw [sq22]; simp [hb])
              refine d_call rfl (wn rfl) rfl rfl (pc_call Tryz.func45 rfl Tryz_nm45 rfl) (Tryz_impl_RedoMove (by assumption) (H206.sees 27 rfl) (H206.sees 28 rfl) (H206.sees 29 rfl) (by assumption) (H206.sees 31 rfl) (H206.sees 32 rfl) (H206.sees 33 rfl) (by first | assumption | omega)) (fun hS _ _ r _ => hS.trans r.1.no) (fun v57 w92 r57 => ?_)
              obtain ⟨e92, sa85, sk85, sa86, sk86, sa87, sk87, rfl, r57⟩ := r57
              obtain ⟨fp35, H207⟩ := H206.res e92 r57
              have H208 := H207.share 17 rfl
              obtain ⟨sf67, sf68, sf69, sq23, sok23, so67, so68, so69⟩ := own_WldResultC (H208.seen 34 rfl)
              have H210 := H208.look1 34 rfl so67 (fun b hb => by rw [sq23]; simp [hb])
              have H211 := H210.look1 34 rfl so68 (fun b hb => by rw [sq23]; simp [hb])
              have H212 := H211.look1 34 rfl so69 (fun b hb => by rw [sq23]; simp [hb])
              refine d_stoS rfl (wn rfl) ts66 rfl rfl rfl rfl H212 15 rfl rfl (fun _ _ _ hr => absurd rfl hr) (fun w93 e93 H213 => ?_)
              dsimp only [lNA, lCA, lSZ, lSS, layL] at H213
              refine d_nil (W_seq (W_sr (sV rfl (py_loadS tu66 rfl ts66 rfl rfl (At.whole (H213.box 15 rfl))) (sV rfl (py_loadS tu66 rfl ts66 rfl rfl (At.whole (H213.box 4 rfl))) (s_call (wn rfl) rfl rfl (pc_call Tryz.func46 rfl Tryz_nm46 rfl) (Tryz_laws_eqWorldResult (by assumption) (H213.sees 35 rfl) (H213.sees 36 rfl) (H213.sees 37 rfl) (by assumption) (H213.sees 15 rfl) (H213.sees 16 rfl) (H213.sees 17 rfl)) (fun v58 w94 r58 => ?_))))))
              obtain ⟨e94, rfl⟩ := r58
              have H214 := H213.to e94
              refine sV rfl (py_not rfl) (s_nil (W_if rfl (fun c33 => ?_) (fun c33 => ?_)))
              ·exfalso; simp_all
              ·refine W_skip (W_sr (sA rfl rfl (s_nil (W_sr (sV rfl (py_loadS tu66 rfl ts66 rfl rfl (At.whole (H214.box 11 rfl))) (sM rfl rfl (s_call (wn rfl) rfl rfl (pc_call Tryz.func50 rfl Tryz_nm50 rfl) (Tryz_laws_heldWorldResult (x := mx6) (wr_see (H214.mine 10 rfl)).1 (wr_see (H214.mine 10 rfl)).2.1 (wr_see (H214.mine 10 rfl)).2.2 (by have := ml6.2.2.2.1; constructor <;> omega) ml6.2.2.2.2.1) (fun v59 w95 r59 => ?_))))))))
               obtain ⟨e95, rfl⟩ := r59
               have H215 := H214.to e95
               refine sA rfl rfl (s_nil (W_seq (W_sr (sM rfl rfl (sV rfl (py_lss rfl rfl) (s_nil (W_ifd rfl (fun c34 => ?_) (fun c34 => ?_))))))))
               ·exact absurd c34 (by omega)
               ·refine W_skip (W_seq (W_sr (sM rfl rfl (sM rfl rfl (sV rfl (py_neq rfl rfl) (s_nil (W_ifd rfl (fun c35 => ?_) (fun c35 => ?_))))))))
                ·exact absurd c35 (by omega)
                ·refine W_skip (W_sr (sA rfl rfl (s_nil (rT hQ Tryz.results10 rfl ?_))))
                 exact ⟨H215.ext, rfl⟩
            ·refine d_var rfl (wn rfl) rfl Tryz.zeroValue66 H167 (fun _ h e => h.trans e.no) (fun b18 w96 e96 g18 H216 => ?_)
             refine d_call rfl (wn rfl) rfl rfl (pc_call Tryz.func17 rfl Tryz_nm17 rfl) (Tryz_laws_toWorld (by assumption) (H216.sees 0 rfl) (H216.sees 1 rfl) (H216.sees 2 rfl) (by assumption)) (fun hS _ _ r _ => hS.trans r.1.no) (fun v60 w97 r60 => ?_)
             obtain ⟨e97, sa88, sk88, sa89, sk89, sa90, sk90, rfl, r60⟩ := r60
             obtain ⟨fp36, H217⟩ := H216.res e97 r60
             have H218 := H217.share 15 rfl
             obtain ⟨sf70, sf71, sf72, sq24, sok24, so70, so71, so72⟩ := own_WldC (H218.seen 26 rfl)
             have H220 := H218.look1 26 rfl so70 (fun b hb => by rw [sq24]; simp [hb])
             have H221 := H220.look1 26 rfl so71 (fun b hb => by rw [sq24]; simp [hb])
             have H222 := H221.look1 26 rfl so72 (fun b hb => by rw [sq24]; simp [hb])
             refine d_call rfl (wn rfl) rfl rfl (pc_call Tryz.func44 rfl Tryz_nm44 rfl) (Tryz_laws_toRec (by assumption) (H222.sees 3 rfl) (H222.sees 4 rfl) (H222.sees 5 rfl) (by assumption)) (fun hS _ _ r _ => hS.trans r.1.no) (fun v61 w98 r61 => ?_)
             obtain ⟨e98, sa91, sk91, sa92, sk92, sa93, sk93, rfl, r61⟩ := r61
             obtain ⟨fp37, H223⟩ := H222.res e98 r61
             have H224 := H223.share 16 rfl
             obtain ⟨sf73, sf74, sf75, sq25, sok25, so73, so74, so75⟩ := own_RecC (H224.seen 30 rfl)
             have H226 := H224.look1 30 rfl so73 (fun b hb => by rw [sq25]; simp [hb])
             have H227 := H226.look1 30 rfl so74 (fun b hb => by rw [sq25]; simp [hb])
             have H228 := H227.look1 30 rfl so75 (fun b hb => by rw [sq25]; simp [hb])
             refine d_call rfl (wn rfl) rfl rfl (pc_call Tryz.func45 rfl Tryz_nm45 rfl) (Tryz_impl_RedoMove (by assumption) (H228.sees 27 rfl) (H228.sees 28 rfl) (H228.sees 29 rfl) (by assumption) (H228.sees 31 rfl) (H228.sees 32 rfl) (H228.sees 33 rfl) (by first | assumption | omega)) (fun hS _ _ r _ => hS.trans r.1.no) (fun v62 w99 r62 => ?_)
             obtain ⟨e99, sa94, sk94, sa95, sk95, sa96, sk96, rfl, r62⟩ := r62
             obtain ⟨fp38, H229⟩ := H228.res e99 r62
             have H230 := H229.share 17 rfl
             obtain ⟨sf76, sf77, sf78, sq26, sok26, so76, so77, so78⟩ := own_WldResultC (H230.seen 34 rfl)
             have H232 := H230.look1 34 rfl so76 (fun b hb => by rw [sq26]; simp [hb])
             have H233 := H232.look1 34 rfl so77 (fun b hb => by rw [sq26]; simp [hb])
             have H234 := H233.look1 34 rfl so78 (fun b hb => by rw [sq26]; simp [hb])
             refine d_stoS rfl (wn rfl) ts66 rfl rfl rfl rfl H234 14 rfl rfl (fun _ _ _ hr => absurd rfl hr) (fun w100 e100 H235 => ?_)
             dsimp only [lNA, lCA, lSZ, lSS, layL] at H235
             refine d_nil (W_seq (W_sr (sV rfl (py_loadS tu66 rfl ts66 rfl rfl (At.whole (H235.box 14 rfl))) (sV rfl (py_loadS tu66 rfl ts66 rfl rfl (At.whole (H235.box 4 rfl))) (s_call (wn rfl) rfl rfl (pc_call Tryz.func46 rfl Tryz_nm46 rfl) (Tryz_laws_eqWorldResult (by assumption) (H235.sees 35 rfl) (H235.sees 36 rfl) (H235.sees 37 rfl) (by assumption) (H235.sees 15 rfl) (H235.sees 16 rfl) (H235.sees 17 rfl)) (fun v63 w101 r63 => ?_))))))
             obtain ⟨e101, rfl⟩ := r63
             have H236 := H235.to e101
             refine sV rfl (py_not rfl) (s_nil (W_if rfl (fun c36 => ?_) (fun c36 => ?_)))
             ·exfalso; simp_all
             ·refine W_skip (W_sr (sA rfl rfl (s_nil (W_sr (sV rfl (py_loadS tu66 rfl ts66 rfl rfl (At.whole (H236.box 11 rfl))) (sM rfl rfl (s_call (wn rfl) rfl rfl (pc_call Tryz.func50 rfl Tryz_nm50 rfl) (Tryz_laws_heldWorldResult (x := mx6) (wr_see (H236.mine 10 rfl)).1 (wr_see (H236.mine 10 rfl)).2.1 (wr_see (H236.mine 10 rfl)).2.2 (by have := ml6.2.2.2.1; constructor <;> omega) ml6.2.2.2.2.1) (fun v64 w102 r64 => ?_))))))))
              obtain ⟨e102, rfl⟩ := r64
              have H237 := H236.to e102
              refine sA rfl rfl (s_nil (W_seq (W_sr (sM rfl rfl (sV rfl (py_lss rfl rfl) (s_nil (W_ifd rfl (fun c37 => ?_) (fun c37 => ?_))))))))
              ·exact absurd c37 (by omega)
              ·refine W_skip (W_seq (W_sr (sM rfl rfl (sM rfl rfl (sV rfl (py_neq rfl rfl) (s_nil (W_ifd rfl (fun c38 => ?_) (fun c38 => ?_))))))))
               ·exact absurd c38 (by omega)
               ·refine W_skip (W_sr (sA rfl rfl (s_nil (rT hQ Tryz.results10 rfl ?_))))
                exact ⟨H237.ext, rfl⟩
    ·refine d_var rfl (wn rfl) rfl Tryz.zeroValue66 H11 (fun _ h e => h.trans e.no) (fun b19 w103 e103 g19 H238 => ?_)
     refine d_call rfl (wn rfl) rfl rfl (pc_call Tryz.func44 rfl Tryz_nm44 rfl) (Tryz_laws_toRec (by assumption) (H238.sees 3 rfl) (H238.sees 4 rfl) (H238.sees 5 rfl) (by assumption)) (fun hS _ _ r _ => hS.trans r.1.no) (fun v65 w104 r65 => ?_)
     obtain ⟨e104, sa97, sk97, sa98, sk98, sa99, sk99, rfl, r65⟩ := r65
     obtain ⟨fp39, H239⟩ := H238.res e104 r65
     have H240 := H239.share 4 rfl
     obtain ⟨sf79, sf80, sf81, sq27, sok27, so79, so80, so81⟩ := own_RecC (H240.seen 10 rfl)
     have H242 := H240.look1 10 rfl so79 (fun b hb => by rw [sq27]; simp [hb])
     have H243 := H242.look1 10 rfl so80 (fun b hb => by rw [sq27]; simp [hb])
     have H244 := H243.look1 10 rfl so81 (fun b hb => by rw [sq27]; simp [hb])
     refine d_call rfl (wn rfl) rfl rfl (pc_call Tryz.func43 rfl Tryz_nm43 rfl) (Tryz_spec_RedoMove (by assumption) (H244.sees 7 rfl) (H244.sees 8 rfl) (H244.sees 9 rfl) (by assumption) (H244.sees 11 rfl) (H244.sees 12 rfl) (H244.sees 13 rfl) (by first | assumption | omega)) (fun hS _ _ r _ => hS.trans r.1.no) (fun v66 w105 r66 => ?_)
     obtain ⟨e105, sa100, sk100, sa101, sk101, sa102, sk102, rfl, r66⟩ := r66
     obtain ⟨fp40, H245⟩ := H244.res e105 r66
     have H246 := H245.share 5 rfl
     obtain ⟨sf82, sf83, sf84, sq28, sok28, so82, so83, so84⟩ := own_WldResultC (H246.seen 14 rfl)
     have H248 := H246.look1 14 rfl so82 (fun b hb => by rw [sq28]; simp [hb])
     have H249 := H248.look1 14 rfl so83 (fun b hb => by rw [sq28]; simp [hb])
     have H250 := H249.look1 14 rfl so84 (fun b hb => by rw [sq28]; simp [hb])
     refine d_stoS rfl (wn rfl) ts66 rfl rfl rfl rfl H250 3 rfl rfl (fun _ _ _ hr => absurd rfl hr) (fun w106 e106 H251 => ?_)
     dsimp only [lNA, lCA, lSZ, lSS, layL] at H251
     refine d_nil (W_sr (sV rfl (py_loadS tu28 rfl ts28 rfl rfl (At.whole (H251.box 0 rfl))) (s_call (wn rfl) rfl rfl (pc_call Tryz.func17 rfl Tryz_nm17 rfl) (Tryz_laws_toWorld (by assumption) (H251.sees 0 rfl) (H251.sees 1 rfl) (H251.sees 2 rfl) (by assumption)) (fun v67 w107 r67 => ?_))))
     obtain ⟨e107, sa103, sk103, sa104, sk104, sa105, sk105, rfl, r67⟩ := r67
     obtain ⟨fp41, H252⟩ := H251.res e107 r67
     refine s_var (wn rfl) rfl Tryz.zeroValue38 H252 (fun b20 w108 e108 g20 H253 => ?_)
     refine s_stoS (wn rfl) ts38 rfl rfl rfl rfl H253 7 rfl rfl (fun w109 e109 H254 => ?_)
     dsimp only [lNA, lCA, lSZ, lSS, layL] at H254
     refine s_nil (W_sr (sV rfl (py_loadS tu63 rfl ts63 rfl rfl (At.whole (H254.box 1 rfl))) (s_call (wn rfl) rfl rfl (pc_call Tryz.func44 rfl Tryz_nm44 rfl) (Tryz_laws_toRec (by assumption) (H254.sees 3 rfl) (H254.sees 4 rfl) (H254.sees 5 rfl) (by assumption)) (fun v68 w110 r68 => ?_))))
     obtain ⟨e110, sa106, sk106, sa107, sk107, sa108, sk108, rfl, r68⟩ := r68
     obtain ⟨fp42, H255⟩ := H254.res e110 r68
     refine s_var (wn rfl) rfl Tryz.zeroValue68 H255 (fun b21 w111 e111 g21 H256 => ?_)
     refine s_stoS (wn rfl) ts68 rfl rfl rfl rfl H256 9 rfl rfl (fun w112 e112 H257 => ?_)
     dsimp only [lNA, lCA, lSZ, lSS, layL] at H257
     refine s_nil (W_sr (sV rfl (py_loadS tu38 rfl ts38 rfl rfl (At.whole (H257.box 7 rfl))) (sM rfl rfl (sV rfl (py_loadS tu68 rfl ts68 rfl rfl (At.whole (H257.box 9 rfl))) (s_call (wn rfl) rfl rfl (pc_call Tryz.func45 rfl Tryz_nm45 rfl) (Tryz_impl_RedoMove (by assumption) (Wld.see9 (H257.mine 6 rfl)) (Wld.see10 (H257.mine 6 rfl)) (Wld.see11 (H257.mine 6 rfl)) (by assumption) (Rec.see6 (H257.mine 8 rfl)) (Rec.see7 (H257.mine 8 rfl)) (Rec.see8 (H257.mine 8 rfl)) (by first | assumption | omega)) (fun v69 w113 r69 => ?_))))))
     obtain ⟨e113, sa109, sk109, sa110, sk110, sa111, sk111, rfl, r69⟩ := r69
     obtain ⟨fp43, H258⟩ := H257.res e113 r69
     refine s_var (wn rfl) rfl Tryz.zeroValue66 H258 (fun b22 w114 e114 g22 H259 => ?_)
     refine s_stoS (wn rfl) ts66 rfl rfl rfl rfl H259 11 rfl rfl (fun w115 e115 H260 => ?_)
     dsimp only [lNA, lCA, lSZ, lSS, layL] at H260
     refine s_nil (W_seq (W_sr (sV rfl (py_loadS tu66 rfl ts66 rfl rfl (At.whole (H260.box 11 rfl))) (sV rfl (py_loadS tu66 rfl ts66 rfl rfl (At.whole (H260.box 3 rfl))) (s_call (wn rfl) rfl rfl (pc_call Tryz.func46 rfl Tryz_nm46 rfl) (Tryz_laws_eqWorldResult (by assumption) (WldResult.see10 (H260.mine 10 rfl)) (WldResult.see11 (H260.mine 10 rfl)) (WldResult.see12 (H260.mine 10 rfl)) (by assumption) (H260.sees 15 rfl) (H260.sees 16 rfl) (H260.sees 17 rfl)) (fun v70 w116 r70 => ?_))))))
     obtain ⟨e116, rfl⟩ := r70
     have H261 := H260.to e116
     refine sV rfl (py_not rfl) (s_nil (W_if rfl (fun c39 => ?_) (fun c39 => ?_)))
     ·exfalso; simp_all
     ·refine W_skip (W_seq (W_seq (W_drw (S := Ext No _) [(0, true), (1, true), (2, false), (3, false), (4, false)] (by kernel_rfl) (by kernel_rfl) (by kernel_rfl) rfl (fun _ => Ext.refl.drawn _) (fun q8 => ?_))))
      have H262 := H261.drawn q8
      refine dV rfl rfl (fun zw hx => py_loadS tu38 rfl ts38 rfl rfl (At.whole (hx.heap (H262.box 7 rfl)))) (dV rfl rfl (fun zw hx => py_loadS tu28 rfl ts28 rfl rfl (At.whole (hx.heap (H262.box 0 rfl)))) (d_call rfl (wn rfl) rfl rfl (pc_call Tryz.func17 rfl Tryz_nm17 rfl) (Tryz_laws_toWorld (by assumption) (H262.sees 0 rfl) (H262.sees 1 rfl) (H262.sees 2 rfl) (by assumption)) (fun hS _ _ r _ => hS.trans r.1.no) (fun v71 w117 r71 => ?_)))
      obtain ⟨e117, sa112, sk112, sa113, sk113, sa114, sk114, rfl, r71⟩ := r71
      obtain ⟨fp44, H263⟩ := H262.res e117 r71
      have H264 := H263.share 12 rfl
      obtain ⟨sf85, sf86, sf87, sq29, sok29, so85, so86, so87⟩ := own_WldC (H264.seen 18 rfl)
      have H266 := H264.look1 18 rfl so85 (fun b hb => by rw [sq29]; simp [hb])
      have H267 := H266.look1 18 rfl so86 (fun b hb => by rw [sq29]; simp [hb])
      have H268 := H267.look1 18 rfl so87 (fun b hb => by rw [sq29]; simp [hb])
      refine d_call rfl (wn rfl) rfl rfl (pc_call Tryz.func20 rfl Tryz_nm20 rfl) (Tryz_laws_eqWorld (by assumption) (Wld.see9 (H268.mine 6 rfl)) (Wld.see10 (H268.mine 6 rfl)) (Wld.see11 (H268.mine 6 rfl)) (by assumption) (H268.sees 19 rfl) (H268.sees 20 rfl) (H268.sees 21 rfl)) (fun hS _ _ r _ => hS.trans r.1.no) (fun v72 w118 r72 => ?_)
      obtain ⟨e118, rfl⟩ := r72
      have H269 := H268.to e118
      refine d_end rfl (wn rfl) rfl rfl (py_not rfl) (d_nil (W_if rfl (fun c40 => ?_) (fun c40 => ?_)))
      ·exfalso; simp_all
      ·refine W_skip (W_seq (W_seq (W_drw (S := Ext No _) [(0, true), (1, true), (2, false), (3, false), (4, false)] (by kernel_rfl) (by kernel_rfl) (by kernel_rfl) rfl (fun _ => Ext.refl.drawn _) (fun q9 => ?_))))
       have H270 := H269.drawn q9
       refine dV rfl rfl (fun zw hx => py_loadS tu68 rfl ts68 rfl rfl (At.whole (hx.heap (H270.box 9 rfl)))) (dV rfl rfl (fun zw hx => py_loadS tu63 rfl ts63 rfl rfl (At.whole (hx.heap (H270.box 1 rfl)))) (d_call rfl (wn rfl) rfl rfl (pc_call Tryz.func44 rfl Tryz_nm44 rfl) (Tryz_laws_toRec (by assumption) (H270.sees 3 rfl) (H270.sees 4 rfl) (H270.sees 5 rfl) (by assumption)) (fun hS _ _ r _ => hS.trans r.1.no) (fun v73 w119 r73 => ?_)))
       obtain ⟨e119, sa115, sk115, sa116, sk116, sa117, sk117, rfl, r73⟩ := r73
       obtain ⟨fp45, H271⟩ := H270.res e119 r73
       have H272 := H271.share 13 rfl
       obtain ⟨sf88, sf89, sf90, sq30, sok30, so88, so89, so90⟩ := own_RecC (H272.seen 22 rfl)
       have H274 := H272.look1 22 rfl so88 (fun b hb => by rw [sq30]; simp [hb])
       have H275 := H274.look1 22 rfl so89 (fun b hb => by rw [sq30]; simp [hb])
       have H276 := H275.look1 22 rfl so90 (fun b hb => by rw [sq30]; simp [hb])
       refine d_call rfl (wn rfl) rfl rfl (pc_call Tryz.func47 rfl Tryz_nm47 rfl) (Tryz_laws_eqRec (by assumption) (Rec.see6 (H276.mine 8 rfl)) (Rec.see7 (H276.mine 8 rfl)) (Rec.see8 (H276.mine 8 rfl)) (by assumption) (H276.sees 23 rfl) (H276.sees 24 rfl) (H276.sees 25 rfl)) (fun hS _ _ r _ => hS.trans r.1.no) (fun v74 w120 r74 => ?_)
       obtain ⟨e120, rfl⟩ := r74
       have H277 := H276.to e120
       refine d_end rfl (wn rfl) rfl rfl (py_not rfl) (d_nil (W_if rfl (fun c41 => ?_) (fun c41 => ?_)))
       ·exfalso; simp_all
       ·refine W_skip (W_sr (sA rfl rfl (s_nil (W_sr (sV rfl (py_loadS tu38 rfl ts38 rfl rfl (At.whole (H277.box 7 rfl))) (sM rfl rfl (s_call (wn rfl) rfl rfl (pc_call Tryz.func21 rfl Tryz_nm21 rfl) (Tryz_laws_markWorld (by assumption) (H277.mine 6 rfl) (H277.nodup1 (i := 6) rfl) (by constructor <;> omega)) (fun v75 w121 r75 => ?_))))))))
        obtain ⟨rfl, mx7, mm7, ml7⟩ := r75
        obtain ⟨fp46, H278⟩ := H277.mut 6 rfl mm7
        try dsimp only [lNA, lCA, lSZ, lSS] at H278
        refine sA rfl rfl (s_nil (W_sr (sV rfl (py_loadS tu68 rfl ts68 rfl rfl (At.whole (H278.box 9 rfl))) (sM rfl rfl (s_call (wn rfl) rfl rfl (pc_call Tryz.func48 rfl Tryz_nm48 rfl) (Tryz_laws_markRec (by assumption) (H278.mine 8 rfl) (H278.nodup1 (i := 8) rfl) (by constructor <;> omega)) (fun v76 w122 r76 => ?_))))))
        obtain ⟨rfl, mx8, mm8, ml8⟩ := r76
        obtain ⟨fp47, H279⟩ := H278.mut 8 rfl mm8
        try dsimp only [lNA, lCA, lSZ, lSS] at H279
        refine sA rfl rfl (s_nil (W_seq (W_sr (sM rfl rfl (sV rfl (py_lss rfl rfl) (sM rfl rfl (s_grp 4 (j := 2) (want := false) (t := 66) rfl rfl rfl rfl (fun hg3 kk3 => s_val (wgE rfl rfl rfl hg3) rfl rfl (py_loadS tu66 rfl ts66 rfl rfl (At.whole (H279.box 11 rfl))) (s_val (wgE rfl rfl rfl hg3) rfl rfl (py_loadS tu66 rfl ts66 rfl rfl (At.whole (H279.box 3 rfl))) (s_callv (wgE rfl rfl rfl hg3) rfl rfl (pc_call Tryz.func46 rfl Tryz_nm46 rfl) (Tryz_laws_eqWorldResult (by assumption) (WldResult.see10 (H279.mine 10 rfl)) (WldResult.see11 (H279.mine 10 rfl)) (WldResult.see12 (H279.mine 10 rfl)) (by assumption) (H279.sees 15 rfl) (H279.sees 16 rfl) (H279.sees 17 rfl)) (fun w124 e124 => s_val (wgE rfl rfl rfl hg3) rfl rfl (py_not rfl) (kk3 _ _ (kx rfl (kx rfl (kx rfl (kx rfl k0)))) rfl (Ext.refl.trans e124)))))) (fun w123 e123 => ?_))))))))
        have H280 := H279.to e123
        refine sV rfl (py_bor rfl rfl) (s_nil (W_if rfl (fun c42 => ?_) (fun c42 => ?_)))
        ·exact absurd c42 (by simp; omega)
        ·refine W_skip (W_sr (sA rfl rfl (s_nil (W_sr (sV rfl (py_loadS tu66 rfl ts66 rfl rfl (At.whole (H280.box 11 rfl))) (sM rfl rfl (s_call (wn rfl) rfl rfl (pc_call Tryz.func49 rfl Tryz_nm49 rfl) (Tryz_laws_markWorldResult (H280.mine 10 rfl) (H280.nodup1 (i := 10) rfl) (by constructor <;> omega)) (fun v77 w125 r77 => ?_))))))))
         obtain ⟨rfl, mx9, mm9, ml9⟩ := r77
         obtain ⟨fp48, H281⟩ := H280.mut 10 rfl mm9
         try dsimp only [lNA, lCA, lSZ, lSS] at H281
         refine sA rfl rfl (s_nil (W_sr (sA rfl rfl (s_nil (W_sr (sV rfl (py_loadS tu66 rfl ts66 rfl rfl (At.whole (H281.box 11 rfl))) (sM rfl rfl (s_call (wn rfl) rfl rfl (pc_call Tryz.func50 rfl Tryz_nm50 rfl) (Tryz_laws_heldWorldResult (x := mx9) (wr_see (H281.mine 10 rfl)).1 (wr_see (H281.mine 10 rfl)).2.1 (wr_see (H281.mine 10 rfl)).2.2 (by have := ml9.2.2.2.1; constructor <;> omega) ml9.2.2.2.2.1) (fun v78 w126 r78 => ?_)))))))))
         obtain ⟨e126, rfl⟩ := r78
         have H282 := H281.to e126
         refine sA rfl rfl (s_nil (W_seq (W_seq ?_)))
         have hq := ml9.2.2.2.1
         refine W_reg (sM rfl rfl (sV rfl (py_lss rfl rfl) (s_nil (W_ifd rfl (fun c43 => ?_) (fun c43 => ?_)))))
         ·exact absurd c43 (by omega)
         ·refine W_skip (W_seq (W_sr (sM rfl rfl (sM rfl rfl (sV rfl (py_neq rfl rfl) (s_nil (W_ifd rfl (fun c44 => ?_) (fun c44 => ?_))))))))
          ·exact absurd c44 (by omega)
          ·refine W_skip (W_seq (W_drw (S := Ext No _) [(0, true), (2, true), (3, true), (1014, false), (1, false), (1008, false), (4, false), (1003, false), (5, false), (6, false), (7, false), (6, false), (5, false), (7, false), (6, false), (4, false), (5, false), (7, false), (6, false), (1, false), (4, false), (5, false), (7, false)] (by kernel_rfl) (by kernel_rfl) (by kernel_rfl) rfl (fun _ => Ext.refl.drawn _) (fun q10 => ?_)))
           have H283 := H282.drawn q10
           refine dV rfl rfl (fun zw hx => py_loadS tu28 rfl ts28 rfl rfl (At.whole (hx.heap (H283.box 0 rfl)))) (dM rfl rfl rfl (dV rfl rfl (fun zw hx => py_loadS tu63 rfl ts63 rfl rfl (At.whole (hx.heap (H283.box 1 rfl)))) (d_fork (l1 := [(1, false), (1008, false), (4, false), (1003, false), (5, false), (6, false), (7, false), (6, false), (5, false), (7, false), (6, false), (4, false), (5, false), (7, false)]) (l2 := [(6, false), (1, false), (4, false), (5, false), (7, false)]) rfl rfl rfl rfl ?_ ?_)))
           ·refine d_call rfl (wn rfl) rfl rfl (pc_call Tryz.func17 rfl Tryz_nm17 rfl) (Tryz_laws_toWorld (by assumption) (H283.sees 0 rfl) (H283.sees 1 rfl) (H283.sees 2 rfl) (by assumption)) (fun hS _ _ r _ => hS.trans r.1.no) (fun v79 w127 r79 => ?_)
            obtain ⟨e127, sa118, sk118, sa119, sk119, sa120, sk120, rfl, r79⟩ := r79
            obtain ⟨fp49, H284⟩ := H283.res e127 r79
            have H285 := H284.share 14 rfl
            obtain ⟨sf91, sf92, sf93, sq31, sok31, so91, so92, so93⟩ := own_WldC (H285.seen 26 rfl)
            have H287 := H285.look1 26 rfl so91 (fun b hb => by rw [sq31]; simp [hb])
            have H288 := H287.look1 26 rfl so92 (fun b hb => by rw [sq31]; simp [hb])
            have H289 := H288.look1 26 rfl so93 (fun b hb => by rw [sq31]; simp [hb])
            refine d_fork (l1 := [(4, false), (1003, false), (5, false), (6, false), (7, false), (6, false), (5, false), (7, false)]) (l2 := [(6, false), (4, false), (5, false), (7, false)]) rfl rfl rfl rfl ?_ ?_
            ·refine d_call rfl (wn rfl) rfl rfl (pc_call Tryz.func44 rfl Tryz_nm44 rfl) (Tryz_laws_toRec (by assumption) (H289.sees 3 rfl) (H289.sees 4 rfl) (H289.sees 5 rfl) (by assumption)) (fun hS _ _ r _ => hS.trans r.1.no) (fun v80 w128 r80 => ?_)
             obtain ⟨e128, sa121, sk121, sa122, sk122, sa123, sk123, rfl, r80⟩ := r80
             obtain ⟨fp50, H290⟩ := H289.res e128 r80
             have H291 := H290.share 15 rfl
             obtain ⟨sf94, sf95, sf96, sq32, sok32, so94, so95, so96⟩ := own_RecC (H291.seen 30 rfl)
             have H293 := H291.look1 30 rfl so94 (fun b hb => by rw [sq32]; simp [hb])
             have H294 := H293.look1 30 rfl so95 (fun b hb => by rw [sq32]; simp [hb])
             have H295 := H294.look1 30 rfl so96 (fun b hb => by rw [sq32]; simp [hb])
             refine d_fork (l1 := [(5, false), (6, false), (7, false)]) (l2 := [(6, false), (5, false), (7, false)]) rfl rfl rfl rfl ?_ ?_
             ·refine d_call rfl (wn rfl) rfl rfl (pc_call Tryz.func45 rfl Tryz_nm45 rfl) (Tryz_impl_RedoMove (by assumption) (H295.sees 27 rfl) (H295.sees 28 rfl) (H295.sees 29 rfl) (by assumption) (H295.sees 31 rfl) (H295.sees 32 rfl) (H295.sees 33 rfl) (by first | assumption | omega)) (fun hS _ _ r _ => hS.trans r.1.no) (fun v81 w129 r81 => ?_)
              obtain ⟨e129, sa124, sk124, sa125, sk125, sa126, sk126, rfl, r81⟩ := r81
              obtain ⟨fp51, H296⟩ := H295.res e129 r81
              have H297 := H296.share 16 rfl
              obtain ⟨sf97, sf98, sf99, sq33, sok33, so97, so98, so99⟩ := own_WldResultC (H297.seen 34 rfl)
              have H299 := H297.look1 34 rfl so97 (fun b hb => by rw [sq33]; simp [hb])
              have H300 := H299.look1 34 rfl so98 (fun b hb => by rw [sq33]; simp [hb])
              have H301 := H300.look1 34 rfl so99 (fun b hb => by rw [sq33]; simp [hb])
              refine d_var rfl (wn rfl) rfl Tryz.zeroValue66 H301 (fun _ h e => h.trans e.no) (fun b23 w130 e130 g23 H302 => ?_)
              refine d_stoS rfl (wn rfl) ts66 rfl rfl rfl rfl H302 17 rfl rfl (fun _ _ _ hr => absurd rfl hr) (fun w131 e131 H303 => ?_)
              dsimp only [lNA, lCA, lSZ, lSS, layL] at H303
              refine d_nil (W_seq (W_sr (sV rfl (py_loadS tu66 rfl ts66 rfl rfl (At.whole (H303.box 17 rfl))) (sV rfl (py_loadS tu66 rfl ts66 rfl rfl (At.whole (H303.box 3 rfl))) (s_call (wn rfl) rfl rfl (pc_call Tryz.func46 rfl Tryz_nm46 rfl) (Tryz_laws_eqWorldResult (by assumption) (H303.sees 35 rfl) (H303.sees 36 rfl) (H303.sees 37 rfl) (by assumption) (H303.sees 15 rfl) (H303.sees 16 rfl) (H303.sees 17 rfl)) (fun v82 w132 r82 => ?_))))))
              obtain ⟨e132, rfl⟩ := r82
              have H304 := H303.to e132
              refine sV rfl (py_not rfl) (s_nil (W_if rfl (fun c45 => ?_) (fun c45 => ?_)))
              ·exfalso; simp_all
              ·refine W_skip (W_sr (sA rfl rfl (s_nil (W_sr (sV rfl (py_loadS tu66 rfl ts66 rfl rfl (At.whole (H304.box 11 rfl))) (sM rfl rfl (s_call (wn rfl) rfl rfl (pc_call Tryz.func50 rfl Tryz_nm50 rfl) (Tryz_laws_heldWorldResult (x := mx9) (wr_see (H304.mine 10 rfl)).1 (wr_see (H304.mine 10 rfl)).2.1 (wr_see (H304.mine 10 rfl)).2.2 (by have := ml9.2.2.2.1; constructor <;> omega) ml9.2.2.2.2.1) (fun v83 w133 r83 => ?_))))))))
               obtain ⟨e133, rfl⟩ := r83
               have H305 := H304.to e133
               refine sA rfl rfl (s_nil (W_seq (W_sr (sM rfl rfl (sV rfl (py_lss rfl rfl) (s_nil (W_ifd rfl (fun c46 => ?_) (fun c46 => ?_))))))))
               ·exact absurd c46 (by omega)
               ·refine W_skip (W_seq (W_sr (sM rfl rfl (sM rfl rfl (sV rfl (py_neq rfl rfl) (s_nil (W_ifd rfl (fun c47 => ?_) (fun c47 => ?_))))))))
                ·exact absurd c47 (by omega)
                ·refine W_skip (W_sr (sA rfl rfl (s_nil (rT hQ Tryz.results10 rfl ?_))))
                 exact ⟨H305.ext, rfl⟩
             ·refine d_var rfl (wn rfl) rfl Tryz.zeroValue66 H295 (fun _ h e => h.trans e.no) (fun b24 w134 e134 g24 H306 => ?_)
              refine d_call rfl (wn rfl) rfl rfl (pc_call Tryz.func45 rfl Tryz_nm45 rfl) (Tryz_impl_RedoMove (by assumption) (H306.sees 27 rfl) (H306.sees 28 rfl) (H306.sees 29 rfl) (by assumption) (H306.sees 31 rfl) (H306.sees 32 rfl) (H306.sees 33 rfl) (by first | assumption | omega)) (fun hS _ _ r _ => hS.trans r.1.no) (fun v84 w135 r84 => ?_)
              obtain ⟨e135, sa127, sk127, sa128, sk128, sa129, sk129, rfl, r84⟩ := r84
              obtain ⟨fp52, H307⟩ := H306.res e135 r84
              have H308 := H307.share 17 rfl
              obtain ⟨sf100, sf101, sf102, sq34, sok34, so100, so101, so102⟩ := own_WldResultC (H308.seen 34 rfl)
              have H310 := H308.look1 34 rfl so100 (fun b hb => by rw [sq34]; simp [hb])
              have H311 := H310.look1 34 rfl so101 (fun b hb => by rw [sq34]; simp [hb])
              have H312 := H311.look1 34 rfl so102 (fun b hb => by rw [sq34]; simp [hb])
              refine d_stoS rfl (wn rfl) ts66 rfl rfl rfl rfl H312 16 rfl rfl (fun _ _ _ hr => absurd rfl hr) (fun w136 e136 H313 => ?_)
              dsimp only [lNA, lCA, lSZ, lSS, layL] at H313
              refine d_nil (W_seq (W_sr (sV rfl (py_loadS tu66 rfl ts66 rfl rfl (At.whole (H313.box 16 rfl))) (sV rfl (py_loadS tu66 rfl ts66 rfl rfl (At.whole (H313.box 3 rfl))) (s_call (wn rfl) rfl rfl (pc_call Tryz.func46 rfl Tryz_nm46 rfl) (Tryz_laws_eqWorldResult (by assumption) (H313.sees 35 rfl) (H313.sees 36 rfl) (H313.sees 37 rfl) (by assumption) (H313.sees 15 rfl) (H313.sees 16 rfl) (H313.sees 17 rfl)) (fun v85 w137 r85 => ?_))))))
              obtain ⟨e137, rfl⟩ := r85
              have H314 := H313.to e137
              refine sV rfl (py_not rfl) (s_nil (W_if rfl (fun c48 => ?_) (fun c48 => ?_)))
              ·exfalso; simp_all
              ·refine W_skip (W_sr (sA rfl rfl (s_nil (W_sr (sV rfl (py_loadS tu66 rfl ts66 rfl rfl (At.whole (H314.box 11 rfl))) (sM rfl rfl (s_call (wn rfl) rfl rfl (pc_call Tryz.func50 rfl Tryz_nm50 rfl) (Tryz_laws_heldWorldResult (x := mx9) (wr_see (H314.mine 10 rfl)).1 (wr_see (H314.mine 10 rfl)).2.1 (wr_see (H314.mine 10 rfl)).2.2 (by have := ml9.2.2.2.1; constructor <;> omega) ml9.2.2.2.2.1) (fun v86 w138 r86 => ?_))))))))
               obtain ⟨e138, rfl⟩ := r86
               have H315 := H314.to e138
               refine sA rfl rfl (s_nil (W_seq (W_sr (sM rfl rfl (sV rfl (py_lss rfl rfl) (s_nil (W_ifd rfl (fun c49 => ?_) (fun c49 => ?_))))))))
               ·exact absurd c49 (by omega)
               ·refine W_skip (W_seq (W_sr (sM rfl rfl (sM rfl rfl (sV rfl (py_neq rfl rfl) (s_nil (W_ifd rfl (fun c50 => ?_) (fun c50 => ?_))))))))
                ·exact absurd c50 (by omega)
                ·refine W_skip (W_sr (sA rfl rfl (s_nil (rT hQ Tryz.results10 rfl ?_))))
                 exact ⟨H315.ext, rfl⟩
            ·refine d_var rfl (wn rfl) rfl Tryz.zeroValue66 H289 (fun _ h e => h.trans e.no) (fun b25 w139 e139 g25 H316 => ?_)
             refine d_call rfl (wn rfl) rfl rfl (pc_call Tryz.func44 rfl Tryz_nm44 rfl) (Tryz_laws_toRec (by assumption) (H316.sees 3 rfl) (H316.sees 4 rfl) (H316.sees 5 rfl) (by assumption)) (fun hS _ _ r _ => hS.trans r.1.no) (fun v87 w140 r87 => ?_)
             obtain ⟨e140, sa130, sk130, sa131, sk131, sa132, sk132, rfl, r87⟩ := r87
             obtain ⟨fp53, H317⟩ := H316.res e140 r87
             have H318 := H317.share 16 rfl
             obtain ⟨sf103, sf104, sf105, sq35, sok35, so103, so104, so105⟩ := own_RecC (H318.seen 30 rfl)
             have H320 := H318.look1 30 rfl so103 (fun b hb => by rw [sq35]; simp [hb])
             have H321 := H320.look1 30 rfl so104 (fun b hb => by rw [sq35]; simp [hb])
             have H322 := H321.look1 30 rfl so105 (fun b hb => by rw [sq35]; simp [hb])
             refine d_call rfl (wn rfl) rfl rfl (pc_call Tryz.func45 rfl Tryz_nm45 rfl) (Tryz_impl_RedoMove (by assumption) (H322.sees 27 rfl) (H322.sees 28 rfl) (H322.sees 29 rfl) (by assumption) (H322.sees 31 rfl) (H322.sees 32 rfl) (H322.sees 33 rfl) (by first | assumption | omega)) (fun hS _ _ r _ => hS.trans r.1.no) (fun v88 w141 r88 => ?_)
             obtain ⟨e141, sa133, sk133, sa134, sk134, sa135, sk135, rfl, r88⟩ := r88
             obtain ⟨fp54, H323⟩ := H322.res e141 r88
             have H324 := H323.share 17 rfl
             obtain ⟨sf106, sf107, sf108, sq36, sok36, so106, so107, so108⟩ := own_WldResultC (H324.seen 34 rfl)
             have H326 := H324.look1 34 rfl so106 (fun b hb => by rw [sq36]; simp [hb])
             have H327 := H326.look1 34 rfl so107 (fun b hb => by rw [sq36]; simp [hb])
             have H328 := H327.look1 34 rfl so108 (fun b hb => by rw [sq36]; simp [hb])
             refine d_stoS rfl (wn rfl) ts66 rfl rfl rfl rfl H328 15 rfl rfl (fun _ _ _ hr => absurd rfl hr) (fun w142 e142 H329 => ?_)
             dsimp only [lNA, lCA, lSZ, lSS, layL] at H329
             refine d_nil (W_seq (W_sr (sV rfl (py_loadS tu66 rfl ts66 rfl rfl (At.whole (H329.box 15 rfl))) (sV rfl (py_loadS tu66 rfl ts66 rfl rfl (At.whole (H329.box 3 rfl))) (s_call (wn rfl) rfl rfl (pc_call Tryz.func46 rfl Tryz_nm46 rfl) (Tryz_laws_eqWorldResult (by assumption) (H329.sees 35 rfl) (H329.sees 36 rfl) (H329.sees 37 rfl) (by assumption) (H329.sees 15 rfl) (H329.sees 16 rfl) (H329.sees 17 rfl)) (fun v89 w143 r89 => ?_))))))
             obtain ⟨e143, rfl⟩ := r89
             have H330 := H329.to e143
             refine sV rfl (py_not rfl) (s_nil (W_if rfl (fun c51 => ?_) (fun c51 => ?_)))
             ·exfalso; simp_all
             ·refine W_skip (W_sr (sA rfl rfl (s_nil (W_sr (sV rfl (py_loadS tu66 rfl ts66 rfl rfl (At.whole (H330.box 11 rfl))) (sM rfl rfl (s_call (wn rfl) rfl rfl (pc_call Tryz.func50 rfl Tryz_nm50 rfl) (Tryz_laws_heldWorldResult (x := mx9) (wr_see (H330.mine 10 rfl)).1 (wr_see (H330.mine 10 rfl)).2.1 (wr_see (H330.mine 10 rfl)).2.2 (by have := ml9.2.2.2.1; constructor <;> omega) ml9.2.2.2.2.1) (fun v90 w144 r90 => ?_))))))))
              obtain ⟨e144, rfl⟩ := r90
              have H331 := H330.to e144
              refine sA rfl rfl (s_nil (W_seq (W_sr (sM rfl rfl (sV rfl (py_lss rfl rfl) (s_nil (W_ifd rfl (fun c52 => ?_) (fun c52 => ?_))))))))
              ·exact absurd c52 (by omega)
              ·refine W_skip (W_seq (W_sr (sM rfl rfl (sM rfl rfl (sV rfl (py_neq rfl rfl) (s_nil (W_ifd rfl (fun c53 => ?_) (fun c53 => ?_))))))))
               ·exact absurd c53 (by omega)
               ·refine W_skip (W_sr (sA rfl rfl (s_nil (rT hQ Tryz.results10 rfl ?_))))
                exact ⟨H331.ext, rfl⟩
           ·refine d_var rfl (wn rfl) rfl Tryz.zeroValue66 H283 (fun _ h e => h.trans e.no) (fun b26 w145 e145 g26 H332 => ?_)
            refine d_call rfl (wn rfl) rfl rfl (pc_call Tryz.func17 rfl Tryz_nm17 rfl) (Tryz_laws_toWorld (by assumption) (H332.sees 0 rfl) (H332.sees 1 rfl) (H332.sees 2 rfl) (by assumption)) (fun hS _ _ r _ => hS.trans r.1.no) (fun v91 w146 r91 => ?_)
            obtain ⟨e146, sa136, sk136, sa137, sk137, sa138, sk138, rfl, r91⟩ := r91
            obtain ⟨fp55, H333⟩ := H332.res e146 r91
            have H334 := H333.share 15 rfl
            obtain ⟨sf109, sf110, sf111, sq37, sok37, so109, so110, so111⟩ := own_WldC (H334.seen 26 rfl)
            have H336 := H334.look1 26 rfl so109 (fun b hb => by rw [sq37]; simp [hb])
            have H337 := H336.look1 26 rfl so110 (fun b hb => by rw [sq37]; simp [hb])
            have H338 := H337.look1 26 rfl so111 (fun b hb => by rw [sq37]; simp [hb])
            refine d_call rfl (wn rfl) rfl rfl (pc_call Tryz.func44 rfl Tryz_nm44 rfl) (Tryz_laws_toRec (by assumption) (H338.sees 3 rfl) (H338.sees 4 rfl) (H338.sees 5 rfl) (by assumption)) (fun hS _ _ r _ => hS.trans r.1.no) (fun v92 w147 r92 => ?_)
            obtain ⟨e147, sa139, sk139, sa140, sk140, sa141, sk141, rfl, r92⟩ := r92
            obtain ⟨fp56, H339⟩ := H338.res e147 r92
            have H340 := H339.share 16 rfl
            obtain ⟨sf112, sf113, sf114, sq38, sok38, so112, so113, so114⟩ := own_RecC (H340.seen 30 rfl)
            have H342 := H340.look1 30 rfl so112 (fun b hb => by rw [sq38]; simp [hb])
            have H343 := H342.look1 30 rfl so113 (fun b hb => by rw [sq38]; simp [hb])
            have H344 := H343.look1 30 rfl so114 (fun b hb => by rw [sq38]; simp [hb])
            refine d_call rfl (wn rfl) rfl rfl (pc_call Tryz.func45 rfl Tryz_nm45 rfl) (Tryz_impl_RedoMove (by assumption) (H344.sees 27 rfl) (H344.sees 28 rfl) (H344.sees 29 rfl) (by assumption) (H344.sees 31 rfl) (H344.sees 32 rfl) (H344.sees 33 rfl) (by first | assumption | omega)) (fun hS _ _ r _ => hS.trans r.1.no) (fun v93 w148 r93 => ?_)
            obtain ⟨e148, sa142, sk142, sa143, sk143, sa144, sk144, rfl, r93⟩ := r93
            obtain ⟨fp57, H345⟩ := H344.res e148 r93
            have H346 := H345.share 17 rfl
            obtain ⟨sf115, sf116, sf117, sq39, sok39, so115, so116, so117⟩ := own_WldResultC (H346.seen 34 rfl)
            have H348 := H346.look1 34 rfl so115 (fun b hb => by rw [sq39]; simp [hb])
            have H349 := H348.look1 34 rfl so116 (fun b hb => by rw [sq39]; simp [hb])
            have H350 := H349.look1 34 rfl so117 (fun b hb => by rw [sq39]; simp [hb])
            refine d_stoS rfl (wn rfl) ts66 rfl rfl rfl rfl H350 14 rfl rfl (fun _ _ _ hr => absurd rfl hr) (fun w149 e149 H351 => ?_)
            dsimp only [lNA, lCA, lSZ, lSS, layL] at H351
            refine d_nil (W_seq (W_sr (sV rfl (py_loadS tu66 rfl ts66 rfl rfl (At.whole (H351.box 14 rfl))) (sV rfl (py_loadS tu66 rfl ts66 rfl rfl (At.whole (H351.box 3 rfl))) (s_call (wn rfl) rfl rfl (pc_call Tryz.func46 rfl Tryz_nm46 rfl) (Tryz_laws_eqWorldResult (by assumption) (H351.sees 35 rfl) (H351.sees 36 rfl) (H351.sees 37 rfl) (by assumption) (H351.sees 15 rfl) (H351.sees 16 rfl) (H351.sees 17 rfl)) (fun v94 w150 r94 => ?_))))))
            obtain ⟨e150, rfl⟩ := r94
            have H352 := H351.to e150
            refine sV rfl (py_not rfl) (s_nil (W_if rfl (fun c54 => ?_) (fun c54 => ?_)))
            ·exfalso; simp_all
            ·refine W_skip (W_sr (sA rfl rfl (s_nil (W_sr (sV rfl (py_loadS tu66 rfl ts66 rfl rfl (At.whole (H352.box 11 rfl))) (sM rfl rfl (s_call (wn rfl) rfl rfl (pc_call Tryz.func50 rfl Tryz_nm50 rfl) (Tryz_laws_heldWorldResult (x := mx9) (wr_see (H352.mine 10 rfl)).1 (wr_see (H352.mine 10 rfl)).2.1 (wr_see (H352.mine 10 rfl)).2.2 (by have := ml9.2.2.2.1; constructor <;> omega) ml9.2.2.2.2.1) (fun v95 w151 r95 => ?_))))))))
             obtain ⟨e151, rfl⟩ := r95
             have H353 := H352.to e151
             refine sA rfl rfl (s_nil (W_seq (W_sr (sM rfl rfl (sV rfl (py_lss rfl rfl) (s_nil (W_ifd rfl (fun c55 => ?_) (fun c55 => ?_))))))))
             ·exact absurd c55 (by omega)
             ·refine W_skip (W_seq (W_sr (sM rfl rfl (sM rfl rfl (sV rfl (py_neq rfl rfl) (s_nil (W_ifd rfl (fun c56 => ?_) (fun c56 => ?_))))))))
              ·exact absurd c56 (by omega)
              ·refine W_skip (W_sr (sA rfl rfl (s_nil (rT hQ Tryz.results10 rfl ?_))))
               exact ⟨H353.ext, rfl⟩
   ·refine d_var rfl (wn rfl) rfl Tryz.zeroValue66 H5 (fun _ h e => h.trans e.no) (fun b27 w152 e152 g27 H354 => ?_)
    refine d_call rfl (wn rfl) rfl rfl (pc_call Tryz.func17 rfl Tryz_nm17 rfl) (Tryz_laws_toWorld (by assumption) (H354.sees 0 rfl) (H354.sees 1 rfl) (H354.sees 2 rfl) (by assumption)) (fun hS _ _ r _ => hS.trans r.1.no) (fun v96 w153 r96 => ?_)
    obtain ⟨e153, sa145, sk145, sa146, sk146, sa147, sk147, rfl, r96⟩ := r96
    obtain ⟨fp58, H355⟩ := H354.res e153 r96
    have H356 := H355.share 3 rfl
    obtain ⟨sf118, sf119, sf120, sq40, sok40, so118, so119, so120⟩ := own_WldC (H356.seen 6 rfl)
    have H358 := H356.look1 6 rfl so118 (fun b hb => by rw [sq40]; simp [hb])
    have H359 := H358.look1 6 rfl so119 (fun b hb => by rw [sq40]; simp [hb])
    have H360 := H359.look1 6 rfl so120 (fun b hb => by rw [sq40]; simp [hb])
    refine d_call rfl (wn rfl) rfl rfl (pc_call Tryz.func44 rfl Tryz_nm44 rfl) (Tryz_laws_toRec (by assumption) (H360.sees 3 rfl) (H360.sees 4 rfl) (H360.sees 5 rfl) (by assumption)) (fun hS _ _ r _ => hS.trans r.1.no) (fun v97 w154 r97 => ?_)
    obtain ⟨e154, sa148, sk148, sa149, sk149, sa150, sk150, rfl, r97⟩ := r97
    obtain ⟨fp59, H361⟩ := H360.res e154 r97
    have H362 := H361.share 4 rfl
    obtain ⟨sf121, sf122, sf123, sq41, sok41, so121, so122, so123⟩ := own_RecC (H362.seen 10 rfl)
    have H364 := H362.look1 10 rfl so121 (fun b hb => by rw [sq41]; simp [hb])
    have H365 := H364.look1 10 rfl so122 (fun b hb => by rw [sq41]; simp [hb])
    have H366 := H365.look1 10 rfl so123 (fun b hb => by rw [sq41]; simp [hb])
    refine d_call rfl (wn rfl) rfl rfl (pc_call Tryz.func43 rfl Tryz_nm43 rfl) (Tryz_spec_RedoMove (by assumption) (H366.sees 7 rfl) (H366.sees 8 rfl) (H366.sees 9 rfl) (by assumption) (H366.sees 11 rfl) (H366.sees 12 rfl) (H366.sees 13 rfl) (by first | assumption | omega)) (fun hS _ _ r _ => hS.trans r.1.no) (fun v98 w155 r98 => ?_)
    obtain ⟨e155, sa151, sk151, sa152, sk152, sa153, sk153, rfl, r98⟩ := r98
    obtain ⟨fp60, H367⟩ := H366.res e155 r98
    have H368 := H367.share 5 rfl
    obtain ⟨sf124, sf125, sf126, sq42, sok42, so124, so125, so126⟩ := own_WldResultC (H368.seen 14 rfl)
    have H370 := H368.look1 14 rfl so124 (fun b hb => by rw [sq42]; simp [hb])
    have H371 := H370.look1 14 rfl so125 (fun b hb => by rw [sq42]; simp [hb])
    have H372 := H371.look1 14 rfl so126 (fun b hb => by rw [sq42]; simp [hb])
    refine d_stoS rfl (wn rfl) ts66 rfl rfl rfl rfl H372 2 rfl rfl (fun _ _ _ hr => absurd rfl hr) (fun w156 e156 H373 => ?_)
    dsimp only [lNA, lCA, lSZ, lSS, layL] at H373
    refine d_nil (W_sr (sV rfl (py_loadS tu28 rfl ts28 rfl rfl (At.whole (H373.box 0 rfl))) (s_call (wn rfl) rfl rfl (pc_call Tryz.func17 rfl Tryz_nm17 rfl) (Tryz_laws_toWorld (by assumption) (H373.sees 0 rfl) (H373.sees 1 rfl) (H373.sees 2 rfl) (by assumption)) (fun v99 w157 r99 => ?_))))
    obtain ⟨e157, sa154, sk154, sa155, sk155, sa156, sk156, rfl, r99⟩ := r99
    obtain ⟨fp61, H374⟩ := H373.res e157 r99
    refine s_var (wn rfl) rfl Tryz.zeroValue38 H374 (fun b28 w158 e158 g28 H375 => ?_)
    refine s_stoS (wn rfl) ts38 rfl rfl rfl rfl H375 7 rfl rfl (fun w159 e159 H376 => ?_)
    dsimp only [lNA, lCA, lSZ, lSS, layL] at H376
    refine s_nil (W_sr (sV rfl (py_loadS tu63 rfl ts63 rfl rfl (At.whole (H376.box 1 rfl))) (s_call (wn rfl) rfl rfl (pc_call Tryz.func44 rfl Tryz_nm44 rfl) (Tryz_laws_toRec (by assumption) (H376.sees 3 rfl) (H376.sees 4 rfl) (H376.sees 5 rfl) (by assumption)) (fun v100 w160 r100 => ?_))))
    obtain ⟨e160, sa157, sk157, sa158, sk158, sa159, sk159, rfl, r100⟩ := r100
    obtain ⟨fp62, H377⟩ := H376.res e160 r100
    refine s_var (wn rfl) rfl Tryz.zeroValue68 H377 (fun b29 w161 e161 g29 H378 => ?_)
    refine s_stoS (wn rfl) ts68 rfl rfl rfl rfl H378 9 rfl rfl (fun w162 e162 H379 => ?_)
    dsimp only [lNA, lCA, lSZ, lSS, layL] at H379
    refine s_nil (W_sr (sV rfl (py_loadS tu38 rfl ts38 rfl rfl (At.whole (H379.box 7 rfl))) (sM rfl rfl (sV rfl (py_loadS tu68 rfl ts68 rfl rfl (At.whole (H379.box 9 rfl))) (s_call (wn rfl) rfl rfl (pc_call Tryz.func45 rfl Tryz_nm45 rfl) (Tryz_impl_RedoMove (by assumption) (Wld.see9 (H379.mine 6 rfl)) (Wld.see10 (H379.mine 6 rfl)) (Wld.see11 (H379.mine 6 rfl)) (by assumption) (Rec.see6 (H379.mine 8 rfl)) (Rec.see7 (H379.mine 8 rfl)) (Rec.see8 (H379.mine 8 rfl)) (by first | assumption | omega)) (fun v101 w163 r101 => ?_))))))
    obtain ⟨e163, sa160, sk160, sa161, sk161, sa162, sk162, rfl, r101⟩ := r101
    obtain ⟨fp63, H380⟩ := H379.res e163 r101
    refine s_var (wn rfl) rfl Tryz.zeroValue66 H380 (fun b30 w164 e164 g30 H381 => ?_)
    refine s_stoS (wn rfl) ts66 rfl rfl rfl rfl H381 11 rfl rfl (fun w165 e165 H382 => ?_)
    dsimp only [lNA, lCA, lSZ, lSS, layL] at H382
    refine s_nil (W_seq (W_sr (sV rfl (py_loadS tu66 rfl ts66 rfl rfl (At.whole (H382.box 11 rfl))) (sV rfl (py_loadS tu66 rfl ts66 rfl rfl (At.whole (H382.box 2 rfl))) (s_call (wn rfl) rfl rfl (pc_call Tryz.func46 rfl Tryz_nm46 rfl) (Tryz_laws_eqWorldResult (by assumption) (WldResult.see10 (H382.mine 10 rfl)) (WldResult.see11 (H382.mine 10 rfl)) (WldResult.see12 (H382.mine 10 rfl)) (by assumption) (H382.sees 15 rfl) (H382.sees 16 rfl) (H382.sees 17 rfl)) (fun v102 w166 r102 => ?_))))))
    obtain ⟨e166, rfl⟩ := r102
    have H383 := H382.to e166
    refine sV rfl (py_not rfl) (s_nil (W_if rfl (fun c57 => ?_) (fun c57 => ?_)))
    ·exfalso; simp_all
    ·refine W_skip (W_seq (W_seq (W_drw (S := Ext No _) [(0, true), (1, true), (2, false), (3, false), (4, false)] (by kernel_rfl) (by kernel_rfl) (by kernel_rfl) rfl (fun _ => Ext.refl.drawn _) (fun q11 => ?_))))
     have H384 := H383.drawn q11
     refine dV rfl rfl (fun zw hx => py_loadS tu38 rfl ts38 rfl rfl (At.whole (hx.heap (H384.box 7 rfl)))) (dV rfl rfl (fun zw hx => py_loadS tu28 rfl ts28 rfl rfl (At.whole (hx.heap (H384.box 0 rfl)))) (d_call rfl (wn rfl) rfl rfl (pc_call Tryz.func17 rfl Tryz_nm17 rfl) (Tryz_laws_toWorld (by assumption) (H384.sees 0 rfl) (H384.sees 1 rfl) (H384.sees 2 rfl) (by assumption)) (fun hS _ _ r _ => hS.trans r.1.no) (fun v103 w167 r103 => ?_)))
     obtain ⟨e167, sa163, sk163, sa164, sk164, sa165, sk165, rfl, r103⟩ := r103
     obtain ⟨fp64, H385⟩ := H384.res e167 r103
     have H386 := H385.share 12 rfl
     obtain ⟨sf127, sf128, sf129, sq43, sok43, so127, so128, so129⟩ := own_WldC (H386.seen 18 rfl)
     have H388 := H386.look1 18 rfl so127 (fun b hb => by rw [sq43]; simp [hb])
     have H389 := H388.look1 18 rfl so128 (fun b hb => by rw [sq43]; simp [hb])
     have H390 := H389.look1 18 rfl so129 (fun b hb => by rw [sq43]; simp [hb])
     refine d_call rfl (wn rfl) rfl rfl (pc_call Tryz.func20 rfl Tryz_nm20 rfl) (Tryz_laws_eqWorld (by assumption) (Wld.see9 (H390.mine 6 rfl)) (Wld.see10 (H390.mine 6 rfl)) (Wld.see11 (H390.mine 6 rfl)) (by assumption) (H390.sees 19 rfl) (H390.sees 20 rfl) (H390.sees 21 rfl)) (fun hS _ _ r _ => hS.trans r.1.no) (fun v104 w168 r104 => ?_)
     obtain ⟨e168, rfl⟩ := r104
     have H391 := H390.to e168
     refine d_end rfl (wn rfl) rfl rfl (py_not rfl) (d_nil (W_if rfl (fun c58 => ?_) (fun c58 => ?_)))
     ·exfalso; simp_all
     ·refine W_skip (W_seq (W_seq (W_drw (S := Ext No _) [(0, true), (1, true), (2, false), (3, false), (4, false)] (by kernel_rfl) (by kernel_rfl) (by kernel_rfl) rfl (fun _ => Ext.refl.drawn _) (fun q12 => ?_))))
      have H392 := H391.drawn q12
      refine dV rfl rfl (fun zw hx => py_loadS tu68 rfl ts68 rfl rfl (At.whole (hx.heap (H392.box 9 rfl)))) (dV rfl rfl (fun zw hx => py_loadS tu63 rfl ts63 rfl rfl (At.whole (hx.heap (H392.box 1 rfl)))) (d_call rfl (wn rfl) rfl rfl (pc_call Tryz.func44 rfl Tryz_nm44 rfl) (Tryz_laws_toRec (by assumption) (H392.sees 3 rfl) (H392.sees 4 rfl) (H392.sees 5 rfl) (by assumption)) (fun hS _ _ r _ => hS.trans r.1.no) (fun v105 w169 r105 => ?_)))
      obtain ⟨e169, sa166, sk166, sa167, sk167, sa168, sk168, rfl, r105⟩ := r105
      obtain ⟨fp65, H393⟩ := H392.res e169 r105
      have H394 := H393.share 13 rfl
      obtain ⟨sf130, sf131, sf132, sq44, sok44, so130, so131, so132⟩ := own_RecC (H394.seen 22 rfl)
      have H396 := H394.look1 22 rfl so130 (fun b hb => by rw [sq44]; simp [hb])
      have H397 := H396.look1 22 rfl so131 (fun b hb => by rw [sq44]; simp [hb])
      have H398 := H397.look1 22 rfl so132 (fun b hb => by rw [sq44]; simp [hb])
      refine d_call rfl (wn rfl) rfl rfl (pc_call Tryz.func47 rfl Tryz_nm47 rfl) (Tryz_laws_eqRec (by assumption) (Rec.see6 (H398.mine 8 rfl)) (Rec.see7 (H398.mine 8 rfl)) (Rec.see8 (H398.mine 8 rfl)) (by assumption) (H398.sees 23 rfl) (H398.sees 24 rfl) (H398.sees 25 rfl)) (fun hS _ _ r _ => hS.trans r.1.no) (fun v106 w170 r106 => ?_)
      obtain ⟨e170, rfl⟩ := r106
      have H399 := H398.to e170
      refine d_end rfl (wn rfl) rfl rfl (py_not rfl) (d_nil (W_if rfl (fun c59 => ?_) (fun c59 => ?_)))
      ·exfalso; simp_all
      ·refine W_skip (W_sr (sA rfl rfl (s_nil (W_sr (sV rfl (py_loadS tu38 rfl ts38 rfl rfl (At.whole (H399.box 7 rfl))) (sM rfl rfl (s_call (wn rfl) rfl rfl (pc_call Tryz.func21 rfl Tryz_nm21 rfl) (Tryz_laws_markWorld (by assumption) (H399.mine 6 rfl) (H399.nodup1 (i := 6) rfl) (by constructor <;> omega)) (fun v107 w171 r107 => ?_))))))))
       obtain ⟨rfl, mx10, mm10, ml10⟩ := r107
       obtain ⟨fp66, H400⟩ := H399.mut 6 rfl mm10
       try dsimp only [lNA, lCA, lSZ, lSS] at H400
       refine sA rfl rfl (s_nil (W_sr (sV rfl (py_loadS tu68 rfl ts68 rfl rfl (At.whole (H400.box 9 rfl))) (sM rfl rfl (s_call (wn rfl) rfl rfl (pc_call Tryz.func48 rfl Tryz_nm48 rfl) (Tryz_laws_markRec (by assumption) (H400.mine 8 rfl) (H400.nodup1 (i := 8) rfl) (by constructor <;> omega)) (fun v108 w172 r108 => ?_))))))
       obtain ⟨rfl, mx11, mm11, ml11⟩ := r108
       obtain ⟨fp67, H401⟩ := H400.mut 8 rfl mm11
       try dsimp only [lNA, lCA, lSZ, lSS] at H401
       refine sA rfl rfl (s_nil (W_seq (W_sr (sM rfl rfl (sV rfl (py_lss rfl rfl) (sM rfl rfl (s_grp 4 (j := 2) (want := false) (t := 66) rfl rfl rfl rfl (fun hg4 kk4 => s_val (wgE rfl rfl rfl hg4) rfl rfl (py_loadS tu66 rfl ts66 rfl rfl (At.whole (H401.box 11 rfl))) (s_val (wgE rfl rfl rfl hg4) rfl rfl (py_loadS tu66 rfl ts66 rfl rfl (At.whole (H401.box 2 rfl))) (s_callv (wgE rfl rfl rfl hg4) rfl rfl (pc_call Tryz.func46 rfl Tryz_nm46 rfl) (Tryz_laws_eqWorldResult (by assumption) (WldResult.see10 (H401.mine 10 rfl)) (WldResult.see11 (H401.mine 10 rfl)) (WldResult.see12 (H401.mine 10 rfl)) (by assumption) (H401.sees 15 rfl) (H401.sees 16 rfl) (H401.sees 17 rfl)) (fun w174 e174 => s_val (wgE rfl rfl rfl hg4) rfl rfl (py_not rfl) (kk4 _ _ (kx rfl (kx rfl (kx rfl (kx rfl k0)))) rfl (Ext.refl.trans e174)))))) (fun w173 e173 => ?_))))))))
       have H402 := H401.to e173
       refine sV rfl (py_bor rfl rfl) (s_nil (W_if rfl (fun c60 => ?_) (fun c60 => ?_)))
       ·exact absurd c60 (by simp; omega)
       ·refine W_skip (W_sr (sA rfl rfl (s_nil (W_sr (sV rfl (py_loadS tu66 rfl ts66 rfl rfl (At.whole (H402.box 11 rfl))) (sM rfl rfl (s_call (wn rfl) rfl rfl (pc_call Tryz.func49 rfl Tryz_nm49 rfl) (Tryz_laws_markWorldResult (H402.mine 10 rfl) (H402.nodup1 (i := 10) rfl) (by constructor <;> omega)) (fun v109 w175 r109 => ?_))))))))
        obtain ⟨rfl, mx12, mm12, ml12⟩ := r109
        obtain ⟨fp68, H403⟩ := H402.mut 10 rfl mm12
        try dsimp only [lNA, lCA, lSZ, lSS] at H403
        refine sA rfl rfl (s_nil (W_sr (sA rfl rfl (s_nil (W_sr (sV rfl (py_loadS tu66 rfl ts66 rfl rfl (At.whole (H403.box 11 rfl))) (sM rfl rfl (s_call (wn rfl) rfl rfl (pc_call Tryz.func50 rfl Tryz_nm50 rfl) (Tryz_laws_heldWorldResult (x := mx12) (wr_see (H403.mine 10 rfl)).1 (wr_see (H403.mine 10 rfl)).2.1 (wr_see (H403.mine 10 rfl)).2.2 (by have := ml12.2.2.2.1; constructor <;> omega) ml12.2.2.2.2.1) (fun v110 w176 r110 => ?_)))))))))
        obtain ⟨e176, rfl⟩ := r110
        have H404 := H403.to e176
        refine sA rfl rfl (s_nil (W_seq (W_seq ?_)))
        have hq := ml12.2.2.2.1
        refine W_reg (sM rfl rfl (sV rfl (py_lss rfl rfl) (s_nil (W_ifd rfl (fun c61 => ?_) (fun c61 => ?_)))))
        ·exact absurd c61 (by omega)
        ·refine W_skip (W_seq (W_sr (sM rfl rfl (sM rfl rfl (sV rfl (py_neq rfl rfl) (s_nil (W_ifd rfl (fun c62 => ?_) (fun c62 => ?_))))))))
         ·exact absurd c62 (by omega)
         ·refine W_skip (W_seq (W_drw (S := Ext No _) [(0, true), (2, true), (3, true), (1014, false), (1, false), (1008, false), (4, false), (1003, false), (5, false), (6, false), (7, false), (6, false), (5, false), (7, false), (6, false), (4, false), (5, false), (7, false), (6, false), (1, false), (4, false), (5, false), (7, false)] (by kernel_rfl) (by kernel_rfl) (by kernel_rfl) rfl (fun _ => Ext.refl.drawn _) (fun q13 => ?_)))
          have H405 := H404.drawn q13
          refine dV rfl rfl (fun zw hx => py_loadS tu28 rfl ts28 rfl rfl (At.whole (hx.heap (H405.box 0 rfl)))) (dM rfl rfl rfl (dV rfl rfl (fun zw hx => py_loadS tu63 rfl ts63 rfl rfl (At.whole (hx.heap (H405.box 1 rfl)))) (d_fork (l1 := [(1, false), (1008, false), (4, false), (1003, false), (5, false), (6, false), (7, false), (6, false), (5, false), (7, false), (6, false), (4, false), (5, false), (7, false)]) (l2 := [(6, false), (1, false), (4, false), (5, false), (7, false)]) rfl rfl rfl rfl ?_ ?_)))
          ·refine d_call rfl (wn rfl) rfl rfl (pc_call Tryz.func17 rfl Tryz_nm17 rfl) (Tryz_laws_toWorld (by assumption) (H405.sees 0 rfl) (H405.sees 1 rfl) (H405.sees 2 rfl) (by assumption)) (fun hS _ _ r _ => hS.trans r.1.no) (fun v111 w177 r111 => ?_)
           obtain ⟨e177, sa169, sk169, sa170, sk170, sa171, sk171, rfl, r111⟩ := r111
           obtain ⟨fp69, H406⟩ := H405.res e177 r111
           have H407 := H406.share 14 rfl
           obtain ⟨sf133, sf134, sf135, sq45, sok45, so133, so134, so135⟩ := own_WldC (H407.seen 26 rfl)
           have H409 := H407.look1 26 rfl so133 (fun b hb => by rw [sq45]; simp [hb])
           have H410 := H409.look1 26 rfl so134 (fun b hb => by rw [sq45]; simp [hb])
           have H411 := H410.look1 26 rfl so135 (fun b hb => by rw [sq45]; simp [hb])
           refine d_fork (l1 := [(4, false), (1003, false), (5, false), (6, false), (7, false), (6, false), (5, false), (7, false)]) (l2 := [(6, false), (4, false), (5, false), (7, false)]) rfl rfl rfl rfl ?_ ?_
           ·refine d_call rfl (wn rfl) rfl rfl (pc_call Tryz.func44 rfl Tryz_nm44 rfl) (Tryz_laws_toRec (by assumption) (H411.sees 3 rfl) (H411.sees 4 rfl) (H411.sees 5 rfl) (by assumption)) (fun hS _ _ r _ => hS.trans r.1.no) (fun v112 w178 r112 => ?_)
            obtain ⟨e178, sa172, sk172, sa173, sk173, sa174, sk174, rfl, r112⟩ := r112
            obtain ⟨fp70, H412⟩ := H411.res e178 r112
            have H413 := H412.share 15 rfl
            obtain ⟨sf136, sf137, sf138, sq46, sok46, so136, so137, so138⟩ := own_RecC (H413.seen 30 rfl)
            have H415 := H413.look1 30 rfl so136 (fun b hb => by rw [sq46]; simp [hb])
            have H416 := H415.look1 30 rfl so137 (fun b hb => by rw [sq46]; simp [hb])
            have H417 := H416.look1 30 rfl so138 (fun b hb => by rw [sq46]; simp [hb])
            refine d_fork (l1 := [(5, false), (6, false), (7, false)]) (l2 := [(6, false), (5, false), (7, false)]) rfl rfl rfl rfl ?_ ?_
            ·refine d_call rfl (wn rfl) rfl rfl (pc_call Tryz.func45 rfl Tryz_nm45 rfl) (Tryz_impl_RedoMove (by assumption) (H417.sees 27 rfl) (H417.sees 28 rfl) (H417.sees 29 rfl) (by assumption) (H417.sees 31 rfl) (H417.sees 32 rfl) (H417.sees 33 rfl) (by first | assumption | omega)) (fun hS _ _ r _ => hS.trans r.1.no) (fun v113 w179 r113 => ?_)
             obtain ⟨e179, sa175, sk175, sa176, sk176, sa177, sk177, rfl, r113⟩ := r113
             obtain ⟨fp71, H418⟩ := H417.res e179 r113
             have H419 := H418.share 16 rfl
             obtain ⟨sf139, sf140, sf141, sq47, sok47, so139, so140, so141⟩ := own_WldResultC (H419.seen 34 rfl)
             have H421 := H419.look1 34 rfl so139 (fun b hb => by rw [sq47]; simp [hb])
             have H422 := H421.look1 34 rfl so140 (fun b hb => by rw [sq47]; simp [hb])
             have H423 := H422.look1 34 rfl so141 (fun b hb => by rw [sq47]; simp [hb])
             refine d_var rfl (wn rfl) rfl Tryz.zeroValue66 H423 (fun _ h e => h.trans e.no) (fun b31 w180 e180 g31 H424 => ?_)
             refine d_stoS rfl (wn rfl) ts66 rfl rfl rfl rfl H424 17 rfl rfl (fun _ _ _ hr => absurd rfl hr) (fun w181 e181 H425 => ?_)
             dsimp only [lNA, lCA, lSZ, lSS, layL] at H425
             refine d_nil (W_seq (W_sr (sV rfl (py_loadS tu66 rfl ts66 rfl rfl (At.whole (H425.box 17 rfl))) (sV rfl (py_loadS tu66 rfl ts66 rfl rfl (At.whole (H425.box 2 rfl))) (s_call (wn rfl) rfl rfl (pc_call Tryz.func46 rfl Tryz_nm46 rfl) (Tryz_laws_eqWorldResult (by assumption) (H425.sees 35 rfl) (H425.sees 36 rfl) (H425.sees 37 rfl) (by assumption) (H425.sees 15 rfl) (H425.sees 16 rfl) (H425.sees 17 rfl)) (fun v114 w182 r114 => ?_))))))
             obtain ⟨e182, rfl⟩ := r114
             have H426 := H425.to e182
             refine sV rfl (py_not rfl) (s_nil (W_if rfl (fun c63 => ?_) (fun c63 => ?_)))
             ·exfalso; simp_all
             ·refine W_skip (W_sr (sA rfl rfl (s_nil (W_sr (sV rfl (py_loadS tu66 rfl ts66 rfl rfl (At.whole (H426.box 11 rfl))) (sM rfl rfl (s_call (wn rfl) rfl rfl (pc_call Tryz.func50 rfl Tryz_nm50 rfl) (Tryz_laws_heldWorldResult (x := mx12) (wr_see (H426.mine 10 rfl)).1 (wr_see (H426.mine 10 rfl)).2.1 (wr_see (H426.mine 10 rfl)).2.2 (by have := ml12.2.2.2.1; constructor <;> omega) ml12.2.2.2.2.1) (fun v115 w183 r115 => ?_))))))))
              obtain ⟨e183, rfl⟩ := r115
              have H427 := H426.to e183
              refine sA rfl rfl (s_nil (W_seq (W_sr (sM rfl rfl (sV rfl (py_lss rfl rfl) (s_nil (W_ifd rfl (fun c64 => ?_) (fun c64 => ?_))))))))
              ·exact absurd c64 (by omega)
              ·refine W_skip (W_seq (W_sr (sM rfl rfl (sM rfl rfl (sV rfl (py_neq rfl rfl) (s_nil (W_ifd rfl (fun c65 => ?_) (fun c65 => ?_))))))))
               ·exact absurd c65 (by omega)
               ·refine W_skip (W_sr (sA rfl rfl (s_nil (rT hQ Tryz.results10 rfl ?_))))
                exact ⟨H427.ext, rfl⟩
            ·refine d_var rfl (wn rfl) rfl Tryz.zeroValue66 H417 (fun _ h e => h.trans e.no) (fun b32 w184 e184 g32 H428 => ?_)
             refine d_call rfl (wn rfl) rfl rfl (pc_call Tryz.func45 rfl Tryz_nm45 rfl) (Tryz_impl_RedoMove (by assumption) (H428.sees 27 rfl) (H428.sees 28 rfl) (H428.sees 29 rfl) (by assumption) (H428.sees 31 rfl) (H428.sees 32 rfl) (H428.sees 33 rfl) (by first | assumption | omega)) (fun hS _ _ r _ => hS.trans r.1.no) (fun v116 w185 r116 => ?_)
             obtain ⟨e185, sa178, sk178, sa179, sk179, sa180, sk180, rfl, r116⟩ := r116
             obtain ⟨fp72, H429⟩ := H428.res e185 r116
             have H430 := H429.share 17 rfl
             obtain ⟨sf142, sf143, sf144, sq48, sok48, so142, so143, so144⟩ := own_WldResultC (H430.seen 34 rfl)
             have H432 := H430.look1 34 rfl so142 (fun b hb => by rw [sq48]; simp [hb])
             have H433 := H432.look1 34 rfl so143 (fun b hb => by rw [sq48]; simp [hb])
             have H434 := H433.look1 34 rfl so144 (fun b hb => by rw [sq48]; simp [hb])
             refine d_stoS rfl (wn rfl) ts66 rfl rfl rfl rfl H434 16 rfl rfl (fun _ _ _ hr => absurd rfl hr) (fun w186 e186 H435 => ?_)
             dsimp only [lNA, lCA, lSZ, lSS, layL] at H435
             refine d_nil (W_seq (W_sr (sV rfl (py_loadS tu66 rfl ts66 rfl rfl (At.whole (H435.box 16 rfl))) (sV rfl (py_loadS tu66 rfl ts66 rfl rfl (At.whole (H435.box 2 rfl))) (s_call (wn rfl) rfl rfl (pc_call Tryz.func46 rfl Tryz_nm46 rfl) (Tryz_laws_eqWorldResult (by assumption) (H435.sees 35 rfl) (H435.sees 36 rfl) (H435.sees 37 rfl) (by assumption) (H435.sees 15 rfl) (H435.sees 16 rfl) (H435.sees 17 rfl)) (fun v117 w187 r117 => ?_))))))
             obtain ⟨e187, rfl⟩ := r117
             have H436 := H435.to e187
             refine sV rfl (py_not rfl) (s_nil (W_if rfl (fun c66 => ?_) (fun c66 => ?_)))
             ·exfalso; simp_all
             ·refine W_skip (W_sr (sA rfl rfl (s_nil (W_sr (sV rfl (py_loadS tu66 rfl ts66 rfl rfl (At.whole (H436.box 11 rfl))) (sM rfl rfl (s_call (wn rfl) rfl rfl (pc_call Tryz.func50 rfl Tryz_nm50 rfl) (Tryz_laws_heldWorldResult (x := mx12) (wr_see (H436.mine 10 rfl)).1 (wr_see (H436.mine 10 rfl)).2.1 (wr_see (H436.mine 10 rfl)).2.2 (by have := ml12.2.2.2.1; constructor <;> omega) ml12.2.2.2.2.1) (fun v118 w188 r118 => ?_))))))))
              obtain ⟨e188, rfl⟩ := r118
              have H437 := H436.to e188
              refine sA rfl rfl (s_nil (W_seq (W_sr (sM rfl rfl (sV rfl (py_lss rfl rfl) (s_nil (W_ifd rfl (fun c67 => ?_) (fun c67 => ?_))))))))
              ·exact absurd c67 (by omega)
              ·refine W_skip (W_seq (W_sr (sM rfl rfl (sM rfl rfl (sV rfl (py_neq rfl rfl) (s_nil (W_ifd rfl (fun c68 => ?_) (fun c68 => ?_))))))))
               ·exact absurd c68 (by omega)
               ·refine W_skip (W_sr (sA rfl rfl (s_nil (rT hQ Tryz.results10 rfl ?_))))
                exact ⟨H437.ext, rfl⟩
           ·refine d_var rfl (wn rfl) rfl Tryz.zeroValue66 H411 (fun _ h e => h.trans e.no) (fun b33 w189 e189 g33 H438 => ?_)
            refine d_call rfl (wn rfl) rfl rfl (pc_call Tryz.func44 rfl Tryz_nm44 rfl) (Tryz_laws_toRec (by assumption) (H438.sees 3 rfl) (H438.sees 4 rfl) (H438.sees 5 rfl) (by assumption)) (fun hS _ _ r _ => hS.trans r.1.no) (fun v119 w190 r119 => ?_)
            obtain ⟨e190, sa181, sk181, sa182, sk182, sa183, sk183, rfl, r119⟩ := r119
            obtain ⟨fp73, H439⟩ := H438.res e190 r119
            have H440 := H439.share 16 rfl
            obtain ⟨sf145, sf146, sf147, sq49, sok49, so145, so146, so147⟩ := own_RecC (H440.seen 30 rfl)
            have H442 := H440.look1 30 rfl so145 (fun b hb => by rw [sq49]; simp [hb])
            have H443 := H442.look1 30 rfl so146 (fun b hb => by rw [sq49]; simp [hb])
            have H444 := H443.look1 30 rfl so147 (fun b hb => by rw [sq49]; simp [hb])
            refine d_call rfl (wn rfl) rfl rfl (pc_call Tryz.func45 rfl Tryz_nm45 rfl) (Tryz_impl_RedoMove (by assumption) (H444.sees 27 rfl) (H444.sees 28 rfl) (H444.sees 29 rfl) (by assumption) (H444.sees 31 rfl) (H444.sees 32 rfl) (H444.sees 33 rfl) (by first | assumption | omega)) (fun hS _ _ r _ => hS.trans r.1.no) (fun v120 w191 r120 => ?_)
            obtain ⟨e191, sa184, sk184, sa185, sk185, sa186, sk186, rfl, r120⟩ := r120
            obtain ⟨fp74, H445⟩ := H444.res e191 r120
            have H446 := H445.share 17 rfl
            obtain ⟨sf148, sf149, sf150, sq50, sok50, so148, so149, so150⟩ := own_WldResultC (H446.seen 34 rfl)
            have H448 := H446.look1 34 rfl so148 (fun b hb => by rw [sq50]; simp [hb])
            have H449 := H448.look1 34 rfl so149 (fun b hb => by rw [sq50]; simp [hb])
            have H450 := H449.look1 34 rfl so150 (fun b hb => by rw [sq50]; simp [hb])
            refine d_stoS rfl (wn rfl) ts66 rfl rfl rfl rfl H450 15 rfl rfl (fun _ _ _ hr => absurd rfl hr) (fun w192 e192 H451 => ?_)
            dsimp only [lNA, lCA, lSZ, lSS, layL] at H451
            refine d_nil (W_seq (W_sr (sV rfl (py_loadS tu66 rfl ts66 rfl rfl (At.whole (H451.box 15 rfl))) (sV rfl (py_loadS tu66 rfl ts66 rfl rfl (At.whole (H451.box 2 rfl))) (s_call (wn rfl) rfl rfl (pc_call Tryz.func46 rfl Tryz_nm46 rfl) (Tryz_laws_eqWorldResult (by assumption) (H451.sees 35 rfl) (H451.sees 36 rfl) (H451.sees 37 rfl) (by assumption) (H451.sees 15 rfl) (H451.sees 16 rfl) (H451.sees 17 rfl)) (fun v121 w193 r121 => ?_))))))
            obtain ⟨e193, rfl⟩ := r121
            have H452 := H451.to e193
            refine sV rfl (py_not rfl) (s_nil (W_if rfl (fun c69 => ?_) (fun c69 => ?_)))
            ·exfalso; simp_all
            ·refine W_skip (W_sr (sA rfl rfl (s_nil (W_sr (sV rfl (py_loadS tu66 rfl ts66 rfl rfl (At.whole (H452.box 11 rfl))) (sM rfl rfl (s_call (wn rfl) rfl rfl (pc_call Tryz.func50 rfl Tryz_nm50 rfl) (Tryz_laws_heldWorldResult (x := mx12) (wr_see (H452.mine 10 rfl)).1 (wr_see (H452.mine 10 rfl)).2.1 (wr_see (H452.mine 10 rfl)).2.2 (by have := ml12.2.2.2.1; constructor <;> omega) ml12.2.2.2.2.1) (fun v122 w194 r122 => ?_))))))))
             obtain ⟨e194, rfl⟩ := r122
             have H453 := H452.to e194
             refine sA rfl rfl (s_nil (W_seq (W_sr (sM rfl rfl (sV rfl (py_lss rfl rfl) (s_nil (W_ifd rfl (fun c70 => ?_) (fun c70 => ?_))))))))
             ·exact absurd c70 (by omega)
             ·refine W_skip (W_seq (W_sr (sM rfl rfl (sM rfl rfl (sV rfl (py_neq rfl rfl) (s_nil (W_ifd rfl (fun c71 => ?_) (fun c71 => ?_))))))))
              ·exact absurd c71 (by omega)
              ·refine W_skip (W_sr (sA rfl rfl (s_nil (rT hQ Tryz.results10 rfl ?_))))
               exact ⟨H453.ext, rfl⟩
          ·refine d_var rfl (wn rfl) rfl Tryz.zeroValue66 H405 (fun _ h e => h.trans e.no) (fun b34 w195 e195 g34 H454 => ?_)
           refine d_call rfl (wn rfl) rfl rfl (pc_call Tryz.func17 rfl Tryz_nm17 rfl) (Tryz_laws_toWorld (by assumption) (H454.sees 0 rfl) (H454.sees 1 rfl) (H454.sees 2 rfl) (by assumption)) (fun hS _ _ r _ => hS.trans r.1.no) (fun v123 w196 r123 => ?_)
           obtain ⟨e196, sa187, sk187, sa188, sk188, sa189, sk189, rfl, r123⟩ := r123
           obtain ⟨fp75, H455⟩ := H454.res e196 r123
           have H456 := H455.share 15 rfl
           obtain ⟨sf151, sf152, sf153, sq51, sok51, so151, so152, so153⟩ := own_WldC (H456.seen 26 rfl)
           have H458 := H456.look1 26 rfl so151 (fun b hb => by rw [sq51]; simp [hb])
           have H459 := H458.look1 26 rfl so152 (fun b hb => by rw [sq51]; simp [hb])
           have H460 := H459.look1 26 rfl so153 (fun b hb => by rw [sq51]; simp [hb])
           refine d_call rfl (wn rfl) rfl rfl (pc_call Tryz.func44 rfl Tryz_nm44 rfl) (Tryz_laws_toRec (by assumption) (H460.sees 3 rfl) (H460.sees 4 rfl) (H460.sees 5 rfl) (by assumption)) (fun hS _ _ r _ => hS.trans r.1.no) (fun v124 w197 r124 => ?_)
           obtain ⟨e197, sa190, sk190, sa191, sk191, sa192, sk192, rfl, r124⟩ := r124
           obtain ⟨fp76, H461⟩ := H460.res e197 r124
           have H462 := H461.share 16 rfl
           obtain ⟨sf154, sf155, sf156, sq52, sok52, so154, so155, so156⟩ := own_RecC (H462.seen 30 rfl)
           have H464 := H462.look1 30 rfl so154 (fun b hb => by rw [sq52]; simp [hb])
           have H465 := H464.look1 30 rfl so155 (fun b hb => by rw [sq52]; simp [hb])
           have H466 := H465.look1 30 rfl so156 (fun b hb => by rw [sq52]; simp [hb])
           refine d_call rfl (wn rfl) rfl rfl (pc_call Tryz.func45 rfl Tryz_nm45 rfl) (Tryz_impl_RedoMove (by assumption) (H466.sees 27 rfl) (H466.sees 28 rfl) (H466.sees 29 rfl) (by assumption) (H466.sees 31 rfl) (H466.sees 32 rfl) (H466.sees 33 rfl) (by first | assumption | omega)) (fun hS _ _ r _ => hS.trans r.1.no) (fun v125 w198 r125 => ?_)
           obtain ⟨e198, sa193, sk193, sa194, sk194, sa195, sk195, rfl, r125⟩ := r125
           obtain ⟨fp77, H467⟩ := H466.res e198 r125
           have H468 := H467.share 17 rfl
           obtain ⟨sf157, sf158, sf159, sq53, sok53, so157, so158, so159⟩ := own_WldResultC (H468.seen 34 rfl)
           have H470 := H468.look1 34 rfl so157 (fun b hb => by rw [sq53]; simp [hb])
           have H471 := H470.look1 34 rfl so158 (fun b hb => by rw [sq53]; simp [hb])
           have H472 := H471.look1 34 rfl so159 (fun b hb => by rw [sq53]; simp [hb])
           refine d_stoS rfl (wn rfl) ts66 rfl rfl rfl rfl H472 14 rfl rfl (fun _ _ _ hr => absurd rfl hr) (fun w199 e199 H473 => ?_)
           dsimp only [lNA, lCA, lSZ, lSS, layL] at H473
           refine d_nil (W_seq (W_sr (sV rfl (py_loadS tu66 rfl ts66 rfl rfl (At.whole (H473.box 14 rfl))) (sV rfl (py_loadS tu66 rfl ts66 rfl rfl (At.whole (H473.box 2 rfl))) (s_call (wn rfl) rfl rfl (pc_call Tryz.func46 rfl Tryz_nm46 rfl) (Tryz_laws_eqWorldResult (by assumption) (H473.sees 35 rfl) (H473.sees 36 rfl) (H473.sees 37 rfl) (by assumption) (H473.sees 15 rfl) (H473.sees 16 rfl) (H473.sees 17 rfl)) (fun v126 w200 r126 => ?_))))))
           obtain ⟨e200, rfl⟩ := r126
           have H474 := H473.to e200
           refine sV rfl (py_not rfl) (s_nil (W_if rfl (fun c72 => ?_) (fun c72 => ?_)))
           ·exfalso; simp_all
           ·refine W_skip (W_sr (sA rfl rfl (s_nil (W_sr (sV rfl (py_loadS tu66 rfl ts66 rfl rfl (At.whole (H474.box 11 rfl))) (sM rfl rfl (s_call (wn rfl) rfl rfl (pc_call Tryz.func50 rfl Tryz_nm50 rfl) (Tryz_laws_heldWorldResult (x := mx12) (wr_see (H474.mine 10 rfl)).1 (wr_see (H474.mine 10 rfl)).2.1 (wr_see (H474.mine 10 rfl)).2.2 (by have := ml12.2.2.2.1; constructor <;> omega) ml12.2.2.2.2.1) (fun v127 w201 r127 => ?_))))))))
            obtain ⟨e201, rfl⟩ := r127
            have H475 := H474.to e201
            refine sA rfl rfl (s_nil (W_seq (W_sr (sM rfl rfl (sV rfl (py_lss rfl rfl) (s_nil (W_ifd rfl (fun c73 => ?_) (fun c73 => ?_))))))))
            ·exact absurd c73 (by omega)
            ·refine W_skip (W_seq (W_sr (sM rfl rfl (sM rfl rfl (sV rfl (py_neq rfl rfl) (s_nil (W_ifd rfl (fun c74 => ?_) (fun c74 => ?_))))))))
             ·exact absurd c74 (by omega)
             ·refine W_skip (W_sr (sA rfl rfl (s_nil (rT hQ Tryz.results10 rfl ?_))))
              exact ⟨H475.ext, rfl⟩
end Go.Wk
