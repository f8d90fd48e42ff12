/-
  Laws on walking, and the functions walked, each once: what this claim comes to.
-/
import Derived.Test.YthfpkjhjkbpbiaaGreatZc3
set_option linter.unusedVariables false
set_option linter.unusedSimpArgs false
namespace Go.Wk
open Go.Proofs Rp
set_option maxRecDepth 10000
set_option maxHeartbeats 1000000 in
theorem Tryz_spec_l5Built {w : World} {z : Wld} {zA9 zA10 zA11 : Option Addr} {zC9 zC10 zC11 : Nat} (zK : z.Ok) (zS9 : Sees w [.slice zA9 z.Groups.length zC9] z.Groups) (zS10 : Sees w [.slice zA10 z.On.length zC10] z.On) (zS11 : Sees w [.slice zA11 z.Tapes.length zC11] z.Tapes) (hs : z.Shape.ok = true) : Ret Tryz.prog 160 #[z.val zA9 zC9 zA10 zC10 zA11 zC11] w fun v w' => Ext No w w' ∧ (v = .bool (groupsOK z)) := by
 have zK2 := zK
 unfold Wld.Ok Shape.Ok at zK2
 try unfold I64ok at zK2
 try unfold maxLen at zK2
 have zL9 := sL zS9
 obtain ⟨zF9, zO9⟩ := zS9
 have zL10 := sL zS10
 obtain ⟨zF10, zO10⟩ := zS10
 have zL11 := sL zS11
 obtain ⟨zF11, zO11⟩ := zS11
 have sbd := shape_bd hs
 refine ret_Q (vs := [z.val zA9 zC9 zA10 zC10 zA11 zC11]) Tryz.func160 rfl Tryz.ntmps160 rfl (fun Q hQ hN => ?_)
 have H0 := Sep.start (w := w) (F := [seen false [.slice zA9 z.Groups.length zC9] z.Groups zF9, seen false [.slice zA10 z.On.length zC10] z.On zF10, seen false [.slice zA11 z.Tapes.length zC11] z.Tapes zF11]) (all_cons zO9 (all_cons zO10 (all_cons zO11 (by simp))))
 refine W_sr (s_box (wn rfl) rfl rfl H0 (fun b1 w1 e1 g1 H1 => ?_))
 refine sA rfl rfl (s_nil (W_sr (sV rfl (py_field tu38 rfl ts34 rfl rfl) (sV rfl (py_loadS tu34 rfl ts34 rfl rfl (At.sub (H1.box 0 rfl) 9)) (s_var (wn rfl) rfl Tryz.zeroValue34 H1 (fun b2 w2 e2 g2 H2 => ?_))))))
 refine s_stoS (wn rfl) ts34 rfl rfl rfl rfl H2 1 rfl rfl (fun w3 e3 H3 => ?_)
 dsimp only [lNA, lCA, lSZ, lSS, layL] at H3
 refine s_nil (W_seq (W_seq (W_drw (S := Ext No _) [(0, true), (1, true), (2, true), (3, true), (4, false), (5, false)] (by kernel_rfl) (by kernel_rfl) (by kernel_rfl) rfl (fun _ => Ext.refl.drawn _) (fun q1 => ?_))))
 have H4 := H3.drawn q1
 refine dV rfl rfl (fun zw hx => py_field tu38 rfl ts35 rfl rfl) (dV rfl rfl (fun zw hx => py_load tu35 rfl rfl (cell_atL (hx.heap (H4.box 0 rfl)) rfl)) (dV rfl rfl (fun zw hx => py_len tu35 rfl) (dV rfl rfl (fun zw hx => py_loadS tu34 rfl ts34 rfl rfl (At.whole (hx.heap (H4.box 1 rfl)))) (d_call rfl (wn rfl) rfl rfl (pc_call Tryz.func162 rfl Tryz_nm162 rfl) (Tryz_spec_l5All (by assumption)) (fun hS _ _ r _ => hS.trans r.1.no) (fun v1 w4 r1 => ?_)))))
 obtain ⟨e4, rfl⟩ := r1
 have H5 := H4.to e4
 refine d_end rfl (wn rfl) rfl rfl (py_neq rfl rfl) (d_nil (W_ifd rfl (fun c1 => ?_) (fun c1 => ?_)))
 ·refine W_sr (sA rfl rfl (s_nil (rT hQ Tryz.results160 rfl ?_)))
  exact ⟨H5.ext, congrArg Value.bool (groupsOK_len (by omega)).symm⟩
 ·refine W_skip (W_seq (W_sr (sA rfl rfl (s_nil (W_block (W_loopS (γ := Nat) H5 [(1, _), (3, _)] ⟨rfl, rfl, trivial⟩ (fun k => [(4, .int .i64 k)]) (fun k => k ≤ z.Groups.length ∧ (∀ i, i < k → groupOK z.Shape (z.Groups.getD i []) = true)) (fun k => z.Groups.length - k) 0 ⟨rfl, trivial⟩ ⟨by omega, fun i hi => by omega⟩ (fun k w5 H6 ⟨hk, he⟩ => ?_)))))))
  dsimp only [lCA, lNA]
  refine W_seq (W_sr (sM rfl rfl (sV rfl (py_field tu38 rfl ts35 rfl rfl) (sV rfl (py_load tu35 rfl rfl (cell_atL (H6.box 0 rfl) rfl)) (sV rfl (py_len tu35 rfl) (sV rfl (py_lss rfl rfl) (s_nil (W_ifd rfl (fun c2 => ?_) (fun c2 => ?_)))))))))
  ·refine W_skip (W_seq (W_block (W_seq (W_seq ?_))))
   obtain ⟨eb1, eo1, ea1, ek1, ef1, ee1, ec1, eO1, eH1⟩ := elem_sl (H6.seen 0 rfl) k (by omega)
   have eP1 := H6.look1 0 rfl eO1 eH1
   refine W_drw (S := Ext No _) [(0, true), (1, true), (2, true), (3, true), (4, true), (5, true), (6, true), (7, false), (8, false)] (by kernel_rfl) (by kernel_rfl) (by kernel_rfl) rfl (fun _ => Ext.refl.drawn _) (fun q2 => ?_)
   have H7 := eP1.drawn q2
   refine dV rfl rfl (fun zw hx => py_field tu38 rfl ts35 rfl rfl) (dV rfl rfl (fun zw hx => py_load tu35 rfl rfl (cell_atL (hx.heap (H7.box 0 rfl)) rfl)) (dM rfl rfl rfl (dV rfl rfl (fun zw hx => py_elz tu35 ts142 rfl rfl ee1 k (by omega) (by omega)) (dV rfl rfl (fun zw hx => py_load tu142 rfl rfl (hx.cell ec1)) (dV rfl rfl (fun zw hx => py_len tu142 rfl) (dV rfl rfl (fun zw hx => py_loadS tu34 rfl ts34 rfl rfl (At.whole (hx.heap (H7.box 1 rfl)))) (d_call rfl (wn rfl) rfl rfl (pc_call Tryz.func232 rfl Tryz_nm232 rfl) (Tryz_spec_l5Drives (by assumption)) (fun hS _ _ r _ => hS.trans r.1.no) (fun v2 w6 r2 => ?_))))))))
   obtain ⟨e5, rfl⟩ := r2
   have H8 := H7.to e5
   refine d_end rfl (wn rfl) rfl rfl (py_neq rfl rfl) (d_nil (W_ifd rfl (fun c3 => ?_) (fun c3 => ?_)))
   ·refine W_sr (sA rfl rfl (s_nil (rT hQ Tryz.results160 rfl ?_)))
    exact ⟨H8.ext, congrArg Value.bool (groupsOK_at k (by omega) (groupOK_len (by omega))).symm⟩
   ·refine W_skip (W_sr (sA rfl rfl (s_nil (W_block (W_loopS (γ := Nat) H8 [(1, _), (3, _), (4, _)] ⟨rfl, rfl, rfl, trivial⟩ (fun k2 => [(5, .int .i64 k2)]) (fun k2 => k2 ≤ (z.Groups.getD k []).length ∧ (∀ i, i < k2 → driveOK z.Shape ((z.Groups.getD k []).getD i default) = true)) (fun k2 => (z.Groups.getD k []).length - k2) 0 ⟨rfl, trivial⟩ ⟨by omega, fun i hi => by omega⟩ (fun k2 w7 H9 ⟨hk2, hek2⟩ => ?_))))))
    dsimp only [lCA, lNA]
    refine W_seq (W_seq ?_)
    obtain ⟨eb2, eo2, ea2, ek2, ef2, ee2, ec2, eO2, eH2⟩ := elem_sl (H9.seen 0 rfl) k (by omega)
    have eP2 := H9.look1 0 rfl eO2 eH2
    refine W_reg (sM rfl rfl (sV rfl (py_field tu38 rfl ts35 rfl rfl) (sV rfl (py_load tu35 rfl rfl (cell_atL (eP2.box 0 rfl) rfl)) (sM rfl rfl (sV rfl (py_elz tu35 ts142 rfl rfl ee2 k (by omega) (by omega)) (sV rfl (py_load tu142 rfl rfl ec2) (sV rfl (py_len tu142 rfl) (sV rfl (py_lss rfl rfl) (s_nil (W_ifd rfl (fun c4 => ?_) (fun c4 => ?_)))))))))))
    ·refine W_skip (W_seq (W_block (W_seq ?_)))
     obtain ⟨eb3, eo3, ea3, ek3, ef3, ee3, ec3, eO3, eH3⟩ := elem_sl (eP2.seen 0 rfl) k (by omega)
     have eP3 := eP2.look1 0 rfl eO3 eH3
     obtain ⟨eb4, eo4, es1, ef4, ee4, ec4, eO4, eH4, em1⟩ := elem_st (eP3.seen 5 rfl) k2 (by omega)
     obtain ⟨ea4, ek4, eg1, rfl, eq1, eK1, eo5⟩ := own_Drive eO4
     have eP4 := eP3.look1 5 rfl eo5 (fun b hb => eH4 b (by rw [eq1]; simp [hb]))
     have eL1 := oL eo5
     refine W_reg (sV rfl (py_field tu38 rfl ts35 rfl rfl) (sV rfl (py_load tu35 rfl rfl (cell_atL (eP4.box 0 rfl) rfl)) (sM rfl rfl (sV rfl (py_elz tu35 ts142 rfl rfl ee3 k (by omega) (by omega)) (sV rfl (py_load tu142 rfl rfl ec3) (sM rfl rfl (sV rfl (py_elz tu142 ts180 rfl rfl ee4 k2 (by omega) (by omega)) (sV rfl (py_field tu180 rfl ts178 rfl rfl) (sV rfl (py_load tu178 rfl rfl (at_cell ec4 1 rfl)) (sA rfl rfl (s_nil (W_seq (W_sr (sM rfl rfl (sV rfl (py_len tu178 rfl) (sV rfl (py_field tu34 rfl ts2 rfl rfl) (sV rfl (py_load tu2 rfl rfl (cell_atL (eP4.box 1 rfl) rfl)) (sV rfl (py_neq rfl rfl) (s_nil (W_ifd rfl (fun c5 => ?_) (fun c5 => ?_)))))))))))))))))))))
     ·refine W_sr (sA rfl rfl (s_nil (rT hQ Tryz.results160 rfl ?_)))
      exact ⟨eP4.ext, congrArg Value.bool (groupsOK_at k (by omega) (groupOK_at k2 (by omega) (driveOK_len (by omega)))).symm⟩
     ·refine W_skip (W_sr (sA rfl rfl (s_nil (W_block (W_loopS (γ := Nat) eP4 [(1, _), (3, _), (4, _), (5, _), (6, _)] ⟨rfl, rfl, rfl, rfl, rfl, trivial⟩ (fun k3 => [(7, .int .i64 k3)]) (fun k3 => k3 ≤ ((z.Groups.getD k []).getD k2 default).Blocks.length ∧ (∀ i, i < k3 → blockOK (((z.Groups.getD k []).getD k2 default).Blocks.getD i default) = true)) (fun k3 => ((z.Groups.getD k []).getD k2 default).Blocks.length - k3) 0 ⟨rfl, trivial⟩ ⟨by omega, fun i hi => by omega⟩ (fun k3 w8 H10 ⟨hk3, hek3⟩ => ?_))))))
      dsimp only [lCA, lNA]
      refine W_seq (W_sr (sM rfl rfl (sM rfl rfl (sV rfl (py_len tu178 rfl) (sV rfl (py_lss rfl rfl) (s_nil (W_ifd rfl (fun c6 => ?_) (fun c6 => ?_))))))))
      ·refine W_skip (W_seq (W_block (W_seq ?_)))
       obtain ⟨eb5, eo6, es2, ef5, ee5, ec5, eO5, eH5, em2⟩ := elem_st (H10.seen 6 rfl) k3 (by omega)
       obtain ⟨ea5, ek5, eg2, rfl, eq2, eK2, eo7⟩ := own_Block eO5
       have eK2U := eK2
       unfold Block.Ok at eK2U
       try unfold I64ok at eK2U
       try unfold maxLen at eK2U
       have eP5 := H10.look1 6 rfl eo7 (fun b hb => eH5 b (by rw [eq2]; simp [hb]))
       have eL2 := oL eo7
       refine W_reg (sM rfl rfl (sM rfl rfl (sV rfl (py_elz tu178 ts182 rfl rfl ee5 k3 (by omega) (by omega)) (sV rfl (py_field tu182 rfl ts2 rfl rfl) (sV rfl (py_load tu2 rfl rfl (at_cell ec5 0 rfl)) (s_call (wn rfl) rfl rfl (pc_call Tryz.func97 rfl Tryz_nm97 rfl) Tryz_spec_l1In (fun v3 w9 r3 => ?_)))))))
       obtain ⟨e6, rfl⟩ := r3
       have H11 := eP5.to e6
       refine sV rfl (py_not rfl) (sM rfl rfl (s_grp 7 (j := 7) (want := false) (t := 76) rfl rfl rfl rfl (fun hg1 kk1 => s_val (wgE rfl rfl rfl hg1) rfl rfl (py_move rfl) (s_val (wgE rfl rfl rfl hg1) rfl rfl (py_move rfl) (s_val (wgE rfl rfl rfl hg1) rfl rfl (py_elz tu178 ts182 rfl rfl ee5 k3 (by first | omega | (simp only [Bool.or_eq_false_iff, Bool.and_eq_true, Bool.and_eq_false_iff, Bool.or_eq_true, Bool.not_eq_true', Bool.not_eq_false', decide_eq_true_eq, decide_eq_false_iff_not] at hg1; omega)) (by omega)) (s_val (wgE rfl rfl rfl hg1) rfl rfl (py_field tu182 rfl ts45 rfl rfl) (s_val (wgE rfl rfl rfl hg1) rfl rfl (py_load tu45 rfl rfl (at_cell (e6.at ec5) 1 rfl)) (s_val (wgE rfl rfl rfl hg1) rfl rfl (py_len tu45 rfl) (s_val (wgE rfl rfl rfl hg1) rfl rfl (py_neq rfl rfl) (kk1 _ _ (kx rfl (kx rfl (kx rfl (kx rfl (kx rfl (kx rfl (kx rfl k0))))))) rfl Ext.refl)))))))) (fun w10 e7 => ?_)))
       have H12 := H11.to e7
       refine sV rfl (py_bor rfl rfl) (s_nil (W_if rfl (fun c7 => ?_) (fun c7 => ?_)))
       ·refine W_sr (sA rfl rfl (s_nil (rT hQ Tryz.results160 rfl ?_)))
        exact ⟨H12.ext, congrArg Value.bool (groupsOK_at k (by omega) (groupOK_at k2 (by omega) (driveOK_at k3 (by omega) (blockOK_no c7)))).symm⟩
       ·refine W_skip (W_reg (sM rfl rfl (sV rfl (py_add rfl rfl (in64 ⟨by omega, by omega⟩)) (sA rfl rfl (s_nil (⟨k3 + 1, ⟨rfl, rfl, rfl, rfl, rfl, rfl, trivial⟩, ⟨(H12.ftake 7), by omega, fun i hi => ?_⟩, by dsimp only; omega⟩))))))
        by_cases e : i = k3
        ·subst e
         exact blockOK_yes (by assumption)
        ·exact hek3 i (by omega)
      ·refine W_exit (W_reg (sM rfl rfl (sV rfl (py_add rfl rfl (in64 ⟨by omega, by omega⟩)) (sA rfl rfl (s_nil (⟨k2 + 1, ⟨rfl, rfl, rfl, rfl, trivial⟩, ⟨(H10.ftake 4), by omega, fun i hi => ?_⟩, by dsimp only; omega⟩))))))
       by_cases e : i = k2
       ·subst e
        exact driveOK_all (by omega) (fun i hi => hek3 i (by omega))
       ·exact hek2 i (by omega)
    ·refine W_exit (W_reg (sM rfl rfl (sV rfl (py_add rfl rfl (in64 ⟨by omega, by omega⟩)) (sA rfl rfl (s_nil (⟨k + 1, ⟨rfl, rfl, rfl, trivial⟩, ⟨(eP2.ftake 3), by omega, fun i hi => ?_⟩, by dsimp only; omega⟩))))))
     by_cases e : i = k
     ·subst e
      exact groupOK_yes (by omega) (fun i hi => hek2 i (by omega))
     ·exact he i (by omega)
  ·refine W_exit (W_sr (sA rfl rfl (s_nil (rT hQ Tryz.results160 rfl ?_))))
   exact ⟨H6.ext, congrArg Value.bool (groupsOK_yes (by omega) (fun i hi => he i (by omega))).symm⟩
theorem Tryz_impl_WorldFault {w : World} {z : Wld} {zA9 zA10 zA11 : Option Addr} {zC9 zC10 zC11 : Nat} (zK : z.Ok) (zS9 : Sees w [.slice zA9 z.Groups.length zC9] z.Groups) (zS10 : Sees w [.slice zA10 z.On.length zC10] z.On) (zS11 : Sees w [.slice zA11 z.Tapes.length zC11] z.Tapes) : Ret Tryz.prog 70 #[z.val zA9 zC9 zA10 zC10 zA11 zC11] w fun v w' => Ext No w w' ∧ (v = .int .i64 (worldF z)) := by
 have zK2 := zK
 unfold Wld.Ok Shape.Ok at zK2
 try unfold I64ok at zK2
 try unfold maxLen at zK2
 have zL9 := sL zS9
 obtain ⟨zF9, zO9⟩ := zS9
 have zL10 := sL zS10
 obtain ⟨zF10, zO10⟩ := zS10
 have zL11 := sL zS11
 obtain ⟨zF11, zO11⟩ := zS11
 refine ret_Q (vs := [z.val zA9 zC9 zA10 zC10 zA11 zC11]) Tryz.func70 rfl Tryz.ntmps70 rfl (fun Q hQ hN => ?_)
 have H0 := Sep.start (w := w) (F := [seen false [.slice zA9 z.Groups.length zC9] z.Groups zF9, seen false [.slice zA10 z.On.length zC10] z.On zF10, seen false [.slice zA11 z.Tapes.length zC11] z.Tapes zF11]) (all_cons zO9 (all_cons zO10 (all_cons zO11 (by simp))))
 refine W_sr (s_box (wn rfl) rfl rfl H0 (fun b1 w1 e1 g1 H1 => ?_))
 refine sA rfl rfl (s_nil (W_seq (W_sr (sV rfl (py_field tu38 rfl ts34 rfl rfl) (sV rfl (py_loadS tu34 rfl ts34 rfl rfl (At.sub (H1.box 0 rfl) 9)) (s_call (wn rfl) rfl rfl (pc_call Tryz.func143 rfl Tryz_nm143 rfl) Tryz_impl_ShapeFault (fun v1 w2 r1 => ?_)))))))
 obtain ⟨e2, rfl⟩ := r1
 have H2 := H1.to e2
 refine sA rfl rfl (s_nil (W_sr (sM rfl rfl (sV rfl (py_neq rfl rfl) (s_nil (W_ifd rfl (fun c1 => ?_) (fun c1 => ?_)))))))
 ·refine W_sr (sM rfl rfl (sA rfl rfl (s_nil (rT hQ Tryz.results70 rfl ?_))))
  exact ⟨H2.ext, congrArg (Value.int .i64) (if_pos (by omega)).symm⟩
 ·refine W_skip (W_seq (W_seq ?_))
  have hs := shapeFault_ok (s := z.Shape) (by omega)
  refine W_reg (sV rfl (py_loadS tu38 rfl ts38 rfl rfl (At.whole (H2.box 0 rfl))) (s_call (wn rfl) rfl rfl (pc_call Tryz.func144 rfl Tryz_nm144 rfl) (Tryz_impl_groupsOK (by assumption) (H2.sees 0 rfl) (H2.sees 1 rfl) (H2.sees 2 rfl) (by assumption)) (fun v2 w3 r2 => ?_)))
  obtain ⟨e3, rfl⟩ := r2
  have H3 := H2.to e3
  refine sV rfl (py_not rfl) (sM rfl rfl (s_case (t := 14) rfl (fun hg1 => ?_) (fun hg1 => ?_)))
  ·try simp only [decide_eq_true_eq, decide_eq_false_iff_not] at hg1
   refine sKt rfl rfl rfl (sKt rfl rfl rfl (sKt rfl rfl rfl (sV rfl (py_pickT rfl rfl) (sM rfl rfl (sKt rfl rfl rfl (sKt rfl rfl rfl (sKt rfl rfl rfl (sKt rfl rfl rfl (sV rfl (py_pickT rfl rfl) (s_nil (W_ift rfl (W_sr (sA rfl rfl (s_nil (rT hQ Tryz.results70 rfl ?_)))))))))))))))
   exact ⟨H3.ext, congrArg (Value.int .i64) ((if_neg (by omega)).trans (if_neg (by simp_all <;> omega))).symm⟩
  ·try simp only [decide_eq_true_eq, decide_eq_false_iff_not] at hg1
   refine s_val (wg rfl rfl rfl) rfl rfl (py_loadS tu38 rfl ts38 rfl rfl (At.whole (H3.box 0 rfl))) (s_call (wg rfl rfl rfl) rfl rfl (pc_call Tryz.func145 rfl Tryz_nm145 rfl) (Tryz_impl_onOK (by assumption) (H3.sees 0 rfl) (H3.sees 1 rfl) (H3.sees 2 rfl) (by assumption)) (fun v3 w4 r3 => ?_))
   obtain ⟨e4, rfl⟩ := r3
   have H4 := H3.to e4
   refine s_val (wg rfl rfl rfl) rfl rfl (py_not rfl) (sV rfl (py_pickF rfl rfl) (sM rfl rfl (s_case (t := 19) rfl (fun hg2 => ?_) (fun hg2 => ?_))))
   ·try simp only [decide_eq_true_eq, decide_eq_false_iff_not] at hg2
    refine sKt rfl rfl rfl (sKt rfl rfl rfl (sKt rfl rfl rfl (sKt rfl rfl rfl (sV rfl (py_pickT rfl rfl) (s_nil (W_ift rfl (W_sr (sA rfl rfl (s_nil (rT hQ Tryz.results70 rfl ?_))))))))))
    exact ⟨H4.ext, congrArg (Value.int .i64) ((if_neg (by omega)).trans (if_neg (by simp_all <;> omega))).symm⟩
   ·try simp only [decide_eq_true_eq, decide_eq_false_iff_not] at hg2
    refine s_val (wg rfl rfl rfl) rfl rfl (py_field tu38 rfl ts36 rfl rfl) (s_val (wg rfl rfl rfl) rfl rfl (py_load tu36 rfl rfl (cell_atL (H4.box 0 rfl) rfl)) (s_val (wg rfl rfl rfl) rfl rfl (py_len tu36 rfl) (s_val (wg rfl rfl rfl) rfl rfl (py_neq rfl rfl) (sV rfl (py_pickF rfl rfl) (s_nil (W_ifd rfl (fun c2 => ?_) (fun c2 => ?_)))))))
    ·refine W_sr (sA rfl rfl (s_nil (rT hQ Tryz.results70 rfl ?_)))
     exact ⟨H4.ext, congrArg (Value.int .i64) ((if_neg (by omega)).trans (if_neg (by simp_all <;> omega))).symm⟩
    ·refine W_skip (W_seq (W_sr (sV rfl (py_loadS tu38 rfl ts38 rfl rfl (At.whole (H4.box 0 rfl))) (s_call (wn rfl) rfl rfl (pc_call Tryz.func146 rfl Tryz_nm146 rfl) (Tryz_impl_tapesFault (by assumption) (H4.sees 0 rfl) (H4.sees 1 rfl) (H4.sees 2 rfl) (by assumption)) (fun v4 w5 r4 => ?_)))))
     obtain ⟨e5, rfl⟩ := r4
     have H5 := H4.to e5
     refine sA rfl rfl (s_nil (W_sr (sM rfl rfl (sV rfl (py_neq rfl rfl) (s_nil (W_ifd rfl (fun c3 => ?_) (fun c3 => ?_)))))))
     ·refine W_sr (sM rfl rfl (sA rfl rfl (s_nil (rT hQ Tryz.results70 rfl ?_))))
      exact ⟨H5.ext, congrArg (Value.int .i64) ((if_neg (by omega)).trans ((if_pos (by simp_all <;> omega)).trans (if_pos (by omega)))).symm⟩
     ·refine W_skip (W_seq (W_sr (sV rfl (py_field tu38 rfl ts2 rfl rfl) (sV rfl (py_load tu2 rfl rfl (cell_atL (H5.box 0 rfl) rfl)) (s_call (wn rfl) rfl rfl (pc_call Tryz.func147 rfl Tryz_nm147 rfl) Tryz_impl_inside (fun v5 w6 r5 => ?_))))))
      obtain ⟨e6, rfl⟩ := r5
      have H6 := H5.to e6
      refine sV rfl (py_not rfl) (sM rfl rfl (s_case (t := 34) rfl (fun hg3 => ?_) (fun hg3 => ?_)))
      ·try simp only [decide_eq_true_eq, decide_eq_false_iff_not] at hg3
       refine sKt rfl rfl rfl (sKt rfl rfl rfl (sKt rfl rfl rfl (sKt rfl rfl rfl (sV rfl (py_pickT rfl rfl) (s_nil (W_ift rfl (W_sr (sA rfl rfl (s_nil (rT hQ Tryz.results70 rfl ?_))))))))))
       exact ⟨H6.ext, congrArg (Value.int .i64) ((if_neg (by omega)).trans ((if_pos (by simp_all <;> omega)).trans ((if_neg (by omega)).trans (if_neg (by simp_all <;> omega))))).symm⟩
      ·try simp only [decide_eq_true_eq, decide_eq_false_iff_not] at hg3
       refine s_val (wg rfl rfl rfl) rfl rfl (py_field tu38 rfl ts2 rfl rfl) (s_val (wg rfl rfl rfl) rfl rfl (py_load tu2 rfl rfl (cell_atL (H6.box 0 rfl) rfl)) (s_call (wg rfl rfl rfl) rfl rfl (pc_call Tryz.func147 rfl Tryz_nm147 rfl) Tryz_impl_inside (fun v6 w7 r6 => ?_)))
       obtain ⟨e7, rfl⟩ := r6
       have H7 := H6.to e7
       refine s_val (wg rfl rfl rfl) rfl rfl (py_not rfl) (sV rfl (py_pickF rfl rfl) (s_nil (W_if rfl (fun c4 => ?_) (fun c4 => ?_))))
       ·refine W_sr (sA rfl rfl (s_nil (rT hQ Tryz.results70 rfl ?_)))
        exact ⟨H7.ext, congrArg (Value.int .i64) ((if_neg (by omega)).trans ((if_pos (by simp_all <;> omega)).trans ((if_neg (by omega)).trans (if_neg (by simp_all <;> omega))))).symm⟩
       ·refine W_skip (W_sr (sA rfl rfl (s_nil (rT hQ Tryz.results70 rfl ?_))))
        exact ⟨H7.ext, congrArg (Value.int .i64) ((if_neg (by omega)).trans ((if_pos (by simp_all <;> omega)).trans ((if_neg (by omega)).trans (if_pos (by simp_all <;> omega))))).symm⟩
theorem Tryz_impl_upFault {w : World} {z : Wld} {zA9 zA10 zA11 : Option Addr} {zC9 zC10 zC11 : Nat} (zK : z.Ok) (zS9 : Sees w [.slice zA9 z.Groups.length zC9] z.Groups) (zS10 : Sees w [.slice zA10 z.On.length zC10] z.On) (zS11 : Sees w [.slice zA11 z.Tapes.length zC11] z.Tapes) : Ret Tryz.prog 117 #[z.val zA9 zC9 zA10 zC10 zA11 zC11] w fun v w' => Ext No w w' ∧ (v = .int .i64 (upF z)) := by
 have zK2 := zK
 unfold Wld.Ok Shape.Ok at zK2
 try unfold I64ok at zK2
 try unfold maxLen at zK2
 have zL9 := sL zS9
 obtain ⟨zF9, zO9⟩ := zS9
 have zL10 := sL zS10
 obtain ⟨zF10, zO10⟩ := zS10
 have zL11 := sL zS11
 obtain ⟨zF11, zO11⟩ := zS11
 refine ret_Q (vs := [z.val zA9 zC9 zA10 zC10 zA11 zC11]) Tryz.func117 rfl Tryz.ntmps117 rfl (fun Q hQ hN => ?_)
 have H0 := Sep.start (w := w) (F := [seen false [.slice zA9 z.Groups.length zC9] z.Groups zF9, seen false [.slice zA10 z.On.length zC10] z.On zF10, seen false [.slice zA11 z.Tapes.length zC11] z.Tapes zF11]) (all_cons zO9 (all_cons zO10 (all_cons zO11 (by simp))))
 refine W_sr (s_box (wn rfl) rfl rfl H0 (fun b1 w1 e1 g1 H1 => ?_))
 refine sA rfl rfl (s_nil (W_seq (W_sr (sV rfl (py_loadS tu38 rfl ts38 rfl rfl (At.whole (H1.box 0 rfl))) (s_call (wn rfl) rfl rfl (pc_call Tryz.func70 rfl Tryz_nm70 rfl) (Tryz_impl_WorldFault (by assumption) (H1.sees 0 rfl) (H1.sees 1 rfl) (H1.sees 2 rfl)) (fun v1 w2 r1 => ?_))))))
 obtain ⟨e2, rfl⟩ := r1
 have H2 := H1.to e2
 refine sA rfl rfl (s_nil (W_sr (sM rfl rfl (sV rfl (py_neq rfl rfl) (s_nil (W_ifd rfl (fun c1 => ?_) (fun c1 => ?_)))))))
 ·refine W_sr (sM rfl rfl (sA rfl rfl (s_nil (rT hQ Tryz.results117 rfl ?_))))
  exact ⟨H2.ext, congrArg (Value.int .i64) (if_pos (by omega)).symm⟩
 ·refine W_skip (W_seq (W_sr (sV rfl (py_field tu38 rfl ts4 rfl rfl) (sV rfl (py_load tu4 rfl rfl (cell_atL (H2.box 0 rfl) rfl)) (s_nil (W_if rfl (fun c2 => ?_) (fun c2 => ?_)))))))
  ·refine W_sr (sA rfl rfl (s_nil (rT hQ Tryz.results117 rfl ?_)))
   exact ⟨H2.ext, congrArg (Value.int .i64) ((if_neg (by omega)).trans (if_pos (by assumption))).symm⟩
  ·refine W_skip (W_sr (sA rfl rfl (s_nil (rT hQ Tryz.results117 rfl ?_))))
   exact ⟨H2.ext, congrArg (Value.int .i64) ((if_neg (by omega)).trans (if_neg (by simp_all <;> omega))).symm⟩
set_option maxHeartbeats 1000000 in
theorem Tryz_spec_WorldFault {w : World} {z : Wld} {zA9 zA10 zA11 : Option Addr} {zC9 zC10 zC11 : Nat} (zK : z.Ok) (zS9 : Sees w [.slice zA9 z.Groups.length zC9] z.Groups) (zS10 : Sees w [.slice zA10 z.On.length zC10] z.On) (zS11 : Sees w [.slice zA11 z.Tapes.length zC11] z.Tapes) : Ret Tryz.prog 93 #[z.val zA9 zC9 zA10 zC10 zA11 zC11] w fun v w' => Ext No w w' ∧ (v = .int .i64 (worldF z)) := by
 have zK2 := zK
 unfold Wld.Ok Shape.Ok at zK2
 try unfold I64ok at zK2
 try unfold maxLen at zK2
 have zL9 := sL zS9
 obtain ⟨zF9, zO9⟩ := zS9
 have zL10 := sL zS10
 obtain ⟨zF10, zO10⟩ := zS10
 have zL11 := sL zS11
 obtain ⟨zF11, zO11⟩ := zS11
 refine ret_Q (vs := [z.val zA9 zC9 zA10 zC10 zA11 zC11]) Tryz.func93 rfl Tryz.ntmps93 rfl (fun Q hQ hN => ?_)
 have H0 := Sep.start (w := w) (F := [seen false [.slice zA9 z.Groups.length zC9] z.Groups zF9, seen false [.slice zA10 z.On.length zC10] z.On zF10, seen false [.slice zA11 z.Tapes.length zC11] z.Tapes zF11]) (all_cons zO9 (all_cons zO10 (all_cons zO11 (by simp))))
 refine W_sr (s_box (wn rfl) rfl rfl H0 (fun b1 w1 e1 g1 H1 => ?_))
 refine sA rfl rfl (s_nil (W_seq (W_sr (sV rfl (py_field tu38 rfl ts34 rfl rfl) (sV rfl (py_loadS tu34 rfl ts34 rfl rfl (At.sub (H1.box 0 rfl) 9)) (s_call (wn rfl) rfl rfl (pc_call Tryz.func159 rfl Tryz_nm159 rfl) Tryz_spec_ShapeFault (fun v1 w2 r1 => ?_)))))))
 obtain ⟨e2, rfl⟩ := r1
 have H2 := H1.to e2
 refine sA rfl rfl (s_nil (W_sr (sM rfl rfl (sV rfl (py_neq rfl rfl) (s_nil (W_ifd rfl (fun c1 => ?_) (fun c1 => ?_)))))))
 ·refine W_sr (sM rfl rfl (sA rfl rfl (s_nil (rT hQ Tryz.results93 rfl ?_))))
  exact ⟨H2.ext, congrArg (Value.int .i64) (if_pos (by omega)).symm⟩
 ·refine W_skip (W_seq (W_seq ?_))
  have hs := shapeFault_ok (s := z.Shape) (by omega)
  have sbd := shape_bd hs
  refine W_drw (S := Ext No _) [(0, true), (1, false), (2, true), (3, true), (4, true), (5, true), (6, true), (7, true), (8, false), (9, true), (10, false), (11, true), (12, true), (13, true), (14, true), (15, true), (16, true), (17, true), (18, true), (19, true), (20, true), (21, true), (22, true), (23, true), (24, true), (25, true), (26, true), (27, true), (28, true), (29, true), (30, true), (31, true), (32, true), (33, true), (34, true), (35, true), (36, true), (37, false)] (by kernel_rfl) (by kernel_rfl) (by kernel_rfl) rfl (fun _ => Ext.refl.drawn _) (fun q1 => ?_)
  have H3 := H2.drawn q1
  refine dV rfl rfl (fun zw hx => py_loadS tu38 rfl ts38 rfl rfl (At.whole (hx.heap (H3.box 0 rfl)))) (d_call rfl (wn rfl) rfl rfl (pc_call Tryz.func160 rfl Tryz_nm160 rfl) (Tryz_spec_l5Built (by assumption) (H3.sees 0 rfl) (H3.sees 1 rfl) (H3.sees 2 rfl) (by assumption)) (fun hS _ _ r _ => hS.trans r.1.no) (fun v2 w3 r2 => ?_))
  obtain ⟨e3, rfl⟩ := r2
  have H4 := H3.to e3
  refine dV rfl rfl (fun zw hx => py_not rfl) (dM rfl rfl rfl (d_case (t := 17) rfl (fun hg1 => ?_) (fun hg1 => ?_)))
  ·try simp only [decide_eq_true_eq, decide_eq_false_iff_not] at hg1
   refine dKt rfl rfl rfl rfl (dKt rfl rfl rfl rfl (dKt rfl rfl rfl rfl (dKt rfl rfl rfl rfl (d_skipA rfl (wog (b := true) rfl rfl rfl) rfl rfl (dKt rfl rfl rfl rfl (d_skipA rfl (wog (b := true) rfl rfl rfl) rfl rfl (dKt rfl rfl rfl rfl (dV rfl rfl (fun zw hx => py_pickT rfl rfl) (dM rfl rfl rfl (dKt rfl rfl rfl rfl (dKt rfl rfl rfl rfl (dKt rfl rfl rfl rfl (dKt rfl rfl rfl rfl (dKt rfl rfl rfl rfl (dKt rfl rfl rfl rfl (dKt rfl rfl rfl rfl (dV rfl rfl (fun zw hx => py_pickT rfl rfl) (dM rfl rfl rfl (dKt rfl rfl rfl rfl (dKt rfl rfl rfl rfl (dKt rfl rfl rfl rfl (d_skip rfl (wou rfl rfl rfl) rfl rfl (d_skip rfl (wou rfl rfl rfl) rfl rfl (d_skip rfl (wou rfl rfl rfl) rfl rfl (d_skip rfl (wou rfl rfl rfl) rfl rfl (dKt rfl rfl rfl rfl (dV rfl rfl (fun zw hx => py_pickT rfl rfl) (dM rfl rfl rfl (dKt rfl rfl rfl rfl (dKt rfl rfl rfl rfl (dKt rfl rfl rfl rfl (dKt rfl rfl rfl rfl (d_end rfl (wn rfl) rfl rfl (py_pickT rfl rfl) (d_nil (W_ift rfl (W_sr (sA rfl rfl (s_nil (rT hQ Tryz.results93 rfl ?_)))))))))))))))))))))))))))))))))))))))
   exact ⟨H4.ext, congrArg (Value.int .i64) ((if_neg (by omega)).trans (if_neg (by rw [← fine_eq]; first | (simp_all <;> omega) | (cases hh : z.On <;> simp_all <;> omega)))).symm⟩
  ·try simp only [decide_eq_true_eq, decide_eq_false_iff_not] at hg1
   refine d_val rfl (wg rfl rfl rfl) rfl rfl (fun zw hx => py_field tu38 rfl ts25 rfl rfl) (d_val rfl (wg rfl rfl rfl) rfl rfl (fun zw hx => py_load tu25 rfl rfl (cell_atL (hx.heap (H3.box 0 rfl)) rfl)) (d_val rfl (wg rfl rfl rfl) rfl rfl (fun zw hx => py_field tu38 rfl ts34 rfl rfl) (d_val rfl (wg rfl rfl rfl) rfl rfl (fun zw hx => py_loadS tu34 rfl ts34 rfl rfl (At.sub (hx.heap (H3.box 0 rfl)) 9)) (d_call rfl (wg rfl rfl rfl) rfl rfl (pc_call Tryz.func162 rfl Tryz_nm162 rfl) (Tryz_spec_l5All (by assumption)) (fun hS _ _ r _ => hS.trans r.1.no) (fun v3 w4 r3 => ?_)))))
   obtain ⟨e4, rfl⟩ := r3
   have H5 := H4.to e4
   refine d_val rfl (wg rfl rfl rfl) rfl rfl (fun zw hx => py_sub rfl rfl (in64 ⟨by omega, by omega⟩)) (d_call rfl (wg rfl rfl rfl) rfl rfl (pc_call Tryz.func161 rfl Tryz_nm161 rfl) (Tryz_spec_l5Apart (H5.sees 1 rfl)) (fun hS _ _ r _ => hS.trans r.1.no) (fun v4 w5 r4 => ?_))
   obtain ⟨e5, rfl⟩ := r4
   have H6 := H5.to e5
   refine d_val rfl (wg rfl rfl rfl) rfl rfl (fun zw hx => py_not rfl) (dV rfl rfl (fun zw hx => py_pickF rfl rfl) (dM rfl rfl rfl (d_case (t := 27) rfl (fun hg2 => ?_) (fun hg2 => ?_))))
   ·try simp only [decide_eq_true_eq, decide_eq_false_iff_not] at hg2
    refine dKt rfl rfl rfl rfl (dKt rfl rfl rfl rfl (dKt rfl rfl rfl rfl (dKt rfl rfl rfl rfl (dKt rfl rfl rfl rfl (dKt rfl rfl rfl rfl (dKt rfl rfl rfl rfl (dV rfl rfl (fun zw hx => py_pickT rfl rfl) (dM rfl rfl rfl (dKt rfl rfl rfl rfl (dKt rfl rfl rfl rfl (dKt rfl rfl rfl rfl (d_skip rfl (wou rfl rfl rfl) rfl rfl (d_skip rfl (wou rfl rfl rfl) rfl rfl (d_skip rfl (wou rfl rfl rfl) rfl rfl (d_skip rfl (wou rfl rfl rfl) rfl rfl (dKt rfl rfl rfl rfl (dV rfl rfl (fun zw hx => py_pickT rfl rfl) (dM rfl rfl rfl (dKt rfl rfl rfl rfl (dKt rfl rfl rfl rfl (dKt rfl rfl rfl rfl (dKt rfl rfl rfl rfl (d_end rfl (wn rfl) rfl rfl (py_pickT rfl rfl) (d_nil (W_ift rfl (W_sr (sA rfl rfl (s_nil (rT hQ Tryz.results93 rfl ?_)))))))))))))))))))))))))))))
    exact ⟨H6.ext, congrArg (Value.int .i64) ((if_neg (by omega)).trans (if_neg (by rw [← fine_eq]; first | (simp_all <;> omega) | (cases hh : z.On <;> simp_all <;> omega)))).symm⟩
   ·try simp only [decide_eq_true_eq, decide_eq_false_iff_not] at hg2
    refine d_val rfl (wg rfl rfl rfl) rfl rfl (fun zw hx => py_field tu38 rfl ts25 rfl rfl) (d_val rfl (wg rfl rfl rfl) rfl rfl (fun zw hx => py_load tu25 rfl rfl (cell_atL (hx.heap (H3.box 0 rfl)) rfl)) (d_val rfl (wg rfl rfl rfl) rfl rfl (fun zw hx => py_len tu25 rfl) (d_val rfl (wg rfl rfl rfl) rfl rfl (fun zw hx => py_field tu38 rfl ts34 rfl rfl) (d_val rfl (wg rfl rfl rfl) rfl rfl (fun zw hx => py_field tu34 rfl ts2 rfl rfl) (d_val rfl (wg rfl rfl rfl) rfl rfl (fun zw hx => py_load tu2 rfl rfl (cell_atL (hx.heap (H3.box 0 rfl)) rfl)) (d_val rfl (wg rfl rfl rfl) rfl rfl (fun zw hx => py_gtr rfl rfl) (dV rfl rfl (fun zw hx => py_pickF rfl rfl) (dM rfl rfl rfl (d_case (t := 36) rfl (fun hg3 => ?_) (fun hg3 => ?_))))))))))
    ·try simp only [decide_eq_true_eq, decide_eq_false_iff_not] at hg3
     refine dKt rfl rfl rfl rfl (dKt rfl rfl rfl rfl (dKt rfl rfl rfl rfl (d_skip rfl (wou rfl rfl rfl) rfl rfl (d_skip rfl (wou rfl rfl rfl) rfl rfl (d_skip rfl (wou rfl rfl rfl) rfl rfl (d_skip rfl (wou rfl rfl rfl) rfl rfl (dKt rfl rfl rfl rfl (dV rfl rfl (fun zw hx => py_pickT rfl rfl) (dM rfl rfl rfl (dKt rfl rfl rfl rfl (dKt rfl rfl rfl rfl (dKt rfl rfl rfl rfl (dKt rfl rfl rfl rfl (d_end rfl (wn rfl) rfl rfl (py_pickT rfl rfl) (d_nil (W_ift rfl (W_sr (sA rfl rfl (s_nil (rT hQ Tryz.results93 rfl ?_))))))))))))))))))))
     exact ⟨H6.ext, congrArg (Value.int .i64) ((if_neg (by omega)).trans (if_neg (by rw [← fine_eq]; first | (simp_all <;> omega) | (cases hh : z.On <;> simp_all <;> omega)))).symm⟩
    ·try simp only [decide_eq_true_eq, decide_eq_false_iff_not] at hg3
     refine d_val rfl (wg rfl rfl rfl) rfl rfl (fun zw hx => py_field tu38 rfl ts4 rfl rfl) (d_val rfl (wg rfl rfl rfl) rfl rfl (fun zw hx => py_load tu4 rfl rfl (cell_atL (hx.heap (H3.box 0 rfl)) rfl)) (d_val rfl (wg rfl rfl rfl) rfl rfl (fun zw hx => py_move rfl) (d_case (t := 39) rfl (fun hg4 => ?_) (fun hg4 => ?_))))
     ·try simp only [decide_eq_true_eq, decide_eq_false_iff_not] at hg4
      refine d_val rfl (wg rfl rfl rfl) rfl rfl (fun zw hx => py_field tu38 rfl ts25 rfl rfl) (d_val rfl (wg rfl rfl rfl) rfl rfl (fun zw hx => py_load tu25 rfl rfl (cell_atL (hx.heap (H3.box 0 rfl)) rfl)) (d_val rfl (wg rfl rfl rfl) rfl rfl (fun zw hx => py_len tu25 rfl) (d_val rfl (wg rfl rfl rfl) rfl rfl (fun zw hx => py_gtr rfl rfl) (d_val rfl (wg rfl rfl rfl) rfl rfl (fun zw hx => py_pickT rfl rfl) (dV rfl rfl (fun zw hx => py_pickF rfl rfl) (dM rfl rfl rfl (d_case (t := 46) rfl (fun hg5 => ?_) (fun hg5 => ?_))))))))
      ·try simp only [decide_eq_true_eq, decide_eq_false_iff_not] at hg5
       refine dKt rfl rfl rfl rfl (dKt rfl rfl rfl rfl (dKt rfl rfl rfl rfl (dKt rfl rfl rfl rfl (d_end rfl (wn rfl) rfl rfl (py_pickT rfl rfl) (d_nil (W_ift rfl (W_sr (sA rfl rfl (s_nil (rT hQ Tryz.results93 rfl ?_))))))))))
       exact ⟨H6.ext, congrArg (Value.int .i64) ((if_neg (by omega)).trans (if_neg (by rw [← fine_eq]; first | (simp_all <;> omega) | (cases hh : z.On <;> simp_all <;> omega)))).symm⟩
      ·try simp only [decide_eq_true_eq, decide_eq_false_iff_not] at hg5
       refine d_val rfl (wg rfl rfl rfl) rfl rfl (fun zw hx => py_field tu38 rfl ts36 rfl rfl) (d_val rfl (wg rfl rfl rfl) rfl rfl (fun zw hx => py_load tu36 rfl rfl (cell_atL (hx.heap (H3.box 0 rfl)) rfl)) (d_val rfl (wg rfl rfl rfl) rfl rfl (fun zw hx => py_len tu36 rfl) (d_val rfl (wg rfl rfl rfl) rfl rfl (fun zw hx => py_neq rfl rfl) (d_end rfl (wn rfl) rfl rfl (py_pickF rfl rfl) (d_nil (W_ifd rfl (fun c2 => ?_) (fun c2 => ?_)))))))
       ·refine W_sr (sA rfl rfl (s_nil (rT hQ Tryz.results93 rfl ?_)))
        exact ⟨H6.ext, congrArg (Value.int .i64) ((if_neg (by omega)).trans (if_neg (by rw [← fine_eq]; first | (simp_all <;> omega) | (cases hh : z.On <;> simp_all <;> omega)))).symm⟩
       ·refine W_skip (W_seq (W_seq ?_))
        have hF : (groupsOK z && onOK z && decide (z.Tapes.length = 2)) = true := by rw [← fine_eq]; simp_all <;> omega
        have h2 : z.Tapes.length = 2 := by simp_all <;> omega
        obtain ⟨eb1, eo1, es1, ef1, ee1, ec1, eO1, eH1, em1⟩ := elem_st (H6.seen 2 rfl) 0 (by omega)
        obtain ⟨ea1, ek1, eg1, rfl, eq1, eK1, eo2⟩ := own_Tape eO1
        have eP1 := H6.look1 2 rfl eo2 (fun b hb => eH1 b (by rw [eq1]; simp [hb]))
        have eL1 := oL eo2
        refine W_reg (sV rfl (py_field tu38 rfl ts36 rfl rfl) (sV rfl (py_load tu36 rfl rfl (cell_atL (eP1.box 0 rfl) rfl)) (sV rfl (py_elz tu36 ts139 rfl rfl ee1 0 (by omega) (by omega)) (sV rfl (py_field tu139 rfl ts30 rfl rfl) (sV rfl (py_load tu30 rfl rfl (at_cell ec1 1 rfl)) (sV rfl (py_len tu30 rfl) (sV rfl (py_gtr rfl rfl) (sM rfl rfl (s_case (t := 59) rfl (fun hg6 => ?_) (fun hg6 => ?_))))))))))
        ·try simp only [decide_eq_true_eq, decide_eq_false_iff_not] at hg6
         refine sKt rfl rfl rfl (sKt rfl rfl rfl (sKt rfl rfl rfl (sKt rfl rfl rfl (sKt rfl rfl rfl (sKt rfl rfl rfl (sKt rfl rfl rfl (sV rfl (py_pickT rfl rfl) (s_nil (W_ift rfl (W_seq ?_))))))))))
         have tq := tapesF_many (z := z) (any_two h2 (by simp only [manyRecs]; simp_all <;> omega))
         refine W_reg (sA rfl rfl (s_nil (rT hQ Tryz.results93 rfl ?_)))
         exact ⟨eP1.ext, congrArg (Value.int .i64) ((if_neg (by omega)).trans ((if_pos hF).trans ((if_pos (by omega)).trans tq))).symm⟩
        ·try simp only [decide_eq_true_eq, decide_eq_false_iff_not] at hg6
         refine s_val (wg rfl rfl rfl) rfl rfl (py_field tu38 rfl ts36 rfl rfl) (s_val (wg rfl rfl rfl) rfl rfl (py_load tu36 rfl rfl (cell_atL (eP1.box 0 rfl) rfl)) ?_)
         obtain ⟨eb2, eo3, es2, ef2, ee2, ec2, eO2, eH2, em2⟩ := elem_st (eP1.seen 2 rfl) 1 (by omega)
         obtain ⟨ea2, ek2, eg2, rfl, eq2, eK2, eo4⟩ := own_Tape eO2
         have eP2 := eP1.look1 2 rfl eo4 (fun b hb => eH2 b (by rw [eq2]; simp [hb]))
         have eL2 := oL eo4
         refine s_val (wg rfl rfl rfl) rfl rfl (py_elz tu36 ts139 rfl rfl ee2 1 (by omega) (by omega)) (s_val (wg rfl rfl rfl) rfl rfl (py_field tu139 rfl ts30 rfl rfl) (s_val (wg rfl rfl rfl) rfl rfl (py_load tu30 rfl rfl (at_cell ec2 1 rfl)) (s_val (wg rfl rfl rfl) rfl rfl (py_len tu30 rfl) (s_val (wg rfl rfl rfl) rfl rfl (py_gtr rfl rfl) (sV rfl (py_pickF rfl rfl) (s_nil (W_ifd rfl (fun c3 => ?_) (fun c3 => ?_))))))))
         ·refine W_seq ?_
          have tq := tapesF_many (z := z) (any_two h2 (by simp only [manyRecs]; simp_all <;> omega))
          refine W_reg (sA rfl rfl (s_nil (rT hQ Tryz.results93 rfl ?_)))
          exact ⟨eP2.ext, congrArg (Value.int .i64) ((if_neg (by omega)).trans ((if_pos hF).trans ((if_pos (by omega)).trans tq))).symm⟩
         ·refine W_skip (W_seq (W_seq ?_))
          have hM : z.Tapes.any manyRecs = false := any_neither h2 (by simp only [manyRecs]; simp_all <;> omega) (by simp only [manyRecs]; simp_all <;> omega)
          refine W_reg (sA rfl rfl (s_nil (W_block (W_loopS (γ := Nat) eP2 [(1, _)] ⟨rfl, trivial⟩ (fun k => [(4, .int .i64 k)]) (fun k => k ≤ z.Tapes.length ∧ tapeF z.Shape z.Tapes k = 0) (fun k => z.Tapes.length - k) 0 ⟨rfl, trivial⟩ ⟨by omega, rfl⟩ (fun k w6 H7 ⟨hk, hkz⟩ => ?_)))))
          dsimp only [lCA, lNA]
          refine W_seq (W_sr (sM rfl rfl (sV rfl (py_lss rfl rfl) (s_nil (W_ifd rfl (fun c4 => ?_) (fun c4 => ?_))))))
          ·refine W_skip (W_seq (W_block (W_sr (sA rfl rfl (s_nil (W_block (W_loopS (γ := Nat) H7 [(1, _), (4, _)] ⟨rfl, rfl, trivial⟩ (fun k2 => [(5, .int .i64 k2)]) (fun k2 => k2 ≤ (z.Tapes.getD k default).Recs.length ∧ recsF z.Shape (z.Tapes.getD k default).Recs k2 = 0) (fun k2 => (z.Tapes.getD k default).Recs.length - k2) 0 ⟨rfl, trivial⟩ ⟨by omega, rfl⟩ (fun k2 w7 H8 ⟨hk2, hk2z⟩ => ?_))))))))
           dsimp only [lCA, lNA]
           refine W_seq (W_seq ?_)
           obtain ⟨eb3, eo5, es3, ef3, ee3, ec3, eO3, eH3, em3⟩ := elem_st (H8.seen 2 rfl) k (by omega)
           obtain ⟨ea3, ek3, eg3, rfl, eq3, eK3, eo6⟩ := own_Tape eO3
           have eP3 := H8.look1 2 rfl eo6 (fun b hb => eH3 b (by rw [eq3]; simp [hb]))
           have eL3 := oL eo6
           refine W_reg (sM rfl rfl (sV rfl (py_field tu38 rfl ts36 rfl rfl) (sV rfl (py_load tu36 rfl rfl (cell_atL (eP3.box 0 rfl) rfl)) (sM rfl rfl (sV rfl (py_elz tu36 ts139 rfl rfl ee3 k (by omega) (by omega)) (sV rfl (py_field tu139 rfl ts30 rfl rfl) (sV rfl (py_load tu30 rfl rfl (at_cell ec3 1 rfl)) (sV rfl (py_len tu30 rfl) (sV rfl (py_lss rfl rfl) (s_nil (W_ifd rfl (fun c5 => ?_) (fun c5 => ?_))))))))))))
           ·refine W_skip (W_seq (W_block (W_seq ?_)))
            obtain ⟨eb4, eo7, es4, ef4, ee4, ec4, eO4, eH4, em4⟩ := elem_st (eP3.seen 2 rfl) k (by omega)
            obtain ⟨ea4, ek4, eg4, rfl, eq4, eK4, eo8⟩ := own_Tape eO4
            have eP4 := eP3.look1 2 rfl eo8 (fun b hb => eH4 b (by rw [eq4]; simp [hb]))
            have eL4 := oL eo8
            obtain ⟨eb5, eo9, es5, ef5, ee5, ec5, eO5, eH5, em5⟩ := elem_st (eP4.seen 6 rfl) k2 (by omega)
            obtain ⟨ea5, ek5, ea6, ek6, ea7, ek7, eg5, eg6, eg7, rfl, eq5, eK5, eo10, eo11, eo12⟩ := own_Rec eO5
            have eK5U := eK5
            unfold Rec.Ok at eK5U
            try unfold I64ok at eK5U
            try unfold maxLen at eK5U
            have eP5 := eP4.look1 6 rfl eo10 (fun b hb => eH5 b (by rw [eq5]; simp [hb]))
            have eL5 := oL eo10
            have eP6 := eP5.look1 6 rfl eo11 (fun b hb => eH5 b (by rw [eq5]; simp [hb]))
            have eL6 := oL eo11
            have eP7 := eP6.look1 6 rfl eo12 (fun b hb => eH5 b (by rw [eq5]; simp [hb]))
            have eL7 := oL eo12
            refine W_drw (S := Ext No _) [(0, true), (1, true), (2, true), (3, true), (4, true), (5, true), (6, true), (7, true), (8, true), (9, true), (10, true), (11, false), (12, false)] (by kernel_rfl) (by kernel_rfl) (by kernel_rfl) rfl (fun _ => Ext.refl.drawn _) (fun q2 => ?_)
            have H9 := eP7.drawn q2
            refine dV rfl rfl (fun zw hx => py_field tu38 rfl ts34 rfl rfl) (dV rfl rfl (fun zw hx => py_loadS tu34 rfl ts34 rfl rfl (At.sub (hx.heap (H9.box 0 rfl)) 9)) (dV rfl rfl (fun zw hx => py_field tu38 rfl ts36 rfl rfl) (dV rfl rfl (fun zw hx => py_load tu36 rfl rfl (cell_atL (hx.heap (H9.box 0 rfl)) rfl)) (dM rfl rfl rfl (dV rfl rfl (fun zw hx => py_elz tu36 ts139 rfl rfl ee4 k (by omega) (by omega)) (dV rfl rfl (fun zw hx => py_field tu139 rfl ts30 rfl rfl) (dV rfl rfl (fun zw hx => py_load tu30 rfl rfl (at_cell (hx.at ec4) 1 rfl)) (dM rfl rfl rfl (dV rfl rfl (fun zw hx => py_elz tu30 ts68 rfl rfl ee5 k2 (by omega) (by omega)) (dV rfl rfl (fun zw hx => py_loadS tu68 rfl ts68 rfl rfl (hx.at ec5)) (d_call rfl (wn rfl) rfl rfl (pc_call Tryz.func112 rfl Tryz_nm112 rfl) (Tryz_spec_RecFault (by assumption) (H9.sees 7 rfl) (H9.sees 8 rfl) (H9.sees 9 rfl)) (fun hS _ _ r _ => hS.trans r.1.no) (fun v5 w8 r5 => ?_))))))))))))
            obtain ⟨e6, rfl⟩ := r5
            have H10 := H9.to e6
            refine d_end rfl (wn rfl) rfl rfl (py_assign rfl) (d_nil (W_sr (sM rfl rfl (sV rfl (py_neq rfl rfl) (s_nil (W_ifd rfl (fun c6 => ?_) (fun c6 => ?_)))))))
            ·refine W_sr (sM rfl rfl (sA rfl rfl (s_nil (rT hQ Tryz.results93 rfl ?_))))
             have tq := tapesF_rec hM (k := k) (k2 := k2) (by omega) hkz (by omega) hk2z (by omega)
             exact ⟨H10.ext, congrArg (Value.int .i64) ((if_neg (by omega)).trans (((if_neg (by omega)).trans ((if_pos hF).trans ((if_pos (by omega)).trans tq)))).symm)⟩
            ·refine W_skip (W_reg (sM rfl rfl (sV rfl (py_add rfl rfl (in64 ⟨by omega, by omega⟩)) (sA rfl rfl (s_nil (⟨k2 + 1, ⟨rfl, rfl, rfl, trivial⟩, ⟨(H10.ftake 5), by omega, (recsF_next hk2z).trans (by omega)⟩, by dsimp only; omega⟩))))))
           ·refine W_exit (W_reg (sM rfl rfl (sV rfl (py_add rfl rfl (in64 ⟨by omega, by omega⟩)) (sA rfl rfl (s_nil ?_)))))
            obtain rfl : k2 = (z.Tapes.getD k default).Recs.length := by omega
            refine ⟨k + 1, ⟨rfl, rfl, trivial⟩, ⟨(eP3.ftake 5), by omega, (tapeF_next hkz).trans hk2z⟩, by dsimp only; omega⟩
          ·refine W_exit (W_seq (W_seq ?_))
           obtain rfl : k = z.Tapes.length := by omega
           have hAll := hkz
           refine W_reg (sA rfl rfl (s_nil (W_block (W_loopS (γ := Nat) H7 [(1, _)] ⟨rfl, trivial⟩ (fun k => [(7, .int .i64 k)]) (fun k => k ≤ 2 ∧ (∀ i, i < k → wipedFull (z.Tapes.getD i default) = false)) (fun k => 2 - k) 0 ⟨rfl, trivial⟩ ⟨by omega, fun i hi => by omega⟩ (fun k w9 H11 ⟨hk, hek⟩ => ?_)))))
           dsimp only [lCA, lNA]
           refine W_seq (W_sr (sM rfl rfl (sV rfl (py_lss rfl rfl) (s_nil (W_ifd rfl (fun c7 => ?_) (fun c7 => ?_))))))
           ·refine W_skip (W_seq (W_block (W_seq ?_)))
            obtain ⟨eb6, eo13, es6, ef6, ee6, ec6, eO6, eH6, em6⟩ := elem_st (H11.seen 2 rfl) k (by omega)
            obtain ⟨ea8, ek8, eg8, rfl, eq6, eK6, eo14⟩ := own_Tape eO6
            have eP8 := H11.look1 2 rfl eo14 (fun b hb => eH6 b (by rw [eq6]; simp [hb]))
            have eL8 := oL eo14
            refine W_reg (sV rfl (py_field tu38 rfl ts36 rfl rfl) (sV rfl (py_load tu36 rfl rfl (cell_atL (eP8.box 0 rfl) rfl)) (sM rfl rfl (sV rfl (py_elz tu36 ts139 rfl rfl ee6 k (by omega) (by omega)) (sV rfl (py_field tu139 rfl ts4 rfl rfl) (sV rfl (py_load tu4 rfl rfl (at_cell ec6 0 rfl)) (sM rfl rfl (s_case (t := 108) rfl (fun hg7 => ?_) (fun hg7 => ?_)))))))))
            ·try simp only [decide_eq_true_eq, decide_eq_false_iff_not] at hg7
             refine s_val (wg rfl rfl rfl) rfl rfl (py_field tu38 rfl ts36 rfl rfl) (s_val (wg rfl rfl rfl) rfl rfl (py_load tu36 rfl rfl (cell_atL (eP8.box 0 rfl) rfl)) (s_val (wg rfl rfl rfl) rfl rfl (py_move rfl) (s_val (wg rfl rfl rfl) rfl rfl (py_elz tu36 ts139 rfl rfl ee6 k (by omega) (by omega)) (s_val (wg rfl rfl rfl) rfl rfl (py_field tu139 rfl ts30 rfl rfl) (s_val (wg rfl rfl rfl) rfl rfl (py_load tu30 rfl rfl (at_cell ec6 1 rfl)) (s_val (wg rfl rfl rfl) rfl rfl (py_len tu30 rfl) (s_val (wg rfl rfl rfl) rfl rfl (py_gtr rfl rfl) (sV rfl (py_pickT rfl rfl) (s_nil (W_ifd rfl (fun c8 => ?_) (fun c8 => ?_)))))))))))
             ·refine W_sr (sA rfl rfl (s_nil (rT hQ Tryz.results93 rfl ?_)))
              have tq := tapesF_full hM hAll (any_at k (by omega) (by rw [wipedFull]; simp_all <;> omega))
              exact ⟨eP8.ext, congrArg (Value.int .i64) ((if_neg (by omega)).trans ((if_pos hF).trans ((if_pos (by omega)).trans tq))).symm⟩
             ·refine W_skip (W_reg (sM rfl rfl (sV rfl (py_add rfl rfl (in64 ⟨by omega, by omega⟩)) (sA rfl rfl (s_nil (⟨k + 1, ⟨rfl, rfl, trivial⟩, ⟨(eP8.ftake 5), by omega, fun i hi => ?_⟩, by dsimp only; omega⟩))))))
              by_cases e : i = k
              ·subst e; rw [wipedFull]; simp_all <;> omega
              ·exact hek i (by omega)
            ·try simp only [decide_eq_true_eq, decide_eq_false_iff_not] at hg7
             refine sKf rfl rfl rfl (sKf rfl rfl rfl (sKf rfl rfl rfl (sKf rfl rfl rfl (sKf rfl rfl rfl (sKf rfl rfl rfl (sKf rfl rfl rfl (sKf rfl rfl rfl (sV rfl (py_pickF rfl rfl) (s_nil (W_iff rfl (W_skip (W_reg (sM rfl rfl (sV rfl (py_add rfl rfl (in64 ⟨by omega, by omega⟩)) (sA rfl rfl (s_nil (⟨k + 1, ⟨rfl, rfl, trivial⟩, ⟨(eP8.ftake 5), by omega, fun i hi => ?_⟩, by dsimp only; omega⟩)))))))))))))))))
             by_cases e : i = k
             ·subst e; rw [wipedFull]; simp_all <;> omega
             ·exact hek i (by omega)
           ·refine W_exit (W_seq (W_seq ?_))
            have tq := tapesF_ok hM hAll (any_none (fun i hi => hek i (by omega)))
            refine W_reg (sV rfl (py_field tu38 rfl ts2 rfl rfl) (sV rfl (py_load tu2 rfl rfl (cell_atL (H11.box 0 rfl) rfl)) (s_call (wn rfl) rfl rfl (pc_call Tryz.func97 rfl Tryz_nm97 rfl) Tryz_spec_l1In (fun v6 w10 r6 => ?_))))
            obtain ⟨e7, rfl⟩ := r6
            have H12 := H11.to e7
            refine sV rfl (py_not rfl) (sM rfl rfl (s_case (t := 122) rfl (fun hg8 => ?_) (fun hg8 => ?_)))
            ·try simp only [decide_eq_true_eq, decide_eq_false_iff_not] at hg8
             refine sKt rfl rfl rfl (sKt rfl rfl rfl (sKt rfl rfl rfl (sKt rfl rfl rfl (sV rfl (py_pickT rfl rfl) (s_nil (W_ift rfl (W_sr (sA rfl rfl (s_nil (rT hQ Tryz.results93 rfl ?_))))))))))
             exact ⟨H12.ext, congrArg (Value.int .i64) ((if_neg (by omega)).trans ((if_pos hF).trans ((if_neg (by omega)).trans (if_neg (by simp_all <;> omega))))).symm⟩
            ·try simp only [decide_eq_true_eq, decide_eq_false_iff_not] at hg8
             refine s_val (wg rfl rfl rfl) rfl rfl (py_field tu38 rfl ts2 rfl rfl) (s_val (wg rfl rfl rfl) rfl rfl (py_load tu2 rfl rfl (cell_atL (H12.box 0 rfl) rfl)) (s_call (wg rfl rfl rfl) rfl rfl (pc_call Tryz.func97 rfl Tryz_nm97 rfl) Tryz_spec_l1In (fun v7 w11 r7 => ?_)))
             obtain ⟨e8, rfl⟩ := r7
             have H13 := H12.to e8
             refine s_val (wg rfl rfl rfl) rfl rfl (py_not rfl) (sV rfl (py_pickF rfl rfl) (s_nil (W_if rfl (fun c9 => ?_) (fun c9 => ?_))))
             ·refine W_sr (sA rfl rfl (s_nil (rT hQ Tryz.results93 rfl ?_)))
              exact ⟨H13.ext, congrArg (Value.int .i64) ((if_neg (by omega)).trans ((if_pos hF).trans ((if_neg (by omega)).trans (if_neg (by simp_all <;> omega))))).symm⟩
             ·refine W_skip (W_sr (sA rfl rfl (s_nil (rT hQ Tryz.results93 rfl ?_))))
              exact ⟨H13.ext, congrArg (Value.int .i64) ((if_neg (by omega)).trans ((if_pos hF).trans ((if_neg (by omega)).trans (if_pos (by simp_all <;> omega))))).symm⟩
     ·try simp only [decide_eq_true_eq, decide_eq_false_iff_not] at hg4
      refine dKf rfl rfl rfl rfl (dKf rfl rfl rfl rfl (dKf rfl rfl rfl rfl (dKf rfl rfl rfl rfl (d_val rfl (wg rfl rfl rfl) rfl rfl (fun zw hx => py_pickF rfl rfl) (dV rfl rfl (fun zw hx => py_pickF rfl rfl) (dM rfl rfl rfl (d_val rfl (wg rfl rfl rfl) rfl rfl (fun zw hx => py_field tu38 rfl ts36 rfl rfl) (d_val rfl (wg rfl rfl rfl) rfl rfl (fun zw hx => py_load tu36 rfl rfl (cell_atL (hx.heap (H3.box 0 rfl)) rfl)) (d_val rfl (wg rfl rfl rfl) rfl rfl (fun zw hx => py_len tu36 rfl) (d_val rfl (wg rfl rfl rfl) rfl rfl (fun zw hx => py_neq rfl rfl) (d_end rfl (wn rfl) rfl rfl (py_pickF rfl rfl) (d_nil (W_ifd rfl (fun c10 => ?_) (fun c10 => ?_))))))))))))))
      ·refine W_sr (sA rfl rfl (s_nil (rT hQ Tryz.results93 rfl ?_)))
       exact ⟨H6.ext, congrArg (Value.int .i64) ((if_neg (by omega)).trans (if_neg (by rw [← fine_eq]; first | (simp_all <;> omega) | (cases hh : z.On <;> simp_all <;> omega)))).symm⟩
      ·refine W_skip (W_seq (W_seq ?_))
       have hF : (groupsOK z && onOK z && decide (z.Tapes.length = 2)) = true := by rw [← fine_eq]; simp_all <;> omega
       have h2 : z.Tapes.length = 2 := by simp_all <;> omega
       obtain ⟨eb7, eo15, es7, ef7, ee7, ec7, eO7, eH7, em7⟩ := elem_st (H6.seen 2 rfl) 0 (by omega)
       obtain ⟨ea9, ek9, eg9, rfl, eq7, eK7, eo16⟩ := own_Tape eO7
       have eP9 := H6.look1 2 rfl eo16 (fun b hb => eH7 b (by rw [eq7]; simp [hb]))
       have eL9 := oL eo16
       refine W_reg (sV rfl (py_field tu38 rfl ts36 rfl rfl) (sV rfl (py_load tu36 rfl rfl (cell_atL (eP9.box 0 rfl) rfl)) (sV rfl (py_elz tu36 ts139 rfl rfl ee7 0 (by omega) (by omega)) (sV rfl (py_field tu139 rfl ts30 rfl rfl) (sV rfl (py_load tu30 rfl rfl (at_cell ec7 1 rfl)) (sV rfl (py_len tu30 rfl) (sV rfl (py_gtr rfl rfl) (sM rfl rfl (s_case (t := 59) rfl (fun hg9 => ?_) (fun hg9 => ?_))))))))))
       ·try simp only [decide_eq_true_eq, decide_eq_false_iff_not] at hg9
        refine sKt rfl rfl rfl (sKt rfl rfl rfl (sKt rfl rfl rfl (sKt rfl rfl rfl (sKt rfl rfl rfl (sKt rfl rfl rfl (sKt rfl rfl rfl (sV rfl (py_pickT rfl rfl) (s_nil (W_ift rfl (W_seq ?_))))))))))
        have tq := tapesF_many (z := z) (any_two h2 (by simp only [manyRecs]; simp_all <;> omega))
        refine W_reg (sA rfl rfl (s_nil (rT hQ Tryz.results93 rfl ?_)))
        exact ⟨eP9.ext, congrArg (Value.int .i64) ((if_neg (by omega)).trans ((if_pos hF).trans ((if_pos (by omega)).trans tq))).symm⟩
       ·try simp only [decide_eq_true_eq, decide_eq_false_iff_not] at hg9
        refine s_val (wg rfl rfl rfl) rfl rfl (py_field tu38 rfl ts36 rfl rfl) (s_val (wg rfl rfl rfl) rfl rfl (py_load tu36 rfl rfl (cell_atL (eP9.box 0 rfl) rfl)) ?_)
        obtain ⟨eb8, eo17, es8, ef8, ee8, ec8, eO8, eH8, em8⟩ := elem_st (eP9.seen 2 rfl) 1 (by omega)
        obtain ⟨ea10, ek10, eg10, rfl, eq8, eK8, eo18⟩ := own_Tape eO8
        have eP10 := eP9.look1 2 rfl eo18 (fun b hb => eH8 b (by rw [eq8]; simp [hb]))
        have eL10 := oL eo18
        refine s_val (wg rfl rfl rfl) rfl rfl (py_elz tu36 ts139 rfl rfl ee8 1 (by omega) (by omega)) (s_val (wg rfl rfl rfl) rfl rfl (py_field tu139 rfl ts30 rfl rfl) (s_val (wg rfl rfl rfl) rfl rfl (py_load tu30 rfl rfl (at_cell ec8 1 rfl)) (s_val (wg rfl rfl rfl) rfl rfl (py_len tu30 rfl) (s_val (wg rfl rfl rfl) rfl rfl (py_gtr rfl rfl) (sV rfl (py_pickF rfl rfl) (s_nil (W_ifd rfl (fun c11 => ?_) (fun c11 => ?_))))))))
        ·refine W_seq ?_
         have tq := tapesF_many (z := z) (any_two h2 (by simp only [manyRecs]; simp_all <;> omega))
         refine W_reg (sA rfl rfl (s_nil (rT hQ Tryz.results93 rfl ?_)))
         exact ⟨eP10.ext, congrArg (Value.int .i64) ((if_neg (by omega)).trans ((if_pos hF).trans ((if_pos (by omega)).trans tq))).symm⟩
        ·refine W_skip (W_seq (W_seq ?_))
         have hM : z.Tapes.any manyRecs = false := any_neither h2 (by simp only [manyRecs]; simp_all <;> omega) (by simp only [manyRecs]; simp_all <;> omega)
         refine W_reg (sA rfl rfl (s_nil (W_block (W_loopS (γ := Nat) eP10 [(1, _)] ⟨rfl, trivial⟩ (fun k => [(4, .int .i64 k)]) (fun k => k ≤ z.Tapes.length ∧ tapeF z.Shape z.Tapes k = 0) (fun k => z.Tapes.length - k) 0 ⟨rfl, trivial⟩ ⟨by omega, rfl⟩ (fun k w12 H14 ⟨hk, hkz⟩ => ?_)))))
         dsimp only [lCA, lNA]
         refine W_seq (W_sr (sM rfl rfl (sV rfl (py_lss rfl rfl) (s_nil (W_ifd rfl (fun c12 => ?_) (fun c12 => ?_))))))
         ·refine W_skip (W_seq (W_block (W_sr (sA rfl rfl (s_nil (W_block (W_loopS (γ := Nat) H14 [(1, _), (4, _)] ⟨rfl, rfl, trivial⟩ (fun k2 => [(5, .int .i64 k2)]) (fun k2 => k2 ≤ (z.Tapes.getD k default).Recs.length ∧ recsF z.Shape (z.Tapes.getD k default).Recs k2 = 0) (fun k2 => (z.Tapes.getD k default).Recs.length - k2) 0 ⟨rfl, trivial⟩ ⟨by omega, rfl⟩ (fun k2 w13 H15 ⟨hk2, hk2z⟩ => ?_))))))))
          dsimp only [lCA, lNA]
          refine W_seq (W_seq ?_)
          obtain ⟨eb9, eo19, es9, ef9, ee9, ec9, eO9, eH9, em9⟩ := elem_st (H15.seen 2 rfl) k (by omega)
          obtain ⟨ea11, ek11, eg11, rfl, eq9, eK9, eo20⟩ := own_Tape eO9
          have eP11 := H15.look1 2 rfl eo20 (fun b hb => eH9 b (by rw [eq9]; simp [hb]))
          have eL11 := oL eo20
          refine W_reg (sM rfl rfl (sV rfl (py_field tu38 rfl ts36 rfl rfl) (sV rfl (py_load tu36 rfl rfl (cell_atL (eP11.box 0 rfl) rfl)) (sM rfl rfl (sV rfl (py_elz tu36 ts139 rfl rfl ee9 k (by omega) (by omega)) (sV rfl (py_field tu139 rfl ts30 rfl rfl) (sV rfl (py_load tu30 rfl rfl (at_cell ec9 1 rfl)) (sV rfl (py_len tu30 rfl) (sV rfl (py_lss rfl rfl) (s_nil (W_ifd rfl (fun c13 => ?_) (fun c13 => ?_))))))))))))
          ·refine W_skip (W_seq (W_block (W_seq ?_)))
           obtain ⟨eb10, eo21, es10, ef10, ee10, ec10, eO10, eH10, em10⟩ := elem_st (eP11.seen 2 rfl) k (by omega)
           obtain ⟨ea12, ek12, eg12, rfl, eq10, eK10, eo22⟩ := own_Tape eO10
           have eP12 := eP11.look1 2 rfl eo22 (fun b hb => eH10 b (by rw [eq10]; simp [hb]))
           have eL12 := oL eo22
           obtain ⟨eb11, eo23, es11, ef11, ee11, ec11, eO11, eH11, em11⟩ := elem_st (eP12.seen 6 rfl) k2 (by omega)
           obtain ⟨ea13, ek13, ea14, ek14, ea15, ek15, eg13, eg14, eg15, rfl, eq11, eK11, eo24, eo25, eo26⟩ := own_Rec eO11
           have eK11U := eK11
           unfold Rec.Ok at eK11U
           try unfold I64ok at eK11U
           try unfold maxLen at eK11U
           have eP13 := eP12.look1 6 rfl eo24 (fun b hb => eH11 b (by rw [eq11]; simp [hb]))
           have eL13 := oL eo24
           have eP14 := eP13.look1 6 rfl eo25 (fun b hb => eH11 b (by rw [eq11]; simp [hb]))
           have eL14 := oL eo25
           have eP15 := eP14.look1 6 rfl eo26 (fun b hb => eH11 b (by rw [eq11]; simp [hb]))
           have eL15 := oL eo26
           refine W_drw (S := Ext No _) [(0, true), (1, true), (2, true), (3, true), (4, true), (5, true), (6, true), (7, true), (8, true), (9, true), (10, true), (11, false), (12, false)] (by kernel_rfl) (by kernel_rfl) (by kernel_rfl) rfl (fun _ => Ext.refl.drawn _) (fun q3 => ?_)
           have H16 := eP15.drawn q3
           refine dV rfl rfl (fun zw hx => py_field tu38 rfl ts34 rfl rfl) (dV rfl rfl (fun zw hx => py_loadS tu34 rfl ts34 rfl rfl (At.sub (hx.heap (H16.box 0 rfl)) 9)) (dV rfl rfl (fun zw hx => py_field tu38 rfl ts36 rfl rfl) (dV rfl rfl (fun zw hx => py_load tu36 rfl rfl (cell_atL (hx.heap (H16.box 0 rfl)) rfl)) (dM rfl rfl rfl (dV rfl rfl (fun zw hx => py_elz tu36 ts139 rfl rfl ee10 k (by omega) (by omega)) (dV rfl rfl (fun zw hx => py_field tu139 rfl ts30 rfl rfl) (dV rfl rfl (fun zw hx => py_load tu30 rfl rfl (at_cell (hx.at ec10) 1 rfl)) (dM rfl rfl rfl (dV rfl rfl (fun zw hx => py_elz tu30 ts68 rfl rfl ee11 k2 (by omega) (by omega)) (dV rfl rfl (fun zw hx => py_loadS tu68 rfl ts68 rfl rfl (hx.at ec11)) (d_call rfl (wn rfl) rfl rfl (pc_call Tryz.func112 rfl Tryz_nm112 rfl) (Tryz_spec_RecFault (by assumption) (H16.sees 7 rfl) (H16.sees 8 rfl) (H16.sees 9 rfl)) (fun hS _ _ r _ => hS.trans r.1.no) (fun v8 w14 r8 => ?_))))))))))))
           obtain ⟨e9, rfl⟩ := r8
           have H17 := H16.to e9
           refine d_end rfl (wn rfl) rfl rfl (py_assign rfl) (d_nil (W_sr (sM rfl rfl (sV rfl (py_neq rfl rfl) (s_nil (W_ifd rfl (fun c14 => ?_) (fun c14 => ?_)))))))
           ·refine W_sr (sM rfl rfl (sA rfl rfl (s_nil (rT hQ Tryz.results93 rfl ?_))))
            have tq := tapesF_rec hM (k := k) (k2 := k2) (by omega) hkz (by omega) hk2z (by omega)
            exact ⟨H17.ext, congrArg (Value.int .i64) ((if_neg (by omega)).trans (((if_neg (by omega)).trans ((if_pos hF).trans ((if_pos (by omega)).trans tq)))).symm)⟩
           ·refine W_skip (W_reg (sM rfl rfl (sV rfl (py_add rfl rfl (in64 ⟨by omega, by omega⟩)) (sA rfl rfl (s_nil (⟨k2 + 1, ⟨rfl, rfl, rfl, trivial⟩, ⟨(H17.ftake 5), by omega, (recsF_next hk2z).trans (by omega)⟩, by dsimp only; omega⟩))))))
          ·refine W_exit (W_reg (sM rfl rfl (sV rfl (py_add rfl rfl (in64 ⟨by omega, by omega⟩)) (sA rfl rfl (s_nil ?_)))))
           obtain rfl : k2 = (z.Tapes.getD k default).Recs.length := by omega
           refine ⟨k + 1, ⟨rfl, rfl, trivial⟩, ⟨(eP11.ftake 5), by omega, (tapeF_next hkz).trans hk2z⟩, by dsimp only; omega⟩
         ·refine W_exit (W_seq (W_seq ?_))
          obtain rfl : k = z.Tapes.length := by omega
          have hAll := hkz
          refine W_reg (sA rfl rfl (s_nil (W_block (W_loopS (γ := Nat) H14 [(1, _)] ⟨rfl, trivial⟩ (fun k => [(7, .int .i64 k)]) (fun k => k ≤ 2 ∧ (∀ i, i < k → wipedFull (z.Tapes.getD i default) = false)) (fun k => 2 - k) 0 ⟨rfl, trivial⟩ ⟨by omega, fun i hi => by omega⟩ (fun k w15 H18 ⟨hk, hek⟩ => ?_)))))
          dsimp only [lCA, lNA]
          refine W_seq (W_sr (sM rfl rfl (sV rfl (py_lss rfl rfl) (s_nil (W_ifd rfl (fun c15 => ?_) (fun c15 => ?_))))))
          ·refine W_skip (W_seq (W_block (W_seq ?_)))
           obtain ⟨eb12, eo27, es12, ef12, ee12, ec12, eO12, eH12, em12⟩ := elem_st (H18.seen 2 rfl) k (by omega)
           obtain ⟨ea16, ek16, eg16, rfl, eq12, eK12, eo28⟩ := own_Tape eO12
           have eP16 := H18.look1 2 rfl eo28 (fun b hb => eH12 b (by rw [eq12]; simp [hb]))
           have eL16 := oL eo28
           refine W_reg (sV rfl (py_field tu38 rfl ts36 rfl rfl) (sV rfl (py_load tu36 rfl rfl (cell_atL (eP16.box 0 rfl) rfl)) (sM rfl rfl (sV rfl (py_elz tu36 ts139 rfl rfl ee12 k (by omega) (by omega)) (sV rfl (py_field tu139 rfl ts4 rfl rfl) (sV rfl (py_load tu4 rfl rfl (at_cell ec12 0 rfl)) (sM rfl rfl (s_case (t := 108) rfl (fun hg10 => ?_) (fun hg10 => ?_)))))))))
           ·try simp only [decide_eq_true_eq, decide_eq_false_iff_not] at hg10
            refine s_val (wg rfl rfl rfl) rfl rfl (py_field tu38 rfl ts36 rfl rfl) (s_val (wg rfl rfl rfl) rfl rfl (py_load tu36 rfl rfl (cell_atL (eP16.box 0 rfl) rfl)) (s_val (wg rfl rfl rfl) rfl rfl (py_move rfl) (s_val (wg rfl rfl rfl) rfl rfl (py_elz tu36 ts139 rfl rfl ee12 k (by omega) (by omega)) (s_val (wg rfl rfl rfl) rfl rfl (py_field tu139 rfl ts30 rfl rfl) (s_val (wg rfl rfl rfl) rfl rfl (py_load tu30 rfl rfl (at_cell ec12 1 rfl)) (s_val (wg rfl rfl rfl) rfl rfl (py_len tu30 rfl) (s_val (wg rfl rfl rfl) rfl rfl (py_gtr rfl rfl) (sV rfl (py_pickT rfl rfl) (s_nil (W_ifd rfl (fun c16 => ?_) (fun c16 => ?_)))))))))))
            ·refine W_sr (sA rfl rfl (s_nil (rT hQ Tryz.results93 rfl ?_)))
             have tq := tapesF_full hM hAll (any_at k (by omega) (by rw [wipedFull]; simp_all <;> omega))
             exact ⟨eP16.ext, congrArg (Value.int .i64) ((if_neg (by omega)).trans ((if_pos hF).trans ((if_pos (by omega)).trans tq))).symm⟩
            ·refine W_skip (W_reg (sM rfl rfl (sV rfl (py_add rfl rfl (in64 ⟨by omega, by omega⟩)) (sA rfl rfl (s_nil (⟨k + 1, ⟨rfl, rfl, trivial⟩, ⟨(eP16.ftake 5), by omega, fun i hi => ?_⟩, by dsimp only; omega⟩))))))
             by_cases e : i = k
             ·subst e; rw [wipedFull]; simp_all <;> omega
             ·exact hek i (by omega)
           ·try simp only [decide_eq_true_eq, decide_eq_false_iff_not] at hg10
            refine sKf rfl rfl rfl (sKf rfl rfl rfl (sKf rfl rfl rfl (sKf rfl rfl rfl (sKf rfl rfl rfl (sKf rfl rfl rfl (sKf rfl rfl rfl (sKf rfl rfl rfl (sV rfl (py_pickF rfl rfl) (s_nil (W_iff rfl (W_skip (W_reg (sM rfl rfl (sV rfl (py_add rfl rfl (in64 ⟨by omega, by omega⟩)) (sA rfl rfl (s_nil (⟨k + 1, ⟨rfl, rfl, trivial⟩, ⟨(eP16.ftake 5), by omega, fun i hi => ?_⟩, by dsimp only; omega⟩)))))))))))))))))
            by_cases e : i = k
            ·subst e; rw [wipedFull]; simp_all <;> omega
            ·exact hek i (by omega)
          ·refine W_exit (W_seq (W_seq ?_))
           have tq := tapesF_ok hM hAll (any_none (fun i hi => hek i (by omega)))
           refine W_reg (sV rfl (py_field tu38 rfl ts2 rfl rfl) (sV rfl (py_load tu2 rfl rfl (cell_atL (H18.box 0 rfl) rfl)) (s_call (wn rfl) rfl rfl (pc_call Tryz.func97 rfl Tryz_nm97 rfl) Tryz_spec_l1In (fun v9 w16 r9 => ?_))))
           obtain ⟨e10, rfl⟩ := r9
           have H19 := H18.to e10
           refine sV rfl (py_not rfl) (sM rfl rfl (s_case (t := 122) rfl (fun hg11 => ?_) (fun hg11 => ?_)))
           ·try simp only [decide_eq_true_eq, decide_eq_false_iff_not] at hg11
            refine sKt rfl rfl rfl (sKt rfl rfl rfl (sKt rfl rfl rfl (sKt rfl rfl rfl (sV rfl (py_pickT rfl rfl) (s_nil (W_ift rfl (W_sr (sA rfl rfl (s_nil (rT hQ Tryz.results93 rfl ?_))))))))))
            exact ⟨H19.ext, congrArg (Value.int .i64) ((if_neg (by omega)).trans ((if_pos hF).trans ((if_neg (by omega)).trans (if_neg (by simp_all <;> omega))))).symm⟩
           ·try simp only [decide_eq_true_eq, decide_eq_false_iff_not] at hg11
            refine s_val (wg rfl rfl rfl) rfl rfl (py_field tu38 rfl ts2 rfl rfl) (s_val (wg rfl rfl rfl) rfl rfl (py_load tu2 rfl rfl (cell_atL (H19.box 0 rfl) rfl)) (s_call (wg rfl rfl rfl) rfl rfl (pc_call Tryz.func97 rfl Tryz_nm97 rfl) Tryz_spec_l1In (fun v10 w17 r10 => ?_)))
            obtain ⟨e11, rfl⟩ := r10
            have H20 := H19.to e11
            refine s_val (wg rfl rfl rfl) rfl rfl (py_not rfl) (sV rfl (py_pickF rfl rfl) (s_nil (W_if rfl (fun c17 => ?_) (fun c17 => ?_))))
            ·refine W_sr (sA rfl rfl (s_nil (rT hQ Tryz.results93 rfl ?_)))
             exact ⟨H20.ext, congrArg (Value.int .i64) ((if_neg (by omega)).trans ((if_pos hF).trans ((if_neg (by omega)).trans (if_neg (by simp_all <;> omega))))).symm⟩
            ·refine W_skip (W_sr (sA rfl rfl (s_nil (rT hQ Tryz.results93 rfl ?_))))
             exact ⟨H20.ext, congrArg (Value.int .i64) ((if_neg (by omega)).trans ((if_pos hF).trans ((if_neg (by omega)).trans (if_pos (by simp_all <;> omega))))).symm⟩
theorem Tryz_spec_l5Asked {w : World} {z : Wld} {zA9 zA10 zA11 : Option Addr} {zC9 zC10 zC11 : Nat} (zK : z.Ok) (zS9 : Sees w [.slice zA9 z.Groups.length zC9] z.Groups) (zS10 : Sees w [.slice zA10 z.On.length zC10] z.On) (zS11 : Sees w [.slice zA11 z.Tapes.length zC11] z.Tapes) : Ret Tryz.prog 125 #[z.val zA9 zC9 zA10 zC10 zA11 zC11] w fun v w' => Ext No w w' ∧ (v = .int .i64 (upF z)) := by
 have zK2 := zK
 unfold Wld.Ok Shape.Ok at zK2
 try unfold I64ok at zK2
 try unfold maxLen at zK2
 have zL9 := sL zS9
 obtain ⟨zF9, zO9⟩ := zS9
 have zL10 := sL zS10
 obtain ⟨zF10, zO10⟩ := zS10
 have zL11 := sL zS11
 obtain ⟨zF11, zO11⟩ := zS11
 refine ret_Q (vs := [z.val zA9 zC9 zA10 zC10 zA11 zC11]) Tryz.func125 rfl Tryz.ntmps125 rfl (fun Q hQ hN => ?_)
 have H0 := Sep.start (w := w) (F := [seen false [.slice zA9 z.Groups.length zC9] z.Groups zF9, seen false [.slice zA10 z.On.length zC10] z.On zF10, seen false [.slice zA11 z.Tapes.length zC11] z.Tapes zF11]) (all_cons zO9 (all_cons zO10 (all_cons zO11 (by simp))))
 refine W_sr (s_box (wn rfl) rfl rfl H0 (fun b1 w1 e1 g1 H1 => ?_))
 refine sA rfl rfl (s_nil (W_seq (W_sr (sV rfl (py_loadS tu38 rfl ts38 rfl rfl (At.whole (H1.box 0 rfl))) (s_call (wn rfl) rfl rfl (pc_call Tryz.func93 rfl Tryz_nm93 rfl) (Tryz_spec_WorldFault (by assumption) (H1.sees 0 rfl) (H1.sees 1 rfl) (H1.sees 2 rfl)) (fun v1 w2 r1 => ?_))))))
 obtain ⟨e2, rfl⟩ := r1
 have H2 := H1.to e2
 refine sA rfl rfl (s_nil (W_sr (sM rfl rfl (sV rfl (py_neq rfl rfl) (s_nil (W_ifd rfl (fun c1 => ?_) (fun c1 => ?_)))))))
 ·refine W_sr (sM rfl rfl (sA rfl rfl (s_nil (rT hQ Tryz.results125 rfl ?_))))
  exact ⟨H2.ext, congrArg (Value.int .i64) (if_pos (by omega)).symm⟩
 ·refine W_skip (W_seq (W_sr (sV rfl (py_field tu38 rfl ts4 rfl rfl) (sV rfl (py_load tu4 rfl rfl (cell_atL (H2.box 0 rfl) rfl)) (s_nil (W_if rfl (fun c2 => ?_) (fun c2 => ?_)))))))
  ·refine W_sr (sA rfl rfl (s_nil (rT hQ Tryz.results125 rfl ?_)))
   exact ⟨H2.ext, congrArg (Value.int .i64) ((if_neg (by omega)).trans (if_pos (by assumption))).symm⟩
  ·refine W_skip (W_sr (sA rfl rfl (s_nil (rT hQ Tryz.results125 rfl ?_))))
   exact ⟨H2.ext, congrArg (Value.int .i64) ((if_neg (by omega)).trans (if_neg (by simp_all <;> omega))).symm⟩
end Go.Wk
namespace Go.Wk
open Go.Proofs Rp
set_option maxRecDepth 10000
theorem Tryz_impl_World_wiped {w : World} {zb zC9 zC10 zC11 : Nat} {z : Wld} {zA9 zA10 zA11 : Option Addr} {g : Int} (zB : w.heap[zb]? = some (.cells [.int .i64 z.Shape.Groups, .int .i64 z.Shape.Column, .int .i64 z.Shape.Data, .int .i64 z.Shape.Spare, .int .i64 z.Shape.Rows, .int .i64 z.Shape.Cap, .int .i64 z.Shape.Batch, .int .i64 z.Shape.Queue, .int .i64 z.Shape.Stage, .slice zA9 z.Groups.length zC9, .slice zA10 z.On.length zC10, .slice zA11 z.Tapes.length zC11, .int .i64 z.Writes, .int .i64 z.Stop, .bool z.Down].toArray 38)) (zK : z.Ok) (zS9 : Sees w [.slice zA9 z.Groups.length zC9] z.Groups) (zS10 : Sees w [.slice zA10 z.On.length zC10] z.On) (zS11 : Sees w [.slice zA11 z.Tapes.length zC11] z.Tapes) (hs : z.Shape.ok = true) (hG : groupsOK z = true) (hg : ins g 0 (z.Shape.Groups + z.Shape.Column - 1) = true) : Ret Tryz.prog 174 #[.pointer (some ⟨zb, 0, none⟩), .int .i64 g] w fun v w' => Ext No w w' ∧ (Res w w' [v] (wipedL z g)) := by
 have zK2 := zK
 unfold Wld.Ok Shape.Ok at zK2
 try unfold I64ok at zK2
 try unfold maxLen at zK2
 have zL9 := sL zS9
 obtain ⟨zF9, zO9⟩ := zS9
 have zL10 := sL zS10
 obtain ⟨zF10, zO10⟩ := zS10
 have zL11 := sL zS11
 obtain ⟨zF11, zO11⟩ := zS11
 have sbd := shape_bd hs
 have hgg := groups_get hG
 have hgl := hgg.1
 have hgi := ins_iff.1 hg
 obtain ⟨hdl, hdd⟩ := hgg.2 g.toNat (by omega)
 refine ret_Q (vs := [.pointer (some ⟨zb, 0, none⟩), .int .i64 g]) Tryz.func174 rfl Tryz.ntmps174 rfl (fun Q hQ hN => ?_)
 have H0 := Sep.start (w := w) (F := [box zb (.cells [.int .i64 z.Shape.Groups, .int .i64 z.Shape.Column, .int .i64 z.Shape.Data, .int .i64 z.Shape.Spare, .int .i64 z.Shape.Rows, .int .i64 z.Shape.Cap, .int .i64 z.Shape.Batch, .int .i64 z.Shape.Queue, .int .i64 z.Shape.Stage, .slice zA9 z.Groups.length zC9, .slice zA10 z.On.length zC10, .slice zA11 z.Tapes.length zC11, .int .i64 z.Writes, .int .i64 z.Stop, .bool z.Down].toArray 38), seen false [.slice zA9 z.Groups.length zC9] z.Groups zF9, seen false [.slice zA10 z.On.length zC10] z.On zF10, seen false [.slice zA11 z.Tapes.length zC11] z.Tapes zF11]) (all_cons (by exact zB) (all_cons zO9 (all_cons zO10 (all_cons zO11 (by simp)))))
 refine W_sr (sA rfl rfl (s_nil (W_sr (s_lit0 (α := Int) (wn rfl) rfl tu25 Tryz_ty2 H0 (fun b1 w1 e1 g1 H1 => ?_)))))
 refine sA rfl rfl (s_nil (W_seq (W_seq ?_)))
 obtain ⟨eb1, eo1, ea1, ek1, ef1, ee1, ec1, eO1, eH1⟩ := elem_sl (H1.seen 1 rfl) g.toNat (by omega)
 have eP1 := H1.look1 1 rfl eO1 eH1
 refine W_reg (sM rfl rfl (sV rfl (py_nil rfl) (sV rfl (py_field tu38 rfl ts35 rfl rfl) (sV rfl (py_load tu35 rfl rfl (cell_atL (eP1.fbox 0 rfl) rfl)) (sM rfl rfl (sV rfl (py_elz tu35 ts142 rfl rfl ee1 g.toNat (by omega) (by omega)) (sV rfl (py_load tu142 rfl rfl ec1) (sV rfl (py_len tu142 rfl) (sM rfl rfl (s_nil (W_block (W_loopA (α := Int) (γ := Nat) (fun k => wipedTo (z.Groups.getD g.toNat []) k) 0 eP1 0 rfl 5 rfl [(4, _), (15, _), (16, _)] ⟨rfl, rfl, rfl, trivial⟩ (fun k => [(17, .int .i64 k)]) (fun k => k ≤ (z.Groups.getD g.toNat []).length ∧ True) (fun k => (z.Groups.getD g.toNat []).length - k) ⟨rfl, trivial⟩ ⟨by omega, trivial⟩ (fun k vA1 fA1 w2 H2 ⟨hk, _⟩ => ?_)))))))))))))
 dsimp only [lCA, lNA, lSZ, lSS] at H2 ⊢
 refine W_sr (sV rfl (py_lss rfl rfl) (s_nil (W_seq (W_ifd rfl (fun c1 => ?_) (fun c1 => ?_)))))
 ·refine W_skip (W_seq (W_block (W_seq ?_)))
  obtain ⟨eb2, eo2, es1, ef2, ee2, ec2, eO2, eH2, em1⟩ := elem_st (H2.seen 4 rfl) k (by omega)
  obtain ⟨ea2, ek2, eg1, rfl, eq1, eK1, eo3⟩ := own_Drive eO2
  have eP2 := H2.look1 4 rfl eo3 (fun b hb => eH2 b (by rw [eq1]; simp [hb]))
  have eL1 := oL eo3
  refine W_reg (sM rfl rfl (sV rfl (py_elz tu142 ts180 rfl rfl ee2 k (by omega) (by omega)) (sV rfl (py_loadS tu180 rfl ts180 rfl rfl ec2) (s_var (wn rfl) rfl Tryz.zeroValue180 eP2 (fun b2 w3 e2 g2 H3 => ?_)))))
  refine sA rfl rfl (s_stoS (wn rfl) ts180 rfl rfl rfl rfl H3 1 rfl rfl (fun w4 e3 H4 => ?_))
  dsimp only [lNA, lCA, lSZ, lSS, layL] at H4
  refine s_nil (W_sr (sV rfl (py_field tu180 rfl ts4 rfl rfl) (sV rfl (py_load tu4 rfl rfl (cell_atL (H4.box 1 rfl) rfl)) (s_nil (W_if rfl (fun c2 => ?_) (fun c2 => ?_))))))
  ·have wl := wiped_len (G := (z.Groups.getD g.toNat [])) (k := k)
   refine W_reg (sM rfl rfl (sM rfl rfl (s_lit1 (wn rfl) rfl tu25 Tryz_ty2 rfl rfl rfl rfl H4 (fun b3 w5 e4 g3 H5 => ?_))))
   refine s_app1 (wn rfl) rfl tu25 Tryz_ty2 rfl rfl rfl H5 0 2 rfl rfl (own_bi (by first | assumption | (unfold I64ok; omega))) (by unfold maxLen; omega) (by omega) (fun v1 w6 fp1 H6 => ?_)
   refine sA rfl rfl (s_nil (W_reg (sV rfl (py_add rfl rfl (in64 ⟨by omega, by omega⟩)) (sM rfl rfl (s_nil ?_)))))
   rw [← wiped_yes c2] at H6
   exact ⟨(k + 1, _, _), ⟨rfl, rfl, rfl, rfl, rfl, trivial⟩, ⟨((H6.ftake 5).dtake 1), by omega, trivial⟩, by dsimp only; omega⟩
  ·refine W_skip (W_reg (sV rfl (py_add rfl rfl (in64 ⟨by omega, by omega⟩)) (sM rfl rfl (s_nil ?_))))
   rw [← wiped_no c2] at H4
   exact ⟨(k + 1, _, _), ⟨rfl, rfl, rfl, rfl, rfl, trivial⟩, ⟨((H4.ftake 5).dtake 1), by omega, trivial⟩, by dsimp only; omega⟩
 ·refine W_exit (W_sr (sM rfl rfl (sA rfl rfl (s_nil (rT hQ Tryz.results174 rfl ?_)))))
  obtain rfl : k = (z.Groups.getD g.toNat []).length := by omega
  exact ⟨H2.ext, H2.out 0 rfl⟩
theorem Tryz_impl_World_dead {w : World} {zb zC9 zC10 zC11 : Nat} {z : Wld} {zA9 zA10 zA11 : Option Addr} {g : Int} (zB : w.heap[zb]? = some (.cells [.int .i64 z.Shape.Groups, .int .i64 z.Shape.Column, .int .i64 z.Shape.Data, .int .i64 z.Shape.Spare, .int .i64 z.Shape.Rows, .int .i64 z.Shape.Cap, .int .i64 z.Shape.Batch, .int .i64 z.Shape.Queue, .int .i64 z.Shape.Stage, .slice zA9 z.Groups.length zC9, .slice zA10 z.On.length zC10, .slice zA11 z.Tapes.length zC11, .int .i64 z.Writes, .int .i64 z.Stop, .bool z.Down].toArray 38)) (zK : z.Ok) (zS9 : Sees w [.slice zA9 z.Groups.length zC9] z.Groups) (zS10 : Sees w [.slice zA10 z.On.length zC10] z.On) (zS11 : Sees w [.slice zA11 z.Tapes.length zC11] z.Tapes) (hs : z.Shape.ok = true) (hG : groupsOK z = true) (hg : ins g 0 (z.Shape.Groups + z.Shape.Column - 1) = true) : Ret Tryz.prog 101 #[.pointer (some ⟨zb, 0, none⟩), .int .i64 g] w fun v w' => Ext No w w' ∧ (v = .bool (deadF z g)) := by
 have zK2 := zK
 unfold Wld.Ok Shape.Ok at zK2
 try unfold I64ok at zK2
 try unfold maxLen at zK2
 have zL9 := sL zS9
 obtain ⟨zF9, zO9⟩ := zS9
 have zL10 := sL zS10
 obtain ⟨zF10, zO10⟩ := zS10
 have zL11 := sL zS11
 obtain ⟨zF11, zO11⟩ := zS11
 have sbd := shape_bd hs
 refine ret_Q (vs := [.pointer (some ⟨zb, 0, none⟩), .int .i64 g]) Tryz.func101 rfl Tryz.ntmps101 rfl (fun Q hQ hN => ?_)
 have H0 := Sep.start (w := w) (F := [box zb (.cells [.int .i64 z.Shape.Groups, .int .i64 z.Shape.Column, .int .i64 z.Shape.Data, .int .i64 z.Shape.Spare, .int .i64 z.Shape.Rows, .int .i64 z.Shape.Cap, .int .i64 z.Shape.Batch, .int .i64 z.Shape.Queue, .int .i64 z.Shape.Stage, .slice zA9 z.Groups.length zC9, .slice zA10 z.On.length zC10, .slice zA11 z.Tapes.length zC11, .int .i64 z.Writes, .int .i64 z.Stop, .bool z.Down].toArray 38), seen false [.slice zA9 z.Groups.length zC9] z.Groups zF9, seen false [.slice zA10 z.On.length zC10] z.On zF10, seen false [.slice zA11 z.Tapes.length zC11] z.Tapes zF11]) (all_cons (by exact zB) (all_cons zO9 (all_cons zO10 (all_cons zO11 (by simp)))))
 refine W_sr (sA rfl rfl (s_nil (W_seq (W_drw (S := Ext No _) [(0, true), (1, true), (4, true), (5, true), (6, true), (7, true), (8, true), (2, false), (3, false), (9, true), (10, false)] (by kernel_rfl) (by kernel_rfl) (by kernel_rfl) rfl (fun _ => Ext.refl.drawn _) (fun q1 => ?_)))))
 have H1 := H0.drawn q1
 refine dM rfl rfl rfl (dM rfl rfl rfl (dM rfl rfl rfl (dV rfl rfl (fun zw hx => py_nil rfl) (dV rfl rfl (fun zw hx => py_field tu38 rfl ts34 rfl rfl) (dV rfl rfl (fun zw hx => py_field tu34 rfl ts2 rfl rfl) (dV rfl rfl (fun zw hx => py_load tu2 rfl rfl (cell_atL (hx.heap (H1.fbox 0 rfl)) rfl)) (d_call rfl (wn rfl) rfl rfl (pc_call Tryz.func174 rfl Tryz_nm174 rfl) (Tryz_impl_World_wiped (H1.fbox 0 rfl) (by assumption) (H1.sees 1 rfl) (H1.sees 2 rfl) (H1.sees 3 rfl) (by assumption) (by assumption) (by assumption)) (fun hS _ _ r _ => hS.trans r.1.no) (fun v1 w1 r1 => ?_))))))))
 obtain ⟨e1, r1⟩ := r1
 obtain ⟨fp1, H2⟩ := H1.res e1 r1
 obtain ⟨a1, k1, q2⟩ := own_slice (H2.mine 0 rfl)
 cases q2
 refine d_call rfl (wn rfl) rfl rfl (pc_call Tryz.func173 rfl Tryz_nm173 rfl) (Tryz_size_int64 (H2.msees 0 rfl)) (fun hS _ _ r _ => hS.trans r.1.no) (fun v2 w2 r2 => ?_)
 obtain ⟨e2, rfl⟩ := r2
 have H3 := H2.to e2
 refine dV rfl rfl (fun zw hx => py_gtr rfl rfl) (d_end rfl (wn rfl) rfl rfl (py_assign rfl) (d_nil (rT hQ Tryz.results101 rfl ?_)))
 exact ⟨H3.ext, rfl⟩
theorem Tryz_spec_l7Dead {w : World} {zb zC9 zC10 zC11 : Nat} {z : Wld} {zA9 zA10 zA11 : Option Addr} {g : Int} (zB : w.heap[zb]? = some (.cells [.int .i64 z.Shape.Groups, .int .i64 z.Shape.Column, .int .i64 z.Shape.Data, .int .i64 z.Shape.Spare, .int .i64 z.Shape.Rows, .int .i64 z.Shape.Cap, .int .i64 z.Shape.Batch, .int .i64 z.Shape.Queue, .int .i64 z.Shape.Stage, .slice zA9 z.Groups.length zC9, .slice zA10 z.On.length zC10, .slice zA11 z.Tapes.length zC11, .int .i64 z.Writes, .int .i64 z.Stop, .bool z.Down].toArray 38)) (zK : z.Ok) (zS9 : Sees w [.slice zA9 z.Groups.length zC9] z.Groups) (zS10 : Sees w [.slice zA10 z.On.length zC10] z.On) (zS11 : Sees w [.slice zA11 z.Tapes.length zC11] z.Tapes) (hs : z.Shape.ok = true) (hG : groupsOK z = true) (hg : ins g 0 (z.Shape.Groups + z.Shape.Column - 1) = true) : Ret Tryz.prog 158 #[.pointer (some ⟨zb, 0, none⟩), .int .i64 g] w fun v w' => Ext No w w' ∧ (v = .bool (deadF z g)) := by
 have zK2 := zK
 unfold Wld.Ok Shape.Ok at zK2
 try unfold I64ok at zK2
 try unfold maxLen at zK2
 have zL9 := sL zS9
 obtain ⟨zF9, zO9⟩ := zS9
 have zL10 := sL zS10
 obtain ⟨zF10, zO10⟩ := zS10
 have zL11 := sL zS11
 obtain ⟨zF11, zO11⟩ := zS11
 have sbd := shape_bd hs
 have hgg := groups_get hG
 have hgl := hgg.1
 have hgi := ins_iff.1 hg
 obtain ⟨hdl, hdd⟩ := hgg.2 g.toNat (by omega)
 refine ret_Q (vs := [.pointer (some ⟨zb, 0, none⟩), .int .i64 g]) Tryz.func158 rfl Tryz.ntmps158 rfl (fun Q hQ hN => ?_)
 have H0 := Sep.start (w := w) (F := [box zb (.cells [.int .i64 z.Shape.Groups, .int .i64 z.Shape.Column, .int .i64 z.Shape.Data, .int .i64 z.Shape.Spare, .int .i64 z.Shape.Rows, .int .i64 z.Shape.Cap, .int .i64 z.Shape.Batch, .int .i64 z.Shape.Queue, .int .i64 z.Shape.Stage, .slice zA9 z.Groups.length zC9, .slice zA10 z.On.length zC10, .slice zA11 z.Tapes.length zC11, .int .i64 z.Writes, .int .i64 z.Stop, .bool z.Down].toArray 38), seen false [.slice zA9 z.Groups.length zC9] z.Groups zF9, seen false [.slice zA10 z.On.length zC10] z.On zF10, seen false [.slice zA11 z.Tapes.length zC11] z.Tapes zF11]) (all_cons (by exact zB) (all_cons zO9 (all_cons zO10 (all_cons zO11 (by simp)))))
 refine W_sr (sA rfl rfl (s_nil (W_sr (sA rfl rfl (s_nil (W_seq (W_sr (sA rfl rfl (s_nil (W_block (W_loopS (γ := Nat) H0 [(0, _), (1, _), (4, _)] ⟨rfl, rfl, rfl, trivial⟩ (fun k => [(5, .int .i64 ((wipedTo (z.Groups.getD g.toNat []) k).length : Nat)), (6, .int .i64 k)]) (fun k => k ≤ (z.Groups.getD g.toNat []).length ∧ True) (fun k => (z.Groups.getD g.toNat []).length - k) 0 ⟨rfl, rfl, trivial⟩ ⟨by omega, trivial⟩ (fun k w1 H1 ⟨hk, _⟩ => ?_))))))))))))
 dsimp only [lCA, lNA]
 refine W_seq (W_seq ?_)
 obtain ⟨eb1, eo1, ea1, ek1, ef1, ee1, ec1, eO1, eH1⟩ := elem_sl (H1.seen 1 rfl) g.toNat (by omega)
 have eP1 := H1.look1 1 rfl eO1 eH1
 refine W_reg (sM rfl rfl (sM rfl rfl (sV rfl (py_nil rfl) (sV rfl (py_field tu38 rfl ts35 rfl rfl) (sV rfl (py_load tu35 rfl rfl (cell_atL (eP1.fbox 0 rfl) rfl)) (sM rfl rfl (sV rfl (py_elz tu35 ts142 rfl rfl ee1 g.toNat (by omega) (by omega)) (sV rfl (py_load tu142 rfl rfl ec1) (sV rfl (py_len tu142 rfl) (sV rfl (py_lss rfl rfl) (s_nil (W_ifd rfl (fun c1 => ?_) (fun c1 => ?_)))))))))))))
 ·refine W_skip (W_seq (W_block (W_seq ?_)))
  obtain ⟨eb2, eo2, ea2, ek2, ef2, ee2, ec2, eO2, eH2⟩ := elem_sl (eP1.seen 1 rfl) g.toNat (by omega)
  have eP2 := eP1.look1 1 rfl eO2 eH2
  obtain ⟨eb3, eo3, es1, ef3, ee3, ec3, eO3, eH3, em1⟩ := elem_st (eP2.seen 5 rfl) k (by omega)
  obtain ⟨ea3, ek3, eg1, rfl, eq1, eK1, eo4⟩ := own_Drive eO3
  have eP3 := eP2.look1 5 rfl eo4 (fun b hb => eH3 b (by rw [eq1]; simp [hb]))
  have eL1 := oL eo4
  refine W_reg (sM rfl rfl (sV rfl (py_nil rfl) (sV rfl (py_field tu38 rfl ts35 rfl rfl) (sV rfl (py_load tu35 rfl rfl (cell_atL (eP3.fbox 0 rfl) rfl)) (sM rfl rfl (sV rfl (py_elz tu35 ts142 rfl rfl ee2 g.toNat (by omega) (by omega)) (sV rfl (py_load tu142 rfl rfl ec2) (sM rfl rfl (sV rfl (py_elz tu142 ts180 rfl rfl ee3 k (by omega) (by omega)) (sV rfl (py_field tu180 rfl ts4 rfl rfl) (sV rfl (py_load tu4 rfl rfl (at_cell ec3 0 rfl)) (s_nil (W_if rfl (fun c2 => ?_) (fun c2 => ?_))))))))))))))
  ·have wl := wiped_len (G := (z.Groups.getD g.toNat [])) (k := k)
   refine W_reg (sM rfl rfl (sV rfl (py_add rfl rfl (in64 ⟨by omega, by omega⟩)) (sA rfl rfl (s_nil (W_reg (sM rfl rfl (sV rfl (py_add rfl rfl (in64 ⟨by omega, by omega⟩)) (sA rfl rfl (s_nil ?_)))))))))
   have wq := wiped_yes c2
   exact ⟨k + 1, ⟨eqI (by rw [wq]; simp), rfl, rfl, rfl, rfl, trivial⟩, ⟨(eP3.ftake 4), by omega, trivial⟩, by dsimp only; omega⟩
  ·refine W_skip (W_reg (sM rfl rfl (sV rfl (py_add rfl rfl (in64 ⟨by omega, by omega⟩)) (sA rfl rfl (s_nil ?_)))))
   have wq := wiped_no c2
   exact ⟨k + 1, ⟨eqI (by rw [wq]), rfl, rfl, rfl, rfl, trivial⟩, ⟨(eP3.ftake 4), by omega, trivial⟩, by dsimp only; omega⟩
 ·refine W_exit (W_sr (sM rfl rfl (sM rfl rfl (sV rfl (py_nil rfl) (sV rfl (py_field tu38 rfl ts34 rfl rfl) (sV rfl (py_field tu34 rfl ts2 rfl rfl) (sV rfl (py_load tu2 rfl rfl (cell_atL (eP1.fbox 0 rfl) rfl)) (sV rfl (py_gtr rfl rfl) (sA rfl rfl (s_nil (rT hQ Tryz.results158 rfl ?_)))))))))))
  obtain rfl : k = (z.Groups.getD g.toNat []).length := by omega
  exact ⟨eP1.ext, rfl⟩
end Go.Wk
namespace Go.Wk
open Go.Proofs Rp
set_option maxRecDepth 10000
theorem Tryz_clone_i {w : World} {xs : List Int} {xsA : Option Addr} {xsC : Nat} (xsS : Sees w [.slice xsA xs.length xsC] xs) (hl : xs.length ≤ 100000000) : Ret Tryz.prog 150 #[.slice xsA xs.length xsC] w fun v w' => Ext No w w' ∧ (Res w w' [v] xs) := by
 have xsL := sL xsS
 obtain ⟨xsF, xsO⟩ := xsS
 refine ret_Q (vs := [.slice xsA xs.length xsC]) Tryz.func150 rfl Tryz.ntmps150 rfl (fun Q hQ hN => ?_)
 have H0 := Sep.start (w := w) (F := [seen false [.slice xsA xs.length xsC] xs xsF]) (all_cons xsO (by simp))
 refine W_sr (sA rfl rfl (s_nil (W_seq (W_sr (sM rfl rfl (sV rfl (py_slnil tu25 rfl rfl) (s_nil (W_if rfl (fun c1 => ?_) (fun c1 => ?_)))))))))
 ·refine W_sr (sA rfl rfl (s_nil (rT hQ Tryz.results150 rfl ?_)))
  have e : xs = [] := own_none xsO c1
  exact ⟨H0.ext, e ▸ ⟨[], .inr (.inl ⟨rfl, rfl, rfl⟩), .nil, by simp⟩⟩
 ·refine W_skip (W_sr (s_lit0 (α := Int) (wn rfl) rfl tu25 Tryz_ty2 H0 (fun b1 w1 e1 g1 H1 => ?_)))
  refine sM rfl rfl (s_appF (wn rfl) rfl tu25 Tryz_ty2 rfl rfl rfl H1 0 rfl (H1.seen 0 rfl) (by (try simp only [List.length_nil]); unfold maxLen; omega) (by (try simp only [List.length_nil]); omega) (fun v1 w2 fp1 H2 => ?_))
  refine sA rfl rfl (s_nil (rT hQ Tryz.results150 rfl ?_))
  exact ⟨H2.ext, by
   have h := H2.out 0 rfl
   rwa [List.nil_append] at h⟩
theorem Tryz_clone_b {w : World} {xs : List UInt8} {xsA : Option Addr} {xsC : Nat} (xsS : Sees w [.slice xsA xs.length xsC] xs) (hl : xs.length ≤ 100000000) : Ret Tryz.prog 151 #[.slice xsA xs.length xsC] w fun v w' => Ext No w w' ∧ (Res w w' [v] xs) := by
 have xsL := sL xsS
 obtain ⟨xsF, xsO⟩ := xsS
 refine ret_Q (vs := [.slice xsA xs.length xsC]) Tryz.func151 rfl Tryz.ntmps151 rfl (fun Q hQ hN => ?_)
 have H0 := Sep.start (w := w) (F := [seen false [.slice xsA xs.length xsC] xs xsF]) (all_cons xsO (by simp))
 refine W_sr (sA rfl rfl (s_nil (W_seq (W_sr (sM rfl rfl (sV rfl (py_slnil tu45 rfl rfl) (s_nil (W_if rfl (fun c1 => ?_) (fun c1 => ?_)))))))))
 ·refine W_sr (sA rfl rfl (s_nil (rT hQ Tryz.results151 rfl ?_)))
  have e : xs = [] := own_none xsO c1
  exact ⟨H0.ext, e ▸ ⟨[], .inr (.inl ⟨rfl, rfl, rfl⟩), .nil, by simp⟩⟩
 ·refine W_skip (W_sr (s_lit0 (α := UInt8) (wn rfl) rfl tu45 Tryz_ty5 H0 (fun b1 w1 e1 g1 H1 => ?_)))
  refine sM rfl rfl (s_appF (wn rfl) rfl tu45 Tryz_ty5 rfl rfl rfl H1 0 rfl (H1.seen 0 rfl) (by (try simp only [List.length_nil]); unfold maxLen; omega) (by (try simp only [List.length_nil]); omega) (fun v1 w2 fp1 H2 => ?_))
  refine sA rfl rfl (s_nil (rT hQ Tryz.results151 rfl ?_))
  exact ⟨H2.ext, by
   have h := H2.out 0 rfl
   rwa [List.nil_append] at h⟩
theorem Tryz_impl_cloneRec {w : World} {r : Rec} {rA6 rA7 rA8 : Option Addr} {rC6 rC7 rC8 : Nat} (rK : r.Ok) (rS6 : Sees w [.slice rA6 r.Rows.length rC6] r.Rows) (rS7 : Sees w [.slice rA7 r.Data.length rC7] r.Data) (rS8 : Sees w [.slice rA8 r.Delta.length rC8] r.Delta) (hb : szRec r ≤ 1048576) : Ret Tryz.prog 74 #[r.val rA6 rC6 rA7 rC7 rA8 rC8] w fun v w' => Ext No w w' ∧ (∃ A6 C6 A7 C7 A8 C8, v = r.val A6 C6 A7 C7 A8 C8 ∧ Res w w' [.int .i64 r.Kind, .int .i64 r.Seq, .string r.Name, .int .i64 r.Length, .int .i64 r.Group, .int .i64 r.Row, .slice A6 r.Rows.length C6, .slice A7 r.Data.length C7, .slice A8 r.Delta.length C8] r) := by
 have rK2 := rK
 unfold Rec.Ok at rK2
 try unfold I64ok at rK2
 try unfold maxLen at rK2
 have rN2 : r.Name.size ≤ maxLen := by unfold maxLen; omega
 have rL6 := sL rS6
 obtain ⟨rF6, rO6⟩ := rS6
 have rL7 := sL rS7
 obtain ⟨rF7, rO7⟩ := rS7
 have rL8 := sL rS8
 obtain ⟨rF8, rO8⟩ := rS8
 unfold szRec at hb
 refine ret_Q (vs := [r.val rA6 rC6 rA7 rC7 rA8 rC8]) Tryz.func74 rfl Tryz.ntmps74 rfl (fun Q hQ hN => ?_)
 have H0 := Sep.start (w := w) (F := [seen false [.slice rA6 r.Rows.length rC6] r.Rows rF6, seen false [.slice rA7 r.Data.length rC7] r.Data rF7, seen false [.slice rA8 r.Delta.length rC8] r.Delta rF8]) (all_cons rO6 (all_cons rO7 (all_cons rO8 (by simp))))
 refine W_sr (s_box (wn rfl) rfl rfl H0 (fun b1 w1 e1 g1 H1 => ?_))
 refine s_var (wn rfl) rfl Tryz.zeroValue68 H1 (fun b2 w2 e2 g2 H2 => ?_)
 refine s_nil (W_seq (W_drw (S := Ext (· ∈ [b1]) _) [(0, true), (3, true), (6, true), (1089, false), (1, false), (1032, false), (2, false), (1020, false), (4, false), (1009, false), (5, false), (7, false), (9, true), (8, false), (10, false), (11, true), (12, false), (13, true), (14, false), (7, false), (9, true), (5, false), (8, false), (10, false), (11, true), (12, false), (13, true), (14, false), (7, false), (4, false), (9, true), (5, false), (8, false), (10, false), (11, true), (12, false), (13, true), (14, false), (1032, false), (4, false), (1020, false), (2, false), (1009, false), (5, false), (7, false), (9, true), (8, false), (10, false), (11, true), (12, false), (13, true), (14, false), (7, false), (9, true), (5, false), (8, false), (10, false), (11, true), (12, false), (13, true), (14, false), (7, false), (2, false), (9, true), (5, false), (8, false), (10, false), (11, true), (12, false), (13, true), (14, false), (7, false), (1010, false), (2, false), (4, false), (9, true), (5, false), (8, false), (10, false), (11, true), (12, false), (13, true), (14, false), (4, false), (2, false), (9, true), (5, false), (8, false), (10, false), (11, true), (12, false), (13, true), (14, false), (1045, false), (4, false), (1032, false), (1, false), (1020, false), (2, false), (1009, false), (5, false), (7, false), (9, true), (8, false), (10, false), (11, true), (12, false), (13, true), (14, false), (7, false), (9, true), (5, false), (8, false), (10, false), (11, true), (12, false), (13, true), (14, false), (7, false), (2, false), (9, true), (5, false), (8, false), (10, false), (11, true), (12, false), (13, true), (14, false), (7, false), (1, false), (2, false), (9, true), (5, false), (8, false), (10, false), (11, true), (12, false), (13, true), (14, false), (7, false), (1022, false), (1, false), (1010, false), (2, false), (4, false), (9, true), (5, false), (8, false), (10, false), (11, true), (12, false), (13, true), (14, false), (4, false), (2, false), (9, true), (5, false), (8, false), (10, false), (11, true), (12, false), (13, true), (14, false), (4, false), (1, false), (2, false), (9, true), (5, false), (8, false), (10, false), (11, true), (12, false), (13, true), (14, false)] (by kernel_rfl) (by kernel_rfl) (by kernel_rfl) rfl (fun _ => Ext.refl.drawn _) (fun q1 => ?_)))
 have H3 := H2.drawn q1
 refine dV rfl rfl (fun zw hx => py_field tu68 rfl ts25 rfl rfl) (dV rfl rfl (fun zw hx => py_field tu68 rfl ts45 rfl rfl) (dV rfl rfl (fun zw hx => py_field tu68 rfl ts45 rfl rfl) (d_fork (l1 := [(1, false), (1032, false), (2, false), (1020, false), (4, false), (1009, false), (5, false), (7, false), (9, true), (8, false), (10, false), (11, true), (12, false), (13, true), (14, false), (7, false), (9, true), (5, false), (8, false), (10, false), (11, true), (12, false), (13, true), (14, false), (7, false), (4, false), (9, true), (5, false), (8, false), (10, false), (11, true), (12, false), (13, true), (14, false), (1032, false), (4, false), (1020, false), (2, false), (1009, false), (5, false), (7, false), (9, true), (8, false), (10, false), (11, true), (12, false), (13, true), (14, false), (7, false), (9, true), (5, false), (8, false), (10, false), (11, true), (12, false), (13, true), (14, false), (7, false), (2, false), (9, true), (5, false), (8, false), (10, false), (11, true), (12, false), (13, true), (14, false), (7, false), (1010, false), (2, false), (4, false), (9, true), (5, false), (8, false), (10, false), (11, true), (12, false), (13, true), (14, false), (4, false), (2, false), (9, true), (5, false), (8, false), (10, false), (11, true), (12, false), (13, true), (14, false)]) (l2 := [(1045, false), (4, false), (1032, false), (1, false), (1020, false), (2, false), (1009, false), (5, false), (7, false), (9, true), (8, false), (10, false), (11, true), (12, false), (13, true), (14, false), (7, false), (9, true), (5, false), (8, false), (10, false), (11, true), (12, false), (13, true), (14, false), (7, false), (2, false), (9, true), (5, false), (8, false), (10, false), (11, true), (12, false), (13, true), (14, false), (7, false), (1, false), (2, false), (9, true), (5, false), (8, false), (10, false), (11, true), (12, false), (13, true), (14, false), (7, false), (1022, false), (1, false), (1010, false), (2, false), (4, false), (9, true), (5, false), (8, false), (10, false), (11, true), (12, false), (13, true), (14, false), (4, false), (2, false), (9, true), (5, false), (8, false), (10, false), (11, true), (12, false), (13, true), (14, false), (4, false), (1, false), (2, false), (9, true), (5, false), (8, false), (10, false), (11, true), (12, false), (13, true), (14, false)]) rfl rfl rfl rfl ?_ ?_)))
 ·refine d_end rfl (wn rfl) rfl rfl (py_load tu25 rfl rfl (cell_atL (H3.box 0 rfl) rfl)) (d_fork (l1 := [(2, false), (1020, false), (4, false), (1009, false), (5, false), (7, false), (9, true), (8, false), (10, false), (11, true), (12, false), (13, true), (14, false), (7, false), (9, true), (5, false), (8, false), (10, false), (11, true), (12, false), (13, true), (14, false), (7, false), (4, false), (9, true), (5, false), (8, false), (10, false), (11, true), (12, false), (13, true), (14, false)]) (l2 := [(1032, false), (4, false), (1020, false), (2, false), (1009, false), (5, false), (7, false), (9, true), (8, false), (10, false), (11, true), (12, false), (13, true), (14, false), (7, false), (9, true), (5, false), (8, false), (10, false), (11, true), (12, false), (13, true), (14, false), (7, false), (2, false), (9, true), (5, false), (8, false), (10, false), (11, true), (12, false), (13, true), (14, false), (7, false), (1010, false), (2, false), (4, false), (9, true), (5, false), (8, false), (10, false), (11, true), (12, false), (13, true), (14, false), (4, false), (2, false), (9, true), (5, false), (8, false), (10, false), (11, true), (12, false), (13, true), (14, false)]) rfl rfl rfl rfl ?_ ?_)
  ·refine d_call rfl (wn rfl) rfl rfl (pc_call Tryz.func150 rfl Tryz_nm150 rfl) (Tryz_clone_i (H3.sees 0 rfl) (by omega)) (fun hS _ _ r _ => hS.trans r.1.no) (fun v1 w3 r1 => ?_)
   obtain ⟨e3, r1⟩ := r1
   obtain ⟨fp1, H4⟩ := H3.res e3 r1
   obtain ⟨a1, k1, q2⟩ := own_slice (H4.mine 2 rfl)
   cases q2
   refine d_fork (l1 := [(4, false), (1009, false), (5, false), (7, false), (9, true), (8, false), (10, false), (11, true), (12, false), (13, true), (14, false), (7, false), (9, true), (5, false), (8, false), (10, false), (11, true), (12, false), (13, true), (14, false)]) (l2 := [(7, false), (4, false), (9, true), (5, false), (8, false), (10, false), (11, true), (12, false), (13, true), (14, false)]) rfl rfl rfl rfl ?_ ?_
   ·refine d_end rfl (wn rfl) rfl rfl (py_load tu45 rfl rfl (cell_atL (H4.box 0 rfl) rfl)) (d_fork (l1 := [(5, false), (7, false), (9, true), (8, false), (10, false), (11, true), (12, false), (13, true), (14, false)]) (l2 := [(7, false), (9, true), (5, false), (8, false), (10, false), (11, true), (12, false), (13, true), (14, false)]) rfl rfl rfl rfl ?_ ?_)
    ·refine d_call rfl (wn rfl) rfl rfl (pc_call Tryz.func151 rfl Tryz_nm151 rfl) (Tryz_clone_b (H4.sees 1 rfl) (by omega)) (fun hS _ _ r _ => hS.trans r.1.no) (fun v2 w4 r2 => ?_)
     obtain ⟨e4, r2⟩ := r2
     obtain ⟨fp2, H5⟩ := H4.res e4 r2
     obtain ⟨a2, k2, q3⟩ := own_slice (H5.mine 3 rfl)
     cases q3
     refine d_end rfl (wn rfl) rfl rfl (py_load tu45 rfl rfl (cell_atL (H5.box 0 rfl) rfl)) (dV rfl rfl (fun zw hx => py_field tu68 rfl ts25 rfl rfl) (d_call rfl (wn rfl) rfl rfl (pc_call Tryz.func151 rfl Tryz_nm151 rfl) (Tryz_clone_b (H5.sees 2 rfl) (by omega)) (fun hS _ _ r _ => hS.trans r.1.no) (fun v3 w5 r3 => ?_)))
     obtain ⟨e5, r3⟩ := r3
     obtain ⟨fp3, H6⟩ := H5.res e5 r3
     obtain ⟨a3, k3, q4⟩ := own_slice (H6.mine 4 rfl)
     cases q4
     refine d_sto rfl (wn rfl) ts25 rfl rfl rfl H6 0 rfl rfl (fun _ h e _ => h.trans (e.mono fun _ _ q => by simp [q])) (fun w6 e6 H7 => ?_)
     dsimp only [lNA, lCA, lSZ, lSS, layL] at H7
     refine dV rfl rfl (fun zw hx => py_field tu68 rfl ts45 rfl rfl) (d_sto rfl (wn rfl) ts45 rfl rfl rfl H7 0 rfl rfl (fun _ h e _ => h.trans (e.mono fun _ _ q => by simp [q])) (fun w7 e7 H8 => ?_))
     dsimp only [lNA, lCA, lSZ, lSS, layL] at H8
     refine dV rfl rfl (fun zw hx => py_field tu68 rfl ts45 rfl rfl) (d_sto rfl (wn rfl) ts45 rfl rfl rfl H8 0 rfl rfl (fun _ h e _ => h.trans (e.mono fun _ _ q => by simp [q])) (fun w8 e8 H9 => ?_))
     dsimp only [lNA, lCA, lSZ, lSS, layL] at H9
     refine d_nil (W_sr (sV rfl (py_loadS tu68 rfl ts68 rfl rfl (At.whole (H9.box 0 rfl))) (s_stoS (wn rfl) ts68 rfl rfl rfl rfl H9 1 rfl rfl (fun w9 e9 H10 => ?_))))
     dsimp only [lNA, lCA, lSZ, lSS, layL] at H10
     refine s_nil (W_ret (hQ _ _ (finC Tryz.results74 rfl (run_loadVarS tu68 rfl ts68 rfl (At.whole (H10.box 1 rfl))) ?_)))
     exact ⟨H10.ext, _, _, _, _, _, _, rfl, Rec.out (H10.sub (.cons _ (.cons _ (.cons_cons _ (.cons_cons _ (.cons_cons _ List.Sublist.slnil)))))) (by assumption)⟩
    ·refine d_end rfl (wn rfl) rfl rfl (py_load tu45 rfl rfl (cell_atL (H4.box 0 rfl) rfl)) (dV rfl rfl (fun zw hx => py_field tu68 rfl ts25 rfl rfl) (d_call rfl (wn rfl) rfl rfl (pc_call Tryz.func151 rfl Tryz_nm151 rfl) (Tryz_clone_b (H4.sees 1 rfl) (by omega)) (fun hS _ _ r _ => hS.trans r.1.no) (fun v4 w10 r4 => ?_)))
     obtain ⟨e10, r4⟩ := r4
     obtain ⟨fp4, H11⟩ := H4.res e10 r4
     obtain ⟨a4, k4, q5⟩ := own_slice (H11.mine 3 rfl)
     cases q5
     refine d_call rfl (wn rfl) rfl rfl (pc_call Tryz.func151 rfl Tryz_nm151 rfl) (Tryz_clone_b (H11.sees 2 rfl) (by omega)) (fun hS _ _ r _ => hS.trans r.1.no) (fun v5 w11 r5 => ?_)
     obtain ⟨e11, r5⟩ := r5
     obtain ⟨fp5, H12⟩ := H11.res e11 r5
     obtain ⟨a5, k5, q6⟩ := own_slice (H12.mine 4 rfl)
     cases q6
     refine d_sto rfl (wn rfl) ts25 rfl rfl rfl H12 0 rfl rfl (fun _ h e _ => h.trans (e.mono fun _ _ q => by simp [q])) (fun w12 e12 H13 => ?_)
     dsimp only [lNA, lCA, lSZ, lSS, layL] at H13
     refine dV rfl rfl (fun zw hx => py_field tu68 rfl ts45 rfl rfl) (d_sto rfl (wn rfl) ts45 rfl rfl rfl H13 0 rfl rfl (fun _ h e _ => h.trans (e.mono fun _ _ q => by simp [q])) (fun w13 e13 H14 => ?_))
     dsimp only [lNA, lCA, lSZ, lSS, layL] at H14
     refine dV rfl rfl (fun zw hx => py_field tu68 rfl ts45 rfl rfl) (d_sto rfl (wn rfl) ts45 rfl rfl rfl H14 0 rfl rfl (fun _ h e _ => h.trans (e.mono fun _ _ q => by simp [q])) (fun w14 e14 H15 => ?_))
     dsimp only [lNA, lCA, lSZ, lSS, layL] at H15
     refine d_nil (W_sr (sV rfl (py_loadS tu68 rfl ts68 rfl rfl (At.whole (H15.box 0 rfl))) (s_stoS (wn rfl) ts68 rfl rfl rfl rfl H15 1 rfl rfl (fun w15 e15 H16 => ?_))))
     dsimp only [lNA, lCA, lSZ, lSS, layL] at H16
     refine s_nil (W_ret (hQ _ _ (finC Tryz.results74 rfl (run_loadVarS tu68 rfl ts68 rfl (At.whole (H16.box 1 rfl))) ?_)))
     exact ⟨H16.ext, _, _, _, _, _, _, rfl, Rec.out (H16.sub (.cons _ (.cons _ (.cons_cons _ (.cons_cons _ (.cons_cons _ List.Sublist.slnil)))))) (by assumption)⟩
   ·refine d_end rfl (wn rfl) rfl rfl (py_load tu45 rfl rfl (cell_atL (H4.box 0 rfl) rfl)) (d_end rfl (wn rfl) rfl rfl (py_load tu45 rfl rfl (cell_atL (H4.box 0 rfl) rfl)) (dV rfl rfl (fun zw hx => py_field tu68 rfl ts25 rfl rfl) (d_call rfl (wn rfl) rfl rfl (pc_call Tryz.func151 rfl Tryz_nm151 rfl) (Tryz_clone_b (H4.sees 1 rfl) (by omega)) (fun hS _ _ r _ => hS.trans r.1.no) (fun v6 w16 r6 => ?_))))
    obtain ⟨e16, r6⟩ := r6
    obtain ⟨fp6, H17⟩ := H4.res e16 r6
    obtain ⟨a6, k6, q7⟩ := own_slice (H17.mine 3 rfl)
    cases q7
    refine d_call rfl (wn rfl) rfl rfl (pc_call Tryz.func151 rfl Tryz_nm151 rfl) (Tryz_clone_b (H17.sees 2 rfl) (by omega)) (fun hS _ _ r _ => hS.trans r.1.no) (fun v7 w17 r7 => ?_)
    obtain ⟨e17, r7⟩ := r7
    obtain ⟨fp7, H18⟩ := H17.res e17 r7
    obtain ⟨a7, k7, q8⟩ := own_slice (H18.mine 4 rfl)
    cases q8
    refine d_sto rfl (wn rfl) ts25 rfl rfl rfl H18 0 rfl rfl (fun _ h e _ => h.trans (e.mono fun _ _ q => by simp [q])) (fun w18 e18 H19 => ?_)
    dsimp only [lNA, lCA, lSZ, lSS, layL] at H19
    refine dV rfl rfl (fun zw hx => py_field tu68 rfl ts45 rfl rfl) (d_sto rfl (wn rfl) ts45 rfl rfl rfl H19 0 rfl rfl (fun _ h e _ => h.trans (e.mono fun _ _ q => by simp [q])) (fun w19 e19 H20 => ?_))
    dsimp only [lNA, lCA, lSZ, lSS, layL] at H20
    refine dV rfl rfl (fun zw hx => py_field tu68 rfl ts45 rfl rfl) (d_sto rfl (wn rfl) ts45 rfl rfl rfl H20 0 rfl rfl (fun _ h e _ => h.trans (e.mono fun _ _ q => by simp [q])) (fun w20 e20 H21 => ?_))
    dsimp only [lNA, lCA, lSZ, lSS, layL] at H21
    refine d_nil (W_sr (sV rfl (py_loadS tu68 rfl ts68 rfl rfl (At.whole (H21.box 0 rfl))) (s_stoS (wn rfl) ts68 rfl rfl rfl rfl H21 1 rfl rfl (fun w21 e21 H22 => ?_))))
    dsimp only [lNA, lCA, lSZ, lSS, layL] at H22
    refine s_nil (W_ret (hQ _ _ (finC Tryz.results74 rfl (run_loadVarS tu68 rfl ts68 rfl (At.whole (H22.box 1 rfl))) ?_)))
    exact ⟨H22.ext, _, _, _, _, _, _, rfl, Rec.out (H22.sub (.cons _ (.cons _ (.cons_cons _ (.cons_cons _ (.cons_cons _ List.Sublist.slnil)))))) (by assumption)⟩
  refine d_fork (l1 := [(4, false), (1020, false), (2, false), (1009, false), (5, false), (7, false), (9, true), (8, false), (10, false), (11, true), (12, false), (13, true), (14, false), (7, false), (9, true), (5, false), (8, false), (10, false), (11, true), (12, false), (13, true), (14, false), (7, false), (2, false), (9, true), (5, false), (8, false), (10, false), (11, true), (12, false), (13, true), (14, false)]) (l2 := [(7, false), (1010, false), (2, false), (4, false), (9, true), (5, false), (8, false), (10, false), (11, true), (12, false), (13, true), (14, false), (4, false), (2, false), (9, true), (5, false), (8, false), (10, false), (11, true), (12, false), (13, true), (14, false)]) rfl rfl rfl rfl ?_ ?_
  ·refine d_end rfl (wn rfl) rfl rfl (py_load tu45 rfl rfl (cell_atL (H3.box 0 rfl) rfl)) (d_fork (l1 := [(2, false), (1009, false), (5, false), (7, false), (9, true), (8, false), (10, false), (11, true), (12, false), (13, true), (14, false), (7, false), (9, true), (5, false), (8, false), (10, false), (11, true), (12, false), (13, true), (14, false)]) (l2 := [(7, false), (2, false), (9, true), (5, false), (8, false), (10, false), (11, true), (12, false), (13, true), (14, false)]) rfl rfl rfl rfl ?_ ?_)
   ·refine d_call rfl (wn rfl) rfl rfl (pc_call Tryz.func150 rfl Tryz_nm150 rfl) (Tryz_clone_i (H3.sees 0 rfl) (by omega)) (fun hS _ _ r _ => hS.trans r.1.no) (fun v8 w22 r8 => ?_)
    obtain ⟨e22, r8⟩ := r8
    obtain ⟨fp8, H23⟩ := H3.res e22 r8
    obtain ⟨a8, k8, q9⟩ := own_slice (H23.mine 2 rfl)
    cases q9
    refine d_fork (l1 := [(5, false), (7, false), (9, true), (8, false), (10, false), (11, true), (12, false), (13, true), (14, false)]) (l2 := [(7, false), (9, true), (5, false), (8, false), (10, false), (11, true), (12, false), (13, true), (14, false)]) rfl rfl rfl rfl ?_ ?_
    ·refine d_call rfl (wn rfl) rfl rfl (pc_call Tryz.func151 rfl Tryz_nm151 rfl) (Tryz_clone_b (H23.sees 1 rfl) (by omega)) (fun hS _ _ r _ => hS.trans r.1.no) (fun v9 w23 r9 => ?_)
     obtain ⟨e23, r9⟩ := r9
     obtain ⟨fp9, H24⟩ := H23.res e23 r9
     obtain ⟨a9, k9, q10⟩ := own_slice (H24.mine 3 rfl)
     cases q10
     refine d_end rfl (wn rfl) rfl rfl (py_load tu45 rfl rfl (cell_atL (H24.box 0 rfl) rfl)) (dV rfl rfl (fun zw hx => py_field tu68 rfl ts25 rfl rfl) (d_call rfl (wn rfl) rfl rfl (pc_call Tryz.func151 rfl Tryz_nm151 rfl) (Tryz_clone_b (H24.sees 2 rfl) (by omega)) (fun hS _ _ r _ => hS.trans r.1.no) (fun v10 w24 r10 => ?_)))
     obtain ⟨e24, r10⟩ := r10
     obtain ⟨fp10, H25⟩ := H24.res e24 r10
     obtain ⟨a10, k10, q11⟩ := own_slice (H25.mine 4 rfl)
     cases q11
     refine d_sto rfl (wn rfl) ts25 rfl rfl rfl H25 0 rfl rfl (fun _ h e _ => h.trans (e.mono fun _ _ q => by simp [q])) (fun w25 e25 H26 => ?_)
     dsimp only [lNA, lCA, lSZ, lSS, layL] at H26
     refine dV rfl rfl (fun zw hx => py_field tu68 rfl ts45 rfl rfl) (d_sto rfl (wn rfl) ts45 rfl rfl rfl H26 0 rfl rfl (fun _ h e _ => h.trans (e.mono fun _ _ q => by simp [q])) (fun w26 e26 H27 => ?_))
     dsimp only [lNA, lCA, lSZ, lSS, layL] at H27
     refine dV rfl rfl (fun zw hx => py_field tu68 rfl ts45 rfl rfl) (d_sto rfl (wn rfl) ts45 rfl rfl rfl H27 0 rfl rfl (fun _ h e _ => h.trans (e.mono fun _ _ q => by simp [q])) (fun w27 e27 H28 => ?_))
     dsimp only [lNA, lCA, lSZ, lSS, layL] at H28
     refine d_nil (W_sr (sV rfl (py_loadS tu68 rfl ts68 rfl rfl (At.whole (H28.box 0 rfl))) (s_stoS (wn rfl) ts68 rfl rfl rfl rfl H28 1 rfl rfl (fun w28 e28 H29 => ?_))))
     dsimp only [lNA, lCA, lSZ, lSS, layL] at H29
     refine s_nil (W_ret (hQ _ _ (finC Tryz.results74 rfl (run_loadVarS tu68 rfl ts68 rfl (At.whole (H29.box 1 rfl))) ?_)))
     exact ⟨H29.ext, _, _, _, _, _, _, rfl, Rec.out (H29.sub (.cons _ (.cons _ (.cons_cons _ (.cons_cons _ (.cons_cons _ List.Sublist.slnil)))))) (by assumption)⟩
    ·refine d_end rfl (wn rfl) rfl rfl (py_load tu45 rfl rfl (cell_atL (H23.box 0 rfl) rfl)) (dV rfl rfl (fun zw hx => py_field tu68 rfl ts25 rfl rfl) (d_call rfl (wn rfl) rfl rfl (pc_call Tryz.func151 rfl Tryz_nm151 rfl) (Tryz_clone_b (H23.sees 1 rfl) (by omega)) (fun hS _ _ r _ => hS.trans r.1.no) (fun v11 w29 r11 => ?_)))
     obtain ⟨e29, r11⟩ := r11
     obtain ⟨fp11, H30⟩ := H23.res e29 r11
     obtain ⟨a11, k11, q12⟩ := own_slice (H30.mine 3 rfl)
     cases q12
     refine d_call rfl (wn rfl) rfl rfl (pc_call Tryz.func151 rfl Tryz_nm151 rfl) (Tryz_clone_b (H30.sees 2 rfl) (by omega)) (fun hS _ _ r _ => hS.trans r.1.no) (fun v12 w30 r12 => ?_)
     obtain ⟨e30, r12⟩ := r12
     obtain ⟨fp12, H31⟩ := H30.res e30 r12
     obtain ⟨a12, k12, q13⟩ := own_slice (H31.mine 4 rfl)
     cases q13
     refine d_sto rfl (wn rfl) ts25 rfl rfl rfl H31 0 rfl rfl (fun _ h e _ => h.trans (e.mono fun _ _ q => by simp [q])) (fun w31 e31 H32 => ?_)
     dsimp only [lNA, lCA, lSZ, lSS, layL] at H32
     refine dV rfl rfl (fun zw hx => py_field tu68 rfl ts45 rfl rfl) (d_sto rfl (wn rfl) ts45 rfl rfl rfl H32 0 rfl rfl (fun _ h e _ => h.trans (e.mono fun _ _ q => by simp [q])) (fun w32 e32 H33 => ?_))
     dsimp only [lNA, lCA, lSZ, lSS, layL] at H33
     refine dV rfl rfl (fun zw hx => py_field tu68 rfl ts45 rfl rfl) (d_sto rfl (wn rfl) ts45 rfl rfl rfl H33 0 rfl rfl (fun _ h e _ => h.trans (e.mono fun _ _ q => by simp [q])) (fun w33 e33 H34 => ?_))
     dsimp only [lNA, lCA, lSZ, lSS, layL] at H34
     refine d_nil (W_sr (sV rfl (py_loadS tu68 rfl ts68 rfl rfl (At.whole (H34.box 0 rfl))) (s_stoS (wn rfl) ts68 rfl rfl rfl rfl H34 1 rfl rfl (fun w34 e34 H35 => ?_))))
     dsimp only [lNA, lCA, lSZ, lSS, layL] at H35
     refine s_nil (W_ret (hQ _ _ (finC Tryz.results74 rfl (run_loadVarS tu68 rfl ts68 rfl (At.whole (H35.box 1 rfl))) ?_)))
     exact ⟨H35.ext, _, _, _, _, _, _, rfl, Rec.out (H35.sub (.cons _ (.cons _ (.cons_cons _ (.cons_cons _ (.cons_cons _ List.Sublist.slnil)))))) (by assumption)⟩
   ·refine d_end rfl (wn rfl) rfl rfl (py_load tu45 rfl rfl (cell_atL (H3.box 0 rfl) rfl)) (d_call rfl (wn rfl) rfl rfl (pc_call Tryz.func150 rfl Tryz_nm150 rfl) (Tryz_clone_i (H3.sees 0 rfl) (by omega)) (fun hS _ _ r _ => hS.trans r.1.no) (fun v13 w35 r13 => ?_))
    obtain ⟨e35, r13⟩ := r13
    obtain ⟨fp13, H36⟩ := H3.res e35 r13
    obtain ⟨a13, k13, q14⟩ := own_slice (H36.mine 2 rfl)
    cases q14
    refine dV rfl rfl (fun zw hx => py_field tu68 rfl ts25 rfl rfl) (d_call rfl (wn rfl) rfl rfl (pc_call Tryz.func151 rfl Tryz_nm151 rfl) (Tryz_clone_b (H36.sees 1 rfl) (by omega)) (fun hS _ _ r _ => hS.trans r.1.no) (fun v14 w36 r14 => ?_))
    obtain ⟨e36, r14⟩ := r14
    obtain ⟨fp14, H37⟩ := H36.res e36 r14
    obtain ⟨a14, k14, q15⟩ := own_slice (H37.mine 3 rfl)
    cases q15
    refine d_call rfl (wn rfl) rfl rfl (pc_call Tryz.func151 rfl Tryz_nm151 rfl) (Tryz_clone_b (H37.sees 2 rfl) (by omega)) (fun hS _ _ r _ => hS.trans r.1.no) (fun v15 w37 r15 => ?_)
    obtain ⟨e37, r15⟩ := r15
    obtain ⟨fp15, H38⟩ := H37.res e37 r15
    obtain ⟨a15, k15, q16⟩ := own_slice (H38.mine 4 rfl)
    cases q16
    refine d_sto rfl (wn rfl) ts25 rfl rfl rfl H38 0 rfl rfl (fun _ h e _ => h.trans (e.mono fun _ _ q => by simp [q])) (fun w38 e38 H39 => ?_)
    dsimp only [lNA, lCA, lSZ, lSS, layL] at H39
    refine dV rfl rfl (fun zw hx => py_field tu68 rfl ts45 rfl rfl) (d_sto rfl (wn rfl) ts45 rfl rfl rfl H39 0 rfl rfl (fun _ h e _ => h.trans (e.mono fun _ _ q => by simp [q])) (fun w39 e39 H40 => ?_))
    dsimp only [lNA, lCA, lSZ, lSS, layL] at H40
    refine dV rfl rfl (fun zw hx => py_field tu68 rfl ts45 rfl rfl) (d_sto rfl (wn rfl) ts45 rfl rfl rfl H40 0 rfl rfl (fun _ h e _ => h.trans (e.mono fun _ _ q => by simp [q])) (fun w40 e40 H41 => ?_))
    dsimp only [lNA, lCA, lSZ, lSS, layL] at H41
    refine d_nil (W_sr (sV rfl (py_loadS tu68 rfl ts68 rfl rfl (At.whole (H41.box 0 rfl))) (s_stoS (wn rfl) ts68 rfl rfl rfl rfl H41 1 rfl rfl (fun w41 e41 H42 => ?_))))
    dsimp only [lNA, lCA, lSZ, lSS, layL] at H42
    refine s_nil (W_ret (hQ _ _ (finC Tryz.results74 rfl (run_loadVarS tu68 rfl ts68 rfl (At.whole (H42.box 1 rfl))) ?_)))
    exact ⟨H42.ext, _, _, _, _, _, _, rfl, Rec.out (H42.sub (.cons _ (.cons _ (.cons_cons _ (.cons_cons _ (.cons_cons _ List.Sublist.slnil)))))) (by assumption)⟩
  ·refine d_end rfl (wn rfl) rfl rfl (py_load tu45 rfl rfl (cell_atL (H3.box 0 rfl) rfl)) (d_fork (l1 := [(2, false), (4, false), (9, true), (5, false), (8, false), (10, false), (11, true), (12, false), (13, true), (14, false)]) (l2 := [(4, false), (2, false), (9, true), (5, false), (8, false), (10, false), (11, true), (12, false), (13, true), (14, false)]) rfl rfl rfl rfl ?_ ?_)
   ·refine d_call rfl (wn rfl) rfl rfl (pc_call Tryz.func150 rfl Tryz_nm150 rfl) (Tryz_clone_i (H3.sees 0 rfl) (by omega)) (fun hS _ _ r _ => hS.trans r.1.no) (fun v16 w42 r16 => ?_)
    obtain ⟨e42, r16⟩ := r16
    obtain ⟨fp16, H43⟩ := H3.res e42 r16
    obtain ⟨a16, k16, q17⟩ := own_slice (H43.mine 2 rfl)
    cases q17
    refine d_end rfl (wn rfl) rfl rfl (py_load tu45 rfl rfl (cell_atL (H43.box 0 rfl) rfl)) (dV rfl rfl (fun zw hx => py_field tu68 rfl ts25 rfl rfl) (d_call rfl (wn rfl) rfl rfl (pc_call Tryz.func151 rfl Tryz_nm151 rfl) (Tryz_clone_b (H43.sees 1 rfl) (by omega)) (fun hS _ _ r _ => hS.trans r.1.no) (fun v17 w43 r17 => ?_)))
    obtain ⟨e43, r17⟩ := r17
    obtain ⟨fp17, H44⟩ := H43.res e43 r17
    obtain ⟨a17, k17, q18⟩ := own_slice (H44.mine 3 rfl)
    cases q18
    refine d_call rfl (wn rfl) rfl rfl (pc_call Tryz.func151 rfl Tryz_nm151 rfl) (Tryz_clone_b (H44.sees 2 rfl) (by omega)) (fun hS _ _ r _ => hS.trans r.1.no) (fun v18 w44 r18 => ?_)
    obtain ⟨e44, r18⟩ := r18
    obtain ⟨fp18, H45⟩ := H44.res e44 r18
    obtain ⟨a18, k18, q19⟩ := own_slice (H45.mine 4 rfl)
    cases q19
    refine d_sto rfl (wn rfl) ts25 rfl rfl rfl H45 0 rfl rfl (fun _ h e _ => h.trans (e.mono fun _ _ q => by simp [q])) (fun w45 e45 H46 => ?_)
    dsimp only [lNA, lCA, lSZ, lSS, layL] at H46
    refine dV rfl rfl (fun zw hx => py_field tu68 rfl ts45 rfl rfl) (d_sto rfl (wn rfl) ts45 rfl rfl rfl H46 0 rfl rfl (fun _ h e _ => h.trans (e.mono fun _ _ q => by simp [q])) (fun w46 e46 H47 => ?_))
    dsimp only [lNA, lCA, lSZ, lSS, layL] at H47
    refine dV rfl rfl (fun zw hx => py_field tu68 rfl ts45 rfl rfl) (d_sto rfl (wn rfl) ts45 rfl rfl rfl H47 0 rfl rfl (fun _ h e _ => h.trans (e.mono fun _ _ q => by simp [q])) (fun w47 e47 H48 => ?_))
    dsimp only [lNA, lCA, lSZ, lSS, layL] at H48
    refine d_nil (W_sr (sV rfl (py_loadS tu68 rfl ts68 rfl rfl (At.whole (H48.box 0 rfl))) (s_stoS (wn rfl) ts68 rfl rfl rfl rfl H48 1 rfl rfl (fun w48 e48 H49 => ?_))))
    dsimp only [lNA, lCA, lSZ, lSS, layL] at H49
    refine s_nil (W_ret (hQ _ _ (finC Tryz.results74 rfl (run_loadVarS tu68 rfl ts68 rfl (At.whole (H49.box 1 rfl))) ?_)))
    exact ⟨H49.ext, _, _, _, _, _, _, rfl, Rec.out (H49.sub (.cons _ (.cons _ (.cons_cons _ (.cons_cons _ (.cons_cons _ List.Sublist.slnil)))))) (by assumption)⟩
   ·refine d_end rfl (wn rfl) rfl rfl (py_load tu45 rfl rfl (cell_atL (H3.box 0 rfl) rfl)) (d_call rfl (wn rfl) rfl rfl (pc_call Tryz.func150 rfl Tryz_nm150 rfl) (Tryz_clone_i (H3.sees 0 rfl) (by omega)) (fun hS _ _ r _ => hS.trans r.1.no) (fun v19 w49 r19 => ?_))
    obtain ⟨e49, r19⟩ := r19
    obtain ⟨fp19, H50⟩ := H3.res e49 r19
    obtain ⟨a19, k19, q20⟩ := own_slice (H50.mine 2 rfl)
    cases q20
    refine dV rfl rfl (fun zw hx => py_field tu68 rfl ts25 rfl rfl) (d_call rfl (wn rfl) rfl rfl (pc_call Tryz.func151 rfl Tryz_nm151 rfl) (Tryz_clone_b (H50.sees 1 rfl) (by omega)) (fun hS _ _ r _ => hS.trans r.1.no) (fun v20 w50 r20 => ?_))
    obtain ⟨e50, r20⟩ := r20
    obtain ⟨fp20, H51⟩ := H50.res e50 r20
    obtain ⟨a20, k20, q21⟩ := own_slice (H51.mine 3 rfl)
    cases q21
    refine d_call rfl (wn rfl) rfl rfl (pc_call Tryz.func151 rfl Tryz_nm151 rfl) (Tryz_clone_b (H51.sees 2 rfl) (by omega)) (fun hS _ _ r _ => hS.trans r.1.no) (fun v21 w51 r21 => ?_)
    obtain ⟨e51, r21⟩ := r21
    obtain ⟨fp21, H52⟩ := H51.res e51 r21
    obtain ⟨a21, k21, q22⟩ := own_slice (H52.mine 4 rfl)
    cases q22
    refine d_sto rfl (wn rfl) ts25 rfl rfl rfl H52 0 rfl rfl (fun _ h e _ => h.trans (e.mono fun _ _ q => by simp [q])) (fun w52 e52 H53 => ?_)
    dsimp only [lNA, lCA, lSZ, lSS, layL] at H53
    refine dV rfl rfl (fun zw hx => py_field tu68 rfl ts45 rfl rfl) (d_sto rfl (wn rfl) ts45 rfl rfl rfl H53 0 rfl rfl (fun _ h e _ => h.trans (e.mono fun _ _ q => by simp [q])) (fun w53 e53 H54 => ?_))
    dsimp only [lNA, lCA, lSZ, lSS, layL] at H54
    refine dV rfl rfl (fun zw hx => py_field tu68 rfl ts45 rfl rfl) (d_sto rfl (wn rfl) ts45 rfl rfl rfl H54 0 rfl rfl (fun _ h e _ => h.trans (e.mono fun _ _ q => by simp [q])) (fun w54 e54 H55 => ?_))
    dsimp only [lNA, lCA, lSZ, lSS, layL] at H55
    refine d_nil (W_sr (sV rfl (py_loadS tu68 rfl ts68 rfl rfl (At.whole (H55.box 0 rfl))) (s_stoS (wn rfl) ts68 rfl rfl rfl rfl H55 1 rfl rfl (fun w55 e55 H56 => ?_))))
    dsimp only [lNA, lCA, lSZ, lSS, layL] at H56
    refine s_nil (W_ret (hQ _ _ (finC Tryz.results74 rfl (run_loadVarS tu68 rfl ts68 rfl (At.whole (H56.box 1 rfl))) ?_)))
    exact ⟨H56.ext, _, _, _, _, _, _, rfl, Rec.out (H56.sub (.cons _ (.cons _ (.cons_cons _ (.cons_cons _ (.cons_cons _ List.Sublist.slnil)))))) (by assumption)⟩
 refine d_fork (l1 := [(4, false), (1032, false), (1, false), (1020, false), (2, false), (1009, false), (5, false), (7, false), (9, true), (8, false), (10, false), (11, true), (12, false), (13, true), (14, false), (7, false), (9, true), (5, false), (8, false), (10, false), (11, true), (12, false), (13, true), (14, false), (7, false), (2, false), (9, true), (5, false), (8, false), (10, false), (11, true), (12, false), (13, true), (14, false), (7, false), (1, false), (2, false), (9, true), (5, false), (8, false), (10, false), (11, true), (12, false), (13, true), (14, false)]) (l2 := [(7, false), (1022, false), (1, false), (1010, false), (2, false), (4, false), (9, true), (5, false), (8, false), (10, false), (11, true), (12, false), (13, true), (14, false), (4, false), (2, false), (9, true), (5, false), (8, false), (10, false), (11, true), (12, false), (13, true), (14, false), (4, false), (1, false), (2, false), (9, true), (5, false), (8, false), (10, false), (11, true), (12, false), (13, true), (14, false)]) rfl rfl rfl rfl ?_ ?_
 ·refine d_end rfl (wn rfl) rfl rfl (py_load tu45 rfl rfl (cell_atL (H3.box 0 rfl) rfl)) (d_fork (l1 := [(1, false), (1020, false), (2, false), (1009, false), (5, false), (7, false), (9, true), (8, false), (10, false), (11, true), (12, false), (13, true), (14, false), (7, false), (9, true), (5, false), (8, false), (10, false), (11, true), (12, false), (13, true), (14, false), (7, false), (2, false), (9, true), (5, false), (8, false), (10, false), (11, true), (12, false), (13, true), (14, false)]) (l2 := [(7, false), (1, false), (2, false), (9, true), (5, false), (8, false), (10, false), (11, true), (12, false), (13, true), (14, false)]) rfl rfl rfl rfl ?_ ?_)
  ·refine d_end rfl (wn rfl) rfl rfl (py_load tu25 rfl rfl (cell_atL (H3.box 0 rfl) rfl)) (d_fork (l1 := [(2, false), (1009, false), (5, false), (7, false), (9, true), (8, false), (10, false), (11, true), (12, false), (13, true), (14, false), (7, false), (9, true), (5, false), (8, false), (10, false), (11, true), (12, false), (13, true), (14, false)]) (l2 := [(7, false), (2, false), (9, true), (5, false), (8, false), (10, false), (11, true), (12, false), (13, true), (14, false)]) rfl rfl rfl rfl ?_ ?_)
   ·refine d_call rfl (wn rfl) rfl rfl (pc_call Tryz.func150 rfl Tryz_nm150 rfl) (Tryz_clone_i (H3.sees 0 rfl) (by omega)) (fun hS _ _ r _ => hS.trans r.1.no) (fun v22 w56 r22 => ?_)
    obtain ⟨e56, r22⟩ := r22
    obtain ⟨fp22, H57⟩ := H3.res e56 r22
    obtain ⟨a22, k22, q23⟩ := own_slice (H57.mine 2 rfl)
    cases q23
    refine d_fork (l1 := [(5, false), (7, false), (9, true), (8, false), (10, false), (11, true), (12, false), (13, true), (14, false)]) (l2 := [(7, false), (9, true), (5, false), (8, false), (10, false), (11, true), (12, false), (13, true), (14, false)]) rfl rfl rfl rfl ?_ ?_
    ·refine d_call rfl (wn rfl) rfl rfl (pc_call Tryz.func151 rfl Tryz_nm151 rfl) (Tryz_clone_b (H57.sees 1 rfl) (by omega)) (fun hS _ _ r _ => hS.trans r.1.no) (fun v23 w57 r23 => ?_)
     obtain ⟨e57, r23⟩ := r23
     obtain ⟨fp23, H58⟩ := H57.res e57 r23
     obtain ⟨a23, k23, q24⟩ := own_slice (H58.mine 3 rfl)
     cases q24
     refine d_end rfl (wn rfl) rfl rfl (py_load tu45 rfl rfl (cell_atL (H58.box 0 rfl) rfl)) (dV rfl rfl (fun zw hx => py_field tu68 rfl ts25 rfl rfl) (d_call rfl (wn rfl) rfl rfl (pc_call Tryz.func151 rfl Tryz_nm151 rfl) (Tryz_clone_b (H58.sees 2 rfl) (by omega)) (fun hS _ _ r _ => hS.trans r.1.no) (fun v24 w58 r24 => ?_)))
     obtain ⟨e58, r24⟩ := r24
     obtain ⟨fp24, H59⟩ := H58.res e58 r24
     obtain ⟨a24, k24, q25⟩ := own_slice (H59.mine 4 rfl)
     cases q25
     refine d_sto rfl (wn rfl) ts25 rfl rfl rfl H59 0 rfl rfl (fun _ h e _ => h.trans (e.mono fun _ _ q => by simp [q])) (fun w59 e59 H60 => ?_)
     dsimp only [lNA, lCA, lSZ, lSS, layL] at H60
     refine dV rfl rfl (fun zw hx => py_field tu68 rfl ts45 rfl rfl) (d_sto rfl (wn rfl) ts45 rfl rfl rfl H60 0 rfl rfl (fun _ h e _ => h.trans (e.mono fun _ _ q => by simp [q])) (fun w60 e60 H61 => ?_))
     dsimp only [lNA, lCA, lSZ, lSS, layL] at H61
     refine dV rfl rfl (fun zw hx => py_field tu68 rfl ts45 rfl rfl) (d_sto rfl (wn rfl) ts45 rfl rfl rfl H61 0 rfl rfl (fun _ h e _ => h.trans (e.mono fun _ _ q => by simp [q])) (fun w61 e61 H62 => ?_))
     dsimp only [lNA, lCA, lSZ, lSS, layL] at H62
     refine d_nil (W_sr (sV rfl (py_loadS tu68 rfl ts68 rfl rfl (At.whole (H62.box 0 rfl))) (s_stoS (wn rfl) ts68 rfl rfl rfl rfl H62 1 rfl rfl (fun w62 e62 H63 => ?_))))
     dsimp only [lNA, lCA, lSZ, lSS, layL] at H63
     refine s_nil (W_ret (hQ _ _ (finC Tryz.results74 rfl (run_loadVarS tu68 rfl ts68 rfl (At.whole (H63.box 1 rfl))) ?_)))
     exact ⟨H63.ext, _, _, _, _, _, _, rfl, Rec.out (H63.sub (.cons _ (.cons _ (.cons_cons _ (.cons_cons _ (.cons_cons _ List.Sublist.slnil)))))) (by assumption)⟩
    ·refine d_end rfl (wn rfl) rfl rfl (py_load tu45 rfl rfl (cell_atL (H57.box 0 rfl) rfl)) (dV rfl rfl (fun zw hx => py_field tu68 rfl ts25 rfl rfl) (d_call rfl (wn rfl) rfl rfl (pc_call Tryz.func151 rfl Tryz_nm151 rfl) (Tryz_clone_b (H57.sees 1 rfl) (by omega)) (fun hS _ _ r _ => hS.trans r.1.no) (fun v25 w63 r25 => ?_)))
     obtain ⟨e63, r25⟩ := r25
     obtain ⟨fp25, H64⟩ := H57.res e63 r25
     obtain ⟨a25, k25, q26⟩ := own_slice (H64.mine 3 rfl)
     cases q26
     refine d_call rfl (wn rfl) rfl rfl (pc_call Tryz.func151 rfl Tryz_nm151 rfl) (Tryz_clone_b (H64.sees 2 rfl) (by omega)) (fun hS _ _ r _ => hS.trans r.1.no) (fun v26 w64 r26 => ?_)
     obtain ⟨e64, r26⟩ := r26
     obtain ⟨fp26, H65⟩ := H64.res e64 r26
     obtain ⟨a26, k26, q27⟩ := own_slice (H65.mine 4 rfl)
     cases q27
     refine d_sto rfl (wn rfl) ts25 rfl rfl rfl H65 0 rfl rfl (fun _ h e _ => h.trans (e.mono fun _ _ q => by simp [q])) (fun w65 e65 H66 => ?_)
     dsimp only [lNA, lCA, lSZ, lSS, layL] at H66
     refine dV rfl rfl (fun zw hx => py_field tu68 rfl ts45 rfl rfl) (d_sto rfl (wn rfl) ts45 rfl rfl rfl H66 0 rfl rfl (fun _ h e _ => h.trans (e.mono fun _ _ q => by simp [q])) (fun w66 e66 H67 => ?_))
     dsimp only [lNA, lCA, lSZ, lSS, layL] at H67
     refine dV rfl rfl (fun zw hx => py_field tu68 rfl ts45 rfl rfl) (d_sto rfl (wn rfl) ts45 rfl rfl rfl H67 0 rfl rfl (fun _ h e _ => h.trans (e.mono fun _ _ q => by simp [q])) (fun w67 e67 H68 => ?_))
     dsimp only [lNA, lCA, lSZ, lSS, layL] at H68
     refine d_nil (W_sr (sV rfl (py_loadS tu68 rfl ts68 rfl rfl (At.whole (H68.box 0 rfl))) (s_stoS (wn rfl) ts68 rfl rfl rfl rfl H68 1 rfl rfl (fun w68 e68 H69 => ?_))))
     dsimp only [lNA, lCA, lSZ, lSS, layL] at H69
     refine s_nil (W_ret (hQ _ _ (finC Tryz.results74 rfl (run_loadVarS tu68 rfl ts68 rfl (At.whole (H69.box 1 rfl))) ?_)))
     exact ⟨H69.ext, _, _, _, _, _, _, rfl, Rec.out (H69.sub (.cons _ (.cons _ (.cons_cons _ (.cons_cons _ (.cons_cons _ List.Sublist.slnil)))))) (by assumption)⟩
   ·refine d_end rfl (wn rfl) rfl rfl (py_load tu45 rfl rfl (cell_atL (H3.box 0 rfl) rfl)) (d_call rfl (wn rfl) rfl rfl (pc_call Tryz.func150 rfl Tryz_nm150 rfl) (Tryz_clone_i (H3.sees 0 rfl) (by omega)) (fun hS _ _ r _ => hS.trans r.1.no) (fun v27 w69 r27 => ?_))
    obtain ⟨e69, r27⟩ := r27
    obtain ⟨fp27, H70⟩ := H3.res e69 r27
    obtain ⟨a27, k27, q28⟩ := own_slice (H70.mine 2 rfl)
    cases q28
    refine dV rfl rfl (fun zw hx => py_field tu68 rfl ts25 rfl rfl) (d_call rfl (wn rfl) rfl rfl (pc_call Tryz.func151 rfl Tryz_nm151 rfl) (Tryz_clone_b (H70.sees 1 rfl) (by omega)) (fun hS _ _ r _ => hS.trans r.1.no) (fun v28 w70 r28 => ?_))
    obtain ⟨e70, r28⟩ := r28
    obtain ⟨fp28, H71⟩ := H70.res e70 r28
    obtain ⟨a28, k28, q29⟩ := own_slice (H71.mine 3 rfl)
    cases q29
    refine d_call rfl (wn rfl) rfl rfl (pc_call Tryz.func151 rfl Tryz_nm151 rfl) (Tryz_clone_b (H71.sees 2 rfl) (by omega)) (fun hS _ _ r _ => hS.trans r.1.no) (fun v29 w71 r29 => ?_)
    obtain ⟨e71, r29⟩ := r29
    obtain ⟨fp29, H72⟩ := H71.res e71 r29
    obtain ⟨a29, k29, q30⟩ := own_slice (H72.mine 4 rfl)
    cases q30
    refine d_sto rfl (wn rfl) ts25 rfl rfl rfl H72 0 rfl rfl (fun _ h e _ => h.trans (e.mono fun _ _ q => by simp [q])) (fun w72 e72 H73 => ?_)
    dsimp only [lNA, lCA, lSZ, lSS, layL] at H73
    refine dV rfl rfl (fun zw hx => py_field tu68 rfl ts45 rfl rfl) (d_sto rfl (wn rfl) ts45 rfl rfl rfl H73 0 rfl rfl (fun _ h e _ => h.trans (e.mono fun _ _ q => by simp [q])) (fun w73 e73 H74 => ?_))
    dsimp only [lNA, lCA, lSZ, lSS, layL] at H74
    refine dV rfl rfl (fun zw hx => py_field tu68 rfl ts45 rfl rfl) (d_sto rfl (wn rfl) ts45 rfl rfl rfl H74 0 rfl rfl (fun _ h e _ => h.trans (e.mono fun _ _ q => by simp [q])) (fun w74 e74 H75 => ?_))
    dsimp only [lNA, lCA, lSZ, lSS, layL] at H75
    refine d_nil (W_sr (sV rfl (py_loadS tu68 rfl ts68 rfl rfl (At.whole (H75.box 0 rfl))) (s_stoS (wn rfl) ts68 rfl rfl rfl rfl H75 1 rfl rfl (fun w75 e75 H76 => ?_))))
    dsimp only [lNA, lCA, lSZ, lSS, layL] at H76
    refine s_nil (W_ret (hQ _ _ (finC Tryz.results74 rfl (run_loadVarS tu68 rfl ts68 rfl (At.whole (H76.box 1 rfl))) ?_)))
    exact ⟨H76.ext, _, _, _, _, _, _, rfl, Rec.out (H76.sub (.cons _ (.cons _ (.cons_cons _ (.cons_cons _ (.cons_cons _ List.Sublist.slnil)))))) (by assumption)⟩
  ·refine d_end rfl (wn rfl) rfl rfl (py_load tu45 rfl rfl (cell_atL (H3.box 0 rfl) rfl)) (d_end rfl (wn rfl) rfl rfl (py_load tu25 rfl rfl (cell_atL (H3.box 0 rfl) rfl)) (d_call rfl (wn rfl) rfl rfl (pc_call Tryz.func150 rfl Tryz_nm150 rfl) (Tryz_clone_i (H3.sees 0 rfl) (by omega)) (fun hS _ _ r _ => hS.trans r.1.no) (fun v30 w76 r30 => ?_)))
   obtain ⟨e76, r30⟩ := r30
   obtain ⟨fp30, H77⟩ := H3.res e76 r30
   obtain ⟨a30, k30, q31⟩ := own_slice (H77.mine 2 rfl)
   cases q31
   refine dV rfl rfl (fun zw hx => py_field tu68 rfl ts25 rfl rfl) (d_call rfl (wn rfl) rfl rfl (pc_call Tryz.func151 rfl Tryz_nm151 rfl) (Tryz_clone_b (H77.sees 1 rfl) (by omega)) (fun hS _ _ r _ => hS.trans r.1.no) (fun v31 w77 r31 => ?_))
   obtain ⟨e77, r31⟩ := r31
   obtain ⟨fp31, H78⟩ := H77.res e77 r31
   obtain ⟨a31, k31, q32⟩ := own_slice (H78.mine 3 rfl)
   cases q32
   refine d_call rfl (wn rfl) rfl rfl (pc_call Tryz.func151 rfl Tryz_nm151 rfl) (Tryz_clone_b (H78.sees 2 rfl) (by omega)) (fun hS _ _ r _ => hS.trans r.1.no) (fun v32 w78 r32 => ?_)
   obtain ⟨e78, r32⟩ := r32
   obtain ⟨fp32, H79⟩ := H78.res e78 r32
   obtain ⟨a32, k32, q33⟩ := own_slice (H79.mine 4 rfl)
   cases q33
   refine d_sto rfl (wn rfl) ts25 rfl rfl rfl H79 0 rfl rfl (fun _ h e _ => h.trans (e.mono fun _ _ q => by simp [q])) (fun w79 e79 H80 => ?_)
   dsimp only [lNA, lCA, lSZ, lSS, layL] at H80
   refine dV rfl rfl (fun zw hx => py_field tu68 rfl ts45 rfl rfl) (d_sto rfl (wn rfl) ts45 rfl rfl rfl H80 0 rfl rfl (fun _ h e _ => h.trans (e.mono fun _ _ q => by simp [q])) (fun w80 e80 H81 => ?_))
   dsimp only [lNA, lCA, lSZ, lSS, layL] at H81
   refine dV rfl rfl (fun zw hx => py_field tu68 rfl ts45 rfl rfl) (d_sto rfl (wn rfl) ts45 rfl rfl rfl H81 0 rfl rfl (fun _ h e _ => h.trans (e.mono fun _ _ q => by simp [q])) (fun w81 e81 H82 => ?_))
   dsimp only [lNA, lCA, lSZ, lSS, layL] at H82
   refine d_nil (W_sr (sV rfl (py_loadS tu68 rfl ts68 rfl rfl (At.whole (H82.box 0 rfl))) (s_stoS (wn rfl) ts68 rfl rfl rfl rfl H82 1 rfl rfl (fun w82 e82 H83 => ?_))))
   dsimp only [lNA, lCA, lSZ, lSS, layL] at H83
   refine s_nil (W_ret (hQ _ _ (finC Tryz.results74 rfl (run_loadVarS tu68 rfl ts68 rfl (At.whole (H83.box 1 rfl))) ?_)))
   exact ⟨H83.ext, _, _, _, _, _, _, rfl, Rec.out (H83.sub (.cons _ (.cons _ (.cons_cons _ (.cons_cons _ (.cons_cons _ List.Sublist.slnil)))))) (by assumption)⟩
 ·refine d_end rfl (wn rfl) rfl rfl (py_load tu45 rfl rfl (cell_atL (H3.box 0 rfl) rfl)) (d_fork (l1 := [(1, false), (1010, false), (2, false), (4, false), (9, true), (5, false), (8, false), (10, false), (11, true), (12, false), (13, true), (14, false), (4, false), (2, false), (9, true), (5, false), (8, false), (10, false), (11, true), (12, false), (13, true), (14, false)]) (l2 := [(4, false), (1, false), (2, false), (9, true), (5, false), (8, false), (10, false), (11, true), (12, false), (13, true), (14, false)]) rfl rfl rfl rfl ?_ ?_)
  ·refine d_end rfl (wn rfl) rfl rfl (py_load tu25 rfl rfl (cell_atL (H3.box 0 rfl) rfl)) (d_fork (l1 := [(2, false), (4, false), (9, true), (5, false), (8, false), (10, false), (11, true), (12, false), (13, true), (14, false)]) (l2 := [(4, false), (2, false), (9, true), (5, false), (8, false), (10, false), (11, true), (12, false), (13, true), (14, false)]) rfl rfl rfl rfl ?_ ?_)
   ·refine d_call rfl (wn rfl) rfl rfl (pc_call Tryz.func150 rfl Tryz_nm150 rfl) (Tryz_clone_i (H3.sees 0 rfl) (by omega)) (fun hS _ _ r _ => hS.trans r.1.no) (fun v33 w83 r33 => ?_)
    obtain ⟨e83, r33⟩ := r33
    obtain ⟨fp33, H84⟩ := H3.res e83 r33
    obtain ⟨a33, k33, q34⟩ := own_slice (H84.mine 2 rfl)
    cases q34
    refine d_end rfl (wn rfl) rfl rfl (py_load tu45 rfl rfl (cell_atL (H84.box 0 rfl) rfl)) (dV rfl rfl (fun zw hx => py_field tu68 rfl ts25 rfl rfl) (d_call rfl (wn rfl) rfl rfl (pc_call Tryz.func151 rfl Tryz_nm151 rfl) (Tryz_clone_b (H84.sees 1 rfl) (by omega)) (fun hS _ _ r _ => hS.trans r.1.no) (fun v34 w84 r34 => ?_)))
    obtain ⟨e84, r34⟩ := r34
    obtain ⟨fp34, H85⟩ := H84.res e84 r34
    obtain ⟨a34, k34, q35⟩ := own_slice (H85.mine 3 rfl)
    cases q35
    refine d_call rfl (wn rfl) rfl rfl (pc_call Tryz.func151 rfl Tryz_nm151 rfl) (Tryz_clone_b (H85.sees 2 rfl) (by omega)) (fun hS _ _ r _ => hS.trans r.1.no) (fun v35 w85 r35 => ?_)
    obtain ⟨e85, r35⟩ := r35
    obtain ⟨fp35, H86⟩ := H85.res e85 r35
    obtain ⟨a35, k35, q36⟩ := own_slice (H86.mine 4 rfl)
    cases q36
    refine d_sto rfl (wn rfl) ts25 rfl rfl rfl H86 0 rfl rfl (fun _ h e _ => h.trans (e.mono fun _ _ q => by simp [q])) (fun w86 e86 H87 => ?_)
    dsimp only [lNA, lCA, lSZ, lSS, layL] at H87
    refine dV rfl rfl (fun zw hx => py_field tu68 rfl ts45 rfl rfl) (d_sto rfl (wn rfl) ts45 rfl rfl rfl H87 0 rfl rfl (fun _ h e _ => h.trans (e.mono fun _ _ q => by simp [q])) (fun w87 e87 H88 => ?_))
    dsimp only [lNA, lCA, lSZ, lSS, layL] at H88
    refine dV rfl rfl (fun zw hx => py_field tu68 rfl ts45 rfl rfl) (d_sto rfl (wn rfl) ts45 rfl rfl rfl H88 0 rfl rfl (fun _ h e _ => h.trans (e.mono fun _ _ q => by simp [q])) (fun w88 e88 H89 => ?_))
    dsimp only [lNA, lCA, lSZ, lSS, layL] at H89
    refine d_nil (W_sr (sV rfl (py_loadS tu68 rfl ts68 rfl rfl (At.whole (H89.box 0 rfl))) (s_stoS (wn rfl) ts68 rfl rfl rfl rfl H89 1 rfl rfl (fun w89 e89 H90 => ?_))))
    dsimp only [lNA, lCA, lSZ, lSS, layL] at H90
    refine s_nil (W_ret (hQ _ _ (finC Tryz.results74 rfl (run_loadVarS tu68 rfl ts68 rfl (At.whole (H90.box 1 rfl))) ?_)))
    exact ⟨H90.ext, _, _, _, _, _, _, rfl, Rec.out (H90.sub (.cons _ (.cons _ (.cons_cons _ (.cons_cons _ (.cons_cons _ List.Sublist.slnil)))))) (by assumption)⟩
   ·refine d_end rfl (wn rfl) rfl rfl (py_load tu45 rfl rfl (cell_atL (H3.box 0 rfl) rfl)) (d_call rfl (wn rfl) rfl rfl (pc_call Tryz.func150 rfl Tryz_nm150 rfl) (Tryz_clone_i (H3.sees 0 rfl) (by omega)) (fun hS _ _ r _ => hS.trans r.1.no) (fun v36 w90 r36 => ?_))
    obtain ⟨e90, r36⟩ := r36
    obtain ⟨fp36, H91⟩ := H3.res e90 r36
    obtain ⟨a36, k36, q37⟩ := own_slice (H91.mine 2 rfl)
    cases q37
    refine dV rfl rfl (fun zw hx => py_field tu68 rfl ts25 rfl rfl) (d_call rfl (wn rfl) rfl rfl (pc_call Tryz.func151 rfl Tryz_nm151 rfl) (Tryz_clone_b (H91.sees 1 rfl) (by omega)) (fun hS _ _ r _ => hS.trans r.1.no) (fun v37 w91 r37 => ?_))
    obtain ⟨e91, r37⟩ := r37
    obtain ⟨fp37, H92⟩ := H91.res e91 r37
    obtain ⟨a37, k37, q38⟩ := own_slice (H92.mine 3 rfl)
    cases q38
    refine d_call rfl (wn rfl) rfl rfl (pc_call Tryz.func151 rfl Tryz_nm151 rfl) (Tryz_clone_b (H92.sees 2 rfl) (by omega)) (fun hS _ _ r _ => hS.trans r.1.no) (fun v38 w92 r38 => ?_)
    obtain ⟨e92, r38⟩ := r38
    obtain ⟨fp38, H93⟩ := H92.res e92 r38
    obtain ⟨a38, k38, q39⟩ := own_slice (H93.mine 4 rfl)
    cases q39
    refine d_sto rfl (wn rfl) ts25 rfl rfl rfl H93 0 rfl rfl (fun _ h e _ => h.trans (e.mono fun _ _ q => by simp [q])) (fun w93 e93 H94 => ?_)
    dsimp only [lNA, lCA, lSZ, lSS, layL] at H94
    refine dV rfl rfl (fun zw hx => py_field tu68 rfl ts45 rfl rfl) (d_sto rfl (wn rfl) ts45 rfl rfl rfl H94 0 rfl rfl (fun _ h e _ => h.trans (e.mono fun _ _ q => by simp [q])) (fun w94 e94 H95 => ?_))
    dsimp only [lNA, lCA, lSZ, lSS, layL] at H95
    refine dV rfl rfl (fun zw hx => py_field tu68 rfl ts45 rfl rfl) (d_sto rfl (wn rfl) ts45 rfl rfl rfl H95 0 rfl rfl (fun _ h e _ => h.trans (e.mono fun _ _ q => by simp [q])) (fun w95 e95 H96 => ?_))
    dsimp only [lNA, lCA, lSZ, lSS, layL] at H96
    refine d_nil (W_sr (sV rfl (py_loadS tu68 rfl ts68 rfl rfl (At.whole (H96.box 0 rfl))) (s_stoS (wn rfl) ts68 rfl rfl rfl rfl H96 1 rfl rfl (fun w96 e96 H97 => ?_))))
    dsimp only [lNA, lCA, lSZ, lSS, layL] at H97
    refine s_nil (W_ret (hQ _ _ (finC Tryz.results74 rfl (run_loadVarS tu68 rfl ts68 rfl (At.whole (H97.box 1 rfl))) ?_)))
    exact ⟨H97.ext, _, _, _, _, _, _, rfl, Rec.out (H97.sub (.cons _ (.cons _ (.cons_cons _ (.cons_cons _ (.cons_cons _ List.Sublist.slnil)))))) (by assumption)⟩
  ·refine d_end rfl (wn rfl) rfl rfl (py_load tu45 rfl rfl (cell_atL (H3.box 0 rfl) rfl)) (d_end rfl (wn rfl) rfl rfl (py_load tu25 rfl rfl (cell_atL (H3.box 0 rfl) rfl)) (d_call rfl (wn rfl) rfl rfl (pc_call Tryz.func150 rfl Tryz_nm150 rfl) (Tryz_clone_i (H3.sees 0 rfl) (by omega)) (fun hS _ _ r _ => hS.trans r.1.no) (fun v39 w97 r39 => ?_)))
   obtain ⟨e97, r39⟩ := r39
   obtain ⟨fp39, H98⟩ := H3.res e97 r39
   obtain ⟨a39, k39, q40⟩ := own_slice (H98.mine 2 rfl)
   cases q40
   refine dV rfl rfl (fun zw hx => py_field tu68 rfl ts25 rfl rfl) (d_call rfl (wn rfl) rfl rfl (pc_call Tryz.func151 rfl Tryz_nm151 rfl) (Tryz_clone_b (H98.sees 1 rfl) (by omega)) (fun hS _ _ r _ => hS.trans r.1.no) (fun v40 w98 r40 => ?_))
   obtain ⟨e98, r40⟩ := r40
   obtain ⟨fp40, H99⟩ := H98.res e98 r40
   obtain ⟨a40, k40, q41⟩ := own_slice (H99.mine 3 rfl)
   cases q41
   refine d_call rfl (wn rfl) rfl rfl (pc_call Tryz.func151 rfl Tryz_nm151 rfl) (Tryz_clone_b (H99.sees 2 rfl) (by omega)) (fun hS _ _ r _ => hS.trans r.1.no) (fun v41 w99 r41 => ?_)
   obtain ⟨e99, r41⟩ := r41
   obtain ⟨fp41, H100⟩ := H99.res e99 r41
   obtain ⟨a41, k41, q42⟩ := own_slice (H100.mine 4 rfl)
   cases q42
   refine d_sto rfl (wn rfl) ts25 rfl rfl rfl H100 0 rfl rfl (fun _ h e _ => h.trans (e.mono fun _ _ q => by simp [q])) (fun w100 e100 H101 => ?_)
   dsimp only [lNA, lCA, lSZ, lSS, layL] at H101
   refine dV rfl rfl (fun zw hx => py_field tu68 rfl ts45 rfl rfl) (d_sto rfl (wn rfl) ts45 rfl rfl rfl H101 0 rfl rfl (fun _ h e _ => h.trans (e.mono fun _ _ q => by simp [q])) (fun w101 e101 H102 => ?_))
   dsimp only [lNA, lCA, lSZ, lSS, layL] at H102
   refine dV rfl rfl (fun zw hx => py_field tu68 rfl ts45 rfl rfl) (d_sto rfl (wn rfl) ts45 rfl rfl rfl H102 0 rfl rfl (fun _ h e _ => h.trans (e.mono fun _ _ q => by simp [q])) (fun w102 e102 H103 => ?_))
   dsimp only [lNA, lCA, lSZ, lSS, layL] at H103
   refine d_nil (W_sr (sV rfl (py_loadS tu68 rfl ts68 rfl rfl (At.whole (H103.box 0 rfl))) (s_stoS (wn rfl) ts68 rfl rfl rfl rfl H103 1 rfl rfl (fun w103 e103 H104 => ?_))))
   dsimp only [lNA, lCA, lSZ, lSS, layL] at H104
   refine s_nil (W_ret (hQ _ _ (finC Tryz.results74 rfl (run_loadVarS tu68 rfl ts68 rfl (At.whole (H104.box 1 rfl))) ?_)))
   exact ⟨H104.ext, _, _, _, _, _, _, rfl, Rec.out (H104.sub (.cons _ (.cons _ (.cons_cons _ (.cons_cons _ (.cons_cons _ List.Sublist.slnil)))))) (by assumption)⟩
theorem Tryz_spec_l5CopyRec {w : World} {r : Rec} {rA6 rA7 rA8 : Option Addr} {rC6 rC7 rC8 : Nat} (rK : r.Ok) (rS6 : Sees w [.slice rA6 r.Rows.length rC6] r.Rows) (rS7 : Sees w [.slice rA7 r.Data.length rC7] r.Data) (rS8 : Sees w [.slice rA8 r.Delta.length rC8] r.Delta) (hb : szRec r ≤ 1048576) : Ret Tryz.prog 65 #[r.val rA6 rC6 rA7 rC7 rA8 rC8] w fun v w' => Ext No w w' ∧ (∃ A6 C6 A7 C7 A8 C8, v = r.val A6 C6 A7 C7 A8 C8 ∧ Res w w' [.int .i64 r.Kind, .int .i64 r.Seq, .string r.Name, .int .i64 r.Length, .int .i64 r.Group, .int .i64 r.Row, .slice A6 r.Rows.length C6, .slice A7 r.Data.length C7, .slice A8 r.Delta.length C8] r) := by
 have rK2 := rK
 unfold Rec.Ok at rK2
 try unfold I64ok at rK2
 try unfold maxLen at rK2
 have rN2 : r.Name.size ≤ maxLen := by unfold maxLen; omega
 have rL6 := sL rS6
 obtain ⟨rF6, rO6⟩ := rS6
 have rL7 := sL rS7
 obtain ⟨rF7, rO7⟩ := rS7
 have rL8 := sL rS8
 obtain ⟨rF8, rO8⟩ := rS8
 unfold szRec at hb
 refine ret_Q (vs := [r.val rA6 rC6 rA7 rC7 rA8 rC8]) Tryz.func65 rfl Tryz.ntmps65 rfl (fun Q hQ hN => ?_)
 have H0 := Sep.start (w := w) (F := [seen false [.slice rA6 r.Rows.length rC6] r.Rows rF6, seen false [.slice rA7 r.Data.length rC7] r.Data rF7, seen false [.slice rA8 r.Delta.length rC8] r.Delta rF8]) (all_cons rO6 (all_cons rO7 (all_cons rO8 (by simp))))
 refine W_sr (s_box (wn rfl) rfl rfl H0 (fun b1 w1 e1 g1 H1 => ?_))
 refine s_var (wn rfl) rfl Tryz.zeroValue68 H1 (fun b2 w2 e2 g2 H2 => ?_)
 refine s_nil (W_sr (s_lit0 (α := Int) (wn rfl) rfl tu25 Tryz_ty2 H2 (fun b3 w3 e3 g3 H3 => ?_)))
 refine sV rfl (py_field tu68 rfl ts25 rfl rfl) (sV rfl (py_load tu25 rfl rfl (cell_atL (H3.box 0 rfl) rfl)) (s_appF (wn rfl) rfl tu25 Tryz_ty2 rfl rfl rfl H3 2 rfl (H3.seen 0 rfl) (by (try simp only [List.length_nil]); unfold maxLen; omega) (by (try simp only [List.length_nil]); omega) (fun v1 w4 fp1 H4 => ?_)))
 refine sV rfl (py_field tu68 rfl ts25 rfl rfl) ?_
 obtain ⟨a1, k1, q1⟩ := own_slice (H4.mine 2 rfl)
 cases q1
 refine s_sto (wn rfl) ts25 rfl rfl rfl H4 0 rfl rfl (fun w5 e4 H5 => ?_)
 dsimp only [lNA, lCA, lSZ, lSS, layL] at H5
 refine s_nil (W_sr (s_lit0 (α := UInt8) (wn rfl) rfl tu45 Tryz_ty5 H5 (fun b4 w6 e5 g4 H6 => ?_)))
 refine sV rfl (py_field tu68 rfl ts45 rfl rfl) (sV rfl (py_load tu45 rfl rfl (cell_atL (H6.box 0 rfl) rfl)) (s_appF (wn rfl) rfl tu45 Tryz_ty5 rfl rfl rfl H6 3 rfl (H6.seen 1 rfl) (by (try simp only [List.length_nil]); unfold maxLen; omega) (by (try simp only [List.length_nil]); omega) (fun v2 w7 fp2 H7 => ?_)))
 refine sV rfl (py_field tu68 rfl ts45 rfl rfl) ?_
 obtain ⟨a2, k2, q2⟩ := own_slice (H7.mine 3 rfl)
 cases q2
 refine s_sto (wn rfl) ts45 rfl rfl rfl H7 0 rfl rfl (fun w8 e6 H8 => ?_)
 dsimp only [lNA, lCA, lSZ, lSS, layL] at H8
 refine s_nil (W_sr (s_lit0 (α := UInt8) (wn rfl) rfl tu45 Tryz_ty5 H8 (fun b5 w9 e7 g5 H9 => ?_)))
 refine sV rfl (py_field tu68 rfl ts45 rfl rfl) (sV rfl (py_load tu45 rfl rfl (cell_atL (H9.box 0 rfl) rfl)) (s_appF (wn rfl) rfl tu45 Tryz_ty5 rfl rfl rfl H9 4 rfl (H9.seen 2 rfl) (by (try simp only [List.length_nil]); unfold maxLen; omega) (by (try simp only [List.length_nil]); omega) (fun v3 w10 fp3 H10 => ?_)))
 refine sV rfl (py_field tu68 rfl ts45 rfl rfl) ?_
 obtain ⟨a3, k3, q3⟩ := own_slice (H10.mine 4 rfl)
 cases q3
 refine s_sto (wn rfl) ts45 rfl rfl rfl H10 0 rfl rfl (fun w11 e8 H11 => ?_)
 dsimp only [lNA, lCA, lSZ, lSS, layL] at H11
 refine s_nil (W_sr (sV rfl (py_loadS tu68 rfl ts68 rfl rfl (At.whole (H11.box 0 rfl))) (s_stoS (wn rfl) ts68 rfl rfl rfl rfl H11 1 rfl rfl (fun w12 e9 H12 => ?_))))
 dsimp only [lNA, lCA, lSZ, lSS, layL] at H12
 refine s_nil (W_ret (hQ _ _ (finC Tryz.results65 rfl (run_loadVarS tu68 rfl ts68 rfl (At.whole (H12.box 1 rfl))) ?_)))
 exact ⟨H12.ext, _, _, _, _, _, _, rfl, Rec.out (H12.sub (.cons _ (.cons _ (.cons_cons _ (.cons_cons _ (.cons_cons _ List.Sublist.slnil)))))) (by assumption)⟩
theorem Tryz_impl_cloneRecs {w : World} {xs : List Rec} {xsA : Option Addr} {xsC : Nat} (xsS : Sees w [.slice xsA xs.length xsC] xs) (hl : szL szRec xs ≤ 1048576) : Ret Tryz.prog 108 #[.slice xsA xs.length xsC] w fun v w' => Ext No w w' ∧ (Res w w' [v] xs) := by
 have xsL := sL xsS
 obtain ⟨xsF, xsO⟩ := xsS
 have hl0 : xs.length ≤ 1048576 := by unfold szL at hl; omega
 refine ret_Q (vs := [.slice xsA xs.length xsC]) Tryz.func108 rfl Tryz.ntmps108 rfl (fun Q hQ hN => ?_)
 have H0 := Sep.start (w := w) (F := [seen false [.slice xsA xs.length xsC] xs xsF]) (all_cons xsO (by simp))
 refine W_sr (sA rfl rfl (s_nil (W_sr (s_lit0 (α := Rec) (wn rfl) rfl tu30 Tryz_ty68 H0 (fun b1 w1 e1 g1 H1 => ?_)))))
 refine sA rfl rfl (s_nil (W_seq (W_sr (sM rfl rfl (sV rfl (py_len tu30 rfl) (sM rfl rfl (s_nil (W_block (W_loopA (α := Rec) (γ := Nat) (fun k => xs.take k) 0 H1 0 rfl 3 rfl [(2, _), (7, _), (8, _)] ⟨rfl, rfl, rfl, trivial⟩ (fun k => [(9, .int .i64 k)]) (fun k => k ≤ xs.length ∧ True) (fun k => xs.length - k) ⟨rfl, trivial⟩ ⟨by omega, trivial⟩ (fun k vA1 fA1 w2 H2 ⟨hk, _⟩ => ?_))))))))))
 dsimp only [lCA, lNA, lSZ, lSS] at H2 ⊢
 refine W_sr (sV rfl (py_lss rfl rfl) (s_nil (W_seq (W_ifd rfl (fun c1 => ?_) (fun c1 => ?_)))))
 ·refine W_skip (W_seq (W_block (W_seq ?_)))
  obtain ⟨hg, hg2⟩ := szL_get hl k (by omega)
  have tl := List.length_take (i := k) (l := xs)
  obtain ⟨eb1, eo1, es1, ef1, ee1, ec1, eO1, eH1, em1⟩ := elem_st (H2.seen 0 rfl) k (by omega)
  obtain ⟨ea1, ek1, ea2, ek2, ea3, ek3, eg1, eg2, eg3, rfl, eq1, eK1, eo2, eo3, eo4⟩ := own_Rec eO1
  have eK1U := eK1
  unfold Rec.Ok at eK1U
  try unfold I64ok at eK1U
  try unfold maxLen at eK1U
  have eP1 := H2.look1 0 rfl eo2 (fun b hb => eH1 b (by rw [eq1]; simp [hb]))
  have eL1 := oL eo2
  have eP2 := eP1.look1 0 rfl eo3 (fun b hb => eH1 b (by rw [eq1]; simp [hb]))
  have eL2 := oL eo3
  have eP3 := eP2.look1 0 rfl eo4 (fun b hb => eH1 b (by rw [eq1]; simp [hb]))
  have eL3 := oL eo4
  refine W_reg (sV rfl (py_elz tu30 ts68 rfl rfl ee1 k (by omega) (by omega)) (sV rfl (py_loadS tu68 rfl ts68 rfl rfl ec1) (s_var (wn rfl) rfl Tryz.zeroValue68 eP3 (fun b2 w3 e2 g2 H3 => ?_))))
  refine s_stoS (wn rfl) ts68 rfl rfl rfl rfl H3 1 rfl rfl (fun w4 e3 H4 => ?_)
  dsimp only [lNA, lCA, lSZ, lSS, layL] at H4
  refine s_nil (W_reg (sM rfl rfl (sV rfl (py_loadS tu68 rfl ts68 rfl rfl (At.whole (H4.box 1 rfl))) (s_call (wn rfl) rfl rfl (pc_call Tryz.func74 rfl Tryz_nm74 rfl) (Tryz_impl_cloneRec (by assumption) (H4.sees 1 rfl) (H4.sees 2 rfl) (H4.sees 3 rfl) (by first | assumption | omega)) (fun v1 w5 r1 => ?_)))))
  obtain ⟨e4, sa1, sk1, sa2, sk2, sa3, sk3, rfl, r1⟩ := r1
  obtain ⟨fp1, H5⟩ := H4.res e4 r1
  refine s_lit1 (wn rfl) rfl tu30 Tryz_ty68 rfl rfl rfl rfl H5 (fun b3 w6 e5 g3 H6 => ?_)
  refine s_app2 (wn rfl) rfl tu30 Tryz_ty68 rfl rfl rfl H6 0 3 2 rfl rfl rfl rfl (by unfold maxLen; omega) (by omega) (fun v2 w7 fp2 H7 => ?_)
  refine sA rfl rfl (s_nil (W_reg (sV rfl (py_add rfl rfl (in64 ⟨by omega, by omega⟩)) (sM rfl rfl (s_nil ?_)))))
  exact ⟨(k + 1, _, _), ⟨rfl, rfl, rfl, rfl, rfl, trivial⟩, ⟨by dsimp only; rw [← take_step (xs := xs) (d := default) (by omega)]; exact ((H7.ftake 1).dtake 1), by omega, trivial⟩, by dsimp only; omega⟩
 ·refine W_exit (W_seq ?_)
  obtain rfl : k = xs.length := by omega
  rw [List.take_length] at H2
  refine W_reg (sM rfl rfl (sA rfl rfl (s_nil (rT hQ Tryz.results108 rfl ?_))))
  exact ⟨H2.ext, H2.out 0 rfl⟩
theorem Tryz_spec_l5CopyRecs {w : World} {xs : List Rec} {xsA : Option Addr} {xsC : Nat} (xsS : Sees w [.slice xsA xs.length xsC] xs) (hl : szL szRec xs ≤ 1048576) : Ret Tryz.prog 94 #[.slice xsA xs.length xsC] w fun v w' => Ext No w w' ∧ (Res w w' [v] xs) := by
 have xsL := sL xsS
 obtain ⟨xsF, xsO⟩ := xsS
 have hl0 : xs.length ≤ 1048576 := by unfold szL at hl; omega
 refine ret_Q (vs := [.slice xsA xs.length xsC]) Tryz.func94 rfl Tryz.ntmps94 rfl (fun Q hQ hN => ?_)
 have H0 := Sep.start (w := w) (F := [seen false [.slice xsA xs.length xsC] xs xsF]) (all_cons xsO (by simp))
 refine W_sr (sA rfl rfl (s_nil (W_sr (s_lit0 (α := Rec) (wn rfl) rfl tu30 Tryz_ty68 H0 (fun b1 w1 e1 g1 H1 => ?_)))))
 refine sA rfl rfl (s_nil (W_seq (W_sr (sA rfl rfl (s_nil (W_block (W_loopA (α := Rec) (γ := Nat) (fun k => xs.take k) 0 H1 0 rfl 3 rfl [(0, _), (2, _)] ⟨rfl, rfl, trivial⟩ (fun k => [(4, .int .i64 k)]) (fun k => k ≤ xs.length ∧ True) (fun k => xs.length - k) ⟨rfl, trivial⟩ ⟨by omega, trivial⟩ (fun k vA1 fA1 w2 H2 ⟨hk, _⟩ => ?_))))))))
 dsimp only [lCA, lNA, lSZ, lSS] at H2 ⊢
 refine W_seq (W_sr (sM rfl rfl (sM rfl rfl (sV rfl (py_len tu30 rfl) (sV rfl (py_lss rfl rfl) (s_nil (W_ifd rfl (fun c1 => ?_) (fun c1 => ?_))))))))
 ·refine W_skip (W_seq (W_block ?_))
  obtain ⟨hg, hg2⟩ := szL_get hl k (by omega)
  have tl := List.length_take (i := k) (l := xs)
  obtain ⟨eb1, eo1, es1, ef1, ee1, ec1, eO1, eH1, em1⟩ := elem_st (H2.seen 0 rfl) k (by omega)
  obtain ⟨ea1, ek1, ea2, ek2, ea3, ek3, eg1, eg2, eg3, rfl, eq1, eK1, eo2, eo3, eo4⟩ := own_Rec eO1
  have eK1U := eK1
  unfold Rec.Ok at eK1U
  try unfold I64ok at eK1U
  try unfold maxLen at eK1U
  have eP1 := H2.look1 0 rfl eo2 (fun b hb => eH1 b (by rw [eq1]; simp [hb]))
  have eL1 := oL eo2
  have eP2 := eP1.look1 0 rfl eo3 (fun b hb => eH1 b (by rw [eq1]; simp [hb]))
  have eL2 := oL eo3
  have eP3 := eP2.look1 0 rfl eo4 (fun b hb => eH1 b (by rw [eq1]; simp [hb]))
  have eL3 := oL eo4
  refine W_reg (sM rfl rfl (sM rfl rfl (sM rfl rfl (sV rfl (py_elz tu30 ts68 rfl rfl ee1 k (by omega) (by omega)) (sV rfl (py_loadS tu68 rfl ts68 rfl rfl ec1) (s_call (wn rfl) rfl rfl (pc_call Tryz.func65 rfl Tryz_nm65 rfl) (Tryz_spec_l5CopyRec (by assumption) (eP3.sees 1 rfl) (eP3.sees 2 rfl) (eP3.sees 3 rfl) (by first | assumption | omega)) (fun v1 w3 r1 => ?_)))))))
  obtain ⟨e2, sa1, sk1, sa2, sk2, sa3, sk3, rfl, r1⟩ := r1
  obtain ⟨fp1, H3⟩ := eP3.res e2 r1
  refine s_lit1 (wn rfl) rfl tu30 Tryz_ty68 rfl rfl rfl rfl H3 (fun b2 w4 e3 g2 H4 => ?_)
  refine s_app2 (wn rfl) rfl tu30 Tryz_ty68 rfl rfl rfl H4 0 2 1 rfl rfl rfl rfl (by unfold maxLen; omega) (by omega) (fun v2 w5 fp2 H5 => ?_)
  refine sA rfl rfl (s_nil (W_reg (sM rfl rfl (sV rfl (py_add rfl rfl (in64 ⟨by omega, by omega⟩)) (sA rfl rfl (s_nil ?_))))))
  exact ⟨(k + 1, _, _), ⟨rfl, rfl, rfl, rfl, trivial⟩, ⟨by dsimp only; rw [← take_step (xs := xs) (d := default) (by omega)]; exact ((H5.ftake 1).dtake 1), by omega, trivial⟩, by dsimp only; omega⟩
 ·refine W_exit (W_seq ?_)
  obtain rfl : k = xs.length := by omega
  rw [List.take_length] at H2
  refine W_reg (sM rfl rfl (sA rfl rfl (s_nil (rT hQ Tryz.results94 rfl ?_))))
  exact ⟨H2.ext, H2.out 0 rfl⟩
theorem Tryz_spec_l5CopyBlock {w : World} {x : Block} {xA1 : Option Addr} {xC1 : Nat} (xK : x.Ok) (xS1 : Sees w [.slice xA1 x.Bytes.length xC1] x.Bytes) (hb : szBlock x ≤ 1048576) : Ret Tryz.prog 193 #[x.val xA1 xC1] w fun v w' => Ext No w w' ∧ (∃ A1 C1, v = x.val A1 C1 ∧ Res w w' [.int .i64 x.Stamp, .slice A1 x.Bytes.length C1] x) := by
 have xK2 := xK
 unfold Block.Ok at xK2
 try unfold I64ok at xK2
 try unfold maxLen at xK2
 have xL1 := sL xS1
 obtain ⟨xF1, xO1⟩ := xS1
 unfold szBlock at hb
 refine ret_Q (vs := [x.val xA1 xC1]) Tryz.func193 rfl Tryz.ntmps193 rfl (fun Q hQ hN => ?_)
 have H0 := Sep.start (w := w) (F := [seen false [.slice xA1 x.Bytes.length xC1] x.Bytes xF1]) (all_cons xO1 (by simp))
 refine W_sr (s_box (wn rfl) rfl rfl H0 (fun b1 w1 e1 g1 H1 => ?_))
 refine s_var (wn rfl) rfl Tryz.zeroValue182 H1 (fun b2 w2 e2 g2 H2 => ?_)
 refine s_nil (W_seq (W_drw (S := Ext No _) [(0, true), (1, true), (3, true), (4, true), (2, false), (5, false), (6, true), (7, false)] (by kernel_rfl) (by kernel_rfl) (by kernel_rfl) rfl (fun _ => Ext.refl.drawn _) (fun q1 => ?_)))
 have H3 := H2.drawn q1
 refine dV rfl rfl (fun zw hx => py_field tu182 rfl ts2 rfl rfl) (dV rfl rfl (fun zw hx => py_load tu2 rfl rfl (cell_atL (hx.heap (H3.box 0 rfl)) rfl)) (dV rfl rfl (fun zw hx => py_field tu182 rfl ts45 rfl rfl) (dV rfl rfl (fun zw hx => py_load tu45 rfl rfl (cell_atL (hx.heap (H3.box 0 rfl)) rfl)) (d_S (fun hs1 => ?_) (by simp)))))
 refine d_lit0 (α := UInt8) rfl (wn rfl) rfl tu45 Tryz_ty5 H3 (fun _ h e => h.trans e.no) (fun b3 w3 e3 g3 H4 => ?_)
 refine d_S (fun hs2 => ?_) (by simp)
 refine d_appFS rfl (wn rfl) rfl tu45 Tryz_ty5 rfl rfl rfl H4 2 rfl (H4.seen 0 rfl) (by (try simp only [List.length_nil]); unfold maxLen; omega) (by (try simp only [List.length_nil]); omega) (fun b hb => by simp only [List.mem_singleton] at hb; rw [hb]; exact Nat.le_trans hs1.size g3) (fun v1 w4 fp1 sb1 H5 => ?_)
 try dsimp only [lNA, lCA, lSZ, lSS] at H5
 obtain ⟨a1, k1, q2⟩ := own_slice (H5.mine 2 rfl)
 cases q2
 refine dV rfl rfl (fun zw hx => py_buildS Tryz_pl182 rfl rfl) (d_stoS rfl (wn rfl) ts182 rfl rfl rfl rfl H5 1 rfl rfl (fun _ _ _ hr => absurd rfl hr) (fun w5 e4 H6 => ?_))
 dsimp only [lNA, lCA, lSZ, lSS, layL] at H6
 refine d_nil (W_ret (hQ _ _ (finC Tryz.results193 rfl (run_loadVarS tu182 rfl ts182 rfl (At.whole (H6.box 1 rfl))) ?_)))
 exact ⟨H6.ext, _, _, rfl, Block.out (H6.sub (.cons _ (.cons _ (.cons_cons _ List.Sublist.slnil)))) (by assumption)⟩
theorem Tryz_impl_cloneDrive {w : World} {x : Drive} {xA1 : Option Addr} {xC1 : Nat} (xK : x.Ok) (xS1 : Sees w [.slice xA1 x.Blocks.length xC1] x.Blocks) (hb : szDrive x ≤ 1048576) : Ret Tryz.prog 206 #[x.val xA1 xC1] w fun v w' => Ext No w w' ∧ (∃ A1 C1, v = x.val A1 C1 ∧ Res w w' [.bool x.Wiped, .slice A1 x.Blocks.length C1] x) := by
 have xK2 := xK
 unfold Drive.Ok at xK2
 try unfold I64ok at xK2
 try unfold maxLen at xK2
 have xL1 := sL xS1
 obtain ⟨xF1, xO1⟩ := xS1
 unfold szDrive at hb
 have hl0 : x.Blocks.length ≤ 1048576 := by unfold szL at hb; omega
 refine ret_Q (vs := [x.val xA1 xC1]) Tryz.func206 rfl Tryz.ntmps206 rfl (fun Q hQ hN => ?_)
 have H0 := Sep.start (w := w) (F := [seen false [.slice xA1 x.Blocks.length xC1] x.Blocks xF1]) (all_cons xO1 (by simp))
 refine W_sr (s_box (wn rfl) rfl rfl H0 (fun b1 w1 e1 g1 H1 => ?_))
 refine s_var (wn rfl) rfl Tryz.zeroValue180 H1 (fun b2 w2 e2 g2 H2 => ?_)
 refine s_nil (W_sr (sV rfl (py_field tu180 rfl ts4 rfl rfl) (sV rfl (py_load tu4 rfl rfl (cell_atL (H2.box 0 rfl) rfl)) (sV rfl (py_buildS Tryz_pl180 rfl rfl) (s_var (wn rfl) rfl Tryz.zeroValue180 H2 (fun b3 w3 e3 g3 H3 => ?_))))))
 refine s_stoS (wn rfl) ts180 rfl rfl rfl rfl H3 2 rfl rfl (fun w4 e4 H4 => ?_)
 dsimp only [lNA, lCA, lSZ, lSS, layL] at H4
 refine s_nil (W_seq (W_sr (sV rfl (py_field tu180 rfl ts178 rfl rfl) (sV rfl (py_load tu178 rfl rfl (cell_atL (H4.box 0 rfl) rfl)) (sV rfl (py_len tu178 rfl) (sM rfl rfl (s_nil (W_block ?_))))))))
 have H6 := H4.nilW (α := Block)
 try dsimp only [lNA, lCA, lSZ, lSS] at H6
 refine W_loopB (α := Block) (γ := Nat) (fun k => x.Blocks.take k) 0 H6 3 2 1 rfl rfl rfl rfl [(2, _), (3, _), (10, _), (11, _)] ⟨rfl, rfl, rfl, rfl, trivial⟩ (fun k => [(12, .int .i64 k)]) (fun k => k ≤ x.Blocks.length ∧ True) (fun k => x.Blocks.length - k) ⟨rfl, trivial⟩ ⟨by omega, trivial⟩ (fun k vA1 fA1 w5 H5 ⟨hk, _⟩ => ?_)
 dsimp only [lCA, lNA, lSZ, lSS] at H5 ⊢
 refine W_sr (sV rfl (py_lss rfl rfl) (s_nil (W_seq (W_ifd rfl (fun c1 => ?_) (fun c1 => ?_)))))
 ·refine W_skip (W_seq (W_block (W_seq ?_)))
  obtain ⟨hg, hg2⟩ := szL_get hb k (by omega)
  unfold szBlock at hg
  have tl := List.length_take (i := k) (l := x.Blocks)
  obtain ⟨eb1, eo1, es1, ef1, ee1, ec1, eO1, eH1, em1⟩ := elem_st (H5.seen 0 rfl) k (by omega)
  obtain ⟨ea1, ek1, eg1, rfl, eq1, eK1, eo2⟩ := own_Block eO1
  have eK1U := eK1
  unfold Block.Ok at eK1U
  try unfold I64ok at eK1U
  try unfold maxLen at eK1U
  have eP1 := H5.look1 0 rfl eo2 (fun b hb => eH1 b (by rw [eq1]; simp [hb]))
  have eL1 := oL eo2
  refine W_reg (sV rfl (py_elz tu178 ts182 rfl rfl ee1 k (by omega) (by omega)) (sV rfl (py_loadS tu182 rfl ts182 rfl rfl ec1) (s_var (wn rfl) rfl Tryz.zeroValue182 eP1 (fun b4 w6 e5 g4 H7 => ?_))))
  refine s_stoS (wn rfl) ts182 rfl rfl rfl rfl H7 4 rfl rfl (fun w7 e6 H8 => ?_)
  dsimp only [lNA, lCA, lSZ, lSS, layL] at H8
  refine s_nil (W_drw (S := Ext (· ∈ fA1) _) [(0, true), (1, true), (2, true), (3, true), (4, true), (5, true), (6, false), (7, true), (8, false), (9, false), (10, true), (11, false)] (by kernel_rfl) (by kernel_rfl) (by kernel_rfl) rfl (fun _ => Ext.refl.drawn _) (fun q1 => ?_))
  have H9 := H8.drawn q1
  refine dV rfl rfl (fun zw hx => py_field tu180 rfl ts178 rfl rfl) (dV rfl rfl (fun zw hx => py_load tu178 rfl rfl (cell_atL (hx.heapM (H9.boff 2 rfl 3 rfl rfl) (H9.box 2 rfl)) rfl)) (dV rfl rfl (fun zw hx => py_field tu182 rfl ts2 rfl rfl) (dV rfl rfl (fun zw hx => py_load tu2 rfl rfl (cell_atL (hx.heapM (H9.boff 4 rfl 3 rfl rfl) (H9.box 4 rfl)) rfl)) (dV rfl rfl (fun zw hx => py_field tu182 rfl ts45 rfl rfl) (dV rfl rfl (fun zw hx => py_load tu45 rfl rfl (cell_atL (hx.heapM (H9.boff 4 rfl 3 rfl rfl) (H9.box 4 rfl)) rfl)) (d_call rfl (wn rfl) rfl rfl (pc_call Tryz.func151 rfl Tryz_nm151 rfl) (Tryz_clone_b (H9.sees 1 rfl) (by omega)) (fun hS _ _ r _ => hS.trans r.1.no) (fun v1 w8 r1 => ?_)))))))
  obtain ⟨e7, r1⟩ := r1
  obtain ⟨fp1, H10⟩ := H9.res e7 r1
  obtain ⟨a1, k1, q2⟩ := own_slice (H10.mine 5 rfl)
  cases q2
  refine dV rfl rfl (fun zw hx => py_buildS Tryz_pl182 rfl rfl) (d_lit1 rfl (wn rfl) rfl tu178 Tryz_ty182 rfl rfl rfl rfl H10 (fun _ h e => h.trans e.no) (fun b5 w9 e8 g5 H11 => ?_))
  have H12 := H11.asSt 5 ((x.Blocks.getD k default) : Block) rfl (Block.own_mk (x := (x.Blocks.getD k default)) (by assumption) (H11.mine 5 rfl))
  try dsimp only [lNA, lCA, lSZ, lSS] at H12
  refine d_app2 rfl (wn rfl) rfl tu178 Tryz_ty182 rfl rfl rfl H12 3 6 5 rfl rfl rfl rfl (by unfold maxLen; omega) (by omega) (fun _ h e => h.trans e) (fun v2 w10 fp2 H13 => ?_)
  refine dV rfl rfl (fun zw hx => py_field tu180 rfl ts178 rfl rfl) ?_
  obtain ⟨a2, k2, q3⟩ := own_slice (H13.mine 3 rfl)
  cases q3
  refine d_sto rfl (wn rfl) ts178 rfl rfl rfl H13 2 rfl rfl (fun _ _ _ hr => absurd rfl hr) (fun w11 e9 H14 => ?_)
  dsimp only [lNA, lCA, lSZ, lSS, layL] at H14
  refine d_nil (W_reg (sV rfl (py_add rfl rfl (in64 ⟨by omega, by omega⟩)) (sM rfl rfl (s_nil ?_))))
  exact ⟨(k + 1, _, _), ⟨rfl, rfl, rfl, rfl, rfl, trivial⟩, ⟨by dsimp only; rw [← take_step (xs := x.Blocks) (d := default) (by omega)]; exact ((H14.ftake 1).dtake 4), by omega, trivial⟩, by dsimp only; omega⟩
 ·refine W_exit (W_seq ?_)
  obtain rfl : k = x.Blocks.length := by omega
  rw [List.take_length] at H5
  refine W_reg (sV rfl (py_loadS tu180 rfl ts180 rfl rfl (At.whole (H5.box 2 rfl))) ?_)
  obtain ⟨a3, k3, q4⟩ := own_slice (H5.mine 3 rfl)
  cases q4
  refine s_stoS (wn rfl) ts180 rfl rfl rfl rfl H5 1 rfl rfl (fun w12 e10 H15 => ?_)
  dsimp only [lNA, lCA, lSZ, lSS, layL] at H15
  refine s_nil (W_ret (hQ _ _ (finC Tryz.results206 rfl (run_loadVarS tu180 rfl ts180 rfl (At.whole (H15.box 1 rfl))) ?_)))
  exact ⟨H15.ext, _, _, rfl, Drive.out (H15.sub (.cons _ (.cons _ (.cons _ (.cons_cons _ List.Sublist.slnil))))) (by assumption)⟩
theorem Tryz_impl_cloneWorld {w : World} {z : Wld} {zA9 zA10 zA11 : Option Addr} {zC9 zC10 zC11 : Nat} (zK : z.Ok) (zS9 : Sees w [.slice zA9 z.Groups.length zC9] z.Groups) (zS10 : Sees w [.slice zA10 z.On.length zC10] z.On) (zS11 : Sees w [.slice zA11 z.Tapes.length zC11] z.Tapes) (hb : szWld z ≤ 1048576) : Ret Tryz.prog 121 #[z.val zA9 zC9 zA10 zC10 zA11 zC11] w fun v w' => Ext No w w' ∧ (∃ A9 C9 A10 C10 A11 C11, v = z.val A9 C9 A10 C10 A11 C11 ∧ Res w w' [.int .i64 z.Shape.Groups, .int .i64 z.Shape.Column, .int .i64 z.Shape.Data, .int .i64 z.Shape.Spare, .int .i64 z.Shape.Rows, .int .i64 z.Shape.Cap, .int .i64 z.Shape.Batch, .int .i64 z.Shape.Queue, .int .i64 z.Shape.Stage, .slice A9 z.Groups.length C9, .slice A10 z.On.length C10, .slice A11 z.Tapes.length C11, .int .i64 z.Writes, .int .i64 z.Stop, .bool z.Down] z) := by
 have zK2 := zK
 unfold Wld.Ok Shape.Ok at zK2
 try unfold I64ok at zK2
 try unfold maxLen at zK2
 have zL9 := sL zS9
 obtain ⟨zF9, zO9⟩ := zS9
 have zL10 := sL zS10
 obtain ⟨zF10, zO10⟩ := zS10
 have zL11 := sL zS11
 obtain ⟨zF11, zO11⟩ := zS11
 have hcu : szWld z = szL (szL szDrive) z.Groups + z.On.length + szL szTape z.Tapes := rfl
 have hg0 : szL (szL szDrive) z.Groups ≤ 1048576 := by omega
 have ht0 : szL szTape z.Tapes ≤ 1048576 := by omega
 have hgl : z.Groups.length ≤ 1048576 := by unfold szL at hg0; omega
 have htl : z.Tapes.length ≤ 1048576 := by unfold szL at ht0; omega
 refine ret_Q (vs := [z.val zA9 zC9 zA10 zC10 zA11 zC11]) Tryz.func121 rfl Tryz.ntmps121 rfl (fun Q hQ hN => ?_)
 have H0 := Sep.start (w := w) (F := [seen false [.slice zA9 z.Groups.length zC9] z.Groups zF9, seen false [.slice zA10 z.On.length zC10] z.On zF10, seen false [.slice zA11 z.Tapes.length zC11] z.Tapes zF11]) (all_cons zO9 (all_cons zO10 (all_cons zO11 (by simp))))
 refine W_sr (s_box (wn rfl) rfl rfl H0 (fun b1 w1 e1 g1 H1 => ?_))
 refine s_var (wn rfl) rfl Tryz.zeroValue38 H1 (fun b2 w2 e2 g2 H2 => ?_)
 refine s_nil (W_sr (sV rfl (py_loadS tu38 rfl ts38 rfl rfl (At.whole (H2.box 0 rfl))) (s_var (wn rfl) rfl Tryz.zeroValue38 H2 (fun b3 w3 e3 g3 H3 => ?_))))
 refine s_stoS (wn rfl) ts38 rfl rfl rfl rfl H3 2 rfl rfl (fun w4 e4 H4 => ?_)
 dsimp only [lNA, lCA, lSZ, lSS, layL] at H4
 refine s_nil (W_sr (sV rfl (py_field tu38 rfl ts25 rfl rfl) (sV rfl (py_load tu25 rfl rfl (cell_atL (H4.box 0 rfl) rfl)) (s_call (wn rfl) rfl rfl (pc_call Tryz.func150 rfl Tryz_nm150 rfl) (Tryz_clone_i (H4.sees 1 rfl) (by omega)) (fun v1 w5 r1 => ?_)))))
 obtain ⟨e5, r1⟩ := r1
 obtain ⟨fp1, H5⟩ := H4.res e5 r1
 obtain ⟨a1, k1, q1⟩ := own_slice (H5.mine 3 rfl)
 cases q1
 refine sV rfl (py_field tu38 rfl ts35 rfl rfl) (s_sto (wn rfl) ts35 rfl rfl rfl H5 2 rfl rfl (fun w6 e6 H6 => ?_))
 dsimp only [lNA, lCA, lSZ, lSS, layL] at H6
 refine sV rfl (py_field tu38 rfl ts25 rfl rfl) (s_sto (wn rfl) ts25 rfl rfl rfl H6 2 rfl rfl (fun w7 e7 H7 => ?_))
 dsimp only [lNA, lCA, lSZ, lSS, layL] at H7
 refine sV rfl (py_field tu38 rfl ts36 rfl rfl) (s_sto (wn rfl) ts36 rfl rfl rfl H7 2 rfl rfl (fun w8 e8 H8 => ?_))
 dsimp only [lNA, lCA, lSZ, lSS, layL] at H8
 refine s_nil (W_seq (W_sr (sV rfl (py_field tu38 rfl ts35 rfl rfl) (sV rfl (py_load tu35 rfl rfl (cell_atL (H8.box 0 rfl) rfl)) (sV rfl (py_len tu35 rfl) (sM rfl rfl (s_nil (W_block ?_))))))))
 have H10 := H8.nilW (α := (List Drive))
 try dsimp only [lNA, lCA, lSZ, lSS] at H10
 refine W_loopB (α := (List Drive)) (γ := Nat) (fun k => z.Groups.take k) 0 H10 4 2 9 rfl rfl rfl rfl [(1, _), (2, _), (3, _), (19, _), (20, _)] ⟨rfl, rfl, rfl, rfl, rfl, trivial⟩ (fun k => [(21, .int .i64 k)]) (fun k => k ≤ z.Groups.length ∧ True) (fun k => z.Groups.length - k) ⟨rfl, trivial⟩ ⟨by omega, trivial⟩ (fun k vA1 fA1 w9 H9 ⟨hk, _⟩ => ?_)
 dsimp only [lCA, lNA, lSZ, lSS] at H9 ⊢
 refine W_sr (sV rfl (py_lss rfl rfl) (s_nil (W_seq (W_ifd rfl (fun c1 => ?_) (fun c1 => ?_)))))
 ·refine W_skip (W_seq (W_block (W_seq ?_)))
  have hgk : szL szDrive (z.Groups.getD k []) ≤ 1048576 := (szL_get hg0 k (by omega)).1
  have hgkl : (z.Groups.getD k []).length ≤ 1048576 := by unfold szL at hgk; omega
  have tlg := List.length_take (i := k) (l := z.Groups)
  obtain ⟨eb1, eo1, ea1, ek1, ef1, ee1, ec1, eO1, eH1⟩ := elem_sl (H9.seen 0 rfl) k (by omega)
  have eP1 := H9.look1 0 rfl eO1 eH1
  refine W_reg (sV rfl (py_elz tu35 ts142 rfl rfl ee1 k (by omega) (by omega)) (sV rfl (py_load tu142 rfl rfl ec1) (sA rfl rfl (s_nil (W_sr (s_lit0 (α := Drive) (wn rfl) rfl tu142 Tryz_ty180 eP1 (fun b4 w10 e9 g4 H11 => ?_)))))))
  refine sA rfl rfl (s_nil (W_seq (W_sr (sM rfl rfl (sV rfl (py_len tu142 rfl) (sM rfl rfl (s_nil (W_block (W_loopA (α := Drive) (γ := Nat) (fun m2 => (z.Groups.getD k []).take m2) 0 H11 5 rfl 6 rfl [(1, _), (2, _), (3, _), (19, _), (20, _), (21, _), (26, _), (27, _)] ⟨rfl, rfl, rfl, rfl, rfl, rfl, rfl, rfl, trivial⟩ (fun m2 => [(28, .int .i64 m2)]) (fun m2 => m2 ≤ (z.Groups.getD k []).length ∧ True) (fun m2 => (z.Groups.getD k []).length - m2) ⟨rfl, trivial⟩ ⟨by omega, trivial⟩ (fun m2 vA2 fA2 w11 H12 ⟨hm2, _⟩ => ?_))))))))))
  dsimp only [lCA, lNA, lSZ, lSS] at H12 ⊢
  refine W_sr (sV rfl (py_lss rfl rfl) (s_nil (W_seq (W_ifd rfl (fun c2 => ?_) (fun c2 => ?_)))))
  ·refine W_skip (W_seq (W_block (W_seq ?_)))
   have hdk : szDrive ((z.Groups.getD k []).getD m2 default) ≤ 1048576 := (szL_get hgk m2 (by omega)).1
   have tld := List.length_take (i := m2) (l := (z.Groups.getD k []))
   obtain ⟨eb2, eo2, es1, ef2, ee2, ec2, eO2, eH2, em1⟩ := elem_st (H12.seen 3 rfl) m2 (by omega)
   obtain ⟨ea2, ek2, eg1, rfl, eq1, eK1, eo3⟩ := own_Drive eO2
   have eP2 := H12.look1 3 rfl eo3 (fun b hb => eH2 b (by rw [eq1]; simp [hb]))
   have eL1 := oL eo3
   refine W_reg (sV rfl (py_elz tu142 ts180 rfl rfl ee2 m2 (by omega) (by omega)) (sV rfl (py_loadS tu180 rfl ts180 rfl rfl ec2) (s_var (wn rfl) rfl Tryz.zeroValue180 eP2 (fun b5 w12 e10 g5 H13 => ?_))))
   refine s_stoS (wn rfl) ts180 rfl rfl rfl rfl H13 6 rfl rfl (fun w13 e11 H14 => ?_)
   dsimp only [lNA, lCA, lSZ, lSS, layL] at H14
   refine s_nil (W_reg (sM rfl rfl (sV rfl (py_loadS tu180 rfl ts180 rfl rfl (At.whole (H14.box 6 rfl))) (s_call (wn rfl) rfl rfl (pc_call Tryz.func206 rfl Tryz_nm206 rfl) (Tryz_impl_cloneDrive (by assumption) (H14.sees 4 rfl) (by first | assumption | omega)) (fun v2 w14 r2 => ?_)))))
   obtain ⟨e12, sa1, sk1, rfl, r2⟩ := r2
   obtain ⟨fp2, H15⟩ := H14.res e12 r2
   refine s_lit1 (wn rfl) rfl tu142 Tryz_ty180 rfl rfl rfl rfl H15 (fun b6 w15 e13 g6 H16 => ?_)
   refine s_app2 (wn rfl) rfl tu142 Tryz_ty180 rfl rfl rfl H16 5 8 7 rfl rfl rfl rfl (by unfold maxLen; omega) (by omega) (fun v3 w16 fp3 H17 => ?_)
   refine sA rfl rfl (s_nil (W_reg (sV rfl (py_add rfl rfl (in64 ⟨by omega, by omega⟩)) (sM rfl rfl (s_nil ?_)))))
   exact ⟨(m2 + 1, _, _), ⟨rfl, rfl, rfl, rfl, rfl, rfl, rfl, rfl, rfl, rfl, trivial⟩, ⟨by dsimp only; rw [← take_step (xs := (z.Groups.getD k [])) (d := default) (by omega)]; exact ((H17.ftake 4).dtake 6), by omega, trivial⟩, by dsimp only; omega⟩
  ·refine W_exit ?_
   obtain rfl : m2 = (z.Groups.getD k []).length := by omega
   rw [List.take_length] at H12
   refine W_reg (sV rfl (py_field tu38 rfl ts35 rfl rfl) (sV rfl (py_load tu35 rfl rfl (cell_atL (H12.box 2 rfl) rfl)) (sM rfl rfl ?_)))
   obtain ⟨a2, k2, q2⟩ := own_slice (H12.mine 5 rfl)
   cases q2
   refine s_lit1 (wn rfl) rfl tu35 Tryz_ty142 rfl rfl rfl rfl H12 (fun b7 w17 e14 g7 H18 => ?_)
   refine s_app2 (wn rfl) rfl tu35 Tryz_ty142 rfl rfl rfl H18 4 6 5 rfl rfl rfl rfl (by unfold maxLen; omega) (by omega) (fun v4 w18 fp4 H19 => ?_)
   refine sV rfl (py_field tu38 rfl ts35 rfl rfl) ?_
   obtain ⟨a3, k3, q3⟩ := own_slice (H19.mine 4 rfl)
   cases q3
   refine s_sto (wn rfl) ts35 rfl rfl rfl H19 2 rfl rfl (fun w19 e15 H20 => ?_)
   dsimp only [lNA, lCA, lSZ, lSS, layL] at H20
   refine s_nil (W_reg (sV rfl (py_add rfl rfl (in64 ⟨by omega, by omega⟩)) (sM rfl rfl (s_nil ?_))))
   exact ⟨(k + 1, _, _), ⟨rfl, rfl, rfl, rfl, rfl, rfl, trivial⟩, ⟨by dsimp only; rw [← take_step (xs := z.Groups) (d := []) (by omega)]; exact ((H20.ftake 3).dtake 5), by omega, trivial⟩, by dsimp only; omega⟩
 ·refine W_exit (W_seq (W_seq ?_))
  obtain rfl : k = z.Groups.length := by omega
  rw [List.take_length] at H9
  refine W_reg (sV rfl (py_field tu38 rfl ts36 rfl rfl) (sV rfl (py_load tu36 rfl rfl (cell_atL (H9.box 0 rfl) rfl)) (sV rfl (py_len tu36 rfl) (sM rfl rfl (s_nil (W_block ?_))))))
  have H22 := H9.nilW (α := Tape)
  try dsimp only [lNA, lCA, lSZ, lSS] at H22
  refine W_loopB (α := Tape) (γ := Nat) (fun k => z.Tapes.take k) 0 H22 5 2 11 rfl rfl rfl rfl [(2, _), (3, _), (46, _), (47, _)] ⟨rfl, rfl, rfl, rfl, trivial⟩ (fun k => [(48, .int .i64 k)]) (fun k => k ≤ z.Tapes.length ∧ True) (fun k => z.Tapes.length - k) ⟨rfl, trivial⟩ ⟨by omega, trivial⟩ (fun k vA3 fA3 w20 H21 ⟨hk, _⟩ => ?_)
  dsimp only [lCA, lNA, lSZ, lSS] at H21 ⊢
  refine W_sr (sV rfl (py_lss rfl rfl) (s_nil (W_seq (W_ifd rfl (fun c3 => ?_) (fun c3 => ?_)))))
  ·refine W_skip (W_seq (W_block (W_seq ?_)))
   have htk : szTape (z.Tapes.getD k default) ≤ 1048576 := (szL_get ht0 k (by omega)).1
   unfold szTape at htk
   have tlt := List.length_take (i := k) (l := z.Tapes)
   obtain ⟨eb3, eo4, es2, ef3, ee3, ec3, eO3, eH3, em2⟩ := elem_st (H21.seen 2 rfl) k (by omega)
   obtain ⟨ea3, ek3, eg2, rfl, eq2, eK2, eo5⟩ := own_Tape eO3
   have eP3 := H21.look1 2 rfl eo5 (fun b hb => eH3 b (by rw [eq2]; simp [hb]))
   have eL2 := oL eo5
   refine W_reg (sV rfl (py_elz tu36 ts139 rfl rfl ee3 k (by omega) (by omega)) (sV rfl (py_loadS tu139 rfl ts139 rfl rfl ec3) (s_var (wn rfl) rfl Tryz.zeroValue139 eP3 (fun b8 w21 e16 g8 H23 => ?_))))
   refine s_stoS (wn rfl) ts139 rfl rfl rfl rfl H23 6 rfl rfl (fun w22 e17 H24 => ?_)
   dsimp only [lNA, lCA, lSZ, lSS, layL] at H24
   refine s_nil (W_drw (S := Ext (· ∈ fA3) _) [(0, true), (1, true), (2, true), (3, true), (4, true), (5, true), (6, false), (7, true), (8, false), (9, false), (10, true), (11, false)] (by kernel_rfl) (by kernel_rfl) (by kernel_rfl) rfl (fun _ => Ext.refl.drawn _) (fun q4 => ?_))
   have H25 := H24.drawn q4
   refine dV rfl rfl (fun zw hx => py_field tu38 rfl ts36 rfl rfl) (dV rfl rfl (fun zw hx => py_load tu36 rfl rfl (cell_atL (hx.heapM (H25.boff 2 rfl 5 rfl rfl) (H25.box 2 rfl)) rfl)) (dV rfl rfl (fun zw hx => py_field tu139 rfl ts4 rfl rfl) (dV rfl rfl (fun zw hx => py_load tu4 rfl rfl (cell_atL (hx.heapM (H25.boff 6 rfl 5 rfl rfl) (H25.box 6 rfl)) rfl)) (dV rfl rfl (fun zw hx => py_field tu139 rfl ts30 rfl rfl) (dV rfl rfl (fun zw hx => py_load tu30 rfl rfl (cell_atL (hx.heapM (H25.boff 6 rfl 5 rfl rfl) (H25.box 6 rfl)) rfl)) (d_call rfl (wn rfl) rfl rfl (pc_call Tryz.func108 rfl Tryz_nm108 rfl) (Tryz_impl_cloneRecs (H25.sees 3 rfl) (by first | assumption | omega)) (fun hS _ _ r _ => hS.trans r.1.no) (fun v5 w23 r3 => ?_)))))))
   obtain ⟨e18, r3⟩ := r3
   obtain ⟨fp5, H26⟩ := H25.res e18 r3
   obtain ⟨a4, k4, q5⟩ := own_slice (H26.mine 7 rfl)
   cases q5
   refine dV rfl rfl (fun zw hx => py_buildS Tryz_pl139 rfl rfl) (d_lit1 rfl (wn rfl) rfl tu36 Tryz_ty139 rfl rfl rfl rfl H26 (fun _ h e => h.trans e.no) (fun b9 w24 e19 g9 H27 => ?_))
   have H28 := H27.asSt 7 ((z.Tapes.getD k default) : Tape) rfl (Tape.own_mk (x := (z.Tapes.getD k default)) (by assumption) (H27.mine 7 rfl))
   try dsimp only [lNA, lCA, lSZ, lSS] at H28
   refine d_app2 rfl (wn rfl) rfl tu36 Tryz_ty139 rfl rfl rfl H28 5 8 7 rfl rfl rfl rfl (by unfold maxLen; omega) (by omega) (fun _ h e => h.trans e) (fun v6 w25 fp6 H29 => ?_)
   refine dV rfl rfl (fun zw hx => py_field tu38 rfl ts36 rfl rfl) ?_
   obtain ⟨a5, k5, q6⟩ := own_slice (H29.mine 5 rfl)
   cases q6
   refine d_sto rfl (wn rfl) ts36 rfl rfl rfl H29 2 rfl rfl (fun _ _ _ hr => absurd rfl hr) (fun w26 e20 H30 => ?_)
   dsimp only [lNA, lCA, lSZ, lSS, layL] at H30
   refine d_nil (W_reg (sV rfl (py_add rfl rfl (in64 ⟨by omega, by omega⟩)) (sM rfl rfl (s_nil ?_))))
   exact ⟨(k + 1, _, _), ⟨rfl, rfl, rfl, rfl, rfl, trivial⟩, ⟨by dsimp only; rw [← take_step (xs := z.Tapes) (d := default) (by omega)]; exact ((H30.ftake 3).dtake 6), by omega, trivial⟩, by dsimp only; omega⟩
  ·refine W_exit (W_seq ?_)
   obtain rfl : k = z.Tapes.length := by omega
   rw [List.take_length] at H21
   refine W_reg (sV rfl (py_loadS tu38 rfl ts38 rfl rfl (At.whole (H21.box 2 rfl))) ?_)
   obtain ⟨a6, k6, q7⟩ := own_slice (H21.mine 4 rfl)
   cases q7
   obtain ⟨a7, k7, q8⟩ := own_slice (H21.mine 5 rfl)
   cases q8
   refine s_stoS (wn rfl) ts38 rfl rfl rfl rfl H21 1 rfl rfl (fun w27 e21 H31 => ?_)
   dsimp only [lNA, lCA, lSZ, lSS, layL] at H31
   refine s_nil (W_ret (hQ _ _ (finC Tryz.results121 rfl (run_loadVarS tu38 rfl ts38 rfl (At.whole (H31.box 1 rfl))) ?_)))
   exact ⟨H31.ext, _, _, _, _, _, _, rfl, Wld.out ((H31.sub (.cons _ (.cons _ (.cons _ (.cons_cons _ (.cons_cons _ (.cons_cons _ List.Sublist.slnil))))))).perm (.swap _ _ _)) (by assumption)⟩
theorem Tryz_spec_l5Copy {w : World} {z : Wld} {zA9 zA10 zA11 : Option Addr} {zC9 zC10 zC11 : Nat} (zK : z.Ok) (zS9 : Sees w [.slice zA9 z.Groups.length zC9] z.Groups) (zS10 : Sees w [.slice zA10 z.On.length zC10] z.On) (zS11 : Sees w [.slice zA11 z.Tapes.length zC11] z.Tapes) (hb : szWld z ≤ 1048576) : Ret Tryz.prog 113 #[z.val zA9 zC9 zA10 zC10 zA11 zC11] w fun v w' => Ext No w w' ∧ (∃ A9 C9 A10 C10 A11 C11, v = z.val A9 C9 A10 C10 A11 C11 ∧ Res w w' [.int .i64 z.Shape.Groups, .int .i64 z.Shape.Column, .int .i64 z.Shape.Data, .int .i64 z.Shape.Spare, .int .i64 z.Shape.Rows, .int .i64 z.Shape.Cap, .int .i64 z.Shape.Batch, .int .i64 z.Shape.Queue, .int .i64 z.Shape.Stage, .slice A9 z.Groups.length C9, .slice A10 z.On.length C10, .slice A11 z.Tapes.length C11, .int .i64 z.Writes, .int .i64 z.Stop, .bool z.Down] z) := by
 have zK2 := zK
 unfold Wld.Ok Shape.Ok at zK2
 try unfold I64ok at zK2
 try unfold maxLen at zK2
 have zL9 := sL zS9
 obtain ⟨zF9, zO9⟩ := zS9
 have zL10 := sL zS10
 obtain ⟨zF10, zO10⟩ := zS10
 have zL11 := sL zS11
 obtain ⟨zF11, zO11⟩ := zS11
 have hcu : szWld z = szL (szL szDrive) z.Groups + z.On.length + szL szTape z.Tapes := rfl
 have hg0 : szL (szL szDrive) z.Groups ≤ 1048576 := by omega
 have ht0 : szL szTape z.Tapes ≤ 1048576 := by omega
 have hgl : z.Groups.length ≤ 1048576 := by unfold szL at hg0; omega
 have htl : z.Tapes.length ≤ 1048576 := by unfold szL at ht0; omega
 refine ret_Q (vs := [z.val zA9 zC9 zA10 zC10 zA11 zC11]) Tryz.func113 rfl Tryz.ntmps113 rfl (fun Q hQ hN => ?_)
 have H0 := Sep.start (w := w) (F := [seen false [.slice zA9 z.Groups.length zC9] z.Groups zF9, seen false [.slice zA10 z.On.length zC10] z.On zF10, seen false [.slice zA11 z.Tapes.length zC11] z.Tapes zF11]) (all_cons zO9 (all_cons zO10 (all_cons zO11 (by simp))))
 refine W_sr (s_box (wn rfl) rfl rfl H0 (fun b1 w1 e1 g1 H1 => ?_))
 refine s_var (wn rfl) rfl Tryz.zeroValue38 H1 (fun b2 w2 e2 g2 H2 => ?_)
 refine s_nil (W_sr (sV rfl (py_loadS tu38 rfl ts38 rfl rfl (At.whole (H2.box 0 rfl))) (s_var (wn rfl) rfl Tryz.zeroValue38 H2 (fun b3 w3 e3 g3 H3 => ?_))))
 refine s_stoS (wn rfl) ts38 rfl rfl rfl rfl H3 2 rfl rfl (fun w4 e4 H4 => ?_)
 dsimp only [lNA, lCA, lSZ, lSS, layL] at H4
 refine s_nil (W_sr (sV rfl (py_field tu38 rfl ts35 rfl rfl) (s_sto (wn rfl) ts35 rfl rfl rfl H4 2 rfl rfl (fun w5 e5 H5 => ?_))))
 dsimp only [lNA, lCA, lSZ, lSS, layL] at H5
 refine s_nil (W_seq (W_sr (sA rfl rfl (s_nil (W_block ?_)))))
 have H7 := H5.nilW (α := (List Drive))
 try dsimp only [lNA, lCA, lSZ, lSS] at H7
 refine W_loopB (α := (List Drive)) (γ := Nat) (fun k => z.Groups.take k) 0 H7 3 2 9 rfl rfl rfl rfl [(1, _), (2, _), (3, _)] ⟨rfl, rfl, rfl, trivial⟩ (fun k => [(4, .int .i64 k)]) (fun k => k ≤ z.Groups.length ∧ True) (fun k => z.Groups.length - k) ⟨rfl, trivial⟩ ⟨by omega, trivial⟩ (fun k vA1 fA1 w6 H6 ⟨hk, _⟩ => ?_)
 dsimp only [lCA, lNA, lSZ, lSS] at H6 ⊢
 refine W_seq (W_sr (sM rfl rfl (sV rfl (py_field tu38 rfl ts35 rfl rfl) (sV rfl (py_load tu35 rfl rfl (cell_atL (H6.box 0 rfl) rfl)) (sV rfl (py_len tu35 rfl) (sV rfl (py_lss rfl rfl) (s_nil (W_ifd rfl (fun c1 => ?_) (fun c1 => ?_)))))))))
 ·refine W_skip (W_seq (W_block (W_seq ?_)))
  have hgk : szL szDrive (z.Groups.getD k []) ≤ 1048576 := (szL_get hg0 k (by omega)).1
  have hgkl : (z.Groups.getD k []).length ≤ 1048576 := by unfold szL at hgk; omega
  have tlg := List.length_take (i := k) (l := z.Groups)
  refine W_reg (s_lit0 (α := Drive) (wn rfl) rfl tu142 Tryz_ty180 H6 (fun b4 w7 e6 g4 H8 => ?_))
  refine sA rfl rfl (s_nil (W_seq (W_sr (sA rfl rfl (s_nil (W_block (W_loopA (α := Drive) (γ := Nat) (fun m2 => (z.Groups.getD k []).take m2) 0 H8 4 rfl 5 rfl [(1, _), (2, _), (3, _), (4, _)] ⟨rfl, rfl, rfl, rfl, trivial⟩ (fun m2 => [(6, .int .i64 m2)]) (fun m2 => m2 ≤ (z.Groups.getD k []).length ∧ True) (fun m2 => (z.Groups.getD k []).length - m2) ⟨rfl, trivial⟩ ⟨by omega, trivial⟩ (fun m2 vA2 fA2 w8 H9 ⟨hm2, _⟩ => ?_))))))))
  dsimp only [lCA, lNA, lSZ, lSS] at H9 ⊢
  refine W_seq (W_seq ?_)
  obtain ⟨eb1, eo1, ea1, ek1, ef1, ee1, ec1, eO1, eH1⟩ := elem_sl (H9.seen 0 rfl) k (by omega)
  have eP1 := H9.look1 0 rfl eO1 eH1
  refine W_reg (sM rfl rfl (sV rfl (py_field tu38 rfl ts35 rfl rfl) (sV rfl (py_load tu35 rfl rfl (cell_atL (eP1.box 0 rfl) rfl)) (sM rfl rfl (sV rfl (py_elz tu35 ts142 rfl rfl ee1 k (by omega) (by omega)) (sV rfl (py_load tu142 rfl rfl ec1) (sV rfl (py_len tu142 rfl) (sV rfl (py_lss rfl rfl) (s_nil (W_ifd rfl (fun c2 => ?_) (fun c2 => ?_)))))))))))
  ·refine W_skip (W_seq (W_block (W_seq ?_)))
   have hdk : szDrive ((z.Groups.getD k []).getD m2 default) ≤ 1048576 := (szL_get hgk m2 (by omega)).1
   have tld := List.length_take (i := m2) (l := (z.Groups.getD k []))
   obtain ⟨eb2, eo2, ea2, ek2, ef2, ee2, ec2, eO2, eH2⟩ := elem_sl (eP1.seen 0 rfl) k (by omega)
   have eP2 := eP1.look1 0 rfl eO2 eH2
   obtain ⟨eb3, eo3, es1, ef3, ee3, ec3, eO3, eH3, em1⟩ := elem_st (eP2.seen 4 rfl) m2 (by omega)
   obtain ⟨ea3, ek3, eg1, rfl, eq1, eK1, eo4⟩ := own_Drive eO3
   have eP3 := eP2.look1 4 rfl eo4 (fun b hb => eH3 b (by rw [eq1]; simp [hb]))
   have eL1 := oL eo4
   refine W_reg (sV rfl (py_field tu38 rfl ts35 rfl rfl) (sV rfl (py_load tu35 rfl rfl (cell_atL (eP3.box 0 rfl) rfl)) (sM rfl rfl (sV rfl (py_elz tu35 ts142 rfl rfl ee2 k (by omega) (by omega)) (sV rfl (py_load tu142 rfl rfl ec2) (sM rfl rfl (sV rfl (py_elz tu142 ts180 rfl rfl ee3 m2 (by omega) (by omega)) (sV rfl (py_field tu180 rfl ts4 rfl rfl) (sV rfl (py_load tu4 rfl rfl (at_cell ec3 0 rfl)) (sV rfl (py_buildS Tryz_pl180 rfl rfl) (s_var (wn rfl) rfl Tryz.zeroValue180 eP3 (fun b5 w9 e7 g5 H10 => ?_))))))))))))
   refine s_stoS (wn rfl) ts180 rfl rfl rfl rfl H10 5 rfl rfl (fun w10 e8 H11 => ?_)
   dsimp only [lNA, lCA, lSZ, lSS, layL] at H11
   refine s_nil (W_seq (W_sr (sA rfl rfl (s_nil (W_block ?_)))))
   have H13 := H11.nilW (α := Block)
   try dsimp only [lNA, lCA, lSZ, lSS] at H13
   refine W_loopB (α := Block) (γ := Nat) (fun m3 => ((z.Groups.getD k []).getD m2 default).Blocks.take m3) 0 H13 6 5 1 rfl rfl rfl rfl [(1, _), (2, _), (3, _), (4, _), (5, _), (6, _), (7, _)] ⟨rfl, rfl, rfl, rfl, rfl, rfl, rfl, trivial⟩ (fun m3 => [(8, .int .i64 m3)]) (fun m3 => m3 ≤ ((z.Groups.getD k []).getD m2 default).Blocks.length ∧ True) (fun m3 => ((z.Groups.getD k []).getD m2 default).Blocks.length - m3) ⟨rfl, trivial⟩ ⟨by omega, trivial⟩ (fun m3 vA3 fA3 w11 H12 ⟨hm3, _⟩ => ?_)
   dsimp only [lCA, lNA, lSZ, lSS] at H12 ⊢
   refine W_seq (W_seq ?_)
   skip
   obtain ⟨eb4, eo5, ea4, ek4, ef4, ee4, ec4, eO4, eH4⟩ := elem_sl (H12.seen 0 rfl) k (by omega)
   have eP4 := H12.look1 0 rfl eO4 eH4
   obtain ⟨eb5, eo6, es2, ef5, ee5, ec5, eO5, eH5, em2⟩ := elem_st (eP4.seen 6 rfl) m2 (by omega)
   obtain ⟨ea5, ek5, eg2, rfl, eq2, eK2, eo7⟩ := own_Drive eO5
   have eP5 := eP4.look1 6 rfl eo7 (fun b hb => eH5 b (by rw [eq2]; simp [hb]))
   have eL2 := oL eo7
   refine W_reg (sM rfl rfl (sV rfl (py_field tu38 rfl ts35 rfl rfl) (sV rfl (py_load tu35 rfl rfl (cell_atL (eP5.box 0 rfl) rfl)) (sM rfl rfl (sV rfl (py_elz tu35 ts142 rfl rfl ee4 k (by omega) (by omega)) (sV rfl (py_load tu142 rfl rfl ec4) (sM rfl rfl (sV rfl (py_elz tu142 ts180 rfl rfl ee5 m2 (by omega) (by omega)) (sV rfl (py_field tu180 rfl ts178 rfl rfl) (sV rfl (py_load tu178 rfl rfl (at_cell ec5 1 rfl)) (sV rfl (py_len tu178 rfl) (sV rfl (py_lss rfl rfl) (s_nil (W_ifd rfl (fun c3 => ?_) (fun c3 => ?_)))))))))))))))
   ·refine W_skip (W_seq (W_block ?_))
    have hbl : ((z.Groups.getD k []).getD m2 default).Blocks.length ≤ 1048576 := by unfold szDrive szL at hdk; omega
    have hbk : szBlock (((z.Groups.getD k []).getD m2 default).Blocks.getD m3 default) ≤ 1048576 := (szL_get (by unfold szDrive at hdk; exact hdk) m3 (by omega)).1
    have tlb := List.length_take (i := m3) (l := ((z.Groups.getD k []).getD m2 default).Blocks)
    obtain ⟨eb6, eo8, ea6, ek6, ef6, ee6, ec6, eO6, eH6, em3⟩ := elem_slm (eP5.seen 0 rfl) k (by omega)
    have eP6 := eP5.look1 0 rfl eO6 eH6
    obtain ⟨eb7, eo9, es3, ef7, ee7, ec7, eO7, eH7, em4⟩ := elem_st (eP6.seen 8 rfl) m2 (by omega)
    obtain ⟨ea7, ek7, eg3, rfl, eq3, eK3, eo10⟩ := own_Drive eO7
    have eP7 := eP6.look1 8 rfl eo10 (fun b hb => eH7 b (by rw [eq3]; simp [hb]))
    have eL3 := oL eo10
    obtain ⟨eb8, eo11, es4, ef8, ee8, ec8, eO8, eH8, em5⟩ := elem_st (eP7.seen 9 rfl) m3 (by omega)
    obtain ⟨ea8, ek8, eg4, rfl, eq4, eK4, eo12⟩ := own_Block eO8
    have eK4U := eK4
    unfold Block.Ok at eK4U
    try unfold I64ok at eK4U
    try unfold maxLen at eK4U
    have eP8 := eP7.look1 9 rfl eo12 (fun b hb => eH8 b (by rw [eq4]; simp [hb]))
    have eL4 := oL eo12
    refine W_drw (S := Ext (· ∈ fA3) _) [(0, true), (1, true), (2, true), (3, true), (4, true), (5, true), (6, true), (7, true), (8, true), (9, true), (10, true), (11, true), (12, true), (13, true), (14, false), (15, false), (16, false), (17, true), (18, false)] (by kernel_rfl) (by kernel_rfl) (by kernel_rfl) rfl (fun _ => Ext.refl.drawn _) (fun q1 => ?_)
    have H14 := eP8.drawn q1
    refine dV rfl rfl (fun zw hx => py_field tu180 rfl ts178 rfl rfl) (dV rfl rfl (fun zw hx => py_load tu178 rfl rfl (cell_atL (hx.heapM (H14.boff 5 rfl 6 rfl rfl) (H14.box 5 rfl)) rfl)) (dV rfl rfl (fun zw hx => py_field tu38 rfl ts35 rfl rfl) (dV rfl rfl (fun zw hx => py_load tu35 rfl rfl (cell_atL (hx.heapM (H14.boff 0 rfl 6 rfl rfl) (H14.box 0 rfl)) rfl)) (dM rfl rfl rfl (dV rfl rfl (fun zw hx => py_elz tu35 ts142 rfl rfl ee6 k (by omega) (by omega)) (dV rfl rfl (fun zw hx => py_load tu142 rfl rfl (hx.cellM (H14.off 0 rfl 6 rfl em3) ec6)) (dM rfl rfl rfl (dV rfl rfl (fun zw hx => py_elz tu142 ts180 rfl rfl ee7 m2 (by omega) (by omega)) (dV rfl rfl (fun zw hx => py_field tu180 rfl ts178 rfl rfl) (dV rfl rfl (fun zw hx => py_load tu178 rfl rfl (at_cell (hx.atM (H14.off 8 rfl 6 rfl em4) ec7) 1 rfl)) (dM rfl rfl rfl (dV rfl rfl (fun zw hx => py_elz tu178 ts182 rfl rfl ee8 m3 (by omega) (by omega)) (dV rfl rfl (fun zw hx => py_loadS tu182 rfl ts182 rfl rfl (hx.atM (H14.off 9 rfl 6 rfl em5) ec8)) (d_call rfl (wn rfl) rfl rfl (pc_call Tryz.func193 rfl Tryz_nm193 rfl) (Tryz_spec_l5CopyBlock (by assumption) (H14.sees 10 rfl) (by first | assumption | omega)) (fun hS _ _ r _ => hS.trans r.1.no) (fun v1 w12 r1 => ?_)))))))))))))))
    obtain ⟨e9, sa1, sk1, rfl, r1⟩ := r1
    obtain ⟨fp1, H15⟩ := H14.res e9 r1
    refine d_lit1 rfl (wn rfl) rfl tu178 Tryz_ty182 rfl rfl rfl rfl H15 (fun _ h e => h.trans e.no) (fun b6 w13 e10 g6 H16 => ?_)
    refine d_app2 rfl (wn rfl) rfl tu178 Tryz_ty182 rfl rfl rfl H16 6 8 7 rfl rfl rfl rfl (by unfold maxLen; omega) (by omega) (fun _ h e => h.trans e) (fun v2 w14 fp2 H17 => ?_)
    refine dV rfl rfl (fun zw hx => py_field tu180 rfl ts178 rfl rfl) ?_
    obtain ⟨a1, k1, q2⟩ := own_slice (H17.mine 6 rfl)
    cases q2
    refine d_sto rfl (wn rfl) ts178 rfl rfl rfl H17 5 rfl rfl (fun _ _ _ hr => absurd rfl hr) (fun w15 e11 H18 => ?_)
    dsimp only [lNA, lCA, lSZ, lSS, layL] at H18
    refine d_nil (W_reg (sM rfl rfl (sV rfl (py_add rfl rfl (in64 ⟨by omega, by omega⟩)) (sA rfl rfl (s_nil ?_)))))
    exact ⟨(m3 + 1, _, _), ⟨rfl, rfl, rfl, rfl, rfl, rfl, rfl, rfl, trivial⟩, ⟨by dsimp only; rw [← take_step (xs := ((z.Groups.getD k []).getD m2 default).Blocks) (d := default) (by omega)]; exact ((H18.ftake 6).dtake 7), by omega, trivial⟩, by dsimp only; omega⟩
   ·refine W_exit ?_
    obtain rfl : m3 = ((z.Groups.getD k []).getD m2 default).Blocks.length := by omega
    rw [List.take_length] at eP5
    refine W_reg (sM rfl rfl (sV rfl (py_loadS tu180 rfl ts180 rfl rfl (At.whole (eP5.box 5 rfl))) (s_lit1 (wn rfl) rfl tu142 Tryz_ty180 rfl rfl rfl rfl eP5 (fun b7 w16 e12 g7 H19 => ?_))))
    obtain ⟨a2, k2, q3⟩ := own_slice (H19.mine 6 rfl)
    cases q3
    have H20 := H19.asSt 6 (((z.Groups.getD k []).getD m2 default) : Drive) rfl (Drive.own_mk (x := ((z.Groups.getD k []).getD m2 default)) (by assumption) (H19.mine 6 rfl))
    try dsimp only [lNA, lCA, lSZ, lSS] at H20
    refine s_app2 (wn rfl) rfl tu142 Tryz_ty180 rfl rfl rfl H20 4 7 6 rfl rfl rfl rfl (by unfold maxLen; omega) (by omega) (fun v3 w17 fp3 H21 => ?_)
    refine sA rfl rfl (s_nil (W_reg (sM rfl rfl (sV rfl (py_add rfl rfl (in64 ⟨by omega, by omega⟩)) (sA rfl rfl (s_nil ?_))))))
    exact ⟨(m2 + 1, _, _), ⟨rfl, rfl, rfl, rfl, rfl, rfl, trivial⟩, ⟨by dsimp only; rw [← take_step (xs := (z.Groups.getD k [])) (d := default) (by omega)]; exact ((H21.ftake 3).dtake 5), by omega, trivial⟩, by dsimp only; omega⟩
  ·refine W_exit ?_
   obtain rfl : m2 = (z.Groups.getD k []).length := by omega
   rw [List.take_length] at eP1
   refine W_reg (sV rfl (py_field tu38 rfl ts35 rfl rfl) (sV rfl (py_load tu35 rfl rfl (cell_atL (eP1.box 2 rfl) rfl)) (sM rfl rfl ?_)))
   obtain ⟨a3, k3, q4⟩ := own_slice (eP1.mine 4 rfl)
   cases q4
   refine s_lit1 (wn rfl) rfl tu35 Tryz_ty142 rfl rfl rfl rfl eP1 (fun b8 w18 e13 g8 H22 => ?_)
   refine s_app2 (wn rfl) rfl tu35 Tryz_ty142 rfl rfl rfl H22 3 5 4 rfl rfl rfl rfl (by unfold maxLen; omega) (by omega) (fun v4 w19 fp4 H23 => ?_)
   refine sV rfl (py_field tu38 rfl ts35 rfl rfl) ?_
   obtain ⟨a4, k4, q5⟩ := own_slice (H23.mine 3 rfl)
   cases q5
   refine s_sto (wn rfl) ts35 rfl rfl rfl H23 2 rfl rfl (fun w20 e14 H24 => ?_)
   dsimp only [lNA, lCA, lSZ, lSS, layL] at H24
   refine s_nil (W_reg (sM rfl rfl (sV rfl (py_add rfl rfl (in64 ⟨by omega, by omega⟩)) (sA rfl rfl (s_nil ?_)))))
   exact ⟨(k + 1, _, _), ⟨rfl, rfl, rfl, rfl, trivial⟩, ⟨by dsimp only; rw [← take_step (xs := z.Groups) (d := []) (by omega)]; exact ((H24.ftake 3).dtake 4), by omega, trivial⟩, by dsimp only; omega⟩
 ·refine W_exit (W_seq ?_)
  obtain rfl : k = z.Groups.length := by omega
  rw [List.take_length] at H6
  refine W_reg (s_lit0 (α := Int) (wn rfl) rfl tu25 Tryz_ty2 H6 (fun b9 w21 e15 g9 H25 => ?_))
  refine sV rfl (py_field tu38 rfl ts25 rfl rfl) (sV rfl (py_load tu25 rfl rfl (cell_atL (H25.box 0 rfl) rfl)) (s_appF (wn rfl) rfl tu25 Tryz_ty2 rfl rfl rfl H25 4 rfl (H25.seen 1 rfl) (by (try simp only [List.length_nil]); unfold maxLen; omega) (by (try simp only [List.length_nil]); omega) (fun v5 w22 fp5 H26 => ?_)))
  refine sV rfl (py_field tu38 rfl ts25 rfl rfl) ?_
  obtain ⟨a5, k5, q6⟩ := own_slice (H26.mine 4 rfl)
  cases q6
  refine s_sto (wn rfl) ts25 rfl rfl rfl H26 2 rfl rfl (fun w23 e16 H27 => ?_)
  dsimp only [lNA, lCA, lSZ, lSS, layL] at H27
  refine s_nil (W_sr (sV rfl (py_field tu38 rfl ts36 rfl rfl) (s_sto (wn rfl) ts36 rfl rfl rfl H27 2 rfl rfl (fun w24 e17 H28 => ?_))))
  dsimp only [lNA, lCA, lSZ, lSS, layL] at H28
  refine s_nil (W_seq (W_sr (sA rfl rfl (s_nil (W_block ?_)))))
  have H30 := H28.nilW (α := Tape)
  try dsimp only [lNA, lCA, lSZ, lSS] at H30
  refine W_loopB (α := Tape) (γ := Nat) (fun k => z.Tapes.take k) 0 H30 5 2 11 rfl rfl rfl rfl [(1, _), (2, _), (3, _)] ⟨rfl, rfl, rfl, trivial⟩ (fun k => [(9, .int .i64 k)]) (fun k => k ≤ z.Tapes.length ∧ True) (fun k => z.Tapes.length - k) ⟨rfl, trivial⟩ ⟨by omega, trivial⟩ (fun k vA4 fA4 w25 H29 ⟨hk, _⟩ => ?_)
  dsimp only [lCA, lNA, lSZ, lSS] at H29 ⊢
  refine W_seq (W_sr (sM rfl rfl (sV rfl (py_field tu38 rfl ts36 rfl rfl) (sV rfl (py_load tu36 rfl rfl (cell_atL (H29.box 0 rfl) rfl)) (sV rfl (py_len tu36 rfl) (sV rfl (py_lss rfl rfl) (s_nil (W_ifd rfl (fun c4 => ?_) (fun c4 => ?_)))))))))
  ·refine W_skip (W_seq (W_block ?_))
   have htk : szTape (z.Tapes.getD k default) ≤ 1048576 := (szL_get ht0 k (by omega)).1
   unfold szTape at htk
   have tlt := List.length_take (i := k) (l := z.Tapes)
   obtain ⟨eb9, eo13, es5, ef9, ee9, ec9, eO9, eH9, em6⟩ := elem_st (H29.seen 2 rfl) k (by omega)
   obtain ⟨ea9, ek9, eg5, rfl, eq5, eK5, eo14⟩ := own_Tape eO9
   have eP9 := H29.look1 2 rfl eo14 (fun b hb => eH9 b (by rw [eq5]; simp [hb]))
   have eL5 := oL eo14
   refine W_drw (S := Ext (· ∈ fA4) _) [(0, true), (1, true), (2, true), (3, true), (4, true), (5, true), (6, true), (7, true), (8, true), (9, true), (10, true), (11, true), (12, true), (13, true), (14, false), (15, true), (16, false), (17, false), (18, true), (19, false)] (by kernel_rfl) (by kernel_rfl) (by kernel_rfl) rfl (fun _ => Ext.refl.drawn _) (fun q7 => ?_)
   have H31 := eP9.drawn q7
   refine dV rfl rfl (fun zw hx => py_field tu38 rfl ts36 rfl rfl) (dV rfl rfl (fun zw hx => py_load tu36 rfl rfl (cell_atL (hx.heapM (H31.boff 2 rfl 5 rfl rfl) (H31.box 2 rfl)) rfl)) (dV rfl rfl (fun zw hx => py_field tu38 rfl ts36 rfl rfl) (dV rfl rfl (fun zw hx => py_load tu36 rfl rfl (cell_atL (hx.heapM (H31.boff 0 rfl 5 rfl rfl) (H31.box 0 rfl)) rfl)) (dM rfl rfl rfl (dV rfl rfl (fun zw hx => py_elz tu36 ts139 rfl rfl ee9 k (by omega) (by omega)) (dV rfl rfl (fun zw hx => py_field tu139 rfl ts4 rfl rfl) (dV rfl rfl (fun zw hx => py_load tu4 rfl rfl (at_cell (hx.atM (H31.off 2 rfl 5 rfl em6) ec9) 0 rfl)) (dV rfl rfl (fun zw hx => py_field tu38 rfl ts36 rfl rfl) (dV rfl rfl (fun zw hx => py_load tu36 rfl rfl (cell_atL (hx.heapM (H31.boff 0 rfl 5 rfl rfl) (H31.box 0 rfl)) rfl)) (dM rfl rfl rfl (dV rfl rfl (fun zw hx => py_elz tu36 ts139 rfl rfl ee9 k (by omega) (by omega)) (dV rfl rfl (fun zw hx => py_field tu139 rfl ts30 rfl rfl) (dV rfl rfl (fun zw hx => py_load tu30 rfl rfl (at_cell (hx.atM (H31.off 2 rfl 5 rfl em6) ec9) 1 rfl)) (d_call rfl (wn rfl) rfl rfl (pc_call Tryz.func94 rfl Tryz_nm94 rfl) (Tryz_spec_l5CopyRecs (H31.sees 3 rfl) (by first | assumption | omega)) (fun hS _ _ r _ => hS.trans r.1.no) (fun v6 w26 r2 => ?_)))))))))))))))
   obtain ⟨e18, r2⟩ := r2
   obtain ⟨fp6, H32⟩ := H31.res e18 r2
   obtain ⟨a6, k6, q8⟩ := own_slice (H32.mine 6 rfl)
   cases q8
   refine dV rfl rfl (fun zw hx => py_buildS Tryz_pl139 rfl rfl) (d_lit1 rfl (wn rfl) rfl tu36 Tryz_ty139 rfl rfl rfl rfl H32 (fun _ h e => h.trans e.no) (fun b10 w27 e19 g10 H33 => ?_))
   have H34 := H33.asSt 6 ((z.Tapes.getD k default) : Tape) rfl (Tape.own_mk (x := (z.Tapes.getD k default)) (by assumption) (H33.mine 6 rfl))
   try dsimp only [lNA, lCA, lSZ, lSS] at H34
   refine d_app2 rfl (wn rfl) rfl tu36 Tryz_ty139 rfl rfl rfl H34 5 7 6 rfl rfl rfl rfl (by unfold maxLen; omega) (by omega) (fun _ h e => h.trans e) (fun v7 w28 fp7 H35 => ?_)
   refine dV rfl rfl (fun zw hx => py_field tu38 rfl ts36 rfl rfl) ?_
   obtain ⟨a7, k7, q9⟩ := own_slice (H35.mine 5 rfl)
   cases q9
   refine d_sto rfl (wn rfl) ts36 rfl rfl rfl H35 2 rfl rfl (fun _ _ _ hr => absurd rfl hr) (fun w29 e20 H36 => ?_)
   dsimp only [lNA, lCA, lSZ, lSS, layL] at H36
   refine d_nil (W_reg (sM rfl rfl (sV rfl (py_add rfl rfl (in64 ⟨by omega, by omega⟩)) (sA rfl rfl (s_nil ?_)))))
   exact ⟨(k + 1, _, _), ⟨rfl, rfl, rfl, rfl, trivial⟩, ⟨by dsimp only; rw [← take_step (xs := z.Tapes) (d := default) (by omega)]; exact ((H36.ftake 3).dtake 6), by omega, trivial⟩, by dsimp only; omega⟩
  ·refine W_exit (W_seq ?_)
   obtain rfl : k = z.Tapes.length := by omega
   rw [List.take_length] at H29
   refine W_reg (sV rfl (py_loadS tu38 rfl ts38 rfl rfl (At.whole (H29.box 2 rfl))) ?_)
   obtain ⟨a8, k8, q10⟩ := own_slice (H29.mine 3 rfl)
   cases q10
   obtain ⟨a9, k9, q11⟩ := own_slice (H29.mine 5 rfl)
   cases q11
   refine s_stoS (wn rfl) ts38 rfl rfl rfl rfl H29 1 rfl rfl (fun w30 e21 H37 => ?_)
   dsimp only [lNA, lCA, lSZ, lSS, layL] at H37
   refine s_nil (W_ret (hQ _ _ (finC Tryz.results113 rfl (run_loadVarS tu38 rfl ts38 rfl (At.whole (H37.box 1 rfl))) ?_)))
   exact ⟨H37.ext, _, _, _, _, _, _, rfl, Wld.out (H37.sub (.cons _ (.cons _ (.cons _ (.cons_cons _ (.cons_cons _ (.cons_cons _ List.Sublist.slnil))))))) (by assumption)⟩
end Go.Wk
namespace Go.Wk
open Rp (sz own)
section
variable {z : Wld} {r : Rec} {g row : Int}
theorem dd_mem {r : Rec} : ∀ {rs out : List Rec}, r ∈ rs.foldl ddR out → r ∈ out ∨ r ∈ rs
  | [], _, h => .inl h
  | x :: rs, out, h => by
    rcases dd_mem (rs := rs) h with h | h
    · unfold ddR at h
      split at h
      · exact .inl h
      · rcases List.mem_append.1 h with h | h
        · exact .inl h
        · exact .inr (by rw [List.mem_singleton] at h; simp [h])
    · exact .inr (List.mem_cons_of_mem _ h)
theorem cnt_stable : Stable kLt keyR (dds (allR z z.Tapes.length)) (cntL z) := (stable_ex _).choose_spec
theorem cnt_mem (h : r ∈ cntL z) : ∃ k j, k < z.Tapes.length ∧ j < (z.Tapes.getD k default).Recs.length ∧ (z.Tapes.getD k default).Recs.getD j default = r := by
  have h1 : r ∈ dds (allR z z.Tapes.length) := cnt_stable.2.mem h
  rcases dd_mem h1 with h2 | h2
  · cases h2
  · unfold allR at h2
    rw [List.take_length] at h2
    obtain ⟨l, hl, hr⟩ := List.mem_flatten.1 h2
    obtain ⟨t, ht, rfl⟩ := List.mem_map.1 hl
    obtain ⟨k, hk, e⟩ := List.getElem_of_mem ht
    obtain ⟨j, hj, e2⟩ := List.getElem_of_mem hr
    have e3 : z.Tapes.getD k default = t := by rw [getD_el hk]; exact e
    exact ⟨k, j, hk, by rw [e3]; exact hj, by rw [e3, getD_el hj]; exact e2⟩
theorem cnt_sz (h : r ∈ cntL z) : szRec r ≤ szWld z := by
  obtain ⟨k, j, hk, hj, e⟩ := cnt_mem h
  have h1 := (szL_get (f := szTape) (Nat.le_refl _) k hk).1
  have h2 := (szL_get (f := szRec) (Nat.le_refl _) j hj).1
  rw [e] at h2
  have h3 : szTape (z.Tapes.getD k default) = szL szRec (z.Tapes.getD k default).Recs := rfl
  unfold szWld
  omega
theorem opR_mem (h : 0 ≤ shLast z g row) : opR z g row ∈ cntL z := by
  have hb := lastI_bd (p := shP g row) (rs := cntL z)
  unfold opR
  rw [if_pos h, getD_el (by unfold shLast at *; omega)]
  exact List.getElem_mem _
theorem opR_sz : szRec (opR z g row) ≤ szWld z := by
  by_cases h : 0 ≤ shLast z g row
  · exact cnt_sz (opR_mem h)
  · unfold opR; rw [if_neg h]; exact Nat.zero_le _
end
end Go.Wk
namespace Go.Wk
open Rp (sz own)
def voidAt (z : Wld) (r : Rec) (k : Nat) : Bool := decide (((r.Delta.getD k 0).toNat : Int) ≠ 0) && (!decide ((k : Int) ∈ r.Rows) && deadF z k)
def vbTo (z : Wld) (r : Rec) : Nat → Bool
  | 0 => !deadF z r.Group
  | k + 1 => vbTo z r k || voidAt z r k
def isVoid (z : Wld) (r : Rec) : Bool := vbTo z r r.Delta.length
section
variable {z : Wld} {r : Rec} {k n : Nat}
theorem vb_mono (h : vbTo z r k = true) : ∀ {n}, k ≤ n → vbTo z r n = true
  | 0, h1 => by rw [show k = 0 by omega] at h; exact h
  | n + 1, h1 => by
    by_cases e : k = n + 1
    · rw [← e]; exact h
    · rw [vbTo, vb_mono h (by omega)]; rfl
theorem void_alive (h : deadF z r.Group = false) : isVoid z r = true := vb_mono (k := 0) (by rw [vbTo, h]; rfl) (Nat.zero_le _)
theorem void_at (hk : k < r.Delta.length) (h : voidAt z r k = true) : isVoid z r = true := vb_mono (k := k + 1) (by rw [vbTo, h, Bool.or_true]) hk
theorem vb_no (h : deadF z r.Group = true) (h2 : ∀ i, i < n → voidAt z r i = false) : vbTo z r n = false := by
  induction n with
  | zero => rw [vbTo, h]; rfl
  | succ n ih => rw [vbTo, ih fun i hi => h2 i (by omega), h2 n (by omega)]; rfl
theorem void_no (h : deadF z r.Group = true) (h2 : ∀ i, i < r.Delta.length → voidAt z r i = false) : isVoid z r = false := vb_no h h2
end
noncomputable def vR (z : Wld) (g : Int) : Nat → List Rec
  | 0 => []
  | j + 1 => if opOK z g j = true ∧ isVoid z (opR z g j) = true then vR z g j ++ [opR z g j] else vR z g j
noncomputable def vG (z : Wld) : Nat → List Rec
  | 0 => []
  | k + 1 => vG z k ++ vR z k z.Shape.Rows.toNat
noncomputable def voids (z : Wld) : List Rec := vG z (z.Shape.Groups + z.Shape.Column).toNat
noncomputable def vTo (z : Wld) (k j : Nat) : List Rec := vG z k ++ vR z k j
section
variable {z : Wld} {r : Rec} {g row : Int} {k j : Nat}
theorem vTo_zero : vTo z k 0 = vG z k := List.append_nil _
theorem vTo_end (h : j = z.Shape.Rows.toNat) : vTo z k j = vG z (k + 1) := by subst h; rfl
theorem vTo_yes (h : opOK z k j = true) (h2 : isVoid z (opR z k j) = true) : vTo z k (j + 1) = vTo z k j ++ [opR z k j] := by
  unfold vTo; rw [vR, if_pos ⟨h, h2⟩, List.append_assoc]
theorem vTo_no (h : opOK z k j = false ∨ isVoid z (opR z k j) = false) : vTo z k (j + 1) = vTo z k j := by
  unfold vTo; rw [vR, if_neg]
  rintro ⟨a, b⟩
  rcases h with h | h
  · rw [h] at a; cases a
  · rw [h] at b; cases b
theorem vR_len : ∀ j, (vR z g j).length ≤ j
  | 0 => Nat.le_refl _
  | j + 1 => by
    have := vR_len j
    rw [vR]; split
    · simp; omega
    · omega
theorem vG_len (h : z.Shape.Rows ≤ 6) : ∀ k, (vG z k).length ≤ 6 * k
  | 0 => Nat.le_refl _
  | k + 1 => by
    have h1 := vG_len h k
    have h2 := vR_len (z := z) (g := k) z.Shape.Rows.toNat
    rw [vG, List.length_append]; omega
theorem vTo_len (h : z.Shape.Rows ≤ 6) : (vTo z k j).length ≤ 6 * k + j := by
  have h1 := vG_len h k
  have h2 := vR_len (z := z) (g := k) j
  unfold vTo; rw [List.length_append]; omega
theorem op_last (h : opOK z g row = true) : 0 ≤ shLast z g row := by
  unfold opOK at h; simp only [Bool.and_eq_true, decide_eq_true_eq] at h; exact h.1
theorem opR_shP (h : opOK z g row = true) : (opR z g row).Kind = 4 ∧ (opR z g row).Group = g ∧ (opR z g row).Row = row := by
  have h1 := op_last h
  unfold opR; rw [if_pos h1]
  exact shP_kind (lastTo_get h1)
theorem cnt_recF (h : worldF z = 0) (hr : r ∈ cntL z) : recF z.Shape r = 0 := by
  obtain ⟨k, j, hk, hj, e⟩ := cnt_mem hr
  have ht := (worldF_ok h).2.2.2.2
  rcases Decidable.em (recF z.Shape r = 0) with c | c
  · exact c
  · exfalso
    have h0 : tapeF z.Shape z.Tapes z.Tapes.length = 0 := by
      unfold tapesF at ht
      split at ht
      · cases ht
      · split at ht
        · next c2 => exact absurd ht c2
        · omega
    have hk0 : tapeF z.Shape z.Tapes (k + 1) = 0 := by
      rcases Decidable.em (tapeF z.Shape z.Tapes (k + 1) = 0) with c2 | c2
      · exact c2
      · rw [tapeF_stay c2 _ hk] at h0; exact absurd h0 c2
    have hk1 : tapeF z.Shape z.Tapes k = 0 := by
      rcases Decidable.em (tapeF z.Shape z.Tapes k = 0) with c2 | c2
      · exact c2
      · rw [tapeF_stay c2 _ (Nat.le_succ k)] at hk0; exact absurd hk0 c2
    rw [tapeF_next hk1] at hk0
    have hj0 : recsF z.Shape (z.Tapes.getD k default).Recs (j + 1) = 0 := by
      rcases Decidable.em (recsF z.Shape (z.Tapes.getD k default).Recs (j + 1) = 0) with c2 | c2
      · exact c2
      · rw [recsF_stay c2 _ hj] at hk0; exact absurd hk0 c2
    have hj1 : recsF z.Shape (z.Tapes.getD k default).Recs j = 0 := by
      rcases Decidable.em (recsF z.Shape (z.Tapes.getD k default).Recs j = 0) with c2 | c2
      · exact c2
      · rw [recsF_stay c2 _ (Nat.le_succ j)] at hj0; exact absurd hj0 c2
    rw [recsF_next hj1, e] at hj0
    exact c hj0
theorem recF_share {s : Shape} (h : recF s r = 0) (hk : r.Kind = 4) : shareOK s r = true := by
  have hi : ins r.Kind 1 4 = true := by rw [hk]; rfl
  unfold recF at h
  rw [if_pos hi] at h
  split at h
  · split at h
    · next c => exact absurd h c
    · next c =>
      have c2 : kindF s r = 0 := by omega
      rw [kindF_share hk] at c2
      split at c2
      · next e => exact e
      · cases c2
  · cases h
theorem op_share (h : worldF z = 0) (h2 : opOK z g row = true) : ((opR z g row).Delta.length : Int) = z.Shape.Groups + z.Shape.Column := by
  have h1 := recF_share (cnt_recF h (opR_mem (op_last h2))) (opR_shP h2).1
  unfold shareOK weightsOK at h1
  simp only [Bool.and_eq_true, decide_eq_true_eq] at h1
  exact h1.2.1.1
theorem voids_len (h : worldF z = 0) : (voids z).length ≤ 36 := by
  have := shape_bd (worldF_ok h).1
  have h1 := vG_len (z := z) (by omega) (z.Shape.Groups + z.Shape.Column).toNat
  unfold voids; omega
end
end Go.Wk
namespace Go.Wk
section
variable {M : Nat → Prop} {w0 w : World} {Δ F : List Rsc}
theorem Sep.shareB (h : Sep M w0 Δ F w) (i : Nat) {b : Nat} {o : Obj} (hi : Δ[i]? = some (Wk.box b o)) : Sep M w0 (Δ.set i gone) (F ++ [Wk.box b o]) w := by
  have hnm := not_mem_set hi h.nd
  have h' : Sep M w0 (Δ.set i gone) F w := by
    refine ⟨h.ext, fun p hp => ?_, nodup_set hi h.nd (by simp [gone]) (by simp [gone]), fun b hb => ?_, h.fs, fun p hp b hb hx => ?_⟩
    · rcases set_other hi h.nd p hp with rfl | ⟨hp, _⟩
      · trivial
      · exact h.rs p hp
    · rcases blocks_set hi b hb with hb | hb
      · simp [gone] at hb
      · exact h.new b hb
    · rcases blocks_set hi b hx with hx | hx
      · simp [gone] at hx
      · exact h.ap p hp b hb hx
  exact h'.look (r := Wk.box b o) (h.box i hi) hnm
theorem Sep.swap2 {a b : Rsc} (h : Sep M w0 [a, b] F w) : Sep M w0 [b, a] F w := h.perm (.swap _ _ _)
end
end Go.Wk
namespace Go.Wk
open Go.Proofs Rp
set_option maxRecDepth 10000
theorem Tryz_impl_World_isVoid {w : World} {zb zC9 zC10 zC11 rC6 rC7 rC8 : Nat} {z : Wld} {zA9 zA10 zA11 rA6 rA7 rA8 : Option Addr} {zF9 zF10 zF11 : List Nat} {r : Rec} (zB : w.heap[zb]? = some (.cells [.int .i64 z.Shape.Groups, .int .i64 z.Shape.Column, .int .i64 z.Shape.Data, .int .i64 z.Shape.Spare, .int .i64 z.Shape.Rows, .int .i64 z.Shape.Cap, .int .i64 z.Shape.Batch, .int .i64 z.Shape.Queue, .int .i64 z.Shape.Stage, .slice zA9 z.Groups.length zC9, .slice zA10 z.On.length zC10, .slice zA11 z.Tapes.length zC11, .int .i64 z.Writes, .int .i64 z.Stop, .bool z.Down].toArray 38)) (zK : z.Ok) (zO9 : own false w [.slice zA9 z.Groups.length zC9] z.Groups zF9) (zO10 : own false w [.slice zA10 z.On.length zC10] z.On zF10) (zO11 : own false w [.slice zA11 z.Tapes.length zC11] z.Tapes zF11) (rK : r.Ok) (rS6 : Sees w [.slice rA6 r.Rows.length rC6] r.Rows) (rS7 : Sees w [.slice rA7 r.Data.length rC7] r.Data) (rS8 : Sees w [.slice rA8 r.Delta.length rC8] r.Delta) (hs : z.Shape.ok = true) (hG : groupsOK z = true) (hd : (r.Delta.length : Int) = z.Shape.Groups + z.Shape.Column) (hg : ins r.Group 0 (z.Shape.Groups + z.Shape.Column - 1) = true)  : Ret Tryz.prog 165 #[.pointer (some ⟨zb, 0, none⟩), r.val rA6 rC6 rA7 rC7 rA8 rC8] w fun v w' => Ext No w w' ∧ (v = .bool (isVoid z r)) := by
 have zK2 := zK
 unfold Wld.Ok Shape.Ok at zK2
 try unfold I64ok at zK2
 try unfold maxLen at zK2
 have zL9 := oL zO9
 have zL10 := oL zO10
 have zL11 := oL zO11
 have rK2 := rK
 unfold Rec.Ok at rK2
 try unfold I64ok at rK2
 try unfold maxLen at rK2
 have rN2 : r.Name.size ≤ maxLen := by unfold maxLen; omega
 have rL6 := sL rS6
 obtain ⟨rF6, rO6⟩ := rS6
 have rL7 := sL rS7
 obtain ⟨rF7, rO7⟩ := rS7
 have rL8 := sL rS8
 obtain ⟨rF8, rO8⟩ := rS8
 have sbd := shape_bd hs
 refine ret_Q (vs := [.pointer (some ⟨zb, 0, none⟩), r.val rA6 rC6 rA7 rC7 rA8 rC8]) Tryz.func165 rfl Tryz.ntmps165 rfl (fun Q hQ hN => ?_)
 have H0 := Sep.start (w := w) (F := [box zb (.cells [.int .i64 z.Shape.Groups, .int .i64 z.Shape.Column, .int .i64 z.Shape.Data, .int .i64 z.Shape.Spare, .int .i64 z.Shape.Rows, .int .i64 z.Shape.Cap, .int .i64 z.Shape.Batch, .int .i64 z.Shape.Queue, .int .i64 z.Shape.Stage, .slice zA9 z.Groups.length zC9, .slice zA10 z.On.length zC10, .slice zA11 z.Tapes.length zC11, .int .i64 z.Writes, .int .i64 z.Stop, .bool z.Down].toArray 38), seen false [.slice zA9 z.Groups.length zC9] z.Groups zF9, seen false [.slice zA10 z.On.length zC10] z.On zF10, seen false [.slice zA11 z.Tapes.length zC11] z.Tapes zF11, seen false [.slice rA6 r.Rows.length rC6] r.Rows rF6, seen false [.slice rA7 r.Data.length rC7] r.Data rF7, seen false [.slice rA8 r.Delta.length rC8] r.Delta rF8]) (all_cons (by exact zB) (all_cons zO9 (all_cons zO10 (all_cons zO11 (all_cons rO6 (all_cons rO7 (all_cons rO8 (by simp))))))))
 refine W_sr (s_box (wn rfl) rfl rfl H0 (fun b1 w1 e1 g1 H1 => ?_))
 refine sA rfl rfl (s_nil (W_seq (W_sr (sM rfl rfl (sV rfl (py_field tu68 rfl ts2 rfl rfl) (sV rfl (py_load tu2 rfl rfl (cell_atL (H1.box 0 rfl) rfl)) (s_call (wn rfl) rfl rfl (pc_call Tryz.func101 rfl Tryz_nm101 rfl) (Tryz_impl_World_dead (H1.fbox 0 rfl) (by assumption) (H1.sees 1 rfl) (H1.sees 2 rfl) (H1.sees 3 rfl) (by assumption) (by assumption) (by assumption)) (fun v1 w2 r1 => ?_))))))))
 obtain ⟨e2, rfl⟩ := r1
 have H2 := H1.to e2
 refine sV rfl (py_not rfl) (s_nil (W_if rfl (fun c1 => ?_) (fun c1 => ?_)))
 ·refine W_sr (sA rfl rfl (s_nil (rT hQ Tryz.results165 rfl ?_)))
  exact ⟨H2.ext, congrArg Value.bool (void_alive (by simpa using c1)).symm⟩
 ·refine W_skip (W_seq (W_sr (sV rfl (py_field tu68 rfl ts45 rfl rfl) (sV rfl (py_load tu45 rfl rfl (cell_atL (H2.box 0 rfl) rfl)) (sV rfl (py_len tu45 rfl) (sM rfl rfl (s_nil (W_block (W_loopS (γ := Nat) H2 [(0, _), (3, _), (13, _), (14, _)] ⟨rfl, rfl, rfl, rfl, trivial⟩ (fun k => [(15, .int .i64 k)]) (fun k => k ≤ r.Delta.length ∧ (∀ i, i < k → voidAt z r i = false)) (fun k => r.Delta.length - k) 0 ⟨rfl, trivial⟩ ⟨by omega, fun i hi => by omega⟩ (fun k w3 H3 ⟨hk, he⟩ => ?_))))))))))
  dsimp only [lCA, lNA]
  refine W_sr (sV rfl (py_lss rfl rfl) (s_nil (W_seq (W_ifd rfl (fun c2 => ?_) (fun c2 => ?_)))))
  ·refine W_skip (W_seq (W_block (W_seq ?_)))
   obtain ⟨eb1, eo1, ee1, ec1⟩ := elem_u8 (H3.seen 6 rfl) k (by omega)
   refine W_reg (sM rfl rfl (sV rfl (py_elz tu45 ts5 rfl rfl ee1 k (by omega) (by omega)) (sV rfl (py_load tu5 rfl rfl ec1) (sA rfl rfl (sA rfl rfl (s_nil (W_seq ?_)))))))
   have hgk : ins (k : Int) 0 (z.Shape.Groups + z.Shape.Column - 1) = true := ins_iff.2 (by omega)
   refine W_reg (sM rfl rfl (sV rfl (py_neq rfl rfl) (sM rfl rfl (s_grp 5 (j := 2) (want := true) (t := 27) rfl rfl rfl rfl (fun hg1 kk1 => s_val (wgE rfl rfl rfl hg1) rfl rfl (py_field tu68 rfl ts25 rfl rfl) (s_val (wgE rfl rfl rfl hg1) rfl rfl (py_load tu25 rfl rfl (cell_atL (H3.box 0 rfl) rfl)) (s_val (wgE rfl rfl rfl hg1) rfl rfl (py_move rfl) (s_callv (wgE rfl rfl rfl hg1) rfl rfl (pc_call Tryz.func243 rfl Tryz_nm243 rfl) (Tryz_slices_Contains_int64_int64 (H3.sees 4 rfl)) (fun w5 e4 => s_val (wgE rfl rfl rfl hg1) rfl rfl (py_not rfl) (kk1 _ _ (kx rfl (kx rfl (kx rfl (kx rfl (kx rfl k0))))) rfl (Ext.refl.trans e4))))))) (fun w4 e3 => ?_)))))
   have H4 := H3.to e3
   refine sV rfl (py_band rfl rfl) (sM rfl rfl (s_grp 3 (j := 9) (want := true) (t := 32) rfl rfl rfl rfl (fun hg2 kk2 => s_val (wgE rfl rfl rfl hg2) rfl rfl (py_move rfl) (s_val (wgE rfl rfl rfl hg2) rfl rfl (py_move rfl) (s_callv (wgE rfl rfl rfl hg2) rfl rfl (pc_call Tryz.func101 rfl Tryz_nm101 rfl) (Tryz_impl_World_dead (H4.fbox 0 rfl) (by assumption) (H4.sees 1 rfl) (H4.sees 2 rfl) (H4.sees 3 rfl) (by assumption) (by assumption) (by assumption)) (fun w7 e6 => kk2 _ _ (kx rfl (kx rfl (kx rfl k0))) rfl (Ext.refl.trans e6))))) (fun w6 e5 => ?_)))
   have H5 := H4.to e5
   refine sV rfl (py_band rfl rfl) (s_nil (W_if rfl (fun c3 => ?_) (fun c3 => ?_)))
   ·refine W_sr (sA rfl rfl (s_nil (rT hQ Tryz.results165 rfl ?_)))
    exact ⟨H5.ext, congrArg Value.bool (void_at (k := k) (by omega) (by have hc := c3; simpa [voidAt, Bool.and_assoc] using hc)).symm⟩
   ·refine W_skip (W_reg (sV rfl (py_add rfl rfl (in64 ⟨by omega, by omega⟩)) (sM rfl rfl (s_nil (⟨k + 1, ⟨rfl, rfl, rfl, rfl, rfl, trivial⟩, ⟨H5, by omega, fun i hi => ?_⟩, by dsimp only; omega⟩)))))
    by_cases e : i = k
    ·subst e
     have hc := c3
     simpa [voidAt, Bool.and_assoc] using hc
    ·exact he i (by omega)
  ·refine W_exit (W_sr (sA rfl rfl (s_nil (rT hQ Tryz.results165 rfl ?_))))
   exact ⟨H3.ext, congrArg Value.bool (void_no (by simpa using c1) (fun i hi => he i (by omega))).symm⟩
theorem Tryz_impl_World_voidShares_1 {w : World} {zb zC9 zC10 zC11 xC6 xC7 xC8 : Nat} {z : Wld} {zA9 zA10 zA11 xA6 xA7 xA8 : Option Addr} {zF9 zF10 zF11 : List Nat} {x : Rec} {M : Nat → Prop} {w0 : World} {bw bl : Nat} {v0 : Value} {xs : List Rec} {fo fr : List Nat} (zB : w.heap[zb]? = some (.cells [.int .i64 z.Shape.Groups, .int .i64 z.Shape.Column, .int .i64 z.Shape.Data, .int .i64 z.Shape.Spare, .int .i64 z.Shape.Rows, .int .i64 z.Shape.Cap, .int .i64 z.Shape.Batch, .int .i64 z.Shape.Queue, .int .i64 z.Shape.Stage, .slice zA9 z.Groups.length zC9, .slice zA10 z.On.length zC10, .slice zA11 z.Tapes.length zC11, .int .i64 z.Writes, .int .i64 z.Stop, .bool z.Down].toArray 38)) (zK : z.Ok) (zO9 : own false w [.slice zA9 z.Groups.length zC9] z.Groups zF9) (zO10 : own false w [.slice zA10 z.On.length zC10] z.On zF10) (zO11 : own false w [.slice zA11 z.Tapes.length zC11] z.Tapes zF11) (xK : x.Ok) (H0 : Sep M w0 [box bl (.cells [v0].toArray 30), mine [v0] xs fo, mine [.int .i64 x.Kind, .int .i64 x.Seq, .string x.Name, .int .i64 x.Length, .int .i64 x.Group, .int .i64 x.Row, .slice xA6 x.Rows.length xC6, .slice xA7 x.Data.length xC7, .slice xA8 x.Delta.length xC8] x fr] [box zb (.cells [.int .i64 z.Shape.Groups, .int .i64 z.Shape.Column, .int .i64 z.Shape.Data, .int .i64 z.Shape.Spare, .int .i64 z.Shape.Rows, .int .i64 z.Shape.Cap, .int .i64 z.Shape.Batch, .int .i64 z.Shape.Queue, .int .i64 z.Shape.Stage, .slice zA9 z.Groups.length zC9, .slice zA10 z.On.length zC10, .slice zA11 z.Tapes.length zC11, .int .i64 z.Writes, .int .i64 z.Stop, .bool z.Down].toArray 38), seen false [.slice zA9 z.Groups.length zC9] z.Groups zF9, seen false [.slice zA10 z.On.length zC10] z.On zF10, seen false [.slice zA11 z.Tapes.length zC11] z.Tapes zF11, box bw (.cells [.pointer (some ⟨zb, 0, none⟩)].toArray 82)] w) (hs : z.Shape.ok = true) (hG : groupsOK z = true) (hd : (x.Delta.length : Int) = z.Shape.Groups + z.Shape.Column) (hg : ins x.Group 0 (z.Shape.Groups + z.Shape.Column - 1) = true) (hl : xs.length ≤ 1000) : Ret Tryz.prog 164 #[x.val xA6 xC6 xA7 xC7 xA8 xC8, .pointer (some ⟨bw, 0, none⟩), .pointer (some ⟨bl, 0, none⟩)] w fun v w' => (v = .int .i64 0 ∧ ∃ v' f', Sep M w0 [box bl (.cells [v'].toArray 30), mine [v'] (if isVoid z x = true then xs ++ [x] else xs) f'] [box zb (.cells [.int .i64 z.Shape.Groups, .int .i64 z.Shape.Column, .int .i64 z.Shape.Data, .int .i64 z.Shape.Spare, .int .i64 z.Shape.Rows, .int .i64 z.Shape.Cap, .int .i64 z.Shape.Batch, .int .i64 z.Shape.Queue, .int .i64 z.Shape.Stage, .slice zA9 z.Groups.length zC9, .slice zA10 z.On.length zC10, .slice zA11 z.Tapes.length zC11, .int .i64 z.Writes, .int .i64 z.Stop, .bool z.Down].toArray 38), seen false [.slice zA9 z.Groups.length zC9] z.Groups zF9, seen false [.slice zA10 z.On.length zC10] z.On zF10, seen false [.slice zA11 z.Tapes.length zC11] z.Tapes zF11, box bw (.cells [.pointer (some ⟨zb, 0, none⟩)].toArray 82)] w') := by
 have zK2 := zK
 unfold Wld.Ok Shape.Ok at zK2
 try unfold I64ok at zK2
 try unfold maxLen at zK2
 have zL9 := oL zO9
 have zL10 := oL zO10
 have zL11 := oL zO11
 refine ret_Q (vs := [x.val xA6 xC6 xA7 xC7 xA8 xC8, .pointer (some ⟨bw, 0, none⟩), .pointer (some ⟨bl, 0, none⟩)]) Tryz.func164 rfl Tryz.ntmps164 rfl (fun Q hQ hN => ?_)
 skip
 refine W_sr (s_box (wn rfl) rfl rfl H0 (fun b1 w1 e1 g1 H1 => ?_))
 refine sA rfl rfl (s_nil (W_seq (W_sr (sV rfl (py_load tu82 rfl rfl (cell_atL (H1.fbox 4 rfl) rfl)) (sV rfl (py_loadS tu68 rfl ts68 rfl rfl (At.whole (H1.box 3 rfl))) (s_call (wn rfl) rfl rfl (pc_call Tryz.func165 rfl Tryz_nm165 rfl) (Tryz_impl_World_isVoid (H1.fbox 0 rfl) (by assumption) (own_weak (H1.seen 1 rfl)) (own_weak (H1.seen 2 rfl)) (own_weak (H1.seen 3 rfl)) (by assumption) (Rec.see6 (H1.mine 2 rfl)) (Rec.see7 (H1.mine 2 rfl)) (Rec.see8 (H1.mine 2 rfl)) (by assumption) (by assumption) (by first | assumption | omega) (by assumption)) (fun v1 w2 r1 => ?_)))))))
 obtain ⟨e2, rfl⟩ := r1
 have H2 := H1.to e2
 refine s_nil (W_if rfl (fun c1 => ?_) (fun c1 => ?_))
 ·refine W_reg (sV rfl (py_load tu30 rfl rfl (cell_atL (H2.box 0 rfl) rfl)) (sV rfl (py_loadS tu68 rfl ts68 rfl rfl (At.whole (H2.box 3 rfl))) (s_lit1 (wn rfl) rfl tu30 Tryz_ty68 rfl rfl rfl rfl H2 (fun b2 w3 e3 g2 H3 => ?_))))
  refine s_app2 (wn rfl) rfl tu30 Tryz_ty68 rfl rfl rfl H3 1 4 2 rfl rfl rfl rfl (by unfold maxLen; omega) (by omega) (fun v2 w4 fp1 H4 => ?_)
  obtain ⟨a1, k1, q1⟩ := own_slice (H4.mine 1 rfl)
  cases q1
  refine s_sto (wn rfl) ts30 rfl rfl rfl H4 0 rfl rfl (fun w5 e4 H5 => ?_)
  dsimp only [lNA, lCA, lSZ, lSS, layL] at H5
  refine s_nil (W_sr (sA rfl rfl (s_nil (rT hQ Tryz.results164 rfl ?_))))
  have hz := H5.dtake 2
  rw [if_pos c1]
  exact ⟨rfl, _, _, hz⟩
 ·refine W_skip (W_sr (sA rfl rfl (s_nil (rT hQ Tryz.results164 rfl ?_))))
  have hz := H2.dtake 2
  rw [if_neg (by simp [c1])]
  exact ⟨rfl, _, _, hz⟩
theorem Tryz_impl_World_openShares {w : World} {zb zC9 zC10 zC11 : Nat} {z : Wld} {zA9 zA10 zA11 : Option Addr} {zF9 zF10 zF11 : List Nat} {M : Nat → Prop} {w0 : World} {bw bl : Nat} {v0 : Value} {fo : List Nat} (zB : w.heap[zb]? = some (.cells [.int .i64 z.Shape.Groups, .int .i64 z.Shape.Column, .int .i64 z.Shape.Data, .int .i64 z.Shape.Spare, .int .i64 z.Shape.Rows, .int .i64 z.Shape.Cap, .int .i64 z.Shape.Batch, .int .i64 z.Shape.Queue, .int .i64 z.Shape.Stage, .slice zA9 z.Groups.length zC9, .slice zA10 z.On.length zC10, .slice zA11 z.Tapes.length zC11, .int .i64 z.Writes, .int .i64 z.Stop, .bool z.Down].toArray 38)) (zK : z.Ok) (zO9 : own false w [.slice zA9 z.Groups.length zC9] z.Groups zF9) (zO10 : own false w [.slice zA10 z.On.length zC10] z.On zF10) (zO11 : own false w [.slice zA11 z.Tapes.length zC11] z.Tapes zF11) (H0 : Sep M w0 [box bl (.cells [v0].toArray 30), mine [v0] ([] : List Rec) fo] [box zb (.cells [.int .i64 z.Shape.Groups, .int .i64 z.Shape.Column, .int .i64 z.Shape.Data, .int .i64 z.Shape.Spare, .int .i64 z.Shape.Rows, .int .i64 z.Shape.Cap, .int .i64 z.Shape.Batch, .int .i64 z.Shape.Queue, .int .i64 z.Shape.Stage, .slice zA9 z.Groups.length zC9, .slice zA10 z.On.length zC10, .slice zA11 z.Tapes.length zC11, .int .i64 z.Writes, .int .i64 z.Stop, .bool z.Down].toArray 38), seen false [.slice zA9 z.Groups.length zC9] z.Groups zF9, seen false [.slice zA10 z.On.length zC10] z.On zF10, seen false [.slice zA11 z.Tapes.length zC11] z.Tapes zF11, box bw (.cells [.pointer (some ⟨zb, 0, none⟩)].toArray 82)] w) (hw : worldF z = 0) (hb : szWld z ≤ 1048576) : Ret Tryz.prog 163 #[.pointer (some ⟨zb, 0, none⟩), .func (.func 164) #[] #[.pointer (some ⟨bw, 0, none⟩), .pointer (some ⟨bl, 0, none⟩)]] w fun v w' => (v = .int .i64 0 ∧ ∃ v' f', Sep M w0 [box bl (.cells [v'].toArray 30), mine [v'] (voids z) f'] [box zb (.cells [.int .i64 z.Shape.Groups, .int .i64 z.Shape.Column, .int .i64 z.Shape.Data, .int .i64 z.Shape.Spare, .int .i64 z.Shape.Rows, .int .i64 z.Shape.Cap, .int .i64 z.Shape.Batch, .int .i64 z.Shape.Queue, .int .i64 z.Shape.Stage, .slice zA9 z.Groups.length zC9, .slice zA10 z.On.length zC10, .slice zA11 z.Tapes.length zC11, .int .i64 z.Writes, .int .i64 z.Stop, .bool z.Down].toArray 38), seen false [.slice zA9 z.Groups.length zC9] z.Groups zF9, seen false [.slice zA10 z.On.length zC10] z.On zF10, seen false [.slice zA11 z.Tapes.length zC11] z.Tapes zF11, box bw (.cells [.pointer (some ⟨zb, 0, none⟩)].toArray 82)] w') := by
 have zK2 := zK
 unfold Wld.Ok Shape.Ok at zK2
 try unfold I64ok at zK2
 try unfold maxLen at zK2
 have zL9 := oL zO9
 have zL10 := oL zO10
 have zL11 := oL zO11
 have hs := (worldF_ok hw).1
 have hG := (worldF_ok hw).2.1
 have hT := (worldF_ok hw).2.2.2.1
 have hrl := recs_bd hw
 have sbd := shape_bd hs
 refine ret_Q (vs := [.pointer (some ⟨zb, 0, none⟩), .func (.func 164) #[] #[.pointer (some ⟨bw, 0, none⟩), .pointer (some ⟨bl, 0, none⟩)]]) Tryz.func163 rfl Tryz.ntmps163 rfl (fun Q hQ hN => ?_)
 skip
 refine W_sr (sA rfl rfl (s_nil (W_seq (W_sr (sM rfl rfl (sV rfl (py_nil rfl) (sV rfl (py_field tu38 rfl ts34 rfl rfl) (sV rfl (py_loadS tu34 rfl ts34 rfl rfl (At.sub (H0.fbox 0 rfl) 9)) (s_call (wn rfl) rfl rfl (pc_call Tryz.func100 rfl Tryz_nm100 rfl) (Tryz_impl_Shape_all (by assumption)) (fun v1 w1 r1 => ?_))))))))))
 obtain ⟨e1, rfl⟩ := r1
 have H1 := H0.to e1
 refine sM rfl rfl (s_nil (W_block (W_loop (γ := Nat × Value × List Nat) (fun (k, vv, f) => [(0, .pointer (some ⟨zb, 0, none⟩)), (1, .func (.func 164) #[] #[.pointer (some ⟨bw, 0, none⟩), .pointer (some ⟨bl, 0, none⟩)]), (14, .int .i64 (z.Shape.Groups + z.Shape.Column)), (15, .int .i64 k)]) (fun (k, vv, f) w' => Sep M w0 [box bl (.cells [vv].toArray 30), mine [vv] (vG z k) f] [box zb (.cells [.int .i64 z.Shape.Groups, .int .i64 z.Shape.Column, .int .i64 z.Shape.Data, .int .i64 z.Shape.Spare, .int .i64 z.Shape.Rows, .int .i64 z.Shape.Cap, .int .i64 z.Shape.Batch, .int .i64 z.Shape.Queue, .int .i64 z.Shape.Stage, .slice zA9 z.Groups.length zC9, .slice zA10 z.On.length zC10, .slice zA11 z.Tapes.length zC11, .int .i64 z.Writes, .int .i64 z.Stop, .bool z.Down].toArray 38), seen false [.slice zA9 z.Groups.length zC9] z.Groups zF9, seen false [.slice zA10 z.On.length zC10] z.On zF10, seen false [.slice zA11 z.Tapes.length zC11] z.Tapes zF11, box bw (.cells [.pointer (some ⟨zb, 0, none⟩)].toArray 82)] w' ∧ k ≤ (z.Shape.Groups + z.Shape.Column).toNat) (fun (k, vv, f) => (z.Shape.Groups + z.Shape.Column).toNat - k) (0, v0, fo) ⟨rfl, rfl, rfl, rfl, trivial⟩ ⟨H1, by omega⟩ (fun (k, vv, f) w2 H2 => ?_))))
 obtain ⟨H2, hk⟩ := H2
 refine W_sr (sV rfl (py_lss rfl rfl) (s_nil (W_seq (W_ifd rfl (fun c1 => ?_) (fun c1 => ?_)))))
 ·refine W_skip (W_seq (W_block (W_sr (sM rfl rfl (sA rfl rfl (s_nil (W_sr (sM rfl rfl (sV rfl (py_nil rfl) (sV rfl (py_field tu38 rfl ts34 rfl rfl) (sV rfl (py_field tu34 rfl ts2 rfl rfl) (sV rfl (py_load tu2 rfl rfl (cell_atL (H2.fbox 0 rfl) rfl)) (sM rfl rfl (s_nil (W_block (W_loop (γ := Nat × Value × List Nat) (fun (j, vv, f) => [(0, .pointer (some ⟨zb, 0, none⟩)), (1, .func (.func 164) #[] #[.pointer (some ⟨bw, 0, none⟩), .pointer (some ⟨bl, 0, none⟩)]), (14, .int .i64 (z.Shape.Groups + z.Shape.Column)), (15, .int .i64 k), (5, .int .i64 k), (22, .int .i64 z.Shape.Rows), (23, .int .i64 j)]) (fun (j, vv, f) w' => Sep M w0 [box bl (.cells [vv].toArray 30), mine [vv] (vTo z k j) f] [box zb (.cells [.int .i64 z.Shape.Groups, .int .i64 z.Shape.Column, .int .i64 z.Shape.Data, .int .i64 z.Shape.Spare, .int .i64 z.Shape.Rows, .int .i64 z.Shape.Cap, .int .i64 z.Shape.Batch, .int .i64 z.Shape.Queue, .int .i64 z.Shape.Stage, .slice zA9 z.Groups.length zC9, .slice zA10 z.On.length zC10, .slice zA11 z.Tapes.length zC11, .int .i64 z.Writes, .int .i64 z.Stop, .bool z.Down].toArray 38), seen false [.slice zA9 z.Groups.length zC9] z.Groups zF9, seen false [.slice zA10 z.On.length zC10] z.On zF10, seen false [.slice zA11 z.Tapes.length zC11] z.Tapes zF11, box bw (.cells [.pointer (some ⟨zb, 0, none⟩)].toArray 82)] w' ∧ j ≤ z.Shape.Rows.toNat) (fun (j, vv, f) => z.Shape.Rows.toNat - j) (0, vv, f) ⟨rfl, rfl, rfl, rfl, rfl, rfl, rfl, trivial⟩ ⟨by rw [vTo_zero]; exact H2, by omega⟩ (fun (j, vv, f) w3 H3 => ?_)))))))))))))))))
  obtain ⟨H3, hj⟩ := H3
  refine W_sr (sV rfl (py_lss rfl rfl) (s_nil (W_seq (W_ifd rfl (fun c2 => ?_) (fun c2 => ?_)))))
  ·refine W_skip (W_seq (W_block (W_sr (sM rfl rfl (sA rfl rfl (s_nil (W_sr (sM rfl rfl (sM rfl rfl (sM rfl rfl (s_call (wn rfl) rfl rfl (pc_call Tryz.func73 rfl Tryz_nm73 rfl) (Tryz_impl_World_openShare (H3.fbox 0 rfl) (by assumption) (own_weak (H3.seen 1 rfl)) (own_weak (H3.seen 2 rfl)) (own_weak (H3.seen 3 rfl)) (by first | assumption | omega) (by first | assumption | omega)) (fun v2 w4 r2 => ?_))))))))))))
   obtain ⟨e2, pA1, pA2, pA3, pA4, pA5, pA6, rfl, hI1⟩ := r2
   have H4 := H3.to e2
   obtain ⟨pf1, pf2, pf3, pok1, pl1, pl2, pl3, H5⟩ := H4.recF 3 rfl hI1
   unfold maxLen at pl1 pl2 pl3
   try dsimp only [lNA, lCA, lSZ, lSS] at H5
   refine sM rfl rfl (sV rfl (py_extr rfl rfl) (sV rfl (py_extr rfl rfl) (s_var (wn rfl) rfl Tryz.zeroValue68 H5 (fun b1 w5 e3 g1 H6 => ?_))))
   refine s_stoS (wn rfl) ts68 rfl rfl rfl rfl H6 2 rfl rfl (fun w6 e4 H7 => ?_)
   dsimp only [lNA, lCA, lSZ, lSS, layL] at H7
   refine sA rfl rfl (s_nil (W_seq (W_sr (sM rfl rfl (sV rfl (py_not rfl) (s_nil (W_if rfl (fun c3 => ?_) (fun c3 => ?_))))))))
   ·refine W_exit (W_reg (sV rfl (py_add rfl rfl (in64 ⟨by omega, by omega⟩)) (sM rfl rfl (s_nil ?_))))
    have hz := ((H7.ftake 5).dtake 2)
    rw [← vTo_no (.inl (by simpa using c3))] at hz
    exact ⟨(j + 1, vv, _), ⟨rfl, rfl, rfl, rfl, rfl, rfl, rfl, trivial⟩, ⟨hz, by (try dsimp only); omega⟩, by dsimp only; omega⟩
   ·refine W_skip (W_seq ?_)
    have hxk : (opR z k j).Ok := pok1
    have hok : opOK z k j = true := by simpa using c3
    have hdl := op_share hw hok
    have hsz := opR_sz (z := z) (g := k) (row := j)
    have hgk : ins (opR z k j).Group 0 (z.Shape.Groups + z.Shape.Column - 1) = true := by rw [(opR_shP hok).2.1]; exact ins_iff.2 (by omega)
    have vl := vTo_len (z := z) (k := k) (j := j) (by omega)
    refine W_reg (sM rfl rfl (sV rfl (py_loadS tu68 rfl ts68 rfl rfl (At.whole (H7.box 2 rfl))) (s_call (wn rfl) rfl rfl (pc_call Tryz.func74 rfl Tryz_nm74 rfl) (Tryz_impl_cloneRec (by assumption) (H7.sees 5 rfl) (H7.sees 6 rfl) (H7.sees 7 rfl) (by first | assumption | omega)) (fun v3 w7 r3 => ?_))))
    obtain ⟨e5, sa1, sk1, sa2, sk2, sa3, sk3, rfl, r3⟩ := r3
    obtain ⟨fp1, H8⟩ := H7.res e5 r3
    have H10 := (H8.sub (.cons_cons _ (.cons_cons _ (.cons _ (.cons_cons _ List.Sublist.slnil))))).ftake 5
    try dsimp only [lNA, lCA, lSZ, lSS] at H10
    try dsimp only [List.take] at H10
    refine s_call (wn rfl) rfl rfl (pc_callv (lb := [.pointer (some ⟨bw, 0, none⟩), .pointer (some ⟨bl, 0, none⟩)]) rfl Tryz.func164 rfl Tryz_nm164 rfl) (Tryz_impl_World_voidShares_1 (xs := (vTo z k j)) (H10.fbox 0 rfl) (by assumption) (H10.seen 1 rfl) (H10.seen 2 rfl) (H10.seen 3 rfl) hxk H10 (by assumption) (by assumption) hdl hgk (by omega)) (fun v4 w8 r4 => ?_)
    obtain ⟨rfl, vn, fn_, H9⟩ := r4
    refine sA rfl rfl (s_nil (W_sr (sM rfl rfl (sV rfl (py_neq rfl rfl) (s_nil (W_ifd rfl (fun c4 => ?_) (fun c4 => ?_)))))))
    ·exact absurd rfl c4
    ·refine W_skip (W_reg (sV rfl (py_add rfl rfl (in64 ⟨by omega, by omega⟩)) (sM rfl rfl (s_nil ?_))))
     have hz := H9
     cases hv : isVoid z (opR z k j)
     ·rw [hv, if_neg (by simp), ← vTo_no (.inr hv)] at hz; exact ⟨(j + 1, vn, _), ⟨rfl, rfl, rfl, rfl, rfl, rfl, rfl, trivial⟩, ⟨hz, by (try dsimp only); omega⟩, by dsimp only; omega⟩
     ·rw [hv, if_pos rfl, ← vTo_yes hok hv] at hz; exact ⟨(j + 1, vn, _), ⟨rfl, rfl, rfl, rfl, rfl, rfl, rfl, trivial⟩, ⟨hz, by (try dsimp only); omega⟩, by dsimp only; omega⟩
  ·refine W_exit (W_reg (sV rfl (py_add rfl rfl (in64 ⟨by omega, by omega⟩)) (sM rfl rfl (s_nil ?_))))
   obtain rfl : j = z.Shape.Rows.toNat := by omega
   have hz := H3
   rw [vTo_end rfl] at hz
   exact ⟨(k + 1, vv, _), ⟨rfl, rfl, rfl, rfl, trivial⟩, ⟨hz, by (try dsimp only); omega⟩, by dsimp only; omega⟩
 ·refine W_exit (W_sr (sA rfl rfl (s_nil (rT hQ Tryz.results163 rfl ?_))))
  obtain rfl : k = (z.Shape.Groups + z.Shape.Column).toNat := by omega
  exact ⟨rfl, _, _, H2⟩
theorem Tryz_impl_World_voidShares {w : World} {zb zC9 zC10 zC11 : Nat} {z : Wld} {zA9 zA10 zA11 : Option Addr} {zF9 zF10 zF11 : List Nat} (zB : w.heap[zb]? = some (.cells [.int .i64 z.Shape.Groups, .int .i64 z.Shape.Column, .int .i64 z.Shape.Data, .int .i64 z.Shape.Spare, .int .i64 z.Shape.Rows, .int .i64 z.Shape.Cap, .int .i64 z.Shape.Batch, .int .i64 z.Shape.Queue, .int .i64 z.Shape.Stage, .slice zA9 z.Groups.length zC9, .slice zA10 z.On.length zC10, .slice zA11 z.Tapes.length zC11, .int .i64 z.Writes, .int .i64 z.Stop, .bool z.Down].toArray 38)) (zK : z.Ok) (zO9 : own false w [.slice zA9 z.Groups.length zC9] z.Groups zF9) (zO10 : own false w [.slice zA10 z.On.length zC10] z.On zF10) (zO11 : own false w [.slice zA11 z.Tapes.length zC11] z.Tapes zF11) (hw : worldF z = 0) (hb : szWld z ≤ 1048576) : Ret Tryz.prog 96 #[.pointer (some ⟨zb, 0, none⟩)] w fun v w' => Ext No w w' ∧ (Res w w' [v] (voids z)) := by
 have zK2 := zK
 unfold Wld.Ok Shape.Ok at zK2
 try unfold I64ok at zK2
 try unfold maxLen at zK2
 have zL9 := oL zO9
 have zL10 := oL zO10
 have zL11 := oL zO11
 refine ret_Q (vs := [.pointer (some ⟨zb, 0, none⟩)]) Tryz.func96 rfl Tryz.ntmps96 rfl (fun Q hQ hN => ?_)
 have H0 := Sep.start (w := w) (F := [box zb (.cells [.int .i64 z.Shape.Groups, .int .i64 z.Shape.Column, .int .i64 z.Shape.Data, .int .i64 z.Shape.Spare, .int .i64 z.Shape.Rows, .int .i64 z.Shape.Cap, .int .i64 z.Shape.Batch, .int .i64 z.Shape.Queue, .int .i64 z.Shape.Stage, .slice zA9 z.Groups.length zC9, .slice zA10 z.On.length zC10, .slice zA11 z.Tapes.length zC11, .int .i64 z.Writes, .int .i64 z.Stop, .bool z.Down].toArray 38), seen false [.slice zA9 z.Groups.length zC9] z.Groups zF9, seen false [.slice zA10 z.On.length zC10] z.On zF10, seen false [.slice zA11 z.Tapes.length zC11] z.Tapes zF11]) (all_cons (by exact zB) (all_cons zO9 (all_cons zO10 (all_cons zO11 (by simp)))))
 refine W_sr (s_box (wn rfl) rfl rfl H0 (fun b1 w1 e1 g1 H1 => ?_))
 refine sA rfl rfl (s_nil (W_sr (s_lit0 (α := Rec) (wn rfl) rfl tu30 Tryz_ty68 H1 (fun b2 w2 e2 g2 H2 => ?_))))
 refine s_var (wn rfl) rfl Tryz.zeroValue30 H2 (fun b3 w3 e3 g3 H3 => ?_)
 refine s_sto (wn rfl) ts30 rfl rfl rfl H3 2 rfl rfl (fun w4 e4 H4 => ?_)
 dsimp only [lNA, lCA, lSZ, lSS, layL] at H4
 refine s_nil (W_sr (sV rfl (py_load tu82 rfl rfl (cell_atL (H4.box 0 rfl) rfl)) (sV rfl (py_func rfl) ?_)))
 have H5 := H4.shareB 0 rfl
 try dsimp only [lNA, lCA, lSZ, lSS] at H5
 have H6 := (H5.sub (.cons _ (.cons_cons _ (.cons_cons _ List.Sublist.slnil)))).swap2
 refine s_call (wn rfl) rfl rfl (pc_call Tryz.func163 rfl Tryz_nm163 rfl) (Tryz_impl_World_openShares (H6.fbox 0 rfl) (by assumption) (H6.seen 1 rfl) (H6.seen 2 rfl) (H6.seen 3 rfl) H6 hw hb) (fun v1 w5 r1 => ?_)
 obtain ⟨rfl, vn, fn_, H7⟩ := r1
 refine s_nil (W_sr (sV rfl (py_load tu30 rfl rfl (cell_atL (H7.box 0 rfl) rfl)) (sA rfl rfl (s_nil (rT hQ Tryz.results96 rfl ?_)))))
 exact ⟨H7.ext, H7.out 1 rfl⟩
theorem Tryz_spec_l8Void {w : World} {zb zC9 zC10 zC11 : Nat} {z : Wld} {zA9 zA10 zA11 : Option Addr} {zF9 zF10 zF11 : List Nat} (zB : w.heap[zb]? = some (.cells [.int .i64 z.Shape.Groups, .int .i64 z.Shape.Column, .int .i64 z.Shape.Data, .int .i64 z.Shape.Spare, .int .i64 z.Shape.Rows, .int .i64 z.Shape.Cap, .int .i64 z.Shape.Batch, .int .i64 z.Shape.Queue, .int .i64 z.Shape.Stage, .slice zA9 z.Groups.length zC9, .slice zA10 z.On.length zC10, .slice zA11 z.Tapes.length zC11, .int .i64 z.Writes, .int .i64 z.Stop, .bool z.Down].toArray 38)) (zK : z.Ok) (zO9 : own false w [.slice zA9 z.Groups.length zC9] z.Groups zF9) (zO10 : own false w [.slice zA10 z.On.length zC10] z.On zF10) (zO11 : own false w [.slice zA11 z.Tapes.length zC11] z.Tapes zF11) (hw : worldF z = 0) : Ret Tryz.prog 95 #[.pointer (some ⟨zb, 0, none⟩)] w fun v w' => Ext No w w' ∧ (∃ vs, Res w w' [v] vs ∧ RdV w' zF11 vs ∧ vs.map RecV.r = voids z) := by
 have zK2 := zK
 unfold Wld.Ok Shape.Ok at zK2
 try unfold I64ok at zK2
 try unfold maxLen at zK2
 have zL9 := oL zO9
 have zL10 := oL zO10
 have zL11 := oL zO11
 have hs := (worldF_ok hw).1
 have hG := (worldF_ok hw).2.1
 have hT := (worldF_ok hw).2.2.2.1
 have hrl := recs_bd hw
 have sbd := shape_bd hs
 refine ret_Q (vs := [.pointer (some ⟨zb, 0, none⟩)]) Tryz.func95 rfl Tryz.ntmps95 rfl (fun Q hQ hN => ?_)
 have H0 := Sep.start (w := w) (F := [box zb (.cells [.int .i64 z.Shape.Groups, .int .i64 z.Shape.Column, .int .i64 z.Shape.Data, .int .i64 z.Shape.Spare, .int .i64 z.Shape.Rows, .int .i64 z.Shape.Cap, .int .i64 z.Shape.Batch, .int .i64 z.Shape.Queue, .int .i64 z.Shape.Stage, .slice zA9 z.Groups.length zC9, .slice zA10 z.On.length zC10, .slice zA11 z.Tapes.length zC11, .int .i64 z.Writes, .int .i64 z.Stop, .bool z.Down].toArray 38), seen false [.slice zA9 z.Groups.length zC9] z.Groups zF9, seen false [.slice zA10 z.On.length zC10] z.On zF10, seen false [.slice zA11 z.Tapes.length zC11] z.Tapes zF11]) (all_cons (by exact zB) (all_cons zO9 (all_cons zO10 (all_cons zO11 (by simp)))))
 refine W_sr (sA rfl rfl (s_nil (W_sr (s_lit0 (α := RecV) (wn rfl) rfl tu30 Tryz_ty68 H0 (fun b1 w1 e1 g1 H1 => ?_)))))
 refine sA rfl rfl (s_nil (W_sr (sM rfl rfl (s_call (wn rfl) rfl rfl (pc_call Tryz.func63 rfl Tryz_nm63 rfl) (Tryz_spec_l6Counted (H1.fbox 0 rfl) (by assumption) (own_weak (H1.seen 1 rfl)) (own_weak (H1.seen 2 rfl)) (own_weak (H1.seen 3 rfl)) (by first | assumption | omega) (by first | assumption | omega)) (fun v1 w2 r1 => ?_)))))
 obtain ⟨e2, vs1, r1, hR1, hM1⟩ := r1
 obtain ⟨fp1, H2⟩ := H1.res e2 r1
 obtain ⟨sa1, sk1, sq1⟩ := own_slice (H2.mine 1 rfl)
 cases sq1
 have hl1 : vs1.length = (cntL z).length := by rw [← hM1, List.length_map]
 have hb1 := cntL_bd (z := z) (by first | assumption | omega) (by assumption)
 have hRw1 : RdV w zF11 vs1 := hR1.back H2.ext (Rp.lt zO11)
 refine sA rfl rfl (s_nil (W_seq (W_sr (sA rfl rfl (s_nil (W_block (W_loopA (α := RecV) (γ := Nat × List RecV) (fun (k, vv) => vv) (0, []) H2 0 rfl 3 rfl [(0, _), (2, _), (4, _)] ⟨rfl, rfl, rfl, trivial⟩ (fun (k, vv) => [(5, .int .i64 k)]) (fun (k, vv) => k ≤ (z.Shape.Groups + z.Shape.Column).toNat ∧ RdV w zF11 vv ∧ vv.map RecV.r = vG z k) (fun (k, vv) => (z.Shape.Groups + z.Shape.Column).toNat - k) ⟨rfl, trivial⟩ ⟨by (try dsimp only); omega, RdV.nil, rfl⟩ (fun (k, vv) vA1 fA1 w3 H3 ⟨hk, hRv, hMv⟩ => ?_))))))))
 dsimp only [lCA, lNA, lSZ, lSS] at H3 ⊢
 refine W_seq (W_sr (sM rfl rfl (sM rfl rfl (sV rfl (py_nil rfl) (sV rfl (py_field tu38 rfl ts34 rfl rfl) (sV rfl (py_loadS tu34 rfl ts34 rfl rfl (At.sub (H3.fbox 0 rfl) 9)) (s_call (wn rfl) rfl rfl (pc_call Tryz.func162 rfl Tryz_nm162 rfl) (Tryz_spec_l5All (by assumption)) (fun v2 w4 r2 => ?_))))))))
 obtain ⟨e3, rfl⟩ := r2
 have H4 := H3.to e3
 refine sV rfl (py_lss rfl rfl) (s_nil (W_ifd rfl (fun c1 => ?_) (fun c1 => ?_)))
 ·refine W_skip (W_seq (W_block (W_sr (sA rfl rfl (s_nil (W_block (W_loopA (α := RecV) (γ := Nat × List RecV) (fun (j, vv) => vv) (0, vv) H4 0 rfl 3 rfl [(0, _), (2, _), (4, _), (5, _)] ⟨rfl, rfl, rfl, rfl, trivial⟩ (fun (j, vv) => [(6, .int .i64 j)]) (fun (j, vv) => j ≤ z.Shape.Rows.toNat ∧ RdV w zF11 vv ∧ vv.map RecV.r = (vTo z k j)) (fun (j, vv) => z.Shape.Rows.toNat - j) ⟨rfl, trivial⟩ ⟨by (try dsimp only); omega, hRv, by (try dsimp only); rw [hMv, vTo_zero]⟩ (fun (j, vv) vA2 fA2 w5 H5 ⟨hj, hRv, hMv⟩ => ?_))))))))
  dsimp only [lCA, lNA, lSZ, lSS] at H5 ⊢
  refine W_seq (W_sr (sM rfl rfl (sM rfl rfl (sV rfl (py_nil rfl) (sV rfl (py_field tu38 rfl ts34 rfl rfl) (sV rfl (py_field tu34 rfl ts2 rfl rfl) (sV rfl (py_load tu2 rfl rfl (cell_atL (H5.fbox 0 rfl) rfl)) (sV rfl (py_lss rfl rfl) (s_nil (W_ifd rfl (fun c2 => ?_) (fun c2 => ?_)))))))))))
  ·refine W_skip (W_seq (W_block (W_sr (sM rfl rfl (sV rfl (py_nil rfl) (sV rfl (py_field tu38 rfl ts34 rfl rfl) (sV rfl (py_loadS tu34 rfl ts34 rfl rfl (At.sub (H5.fbox 0 rfl) 9)) (sM rfl rfl (sM rfl rfl (sM rfl rfl ?_))))))))))
   have lc9 := Tryz_spec_l8Open (s := z.Shape) (xs := vs1.map RecV.r) (g := k) (row := j) (by rw [List.length_map]; exact (hRw1.to H5.ext).list (H5.mine 1 rfl))
   rw [List.length_map, hM1, opI_cnt] at lc9
   refine s_call (wn rfl) rfl rfl (pc_call Tryz.func64 rfl Tryz_nm64 rfl) lc9 (fun v3 w6 r3 => ?_)
   obtain ⟨e4, rfl⟩ := r3
   have H6 := H5.to e4
   refine sA rfl rfl (s_nil (W_seq (W_sr (sM rfl rfl (sV rfl (py_lss rfl rfl) (s_nil (W_ifd rfl (fun c3 => ?_) (fun c3 => ?_))))))))
   ·refine W_exit (W_reg (sM rfl rfl (sV rfl (py_add rfl rfl (in64 ⟨by omega, by omega⟩)) (sA rfl rfl (s_nil ?_)))))
    exact ⟨((j + 1, vv), _, _), ⟨rfl, rfl, rfl, rfl, rfl, rfl, trivial⟩, ⟨H6, by (try dsimp only); omega, hRv, by (try dsimp only); rw [hMv, vTo_no (.inl (by rw [opAt_ok, decide_eq_false (by omega)]))]⟩, by dsimp only; omega⟩
   ·refine W_skip (W_seq ?_)
    have hob := opAt_bd (z := z) (g := k) (row := j)
    obtain ⟨f6, f7, f8, hxk, l6, l7, l8, HU⟩ := H6.recF 3 rfl (x := (vs1.getD (opAt z k j).toNat default).r) (A6 := (vs1.getD (opAt z k j).toNat default).A6) (C6 := (vs1.getD (opAt z k j).toNat default).C6) (A7 := (vs1.getD (opAt z k j).toNat default).A7) (C7 := (vs1.getD (opAt z k j).toNat default).C7) (A8 := (vs1.getD (opAt z k j).toNat default).A8) (C8 := (vs1.getD (opAt z k j).toNat default).C8) ((hRw1.to H6.ext).inAt (k := (opAt z k j).toNat) (by omega))
    unfold maxLen at l6 l7 l8
    try dsimp only [lNA, lCA, lSZ, lSS] at HU
    have hok : opOK z k j = true := by rw [opAt_ok, decide_eq_true (by omega)]
    have hur : (vs1.getD (opAt z k j).toNat default).r = opR z k j := by rw [map_getD hM1 (by omega)]; exact (opAt_R (by omega)).symm
    have hdl := op_share hw hok
    rw [← hur] at hdl
    have hgk : ins (k : Int) 0 (z.Shape.Groups + z.Shape.Column - 1) = true := ins_iff.2 (by omega)
    refine W_reg (sM rfl rfl (sM rfl rfl (s_call (wn rfl) rfl rfl (pc_call Tryz.func158 rfl Tryz_nm158 rfl) (Tryz_spec_l7Dead (HU.fbox 0 rfl) (by assumption) (HU.sees 1 rfl) (HU.sees 2 rfl) (HU.sees 3 rfl) (by assumption) (by assumption) (by assumption)) (fun v4 w7 r4 => ?_))))
    obtain ⟨e5, rfl⟩ := r4
    have H7 := HU.to e5
    refine sV rfl (py_not rfl) (sA rfl rfl (s_nil (W_seq (W_sr (sA rfl rfl (s_nil (W_block (W_loopS (γ := Nat) H7 [(0, _), (2, _), (3, _), (4, _), (5, _), (6, _), (7, _)] ⟨rfl, rfl, rfl, rfl, rfl, rfl, rfl, trivial⟩ (fun m => [(8, .bool (vbTo z (vs1.getD (opAt z k j).toNat default).r m)), (9, .int .i64 m)]) (fun m => m ≤ (z.Shape.Groups + z.Shape.Column).toNat ∧ True) (fun m => (z.Shape.Groups + z.Shape.Column).toNat - m) 0 ⟨eqB (by rw [vbTo, hur, (opR_shP hok).2.1]), rfl, trivial⟩ ⟨by omega, trivial⟩ (fun m w8 H8 ⟨hm, _⟩ => ?_)))))))))
    dsimp only [lCA, lNA]
    refine W_seq (W_sr (sM rfl rfl (sM rfl rfl (sV rfl (py_nil rfl) (sV rfl (py_field tu38 rfl ts34 rfl rfl) (sV rfl (py_loadS tu34 rfl ts34 rfl rfl (At.sub (H8.fbox 0 rfl) 9)) (s_call (wn rfl) rfl rfl (pc_call Tryz.func162 rfl Tryz_nm162 rfl) (Tryz_spec_l5All (by assumption)) (fun v5 w9 r5 => ?_))))))))
    obtain ⟨e6, rfl⟩ := r5
    have H9 := H8.to e6
    refine sV rfl (py_lss rfl rfl) (s_nil (W_ifd rfl (fun c4 => ?_) (fun c4 => ?_)))
    ·refine W_skip (W_seq (W_block ?_))
     have hgm : ins (m : Int) 0 (z.Shape.Groups + z.Shape.Column - 1) = true := ins_iff.2 (by omega)
     refine W_reg (sM rfl rfl (sM rfl rfl (s_case (t := 55) rfl (fun hg1 => ?_) (fun hg1 => ?_))))
     ·try simp only [decide_eq_true_eq, decide_eq_false_iff_not] at hg1
      refine sKt rfl rfl rfl (sKt rfl rfl rfl (sKt rfl rfl rfl (sKt rfl rfl rfl (sKt rfl rfl rfl (sKt rfl rfl rfl (sKt rfl rfl rfl (sKt rfl rfl rfl (sKt rfl rfl rfl (sKt rfl rfl rfl (s_skip (wou rfl rfl rfl) rfl rfl (s_skip (wou rfl rfl rfl) rfl rfl (s_skip (wou rfl rfl rfl) rfl rfl (s_skip (wou rfl rfl rfl) rfl rfl (s_skip (wou rfl rfl rfl) rfl rfl (s_skip (wou rfl rfl rfl) rfl rfl (s_skip (wou rfl rfl rfl) rfl rfl (s_skip (wou rfl rfl rfl) rfl rfl (sKt rfl rfl rfl (sKt rfl rfl rfl (s_skip (wou rfl rfl rfl) rfl rfl (s_skip (wou rfl rfl rfl) rfl rfl (s_skip (wou rfl rfl rfl) rfl rfl (sKt rfl rfl rfl (sV rfl (py_pickT rfl rfl) (sA rfl rfl (s_nil (W_reg (sM rfl rfl (sV rfl (py_add rfl rfl (in64 ⟨by omega, by omega⟩)) (sA rfl rfl (s_nil ?_)))))))))))))))))))))))))))))))
      exact ⟨m + 1, ⟨eqB (by simp_all [vbTo, voidAt]), rfl, rfl, rfl, rfl, rfl, rfl, rfl, rfl, trivial⟩, ⟨H9, by (try dsimp only); omega, trivial⟩, by dsimp only; omega⟩
     ·try simp only [decide_eq_true_eq, decide_eq_false_iff_not] at hg1
      refine s_val (wg rfl rfl rfl) rfl rfl (py_move rfl) (s_val (wg rfl rfl rfl) rfl rfl (py_move rfl) ?_)
      obtain ⟨eb1, eo1, ee1, ec1, eK1⟩ := H9.viewAt 1 rfl (opAt z k j).toNat (by omega)
      refine s_val (wg rfl rfl rfl) rfl rfl (py_elz tu30 ts68 rfl rfl ee1 (opAt z k j).toNat (by omega) (by omega)) (s_val (wg rfl rfl rfl) rfl rfl (py_field tu68 rfl ts45 rfl rfl) (s_val (wg rfl rfl rfl) rfl rfl (py_load tu45 rfl rfl (at_cell ec1 8 rfl)) (s_val (wg rfl rfl rfl) rfl rfl (py_move rfl) ?_)))
      obtain ⟨eb2, eo2, ee2, ec2⟩ := elem_u8 (H9.seen 6 rfl) m (by omega)
      refine s_val (wg rfl rfl rfl) rfl rfl (py_elz tu45 ts5 rfl rfl ee2 m (by omega) (by omega)) (s_val (wg rfl rfl rfl) rfl rfl (py_load tu5 rfl rfl ec2) (s_val (wg rfl rfl rfl) rfl rfl (py_neq rfl rfl) (s_val (wg rfl rfl rfl) rfl rfl (py_move rfl) (s_case (t := 65) rfl (fun hg2 => ?_) (fun hg2 => ?_)))))
      ·try simp only [decide_eq_true_eq, decide_eq_false_iff_not] at hg2
       refine s_val (wg rfl rfl rfl) rfl rfl (py_move rfl) (s_val (wg rfl rfl rfl) rfl rfl (py_move rfl) (s_val (wg rfl rfl rfl) rfl rfl (py_elz tu30 ts68 rfl rfl ee1 (opAt z k j).toNat (by omega) (by omega)) (s_val (wg rfl rfl rfl) rfl rfl (py_field tu68 rfl ts25 rfl rfl) (s_val (wg rfl rfl rfl) rfl rfl (py_load tu25 rfl rfl (at_cell ec1 6 rfl)) (s_val (wg rfl rfl rfl) rfl rfl (py_move rfl) (s_call (wg rfl rfl rfl) rfl rfl (pc_call Tryz.func156 rfl Tryz_nm156 rfl) (Tryz_spec_l1Has (H9.sees 4 rfl)) (fun v6 w10 r6 => ?_)))))))
       obtain ⟨e7, rfl⟩ := r6
       have H10 := H9.to e7
       refine s_val (wg rfl rfl rfl) rfl rfl (py_not rfl) (s_val (wg rfl rfl rfl) rfl rfl (py_pickT rfl rfl) (s_val (wg rfl rfl rfl) rfl rfl (py_move rfl) (s_case (t := 75) rfl (fun hg3 => ?_) (fun hg3 => ?_))))
       ·try simp only [decide_eq_true_eq, decide_eq_false_iff_not] at hg3
        refine s_val (wg rfl rfl rfl) rfl rfl (py_move rfl) (s_val (wg rfl rfl rfl) rfl rfl (py_move rfl) (s_call (wg rfl rfl rfl) rfl rfl (pc_call Tryz.func158 rfl Tryz_nm158 rfl) (Tryz_spec_l7Dead (H10.fbox 0 rfl) (by assumption) (H10.sees 1 rfl) (H10.sees 2 rfl) (H10.sees 3 rfl) (by assumption) (by assumption) (by assumption)) (fun v7 w11 r7 => ?_)))
        obtain ⟨e8, rfl⟩ := r7
        have H11 := H10.to e8
        refine s_val (wg rfl rfl rfl) rfl rfl (py_pickT rfl rfl) (sV rfl (py_pickF rfl rfl) (sA rfl rfl (s_nil (W_reg (sM rfl rfl (sV rfl (py_add rfl rfl (in64 ⟨by omega, by omega⟩)) (sA rfl rfl (s_nil ?_))))))))
        exact ⟨m + 1, ⟨eqB (by simp_all [vbTo, voidAt]), rfl, rfl, rfl, rfl, rfl, rfl, rfl, rfl, trivial⟩, ⟨H11, by (try dsimp only); omega, trivial⟩, by dsimp only; omega⟩
       ·try simp only [decide_eq_true_eq, decide_eq_false_iff_not] at hg3
        refine sKf rfl rfl rfl (sKf rfl rfl rfl (sKf rfl rfl rfl (s_val (wg rfl rfl rfl) rfl rfl (py_pickF rfl rfl) (sV rfl (py_pickF rfl rfl) (sA rfl rfl (s_nil (W_reg (sM rfl rfl (sV rfl (py_add rfl rfl (in64 ⟨by omega, by omega⟩)) (sA rfl rfl (s_nil ?_)))))))))))
        exact ⟨m + 1, ⟨eqB (by simp_all [vbTo, voidAt]), rfl, rfl, rfl, rfl, rfl, rfl, rfl, rfl, trivial⟩, ⟨H10, by (try dsimp only); omega, trivial⟩, by dsimp only; omega⟩
      ·try simp only [decide_eq_true_eq, decide_eq_false_iff_not] at hg2
       refine sKf rfl rfl rfl (sKf rfl rfl rfl (sKf rfl rfl rfl (sKf rfl rfl rfl (sKf rfl rfl rfl (sKf rfl rfl rfl (sKf rfl rfl rfl (sKf rfl rfl rfl (s_val (wg rfl rfl rfl) rfl rfl (py_pickF rfl rfl) (s_val (wg rfl rfl rfl) rfl rfl (py_move rfl) (sKf rfl rfl rfl (sKf rfl rfl rfl (sKf rfl rfl rfl (s_val (wg rfl rfl rfl) rfl rfl (py_pickF rfl rfl) (sV rfl (py_pickF rfl rfl) (sA rfl rfl (s_nil (W_reg (sM rfl rfl (sV rfl (py_add rfl rfl (in64 ⟨by omega, by omega⟩)) (sA rfl rfl (s_nil ?_)))))))))))))))))))))
       exact ⟨m + 1, ⟨eqB (by simp_all [vbTo, voidAt]), rfl, rfl, rfl, rfl, rfl, rfl, rfl, rfl, trivial⟩, ⟨H9, by (try dsimp only); omega, trivial⟩, by dsimp only; omega⟩
    ·refine W_exit (W_sr (sM rfl rfl (s_nil (W_if rfl (fun c5 => ?_) (fun c5 => ?_)))))
     ·have vvl : vv.length = (vTo z k j).length := by rw [← hMv, List.length_map]
      have vtl := vTo_len (z := z) (k := k) (j := j) (by omega)
      obtain ⟨eb3, eo3, ee3, ec3, eK2⟩ := H9.viewAt 1 rfl (opAt z k j).toNat (by omega)
      refine W_reg (sM rfl rfl (sM rfl rfl (sM rfl rfl (sV rfl (py_elz tu30 ts68 rfl rfl ee3 (opAt z k j).toNat (by omega) (by omega)) (sV rfl (py_loadS tu68 rfl ts68 rfl rfl ec3) (s_lit1 (wn rfl) rfl tu30 Tryz_ty68 rfl rfl rfl rfl H9 (fun b2 w12 e9 g2 H12 => ?_)))))))
      refine s_app1 (wn rfl) rfl tu30 Tryz_ty68 rfl rfl rfl H12 0 2 rfl rfl (recv_own (v := (vs1.getD (opAt z k j).toNat default)) hxk) (by unfold maxLen; omega) (by omega) (fun v8 w13 fp2 H13 => ?_)
      refine sA rfl rfl (s_nil (W_reg (sM rfl rfl (sV rfl (py_add rfl rfl (in64 ⟨by omega, by omega⟩)) (sA rfl rfl (s_nil ?_))))))
      have hiv : isVoid z (opR z k j) = true := by rw [← hur]; unfold isVoid; rw [show (vs1.getD (opAt z k j).toNat default).r.Delta.length = m by omega]; exact c5
      exact ⟨((j + 1, vv ++ [(vs1.getD (opAt z k j).toNat default)]), _, _), ⟨rfl, rfl, rfl, rfl, rfl, rfl, trivial⟩, ⟨((H13.ftake 4).dtake 2), by (try dsimp only); omega, hRv.snoc (hRw1.inAt (k := (opAt z k j).toNat) (by omega)), by (try dsimp only); rw [List.map_append, hMv, vTo_yes hok hiv, ← hur]; rfl⟩, by dsimp only; omega⟩
     ·refine W_skip (W_reg (sM rfl rfl (sV rfl (py_add rfl rfl (in64 ⟨by omega, by omega⟩)) (sA rfl rfl (s_nil ?_)))))
      have hiv : isVoid z (opR z k j) = false := by rw [← hur]; unfold isVoid; rw [show (vs1.getD (opAt z k j).toNat default).r.Delta.length = m by omega]; exact by simpa using c5
      exact ⟨((j + 1, vv), _, _), ⟨rfl, rfl, rfl, rfl, rfl, rfl, trivial⟩, ⟨(H9.ftake 4), by (try dsimp only); omega, hRv, by (try dsimp only); rw [hMv, vTo_no (.inr hiv)]⟩, by dsimp only; omega⟩
  ·refine W_exit (W_reg (sM rfl rfl (sV rfl (py_add rfl rfl (in64 ⟨by omega, by omega⟩)) (sA rfl rfl (s_nil ?_)))))
   obtain rfl : j = z.Shape.Rows.toNat := by omega
   exact ⟨((k + 1, vv), _, _), ⟨rfl, rfl, rfl, rfl, rfl, trivial⟩, ⟨H5, by (try dsimp only); omega, hRv, by (try dsimp only); rw [hMv, vTo_end rfl]⟩, by dsimp only; omega⟩
 ·refine W_exit (W_sr (sM rfl rfl (sA rfl rfl (s_nil (rT hQ Tryz.results95 rfl ?_)))))
  obtain rfl : k = (z.Shape.Groups + z.Shape.Column).toNat := by omega
  exact ⟨H4.ext, vv, H4.out 0 rfl, hRv.to H4.ext, hMv⟩
end Go.Wk
namespace Go.Wk
open Go.Proofs Rp
set_option maxRecDepth 10000
theorem Tryz_laws_markBlockS {w : World} {xs : List Block} {xsA : Option Addr} {xsC : Nat} {k : Int} {fp : List Nat} (o : own true w [.slice xsA xs.length xsC] xs fp) (nd : fp.Nodup) (hk : 0 ≤ k ∧ k + mkL mkBlock xs ≤ 4611686018427387904) : Ret Tryz.prog 253 #[.slice xsA xs.length xsC, .int .i64 k] w fun v w' => (v = .int .i64 (k + mkL mkBlock xs) ∧ ∃ xs', Mut w w' fp [.slice xsA xs.length xsC] xs' ∧ (xs'.length = xs.length ∧ mkL mkBlock xs' = mkL mkBlock xs ∧ MkL MkBlock mkBlock xs' k)) := by
 have len := oL o
 refine ret_Q (vs := [.slice xsA xs.length xsC, .int .i64 k]) Tryz.func253 rfl Tryz.ntmps253 rfl (fun Q hQ hN => ?_)
 have H0 := Sep.begin o nd
 refine W_sr (sA rfl rfl (s_nil (W_seq (W_sr (sA rfl rfl (s_nil (W_block (W_loop (γ := Nat × List Block × List Nat) (fun (i, ys, f) => [(0, .slice xsA xs.length xsC), (1, .int .i64 (k + sumN (fun i => mkBlock (xs.getD i default)) i)), (5, .int .i64 i)]) (fun (i, ys, f) w' => Sep (· ∈ fp) w [mine [.slice xsA xs.length xsC] ys f] [] w' ∧ MkInv MkBlock mkBlock xs k i ys ∧ True) (fun (i, ys, f) => xs.length - i) (0, xs, fp) ⟨rfl, eqI (by simp [sumN]), rfl, trivial⟩ ⟨H0, mk_begin, trivial⟩ (fun (i, ys, f) w1 H1 => ?_)))))))))
 obtain ⟨H1, hI, _⟩ := H1
 refine W_seq (W_seq ?_)
 have hiB := hI.1
 have hys := hI.2.1
 refine W_reg (sM rfl rfl (sM rfl rfl (sV rfl (py_len tu178 rfl) (sV rfl (py_lss rfl rfl) (s_nil (W_ifd rfl (fun c1 => ?_) (fun c1 => ?_)))))))
 ·refine W_skip (W_seq (W_block (W_seq ?_)))
  have hiL : i < xs.length := by omega
  have hat := mk_at hI
  obtain ⟨sg, sl⟩ := mkL_at (c := mkBlock) hiL
  have hci : mkBlock (ys.getD i default) = mkBlock (xs.getD i default) := hI.2.2.1 i
  have hcu : mkBlock (ys.getD i default) = 1 + (ys.getD i default).Bytes.length := rfl
  obtain ⟨eb1, eo1, eT1, eF1, eG1, ea1, ek1, eg1, ee1, eK1, eH1⟩ := Block.focus H1 0 rfl i (by omega)
  have eK1U := eK1
  unfold Block.Ok at eK1U
  try unfold I64ok at eK1U
  try unfold maxLen at eK1U
  try dsimp only [lNA, lCA, lSZ, lSS] at eH1
  refine W_reg (sM rfl rfl (sM rfl rfl (sM rfl rfl (sV rfl (py_elz tu178 ts182 rfl rfl ee1 i (by omega) (by omega)) (sV rfl (py_field tu182 rfl ts2 rfl rfl) (s_hsto (wn rfl) ts2 eH1 0 0 rfl rfl rfl rfl rfl (fun w2 H2 => ?_)))))))
  dsimp only [lNA, lCA, lSZ, lSS, layL] at H2
  refine s_nil (W_sr (sM rfl rfl (sV rfl (py_add rfl rfl (in64 ⟨by omega, by omega⟩)) (sA rfl rfl (s_nil (W_reg (sM rfl rfl (sM rfl rfl (sV rfl (py_elz tu178 ts182 rfl rfl ee1 i (by omega) (by omega)) (sV rfl (py_field tu182 rfl ts45 rfl rfl) (sV rfl (py_load tu45 rfl rfl (at_cell (H2.holAt 0 rfl) 1 rfl)) (sM rfl rfl (s_call (wn rfl) rfl rfl (pc_call Tryz.func88 rfl Tryz_nm88 rfl) (Tryz_laws_markByteS (H2.mine 2 rfl) (H2.nodup1 (i := 2) rfl) (by constructor <;> omega)) (fun v1 w3 r1 => ?_))))))))))))))
  obtain ⟨rfl, mx1, mm1, ml1, mk1⟩ := r1
  obtain ⟨fp1, H3⟩ := H2.mut 2 rfl mm1
  try dsimp only [lNA, lCA, lSZ, lSS] at H3
  refine sA rfl rfl (s_nil (W_reg (sM rfl rfl (sV rfl (py_add rfl rfl (in64 ⟨by omega, by omega⟩)) (sA rfl rfl (s_nil ?_))))))
  have okz : (⟨(k + sumN (fun i => mkBlock (xs.getD i default)) i), mx1⟩ : Block).Ok := by unfold Block.Ok I64ok; dsimp only; omega
  obtain ⟨fp2, H4⟩ := Block.fill H3 0 2 rfl rfl rfl okz
  try dsimp only [lNA, lCA, lSZ, lSS] at H4
  refine ⟨(i + 1, _, _), ⟨rfl, eqI (by omega), rfl, trivial⟩, ⟨(H4.dtake 1), mk_step hI hiL (by rw [← hci]; unfold mkBlock; dsimp only; omega) ⟨rfl, mk1⟩, trivial⟩, by dsimp only; omega⟩
 ·refine W_exit (W_sr (sM rfl rfl (sA rfl rfl (s_nil (rT hQ Tryz.results253 rfl ?_)))))
  obtain rfl : i = xs.length := by omega
  exact ⟨rfl, _, H1.done, mk_end hI⟩
theorem Tryz_laws_markDriveS {w : World} {xs : List Drive} {xsA : Option Addr} {xsC : Nat} {k : Int} {fp : List Nat} (o : own true w [.slice xsA xs.length xsC] xs fp) (nd : fp.Nodup) (hk : 0 ≤ k ∧ k + mkL mkDrive xs ≤ 4611686018427387904) : Ret Tryz.prog 154 #[.slice xsA xs.length xsC, .int .i64 k] w fun v w' => (v = .int .i64 (k + mkL mkDrive xs) ∧ ∃ xs', Mut w w' fp [.slice xsA xs.length xsC] xs' ∧ (xs'.length = xs.length ∧ mkL mkDrive xs' = mkL mkDrive xs ∧ MkL MkDrive mkDrive xs' k)) := by
 have len := oL o
 refine ret_Q (vs := [.slice xsA xs.length xsC, .int .i64 k]) Tryz.func154 rfl Tryz.ntmps154 rfl (fun Q hQ hN => ?_)
 have H0 := Sep.begin o nd
 refine W_sr (sA rfl rfl (s_nil (W_seq (W_sr (sA rfl rfl (s_nil (W_block (W_loop (γ := Nat × List Drive × List Nat) (fun (i, ys, f) => [(0, .slice xsA xs.length xsC), (1, .int .i64 (k + sumN (fun i => mkDrive (xs.getD i default)) i)), (5, .int .i64 i)]) (fun (i, ys, f) w' => Sep (· ∈ fp) w [mine [.slice xsA xs.length xsC] ys f] [] w' ∧ MkInv MkDrive mkDrive xs k i ys ∧ True) (fun (i, ys, f) => xs.length - i) (0, xs, fp) ⟨rfl, eqI (by simp [sumN]), rfl, trivial⟩ ⟨H0, mk_begin, trivial⟩ (fun (i, ys, f) w1 H1 => ?_)))))))))
 obtain ⟨H1, hI, _⟩ := H1
 refine W_seq (W_seq ?_)
 have hiB := hI.1
 have hys := hI.2.1
 refine W_reg (sM rfl rfl (sM rfl rfl (sV rfl (py_len tu142 rfl) (sV rfl (py_lss rfl rfl) (s_nil (W_ifd rfl (fun c1 => ?_) (fun c1 => ?_)))))))
 ·refine W_skip (W_seq (W_block (W_seq ?_)))
  have hiL : i < xs.length := by omega
  have hat := mk_at hI
  obtain ⟨sg, sl⟩ := mkL_at (c := mkDrive) hiL
  have hci : mkDrive (ys.getD i default) = mkDrive (xs.getD i default) := hI.2.2.1 i
  have hcu : mkDrive (ys.getD i default) = 1 + mkL mkBlock (ys.getD i default).Blocks := rfl
  obtain ⟨eb1, eo1, eT1, eF1, eG1, ea1, ek1, eg1, ee1, eK1, eH1⟩ := Drive.focus H1 0 rfl i (by omega)
  have eK1U := eK1
  unfold Drive.Ok at eK1U
  try unfold I64ok at eK1U
  try unfold maxLen at eK1U
  try dsimp only [lNA, lCA, lSZ, lSS] at eH1
  refine W_reg (sM rfl rfl (sM rfl rfl (sM rfl rfl (sV rfl (py_rem rfl rfl (by omega)) (sV rfl (py_eql rfl rfl) (sV rfl (py_elz tu142 ts180 rfl rfl ee1 i (by omega) (by omega)) (sV rfl (py_field tu180 rfl ts4 rfl rfl) (s_hsto (wn rfl) ts4 eH1 0 0 rfl rfl rfl rfl rfl (fun w2 H2 => ?_)))))))))
  dsimp only [lNA, lCA, lSZ, lSS, layL] at H2
  refine s_nil (W_sr (sM rfl rfl (sV rfl (py_add rfl rfl (in64 ⟨by omega, by omega⟩)) (sA rfl rfl (s_nil (W_reg (sM rfl rfl (sM rfl rfl (sV rfl (py_elz tu142 ts180 rfl rfl ee1 i (by omega) (by omega)) (sV rfl (py_field tu180 rfl ts178 rfl rfl) (sV rfl (py_load tu178 rfl rfl (at_cell (H2.holAt 0 rfl) 1 rfl)) (sM rfl rfl (s_call (wn rfl) rfl rfl (pc_call Tryz.func253 rfl Tryz_nm253 rfl) (Tryz_laws_markBlockS (H2.mine 2 rfl) (H2.nodup1 (i := 2) rfl) (by constructor <;> omega)) (fun v1 w3 r1 => ?_))))))))))))))
  obtain ⟨rfl, mx1, mm1, ml1⟩ := r1
  obtain ⟨fp1, H3⟩ := H2.mut 2 rfl mm1
  try dsimp only [lNA, lCA, lSZ, lSS] at H3
  refine sA rfl rfl (s_nil (W_reg (sM rfl rfl (sV rfl (py_add rfl rfl (in64 ⟨by omega, by omega⟩)) (sA rfl rfl (s_nil ?_))))))
  have okz : (⟨decide ((k + sumN (fun i => mkDrive (xs.getD i default)) i).tmod 3 = 0), mx1⟩ : Drive).Ok := trivial
  obtain ⟨fp2, H4⟩ := Drive.fill H3 0 2 rfl rfl rfl okz
  try dsimp only [lNA, lCA, lSZ, lSS] at H4
  refine ⟨(i + 1, _, _), ⟨rfl, eqI (by omega), rfl, trivial⟩, ⟨(H4.dtake 1), mk_step hI hiL (by rw [← hci]; unfold mkDrive; dsimp only; rw [ml1.2.1]) ⟨rfl, ml1.2.2⟩, trivial⟩, by dsimp only; omega⟩
 ·refine W_exit (W_sr (sM rfl rfl (sA rfl rfl (s_nil (rT hQ Tryz.results154 rfl ?_)))))
  obtain rfl : i = xs.length := by omega
  exact ⟨rfl, _, H1.done, mk_end hI⟩
theorem Tryz_laws_markDriveSS {w : World} {xs : List (List Drive)} {xsA : Option Addr} {xsC : Nat} {k : Int} {fp : List Nat} (o : own true w [.slice xsA xs.length xsC] xs fp) (nd : fp.Nodup) (hk : 0 ≤ k ∧ k + mkL (mkL mkDrive) xs ≤ 4611686018427387904) : Ret Tryz.prog 80 #[.slice xsA xs.length xsC, .int .i64 k] w fun v w' => (v = .int .i64 (k + mkL (mkL mkDrive) xs) ∧ ∃ xs', Mut w w' fp [.slice xsA xs.length xsC] xs' ∧ (xs'.length = xs.length ∧ mkL (mkL mkDrive) xs' = mkL (mkL mkDrive) xs ∧ MkL (MkL MkDrive mkDrive) (mkL mkDrive) xs' k)) := by
 have len := oL o
 refine ret_Q (vs := [.slice xsA xs.length xsC, .int .i64 k]) Tryz.func80 rfl Tryz.ntmps80 rfl (fun Q hQ hN => ?_)
 have H0 := Sep.begin o nd
 refine W_sr (sA rfl rfl (s_nil (W_seq (W_sr (sA rfl rfl (s_nil (W_block (W_loop (γ := Nat × List (List Drive) × List Nat) (fun (i, ys, f) => [(0, .slice xsA xs.length xsC), (1, .int .i64 (k + sumN (fun i => (mkL mkDrive) (xs.getD i default)) i)), (5, .int .i64 i)]) (fun (i, ys, f) w' => Sep (· ∈ fp) w [mine [.slice xsA xs.length xsC] ys f] [] w' ∧ MkInv (MkL MkDrive mkDrive) (mkL mkDrive) xs k i ys ∧ True) (fun (i, ys, f) => xs.length - i) (0, xs, fp) ⟨rfl, eqI (by simp [sumN]), rfl, trivial⟩ ⟨H0, mk_begin, trivial⟩ (fun (i, ys, f) w1 H1 => ?_)))))))))
 obtain ⟨H1, hI, _⟩ := H1
 refine W_seq (W_seq ?_)
 have hiB := hI.1
 have hys := hI.2.1
 refine W_reg (sM rfl rfl (sM rfl rfl (sV rfl (py_len tu35 rfl) (sV rfl (py_lss rfl rfl) (s_nil (W_ifd rfl (fun c1 => ?_) (fun c1 => ?_)))))))
 ·refine W_skip (W_seq (W_block ?_))
  have hiL : i < xs.length := by omega
  have hat := mk_at hI
  obtain ⟨sg, sl⟩ := mkL_at (c := (mkL mkDrive)) hiL
  have hci : (mkL mkDrive) (ys.getD i default) = (mkL mkDrive) (xs.getD i default) := hI.2.2.1 i
  have hcu : mkL mkDrive (ys.getD i default) = mkL mkDrive (ys.getD i []) := rfl
  obtain ⟨eb1, eo1, eT1, eF1, eG1, ea1, ek1, eg1, ee1, eH1⟩ := H1.focusL 0 rfl i (by omega)
  try dsimp only [lNA, lCA, lSZ, lSS] at eH1
  refine W_reg (sM rfl rfl (sM rfl rfl (sV rfl (py_elz tu35 ts142 rfl rfl ee1 i (by omega) (by omega)) (sV rfl (py_load tu142 rfl rfl (at_cell (eH1.holAt 0 rfl) 0 rfl)) (sM rfl rfl (s_call (wn rfl) rfl rfl (pc_call Tryz.func154 rfl Tryz_nm154 rfl) (Tryz_laws_markDriveS (eH1.mine 1 rfl) (eH1.nodup1 (i := 1) rfl) (by constructor <;> omega)) (fun v1 w2 r1 => ?_)))))))
  obtain ⟨rfl, mx1, mm1, ml1⟩ := r1
  obtain ⟨fp1, H2⟩ := eH1.mut 1 rfl mm1
  try dsimp only [lNA, lCA, lSZ, lSS] at H2
  refine sA rfl rfl (s_nil (W_reg (sM rfl rfl (sV rfl (py_add rfl rfl (in64 ⟨by omega, by omega⟩)) (sA rfl rfl (s_nil ?_))))))
  obtain ⟨fp2, H3⟩ := H2.fill 0 1 rfl rfl rfl
  try dsimp only [lNA, lCA, lSZ, lSS] at H3
  refine ⟨(i + 1, _, _), ⟨rfl, eqI (by omega), rfl, trivial⟩, ⟨(H3.dtake 1), mk_step hI hiL (by rw [← hci]; exact ml1.2.1) ml1.2.2, trivial⟩, by dsimp only; omega⟩
 ·refine W_exit (W_sr (sM rfl rfl (sA rfl rfl (s_nil (rT hQ Tryz.results80 rfl ?_)))))
  obtain rfl : i = xs.length := by omega
  exact ⟨rfl, _, H1.done, mk_end hI⟩
theorem Tryz_laws_markText {w : World} {k : Int} (hk : -1000 ≤ k ∧ k ≤ 4611686018427388904) : Ret Tryz.prog 155 #[.int .i64 k] w fun v w' => Ext No w w' ∧ (v = .string (mText k) ∧ (mText k).size ≤ maxLen) := by
 refine ret_Q (vs := [.int .i64 k]) Tryz.func155 rfl Tryz.ntmps155 rfl (fun Q hQ hN => ?_)
 have H0 := Sep.start (w := w) (F := []) (by simp)
 refine W_sr (sA rfl rfl (s_nil (W_seq (W_sr (sM rfl rfl (sV rfl (py_leq rfl rfl) (s_nil (W_ifd rfl (fun c1 => ?_) (fun c1 => ?_)))))))))
 ·refine W_sr (sA rfl rfl (s_nil (rT hQ Tryz.results155 rfl ?_)))
  exact ⟨H0.ext, by rw [mText, if_pos (by omega)], by rw [mText, if_pos (by omega)]; exact Nat.le_of_ble_eq_true rfl⟩
 ·refine W_skip (W_sr (sA rfl rfl (s_nil (W_seq (W_block (W_loopS (γ := Nat × Nat × ByteArray) H0 [(2, _)] ⟨rfl, trivial⟩ (fun (f, m, out) => [(0, .int .i64 (m : Nat)), (3, .string out)]) (fun (f, m, out) => (m : Int) ≤ k ∧ m < 10 ^ f ∧ out.size + f ≤ 30 ∧ digits 30 k.toNat ⟨#[]⟩ = digits f m out) (fun (f, m, out) => m) (30, k.toNat, ⟨#[]⟩) ⟨eqI (by omega), rfl, trivial⟩ ⟨by omega, digits_bd (by omega), by decide, rfl⟩ (fun (f, m, out) w1 H1 ⟨hm, hf, ho, hd⟩ => ?_)))))))
  dsimp only [lCA, lNA]
  refine W_seq (W_sr (sM rfl rfl (sV rfl (py_gtr rfl rfl) (s_nil (W_ifd rfl (fun c2 => ?_) (fun c2 => ?_))))))
  ·refine W_skip (W_block (W_seq ?_))
   have hb := tmod_bd (a := (m : Int)) (b := 10) (by omega) (by omega)
   refine W_reg (sM rfl rfl (sV rfl (py_rem rfl rfl (by omega)) (sV rfl (py_add rfl rfl (in64 ⟨by omega, by omega⟩)) (sV rfl (py_conv8 tu3 tu5 rfl) (s_lit1 (wn rfl) rfl tu45 Tryz_ty5 rfl rfl rfl rfl H1 (fun b1 w2 e1 g1 H2 => ?_))))))
   have H3 := H2.litW 0 rfl (own_b8 (x := u8Of (48 + (m : Int).tmod 10)))
   try dsimp only [lNA, lCA, lSZ, lSS] at H3
   refine sV rfl (py_b2s tu45 tu5 tu9 rfl (H3.mine 0 rfl)) ((sM rfl rfl (sV rfl (py_sadd rfl rfl (by rw [strB_size]; simp only [List.length_cons, List.length_nil]; omega)) (sA rfl rfl (s_nil ?_)))))
   have hb2 := tdiv_bd (a := (m : Int)) (b := 10) (by omega) (by omega)
   refine W_reg (sM rfl rfl (sV rfl (py_quo rfl rfl (by omega) (in64 ⟨by omega, by omega⟩)) (sA rfl rfl (s_nil ?_))))
   rcases f with _ | f
   ·simp at hf; omega
   ·refine ⟨(f, m / 10, strB [UInt8.ofNat (48 + m % 10)] ++ out), ⟨eqI (by rw [Int.tdiv_eq_ediv_of_nonneg (by omega)]; dsimp only; omega), eqStr (by rw [dig_eq]), rfl, trivial⟩, ⟨(H3.dtake 0), by dsimp only; omega, by rw [Nat.pow_succ] at hf; dsimp only; omega, by dsimp only; rw [ByteArray.size_append, strB_size]; simp only [List.length_cons, List.length_nil]; omega, hd.trans (digits_step (by omega))⟩, by dsimp only; omega⟩
  ·refine W_exit (W_seq ?_)
   have h1z : (⟨#[109]⟩ : ByteArray).size = 1 := rfl
   refine W_reg (sM rfl rfl (sV rfl (py_sadd rfl rfl (by omega)) (sA rfl rfl (s_nil (rT hQ Tryz.results155 rfl ?_)))))
   obtain rfl : m = 0 := by omega
   have hq : mText k = ⟨#[109]⟩ ++ out := by rw [mText, if_neg (by omega), hd, digits_zero]
   exact ⟨H1.ext, by rw [hq], by rw [hq, ByteArray.size_append]; unfold maxLen; omega⟩
theorem Tryz_laws_markRecS {w : World} {xs : List Rec} {xsA : Option Addr} {xsC : Nat} {k : Int} {fp : List Nat} (o : own true w [.slice xsA xs.length xsC] xs fp) (nd : fp.Nodup) (hk : 0 ≤ k ∧ k + mkL mkRec xs ≤ 4611686018427387904) : Ret Tryz.prog 83 #[.slice xsA xs.length xsC, .int .i64 k] w fun v w' => (v = .int .i64 (k + mkL mkRec xs) ∧ ∃ xs', Mut w w' fp [.slice xsA xs.length xsC] xs' ∧ (xs'.length = xs.length ∧ mkL mkRec xs' = mkL mkRec xs ∧ MkL MkRec mkRec xs' k)) := by
 have len := oL o
 refine ret_Q (vs := [.slice xsA xs.length xsC, .int .i64 k]) Tryz.func83 rfl Tryz.ntmps83 rfl (fun Q hQ hN => ?_)
 have H0 := Sep.begin o nd
 refine W_sr (sA rfl rfl (s_nil (W_seq (W_sr (sA rfl rfl (s_nil (W_block (W_loop (γ := Nat × List Rec × List Nat) (fun (i, ys, f) => [(0, .slice xsA xs.length xsC), (1, .int .i64 (k + sumN (fun i => mkRec (xs.getD i default)) i)), (5, .int .i64 i)]) (fun (i, ys, f) w' => Sep (· ∈ fp) w [mine [.slice xsA xs.length xsC] ys f] [] w' ∧ MkInv MkRec mkRec xs k i ys ∧ True) (fun (i, ys, f) => xs.length - i) (0, xs, fp) ⟨rfl, eqI (by simp [sumN]), rfl, trivial⟩ ⟨H0, mk_begin, trivial⟩ (fun (i, ys, f) w1 H1 => ?_)))))))))
 obtain ⟨H1, hI, _⟩ := H1
 refine W_seq (W_seq ?_)
 have hiB := hI.1
 have hys := hI.2.1
 refine W_reg (sM rfl rfl (sM rfl rfl (sV rfl (py_len tu30 rfl) (sV rfl (py_lss rfl rfl) (s_nil (W_ifd rfl (fun c1 => ?_) (fun c1 => ?_)))))))
 ·refine W_skip (W_seq (W_block (W_seq ?_)))
  have hiL : i < xs.length := by omega
  have hat := mk_at hI
  obtain ⟨sg, sl⟩ := mkL_at (c := mkRec) hiL
  have hci : mkRec (ys.getD i default) = mkRec (xs.getD i default) := hI.2.2.1 i
  have hcu : mkRec (ys.getD i default) = 6 + (ys.getD i default).Rows.length + (ys.getD i default).Data.length + (ys.getD i default).Delta.length := rfl
  obtain ⟨eb1, eo1, eT1, eF1, eG1, ea1, ek1, ea2, ek2, ea3, ek3, eg1, eg2, eg3, ee1, eK1, eH1⟩ := Rec.focus H1 0 rfl i (by omega)
  have eK1U := eK1
  unfold Rec.Ok at eK1U
  try unfold I64ok at eK1U
  try unfold maxLen at eK1U
  try dsimp only [lNA, lCA, lSZ, lSS] at eH1
  refine W_reg (sM rfl rfl (sM rfl rfl (sM rfl rfl (sV rfl (py_elz tu30 ts68 rfl rfl ee1 i (by omega) (by omega)) (sV rfl (py_field tu68 rfl ts2 rfl rfl) (s_hsto (wn rfl) ts2 eH1 0 0 rfl rfl rfl rfl rfl (fun w2 H2 => ?_)))))))
  dsimp only [lNA, lCA, lSZ, lSS, layL] at H2
  refine s_nil (W_sr (sM rfl rfl (sV rfl (py_add rfl rfl (in64 ⟨by omega, by omega⟩)) (sA rfl rfl (s_nil (W_sr (sM rfl rfl (sM rfl rfl (sM rfl rfl (sV rfl (py_elz tu30 ts68 rfl rfl ee1 i (by omega) (by omega)) (sV rfl (py_field tu68 rfl ts2 rfl rfl) (s_hsto (wn rfl) ts2 H2 0 1 rfl rfl rfl rfl rfl (fun w3 H3 => ?_)))))))))))))
  dsimp only [lNA, lCA, lSZ, lSS, layL] at H3
  refine s_nil (W_sr (sM rfl rfl (sV rfl (py_add rfl rfl (in64 ⟨by omega, by omega⟩)) (sA rfl rfl (s_nil (W_sr (sM rfl rfl (sM rfl rfl (sM rfl rfl (s_call (wn rfl) rfl rfl (pc_call Tryz.func155 rfl Tryz_nm155 rfl) (Tryz_laws_markText (by omega)) (fun v1 w4 r1 => ?_)))))))))))
  obtain ⟨e3, rfl, mt1⟩ := r1
  have H4 := H3.to e3
  refine sV rfl (py_elz tu30 ts68 rfl rfl ee1 i (by omega) (by omega)) (sV rfl (py_field tu68 rfl ts9 rfl rfl) (s_hsto (wn rfl) ts9 H4 0 2 rfl rfl rfl rfl rfl (fun w5 H5 => ?_)))
  dsimp only [lNA, lCA, lSZ, lSS, layL] at H5
  refine s_nil (W_sr (sM rfl rfl (sV rfl (py_add rfl rfl (in64 ⟨by omega, by omega⟩)) (sA rfl rfl (s_nil (W_sr (sM rfl rfl (sM rfl rfl (sM rfl rfl (sV rfl (py_elz tu30 ts68 rfl rfl ee1 i (by omega) (by omega)) (sV rfl (py_field tu68 rfl ts2 rfl rfl) (s_hsto (wn rfl) ts2 H5 0 3 rfl rfl rfl rfl rfl (fun w6 H6 => ?_)))))))))))))
  dsimp only [lNA, lCA, lSZ, lSS, layL] at H6
  refine s_nil (W_sr (sM rfl rfl (sV rfl (py_add rfl rfl (in64 ⟨by omega, by omega⟩)) (sA rfl rfl (s_nil (W_sr (sM rfl rfl (sM rfl rfl (sM rfl rfl (sV rfl (py_elz tu30 ts68 rfl rfl ee1 i (by omega) (by omega)) (sV rfl (py_field tu68 rfl ts2 rfl rfl) (s_hsto (wn rfl) ts2 H6 0 4 rfl rfl rfl rfl rfl (fun w7 H7 => ?_)))))))))))))
  dsimp only [lNA, lCA, lSZ, lSS, layL] at H7
  refine s_nil (W_sr (sM rfl rfl (sV rfl (py_add rfl rfl (in64 ⟨by omega, by omega⟩)) (sA rfl rfl (s_nil (W_sr (sM rfl rfl (sM rfl rfl (sM rfl rfl (sV rfl (py_elz tu30 ts68 rfl rfl ee1 i (by omega) (by omega)) (sV rfl (py_field tu68 rfl ts2 rfl rfl) (s_hsto (wn rfl) ts2 H7 0 5 rfl rfl rfl rfl rfl (fun w8 H8 => ?_)))))))))))))
  dsimp only [lNA, lCA, lSZ, lSS, layL] at H8
  refine s_nil (W_sr (sM rfl rfl (sV rfl (py_add rfl rfl (in64 ⟨by omega, by omega⟩)) (sA rfl rfl (s_nil (W_sr (sM rfl rfl (sM rfl rfl (sV rfl (py_elz tu30 ts68 rfl rfl ee1 i (by omega) (by omega)) (sV rfl (py_field tu68 rfl ts25 rfl rfl) (sV rfl (py_load tu25 rfl rfl (at_cell (H8.holAt 0 rfl) 6 rfl)) (sM rfl rfl (s_call (wn rfl) rfl rfl (pc_call Tryz.func81 rfl Tryz_nm81 rfl) (Tryz_laws_markInt64S (H8.mine 2 rfl) (H8.nodup1 (i := 2) rfl) (by constructor <;> omega)) (fun v2 w9 r2 => ?_))))))))))))))
  obtain ⟨rfl, mx1, mm1, ml1, mk1⟩ := r2
  obtain ⟨fp1, H9⟩ := H8.mut 2 rfl mm1
  try dsimp only [lNA, lCA, lSZ, lSS] at H9
  refine sA rfl rfl (s_nil (W_sr (sM rfl rfl (sM rfl rfl (sV rfl (py_elz tu30 ts68 rfl rfl ee1 i (by omega) (by omega)) (sV rfl (py_field tu68 rfl ts45 rfl rfl) (sV rfl (py_load tu45 rfl rfl (at_cell (H9.holAt 0 rfl) 7 rfl)) (sM rfl rfl (s_call (wn rfl) rfl rfl (pc_call Tryz.func88 rfl Tryz_nm88 rfl) (Tryz_laws_markByteS (H9.mine 3 rfl) (H9.nodup1 (i := 3) rfl) (by constructor <;> omega)) (fun v3 w10 r3 => ?_))))))))))
  obtain ⟨rfl, mx2, mm2, ml2, mk2⟩ := r3
  obtain ⟨fp2, H10⟩ := H9.mut 3 rfl mm2
  try dsimp only [lNA, lCA, lSZ, lSS] at H10
  refine sA rfl rfl (s_nil (W_reg (sM rfl rfl (sM rfl rfl (sV rfl (py_elz tu30 ts68 rfl rfl ee1 i (by omega) (by omega)) (sV rfl (py_field tu68 rfl ts45 rfl rfl) (sV rfl (py_load tu45 rfl rfl (at_cell (H10.holAt 0 rfl) 8 rfl)) (sM rfl rfl (s_call (wn rfl) rfl rfl (pc_call Tryz.func88 rfl Tryz_nm88 rfl) (Tryz_laws_markByteS (H10.mine 4 rfl) (H10.nodup1 (i := 4) rfl) (by constructor <;> omega)) (fun v4 w11 r4 => ?_))))))))))
  obtain ⟨rfl, mx3, mm3, ml3, mk3⟩ := r4
  obtain ⟨fp3, H11⟩ := H10.mut 4 rfl mm3
  try dsimp only [lNA, lCA, lSZ, lSS] at H11
  refine sA rfl rfl (s_nil (W_reg (sM rfl rfl (sV rfl (py_add rfl rfl (in64 ⟨by omega, by omega⟩)) (sA rfl rfl (s_nil ?_))))))
  have okz : (⟨(k + sumN (fun i => mkRec (xs.getD i default)) i), (k + sumN (fun i => mkRec (xs.getD i default)) i) + 1, mText ((k + sumN (fun i => mkRec (xs.getD i default)) i) + 1 + 1), (k + sumN (fun i => mkRec (xs.getD i default)) i) + 1 + 1 + 1, (k + sumN (fun i => mkRec (xs.getD i default)) i) + 1 + 1 + 1 + 1, (k + sumN (fun i => mkRec (xs.getD i default)) i) + 1 + 1 + 1 + 1 + 1, mx1, mx2, mx3⟩ : Rec).Ok := by unfold Rec.Ok I64ok; dsimp only; omega
  obtain ⟨fp4, H12⟩ := Rec.fill H11 0 2 3 4 rfl rfl rfl rfl rfl rfl rfl rfl rfl rfl okz
  try dsimp only [lNA, lCA, lSZ, lSS] at H12
  refine ⟨(i + 1, _, _), ⟨rfl, eqI (by omega), rfl, trivial⟩, ⟨(H12.dtake 1), mk_step hI hiL (by rw [← hci]; unfold mkRec; dsimp only; omega) (by
   refine ⟨rfl, rfl, ?_, by dsimp only; omega, by dsimp only; omega, by dsimp only; omega, ?_, ?_, ?_⟩
   ·dsimp only; congr 1; omega
   ·have := mk1; dsimp only; rwa [show (k + sumN (fun i => mkRec (xs.getD i default)) i) + 1 + 1 + 1 + 1 + 1 + 1 = (k + sumN (fun i => mkRec (xs.getD i default)) i) + 6 by omega] at this
   ·have := mk2; dsimp only; rwa [show (k + sumN (fun i => mkRec (xs.getD i default)) i) + 1 + 1 + 1 + 1 + 1 + 1 + ((ys.getD i default).Rows.length : Int) = (k + sumN (fun i => mkRec (xs.getD i default)) i) + 6 + mx1.length by omega] at this
   ·have := mk3; dsimp only; rwa [show (k + sumN (fun i => mkRec (xs.getD i default)) i) + 1 + 1 + 1 + 1 + 1 + 1 + ((ys.getD i default).Rows.length : Int) + ((ys.getD i default).Data.length : Int) = (k + sumN (fun i => mkRec (xs.getD i default)) i) + 6 + mx1.length + mx2.length by omega] at this), trivial⟩, by dsimp only; omega⟩
 ·refine W_exit (W_sr (sM rfl rfl (sA rfl rfl (s_nil (rT hQ Tryz.results83 rfl ?_)))))
  obtain rfl : i = xs.length := by omega
  exact ⟨rfl, _, H1.done, mk_end hI⟩
theorem Tryz_laws_markTapeS {w : World} {xs : List Tape} {xsA : Option Addr} {xsC : Nat} {k : Int} {fp : List Nat} (o : own true w [.slice xsA xs.length xsC] xs fp) (nd : fp.Nodup) (hk : 0 ≤ k ∧ k + mkL mkTape xs ≤ 4611686018427387904) : Ret Tryz.prog 82 #[.slice xsA xs.length xsC, .int .i64 k] w fun v w' => (v = .int .i64 (k + mkL mkTape xs) ∧ ∃ xs', Mut w w' fp [.slice xsA xs.length xsC] xs' ∧ (xs'.length = xs.length ∧ mkL mkTape xs' = mkL mkTape xs ∧ MkL MkTape mkTape xs' k)) := by
 have len := oL o
 refine ret_Q (vs := [.slice xsA xs.length xsC, .int .i64 k]) Tryz.func82 rfl Tryz.ntmps82 rfl (fun Q hQ hN => ?_)
 have H0 := Sep.begin o nd
 refine W_sr (sA rfl rfl (s_nil (W_seq (W_sr (sA rfl rfl (s_nil (W_block (W_loop (γ := Nat × List Tape × List Nat) (fun (i, ys, f) => [(0, .slice xsA xs.length xsC), (1, .int .i64 (k + sumN (fun i => mkTape (xs.getD i default)) i)), (5, .int .i64 i)]) (fun (i, ys, f) w' => Sep (· ∈ fp) w [mine [.slice xsA xs.length xsC] ys f] [] w' ∧ MkInv MkTape mkTape xs k i ys ∧ True) (fun (i, ys, f) => xs.length - i) (0, xs, fp) ⟨rfl, eqI (by simp [sumN]), rfl, trivial⟩ ⟨H0, mk_begin, trivial⟩ (fun (i, ys, f) w1 H1 => ?_)))))))))
 obtain ⟨H1, hI, _⟩ := H1
 refine W_seq (W_seq ?_)
 have hiB := hI.1
 have hys := hI.2.1
 refine W_reg (sM rfl rfl (sM rfl rfl (sV rfl (py_len tu36 rfl) (sV rfl (py_lss rfl rfl) (s_nil (W_ifd rfl (fun c1 => ?_) (fun c1 => ?_)))))))
 ·refine W_skip (W_seq (W_block (W_seq ?_)))
  have hiL : i < xs.length := by omega
  have hat := mk_at hI
  obtain ⟨sg, sl⟩ := mkL_at (c := mkTape) hiL
  have hci : mkTape (ys.getD i default) = mkTape (xs.getD i default) := hI.2.2.1 i
  have hcu : mkTape (ys.getD i default) = 1 + mkL mkRec (ys.getD i default).Recs := rfl
  obtain ⟨eb1, eo1, eT1, eF1, eG1, ea1, ek1, eg1, ee1, eK1, eH1⟩ := Tape.focus H1 0 rfl i (by omega)
  have eK1U := eK1
  unfold Tape.Ok at eK1U
  try unfold I64ok at eK1U
  try unfold maxLen at eK1U
  try dsimp only [lNA, lCA, lSZ, lSS] at eH1
  refine W_reg (sM rfl rfl (sM rfl rfl (sM rfl rfl (sV rfl (py_rem rfl rfl (by omega)) (sV rfl (py_eql rfl rfl) (sV rfl (py_elz tu36 ts139 rfl rfl ee1 i (by omega) (by omega)) (sV rfl (py_field tu139 rfl ts4 rfl rfl) (s_hsto (wn rfl) ts4 eH1 0 0 rfl rfl rfl rfl rfl (fun w2 H2 => ?_)))))))))
  dsimp only [lNA, lCA, lSZ, lSS, layL] at H2
  refine s_nil (W_sr (sM rfl rfl (sV rfl (py_add rfl rfl (in64 ⟨by omega, by omega⟩)) (sA rfl rfl (s_nil (W_reg (sM rfl rfl (sM rfl rfl (sV rfl (py_elz tu36 ts139 rfl rfl ee1 i (by omega) (by omega)) (sV rfl (py_field tu139 rfl ts30 rfl rfl) (sV rfl (py_load tu30 rfl rfl (at_cell (H2.holAt 0 rfl) 1 rfl)) (sM rfl rfl (s_call (wn rfl) rfl rfl (pc_call Tryz.func83 rfl Tryz_nm83 rfl) (Tryz_laws_markRecS (H2.mine 2 rfl) (H2.nodup1 (i := 2) rfl) (by constructor <;> omega)) (fun v1 w3 r1 => ?_))))))))))))))
  obtain ⟨rfl, mx1, mm1, ml1⟩ := r1
  obtain ⟨fp1, H3⟩ := H2.mut 2 rfl mm1
  try dsimp only [lNA, lCA, lSZ, lSS] at H3
  refine sA rfl rfl (s_nil (W_reg (sM rfl rfl (sV rfl (py_add rfl rfl (in64 ⟨by omega, by omega⟩)) (sA rfl rfl (s_nil ?_))))))
  have okz : (⟨decide ((k + sumN (fun i => mkTape (xs.getD i default)) i).tmod 3 = 0), mx1⟩ : Tape).Ok := trivial
  obtain ⟨fp2, H4⟩ := Tape.fill H3 0 2 rfl rfl rfl okz
  try dsimp only [lNA, lCA, lSZ, lSS] at H4
  refine ⟨(i + 1, _, _), ⟨rfl, eqI (by omega), rfl, trivial⟩, ⟨(H4.dtake 1), mk_step hI hiL (by rw [← hci]; unfold mkTape; dsimp only; rw [ml1.2.1]) ⟨rfl, ml1.2.2⟩, trivial⟩, by dsimp only; omega⟩
 ·refine W_exit (W_sr (sM rfl rfl (sA rfl rfl (s_nil (rT hQ Tryz.results82 rfl ?_)))))
  obtain rfl : i = xs.length := by omega
  exact ⟨rfl, _, H1.done, mk_end hI⟩
end Go.Wk
namespace Go.Wk
open Go.Proofs Rp
set_option maxRecDepth 10000
theorem Tryz_laws_markWorld {w : World} {x : Wld} {xA9 xA10 xA11 : Option Addr} {xC9 xC10 xC11 : Nat} {k : Int} {fp : List Nat} (xK : x.Ok) (o : own true w [.int .i64 x.Shape.Groups, .int .i64 x.Shape.Column, .int .i64 x.Shape.Data, .int .i64 x.Shape.Spare, .int .i64 x.Shape.Rows, .int .i64 x.Shape.Cap, .int .i64 x.Shape.Batch, .int .i64 x.Shape.Queue, .int .i64 x.Shape.Stage, .slice xA9 x.Groups.length xC9, .slice xA10 x.On.length xC10, .slice xA11 x.Tapes.length xC11, .int .i64 x.Writes, .int .i64 x.Stop, .bool x.Down] x fp) (nd : fp.Nodup) (hk : 0 ≤ k ∧ k + mkWld x ≤ 4611686018427387904) : Ret Tryz.prog 21 #[x.val xA9 xC9 xA10 xC10 xA11 xC11, .int .i64 k] w fun v w' => (v = .int .i64 (k + mkWld x) ∧ ∃ x' : Wld, Mut w w' fp [.int .i64 x.Shape.Groups, .int .i64 x.Shape.Column, .int .i64 x.Shape.Data, .int .i64 x.Shape.Spare, .int .i64 x.Shape.Rows, .int .i64 x.Shape.Cap, .int .i64 x.Shape.Batch, .int .i64 x.Shape.Queue, .int .i64 x.Shape.Stage, .slice xA9 x.Groups.length xC9, .slice xA10 x.On.length xC10, .slice xA11 x.Tapes.length xC11, .int .i64 x.Writes, .int .i64 x.Stop, .bool x.Down] x' ∧ (x'.Groups.length = x.Groups.length ∧ x'.On.length = x.On.length ∧ x'.Tapes.length = x.Tapes.length ∧ mkWld x' = mkWld x ∧ MkWld x' k ∧ x'.Shape = x.Shape ∧ x'.Writes = x.Writes ∧ x'.Stop = x.Stop ∧ x'.Down = x.Down)) := by
 unfold mkWld at hk
 refine ret_Q (vs := [x.val xA9 xC9 xA10 xC10 xA11 xC11, .int .i64 k]) Tryz.func21 rfl Tryz.ntmps21 rfl (fun Q hQ hN => ?_)
 obtain ⟨f9, f10, f11, ef, ok, o9, o10, o11⟩ := own_WldC o
 have H0 := (Sep.begin o nd).part 0 rfl [mine [.slice xA9 x.Groups.length xC9] x.Groups f9, mine [.slice xA10 x.On.length xC10] x.On f10, mine [.slice xA11 x.Tapes.length xC11] x.Tapes f11] (all_cons o9 (all_cons o10 (all_cons o11 (by simp)))) (by simp [blocks, mine, ef])
 try dsimp only [lNA, lCA, lSZ, lSS] at H0
 refine W_sr (s_box (wn rfl) rfl rfl H0 (fun b1 w1 e1 g1 H1 => ?_))
 refine sA rfl rfl (s_nil (W_sr (sV rfl (py_field tu38 rfl ts35 rfl rfl) (sV rfl (py_load tu35 rfl rfl (cell_atL (H1.box 4 rfl) rfl)) (sM rfl rfl (s_call (wn rfl) rfl rfl (pc_call Tryz.func80 rfl Tryz_nm80 rfl) (Tryz_laws_markDriveSS (H1.mine 1 rfl) (H1.nodup1 (i := 1) rfl) (by constructor <;> omega)) (fun v1 w2 r1 => ?_)))))))
 obtain ⟨rfl, mx1, mm1, ml1⟩ := r1
 obtain ⟨fp1, H2⟩ := H1.mut 1 rfl mm1
 try dsimp only [lNA, lCA, lSZ, lSS] at H2
 refine sA rfl rfl (s_nil (W_sr (sV rfl (py_field tu38 rfl ts25 rfl rfl) (sV rfl (py_load tu25 rfl rfl (cell_atL (H2.box 4 rfl) rfl)) (sM rfl rfl (s_call (wn rfl) rfl rfl (pc_call Tryz.func81 rfl Tryz_nm81 rfl) (Tryz_laws_markInt64S (H2.mine 2 rfl) (H2.nodup1 (i := 2) rfl) (by constructor <;> omega)) (fun v2 w3 r2 => ?_)))))))
 obtain ⟨rfl, mx2, mm2, ml2, mk1⟩ := r2
 obtain ⟨fp2, H3⟩ := H2.mut 2 rfl mm2
 try dsimp only [lNA, lCA, lSZ, lSS] at H3
 refine sA rfl rfl (s_nil (W_sr (sV rfl (py_field tu38 rfl ts36 rfl rfl) (sV rfl (py_load tu36 rfl rfl (cell_atL (H3.box 4 rfl) rfl)) (sM rfl rfl (s_call (wn rfl) rfl rfl (pc_call Tryz.func82 rfl Tryz_nm82 rfl) (Tryz_laws_markTapeS (H3.mine 3 rfl) (H3.nodup1 (i := 3) rfl) (by constructor <;> omega)) (fun v3 w4 r3 => ?_)))))))
 obtain ⟨rfl, mx3, mm3, ml3⟩ := r3
 obtain ⟨fp3, H4⟩ := H3.mut 3 rfl mm3
 try dsimp only [lNA, lCA, lSZ, lSS] at H4
 refine sA rfl rfl (s_nil (W_sr (sM rfl rfl (sA rfl rfl (s_nil (rT hQ Tryz.results21 rfl ?_))))))
 exact ⟨congrArg (Value.int .i64) (by unfold mkWld; omega), Wld.mkOut ok (H4.dtake 4) ml1 ml2 mk1 ml3⟩
end Go.Wk
