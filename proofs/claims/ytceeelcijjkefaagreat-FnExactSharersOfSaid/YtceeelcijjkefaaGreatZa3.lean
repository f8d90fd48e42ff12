/-
  Laws on walking, and the functions walked, each once: what this claim comes to.
-/
import Derived.Test.YtceeelcijjkefaaGreatZa2
set_option linter.unusedVariables false
set_option linter.unusedSimpArgs false
namespace Go.Wk
open Go.Proofs Rp
set_option maxRecDepth 10000
set_option maxHeartbeats 1000000 in
theorem Tryz_spec_l5Built {w : World} {z : Wld} {zA9 : Option Addr} {zC9 : Nat} {zA10 : Option Addr} {zC10 : Nat} {zA11 : Option Addr} {zC11 : Nat} (zK : z.Ok) (zS9 : Sees w [.slice zA9 z.Groups.length zC9] z.Groups) (zS10 : Sees w [.slice zA10 z.On.length zC10] z.On) (zS11 : Sees w [.slice zA11 z.Tapes.length zC11] z.Tapes) (hs : z.Shape.ok = true) : Ret Tryz.prog 147 #[z.val zA9 zC9 zA10 zC10 zA11 zC11] w fun v w' => Ext No w w' ∧ (v = .bool (groupsOK z)) := by
 have zK2 := zK
 unfold Wld.Ok Shape.Ok at zK2
 try unfold I64ok at zK2
 try unfold maxLen at zK2
 have zL9 := sees_len zS9
 unfold maxLen at zL9
 obtain ⟨zF9, zO9⟩ := zS9
 have zL10 := sees_len zS10
 unfold maxLen at zL10
 obtain ⟨zF10, zO10⟩ := zS10
 have zL11 := sees_len zS11
 unfold maxLen at zL11
 obtain ⟨zF11, zO11⟩ := zS11
 have sbd := shape_bd hs
 refine ret_Q (vs := [z.val zA9 zC9 zA10 zC10 zA11 zC11]) Tryz.func147 rfl Tryz.ntmps147 rfl (fun Q hQ hN => ?_)
 have H0 := Sep.start (w := w) (F := [seen false [.slice zA9 z.Groups.length zC9] z.Groups zF9, seen false [.slice zA10 z.On.length zC10] z.On zF10, seen false [.slice zA11 z.Tapes.length zC11] z.Tapes zF11]) (all_cons zO9 (all_cons zO10 (all_cons zO11 (by simp))))
 refine W_sr (s_box (wn rfl) rfl rfl H0 (fun b1 w1 e1 g1 H1 => ?_))
 refine sV rfl (py_assign rfl) (s_nil (W_sr (sV rfl (py_field Tryz.underlying37 rfl Tryz.sizeOf33 rfl rfl) (sV rfl (py_loadS Tryz.underlying33 rfl Tryz.sizeOf33 rfl rfl (At.sub (H1.box 0 rfl) 9)) (s_var (wn rfl) rfl Tryz.zeroValue33 H1 (fun b2 w2 e2 g2 H2 => ?_))))))
 refine s_stoS (wn rfl) Tryz.sizeOf33 rfl rfl rfl rfl H2 1 rfl rfl (fun w3 e3 H3 => ?_)
 dsimp only [List.nil_append, List.cons_append, List.set_cons_zero, List.set_cons_succ, layL] at H3
 refine s_nil (W_seq (W_seq (W_drw (S := Ext No _) [(0, true), (1, true), (2, true), (3, true), (4, false), (5, false)] (by kernel_rfl) (by kernel_rfl) (by kernel_rfl) rfl (fun _ => Ext.refl.drawn _) (fun q1 => ?_))))
 have H4 := H3.drawn q1
 refine dV rfl rfl (fun zw hx => py_field Tryz.underlying37 rfl Tryz.sizeOf34 rfl rfl) (dV rfl rfl (fun zw hx => py_load Tryz.underlying34 rfl rfl (cell_atL (hx.heap (H4.box 0 rfl)) rfl)) (dV rfl rfl (fun zw hx => py_len Tryz.underlying34 rfl) (dV rfl rfl (fun zw hx => py_loadS Tryz.underlying33 rfl Tryz.sizeOf33 rfl rfl (At.whole (hx.heap (H4.box 1 rfl)))) (d_call rfl (wn rfl) rfl rfl (pc_call Tryz.func83 rfl Tryz_nm83 rfl) (Tryz_spec_l5All (by assumption)) (fun hS _ _ r _ => hS.trans r.1.no) (fun v1 w4 r1 => ?_)))))
 obtain ⟨e4, rfl⟩ := r1
 have H5 := H4.to e4
 refine d_end rfl (wn rfl) rfl rfl (py_neq rfl rfl) (d_nil (W_ifd rfl (fun c1 => ?_) (fun c1 => ?_)))
 ·refine W_sr (sV rfl (py_assign rfl) (s_nil (W_ret (hQ _ _ (fin1 Tryz.results147 rfl ?_)))))
  exact ⟨H5.ext, congrArg Value.bool (groupsOK_len (by omega)).symm⟩
 ·refine W_skip (W_seq (W_sr (sV rfl (py_assign rfl) (s_nil (W_block (W_loopS (γ := Nat) H5 [(1, _), (3, _)] ⟨rfl, rfl, trivial⟩ (fun k => [(4, .int .i64 k)]) (fun k => k ≤ z.Groups.length ∧ (∀ i, i < k → groupOK z.Shape (z.Groups.getD i []) = true)) (fun k => z.Groups.length - k) 0 ⟨rfl, trivial⟩ ⟨by omega, fun i hi => by omega⟩ (fun k w5 H6 ⟨hk, he⟩ => ?_)))))))
  dsimp only [List.cons_append, List.nil_append]
  refine W_seq (W_sr (sV rfl (py_move rfl) (sV rfl (py_field Tryz.underlying37 rfl Tryz.sizeOf34 rfl rfl) (sV rfl (py_load Tryz.underlying34 rfl rfl (cell_atL (H6.box 0 rfl) rfl)) (sV rfl (py_len Tryz.underlying34 rfl) (sV rfl (py_lss rfl rfl) (s_nil (W_ifd rfl (fun c2 => ?_) (fun c2 => ?_)))))))))
  ·refine W_skip (W_seq (W_block (W_seq (W_seq ?_))))
   obtain ⟨eb1, eo1, ea1, ek1, ef1, ee1, ec1, eO1, eH1⟩ := elem_sl (H6.seen 0 rfl) k (by omega)
   have eP1 := H6.look1 0 rfl eO1 eH1
   refine W_drw (S := Ext No _) [(0, true), (1, true), (2, true), (3, true), (4, true), (5, true), (6, true), (7, false), (8, false)] (by kernel_rfl) (by kernel_rfl) (by kernel_rfl) rfl (fun _ => Ext.refl.drawn _) (fun q2 => ?_)
   have H7 := eP1.drawn q2
   refine dV rfl rfl (fun zw hx => py_field Tryz.underlying37 rfl Tryz.sizeOf34 rfl rfl) (dV rfl rfl (fun zw hx => py_load Tryz.underlying34 rfl rfl (cell_atL (hx.heap (H7.box 0 rfl)) rfl)) (dV rfl rfl (fun zw hx => py_move rfl) (dV rfl rfl (fun zw hx => py_elz Tryz.underlying34 Tryz.sizeOf147 rfl rfl ee1 k (by omega) (by omega)) (dV rfl rfl (fun zw hx => py_load Tryz.underlying147 rfl rfl (hx.cell ec1)) (dV rfl rfl (fun zw hx => py_len Tryz.underlying147 rfl) (dV rfl rfl (fun zw hx => py_loadS Tryz.underlying33 rfl Tryz.sizeOf33 rfl rfl (At.whole (hx.heap (H7.box 1 rfl)))) (d_call rfl (wn rfl) rfl rfl (pc_call Tryz.func157 rfl Tryz_nm157 rfl) (Tryz_spec_l5Drives (by assumption)) (fun hS _ _ r _ => hS.trans r.1.no) (fun v2 w6 r2 => ?_))))))))
   obtain ⟨e5, rfl⟩ := r2
   have H8 := H7.to e5
   refine d_end rfl (wn rfl) rfl rfl (py_neq rfl rfl) (d_nil (W_ifd rfl (fun c3 => ?_) (fun c3 => ?_)))
   ·refine W_sr (sV rfl (py_assign rfl) (s_nil (W_ret (hQ _ _ (fin1 Tryz.results147 rfl ?_)))))
    exact ⟨H8.ext, congrArg Value.bool (groupsOK_at k (by omega) (groupOK_len (by omega))).symm⟩
   ·refine W_skip (W_sr (sV rfl (py_assign rfl) (s_nil (W_block (W_loopS (γ := Nat) H8 [(1, _), (3, _), (4, _)] ⟨rfl, rfl, rfl, trivial⟩ (fun k2 => [(5, .int .i64 k2)]) (fun k2 => k2 ≤ (z.Groups.getD k []).length ∧ (∀ i, i < k2 → driveOK z.Shape ((z.Groups.getD k []).getD i default) = true)) (fun k2 => (z.Groups.getD k []).length - k2) 0 ⟨rfl, trivial⟩ ⟨by omega, fun i hi => by omega⟩ (fun k2 w7 H9 ⟨hk2, hek2⟩ => ?_))))))
    dsimp only [List.cons_append, List.nil_append]
    refine W_seq (W_seq ?_)
    obtain ⟨eb2, eo2, ea2, ek2, ef2, ee2, ec2, eO2, eH2⟩ := elem_sl (H9.seen 0 rfl) k (by omega)
    have eP2 := H9.look1 0 rfl eO2 eH2
    refine W_reg (sV rfl (py_move rfl) (sV rfl (py_field Tryz.underlying37 rfl Tryz.sizeOf34 rfl rfl) (sV rfl (py_load Tryz.underlying34 rfl rfl (cell_atL (eP2.box 0 rfl) rfl)) (sV rfl (py_move rfl) (sV rfl (py_elz Tryz.underlying34 Tryz.sizeOf147 rfl rfl ee2 k (by omega) (by omega)) (sV rfl (py_load Tryz.underlying147 rfl rfl ec2) (sV rfl (py_len Tryz.underlying147 rfl) (sV rfl (py_lss rfl rfl) (s_nil (W_ifd rfl (fun c4 => ?_) (fun c4 => ?_)))))))))))
    ·refine W_skip (W_seq (W_block (W_seq ?_)))
     obtain ⟨eb3, eo3, ea3, ek3, ef3, ee3, ec3, eO3, eH3⟩ := elem_sl (eP2.seen 0 rfl) k (by omega)
     have eP3 := eP2.look1 0 rfl eO3 eH3
     obtain ⟨eb4, eo4, es1, ef4, ee4, ec4, eO4, eH4, em1⟩ := elem_st (eP3.seen 5 rfl) k2 (by omega)
     obtain ⟨ea4, ek4, eg1, rfl, eq1, eK1, eo5⟩ := own_Drive eO4
     have eP4 := eP3.look1 5 rfl eo5 (fun b hb => eH4 b (by rw [eq1]; simp [hb]))
     have eL1 := own_len_le eo5
     unfold maxLen at eL1
     refine W_reg (sV rfl (py_field Tryz.underlying37 rfl Tryz.sizeOf34 rfl rfl) (sV rfl (py_load Tryz.underlying34 rfl rfl (cell_atL (eP4.box 0 rfl) rfl)) (sV rfl (py_move rfl) (sV rfl (py_elz Tryz.underlying34 Tryz.sizeOf147 rfl rfl ee3 k (by omega) (by omega)) (sV rfl (py_load Tryz.underlying147 rfl rfl ec3) (sV rfl (py_move rfl) (sV rfl (py_elz Tryz.underlying147 Tryz.sizeOf150 rfl rfl ee4 k2 (by omega) (by omega)) (sV rfl (py_field Tryz.underlying150 rfl Tryz.sizeOf148 rfl rfl) (sV rfl (py_load Tryz.underlying148 rfl rfl (at_cell ec4 1 rfl)) (sV rfl (py_assign rfl) (s_nil (W_seq (W_sr (sV rfl (py_move rfl) (sV rfl (py_len Tryz.underlying148 rfl) (sV rfl (py_field Tryz.underlying33 rfl Tryz.sizeOf2 rfl rfl) (sV rfl (py_load Tryz.underlying2 rfl rfl (cell_atL (eP4.box 1 rfl) rfl)) (sV rfl (py_neq rfl rfl) (s_nil (W_ifd rfl (fun c5 => ?_) (fun c5 => ?_)))))))))))))))))))))
     ·refine W_sr (sV rfl (py_assign rfl) (s_nil (W_ret (hQ _ _ (fin1 Tryz.results147 rfl ?_)))))
      exact ⟨eP4.ext, congrArg Value.bool (groupsOK_at k (by omega) (groupOK_at k2 (by omega) (driveOK_len (by omega)))).symm⟩
     ·refine W_skip (W_sr (sV rfl (py_assign rfl) (s_nil (W_block (W_loopS (γ := Nat) eP4 [(1, _), (3, _), (4, _), (5, _), (6, _)] ⟨rfl, rfl, rfl, rfl, rfl, trivial⟩ (fun k3 => [(7, .int .i64 k3)]) (fun k3 => k3 ≤ ((z.Groups.getD k []).getD k2 default).Blocks.length ∧ (∀ i, i < k3 → blockOK (((z.Groups.getD k []).getD k2 default).Blocks.getD i default) = true)) (fun k3 => ((z.Groups.getD k []).getD k2 default).Blocks.length - k3) 0 ⟨rfl, trivial⟩ ⟨by omega, fun i hi => by omega⟩ (fun k3 w8 H10 ⟨hk3, hek3⟩ => ?_))))))
      dsimp only [List.cons_append, List.nil_append]
      refine W_seq (W_sr (sV rfl (py_move rfl) (sV rfl (py_move rfl) (sV rfl (py_len Tryz.underlying148 rfl) (sV rfl (py_lss rfl rfl) (s_nil (W_ifd rfl (fun c6 => ?_) (fun c6 => ?_))))))))
      ·refine W_skip (W_seq (W_block (W_seq ?_)))
       obtain ⟨eb5, eo6, es2, ef5, ee5, ec5, eO5, eH5, em2⟩ := elem_st (H10.seen 6 rfl) k3 (by omega)
       obtain ⟨ea5, ek5, eg2, rfl, eq2, eK2, eo7⟩ := own_Block eO5
       have eK2U := eK2
       unfold Block.Ok at eK2U
       try unfold I64ok at eK2U
       try unfold maxLen at eK2U
       have eP5 := H10.look1 6 rfl eo7 (fun b hb => eH5 b (by rw [eq2]; simp [hb]))
       have eL2 := own_len_le eo7
       unfold maxLen at eL2
       refine W_reg (sV rfl (py_move rfl) (sV rfl (py_move rfl) (sV rfl (py_elz Tryz.underlying148 Tryz.sizeOf152 rfl rfl ee5 k3 (by omega) (by omega)) (sV rfl (py_field Tryz.underlying152 rfl Tryz.sizeOf2 rfl rfl) (sV rfl (py_load Tryz.underlying2 rfl rfl (at_cell ec5 0 rfl)) (s_call (wn rfl) rfl rfl (pc_call Tryz.func149 rfl Tryz_nm149 rfl) Tryz_spec_l1In (fun v3 w9 r3 => ?_)))))))
       obtain ⟨e6, rfl⟩ := r3
       have H11 := eP5.to e6
       refine sV rfl (py_not rfl) (sV rfl (py_move rfl) (s_grp 7 (j := 7) (want := false) (t := 76) rfl rfl rfl rfl (fun hg1 kk1 => s_val (wgE rfl rfl rfl hg1) rfl rfl (py_move rfl) (s_val (wgE rfl rfl rfl hg1) rfl rfl (py_move rfl) (s_val (wgE rfl rfl rfl hg1) rfl rfl (py_elz Tryz.underlying148 Tryz.sizeOf152 rfl rfl ee5 k3 (by first | omega | (simp only [Bool.or_eq_false_iff, Bool.and_eq_true, Bool.and_eq_false_iff, Bool.or_eq_true, Bool.not_eq_true', Bool.not_eq_false', decide_eq_true_eq, decide_eq_false_iff_not] at hg1; omega)) (by omega)) (s_val (wgE rfl rfl rfl hg1) rfl rfl (py_field Tryz.underlying152 rfl Tryz.sizeOf61 rfl rfl) (s_val (wgE rfl rfl rfl hg1) rfl rfl (py_load Tryz.underlying61 rfl rfl (at_cell (e6.at ec5) 1 rfl)) (s_val (wgE rfl rfl rfl hg1) rfl rfl (py_len Tryz.underlying61 rfl) (s_val (wgE rfl rfl rfl hg1) rfl rfl (py_neq rfl rfl) (kk1 _ _ (kx rfl (kx rfl (kx rfl (kx rfl (kx rfl (kx rfl (kx rfl k0))))))) rfl Ext.refl)))))))) (fun w10 e7 => ?_)))
       have H12 := H11.to e7
       refine sV rfl (py_bor rfl rfl) (s_nil (W_if rfl (fun c7 => ?_) (fun c7 => ?_)))
       ·refine W_sr (sV rfl (py_assign rfl) (s_nil (W_ret (hQ _ _ (fin1 Tryz.results147 rfl ?_)))))
        exact ⟨H12.ext, congrArg Value.bool (groupsOK_at k (by omega) (groupOK_at k2 (by omega) (driveOK_at k3 (by omega) (blockOK_no c7)))).symm⟩
       ·refine W_skip (W_reg (sV rfl (py_move rfl) (sV rfl (py_add rfl rfl (in64 ⟨by omega, by omega⟩)) (sV rfl (py_assign rfl) (s_nil (⟨k3 + 1, ⟨rfl, rfl, rfl, rfl, rfl, rfl, trivial⟩, ⟨(H12.ftake 7), by omega, fun i hi => ?_⟩, by dsimp only; omega⟩))))))
        by_cases e : i = k3
        ·subst e
         exact blockOK_yes (by assumption)
        ·exact hek3 i (by omega)
      ·refine W_exit (W_reg (sV rfl (py_move rfl) (sV rfl (py_add rfl rfl (in64 ⟨by omega, by omega⟩)) (sV rfl (py_assign rfl) (s_nil (⟨k2 + 1, ⟨rfl, rfl, rfl, rfl, trivial⟩, ⟨(H10.ftake 4), by omega, fun i hi => ?_⟩, by dsimp only; omega⟩))))))
       by_cases e : i = k2
       ·subst e
        exact driveOK_all (by omega) (fun i hi => hek3 i (by omega))
       ·exact hek2 i (by omega)
    ·refine W_exit (W_reg (sV rfl (py_move rfl) (sV rfl (py_add rfl rfl (in64 ⟨by omega, by omega⟩)) (sV rfl (py_assign rfl) (s_nil (⟨k + 1, ⟨rfl, rfl, rfl, trivial⟩, ⟨(eP2.ftake 3), by omega, fun i hi => ?_⟩, by dsimp only; omega⟩))))))
     by_cases e : i = k
     ·subst e
      exact groupOK_yes (by omega) (fun i hi => hek2 i (by omega))
     ·exact he i (by omega)
  ·refine W_exit (W_sr (sV rfl (py_assign rfl) (s_nil (W_ret (hQ _ _ (fin1 Tryz.results147 rfl ?_))))))
   exact ⟨H6.ext, congrArg Value.bool (groupsOK_yes (by omega) (fun i hi => he i (by omega))).symm⟩
theorem Tryz_impl_WorldFault {w : World} {z : Wld} {zA9 : Option Addr} {zC9 : Nat} {zA10 : Option Addr} {zC10 : Nat} {zA11 : Option Addr} {zC11 : Nat} (zK : z.Ok) (zS9 : Sees w [.slice zA9 z.Groups.length zC9] z.Groups) (zS10 : Sees w [.slice zA10 z.On.length zC10] z.On) (zS11 : Sees w [.slice zA11 z.Tapes.length zC11] z.Tapes) : Ret Tryz.prog 85 #[z.val zA9 zC9 zA10 zC10 zA11 zC11] w fun v w' => Ext No w w' ∧ (v = .int .i64 (worldF z)) := by
 have zK2 := zK
 unfold Wld.Ok Shape.Ok at zK2
 try unfold I64ok at zK2
 try unfold maxLen at zK2
 have zL9 := sees_len zS9
 unfold maxLen at zL9
 obtain ⟨zF9, zO9⟩ := zS9
 have zL10 := sees_len zS10
 unfold maxLen at zL10
 obtain ⟨zF10, zO10⟩ := zS10
 have zL11 := sees_len zS11
 unfold maxLen at zL11
 obtain ⟨zF11, zO11⟩ := zS11
 refine ret_Q (vs := [z.val zA9 zC9 zA10 zC10 zA11 zC11]) Tryz.func85 rfl Tryz.ntmps85 rfl (fun Q hQ hN => ?_)
 have H0 := Sep.start (w := w) (F := [seen false [.slice zA9 z.Groups.length zC9] z.Groups zF9, seen false [.slice zA10 z.On.length zC10] z.On zF10, seen false [.slice zA11 z.Tapes.length zC11] z.Tapes zF11]) (all_cons zO9 (all_cons zO10 (all_cons zO11 (by simp))))
 refine W_sr (s_box (wn rfl) rfl rfl H0 (fun b1 w1 e1 g1 H1 => ?_))
 refine sV rfl (py_assign rfl) (s_nil (W_seq (W_sr (sV rfl (py_field Tryz.underlying37 rfl Tryz.sizeOf33 rfl rfl) (sV rfl (py_loadS Tryz.underlying33 rfl Tryz.sizeOf33 rfl rfl (At.sub (H1.box 0 rfl) 9)) (s_call (wn rfl) rfl rfl (pc_call Tryz.func150 rfl Tryz_nm150 rfl) Tryz_impl_ShapeFault (fun v1 w2 r1 => ?_)))))))
 obtain ⟨e2, rfl⟩ := r1
 have H2 := H1.to e2
 refine sV rfl (py_assign rfl) (s_nil (W_sr (sV rfl (py_move rfl) (sV rfl (py_neq rfl rfl) (s_nil (W_ifd rfl (fun c1 => ?_) (fun c1 => ?_)))))))
 ·refine W_sr (sV rfl (py_move rfl) (sV rfl (py_assign rfl) (s_nil (W_ret (hQ _ _ (fin1 Tryz.results85 rfl ?_))))))
  exact ⟨H2.ext, congrArg (Value.int .i64) (if_pos (by omega)).symm⟩
 ·refine W_skip (W_seq (W_seq ?_))
  have hs := shapeFault_ok (s := z.Shape) (by omega)
  refine W_reg (sV rfl (py_loadS Tryz.underlying37 rfl Tryz.sizeOf37 rfl rfl (At.whole (H2.box 0 rfl))) (s_call (wn rfl) rfl rfl (pc_call Tryz.func151 rfl Tryz_nm151 rfl) (Tryz_impl_groupsOK (by assumption) (H2.sees 0 rfl) (H2.sees 1 rfl) (H2.sees 2 rfl) (by assumption)) (fun v2 w3 r2 => ?_)))
  obtain ⟨e3, rfl⟩ := r2
  have H3 := H2.to e3
  refine sV rfl (py_not rfl) (sV rfl (py_move rfl) (s_case (t := 14) rfl (fun hg1 => ?_) (fun hg1 => ?_)))
  ·try simp only [decide_eq_true_eq, decide_eq_false_iff_not] at hg1
   refine s_skip (wog (b := true) rfl rfl rfl) rfl rfl (s_skip (wog (b := true) rfl rfl rfl) rfl rfl (s_skip (wog (b := true) rfl rfl rfl) rfl rfl (sV rfl (py_pickT rfl rfl) (sV rfl (py_move rfl) (s_skip (wog (b := true) rfl rfl rfl) rfl rfl (s_skip (wog (b := true) rfl rfl rfl) rfl rfl (s_skip (wog (b := true) rfl rfl rfl) rfl rfl (s_skip (wog (b := true) rfl rfl rfl) rfl rfl (sV rfl (py_pickT rfl rfl) (s_nil (W_ift rfl (W_sr (sV rfl (py_assign rfl) (s_nil (W_ret (hQ _ _ (fin1 Tryz.results85 rfl ?_)))))))))))))))))
   exact ⟨H3.ext, congrArg (Value.int .i64) ((if_neg (by omega)).trans (if_neg (by simp_all <;> omega))).symm⟩
  ·try simp only [decide_eq_true_eq, decide_eq_false_iff_not] at hg1
   refine s_val (wg rfl rfl rfl) rfl rfl (py_loadS Tryz.underlying37 rfl Tryz.sizeOf37 rfl rfl (At.whole (H3.box 0 rfl))) (s_call (wg rfl rfl rfl) rfl rfl (pc_call Tryz.func152 rfl Tryz_nm152 rfl) (Tryz_impl_onOK (by assumption) (H3.sees 0 rfl) (H3.sees 1 rfl) (H3.sees 2 rfl) (by assumption)) (fun v3 w4 r3 => ?_))
   obtain ⟨e4, rfl⟩ := r3
   have H4 := H3.to e4
   refine s_val (wg rfl rfl rfl) rfl rfl (py_not rfl) (sV rfl (py_pickF rfl rfl) (sV rfl (py_move rfl) (s_case (t := 19) rfl (fun hg2 => ?_) (fun hg2 => ?_))))
   ·try simp only [decide_eq_true_eq, decide_eq_false_iff_not] at hg2
    refine s_skip (wog (b := true) rfl rfl rfl) rfl rfl (s_skip (wog (b := true) rfl rfl rfl) rfl rfl (s_skip (wog (b := true) rfl rfl rfl) rfl rfl (s_skip (wog (b := true) rfl rfl rfl) rfl rfl (sV rfl (py_pickT rfl rfl) (s_nil (W_ift rfl (W_sr (sV rfl (py_assign rfl) (s_nil (W_ret (hQ _ _ (fin1 Tryz.results85 rfl ?_))))))))))))
    exact ⟨H4.ext, congrArg (Value.int .i64) ((if_neg (by omega)).trans (if_neg (by simp_all <;> omega))).symm⟩
   ·try simp only [decide_eq_true_eq, decide_eq_false_iff_not] at hg2
    refine s_val (wg rfl rfl rfl) rfl rfl (py_field Tryz.underlying37 rfl Tryz.sizeOf35 rfl rfl) (s_val (wg rfl rfl rfl) rfl rfl (py_load Tryz.underlying35 rfl rfl (cell_atL (H4.box 0 rfl) rfl)) (s_val (wg rfl rfl rfl) rfl rfl (py_len Tryz.underlying35 rfl) (s_val (wg rfl rfl rfl) rfl rfl (py_neq rfl rfl) (sV rfl (py_pickF rfl rfl) (s_nil (W_ifd rfl (fun c2 => ?_) (fun c2 => ?_)))))))
    ·refine W_sr (sV rfl (py_assign rfl) (s_nil (W_ret (hQ _ _ (fin1 Tryz.results85 rfl ?_)))))
     exact ⟨H4.ext, congrArg (Value.int .i64) ((if_neg (by omega)).trans (if_neg (by simp_all <;> omega))).symm⟩
    ·refine W_skip (W_seq (W_sr (sV rfl (py_loadS Tryz.underlying37 rfl Tryz.sizeOf37 rfl rfl (At.whole (H4.box 0 rfl))) (s_call (wn rfl) rfl rfl (pc_call Tryz.func153 rfl Tryz_nm153 rfl) (Tryz_impl_tapesFault (by assumption) (H4.sees 0 rfl) (H4.sees 1 rfl) (H4.sees 2 rfl) (by assumption)) (fun v4 w5 r4 => ?_)))))
     obtain ⟨e5, rfl⟩ := r4
     have H5 := H4.to e5
     refine sV rfl (py_assign rfl) (s_nil (W_sr (sV rfl (py_move rfl) (sV rfl (py_neq rfl rfl) (s_nil (W_ifd rfl (fun c3 => ?_) (fun c3 => ?_)))))))
     ·refine W_sr (sV rfl (py_move rfl) (sV rfl (py_assign rfl) (s_nil (W_ret (hQ _ _ (fin1 Tryz.results85 rfl ?_))))))
      exact ⟨H5.ext, congrArg (Value.int .i64) ((if_neg (by omega)).trans ((if_pos (by simp_all <;> omega)).trans (if_pos (by omega)))).symm⟩
     ·refine W_skip (W_seq (W_sr (sV rfl (py_field Tryz.underlying37 rfl Tryz.sizeOf2 rfl rfl) (sV rfl (py_load Tryz.underlying2 rfl rfl (cell_atL (H5.box 0 rfl) rfl)) (s_call (wn rfl) rfl rfl (pc_call Tryz.func154 rfl Tryz_nm154 rfl) Tryz_impl_inside (fun v5 w6 r5 => ?_))))))
      obtain ⟨e6, rfl⟩ := r5
      have H6 := H5.to e6
      refine sV rfl (py_not rfl) (sV rfl (py_move rfl) (s_case (t := 34) rfl (fun hg3 => ?_) (fun hg3 => ?_)))
      ·try simp only [decide_eq_true_eq, decide_eq_false_iff_not] at hg3
       refine s_skip (wog (b := true) rfl rfl rfl) rfl rfl (s_skip (wog (b := true) rfl rfl rfl) rfl rfl (s_skip (wog (b := true) rfl rfl rfl) rfl rfl (s_skip (wog (b := true) rfl rfl rfl) rfl rfl (sV rfl (py_pickT rfl rfl) (s_nil (W_ift rfl (W_sr (sV rfl (py_assign rfl) (s_nil (W_ret (hQ _ _ (fin1 Tryz.results85 rfl ?_))))))))))))
       exact ⟨H6.ext, congrArg (Value.int .i64) ((if_neg (by omega)).trans ((if_pos (by simp_all <;> omega)).trans ((if_neg (by omega)).trans (if_neg (by simp_all <;> omega))))).symm⟩
      ·try simp only [decide_eq_true_eq, decide_eq_false_iff_not] at hg3
       refine s_val (wg rfl rfl rfl) rfl rfl (py_field Tryz.underlying37 rfl Tryz.sizeOf2 rfl rfl) (s_val (wg rfl rfl rfl) rfl rfl (py_load Tryz.underlying2 rfl rfl (cell_atL (H6.box 0 rfl) rfl)) (s_call (wg rfl rfl rfl) rfl rfl (pc_call Tryz.func154 rfl Tryz_nm154 rfl) Tryz_impl_inside (fun v6 w7 r6 => ?_)))
       obtain ⟨e7, rfl⟩ := r6
       have H7 := H6.to e7
       refine s_val (wg rfl rfl rfl) rfl rfl (py_not rfl) (sV rfl (py_pickF rfl rfl) (s_nil (W_if rfl (fun c4 => ?_) (fun c4 => ?_))))
       ·refine W_sr (sV rfl (py_assign rfl) (s_nil (W_ret (hQ _ _ (fin1 Tryz.results85 rfl ?_)))))
        exact ⟨H7.ext, congrArg (Value.int .i64) ((if_neg (by omega)).trans ((if_pos (by simp_all <;> omega)).trans ((if_neg (by omega)).trans (if_neg (by simp_all <;> omega))))).symm⟩
       ·refine W_skip (W_sr (sV rfl (py_assign rfl) (s_nil (W_ret (hQ _ _ (fin1 Tryz.results85 rfl ?_))))))
        exact ⟨H7.ext, congrArg (Value.int .i64) ((if_neg (by omega)).trans ((if_pos (by simp_all <;> omega)).trans ((if_neg (by omega)).trans (if_pos (by simp_all <;> omega))))).symm⟩
set_option maxHeartbeats 1000000 in
theorem Tryz_spec_WorldFault {w : World} {z : Wld} {zA9 : Option Addr} {zC9 : Nat} {zA10 : Option Addr} {zC10 : Nat} {zA11 : Option Addr} {zC11 : Nat} (zK : z.Ok) (zS9 : Sees w [.slice zA9 z.Groups.length zC9] z.Groups) (zS10 : Sees w [.slice zA10 z.On.length zC10] z.On) (zS11 : Sees w [.slice zA11 z.Tapes.length zC11] z.Tapes) : Ret Tryz.prog 82 #[z.val zA9 zC9 zA10 zC10 zA11 zC11] w fun v w' => Ext No w w' ∧ (v = .int .i64 (worldF z)) := by
 have zK2 := zK
 unfold Wld.Ok Shape.Ok at zK2
 try unfold I64ok at zK2
 try unfold maxLen at zK2
 have zL9 := sees_len zS9
 unfold maxLen at zL9
 obtain ⟨zF9, zO9⟩ := zS9
 have zL10 := sees_len zS10
 unfold maxLen at zL10
 obtain ⟨zF10, zO10⟩ := zS10
 have zL11 := sees_len zS11
 unfold maxLen at zL11
 obtain ⟨zF11, zO11⟩ := zS11
 refine ret_Q (vs := [z.val zA9 zC9 zA10 zC10 zA11 zC11]) Tryz.func82 rfl Tryz.ntmps82 rfl (fun Q hQ hN => ?_)
 have H0 := Sep.start (w := w) (F := [seen false [.slice zA9 z.Groups.length zC9] z.Groups zF9, seen false [.slice zA10 z.On.length zC10] z.On zF10, seen false [.slice zA11 z.Tapes.length zC11] z.Tapes zF11]) (all_cons zO9 (all_cons zO10 (all_cons zO11 (by simp))))
 refine W_sr (s_box (wn rfl) rfl rfl H0 (fun b1 w1 e1 g1 H1 => ?_))
 refine sV rfl (py_assign rfl) (s_nil (W_seq (W_sr (sV rfl (py_field Tryz.underlying37 rfl Tryz.sizeOf33 rfl rfl) (sV rfl (py_loadS Tryz.underlying33 rfl Tryz.sizeOf33 rfl rfl (At.sub (H1.box 0 rfl) 9)) (s_call (wn rfl) rfl rfl (pc_call Tryz.func146 rfl Tryz_nm146 rfl) Tryz_spec_ShapeFault (fun v1 w2 r1 => ?_)))))))
 obtain ⟨e2, rfl⟩ := r1
 have H2 := H1.to e2
 refine sV rfl (py_assign rfl) (s_nil (W_sr (sV rfl (py_move rfl) (sV rfl (py_neq rfl rfl) (s_nil (W_ifd rfl (fun c1 => ?_) (fun c1 => ?_)))))))
 ·refine W_sr (sV rfl (py_move rfl) (sV rfl (py_assign rfl) (s_nil (W_ret (hQ _ _ (fin1 Tryz.results82 rfl ?_))))))
  exact ⟨H2.ext, congrArg (Value.int .i64) (if_pos (by omega)).symm⟩
 ·refine W_skip (W_seq (W_seq ?_))
  have hs := shapeFault_ok (s := z.Shape) (by omega)
  have sbd := shape_bd hs
  refine W_drw (S := Ext No _) [(0, true), (1, false), (2, true), (3, true), (4, true), (5, true), (6, true), (7, true), (8, false), (9, true), (10, false), (11, true), (12, true), (13, true), (14, true), (15, true), (16, true), (17, true), (18, true), (19, true), (20, true), (21, true), (22, true), (23, true), (24, true), (25, true), (26, true), (27, true), (28, true), (29, true), (30, true), (31, true), (32, true), (33, true), (34, true), (35, true), (36, true), (37, false)] (by kernel_rfl) (by kernel_rfl) (by kernel_rfl) rfl (fun _ => Ext.refl.drawn _) (fun q1 => ?_)
  have H3 := H2.drawn q1
  refine dV rfl rfl (fun zw hx => py_loadS Tryz.underlying37 rfl Tryz.sizeOf37 rfl rfl (At.whole (hx.heap (H3.box 0 rfl)))) (d_call rfl (wn rfl) rfl rfl (pc_call Tryz.func147 rfl Tryz_nm147 rfl) (Tryz_spec_l5Built (by assumption) (H3.sees 0 rfl) (H3.sees 1 rfl) (H3.sees 2 rfl) (by assumption)) (fun hS _ _ r _ => hS.trans r.1.no) (fun v2 w3 r2 => ?_))
  obtain ⟨e3, rfl⟩ := r2
  have H4 := H3.to e3
  refine dV rfl rfl (fun zw hx => py_not rfl) (dV rfl rfl (fun zw hx => py_move rfl) (d_case (t := 17) rfl (fun hg1 => ?_) (fun hg1 => ?_)))
  ·try simp only [decide_eq_true_eq, decide_eq_false_iff_not] at hg1
   refine d_skip rfl (wog (b := true) rfl rfl rfl) rfl rfl (d_skip rfl (wog (b := true) rfl rfl rfl) rfl rfl (d_skip rfl (wog (b := true) rfl rfl rfl) rfl rfl (d_skip rfl (wog (b := true) rfl rfl rfl) rfl rfl (d_skipA rfl (wog (b := true) rfl rfl rfl) rfl rfl (d_skip rfl (wog (b := true) rfl rfl rfl) rfl rfl (d_skipA rfl (wog (b := true) rfl rfl rfl) rfl rfl (d_skip rfl (wog (b := true) rfl rfl rfl) rfl rfl (dV rfl rfl (fun zw hx => py_pickT rfl rfl) (dV rfl rfl (fun zw hx => py_move rfl) (d_skip rfl (wog (b := true) rfl rfl rfl) rfl rfl (d_skip rfl (wog (b := true) rfl rfl rfl) rfl rfl (d_skip rfl (wog (b := true) rfl rfl rfl) rfl rfl (d_skip rfl (wog (b := true) rfl rfl rfl) rfl rfl (d_skip rfl (wog (b := true) rfl rfl rfl) rfl rfl (d_skip rfl (wog (b := true) rfl rfl rfl) rfl rfl (d_skip rfl (wog (b := true) rfl rfl rfl) rfl rfl (dV rfl rfl (fun zw hx => py_pickT rfl rfl) (dV rfl rfl (fun zw hx => py_move rfl) (d_skip rfl (wog (b := true) rfl rfl rfl) rfl rfl (d_skip rfl (wog (b := true) rfl rfl rfl) rfl rfl (d_skip rfl (wog (b := true) rfl rfl rfl) rfl rfl (d_skip rfl (wou rfl rfl rfl) rfl rfl (d_skip rfl (wou rfl rfl rfl) rfl rfl (d_skip rfl (wou rfl rfl rfl) rfl rfl (d_skip rfl (wou rfl rfl rfl) rfl rfl (d_skip rfl (wog (b := true) rfl rfl rfl) rfl rfl (dV rfl rfl (fun zw hx => py_pickT rfl rfl) (dV rfl rfl (fun zw hx => py_move rfl) (d_skip rfl (wog (b := true) rfl rfl rfl) rfl rfl (d_skip rfl (wog (b := true) rfl rfl rfl) rfl rfl (d_skip rfl (wog (b := true) rfl rfl rfl) rfl rfl (d_skip rfl (wog (b := true) rfl rfl rfl) rfl rfl (d_end rfl (wn rfl) rfl rfl (py_pickT rfl rfl) (d_nil (W_ift rfl (W_sr (sV rfl (py_assign rfl) (s_nil (W_ret (hQ _ _ (fin1 Tryz.results82 rfl ?_)))))))))))))))))))))))))))))))))))))))))
   exact ⟨H4.ext, congrArg (Value.int .i64) ((if_neg (by omega)).trans (if_neg (by rw [← fine_eq]; first | (simp_all <;> omega) | (cases hh : z.On <;> simp_all <;> omega)))).symm⟩
  ·try simp only [decide_eq_true_eq, decide_eq_false_iff_not] at hg1
   refine d_val rfl (wg rfl rfl rfl) rfl rfl (fun zw hx => py_field Tryz.underlying37 rfl Tryz.sizeOf25 rfl rfl) (d_val rfl (wg rfl rfl rfl) rfl rfl (fun zw hx => py_load Tryz.underlying25 rfl rfl (cell_atL (hx.heap (H3.box 0 rfl)) rfl)) (d_val rfl (wg rfl rfl rfl) rfl rfl (fun zw hx => py_field Tryz.underlying37 rfl Tryz.sizeOf33 rfl rfl) (d_val rfl (wg rfl rfl rfl) rfl rfl (fun zw hx => py_loadS Tryz.underlying33 rfl Tryz.sizeOf33 rfl rfl (At.sub (hx.heap (H3.box 0 rfl)) 9)) (d_call rfl (wg rfl rfl rfl) rfl rfl (pc_call Tryz.func83 rfl Tryz_nm83 rfl) (Tryz_spec_l5All (by assumption)) (fun hS _ _ r _ => hS.trans r.1.no) (fun v3 w4 r3 => ?_)))))
   obtain ⟨e4, rfl⟩ := r3
   have H5 := H4.to e4
   refine d_val rfl (wg rfl rfl rfl) rfl rfl (fun zw hx => py_sub rfl rfl (in64 ⟨by omega, by omega⟩)) (d_call rfl (wg rfl rfl rfl) rfl rfl (pc_call Tryz.func148 rfl Tryz_nm148 rfl) (Tryz_spec_l5Apart (H5.sees 1 rfl)) (fun hS _ _ r _ => hS.trans r.1.no) (fun v4 w5 r4 => ?_))
   obtain ⟨e5, rfl⟩ := r4
   have H6 := H5.to e5
   refine d_val rfl (wg rfl rfl rfl) rfl rfl (fun zw hx => py_not rfl) (dV rfl rfl (fun zw hx => py_pickF rfl rfl) (dV rfl rfl (fun zw hx => py_move rfl) (d_case (t := 27) rfl (fun hg2 => ?_) (fun hg2 => ?_))))
   ·try simp only [decide_eq_true_eq, decide_eq_false_iff_not] at hg2
    refine d_skip rfl (wog (b := true) rfl rfl rfl) rfl rfl (d_skip rfl (wog (b := true) rfl rfl rfl) rfl rfl (d_skip rfl (wog (b := true) rfl rfl rfl) rfl rfl (d_skip rfl (wog (b := true) rfl rfl rfl) rfl rfl (d_skip rfl (wog (b := true) rfl rfl rfl) rfl rfl (d_skip rfl (wog (b := true) rfl rfl rfl) rfl rfl (d_skip rfl (wog (b := true) rfl rfl rfl) rfl rfl (dV rfl rfl (fun zw hx => py_pickT rfl rfl) (dV rfl rfl (fun zw hx => py_move rfl) (d_skip rfl (wog (b := true) rfl rfl rfl) rfl rfl (d_skip rfl (wog (b := true) rfl rfl rfl) rfl rfl (d_skip rfl (wog (b := true) rfl rfl rfl) rfl rfl (d_skip rfl (wou rfl rfl rfl) rfl rfl (d_skip rfl (wou rfl rfl rfl) rfl rfl (d_skip rfl (wou rfl rfl rfl) rfl rfl (d_skip rfl (wou rfl rfl rfl) rfl rfl (d_skip rfl (wog (b := true) rfl rfl rfl) rfl rfl (dV rfl rfl (fun zw hx => py_pickT rfl rfl) (dV rfl rfl (fun zw hx => py_move rfl) (d_skip rfl (wog (b := true) rfl rfl rfl) rfl rfl (d_skip rfl (wog (b := true) rfl rfl rfl) rfl rfl (d_skip rfl (wog (b := true) rfl rfl rfl) rfl rfl (d_skip rfl (wog (b := true) rfl rfl rfl) rfl rfl (d_end rfl (wn rfl) rfl rfl (py_pickT rfl rfl) (d_nil (W_ift rfl (W_sr (sV rfl (py_assign rfl) (s_nil (W_ret (hQ _ _ (fin1 Tryz.results82 rfl ?_)))))))))))))))))))))))))))))))
    exact ⟨H6.ext, congrArg (Value.int .i64) ((if_neg (by omega)).trans (if_neg (by rw [← fine_eq]; first | (simp_all <;> omega) | (cases hh : z.On <;> simp_all <;> omega)))).symm⟩
   ·try simp only [decide_eq_true_eq, decide_eq_false_iff_not] at hg2
    refine d_val rfl (wg rfl rfl rfl) rfl rfl (fun zw hx => py_field Tryz.underlying37 rfl Tryz.sizeOf25 rfl rfl) (d_val rfl (wg rfl rfl rfl) rfl rfl (fun zw hx => py_load Tryz.underlying25 rfl rfl (cell_atL (hx.heap (H3.box 0 rfl)) rfl)) (d_val rfl (wg rfl rfl rfl) rfl rfl (fun zw hx => py_len Tryz.underlying25 rfl) (d_val rfl (wg rfl rfl rfl) rfl rfl (fun zw hx => py_field Tryz.underlying37 rfl Tryz.sizeOf33 rfl rfl) (d_val rfl (wg rfl rfl rfl) rfl rfl (fun zw hx => py_field Tryz.underlying33 rfl Tryz.sizeOf2 rfl rfl) (d_val rfl (wg rfl rfl rfl) rfl rfl (fun zw hx => py_load Tryz.underlying2 rfl rfl (cell_atL (hx.heap (H3.box 0 rfl)) rfl)) (d_val rfl (wg rfl rfl rfl) rfl rfl (fun zw hx => py_gtr rfl rfl) (dV rfl rfl (fun zw hx => py_pickF rfl rfl) (dV rfl rfl (fun zw hx => py_move rfl) (d_case (t := 36) rfl (fun hg3 => ?_) (fun hg3 => ?_))))))))))
    ·try simp only [decide_eq_true_eq, decide_eq_false_iff_not] at hg3
     refine d_skip rfl (wog (b := true) rfl rfl rfl) rfl rfl (d_skip rfl (wog (b := true) rfl rfl rfl) rfl rfl (d_skip rfl (wog (b := true) rfl rfl rfl) rfl rfl (d_skip rfl (wou rfl rfl rfl) rfl rfl (d_skip rfl (wou rfl rfl rfl) rfl rfl (d_skip rfl (wou rfl rfl rfl) rfl rfl (d_skip rfl (wou rfl rfl rfl) rfl rfl (d_skip rfl (wog (b := true) rfl rfl rfl) rfl rfl (dV rfl rfl (fun zw hx => py_pickT rfl rfl) (dV rfl rfl (fun zw hx => py_move rfl) (d_skip rfl (wog (b := true) rfl rfl rfl) rfl rfl (d_skip rfl (wog (b := true) rfl rfl rfl) rfl rfl (d_skip rfl (wog (b := true) rfl rfl rfl) rfl rfl (d_skip rfl (wog (b := true) rfl rfl rfl) rfl rfl (d_end rfl (wn rfl) rfl rfl (py_pickT rfl rfl) (d_nil (W_ift rfl (W_sr (sV rfl (py_assign rfl) (s_nil (W_ret (hQ _ _ (fin1 Tryz.results82 rfl ?_))))))))))))))))))))))
     exact ⟨H6.ext, congrArg (Value.int .i64) ((if_neg (by omega)).trans (if_neg (by rw [← fine_eq]; first | (simp_all <;> omega) | (cases hh : z.On <;> simp_all <;> omega)))).symm⟩
    ·try simp only [decide_eq_true_eq, decide_eq_false_iff_not] at hg3
     refine d_val rfl (wg rfl rfl rfl) rfl rfl (fun zw hx => py_field Tryz.underlying37 rfl Tryz.sizeOf4 rfl rfl) (d_val rfl (wg rfl rfl rfl) rfl rfl (fun zw hx => py_load Tryz.underlying4 rfl rfl (cell_atL (hx.heap (H3.box 0 rfl)) rfl)) (d_val rfl (wg rfl rfl rfl) rfl rfl (fun zw hx => py_move rfl) (d_case (t := 39) rfl (fun hg4 => ?_) (fun hg4 => ?_))))
     ·try simp only [decide_eq_true_eq, decide_eq_false_iff_not] at hg4
      refine d_val rfl (wg rfl rfl rfl) rfl rfl (fun zw hx => py_field Tryz.underlying37 rfl Tryz.sizeOf25 rfl rfl) (d_val rfl (wg rfl rfl rfl) rfl rfl (fun zw hx => py_load Tryz.underlying25 rfl rfl (cell_atL (hx.heap (H3.box 0 rfl)) rfl)) (d_val rfl (wg rfl rfl rfl) rfl rfl (fun zw hx => py_len Tryz.underlying25 rfl) (d_val rfl (wg rfl rfl rfl) rfl rfl (fun zw hx => py_gtr rfl rfl) (d_val rfl (wg rfl rfl rfl) rfl rfl (fun zw hx => py_pickT rfl rfl) (dV rfl rfl (fun zw hx => py_pickF rfl rfl) (dV rfl rfl (fun zw hx => py_move rfl) (d_case (t := 46) rfl (fun hg5 => ?_) (fun hg5 => ?_))))))))
      ·try simp only [decide_eq_true_eq, decide_eq_false_iff_not] at hg5
       refine d_skip rfl (wog (b := true) rfl rfl rfl) rfl rfl (d_skip rfl (wog (b := true) rfl rfl rfl) rfl rfl (d_skip rfl (wog (b := true) rfl rfl rfl) rfl rfl (d_skip rfl (wog (b := true) rfl rfl rfl) rfl rfl (d_end rfl (wn rfl) rfl rfl (py_pickT rfl rfl) (d_nil (W_ift rfl (W_sr (sV rfl (py_assign rfl) (s_nil (W_ret (hQ _ _ (fin1 Tryz.results82 rfl ?_))))))))))))
       exact ⟨H6.ext, congrArg (Value.int .i64) ((if_neg (by omega)).trans (if_neg (by rw [← fine_eq]; first | (simp_all <;> omega) | (cases hh : z.On <;> simp_all <;> omega)))).symm⟩
      ·try simp only [decide_eq_true_eq, decide_eq_false_iff_not] at hg5
       refine d_val rfl (wg rfl rfl rfl) rfl rfl (fun zw hx => py_field Tryz.underlying37 rfl Tryz.sizeOf35 rfl rfl) (d_val rfl (wg rfl rfl rfl) rfl rfl (fun zw hx => py_load Tryz.underlying35 rfl rfl (cell_atL (hx.heap (H3.box 0 rfl)) rfl)) (d_val rfl (wg rfl rfl rfl) rfl rfl (fun zw hx => py_len Tryz.underlying35 rfl) (d_val rfl (wg rfl rfl rfl) rfl rfl (fun zw hx => py_neq rfl rfl) (d_end rfl (wn rfl) rfl rfl (py_pickF rfl rfl) (d_nil (W_ifd rfl (fun c2 => ?_) (fun c2 => ?_)))))))
       ·refine W_sr (sV rfl (py_assign rfl) (s_nil (W_ret (hQ _ _ (fin1 Tryz.results82 rfl ?_)))))
        exact ⟨H6.ext, congrArg (Value.int .i64) ((if_neg (by omega)).trans (if_neg (by rw [← fine_eq]; first | (simp_all <;> omega) | (cases hh : z.On <;> simp_all <;> omega)))).symm⟩
       ·refine W_skip (W_seq (W_seq ?_))
        have hF : (groupsOK z && onOK z && decide (z.Tapes.length = 2)) = true := by rw [← fine_eq]; simp_all <;> omega
        have h2 : z.Tapes.length = 2 := by simp_all <;> omega
        obtain ⟨eb1, eo1, es1, ef1, ee1, ec1, eO1, eH1, em1⟩ := elem_st (H6.seen 2 rfl) 0 (by omega)
        obtain ⟨ea1, ek1, eg1, rfl, eq1, eK1, eo2⟩ := own_Tape eO1
        have eP1 := H6.look1 2 rfl eo2 (fun b hb => eH1 b (by rw [eq1]; simp [hb]))
        have eL1 := own_len_le eo2
        unfold maxLen at eL1
        refine W_reg (sV rfl (py_field Tryz.underlying37 rfl Tryz.sizeOf35 rfl rfl) (sV rfl (py_load Tryz.underlying35 rfl rfl (cell_atL (eP1.box 0 rfl) rfl)) (sV rfl (py_elz Tryz.underlying35 Tryz.sizeOf155 rfl rfl ee1 0 (by omega) (by omega)) (sV rfl (py_field Tryz.underlying155 rfl Tryz.sizeOf82 rfl rfl) (sV rfl (py_load Tryz.underlying82 rfl rfl (at_cell ec1 1 rfl)) (sV rfl (py_len Tryz.underlying82 rfl) (sV rfl (py_gtr rfl rfl) (sV rfl (py_move rfl) (s_case (t := 59) rfl (fun hg6 => ?_) (fun hg6 => ?_))))))))))
        ·try simp only [decide_eq_true_eq, decide_eq_false_iff_not] at hg6
         refine s_skip (wog (b := true) rfl rfl rfl) rfl rfl (s_skip (wog (b := true) rfl rfl rfl) rfl rfl (s_skip (wog (b := true) rfl rfl rfl) rfl rfl (s_skip (wog (b := true) rfl rfl rfl) rfl rfl (s_skip (wog (b := true) rfl rfl rfl) rfl rfl (s_skip (wog (b := true) rfl rfl rfl) rfl rfl (s_skip (wog (b := true) rfl rfl rfl) rfl rfl (sV rfl (py_pickT rfl rfl) (s_nil (W_ift rfl (W_seq ?_))))))))))
         have tq := tapesF_many (z := z) (any_two h2 (by simp only [manyRecs]; simp_all <;> omega))
         refine W_reg (sV rfl (py_assign rfl) (s_nil (W_ret (hQ _ _ (fin1 Tryz.results82 rfl ?_)))))
         exact ⟨eP1.ext, congrArg (Value.int .i64) ((if_neg (by omega)).trans ((if_pos hF).trans ((if_pos (by omega)).trans tq))).symm⟩
        ·try simp only [decide_eq_true_eq, decide_eq_false_iff_not] at hg6
         refine s_val (wg rfl rfl rfl) rfl rfl (py_field Tryz.underlying37 rfl Tryz.sizeOf35 rfl rfl) (s_val (wg rfl rfl rfl) rfl rfl (py_load Tryz.underlying35 rfl rfl (cell_atL (eP1.box 0 rfl) rfl)) ?_)
         obtain ⟨eb2, eo3, es2, ef2, ee2, ec2, eO2, eH2, em2⟩ := elem_st (eP1.seen 2 rfl) 1 (by omega)
         obtain ⟨ea2, ek2, eg2, rfl, eq2, eK2, eo4⟩ := own_Tape eO2
         have eP2 := eP1.look1 2 rfl eo4 (fun b hb => eH2 b (by rw [eq2]; simp [hb]))
         have eL2 := own_len_le eo4
         unfold maxLen at eL2
         refine s_val (wg rfl rfl rfl) rfl rfl (py_elz Tryz.underlying35 Tryz.sizeOf155 rfl rfl ee2 1 (by omega) (by omega)) (s_val (wg rfl rfl rfl) rfl rfl (py_field Tryz.underlying155 rfl Tryz.sizeOf82 rfl rfl) (s_val (wg rfl rfl rfl) rfl rfl (py_load Tryz.underlying82 rfl rfl (at_cell ec2 1 rfl)) (s_val (wg rfl rfl rfl) rfl rfl (py_len Tryz.underlying82 rfl) (s_val (wg rfl rfl rfl) rfl rfl (py_gtr rfl rfl) (sV rfl (py_pickF rfl rfl) (s_nil (W_ifd rfl (fun c3 => ?_) (fun c3 => ?_))))))))
         ·refine W_seq ?_
          have tq := tapesF_many (z := z) (any_two h2 (by simp only [manyRecs]; simp_all <;> omega))
          refine W_reg (sV rfl (py_assign rfl) (s_nil (W_ret (hQ _ _ (fin1 Tryz.results82 rfl ?_)))))
          exact ⟨eP2.ext, congrArg (Value.int .i64) ((if_neg (by omega)).trans ((if_pos hF).trans ((if_pos (by omega)).trans tq))).symm⟩
         ·refine W_skip (W_seq (W_seq ?_))
          have hM : z.Tapes.any manyRecs = false := any_neither h2 (by simp only [manyRecs]; simp_all <;> omega) (by simp only [manyRecs]; simp_all <;> omega)
          refine W_reg (sV rfl (py_assign rfl) (s_nil (W_block (W_loopS (γ := Nat) eP2 [(1, _)] ⟨rfl, trivial⟩ (fun k => [(4, .int .i64 k)]) (fun k => k ≤ z.Tapes.length ∧ tapeF z.Shape z.Tapes k = 0) (fun k => z.Tapes.length - k) 0 ⟨rfl, trivial⟩ ⟨by omega, rfl⟩ (fun k w6 H7 ⟨hk, hkz⟩ => ?_)))))
          dsimp only [List.cons_append, List.nil_append]
          refine W_seq (W_sr (sV rfl (py_move rfl) (sV rfl (py_lss rfl rfl) (s_nil (W_ifd rfl (fun c4 => ?_) (fun c4 => ?_))))))
          ·refine W_skip (W_seq (W_block (W_sr (sV rfl (py_assign rfl) (s_nil (W_block (W_loopS (γ := Nat) H7 [(1, _), (4, _)] ⟨rfl, rfl, trivial⟩ (fun k2 => [(5, .int .i64 k2)]) (fun k2 => k2 ≤ (z.Tapes.getD k default).Recs.length ∧ recsF z.Shape (z.Tapes.getD k default).Recs k2 = 0) (fun k2 => (z.Tapes.getD k default).Recs.length - k2) 0 ⟨rfl, trivial⟩ ⟨by omega, rfl⟩ (fun k2 w7 H8 ⟨hk2, hk2z⟩ => ?_))))))))
           dsimp only [List.cons_append, List.nil_append]
           refine W_seq (W_seq ?_)
           obtain ⟨eb3, eo5, es3, ef3, ee3, ec3, eO3, eH3, em3⟩ := elem_st (H8.seen 2 rfl) k (by omega)
           obtain ⟨ea3, ek3, eg3, rfl, eq3, eK3, eo6⟩ := own_Tape eO3
           have eP3 := H8.look1 2 rfl eo6 (fun b hb => eH3 b (by rw [eq3]; simp [hb]))
           have eL3 := own_len_le eo6
           unfold maxLen at eL3
           refine W_reg (sV rfl (py_move rfl) (sV rfl (py_field Tryz.underlying37 rfl Tryz.sizeOf35 rfl rfl) (sV rfl (py_load Tryz.underlying35 rfl rfl (cell_atL (eP3.box 0 rfl) rfl)) (sV rfl (py_move rfl) (sV rfl (py_elz Tryz.underlying35 Tryz.sizeOf155 rfl rfl ee3 k (by omega) (by omega)) (sV rfl (py_field Tryz.underlying155 rfl Tryz.sizeOf82 rfl rfl) (sV rfl (py_load Tryz.underlying82 rfl rfl (at_cell ec3 1 rfl)) (sV rfl (py_len Tryz.underlying82 rfl) (sV rfl (py_lss rfl rfl) (s_nil (W_ifd rfl (fun c5 => ?_) (fun c5 => ?_))))))))))))
           ·refine W_skip (W_seq (W_block (W_seq ?_)))
            obtain ⟨eb4, eo7, es4, ef4, ee4, ec4, eO4, eH4, em4⟩ := elem_st (eP3.seen 2 rfl) k (by omega)
            obtain ⟨ea4, ek4, eg4, rfl, eq4, eK4, eo8⟩ := own_Tape eO4
            have eP4 := eP3.look1 2 rfl eo8 (fun b hb => eH4 b (by rw [eq4]; simp [hb]))
            have eL4 := own_len_le eo8
            unfold maxLen at eL4
            obtain ⟨eb5, eo9, es5, ef5, ee5, ec5, eO5, eH5, em5⟩ := elem_st (eP4.seen 6 rfl) k2 (by omega)
            obtain ⟨ea5, ek5, ea6, ek6, ea7, ek7, eg5, eg6, eg7, rfl, eq5, eK5, eo10, eo11, eo12⟩ := own_Rec eO5
            have eK5U := eK5
            unfold Rec.Ok at eK5U
            try unfold I64ok at eK5U
            try unfold maxLen at eK5U
            have eP5 := eP4.look1 6 rfl eo10 (fun b hb => eH5 b (by rw [eq5]; simp [hb]))
            have eL5 := own_len_le eo10
            unfold maxLen at eL5
            have eP6 := eP5.look1 6 rfl eo11 (fun b hb => eH5 b (by rw [eq5]; simp [hb]))
            have eL6 := own_len_le eo11
            unfold maxLen at eL6
            have eP7 := eP6.look1 6 rfl eo12 (fun b hb => eH5 b (by rw [eq5]; simp [hb]))
            have eL7 := own_len_le eo12
            unfold maxLen at eL7
            refine W_drw (S := Ext No _) [(0, true), (1, true), (2, true), (3, true), (4, true), (5, true), (6, true), (7, true), (8, true), (9, true), (10, true), (11, false), (12, false)] (by kernel_rfl) (by kernel_rfl) (by kernel_rfl) rfl (fun _ => Ext.refl.drawn _) (fun q2 => ?_)
            have H9 := eP7.drawn q2
            refine dV rfl rfl (fun zw hx => py_field Tryz.underlying37 rfl Tryz.sizeOf33 rfl rfl) (dV rfl rfl (fun zw hx => py_loadS Tryz.underlying33 rfl Tryz.sizeOf33 rfl rfl (At.sub (hx.heap (H9.box 0 rfl)) 9)) (dV rfl rfl (fun zw hx => py_field Tryz.underlying37 rfl Tryz.sizeOf35 rfl rfl) (dV rfl rfl (fun zw hx => py_load Tryz.underlying35 rfl rfl (cell_atL (hx.heap (H9.box 0 rfl)) rfl)) (dV rfl rfl (fun zw hx => py_move rfl) (dV rfl rfl (fun zw hx => py_elz Tryz.underlying35 Tryz.sizeOf155 rfl rfl ee4 k (by omega) (by omega)) (dV rfl rfl (fun zw hx => py_field Tryz.underlying155 rfl Tryz.sizeOf82 rfl rfl) (dV rfl rfl (fun zw hx => py_load Tryz.underlying82 rfl rfl (at_cell (hx.at ec4) 1 rfl)) (dV rfl rfl (fun zw hx => py_move rfl) (dV rfl rfl (fun zw hx => py_elz Tryz.underlying82 Tryz.sizeOf66 rfl rfl ee5 k2 (by omega) (by omega)) (dV rfl rfl (fun zw hx => py_loadS Tryz.underlying66 rfl Tryz.sizeOf66 rfl rfl (hx.at ec5)) (d_call rfl (wn rfl) rfl rfl (pc_call Tryz.func108 rfl Tryz_nm108 rfl) (Tryz_spec_RecFault (by assumption) (H9.sees 7 rfl) (H9.sees 8 rfl) (H9.sees 9 rfl)) (fun hS _ _ r _ => hS.trans r.1.no) (fun v5 w8 r5 => ?_))))))))))))
            obtain ⟨e6, rfl⟩ := r5
            have H10 := H9.to e6
            refine d_end rfl (wn rfl) rfl rfl (py_assign rfl) (d_nil (W_sr (sV rfl (py_move rfl) (sV rfl (py_neq rfl rfl) (s_nil (W_ifd rfl (fun c6 => ?_) (fun c6 => ?_)))))))
            ·refine W_sr (sV rfl (py_move rfl) (sV rfl (py_assign rfl) (s_nil (W_ret (hQ _ _ (fin1 Tryz.results82 rfl ?_))))))
             have tq := tapesF_rec hM (k := k) (k2 := k2) (by omega) hkz (by omega) hk2z (by omega)
             exact ⟨H10.ext, congrArg (Value.int .i64) ((if_neg (by omega)).trans (((if_neg (by omega)).trans ((if_pos hF).trans ((if_pos (by omega)).trans tq)))).symm)⟩
            ·refine W_skip (W_reg (sV rfl (py_move rfl) (sV rfl (py_add rfl rfl (in64 ⟨by omega, by omega⟩)) (sV rfl (py_assign rfl) (s_nil (⟨k2 + 1, ⟨rfl, rfl, rfl, trivial⟩, ⟨(H10.ftake 5), by omega, (recsF_next hk2z).trans (by omega)⟩, by dsimp only; omega⟩))))))
           ·refine W_exit (W_reg (sV rfl (py_move rfl) (sV rfl (py_add rfl rfl (in64 ⟨by omega, by omega⟩)) (sV rfl (py_assign rfl) (s_nil ?_)))))
            obtain rfl : k2 = (z.Tapes.getD k default).Recs.length := by omega
            refine ⟨k + 1, ⟨rfl, rfl, trivial⟩, ⟨(eP3.ftake 5), by omega, (tapeF_next hkz).trans hk2z⟩, by dsimp only; omega⟩
          ·refine W_exit (W_seq (W_seq ?_))
           obtain rfl : k = z.Tapes.length := by omega
           have hAll := hkz
           refine W_reg (sV rfl (py_assign rfl) (s_nil (W_block (W_loopS (γ := Nat) H7 [(1, _)] ⟨rfl, trivial⟩ (fun k => [(7, .int .i64 k)]) (fun k => k ≤ 2 ∧ (∀ i, i < k → wipedFull (z.Tapes.getD i default) = false)) (fun k => 2 - k) 0 ⟨rfl, trivial⟩ ⟨by omega, fun i hi => by omega⟩ (fun k w9 H11 ⟨hk, hek⟩ => ?_)))))
           dsimp only [List.cons_append, List.nil_append]
           refine W_seq (W_sr (sV rfl (py_move rfl) (sV rfl (py_lss rfl rfl) (s_nil (W_ifd rfl (fun c7 => ?_) (fun c7 => ?_))))))
           ·refine W_skip (W_seq (W_block (W_seq ?_)))
            obtain ⟨eb6, eo13, es6, ef6, ee6, ec6, eO6, eH6, em6⟩ := elem_st (H11.seen 2 rfl) k (by omega)
            obtain ⟨ea8, ek8, eg8, rfl, eq6, eK6, eo14⟩ := own_Tape eO6
            have eP8 := H11.look1 2 rfl eo14 (fun b hb => eH6 b (by rw [eq6]; simp [hb]))
            have eL8 := own_len_le eo14
            unfold maxLen at eL8
            refine W_reg (sV rfl (py_field Tryz.underlying37 rfl Tryz.sizeOf35 rfl rfl) (sV rfl (py_load Tryz.underlying35 rfl rfl (cell_atL (eP8.box 0 rfl) rfl)) (sV rfl (py_move rfl) (sV rfl (py_elz Tryz.underlying35 Tryz.sizeOf155 rfl rfl ee6 k (by omega) (by omega)) (sV rfl (py_field Tryz.underlying155 rfl Tryz.sizeOf4 rfl rfl) (sV rfl (py_load Tryz.underlying4 rfl rfl (at_cell ec6 0 rfl)) (sV rfl (py_move rfl) (s_case (t := 108) rfl (fun hg7 => ?_) (fun hg7 => ?_)))))))))
            ·try simp only [decide_eq_true_eq, decide_eq_false_iff_not] at hg7
             refine s_val (wg rfl rfl rfl) rfl rfl (py_field Tryz.underlying37 rfl Tryz.sizeOf35 rfl rfl) (s_val (wg rfl rfl rfl) rfl rfl (py_load Tryz.underlying35 rfl rfl (cell_atL (eP8.box 0 rfl) rfl)) (s_val (wg rfl rfl rfl) rfl rfl (py_move rfl) (s_val (wg rfl rfl rfl) rfl rfl (py_elz Tryz.underlying35 Tryz.sizeOf155 rfl rfl ee6 k (by omega) (by omega)) (s_val (wg rfl rfl rfl) rfl rfl (py_field Tryz.underlying155 rfl Tryz.sizeOf82 rfl rfl) (s_val (wg rfl rfl rfl) rfl rfl (py_load Tryz.underlying82 rfl rfl (at_cell ec6 1 rfl)) (s_val (wg rfl rfl rfl) rfl rfl (py_len Tryz.underlying82 rfl) (s_val (wg rfl rfl rfl) rfl rfl (py_gtr rfl rfl) (sV rfl (py_pickT rfl rfl) (s_nil (W_ifd rfl (fun c8 => ?_) (fun c8 => ?_)))))))))))
             ·refine W_sr (sV rfl (py_assign rfl) (s_nil (W_ret (hQ _ _ (fin1 Tryz.results82 rfl ?_)))))
              have tq := tapesF_full hM hAll (any_at k (by omega) (by rw [wipedFull]; simp_all <;> omega))
              exact ⟨eP8.ext, congrArg (Value.int .i64) ((if_neg (by omega)).trans ((if_pos hF).trans ((if_pos (by omega)).trans tq))).symm⟩
             ·refine W_skip (W_reg (sV rfl (py_move rfl) (sV rfl (py_add rfl rfl (in64 ⟨by omega, by omega⟩)) (sV rfl (py_assign rfl) (s_nil (⟨k + 1, ⟨rfl, rfl, trivial⟩, ⟨(eP8.ftake 5), by omega, fun i hi => ?_⟩, by dsimp only; omega⟩))))))
              by_cases e : i = k
              ·subst e; rw [wipedFull]; simp_all <;> omega
              ·exact hek i (by omega)
            ·try simp only [decide_eq_true_eq, decide_eq_false_iff_not] at hg7
             refine s_skip (wog (b := false) rfl rfl rfl) rfl rfl (s_skip (wog (b := false) rfl rfl rfl) rfl rfl (s_skip (wog (b := false) rfl rfl rfl) rfl rfl (s_skip (wog (b := false) rfl rfl rfl) rfl rfl (s_skip (wog (b := false) rfl rfl rfl) rfl rfl (s_skip (wog (b := false) rfl rfl rfl) rfl rfl (s_skip (wog (b := false) rfl rfl rfl) rfl rfl (s_skip (wog (b := false) rfl rfl rfl) rfl rfl (sV rfl (py_pickF rfl rfl) (s_nil (W_iff rfl (W_skip (W_reg (sV rfl (py_move rfl) (sV rfl (py_add rfl rfl (in64 ⟨by omega, by omega⟩)) (sV rfl (py_assign rfl) (s_nil (⟨k + 1, ⟨rfl, rfl, trivial⟩, ⟨(eP8.ftake 5), by omega, fun i hi => ?_⟩, by dsimp only; omega⟩)))))))))))))))))
             by_cases e : i = k
             ·subst e; rw [wipedFull]; simp_all <;> omega
             ·exact hek i (by omega)
           ·refine W_exit (W_seq (W_seq ?_))
            have tq := tapesF_ok hM hAll (any_none (fun i hi => hek i (by omega)))
            refine W_reg (sV rfl (py_field Tryz.underlying37 rfl Tryz.sizeOf2 rfl rfl) (sV rfl (py_load Tryz.underlying2 rfl rfl (cell_atL (H11.box 0 rfl) rfl)) (s_call (wn rfl) rfl rfl (pc_call Tryz.func149 rfl Tryz_nm149 rfl) Tryz_spec_l1In (fun v6 w10 r6 => ?_))))
            obtain ⟨e7, rfl⟩ := r6
            have H12 := H11.to e7
            refine sV rfl (py_not rfl) (sV rfl (py_move rfl) (s_case (t := 122) rfl (fun hg8 => ?_) (fun hg8 => ?_)))
            ·try simp only [decide_eq_true_eq, decide_eq_false_iff_not] at hg8
             refine s_skip (wog (b := true) rfl rfl rfl) rfl rfl (s_skip (wog (b := true) rfl rfl rfl) rfl rfl (s_skip (wog (b := true) rfl rfl rfl) rfl rfl (s_skip (wog (b := true) rfl rfl rfl) rfl rfl (sV rfl (py_pickT rfl rfl) (s_nil (W_ift rfl (W_sr (sV rfl (py_assign rfl) (s_nil (W_ret (hQ _ _ (fin1 Tryz.results82 rfl ?_))))))))))))
             exact ⟨H12.ext, congrArg (Value.int .i64) ((if_neg (by omega)).trans ((if_pos hF).trans ((if_neg (by omega)).trans (if_neg (by simp_all <;> omega))))).symm⟩
            ·try simp only [decide_eq_true_eq, decide_eq_false_iff_not] at hg8
             refine s_val (wg rfl rfl rfl) rfl rfl (py_field Tryz.underlying37 rfl Tryz.sizeOf2 rfl rfl) (s_val (wg rfl rfl rfl) rfl rfl (py_load Tryz.underlying2 rfl rfl (cell_atL (H12.box 0 rfl) rfl)) (s_call (wg rfl rfl rfl) rfl rfl (pc_call Tryz.func149 rfl Tryz_nm149 rfl) Tryz_spec_l1In (fun v7 w11 r7 => ?_)))
             obtain ⟨e8, rfl⟩ := r7
             have H13 := H12.to e8
             refine s_val (wg rfl rfl rfl) rfl rfl (py_not rfl) (sV rfl (py_pickF rfl rfl) (s_nil (W_if rfl (fun c9 => ?_) (fun c9 => ?_))))
             ·refine W_sr (sV rfl (py_assign rfl) (s_nil (W_ret (hQ _ _ (fin1 Tryz.results82 rfl ?_)))))
              exact ⟨H13.ext, congrArg (Value.int .i64) ((if_neg (by omega)).trans ((if_pos hF).trans ((if_neg (by omega)).trans (if_neg (by simp_all <;> omega))))).symm⟩
             ·refine W_skip (W_sr (sV rfl (py_assign rfl) (s_nil (W_ret (hQ _ _ (fin1 Tryz.results82 rfl ?_))))))
              exact ⟨H13.ext, congrArg (Value.int .i64) ((if_neg (by omega)).trans ((if_pos hF).trans ((if_neg (by omega)).trans (if_pos (by simp_all <;> omega))))).symm⟩
     ·try simp only [decide_eq_true_eq, decide_eq_false_iff_not] at hg4
      refine d_skip rfl (wog (b := false) rfl rfl rfl) rfl rfl (d_skip rfl (wog (b := false) rfl rfl rfl) rfl rfl (d_skip rfl (wog (b := false) rfl rfl rfl) rfl rfl (d_skip rfl (wog (b := false) rfl rfl rfl) rfl rfl (d_val rfl (wg rfl rfl rfl) rfl rfl (fun zw hx => py_pickF rfl rfl) (dV rfl rfl (fun zw hx => py_pickF rfl rfl) (dV rfl rfl (fun zw hx => py_move rfl) (d_val rfl (wg rfl rfl rfl) rfl rfl (fun zw hx => py_field Tryz.underlying37 rfl Tryz.sizeOf35 rfl rfl) (d_val rfl (wg rfl rfl rfl) rfl rfl (fun zw hx => py_load Tryz.underlying35 rfl rfl (cell_atL (hx.heap (H3.box 0 rfl)) rfl)) (d_val rfl (wg rfl rfl rfl) rfl rfl (fun zw hx => py_len Tryz.underlying35 rfl) (d_val rfl (wg rfl rfl rfl) rfl rfl (fun zw hx => py_neq rfl rfl) (d_end rfl (wn rfl) rfl rfl (py_pickF rfl rfl) (d_nil (W_ifd rfl (fun c10 => ?_) (fun c10 => ?_))))))))))))))
      ·refine W_sr (sV rfl (py_assign rfl) (s_nil (W_ret (hQ _ _ (fin1 Tryz.results82 rfl ?_)))))
       exact ⟨H6.ext, congrArg (Value.int .i64) ((if_neg (by omega)).trans (if_neg (by rw [← fine_eq]; first | (simp_all <;> omega) | (cases hh : z.On <;> simp_all <;> omega)))).symm⟩
      ·refine W_skip (W_seq (W_seq ?_))
       have hF : (groupsOK z && onOK z && decide (z.Tapes.length = 2)) = true := by rw [← fine_eq]; simp_all <;> omega
       have h2 : z.Tapes.length = 2 := by simp_all <;> omega
       obtain ⟨eb7, eo15, es7, ef7, ee7, ec7, eO7, eH7, em7⟩ := elem_st (H6.seen 2 rfl) 0 (by omega)
       obtain ⟨ea9, ek9, eg9, rfl, eq7, eK7, eo16⟩ := own_Tape eO7
       have eP9 := H6.look1 2 rfl eo16 (fun b hb => eH7 b (by rw [eq7]; simp [hb]))
       have eL9 := own_len_le eo16
       unfold maxLen at eL9
       refine W_reg (sV rfl (py_field Tryz.underlying37 rfl Tryz.sizeOf35 rfl rfl) (sV rfl (py_load Tryz.underlying35 rfl rfl (cell_atL (eP9.box 0 rfl) rfl)) (sV rfl (py_elz Tryz.underlying35 Tryz.sizeOf155 rfl rfl ee7 0 (by omega) (by omega)) (sV rfl (py_field Tryz.underlying155 rfl Tryz.sizeOf82 rfl rfl) (sV rfl (py_load Tryz.underlying82 rfl rfl (at_cell ec7 1 rfl)) (sV rfl (py_len Tryz.underlying82 rfl) (sV rfl (py_gtr rfl rfl) (sV rfl (py_move rfl) (s_case (t := 59) rfl (fun hg9 => ?_) (fun hg9 => ?_))))))))))
       ·try simp only [decide_eq_true_eq, decide_eq_false_iff_not] at hg9
        refine s_skip (wog (b := true) rfl rfl rfl) rfl rfl (s_skip (wog (b := true) rfl rfl rfl) rfl rfl (s_skip (wog (b := true) rfl rfl rfl) rfl rfl (s_skip (wog (b := true) rfl rfl rfl) rfl rfl (s_skip (wog (b := true) rfl rfl rfl) rfl rfl (s_skip (wog (b := true) rfl rfl rfl) rfl rfl (s_skip (wog (b := true) rfl rfl rfl) rfl rfl (sV rfl (py_pickT rfl rfl) (s_nil (W_ift rfl (W_seq ?_))))))))))
        have tq := tapesF_many (z := z) (any_two h2 (by simp only [manyRecs]; simp_all <;> omega))
        refine W_reg (sV rfl (py_assign rfl) (s_nil (W_ret (hQ _ _ (fin1 Tryz.results82 rfl ?_)))))
        exact ⟨eP9.ext, congrArg (Value.int .i64) ((if_neg (by omega)).trans ((if_pos hF).trans ((if_pos (by omega)).trans tq))).symm⟩
       ·try simp only [decide_eq_true_eq, decide_eq_false_iff_not] at hg9
        refine s_val (wg rfl rfl rfl) rfl rfl (py_field Tryz.underlying37 rfl Tryz.sizeOf35 rfl rfl) (s_val (wg rfl rfl rfl) rfl rfl (py_load Tryz.underlying35 rfl rfl (cell_atL (eP9.box 0 rfl) rfl)) ?_)
        obtain ⟨eb8, eo17, es8, ef8, ee8, ec8, eO8, eH8, em8⟩ := elem_st (eP9.seen 2 rfl) 1 (by omega)
        obtain ⟨ea10, ek10, eg10, rfl, eq8, eK8, eo18⟩ := own_Tape eO8
        have eP10 := eP9.look1 2 rfl eo18 (fun b hb => eH8 b (by rw [eq8]; simp [hb]))
        have eL10 := own_len_le eo18
        unfold maxLen at eL10
        refine s_val (wg rfl rfl rfl) rfl rfl (py_elz Tryz.underlying35 Tryz.sizeOf155 rfl rfl ee8 1 (by omega) (by omega)) (s_val (wg rfl rfl rfl) rfl rfl (py_field Tryz.underlying155 rfl Tryz.sizeOf82 rfl rfl) (s_val (wg rfl rfl rfl) rfl rfl (py_load Tryz.underlying82 rfl rfl (at_cell ec8 1 rfl)) (s_val (wg rfl rfl rfl) rfl rfl (py_len Tryz.underlying82 rfl) (s_val (wg rfl rfl rfl) rfl rfl (py_gtr rfl rfl) (sV rfl (py_pickF rfl rfl) (s_nil (W_ifd rfl (fun c11 => ?_) (fun c11 => ?_))))))))
        ·refine W_seq ?_
         have tq := tapesF_many (z := z) (any_two h2 (by simp only [manyRecs]; simp_all <;> omega))
         refine W_reg (sV rfl (py_assign rfl) (s_nil (W_ret (hQ _ _ (fin1 Tryz.results82 rfl ?_)))))
         exact ⟨eP10.ext, congrArg (Value.int .i64) ((if_neg (by omega)).trans ((if_pos hF).trans ((if_pos (by omega)).trans tq))).symm⟩
        ·refine W_skip (W_seq (W_seq ?_))
         have hM : z.Tapes.any manyRecs = false := any_neither h2 (by simp only [manyRecs]; simp_all <;> omega) (by simp only [manyRecs]; simp_all <;> omega)
         refine W_reg (sV rfl (py_assign rfl) (s_nil (W_block (W_loopS (γ := Nat) eP10 [(1, _)] ⟨rfl, trivial⟩ (fun k => [(4, .int .i64 k)]) (fun k => k ≤ z.Tapes.length ∧ tapeF z.Shape z.Tapes k = 0) (fun k => z.Tapes.length - k) 0 ⟨rfl, trivial⟩ ⟨by omega, rfl⟩ (fun k w12 H14 ⟨hk, hkz⟩ => ?_)))))
         dsimp only [List.cons_append, List.nil_append]
         refine W_seq (W_sr (sV rfl (py_move rfl) (sV rfl (py_lss rfl rfl) (s_nil (W_ifd rfl (fun c12 => ?_) (fun c12 => ?_))))))
         ·refine W_skip (W_seq (W_block (W_sr (sV rfl (py_assign rfl) (s_nil (W_block (W_loopS (γ := Nat) H14 [(1, _), (4, _)] ⟨rfl, rfl, trivial⟩ (fun k2 => [(5, .int .i64 k2)]) (fun k2 => k2 ≤ (z.Tapes.getD k default).Recs.length ∧ recsF z.Shape (z.Tapes.getD k default).Recs k2 = 0) (fun k2 => (z.Tapes.getD k default).Recs.length - k2) 0 ⟨rfl, trivial⟩ ⟨by omega, rfl⟩ (fun k2 w13 H15 ⟨hk2, hk2z⟩ => ?_))))))))
          dsimp only [List.cons_append, List.nil_append]
          refine W_seq (W_seq ?_)
          obtain ⟨eb9, eo19, es9, ef9, ee9, ec9, eO9, eH9, em9⟩ := elem_st (H15.seen 2 rfl) k (by omega)
          obtain ⟨ea11, ek11, eg11, rfl, eq9, eK9, eo20⟩ := own_Tape eO9
          have eP11 := H15.look1 2 rfl eo20 (fun b hb => eH9 b (by rw [eq9]; simp [hb]))
          have eL11 := own_len_le eo20
          unfold maxLen at eL11
          refine W_reg (sV rfl (py_move rfl) (sV rfl (py_field Tryz.underlying37 rfl Tryz.sizeOf35 rfl rfl) (sV rfl (py_load Tryz.underlying35 rfl rfl (cell_atL (eP11.box 0 rfl) rfl)) (sV rfl (py_move rfl) (sV rfl (py_elz Tryz.underlying35 Tryz.sizeOf155 rfl rfl ee9 k (by omega) (by omega)) (sV rfl (py_field Tryz.underlying155 rfl Tryz.sizeOf82 rfl rfl) (sV rfl (py_load Tryz.underlying82 rfl rfl (at_cell ec9 1 rfl)) (sV rfl (py_len Tryz.underlying82 rfl) (sV rfl (py_lss rfl rfl) (s_nil (W_ifd rfl (fun c13 => ?_) (fun c13 => ?_))))))))))))
          ·refine W_skip (W_seq (W_block (W_seq ?_)))
           obtain ⟨eb10, eo21, es10, ef10, ee10, ec10, eO10, eH10, em10⟩ := elem_st (eP11.seen 2 rfl) k (by omega)
           obtain ⟨ea12, ek12, eg12, rfl, eq10, eK10, eo22⟩ := own_Tape eO10
           have eP12 := eP11.look1 2 rfl eo22 (fun b hb => eH10 b (by rw [eq10]; simp [hb]))
           have eL12 := own_len_le eo22
           unfold maxLen at eL12
           obtain ⟨eb11, eo23, es11, ef11, ee11, ec11, eO11, eH11, em11⟩ := elem_st (eP12.seen 6 rfl) k2 (by omega)
           obtain ⟨ea13, ek13, ea14, ek14, ea15, ek15, eg13, eg14, eg15, rfl, eq11, eK11, eo24, eo25, eo26⟩ := own_Rec eO11
           have eK11U := eK11
           unfold Rec.Ok at eK11U
           try unfold I64ok at eK11U
           try unfold maxLen at eK11U
           have eP13 := eP12.look1 6 rfl eo24 (fun b hb => eH11 b (by rw [eq11]; simp [hb]))
           have eL13 := own_len_le eo24
           unfold maxLen at eL13
           have eP14 := eP13.look1 6 rfl eo25 (fun b hb => eH11 b (by rw [eq11]; simp [hb]))
           have eL14 := own_len_le eo25
           unfold maxLen at eL14
           have eP15 := eP14.look1 6 rfl eo26 (fun b hb => eH11 b (by rw [eq11]; simp [hb]))
           have eL15 := own_len_le eo26
           unfold maxLen at eL15
           refine W_drw (S := Ext No _) [(0, true), (1, true), (2, true), (3, true), (4, true), (5, true), (6, true), (7, true), (8, true), (9, true), (10, true), (11, false), (12, false)] (by kernel_rfl) (by kernel_rfl) (by kernel_rfl) rfl (fun _ => Ext.refl.drawn _) (fun q3 => ?_)
           have H16 := eP15.drawn q3
           refine dV rfl rfl (fun zw hx => py_field Tryz.underlying37 rfl Tryz.sizeOf33 rfl rfl) (dV rfl rfl (fun zw hx => py_loadS Tryz.underlying33 rfl Tryz.sizeOf33 rfl rfl (At.sub (hx.heap (H16.box 0 rfl)) 9)) (dV rfl rfl (fun zw hx => py_field Tryz.underlying37 rfl Tryz.sizeOf35 rfl rfl) (dV rfl rfl (fun zw hx => py_load Tryz.underlying35 rfl rfl (cell_atL (hx.heap (H16.box 0 rfl)) rfl)) (dV rfl rfl (fun zw hx => py_move rfl) (dV rfl rfl (fun zw hx => py_elz Tryz.underlying35 Tryz.sizeOf155 rfl rfl ee10 k (by omega) (by omega)) (dV rfl rfl (fun zw hx => py_field Tryz.underlying155 rfl Tryz.sizeOf82 rfl rfl) (dV rfl rfl (fun zw hx => py_load Tryz.underlying82 rfl rfl (at_cell (hx.at ec10) 1 rfl)) (dV rfl rfl (fun zw hx => py_move rfl) (dV rfl rfl (fun zw hx => py_elz Tryz.underlying82 Tryz.sizeOf66 rfl rfl ee11 k2 (by omega) (by omega)) (dV rfl rfl (fun zw hx => py_loadS Tryz.underlying66 rfl Tryz.sizeOf66 rfl rfl (hx.at ec11)) (d_call rfl (wn rfl) rfl rfl (pc_call Tryz.func108 rfl Tryz_nm108 rfl) (Tryz_spec_RecFault (by assumption) (H16.sees 7 rfl) (H16.sees 8 rfl) (H16.sees 9 rfl)) (fun hS _ _ r _ => hS.trans r.1.no) (fun v8 w14 r8 => ?_))))))))))))
           obtain ⟨e9, rfl⟩ := r8
           have H17 := H16.to e9
           refine d_end rfl (wn rfl) rfl rfl (py_assign rfl) (d_nil (W_sr (sV rfl (py_move rfl) (sV rfl (py_neq rfl rfl) (s_nil (W_ifd rfl (fun c14 => ?_) (fun c14 => ?_)))))))
           ·refine W_sr (sV rfl (py_move rfl) (sV rfl (py_assign rfl) (s_nil (W_ret (hQ _ _ (fin1 Tryz.results82 rfl ?_))))))
            have tq := tapesF_rec hM (k := k) (k2 := k2) (by omega) hkz (by omega) hk2z (by omega)
            exact ⟨H17.ext, congrArg (Value.int .i64) ((if_neg (by omega)).trans (((if_neg (by omega)).trans ((if_pos hF).trans ((if_pos (by omega)).trans tq)))).symm)⟩
           ·refine W_skip (W_reg (sV rfl (py_move rfl) (sV rfl (py_add rfl rfl (in64 ⟨by omega, by omega⟩)) (sV rfl (py_assign rfl) (s_nil (⟨k2 + 1, ⟨rfl, rfl, rfl, trivial⟩, ⟨(H17.ftake 5), by omega, (recsF_next hk2z).trans (by omega)⟩, by dsimp only; omega⟩))))))
          ·refine W_exit (W_reg (sV rfl (py_move rfl) (sV rfl (py_add rfl rfl (in64 ⟨by omega, by omega⟩)) (sV rfl (py_assign rfl) (s_nil ?_)))))
           obtain rfl : k2 = (z.Tapes.getD k default).Recs.length := by omega
           refine ⟨k + 1, ⟨rfl, rfl, trivial⟩, ⟨(eP11.ftake 5), by omega, (tapeF_next hkz).trans hk2z⟩, by dsimp only; omega⟩
         ·refine W_exit (W_seq (W_seq ?_))
          obtain rfl : k = z.Tapes.length := by omega
          have hAll := hkz
          refine W_reg (sV rfl (py_assign rfl) (s_nil (W_block (W_loopS (γ := Nat) H14 [(1, _)] ⟨rfl, trivial⟩ (fun k => [(7, .int .i64 k)]) (fun k => k ≤ 2 ∧ (∀ i, i < k → wipedFull (z.Tapes.getD i default) = false)) (fun k => 2 - k) 0 ⟨rfl, trivial⟩ ⟨by omega, fun i hi => by omega⟩ (fun k w15 H18 ⟨hk, hek⟩ => ?_)))))
          dsimp only [List.cons_append, List.nil_append]
          refine W_seq (W_sr (sV rfl (py_move rfl) (sV rfl (py_lss rfl rfl) (s_nil (W_ifd rfl (fun c15 => ?_) (fun c15 => ?_))))))
          ·refine W_skip (W_seq (W_block (W_seq ?_)))
           obtain ⟨eb12, eo27, es12, ef12, ee12, ec12, eO12, eH12, em12⟩ := elem_st (H18.seen 2 rfl) k (by omega)
           obtain ⟨ea16, ek16, eg16, rfl, eq12, eK12, eo28⟩ := own_Tape eO12
           have eP16 := H18.look1 2 rfl eo28 (fun b hb => eH12 b (by rw [eq12]; simp [hb]))
           have eL16 := own_len_le eo28
           unfold maxLen at eL16
           refine W_reg (sV rfl (py_field Tryz.underlying37 rfl Tryz.sizeOf35 rfl rfl) (sV rfl (py_load Tryz.underlying35 rfl rfl (cell_atL (eP16.box 0 rfl) rfl)) (sV rfl (py_move rfl) (sV rfl (py_elz Tryz.underlying35 Tryz.sizeOf155 rfl rfl ee12 k (by omega) (by omega)) (sV rfl (py_field Tryz.underlying155 rfl Tryz.sizeOf4 rfl rfl) (sV rfl (py_load Tryz.underlying4 rfl rfl (at_cell ec12 0 rfl)) (sV rfl (py_move rfl) (s_case (t := 108) rfl (fun hg10 => ?_) (fun hg10 => ?_)))))))))
           ·try simp only [decide_eq_true_eq, decide_eq_false_iff_not] at hg10
            refine s_val (wg rfl rfl rfl) rfl rfl (py_field Tryz.underlying37 rfl Tryz.sizeOf35 rfl rfl) (s_val (wg rfl rfl rfl) rfl rfl (py_load Tryz.underlying35 rfl rfl (cell_atL (eP16.box 0 rfl) rfl)) (s_val (wg rfl rfl rfl) rfl rfl (py_move rfl) (s_val (wg rfl rfl rfl) rfl rfl (py_elz Tryz.underlying35 Tryz.sizeOf155 rfl rfl ee12 k (by omega) (by omega)) (s_val (wg rfl rfl rfl) rfl rfl (py_field Tryz.underlying155 rfl Tryz.sizeOf82 rfl rfl) (s_val (wg rfl rfl rfl) rfl rfl (py_load Tryz.underlying82 rfl rfl (at_cell ec12 1 rfl)) (s_val (wg rfl rfl rfl) rfl rfl (py_len Tryz.underlying82 rfl) (s_val (wg rfl rfl rfl) rfl rfl (py_gtr rfl rfl) (sV rfl (py_pickT rfl rfl) (s_nil (W_ifd rfl (fun c16 => ?_) (fun c16 => ?_)))))))))))
            ·refine W_sr (sV rfl (py_assign rfl) (s_nil (W_ret (hQ _ _ (fin1 Tryz.results82 rfl ?_)))))
             have tq := tapesF_full hM hAll (any_at k (by omega) (by rw [wipedFull]; simp_all <;> omega))
             exact ⟨eP16.ext, congrArg (Value.int .i64) ((if_neg (by omega)).trans ((if_pos hF).trans ((if_pos (by omega)).trans tq))).symm⟩
            ·refine W_skip (W_reg (sV rfl (py_move rfl) (sV rfl (py_add rfl rfl (in64 ⟨by omega, by omega⟩)) (sV rfl (py_assign rfl) (s_nil (⟨k + 1, ⟨rfl, rfl, trivial⟩, ⟨(eP16.ftake 5), by omega, fun i hi => ?_⟩, by dsimp only; omega⟩))))))
             by_cases e : i = k
             ·subst e; rw [wipedFull]; simp_all <;> omega
             ·exact hek i (by omega)
           ·try simp only [decide_eq_true_eq, decide_eq_false_iff_not] at hg10
            refine s_skip (wog (b := false) rfl rfl rfl) rfl rfl (s_skip (wog (b := false) rfl rfl rfl) rfl rfl (s_skip (wog (b := false) rfl rfl rfl) rfl rfl (s_skip (wog (b := false) rfl rfl rfl) rfl rfl (s_skip (wog (b := false) rfl rfl rfl) rfl rfl (s_skip (wog (b := false) rfl rfl rfl) rfl rfl (s_skip (wog (b := false) rfl rfl rfl) rfl rfl (s_skip (wog (b := false) rfl rfl rfl) rfl rfl (sV rfl (py_pickF rfl rfl) (s_nil (W_iff rfl (W_skip (W_reg (sV rfl (py_move rfl) (sV rfl (py_add rfl rfl (in64 ⟨by omega, by omega⟩)) (sV rfl (py_assign rfl) (s_nil (⟨k + 1, ⟨rfl, rfl, trivial⟩, ⟨(eP16.ftake 5), by omega, fun i hi => ?_⟩, by dsimp only; omega⟩)))))))))))))))))
            by_cases e : i = k
            ·subst e; rw [wipedFull]; simp_all <;> omega
            ·exact hek i (by omega)
          ·refine W_exit (W_seq (W_seq ?_))
           have tq := tapesF_ok hM hAll (any_none (fun i hi => hek i (by omega)))
           refine W_reg (sV rfl (py_field Tryz.underlying37 rfl Tryz.sizeOf2 rfl rfl) (sV rfl (py_load Tryz.underlying2 rfl rfl (cell_atL (H18.box 0 rfl) rfl)) (s_call (wn rfl) rfl rfl (pc_call Tryz.func149 rfl Tryz_nm149 rfl) Tryz_spec_l1In (fun v9 w16 r9 => ?_))))
           obtain ⟨e10, rfl⟩ := r9
           have H19 := H18.to e10
           refine sV rfl (py_not rfl) (sV rfl (py_move rfl) (s_case (t := 122) rfl (fun hg11 => ?_) (fun hg11 => ?_)))
           ·try simp only [decide_eq_true_eq, decide_eq_false_iff_not] at hg11
            refine s_skip (wog (b := true) rfl rfl rfl) rfl rfl (s_skip (wog (b := true) rfl rfl rfl) rfl rfl (s_skip (wog (b := true) rfl rfl rfl) rfl rfl (s_skip (wog (b := true) rfl rfl rfl) rfl rfl (sV rfl (py_pickT rfl rfl) (s_nil (W_ift rfl (W_sr (sV rfl (py_assign rfl) (s_nil (W_ret (hQ _ _ (fin1 Tryz.results82 rfl ?_))))))))))))
            exact ⟨H19.ext, congrArg (Value.int .i64) ((if_neg (by omega)).trans ((if_pos hF).trans ((if_neg (by omega)).trans (if_neg (by simp_all <;> omega))))).symm⟩
           ·try simp only [decide_eq_true_eq, decide_eq_false_iff_not] at hg11
            refine s_val (wg rfl rfl rfl) rfl rfl (py_field Tryz.underlying37 rfl Tryz.sizeOf2 rfl rfl) (s_val (wg rfl rfl rfl) rfl rfl (py_load Tryz.underlying2 rfl rfl (cell_atL (H19.box 0 rfl) rfl)) (s_call (wg rfl rfl rfl) rfl rfl (pc_call Tryz.func149 rfl Tryz_nm149 rfl) Tryz_spec_l1In (fun v10 w17 r10 => ?_)))
            obtain ⟨e11, rfl⟩ := r10
            have H20 := H19.to e11
            refine s_val (wg rfl rfl rfl) rfl rfl (py_not rfl) (sV rfl (py_pickF rfl rfl) (s_nil (W_if rfl (fun c17 => ?_) (fun c17 => ?_))))
            ·refine W_sr (sV rfl (py_assign rfl) (s_nil (W_ret (hQ _ _ (fin1 Tryz.results82 rfl ?_)))))
             exact ⟨H20.ext, congrArg (Value.int .i64) ((if_neg (by omega)).trans ((if_pos hF).trans ((if_neg (by omega)).trans (if_neg (by simp_all <;> omega))))).symm⟩
            ·refine W_skip (W_sr (sV rfl (py_assign rfl) (s_nil (W_ret (hQ _ _ (fin1 Tryz.results82 rfl ?_))))))
             exact ⟨H20.ext, congrArg (Value.int .i64) ((if_neg (by omega)).trans ((if_pos hF).trans ((if_neg (by omega)).trans (if_pos (by simp_all <;> omega))))).symm⟩
end Go.Wk
namespace Go.Wk
open Rp (sz own)
section
variable {z : Wld} {s : Shape} {g row d : Int}
def placeF (s : Shape) (g d row : Int) : Bool := ins g 0 (s.Groups + s.Column - 1) && (ins d 0 (s.Data + s.Spare - 1) && ins row 0 (s.Rows - 1))
theorem place_zero (h : s.ok = true) : placeF s g 0 row = (ins g 0 (s.Groups + s.Column - 1) && ins row 0 (s.Rows - 1)) := by
  have := shape_bd h
  have : ins 0 0 (s.Data + s.Spare - 1) = true := ins_iff.2 (by omega)
  rw [placeF, this, Bool.true_and]
end
end Go.Wk
namespace Go.Wk
section
variable {z : Wld} {s : Shape} {r : Rec} {g row d : Int}
theorem shape_cd : 0 ≤ s.fault ∧ s.fault ≤ 3 := by unfold Shape.fault; split <;> omega
theorem name_cd {b : ByteArray} : 0 ≤ nameFault b ∧ nameFault b ≤ 5 := by unfold nameFault; split <;> omega
theorem kindF_cd : 0 ≤ kindF s r ∧ kindF s r ≤ 5 := by
  have := name_cd (b := r.Name)
  unfold kindF
  repeat' split
  all_goals omega
theorem recF_cd : 0 ≤ recF s r ∧ recF s r ≤ 5 := by
  have := kindF_cd (s := s) (r := r)
  unfold recF
  repeat' split
  all_goals omega
theorem recsF_cd {rs : List Rec} : ∀ k, 0 ≤ recsF s rs k ∧ recsF s rs k ≤ 5
  | 0 => by simp [recsF]
  | k + 1 => by
    have h1 := recsF_cd (rs := rs) k
    have h2 := recF_cd (s := s) (r := rs.getD k default)
    rw [recsF]
    split <;> omega
theorem tapeF_cd {ts : List Tape} : ∀ k, 0 ≤ tapeF s ts k ∧ tapeF s ts k ≤ 5
  | 0 => by simp [tapeF]
  | k + 1 => by
    have h1 := tapeF_cd (ts := ts) k
    have h2 := recsF_cd (s := s) (rs := (ts.getD k default).Recs) (ts.getD k default).Recs.length
    rw [tapeF]
    split <;> omega
theorem tapesF_cd : 0 ≤ tapesF z ∧ tapesF z ≤ 5 := by
  have := tapeF_cd (s := z.Shape) (ts := z.Tapes) z.Tapes.length
  unfold tapesF
  repeat' split
  all_goals omega
theorem worldF_cd : 0 ≤ worldF z ∧ worldF z ≤ 5 := by
  have h1 := shape_cd (s := z.Shape)
  have h2 := tapesF_cd (z := z)
  unfold worldF
  repeat' split
  all_goals omega
end
end Go.Wk
namespace Go.Wk
open Go.Proofs Rp
set_option maxRecDepth 10000
theorem Tryz_spec_l5Place {w : World} {s : Shape} {g : Int} {d : Int} {row : Int} (hs : s.ok = true) : Ret Tryz.prog 96 #[s.v, .int .i64 g, .int .i64 d, .int .i64 row] w fun v w' => Ext No w w' ∧ (v = .bool (placeF s g d row)) := by
 have sbd := shape_bd hs
 refine ret_Q (vs := [s.v, .int .i64 g, .int .i64 d, .int .i64 row]) Tryz.func96 rfl Tryz.ntmps96 rfl (fun Q hQ hN => ?_)
 have H0 := Sep.start (w := w) (F := []) (by simp)
 refine W_sr (s_box (wn rfl) rfl rfl H0 (fun b1 w1 e1 g1 H1 => ?_))
 refine sV rfl (py_assign rfl) (s_nil (W_sr (sV rfl (py_move rfl) (sV rfl (py_loadS Tryz.underlying33 rfl Tryz.sizeOf33 rfl rfl (At.whole (H1.box 0 rfl))) (s_call (wn rfl) rfl rfl (pc_call Tryz.func83 rfl Tryz_nm83 rfl) (Tryz_spec_l5All (by assumption)) (fun v1 w2 r1 => ?_))))))
 obtain ⟨e2, rfl⟩ := r1
 have H2 := H1.to e2
 refine sV rfl (py_sub rfl rfl (in64 ⟨by omega, by omega⟩)) (s_call (wn rfl) rfl rfl (pc_call Tryz.func149 rfl Tryz_nm149 rfl) Tryz_spec_l1In (fun v2 w3 r2 => ?_))
 obtain ⟨e3, rfl⟩ := r2
 have H3 := H2.to e3
 refine sV rfl (py_move rfl) (s_grp 5 (j := 5) (want := true) (t := 19) rfl rfl rfl rfl (fun hg1 kk1 => s_val (wgE rfl rfl rfl hg1) rfl rfl (py_move rfl) (s_val (wgE rfl rfl rfl hg1) rfl rfl (py_loadS Tryz.underlying33 rfl Tryz.sizeOf33 rfl rfl (At.whole (H3.box 0 rfl))) (s_callv (wgE rfl rfl rfl hg1) rfl rfl (pc_call Tryz.func157 rfl Tryz_nm157 rfl) (Tryz_spec_l5Drives (by assumption)) (fun w5 e5 => s_val (wgE rfl rfl rfl hg1) rfl rfl (py_sub rfl rfl (in64 ⟨by omega, by omega⟩)) (s_callv (wgE rfl rfl rfl hg1) rfl rfl (pc_call Tryz.func149 rfl Tryz_nm149 rfl) Tryz_spec_l1In (fun w6 e6 => kk1 _ _ (kx rfl (kx rfl (kx rfl (kx rfl (kx rfl k0))))) rfl ((Ext.refl.trans e5).trans e6))))))) (fun w4 e4 => ?_))
 have H4 := H3.to e4
 refine sV rfl (py_band rfl rfl) (sV rfl (py_move rfl) (s_grp 5 (j := 12) (want := true) (t := 26) rfl rfl rfl rfl (fun hg2 kk2 => s_val (wgE rfl rfl rfl hg2) rfl rfl (py_move rfl) (s_val (wgE rfl rfl rfl hg2) rfl rfl (py_field Tryz.underlying33 rfl Tryz.sizeOf2 rfl rfl) (s_val (wgE rfl rfl rfl hg2) rfl rfl (py_load Tryz.underlying2 rfl rfl (cell_atL (H4.box 0 rfl) rfl)) (s_val (wgE rfl rfl rfl hg2) rfl rfl (py_sub rfl rfl (in64 ⟨by omega, by omega⟩)) (s_callv (wgE rfl rfl rfl hg2) rfl rfl (pc_call Tryz.func149 rfl Tryz_nm149 rfl) Tryz_spec_l1In (fun w8 e8 => kk2 _ _ (kx rfl (kx rfl (kx rfl (kx rfl (kx rfl k0))))) rfl (Ext.refl.trans e8))))))) (fun w7 e7 => ?_)))
 have H5 := H4.to e7
 refine sV rfl (py_band rfl rfl) (sV rfl (py_assign rfl) (s_nil (W_ret (hQ _ _ (fin1 Tryz.results96 rfl ?_)))))
 exact ⟨H5.ext, congrArg Value.bool (by simp [placeF, Bool.and_assoc])⟩
end Go.Wk
namespace Go.Wk
open Rp (sz own)
def cat (r q : Rsc) : Rsc := ⟨r.fp ++ q.fp, fun w => r.φ w ∧ q.φ w, fun h k => ⟨r.st h.1 fun b hb => k b (by simp [hb]), q.st h.2 fun b hb => k b (by simp [hb])⟩, fun h b hb => (List.mem_append.1 hb).elim (r.lt h.1 b) (q.lt h.2 b)⟩
section
variable {M : Nat → Prop} {w0 w w' : World} {Δ F : List Rsc}
theorem Sep.join2 (h : Sep M w0 Δ F w) (i j : Nat) {r q : Rsc} (hi : Δ[i]? = some r) (hj : Δ[j]? = some q) (hij : Nat.beq j i = false) : Sep M w0 ((Δ.set j gone).set i (cat r q)) F w :=
  h.set2 hi hj hij Ext.refl (q := cat r q) ⟨h.r i hi, h.r j hj⟩ (List.nodup_append.2 ⟨h.nodup1 hi, h.nodup1 hj, fun a ha b hb e => by subst e; exact h.apart hi hj hij a hb ha⟩)
    fun b hb => (List.mem_append.1 hb).elim .inl fun h => .inr (.inl h)
theorem Sep.conv (h : Sep M w0 Δ F w) (i : Nat) {r : Rsc} (q : Rsc) (hi : Δ[i]? = some r) (hq : q.φ w) (hfp : ∀ b ∈ q.fp, b ∈ r.fp) (hn : q.fp.Nodup) : Sep M w0 (Δ.set i q) F w :=
  h.set hi Ext.refl hq hn fun b hb => .inl (hfp b hb)
theorem Sep.partLast {A : List Rsc} {r : Rsc} (h : Sep M w0 (A ++ [r]) F w) (rs : List Rsc) (hrs : ∀ q ∈ rs, q.φ w) (hb : blocks rs = r.fp) : Sep M w0 (A ++ gone :: rs) F w := by
  have H := h.part A.length (r := r) (by simp) rs hrs hb
  rw [show (A ++ [r]).set A.length gone = A ++ [gone] by simp] at H
  simpa using H
def hol {α : Type} [Rp α] (ad : Option Addr) (n cap : Nat) (xs : List α) (k b off : Nat) (T : TypeId) (ck : List Value) (f1 f2 : List Nat) : Rsc :=
  ⟨b :: (f1 ++ f2), fun w => ∃ cur : Array Value, w.heap[b]? = some (.cells cur T (0, 0)) ∧ off + sz α ≤ cur.size ∧ (cur.toList.drop off).take (sz α) = ck ∧ (∀ x ∈ b :: (f1 ++ f2), x < w.heap.size) ∧
    ∀ w' cur' x' fk', w'.heap[b]? = some (.cells cur' T (0, 0)) → cur'.size = cur.size → (∀ j, j < off ∨ off + sz α ≤ j → cur'[j]? = cur[j]?) → (∀ b ∈ f1, w'.heap[b]? = w.heap[b]?) → (∀ b ∈ f2, w'.heap[b]? = w.heap[b]?) →
        own true w' ((cur'.toList.drop off).take (sz α)) x' fk' → own true w' [.slice ad n cap] (xs.set k x') (b :: (f1 ++ (fk' ++ f2))),
   fun h e => by
      obtain ⟨cur, h1, h2, h3, h4, h5⟩ := h
      refine ⟨cur, (e b (by simp)).trans h1, h2, h3, fun x hx => ?_, fun w' cur' x' fk' q1 q2 q3 q4 q5 q6 => h5 w' cur' x' fk' q1 q2 q3 (fun b hb => (q4 b hb).trans (e b (by simp [hb]))) (fun b hb => (q5 b hb).trans (e b (by simp [hb]))) q6⟩
      have h7 := h4 x hx
      have h8 := e x hx
      rw [Array.getElem?_eq_getElem h7] at h8
      exact (Array.getElem?_eq_some_iff.1 h8).1,
   fun h => by obtain ⟨_, _, _, _, h, _⟩ := h; exact h⟩
variable {α : Type} [Rp α]
theorem Sep.focus {d : α} (h : Sep M w0 Δ F w) (i : Nat) {ad n cap} {xs : List α} {fp} (hi : Δ[i]? = some (Wk.mine [.slice ad n cap] xs fp)) (k : Nat) (hk : k < xs.length) :
    ∃ b o T ck f1 f2 fk, ad = some ⟨b, o, none⟩ ∧ own true w ck (xs.getD k d) fk ∧ Sep M w0 (Δ.set i (hol ad n cap xs k b (o + k * sz α) T ck f1 f2) ++ [Wk.mine ck (xs.getD k d) fk]) F w := by
  have hnd := h.nodup1 hi
  obtain ⟨b, o, cur, T, f1, fk, f2, e1, e2, hb, hsz, hx, hback⟩ := own_zoom (h.mine i hi) k hk
  have hlt := Rp.lt (h.mine i hi)
  have hk1 : (k + 1) * sz α = k * sz α + sz α := by rw [Nat.add_mul, Nat.one_mul]
  change fp.Nodup at hnd
  subst e2
  obtain ⟨n1, n2⟩ := List.nodup_cons.1 hnd
  rw [List.nodup_append, List.nodup_append] at n2
  obtain ⟨d1, ⟨d2, d3, d4⟩, d5⟩ := n2
  have hmem : ∀ x, x ∈ (b :: (f1 ++ f2)) ++ fk ↔ x ∈ b :: (f1 ++ (fk ++ f2)) := fun x => by
    simp only [List.cons_append, List.mem_cons, List.mem_append]
    constructor
    · rintro (h | (h | h) | h)
      · exact .inl h
      · exact .inr (.inl h)
      · exact .inr (.inr (.inr h))
      · exact .inr (.inr (.inl h))
    · rintro (h | h | h | h)
      · exact .inl h
      · exact .inr (.inl (.inl h))
      · exact .inr (.inr h)
      · exact .inr (.inl (.inr h))
  have H1 := h.set hi (q := reord (Wk.mine [.slice ad n cap] xs (b :: (f1 ++ (fk ++ f2)))) ((b :: (f1 ++ f2)) ++ fk) hmem) Ext.refl (h.mine i hi)
    (by
      change ((b :: (f1 ++ f2)) ++ fk).Nodup
      refine List.nodup_append.2 ⟨List.nodup_cons.2 ⟨fun hm => n1 (by rcases List.mem_append.1 hm with hm | hm <;> simp [hm]), List.nodup_append.2 ⟨d1, d3, fun p hp q hq e => d5 p hp q (by simp [hq]) e⟩⟩, d2, fun p hp q hq e => ?_⟩
      subst e
      rcases List.mem_cons.1 hp with rfl | hp
      · exact n1 (by simp [hq])
      · rcases List.mem_append.1 hp with hp | hp
        · exact d5 p hp p (by simp [hq]) rfl
        · exact d4 p hq p hp rfl)
    (fun x hx => .inl ((hmem x).1 hx))
  have hil : i < Δ.length := (List.getElem?_eq_some_iff.1 hi).1
  have ek : xs.getD k d = xs[k] := by simp [List.getD, hk]
  refine ⟨b, o, T, _, f1, f2, fk, e1, by rw [ek]; exact hx, ?_⟩
  have H2 := H1.part i (r := reord (Wk.mine [.slice ad n cap] xs (b :: (f1 ++ (fk ++ f2)))) ((b :: (f1 ++ f2)) ++ fk) hmem) (by rw [List.getElem?_set_self hil]) [hol ad n cap xs k b (o + k * sz α) T ((cur.toList.drop (o + k * sz α)).take (sz α)) f1 f2, Wk.mine ((cur.toList.drop (o + k * sz α)).take (sz α)) (xs.getD k d) fk] ?_ ?_
  · rw [List.set_set] at H2
    exact (H2.perm (set_swap hil)).sub ((List.Sublist.refl _).append (.cons _ (.refl _)))
  · refine all_cons ⟨cur, hb, hsz, rfl, fun x hx => hlt x ((hmem x).1 (by simp only [List.mem_append]; exact .inl hx)), fun w' cur' x' fk' q1 q2 q3 q4 q5 q6 => hback w' cur' x' fk' q1 q2 (fun j hj => q3 j (by rw [hk1] at hj; omega)) q4 q5 q6⟩ (all_cons ?_ (by simp))
    rw [ek]; exact hx
  · simp [blocks, hol, Wk.mine, reord]
variable {ad : Option Addr} {n cap k b off : Nat} {xs : List α} {T : TypeId} {ck : List Value} {f1 f2 : List Nat}
theorem Sep.holAt (h : Sep M w0 Δ F w) (i : Nat) (hi : Δ[i]? = some (hol ad n cap xs k b off T ck f1 f2)) : At w b off ck := by
  obtain ⟨cur, h1, h2, h3, _⟩ := h.r i hi
  rw [← h3]
  exact cells_at h1 _
theorem Sep.hset (h : Sep M w0 Δ F w) (i : Nat) (hi : Δ[i]? = some (hol ad n cap xs k b off T ck f1 f2)) (j : Nat) (hj : j < ck.length) (v : Value) :
    ∃ cur : Array Value, w.heap[b]? = some (.cells cur T (0, 0)) ∧ off + j < cur.size ∧ Sep M w0 (Δ.set i (hol ad n cap xs k b off T (ck.set j v) f1 f2)) F (Wk.put w b (.cells (cur.setIfInBounds (off + j) v) T (0, 0))) := by
  obtain ⟨cur, h1, h2, h3, h4, h5⟩ : (hol ad n cap xs k b off T ck f1 f2).φ w := h.r i hi
  have hnd := h.nodup1 hi
  change (b :: (f1 ++ f2)).Nodup at hnd
  obtain ⟨n1, _⟩ := List.nodup_cons.1 hnd
  have hjs : j < sz α := by
    have := congrArg List.length h3
    rw [List.length_take, List.length_drop] at this; omega
  have hE : Ext (· = b) w (Wk.put w b (.cells (cur.setIfInBounds (off + j) v) T (0, 0))) := Ext.refl.put (.inl rfl)
  refine ⟨cur, h1, by omega, h.set hi (q := hol ad n cap xs k b off T (ck.set j v) f1 f2) (hE.mono fun b' _ e => by subst e; simp [hol]) ?_ hnd (fun b hb => .inl hb)⟩
  refine ⟨cur.setIfInBounds (off + j) v, put_heap h1, by simpa using h2, ?_, fun x hx => by have := h4 x hx; have := hE.size; omega, fun w' cur' x' fk' q1 q2 q3 q4 q5 q6 => ?_⟩
  · rw [Array.toList_setIfInBounds, List.drop_set, if_neg (by omega), List.take_set, h3, Nat.add_sub_cancel_left]
  · refine h5 w' cur' x' fk' q1 (by simpa using q2) (fun l hl => ?_) (fun b' hb' => ?_) (fun b' hb' => ?_) q6
    · rw [q3 l hl, Array.getElem?_setIfInBounds_ne (by omega)]
    · rw [q4 b' hb']; exact hE.block b' (h4 b' (by simp [hb'])) fun e => n1 (by subst e; simp [hb'])
    · rw [q5 b' hb']; exact hE.block b' (h4 b' (by simp [hb'])) fun e => n1 (by subst e; simp [hb'])
theorem Sep.fill (h : Sep M w0 Δ F w) (i j : Nat) {fk} {x : α} (hi : Δ[i]? = some (hol ad n cap xs k b off T ck f1 f2)) (hj : Δ[j]? = some (Wk.mine ck x fk)) (hij : Nat.beq j i = false) :
    ∃ fp', Sep M w0 ((Δ.set j gone).set i (Wk.mine [.slice ad n cap] (xs.set k x) fp')) F w := by
  obtain ⟨cur, h1, h2, h3, h4, h5⟩ : (hol ad n cap xs k b off T ck f1 f2).φ w := h.r i hi
  have hx := h.mine j hj
  have hnd := h.nodup1 hi
  change (b :: (f1 ++ f2)).Nodup at hnd
  have hnk := h.nodup1 hj
  change fk.Nodup at hnk
  have hap : ∀ x ∈ fk, x ∉ b :: (f1 ++ f2) := fun x hx hm => h.apart (i := i) (j := j) hi hj hij x hx hm
  obtain ⟨n1, n2⟩ := List.nodup_cons.1 hnd
  obtain ⟨d1, d2, d3⟩ := List.nodup_append.1 n2
  have hbk : b ∉ fk := fun hm => hap b hm (by simp)
  refine ⟨b :: (f1 ++ (fk ++ f2)), h.set2 hi hj hij (q := Wk.mine [.slice ad n cap] (xs.set k x) (b :: (f1 ++ (fk ++ f2)))) Ext.refl ?_ ?_ ?_⟩
  · exact h5 w cur x fk h1 rfl (fun _ _ => rfl) (fun _ _ => rfl) (fun _ _ => rfl) (by rw [h3]; exact hx)
  · change (b :: (f1 ++ (fk ++ f2))).Nodup
    refine List.nodup_cons.2 ⟨fun hm => ?_, List.nodup_append.2 ⟨d1, List.nodup_append.2 ⟨hnk, d2, fun p hp q hq e => ?_⟩, fun p hp q hq e => ?_⟩⟩
    · simp only [List.mem_append, not_or] at hm n1
      rcases hm with hm | hm | hm
      · exact n1.1 hm
      · exact hbk hm
      · exact n1.2 hm
    · subst e; exact hap p hp (by simp [hq])
    · subst e
      rcases List.mem_append.1 hq with hq | hq
      · exact hap p hq (by simp [hp])
      · exact d3 p hp p hq rfl
  · intro x hx
    change x ∈ b :: (f1 ++ (fk ++ f2)) at hx
    simp only [List.mem_cons, List.mem_append] at hx
    rcases hx with h | h | h | h
    · exact .inl (by simp [hol, h])
    · exact .inl (by simp [hol, h])
    · exact .inr (.inl h)
    · exact .inl (by simp [hol, h])
theorem Sep.focusL {β : Type} [Rp β] (h : Sep M w0 Δ F w) (i : Nat) {ad n cap} {xs : List (List β)} {fp} (hi : Δ[i]? = some (Wk.mine [.slice ad n cap] xs fp)) (k : Nat) (hk : k < xs.length) :
    ∃ b o T f1 f2 a c fk, ad = some ⟨b, o, none⟩ ∧ Sep M w0 (Δ.set i (hol ad n cap xs k b (o + k * 1) T [.slice a (xs.getD k []).length c] f1 f2) ++ [Wk.mine [.slice a (xs.getD k []).length c] (xs.getD k []) fk]) F w := by
  obtain ⟨b, o, T, ck, f1, f2, fk, e, hx, H⟩ := h.focus (d := ([] : List β)) i hi k hk
  obtain ⟨a, c, rfl⟩ := own_slice hx
  exact ⟨b, o, T, f1, f2, a, c, fk, e, H⟩
end
section
variable {P : Program} {n : Nat} {ops : Array Oper} {Q : Post} {L : Env} {w w0 : World} {M : Nat → Prop} {Δ F : List Rsc} {d : Tmp} {ty : TypeId} {p : String} {af : Array Edge} {g : Option (Nat × Bool)} {α : Type} [Rp α]
theorem s_hsto {rest : List Oper} {t : TypeId} {x y : Operand} {ad : Option Addr} {m cap k b off : Nat} {xs : List α} {T : TypeId} {ck : List Value} {f1 f2 : List Nat} {v : Value} (hw : Wn ops n L ⟨none, .store t x y, ty, p, af, g⟩) (hs : ∀ w, (sizeOf t).run P w = .ok 1 w)
    (H : Sep M w0 Δ F w) (i j : Nat) (hi : Δ[i]? = some (hol ad m cap xs k b off T ck f1 f2)) (hj : Nat.blt j ck.length = true) (hx : evL L x = some (.pointer (some ⟨b, off + j, none⟩))) (hy : evL L y = some v) (h1 : v.oneCell' = true)
    (kk : ∀ w', Sep M w0 (Δ.set i (hol ad m cap xs k b off T (ck.set j v) f1 f2)) F w' → RL P n ops Q rest L w') : RL P n ops Q (⟨none, .store t x y, ty, p, af, g⟩ :: rest) L w := by
  obtain ⟨cur, hb, hlt, H'⟩ := H.hset i hi j (Nat.le_of_ble_eq_true hj) v
  exact s_do hw rfl (pd_store hs hx hy h1 hb hlt) (kk _ H')
end
end Go.Wk

namespace Go.Wk
open Rp (sz own)
theorem Block.focus {M : Nat → Prop} {w0 w : World} {Δ F : List Rsc} (h : Sep M w0 Δ F w) (i : Nat) {ad n cap} {xs : List Block} {fp} (hi : Δ[i]? = some (mine [.slice ad n cap] xs fp)) (k : Nat) (hk : k < xs.length) : ∃ b o Ty f1 f2 A1 C1 g1, ad = some ⟨b, o, none⟩ ∧ (xs.getD k default).Ok ∧ Sep M w0 (Δ.set i (hol ad n cap xs k b (o + k * sz Block) Ty [.int .i64 (xs.getD k default).Stamp, .slice A1 (xs.getD k default).Bytes.length C1] f1 f2) ++ [gone, mine [.slice A1 (xs.getD k default).Bytes.length C1] (xs.getD k default).Bytes g1]) F w := by
  obtain ⟨b, o, Ty, ck, f1, f2, fk, e, hx, H⟩ := h.focus (d := default) i hi k hk
  obtain ⟨A1, C1, g1, rfl, ef, ok, o1⟩ := own_Block hx
  have H2 := H.partLast [mine [.slice A1 (xs.getD k default).Bytes.length C1] (xs.getD k default).Bytes g1] (all_cons o1 (by simp)) (by simp [blocks, mine, ef])
  exact ⟨b, o, Ty, f1, f2, A1, C1, g1, e, ok, H2⟩
theorem Block.fill {M : Nat → Prop} {w0 w : World} {Δ F : List Rsc} (h : Sep M w0 Δ F w) (i j1 : Nat) {ad n cap k b off Ty f1 f2} {xs : List Block} {s0 : Int} {A1 C1 m1} {y1 : List UInt8} {g1} (hi : Δ[i]? = some (hol ad n cap xs k b off Ty [.int .i64 s0, .slice A1 m1 C1] f1 f2)) (h1 : Δ[j1]? = some (mine [.slice A1 m1 C1] y1 g1)) (d1 : Nat.beq j1 i = false)  (ok : (⟨s0, y1⟩ : Block).Ok) : ∃ fp', Sep M w0 ((Δ.set j1 gone).set i (mine [.slice ad n cap] (xs.set k (⟨s0, y1⟩ : Block)) fp')) F w := by
  have o1 := h.mine j1 h1
  obtain rfl := own_n o1
  have n1 : j1 ≠ i := fun e => by subst e; simp at d1
  have H := h.conv j1 (mine [.int .i64 s0, .slice A1 y1.length C1] (⟨s0, y1⟩ : Block) (g1)) h1 (Block.own_mk ok o1) (fun b hb => hb) (show (mine [.slice A1 y1.length C1] y1 g1).fp.Nodup from h.nodup1 h1)
  obtain ⟨fp', H2⟩ := H.fill i j1 (by rw [List.getElem?_set_ne n1]; exact hi) (by rw [List.getElem?_set_self (List.getElem?_eq_some_iff.1 h1).1]) d1
  rw [List.set_set] at H2
  exact ⟨fp', H2⟩
theorem Drive.focus {M : Nat → Prop} {w0 w : World} {Δ F : List Rsc} (h : Sep M w0 Δ F w) (i : Nat) {ad n cap} {xs : List Drive} {fp} (hi : Δ[i]? = some (mine [.slice ad n cap] xs fp)) (k : Nat) (hk : k < xs.length) : ∃ b o Ty f1 f2 A1 C1 g1, ad = some ⟨b, o, none⟩ ∧ (xs.getD k default).Ok ∧ Sep M w0 (Δ.set i (hol ad n cap xs k b (o + k * sz Drive) Ty [.bool (xs.getD k default).Wiped, .slice A1 (xs.getD k default).Blocks.length C1] f1 f2) ++ [gone, mine [.slice A1 (xs.getD k default).Blocks.length C1] (xs.getD k default).Blocks g1]) F w := by
  obtain ⟨b, o, Ty, ck, f1, f2, fk, e, hx, H⟩ := h.focus (d := default) i hi k hk
  obtain ⟨A1, C1, g1, rfl, ef, ok, o1⟩ := own_Drive hx
  have H2 := H.partLast [mine [.slice A1 (xs.getD k default).Blocks.length C1] (xs.getD k default).Blocks g1] (all_cons o1 (by simp)) (by simp [blocks, mine, ef])
  exact ⟨b, o, Ty, f1, f2, A1, C1, g1, e, ok, H2⟩
theorem Drive.fill {M : Nat → Prop} {w0 w : World} {Δ F : List Rsc} (h : Sep M w0 Δ F w) (i j1 : Nat) {ad n cap k b off Ty f1 f2} {xs : List Drive} {s0 : Bool} {A1 C1 m1} {y1 : List Block} {g1} (hi : Δ[i]? = some (hol ad n cap xs k b off Ty [.bool s0, .slice A1 m1 C1] f1 f2)) (h1 : Δ[j1]? = some (mine [.slice A1 m1 C1] y1 g1)) (d1 : Nat.beq j1 i = false)  (ok : (⟨s0, y1⟩ : Drive).Ok) : ∃ fp', Sep M w0 ((Δ.set j1 gone).set i (mine [.slice ad n cap] (xs.set k (⟨s0, y1⟩ : Drive)) fp')) F w := by
  have o1 := h.mine j1 h1
  obtain rfl := own_n o1
  have n1 : j1 ≠ i := fun e => by subst e; simp at d1
  have H := h.conv j1 (mine [.bool s0, .slice A1 y1.length C1] (⟨s0, y1⟩ : Drive) (g1)) h1 (Drive.own_mk ok o1) (fun b hb => hb) (show (mine [.slice A1 y1.length C1] y1 g1).fp.Nodup from h.nodup1 h1)
  obtain ⟨fp', H2⟩ := H.fill i j1 (by rw [List.getElem?_set_ne n1]; exact hi) (by rw [List.getElem?_set_self (List.getElem?_eq_some_iff.1 h1).1]) d1
  rw [List.set_set] at H2
  exact ⟨fp', H2⟩
theorem Tape.focus {M : Nat → Prop} {w0 w : World} {Δ F : List Rsc} (h : Sep M w0 Δ F w) (i : Nat) {ad n cap} {xs : List Tape} {fp} (hi : Δ[i]? = some (mine [.slice ad n cap] xs fp)) (k : Nat) (hk : k < xs.length) : ∃ b o Ty f1 f2 A1 C1 g1, ad = some ⟨b, o, none⟩ ∧ (xs.getD k default).Ok ∧ Sep M w0 (Δ.set i (hol ad n cap xs k b (o + k * sz Tape) Ty [.bool (xs.getD k default).Wiped, .slice A1 (xs.getD k default).Recs.length C1] f1 f2) ++ [gone, mine [.slice A1 (xs.getD k default).Recs.length C1] (xs.getD k default).Recs g1]) F w := by
  obtain ⟨b, o, Ty, ck, f1, f2, fk, e, hx, H⟩ := h.focus (d := default) i hi k hk
  obtain ⟨A1, C1, g1, rfl, ef, ok, o1⟩ := own_Tape hx
  have H2 := H.partLast [mine [.slice A1 (xs.getD k default).Recs.length C1] (xs.getD k default).Recs g1] (all_cons o1 (by simp)) (by simp [blocks, mine, ef])
  exact ⟨b, o, Ty, f1, f2, A1, C1, g1, e, ok, H2⟩
theorem Tape.fill {M : Nat → Prop} {w0 w : World} {Δ F : List Rsc} (h : Sep M w0 Δ F w) (i j1 : Nat) {ad n cap k b off Ty f1 f2} {xs : List Tape} {s0 : Bool} {A1 C1 m1} {y1 : List Rec} {g1} (hi : Δ[i]? = some (hol ad n cap xs k b off Ty [.bool s0, .slice A1 m1 C1] f1 f2)) (h1 : Δ[j1]? = some (mine [.slice A1 m1 C1] y1 g1)) (d1 : Nat.beq j1 i = false)  (ok : (⟨s0, y1⟩ : Tape).Ok) : ∃ fp', Sep M w0 ((Δ.set j1 gone).set i (mine [.slice ad n cap] (xs.set k (⟨s0, y1⟩ : Tape)) fp')) F w := by
  have o1 := h.mine j1 h1
  obtain rfl := own_n o1
  have n1 : j1 ≠ i := fun e => by subst e; simp at d1
  have H := h.conv j1 (mine [.bool s0, .slice A1 y1.length C1] (⟨s0, y1⟩ : Tape) (g1)) h1 (Tape.own_mk ok o1) (fun b hb => hb) (show (mine [.slice A1 y1.length C1] y1 g1).fp.Nodup from h.nodup1 h1)
  obtain ⟨fp', H2⟩ := H.fill i j1 (by rw [List.getElem?_set_ne n1]; exact hi) (by rw [List.getElem?_set_self (List.getElem?_eq_some_iff.1 h1).1]) d1
  rw [List.set_set] at H2
  exact ⟨fp', H2⟩
theorem Rec.focus {M : Nat → Prop} {w0 w : World} {Δ F : List Rsc} (h : Sep M w0 Δ F w) (i : Nat) {ad n cap} {xs : List Rec} {fp} (hi : Δ[i]? = some (mine [.slice ad n cap] xs fp)) (k : Nat) (hk : k < xs.length) : ∃ b o Ty f1 f2 A6 C6 A7 C7 A8 C8 g6 g7 g8, ad = some ⟨b, o, none⟩ ∧ (xs.getD k default).Ok ∧ Sep M w0 (Δ.set i (hol ad n cap xs k b (o + k * sz Rec) Ty [.int .i64 (xs.getD k default).Kind, .int .i64 (xs.getD k default).Seq, .string (xs.getD k default).Name, .int .i64 (xs.getD k default).Length, .int .i64 (xs.getD k default).Group, .int .i64 (xs.getD k default).Row, .slice A6 (xs.getD k default).Rows.length C6, .slice A7 (xs.getD k default).Data.length C7, .slice A8 (xs.getD k default).Delta.length C8] f1 f2) ++ [gone, mine [.slice A6 (xs.getD k default).Rows.length C6] (xs.getD k default).Rows g6, mine [.slice A7 (xs.getD k default).Data.length C7] (xs.getD k default).Data g7, mine [.slice A8 (xs.getD k default).Delta.length C8] (xs.getD k default).Delta g8]) F w := by
  obtain ⟨b, o, Ty, ck, f1, f2, fk, e, hx, H⟩ := h.focus (d := default) i hi k hk
  obtain ⟨A6, C6, A7, C7, A8, C8, g6, g7, g8, rfl, ef, ok, o6, o7, o8⟩ := own_Rec hx
  have H2 := H.partLast [mine [.slice A6 (xs.getD k default).Rows.length C6] (xs.getD k default).Rows g6, mine [.slice A7 (xs.getD k default).Data.length C7] (xs.getD k default).Data g7, mine [.slice A8 (xs.getD k default).Delta.length C8] (xs.getD k default).Delta g8] (all_cons o6 (all_cons o7 (all_cons o8 (by simp)))) (by simp [blocks, mine, ef])
  exact ⟨b, o, Ty, f1, f2, A6, C6, A7, C7, A8, C8, g6, g7, g8, e, ok, H2⟩
theorem Rec.fill {M : Nat → Prop} {w0 w : World} {Δ F : List Rsc} (h : Sep M w0 Δ F w) (i j6 j7 j8 : Nat) {ad n cap k b off Ty f1 f2} {xs : List Rec} {s0 : Int} {s1 : Int} {s2 : ByteArray} {s3 : Int} {s4 : Int} {s5 : Int} {A6 C6 m6} {y6 : List Int} {g6} {A7 C7 m7} {y7 : List UInt8} {g7} {A8 C8 m8} {y8 : List UInt8} {g8} (hi : Δ[i]? = some (hol ad n cap xs k b off Ty [.int .i64 s0, .int .i64 s1, .string s2, .int .i64 s3, .int .i64 s4, .int .i64 s5, .slice A6 m6 C6, .slice A7 m7 C7, .slice A8 m8 C8] f1 f2)) (h6 : Δ[j6]? = some (mine [.slice A6 m6 C6] y6 g6)) (h7 : Δ[j7]? = some (mine [.slice A7 m7 C7] y7 g7)) (h8 : Δ[j8]? = some (mine [.slice A8 m8 C8] y8 g8)) (d6 : Nat.beq j6 i = false) (d7 : Nat.beq j7 i = false) (d8 : Nat.beq j8 i = false) (e7_6 : Nat.beq j7 j6 = false) (e8_6 : Nat.beq j8 j6 = false) (e8_7 : Nat.beq j8 j7 = false) (ok : (⟨s0, s1, s2, s3, s4, s5, y6, y7, y8⟩ : Rec).Ok) : ∃ fp', Sep M w0 ((((Δ.set j7 gone).set j8 gone).set j6 gone).set i (mine [.slice ad n cap] (xs.set k (⟨s0, s1, s2, s3, s4, s5, y6, y7, y8⟩ : Rec)) fp')) F w := by
  have o6 := h.mine j6 h6
  obtain rfl := own_n o6
  have n6 : j6 ≠ i := fun e => by subst e; simp at d6
  have o7 := h.mine j7 h7
  obtain rfl := own_n o7
  have n7 : j7 ≠ i := fun e => by subst e; simp at d7
  have o8 := h.mine j8 h8
  obtain rfl := own_n o8
  have n8 : j8 ≠ i := fun e => by subst e; simp at d8
  have q1 : j7 ≠ j6 := fun e => by subst e; simp at e7_6
  have q2 : j8 ≠ j6 := fun e => by subst e; simp at e8_6
  have q3 : j8 ≠ j7 := fun e => by subst e; simp at e8_7
  have l6 := (List.getElem?_eq_some_iff.1 h6).1
  have H1 := h.join2 j6 j7 h6 h7 e7_6
  have H2 := H1.join2 j6 j8 (by rw [List.getElem?_set_self (by simpa using l6)]) (by rw [List.getElem?_set_ne (Ne.symm q2), List.getElem?_set_ne (Ne.symm q3)]; exact h8) e8_6
  rw [List.set_comm _ _ (Ne.symm q2), List.set_set] at H2
  have sq : (((Δ.set j7 gone).set j8 gone).set j6 (cat (cat (mine [.slice A6 y6.length C6] y6 g6) (mine [.slice A7 y7.length C7] y7 g7)) (mine [.slice A8 y8.length C8] y8 g8)))[j6]? = some (cat (cat (mine [.slice A6 y6.length C6] y6 g6) (mine [.slice A7 y7.length C7] y7 g7)) (mine [.slice A8 y8.length C8] y8 g8)) := by rw [List.getElem?_set_self (by simpa using l6)]
  have nd := H2.nodup1 sq
  have H := H2.conv j6 (mine [.int .i64 s0, .int .i64 s1, .string s2, .int .i64 s3, .int .i64 s4, .int .i64 s5, .slice A6 y6.length C6, .slice A7 y7.length C7, .slice A8 y8.length C8] (⟨s0, s1, s2, s3, s4, s5, y6, y7, y8⟩ : Rec) (g6 ++ (g7 ++ (g8)))) sq (Rec.own_mk ok o6 o7 o8) (fun b hb => by simpa [cat, mine] using hb) (by simpa [cat, mine] using nd)
  rw [List.set_set] at H
  obtain ⟨fp', H3⟩ := H.fill i j6 (by rw [List.getElem?_set_ne n6, List.getElem?_set_ne n8, List.getElem?_set_ne n7]; exact hi) (by rw [List.getElem?_set_self (by simpa using l6)]) d6
  rw [List.set_set] at H3
  exact ⟨fp', H3⟩
end Go.Wk
namespace Go.Wk
open Rp (sz own)
def digits : Nat → Nat → ByteArray → ByteArray
  | 0, _, out => out
  | f + 1, k, out => if k = 0 then out else digits f (k / 10) (strB [UInt8.ofNat (48 + k % 10)] ++ out)
def mText (k : Int) : ByteArray := if k ≤ 0 then ⟨#[109, 48]⟩ else ⟨#[109]⟩ ++ digits 30 k.toNat ⟨#[]⟩
section
variable {α : Type} [Inhabited α]
def MkL (P : α → Int → Prop) (c : α → Nat) (xs : List α) (k : Int) : Prop := ∀ i, i < xs.length → P (xs.getD i default) (k + sumN (fun i => c (xs.getD i default)) i)
def MkInv (P : α → Int → Prop) (c : α → Nat) (xs : List α) (k : Int) (i : Nat) (ys : List α) : Prop :=
  i ≤ xs.length ∧ ys.length = xs.length ∧ (∀ j, c (ys.getD j default) = c (xs.getD j default)) ∧ (∀ j, j < i → P (ys.getD j default) (k + sumN (fun i => c (xs.getD i default)) j)) ∧ (∀ j, i ≤ j → ys.getD j default = xs.getD j default)
variable {P : α → Int → Prop} {c : α → Nat} {xs ys : List α} {k : Int} {i : Nat} {e : α}
theorem mk_begin : MkInv P c xs k 0 xs := ⟨Nat.zero_le _, rfl, fun _ => rfl, fun j hj => by omega, fun _ _ => rfl⟩
theorem mk_step (h : MkInv P c xs k i ys) (hi : i < xs.length) (hc : c e = c (xs.getD i default)) (hP : P e (k + sumN (fun i => c (xs.getD i default)) i)) : MkInv P c xs k (i + 1) (ys.set i e) := by
  obtain ⟨h1, h2, h3, h4, h5⟩ := h
  refine ⟨by omega, by rw [List.length_set]; exact h2, fun j => ?_, fun j hj => ?_, fun j hj => ?_⟩
  · rw [getD_set]
    split
    · rename_i h; rw [hc, h.1]
    · exact h3 j
  · rw [getD_set]
    split
    · rename_i h; rw [h.1]; exact hP
    · rename_i h; exact h4 j (by omega)
  · rw [getD_set, if_neg (by omega)]; exact h5 j (by omega)
theorem mk_end (h : MkInv P c xs k xs.length ys) : ys.length = xs.length ∧ mkL c ys = mkL c xs ∧ MkL P c ys k := by
  obtain ⟨h1, h2, h3, h4, h5⟩ := h
  have e : (fun i => c (ys.getD i default)) = fun i => c (xs.getD i default) := funext h3
  refine ⟨h2, by unfold mkL; rw [e, h2], fun i hi => ?_⟩
  rw [e]; exact h4 i (by omega)
theorem mk_at (h : MkInv P c xs k i ys) : ys.getD i default = xs.getD i default := h.2.2.2.2 i (Nat.le_refl _)
theorem mkL_at (h : i < xs.length) : sumN (fun i => c (xs.getD i default)) (i + 1) = sumN (fun i => c (xs.getD i default)) i + c (xs.getD i default) ∧ sumN (fun i => c (xs.getD i default)) (i + 1) ≤ mkL c xs := ⟨rfl, sumN_le h⟩
end
def MkBlock (b : Block) (k : Int) : Prop := b.Stamp = k ∧ MarkB b.Bytes (k + 1)
def MkDrive (d : Drive) (k : Int) : Prop := d.Wiped = decide (k.tmod 3 = 0) ∧ MkL MkBlock mkBlock d.Blocks (k + 1)
def MkRec (r : Rec) (k : Int) : Prop := r.Kind = k ∧ r.Seq = k + 1 ∧ r.Name = mText (k + 2) ∧ r.Length = k + 3 ∧ r.Group = k + 4 ∧ r.Row = k + 5 ∧ MarkI r.Rows (k + 6) ∧ MarkB r.Data (k + 6 + r.Rows.length) ∧ MarkB r.Delta (k + 6 + r.Rows.length + r.Data.length)
def MkTape (t : Tape) (k : Int) : Prop := t.Wiped = decide (k.tmod 3 = 0) ∧ MkL MkRec mkRec t.Recs (k + 1)
def MkWld (z : Wld) (k : Int) : Prop := MkL (MkL MkDrive mkDrive) (mkL mkDrive) z.Groups k ∧ MarkI z.On (k + mkL (mkL mkDrive) z.Groups) ∧ MkL MkTape mkTape z.Tapes (k + mkL (mkL mkDrive) z.Groups + z.On.length)
end Go.Wk
namespace Go.Wk
theorem eqStr {a b : ByteArray} (h : a = b) : some (Value.string a) = some (Value.string b) := by rw [h]
theorem digits_zero : ∀ f out, digits f 0 out = out
  | 0, _ => rfl
  | _ + 1, _ => by rw [digits, if_pos rfl]
theorem digits_step {f m : Nat} {out : ByteArray} (h : 0 < m) : digits (f + 1) m out = digits f (m / 10) (strB [UInt8.ofNat (48 + m % 10)] ++ out) := by rw [digits, if_neg (by omega)]
end Go.Wk
namespace Go.Wk
section
variable {M : Nat → Prop} {w0 w : World} {Δ F : List Rsc} {α : Type} [Rp α]
theorem Sep.litW (h : Sep M w0 Δ F w) (i : Nat) {b : Nat} {T : TypeId} {v : Value} {u : α} (hi : Δ[i]? = some (Wk.box b (.cells [v].toArray T))) (h0 : Rp.own true w [v] u []) : Sep M w0 (Δ.set i (Wk.mine [.slice (some ⟨b, 0, none⟩) 1 1] [u] [b])) F w :=
  h.conv i (Wk.mine [.slice (some ⟨b, 0, none⟩) 1 1] [u] [b]) hi (.inr (.inr ⟨b, 0, 1, [v].toArray, T, (0, 0), [], by simp, by simp, h.box i hi, fun _ => rfl, by simp, by simp [maxLen], by have := Rp.len h0; simp at this; simp [← this], by
    have hl := Rp.len h0
    refine ⟨[], [], rfl, ?_, rfl⟩
    have e : Rp.sz α = 1 := by simpa using hl.symm
    rw [e]; exact h0⟩)) (fun b hb => hb) (by simp [Wk.mine])
end
end Go.Wk
namespace Go.Wk
theorem digits_bd {k : Int} (h : k ≤ 4611686018427388904) : k.toNat < 10 ^ 30 := Nat.lt_of_le_of_lt (show k.toNat ≤ 4611686018427388904 by omega) (by decide)
theorem dig_eq {m : Nat} : strB [u8Of (48 + (m : Int).tmod 10)] = strB [UInt8.ofNat (48 + m % 10)] := by
  have e : ((48 + (m : Int).tmod 10) % 256).toNat = 48 + m % 10 := by
    rw [Int.tmod_eq_emod_of_nonneg (by omega)]; omega
  unfold u8Of; rw [e]
end Go.Wk
namespace Go.Wk
section
open Rp (own sz)
variable {w w' : World} {x : Wld} {A9 A10 A11 : Option Addr} {C9 C10 C11 : Nat} {fp : List Nat}
theorem Wld.mkOut {F : List Rsc} {y9 : List (List Drive)} {y10 : List Int} {y11 : List Tape} {f9 f10 f11 : List Nat} {k : Int} (ok : x.Ok) (h : Sep (· ∈ fp) w [gone, mine [.slice A9 x.Groups.length C9] y9 f9, mine [.slice A10 x.On.length C10] y10 f10, mine [.slice A11 x.Tapes.length C11] y11 f11] F w')
    (h9 : y9.length = x.Groups.length ∧ mkL (mkL mkDrive) y9 = mkL (mkL mkDrive) x.Groups ∧ MkL (MkL MkDrive mkDrive) (mkL mkDrive) y9 k) (l10 : y10.length = x.On.length) (h10 : MarkI y10 (k + mkL (mkL mkDrive) x.Groups))
    (h11 : y11.length = x.Tapes.length ∧ mkL mkTape y11 = mkL mkTape x.Tapes ∧ MkL MkTape mkTape y11 (k + mkL (mkL mkDrive) x.Groups + x.On.length)) :
    ∃ x' : Wld, Mut w w' fp [.int .i64 x.Shape.Groups, .int .i64 x.Shape.Column, .int .i64 x.Shape.Data, .int .i64 x.Shape.Spare, .int .i64 x.Shape.Rows, .int .i64 x.Shape.Cap, .int .i64 x.Shape.Batch, .int .i64 x.Shape.Queue, .int .i64 x.Shape.Stage, .slice A9 x.Groups.length C9, .slice A10 x.On.length C10, .slice A11 x.Tapes.length C11, .int .i64 x.Writes, .int .i64 x.Stop, .bool x.Down] x' ∧
      (x'.Groups.length = x.Groups.length ∧ x'.On.length = x.On.length ∧ x'.Tapes.length = x.Tapes.length ∧ mkWld x' = mkWld x ∧ MkWld x' k ∧ x'.Shape = x.Shape ∧ x'.Writes = x.Writes ∧ x'.Stop = x.Stop ∧ x'.Down = x.Down) :=
  ⟨_, Wld.mutOut ok h h9.1 l10 h11.1, h9.1, l10, h11.1, by unfold mkWld; dsimp only; rw [h9.2.1, l10, h11.2.1], ⟨h9.2.2, by dsimp only; rw [h9.2.1]; exact h10, by dsimp only; rw [h9.2.1, l10]; exact h11.2.2⟩, rfl, rfl, rfl, rfl⟩
end
end Go.Wk
namespace Go.Wk
open Rp (sz own)
def wipedTo (g : List Drive) : Nat → List Int
  | 0 => []
  | k + 1 => if (g.getD k default).Wiped = true then wipedTo g k ++ [(k : Int)] else wipedTo g k
def wipedL (z : Wld) (g : Int) : List Int := wipedTo (z.Groups.getD g.toNat []) (z.Groups.getD g.toNat []).length
def deadF (z : Wld) (g : Int) : Bool := decide (z.Shape.Spare < ((wipedL z g).length : Int))
section
variable {G : List Drive} {z : Wld} {k : Nat}
theorem wiped_yes (h : (G.getD k default).Wiped = true) : wipedTo G (k + 1) = wipedTo G k ++ [(k : Int)] := by rw [wipedTo, if_pos h]
theorem wiped_no (h : (G.getD k default).Wiped = false) : wipedTo G (k + 1) = wipedTo G k := by rw [wipedTo, if_neg (by rw [h]; simp)]
theorem wiped_len : ∀ {k : Nat}, (wipedTo G k).length ≤ k
  | 0 => Nat.le_refl _
  | k + 1 => by
    have := wiped_len (k := k)
    rw [wipedTo]; split
    · rw [List.length_append]; simp; omega
    · omega
def askF (z : Wld) (g row : Int) : Int := if worldF z ≠ 0 then worldF z else if placeF z.Shape g 0 row = true then 0 else 3
theorem askF_cd {g row : Int} : 0 ≤ askF z g row ∧ askF z g row ≤ 5 := by
  have := worldF_cd (z := z)
  unfold askF; repeat' split
  all_goals omega
theorem askF_ok {g row : Int} (h : askF z g row = 0) : worldF z = 0 ∧ z.Shape.ok = true ∧ groupsOK z = true ∧ ins g 0 (z.Shape.Groups + z.Shape.Column - 1) = true ∧ ins row 0 (z.Shape.Rows - 1) = true := by
  unfold askF at h
  split at h
  · rename_i h1; exact absurd h h1
  · rename_i h1
    have hw := worldF_ok (w := z) (by omega)
    split at h
    · rename_i h2
      rw [place_zero hw.1, Bool.and_eq_true] at h2
      exact ⟨by omega, hw.1, hw.2.1, h2.1, h2.2⟩
    · cases h
theorem ask_world {g row : Int} (h : worldF z ≠ 0) : askF z g row = worldF z := by rw [askF, if_pos h]
theorem ask_place {g row : Int} (h : worldF z = 0) (h2 : placeF z.Shape g 0 row = false) : askF z g row = 3 := by rw [askF, if_neg (by omega), if_neg (by simp [h2])]
theorem ask_fine {g row : Int} (h : worldF z = 0) (h2 : placeF z.Shape g 0 row = true) : askF z g row = 0 := by rw [askF, if_neg (by omega), if_pos h2]
theorem place_grp {g : Int} (hs : z.Shape.ok = true) : placeF z.Shape g 0 0 = ins g 0 (z.Shape.Groups + z.Shape.Column - 1) := by
  have : ins 0 0 (z.Shape.Rows - 1) = true := ins_iff.2 (by have := shape_bd hs; omega)
  rw [place_zero hs, this, Bool.and_true]
end
end Go.Wk

namespace Go.Wk
open Go.Proofs Rp
set_option maxRecDepth 10000
theorem Tryz_impl_World_wiped {w : World} {zb : Nat} {z : Wld} {zA9 : Option Addr} {zC9 : Nat} {zA10 : Option Addr} {zC10 : Nat} {zA11 : Option Addr} {zC11 : Nat} {g : Int} (zB : w.heap[zb]? = some (.cells [.int .i64 z.Shape.Groups, .int .i64 z.Shape.Column, .int .i64 z.Shape.Data, .int .i64 z.Shape.Spare, .int .i64 z.Shape.Rows, .int .i64 z.Shape.Cap, .int .i64 z.Shape.Batch, .int .i64 z.Shape.Queue, .int .i64 z.Shape.Stage, .slice zA9 z.Groups.length zC9, .slice zA10 z.On.length zC10, .slice zA11 z.Tapes.length zC11, .int .i64 z.Writes, .int .i64 z.Stop, .bool z.Down].toArray 37)) (zK : z.Ok) (zS9 : Sees w [.slice zA9 z.Groups.length zC9] z.Groups) (zS10 : Sees w [.slice zA10 z.On.length zC10] z.On) (zS11 : Sees w [.slice zA11 z.Tapes.length zC11] z.Tapes) (hs : z.Shape.ok = true) (hG : groupsOK z = true) (hg : ins g 0 (z.Shape.Groups + z.Shape.Column - 1) = true) : Ret Tryz.prog 95 #[.pointer (some ⟨zb, 0, none⟩), .int .i64 g] w fun v w' => Ext No w w' ∧ (Res w w' [v] (wipedL z g)) := by
 have zK2 := zK
 unfold Wld.Ok Shape.Ok at zK2
 try unfold I64ok at zK2
 try unfold maxLen at zK2
 have zL9 := sees_len zS9
 unfold maxLen at zL9
 obtain ⟨zF9, zO9⟩ := zS9
 have zL10 := sees_len zS10
 unfold maxLen at zL10
 obtain ⟨zF10, zO10⟩ := zS10
 have zL11 := sees_len zS11
 unfold maxLen at zL11
 obtain ⟨zF11, zO11⟩ := zS11
 have sbd := shape_bd hs
 have hgg := groups_get hG
 have hgl := hgg.1
 have hgi := ins_iff.1 hg
 obtain ⟨hdl, hdd⟩ := hgg.2 g.toNat (by omega)
 refine ret_Q (vs := [.pointer (some ⟨zb, 0, none⟩), .int .i64 g]) Tryz.func95 rfl Tryz.ntmps95 rfl (fun Q hQ hN => ?_)
 have H0 := Sep.start (w := w) (F := [box zb (.cells [.int .i64 z.Shape.Groups, .int .i64 z.Shape.Column, .int .i64 z.Shape.Data, .int .i64 z.Shape.Spare, .int .i64 z.Shape.Rows, .int .i64 z.Shape.Cap, .int .i64 z.Shape.Batch, .int .i64 z.Shape.Queue, .int .i64 z.Shape.Stage, .slice zA9 z.Groups.length zC9, .slice zA10 z.On.length zC10, .slice zA11 z.Tapes.length zC11, .int .i64 z.Writes, .int .i64 z.Stop, .bool z.Down].toArray 37), seen false [.slice zA9 z.Groups.length zC9] z.Groups zF9, seen false [.slice zA10 z.On.length zC10] z.On zF10, seen false [.slice zA11 z.Tapes.length zC11] z.Tapes zF11]) (all_cons (by exact zB) (all_cons zO9 (all_cons zO10 (all_cons zO11 (by simp)))))
 refine W_sr (sV rfl (py_assign rfl) (s_nil (W_sr (s_lit0 (α := Int) (wn rfl) rfl Tryz.underlying25 Tryz_ty2 H0 (fun b1 w1 e1 g1 H1 => ?_)))))
 refine sV rfl (py_assign rfl) (s_nil (W_seq (W_seq ?_)))
 obtain ⟨eb1, eo1, ea1, ek1, ef1, ee1, ec1, eO1, eH1⟩ := elem_sl (H1.seen 1 rfl) g.toNat (by omega)
 have eP1 := H1.look1 1 rfl eO1 eH1
 refine W_reg (sV rfl (py_move rfl) (sV rfl (py_nil rfl) (sV rfl (py_field Tryz.underlying37 rfl Tryz.sizeOf34 rfl rfl) (sV rfl (py_load Tryz.underlying34 rfl rfl (cell_atL (eP1.fbox 0 rfl) rfl)) (sV rfl (py_move rfl) (sV rfl (py_elz Tryz.underlying34 Tryz.sizeOf147 rfl rfl ee1 g.toNat (by omega) (by omega)) (sV rfl (py_load Tryz.underlying147 rfl rfl ec1) (sV rfl (py_len Tryz.underlying147 rfl) (sV rfl (py_move rfl) (s_nil (W_block (W_loopA (α := Int) (γ := Nat) (fun k => wipedTo (z.Groups.getD g.toNat []) k) 0 eP1 0 rfl 5 rfl [(4, _), (15, _), (16, _)] ⟨rfl, rfl, rfl, trivial⟩ (fun k => [(17, .int .i64 k)]) (fun k => k ≤ (z.Groups.getD g.toNat []).length ∧ True) (fun k => (z.Groups.getD g.toNat []).length - k) ⟨rfl, trivial⟩ ⟨by omega, trivial⟩ (fun k vA1 fA1 w2 H2 ⟨hk, _⟩ => ?_)))))))))))))
 dsimp only [List.cons_append, List.nil_append, List.set_cons_zero, List.set_cons_succ] at H2 ⊢
 refine W_sr (sV rfl (py_lss rfl rfl) (s_nil (W_seq (W_ifd rfl (fun c1 => ?_) (fun c1 => ?_)))))
 ·refine W_skip (W_seq (W_block (W_seq ?_)))
  obtain ⟨eb2, eo2, es1, ef2, ee2, ec2, eO2, eH2, em1⟩ := elem_st (H2.seen 4 rfl) k (by omega)
  obtain ⟨ea2, ek2, eg1, rfl, eq1, eK1, eo3⟩ := own_Drive eO2
  have eP2 := H2.look1 4 rfl eo3 (fun b hb => eH2 b (by rw [eq1]; simp [hb]))
  have eL1 := own_len_le eo3
  unfold maxLen at eL1
  refine W_reg (sV rfl (py_move rfl) (sV rfl (py_elz Tryz.underlying147 Tryz.sizeOf150 rfl rfl ee2 k (by omega) (by omega)) (sV rfl (py_loadS Tryz.underlying150 rfl Tryz.sizeOf150 rfl rfl ec2) (s_var (wn rfl) rfl Tryz.zeroValue150 eP2 (fun b2 w3 e2 g2 H3 => ?_)))))
  refine sV rfl (py_assign rfl) (s_stoS (wn rfl) Tryz.sizeOf150 rfl rfl rfl rfl H3 1 rfl rfl (fun w4 e3 H4 => ?_))
  dsimp only [List.nil_append, List.cons_append, List.set_cons_zero, List.set_cons_succ, layL] at H4
  refine s_nil (W_sr (sV rfl (py_field Tryz.underlying150 rfl Tryz.sizeOf4 rfl rfl) (sV rfl (py_load Tryz.underlying4 rfl rfl (cell_atL (H4.box 1 rfl) rfl)) (s_nil (W_if rfl (fun c2 => ?_) (fun c2 => ?_))))))
  ·have wl := wiped_len (G := (z.Groups.getD g.toNat [])) (k := k)
   refine W_reg (sV rfl (py_move rfl) (sV rfl (py_move rfl) (s_lit1 (wn rfl) rfl Tryz.underlying25 Tryz_ty2 rfl rfl rfl rfl H4 (fun b3 w5 e4 g3 H5 => ?_))))
   refine s_app1 (wn rfl) rfl Tryz.underlying25 Tryz_ty2 rfl rfl rfl H5 0 2 rfl rfl (own_bi (by first | assumption | (unfold I64ok; omega))) (by unfold maxLen; omega) (by omega) (fun v1 w6 fp1 H6 => ?_)
   refine sV rfl (py_assign rfl) (s_nil (W_reg (sV rfl (py_add rfl rfl (in64 ⟨by omega, by omega⟩)) (sV rfl (py_move rfl) (s_nil ?_)))))
   rw [← wiped_yes c2] at H6
   exact ⟨(k + 1, _, _), ⟨rfl, rfl, rfl, rfl, rfl, trivial⟩, ⟨((H6.ftake 5).dtake 1), by omega, trivial⟩, by dsimp only; omega⟩
  ·refine W_skip (W_reg (sV rfl (py_add rfl rfl (in64 ⟨by omega, by omega⟩)) (sV rfl (py_move rfl) (s_nil ?_))))
   rw [← wiped_no c2] at H4
   exact ⟨(k + 1, _, _), ⟨rfl, rfl, rfl, rfl, rfl, trivial⟩, ⟨((H4.ftake 5).dtake 1), by omega, trivial⟩, by dsimp only; omega⟩
 ·refine W_exit (W_sr (sV rfl (py_move rfl) (sV rfl (py_assign rfl) (s_nil (W_ret (hQ _ _ (fin1 Tryz.results95 rfl ?_)))))))
  obtain rfl : k = (z.Groups.getD g.toNat []).length := by omega
  exact ⟨H2.ext, H2.out 0 rfl⟩
theorem Tryz_impl_World_dead {w : World} {zb : Nat} {z : Wld} {zA9 : Option Addr} {zC9 : Nat} {zA10 : Option Addr} {zC10 : Nat} {zA11 : Option Addr} {zC11 : Nat} {g : Int} (zB : w.heap[zb]? = some (.cells [.int .i64 z.Shape.Groups, .int .i64 z.Shape.Column, .int .i64 z.Shape.Data, .int .i64 z.Shape.Spare, .int .i64 z.Shape.Rows, .int .i64 z.Shape.Cap, .int .i64 z.Shape.Batch, .int .i64 z.Shape.Queue, .int .i64 z.Shape.Stage, .slice zA9 z.Groups.length zC9, .slice zA10 z.On.length zC10, .slice zA11 z.Tapes.length zC11, .int .i64 z.Writes, .int .i64 z.Stop, .bool z.Down].toArray 37)) (zK : z.Ok) (zS9 : Sees w [.slice zA9 z.Groups.length zC9] z.Groups) (zS10 : Sees w [.slice zA10 z.On.length zC10] z.On) (zS11 : Sees w [.slice zA11 z.Tapes.length zC11] z.Tapes) (hs : z.Shape.ok = true) (hG : groupsOK z = true) (hg : ins g 0 (z.Shape.Groups + z.Shape.Column - 1) = true) : Ret Tryz.prog 87 #[.pointer (some ⟨zb, 0, none⟩), .int .i64 g] w fun v w' => Ext No w w' ∧ (v = .bool (deadF z g)) := by
 have zK2 := zK
 unfold Wld.Ok Shape.Ok at zK2
 try unfold I64ok at zK2
 try unfold maxLen at zK2
 have zL9 := sees_len zS9
 unfold maxLen at zL9
 obtain ⟨zF9, zO9⟩ := zS9
 have zL10 := sees_len zS10
 unfold maxLen at zL10
 obtain ⟨zF10, zO10⟩ := zS10
 have zL11 := sees_len zS11
 unfold maxLen at zL11
 obtain ⟨zF11, zO11⟩ := zS11
 have sbd := shape_bd hs
 refine ret_Q (vs := [.pointer (some ⟨zb, 0, none⟩), .int .i64 g]) Tryz.func87 rfl Tryz.ntmps87 rfl (fun Q hQ hN => ?_)
 have H0 := Sep.start (w := w) (F := [box zb (.cells [.int .i64 z.Shape.Groups, .int .i64 z.Shape.Column, .int .i64 z.Shape.Data, .int .i64 z.Shape.Spare, .int .i64 z.Shape.Rows, .int .i64 z.Shape.Cap, .int .i64 z.Shape.Batch, .int .i64 z.Shape.Queue, .int .i64 z.Shape.Stage, .slice zA9 z.Groups.length zC9, .slice zA10 z.On.length zC10, .slice zA11 z.Tapes.length zC11, .int .i64 z.Writes, .int .i64 z.Stop, .bool z.Down].toArray 37), seen false [.slice zA9 z.Groups.length zC9] z.Groups zF9, seen false [.slice zA10 z.On.length zC10] z.On zF10, seen false [.slice zA11 z.Tapes.length zC11] z.Tapes zF11]) (all_cons (by exact zB) (all_cons zO9 (all_cons zO10 (all_cons zO11 (by simp)))))
 refine W_sr (sV rfl (py_assign rfl) (s_nil (W_seq (W_drw (S := Ext No _) [(0, true), (1, true), (4, true), (5, true), (6, true), (7, true), (8, true), (2, false), (3, false), (9, true), (10, false)] (by kernel_rfl) (by kernel_rfl) (by kernel_rfl) rfl (fun _ => Ext.refl.drawn _) (fun q1 => ?_)))))
 have H1 := H0.drawn q1
 refine dV rfl rfl (fun zw hx => py_move rfl) (dV rfl rfl (fun zw hx => py_move rfl) (dV rfl rfl (fun zw hx => py_move rfl) (dV rfl rfl (fun zw hx => py_nil rfl) (dV rfl rfl (fun zw hx => py_field Tryz.underlying37 rfl Tryz.sizeOf33 rfl rfl) (dV rfl rfl (fun zw hx => py_field Tryz.underlying33 rfl Tryz.sizeOf2 rfl rfl) (dV rfl rfl (fun zw hx => py_load Tryz.underlying2 rfl rfl (cell_atL (hx.heap (H1.fbox 0 rfl)) rfl)) (d_call rfl (wn rfl) rfl rfl (pc_call Tryz.func95 rfl Tryz_nm95 rfl) (Tryz_impl_World_wiped (H1.fbox 0 rfl) (by assumption) (H1.sees 1 rfl) (H1.sees 2 rfl) (H1.sees 3 rfl) (by assumption) (by assumption) (by assumption)) (fun hS _ _ r _ => hS.trans r.1.no) (fun v1 w1 r1 => ?_))))))))
 obtain ⟨e1, r1⟩ := r1
 obtain ⟨fp1, H2⟩ := H1.res e1 r1
 obtain ⟨a1, k1, q2⟩ := own_slice (H2.mine 0 rfl)
 cases q2
 refine d_call rfl (wn rfl) rfl rfl (pc_call Tryz.func155 rfl Tryz_nm155 rfl) (Tryz_size_int64 (H2.msees 0 rfl)) (fun hS _ _ r _ => hS.trans r.1.no) (fun v2 w2 r2 => ?_)
 obtain ⟨e2, rfl⟩ := r2
 have H3 := H2.to e2
 refine dV rfl rfl (fun zw hx => py_gtr rfl rfl) (d_end rfl (wn rfl) rfl rfl (py_assign rfl) (d_nil (W_ret (hQ _ _ (fin1 Tryz.results87 rfl ?_)))))
 exact ⟨H3.ext, rfl⟩
theorem Tryz_spec_l7Dead {w : World} {zb : Nat} {z : Wld} {zA9 : Option Addr} {zC9 : Nat} {zA10 : Option Addr} {zC10 : Nat} {zA11 : Option Addr} {zC11 : Nat} {g : Int} (zB : w.heap[zb]? = some (.cells [.int .i64 z.Shape.Groups, .int .i64 z.Shape.Column, .int .i64 z.Shape.Data, .int .i64 z.Shape.Spare, .int .i64 z.Shape.Rows, .int .i64 z.Shape.Cap, .int .i64 z.Shape.Batch, .int .i64 z.Shape.Queue, .int .i64 z.Shape.Stage, .slice zA9 z.Groups.length zC9, .slice zA10 z.On.length zC10, .slice zA11 z.Tapes.length zC11, .int .i64 z.Writes, .int .i64 z.Stop, .bool z.Down].toArray 37)) (zK : z.Ok) (zS9 : Sees w [.slice zA9 z.Groups.length zC9] z.Groups) (zS10 : Sees w [.slice zA10 z.On.length zC10] z.On) (zS11 : Sees w [.slice zA11 z.Tapes.length zC11] z.Tapes) (hs : z.Shape.ok = true) (hG : groupsOK z = true) (hg : ins g 0 (z.Shape.Groups + z.Shape.Column - 1) = true) : Ret Tryz.prog 84 #[.pointer (some ⟨zb, 0, none⟩), .int .i64 g] w fun v w' => Ext No w w' ∧ (v = .bool (deadF z g)) := by
 have zK2 := zK
 unfold Wld.Ok Shape.Ok at zK2
 try unfold I64ok at zK2
 try unfold maxLen at zK2
 have zL9 := sees_len zS9
 unfold maxLen at zL9
 obtain ⟨zF9, zO9⟩ := zS9
 have zL10 := sees_len zS10
 unfold maxLen at zL10
 obtain ⟨zF10, zO10⟩ := zS10
 have zL11 := sees_len zS11
 unfold maxLen at zL11
 obtain ⟨zF11, zO11⟩ := zS11
 have sbd := shape_bd hs
 have hgg := groups_get hG
 have hgl := hgg.1
 have hgi := ins_iff.1 hg
 obtain ⟨hdl, hdd⟩ := hgg.2 g.toNat (by omega)
 refine ret_Q (vs := [.pointer (some ⟨zb, 0, none⟩), .int .i64 g]) Tryz.func84 rfl Tryz.ntmps84 rfl (fun Q hQ hN => ?_)
 have H0 := Sep.start (w := w) (F := [box zb (.cells [.int .i64 z.Shape.Groups, .int .i64 z.Shape.Column, .int .i64 z.Shape.Data, .int .i64 z.Shape.Spare, .int .i64 z.Shape.Rows, .int .i64 z.Shape.Cap, .int .i64 z.Shape.Batch, .int .i64 z.Shape.Queue, .int .i64 z.Shape.Stage, .slice zA9 z.Groups.length zC9, .slice zA10 z.On.length zC10, .slice zA11 z.Tapes.length zC11, .int .i64 z.Writes, .int .i64 z.Stop, .bool z.Down].toArray 37), seen false [.slice zA9 z.Groups.length zC9] z.Groups zF9, seen false [.slice zA10 z.On.length zC10] z.On zF10, seen false [.slice zA11 z.Tapes.length zC11] z.Tapes zF11]) (all_cons (by exact zB) (all_cons zO9 (all_cons zO10 (all_cons zO11 (by simp)))))
 refine W_sr (sV rfl (py_assign rfl) (s_nil (W_sr (sV rfl (py_assign rfl) (s_nil (W_seq (W_sr (sV rfl (py_assign rfl) (s_nil (W_block (W_loopS (γ := Nat) H0 [(0, _), (1, _), (4, _)] ⟨rfl, rfl, rfl, trivial⟩ (fun k => [(5, .int .i64 ((wipedTo (z.Groups.getD g.toNat []) k).length : Nat)), (6, .int .i64 k)]) (fun k => k ≤ (z.Groups.getD g.toNat []).length ∧ True) (fun k => (z.Groups.getD g.toNat []).length - k) 0 ⟨rfl, rfl, trivial⟩ ⟨by omega, trivial⟩ (fun k w1 H1 ⟨hk, _⟩ => ?_))))))))))))
 dsimp only [List.cons_append, List.nil_append]
 refine W_seq (W_seq ?_)
 obtain ⟨eb1, eo1, ea1, ek1, ef1, ee1, ec1, eO1, eH1⟩ := elem_sl (H1.seen 1 rfl) g.toNat (by omega)
 have eP1 := H1.look1 1 rfl eO1 eH1
 refine W_reg (sV rfl (py_move rfl) (sV rfl (py_move rfl) (sV rfl (py_nil rfl) (sV rfl (py_field Tryz.underlying37 rfl Tryz.sizeOf34 rfl rfl) (sV rfl (py_load Tryz.underlying34 rfl rfl (cell_atL (eP1.fbox 0 rfl) rfl)) (sV rfl (py_move rfl) (sV rfl (py_elz Tryz.underlying34 Tryz.sizeOf147 rfl rfl ee1 g.toNat (by omega) (by omega)) (sV rfl (py_load Tryz.underlying147 rfl rfl ec1) (sV rfl (py_len Tryz.underlying147 rfl) (sV rfl (py_lss rfl rfl) (s_nil (W_ifd rfl (fun c1 => ?_) (fun c1 => ?_)))))))))))))
 ·refine W_skip (W_seq (W_block (W_seq ?_)))
  obtain ⟨eb2, eo2, ea2, ek2, ef2, ee2, ec2, eO2, eH2⟩ := elem_sl (eP1.seen 1 rfl) g.toNat (by omega)
  have eP2 := eP1.look1 1 rfl eO2 eH2
  obtain ⟨eb3, eo3, es1, ef3, ee3, ec3, eO3, eH3, em1⟩ := elem_st (eP2.seen 5 rfl) k (by omega)
  obtain ⟨ea3, ek3, eg1, rfl, eq1, eK1, eo4⟩ := own_Drive eO3
  have eP3 := eP2.look1 5 rfl eo4 (fun b hb => eH3 b (by rw [eq1]; simp [hb]))
  have eL1 := own_len_le eo4
  unfold maxLen at eL1
  refine W_reg (sV rfl (py_move rfl) (sV rfl (py_nil rfl) (sV rfl (py_field Tryz.underlying37 rfl Tryz.sizeOf34 rfl rfl) (sV rfl (py_load Tryz.underlying34 rfl rfl (cell_atL (eP3.fbox 0 rfl) rfl)) (sV rfl (py_move rfl) (sV rfl (py_elz Tryz.underlying34 Tryz.sizeOf147 rfl rfl ee2 g.toNat (by omega) (by omega)) (sV rfl (py_load Tryz.underlying147 rfl rfl ec2) (sV rfl (py_move rfl) (sV rfl (py_elz Tryz.underlying147 Tryz.sizeOf150 rfl rfl ee3 k (by omega) (by omega)) (sV rfl (py_field Tryz.underlying150 rfl Tryz.sizeOf4 rfl rfl) (sV rfl (py_load Tryz.underlying4 rfl rfl (at_cell ec3 0 rfl)) (s_nil (W_if rfl (fun c2 => ?_) (fun c2 => ?_))))))))))))))
  ·have wl := wiped_len (G := (z.Groups.getD g.toNat [])) (k := k)
   refine W_reg (sV rfl (py_move rfl) (sV rfl (py_add rfl rfl (in64 ⟨by omega, by omega⟩)) (sV rfl (py_assign rfl) (s_nil (W_reg (sV rfl (py_move rfl) (sV rfl (py_add rfl rfl (in64 ⟨by omega, by omega⟩)) (sV rfl (py_assign rfl) (s_nil ?_)))))))))
   have wq := wiped_yes c2
   exact ⟨k + 1, ⟨eqI (by rw [wq]; simp), rfl, rfl, rfl, rfl, trivial⟩, ⟨(eP3.ftake 4), by omega, trivial⟩, by dsimp only; omega⟩
  ·refine W_skip (W_reg (sV rfl (py_move rfl) (sV rfl (py_add rfl rfl (in64 ⟨by omega, by omega⟩)) (sV rfl (py_assign rfl) (s_nil ?_)))))
   have wq := wiped_no c2
   exact ⟨k + 1, ⟨eqI (by rw [wq]), rfl, rfl, rfl, rfl, trivial⟩, ⟨(eP3.ftake 4), by omega, trivial⟩, by dsimp only; omega⟩
 ·refine W_exit (W_sr (sV rfl (py_move rfl) (sV rfl (py_move rfl) (sV rfl (py_nil rfl) (sV rfl (py_field Tryz.underlying37 rfl Tryz.sizeOf33 rfl rfl) (sV rfl (py_field Tryz.underlying33 rfl Tryz.sizeOf2 rfl rfl) (sV rfl (py_load Tryz.underlying2 rfl rfl (cell_atL (eP1.fbox 0 rfl) rfl)) (sV rfl (py_gtr rfl rfl) (sV rfl (py_assign rfl) (s_nil (W_ret (hQ _ _ (fin1 Tryz.results84 rfl ?_)))))))))))))
  obtain rfl : k = (z.Groups.getD g.toNat []).length := by omega
  exact ⟨eP1.ext, rfl⟩
theorem Tryz_spec_l8Asked {w : World} {z : Wld} {zA9 : Option Addr} {zC9 : Nat} {zA10 : Option Addr} {zC10 : Nat} {zA11 : Option Addr} {zC11 : Nat} {g : Int} {row : Int} (zK : z.Ok) (zS9 : Sees w [.slice zA9 z.Groups.length zC9] z.Groups) (zS10 : Sees w [.slice zA10 z.On.length zC10] z.On) (zS11 : Sees w [.slice zA11 z.Tapes.length zC11] z.Tapes) : Ret Tryz.prog 92 #[z.val zA9 zC9 zA10 zC10 zA11 zC11, .int .i64 g, .int .i64 row] w fun v w' => Ext No w w' ∧ (v = .int .i64 (askF z g row)) := by
 have zK2 := zK
 unfold Wld.Ok Shape.Ok at zK2
 try unfold I64ok at zK2
 try unfold maxLen at zK2
 have zL9 := sees_len zS9
 unfold maxLen at zL9
 obtain ⟨zF9, zO9⟩ := zS9
 have zL10 := sees_len zS10
 unfold maxLen at zL10
 obtain ⟨zF10, zO10⟩ := zS10
 have zL11 := sees_len zS11
 unfold maxLen at zL11
 obtain ⟨zF11, zO11⟩ := zS11
 refine ret_Q (vs := [z.val zA9 zC9 zA10 zC10 zA11 zC11, .int .i64 g, .int .i64 row]) Tryz.func92 rfl Tryz.ntmps92 rfl (fun Q hQ hN => ?_)
 have H0 := Sep.start (w := w) (F := [seen false [.slice zA9 z.Groups.length zC9] z.Groups zF9, seen false [.slice zA10 z.On.length zC10] z.On zF10, seen false [.slice zA11 z.Tapes.length zC11] z.Tapes zF11]) (all_cons zO9 (all_cons zO10 (all_cons zO11 (by simp))))
 refine W_sr (s_box (wn rfl) rfl rfl H0 (fun b1 w1 e1 g1 H1 => ?_))
 refine sV rfl (py_assign rfl) (s_nil (W_seq (W_sr (sV rfl (py_loadS Tryz.underlying37 rfl Tryz.sizeOf37 rfl rfl (At.whole (H1.box 0 rfl))) (s_call (wn rfl) rfl rfl (pc_call Tryz.func82 rfl Tryz_nm82 rfl) (Tryz_spec_WorldFault (by assumption) (H1.sees 0 rfl) (H1.sees 1 rfl) (H1.sees 2 rfl)) (fun v1 w2 r1 => ?_))))))
 obtain ⟨e2, rfl⟩ := r1
 have H2 := H1.to e2
 refine sV rfl (py_assign rfl) (s_nil (W_sr (sV rfl (py_move rfl) (sV rfl (py_neq rfl rfl) (s_nil (W_ifd rfl (fun c1 => ?_) (fun c1 => ?_)))))))
 ·refine W_sr (sV rfl (py_move rfl) (sV rfl (py_assign rfl) (s_nil (W_ret (hQ _ _ (fin1 Tryz.results92 rfl ?_))))))
  exact ⟨H2.ext, congrArg (Value.int .i64) (ask_world (by omega)).symm⟩
 ·refine W_skip (W_seq (W_seq ?_))
  have hs := (worldF_ok (w := z) (by omega)).1
  refine W_reg (sV rfl (py_field Tryz.underlying37 rfl Tryz.sizeOf33 rfl rfl) (sV rfl (py_loadS Tryz.underlying33 rfl Tryz.sizeOf33 rfl rfl (At.sub (H2.box 0 rfl) 9)) (sV rfl (py_move rfl) (sV rfl (py_move rfl) (s_call (wn rfl) rfl rfl (pc_call Tryz.func96 rfl Tryz_nm96 rfl) (Tryz_spec_l5Place (by assumption)) (fun v2 w3 r2 => ?_))))))
  obtain ⟨e3, rfl⟩ := r2
  have H3 := H2.to e3
  refine sV rfl (py_not rfl) (s_nil (W_if rfl (fun c2 => ?_) (fun c2 => ?_)))
  ·refine W_sr (sV rfl (py_assign rfl) (s_nil (W_ret (hQ _ _ (fin1 Tryz.results92 rfl ?_)))))
   exact ⟨H3.ext, congrArg (Value.int .i64) (ask_place (by omega) (not_true c2)).symm⟩
  ·refine W_skip (W_sr (sV rfl (py_assign rfl) (s_nil (W_ret (hQ _ _ (fin1 Tryz.results92 rfl ?_))))))
   exact ⟨H3.ext, congrArg (Value.int .i64) (ask_fine (by omega) (not_false c2)).symm⟩
end Go.Wk
namespace Go.Wk
open Go.Proofs Rp
set_option maxRecDepth 10000
theorem Tryz_impl_MulG {w : World} {a : UInt8} {b : UInt8}  : Ret Tryz.prog 285 #[.int .u8 a.toNat, .int .u8 b.toNat] w fun v w' => Ext No w w' ∧ (v = .int .u8 (mulG a b).toNat) := by
 refine ret_Q (vs := [.int .u8 a.toNat, .int .u8 b.toNat]) Tryz.func285 rfl Tryz.ntmps285 rfl (fun Q hQ hN => ?_)
 have H0 := Sep.start (w := w) (F := []) (by simp)
 refine W_sr (sV rfl (py_assign rfl) (s_nil (W_sr (sV rfl (py_assign rfl) (s_nil (W_seq (W_block (W_loop (γ := UInt8 × UInt8 × UInt8) (fun (x, y, o) => [(0, .int .u8 x.toNat), (1, .int .u8 y.toNat), (5, .int .u8 o.toNat)]) (fun (x, y, o) w' => Sep No w [] [] w' ∧ mulR 8 x y o = mulG a b) (fun (x, y, o) => y.toNat) (a, b, 0) ⟨rfl, rfl, rfl, trivial⟩ ⟨H0, rfl⟩ (fun (x, y, o) w1 H1 => ?_)))))))))
 obtain ⟨H1, hI⟩ := H1
 refine W_seq (W_sr (sV rfl (py_move rfl) (sV rfl (py_gtr rfl rfl) (s_nil (W_ifd rfl (fun c1 => ?_) (fun c1 => ?_))))))
 ·refine W_skip (W_seq (W_block (W_seq (W_sr (sV rfl (py_move rfl) (sV rfl (py_and8 (b := 1) rfl rfl) (sV rfl (py_eql rfl rfl) (s_nil (W_ifd rfl (fun c2 => ?_) (fun c2 => ?_))))))))))
  ·refine W_reg (sV rfl (py_move rfl) (sV rfl (py_move rfl) (sV rfl (py_xor8 rfl rfl) (sV rfl (py_assign rfl) (s_nil (W_sr (sV rfl (py_move rfl) (sV rfl (py_and8 (b := 128) rfl rfl) (sV rfl (py_neq rfl rfl) (s_nil (W_ifd rfl (fun c3 => ?_) (fun c3 => ?_))))))))))))
   ·refine W_reg (sV rfl (py_move rfl) (sV rfl (py_shl8 (k := 1) (by omega) rfl rfl) (sV rfl (py_xor8 (b := 29) rfl rfl) (sV rfl (py_assign rfl) (s_nil (W_reg (sV rfl (py_move rfl) (sV rfl (py_shr8 (k := 1) rfl rfl) (sV rfl (py_assign rfl) (s_nil (⟨(_, _, _), ⟨rfl, rfl, rfl, trivial⟩, ⟨H1, ?_⟩, ?_⟩)))))))))))
    ·rw [← hI, mulR_round x y o, xt, if_neg (fun e => c3 ((u8_inj (b := 0)).2 e)), if_pos ((u8_inj (b := 1)).1 c2)]
    ·dsimp only
     rw [shrN_toNat]
     omega
   ·refine W_reg (sV rfl (py_move rfl) (sV rfl (py_shl8 (k := 1) (by omega) rfl rfl) (sV rfl (py_assign rfl) (s_nil (W_reg (sV rfl (py_move rfl) (sV rfl (py_shr8 (k := 1) rfl rfl) (sV rfl (py_assign rfl) (s_nil (⟨(_, _, _), ⟨rfl, rfl, rfl, trivial⟩, ⟨H1, ?_⟩, ?_⟩))))))))))
    ·rw [← hI, mulR_round x y o, xt, if_pos (u8_zero (by omega)), if_pos ((u8_inj (b := 1)).1 c2)]
    ·dsimp only
     rw [shrN_toNat]
     omega
  ·refine W_skip (W_sr (sV rfl (py_move rfl) (sV rfl (py_and8 (b := 128) rfl rfl) (sV rfl (py_neq rfl rfl) (s_nil (W_ifd rfl (fun c4 => ?_) (fun c4 => ?_)))))))
   ·refine W_reg (sV rfl (py_move rfl) (sV rfl (py_shl8 (k := 1) (by omega) rfl rfl) (sV rfl (py_xor8 (b := 29) rfl rfl) (sV rfl (py_assign rfl) (s_nil (W_reg (sV rfl (py_move rfl) (sV rfl (py_shr8 (k := 1) rfl rfl) (sV rfl (py_assign rfl) (s_nil (⟨(_, _, _), ⟨rfl, rfl, rfl, trivial⟩, ⟨H1, ?_⟩, ?_⟩)))))))))))
    ·rw [← hI, mulR_round x y o, xt, if_neg (fun e => c4 ((u8_inj (b := 0)).2 e)), if_neg (fun e => c2 ((u8_inj (b := 1)).2 e))]
    ·dsimp only
     rw [shrN_toNat]
     omega
   ·refine W_reg (sV rfl (py_move rfl) (sV rfl (py_shl8 (k := 1) (by omega) rfl rfl) (sV rfl (py_assign rfl) (s_nil (W_reg (sV rfl (py_move rfl) (sV rfl (py_shr8 (k := 1) rfl rfl) (sV rfl (py_assign rfl) (s_nil (⟨(_, _, _), ⟨rfl, rfl, rfl, trivial⟩, ⟨H1, ?_⟩, ?_⟩))))))))))
    ·rw [← hI, mulR_round x y o, xt, if_pos (u8_zero (by omega)), if_neg (fun e => c2 ((u8_inj (b := 1)).2 e))]
    ·dsimp only
     rw [shrN_toNat]
     omega
 ·refine W_exit (W_sr (sV rfl (py_move rfl) (sV rfl (py_assign rfl) (s_nil (W_ret (hQ _ _ (fin1 Tryz.results285 rfl ?_)))))))
  obtain rfl : y = 0 := u8_zero (by omega)
  exact ⟨H1.ext, by rw [← hI, mulR_zero]⟩
theorem Tryz_spec_MulG {w : World} {a : UInt8} {b : UInt8}  : Ret Tryz.prog 295 #[.int .u8 a.toNat, .int .u8 b.toNat] w fun v w' => Ext No w w' ∧ (v = .int .u8 (mulG a b).toNat) := by
 have al := a.toNat_lt
 refine ret_Q (vs := [.int .u8 a.toNat, .int .u8 b.toNat]) Tryz.func295 rfl Tryz.ntmps295 rfl (fun Q hQ hN => ?_)
 have H0 := Sep.start (w := w) (F := []) (by simp)
 refine W_sr (sV rfl (py_assign rfl) (s_nil (W_sr (sV rfl (py_assign rfl) (s_nil (W_sr (sV rfl (py_move rfl) (sV rfl (py_conv Tryz.underlying5 Tryz.underlying3 rfl (in64 ⟨by omega, by omega⟩)) (sV rfl (py_assign rfl) (s_nil (W_seq (W_sr (sV rfl (py_assign rfl) (s_nil (W_block (W_loop (γ := Nat × UInt8 × UInt8) (fun (k, x, o) => [(1, .int .u8 b.toNat), (5, .int .i64 o.toNat), (6, .int .i64 x.toNat), (7, .int .i64 k)]) (fun (k, x, o) w' => Sep No w [] [] w' ∧ k ≤ 8 ∧ mulR (8 - k) x (shrN b k) o = mulG a b) (fun (k, x, o) => 8 - k) (0, a, 0) ⟨rfl, rfl, rfl, rfl, trivial⟩ ⟨H0, by omega, by rw [shrN_zero]; rfl⟩ (fun (k, x, o) w1 H1 => ?_)))))))))))))))))
 obtain ⟨H1, hk, hI⟩ := H1
 refine W_seq (W_sr (sV rfl (py_move rfl) (sV rfl (py_lss rfl rfl) (s_nil (W_ifd rfl (fun c1 => ?_) (fun c1 => ?_))))))
 ·refine W_skip (W_seq (W_block (W_seq (W_sr (sV rfl (py_move rfl) (sV rfl (py_move rfl) (sV rfl (py_conv Tryz.underlying3 Tryz.underlying264 rfl (inu64 (by omega))) (sV rfl (py_shr8 (k := k) rfl rfl) (sV rfl (py_and8 (b := 1) rfl rfl) (sV rfl (py_eql rfl rfl) (s_nil (W_ifd rfl (fun c2 => ?_) (fun c2 => ?_)))))))))))))
  ·refine W_reg (sV rfl (py_move rfl) (sV rfl (py_move rfl) (sV rfl (py_xorI o x rfl rfl) (sV rfl (py_assign rfl) (s_nil (W_seq ?_))))))
   have xl := x.toNat_lt
   refine W_reg (sV rfl (py_move rfl) (sV rfl (py_mul rfl rfl (in64 ⟨by omega, by omega⟩)) (sV rfl (py_assign rfl) (s_nil (W_sr (sV rfl (py_move rfl) (sV rfl (py_gtr rfl rfl) (s_nil (W_ifd rfl (fun c3 => ?_) (fun c3 => ?_))))))))))
   ·refine W_reg (sV rfl (py_move rfl) (sV rfl (py_xor rfl rfl) (sV rfl (py_assign rfl) (s_nil (W_reg (sV rfl (py_move rfl) (sV rfl (py_add rfl rfl (in64 ⟨by omega, by omega⟩)) (sV rfl (py_assign rfl) (s_nil (⟨(k + 1, xt x, _), ⟨rfl, rfl, eqI (xt_big x (by omega)), rfl, trivial⟩, ⟨H1, by omega, ?_⟩, by dsimp only; omega⟩))))))))))
    rw [mulR_next (k := k) (by omega) x b o, if_pos (u8_one c2)] at hI
    exact hI
   ·refine W_skip (W_reg (sV rfl (py_move rfl) (sV rfl (py_add rfl rfl (in64 ⟨by omega, by omega⟩)) (sV rfl (py_assign rfl) (s_nil (⟨(k + 1, xt x, _), ⟨rfl, rfl, eqI (xt_small x (by omega)), rfl, trivial⟩, ⟨H1, by omega, ?_⟩, by dsimp only; omega⟩))))))
    rw [mulR_next (k := k) (by omega) x b o, if_pos (u8_one c2)] at hI
    exact hI
  ·refine W_skip (W_seq ?_)
   have xl := x.toNat_lt
   refine W_reg (sV rfl (py_move rfl) (sV rfl (py_mul rfl rfl (in64 ⟨by omega, by omega⟩)) (sV rfl (py_assign rfl) (s_nil (W_sr (sV rfl (py_move rfl) (sV rfl (py_gtr rfl rfl) (s_nil (W_ifd rfl (fun c4 => ?_) (fun c4 => ?_))))))))))
   ·refine W_reg (sV rfl (py_move rfl) (sV rfl (py_xor rfl rfl) (sV rfl (py_assign rfl) (s_nil (W_reg (sV rfl (py_move rfl) (sV rfl (py_add rfl rfl (in64 ⟨by omega, by omega⟩)) (sV rfl (py_assign rfl) (s_nil (⟨(k + 1, xt x, _), ⟨rfl, rfl, eqI (xt_big x (by omega)), rfl, trivial⟩, ⟨H1, by omega, ?_⟩, by dsimp only; omega⟩))))))))))
    rw [mulR_next (k := k) (by omega) x b o, if_neg (fun e => c2 ((u8_inj (b := 1)).2 e))] at hI
    exact hI
   ·refine W_skip (W_reg (sV rfl (py_move rfl) (sV rfl (py_add rfl rfl (in64 ⟨by omega, by omega⟩)) (sV rfl (py_assign rfl) (s_nil (⟨(k + 1, xt x, _), ⟨rfl, rfl, eqI (xt_small x (by omega)), rfl, trivial⟩, ⟨H1, by omega, ?_⟩, by dsimp only; omega⟩))))))
    rw [mulR_next (k := k) (by omega) x b o, if_neg (fun e => c2 ((u8_inj (b := 1)).2 e))] at hI
    exact hI
 ·refine W_exit (W_sr (sV rfl (py_move rfl) (sV rfl (py_conv8 Tryz.underlying3 Tryz.underlying5 rfl) (sV rfl (py_assign rfl) (s_nil (W_ret (hQ _ _ (fin1 Tryz.results295 rfl ?_))))))))
  obtain rfl : k = 8 := by omega
  exact ⟨H1.ext, by rw [u8Of_nat, ← hI]; rfl⟩
theorem Tryz_spec_PowG {w : World} {a : UInt8}  : Ret Tryz.prog 303 #[.int .u8 a.toNat, .int .i64 254] w fun v w' => Ext No w w' ∧ (v = .int .u8 (invG a).toNat) := by
 refine ret_Q (vs := [.int .u8 a.toNat, .int .i64 254]) Tryz.func303 rfl Tryz.ntmps303 rfl (fun Q hQ hN => ?_)
 have H0 := Sep.start (w := w) (F := []) (by simp)
 refine W_sr (sV rfl (py_assign rfl) (s_nil (W_seq (W_sr (sV rfl (py_move rfl) (sV rfl (py_lss rfl rfl) (s_nil (W_ifd rfl (fun c1 => ?_) (fun c1 => ?_)))))))))
 ·exact absurd c1 (by decide)
 ·refine W_skip (W_seq (W_sr (sV rfl (py_move rfl) (sV rfl (py_gtr rfl rfl) (sV rfl (py_move rfl) (s_grp 2 (j := 2) (want := true) (t := 12) rfl rfl rfl rfl (fun hg1 kk1 => s_val (wgE rfl rfl rfl hg1) rfl rfl (py_move rfl) (s_val (wgE rfl rfl rfl hg1) rfl rfl (py_neq rfl rfl) (kk1 _ _ (kx rfl (kx rfl k0)) rfl Ext.refl))) (fun w1 e1 => ?_)))))))
  have H1 := H0.to e1
  refine sV rfl (py_band rfl rfl) (s_nil (W_if rfl (fun c2 => ?_) (fun c2 => ?_)))
  ·refine W_reg (sV rfl (py_move rfl) (sV rfl (py_rem rfl rfl (by omega)) (sV rfl (py_assign rfl) (s_nil (W_seq (W_sr (sV rfl (py_move rfl) (sV rfl (py_gtr rfl rfl) (sV rfl (py_move rfl) (s_grp 2 (j := 2) (want := true) (t := 20) rfl rfl rfl rfl (fun hg2 kk2 => s_val (wgE rfl rfl rfl hg2) rfl rfl (py_move rfl) (s_val (wgE rfl rfl rfl hg2) rfl rfl (py_eql rfl rfl) (kk2 _ _ (kx rfl (kx rfl k0)) rfl Ext.refl))) (fun w2 e2 => ?_)))))))))))
   have H2 := H1.to e2
   refine sV rfl (py_band rfl rfl) (s_nil (W_if rfl (fun c3 => ?_) (fun c3 => ?_)))
   ·refine W_sr (sV rfl (py_assign rfl) (s_nil (W_ret (hQ _ _ (fin1 Tryz.results303 rfl ?_)))))
    obtain rfl : a = 0 := u8_zero (by simp at c3; omega)
    exact ⟨H2.ext, by rw [inv_zero]; rfl⟩
   ·refine W_skip (W_sr (sV rfl (py_assign rfl) (s_nil (W_seq (W_block (W_loop (γ := Nat × UInt8) (fun (m, o) => [(0, .int .u8 a.toNat), (1, .int .i64 m), (5, .int .u8 o.toNat)]) (fun (m, o) w' => Sep No w [] [] w' ∧ m ≤ 254 ∧ mulG o (pw a m) = invG a) (fun (m, o) => m) (254, 1) ⟨rfl, eqI (by decide), rfl, trivial⟩ ⟨H2, by omega, mul_one_l _⟩ (fun (m, o) w3 H3 => ?_)))))))
    obtain ⟨H3, hm, hI⟩ := H3
    refine W_seq (W_sr (sV rfl (py_move rfl) (sV rfl (py_gtr rfl rfl) (s_nil (W_ifd rfl (fun c4 => ?_) (fun c4 => ?_))))))
    ·refine W_skip (W_seq (W_block (W_reg (sV rfl (py_move rfl) (sV rfl (py_move rfl) (s_call (wn rfl) rfl rfl (pc_call Tryz.func295 rfl Tryz_nm295 rfl) Tryz_spec_MulG (fun v1 w4 r1 => ?_)))))))
     obtain ⟨e3, rfl⟩ := r1
     have H4 := H3.to e3
     refine sV rfl (py_assign rfl) (s_nil (W_reg (sV rfl (py_move rfl) (sV rfl (py_sub rfl rfl (in64 ⟨by omega, by omega⟩)) (sV rfl (py_assign rfl) (s_nil ?_))))))
     obtain ⟨m, rfl⟩ : ∃ j, m = j + 1 := ⟨m - 1, by omega⟩
     refine ⟨(m, _), ⟨rfl, eqI (by omega), rfl, trivial⟩, ⟨H4, by omega, by rw [← hI, pw_step]⟩, by dsimp only; omega⟩
    ·refine W_exit (W_sr (sV rfl (py_move rfl) (sV rfl (py_assign rfl) (s_nil (W_ret (hQ _ _ (fin1 Tryz.results303 rfl ?_)))))))
     obtain rfl : m = 0 := by omega
     exact ⟨H3.ext, by rw [← hI]; show _ = Value.int .u8 (mulG o 1).toNat; rw [mul_one_r]⟩
  ·refine W_skip (W_seq (W_sr (sV rfl (py_move rfl) (sV rfl (py_gtr rfl rfl) (sV rfl (py_move rfl) (s_grp 2 (j := 2) (want := true) (t := 20) rfl rfl rfl rfl (fun hg3 kk3 => s_val (wgE rfl rfl rfl hg3) rfl rfl (py_move rfl) (s_val (wgE rfl rfl rfl hg3) rfl rfl (py_eql rfl rfl) (kk3 _ _ (kx rfl (kx rfl k0)) rfl Ext.refl))) (fun w5 e4 => ?_)))))))
   have H5 := H1.to e4
   refine sV rfl (py_band rfl rfl) (s_nil (W_if rfl (fun c5 => ?_) (fun c5 => ?_)))
   ·refine W_sr (sV rfl (py_assign rfl) (s_nil (W_ret (hQ _ _ (fin1 Tryz.results303 rfl ?_)))))
    obtain rfl : a = 0 := u8_zero (by simp at c5; omega)
    exact ⟨H5.ext, by rw [inv_zero]; rfl⟩
   ·refine W_skip (W_sr (sV rfl (py_assign rfl) (s_nil (W_seq (W_block (W_loop (γ := Nat × UInt8) (fun (m, o) => [(0, .int .u8 a.toNat), (1, .int .i64 m), (5, .int .u8 o.toNat)]) (fun (m, o) w' => Sep No w [] [] w' ∧ m ≤ 254 ∧ mulG o (pw a m) = invG a) (fun (m, o) => m) (254, 1) ⟨rfl, eqI (by decide), rfl, trivial⟩ ⟨H5, by omega, mul_one_l _⟩ (fun (m, o) w6 H6 => ?_)))))))
    obtain ⟨H6, hm, hI⟩ := H6
    refine W_seq (W_sr (sV rfl (py_move rfl) (sV rfl (py_gtr rfl rfl) (s_nil (W_ifd rfl (fun c6 => ?_) (fun c6 => ?_))))))
    ·refine W_skip (W_seq (W_block (W_reg (sV rfl (py_move rfl) (sV rfl (py_move rfl) (s_call (wn rfl) rfl rfl (pc_call Tryz.func295 rfl Tryz_nm295 rfl) Tryz_spec_MulG (fun v2 w7 r2 => ?_)))))))
     obtain ⟨e5, rfl⟩ := r2
     have H7 := H6.to e5
     refine sV rfl (py_assign rfl) (s_nil (W_reg (sV rfl (py_move rfl) (sV rfl (py_sub rfl rfl (in64 ⟨by omega, by omega⟩)) (sV rfl (py_assign rfl) (s_nil ?_))))))
     obtain ⟨m, rfl⟩ : ∃ j, m = j + 1 := ⟨m - 1, by omega⟩
     refine ⟨(m, _), ⟨rfl, eqI (by omega), rfl, trivial⟩, ⟨H7, by omega, by rw [← hI, pw_step]⟩, by dsimp only; omega⟩
    ·refine W_exit (W_sr (sV rfl (py_move rfl) (sV rfl (py_assign rfl) (s_nil (W_ret (hQ _ _ (fin1 Tryz.results303 rfl ?_)))))))
     obtain rfl : m = 0 := by omega
     exact ⟨H6.ext, by rw [← hI]; show _ = Value.int .u8 (mulG o 1).toNat; rw [mul_one_r]⟩
theorem Tryz_impl_PowG {w : World} {a : UInt8}  : Ret Tryz.prog 304 #[.int .u8 a.toNat, .int .i64 254] w fun v w' => Ext No w w' ∧ (v = .int .u8 (invG a).toNat) := by
 refine ret_Q (vs := [.int .u8 a.toNat, .int .i64 254]) Tryz.func304 rfl Tryz.ntmps304 rfl (fun Q hQ hN => ?_)
 have H0 := Sep.start (w := w) (F := []) (by simp)
 refine W_sr (sV rfl (py_assign rfl) (s_nil (W_seq (W_sr (sV rfl (py_move rfl) (sV rfl (py_lss rfl rfl) (s_nil (W_ifd rfl (fun c1 => ?_) (fun c1 => ?_)))))))))
 ·exact absurd c1 (by decide)
 ·refine W_skip (W_sr (sV rfl (py_assign rfl) (s_nil (W_seq (W_block (W_loop (γ := Nat × UInt8 × UInt8) (fun (m, x, o) => [(0, .int .u8 x.toNat), (1, .int .i64 m), (5, .int .u8 o.toNat)]) (fun (m, x, o) w' => Sep No w [] [] w' ∧ m ≤ 254 ∧ mulG o (pw x m) = invG a) (fun (m, x, o) => m) (254, a, 1) ⟨rfl, rfl, rfl, trivial⟩ ⟨H0, by omega, mul_one_l _⟩ (fun (m, x, o) w1 H1 => ?_)))))))
  obtain ⟨H1, hm, hI⟩ := H1
  refine W_seq (W_sr (sV rfl (py_move rfl) (sV rfl (py_gtr rfl rfl) (s_nil (W_ifd rfl (fun c2 => ?_) (fun c2 => ?_))))))
  ·refine W_skip (W_seq (W_block (W_seq (W_sr (sV rfl (py_move rfl) (sV rfl (py_andI1 (m := m) (by omega) rfl rfl) (sV rfl (py_eql rfl rfl) (s_nil (W_ifd rfl (fun c3 => ?_) (fun c3 => ?_))))))))))
   ·refine W_reg (sV rfl (py_move rfl) (sV rfl (py_move rfl) (s_call (wn rfl) rfl rfl (pc_call Tryz.func285 rfl Tryz_nm285 rfl) Tryz_impl_MulG (fun v1 w2 r1 => ?_))))
    obtain ⟨e1, rfl⟩ := r1
    have H2 := H1.to e1
    refine sV rfl (py_assign rfl) (s_nil (W_reg (sV rfl (py_move rfl) (sV rfl (py_move rfl) (s_call (wn rfl) rfl rfl (pc_call Tryz.func285 rfl Tryz_nm285 rfl) Tryz_impl_MulG (fun v2 w3 r2 => ?_))))))
    obtain ⟨e2, rfl⟩ := r2
    have H3 := H2.to e2
    refine sV rfl (py_assign rfl) (s_nil (W_reg (sV rfl (py_move rfl) (sV rfl (py_shrI1 (m := m) rfl rfl) (sV rfl (py_assign rfl) (s_nil (⟨(m / 2, _, _), ⟨rfl, rfl, rfl, trivial⟩, ⟨H3, by omega, by rw [← hI]; exact (pw_odd o x (m := m) (by omega)).symm⟩, by dsimp only; omega⟩)))))))
   ·refine W_skip (W_reg (sV rfl (py_move rfl) (sV rfl (py_move rfl) (s_call (wn rfl) rfl rfl (pc_call Tryz.func285 rfl Tryz_nm285 rfl) Tryz_impl_MulG (fun v3 w4 r3 => ?_)))))
    obtain ⟨e3, rfl⟩ := r3
    have H4 := H1.to e3
    refine sV rfl (py_assign rfl) (s_nil (W_reg (sV rfl (py_move rfl) (sV rfl (py_shrI1 (m := m) rfl rfl) (sV rfl (py_assign rfl) (s_nil (⟨(m / 2, _, _), ⟨rfl, rfl, rfl, trivial⟩, ⟨H4, by omega, by rw [← hI]; exact (pw_even o x (m := m) (by omega)).symm⟩, by dsimp only; omega⟩)))))))
  ·refine W_exit (W_sr (sV rfl (py_move rfl) (sV rfl (py_assign rfl) (s_nil (W_ret (hQ _ _ (fin1 Tryz.results304 rfl ?_)))))))
   obtain rfl : m = 0 := by omega
   exact ⟨H1.ext, by rw [← hI]; show _ = Value.int .u8 (mulG o 1).toNat; rw [mul_one_r]⟩
theorem Tryz_impl_div {w : World} {a : UInt8} {b : UInt8}  : Ret Tryz.prog 297 #[.int .u8 a.toNat, .int .u8 b.toNat] w fun v w' => Ext No w w' ∧ (v = .int .u8 (mulG a (invG b)).toNat) := by
 refine ret_Q (vs := [.int .u8 a.toNat, .int .u8 b.toNat]) Tryz.func297 rfl Tryz.ntmps297 rfl (fun Q hQ hN => ?_)
 have H0 := Sep.start (w := w) (F := []) (by simp)
 refine W_sr (sV rfl (py_assign rfl) (s_nil (W_sr (sV rfl (py_move rfl) (sV rfl (py_move rfl) (s_call (wn rfl) rfl rfl (pc_call Tryz.func304 rfl Tryz_nm304 rfl) Tryz_impl_PowG (fun v1 w1 r1 => ?_)))))))
 obtain ⟨e1, rfl⟩ := r1
 have H1 := H0.to e1
 refine s_call (wn rfl) rfl rfl (pc_call Tryz.func285 rfl Tryz_nm285 rfl) Tryz_impl_MulG (fun v2 w2 r2 => ?_)
 obtain ⟨e2, rfl⟩ := r2
 have H2 := H1.to e2
 refine sV rfl (py_assign rfl) (s_nil (W_ret (hQ _ _ (fin1 Tryz.results297 rfl ?_))))
 exact ⟨H2.ext, rfl⟩
theorem Tryz_spec_l1Inv {w : World} {a : UInt8}  : Ret Tryz.prog 296 #[.int .u8 a.toNat] w fun v w' => Ext No w w' ∧ (v = .int .u8 (invG a).toNat) := by
 refine ret_Q (vs := [.int .u8 a.toNat]) Tryz.func296 rfl Tryz.ntmps296 rfl (fun Q hQ hN => ?_)
 have H0 := Sep.start (w := w) (F := []) (by simp)
 refine W_sr (sV rfl (py_assign rfl) (s_nil (W_sr (sV rfl (py_move rfl) (s_call (wn rfl) rfl rfl (pc_call Tryz.func303 rfl Tryz_nm303 rfl) Tryz_spec_PowG (fun v1 w1 r1 => ?_))))))
 obtain ⟨e1, rfl⟩ := r1
 have H1 := H0.to e1
 refine sV rfl (py_assign rfl) (s_nil (W_ret (hQ _ _ (fin1 Tryz.results296 rfl ?_))))
 exact ⟨H1.ext, rfl⟩
theorem Tryz_impl_cauchy {w : World} {j : Int} {i : Int} (hj : 0 ≤ j ∧ j ≤ 1000) : Ret Tryz.prog 277 #[.int .i64 j, .int .i64 i] w fun v w' => Ext No w w' ∧ (v = .int .u8 (cauchy j i).toNat) := by
 refine ret_Q (vs := [.int .i64 j, .int .i64 i]) Tryz.func277 rfl Tryz.ntmps277 rfl (fun Q hQ hN => ?_)
 have H0 := Sep.start (w := w) (F := []) (by simp)
 refine W_sr (sV rfl (py_assign rfl) (s_nil (W_sr (sV rfl (py_move rfl) (sV rfl (py_add rfl rfl (in64 ⟨by omega, by omega⟩)) (sV rfl (py_conv8 Tryz.underlying2 Tryz.underlying5 rfl) (sV rfl (py_move rfl) (sV rfl (py_conv8 Tryz.underlying2 Tryz.underlying5 rfl) (sV rfl (py_xor8 rfl rfl) (s_call (wn rfl) rfl rfl (pc_call Tryz.func297 rfl Tryz_nm297 rfl) (Tryz_impl_div (a := 1)) (fun v1 w1 r1 => ?_)))))))))))
 obtain ⟨e1, rfl⟩ := r1
 have H1 := H0.to e1
 refine sV rfl (py_assign rfl) (s_nil (W_ret (hQ _ _ (fin1 Tryz.results277 rfl ?_))))
 exact ⟨H1.ext, by rw [mul_one_l, cauchy]⟩
theorem Tryz_spec_l1Cauchy {w : World} {j : Int} {i : Int} (hj : 0 ≤ j ∧ j ≤ 1000) : Ret Tryz.prog 274 #[.int .i64 j, .int .i64 i] w fun v w' => Ext No w w' ∧ (v = .int .u8 (cauchy j i).toNat) := by
 refine ret_Q (vs := [.int .i64 j, .int .i64 i]) Tryz.func274 rfl Tryz.ntmps274 rfl (fun Q hQ hN => ?_)
 have H0 := Sep.start (w := w) (F := []) (by simp)
 refine W_sr (sV rfl (py_assign rfl) (s_nil (W_sr (sV rfl (py_move rfl) (sV rfl (py_add rfl rfl (in64 ⟨by omega, by omega⟩)) (sV rfl (py_conv8 Tryz.underlying2 Tryz.underlying5 rfl) (sV rfl (py_move rfl) (sV rfl (py_conv8 Tryz.underlying2 Tryz.underlying5 rfl) (sV rfl (py_xor8 rfl rfl) (s_call (wn rfl) rfl rfl (pc_call Tryz.func296 rfl Tryz_nm296 rfl) Tryz_spec_l1Inv (fun v1 w1 r1 => ?_)))))))))))
 obtain ⟨e1, rfl⟩ := r1
 have H1 := H0.to e1
 refine sV rfl (py_assign rfl) (s_nil (W_ret (hQ _ _ (fin1 Tryz.results274 rfl ?_))))
 exact ⟨H1.ext, by rw [cauchy]⟩
end Go.Wk
namespace Go.Wk
open Go.Proofs Rp
set_option maxRecDepth 10000
theorem Tryz_spec_l1Scale {w : World} {xs : List UInt8} {xsA : Option Addr} {xsC : Nat} {c : UInt8} (xsS : Sees w [.slice xsA xs.length xsC] xs) (hl : xs.length ≤ 1048576) : Ret Tryz.prog 273 #[.slice xsA xs.length xsC, .int .u8 c.toNat] w fun v w' => Ext No w w' ∧ (Res w w' [v] (scaleG xs c)) := by
 have xsL := sees_len xsS
 unfold maxLen at xsL
 obtain ⟨xsF, xsO⟩ := xsS
 refine ret_Q (vs := [.slice xsA xs.length xsC, .int .u8 c.toNat]) Tryz.func273 rfl Tryz.ntmps273 rfl (fun Q hQ hN => ?_)
 have H0 := Sep.start (w := w) (F := [seen false [.slice xsA xs.length xsC] xs xsF]) (all_cons xsO (by simp))
 refine W_sr (sV rfl (py_assign rfl) (s_nil (W_sr (s_lit0 (α := UInt8) (wn rfl) rfl Tryz.underlying61 Tryz_ty5 H0 (fun b1 w1 e1 g1 H1 => ?_)))))
 refine sV rfl (py_assign rfl) (s_nil (W_seq (W_sr (sV rfl (py_assign rfl) (s_nil (W_block (W_loop (γ := Nat × Value × List Nat) (fun (k, vo, f) => [(0, .slice xsA xs.length xsC), (1, .int .u8 c.toNat), (5, vo), (6, .int .i64 k)]) (fun (k, vo, f) w' => Sep No w [mine [vo] (scaleG (xs.take k) c) f] [seen false [.slice xsA xs.length xsC] xs xsF] w' ∧ k ≤ xs.length) (fun (k, vo, f) => xs.length - k) (0, _, _) ⟨rfl, rfl, rfl, rfl, trivial⟩ ⟨H1, by omega⟩ (fun (k, vo, f) w2 H2 => ?_))))))))
 obtain ⟨H2, hk⟩ := H2
 refine W_seq (W_sr (sV rfl (py_move rfl) (sV rfl (py_move rfl) (sV rfl (py_len Tryz.underlying61 rfl) (sV rfl (py_lss rfl rfl) (s_nil (W_ifd rfl (fun c1 => ?_) (fun c1 => ?_))))))))
 ·refine W_skip (W_seq (W_block ?_))
  have sl := scaleG_len (xs.take k) c
  rw [List.length_take] at sl
  obtain ⟨eb1, eo1, ee1, ec1⟩ := elem_u8 (H2.seen 0 rfl) k (by omega)
  refine W_reg (sV rfl (py_move rfl) (sV rfl (py_move rfl) (sV rfl (py_move rfl) (sV rfl (py_elz Tryz.underlying61 Tryz.sizeOf5 rfl rfl ee1 k (by omega) (by omega)) (sV rfl (py_load Tryz.underlying5 rfl rfl ec1) (sV rfl (py_move rfl) (s_call (wn rfl) rfl rfl (pc_call Tryz.func295 rfl Tryz_nm295 rfl) Tryz_spec_MulG (fun v1 w3 r1 => ?_))))))))
  obtain ⟨e2, rfl⟩ := r1
  have H3 := H2.to e2
  refine s_lit1 (wn rfl) rfl Tryz.underlying61 Tryz_ty5 rfl rfl rfl rfl H3 (fun b2 w4 e3 g2 H4 => ?_)
  refine s_app1 (wn rfl) rfl Tryz.underlying61 Tryz_ty5 rfl rfl rfl H4 0 1 rfl rfl own_b8 (by unfold maxLen; omega) (by omega) (fun v2 w5 fp1 H5 => ?_)
  refine sV rfl (py_assign rfl) (s_nil (W_reg (sV rfl (py_move rfl) (sV rfl (py_add rfl rfl (in64 ⟨by omega, by omega⟩)) (sV rfl (py_assign rfl) (s_nil (⟨(k + 1, _, _), ⟨rfl, rfl, rfl, rfl, trivial⟩, ⟨scaleG_step (xs := xs) (c := c) (k := k) (by omega) ▸ (H5.dtake 1), by omega⟩, by dsimp only; omega⟩)))))))
 ·refine W_exit (W_sr (sV rfl (py_move rfl) (sV rfl (py_assign rfl) (s_nil (W_ret (hQ _ _ (fin1 Tryz.results273 rfl ?_)))))))
  obtain rfl : k = xs.length := by omega
  exact ⟨H2.ext, by
   have h := H2.out 0 rfl
   rwa [List.take_length] at h⟩
theorem Tryz_spec_l1Add {w : World} {xs : List UInt8} {xsA : Option Addr} {xsC : Nat} {ys : List UInt8} {ysA : Option Addr} {ysC : Nat} (xsS : Sees w [.slice xsA xs.length xsC] xs) (ysS : Sees w [.slice ysA ys.length ysC] ys) (hl : xs.length ≤ 1048576 ∧ xs.length ≤ ys.length) : Ret Tryz.prog 194 #[.slice xsA xs.length xsC, .slice ysA ys.length ysC] w fun v w' => Ext No w w' ∧ (Res w w' [v] (addG xs ys)) := by
 have xsL := sees_len xsS
 unfold maxLen at xsL
 obtain ⟨xsF, xsO⟩ := xsS
 have ysL := sees_len ysS
 unfold maxLen at ysL
 obtain ⟨ysF, ysO⟩ := ysS
 refine ret_Q (vs := [.slice xsA xs.length xsC, .slice ysA ys.length ysC]) Tryz.func194 rfl Tryz.ntmps194 rfl (fun Q hQ hN => ?_)
 have H0 := Sep.start (w := w) (F := [seen false [.slice xsA xs.length xsC] xs xsF, seen false [.slice ysA ys.length ysC] ys ysF]) (all_cons xsO (all_cons ysO (by simp)))
 refine W_sr (sV rfl (py_assign rfl) (s_nil (W_sr (s_lit0 (α := UInt8) (wn rfl) rfl Tryz.underlying61 Tryz_ty5 H0 (fun b1 w1 e1 g1 H1 => ?_)))))
 refine sV rfl (py_assign rfl) (s_nil (W_seq (W_sr (sV rfl (py_assign rfl) (s_nil (W_block (W_loop (γ := Nat × Value × List Nat) (fun (k, vo, f) => [(0, .slice xsA xs.length xsC), (1, .slice ysA ys.length ysC), (5, vo), (6, .int .i64 k)]) (fun (k, vo, f) w' => Sep No w [mine [vo] (addG (xs.take k) (ys.take k)) f] [seen false [.slice xsA xs.length xsC] xs xsF, seen false [.slice ysA ys.length ysC] ys ysF] w' ∧ k ≤ xs.length) (fun (k, vo, f) => xs.length - k) (0, _, _) ⟨rfl, rfl, rfl, rfl, trivial⟩ ⟨H1, by omega⟩ (fun (k, vo, f) w2 H2 => ?_))))))))
 obtain ⟨H2, hk⟩ := H2
 refine W_seq (W_sr (sV rfl (py_move rfl) (sV rfl (py_move rfl) (sV rfl (py_len Tryz.underlying61 rfl) (sV rfl (py_lss rfl rfl) (s_nil (W_ifd rfl (fun c1 => ?_) (fun c1 => ?_))))))))
 ·refine W_skip (W_seq (W_block ?_))
  have sl := addG_len (xs := xs.take k) (ys := ys.take k) (by rw [List.length_take, List.length_take]; omega)
  rw [List.length_take] at sl
  obtain ⟨eb1, eo1, ee1, ec1, em1⟩ := elem_u8m (H2.seen 0 rfl) k (by omega)
  obtain ⟨eb2, eo2, ee2, ec2, em2⟩ := elem_u8m (H2.seen 1 rfl) k (by omega)
  refine W_drw (S := Ext (· ∈ f) _) [(0, true), (1, true), (2, true), (3, true), (4, true), (5, true), (6, true), (7, true), (8, true), (9, true), (10, false), (11, false), (12, false)] (by kernel_rfl) (by kernel_rfl) (by kernel_rfl) rfl (fun _ => Ext.refl.drawn _) (fun q1 => ?_)
  have H3 := H2.drawn q1
  refine dV rfl rfl (fun zw hx => py_move rfl) (dV rfl rfl (fun zw hx => py_move rfl) (dV rfl rfl (fun zw hx => py_move rfl) (dV rfl rfl (fun zw hx => py_elz Tryz.underlying61 Tryz.sizeOf5 rfl rfl ee1 k (by omega) (by omega)) (dV rfl rfl (fun zw hx => py_load Tryz.underlying5 rfl rfl (hx.cellM (H3.off 0 rfl 0 rfl em1) ec1)) (dV rfl rfl (fun zw hx => py_move rfl) (dV rfl rfl (fun zw hx => py_move rfl) (dV rfl rfl (fun zw hx => py_elz Tryz.underlying61 Tryz.sizeOf5 rfl rfl ee2 k (by omega) (by omega)) (dV rfl rfl (fun zw hx => py_load Tryz.underlying5 rfl rfl (hx.cellM (H3.off 1 rfl 0 rfl em2) ec2)) (dV rfl rfl (fun zw hx => py_xor8 rfl rfl) (d_lit1 rfl (wn rfl) rfl Tryz.underlying61 Tryz_ty5 rfl rfl rfl rfl H3 (fun _ h e => h.trans e.no) (fun b2 w3 e2 g2 H4 => ?_)))))))))))
  refine d_app1 rfl (wn rfl) rfl Tryz.underlying61 Tryz_ty5 rfl rfl rfl H4 0 1 rfl rfl own_b8 (by unfold maxLen; omega) (by omega) (fun _ h e => h.trans e) (fun v1 w4 fp1 H5 => ?_)
  refine d_end rfl (wn rfl) rfl rfl (py_assign rfl) (d_nil (W_reg (sV rfl (py_move rfl) (sV rfl (py_add rfl rfl (in64 ⟨by omega, by omega⟩)) (sV rfl (py_assign rfl) (s_nil (⟨(k + 1, _, _), ⟨rfl, rfl, rfl, rfl, trivial⟩, ⟨addG_step (xs := xs) (ys := ys) (k := k) (by omega) (by omega) ▸ (H5.dtake 1), by omega⟩, by dsimp only; omega⟩)))))))
 ·refine W_exit (W_sr (sV rfl (py_move rfl) (sV rfl (py_assign rfl) (s_nil (W_ret (hQ _ _ (fin1 Tryz.results194 rfl ?_)))))))
  obtain rfl : k = xs.length := by omega
  exact ⟨H2.ext, by
   have h := H2.out 0 rfl
   rwa [List.take_length, addG_take (by omega)] at h⟩
theorem Tryz_impl_put {w : World} {xs ys : List UInt8} {xsA ysA : Option Addr} {n xsC ysC : Nat} {c : UInt8} {fp g : List Nat} (o : own true w [.slice xsA n xsC] xs fp) (nd : fp.Nodup) (ysO : own false w [.slice ysA ys.length ysC] ys g) (hd : ∀ b ∈ g, b ∉ fp) (hl : xs.length = ys.length) : Ret Tryz.prog 252 #[.slice xsA n xsC, .slice ysA ys.length ysC, .int .u8 c.toNat] w fun v w' => (Mut w w' fp [.slice xsA n xsC] (addG xs (scaleG ys c))) := by
 obtain rfl := own_n o
 have len := own_len_le o
 unfold maxLen at len
 refine ret_Q (vs := [.slice xsA xs.length xsC, .slice ysA ys.length ysC, .int .u8 c.toNat]) Tryz.func252 rfl Tryz.ntmps252 rfl (fun Q hQ hN => ?_)
 have H0 := (Sep.begin o nd).look (r := seen false [.slice ysA ys.length ysC] ys g) ysO (fun b hb => by simpa [blocks, mine] using hd b hb)
 refine W_sr (sV rfl (py_move rfl) (sV rfl (py_len Tryz.underlying61 rfl) (sV rfl (py_move rfl) (s_nil (W_block (W_loop (γ := Nat × List Nat) (fun (k, f) => [(0, .slice xsA xs.length xsC), (2, .int .u8 c.toNat), (8, .slice ysA ys.length ysC), (9, .int .i64 ys.length), (10, .int .i64 k)]) (fun (k, f) w' => Sep (· ∈ fp) w [mine [.slice xsA xs.length xsC] (putG xs ys c k) f] [seen false [.slice ysA ys.length ysC] ys g] w' ∧ k ≤ xs.length) (fun (k, f) => xs.length - k) (0, fp) ⟨rfl, rfl, rfl, rfl, rfl, trivial⟩ ⟨(by rw [putG_zero]; exact H0), by omega⟩ (fun (k, f) w1 H1 => ?_)))))))
 obtain ⟨H1, hk⟩ := H1
 refine W_sr (sV rfl (py_lss rfl rfl) (s_nil (W_seq (W_ifd rfl (fun c1 => ?_) (fun c1 => ?_)))))
 ·refine W_skip (W_seq (W_block (W_seq ?_)))
  obtain ⟨eb1, eo1, ee1, ec1⟩ := elem_u8 (H1.seen 0 rfl) k (by omega)
  refine W_reg (sV rfl (py_move rfl) (sV rfl (py_elz Tryz.underlying61 Tryz.sizeOf5 rfl rfl ee1 k (by omega) (by omega)) (sV rfl (py_load Tryz.underlying5 rfl rfl ec1) (sV rfl (py_assign rfl) (sV rfl (py_assign rfl) (s_nil ?_))))))
  have pl := putG_len (xs := xs) (ys := ys) (c := c) (k := k) hl
  have pg := putG_get (xs := xs) (ys := ys) (c := c) (k := k) hl (by omega)
  obtain ⟨eb2, eo2, ee2, ec2⟩ := elem_u8 (H1.mine 0 rfl) k (by rw [putG_len hl]; omega)
  refine W_drw (S := Ext No _) [(0, true), (1, true), (2, true), (3, true), (4, true), (5, true), (6, false), (7, true), (8, true), (9, false)] (by kernel_rfl) (by kernel_rfl) (by kernel_rfl) rfl (fun _ => Ext.refl.drawn _) (fun q1 => ?_)
  have H2 := H1.drawn q1
  refine dV rfl rfl (fun zw hx => py_move rfl) (dV rfl rfl (fun zw hx => py_move rfl) (dV rfl rfl (fun zw hx => py_elz Tryz.underlying61 Tryz.sizeOf5 rfl rfl ee2 k (by omega) (by omega)) (dV rfl rfl (fun zw hx => py_load Tryz.underlying5 rfl rfl (hx.cell ec2)) (dV rfl rfl (fun zw hx => py_move rfl) (dV rfl rfl (fun zw hx => py_move rfl) (d_call rfl (wn rfl) rfl rfl (pc_call Tryz.func285 rfl Tryz_nm285 rfl) Tryz_impl_MulG (fun hS _ _ r _ => hS.trans r.1.no) (fun v1 w2 r1 => ?_)))))))
  obtain ⟨e1, rfl⟩ := r1
  have H3 := H2.to e1
  refine dV rfl rfl (fun zw hx => py_xor8 rfl rfl) (dV rfl rfl (fun zw hx => py_elz Tryz.underlying61 Tryz.sizeOf5 rfl rfl ee2 k (by omega) (by omega)) (d_elst rfl (wn rfl) Tryz.sizeOf5 rfl H3 0 rfl k (by rw [putG_len hl]; omega) rfl ee2 rfl own_b8 (fun _ _ _ hr => absurd rfl hr) (fun w3 fp1 e2 H4 => ?_)))
  refine d_nil (W_reg (sV rfl (py_add rfl rfl (in64 ⟨by omega, by omega⟩)) (sV rfl (py_move rfl) (s_nil ?_))))
  refine ⟨(k + 1, _), ⟨rfl, rfl, rfl, rfl, rfl, trivial⟩, ⟨by
   have h := H4
   rw [pg, putG_step hl (by omega)] at h
   exact h, by omega⟩, by dsimp only; omega⟩
 ·refine W_exit (hN _ _ (fin0 Tryz.results252 ?_))
  obtain rfl : k = xs.length := by omega
  have h := H1.done
  rw [putG_all rfl hl.symm] at h
  exact h
theorem Tryz_spec_l2Gen {w : World} {n : Nat} {p : Int} {base : Int} (hn : n ≤ 100 ∧ 0 ≤ base ∧ base ≤ 100 ∧ 0 ≤ p ∧ p ≤ 500) : Ret Tryz.prog 226 #[.int .i64 n, .int .i64 p, .int .i64 base] w fun v w' => Ext No w w' ∧ (Res w w' [v] (genG n p base)) := by
 refine ret_Q (vs := [.int .i64 n, .int .i64 p, .int .i64 base]) Tryz.func226 rfl Tryz.ntmps226 rfl (fun Q hQ hN => ?_)
 have H0 := Sep.start (w := w) (F := []) (by simp)
 refine W_sr (sV rfl (py_assign rfl) (s_nil (W_sr (sV rfl (py_move rfl) (s_make (wn rfl) rfl Tryz.underlying61 Tryz_ty5 own_z8 rfl (by omega) (by unfold maxLen; omega) H0 (fun b1 w1 e1 g1 H1 => ?_))))))
 refine sV rfl (py_assign rfl) (s_nil (W_seq (W_sr (sV rfl (py_assign rfl) (s_nil (W_block (W_loop (γ := Nat × List Nat) (fun (k, f) => [(0, .int .i64 n), (1, .int .i64 p), (2, .int .i64 base), (7, .slice (some ⟨b1, 0, none⟩) n n), (8, .int .i64 k)]) (fun (k, f) w' => Sep No w [mine [.slice (some ⟨b1, 0, none⟩) n n] (fillG (genAt n p base) n k) f] [] w' ∧ k ≤ n) (fun (k, f) => n - k) (0, [b1]) ⟨rfl, rfl, rfl, rfl, rfl, trivial⟩ ⟨(by rw [fillG_zero]; exact H1), by omega⟩ (fun (k, f) w2 H2 => ?_))))))))
 obtain ⟨H2, hk⟩ := H2
 refine W_seq (W_sr (sV rfl (py_move rfl) (sV rfl (py_move rfl) (sV rfl (py_lss rfl rfl) (s_nil (W_ifd rfl (fun c1 => ?_) (fun c1 => ?_)))))))
 ·refine W_skip (W_seq (W_block (W_sr (sV rfl (py_move rfl) (sV rfl (py_move rfl) (sV rfl (py_geq rfl rfl) (s_nil (W_ifd rfl (fun c2 => ?_) (fun c2 => ?_)))))))))
  ·obtain ⟨eb1, eo1, ee1, ec1⟩ := elem_u8 (H2.mine 0 rfl) k (by rw [fillG_len (by omega)]; omega)
   refine W_reg (sV rfl (py_move rfl) (sV rfl (py_move rfl) (sV rfl (py_move rfl) (sV rfl (py_move rfl) (sV rfl (py_add rfl rfl (in64 ⟨by omega, by omega⟩)) (sV rfl (py_move rfl) (sV rfl (py_sub rfl rfl (in64 ⟨by omega, by omega⟩)) (sV rfl (py_move rfl) (s_call (wn rfl) rfl rfl (pc_call Tryz.func274 rfl Tryz_nm274 rfl) (Tryz_spec_l1Cauchy (by omega)) (fun v1 w3 r1 => ?_))))))))))
   obtain ⟨e2, rfl⟩ := r1
   have H3 := H2.to e2
   refine sV rfl (py_elz Tryz.underlying61 Tryz.sizeOf5 rfl rfl ee1 k (by omega) (by omega)) (s_elst (wn rfl) Tryz.sizeOf5 rfl H3 0 rfl k (by rw [fillG_len (by omega)]; omega) rfl ee1 rfl own_b8 (fun w4 fp1 e3 H4 => ?_))
   refine s_nil (W_reg (sV rfl (py_move rfl) (sV rfl (py_add rfl rfl (in64 ⟨by omega, by omega⟩)) (sV rfl (py_assign rfl) (s_nil ?_)))))
   refine ⟨(k + 1, _), ⟨rfl, rfl, rfl, rfl, rfl, trivial⟩, ⟨by
    have h := H4
    rw [fillG_set (by omega) (by rw [genAt, if_pos (by omega)])] at h
    exact h, by omega⟩, by dsimp only; omega⟩
  ·refine W_sr (sV rfl (py_move rfl) (sV rfl (py_move rfl) (sV rfl (py_eql rfl rfl) (s_nil (W_ifd rfl (fun c3 => ?_) (fun c3 => ?_))))))
   ·obtain ⟨eb2, eo2, ee2, ec2⟩ := elem_u8 (H2.mine 0 rfl) k (by rw [fillG_len (by omega)]; omega)
    refine W_reg (sV rfl (py_move rfl) (sV rfl (py_move rfl) (sV rfl (py_elz Tryz.underlying61 Tryz.sizeOf5 rfl rfl ee2 k (by omega) (by omega)) (s_elst (wn rfl) Tryz.sizeOf5 rfl H2 0 rfl k (by rw [fillG_len (by omega)]; omega) rfl ee2 rfl (own_b8 (x := 1)) (fun w5 fp2 e4 H5 => ?_)))))
    refine s_nil (W_reg (sV rfl (py_move rfl) (sV rfl (py_add rfl rfl (in64 ⟨by omega, by omega⟩)) (sV rfl (py_assign rfl) (s_nil ?_)))))
    refine ⟨(k + 1, _), ⟨rfl, rfl, rfl, rfl, rfl, trivial⟩, ⟨by
     have h := H5
     rw [fillG_set (by omega) (by rw [genAt, if_neg (by omega), if_pos (by omega)])] at h
     exact h, by omega⟩, by dsimp only; omega⟩
   ·refine W_skip (W_reg (sV rfl (py_move rfl) (sV rfl (py_add rfl rfl (in64 ⟨by omega, by omega⟩)) (sV rfl (py_assign rfl) (s_nil ?_)))))
    refine ⟨(k + 1, _), ⟨rfl, rfl, rfl, rfl, rfl, trivial⟩, ⟨by
     have h := H2
     rw [fillG_skip (by omega) (by rw [genAt, if_neg (by omega), if_neg (by omega)])] at h
     exact h, by omega⟩, by dsimp only; omega⟩
 ·refine W_exit (W_sr (sV rfl (py_move rfl) (sV rfl (py_assign rfl) (s_nil (W_ret (hQ _ _ (fin1 Tryz.results226 rfl ?_)))))))
  obtain rfl : k = n := by omega
  exact ⟨H2.ext, by
   have h := H2.out 0 rfl
   rwa [fillG_all] at h⟩
end Go.Wk
namespace Go.Wk
open Go.Proofs Rp
set_option maxRecDepth 10000
theorem Tryz_slices_Clone_byte_byte {w : World} {xs : List UInt8} {xsA : Option Addr} {xsC : Nat} (xsS : Sees w [.slice xsA xs.length xsC] xs) (hl : xs.length ≤ 100000000) : Ret Tryz.prog 197 #[.slice xsA xs.length xsC] w fun v w' => Ext No w w' ∧ (Res w w' [v] xs) := by
 have xsL := sees_len xsS
 unfold maxLen at xsL
 obtain ⟨xsF, xsO⟩ := xsS
 refine ret_Q (vs := [.slice xsA xs.length xsC]) Tryz.func197 rfl Tryz.ntmps197 rfl (fun Q hQ hN => ?_)
 have H0 := Sep.start (w := w) (F := [seen false [.slice xsA xs.length xsC] xs xsF]) (all_cons xsO (by simp))
 refine W_sr (sV rfl (py_assign rfl) (s_nil (W_seq (W_sr (sV rfl (py_move rfl) (sV rfl (py_slnil Tryz.underlying61 rfl rfl) (s_nil (W_if rfl (fun c1 => ?_) (fun c1 => ?_)))))))))
 ·refine W_sr (sV rfl (py_assign rfl) (s_nil (W_ret (hQ _ _ (fin1 Tryz.results197 rfl ?_)))))
  have e : xs = [] := own_none xsO c1
  exact ⟨H0.ext, e ▸ ⟨[], .inr (.inl ⟨rfl, rfl, rfl⟩), .nil, by simp⟩⟩
 ·refine W_skip (W_sr (s_lit0 (α := UInt8) (wn rfl) rfl Tryz.underlying61 Tryz_ty5 H0 (fun b1 w1 e1 g1 H1 => ?_)))
  refine sV rfl (py_move rfl) (s_appF (wn rfl) rfl Tryz.underlying61 Tryz_ty5 rfl rfl rfl H1 0 rfl (H1.seen 0 rfl) (by (try simp only [List.length_nil]); unfold maxLen; omega) (by (try simp only [List.length_nil]); omega) (fun v1 w2 fp1 H2 => ?_))
  refine sV rfl (py_assign rfl) (s_nil (W_ret (hQ _ _ (fin1 Tryz.results197 rfl ?_))))
  exact ⟨H2.ext, by
   have h := H2.out 0 rfl
   rwa [List.nil_append] at h⟩
theorem Tryz_impl_sum {w : World} {xs : List UInt8} {xsA : Option Addr} {xsC : Nat} {ys : List UInt8} {ysA : Option Addr} {ysC : Nat} {c : UInt8} (xsS : Sees w [.slice xsA xs.length xsC] xs) (ysS : Sees w [.slice ysA ys.length ysC] ys) (hl : xs.length = ys.length ∧ xs.length ≤ 100000) : Ret Tryz.prog 195 #[.slice xsA xs.length xsC, .slice ysA ys.length ysC, .int .u8 c.toNat] w fun v w' => Ext No w w' ∧ (Res w w' [v] (addG xs (scaleG ys c))) := by
 have xsL := sees_len xsS
 unfold maxLen at xsL
 obtain ⟨xsF, xsO⟩ := xsS
 have ysL := sees_len ysS
 unfold maxLen at ysL
 obtain ⟨ysF, ysO⟩ := ysS
 refine ret_Q (vs := [.slice xsA xs.length xsC, .slice ysA ys.length ysC, .int .u8 c.toNat]) Tryz.func195 rfl Tryz.ntmps195 rfl (fun Q hQ hN => ?_)
 have H0 := Sep.start (w := w) (F := [seen false [.slice xsA xs.length xsC] xs xsF, seen false [.slice ysA ys.length ysC] ys ysF]) (all_cons xsO (all_cons ysO (by simp)))
 refine W_sr (sV rfl (py_assign rfl) (s_nil (W_sr (sV rfl (py_move rfl) (s_call (wn rfl) rfl rfl (pc_call Tryz.func197 rfl Tryz_nm197 rfl) (Tryz_slices_Clone_byte_byte (H0.sees 0 rfl) (by omega)) (fun v1 w1 r1 => ?_))))))
 obtain ⟨e1, r1⟩ := r1
 obtain ⟨fp1, H1⟩ := H0.res e1 r1
 obtain ⟨a1, k1, q1⟩ := own_slice (H1.mine 0 rfl)
 cases q1
 refine sV rfl (py_assign rfl) (s_nil (W_sr (sV rfl (py_move rfl) (sV rfl (py_move rfl) (sV rfl (py_move rfl) (s_call (wn rfl) rfl rfl (pc_call Tryz.func252 rfl Tryz_nm252 rfl) (Tryz_impl_put (H1.mine 0 rfl) (H1.nodup1 (i := 0) rfl) (own_weak (H1.seen 1 rfl)) (fun b hb => H1.off 1 rfl 0 rfl hb) (by first | assumption | omega)) (fun v2 w2 r2 => ?_)))))))
 obtain ⟨fp2, H2⟩ := H1.mut 0 rfl r2
 refine s_nil (W_sr (sV rfl (py_move rfl) (sV rfl (py_assign rfl) (s_nil (W_ret (hQ _ _ (fin1 Tryz.results195 rfl ?_)))))))
 exact ⟨H2.ext, H2.out 0 rfl⟩
end Go.Wk
namespace Go.Wk
open Go.Proofs Rp
set_option maxRecDepth 10000
theorem Tryz_impl_scaled {w : World} {xs : List UInt8} {xsA : Option Addr} {xsC : Nat} {c : UInt8} (xsS : Sees w [.slice xsA xs.length xsC] xs) (hl : xs.length ≤ 100000) : Ret Tryz.prog 299 #[.slice xsA xs.length xsC, .int .u8 c.toNat] w fun v w' => Ext No w w' ∧ (Res w w' [v] (scaleG xs c)) := by
 have xsL := sees_len xsS
 unfold maxLen at xsL
 obtain ⟨xsF, xsO⟩ := xsS
 refine ret_Q (vs := [.slice xsA xs.length xsC, .int .u8 c.toNat]) Tryz.func299 rfl Tryz.ntmps299 rfl (fun Q hQ hN => ?_)
 have H0 := Sep.start (w := w) (F := [seen false [.slice xsA xs.length xsC] xs xsF]) (all_cons xsO (by simp))
 refine W_sr (sV rfl (py_assign rfl) (s_nil (W_sr (sV rfl (py_move rfl) (sV rfl (py_len Tryz.underlying61 rfl) (s_make (wn rfl) rfl Tryz.underlying61 Tryz_ty5 own_z8 rfl (by omega) (by unfold maxLen; omega) H0 (fun b1 w1 e1 g1 H1 => ?_)))))))
 refine sV rfl (py_assign rfl) (s_nil (W_seq ?_))
 have rl : (List.replicate xs.length (0 : UInt8)).length = xs.length := List.length_replicate
 refine W_reg (sV rfl (py_move rfl) (sV rfl (py_move rfl) (sV rfl (py_move rfl) (s_call (wn rfl) rfl rfl (pc_call Tryz.func252 rfl Tryz_nm252 rfl) (Tryz_impl_put (H1.mine 0 rfl) (H1.nodup1 (i := 0) rfl) (own_weak (H1.seen 0 rfl)) (fun b hb => H1.off 0 rfl 0 rfl hb) (by first | assumption | omega)) (fun v1 w2 r1 => ?_)))))
 obtain ⟨fp1, H2⟩ := H1.mut 0 rfl r1
 refine s_nil (W_sr (sV rfl (py_move rfl) (sV rfl (py_assign rfl) (s_nil (W_ret (hQ _ _ (fin1 Tryz.results299 rfl ?_)))))))
 exact ⟨H2.ext, by
  have h := H2.out 0 rfl
  rwa [addG_zero_l (scaleG_len xs c)] at h⟩
theorem Tryz_impl_reduce {w : World} {K l n : Nat} {m : Mat} {vs0 : List View} {VA : Option Addr} {VC : Nat} {fp g0 : List Nat} (o : own true w [.slice VA K VC] vs0 fp) (nd : fp.Nodup) (hr0 : ownL false w (vs0.map View.val) m g0) (hd : ∀ b ∈ g0, b ∉ fp) (vl0 : vs0.length = K) (hR0 : Rect m K l) (hn : n < l ∧ l ≤ 1000 ∧ 1 ≤ K ∧ K ≤ 1000) : Ret Tryz.prog 284 #[.slice VA K VC, .int .i64 n] w fun v w' => (v = .int .i64 ((redM m n).2 : Nat) ∧ RowsMut w w' fp (.slice VA K VC) K (redM m n).1) := by
 refine ret_Q (vs := [.slice VA K VC, .int .i64 n]) Tryz.func284 rfl Tryz.ntmps284 rfl (fun Q hQ hN => ?_)
 have H0 := Sep.beginRows o nd hr0 hd
 refine W_sr (sV rfl (py_assign rfl) (s_nil (W_sr (sV rfl (py_assign rfl) (s_nil (W_seq (W_sr (sV rfl (py_assign rfl) (s_nil (W_block (W_loop (γ := Nat × Mat × Nat × List View × List Nat × List Nat) (fun (c, M, r, vs, f, g) => [(0, .slice VA K VC), (1, .int .i64 n), (5, .int .i64 r), (6, .int .i64 c)]) (fun (c, M, r, vs, f, g) w' => Sep (· ∈ fp) w [mine [.slice VA K VC] vs f] [rows vs M g] w' ∧ c ≤ n ∧ redM m c = (M, r) ∧ Rect M K l ∧ r ≤ K ∧ vs.length = K) (fun (c, M, r, vs, f, g) => n - c) (0, m, 0, _, _, _) ⟨rfl, rfl, rfl, rfl, trivial⟩ ⟨H0, by omega, rfl, hR0, by omega, vl0⟩ (fun (c, M, r, vs, f, g) w1 H1 => ?_))))))))))))
 obtain ⟨H1, hc, hred, hR, hrK, vl⟩ := H1
 refine W_seq (W_sr (sV rfl (py_move rfl) (sV rfl (py_move rfl) (sV rfl (py_lss rfl rfl) (s_nil (W_ifd rfl (fun c1 => ?_) (fun c1 => ?_)))))))
 ·refine W_skip (W_seq (W_block (W_sr (sV rfl (py_assign rfl) (s_nil (W_seq (W_seq ?_)))))))
  have xl := hR.1
  refine W_reg (sV rfl (py_move rfl) (sV rfl (py_assign rfl) (s_nil (W_block (W_loop (γ := Nat) (fun j => [(0, .slice VA K VC), (1, .int .i64 n), (5, .int .i64 r), (6, .int .i64 c), (7, .int .i64 (-1)), (8, .int .i64 j)]) (fun j w' => Sep (· ∈ fp) w _ _ w' ∧ r ≤ j ∧ j ≤ K ∧ ∀ i, r ≤ i → i < j → entry M i c = 0) (fun j => K - j) r ⟨rfl, rfl, rfl, rfl, rfl, rfl, trivial⟩ ⟨H1, by omega, by omega, fun i h1 h2 => by omega⟩ (fun j w2 H2 => ?_))))))
  obtain ⟨H2, hj1, hj2, hnz⟩ := H2
  refine W_seq (W_sr (sV rfl (py_move rfl) (sV rfl (py_move rfl) (sV rfl (py_len Tryz.underlying163 rfl) (sV rfl (py_lss rfl rfl) (s_nil (W_ifd rfl (fun c2 => ?_) (fun c2 => ?_))))))))
  ·refine W_skip (W_seq (W_block (W_seq ?_)))
   have e1 := hR.2 j (by omega)
   obtain ⟨eb1, eo1, ea1, ek1, ef1, ee1, ec1, eO1, eH1, em1⟩ := elem_view (H2.mine 0 rfl) (H2.rowsAt 0 rfl) (by first | omega | (simp only [List.length_set]; omega)) j (by first | omega | (simp only [List.length_set]; omega))
   have eP1 := H2.lookR 0 rfl eO1 eH1
   obtain ⟨eb2, eo2, ee2, ec2⟩ := elem_u8 (eP1.seen 1 rfl) c (by omega)
   refine W_reg (sV rfl (py_move rfl) (sV rfl (py_move rfl) (sV rfl (py_elz Tryz.underlying163 Tryz.sizeOf61 rfl rfl ee1 j (by omega) (by omega)) (sV rfl (py_load Tryz.underlying61 rfl rfl ec1) (sV rfl (py_move rfl) (sV rfl (py_elz Tryz.underlying61 Tryz.sizeOf5 rfl rfl ee2 c (by omega) (by omega)) (sV rfl (py_load Tryz.underlying5 rfl rfl ec2) (sV rfl (py_neq rfl rfl) (s_nil (W_ifd rfl (fun c3 => ?_) (fun c3 => ?_)))))))))))
   ·refine W_sr (sV rfl (py_move rfl) (sV rfl (py_assign rfl) (s_nil (W_exit (W_seq (W_seq ?_))))))
    have hpv : pivAt M c r = j := pivAt_eq (by omega) (by omega) hnz (.inr (fun e => c3 (by rw [entry] at e; rw [e]; rfl)))
    refine W_reg (sV rfl (py_move rfl) (sV rfl (py_lss rfl rfl) (s_nil (W_ifd rfl (fun c4 => ?_) (fun c4 => ?_)))))
    ·exact absurd c4 (by omega)
    ·refine W_skip (W_seq ?_)
     obtain ⟨eb3, eo3, ea2, ek2, ef2, ee3, ec3, eO2, eH2, em2⟩ := elem_view (eP1.mine 0 rfl) (eP1.rowsAt 0 rfl) (by first | omega | (simp only [List.length_set]; omega)) j (by first | omega | (simp only [List.length_set]; omega))
     have eP2 := eP1.lookR 0 rfl eO2 eH2
     obtain ⟨eb4, eo4, ea3, ek3, ef3, ee4, ec4, eO3, eH3, em3⟩ := elem_view (eP2.mine 0 rfl) (eP2.rowsAt 0 rfl) (by first | omega | (simp only [List.length_set]; omega)) r (by first | omega | (simp only [List.length_set]; omega))
     have eP3 := eP2.lookR 0 rfl eO3 eH3
     refine W_drw (S := fun zw => zw.cell? ⟨eb3, eo3 + j * 1, none⟩ = some (.slice ea2 (M.getD j []).length ek2)) [(0, true), (1, true), (2, true), (3, true), (4, true), (5, true), (6, true), (8, true), (9, true), (10, true), (7, true), (11, false), (12, false), (13, false), (14, false), (15, false)] (by kernel_rfl) (by kernel_rfl) (by kernel_rfl) rfl (fun _ => ec3) (fun q1 => ?_)
     have H3 := eP3.drawn q1
     refine dV rfl rfl (fun zw hx => py_move rfl) (dV rfl rfl (fun zw hx => py_move rfl) (dV rfl rfl (fun zw hx => py_move rfl) (dV rfl rfl (fun zw hx => py_move rfl) (dV rfl rfl (fun zw hx => py_move rfl) (dV rfl rfl (fun zw hx => py_move rfl) (dV rfl rfl (fun zw hx => py_elz Tryz.underlying163 Tryz.sizeOf61 rfl rfl ee3 j (by omega) (by omega)) (dV rfl rfl (fun zw hx => py_move rfl) (dV rfl rfl (fun zw hx => py_move rfl) (dV rfl rfl (fun zw hx => py_elz Tryz.underlying163 Tryz.sizeOf61 rfl rfl ee4 r (by omega) (by omega)) (dV rfl rfl (fun zw hx => py_load Tryz.underlying61 rfl rfl hx) (d_end rfl (wn rfl) rfl rfl (py_load Tryz.underlying61 rfl rfl ec4) (d_end rfl (wn rfl) rfl rfl (py_elz Tryz.underlying163 Tryz.sizeOf61 rfl rfl ee4 r (by omega) (by omega)) (d_rowset rfl (wn rfl) Tryz.sizeOf61 H3 0 0 2 rfl rfl rfl (by first | omega | (simp only [List.length_set]; omega)) r (by first | omega | (simp only [List.length_set]; omega)) rfl ee4 rfl (fun b o cur T e1 hb hs hc _ => by   rw [ee3] at e1;   cases e1;   exact swap_cell hb hs hc) (fun w3 fp1 gp1 H4 => ?_))))))))))))))
     try dsimp only [List.nil_append, List.cons_append, List.set_cons_zero, List.set_cons_succ] at H4
     refine d_end rfl (wn rfl) rfl rfl (py_elz Tryz.underlying163 Tryz.sizeOf61 rfl rfl ee3 j (by omega) (by omega)) (d_rowset rfl (wn rfl) Tryz.sizeOf61 H4 0 0 3 rfl rfl rfl (by first | omega | (simp only [List.length_set]; omega)) j (by first | omega | (simp only [List.length_set]; omega)) rfl ee3 rfl (fun _ _ _ _ _ _ _ _ hr => absurd rfl hr) (fun w4 fp2 gp2 H5 => ?_))
     try dsimp only [List.nil_append, List.cons_append, List.set_cons_zero, List.set_cons_succ] at H5
     refine d_nil (W_seq ?_)
     have hsR := hR.swap (r := r) (a := j) (by omega) (by omega)
     have e2 : (((M.set r (M.getD j [])).set j (M.getD r [])).getD r []).length = l := hsR.2 r (by omega)
     obtain ⟨eb5, eo5, ea4, ek4, ef4, ee5, ec5, eO4, eH4, em4⟩ := elem_view (H5.mine 0 rfl) (H5.rowsAt 0 rfl) (by first | omega | (simp only [List.length_set]; omega)) r (by first | omega | (simp only [List.length_set]; omega))
     have eP4 := H5.lookR 0 rfl eO4 eH4
     obtain ⟨eb6, eo6, ee6, ec6⟩ := elem_u8 (eP4.seen 4 rfl) c (by omega)
     refine W_drw (S := Ext No _) [(0, true), (1, true), (2, true), (3, true), (4, true), (5, true), (6, true), (7, true), (8, true), (9, true), (10, true), (11, true), (12, true), (13, false), (14, false), (15, true), (16, false)] (by kernel_rfl) (by kernel_rfl) (by kernel_rfl) rfl (fun _ => Ext.refl.drawn _) (fun q2 => ?_)
     have H6 := eP4.drawn q2
     refine dV rfl rfl (fun zw hx => py_move rfl) (dV rfl rfl (fun zw hx => py_move rfl) (dV rfl rfl (fun zw hx => py_move rfl) (dV rfl rfl (fun zw hx => py_move rfl) (dV rfl rfl (fun zw hx => py_elz Tryz.underlying163 Tryz.sizeOf61 rfl rfl ee5 r (by omega) (by omega)) (dV rfl rfl (fun zw hx => py_load Tryz.underlying61 rfl rfl (hx.cell ec5)) (dV rfl rfl (fun zw hx => py_move rfl) (dV rfl rfl (fun zw hx => py_move rfl) (dV rfl rfl (fun zw hx => py_elz Tryz.underlying163 Tryz.sizeOf61 rfl rfl ee5 r (by omega) (by omega)) (dV rfl rfl (fun zw hx => py_load Tryz.underlying61 rfl rfl (hx.cell ec5)) (dV rfl rfl (fun zw hx => py_move rfl) (dV rfl rfl (fun zw hx => py_elz Tryz.underlying61 Tryz.sizeOf5 rfl rfl ee6 c (by omega) (by omega)) (dV rfl rfl (fun zw hx => py_load Tryz.underlying5 rfl rfl (hx.cell ec6)) (d_call rfl (wn rfl) rfl rfl (pc_call Tryz.func297 rfl Tryz_nm297 rfl) (Tryz_impl_div (a := 1)) (fun hS _ _ r _ => hS.trans r.1.no) (fun v1 w5 r1 => ?_))))))))))))))
     obtain ⟨e3, rfl⟩ := r1
     have H7 := H6.to e3
     refine d_call rfl (wn rfl) rfl rfl (pc_call Tryz.func299 rfl Tryz_nm299 rfl) (Tryz_impl_scaled (H7.sees 4 rfl) (by omega)) (fun hS _ _ r _ => hS.trans r.1.no) (fun v2 w6 r2 => ?_)
     obtain ⟨e4, r2⟩ := r2
     obtain ⟨fp3, H8⟩ := H7.res e4 r2
     obtain ⟨a1, k1, q3⟩ := own_slice (H8.mine 1 rfl)
     cases q3
     refine dV rfl rfl (fun zw hx => py_elz Tryz.underlying163 Tryz.sizeOf61 rfl rfl ee5 r (by omega) (by omega)) ?_
     have H10 := H8.share 1 rfl
     try dsimp only [List.nil_append, List.cons_append, List.set_cons_zero, List.set_cons_succ] at H10
     refine d_rowset rfl (wn rfl) Tryz.sizeOf61 H10 0 0 5 rfl rfl rfl (by first | omega | (simp only [List.length_set]; omega)) r (by first | omega | (simp only [List.length_set]; omega)) rfl ee5 rfl (fun _ _ _ _ _ _ _ _ hr => absurd rfl hr) (fun w7 fp4 gp3 H9 => ?_)
     try dsimp only [List.nil_append, List.cons_append, List.set_cons_zero, List.set_cons_succ] at H9
     refine d_nil (W_seq (W_seq ?_))
     have HN := H9
     rw [norm_of (by omega) (by omega)] at HN
     refine W_reg (sV rfl (py_move rfl) (sV rfl (py_len Tryz.underlying163 rfl) (sV rfl (py_move rfl) (s_nil (W_block (W_loop (γ := Nat × List View × List Nat × List Nat) (fun (i, vs2, f2, g2) => [(0, .slice VA K VC), (1, .int .i64 n), (5, .int .i64 r), (6, .int .i64 c), (63, .slice VA K VC), (64, .int .i64 K), (65, .int .i64 i)]) (fun (i, vs2, f2, g2) w' => Sep (· ∈ fp) w [mine [.slice VA K VC] vs2 f2] [rows vs2 (elimTo (normM M c r j) c r i) g2] w' ∧ i ≤ K ∧ vs2.length = K) (fun (i, vs2, f2, g2) => K - i) (0, _, _, _) ⟨rfl, rfl, rfl, rfl, rfl, rfl, rfl, trivial⟩ ⟨by rw [elimTo_zero]; exact ((HN.ftake 1).dtake 1), by omega, by simp only [List.length_set]; omega⟩ (fun (i, vs2, f2, g2) w8 H11 => ?_)))))))
     obtain ⟨H11, hi, vl2⟩ := H11
     refine W_sr (sV rfl (py_lss rfl rfl) (s_nil (W_seq (W_ifd rfl (fun c5 => ?_) (fun c5 => ?_)))))
     ·refine W_skip (W_seq (W_block (W_sr (sV rfl (py_move rfl) (sV rfl (py_assign rfl) (s_nil (W_seq ?_)))))))
      have nR := hR.norm (c := c) (r := r) (a := j) (by omega) (by omega)
      have eR := nR.elim (c := c) (r := r) (k := i) (by omega)
      have xl2 := eR.1
      have e3 := eR.2 i (by omega)
      have e4 := eR.2 r (by omega)
      obtain ⟨eb7, eo7, ea5, ek5, ef5, ee7, ec7, eO5, eH5, em5⟩ := elem_view (H11.mine 0 rfl) (H11.rowsAt 0 rfl) (by first | omega | (simp only [List.length_set]; omega)) i (by first | omega | (simp only [List.length_set]; omega))
      have eP5 := H11.lookR 0 rfl eO5 eH5
      obtain ⟨eb8, eo8, ee8, ec8⟩ := elem_u8 (eP5.seen 1 rfl) c (by omega)
      refine W_reg (sV rfl (py_move rfl) (sV rfl (py_move rfl) (sV rfl (py_neq rfl rfl) (sV rfl (py_move rfl) (s_grp 8 (j := 3) (want := true) (t := 79) rfl rfl rfl rfl (fun hg1 kk1 => s_val (wgE rfl rfl rfl hg1) rfl rfl (py_move rfl) (s_val (wgE rfl rfl rfl hg1) rfl rfl (py_move rfl) (s_val (wgE rfl rfl rfl hg1) rfl rfl (py_elz Tryz.underlying163 Tryz.sizeOf61 rfl rfl ee7 i (by first | omega | (simp only [Bool.or_eq_false_iff, Bool.and_eq_true, Bool.and_eq_false_iff, Bool.or_eq_true, Bool.not_eq_true', Bool.not_eq_false', decide_eq_true_eq, decide_eq_false_iff_not] at hg1; omega)) (by omega)) (s_val (wgE rfl rfl rfl hg1) rfl rfl (py_load Tryz.underlying61 rfl rfl ec7) (s_val (wgE rfl rfl rfl hg1) rfl rfl (py_move rfl) (s_val (wgE rfl rfl rfl hg1) rfl rfl (py_elz Tryz.underlying61 Tryz.sizeOf5 rfl rfl ee8 c (by first | omega | (simp only [Bool.or_eq_false_iff, Bool.and_eq_true, Bool.and_eq_false_iff, Bool.or_eq_true, Bool.not_eq_true', Bool.not_eq_false', decide_eq_true_eq, decide_eq_false_iff_not] at hg1; omega)) (by omega)) (s_val (wgE rfl rfl rfl hg1) rfl rfl (py_load Tryz.underlying5 rfl rfl ec8) (s_val (wgE rfl rfl rfl hg1) rfl rfl (py_neq rfl rfl) (kk1 _ _ (kx rfl (kx rfl (kx rfl (kx rfl (kx rfl (kx rfl (kx rfl (kx rfl k0)))))))) rfl Ext.refl))))))))) (fun w9 e6 => ?_))))))
      have H12 := eP5.to e6
      refine sV rfl (py_band rfl rfl) (s_nil (W_if rfl (fun c6 => ?_) (fun c6 => ?_)))
      ·obtain ⟨eb9, eo9, ea6, ek6, ef6, ee9, ec9, eO6, eH6, em6⟩ := elem_view (H12.mine 0 rfl) (H12.rowsAt 0 rfl) (by first | omega | (simp only [List.length_set]; omega)) i (by first | omega | (simp only [List.length_set]; omega))
       have eP6 := H12.lookR 0 rfl eO6 eH6
       obtain ⟨eb10, eo10, ea7, ek7, ef7, ee10, ec10, eO7, eH7, em7⟩ := elem_view (eP6.mine 0 rfl) (eP6.rowsAt 0 rfl) (by first | omega | (simp only [List.length_set]; omega)) r (by first | omega | (simp only [List.length_set]; omega))
       have eP7 := eP6.lookR 0 rfl eO7 eH7
       obtain ⟨eb11, eo11, ee11, ec11⟩ := elem_u8 (eP7.seen 2 rfl) c (by omega)
       refine W_drw (S := Ext No _) [(0, true), (1, true), (2, true), (3, true), (4, true), (5, true), (6, true), (7, true), (8, true), (9, true), (10, true), (11, true), (12, true), (13, true), (14, true), (15, true), (16, true), (17, false), (18, true), (19, false)] (by kernel_rfl) (by kernel_rfl) (by kernel_rfl) rfl (fun _ => Ext.refl.drawn _) (fun q4 => ?_)
       have H13 := eP7.drawn q4
       refine dV rfl rfl (fun zw hx => py_move rfl) (dV rfl rfl (fun zw hx => py_move rfl) (dV rfl rfl (fun zw hx => py_move rfl) (dV rfl rfl (fun zw hx => py_move rfl) (dV rfl rfl (fun zw hx => py_elz Tryz.underlying163 Tryz.sizeOf61 rfl rfl ee9 i (by omega) (by omega)) (dV rfl rfl (fun zw hx => py_load Tryz.underlying61 rfl rfl (hx.cell ec9)) (dV rfl rfl (fun zw hx => py_move rfl) (dV rfl rfl (fun zw hx => py_move rfl) (dV rfl rfl (fun zw hx => py_elz Tryz.underlying163 Tryz.sizeOf61 rfl rfl ee10 r (by omega) (by omega)) (dV rfl rfl (fun zw hx => py_load Tryz.underlying61 rfl rfl (hx.cell ec10)) (dV rfl rfl (fun zw hx => py_move rfl) (dV rfl rfl (fun zw hx => py_move rfl) (dV rfl rfl (fun zw hx => py_elz Tryz.underlying163 Tryz.sizeOf61 rfl rfl ee9 i (by omega) (by omega)) (dV rfl rfl (fun zw hx => py_load Tryz.underlying61 rfl rfl (hx.cell ec9)) (dV rfl rfl (fun zw hx => py_move rfl) (dV rfl rfl (fun zw hx => py_elz Tryz.underlying61 Tryz.sizeOf5 rfl rfl ee11 c (by omega) (by omega)) (dV rfl rfl (fun zw hx => py_load Tryz.underlying5 rfl rfl (hx.cell ec11)) (d_call rfl (wn rfl) rfl rfl (pc_call Tryz.func195 rfl Tryz_nm195 rfl) (Tryz_impl_sum (H13.sees 2 rfl) (H13.sees 3 rfl) (by first | assumption | omega)) (fun hS _ _ r _ => hS.trans r.1.no) (fun v3 w10 r3 => ?_))))))))))))))))))
       obtain ⟨e7, r3⟩ := r3
       obtain ⟨fp5, H14⟩ := H13.res e7 r3
       obtain ⟨a2, k2, q5⟩ := own_slice (H14.mine 1 rfl)
       cases q5
       refine dV rfl rfl (fun zw hx => py_elz Tryz.underlying163 Tryz.sizeOf61 rfl rfl ee9 i (by omega) (by omega)) ?_
       have H16 := H14.share 1 rfl
       try dsimp only [List.nil_append, List.cons_append, List.set_cons_zero, List.set_cons_succ] at H16
       refine d_rowset rfl (wn rfl) Tryz.sizeOf61 H16 0 0 4 rfl rfl rfl (by first | omega | (simp only [List.length_set]; omega)) i (by first | omega | (simp only [List.length_set]; omega)) rfl ee9 rfl (fun _ _ _ _ _ _ _ _ hr => absurd rfl hr) (fun w11 fp6 gp4 H15 => ?_)
       try dsimp only [List.nil_append, List.cons_append, List.set_cons_zero, List.set_cons_succ] at H15
       refine d_nil (W_reg (sV rfl (py_add rfl rfl (in64 ⟨by omega, by omega⟩)) (sV rfl (py_move rfl) (s_nil ?_))))
       have hz := ((H15.ftake 1).dtake 1)
       rw [elimTo_set (by rw [nR.1]; omega) (elim_ne (N := [[]]) (c := c) c6) (by rw [elimTo_at (by rw [nR.1]; omega), elimTo_r (by rw [nR.1]; omega)]; rfl)] at hz
       refine ⟨(i + 1, _, _, _), ⟨rfl, rfl, rfl, rfl, rfl, rfl, rfl, trivial⟩, ⟨hz, by omega, by simp only [List.length_set]; omega⟩, by dsimp only; omega⟩
      ·refine W_skip (W_reg (sV rfl (py_add rfl rfl (in64 ⟨by omega, by omega⟩)) (sV rfl (py_move rfl) (s_nil ?_))))
       have hz := (H12.ftake 1)
       rw [elim_next nR (by omega) (by omega) c6] at hz
       refine ⟨(i + 1, _, _, _), ⟨rfl, rfl, rfl, rfl, rfl, rfl, rfl, trivial⟩, ⟨hz, by omega, vl2⟩, by dsimp only; omega⟩
     ·refine W_exit (W_reg (sV rfl (py_move rfl) (sV rfl (py_add rfl rfl (in64 ⟨by omega, by omega⟩)) (sV rfl (py_assign rfl) (s_nil (W_reg (sV rfl (py_move rfl) (sV rfl (py_add rfl rfl (in64 ⟨by omega, by omega⟩)) (sV rfl (py_assign rfl) (s_nil ?_))))))))))
      have hz := H11
      rw [show i = K by omega] at hz
      refine ⟨(c + 1, elimTo (normM M c r j) c r K, r + 1, _, _, _), ⟨rfl, rfl, rfl, rfl, trivial⟩, ⟨hz, by omega, (step_some hred hpv (by omega)).trans (by rw [xl]), (hR.norm (by omega) (by omega)).elim (by omega), by omega, vl2⟩, by dsimp only; omega⟩
   ·refine W_skip (W_reg (sV rfl (py_move rfl) (sV rfl (py_add rfl rfl (in64 ⟨by omega, by omega⟩)) (sV rfl (py_assign rfl) (s_nil (⟨j + 1, ⟨rfl, rfl, rfl, rfl, rfl, rfl, trivial⟩, ⟨(eP1.ftake 1), by omega, by omega, fun i h1 h2 => ?_⟩, by dsimp only; omega⟩))))))
    by_cases e : i = j
    ·subst e; show (M.getD i []).getD c 0 = 0; exact u8_zero (by omega)
    ·exact hnz i h1 (by omega)
  ·refine W_exit (W_seq (W_seq ?_))
   have hpv : pivAt M c r = M.length := pivAt_eq (by omega) (Nat.le_refl _) (fun i h1 h2 => hnz i h1 (by omega)) (.inl rfl)
   refine W_reg (sV rfl (py_move rfl) (sV rfl (py_lss rfl rfl) (s_nil (W_ifd rfl (fun c7 => ?_) (fun c7 => ?_)))))
   ·refine W_exit (W_reg (sV rfl (py_move rfl) (sV rfl (py_add rfl rfl (in64 ⟨by omega, by omega⟩)) (sV rfl (py_assign rfl) (s_nil (⟨(c + 1, M, r, _, _, _), ⟨rfl, rfl, rfl, rfl, trivial⟩, ⟨H2, by omega, step_none hred (Nat.le_of_eq hpv.symm), hR, hrK, vl⟩, by dsimp only; omega⟩))))))
   ·exact absurd (by omega) c7
 ·refine W_exit (W_sr (sV rfl (py_move rfl) (sV rfl (py_assign rfl) (s_nil (W_ret (hQ _ _ (fin1 Tryz.results284 rfl ?_)))))))
  have hz := H1.rowsOut vl
  have e9 : redM m n = (M, r) := by
   obtain rfl : c = n := by omega
   exact hred
  rw [e9]
  exact ⟨rfl, hz⟩
theorem Tryz_spec_l1Step {w : World} {K l n : Nat} {m : Mat} {vs0 : List View} {VA : Option Addr} {VC : Nat} {fp g0 : List Nat} (o : own true w [.slice VA K VC] vs0 fp) (nd : fp.Nodup) (hr0 : ownL false w (vs0.map View.val) m g0) (hd : ∀ b ∈ g0, b ∉ fp) (vl0 : vs0.length = K) (hR0 : Rect m K l) (hn : n < l ∧ l ≤ 1000 ∧ 1 ≤ K ∧ K ≤ 1000) : Ret Tryz.prog 298 #[.slice VA K VC, .int .i64 n] w fun v w' => (v = .int .i64 ((redM m n).2 : Nat) ∧ RowsMut w w' fp (.slice VA K VC) K (redM m n).1) := by
 refine ret_Q (vs := [.slice VA K VC, .int .i64 n]) Tryz.func298 rfl Tryz.ntmps298 rfl (fun Q hQ hN => ?_)
 have H0 := Sep.beginRows o nd hr0 hd
 refine W_sr (sV rfl (py_assign rfl) (s_nil (W_sr (sV rfl (py_assign rfl) (s_nil (W_seq (W_sr (sV rfl (py_assign rfl) (s_nil (W_block (W_loop (γ := Nat × Mat × Nat × List View × List Nat × List Nat) (fun (c, M, r, vs, f, g) => [(0, .slice VA K VC), (1, .int .i64 n), (5, .int .i64 r), (6, .int .i64 c)]) (fun (c, M, r, vs, f, g) w' => Sep (· ∈ fp) w [mine [.slice VA K VC] vs f] [rows vs M g] w' ∧ c ≤ n ∧ redM m c = (M, r) ∧ Rect M K l ∧ r ≤ K ∧ vs.length = K) (fun (c, M, r, vs, f, g) => n - c) (0, m, 0, _, _, _) ⟨rfl, rfl, rfl, rfl, trivial⟩ ⟨H0, by omega, rfl, hR0, by omega, vl0⟩ (fun (c, M, r, vs, f, g) w1 H1 => ?_))))))))))))
 obtain ⟨H1, hc, hred, hR, hrK, vl⟩ := H1
 refine W_seq (W_sr (sV rfl (py_move rfl) (sV rfl (py_move rfl) (sV rfl (py_lss rfl rfl) (sV rfl (py_move rfl) (s_grp 4 (j := 3) (want := true) (t := 17) rfl rfl rfl rfl (fun hg1 kk1 => s_val (wgE rfl rfl rfl hg1) rfl rfl (py_move rfl) (s_val (wgE rfl rfl rfl hg1) rfl rfl (py_move rfl) (s_val (wgE rfl rfl rfl hg1) rfl rfl (py_len Tryz.underlying163 rfl) (s_val (wgE rfl rfl rfl hg1) rfl rfl (py_lss rfl rfl) (kk1 _ _ (kx rfl (kx rfl (kx rfl (kx rfl k0)))) rfl Ext.refl))))) (fun w2 e1 => ?_)))))))
 have H2 := H1.to e1
 refine sV rfl (py_band rfl rfl) (s_nil (W_if rfl (fun c1 => ?_) (fun c1 => ?_)))
 ·refine W_skip (W_seq (W_block (W_seq ?_)))
  simp only [Bool.and_eq_true, decide_eq_true_eq] at c1
  have xl := hR.1
  refine W_reg (sV rfl (py_move rfl) (sV rfl (py_assign rfl) (s_nil (W_seq (W_block (W_loop (γ := Nat) (fun j => [(0, .slice VA K VC), (1, .int .i64 n), (5, .int .i64 r), (6, .int .i64 c), (7, .int .i64 j)]) (fun j w' => Sep (· ∈ fp) w _ _ w' ∧ r ≤ j ∧ j ≤ K ∧ ∀ i, r ≤ i → i < j → entry M i c = 0) (fun j => K - j) r ⟨rfl, rfl, rfl, rfl, rfl, trivial⟩ ⟨H2, by omega, by omega, fun i h1 h2 => by omega⟩ (fun j w3 H3 => ?_)))))))
  obtain ⟨H3, hj1, hj2, hnz⟩ := H3
  refine W_seq (W_seq ?_)
  obtain ⟨jj, hjj, hjk⟩ : ∃ jj, jj < K ∧ (j < K → jj = j) := ⟨if j < K then j else 0, by split <;> omega, fun h => if_pos h⟩
  have e1 := hR.2 jj hjj
  obtain ⟨eb1, eo1, ea1, ek1, ef1, ee1, ec1, eO1, eH1, em1⟩ := elem_view (H3.mine 0 rfl) (H3.rowsAt 0 rfl) (by first | omega | (simp only [List.length_set]; omega)) jj (by first | omega | (simp only [List.length_set]; omega))
  have eP1 := H3.lookR 0 rfl eO1 eH1
  obtain ⟨eb2, eo2, ee2, ec2⟩ := elem_u8 (eP1.seen 1 rfl) c (by omega)
  refine W_reg (sV rfl (py_move rfl) (sV rfl (py_move rfl) (sV rfl (py_len Tryz.underlying163 rfl) (sV rfl (py_lss rfl rfl) (sV rfl (py_move rfl) (s_grp 8 (j := 4) (want := true) (t := 34) rfl rfl rfl rfl (fun hg2 kk2 => s_val (wgE rfl rfl rfl hg2) rfl rfl (py_move rfl) (s_val (wgE rfl rfl rfl hg2) rfl rfl (py_move rfl) (s_val (wgE rfl rfl rfl hg2) rfl rfl (py_elz Tryz.underlying163 Tryz.sizeOf61 rfl rfl ee1 jj (by first | omega | (simp only [Bool.or_eq_false_iff, Bool.and_eq_true, Bool.and_eq_false_iff, Bool.or_eq_true, Bool.not_eq_true', Bool.not_eq_false', decide_eq_true_eq, decide_eq_false_iff_not] at hg2; omega)) (by omega)) (s_val (wgE rfl rfl rfl hg2) rfl rfl (py_load Tryz.underlying61 rfl rfl ec1) (s_val (wgE rfl rfl rfl hg2) rfl rfl (py_move rfl) (s_val (wgE rfl rfl rfl hg2) rfl rfl (py_elz Tryz.underlying61 Tryz.sizeOf5 rfl rfl ee2 c (by first | omega | (simp only [Bool.or_eq_false_iff, Bool.and_eq_true, Bool.and_eq_false_iff, Bool.or_eq_true, Bool.not_eq_true', Bool.not_eq_false', decide_eq_true_eq, decide_eq_false_iff_not] at hg2; omega)) (by omega)) (s_val (wgE rfl rfl rfl hg2) rfl rfl (py_load Tryz.underlying5 rfl rfl ec2) (s_val (wgE rfl rfl rfl hg2) rfl rfl (py_eql rfl rfl) (kk2 _ _ (kx rfl (kx rfl (kx rfl (kx rfl (kx rfl (kx rfl (kx rfl (kx rfl k0)))))))) rfl Ext.refl))))))))) (fun w4 e2 => ?_)))))))
  have H4 := eP1.to e2
  refine sV rfl (py_band rfl rfl) (s_nil (W_if rfl (fun c2 => ?_) (fun c2 => ?_)))
  ·refine W_skip (W_block (W_reg (sV rfl (py_move rfl) (sV rfl (py_add rfl rfl (in64 ⟨by omega, by omega⟩)) (sV rfl (py_assign rfl) (s_nil ?_))))))
   simp only [Bool.and_eq_true, decide_eq_true_eq] at c2
   have ez : entry M j c = 0 := by
    rw [← hjk (by omega)]
    show (M.getD jj []).getD c 0 = 0
    exact u8_zero (by omega)
   refine ⟨j + 1, ⟨rfl, rfl, rfl, rfl, rfl, trivial⟩, ⟨H4.ftake 1, by omega, by omega, fun i h1 h2 => ?_⟩, by dsimp only; omega⟩
   by_cases e : i = j
   ·subst e; exact ez
   ·exact hnz i h1 (by omega)
  ·refine W_exit (W_seq (W_sr (sV rfl (py_move rfl) (sV rfl (py_move rfl) (sV rfl (py_len Tryz.underlying163 rfl) (sV rfl (py_eql rfl rfl) (s_nil (W_ifd rfl (fun c3 => ?_) (fun c3 => ?_)))))))))
   ·refine W_exit (W_reg (sV rfl (py_move rfl) (sV rfl (py_add rfl rfl (in64 ⟨by omega, by omega⟩)) (sV rfl (py_assign rfl) (s_nil ?_)))))
    have hpv : pivAt M c r = M.length := pivAt_eq (by omega) (Nat.le_refl _) (fun i h1 h2 => hnz i h1 (by omega)) (.inl rfl)
    refine ⟨(c + 1, M, r, _, _, _), ⟨rfl, rfl, rfl, rfl, trivial⟩, ⟨(H4.ftake 1), by omega, step_none hred (Nat.le_of_eq hpv.symm), hR, hrK, vl⟩, by dsimp only; omega⟩
   ·refine W_skip (W_seq ?_)
    have hpv : pivAt M c r = j := pivAt_eq (by omega) (by omega) hnz (.inr (fun e => by
     have ej := hjk (by omega)
     rw [entry, ← ej] at e
     simp only [Bool.and_eq_false_iff, decide_eq_false_iff_not] at c2
     rcases c2 with h | h
     ·omega
     ·exact h (by rw [e]; rfl)))
    have e5 := hR.2 j (by omega)
    obtain ⟨eb3, eo3, ea2, ek2, ef2, ee3, ec3, eO2, eH2, em2⟩ := elem_view (H4.mine 0 rfl) (H4.rowsAt 0 rfl) (by first | omega | (simp only [List.length_set]; omega)) j (by first | omega | (simp only [List.length_set]; omega))
    have eP2 := H4.lookR 0 rfl eO2 eH2
    refine W_reg (sV rfl (py_move rfl) (sV rfl (py_move rfl) (sV rfl (py_elz Tryz.underlying163 Tryz.sizeOf61 rfl rfl ee3 j (by omega) (by omega)) (sV rfl (py_load Tryz.underlying61 rfl rfl ec3) (sV rfl (py_assign rfl) (s_nil (W_seq ?_)))))))
    obtain ⟨eb4, eo4, ea3, ek3, ef3, ee4, ec4, eO3, eH3, em3⟩ := elem_view (eP2.mine 0 rfl) (eP2.rowsAt 0 rfl) (by first | omega | (simp only [List.length_set]; omega)) r (by first | omega | (simp only [List.length_set]; omega))
    have eP3 := eP2.lookR 0 rfl eO3 eH3
    obtain ⟨eb5, eo5, ea4, ek4, ef4, ee5, ec5, eO4, eH4, em4⟩ := elem_view (eP3.mine 0 rfl) (eP3.rowsAt 0 rfl) (by first | omega | (simp only [List.length_set]; omega)) j (by first | omega | (simp only [List.length_set]; omega))
    have eP4 := eP3.lookR 0 rfl eO4 eH4
    refine W_reg (sV rfl (py_move rfl) (sV rfl (py_move rfl) (sV rfl (py_move rfl) (sV rfl (py_move rfl) (sV rfl (py_elz Tryz.underlying163 Tryz.sizeOf61 rfl rfl ee4 r (by omega) (by omega)) (sV rfl (py_load Tryz.underlying61 rfl rfl ec4) (sV rfl (py_elz Tryz.underlying163 Tryz.sizeOf61 rfl rfl ee5 j (by omega) (by omega)) (s_rowset (wn rfl) Tryz.sizeOf61 eP4 0 0 3 rfl rfl rfl (by first | omega | (simp only [List.length_set]; omega)) j (by first | omega | (simp only [List.length_set]; omega)) rfl ee5 rfl (fun w5 fp1 gp1 H5 => ?_)))))))))
    try dsimp only [List.nil_append, List.cons_append, List.set_cons_zero, List.set_cons_succ] at H5
    refine s_nil (W_seq ?_)
    obtain ⟨eb6, eo6, ee6, ec6⟩ := elem_u8 (H5.seen 2 rfl) c (by omega)
    obtain ⟨eb7, eo7, ea5, ek5, ef5, ee7, ec7, eO5, eH5, em5⟩ := elem_view (H5.mine 0 rfl) (H5.rowsAt 0 rfl) (by first | omega | (simp only [List.length_set]; omega)) r (by first | omega | (simp only [List.length_set]; omega))
    have eP5 := H5.lookR 0 rfl eO5 eH5
    refine W_reg (sV rfl (py_move rfl) (sV rfl (py_move rfl) (sV rfl (py_move rfl) (sV rfl (py_move rfl) (sV rfl (py_move rfl) (sV rfl (py_elz Tryz.underlying61 Tryz.sizeOf5 rfl rfl ee6 c (by omega) (by omega)) (sV rfl (py_load Tryz.underlying5 rfl rfl ec6) (s_call (wn rfl) rfl rfl (pc_call Tryz.func296 rfl Tryz_nm296 rfl) Tryz_spec_l1Inv (fun v1 w6 r1 => ?_)))))))))
    obtain ⟨e4, rfl⟩ := r1
    have H6 := eP5.to e4
    refine s_call (wn rfl) rfl rfl (pc_call Tryz.func273 rfl Tryz_nm273 rfl) (Tryz_spec_l1Scale (H6.sees 2 rfl) (by omega)) (fun v2 w7 r2 => ?_)
    obtain ⟨e5, r2⟩ := r2
    obtain ⟨fp2, H7⟩ := H6.res e5 r2
    obtain ⟨a1, k1, q1⟩ := own_slice (H7.mine 1 rfl)
    cases q1
    refine sV rfl (py_elz Tryz.underlying163 Tryz.sizeOf61 rfl rfl ee7 r (by omega) (by omega)) ?_
    have H9 := H7.share 1 rfl
    try dsimp only [List.nil_append, List.cons_append, List.set_cons_zero, List.set_cons_succ] at H9
    refine s_rowset (wn rfl) Tryz.sizeOf61 H9 0 0 6 rfl rfl rfl (by first | omega | (simp only [List.length_set]; omega)) r (by first | omega | (simp only [List.length_set]; omega)) rfl ee7 rfl (fun w8 fp3 gp2 H8 => ?_)
    try dsimp only [List.nil_append, List.cons_append, List.set_cons_zero, List.set_cons_succ] at H8
    refine s_nil (W_seq (W_seq ?_))
    have HN := H8
    rw [show (M.set j (M.getD r [])).set r (scaleG (M.getD j []) (invG ((M.getD j []).getD c 0))) = normM M c r j from rfl] at HN
    refine W_reg (sV rfl (py_assign rfl) (s_nil (W_block (W_loop (γ := Nat × List View × List Nat × List Nat) (fun (i, vs2, f2, g2) => [(0, .slice VA K VC), (1, .int .i64 n), (5, .int .i64 r), (6, .int .i64 c), (9, .int .i64 i)]) (fun (i, vs2, f2, g2) w' => Sep (· ∈ fp) w [mine [.slice VA K VC] vs2 f2] [rows vs2 (elimTo (normM M c r j) c r i) g2] w' ∧ i ≤ K ∧ vs2.length = K) (fun (i, vs2, f2, g2) => K - i) (0, _, _, _) ⟨rfl, rfl, rfl, rfl, rfl, trivial⟩ ⟨by rw [elimTo_zero]; exact ((HN.ftake 1).dtake 1), by omega, by simp only [List.length_set]; omega⟩ (fun (i, vs2, f2, g2) w9 H10 => ?_)))))
    obtain ⟨H10, hi, vl2⟩ := H10
    refine W_seq (W_sr (sV rfl (py_move rfl) (sV rfl (py_move rfl) (sV rfl (py_len Tryz.underlying163 rfl) (sV rfl (py_lss rfl rfl) (s_nil (W_ifd rfl (fun c4 => ?_) (fun c4 => ?_))))))))
    ·refine W_skip (W_seq (W_block (W_sr (sV rfl (py_move rfl) (sV rfl (py_move rfl) (sV rfl (py_neq rfl rfl) (s_nil (W_ifd rfl (fun c5 => ?_) (fun c5 => ?_)))))))))
     ·have nR := hR.norm (c := c) (r := r) (a := j) (by omega) (by omega)
      have eR := nR.elim (c := c) (r := r) (k := i) (by omega)
      have xl2 := eR.1
      have e3 := eR.2 i (by omega)
      have e4 := eR.2 r (by omega)
      have sl := scaleG_len ((elimTo (normM M c r j) c r i).getD r []) (((elimTo (normM M c r j) c r i).getD i []).getD c 0)
      obtain ⟨eb8, eo8, ea6, ek6, ef6, ee8, ec8, eO6, eH6, em6⟩ := elem_view (H10.mine 0 rfl) (H10.rowsAt 0 rfl) (by first | omega | (simp only [List.length_set]; omega)) i (by first | omega | (simp only [List.length_set]; omega))
      have eP6 := H10.lookR 0 rfl eO6 eH6
      obtain ⟨eb9, eo9, ea7, ek7, ef7, ee9, ec9, eO7, eH7, em7⟩ := elem_view (eP6.mine 0 rfl) (eP6.rowsAt 0 rfl) (by first | omega | (simp only [List.length_set]; omega)) r (by first | omega | (simp only [List.length_set]; omega))
      have eP7 := eP6.lookR 0 rfl eO7 eH7
      obtain ⟨eb10, eo10, ee10, ec10⟩ := elem_u8 (eP7.seen 1 rfl) c (by omega)
      refine W_drw (S := Ext No _) [(0, true), (1, true), (2, true), (3, true), (4, true), (5, true), (6, true), (7, true), (8, true), (9, true), (10, true), (11, true), (12, true), (13, true), (14, true), (15, true), (16, true), (17, false), (18, false), (19, true), (20, false)] (by kernel_rfl) (by kernel_rfl) (by kernel_rfl) rfl (fun _ => Ext.refl.drawn _) (fun q2 => ?_)
      have H11 := eP7.drawn q2
      refine dV rfl rfl (fun zw hx => py_move rfl) (dV rfl rfl (fun zw hx => py_move rfl) (dV rfl rfl (fun zw hx => py_move rfl) (dV rfl rfl (fun zw hx => py_move rfl) (dV rfl rfl (fun zw hx => py_elz Tryz.underlying163 Tryz.sizeOf61 rfl rfl ee8 i (by omega) (by omega)) (dV rfl rfl (fun zw hx => py_load Tryz.underlying61 rfl rfl (hx.cell ec8)) (dV rfl rfl (fun zw hx => py_move rfl) (dV rfl rfl (fun zw hx => py_move rfl) (dV rfl rfl (fun zw hx => py_elz Tryz.underlying163 Tryz.sizeOf61 rfl rfl ee9 r (by omega) (by omega)) (dV rfl rfl (fun zw hx => py_load Tryz.underlying61 rfl rfl (hx.cell ec9)) (dV rfl rfl (fun zw hx => py_move rfl) (dV rfl rfl (fun zw hx => py_move rfl) (dV rfl rfl (fun zw hx => py_elz Tryz.underlying163 Tryz.sizeOf61 rfl rfl ee8 i (by omega) (by omega)) (dV rfl rfl (fun zw hx => py_load Tryz.underlying61 rfl rfl (hx.cell ec8)) (dV rfl rfl (fun zw hx => py_move rfl) (dV rfl rfl (fun zw hx => py_elz Tryz.underlying61 Tryz.sizeOf5 rfl rfl ee10 c (by omega) (by omega)) (dV rfl rfl (fun zw hx => py_load Tryz.underlying5 rfl rfl (hx.cell ec10)) (d_call rfl (wn rfl) rfl rfl (pc_call Tryz.func273 rfl Tryz_nm273 rfl) (Tryz_spec_l1Scale (H11.sees 2 rfl) (by omega)) (fun hS _ _ r _ => hS.trans r.1.no) (fun v3 w10 r3 => ?_))))))))))))))))))
      obtain ⟨e7, r3⟩ := r3
      obtain ⟨fp4, H12⟩ := H11.res e7 r3
      obtain ⟨a2, k2, q3⟩ := own_slice (H12.mine 1 rfl)
      cases q3
      refine d_call rfl (wn rfl) rfl rfl (pc_call Tryz.func194 rfl Tryz_nm194 rfl) (Tryz_spec_l1Add (H12.sees 1 rfl) (H12.msees 1 rfl) (by omega)) (fun hS _ _ r _ => hS.trans r.1.no) (fun v4 w11 r4 => ?_)
      obtain ⟨e8, r4⟩ := r4
      obtain ⟨fp5, H13⟩ := H12.res e8 r4
      obtain ⟨a3, k3, q4⟩ := own_slice (H13.mine 2 rfl)
      cases q4
      refine dV rfl rfl (fun zw hx => py_elz Tryz.underlying163 Tryz.sizeOf61 rfl rfl ee8 i (by omega) (by omega)) ?_
      have H15 := H13.share 2 rfl
      try dsimp only [List.nil_append, List.cons_append, List.set_cons_zero, List.set_cons_succ] at H15
      refine d_rowset rfl (wn rfl) Tryz.sizeOf61 H15 0 0 3 rfl rfl rfl (by first | omega | (simp only [List.length_set]; omega)) i (by first | omega | (simp only [List.length_set]; omega)) rfl ee8 rfl (fun _ _ _ _ _ _ _ _ hr => absurd rfl hr) (fun w12 fp6 gp3 H14 => ?_)
      try dsimp only [List.nil_append, List.cons_append, List.set_cons_zero, List.set_cons_succ] at H14
      refine d_nil (W_reg (sV rfl (py_move rfl) (sV rfl (py_add rfl rfl (in64 ⟨by omega, by omega⟩)) (sV rfl (py_assign rfl) (s_nil ?_)))))
      have nR := hR.norm (c := c) (r := r) (a := j) (by omega) (by omega)
      have hz := ((H14.ftake 1).dtake 1)
      rw [elimTo_set (by rw [nR.1]; omega) (by omega) (by rw [elimTo_at (by rw [nR.1]; omega), elimTo_r (by rw [nR.1]; omega)]; rfl)] at hz
      refine ⟨(i + 1, _, _, _), ⟨rfl, rfl, rfl, rfl, rfl, trivial⟩, ⟨hz, by omega, by simp only [List.length_set]; omega⟩, by dsimp only; omega⟩
     ·refine W_skip (W_reg (sV rfl (py_move rfl) (sV rfl (py_add rfl rfl (in64 ⟨by omega, by omega⟩)) (sV rfl (py_assign rfl) (s_nil ?_)))))
      have nR := hR.norm (c := c) (r := r) (a := j) (by omega) (by omega)
      have hz := H10
      rw [elimTo_skip (.inl (by omega))] at hz
      refine ⟨(i + 1, _, _, _), ⟨rfl, rfl, rfl, rfl, rfl, trivial⟩, ⟨hz, by omega, vl2⟩, by dsimp only; omega⟩
    ·refine W_exit (W_reg (sV rfl (py_move rfl) (sV rfl (py_add rfl rfl (in64 ⟨by omega, by omega⟩)) (sV rfl (py_assign rfl) (s_nil (W_reg (sV rfl (py_move rfl) (sV rfl (py_add rfl rfl (in64 ⟨by omega, by omega⟩)) (sV rfl (py_assign rfl) (s_nil ?_))))))))))
     have hz := H10
     rw [show i = K by omega] at hz
     refine ⟨(c + 1, elimTo (normM M c r j) c r K, r + 1, _, _, _), ⟨rfl, rfl, rfl, rfl, trivial⟩, ⟨hz, by omega, (step_some hred hpv (by omega)).trans (by rw [xl]), (hR.norm (by omega) (by omega)).elim (by omega), by omega, vl2⟩, by dsimp only; omega⟩
 ·refine W_exit (W_sr (sV rfl (py_move rfl) (sV rfl (py_assign rfl) (s_nil (W_ret (hQ _ _ (fin1 Tryz.results298 rfl ?_)))))))
  have hz := H2.rowsOut vl
  have e9 : redM m n = (M, r) := by
   simp only [Bool.and_eq_false_iff, decide_eq_false_iff_not] at c1
   by_cases hq : c = n
   ·rw [← hq]; exact hred
   ·rw [red_full (c := c) (by rw [hred]; show r = M.length; rw [hR.1]; omega) n hc]; exact hred
  rw [e9]
  exact ⟨rfl, hz⟩
theorem Tryz_impl_solve {w : World} {m : List (List UInt8)} {mA : Option Addr} {mN mC : Nat} {b : List UInt8} {bA : Option Addr} {bN bC : Nat} (mS : Sees w [.slice mA mN mC] m) (bS : Sees w [.slice bA bN bC] b) (hR : Rect m m.length m.length) (hb : b.length = m.length) (hml : 1 ≤ m.length ∧ m.length ≤ 100) : Ret Tryz.prog 249 #[.slice mA mN mC, .slice bA bN bC] w fun v w' => Ext No w w' ∧ (∃ A C, v = .tuple #[.slice A (solL m b).length C, .bool (solOk m b)] ∧ Res w w' [.slice A (solL m b).length C] (solL m b)) := by
 obtain ⟨mF, mO⟩ := mS
 obtain rfl := own_n mO
 have mL := sees_len ⟨_, mO⟩
 unfold maxLen at mL
 obtain ⟨bF, bO⟩ := bS
 obtain rfl := own_n bO
 have bL := sees_len ⟨_, bO⟩
 unfold maxLen at bL
 refine ret_Q (vs := [.slice mA m.length mC, .slice bA b.length bC]) Tryz.func249 rfl Tryz.ntmps249 rfl (fun Q hQ hN => ?_)
 have H0 := Sep.start (w := w) (F := [seen false [.slice mA m.length mC] m mF, seen false [.slice bA b.length bC] b bF]) (all_cons mO (all_cons bO (by simp)))
 refine W_sr (sV rfl (py_assign rfl) (sV rfl (py_assign rfl) (s_nil (W_sr (sV rfl (py_move rfl) (sV rfl (py_len Tryz.underlying163 rfl) (s_make (wn rfl) rfl Tryz.underlying163 Tryz_ty61 (own_zs (α := UInt8)) rfl (by omega) (by unfold maxLen; omega) H0 (fun b1 w1 e1 g1 H1 => ?_))))))))
 refine sV rfl (py_assign rfl) (s_nil (W_seq (W_sr (sV rfl (py_move rfl) (sV rfl (py_len Tryz.underlying163 rfl) (sV rfl (py_move rfl) (s_nil (W_block (W_loop (γ := Nat × List Nat) (fun (k, f) => [(0, .slice mA m.length mC), (1, .slice bA b.length bC), (6, .slice (some ⟨b1, 0, none⟩) m.length m.length), (15, .slice mA m.length mC), (16, .int .i64 m.length), (17, .int .i64 k)]) (fun (k, f) w' => Sep No w [mine [.slice (some ⟨b1, 0, none⟩) m.length m.length] (augIn m b k) f] [seen false [.slice mA m.length mC] m mF, seen false [.slice bA b.length bC] b bF] w' ∧ k ≤ m.length) (fun (k, f) => m.length - k) (0, _) ⟨rfl, rfl, rfl, rfl, rfl, rfl, trivial⟩ ⟨by rw [augIn_zero]; exact H1, by omega⟩ (fun (k, f) w2 H2 => ?_))))))))))
 obtain ⟨H2, hk⟩ := H2
 refine W_sr (sV rfl (py_lss rfl rfl) (s_nil (W_seq (W_ifd rfl (fun c1 => ?_) (fun c1 => ?_)))))
 ·refine W_skip (W_seq (W_block (W_seq ?_)))
  obtain ⟨eb1, eo1, ea1, ek1, ef1, ee1, ec1, eO1, eH1⟩ := elem_sl (H2.seen 0 rfl) k (by omega)
  have eP1 := H2.look1 0 rfl eO1 eH1
  refine W_reg (sV rfl (py_move rfl) (sV rfl (py_elz Tryz.underlying163 Tryz.sizeOf61 rfl rfl ee1 k (by omega) (by omega)) (sV rfl (py_load Tryz.underlying61 rfl rfl ec1) (sV rfl (py_assign rfl) (sV rfl (py_assign rfl) (s_nil ?_))))))
  have e3 := hR.2 k (by omega)
  obtain ⟨eb2, eo2, ee2, ec2⟩ := elem_u8 (eP1.seen 1 rfl) k (by omega)
  obtain ⟨eb3, eo3, ee3⟩ := own_addr (eP1.mine 0 rfl) k (by rw [augIn_len (by omega)]; omega)
  refine W_drw (S := Ext No _) [(0, true), (1, true), (2, true), (4, true), (5, true), (6, true), (7, true), (1005, false), (3, false), (8, false), (9, false), (10, true), (11, false), (8, false), (3, false), (9, false), (10, true), (11, false)] (by kernel_rfl) (by kernel_rfl) (by kernel_rfl) rfl (fun _ => Ext.refl.drawn _) (fun q1 => ?_)
  have H3 := eP1.drawn q1
  refine dV rfl rfl (fun zw hx => py_move rfl) (dV rfl rfl (fun zw hx => py_move rfl) (dV rfl rfl (fun zw hx => py_move rfl) (dV rfl rfl (fun zw hx => py_move rfl) (dV rfl rfl (fun zw hx => py_move rfl) (dV rfl rfl (fun zw hx => py_elz Tryz.underlying61 Tryz.sizeOf5 rfl rfl ee2 k (by omega) (by omega)) (dV rfl rfl (fun zw hx => py_load Tryz.underlying5 rfl rfl (hx.cell ec2)) (d_fork (l1 := [(3, false), (8, false), (9, false), (10, true), (11, false)]) (l2 := [(8, false), (3, false), (9, false), (10, true), (11, false)]) rfl rfl rfl rfl ?_ ?_)))))))
  ·refine d_S (fun hs1 => ?_) (by simp)
   refine d_call rfl (wn rfl) rfl rfl (pc_call Tryz.func197 rfl Tryz_nm197 rfl) (Tryz_slices_Clone_byte_byte (H3.sees 2 rfl) (by omega)) (fun hS _ _ r _ => hS.trans r.1.no) (fun v1 w3 r1 => ?_)
   obtain ⟨e2, r1⟩ := r1
   obtain ⟨fp1, H4, fr1⟩ := H3.resN e2 r1
   obtain ⟨a1, k1, q2⟩ := own_slice (H4.mine 1 rfl)
   cases q2
   refine d_lit1 rfl (wn rfl) rfl Tryz.underlying61 Tryz_ty5 rfl rfl rfl rfl H4 (fun _ h e => h.trans e.no) (fun b2 w4 e3 g2 H5 => ?_)
   refine d_S (fun hs2 => ?_) (by simp)
   refine d_app1S rfl (wn rfl) rfl Tryz.underlying61 Tryz_ty5 rfl rfl rfl H5 1 2 rfl rfl own_b8 (by (try simp only [List.length_nil]); unfold maxLen; omega) (by (try simp only [List.length_nil]); omega) (fun b hb => Nat.le_trans hs1.size (fr1 b hb)) (fun v2 w5 fp2 sb1 H6 => ?_)
   try dsimp only [List.nil_append, List.cons_append, List.set_cons_zero, List.set_cons_succ] at H6
   refine dV rfl rfl (fun zw hx => py_elz Tryz.underlying163 Tryz.sizeOf61 rfl rfl ee3 k (by omega) (by omega)) (d_elst2 rfl (wn rfl) Tryz.sizeOf61 rfl H6 0 1 rfl rfl rfl k (by rw [augIn_len (by omega)]; omega) rfl ee3 rfl (fun w6 fp3 H7 => ?_))
   refine d_nil (W_reg (sV rfl (py_add rfl rfl (in64 ⟨by omega, by omega⟩)) (sV rfl (py_move rfl) (s_nil ?_))))
   have hz := ((H7.ftake 2).dtake 1)
   rw [augIn_set (by omega)] at hz
   refine ⟨(k + 1, _), ⟨rfl, rfl, rfl, rfl, rfl, rfl, trivial⟩, ⟨hz, by omega⟩, by dsimp only; omega⟩
  ·refine d_lit1 rfl (wn rfl) rfl Tryz.underlying61 Tryz_ty5 rfl rfl rfl rfl H3 (fun _ h e => h.trans e.no) (fun b3 w7 e5 g3 H8 => ?_)
   refine d_S (fun hs3 => ?_) (by simp)
   refine d_call rfl (wn rfl) rfl rfl (pc_call Tryz.func197 rfl Tryz_nm197 rfl) (Tryz_slices_Clone_byte_byte (H8.sees 2 rfl) (by omega)) (fun hS _ _ r _ => hS.trans r.1.no) (fun v3 w8 r2 => ?_)
   obtain ⟨e6, r2⟩ := r2
   obtain ⟨fp4, H9, fr2⟩ := H8.resN e6 r2
   obtain ⟨a2, k2, q3⟩ := own_slice (H9.mine 2 rfl)
   cases q3
   refine d_S (fun hs4 => ?_) (by simp)
   refine d_app1S rfl (wn rfl) rfl Tryz.underlying61 Tryz_ty5 rfl rfl rfl H9 2 1 rfl rfl own_b8 (by (try simp only [List.length_nil]); unfold maxLen; omega) (by (try simp only [List.length_nil]); omega) (fun b hb => Nat.le_trans hs3.size (fr2 b hb)) (fun v4 w9 fp5 sb2 H10 => ?_)
   try dsimp only [List.nil_append, List.cons_append, List.set_cons_zero, List.set_cons_succ] at H10
   refine dV rfl rfl (fun zw hx => py_elz Tryz.underlying163 Tryz.sizeOf61 rfl rfl ee3 k (by omega) (by omega)) (d_elst2 rfl (wn rfl) Tryz.sizeOf61 rfl H10 0 2 rfl rfl rfl k (by rw [augIn_len (by omega)]; omega) rfl ee3 rfl (fun w10 fp6 H11 => ?_))
   refine d_nil (W_reg (sV rfl (py_add rfl rfl (in64 ⟨by omega, by omega⟩)) (sV rfl (py_move rfl) (s_nil ?_))))
   have hz := ((H11.ftake 2).dtake 1)
   rw [augIn_set (by omega)] at hz
   refine ⟨(k + 1, _), ⟨rfl, rfl, rfl, rfl, rfl, rfl, trivial⟩, ⟨hz, by omega⟩, by dsimp only; omega⟩
 ·refine W_exit (W_seq (W_seq ?_))
  obtain rfl : k = m.length := by omega
  obtain ⟨vs, f2, g2, vl, HP⟩ := H2.parted 0 rfl
  try dsimp only [List.nil_append, List.cons_append, List.set_cons_zero, List.set_cons_succ] at HP
  rw [augIn_all] at HP
  rw [augIn_all] at vl
  have hRa := aug_rect (b := b) hR
  have hRM := (hRa.red m.length).1
  have hM1 := hRM.1
  have vl1 : vs.length = m.length := vl.trans hRa.1
  refine W_reg (sV rfl (py_move rfl) (sV rfl (py_move rfl) (sV rfl (py_len Tryz.underlying163 rfl) (s_call (wn rfl) rfl rfl (pc_call Tryz.func284 rfl Tryz_nm284 rfl) (Tryz_impl_reduce (HP.mine 0 rfl) (HP.nodup1 (i := 0) rfl) (HP.rowsAt 2 rfl) (fun b hb => HP.off 2 rfl 0 rfl hb) (by first | assumption | omega) (by assumption) (by omega)) (fun v5 w11 r3 => ?_)))))
  obtain ⟨rfl, rm1⟩ := r3
  obtain ⟨rv1, rf1, rg1, rl1, H12⟩ := HP.rowsMut 0 rfl (by simp [blocks, mine, gone]) rm1
  try dsimp only [List.nil_append, List.cons_append, List.set_cons_zero, List.set_cons_succ] at H12
  refine sV rfl (py_move rfl) (sV rfl (py_len Tryz.underlying163 rfl) (sV rfl (py_lss rfl rfl) (s_nil (W_ifd rfl (fun c2 => ?_) (fun c2 => ?_)))))
  ·refine W_sr (sV rfl (py_assign rfl) (sV rfl (py_assign rfl) (s_nil (W_ret (hQ _ _ (fin2 Tryz.results249 rfl rfl ?_))))))
   obtain ⟨e1, e2⟩ := sol_no (m := m) (b := b) (by omega)
   exact ⟨H12.ext, none, 0, (by rw [e1, e2]; rfl), (by rw [e2]; exact ⟨[], .inr (.inl ⟨rfl, rfl, rfl⟩), .nil, by simp⟩)⟩
  ·refine W_skip (W_sr (s_lit0 (α := UInt8) (wn rfl) rfl Tryz.underlying61 Tryz_ty5 H12 (fun b4 w12 e9 g4 H13 => ?_)))
   refine sV rfl (py_assign rfl) (s_nil (W_seq (W_sr (sV rfl (py_move rfl) (sV rfl (py_len Tryz.underlying163 rfl) (sV rfl (py_move rfl) (s_nil (W_block (W_loop (γ := Nat × Value × List Nat) (fun (k, vo, f) => [(0, .slice mA m.length mC), (9, vo), (42, .slice (some ⟨b1, 0, none⟩) m.length m.length), (43, .int .i64 m.length), (44, .int .i64 k)]) (fun (k, vo, f) w' => Sep No w [mine [.slice (some ⟨b1, 0, none⟩) m.length m.length] rv1 rf1, mine [vo] (colTo (redM (aug m b) m.length).1 m.length k) f] _ w' ∧ k ≤ m.length) (fun (k, vo, f) => m.length - k) (0, _, _) ⟨rfl, rfl, rfl, rfl, rfl, trivial⟩ ⟨H13.sub (.cons_cons _ (.cons_cons _ List.Sublist.slnil)), by omega⟩ (fun (k, vo, f) w13 H14 => ?_))))))))))
   obtain ⟨H14, hk⟩ := H14
   refine W_sr (sV rfl (py_lss rfl rfl) (s_nil (W_seq (W_ifd rfl (fun c3 => ?_) (fun c3 => ?_)))))
   ·refine W_skip (W_seq (W_block (W_seq ?_)))
    obtain ⟨eb4, eo4, ea2, ek2, ef2, ee4, ec4, eO2, eH2, em1⟩ := elem_view (H14.mine 0 rfl) (H14.rowsAt 3 rfl) (by first | omega | (simp only [List.length_set]; omega)) k (by first | omega | (simp only [List.length_set]; omega))
    have eP2 := H14.lookR 3 rfl eO2 eH2
    refine W_reg (sV rfl (py_elz Tryz.underlying163 Tryz.sizeOf61 rfl rfl ee4 k (by omega) (by omega)) (sV rfl (py_load Tryz.underlying61 rfl rfl ec4) (sV rfl (py_assign rfl) (s_nil ?_))))
    have e5 := hRM.2 k (by omega)
    have ctl := colTo_len (m := (redM (aug m b) m.length).1) (c := m.length) (k := k)
    obtain ⟨eb5, eo5, ee5, ec5⟩ := elem_u8 (eP2.seen 4 rfl) m.length (by omega)
    refine W_reg (sV rfl (py_move rfl) (sV rfl (py_move rfl) (sV rfl (py_move rfl) (sV rfl (py_len Tryz.underlying163 rfl) (sV rfl (py_elz Tryz.underlying61 Tryz.sizeOf5 rfl rfl ee5 m.length (by omega) (by omega)) (sV rfl (py_load Tryz.underlying5 rfl rfl ec5) (s_lit1 (wn rfl) rfl Tryz.underlying61 Tryz_ty5 rfl rfl rfl rfl eP2 (fun b5 w14 e10 g5 H15 => ?_))))))))
    refine s_app1 (wn rfl) rfl Tryz.underlying61 Tryz_ty5 rfl rfl rfl H15 1 2 rfl rfl own_b8 (by unfold maxLen; omega) (by omega) (fun v6 w15 fp7 H16 => ?_)
    refine sV rfl (py_assign rfl) (s_nil (W_reg (sV rfl (py_add rfl rfl (in64 ⟨by omega, by omega⟩)) (sV rfl (py_move rfl) (s_nil ?_)))))
    have hz := H16.ftake 4 |>.sub (.cons_cons _ (.cons_cons _ (.cons _ List.Sublist.slnil)))
    rw [colTo_step] at hz
    refine ⟨(k + 1, _, _), ⟨rfl, rfl, rfl, rfl, rfl, trivial⟩, ⟨hz, by omega⟩, by dsimp only; omega⟩
   ·refine W_exit (W_sr (sV rfl (py_move rfl) (sV rfl (py_assign rfl) (sV rfl (py_assign rfl) (s_nil (W_ret (hQ _ _ (fin2 Tryz.results249 rfl rfl ?_))))))))
    obtain rfl : k = m.length := by omega
    obtain ⟨e1, e2⟩ := sol_yes (m := m) (b := b) (by omega)
    obtain ⟨qa, qc, qq⟩ := own_slice (H14.mine 1 rfl)
    cases qq
    exact ⟨H14.ext, qa, qc, (by rw [e1, e2]), (by rw [e2]; exact H14.out 1 rfl)⟩
theorem Tryz_spec_l1Solve {w : World} {m : List (List UInt8)} {mA : Option Addr} {mN mC : Nat} {b : List UInt8} {bA : Option Addr} {bN bC : Nat} (mS : Sees w [.slice mA mN mC] m) (bS : Sees w [.slice bA bN bC] b) (hR : Rect m m.length m.length) (hb : b.length = m.length) (hml : 1 ≤ m.length ∧ m.length ≤ 100) : Ret Tryz.prog 282 #[.slice mA mN mC, .slice bA bN bC] w fun v w' => Ext No w w' ∧ (∃ A C, v = .tuple #[.slice A (solL m b).length C, .bool (solOk m b)] ∧ Res w w' [.slice A (solL m b).length C] (solL m b)) := by
 obtain ⟨mF, mO⟩ := mS
 obtain rfl := own_n mO
 have mL := sees_len ⟨_, mO⟩
 unfold maxLen at mL
 obtain ⟨bF, bO⟩ := bS
 obtain rfl := own_n bO
 have bL := sees_len ⟨_, bO⟩
 unfold maxLen at bL
 refine ret_Q (vs := [.slice mA m.length mC, .slice bA b.length bC]) Tryz.func282 rfl Tryz.ntmps282 rfl (fun Q hQ hN => ?_)
 have H0 := Sep.start (w := w) (F := [seen false [.slice mA m.length mC] m mF, seen false [.slice bA b.length bC] b bF]) (all_cons mO (all_cons bO (by simp)))
 refine W_sr (sV rfl (py_assign rfl) (sV rfl (py_assign rfl) (s_nil (W_sr (s_lit0 (α := (List UInt8)) (wn rfl) rfl Tryz.underlying163 Tryz_ty61 H0 (fun b1 w1 e1 g1 H1 => ?_))))))
 refine sV rfl (py_assign rfl) (s_nil (W_seq (W_sr (sV rfl (py_assign rfl) (s_nil (W_block (W_loop (γ := Nat × Value × List Nat) (fun (k, vo, f) => [(0, .slice mA m.length mC), (1, .slice bA b.length bC), (6, vo), (7, .int .i64 k)]) (fun (k, vo, f) w' => Sep No w [mine [vo] (augTo m b k) f] [seen false [.slice mA m.length mC] m mF, seen false [.slice bA b.length bC] b bF] w' ∧ k ≤ m.length) (fun (k, vo, f) => m.length - k) (0, _, _) ⟨rfl, rfl, rfl, rfl, trivial⟩ ⟨H1, by omega⟩ (fun (k, vo, f) w2 H2 => ?_))))))))
 obtain ⟨H2, hk⟩ := H2
 refine W_seq (W_sr (sV rfl (py_move rfl) (sV rfl (py_move rfl) (sV rfl (py_len Tryz.underlying163 rfl) (sV rfl (py_lss rfl rfl) (s_nil (W_ifd rfl (fun c1 => ?_) (fun c1 => ?_))))))))
 ·refine W_skip (W_seq (W_block ?_))
  have e3 := hR.2 k (by omega)
  have al := augTo_len (m := m) (b := b) (k := k)
  obtain ⟨eb1, eo1, ea1, ek1, ef1, ee1, ec1, eO1, eH1, em1⟩ := elem_slm (H2.seen 0 rfl) k (by omega)
  have eP1 := H2.look1 0 rfl eO1 eH1
  obtain ⟨eb2, eo2, ee2, ec2, em2⟩ := elem_u8m (eP1.seen 1 rfl) k (by omega)
  refine W_drw (S := Ext (· ∈ f) _) [(0, true), (2, true), (3, true), (4, true), (5, true), (7, true), (8, true), (9, true), (10, true), (1014, false), (1, false), (1006, false), (6, false), (11, false), (12, false), (13, false), (14, false), (15, false), (11, false), (6, false), (12, false), (13, false), (14, false), (15, false), (11, false), (1, false), (6, false), (12, false), (13, false), (14, false), (15, false)] (by kernel_rfl) (by kernel_rfl) (by kernel_rfl) rfl (fun _ => Ext.refl.drawn _) (fun q1 => ?_)
  have H3 := eP1.drawn q1
  refine dV rfl rfl (fun zw hx => py_move rfl) (dV rfl rfl (fun zw hx => py_move rfl) (dV rfl rfl (fun zw hx => py_move rfl) (dV rfl rfl (fun zw hx => py_elz Tryz.underlying163 Tryz.sizeOf61 rfl rfl ee1 k (by omega) (by omega)) (dV rfl rfl (fun zw hx => py_load Tryz.underlying61 rfl rfl (hx.cellM (H3.off 0 rfl 0 rfl em1) ec1)) (dV rfl rfl (fun zw hx => py_move rfl) (dV rfl rfl (fun zw hx => py_move rfl) (dV rfl rfl (fun zw hx => py_elz Tryz.underlying61 Tryz.sizeOf5 rfl rfl ee2 k (by omega) (by omega)) (dV rfl rfl (fun zw hx => py_load Tryz.underlying5 rfl rfl (hx.cellM (H3.off 1 rfl 0 rfl em2) ec2)) (d_fork (l1 := [(1, false), (1006, false), (6, false), (11, false), (12, false), (13, false), (14, false), (15, false), (11, false), (6, false), (12, false), (13, false), (14, false), (15, false)]) (l2 := [(11, false), (1, false), (6, false), (12, false), (13, false), (14, false), (15, false)]) rfl rfl rfl rfl ?_ ?_)))))))))
  ·refine d_S (fun hs1 => ?_) (by simp)
   refine d_lit0 (α := UInt8) rfl (wn rfl) rfl Tryz.underlying61 Tryz_ty5 H3 (fun _ h e => h.trans e.no) (fun b2 w3 e2 g2 H4 => ?_)
   refine d_fork (l1 := [(6, false), (11, false), (12, false), (13, false), (14, false), (15, false)]) (l2 := [(11, false), (6, false), (12, false), (13, false), (14, false), (15, false)]) rfl rfl rfl rfl ?_ ?_
   ·refine d_S (fun hs2 => ?_) (by simp)
    refine d_appFS rfl (wn rfl) rfl Tryz.underlying61 Tryz_ty5 rfl rfl rfl H4 1 rfl (H4.seen 2 rfl) (by (try simp only [List.length_nil]); unfold maxLen; omega) (by (try simp only [List.length_nil]); omega) (fun b hb => by simp only [List.mem_singleton] at hb; rw [hb]; exact Nat.le_trans hs1.size g2) (fun v1 w4 fp1 sb1 H5 => ?_)
    try dsimp only [List.nil_append, List.cons_append, List.set_cons_zero, List.set_cons_succ] at H5
    refine d_lit1 rfl (wn rfl) rfl Tryz.underlying61 Tryz_ty5 rfl rfl rfl rfl H5 (fun _ h e => h.trans e.no) (fun b3 w5 e3 g3 H6 => ?_)
    refine d_S (fun hs3 => ?_) (by simp)
    refine d_app1S rfl (wn rfl) rfl Tryz.underlying61 Tryz_ty5 rfl rfl rfl H6 1 2 rfl rfl own_b8 (by (try simp only [List.length_nil]); unfold maxLen; omega) (by (try simp only [List.length_nil]); omega) (fun b hb => (sb1 b hb).elim (((fun b hb => by simp only [List.mem_singleton] at hb; rw [hb]; exact Nat.le_trans hs1.size g2) : ∀ b ∈ _, _ ≤ b) b) (fun h => Nat.le_trans hs2.size h)) (fun v2 w6 fp2 sb2 H7 => ?_)
    try dsimp only [List.nil_append, List.cons_append, List.set_cons_zero, List.set_cons_succ] at H7
    obtain ⟨a1, k1, q2⟩ := own_slice (H7.mine 1 rfl)
    cases q2
    refine d_lit1 rfl (wn rfl) rfl Tryz.underlying163 Tryz_ty61 rfl rfl rfl rfl H7 (fun _ h e => h.trans e.no) (fun b4 w7 e4 g4 H8 => ?_)
    refine d_app2 rfl (wn rfl) rfl Tryz.underlying163 Tryz_ty61 rfl rfl rfl H8 0 3 1 rfl rfl rfl rfl (by unfold maxLen; omega) (by omega) (fun _ h e => h.trans e) (fun v3 w8 fp3 H9 => ?_)
    refine d_end rfl (wn rfl) rfl rfl (py_assign rfl) (d_nil (W_reg (sV rfl (py_move rfl) (sV rfl (py_add rfl rfl (in64 ⟨by omega, by omega⟩)) (sV rfl (py_assign rfl) (s_nil ?_))))))
    have hz := ((H9.ftake 2).dtake 1)
    try simp only [List.nil_append] at hz
    rw [augTo_step] at hz
    refine ⟨(k + 1, _, _), ⟨rfl, rfl, rfl, rfl, trivial⟩, ⟨hz, by omega⟩, by dsimp only; omega⟩
   ·refine d_lit1 rfl (wn rfl) rfl Tryz.underlying61 Tryz_ty5 rfl rfl rfl rfl H4 (fun _ h e => h.trans e.no) (fun b5 w9 e5 g5 H10 => ?_)
    refine d_S (fun hs4 => ?_) (by simp)
    refine d_appFS rfl (wn rfl) rfl Tryz.underlying61 Tryz_ty5 rfl rfl rfl H10 1 rfl (H10.seen 2 rfl) (by (try simp only [List.length_nil]); unfold maxLen; omega) (by (try simp only [List.length_nil]); omega) (fun b hb => by simp only [List.mem_singleton] at hb; rw [hb]; exact Nat.le_trans hs1.size g2) (fun v4 w10 fp4 sb3 H11 => ?_)
    try dsimp only [List.nil_append, List.cons_append, List.set_cons_zero, List.set_cons_succ] at H11
    refine d_S (fun hs5 => ?_) (by simp)
    refine d_app1S rfl (wn rfl) rfl Tryz.underlying61 Tryz_ty5 rfl rfl rfl H11 1 2 rfl rfl own_b8 (by (try simp only [List.length_nil]); unfold maxLen; omega) (by (try simp only [List.length_nil]); omega) (fun b hb => (sb3 b hb).elim (((fun b hb => by simp only [List.mem_singleton] at hb; rw [hb]; exact Nat.le_trans hs1.size g2) : ∀ b ∈ _, _ ≤ b) b) (fun h => Nat.le_trans hs4.size h)) (fun v5 w11 fp5 sb4 H12 => ?_)
    try dsimp only [List.nil_append, List.cons_append, List.set_cons_zero, List.set_cons_succ] at H12
    obtain ⟨a2, k2, q3⟩ := own_slice (H12.mine 1 rfl)
    cases q3
    refine d_lit1 rfl (wn rfl) rfl Tryz.underlying163 Tryz_ty61 rfl rfl rfl rfl H12 (fun _ h e => h.trans e.no) (fun b6 w12 e6 g6 H13 => ?_)
    refine d_app2 rfl (wn rfl) rfl Tryz.underlying163 Tryz_ty61 rfl rfl rfl H13 0 3 1 rfl rfl rfl rfl (by unfold maxLen; omega) (by omega) (fun _ h e => h.trans e) (fun v6 w13 fp6 H14 => ?_)
    refine d_end rfl (wn rfl) rfl rfl (py_assign rfl) (d_nil (W_reg (sV rfl (py_move rfl) (sV rfl (py_add rfl rfl (in64 ⟨by omega, by omega⟩)) (sV rfl (py_assign rfl) (s_nil ?_))))))
    have hz := ((H14.ftake 2).dtake 1)
    try simp only [List.nil_append] at hz
    rw [augTo_step] at hz
    refine ⟨(k + 1, _, _), ⟨rfl, rfl, rfl, rfl, trivial⟩, ⟨hz, by omega⟩, by dsimp only; omega⟩
  ·refine d_lit1 rfl (wn rfl) rfl Tryz.underlying61 Tryz_ty5 rfl rfl rfl rfl H3 (fun _ h e => h.trans e.no) (fun b7 w14 e7 g7 H15 => ?_)
   refine d_S (fun hs6 => ?_) (by simp)
   refine d_lit0 (α := UInt8) rfl (wn rfl) rfl Tryz.underlying61 Tryz_ty5 H15 (fun _ h e => h.trans e.no) (fun b8 w15 e8 g8 H16 => ?_)
   refine d_S (fun hs7 => ?_) (by simp)
   refine d_appFS rfl (wn rfl) rfl Tryz.underlying61 Tryz_ty5 rfl rfl rfl H16 2 rfl (H16.seen 2 rfl) (by (try simp only [List.length_nil]); unfold maxLen; omega) (by (try simp only [List.length_nil]); omega) (fun b hb => by simp only [List.mem_singleton] at hb; rw [hb]; exact Nat.le_trans hs6.size g8) (fun v7 w16 fp7 sb5 H17 => ?_)
   try dsimp only [List.nil_append, List.cons_append, List.set_cons_zero, List.set_cons_succ] at H17
   refine d_S (fun hs8 => ?_) (by simp)
   refine d_app1S rfl (wn rfl) rfl Tryz.underlying61 Tryz_ty5 rfl rfl rfl H17 2 1 rfl rfl own_b8 (by (try simp only [List.length_nil]); unfold maxLen; omega) (by (try simp only [List.length_nil]); omega) (fun b hb => (sb5 b hb).elim (((fun b hb => by simp only [List.mem_singleton] at hb; rw [hb]; exact Nat.le_trans hs6.size g8) : ∀ b ∈ _, _ ≤ b) b) (fun h => Nat.le_trans hs7.size h)) (fun v8 w17 fp8 sb6 H18 => ?_)
   try dsimp only [List.nil_append, List.cons_append, List.set_cons_zero, List.set_cons_succ] at H18
   obtain ⟨a3, k3, q4⟩ := own_slice (H18.mine 2 rfl)
   cases q4
   refine d_lit1 rfl (wn rfl) rfl Tryz.underlying163 Tryz_ty61 rfl rfl rfl rfl H18 (fun _ h e => h.trans e.no) (fun b9 w18 e9 g9 H19 => ?_)
   refine d_app2 rfl (wn rfl) rfl Tryz.underlying163 Tryz_ty61 rfl rfl rfl H19 0 3 2 rfl rfl rfl rfl (by unfold maxLen; omega) (by omega) (fun _ h e => h.trans e) (fun v9 w19 fp9 H20 => ?_)
   refine d_end rfl (wn rfl) rfl rfl (py_assign rfl) (d_nil (W_reg (sV rfl (py_move rfl) (sV rfl (py_add rfl rfl (in64 ⟨by omega, by omega⟩)) (sV rfl (py_assign rfl) (s_nil ?_))))))
   have hz := ((H20.ftake 2).dtake 1)
   try simp only [List.nil_append] at hz
   rw [augTo_step] at hz
   refine ⟨(k + 1, _, _), ⟨rfl, rfl, rfl, rfl, trivial⟩, ⟨hz, by omega⟩, by dsimp only; omega⟩
 ·refine W_exit (W_sr (sV rfl (py_move rfl) (sV rfl (py_len Tryz.underlying163 rfl) (sV rfl (py_assign rfl) (s_nil (W_seq (W_seq ?_)))))))
  obtain rfl : k = m.length := by omega
  obtain ⟨oA, oC, oq⟩ := own_slice (H2.mine 0 rfl)
  rw [augTo_len] at oq
  cases oq
  have al : (augTo m b m.length).length = m.length := augTo_len
  obtain ⟨vs, f2, g2, vl, HP⟩ := H2.parted 0 rfl
  try dsimp only [List.nil_append, List.cons_append, List.set_cons_zero, List.set_cons_succ] at HP
  rw [show augTo m b m.length = aug m b from rfl] at HP vl
  have hRa := aug_rect (b := b) hR
  have hRM := (hRa.red m.length).1
  have hM1 := hRM.1
  have vl1 : vs.length = m.length := vl.trans hRa.1
  refine W_reg (sV rfl (py_move rfl) (sV rfl (py_move rfl) (s_call (wn rfl) rfl rfl (pc_call Tryz.func298 rfl Tryz_nm298 rfl) (Tryz_spec_l1Step (HP.mine 0 rfl) (HP.nodup1 (i := 0) rfl) (HP.rowsAt 2 rfl) (fun b hb => HP.off 2 rfl 0 rfl hb) (by first | assumption | omega) (by assumption) (by omega)) (fun v10 w20 r1 => ?_))))
  obtain ⟨rfl, rm1⟩ := r1
  obtain ⟨rv1, rf1, rg1, rl1, H21⟩ := HP.rowsMut 0 rfl (by simp [blocks, mine, gone]) rm1
  try dsimp only [List.nil_append, List.cons_append, List.set_cons_zero, List.set_cons_succ] at H21
  refine sV rfl (py_move rfl) (sV rfl (py_lss rfl rfl) (s_nil (W_ifd rfl (fun c2 => ?_) (fun c2 => ?_))))
  ·refine W_sr (sV rfl (py_assign rfl) (sV rfl (py_assign rfl) (s_nil (W_ret (hQ _ _ (fin2 Tryz.results282 rfl rfl ?_))))))
   obtain ⟨e1, e2⟩ := sol_no (m := m) (b := b) (by omega)
   exact ⟨H21.ext, none, 0, (by rw [e1, e2]; rfl), (by rw [e2]; exact ⟨[], .inr (.inl ⟨rfl, rfl, rfl⟩), .nil, by simp⟩)⟩
  ·refine W_skip (W_sr (s_lit0 (α := UInt8) (wn rfl) rfl Tryz.underlying61 Tryz_ty5 H21 (fun b10 w21 e11 g10 H22 => ?_)))
   refine sV rfl (py_assign rfl) (s_nil (W_seq (W_sr (sV rfl (py_assign rfl) (s_nil (W_block (W_loop (γ := Nat × Value × List Nat) (fun (k, vo, f) => [(0, .slice mA m.length mC), (6, .slice oA m.length oC), (8, .int .i64 m.length), (9, vo), (10, .int .i64 k)]) (fun (k, vo, f) w' => Sep No w [mine [.slice oA m.length oC] rv1 rf1, mine [vo] (colTo (redM (aug m b) m.length).1 m.length k) f] _ w' ∧ k ≤ m.length) (fun (k, vo, f) => m.length - k) (0, _, _) ⟨rfl, rfl, rfl, rfl, rfl, trivial⟩ ⟨H22.sub (.cons_cons _ (.cons_cons _ List.Sublist.slnil)), by omega⟩ (fun (k, vo, f) w22 H23 => ?_))))))))
   obtain ⟨H23, hk⟩ := H23
   refine W_seq (W_sr (sV rfl (py_move rfl) (sV rfl (py_move rfl) (sV rfl (py_lss rfl rfl) (s_nil (W_ifd rfl (fun c3 => ?_) (fun c3 => ?_)))))))
   ·refine W_skip (W_seq (W_block ?_))
    have e5 := hRM.2 k (by omega)
    have ctl := colTo_len (m := (redM (aug m b) m.length).1) (c := m.length) (k := k)
    obtain ⟨eb3, eo3, ea2, ek2, ef2, ee3, ec3, eO2, eH2, em3⟩ := elem_view (H23.mine 0 rfl) (H23.rowsAt 3 rfl) (by first | omega | (simp only [List.length_set]; omega)) k (by first | omega | (simp only [List.length_set]; omega))
    have eP2 := H23.lookR 3 rfl eO2 eH2
    obtain ⟨eb4, eo4, ee4, ec4⟩ := elem_u8 (eP2.seen 4 rfl) m.length (by omega)
    refine W_reg (sV rfl (py_move rfl) (sV rfl (py_move rfl) (sV rfl (py_move rfl) (sV rfl (py_elz Tryz.underlying163 Tryz.sizeOf61 rfl rfl ee3 k (by omega) (by omega)) (sV rfl (py_load Tryz.underlying61 rfl rfl ec3) (sV rfl (py_move rfl) (sV rfl (py_elz Tryz.underlying61 Tryz.sizeOf5 rfl rfl ee4 m.length (by omega) (by omega)) (sV rfl (py_load Tryz.underlying5 rfl rfl ec4) (s_lit1 (wn rfl) rfl Tryz.underlying61 Tryz_ty5 rfl rfl rfl rfl eP2 (fun b11 w23 e12 g11 H24 => ?_))))))))))
    refine s_app1 (wn rfl) rfl Tryz.underlying61 Tryz_ty5 rfl rfl rfl H24 1 2 rfl rfl own_b8 (by unfold maxLen; omega) (by omega) (fun v11 w24 fp10 H25 => ?_)
    refine sV rfl (py_assign rfl) (s_nil (W_reg (sV rfl (py_move rfl) (sV rfl (py_add rfl rfl (in64 ⟨by omega, by omega⟩)) (sV rfl (py_assign rfl) (s_nil ?_))))))
    have hz := H25.ftake 4 |>.sub (.cons_cons _ (.cons_cons _ (.cons _ List.Sublist.slnil)))
    rw [colTo_step] at hz
    refine ⟨(k + 1, _, _), ⟨rfl, rfl, rfl, rfl, rfl, trivial⟩, ⟨hz, by omega⟩, by dsimp only; omega⟩
   ·refine W_exit (W_sr (sV rfl (py_move rfl) (sV rfl (py_assign rfl) (sV rfl (py_assign rfl) (s_nil (W_ret (hQ _ _ (fin2 Tryz.results282 rfl rfl ?_))))))))
    obtain rfl : k = m.length := by omega
    obtain ⟨e1, e2⟩ := sol_yes (m := m) (b := b) (by omega)
    obtain ⟨qa, qc, qq⟩ := own_slice (H23.mine 1 rfl)
    cases qq
    exact ⟨H23.ext, qa, qc, (by rw [e1, e2]), (by rw [e2]; exact H23.out 1 rfl)⟩
end Go.Wk
namespace Go.Wk
theorem getD_app_l {α : Type} {a b : List α} {d : α} {i : Nat} (h : i < a.length) : (a ++ b).getD i d = a.getD i d := by simp [List.getD, List.getElem?_append_left h]
theorem getD_app_r {α : Type} {a b : List α} {d : α} {i : Nat} (h : a.length ≤ i) : (a ++ b).getD i d = b.getD (i - a.length) d := by simp [List.getD, List.getElem?_append_right h]
theorem getD_el {α : Type} {l : List α} {d : α} {i : Nat} (h : i < l.length) : l.getD i d = l[i] := by simp [List.getD, h]
section
variable {P : Program} {n : Nat} {L : Env} {w : World} {d : Option Tmp} {ty : TypeId} {p : String} {af : Array Edge} {g : Option (Nat × Bool)}
theorem run_app0 {t u e : TypeId} {z : Value} {size bytes : Nat} {a : Option Addr} {m c : Nat} (ht : P.underlying t = some (.slice e)) (hu : P.underlying u = some (.int .i64)) (hT : Ty P e z size bytes) (hc : m ≤ c) :
    (Builtin.append_ #[t, u] ty #[.slice a m c, .int .i64 0]).run P w = .ok (.slice a m c) w := by
  obtain ⟨i, hi1, hi2, hi3, hi4⟩ := hT.parts
  have hw : IntKind.i64.wrap 0 = 0 := in64 ⟨by omega, by omega⟩
  have hb : ¬ (281474976710656 < (0 : Int) * (bytes : Int)) := by omega
  cases a <;> simp [Builtin.append_, run_underlying ht, run_underlying hu, sizeOf, typeInfo, hi1, hi2, hi3, hi4, hw, asInt, asIntOf, hc, storeCells]
theorem py_app0 {t u e : TypeId} {x y : Operand} {z : Value} {size bytes : Nat} {a : Option Addr} {m c : Nat} {k : Int} (ht : P.underlying t = some (.slice e)) (hu : P.underlying u = some (.int .i64)) (hT : Ty P e z size bytes)
    (hx : evL L x = some (.slice a m c)) (hy : evL L y = some (.int .i64 k)) (hk : k = 0) (hc : m ≤ c) : Py P n L w ⟨d, .call ⟨.builtin .append, #[x, y], #[t, u]⟩, ty, p, af, g⟩ (.slice a m c) := fun A hA => by
  subst hk
  have h := run_app0 (P := P) (w := w) (ty := ty) (a := a) ht hu hT hc
  simp [execOp, resolve, invoke, builtin, hA.eval hx, hA.eval hy, h]
end
section
variable {z : Wld} {g : Int} {k : Nat}
def liveTo (z : Wld) (g : Int) : Nat → List Int
  | 0 => []
  | k + 1 => if (k : Int) ≠ g ∧ deadF z k = false ∧ ((liveTo z g k).length : Int) < z.Shape.Groups then liveTo z g k ++ [(k : Int)] else liveTo z g k
theorem liveTo_yes (h : (k : Int) ≠ g ∧ deadF z k = false ∧ ((liveTo z g k).length : Int) < z.Shape.Groups) : liveTo z g (k + 1) = liveTo z g k ++ [(k : Int)] := by rw [liveTo, if_pos h]
theorem liveTo_no (h : ¬ ((k : Int) ≠ g ∧ deadF z k = false ∧ ((liveTo z g k).length : Int) < z.Shape.Groups)) : liveTo z g (k + 1) = liveTo z g k := by rw [liveTo, if_neg h]
theorem liveTo_len : ∀ k, (liveTo z g k).length ≤ k
  | 0 => by simp [liveTo]
  | k + 1 => by
    have := liveTo_len k
    rw [liveTo]
    split
    · simp; omega
    · omega
theorem liveTo_in : ∀ k x, x ∈ liveTo z g k → 0 ≤ x ∧ x < k ∧ x ≠ g
  | 0, x, h => by simp [liveTo] at h
  | k + 1, x, h => by
    have hi := liveTo_in k x
    rw [liveTo] at h
    split at h
    · next hc =>
      rcases List.mem_append.1 h with h | h
      · have := hi h; omega
      · have e := List.mem_singleton.1 h; subst e; omega
    · have := hi h; omega
theorem liveTo_cap (hz : 0 ≤ z.Shape.Groups) : ∀ k, ((liveTo z g k).length : Int) ≤ z.Shape.Groups
  | 0 => by simpa [liveTo] using hz
  | k + 1 => by
    have := liveTo_cap hz k
    rw [liveTo]
    split
    · next h => simp; omega
    · exact this
theorem liveTo_ge : ∀ k i, i < (liveTo z g k).length → 0 ≤ (liveTo z g k).getD i 0 ∧ (liveTo z g k).getD i 0 < k := by
  intro k i hi
  have hm : (liveTo z g k).getD i 0 ∈ liveTo z g k := by rw [getD_el hi]; exact List.getElem_mem hi
  have := liveTo_in k _ hm
  omega
theorem liveTo_rise : ∀ k i j, i < j → j < (liveTo z g k).length → (liveTo z g k).getD i 0 < (liveTo z g k).getD j 0
  | 0, i, j, _, hj => by simp [liveTo] at hj
  | k + 1, i, j, hij, hj => by
    have ih := liveTo_rise k i j hij
    by_cases hc : (k : Int) ≠ g ∧ deadF z k = false ∧ ((liveTo z g k).length : Int) < z.Shape.Groups
    · rw [liveTo_yes hc] at hj ⊢
      simp only [List.length_append, List.length_cons, List.length_nil] at hj
      have gi := liveTo_ge (z := z) (g := g) k i (by omega)
      rw [getD_app_l (by omega)]
      by_cases e : j < (liveTo z g k).length
      · rw [getD_app_l e]; exact ih e
      · rw [getD_app_r (by omega), show j - (liveTo z g k).length = 0 by omega]
        simpa using gi.2
    · rw [liveTo_no hc] at hj ⊢; exact ih hj
def putAt (hs : List Int) (ws : List UInt8) (N : Nat) : Nat → List UInt8
  | 0 => List.replicate N 0
  | k + 1 => (putAt hs ws N k).set (hs.getD k 0).toNat (ws.getD k 0)
section
variable {hs : List Int} {ws : List UInt8} {N : Nat}
theorem putAt_zero : putAt hs ws N 0 = List.replicate N 0 := rfl
theorem putAt_len : ∀ {k}, (putAt hs ws N k).length = N
  | 0 => by simp [putAt]
  | k + 1 => by rw [putAt, List.length_set]; exact putAt_len
theorem putAt_out {j : Nat} : ∀ k, (∀ i, i < k → (hs.getD i 0).toNat ≠ j) → (putAt hs ws N k).getD j 0 = 0
  | 0, _ => by
    rw [putAt, List.getD_eq_getElem?_getD, List.getElem?_replicate]
    split <;> rfl
  | k + 1, h => by
    have ih := putAt_out k fun i hi => h i (by omega)
    have hk := h k (by omega)
    rw [putAt, List.getD_eq_getElem?_getD, List.getElem?_set_ne hk, ← List.getD_eq_getElem?_getD]
    exact ih
theorem set_same {l : List UInt8} {j : Nat} {x : UInt8} (h : l.getD j 0 = x) : l.set j x = l := by
  refine List.ext_getElem (by simp) fun i h1 h2 => ?_
  rw [List.getElem_set]
  split
  · next e => subst e; rw [← h, getD_el h2]
  · rfl
theorem putAt_pad (hr : ∀ i j, i < j → j < hs.length → hs.getD i 0 < hs.getD j 0) (h0 : ∀ i, i < hs.length → 0 ≤ hs.getD i 0) : ∀ {k}, ws.length ≤ k → k ≤ hs.length → putAt hs ws N k = putAt hs ws N ws.length
  | 0, h1, _ => by rw [show ws.length = 0 by omega]
  | k + 1, h1, h2 => by
    by_cases e : ws.length = k + 1
    · rw [e]
    · rw [← putAt_pad hr h0 (k := k) (by omega) (by omega), putAt, show ws.getD k 0 = 0 from by rw [List.getD_eq_getElem?_getD, List.getElem?_eq_none (by omega)]; rfl]
      refine set_same (putAt_out k fun i hi => ?_)
      have a := hr i k hi (by omega)
      have b := h0 i (by omega)
      omega
end
def padL (ws : List UInt8) (m : Nat) : List UInt8 := fillG (fun i => ws.getD i 0) m ws.length
theorem padL_len {ws : List UInt8} {m : Nat} (h : ws.length ≤ m) : (padL ws m).length = m := fillG_len h
theorem padL_get {ws : List UInt8} {m i : Nat} : (padL ws m).getD i 0 = ws.getD i 0 := by
  unfold padL fillG
  by_cases h : i < ws.length
  · rw [getD_app_l (by simpa using h)]
    simp [List.getD_eq_getElem?_getD, h]
  · rw [getD_app_r (by simp; omega), List.getD_eq_getElem?_getD, List.getD_eq_getElem?_getD, List.getElem?_replicate, List.getElem?_eq_none (by omega : ws.length ≤ i)]
    split <;> rfl
def liveG (z : Wld) (g : Int) : List Int := liveTo z g (z.Shape.Groups + z.Shape.Column).toNat
def byG (z : Wld) (g : Int) : List UInt8 := betw z.Shape.Groups.toNat (liveG z g) g 8
def sharG (z : Wld) (g : Int) : List UInt8 := putAt (liveG z g) (byG z g) (z.Shape.Groups + z.Shape.Column).toNat (byG z g).length
def sharersOf (z : Wld) (g : Int) : BytesResult :=
  if askF z g 0 = 0 then if ((liveG z g).length : Int) = z.Shape.Groups then ⟨0, sharG z g⟩ else ⟨10, []⟩ else ⟨askF z g 0, []⟩
def shrOk (z : Wld) (g : Int) : Bool := decide (((liveG z g).length : Int) = z.Shape.Groups)
def shrL (z : Wld) (g : Int) : List UInt8 := if shrOk z g = true then sharG z g else []
theorem shr_no (h : ¬ ((liveG z g).length : Int) = z.Shape.Groups) : shrOk z g = false ∧ shrL z g = [] := by
  have e : shrOk z g = false := decide_eq_false h
  exact ⟨e, if_neg (by simp [e])⟩
theorem shr_yes (h : ((liveG z g).length : Int) = z.Shape.Groups) : shrOk z g = true ∧ shrL z g = sharG z g := by
  have e : shrOk z g = true := decide_eq_true h
  exact ⟨e, if_pos e⟩
theorem sharers_ask (h : askF z g 0 ≠ 0) : sharersOf z g = ⟨askF z g 0, []⟩ := by rw [sharersOf, if_neg h]
theorem sharers_lost (h : askF z g 0 = 0) (h2 : shrOk z g = false) : sharersOf z g = ⟨10, []⟩ := by rw [sharersOf, if_pos h, if_neg (by simpa [shrOk] using h2)]
theorem sharers_yes (h : askF z g 0 = 0) (h2 : shrOk z g = true) : sharersOf z g = ⟨0, shrL z g⟩ := by rw [sharersOf, if_pos h, if_pos (by simpa [shrOk] using h2), shrL, if_pos h2]
theorem sharG_pad (h : ((liveG z g).length : Int) = z.Shape.Groups) : putAt (liveG z g) (byG z g) (z.Shape.Groups + z.Shape.Column).toNat (liveG z g).length = sharG z g :=
  putAt_pad (liveTo_rise _) (fun i hi => (liveTo_ge _ i hi).1) (by have := betw_len (n := z.Shape.Groups.toNat) (h := liveG z g) (x := g) (b := 8); unfold byG; omega) (Nat.le_refl _)
theorem sharersOf_len : (sharersOf z g).Bytes.length ≤ 10 := by
  unfold sharersOf
  split
  · next h =>
    have := shape_bd (askF_ok h).2.1
    have e : (sharG z g).length = (z.Shape.Groups + z.Shape.Column).toNat := putAt_len
    split
    · simp only; omega
    · simp
  · simp
theorem sharersOf_Ok : (sharersOf z g).Ok := by
  have := askF_cd (z := z) (g := g) (row := 0)
  unfold sharersOf BytesResult.Ok I64ok
  repeat' split
  all_goals (simp only; omega)
end
end Go.Wk
