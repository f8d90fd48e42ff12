/-
  Laws on walking, and the functions walked, each once: what this claim comes to.
-/
import Derived.Test.YtceeelcijjkefaaGreatZa2
set_option linter.unusedVariables false
set_option linter.unusedSimpArgs false
namespace Go.Wk
open Go.Proofs Rp
set_option maxRecDepth 10000
set_option maxHeartbeats 1000000 in
theorem Tryz_spec_l5Built {w : World} {z : Wld} {zA9 : Option Addr} {zC9 : Nat} {zA10 : Option Addr} {zC10 : Nat} {zA11 : Option Addr} {zC11 : Nat} (zK : z.Ok) (zS9 : Sees w [.slice zA9 z.Groups.length zC9] z.Groups) (zS10 : Sees w [.slice zA10 z.On.length zC10] z.On) (zS11 : Sees w [.slice zA11 z.Tapes.length zC11] z.Tapes) (hs : z.Shape.ok = true) : Ret Tryz.prog 147 #[z.val zA9 zC9 zA10 zC10 zA11 zC11] w fun v w' => Ext No w w' ∧ (v = .bool (groupsOK z)) := by
 have zK2 := zK
 unfold Wld.Ok Shape.Ok at zK2
 try unfold I64ok at zK2
 try unfold maxLen at zK2
 have zL9 := sees_len zS9
 unfold maxLen at zL9
 obtain ⟨zF9, zO9⟩ := zS9
 have zL10 := sees_len zS10
 unfold maxLen at zL10
 obtain ⟨zF10, zO10⟩ := zS10
 have zL11 := sees_len zS11
 unfold maxLen at zL11
 obtain ⟨zF11, zO11⟩ := zS11
 have sbd := shape_bd hs
 refine ret_Q (vs := [z.val zA9 zC9 zA10 zC10 zA11 zC11]) Tryz.func147 rfl Tryz.ntmps147 rfl (fun Q hQ hN => ?_)
 have H0 := Sep.start (w := w) (F := [seen false [.slice zA9 z.Groups.length zC9] z.Groups zF9, seen false [.slice zA10 z.On.length zC10] z.On zF10, seen false [.slice zA11 z.Tapes.length zC11] z.Tapes zF11]) (all_cons zO9 (all_cons zO10 (all_cons zO11 (by simp))))
 refine W_sr (s_box (wn rfl) rfl rfl H0 (fun b1 w1 e1 g1 H1 => ?_))
 refine sV rfl (py_assign rfl) (s_nil (W_sr (sV rfl (py_field Tryz.underlying37 rfl Tryz.sizeOf33 rfl rfl) (sV rfl (py_loadS Tryz.underlying33 rfl Tryz.sizeOf33 rfl rfl (At.sub (H1.box 0 rfl) 9)) (s_var (wn rfl) rfl Tryz.zeroValue33 H1 (fun b2 w2 e2 g2 H2 => ?_))))))
 refine s_stoS (wn rfl) Tryz.sizeOf33 rfl rfl rfl rfl H2 1 rfl rfl (fun w3 e3 H3 => ?_)
 dsimp only [List.nil_append, List.cons_append, List.set_cons_zero, List.set_cons_succ, layL] at H3
 refine s_nil (W_seq (W_seq (W_drw (S := Ext No _) [(0, true), (1, true), (2, true), (3, true), (4, false), (5, false)] (by kernel_rfl) (by kernel_rfl) (by kernel_rfl) rfl (fun _ => Ext.refl.drawn _) (fun q1 => ?_))))
 have H4 := H3.drawn q1
 refine dV rfl rfl (fun zw hx => py_field Tryz.underlying37 rfl Tryz.sizeOf34 rfl rfl) (dV rfl rfl (fun zw hx => py_load Tryz.underlying34 rfl rfl (cell_atL (hx.heap (H4.box 0 rfl)) rfl)) (dV rfl rfl (fun zw hx => py_len Tryz.underlying34 rfl) (dV rfl rfl (fun zw hx => py_loadS Tryz.underlying33 rfl Tryz.sizeOf33 rfl rfl (At.whole (hx.heap (H4.box 1 rfl)))) (d_call rfl (wn rfl) rfl rfl (pc_call Tryz.func83 rfl Tryz_nm83 rfl) (Tryz_spec_l5All (by assumption)) (fun hS _ _ r _ => hS.trans r.1.no) (fun v1 w4 r1 => ?_)))))
 obtain ⟨e4, rfl⟩ := r1
 have H5 := H4.to e4
 refine d_end rfl (wn rfl) rfl rfl (py_neq rfl rfl) (d_nil (W_ifd rfl (fun c1 => ?_) (fun c1 => ?_)))
 ·refine W_sr (sV rfl (py_assign rfl) (s_nil (W_ret (hQ _ _ (fin1 Tryz.results147 rfl ?_)))))
  exact ⟨H5.ext, congrArg Value.bool (groupsOK_len (by omega)).symm⟩
 ·refine W_skip (W_seq (W_sr (sV rfl (py_assign rfl) (s_nil (W_block (W_loopS (γ := Nat) H5 [(1, _), (3, _)] ⟨rfl, rfl, trivial⟩ (fun k => [(4, .int .i64 k)]) (fun k => k ≤ z.Groups.length ∧ (∀ i, i < k → groupOK z.Shape (z.Groups.getD i []) = true)) (fun k => z.Groups.length - k) 0 ⟨rfl, trivial⟩ ⟨by omega, fun i hi => by omega⟩ (fun k w5 H6 ⟨hk, he⟩ => ?_)))))))
  dsimp only [List.cons_append, List.nil_append]
  refine W_seq (W_sr (sV rfl (py_move rfl) (sV rfl (py_field Tryz.underlying37 rfl Tryz.sizeOf34 rfl rfl) (sV rfl (py_load Tryz.underlying34 rfl rfl (cell_atL (H6.box 0 rfl) rfl)) (sV rfl (py_len Tryz.underlying34 rfl) (sV rfl (py_lss rfl rfl) (s_nil (W_ifd rfl (fun c2 => ?_) (fun c2 => ?_)))))))))
  ·refine W_skip (W_seq (W_block (W_seq (W_seq ?_))))
   obtain ⟨eb1, eo1, ea1, ek1, ef1, ee1, ec1, eO1, eH1⟩ := elem_sl (H6.seen 0 rfl) k (by omega)
   have eP1 := H6.look1 0 rfl eO1 eH1
   refine W_drw (S := Ext No _) [(0, true), (1, true), (2, true), (3, true), (4, true), (5, true), (6, true), (7, false), (8, false)] (by kernel_rfl) (by kernel_rfl) (by kernel_rfl) rfl (fun _ => Ext.refl.drawn _) (fun q2 => ?_)
   have H7 := eP1.drawn q2
   refine dV rfl rfl (fun zw hx => py_field Tryz.underlying37 rfl Tryz.sizeOf34 rfl rfl) (dV rfl rfl (fun zw hx => py_load Tryz.underlying34 rfl rfl (cell_atL (hx.heap (H7.box 0 rfl)) rfl)) (dV rfl rfl (fun zw hx => py_move rfl) (dV rfl rfl (fun zw hx => py_elz Tryz.underlying34 Tryz.sizeOf147 rfl rfl ee1 k (by omega) (by omega)) (dV rfl rfl (fun zw hx => py_load Tryz.underlying147 rfl rfl (hx.cell ec1)) (dV rfl rfl (fun zw hx => py_len Tryz.underlying147 rfl) (dV rfl rfl (fun zw hx => py_loadS Tryz.underlying33 rfl Tryz.sizeOf33 rfl rfl (At.whole (hx.heap (H7.box 1 rfl)))) (d_call rfl (wn rfl) rfl rfl (pc_call Tryz.func157 rfl Tryz_nm157 rfl) (Tryz_spec_l5Drives (by assumption)) (fun hS _ _ r _ => hS.trans r.1.no) (fun v2 w6 r2 => ?_))))))))
   obtain ⟨e5, rfl⟩ := r2
   have H8 := H7.to e5
   refine d_end rfl (wn rfl) rfl rfl (py_neq rfl rfl) (d_nil (W_ifd rfl (fun c3 => ?_) (fun c3 => ?_)))
   ·refine W_sr (sV rfl (py_assign rfl) (s_nil (W_ret (hQ _ _ (fin1 Tryz.results147 rfl ?_)))))
    exact ⟨H8.ext, congrArg Value.bool (groupsOK_at k (by omega) (groupOK_len (by omega))).symm⟩
   ·refine W_skip (W_sr (sV rfl (py_assign rfl) (s_nil (W_block (W_loopS (γ := Nat) H8 [(1, _), (3, _), (4, _)] ⟨rfl, rfl, rfl, trivial⟩ (fun k2 => [(5, .int .i64 k2)]) (fun k2 => k2 ≤ (z.Groups.getD k []).length ∧ (∀ i, i < k2 → driveOK z.Shape ((z.Groups.getD k []).getD i default) = true)) (fun k2 => (z.Groups.getD k []).length - k2) 0 ⟨rfl, trivial⟩ ⟨by omega, fun i hi => by omega⟩ (fun k2 w7 H9 ⟨hk2, hek2⟩ => ?_))))))
    dsimp only [List.cons_append, List.nil_append]
    refine W_seq (W_seq ?_)
    obtain ⟨eb2, eo2, ea2, ek2, ef2, ee2, ec2, eO2, eH2⟩ := elem_sl (H9.seen 0 rfl) k (by omega)
    have eP2 := H9.look1 0 rfl eO2 eH2
    refine W_reg (sV rfl (py_move rfl) (sV rfl (py_field Tryz.underlying37 rfl Tryz.sizeOf34 rfl rfl) (sV rfl (py_load Tryz.underlying34 rfl rfl (cell_atL (eP2.box 0 rfl) rfl)) (sV rfl (py_move rfl) (sV rfl (py_elz Tryz.underlying34 Tryz.sizeOf147 rfl rfl ee2 k (by omega) (by omega)) (sV rfl (py_load Tryz.underlying147 rfl rfl ec2) (sV rfl (py_len Tryz.underlying147 rfl) (sV rfl (py_lss rfl rfl) (s_nil (W_ifd rfl (fun c4 => ?_) (fun c4 => ?_)))))))))))
    ·refine W_skip (W_seq (W_block (W_seq ?_)))
     obtain ⟨eb3, eo3, ea3, ek3, ef3, ee3, ec3, eO3, eH3⟩ := elem_sl (eP2.seen 0 rfl) k (by omega)
     have eP3 := eP2.look1 0 rfl eO3 eH3
     obtain ⟨eb4, eo4, es1, ef4, ee4, ec4, eO4, eH4, em1⟩ := elem_st (eP3.seen 5 rfl) k2 (by omega)
     obtain ⟨ea4, ek4, eg1, rfl, eq1, eK1, eo5⟩ := own_Drive eO4
     have eP4 := eP3.look1 5 rfl eo5 (fun b hb => eH4 b (by rw [eq1]; simp [hb]))
     have eL1 := own_len_le eo5
     unfold maxLen at eL1
     refine W_reg (sV rfl (py_field Tryz.underlying37 rfl Tryz.sizeOf34 rfl rfl) (sV rfl (py_load Tryz.underlying34 rfl rfl (cell_atL (eP4.box 0 rfl) rfl)) (sV rfl (py_move rfl) (sV rfl (py_elz Tryz.underlying34 Tryz.sizeOf147 rfl rfl ee3 k (by omega) (by omega)) (sV rfl (py_load Tryz.underlying147 rfl rfl ec3) (sV rfl (py_move rfl) (sV rfl (py_elz Tryz.underlying147 Tryz.sizeOf150 rfl rfl ee4 k2 (by omega) (by omega)) (sV rfl (py_field Tryz.underlying150 rfl Tryz.sizeOf148 rfl rfl) (sV rfl (py_load Tryz.underlying148 rfl rfl (at_cell ec4 1 rfl)) (sV rfl (py_assign rfl) (s_nil (W_seq (W_sr (sV rfl (py_move rfl) (sV rfl (py_len Tryz.underlying148 rfl) (sV rfl (py_field Tryz.underlying33 rfl Tryz.sizeOf2 rfl rfl) (sV rfl (py_load Tryz.underlying2 rfl rfl (cell_atL (eP4.box 1 rfl) rfl)) (sV rfl (py_neq rfl rfl) (s_nil (W_ifd rfl (fun c5 => ?_) (fun c5 => ?_)))))))))))))))))))))
     ·refine W_sr (sV rfl (py_assign rfl) (s_nil (W_ret (hQ _ _ (fin1 Tryz.results147 rfl ?_)))))
      exact ⟨eP4.ext, congrArg Value.bool (groupsOK_at k (by omega) (groupOK_at k2 (by omega) (driveOK_len (by omega)))).symm⟩
     ·refine W_skip (W_sr (sV rfl (py_assign rfl) (s_nil (W_block (W_loopS (γ := Nat) eP4 [(1, _), (3, _), (4, _), (5, _), (6, _)] ⟨rfl, rfl, rfl, rfl, rfl, trivial⟩ (fun k3 => [(7, .int .i64 k3)]) (fun k3 => k3 ≤ ((z.Groups.getD k []).getD k2 default).Blocks.length ∧ (∀ i, i < k3 → blockOK (((z.Groups.getD k []).getD k2 default).Blocks.getD i default) = true)) (fun k3 => ((z.Groups.getD k []).getD k2 default).Blocks.length - k3) 0 ⟨rfl, trivial⟩ ⟨by omega, fun i hi => by omega⟩ (fun k3 w8 H10 ⟨hk3, hek3⟩ => ?_))))))
      dsimp only [List.cons_append, List.nil_append]
      refine W_seq (W_sr (sV rfl (py_move rfl) (sV rfl (py_move rfl) (sV rfl (py_len Tryz.underlying148 rfl) (sV rfl (py_lss rfl rfl) (s_nil (W_ifd rfl (fun c6 => ?_) (fun c6 => ?_))))))))
      ·refine W_skip (W_seq (W_block (W_seq ?_)))
       obtain ⟨eb5, eo6, es2, ef5, ee5, ec5, eO5, eH5, em2⟩ := elem_st (H10.seen 6 rfl) k3 (by omega)
       obtain ⟨ea5, ek5, eg2, rfl, eq2, eK2, eo7⟩ := own_Block eO5
       have eK2U := eK2
       unfold Block.Ok at eK2U
       try unfold I64ok at eK2U
       try unfold maxLen at eK2U
       have eP5 := H10.look1 6 rfl eo7 (fun b hb => eH5 b (by rw [eq2]; simp [hb]))
       have eL2 := own_len_le eo7
       unfold maxLen at eL2
       refine W_reg (sV rfl (py_move rfl) (sV rfl (py_move rfl) (sV rfl (py_elz Tryz.underlying148 Tryz.sizeOf152 rfl rfl ee5 k3 (by omega) (by omega)) (sV rfl (py_field Tryz.underlying152 rfl Tryz.sizeOf2 rfl rfl) (sV rfl (py_load Tryz.underlying2 rfl rfl (at_cell ec5 0 rfl)) (s_call (wn rfl) rfl rfl (pc_call Tryz.func149 rfl Tryz_nm149 rfl) Tryz_spec_l1In (fun v3 w9 r3 => ?_)))))))
       obtain ⟨e6, rfl⟩ := r3
       have H11 := eP5.to e6
       refine sV rfl (py_not rfl) (sV rfl (py_move rfl) (s_grp 7 (j := 7) (want := false) (t := 76) rfl rfl rfl rfl (fun hg1 kk1 => s_val (wgE rfl rfl rfl hg1) rfl rfl (py_move rfl) (s_val (wgE rfl rfl rfl hg1) rfl rfl (py_move rfl) (s_val (wgE rfl rfl rfl hg1) rfl rfl (py_elz Tryz.underlying148 Tryz.sizeOf152 rfl rfl ee5 k3 (by first | omega | (simp only [Bool.or_eq_false_iff, Bool.and_eq_true, Bool.and_eq_false_iff, Bool.or_eq_true, Bool.not_eq_true', Bool.not_eq_false', decide_eq_true_eq, decide_eq_false_iff_not] at hg1; omega)) (by omega)) (s_val (wgE rfl rfl rfl hg1) rfl rfl (py_field Tryz.underlying152 rfl Tryz.sizeOf61 rfl rfl) (s_val (wgE rfl rfl rfl hg1) rfl rfl (py_load Tryz.underlying61 rfl rfl (at_cell (e6.at ec5) 1 rfl)) (s_val (wgE rfl rfl rfl hg1) rfl rfl (py_len Tryz.underlying61 rfl) (s_val (wgE rfl rfl rfl hg1) rfl rfl (py_neq rfl rfl) (kk1 _ _ (kx rfl (kx rfl (kx rfl (kx rfl (kx rfl (kx rfl (kx rfl k0))))))) rfl Ext.refl)))))))) (fun w10 e7 => ?_)))
       have H12 := H11.to e7
       refine sV rfl (py_bor rfl rfl) (s_nil (W_if rfl (fun c7 => ?_) (fun c7 => ?_)))
       ·refine W_sr (sV rfl (py_assign rfl) (s_nil (W_ret (hQ _ _ (fin1 Tryz.results147 rfl ?_)))))
        exact ⟨H12.ext, congrArg Value.bool (groupsOK_at k (by omega) (groupOK_at k2 (by omega) (driveOK_at k3 (by omega) (blockOK_no c7)))).symm⟩
       ·refine W_skip (W_reg (sV rfl (py_move rfl) (sV rfl (py_add rfl rfl (in64 ⟨by omega, by omega⟩)) (sV rfl (py_assign rfl) (s_nil (⟨k3 + 1, ⟨rfl, rfl, rfl, rfl, rfl, rfl, trivial⟩, ⟨(H12.ftake 7), by omega, fun i hi => ?_⟩, by dsimp only; omega⟩))))))
        by_cases e : i = k3
        ·subst e
         exact blockOK_yes (by assumption)
        ·exact hek3 i (by omega)
      ·refine W_exit (W_reg (sV rfl (py_move rfl) (sV rfl (py_add rfl rfl (in64 ⟨by omega, by omega⟩)) (sV rfl (py_assign rfl) (s_nil (⟨k2 + 1, ⟨rfl, rfl, rfl, rfl, trivial⟩, ⟨(H10.ftake 4), by omega, fun i hi => ?_⟩, by dsimp only; omega⟩))))))
       by_cases e : i = k2
       ·subst e
        exact driveOK_all (by omega) (fun i hi => hek3 i (by omega))
       ·exact hek2 i (by omega)
    ·refine W_exit (W_reg (sV rfl (py_move rfl) (sV rfl (py_add rfl rfl (in64 ⟨by omega, by omega⟩)) (sV rfl (py_assign rfl) (s_nil (⟨k + 1, ⟨rfl, rfl, rfl, trivial⟩, ⟨(eP2.ftake 3), by omega, fun i hi => ?_⟩, by dsimp only; omega⟩))))))
     by_cases e : i = k
     ·subst e
      exact groupOK_yes (by omega) (fun i hi => hek2 i (by omega))
     ·exact he i (by omega)
  ·refine W_exit (W_sr (sV rfl (py_assign rfl) (s_nil (W_ret (hQ _ _ (fin1 Tryz.results147 rfl ?_))))))
   exact ⟨H6.ext, congrArg Value.bool (groupsOK_yes (by omega) (fun i hi => he i (by omega))).symm⟩
theorem Tryz_impl_WorldFault {w : World} {z : Wld} {zA9 : Option Addr} {zC9 : Nat} {zA10 : Option Addr} {zC10 : Nat} {zA11 : Option Addr} {zC11 : Nat} (zK : z.Ok) (zS9 : Sees w [.slice zA9 z.Groups.length zC9] z.Groups) (zS10 : Sees w [.slice zA10 z.On.length zC10] z.On) (zS11 : Sees w [.slice zA11 z.Tapes.length zC11] z.Tapes) : Ret Tryz.prog 85 #[z.val zA9 zC9 zA10 zC10 zA11 zC11] w fun v w' => Ext No w w' ∧ (v = .int .i64 (worldF z)) := by
 have zK2 := zK
 unfold Wld.Ok Shape.Ok at zK2
 try unfold I64ok at zK2
 try unfold maxLen at zK2
 have zL9 := sees_len zS9
 unfold maxLen at zL9
 obtain ⟨zF9, zO9⟩ := zS9
 have zL10 := sees_len zS10
 unfold maxLen at zL10
 obtain ⟨zF10, zO10⟩ := zS10
 have zL11 := sees_len zS11
 unfold maxLen at zL11
 obtain ⟨zF11, zO11⟩ := zS11
 refine ret_Q (vs := [z.val zA9 zC9 zA10 zC10 zA11 zC11]) Tryz.func85 rfl Tryz.ntmps85 rfl (fun Q hQ hN => ?_)
 have H0 := Sep.start (w := w) (F := [seen false [.slice zA9 z.Groups.length zC9] z.Groups zF9, seen false [.slice zA10 z.On.length zC10] z.On zF10, seen false [.slice zA11 z.Tapes.length zC11] z.Tapes zF11]) (all_cons zO9 (all_cons zO10 (all_cons zO11 (by simp))))
 refine W_sr (s_box (wn rfl) rfl rfl H0 (fun b1 w1 e1 g1 H1 => ?_))
 refine sV rfl (py_assign rfl) (s_nil (W_seq (W_sr (sV rfl (py_field Tryz.underlying37 rfl Tryz.sizeOf33 rfl rfl) (sV rfl (py_loadS Tryz.underlying33 rfl Tryz.sizeOf33 rfl rfl (At.sub (H1.box 0 rfl) 9)) (s_call (wn rfl) rfl rfl (pc_call Tryz.func150 rfl Tryz_nm150 rfl) Tryz_impl_ShapeFault (fun v1 w2 r1 => ?_)))))))
 obtain ⟨e2, rfl⟩ := r1
 have H2 := H1.to e2
 refine sV rfl (py_assign rfl) (s_nil (W_sr (sV rfl (py_move rfl) (sV rfl (py_neq rfl rfl) (s_nil (W_ifd rfl (fun c1 => ?_) (fun c1 => ?_)))))))
 ·refine W_sr (sV rfl (py_move rfl) (sV rfl (py_assign rfl) (s_nil (W_ret (hQ _ _ (fin1 Tryz.results85 rfl ?_))))))
  exact ⟨H2.ext, congrArg (Value.int .i64) (if_pos (by omega)).symm⟩
 ·refine W_skip (W_seq (W_seq ?_))
  have hs := shapeFault_ok (s := z.Shape) (by omega)
  refine W_reg (sV rfl (py_loadS Tryz.underlying37 rfl Tryz.sizeOf37 rfl rfl (At.whole (H2.box 0 rfl))) (s_call (wn rfl) rfl rfl (pc_call Tryz.func151 rfl Tryz_nm151 rfl) (Tryz_impl_groupsOK (by assumption) (H2.sees 0 rfl) (H2.sees 1 rfl) (H2.sees 2 rfl) (by assumption)) (fun v2 w3 r2 => ?_)))
  obtain ⟨e3, rfl⟩ := r2
  have H3 := H2.to e3
  refine sV rfl (py_not rfl) (sV rfl (py_move rfl) (s_case (t := 14) rfl (fun hg1 => ?_) (fun hg1 => ?_)))
  ·try simp only [decide_eq_true_eq, decide_eq_false_iff_not] at hg1
   refine s_skip (wog (b := true) rfl rfl rfl) rfl rfl (s_skip (wog (b := true) rfl rfl rfl) rfl rfl (s_skip (wog (b := true) rfl rfl rfl) rfl rfl (sV rfl (py_pickT rfl rfl) (sV rfl (py_move rfl) (s_skip (wog (b := true) rfl rfl rfl) rfl rfl (s_skip (wog (b := true) rfl rfl rfl) rfl rfl (s_skip (wog (b := true) rfl rfl rfl) rfl rfl (s_skip (wog (b := true) rfl rfl rfl) rfl rfl (sV rfl (py_pickT rfl rfl) (s_nil (W_ift rfl (W_sr (sV rfl (py_assign rfl) (s_nil (W_ret (hQ _ _ (fin1 Tryz.results85 rfl ?_)))))))))))))))))
   exact ⟨H3.ext, congrArg (Value.int .i64) ((if_neg (by omega)).trans (if_neg (by simp_all <;> omega))).symm⟩
  ·try simp only [decide_eq_true_eq, decide_eq_false_iff_not] at hg1
   refine s_val (wg rfl rfl rfl) rfl rfl (py_loadS Tryz.underlying37 rfl Tryz.sizeOf37 rfl rfl (At.whole (H3.box 0 rfl))) (s_call (wg rfl rfl rfl) rfl rfl (pc_call Tryz.func152 rfl Tryz_nm152 rfl) (Tryz_impl_onOK (by assumption) (H3.sees 0 rfl) (H3.sees 1 rfl) (H3.sees 2 rfl) (by assumption)) (fun v3 w4 r3 => ?_))
   obtain ⟨e4, rfl⟩ := r3
   have H4 := H3.to e4
   refine s_val (wg rfl rfl rfl) rfl rfl (py_not rfl) (sV rfl (py_pickF rfl rfl) (sV rfl (py_move rfl) (s_case (t := 19) rfl (fun hg2 => ?_) (fun hg2 => ?_))))
   ·try simp only [decide_eq_true_eq, decide_eq_false_iff_not] at hg2
    refine s_skip (wog (b := true) rfl rfl rfl) rfl rfl (s_skip (wog (b := true) rfl rfl rfl) rfl rfl (s_skip (wog (b := true) rfl rfl rfl) rfl rfl (s_skip (wog (b := true) rfl rfl rfl) rfl rfl (sV rfl (py_pickT rfl rfl) (s_nil (W_ift rfl (W_sr (sV rfl (py_assign rfl) (s_nil (W_ret (hQ _ _ (fin1 Tryz.results85 rfl ?_))))))))))))
    exact ⟨H4.ext, congrArg (Value.int .i64) ((if_neg (by omega)).trans (if_neg (by simp_all <;> omega))).symm⟩
   ·try simp only [decide_eq_true_eq, decide_eq_false_iff_not] at hg2
    refine s_val (wg rfl rfl rfl) rfl rfl (py_field Tryz.underlying37 rfl Tryz.sizeOf35 rfl rfl) (s_val (wg rfl rfl rfl) rfl rfl (py_load Tryz.underlying35 rfl rfl (cell_atL (H4.box 0 rfl) rfl)) (s_val (wg rfl rfl rfl) rfl rfl (py_len Tryz.underlying35 rfl) (s_val (wg rfl rfl rfl) rfl rfl (py_neq rfl rfl) (sV rfl (py_pickF rfl rfl) (s_nil (W_ifd rfl (fun c2 => ?_) (fun c2 => ?_)))))))
    ·refine W_sr (sV rfl (py_assign rfl) (s_nil (W_ret (hQ _ _ (fin1 Tryz.results85 rfl ?_)))))
     exact ⟨H4.ext, congrArg (Value.int .i64) ((if_neg (by omega)).trans (if_neg (by simp_all <;> omega))).symm⟩
    ·refine W_skip (W_seq (W_sr (sV rfl (py_loadS Tryz.underlying37 rfl Tryz.sizeOf37 rfl rfl (At.whole (H4.box 0 rfl))) (s_call (wn rfl) rfl rfl (pc_call Tryz.func153 rfl Tryz_nm153 rfl) (Tryz_impl_tapesFault (by assumption) (H4.sees 0 rfl) (H4.sees 1 rfl) (H4.sees 2 rfl) (by assumption)) (fun v4 w5 r4 => ?_)))))
     obtain ⟨e5, rfl⟩ := r4
     have H5 := H4.to e5
     refine sV rfl (py_assign rfl) (s_nil (W_sr (sV rfl (py_move rfl) (sV rfl (py_neq rfl rfl) (s_nil (W_ifd rfl (fun c3 => ?_) (fun c3 => ?_)))))))
     ·refine W_sr (sV rfl (py_move rfl) (sV rfl (py_assign rfl) (s_nil (W_ret (hQ _ _ (fin1 Tryz.results85 rfl ?_))))))
      exact ⟨H5.ext, congrArg (Value.int .i64) ((if_neg (by omega)).trans ((if_pos (by simp_all <;> omega)).trans (if_pos (by omega)))).symm⟩
     ·refine W_skip (W_seq (W_sr (sV rfl (py_field Tryz.underlying37 rfl Tryz.sizeOf2 rfl rfl) (sV rfl (py_load Tryz.underlying2 rfl rfl (cell_atL (H5.box 0 rfl) rfl)) (s_call (wn rfl) rfl rfl (pc_call Tryz.func154 rfl Tryz_nm154 rfl) Tryz_impl_inside (fun v5 w6 r5 => ?_))))))
      obtain ⟨e6, rfl⟩ := r5
      have H6 := H5.to e6
      refine sV rfl (py_not rfl) (sV rfl (py_move rfl) (s_case (t := 34) rfl (fun hg3 => ?_) (fun hg3 => ?_)))
      ·try simp only [decide_eq_true_eq, decide_eq_false_iff_not] at hg3
       refine s_skip (wog (b := true) rfl rfl rfl) rfl rfl (s_skip (wog (b := true) rfl rfl rfl) rfl rfl (s_skip (wog (b := true) rfl rfl rfl) rfl rfl (s_skip (wog (b := true) rfl rfl rfl) rfl rfl (sV rfl (py_pickT rfl rfl) (s_nil (W_ift rfl (W_sr (sV rfl (py_assign rfl) (s_nil (W_ret (hQ _ _ (fin1 Tryz.results85 rfl ?_))))))))))))
       exact ⟨H6.ext, congrArg (Value.int .i64) ((if_neg (by omega)).trans ((if_pos (by simp_all <;> omega)).trans ((if_neg (by omega)).trans (if_neg (by simp_all <;> omega))))).symm⟩
      ·try simp only [decide_eq_true_eq, decide_eq_false_iff_not] at hg3
       refine s_val (wg rfl rfl rfl) rfl rfl (py_field Tryz.underlying37 rfl Tryz.sizeOf2 rfl rfl) (s_val (wg rfl rfl rfl) rfl rfl (py_load Tryz.underlying2 rfl rfl (cell_atL (H6.box 0 rfl) rfl)) (s_call (wg rfl rfl rfl) rfl rfl (pc_call Tryz.func154 rfl Tryz_nm154 rfl) Tryz_impl_inside (fun v6 w7 r6 => ?_)))
       obtain ⟨e7, rfl⟩ := r6
       have H7 := H6.to e7
       refine s_val (wg rfl rfl rfl) rfl rfl (py_not rfl) (sV rfl (py_pickF rfl rfl) (s_nil (W_if rfl (fun c4 => ?_) (fun c4 => ?_))))
       ·refine W_sr (sV rfl (py_assign rfl) (s_nil (W_ret (hQ _ _ (fin1 Tryz.results85 rfl ?_)))))
        exact ⟨H7.ext, congrArg (Value.int .i64) ((if_neg (by omega)).trans ((if_pos (by simp_all <;> omega)).trans ((if_neg (by omega)).trans (if_neg (by simp_all <;> omega))))).symm⟩
       ·refine W_skip (W_sr (sV rfl (py_assign rfl) (s_nil (W_ret (hQ _ _ (fin1 Tryz.results85 rfl ?_))))))
        exact ⟨H7.ext, congrArg (Value.int .i64) ((if_neg (by omega)).trans ((if_pos (by simp_all <;> omega)).trans ((if_neg (by omega)).trans (if_pos (by simp_all <;> omega))))).symm⟩
theorem Tryz_impl_upFault {w : World} {z : Wld} {zA9 : Option Addr} {zC9 : Nat} {zA10 : Option Addr} {zC10 : Nat} {zA11 : Option Addr} {zC11 : Nat} (zK : z.Ok) (zS9 : Sees w [.slice zA9 z.Groups.length zC9] z.Groups) (zS10 : Sees w [.slice zA10 z.On.length zC10] z.On) (zS11 : Sees w [.slice zA11 z.Tapes.length zC11] z.Tapes) : Ret Tryz.prog 75 #[z.val zA9 zC9 zA10 zC10 zA11 zC11] w fun v w' => Ext No w w' ∧ (v = .int .i64 (upF z)) := by
 have zK2 := zK
 unfold Wld.Ok Shape.Ok at zK2
 try unfold I64ok at zK2
 try unfold maxLen at zK2
 have zL9 := sees_len zS9
 unfold maxLen at zL9
 obtain ⟨zF9, zO9⟩ := zS9
 have zL10 := sees_len zS10
 unfold maxLen at zL10
 obtain ⟨zF10, zO10⟩ := zS10
 have zL11 := sees_len zS11
 unfold maxLen at zL11
 obtain ⟨zF11, zO11⟩ := zS11
 refine ret_Q (vs := [z.val zA9 zC9 zA10 zC10 zA11 zC11]) Tryz.func75 rfl Tryz.ntmps75 rfl (fun Q hQ hN => ?_)
 have H0 := Sep.start (w := w) (F := [seen false [.slice zA9 z.Groups.length zC9] z.Groups zF9, seen false [.slice zA10 z.On.length zC10] z.On zF10, seen false [.slice zA11 z.Tapes.length zC11] z.Tapes zF11]) (all_cons zO9 (all_cons zO10 (all_cons zO11 (by simp))))
 refine W_sr (s_box (wn rfl) rfl rfl H0 (fun b1 w1 e1 g1 H1 => ?_))
 refine sV rfl (py_assign rfl) (s_nil (W_seq (W_sr (sV rfl (py_loadS Tryz.underlying37 rfl Tryz.sizeOf37 rfl rfl (At.whole (H1.box 0 rfl))) (s_call (wn rfl) rfl rfl (pc_call Tryz.func85 rfl Tryz_nm85 rfl) (Tryz_impl_WorldFault (by assumption) (H1.sees 0 rfl) (H1.sees 1 rfl) (H1.sees 2 rfl)) (fun v1 w2 r1 => ?_))))))
 obtain ⟨e2, rfl⟩ := r1
 have H2 := H1.to e2
 refine sV rfl (py_assign rfl) (s_nil (W_sr (sV rfl (py_move rfl) (sV rfl (py_neq rfl rfl) (s_nil (W_ifd rfl (fun c1 => ?_) (fun c1 => ?_)))))))
 ·refine W_sr (sV rfl (py_move rfl) (sV rfl (py_assign rfl) (s_nil (W_ret (hQ _ _ (fin1 Tryz.results75 rfl ?_))))))
  exact ⟨H2.ext, congrArg (Value.int .i64) (if_pos (by omega)).symm⟩
 ·refine W_skip (W_seq (W_sr (sV rfl (py_field Tryz.underlying37 rfl Tryz.sizeOf4 rfl rfl) (sV rfl (py_load Tryz.underlying4 rfl rfl (cell_atL (H2.box 0 rfl) rfl)) (s_nil (W_if rfl (fun c2 => ?_) (fun c2 => ?_)))))))
  ·refine W_sr (sV rfl (py_assign rfl) (s_nil (W_ret (hQ _ _ (fin1 Tryz.results75 rfl ?_)))))
   exact ⟨H2.ext, congrArg (Value.int .i64) ((if_neg (by omega)).trans (if_pos (by assumption))).symm⟩
  ·refine W_skip (W_sr (sV rfl (py_assign rfl) (s_nil (W_ret (hQ _ _ (fin1 Tryz.results75 rfl ?_))))))
   exact ⟨H2.ext, congrArg (Value.int .i64) ((if_neg (by omega)).trans (if_neg (by simp_all <;> omega))).symm⟩
set_option maxHeartbeats 1000000 in
theorem Tryz_spec_WorldFault {w : World} {z : Wld} {zA9 : Option Addr} {zC9 : Nat} {zA10 : Option Addr} {zC10 : Nat} {zA11 : Option Addr} {zC11 : Nat} (zK : z.Ok) (zS9 : Sees w [.slice zA9 z.Groups.length zC9] z.Groups) (zS10 : Sees w [.slice zA10 z.On.length zC10] z.On) (zS11 : Sees w [.slice zA11 z.Tapes.length zC11] z.Tapes) : Ret Tryz.prog 82 #[z.val zA9 zC9 zA10 zC10 zA11 zC11] w fun v w' => Ext No w w' ∧ (v = .int .i64 (worldF z)) := by
 have zK2 := zK
 unfold Wld.Ok Shape.Ok at zK2
 try unfold I64ok at zK2
 try unfold maxLen at zK2
 have zL9 := sees_len zS9
 unfold maxLen at zL9
 obtain ⟨zF9, zO9⟩ := zS9
 have zL10 := sees_len zS10
 unfold maxLen at zL10
 obtain ⟨zF10, zO10⟩ := zS10
 have zL11 := sees_len zS11
 unfold maxLen at zL11
 obtain ⟨zF11, zO11⟩ := zS11
 refine ret_Q (vs := [z.val zA9 zC9 zA10 zC10 zA11 zC11]) Tryz.func82 rfl Tryz.ntmps82 rfl (fun Q hQ hN => ?_)
 have H0 := Sep.start (w := w) (F := [seen false [.slice zA9 z.Groups.length zC9] z.Groups zF9, seen false [.slice zA10 z.On.length zC10] z.On zF10, seen false [.slice zA11 z.Tapes.length zC11] z.Tapes zF11]) (all_cons zO9 (all_cons zO10 (all_cons zO11 (by simp))))
 refine W_sr (s_box (wn rfl) rfl rfl H0 (fun b1 w1 e1 g1 H1 => ?_))
 refine sV rfl (py_assign rfl) (s_nil (W_seq (W_sr (sV rfl (py_field Tryz.underlying37 rfl Tryz.sizeOf33 rfl rfl) (sV rfl (py_loadS Tryz.underlying33 rfl Tryz.sizeOf33 rfl rfl (At.sub (H1.box 0 rfl) 9)) (s_call (wn rfl) rfl rfl (pc_call Tryz.func146 rfl Tryz_nm146 rfl) Tryz_spec_ShapeFault (fun v1 w2 r1 => ?_)))))))
 obtain ⟨e2, rfl⟩ := r1
 have H2 := H1.to e2
 refine sV rfl (py_assign rfl) (s_nil (W_sr (sV rfl (py_move rfl) (sV rfl (py_neq rfl rfl) (s_nil (W_ifd rfl (fun c1 => ?_) (fun c1 => ?_)))))))
 ·refine W_sr (sV rfl (py_move rfl) (sV rfl (py_assign rfl) (s_nil (W_ret (hQ _ _ (fin1 Tryz.results82 rfl ?_))))))
  exact ⟨H2.ext, congrArg (Value.int .i64) (if_pos (by omega)).symm⟩
 ·refine W_skip (W_seq (W_seq ?_))
  have hs := shapeFault_ok (s := z.Shape) (by omega)
  have sbd := shape_bd hs
  refine W_drw (S := Ext No _) [(0, true), (1, false), (2, true), (3, true), (4, true), (5, true), (6, true), (7, true), (8, false), (9, true), (10, false), (11, true), (12, true), (13, true), (14, true), (15, true), (16, true), (17, true), (18, true), (19, true), (20, true), (21, true), (22, true), (23, true), (24, true), (25, true), (26, true), (27, true), (28, true), (29, true), (30, true), (31, true), (32, true), (33, true), (34, true), (35, true), (36, true), (37, false)] (by kernel_rfl) (by kernel_rfl) (by kernel_rfl) rfl (fun _ => Ext.refl.drawn _) (fun q1 => ?_)
  have H3 := H2.drawn q1
  refine dV rfl rfl (fun zw hx => py_loadS Tryz.underlying37 rfl Tryz.sizeOf37 rfl rfl (At.whole (hx.heap (H3.box 0 rfl)))) (d_call rfl (wn rfl) rfl rfl (pc_call Tryz.func147 rfl Tryz_nm147 rfl) (Tryz_spec_l5Built (by assumption) (H3.sees 0 rfl) (H3.sees 1 rfl) (H3.sees 2 rfl) (by assumption)) (fun hS _ _ r _ => hS.trans r.1.no) (fun v2 w3 r2 => ?_))
  obtain ⟨e3, rfl⟩ := r2
  have H4 := H3.to e3
  refine dV rfl rfl (fun zw hx => py_not rfl) (dV rfl rfl (fun zw hx => py_move rfl) (d_case (t := 17) rfl (fun hg1 => ?_) (fun hg1 => ?_)))
  ·try simp only [decide_eq_true_eq, decide_eq_false_iff_not] at hg1
   refine d_skip rfl (wog (b := true) rfl rfl rfl) rfl rfl (d_skip rfl (wog (b := true) rfl rfl rfl) rfl rfl (d_skip rfl (wog (b := true) rfl rfl rfl) rfl rfl (d_skip rfl (wog (b := true) rfl rfl rfl) rfl rfl (d_skipA rfl (wog (b := true) rfl rfl rfl) rfl rfl (d_skip rfl (wog (b := true) rfl rfl rfl) rfl rfl (d_skipA rfl (wog (b := true) rfl rfl rfl) rfl rfl (d_skip rfl (wog (b := true) rfl rfl rfl) rfl rfl (dV rfl rfl (fun zw hx => py_pickT rfl rfl) (dV rfl rfl (fun zw hx => py_move rfl) (d_skip rfl (wog (b := true) rfl rfl rfl) rfl rfl (d_skip rfl (wog (b := true) rfl rfl rfl) rfl rfl (d_skip rfl (wog (b := true) rfl rfl rfl) rfl rfl (d_skip rfl (wog (b := true) rfl rfl rfl) rfl rfl (d_skip rfl (wog (b := true) rfl rfl rfl) rfl rfl (d_skip rfl (wog (b := true) rfl rfl rfl) rfl rfl (d_skip rfl (wog (b := true) rfl rfl rfl) rfl rfl (dV rfl rfl (fun zw hx => py_pickT rfl rfl) (dV rfl rfl (fun zw hx => py_move rfl) (d_skip rfl (wog (b := true) rfl rfl rfl) rfl rfl (d_skip rfl (wog (b := true) rfl rfl rfl) rfl rfl (d_skip rfl (wog (b := true) rfl rfl rfl) rfl rfl (d_skip rfl (wou rfl rfl rfl) rfl rfl (d_skip rfl (wou rfl rfl rfl) rfl rfl (d_skip rfl (wou rfl rfl rfl) rfl rfl (d_skip rfl (wou rfl rfl rfl) rfl rfl (d_skip rfl (wog (b := true) rfl rfl rfl) rfl rfl (dV rfl rfl (fun zw hx => py_pickT rfl rfl) (dV rfl rfl (fun zw hx => py_move rfl) (d_skip rfl (wog (b := true) rfl rfl rfl) rfl rfl (d_skip rfl (wog (b := true) rfl rfl rfl) rfl rfl (d_skip rfl (wog (b := true) rfl rfl rfl) rfl rfl (d_skip rfl (wog (b := true) rfl rfl rfl) rfl rfl (d_end rfl (wn rfl) rfl rfl (py_pickT rfl rfl) (d_nil (W_ift rfl (W_sr (sV rfl (py_assign rfl) (s_nil (W_ret (hQ _ _ (fin1 Tryz.results82 rfl ?_)))))))))))))))))))))))))))))))))))))))))
   exact ⟨H4.ext, congrArg (Value.int .i64) ((if_neg (by omega)).trans (if_neg (by rw [← fine_eq]; first | (simp_all <;> omega) | (cases hh : z.On <;> simp_all <;> omega)))).symm⟩
  ·try simp only [decide_eq_true_eq, decide_eq_false_iff_not] at hg1
   refine d_val rfl (wg rfl rfl rfl) rfl rfl (fun zw hx => py_field Tryz.underlying37 rfl Tryz.sizeOf25 rfl rfl) (d_val rfl (wg rfl rfl rfl) rfl rfl (fun zw hx => py_load Tryz.underlying25 rfl rfl (cell_atL (hx.heap (H3.box 0 rfl)) rfl)) (d_val rfl (wg rfl rfl rfl) rfl rfl (fun zw hx => py_field Tryz.underlying37 rfl Tryz.sizeOf33 rfl rfl) (d_val rfl (wg rfl rfl rfl) rfl rfl (fun zw hx => py_loadS Tryz.underlying33 rfl Tryz.sizeOf33 rfl rfl (At.sub (hx.heap (H3.box 0 rfl)) 9)) (d_call rfl (wg rfl rfl rfl) rfl rfl (pc_call Tryz.func83 rfl Tryz_nm83 rfl) (Tryz_spec_l5All (by assumption)) (fun hS _ _ r _ => hS.trans r.1.no) (fun v3 w4 r3 => ?_)))))
   obtain ⟨e4, rfl⟩ := r3
   have H5 := H4.to e4
   refine d_val rfl (wg rfl rfl rfl) rfl rfl (fun zw hx => py_sub rfl rfl (in64 ⟨by omega, by omega⟩)) (d_call rfl (wg rfl rfl rfl) rfl rfl (pc_call Tryz.func148 rfl Tryz_nm148 rfl) (Tryz_spec_l5Apart (H5.sees 1 rfl)) (fun hS _ _ r _ => hS.trans r.1.no) (fun v4 w5 r4 => ?_))
   obtain ⟨e5, rfl⟩ := r4
   have H6 := H5.to e5
   refine d_val rfl (wg rfl rfl rfl) rfl rfl (fun zw hx => py_not rfl) (dV rfl rfl (fun zw hx => py_pickF rfl rfl) (dV rfl rfl (fun zw hx => py_move rfl) (d_case (t := 27) rfl (fun hg2 => ?_) (fun hg2 => ?_))))
   ·try simp only [decide_eq_true_eq, decide_eq_false_iff_not] at hg2
    refine d_skip rfl (wog (b := true) rfl rfl rfl) rfl rfl (d_skip rfl (wog (b := true) rfl rfl rfl) rfl rfl (d_skip rfl (wog (b := true) rfl rfl rfl) rfl rfl (d_skip rfl (wog (b := true) rfl rfl rfl) rfl rfl (d_skip rfl (wog (b := true) rfl rfl rfl) rfl rfl (d_skip rfl (wog (b := true) rfl rfl rfl) rfl rfl (d_skip rfl (wog (b := true) rfl rfl rfl) rfl rfl (dV rfl rfl (fun zw hx => py_pickT rfl rfl) (dV rfl rfl (fun zw hx => py_move rfl) (d_skip rfl (wog (b := true) rfl rfl rfl) rfl rfl (d_skip rfl (wog (b := true) rfl rfl rfl) rfl rfl (d_skip rfl (wog (b := true) rfl rfl rfl) rfl rfl (d_skip rfl (wou rfl rfl rfl) rfl rfl (d_skip rfl (wou rfl rfl rfl) rfl rfl (d_skip rfl (wou rfl rfl rfl) rfl rfl (d_skip rfl (wou rfl rfl rfl) rfl rfl (d_skip rfl (wog (b := true) rfl rfl rfl) rfl rfl (dV rfl rfl (fun zw hx => py_pickT rfl rfl) (dV rfl rfl (fun zw hx => py_move rfl) (d_skip rfl (wog (b := true) rfl rfl rfl) rfl rfl (d_skip rfl (wog (b := true) rfl rfl rfl) rfl rfl (d_skip rfl (wog (b := true) rfl rfl rfl) rfl rfl (d_skip rfl (wog (b := true) rfl rfl rfl) rfl rfl (d_end rfl (wn rfl) rfl rfl (py_pickT rfl rfl) (d_nil (W_ift rfl (W_sr (sV rfl (py_assign rfl) (s_nil (W_ret (hQ _ _ (fin1 Tryz.results82 rfl ?_)))))))))))))))))))))))))))))))
    exact ⟨H6.ext, congrArg (Value.int .i64) ((if_neg (by omega)).trans (if_neg (by rw [← fine_eq]; first | (simp_all <;> omega) | (cases hh : z.On <;> simp_all <;> omega)))).symm⟩
   ·try simp only [decide_eq_true_eq, decide_eq_false_iff_not] at hg2
    refine d_val rfl (wg rfl rfl rfl) rfl rfl (fun zw hx => py_field Tryz.underlying37 rfl Tryz.sizeOf25 rfl rfl) (d_val rfl (wg rfl rfl rfl) rfl rfl (fun zw hx => py_load Tryz.underlying25 rfl rfl (cell_atL (hx.heap (H3.box 0 rfl)) rfl)) (d_val rfl (wg rfl rfl rfl) rfl rfl (fun zw hx => py_len Tryz.underlying25 rfl) (d_val rfl (wg rfl rfl rfl) rfl rfl (fun zw hx => py_field Tryz.underlying37 rfl Tryz.sizeOf33 rfl rfl) (d_val rfl (wg rfl rfl rfl) rfl rfl (fun zw hx => py_field Tryz.underlying33 rfl Tryz.sizeOf2 rfl rfl) (d_val rfl (wg rfl rfl rfl) rfl rfl (fun zw hx => py_load Tryz.underlying2 rfl rfl (cell_atL (hx.heap (H3.box 0 rfl)) rfl)) (d_val rfl (wg rfl rfl rfl) rfl rfl (fun zw hx => py_gtr rfl rfl) (dV rfl rfl (fun zw hx => py_pickF rfl rfl) (dV rfl rfl (fun zw hx => py_move rfl) (d_case (t := 36) rfl (fun hg3 => ?_) (fun hg3 => ?_))))))))))
    ·try simp only [decide_eq_true_eq, decide_eq_false_iff_not] at hg3
     refine d_skip rfl (wog (b := true) rfl rfl rfl) rfl rfl (d_skip rfl (wog (b := true) rfl rfl rfl) rfl rfl (d_skip rfl (wog (b := true) rfl rfl rfl) rfl rfl (d_skip rfl (wou rfl rfl rfl) rfl rfl (d_skip rfl (wou rfl rfl rfl) rfl rfl (d_skip rfl (wou rfl rfl rfl) rfl rfl (d_skip rfl (wou rfl rfl rfl) rfl rfl (d_skip rfl (wog (b := true) rfl rfl rfl) rfl rfl (dV rfl rfl (fun zw hx => py_pickT rfl rfl) (dV rfl rfl (fun zw hx => py_move rfl) (d_skip rfl (wog (b := true) rfl rfl rfl) rfl rfl (d_skip rfl (wog (b := true) rfl rfl rfl) rfl rfl (d_skip rfl (wog (b := true) rfl rfl rfl) rfl rfl (d_skip rfl (wog (b := true) rfl rfl rfl) rfl rfl (d_end rfl (wn rfl) rfl rfl (py_pickT rfl rfl) (d_nil (W_ift rfl (W_sr (sV rfl (py_assign rfl) (s_nil (W_ret (hQ _ _ (fin1 Tryz.results82 rfl ?_))))))))))))))))))))))
     exact ⟨H6.ext, congrArg (Value.int .i64) ((if_neg (by omega)).trans (if_neg (by rw [← fine_eq]; first | (simp_all <;> omega) | (cases hh : z.On <;> simp_all <;> omega)))).symm⟩
    ·try simp only [decide_eq_true_eq, decide_eq_false_iff_not] at hg3
     refine d_val rfl (wg rfl rfl rfl) rfl rfl (fun zw hx => py_field Tryz.underlying37 rfl Tryz.sizeOf4 rfl rfl) (d_val rfl (wg rfl rfl rfl) rfl rfl (fun zw hx => py_load Tryz.underlying4 rfl rfl (cell_atL (hx.heap (H3.box 0 rfl)) rfl)) (d_val rfl (wg rfl rfl rfl) rfl rfl (fun zw hx => py_move rfl) (d_case (t := 39) rfl (fun hg4 => ?_) (fun hg4 => ?_))))
     ·try simp only [decide_eq_true_eq, decide_eq_false_iff_not] at hg4
      refine d_val rfl (wg rfl rfl rfl) rfl rfl (fun zw hx => py_field Tryz.underlying37 rfl Tryz.sizeOf25 rfl rfl) (d_val rfl (wg rfl rfl rfl) rfl rfl (fun zw hx => py_load Tryz.underlying25 rfl rfl (cell_atL (hx.heap (H3.box 0 rfl)) rfl)) (d_val rfl (wg rfl rfl rfl) rfl rfl (fun zw hx => py_len Tryz.underlying25 rfl) (d_val rfl (wg rfl rfl rfl) rfl rfl (fun zw hx => py_gtr rfl rfl) (d_val rfl (wg rfl rfl rfl) rfl rfl (fun zw hx => py_pickT rfl rfl) (dV rfl rfl (fun zw hx => py_pickF rfl rfl) (dV rfl rfl (fun zw hx => py_move rfl) (d_case (t := 46) rfl (fun hg5 => ?_) (fun hg5 => ?_))))))))
      ·try simp only [decide_eq_true_eq, decide_eq_false_iff_not] at hg5
       refine d_skip rfl (wog (b := true) rfl rfl rfl) rfl rfl (d_skip rfl (wog (b := true) rfl rfl rfl) rfl rfl (d_skip rfl (wog (b := true) rfl rfl rfl) rfl rfl (d_skip rfl (wog (b := true) rfl rfl rfl) rfl rfl (d_end rfl (wn rfl) rfl rfl (py_pickT rfl rfl) (d_nil (W_ift rfl (W_sr (sV rfl (py_assign rfl) (s_nil (W_ret (hQ _ _ (fin1 Tryz.results82 rfl ?_))))))))))))
       exact ⟨H6.ext, congrArg (Value.int .i64) ((if_neg (by omega)).trans (if_neg (by rw [← fine_eq]; first | (simp_all <;> omega) | (cases hh : z.On <;> simp_all <;> omega)))).symm⟩
      ·try simp only [decide_eq_true_eq, decide_eq_false_iff_not] at hg5
       refine d_val rfl (wg rfl rfl rfl) rfl rfl (fun zw hx => py_field Tryz.underlying37 rfl Tryz.sizeOf35 rfl rfl) (d_val rfl (wg rfl rfl rfl) rfl rfl (fun zw hx => py_load Tryz.underlying35 rfl rfl (cell_atL (hx.heap (H3.box 0 rfl)) rfl)) (d_val rfl (wg rfl rfl rfl) rfl rfl (fun zw hx => py_len Tryz.underlying35 rfl) (d_val rfl (wg rfl rfl rfl) rfl rfl (fun zw hx => py_neq rfl rfl) (d_end rfl (wn rfl) rfl rfl (py_pickF rfl rfl) (d_nil (W_ifd rfl (fun c2 => ?_) (fun c2 => ?_)))))))
       ·refine W_sr (sV rfl (py_assign rfl) (s_nil (W_ret (hQ _ _ (fin1 Tryz.results82 rfl ?_)))))
        exact ⟨H6.ext, congrArg (Value.int .i64) ((if_neg (by omega)).trans (if_neg (by rw [← fine_eq]; first | (simp_all <;> omega) | (cases hh : z.On <;> simp_all <;> omega)))).symm⟩
       ·refine W_skip (W_seq (W_seq ?_))
        have hF : (groupsOK z && onOK z && decide (z.Tapes.length = 2)) = true := by rw [← fine_eq]; simp_all <;> omega
        have h2 : z.Tapes.length = 2 := by simp_all <;> omega
        obtain ⟨eb1, eo1, es1, ef1, ee1, ec1, eO1, eH1, em1⟩ := elem_st (H6.seen 2 rfl) 0 (by omega)
        obtain ⟨ea1, ek1, eg1, rfl, eq1, eK1, eo2⟩ := own_Tape eO1
        have eP1 := H6.look1 2 rfl eo2 (fun b hb => eH1 b (by rw [eq1]; simp [hb]))
        have eL1 := own_len_le eo2
        unfold maxLen at eL1
        refine W_reg (sV rfl (py_field Tryz.underlying37 rfl Tryz.sizeOf35 rfl rfl) (sV rfl (py_load Tryz.underlying35 rfl rfl (cell_atL (eP1.box 0 rfl) rfl)) (sV rfl (py_elz Tryz.underlying35 Tryz.sizeOf155 rfl rfl ee1 0 (by omega) (by omega)) (sV rfl (py_field Tryz.underlying155 rfl Tryz.sizeOf82 rfl rfl) (sV rfl (py_load Tryz.underlying82 rfl rfl (at_cell ec1 1 rfl)) (sV rfl (py_len Tryz.underlying82 rfl) (sV rfl (py_gtr rfl rfl) (sV rfl (py_move rfl) (s_case (t := 59) rfl (fun hg6 => ?_) (fun hg6 => ?_))))))))))
        ·try simp only [decide_eq_true_eq, decide_eq_false_iff_not] at hg6
         refine s_skip (wog (b := true) rfl rfl rfl) rfl rfl (s_skip (wog (b := true) rfl rfl rfl) rfl rfl (s_skip (wog (b := true) rfl rfl rfl) rfl rfl (s_skip (wog (b := true) rfl rfl rfl) rfl rfl (s_skip (wog (b := true) rfl rfl rfl) rfl rfl (s_skip (wog (b := true) rfl rfl rfl) rfl rfl (s_skip (wog (b := true) rfl rfl rfl) rfl rfl (sV rfl (py_pickT rfl rfl) (s_nil (W_ift rfl (W_seq ?_))))))))))
         have tq := tapesF_many (z := z) (any_two h2 (by simp only [manyRecs]; simp_all <;> omega))
         refine W_reg (sV rfl (py_assign rfl) (s_nil (W_ret (hQ _ _ (fin1 Tryz.results82 rfl ?_)))))
         exact ⟨eP1.ext, congrArg (Value.int .i64) ((if_neg (by omega)).trans ((if_pos hF).trans ((if_pos (by omega)).trans tq))).symm⟩
        ·try simp only [decide_eq_true_eq, decide_eq_false_iff_not] at hg6
         refine s_val (wg rfl rfl rfl) rfl rfl (py_field Tryz.underlying37 rfl Tryz.sizeOf35 rfl rfl) (s_val (wg rfl rfl rfl) rfl rfl (py_load Tryz.underlying35 rfl rfl (cell_atL (eP1.box 0 rfl) rfl)) ?_)
         obtain ⟨eb2, eo3, es2, ef2, ee2, ec2, eO2, eH2, em2⟩ := elem_st (eP1.seen 2 rfl) 1 (by omega)
         obtain ⟨ea2, ek2, eg2, rfl, eq2, eK2, eo4⟩ := own_Tape eO2
         have eP2 := eP1.look1 2 rfl eo4 (fun b hb => eH2 b (by rw [eq2]; simp [hb]))
         have eL2 := own_len_le eo4
         unfold maxLen at eL2
         refine s_val (wg rfl rfl rfl) rfl rfl (py_elz Tryz.underlying35 Tryz.sizeOf155 rfl rfl ee2 1 (by omega) (by omega)) (s_val (wg rfl rfl rfl) rfl rfl (py_field Tryz.underlying155 rfl Tryz.sizeOf82 rfl rfl) (s_val (wg rfl rfl rfl) rfl rfl (py_load Tryz.underlying82 rfl rfl (at_cell ec2 1 rfl)) (s_val (wg rfl rfl rfl) rfl rfl (py_len Tryz.underlying82 rfl) (s_val (wg rfl rfl rfl) rfl rfl (py_gtr rfl rfl) (sV rfl (py_pickF rfl rfl) (s_nil (W_ifd rfl (fun c3 => ?_) (fun c3 => ?_))))))))
         ·refine W_seq ?_
          have tq := tapesF_many (z := z) (any_two h2 (by simp only [manyRecs]; simp_all <;> omega))
          refine W_reg (sV rfl (py_assign rfl) (s_nil (W_ret (hQ _ _ (fin1 Tryz.results82 rfl ?_)))))
          exact ⟨eP2.ext, congrArg (Value.int .i64) ((if_neg (by omega)).trans ((if_pos hF).trans ((if_pos (by omega)).trans tq))).symm⟩
         ·refine W_skip (W_seq (W_seq ?_))
          have hM : z.Tapes.any manyRecs = false := any_neither h2 (by simp only [manyRecs]; simp_all <;> omega) (by simp only [manyRecs]; simp_all <;> omega)
          refine W_reg (sV rfl (py_assign rfl) (s_nil (W_block (W_loopS (γ := Nat) eP2 [(1, _)] ⟨rfl, trivial⟩ (fun k => [(4, .int .i64 k)]) (fun k => k ≤ z.Tapes.length ∧ tapeF z.Shape z.Tapes k = 0) (fun k => z.Tapes.length - k) 0 ⟨rfl, trivial⟩ ⟨by omega, rfl⟩ (fun k w6 H7 ⟨hk, hkz⟩ => ?_)))))
          dsimp only [List.cons_append, List.nil_append]
          refine W_seq (W_sr (sV rfl (py_move rfl) (sV rfl (py_lss rfl rfl) (s_nil (W_ifd rfl (fun c4 => ?_) (fun c4 => ?_))))))
          ·refine W_skip (W_seq (W_block (W_sr (sV rfl (py_assign rfl) (s_nil (W_block (W_loopS (γ := Nat) H7 [(1, _), (4, _)] ⟨rfl, rfl, trivial⟩ (fun k2 => [(5, .int .i64 k2)]) (fun k2 => k2 ≤ (z.Tapes.getD k default).Recs.length ∧ recsF z.Shape (z.Tapes.getD k default).Recs k2 = 0) (fun k2 => (z.Tapes.getD k default).Recs.length - k2) 0 ⟨rfl, trivial⟩ ⟨by omega, rfl⟩ (fun k2 w7 H8 ⟨hk2, hk2z⟩ => ?_))))))))
           dsimp only [List.cons_append, List.nil_append]
           refine W_seq (W_seq ?_)
           obtain ⟨eb3, eo5, es3, ef3, ee3, ec3, eO3, eH3, em3⟩ := elem_st (H8.seen 2 rfl) k (by omega)
           obtain ⟨ea3, ek3, eg3, rfl, eq3, eK3, eo6⟩ := own_Tape eO3
           have eP3 := H8.look1 2 rfl eo6 (fun b hb => eH3 b (by rw [eq3]; simp [hb]))
           have eL3 := own_len_le eo6
           unfold maxLen at eL3
           refine W_reg (sV rfl (py_move rfl) (sV rfl (py_field Tryz.underlying37 rfl Tryz.sizeOf35 rfl rfl) (sV rfl (py_load Tryz.underlying35 rfl rfl (cell_atL (eP3.box 0 rfl) rfl)) (sV rfl (py_move rfl) (sV rfl (py_elz Tryz.underlying35 Tryz.sizeOf155 rfl rfl ee3 k (by omega) (by omega)) (sV rfl (py_field Tryz.underlying155 rfl Tryz.sizeOf82 rfl rfl) (sV rfl (py_load Tryz.underlying82 rfl rfl (at_cell ec3 1 rfl)) (sV rfl (py_len Tryz.underlying82 rfl) (sV rfl (py_lss rfl rfl) (s_nil (W_ifd rfl (fun c5 => ?_) (fun c5 => ?_))))))))))))
           ·refine W_skip (W_seq (W_block (W_seq ?_)))
            obtain ⟨eb4, eo7, es4, ef4, ee4, ec4, eO4, eH4, em4⟩ := elem_st (eP3.seen 2 rfl) k (by omega)
            obtain ⟨ea4, ek4, eg4, rfl, eq4, eK4, eo8⟩ := own_Tape eO4
            have eP4 := eP3.look1 2 rfl eo8 (fun b hb => eH4 b (by rw [eq4]; simp [hb]))
            have eL4 := own_len_le eo8
            unfold maxLen at eL4
            obtain ⟨eb5, eo9, es5, ef5, ee5, ec5, eO5, eH5, em5⟩ := elem_st (eP4.seen 6 rfl) k2 (by omega)
            obtain ⟨ea5, ek5, ea6, ek6, ea7, ek7, eg5, eg6, eg7, rfl, eq5, eK5, eo10, eo11, eo12⟩ := own_Rec eO5
            have eK5U := eK5
            unfold Rec.Ok at eK5U
            try unfold I64ok at eK5U
            try unfold maxLen at eK5U
            have eP5 := eP4.look1 6 rfl eo10 (fun b hb => eH5 b (by rw [eq5]; simp [hb]))
            have eL5 := own_len_le eo10
            unfold maxLen at eL5
            have eP6 := eP5.look1 6 rfl eo11 (fun b hb => eH5 b (by rw [eq5]; simp [hb]))
            have eL6 := own_len_le eo11
            unfold maxLen at eL6
            have eP7 := eP6.look1 6 rfl eo12 (fun b hb => eH5 b (by rw [eq5]; simp [hb]))
            have eL7 := own_len_le eo12
            unfold maxLen at eL7
            refine W_drw (S := Ext No _) [(0, true), (1, true), (2, true), (3, true), (4, true), (5, true), (6, true), (7, true), (8, true), (9, true), (10, true), (11, false), (12, false)] (by kernel_rfl) (by kernel_rfl) (by kernel_rfl) rfl (fun _ => Ext.refl.drawn _) (fun q2 => ?_)
            have H9 := eP7.drawn q2
            refine dV rfl rfl (fun zw hx => py_field Tryz.underlying37 rfl Tryz.sizeOf33 rfl rfl) (dV rfl rfl (fun zw hx => py_loadS Tryz.underlying33 rfl Tryz.sizeOf33 rfl rfl (At.sub (hx.heap (H9.box 0 rfl)) 9)) (dV rfl rfl (fun zw hx => py_field Tryz.underlying37 rfl Tryz.sizeOf35 rfl rfl) (dV rfl rfl (fun zw hx => py_load Tryz.underlying35 rfl rfl (cell_atL (hx.heap (H9.box 0 rfl)) rfl)) (dV rfl rfl (fun zw hx => py_move rfl) (dV rfl rfl (fun zw hx => py_elz Tryz.underlying35 Tryz.sizeOf155 rfl rfl ee4 k (by omega) (by omega)) (dV rfl rfl (fun zw hx => py_field Tryz.underlying155 rfl Tryz.sizeOf82 rfl rfl) (dV rfl rfl (fun zw hx => py_load Tryz.underlying82 rfl rfl (at_cell (hx.at ec4) 1 rfl)) (dV rfl rfl (fun zw hx => py_move rfl) (dV rfl rfl (fun zw hx => py_elz Tryz.underlying82 Tryz.sizeOf66 rfl rfl ee5 k2 (by omega) (by omega)) (dV rfl rfl (fun zw hx => py_loadS Tryz.underlying66 rfl Tryz.sizeOf66 rfl rfl (hx.at ec5)) (d_call rfl (wn rfl) rfl rfl (pc_call Tryz.func108 rfl Tryz_nm108 rfl) (Tryz_spec_RecFault (by assumption) (H9.sees 7 rfl) (H9.sees 8 rfl) (H9.sees 9 rfl)) (fun hS _ _ r _ => hS.trans r.1.no) (fun v5 w8 r5 => ?_))))))))))))
            obtain ⟨e6, rfl⟩ := r5
            have H10 := H9.to e6
            refine d_end rfl (wn rfl) rfl rfl (py_assign rfl) (d_nil (W_sr (sV rfl (py_move rfl) (sV rfl (py_neq rfl rfl) (s_nil (W_ifd rfl (fun c6 => ?_) (fun c6 => ?_)))))))
            ·refine W_sr (sV rfl (py_move rfl) (sV rfl (py_assign rfl) (s_nil (W_ret (hQ _ _ (fin1 Tryz.results82 rfl ?_))))))
             have tq := tapesF_rec hM (k := k) (k2 := k2) (by omega) hkz (by omega) hk2z (by omega)
             exact ⟨H10.ext, congrArg (Value.int .i64) ((if_neg (by omega)).trans (((if_neg (by omega)).trans ((if_pos hF).trans ((if_pos (by omega)).trans tq)))).symm)⟩
            ·refine W_skip (W_reg (sV rfl (py_move rfl) (sV rfl (py_add rfl rfl (in64 ⟨by omega, by omega⟩)) (sV rfl (py_assign rfl) (s_nil (⟨k2 + 1, ⟨rfl, rfl, rfl, trivial⟩, ⟨(H10.ftake 5), by omega, (recsF_next hk2z).trans (by omega)⟩, by dsimp only; omega⟩))))))
           ·refine W_exit (W_reg (sV rfl (py_move rfl) (sV rfl (py_add rfl rfl (in64 ⟨by omega, by omega⟩)) (sV rfl (py_assign rfl) (s_nil ?_)))))
            obtain rfl : k2 = (z.Tapes.getD k default).Recs.length := by omega
            refine ⟨k + 1, ⟨rfl, rfl, trivial⟩, ⟨(eP3.ftake 5), by omega, (tapeF_next hkz).trans hk2z⟩, by dsimp only; omega⟩
          ·refine W_exit (W_seq (W_seq ?_))
           obtain rfl : k = z.Tapes.length := by omega
           have hAll := hkz
           refine W_reg (sV rfl (py_assign rfl) (s_nil (W_block (W_loopS (γ := Nat) H7 [(1, _)] ⟨rfl, trivial⟩ (fun k => [(7, .int .i64 k)]) (fun k => k ≤ 2 ∧ (∀ i, i < k → wipedFull (z.Tapes.getD i default) = false)) (fun k => 2 - k) 0 ⟨rfl, trivial⟩ ⟨by omega, fun i hi => by omega⟩ (fun k w9 H11 ⟨hk, hek⟩ => ?_)))))
           dsimp only [List.cons_append, List.nil_append]
           refine W_seq (W_sr (sV rfl (py_move rfl) (sV rfl (py_lss rfl rfl) (s_nil (W_ifd rfl (fun c7 => ?_) (fun c7 => ?_))))))
           ·refine W_skip (W_seq (W_block (W_seq ?_)))
            obtain ⟨eb6, eo13, es6, ef6, ee6, ec6, eO6, eH6, em6⟩ := elem_st (H11.seen 2 rfl) k (by omega)
            obtain ⟨ea8, ek8, eg8, rfl, eq6, eK6, eo14⟩ := own_Tape eO6
            have eP8 := H11.look1 2 rfl eo14 (fun b hb => eH6 b (by rw [eq6]; simp [hb]))
            have eL8 := own_len_le eo14
            unfold maxLen at eL8
            refine W_reg (sV rfl (py_field Tryz.underlying37 rfl Tryz.sizeOf35 rfl rfl) (sV rfl (py_load Tryz.underlying35 rfl rfl (cell_atL (eP8.box 0 rfl) rfl)) (sV rfl (py_move rfl) (sV rfl (py_elz Tryz.underlying35 Tryz.sizeOf155 rfl rfl ee6 k (by omega) (by omega)) (sV rfl (py_field Tryz.underlying155 rfl Tryz.sizeOf4 rfl rfl) (sV rfl (py_load Tryz.underlying4 rfl rfl (at_cell ec6 0 rfl)) (sV rfl (py_move rfl) (s_case (t := 108) rfl (fun hg7 => ?_) (fun hg7 => ?_)))))))))
            ·try simp only [decide_eq_true_eq, decide_eq_false_iff_not] at hg7
             refine s_val (wg rfl rfl rfl) rfl rfl (py_field Tryz.underlying37 rfl Tryz.sizeOf35 rfl rfl) (s_val (wg rfl rfl rfl) rfl rfl (py_load Tryz.underlying35 rfl rfl (cell_atL (eP8.box 0 rfl) rfl)) (s_val (wg rfl rfl rfl) rfl rfl (py_move rfl) (s_val (wg rfl rfl rfl) rfl rfl (py_elz Tryz.underlying35 Tryz.sizeOf155 rfl rfl ee6 k (by omega) (by omega)) (s_val (wg rfl rfl rfl) rfl rfl (py_field Tryz.underlying155 rfl Tryz.sizeOf82 rfl rfl) (s_val (wg rfl rfl rfl) rfl rfl (py_load Tryz.underlying82 rfl rfl (at_cell ec6 1 rfl)) (s_val (wg rfl rfl rfl) rfl rfl (py_len Tryz.underlying82 rfl) (s_val (wg rfl rfl rfl) rfl rfl (py_gtr rfl rfl) (sV rfl (py_pickT rfl rfl) (s_nil (W_ifd rfl (fun c8 => ?_) (fun c8 => ?_)))))))))))
             ·refine W_sr (sV rfl (py_assign rfl) (s_nil (W_ret (hQ _ _ (fin1 Tryz.results82 rfl ?_)))))
              have tq := tapesF_full hM hAll (any_at k (by omega) (by rw [wipedFull]; simp_all <;> omega))
              exact ⟨eP8.ext, congrArg (Value.int .i64) ((if_neg (by omega)).trans ((if_pos hF).trans ((if_pos (by omega)).trans tq))).symm⟩
             ·refine W_skip (W_reg (sV rfl (py_move rfl) (sV rfl (py_add rfl rfl (in64 ⟨by omega, by omega⟩)) (sV rfl (py_assign rfl) (s_nil (⟨k + 1, ⟨rfl, rfl, trivial⟩, ⟨(eP8.ftake 5), by omega, fun i hi => ?_⟩, by dsimp only; omega⟩))))))
              by_cases e : i = k
              ·subst e; rw [wipedFull]; simp_all <;> omega
              ·exact hek i (by omega)
            ·try simp only [decide_eq_true_eq, decide_eq_false_iff_not] at hg7
             refine s_skip (wog (b := false) rfl rfl rfl) rfl rfl (s_skip (wog (b := false) rfl rfl rfl) rfl rfl (s_skip (wog (b := false) rfl rfl rfl) rfl rfl (s_skip (wog (b := false) rfl rfl rfl) rfl rfl (s_skip (wog (b := false) rfl rfl rfl) rfl rfl (s_skip (wog (b := false) rfl rfl rfl) rfl rfl (s_skip (wog (b := false) rfl rfl rfl) rfl rfl (s_skip (wog (b := false) rfl rfl rfl) rfl rfl (sV rfl (py_pickF rfl rfl) (s_nil (W_iff rfl (W_skip (W_reg (sV rfl (py_move rfl) (sV rfl (py_add rfl rfl (in64 ⟨by omega, by omega⟩)) (sV rfl (py_assign rfl) (s_nil (⟨k + 1, ⟨rfl, rfl, trivial⟩, ⟨(eP8.ftake 5), by omega, fun i hi => ?_⟩, by dsimp only; omega⟩)))))))))))))))))
             by_cases e : i = k
             ·subst e; rw [wipedFull]; simp_all <;> omega
             ·exact hek i (by omega)
           ·refine W_exit (W_seq (W_seq ?_))
            have tq := tapesF_ok hM hAll (any_none (fun i hi => hek i (by omega)))
            refine W_reg (sV rfl (py_field Tryz.underlying37 rfl Tryz.sizeOf2 rfl rfl) (sV rfl (py_load Tryz.underlying2 rfl rfl (cell_atL (H11.box 0 rfl) rfl)) (s_call (wn rfl) rfl rfl (pc_call Tryz.func149 rfl Tryz_nm149 rfl) Tryz_spec_l1In (fun v6 w10 r6 => ?_))))
            obtain ⟨e7, rfl⟩ := r6
            have H12 := H11.to e7
            refine sV rfl (py_not rfl) (sV rfl (py_move rfl) (s_case (t := 122) rfl (fun hg8 => ?_) (fun hg8 => ?_)))
            ·try simp only [decide_eq_true_eq, decide_eq_false_iff_not] at hg8
             refine s_skip (wog (b := true) rfl rfl rfl) rfl rfl (s_skip (wog (b := true) rfl rfl rfl) rfl rfl (s_skip (wog (b := true) rfl rfl rfl) rfl rfl (s_skip (wog (b := true) rfl rfl rfl) rfl rfl (sV rfl (py_pickT rfl rfl) (s_nil (W_ift rfl (W_sr (sV rfl (py_assign rfl) (s_nil (W_ret (hQ _ _ (fin1 Tryz.results82 rfl ?_))))))))))))
             exact ⟨H12.ext, congrArg (Value.int .i64) ((if_neg (by omega)).trans ((if_pos hF).trans ((if_neg (by omega)).trans (if_neg (by simp_all <;> omega))))).symm⟩
            ·try simp only [decide_eq_true_eq, decide_eq_false_iff_not] at hg8
             refine s_val (wg rfl rfl rfl) rfl rfl (py_field Tryz.underlying37 rfl Tryz.sizeOf2 rfl rfl) (s_val (wg rfl rfl rfl) rfl rfl (py_load Tryz.underlying2 rfl rfl (cell_atL (H12.box 0 rfl) rfl)) (s_call (wg rfl rfl rfl) rfl rfl (pc_call Tryz.func149 rfl Tryz_nm149 rfl) Tryz_spec_l1In (fun v7 w11 r7 => ?_)))
             obtain ⟨e8, rfl⟩ := r7
             have H13 := H12.to e8
             refine s_val (wg rfl rfl rfl) rfl rfl (py_not rfl) (sV rfl (py_pickF rfl rfl) (s_nil (W_if rfl (fun c9 => ?_) (fun c9 => ?_))))
             ·refine W_sr (sV rfl (py_assign rfl) (s_nil (W_ret (hQ _ _ (fin1 Tryz.results82 rfl ?_)))))
              exact ⟨H13.ext, congrArg (Value.int .i64) ((if_neg (by omega)).trans ((if_pos hF).trans ((if_neg (by omega)).trans (if_neg (by simp_all <;> omega))))).symm⟩
             ·refine W_skip (W_sr (sV rfl (py_assign rfl) (s_nil (W_ret (hQ _ _ (fin1 Tryz.results82 rfl ?_))))))
              exact ⟨H13.ext, congrArg (Value.int .i64) ((if_neg (by omega)).trans ((if_pos hF).trans ((if_neg (by omega)).trans (if_pos (by simp_all <;> omega))))).symm⟩
     ·try simp only [decide_eq_true_eq, decide_eq_false_iff_not] at hg4
      refine d_skip rfl (wog (b := false) rfl rfl rfl) rfl rfl (d_skip rfl (wog (b := false) rfl rfl rfl) rfl rfl (d_skip rfl (wog (b := false) rfl rfl rfl) rfl rfl (d_skip rfl (wog (b := false) rfl rfl rfl) rfl rfl (d_val rfl (wg rfl rfl rfl) rfl rfl (fun zw hx => py_pickF rfl rfl) (dV rfl rfl (fun zw hx => py_pickF rfl rfl) (dV rfl rfl (fun zw hx => py_move rfl) (d_val rfl (wg rfl rfl rfl) rfl rfl (fun zw hx => py_field Tryz.underlying37 rfl Tryz.sizeOf35 rfl rfl) (d_val rfl (wg rfl rfl rfl) rfl rfl (fun zw hx => py_load Tryz.underlying35 rfl rfl (cell_atL (hx.heap (H3.box 0 rfl)) rfl)) (d_val rfl (wg rfl rfl rfl) rfl rfl (fun zw hx => py_len Tryz.underlying35 rfl) (d_val rfl (wg rfl rfl rfl) rfl rfl (fun zw hx => py_neq rfl rfl) (d_end rfl (wn rfl) rfl rfl (py_pickF rfl rfl) (d_nil (W_ifd rfl (fun c10 => ?_) (fun c10 => ?_))))))))))))))
      ·refine W_sr (sV rfl (py_assign rfl) (s_nil (W_ret (hQ _ _ (fin1 Tryz.results82 rfl ?_)))))
       exact ⟨H6.ext, congrArg (Value.int .i64) ((if_neg (by omega)).trans (if_neg (by rw [← fine_eq]; first | (simp_all <;> omega) | (cases hh : z.On <;> simp_all <;> omega)))).symm⟩
      ·refine W_skip (W_seq (W_seq ?_))
       have hF : (groupsOK z && onOK z && decide (z.Tapes.length = 2)) = true := by rw [← fine_eq]; simp_all <;> omega
       have h2 : z.Tapes.length = 2 := by simp_all <;> omega
       obtain ⟨eb7, eo15, es7, ef7, ee7, ec7, eO7, eH7, em7⟩ := elem_st (H6.seen 2 rfl) 0 (by omega)
       obtain ⟨ea9, ek9, eg9, rfl, eq7, eK7, eo16⟩ := own_Tape eO7
       have eP9 := H6.look1 2 rfl eo16 (fun b hb => eH7 b (by rw [eq7]; simp [hb]))
       have eL9 := own_len_le eo16
       unfold maxLen at eL9
       refine W_reg (sV rfl (py_field Tryz.underlying37 rfl Tryz.sizeOf35 rfl rfl) (sV rfl (py_load Tryz.underlying35 rfl rfl (cell_atL (eP9.box 0 rfl) rfl)) (sV rfl (py_elz Tryz.underlying35 Tryz.sizeOf155 rfl rfl ee7 0 (by omega) (by omega)) (sV rfl (py_field Tryz.underlying155 rfl Tryz.sizeOf82 rfl rfl) (sV rfl (py_load Tryz.underlying82 rfl rfl (at_cell ec7 1 rfl)) (sV rfl (py_len Tryz.underlying82 rfl) (sV rfl (py_gtr rfl rfl) (sV rfl (py_move rfl) (s_case (t := 59) rfl (fun hg9 => ?_) (fun hg9 => ?_))))))))))
       ·try simp only [decide_eq_true_eq, decide_eq_false_iff_not] at hg9
        refine s_skip (wog (b := true) rfl rfl rfl) rfl rfl (s_skip (wog (b := true) rfl rfl rfl) rfl rfl (s_skip (wog (b := true) rfl rfl rfl) rfl rfl (s_skip (wog (b := true) rfl rfl rfl) rfl rfl (s_skip (wog (b := true) rfl rfl rfl) rfl rfl (s_skip (wog (b := true) rfl rfl rfl) rfl rfl (s_skip (wog (b := true) rfl rfl rfl) rfl rfl (sV rfl (py_pickT rfl rfl) (s_nil (W_ift rfl (W_seq ?_))))))))))
        have tq := tapesF_many (z := z) (any_two h2 (by simp only [manyRecs]; simp_all <;> omega))
        refine W_reg (sV rfl (py_assign rfl) (s_nil (W_ret (hQ _ _ (fin1 Tryz.results82 rfl ?_)))))
        exact ⟨eP9.ext, congrArg (Value.int .i64) ((if_neg (by omega)).trans ((if_pos hF).trans ((if_pos (by omega)).trans tq))).symm⟩
       ·try simp only [decide_eq_true_eq, decide_eq_false_iff_not] at hg9
        refine s_val (wg rfl rfl rfl) rfl rfl (py_field Tryz.underlying37 rfl Tryz.sizeOf35 rfl rfl) (s_val (wg rfl rfl rfl) rfl rfl (py_load Tryz.underlying35 rfl rfl (cell_atL (eP9.box 0 rfl) rfl)) ?_)
        obtain ⟨eb8, eo17, es8, ef8, ee8, ec8, eO8, eH8, em8⟩ := elem_st (eP9.seen 2 rfl) 1 (by omega)
        obtain ⟨ea10, ek10, eg10, rfl, eq8, eK8, eo18⟩ := own_Tape eO8
        have eP10 := eP9.look1 2 rfl eo18 (fun b hb => eH8 b (by rw [eq8]; simp [hb]))
        have eL10 := own_len_le eo18
        unfold maxLen at eL10
        refine s_val (wg rfl rfl rfl) rfl rfl (py_elz Tryz.underlying35 Tryz.sizeOf155 rfl rfl ee8 1 (by omega) (by omega)) (s_val (wg rfl rfl rfl) rfl rfl (py_field Tryz.underlying155 rfl Tryz.sizeOf82 rfl rfl) (s_val (wg rfl rfl rfl) rfl rfl (py_load Tryz.underlying82 rfl rfl (at_cell ec8 1 rfl)) (s_val (wg rfl rfl rfl) rfl rfl (py_len Tryz.underlying82 rfl) (s_val (wg rfl rfl rfl) rfl rfl (py_gtr rfl rfl) (sV rfl (py_pickF rfl rfl) (s_nil (W_ifd rfl (fun c11 => ?_) (fun c11 => ?_))))))))
        ·refine W_seq ?_
         have tq := tapesF_many (z := z) (any_two h2 (by simp only [manyRecs]; simp_all <;> omega))
         refine W_reg (sV rfl (py_assign rfl) (s_nil (W_ret (hQ _ _ (fin1 Tryz.results82 rfl ?_)))))
         exact ⟨eP10.ext, congrArg (Value.int .i64) ((if_neg (by omega)).trans ((if_pos hF).trans ((if_pos (by omega)).trans tq))).symm⟩
        ·refine W_skip (W_seq (W_seq ?_))
         have hM : z.Tapes.any manyRecs = false := any_neither h2 (by simp only [manyRecs]; simp_all <;> omega) (by simp only [manyRecs]; simp_all <;> omega)
         refine W_reg (sV rfl (py_assign rfl) (s_nil (W_block (W_loopS (γ := Nat) eP10 [(1, _)] ⟨rfl, trivial⟩ (fun k => [(4, .int .i64 k)]) (fun k => k ≤ z.Tapes.length ∧ tapeF z.Shape z.Tapes k = 0) (fun k => z.Tapes.length - k) 0 ⟨rfl, trivial⟩ ⟨by omega, rfl⟩ (fun k w12 H14 ⟨hk, hkz⟩ => ?_)))))
         dsimp only [List.cons_append, List.nil_append]
         refine W_seq (W_sr (sV rfl (py_move rfl) (sV rfl (py_lss rfl rfl) (s_nil (W_ifd rfl (fun c12 => ?_) (fun c12 => ?_))))))
         ·refine W_skip (W_seq (W_block (W_sr (sV rfl (py_assign rfl) (s_nil (W_block (W_loopS (γ := Nat) H14 [(1, _), (4, _)] ⟨rfl, rfl, trivial⟩ (fun k2 => [(5, .int .i64 k2)]) (fun k2 => k2 ≤ (z.Tapes.getD k default).Recs.length ∧ recsF z.Shape (z.Tapes.getD k default).Recs k2 = 0) (fun k2 => (z.Tapes.getD k default).Recs.length - k2) 0 ⟨rfl, trivial⟩ ⟨by omega, rfl⟩ (fun k2 w13 H15 ⟨hk2, hk2z⟩ => ?_))))))))
          dsimp only [List.cons_append, List.nil_append]
          refine W_seq (W_seq ?_)
          obtain ⟨eb9, eo19, es9, ef9, ee9, ec9, eO9, eH9, em9⟩ := elem_st (H15.seen 2 rfl) k (by omega)
          obtain ⟨ea11, ek11, eg11, rfl, eq9, eK9, eo20⟩ := own_Tape eO9
          have eP11 := H15.look1 2 rfl eo20 (fun b hb => eH9 b (by rw [eq9]; simp [hb]))
          have eL11 := own_len_le eo20
          unfold maxLen at eL11
          refine W_reg (sV rfl (py_move rfl) (sV rfl (py_field Tryz.underlying37 rfl Tryz.sizeOf35 rfl rfl) (sV rfl (py_load Tryz.underlying35 rfl rfl (cell_atL (eP11.box 0 rfl) rfl)) (sV rfl (py_move rfl) (sV rfl (py_elz Tryz.underlying35 Tryz.sizeOf155 rfl rfl ee9 k (by omega) (by omega)) (sV rfl (py_field Tryz.underlying155 rfl Tryz.sizeOf82 rfl rfl) (sV rfl (py_load Tryz.underlying82 rfl rfl (at_cell ec9 1 rfl)) (sV rfl (py_len Tryz.underlying82 rfl) (sV rfl (py_lss rfl rfl) (s_nil (W_ifd rfl (fun c13 => ?_) (fun c13 => ?_))))))))))))
          ·refine W_skip (W_seq (W_block (W_seq ?_)))
           obtain ⟨eb10, eo21, es10, ef10, ee10, ec10, eO10, eH10, em10⟩ := elem_st (eP11.seen 2 rfl) k (by omega)
           obtain ⟨ea12, ek12, eg12, rfl, eq10, eK10, eo22⟩ := own_Tape eO10
           have eP12 := eP11.look1 2 rfl eo22 (fun b hb => eH10 b (by rw [eq10]; simp [hb]))
           have eL12 := own_len_le eo22
           unfold maxLen at eL12
           obtain ⟨eb11, eo23, es11, ef11, ee11, ec11, eO11, eH11, em11⟩ := elem_st (eP12.seen 6 rfl) k2 (by omega)
           obtain ⟨ea13, ek13, ea14, ek14, ea15, ek15, eg13, eg14, eg15, rfl, eq11, eK11, eo24, eo25, eo26⟩ := own_Rec eO11
           have eK11U := eK11
           unfold Rec.Ok at eK11U
           try unfold I64ok at eK11U
           try unfold maxLen at eK11U
           have eP13 := eP12.look1 6 rfl eo24 (fun b hb => eH11 b (by rw [eq11]; simp [hb]))
           have eL13 := own_len_le eo24
           unfold maxLen at eL13
           have eP14 := eP13.look1 6 rfl eo25 (fun b hb => eH11 b (by rw [eq11]; simp [hb]))
           have eL14 := own_len_le eo25
           unfold maxLen at eL14
           have eP15 := eP14.look1 6 rfl eo26 (fun b hb => eH11 b (by rw [eq11]; simp [hb]))
           have eL15 := own_len_le eo26
           unfold maxLen at eL15
           refine W_drw (S := Ext No _) [(0, true), (1, true), (2, true), (3, true), (4, true), (5, true), (6, true), (7, true), (8, true), (9, true), (10, true), (11, false), (12, false)] (by kernel_rfl) (by kernel_rfl) (by kernel_rfl) rfl (fun _ => Ext.refl.drawn _) (fun q3 => ?_)
           have H16 := eP15.drawn q3
           refine dV rfl rfl (fun zw hx => py_field Tryz.underlying37 rfl Tryz.sizeOf33 rfl rfl) (dV rfl rfl (fun zw hx => py_loadS Tryz.underlying33 rfl Tryz.sizeOf33 rfl rfl (At.sub (hx.heap (H16.box 0 rfl)) 9)) (dV rfl rfl (fun zw hx => py_field Tryz.underlying37 rfl Tryz.sizeOf35 rfl rfl) (dV rfl rfl (fun zw hx => py_load Tryz.underlying35 rfl rfl (cell_atL (hx.heap (H16.box 0 rfl)) rfl)) (dV rfl rfl (fun zw hx => py_move rfl) (dV rfl rfl (fun zw hx => py_elz Tryz.underlying35 Tryz.sizeOf155 rfl rfl ee10 k (by omega) (by omega)) (dV rfl rfl (fun zw hx => py_field Tryz.underlying155 rfl Tryz.sizeOf82 rfl rfl) (dV rfl rfl (fun zw hx => py_load Tryz.underlying82 rfl rfl (at_cell (hx.at ec10) 1 rfl)) (dV rfl rfl (fun zw hx => py_move rfl) (dV rfl rfl (fun zw hx => py_elz Tryz.underlying82 Tryz.sizeOf66 rfl rfl ee11 k2 (by omega) (by omega)) (dV rfl rfl (fun zw hx => py_loadS Tryz.underlying66 rfl Tryz.sizeOf66 rfl rfl (hx.at ec11)) (d_call rfl (wn rfl) rfl rfl (pc_call Tryz.func108 rfl Tryz_nm108 rfl) (Tryz_spec_RecFault (by assumption) (H16.sees 7 rfl) (H16.sees 8 rfl) (H16.sees 9 rfl)) (fun hS _ _ r _ => hS.trans r.1.no) (fun v8 w14 r8 => ?_))))))))))))
           obtain ⟨e9, rfl⟩ := r8
           have H17 := H16.to e9
           refine d_end rfl (wn rfl) rfl rfl (py_assign rfl) (d_nil (W_sr (sV rfl (py_move rfl) (sV rfl (py_neq rfl rfl) (s_nil (W_ifd rfl (fun c14 => ?_) (fun c14 => ?_)))))))
           ·refine W_sr (sV rfl (py_move rfl) (sV rfl (py_assign rfl) (s_nil (W_ret (hQ _ _ (fin1 Tryz.results82 rfl ?_))))))
            have tq := tapesF_rec hM (k := k) (k2 := k2) (by omega) hkz (by omega) hk2z (by omega)
            exact ⟨H17.ext, congrArg (Value.int .i64) ((if_neg (by omega)).trans (((if_neg (by omega)).trans ((if_pos hF).trans ((if_pos (by omega)).trans tq)))).symm)⟩
           ·refine W_skip (W_reg (sV rfl (py_move rfl) (sV rfl (py_add rfl rfl (in64 ⟨by omega, by omega⟩)) (sV rfl (py_assign rfl) (s_nil (⟨k2 + 1, ⟨rfl, rfl, rfl, trivial⟩, ⟨(H17.ftake 5), by omega, (recsF_next hk2z).trans (by omega)⟩, by dsimp only; omega⟩))))))
          ·refine W_exit (W_reg (sV rfl (py_move rfl) (sV rfl (py_add rfl rfl (in64 ⟨by omega, by omega⟩)) (sV rfl (py_assign rfl) (s_nil ?_)))))
           obtain rfl : k2 = (z.Tapes.getD k default).Recs.length := by omega
           refine ⟨k + 1, ⟨rfl, rfl, trivial⟩, ⟨(eP11.ftake 5), by omega, (tapeF_next hkz).trans hk2z⟩, by dsimp only; omega⟩
         ·refine W_exit (W_seq (W_seq ?_))
          obtain rfl : k = z.Tapes.length := by omega
          have hAll := hkz
          refine W_reg (sV rfl (py_assign rfl) (s_nil (W_block (W_loopS (γ := Nat) H14 [(1, _)] ⟨rfl, trivial⟩ (fun k => [(7, .int .i64 k)]) (fun k => k ≤ 2 ∧ (∀ i, i < k → wipedFull (z.Tapes.getD i default) = false)) (fun k => 2 - k) 0 ⟨rfl, trivial⟩ ⟨by omega, fun i hi => by omega⟩ (fun k w15 H18 ⟨hk, hek⟩ => ?_)))))
          dsimp only [List.cons_append, List.nil_append]
          refine W_seq (W_sr (sV rfl (py_move rfl) (sV rfl (py_lss rfl rfl) (s_nil (W_ifd rfl (fun c15 => ?_) (fun c15 => ?_))))))
          ·refine W_skip (W_seq (W_block (W_seq ?_)))
           obtain ⟨eb12, eo27, es12, ef12, ee12, ec12, eO12, eH12, em12⟩ := elem_st (H18.seen 2 rfl) k (by omega)
           obtain ⟨ea16, ek16, eg16, rfl, eq12, eK12, eo28⟩ := own_Tape eO12
           have eP16 := H18.look1 2 rfl eo28 (fun b hb => eH12 b (by rw [eq12]; simp [hb]))
           have eL16 := own_len_le eo28
           unfold maxLen at eL16
           refine W_reg (sV rfl (py_field Tryz.underlying37 rfl Tryz.sizeOf35 rfl rfl) (sV rfl (py_load Tryz.underlying35 rfl rfl (cell_atL (eP16.box 0 rfl) rfl)) (sV rfl (py_move rfl) (sV rfl (py_elz Tryz.underlying35 Tryz.sizeOf155 rfl rfl ee12 k (by omega) (by omega)) (sV rfl (py_field Tryz.underlying155 rfl Tryz.sizeOf4 rfl rfl) (sV rfl (py_load Tryz.underlying4 rfl rfl (at_cell ec12 0 rfl)) (sV rfl (py_move rfl) (s_case (t := 108) rfl (fun hg10 => ?_) (fun hg10 => ?_)))))))))
           ·try simp only [decide_eq_true_eq, decide_eq_false_iff_not] at hg10
            refine s_val (wg rfl rfl rfl) rfl rfl (py_field Tryz.underlying37 rfl Tryz.sizeOf35 rfl rfl) (s_val (wg rfl rfl rfl) rfl rfl (py_load Tryz.underlying35 rfl rfl (cell_atL (eP16.box 0 rfl) rfl)) (s_val (wg rfl rfl rfl) rfl rfl (py_move rfl) (s_val (wg rfl rfl rfl) rfl rfl (py_elz Tryz.underlying35 Tryz.sizeOf155 rfl rfl ee12 k (by omega) (by omega)) (s_val (wg rfl rfl rfl) rfl rfl (py_field Tryz.underlying155 rfl Tryz.sizeOf82 rfl rfl) (s_val (wg rfl rfl rfl) rfl rfl (py_load Tryz.underlying82 rfl rfl (at_cell ec12 1 rfl)) (s_val (wg rfl rfl rfl) rfl rfl (py_len Tryz.underlying82 rfl) (s_val (wg rfl rfl rfl) rfl rfl (py_gtr rfl rfl) (sV rfl (py_pickT rfl rfl) (s_nil (W_ifd rfl (fun c16 => ?_) (fun c16 => ?_)))))))))))
            ·refine W_sr (sV rfl (py_assign rfl) (s_nil (W_ret (hQ _ _ (fin1 Tryz.results82 rfl ?_)))))
             have tq := tapesF_full hM hAll (any_at k (by omega) (by rw [wipedFull]; simp_all <;> omega))
             exact ⟨eP16.ext, congrArg (Value.int .i64) ((if_neg (by omega)).trans ((if_pos hF).trans ((if_pos (by omega)).trans tq))).symm⟩
            ·refine W_skip (W_reg (sV rfl (py_move rfl) (sV rfl (py_add rfl rfl (in64 ⟨by omega, by omega⟩)) (sV rfl (py_assign rfl) (s_nil (⟨k + 1, ⟨rfl, rfl, trivial⟩, ⟨(eP16.ftake 5), by omega, fun i hi => ?_⟩, by dsimp only; omega⟩))))))
             by_cases e : i = k
             ·subst e; rw [wipedFull]; simp_all <;> omega
             ·exact hek i (by omega)
           ·try simp only [decide_eq_true_eq, decide_eq_false_iff_not] at hg10
            refine s_skip (wog (b := false) rfl rfl rfl) rfl rfl (s_skip (wog (b := false) rfl rfl rfl) rfl rfl (s_skip (wog (b := false) rfl rfl rfl) rfl rfl (s_skip (wog (b := false) rfl rfl rfl) rfl rfl (s_skip (wog (b := false) rfl rfl rfl) rfl rfl (s_skip (wog (b := false) rfl rfl rfl) rfl rfl (s_skip (wog (b := false) rfl rfl rfl) rfl rfl (s_skip (wog (b := false) rfl rfl rfl) rfl rfl (sV rfl (py_pickF rfl rfl) (s_nil (W_iff rfl (W_skip (W_reg (sV rfl (py_move rfl) (sV rfl (py_add rfl rfl (in64 ⟨by omega, by omega⟩)) (sV rfl (py_assign rfl) (s_nil (⟨k + 1, ⟨rfl, rfl, trivial⟩, ⟨(eP16.ftake 5), by omega, fun i hi => ?_⟩, by dsimp only; omega⟩)))))))))))))))))
            by_cases e : i = k
            ·subst e; rw [wipedFull]; simp_all <;> omega
            ·exact hek i (by omega)
          ·refine W_exit (W_seq (W_seq ?_))
           have tq := tapesF_ok hM hAll (any_none (fun i hi => hek i (by omega)))
           refine W_reg (sV rfl (py_field Tryz.underlying37 rfl Tryz.sizeOf2 rfl rfl) (sV rfl (py_load Tryz.underlying2 rfl rfl (cell_atL (H18.box 0 rfl) rfl)) (s_call (wn rfl) rfl rfl (pc_call Tryz.func149 rfl Tryz_nm149 rfl) Tryz_spec_l1In (fun v9 w16 r9 => ?_))))
           obtain ⟨e10, rfl⟩ := r9
           have H19 := H18.to e10
           refine sV rfl (py_not rfl) (sV rfl (py_move rfl) (s_case (t := 122) rfl (fun hg11 => ?_) (fun hg11 => ?_)))
           ·try simp only [decide_eq_true_eq, decide_eq_false_iff_not] at hg11
            refine s_skip (wog (b := true) rfl rfl rfl) rfl rfl (s_skip (wog (b := true) rfl rfl rfl) rfl rfl (s_skip (wog (b := true) rfl rfl rfl) rfl rfl (s_skip (wog (b := true) rfl rfl rfl) rfl rfl (sV rfl (py_pickT rfl rfl) (s_nil (W_ift rfl (W_sr (sV rfl (py_assign rfl) (s_nil (W_ret (hQ _ _ (fin1 Tryz.results82 rfl ?_))))))))))))
            exact ⟨H19.ext, congrArg (Value.int .i64) ((if_neg (by omega)).trans ((if_pos hF).trans ((if_neg (by omega)).trans (if_neg (by simp_all <;> omega))))).symm⟩
           ·try simp only [decide_eq_true_eq, decide_eq_false_iff_not] at hg11
            refine s_val (wg rfl rfl rfl) rfl rfl (py_field Tryz.underlying37 rfl Tryz.sizeOf2 rfl rfl) (s_val (wg rfl rfl rfl) rfl rfl (py_load Tryz.underlying2 rfl rfl (cell_atL (H19.box 0 rfl) rfl)) (s_call (wg rfl rfl rfl) rfl rfl (pc_call Tryz.func149 rfl Tryz_nm149 rfl) Tryz_spec_l1In (fun v10 w17 r10 => ?_)))
            obtain ⟨e11, rfl⟩ := r10
            have H20 := H19.to e11
            refine s_val (wg rfl rfl rfl) rfl rfl (py_not rfl) (sV rfl (py_pickF rfl rfl) (s_nil (W_if rfl (fun c17 => ?_) (fun c17 => ?_))))
            ·refine W_sr (sV rfl (py_assign rfl) (s_nil (W_ret (hQ _ _ (fin1 Tryz.results82 rfl ?_)))))
             exact ⟨H20.ext, congrArg (Value.int .i64) ((if_neg (by omega)).trans ((if_pos hF).trans ((if_neg (by omega)).trans (if_neg (by simp_all <;> omega))))).symm⟩
            ·refine W_skip (W_sr (sV rfl (py_assign rfl) (s_nil (W_ret (hQ _ _ (fin1 Tryz.results82 rfl ?_))))))
             exact ⟨H20.ext, congrArg (Value.int .i64) ((if_neg (by omega)).trans ((if_pos hF).trans ((if_neg (by omega)).trans (if_pos (by simp_all <;> omega))))).symm⟩
theorem Tryz_spec_l5Asked {w : World} {z : Wld} {zA9 : Option Addr} {zC9 : Nat} {zA10 : Option Addr} {zC10 : Nat} {zA11 : Option Addr} {zC11 : Nat} (zK : z.Ok) (zS9 : Sees w [.slice zA9 z.Groups.length zC9] z.Groups) (zS10 : Sees w [.slice zA10 z.On.length zC10] z.On) (zS11 : Sees w [.slice zA11 z.Tapes.length zC11] z.Tapes) : Ret Tryz.prog 99 #[z.val zA9 zC9 zA10 zC10 zA11 zC11] w fun v w' => Ext No w w' ∧ (v = .int .i64 (upF z)) := by
 have zK2 := zK
 unfold Wld.Ok Shape.Ok at zK2
 try unfold I64ok at zK2
 try unfold maxLen at zK2
 have zL9 := sees_len zS9
 unfold maxLen at zL9
 obtain ⟨zF9, zO9⟩ := zS9
 have zL10 := sees_len zS10
 unfold maxLen at zL10
 obtain ⟨zF10, zO10⟩ := zS10
 have zL11 := sees_len zS11
 unfold maxLen at zL11
 obtain ⟨zF11, zO11⟩ := zS11
 refine ret_Q (vs := [z.val zA9 zC9 zA10 zC10 zA11 zC11]) Tryz.func99 rfl Tryz.ntmps99 rfl (fun Q hQ hN => ?_)
 have H0 := Sep.start (w := w) (F := [seen false [.slice zA9 z.Groups.length zC9] z.Groups zF9, seen false [.slice zA10 z.On.length zC10] z.On zF10, seen false [.slice zA11 z.Tapes.length zC11] z.Tapes zF11]) (all_cons zO9 (all_cons zO10 (all_cons zO11 (by simp))))
 refine W_sr (s_box (wn rfl) rfl rfl H0 (fun b1 w1 e1 g1 H1 => ?_))
 refine sV rfl (py_assign rfl) (s_nil (W_seq (W_sr (sV rfl (py_loadS Tryz.underlying37 rfl Tryz.sizeOf37 rfl rfl (At.whole (H1.box 0 rfl))) (s_call (wn rfl) rfl rfl (pc_call Tryz.func82 rfl Tryz_nm82 rfl) (Tryz_spec_WorldFault (by assumption) (H1.sees 0 rfl) (H1.sees 1 rfl) (H1.sees 2 rfl)) (fun v1 w2 r1 => ?_))))))
 obtain ⟨e2, rfl⟩ := r1
 have H2 := H1.to e2
 refine sV rfl (py_assign rfl) (s_nil (W_sr (sV rfl (py_move rfl) (sV rfl (py_neq rfl rfl) (s_nil (W_ifd rfl (fun c1 => ?_) (fun c1 => ?_)))))))
 ·refine W_sr (sV rfl (py_move rfl) (sV rfl (py_assign rfl) (s_nil (W_ret (hQ _ _ (fin1 Tryz.results99 rfl ?_))))))
  exact ⟨H2.ext, congrArg (Value.int .i64) (if_pos (by omega)).symm⟩
 ·refine W_skip (W_seq (W_sr (sV rfl (py_field Tryz.underlying37 rfl Tryz.sizeOf4 rfl rfl) (sV rfl (py_load Tryz.underlying4 rfl rfl (cell_atL (H2.box 0 rfl) rfl)) (s_nil (W_if rfl (fun c2 => ?_) (fun c2 => ?_)))))))
  ·refine W_sr (sV rfl (py_assign rfl) (s_nil (W_ret (hQ _ _ (fin1 Tryz.results99 rfl ?_)))))
   exact ⟨H2.ext, congrArg (Value.int .i64) ((if_neg (by omega)).trans (if_pos (by assumption))).symm⟩
  ·refine W_skip (W_sr (sV rfl (py_assign rfl) (s_nil (W_ret (hQ _ _ (fin1 Tryz.results99 rfl ?_))))))
   exact ⟨H2.ext, congrArg (Value.int .i64) ((if_neg (by omega)).trans (if_neg (by simp_all <;> omega))).symm⟩
end Go.Wk
namespace Go.Wk
section
variable {z : Wld} {s : Shape} {r : Rec} {g row d : Int}
theorem shape_cd : 0 ≤ s.fault ∧ s.fault ≤ 3 := by unfold Shape.fault; split <;> omega
theorem name_cd {b : ByteArray} : 0 ≤ nameFault b ∧ nameFault b ≤ 5 := by unfold nameFault; split <;> omega
theorem kindF_cd : 0 ≤ kindF s r ∧ kindF s r ≤ 5 := by
  have := name_cd (b := r.Name)
  unfold kindF
  repeat' split
  all_goals omega
theorem recF_cd : 0 ≤ recF s r ∧ recF s r ≤ 5 := by
  have := kindF_cd (s := s) (r := r)
  unfold recF
  repeat' split
  all_goals omega
theorem recsF_cd {rs : List Rec} : ∀ k, 0 ≤ recsF s rs k ∧ recsF s rs k ≤ 5
  | 0 => by simp [recsF]
  | k + 1 => by
    have h1 := recsF_cd (rs := rs) k
    have h2 := recF_cd (s := s) (r := rs.getD k default)
    rw [recsF]
    split <;> omega
theorem tapeF_cd {ts : List Tape} : ∀ k, 0 ≤ tapeF s ts k ∧ tapeF s ts k ≤ 5
  | 0 => by simp [tapeF]
  | k + 1 => by
    have h1 := tapeF_cd (ts := ts) k
    have h2 := recsF_cd (s := s) (rs := (ts.getD k default).Recs) (ts.getD k default).Recs.length
    rw [tapeF]
    split <;> omega
theorem tapesF_cd : 0 ≤ tapesF z ∧ tapesF z ≤ 5 := by
  have := tapeF_cd (s := z.Shape) (ts := z.Tapes) z.Tapes.length
  unfold tapesF
  repeat' split
  all_goals omega
theorem worldF_cd : 0 ≤ worldF z ∧ worldF z ≤ 5 := by
  have h1 := shape_cd (s := z.Shape)
  have h2 := tapesF_cd (z := z)
  unfold worldF
  repeat' split
  all_goals omega
theorem upF_cd : 0 ≤ upF z ∧ upF z ≤ 9 := by
  have h1 := worldF_cd (z := z)
  unfold upF
  repeat' split
  all_goals omega
end
end Go.Wk
namespace Go.Wk
open Rp (sz own)
def cat (r q : Rsc) : Rsc := ⟨r.fp ++ q.fp, fun w => r.φ w ∧ q.φ w, fun h k => ⟨r.st h.1 fun b hb => k b (by simp [hb]), q.st h.2 fun b hb => k b (by simp [hb])⟩, fun h b hb => (List.mem_append.1 hb).elim (r.lt h.1 b) (q.lt h.2 b)⟩
section
variable {M : Nat → Prop} {w0 w w' : World} {Δ F : List Rsc}
theorem Sep.join2 (h : Sep M w0 Δ F w) (i j : Nat) {r q : Rsc} (hi : Δ[i]? = some r) (hj : Δ[j]? = some q) (hij : Nat.beq j i = false) : Sep M w0 ((Δ.set j gone).set i (cat r q)) F w :=
  h.set2 hi hj hij Ext.refl (q := cat r q) ⟨h.r i hi, h.r j hj⟩ (List.nodup_append.2 ⟨h.nodup1 hi, h.nodup1 hj, fun a ha b hb e => by subst e; exact h.apart hi hj hij a hb ha⟩)
    fun b hb => (List.mem_append.1 hb).elim .inl fun h => .inr (.inl h)
theorem Sep.conv (h : Sep M w0 Δ F w) (i : Nat) {r : Rsc} (q : Rsc) (hi : Δ[i]? = some r) (hq : q.φ w) (hfp : ∀ b ∈ q.fp, b ∈ r.fp) (hn : q.fp.Nodup) : Sep M w0 (Δ.set i q) F w :=
  h.set hi Ext.refl hq hn fun b hb => .inl (hfp b hb)
theorem Sep.partLast {A : List Rsc} {r : Rsc} (h : Sep M w0 (A ++ [r]) F w) (rs : List Rsc) (hrs : ∀ q ∈ rs, q.φ w) (hb : blocks rs = r.fp) : Sep M w0 (A ++ gone :: rs) F w := by
  have H := h.part A.length (r := r) (by simp) rs hrs hb
  rw [show (A ++ [r]).set A.length gone = A ++ [gone] by simp] at H
  simpa using H
def hol {α : Type} [Rp α] (ad : Option Addr) (n cap : Nat) (xs : List α) (k b off : Nat) (T : TypeId) (ck : List Value) (f1 f2 : List Nat) : Rsc :=
  ⟨b :: (f1 ++ f2), fun w => ∃ cur : Array Value, w.heap[b]? = some (.cells cur T (0, 0)) ∧ off + sz α ≤ cur.size ∧ (cur.toList.drop off).take (sz α) = ck ∧ (∀ x ∈ b :: (f1 ++ f2), x < w.heap.size) ∧
    ∀ w' cur' x' fk', w'.heap[b]? = some (.cells cur' T (0, 0)) → cur'.size = cur.size → (∀ j, j < off ∨ off + sz α ≤ j → cur'[j]? = cur[j]?) → (∀ b ∈ f1, w'.heap[b]? = w.heap[b]?) → (∀ b ∈ f2, w'.heap[b]? = w.heap[b]?) →
        own true w' ((cur'.toList.drop off).take (sz α)) x' fk' → own true w' [.slice ad n cap] (xs.set k x') (b :: (f1 ++ (fk' ++ f2))),
   fun h e => by
      obtain ⟨cur, h1, h2, h3, h4, h5⟩ := h
      refine ⟨cur, (e b (by simp)).trans h1, h2, h3, fun x hx => ?_, fun w' cur' x' fk' q1 q2 q3 q4 q5 q6 => h5 w' cur' x' fk' q1 q2 q3 (fun b hb => (q4 b hb).trans (e b (by simp [hb]))) (fun b hb => (q5 b hb).trans (e b (by simp [hb]))) q6⟩
      have h7 := h4 x hx
      have h8 := e x hx
      rw [Array.getElem?_eq_getElem h7] at h8
      exact (Array.getElem?_eq_some_iff.1 h8).1,
   fun h => by obtain ⟨_, _, _, _, h, _⟩ := h; exact h⟩
variable {α : Type} [Rp α]
theorem Sep.focus {d : α} (h : Sep M w0 Δ F w) (i : Nat) {ad n cap} {xs : List α} {fp} (hi : Δ[i]? = some (Wk.mine [.slice ad n cap] xs fp)) (k : Nat) (hk : k < xs.length) :
    ∃ b o T ck f1 f2 fk, ad = some ⟨b, o, none⟩ ∧ own true w ck (xs.getD k d) fk ∧ Sep M w0 (Δ.set i (hol ad n cap xs k b (o + k * sz α) T ck f1 f2) ++ [Wk.mine ck (xs.getD k d) fk]) F w := by
  have hnd := h.nodup1 hi
  obtain ⟨b, o, cur, T, f1, fk, f2, e1, e2, hb, hsz, hx, hback⟩ := own_zoom (h.mine i hi) k hk
  have hlt := Rp.lt (h.mine i hi)
  have hk1 : (k + 1) * sz α = k * sz α + sz α := by rw [Nat.add_mul, Nat.one_mul]
  change fp.Nodup at hnd
  subst e2
  obtain ⟨n1, n2⟩ := List.nodup_cons.1 hnd
  rw [List.nodup_append, List.nodup_append] at n2
  obtain ⟨d1, ⟨d2, d3, d4⟩, d5⟩ := n2
  have hmem : ∀ x, x ∈ (b :: (f1 ++ f2)) ++ fk ↔ x ∈ b :: (f1 ++ (fk ++ f2)) := fun x => by
    simp only [List.cons_append, List.mem_cons, List.mem_append]
    constructor
    · rintro (h | (h | h) | h)
      · exact .inl h
      · exact .inr (.inl h)
      · exact .inr (.inr (.inr h))
      · exact .inr (.inr (.inl h))
    · rintro (h | h | h | h)
      · exact .inl h
      · exact .inr (.inl (.inl h))
      · exact .inr (.inr h)
      · exact .inr (.inl (.inr h))
  have H1 := h.set hi (q := reord (Wk.mine [.slice ad n cap] xs (b :: (f1 ++ (fk ++ f2)))) ((b :: (f1 ++ f2)) ++ fk) hmem) Ext.refl (h.mine i hi)
    (by
      change ((b :: (f1 ++ f2)) ++ fk).Nodup
      refine List.nodup_append.2 ⟨List.nodup_cons.2 ⟨fun hm => n1 (by rcases List.mem_append.1 hm with hm | hm <;> simp [hm]), List.nodup_append.2 ⟨d1, d3, fun p hp q hq e => d5 p hp q (by simp [hq]) e⟩⟩, d2, fun p hp q hq e => ?_⟩
      subst e
      rcases List.mem_cons.1 hp with rfl | hp
      · exact n1 (by simp [hq])
      · rcases List.mem_append.1 hp with hp | hp
        · exact d5 p hp p (by simp [hq]) rfl
        · exact d4 p hq p hp rfl)
    (fun x hx => .inl ((hmem x).1 hx))
  have hil : i < Δ.length := (List.getElem?_eq_some_iff.1 hi).1
  have ek : xs.getD k d = xs[k] := by simp [List.getD, hk]
  refine ⟨b, o, T, _, f1, f2, fk, e1, by rw [ek]; exact hx, ?_⟩
  have H2 := H1.part i (r := reord (Wk.mine [.slice ad n cap] xs (b :: (f1 ++ (fk ++ f2)))) ((b :: (f1 ++ f2)) ++ fk) hmem) (by rw [List.getElem?_set_self hil]) [hol ad n cap xs k b (o + k * sz α) T ((cur.toList.drop (o + k * sz α)).take (sz α)) f1 f2, Wk.mine ((cur.toList.drop (o + k * sz α)).take (sz α)) (xs.getD k d) fk] ?_ ?_
  · rw [List.set_set] at H2
    exact (H2.perm (set_swap hil)).sub ((List.Sublist.refl _).append (.cons _ (.refl _)))
  · refine all_cons ⟨cur, hb, hsz, rfl, fun x hx => hlt x ((hmem x).1 (by simp only [List.mem_append]; exact .inl hx)), fun w' cur' x' fk' q1 q2 q3 q4 q5 q6 => hback w' cur' x' fk' q1 q2 (fun j hj => q3 j (by rw [hk1] at hj; omega)) q4 q5 q6⟩ (all_cons ?_ (by simp))
    rw [ek]; exact hx
  · simp [blocks, hol, Wk.mine, reord]
variable {ad : Option Addr} {n cap k b off : Nat} {xs : List α} {T : TypeId} {ck : List Value} {f1 f2 : List Nat}
theorem Sep.holAt (h : Sep M w0 Δ F w) (i : Nat) (hi : Δ[i]? = some (hol ad n cap xs k b off T ck f1 f2)) : At w b off ck := by
  obtain ⟨cur, h1, h2, h3, _⟩ := h.r i hi
  rw [← h3]
  exact cells_at h1 _
theorem Sep.hset (h : Sep M w0 Δ F w) (i : Nat) (hi : Δ[i]? = some (hol ad n cap xs k b off T ck f1 f2)) (j : Nat) (hj : j < ck.length) (v : Value) :
    ∃ cur : Array Value, w.heap[b]? = some (.cells cur T (0, 0)) ∧ off + j < cur.size ∧ Sep M w0 (Δ.set i (hol ad n cap xs k b off T (ck.set j v) f1 f2)) F (Wk.put w b (.cells (cur.setIfInBounds (off + j) v) T (0, 0))) := by
  obtain ⟨cur, h1, h2, h3, h4, h5⟩ : (hol ad n cap xs k b off T ck f1 f2).φ w := h.r i hi
  have hnd := h.nodup1 hi
  change (b :: (f1 ++ f2)).Nodup at hnd
  obtain ⟨n1, _⟩ := List.nodup_cons.1 hnd
  have hjs : j < sz α := by
    have := congrArg List.length h3
    rw [List.length_take, List.length_drop] at this; omega
  have hE : Ext (· = b) w (Wk.put w b (.cells (cur.setIfInBounds (off + j) v) T (0, 0))) := Ext.refl.put (.inl rfl)
  refine ⟨cur, h1, by omega, h.set hi (q := hol ad n cap xs k b off T (ck.set j v) f1 f2) (hE.mono fun b' _ e => by subst e; simp [hol]) ?_ hnd (fun b hb => .inl hb)⟩
  refine ⟨cur.setIfInBounds (off + j) v, put_heap h1, by simpa using h2, ?_, fun x hx => by have := h4 x hx; have := hE.size; omega, fun w' cur' x' fk' q1 q2 q3 q4 q5 q6 => ?_⟩
  · rw [Array.toList_setIfInBounds, List.drop_set, if_neg (by omega), List.take_set, h3, Nat.add_sub_cancel_left]
  · refine h5 w' cur' x' fk' q1 (by simpa using q2) (fun l hl => ?_) (fun b' hb' => ?_) (fun b' hb' => ?_) q6
    · rw [q3 l hl, Array.getElem?_setIfInBounds_ne (by omega)]
    · rw [q4 b' hb']; exact hE.block b' (h4 b' (by simp [hb'])) fun e => n1 (by subst e; simp [hb'])
    · rw [q5 b' hb']; exact hE.block b' (h4 b' (by simp [hb'])) fun e => n1 (by subst e; simp [hb'])
theorem Sep.fill (h : Sep M w0 Δ F w) (i j : Nat) {fk} {x : α} (hi : Δ[i]? = some (hol ad n cap xs k b off T ck f1 f2)) (hj : Δ[j]? = some (Wk.mine ck x fk)) (hij : Nat.beq j i = false) :
    ∃ fp', Sep M w0 ((Δ.set j gone).set i (Wk.mine [.slice ad n cap] (xs.set k x) fp')) F w := by
  obtain ⟨cur, h1, h2, h3, h4, h5⟩ : (hol ad n cap xs k b off T ck f1 f2).φ w := h.r i hi
  have hx := h.mine j hj
  have hnd := h.nodup1 hi
  change (b :: (f1 ++ f2)).Nodup at hnd
  have hnk := h.nodup1 hj
  change fk.Nodup at hnk
  have hap : ∀ x ∈ fk, x ∉ b :: (f1 ++ f2) := fun x hx hm => h.apart (i := i) (j := j) hi hj hij x hx hm
  obtain ⟨n1, n2⟩ := List.nodup_cons.1 hnd
  obtain ⟨d1, d2, d3⟩ := List.nodup_append.1 n2
  have hbk : b ∉ fk := fun hm => hap b hm (by simp)
  refine ⟨b :: (f1 ++ (fk ++ f2)), h.set2 hi hj hij (q := Wk.mine [.slice ad n cap] (xs.set k x) (b :: (f1 ++ (fk ++ f2)))) Ext.refl ?_ ?_ ?_⟩
  · exact h5 w cur x fk h1 rfl (fun _ _ => rfl) (fun _ _ => rfl) (fun _ _ => rfl) (by rw [h3]; exact hx)
  · change (b :: (f1 ++ (fk ++ f2))).Nodup
    refine List.nodup_cons.2 ⟨fun hm => ?_, List.nodup_append.2 ⟨d1, List.nodup_append.2 ⟨hnk, d2, fun p hp q hq e => ?_⟩, fun p hp q hq e => ?_⟩⟩
    · simp only [List.mem_append, not_or] at hm n1
      rcases hm with hm | hm | hm
      · exact n1.1 hm
      · exact hbk hm
      · exact n1.2 hm
    · subst e; exact hap p hp (by simp [hq])
    · subst e
      rcases List.mem_append.1 hq with hq | hq
      · exact hap p hq (by simp [hp])
      · exact d3 p hp p hq rfl
  · intro x hx
    change x ∈ b :: (f1 ++ (fk ++ f2)) at hx
    simp only [List.mem_cons, List.mem_append] at hx
    rcases hx with h | h | h | h
    · exact .inl (by simp [hol, h])
    · exact .inl (by simp [hol, h])
    · exact .inr (.inl h)
    · exact .inl (by simp [hol, h])
theorem Sep.focusL {β : Type} [Rp β] (h : Sep M w0 Δ F w) (i : Nat) {ad n cap} {xs : List (List β)} {fp} (hi : Δ[i]? = some (Wk.mine [.slice ad n cap] xs fp)) (k : Nat) (hk : k < xs.length) :
    ∃ b o T f1 f2 a c fk, ad = some ⟨b, o, none⟩ ∧ Sep M w0 (Δ.set i (hol ad n cap xs k b (o + k * 1) T [.slice a (xs.getD k []).length c] f1 f2) ++ [Wk.mine [.slice a (xs.getD k []).length c] (xs.getD k []) fk]) F w := by
  obtain ⟨b, o, T, ck, f1, f2, fk, e, hx, H⟩ := h.focus (d := ([] : List β)) i hi k hk
  obtain ⟨a, c, rfl⟩ := own_slice hx
  exact ⟨b, o, T, f1, f2, a, c, fk, e, H⟩
end
section
variable {P : Program} {n : Nat} {ops : Array Oper} {Q : Post} {L : Env} {w w0 : World} {M : Nat → Prop} {Δ F : List Rsc} {d : Tmp} {ty : TypeId} {p : String} {af : Array Edge} {g : Option (Nat × Bool)} {α : Type} [Rp α]
theorem s_hsto {rest : List Oper} {t : TypeId} {x y : Operand} {ad : Option Addr} {m cap k b off : Nat} {xs : List α} {T : TypeId} {ck : List Value} {f1 f2 : List Nat} {v : Value} (hw : Wn ops n L ⟨none, .store t x y, ty, p, af, g⟩) (hs : ∀ w, (sizeOf t).run P w = .ok 1 w)
    (H : Sep M w0 Δ F w) (i j : Nat) (hi : Δ[i]? = some (hol ad m cap xs k b off T ck f1 f2)) (hj : Nat.blt j ck.length = true) (hx : evL L x = some (.pointer (some ⟨b, off + j, none⟩))) (hy : evL L y = some v) (h1 : v.oneCell' = true)
    (kk : ∀ w', Sep M w0 (Δ.set i (hol ad m cap xs k b off T (ck.set j v) f1 f2)) F w' → RL P n ops Q rest L w') : RL P n ops Q (⟨none, .store t x y, ty, p, af, g⟩ :: rest) L w := by
  obtain ⟨cur, hb, hlt, H'⟩ := H.hset i hi j (Nat.le_of_ble_eq_true hj) v
  exact s_do hw rfl (pd_store hs hx hy h1 hb hlt) (kk _ H')
end
end Go.Wk
namespace Go.Wk
section
variable {P : Program} {n : Nat} {c : Code} {Q : Post} {L : Env} {w w0 : World} {M : Nat → Prop} {Δ F : List Rsc}
theorem W_loopB {α : Type} [Rp α] {γ : Type} {v0 : Value} {fp0 : List Nat} {b T} {cs : List Value} (f : γ → List α) (g0 : γ) (H : Sep M w0 Δ F w) (i j q : Nat) (hi : Δ[i]? = some (mine [v0] (f g0) fp0)) (hj : Δ[j]? = some (box b (.cells cs.toArray T))) (hq : cs[q]? = some v0) (hij : Nat.beq j i = false)
  (E2 : Env) (h2 : sub L E2) (E : γ → Env) (I : γ → Prop) (μ : γ → Nat) (hs : sub L (E g0)) (h0 : I g0)
  (round : ∀ g v fp w, Sep M w0 ((Δ.set i (mine [v] (f g) fp)).set j (box b (.cells (cs.set q v).toArray T))) F w → I g → W P n c (again (fun x : γ × Value × List Nat => E x.1 ++ E2) (fun x w' => Sep M w0 ((Δ.set i (mine [x.2.1] (f x.1) x.2.2)).set j (box b (.cells (cs.set q x.2.1).toArray T))) F w' ∧ I x.1) (fun x => μ x.1) (g, v, fp) Q) (E g ++ E2) w) : W P n (.loop c) Q L w := by
 have hne : i ≠ j := fun e => by subst e; simp at hij
 have e0 : (Δ.set i (mine [v0] (f g0) fp0)).set j (box b (.cells (cs.set q v0).toArray T)) = Δ := by
  have ec : cs.set q v0 = cs := by
   apply List.ext_getElem?
   intro l
   rw [List.getElem?_set]
   split
   ·rename_i e; subst e
    obtain ⟨hl, _⟩ := List.getElem?_eq_some_iff.1 hq
    rw [if_pos hl, hq]
   ·rfl
  rw [set_getD hi, ec, set_getD hj]
 exact W_loop (fun x : γ × Value × List Nat => E x.1 ++ E2) (fun x w' => Sep M w0 ((Δ.set i (mine [x.2.1] (f x.1) x.2.2)).set j (box b (.cells (cs.set q x.2.1).toArray T))) F w' ∧ I x.1) (fun x => μ x.1) (g0, v0, fp0) (sub_append hs h2) ⟨by rw [e0]; exact H, h0⟩ fun x w h => round x.1 x.2.1 x.2.2 w h.1 h.2
theorem Sep.nilW {α : Type} [Rp α] (h : Sep M w0 Δ F w) : Sep M w0 (Δ ++ [Wk.mine [.slice none 0 0] ([] : List α) []]) F w :=
  h.add Ext.refl (r := Wk.mine [.slice none 0 0] ([] : List α) []) (.inr (.inl ⟨rfl, rfl, rfl⟩)) (by simp [Wk.mine]) (by simp [Wk.mine])
end
end Go.Wk
namespace Go.Wk
open Rp (sz own)
theorem Block.focus {M : Nat → Prop} {w0 w : World} {Δ F : List Rsc} (h : Sep M w0 Δ F w) (i : Nat) {ad n cap} {xs : List Block} {fp} (hi : Δ[i]? = some (mine [.slice ad n cap] xs fp)) (k : Nat) (hk : k < xs.length) : ∃ b o Ty f1 f2 A1 C1 g1, ad = some ⟨b, o, none⟩ ∧ (xs.getD k default).Ok ∧ Sep M w0 (Δ.set i (hol ad n cap xs k b (o + k * sz Block) Ty [.int .i64 (xs.getD k default).Stamp, .slice A1 (xs.getD k default).Bytes.length C1] f1 f2) ++ [gone, mine [.slice A1 (xs.getD k default).Bytes.length C1] (xs.getD k default).Bytes g1]) F w := by
  obtain ⟨b, o, Ty, ck, f1, f2, fk, e, hx, H⟩ := h.focus (d := default) i hi k hk
  obtain ⟨A1, C1, g1, rfl, ef, ok, o1⟩ := own_Block hx
  have H2 := H.partLast [mine [.slice A1 (xs.getD k default).Bytes.length C1] (xs.getD k default).Bytes g1] (all_cons o1 (by simp)) (by simp [blocks, mine, ef])
  exact ⟨b, o, Ty, f1, f2, A1, C1, g1, e, ok, H2⟩
theorem Block.fill {M : Nat → Prop} {w0 w : World} {Δ F : List Rsc} (h : Sep M w0 Δ F w) (i j1 : Nat) {ad n cap k b off Ty f1 f2} {xs : List Block} {s0 : Int} {A1 C1 m1} {y1 : List UInt8} {g1} (hi : Δ[i]? = some (hol ad n cap xs k b off Ty [.int .i64 s0, .slice A1 m1 C1] f1 f2)) (h1 : Δ[j1]? = some (mine [.slice A1 m1 C1] y1 g1)) (d1 : Nat.beq j1 i = false)  (ok : (⟨s0, y1⟩ : Block).Ok) : ∃ fp', Sep M w0 ((Δ.set j1 gone).set i (mine [.slice ad n cap] (xs.set k (⟨s0, y1⟩ : Block)) fp')) F w := by
  have o1 := h.mine j1 h1
  obtain rfl := own_n o1
  have n1 : j1 ≠ i := fun e => by subst e; simp at d1
  have H := h.conv j1 (mine [.int .i64 s0, .slice A1 y1.length C1] (⟨s0, y1⟩ : Block) (g1)) h1 (Block.own_mk ok o1) (fun b hb => hb) (show (mine [.slice A1 y1.length C1] y1 g1).fp.Nodup from h.nodup1 h1)
  obtain ⟨fp', H2⟩ := H.fill i j1 (by rw [List.getElem?_set_ne n1]; exact hi) (by rw [List.getElem?_set_self (List.getElem?_eq_some_iff.1 h1).1]) d1
  rw [List.set_set] at H2
  exact ⟨fp', H2⟩
theorem Drive.focus {M : Nat → Prop} {w0 w : World} {Δ F : List Rsc} (h : Sep M w0 Δ F w) (i : Nat) {ad n cap} {xs : List Drive} {fp} (hi : Δ[i]? = some (mine [.slice ad n cap] xs fp)) (k : Nat) (hk : k < xs.length) : ∃ b o Ty f1 f2 A1 C1 g1, ad = some ⟨b, o, none⟩ ∧ (xs.getD k default).Ok ∧ Sep M w0 (Δ.set i (hol ad n cap xs k b (o + k * sz Drive) Ty [.bool (xs.getD k default).Wiped, .slice A1 (xs.getD k default).Blocks.length C1] f1 f2) ++ [gone, mine [.slice A1 (xs.getD k default).Blocks.length C1] (xs.getD k default).Blocks g1]) F w := by
  obtain ⟨b, o, Ty, ck, f1, f2, fk, e, hx, H⟩ := h.focus (d := default) i hi k hk
  obtain ⟨A1, C1, g1, rfl, ef, ok, o1⟩ := own_Drive hx
  have H2 := H.partLast [mine [.slice A1 (xs.getD k default).Blocks.length C1] (xs.getD k default).Blocks g1] (all_cons o1 (by simp)) (by simp [blocks, mine, ef])
  exact ⟨b, o, Ty, f1, f2, A1, C1, g1, e, ok, H2⟩
theorem Drive.fill {M : Nat → Prop} {w0 w : World} {Δ F : List Rsc} (h : Sep M w0 Δ F w) (i j1 : Nat) {ad n cap k b off Ty f1 f2} {xs : List Drive} {s0 : Bool} {A1 C1 m1} {y1 : List Block} {g1} (hi : Δ[i]? = some (hol ad n cap xs k b off Ty [.bool s0, .slice A1 m1 C1] f1 f2)) (h1 : Δ[j1]? = some (mine [.slice A1 m1 C1] y1 g1)) (d1 : Nat.beq j1 i = false)  (ok : (⟨s0, y1⟩ : Drive).Ok) : ∃ fp', Sep M w0 ((Δ.set j1 gone).set i (mine [.slice ad n cap] (xs.set k (⟨s0, y1⟩ : Drive)) fp')) F w := by
  have o1 := h.mine j1 h1
  obtain rfl := own_n o1
  have n1 : j1 ≠ i := fun e => by subst e; simp at d1
  have H := h.conv j1 (mine [.bool s0, .slice A1 y1.length C1] (⟨s0, y1⟩ : Drive) (g1)) h1 (Drive.own_mk ok o1) (fun b hb => hb) (show (mine [.slice A1 y1.length C1] y1 g1).fp.Nodup from h.nodup1 h1)
  obtain ⟨fp', H2⟩ := H.fill i j1 (by rw [List.getElem?_set_ne n1]; exact hi) (by rw [List.getElem?_set_self (List.getElem?_eq_some_iff.1 h1).1]) d1
  rw [List.set_set] at H2
  exact ⟨fp', H2⟩
theorem Tape.focus {M : Nat → Prop} {w0 w : World} {Δ F : List Rsc} (h : Sep M w0 Δ F w) (i : Nat) {ad n cap} {xs : List Tape} {fp} (hi : Δ[i]? = some (mine [.slice ad n cap] xs fp)) (k : Nat) (hk : k < xs.length) : ∃ b o Ty f1 f2 A1 C1 g1, ad = some ⟨b, o, none⟩ ∧ (xs.getD k default).Ok ∧ Sep M w0 (Δ.set i (hol ad n cap xs k b (o + k * sz Tape) Ty [.bool (xs.getD k default).Wiped, .slice A1 (xs.getD k default).Recs.length C1] f1 f2) ++ [gone, mine [.slice A1 (xs.getD k default).Recs.length C1] (xs.getD k default).Recs g1]) F w := by
  obtain ⟨b, o, Ty, ck, f1, f2, fk, e, hx, H⟩ := h.focus (d := default) i hi k hk
  obtain ⟨A1, C1, g1, rfl, ef, ok, o1⟩ := own_Tape hx
  have H2 := H.partLast [mine [.slice A1 (xs.getD k default).Recs.length C1] (xs.getD k default).Recs g1] (all_cons o1 (by simp)) (by simp [blocks, mine, ef])
  exact ⟨b, o, Ty, f1, f2, A1, C1, g1, e, ok, H2⟩
theorem Tape.fill {M : Nat → Prop} {w0 w : World} {Δ F : List Rsc} (h : Sep M w0 Δ F w) (i j1 : Nat) {ad n cap k b off Ty f1 f2} {xs : List Tape} {s0 : Bool} {A1 C1 m1} {y1 : List Rec} {g1} (hi : Δ[i]? = some (hol ad n cap xs k b off Ty [.bool s0, .slice A1 m1 C1] f1 f2)) (h1 : Δ[j1]? = some (mine [.slice A1 m1 C1] y1 g1)) (d1 : Nat.beq j1 i = false)  (ok : (⟨s0, y1⟩ : Tape).Ok) : ∃ fp', Sep M w0 ((Δ.set j1 gone).set i (mine [.slice ad n cap] (xs.set k (⟨s0, y1⟩ : Tape)) fp')) F w := by
  have o1 := h.mine j1 h1
  obtain rfl := own_n o1
  have n1 : j1 ≠ i := fun e => by subst e; simp at d1
  have H := h.conv j1 (mine [.bool s0, .slice A1 y1.length C1] (⟨s0, y1⟩ : Tape) (g1)) h1 (Tape.own_mk ok o1) (fun b hb => hb) (show (mine [.slice A1 y1.length C1] y1 g1).fp.Nodup from h.nodup1 h1)
  obtain ⟨fp', H2⟩ := H.fill i j1 (by rw [List.getElem?_set_ne n1]; exact hi) (by rw [List.getElem?_set_self (List.getElem?_eq_some_iff.1 h1).1]) d1
  rw [List.set_set] at H2
  exact ⟨fp', H2⟩
theorem Rec.focus {M : Nat → Prop} {w0 w : World} {Δ F : List Rsc} (h : Sep M w0 Δ F w) (i : Nat) {ad n cap} {xs : List Rec} {fp} (hi : Δ[i]? = some (mine [.slice ad n cap] xs fp)) (k : Nat) (hk : k < xs.length) : ∃ b o Ty f1 f2 A6 C6 A7 C7 A8 C8 g6 g7 g8, ad = some ⟨b, o, none⟩ ∧ (xs.getD k default).Ok ∧ Sep M w0 (Δ.set i (hol ad n cap xs k b (o + k * sz Rec) Ty [.int .i64 (xs.getD k default).Kind, .int .i64 (xs.getD k default).Seq, .string (xs.getD k default).Name, .int .i64 (xs.getD k default).Length, .int .i64 (xs.getD k default).Group, .int .i64 (xs.getD k default).Row, .slice A6 (xs.getD k default).Rows.length C6, .slice A7 (xs.getD k default).Data.length C7, .slice A8 (xs.getD k default).Delta.length C8] f1 f2) ++ [gone, mine [.slice A6 (xs.getD k default).Rows.length C6] (xs.getD k default).Rows g6, mine [.slice A7 (xs.getD k default).Data.length C7] (xs.getD k default).Data g7, mine [.slice A8 (xs.getD k default).Delta.length C8] (xs.getD k default).Delta g8]) F w := by
  obtain ⟨b, o, Ty, ck, f1, f2, fk, e, hx, H⟩ := h.focus (d := default) i hi k hk
  obtain ⟨A6, C6, A7, C7, A8, C8, g6, g7, g8, rfl, ef, ok, o6, o7, o8⟩ := own_Rec hx
  have H2 := H.partLast [mine [.slice A6 (xs.getD k default).Rows.length C6] (xs.getD k default).Rows g6, mine [.slice A7 (xs.getD k default).Data.length C7] (xs.getD k default).Data g7, mine [.slice A8 (xs.getD k default).Delta.length C8] (xs.getD k default).Delta g8] (all_cons o6 (all_cons o7 (all_cons o8 (by simp)))) (by simp [blocks, mine, ef])
  exact ⟨b, o, Ty, f1, f2, A6, C6, A7, C7, A8, C8, g6, g7, g8, e, ok, H2⟩
theorem Rec.fill {M : Nat → Prop} {w0 w : World} {Δ F : List Rsc} (h : Sep M w0 Δ F w) (i j6 j7 j8 : Nat) {ad n cap k b off Ty f1 f2} {xs : List Rec} {s0 : Int} {s1 : Int} {s2 : ByteArray} {s3 : Int} {s4 : Int} {s5 : Int} {A6 C6 m6} {y6 : List Int} {g6} {A7 C7 m7} {y7 : List UInt8} {g7} {A8 C8 m8} {y8 : List UInt8} {g8} (hi : Δ[i]? = some (hol ad n cap xs k b off Ty [.int .i64 s0, .int .i64 s1, .string s2, .int .i64 s3, .int .i64 s4, .int .i64 s5, .slice A6 m6 C6, .slice A7 m7 C7, .slice A8 m8 C8] f1 f2)) (h6 : Δ[j6]? = some (mine [.slice A6 m6 C6] y6 g6)) (h7 : Δ[j7]? = some (mine [.slice A7 m7 C7] y7 g7)) (h8 : Δ[j8]? = some (mine [.slice A8 m8 C8] y8 g8)) (d6 : Nat.beq j6 i = false) (d7 : Nat.beq j7 i = false) (d8 : Nat.beq j8 i = false) (e7_6 : Nat.beq j7 j6 = false) (e8_6 : Nat.beq j8 j6 = false) (e8_7 : Nat.beq j8 j7 = false) (ok : (⟨s0, s1, s2, s3, s4, s5, y6, y7, y8⟩ : Rec).Ok) : ∃ fp', Sep M w0 ((((Δ.set j7 gone).set j8 gone).set j6 gone).set i (mine [.slice ad n cap] (xs.set k (⟨s0, s1, s2, s3, s4, s5, y6, y7, y8⟩ : Rec)) fp')) F w := by
  have o6 := h.mine j6 h6
  obtain rfl := own_n o6
  have n6 : j6 ≠ i := fun e => by subst e; simp at d6
  have o7 := h.mine j7 h7
  obtain rfl := own_n o7
  have n7 : j7 ≠ i := fun e => by subst e; simp at d7
  have o8 := h.mine j8 h8
  obtain rfl := own_n o8
  have n8 : j8 ≠ i := fun e => by subst e; simp at d8
  have q1 : j7 ≠ j6 := fun e => by subst e; simp at e7_6
  have q2 : j8 ≠ j6 := fun e => by subst e; simp at e8_6
  have q3 : j8 ≠ j7 := fun e => by subst e; simp at e8_7
  have l6 := (List.getElem?_eq_some_iff.1 h6).1
  have H1 := h.join2 j6 j7 h6 h7 e7_6
  have H2 := H1.join2 j6 j8 (by rw [List.getElem?_set_self (by simpa using l6)]) (by rw [List.getElem?_set_ne (Ne.symm q2), List.getElem?_set_ne (Ne.symm q3)]; exact h8) e8_6
  rw [List.set_comm _ _ (Ne.symm q2), List.set_set] at H2
  have sq : (((Δ.set j7 gone).set j8 gone).set j6 (cat (cat (mine [.slice A6 y6.length C6] y6 g6) (mine [.slice A7 y7.length C7] y7 g7)) (mine [.slice A8 y8.length C8] y8 g8)))[j6]? = some (cat (cat (mine [.slice A6 y6.length C6] y6 g6) (mine [.slice A7 y7.length C7] y7 g7)) (mine [.slice A8 y8.length C8] y8 g8)) := by rw [List.getElem?_set_self (by simpa using l6)]
  have nd := H2.nodup1 sq
  have H := H2.conv j6 (mine [.int .i64 s0, .int .i64 s1, .string s2, .int .i64 s3, .int .i64 s4, .int .i64 s5, .slice A6 y6.length C6, .slice A7 y7.length C7, .slice A8 y8.length C8] (⟨s0, s1, s2, s3, s4, s5, y6, y7, y8⟩ : Rec) (g6 ++ (g7 ++ (g8)))) sq (Rec.own_mk ok o6 o7 o8) (fun b hb => by simpa [cat, mine] using hb) (by simpa [cat, mine] using nd)
  rw [List.set_set] at H
  obtain ⟨fp', H3⟩ := H.fill i j6 (by rw [List.getElem?_set_ne n6, List.getElem?_set_ne n8, List.getElem?_set_ne n7]; exact hi) (by rw [List.getElem?_set_self (by simpa using l6)]) d6
  rw [List.set_set] at H3
  exact ⟨fp', H3⟩
end Go.Wk
namespace Go.Wk
open Rp (sz own)
def digits : Nat → Nat → ByteArray → ByteArray
  | 0, _, out => out
  | f + 1, k, out => if k = 0 then out else digits f (k / 10) (strB [UInt8.ofNat (48 + k % 10)] ++ out)
def mText (k : Int) : ByteArray := if k ≤ 0 then ⟨#[109, 48]⟩ else ⟨#[109]⟩ ++ digits 30 k.toNat ⟨#[]⟩
section
variable {α : Type} [Inhabited α]
def MkL (P : α → Int → Prop) (c : α → Nat) (xs : List α) (k : Int) : Prop := ∀ i, i < xs.length → P (xs.getD i default) (k + sumN (fun i => c (xs.getD i default)) i)
def MkInv (P : α → Int → Prop) (c : α → Nat) (xs : List α) (k : Int) (i : Nat) (ys : List α) : Prop :=
  i ≤ xs.length ∧ ys.length = xs.length ∧ (∀ j, c (ys.getD j default) = c (xs.getD j default)) ∧ (∀ j, j < i → P (ys.getD j default) (k + sumN (fun i => c (xs.getD i default)) j)) ∧ (∀ j, i ≤ j → ys.getD j default = xs.getD j default)
variable {P : α → Int → Prop} {c : α → Nat} {xs ys : List α} {k : Int} {i : Nat} {e : α}
theorem mk_begin : MkInv P c xs k 0 xs := ⟨Nat.zero_le _, rfl, fun _ => rfl, fun j hj => by omega, fun _ _ => rfl⟩
theorem mk_step (h : MkInv P c xs k i ys) (hi : i < xs.length) (hc : c e = c (xs.getD i default)) (hP : P e (k + sumN (fun i => c (xs.getD i default)) i)) : MkInv P c xs k (i + 1) (ys.set i e) := by
  obtain ⟨h1, h2, h3, h4, h5⟩ := h
  refine ⟨by omega, by rw [List.length_set]; exact h2, fun j => ?_, fun j hj => ?_, fun j hj => ?_⟩
  · rw [getD_set]
    split
    · rename_i h; rw [hc, h.1]
    · exact h3 j
  · rw [getD_set]
    split
    · rename_i h; rw [h.1]; exact hP
    · rename_i h; exact h4 j (by omega)
  · rw [getD_set, if_neg (by omega)]; exact h5 j (by omega)
theorem mk_end (h : MkInv P c xs k xs.length ys) : ys.length = xs.length ∧ mkL c ys = mkL c xs ∧ MkL P c ys k := by
  obtain ⟨h1, h2, h3, h4, h5⟩ := h
  have e : (fun i => c (ys.getD i default)) = fun i => c (xs.getD i default) := funext h3
  refine ⟨h2, by unfold mkL; rw [e, h2], fun i hi => ?_⟩
  rw [e]; exact h4 i (by omega)
theorem mk_at (h : MkInv P c xs k i ys) : ys.getD i default = xs.getD i default := h.2.2.2.2 i (Nat.le_refl _)
theorem mkL_at (h : i < xs.length) : sumN (fun i => c (xs.getD i default)) (i + 1) = sumN (fun i => c (xs.getD i default)) i + c (xs.getD i default) ∧ sumN (fun i => c (xs.getD i default)) (i + 1) ≤ mkL c xs := ⟨rfl, sumN_le h⟩
end
def MkBlock (b : Block) (k : Int) : Prop := b.Stamp = k ∧ MarkB b.Bytes (k + 1)
def MkDrive (d : Drive) (k : Int) : Prop := d.Wiped = decide (k.tmod 3 = 0) ∧ MkL MkBlock mkBlock d.Blocks (k + 1)
def MkRec (r : Rec) (k : Int) : Prop := r.Kind = k ∧ r.Seq = k + 1 ∧ r.Name = mText (k + 2) ∧ r.Length = k + 3 ∧ r.Group = k + 4 ∧ r.Row = k + 5 ∧ MarkI r.Rows (k + 6) ∧ MarkB r.Data (k + 6 + r.Rows.length) ∧ MarkB r.Delta (k + 6 + r.Rows.length + r.Data.length)
def MkTape (t : Tape) (k : Int) : Prop := t.Wiped = decide (k.tmod 3 = 0) ∧ MkL MkRec mkRec t.Recs (k + 1)
def MkWld (z : Wld) (k : Int) : Prop := MkL (MkL MkDrive mkDrive) (mkL mkDrive) z.Groups k ∧ MarkI z.On (k + mkL (mkL mkDrive) z.Groups) ∧ MkL MkTape mkTape z.Tapes (k + mkL (mkL mkDrive) z.Groups + z.On.length)
end Go.Wk
namespace Go.Wk
theorem eqStr {a b : ByteArray} (h : a = b) : some (Value.string a) = some (Value.string b) := by rw [h]
theorem digits_zero : ∀ f out, digits f 0 out = out
  | 0, _ => rfl
  | _ + 1, _ => by rw [digits, if_pos rfl]
theorem digits_step {f m : Nat} {out : ByteArray} (h : 0 < m) : digits (f + 1) m out = digits f (m / 10) (strB [UInt8.ofNat (48 + m % 10)] ++ out) := by rw [digits, if_neg (by omega)]
end Go.Wk
namespace Go.Wk
section
variable {M : Nat → Prop} {w0 w : World} {Δ F : List Rsc} {α : Type} [Rp α]
theorem Sep.litW (h : Sep M w0 Δ F w) (i : Nat) {b : Nat} {T : TypeId} {v : Value} {u : α} (hi : Δ[i]? = some (Wk.box b (.cells [v].toArray T))) (h0 : Rp.own true w [v] u []) : Sep M w0 (Δ.set i (Wk.mine [.slice (some ⟨b, 0, none⟩) 1 1] [u] [b])) F w :=
  h.conv i (Wk.mine [.slice (some ⟨b, 0, none⟩) 1 1] [u] [b]) hi (.inr (.inr ⟨b, 0, 1, [v].toArray, T, (0, 0), [], by simp, by simp, h.box i hi, fun _ => rfl, by simp, by simp [maxLen], by have := Rp.len h0; simp at this; simp [← this], by
    have hl := Rp.len h0
    refine ⟨[], [], rfl, ?_, rfl⟩
    have e : Rp.sz α = 1 := by simpa using hl.symm
    rw [e]; exact h0⟩)) (fun b hb => hb) (by simp [Wk.mine])
end
end Go.Wk
namespace Go.Wk
theorem digits_bd {k : Int} (h : k ≤ 4611686018427388904) : k.toNat < 10 ^ 30 := Nat.lt_of_le_of_lt (show k.toNat ≤ 4611686018427388904 by omega) (by decide)
theorem dig_eq {m : Nat} : strB [u8Of (48 + (m : Int).tmod 10)] = strB [UInt8.ofNat (48 + m % 10)] := by
  have e : ((48 + (m : Int).tmod 10) % 256).toNat = 48 + m % 10 := by
    rw [Int.tmod_eq_emod_of_nonneg (by omega)]; omega
  unfold u8Of; rw [e]
end Go.Wk
namespace Go.Wk
section
open Rp (own sz)
variable {w w' : World} {x : Wld} {A9 A10 A11 : Option Addr} {C9 C10 C11 : Nat} {fp : List Nat}
theorem Wld.mkOut {F : List Rsc} {y9 : List (List Drive)} {y10 : List Int} {y11 : List Tape} {f9 f10 f11 : List Nat} {k : Int} (ok : x.Ok) (h : Sep (· ∈ fp) w [gone, mine [.slice A9 x.Groups.length C9] y9 f9, mine [.slice A10 x.On.length C10] y10 f10, mine [.slice A11 x.Tapes.length C11] y11 f11] F w')
    (h9 : y9.length = x.Groups.length ∧ mkL (mkL mkDrive) y9 = mkL (mkL mkDrive) x.Groups ∧ MkL (MkL MkDrive mkDrive) (mkL mkDrive) y9 k) (l10 : y10.length = x.On.length) (h10 : MarkI y10 (k + mkL (mkL mkDrive) x.Groups))
    (h11 : y11.length = x.Tapes.length ∧ mkL mkTape y11 = mkL mkTape x.Tapes ∧ MkL MkTape mkTape y11 (k + mkL (mkL mkDrive) x.Groups + x.On.length)) :
    ∃ x' : Wld, Mut w w' fp [.int .i64 x.Shape.Groups, .int .i64 x.Shape.Column, .int .i64 x.Shape.Data, .int .i64 x.Shape.Spare, .int .i64 x.Shape.Rows, .int .i64 x.Shape.Cap, .int .i64 x.Shape.Batch, .int .i64 x.Shape.Queue, .int .i64 x.Shape.Stage, .slice A9 x.Groups.length C9, .slice A10 x.On.length C10, .slice A11 x.Tapes.length C11, .int .i64 x.Writes, .int .i64 x.Stop, .bool x.Down] x' ∧
      (x'.Groups.length = x.Groups.length ∧ x'.On.length = x.On.length ∧ x'.Tapes.length = x.Tapes.length ∧ mkWld x' = mkWld x ∧ MkWld x' k ∧ x'.Shape = x.Shape ∧ x'.Writes = x.Writes ∧ x'.Stop = x.Stop ∧ x'.Down = x.Down) :=
  ⟨_, Wld.mutOut ok h h9.1 l10 h11.1, h9.1, l10, h11.1, by unfold mkWld; dsimp only; rw [h9.2.1, l10, h11.2.1], ⟨h9.2.2, by dsimp only; rw [h9.2.1]; exact h10, by dsimp only; rw [h9.2.1, l10]; exact h11.2.2⟩, rfl, rfl, rfl, rfl⟩
end
end Go.Wk
namespace Go.Wk
open Go.Proofs Rp
set_option maxRecDepth 10000
theorem Tryz_laws_markBlockS {w : World} {xs : List Block} {xsA : Option Addr} {xsC : Nat} {k : Int} {fp : List Nat} (o : own true w [.slice xsA xs.length xsC] xs fp) (nd : fp.Nodup) (hk : 0 ≤ k ∧ k + mkL mkBlock xs ≤ 4611686018427387904) : Ret Tryz.prog 224 #[.slice xsA xs.length xsC, .int .i64 k] w fun v w' => (v = .int .i64 (k + mkL mkBlock xs) ∧ ∃ xs', Mut w w' fp [.slice xsA xs.length xsC] xs' ∧ (xs'.length = xs.length ∧ mkL mkBlock xs' = mkL mkBlock xs ∧ MkL MkBlock mkBlock xs' k)) := by
 have len := own_len_le o
 unfold maxLen at len
 refine ret_Q (vs := [.slice xsA xs.length xsC, .int .i64 k]) Tryz.func224 rfl Tryz.ntmps224 rfl (fun Q hQ hN => ?_)
 have H0 := Sep.begin o nd
 refine W_sr (sV rfl (py_assign rfl) (s_nil (W_seq (W_sr (sV rfl (py_assign rfl) (s_nil (W_block (W_loop (γ := Nat × List Block × List Nat) (fun (i, ys, f) => [(0, .slice xsA xs.length xsC), (1, .int .i64 (k + sumN (fun i => mkBlock (xs.getD i default)) i)), (5, .int .i64 i)]) (fun (i, ys, f) w' => Sep (· ∈ fp) w [mine [.slice xsA xs.length xsC] ys f] [] w' ∧ MkInv MkBlock mkBlock xs k i ys ∧ True) (fun (i, ys, f) => xs.length - i) (0, xs, fp) ⟨rfl, eqI (by simp [sumN]), rfl, trivial⟩ ⟨H0, mk_begin, trivial⟩ (fun (i, ys, f) w1 H1 => ?_)))))))))
 obtain ⟨H1, hI, _⟩ := H1
 refine W_seq (W_seq ?_)
 have hiB := hI.1
 have hys := hI.2.1
 refine W_reg (sV rfl (py_move rfl) (sV rfl (py_move rfl) (sV rfl (py_len Tryz.underlying148 rfl) (sV rfl (py_lss rfl rfl) (s_nil (W_ifd rfl (fun c1 => ?_) (fun c1 => ?_)))))))
 ·refine W_skip (W_seq (W_block (W_seq ?_)))
  have hiL : i < xs.length := by omega
  have hat := mk_at hI
  obtain ⟨sg, sl⟩ := mkL_at (c := mkBlock) hiL
  have hci : mkBlock (ys.getD i default) = mkBlock (xs.getD i default) := hI.2.2.1 i
  have hcu : mkBlock (ys.getD i default) = 1 + (ys.getD i default).Bytes.length := rfl
  obtain ⟨eb1, eo1, eT1, eF1, eG1, ea1, ek1, eg1, ee1, eK1, eH1⟩ := Block.focus H1 0 rfl i (by omega)
  have eK1U := eK1
  unfold Block.Ok at eK1U
  try unfold I64ok at eK1U
  try unfold maxLen at eK1U
  try dsimp only [List.nil_append, List.cons_append, List.set_cons_zero, List.set_cons_succ] at eH1
  refine W_reg (sV rfl (py_move rfl) (sV rfl (py_move rfl) (sV rfl (py_move rfl) (sV rfl (py_elz Tryz.underlying148 Tryz.sizeOf152 rfl rfl ee1 i (by omega) (by omega)) (sV rfl (py_field Tryz.underlying152 rfl Tryz.sizeOf2 rfl rfl) (s_hsto (wn rfl) Tryz.sizeOf2 eH1 0 0 rfl rfl rfl rfl rfl (fun w2 H2 => ?_)))))))
  dsimp only [List.nil_append, List.cons_append, List.set_cons_zero, List.set_cons_succ, layL] at H2
  refine s_nil (W_sr (sV rfl (py_move rfl) (sV rfl (py_add rfl rfl (in64 ⟨by omega, by omega⟩)) (sV rfl (py_assign rfl) (s_nil (W_reg (sV rfl (py_move rfl) (sV rfl (py_move rfl) (sV rfl (py_elz Tryz.underlying148 Tryz.sizeOf152 rfl rfl ee1 i (by omega) (by omega)) (sV rfl (py_field Tryz.underlying152 rfl Tryz.sizeOf61 rfl rfl) (sV rfl (py_load Tryz.underlying61 rfl rfl (at_cell (H2.holAt 0 rfl) 1 rfl)) (sV rfl (py_move rfl) (s_call (wn rfl) rfl rfl (pc_call Tryz.func56 rfl Tryz_nm56 rfl) (Tryz_laws_markByteS (H2.mine 2 rfl) (H2.nodup1 (i := 2) rfl) (by constructor <;> omega)) (fun v1 w3 r1 => ?_))))))))))))))
  obtain ⟨rfl, mx1, mm1, ml1, mk1⟩ := r1
  obtain ⟨fp1, H3⟩ := H2.mut 2 rfl mm1
  try dsimp only [List.nil_append, List.cons_append, List.set_cons_zero, List.set_cons_succ] at H3
  refine sV rfl (py_assign rfl) (s_nil (W_reg (sV rfl (py_move rfl) (sV rfl (py_add rfl rfl (in64 ⟨by omega, by omega⟩)) (sV rfl (py_assign rfl) (s_nil ?_))))))
  have okz : (⟨(k + sumN (fun i => mkBlock (xs.getD i default)) i), mx1⟩ : Block).Ok := by unfold Block.Ok I64ok; dsimp only; omega
  obtain ⟨fp2, H4⟩ := Block.fill H3 0 2 rfl rfl rfl okz
  try dsimp only [List.nil_append, List.cons_append, List.set_cons_zero, List.set_cons_succ] at H4
  refine ⟨(i + 1, _, _), ⟨rfl, eqI (by omega), rfl, trivial⟩, ⟨(H4.dtake 1), mk_step hI hiL (by rw [← hci]; unfold mkBlock; dsimp only; omega) ⟨rfl, mk1⟩, trivial⟩, by dsimp only; omega⟩
 ·refine W_exit (W_sr (sV rfl (py_move rfl) (sV rfl (py_assign rfl) (s_nil (W_ret (hQ _ _ (fin1 Tryz.results224 rfl ?_)))))))
  obtain rfl : i = xs.length := by omega
  exact ⟨rfl, _, H1.done, mk_end hI⟩
theorem Tryz_laws_markDriveS {w : World} {xs : List Drive} {xsA : Option Addr} {xsC : Nat} {k : Int} {fp : List Nat} (o : own true w [.slice xsA xs.length xsC] xs fp) (nd : fp.Nodup) (hk : 0 ≤ k ∧ k + mkL mkDrive xs ≤ 4611686018427387904) : Ret Tryz.prog 156 #[.slice xsA xs.length xsC, .int .i64 k] w fun v w' => (v = .int .i64 (k + mkL mkDrive xs) ∧ ∃ xs', Mut w w' fp [.slice xsA xs.length xsC] xs' ∧ (xs'.length = xs.length ∧ mkL mkDrive xs' = mkL mkDrive xs ∧ MkL MkDrive mkDrive xs' k)) := by
 have len := own_len_le o
 unfold maxLen at len
 refine ret_Q (vs := [.slice xsA xs.length xsC, .int .i64 k]) Tryz.func156 rfl Tryz.ntmps156 rfl (fun Q hQ hN => ?_)
 have H0 := Sep.begin o nd
 refine W_sr (sV rfl (py_assign rfl) (s_nil (W_seq (W_sr (sV rfl (py_assign rfl) (s_nil (W_block (W_loop (γ := Nat × List Drive × List Nat) (fun (i, ys, f) => [(0, .slice xsA xs.length xsC), (1, .int .i64 (k + sumN (fun i => mkDrive (xs.getD i default)) i)), (5, .int .i64 i)]) (fun (i, ys, f) w' => Sep (· ∈ fp) w [mine [.slice xsA xs.length xsC] ys f] [] w' ∧ MkInv MkDrive mkDrive xs k i ys ∧ True) (fun (i, ys, f) => xs.length - i) (0, xs, fp) ⟨rfl, eqI (by simp [sumN]), rfl, trivial⟩ ⟨H0, mk_begin, trivial⟩ (fun (i, ys, f) w1 H1 => ?_)))))))))
 obtain ⟨H1, hI, _⟩ := H1
 refine W_seq (W_seq ?_)
 have hiB := hI.1
 have hys := hI.2.1
 refine W_reg (sV rfl (py_move rfl) (sV rfl (py_move rfl) (sV rfl (py_len Tryz.underlying147 rfl) (sV rfl (py_lss rfl rfl) (s_nil (W_ifd rfl (fun c1 => ?_) (fun c1 => ?_)))))))
 ·refine W_skip (W_seq (W_block (W_seq ?_)))
  have hiL : i < xs.length := by omega
  have hat := mk_at hI
  obtain ⟨sg, sl⟩ := mkL_at (c := mkDrive) hiL
  have hci : mkDrive (ys.getD i default) = mkDrive (xs.getD i default) := hI.2.2.1 i
  have hcu : mkDrive (ys.getD i default) = 1 + mkL mkBlock (ys.getD i default).Blocks := rfl
  obtain ⟨eb1, eo1, eT1, eF1, eG1, ea1, ek1, eg1, ee1, eK1, eH1⟩ := Drive.focus H1 0 rfl i (by omega)
  have eK1U := eK1
  unfold Drive.Ok at eK1U
  try unfold I64ok at eK1U
  try unfold maxLen at eK1U
  try dsimp only [List.nil_append, List.cons_append, List.set_cons_zero, List.set_cons_succ] at eH1
  refine W_reg (sV rfl (py_move rfl) (sV rfl (py_move rfl) (sV rfl (py_move rfl) (sV rfl (py_rem rfl rfl (by omega)) (sV rfl (py_eql rfl rfl) (sV rfl (py_elz Tryz.underlying147 Tryz.sizeOf150 rfl rfl ee1 i (by omega) (by omega)) (sV rfl (py_field Tryz.underlying150 rfl Tryz.sizeOf4 rfl rfl) (s_hsto (wn rfl) Tryz.sizeOf4 eH1 0 0 rfl rfl rfl rfl rfl (fun w2 H2 => ?_)))))))))
  dsimp only [List.nil_append, List.cons_append, List.set_cons_zero, List.set_cons_succ, layL] at H2
  refine s_nil (W_sr (sV rfl (py_move rfl) (sV rfl (py_add rfl rfl (in64 ⟨by omega, by omega⟩)) (sV rfl (py_assign rfl) (s_nil (W_reg (sV rfl (py_move rfl) (sV rfl (py_move rfl) (sV rfl (py_elz Tryz.underlying147 Tryz.sizeOf150 rfl rfl ee1 i (by omega) (by omega)) (sV rfl (py_field Tryz.underlying150 rfl Tryz.sizeOf148 rfl rfl) (sV rfl (py_load Tryz.underlying148 rfl rfl (at_cell (H2.holAt 0 rfl) 1 rfl)) (sV rfl (py_move rfl) (s_call (wn rfl) rfl rfl (pc_call Tryz.func224 rfl Tryz_nm224 rfl) (Tryz_laws_markBlockS (H2.mine 2 rfl) (H2.nodup1 (i := 2) rfl) (by constructor <;> omega)) (fun v1 w3 r1 => ?_))))))))))))))
  obtain ⟨rfl, mx1, mm1, ml1⟩ := r1
  obtain ⟨fp1, H3⟩ := H2.mut 2 rfl mm1
  try dsimp only [List.nil_append, List.cons_append, List.set_cons_zero, List.set_cons_succ] at H3
  refine sV rfl (py_assign rfl) (s_nil (W_reg (sV rfl (py_move rfl) (sV rfl (py_add rfl rfl (in64 ⟨by omega, by omega⟩)) (sV rfl (py_assign rfl) (s_nil ?_))))))
  have okz : (⟨decide ((k + sumN (fun i => mkDrive (xs.getD i default)) i).tmod 3 = 0), mx1⟩ : Drive).Ok := trivial
  obtain ⟨fp2, H4⟩ := Drive.fill H3 0 2 rfl rfl rfl okz
  try dsimp only [List.nil_append, List.cons_append, List.set_cons_zero, List.set_cons_succ] at H4
  refine ⟨(i + 1, _, _), ⟨rfl, eqI (by omega), rfl, trivial⟩, ⟨(H4.dtake 1), mk_step hI hiL (by rw [← hci]; unfold mkDrive; dsimp only; rw [ml1.2.1]) ⟨rfl, ml1.2.2⟩, trivial⟩, by dsimp only; omega⟩
 ·refine W_exit (W_sr (sV rfl (py_move rfl) (sV rfl (py_assign rfl) (s_nil (W_ret (hQ _ _ (fin1 Tryz.results156 rfl ?_)))))))
  obtain rfl : i = xs.length := by omega
  exact ⟨rfl, _, H1.done, mk_end hI⟩
theorem Tryz_laws_markDriveSS {w : World} {xs : List (List Drive)} {xsA : Option Addr} {xsC : Nat} {k : Int} {fp : List Nat} (o : own true w [.slice xsA xs.length xsC] xs fp) (nd : fp.Nodup) (hk : 0 ≤ k ∧ k + mkL (mkL mkDrive) xs ≤ 4611686018427387904) : Ret Tryz.prog 88 #[.slice xsA xs.length xsC, .int .i64 k] w fun v w' => (v = .int .i64 (k + mkL (mkL mkDrive) xs) ∧ ∃ xs', Mut w w' fp [.slice xsA xs.length xsC] xs' ∧ (xs'.length = xs.length ∧ mkL (mkL mkDrive) xs' = mkL (mkL mkDrive) xs ∧ MkL (MkL MkDrive mkDrive) (mkL mkDrive) xs' k)) := by
 have len := own_len_le o
 unfold maxLen at len
 refine ret_Q (vs := [.slice xsA xs.length xsC, .int .i64 k]) Tryz.func88 rfl Tryz.ntmps88 rfl (fun Q hQ hN => ?_)
 have H0 := Sep.begin o nd
 refine W_sr (sV rfl (py_assign rfl) (s_nil (W_seq (W_sr (sV rfl (py_assign rfl) (s_nil (W_block (W_loop (γ := Nat × List (List Drive) × List Nat) (fun (i, ys, f) => [(0, .slice xsA xs.length xsC), (1, .int .i64 (k + sumN (fun i => (mkL mkDrive) (xs.getD i default)) i)), (5, .int .i64 i)]) (fun (i, ys, f) w' => Sep (· ∈ fp) w [mine [.slice xsA xs.length xsC] ys f] [] w' ∧ MkInv (MkL MkDrive mkDrive) (mkL mkDrive) xs k i ys ∧ True) (fun (i, ys, f) => xs.length - i) (0, xs, fp) ⟨rfl, eqI (by simp [sumN]), rfl, trivial⟩ ⟨H0, mk_begin, trivial⟩ (fun (i, ys, f) w1 H1 => ?_)))))))))
 obtain ⟨H1, hI, _⟩ := H1
 refine W_seq (W_seq ?_)
 have hiB := hI.1
 have hys := hI.2.1
 refine W_reg (sV rfl (py_move rfl) (sV rfl (py_move rfl) (sV rfl (py_len Tryz.underlying34 rfl) (sV rfl (py_lss rfl rfl) (s_nil (W_ifd rfl (fun c1 => ?_) (fun c1 => ?_)))))))
 ·refine W_skip (W_seq (W_block ?_))
  have hiL : i < xs.length := by omega
  have hat := mk_at hI
  obtain ⟨sg, sl⟩ := mkL_at (c := (mkL mkDrive)) hiL
  have hci : (mkL mkDrive) (ys.getD i default) = (mkL mkDrive) (xs.getD i default) := hI.2.2.1 i
  have hcu : mkL mkDrive (ys.getD i default) = mkL mkDrive (ys.getD i []) := rfl
  obtain ⟨eb1, eo1, eT1, eF1, eG1, ea1, ek1, eg1, ee1, eH1⟩ := H1.focusL 0 rfl i (by omega)
  try dsimp only [List.nil_append, List.cons_append, List.set_cons_zero, List.set_cons_succ] at eH1
  refine W_reg (sV rfl (py_move rfl) (sV rfl (py_move rfl) (sV rfl (py_elz Tryz.underlying34 Tryz.sizeOf147 rfl rfl ee1 i (by omega) (by omega)) (sV rfl (py_load Tryz.underlying147 rfl rfl (at_cell (eH1.holAt 0 rfl) 0 rfl)) (sV rfl (py_move rfl) (s_call (wn rfl) rfl rfl (pc_call Tryz.func156 rfl Tryz_nm156 rfl) (Tryz_laws_markDriveS (eH1.mine 1 rfl) (eH1.nodup1 (i := 1) rfl) (by constructor <;> omega)) (fun v1 w2 r1 => ?_)))))))
  obtain ⟨rfl, mx1, mm1, ml1⟩ := r1
  obtain ⟨fp1, H2⟩ := eH1.mut 1 rfl mm1
  try dsimp only [List.nil_append, List.cons_append, List.set_cons_zero, List.set_cons_succ] at H2
  refine sV rfl (py_assign rfl) (s_nil (W_reg (sV rfl (py_move rfl) (sV rfl (py_add rfl rfl (in64 ⟨by omega, by omega⟩)) (sV rfl (py_assign rfl) (s_nil ?_))))))
  obtain ⟨fp2, H3⟩ := H2.fill 0 1 rfl rfl rfl
  try dsimp only [List.nil_append, List.cons_append, List.set_cons_zero, List.set_cons_succ] at H3
  refine ⟨(i + 1, _, _), ⟨rfl, eqI (by omega), rfl, trivial⟩, ⟨(H3.dtake 1), mk_step hI hiL (by rw [← hci]; exact ml1.2.1) ml1.2.2, trivial⟩, by dsimp only; omega⟩
 ·refine W_exit (W_sr (sV rfl (py_move rfl) (sV rfl (py_assign rfl) (s_nil (W_ret (hQ _ _ (fin1 Tryz.results88 rfl ?_)))))))
  obtain rfl : i = xs.length := by omega
  exact ⟨rfl, _, H1.done, mk_end hI⟩
theorem Tryz_laws_markText {w : World} {k : Int} (hk : -1000 ≤ k ∧ k ≤ 4611686018427388904) : Ret Tryz.prog 204 #[.int .i64 k] w fun v w' => Ext No w w' ∧ (v = .string (mText k) ∧ (mText k).size ≤ maxLen) := by
 refine ret_Q (vs := [.int .i64 k]) Tryz.func204 rfl Tryz.ntmps204 rfl (fun Q hQ hN => ?_)
 have H0 := Sep.start (w := w) (F := []) (by simp)
 refine W_sr (sV rfl (py_assign rfl) (s_nil (W_seq (W_sr (sV rfl (py_move rfl) (sV rfl (py_leq rfl rfl) (s_nil (W_ifd rfl (fun c1 => ?_) (fun c1 => ?_)))))))))
 ·refine W_sr (sV rfl (py_assign rfl) (s_nil (W_ret (hQ _ _ (fin1 Tryz.results204 rfl ?_)))))
  exact ⟨H0.ext, by rw [mText, if_pos (by omega)], by rw [mText, if_pos (by omega)]; exact Nat.le_of_ble_eq_true rfl⟩
 ·refine W_skip (W_sr (sV rfl (py_assign rfl) (s_nil (W_seq (W_block (W_loopS (γ := Nat × Nat × ByteArray) H0 [(2, _)] ⟨rfl, trivial⟩ (fun (f, m, out) => [(0, .int .i64 (m : Nat)), (3, .string out)]) (fun (f, m, out) => (m : Int) ≤ k ∧ m < 10 ^ f ∧ out.size + f ≤ 30 ∧ digits 30 k.toNat ⟨#[]⟩ = digits f m out) (fun (f, m, out) => m) (30, k.toNat, ⟨#[]⟩) ⟨eqI (by omega), rfl, trivial⟩ ⟨by omega, digits_bd (by omega), by decide, rfl⟩ (fun (f, m, out) w1 H1 ⟨hm, hf, ho, hd⟩ => ?_)))))))
  dsimp only [List.cons_append, List.nil_append]
  refine W_seq (W_sr (sV rfl (py_move rfl) (sV rfl (py_gtr rfl rfl) (s_nil (W_ifd rfl (fun c2 => ?_) (fun c2 => ?_))))))
  ·refine W_skip (W_block (W_seq ?_))
   have hb := tmod_bd (a := (m : Int)) (b := 10) (by omega) (by omega)
   refine W_reg (sV rfl (py_move rfl) (sV rfl (py_rem rfl rfl (by omega)) (sV rfl (py_add rfl rfl (in64 ⟨by omega, by omega⟩)) (sV rfl (py_conv8 Tryz.underlying3 Tryz.underlying5 rfl) (s_lit1 (wn rfl) rfl Tryz.underlying61 Tryz_ty5 rfl rfl rfl rfl H1 (fun b1 w2 e1 g1 H2 => ?_))))))
   have H3 := H2.litW 0 rfl (own_b8 (x := u8Of (48 + (m : Int).tmod 10)))
   try dsimp only [List.nil_append, List.cons_append, List.set_cons_zero, List.set_cons_succ] at H3
   refine sV rfl (py_b2s Tryz.underlying61 Tryz.underlying5 Tryz.underlying9 rfl (H3.mine 0 rfl)) ((sV rfl (py_move rfl) (sV rfl (py_sadd rfl rfl (by rw [strB_size]; simp only [List.length_cons, List.length_nil]; omega)) (sV rfl (py_assign rfl) (s_nil ?_)))))
   have hb2 := tdiv_bd (a := (m : Int)) (b := 10) (by omega) (by omega)
   refine W_reg (sV rfl (py_move rfl) (sV rfl (py_quo rfl rfl (by omega) (in64 ⟨by omega, by omega⟩)) (sV rfl (py_assign rfl) (s_nil ?_))))
   rcases f with _ | f
   ·simp at hf; omega
   ·refine ⟨(f, m / 10, strB [UInt8.ofNat (48 + m % 10)] ++ out), ⟨eqI (by rw [Int.tdiv_eq_ediv_of_nonneg (by omega)]; dsimp only; omega), eqStr (by rw [dig_eq]), rfl, trivial⟩, ⟨(H3.dtake 0), by dsimp only; omega, by rw [Nat.pow_succ] at hf; dsimp only; omega, by dsimp only; rw [ByteArray.size_append, strB_size]; simp only [List.length_cons, List.length_nil]; omega, hd.trans (digits_step (by omega))⟩, by dsimp only; omega⟩
  ·refine W_exit (W_seq ?_)
   have h1z : (⟨#[109]⟩ : ByteArray).size = 1 := rfl
   refine W_reg (sV rfl (py_move rfl) (sV rfl (py_sadd rfl rfl (by omega)) (sV rfl (py_assign rfl) (s_nil (W_ret (hQ _ _ (fin1 Tryz.results204 rfl ?_)))))))
   obtain rfl : m = 0 := by omega
   have hq : mText k = ⟨#[109]⟩ ++ out := by rw [mText, if_neg (by omega), hd, digits_zero]
   exact ⟨H1.ext, by rw [hq], by rw [hq, ByteArray.size_append]; unfold maxLen; omega⟩
theorem Tryz_laws_markRecS {w : World} {xs : List Rec} {xsA : Option Addr} {xsC : Nat} {k : Int} {fp : List Nat} (o : own true w [.slice xsA xs.length xsC] xs fp) (nd : fp.Nodup) (hk : 0 ≤ k ∧ k + mkL mkRec xs ≤ 4611686018427387904) : Ret Tryz.prog 133 #[.slice xsA xs.length xsC, .int .i64 k] w fun v w' => (v = .int .i64 (k + mkL mkRec xs) ∧ ∃ xs', Mut w w' fp [.slice xsA xs.length xsC] xs' ∧ (xs'.length = xs.length ∧ mkL mkRec xs' = mkL mkRec xs ∧ MkL MkRec mkRec xs' k)) := by
 have len := own_len_le o
 unfold maxLen at len
 refine ret_Q (vs := [.slice xsA xs.length xsC, .int .i64 k]) Tryz.func133 rfl Tryz.ntmps133 rfl (fun Q hQ hN => ?_)
 have H0 := Sep.begin o nd
 refine W_sr (sV rfl (py_assign rfl) (s_nil (W_seq (W_sr (sV rfl (py_assign rfl) (s_nil (W_block (W_loop (γ := Nat × List Rec × List Nat) (fun (i, ys, f) => [(0, .slice xsA xs.length xsC), (1, .int .i64 (k + sumN (fun i => mkRec (xs.getD i default)) i)), (5, .int .i64 i)]) (fun (i, ys, f) w' => Sep (· ∈ fp) w [mine [.slice xsA xs.length xsC] ys f] [] w' ∧ MkInv MkRec mkRec xs k i ys ∧ True) (fun (i, ys, f) => xs.length - i) (0, xs, fp) ⟨rfl, eqI (by simp [sumN]), rfl, trivial⟩ ⟨H0, mk_begin, trivial⟩ (fun (i, ys, f) w1 H1 => ?_)))))))))
 obtain ⟨H1, hI, _⟩ := H1
 refine W_seq (W_seq ?_)
 have hiB := hI.1
 have hys := hI.2.1
 refine W_reg (sV rfl (py_move rfl) (sV rfl (py_move rfl) (sV rfl (py_len Tryz.underlying82 rfl) (sV rfl (py_lss rfl rfl) (s_nil (W_ifd rfl (fun c1 => ?_) (fun c1 => ?_)))))))
 ·refine W_skip (W_seq (W_block (W_seq ?_)))
  have hiL : i < xs.length := by omega
  have hat := mk_at hI
  obtain ⟨sg, sl⟩ := mkL_at (c := mkRec) hiL
  have hci : mkRec (ys.getD i default) = mkRec (xs.getD i default) := hI.2.2.1 i
  have hcu : mkRec (ys.getD i default) = 6 + (ys.getD i default).Rows.length + (ys.getD i default).Data.length + (ys.getD i default).Delta.length := rfl
  obtain ⟨eb1, eo1, eT1, eF1, eG1, ea1, ek1, ea2, ek2, ea3, ek3, eg1, eg2, eg3, ee1, eK1, eH1⟩ := Rec.focus H1 0 rfl i (by omega)
  have eK1U := eK1
  unfold Rec.Ok at eK1U
  try unfold I64ok at eK1U
  try unfold maxLen at eK1U
  try dsimp only [List.nil_append, List.cons_append, List.set_cons_zero, List.set_cons_succ] at eH1
  refine W_reg (sV rfl (py_move rfl) (sV rfl (py_move rfl) (sV rfl (py_move rfl) (sV rfl (py_elz Tryz.underlying82 Tryz.sizeOf66 rfl rfl ee1 i (by omega) (by omega)) (sV rfl (py_field Tryz.underlying66 rfl Tryz.sizeOf2 rfl rfl) (s_hsto (wn rfl) Tryz.sizeOf2 eH1 0 0 rfl rfl rfl rfl rfl (fun w2 H2 => ?_)))))))
  dsimp only [List.nil_append, List.cons_append, List.set_cons_zero, List.set_cons_succ, layL] at H2
  refine s_nil (W_sr (sV rfl (py_move rfl) (sV rfl (py_add rfl rfl (in64 ⟨by omega, by omega⟩)) (sV rfl (py_assign rfl) (s_nil (W_sr (sV rfl (py_move rfl) (sV rfl (py_move rfl) (sV rfl (py_move rfl) (sV rfl (py_elz Tryz.underlying82 Tryz.sizeOf66 rfl rfl ee1 i (by omega) (by omega)) (sV rfl (py_field Tryz.underlying66 rfl Tryz.sizeOf2 rfl rfl) (s_hsto (wn rfl) Tryz.sizeOf2 H2 0 1 rfl rfl rfl rfl rfl (fun w3 H3 => ?_)))))))))))))
  dsimp only [List.nil_append, List.cons_append, List.set_cons_zero, List.set_cons_succ, layL] at H3
  refine s_nil (W_sr (sV rfl (py_move rfl) (sV rfl (py_add rfl rfl (in64 ⟨by omega, by omega⟩)) (sV rfl (py_assign rfl) (s_nil (W_sr (sV rfl (py_move rfl) (sV rfl (py_move rfl) (sV rfl (py_move rfl) (s_call (wn rfl) rfl rfl (pc_call Tryz.func204 rfl Tryz_nm204 rfl) (Tryz_laws_markText (by omega)) (fun v1 w4 r1 => ?_)))))))))))
  obtain ⟨e3, rfl, mt1⟩ := r1
  have H4 := H3.to e3
  refine sV rfl (py_elz Tryz.underlying82 Tryz.sizeOf66 rfl rfl ee1 i (by omega) (by omega)) (sV rfl (py_field Tryz.underlying66 rfl Tryz.sizeOf9 rfl rfl) (s_hsto (wn rfl) Tryz.sizeOf9 H4 0 2 rfl rfl rfl rfl rfl (fun w5 H5 => ?_)))
  dsimp only [List.nil_append, List.cons_append, List.set_cons_zero, List.set_cons_succ, layL] at H5
  refine s_nil (W_sr (sV rfl (py_move rfl) (sV rfl (py_add rfl rfl (in64 ⟨by omega, by omega⟩)) (sV rfl (py_assign rfl) (s_nil (W_sr (sV rfl (py_move rfl) (sV rfl (py_move rfl) (sV rfl (py_move rfl) (sV rfl (py_elz Tryz.underlying82 Tryz.sizeOf66 rfl rfl ee1 i (by omega) (by omega)) (sV rfl (py_field Tryz.underlying66 rfl Tryz.sizeOf2 rfl rfl) (s_hsto (wn rfl) Tryz.sizeOf2 H5 0 3 rfl rfl rfl rfl rfl (fun w6 H6 => ?_)))))))))))))
  dsimp only [List.nil_append, List.cons_append, List.set_cons_zero, List.set_cons_succ, layL] at H6
  refine s_nil (W_sr (sV rfl (py_move rfl) (sV rfl (py_add rfl rfl (in64 ⟨by omega, by omega⟩)) (sV rfl (py_assign rfl) (s_nil (W_sr (sV rfl (py_move rfl) (sV rfl (py_move rfl) (sV rfl (py_move rfl) (sV rfl (py_elz Tryz.underlying82 Tryz.sizeOf66 rfl rfl ee1 i (by omega) (by omega)) (sV rfl (py_field Tryz.underlying66 rfl Tryz.sizeOf2 rfl rfl) (s_hsto (wn rfl) Tryz.sizeOf2 H6 0 4 rfl rfl rfl rfl rfl (fun w7 H7 => ?_)))))))))))))
  dsimp only [List.nil_append, List.cons_append, List.set_cons_zero, List.set_cons_succ, layL] at H7
  refine s_nil (W_sr (sV rfl (py_move rfl) (sV rfl (py_add rfl rfl (in64 ⟨by omega, by omega⟩)) (sV rfl (py_assign rfl) (s_nil (W_sr (sV rfl (py_move rfl) (sV rfl (py_move rfl) (sV rfl (py_move rfl) (sV rfl (py_elz Tryz.underlying82 Tryz.sizeOf66 rfl rfl ee1 i (by omega) (by omega)) (sV rfl (py_field Tryz.underlying66 rfl Tryz.sizeOf2 rfl rfl) (s_hsto (wn rfl) Tryz.sizeOf2 H7 0 5 rfl rfl rfl rfl rfl (fun w8 H8 => ?_)))))))))))))
  dsimp only [List.nil_append, List.cons_append, List.set_cons_zero, List.set_cons_succ, layL] at H8
  refine s_nil (W_sr (sV rfl (py_move rfl) (sV rfl (py_add rfl rfl (in64 ⟨by omega, by omega⟩)) (sV rfl (py_assign rfl) (s_nil (W_sr (sV rfl (py_move rfl) (sV rfl (py_move rfl) (sV rfl (py_elz Tryz.underlying82 Tryz.sizeOf66 rfl rfl ee1 i (by omega) (by omega)) (sV rfl (py_field Tryz.underlying66 rfl Tryz.sizeOf25 rfl rfl) (sV rfl (py_load Tryz.underlying25 rfl rfl (at_cell (H8.holAt 0 rfl) 6 rfl)) (sV rfl (py_move rfl) (s_call (wn rfl) rfl rfl (pc_call Tryz.func89 rfl Tryz_nm89 rfl) (Tryz_laws_markInt64S (H8.mine 2 rfl) (H8.nodup1 (i := 2) rfl) (by constructor <;> omega)) (fun v2 w9 r2 => ?_))))))))))))))
  obtain ⟨rfl, mx1, mm1, ml1, mk1⟩ := r2
  obtain ⟨fp1, H9⟩ := H8.mut 2 rfl mm1
  try dsimp only [List.nil_append, List.cons_append, List.set_cons_zero, List.set_cons_succ] at H9
  refine sV rfl (py_assign rfl) (s_nil (W_sr (sV rfl (py_move rfl) (sV rfl (py_move rfl) (sV rfl (py_elz Tryz.underlying82 Tryz.sizeOf66 rfl rfl ee1 i (by omega) (by omega)) (sV rfl (py_field Tryz.underlying66 rfl Tryz.sizeOf61 rfl rfl) (sV rfl (py_load Tryz.underlying61 rfl rfl (at_cell (H9.holAt 0 rfl) 7 rfl)) (sV rfl (py_move rfl) (s_call (wn rfl) rfl rfl (pc_call Tryz.func56 rfl Tryz_nm56 rfl) (Tryz_laws_markByteS (H9.mine 3 rfl) (H9.nodup1 (i := 3) rfl) (by constructor <;> omega)) (fun v3 w10 r3 => ?_))))))))))
  obtain ⟨rfl, mx2, mm2, ml2, mk2⟩ := r3
  obtain ⟨fp2, H10⟩ := H9.mut 3 rfl mm2
  try dsimp only [List.nil_append, List.cons_append, List.set_cons_zero, List.set_cons_succ] at H10
  refine sV rfl (py_assign rfl) (s_nil (W_reg (sV rfl (py_move rfl) (sV rfl (py_move rfl) (sV rfl (py_elz Tryz.underlying82 Tryz.sizeOf66 rfl rfl ee1 i (by omega) (by omega)) (sV rfl (py_field Tryz.underlying66 rfl Tryz.sizeOf61 rfl rfl) (sV rfl (py_load Tryz.underlying61 rfl rfl (at_cell (H10.holAt 0 rfl) 8 rfl)) (sV rfl (py_move rfl) (s_call (wn rfl) rfl rfl (pc_call Tryz.func56 rfl Tryz_nm56 rfl) (Tryz_laws_markByteS (H10.mine 4 rfl) (H10.nodup1 (i := 4) rfl) (by constructor <;> omega)) (fun v4 w11 r4 => ?_))))))))))
  obtain ⟨rfl, mx3, mm3, ml3, mk3⟩ := r4
  obtain ⟨fp3, H11⟩ := H10.mut 4 rfl mm3
  try dsimp only [List.nil_append, List.cons_append, List.set_cons_zero, List.set_cons_succ] at H11
  refine sV rfl (py_assign rfl) (s_nil (W_reg (sV rfl (py_move rfl) (sV rfl (py_add rfl rfl (in64 ⟨by omega, by omega⟩)) (sV rfl (py_assign rfl) (s_nil ?_))))))
  have okz : (⟨(k + sumN (fun i => mkRec (xs.getD i default)) i), (k + sumN (fun i => mkRec (xs.getD i default)) i) + 1, mText ((k + sumN (fun i => mkRec (xs.getD i default)) i) + 1 + 1), (k + sumN (fun i => mkRec (xs.getD i default)) i) + 1 + 1 + 1, (k + sumN (fun i => mkRec (xs.getD i default)) i) + 1 + 1 + 1 + 1, (k + sumN (fun i => mkRec (xs.getD i default)) i) + 1 + 1 + 1 + 1 + 1, mx1, mx2, mx3⟩ : Rec).Ok := by unfold Rec.Ok I64ok; dsimp only; omega
  obtain ⟨fp4, H12⟩ := Rec.fill H11 0 2 3 4 rfl rfl rfl rfl rfl rfl rfl rfl rfl rfl okz
  try dsimp only [List.nil_append, List.cons_append, List.set_cons_zero, List.set_cons_succ] at H12
  refine ⟨(i + 1, _, _), ⟨rfl, eqI (by omega), rfl, trivial⟩, ⟨(H12.dtake 1), mk_step hI hiL (by rw [← hci]; unfold mkRec; dsimp only; omega) (by
   refine ⟨rfl, rfl, ?_, by dsimp only; omega, by dsimp only; omega, by dsimp only; omega, ?_, ?_, ?_⟩
   ·dsimp only; congr 1; omega
   ·have := mk1; dsimp only; rwa [show (k + sumN (fun i => mkRec (xs.getD i default)) i) + 1 + 1 + 1 + 1 + 1 + 1 = (k + sumN (fun i => mkRec (xs.getD i default)) i) + 6 by omega] at this
   ·have := mk2; dsimp only; rwa [show (k + sumN (fun i => mkRec (xs.getD i default)) i) + 1 + 1 + 1 + 1 + 1 + 1 + ((ys.getD i default).Rows.length : Int) = (k + sumN (fun i => mkRec (xs.getD i default)) i) + 6 + mx1.length by omega] at this
   ·have := mk3; dsimp only; rwa [show (k + sumN (fun i => mkRec (xs.getD i default)) i) + 1 + 1 + 1 + 1 + 1 + 1 + ((ys.getD i default).Rows.length : Int) + ((ys.getD i default).Data.length : Int) = (k + sumN (fun i => mkRec (xs.getD i default)) i) + 6 + mx1.length + mx2.length by omega] at this), trivial⟩, by dsimp only; omega⟩
 ·refine W_exit (W_sr (sV rfl (py_move rfl) (sV rfl (py_assign rfl) (s_nil (W_ret (hQ _ _ (fin1 Tryz.results133 rfl ?_)))))))
  obtain rfl : i = xs.length := by omega
  exact ⟨rfl, _, H1.done, mk_end hI⟩
theorem Tryz_laws_markTapeS {w : World} {xs : List Tape} {xsA : Option Addr} {xsC : Nat} {k : Int} {fp : List Nat} (o : own true w [.slice xsA xs.length xsC] xs fp) (nd : fp.Nodup) (hk : 0 ≤ k ∧ k + mkL mkTape xs ≤ 4611686018427387904) : Ret Tryz.prog 90 #[.slice xsA xs.length xsC, .int .i64 k] w fun v w' => (v = .int .i64 (k + mkL mkTape xs) ∧ ∃ xs', Mut w w' fp [.slice xsA xs.length xsC] xs' ∧ (xs'.length = xs.length ∧ mkL mkTape xs' = mkL mkTape xs ∧ MkL MkTape mkTape xs' k)) := by
 have len := own_len_le o
 unfold maxLen at len
 refine ret_Q (vs := [.slice xsA xs.length xsC, .int .i64 k]) Tryz.func90 rfl Tryz.ntmps90 rfl (fun Q hQ hN => ?_)
 have H0 := Sep.begin o nd
 refine W_sr (sV rfl (py_assign rfl) (s_nil (W_seq (W_sr (sV rfl (py_assign rfl) (s_nil (W_block (W_loop (γ := Nat × List Tape × List Nat) (fun (i, ys, f) => [(0, .slice xsA xs.length xsC), (1, .int .i64 (k + sumN (fun i => mkTape (xs.getD i default)) i)), (5, .int .i64 i)]) (fun (i, ys, f) w' => Sep (· ∈ fp) w [mine [.slice xsA xs.length xsC] ys f] [] w' ∧ MkInv MkTape mkTape xs k i ys ∧ True) (fun (i, ys, f) => xs.length - i) (0, xs, fp) ⟨rfl, eqI (by simp [sumN]), rfl, trivial⟩ ⟨H0, mk_begin, trivial⟩ (fun (i, ys, f) w1 H1 => ?_)))))))))
 obtain ⟨H1, hI, _⟩ := H1
 refine W_seq (W_seq ?_)
 have hiB := hI.1
 have hys := hI.2.1
 refine W_reg (sV rfl (py_move rfl) (sV rfl (py_move rfl) (sV rfl (py_len Tryz.underlying35 rfl) (sV rfl (py_lss rfl rfl) (s_nil (W_ifd rfl (fun c1 => ?_) (fun c1 => ?_)))))))
 ·refine W_skip (W_seq (W_block (W_seq ?_)))
  have hiL : i < xs.length := by omega
  have hat := mk_at hI
  obtain ⟨sg, sl⟩ := mkL_at (c := mkTape) hiL
  have hci : mkTape (ys.getD i default) = mkTape (xs.getD i default) := hI.2.2.1 i
  have hcu : mkTape (ys.getD i default) = 1 + mkL mkRec (ys.getD i default).Recs := rfl
  obtain ⟨eb1, eo1, eT1, eF1, eG1, ea1, ek1, eg1, ee1, eK1, eH1⟩ := Tape.focus H1 0 rfl i (by omega)
  have eK1U := eK1
  unfold Tape.Ok at eK1U
  try unfold I64ok at eK1U
  try unfold maxLen at eK1U
  try dsimp only [List.nil_append, List.cons_append, List.set_cons_zero, List.set_cons_succ] at eH1
  refine W_reg (sV rfl (py_move rfl) (sV rfl (py_move rfl) (sV rfl (py_move rfl) (sV rfl (py_rem rfl rfl (by omega)) (sV rfl (py_eql rfl rfl) (sV rfl (py_elz Tryz.underlying35 Tryz.sizeOf155 rfl rfl ee1 i (by omega) (by omega)) (sV rfl (py_field Tryz.underlying155 rfl Tryz.sizeOf4 rfl rfl) (s_hsto (wn rfl) Tryz.sizeOf4 eH1 0 0 rfl rfl rfl rfl rfl (fun w2 H2 => ?_)))))))))
  dsimp only [List.nil_append, List.cons_append, List.set_cons_zero, List.set_cons_succ, layL] at H2
  refine s_nil (W_sr (sV rfl (py_move rfl) (sV rfl (py_add rfl rfl (in64 ⟨by omega, by omega⟩)) (sV rfl (py_assign rfl) (s_nil (W_reg (sV rfl (py_move rfl) (sV rfl (py_move rfl) (sV rfl (py_elz Tryz.underlying35 Tryz.sizeOf155 rfl rfl ee1 i (by omega) (by omega)) (sV rfl (py_field Tryz.underlying155 rfl Tryz.sizeOf82 rfl rfl) (sV rfl (py_load Tryz.underlying82 rfl rfl (at_cell (H2.holAt 0 rfl) 1 rfl)) (sV rfl (py_move rfl) (s_call (wn rfl) rfl rfl (pc_call Tryz.func133 rfl Tryz_nm133 rfl) (Tryz_laws_markRecS (H2.mine 2 rfl) (H2.nodup1 (i := 2) rfl) (by constructor <;> omega)) (fun v1 w3 r1 => ?_))))))))))))))
  obtain ⟨rfl, mx1, mm1, ml1⟩ := r1
  obtain ⟨fp1, H3⟩ := H2.mut 2 rfl mm1
  try dsimp only [List.nil_append, List.cons_append, List.set_cons_zero, List.set_cons_succ] at H3
  refine sV rfl (py_assign rfl) (s_nil (W_reg (sV rfl (py_move rfl) (sV rfl (py_add rfl rfl (in64 ⟨by omega, by omega⟩)) (sV rfl (py_assign rfl) (s_nil ?_))))))
  have okz : (⟨decide ((k + sumN (fun i => mkTape (xs.getD i default)) i).tmod 3 = 0), mx1⟩ : Tape).Ok := trivial
  obtain ⟨fp2, H4⟩ := Tape.fill H3 0 2 rfl rfl rfl okz
  try dsimp only [List.nil_append, List.cons_append, List.set_cons_zero, List.set_cons_succ] at H4
  refine ⟨(i + 1, _, _), ⟨rfl, eqI (by omega), rfl, trivial⟩, ⟨(H4.dtake 1), mk_step hI hiL (by rw [← hci]; unfold mkTape; dsimp only; rw [ml1.2.1]) ⟨rfl, ml1.2.2⟩, trivial⟩, by dsimp only; omega⟩
 ·refine W_exit (W_sr (sV rfl (py_move rfl) (sV rfl (py_assign rfl) (s_nil (W_ret (hQ _ _ (fin1 Tryz.results90 rfl ?_)))))))
  obtain rfl : i = xs.length := by omega
  exact ⟨rfl, _, H1.done, mk_end hI⟩
end Go.Wk
namespace Go.Wk
open Go.Proofs Rp
set_option maxRecDepth 10000
theorem Tryz_laws_markWorld {w : World} {x : Wld} {xA9 : Option Addr} {xC9 : Nat} {xA10 : Option Addr} {xC10 : Nat} {xA11 : Option Addr} {xC11 : Nat} {k : Int} {fp : List Nat} (xK : x.Ok) (o : own true w [.int .i64 x.Shape.Groups, .int .i64 x.Shape.Column, .int .i64 x.Shape.Data, .int .i64 x.Shape.Spare, .int .i64 x.Shape.Rows, .int .i64 x.Shape.Cap, .int .i64 x.Shape.Batch, .int .i64 x.Shape.Queue, .int .i64 x.Shape.Stage, .slice xA9 x.Groups.length xC9, .slice xA10 x.On.length xC10, .slice xA11 x.Tapes.length xC11, .int .i64 x.Writes, .int .i64 x.Stop, .bool x.Down] x fp) (nd : fp.Nodup) (hk : 0 ≤ k ∧ k + mkWld x ≤ 4611686018427387904) : Ret Tryz.prog 24 #[x.val xA9 xC9 xA10 xC10 xA11 xC11, .int .i64 k] w fun v w' => (v = .int .i64 (k + mkWld x) ∧ ∃ x' : Wld, Mut w w' fp [.int .i64 x.Shape.Groups, .int .i64 x.Shape.Column, .int .i64 x.Shape.Data, .int .i64 x.Shape.Spare, .int .i64 x.Shape.Rows, .int .i64 x.Shape.Cap, .int .i64 x.Shape.Batch, .int .i64 x.Shape.Queue, .int .i64 x.Shape.Stage, .slice xA9 x.Groups.length xC9, .slice xA10 x.On.length xC10, .slice xA11 x.Tapes.length xC11, .int .i64 x.Writes, .int .i64 x.Stop, .bool x.Down] x' ∧ (x'.Groups.length = x.Groups.length ∧ x'.On.length = x.On.length ∧ x'.Tapes.length = x.Tapes.length ∧ mkWld x' = mkWld x ∧ MkWld x' k ∧ x'.Shape = x.Shape ∧ x'.Writes = x.Writes ∧ x'.Stop = x.Stop ∧ x'.Down = x.Down)) := by
 unfold mkWld at hk
 refine ret_Q (vs := [x.val xA9 xC9 xA10 xC10 xA11 xC11, .int .i64 k]) Tryz.func24 rfl Tryz.ntmps24 rfl (fun Q hQ hN => ?_)
 obtain ⟨f9, f10, f11, ef, ok, o9, o10, o11⟩ := own_WldC o
 have H0 := (Sep.begin o nd).part 0 rfl [mine [.slice xA9 x.Groups.length xC9] x.Groups f9, mine [.slice xA10 x.On.length xC10] x.On f10, mine [.slice xA11 x.Tapes.length xC11] x.Tapes f11] (all_cons o9 (all_cons o10 (all_cons o11 (by simp)))) (by simp [blocks, mine, ef])
 try dsimp only [List.nil_append, List.cons_append, List.set_cons_zero, List.set_cons_succ] at H0
 refine W_sr (s_box (wn rfl) rfl rfl H0 (fun b1 w1 e1 g1 H1 => ?_))
 refine sV rfl (py_assign rfl) (s_nil (W_sr (sV rfl (py_field Tryz.underlying37 rfl Tryz.sizeOf34 rfl rfl) (sV rfl (py_load Tryz.underlying34 rfl rfl (cell_atL (H1.box 4 rfl) rfl)) (sV rfl (py_move rfl) (s_call (wn rfl) rfl rfl (pc_call Tryz.func88 rfl Tryz_nm88 rfl) (Tryz_laws_markDriveSS (H1.mine 1 rfl) (H1.nodup1 (i := 1) rfl) (by constructor <;> omega)) (fun v1 w2 r1 => ?_)))))))
 obtain ⟨rfl, mx1, mm1, ml1⟩ := r1
 obtain ⟨fp1, H2⟩ := H1.mut 1 rfl mm1
 try dsimp only [List.nil_append, List.cons_append, List.set_cons_zero, List.set_cons_succ] at H2
 refine sV rfl (py_assign rfl) (s_nil (W_sr (sV rfl (py_field Tryz.underlying37 rfl Tryz.sizeOf25 rfl rfl) (sV rfl (py_load Tryz.underlying25 rfl rfl (cell_atL (H2.box 4 rfl) rfl)) (sV rfl (py_move rfl) (s_call (wn rfl) rfl rfl (pc_call Tryz.func89 rfl Tryz_nm89 rfl) (Tryz_laws_markInt64S (H2.mine 2 rfl) (H2.nodup1 (i := 2) rfl) (by constructor <;> omega)) (fun v2 w3 r2 => ?_)))))))
 obtain ⟨rfl, mx2, mm2, ml2, mk1⟩ := r2
 obtain ⟨fp2, H3⟩ := H2.mut 2 rfl mm2
 try dsimp only [List.nil_append, List.cons_append, List.set_cons_zero, List.set_cons_succ] at H3
 refine sV rfl (py_assign rfl) (s_nil (W_sr (sV rfl (py_field Tryz.underlying37 rfl Tryz.sizeOf35 rfl rfl) (sV rfl (py_load Tryz.underlying35 rfl rfl (cell_atL (H3.box 4 rfl) rfl)) (sV rfl (py_move rfl) (s_call (wn rfl) rfl rfl (pc_call Tryz.func90 rfl Tryz_nm90 rfl) (Tryz_laws_markTapeS (H3.mine 3 rfl) (H3.nodup1 (i := 3) rfl) (by constructor <;> omega)) (fun v3 w4 r3 => ?_)))))))
 obtain ⟨rfl, mx3, mm3, ml3⟩ := r3
 obtain ⟨fp3, H4⟩ := H3.mut 3 rfl mm3
 try dsimp only [List.nil_append, List.cons_append, List.set_cons_zero, List.set_cons_succ] at H4
 refine sV rfl (py_assign rfl) (s_nil (W_sr (sV rfl (py_move rfl) (sV rfl (py_assign rfl) (s_nil (W_ret (hQ _ _ (fin1 Tryz.results24 rfl ?_))))))))
 exact ⟨congrArg (Value.int .i64) (by unfold mkWld; omega), Wld.mkOut ok (H4.dtake 4) ml1 ml2 mk1 ml3⟩
end Go.Wk
namespace Go.Wk
theorem getD_app_l {α : Type} {a b : List α} {d : α} {i : Nat} (h : i < a.length) : (a ++ b).getD i d = a.getD i d := by simp [List.getD, List.getElem?_append_left h]
theorem getD_el {α : Type} {l : List α} {d : α} {i : Nat} (h : i < l.length) : l.getD i d = l[i] := by simp [List.getD, h]
end Go.Wk
namespace Go.Wk
open Rp (sz own)
def OwnW (w : World) (b : Nat) (T : TypeId) (z : Wld) (fp : List Nat) : Prop :=
  ∃ A9 C9 A10 C10 A11 C11 f9 f10 f11, w.heap[b]? = some (.cells [.int .i64 z.Shape.Groups, .int .i64 z.Shape.Column, .int .i64 z.Shape.Data, .int .i64 z.Shape.Spare, .int .i64 z.Shape.Rows, .int .i64 z.Shape.Cap, .int .i64 z.Shape.Batch, .int .i64 z.Shape.Queue, .int .i64 z.Shape.Stage, .slice A9 z.Groups.length C9, .slice A10 z.On.length C10, .slice A11 z.Tapes.length C11, .int .i64 z.Writes, .int .i64 z.Stop, .bool z.Down].toArray T) ∧ own true w [.slice A9 z.Groups.length C9] z.Groups f9 ∧ own true w [.slice A10 z.On.length C10] z.On f10 ∧ own true w [.slice A11 z.Tapes.length C11] z.Tapes f11 ∧ z.Ok ∧ fp = b :: (f9 ++ (f10 ++ f11))
theorem OwnW.st {w w' : World} {b T z fp} (h : OwnW w b T z fp) (k : ∀ x ∈ fp, w'.heap[x]? = w.heap[x]?) : OwnW w' b T z fp := by
  obtain ⟨A9, C9, A10, C10, A11, C11, f9, f10, f11, h1, h2, h3, h4, h5, h6⟩ := h
  subst h6
  exact ⟨A9, C9, A10, C10, A11, C11, f9, f10, f11, (k b (by simp)).trans h1, Rp.st h2 fun x hx => k x (by simp [hx]), Rp.st h3 fun x hx => k x (by simp [hx]), Rp.st h4 fun x hx => k x (by simp [hx]), h5, rfl⟩
theorem OwnW.lt {w : World} {b T z fp} (h : OwnW w b T z fp) : ∀ x ∈ fp, x < w.heap.size := by
  obtain ⟨A9, C9, A10, C10, A11, C11, f9, f10, f11, h1, h2, h3, h4, h5, h6⟩ := h
  subst h6
  intro x hx
  simp only [List.mem_cons, List.mem_append] at hx
  rcases hx with rfl | hx | hx | hx
  · exact (Array.getElem?_eq_some_iff.1 h1).1
  · exact Rp.lt h2 x hx
  · exact Rp.lt h3 x hx
  · exact Rp.lt h4 x hx
def wldR (b : Nat) (T : TypeId) (z : Wld) (fp : List Nat) : Rsc := ⟨fp, fun w => OwnW w b T z fp, fun h k => h.st k, fun h => h.lt⟩
def MutW (w w' : World) (fp : List Nat) (b : Nat) (T : TypeId) (z : Wld) : Prop :=
  Ext (· ∈ fp) w w' ∧ ∃ fp', OwnW w' b T z fp' ∧ fp'.Nodup ∧ ∀ x ∈ fp', x ∈ fp ∨ w.heap.size ≤ x
section
variable {M : Nat → Prop} {w0 w w' : World} {Δ F : List Rsc} {b : Nat} {T : TypeId} {z z' : Wld} {fp : List Nat}
theorem Sep.beginW (h : OwnW w b T z fp) (hn : fp.Nodup) : Sep (· ∈ fp) w [wldR b T z fp] [] w :=
  ⟨Ext.refl, by simpa [wldR] using h, by simpa [blocks, wldR] using hn, fun b hb => .inl (by simpa [blocks, wldR] using hb), by simp, by simp⟩
theorem Sep.wldAt (h : Sep M w0 Δ F w) (i : Nat) (hi : Δ[i]? = some (wldR b T z fp)) : OwnW w b T z fp := h.r i hi
theorem Sep.doneW {Δ' : List Rsc} {fp0 : List Nat} (h : Sep (· ∈ fp0) w0 (wldR b T z fp :: Δ') F w) : MutW w0 w fp0 b T z :=
  ⟨h.ext, fp, h.r 0 rfl, h.nodup1 (i := 0) rfl, fun x hx => h.new x (by simp [blocks, wldR, hx])⟩
theorem Sep.mutW (h : Sep M w0 Δ F w) (i : Nat) (hi : Δ[i]? = some (wldR b T z fp)) (m : MutW w w' fp b T z') : ∃ fp', Sep M w0 (Δ.set i (wldR b T z' fp')) F w' := by
  obtain ⟨e, fp', h1, h2, h3⟩ := m
  exact ⟨fp', h.set hi (q := wldR b T z' fp') e h1 h2 h3⟩
theorem Sep.openW (h : Sep M w0 Δ F w) (i : Nat) (hi : Δ[i]? = some (wldR b T z fp)) :
    ∃ A9 C9 A10 C10 A11 C11 f9 f10 f11, z.Ok ∧ Sep M w0 (Δ.set i (Wk.box b (.cells [.int .i64 z.Shape.Groups, .int .i64 z.Shape.Column, .int .i64 z.Shape.Data, .int .i64 z.Shape.Spare, .int .i64 z.Shape.Rows, .int .i64 z.Shape.Cap, .int .i64 z.Shape.Batch, .int .i64 z.Shape.Queue, .int .i64 z.Shape.Stage, .slice A9 z.Groups.length C9, .slice A10 z.On.length C10, .slice A11 z.Tapes.length C11, .int .i64 z.Writes, .int .i64 z.Stop, .bool z.Down].toArray T)) ++ [gone, Wk.mine [.slice A9 z.Groups.length C9] z.Groups f9, Wk.mine [.slice A10 z.On.length C10] z.On f10, Wk.mine [.slice A11 z.Tapes.length C11] z.Tapes f11]) F w := by
  obtain ⟨A9, C9, A10, C10, A11, C11, f9, f10, f11, h1, h2, h3, h4, h5, h6⟩ : OwnW w b T z fp := h.r i hi
  have hil : i < Δ.length := (List.getElem?_eq_some_iff.1 hi).1
  have p1 : (Wk.box b (.cells [.int .i64 z.Shape.Groups, .int .i64 z.Shape.Column, .int .i64 z.Shape.Data, .int .i64 z.Shape.Spare, .int .i64 z.Shape.Rows, .int .i64 z.Shape.Cap, .int .i64 z.Shape.Batch, .int .i64 z.Shape.Queue, .int .i64 z.Shape.Stage, .slice A9 z.Groups.length C9, .slice A10 z.On.length C10, .slice A11 z.Tapes.length C11, .int .i64 z.Writes, .int .i64 z.Stop, .bool z.Down].toArray T)).φ w := h1
  have H2 := h.part i hi [Wk.box b (.cells [.int .i64 z.Shape.Groups, .int .i64 z.Shape.Column, .int .i64 z.Shape.Data, .int .i64 z.Shape.Spare, .int .i64 z.Shape.Rows, .int .i64 z.Shape.Cap, .int .i64 z.Shape.Batch, .int .i64 z.Shape.Queue, .int .i64 z.Shape.Stage, .slice A9 z.Groups.length C9, .slice A10 z.On.length C10, .slice A11 z.Tapes.length C11, .int .i64 z.Writes, .int .i64 z.Stop, .bool z.Down].toArray T), Wk.mine [.slice A9 z.Groups.length C9] z.Groups f9, Wk.mine [.slice A10 z.On.length C10] z.On f10, Wk.mine [.slice A11 z.Tapes.length C11] z.Tapes f11] (all_cons p1 (all_cons h2 (all_cons h3 (all_cons h4 (by simp))))) (by simp [blocks, Wk.mine, Wk.box, wldR, h6])
  exact ⟨A9, C9, A10, C10, A11, C11, f9, f10, f11, h5, H2.perm (set_swap hil)⟩
theorem Sep.closeW (h : Sep M w0 Δ F w) (i j9 j10 j11 : Nat) (z : Wld) {A9 C9 A10 C10 A11 C11 f9 f10 f11 n9 n10 n11} (hi : Δ[i]? = some (Wk.box b (.cells [.int .i64 z.Shape.Groups, .int .i64 z.Shape.Column, .int .i64 z.Shape.Data, .int .i64 z.Shape.Spare, .int .i64 z.Shape.Rows, .int .i64 z.Shape.Cap, .int .i64 z.Shape.Batch, .int .i64 z.Shape.Queue, .int .i64 z.Shape.Stage, .slice A9 n9 C9, .slice A10 n10 C10, .slice A11 n11 C11, .int .i64 z.Writes, .int .i64 z.Stop, .bool z.Down].toArray T))) (h9 : Δ[j9]? = some (Wk.mine [.slice A9 n9 C9] z.Groups f9)) (h10 : Δ[j10]? = some (Wk.mine [.slice A10 n10 C10] z.On f10)) (h11 : Δ[j11]? = some (Wk.mine [.slice A11 n11 C11] z.Tapes f11))
    (d1 : Nat.beq j9 i = false) (d2 : Nat.beq j10 i = false) (d3 : Nat.beq j11 i = false) (d4 : Nat.beq j10 j9 = false) (d5 : Nat.beq j11 j9 = false) (d6 : Nat.beq j11 j10 = false) (ok : z.Ok) :
    ∃ fp, Sep M w0 ((((Δ.set j11 gone).set j10 gone).set j9 gone).set i (wldR b T z fp)) F w := by
  obtain rfl := own_n (h.mine j9 h9)
  obtain rfl := own_n (h.mine j10 h10)
  obtain rfl := own_n (h.mine j11 h11)
  have n1 : j9 ≠ i := fun e => by subst e; simp at d1
  have n2 : j10 ≠ i := fun e => by subst e; simp at d2
  have n3 : j11 ≠ i := fun e => by subst e; simp at d3
  have n4 : j10 ≠ j9 := fun e => by subst e; simp at d4
  have n5 : j11 ≠ j9 := fun e => by subst e; simp at d5
  have n6 : j11 ≠ j10 := fun e => by subst e; simp at d6
  have g : ∀ {L : List Rsc} {k : Nat} {a r : Rsc}, L[k]? = some r → (L.set k a)[k]? = some a := fun h => List.getElem?_set_self (List.getElem?_eq_some_iff.1 h).1
  have H1 := h.join2 j10 j11 h10 h11 d6
  have a10 : ((Δ.set j11 gone).set j10 (cat (Wk.mine [.slice A10 z.On.length C10] z.On f10) (Wk.mine [.slice A11 z.Tapes.length C11] z.Tapes f11)))[j10]? = some (cat (Wk.mine [.slice A10 z.On.length C10] z.On f10) (Wk.mine [.slice A11 z.Tapes.length C11] z.Tapes f11)) := g (r := Wk.mine [.slice A10 z.On.length C10] z.On f10) (by rw [List.getElem?_set_ne n6]; exact h10)
  have a9 : ((Δ.set j11 gone).set j10 (cat (Wk.mine [.slice A10 z.On.length C10] z.On f10) (Wk.mine [.slice A11 z.Tapes.length C11] z.Tapes f11)))[j9]? = some (Wk.mine [.slice A9 z.Groups.length C9] z.Groups f9) := by rw [List.getElem?_set_ne n4, List.getElem?_set_ne n5]; exact h9
  have H2 := H1.join2 j9 j10 a9 a10 d4
  rw [List.set_set] at H2
  have ai : ((((Δ.set j11 gone).set j10 gone).set j9 (cat (Wk.mine [.slice A9 z.Groups.length C9] z.Groups f9) (cat (Wk.mine [.slice A10 z.On.length C10] z.On f10) (Wk.mine [.slice A11 z.Tapes.length C11] z.Tapes f11)))))[i]? = some (Wk.box b (.cells [.int .i64 z.Shape.Groups, .int .i64 z.Shape.Column, .int .i64 z.Shape.Data, .int .i64 z.Shape.Spare, .int .i64 z.Shape.Rows, .int .i64 z.Shape.Cap, .int .i64 z.Shape.Batch, .int .i64 z.Shape.Queue, .int .i64 z.Shape.Stage, .slice A9 z.Groups.length C9, .slice A10 z.On.length C10, .slice A11 z.Tapes.length C11, .int .i64 z.Writes, .int .i64 z.Stop, .bool z.Down].toArray T)) := by rw [List.getElem?_set_ne n1, List.getElem?_set_ne n2, List.getElem?_set_ne n3]; exact hi
  have b9 : ((((Δ.set j11 gone).set j10 gone).set j9 (cat (Wk.mine [.slice A9 z.Groups.length C9] z.Groups f9) (cat (Wk.mine [.slice A10 z.On.length C10] z.On f10) (Wk.mine [.slice A11 z.Tapes.length C11] z.Tapes f11)))))[j9]? = some (cat (Wk.mine [.slice A9 z.Groups.length C9] z.Groups f9) (cat (Wk.mine [.slice A10 z.On.length C10] z.On f10) (Wk.mine [.slice A11 z.Tapes.length C11] z.Tapes f11))) := g (r := Wk.mine [.slice A9 z.Groups.length C9] z.Groups f9) (by rw [List.getElem?_set_ne n4, List.getElem?_set_ne n5]; exact h9)
  have H3 := H2.join2 i j9 ai b9 d1
  rw [List.set_set] at H3
  obtain ⟨q1, q2, q3, q4⟩ : (cat (Wk.box b (.cells [.int .i64 z.Shape.Groups, .int .i64 z.Shape.Column, .int .i64 z.Shape.Data, .int .i64 z.Shape.Spare, .int .i64 z.Shape.Rows, .int .i64 z.Shape.Cap, .int .i64 z.Shape.Batch, .int .i64 z.Shape.Queue, .int .i64 z.Shape.Stage, .slice A9 z.Groups.length C9, .slice A10 z.On.length C10, .slice A11 z.Tapes.length C11, .int .i64 z.Writes, .int .i64 z.Stop, .bool z.Down].toArray T)) (cat (Wk.mine [.slice A9 z.Groups.length C9] z.Groups f9) (cat (Wk.mine [.slice A10 z.On.length C10] z.On f10) (Wk.mine [.slice A11 z.Tapes.length C11] z.Tapes f11)))).φ w := H3.r i (g (r := Wk.box b (.cells [.int .i64 z.Shape.Groups, .int .i64 z.Shape.Column, .int .i64 z.Shape.Data, .int .i64 z.Shape.Spare, .int .i64 z.Shape.Rows, .int .i64 z.Shape.Cap, .int .i64 z.Shape.Batch, .int .i64 z.Shape.Queue, .int .i64 z.Shape.Stage, .slice A9 z.Groups.length C9, .slice A10 z.On.length C10, .slice A11 z.Tapes.length C11, .int .i64 z.Writes, .int .i64 z.Stop, .bool z.Down].toArray T)) (by rw [List.getElem?_set_ne n1, List.getElem?_set_ne n2, List.getElem?_set_ne n3]; exact hi))
  have hg := g (a := cat (Wk.box b (.cells [.int .i64 z.Shape.Groups, .int .i64 z.Shape.Column, .int .i64 z.Shape.Data, .int .i64 z.Shape.Spare, .int .i64 z.Shape.Rows, .int .i64 z.Shape.Cap, .int .i64 z.Shape.Batch, .int .i64 z.Shape.Queue, .int .i64 z.Shape.Stage, .slice A9 z.Groups.length C9, .slice A10 z.On.length C10, .slice A11 z.Tapes.length C11, .int .i64 z.Writes, .int .i64 z.Stop, .bool z.Down].toArray T)) (cat (Wk.mine [.slice A9 z.Groups.length C9] z.Groups f9) (cat (Wk.mine [.slice A10 z.On.length C10] z.On f10) (Wk.mine [.slice A11 z.Tapes.length C11] z.Tapes f11)))) (r := Wk.box b (.cells [.int .i64 z.Shape.Groups, .int .i64 z.Shape.Column, .int .i64 z.Shape.Data, .int .i64 z.Shape.Spare, .int .i64 z.Shape.Rows, .int .i64 z.Shape.Cap, .int .i64 z.Shape.Batch, .int .i64 z.Shape.Queue, .int .i64 z.Shape.Stage, .slice A9 z.Groups.length C9, .slice A10 z.On.length C10, .slice A11 z.Tapes.length C11, .int .i64 z.Writes, .int .i64 z.Stop, .bool z.Down].toArray T)) (L := ((Δ.set j11 gone).set j10 gone).set j9 gone) (k := i) (by rw [List.getElem?_set_ne n1, List.getElem?_set_ne n2, List.getElem?_set_ne n3]; exact hi)
  have hn := H3.nodup1 hg
  have H4 := H3.conv i (wldR b T z (b :: (f9 ++ (f10 ++ f11)))) hg ⟨A9, C9, A10, C10, A11, C11, f9, f10, f11, q1, q2, q3, q4, ok, rfl⟩ (fun x hx => hx) hn
  rw [List.set_set] at H4
  exact ⟨_, H4⟩
end
section
variable {M : Nat → Prop} {w0 w w1 w2 : World} {Δ F : List Rsc}
theorem Sep.inB (_ : Sep M w0 Δ F w) (i : Nat) {r : Rsc} (hi : Δ[i]? = some r) {b : Nat} (hb : b ∈ r.fp) : b ∈ blocks Δ := mem_blocks.2 ⟨r, List.mem_of_getElem? hi, hb⟩
end
end Go.Wk
namespace Go.Wk
open Rp (sz own)
def noPower (z : Wld) : Bool := decide (z.Stop ≠ -1) && decide (z.Stop ≤ z.Writes)
def cutW (z : Wld) : Wld := ⟨z.Shape, z.Groups, [], z.Tapes, z.Writes, z.Stop, true⟩
def tickW (z : Wld) : Wld := ⟨z.Shape, z.Groups, z.On, z.Tapes, z.Writes + 1, z.Stop, z.Down⟩
def rawW (z : Wld) (y : Wld) : Wld := if noPower z = true then cutW z else tickW y
theorem rawW_no {z y : Wld} (h : noPower z = true) : rawW z y = cutW z := if_pos h
theorem rawW_yes {z y : Wld} (h : noPower z = false) : rawW z y = tickW y := if_neg (by simp [h])
def noWld : Wld := ⟨⟨0, 0, 0, 0, 0, 0, 0, 0, 0⟩, [], [], [], 0, 0, false⟩
theorem sumN_mono {f g : Nat → Nat} (h : ∀ i, f i ≤ g i) : ∀ k, sumN f k ≤ sumN g k
  | 0 => Nat.le_refl _
  | k + 1 => Nat.add_le_add (sumN_mono h k) (h k)
theorem sumN_plus {f g : Nat → Nat} : ∀ k, sumN (fun i => f i + g i) k = sumN f k + sumN g k
  | 0 => rfl
  | k + 1 => by
    show sumN (fun i => f i + g i) k + (f k + g k) = sumN f k + f k + (sumN g k + g k)
    rw [sumN_plus k]; omega
theorem sumN_one {i c : Nat} : ∀ k, sumN (fun j => if j = i then c else 0) k = if i < k then c else 0
  | 0 => rfl
  | k + 1 => by
    show sumN (fun j => if j = i then c else 0) k + (if k = i then c else 0) = _
    rw [sumN_one k]
    by_cases h : k = i
    · subst h; rw [if_neg (by omega), if_pos rfl, if_pos (by omega)]; omega
    · rw [if_neg h]
      by_cases h2 : i < k
      · rw [if_pos h2, if_pos (by omega)]; omega
      · rw [if_neg h2, if_neg (by omega)]
section
variable {α : Type} [Inhabited α] {f : α → Nat} {xs : List α} {y : α} {i : Nat}
theorem mkL_set : mkL f (xs.set i y) ≤ mkL f xs + f y := by
  unfold mkL
  rw [List.length_set]
  have h1 : sumN (fun j => f ((xs.set i y).getD j default)) xs.length ≤ sumN (fun j => f (xs.getD j default) + (if j = i then f y else 0)) xs.length := sumN_mono (fun j => by
    rw [getD_set]
    split
    · next h => rw [if_pos h.1]; omega
    · omega) _
  rw [sumN_plus, sumN_one] at h1
  split at h1 <;> omega
theorem mkL_snoc : mkL f (xs ++ [y]) = mkL f xs + f y := by
  unfold mkL
  rw [List.length_append]
  show sumN _ xs.length + f ((xs ++ [y]).getD xs.length default) = _
  have e1 : (xs ++ [y]).getD xs.length default = y := by simp [List.getD]
  rw [e1, sumN_congr (g := fun i => f (xs.getD i default)) fun j hj => by
    have e : (xs ++ [y]).getD j default = xs.getD j default := by rw [getD_app_l hj]
    rw [e]]
theorem mkL_el (h : i < xs.length) : f (xs.getD i default) ≤ mkL f xs := by
  have h2 : sumN (fun i => f (xs.getD i default)) (i + 1) ≤ sumN (fun i => f (xs.getD i default)) xs.length := sumN_le (by omega)
  have h3 : sumN (fun i => f (xs.getD i default)) (i + 1) = sumN (fun i => f (xs.getD i default)) i + f (xs.getD i default) := rfl
  unfold mkL; omega
end
theorem mk_cut {z : Wld} : mkWld (cutW z) ≤ mkWld z := by
  unfold mkWld cutW; dsimp only; simp
end Go.Wk
namespace Go.Wk
open Rp (sz own)
theorem take_step {α : Type} {xs : List α} {k : Nat} {d : α} (h : k < xs.length) : xs.take k ++ [xs.getD k d] = xs.take (k + 1) := by
  rw [getD_el h]; exact List.take_append_getElem h
theorem worldF_rng {w : Wld} (h : worldF w = 0) : 0 ≤ w.Writes ∧ w.Writes ≤ 1000000000 ∧ -1 ≤ w.Stop ∧ w.Stop ≤ 1000000000 := by
  unfold worldF at h
  split at h
  · rename_i h1; exact absurd h h1
  · split at h
    · split at h
      · rename_i h1; exact absurd h h1
      · split at h
        · rename_i h1
          simp only [Bool.and_eq_true, ins_iff] at h1
          omega
        · omega
    · omega
theorem Sep.asSt {α β : Type} [Rp α] [Rp β] {M : Nat → Prop} {w0 w : World} {Δ F : List Rsc} (h : Sep M w0 Δ F w) (i : Nat) {cs cs' : List Value} {x : α} (y : β) {fp : List Nat} (hi : Δ[i]? = some (Wk.mine cs x fp)) (hq : own true w cs' y fp) : Sep M w0 (Δ.set i (Wk.mine cs' y fp)) F w :=
  have hn := h.nodup1 hi
  h.conv i (Wk.mine cs' y fp) hi hq (fun b hb => hb) hn
section
variable {w w' : World} {fp f : List Nat} {F : List Rsc} {y : WldResult} {x : Wld} {A10 A11 A12 : Option Addr} {C10 C11 C12 : Nat}
theorem WldResult.mutW (ok : y.Ok) (h : Sep (· ∈ fp) w [Wk.mine [.int .i64 y.Wd.Shape.Groups, .int .i64 y.Wd.Shape.Column, .int .i64 y.Wd.Shape.Data, .int .i64 y.Wd.Shape.Spare, .int .i64 y.Wd.Shape.Rows, .int .i64 y.Wd.Shape.Cap, .int .i64 y.Wd.Shape.Batch, .int .i64 y.Wd.Shape.Queue, .int .i64 y.Wd.Shape.Stage, .slice A10 y.Wd.Groups.length C10, .slice A11 y.Wd.On.length C11, .slice A12 y.Wd.Tapes.length C12, .int .i64 y.Wd.Writes, .int .i64 y.Wd.Stop, .bool y.Wd.Down] x f] F w') :
    Mut w w' fp [.int .i64 y.Code, .int .i64 y.Wd.Shape.Groups, .int .i64 y.Wd.Shape.Column, .int .i64 y.Wd.Shape.Data, .int .i64 y.Wd.Shape.Spare, .int .i64 y.Wd.Shape.Rows, .int .i64 y.Wd.Shape.Cap, .int .i64 y.Wd.Shape.Batch, .int .i64 y.Wd.Shape.Queue, .int .i64 y.Wd.Shape.Stage, .slice A10 y.Wd.Groups.length C10, .slice A11 y.Wd.On.length C11, .slice A12 y.Wd.Tapes.length C12, .int .i64 y.Wd.Writes, .int .i64 y.Wd.Stop, .bool y.Wd.Down] (⟨y.Code, x⟩ : WldResult) := by
  obtain ⟨B9, D9, B10, D10, B11, D11, g9, g10, g11, e, ef, ok', o9, o10, o11⟩ := own_Wld (h.mine 0 rfl)
  refine ⟨h.ext, f, ?_, h.nodup1 (i := 0) rfl, fun b hb => h.new b (by simpa [blocks, Wk.mine] using hb)⟩
  have hh := WldResult.own_mk (x := (⟨y.Code, x⟩ : WldResult)) ⟨ok.1, ok'⟩ o9 o10 o11
  have e2 := congrArg (fun l => Value.int .i64 y.Code :: l) e
  dsimp only at e2 hh
  rw [e2, ef]
  exact hh
end
section
variable {P : Program} {n : Nat} {ops : Array Oper} {Q : Post} {L : Env} {S : World → Prop} {w w0 : World} {M : Nat → Prop} {Δ F : List Rsc} {ty : TypeId} {p : String} {af : Array Edge} {g : Option (Nat × Bool)} {i : Nat} {rest : List (Nat × Bool)}
theorem d_stoS {t : TypeId} {x y : Operand} {b off sz : Nat} {cs : List Value} {T} {vs : List Value} (ho : ops.toList[i]? = some ⟨none, .store t x y, ty, p, af, g⟩) (hw : Wn ops n L ⟨none, .store t x y, ty, p, af, g⟩) (hs : ∀ w, (sizeOf t).run P w = .ok sz w) (hx : evL L x = some (.pointer (some ⟨b, off, none⟩))) (hy : evL L y = some (.agg vs.toArray))
    (hl : vs.length = sz) (h1 : allOne vs = true) (H : Sep M w0 Δ F w) (j : Nat) (hi : Δ[j]? = some (Wk.box b (.cells cs.toArray T))) (hf : Nat.ble (off + sz) cs.length = true) (hS : ∀ w', S w → Ext (· = b) w w' → rest ≠ [] → S w')
    (k : ∀ w', Ext (· = b) w w' → Sep M w0 (Δ.set j (Wk.box b (.cells (layL cs off vs).toArray T))) F w' → DL P n ops Q S rest L w') :
    DL P n ops Q S ((i, false) :: rest) L w := by
  have hf' := Nat.le_of_ble_eq_true hf
  have h := k _ (Ext.refl.put (.inl rfl)) (H.put j _ hi)
  rw [← lay_layL (by rw [hl]; exact hf')] at h
  exact d_do ho hw rfl (pd_storeS hs hx hy hl (allOne_spec h1) (H.box j hi) (by simpa using hf')) (fun hSw hr => hS _ hSw (Ext.refl.put (.inl rfl)) hr) h
end
end Go.Wk
namespace Go.Wk
open Rp (sz own)
section
variable {M : Nat → Prop} {w0 w w1 w2 : World} {Δ F : List Rsc} {b : Nat} {T : TypeId} {z : Wld} {fp fp1 : List Nat}
theorem Sep.boxFar (h : Sep M w0 Δ F w) (i j : Nat) {c : Nat} {o : Obj} (hi : Δ[i]? = some (wldR b T z fp)) (hj : Δ[j]? = some (Wk.box c o)) (hij : Nat.beq j i = false) (s1 : ∀ x ∈ fp1, x ∈ fp ∨ w.heap.size ≤ x) (e1 : Ext (· ∈ fp) w w1) :
    w1.heap[c]? = some o ∧ c ∉ fp1 := by
  have hb : w.heap[c]? = some o := h.r j hj
  have hn : c ∉ fp := h.apart (i := i) (j := j) hi hj hij c (by simp [Wk.box])
  exact ⟨e1.heapM hn hb, fun hm => (s1 c hm).elim hn fun hg => by have := (Array.getElem?_eq_some_iff.1 hb).1; omega⟩
theorem Sep.boxF (h : Sep M w0 [wldR b T z fp] F w) {c : Nat} {o : Obj} (hb : w.heap[c]? = some o) (hd : c ∉ fp) : Sep M w0 [wldR b T z fp] (F ++ [Wk.box c o]) w :=
  h.look (r := Wk.box c o) hb fun x hx hm => by
    rw [show x = c by simpa [Wk.box] using hx] at hm
    exact hd (by simpa [blocks, wldR] using hm)
def Sep.S2 {M : Nat → Prop} {w0 w : World} {Δ F : List Rsc} (_ : Sep M w0 Δ F w) (i j : Nat) : World → Prop := Ext (fun b => b ∈ (Δ.getD i gone).fp ∨ b ∈ (Δ.getD j gone).fp) w
theorem getD_some {r d : Rsc} {i : Nat} (h : Δ[i]? = some r) : Δ.getD i d = r := by simp [List.getD, h]
theorem Sep.s2Call (h : Sep M w0 Δ F w) {i j : Nat} (hS : h.S2 i j w1) (e : Ext No w1 w2) : h.S2 i j w2 := Ext.trans hS e.no
theorem Sep.s2In (h : Sep M w0 Δ F w) {i j : Nat} (hS : h.S2 i j w1) (k : Nat) {r : Rsc} (hk : Δ[k]? = some r) (hij : k = i ∨ k = j) {N : Nat → Prop} (e : Ext N w1 w2) (hN : ∀ b, N b → b ∈ r.fp) : h.S2 i j w2 :=
  Ext.step hS e fun b hb => .inl (by
    rcases hij with rfl | rfl
    · exact .inl (by rw [getD_some hk]; exact hN b hb)
    · exact .inr (by rw [getD_some hk]; exact hN b hb))
theorem Sep.s2Box (h : Sep M w0 Δ F w) {i j : Nat} (hx : h.S2 i j w1) (k : Nat) {c : Nat} {o : Obj} (hk : Δ[k]? = some (Wk.box c o)) {ri rj : Rsc} (hi : Δ[i]? = some ri) (hj : Δ[j]? = some rj) (d1 : Nat.beq k i = false) (d2 : Nat.beq k j = false) : w1.heap[c]? = some o :=
  Ext.heapM hx (fun hm => by
    rcases hm with hm | hm
    · rw [getD_some hi] at hm; exact h.apart (i := i) (j := k) hi hk d1 c (by simp [Wk.box]) hm
    · rw [getD_some hj] at hm; exact h.apart (i := j) (j := k) hj hk d2 c (by simp [Wk.box]) hm) (h.r k hk)
end
section
variable {P : Program} {n : Nat} {ops : Array Oper} {Q : Post} {L : Env} {S : World → Prop} {w w0 : World} {M : Nat → Prop} {Δ F : List Rsc} {ty : TypeId} {p : String} {af : Array Edge} {g : Option (Nat × Bool)} {α : Type} [Rp α] {i : Nat} {rest : List (Nat × Bool)}
theorem d_hsto {t : TypeId} {x y : Operand} {ad : Option Addr} {m cap k b off : Nat} {xs : List α} {T : TypeId} {ck : List Value} {f1 f2 : List Nat} {v : Value} (ho : ops.toList[i]? = some ⟨none, .store t x y, ty, p, af, g⟩) (hw : Wn ops n L ⟨none, .store t x y, ty, p, af, g⟩) (hs : ∀ w, (sizeOf t).run P w = .ok 1 w)
    (H : Sep M w0 Δ F w) (j q : Nat) (hi : Δ[j]? = some (hol ad m cap xs k b off T ck f1 f2)) (hj : Nat.blt q ck.length = true) (hx : evL L x = some (.pointer (some ⟨b, off + q, none⟩))) (hy : evL L y = some v) (h1 : v.oneCell' = true) (hS : ∀ w', S w → Ext (· = b) w w' → rest ≠ [] → S w')
    (kk : ∀ w', Sep M w0 (Δ.set j (hol ad m cap xs k b off T (ck.set q v) f1 f2)) F w' → DL P n ops Q S rest L w') : DL P n ops Q S ((i, false) :: rest) L w := by
  obtain ⟨cur, hb, hlt, H'⟩ := H.hset j hi q (Nat.le_of_ble_eq_true hj) v
  exact d_do ho hw rfl (pd_store hs hx hy h1 hb hlt) (fun hSw hr => hS _ hSw (Ext.refl.put (.inl rfl)) hr) (kk _ H')
end
theorem recs_le {z : Wld} (h : worldF z = 0) : (z.Tapes.getD 0 default).Recs.length ≤ 200 ∧ (z.Tapes.getD 1 default).Recs.length ≤ 200 := by
  obtain ⟨_, _, _, h2, h3⟩ := worldF_ok h
  have hm : z.Tapes.any manyRecs = false := by
    cases hq : z.Tapes.any manyRecs with
    | false => rfl
    | true => unfold tapesF at h3; rw [if_pos hq] at h3; omega
  have key : ∀ i, i < z.Tapes.length → (z.Tapes.getD i default).Recs.length ≤ 200 := fun i hi => by
    have := any_noD (d := default) hm i hi
    unfold manyRecs at this
    simp only [decide_eq_false_iff_not] at this; omega
  exact ⟨key 0 (by omega), key 1 (by omega)⟩
theorem cutW_ok {z : Wld} (h : z.Ok) : (cutW z).Ok := h
theorem tickW_ok {z : Wld} (h : z.Ok) (h2 : z.Writes ≤ 2000000000) : (tickW z).Ok := by
  refine ⟨h.1, ?_, h.2.2⟩
  have h3 := h.2.1
  show I64ok (z.Writes + 1)
  unfold I64ok at h3 ⊢; omega
theorem noPower_yes {z : Wld} (h : ¬ z.Stop = -1) (h2 : z.Writes ≥ z.Stop) : noPower z = true := by
  unfold noPower; simp only [Bool.and_eq_true, decide_eq_true_eq]; exact ⟨h, h2⟩
theorem noPower_no {z : Wld} (h : z.Stop = -1 ∨ ¬ z.Writes ≥ z.Stop) : noPower z = false := by
  unfold noPower; simp only [Bool.and_eq_false_iff, decide_eq_false_iff_not]
  rcases h with h | h
  · exact .inl (by simp [h])
  · exact .inr (by omega)
end Go.Wk
namespace Go.Wk
open Rp (sz own)
theorem noWld_ok : noWld.Ok := by unfold Wld.Ok Shape.Ok I64ok noWld; dsimp only; omega
theorem wld_nil {w w' : World} {c : Int} (h : I64ok c) : Res w w' [.int .i64 c, .int .i64 0, .int .i64 0, .int .i64 0, .int .i64 0, .int .i64 0, .int .i64 0, .int .i64 0, .int .i64 0, .int .i64 0, .slice none 0 0, .slice none 0 0, .slice none 0 0, .int .i64 0, .int .i64 0, .bool false] (⟨c, noWld⟩ : WldResult) :=
  ⟨_, WldResult.own_mk (x := ⟨c, noWld⟩) ⟨h, noWld_ok⟩ (.inr (.inl ⟨rfl, rfl, rfl⟩)) (.inr (.inl ⟨rfl, rfl, rfl⟩)) (.inr (.inl ⟨rfl, rfl, rfl⟩)), List.nodup_nil, by simp⟩
theorem wr_see {s : Bool} {w : World} {c s0 s1 s2 s3 s4 s5 s6 s7 s8 wr sp : Int} {dn : Bool} {A10 A11 A12 : Option Addr} {n10 C10 n11 C11 n12 C12 : Nat} {x : WldResult} {fp : List Nat} (h : own s w [.int .i64 c, .int .i64 s0, .int .i64 s1, .int .i64 s2, .int .i64 s3, .int .i64 s4, .int .i64 s5, .int .i64 s6, .int .i64 s7, .int .i64 s8, .slice A10 n10 C10, .slice A11 n11 C11, .slice A12 n12 C12, .int .i64 wr, .int .i64 sp, .bool dn] x fp) :
    Sees w [.slice A10 n10 C10] x.Wd.Groups ∧ Sees w [.slice A11 n11 C11] x.Wd.On ∧ Sees w [.slice A12 n12 C12] x.Wd.Tapes := by
  obtain ⟨B10, D10, B11, D11, B12, D12, g10, g11, g12, e, ef, ok', o10, o11, o12⟩ := own_WldResult h
  simp only [List.cons.injEq, Value.slice.injEq, Value.int.injEq, Value.bool.injEq, and_true, true_and] at e
  obtain ⟨_, _, _, _, _, _, _, _, _, _, ⟨rfl, rfl, rfl⟩, ⟨rfl, rfl, rfl⟩, ⟨rfl, rfl, rfl⟩, _, _, _⟩ := e
  exact ⟨⟨_, own_weak o10⟩, ⟨_, own_weak o11⟩, ⟨_, own_weak o12⟩⟩
end Go.Wk
namespace Go.Wk
open Go.Proofs Rp
set_option maxRecDepth 10000
theorem Tryz_laws_heldBlockS {w : World} {xs : List Block} {xsA : Option Addr} {xsC : Nat} {k : Int} (xsS : Sees w [.slice xsA xs.length xsC] xs) (hk : 0 ≤ k ∧ k + mkL mkBlock xs ≤ 4611686018427387904) (hm : MkL MkBlock mkBlock xs k) : Ret Tryz.prog 280 #[.slice xsA xs.length xsC, .int .i64 k] w fun v w' => Ext No w w' ∧ (v = .int .i64 (k + mkL mkBlock xs)) := by
 have xsL := sees_len xsS
 unfold maxLen at xsL
 obtain ⟨xsF, xsO⟩ := xsS
 refine ret_Q (vs := [.slice xsA xs.length xsC, .int .i64 k]) Tryz.func280 rfl Tryz.ntmps280 rfl (fun Q hQ hN => ?_)
 have H0 := Sep.start (w := w) (F := [seen false [.slice xsA xs.length xsC] xs xsF]) (all_cons xsO (by simp))
 refine W_sr (sV rfl (py_assign rfl) (s_nil (W_seq (W_sr (sV rfl (py_assign rfl) (s_nil (W_block (W_loopS (γ := Nat) H0 [(0, _)] ⟨rfl, trivial⟩ (fun i => [(1, .int .i64 (k + sumN (fun i => mkBlock (xs.getD i default)) i)), (5, .int .i64 i)]) (fun i => i ≤ xs.length ∧ True) (fun i => xs.length - i) 0 ⟨eqI (by simp [sumN]), rfl, trivial⟩ ⟨by omega, trivial⟩ (fun i w1 H1 ⟨hi, _⟩ => ?_)))))))))
 dsimp only [List.cons_append, List.nil_append]
 refine W_seq (W_sr (sV rfl (py_move rfl) (sV rfl (py_move rfl) (sV rfl (py_len Tryz.underlying148 rfl) (sV rfl (py_lss rfl rfl) (s_nil (W_ifd rfl (fun c1 => ?_) (fun c1 => ?_))))))))
 ·refine W_skip (W_seq (W_block (W_seq (W_seq ?_))))
  have hmi := hm i (by omega)
  obtain ⟨sg, sl⟩ := mkL_at (c := mkBlock) (xs := xs) (i := i) (by omega)
  have hcu : mkBlock (xs.getD i default) = 1 + (xs.getD i default).Bytes.length := rfl
  obtain ⟨hm1, hm2⟩ := hmi
  obtain ⟨eb1, eo1, es1, ef1, ee1, ec1, eO1, eH1, em1⟩ := elem_st (H1.seen 0 rfl) i (by omega)
  obtain ⟨ea1, ek1, eg1, rfl, eq1, eK1, eo2⟩ := own_Block eO1
  have eK1U := eK1
  unfold Block.Ok at eK1U
  try unfold I64ok at eK1U
  try unfold maxLen at eK1U
  have eP1 := H1.look1 0 rfl eo2 (fun b hb => eH1 b (by rw [eq1]; simp [hb]))
  have eL1 := own_len_le eo2
  unfold maxLen at eL1
  refine W_reg (sV rfl (py_move rfl) (sV rfl (py_move rfl) (sV rfl (py_elz Tryz.underlying148 Tryz.sizeOf152 rfl rfl ee1 i (by omega) (by omega)) (sV rfl (py_field Tryz.underlying152 rfl Tryz.sizeOf2 rfl rfl) (sV rfl (py_load Tryz.underlying2 rfl rfl (at_cell ec1 0 rfl)) (sV rfl (py_move rfl) (sV rfl (py_neq rfl rfl) (s_nil (W_ifd rfl (fun c2 => ?_) (fun c2 => ?_))))))))))
  ·exact absurd hm1 c2
  ·refine W_skip (W_sr (sV rfl (py_move rfl) (sV rfl (py_add rfl rfl (in64 ⟨by omega, by omega⟩)) (sV rfl (py_assign rfl) (s_nil (W_seq ?_))))))
   obtain ⟨eb2, eo3, es2, ef2, ee2, ec2, eO2, eH2, em2⟩ := elem_st (eP1.seen 0 rfl) i (by omega)
   obtain ⟨ea2, ek2, eg2, rfl, eq2, eK2, eo4⟩ := own_Block eO2
   have eK2U := eK2
   unfold Block.Ok at eK2U
   try unfold I64ok at eK2U
   try unfold maxLen at eK2U
   have eP2 := eP1.look1 0 rfl eo4 (fun b hb => eH2 b (by rw [eq2]; simp [hb]))
   have eL2 := own_len_le eo4
   unfold maxLen at eL2
   refine W_reg (sV rfl (py_move rfl) (sV rfl (py_move rfl) (sV rfl (py_elz Tryz.underlying148 Tryz.sizeOf152 rfl rfl ee2 i (by omega) (by omega)) (sV rfl (py_field Tryz.underlying152 rfl Tryz.sizeOf61 rfl rfl) (sV rfl (py_load Tryz.underlying61 rfl rfl (at_cell ec2 1 rfl)) (sV rfl (py_move rfl) (s_call (wn rfl) rfl rfl (pc_call Tryz.func115 rfl Tryz_nm115 rfl) (Tryz_laws_heldByteS (eP2.sees 2 rfl) (by constructor <;> omega) (by assumption)) (fun v1 w2 r1 => ?_))))))))
   obtain ⟨e1, rfl⟩ := r1
   have H2 := eP2.to e1
   refine sV rfl (py_assign rfl) (s_nil (W_sr (sV rfl (py_move rfl) (sV rfl (py_lss rfl rfl) (s_nil (W_ifd rfl (fun c3 => ?_) (fun c3 => ?_)))))))
   ·exact absurd c3 (by omega)
   ·refine W_skip (W_reg (sV rfl (py_move rfl) (sV rfl (py_add rfl rfl (in64 ⟨by omega, by omega⟩)) (sV rfl (py_assign rfl) (s_nil (⟨i + 1, ⟨eqI (by omega), rfl, rfl, trivial⟩, ⟨(H2.ftake 1), by omega, trivial⟩, by dsimp only; omega⟩))))))
 ·refine W_exit (W_sr (sV rfl (py_move rfl) (sV rfl (py_assign rfl) (s_nil (W_ret (hQ _ _ (fin1 Tryz.results280 rfl ?_)))))))
  obtain rfl : i = xs.length := by omega
  exact ⟨H1.ext, rfl⟩
theorem Tryz_laws_heldDriveS {w : World} {xs : List Drive} {xsA : Option Addr} {xsC : Nat} {k : Int} (xsS : Sees w [.slice xsA xs.length xsC] xs) (hk : 0 ≤ k ∧ k + mkL mkDrive xs ≤ 4611686018427387904) (hm : MkL MkDrive mkDrive xs k) : Ret Tryz.prog 236 #[.slice xsA xs.length xsC, .int .i64 k] w fun v w' => Ext No w w' ∧ (v = .int .i64 (k + mkL mkDrive xs)) := by
 have xsL := sees_len xsS
 unfold maxLen at xsL
 obtain ⟨xsF, xsO⟩ := xsS
 refine ret_Q (vs := [.slice xsA xs.length xsC, .int .i64 k]) Tryz.func236 rfl Tryz.ntmps236 rfl (fun Q hQ hN => ?_)
 have H0 := Sep.start (w := w) (F := [seen false [.slice xsA xs.length xsC] xs xsF]) (all_cons xsO (by simp))
 refine W_sr (sV rfl (py_assign rfl) (s_nil (W_seq (W_sr (sV rfl (py_assign rfl) (s_nil (W_block (W_loopS (γ := Nat) H0 [(0, _)] ⟨rfl, trivial⟩ (fun i => [(1, .int .i64 (k + sumN (fun i => mkDrive (xs.getD i default)) i)), (5, .int .i64 i)]) (fun i => i ≤ xs.length ∧ True) (fun i => xs.length - i) 0 ⟨eqI (by simp [sumN]), rfl, trivial⟩ ⟨by omega, trivial⟩ (fun i w1 H1 ⟨hi, _⟩ => ?_)))))))))
 dsimp only [List.cons_append, List.nil_append]
 refine W_seq (W_sr (sV rfl (py_move rfl) (sV rfl (py_move rfl) (sV rfl (py_len Tryz.underlying147 rfl) (sV rfl (py_lss rfl rfl) (s_nil (W_ifd rfl (fun c1 => ?_) (fun c1 => ?_))))))))
 ·refine W_skip (W_seq (W_block (W_seq (W_seq ?_))))
  have hmi := hm i (by omega)
  obtain ⟨sg, sl⟩ := mkL_at (c := mkDrive) (xs := xs) (i := i) (by omega)
  have hcu : mkDrive (xs.getD i default) = 1 + mkL mkBlock (xs.getD i default).Blocks := rfl
  obtain ⟨hm1, hm2⟩ := hmi
  obtain ⟨eb1, eo1, es1, ef1, ee1, ec1, eO1, eH1, em1⟩ := elem_st (H1.seen 0 rfl) i (by omega)
  obtain ⟨ea1, ek1, eg1, rfl, eq1, eK1, eo2⟩ := own_Drive eO1
  have eP1 := H1.look1 0 rfl eo2 (fun b hb => eH1 b (by rw [eq1]; simp [hb]))
  have eL1 := own_len_le eo2
  unfold maxLen at eL1
  refine W_reg (sV rfl (py_move rfl) (sV rfl (py_move rfl) (sV rfl (py_elz Tryz.underlying147 Tryz.sizeOf150 rfl rfl ee1 i (by omega) (by omega)) (sV rfl (py_field Tryz.underlying150 rfl Tryz.sizeOf4 rfl rfl) (sV rfl (py_load Tryz.underlying4 rfl rfl (at_cell ec1 0 rfl)) (sV rfl (py_move rfl) (sV rfl (py_rem rfl rfl (by omega)) (sV rfl (py_eql rfl rfl) (sV rfl (py_bneq Tryz.underlying4 rfl rfl) (s_nil (W_if rfl (fun c2 => ?_) (fun c2 => ?_))))))))))))
  ·exfalso; rw [hm1] at c2; simp at c2
  ·refine W_skip (W_sr (sV rfl (py_move rfl) (sV rfl (py_add rfl rfl (in64 ⟨by omega, by omega⟩)) (sV rfl (py_assign rfl) (s_nil (W_seq ?_))))))
   obtain ⟨eb2, eo3, es2, ef2, ee2, ec2, eO2, eH2, em2⟩ := elem_st (eP1.seen 0 rfl) i (by omega)
   obtain ⟨ea2, ek2, eg2, rfl, eq2, eK2, eo4⟩ := own_Drive eO2
   have eP2 := eP1.look1 0 rfl eo4 (fun b hb => eH2 b (by rw [eq2]; simp [hb]))
   have eL2 := own_len_le eo4
   unfold maxLen at eL2
   refine W_reg (sV rfl (py_move rfl) (sV rfl (py_move rfl) (sV rfl (py_elz Tryz.underlying147 Tryz.sizeOf150 rfl rfl ee2 i (by omega) (by omega)) (sV rfl (py_field Tryz.underlying150 rfl Tryz.sizeOf148 rfl rfl) (sV rfl (py_load Tryz.underlying148 rfl rfl (at_cell ec2 1 rfl)) (sV rfl (py_move rfl) (s_call (wn rfl) rfl rfl (pc_call Tryz.func280 rfl Tryz_nm280 rfl) (Tryz_laws_heldBlockS (eP2.sees 2 rfl) (by constructor <;> omega) (by assumption)) (fun v1 w2 r1 => ?_))))))))
   obtain ⟨e1, rfl⟩ := r1
   have H2 := eP2.to e1
   refine sV rfl (py_assign rfl) (s_nil (W_sr (sV rfl (py_move rfl) (sV rfl (py_lss rfl rfl) (s_nil (W_ifd rfl (fun c3 => ?_) (fun c3 => ?_)))))))
   ·exact absurd c3 (by omega)
   ·refine W_skip (W_reg (sV rfl (py_move rfl) (sV rfl (py_add rfl rfl (in64 ⟨by omega, by omega⟩)) (sV rfl (py_assign rfl) (s_nil (⟨i + 1, ⟨eqI (by omega), rfl, rfl, trivial⟩, ⟨(H2.ftake 1), by omega, trivial⟩, by dsimp only; omega⟩))))))
 ·refine W_exit (W_sr (sV rfl (py_move rfl) (sV rfl (py_assign rfl) (s_nil (W_ret (hQ _ _ (fin1 Tryz.results236 rfl ?_)))))))
  obtain rfl : i = xs.length := by omega
  exact ⟨H1.ext, rfl⟩
theorem Tryz_laws_heldDriveSS {w : World} {xs : List (List Drive)} {xsA : Option Addr} {xsC : Nat} {k : Int} (xsS : Sees w [.slice xsA xs.length xsC] xs) (hk : 0 ≤ k ∧ k + mkL (mkL mkDrive) xs ≤ 4611686018427387904) (hm : MkL (MkL MkDrive mkDrive) (mkL mkDrive) xs k) : Ret Tryz.prog 173 #[.slice xsA xs.length xsC, .int .i64 k] w fun v w' => Ext No w w' ∧ (v = .int .i64 (k + mkL (mkL mkDrive) xs)) := by
 have xsL := sees_len xsS
 unfold maxLen at xsL
 obtain ⟨xsF, xsO⟩ := xsS
 refine ret_Q (vs := [.slice xsA xs.length xsC, .int .i64 k]) Tryz.func173 rfl Tryz.ntmps173 rfl (fun Q hQ hN => ?_)
 have H0 := Sep.start (w := w) (F := [seen false [.slice xsA xs.length xsC] xs xsF]) (all_cons xsO (by simp))
 refine W_sr (sV rfl (py_assign rfl) (s_nil (W_seq (W_sr (sV rfl (py_assign rfl) (s_nil (W_block (W_loopS (γ := Nat) H0 [(0, _)] ⟨rfl, trivial⟩ (fun i => [(1, .int .i64 (k + sumN (fun i => (mkL mkDrive) (xs.getD i default)) i)), (5, .int .i64 i)]) (fun i => i ≤ xs.length ∧ True) (fun i => xs.length - i) 0 ⟨eqI (by simp [sumN]), rfl, trivial⟩ ⟨by omega, trivial⟩ (fun i w1 H1 ⟨hi, _⟩ => ?_)))))))))
 dsimp only [List.cons_append, List.nil_append]
 refine W_seq (W_sr (sV rfl (py_move rfl) (sV rfl (py_move rfl) (sV rfl (py_len Tryz.underlying34 rfl) (sV rfl (py_lss rfl rfl) (s_nil (W_ifd rfl (fun c1 => ?_) (fun c1 => ?_))))))))
 ·refine W_skip (W_seq (W_block (W_seq ?_)))
  have hmi := hm i (by omega)
  obtain ⟨sg, sl⟩ := mkL_at (c := (mkL mkDrive)) (xs := xs) (i := i) (by omega)
  have hcu : mkL mkDrive (xs.getD i default) = mkL mkDrive (xs.getD i []) := rfl
  have hm2 : MkL MkDrive mkDrive (xs.getD i []) ((k + sumN (fun i => (mkL mkDrive) (xs.getD i default)) i)) := hmi
  obtain ⟨eb1, eo1, ea1, ek1, ef1, ee1, ec1, eO1, eH1⟩ := elem_sl (H1.seen 0 rfl) i (by omega)
  have eP1 := H1.look1 0 rfl eO1 eH1
  refine W_reg (sV rfl (py_move rfl) (sV rfl (py_move rfl) (sV rfl (py_elz Tryz.underlying34 Tryz.sizeOf147 rfl rfl ee1 i (by omega) (by omega)) (sV rfl (py_load Tryz.underlying147 rfl rfl ec1) (sV rfl (py_move rfl) (s_call (wn rfl) rfl rfl (pc_call Tryz.func236 rfl Tryz_nm236 rfl) (Tryz_laws_heldDriveS (eP1.sees 1 rfl) (by constructor <;> omega) (by assumption)) (fun v1 w2 r1 => ?_)))))))
  obtain ⟨e1, rfl⟩ := r1
  have H2 := eP1.to e1
  refine sV rfl (py_assign rfl) (s_nil (W_sr (sV rfl (py_move rfl) (sV rfl (py_lss rfl rfl) (s_nil (W_ifd rfl (fun c2 => ?_) (fun c2 => ?_)))))))
  ·exact absurd c2 (by omega)
  ·refine W_skip (W_reg (sV rfl (py_move rfl) (sV rfl (py_add rfl rfl (in64 ⟨by omega, by omega⟩)) (sV rfl (py_assign rfl) (s_nil (⟨i + 1, ⟨eqI (by omega), rfl, rfl, trivial⟩, ⟨(H2.ftake 1), by omega, trivial⟩, by dsimp only; omega⟩))))))
 ·refine W_exit (W_sr (sV rfl (py_move rfl) (sV rfl (py_assign rfl) (s_nil (W_ret (hQ _ _ (fin1 Tryz.results173 rfl ?_)))))))
  obtain rfl : i = xs.length := by omega
  exact ⟨H1.ext, rfl⟩
set_option maxHeartbeats 1000000 in
theorem Tryz_laws_heldRecS {w : World} {xs : List Rec} {xsA : Option Addr} {xsC : Nat} {k : Int} (xsS : Sees w [.slice xsA xs.length xsC] xs) (hk : 0 ≤ k ∧ k + mkL mkRec xs ≤ 4611686018427387904) (hm : MkL MkRec mkRec xs k) : Ret Tryz.prog 134 #[.slice xsA xs.length xsC, .int .i64 k] w fun v w' => Ext No w w' ∧ (v = .int .i64 (k + mkL mkRec xs)) := by
 have xsL := sees_len xsS
 unfold maxLen at xsL
 obtain ⟨xsF, xsO⟩ := xsS
 refine ret_Q (vs := [.slice xsA xs.length xsC, .int .i64 k]) Tryz.func134 rfl Tryz.ntmps134 rfl (fun Q hQ hN => ?_)
 have H0 := Sep.start (w := w) (F := [seen false [.slice xsA xs.length xsC] xs xsF]) (all_cons xsO (by simp))
 refine W_sr (sV rfl (py_assign rfl) (s_nil (W_seq (W_sr (sV rfl (py_assign rfl) (s_nil (W_block (W_loopS (γ := Nat) H0 [(0, _)] ⟨rfl, trivial⟩ (fun i => [(1, .int .i64 (k + sumN (fun i => mkRec (xs.getD i default)) i)), (5, .int .i64 i)]) (fun i => i ≤ xs.length ∧ True) (fun i => xs.length - i) 0 ⟨eqI (by simp [sumN]), rfl, trivial⟩ ⟨by omega, trivial⟩ (fun i w1 H1 ⟨hi, _⟩ => ?_)))))))))
 dsimp only [List.cons_append, List.nil_append]
 refine W_seq (W_sr (sV rfl (py_move rfl) (sV rfl (py_move rfl) (sV rfl (py_len Tryz.underlying82 rfl) (sV rfl (py_lss rfl rfl) (s_nil (W_ifd rfl (fun c1 => ?_) (fun c1 => ?_))))))))
 ·refine W_skip (W_seq (W_block (W_seq (W_seq ?_))))
  have hmi := hm i (by omega)
  obtain ⟨sg, sl⟩ := mkL_at (c := mkRec) (xs := xs) (i := i) (by omega)
  have hcu : mkRec (xs.getD i default) = 6 + (xs.getD i default).Rows.length + (xs.getD i default).Data.length + (xs.getD i default).Delta.length := rfl
  obtain ⟨m1, m2, m3, m4, m5, m6, m7, m8, m9⟩ := hmi
  have n3 : (xs.getD i default).Name = mText ((k + sumN (fun i => mkRec (xs.getD i default)) i) + 1 + 1) := by rw [m3]; congr 1; omega
  have n7 : MarkI (xs.getD i default).Rows ((k + sumN (fun i => mkRec (xs.getD i default)) i) + 1 + 1 + 1 + 1 + 1 + 1) := by rwa [show (k + sumN (fun i => mkRec (xs.getD i default)) i) + 1 + 1 + 1 + 1 + 1 + 1 = (k + sumN (fun i => mkRec (xs.getD i default)) i) + 6 by omega]
  have n8 : MarkB (xs.getD i default).Data ((k + sumN (fun i => mkRec (xs.getD i default)) i) + 1 + 1 + 1 + 1 + 1 + 1 + (xs.getD i default).Rows.length) := by rwa [show (k + sumN (fun i => mkRec (xs.getD i default)) i) + 1 + 1 + 1 + 1 + 1 + 1 = (k + sumN (fun i => mkRec (xs.getD i default)) i) + 6 by omega]
  have n9 : MarkB (xs.getD i default).Delta ((k + sumN (fun i => mkRec (xs.getD i default)) i) + 1 + 1 + 1 + 1 + 1 + 1 + (xs.getD i default).Rows.length + (xs.getD i default).Data.length) := by rwa [show (k + sumN (fun i => mkRec (xs.getD i default)) i) + 1 + 1 + 1 + 1 + 1 + 1 = (k + sumN (fun i => mkRec (xs.getD i default)) i) + 6 by omega]
  obtain ⟨eb1, eo1, es1, ef1, ee1, ec1, eO1, eH1, em1⟩ := elem_st (H1.seen 0 rfl) i (by omega)
  obtain ⟨ea1, ek1, ea2, ek2, ea3, ek3, eg1, eg2, eg3, rfl, eq1, eK1, eo2, eo3, eo4⟩ := own_Rec eO1
  have eK1U := eK1
  unfold Rec.Ok at eK1U
  try unfold I64ok at eK1U
  try unfold maxLen at eK1U
  refine W_reg (sV rfl (py_move rfl) (sV rfl (py_move rfl) (sV rfl (py_elz Tryz.underlying82 Tryz.sizeOf66 rfl rfl ee1 i (by omega) (by omega)) (sV rfl (py_field Tryz.underlying66 rfl Tryz.sizeOf2 rfl rfl) (sV rfl (py_load Tryz.underlying2 rfl rfl (at_cell ec1 0 rfl)) (sV rfl (py_move rfl) (sV rfl (py_neq rfl rfl) (s_nil (W_ifd rfl (fun c2 => ?_) (fun c2 => ?_))))))))))
  ·exact absurd c2 (by omega)
  ·refine W_skip (W_sr (sV rfl (py_move rfl) (sV rfl (py_add rfl rfl (in64 ⟨by omega, by omega⟩)) (sV rfl (py_assign rfl) (s_nil (W_seq (W_seq ?_)))))))
   obtain ⟨eb2, eo5, es2, ef2, ee2, ec2, eO2, eH2, em2⟩ := elem_st (H1.seen 0 rfl) i (by omega)
   obtain ⟨ea4, ek4, ea5, ek5, ea6, ek6, eg4, eg5, eg6, rfl, eq2, eK2, eo6, eo7, eo8⟩ := own_Rec eO2
   have eK2U := eK2
   unfold Rec.Ok at eK2U
   try unfold I64ok at eK2U
   try unfold maxLen at eK2U
   refine W_reg (sV rfl (py_move rfl) (sV rfl (py_move rfl) (sV rfl (py_elz Tryz.underlying82 Tryz.sizeOf66 rfl rfl ee2 i (by omega) (by omega)) (sV rfl (py_field Tryz.underlying66 rfl Tryz.sizeOf2 rfl rfl) (sV rfl (py_load Tryz.underlying2 rfl rfl (at_cell ec2 1 rfl)) (sV rfl (py_move rfl) (sV rfl (py_neq rfl rfl) (s_nil (W_ifd rfl (fun c3 => ?_) (fun c3 => ?_))))))))))
   ·exact absurd c3 (by omega)
   ·refine W_skip (W_sr (sV rfl (py_move rfl) (sV rfl (py_add rfl rfl (in64 ⟨by omega, by omega⟩)) (sV rfl (py_assign rfl) (s_nil (W_seq (W_seq ?_)))))))
    obtain ⟨eb3, eo9, es3, ef3, ee3, ec3, eO3, eH3, em3⟩ := elem_st (H1.seen 0 rfl) i (by omega)
    obtain ⟨ea7, ek7, ea8, ek8, ea9, ek9, eg7, eg8, eg9, rfl, eq3, eK3, eo10, eo11, eo12⟩ := own_Rec eO3
    have eK3U := eK3
    unfold Rec.Ok at eK3U
    try unfold I64ok at eK3U
    try unfold maxLen at eK3U
    refine W_drw (S := Ext No _) [(0, true), (1, true), (2, true), (3, true), (4, true), (5, true), (6, false), (7, false)] (by kernel_rfl) (by kernel_rfl) (by kernel_rfl) rfl (fun _ => Ext.refl.drawn _) (fun q1 => ?_)
    have H2 := H1.drawn q1
    refine dV rfl rfl (fun zw hx => py_move rfl) (dV rfl rfl (fun zw hx => py_move rfl) (dV rfl rfl (fun zw hx => py_elz Tryz.underlying82 Tryz.sizeOf66 rfl rfl ee3 i (by omega) (by omega)) (dV rfl rfl (fun zw hx => py_field Tryz.underlying66 rfl Tryz.sizeOf9 rfl rfl) (dV rfl rfl (fun zw hx => py_load Tryz.underlying9 rfl rfl (at_cell (hx.at ec3) 2 rfl)) (dV rfl rfl (fun zw hx => py_move rfl) (d_call rfl (wn rfl) rfl rfl (pc_call Tryz.func204 rfl Tryz_nm204 rfl) (Tryz_laws_markText (by omega)) (fun hS _ _ r _ => hS.trans r.1.no) (fun v1 w2 r1 => ?_)))))))
    obtain ⟨e1, rfl, mt1⟩ := r1
    have H3 := H2.to e1
    refine d_end rfl (wn rfl) rfl rfl (py_sneq rfl rfl) (d_nil (W_if rfl (fun c4 => ?_) (fun c4 => ?_)))
    ·exfalso; rw [n3] at c4; simp at c4
    ·refine W_skip (W_sr (sV rfl (py_move rfl) (sV rfl (py_add rfl rfl (in64 ⟨by omega, by omega⟩)) (sV rfl (py_assign rfl) (s_nil (W_seq (W_seq ?_)))))))
     obtain ⟨eb4, eo13, es4, ef4, ee4, ec4, eO4, eH4, em4⟩ := elem_st (H3.seen 0 rfl) i (by omega)
     obtain ⟨ea10, ek10, ea11, ek11, ea12, ek12, eg10, eg11, eg12, rfl, eq4, eK4, eo14, eo15, eo16⟩ := own_Rec eO4
     have eK4U := eK4
     unfold Rec.Ok at eK4U
     try unfold I64ok at eK4U
     try unfold maxLen at eK4U
     refine W_reg (sV rfl (py_move rfl) (sV rfl (py_move rfl) (sV rfl (py_elz Tryz.underlying82 Tryz.sizeOf66 rfl rfl ee4 i (by omega) (by omega)) (sV rfl (py_field Tryz.underlying66 rfl Tryz.sizeOf2 rfl rfl) (sV rfl (py_load Tryz.underlying2 rfl rfl (at_cell ec4 3 rfl)) (sV rfl (py_move rfl) (sV rfl (py_neq rfl rfl) (s_nil (W_ifd rfl (fun c5 => ?_) (fun c5 => ?_))))))))))
     ·exact absurd c5 (by omega)
     ·refine W_skip (W_sr (sV rfl (py_move rfl) (sV rfl (py_add rfl rfl (in64 ⟨by omega, by omega⟩)) (sV rfl (py_assign rfl) (s_nil (W_seq (W_seq ?_)))))))
      obtain ⟨eb5, eo17, es5, ef5, ee5, ec5, eO5, eH5, em5⟩ := elem_st (H3.seen 0 rfl) i (by omega)
      obtain ⟨ea13, ek13, ea14, ek14, ea15, ek15, eg13, eg14, eg15, rfl, eq5, eK5, eo18, eo19, eo20⟩ := own_Rec eO5
      have eK5U := eK5
      unfold Rec.Ok at eK5U
      try unfold I64ok at eK5U
      try unfold maxLen at eK5U
      refine W_reg (sV rfl (py_move rfl) (sV rfl (py_move rfl) (sV rfl (py_elz Tryz.underlying82 Tryz.sizeOf66 rfl rfl ee5 i (by omega) (by omega)) (sV rfl (py_field Tryz.underlying66 rfl Tryz.sizeOf2 rfl rfl) (sV rfl (py_load Tryz.underlying2 rfl rfl (at_cell ec5 4 rfl)) (sV rfl (py_move rfl) (sV rfl (py_neq rfl rfl) (s_nil (W_ifd rfl (fun c6 => ?_) (fun c6 => ?_))))))))))
      ·exact absurd c6 (by omega)
      ·refine W_skip (W_sr (sV rfl (py_move rfl) (sV rfl (py_add rfl rfl (in64 ⟨by omega, by omega⟩)) (sV rfl (py_assign rfl) (s_nil (W_seq (W_seq ?_)))))))
       obtain ⟨eb6, eo21, es6, ef6, ee6, ec6, eO6, eH6, em6⟩ := elem_st (H3.seen 0 rfl) i (by omega)
       obtain ⟨ea16, ek16, ea17, ek17, ea18, ek18, eg16, eg17, eg18, rfl, eq6, eK6, eo22, eo23, eo24⟩ := own_Rec eO6
       have eK6U := eK6
       unfold Rec.Ok at eK6U
       try unfold I64ok at eK6U
       try unfold maxLen at eK6U
       refine W_reg (sV rfl (py_move rfl) (sV rfl (py_move rfl) (sV rfl (py_elz Tryz.underlying82 Tryz.sizeOf66 rfl rfl ee6 i (by omega) (by omega)) (sV rfl (py_field Tryz.underlying66 rfl Tryz.sizeOf2 rfl rfl) (sV rfl (py_load Tryz.underlying2 rfl rfl (at_cell ec6 5 rfl)) (sV rfl (py_move rfl) (sV rfl (py_neq rfl rfl) (s_nil (W_ifd rfl (fun c7 => ?_) (fun c7 => ?_))))))))))
       ·exact absurd c7 (by omega)
       ·refine W_skip (W_sr (sV rfl (py_move rfl) (sV rfl (py_add rfl rfl (in64 ⟨by omega, by omega⟩)) (sV rfl (py_assign rfl) (s_nil (W_seq ?_))))))
        obtain ⟨eb7, eo25, es7, ef7, ee7, ec7, eO7, eH7, em7⟩ := elem_st (H3.seen 0 rfl) i (by omega)
        obtain ⟨ea19, ek19, ea20, ek20, ea21, ek21, eg19, eg20, eg21, rfl, eq7, eK7, eo26, eo27, eo28⟩ := own_Rec eO7
        have eK7U := eK7
        unfold Rec.Ok at eK7U
        try unfold I64ok at eK7U
        try unfold maxLen at eK7U
        have eP1 := H3.look1 0 rfl eo26 (fun b hb => eH7 b (by rw [eq7]; simp [hb]))
        have eL1 := own_len_le eo26
        unfold maxLen at eL1
        refine W_reg (sV rfl (py_move rfl) (sV rfl (py_move rfl) (sV rfl (py_elz Tryz.underlying82 Tryz.sizeOf66 rfl rfl ee7 i (by omega) (by omega)) (sV rfl (py_field Tryz.underlying66 rfl Tryz.sizeOf25 rfl rfl) (sV rfl (py_load Tryz.underlying25 rfl rfl (at_cell ec7 6 rfl)) (sV rfl (py_move rfl) (s_call (wn rfl) rfl rfl (pc_call Tryz.func91 rfl Tryz_nm91 rfl) (Tryz_laws_heldInt64S (eP1.sees 1 rfl) (by constructor <;> omega) (by assumption)) (fun v2 w3 r2 => ?_))))))))
        obtain ⟨e2, rfl⟩ := r2
        have H4 := eP1.to e2
        refine sV rfl (py_assign rfl) (s_nil (W_seq (W_sr (sV rfl (py_move rfl) (sV rfl (py_lss rfl rfl) (s_nil (W_ifd rfl (fun c8 => ?_) (fun c8 => ?_))))))))
        ·exact absurd c8 (by omega)
        ·refine W_skip (W_seq ?_)
         obtain ⟨eb8, eo29, es8, ef8, ee8, ec8, eO8, eH8, em8⟩ := elem_st (H4.seen 0 rfl) i (by omega)
         obtain ⟨ea22, ek22, ea23, ek23, ea24, ek24, eg22, eg23, eg24, rfl, eq8, eK8, eo30, eo31, eo32⟩ := own_Rec eO8
         have eK8U := eK8
         unfold Rec.Ok at eK8U
         try unfold I64ok at eK8U
         try unfold maxLen at eK8U
         have eP2 := H4.look1 0 rfl eo31 (fun b hb => eH8 b (by rw [eq8]; simp [hb]))
         have eL2 := own_len_le eo31
         unfold maxLen at eL2
         refine W_reg (sV rfl (py_move rfl) (sV rfl (py_move rfl) (sV rfl (py_elz Tryz.underlying82 Tryz.sizeOf66 rfl rfl ee8 i (by omega) (by omega)) (sV rfl (py_field Tryz.underlying66 rfl Tryz.sizeOf61 rfl rfl) (sV rfl (py_load Tryz.underlying61 rfl rfl (at_cell ec8 7 rfl)) (sV rfl (py_move rfl) (s_call (wn rfl) rfl rfl (pc_call Tryz.func115 rfl Tryz_nm115 rfl) (Tryz_laws_heldByteS (eP2.sees 2 rfl) (by constructor <;> omega) (by assumption)) (fun v3 w4 r3 => ?_))))))))
         obtain ⟨e3, rfl⟩ := r3
         have H5 := eP2.to e3
         refine sV rfl (py_assign rfl) (s_nil (W_seq (W_sr (sV rfl (py_move rfl) (sV rfl (py_lss rfl rfl) (s_nil (W_ifd rfl (fun c9 => ?_) (fun c9 => ?_))))))))
         ·exact absurd c9 (by omega)
         ·refine W_skip (W_seq ?_)
          obtain ⟨eb9, eo33, es9, ef9, ee9, ec9, eO9, eH9, em9⟩ := elem_st (H5.seen 0 rfl) i (by omega)
          obtain ⟨ea25, ek25, ea26, ek26, ea27, ek27, eg25, eg26, eg27, rfl, eq9, eK9, eo34, eo35, eo36⟩ := own_Rec eO9
          have eK9U := eK9
          unfold Rec.Ok at eK9U
          try unfold I64ok at eK9U
          try unfold maxLen at eK9U
          have eP3 := H5.look1 0 rfl eo36 (fun b hb => eH9 b (by rw [eq9]; simp [hb]))
          have eL3 := own_len_le eo36
          unfold maxLen at eL3
          refine W_reg (sV rfl (py_move rfl) (sV rfl (py_move rfl) (sV rfl (py_elz Tryz.underlying82 Tryz.sizeOf66 rfl rfl ee9 i (by omega) (by omega)) (sV rfl (py_field Tryz.underlying66 rfl Tryz.sizeOf61 rfl rfl) (sV rfl (py_load Tryz.underlying61 rfl rfl (at_cell ec9 8 rfl)) (sV rfl (py_move rfl) (s_call (wn rfl) rfl rfl (pc_call Tryz.func115 rfl Tryz_nm115 rfl) (Tryz_laws_heldByteS (eP3.sees 3 rfl) (by constructor <;> omega) (by assumption)) (fun v4 w5 r4 => ?_))))))))
          obtain ⟨e4, rfl⟩ := r4
          have H6 := eP3.to e4
          refine sV rfl (py_assign rfl) (s_nil (W_sr (sV rfl (py_move rfl) (sV rfl (py_lss rfl rfl) (s_nil (W_ifd rfl (fun c10 => ?_) (fun c10 => ?_)))))))
          ·exact absurd c10 (by omega)
          ·refine W_skip (W_reg (sV rfl (py_move rfl) (sV rfl (py_add rfl rfl (in64 ⟨by omega, by omega⟩)) (sV rfl (py_assign rfl) (s_nil (⟨i + 1, ⟨eqI (by omega), rfl, rfl, trivial⟩, ⟨(H6.ftake 1), by omega, trivial⟩, by dsimp only; omega⟩))))))
 ·refine W_exit (W_sr (sV rfl (py_move rfl) (sV rfl (py_assign rfl) (s_nil (W_ret (hQ _ _ (fin1 Tryz.results134 rfl ?_)))))))
  obtain rfl : i = xs.length := by omega
  exact ⟨H1.ext, rfl⟩
theorem Tryz_laws_heldTapeS {w : World} {xs : List Tape} {xsA : Option Addr} {xsC : Nat} {k : Int} (xsS : Sees w [.slice xsA xs.length xsC] xs) (hk : 0 ≤ k ∧ k + mkL mkTape xs ≤ 4611686018427387904) (hm : MkL MkTape mkTape xs k) : Ret Tryz.prog 174 #[.slice xsA xs.length xsC, .int .i64 k] w fun v w' => Ext No w w' ∧ (v = .int .i64 (k + mkL mkTape xs)) := by
 have xsL := sees_len xsS
 unfold maxLen at xsL
 obtain ⟨xsF, xsO⟩ := xsS
 refine ret_Q (vs := [.slice xsA xs.length xsC, .int .i64 k]) Tryz.func174 rfl Tryz.ntmps174 rfl (fun Q hQ hN => ?_)
 have H0 := Sep.start (w := w) (F := [seen false [.slice xsA xs.length xsC] xs xsF]) (all_cons xsO (by simp))
 refine W_sr (sV rfl (py_assign rfl) (s_nil (W_seq (W_sr (sV rfl (py_assign rfl) (s_nil (W_block (W_loopS (γ := Nat) H0 [(0, _)] ⟨rfl, trivial⟩ (fun i => [(1, .int .i64 (k + sumN (fun i => mkTape (xs.getD i default)) i)), (5, .int .i64 i)]) (fun i => i ≤ xs.length ∧ True) (fun i => xs.length - i) 0 ⟨eqI (by simp [sumN]), rfl, trivial⟩ ⟨by omega, trivial⟩ (fun i w1 H1 ⟨hi, _⟩ => ?_)))))))))
 dsimp only [List.cons_append, List.nil_append]
 refine W_seq (W_sr (sV rfl (py_move rfl) (sV rfl (py_move rfl) (sV rfl (py_len Tryz.underlying35 rfl) (sV rfl (py_lss rfl rfl) (s_nil (W_ifd rfl (fun c1 => ?_) (fun c1 => ?_))))))))
 ·refine W_skip (W_seq (W_block (W_seq (W_seq ?_))))
  have hmi := hm i (by omega)
  obtain ⟨sg, sl⟩ := mkL_at (c := mkTape) (xs := xs) (i := i) (by omega)
  have hcu : mkTape (xs.getD i default) = 1 + mkL mkRec (xs.getD i default).Recs := rfl
  obtain ⟨hm1, hm2⟩ := hmi
  obtain ⟨eb1, eo1, es1, ef1, ee1, ec1, eO1, eH1, em1⟩ := elem_st (H1.seen 0 rfl) i (by omega)
  obtain ⟨ea1, ek1, eg1, rfl, eq1, eK1, eo2⟩ := own_Tape eO1
  have eP1 := H1.look1 0 rfl eo2 (fun b hb => eH1 b (by rw [eq1]; simp [hb]))
  have eL1 := own_len_le eo2
  unfold maxLen at eL1
  refine W_reg (sV rfl (py_move rfl) (sV rfl (py_move rfl) (sV rfl (py_elz Tryz.underlying35 Tryz.sizeOf155 rfl rfl ee1 i (by omega) (by omega)) (sV rfl (py_field Tryz.underlying155 rfl Tryz.sizeOf4 rfl rfl) (sV rfl (py_load Tryz.underlying4 rfl rfl (at_cell ec1 0 rfl)) (sV rfl (py_move rfl) (sV rfl (py_rem rfl rfl (by omega)) (sV rfl (py_eql rfl rfl) (sV rfl (py_bneq Tryz.underlying4 rfl rfl) (s_nil (W_if rfl (fun c2 => ?_) (fun c2 => ?_))))))))))))
  ·exfalso; rw [hm1] at c2; simp at c2
  ·refine W_skip (W_sr (sV rfl (py_move rfl) (sV rfl (py_add rfl rfl (in64 ⟨by omega, by omega⟩)) (sV rfl (py_assign rfl) (s_nil (W_seq ?_))))))
   obtain ⟨eb2, eo3, es2, ef2, ee2, ec2, eO2, eH2, em2⟩ := elem_st (eP1.seen 0 rfl) i (by omega)
   obtain ⟨ea2, ek2, eg2, rfl, eq2, eK2, eo4⟩ := own_Tape eO2
   have eP2 := eP1.look1 0 rfl eo4 (fun b hb => eH2 b (by rw [eq2]; simp [hb]))
   have eL2 := own_len_le eo4
   unfold maxLen at eL2
   refine W_reg (sV rfl (py_move rfl) (sV rfl (py_move rfl) (sV rfl (py_elz Tryz.underlying35 Tryz.sizeOf155 rfl rfl ee2 i (by omega) (by omega)) (sV rfl (py_field Tryz.underlying155 rfl Tryz.sizeOf82 rfl rfl) (sV rfl (py_load Tryz.underlying82 rfl rfl (at_cell ec2 1 rfl)) (sV rfl (py_move rfl) (s_call (wn rfl) rfl rfl (pc_call Tryz.func134 rfl Tryz_nm134 rfl) (Tryz_laws_heldRecS (eP2.sees 2 rfl) (by constructor <;> omega) (by assumption)) (fun v1 w2 r1 => ?_))))))))
   obtain ⟨e1, rfl⟩ := r1
   have H2 := eP2.to e1
   refine sV rfl (py_assign rfl) (s_nil (W_sr (sV rfl (py_move rfl) (sV rfl (py_lss rfl rfl) (s_nil (W_ifd rfl (fun c3 => ?_) (fun c3 => ?_)))))))
   ·exact absurd c3 (by omega)
   ·refine W_skip (W_reg (sV rfl (py_move rfl) (sV rfl (py_add rfl rfl (in64 ⟨by omega, by omega⟩)) (sV rfl (py_assign rfl) (s_nil (⟨i + 1, ⟨eqI (by omega), rfl, rfl, trivial⟩, ⟨(H2.ftake 1), by omega, trivial⟩, by dsimp only; omega⟩))))))
 ·refine W_exit (W_sr (sV rfl (py_move rfl) (sV rfl (py_assign rfl) (s_nil (W_ret (hQ _ _ (fin1 Tryz.results174 rfl ?_)))))))
  obtain rfl : i = xs.length := by omega
  exact ⟨H1.ext, rfl⟩
theorem Tryz_laws_heldWorld {w : World} {x : Wld} {s0 s1 s2 s3 s4 s5 s6 s7 s8 wr sp k : Int} {dn : Bool} {A9 A10 A11 : Option Addr} {n9 C9 n10 C10 n11 C11 : Nat} (e9 : Sees w [.slice A9 n9 C9] x.Groups) (e10 : Sees w [.slice A10 n10 C10] x.On) (e11 : Sees w [.slice A11 n11 C11] x.Tapes) (hk : 0 ≤ k ∧ k + mkWld x ≤ 4611686018427387904) (hm : MkWld x k) : Ret Tryz.prog 106 #[.agg #[.int .i64 s0, .int .i64 s1, .int .i64 s2, .int .i64 s3, .int .i64 s4, .int .i64 s5, .int .i64 s6, .int .i64 s7, .int .i64 s8, .slice A9 n9 C9, .slice A10 n10 C10, .slice A11 n11 C11, .int .i64 wr, .int .i64 sp, .bool dn], .int .i64 k] w fun v w' => Ext No w w' ∧ (v = .int .i64 (k + mkWld x)) := by
 obtain ⟨f9, o9⟩ := e9
 obtain rfl := own_n o9
 obtain ⟨f10, o10⟩ := e10
 obtain rfl := own_n o10
 obtain ⟨f11, o11⟩ := e11
 obtain rfl := own_n o11
 have hcu : mkWld x = mkL (mkL mkDrive) x.Groups + x.On.length + mkL mkTape x.Tapes := rfl
 obtain ⟨m1, m2, m3⟩ := hm
 refine ret_Q (vs := [.agg #[.int .i64 s0, .int .i64 s1, .int .i64 s2, .int .i64 s3, .int .i64 s4, .int .i64 s5, .int .i64 s6, .int .i64 s7, .int .i64 s8, .slice A9 x.Groups.length C9, .slice A10 x.On.length C10, .slice A11 x.Tapes.length C11, .int .i64 wr, .int .i64 sp, .bool dn], .int .i64 k]) Tryz.func106 rfl Tryz.ntmps106 rfl (fun Q hQ hN => ?_)
 have H0 := Sep.start (w := w) (F := [seen false [.slice A9 x.Groups.length C9] x.Groups f9, seen false [.slice A10 x.On.length C10] x.On f10, seen false [.slice A11 x.Tapes.length C11] x.Tapes f11]) (all_cons o9 (all_cons o10 (all_cons o11 (by simp))))
 refine W_sr (s_box (wn rfl) rfl rfl H0 (fun b1 w1 e1 g1 H1 => ?_))
 refine sV rfl (py_assign rfl) (s_nil (W_sr (sV rfl (py_field Tryz.underlying37 rfl Tryz.sizeOf34 rfl rfl) (sV rfl (py_load Tryz.underlying34 rfl rfl (cell_atL (H1.box 0 rfl) rfl)) (sV rfl (py_move rfl) (s_call (wn rfl) rfl rfl (pc_call Tryz.func173 rfl Tryz_nm173 rfl) (Tryz_laws_heldDriveSS (H1.sees 0 rfl) (by constructor <;> omega) (by assumption)) (fun v1 w2 r1 => ?_)))))))
 obtain ⟨e2, rfl⟩ := r1
 have H2 := H1.to e2
 refine sV rfl (py_assign rfl) (s_nil (W_seq (W_sr (sV rfl (py_move rfl) (sV rfl (py_lss rfl rfl) (s_nil (W_ifd rfl (fun c1 => ?_) (fun c1 => ?_))))))))
 ·exact absurd c1 (by omega)
 ·refine W_skip (W_sr (sV rfl (py_field Tryz.underlying37 rfl Tryz.sizeOf25 rfl rfl) (sV rfl (py_load Tryz.underlying25 rfl rfl (cell_atL (H2.box 0 rfl) rfl)) (sV rfl (py_move rfl) (s_call (wn rfl) rfl rfl (pc_call Tryz.func91 rfl Tryz_nm91 rfl) (Tryz_laws_heldInt64S (H2.sees 1 rfl) (by constructor <;> omega) (by assumption)) (fun v2 w3 r2 => ?_))))))
  obtain ⟨e3, rfl⟩ := r2
  have H3 := H2.to e3
  refine sV rfl (py_assign rfl) (s_nil (W_seq (W_sr (sV rfl (py_move rfl) (sV rfl (py_lss rfl rfl) (s_nil (W_ifd rfl (fun c2 => ?_) (fun c2 => ?_))))))))
  ·exact absurd c2 (by omega)
  ·refine W_skip (W_sr (sV rfl (py_field Tryz.underlying37 rfl Tryz.sizeOf35 rfl rfl) (sV rfl (py_load Tryz.underlying35 rfl rfl (cell_atL (H3.box 0 rfl) rfl)) (sV rfl (py_move rfl) (s_call (wn rfl) rfl rfl (pc_call Tryz.func174 rfl Tryz_nm174 rfl) (Tryz_laws_heldTapeS (H3.sees 2 rfl) (by constructor <;> omega) (by assumption)) (fun v3 w4 r3 => ?_))))))
   obtain ⟨e4, rfl⟩ := r3
   have H4 := H3.to e4
   refine sV rfl (py_assign rfl) (s_nil (W_seq (W_sr (sV rfl (py_move rfl) (sV rfl (py_lss rfl rfl) (s_nil (W_ifd rfl (fun c3 => ?_) (fun c3 => ?_))))))))
   ·exact absurd c3 (by omega)
   ·refine W_skip (W_sr (sV rfl (py_move rfl) (sV rfl (py_assign rfl) (s_nil (W_ret (hQ _ _ (fin1 Tryz.results106 rfl ?_)))))))
    exact ⟨H4.ext, congrArg (Value.int .i64) (by omega)⟩
theorem Tryz_laws_heldWorldResult {w : World} {x : Wld} {c s0 s1 s2 s3 s4 s5 s6 s7 s8 wr sp k : Int} {dn : Bool} {A9 A10 A11 : Option Addr} {n9 C9 n10 C10 n11 C11 : Nat} (e9 : Sees w [.slice A9 n9 C9] x.Groups) (e10 : Sees w [.slice A10 n10 C10] x.On) (e11 : Sees w [.slice A11 n11 C11] x.Tapes) (hk : 0 ≤ k ∧ k + mkWld x ≤ 4611686018427387904) (hm : MkWld x k) : Ret Tryz.prog 38 #[.agg #[.int .i64 c, .int .i64 s0, .int .i64 s1, .int .i64 s2, .int .i64 s3, .int .i64 s4, .int .i64 s5, .int .i64 s6, .int .i64 s7, .int .i64 s8, .slice A9 n9 C9, .slice A10 n10 C10, .slice A11 n11 C11, .int .i64 wr, .int .i64 sp, .bool dn], .int .i64 k] w fun v w' => Ext No w w' ∧ (v = .int .i64 (k + mkWld x)) := by
 obtain ⟨f9, o9⟩ := e9
 obtain rfl := own_n o9
 obtain ⟨f10, o10⟩ := e10
 obtain rfl := own_n o10
 obtain ⟨f11, o11⟩ := e11
 obtain rfl := own_n o11
 skip
 refine ret_Q (vs := [.agg #[.int .i64 c, .int .i64 s0, .int .i64 s1, .int .i64 s2, .int .i64 s3, .int .i64 s4, .int .i64 s5, .int .i64 s6, .int .i64 s7, .int .i64 s8, .slice A9 x.Groups.length C9, .slice A10 x.On.length C10, .slice A11 x.Tapes.length C11, .int .i64 wr, .int .i64 sp, .bool dn], .int .i64 k]) Tryz.func38 rfl Tryz.ntmps38 rfl (fun Q hQ hN => ?_)
 have H0 := Sep.start (w := w) (F := [seen false [.slice A9 x.Groups.length C9] x.Groups f9, seen false [.slice A10 x.On.length C10] x.On f10, seen false [.slice A11 x.Tapes.length C11] x.Tapes f11]) (all_cons o9 (all_cons o10 (all_cons o11 (by simp))))
 refine W_sr (s_box (wn rfl) rfl rfl H0 (fun b1 w1 e1 g1 H1 => ?_))
 refine sV rfl (py_assign rfl) (s_nil (W_sr (sV rfl (py_field Tryz.underlying57 rfl Tryz.sizeOf37 rfl rfl) (sV rfl (py_loadS Tryz.underlying37 rfl Tryz.sizeOf37 rfl rfl (At.sub (H1.box 0 rfl) 15)) (sV rfl (py_move rfl) (s_call (wn rfl) rfl rfl (pc_call Tryz.func106 rfl Tryz_nm106 rfl) (Tryz_laws_heldWorld (H1.sees 0 rfl) (H1.sees 1 rfl) (H1.sees 2 rfl) (by constructor <;> omega) (by assumption)) (fun v1 w2 r1 => ?_)))))))
 obtain ⟨e2, rfl⟩ := r1
 have H2 := H1.to e2
 refine sV rfl (py_assign rfl) (s_nil (W_seq (W_sr (sV rfl (py_move rfl) (sV rfl (py_lss rfl rfl) (s_nil (W_ifd rfl (fun c1 => ?_) (fun c1 => ?_))))))))
 ·exact absurd c1 (by omega)
 ·refine W_skip (W_sr (sV rfl (py_move rfl) (sV rfl (py_assign rfl) (s_nil (W_ret (hQ _ _ (fin1 Tryz.results38 rfl ?_)))))))
  exact ⟨H2.ext, rfl⟩
theorem Tryz_laws_markWorldResult {w : World} {y : WldResult} {yA10 : Option Addr} {yC10 : Nat} {yA11 : Option Addr} {yC11 : Nat} {yA12 : Option Addr} {yC12 : Nat} {k : Int} {fp : List Nat} (o : own true w [.int .i64 y.Code, .int .i64 y.Wd.Shape.Groups, .int .i64 y.Wd.Shape.Column, .int .i64 y.Wd.Shape.Data, .int .i64 y.Wd.Shape.Spare, .int .i64 y.Wd.Shape.Rows, .int .i64 y.Wd.Shape.Cap, .int .i64 y.Wd.Shape.Batch, .int .i64 y.Wd.Shape.Queue, .int .i64 y.Wd.Shape.Stage, .slice yA10 y.Wd.Groups.length yC10, .slice yA11 y.Wd.On.length yC11, .slice yA12 y.Wd.Tapes.length yC12, .int .i64 y.Wd.Writes, .int .i64 y.Wd.Stop, .bool y.Wd.Down] y fp) (nd : fp.Nodup) (hk : 0 ≤ k ∧ k + mkWld y.Wd ≤ 4611686018427387904) : Ret Tryz.prog 37 #[y.val yA10 yC10 yA11 yC11 yA12 yC12, .int .i64 k] w fun v w' => (v = .int .i64 (k + mkWld y.Wd) ∧ ∃ x' : Wld, Mut w w' fp [.int .i64 y.Code, .int .i64 y.Wd.Shape.Groups, .int .i64 y.Wd.Shape.Column, .int .i64 y.Wd.Shape.Data, .int .i64 y.Wd.Shape.Spare, .int .i64 y.Wd.Shape.Rows, .int .i64 y.Wd.Shape.Cap, .int .i64 y.Wd.Shape.Batch, .int .i64 y.Wd.Shape.Queue, .int .i64 y.Wd.Shape.Stage, .slice yA10 y.Wd.Groups.length yC10, .slice yA11 y.Wd.On.length yC11, .slice yA12 y.Wd.Tapes.length yC12, .int .i64 y.Wd.Writes, .int .i64 y.Wd.Stop, .bool y.Wd.Down] (⟨y.Code, x'⟩ : WldResult) ∧ (x'.Groups.length = y.Wd.Groups.length ∧ x'.On.length = y.Wd.On.length ∧ x'.Tapes.length = y.Wd.Tapes.length ∧ mkWld x' = mkWld y.Wd ∧ MkWld x' k ∧ x'.Shape = y.Wd.Shape ∧ x'.Writes = y.Wd.Writes ∧ x'.Stop = y.Wd.Stop ∧ x'.Down = y.Wd.Down)) := by
 refine ret_Q (vs := [y.val yA10 yC10 yA11 yC11 yA12 yC12, .int .i64 k]) Tryz.func37 rfl Tryz.ntmps37 rfl (fun Q hQ hN => ?_)
 obtain ⟨f10, f11, f12, ef, ok, o10, o11, o12⟩ := own_WldResultC o
 have H0 := (Sep.begin o nd).conv 0 (mine [.int .i64 y.Wd.Shape.Groups, .int .i64 y.Wd.Shape.Column, .int .i64 y.Wd.Shape.Data, .int .i64 y.Wd.Shape.Spare, .int .i64 y.Wd.Shape.Rows, .int .i64 y.Wd.Shape.Cap, .int .i64 y.Wd.Shape.Batch, .int .i64 y.Wd.Shape.Queue, .int .i64 y.Wd.Shape.Stage, .slice yA10 y.Wd.Groups.length yC10, .slice yA11 y.Wd.On.length yC11, .slice yA12 y.Wd.Tapes.length yC12, .int .i64 y.Wd.Writes, .int .i64 y.Wd.Stop, .bool y.Wd.Down] y.Wd (f10 ++ (f11 ++ f12))) rfl (Wld.own_mk ok.2 o10 o11 o12) (fun b hb => by rw [ef]; exact hb) (by rw [← ef]; exact nd)
 try dsimp only [List.nil_append, List.cons_append, List.set_cons_zero, List.set_cons_succ] at H0
 have okW := ok.2
 refine W_sr (s_box (wn rfl) rfl rfl H0 (fun b1 w1 e1 g1 H1 => ?_))
 refine sV rfl (py_assign rfl) (s_nil (W_sr (sV rfl (py_field Tryz.underlying57 rfl Tryz.sizeOf37 rfl rfl) (sV rfl (py_loadS Tryz.underlying37 rfl Tryz.sizeOf37 rfl rfl (At.sub (H1.box 1 rfl) 15)) (sV rfl (py_move rfl) (s_call (wn rfl) rfl rfl (pc_call Tryz.func24 rfl Tryz_nm24 rfl) (Tryz_laws_markWorld (by assumption) (H1.mine 0 rfl) (H1.nodup1 (i := 0) rfl) (by constructor <;> omega)) (fun v1 w2 r1 => ?_)))))))
 obtain ⟨rfl, mx1, mm1, ml1⟩ := r1
 obtain ⟨fp1, H2⟩ := H1.mut 0 rfl mm1
 try dsimp only [List.nil_append, List.cons_append, List.set_cons_zero, List.set_cons_succ] at H2
 refine sV rfl (py_assign rfl) (s_nil (W_sr (sV rfl (py_move rfl) (sV rfl (py_assign rfl) (s_nil (W_ret (hQ _ _ (fin1 Tryz.results37 rfl ?_))))))))
 exact ⟨rfl, mx1, WldResult.mutW ok (H2.dtake 1), ml1⟩
theorem Tryz_laws_eqWorldResult {w : World} {a : WldResult} {aA10 : Option Addr} {aC10 : Nat} {aA11 : Option Addr} {aC11 : Nat} {aA12 : Option Addr} {aC12 : Nat} {b : WldResult} {bA10 : Option Addr} {bC10 : Nat} {bA11 : Option Addr} {bC11 : Nat} {bA12 : Option Addr} {bC12 : Nat} (aK : a.Ok) (aS10 : Sees w [.slice aA10 a.Wd.Groups.length aC10] a.Wd.Groups) (aS11 : Sees w [.slice aA11 a.Wd.On.length aC11] a.Wd.On) (aS12 : Sees w [.slice aA12 a.Wd.Tapes.length aC12] a.Wd.Tapes) (bK : b.Ok) (bS10 : Sees w [.slice bA10 b.Wd.Groups.length bC10] b.Wd.Groups) (bS11 : Sees w [.slice bA11 b.Wd.On.length bC11] b.Wd.On) (bS12 : Sees w [.slice bA12 b.Wd.Tapes.length bC12] b.Wd.Tapes) : Ret Tryz.prog 36 #[a.val aA10 aC10 aA11 aC11 aA12 aC12, b.val bA10 bC10 bA11 bC11 bA12 bC12] w fun v w' => Ext No w w' ∧ (v = .bool (decide (a = b))) := by
 have aK2 := aK
 unfold WldResult.Ok Wld.Ok Shape.Ok at aK2
 try unfold I64ok at aK2
 try unfold maxLen at aK2
 have aL10 := sees_len aS10
 unfold maxLen at aL10
 obtain ⟨aF10, aO10⟩ := aS10
 have aL11 := sees_len aS11
 unfold maxLen at aL11
 obtain ⟨aF11, aO11⟩ := aS11
 have aL12 := sees_len aS12
 unfold maxLen at aL12
 obtain ⟨aF12, aO12⟩ := aS12
 have bK2 := bK
 unfold WldResult.Ok Wld.Ok Shape.Ok at bK2
 try unfold I64ok at bK2
 try unfold maxLen at bK2
 have bL10 := sees_len bS10
 unfold maxLen at bL10
 obtain ⟨bF10, bO10⟩ := bS10
 have bL11 := sees_len bS11
 unfold maxLen at bL11
 obtain ⟨bF11, bO11⟩ := bS11
 have bL12 := sees_len bS12
 unfold maxLen at bL12
 obtain ⟨bF12, bO12⟩ := bS12
 have aK3 := aK.2
 have bK3 := bK.2
 refine ret_Q (vs := [a.val aA10 aC10 aA11 aC11 aA12 aC12, b.val bA10 bC10 bA11 bC11 bA12 bC12]) Tryz.func36 rfl Tryz.ntmps36 rfl (fun Q hQ hN => ?_)
 have H0 := Sep.start (w := w) (F := [seen false [.slice aA10 a.Wd.Groups.length aC10] a.Wd.Groups aF10, seen false [.slice aA11 a.Wd.On.length aC11] a.Wd.On aF11, seen false [.slice aA12 a.Wd.Tapes.length aC12] a.Wd.Tapes aF12, seen false [.slice bA10 b.Wd.Groups.length bC10] b.Wd.Groups bF10, seen false [.slice bA11 b.Wd.On.length bC11] b.Wd.On bF11, seen false [.slice bA12 b.Wd.Tapes.length bC12] b.Wd.Tapes bF12]) (all_cons aO10 (all_cons aO11 (all_cons aO12 (all_cons bO10 (all_cons bO11 (all_cons bO12 (by simp)))))))
 refine W_sr (s_box (wn rfl) rfl rfl H0 (fun b1 w1 e1 g1 H1 => ?_))
 refine s_box (wn rfl) rfl rfl H1 (fun b2 w2 e2 g2 H2 => ?_)
 refine sV rfl (py_assign rfl) (s_nil (W_seq (W_sr (sV rfl (py_field Tryz.underlying57 rfl Tryz.sizeOf2 rfl rfl) (sV rfl (py_load Tryz.underlying2 rfl rfl (cell_atL (H2.box 0 rfl) rfl)) (sV rfl (py_field Tryz.underlying57 rfl Tryz.sizeOf2 rfl rfl) (sV rfl (py_load Tryz.underlying2 rfl rfl (cell_atL (H2.box 1 rfl) rfl)) (sV rfl (py_neq rfl rfl) (s_nil (W_ifd rfl (fun c1 => ?_) (fun c1 => ?_)))))))))))
 ·refine W_sr (sV rfl (py_assign rfl) (s_nil (W_ret (hQ _ _ (fin1 Tryz.results36 rfl (⟨H2.ext, ?_⟩))))))
  rw [decide_eq_false (fun e => by subst e; first | exact c1 rfl | simp at c1)]
 ·refine W_skip (W_seq (W_sr (sV rfl (py_field Tryz.underlying57 rfl Tryz.sizeOf37 rfl rfl) (sV rfl (py_loadS Tryz.underlying37 rfl Tryz.sizeOf37 rfl rfl (At.sub (H2.box 0 rfl) 15)) (sV rfl (py_field Tryz.underlying57 rfl Tryz.sizeOf37 rfl rfl) (sV rfl (py_loadS Tryz.underlying37 rfl Tryz.sizeOf37 rfl rfl (At.sub (H2.box 1 rfl) 15)) (s_call (wn rfl) rfl rfl (pc_call Tryz.func20 rfl Tryz_nm20 rfl) (Tryz_laws_eqWorld (by assumption) (H2.sees 0 rfl) (H2.sees 1 rfl) (H2.sees 2 rfl) (by assumption) (H2.sees 3 rfl) (H2.sees 4 rfl) (H2.sees 5 rfl)) (fun v1 w3 r1 => ?_))))))))
  obtain ⟨e3, rfl⟩ := r1
  have H3 := H2.to e3
  refine sV rfl (py_not rfl) (s_nil (W_if rfl (fun c2 => ?_) (fun c2 => ?_)))
  ·refine W_sr (sV rfl (py_assign rfl) (s_nil (W_ret (hQ _ _ (fin1 Tryz.results36 rfl (⟨H3.ext, ?_⟩))))))
   rw [decide_eq_false (fun e => by subst e; first | exact c2 rfl | simp at c2)]
  ·refine W_skip (W_sr (sV rfl (py_assign rfl) (s_nil (W_ret (hQ _ _ (fin1 Tryz.results36 rfl (⟨H3.ext, ?_⟩)))))))
   rw [decide_eq_true]
   cases a; cases b; simp_all
end Go.Wk
