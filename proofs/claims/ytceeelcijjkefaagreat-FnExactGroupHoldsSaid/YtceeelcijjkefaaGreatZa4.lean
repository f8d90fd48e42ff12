/-
  Laws on walking, and the functions walked, each once: what this claim comes to.
-/
import Derived.Test.YtceeelcijjkefaaGreatZa3
set_option linter.unusedVariables false
set_option linter.unusedSimpArgs false
namespace Go.Wk
open Go.Proofs Rp
set_option maxRecDepth 10000
set_option maxHeartbeats 1000000 in
theorem Tryz_spec_l5Built {w : World} {z : Wld} {zA9 : Option Addr} {zC9 : Nat} {zA10 : Option Addr} {zC10 : Nat} {zA11 : Option Addr} {zC11 : Nat} (zK : z.Ok) (zS9 : Sees w [.slice zA9 z.Groups.length zC9] z.Groups) (zS10 : Sees w [.slice zA10 z.On.length zC10] z.On) (zS11 : Sees w [.slice zA11 z.Tapes.length zC11] z.Tapes) (hs : z.Shape.ok = true) : Ret Tryz.prog 147 #[z.val zA9 zC9 zA10 zC10 zA11 zC11] w fun v w' => Ext No w w' ∧ (v = .bool (groupsOK z)) := by
 have zK2 := zK
 unfold Wld.Ok Shape.Ok at zK2
 try unfold I64ok at zK2
 try unfold maxLen at zK2
 have zL9 := sees_len zS9
 unfold maxLen at zL9
 obtain ⟨zF9, zO9⟩ := zS9
 have zL10 := sees_len zS10
 unfold maxLen at zL10
 obtain ⟨zF10, zO10⟩ := zS10
 have zL11 := sees_len zS11
 unfold maxLen at zL11
 obtain ⟨zF11, zO11⟩ := zS11
 have sbd := shape_bd hs
 refine ret_Q (vs := [z.val zA9 zC9 zA10 zC10 zA11 zC11]) Tryz.func147 rfl Tryz.ntmps147 rfl (fun Q hQ hN => ?_)
 have H0 := Sep.start (w := w) (F := [seen false [.slice zA9 z.Groups.length zC9] z.Groups zF9, seen false [.slice zA10 z.On.length zC10] z.On zF10, seen false [.slice zA11 z.Tapes.length zC11] z.Tapes zF11]) (all_cons zO9 (all_cons zO10 (all_cons zO11 (by simp))))
 refine W_sr (s_box (wn rfl) rfl rfl H0 (fun b1 w1 e1 g1 H1 => ?_))
 refine sV rfl (py_assign rfl) (s_nil (W_sr (sV rfl (py_field Tryz.underlying37 rfl Tryz.sizeOf33 rfl rfl) (sV rfl (py_loadS Tryz.underlying33 rfl Tryz.sizeOf33 rfl rfl (At.sub (H1.box 0 rfl) 9)) (s_var (wn rfl) rfl Tryz.zeroValue33 H1 (fun b2 w2 e2 g2 H2 => ?_))))))
 refine s_stoS (wn rfl) Tryz.sizeOf33 rfl rfl rfl rfl H2 1 rfl rfl (fun w3 e3 H3 => ?_)
 dsimp only [List.nil_append, List.cons_append, List.set_cons_zero, List.set_cons_succ, layL] at H3
 refine s_nil (W_seq (W_seq (W_drw (S := Ext No _) [(0, true), (1, true), (2, true), (3, true), (4, false), (5, false)] (by kernel_rfl) (by kernel_rfl) (by kernel_rfl) rfl (fun _ => Ext.refl.drawn _) (fun q1 => ?_))))
 have H4 := H3.drawn q1
 refine dV rfl rfl (fun zw hx => py_field Tryz.underlying37 rfl Tryz.sizeOf34 rfl rfl) (dV rfl rfl (fun zw hx => py_load Tryz.underlying34 rfl rfl (cell_atL (hx.heap (H4.box 0 rfl)) rfl)) (dV rfl rfl (fun zw hx => py_len Tryz.underlying34 rfl) (dV rfl rfl (fun zw hx => py_loadS Tryz.underlying33 rfl Tryz.sizeOf33 rfl rfl (At.whole (hx.heap (H4.box 1 rfl)))) (d_call rfl (wn rfl) rfl rfl (pc_call Tryz.func83 rfl Tryz_nm83 rfl) (Tryz_spec_l5All (by assumption)) (fun hS _ _ r _ => hS.trans r.1.no) (fun v1 w4 r1 => ?_)))))
 obtain ⟨e4, rfl⟩ := r1
 have H5 := H4.to e4
 refine d_end rfl (wn rfl) rfl rfl (py_neq rfl rfl) (d_nil (W_ifd rfl (fun c1 => ?_) (fun c1 => ?_)))
 ·refine W_sr (sV rfl (py_assign rfl) (s_nil (W_ret (hQ _ _ (fin1 Tryz.results147 rfl ?_)))))
  exact ⟨H5.ext, congrArg Value.bool (groupsOK_len (by omega)).symm⟩
 ·refine W_skip (W_seq (W_sr (sV rfl (py_assign rfl) (s_nil (W_block (W_loopS (γ := Nat) H5 [(1, _), (3, _)] ⟨rfl, rfl, trivial⟩ (fun k => [(4, .int .i64 k)]) (fun k => k ≤ z.Groups.length ∧ (∀ i, i < k → groupOK z.Shape (z.Groups.getD i []) = true)) (fun k => z.Groups.length - k) 0 ⟨rfl, trivial⟩ ⟨by omega, fun i hi => by omega⟩ (fun k w5 H6 ⟨hk, he⟩ => ?_)))))))
  dsimp only [List.cons_append, List.nil_append]
  refine W_seq (W_sr (sV rfl (py_move rfl) (sV rfl (py_field Tryz.underlying37 rfl Tryz.sizeOf34 rfl rfl) (sV rfl (py_load Tryz.underlying34 rfl rfl (cell_atL (H6.box 0 rfl) rfl)) (sV rfl (py_len Tryz.underlying34 rfl) (sV rfl (py_lss rfl rfl) (s_nil (W_ifd rfl (fun c2 => ?_) (fun c2 => ?_)))))))))
  ·refine W_skip (W_seq (W_block (W_seq (W_seq ?_))))
   obtain ⟨eb1, eo1, ea1, ek1, ef1, ee1, ec1, eO1, eH1⟩ := elem_sl (H6.seen 0 rfl) k (by omega)
   have eP1 := H6.look1 0 rfl eO1 eH1
   refine W_drw (S := Ext No _) [(0, true), (1, true), (2, true), (3, true), (4, true), (5, true), (6, true), (7, false), (8, false)] (by kernel_rfl) (by kernel_rfl) (by kernel_rfl) rfl (fun _ => Ext.refl.drawn _) (fun q2 => ?_)
   have H7 := eP1.drawn q2
   refine dV rfl rfl (fun zw hx => py_field Tryz.underlying37 rfl Tryz.sizeOf34 rfl rfl) (dV rfl rfl (fun zw hx => py_load Tryz.underlying34 rfl rfl (cell_atL (hx.heap (H7.box 0 rfl)) rfl)) (dV rfl rfl (fun zw hx => py_move rfl) (dV rfl rfl (fun zw hx => py_elz Tryz.underlying34 Tryz.sizeOf147 rfl rfl ee1 k (by omega) (by omega)) (dV rfl rfl (fun zw hx => py_load Tryz.underlying147 rfl rfl (hx.cell ec1)) (dV rfl rfl (fun zw hx => py_len Tryz.underlying147 rfl) (dV rfl rfl (fun zw hx => py_loadS Tryz.underlying33 rfl Tryz.sizeOf33 rfl rfl (At.whole (hx.heap (H7.box 1 rfl)))) (d_call rfl (wn rfl) rfl rfl (pc_call Tryz.func157 rfl Tryz_nm157 rfl) (Tryz_spec_l5Drives (by assumption)) (fun hS _ _ r _ => hS.trans r.1.no) (fun v2 w6 r2 => ?_))))))))
   obtain ⟨e5, rfl⟩ := r2
   have H8 := H7.to e5
   refine d_end rfl (wn rfl) rfl rfl (py_neq rfl rfl) (d_nil (W_ifd rfl (fun c3 => ?_) (fun c3 => ?_)))
   ·refine W_sr (sV rfl (py_assign rfl) (s_nil (W_ret (hQ _ _ (fin1 Tryz.results147 rfl ?_)))))
    exact ⟨H8.ext, congrArg Value.bool (groupsOK_at k (by omega) (groupOK_len (by omega))).symm⟩
   ·refine W_skip (W_sr (sV rfl (py_assign rfl) (s_nil (W_block (W_loopS (γ := Nat) H8 [(1, _), (3, _), (4, _)] ⟨rfl, rfl, rfl, trivial⟩ (fun k2 => [(5, .int .i64 k2)]) (fun k2 => k2 ≤ (z.Groups.getD k []).length ∧ (∀ i, i < k2 → driveOK z.Shape ((z.Groups.getD k []).getD i default) = true)) (fun k2 => (z.Groups.getD k []).length - k2) 0 ⟨rfl, trivial⟩ ⟨by omega, fun i hi => by omega⟩ (fun k2 w7 H9 ⟨hk2, hek2⟩ => ?_))))))
    dsimp only [List.cons_append, List.nil_append]
    refine W_seq (W_seq ?_)
    obtain ⟨eb2, eo2, ea2, ek2, ef2, ee2, ec2, eO2, eH2⟩ := elem_sl (H9.seen 0 rfl) k (by omega)
    have eP2 := H9.look1 0 rfl eO2 eH2
    refine W_reg (sV rfl (py_move rfl) (sV rfl (py_field Tryz.underlying37 rfl Tryz.sizeOf34 rfl rfl) (sV rfl (py_load Tryz.underlying34 rfl rfl (cell_atL (eP2.box 0 rfl) rfl)) (sV rfl (py_move rfl) (sV rfl (py_elz Tryz.underlying34 Tryz.sizeOf147 rfl rfl ee2 k (by omega) (by omega)) (sV rfl (py_load Tryz.underlying147 rfl rfl ec2) (sV rfl (py_len Tryz.underlying147 rfl) (sV rfl (py_lss rfl rfl) (s_nil (W_ifd rfl (fun c4 => ?_) (fun c4 => ?_)))))))))))
    ·refine W_skip (W_seq (W_block (W_seq ?_)))
     obtain ⟨eb3, eo3, ea3, ek3, ef3, ee3, ec3, eO3, eH3⟩ := elem_sl (eP2.seen 0 rfl) k (by omega)
     have eP3 := eP2.look1 0 rfl eO3 eH3
     obtain ⟨eb4, eo4, es1, ef4, ee4, ec4, eO4, eH4, em1⟩ := elem_st (eP3.seen 5 rfl) k2 (by omega)
     obtain ⟨ea4, ek4, eg1, rfl, eq1, eK1, eo5⟩ := own_Drive eO4
     have eP4 := eP3.look1 5 rfl eo5 (fun b hb => eH4 b (by rw [eq1]; simp [hb]))
     have eL1 := own_len_le eo5
     unfold maxLen at eL1
     refine W_reg (sV rfl (py_field Tryz.underlying37 rfl Tryz.sizeOf34 rfl rfl) (sV rfl (py_load Tryz.underlying34 rfl rfl (cell_atL (eP4.box 0 rfl) rfl)) (sV rfl (py_move rfl) (sV rfl (py_elz Tryz.underlying34 Tryz.sizeOf147 rfl rfl ee3 k (by omega) (by omega)) (sV rfl (py_load Tryz.underlying147 rfl rfl ec3) (sV rfl (py_move rfl) (sV rfl (py_elz Tryz.underlying147 Tryz.sizeOf150 rfl rfl ee4 k2 (by omega) (by omega)) (sV rfl (py_field Tryz.underlying150 rfl Tryz.sizeOf148 rfl rfl) (sV rfl (py_load Tryz.underlying148 rfl rfl (at_cell ec4 1 rfl)) (sV rfl (py_assign rfl) (s_nil (W_seq (W_sr (sV rfl (py_move rfl) (sV rfl (py_len Tryz.underlying148 rfl) (sV rfl (py_field Tryz.underlying33 rfl Tryz.sizeOf2 rfl rfl) (sV rfl (py_load Tryz.underlying2 rfl rfl (cell_atL (eP4.box 1 rfl) rfl)) (sV rfl (py_neq rfl rfl) (s_nil (W_ifd rfl (fun c5 => ?_) (fun c5 => ?_)))))))))))))))))))))
     ·refine W_sr (sV rfl (py_assign rfl) (s_nil (W_ret (hQ _ _ (fin1 Tryz.results147 rfl ?_)))))
      exact ⟨eP4.ext, congrArg Value.bool (groupsOK_at k (by omega) (groupOK_at k2 (by omega) (driveOK_len (by omega)))).symm⟩
     ·refine W_skip (W_sr (sV rfl (py_assign rfl) (s_nil (W_block (W_loopS (γ := Nat) eP4 [(1, _), (3, _), (4, _), (5, _), (6, _)] ⟨rfl, rfl, rfl, rfl, rfl, trivial⟩ (fun k3 => [(7, .int .i64 k3)]) (fun k3 => k3 ≤ ((z.Groups.getD k []).getD k2 default).Blocks.length ∧ (∀ i, i < k3 → blockOK (((z.Groups.getD k []).getD k2 default).Blocks.getD i default) = true)) (fun k3 => ((z.Groups.getD k []).getD k2 default).Blocks.length - k3) 0 ⟨rfl, trivial⟩ ⟨by omega, fun i hi => by omega⟩ (fun k3 w8 H10 ⟨hk3, hek3⟩ => ?_))))))
      dsimp only [List.cons_append, List.nil_append]
      refine W_seq (W_sr (sV rfl (py_move rfl) (sV rfl (py_move rfl) (sV rfl (py_len Tryz.underlying148 rfl) (sV rfl (py_lss rfl rfl) (s_nil (W_ifd rfl (fun c6 => ?_) (fun c6 => ?_))))))))
      ·refine W_skip (W_seq (W_block (W_seq ?_)))
       obtain ⟨eb5, eo6, es2, ef5, ee5, ec5, eO5, eH5, em2⟩ := elem_st (H10.seen 6 rfl) k3 (by omega)
       obtain ⟨ea5, ek5, eg2, rfl, eq2, eK2, eo7⟩ := own_Block eO5
       have eK2U := eK2
       unfold Block.Ok at eK2U
       try unfold I64ok at eK2U
       try unfold maxLen at eK2U
       have eP5 := H10.look1 6 rfl eo7 (fun b hb => eH5 b (by rw [eq2]; simp [hb]))
       have eL2 := own_len_le eo7
       unfold maxLen at eL2
       refine W_reg (sV rfl (py_move rfl) (sV rfl (py_move rfl) (sV rfl (py_elz Tryz.underlying148 Tryz.sizeOf152 rfl rfl ee5 k3 (by omega) (by omega)) (sV rfl (py_field Tryz.underlying152 rfl Tryz.sizeOf2 rfl rfl) (sV rfl (py_load Tryz.underlying2 rfl rfl (at_cell ec5 0 rfl)) (s_call (wn rfl) rfl rfl (pc_call Tryz.func149 rfl Tryz_nm149 rfl) Tryz_spec_l1In (fun v3 w9 r3 => ?_)))))))
       obtain ⟨e6, rfl⟩ := r3
       have H11 := eP5.to e6
       refine sV rfl (py_not rfl) (sV rfl (py_move rfl) (s_grp 7 (j := 7) (want := false) (t := 76) rfl rfl rfl rfl (fun hg1 kk1 => s_val (wgE rfl rfl rfl hg1) rfl rfl (py_move rfl) (s_val (wgE rfl rfl rfl hg1) rfl rfl (py_move rfl) (s_val (wgE rfl rfl rfl hg1) rfl rfl (py_elz Tryz.underlying148 Tryz.sizeOf152 rfl rfl ee5 k3 (by first | omega | (simp only [Bool.or_eq_false_iff, Bool.and_eq_true, Bool.and_eq_false_iff, Bool.or_eq_true, Bool.not_eq_true', Bool.not_eq_false', decide_eq_true_eq, decide_eq_false_iff_not] at hg1; omega)) (by omega)) (s_val (wgE rfl rfl rfl hg1) rfl rfl (py_field Tryz.underlying152 rfl Tryz.sizeOf61 rfl rfl) (s_val (wgE rfl rfl rfl hg1) rfl rfl (py_load Tryz.underlying61 rfl rfl (at_cell (e6.at ec5) 1 rfl)) (s_val (wgE rfl rfl rfl hg1) rfl rfl (py_len Tryz.underlying61 rfl) (s_val (wgE rfl rfl rfl hg1) rfl rfl (py_neq rfl rfl) (kk1 _ _ (kx rfl (kx rfl (kx rfl (kx rfl (kx rfl (kx rfl (kx rfl k0))))))) rfl Ext.refl)))))))) (fun w10 e7 => ?_)))
       have H12 := H11.to e7
       refine sV rfl (py_bor rfl rfl) (s_nil (W_if rfl (fun c7 => ?_) (fun c7 => ?_)))
       ·refine W_sr (sV rfl (py_assign rfl) (s_nil (W_ret (hQ _ _ (fin1 Tryz.results147 rfl ?_)))))
        exact ⟨H12.ext, congrArg Value.bool (groupsOK_at k (by omega) (groupOK_at k2 (by omega) (driveOK_at k3 (by omega) (blockOK_no c7)))).symm⟩
       ·refine W_skip (W_reg (sV rfl (py_move rfl) (sV rfl (py_add rfl rfl (in64 ⟨by omega, by omega⟩)) (sV rfl (py_assign rfl) (s_nil (⟨k3 + 1, ⟨rfl, rfl, rfl, rfl, rfl, rfl, trivial⟩, ⟨(H12.ftake 7), by omega, fun i hi => ?_⟩, by dsimp only; omega⟩))))))
        by_cases e : i = k3
        ·subst e
         exact blockOK_yes (by assumption)
        ·exact hek3 i (by omega)
      ·refine W_exit (W_reg (sV rfl (py_move rfl) (sV rfl (py_add rfl rfl (in64 ⟨by omega, by omega⟩)) (sV rfl (py_assign rfl) (s_nil (⟨k2 + 1, ⟨rfl, rfl, rfl, rfl, trivial⟩, ⟨(H10.ftake 4), by omega, fun i hi => ?_⟩, by dsimp only; omega⟩))))))
       by_cases e : i = k2
       ·subst e
        exact driveOK_all (by omega) (fun i hi => hek3 i (by omega))
       ·exact hek2 i (by omega)
    ·refine W_exit (W_reg (sV rfl (py_move rfl) (sV rfl (py_add rfl rfl (in64 ⟨by omega, by omega⟩)) (sV rfl (py_assign rfl) (s_nil (⟨k + 1, ⟨rfl, rfl, rfl, trivial⟩, ⟨(eP2.ftake 3), by omega, fun i hi => ?_⟩, by dsimp only; omega⟩))))))
     by_cases e : i = k
     ·subst e
      exact groupOK_yes (by omega) (fun i hi => hek2 i (by omega))
     ·exact he i (by omega)
  ·refine W_exit (W_sr (sV rfl (py_assign rfl) (s_nil (W_ret (hQ _ _ (fin1 Tryz.results147 rfl ?_))))))
   exact ⟨H6.ext, congrArg Value.bool (groupsOK_yes (by omega) (fun i hi => he i (by omega))).symm⟩
theorem Tryz_impl_WorldFault {w : World} {z : Wld} {zA9 : Option Addr} {zC9 : Nat} {zA10 : Option Addr} {zC10 : Nat} {zA11 : Option Addr} {zC11 : Nat} (zK : z.Ok) (zS9 : Sees w [.slice zA9 z.Groups.length zC9] z.Groups) (zS10 : Sees w [.slice zA10 z.On.length zC10] z.On) (zS11 : Sees w [.slice zA11 z.Tapes.length zC11] z.Tapes) : Ret Tryz.prog 85 #[z.val zA9 zC9 zA10 zC10 zA11 zC11] w fun v w' => Ext No w w' ∧ (v = .int .i64 (worldF z)) := by
 have zK2 := zK
 unfold Wld.Ok Shape.Ok at zK2
 try unfold I64ok at zK2
 try unfold maxLen at zK2
 have zL9 := sees_len zS9
 unfold maxLen at zL9
 obtain ⟨zF9, zO9⟩ := zS9
 have zL10 := sees_len zS10
 unfold maxLen at zL10
 obtain ⟨zF10, zO10⟩ := zS10
 have zL11 := sees_len zS11
 unfold maxLen at zL11
 obtain ⟨zF11, zO11⟩ := zS11
 refine ret_Q (vs := [z.val zA9 zC9 zA10 zC10 zA11 zC11]) Tryz.func85 rfl Tryz.ntmps85 rfl (fun Q hQ hN => ?_)
 have H0 := Sep.start (w := w) (F := [seen false [.slice zA9 z.Groups.length zC9] z.Groups zF9, seen false [.slice zA10 z.On.length zC10] z.On zF10, seen false [.slice zA11 z.Tapes.length zC11] z.Tapes zF11]) (all_cons zO9 (all_cons zO10 (all_cons zO11 (by simp))))
 refine W_sr (s_box (wn rfl) rfl rfl H0 (fun b1 w1 e1 g1 H1 => ?_))
 refine sV rfl (py_assign rfl) (s_nil (W_seq (W_sr (sV rfl (py_field Tryz.underlying37 rfl Tryz.sizeOf33 rfl rfl) (sV rfl (py_loadS Tryz.underlying33 rfl Tryz.sizeOf33 rfl rfl (At.sub (H1.box 0 rfl) 9)) (s_call (wn rfl) rfl rfl (pc_call Tryz.func150 rfl Tryz_nm150 rfl) Tryz_impl_ShapeFault (fun v1 w2 r1 => ?_)))))))
 obtain ⟨e2, rfl⟩ := r1
 have H2 := H1.to e2
 refine sV rfl (py_assign rfl) (s_nil (W_sr (sV rfl (py_move rfl) (sV rfl (py_neq rfl rfl) (s_nil (W_ifd rfl (fun c1 => ?_) (fun c1 => ?_)))))))
 ·refine W_sr (sV rfl (py_move rfl) (sV rfl (py_assign rfl) (s_nil (W_ret (hQ _ _ (fin1 Tryz.results85 rfl ?_))))))
  exact ⟨H2.ext, congrArg (Value.int .i64) (if_pos (by omega)).symm⟩
 ·refine W_skip (W_seq (W_seq ?_))
  have hs := shapeFault_ok (s := z.Shape) (by omega)
  refine W_reg (sV rfl (py_loadS Tryz.underlying37 rfl Tryz.sizeOf37 rfl rfl (At.whole (H2.box 0 rfl))) (s_call (wn rfl) rfl rfl (pc_call Tryz.func151 rfl Tryz_nm151 rfl) (Tryz_impl_groupsOK (by assumption) (H2.sees 0 rfl) (H2.sees 1 rfl) (H2.sees 2 rfl) (by assumption)) (fun v2 w3 r2 => ?_)))
  obtain ⟨e3, rfl⟩ := r2
  have H3 := H2.to e3
  refine sV rfl (py_not rfl) (sV rfl (py_move rfl) (s_case (t := 14) rfl (fun hg1 => ?_) (fun hg1 => ?_)))
  ·try simp only [decide_eq_true_eq, decide_eq_false_iff_not] at hg1
   refine s_skip (wog (b := true) rfl rfl rfl) rfl rfl (s_skip (wog (b := true) rfl rfl rfl) rfl rfl (s_skip (wog (b := true) rfl rfl rfl) rfl rfl (sV rfl (py_pickT rfl rfl) (sV rfl (py_move rfl) (s_skip (wog (b := true) rfl rfl rfl) rfl rfl (s_skip (wog (b := true) rfl rfl rfl) rfl rfl (s_skip (wog (b := true) rfl rfl rfl) rfl rfl (s_skip (wog (b := true) rfl rfl rfl) rfl rfl (sV rfl (py_pickT rfl rfl) (s_nil (W_ift rfl (W_sr (sV rfl (py_assign rfl) (s_nil (W_ret (hQ _ _ (fin1 Tryz.results85 rfl ?_)))))))))))))))))
   exact ⟨H3.ext, congrArg (Value.int .i64) ((if_neg (by omega)).trans (if_neg (by simp_all <;> omega))).symm⟩
  ·try simp only [decide_eq_true_eq, decide_eq_false_iff_not] at hg1
   refine s_val (wg rfl rfl rfl) rfl rfl (py_loadS Tryz.underlying37 rfl Tryz.sizeOf37 rfl rfl (At.whole (H3.box 0 rfl))) (s_call (wg rfl rfl rfl) rfl rfl (pc_call Tryz.func152 rfl Tryz_nm152 rfl) (Tryz_impl_onOK (by assumption) (H3.sees 0 rfl) (H3.sees 1 rfl) (H3.sees 2 rfl) (by assumption)) (fun v3 w4 r3 => ?_))
   obtain ⟨e4, rfl⟩ := r3
   have H4 := H3.to e4
   refine s_val (wg rfl rfl rfl) rfl rfl (py_not rfl) (sV rfl (py_pickF rfl rfl) (sV rfl (py_move rfl) (s_case (t := 19) rfl (fun hg2 => ?_) (fun hg2 => ?_))))
   ·try simp only [decide_eq_true_eq, decide_eq_false_iff_not] at hg2
    refine s_skip (wog (b := true) rfl rfl rfl) rfl rfl (s_skip (wog (b := true) rfl rfl rfl) rfl rfl (s_skip (wog (b := true) rfl rfl rfl) rfl rfl (s_skip (wog (b := true) rfl rfl rfl) rfl rfl (sV rfl (py_pickT rfl rfl) (s_nil (W_ift rfl (W_sr (sV rfl (py_assign rfl) (s_nil (W_ret (hQ _ _ (fin1 Tryz.results85 rfl ?_))))))))))))
    exact ⟨H4.ext, congrArg (Value.int .i64) ((if_neg (by omega)).trans (if_neg (by simp_all <;> omega))).symm⟩
   ·try simp only [decide_eq_true_eq, decide_eq_false_iff_not] at hg2
    refine s_val (wg rfl rfl rfl) rfl rfl (py_field Tryz.underlying37 rfl Tryz.sizeOf35 rfl rfl) (s_val (wg rfl rfl rfl) rfl rfl (py_load Tryz.underlying35 rfl rfl (cell_atL (H4.box 0 rfl) rfl)) (s_val (wg rfl rfl rfl) rfl rfl (py_len Tryz.underlying35 rfl) (s_val (wg rfl rfl rfl) rfl rfl (py_neq rfl rfl) (sV rfl (py_pickF rfl rfl) (s_nil (W_ifd rfl (fun c2 => ?_) (fun c2 => ?_)))))))
    ·refine W_sr (sV rfl (py_assign rfl) (s_nil (W_ret (hQ _ _ (fin1 Tryz.results85 rfl ?_)))))
     exact ⟨H4.ext, congrArg (Value.int .i64) ((if_neg (by omega)).trans (if_neg (by simp_all <;> omega))).symm⟩
    ·refine W_skip (W_seq (W_sr (sV rfl (py_loadS Tryz.underlying37 rfl Tryz.sizeOf37 rfl rfl (At.whole (H4.box 0 rfl))) (s_call (wn rfl) rfl rfl (pc_call Tryz.func153 rfl Tryz_nm153 rfl) (Tryz_impl_tapesFault (by assumption) (H4.sees 0 rfl) (H4.sees 1 rfl) (H4.sees 2 rfl) (by assumption)) (fun v4 w5 r4 => ?_)))))
     obtain ⟨e5, rfl⟩ := r4
     have H5 := H4.to e5
     refine sV rfl (py_assign rfl) (s_nil (W_sr (sV rfl (py_move rfl) (sV rfl (py_neq rfl rfl) (s_nil (W_ifd rfl (fun c3 => ?_) (fun c3 => ?_)))))))
     ·refine W_sr (sV rfl (py_move rfl) (sV rfl (py_assign rfl) (s_nil (W_ret (hQ _ _ (fin1 Tryz.results85 rfl ?_))))))
      exact ⟨H5.ext, congrArg (Value.int .i64) ((if_neg (by omega)).trans ((if_pos (by simp_all <;> omega)).trans (if_pos (by omega)))).symm⟩
     ·refine W_skip (W_seq (W_sr (sV rfl (py_field Tryz.underlying37 rfl Tryz.sizeOf2 rfl rfl) (sV rfl (py_load Tryz.underlying2 rfl rfl (cell_atL (H5.box 0 rfl) rfl)) (s_call (wn rfl) rfl rfl (pc_call Tryz.func154 rfl Tryz_nm154 rfl) Tryz_impl_inside (fun v5 w6 r5 => ?_))))))
      obtain ⟨e6, rfl⟩ := r5
      have H6 := H5.to e6
      refine sV rfl (py_not rfl) (sV rfl (py_move rfl) (s_case (t := 34) rfl (fun hg3 => ?_) (fun hg3 => ?_)))
      ·try simp only [decide_eq_true_eq, decide_eq_false_iff_not] at hg3
       refine s_skip (wog (b := true) rfl rfl rfl) rfl rfl (s_skip (wog (b := true) rfl rfl rfl) rfl rfl (s_skip (wog (b := true) rfl rfl rfl) rfl rfl (s_skip (wog (b := true) rfl rfl rfl) rfl rfl (sV rfl (py_pickT rfl rfl) (s_nil (W_ift rfl (W_sr (sV rfl (py_assign rfl) (s_nil (W_ret (hQ _ _ (fin1 Tryz.results85 rfl ?_))))))))))))
       exact ⟨H6.ext, congrArg (Value.int .i64) ((if_neg (by omega)).trans ((if_pos (by simp_all <;> omega)).trans ((if_neg (by omega)).trans (if_neg (by simp_all <;> omega))))).symm⟩
      ·try simp only [decide_eq_true_eq, decide_eq_false_iff_not] at hg3
       refine s_val (wg rfl rfl rfl) rfl rfl (py_field Tryz.underlying37 rfl Tryz.sizeOf2 rfl rfl) (s_val (wg rfl rfl rfl) rfl rfl (py_load Tryz.underlying2 rfl rfl (cell_atL (H6.box 0 rfl) rfl)) (s_call (wg rfl rfl rfl) rfl rfl (pc_call Tryz.func154 rfl Tryz_nm154 rfl) Tryz_impl_inside (fun v6 w7 r6 => ?_)))
       obtain ⟨e7, rfl⟩ := r6
       have H7 := H6.to e7
       refine s_val (wg rfl rfl rfl) rfl rfl (py_not rfl) (sV rfl (py_pickF rfl rfl) (s_nil (W_if rfl (fun c4 => ?_) (fun c4 => ?_))))
       ·refine W_sr (sV rfl (py_assign rfl) (s_nil (W_ret (hQ _ _ (fin1 Tryz.results85 rfl ?_)))))
        exact ⟨H7.ext, congrArg (Value.int .i64) ((if_neg (by omega)).trans ((if_pos (by simp_all <;> omega)).trans ((if_neg (by omega)).trans (if_neg (by simp_all <;> omega))))).symm⟩
       ·refine W_skip (W_sr (sV rfl (py_assign rfl) (s_nil (W_ret (hQ _ _ (fin1 Tryz.results85 rfl ?_))))))
        exact ⟨H7.ext, congrArg (Value.int .i64) ((if_neg (by omega)).trans ((if_pos (by simp_all <;> omega)).trans ((if_neg (by omega)).trans (if_pos (by simp_all <;> omega))))).symm⟩
set_option maxHeartbeats 1000000 in
theorem Tryz_spec_WorldFault {w : World} {z : Wld} {zA9 : Option Addr} {zC9 : Nat} {zA10 : Option Addr} {zC10 : Nat} {zA11 : Option Addr} {zC11 : Nat} (zK : z.Ok) (zS9 : Sees w [.slice zA9 z.Groups.length zC9] z.Groups) (zS10 : Sees w [.slice zA10 z.On.length zC10] z.On) (zS11 : Sees w [.slice zA11 z.Tapes.length zC11] z.Tapes) : Ret Tryz.prog 82 #[z.val zA9 zC9 zA10 zC10 zA11 zC11] w fun v w' => Ext No w w' ∧ (v = .int .i64 (worldF z)) := by
 have zK2 := zK
 unfold Wld.Ok Shape.Ok at zK2
 try unfold I64ok at zK2
 try unfold maxLen at zK2
 have zL9 := sees_len zS9
 unfold maxLen at zL9
 obtain ⟨zF9, zO9⟩ := zS9
 have zL10 := sees_len zS10
 unfold maxLen at zL10
 obtain ⟨zF10, zO10⟩ := zS10
 have zL11 := sees_len zS11
 unfold maxLen at zL11
 obtain ⟨zF11, zO11⟩ := zS11
 refine ret_Q (vs := [z.val zA9 zC9 zA10 zC10 zA11 zC11]) Tryz.func82 rfl Tryz.ntmps82 rfl (fun Q hQ hN => ?_)
 have H0 := Sep.start (w := w) (F := [seen false [.slice zA9 z.Groups.length zC9] z.Groups zF9, seen false [.slice zA10 z.On.length zC10] z.On zF10, seen false [.slice zA11 z.Tapes.length zC11] z.Tapes zF11]) (all_cons zO9 (all_cons zO10 (all_cons zO11 (by simp))))
 refine W_sr (s_box (wn rfl) rfl rfl H0 (fun b1 w1 e1 g1 H1 => ?_))
 refine sV rfl (py_assign rfl) (s_nil (W_seq (W_sr (sV rfl (py_field Tryz.underlying37 rfl Tryz.sizeOf33 rfl rfl) (sV rfl (py_loadS Tryz.underlying33 rfl Tryz.sizeOf33 rfl rfl (At.sub (H1.box 0 rfl) 9)) (s_call (wn rfl) rfl rfl (pc_call Tryz.func146 rfl Tryz_nm146 rfl) Tryz_spec_ShapeFault (fun v1 w2 r1 => ?_)))))))
 obtain ⟨e2, rfl⟩ := r1
 have H2 := H1.to e2
 refine sV rfl (py_assign rfl) (s_nil (W_sr (sV rfl (py_move rfl) (sV rfl (py_neq rfl rfl) (s_nil (W_ifd rfl (fun c1 => ?_) (fun c1 => ?_)))))))
 ·refine W_sr (sV rfl (py_move rfl) (sV rfl (py_assign rfl) (s_nil (W_ret (hQ _ _ (fin1 Tryz.results82 rfl ?_))))))
  exact ⟨H2.ext, congrArg (Value.int .i64) (if_pos (by omega)).symm⟩
 ·refine W_skip (W_seq (W_seq ?_))
  have hs := shapeFault_ok (s := z.Shape) (by omega)
  have sbd := shape_bd hs
  refine W_drw (S := Ext No _) [(0, true), (1, false), (2, true), (3, true), (4, true), (5, true), (6, true), (7, true), (8, false), (9, true), (10, false), (11, true), (12, true), (13, true), (14, true), (15, true), (16, true), (17, true), (18, true), (19, true), (20, true), (21, true), (22, true), (23, true), (24, true), (25, true), (26, true), (27, true), (28, true), (29, true), (30, true), (31, true), (32, true), (33, true), (34, true), (35, true), (36, true), (37, false)] (by kernel_rfl) (by kernel_rfl) (by kernel_rfl) rfl (fun _ => Ext.refl.drawn _) (fun q1 => ?_)
  have H3 := H2.drawn q1
  refine dV rfl rfl (fun zw hx => py_loadS Tryz.underlying37 rfl Tryz.sizeOf37 rfl rfl (At.whole (hx.heap (H3.box 0 rfl)))) (d_call rfl (wn rfl) rfl rfl (pc_call Tryz.func147 rfl Tryz_nm147 rfl) (Tryz_spec_l5Built (by assumption) (H3.sees 0 rfl) (H3.sees 1 rfl) (H3.sees 2 rfl) (by assumption)) (fun hS _ _ r _ => hS.trans r.1.no) (fun v2 w3 r2 => ?_))
  obtain ⟨e3, rfl⟩ := r2
  have H4 := H3.to e3
  refine dV rfl rfl (fun zw hx => py_not rfl) (dV rfl rfl (fun zw hx => py_move rfl) (d_case (t := 17) rfl (fun hg1 => ?_) (fun hg1 => ?_)))
  ·try simp only [decide_eq_true_eq, decide_eq_false_iff_not] at hg1
   refine d_skip rfl (wog (b := true) rfl rfl rfl) rfl rfl (d_skip rfl (wog (b := true) rfl rfl rfl) rfl rfl (d_skip rfl (wog (b := true) rfl rfl rfl) rfl rfl (d_skip rfl (wog (b := true) rfl rfl rfl) rfl rfl (d_skipA rfl (wog (b := true) rfl rfl rfl) rfl rfl (d_skip rfl (wog (b := true) rfl rfl rfl) rfl rfl (d_skipA rfl (wog (b := true) rfl rfl rfl) rfl rfl (d_skip rfl (wog (b := true) rfl rfl rfl) rfl rfl (dV rfl rfl (fun zw hx => py_pickT rfl rfl) (dV rfl rfl (fun zw hx => py_move rfl) (d_skip rfl (wog (b := true) rfl rfl rfl) rfl rfl (d_skip rfl (wog (b := true) rfl rfl rfl) rfl rfl (d_skip rfl (wog (b := true) rfl rfl rfl) rfl rfl (d_skip rfl (wog (b := true) rfl rfl rfl) rfl rfl (d_skip rfl (wog (b := true) rfl rfl rfl) rfl rfl (d_skip rfl (wog (b := true) rfl rfl rfl) rfl rfl (d_skip rfl (wog (b := true) rfl rfl rfl) rfl rfl (dV rfl rfl (fun zw hx => py_pickT rfl rfl) (dV rfl rfl (fun zw hx => py_move rfl) (d_skip rfl (wog (b := true) rfl rfl rfl) rfl rfl (d_skip rfl (wog (b := true) rfl rfl rfl) rfl rfl (d_skip rfl (wog (b := true) rfl rfl rfl) rfl rfl (d_skip rfl (wou rfl rfl rfl) rfl rfl (d_skip rfl (wou rfl rfl rfl) rfl rfl (d_skip rfl (wou rfl rfl rfl) rfl rfl (d_skip rfl (wou rfl rfl rfl) rfl rfl (d_skip rfl (wog (b := true) rfl rfl rfl) rfl rfl (dV rfl rfl (fun zw hx => py_pickT rfl rfl) (dV rfl rfl (fun zw hx => py_move rfl) (d_skip rfl (wog (b := true) rfl rfl rfl) rfl rfl (d_skip rfl (wog (b := true) rfl rfl rfl) rfl rfl (d_skip rfl (wog (b := true) rfl rfl rfl) rfl rfl (d_skip rfl (wog (b := true) rfl rfl rfl) rfl rfl (d_end rfl (wn rfl) rfl rfl (py_pickT rfl rfl) (d_nil (W_ift rfl (W_sr (sV rfl (py_assign rfl) (s_nil (W_ret (hQ _ _ (fin1 Tryz.results82 rfl ?_)))))))))))))))))))))))))))))))))))))))))
   exact ⟨H4.ext, congrArg (Value.int .i64) ((if_neg (by omega)).trans (if_neg (by rw [← fine_eq]; first | (simp_all <;> omega) | (cases hh : z.On <;> simp_all <;> omega)))).symm⟩
  ·try simp only [decide_eq_true_eq, decide_eq_false_iff_not] at hg1
   refine d_val rfl (wg rfl rfl rfl) rfl rfl (fun zw hx => py_field Tryz.underlying37 rfl Tryz.sizeOf25 rfl rfl) (d_val rfl (wg rfl rfl rfl) rfl rfl (fun zw hx => py_load Tryz.underlying25 rfl rfl (cell_atL (hx.heap (H3.box 0 rfl)) rfl)) (d_val rfl (wg rfl rfl rfl) rfl rfl (fun zw hx => py_field Tryz.underlying37 rfl Tryz.sizeOf33 rfl rfl) (d_val rfl (wg rfl rfl rfl) rfl rfl (fun zw hx => py_loadS Tryz.underlying33 rfl Tryz.sizeOf33 rfl rfl (At.sub (hx.heap (H3.box 0 rfl)) 9)) (d_call rfl (wg rfl rfl rfl) rfl rfl (pc_call Tryz.func83 rfl Tryz_nm83 rfl) (Tryz_spec_l5All (by assumption)) (fun hS _ _ r _ => hS.trans r.1.no) (fun v3 w4 r3 => ?_)))))
   obtain ⟨e4, rfl⟩ := r3
   have H5 := H4.to e4
   refine d_val rfl (wg rfl rfl rfl) rfl rfl (fun zw hx => py_sub rfl rfl (in64 ⟨by omega, by omega⟩)) (d_call rfl (wg rfl rfl rfl) rfl rfl (pc_call Tryz.func148 rfl Tryz_nm148 rfl) (Tryz_spec_l5Apart (H5.sees 1 rfl)) (fun hS _ _ r _ => hS.trans r.1.no) (fun v4 w5 r4 => ?_))
   obtain ⟨e5, rfl⟩ := r4
   have H6 := H5.to e5
   refine d_val rfl (wg rfl rfl rfl) rfl rfl (fun zw hx => py_not rfl) (dV rfl rfl (fun zw hx => py_pickF rfl rfl) (dV rfl rfl (fun zw hx => py_move rfl) (d_case (t := 27) rfl (fun hg2 => ?_) (fun hg2 => ?_))))
   ·try simp only [decide_eq_true_eq, decide_eq_false_iff_not] at hg2
    refine d_skip rfl (wog (b := true) rfl rfl rfl) rfl rfl (d_skip rfl (wog (b := true) rfl rfl rfl) rfl rfl (d_skip rfl (wog (b := true) rfl rfl rfl) rfl rfl (d_skip rfl (wog (b := true) rfl rfl rfl) rfl rfl (d_skip rfl (wog (b := true) rfl rfl rfl) rfl rfl (d_skip rfl (wog (b := true) rfl rfl rfl) rfl rfl (d_skip rfl (wog (b := true) rfl rfl rfl) rfl rfl (dV rfl rfl (fun zw hx => py_pickT rfl rfl) (dV rfl rfl (fun zw hx => py_move rfl) (d_skip rfl (wog (b := true) rfl rfl rfl) rfl rfl (d_skip rfl (wog (b := true) rfl rfl rfl) rfl rfl (d_skip rfl (wog (b := true) rfl rfl rfl) rfl rfl (d_skip rfl (wou rfl rfl rfl) rfl rfl (d_skip rfl (wou rfl rfl rfl) rfl rfl (d_skip rfl (wou rfl rfl rfl) rfl rfl (d_skip rfl (wou rfl rfl rfl) rfl rfl (d_skip rfl (wog (b := true) rfl rfl rfl) rfl rfl (dV rfl rfl (fun zw hx => py_pickT rfl rfl) (dV rfl rfl (fun zw hx => py_move rfl) (d_skip rfl (wog (b := true) rfl rfl rfl) rfl rfl (d_skip rfl (wog (b := true) rfl rfl rfl) rfl rfl (d_skip rfl (wog (b := true) rfl rfl rfl) rfl rfl (d_skip rfl (wog (b := true) rfl rfl rfl) rfl rfl (d_end rfl (wn rfl) rfl rfl (py_pickT rfl rfl) (d_nil (W_ift rfl (W_sr (sV rfl (py_assign rfl) (s_nil (W_ret (hQ _ _ (fin1 Tryz.results82 rfl ?_)))))))))))))))))))))))))))))))
    exact ⟨H6.ext, congrArg (Value.int .i64) ((if_neg (by omega)).trans (if_neg (by rw [← fine_eq]; first | (simp_all <;> omega) | (cases hh : z.On <;> simp_all <;> omega)))).symm⟩
   ·try simp only [decide_eq_true_eq, decide_eq_false_iff_not] at hg2
    refine d_val rfl (wg rfl rfl rfl) rfl rfl (fun zw hx => py_field Tryz.underlying37 rfl Tryz.sizeOf25 rfl rfl) (d_val rfl (wg rfl rfl rfl) rfl rfl (fun zw hx => py_load Tryz.underlying25 rfl rfl (cell_atL (hx.heap (H3.box 0 rfl)) rfl)) (d_val rfl (wg rfl rfl rfl) rfl rfl (fun zw hx => py_len Tryz.underlying25 rfl) (d_val rfl (wg rfl rfl rfl) rfl rfl (fun zw hx => py_field Tryz.underlying37 rfl Tryz.sizeOf33 rfl rfl) (d_val rfl (wg rfl rfl rfl) rfl rfl (fun zw hx => py_field Tryz.underlying33 rfl Tryz.sizeOf2 rfl rfl) (d_val rfl (wg rfl rfl rfl) rfl rfl (fun zw hx => py_load Tryz.underlying2 rfl rfl (cell_atL (hx.heap (H3.box 0 rfl)) rfl)) (d_val rfl (wg rfl rfl rfl) rfl rfl (fun zw hx => py_gtr rfl rfl) (dV rfl rfl (fun zw hx => py_pickF rfl rfl) (dV rfl rfl (fun zw hx => py_move rfl) (d_case (t := 36) rfl (fun hg3 => ?_) (fun hg3 => ?_))))))))))
    ·try simp only [decide_eq_true_eq, decide_eq_false_iff_not] at hg3
     refine d_skip rfl (wog (b := true) rfl rfl rfl) rfl rfl (d_skip rfl (wog (b := true) rfl rfl rfl) rfl rfl (d_skip rfl (wog (b := true) rfl rfl rfl) rfl rfl (d_skip rfl (wou rfl rfl rfl) rfl rfl (d_skip rfl (wou rfl rfl rfl) rfl rfl (d_skip rfl (wou rfl rfl rfl) rfl rfl (d_skip rfl (wou rfl rfl rfl) rfl rfl (d_skip rfl (wog (b := true) rfl rfl rfl) rfl rfl (dV rfl rfl (fun zw hx => py_pickT rfl rfl) (dV rfl rfl (fun zw hx => py_move rfl) (d_skip rfl (wog (b := true) rfl rfl rfl) rfl rfl (d_skip rfl (wog (b := true) rfl rfl rfl) rfl rfl (d_skip rfl (wog (b := true) rfl rfl rfl) rfl rfl (d_skip rfl (wog (b := true) rfl rfl rfl) rfl rfl (d_end rfl (wn rfl) rfl rfl (py_pickT rfl rfl) (d_nil (W_ift rfl (W_sr (sV rfl (py_assign rfl) (s_nil (W_ret (hQ _ _ (fin1 Tryz.results82 rfl ?_))))))))))))))))))))))
     exact ⟨H6.ext, congrArg (Value.int .i64) ((if_neg (by omega)).trans (if_neg (by rw [← fine_eq]; first | (simp_all <;> omega) | (cases hh : z.On <;> simp_all <;> omega)))).symm⟩
    ·try simp only [decide_eq_true_eq, decide_eq_false_iff_not] at hg3
     refine d_val rfl (wg rfl rfl rfl) rfl rfl (fun zw hx => py_field Tryz.underlying37 rfl Tryz.sizeOf4 rfl rfl) (d_val rfl (wg rfl rfl rfl) rfl rfl (fun zw hx => py_load Tryz.underlying4 rfl rfl (cell_atL (hx.heap (H3.box 0 rfl)) rfl)) (d_val rfl (wg rfl rfl rfl) rfl rfl (fun zw hx => py_move rfl) (d_case (t := 39) rfl (fun hg4 => ?_) (fun hg4 => ?_))))
     ·try simp only [decide_eq_true_eq, decide_eq_false_iff_not] at hg4
      refine d_val rfl (wg rfl rfl rfl) rfl rfl (fun zw hx => py_field Tryz.underlying37 rfl Tryz.sizeOf25 rfl rfl) (d_val rfl (wg rfl rfl rfl) rfl rfl (fun zw hx => py_load Tryz.underlying25 rfl rfl (cell_atL (hx.heap (H3.box 0 rfl)) rfl)) (d_val rfl (wg rfl rfl rfl) rfl rfl (fun zw hx => py_len Tryz.underlying25 rfl) (d_val rfl (wg rfl rfl rfl) rfl rfl (fun zw hx => py_gtr rfl rfl) (d_val rfl (wg rfl rfl rfl) rfl rfl (fun zw hx => py_pickT rfl rfl) (dV rfl rfl (fun zw hx => py_pickF rfl rfl) (dV rfl rfl (fun zw hx => py_move rfl) (d_case (t := 46) rfl (fun hg5 => ?_) (fun hg5 => ?_))))))))
      ·try simp only [decide_eq_true_eq, decide_eq_false_iff_not] at hg5
       refine d_skip rfl (wog (b := true) rfl rfl rfl) rfl rfl (d_skip rfl (wog (b := true) rfl rfl rfl) rfl rfl (d_skip rfl (wog (b := true) rfl rfl rfl) rfl rfl (d_skip rfl (wog (b := true) rfl rfl rfl) rfl rfl (d_end rfl (wn rfl) rfl rfl (py_pickT rfl rfl) (d_nil (W_ift rfl (W_sr (sV rfl (py_assign rfl) (s_nil (W_ret (hQ _ _ (fin1 Tryz.results82 rfl ?_))))))))))))
       exact ⟨H6.ext, congrArg (Value.int .i64) ((if_neg (by omega)).trans (if_neg (by rw [← fine_eq]; first | (simp_all <;> omega) | (cases hh : z.On <;> simp_all <;> omega)))).symm⟩
      ·try simp only [decide_eq_true_eq, decide_eq_false_iff_not] at hg5
       refine d_val rfl (wg rfl rfl rfl) rfl rfl (fun zw hx => py_field Tryz.underlying37 rfl Tryz.sizeOf35 rfl rfl) (d_val rfl (wg rfl rfl rfl) rfl rfl (fun zw hx => py_load Tryz.underlying35 rfl rfl (cell_atL (hx.heap (H3.box 0 rfl)) rfl)) (d_val rfl (wg rfl rfl rfl) rfl rfl (fun zw hx => py_len Tryz.underlying35 rfl) (d_val rfl (wg rfl rfl rfl) rfl rfl (fun zw hx => py_neq rfl rfl) (d_end rfl (wn rfl) rfl rfl (py_pickF rfl rfl) (d_nil (W_ifd rfl (fun c2 => ?_) (fun c2 => ?_)))))))
       ·refine W_sr (sV rfl (py_assign rfl) (s_nil (W_ret (hQ _ _ (fin1 Tryz.results82 rfl ?_)))))
        exact ⟨H6.ext, congrArg (Value.int .i64) ((if_neg (by omega)).trans (if_neg (by rw [← fine_eq]; first | (simp_all <;> omega) | (cases hh : z.On <;> simp_all <;> omega)))).symm⟩
       ·refine W_skip (W_seq (W_seq ?_))
        have hF : (groupsOK z && onOK z && decide (z.Tapes.length = 2)) = true := by rw [← fine_eq]; simp_all <;> omega
        have h2 : z.Tapes.length = 2 := by simp_all <;> omega
        obtain ⟨eb1, eo1, es1, ef1, ee1, ec1, eO1, eH1, em1⟩ := elem_st (H6.seen 2 rfl) 0 (by omega)
        obtain ⟨ea1, ek1, eg1, rfl, eq1, eK1, eo2⟩ := own_Tape eO1
        have eP1 := H6.look1 2 rfl eo2 (fun b hb => eH1 b (by rw [eq1]; simp [hb]))
        have eL1 := own_len_le eo2
        unfold maxLen at eL1
        refine W_reg (sV rfl (py_field Tryz.underlying37 rfl Tryz.sizeOf35 rfl rfl) (sV rfl (py_load Tryz.underlying35 rfl rfl (cell_atL (eP1.box 0 rfl) rfl)) (sV rfl (py_elz Tryz.underlying35 Tryz.sizeOf155 rfl rfl ee1 0 (by omega) (by omega)) (sV rfl (py_field Tryz.underlying155 rfl Tryz.sizeOf82 rfl rfl) (sV rfl (py_load Tryz.underlying82 rfl rfl (at_cell ec1 1 rfl)) (sV rfl (py_len Tryz.underlying82 rfl) (sV rfl (py_gtr rfl rfl) (sV rfl (py_move rfl) (s_case (t := 59) rfl (fun hg6 => ?_) (fun hg6 => ?_))))))))))
        ·try simp only [decide_eq_true_eq, decide_eq_false_iff_not] at hg6
         refine s_skip (wog (b := true) rfl rfl rfl) rfl rfl (s_skip (wog (b := true) rfl rfl rfl) rfl rfl (s_skip (wog (b := true) rfl rfl rfl) rfl rfl (s_skip (wog (b := true) rfl rfl rfl) rfl rfl (s_skip (wog (b := true) rfl rfl rfl) rfl rfl (s_skip (wog (b := true) rfl rfl rfl) rfl rfl (s_skip (wog (b := true) rfl rfl rfl) rfl rfl (sV rfl (py_pickT rfl rfl) (s_nil (W_ift rfl (W_seq ?_))))))))))
         have tq := tapesF_many (z := z) (any_two h2 (by simp only [manyRecs]; simp_all <;> omega))
         refine W_reg (sV rfl (py_assign rfl) (s_nil (W_ret (hQ _ _ (fin1 Tryz.results82 rfl ?_)))))
         exact ⟨eP1.ext, congrArg (Value.int .i64) ((if_neg (by omega)).trans ((if_pos hF).trans ((if_pos (by omega)).trans tq))).symm⟩
        ·try simp only [decide_eq_true_eq, decide_eq_false_iff_not] at hg6
         refine s_val (wg rfl rfl rfl) rfl rfl (py_field Tryz.underlying37 rfl Tryz.sizeOf35 rfl rfl) (s_val (wg rfl rfl rfl) rfl rfl (py_load Tryz.underlying35 rfl rfl (cell_atL (eP1.box 0 rfl) rfl)) ?_)
         obtain ⟨eb2, eo3, es2, ef2, ee2, ec2, eO2, eH2, em2⟩ := elem_st (eP1.seen 2 rfl) 1 (by omega)
         obtain ⟨ea2, ek2, eg2, rfl, eq2, eK2, eo4⟩ := own_Tape eO2
         have eP2 := eP1.look1 2 rfl eo4 (fun b hb => eH2 b (by rw [eq2]; simp [hb]))
         have eL2 := own_len_le eo4
         unfold maxLen at eL2
         refine s_val (wg rfl rfl rfl) rfl rfl (py_elz Tryz.underlying35 Tryz.sizeOf155 rfl rfl ee2 1 (by omega) (by omega)) (s_val (wg rfl rfl rfl) rfl rfl (py_field Tryz.underlying155 rfl Tryz.sizeOf82 rfl rfl) (s_val (wg rfl rfl rfl) rfl rfl (py_load Tryz.underlying82 rfl rfl (at_cell ec2 1 rfl)) (s_val (wg rfl rfl rfl) rfl rfl (py_len Tryz.underlying82 rfl) (s_val (wg rfl rfl rfl) rfl rfl (py_gtr rfl rfl) (sV rfl (py_pickF rfl rfl) (s_nil (W_ifd rfl (fun c3 => ?_) (fun c3 => ?_))))))))
         ·refine W_seq ?_
          have tq := tapesF_many (z := z) (any_two h2 (by simp only [manyRecs]; simp_all <;> omega))
          refine W_reg (sV rfl (py_assign rfl) (s_nil (W_ret (hQ _ _ (fin1 Tryz.results82 rfl ?_)))))
          exact ⟨eP2.ext, congrArg (Value.int .i64) ((if_neg (by omega)).trans ((if_pos hF).trans ((if_pos (by omega)).trans tq))).symm⟩
         ·refine W_skip (W_seq (W_seq ?_))
          have hM : z.Tapes.any manyRecs = false := any_neither h2 (by simp only [manyRecs]; simp_all <;> omega) (by simp only [manyRecs]; simp_all <;> omega)
          refine W_reg (sV rfl (py_assign rfl) (s_nil (W_block (W_loopS (γ := Nat) eP2 [(1, _)] ⟨rfl, trivial⟩ (fun k => [(4, .int .i64 k)]) (fun k => k ≤ z.Tapes.length ∧ tapeF z.Shape z.Tapes k = 0) (fun k => z.Tapes.length - k) 0 ⟨rfl, trivial⟩ ⟨by omega, rfl⟩ (fun k w6 H7 ⟨hk, hkz⟩ => ?_)))))
          dsimp only [List.cons_append, List.nil_append]
          refine W_seq (W_sr (sV rfl (py_move rfl) (sV rfl (py_lss rfl rfl) (s_nil (W_ifd rfl (fun c4 => ?_) (fun c4 => ?_))))))
          ·refine W_skip (W_seq (W_block (W_sr (sV rfl (py_assign rfl) (s_nil (W_block (W_loopS (γ := Nat) H7 [(1, _), (4, _)] ⟨rfl, rfl, trivial⟩ (fun k2 => [(5, .int .i64 k2)]) (fun k2 => k2 ≤ (z.Tapes.getD k default).Recs.length ∧ recsF z.Shape (z.Tapes.getD k default).Recs k2 = 0) (fun k2 => (z.Tapes.getD k default).Recs.length - k2) 0 ⟨rfl, trivial⟩ ⟨by omega, rfl⟩ (fun k2 w7 H8 ⟨hk2, hk2z⟩ => ?_))))))))
           dsimp only [List.cons_append, List.nil_append]
           refine W_seq (W_seq ?_)
           obtain ⟨eb3, eo5, es3, ef3, ee3, ec3, eO3, eH3, em3⟩ := elem_st (H8.seen 2 rfl) k (by omega)
           obtain ⟨ea3, ek3, eg3, rfl, eq3, eK3, eo6⟩ := own_Tape eO3
           have eP3 := H8.look1 2 rfl eo6 (fun b hb => eH3 b (by rw [eq3]; simp [hb]))
           have eL3 := own_len_le eo6
           unfold maxLen at eL3
           refine W_reg (sV rfl (py_move rfl) (sV rfl (py_field Tryz.underlying37 rfl Tryz.sizeOf35 rfl rfl) (sV rfl (py_load Tryz.underlying35 rfl rfl (cell_atL (eP3.box 0 rfl) rfl)) (sV rfl (py_move rfl) (sV rfl (py_elz Tryz.underlying35 Tryz.sizeOf155 rfl rfl ee3 k (by omega) (by omega)) (sV rfl (py_field Tryz.underlying155 rfl Tryz.sizeOf82 rfl rfl) (sV rfl (py_load Tryz.underlying82 rfl rfl (at_cell ec3 1 rfl)) (sV rfl (py_len Tryz.underlying82 rfl) (sV rfl (py_lss rfl rfl) (s_nil (W_ifd rfl (fun c5 => ?_) (fun c5 => ?_))))))))))))
           ·refine W_skip (W_seq (W_block (W_seq ?_)))
            obtain ⟨eb4, eo7, es4, ef4, ee4, ec4, eO4, eH4, em4⟩ := elem_st (eP3.seen 2 rfl) k (by omega)
            obtain ⟨ea4, ek4, eg4, rfl, eq4, eK4, eo8⟩ := own_Tape eO4
            have eP4 := eP3.look1 2 rfl eo8 (fun b hb => eH4 b (by rw [eq4]; simp [hb]))
            have eL4 := own_len_le eo8
            unfold maxLen at eL4
            obtain ⟨eb5, eo9, es5, ef5, ee5, ec5, eO5, eH5, em5⟩ := elem_st (eP4.seen 6 rfl) k2 (by omega)
            obtain ⟨ea5, ek5, ea6, ek6, ea7, ek7, eg5, eg6, eg7, rfl, eq5, eK5, eo10, eo11, eo12⟩ := own_Rec eO5
            have eK5U := eK5
            unfold Rec.Ok at eK5U
            try unfold I64ok at eK5U
            try unfold maxLen at eK5U
            have eP5 := eP4.look1 6 rfl eo10 (fun b hb => eH5 b (by rw [eq5]; simp [hb]))
            have eL5 := own_len_le eo10
            unfold maxLen at eL5
            have eP6 := eP5.look1 6 rfl eo11 (fun b hb => eH5 b (by rw [eq5]; simp [hb]))
            have eL6 := own_len_le eo11
            unfold maxLen at eL6
            have eP7 := eP6.look1 6 rfl eo12 (fun b hb => eH5 b (by rw [eq5]; simp [hb]))
            have eL7 := own_len_le eo12
            unfold maxLen at eL7
            refine W_drw (S := Ext No _) [(0, true), (1, true), (2, true), (3, true), (4, true), (5, true), (6, true), (7, true), (8, true), (9, true), (10, true), (11, false), (12, false)] (by kernel_rfl) (by kernel_rfl) (by kernel_rfl) rfl (fun _ => Ext.refl.drawn _) (fun q2 => ?_)
            have H9 := eP7.drawn q2
            refine dV rfl rfl (fun zw hx => py_field Tryz.underlying37 rfl Tryz.sizeOf33 rfl rfl) (dV rfl rfl (fun zw hx => py_loadS Tryz.underlying33 rfl Tryz.sizeOf33 rfl rfl (At.sub (hx.heap (H9.box 0 rfl)) 9)) (dV rfl rfl (fun zw hx => py_field Tryz.underlying37 rfl Tryz.sizeOf35 rfl rfl) (dV rfl rfl (fun zw hx => py_load Tryz.underlying35 rfl rfl (cell_atL (hx.heap (H9.box 0 rfl)) rfl)) (dV rfl rfl (fun zw hx => py_move rfl) (dV rfl rfl (fun zw hx => py_elz Tryz.underlying35 Tryz.sizeOf155 rfl rfl ee4 k (by omega) (by omega)) (dV rfl rfl (fun zw hx => py_field Tryz.underlying155 rfl Tryz.sizeOf82 rfl rfl) (dV rfl rfl (fun zw hx => py_load Tryz.underlying82 rfl rfl (at_cell (hx.at ec4) 1 rfl)) (dV rfl rfl (fun zw hx => py_move rfl) (dV rfl rfl (fun zw hx => py_elz Tryz.underlying82 Tryz.sizeOf66 rfl rfl ee5 k2 (by omega) (by omega)) (dV rfl rfl (fun zw hx => py_loadS Tryz.underlying66 rfl Tryz.sizeOf66 rfl rfl (hx.at ec5)) (d_call rfl (wn rfl) rfl rfl (pc_call Tryz.func108 rfl Tryz_nm108 rfl) (Tryz_spec_RecFault (by assumption) (H9.sees 7 rfl) (H9.sees 8 rfl) (H9.sees 9 rfl)) (fun hS _ _ r _ => hS.trans r.1.no) (fun v5 w8 r5 => ?_))))))))))))
            obtain ⟨e6, rfl⟩ := r5
            have H10 := H9.to e6
            refine d_end rfl (wn rfl) rfl rfl (py_assign rfl) (d_nil (W_sr (sV rfl (py_move rfl) (sV rfl (py_neq rfl rfl) (s_nil (W_ifd rfl (fun c6 => ?_) (fun c6 => ?_)))))))
            ·refine W_sr (sV rfl (py_move rfl) (sV rfl (py_assign rfl) (s_nil (W_ret (hQ _ _ (fin1 Tryz.results82 rfl ?_))))))
             have tq := tapesF_rec hM (k := k) (k2 := k2) (by omega) hkz (by omega) hk2z (by omega)
             exact ⟨H10.ext, congrArg (Value.int .i64) ((if_neg (by omega)).trans (((if_neg (by omega)).trans ((if_pos hF).trans ((if_pos (by omega)).trans tq)))).symm)⟩
            ·refine W_skip (W_reg (sV rfl (py_move rfl) (sV rfl (py_add rfl rfl (in64 ⟨by omega, by omega⟩)) (sV rfl (py_assign rfl) (s_nil (⟨k2 + 1, ⟨rfl, rfl, rfl, trivial⟩, ⟨(H10.ftake 5), by omega, (recsF_next hk2z).trans (by omega)⟩, by dsimp only; omega⟩))))))
           ·refine W_exit (W_reg (sV rfl (py_move rfl) (sV rfl (py_add rfl rfl (in64 ⟨by omega, by omega⟩)) (sV rfl (py_assign rfl) (s_nil ?_)))))
            obtain rfl : k2 = (z.Tapes.getD k default).Recs.length := by omega
            refine ⟨k + 1, ⟨rfl, rfl, trivial⟩, ⟨(eP3.ftake 5), by omega, (tapeF_next hkz).trans hk2z⟩, by dsimp only; omega⟩
          ·refine W_exit (W_seq (W_seq ?_))
           obtain rfl : k = z.Tapes.length := by omega
           have hAll := hkz
           refine W_reg (sV rfl (py_assign rfl) (s_nil (W_block (W_loopS (γ := Nat) H7 [(1, _)] ⟨rfl, trivial⟩ (fun k => [(7, .int .i64 k)]) (fun k => k ≤ 2 ∧ (∀ i, i < k → wipedFull (z.Tapes.getD i default) = false)) (fun k => 2 - k) 0 ⟨rfl, trivial⟩ ⟨by omega, fun i hi => by omega⟩ (fun k w9 H11 ⟨hk, hek⟩ => ?_)))))
           dsimp only [List.cons_append, List.nil_append]
           refine W_seq (W_sr (sV rfl (py_move rfl) (sV rfl (py_lss rfl rfl) (s_nil (W_ifd rfl (fun c7 => ?_) (fun c7 => ?_))))))
           ·refine W_skip (W_seq (W_block (W_seq ?_)))
            obtain ⟨eb6, eo13, es6, ef6, ee6, ec6, eO6, eH6, em6⟩ := elem_st (H11.seen 2 rfl) k (by omega)
            obtain ⟨ea8, ek8, eg8, rfl, eq6, eK6, eo14⟩ := own_Tape eO6
            have eP8 := H11.look1 2 rfl eo14 (fun b hb => eH6 b (by rw [eq6]; simp [hb]))
            have eL8 := own_len_le eo14
            unfold maxLen at eL8
            refine W_reg (sV rfl (py_field Tryz.underlying37 rfl Tryz.sizeOf35 rfl rfl) (sV rfl (py_load Tryz.underlying35 rfl rfl (cell_atL (eP8.box 0 rfl) rfl)) (sV rfl (py_move rfl) (sV rfl (py_elz Tryz.underlying35 Tryz.sizeOf155 rfl rfl ee6 k (by omega) (by omega)) (sV rfl (py_field Tryz.underlying155 rfl Tryz.sizeOf4 rfl rfl) (sV rfl (py_load Tryz.underlying4 rfl rfl (at_cell ec6 0 rfl)) (sV rfl (py_move rfl) (s_case (t := 108) rfl (fun hg7 => ?_) (fun hg7 => ?_)))))))))
            ·try simp only [decide_eq_true_eq, decide_eq_false_iff_not] at hg7
             refine s_val (wg rfl rfl rfl) rfl rfl (py_field Tryz.underlying37 rfl Tryz.sizeOf35 rfl rfl) (s_val (wg rfl rfl rfl) rfl rfl (py_load Tryz.underlying35 rfl rfl (cell_atL (eP8.box 0 rfl) rfl)) (s_val (wg rfl rfl rfl) rfl rfl (py_move rfl) (s_val (wg rfl rfl rfl) rfl rfl (py_elz Tryz.underlying35 Tryz.sizeOf155 rfl rfl ee6 k (by omega) (by omega)) (s_val (wg rfl rfl rfl) rfl rfl (py_field Tryz.underlying155 rfl Tryz.sizeOf82 rfl rfl) (s_val (wg rfl rfl rfl) rfl rfl (py_load Tryz.underlying82 rfl rfl (at_cell ec6 1 rfl)) (s_val (wg rfl rfl rfl) rfl rfl (py_len Tryz.underlying82 rfl) (s_val (wg rfl rfl rfl) rfl rfl (py_gtr rfl rfl) (sV rfl (py_pickT rfl rfl) (s_nil (W_ifd rfl (fun c8 => ?_) (fun c8 => ?_)))))))))))
             ·refine W_sr (sV rfl (py_assign rfl) (s_nil (W_ret (hQ _ _ (fin1 Tryz.results82 rfl ?_)))))
              have tq := tapesF_full hM hAll (any_at k (by omega) (by rw [wipedFull]; simp_all <;> omega))
              exact ⟨eP8.ext, congrArg (Value.int .i64) ((if_neg (by omega)).trans ((if_pos hF).trans ((if_pos (by omega)).trans tq))).symm⟩
             ·refine W_skip (W_reg (sV rfl (py_move rfl) (sV rfl (py_add rfl rfl (in64 ⟨by omega, by omega⟩)) (sV rfl (py_assign rfl) (s_nil (⟨k + 1, ⟨rfl, rfl, trivial⟩, ⟨(eP8.ftake 5), by omega, fun i hi => ?_⟩, by dsimp only; omega⟩))))))
              by_cases e : i = k
              ·subst e; rw [wipedFull]; simp_all <;> omega
              ·exact hek i (by omega)
            ·try simp only [decide_eq_true_eq, decide_eq_false_iff_not] at hg7
             refine s_skip (wog (b := false) rfl rfl rfl) rfl rfl (s_skip (wog (b := false) rfl rfl rfl) rfl rfl (s_skip (wog (b := false) rfl rfl rfl) rfl rfl (s_skip (wog (b := false) rfl rfl rfl) rfl rfl (s_skip (wog (b := false) rfl rfl rfl) rfl rfl (s_skip (wog (b := false) rfl rfl rfl) rfl rfl (s_skip (wog (b := false) rfl rfl rfl) rfl rfl (s_skip (wog (b := false) rfl rfl rfl) rfl rfl (sV rfl (py_pickF rfl rfl) (s_nil (W_iff rfl (W_skip (W_reg (sV rfl (py_move rfl) (sV rfl (py_add rfl rfl (in64 ⟨by omega, by omega⟩)) (sV rfl (py_assign rfl) (s_nil (⟨k + 1, ⟨rfl, rfl, trivial⟩, ⟨(eP8.ftake 5), by omega, fun i hi => ?_⟩, by dsimp only; omega⟩)))))))))))))))))
             by_cases e : i = k
             ·subst e; rw [wipedFull]; simp_all <;> omega
             ·exact hek i (by omega)
           ·refine W_exit (W_seq (W_seq ?_))
            have tq := tapesF_ok hM hAll (any_none (fun i hi => hek i (by omega)))
            refine W_reg (sV rfl (py_field Tryz.underlying37 rfl Tryz.sizeOf2 rfl rfl) (sV rfl (py_load Tryz.underlying2 rfl rfl (cell_atL (H11.box 0 rfl) rfl)) (s_call (wn rfl) rfl rfl (pc_call Tryz.func149 rfl Tryz_nm149 rfl) Tryz_spec_l1In (fun v6 w10 r6 => ?_))))
            obtain ⟨e7, rfl⟩ := r6
            have H12 := H11.to e7
            refine sV rfl (py_not rfl) (sV rfl (py_move rfl) (s_case (t := 122) rfl (fun hg8 => ?_) (fun hg8 => ?_)))
            ·try simp only [decide_eq_true_eq, decide_eq_false_iff_not] at hg8
             refine s_skip (wog (b := true) rfl rfl rfl) rfl rfl (s_skip (wog (b := true) rfl rfl rfl) rfl rfl (s_skip (wog (b := true) rfl rfl rfl) rfl rfl (s_skip (wog (b := true) rfl rfl rfl) rfl rfl (sV rfl (py_pickT rfl rfl) (s_nil (W_ift rfl (W_sr (sV rfl (py_assign rfl) (s_nil (W_ret (hQ _ _ (fin1 Tryz.results82 rfl ?_))))))))))))
             exact ⟨H12.ext, congrArg (Value.int .i64) ((if_neg (by omega)).trans ((if_pos hF).trans ((if_neg (by omega)).trans (if_neg (by simp_all <;> omega))))).symm⟩
            ·try simp only [decide_eq_true_eq, decide_eq_false_iff_not] at hg8
             refine s_val (wg rfl rfl rfl) rfl rfl (py_field Tryz.underlying37 rfl Tryz.sizeOf2 rfl rfl) (s_val (wg rfl rfl rfl) rfl rfl (py_load Tryz.underlying2 rfl rfl (cell_atL (H12.box 0 rfl) rfl)) (s_call (wg rfl rfl rfl) rfl rfl (pc_call Tryz.func149 rfl Tryz_nm149 rfl) Tryz_spec_l1In (fun v7 w11 r7 => ?_)))
             obtain ⟨e8, rfl⟩ := r7
             have H13 := H12.to e8
             refine s_val (wg rfl rfl rfl) rfl rfl (py_not rfl) (sV rfl (py_pickF rfl rfl) (s_nil (W_if rfl (fun c9 => ?_) (fun c9 => ?_))))
             ·refine W_sr (sV rfl (py_assign rfl) (s_nil (W_ret (hQ _ _ (fin1 Tryz.results82 rfl ?_)))))
              exact ⟨H13.ext, congrArg (Value.int .i64) ((if_neg (by omega)).trans ((if_pos hF).trans ((if_neg (by omega)).trans (if_neg (by simp_all <;> omega))))).symm⟩
             ·refine W_skip (W_sr (sV rfl (py_assign rfl) (s_nil (W_ret (hQ _ _ (fin1 Tryz.results82 rfl ?_))))))
              exact ⟨H13.ext, congrArg (Value.int .i64) ((if_neg (by omega)).trans ((if_pos hF).trans ((if_neg (by omega)).trans (if_pos (by simp_all <;> omega))))).symm⟩
     ·try simp only [decide_eq_true_eq, decide_eq_false_iff_not] at hg4
      refine d_skip rfl (wog (b := false) rfl rfl rfl) rfl rfl (d_skip rfl (wog (b := false) rfl rfl rfl) rfl rfl (d_skip rfl (wog (b := false) rfl rfl rfl) rfl rfl (d_skip rfl (wog (b := false) rfl rfl rfl) rfl rfl (d_val rfl (wg rfl rfl rfl) rfl rfl (fun zw hx => py_pickF rfl rfl) (dV rfl rfl (fun zw hx => py_pickF rfl rfl) (dV rfl rfl (fun zw hx => py_move rfl) (d_val rfl (wg rfl rfl rfl) rfl rfl (fun zw hx => py_field Tryz.underlying37 rfl Tryz.sizeOf35 rfl rfl) (d_val rfl (wg rfl rfl rfl) rfl rfl (fun zw hx => py_load Tryz.underlying35 rfl rfl (cell_atL (hx.heap (H3.box 0 rfl)) rfl)) (d_val rfl (wg rfl rfl rfl) rfl rfl (fun zw hx => py_len Tryz.underlying35 rfl) (d_val rfl (wg rfl rfl rfl) rfl rfl (fun zw hx => py_neq rfl rfl) (d_end rfl (wn rfl) rfl rfl (py_pickF rfl rfl) (d_nil (W_ifd rfl (fun c10 => ?_) (fun c10 => ?_))))))))))))))
      ·refine W_sr (sV rfl (py_assign rfl) (s_nil (W_ret (hQ _ _ (fin1 Tryz.results82 rfl ?_)))))
       exact ⟨H6.ext, congrArg (Value.int .i64) ((if_neg (by omega)).trans (if_neg (by rw [← fine_eq]; first | (simp_all <;> omega) | (cases hh : z.On <;> simp_all <;> omega)))).symm⟩
      ·refine W_skip (W_seq (W_seq ?_))
       have hF : (groupsOK z && onOK z && decide (z.Tapes.length = 2)) = true := by rw [← fine_eq]; simp_all <;> omega
       have h2 : z.Tapes.length = 2 := by simp_all <;> omega
       obtain ⟨eb7, eo15, es7, ef7, ee7, ec7, eO7, eH7, em7⟩ := elem_st (H6.seen 2 rfl) 0 (by omega)
       obtain ⟨ea9, ek9, eg9, rfl, eq7, eK7, eo16⟩ := own_Tape eO7
       have eP9 := H6.look1 2 rfl eo16 (fun b hb => eH7 b (by rw [eq7]; simp [hb]))
       have eL9 := own_len_le eo16
       unfold maxLen at eL9
       refine W_reg (sV rfl (py_field Tryz.underlying37 rfl Tryz.sizeOf35 rfl rfl) (sV rfl (py_load Tryz.underlying35 rfl rfl (cell_atL (eP9.box 0 rfl) rfl)) (sV rfl (py_elz Tryz.underlying35 Tryz.sizeOf155 rfl rfl ee7 0 (by omega) (by omega)) (sV rfl (py_field Tryz.underlying155 rfl Tryz.sizeOf82 rfl rfl) (sV rfl (py_load Tryz.underlying82 rfl rfl (at_cell ec7 1 rfl)) (sV rfl (py_len Tryz.underlying82 rfl) (sV rfl (py_gtr rfl rfl) (sV rfl (py_move rfl) (s_case (t := 59) rfl (fun hg9 => ?_) (fun hg9 => ?_))))))))))
       ·try simp only [decide_eq_true_eq, decide_eq_false_iff_not] at hg9
        refine s_skip (wog (b := true) rfl rfl rfl) rfl rfl (s_skip (wog (b := true) rfl rfl rfl) rfl rfl (s_skip (wog (b := true) rfl rfl rfl) rfl rfl (s_skip (wog (b := true) rfl rfl rfl) rfl rfl (s_skip (wog (b := true) rfl rfl rfl) rfl rfl (s_skip (wog (b := true) rfl rfl rfl) rfl rfl (s_skip (wog (b := true) rfl rfl rfl) rfl rfl (sV rfl (py_pickT rfl rfl) (s_nil (W_ift rfl (W_seq ?_))))))))))
        have tq := tapesF_many (z := z) (any_two h2 (by simp only [manyRecs]; simp_all <;> omega))
        refine W_reg (sV rfl (py_assign rfl) (s_nil (W_ret (hQ _ _ (fin1 Tryz.results82 rfl ?_)))))
        exact ⟨eP9.ext, congrArg (Value.int .i64) ((if_neg (by omega)).trans ((if_pos hF).trans ((if_pos (by omega)).trans tq))).symm⟩
       ·try simp only [decide_eq_true_eq, decide_eq_false_iff_not] at hg9
        refine s_val (wg rfl rfl rfl) rfl rfl (py_field Tryz.underlying37 rfl Tryz.sizeOf35 rfl rfl) (s_val (wg rfl rfl rfl) rfl rfl (py_load Tryz.underlying35 rfl rfl (cell_atL (eP9.box 0 rfl) rfl)) ?_)
        obtain ⟨eb8, eo17, es8, ef8, ee8, ec8, eO8, eH8, em8⟩ := elem_st (eP9.seen 2 rfl) 1 (by omega)
        obtain ⟨ea10, ek10, eg10, rfl, eq8, eK8, eo18⟩ := own_Tape eO8
        have eP10 := eP9.look1 2 rfl eo18 (fun b hb => eH8 b (by rw [eq8]; simp [hb]))
        have eL10 := own_len_le eo18
        unfold maxLen at eL10
        refine s_val (wg rfl rfl rfl) rfl rfl (py_elz Tryz.underlying35 Tryz.sizeOf155 rfl rfl ee8 1 (by omega) (by omega)) (s_val (wg rfl rfl rfl) rfl rfl (py_field Tryz.underlying155 rfl Tryz.sizeOf82 rfl rfl) (s_val (wg rfl rfl rfl) rfl rfl (py_load Tryz.underlying82 rfl rfl (at_cell ec8 1 rfl)) (s_val (wg rfl rfl rfl) rfl rfl (py_len Tryz.underlying82 rfl) (s_val (wg rfl rfl rfl) rfl rfl (py_gtr rfl rfl) (sV rfl (py_pickF rfl rfl) (s_nil (W_ifd rfl (fun c11 => ?_) (fun c11 => ?_))))))))
        ·refine W_seq ?_
         have tq := tapesF_many (z := z) (any_two h2 (by simp only [manyRecs]; simp_all <;> omega))
         refine W_reg (sV rfl (py_assign rfl) (s_nil (W_ret (hQ _ _ (fin1 Tryz.results82 rfl ?_)))))
         exact ⟨eP10.ext, congrArg (Value.int .i64) ((if_neg (by omega)).trans ((if_pos hF).trans ((if_pos (by omega)).trans tq))).symm⟩
        ·refine W_skip (W_seq (W_seq ?_))
         have hM : z.Tapes.any manyRecs = false := any_neither h2 (by simp only [manyRecs]; simp_all <;> omega) (by simp only [manyRecs]; simp_all <;> omega)
         refine W_reg (sV rfl (py_assign rfl) (s_nil (W_block (W_loopS (γ := Nat) eP10 [(1, _)] ⟨rfl, trivial⟩ (fun k => [(4, .int .i64 k)]) (fun k => k ≤ z.Tapes.length ∧ tapeF z.Shape z.Tapes k = 0) (fun k => z.Tapes.length - k) 0 ⟨rfl, trivial⟩ ⟨by omega, rfl⟩ (fun k w12 H14 ⟨hk, hkz⟩ => ?_)))))
         dsimp only [List.cons_append, List.nil_append]
         refine W_seq (W_sr (sV rfl (py_move rfl) (sV rfl (py_lss rfl rfl) (s_nil (W_ifd rfl (fun c12 => ?_) (fun c12 => ?_))))))
         ·refine W_skip (W_seq (W_block (W_sr (sV rfl (py_assign rfl) (s_nil (W_block (W_loopS (γ := Nat) H14 [(1, _), (4, _)] ⟨rfl, rfl, trivial⟩ (fun k2 => [(5, .int .i64 k2)]) (fun k2 => k2 ≤ (z.Tapes.getD k default).Recs.length ∧ recsF z.Shape (z.Tapes.getD k default).Recs k2 = 0) (fun k2 => (z.Tapes.getD k default).Recs.length - k2) 0 ⟨rfl, trivial⟩ ⟨by omega, rfl⟩ (fun k2 w13 H15 ⟨hk2, hk2z⟩ => ?_))))))))
          dsimp only [List.cons_append, List.nil_append]
          refine W_seq (W_seq ?_)
          obtain ⟨eb9, eo19, es9, ef9, ee9, ec9, eO9, eH9, em9⟩ := elem_st (H15.seen 2 rfl) k (by omega)
          obtain ⟨ea11, ek11, eg11, rfl, eq9, eK9, eo20⟩ := own_Tape eO9
          have eP11 := H15.look1 2 rfl eo20 (fun b hb => eH9 b (by rw [eq9]; simp [hb]))
          have eL11 := own_len_le eo20
          unfold maxLen at eL11
          refine W_reg (sV rfl (py_move rfl) (sV rfl (py_field Tryz.underlying37 rfl Tryz.sizeOf35 rfl rfl) (sV rfl (py_load Tryz.underlying35 rfl rfl (cell_atL (eP11.box 0 rfl) rfl)) (sV rfl (py_move rfl) (sV rfl (py_elz Tryz.underlying35 Tryz.sizeOf155 rfl rfl ee9 k (by omega) (by omega)) (sV rfl (py_field Tryz.underlying155 rfl Tryz.sizeOf82 rfl rfl) (sV rfl (py_load Tryz.underlying82 rfl rfl (at_cell ec9 1 rfl)) (sV rfl (py_len Tryz.underlying82 rfl) (sV rfl (py_lss rfl rfl) (s_nil (W_ifd rfl (fun c13 => ?_) (fun c13 => ?_))))))))))))
          ·refine W_skip (W_seq (W_block (W_seq ?_)))
           obtain ⟨eb10, eo21, es10, ef10, ee10, ec10, eO10, eH10, em10⟩ := elem_st (eP11.seen 2 rfl) k (by omega)
           obtain ⟨ea12, ek12, eg12, rfl, eq10, eK10, eo22⟩ := own_Tape eO10
           have eP12 := eP11.look1 2 rfl eo22 (fun b hb => eH10 b (by rw [eq10]; simp [hb]))
           have eL12 := own_len_le eo22
           unfold maxLen at eL12
           obtain ⟨eb11, eo23, es11, ef11, ee11, ec11, eO11, eH11, em11⟩ := elem_st (eP12.seen 6 rfl) k2 (by omega)
           obtain ⟨ea13, ek13, ea14, ek14, ea15, ek15, eg13, eg14, eg15, rfl, eq11, eK11, eo24, eo25, eo26⟩ := own_Rec eO11
           have eK11U := eK11
           unfold Rec.Ok at eK11U
           try unfold I64ok at eK11U
           try unfold maxLen at eK11U
           have eP13 := eP12.look1 6 rfl eo24 (fun b hb => eH11 b (by rw [eq11]; simp [hb]))
           have eL13 := own_len_le eo24
           unfold maxLen at eL13
           have eP14 := eP13.look1 6 rfl eo25 (fun b hb => eH11 b (by rw [eq11]; simp [hb]))
           have eL14 := own_len_le eo25
           unfold maxLen at eL14
           have eP15 := eP14.look1 6 rfl eo26 (fun b hb => eH11 b (by rw [eq11]; simp [hb]))
           have eL15 := own_len_le eo26
           unfold maxLen at eL15
           refine W_drw (S := Ext No _) [(0, true), (1, true), (2, true), (3, true), (4, true), (5, true), (6, true), (7, true), (8, true), (9, true), (10, true), (11, false), (12, false)] (by kernel_rfl) (by kernel_rfl) (by kernel_rfl) rfl (fun _ => Ext.refl.drawn _) (fun q3 => ?_)
           have H16 := eP15.drawn q3
           refine dV rfl rfl (fun zw hx => py_field Tryz.underlying37 rfl Tryz.sizeOf33 rfl rfl) (dV rfl rfl (fun zw hx => py_loadS Tryz.underlying33 rfl Tryz.sizeOf33 rfl rfl (At.sub (hx.heap (H16.box 0 rfl)) 9)) (dV rfl rfl (fun zw hx => py_field Tryz.underlying37 rfl Tryz.sizeOf35 rfl rfl) (dV rfl rfl (fun zw hx => py_load Tryz.underlying35 rfl rfl (cell_atL (hx.heap (H16.box 0 rfl)) rfl)) (dV rfl rfl (fun zw hx => py_move rfl) (dV rfl rfl (fun zw hx => py_elz Tryz.underlying35 Tryz.sizeOf155 rfl rfl ee10 k (by omega) (by omega)) (dV rfl rfl (fun zw hx => py_field Tryz.underlying155 rfl Tryz.sizeOf82 rfl rfl) (dV rfl rfl (fun zw hx => py_load Tryz.underlying82 rfl rfl (at_cell (hx.at ec10) 1 rfl)) (dV rfl rfl (fun zw hx => py_move rfl) (dV rfl rfl (fun zw hx => py_elz Tryz.underlying82 Tryz.sizeOf66 rfl rfl ee11 k2 (by omega) (by omega)) (dV rfl rfl (fun zw hx => py_loadS Tryz.underlying66 rfl Tryz.sizeOf66 rfl rfl (hx.at ec11)) (d_call rfl (wn rfl) rfl rfl (pc_call Tryz.func108 rfl Tryz_nm108 rfl) (Tryz_spec_RecFault (by assumption) (H16.sees 7 rfl) (H16.sees 8 rfl) (H16.sees 9 rfl)) (fun hS _ _ r _ => hS.trans r.1.no) (fun v8 w14 r8 => ?_))))))))))))
           obtain ⟨e9, rfl⟩ := r8
           have H17 := H16.to e9
           refine d_end rfl (wn rfl) rfl rfl (py_assign rfl) (d_nil (W_sr (sV rfl (py_move rfl) (sV rfl (py_neq rfl rfl) (s_nil (W_ifd rfl (fun c14 => ?_) (fun c14 => ?_)))))))
           ·refine W_sr (sV rfl (py_move rfl) (sV rfl (py_assign rfl) (s_nil (W_ret (hQ _ _ (fin1 Tryz.results82 rfl ?_))))))
            have tq := tapesF_rec hM (k := k) (k2 := k2) (by omega) hkz (by omega) hk2z (by omega)
            exact ⟨H17.ext, congrArg (Value.int .i64) ((if_neg (by omega)).trans (((if_neg (by omega)).trans ((if_pos hF).trans ((if_pos (by omega)).trans tq)))).symm)⟩
           ·refine W_skip (W_reg (sV rfl (py_move rfl) (sV rfl (py_add rfl rfl (in64 ⟨by omega, by omega⟩)) (sV rfl (py_assign rfl) (s_nil (⟨k2 + 1, ⟨rfl, rfl, rfl, trivial⟩, ⟨(H17.ftake 5), by omega, (recsF_next hk2z).trans (by omega)⟩, by dsimp only; omega⟩))))))
          ·refine W_exit (W_reg (sV rfl (py_move rfl) (sV rfl (py_add rfl rfl (in64 ⟨by omega, by omega⟩)) (sV rfl (py_assign rfl) (s_nil ?_)))))
           obtain rfl : k2 = (z.Tapes.getD k default).Recs.length := by omega
           refine ⟨k + 1, ⟨rfl, rfl, trivial⟩, ⟨(eP11.ftake 5), by omega, (tapeF_next hkz).trans hk2z⟩, by dsimp only; omega⟩
         ·refine W_exit (W_seq (W_seq ?_))
          obtain rfl : k = z.Tapes.length := by omega
          have hAll := hkz
          refine W_reg (sV rfl (py_assign rfl) (s_nil (W_block (W_loopS (γ := Nat) H14 [(1, _)] ⟨rfl, trivial⟩ (fun k => [(7, .int .i64 k)]) (fun k => k ≤ 2 ∧ (∀ i, i < k → wipedFull (z.Tapes.getD i default) = false)) (fun k => 2 - k) 0 ⟨rfl, trivial⟩ ⟨by omega, fun i hi => by omega⟩ (fun k w15 H18 ⟨hk, hek⟩ => ?_)))))
          dsimp only [List.cons_append, List.nil_append]
          refine W_seq (W_sr (sV rfl (py_move rfl) (sV rfl (py_lss rfl rfl) (s_nil (W_ifd rfl (fun c15 => ?_) (fun c15 => ?_))))))
          ·refine W_skip (W_seq (W_block (W_seq ?_)))
           obtain ⟨eb12, eo27, es12, ef12, ee12, ec12, eO12, eH12, em12⟩ := elem_st (H18.seen 2 rfl) k (by omega)
           obtain ⟨ea16, ek16, eg16, rfl, eq12, eK12, eo28⟩ := own_Tape eO12
           have eP16 := H18.look1 2 rfl eo28 (fun b hb => eH12 b (by rw [eq12]; simp [hb]))
           have eL16 := own_len_le eo28
           unfold maxLen at eL16
           refine W_reg (sV rfl (py_field Tryz.underlying37 rfl Tryz.sizeOf35 rfl rfl) (sV rfl (py_load Tryz.underlying35 rfl rfl (cell_atL (eP16.box 0 rfl) rfl)) (sV rfl (py_move rfl) (sV rfl (py_elz Tryz.underlying35 Tryz.sizeOf155 rfl rfl ee12 k (by omega) (by omega)) (sV rfl (py_field Tryz.underlying155 rfl Tryz.sizeOf4 rfl rfl) (sV rfl (py_load Tryz.underlying4 rfl rfl (at_cell ec12 0 rfl)) (sV rfl (py_move rfl) (s_case (t := 108) rfl (fun hg10 => ?_) (fun hg10 => ?_)))))))))
           ·try simp only [decide_eq_true_eq, decide_eq_false_iff_not] at hg10
            refine s_val (wg rfl rfl rfl) rfl rfl (py_field Tryz.underlying37 rfl Tryz.sizeOf35 rfl rfl) (s_val (wg rfl rfl rfl) rfl rfl (py_load Tryz.underlying35 rfl rfl (cell_atL (eP16.box 0 rfl) rfl)) (s_val (wg rfl rfl rfl) rfl rfl (py_move rfl) (s_val (wg rfl rfl rfl) rfl rfl (py_elz Tryz.underlying35 Tryz.sizeOf155 rfl rfl ee12 k (by omega) (by omega)) (s_val (wg rfl rfl rfl) rfl rfl (py_field Tryz.underlying155 rfl Tryz.sizeOf82 rfl rfl) (s_val (wg rfl rfl rfl) rfl rfl (py_load Tryz.underlying82 rfl rfl (at_cell ec12 1 rfl)) (s_val (wg rfl rfl rfl) rfl rfl (py_len Tryz.underlying82 rfl) (s_val (wg rfl rfl rfl) rfl rfl (py_gtr rfl rfl) (sV rfl (py_pickT rfl rfl) (s_nil (W_ifd rfl (fun c16 => ?_) (fun c16 => ?_)))))))))))
            ·refine W_sr (sV rfl (py_assign rfl) (s_nil (W_ret (hQ _ _ (fin1 Tryz.results82 rfl ?_)))))
             have tq := tapesF_full hM hAll (any_at k (by omega) (by rw [wipedFull]; simp_all <;> omega))
             exact ⟨eP16.ext, congrArg (Value.int .i64) ((if_neg (by omega)).trans ((if_pos hF).trans ((if_pos (by omega)).trans tq))).symm⟩
            ·refine W_skip (W_reg (sV rfl (py_move rfl) (sV rfl (py_add rfl rfl (in64 ⟨by omega, by omega⟩)) (sV rfl (py_assign rfl) (s_nil (⟨k + 1, ⟨rfl, rfl, trivial⟩, ⟨(eP16.ftake 5), by omega, fun i hi => ?_⟩, by dsimp only; omega⟩))))))
             by_cases e : i = k
             ·subst e; rw [wipedFull]; simp_all <;> omega
             ·exact hek i (by omega)
           ·try simp only [decide_eq_true_eq, decide_eq_false_iff_not] at hg10
            refine s_skip (wog (b := false) rfl rfl rfl) rfl rfl (s_skip (wog (b := false) rfl rfl rfl) rfl rfl (s_skip (wog (b := false) rfl rfl rfl) rfl rfl (s_skip (wog (b := false) rfl rfl rfl) rfl rfl (s_skip (wog (b := false) rfl rfl rfl) rfl rfl (s_skip (wog (b := false) rfl rfl rfl) rfl rfl (s_skip (wog (b := false) rfl rfl rfl) rfl rfl (s_skip (wog (b := false) rfl rfl rfl) rfl rfl (sV rfl (py_pickF rfl rfl) (s_nil (W_iff rfl (W_skip (W_reg (sV rfl (py_move rfl) (sV rfl (py_add rfl rfl (in64 ⟨by omega, by omega⟩)) (sV rfl (py_assign rfl) (s_nil (⟨k + 1, ⟨rfl, rfl, trivial⟩, ⟨(eP16.ftake 5), by omega, fun i hi => ?_⟩, by dsimp only; omega⟩)))))))))))))))))
            by_cases e : i = k
            ·subst e; rw [wipedFull]; simp_all <;> omega
            ·exact hek i (by omega)
          ·refine W_exit (W_seq (W_seq ?_))
           have tq := tapesF_ok hM hAll (any_none (fun i hi => hek i (by omega)))
           refine W_reg (sV rfl (py_field Tryz.underlying37 rfl Tryz.sizeOf2 rfl rfl) (sV rfl (py_load Tryz.underlying2 rfl rfl (cell_atL (H18.box 0 rfl) rfl)) (s_call (wn rfl) rfl rfl (pc_call Tryz.func149 rfl Tryz_nm149 rfl) Tryz_spec_l1In (fun v9 w16 r9 => ?_))))
           obtain ⟨e10, rfl⟩ := r9
           have H19 := H18.to e10
           refine sV rfl (py_not rfl) (sV rfl (py_move rfl) (s_case (t := 122) rfl (fun hg11 => ?_) (fun hg11 => ?_)))
           ·try simp only [decide_eq_true_eq, decide_eq_false_iff_not] at hg11
            refine s_skip (wog (b := true) rfl rfl rfl) rfl rfl (s_skip (wog (b := true) rfl rfl rfl) rfl rfl (s_skip (wog (b := true) rfl rfl rfl) rfl rfl (s_skip (wog (b := true) rfl rfl rfl) rfl rfl (sV rfl (py_pickT rfl rfl) (s_nil (W_ift rfl (W_sr (sV rfl (py_assign rfl) (s_nil (W_ret (hQ _ _ (fin1 Tryz.results82 rfl ?_))))))))))))
            exact ⟨H19.ext, congrArg (Value.int .i64) ((if_neg (by omega)).trans ((if_pos hF).trans ((if_neg (by omega)).trans (if_neg (by simp_all <;> omega))))).symm⟩
           ·try simp only [decide_eq_true_eq, decide_eq_false_iff_not] at hg11
            refine s_val (wg rfl rfl rfl) rfl rfl (py_field Tryz.underlying37 rfl Tryz.sizeOf2 rfl rfl) (s_val (wg rfl rfl rfl) rfl rfl (py_load Tryz.underlying2 rfl rfl (cell_atL (H19.box 0 rfl) rfl)) (s_call (wg rfl rfl rfl) rfl rfl (pc_call Tryz.func149 rfl Tryz_nm149 rfl) Tryz_spec_l1In (fun v10 w17 r10 => ?_)))
            obtain ⟨e11, rfl⟩ := r10
            have H20 := H19.to e11
            refine s_val (wg rfl rfl rfl) rfl rfl (py_not rfl) (sV rfl (py_pickF rfl rfl) (s_nil (W_if rfl (fun c17 => ?_) (fun c17 => ?_))))
            ·refine W_sr (sV rfl (py_assign rfl) (s_nil (W_ret (hQ _ _ (fin1 Tryz.results82 rfl ?_)))))
             exact ⟨H20.ext, congrArg (Value.int .i64) ((if_neg (by omega)).trans ((if_pos hF).trans ((if_neg (by omega)).trans (if_neg (by simp_all <;> omega))))).symm⟩
            ·refine W_skip (W_sr (sV rfl (py_assign rfl) (s_nil (W_ret (hQ _ _ (fin1 Tryz.results82 rfl ?_))))))
             exact ⟨H20.ext, congrArg (Value.int .i64) ((if_neg (by omega)).trans ((if_pos hF).trans ((if_neg (by omega)).trans (if_pos (by simp_all <;> omega))))).symm⟩
end Go.Wk
namespace Go.Wk
open Rp (sz own)
section
variable {z : Wld} {s : Shape} {g row d : Int}
def placeF (s : Shape) (g d row : Int) : Bool := ins g 0 (s.Groups + s.Column - 1) && (ins d 0 (s.Data + s.Spare - 1) && ins row 0 (s.Rows - 1))
theorem place_zero (h : s.ok = true) : placeF s g 0 row = (ins g 0 (s.Groups + s.Column - 1) && ins row 0 (s.Rows - 1)) := by
  have := shape_bd h
  have : ins 0 0 (s.Data + s.Spare - 1) = true := ins_iff.2 (by omega)
  rw [placeF, this, Bool.true_and]
end
end Go.Wk

namespace Go.Wk
open Go.Proofs Rp
set_option maxRecDepth 10000
theorem Tryz_spec_l5Place {w : World} {s : Shape} {g : Int} {d : Int} {row : Int} (hs : s.ok = true) : Ret Tryz.prog 96 #[s.v, .int .i64 g, .int .i64 d, .int .i64 row] w fun v w' => Ext No w w' ∧ (v = .bool (placeF s g d row)) := by
 have sbd := shape_bd hs
 refine ret_Q (vs := [s.v, .int .i64 g, .int .i64 d, .int .i64 row]) Tryz.func96 rfl Tryz.ntmps96 rfl (fun Q hQ hN => ?_)
 have H0 := Sep.start (w := w) (F := []) (by simp)
 refine W_sr (s_box (wn rfl) rfl rfl H0 (fun b1 w1 e1 g1 H1 => ?_))
 refine sV rfl (py_assign rfl) (s_nil (W_sr (sV rfl (py_move rfl) (sV rfl (py_loadS Tryz.underlying33 rfl Tryz.sizeOf33 rfl rfl (At.whole (H1.box 0 rfl))) (s_call (wn rfl) rfl rfl (pc_call Tryz.func83 rfl Tryz_nm83 rfl) (Tryz_spec_l5All (by assumption)) (fun v1 w2 r1 => ?_))))))
 obtain ⟨e2, rfl⟩ := r1
 have H2 := H1.to e2
 refine sV rfl (py_sub rfl rfl (in64 ⟨by omega, by omega⟩)) (s_call (wn rfl) rfl rfl (pc_call Tryz.func149 rfl Tryz_nm149 rfl) Tryz_spec_l1In (fun v2 w3 r2 => ?_))
 obtain ⟨e3, rfl⟩ := r2
 have H3 := H2.to e3
 refine sV rfl (py_move rfl) (s_grp 5 (j := 5) (want := true) (t := 19) rfl rfl rfl rfl (fun hg1 kk1 => s_val (wgE rfl rfl rfl hg1) rfl rfl (py_move rfl) (s_val (wgE rfl rfl rfl hg1) rfl rfl (py_loadS Tryz.underlying33 rfl Tryz.sizeOf33 rfl rfl (At.whole (H3.box 0 rfl))) (s_callv (wgE rfl rfl rfl hg1) rfl rfl (pc_call Tryz.func157 rfl Tryz_nm157 rfl) (Tryz_spec_l5Drives (by assumption)) (fun w5 e5 => s_val (wgE rfl rfl rfl hg1) rfl rfl (py_sub rfl rfl (in64 ⟨by omega, by omega⟩)) (s_callv (wgE rfl rfl rfl hg1) rfl rfl (pc_call Tryz.func149 rfl Tryz_nm149 rfl) Tryz_spec_l1In (fun w6 e6 => kk1 _ _ (kx rfl (kx rfl (kx rfl (kx rfl (kx rfl k0))))) rfl ((Ext.refl.trans e5).trans e6))))))) (fun w4 e4 => ?_))
 have H4 := H3.to e4
 refine sV rfl (py_band rfl rfl) (sV rfl (py_move rfl) (s_grp 5 (j := 12) (want := true) (t := 26) rfl rfl rfl rfl (fun hg2 kk2 => s_val (wgE rfl rfl rfl hg2) rfl rfl (py_move rfl) (s_val (wgE rfl rfl rfl hg2) rfl rfl (py_field Tryz.underlying33 rfl Tryz.sizeOf2 rfl rfl) (s_val (wgE rfl rfl rfl hg2) rfl rfl (py_load Tryz.underlying2 rfl rfl (cell_atL (H4.box 0 rfl) rfl)) (s_val (wgE rfl rfl rfl hg2) rfl rfl (py_sub rfl rfl (in64 ⟨by omega, by omega⟩)) (s_callv (wgE rfl rfl rfl hg2) rfl rfl (pc_call Tryz.func149 rfl Tryz_nm149 rfl) Tryz_spec_l1In (fun w8 e8 => kk2 _ _ (kx rfl (kx rfl (kx rfl (kx rfl (kx rfl k0))))) rfl (Ext.refl.trans e8))))))) (fun w7 e7 => ?_)))
 have H5 := H4.to e7
 refine sV rfl (py_band rfl rfl) (sV rfl (py_assign rfl) (s_nil (W_ret (hQ _ _ (fin1 Tryz.results96 rfl ?_)))))
 exact ⟨H5.ext, congrArg Value.bool (by simp [placeF, Bool.and_assoc])⟩
end Go.Wk
namespace Go.Wk
open Rp (sz own)
def wipedTo (g : List Drive) : Nat → List Int
  | 0 => []
  | k + 1 => if (g.getD k default).Wiped = true then wipedTo g k ++ [(k : Int)] else wipedTo g k
def wipedL (z : Wld) (g : Int) : List Int := wipedTo (z.Groups.getD g.toNat []) (z.Groups.getD g.toNat []).length
def deadF (z : Wld) (g : Int) : Bool := decide (z.Shape.Spare < ((wipedL z g).length : Int))
section
variable {G : List Drive} {z : Wld} {k : Nat}
theorem wiped_yes (h : (G.getD k default).Wiped = true) : wipedTo G (k + 1) = wipedTo G k ++ [(k : Int)] := by rw [wipedTo, if_pos h]
theorem wiped_no (h : (G.getD k default).Wiped = false) : wipedTo G (k + 1) = wipedTo G k := by rw [wipedTo, if_neg (by rw [h]; simp)]
theorem wiped_len : ∀ {k : Nat}, (wipedTo G k).length ≤ k
  | 0 => Nat.le_refl _
  | k + 1 => by
    have := wiped_len (k := k)
    rw [wipedTo]; split
    · rw [List.length_append]; simp; omega
    · omega
theorem place_grp {g : Int} (hs : z.Shape.ok = true) : placeF z.Shape g 0 0 = ins g 0 (z.Shape.Groups + z.Shape.Column - 1) := by
  have : ins 0 0 (z.Shape.Rows - 1) = true := ins_iff.2 (by have := shape_bd hs; omega)
  rw [place_zero hs, this, Bool.and_true]
end
end Go.Wk

namespace Go.Wk
open Go.Proofs Rp
set_option maxRecDepth 10000
theorem Tryz_impl_World_wiped {w : World} {zb : Nat} {z : Wld} {zA9 : Option Addr} {zC9 : Nat} {zA10 : Option Addr} {zC10 : Nat} {zA11 : Option Addr} {zC11 : Nat} {g : Int} (zB : w.heap[zb]? = some (.cells [.int .i64 z.Shape.Groups, .int .i64 z.Shape.Column, .int .i64 z.Shape.Data, .int .i64 z.Shape.Spare, .int .i64 z.Shape.Rows, .int .i64 z.Shape.Cap, .int .i64 z.Shape.Batch, .int .i64 z.Shape.Queue, .int .i64 z.Shape.Stage, .slice zA9 z.Groups.length zC9, .slice zA10 z.On.length zC10, .slice zA11 z.Tapes.length zC11, .int .i64 z.Writes, .int .i64 z.Stop, .bool z.Down].toArray 37)) (zK : z.Ok) (zS9 : Sees w [.slice zA9 z.Groups.length zC9] z.Groups) (zS10 : Sees w [.slice zA10 z.On.length zC10] z.On) (zS11 : Sees w [.slice zA11 z.Tapes.length zC11] z.Tapes) (hs : z.Shape.ok = true) (hG : groupsOK z = true) (hg : ins g 0 (z.Shape.Groups + z.Shape.Column - 1) = true) : Ret Tryz.prog 95 #[.pointer (some ⟨zb, 0, none⟩), .int .i64 g] w fun v w' => Ext No w w' ∧ (Res w w' [v] (wipedL z g)) := by
 have zK2 := zK
 unfold Wld.Ok Shape.Ok at zK2
 try unfold I64ok at zK2
 try unfold maxLen at zK2
 have zL9 := sees_len zS9
 unfold maxLen at zL9
 obtain ⟨zF9, zO9⟩ := zS9
 have zL10 := sees_len zS10
 unfold maxLen at zL10
 obtain ⟨zF10, zO10⟩ := zS10
 have zL11 := sees_len zS11
 unfold maxLen at zL11
 obtain ⟨zF11, zO11⟩ := zS11
 have sbd := shape_bd hs
 have hgg := groups_get hG
 have hgl := hgg.1
 have hgi := ins_iff.1 hg
 obtain ⟨hdl, hdd⟩ := hgg.2 g.toNat (by omega)
 refine ret_Q (vs := [.pointer (some ⟨zb, 0, none⟩), .int .i64 g]) Tryz.func95 rfl Tryz.ntmps95 rfl (fun Q hQ hN => ?_)
 have H0 := Sep.start (w := w) (F := [box zb (.cells [.int .i64 z.Shape.Groups, .int .i64 z.Shape.Column, .int .i64 z.Shape.Data, .int .i64 z.Shape.Spare, .int .i64 z.Shape.Rows, .int .i64 z.Shape.Cap, .int .i64 z.Shape.Batch, .int .i64 z.Shape.Queue, .int .i64 z.Shape.Stage, .slice zA9 z.Groups.length zC9, .slice zA10 z.On.length zC10, .slice zA11 z.Tapes.length zC11, .int .i64 z.Writes, .int .i64 z.Stop, .bool z.Down].toArray 37), seen false [.slice zA9 z.Groups.length zC9] z.Groups zF9, seen false [.slice zA10 z.On.length zC10] z.On zF10, seen false [.slice zA11 z.Tapes.length zC11] z.Tapes zF11]) (all_cons (by exact zB) (all_cons zO9 (all_cons zO10 (all_cons zO11 (by simp)))))
 refine W_sr (sV rfl (py_assign rfl) (s_nil (W_sr (s_lit0 (α := Int) (wn rfl) rfl Tryz.underlying25 Tryz_ty2 H0 (fun b1 w1 e1 g1 H1 => ?_)))))
 refine sV rfl (py_assign rfl) (s_nil (W_seq (W_seq ?_)))
 obtain ⟨eb1, eo1, ea1, ek1, ef1, ee1, ec1, eO1, eH1⟩ := elem_sl (H1.seen 1 rfl) g.toNat (by omega)
 have eP1 := H1.look1 1 rfl eO1 eH1
 refine W_reg (sV rfl (py_move rfl) (sV rfl (py_nil rfl) (sV rfl (py_field Tryz.underlying37 rfl Tryz.sizeOf34 rfl rfl) (sV rfl (py_load Tryz.underlying34 rfl rfl (cell_atL (eP1.fbox 0 rfl) rfl)) (sV rfl (py_move rfl) (sV rfl (py_elz Tryz.underlying34 Tryz.sizeOf147 rfl rfl ee1 g.toNat (by omega) (by omega)) (sV rfl (py_load Tryz.underlying147 rfl rfl ec1) (sV rfl (py_len Tryz.underlying147 rfl) (sV rfl (py_move rfl) (s_nil (W_block (W_loopA (α := Int) (γ := Nat) (fun k => wipedTo (z.Groups.getD g.toNat []) k) 0 eP1 0 rfl 5 rfl [(4, _), (15, _), (16, _)] ⟨rfl, rfl, rfl, trivial⟩ (fun k => [(17, .int .i64 k)]) (fun k => k ≤ (z.Groups.getD g.toNat []).length ∧ True) (fun k => (z.Groups.getD g.toNat []).length - k) ⟨rfl, trivial⟩ ⟨by omega, trivial⟩ (fun k vA1 fA1 w2 H2 ⟨hk, _⟩ => ?_)))))))))))))
 dsimp only [List.cons_append, List.nil_append, List.set_cons_zero, List.set_cons_succ] at H2 ⊢
 refine W_sr (sV rfl (py_lss rfl rfl) (s_nil (W_seq (W_ifd rfl (fun c1 => ?_) (fun c1 => ?_)))))
 ·refine W_skip (W_seq (W_block (W_seq ?_)))
  obtain ⟨eb2, eo2, es1, ef2, ee2, ec2, eO2, eH2, em1⟩ := elem_st (H2.seen 4 rfl) k (by omega)
  obtain ⟨ea2, ek2, eg1, rfl, eq1, eK1, eo3⟩ := own_Drive eO2
  have eP2 := H2.look1 4 rfl eo3 (fun b hb => eH2 b (by rw [eq1]; simp [hb]))
  have eL1 := own_len_le eo3
  unfold maxLen at eL1
  refine W_reg (sV rfl (py_move rfl) (sV rfl (py_elz Tryz.underlying147 Tryz.sizeOf150 rfl rfl ee2 k (by omega) (by omega)) (sV rfl (py_loadS Tryz.underlying150 rfl Tryz.sizeOf150 rfl rfl ec2) (s_var (wn rfl) rfl Tryz.zeroValue150 eP2 (fun b2 w3 e2 g2 H3 => ?_)))))
  refine sV rfl (py_assign rfl) (s_stoS (wn rfl) Tryz.sizeOf150 rfl rfl rfl rfl H3 1 rfl rfl (fun w4 e3 H4 => ?_))
  dsimp only [List.nil_append, List.cons_append, List.set_cons_zero, List.set_cons_succ, layL] at H4
  refine s_nil (W_sr (sV rfl (py_field Tryz.underlying150 rfl Tryz.sizeOf4 rfl rfl) (sV rfl (py_load Tryz.underlying4 rfl rfl (cell_atL (H4.box 1 rfl) rfl)) (s_nil (W_if rfl (fun c2 => ?_) (fun c2 => ?_))))))
  ·have wl := wiped_len (G := (z.Groups.getD g.toNat [])) (k := k)
   refine W_reg (sV rfl (py_move rfl) (sV rfl (py_move rfl) (s_lit1 (wn rfl) rfl Tryz.underlying25 Tryz_ty2 rfl rfl rfl rfl H4 (fun b3 w5 e4 g3 H5 => ?_))))
   refine s_app1 (wn rfl) rfl Tryz.underlying25 Tryz_ty2 rfl rfl rfl H5 0 2 rfl rfl (own_bi (by first | assumption | (unfold I64ok; omega))) (by unfold maxLen; omega) (by omega) (fun v1 w6 fp1 H6 => ?_)
   refine sV rfl (py_assign rfl) (s_nil (W_reg (sV rfl (py_add rfl rfl (in64 ⟨by omega, by omega⟩)) (sV rfl (py_move rfl) (s_nil ?_)))))
   rw [← wiped_yes c2] at H6
   exact ⟨(k + 1, _, _), ⟨rfl, rfl, rfl, rfl, rfl, trivial⟩, ⟨((H6.ftake 5).dtake 1), by omega, trivial⟩, by dsimp only; omega⟩
  ·refine W_skip (W_reg (sV rfl (py_add rfl rfl (in64 ⟨by omega, by omega⟩)) (sV rfl (py_move rfl) (s_nil ?_))))
   rw [← wiped_no c2] at H4
   exact ⟨(k + 1, _, _), ⟨rfl, rfl, rfl, rfl, rfl, trivial⟩, ⟨((H4.ftake 5).dtake 1), by omega, trivial⟩, by dsimp only; omega⟩
 ·refine W_exit (W_sr (sV rfl (py_move rfl) (sV rfl (py_assign rfl) (s_nil (W_ret (hQ _ _ (fin1 Tryz.results95 rfl ?_)))))))
  obtain rfl : k = (z.Groups.getD g.toNat []).length := by omega
  exact ⟨H2.ext, H2.out 0 rfl⟩
theorem Tryz_impl_World_dead {w : World} {zb : Nat} {z : Wld} {zA9 : Option Addr} {zC9 : Nat} {zA10 : Option Addr} {zC10 : Nat} {zA11 : Option Addr} {zC11 : Nat} {g : Int} (zB : w.heap[zb]? = some (.cells [.int .i64 z.Shape.Groups, .int .i64 z.Shape.Column, .int .i64 z.Shape.Data, .int .i64 z.Shape.Spare, .int .i64 z.Shape.Rows, .int .i64 z.Shape.Cap, .int .i64 z.Shape.Batch, .int .i64 z.Shape.Queue, .int .i64 z.Shape.Stage, .slice zA9 z.Groups.length zC9, .slice zA10 z.On.length zC10, .slice zA11 z.Tapes.length zC11, .int .i64 z.Writes, .int .i64 z.Stop, .bool z.Down].toArray 37)) (zK : z.Ok) (zS9 : Sees w [.slice zA9 z.Groups.length zC9] z.Groups) (zS10 : Sees w [.slice zA10 z.On.length zC10] z.On) (zS11 : Sees w [.slice zA11 z.Tapes.length zC11] z.Tapes) (hs : z.Shape.ok = true) (hG : groupsOK z = true) (hg : ins g 0 (z.Shape.Groups + z.Shape.Column - 1) = true) : Ret Tryz.prog 87 #[.pointer (some ⟨zb, 0, none⟩), .int .i64 g] w fun v w' => Ext No w w' ∧ (v = .bool (deadF z g)) := by
 have zK2 := zK
 unfold Wld.Ok Shape.Ok at zK2
 try unfold I64ok at zK2
 try unfold maxLen at zK2
 have zL9 := sees_len zS9
 unfold maxLen at zL9
 obtain ⟨zF9, zO9⟩ := zS9
 have zL10 := sees_len zS10
 unfold maxLen at zL10
 obtain ⟨zF10, zO10⟩ := zS10
 have zL11 := sees_len zS11
 unfold maxLen at zL11
 obtain ⟨zF11, zO11⟩ := zS11
 have sbd := shape_bd hs
 refine ret_Q (vs := [.pointer (some ⟨zb, 0, none⟩), .int .i64 g]) Tryz.func87 rfl Tryz.ntmps87 rfl (fun Q hQ hN => ?_)
 have H0 := Sep.start (w := w) (F := [box zb (.cells [.int .i64 z.Shape.Groups, .int .i64 z.Shape.Column, .int .i64 z.Shape.Data, .int .i64 z.Shape.Spare, .int .i64 z.Shape.Rows, .int .i64 z.Shape.Cap, .int .i64 z.Shape.Batch, .int .i64 z.Shape.Queue, .int .i64 z.Shape.Stage, .slice zA9 z.Groups.length zC9, .slice zA10 z.On.length zC10, .slice zA11 z.Tapes.length zC11, .int .i64 z.Writes, .int .i64 z.Stop, .bool z.Down].toArray 37), seen false [.slice zA9 z.Groups.length zC9] z.Groups zF9, seen false [.slice zA10 z.On.length zC10] z.On zF10, seen false [.slice zA11 z.Tapes.length zC11] z.Tapes zF11]) (all_cons (by exact zB) (all_cons zO9 (all_cons zO10 (all_cons zO11 (by simp)))))
 refine W_sr (sV rfl (py_assign rfl) (s_nil (W_seq (W_drw (S := Ext No _) [(0, true), (1, true), (4, true), (5, true), (6, true), (7, true), (8, true), (2, false), (3, false), (9, true), (10, false)] (by kernel_rfl) (by kernel_rfl) (by kernel_rfl) rfl (fun _ => Ext.refl.drawn _) (fun q1 => ?_)))))
 have H1 := H0.drawn q1
 refine dV rfl rfl (fun zw hx => py_move rfl) (dV rfl rfl (fun zw hx => py_move rfl) (dV rfl rfl (fun zw hx => py_move rfl) (dV rfl rfl (fun zw hx => py_nil rfl) (dV rfl rfl (fun zw hx => py_field Tryz.underlying37 rfl Tryz.sizeOf33 rfl rfl) (dV rfl rfl (fun zw hx => py_field Tryz.underlying33 rfl Tryz.sizeOf2 rfl rfl) (dV rfl rfl (fun zw hx => py_load Tryz.underlying2 rfl rfl (cell_atL (hx.heap (H1.fbox 0 rfl)) rfl)) (d_call rfl (wn rfl) rfl rfl (pc_call Tryz.func95 rfl Tryz_nm95 rfl) (Tryz_impl_World_wiped (H1.fbox 0 rfl) (by assumption) (H1.sees 1 rfl) (H1.sees 2 rfl) (H1.sees 3 rfl) (by assumption) (by assumption) (by assumption)) (fun hS _ _ r _ => hS.trans r.1.no) (fun v1 w1 r1 => ?_))))))))
 obtain ⟨e1, r1⟩ := r1
 obtain ⟨fp1, H2⟩ := H1.res e1 r1
 obtain ⟨a1, k1, q2⟩ := own_slice (H2.mine 0 rfl)
 cases q2
 refine d_call rfl (wn rfl) rfl rfl (pc_call Tryz.func155 rfl Tryz_nm155 rfl) (Tryz_size_int64 (H2.msees 0 rfl)) (fun hS _ _ r _ => hS.trans r.1.no) (fun v2 w2 r2 => ?_)
 obtain ⟨e2, rfl⟩ := r2
 have H3 := H2.to e2
 refine dV rfl rfl (fun zw hx => py_gtr rfl rfl) (d_end rfl (wn rfl) rfl rfl (py_assign rfl) (d_nil (W_ret (hQ _ _ (fin1 Tryz.results87 rfl ?_)))))
 exact ⟨H3.ext, rfl⟩
theorem Tryz_spec_l7Dead {w : World} {zb : Nat} {z : Wld} {zA9 : Option Addr} {zC9 : Nat} {zA10 : Option Addr} {zC10 : Nat} {zA11 : Option Addr} {zC11 : Nat} {g : Int} (zB : w.heap[zb]? = some (.cells [.int .i64 z.Shape.Groups, .int .i64 z.Shape.Column, .int .i64 z.Shape.Data, .int .i64 z.Shape.Spare, .int .i64 z.Shape.Rows, .int .i64 z.Shape.Cap, .int .i64 z.Shape.Batch, .int .i64 z.Shape.Queue, .int .i64 z.Shape.Stage, .slice zA9 z.Groups.length zC9, .slice zA10 z.On.length zC10, .slice zA11 z.Tapes.length zC11, .int .i64 z.Writes, .int .i64 z.Stop, .bool z.Down].toArray 37)) (zK : z.Ok) (zS9 : Sees w [.slice zA9 z.Groups.length zC9] z.Groups) (zS10 : Sees w [.slice zA10 z.On.length zC10] z.On) (zS11 : Sees w [.slice zA11 z.Tapes.length zC11] z.Tapes) (hs : z.Shape.ok = true) (hG : groupsOK z = true) (hg : ins g 0 (z.Shape.Groups + z.Shape.Column - 1) = true) : Ret Tryz.prog 84 #[.pointer (some ⟨zb, 0, none⟩), .int .i64 g] w fun v w' => Ext No w w' ∧ (v = .bool (deadF z g)) := by
 have zK2 := zK
 unfold Wld.Ok Shape.Ok at zK2
 try unfold I64ok at zK2
 try unfold maxLen at zK2
 have zL9 := sees_len zS9
 unfold maxLen at zL9
 obtain ⟨zF9, zO9⟩ := zS9
 have zL10 := sees_len zS10
 unfold maxLen at zL10
 obtain ⟨zF10, zO10⟩ := zS10
 have zL11 := sees_len zS11
 unfold maxLen at zL11
 obtain ⟨zF11, zO11⟩ := zS11
 have sbd := shape_bd hs
 have hgg := groups_get hG
 have hgl := hgg.1
 have hgi := ins_iff.1 hg
 obtain ⟨hdl, hdd⟩ := hgg.2 g.toNat (by omega)
 refine ret_Q (vs := [.pointer (some ⟨zb, 0, none⟩), .int .i64 g]) Tryz.func84 rfl Tryz.ntmps84 rfl (fun Q hQ hN => ?_)
 have H0 := Sep.start (w := w) (F := [box zb (.cells [.int .i64 z.Shape.Groups, .int .i64 z.Shape.Column, .int .i64 z.Shape.Data, .int .i64 z.Shape.Spare, .int .i64 z.Shape.Rows, .int .i64 z.Shape.Cap, .int .i64 z.Shape.Batch, .int .i64 z.Shape.Queue, .int .i64 z.Shape.Stage, .slice zA9 z.Groups.length zC9, .slice zA10 z.On.length zC10, .slice zA11 z.Tapes.length zC11, .int .i64 z.Writes, .int .i64 z.Stop, .bool z.Down].toArray 37), seen false [.slice zA9 z.Groups.length zC9] z.Groups zF9, seen false [.slice zA10 z.On.length zC10] z.On zF10, seen false [.slice zA11 z.Tapes.length zC11] z.Tapes zF11]) (all_cons (by exact zB) (all_cons zO9 (all_cons zO10 (all_cons zO11 (by simp)))))
 refine W_sr (sV rfl (py_assign rfl) (s_nil (W_sr (sV rfl (py_assign rfl) (s_nil (W_seq (W_sr (sV rfl (py_assign rfl) (s_nil (W_block (W_loopS (γ := Nat) H0 [(0, _), (1, _), (4, _)] ⟨rfl, rfl, rfl, trivial⟩ (fun k => [(5, .int .i64 ((wipedTo (z.Groups.getD g.toNat []) k).length : Nat)), (6, .int .i64 k)]) (fun k => k ≤ (z.Groups.getD g.toNat []).length ∧ True) (fun k => (z.Groups.getD g.toNat []).length - k) 0 ⟨rfl, rfl, trivial⟩ ⟨by omega, trivial⟩ (fun k w1 H1 ⟨hk, _⟩ => ?_))))))))))))
 dsimp only [List.cons_append, List.nil_append]
 refine W_seq (W_seq ?_)
 obtain ⟨eb1, eo1, ea1, ek1, ef1, ee1, ec1, eO1, eH1⟩ := elem_sl (H1.seen 1 rfl) g.toNat (by omega)
 have eP1 := H1.look1 1 rfl eO1 eH1
 refine W_reg (sV rfl (py_move rfl) (sV rfl (py_move rfl) (sV rfl (py_nil rfl) (sV rfl (py_field Tryz.underlying37 rfl Tryz.sizeOf34 rfl rfl) (sV rfl (py_load Tryz.underlying34 rfl rfl (cell_atL (eP1.fbox 0 rfl) rfl)) (sV rfl (py_move rfl) (sV rfl (py_elz Tryz.underlying34 Tryz.sizeOf147 rfl rfl ee1 g.toNat (by omega) (by omega)) (sV rfl (py_load Tryz.underlying147 rfl rfl ec1) (sV rfl (py_len Tryz.underlying147 rfl) (sV rfl (py_lss rfl rfl) (s_nil (W_ifd rfl (fun c1 => ?_) (fun c1 => ?_)))))))))))))
 ·refine W_skip (W_seq (W_block (W_seq ?_)))
  obtain ⟨eb2, eo2, ea2, ek2, ef2, ee2, ec2, eO2, eH2⟩ := elem_sl (eP1.seen 1 rfl) g.toNat (by omega)
  have eP2 := eP1.look1 1 rfl eO2 eH2
  obtain ⟨eb3, eo3, es1, ef3, ee3, ec3, eO3, eH3, em1⟩ := elem_st (eP2.seen 5 rfl) k (by omega)
  obtain ⟨ea3, ek3, eg1, rfl, eq1, eK1, eo4⟩ := own_Drive eO3
  have eP3 := eP2.look1 5 rfl eo4 (fun b hb => eH3 b (by rw [eq1]; simp [hb]))
  have eL1 := own_len_le eo4
  unfold maxLen at eL1
  refine W_reg (sV rfl (py_move rfl) (sV rfl (py_nil rfl) (sV rfl (py_field Tryz.underlying37 rfl Tryz.sizeOf34 rfl rfl) (sV rfl (py_load Tryz.underlying34 rfl rfl (cell_atL (eP3.fbox 0 rfl) rfl)) (sV rfl (py_move rfl) (sV rfl (py_elz Tryz.underlying34 Tryz.sizeOf147 rfl rfl ee2 g.toNat (by omega) (by omega)) (sV rfl (py_load Tryz.underlying147 rfl rfl ec2) (sV rfl (py_move rfl) (sV rfl (py_elz Tryz.underlying147 Tryz.sizeOf150 rfl rfl ee3 k (by omega) (by omega)) (sV rfl (py_field Tryz.underlying150 rfl Tryz.sizeOf4 rfl rfl) (sV rfl (py_load Tryz.underlying4 rfl rfl (at_cell ec3 0 rfl)) (s_nil (W_if rfl (fun c2 => ?_) (fun c2 => ?_))))))))))))))
  ·have wl := wiped_len (G := (z.Groups.getD g.toNat [])) (k := k)
   refine W_reg (sV rfl (py_move rfl) (sV rfl (py_add rfl rfl (in64 ⟨by omega, by omega⟩)) (sV rfl (py_assign rfl) (s_nil (W_reg (sV rfl (py_move rfl) (sV rfl (py_add rfl rfl (in64 ⟨by omega, by omega⟩)) (sV rfl (py_assign rfl) (s_nil ?_)))))))))
   have wq := wiped_yes c2
   exact ⟨k + 1, ⟨eqI (by rw [wq]; simp), rfl, rfl, rfl, rfl, trivial⟩, ⟨(eP3.ftake 4), by omega, trivial⟩, by dsimp only; omega⟩
  ·refine W_skip (W_reg (sV rfl (py_move rfl) (sV rfl (py_add rfl rfl (in64 ⟨by omega, by omega⟩)) (sV rfl (py_assign rfl) (s_nil ?_)))))
   have wq := wiped_no c2
   exact ⟨k + 1, ⟨eqI (by rw [wq]), rfl, rfl, rfl, rfl, trivial⟩, ⟨(eP3.ftake 4), by omega, trivial⟩, by dsimp only; omega⟩
 ·refine W_exit (W_sr (sV rfl (py_move rfl) (sV rfl (py_move rfl) (sV rfl (py_nil rfl) (sV rfl (py_field Tryz.underlying37 rfl Tryz.sizeOf33 rfl rfl) (sV rfl (py_field Tryz.underlying33 rfl Tryz.sizeOf2 rfl rfl) (sV rfl (py_load Tryz.underlying2 rfl rfl (cell_atL (eP1.fbox 0 rfl) rfl)) (sV rfl (py_gtr rfl rfl) (sV rfl (py_assign rfl) (s_nil (W_ret (hQ _ _ (fin1 Tryz.results84 rfl ?_)))))))))))))
  obtain rfl : k = (z.Groups.getD g.toNat []).length := by omega
  exact ⟨eP1.ext, rfl⟩
end Go.Wk
namespace Go.Wk
open Go.Proofs Rp
set_option maxRecDepth 10000
theorem Tryz_impl_MulG {w : World} {a : UInt8} {b : UInt8}  : Ret Tryz.prog 285 #[.int .u8 a.toNat, .int .u8 b.toNat] w fun v w' => Ext No w w' ∧ (v = .int .u8 (mulG a b).toNat) := by
 refine ret_Q (vs := [.int .u8 a.toNat, .int .u8 b.toNat]) Tryz.func285 rfl Tryz.ntmps285 rfl (fun Q hQ hN => ?_)
 have H0 := Sep.start (w := w) (F := []) (by simp)
 refine W_sr (sV rfl (py_assign rfl) (s_nil (W_sr (sV rfl (py_assign rfl) (s_nil (W_seq (W_block (W_loop (γ := UInt8 × UInt8 × UInt8) (fun (x, y, o) => [(0, .int .u8 x.toNat), (1, .int .u8 y.toNat), (5, .int .u8 o.toNat)]) (fun (x, y, o) w' => Sep No w [] [] w' ∧ mulR 8 x y o = mulG a b) (fun (x, y, o) => y.toNat) (a, b, 0) ⟨rfl, rfl, rfl, trivial⟩ ⟨H0, rfl⟩ (fun (x, y, o) w1 H1 => ?_)))))))))
 obtain ⟨H1, hI⟩ := H1
 refine W_seq (W_sr (sV rfl (py_move rfl) (sV rfl (py_gtr rfl rfl) (s_nil (W_ifd rfl (fun c1 => ?_) (fun c1 => ?_))))))
 ·refine W_skip (W_seq (W_block (W_seq (W_sr (sV rfl (py_move rfl) (sV rfl (py_and8 (b := 1) rfl rfl) (sV rfl (py_eql rfl rfl) (s_nil (W_ifd rfl (fun c2 => ?_) (fun c2 => ?_))))))))))
  ·refine W_reg (sV rfl (py_move rfl) (sV rfl (py_move rfl) (sV rfl (py_xor8 rfl rfl) (sV rfl (py_assign rfl) (s_nil (W_sr (sV rfl (py_move rfl) (sV rfl (py_and8 (b := 128) rfl rfl) (sV rfl (py_neq rfl rfl) (s_nil (W_ifd rfl (fun c3 => ?_) (fun c3 => ?_))))))))))))
   ·refine W_reg (sV rfl (py_move rfl) (sV rfl (py_shl8 (k := 1) (by omega) rfl rfl) (sV rfl (py_xor8 (b := 29) rfl rfl) (sV rfl (py_assign rfl) (s_nil (W_reg (sV rfl (py_move rfl) (sV rfl (py_shr8 (k := 1) rfl rfl) (sV rfl (py_assign rfl) (s_nil (⟨(_, _, _), ⟨rfl, rfl, rfl, trivial⟩, ⟨H1, ?_⟩, ?_⟩)))))))))))
    ·rw [← hI, mulR_round x y o, xt, if_neg (fun e => c3 ((u8_inj (b := 0)).2 e)), if_pos ((u8_inj (b := 1)).1 c2)]
    ·dsimp only
     rw [shrN_toNat]
     omega
   ·refine W_reg (sV rfl (py_move rfl) (sV rfl (py_shl8 (k := 1) (by omega) rfl rfl) (sV rfl (py_assign rfl) (s_nil (W_reg (sV rfl (py_move rfl) (sV rfl (py_shr8 (k := 1) rfl rfl) (sV rfl (py_assign rfl) (s_nil (⟨(_, _, _), ⟨rfl, rfl, rfl, trivial⟩, ⟨H1, ?_⟩, ?_⟩))))))))))
    ·rw [← hI, mulR_round x y o, xt, if_pos (u8_zero (by omega)), if_pos ((u8_inj (b := 1)).1 c2)]
    ·dsimp only
     rw [shrN_toNat]
     omega
  ·refine W_skip (W_sr (sV rfl (py_move rfl) (sV rfl (py_and8 (b := 128) rfl rfl) (sV rfl (py_neq rfl rfl) (s_nil (W_ifd rfl (fun c4 => ?_) (fun c4 => ?_)))))))
   ·refine W_reg (sV rfl (py_move rfl) (sV rfl (py_shl8 (k := 1) (by omega) rfl rfl) (sV rfl (py_xor8 (b := 29) rfl rfl) (sV rfl (py_assign rfl) (s_nil (W_reg (sV rfl (py_move rfl) (sV rfl (py_shr8 (k := 1) rfl rfl) (sV rfl (py_assign rfl) (s_nil (⟨(_, _, _), ⟨rfl, rfl, rfl, trivial⟩, ⟨H1, ?_⟩, ?_⟩)))))))))))
    ·rw [← hI, mulR_round x y o, xt, if_neg (fun e => c4 ((u8_inj (b := 0)).2 e)), if_neg (fun e => c2 ((u8_inj (b := 1)).2 e))]
    ·dsimp only
     rw [shrN_toNat]
     omega
   ·refine W_reg (sV rfl (py_move rfl) (sV rfl (py_shl8 (k := 1) (by omega) rfl rfl) (sV rfl (py_assign rfl) (s_nil (W_reg (sV rfl (py_move rfl) (sV rfl (py_shr8 (k := 1) rfl rfl) (sV rfl (py_assign rfl) (s_nil (⟨(_, _, _), ⟨rfl, rfl, rfl, trivial⟩, ⟨H1, ?_⟩, ?_⟩))))))))))
    ·rw [← hI, mulR_round x y o, xt, if_pos (u8_zero (by omega)), if_neg (fun e => c2 ((u8_inj (b := 1)).2 e))]
    ·dsimp only
     rw [shrN_toNat]
     omega
 ·refine W_exit (W_sr (sV rfl (py_move rfl) (sV rfl (py_assign rfl) (s_nil (W_ret (hQ _ _ (fin1 Tryz.results285 rfl ?_)))))))
  obtain rfl : y = 0 := u8_zero (by omega)
  exact ⟨H1.ext, by rw [← hI, mulR_zero]⟩
theorem Tryz_spec_MulG {w : World} {a : UInt8} {b : UInt8}  : Ret Tryz.prog 295 #[.int .u8 a.toNat, .int .u8 b.toNat] w fun v w' => Ext No w w' ∧ (v = .int .u8 (mulG a b).toNat) := by
 have al := a.toNat_lt
 refine ret_Q (vs := [.int .u8 a.toNat, .int .u8 b.toNat]) Tryz.func295 rfl Tryz.ntmps295 rfl (fun Q hQ hN => ?_)
 have H0 := Sep.start (w := w) (F := []) (by simp)
 refine W_sr (sV rfl (py_assign rfl) (s_nil (W_sr (sV rfl (py_assign rfl) (s_nil (W_sr (sV rfl (py_move rfl) (sV rfl (py_conv Tryz.underlying5 Tryz.underlying3 rfl (in64 ⟨by omega, by omega⟩)) (sV rfl (py_assign rfl) (s_nil (W_seq (W_sr (sV rfl (py_assign rfl) (s_nil (W_block (W_loop (γ := Nat × UInt8 × UInt8) (fun (k, x, o) => [(1, .int .u8 b.toNat), (5, .int .i64 o.toNat), (6, .int .i64 x.toNat), (7, .int .i64 k)]) (fun (k, x, o) w' => Sep No w [] [] w' ∧ k ≤ 8 ∧ mulR (8 - k) x (shrN b k) o = mulG a b) (fun (k, x, o) => 8 - k) (0, a, 0) ⟨rfl, rfl, rfl, rfl, trivial⟩ ⟨H0, by omega, by rw [shrN_zero]; rfl⟩ (fun (k, x, o) w1 H1 => ?_)))))))))))))))))
 obtain ⟨H1, hk, hI⟩ := H1
 refine W_seq (W_sr (sV rfl (py_move rfl) (sV rfl (py_lss rfl rfl) (s_nil (W_ifd rfl (fun c1 => ?_) (fun c1 => ?_))))))
 ·refine W_skip (W_seq (W_block (W_seq (W_sr (sV rfl (py_move rfl) (sV rfl (py_move rfl) (sV rfl (py_conv Tryz.underlying3 Tryz.underlying264 rfl (inu64 (by omega))) (sV rfl (py_shr8 (k := k) rfl rfl) (sV rfl (py_and8 (b := 1) rfl rfl) (sV rfl (py_eql rfl rfl) (s_nil (W_ifd rfl (fun c2 => ?_) (fun c2 => ?_)))))))))))))
  ·refine W_reg (sV rfl (py_move rfl) (sV rfl (py_move rfl) (sV rfl (py_xorI o x rfl rfl) (sV rfl (py_assign rfl) (s_nil (W_seq ?_))))))
   have xl := x.toNat_lt
   refine W_reg (sV rfl (py_move rfl) (sV rfl (py_mul rfl rfl (in64 ⟨by omega, by omega⟩)) (sV rfl (py_assign rfl) (s_nil (W_sr (sV rfl (py_move rfl) (sV rfl (py_gtr rfl rfl) (s_nil (W_ifd rfl (fun c3 => ?_) (fun c3 => ?_))))))))))
   ·refine W_reg (sV rfl (py_move rfl) (sV rfl (py_xor rfl rfl) (sV rfl (py_assign rfl) (s_nil (W_reg (sV rfl (py_move rfl) (sV rfl (py_add rfl rfl (in64 ⟨by omega, by omega⟩)) (sV rfl (py_assign rfl) (s_nil (⟨(k + 1, xt x, _), ⟨rfl, rfl, eqI (xt_big x (by omega)), rfl, trivial⟩, ⟨H1, by omega, ?_⟩, by dsimp only; omega⟩))))))))))
    rw [mulR_next (k := k) (by omega) x b o, if_pos (u8_one c2)] at hI
    exact hI
   ·refine W_skip (W_reg (sV rfl (py_move rfl) (sV rfl (py_add rfl rfl (in64 ⟨by omega, by omega⟩)) (sV rfl (py_assign rfl) (s_nil (⟨(k + 1, xt x, _), ⟨rfl, rfl, eqI (xt_small x (by omega)), rfl, trivial⟩, ⟨H1, by omega, ?_⟩, by dsimp only; omega⟩))))))
    rw [mulR_next (k := k) (by omega) x b o, if_pos (u8_one c2)] at hI
    exact hI
  ·refine W_skip (W_seq ?_)
   have xl := x.toNat_lt
   refine W_reg (sV rfl (py_move rfl) (sV rfl (py_mul rfl rfl (in64 ⟨by omega, by omega⟩)) (sV rfl (py_assign rfl) (s_nil (W_sr (sV rfl (py_move rfl) (sV rfl (py_gtr rfl rfl) (s_nil (W_ifd rfl (fun c4 => ?_) (fun c4 => ?_))))))))))
   ·refine W_reg (sV rfl (py_move rfl) (sV rfl (py_xor rfl rfl) (sV rfl (py_assign rfl) (s_nil (W_reg (sV rfl (py_move rfl) (sV rfl (py_add rfl rfl (in64 ⟨by omega, by omega⟩)) (sV rfl (py_assign rfl) (s_nil (⟨(k + 1, xt x, _), ⟨rfl, rfl, eqI (xt_big x (by omega)), rfl, trivial⟩, ⟨H1, by omega, ?_⟩, by dsimp only; omega⟩))))))))))
    rw [mulR_next (k := k) (by omega) x b o, if_neg (fun e => c2 ((u8_inj (b := 1)).2 e))] at hI
    exact hI
   ·refine W_skip (W_reg (sV rfl (py_move rfl) (sV rfl (py_add rfl rfl (in64 ⟨by omega, by omega⟩)) (sV rfl (py_assign rfl) (s_nil (⟨(k + 1, xt x, _), ⟨rfl, rfl, eqI (xt_small x (by omega)), rfl, trivial⟩, ⟨H1, by omega, ?_⟩, by dsimp only; omega⟩))))))
    rw [mulR_next (k := k) (by omega) x b o, if_neg (fun e => c2 ((u8_inj (b := 1)).2 e))] at hI
    exact hI
 ·refine W_exit (W_sr (sV rfl (py_move rfl) (sV rfl (py_conv8 Tryz.underlying3 Tryz.underlying5 rfl) (sV rfl (py_assign rfl) (s_nil (W_ret (hQ _ _ (fin1 Tryz.results295 rfl ?_))))))))
  obtain rfl : k = 8 := by omega
  exact ⟨H1.ext, by rw [u8Of_nat, ← hI]; rfl⟩
theorem Tryz_spec_PowG {w : World} {a : UInt8}  : Ret Tryz.prog 303 #[.int .u8 a.toNat, .int .i64 254] w fun v w' => Ext No w w' ∧ (v = .int .u8 (invG a).toNat) := by
 refine ret_Q (vs := [.int .u8 a.toNat, .int .i64 254]) Tryz.func303 rfl Tryz.ntmps303 rfl (fun Q hQ hN => ?_)
 have H0 := Sep.start (w := w) (F := []) (by simp)
 refine W_sr (sV rfl (py_assign rfl) (s_nil (W_seq (W_sr (sV rfl (py_move rfl) (sV rfl (py_lss rfl rfl) (s_nil (W_ifd rfl (fun c1 => ?_) (fun c1 => ?_)))))))))
 ·exact absurd c1 (by decide)
 ·refine W_skip (W_seq (W_sr (sV rfl (py_move rfl) (sV rfl (py_gtr rfl rfl) (sV rfl (py_move rfl) (s_grp 2 (j := 2) (want := true) (t := 12) rfl rfl rfl rfl (fun hg1 kk1 => s_val (wgE rfl rfl rfl hg1) rfl rfl (py_move rfl) (s_val (wgE rfl rfl rfl hg1) rfl rfl (py_neq rfl rfl) (kk1 _ _ (kx rfl (kx rfl k0)) rfl Ext.refl))) (fun w1 e1 => ?_)))))))
  have H1 := H0.to e1
  refine sV rfl (py_band rfl rfl) (s_nil (W_if rfl (fun c2 => ?_) (fun c2 => ?_)))
  ·refine W_reg (sV rfl (py_move rfl) (sV rfl (py_rem rfl rfl (by omega)) (sV rfl (py_assign rfl) (s_nil (W_seq (W_sr (sV rfl (py_move rfl) (sV rfl (py_gtr rfl rfl) (sV rfl (py_move rfl) (s_grp 2 (j := 2) (want := true) (t := 20) rfl rfl rfl rfl (fun hg2 kk2 => s_val (wgE rfl rfl rfl hg2) rfl rfl (py_move rfl) (s_val (wgE rfl rfl rfl hg2) rfl rfl (py_eql rfl rfl) (kk2 _ _ (kx rfl (kx rfl k0)) rfl Ext.refl))) (fun w2 e2 => ?_)))))))))))
   have H2 := H1.to e2
   refine sV rfl (py_band rfl rfl) (s_nil (W_if rfl (fun c3 => ?_) (fun c3 => ?_)))
   ·refine W_sr (sV rfl (py_assign rfl) (s_nil (W_ret (hQ _ _ (fin1 Tryz.results303 rfl ?_)))))
    obtain rfl : a = 0 := u8_zero (by simp at c3; omega)
    exact ⟨H2.ext, by rw [inv_zero]; rfl⟩
   ·refine W_skip (W_sr (sV rfl (py_assign rfl) (s_nil (W_seq (W_block (W_loop (γ := Nat × UInt8) (fun (m, o) => [(0, .int .u8 a.toNat), (1, .int .i64 m), (5, .int .u8 o.toNat)]) (fun (m, o) w' => Sep No w [] [] w' ∧ m ≤ 254 ∧ mulG o (pw a m) = invG a) (fun (m, o) => m) (254, 1) ⟨rfl, eqI (by decide), rfl, trivial⟩ ⟨H2, by omega, mul_one_l _⟩ (fun (m, o) w3 H3 => ?_)))))))
    obtain ⟨H3, hm, hI⟩ := H3
    refine W_seq (W_sr (sV rfl (py_move rfl) (sV rfl (py_gtr rfl rfl) (s_nil (W_ifd rfl (fun c4 => ?_) (fun c4 => ?_))))))
    ·refine W_skip (W_seq (W_block (W_reg (sV rfl (py_move rfl) (sV rfl (py_move rfl) (s_call (wn rfl) rfl rfl (pc_call Tryz.func295 rfl Tryz_nm295 rfl) Tryz_spec_MulG (fun v1 w4 r1 => ?_)))))))
     obtain ⟨e3, rfl⟩ := r1
     have H4 := H3.to e3
     refine sV rfl (py_assign rfl) (s_nil (W_reg (sV rfl (py_move rfl) (sV rfl (py_sub rfl rfl (in64 ⟨by omega, by omega⟩)) (sV rfl (py_assign rfl) (s_nil ?_))))))
     obtain ⟨m, rfl⟩ : ∃ j, m = j + 1 := ⟨m - 1, by omega⟩
     refine ⟨(m, _), ⟨rfl, eqI (by omega), rfl, trivial⟩, ⟨H4, by omega, by rw [← hI, pw_step]⟩, by dsimp only; omega⟩
    ·refine W_exit (W_sr (sV rfl (py_move rfl) (sV rfl (py_assign rfl) (s_nil (W_ret (hQ _ _ (fin1 Tryz.results303 rfl ?_)))))))
     obtain rfl : m = 0 := by omega
     exact ⟨H3.ext, by rw [← hI]; show _ = Value.int .u8 (mulG o 1).toNat; rw [mul_one_r]⟩
  ·refine W_skip (W_seq (W_sr (sV rfl (py_move rfl) (sV rfl (py_gtr rfl rfl) (sV rfl (py_move rfl) (s_grp 2 (j := 2) (want := true) (t := 20) rfl rfl rfl rfl (fun hg3 kk3 => s_val (wgE rfl rfl rfl hg3) rfl rfl (py_move rfl) (s_val (wgE rfl rfl rfl hg3) rfl rfl (py_eql rfl rfl) (kk3 _ _ (kx rfl (kx rfl k0)) rfl Ext.refl))) (fun w5 e4 => ?_)))))))
   have H5 := H1.to e4
   refine sV rfl (py_band rfl rfl) (s_nil (W_if rfl (fun c5 => ?_) (fun c5 => ?_)))
   ·refine W_sr (sV rfl (py_assign rfl) (s_nil (W_ret (hQ _ _ (fin1 Tryz.results303 rfl ?_)))))
    obtain rfl : a = 0 := u8_zero (by simp at c5; omega)
    exact ⟨H5.ext, by rw [inv_zero]; rfl⟩
   ·refine W_skip (W_sr (sV rfl (py_assign rfl) (s_nil (W_seq (W_block (W_loop (γ := Nat × UInt8) (fun (m, o) => [(0, .int .u8 a.toNat), (1, .int .i64 m), (5, .int .u8 o.toNat)]) (fun (m, o) w' => Sep No w [] [] w' ∧ m ≤ 254 ∧ mulG o (pw a m) = invG a) (fun (m, o) => m) (254, 1) ⟨rfl, eqI (by decide), rfl, trivial⟩ ⟨H5, by omega, mul_one_l _⟩ (fun (m, o) w6 H6 => ?_)))))))
    obtain ⟨H6, hm, hI⟩ := H6
    refine W_seq (W_sr (sV rfl (py_move rfl) (sV rfl (py_gtr rfl rfl) (s_nil (W_ifd rfl (fun c6 => ?_) (fun c6 => ?_))))))
    ·refine W_skip (W_seq (W_block (W_reg (sV rfl (py_move rfl) (sV rfl (py_move rfl) (s_call (wn rfl) rfl rfl (pc_call Tryz.func295 rfl Tryz_nm295 rfl) Tryz_spec_MulG (fun v2 w7 r2 => ?_)))))))
     obtain ⟨e5, rfl⟩ := r2
     have H7 := H6.to e5
     refine sV rfl (py_assign rfl) (s_nil (W_reg (sV rfl (py_move rfl) (sV rfl (py_sub rfl rfl (in64 ⟨by omega, by omega⟩)) (sV rfl (py_assign rfl) (s_nil ?_))))))
     obtain ⟨m, rfl⟩ : ∃ j, m = j + 1 := ⟨m - 1, by omega⟩
     refine ⟨(m, _), ⟨rfl, eqI (by omega), rfl, trivial⟩, ⟨H7, by omega, by rw [← hI, pw_step]⟩, by dsimp only; omega⟩
    ·refine W_exit (W_sr (sV rfl (py_move rfl) (sV rfl (py_assign rfl) (s_nil (W_ret (hQ _ _ (fin1 Tryz.results303 rfl ?_)))))))
     obtain rfl : m = 0 := by omega
     exact ⟨H6.ext, by rw [← hI]; show _ = Value.int .u8 (mulG o 1).toNat; rw [mul_one_r]⟩
theorem Tryz_impl_PowG {w : World} {a : UInt8}  : Ret Tryz.prog 304 #[.int .u8 a.toNat, .int .i64 254] w fun v w' => Ext No w w' ∧ (v = .int .u8 (invG a).toNat) := by
 refine ret_Q (vs := [.int .u8 a.toNat, .int .i64 254]) Tryz.func304 rfl Tryz.ntmps304 rfl (fun Q hQ hN => ?_)
 have H0 := Sep.start (w := w) (F := []) (by simp)
 refine W_sr (sV rfl (py_assign rfl) (s_nil (W_seq (W_sr (sV rfl (py_move rfl) (sV rfl (py_lss rfl rfl) (s_nil (W_ifd rfl (fun c1 => ?_) (fun c1 => ?_)))))))))
 ·exact absurd c1 (by decide)
 ·refine W_skip (W_sr (sV rfl (py_assign rfl) (s_nil (W_seq (W_block (W_loop (γ := Nat × UInt8 × UInt8) (fun (m, x, o) => [(0, .int .u8 x.toNat), (1, .int .i64 m), (5, .int .u8 o.toNat)]) (fun (m, x, o) w' => Sep No w [] [] w' ∧ m ≤ 254 ∧ mulG o (pw x m) = invG a) (fun (m, x, o) => m) (254, a, 1) ⟨rfl, rfl, rfl, trivial⟩ ⟨H0, by omega, mul_one_l _⟩ (fun (m, x, o) w1 H1 => ?_)))))))
  obtain ⟨H1, hm, hI⟩ := H1
  refine W_seq (W_sr (sV rfl (py_move rfl) (sV rfl (py_gtr rfl rfl) (s_nil (W_ifd rfl (fun c2 => ?_) (fun c2 => ?_))))))
  ·refine W_skip (W_seq (W_block (W_seq (W_sr (sV rfl (py_move rfl) (sV rfl (py_andI1 (m := m) (by omega) rfl rfl) (sV rfl (py_eql rfl rfl) (s_nil (W_ifd rfl (fun c3 => ?_) (fun c3 => ?_))))))))))
   ·refine W_reg (sV rfl (py_move rfl) (sV rfl (py_move rfl) (s_call (wn rfl) rfl rfl (pc_call Tryz.func285 rfl Tryz_nm285 rfl) Tryz_impl_MulG (fun v1 w2 r1 => ?_))))
    obtain ⟨e1, rfl⟩ := r1
    have H2 := H1.to e1
    refine sV rfl (py_assign rfl) (s_nil (W_reg (sV rfl (py_move rfl) (sV rfl (py_move rfl) (s_call (wn rfl) rfl rfl (pc_call Tryz.func285 rfl Tryz_nm285 rfl) Tryz_impl_MulG (fun v2 w3 r2 => ?_))))))
    obtain ⟨e2, rfl⟩ := r2
    have H3 := H2.to e2
    refine sV rfl (py_assign rfl) (s_nil (W_reg (sV rfl (py_move rfl) (sV rfl (py_shrI1 (m := m) rfl rfl) (sV rfl (py_assign rfl) (s_nil (⟨(m / 2, _, _), ⟨rfl, rfl, rfl, trivial⟩, ⟨H3, by omega, by rw [← hI]; exact (pw_odd o x (m := m) (by omega)).symm⟩, by dsimp only; omega⟩)))))))
   ·refine W_skip (W_reg (sV rfl (py_move rfl) (sV rfl (py_move rfl) (s_call (wn rfl) rfl rfl (pc_call Tryz.func285 rfl Tryz_nm285 rfl) Tryz_impl_MulG (fun v3 w4 r3 => ?_)))))
    obtain ⟨e3, rfl⟩ := r3
    have H4 := H1.to e3
    refine sV rfl (py_assign rfl) (s_nil (W_reg (sV rfl (py_move rfl) (sV rfl (py_shrI1 (m := m) rfl rfl) (sV rfl (py_assign rfl) (s_nil (⟨(m / 2, _, _), ⟨rfl, rfl, rfl, trivial⟩, ⟨H4, by omega, by rw [← hI]; exact (pw_even o x (m := m) (by omega)).symm⟩, by dsimp only; omega⟩)))))))
  ·refine W_exit (W_sr (sV rfl (py_move rfl) (sV rfl (py_assign rfl) (s_nil (W_ret (hQ _ _ (fin1 Tryz.results304 rfl ?_)))))))
   obtain rfl : m = 0 := by omega
   exact ⟨H1.ext, by rw [← hI]; show _ = Value.int .u8 (mulG o 1).toNat; rw [mul_one_r]⟩
theorem Tryz_impl_div {w : World} {a : UInt8} {b : UInt8}  : Ret Tryz.prog 297 #[.int .u8 a.toNat, .int .u8 b.toNat] w fun v w' => Ext No w w' ∧ (v = .int .u8 (mulG a (invG b)).toNat) := by
 refine ret_Q (vs := [.int .u8 a.toNat, .int .u8 b.toNat]) Tryz.func297 rfl Tryz.ntmps297 rfl (fun Q hQ hN => ?_)
 have H0 := Sep.start (w := w) (F := []) (by simp)
 refine W_sr (sV rfl (py_assign rfl) (s_nil (W_sr (sV rfl (py_move rfl) (sV rfl (py_move rfl) (s_call (wn rfl) rfl rfl (pc_call Tryz.func304 rfl Tryz_nm304 rfl) Tryz_impl_PowG (fun v1 w1 r1 => ?_)))))))
 obtain ⟨e1, rfl⟩ := r1
 have H1 := H0.to e1
 refine s_call (wn rfl) rfl rfl (pc_call Tryz.func285 rfl Tryz_nm285 rfl) Tryz_impl_MulG (fun v2 w2 r2 => ?_)
 obtain ⟨e2, rfl⟩ := r2
 have H2 := H1.to e2
 refine sV rfl (py_assign rfl) (s_nil (W_ret (hQ _ _ (fin1 Tryz.results297 rfl ?_))))
 exact ⟨H2.ext, rfl⟩
theorem Tryz_spec_l1Inv {w : World} {a : UInt8}  : Ret Tryz.prog 296 #[.int .u8 a.toNat] w fun v w' => Ext No w w' ∧ (v = .int .u8 (invG a).toNat) := by
 refine ret_Q (vs := [.int .u8 a.toNat]) Tryz.func296 rfl Tryz.ntmps296 rfl (fun Q hQ hN => ?_)
 have H0 := Sep.start (w := w) (F := []) (by simp)
 refine W_sr (sV rfl (py_assign rfl) (s_nil (W_sr (sV rfl (py_move rfl) (s_call (wn rfl) rfl rfl (pc_call Tryz.func303 rfl Tryz_nm303 rfl) Tryz_spec_PowG (fun v1 w1 r1 => ?_))))))
 obtain ⟨e1, rfl⟩ := r1
 have H1 := H0.to e1
 refine sV rfl (py_assign rfl) (s_nil (W_ret (hQ _ _ (fin1 Tryz.results296 rfl ?_))))
 exact ⟨H1.ext, rfl⟩
theorem Tryz_impl_cauchy {w : World} {j : Int} {i : Int} (hj : 0 ≤ j ∧ j ≤ 1000) : Ret Tryz.prog 277 #[.int .i64 j, .int .i64 i] w fun v w' => Ext No w w' ∧ (v = .int .u8 (cauchy j i).toNat) := by
 refine ret_Q (vs := [.int .i64 j, .int .i64 i]) Tryz.func277 rfl Tryz.ntmps277 rfl (fun Q hQ hN => ?_)
 have H0 := Sep.start (w := w) (F := []) (by simp)
 refine W_sr (sV rfl (py_assign rfl) (s_nil (W_sr (sV rfl (py_move rfl) (sV rfl (py_add rfl rfl (in64 ⟨by omega, by omega⟩)) (sV rfl (py_conv8 Tryz.underlying2 Tryz.underlying5 rfl) (sV rfl (py_move rfl) (sV rfl (py_conv8 Tryz.underlying2 Tryz.underlying5 rfl) (sV rfl (py_xor8 rfl rfl) (s_call (wn rfl) rfl rfl (pc_call Tryz.func297 rfl Tryz_nm297 rfl) (Tryz_impl_div (a := 1)) (fun v1 w1 r1 => ?_)))))))))))
 obtain ⟨e1, rfl⟩ := r1
 have H1 := H0.to e1
 refine sV rfl (py_assign rfl) (s_nil (W_ret (hQ _ _ (fin1 Tryz.results277 rfl ?_))))
 exact ⟨H1.ext, by rw [mul_one_l, cauchy]⟩
theorem Tryz_spec_l1Cauchy {w : World} {j : Int} {i : Int} (hj : 0 ≤ j ∧ j ≤ 1000) : Ret Tryz.prog 274 #[.int .i64 j, .int .i64 i] w fun v w' => Ext No w w' ∧ (v = .int .u8 (cauchy j i).toNat) := by
 refine ret_Q (vs := [.int .i64 j, .int .i64 i]) Tryz.func274 rfl Tryz.ntmps274 rfl (fun Q hQ hN => ?_)
 have H0 := Sep.start (w := w) (F := []) (by simp)
 refine W_sr (sV rfl (py_assign rfl) (s_nil (W_sr (sV rfl (py_move rfl) (sV rfl (py_add rfl rfl (in64 ⟨by omega, by omega⟩)) (sV rfl (py_conv8 Tryz.underlying2 Tryz.underlying5 rfl) (sV rfl (py_move rfl) (sV rfl (py_conv8 Tryz.underlying2 Tryz.underlying5 rfl) (sV rfl (py_xor8 rfl rfl) (s_call (wn rfl) rfl rfl (pc_call Tryz.func296 rfl Tryz_nm296 rfl) Tryz_spec_l1Inv (fun v1 w1 r1 => ?_)))))))))))
 obtain ⟨e1, rfl⟩ := r1
 have H1 := H0.to e1
 refine sV rfl (py_assign rfl) (s_nil (W_ret (hQ _ _ (fin1 Tryz.results274 rfl ?_))))
 exact ⟨H1.ext, by rw [cauchy]⟩
end Go.Wk
namespace Go.Wk
open Go.Proofs Rp
set_option maxRecDepth 10000
theorem Tryz_spec_l1Scale {w : World} {xs : List UInt8} {xsA : Option Addr} {xsC : Nat} {c : UInt8} (xsS : Sees w [.slice xsA xs.length xsC] xs) (hl : xs.length ≤ 1048576) : Ret Tryz.prog 273 #[.slice xsA xs.length xsC, .int .u8 c.toNat] w fun v w' => Ext No w w' ∧ (Res w w' [v] (scaleG xs c)) := by
 have xsL := sees_len xsS
 unfold maxLen at xsL
 obtain ⟨xsF, xsO⟩ := xsS
 refine ret_Q (vs := [.slice xsA xs.length xsC, .int .u8 c.toNat]) Tryz.func273 rfl Tryz.ntmps273 rfl (fun Q hQ hN => ?_)
 have H0 := Sep.start (w := w) (F := [seen false [.slice xsA xs.length xsC] xs xsF]) (all_cons xsO (by simp))
 refine W_sr (sV rfl (py_assign rfl) (s_nil (W_sr (s_lit0 (α := UInt8) (wn rfl) rfl Tryz.underlying61 Tryz_ty5 H0 (fun b1 w1 e1 g1 H1 => ?_)))))
 refine sV rfl (py_assign rfl) (s_nil (W_seq (W_sr (sV rfl (py_assign rfl) (s_nil (W_block (W_loop (γ := Nat × Value × List Nat) (fun (k, vo, f) => [(0, .slice xsA xs.length xsC), (1, .int .u8 c.toNat), (5, vo), (6, .int .i64 k)]) (fun (k, vo, f) w' => Sep No w [mine [vo] (scaleG (xs.take k) c) f] [seen false [.slice xsA xs.length xsC] xs xsF] w' ∧ k ≤ xs.length) (fun (k, vo, f) => xs.length - k) (0, _, _) ⟨rfl, rfl, rfl, rfl, trivial⟩ ⟨H1, by omega⟩ (fun (k, vo, f) w2 H2 => ?_))))))))
 obtain ⟨H2, hk⟩ := H2
 refine W_seq (W_sr (sV rfl (py_move rfl) (sV rfl (py_move rfl) (sV rfl (py_len Tryz.underlying61 rfl) (sV rfl (py_lss rfl rfl) (s_nil (W_ifd rfl (fun c1 => ?_) (fun c1 => ?_))))))))
 ·refine W_skip (W_seq (W_block ?_))
  have sl := scaleG_len (xs.take k) c
  rw [List.length_take] at sl
  obtain ⟨eb1, eo1, ee1, ec1⟩ := elem_u8 (H2.seen 0 rfl) k (by omega)
  refine W_reg (sV rfl (py_move rfl) (sV rfl (py_move rfl) (sV rfl (py_move rfl) (sV rfl (py_elz Tryz.underlying61 Tryz.sizeOf5 rfl rfl ee1 k (by omega) (by omega)) (sV rfl (py_load Tryz.underlying5 rfl rfl ec1) (sV rfl (py_move rfl) (s_call (wn rfl) rfl rfl (pc_call Tryz.func295 rfl Tryz_nm295 rfl) Tryz_spec_MulG (fun v1 w3 r1 => ?_))))))))
  obtain ⟨e2, rfl⟩ := r1
  have H3 := H2.to e2
  refine s_lit1 (wn rfl) rfl Tryz.underlying61 Tryz_ty5 rfl rfl rfl rfl H3 (fun b2 w4 e3 g2 H4 => ?_)
  refine s_app1 (wn rfl) rfl Tryz.underlying61 Tryz_ty5 rfl rfl rfl H4 0 1 rfl rfl own_b8 (by unfold maxLen; omega) (by omega) (fun v2 w5 fp1 H5 => ?_)
  refine sV rfl (py_assign rfl) (s_nil (W_reg (sV rfl (py_move rfl) (sV rfl (py_add rfl rfl (in64 ⟨by omega, by omega⟩)) (sV rfl (py_assign rfl) (s_nil (⟨(k + 1, _, _), ⟨rfl, rfl, rfl, rfl, trivial⟩, ⟨scaleG_step (xs := xs) (c := c) (k := k) (by omega) ▸ (H5.dtake 1), by omega⟩, by dsimp only; omega⟩)))))))
 ·refine W_exit (W_sr (sV rfl (py_move rfl) (sV rfl (py_assign rfl) (s_nil (W_ret (hQ _ _ (fin1 Tryz.results273 rfl ?_)))))))
  obtain rfl : k = xs.length := by omega
  exact ⟨H2.ext, by
   have h := H2.out 0 rfl
   rwa [List.take_length] at h⟩
theorem Tryz_spec_l1Add {w : World} {xs : List UInt8} {xsA : Option Addr} {xsC : Nat} {ys : List UInt8} {ysA : Option Addr} {ysC : Nat} (xsS : Sees w [.slice xsA xs.length xsC] xs) (ysS : Sees w [.slice ysA ys.length ysC] ys) (hl : xs.length ≤ 1048576 ∧ xs.length ≤ ys.length) : Ret Tryz.prog 194 #[.slice xsA xs.length xsC, .slice ysA ys.length ysC] w fun v w' => Ext No w w' ∧ (Res w w' [v] (addG xs ys)) := by
 have xsL := sees_len xsS
 unfold maxLen at xsL
 obtain ⟨xsF, xsO⟩ := xsS
 have ysL := sees_len ysS
 unfold maxLen at ysL
 obtain ⟨ysF, ysO⟩ := ysS
 refine ret_Q (vs := [.slice xsA xs.length xsC, .slice ysA ys.length ysC]) Tryz.func194 rfl Tryz.ntmps194 rfl (fun Q hQ hN => ?_)
 have H0 := Sep.start (w := w) (F := [seen false [.slice xsA xs.length xsC] xs xsF, seen false [.slice ysA ys.length ysC] ys ysF]) (all_cons xsO (all_cons ysO (by simp)))
 refine W_sr (sV rfl (py_assign rfl) (s_nil (W_sr (s_lit0 (α := UInt8) (wn rfl) rfl Tryz.underlying61 Tryz_ty5 H0 (fun b1 w1 e1 g1 H1 => ?_)))))
 refine sV rfl (py_assign rfl) (s_nil (W_seq (W_sr (sV rfl (py_assign rfl) (s_nil (W_block (W_loop (γ := Nat × Value × List Nat) (fun (k, vo, f) => [(0, .slice xsA xs.length xsC), (1, .slice ysA ys.length ysC), (5, vo), (6, .int .i64 k)]) (fun (k, vo, f) w' => Sep No w [mine [vo] (addG (xs.take k) (ys.take k)) f] [seen false [.slice xsA xs.length xsC] xs xsF, seen false [.slice ysA ys.length ysC] ys ysF] w' ∧ k ≤ xs.length) (fun (k, vo, f) => xs.length - k) (0, _, _) ⟨rfl, rfl, rfl, rfl, trivial⟩ ⟨H1, by omega⟩ (fun (k, vo, f) w2 H2 => ?_))))))))
 obtain ⟨H2, hk⟩ := H2
 refine W_seq (W_sr (sV rfl (py_move rfl) (sV rfl (py_move rfl) (sV rfl (py_len Tryz.underlying61 rfl) (sV rfl (py_lss rfl rfl) (s_nil (W_ifd rfl (fun c1 => ?_) (fun c1 => ?_))))))))
 ·refine W_skip (W_seq (W_block ?_))
  have sl := addG_len (xs := xs.take k) (ys := ys.take k) (by rw [List.length_take, List.length_take]; omega)
  rw [List.length_take] at sl
  obtain ⟨eb1, eo1, ee1, ec1, em1⟩ := elem_u8m (H2.seen 0 rfl) k (by omega)
  obtain ⟨eb2, eo2, ee2, ec2, em2⟩ := elem_u8m (H2.seen 1 rfl) k (by omega)
  refine W_drw (S := Ext (· ∈ f) _) [(0, true), (1, true), (2, true), (3, true), (4, true), (5, true), (6, true), (7, true), (8, true), (9, true), (10, false), (11, false), (12, false)] (by kernel_rfl) (by kernel_rfl) (by kernel_rfl) rfl (fun _ => Ext.refl.drawn _) (fun q1 => ?_)
  have H3 := H2.drawn q1
  refine dV rfl rfl (fun zw hx => py_move rfl) (dV rfl rfl (fun zw hx => py_move rfl) (dV rfl rfl (fun zw hx => py_move rfl) (dV rfl rfl (fun zw hx => py_elz Tryz.underlying61 Tryz.sizeOf5 rfl rfl ee1 k (by omega) (by omega)) (dV rfl rfl (fun zw hx => py_load Tryz.underlying5 rfl rfl (hx.cellM (H3.off 0 rfl 0 rfl em1) ec1)) (dV rfl rfl (fun zw hx => py_move rfl) (dV rfl rfl (fun zw hx => py_move rfl) (dV rfl rfl (fun zw hx => py_elz Tryz.underlying61 Tryz.sizeOf5 rfl rfl ee2 k (by omega) (by omega)) (dV rfl rfl (fun zw hx => py_load Tryz.underlying5 rfl rfl (hx.cellM (H3.off 1 rfl 0 rfl em2) ec2)) (dV rfl rfl (fun zw hx => py_xor8 rfl rfl) (d_lit1 rfl (wn rfl) rfl Tryz.underlying61 Tryz_ty5 rfl rfl rfl rfl H3 (fun _ h e => h.trans e.no) (fun b2 w3 e2 g2 H4 => ?_)))))))))))
  refine d_app1 rfl (wn rfl) rfl Tryz.underlying61 Tryz_ty5 rfl rfl rfl H4 0 1 rfl rfl own_b8 (by unfold maxLen; omega) (by omega) (fun _ h e => h.trans e) (fun v1 w4 fp1 H5 => ?_)
  refine d_end rfl (wn rfl) rfl rfl (py_assign rfl) (d_nil (W_reg (sV rfl (py_move rfl) (sV rfl (py_add rfl rfl (in64 ⟨by omega, by omega⟩)) (sV rfl (py_assign rfl) (s_nil (⟨(k + 1, _, _), ⟨rfl, rfl, rfl, rfl, trivial⟩, ⟨addG_step (xs := xs) (ys := ys) (k := k) (by omega) (by omega) ▸ (H5.dtake 1), by omega⟩, by dsimp only; omega⟩)))))))
 ·refine W_exit (W_sr (sV rfl (py_move rfl) (sV rfl (py_assign rfl) (s_nil (W_ret (hQ _ _ (fin1 Tryz.results194 rfl ?_)))))))
  obtain rfl : k = xs.length := by omega
  exact ⟨H2.ext, by
   have h := H2.out 0 rfl
   rwa [List.take_length, addG_take (by omega)] at h⟩
theorem Tryz_impl_put {w : World} {xs ys : List UInt8} {xsA ysA : Option Addr} {n xsC ysC : Nat} {c : UInt8} {fp g : List Nat} (o : own true w [.slice xsA n xsC] xs fp) (nd : fp.Nodup) (ysO : own false w [.slice ysA ys.length ysC] ys g) (hd : ∀ b ∈ g, b ∉ fp) (hl : xs.length = ys.length) : Ret Tryz.prog 252 #[.slice xsA n xsC, .slice ysA ys.length ysC, .int .u8 c.toNat] w fun v w' => (Mut w w' fp [.slice xsA n xsC] (addG xs (scaleG ys c))) := by
 obtain rfl := own_n o
 have len := own_len_le o
 unfold maxLen at len
 refine ret_Q (vs := [.slice xsA xs.length xsC, .slice ysA ys.length ysC, .int .u8 c.toNat]) Tryz.func252 rfl Tryz.ntmps252 rfl (fun Q hQ hN => ?_)
 have H0 := (Sep.begin o nd).look (r := seen false [.slice ysA ys.length ysC] ys g) ysO (fun b hb => by simpa [blocks, mine] using hd b hb)
 refine W_sr (sV rfl (py_move rfl) (sV rfl (py_len Tryz.underlying61 rfl) (sV rfl (py_move rfl) (s_nil (W_block (W_loop (γ := Nat × List Nat) (fun (k, f) => [(0, .slice xsA xs.length xsC), (2, .int .u8 c.toNat), (8, .slice ysA ys.length ysC), (9, .int .i64 ys.length), (10, .int .i64 k)]) (fun (k, f) w' => Sep (· ∈ fp) w [mine [.slice xsA xs.length xsC] (putG xs ys c k) f] [seen false [.slice ysA ys.length ysC] ys g] w' ∧ k ≤ xs.length) (fun (k, f) => xs.length - k) (0, fp) ⟨rfl, rfl, rfl, rfl, rfl, trivial⟩ ⟨(by rw [putG_zero]; exact H0), by omega⟩ (fun (k, f) w1 H1 => ?_)))))))
 obtain ⟨H1, hk⟩ := H1
 refine W_sr (sV rfl (py_lss rfl rfl) (s_nil (W_seq (W_ifd rfl (fun c1 => ?_) (fun c1 => ?_)))))
 ·refine W_skip (W_seq (W_block (W_seq ?_)))
  obtain ⟨eb1, eo1, ee1, ec1⟩ := elem_u8 (H1.seen 0 rfl) k (by omega)
  refine W_reg (sV rfl (py_move rfl) (sV rfl (py_elz Tryz.underlying61 Tryz.sizeOf5 rfl rfl ee1 k (by omega) (by omega)) (sV rfl (py_load Tryz.underlying5 rfl rfl ec1) (sV rfl (py_assign rfl) (sV rfl (py_assign rfl) (s_nil ?_))))))
  have pl := putG_len (xs := xs) (ys := ys) (c := c) (k := k) hl
  have pg := putG_get (xs := xs) (ys := ys) (c := c) (k := k) hl (by omega)
  obtain ⟨eb2, eo2, ee2, ec2⟩ := elem_u8 (H1.mine 0 rfl) k (by rw [putG_len hl]; omega)
  refine W_drw (S := Ext No _) [(0, true), (1, true), (2, true), (3, true), (4, true), (5, true), (6, false), (7, true), (8, true), (9, false)] (by kernel_rfl) (by kernel_rfl) (by kernel_rfl) rfl (fun _ => Ext.refl.drawn _) (fun q1 => ?_)
  have H2 := H1.drawn q1
  refine dV rfl rfl (fun zw hx => py_move rfl) (dV rfl rfl (fun zw hx => py_move rfl) (dV rfl rfl (fun zw hx => py_elz Tryz.underlying61 Tryz.sizeOf5 rfl rfl ee2 k (by omega) (by omega)) (dV rfl rfl (fun zw hx => py_load Tryz.underlying5 rfl rfl (hx.cell ec2)) (dV rfl rfl (fun zw hx => py_move rfl) (dV rfl rfl (fun zw hx => py_move rfl) (d_call rfl (wn rfl) rfl rfl (pc_call Tryz.func285 rfl Tryz_nm285 rfl) Tryz_impl_MulG (fun hS _ _ r _ => hS.trans r.1.no) (fun v1 w2 r1 => ?_)))))))
  obtain ⟨e1, rfl⟩ := r1
  have H3 := H2.to e1
  refine dV rfl rfl (fun zw hx => py_xor8 rfl rfl) (dV rfl rfl (fun zw hx => py_elz Tryz.underlying61 Tryz.sizeOf5 rfl rfl ee2 k (by omega) (by omega)) (d_elst rfl (wn rfl) Tryz.sizeOf5 rfl H3 0 rfl k (by rw [putG_len hl]; omega) rfl ee2 rfl own_b8 (fun _ _ _ hr => absurd rfl hr) (fun w3 fp1 e2 H4 => ?_)))
  refine d_nil (W_reg (sV rfl (py_add rfl rfl (in64 ⟨by omega, by omega⟩)) (sV rfl (py_move rfl) (s_nil ?_))))
  refine ⟨(k + 1, _), ⟨rfl, rfl, rfl, rfl, rfl, trivial⟩, ⟨by
   have h := H4
   rw [pg, putG_step hl (by omega)] at h
   exact h, by omega⟩, by dsimp only; omega⟩
 ·refine W_exit (hN _ _ (fin0 Tryz.results252 ?_))
  obtain rfl : k = xs.length := by omega
  have h := H1.done
  rw [putG_all rfl hl.symm] at h
  exact h
theorem Tryz_spec_l1Mix {w : World} {xs : List (List UInt8)} {xsA : Option Addr} {xsC : Nat} {ys : List UInt8} {ysA : Option Addr} {ysC : Nat} (xsS : Sees w [.slice xsA xs.length xsC] xs) (ysS : Sees w [.slice ysA ys.length ysC] ys) {n : Nat} (h0 : 0 < xs.length) (hy : xs.length ≤ ys.length) (hx : ∀ i, i < xs.length → (xs.getD i []).length = n) (hn : n ≤ 1048576) : Ret Tryz.prog 225 #[.slice xsA xs.length xsC, .slice ysA ys.length ysC] w fun v w' => Ext No w w' ∧ (Res w w' [v] (mixTo xs ys n xs.length)) := by
 have xsL := sees_len xsS
 unfold maxLen at xsL
 obtain ⟨xsF, xsO⟩ := xsS
 have ysL := sees_len ysS
 unfold maxLen at ysL
 obtain ⟨ysF, ysO⟩ := ysS
 obtain rfl := hx 0 h0
 refine ret_Q (vs := [.slice xsA xs.length xsC, .slice ysA ys.length ysC]) Tryz.func225 rfl Tryz.ntmps225 rfl (fun Q hQ hN => ?_)
 have H0 := Sep.start (w := w) (F := [seen false [.slice xsA xs.length xsC] xs xsF, seen false [.slice ysA ys.length ysC] ys ysF]) (all_cons xsO (all_cons ysO (by simp)))
 refine W_sr (sV rfl (py_assign rfl) (s_nil (W_seq ?_)))
 obtain ⟨eb1, eo1, ea1, ek1, ef1, ee1, ec1, eO1, eH1⟩ := elem_sl (H0.seen 0 rfl) 0 (by omega)
 have eP1 := H0.look1 0 rfl eO1 eH1
 refine W_reg (sV rfl (py_move rfl) (sV rfl (py_elz Tryz.underlying163 Tryz.sizeOf61 rfl rfl ee1 0 (by omega) (by omega)) (sV rfl (py_load Tryz.underlying61 rfl rfl ec1) (sV rfl (py_len Tryz.underlying61 rfl) (s_make (wn rfl) rfl Tryz.underlying61 Tryz_ty5 own_z8 rfl (by omega) (by unfold maxLen; omega) eP1 (fun b1 w1 e1 g1 H1 => ?_))))))
 refine sV rfl (py_assign rfl) (s_nil (W_seq (W_sr (sV rfl (py_assign rfl) (s_nil (W_block (W_loop (γ := Nat × Value × List Nat) (fun (k, vo, f) => [(0, .slice xsA xs.length xsC), (1, .slice ysA ys.length ysC), (5, vo), (6, .int .i64 k)]) (fun (k, vo, f) w' => Sep No w [mine [vo] (mixTo xs ys (xs.getD 0 []).length k) f] [seen false [.slice xsA xs.length xsC] xs xsF, seen false [.slice ysA ys.length ysC] ys ysF] w' ∧ k ≤ xs.length) (fun (k, vo, f) => xs.length - k) (0, _, _) ⟨rfl, rfl, rfl, rfl, trivial⟩ ⟨(H1.ftake 2), by omega⟩ (fun (k, vo, f) w2 H2 => ?_))))))))
 obtain ⟨H2, hk⟩ := H2
 refine W_seq (W_sr (sV rfl (py_move rfl) (sV rfl (py_move rfl) (sV rfl (py_len Tryz.underlying163 rfl) (sV rfl (py_lss rfl rfl) (s_nil (W_ifd rfl (fun c1 => ?_) (fun c1 => ?_))))))))
 ·refine W_skip (W_seq (W_block ?_))
  have ml := mixTo_len (cs := ys) hx (k := k) (by omega)
  have sl := scaleG_len (xs.getD k []) (ys.getD k 0)
  have hxk := hx k (by omega)
  obtain ⟨oA, oC, oq⟩ := own_slice (H2.mine 0 rfl)
  cases oq
  obtain ⟨eb2, eo2, ea2, ek2, ef2, ee2, ec2, eO2, eH2⟩ := elem_sl (H2.seen 0 rfl) k (by omega)
  have eP2 := H2.look1 0 rfl eO2 eH2
  obtain ⟨eb3, eo3, ee3, ec3⟩ := elem_u8 (eP2.seen 1 rfl) k (by omega)
  refine W_drw (S := Ext No _) [(0, true), (1, true), (2, true), (3, true), (4, true), (5, true), (6, true), (7, true), (8, true), (9, false), (10, false), (11, false)] (by kernel_rfl) (by kernel_rfl) (by kernel_rfl) rfl (fun _ => Ext.refl.drawn _) (fun q1 => ?_)
  have H3 := eP2.drawn q1
  refine dV rfl rfl (fun zw hx => py_move rfl) (dV rfl rfl (fun zw hx => py_move rfl) (dV rfl rfl (fun zw hx => py_move rfl) (dV rfl rfl (fun zw hx => py_elz Tryz.underlying163 Tryz.sizeOf61 rfl rfl ee2 k (by omega) (by omega)) (dV rfl rfl (fun zw hx => py_load Tryz.underlying61 rfl rfl (hx.cell ec2)) (dV rfl rfl (fun zw hx => py_move rfl) (dV rfl rfl (fun zw hx => py_move rfl) (dV rfl rfl (fun zw hx => py_elz Tryz.underlying61 Tryz.sizeOf5 rfl rfl ee3 k (by omega) (by omega)) (dV rfl rfl (fun zw hx => py_load Tryz.underlying5 rfl rfl (hx.cell ec3)) (d_call rfl (wn rfl) rfl rfl (pc_call Tryz.func273 rfl Tryz_nm273 rfl) (Tryz_spec_l1Scale (H3.sees 2 rfl) (by omega)) (fun hS _ _ r _ => hS.trans r.1.no) (fun v1 w3 r1 => ?_))))))))))
  obtain ⟨e2, r1⟩ := r1
  obtain ⟨fp1, H4⟩ := H3.res e2 r1
  obtain ⟨a1, k1, q2⟩ := own_slice (H4.mine 1 rfl)
  cases q2
  refine d_call rfl (wn rfl) rfl rfl (pc_call Tryz.func194 rfl Tryz_nm194 rfl) (Tryz_spec_l1Add (H4.msees 0 rfl) (H4.msees 1 rfl) (by omega)) (fun hS _ _ r _ => hS.trans r.1.no) (fun v2 w4 r2 => ?_)
  obtain ⟨e3, r2⟩ := r2
  obtain ⟨fp2, H5⟩ := H4.res e3 r2
  obtain ⟨a2, k2, q3⟩ := own_slice (H5.mine 2 rfl)
  cases q3
  refine d_end rfl (wn rfl) rfl rfl (py_assign rfl) (d_nil (W_reg (sV rfl (py_move rfl) (sV rfl (py_add rfl rfl (in64 ⟨by omega, by omega⟩)) (sV rfl (py_assign rfl) (s_nil (⟨(k + 1, _, _), ⟨rfl, rfl, rfl, rfl, trivial⟩, ⟨H5.ftake 2 |>.sub (.cons _ (.cons _ (.cons_cons _ List.Sublist.slnil))), by omega⟩, by dsimp only; omega⟩)))))))
 ·refine W_exit (W_sr (sV rfl (py_move rfl) (sV rfl (py_assign rfl) (s_nil (W_ret (hQ _ _ (fin1 Tryz.results225 rfl ?_)))))))
  obtain rfl : k = xs.length := by omega
  exact ⟨H2.ext, H2.out 0 rfl⟩
theorem Tryz_impl_mixed {w : World} {xs : List (List UInt8)} {xsA : Option Addr} {xsC : Nat} {ys : List UInt8} {ysA : Option Addr} {ysC : Nat} (xsS : Sees w [.slice xsA xs.length xsC] xs) (ysS : Sees w [.slice ysA ys.length ysC] ys) {n : Nat} (h0 : 0 < xs.length) (hy : xs.length ≤ ys.length) (hx : ∀ i, i < xs.length → (xs.getD i []).length = n) (hn : n ≤ 1048576) : Ret Tryz.prog 230 #[.slice xsA xs.length xsC, .slice ysA ys.length ysC] w fun v w' => Ext No w w' ∧ (Res w w' [v] (mixTo xs ys n xs.length)) := by
 have xsL := sees_len xsS
 unfold maxLen at xsL
 obtain ⟨xsF, xsO⟩ := xsS
 have ysL := sees_len ysS
 unfold maxLen at ysL
 obtain ⟨ysF, ysO⟩ := ysS
 obtain rfl := hx 0 h0
 refine ret_Q (vs := [.slice xsA xs.length xsC, .slice ysA ys.length ysC]) Tryz.func230 rfl Tryz.ntmps230 rfl (fun Q hQ hN => ?_)
 have H0 := Sep.start (w := w) (F := [seen false [.slice xsA xs.length xsC] xs xsF, seen false [.slice ysA ys.length ysC] ys ysF]) (all_cons xsO (all_cons ysO (by simp)))
 refine W_sr (sV rfl (py_assign rfl) (s_nil (W_seq ?_)))
 obtain ⟨eb1, eo1, ea1, ek1, ef1, ee1, ec1, eO1, eH1⟩ := elem_sl (H0.seen 0 rfl) 0 (by omega)
 have eP1 := H0.look1 0 rfl eO1 eH1
 refine W_reg (sV rfl (py_move rfl) (sV rfl (py_elz Tryz.underlying163 Tryz.sizeOf61 rfl rfl ee1 0 (by omega) (by omega)) (sV rfl (py_load Tryz.underlying61 rfl rfl ec1) (sV rfl (py_len Tryz.underlying61 rfl) (s_make (wn rfl) rfl Tryz.underlying61 Tryz_ty5 own_z8 rfl (by omega) (by unfold maxLen; omega) eP1 (fun b1 w1 e1 g1 H1 => ?_))))))
 refine sV rfl (py_assign rfl) (s_nil (W_seq (W_sr (sV rfl (py_move rfl) (sV rfl (py_len Tryz.underlying163 rfl) (sV rfl (py_move rfl) (s_nil (W_block (W_loop (γ := Nat × List Nat) (fun (k, f) => [(1, .slice ysA ys.length ysC), (5, .slice (some ⟨b1, 0, none⟩) (xs.getD 0 []).length (xs.getD 0 []).length), (13, .slice xsA xs.length xsC), (14, .int .i64 xs.length), (15, .int .i64 k)]) (fun (k, f) w' => Sep No w [mine [.slice (some ⟨b1, 0, none⟩) (xs.getD 0 []).length (xs.getD 0 []).length] (mixTo xs ys (xs.getD 0 []).length k) f] [seen false [.slice xsA xs.length xsC] xs xsF, seen false [.slice ysA ys.length ysC] ys ysF] w' ∧ k ≤ xs.length) (fun (k, f) => xs.length - k) (0, _) ⟨rfl, rfl, rfl, rfl, rfl, trivial⟩ ⟨(H1.ftake 2), by omega⟩ (fun (k, f) w2 H2 => ?_))))))))))
 obtain ⟨H2, hk⟩ := H2
 refine W_sr (sV rfl (py_lss rfl rfl) (s_nil (W_seq (W_ifd rfl (fun c1 => ?_) (fun c1 => ?_)))))
 ·refine W_skip (W_seq (W_block (W_seq ?_)))
  obtain ⟨eb2, eo2, ea2, ek2, ef2, ee2, ec2, eO2, eH2⟩ := elem_sl (H2.seen 0 rfl) k (by omega)
  have eP2 := H2.look1 0 rfl eO2 eH2
  refine W_reg (sV rfl (py_move rfl) (sV rfl (py_elz Tryz.underlying163 Tryz.sizeOf61 rfl rfl ee2 k (by omega) (by omega)) (sV rfl (py_load Tryz.underlying61 rfl rfl ec2) (sV rfl (py_assign rfl) (sV rfl (py_assign rfl) (s_nil ?_))))))
  have ml := mixTo_len (cs := ys) hx (k := k) (by omega)
  have sl := scaleG_len (xs.getD k []) (ys.getD k 0)
  have hxk := hx k (by omega)
  obtain ⟨eb3, eo3, ee3, ec3⟩ := elem_u8 (eP2.seen 1 rfl) k (by omega)
  refine W_reg (sV rfl (py_move rfl) (sV rfl (py_move rfl) (sV rfl (py_move rfl) (sV rfl (py_move rfl) (sV rfl (py_elz Tryz.underlying61 Tryz.sizeOf5 rfl rfl ee3 k (by omega) (by omega)) (sV rfl (py_load Tryz.underlying5 rfl rfl ec3) (s_call (wn rfl) rfl rfl (pc_call Tryz.func252 rfl Tryz_nm252 rfl) (Tryz_impl_put (eP2.mine 0 rfl) (eP2.nodup1 (i := 0) rfl) (own_weak (eP2.seen 2 rfl)) (fun b hb => eP2.off 2 rfl 0 rfl hb) (by first | assumption | omega)) (fun v1 w3 r1 => ?_))))))))
  obtain ⟨fp1, H3⟩ := eP2.mut 0 rfl r1
  refine s_nil (W_reg (sV rfl (py_add rfl rfl (in64 ⟨by omega, by omega⟩)) (sV rfl (py_move rfl) (s_nil (⟨(k + 1, _), ⟨rfl, rfl, rfl, rfl, rfl, trivial⟩, ⟨(H3.ftake 2), by omega⟩, by dsimp only; omega⟩)))))
 ·refine W_exit (W_sr (sV rfl (py_move rfl) (sV rfl (py_assign rfl) (s_nil (W_ret (hQ _ _ (fin1 Tryz.results230 rfl ?_)))))))
  obtain rfl : k = xs.length := by omega
  exact ⟨H2.ext, H2.out 0 rfl⟩
theorem Tryz_spec_l2Gen {w : World} {n : Nat} {p : Int} {base : Int} (hn : n ≤ 100 ∧ 0 ≤ base ∧ base ≤ 100 ∧ 0 ≤ p ∧ p ≤ 500) : Ret Tryz.prog 226 #[.int .i64 n, .int .i64 p, .int .i64 base] w fun v w' => Ext No w w' ∧ (Res w w' [v] (genG n p base)) := by
 refine ret_Q (vs := [.int .i64 n, .int .i64 p, .int .i64 base]) Tryz.func226 rfl Tryz.ntmps226 rfl (fun Q hQ hN => ?_)
 have H0 := Sep.start (w := w) (F := []) (by simp)
 refine W_sr (sV rfl (py_assign rfl) (s_nil (W_sr (sV rfl (py_move rfl) (s_make (wn rfl) rfl Tryz.underlying61 Tryz_ty5 own_z8 rfl (by omega) (by unfold maxLen; omega) H0 (fun b1 w1 e1 g1 H1 => ?_))))))
 refine sV rfl (py_assign rfl) (s_nil (W_seq (W_sr (sV rfl (py_assign rfl) (s_nil (W_block (W_loop (γ := Nat × List Nat) (fun (k, f) => [(0, .int .i64 n), (1, .int .i64 p), (2, .int .i64 base), (7, .slice (some ⟨b1, 0, none⟩) n n), (8, .int .i64 k)]) (fun (k, f) w' => Sep No w [mine [.slice (some ⟨b1, 0, none⟩) n n] (fillG (genAt n p base) n k) f] [] w' ∧ k ≤ n) (fun (k, f) => n - k) (0, [b1]) ⟨rfl, rfl, rfl, rfl, rfl, trivial⟩ ⟨(by rw [fillG_zero]; exact H1), by omega⟩ (fun (k, f) w2 H2 => ?_))))))))
 obtain ⟨H2, hk⟩ := H2
 refine W_seq (W_sr (sV rfl (py_move rfl) (sV rfl (py_move rfl) (sV rfl (py_lss rfl rfl) (s_nil (W_ifd rfl (fun c1 => ?_) (fun c1 => ?_)))))))
 ·refine W_skip (W_seq (W_block (W_sr (sV rfl (py_move rfl) (sV rfl (py_move rfl) (sV rfl (py_geq rfl rfl) (s_nil (W_ifd rfl (fun c2 => ?_) (fun c2 => ?_)))))))))
  ·obtain ⟨eb1, eo1, ee1, ec1⟩ := elem_u8 (H2.mine 0 rfl) k (by rw [fillG_len (by omega)]; omega)
   refine W_reg (sV rfl (py_move rfl) (sV rfl (py_move rfl) (sV rfl (py_move rfl) (sV rfl (py_move rfl) (sV rfl (py_add rfl rfl (in64 ⟨by omega, by omega⟩)) (sV rfl (py_move rfl) (sV rfl (py_sub rfl rfl (in64 ⟨by omega, by omega⟩)) (sV rfl (py_move rfl) (s_call (wn rfl) rfl rfl (pc_call Tryz.func274 rfl Tryz_nm274 rfl) (Tryz_spec_l1Cauchy (by omega)) (fun v1 w3 r1 => ?_))))))))))
   obtain ⟨e2, rfl⟩ := r1
   have H3 := H2.to e2
   refine sV rfl (py_elz Tryz.underlying61 Tryz.sizeOf5 rfl rfl ee1 k (by omega) (by omega)) (s_elst (wn rfl) Tryz.sizeOf5 rfl H3 0 rfl k (by rw [fillG_len (by omega)]; omega) rfl ee1 rfl own_b8 (fun w4 fp1 e3 H4 => ?_))
   refine s_nil (W_reg (sV rfl (py_move rfl) (sV rfl (py_add rfl rfl (in64 ⟨by omega, by omega⟩)) (sV rfl (py_assign rfl) (s_nil ?_)))))
   refine ⟨(k + 1, _), ⟨rfl, rfl, rfl, rfl, rfl, trivial⟩, ⟨by
    have h := H4
    rw [fillG_set (by omega) (by rw [genAt, if_pos (by omega)])] at h
    exact h, by omega⟩, by dsimp only; omega⟩
  ·refine W_sr (sV rfl (py_move rfl) (sV rfl (py_move rfl) (sV rfl (py_eql rfl rfl) (s_nil (W_ifd rfl (fun c3 => ?_) (fun c3 => ?_))))))
   ·obtain ⟨eb2, eo2, ee2, ec2⟩ := elem_u8 (H2.mine 0 rfl) k (by rw [fillG_len (by omega)]; omega)
    refine W_reg (sV rfl (py_move rfl) (sV rfl (py_move rfl) (sV rfl (py_elz Tryz.underlying61 Tryz.sizeOf5 rfl rfl ee2 k (by omega) (by omega)) (s_elst (wn rfl) Tryz.sizeOf5 rfl H2 0 rfl k (by rw [fillG_len (by omega)]; omega) rfl ee2 rfl (own_b8 (x := 1)) (fun w5 fp2 e4 H5 => ?_)))))
    refine s_nil (W_reg (sV rfl (py_move rfl) (sV rfl (py_add rfl rfl (in64 ⟨by omega, by omega⟩)) (sV rfl (py_assign rfl) (s_nil ?_)))))
    refine ⟨(k + 1, _), ⟨rfl, rfl, rfl, rfl, rfl, trivial⟩, ⟨by
     have h := H5
     rw [fillG_set (by omega) (by rw [genAt, if_neg (by omega), if_pos (by omega)])] at h
     exact h, by omega⟩, by dsimp only; omega⟩
   ·refine W_skip (W_reg (sV rfl (py_move rfl) (sV rfl (py_add rfl rfl (in64 ⟨by omega, by omega⟩)) (sV rfl (py_assign rfl) (s_nil ?_)))))
    refine ⟨(k + 1, _), ⟨rfl, rfl, rfl, rfl, rfl, trivial⟩, ⟨by
     have h := H2
     rw [fillG_skip (by omega) (by rw [genAt, if_neg (by omega), if_neg (by omega)])] at h
     exact h, by omega⟩, by dsimp only; omega⟩
 ·refine W_exit (W_sr (sV rfl (py_move rfl) (sV rfl (py_assign rfl) (s_nil (W_ret (hQ _ _ (fin1 Tryz.results226 rfl ?_)))))))
  obtain rfl : k = n := by omega
  exact ⟨H2.ext, by
   have h := H2.out 0 rfl
   rwa [fillG_all] at h⟩
theorem Tryz_impl_rowCode_weights {w : World} {n : Nat} {s p : Int} (hn : n ≤ 100 ∧ 0 ≤ p ∧ p ≤ 500) : Ret Tryz.prog 231 #[.agg #[.int .i64 n, .int .i64 s], .int .i64 p] w fun v w' => Ext No w w' ∧ (Res w w' [v] (genG n p 0)) := by
 refine ret_Q (vs := [.agg #[.int .i64 n, .int .i64 s], .int .i64 p]) Tryz.func231 rfl Tryz.ntmps231 rfl (fun Q hQ hN => ?_)
 have H0 := Sep.start (w := w) (F := []) (by simp)
 refine W_sr (s_box (wn rfl) rfl rfl H0 (fun b1 w1 e1 g1 H1 => ?_))
 refine sV rfl (py_assign rfl) (s_nil (W_sr (sV rfl (py_field Tryz.underlying166 rfl Tryz.sizeOf2 rfl rfl) (sV rfl (py_load Tryz.underlying2 rfl rfl (cell_atL (H1.box 0 rfl) rfl)) (s_make (wn rfl) rfl Tryz.underlying61 Tryz_ty5 own_z8 rfl (by omega) (by unfold maxLen; omega) H1 (fun b2 w2 e2 g2 H2 => ?_))))))
 refine sV rfl (py_assign rfl) (s_nil (W_seq (W_sr (sV rfl (py_field Tryz.underlying166 rfl Tryz.sizeOf2 rfl rfl) (sV rfl (py_load Tryz.underlying2 rfl rfl (cell_atL (H2.box 0 rfl) rfl)) (sV rfl (py_move rfl) (s_nil (W_block (W_loop (γ := Nat × List Nat) (fun (k, f) => [(1, .int .i64 p), (2, .pointer (some ⟨b1, 0, none⟩)), (5, .slice (some ⟨b2, 0, none⟩) n n), (11, .int .i64 n), (12, .int .i64 k)]) (fun (k, f) w' => Sep No w [box b1 (.cells #[.int .i64 n, .int .i64 s] 166), mine [.slice (some ⟨b2, 0, none⟩) n n] (fillG (genAt n p 0) n k) f] [] w' ∧ k ≤ n) (fun (k, f) => n - k) (0, [b2]) ⟨rfl, rfl, rfl, rfl, rfl, trivial⟩ ⟨(by rw [fillG_zero]; exact H2), by omega⟩ (fun (k, f) w3 H3 => ?_))))))))))
 obtain ⟨H3, hk⟩ := H3
 refine W_sr (sV rfl (py_lss rfl rfl) (s_nil (W_seq (W_ifd rfl (fun c1 => ?_) (fun c1 => ?_)))))
 ·refine W_skip (W_seq (W_block (W_sr (sV rfl (py_move rfl) (sV rfl (py_assign rfl) (s_nil (W_block (W_sr (sV rfl (py_move rfl) (sV rfl (py_field Tryz.underlying166 rfl Tryz.sizeOf2 rfl rfl) (sV rfl (py_load Tryz.underlying2 rfl rfl (cell_atL (H3.box 0 rfl) rfl)) (sV rfl (py_geq rfl rfl) (sV rfl (py_assign rfl) (s_nil (W_ifd rfl (fun c2 => ?_) (fun c2 => ?_))))))))))))))))
  ·obtain ⟨eb1, eo1, ee1, ec1⟩ := elem_u8 (H3.mine 1 rfl) k (by rw [fillG_len (by omega)]; omega)
   refine W_reg (sV rfl (py_move rfl) (sV rfl (py_move rfl) (sV rfl (py_move rfl) (sV rfl (py_field Tryz.underlying166 rfl Tryz.sizeOf2 rfl rfl) (sV rfl (py_load Tryz.underlying2 rfl rfl (cell_atL (H3.box 0 rfl) rfl)) (sV rfl (py_sub rfl rfl (in64 ⟨by omega, by omega⟩)) (sV rfl (py_move rfl) (s_call (wn rfl) rfl rfl (pc_call Tryz.func277 rfl Tryz_nm277 rfl) (Tryz_impl_cauchy (by omega)) (fun v1 w4 r1 => ?_)))))))))
   obtain ⟨e3, rfl⟩ := r1
   have H4 := H3.to e3
   refine sV rfl (py_elz Tryz.underlying61 Tryz.sizeOf5 rfl rfl ee1 k (by omega) (by omega)) (s_elst (wn rfl) Tryz.sizeOf5 rfl H4 1 rfl k (by rw [fillG_len (by omega)]; omega) rfl ee1 rfl own_b8 (fun w5 fp1 e4 H5 => ?_))
   refine s_nil (W_reg (sV rfl (py_add rfl rfl (in64 ⟨by omega, by omega⟩)) (sV rfl (py_move rfl) (s_nil ?_))))
   refine ⟨(k + 1, _), ⟨rfl, rfl, rfl, rfl, rfl, trivial⟩, ⟨by
    have h := H5
    rw [fillG_set (by omega) (by rw [genAt, if_pos (by omega)]; congr 1; omega)] at h
    exact h, by omega⟩, by dsimp only; omega⟩
  ·refine W_sr (sV rfl (py_move rfl) (sV rfl (py_move rfl) (sV rfl (py_eql rfl rfl) (sV rfl (py_assign rfl) (s_nil (W_ifd rfl (fun c3 => ?_) (fun c3 => ?_)))))))
   ·obtain ⟨eb2, eo2, ee2, ec2⟩ := elem_u8 (H3.mine 1 rfl) k (by rw [fillG_len (by omega)]; omega)
    refine W_reg (sV rfl (py_move rfl) (sV rfl (py_move rfl) (sV rfl (py_elz Tryz.underlying61 Tryz.sizeOf5 rfl rfl ee2 k (by omega) (by omega)) (s_elst (wn rfl) Tryz.sizeOf5 rfl H3 1 rfl k (by rw [fillG_len (by omega)]; omega) rfl ee2 rfl (own_b8 (x := 1)) (fun w6 fp2 e5 H6 => ?_)))))
    refine s_nil (W_reg (sV rfl (py_add rfl rfl (in64 ⟨by omega, by omega⟩)) (sV rfl (py_move rfl) (s_nil ?_))))
    refine ⟨(k + 1, _), ⟨rfl, rfl, rfl, rfl, rfl, trivial⟩, ⟨by
     have h := H6
     rw [fillG_set (by omega) (by rw [genAt, if_neg (by omega), if_pos (by omega)])] at h
     exact h, by omega⟩, by dsimp only; omega⟩
   ·refine W_skip (W_reg (sV rfl (py_add rfl rfl (in64 ⟨by omega, by omega⟩)) (sV rfl (py_move rfl) (s_nil ?_))))
    refine ⟨(k + 1, _), ⟨rfl, rfl, rfl, rfl, rfl, trivial⟩, ⟨by
     have h := H3
     rw [fillG_skip (by omega) (by rw [genAt, if_neg (by omega), if_neg (by omega)])] at h
     exact h, by omega⟩, by dsimp only; omega⟩
 ·refine W_exit (W_sr (sV rfl (py_move rfl) (sV rfl (py_assign rfl) (s_nil (W_ret (hQ _ _ (fin1 Tryz.results231 rfl ?_)))))))
  obtain rfl : k = n := by omega
  exact ⟨H3.ext, by
   have h := H3.out 1 rfl
   rwa [fillG_all] at h⟩
theorem Tryz_impl_rowCode_blocks {w : World} {n s : Int} (hn : 0 ≤ n ∧ n ≤ 1000 ∧ 0 ≤ s ∧ s ≤ 1000) : Ret Tryz.prog 229 #[.agg #[.int .i64 n, .int .i64 s]] w fun v w' => Ext No w w' ∧ (v = .int .i64 (n + s)) := by
 refine ret_Q (vs := [.agg #[.int .i64 n, .int .i64 s]]) Tryz.func229 rfl Tryz.ntmps229 rfl (fun Q hQ hN => ?_)
 have H0 := Sep.start (w := w) (F := []) (by simp)
 refine W_sr (s_box (wn rfl) rfl rfl H0 (fun b1 w1 e1 g1 H1 => ?_))
 refine sV rfl (py_assign rfl) (s_nil (W_sr (sV rfl (py_field Tryz.underlying166 rfl Tryz.sizeOf2 rfl rfl) (sV rfl (py_load Tryz.underlying2 rfl rfl (cell_atL (H1.box 0 rfl) rfl)) (sV rfl (py_field Tryz.underlying166 rfl Tryz.sizeOf2 rfl rfl) (sV rfl (py_load Tryz.underlying2 rfl rfl (cell_atL (H1.box 0 rfl) rfl)) (sV rfl (py_add rfl rfl (in64 ⟨by omega, by omega⟩)) (sV rfl (py_assign rfl) (s_nil (W_ret (hQ _ _ (fin1 Tryz.results229 rfl ?_))))))))))))
 exact ⟨H1.ext, rfl⟩
end Go.Wk
namespace Go.Wk
open Go.Proofs Rp
set_option maxRecDepth 10000
theorem Tryz_chunkgo {w : World} {l b1 b2 n q m xsC : Nat} {xsA : Option Addr} {J : Nat → World → Prop} (hm : 1 ≤ m ∧ m ≤ 1000000) (hn : n = q * m ∧ n ≤ xsC ∧ n ≤ 4611686018427387904) (hJd : ∀ i W k, J i W → J i { W with drawn := k })
  (hb : ∀ i W, J i W → W.heap[b1]? = some (.cells [.slice xsA n xsC].toArray 61) ∧ W.heap[b2]? = some (.cells [.int .i64 m].toArray 3))
  (hY : ∀ i W, J i W → i < q → YieldAt (inF none) 2 Tryz.prog l #[.slice (slA xsA (i * m) (i * m + m) 1) (i * m + m - i * m) (i * m + m - i * m)] W fun e W' => e = .returned (.bool true) ∧ J (i + 1) W') (h0 : J 0 w) :
  Ret Tryz.prog 276 #[.func (.yield l) #[] #[], .pointer (some ⟨b1, 0, none⟩), .pointer (some ⟨b2, 0, none⟩)] w fun _ w' => J q w' := by
 refine ret_Q (vs := [.func (.yield l) #[] #[], .pointer (some ⟨b1, 0, none⟩), .pointer (some ⟨b2, 0, none⟩)]) Tryz.func276 rfl Tryz.ntmps276 rfl (fun Q hQ hN => ?_)
 refine W_sr (sV rfl (py_assign rfl) (s_nil (W_block (W_loop (γ := Nat) (fun i => [(0, .func (.yield l) #[] #[]), (1, .pointer (some ⟨b1, 0, none⟩)), (2, .pointer (some ⟨b2, 0, none⟩)), (4, .int .i64 ((i * m : Nat) : Int))]) (fun i w' => i ≤ q ∧ J i w') (fun i => q - i) 0 ⟨rfl, rfl, rfl, eqI (by simp), trivial⟩ ⟨Nat.zero_le _, h0⟩ (fun i w1 hI => ?_)))))
 obtain ⟨hi, hJ⟩ := hI
 obtain ⟨h1, h2⟩ := hb i w1 hJ
 have p1 : i * m ≤ n := by rw [hn.1]; exact Nat.mul_le_mul_right _ hi
 have p3 : ¬ i < q → i * m = n := fun h => by rw [hn.1]; congr 1; omega
 refine W_seq (W_sr (sV rfl (py_move rfl) (sV rfl (py_load Tryz.underlying61 rfl rfl (cell_atL h1 rfl)) (sV rfl (py_len Tryz.underlying61 rfl) (sV rfl (py_lss rfl rfl) (s_nil (W_ifd rfl (fun c1 => ?_) (fun c1 => ?_))))))))
 ·have iq : i < q := Decidable.byContradiction fun h => by have := p3 h; omega
  have p2 := mul_step hn.1 iq
  refine W_skip (W_seq (W_block (W_seq (W_drw (S := fun x => x.heap = w1.heap) [(0, true), (1, true), (2, true), (3, true), (4, true), (5, true), (6, false)] (by kernel_rfl) (by kernel_rfl) (by kernel_rfl) rfl (fun _ => rfl) (fun kk => ?_)))))
  refine d_val rfl (wn rfl) rfl rfl (fun x hx => py_load Tryz.underlying3 rfl rfl (cell_atL (by rw [hx]; exact h2) rfl)) (d_val rfl (wn rfl) rfl rfl (fun x hx => py_load Tryz.underlying61 rfl rfl (cell_atL (by rw [hx]; exact h1) rfl)) (d_val rfl (wn rfl) rfl rfl (fun x hx => py_move rfl) (d_val rfl (wn rfl) rfl rfl (fun x hx => py_slcL Tryz.underlying61 Tryz.sizeOf5 rfl rfl (i * m) rfl p1) (d_val rfl (wn rfl) rfl rfl (fun x hx => py_len Tryz.underlying61 rfl) (d_val rfl (wn rfl) rfl rfl (fun x hx => py_min rfl rfl) (d_end rfl (wn rfl) rfl rfl (py_assign rfl) ((d_nil (W_weak (M := [(0, .func (.yield l) #[] #[]), (1, .pointer (some ⟨b1, 0, none⟩)), (2, .pointer (some ⟨b2, 0, none⟩)), (4, .int .i64 ((i * m : Nat) : Int)), (5, .int .i64 m)]) ⟨rfl, rfl, rfl, rfl, eqI (if_neg (by omega)), trivial⟩ (W_seq (W_of (WF_reg (f_val (wn rfl) rfl rfl (py_move rfl) (f_val (wn rfl) rfl rfl (py_load Tryz.underlying61 rfl rfl (cell_atL h1 rfl)) (f_val (wn rfl) rfl rfl (py_move rfl) (f_val (wn rfl) rfl rfl (py_move rfl) (f_val (wn rfl) rfl rfl (py_move rfl) (f_val (wn rfl) rfl rfl (py_add rfl rfl (in64 ⟨by omega, by omega⟩)) (f_val (wn rfl) rfl rfl (py_move rfl) (f_val (wn rfl) rfl rfl (py_move rfl) (f_val (wn rfl) rfl rfl (py_add rfl rfl (in64 ⟨by omega, by omega⟩)) (f_val (wn rfl) rfl rfl (py_slcM Tryz.underlying61 Tryz.sizeOf5 rfl rfl rfl rfl (i * m) (i * m + m) (i * m + m) rfl (by omega) (by omega) (by omega) (Nat.le_refl _) (by omega)) (f_yield rfl rfl rfl (hY i _ (hJd _ _ _ hJ) iq) (fun e w2 he => ?_))))))))))))))))))))))))
  obtain ⟨rfl, hJ2⟩ := he
  refine ⟨_, rfl, ?_⟩
  refine f_val (wn rfl) rfl rfl (py_not rfl) (f_nil (W_iff rfl (W_skip (W_reg (sV rfl (py_move rfl) (sV rfl (py_load Tryz.underlying3 rfl rfl (cell_atL (hb _ _ hJ2).2 rfl)) (sV rfl (py_add rfl rfl (in64 ⟨by omega, by omega⟩)) (sV rfl (py_assign rfl) (s_nil (⟨i + 1, ⟨rfl, rfl, rfl, eqI (by rw [Nat.succ_mul]; omega), trivial⟩, ⟨iq, hJ2⟩, by dsimp only; omega⟩))))))))))
 ·have iq : ¬ i < q := fun h => by have := mul_step hn.1 h; omega
  obtain rfl : i = q := by omega
  refine W_exit (hN _ _ (fin0 Tryz.results276 ?_))
  exact hJ
theorem Tryz_appendseq {w : World} {b1 b2 n q m xsC : Nat} {xsA : Option Addr} (hm : 1 ≤ m ∧ m ≤ 1000000) (hn : n = q * m ∧ n ≤ xsC ∧ n ≤ 1000000000)
  (h1 : w.heap[b1]? = some (.cells [.slice xsA n xsC].toArray 61)) (h2 : w.heap[b2]? = some (.cells [.int .i64 m].toArray 3)) :
  Ret Tryz.prog 275 #[.slice none 0 0, .func (.func 276) #[] #[.pointer (some ⟨b1, 0, none⟩), .pointer (some ⟨b2, 0, none⟩)]] w fun v w' => Ext No w w' ∧ Res w w' [v] (chunkV xsA m q) := by
 refine ret_marks (vs := [.slice none 0 0, .func (.func 276) #[] #[.pointer (some ⟨b1, 0, none⟩), .pointer (some ⟨b2, 0, none⟩)]]) Tryz.func275 rfl Tryz.ntmps275 rfl (fun a ha => ?_)
 have qn : q ≤ n := by rw [hn.1]; exact Nat.le_mul_of_pos_right _ (by omega)
 have H0 : Sep No w [] [box b1 (.cells [.slice xsA n xsC].toArray 61), box b2 (.cells [.int .i64 m].toArray 3)] w := Sep.start (by intro r hr; simp at hr; rcases hr with rfl | rfl; exact h1; exact h2)
 refine seqF (L := argsL 0 _) (B := fun L' w' => ∃ b, sub L' [(1, .func (.func 276) #[] #[.pointer (some ⟨b1, 0, none⟩), .pointer (some ⟨b2, 0, none⟩)]), (2, .pointer (some ⟨b, 0, none⟩))] ∧ Sep No w [box b (.cells [.slice none 0 0].toArray 163)] [box b1 (.cells [.slice xsA n xsC].toArray 61), box b2 (.cells [.int .i64 m].toArray 3)] w') ha ?_ (fun a1 L1 w1 ha1 hB => ?_)
 ·refine WF_reg (f_box (wn rfl) rfl rfl H0 (fun b w1 _ _ H1 => ?_))
  refine f_val (wn rfl) rfl rfl (py_assign rfl) ?_
  exact f_nil ⟨rfl, b, ⟨rfl, rfl, trivial⟩, H1⟩
 obtain ⟨Bs, hs, H1⟩ := hB
 have ha2 := ha1.weak hs
 refine wpIn_seq (seqF (B := fun L' w' => sub L' [(6, .func (.func 276) #[] #[.pointer (some ⟨b1, 0, none⟩), .pointer (some ⟨b2, 0, none⟩)]), (2, .pointer (some ⟨Bs, 0, none⟩))] ∧ w' = w1) ha2 ?_ (fun a3 L3 w3 ha3 hB => ?_))
 ·refine WF_reg (f_val (wn rfl) rfl rfl (py_move rfl) ?_)
  exact f_nil ⟨rfl, ⟨rfl, rfl, trivial⟩, rfl⟩
 obtain ⟨hs3, rfl⟩ := hB
 have ha4 := ha3.weak hs3
 refine wpIn_block ?_
 let F0 : List Rsc := [box b1 (.cells [.slice xsA n xsC].toArray 61), box b2 (.cells [.int .i64 m].toArray 3)]
 refine WF_range ha4 (lb := #[.pointer (some ⟨b1, 0, none⟩), .pointer (some ⟨b2, 0, none⟩)]) rfl Tryz.func276 rfl Tryz_nm276
  (K := fun W => ∃ v fp o, Sep No w [box Bs (.cells [v].toArray 163), mine [v] (chunkV xsA m q) fp, box w3.heap.size (.deferred (some [])), box (w3.heap.size + 1) o] F0 W) (fun R fn hR => ?_) (fun W hK => ?_)
 ·have e1 : (w3.alloc (.deferred (some []))).heap.size = w3.heap.size + 1 := by simp
  have HA := (H1.alloc (.deferred (some []))).alloc (.loop (R .ready none))
  rw [e1] at HA
  have HB := HA.perm (Γ := [box Bs (.cells [.slice none 0 0].toArray 163), box w3.heap.size (.deferred (some [])), box (w3.heap.size + 1) (.loop (R .ready none))]) (by simp)
  have HC : Sep No w [box Bs (.cells [.slice none 0 0].toArray 163), mine [.slice none 0 0] ((chunkV xsA m q).take 0) [], box w3.heap.size (.deferred (some [])), box (w3.heap.size + 1) (.loop (R .ready none))] F0 ((w3.alloc (.deferred (some []))).alloc (.loop (R .ready none))) :=
   ⟨HB.ext, by
    intro r hr
    simp only [List.mem_cons, List.not_mem_nil, or_false] at hr
    rcases hr with rfl | rfl | rfl | rfl
    ·exact HB.rs _ (by simp)
    ·exact .inr (.inl ⟨rfl, by simp, rfl⟩)
    ·exact HB.rs _ (by simp)
    ·exact HB.rs _ (by simp), by simpa [blocks, mine, Wk.box] using HB.nd, by simpa [blocks, mine, Wk.box] using HB.new, HB.fs, by simpa [blocks, mine, Wk.box, F0] using HB.ap⟩
  refine Ret.mono (Tryz_chunkgo (xsA := xsA) (J := fun i W => ∃ v fp, Sep No w [box Bs (.cells [v].toArray 163), mine [v] ((chunkV xsA m q).take i) fp, box w3.heap.size (.deferred (some [])), box (w3.heap.size + 1) (.loop (R .ready none))] F0 W) hm ⟨hn.1, hn.2.1, by omega⟩ ?_ ?_ ?_ ⟨_, _, HC⟩) ?_
  ·rintro i W k ⟨v, fp, H⟩
   exact ⟨v, fp, H.drawn k⟩
  ·rintro i W ⟨v, fp, H⟩
   exact ⟨H.fs (box b1 _) (by simp [F0]), H.fs (box b2 _) (by simp [F0])⟩
  ·rintro i W ⟨v, fp, H⟩ iq
   have cl : ((chunkV xsA m q).take i).length = i := by rw [List.length_take, chunkV_len]; omega
   have hy := yield_at (P := Tryz.prog) (u := .slice (slA xsA (i * m) (i * m + m) 1) (i * m + m - i * m) (i * m + m - i * m)) hR ha4.1 rfl (H.box 3 rfl)
    (L2 := [(5, .slice (slA xsA (i * m) (i * m + m) 1) (i * m + m - i * m) (i * m + m - i * m)), (2, .pointer (some ⟨Bs, 0, none⟩))])
    (B := fun W2 => ∃ v fp, Sep No w [box Bs (.cells [v].toArray 163), mine [v] ((chunkV xsA m q).take (i + 1)) fp, box w3.heap.size (.deferred (some [])), box (w3.heap.size + 1) (.loop (R .busy none))] F0 W2)
    (by
     refine WF_reg (f_val (wn rfl) rfl rfl (py_assign rfl) ?_)
     exact f_nil ⟨rfl, rfl, ⟨rfl, rfl, trivial⟩⟩)
    (by
     have H2 := H.put 3 (.loop (R .busy none)) rfl
     dsimp only [List.set_cons_zero, List.set_cons_succ] at H2
     refine WF_block (WF_reg (f_val (wn rfl) rfl rfl (py_load Tryz.underlying163 rfl rfl (cell_atL (H2.box 0 rfl) rfl)) (f_val (wn rfl) rfl rfl (py_move rfl) (f_lit1 (wn rfl) rfl Tryz.underlying163 Tryz_ty61 rfl rfl rfl rfl H2 (fun b w5 _ _ H3 => ?_)))))
     refine f_app1 (α := View) (u := ⟨slA xsA (i * m) (i * m + m) 1, i * m + m - i * m, i * m + m - i * m⟩) (wn rfl) rfl Tryz.underlying163 Tryz_ty61 rfl rfl rfl H3 1 4 rfl rfl ⟨rfl, rfl⟩ (by unfold maxLen; omega) (by omega) (fun v' w6 fp' H4 => ?_)
     dsimp only [List.nil_append, List.cons_append, List.set_cons_zero, List.set_cons_succ] at H4
     obtain ⟨a', c', he⟩ := own_slice (H4.mine 1 rfl)
     cases he
     refine f_sto (wn rfl) Tryz.sizeOf163 rfl rfl rfl H4 0 rfl rfl (fun w7 _ H5 => ?_)
     dsimp only [List.nil_append, List.cons_append, List.set_cons_zero, List.set_cons_succ] at H5
     have H6 := H5.dtake 4
     have e2 : i * m + m - i * m = m := by omega
     have e3 := chunkV_step (A := xsA) (m := m) iq
     rw [e2, e3] at H6
     exact f_nil ⟨rfl, H5.box 3 rfl, _, _, H6⟩)
   obtain ⟨f1, t1, s1, o1, r1, k1⟩ := hy
   refine ⟨f1, t1, s1, o1, r1, k1.mono fun e W' he => ?_⟩
   obtain ⟨he, W2, ⟨v2, fp2, H2⟩, hl2, rfl⟩ := he
   have H3 := H2.put 3 (.loop (R .ready none)) rfl
   exact ⟨he, v2, fp2, H3⟩
  ·rintro _ W2 ⟨v, fp, H⟩
   have H3 := H.put 3 (.loop (R .exhausted none)) rfl
   rw [List.take_of_length_le (by rw [chunkV_len]; exact Nat.le_refl _)] at H3
   exact ⟨H.box 3 rfl, v, fp, _, H3⟩
 ·obtain ⟨v, fp, o, H⟩ := hK
  show Code.wpIn _ _ _ _ _ _ _
  have ha5 : GoodD [{ target := .collected w3.heap.size, args := #[] }] 13 { a3 with defers := [{ target := .collected w3.heap.size, args := #[] }] } [(2, .pointer (some ⟨Bs, 0, none⟩))] :=
   ⟨by have := ha4.1; exact this.weak ⟨rfl, trivial⟩, rfl⟩
  refine seqF (B := fun L' w' => sub L' [(4, v)] ∧ w' = W) ha5 ?_ (fun a6 L6 w6 ha6 hB => ?_)
  ·refine WF_reg (f_val (wn rfl) rfl rfl (py_load Tryz.underlying163 rfl rfl (cell_atL (H.box 0 rfl) rfl)) (f_val (wn rfl) rfl rfl (py_assign rfl) ?_))
   exact f_nil ⟨rfl, ⟨rfl, trivial⟩, rfl⟩
  obtain ⟨hs6, rfl⟩ := hB
  refine wpIn_ret ?_
  have H7 := H.put 2 (.deferred none) rfl
  refine ⟨.inr rfl, w3.heap.size, [(4, v)], ha6.weak hs6, H.box 2 rfl, fin1 Tryz.results275 rfl ?_⟩
  exact ⟨H7.ext, H7.out 1 rfl⟩
theorem Tryz_collect {w : World} {b1 b2 n q m xsC : Nat} {xsA : Option Addr} (hm : 1 ≤ m ∧ m ≤ 1000000) (hn : n = q * m ∧ n ≤ xsC ∧ n ≤ 1000000000)
  (h1 : w.heap[b1]? = some (.cells [.slice xsA n xsC].toArray 61)) (h2 : w.heap[b2]? = some (.cells [.int .i64 m].toArray 3)) :
  Ret Tryz.prog 227 #[.func (.func 276) #[] #[.pointer (some ⟨b1, 0, none⟩), .pointer (some ⟨b2, 0, none⟩)]] w fun v w' => Ext No w w' ∧ Res w w' [v] (chunkV xsA m q) := by
 refine ret_Q (vs := [.func (.func 276) #[] #[.pointer (some ⟨b1, 0, none⟩), .pointer (some ⟨b2, 0, none⟩)]]) Tryz.func227 rfl Tryz.ntmps227 rfl (fun Q hQ hN => ?_)
 refine W_sr (sV rfl (py_assign rfl) (s_nil (W_sr (sV rfl (py_move rfl) (s_call (wn rfl) rfl rfl (pc_call Tryz.func275 rfl Tryz_nm275 rfl) (Tryz_appendseq hm hn h1 h2) (fun v w1 r => ?_))))))
 refine sV rfl (py_assign rfl) (s_nil (W_ret (hQ _ _ (fin1 Tryz.results227 rfl ?_))))
 exact r
theorem Tryz_chunk {w : World} {n m xsC : Nat} {xsA : Option Addr} (hm : 1 ≤ m) :
  Ret Tryz.prog 228 #[.slice xsA n xsC, .int .i64 m] w fun v w' => Ext No w w' ∧ ∃ b1 b2, v = .func (.func 276) #[] #[.pointer (some ⟨b1, 0, none⟩), .pointer (some ⟨b2, 0, none⟩)] ∧ w'.heap[b1]? = some (.cells [.slice xsA n xsC].toArray 61) ∧ w'.heap[b2]? = some (.cells [.int .i64 m].toArray 3) := by
 refine ret_Q (vs := [.slice xsA n xsC, .int .i64 m]) Tryz.func228 rfl Tryz.ntmps228 rfl (fun Q hQ hN => ?_)
 have H0 := Sep.start (w := w) (F := []) (by simp)
 refine W_sr (s_box (wn rfl) rfl rfl H0 (fun b1 w1 e1 g1 H1 => ?_))
 refine s_box (wn rfl) rfl rfl H1 (fun b2 w2 e2 g2 H2 => ?_)
 dsimp only [List.nil_append, List.cons_append] at H2
 refine sV rfl (py_assign rfl) (s_nil (W_seq (W_sr (sV rfl (py_load Tryz.underlying3 rfl rfl (cell_atL (H2.box 1 rfl) rfl)) (sV rfl (py_lss rfl rfl) (s_nil (W_ifd rfl (fun c1 => ?_) (fun c1 => ?_))))))))
 ·exact absurd c1 (by omega)
 refine W_skip (W_sr (sV rfl (py_func rfl) (sV rfl (py_assign rfl) (s_nil (W_ret (hQ _ _ (fin1 Tryz.results228 rfl ?_)))))))
 exact ⟨H2.ext, b1, b2, rfl, H2.box 0 rfl, H2.box 1 rfl⟩
end Go.Wk
namespace Go.Wk
open Go.Proofs Rp
set_option maxRecDepth 10000
theorem Tryz_impl_rowCode_encode {w : World} {x y : Int} {n s : Nat} {xs : List UInt8} {xsA : Option Addr} {xsC : Nat} (hx : x = n) (hy : y = s) (hn : 1 ≤ n ∧ n ≤ 3 ∧ s ≤ 2) (hl : xs.length = n * 4) (xsS : Sees w [.slice xsA xs.length xsC] xs) : Ret Tryz.prog 161 #[.agg #[.int .i64 x, .int .i64 y], .slice xsA xs.length xsC] w fun v w' => Ext No w w' ∧ (Res w w' [v] (encG n (n + s) xs)) := by
 subst hx; subst hy
 have xsL := sees_len xsS
 unfold maxLen at xsL
 obtain ⟨xsF, xsO⟩ := xsS
 refine ret_Q (vs := [.agg #[.int .i64 n, .int .i64 s], .slice xsA xs.length xsC]) Tryz.func161 rfl Tryz.ntmps161 rfl (fun Q hQ hN => ?_)
 have H0 := Sep.start (w := w) (F := [seen false [.slice xsA xs.length xsC] xs xsF]) (all_cons xsO (by simp))
 refine W_sr (s_box (wn rfl) rfl rfl H0 (fun b1 w1 e1 g1 H1 => ?_))
 refine sV rfl (py_assign rfl) (s_nil (W_sr (sV rfl (py_move rfl) (s_call (wn rfl) rfl rfl (pc_call Tryz.func228 rfl Tryz_nm228 rfl) (Tryz_chunk (m := 4) (by omega)) (fun chv w1 r1 => ?_)))))
 obtain ⟨ce1, cb1, cb2, rfl, p1, p2⟩ := r1
 have HC1 := H1.to ce1
 have xc := own_le_cap (HC1.seen 0 rfl)
 refine s_call (wn rfl) rfl rfl (pc_call Tryz.func227 rfl Tryz_nm227 rfl) (Tryz_collect (m := 4) (q := n) (by omega) ⟨by omega, by omega, by omega⟩ p1 p2) (fun cv w2 r2 => ?_)
 obtain ⟨e2, cf, co, cn, cfr⟩ := r2
 have HC2 := HC1.to e2
 obtain ⟨cg, og, sg⟩ := own_chunks (HC2.seen 0 rfl) (m := 4) (q := n) (by omega) hl (by omega)
 obtain ⟨ch, oh, sh⟩ := own_views co og (by rw [chunkV_len, chunks_len])
 obtain ⟨dA, dC, dq⟩ := own_slice oh
 cases dq
 have HC3 := HC2.look (r := seen false [.slice dA (chunks xs 4 n).length dC] (chunks xs 4 n) ch) oh (fun b hb hb2 => by
  rcases sh b hb with h | h
  ·have := cfr b h; have := HC1.lt b hb2; omega
  ·exact HC2.ap _ (List.mem_of_getElem? (i := 0) rfl) b (sg b h) hb2)
 have cl : (chunks xs 4 n).length = n := chunks_len
 have ca := chunks_all hl
 refine sV rfl (py_assign rfl) (s_nil (W_sr (s_lit0 (α := (List UInt8)) (wn rfl) rfl Tryz.underlying163 Tryz_ty61 HC3 (fun b2 w2 e2 g2 H2 => ?_))))
 refine sV rfl (py_assign rfl) (s_nil (W_seq (W_sr (sV rfl (py_loadS Tryz.underlying166 rfl Tryz.sizeOf166 rfl rfl (At.whole (H2.box 0 rfl))) (s_call (wn rfl) rfl rfl (pc_call Tryz.func229 rfl Tryz_nm229 rfl) (Tryz_impl_rowCode_blocks (by omega)) (fun v1 w3 r1 => ?_))))))
 obtain ⟨e3, rfl⟩ := r1
 have H3 := H2.to e3
 refine sV rfl (py_move rfl) (s_nil (W_block (W_loop (γ := Nat × Value × List Nat) (fun (k, vo, f) => [(2, .pointer (some ⟨b1, 0, none⟩)), (5, .slice dA (chunks xs 4 n).length dC), (6, vo), (13, .int .i64 ((n : Int) + s)), (14, .int .i64 k)]) (fun (k, vo, f) w' => Sep No w [box b1 (.cells #[.int .i64 n, .int .i64 s] 166), mine [vo] (encG n k xs) f] [seen false [.slice xsA xs.length xsC] xs xsF, seen false [.slice dA (chunks xs 4 n).length dC] (chunks xs 4 n) ch] w' ∧ k ≤ n + s) (fun (k, vo, f) => n + s - k) (0, _, _) ⟨rfl, rfl, rfl, rfl, rfl, trivial⟩ ⟨H3, by omega⟩ (fun (k, vo, f) w4 H4 => ?_))))
 obtain ⟨H4, hk⟩ := H4
 refine W_sr (sV rfl (py_lss rfl rfl) (s_nil (W_seq (W_ifd rfl (fun c1 => ?_) (fun c1 => ?_)))))
 ·refine W_skip (W_seq (W_block (W_sr (sV rfl (py_move rfl) (sV rfl (py_assign rfl) (s_nil ?_))))))
  have gl : (genG n k 0).length = n := genG_len
  have encE : mixTo (chunks xs 4 n) (genG n k 0) 4 (chunks xs 4 n).length = encK xs n k := rfl
  have el := encG_len (n := n) (m := k) (xs := xs)
  refine W_reg (sV rfl (py_move rfl) (sV rfl (py_move rfl) (sV rfl (py_loadS Tryz.underlying166 rfl Tryz.sizeOf166 rfl rfl (At.whole (H4.box 0 rfl))) (sV rfl (py_move rfl) (s_call (wn rfl) rfl rfl (pc_call Tryz.func231 rfl Tryz_nm231 rfl) (Tryz_impl_rowCode_weights (by omega)) (fun v2 w5 r2 => ?_))))))
  obtain ⟨e4, r2⟩ := r2
  obtain ⟨fp1, H5⟩ := H4.res e4 r2
  obtain ⟨a1, k1, q1⟩ := own_slice (H5.mine 2 rfl)
  cases q1
  refine s_call (wn rfl) rfl rfl (pc_call Tryz.func230 rfl Tryz_nm230 rfl) (Tryz_impl_mixed (H5.sees 1 rfl) (H5.msees 2 rfl) (by omega) (by omega) (by assumption) (by omega)) (fun v3 w6 r3 => ?_)
  obtain ⟨e5, r3⟩ := r3
  obtain ⟨fp2, H6⟩ := H5.res e5 r3
  obtain ⟨a2, k2, q2⟩ := own_slice (H6.mine 3 rfl)
  cases q2
  refine s_lit1 (wn rfl) rfl Tryz.underlying163 Tryz_ty61 rfl rfl rfl rfl H6 (fun b3 w7 e6 g3 H7 => ?_)
  refine s_app2 (wn rfl) rfl Tryz.underlying163 Tryz_ty61 rfl rfl rfl H7 1 4 3 rfl rfl rfl rfl (by unfold maxLen; omega) (by omega) (fun v4 w8 fp3 H8 => ?_)
  refine sV rfl (py_assign rfl) (s_nil (W_reg (sV rfl (py_add rfl rfl (in64 ⟨by omega, by omega⟩)) (sV rfl (py_move rfl) (s_nil ?_)))))
  have hz := H8.ftake 2 |>.sub (.cons_cons _ (.cons_cons _ (.cons _ (.cons _ (.cons _ List.Sublist.slnil)))))
  rw [encE, encG_step] at hz
  refine ⟨(k + 1, _, _), ⟨rfl, rfl, rfl, rfl, rfl, trivial⟩, ⟨hz, by omega⟩, by dsimp only; omega⟩
 ·refine W_exit (W_sr (sV rfl (py_move rfl) (sV rfl (py_assign rfl) (s_nil (W_ret (hQ _ _ (fin1 Tryz.results161 rfl ?_)))))))
  obtain rfl : k = n + s := by omega
  exact ⟨H4.ext, H4.out 1 rfl⟩
theorem Tryz_spec_l2Encode {w : World} {x y : Int} {n s : Nat} {xs : List UInt8} {xsA : Option Addr} {xsC : Nat} (hx : x = n) (hy : y = s) (hn : 1 ≤ n ∧ n ≤ 3 ∧ s ≤ 2) (hl : xs.length = n * 4) (xsS : Sees w [.slice xsA xs.length xsC] xs) : Ret Tryz.prog 158 #[.int .i64 x, .int .i64 y, .slice xsA xs.length xsC] w fun v w' => Ext No w w' ∧ (ResS w w' [v] (encG n (n + s) xs)) := by
 subst hx; subst hy
 have xsL := sees_len xsS
 unfold maxLen at xsL
 obtain ⟨xsF, xsO⟩ := xsS
 refine ret_Q (vs := [.int .i64 n, .int .i64 s, .slice xsA xs.length xsC]) Tryz.func158 rfl Tryz.ntmps158 rfl (fun Q hQ hN => ?_)
 have H0 := Sep.start (w := w) (F := [seen false [.slice xsA xs.length xsC] xs xsF]) (all_cons xsO (by simp))
 refine W_sr (sV rfl (py_assign rfl) (s_nil (W_sr (s_lit0 (α := (List UInt8)) (wn rfl) rfl Tryz.underlying163 Tryz_ty61 H0 (fun b1 w1 e1 g1 H1 => ?_)))))
 refine sV rfl (py_assign rfl) (s_nil (W_seq (W_sr (sV rfl (py_assign rfl) (s_nil (W_block (W_loop (γ := Nat × Value × List Nat) (fun (k, vo, f) => [(0, .int .i64 n), (1, .int .i64 s), (2, .slice xsA xs.length xsC), (7, vo), (8, .int .i64 k)]) (fun (k, vo, f) w' => Sep No w [mine [vo] (chunks xs 4 k) f] [seen false [.slice xsA xs.length xsC] xs xsF] w' ∧ k ≤ n) (fun (k, vo, f) => n - k) (0, _, _) ⟨rfl, rfl, rfl, rfl, rfl, trivial⟩ ⟨H1, by omega⟩ (fun (k, vo, f) w2 H2 => ?_))))))))
 obtain ⟨H2, hk⟩ := H2
 refine W_seq (W_sr (sV rfl (py_move rfl) (sV rfl (py_move rfl) (sV rfl (py_lss rfl rfl) (s_nil (W_ifd rfl (fun c1 => ?_) (fun c1 => ?_)))))))
 ·refine W_skip (W_seq (W_block ?_))
  have kl := chunks_len (xs := xs) (m := 4) (q := k)
  refine W_reg (sV rfl (py_move rfl) (s_lit0 (α := UInt8) (wn rfl) rfl Tryz.underlying61 Tryz_ty5 H2 (fun b2 w3 e2 g2 H3 => ?_)))
  refine sV rfl (py_move rfl) (sV rfl (py_move rfl) (sV rfl (py_mul rfl rfl (in64 ⟨by omega, by omega⟩)) (sV rfl (py_move rfl) (sV rfl (py_add rfl rfl (in64 ⟨by omega, by omega⟩)) (sV rfl (py_mul rfl rfl (in64 ⟨by omega, by omega⟩)) ?_)))))
  have sc1 := own_le_cap (H3.seen 0 rfl)
  obtain ⟨sf1, so1, ss1⟩ := own_cutL (H3.seen 0 rfl) (k * 4) (k * 4 + 4) _ (by omega) (by omega) (by omega) (Nat.le_refl _)
  have H4 := H3.look1 0 rfl so1 ss1
  have sl1 := cut_len (xs := xs) (l := k * 4) (h := k * 4 + 4) (by omega)
  refine sV rfl (py_slcN Tryz.underlying61 Tryz.sizeOf5 rfl rfl rfl (k * 4) (k * 4 + 4) (by omega) (by omega) (by omega) (by omega) sl1) ((s_appF (wn rfl) rfl Tryz.underlying61 Tryz_ty5 rfl rfl rfl H4 1 rfl (H4.seen 1 rfl) (by (try simp only [List.length_nil]); unfold maxLen; omega) (by (try simp only [List.length_nil]); omega) (fun v1 w4 fp1 H5 => ?_)))
  obtain ⟨a1, k1, q1⟩ := own_slice (H5.mine 1 rfl)
  cases q1
  refine s_lit1 (wn rfl) rfl Tryz.underlying163 Tryz_ty61 rfl rfl rfl rfl H5 (fun b3 w5 e3 g3 H6 => ?_)
  refine s_app2 (wn rfl) rfl Tryz.underlying163 Tryz_ty61 rfl rfl rfl H6 0 2 1 rfl rfl rfl rfl (by unfold maxLen; omega) (by omega) (fun v2 w6 fp2 H7 => ?_)
  refine sV rfl (py_assign rfl) (s_nil (W_reg (sV rfl (py_move rfl) (sV rfl (py_add rfl rfl (in64 ⟨by omega, by omega⟩)) (sV rfl (py_assign rfl) (s_nil ?_))))))
  have hz := H7.ftake 1 |>.sub (.cons_cons _ (.cons _ (.cons _ List.Sublist.slnil)))
  rw [List.nil_append, chunks_step] at hz
  refine ⟨(k + 1, _, _), ⟨rfl, rfl, rfl, rfl, rfl, trivial⟩, ⟨hz, by omega⟩, by dsimp only; omega⟩
 ·refine W_exit (W_seq ?_)
  obtain rfl : n = k := by omega
  refine W_reg (s_lit0 (α := View) (wn rfl) rfl Tryz.underlying163 Tryz_ty61 H2 (fun b4 w7 e4 g4 H8 => ?_))
  refine sV rfl (py_move rfl) ?_
  obtain ⟨pA, pC, pq⟩ := own_slice (H8.mine 0 rfl)
  cases pq
  have HP := H8.share 0 rfl
  try dsimp only [List.nil_append, List.cons_append, List.set_cons_zero, List.set_cons_succ] at HP
  have pfr := H8.freshD 0 rfl
  have cl : (chunks xs 4 n).length = n := chunks_len
  refine s_appV (wn rfl) rfl Tryz.underlying163 Tryz_ty61 rfl rfl rfl HP 1 1 rfl rfl (by rw [cl]; omega) (by rw [cl]; unfold maxLen; simp; omega) (by rw [cl]; simp; omega) (fun vo w9 ofp us ug ul us2 HQ => ?_)
  try dsimp only [List.nil_append, List.cons_append, List.set_cons_zero, List.set_cons_succ] at HQ
  have ugf : ∀ b ∈ ug, w.heap.size ≤ b := fun b hb => pfr b (us2 b hb)
  have HR := HQ.sub (.cons _ (.cons_cons _ List.Sublist.slnil))
  have HZ := HR
  refine sV rfl (py_assign rfl) (s_nil (W_seq (W_sr (sV rfl (py_assign rfl) (s_nil (W_block (W_loop (γ := Nat × Value × List Nat × List View × List Nat) (fun (j, vo, f2, us, ug) => [(0, .int .i64 n), (1, .int .i64 s), (7, .slice pA (chunks xs 4 n).length pC), (9, vo), (10, .int .i64 j)]) (fun (j, vo, f2, us, ug) w' => Sep No w [mine [vo] us f2] [seen false [.slice xsA xs.length xsC] xs xsF, seen true [.slice pA (chunks xs 4 n).length pC] (chunks xs 4 n) f, rows us (encS n j xs) ug] w' ∧ j ≤ s ∧ us.length = (encS n j xs).length ∧ ∀ b ∈ ug, w.heap.size ≤ b) (fun (j, vo, f2, us, ug) => s - j) (0, _, _, _, _) ⟨rfl, rfl, rfl, rfl, rfl, trivial⟩ ⟨by rw [encS_zero]; exact HR, by omega, by rw [encS_zero]; exact ul, ugf⟩ (fun (j, vo, f2, us, ug) w8 H9 => ?_))))))))
  obtain ⟨H9, hj, ul, ugf⟩ := H9
  refine W_seq (W_sr (sV rfl (py_move rfl) (sV rfl (py_move rfl) (sV rfl (py_lss rfl rfl) (s_nil (W_ifd rfl (fun c2 => ?_) (fun c2 => ?_)))))))
  ·refine W_skip (W_seq (W_block ?_))
   have gl : (genG n ((n : Int) + j) 0).length = n := genG_len
   have ca := chunks_all hl
   have encE : mixTo (chunks xs 4 n) (genG n ((n : Int) + j) 0) 4 (chunks xs 4 n).length = encK xs n ((n : Int) + j) := rfl
   have el := encS_len (n := n) (m := j) (xs := xs)
   refine W_reg (sV rfl (py_move rfl) (sV rfl (py_move rfl) (sV rfl (py_move rfl) (sV rfl (py_move rfl) (sV rfl (py_move rfl) (sV rfl (py_add rfl rfl (in64 ⟨by omega, by omega⟩)) (s_call (wn rfl) rfl rfl (pc_call Tryz.func226 rfl Tryz_nm226 rfl) (Tryz_spec_l2Gen (by omega)) (fun v3 w9 r1 => ?_))))))))
   obtain ⟨e5, r1⟩ := r1
   obtain ⟨fp3, H10⟩ := H9.res e5 r1
   obtain ⟨a2, k2, q2⟩ := own_slice (H10.mine 1 rfl)
   cases q2
   refine s_call (wn rfl) rfl rfl (pc_call Tryz.func225 rfl Tryz_nm225 rfl) (Tryz_spec_l1Mix (H10.sees 1 rfl) (H10.msees 1 rfl) (by omega) (by omega) (by assumption) (by omega)) (fun v4 w10 r2 => ?_)
   obtain ⟨e6, r2⟩ := r2
   obtain ⟨fp4, H11⟩ := H10.res e6 r2
   obtain ⟨a3, k3, q3⟩ := own_slice (H11.mine 2 rfl)
   cases q3
   refine s_lit1 (wn rfl) rfl Tryz.underlying163 Tryz_ty61 rfl rfl rfl rfl H11 (fun b5 w11 e7 g5 H12 => ?_)
   refine s_app1 (α := View) (u := ⟨_, _, _⟩) (wn rfl) rfl Tryz.underlying163 Tryz_ty61 rfl rfl rfl H12 0 3 rfl rfl ⟨rfl, rfl⟩ (by unfold maxLen; omega) (by omega) (fun vo2 w9 ofp2 HA => ?_)
   try dsimp only [List.nil_append, List.cons_append, List.set_cons_zero, List.set_cons_succ] at HA
   refine sV rfl (py_assign rfl) (s_nil (W_reg (sV rfl (py_move rfl) (sV rfl (py_add rfl rfl (in64 ⟨by omega, by omega⟩)) (sV rfl (py_assign rfl) (s_nil ?_))))))
   have xfr := HA.freshD 2 rfl
   have HB := HA.share 2 rfl
   try dsimp only [List.nil_append, List.cons_append, List.set_cons_zero, List.set_cons_succ] at HB
   have hro := rows_snoc (HB.fs (rows us (encS n j xs) ug) (List.mem_of_getElem? (i := 2) rfl)) ul (HB.seen 3 rfl)
   have HD := HB.fto (F' := [seen false [.slice xsA xs.length xsC] xs xsF, seen true [.slice pA (chunks xs 4 n).length pC] (chunks xs 4 n) f, rows _ _ _]) (all_cons ⟨HB.fs _ (List.mem_of_getElem? (i := 0) rfl), HB.ap _ (List.mem_of_getElem? (i := 0) rfl)⟩ (all_cons ⟨HB.fs _ (List.mem_of_getElem? (i := 1) rfl), HB.ap _ (List.mem_of_getElem? (i := 1) rfl)⟩ (all_cons ⟨hro, fun b hb => (List.mem_append.1 hb).elim (HB.ap _ (List.mem_of_getElem? (i := 2) rfl) b) (HB.ap _ (List.mem_of_getElem? (i := 3) rfl) b)⟩ (by simp))))
   have HE := HD.sub (.cons_cons _ (.cons _ (.cons _ (.cons _ List.Sublist.slnil))))
   refine ⟨(j + 1, _, _, _, _), ⟨rfl, rfl, rfl, rfl, rfl, trivial⟩, ⟨by rw [encE, encS_step] at HE; exact HE, by omega, by rw [encS_len]; simp [ul, encS_len]; omega, fun b hb => (List.mem_append.1 hb).elim (ugf b) (xfr b)⟩, by dsimp only; omega⟩
  ·refine W_exit (W_sr (sV rfl (py_move rfl) (sV rfl (py_assign rfl) (s_nil (W_ret (hQ _ _ (fin1 Tryz.results158 rfl ?_)))))))
   obtain rfl : j = s := by omega
   rw [encS_eq hl] at ul
   have hro := H9.fs (rows us (encS n j xs) ug) (List.mem_of_getElem? (i := 2) rfl)
   rw [encS_eq hl] at hro
   obtain ⟨fp, o, sf⟩ := own_views (H9.mine 0 rfl) hro ul
   exact ⟨H9.ext, fp, o, fun b hb => (sf b hb).elim (H9.freshD 0 rfl b) (ugf b)⟩
end Go.Wk
namespace Go.Wk
open Go.Proofs Rp
set_option maxRecDepth 10000
theorem Tryz_spec_l2Same {w : World} {xs : List UInt8} {xsA : Option Addr} {xsC : Nat} {ys : List UInt8} {ysA : Option Addr} {ysC : Nat} (xsS : Sees w [.slice xsA xs.length xsC] xs) (ysS : Sees w [.slice ysA ys.length ysC] ys) : Ret Tryz.prog 159 #[.slice xsA xs.length xsC, .slice ysA ys.length ysC] w fun v w' => Ext No w w' ∧ (v = .bool (decide (xs = ys))) := by
 have xsL := sees_len xsS
 unfold maxLen at xsL
 obtain ⟨xsF, xsO⟩ := xsS
 have ysL := sees_len ysS
 unfold maxLen at ysL
 obtain ⟨ysF, ysO⟩ := ysS
 refine ret_Q (vs := [.slice xsA xs.length xsC, .slice ysA ys.length ysC]) Tryz.func159 rfl Tryz.ntmps159 rfl (fun Q hQ hN => ?_)
 have H0 := Sep.start (w := w) (F := [seen false [.slice xsA xs.length xsC] xs xsF, seen false [.slice ysA ys.length ysC] ys ysF]) (all_cons xsO (all_cons ysO (by simp)))
 refine W_sr (sV rfl (py_assign rfl) (s_nil (W_seq (W_sr (sV rfl (py_move rfl) (sV rfl (py_len Tryz.underlying61 rfl) (sV rfl (py_move rfl) (sV rfl (py_len Tryz.underlying61 rfl) (sV rfl (py_neq rfl rfl) (s_nil (W_ifd rfl (fun c1 => ?_) (fun c1 => ?_))))))))))))
 ·refine W_sr (sV rfl (py_assign rfl) (s_nil (W_ret (hQ _ _ (fin1 Tryz.results159 rfl (⟨H0.ext, ?_⟩))))))
  rw [decide_eq_false (fun e => by subst e; exact c1 rfl)]
 ·refine W_skip (W_seq (W_sr (sV rfl (py_assign rfl) (s_nil (W_block (W_loop (γ := Nat) (fun k => [(0, .slice xsA xs.length xsC), (1, .slice ysA ys.length ysC), (5, .int .i64 k)]) (fun k w' => Sep No w [] [seen false [.slice xsA xs.length xsC] xs xsF, seen false [.slice ysA ys.length ysC] ys ysF] w' ∧ k ≤ xs.length ∧ (∀ i, i < k → xs.getD i 0 = ys.getD i 0)) (fun k => xs.length - k) 0 ⟨rfl, rfl, rfl, trivial⟩ ⟨H0, by omega, fun i hi => by omega⟩ (fun k w1 H1 => ?_)))))))
  obtain ⟨H1, hk, he⟩ := H1
  refine W_seq (W_sr (sV rfl (py_move rfl) (sV rfl (py_move rfl) (sV rfl (py_len Tryz.underlying61 rfl) (sV rfl (py_lss rfl rfl) (s_nil (W_ifd rfl (fun c2 => ?_) (fun c2 => ?_))))))))
  ·refine W_skip (W_seq (W_block (W_seq ?_)))
   obtain ⟨eb1, eo1, ee1, ec1⟩ := elem_u8 (H1.seen 0 rfl) k (by omega)
   obtain ⟨eb2, eo2, ee2, ec2⟩ := elem_u8 (H1.seen 1 rfl) k (by omega)
   refine W_drw (S := Ext No _) [(0, true), (1, true), (2, true), (3, true), (4, true), (5, true), (6, true), (7, true), (8, false)] (by kernel_rfl) (by kernel_rfl) (by kernel_rfl) rfl (fun _ => Ext.refl.drawn _) (fun q1 => ?_)
   have H2 := H1.drawn q1
   refine dV rfl rfl (fun zw hx => py_move rfl) (dV rfl rfl (fun zw hx => py_move rfl) (dV rfl rfl (fun zw hx => py_elz Tryz.underlying61 Tryz.sizeOf5 rfl rfl ee1 k (by omega) (by omega)) (dV rfl rfl (fun zw hx => py_load Tryz.underlying5 rfl rfl (hx.cell ec1)) (dV rfl rfl (fun zw hx => py_move rfl) (dV rfl rfl (fun zw hx => py_move rfl) (dV rfl rfl (fun zw hx => py_elz Tryz.underlying61 Tryz.sizeOf5 rfl rfl ee2 k (by omega) (by omega)) (dV rfl rfl (fun zw hx => py_load Tryz.underlying5 rfl rfl (hx.cell ec2)) (d_end rfl (wn rfl) rfl rfl (py_neq rfl rfl) (d_nil (W_ifd rfl (fun c3 => ?_) (fun c3 => ?_)))))))))))
   ·refine W_sr (sV rfl (py_assign rfl) (s_nil (W_ret (hQ _ _ (fin1 Tryz.results159 rfl (⟨H2.ext, ?_⟩))))))
    rw [decide_eq_false (fun e => by subst e; exact c3 rfl)]
   ·refine W_skip (W_reg (sV rfl (py_move rfl) (sV rfl (py_add rfl rfl (in64 ⟨by omega, by omega⟩)) (sV rfl (py_assign rfl) (s_nil ?_)))))
    have c4 : xs.getD k 0 = ys.getD k 0 := by apply u8_inj.1; omega
    refine ⟨k + 1, ⟨rfl, rfl, rfl, trivial⟩, ⟨H2, by omega, fun i hi => ?_⟩, by dsimp only; omega⟩
    by_cases e : i = k
    ·subst e; exact c4
    ·exact he i (by omega)
  ·refine W_exit (W_sr (sV rfl (py_assign rfl) (s_nil (W_ret (hQ _ _ (fin1 Tryz.results159 rfl (⟨H1.ext, ?_⟩)))))))
   rw [decide_eq_true (getD_ext (d := 0) (by omega) fun i hi => he i (by omega))]
end Go.Wk
namespace Go.Wk
open Go.Proofs Rp
set_option maxRecDepth 10000
theorem Tryz_slices_Clone_byte_byte {w : World} {xs : List UInt8} {xsA : Option Addr} {xsC : Nat} (xsS : Sees w [.slice xsA xs.length xsC] xs) (hl : xs.length ≤ 100000000) : Ret Tryz.prog 197 #[.slice xsA xs.length xsC] w fun v w' => Ext No w w' ∧ (Res w w' [v] xs) := by
 have xsL := sees_len xsS
 unfold maxLen at xsL
 obtain ⟨xsF, xsO⟩ := xsS
 refine ret_Q (vs := [.slice xsA xs.length xsC]) Tryz.func197 rfl Tryz.ntmps197 rfl (fun Q hQ hN => ?_)
 have H0 := Sep.start (w := w) (F := [seen false [.slice xsA xs.length xsC] xs xsF]) (all_cons xsO (by simp))
 refine W_sr (sV rfl (py_assign rfl) (s_nil (W_seq (W_sr (sV rfl (py_move rfl) (sV rfl (py_slnil Tryz.underlying61 rfl rfl) (s_nil (W_if rfl (fun c1 => ?_) (fun c1 => ?_)))))))))
 ·refine W_sr (sV rfl (py_assign rfl) (s_nil (W_ret (hQ _ _ (fin1 Tryz.results197 rfl ?_)))))
  have e : xs = [] := own_none xsO c1
  exact ⟨H0.ext, e ▸ ⟨[], .inr (.inl ⟨rfl, rfl, rfl⟩), .nil, by simp⟩⟩
 ·refine W_skip (W_sr (s_lit0 (α := UInt8) (wn rfl) rfl Tryz.underlying61 Tryz_ty5 H0 (fun b1 w1 e1 g1 H1 => ?_)))
  refine sV rfl (py_move rfl) (s_appF (wn rfl) rfl Tryz.underlying61 Tryz_ty5 rfl rfl rfl H1 0 rfl (H1.seen 0 rfl) (by (try simp only [List.length_nil]); unfold maxLen; omega) (by (try simp only [List.length_nil]); omega) (fun v1 w2 fp1 H2 => ?_))
  refine sV rfl (py_assign rfl) (s_nil (W_ret (hQ _ _ (fin1 Tryz.results197 rfl ?_))))
  exact ⟨H2.ext, by
   have h := H2.out 0 rfl
   rwa [List.nil_append] at h⟩
theorem Tryz_impl_sum {w : World} {xs : List UInt8} {xsA : Option Addr} {xsC : Nat} {ys : List UInt8} {ysA : Option Addr} {ysC : Nat} {c : UInt8} (xsS : Sees w [.slice xsA xs.length xsC] xs) (ysS : Sees w [.slice ysA ys.length ysC] ys) (hl : xs.length = ys.length ∧ xs.length ≤ 100000) : Ret Tryz.prog 195 #[.slice xsA xs.length xsC, .slice ysA ys.length ysC, .int .u8 c.toNat] w fun v w' => Ext No w w' ∧ (Res w w' [v] (addG xs (scaleG ys c))) := by
 have xsL := sees_len xsS
 unfold maxLen at xsL
 obtain ⟨xsF, xsO⟩ := xsS
 have ysL := sees_len ysS
 unfold maxLen at ysL
 obtain ⟨ysF, ysO⟩ := ysS
 refine ret_Q (vs := [.slice xsA xs.length xsC, .slice ysA ys.length ysC, .int .u8 c.toNat]) Tryz.func195 rfl Tryz.ntmps195 rfl (fun Q hQ hN => ?_)
 have H0 := Sep.start (w := w) (F := [seen false [.slice xsA xs.length xsC] xs xsF, seen false [.slice ysA ys.length ysC] ys ysF]) (all_cons xsO (all_cons ysO (by simp)))
 refine W_sr (sV rfl (py_assign rfl) (s_nil (W_sr (sV rfl (py_move rfl) (s_call (wn rfl) rfl rfl (pc_call Tryz.func197 rfl Tryz_nm197 rfl) (Tryz_slices_Clone_byte_byte (H0.sees 0 rfl) (by omega)) (fun v1 w1 r1 => ?_))))))
 obtain ⟨e1, r1⟩ := r1
 obtain ⟨fp1, H1⟩ := H0.res e1 r1
 obtain ⟨a1, k1, q1⟩ := own_slice (H1.mine 0 rfl)
 cases q1
 refine sV rfl (py_assign rfl) (s_nil (W_sr (sV rfl (py_move rfl) (sV rfl (py_move rfl) (sV rfl (py_move rfl) (s_call (wn rfl) rfl rfl (pc_call Tryz.func252 rfl Tryz_nm252 rfl) (Tryz_impl_put (H1.mine 0 rfl) (H1.nodup1 (i := 0) rfl) (own_weak (H1.seen 1 rfl)) (fun b hb => H1.off 1 rfl 0 rfl hb) (by first | assumption | omega)) (fun v2 w2 r2 => ?_)))))))
 obtain ⟨fp2, H2⟩ := H1.mut 0 rfl r2
 refine s_nil (W_sr (sV rfl (py_move rfl) (sV rfl (py_assign rfl) (s_nil (W_ret (hQ _ _ (fin1 Tryz.results195 rfl ?_)))))))
 exact ⟨H2.ext, H2.out 0 rfl⟩
end Go.Wk
namespace Go.Wk
open Go.Proofs Rp
set_option maxRecDepth 10000
theorem Tryz_impl_scaled {w : World} {xs : List UInt8} {xsA : Option Addr} {xsC : Nat} {c : UInt8} (xsS : Sees w [.slice xsA xs.length xsC] xs) (hl : xs.length ≤ 100000) : Ret Tryz.prog 299 #[.slice xsA xs.length xsC, .int .u8 c.toNat] w fun v w' => Ext No w w' ∧ (Res w w' [v] (scaleG xs c)) := by
 have xsL := sees_len xsS
 unfold maxLen at xsL
 obtain ⟨xsF, xsO⟩ := xsS
 refine ret_Q (vs := [.slice xsA xs.length xsC, .int .u8 c.toNat]) Tryz.func299 rfl Tryz.ntmps299 rfl (fun Q hQ hN => ?_)
 have H0 := Sep.start (w := w) (F := [seen false [.slice xsA xs.length xsC] xs xsF]) (all_cons xsO (by simp))
 refine W_sr (sV rfl (py_assign rfl) (s_nil (W_sr (sV rfl (py_move rfl) (sV rfl (py_len Tryz.underlying61 rfl) (s_make (wn rfl) rfl Tryz.underlying61 Tryz_ty5 own_z8 rfl (by omega) (by unfold maxLen; omega) H0 (fun b1 w1 e1 g1 H1 => ?_)))))))
 refine sV rfl (py_assign rfl) (s_nil (W_seq ?_))
 have rl : (List.replicate xs.length (0 : UInt8)).length = xs.length := List.length_replicate
 refine W_reg (sV rfl (py_move rfl) (sV rfl (py_move rfl) (sV rfl (py_move rfl) (s_call (wn rfl) rfl rfl (pc_call Tryz.func252 rfl Tryz_nm252 rfl) (Tryz_impl_put (H1.mine 0 rfl) (H1.nodup1 (i := 0) rfl) (own_weak (H1.seen 0 rfl)) (fun b hb => H1.off 0 rfl 0 rfl hb) (by first | assumption | omega)) (fun v1 w2 r1 => ?_)))))
 obtain ⟨fp1, H2⟩ := H1.mut 0 rfl r1
 refine s_nil (W_sr (sV rfl (py_move rfl) (sV rfl (py_assign rfl) (s_nil (W_ret (hQ _ _ (fin1 Tryz.results299 rfl ?_)))))))
 exact ⟨H2.ext, by
  have h := H2.out 0 rfl
  rwa [addG_zero_l (scaleG_len xs c)] at h⟩
theorem Tryz_impl_reduce {w : World} {K l n : Nat} {m : Mat} {vs0 : List View} {VA : Option Addr} {VC : Nat} {fp g0 : List Nat} (o : own true w [.slice VA K VC] vs0 fp) (nd : fp.Nodup) (hr0 : ownL false w (vs0.map View.val) m g0) (hd : ∀ b ∈ g0, b ∉ fp) (vl0 : vs0.length = K) (hR0 : Rect m K l) (hn : n < l ∧ l ≤ 1000 ∧ 1 ≤ K ∧ K ≤ 1000) : Ret Tryz.prog 284 #[.slice VA K VC, .int .i64 n] w fun v w' => (v = .int .i64 ((redM m n).2 : Nat) ∧ RowsMut w w' fp (.slice VA K VC) K (redM m n).1) := by
 refine ret_Q (vs := [.slice VA K VC, .int .i64 n]) Tryz.func284 rfl Tryz.ntmps284 rfl (fun Q hQ hN => ?_)
 have H0 := Sep.beginRows o nd hr0 hd
 refine W_sr (sV rfl (py_assign rfl) (s_nil (W_sr (sV rfl (py_assign rfl) (s_nil (W_seq (W_sr (sV rfl (py_assign rfl) (s_nil (W_block (W_loop (γ := Nat × Mat × Nat × List View × List Nat × List Nat) (fun (c, M, r, vs, f, g) => [(0, .slice VA K VC), (1, .int .i64 n), (5, .int .i64 r), (6, .int .i64 c)]) (fun (c, M, r, vs, f, g) w' => Sep (· ∈ fp) w [mine [.slice VA K VC] vs f] [rows vs M g] w' ∧ c ≤ n ∧ redM m c = (M, r) ∧ Rect M K l ∧ r ≤ K ∧ vs.length = K) (fun (c, M, r, vs, f, g) => n - c) (0, m, 0, _, _, _) ⟨rfl, rfl, rfl, rfl, trivial⟩ ⟨H0, by omega, rfl, hR0, by omega, vl0⟩ (fun (c, M, r, vs, f, g) w1 H1 => ?_))))))))))))
 obtain ⟨H1, hc, hred, hR, hrK, vl⟩ := H1
 refine W_seq (W_sr (sV rfl (py_move rfl) (sV rfl (py_move rfl) (sV rfl (py_lss rfl rfl) (s_nil (W_ifd rfl (fun c1 => ?_) (fun c1 => ?_)))))))
 ·refine W_skip (W_seq (W_block (W_sr (sV rfl (py_assign rfl) (s_nil (W_seq (W_seq ?_)))))))
  have xl := hR.1
  refine W_reg (sV rfl (py_move rfl) (sV rfl (py_assign rfl) (s_nil (W_block (W_loop (γ := Nat) (fun j => [(0, .slice VA K VC), (1, .int .i64 n), (5, .int .i64 r), (6, .int .i64 c), (7, .int .i64 (-1)), (8, .int .i64 j)]) (fun j w' => Sep (· ∈ fp) w _ _ w' ∧ r ≤ j ∧ j ≤ K ∧ ∀ i, r ≤ i → i < j → entry M i c = 0) (fun j => K - j) r ⟨rfl, rfl, rfl, rfl, rfl, rfl, trivial⟩ ⟨H1, by omega, by omega, fun i h1 h2 => by omega⟩ (fun j w2 H2 => ?_))))))
  obtain ⟨H2, hj1, hj2, hnz⟩ := H2
  refine W_seq (W_sr (sV rfl (py_move rfl) (sV rfl (py_move rfl) (sV rfl (py_len Tryz.underlying163 rfl) (sV rfl (py_lss rfl rfl) (s_nil (W_ifd rfl (fun c2 => ?_) (fun c2 => ?_))))))))
  ·refine W_skip (W_seq (W_block (W_seq ?_)))
   have e1 := hR.2 j (by omega)
   obtain ⟨eb1, eo1, ea1, ek1, ef1, ee1, ec1, eO1, eH1, em1⟩ := elem_view (H2.mine 0 rfl) (H2.rowsAt 0 rfl) (by first | omega | (simp only [List.length_set]; omega)) j (by first | omega | (simp only [List.length_set]; omega))
   have eP1 := H2.lookR 0 rfl eO1 eH1
   obtain ⟨eb2, eo2, ee2, ec2⟩ := elem_u8 (eP1.seen 1 rfl) c (by omega)
   refine W_reg (sV rfl (py_move rfl) (sV rfl (py_move rfl) (sV rfl (py_elz Tryz.underlying163 Tryz.sizeOf61 rfl rfl ee1 j (by omega) (by omega)) (sV rfl (py_load Tryz.underlying61 rfl rfl ec1) (sV rfl (py_move rfl) (sV rfl (py_elz Tryz.underlying61 Tryz.sizeOf5 rfl rfl ee2 c (by omega) (by omega)) (sV rfl (py_load Tryz.underlying5 rfl rfl ec2) (sV rfl (py_neq rfl rfl) (s_nil (W_ifd rfl (fun c3 => ?_) (fun c3 => ?_)))))))))))
   ·refine W_sr (sV rfl (py_move rfl) (sV rfl (py_assign rfl) (s_nil (W_exit (W_seq (W_seq ?_))))))
    have hpv : pivAt M c r = j := pivAt_eq (by omega) (by omega) hnz (.inr (fun e => c3 (by rw [entry] at e; rw [e]; rfl)))
    refine W_reg (sV rfl (py_move rfl) (sV rfl (py_lss rfl rfl) (s_nil (W_ifd rfl (fun c4 => ?_) (fun c4 => ?_)))))
    ·exact absurd c4 (by omega)
    ·refine W_skip (W_seq ?_)
     obtain ⟨eb3, eo3, ea2, ek2, ef2, ee3, ec3, eO2, eH2, em2⟩ := elem_view (eP1.mine 0 rfl) (eP1.rowsAt 0 rfl) (by first | omega | (simp only [List.length_set]; omega)) j (by first | omega | (simp only [List.length_set]; omega))
     have eP2 := eP1.lookR 0 rfl eO2 eH2
     obtain ⟨eb4, eo4, ea3, ek3, ef3, ee4, ec4, eO3, eH3, em3⟩ := elem_view (eP2.mine 0 rfl) (eP2.rowsAt 0 rfl) (by first | omega | (simp only [List.length_set]; omega)) r (by first | omega | (simp only [List.length_set]; omega))
     have eP3 := eP2.lookR 0 rfl eO3 eH3
     refine W_drw (S := fun zw => zw.cell? ⟨eb3, eo3 + j * 1, none⟩ = some (.slice ea2 (M.getD j []).length ek2)) [(0, true), (1, true), (2, true), (3, true), (4, true), (5, true), (6, true), (8, true), (9, true), (10, true), (7, true), (11, false), (12, false), (13, false), (14, false), (15, false)] (by kernel_rfl) (by kernel_rfl) (by kernel_rfl) rfl (fun _ => ec3) (fun q1 => ?_)
     have H3 := eP3.drawn q1
     refine dV rfl rfl (fun zw hx => py_move rfl) (dV rfl rfl (fun zw hx => py_move rfl) (dV rfl rfl (fun zw hx => py_move rfl) (dV rfl rfl (fun zw hx => py_move rfl) (dV rfl rfl (fun zw hx => py_move rfl) (dV rfl rfl (fun zw hx => py_move rfl) (dV rfl rfl (fun zw hx => py_elz Tryz.underlying163 Tryz.sizeOf61 rfl rfl ee3 j (by omega) (by omega)) (dV rfl rfl (fun zw hx => py_move rfl) (dV rfl rfl (fun zw hx => py_move rfl) (dV rfl rfl (fun zw hx => py_elz Tryz.underlying163 Tryz.sizeOf61 rfl rfl ee4 r (by omega) (by omega)) (dV rfl rfl (fun zw hx => py_load Tryz.underlying61 rfl rfl hx) (d_end rfl (wn rfl) rfl rfl (py_load Tryz.underlying61 rfl rfl ec4) (d_end rfl (wn rfl) rfl rfl (py_elz Tryz.underlying163 Tryz.sizeOf61 rfl rfl ee4 r (by omega) (by omega)) (d_rowset rfl (wn rfl) Tryz.sizeOf61 H3 0 0 2 rfl rfl rfl (by first | omega | (simp only [List.length_set]; omega)) r (by first | omega | (simp only [List.length_set]; omega)) rfl ee4 rfl (fun b o cur T e1 hb hs hc _ => by   rw [ee3] at e1;   cases e1;   exact swap_cell hb hs hc) (fun w3 fp1 gp1 H4 => ?_))))))))))))))
     try dsimp only [List.nil_append, List.cons_append, List.set_cons_zero, List.set_cons_succ] at H4
     refine d_end rfl (wn rfl) rfl rfl (py_elz Tryz.underlying163 Tryz.sizeOf61 rfl rfl ee3 j (by omega) (by omega)) (d_rowset rfl (wn rfl) Tryz.sizeOf61 H4 0 0 3 rfl rfl rfl (by first | omega | (simp only [List.length_set]; omega)) j (by first | omega | (simp only [List.length_set]; omega)) rfl ee3 rfl (fun _ _ _ _ _ _ _ _ hr => absurd rfl hr) (fun w4 fp2 gp2 H5 => ?_))
     try dsimp only [List.nil_append, List.cons_append, List.set_cons_zero, List.set_cons_succ] at H5
     refine d_nil (W_seq ?_)
     have hsR := hR.swap (r := r) (a := j) (by omega) (by omega)
     have e2 : (((M.set r (M.getD j [])).set j (M.getD r [])).getD r []).length = l := hsR.2 r (by omega)
     obtain ⟨eb5, eo5, ea4, ek4, ef4, ee5, ec5, eO4, eH4, em4⟩ := elem_view (H5.mine 0 rfl) (H5.rowsAt 0 rfl) (by first | omega | (simp only [List.length_set]; omega)) r (by first | omega | (simp only [List.length_set]; omega))
     have eP4 := H5.lookR 0 rfl eO4 eH4
     obtain ⟨eb6, eo6, ee6, ec6⟩ := elem_u8 (eP4.seen 4 rfl) c (by omega)
     refine W_drw (S := Ext No _) [(0, true), (1, true), (2, true), (3, true), (4, true), (5, true), (6, true), (7, true), (8, true), (9, true), (10, true), (11, true), (12, true), (13, false), (14, false), (15, true), (16, false)] (by kernel_rfl) (by kernel_rfl) (by kernel_rfl) rfl (fun _ => Ext.refl.drawn _) (fun q2 => ?_)
     have H6 := eP4.drawn q2
     refine dV rfl rfl (fun zw hx => py_move rfl) (dV rfl rfl (fun zw hx => py_move rfl) (dV rfl rfl (fun zw hx => py_move rfl) (dV rfl rfl (fun zw hx => py_move rfl) (dV rfl rfl (fun zw hx => py_elz Tryz.underlying163 Tryz.sizeOf61 rfl rfl ee5 r (by omega) (by omega)) (dV rfl rfl (fun zw hx => py_load Tryz.underlying61 rfl rfl (hx.cell ec5)) (dV rfl rfl (fun zw hx => py_move rfl) (dV rfl rfl (fun zw hx => py_move rfl) (dV rfl rfl (fun zw hx => py_elz Tryz.underlying163 Tryz.sizeOf61 rfl rfl ee5 r (by omega) (by omega)) (dV rfl rfl (fun zw hx => py_load Tryz.underlying61 rfl rfl (hx.cell ec5)) (dV rfl rfl (fun zw hx => py_move rfl) (dV rfl rfl (fun zw hx => py_elz Tryz.underlying61 Tryz.sizeOf5 rfl rfl ee6 c (by omega) (by omega)) (dV rfl rfl (fun zw hx => py_load Tryz.underlying5 rfl rfl (hx.cell ec6)) (d_call rfl (wn rfl) rfl rfl (pc_call Tryz.func297 rfl Tryz_nm297 rfl) (Tryz_impl_div (a := 1)) (fun hS _ _ r _ => hS.trans r.1.no) (fun v1 w5 r1 => ?_))))))))))))))
     obtain ⟨e3, rfl⟩ := r1
     have H7 := H6.to e3
     refine d_call rfl (wn rfl) rfl rfl (pc_call Tryz.func299 rfl Tryz_nm299 rfl) (Tryz_impl_scaled (H7.sees 4 rfl) (by omega)) (fun hS _ _ r _ => hS.trans r.1.no) (fun v2 w6 r2 => ?_)
     obtain ⟨e4, r2⟩ := r2
     obtain ⟨fp3, H8⟩ := H7.res e4 r2
     obtain ⟨a1, k1, q3⟩ := own_slice (H8.mine 1 rfl)
     cases q3
     refine dV rfl rfl (fun zw hx => py_elz Tryz.underlying163 Tryz.sizeOf61 rfl rfl ee5 r (by omega) (by omega)) ?_
     have H10 := H8.share 1 rfl
     try dsimp only [List.nil_append, List.cons_append, List.set_cons_zero, List.set_cons_succ] at H10
     refine d_rowset rfl (wn rfl) Tryz.sizeOf61 H10 0 0 5 rfl rfl rfl (by first | omega | (simp only [List.length_set]; omega)) r (by first | omega | (simp only [List.length_set]; omega)) rfl ee5 rfl (fun _ _ _ _ _ _ _ _ hr => absurd rfl hr) (fun w7 fp4 gp3 H9 => ?_)
     try dsimp only [List.nil_append, List.cons_append, List.set_cons_zero, List.set_cons_succ] at H9
     refine d_nil (W_seq (W_seq ?_))
     have HN := H9
     rw [norm_of (by omega) (by omega)] at HN
     refine W_reg (sV rfl (py_move rfl) (sV rfl (py_len Tryz.underlying163 rfl) (sV rfl (py_move rfl) (s_nil (W_block (W_loop (γ := Nat × List View × List Nat × List Nat) (fun (i, vs2, f2, g2) => [(0, .slice VA K VC), (1, .int .i64 n), (5, .int .i64 r), (6, .int .i64 c), (63, .slice VA K VC), (64, .int .i64 K), (65, .int .i64 i)]) (fun (i, vs2, f2, g2) w' => Sep (· ∈ fp) w [mine [.slice VA K VC] vs2 f2] [rows vs2 (elimTo (normM M c r j) c r i) g2] w' ∧ i ≤ K ∧ vs2.length = K) (fun (i, vs2, f2, g2) => K - i) (0, _, _, _) ⟨rfl, rfl, rfl, rfl, rfl, rfl, rfl, trivial⟩ ⟨by rw [elimTo_zero]; exact ((HN.ftake 1).dtake 1), by omega, by simp only [List.length_set]; omega⟩ (fun (i, vs2, f2, g2) w8 H11 => ?_)))))))
     obtain ⟨H11, hi, vl2⟩ := H11
     refine W_sr (sV rfl (py_lss rfl rfl) (s_nil (W_seq (W_ifd rfl (fun c5 => ?_) (fun c5 => ?_)))))
     ·refine W_skip (W_seq (W_block (W_sr (sV rfl (py_move rfl) (sV rfl (py_assign rfl) (s_nil (W_seq ?_)))))))
      have nR := hR.norm (c := c) (r := r) (a := j) (by omega) (by omega)
      have eR := nR.elim (c := c) (r := r) (k := i) (by omega)
      have xl2 := eR.1
      have e3 := eR.2 i (by omega)
      have e4 := eR.2 r (by omega)
      obtain ⟨eb7, eo7, ea5, ek5, ef5, ee7, ec7, eO5, eH5, em5⟩ := elem_view (H11.mine 0 rfl) (H11.rowsAt 0 rfl) (by first | omega | (simp only [List.length_set]; omega)) i (by first | omega | (simp only [List.length_set]; omega))
      have eP5 := H11.lookR 0 rfl eO5 eH5
      obtain ⟨eb8, eo8, ee8, ec8⟩ := elem_u8 (eP5.seen 1 rfl) c (by omega)
      refine W_reg (sV rfl (py_move rfl) (sV rfl (py_move rfl) (sV rfl (py_neq rfl rfl) (sV rfl (py_move rfl) (s_grp 8 (j := 3) (want := true) (t := 79) rfl rfl rfl rfl (fun hg1 kk1 => s_val (wgE rfl rfl rfl hg1) rfl rfl (py_move rfl) (s_val (wgE rfl rfl rfl hg1) rfl rfl (py_move rfl) (s_val (wgE rfl rfl rfl hg1) rfl rfl (py_elz Tryz.underlying163 Tryz.sizeOf61 rfl rfl ee7 i (by first | omega | (simp only [Bool.or_eq_false_iff, Bool.and_eq_true, Bool.and_eq_false_iff, Bool.or_eq_true, Bool.not_eq_true', Bool.not_eq_false', decide_eq_true_eq, decide_eq_false_iff_not] at hg1; omega)) (by omega)) (s_val (wgE rfl rfl rfl hg1) rfl rfl (py_load Tryz.underlying61 rfl rfl ec7) (s_val (wgE rfl rfl rfl hg1) rfl rfl (py_move rfl) (s_val (wgE rfl rfl rfl hg1) rfl rfl (py_elz Tryz.underlying61 Tryz.sizeOf5 rfl rfl ee8 c (by first | omega | (simp only [Bool.or_eq_false_iff, Bool.and_eq_true, Bool.and_eq_false_iff, Bool.or_eq_true, Bool.not_eq_true', Bool.not_eq_false', decide_eq_true_eq, decide_eq_false_iff_not] at hg1; omega)) (by omega)) (s_val (wgE rfl rfl rfl hg1) rfl rfl (py_load Tryz.underlying5 rfl rfl ec8) (s_val (wgE rfl rfl rfl hg1) rfl rfl (py_neq rfl rfl) (kk1 _ _ (kx rfl (kx rfl (kx rfl (kx rfl (kx rfl (kx rfl (kx rfl (kx rfl k0)))))))) rfl Ext.refl))))))))) (fun w9 e6 => ?_))))))
      have H12 := eP5.to e6
      refine sV rfl (py_band rfl rfl) (s_nil (W_if rfl (fun c6 => ?_) (fun c6 => ?_)))
      ·obtain ⟨eb9, eo9, ea6, ek6, ef6, ee9, ec9, eO6, eH6, em6⟩ := elem_view (H12.mine 0 rfl) (H12.rowsAt 0 rfl) (by first | omega | (simp only [List.length_set]; omega)) i (by first | omega | (simp only [List.length_set]; omega))
       have eP6 := H12.lookR 0 rfl eO6 eH6
       obtain ⟨eb10, eo10, ea7, ek7, ef7, ee10, ec10, eO7, eH7, em7⟩ := elem_view (eP6.mine 0 rfl) (eP6.rowsAt 0 rfl) (by first | omega | (simp only [List.length_set]; omega)) r (by first | omega | (simp only [List.length_set]; omega))
       have eP7 := eP6.lookR 0 rfl eO7 eH7
       obtain ⟨eb11, eo11, ee11, ec11⟩ := elem_u8 (eP7.seen 2 rfl) c (by omega)
       refine W_drw (S := Ext No _) [(0, true), (1, true), (2, true), (3, true), (4, true), (5, true), (6, true), (7, true), (8, true), (9, true), (10, true), (11, true), (12, true), (13, true), (14, true), (15, true), (16, true), (17, false), (18, true), (19, false)] (by kernel_rfl) (by kernel_rfl) (by kernel_rfl) rfl (fun _ => Ext.refl.drawn _) (fun q4 => ?_)
       have H13 := eP7.drawn q4
       refine dV rfl rfl (fun zw hx => py_move rfl) (dV rfl rfl (fun zw hx => py_move rfl) (dV rfl rfl (fun zw hx => py_move rfl) (dV rfl rfl (fun zw hx => py_move rfl) (dV rfl rfl (fun zw hx => py_elz Tryz.underlying163 Tryz.sizeOf61 rfl rfl ee9 i (by omega) (by omega)) (dV rfl rfl (fun zw hx => py_load Tryz.underlying61 rfl rfl (hx.cell ec9)) (dV rfl rfl (fun zw hx => py_move rfl) (dV rfl rfl (fun zw hx => py_move rfl) (dV rfl rfl (fun zw hx => py_elz Tryz.underlying163 Tryz.sizeOf61 rfl rfl ee10 r (by omega) (by omega)) (dV rfl rfl (fun zw hx => py_load Tryz.underlying61 rfl rfl (hx.cell ec10)) (dV rfl rfl (fun zw hx => py_move rfl) (dV rfl rfl (fun zw hx => py_move rfl) (dV rfl rfl (fun zw hx => py_elz Tryz.underlying163 Tryz.sizeOf61 rfl rfl ee9 i (by omega) (by omega)) (dV rfl rfl (fun zw hx => py_load Tryz.underlying61 rfl rfl (hx.cell ec9)) (dV rfl rfl (fun zw hx => py_move rfl) (dV rfl rfl (fun zw hx => py_elz Tryz.underlying61 Tryz.sizeOf5 rfl rfl ee11 c (by omega) (by omega)) (dV rfl rfl (fun zw hx => py_load Tryz.underlying5 rfl rfl (hx.cell ec11)) (d_call rfl (wn rfl) rfl rfl (pc_call Tryz.func195 rfl Tryz_nm195 rfl) (Tryz_impl_sum (H13.sees 2 rfl) (H13.sees 3 rfl) (by first | assumption | omega)) (fun hS _ _ r _ => hS.trans r.1.no) (fun v3 w10 r3 => ?_))))))))))))))))))
       obtain ⟨e7, r3⟩ := r3
       obtain ⟨fp5, H14⟩ := H13.res e7 r3
       obtain ⟨a2, k2, q5⟩ := own_slice (H14.mine 1 rfl)
       cases q5
       refine dV rfl rfl (fun zw hx => py_elz Tryz.underlying163 Tryz.sizeOf61 rfl rfl ee9 i (by omega) (by omega)) ?_
       have H16 := H14.share 1 rfl
       try dsimp only [List.nil_append, List.cons_append, List.set_cons_zero, List.set_cons_succ] at H16
       refine d_rowset rfl (wn rfl) Tryz.sizeOf61 H16 0 0 4 rfl rfl rfl (by first | omega | (simp only [List.length_set]; omega)) i (by first | omega | (simp only [List.length_set]; omega)) rfl ee9 rfl (fun _ _ _ _ _ _ _ _ hr => absurd rfl hr) (fun w11 fp6 gp4 H15 => ?_)
       try dsimp only [List.nil_append, List.cons_append, List.set_cons_zero, List.set_cons_succ] at H15
       refine d_nil (W_reg (sV rfl (py_add rfl rfl (in64 ⟨by omega, by omega⟩)) (sV rfl (py_move rfl) (s_nil ?_))))
       have hz := ((H15.ftake 1).dtake 1)
       rw [elimTo_set (by rw [nR.1]; omega) (elim_ne (N := [[]]) (c := c) c6) (by rw [elimTo_at (by rw [nR.1]; omega), elimTo_r (by rw [nR.1]; omega)]; rfl)] at hz
       refine ⟨(i + 1, _, _, _), ⟨rfl, rfl, rfl, rfl, rfl, rfl, rfl, trivial⟩, ⟨hz, by omega, by simp only [List.length_set]; omega⟩, by dsimp only; omega⟩
      ·refine W_skip (W_reg (sV rfl (py_add rfl rfl (in64 ⟨by omega, by omega⟩)) (sV rfl (py_move rfl) (s_nil ?_))))
       have hz := (H12.ftake 1)
       rw [elim_next nR (by omega) (by omega) c6] at hz
       refine ⟨(i + 1, _, _, _), ⟨rfl, rfl, rfl, rfl, rfl, rfl, rfl, trivial⟩, ⟨hz, by omega, vl2⟩, by dsimp only; omega⟩
     ·refine W_exit (W_reg (sV rfl (py_move rfl) (sV rfl (py_add rfl rfl (in64 ⟨by omega, by omega⟩)) (sV rfl (py_assign rfl) (s_nil (W_reg (sV rfl (py_move rfl) (sV rfl (py_add rfl rfl (in64 ⟨by omega, by omega⟩)) (sV rfl (py_assign rfl) (s_nil ?_))))))))))
      have hz := H11
      rw [show i = K by omega] at hz
      refine ⟨(c + 1, elimTo (normM M c r j) c r K, r + 1, _, _, _), ⟨rfl, rfl, rfl, rfl, trivial⟩, ⟨hz, by omega, (step_some hred hpv (by omega)).trans (by rw [xl]), (hR.norm (by omega) (by omega)).elim (by omega), by omega, vl2⟩, by dsimp only; omega⟩
   ·refine W_skip (W_reg (sV rfl (py_move rfl) (sV rfl (py_add rfl rfl (in64 ⟨by omega, by omega⟩)) (sV rfl (py_assign rfl) (s_nil (⟨j + 1, ⟨rfl, rfl, rfl, rfl, rfl, rfl, trivial⟩, ⟨(eP1.ftake 1), by omega, by omega, fun i h1 h2 => ?_⟩, by dsimp only; omega⟩))))))
    by_cases e : i = j
    ·subst e; show (M.getD i []).getD c 0 = 0; exact u8_zero (by omega)
    ·exact hnz i h1 (by omega)
  ·refine W_exit (W_seq (W_seq ?_))
   have hpv : pivAt M c r = M.length := pivAt_eq (by omega) (Nat.le_refl _) (fun i h1 h2 => hnz i h1 (by omega)) (.inl rfl)
   refine W_reg (sV rfl (py_move rfl) (sV rfl (py_lss rfl rfl) (s_nil (W_ifd rfl (fun c7 => ?_) (fun c7 => ?_)))))
   ·refine W_exit (W_reg (sV rfl (py_move rfl) (sV rfl (py_add rfl rfl (in64 ⟨by omega, by omega⟩)) (sV rfl (py_assign rfl) (s_nil (⟨(c + 1, M, r, _, _, _), ⟨rfl, rfl, rfl, rfl, trivial⟩, ⟨H2, by omega, step_none hred (Nat.le_of_eq hpv.symm), hR, hrK, vl⟩, by dsimp only; omega⟩))))))
   ·exact absurd (by omega) c7
 ·refine W_exit (W_sr (sV rfl (py_move rfl) (sV rfl (py_assign rfl) (s_nil (W_ret (hQ _ _ (fin1 Tryz.results284 rfl ?_)))))))
  have hz := H1.rowsOut vl
  have e9 : redM m n = (M, r) := by
   obtain rfl : c = n := by omega
   exact hred
  rw [e9]
  exact ⟨rfl, hz⟩
theorem Tryz_spec_l1Step {w : World} {K l n : Nat} {m : Mat} {vs0 : List View} {VA : Option Addr} {VC : Nat} {fp g0 : List Nat} (o : own true w [.slice VA K VC] vs0 fp) (nd : fp.Nodup) (hr0 : ownL false w (vs0.map View.val) m g0) (hd : ∀ b ∈ g0, b ∉ fp) (vl0 : vs0.length = K) (hR0 : Rect m K l) (hn : n < l ∧ l ≤ 1000 ∧ 1 ≤ K ∧ K ≤ 1000) : Ret Tryz.prog 298 #[.slice VA K VC, .int .i64 n] w fun v w' => (v = .int .i64 ((redM m n).2 : Nat) ∧ RowsMut w w' fp (.slice VA K VC) K (redM m n).1) := by
 refine ret_Q (vs := [.slice VA K VC, .int .i64 n]) Tryz.func298 rfl Tryz.ntmps298 rfl (fun Q hQ hN => ?_)
 have H0 := Sep.beginRows o nd hr0 hd
 refine W_sr (sV rfl (py_assign rfl) (s_nil (W_sr (sV rfl (py_assign rfl) (s_nil (W_seq (W_sr (sV rfl (py_assign rfl) (s_nil (W_block (W_loop (γ := Nat × Mat × Nat × List View × List Nat × List Nat) (fun (c, M, r, vs, f, g) => [(0, .slice VA K VC), (1, .int .i64 n), (5, .int .i64 r), (6, .int .i64 c)]) (fun (c, M, r, vs, f, g) w' => Sep (· ∈ fp) w [mine [.slice VA K VC] vs f] [rows vs M g] w' ∧ c ≤ n ∧ redM m c = (M, r) ∧ Rect M K l ∧ r ≤ K ∧ vs.length = K) (fun (c, M, r, vs, f, g) => n - c) (0, m, 0, _, _, _) ⟨rfl, rfl, rfl, rfl, trivial⟩ ⟨H0, by omega, rfl, hR0, by omega, vl0⟩ (fun (c, M, r, vs, f, g) w1 H1 => ?_))))))))))))
 obtain ⟨H1, hc, hred, hR, hrK, vl⟩ := H1
 refine W_seq (W_sr (sV rfl (py_move rfl) (sV rfl (py_move rfl) (sV rfl (py_lss rfl rfl) (sV rfl (py_move rfl) (s_grp 4 (j := 3) (want := true) (t := 17) rfl rfl rfl rfl (fun hg1 kk1 => s_val (wgE rfl rfl rfl hg1) rfl rfl (py_move rfl) (s_val (wgE rfl rfl rfl hg1) rfl rfl (py_move rfl) (s_val (wgE rfl rfl rfl hg1) rfl rfl (py_len Tryz.underlying163 rfl) (s_val (wgE rfl rfl rfl hg1) rfl rfl (py_lss rfl rfl) (kk1 _ _ (kx rfl (kx rfl (kx rfl (kx rfl k0)))) rfl Ext.refl))))) (fun w2 e1 => ?_)))))))
 have H2 := H1.to e1
 refine sV rfl (py_band rfl rfl) (s_nil (W_if rfl (fun c1 => ?_) (fun c1 => ?_)))
 ·refine W_skip (W_seq (W_block (W_seq ?_)))
  simp only [Bool.and_eq_true, decide_eq_true_eq] at c1
  have xl := hR.1
  refine W_reg (sV rfl (py_move rfl) (sV rfl (py_assign rfl) (s_nil (W_seq (W_block (W_loop (γ := Nat) (fun j => [(0, .slice VA K VC), (1, .int .i64 n), (5, .int .i64 r), (6, .int .i64 c), (7, .int .i64 j)]) (fun j w' => Sep (· ∈ fp) w _ _ w' ∧ r ≤ j ∧ j ≤ K ∧ ∀ i, r ≤ i → i < j → entry M i c = 0) (fun j => K - j) r ⟨rfl, rfl, rfl, rfl, rfl, trivial⟩ ⟨H2, by omega, by omega, fun i h1 h2 => by omega⟩ (fun j w3 H3 => ?_)))))))
  obtain ⟨H3, hj1, hj2, hnz⟩ := H3
  refine W_seq (W_seq ?_)
  obtain ⟨jj, hjj, hjk⟩ : ∃ jj, jj < K ∧ (j < K → jj = j) := ⟨if j < K then j else 0, by split <;> omega, fun h => if_pos h⟩
  have e1 := hR.2 jj hjj
  obtain ⟨eb1, eo1, ea1, ek1, ef1, ee1, ec1, eO1, eH1, em1⟩ := elem_view (H3.mine 0 rfl) (H3.rowsAt 0 rfl) (by first | omega | (simp only [List.length_set]; omega)) jj (by first | omega | (simp only [List.length_set]; omega))
  have eP1 := H3.lookR 0 rfl eO1 eH1
  obtain ⟨eb2, eo2, ee2, ec2⟩ := elem_u8 (eP1.seen 1 rfl) c (by omega)
  refine W_reg (sV rfl (py_move rfl) (sV rfl (py_move rfl) (sV rfl (py_len Tryz.underlying163 rfl) (sV rfl (py_lss rfl rfl) (sV rfl (py_move rfl) (s_grp 8 (j := 4) (want := true) (t := 34) rfl rfl rfl rfl (fun hg2 kk2 => s_val (wgE rfl rfl rfl hg2) rfl rfl (py_move rfl) (s_val (wgE rfl rfl rfl hg2) rfl rfl (py_move rfl) (s_val (wgE rfl rfl rfl hg2) rfl rfl (py_elz Tryz.underlying163 Tryz.sizeOf61 rfl rfl ee1 jj (by first | omega | (simp only [Bool.or_eq_false_iff, Bool.and_eq_true, Bool.and_eq_false_iff, Bool.or_eq_true, Bool.not_eq_true', Bool.not_eq_false', decide_eq_true_eq, decide_eq_false_iff_not] at hg2; omega)) (by omega)) (s_val (wgE rfl rfl rfl hg2) rfl rfl (py_load Tryz.underlying61 rfl rfl ec1) (s_val (wgE rfl rfl rfl hg2) rfl rfl (py_move rfl) (s_val (wgE rfl rfl rfl hg2) rfl rfl (py_elz Tryz.underlying61 Tryz.sizeOf5 rfl rfl ee2 c (by first | omega | (simp only [Bool.or_eq_false_iff, Bool.and_eq_true, Bool.and_eq_false_iff, Bool.or_eq_true, Bool.not_eq_true', Bool.not_eq_false', decide_eq_true_eq, decide_eq_false_iff_not] at hg2; omega)) (by omega)) (s_val (wgE rfl rfl rfl hg2) rfl rfl (py_load Tryz.underlying5 rfl rfl ec2) (s_val (wgE rfl rfl rfl hg2) rfl rfl (py_eql rfl rfl) (kk2 _ _ (kx rfl (kx rfl (kx rfl (kx rfl (kx rfl (kx rfl (kx rfl (kx rfl k0)))))))) rfl Ext.refl))))))))) (fun w4 e2 => ?_)))))))
  have H4 := eP1.to e2
  refine sV rfl (py_band rfl rfl) (s_nil (W_if rfl (fun c2 => ?_) (fun c2 => ?_)))
  ·refine W_skip (W_block (W_reg (sV rfl (py_move rfl) (sV rfl (py_add rfl rfl (in64 ⟨by omega, by omega⟩)) (sV rfl (py_assign rfl) (s_nil ?_))))))
   simp only [Bool.and_eq_true, decide_eq_true_eq] at c2
   have ez : entry M j c = 0 := by
    rw [← hjk (by omega)]
    show (M.getD jj []).getD c 0 = 0
    exact u8_zero (by omega)
   refine ⟨j + 1, ⟨rfl, rfl, rfl, rfl, rfl, trivial⟩, ⟨H4.ftake 1, by omega, by omega, fun i h1 h2 => ?_⟩, by dsimp only; omega⟩
   by_cases e : i = j
   ·subst e; exact ez
   ·exact hnz i h1 (by omega)
  ·refine W_exit (W_seq (W_sr (sV rfl (py_move rfl) (sV rfl (py_move rfl) (sV rfl (py_len Tryz.underlying163 rfl) (sV rfl (py_eql rfl rfl) (s_nil (W_ifd rfl (fun c3 => ?_) (fun c3 => ?_)))))))))
   ·refine W_exit (W_reg (sV rfl (py_move rfl) (sV rfl (py_add rfl rfl (in64 ⟨by omega, by omega⟩)) (sV rfl (py_assign rfl) (s_nil ?_)))))
    have hpv : pivAt M c r = M.length := pivAt_eq (by omega) (Nat.le_refl _) (fun i h1 h2 => hnz i h1 (by omega)) (.inl rfl)
    refine ⟨(c + 1, M, r, _, _, _), ⟨rfl, rfl, rfl, rfl, trivial⟩, ⟨(H4.ftake 1), by omega, step_none hred (Nat.le_of_eq hpv.symm), hR, hrK, vl⟩, by dsimp only; omega⟩
   ·refine W_skip (W_seq ?_)
    have hpv : pivAt M c r = j := pivAt_eq (by omega) (by omega) hnz (.inr (fun e => by
     have ej := hjk (by omega)
     rw [entry, ← ej] at e
     simp only [Bool.and_eq_false_iff, decide_eq_false_iff_not] at c2
     rcases c2 with h | h
     ·omega
     ·exact h (by rw [e]; rfl)))
    have e5 := hR.2 j (by omega)
    obtain ⟨eb3, eo3, ea2, ek2, ef2, ee3, ec3, eO2, eH2, em2⟩ := elem_view (H4.mine 0 rfl) (H4.rowsAt 0 rfl) (by first | omega | (simp only [List.length_set]; omega)) j (by first | omega | (simp only [List.length_set]; omega))
    have eP2 := H4.lookR 0 rfl eO2 eH2
    refine W_reg (sV rfl (py_move rfl) (sV rfl (py_move rfl) (sV rfl (py_elz Tryz.underlying163 Tryz.sizeOf61 rfl rfl ee3 j (by omega) (by omega)) (sV rfl (py_load Tryz.underlying61 rfl rfl ec3) (sV rfl (py_assign rfl) (s_nil (W_seq ?_)))))))
    obtain ⟨eb4, eo4, ea3, ek3, ef3, ee4, ec4, eO3, eH3, em3⟩ := elem_view (eP2.mine 0 rfl) (eP2.rowsAt 0 rfl) (by first | omega | (simp only [List.length_set]; omega)) r (by first | omega | (simp only [List.length_set]; omega))
    have eP3 := eP2.lookR 0 rfl eO3 eH3
    obtain ⟨eb5, eo5, ea4, ek4, ef4, ee5, ec5, eO4, eH4, em4⟩ := elem_view (eP3.mine 0 rfl) (eP3.rowsAt 0 rfl) (by first | omega | (simp only [List.length_set]; omega)) j (by first | omega | (simp only [List.length_set]; omega))
    have eP4 := eP3.lookR 0 rfl eO4 eH4
    refine W_reg (sV rfl (py_move rfl) (sV rfl (py_move rfl) (sV rfl (py_move rfl) (sV rfl (py_move rfl) (sV rfl (py_elz Tryz.underlying163 Tryz.sizeOf61 rfl rfl ee4 r (by omega) (by omega)) (sV rfl (py_load Tryz.underlying61 rfl rfl ec4) (sV rfl (py_elz Tryz.underlying163 Tryz.sizeOf61 rfl rfl ee5 j (by omega) (by omega)) (s_rowset (wn rfl) Tryz.sizeOf61 eP4 0 0 3 rfl rfl rfl (by first | omega | (simp only [List.length_set]; omega)) j (by first | omega | (simp only [List.length_set]; omega)) rfl ee5 rfl (fun w5 fp1 gp1 H5 => ?_)))))))))
    try dsimp only [List.nil_append, List.cons_append, List.set_cons_zero, List.set_cons_succ] at H5
    refine s_nil (W_seq ?_)
    obtain ⟨eb6, eo6, ee6, ec6⟩ := elem_u8 (H5.seen 2 rfl) c (by omega)
    obtain ⟨eb7, eo7, ea5, ek5, ef5, ee7, ec7, eO5, eH5, em5⟩ := elem_view (H5.mine 0 rfl) (H5.rowsAt 0 rfl) (by first | omega | (simp only [List.length_set]; omega)) r (by first | omega | (simp only [List.length_set]; omega))
    have eP5 := H5.lookR 0 rfl eO5 eH5
    refine W_reg (sV rfl (py_move rfl) (sV rfl (py_move rfl) (sV rfl (py_move rfl) (sV rfl (py_move rfl) (sV rfl (py_move rfl) (sV rfl (py_elz Tryz.underlying61 Tryz.sizeOf5 rfl rfl ee6 c (by omega) (by omega)) (sV rfl (py_load Tryz.underlying5 rfl rfl ec6) (s_call (wn rfl) rfl rfl (pc_call Tryz.func296 rfl Tryz_nm296 rfl) Tryz_spec_l1Inv (fun v1 w6 r1 => ?_)))))))))
    obtain ⟨e4, rfl⟩ := r1
    have H6 := eP5.to e4
    refine s_call (wn rfl) rfl rfl (pc_call Tryz.func273 rfl Tryz_nm273 rfl) (Tryz_spec_l1Scale (H6.sees 2 rfl) (by omega)) (fun v2 w7 r2 => ?_)
    obtain ⟨e5, r2⟩ := r2
    obtain ⟨fp2, H7⟩ := H6.res e5 r2
    obtain ⟨a1, k1, q1⟩ := own_slice (H7.mine 1 rfl)
    cases q1
    refine sV rfl (py_elz Tryz.underlying163 Tryz.sizeOf61 rfl rfl ee7 r (by omega) (by omega)) ?_
    have H9 := H7.share 1 rfl
    try dsimp only [List.nil_append, List.cons_append, List.set_cons_zero, List.set_cons_succ] at H9
    refine s_rowset (wn rfl) Tryz.sizeOf61 H9 0 0 6 rfl rfl rfl (by first | omega | (simp only [List.length_set]; omega)) r (by first | omega | (simp only [List.length_set]; omega)) rfl ee7 rfl (fun w8 fp3 gp2 H8 => ?_)
    try dsimp only [List.nil_append, List.cons_append, List.set_cons_zero, List.set_cons_succ] at H8
    refine s_nil (W_seq (W_seq ?_))
    have HN := H8
    rw [show (M.set j (M.getD r [])).set r (scaleG (M.getD j []) (invG ((M.getD j []).getD c 0))) = normM M c r j from rfl] at HN
    refine W_reg (sV rfl (py_assign rfl) (s_nil (W_block (W_loop (γ := Nat × List View × List Nat × List Nat) (fun (i, vs2, f2, g2) => [(0, .slice VA K VC), (1, .int .i64 n), (5, .int .i64 r), (6, .int .i64 c), (9, .int .i64 i)]) (fun (i, vs2, f2, g2) w' => Sep (· ∈ fp) w [mine [.slice VA K VC] vs2 f2] [rows vs2 (elimTo (normM M c r j) c r i) g2] w' ∧ i ≤ K ∧ vs2.length = K) (fun (i, vs2, f2, g2) => K - i) (0, _, _, _) ⟨rfl, rfl, rfl, rfl, rfl, trivial⟩ ⟨by rw [elimTo_zero]; exact ((HN.ftake 1).dtake 1), by omega, by simp only [List.length_set]; omega⟩ (fun (i, vs2, f2, g2) w9 H10 => ?_)))))
    obtain ⟨H10, hi, vl2⟩ := H10
    refine W_seq (W_sr (sV rfl (py_move rfl) (sV rfl (py_move rfl) (sV rfl (py_len Tryz.underlying163 rfl) (sV rfl (py_lss rfl rfl) (s_nil (W_ifd rfl (fun c4 => ?_) (fun c4 => ?_))))))))
    ·refine W_skip (W_seq (W_block (W_sr (sV rfl (py_move rfl) (sV rfl (py_move rfl) (sV rfl (py_neq rfl rfl) (s_nil (W_ifd rfl (fun c5 => ?_) (fun c5 => ?_)))))))))
     ·have nR := hR.norm (c := c) (r := r) (a := j) (by omega) (by omega)
      have eR := nR.elim (c := c) (r := r) (k := i) (by omega)
      have xl2 := eR.1
      have e3 := eR.2 i (by omega)
      have e4 := eR.2 r (by omega)
      have sl := scaleG_len ((elimTo (normM M c r j) c r i).getD r []) (((elimTo (normM M c r j) c r i).getD i []).getD c 0)
      obtain ⟨eb8, eo8, ea6, ek6, ef6, ee8, ec8, eO6, eH6, em6⟩ := elem_view (H10.mine 0 rfl) (H10.rowsAt 0 rfl) (by first | omega | (simp only [List.length_set]; omega)) i (by first | omega | (simp only [List.length_set]; omega))
      have eP6 := H10.lookR 0 rfl eO6 eH6
      obtain ⟨eb9, eo9, ea7, ek7, ef7, ee9, ec9, eO7, eH7, em7⟩ := elem_view (eP6.mine 0 rfl) (eP6.rowsAt 0 rfl) (by first | omega | (simp only [List.length_set]; omega)) r (by first | omega | (simp only [List.length_set]; omega))
      have eP7 := eP6.lookR 0 rfl eO7 eH7
      obtain ⟨eb10, eo10, ee10, ec10⟩ := elem_u8 (eP7.seen 1 rfl) c (by omega)
      refine W_drw (S := Ext No _) [(0, true), (1, true), (2, true), (3, true), (4, true), (5, true), (6, true), (7, true), (8, true), (9, true), (10, true), (11, true), (12, true), (13, true), (14, true), (15, true), (16, true), (17, false), (18, false), (19, true), (20, false)] (by kernel_rfl) (by kernel_rfl) (by kernel_rfl) rfl (fun _ => Ext.refl.drawn _) (fun q2 => ?_)
      have H11 := eP7.drawn q2
      refine dV rfl rfl (fun zw hx => py_move rfl) (dV rfl rfl (fun zw hx => py_move rfl) (dV rfl rfl (fun zw hx => py_move rfl) (dV rfl rfl (fun zw hx => py_move rfl) (dV rfl rfl (fun zw hx => py_elz Tryz.underlying163 Tryz.sizeOf61 rfl rfl ee8 i (by omega) (by omega)) (dV rfl rfl (fun zw hx => py_load Tryz.underlying61 rfl rfl (hx.cell ec8)) (dV rfl rfl (fun zw hx => py_move rfl) (dV rfl rfl (fun zw hx => py_move rfl) (dV rfl rfl (fun zw hx => py_elz Tryz.underlying163 Tryz.sizeOf61 rfl rfl ee9 r (by omega) (by omega)) (dV rfl rfl (fun zw hx => py_load Tryz.underlying61 rfl rfl (hx.cell ec9)) (dV rfl rfl (fun zw hx => py_move rfl) (dV rfl rfl (fun zw hx => py_move rfl) (dV rfl rfl (fun zw hx => py_elz Tryz.underlying163 Tryz.sizeOf61 rfl rfl ee8 i (by omega) (by omega)) (dV rfl rfl (fun zw hx => py_load Tryz.underlying61 rfl rfl (hx.cell ec8)) (dV rfl rfl (fun zw hx => py_move rfl) (dV rfl rfl (fun zw hx => py_elz Tryz.underlying61 Tryz.sizeOf5 rfl rfl ee10 c (by omega) (by omega)) (dV rfl rfl (fun zw hx => py_load Tryz.underlying5 rfl rfl (hx.cell ec10)) (d_call rfl (wn rfl) rfl rfl (pc_call Tryz.func273 rfl Tryz_nm273 rfl) (Tryz_spec_l1Scale (H11.sees 2 rfl) (by omega)) (fun hS _ _ r _ => hS.trans r.1.no) (fun v3 w10 r3 => ?_))))))))))))))))))
      obtain ⟨e7, r3⟩ := r3
      obtain ⟨fp4, H12⟩ := H11.res e7 r3
      obtain ⟨a2, k2, q3⟩ := own_slice (H12.mine 1 rfl)
      cases q3
      refine d_call rfl (wn rfl) rfl rfl (pc_call Tryz.func194 rfl Tryz_nm194 rfl) (Tryz_spec_l1Add (H12.sees 1 rfl) (H12.msees 1 rfl) (by omega)) (fun hS _ _ r _ => hS.trans r.1.no) (fun v4 w11 r4 => ?_)
      obtain ⟨e8, r4⟩ := r4
      obtain ⟨fp5, H13⟩ := H12.res e8 r4
      obtain ⟨a3, k3, q4⟩ := own_slice (H13.mine 2 rfl)
      cases q4
      refine dV rfl rfl (fun zw hx => py_elz Tryz.underlying163 Tryz.sizeOf61 rfl rfl ee8 i (by omega) (by omega)) ?_
      have H15 := H13.share 2 rfl
      try dsimp only [List.nil_append, List.cons_append, List.set_cons_zero, List.set_cons_succ] at H15
      refine d_rowset rfl (wn rfl) Tryz.sizeOf61 H15 0 0 3 rfl rfl rfl (by first | omega | (simp only [List.length_set]; omega)) i (by first | omega | (simp only [List.length_set]; omega)) rfl ee8 rfl (fun _ _ _ _ _ _ _ _ hr => absurd rfl hr) (fun w12 fp6 gp3 H14 => ?_)
      try dsimp only [List.nil_append, List.cons_append, List.set_cons_zero, List.set_cons_succ] at H14
      refine d_nil (W_reg (sV rfl (py_move rfl) (sV rfl (py_add rfl rfl (in64 ⟨by omega, by omega⟩)) (sV rfl (py_assign rfl) (s_nil ?_)))))
      have nR := hR.norm (c := c) (r := r) (a := j) (by omega) (by omega)
      have hz := ((H14.ftake 1).dtake 1)
      rw [elimTo_set (by rw [nR.1]; omega) (by omega) (by rw [elimTo_at (by rw [nR.1]; omega), elimTo_r (by rw [nR.1]; omega)]; rfl)] at hz
      refine ⟨(i + 1, _, _, _), ⟨rfl, rfl, rfl, rfl, rfl, trivial⟩, ⟨hz, by omega, by simp only [List.length_set]; omega⟩, by dsimp only; omega⟩
     ·refine W_skip (W_reg (sV rfl (py_move rfl) (sV rfl (py_add rfl rfl (in64 ⟨by omega, by omega⟩)) (sV rfl (py_assign rfl) (s_nil ?_)))))
      have nR := hR.norm (c := c) (r := r) (a := j) (by omega) (by omega)
      have hz := H10
      rw [elimTo_skip (.inl (by omega))] at hz
      refine ⟨(i + 1, _, _, _), ⟨rfl, rfl, rfl, rfl, rfl, trivial⟩, ⟨hz, by omega, vl2⟩, by dsimp only; omega⟩
    ·refine W_exit (W_reg (sV rfl (py_move rfl) (sV rfl (py_add rfl rfl (in64 ⟨by omega, by omega⟩)) (sV rfl (py_assign rfl) (s_nil (W_reg (sV rfl (py_move rfl) (sV rfl (py_add rfl rfl (in64 ⟨by omega, by omega⟩)) (sV rfl (py_assign rfl) (s_nil ?_))))))))))
     have hz := H10
     rw [show i = K by omega] at hz
     refine ⟨(c + 1, elimTo (normM M c r j) c r K, r + 1, _, _, _), ⟨rfl, rfl, rfl, rfl, trivial⟩, ⟨hz, by omega, (step_some hred hpv (by omega)).trans (by rw [xl]), (hR.norm (by omega) (by omega)).elim (by omega), by omega, vl2⟩, by dsimp only; omega⟩
 ·refine W_exit (W_sr (sV rfl (py_move rfl) (sV rfl (py_assign rfl) (s_nil (W_ret (hQ _ _ (fin1 Tryz.results298 rfl ?_)))))))
  have hz := H2.rowsOut vl
  have e9 : redM m n = (M, r) := by
   simp only [Bool.and_eq_false_iff, decide_eq_false_iff_not] at c1
   by_cases hq : c = n
   ·rw [← hq]; exact hred
   ·rw [red_full (c := c) (by rw [hred]; show r = M.length; rw [hR.1]; omega) n hc]; exact hred
  rw [e9]
  exact ⟨rfl, hz⟩
theorem Tryz_impl_solve {w : World} {m : List (List UInt8)} {mA : Option Addr} {mN mC : Nat} {b : List UInt8} {bA : Option Addr} {bN bC : Nat} (mS : Sees w [.slice mA mN mC] m) (bS : Sees w [.slice bA bN bC] b) (hR : Rect m m.length m.length) (hb : b.length = m.length) (hml : 1 ≤ m.length ∧ m.length ≤ 100) : Ret Tryz.prog 249 #[.slice mA mN mC, .slice bA bN bC] w fun v w' => Ext No w w' ∧ (∃ A C, v = .tuple #[.slice A (solL m b).length C, .bool (solOk m b)] ∧ Res w w' [.slice A (solL m b).length C] (solL m b)) := by
 obtain ⟨mF, mO⟩ := mS
 obtain rfl := own_n mO
 have mL := sees_len ⟨_, mO⟩
 unfold maxLen at mL
 obtain ⟨bF, bO⟩ := bS
 obtain rfl := own_n bO
 have bL := sees_len ⟨_, bO⟩
 unfold maxLen at bL
 refine ret_Q (vs := [.slice mA m.length mC, .slice bA b.length bC]) Tryz.func249 rfl Tryz.ntmps249 rfl (fun Q hQ hN => ?_)
 have H0 := Sep.start (w := w) (F := [seen false [.slice mA m.length mC] m mF, seen false [.slice bA b.length bC] b bF]) (all_cons mO (all_cons bO (by simp)))
 refine W_sr (sV rfl (py_assign rfl) (sV rfl (py_assign rfl) (s_nil (W_sr (sV rfl (py_move rfl) (sV rfl (py_len Tryz.underlying163 rfl) (s_make (wn rfl) rfl Tryz.underlying163 Tryz_ty61 (own_zs (α := UInt8)) rfl (by omega) (by unfold maxLen; omega) H0 (fun b1 w1 e1 g1 H1 => ?_))))))))
 refine sV rfl (py_assign rfl) (s_nil (W_seq (W_sr (sV rfl (py_move rfl) (sV rfl (py_len Tryz.underlying163 rfl) (sV rfl (py_move rfl) (s_nil (W_block (W_loop (γ := Nat × List Nat) (fun (k, f) => [(0, .slice mA m.length mC), (1, .slice bA b.length bC), (6, .slice (some ⟨b1, 0, none⟩) m.length m.length), (15, .slice mA m.length mC), (16, .int .i64 m.length), (17, .int .i64 k)]) (fun (k, f) w' => Sep No w [mine [.slice (some ⟨b1, 0, none⟩) m.length m.length] (augIn m b k) f] [seen false [.slice mA m.length mC] m mF, seen false [.slice bA b.length bC] b bF] w' ∧ k ≤ m.length) (fun (k, f) => m.length - k) (0, _) ⟨rfl, rfl, rfl, rfl, rfl, rfl, trivial⟩ ⟨by rw [augIn_zero]; exact H1, by omega⟩ (fun (k, f) w2 H2 => ?_))))))))))
 obtain ⟨H2, hk⟩ := H2
 refine W_sr (sV rfl (py_lss rfl rfl) (s_nil (W_seq (W_ifd rfl (fun c1 => ?_) (fun c1 => ?_)))))
 ·refine W_skip (W_seq (W_block (W_seq ?_)))
  obtain ⟨eb1, eo1, ea1, ek1, ef1, ee1, ec1, eO1, eH1⟩ := elem_sl (H2.seen 0 rfl) k (by omega)
  have eP1 := H2.look1 0 rfl eO1 eH1
  refine W_reg (sV rfl (py_move rfl) (sV rfl (py_elz Tryz.underlying163 Tryz.sizeOf61 rfl rfl ee1 k (by omega) (by omega)) (sV rfl (py_load Tryz.underlying61 rfl rfl ec1) (sV rfl (py_assign rfl) (sV rfl (py_assign rfl) (s_nil ?_))))))
  have e3 := hR.2 k (by omega)
  obtain ⟨eb2, eo2, ee2, ec2⟩ := elem_u8 (eP1.seen 1 rfl) k (by omega)
  obtain ⟨eb3, eo3, ee3⟩ := own_addr (eP1.mine 0 rfl) k (by rw [augIn_len (by omega)]; omega)
  refine W_drw (S := Ext No _) [(0, true), (1, true), (2, true), (4, true), (5, true), (6, true), (7, true), (1005, false), (3, false), (8, false), (9, false), (10, true), (11, false), (8, false), (3, false), (9, false), (10, true), (11, false)] (by kernel_rfl) (by kernel_rfl) (by kernel_rfl) rfl (fun _ => Ext.refl.drawn _) (fun q1 => ?_)
  have H3 := eP1.drawn q1
  refine dV rfl rfl (fun zw hx => py_move rfl) (dV rfl rfl (fun zw hx => py_move rfl) (dV rfl rfl (fun zw hx => py_move rfl) (dV rfl rfl (fun zw hx => py_move rfl) (dV rfl rfl (fun zw hx => py_move rfl) (dV rfl rfl (fun zw hx => py_elz Tryz.underlying61 Tryz.sizeOf5 rfl rfl ee2 k (by omega) (by omega)) (dV rfl rfl (fun zw hx => py_load Tryz.underlying5 rfl rfl (hx.cell ec2)) (d_fork (l1 := [(3, false), (8, false), (9, false), (10, true), (11, false)]) (l2 := [(8, false), (3, false), (9, false), (10, true), (11, false)]) rfl rfl rfl rfl ?_ ?_)))))))
  ·refine d_S (fun hs1 => ?_) (by simp)
   refine d_call rfl (wn rfl) rfl rfl (pc_call Tryz.func197 rfl Tryz_nm197 rfl) (Tryz_slices_Clone_byte_byte (H3.sees 2 rfl) (by omega)) (fun hS _ _ r _ => hS.trans r.1.no) (fun v1 w3 r1 => ?_)
   obtain ⟨e2, r1⟩ := r1
   obtain ⟨fp1, H4, fr1⟩ := H3.resN e2 r1
   obtain ⟨a1, k1, q2⟩ := own_slice (H4.mine 1 rfl)
   cases q2
   refine d_lit1 rfl (wn rfl) rfl Tryz.underlying61 Tryz_ty5 rfl rfl rfl rfl H4 (fun _ h e => h.trans e.no) (fun b2 w4 e3 g2 H5 => ?_)
   refine d_S (fun hs2 => ?_) (by simp)
   refine d_app1S rfl (wn rfl) rfl Tryz.underlying61 Tryz_ty5 rfl rfl rfl H5 1 2 rfl rfl own_b8 (by (try simp only [List.length_nil]); unfold maxLen; omega) (by (try simp only [List.length_nil]); omega) (fun b hb => Nat.le_trans hs1.size (fr1 b hb)) (fun v2 w5 fp2 sb1 H6 => ?_)
   try dsimp only [List.nil_append, List.cons_append, List.set_cons_zero, List.set_cons_succ] at H6
   refine dV rfl rfl (fun zw hx => py_elz Tryz.underlying163 Tryz.sizeOf61 rfl rfl ee3 k (by omega) (by omega)) (d_elst2 rfl (wn rfl) Tryz.sizeOf61 rfl H6 0 1 rfl rfl rfl k (by rw [augIn_len (by omega)]; omega) rfl ee3 rfl (fun w6 fp3 H7 => ?_))
   refine d_nil (W_reg (sV rfl (py_add rfl rfl (in64 ⟨by omega, by omega⟩)) (sV rfl (py_move rfl) (s_nil ?_))))
   have hz := ((H7.ftake 2).dtake 1)
   rw [augIn_set (by omega)] at hz
   refine ⟨(k + 1, _), ⟨rfl, rfl, rfl, rfl, rfl, rfl, trivial⟩, ⟨hz, by omega⟩, by dsimp only; omega⟩
  ·refine d_lit1 rfl (wn rfl) rfl Tryz.underlying61 Tryz_ty5 rfl rfl rfl rfl H3 (fun _ h e => h.trans e.no) (fun b3 w7 e5 g3 H8 => ?_)
   refine d_S (fun hs3 => ?_) (by simp)
   refine d_call rfl (wn rfl) rfl rfl (pc_call Tryz.func197 rfl Tryz_nm197 rfl) (Tryz_slices_Clone_byte_byte (H8.sees 2 rfl) (by omega)) (fun hS _ _ r _ => hS.trans r.1.no) (fun v3 w8 r2 => ?_)
   obtain ⟨e6, r2⟩ := r2
   obtain ⟨fp4, H9, fr2⟩ := H8.resN e6 r2
   obtain ⟨a2, k2, q3⟩ := own_slice (H9.mine 2 rfl)
   cases q3
   refine d_S (fun hs4 => ?_) (by simp)
   refine d_app1S rfl (wn rfl) rfl Tryz.underlying61 Tryz_ty5 rfl rfl rfl H9 2 1 rfl rfl own_b8 (by (try simp only [List.length_nil]); unfold maxLen; omega) (by (try simp only [List.length_nil]); omega) (fun b hb => Nat.le_trans hs3.size (fr2 b hb)) (fun v4 w9 fp5 sb2 H10 => ?_)
   try dsimp only [List.nil_append, List.cons_append, List.set_cons_zero, List.set_cons_succ] at H10
   refine dV rfl rfl (fun zw hx => py_elz Tryz.underlying163 Tryz.sizeOf61 rfl rfl ee3 k (by omega) (by omega)) (d_elst2 rfl (wn rfl) Tryz.sizeOf61 rfl H10 0 2 rfl rfl rfl k (by rw [augIn_len (by omega)]; omega) rfl ee3 rfl (fun w10 fp6 H11 => ?_))
   refine d_nil (W_reg (sV rfl (py_add rfl rfl (in64 ⟨by omega, by omega⟩)) (sV rfl (py_move rfl) (s_nil ?_))))
   have hz := ((H11.ftake 2).dtake 1)
   rw [augIn_set (by omega)] at hz
   refine ⟨(k + 1, _), ⟨rfl, rfl, rfl, rfl, rfl, rfl, trivial⟩, ⟨hz, by omega⟩, by dsimp only; omega⟩
 ·refine W_exit (W_seq (W_seq ?_))
  obtain rfl : k = m.length := by omega
  obtain ⟨vs, f2, g2, vl, HP⟩ := H2.parted 0 rfl
  try dsimp only [List.nil_append, List.cons_append, List.set_cons_zero, List.set_cons_succ] at HP
  rw [augIn_all] at HP
  rw [augIn_all] at vl
  have hRa := aug_rect (b := b) hR
  have hRM := (hRa.red m.length).1
  have hM1 := hRM.1
  have vl1 : vs.length = m.length := vl.trans hRa.1
  refine W_reg (sV rfl (py_move rfl) (sV rfl (py_move rfl) (sV rfl (py_len Tryz.underlying163 rfl) (s_call (wn rfl) rfl rfl (pc_call Tryz.func284 rfl Tryz_nm284 rfl) (Tryz_impl_reduce (HP.mine 0 rfl) (HP.nodup1 (i := 0) rfl) (HP.rowsAt 2 rfl) (fun b hb => HP.off 2 rfl 0 rfl hb) (by first | assumption | omega) (by assumption) (by omega)) (fun v5 w11 r3 => ?_)))))
  obtain ⟨rfl, rm1⟩ := r3
  obtain ⟨rv1, rf1, rg1, rl1, H12⟩ := HP.rowsMut 0 rfl (by simp [blocks, mine, gone]) rm1
  try dsimp only [List.nil_append, List.cons_append, List.set_cons_zero, List.set_cons_succ] at H12
  refine sV rfl (py_move rfl) (sV rfl (py_len Tryz.underlying163 rfl) (sV rfl (py_lss rfl rfl) (s_nil (W_ifd rfl (fun c2 => ?_) (fun c2 => ?_)))))
  ·refine W_sr (sV rfl (py_assign rfl) (sV rfl (py_assign rfl) (s_nil (W_ret (hQ _ _ (fin2 Tryz.results249 rfl rfl ?_))))))
   obtain ⟨e1, e2⟩ := sol_no (m := m) (b := b) (by omega)
   exact ⟨H12.ext, none, 0, (by rw [e1, e2]; rfl), (by rw [e2]; exact ⟨[], .inr (.inl ⟨rfl, rfl, rfl⟩), .nil, by simp⟩)⟩
  ·refine W_skip (W_sr (s_lit0 (α := UInt8) (wn rfl) rfl Tryz.underlying61 Tryz_ty5 H12 (fun b4 w12 e9 g4 H13 => ?_)))
   refine sV rfl (py_assign rfl) (s_nil (W_seq (W_sr (sV rfl (py_move rfl) (sV rfl (py_len Tryz.underlying163 rfl) (sV rfl (py_move rfl) (s_nil (W_block (W_loop (γ := Nat × Value × List Nat) (fun (k, vo, f) => [(0, .slice mA m.length mC), (9, vo), (42, .slice (some ⟨b1, 0, none⟩) m.length m.length), (43, .int .i64 m.length), (44, .int .i64 k)]) (fun (k, vo, f) w' => Sep No w [mine [.slice (some ⟨b1, 0, none⟩) m.length m.length] rv1 rf1, mine [vo] (colTo (redM (aug m b) m.length).1 m.length k) f] _ w' ∧ k ≤ m.length) (fun (k, vo, f) => m.length - k) (0, _, _) ⟨rfl, rfl, rfl, rfl, rfl, trivial⟩ ⟨H13.sub (.cons_cons _ (.cons_cons _ List.Sublist.slnil)), by omega⟩ (fun (k, vo, f) w13 H14 => ?_))))))))))
   obtain ⟨H14, hk⟩ := H14
   refine W_sr (sV rfl (py_lss rfl rfl) (s_nil (W_seq (W_ifd rfl (fun c3 => ?_) (fun c3 => ?_)))))
   ·refine W_skip (W_seq (W_block (W_seq ?_)))
    obtain ⟨eb4, eo4, ea2, ek2, ef2, ee4, ec4, eO2, eH2, em1⟩ := elem_view (H14.mine 0 rfl) (H14.rowsAt 3 rfl) (by first | omega | (simp only [List.length_set]; omega)) k (by first | omega | (simp only [List.length_set]; omega))
    have eP2 := H14.lookR 3 rfl eO2 eH2
    refine W_reg (sV rfl (py_elz Tryz.underlying163 Tryz.sizeOf61 rfl rfl ee4 k (by omega) (by omega)) (sV rfl (py_load Tryz.underlying61 rfl rfl ec4) (sV rfl (py_assign rfl) (s_nil ?_))))
    have e5 := hRM.2 k (by omega)
    have ctl := colTo_len (m := (redM (aug m b) m.length).1) (c := m.length) (k := k)
    obtain ⟨eb5, eo5, ee5, ec5⟩ := elem_u8 (eP2.seen 4 rfl) m.length (by omega)
    refine W_reg (sV rfl (py_move rfl) (sV rfl (py_move rfl) (sV rfl (py_move rfl) (sV rfl (py_len Tryz.underlying163 rfl) (sV rfl (py_elz Tryz.underlying61 Tryz.sizeOf5 rfl rfl ee5 m.length (by omega) (by omega)) (sV rfl (py_load Tryz.underlying5 rfl rfl ec5) (s_lit1 (wn rfl) rfl Tryz.underlying61 Tryz_ty5 rfl rfl rfl rfl eP2 (fun b5 w14 e10 g5 H15 => ?_))))))))
    refine s_app1 (wn rfl) rfl Tryz.underlying61 Tryz_ty5 rfl rfl rfl H15 1 2 rfl rfl own_b8 (by unfold maxLen; omega) (by omega) (fun v6 w15 fp7 H16 => ?_)
    refine sV rfl (py_assign rfl) (s_nil (W_reg (sV rfl (py_add rfl rfl (in64 ⟨by omega, by omega⟩)) (sV rfl (py_move rfl) (s_nil ?_)))))
    have hz := H16.ftake 4 |>.sub (.cons_cons _ (.cons_cons _ (.cons _ List.Sublist.slnil)))
    rw [colTo_step] at hz
    refine ⟨(k + 1, _, _), ⟨rfl, rfl, rfl, rfl, rfl, trivial⟩, ⟨hz, by omega⟩, by dsimp only; omega⟩
   ·refine W_exit (W_sr (sV rfl (py_move rfl) (sV rfl (py_assign rfl) (sV rfl (py_assign rfl) (s_nil (W_ret (hQ _ _ (fin2 Tryz.results249 rfl rfl ?_))))))))
    obtain rfl : k = m.length := by omega
    obtain ⟨e1, e2⟩ := sol_yes (m := m) (b := b) (by omega)
    obtain ⟨qa, qc, qq⟩ := own_slice (H14.mine 1 rfl)
    cases qq
    exact ⟨H14.ext, qa, qc, (by rw [e1, e2]), (by rw [e2]; exact H14.out 1 rfl)⟩
theorem Tryz_spec_l1Solve {w : World} {m : List (List UInt8)} {mA : Option Addr} {mN mC : Nat} {b : List UInt8} {bA : Option Addr} {bN bC : Nat} (mS : Sees w [.slice mA mN mC] m) (bS : Sees w [.slice bA bN bC] b) (hR : Rect m m.length m.length) (hb : b.length = m.length) (hml : 1 ≤ m.length ∧ m.length ≤ 100) : Ret Tryz.prog 282 #[.slice mA mN mC, .slice bA bN bC] w fun v w' => Ext No w w' ∧ (∃ A C, v = .tuple #[.slice A (solL m b).length C, .bool (solOk m b)] ∧ Res w w' [.slice A (solL m b).length C] (solL m b)) := by
 obtain ⟨mF, mO⟩ := mS
 obtain rfl := own_n mO
 have mL := sees_len ⟨_, mO⟩
 unfold maxLen at mL
 obtain ⟨bF, bO⟩ := bS
 obtain rfl := own_n bO
 have bL := sees_len ⟨_, bO⟩
 unfold maxLen at bL
 refine ret_Q (vs := [.slice mA m.length mC, .slice bA b.length bC]) Tryz.func282 rfl Tryz.ntmps282 rfl (fun Q hQ hN => ?_)
 have H0 := Sep.start (w := w) (F := [seen false [.slice mA m.length mC] m mF, seen false [.slice bA b.length bC] b bF]) (all_cons mO (all_cons bO (by simp)))
 refine W_sr (sV rfl (py_assign rfl) (sV rfl (py_assign rfl) (s_nil (W_sr (s_lit0 (α := (List UInt8)) (wn rfl) rfl Tryz.underlying163 Tryz_ty61 H0 (fun b1 w1 e1 g1 H1 => ?_))))))
 refine sV rfl (py_assign rfl) (s_nil (W_seq (W_sr (sV rfl (py_assign rfl) (s_nil (W_block (W_loop (γ := Nat × Value × List Nat) (fun (k, vo, f) => [(0, .slice mA m.length mC), (1, .slice bA b.length bC), (6, vo), (7, .int .i64 k)]) (fun (k, vo, f) w' => Sep No w [mine [vo] (augTo m b k) f] [seen false [.slice mA m.length mC] m mF, seen false [.slice bA b.length bC] b bF] w' ∧ k ≤ m.length) (fun (k, vo, f) => m.length - k) (0, _, _) ⟨rfl, rfl, rfl, rfl, trivial⟩ ⟨H1, by omega⟩ (fun (k, vo, f) w2 H2 => ?_))))))))
 obtain ⟨H2, hk⟩ := H2
 refine W_seq (W_sr (sV rfl (py_move rfl) (sV rfl (py_move rfl) (sV rfl (py_len Tryz.underlying163 rfl) (sV rfl (py_lss rfl rfl) (s_nil (W_ifd rfl (fun c1 => ?_) (fun c1 => ?_))))))))
 ·refine W_skip (W_seq (W_block ?_))
  have e3 := hR.2 k (by omega)
  have al := augTo_len (m := m) (b := b) (k := k)
  obtain ⟨eb1, eo1, ea1, ek1, ef1, ee1, ec1, eO1, eH1, em1⟩ := elem_slm (H2.seen 0 rfl) k (by omega)
  have eP1 := H2.look1 0 rfl eO1 eH1
  obtain ⟨eb2, eo2, ee2, ec2, em2⟩ := elem_u8m (eP1.seen 1 rfl) k (by omega)
  refine W_drw (S := Ext (· ∈ f) _) [(0, true), (2, true), (3, true), (4, true), (5, true), (7, true), (8, true), (9, true), (10, true), (1014, false), (1, false), (1006, false), (6, false), (11, false), (12, false), (13, false), (14, false), (15, false), (11, false), (6, false), (12, false), (13, false), (14, false), (15, false), (11, false), (1, false), (6, false), (12, false), (13, false), (14, false), (15, false)] (by kernel_rfl) (by kernel_rfl) (by kernel_rfl) rfl (fun _ => Ext.refl.drawn _) (fun q1 => ?_)
  have H3 := eP1.drawn q1
  refine dV rfl rfl (fun zw hx => py_move rfl) (dV rfl rfl (fun zw hx => py_move rfl) (dV rfl rfl (fun zw hx => py_move rfl) (dV rfl rfl (fun zw hx => py_elz Tryz.underlying163 Tryz.sizeOf61 rfl rfl ee1 k (by omega) (by omega)) (dV rfl rfl (fun zw hx => py_load Tryz.underlying61 rfl rfl (hx.cellM (H3.off 0 rfl 0 rfl em1) ec1)) (dV rfl rfl (fun zw hx => py_move rfl) (dV rfl rfl (fun zw hx => py_move rfl) (dV rfl rfl (fun zw hx => py_elz Tryz.underlying61 Tryz.sizeOf5 rfl rfl ee2 k (by omega) (by omega)) (dV rfl rfl (fun zw hx => py_load Tryz.underlying5 rfl rfl (hx.cellM (H3.off 1 rfl 0 rfl em2) ec2)) (d_fork (l1 := [(1, false), (1006, false), (6, false), (11, false), (12, false), (13, false), (14, false), (15, false), (11, false), (6, false), (12, false), (13, false), (14, false), (15, false)]) (l2 := [(11, false), (1, false), (6, false), (12, false), (13, false), (14, false), (15, false)]) rfl rfl rfl rfl ?_ ?_)))))))))
  ·refine d_S (fun hs1 => ?_) (by simp)
   refine d_lit0 (α := UInt8) rfl (wn rfl) rfl Tryz.underlying61 Tryz_ty5 H3 (fun _ h e => h.trans e.no) (fun b2 w3 e2 g2 H4 => ?_)
   refine d_fork (l1 := [(6, false), (11, false), (12, false), (13, false), (14, false), (15, false)]) (l2 := [(11, false), (6, false), (12, false), (13, false), (14, false), (15, false)]) rfl rfl rfl rfl ?_ ?_
   ·refine d_S (fun hs2 => ?_) (by simp)
    refine d_appFS rfl (wn rfl) rfl Tryz.underlying61 Tryz_ty5 rfl rfl rfl H4 1 rfl (H4.seen 2 rfl) (by (try simp only [List.length_nil]); unfold maxLen; omega) (by (try simp only [List.length_nil]); omega) (fun b hb => by simp only [List.mem_singleton] at hb; rw [hb]; exact Nat.le_trans hs1.size g2) (fun v1 w4 fp1 sb1 H5 => ?_)
    try dsimp only [List.nil_append, List.cons_append, List.set_cons_zero, List.set_cons_succ] at H5
    refine d_lit1 rfl (wn rfl) rfl Tryz.underlying61 Tryz_ty5 rfl rfl rfl rfl H5 (fun _ h e => h.trans e.no) (fun b3 w5 e3 g3 H6 => ?_)
    refine d_S (fun hs3 => ?_) (by simp)
    refine d_app1S rfl (wn rfl) rfl Tryz.underlying61 Tryz_ty5 rfl rfl rfl H6 1 2 rfl rfl own_b8 (by (try simp only [List.length_nil]); unfold maxLen; omega) (by (try simp only [List.length_nil]); omega) (fun b hb => (sb1 b hb).elim (((fun b hb => by simp only [List.mem_singleton] at hb; rw [hb]; exact Nat.le_trans hs1.size g2) : ∀ b ∈ _, _ ≤ b) b) (fun h => Nat.le_trans hs2.size h)) (fun v2 w6 fp2 sb2 H7 => ?_)
    try dsimp only [List.nil_append, List.cons_append, List.set_cons_zero, List.set_cons_succ] at H7
    obtain ⟨a1, k1, q2⟩ := own_slice (H7.mine 1 rfl)
    cases q2
    refine d_lit1 rfl (wn rfl) rfl Tryz.underlying163 Tryz_ty61 rfl rfl rfl rfl H7 (fun _ h e => h.trans e.no) (fun b4 w7 e4 g4 H8 => ?_)
    refine d_app2 rfl (wn rfl) rfl Tryz.underlying163 Tryz_ty61 rfl rfl rfl H8 0 3 1 rfl rfl rfl rfl (by unfold maxLen; omega) (by omega) (fun _ h e => h.trans e) (fun v3 w8 fp3 H9 => ?_)
    refine d_end rfl (wn rfl) rfl rfl (py_assign rfl) (d_nil (W_reg (sV rfl (py_move rfl) (sV rfl (py_add rfl rfl (in64 ⟨by omega, by omega⟩)) (sV rfl (py_assign rfl) (s_nil ?_))))))
    have hz := ((H9.ftake 2).dtake 1)
    try simp only [List.nil_append] at hz
    rw [augTo_step] at hz
    refine ⟨(k + 1, _, _), ⟨rfl, rfl, rfl, rfl, trivial⟩, ⟨hz, by omega⟩, by dsimp only; omega⟩
   ·refine d_lit1 rfl (wn rfl) rfl Tryz.underlying61 Tryz_ty5 rfl rfl rfl rfl H4 (fun _ h e => h.trans e.no) (fun b5 w9 e5 g5 H10 => ?_)
    refine d_S (fun hs4 => ?_) (by simp)
    refine d_appFS rfl (wn rfl) rfl Tryz.underlying61 Tryz_ty5 rfl rfl rfl H10 1 rfl (H10.seen 2 rfl) (by (try simp only [List.length_nil]); unfold maxLen; omega) (by (try simp only [List.length_nil]); omega) (fun b hb => by simp only [List.mem_singleton] at hb; rw [hb]; exact Nat.le_trans hs1.size g2) (fun v4 w10 fp4 sb3 H11 => ?_)
    try dsimp only [List.nil_append, List.cons_append, List.set_cons_zero, List.set_cons_succ] at H11
    refine d_S (fun hs5 => ?_) (by simp)
    refine d_app1S rfl (wn rfl) rfl Tryz.underlying61 Tryz_ty5 rfl rfl rfl H11 1 2 rfl rfl own_b8 (by (try simp only [List.length_nil]); unfold maxLen; omega) (by (try simp only [List.length_nil]); omega) (fun b hb => (sb3 b hb).elim (((fun b hb => by simp only [List.mem_singleton] at hb; rw [hb]; exact Nat.le_trans hs1.size g2) : ∀ b ∈ _, _ ≤ b) b) (fun h => Nat.le_trans hs4.size h)) (fun v5 w11 fp5 sb4 H12 => ?_)
    try dsimp only [List.nil_append, List.cons_append, List.set_cons_zero, List.set_cons_succ] at H12
    obtain ⟨a2, k2, q3⟩ := own_slice (H12.mine 1 rfl)
    cases q3
    refine d_lit1 rfl (wn rfl) rfl Tryz.underlying163 Tryz_ty61 rfl rfl rfl rfl H12 (fun _ h e => h.trans e.no) (fun b6 w12 e6 g6 H13 => ?_)
    refine d_app2 rfl (wn rfl) rfl Tryz.underlying163 Tryz_ty61 rfl rfl rfl H13 0 3 1 rfl rfl rfl rfl (by unfold maxLen; omega) (by omega) (fun _ h e => h.trans e) (fun v6 w13 fp6 H14 => ?_)
    refine d_end rfl (wn rfl) rfl rfl (py_assign rfl) (d_nil (W_reg (sV rfl (py_move rfl) (sV rfl (py_add rfl rfl (in64 ⟨by omega, by omega⟩)) (sV rfl (py_assign rfl) (s_nil ?_))))))
    have hz := ((H14.ftake 2).dtake 1)
    try simp only [List.nil_append] at hz
    rw [augTo_step] at hz
    refine ⟨(k + 1, _, _), ⟨rfl, rfl, rfl, rfl, trivial⟩, ⟨hz, by omega⟩, by dsimp only; omega⟩
  ·refine d_lit1 rfl (wn rfl) rfl Tryz.underlying61 Tryz_ty5 rfl rfl rfl rfl H3 (fun _ h e => h.trans e.no) (fun b7 w14 e7 g7 H15 => ?_)
   refine d_S (fun hs6 => ?_) (by simp)
   refine d_lit0 (α := UInt8) rfl (wn rfl) rfl Tryz.underlying61 Tryz_ty5 H15 (fun _ h e => h.trans e.no) (fun b8 w15 e8 g8 H16 => ?_)
   refine d_S (fun hs7 => ?_) (by simp)
   refine d_appFS rfl (wn rfl) rfl Tryz.underlying61 Tryz_ty5 rfl rfl rfl H16 2 rfl (H16.seen 2 rfl) (by (try simp only [List.length_nil]); unfold maxLen; omega) (by (try simp only [List.length_nil]); omega) (fun b hb => by simp only [List.mem_singleton] at hb; rw [hb]; exact Nat.le_trans hs6.size g8) (fun v7 w16 fp7 sb5 H17 => ?_)
   try dsimp only [List.nil_append, List.cons_append, List.set_cons_zero, List.set_cons_succ] at H17
   refine d_S (fun hs8 => ?_) (by simp)
   refine d_app1S rfl (wn rfl) rfl Tryz.underlying61 Tryz_ty5 rfl rfl rfl H17 2 1 rfl rfl own_b8 (by (try simp only [List.length_nil]); unfold maxLen; omega) (by (try simp only [List.length_nil]); omega) (fun b hb => (sb5 b hb).elim (((fun b hb => by simp only [List.mem_singleton] at hb; rw [hb]; exact Nat.le_trans hs6.size g8) : ∀ b ∈ _, _ ≤ b) b) (fun h => Nat.le_trans hs7.size h)) (fun v8 w17 fp8 sb6 H18 => ?_)
   try dsimp only [List.nil_append, List.cons_append, List.set_cons_zero, List.set_cons_succ] at H18
   obtain ⟨a3, k3, q4⟩ := own_slice (H18.mine 2 rfl)
   cases q4
   refine d_lit1 rfl (wn rfl) rfl Tryz.underlying163 Tryz_ty61 rfl rfl rfl rfl H18 (fun _ h e => h.trans e.no) (fun b9 w18 e9 g9 H19 => ?_)
   refine d_app2 rfl (wn rfl) rfl Tryz.underlying163 Tryz_ty61 rfl rfl rfl H19 0 3 2 rfl rfl rfl rfl (by unfold maxLen; omega) (by omega) (fun _ h e => h.trans e) (fun v9 w19 fp9 H20 => ?_)
   refine d_end rfl (wn rfl) rfl rfl (py_assign rfl) (d_nil (W_reg (sV rfl (py_move rfl) (sV rfl (py_add rfl rfl (in64 ⟨by omega, by omega⟩)) (sV rfl (py_assign rfl) (s_nil ?_))))))
   have hz := ((H20.ftake 2).dtake 1)
   try simp only [List.nil_append] at hz
   rw [augTo_step] at hz
   refine ⟨(k + 1, _, _), ⟨rfl, rfl, rfl, rfl, trivial⟩, ⟨hz, by omega⟩, by dsimp only; omega⟩
 ·refine W_exit (W_sr (sV rfl (py_move rfl) (sV rfl (py_len Tryz.underlying163 rfl) (sV rfl (py_assign rfl) (s_nil (W_seq (W_seq ?_)))))))
  obtain rfl : k = m.length := by omega
  obtain ⟨oA, oC, oq⟩ := own_slice (H2.mine 0 rfl)
  rw [augTo_len] at oq
  cases oq
  have al : (augTo m b m.length).length = m.length := augTo_len
  obtain ⟨vs, f2, g2, vl, HP⟩ := H2.parted 0 rfl
  try dsimp only [List.nil_append, List.cons_append, List.set_cons_zero, List.set_cons_succ] at HP
  rw [show augTo m b m.length = aug m b from rfl] at HP vl
  have hRa := aug_rect (b := b) hR
  have hRM := (hRa.red m.length).1
  have hM1 := hRM.1
  have vl1 : vs.length = m.length := vl.trans hRa.1
  refine W_reg (sV rfl (py_move rfl) (sV rfl (py_move rfl) (s_call (wn rfl) rfl rfl (pc_call Tryz.func298 rfl Tryz_nm298 rfl) (Tryz_spec_l1Step (HP.mine 0 rfl) (HP.nodup1 (i := 0) rfl) (HP.rowsAt 2 rfl) (fun b hb => HP.off 2 rfl 0 rfl hb) (by first | assumption | omega) (by assumption) (by omega)) (fun v10 w20 r1 => ?_))))
  obtain ⟨rfl, rm1⟩ := r1
  obtain ⟨rv1, rf1, rg1, rl1, H21⟩ := HP.rowsMut 0 rfl (by simp [blocks, mine, gone]) rm1
  try dsimp only [List.nil_append, List.cons_append, List.set_cons_zero, List.set_cons_succ] at H21
  refine sV rfl (py_move rfl) (sV rfl (py_lss rfl rfl) (s_nil (W_ifd rfl (fun c2 => ?_) (fun c2 => ?_))))
  ·refine W_sr (sV rfl (py_assign rfl) (sV rfl (py_assign rfl) (s_nil (W_ret (hQ _ _ (fin2 Tryz.results282 rfl rfl ?_))))))
   obtain ⟨e1, e2⟩ := sol_no (m := m) (b := b) (by omega)
   exact ⟨H21.ext, none, 0, (by rw [e1, e2]; rfl), (by rw [e2]; exact ⟨[], .inr (.inl ⟨rfl, rfl, rfl⟩), .nil, by simp⟩)⟩
  ·refine W_skip (W_sr (s_lit0 (α := UInt8) (wn rfl) rfl Tryz.underlying61 Tryz_ty5 H21 (fun b10 w21 e11 g10 H22 => ?_)))
   refine sV rfl (py_assign rfl) (s_nil (W_seq (W_sr (sV rfl (py_assign rfl) (s_nil (W_block (W_loop (γ := Nat × Value × List Nat) (fun (k, vo, f) => [(0, .slice mA m.length mC), (6, .slice oA m.length oC), (8, .int .i64 m.length), (9, vo), (10, .int .i64 k)]) (fun (k, vo, f) w' => Sep No w [mine [.slice oA m.length oC] rv1 rf1, mine [vo] (colTo (redM (aug m b) m.length).1 m.length k) f] _ w' ∧ k ≤ m.length) (fun (k, vo, f) => m.length - k) (0, _, _) ⟨rfl, rfl, rfl, rfl, rfl, trivial⟩ ⟨H22.sub (.cons_cons _ (.cons_cons _ List.Sublist.slnil)), by omega⟩ (fun (k, vo, f) w22 H23 => ?_))))))))
   obtain ⟨H23, hk⟩ := H23
   refine W_seq (W_sr (sV rfl (py_move rfl) (sV rfl (py_move rfl) (sV rfl (py_lss rfl rfl) (s_nil (W_ifd rfl (fun c3 => ?_) (fun c3 => ?_)))))))
   ·refine W_skip (W_seq (W_block ?_))
    have e5 := hRM.2 k (by omega)
    have ctl := colTo_len (m := (redM (aug m b) m.length).1) (c := m.length) (k := k)
    obtain ⟨eb3, eo3, ea2, ek2, ef2, ee3, ec3, eO2, eH2, em3⟩ := elem_view (H23.mine 0 rfl) (H23.rowsAt 3 rfl) (by first | omega | (simp only [List.length_set]; omega)) k (by first | omega | (simp only [List.length_set]; omega))
    have eP2 := H23.lookR 3 rfl eO2 eH2
    obtain ⟨eb4, eo4, ee4, ec4⟩ := elem_u8 (eP2.seen 4 rfl) m.length (by omega)
    refine W_reg (sV rfl (py_move rfl) (sV rfl (py_move rfl) (sV rfl (py_move rfl) (sV rfl (py_elz Tryz.underlying163 Tryz.sizeOf61 rfl rfl ee3 k (by omega) (by omega)) (sV rfl (py_load Tryz.underlying61 rfl rfl ec3) (sV rfl (py_move rfl) (sV rfl (py_elz Tryz.underlying61 Tryz.sizeOf5 rfl rfl ee4 m.length (by omega) (by omega)) (sV rfl (py_load Tryz.underlying5 rfl rfl ec4) (s_lit1 (wn rfl) rfl Tryz.underlying61 Tryz_ty5 rfl rfl rfl rfl eP2 (fun b11 w23 e12 g11 H24 => ?_))))))))))
    refine s_app1 (wn rfl) rfl Tryz.underlying61 Tryz_ty5 rfl rfl rfl H24 1 2 rfl rfl own_b8 (by unfold maxLen; omega) (by omega) (fun v11 w24 fp10 H25 => ?_)
    refine sV rfl (py_assign rfl) (s_nil (W_reg (sV rfl (py_move rfl) (sV rfl (py_add rfl rfl (in64 ⟨by omega, by omega⟩)) (sV rfl (py_assign rfl) (s_nil ?_))))))
    have hz := H25.ftake 4 |>.sub (.cons_cons _ (.cons_cons _ (.cons _ List.Sublist.slnil)))
    rw [colTo_step] at hz
    refine ⟨(k + 1, _, _), ⟨rfl, rfl, rfl, rfl, rfl, trivial⟩, ⟨hz, by omega⟩, by dsimp only; omega⟩
   ·refine W_exit (W_sr (sV rfl (py_move rfl) (sV rfl (py_assign rfl) (sV rfl (py_assign rfl) (s_nil (W_ret (hQ _ _ (fin2 Tryz.results282 rfl rfl ?_))))))))
    obtain rfl : k = m.length := by omega
    obtain ⟨e1, e2⟩ := sol_yes (m := m) (b := b) (by omega)
    obtain ⟨qa, qc, qq⟩ := own_slice (H23.mine 1 rfl)
    cases qq
    exact ⟨H23.ext, qa, qc, (by rw [e1, e2]), (by rw [e2]; exact H23.out 1 rfl)⟩
theorem Tryz_impl_rowCode_between {w : World} {n : Nat} {s p : Int} {hs : List Int} {hsA : Option Addr} {hsC : Nat} (hsS : Sees w [.slice hsA hs.length hsC] hs) (hn : 1 ≤ n ∧ n ≤ 100) (hl : hs.length = n) (hr : ∀ i, i < n → 0 ≤ hs.getD i 0 ∧ hs.getD i 0 ≤ 500) (hp : 0 ≤ p ∧ p ≤ 500) : Ret Tryz.prog 251 #[.agg #[.int .i64 n, .int .i64 s], .slice hsA hs.length hsC, .int .i64 p] w fun v w' => Ext No w w' ∧ (Res w w' [v] (betw n hs p 0)) := by
 obtain ⟨hsF, hsO⟩ := hsS
 refine ret_Q (vs := [.agg #[.int .i64 n, .int .i64 s], .slice hsA hs.length hsC, .int .i64 p]) Tryz.func251 rfl Tryz.ntmps251 rfl (fun Q hQ hN => ?_)
 have H0 := Sep.start (w := w) (F := [seen false [.slice hsA hs.length hsC] hs hsF]) (all_cons hsO (by simp))
 refine W_sr (s_box (wn rfl) rfl rfl H0 (fun b1 w1 e1 g1 H1 => ?_))
 refine sV rfl (py_assign rfl) (s_nil (W_sr (sV rfl (py_field Tryz.underlying166 rfl Tryz.sizeOf2 rfl rfl) (sV rfl (py_load Tryz.underlying2 rfl rfl (cell_atL (H1.box 0 rfl) rfl)) (s_make (wn rfl) rfl Tryz.underlying163 Tryz_ty61 (own_zs (α := UInt8)) rfl (by omega) (by unfold maxLen; omega) H1 (fun b2 w2 e2 g2 H2 => ?_))))))
 refine sV rfl (py_assign rfl) (s_nil (W_seq (W_sr (sV rfl (py_move rfl) (sV rfl (py_len Tryz.underlying25 rfl) (sV rfl (py_move rfl) (s_nil (W_block (W_loop (γ := Nat × List Nat) (fun (j, f) => [(2, .int .i64 p), (3, .pointer (some ⟨b1, 0, none⟩)), (7, .slice (some ⟨b2, 0, none⟩) n n), (17, .slice hsA hs.length hsC), (18, .int .i64 hs.length), (19, .int .i64 j)]) (fun (j, f) w' => Sep No w [box b1 (.cells #[.int .i64 n, .int .i64 s] 166), mine [.slice (some ⟨b2, 0, none⟩) n n] (trF (hv n hs 0) n j 0) f] [seen false [.slice hsA hs.length hsC] hs hsF] w' ∧ j ≤ n) (fun (j, f) => n - j) (0, _) ⟨rfl, rfl, rfl, rfl, rfl, rfl, trivial⟩ ⟨by rw [trF_zero]; exact H2, by omega⟩ (fun (j, f) w3 H3 => ?_))))))))))
 obtain ⟨H3, hj0⟩ := H3
 refine W_sr (sV rfl (py_lss rfl rfl) (s_nil (W_seq (W_ifd rfl (fun c1 => ?_) (fun c1 => ?_)))))
 ·refine W_skip (W_seq (W_block (W_seq ?_)))
  obtain ⟨eb1, eo1, ee1, ec1⟩ := elem_int (H3.seen 0 rfl) j (by omega)
  have eI1 := elem_i64 (H3.seen 0 rfl) j (by omega)
  refine W_reg (sV rfl (py_elz Tryz.underlying25 Tryz.sizeOf2 rfl rfl ee1 j (by omega) (by omega)) (sV rfl (py_load Tryz.underlying2 rfl rfl ec1) (sV rfl (py_assign rfl) (s_nil (W_seq ?_)))))
  have hj := hr j (by omega)
  have gl : (genG n (hs.getD j 0) 0).length = n := genG_len
  refine W_reg (sV rfl (py_loadS Tryz.underlying166 rfl Tryz.sizeOf166 rfl rfl (At.whole (H3.box 0 rfl))) (sV rfl (py_move rfl) (s_call (wn rfl) rfl rfl (pc_call Tryz.func231 rfl Tryz_nm231 rfl) (Tryz_impl_rowCode_weights (by omega)) (fun v1 w4 r1 => ?_))))
  obtain ⟨e3, r1⟩ := r1
  obtain ⟨fp1, H4⟩ := H3.res e3 r1
  obtain ⟨a1, k1, q1⟩ := own_slice (H4.mine 2 rfl)
  cases q1
  refine sV rfl (py_len Tryz.underlying61 rfl) (sV rfl (py_move rfl) (s_nil (W_block (W_loop (γ := Nat × List Nat) (fun (i, f2) => [(2, .int .i64 p), (3, .pointer (some ⟨b1, 0, none⟩)), (7, .slice (some ⟨b2, 0, none⟩) n n), (17, .slice hsA hs.length hsC), (18, .int .i64 hs.length), (19, .int .i64 j), (25, .slice a1 (genG n (hs.getD j 0) 0).length k1), (26, .int .i64 (genG n (hs.getD j 0) 0).length), (27, .int .i64 i)]) (fun (i, f2) w' => Sep No w [box b1 (.cells #[.int .i64 n, .int .i64 s] 166), mine [.slice (some ⟨b2, 0, none⟩) n n] (trF (hv n hs 0) n j i) f2, mine [.slice a1 (genG n (hs.getD j 0) 0).length k1] (genG n (hs.getD j 0) 0) fp1] [seen false [.slice hsA hs.length hsC] hs hsF] w' ∧ i ≤ n) (fun (i, f2) => n - i) (0, _) ⟨rfl, rfl, rfl, rfl, rfl, rfl, rfl, rfl, rfl, trivial⟩ ⟨H4, by omega⟩ (fun (i, f2) w5 H5 => ?_)))))
  obtain ⟨H5, hi⟩ := H5
  refine W_sr (sV rfl (py_lss rfl rfl) (s_nil (W_seq (W_ifd rfl (fun c2 => ?_) (fun c2 => ?_)))))
  ·refine W_skip (W_seq (W_block (W_seq ?_)))
   obtain ⟨eb2, eo2, ee2, ec2⟩ := elem_u8 (H5.mine 2 rfl) i (by omega)
   refine W_reg (sV rfl (py_move rfl) (sV rfl (py_elz Tryz.underlying61 Tryz.sizeOf5 rfl rfl ee2 i (by omega) (by omega)) (sV rfl (py_load Tryz.underlying5 rfl rfl ec2) (sV rfl (py_assign rfl) (sV rfl (py_assign rfl) (s_nil ?_))))))
   have e6 : ((trF (hv n hs 0) n j i).getD i []).length = j := by rw [trF_get (by omega)]; simp
   obtain ⟨eb3, eo3, eB1, eS1, eF1, eG1, ef1, ea1, ek1, ee3, eN1, ec3, nbef1, eH1⟩ := H5.unhook 1 rfl i (by rw [trF_len]; omega)
   try dsimp only [List.nil_append, List.cons_append, List.set_cons_zero, List.set_cons_succ] at eH1
   refine W_reg (sV rfl (py_move rfl) (sV rfl (py_move rfl) (sV rfl (py_move rfl) (sV rfl (py_move rfl) (sV rfl (py_elz Tryz.underlying163 Tryz.sizeOf61 rfl rfl ee3 i (by omega) (by omega)) (sV rfl (py_load Tryz.underlying61 rfl rfl ec3) (sV rfl (py_move rfl) (s_lit1 (wn rfl) rfl Tryz.underlying61 Tryz_ty5 rfl rfl rfl rfl eH1 (fun b3 w6 e4 g3 H6 => ?_)))))))))
   refine s_app1 (wn rfl) rfl Tryz.underlying61 Tryz_ty5 rfl rfl rfl H6 3 4 rfl rfl own_b8 (by unfold maxLen; omega) (by omega) (fun v2 w7 fp2 H7 => ?_)
   refine sV rfl (py_elz Tryz.underlying163 Tryz.sizeOf61 rfl rfl ee3 i (by omega) (by omega)) (s_hook (wn rfl) Tryz.sizeOf61 H7 1 3 rfl rfl rfl eN1 rfl rfl (fun w8 fp3 H8 => ?_))
   try dsimp only [List.nil_append, List.cons_append, List.set_cons_zero, List.set_cons_succ] at H8
   refine s_nil (W_reg (sV rfl (py_add rfl rfl (in64 ⟨by omega, by omega⟩)) (sV rfl (py_move rfl) (s_nil ?_))))
   have hz := (H8.dtake 3)
   rw [show (genG n (hs.getD j 0) 0).getD i 0 = (hv n hs 0 j).getD i 0 from rfl, trF_step (by omega)] at hz
   refine ⟨(i + 1, _), ⟨rfl, rfl, rfl, rfl, rfl, rfl, rfl, rfl, rfl, trivial⟩, ⟨hz, by omega⟩, by dsimp only; omega⟩
  ·refine W_exit (W_reg (sV rfl (py_add rfl rfl (in64 ⟨by omega, by omega⟩)) (sV rfl (py_move rfl) (s_nil ?_))))
   have ei : i = n := by omega
   have hz := (H5.dtake 2)
   rw [ei, trF_next] at hz
   refine ⟨(j + 1, _), ⟨rfl, rfl, rfl, rfl, rfl, rfl, trivial⟩, ⟨hz, by omega⟩, by dsimp only; omega⟩
 ·refine W_exit (W_seq ?_)
  have ej : j = n := by omega
  have HB := H3
  rw [ej, show trF (hv n hs 0) n n 0 = betwM n hs 0 from rfl] at HB
  have hRm := betwM_rect (n := n) (h := hs) (b := 0)
  have bl := betwM_len (n := n) (h := hs) (b := 0)
  have gl2 : (genG n p 0).length = n := genG_len
  refine W_reg (sV rfl (py_move rfl) (sV rfl (py_loadS Tryz.underlying166 rfl Tryz.sizeOf166 rfl rfl (At.whole (HB.box 0 rfl))) (sV rfl (py_move rfl) (s_call (wn rfl) rfl rfl (pc_call Tryz.func231 rfl Tryz_nm231 rfl) (Tryz_impl_rowCode_weights (by omega)) (fun v3 w9 r2 => ?_)))))
  obtain ⟨e6, r2⟩ := r2
  obtain ⟨fp4, H9⟩ := HB.res e6 r2
  obtain ⟨a2, k2, q2⟩ := own_slice (H9.mine 2 rfl)
  cases q2
  refine s_call (wn rfl) rfl rfl (pc_call Tryz.func249 rfl Tryz_nm249 rfl) (Tryz_impl_solve (H9.msees 1 rfl) (H9.msees 2 rfl) (by assumption) (by first | assumption | omega) (by omega)) (fun v4 w10 r3 => ?_)
  obtain ⟨e7, sa1, sk1, rfl, r3⟩ := r3
  obtain ⟨fp5, H10⟩ := H9.res e7 r3
  refine sV rfl (py_move rfl) (sV rfl (py_extr rfl rfl) (sV rfl (py_extr rfl rfl) (sV rfl (py_assign rfl) (sV rfl (py_assign rfl) (s_nil (W_sr (sV rfl (py_move rfl) (sV rfl (py_assign rfl) (s_nil (W_ret (hQ _ _ (fin1 Tryz.results251 rfl ?_))))))))))))
  exact ⟨H10.ext, H10.out 3 rfl⟩
theorem Tryz_spec_l2Weights {w : World} {n : Nat} {p : Int} {hs : List Int} {hsA : Option Addr} {hsC : Nat} (hsS : Sees w [.slice hsA hs.length hsC] hs) (hn : 1 ≤ n ∧ n ≤ 100) (hl : hs.length = n) (hr : ∀ i, i < n → 0 ≤ hs.getD i 0 ∧ hs.getD i 0 ≤ 500) (hp : 0 ≤ p ∧ p ≤ 500) : Ret Tryz.prog 247 #[.int .i64 n, .slice hsA hs.length hsC, .int .i64 p, .int .i64 0] w fun v w' => Ext No w w' ∧ (Res w w' [v] (betw n hs p 0)) := by
 obtain ⟨hsF, hsO⟩ := hsS
 refine ret_Q (vs := [.int .i64 n, .slice hsA hs.length hsC, .int .i64 p, .int .i64 0]) Tryz.func247 rfl Tryz.ntmps247 rfl (fun Q hQ hN => ?_)
 have H0 := Sep.start (w := w) (F := [seen false [.slice hsA hs.length hsC] hs hsF]) (all_cons hsO (by simp))
 refine W_sr (sV rfl (py_assign rfl) (s_nil (W_sr (sV rfl (py_move rfl) (s_make (wn rfl) rfl Tryz.underlying163 Tryz_ty61 (own_zs (α := UInt8)) rfl (by omega) (by unfold maxLen; omega) H0 (fun b1 w1 e1 g1 H1 => ?_))))))
 refine sV rfl (py_assign rfl) (s_nil (W_seq (W_sr (sV rfl (py_assign rfl) (s_nil (W_block (W_loop (γ := Nat × List Nat) (fun (j, f) => [(0, .int .i64 n), (1, .slice hsA hs.length hsC), (2, .int .i64 p), (3, .int .i64 0), (9, .slice (some ⟨b1, 0, none⟩) n n), (10, .int .i64 j)]) (fun (j, f) w' => Sep No w [mine [.slice (some ⟨b1, 0, none⟩) n n] (trF (hv n hs 0) n j 0) f] [seen false [.slice hsA hs.length hsC] hs hsF] w' ∧ j ≤ n) (fun (j, f) => n - j) (0, _) ⟨rfl, rfl, rfl, rfl, rfl, rfl, trivial⟩ ⟨by rw [trF_zero]; exact H1, by omega⟩ (fun (j, f) w2 H2 => ?_))))))))
 obtain ⟨H2, hj0⟩ := H2
 refine W_seq (W_sr (sV rfl (py_move rfl) (sV rfl (py_move rfl) (sV rfl (py_lss rfl rfl) (s_nil (W_ifd rfl (fun c1 => ?_) (fun c1 => ?_)))))))
 ·refine W_skip (W_seq (W_block (W_seq ?_)))
  have hj := hr j (by omega)
  have gl : (genG n (hs.getD j 0) 0).length = n := genG_len
  obtain ⟨eb1, eo1, ee1, ec1⟩ := elem_int (H2.seen 0 rfl) j (by omega)
  have eI1 := elem_i64 (H2.seen 0 rfl) j (by omega)
  refine W_reg (sV rfl (py_move rfl) (sV rfl (py_move rfl) (sV rfl (py_move rfl) (sV rfl (py_elz Tryz.underlying25 Tryz.sizeOf2 rfl rfl ee1 j (by omega) (by omega)) (sV rfl (py_load Tryz.underlying2 rfl rfl ec1) (sV rfl (py_move rfl) (s_call (wn rfl) rfl rfl (pc_call Tryz.func226 rfl Tryz_nm226 rfl) (Tryz_spec_l2Gen (by omega)) (fun v1 w3 r1 => ?_))))))))
  obtain ⟨e2, r1⟩ := r1
  obtain ⟨fp1, H3⟩ := H2.res e2 r1
  obtain ⟨a1, k1, q1⟩ := own_slice (H3.mine 1 rfl)
  cases q1
  refine sV rfl (py_assign rfl) (s_nil (W_seq ?_))
  have HS := H3.share 1 rfl
  try dsimp only [List.nil_append, List.cons_append, List.set_cons_zero, List.set_cons_succ] at HS
  refine W_reg (sV rfl (py_assign rfl) (s_nil (W_block (W_loop (γ := Nat × List Nat) (fun (i, f2) => [(0, .int .i64 n), (1, .slice hsA hs.length hsC), (2, .int .i64 p), (3, .int .i64 0), (9, .slice (some ⟨b1, 0, none⟩) n n), (10, .int .i64 j), (11, .slice a1 (genG n (hs.getD j 0) 0).length k1), (12, .int .i64 i)]) (fun (i, f2) w' => Sep No w [mine [.slice (some ⟨b1, 0, none⟩) n n] (trF (hv n hs 0) n j i) f2] _ w' ∧ i ≤ n) (fun (i, f2) => n - i) (0, _) ⟨rfl, rfl, rfl, rfl, rfl, rfl, rfl, rfl, trivial⟩ ⟨(HS.dtake 1), by omega⟩ (fun (i, f2) w4 H4 => ?_)))))
  obtain ⟨H4, hi⟩ := H4
  refine W_seq (W_sr (sV rfl (py_move rfl) (sV rfl (py_move rfl) (sV rfl (py_lss rfl rfl) (s_nil (W_ifd rfl (fun c2 => ?_) (fun c2 => ?_)))))))
  ·refine W_skip (W_seq (W_block ?_))
   have e6 : ((trF (hv n hs 0) n j i).getD i []).length = j := by rw [trF_get (by omega)]; simp
   obtain ⟨eb2, eo2, eB1, eS1, eF1, eG1, ef1, ea1, ek1, ee2, eN1, ec2, nbef1, eH1⟩ := H4.unhook 0 rfl i (by rw [trF_len]; omega)
   try dsimp only [List.nil_append, List.cons_append, List.set_cons_zero, List.set_cons_succ] at eH1
   obtain ⟨eb3, eo3, ee3, ec3, em1⟩ := elem_u8m (eH1.seen 1 rfl) i (by omega)
   refine W_drw (S := Ext (· ∈ ef1) _) [(0, true), (1, true), (2, true), (3, true), (4, true), (5, true), (6, true), (7, true), (8, true), (9, true), (10, false), (11, false), (12, true), (13, false)] (by kernel_rfl) (by kernel_rfl) (by kernel_rfl) rfl (fun _ => Ext.refl.drawn _) (fun q2 => ?_)
   have H5 := eH1.drawn q2
   refine dV rfl rfl (fun zw hx => py_move rfl) (dV rfl rfl (fun zw hx => py_move rfl) (dV rfl rfl (fun zw hx => py_move rfl) (dV rfl rfl (fun zw hx => py_move rfl) (dV rfl rfl (fun zw hx => py_elz Tryz.underlying163 Tryz.sizeOf61 rfl rfl ee2 i (by omega) (by omega)) (dV rfl rfl (fun zw hx => py_load Tryz.underlying61 rfl rfl (hx.cellM nbef1 ec2)) (dV rfl rfl (fun zw hx => py_move rfl) (dV rfl rfl (fun zw hx => py_move rfl) (dV rfl rfl (fun zw hx => py_elz Tryz.underlying61 Tryz.sizeOf5 rfl rfl ee3 i (by omega) (by omega)) (dV rfl rfl (fun zw hx => py_load Tryz.underlying5 rfl rfl (hx.cellM (H5.off 1 rfl 1 rfl em1) ec3)) (d_lit1 rfl (wn rfl) rfl Tryz.underlying61 Tryz_ty5 rfl rfl rfl rfl H5 (fun _ h e => h.trans e.no) (fun b2 w5 e3 g2 H6 => ?_)))))))))))
   refine d_app1 rfl (wn rfl) rfl Tryz.underlying61 Tryz_ty5 rfl rfl rfl H6 1 2 rfl rfl own_b8 (by unfold maxLen; omega) (by omega) (fun _ h e => h.trans e) (fun v2 w6 fp2 H7 => ?_)
   refine dV rfl rfl (fun zw hx => py_elz Tryz.underlying163 Tryz.sizeOf61 rfl rfl ee2 i (by omega) (by omega)) (d_hook rfl (wn rfl) Tryz.sizeOf61 H7 0 1 rfl rfl rfl eN1 rfl rfl (fun w7 fp3 H8 => ?_))
   try dsimp only [List.nil_append, List.cons_append, List.set_cons_zero, List.set_cons_succ] at H8
   refine d_nil (W_reg (sV rfl (py_move rfl) (sV rfl (py_add rfl rfl (in64 ⟨by omega, by omega⟩)) (sV rfl (py_assign rfl) (s_nil ?_)))))
   have hz := (H8.dtake 1)
   rw [show (genG n (hs.getD j 0) 0).getD i 0 = (hv n hs 0 j).getD i 0 from rfl, trF_step (by omega)] at hz
   refine ⟨(i + 1, _), ⟨rfl, rfl, rfl, rfl, rfl, rfl, rfl, rfl, trivial⟩, ⟨hz, by omega⟩, by dsimp only; omega⟩
  ·refine W_exit (W_reg (sV rfl (py_move rfl) (sV rfl (py_add rfl rfl (in64 ⟨by omega, by omega⟩)) (sV rfl (py_assign rfl) (s_nil ?_)))))
   have ei : i = n := by omega
   have hz := (H4.ftake 1)
   rw [ei, trF_next] at hz
   refine ⟨(j + 1, _), ⟨rfl, rfl, rfl, rfl, rfl, rfl, trivial⟩, ⟨hz, by omega⟩, by dsimp only; omega⟩
 ·refine W_exit (W_seq ?_)
  have ej : j = n := by omega
  have HB := H2
  rw [ej, show trF (hv n hs 0) n n 0 = betwM n hs 0 from rfl] at HB
  have hRm := betwM_rect (n := n) (h := hs) (b := 0)
  have bl := betwM_len (n := n) (h := hs) (b := 0)
  have gl2 : (genG n p 0).length = n := genG_len
  refine W_reg (sV rfl (py_move rfl) (sV rfl (py_move rfl) (sV rfl (py_move rfl) (sV rfl (py_move rfl) (s_call (wn rfl) rfl rfl (pc_call Tryz.func226 rfl Tryz_nm226 rfl) (Tryz_spec_l2Gen (by omega)) (fun v3 w8 r2 => ?_))))))
  obtain ⟨e5, r2⟩ := r2
  obtain ⟨fp4, H9⟩ := HB.res e5 r2
  obtain ⟨a2, k2, q3⟩ := own_slice (H9.mine 1 rfl)
  cases q3
  refine s_call (wn rfl) rfl rfl (pc_call Tryz.func282 rfl Tryz_nm282 rfl) (Tryz_spec_l1Solve (H9.msees 0 rfl) (H9.msees 1 rfl) (by assumption) (by first | assumption | omega) (by omega)) (fun v4 w9 r3 => ?_)
  obtain ⟨e6, sa1, sk1, rfl, r3⟩ := r3
  obtain ⟨fp5, H10⟩ := H9.res e6 r3
  refine sV rfl (py_move rfl) (sV rfl (py_extr rfl rfl) (sV rfl (py_extr rfl rfl) (sV rfl (py_assign rfl) (sV rfl (py_assign rfl) (s_nil (W_sr (sV rfl (py_move rfl) (sV rfl (py_assign rfl) (s_nil (W_ret (hQ _ _ (fin1 Tryz.results247 rfl ?_))))))))))))
  exact ⟨H10.ext, H10.out 2 rfl⟩
end Go.Wk
namespace Go.Wk
open Go.Proofs Rp
set_option maxRecDepth 10000
theorem Tryz_impl_size_int64 {w : World} {xs : List Int} {xsA : Option Addr} {xsC : Nat} (xsS : Sees w [.slice xsA xs.length xsC] xs) : Ret Tryz.prog 155 #[.slice xsA xs.length xsC] w fun v w' => Ext No w w' ∧ (v = .int .i64 xs.length) := by
 have xsL := sees_len xsS
 unfold maxLen at xsL
 obtain ⟨xsF, xsO⟩ := xsS
 refine ret_Q (vs := [.slice xsA xs.length xsC]) Tryz.func155 rfl Tryz.ntmps155 rfl (fun Q hQ hN => ?_)
 have H0 := Sep.start (w := w) (F := [seen false [.slice xsA xs.length xsC] xs xsF]) (all_cons xsO (by simp))
 refine W_sr (sV rfl (py_assign rfl) (s_nil (W_sr (sV rfl (py_move rfl) (sV rfl (py_len Tryz.underlying25 rfl) (sV rfl (py_assign rfl) (s_nil (W_ret (hQ _ _ (fin1 Tryz.results155 rfl ?_))))))))))
 exact ⟨H0.ext, rfl⟩
end Go.Wk
namespace Go.Wk
def ivT : List (UInt8 × UInt8) := [(1, 1), (23, 102), (27, 128), (29, 131), (84, 129), (128, 27), (129, 84), (130, 161), (131, 29), (143, 245), (161, 130), (225, 63), (239, 106)]
set_option maxRecDepth 100000 in
theorem ivT_ok : (ivT.all fun e => decide (invG e.1 = e.2)) = true := by decide +kernel
def ivL (p : UInt8) : UInt8 := match ivT.find? (fun e => decide (e.1 = p)) with
  | some e => e.2
  | none => invG p
theorem ivL_eq : ivL = invG := by
  funext p
  unfold ivL
  split
  · rename_i e he
    have h1 := List.find?_some he
    have h2 := List.mem_of_find?_eq_some he
    have h3 := List.all_eq_true.1 ivT_ok e h2
    simp only [decide_eq_true_eq] at h1 h3
    rw [← h1, h3]
  · rfl
def normW (iv : UInt8 → UInt8) (m : Mat) (c r a : Nat) : Mat := (m.set a (m.getD r [])).set r (scaleG (m.getD a []) (iv (entry m a c)))
def stepW (iv : UInt8 → UInt8) (m : Mat) (c r : Nat) : Mat × Nat := if m.length ≤ pivAt m c r then (m, r) else (elimTo (normW iv m c r (pivAt m c r)) c r m.length, r + 1)
def redW (iv : UInt8 → UInt8) (m : Mat) : Nat → Mat × Nat
  | 0 => (m, 0)
  | c + 1 => stepW iv (redW iv m c).1 c (redW iv m c).2
theorem redW_eq (m : Mat) : ∀ n, redW invG m n = redM m n
  | 0 => rfl
  | n + 1 => by rw [redW, redM, redW_eq m n]; rfl
def chainW (iv : UInt8 → UInt8) : Nat → Mat × Nat → List (Mat × Nat) → Bool
  | _, _, [] => true
  | c, m, x :: t => decide (stepW iv m.1 c m.2 = x) && chainW iv (c + 1) x t
theorem chain_ok {iv : UInt8 → UInt8} {A : Mat} : ∀ {l : List (Mat × Nat)} {c : Nat} {m : Mat × Nat}, redW iv A c = m → chainW iv c m l = true → redW iv A (c + l.length) = l.getLastD m
  | [], _, _, h, _ => h
  | x :: t, c, m, h, hc => by
    unfold chainW at hc
    simp only [Bool.and_eq_true, decide_eq_true_eq] at hc
    have h2 : redW iv A (c + 1) = x := by rw [redW, h]; exact hc.1
    have := chain_ok (l := t) (c := c + 1) h2 hc.2
    rw [show c + (x :: t).length = c + 1 + t.length by simp; omega, this]
    cases t <;> rfl
def genAtW (iv : UInt8 → UInt8) (n : Nat) (p : Int) (i : Nat) : UInt8 := if (n : Int) ≤ p then iv (u8Of (128 + (0 + p - n)) ^^^ u8Of i) else if (i : Int) = p then 1 else 0
def genW (iv : UInt8 → UInt8) (n : Nat) (p : Int) : List UInt8 := (List.range n).map (genAtW iv n p)
structure Way where
  n : Nat
  hs : List Int
  x : Int
  g : List UInt8
  m : Mat
  steps : List (Mat × Nat)
  w : List UInt8
def Way.ok (iv : UInt8 → UInt8) (e : Way) : Bool :=
  decide (genW iv e.n e.x = e.g) && decide (trF (fun t => genW iv e.n (e.hs.getD t 0)) e.n e.n 0 = e.m) && chainW iv 0 (aug e.m e.g, 0) e.steps && decide (e.steps.length = e.n) && decide (e.m.length = e.n) &&
    decide (e.n ≤ (e.steps.getLastD (aug e.m e.g, 0)).2) && decide (colTo (e.steps.getLastD (aug e.m e.g, 0)).1 e.n e.n = e.w)
theorem Way.fact {e : Way} (h : e.ok ivL = true) : betw e.n e.hs e.x 0 = e.w := by
  rw [ivL_eq] at h
  unfold Way.ok at h
  simp only [Bool.and_eq_true, decide_eq_true_eq] at h
  obtain ⟨⟨⟨⟨⟨⟨h1, h2⟩, h3⟩, h4⟩, h5⟩, h6⟩, h7⟩ := h
  have hc := chain_ok (A := aug e.m e.g) (c := 0) rfl h3
  rw [Nat.zero_add, h4, redW_eq] at hc
  have e1 : betwM e.n e.hs 0 = e.m := h2
  have e2 : genG e.n e.x 0 = e.g := h1
  rw [betw, e1, e2]
  have h8 : ¬ (redM (aug e.m e.g) e.m.length).2 < e.m.length := by
    rw [h5, hc]; exact Nat.not_lt.2 h6
  rw [(sol_yes h8).2, h5, hc]
  exact h7
def ways : List Way := [
  ⟨1, [0], 0, [1], [[1]], [([[1, 1]], 1)], [1]⟩,
  ⟨1, [0], 1, [27], [[1]], [([[1, 27]], 1)], [27]⟩,
  ⟨1, [0], 2, [84], [[1]], [([[1, 84]], 1)], [84]⟩,
  ⟨1, [1], 0, [1], [[27]], [([[1, 128]], 1)], [128]⟩,
  ⟨1, [1], 1, [27], [[27]], [([[1, 1]], 1)], [1]⟩,
  ⟨1, [1], 2, [84], [[27]], [([[1, 85]], 1)], [85]⟩,
  ⟨1, [2], 0, [1], [[84]], [([[1, 129]], 1)], [129]⟩,
  ⟨1, [2], 1, [27], [[84]], [([[1, 26]], 1)], [26]⟩,
  ⟨1, [2], 2, [84], [[84]], [([[1, 1]], 1)], [1]⟩,
  ⟨2, [0, 1], 0, [1, 0], [[1, 0], [0, 1]], [([[1, 0, 1], [0, 1, 0]], 1), ([[1, 0, 1], [0, 1, 0]], 2)], [1, 0]⟩,
  ⟨2, [0, 1], 1, [0, 1], [[1, 0], [0, 1]], [([[1, 0, 0], [0, 1, 1]], 1), ([[1, 0, 0], [0, 1, 1]], 2)], [0, 1]⟩,
  ⟨2, [0, 1], 2, [27, 84], [[1, 0], [0, 1]], [([[1, 0, 27], [0, 1, 84]], 1), ([[1, 0, 27], [0, 1, 84]], 2)], [27, 84]⟩,
  ⟨2, [0, 1], 3, [84, 27], [[1, 0], [0, 1]], [([[1, 0, 84], [0, 1, 27]], 1), ([[1, 0, 84], [0, 1, 27]], 2)], [84, 27]⟩,
  ⟨2, [0, 2], 0, [1, 0], [[1, 27], [0, 84]], [([[1, 27, 1], [0, 84, 0]], 1), ([[1, 0, 1], [0, 1, 0]], 2)], [1, 0]⟩,
  ⟨2, [0, 2], 1, [0, 1], [[1, 27], [0, 84]], [([[1, 27, 0], [0, 84, 1]], 1), ([[1, 0, 26], [0, 1, 129]], 2)], [26, 129]⟩,
  ⟨2, [0, 2], 2, [27, 84], [[1, 27], [0, 84]], [([[1, 27, 27], [0, 84, 84]], 1), ([[1, 0, 0], [0, 1, 1]], 2)], [0, 1]⟩,
  ⟨2, [0, 2], 3, [84, 27], [[1, 27], [0, 84]], [([[1, 27, 84], [0, 84, 27]], 1), ([[1, 0, 23], [0, 1, 26]], 2)], [23, 26]⟩,
  ⟨2, [0, 3], 0, [1, 0], [[1, 84], [0, 27]], [([[1, 84, 1], [0, 27, 0]], 1), ([[1, 0, 1], [0, 1, 0]], 2)], [1, 0]⟩,
  ⟨2, [0, 3], 1, [0, 1], [[1, 84], [0, 27]], [([[1, 84, 0], [0, 27, 1]], 1), ([[1, 0, 85], [0, 1, 128]], 2)], [85, 128]⟩,
  ⟨2, [0, 3], 2, [27, 84], [[1, 84], [0, 27]], [([[1, 84, 27], [0, 27, 84]], 1), ([[1, 0, 143], [0, 1, 85]], 2)], [143, 85]⟩,
  ⟨2, [0, 3], 3, [84, 27], [[1, 84], [0, 27]], [([[1, 84, 84], [0, 27, 27]], 1), ([[1, 0, 0], [0, 1, 1]], 2)], [0, 1]⟩,
  ⟨2, [1, 2], 0, [1, 0], [[0, 27], [1, 84]], [([[1, 84, 0], [0, 27, 1]], 1), ([[1, 0, 85], [0, 1, 128]], 2)], [85, 128]⟩,
  ⟨2, [1, 2], 1, [0, 1], [[0, 27], [1, 84]], [([[1, 84, 1], [0, 27, 0]], 1), ([[1, 0, 1], [0, 1, 0]], 2)], [1, 0]⟩,
  ⟨2, [1, 2], 2, [27, 84], [[0, 27], [1, 84]], [([[1, 84, 84], [0, 27, 27]], 1), ([[1, 0, 0], [0, 1, 1]], 2)], [0, 1]⟩,
  ⟨2, [1, 2], 3, [84, 27], [[0, 27], [1, 84]], [([[1, 84, 27], [0, 27, 84]], 1), ([[1, 0, 143], [0, 1, 85]], 2)], [143, 85]⟩,
  ⟨2, [1, 3], 0, [1, 0], [[0, 84], [1, 27]], [([[1, 27, 0], [0, 84, 1]], 1), ([[1, 0, 26], [0, 1, 129]], 2)], [26, 129]⟩,
  ⟨2, [1, 3], 1, [0, 1], [[0, 84], [1, 27]], [([[1, 27, 1], [0, 84, 0]], 1), ([[1, 0, 1], [0, 1, 0]], 2)], [1, 0]⟩,
  ⟨2, [1, 3], 2, [27, 84], [[0, 84], [1, 27]], [([[1, 27, 84], [0, 84, 27]], 1), ([[1, 0, 23], [0, 1, 26]], 2)], [23, 26]⟩,
  ⟨2, [1, 3], 3, [84, 27], [[0, 84], [1, 27]], [([[1, 27, 27], [0, 84, 84]], 1), ([[1, 0, 0], [0, 1, 1]], 2)], [0, 1]⟩,
  ⟨2, [2, 3], 0, [1, 0], [[27, 84], [84, 27]], [([[1, 85, 128], [0, 143, 85]], 1), ([[1, 0, 245], [0, 1, 102]], 2)], [245, 102]⟩,
  ⟨2, [2, 3], 1, [0, 1], [[27, 84], [84, 27]], [([[1, 85, 0], [0, 143, 1]], 1), ([[1, 0, 102], [0, 1, 245]], 2)], [102, 245]⟩,
  ⟨2, [2, 3], 2, [27, 84], [[27, 84], [84, 27]], [([[1, 85, 1], [0, 143, 0]], 1), ([[1, 0, 1], [0, 1, 0]], 2)], [1, 0]⟩,
  ⟨2, [2, 3], 3, [84, 27], [[27, 84], [84, 27]], [([[1, 85, 85], [0, 143, 143]], 1), ([[1, 0, 0], [0, 1, 1]], 2)], [0, 1]⟩,
  ⟨3, [0, 1, 2], 0, [1, 0, 0], [[1, 0, 0], [0, 1, 0], [0, 0, 1]], [([[1, 0, 0, 1], [0, 1, 0, 0], [0, 0, 1, 0]], 1), ([[1, 0, 0, 1], [0, 1, 0, 0], [0, 0, 1, 0]], 2), ([[1, 0, 0, 1], [0, 1, 0, 0], [0, 0, 1, 0]], 3)], [1, 0, 0]⟩,
  ⟨3, [0, 1, 2], 1, [0, 1, 0], [[1, 0, 0], [0, 1, 0], [0, 0, 1]], [([[1, 0, 0, 0], [0, 1, 0, 1], [0, 0, 1, 0]], 1), ([[1, 0, 0, 0], [0, 1, 0, 1], [0, 0, 1, 0]], 2), ([[1, 0, 0, 0], [0, 1, 0, 1], [0, 0, 1, 0]], 3)], [0, 1, 0]⟩,
  ⟨3, [0, 1, 2], 2, [0, 0, 1], [[1, 0, 0], [0, 1, 0], [0, 0, 1]], [([[1, 0, 0, 0], [0, 1, 0, 0], [0, 0, 1, 1]], 1), ([[1, 0, 0, 0], [0, 1, 0, 0], [0, 0, 1, 1]], 2), ([[1, 0, 0, 0], [0, 1, 0, 0], [0, 0, 1, 1]], 3)], [0, 0, 1]⟩,
  ⟨3, [0, 1, 2], 3, [27, 84, 161], [[1, 0, 0], [0, 1, 0], [0, 0, 1]], [([[1, 0, 0, 27], [0, 1, 0, 84], [0, 0, 1, 161]], 1), ([[1, 0, 0, 27], [0, 1, 0, 84], [0, 0, 1, 161]], 2), ([[1, 0, 0, 27], [0, 1, 0, 84], [0, 0, 1, 161]], 3)], [27, 84, 161]⟩,
  ⟨3, [0, 1, 2], 4, [84, 27, 29], [[1, 0, 0], [0, 1, 0], [0, 0, 1]], [([[1, 0, 0, 84], [0, 1, 0, 27], [0, 0, 1, 29]], 1), ([[1, 0, 0, 84], [0, 1, 0, 27], [0, 0, 1, 29]], 2), ([[1, 0, 0, 84], [0, 1, 0, 27], [0, 0, 1, 29]], 3)], [84, 27, 29]⟩,
  ⟨3, [0, 1, 3], 0, [1, 0, 0], [[1, 0, 27], [0, 1, 84], [0, 0, 161]], [([[1, 0, 27, 1], [0, 1, 84, 0], [0, 0, 161, 0]], 1), ([[1, 0, 27, 1], [0, 1, 84, 0], [0, 0, 161, 0]], 2), ([[1, 0, 0, 1], [0, 1, 0, 0], [0, 0, 1, 0]], 3)], [1, 0, 0]⟩,
  ⟨3, [0, 1, 3], 1, [0, 1, 0], [[1, 0, 27], [0, 1, 84], [0, 0, 161]], [([[1, 0, 27, 0], [0, 1, 84, 1], [0, 0, 161, 0]], 1), ([[1, 0, 27, 0], [0, 1, 84, 1], [0, 0, 161, 0]], 2), ([[1, 0, 0, 0], [0, 1, 0, 1], [0, 0, 1, 0]], 3)], [0, 1, 0]⟩,
  ⟨3, [0, 1, 3], 2, [0, 0, 1], [[1, 0, 27], [0, 1, 84], [0, 0, 161]], [([[1, 0, 27, 0], [0, 1, 84, 0], [0, 0, 161, 1]], 1), ([[1, 0, 27, 0], [0, 1, 84, 0], [0, 0, 161, 1]], 2), ([[1, 0, 0, 55], [0, 1, 0, 253], [0, 0, 1, 130]], 3)], [55, 253, 130]⟩,
  ⟨3, [0, 1, 3], 3, [27, 84, 161], [[1, 0, 27], [0, 1, 84], [0, 0, 161]], [([[1, 0, 27, 27], [0, 1, 84, 84], [0, 0, 161, 161]], 1), ([[1, 0, 27, 27], [0, 1, 84, 84], [0, 0, 161, 161]], 2), ([[1, 0, 0, 0], [0, 1, 0, 0], [0, 0, 1, 1]], 3)], [0, 0, 1]⟩,
  ⟨3, [0, 1, 3], 4, [84, 27, 29], [[1, 0, 27], [0, 1, 84], [0, 0, 161]], [([[1, 0, 27, 84], [0, 1, 84, 27], [0, 0, 161, 29]], 1), ([[1, 0, 27, 84], [0, 1, 84, 27], [0, 0, 161, 29]], 2), ([[1, 0, 0, 77], [0, 1, 0, 229], [0, 0, 1, 28]], 3)], [77, 229, 28]⟩,
  ⟨3, [0, 1, 4], 0, [1, 0, 0], [[1, 0, 84], [0, 1, 27], [0, 0, 29]], [([[1, 0, 84, 1], [0, 1, 27, 0], [0, 0, 29, 0]], 1), ([[1, 0, 84, 1], [0, 1, 27, 0], [0, 0, 29, 0]], 2), ([[1, 0, 0, 1], [0, 1, 0, 0], [0, 0, 1, 0]], 3)], [1, 0, 0]⟩,
  ⟨3, [0, 1, 4], 1, [0, 1, 0], [[1, 0, 84], [0, 1, 27], [0, 0, 29]], [([[1, 0, 84, 0], [0, 1, 27, 1], [0, 0, 29, 0]], 1), ([[1, 0, 84, 0], [0, 1, 27, 1], [0, 0, 29, 0]], 2), ([[1, 0, 0, 0], [0, 1, 0, 1], [0, 0, 1, 0]], 3)], [0, 1, 0]⟩,
  ⟨3, [0, 1, 4], 2, [0, 0, 1], [[1, 0, 84], [0, 1, 27], [0, 0, 29]], [([[1, 0, 84, 0], [0, 1, 27, 0], [0, 0, 29, 1]], 1), ([[1, 0, 84, 0], [0, 1, 27, 0], [0, 0, 29, 1]], 2), ([[1, 0, 0, 169], [0, 1, 0, 44], [0, 0, 1, 131]], 3)], [169, 44, 131]⟩,
  ⟨3, [0, 1, 4], 3, [27, 84, 161], [[1, 0, 84], [0, 1, 27], [0, 0, 29]], [([[1, 0, 84, 27], [0, 1, 27, 84], [0, 0, 29, 161]], 1), ([[1, 0, 84, 27], [0, 1, 27, 84], [0, 0, 29, 161]], 2), ([[1, 0, 0, 28], [0, 1, 0, 18], [0, 0, 1, 160]], 3)], [28, 18, 160]⟩,
  ⟨3, [0, 1, 4], 4, [84, 27, 29], [[1, 0, 84], [0, 1, 27], [0, 0, 29]], [([[1, 0, 84, 84], [0, 1, 27, 27], [0, 0, 29, 29]], 1), ([[1, 0, 84, 84], [0, 1, 27, 27], [0, 0, 29, 29]], 2), ([[1, 0, 0, 0], [0, 1, 0, 0], [0, 0, 1, 1]], 3)], [0, 0, 1]⟩,
  ⟨3, [0, 2, 3], 0, [1, 0, 0], [[1, 0, 27], [0, 0, 84], [0, 1, 161]], [([[1, 0, 27, 1], [0, 0, 84, 0], [0, 1, 161, 0]], 1), ([[1, 0, 27, 1], [0, 1, 161, 0], [0, 0, 84, 0]], 2), ([[1, 0, 0, 1], [0, 1, 0, 0], [0, 0, 1, 0]], 3)], [1, 0, 0]⟩,
  ⟨3, [0, 2, 3], 1, [0, 1, 0], [[1, 0, 27], [0, 0, 84], [0, 1, 161]], [([[1, 0, 27, 0], [0, 0, 84, 1], [0, 1, 161, 0]], 1), ([[1, 0, 27, 0], [0, 1, 161, 0], [0, 0, 84, 1]], 2), ([[1, 0, 0, 26], [0, 1, 0, 255], [0, 0, 1, 129]], 3)], [26, 255, 129]⟩,
  ⟨3, [0, 2, 3], 2, [0, 0, 1], [[1, 0, 27], [0, 0, 84], [0, 1, 161]], [([[1, 0, 27, 0], [0, 0, 84, 0], [0, 1, 161, 1]], 1), ([[1, 0, 27, 0], [0, 1, 161, 1], [0, 0, 84, 0]], 2), ([[1, 0, 0, 0], [0, 1, 0, 1], [0, 0, 1, 0]], 3)], [0, 1, 0]⟩,
  ⟨3, [0, 2, 3], 3, [27, 84, 161], [[1, 0, 27], [0, 0, 84], [0, 1, 161]], [([[1, 0, 27, 27], [0, 0, 84, 84], [0, 1, 161, 161]], 1), ([[1, 0, 27, 27], [0, 1, 161, 161], [0, 0, 84, 84]], 2), ([[1, 0, 0, 0], [0, 1, 0, 0], [0, 0, 1, 1]], 3)], [0, 0, 1]⟩,
  ⟨3, [0, 2, 3], 4, [84, 27, 29], [[1, 0, 27], [0, 0, 84], [0, 1, 161]], [([[1, 0, 27, 84], [0, 0, 84, 27], [0, 1, 161, 29]], 1), ([[1, 0, 27, 84], [0, 1, 161, 29], [0, 0, 84, 27]], 2), ([[1, 0, 0, 23], [0, 1, 0, 225], [0, 0, 1, 26]], 3)], [23, 225, 26]⟩,
  ⟨3, [0, 2, 4], 0, [1, 0, 0], [[1, 0, 84], [0, 0, 27], [0, 1, 29]], [([[1, 0, 84, 1], [0, 0, 27, 0], [0, 1, 29, 0]], 1), ([[1, 0, 84, 1], [0, 1, 29, 0], [0, 0, 27, 0]], 2), ([[1, 0, 0, 1], [0, 1, 0, 0], [0, 0, 1, 0]], 3)], [1, 0, 0]⟩,
  ⟨3, [0, 2, 4], 1, [0, 1, 0], [[1, 0, 84], [0, 0, 27], [0, 1, 29]], [([[1, 0, 84, 0], [0, 0, 27, 1], [0, 1, 29, 0]], 1), ([[1, 0, 84, 0], [0, 1, 29, 0], [0, 0, 27, 1]], 2), ([[1, 0, 0, 85], [0, 1, 0, 38], [0, 0, 1, 128]], 3)], [85, 38, 128]⟩,
  ⟨3, [0, 2, 4], 2, [0, 0, 1], [[1, 0, 84], [0, 0, 27], [0, 1, 29]], [([[1, 0, 84, 0], [0, 0, 27, 0], [0, 1, 29, 1]], 1), ([[1, 0, 84, 0], [0, 1, 29, 1], [0, 0, 27, 0]], 2), ([[1, 0, 0, 0], [0, 1, 0, 1], [0, 0, 1, 0]], 3)], [0, 1, 0]⟩,
  ⟨3, [0, 2, 4], 3, [27, 84, 161], [[1, 0, 84], [0, 0, 27], [0, 1, 29]], [([[1, 0, 84, 27], [0, 0, 27, 84], [0, 1, 29, 161]], 1), ([[1, 0, 84, 27], [0, 1, 29, 161], [0, 0, 27, 84]], 2), ([[1, 0, 0, 143], [0, 1, 0, 22], [0, 0, 1, 85]], 3)], [143, 22, 85]⟩,
  ⟨3, [0, 2, 4], 4, [84, 27, 29], [[1, 0, 84], [0, 0, 27], [0, 1, 29]], [([[1, 0, 84, 84], [0, 0, 27, 27], [0, 1, 29, 29]], 1), ([[1, 0, 84, 84], [0, 1, 29, 29], [0, 0, 27, 27]], 2), ([[1, 0, 0, 0], [0, 1, 0, 0], [0, 0, 1, 1]], 3)], [0, 0, 1]⟩,
  ⟨3, [0, 3, 4], 0, [1, 0, 0], [[1, 27, 84], [0, 84, 27], [0, 161, 29]], [([[1, 27, 84, 1], [0, 84, 27, 0], [0, 161, 29, 0]], 1), ([[1, 0, 23, 1], [0, 1, 26, 0], [0, 0, 225, 0]], 2), ([[1, 0, 0, 1], [0, 1, 0, 0], [0, 0, 1, 0]], 3)], [1, 0, 0]⟩,
  ⟨3, [0, 3, 4], 1, [0, 1, 0], [[1, 27, 84], [0, 84, 27], [0, 161, 29]], [([[1, 27, 84, 0], [0, 84, 27, 1], [0, 161, 29, 0]], 1), ([[1, 0, 23, 26], [0, 1, 26, 129], [0, 0, 225, 255]], 2), ([[1, 0, 0, 245], [0, 1, 0, 192], [0, 0, 1, 177]], 3)], [245, 192, 177]⟩,
  ⟨3, [0, 3, 4], 2, [0, 0, 1], [[1, 27, 84], [0, 84, 27], [0, 161, 29]], [([[1, 27, 84, 0], [0, 84, 27, 0], [0, 161, 29, 1]], 1), ([[1, 0, 23, 0], [0, 1, 26, 0], [0, 0, 225, 1]], 2), ([[1, 0, 0, 106], [0, 1, 0, 76], [0, 0, 1, 63]], 3)], [106, 76, 63]⟩,
  ⟨3, [0, 3, 4], 3, [27, 84, 161], [[1, 27, 84], [0, 84, 27], [0, 161, 29]], [([[1, 27, 84, 27], [0, 84, 27, 84], [0, 161, 29, 161]], 1), ([[1, 0, 23, 0], [0, 1, 26, 1], [0, 0, 225, 0]], 2), ([[1, 0, 0, 0], [0, 1, 0, 1], [0, 0, 1, 0]], 3)], [0, 1, 0]⟩,
  ⟨3, [0, 3, 4], 4, [84, 27, 29], [[1, 27, 84], [0, 84, 27], [0, 161, 29]], [([[1, 27, 84, 84], [0, 84, 27, 27], [0, 161, 29, 29]], 1), ([[1, 0, 23, 23], [0, 1, 26, 26], [0, 0, 225, 225]], 2), ([[1, 0, 0, 0], [0, 1, 0, 0], [0, 0, 1, 1]], 3)], [0, 0, 1]⟩,
  ⟨3, [1, 2, 3], 0, [1, 0, 0], [[0, 0, 27], [1, 0, 84], [0, 1, 161]], [([[1, 0, 84, 0], [0, 0, 27, 1], [0, 1, 161, 0]], 1), ([[1, 0, 84, 0], [0, 1, 161, 0], [0, 0, 27, 1]], 2), ([[1, 0, 0, 85], [0, 1, 0, 94], [0, 0, 1, 128]], 3)], [85, 94, 128]⟩,
  ⟨3, [1, 2, 3], 1, [0, 1, 0], [[0, 0, 27], [1, 0, 84], [0, 1, 161]], [([[1, 0, 84, 1], [0, 0, 27, 0], [0, 1, 161, 0]], 1), ([[1, 0, 84, 1], [0, 1, 161, 0], [0, 0, 27, 0]], 2), ([[1, 0, 0, 1], [0, 1, 0, 0], [0, 0, 1, 0]], 3)], [1, 0, 0]⟩,
  ⟨3, [1, 2, 3], 2, [0, 0, 1], [[0, 0, 27], [1, 0, 84], [0, 1, 161]], [([[1, 0, 84, 0], [0, 0, 27, 0], [0, 1, 161, 1]], 1), ([[1, 0, 84, 0], [0, 1, 161, 1], [0, 0, 27, 0]], 2), ([[1, 0, 0, 0], [0, 1, 0, 1], [0, 0, 1, 0]], 3)], [0, 1, 0]⟩,
  ⟨3, [1, 2, 3], 3, [27, 84, 161], [[0, 0, 27], [1, 0, 84], [0, 1, 161]], [([[1, 0, 84, 84], [0, 0, 27, 27], [0, 1, 161, 161]], 1), ([[1, 0, 84, 84], [0, 1, 161, 161], [0, 0, 27, 27]], 2), ([[1, 0, 0, 0], [0, 1, 0, 0], [0, 0, 1, 1]], 3)], [0, 0, 1]⟩,
  ⟨3, [1, 2, 3], 4, [84, 27, 29], [[0, 0, 27], [1, 0, 84], [0, 1, 161]], [([[1, 0, 84, 27], [0, 0, 27, 84], [0, 1, 161, 29]], 1), ([[1, 0, 84, 27], [0, 1, 161, 29], [0, 0, 27, 84]], 2), ([[1, 0, 0, 143], [0, 1, 0, 239], [0, 0, 1, 85]], 3)], [143, 239, 85]⟩,
  ⟨3, [1, 2, 4], 0, [1, 0, 0], [[0, 0, 84], [1, 0, 27], [0, 1, 29]], [([[1, 0, 27, 0], [0, 0, 84, 1], [0, 1, 29, 0]], 1), ([[1, 0, 27, 0], [0, 1, 29, 0], [0, 0, 84, 1]], 2), ([[1, 0, 0, 26], [0, 1, 0, 59], [0, 0, 1, 129]], 3)], [26, 59, 129]⟩,
  ⟨3, [1, 2, 4], 1, [0, 1, 0], [[0, 0, 84], [1, 0, 27], [0, 1, 29]], [([[1, 0, 27, 1], [0, 0, 84, 0], [0, 1, 29, 0]], 1), ([[1, 0, 27, 1], [0, 1, 29, 0], [0, 0, 84, 0]], 2), ([[1, 0, 0, 1], [0, 1, 0, 0], [0, 0, 1, 0]], 3)], [1, 0, 0]⟩,
  ⟨3, [1, 2, 4], 2, [0, 0, 1], [[0, 0, 84], [1, 0, 27], [0, 1, 29]], [([[1, 0, 27, 0], [0, 0, 84, 0], [0, 1, 29, 1]], 1), ([[1, 0, 27, 0], [0, 1, 29, 1], [0, 0, 84, 0]], 2), ([[1, 0, 0, 0], [0, 1, 0, 1], [0, 0, 1, 0]], 3)], [0, 1, 0]⟩,
  ⟨3, [1, 2, 4], 3, [27, 84, 161], [[0, 0, 84], [1, 0, 27], [0, 1, 29]], [([[1, 0, 27, 84], [0, 0, 84, 27], [0, 1, 29, 161]], 1), ([[1, 0, 27, 84], [0, 1, 29, 161], [0, 0, 84, 27]], 2), ([[1, 0, 0, 23], [0, 1, 0, 190], [0, 0, 1, 26]], 3)], [23, 190, 26]⟩,
  ⟨3, [1, 2, 4], 4, [84, 27, 29], [[0, 0, 84], [1, 0, 27], [0, 1, 29]], [([[1, 0, 27, 27], [0, 0, 84, 84], [0, 1, 29, 29]], 1), ([[1, 0, 27, 27], [0, 1, 29, 29], [0, 0, 84, 84]], 2), ([[1, 0, 0, 0], [0, 1, 0, 0], [0, 0, 1, 1]], 3)], [0, 0, 1]⟩,
  ⟨3, [1, 3, 4], 0, [1, 0, 0], [[0, 27, 84], [1, 84, 27], [0, 161, 29]], [([[1, 84, 27, 0], [0, 27, 84, 1], [0, 161, 29, 0]], 1), ([[1, 0, 143, 85], [0, 1, 85, 128], [0, 0, 239, 94]], 2), ([[1, 0, 0, 143], [0, 1, 0, 160], [0, 0, 1, 103]], 3)], [143, 160, 103]⟩,
  ⟨3, [1, 3, 4], 1, [0, 1, 0], [[0, 27, 84], [1, 84, 27], [0, 161, 29]], [([[1, 84, 27, 1], [0, 27, 84, 0], [0, 161, 29, 0]], 1), ([[1, 0, 143, 1], [0, 1, 85, 0], [0, 0, 239, 0]], 2), ([[1, 0, 0, 1], [0, 1, 0, 0], [0, 0, 1, 0]], 3)], [1, 0, 0]⟩,
  ⟨3, [1, 3, 4], 2, [0, 0, 1], [[0, 27, 84], [1, 84, 27], [0, 161, 29]], [([[1, 84, 27, 0], [0, 27, 84, 0], [0, 161, 29, 1]], 1), ([[1, 0, 143, 0], [0, 1, 85, 0], [0, 0, 239, 1]], 2), ([[1, 0, 0, 95], [0, 1, 0, 174], [0, 0, 1, 106]], 3)], [95, 174, 106]⟩,
  ⟨3, [1, 3, 4], 3, [27, 84, 161], [[0, 27, 84], [1, 84, 27], [0, 161, 29]], [([[1, 84, 27, 84], [0, 27, 84, 27], [0, 161, 29, 161]], 1), ([[1, 0, 143, 0], [0, 1, 85, 1], [0, 0, 239, 0]], 2), ([[1, 0, 0, 0], [0, 1, 0, 1], [0, 0, 1, 0]], 3)], [0, 1, 0]⟩,
  ⟨3, [1, 3, 4], 4, [84, 27, 29], [[0, 27, 84], [1, 84, 27], [0, 161, 29]], [([[1, 84, 27, 27], [0, 27, 84, 84], [0, 161, 29, 29]], 1), ([[1, 0, 143, 143], [0, 1, 85, 85], [0, 0, 239, 239]], 2), ([[1, 0, 0, 0], [0, 1, 0, 0], [0, 0, 1, 1]], 3)], [0, 0, 1]⟩,
  ⟨3, [2, 3, 4], 0, [1, 0, 0], [[0, 27, 84], [0, 84, 27], [1, 161, 29]], [([[1, 161, 29, 0], [0, 84, 27, 0], [0, 27, 84, 1]], 1), ([[1, 0, 225, 0], [0, 1, 26, 0], [0, 0, 23, 1]], 2), ([[1, 0, 0, 239], [0, 1, 0, 245], [0, 0, 1, 102]], 3)], [239, 245, 102]⟩,
  ⟨3, [2, 3, 4], 1, [0, 1, 0], [[0, 27, 84], [0, 84, 27], [1, 161, 29]], [([[1, 161, 29, 0], [0, 84, 27, 1], [0, 27, 84, 0]], 1), ([[1, 0, 225, 255], [0, 1, 26, 129], [0, 0, 23, 26]], 2), ([[1, 0, 0, 65], [0, 1, 0, 102], [0, 0, 1, 245]], 3)], [65, 102, 245]⟩,
  ⟨3, [2, 3, 4], 2, [0, 0, 1], [[0, 27, 84], [0, 84, 27], [1, 161, 29]], [([[1, 161, 29, 1], [0, 84, 27, 0], [0, 27, 84, 0]], 1), ([[1, 0, 225, 1], [0, 1, 26, 0], [0, 0, 23, 0]], 2), ([[1, 0, 0, 1], [0, 1, 0, 0], [0, 0, 1, 0]], 3)], [1, 0, 0]⟩,
  ⟨3, [2, 3, 4], 3, [27, 84, 161], [[0, 27, 84], [0, 84, 27], [1, 161, 29]], [([[1, 161, 29, 161], [0, 84, 27, 84], [0, 27, 84, 27]], 1), ([[1, 0, 225, 0], [0, 1, 26, 1], [0, 0, 23, 0]], 2), ([[1, 0, 0, 0], [0, 1, 0, 1], [0, 0, 1, 0]], 3)], [0, 1, 0]⟩,
  ⟨3, [2, 3, 4], 4, [84, 27, 29], [[0, 27, 84], [0, 84, 27], [1, 161, 29]], [([[1, 161, 29, 29], [0, 84, 27, 27], [0, 27, 84, 84]], 1), ([[1, 0, 225, 225], [0, 1, 26, 26], [0, 0, 23, 23]], 2), ([[1, 0, 0, 0], [0, 1, 0, 0], [0, 0, 1, 1]], 3)], [0, 0, 1]⟩]
set_option maxRecDepth 100000 in
theorem ways_ok : (ways.all fun e => e.ok ivL) = true := by decide +kernel
def wayW (n : Nat) (hs : List Int) (x : Nat) : List UInt8 := match ways.find? (fun e => decide (e.n = n) && decide (e.hs = hs) && decide (e.x = (x : Int))) with
  | some e => e.w
  | none => []
def wayG (n : Nat) (x : Nat) : List UInt8 := match ways.find? (fun e => decide (e.n = n) && decide (e.x = (x : Int))) with
  | some e => e.g
  | none => []
def tabOk (n : Nat) (hs : List Int) : Bool :=
  (List.range (n + 2)).all fun x => decide (ways.find? (fun e => decide (e.n = n) && decide (e.hs = hs) && decide (e.x = (x : Int))) ≠ none) && decide ((wayW n hs x).length = n) &&
    ((List.range n).all fun t => decide (xorN (fun j => mulG ((wayG n (hs.getD j 0).toNat).getD t 0) ((wayW n hs x).getD j 0)) n = (wayG n x).getD t 0)) &&
    ((List.range n).all fun j => decide (xorN (fun i => mulG ((wayW n hs i).getD j 0) ((wayG n x).getD i 0)) n = (wayW n hs x).getD j 0))
end Go.Wk
