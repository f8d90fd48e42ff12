/-
  The functions walked, each once. (Printed by a program of mine.)
-/
import Derived.Test.YtceeelcijjkefaaGreatWorld2
set_option linter.unusedVariables false
set_option linter.unusedSimpArgs false
namespace Go.Wk
open Go.Proofs Rp
set_option maxRecDepth 10000
set_option maxHeartbeats 1000000 in
theorem Tryz_spec_l5Built {w : World} {z : Wld} {zA9 : Option Addr} {zC9 : Nat} {zA10 : Option Addr} {zC10 : Nat} {zA11 : Option Addr} {zC11 : Nat} (zK : z.Ok) (zS9 : Sees w [.slice zA9 z.Groups.length zC9] z.Groups) (zS10 : Sees w [.slice zA10 z.On.length zC10] z.On) (zS11 : Sees w [.slice zA11 z.Tapes.length zC11] z.Tapes) (hs : z.Shape.ok = true) : Ret Tryz.prog 147 #[z.val zA9 zC9 zA10 zC10 zA11 zC11] w fun v w' => Ext No w w' ∧ (v = .bool (groupsOK z)) := by
  have zK2 := zK
  unfold Wld.Ok Shape.Ok at zK2
  try unfold I64ok at zK2
  try unfold maxLen at zK2
  have zL9 := sees_len zS9
  unfold maxLen at zL9
  obtain ⟨zF9, zO9⟩ := zS9
  have zL10 := sees_len zS10
  unfold maxLen at zL10
  obtain ⟨zF10, zO10⟩ := zS10
  have zL11 := sees_len zS11
  unfold maxLen at zL11
  obtain ⟨zF11, zO11⟩ := zS11
  have sbd := shape_bd hs
  refine ret_Q (vs := [z.val zA9 zC9 zA10 zC10 zA11 zC11]) Tryz.func147 rfl Tryz.ntmps147 rfl (fun Q hQ hN => ?_)
  have H0 := Sep.start (w := w) (F := [seen false [.slice zA9 z.Groups.length zC9] z.Groups zF9, seen false [.slice zA10 z.On.length zC10] z.On zF10, seen false [.slice zA11 z.Tapes.length zC11] z.Tapes zF11]) (all_cons zO9 (all_cons zO10 (all_cons zO11 (by simp))))
  refine W_seq ?_
  refine W_reg ?_
  refine s_box (wn rfl) rfl rfl H0 (fun b1 w1 e1 g1 H1 => ?_)
  refine s_val (wn rfl) rfl rfl (py_assign rfl) ?_
  refine s_nil ?_
  refine W_seq ?_
  refine W_reg ?_
  refine s_val (wn rfl) rfl rfl (py_field Tryz.underlying37 rfl Tryz.sizeOf33 rfl rfl) (s_val (wn rfl) rfl rfl (py_loadS Tryz.underlying33 rfl Tryz.sizeOf33 rfl rfl (At.sub (H1.box 0 rfl) 9)) ?_)
  refine s_var (wn rfl) rfl Tryz.zeroValue33 H1 (fun b2 w2 e2 g2 H2 => ?_)
  refine s_stoS (wn rfl) Tryz.sizeOf33 rfl rfl rfl rfl H2 1 rfl rfl (fun w3 e3 H3 => ?_)
  dsimp only [List.nil_append, List.cons_append, List.set_cons_zero, List.set_cons_succ, layL] at H3
  refine s_nil ?_
  refine W_seq ?_
  refine W_seq ?_
  refine W_drw (S := Ext No _) [(0, true), (1, true), (2, true), (3, true), (4, false), (5, false)] (by kernel_rfl) (by kernel_rfl) (by kernel_rfl) rfl (fun _ => Ext.refl.drawn _) (fun q1 => ?_)
  have H4 := H3.drawn q1
  refine d_val rfl (wn rfl) rfl rfl (fun zw hx => py_field Tryz.underlying37 rfl Tryz.sizeOf34 rfl rfl) (d_val rfl (wn rfl) rfl rfl (fun zw hx => py_load Tryz.underlying34 rfl rfl (cell_atL (hx.heap (H4.box 0 rfl)) rfl)) (d_val rfl (wn rfl) rfl rfl (fun zw hx => py_len Tryz.underlying34 rfl) (d_val rfl (wn rfl) rfl rfl (fun zw hx => py_loadS Tryz.underlying33 rfl Tryz.sizeOf33 rfl rfl (At.whole (hx.heap (H4.box 1 rfl)))) ?_)))
  refine d_call rfl (wn rfl) rfl rfl (pc_call Tryz.func83 rfl Tryz_nm83 rfl) (Tryz_spec_l5All (by assumption)) (fun hS _ _ r _ => hS.trans r.1.no) (fun v1 w4 r1 => ?_)
  obtain ⟨e4, rfl⟩ := r1
  have H5 := H4.to e4
  refine d_end rfl (wn rfl) rfl rfl (py_neq rfl rfl) ?_
  refine d_nil ?_
  refine W_ifd rfl (fun c1 => ?_) (fun c1 => ?_)
  · refine W_seq ?_
    refine W_reg ?_
    refine s_val (wn rfl) rfl rfl (py_assign rfl) ?_
    refine s_nil ?_
    refine W_ret (hQ _ _ (fin1 Tryz.results147 rfl ?_))
    exact ⟨H5.ext, congrArg Value.bool (groupsOK_len (by omega)).symm⟩
  · refine W_skip ?_
    refine W_seq ?_
    refine W_seq ?_
    refine W_reg ?_
    refine s_val (wn rfl) rfl rfl (py_assign rfl) ?_
    refine s_nil ?_
    refine W_block ?_
    refine W_loopS (γ := Nat) H5 [(1, _), (3, _)] ⟨rfl, rfl, trivial⟩ (fun k => [(4, .int .i64 k)]) (fun k => k ≤ z.Groups.length ∧ (∀ i, i < k → groupOK z.Shape (z.Groups.getD i []) = true)) (fun k => z.Groups.length - k) 0 ⟨rfl, trivial⟩ ⟨by omega, fun i hi => by omega⟩ (fun k w5 H6 ⟨hk, he⟩ => ?_)
    dsimp only [List.cons_append, List.nil_append]
    refine W_seq ?_
    refine W_seq ?_
    refine W_reg ?_
    refine s_val (wn rfl) rfl rfl (py_move rfl) (s_val (wn rfl) rfl rfl (py_field Tryz.underlying37 rfl Tryz.sizeOf34 rfl rfl) (s_val (wn rfl) rfl rfl (py_load Tryz.underlying34 rfl rfl (cell_atL (H6.box 0 rfl) rfl)) (s_val (wn rfl) rfl rfl (py_len Tryz.underlying34 rfl) (s_val (wn rfl) rfl rfl (py_lss rfl rfl) ?_))))
    refine s_nil ?_
    refine W_ifd rfl (fun c2 => ?_) (fun c2 => ?_)
    · refine W_skip ?_
      refine W_seq ?_
      refine W_block ?_
      refine W_seq ?_
      refine W_seq ?_
      obtain ⟨eb1, eo1, ea1, ek1, ef1, ee1, ec1, eO1, eH1⟩ := elem_sl (H6.seen 0 rfl) k (by omega)
      have eP1 := H6.look1 0 rfl eO1 eH1
      refine W_drw (S := Ext No _) [(0, true), (1, true), (2, true), (3, true), (4, true), (5, true), (6, true), (7, false), (8, false)] (by kernel_rfl) (by kernel_rfl) (by kernel_rfl) rfl (fun _ => Ext.refl.drawn _) (fun q2 => ?_)
      have H7 := eP1.drawn q2
      refine d_val rfl (wn rfl) rfl rfl (fun zw hx => py_field Tryz.underlying37 rfl Tryz.sizeOf34 rfl rfl) (d_val rfl (wn rfl) rfl rfl (fun zw hx => py_load Tryz.underlying34 rfl rfl (cell_atL (hx.heap (H7.box 0 rfl)) rfl)) (d_val rfl (wn rfl) rfl rfl (fun zw hx => py_move rfl) (d_val rfl (wn rfl) rfl rfl (fun zw hx => py_elz Tryz.underlying34 Tryz.sizeOf147 rfl rfl ee1 k (by omega) (by omega)) (d_val rfl (wn rfl) rfl rfl (fun zw hx => py_load Tryz.underlying147 rfl rfl (hx.cell ec1)) (d_val rfl (wn rfl) rfl rfl (fun zw hx => py_len Tryz.underlying147 rfl) (d_val rfl (wn rfl) rfl rfl (fun zw hx => py_loadS Tryz.underlying33 rfl Tryz.sizeOf33 rfl rfl (At.whole (hx.heap (H7.box 1 rfl)))) ?_))))))
      refine d_call rfl (wn rfl) rfl rfl (pc_call Tryz.func157 rfl Tryz_nm157 rfl) (Tryz_spec_l5Drives (by assumption)) (fun hS _ _ r _ => hS.trans r.1.no) (fun v2 w6 r2 => ?_)
      obtain ⟨e5, rfl⟩ := r2
      have H8 := H7.to e5
      refine d_end rfl (wn rfl) rfl rfl (py_neq rfl rfl) ?_
      refine d_nil ?_
      refine W_ifd rfl (fun c3 => ?_) (fun c3 => ?_)
      · refine W_seq ?_
        refine W_reg ?_
        refine s_val (wn rfl) rfl rfl (py_assign rfl) ?_
        refine s_nil ?_
        refine W_ret (hQ _ _ (fin1 Tryz.results147 rfl ?_))
        exact ⟨H8.ext, congrArg Value.bool (groupsOK_at k (by omega) (groupOK_len (by omega))).symm⟩
      · refine W_skip ?_
        refine W_seq ?_
        refine W_reg ?_
        refine s_val (wn rfl) rfl rfl (py_assign rfl) ?_
        refine s_nil ?_
        refine W_block ?_
        refine W_loopS (γ := Nat) H8 [(1, _), (3, _), (4, _)] ⟨rfl, rfl, rfl, trivial⟩ (fun k2 => [(5, .int .i64 k2)]) (fun k2 => k2 ≤ (z.Groups.getD k []).length ∧ (∀ i, i < k2 → driveOK z.Shape ((z.Groups.getD k []).getD i default) = true)) (fun k2 => (z.Groups.getD k []).length - k2) 0 ⟨rfl, trivial⟩ ⟨by omega, fun i hi => by omega⟩ (fun k2 w7 H9 ⟨hk2, hek2⟩ => ?_)
        dsimp only [List.cons_append, List.nil_append]
        refine W_seq ?_
        refine W_seq ?_
        obtain ⟨eb2, eo2, ea2, ek2, ef2, ee2, ec2, eO2, eH2⟩ := elem_sl (H9.seen 0 rfl) k (by omega)
        have eP2 := H9.look1 0 rfl eO2 eH2
        refine W_reg ?_
        refine s_val (wn rfl) rfl rfl (py_move rfl) (s_val (wn rfl) rfl rfl (py_field Tryz.underlying37 rfl Tryz.sizeOf34 rfl rfl) (s_val (wn rfl) rfl rfl (py_load Tryz.underlying34 rfl rfl (cell_atL (eP2.box 0 rfl) rfl)) (s_val (wn rfl) rfl rfl (py_move rfl) (s_val (wn rfl) rfl rfl (py_elz Tryz.underlying34 Tryz.sizeOf147 rfl rfl ee2 k (by omega) (by omega)) (s_val (wn rfl) rfl rfl (py_load Tryz.underlying147 rfl rfl ec2) (s_val (wn rfl) rfl rfl (py_len Tryz.underlying147 rfl) (s_val (wn rfl) rfl rfl (py_lss rfl rfl) ?_)))))))
        refine s_nil ?_
        refine W_ifd rfl (fun c4 => ?_) (fun c4 => ?_)
        · refine W_skip ?_
          refine W_seq ?_
          refine W_block ?_
          refine W_seq ?_
          obtain ⟨eb3, eo3, ea3, ek3, ef3, ee3, ec3, eO3, eH3⟩ := elem_sl (eP2.seen 0 rfl) k (by omega)
          have eP3 := eP2.look1 0 rfl eO3 eH3
          obtain ⟨eb4, eo4, es1, ef4, ee4, ec4, eO4, eH4, em1⟩ := elem_st (eP3.seen 5 rfl) k2 (by omega)
          obtain ⟨ea4, ek4, eg1, rfl, eq1, eK1, eo5⟩ := own_Drive eO4
          have eP4 := eP3.look1 5 rfl eo5 (fun b hb => eH4 b (by rw [eq1]; simp [hb]))
          have eL1 := own_len_le eo5
          unfold maxLen at eL1
          refine W_reg ?_
          refine s_val (wn rfl) rfl rfl (py_field Tryz.underlying37 rfl Tryz.sizeOf34 rfl rfl) (s_val (wn rfl) rfl rfl (py_load Tryz.underlying34 rfl rfl (cell_atL (eP4.box 0 rfl) rfl)) (s_val (wn rfl) rfl rfl (py_move rfl) (s_val (wn rfl) rfl rfl (py_elz Tryz.underlying34 Tryz.sizeOf147 rfl rfl ee3 k (by omega) (by omega)) (s_val (wn rfl) rfl rfl (py_load Tryz.underlying147 rfl rfl ec3) (s_val (wn rfl) rfl rfl (py_move rfl) (s_val (wn rfl) rfl rfl (py_elz Tryz.underlying147 Tryz.sizeOf150 rfl rfl ee4 k2 (by omega) (by omega)) (s_val (wn rfl) rfl rfl (py_field Tryz.underlying150 rfl Tryz.sizeOf148 rfl rfl) (s_val (wn rfl) rfl rfl (py_load Tryz.underlying148 rfl rfl (at_cell ec4 1 rfl)) (s_val (wn rfl) rfl rfl (py_assign rfl) ?_)))))))))
          refine s_nil ?_
          refine W_seq ?_
          refine W_seq ?_
          refine W_reg ?_
          refine s_val (wn rfl) rfl rfl (py_move rfl) (s_val (wn rfl) rfl rfl (py_len Tryz.underlying148 rfl) (s_val (wn rfl) rfl rfl (py_field Tryz.underlying33 rfl Tryz.sizeOf2 rfl rfl) (s_val (wn rfl) rfl rfl (py_load Tryz.underlying2 rfl rfl (cell_atL (eP4.box 1 rfl) rfl)) (s_val (wn rfl) rfl rfl (py_neq rfl rfl) ?_))))
          refine s_nil ?_
          refine W_ifd rfl (fun c5 => ?_) (fun c5 => ?_)
          · refine W_seq ?_
            refine W_reg ?_
            refine s_val (wn rfl) rfl rfl (py_assign rfl) ?_
            refine s_nil ?_
            refine W_ret (hQ _ _ (fin1 Tryz.results147 rfl ?_))
            exact ⟨eP4.ext, congrArg Value.bool (groupsOK_at k (by omega) (groupOK_at k2 (by omega) (driveOK_len (by omega)))).symm⟩
          · refine W_skip ?_
            refine W_seq ?_
            refine W_reg ?_
            refine s_val (wn rfl) rfl rfl (py_assign rfl) ?_
            refine s_nil ?_
            refine W_block ?_
            refine W_loopS (γ := Nat) eP4 [(1, _), (3, _), (4, _), (5, _), (6, _)] ⟨rfl, rfl, rfl, rfl, rfl, trivial⟩ (fun k3 => [(7, .int .i64 k3)]) (fun k3 => k3 ≤ ((z.Groups.getD k []).getD k2 default).Blocks.length ∧ (∀ i, i < k3 → blockOK (((z.Groups.getD k []).getD k2 default).Blocks.getD i default) = true)) (fun k3 => ((z.Groups.getD k []).getD k2 default).Blocks.length - k3) 0 ⟨rfl, trivial⟩ ⟨by omega, fun i hi => by omega⟩ (fun k3 w8 H10 ⟨hk3, hek3⟩ => ?_)
            dsimp only [List.cons_append, List.nil_append]
            refine W_seq ?_
            refine W_seq ?_
            refine W_reg ?_
            refine s_val (wn rfl) rfl rfl (py_move rfl) (s_val (wn rfl) rfl rfl (py_move rfl) (s_val (wn rfl) rfl rfl (py_len Tryz.underlying148 rfl) (s_val (wn rfl) rfl rfl (py_lss rfl rfl) ?_)))
            refine s_nil ?_
            refine W_ifd rfl (fun c6 => ?_) (fun c6 => ?_)
            · refine W_skip ?_
              refine W_seq ?_
              refine W_block ?_
              refine W_seq ?_
              obtain ⟨eb5, eo6, es2, ef5, ee5, ec5, eO5, eH5, em2⟩ := elem_st (H10.seen 6 rfl) k3 (by omega)
              obtain ⟨ea5, ek5, eg2, rfl, eq2, eK2, eo7⟩ := own_Block eO5
              have eK2U := eK2
              unfold Block.Ok at eK2U
              try unfold I64ok at eK2U
              try unfold maxLen at eK2U
              have eP5 := H10.look1 6 rfl eo7 (fun b hb => eH5 b (by rw [eq2]; simp [hb]))
              have eL2 := own_len_le eo7
              unfold maxLen at eL2
              refine W_reg ?_
              refine s_val (wn rfl) rfl rfl (py_move rfl) (s_val (wn rfl) rfl rfl (py_move rfl) (s_val (wn rfl) rfl rfl (py_elz Tryz.underlying148 Tryz.sizeOf152 rfl rfl ee5 k3 (by omega) (by omega)) (s_val (wn rfl) rfl rfl (py_field Tryz.underlying152 rfl Tryz.sizeOf2 rfl rfl) (s_val (wn rfl) rfl rfl (py_load Tryz.underlying2 rfl rfl (at_cell ec5 0 rfl)) ?_))))
              refine s_call (wn rfl) rfl rfl (pc_call Tryz.func149 rfl Tryz_nm149 rfl) Tryz_spec_l1In (fun v3 w9 r3 => ?_)
              obtain ⟨e6, rfl⟩ := r3
              have H11 := eP5.to e6
              refine s_val (wn rfl) rfl rfl (py_not rfl) (s_val (wn rfl) rfl rfl (py_move rfl) ?_)
              refine s_grp 7 (j := 7) (want := false) (t := 76) rfl rfl rfl rfl (fun hg1 kk1 => s_val (wgE rfl rfl rfl hg1) rfl rfl (py_move rfl) (s_val (wgE rfl rfl rfl hg1) rfl rfl (py_move rfl) (s_val (wgE rfl rfl rfl hg1) rfl rfl (py_elz Tryz.underlying148 Tryz.sizeOf152 rfl rfl ee5 k3 (by first | omega | (simp only [Bool.or_eq_false_iff, Bool.and_eq_true, Bool.and_eq_false_iff, Bool.or_eq_true, Bool.not_eq_true', Bool.not_eq_false', decide_eq_true_eq, decide_eq_false_iff_not] at hg1; omega)) (by omega)) (s_val (wgE rfl rfl rfl hg1) rfl rfl (py_field Tryz.underlying152 rfl Tryz.sizeOf61 rfl rfl) (s_val (wgE rfl rfl rfl hg1) rfl rfl (py_load Tryz.underlying61 rfl rfl (at_cell (e6.at ec5) 1 rfl)) (s_val (wgE rfl rfl rfl hg1) rfl rfl (py_len Tryz.underlying61 rfl) (s_val (wgE rfl rfl rfl hg1) rfl rfl (py_neq rfl rfl) (kk1 _ _ (kx rfl (kx rfl (kx rfl (kx rfl (kx rfl (kx rfl (kx rfl k0))))))) rfl Ext.refl)))))))) (fun w10 e7 => ?_)
              have H12 := H11.to e7
              refine s_val (wn rfl) rfl rfl (py_bor rfl rfl) ?_
              refine s_nil ?_
              refine W_if rfl (fun c7 => ?_) (fun c7 => ?_)
              · refine W_seq ?_
                refine W_reg ?_
                refine s_val (wn rfl) rfl rfl (py_assign rfl) ?_
                refine s_nil ?_
                refine W_ret (hQ _ _ (fin1 Tryz.results147 rfl ?_))
                exact ⟨H12.ext, congrArg Value.bool (groupsOK_at k (by omega) (groupOK_at k2 (by omega) (driveOK_at k3 (by omega) (blockOK_no c7)))).symm⟩
              · refine W_skip ?_
                refine W_reg ?_
                refine s_val (wn rfl) rfl rfl (py_move rfl) (s_val (wn rfl) rfl rfl (py_add rfl rfl (in64 ⟨by omega, by omega⟩)) (s_val (wn rfl) rfl rfl (py_assign rfl) ?_))
                refine s_nil ?_
                refine ⟨k3 + 1, ⟨rfl, rfl, rfl, rfl, rfl, rfl, trivial⟩, ⟨(H12.ftake 7), by omega, fun i hi => ?_⟩, by dsimp only; omega⟩
                by_cases e : i = k3
                · subst e
                  exact blockOK_yes (by assumption)
                · exact hek3 i (by omega)
            · refine W_exit ?_
              refine W_reg ?_
              refine s_val (wn rfl) rfl rfl (py_move rfl) (s_val (wn rfl) rfl rfl (py_add rfl rfl (in64 ⟨by omega, by omega⟩)) (s_val (wn rfl) rfl rfl (py_assign rfl) ?_))
              refine s_nil ?_
              refine ⟨k2 + 1, ⟨rfl, rfl, rfl, rfl, trivial⟩, ⟨(H10.ftake 4), by omega, fun i hi => ?_⟩, by dsimp only; omega⟩
              by_cases e : i = k2
              · subst e
                exact driveOK_all (by omega) (fun i hi => hek3 i (by omega))
              · exact hek2 i (by omega)
        · refine W_exit ?_
          refine W_reg ?_
          refine s_val (wn rfl) rfl rfl (py_move rfl) (s_val (wn rfl) rfl rfl (py_add rfl rfl (in64 ⟨by omega, by omega⟩)) (s_val (wn rfl) rfl rfl (py_assign rfl) ?_))
          refine s_nil ?_
          refine ⟨k + 1, ⟨rfl, rfl, rfl, trivial⟩, ⟨(eP2.ftake 3), by omega, fun i hi => ?_⟩, by dsimp only; omega⟩
          by_cases e : i = k
          · subst e
            exact groupOK_yes (by omega) (fun i hi => hek2 i (by omega))
          · exact he i (by omega)
    · refine W_exit ?_
      refine W_seq ?_
      refine W_reg ?_
      refine s_val (wn rfl) rfl rfl (py_assign rfl) ?_
      refine s_nil ?_
      refine W_ret (hQ _ _ (fin1 Tryz.results147 rfl ?_))
      exact ⟨H6.ext, congrArg Value.bool (groupsOK_yes (by omega) (fun i hi => he i (by omega))).symm⟩
theorem Tryz_impl_WorldFault {w : World} {z : Wld} {zA9 : Option Addr} {zC9 : Nat} {zA10 : Option Addr} {zC10 : Nat} {zA11 : Option Addr} {zC11 : Nat} (zK : z.Ok) (zS9 : Sees w [.slice zA9 z.Groups.length zC9] z.Groups) (zS10 : Sees w [.slice zA10 z.On.length zC10] z.On) (zS11 : Sees w [.slice zA11 z.Tapes.length zC11] z.Tapes) : Ret Tryz.prog 85 #[z.val zA9 zC9 zA10 zC10 zA11 zC11] w fun v w' => Ext No w w' ∧ (v = .int .i64 (worldF z)) := by
  have zK2 := zK
  unfold Wld.Ok Shape.Ok at zK2
  try unfold I64ok at zK2
  try unfold maxLen at zK2
  have zL9 := sees_len zS9
  unfold maxLen at zL9
  obtain ⟨zF9, zO9⟩ := zS9
  have zL10 := sees_len zS10
  unfold maxLen at zL10
  obtain ⟨zF10, zO10⟩ := zS10
  have zL11 := sees_len zS11
  unfold maxLen at zL11
  obtain ⟨zF11, zO11⟩ := zS11
  refine ret_Q (vs := [z.val zA9 zC9 zA10 zC10 zA11 zC11]) Tryz.func85 rfl Tryz.ntmps85 rfl (fun Q hQ hN => ?_)
  have H0 := Sep.start (w := w) (F := [seen false [.slice zA9 z.Groups.length zC9] z.Groups zF9, seen false [.slice zA10 z.On.length zC10] z.On zF10, seen false [.slice zA11 z.Tapes.length zC11] z.Tapes zF11]) (all_cons zO9 (all_cons zO10 (all_cons zO11 (by simp))))
  refine W_seq ?_
  refine W_reg ?_
  refine s_box (wn rfl) rfl rfl H0 (fun b1 w1 e1 g1 H1 => ?_)
  refine s_val (wn rfl) rfl rfl (py_assign rfl) ?_
  refine s_nil ?_
  refine W_seq ?_
  refine W_seq ?_
  refine W_reg ?_
  refine s_val (wn rfl) rfl rfl (py_field Tryz.underlying37 rfl Tryz.sizeOf33 rfl rfl) (s_val (wn rfl) rfl rfl (py_loadS Tryz.underlying33 rfl Tryz.sizeOf33 rfl rfl (At.sub (H1.box 0 rfl) 9)) ?_)
  refine s_call (wn rfl) rfl rfl (pc_call Tryz.func150 rfl Tryz_nm150 rfl) Tryz_impl_ShapeFault (fun v1 w2 r1 => ?_)
  obtain ⟨e2, rfl⟩ := r1
  have H2 := H1.to e2
  refine s_val (wn rfl) rfl rfl (py_assign rfl) ?_
  refine s_nil ?_
  refine W_seq ?_
  refine W_reg ?_
  refine s_val (wn rfl) rfl rfl (py_move rfl) (s_val (wn rfl) rfl rfl (py_neq rfl rfl) ?_)
  refine s_nil ?_
  refine W_ifd rfl (fun c1 => ?_) (fun c1 => ?_)
  · refine W_seq ?_
    refine W_reg ?_
    refine s_val (wn rfl) rfl rfl (py_move rfl) (s_val (wn rfl) rfl rfl (py_assign rfl) ?_)
    refine s_nil ?_
    refine W_ret (hQ _ _ (fin1 Tryz.results85 rfl ?_))
    exact ⟨H2.ext, congrArg (Value.int .i64) (if_pos (by omega)).symm⟩
  · refine W_skip ?_
    refine W_seq ?_
    refine W_seq ?_
    have hs := shapeFault_ok (s := z.Shape) (by omega)
    refine W_reg ?_
    refine s_val (wn rfl) rfl rfl (py_loadS Tryz.underlying37 rfl Tryz.sizeOf37 rfl rfl (At.whole (H2.box 0 rfl))) ?_
    refine s_call (wn rfl) rfl rfl (pc_call Tryz.func151 rfl Tryz_nm151 rfl) (Tryz_impl_groupsOK (by assumption) (H2.sees 0 rfl) (H2.sees 1 rfl) (H2.sees 2 rfl) (by assumption)) (fun v2 w3 r2 => ?_)
    obtain ⟨e3, rfl⟩ := r2
    have H3 := H2.to e3
    refine s_val (wn rfl) rfl rfl (py_not rfl) (s_val (wn rfl) rfl rfl (py_move rfl) ?_)
    refine s_case (t := 14) rfl (fun hg1 => ?_) (fun hg1 => ?_)
    · try simp only [decide_eq_true_eq, decide_eq_false_iff_not] at hg1
      refine s_skip (wog (b := true) rfl rfl rfl) rfl rfl (s_skip (wog (b := true) rfl rfl rfl) rfl rfl (s_skip (wog (b := true) rfl rfl rfl) rfl rfl (s_val (wn rfl) rfl rfl (py_pickT rfl rfl) (s_val (wn rfl) rfl rfl (py_move rfl) (s_skip (wog (b := true) rfl rfl rfl) rfl rfl (s_skip (wog (b := true) rfl rfl rfl) rfl rfl (s_skip (wog (b := true) rfl rfl rfl) rfl rfl (s_skip (wog (b := true) rfl rfl rfl) rfl rfl (s_val (wn rfl) rfl rfl (py_pickT rfl rfl) ?_)))))))))
      refine s_nil ?_
      refine W_ift rfl ?_
      refine W_seq ?_
      refine W_reg ?_
      refine s_val (wn rfl) rfl rfl (py_assign rfl) ?_
      refine s_nil ?_
      refine W_ret (hQ _ _ (fin1 Tryz.results85 rfl ?_))
      exact ⟨H3.ext, congrArg (Value.int .i64) ((if_neg (by omega)).trans (if_neg (by simp_all <;> omega))).symm⟩
    · try simp only [decide_eq_true_eq, decide_eq_false_iff_not] at hg1
      refine s_val (wg rfl rfl rfl) rfl rfl (py_loadS Tryz.underlying37 rfl Tryz.sizeOf37 rfl rfl (At.whole (H3.box 0 rfl))) ?_
      refine s_call (wg rfl rfl rfl) rfl rfl (pc_call Tryz.func152 rfl Tryz_nm152 rfl) (Tryz_impl_onOK (by assumption) (H3.sees 0 rfl) (H3.sees 1 rfl) (H3.sees 2 rfl) (by assumption)) (fun v3 w4 r3 => ?_)
      obtain ⟨e4, rfl⟩ := r3
      have H4 := H3.to e4
      refine s_val (wg rfl rfl rfl) rfl rfl (py_not rfl) (s_val (wn rfl) rfl rfl (py_pickF rfl rfl) (s_val (wn rfl) rfl rfl (py_move rfl) ?_))
      refine s_case (t := 19) rfl (fun hg2 => ?_) (fun hg2 => ?_)
      · try simp only [decide_eq_true_eq, decide_eq_false_iff_not] at hg2
        refine s_skip (wog (b := true) rfl rfl rfl) rfl rfl (s_skip (wog (b := true) rfl rfl rfl) rfl rfl (s_skip (wog (b := true) rfl rfl rfl) rfl rfl (s_skip (wog (b := true) rfl rfl rfl) rfl rfl (s_val (wn rfl) rfl rfl (py_pickT rfl rfl) ?_))))
        refine s_nil ?_
        refine W_ift rfl ?_
        refine W_seq ?_
        refine W_reg ?_
        refine s_val (wn rfl) rfl rfl (py_assign rfl) ?_
        refine s_nil ?_
        refine W_ret (hQ _ _ (fin1 Tryz.results85 rfl ?_))
        exact ⟨H4.ext, congrArg (Value.int .i64) ((if_neg (by omega)).trans (if_neg (by simp_all <;> omega))).symm⟩
      · try simp only [decide_eq_true_eq, decide_eq_false_iff_not] at hg2
        refine s_val (wg rfl rfl rfl) rfl rfl (py_field Tryz.underlying37 rfl Tryz.sizeOf35 rfl rfl) (s_val (wg rfl rfl rfl) rfl rfl (py_load Tryz.underlying35 rfl rfl (cell_atL (H4.box 0 rfl) rfl)) (s_val (wg rfl rfl rfl) rfl rfl (py_len Tryz.underlying35 rfl) (s_val (wg rfl rfl rfl) rfl rfl (py_neq rfl rfl) (s_val (wn rfl) rfl rfl (py_pickF rfl rfl) ?_))))
        refine s_nil ?_
        refine W_ifd rfl (fun c2 => ?_) (fun c2 => ?_)
        · refine W_seq ?_
          refine W_reg ?_
          refine s_val (wn rfl) rfl rfl (py_assign rfl) ?_
          refine s_nil ?_
          refine W_ret (hQ _ _ (fin1 Tryz.results85 rfl ?_))
          exact ⟨H4.ext, congrArg (Value.int .i64) ((if_neg (by omega)).trans (if_neg (by simp_all <;> omega))).symm⟩
        · refine W_skip ?_
          refine W_seq ?_
          refine W_seq ?_
          refine W_reg ?_
          refine s_val (wn rfl) rfl rfl (py_loadS Tryz.underlying37 rfl Tryz.sizeOf37 rfl rfl (At.whole (H4.box 0 rfl))) ?_
          refine s_call (wn rfl) rfl rfl (pc_call Tryz.func153 rfl Tryz_nm153 rfl) (Tryz_impl_tapesFault (by assumption) (H4.sees 0 rfl) (H4.sees 1 rfl) (H4.sees 2 rfl) (by assumption)) (fun v4 w5 r4 => ?_)
          obtain ⟨e5, rfl⟩ := r4
          have H5 := H4.to e5
          refine s_val (wn rfl) rfl rfl (py_assign rfl) ?_
          refine s_nil ?_
          refine W_seq ?_
          refine W_reg ?_
          refine s_val (wn rfl) rfl rfl (py_move rfl) (s_val (wn rfl) rfl rfl (py_neq rfl rfl) ?_)
          refine s_nil ?_
          refine W_ifd rfl (fun c3 => ?_) (fun c3 => ?_)
          · refine W_seq ?_
            refine W_reg ?_
            refine s_val (wn rfl) rfl rfl (py_move rfl) (s_val (wn rfl) rfl rfl (py_assign rfl) ?_)
            refine s_nil ?_
            refine W_ret (hQ _ _ (fin1 Tryz.results85 rfl ?_))
            exact ⟨H5.ext, congrArg (Value.int .i64) ((if_neg (by omega)).trans ((if_pos (by simp_all <;> omega)).trans (if_pos (by omega)))).symm⟩
          · refine W_skip ?_
            refine W_seq ?_
            refine W_seq ?_
            refine W_reg ?_
            refine s_val (wn rfl) rfl rfl (py_field Tryz.underlying37 rfl Tryz.sizeOf2 rfl rfl) (s_val (wn rfl) rfl rfl (py_load Tryz.underlying2 rfl rfl (cell_atL (H5.box 0 rfl) rfl)) ?_)
            refine s_call (wn rfl) rfl rfl (pc_call Tryz.func154 rfl Tryz_nm154 rfl) Tryz_impl_inside (fun v5 w6 r5 => ?_)
            obtain ⟨e6, rfl⟩ := r5
            have H6 := H5.to e6
            refine s_val (wn rfl) rfl rfl (py_not rfl) (s_val (wn rfl) rfl rfl (py_move rfl) ?_)
            refine s_case (t := 34) rfl (fun hg3 => ?_) (fun hg3 => ?_)
            · try simp only [decide_eq_true_eq, decide_eq_false_iff_not] at hg3
              refine s_skip (wog (b := true) rfl rfl rfl) rfl rfl (s_skip (wog (b := true) rfl rfl rfl) rfl rfl (s_skip (wog (b := true) rfl rfl rfl) rfl rfl (s_skip (wog (b := true) rfl rfl rfl) rfl rfl (s_val (wn rfl) rfl rfl (py_pickT rfl rfl) ?_))))
              refine s_nil ?_
              refine W_ift rfl ?_
              refine W_seq ?_
              refine W_reg ?_
              refine s_val (wn rfl) rfl rfl (py_assign rfl) ?_
              refine s_nil ?_
              refine W_ret (hQ _ _ (fin1 Tryz.results85 rfl ?_))
              exact ⟨H6.ext, congrArg (Value.int .i64) ((if_neg (by omega)).trans ((if_pos (by simp_all <;> omega)).trans ((if_neg (by omega)).trans (if_neg (by simp_all <;> omega))))).symm⟩
            · try simp only [decide_eq_true_eq, decide_eq_false_iff_not] at hg3
              refine s_val (wg rfl rfl rfl) rfl rfl (py_field Tryz.underlying37 rfl Tryz.sizeOf2 rfl rfl) (s_val (wg rfl rfl rfl) rfl rfl (py_load Tryz.underlying2 rfl rfl (cell_atL (H6.box 0 rfl) rfl)) ?_)
              refine s_call (wg rfl rfl rfl) rfl rfl (pc_call Tryz.func154 rfl Tryz_nm154 rfl) Tryz_impl_inside (fun v6 w7 r6 => ?_)
              obtain ⟨e7, rfl⟩ := r6
              have H7 := H6.to e7
              refine s_val (wg rfl rfl rfl) rfl rfl (py_not rfl) (s_val (wn rfl) rfl rfl (py_pickF rfl rfl) ?_)
              refine s_nil ?_
              refine W_if rfl (fun c4 => ?_) (fun c4 => ?_)
              · refine W_seq ?_
                refine W_reg ?_
                refine s_val (wn rfl) rfl rfl (py_assign rfl) ?_
                refine s_nil ?_
                refine W_ret (hQ _ _ (fin1 Tryz.results85 rfl ?_))
                exact ⟨H7.ext, congrArg (Value.int .i64) ((if_neg (by omega)).trans ((if_pos (by simp_all <;> omega)).trans ((if_neg (by omega)).trans (if_neg (by simp_all <;> omega))))).symm⟩
              · refine W_skip ?_
                refine W_seq ?_
                refine W_reg ?_
                refine s_val (wn rfl) rfl rfl (py_assign rfl) ?_
                refine s_nil ?_
                refine W_ret (hQ _ _ (fin1 Tryz.results85 rfl ?_))
                exact ⟨H7.ext, congrArg (Value.int .i64) ((if_neg (by omega)).trans ((if_pos (by simp_all <;> omega)).trans ((if_neg (by omega)).trans (if_pos (by simp_all <;> omega))))).symm⟩
theorem Tryz_impl_upFault {w : World} {z : Wld} {zA9 : Option Addr} {zC9 : Nat} {zA10 : Option Addr} {zC10 : Nat} {zA11 : Option Addr} {zC11 : Nat} (zK : z.Ok) (zS9 : Sees w [.slice zA9 z.Groups.length zC9] z.Groups) (zS10 : Sees w [.slice zA10 z.On.length zC10] z.On) (zS11 : Sees w [.slice zA11 z.Tapes.length zC11] z.Tapes) : Ret Tryz.prog 75 #[z.val zA9 zC9 zA10 zC10 zA11 zC11] w fun v w' => Ext No w w' ∧ (v = .int .i64 (upF z)) := by
  have zK2 := zK
  unfold Wld.Ok Shape.Ok at zK2
  try unfold I64ok at zK2
  try unfold maxLen at zK2
  have zL9 := sees_len zS9
  unfold maxLen at zL9
  obtain ⟨zF9, zO9⟩ := zS9
  have zL10 := sees_len zS10
  unfold maxLen at zL10
  obtain ⟨zF10, zO10⟩ := zS10
  have zL11 := sees_len zS11
  unfold maxLen at zL11
  obtain ⟨zF11, zO11⟩ := zS11
  refine ret_Q (vs := [z.val zA9 zC9 zA10 zC10 zA11 zC11]) Tryz.func75 rfl Tryz.ntmps75 rfl (fun Q hQ hN => ?_)
  have H0 := Sep.start (w := w) (F := [seen false [.slice zA9 z.Groups.length zC9] z.Groups zF9, seen false [.slice zA10 z.On.length zC10] z.On zF10, seen false [.slice zA11 z.Tapes.length zC11] z.Tapes zF11]) (all_cons zO9 (all_cons zO10 (all_cons zO11 (by simp))))
  refine W_seq ?_
  refine W_reg ?_
  refine s_box (wn rfl) rfl rfl H0 (fun b1 w1 e1 g1 H1 => ?_)
  refine s_val (wn rfl) rfl rfl (py_assign rfl) ?_
  refine s_nil ?_
  refine W_seq ?_
  refine W_seq ?_
  refine W_reg ?_
  refine s_val (wn rfl) rfl rfl (py_loadS Tryz.underlying37 rfl Tryz.sizeOf37 rfl rfl (At.whole (H1.box 0 rfl))) ?_
  refine s_call (wn rfl) rfl rfl (pc_call Tryz.func85 rfl Tryz_nm85 rfl) (Tryz_impl_WorldFault (by assumption) (H1.sees 0 rfl) (H1.sees 1 rfl) (H1.sees 2 rfl)) (fun v1 w2 r1 => ?_)
  obtain ⟨e2, rfl⟩ := r1
  have H2 := H1.to e2
  refine s_val (wn rfl) rfl rfl (py_assign rfl) ?_
  refine s_nil ?_
  refine W_seq ?_
  refine W_reg ?_
  refine s_val (wn rfl) rfl rfl (py_move rfl) (s_val (wn rfl) rfl rfl (py_neq rfl rfl) ?_)
  refine s_nil ?_
  refine W_ifd rfl (fun c1 => ?_) (fun c1 => ?_)
  · refine W_seq ?_
    refine W_reg ?_
    refine s_val (wn rfl) rfl rfl (py_move rfl) (s_val (wn rfl) rfl rfl (py_assign rfl) ?_)
    refine s_nil ?_
    refine W_ret (hQ _ _ (fin1 Tryz.results75 rfl ?_))
    exact ⟨H2.ext, congrArg (Value.int .i64) (if_pos (by omega)).symm⟩
  · refine W_skip ?_
    refine W_seq ?_
    refine W_seq ?_
    refine W_reg ?_
    refine s_val (wn rfl) rfl rfl (py_field Tryz.underlying37 rfl Tryz.sizeOf4 rfl rfl) (s_val (wn rfl) rfl rfl (py_load Tryz.underlying4 rfl rfl (cell_atL (H2.box 0 rfl) rfl)) ?_)
    refine s_nil ?_
    refine W_if rfl (fun c2 => ?_) (fun c2 => ?_)
    · refine W_seq ?_
      refine W_reg ?_
      refine s_val (wn rfl) rfl rfl (py_assign rfl) ?_
      refine s_nil ?_
      refine W_ret (hQ _ _ (fin1 Tryz.results75 rfl ?_))
      exact ⟨H2.ext, congrArg (Value.int .i64) ((if_neg (by omega)).trans (if_pos (by assumption))).symm⟩
    · refine W_skip ?_
      refine W_seq ?_
      refine W_reg ?_
      refine s_val (wn rfl) rfl rfl (py_assign rfl) ?_
      refine s_nil ?_
      refine W_ret (hQ _ _ (fin1 Tryz.results75 rfl ?_))
      exact ⟨H2.ext, congrArg (Value.int .i64) ((if_neg (by omega)).trans (if_neg (by simp_all <;> omega))).symm⟩
set_option maxHeartbeats 1000000 in
theorem Tryz_spec_WorldFault {w : World} {z : Wld} {zA9 : Option Addr} {zC9 : Nat} {zA10 : Option Addr} {zC10 : Nat} {zA11 : Option Addr} {zC11 : Nat} (zK : z.Ok) (zS9 : Sees w [.slice zA9 z.Groups.length zC9] z.Groups) (zS10 : Sees w [.slice zA10 z.On.length zC10] z.On) (zS11 : Sees w [.slice zA11 z.Tapes.length zC11] z.Tapes) : Ret Tryz.prog 82 #[z.val zA9 zC9 zA10 zC10 zA11 zC11] w fun v w' => Ext No w w' ∧ (v = .int .i64 (worldF z)) := by
  have zK2 := zK
  unfold Wld.Ok Shape.Ok at zK2
  try unfold I64ok at zK2
  try unfold maxLen at zK2
  have zL9 := sees_len zS9
  unfold maxLen at zL9
  obtain ⟨zF9, zO9⟩ := zS9
  have zL10 := sees_len zS10
  unfold maxLen at zL10
  obtain ⟨zF10, zO10⟩ := zS10
  have zL11 := sees_len zS11
  unfold maxLen at zL11
  obtain ⟨zF11, zO11⟩ := zS11
  refine ret_Q (vs := [z.val zA9 zC9 zA10 zC10 zA11 zC11]) Tryz.func82 rfl Tryz.ntmps82 rfl (fun Q hQ hN => ?_)
  have H0 := Sep.start (w := w) (F := [seen false [.slice zA9 z.Groups.length zC9] z.Groups zF9, seen false [.slice zA10 z.On.length zC10] z.On zF10, seen false [.slice zA11 z.Tapes.length zC11] z.Tapes zF11]) (all_cons zO9 (all_cons zO10 (all_cons zO11 (by simp))))
  refine W_seq ?_
  refine W_reg ?_
  refine s_box (wn rfl) rfl rfl H0 (fun b1 w1 e1 g1 H1 => ?_)
  refine s_val (wn rfl) rfl rfl (py_assign rfl) ?_
  refine s_nil ?_
  refine W_seq ?_
  refine W_seq ?_
  refine W_reg ?_
  refine s_val (wn rfl) rfl rfl (py_field Tryz.underlying37 rfl Tryz.sizeOf33 rfl rfl) (s_val (wn rfl) rfl rfl (py_loadS Tryz.underlying33 rfl Tryz.sizeOf33 rfl rfl (At.sub (H1.box 0 rfl) 9)) ?_)
  refine s_call (wn rfl) rfl rfl (pc_call Tryz.func146 rfl Tryz_nm146 rfl) Tryz_spec_ShapeFault (fun v1 w2 r1 => ?_)
  obtain ⟨e2, rfl⟩ := r1
  have H2 := H1.to e2
  refine s_val (wn rfl) rfl rfl (py_assign rfl) ?_
  refine s_nil ?_
  refine W_seq ?_
  refine W_reg ?_
  refine s_val (wn rfl) rfl rfl (py_move rfl) (s_val (wn rfl) rfl rfl (py_neq rfl rfl) ?_)
  refine s_nil ?_
  refine W_ifd rfl (fun c1 => ?_) (fun c1 => ?_)
  · refine W_seq ?_
    refine W_reg ?_
    refine s_val (wn rfl) rfl rfl (py_move rfl) (s_val (wn rfl) rfl rfl (py_assign rfl) ?_)
    refine s_nil ?_
    refine W_ret (hQ _ _ (fin1 Tryz.results82 rfl ?_))
    exact ⟨H2.ext, congrArg (Value.int .i64) (if_pos (by omega)).symm⟩
  · refine W_skip ?_
    refine W_seq ?_
    refine W_seq ?_
    have hs := shapeFault_ok (s := z.Shape) (by omega)
    have sbd := shape_bd hs
    refine W_drw (S := Ext No _) [(0, true), (1, false), (2, true), (3, true), (4, true), (5, true), (6, true), (7, true), (8, false), (9, true), (10, false), (11, true), (12, true), (13, true), (14, true), (15, true), (16, true), (17, true), (18, true), (19, true), (20, true), (21, true), (22, true), (23, true), (24, true), (25, true), (26, true), (27, true), (28, true), (29, true), (30, true), (31, true), (32, true), (33, true), (34, true), (35, true), (36, true), (37, false)] (by kernel_rfl) (by kernel_rfl) (by kernel_rfl) rfl (fun _ => Ext.refl.drawn _) (fun q1 => ?_)
    have H3 := H2.drawn q1
    refine d_val rfl (wn rfl) rfl rfl (fun zw hx => py_loadS Tryz.underlying37 rfl Tryz.sizeOf37 rfl rfl (At.whole (hx.heap (H3.box 0 rfl)))) ?_
    refine d_call rfl (wn rfl) rfl rfl (pc_call Tryz.func147 rfl Tryz_nm147 rfl) (Tryz_spec_l5Built (by assumption) (H3.sees 0 rfl) (H3.sees 1 rfl) (H3.sees 2 rfl) (by assumption)) (fun hS _ _ r _ => hS.trans r.1.no) (fun v2 w3 r2 => ?_)
    obtain ⟨e3, rfl⟩ := r2
    have H4 := H3.to e3
    refine d_val rfl (wn rfl) rfl rfl (fun zw hx => py_not rfl) (d_val rfl (wn rfl) rfl rfl (fun zw hx => py_move rfl) ?_)
    refine d_case (t := 17) rfl (fun hg1 => ?_) (fun hg1 => ?_)
    · try simp only [decide_eq_true_eq, decide_eq_false_iff_not] at hg1
      refine d_skip rfl (wog (b := true) rfl rfl rfl) rfl rfl (d_skip rfl (wog (b := true) rfl rfl rfl) rfl rfl (d_skip rfl (wog (b := true) rfl rfl rfl) rfl rfl (d_skip rfl (wog (b := true) rfl rfl rfl) rfl rfl (d_skipA rfl (wog (b := true) rfl rfl rfl) rfl rfl (d_skip rfl (wog (b := true) rfl rfl rfl) rfl rfl (d_skipA rfl (wog (b := true) rfl rfl rfl) rfl rfl (d_skip rfl (wog (b := true) rfl rfl rfl) rfl rfl (d_val rfl (wn rfl) rfl rfl (fun zw hx => py_pickT rfl rfl) (d_val rfl (wn rfl) rfl rfl (fun zw hx => py_move rfl) (d_skip rfl (wog (b := true) rfl rfl rfl) rfl rfl (d_skip rfl (wog (b := true) rfl rfl rfl) rfl rfl (d_skip rfl (wog (b := true) rfl rfl rfl) rfl rfl (d_skip rfl (wog (b := true) rfl rfl rfl) rfl rfl (d_skip rfl (wog (b := true) rfl rfl rfl) rfl rfl (d_skip rfl (wog (b := true) rfl rfl rfl) rfl rfl (d_skip rfl (wog (b := true) rfl rfl rfl) rfl rfl (d_val rfl (wn rfl) rfl rfl (fun zw hx => py_pickT rfl rfl) (d_val rfl (wn rfl) rfl rfl (fun zw hx => py_move rfl) (d_skip rfl (wog (b := true) rfl rfl rfl) rfl rfl (d_skip rfl (wog (b := true) rfl rfl rfl) rfl rfl (d_skip rfl (wog (b := true) rfl rfl rfl) rfl rfl (d_skip rfl (wou rfl rfl rfl) rfl rfl (d_skip rfl (wou rfl rfl rfl) rfl rfl (d_skip rfl (wou rfl rfl rfl) rfl rfl (d_skip rfl (wou rfl rfl rfl) rfl rfl (d_skip rfl (wog (b := true) rfl rfl rfl) rfl rfl (d_val rfl (wn rfl) rfl rfl (fun zw hx => py_pickT rfl rfl) (d_val rfl (wn rfl) rfl rfl (fun zw hx => py_move rfl) (d_skip rfl (wog (b := true) rfl rfl rfl) rfl rfl (d_skip rfl (wog (b := true) rfl rfl rfl) rfl rfl (d_skip rfl (wog (b := true) rfl rfl rfl) rfl rfl (d_skip rfl (wog (b := true) rfl rfl rfl) rfl rfl (d_end rfl (wn rfl) rfl rfl (py_pickT rfl rfl) ?_)))))))))))))))))))))))))))))))))
      refine d_nil ?_
      refine W_ift rfl ?_
      refine W_seq ?_
      refine W_reg ?_
      refine s_val (wn rfl) rfl rfl (py_assign rfl) ?_
      refine s_nil ?_
      refine W_ret (hQ _ _ (fin1 Tryz.results82 rfl ?_))
      exact ⟨H4.ext, congrArg (Value.int .i64) ((if_neg (by omega)).trans (if_neg (by rw [← fine_eq]; first | (simp_all <;> omega) | (cases hh : z.On <;> simp_all <;> omega)))).symm⟩
    · try simp only [decide_eq_true_eq, decide_eq_false_iff_not] at hg1
      refine d_val rfl (wg rfl rfl rfl) rfl rfl (fun zw hx => py_field Tryz.underlying37 rfl Tryz.sizeOf25 rfl rfl) (d_val rfl (wg rfl rfl rfl) rfl rfl (fun zw hx => py_load Tryz.underlying25 rfl rfl (cell_atL (hx.heap (H3.box 0 rfl)) rfl)) (d_val rfl (wg rfl rfl rfl) rfl rfl (fun zw hx => py_field Tryz.underlying37 rfl Tryz.sizeOf33 rfl rfl) (d_val rfl (wg rfl rfl rfl) rfl rfl (fun zw hx => py_loadS Tryz.underlying33 rfl Tryz.sizeOf33 rfl rfl (At.sub (hx.heap (H3.box 0 rfl)) 9)) ?_)))
      refine d_call rfl (wg rfl rfl rfl) rfl rfl (pc_call Tryz.func83 rfl Tryz_nm83 rfl) (Tryz_spec_l5All (by assumption)) (fun hS _ _ r _ => hS.trans r.1.no) (fun v3 w4 r3 => ?_)
      obtain ⟨e4, rfl⟩ := r3
      have H5 := H4.to e4
      refine d_val rfl (wg rfl rfl rfl) rfl rfl (fun zw hx => py_sub rfl rfl (in64 ⟨by omega, by omega⟩)) ?_
      refine d_call rfl (wg rfl rfl rfl) rfl rfl (pc_call Tryz.func148 rfl Tryz_nm148 rfl) (Tryz_spec_l5Apart (H5.sees 1 rfl)) (fun hS _ _ r _ => hS.trans r.1.no) (fun v4 w5 r4 => ?_)
      obtain ⟨e5, rfl⟩ := r4
      have H6 := H5.to e5
      refine d_val rfl (wg rfl rfl rfl) rfl rfl (fun zw hx => py_not rfl) (d_val rfl (wn rfl) rfl rfl (fun zw hx => py_pickF rfl rfl) (d_val rfl (wn rfl) rfl rfl (fun zw hx => py_move rfl) ?_))
      refine d_case (t := 27) rfl (fun hg2 => ?_) (fun hg2 => ?_)
      · try simp only [decide_eq_true_eq, decide_eq_false_iff_not] at hg2
        refine d_skip rfl (wog (b := true) rfl rfl rfl) rfl rfl (d_skip rfl (wog (b := true) rfl rfl rfl) rfl rfl (d_skip rfl (wog (b := true) rfl rfl rfl) rfl rfl (d_skip rfl (wog (b := true) rfl rfl rfl) rfl rfl (d_skip rfl (wog (b := true) rfl rfl rfl) rfl rfl (d_skip rfl (wog (b := true) rfl rfl rfl) rfl rfl (d_skip rfl (wog (b := true) rfl rfl rfl) rfl rfl (d_val rfl (wn rfl) rfl rfl (fun zw hx => py_pickT rfl rfl) (d_val rfl (wn rfl) rfl rfl (fun zw hx => py_move rfl) (d_skip rfl (wog (b := true) rfl rfl rfl) rfl rfl (d_skip rfl (wog (b := true) rfl rfl rfl) rfl rfl (d_skip rfl (wog (b := true) rfl rfl rfl) rfl rfl (d_skip rfl (wou rfl rfl rfl) rfl rfl (d_skip rfl (wou rfl rfl rfl) rfl rfl (d_skip rfl (wou rfl rfl rfl) rfl rfl (d_skip rfl (wou rfl rfl rfl) rfl rfl (d_skip rfl (wog (b := true) rfl rfl rfl) rfl rfl (d_val rfl (wn rfl) rfl rfl (fun zw hx => py_pickT rfl rfl) (d_val rfl (wn rfl) rfl rfl (fun zw hx => py_move rfl) (d_skip rfl (wog (b := true) rfl rfl rfl) rfl rfl (d_skip rfl (wog (b := true) rfl rfl rfl) rfl rfl (d_skip rfl (wog (b := true) rfl rfl rfl) rfl rfl (d_skip rfl (wog (b := true) rfl rfl rfl) rfl rfl (d_end rfl (wn rfl) rfl rfl (py_pickT rfl rfl) ?_)))))))))))))))))))))))
        refine d_nil ?_
        refine W_ift rfl ?_
        refine W_seq ?_
        refine W_reg ?_
        refine s_val (wn rfl) rfl rfl (py_assign rfl) ?_
        refine s_nil ?_
        refine W_ret (hQ _ _ (fin1 Tryz.results82 rfl ?_))
        exact ⟨H6.ext, congrArg (Value.int .i64) ((if_neg (by omega)).trans (if_neg (by rw [← fine_eq]; first | (simp_all <;> omega) | (cases hh : z.On <;> simp_all <;> omega)))).symm⟩
      · try simp only [decide_eq_true_eq, decide_eq_false_iff_not] at hg2
        refine d_val rfl (wg rfl rfl rfl) rfl rfl (fun zw hx => py_field Tryz.underlying37 rfl Tryz.sizeOf25 rfl rfl) (d_val rfl (wg rfl rfl rfl) rfl rfl (fun zw hx => py_load Tryz.underlying25 rfl rfl (cell_atL (hx.heap (H3.box 0 rfl)) rfl)) (d_val rfl (wg rfl rfl rfl) rfl rfl (fun zw hx => py_len Tryz.underlying25 rfl) (d_val rfl (wg rfl rfl rfl) rfl rfl (fun zw hx => py_field Tryz.underlying37 rfl Tryz.sizeOf33 rfl rfl) (d_val rfl (wg rfl rfl rfl) rfl rfl (fun zw hx => py_field Tryz.underlying33 rfl Tryz.sizeOf2 rfl rfl) (d_val rfl (wg rfl rfl rfl) rfl rfl (fun zw hx => py_load Tryz.underlying2 rfl rfl (cell_atL (hx.heap (H3.box 0 rfl)) rfl)) (d_val rfl (wg rfl rfl rfl) rfl rfl (fun zw hx => py_gtr rfl rfl) (d_val rfl (wn rfl) rfl rfl (fun zw hx => py_pickF rfl rfl) (d_val rfl (wn rfl) rfl rfl (fun zw hx => py_move rfl) ?_))))))))
        refine d_case (t := 36) rfl (fun hg3 => ?_) (fun hg3 => ?_)
        · try simp only [decide_eq_true_eq, decide_eq_false_iff_not] at hg3
          refine d_skip rfl (wog (b := true) rfl rfl rfl) rfl rfl (d_skip rfl (wog (b := true) rfl rfl rfl) rfl rfl (d_skip rfl (wog (b := true) rfl rfl rfl) rfl rfl (d_skip rfl (wou rfl rfl rfl) rfl rfl (d_skip rfl (wou rfl rfl rfl) rfl rfl (d_skip rfl (wou rfl rfl rfl) rfl rfl (d_skip rfl (wou rfl rfl rfl) rfl rfl (d_skip rfl (wog (b := true) rfl rfl rfl) rfl rfl (d_val rfl (wn rfl) rfl rfl (fun zw hx => py_pickT rfl rfl) (d_val rfl (wn rfl) rfl rfl (fun zw hx => py_move rfl) (d_skip rfl (wog (b := true) rfl rfl rfl) rfl rfl (d_skip rfl (wog (b := true) rfl rfl rfl) rfl rfl (d_skip rfl (wog (b := true) rfl rfl rfl) rfl rfl (d_skip rfl (wog (b := true) rfl rfl rfl) rfl rfl (d_end rfl (wn rfl) rfl rfl (py_pickT rfl rfl) ?_))))))))))))))
          refine d_nil ?_
          refine W_ift rfl ?_
          refine W_seq ?_
          refine W_reg ?_
          refine s_val (wn rfl) rfl rfl (py_assign rfl) ?_
          refine s_nil ?_
          refine W_ret (hQ _ _ (fin1 Tryz.results82 rfl ?_))
          exact ⟨H6.ext, congrArg (Value.int .i64) ((if_neg (by omega)).trans (if_neg (by rw [← fine_eq]; first | (simp_all <;> omega) | (cases hh : z.On <;> simp_all <;> omega)))).symm⟩
        · try simp only [decide_eq_true_eq, decide_eq_false_iff_not] at hg3
          refine d_val rfl (wg rfl rfl rfl) rfl rfl (fun zw hx => py_field Tryz.underlying37 rfl Tryz.sizeOf4 rfl rfl) (d_val rfl (wg rfl rfl rfl) rfl rfl (fun zw hx => py_load Tryz.underlying4 rfl rfl (cell_atL (hx.heap (H3.box 0 rfl)) rfl)) (d_val rfl (wg rfl rfl rfl) rfl rfl (fun zw hx => py_move rfl) ?_))
          refine d_case (t := 39) rfl (fun hg4 => ?_) (fun hg4 => ?_)
          · try simp only [decide_eq_true_eq, decide_eq_false_iff_not] at hg4
            refine d_val rfl (wg rfl rfl rfl) rfl rfl (fun zw hx => py_field Tryz.underlying37 rfl Tryz.sizeOf25 rfl rfl) (d_val rfl (wg rfl rfl rfl) rfl rfl (fun zw hx => py_load Tryz.underlying25 rfl rfl (cell_atL (hx.heap (H3.box 0 rfl)) rfl)) (d_val rfl (wg rfl rfl rfl) rfl rfl (fun zw hx => py_len Tryz.underlying25 rfl) (d_val rfl (wg rfl rfl rfl) rfl rfl (fun zw hx => py_gtr rfl rfl) (d_val rfl (wg rfl rfl rfl) rfl rfl (fun zw hx => py_pickT rfl rfl) (d_val rfl (wn rfl) rfl rfl (fun zw hx => py_pickF rfl rfl) (d_val rfl (wn rfl) rfl rfl (fun zw hx => py_move rfl) ?_))))))
            refine d_case (t := 46) rfl (fun hg5 => ?_) (fun hg5 => ?_)
            · try simp only [decide_eq_true_eq, decide_eq_false_iff_not] at hg5
              refine d_skip rfl (wog (b := true) rfl rfl rfl) rfl rfl (d_skip rfl (wog (b := true) rfl rfl rfl) rfl rfl (d_skip rfl (wog (b := true) rfl rfl rfl) rfl rfl (d_skip rfl (wog (b := true) rfl rfl rfl) rfl rfl (d_end rfl (wn rfl) rfl rfl (py_pickT rfl rfl) ?_))))
              refine d_nil ?_
              refine W_ift rfl ?_
              refine W_seq ?_
              refine W_reg ?_
              refine s_val (wn rfl) rfl rfl (py_assign rfl) ?_
              refine s_nil ?_
              refine W_ret (hQ _ _ (fin1 Tryz.results82 rfl ?_))
              exact ⟨H6.ext, congrArg (Value.int .i64) ((if_neg (by omega)).trans (if_neg (by rw [← fine_eq]; first | (simp_all <;> omega) | (cases hh : z.On <;> simp_all <;> omega)))).symm⟩
            · try simp only [decide_eq_true_eq, decide_eq_false_iff_not] at hg5
              refine d_val rfl (wg rfl rfl rfl) rfl rfl (fun zw hx => py_field Tryz.underlying37 rfl Tryz.sizeOf35 rfl rfl) (d_val rfl (wg rfl rfl rfl) rfl rfl (fun zw hx => py_load Tryz.underlying35 rfl rfl (cell_atL (hx.heap (H3.box 0 rfl)) rfl)) (d_val rfl (wg rfl rfl rfl) rfl rfl (fun zw hx => py_len Tryz.underlying35 rfl) (d_val rfl (wg rfl rfl rfl) rfl rfl (fun zw hx => py_neq rfl rfl) (d_end rfl (wn rfl) rfl rfl (py_pickF rfl rfl) ?_))))
              refine d_nil ?_
              refine W_ifd rfl (fun c2 => ?_) (fun c2 => ?_)
              · refine W_seq ?_
                refine W_reg ?_
                refine s_val (wn rfl) rfl rfl (py_assign rfl) ?_
                refine s_nil ?_
                refine W_ret (hQ _ _ (fin1 Tryz.results82 rfl ?_))
                exact ⟨H6.ext, congrArg (Value.int .i64) ((if_neg (by omega)).trans (if_neg (by rw [← fine_eq]; first | (simp_all <;> omega) | (cases hh : z.On <;> simp_all <;> omega)))).symm⟩
              · refine W_skip ?_
                refine W_seq ?_
                refine W_seq ?_
                have hF : (groupsOK z && onOK z && decide (z.Tapes.length = 2)) = true := by rw [← fine_eq]; simp_all <;> omega
                have h2 : z.Tapes.length = 2 := by simp_all <;> omega
                obtain ⟨eb1, eo1, es1, ef1, ee1, ec1, eO1, eH1, em1⟩ := elem_st (H6.seen 2 rfl) 0 (by omega)
                obtain ⟨ea1, ek1, eg1, rfl, eq1, eK1, eo2⟩ := own_Tape eO1
                have eP1 := H6.look1 2 rfl eo2 (fun b hb => eH1 b (by rw [eq1]; simp [hb]))
                have eL1 := own_len_le eo2
                unfold maxLen at eL1
                refine W_reg ?_
                refine s_val (wn rfl) rfl rfl (py_field Tryz.underlying37 rfl Tryz.sizeOf35 rfl rfl) (s_val (wn rfl) rfl rfl (py_load Tryz.underlying35 rfl rfl (cell_atL (eP1.box 0 rfl) rfl)) (s_val (wn rfl) rfl rfl (py_elz Tryz.underlying35 Tryz.sizeOf155 rfl rfl ee1 0 (by omega) (by omega)) (s_val (wn rfl) rfl rfl (py_field Tryz.underlying155 rfl Tryz.sizeOf82 rfl rfl) (s_val (wn rfl) rfl rfl (py_load Tryz.underlying82 rfl rfl (at_cell ec1 1 rfl)) (s_val (wn rfl) rfl rfl (py_len Tryz.underlying82 rfl) (s_val (wn rfl) rfl rfl (py_gtr rfl rfl) (s_val (wn rfl) rfl rfl (py_move rfl) ?_)))))))
                refine s_case (t := 59) rfl (fun hg6 => ?_) (fun hg6 => ?_)
                · try simp only [decide_eq_true_eq, decide_eq_false_iff_not] at hg6
                  refine s_skip (wog (b := true) rfl rfl rfl) rfl rfl (s_skip (wog (b := true) rfl rfl rfl) rfl rfl (s_skip (wog (b := true) rfl rfl rfl) rfl rfl (s_skip (wog (b := true) rfl rfl rfl) rfl rfl (s_skip (wog (b := true) rfl rfl rfl) rfl rfl (s_skip (wog (b := true) rfl rfl rfl) rfl rfl (s_skip (wog (b := true) rfl rfl rfl) rfl rfl (s_val (wn rfl) rfl rfl (py_pickT rfl rfl) ?_)))))))
                  refine s_nil ?_
                  refine W_ift rfl ?_
                  refine W_seq ?_
                  have tq := tapesF_many (z := z) (any_two h2 (by simp only [manyRecs]; simp_all <;> omega))
                  refine W_reg ?_
                  refine s_val (wn rfl) rfl rfl (py_assign rfl) ?_
                  refine s_nil ?_
                  refine W_ret (hQ _ _ (fin1 Tryz.results82 rfl ?_))
                  exact ⟨eP1.ext, congrArg (Value.int .i64) ((if_neg (by omega)).trans ((if_pos hF).trans ((if_pos (by omega)).trans tq))).symm⟩
                · try simp only [decide_eq_true_eq, decide_eq_false_iff_not] at hg6
                  refine s_val (wg rfl rfl rfl) rfl rfl (py_field Tryz.underlying37 rfl Tryz.sizeOf35 rfl rfl) (s_val (wg rfl rfl rfl) rfl rfl (py_load Tryz.underlying35 rfl rfl (cell_atL (eP1.box 0 rfl) rfl)) ?_)
                  obtain ⟨eb2, eo3, es2, ef2, ee2, ec2, eO2, eH2, em2⟩ := elem_st (eP1.seen 2 rfl) 1 (by omega)
                  obtain ⟨ea2, ek2, eg2, rfl, eq2, eK2, eo4⟩ := own_Tape eO2
                  have eP2 := eP1.look1 2 rfl eo4 (fun b hb => eH2 b (by rw [eq2]; simp [hb]))
                  have eL2 := own_len_le eo4
                  unfold maxLen at eL2
                  refine s_val (wg rfl rfl rfl) rfl rfl (py_elz Tryz.underlying35 Tryz.sizeOf155 rfl rfl ee2 1 (by omega) (by omega)) (s_val (wg rfl rfl rfl) rfl rfl (py_field Tryz.underlying155 rfl Tryz.sizeOf82 rfl rfl) (s_val (wg rfl rfl rfl) rfl rfl (py_load Tryz.underlying82 rfl rfl (at_cell ec2 1 rfl)) (s_val (wg rfl rfl rfl) rfl rfl (py_len Tryz.underlying82 rfl) (s_val (wg rfl rfl rfl) rfl rfl (py_gtr rfl rfl) (s_val (wn rfl) rfl rfl (py_pickF rfl rfl) ?_)))))
                  refine s_nil ?_
                  refine W_ifd rfl (fun c3 => ?_) (fun c3 => ?_)
                  · refine W_seq ?_
                    have tq := tapesF_many (z := z) (any_two h2 (by simp only [manyRecs]; simp_all <;> omega))
                    refine W_reg ?_
                    refine s_val (wn rfl) rfl rfl (py_assign rfl) ?_
                    refine s_nil ?_
                    refine W_ret (hQ _ _ (fin1 Tryz.results82 rfl ?_))
                    exact ⟨eP2.ext, congrArg (Value.int .i64) ((if_neg (by omega)).trans ((if_pos hF).trans ((if_pos (by omega)).trans tq))).symm⟩
                  · refine W_skip ?_
                    refine W_seq ?_
                    refine W_seq ?_
                    have hM : z.Tapes.any manyRecs = false := any_neither h2 (by simp only [manyRecs]; simp_all <;> omega) (by simp only [manyRecs]; simp_all <;> omega)
                    refine W_reg ?_
                    refine s_val (wn rfl) rfl rfl (py_assign rfl) ?_
                    refine s_nil ?_
                    refine W_block ?_
                    refine W_loopS (γ := Nat) eP2 [(1, _)] ⟨rfl, trivial⟩ (fun k => [(4, .int .i64 k)]) (fun k => k ≤ z.Tapes.length ∧ tapeF z.Shape z.Tapes k = 0) (fun k => z.Tapes.length - k) 0 ⟨rfl, trivial⟩ ⟨by omega, rfl⟩ (fun k w6 H7 ⟨hk, hkz⟩ => ?_)
                    dsimp only [List.cons_append, List.nil_append]
                    refine W_seq ?_
                    refine W_seq ?_
                    refine W_reg ?_
                    refine s_val (wn rfl) rfl rfl (py_move rfl) (s_val (wn rfl) rfl rfl (py_lss rfl rfl) ?_)
                    refine s_nil ?_
                    refine W_ifd rfl (fun c4 => ?_) (fun c4 => ?_)
                    · refine W_skip ?_
                      refine W_seq ?_
                      refine W_block ?_
                      refine W_seq ?_
                      refine W_reg ?_
                      refine s_val (wn rfl) rfl rfl (py_assign rfl) ?_
                      refine s_nil ?_
                      refine W_block ?_
                      refine W_loopS (γ := Nat) H7 [(1, _), (4, _)] ⟨rfl, rfl, trivial⟩ (fun k2 => [(5, .int .i64 k2)]) (fun k2 => k2 ≤ (z.Tapes.getD k default).Recs.length ∧ recsF z.Shape (z.Tapes.getD k default).Recs k2 = 0) (fun k2 => (z.Tapes.getD k default).Recs.length - k2) 0 ⟨rfl, trivial⟩ ⟨by omega, rfl⟩ (fun k2 w7 H8 ⟨hk2, hk2z⟩ => ?_)
                      dsimp only [List.cons_append, List.nil_append]
                      refine W_seq ?_
                      refine W_seq ?_
                      obtain ⟨eb3, eo5, es3, ef3, ee3, ec3, eO3, eH3, em3⟩ := elem_st (H8.seen 2 rfl) k (by omega)
                      obtain ⟨ea3, ek3, eg3, rfl, eq3, eK3, eo6⟩ := own_Tape eO3
                      have eP3 := H8.look1 2 rfl eo6 (fun b hb => eH3 b (by rw [eq3]; simp [hb]))
                      have eL3 := own_len_le eo6
                      unfold maxLen at eL3
                      refine W_reg ?_
                      refine s_val (wn rfl) rfl rfl (py_move rfl) (s_val (wn rfl) rfl rfl (py_field Tryz.underlying37 rfl Tryz.sizeOf35 rfl rfl) (s_val (wn rfl) rfl rfl (py_load Tryz.underlying35 rfl rfl (cell_atL (eP3.box 0 rfl) rfl)) (s_val (wn rfl) rfl rfl (py_move rfl) (s_val (wn rfl) rfl rfl (py_elz Tryz.underlying35 Tryz.sizeOf155 rfl rfl ee3 k (by omega) (by omega)) (s_val (wn rfl) rfl rfl (py_field Tryz.underlying155 rfl Tryz.sizeOf82 rfl rfl) (s_val (wn rfl) rfl rfl (py_load Tryz.underlying82 rfl rfl (at_cell ec3 1 rfl)) (s_val (wn rfl) rfl rfl (py_len Tryz.underlying82 rfl) (s_val (wn rfl) rfl rfl (py_lss rfl rfl) ?_))))))))
                      refine s_nil ?_
                      refine W_ifd rfl (fun c5 => ?_) (fun c5 => ?_)
                      · refine W_skip ?_
                        refine W_seq ?_
                        refine W_block ?_
                        refine W_seq ?_
                        obtain ⟨eb4, eo7, es4, ef4, ee4, ec4, eO4, eH4, em4⟩ := elem_st (eP3.seen 2 rfl) k (by omega)
                        obtain ⟨ea4, ek4, eg4, rfl, eq4, eK4, eo8⟩ := own_Tape eO4
                        have eP4 := eP3.look1 2 rfl eo8 (fun b hb => eH4 b (by rw [eq4]; simp [hb]))
                        have eL4 := own_len_le eo8
                        unfold maxLen at eL4
                        obtain ⟨eb5, eo9, es5, ef5, ee5, ec5, eO5, eH5, em5⟩ := elem_st (eP4.seen 6 rfl) k2 (by omega)
                        obtain ⟨ea5, ek5, ea6, ek6, ea7, ek7, eg5, eg6, eg7, rfl, eq5, eK5, eo10, eo11, eo12⟩ := own_Rec eO5
                        have eK5U := eK5
                        unfold Rec.Ok at eK5U
                        try unfold I64ok at eK5U
                        try unfold maxLen at eK5U
                        have eP5 := eP4.look1 6 rfl eo10 (fun b hb => eH5 b (by rw [eq5]; simp [hb]))
                        have eL5 := own_len_le eo10
                        unfold maxLen at eL5
                        have eP6 := eP5.look1 6 rfl eo11 (fun b hb => eH5 b (by rw [eq5]; simp [hb]))
                        have eL6 := own_len_le eo11
                        unfold maxLen at eL6
                        have eP7 := eP6.look1 6 rfl eo12 (fun b hb => eH5 b (by rw [eq5]; simp [hb]))
                        have eL7 := own_len_le eo12
                        unfold maxLen at eL7
                        refine W_drw (S := Ext No _) [(0, true), (1, true), (2, true), (3, true), (4, true), (5, true), (6, true), (7, true), (8, true), (9, true), (10, true), (11, false), (12, false)] (by kernel_rfl) (by kernel_rfl) (by kernel_rfl) rfl (fun _ => Ext.refl.drawn _) (fun q2 => ?_)
                        have H9 := eP7.drawn q2
                        refine d_val rfl (wn rfl) rfl rfl (fun zw hx => py_field Tryz.underlying37 rfl Tryz.sizeOf33 rfl rfl) (d_val rfl (wn rfl) rfl rfl (fun zw hx => py_loadS Tryz.underlying33 rfl Tryz.sizeOf33 rfl rfl (At.sub (hx.heap (H9.box 0 rfl)) 9)) (d_val rfl (wn rfl) rfl rfl (fun zw hx => py_field Tryz.underlying37 rfl Tryz.sizeOf35 rfl rfl) (d_val rfl (wn rfl) rfl rfl (fun zw hx => py_load Tryz.underlying35 rfl rfl (cell_atL (hx.heap (H9.box 0 rfl)) rfl)) (d_val rfl (wn rfl) rfl rfl (fun zw hx => py_move rfl) (d_val rfl (wn rfl) rfl rfl (fun zw hx => py_elz Tryz.underlying35 Tryz.sizeOf155 rfl rfl ee4 k (by omega) (by omega)) (d_val rfl (wn rfl) rfl rfl (fun zw hx => py_field Tryz.underlying155 rfl Tryz.sizeOf82 rfl rfl) (d_val rfl (wn rfl) rfl rfl (fun zw hx => py_load Tryz.underlying82 rfl rfl (at_cell (hx.at ec4) 1 rfl)) (d_val rfl (wn rfl) rfl rfl (fun zw hx => py_move rfl) (d_val rfl (wn rfl) rfl rfl (fun zw hx => py_elz Tryz.underlying82 Tryz.sizeOf66 rfl rfl ee5 k2 (by omega) (by omega)) (d_val rfl (wn rfl) rfl rfl (fun zw hx => py_loadS Tryz.underlying66 rfl Tryz.sizeOf66 rfl rfl (hx.at ec5)) ?_))))))))))
                        refine d_call rfl (wn rfl) rfl rfl (pc_call Tryz.func108 rfl Tryz_nm108 rfl) (Tryz_spec_RecFault (by assumption) (H9.sees 7 rfl) (H9.sees 8 rfl) (H9.sees 9 rfl)) (fun hS _ _ r _ => hS.trans r.1.no) (fun v5 w8 r5 => ?_)
                        obtain ⟨e6, rfl⟩ := r5
                        have H10 := H9.to e6
                        refine d_end rfl (wn rfl) rfl rfl (py_assign rfl) ?_
                        refine d_nil ?_
                        refine W_seq ?_
                        refine W_reg ?_
                        refine s_val (wn rfl) rfl rfl (py_move rfl) (s_val (wn rfl) rfl rfl (py_neq rfl rfl) ?_)
                        refine s_nil ?_
                        refine W_ifd rfl (fun c6 => ?_) (fun c6 => ?_)
                        · refine W_seq ?_
                          refine W_reg ?_
                          refine s_val (wn rfl) rfl rfl (py_move rfl) (s_val (wn rfl) rfl rfl (py_assign rfl) ?_)
                          refine s_nil ?_
                          refine W_ret (hQ _ _ (fin1 Tryz.results82 rfl ?_))
                          have tq := tapesF_rec hM (k := k) (k2 := k2) (by omega) hkz (by omega) hk2z (by omega)
                          exact ⟨H10.ext, congrArg (Value.int .i64) ((if_neg (by omega)).trans (((if_neg (by omega)).trans ((if_pos hF).trans ((if_pos (by omega)).trans tq)))).symm)⟩
                        · refine W_skip ?_
                          refine W_reg ?_
                          refine s_val (wn rfl) rfl rfl (py_move rfl) (s_val (wn rfl) rfl rfl (py_add rfl rfl (in64 ⟨by omega, by omega⟩)) (s_val (wn rfl) rfl rfl (py_assign rfl) ?_))
                          refine s_nil ?_
                          refine ⟨k2 + 1, ⟨rfl, rfl, rfl, trivial⟩, ⟨(H10.ftake 5), by omega, (recsF_next hk2z).trans (by omega)⟩, by dsimp only; omega⟩
                      · refine W_exit ?_
                        refine W_reg ?_
                        refine s_val (wn rfl) rfl rfl (py_move rfl) (s_val (wn rfl) rfl rfl (py_add rfl rfl (in64 ⟨by omega, by omega⟩)) (s_val (wn rfl) rfl rfl (py_assign rfl) ?_))
                        refine s_nil ?_
                        obtain rfl : k2 = (z.Tapes.getD k default).Recs.length := by omega
                        refine ⟨k + 1, ⟨rfl, rfl, trivial⟩, ⟨(eP3.ftake 5), by omega, (tapeF_next hkz).trans hk2z⟩, by dsimp only; omega⟩
                    · refine W_exit ?_
                      refine W_seq ?_
                      refine W_seq ?_
                      obtain rfl : k = z.Tapes.length := by omega
                      have hAll := hkz
                      refine W_reg ?_
                      refine s_val (wn rfl) rfl rfl (py_assign rfl) ?_
                      refine s_nil ?_
                      refine W_block ?_
                      refine W_loopS (γ := Nat) H7 [(1, _)] ⟨rfl, trivial⟩ (fun k => [(7, .int .i64 k)]) (fun k => k ≤ 2 ∧ (∀ i, i < k → wipedFull (z.Tapes.getD i default) = false)) (fun k => 2 - k) 0 ⟨rfl, trivial⟩ ⟨by omega, fun i hi => by omega⟩ (fun k w9 H11 ⟨hk, hek⟩ => ?_)
                      dsimp only [List.cons_append, List.nil_append]
                      refine W_seq ?_
                      refine W_seq ?_
                      refine W_reg ?_
                      refine s_val (wn rfl) rfl rfl (py_move rfl) (s_val (wn rfl) rfl rfl (py_lss rfl rfl) ?_)
                      refine s_nil ?_
                      refine W_ifd rfl (fun c7 => ?_) (fun c7 => ?_)
                      · refine W_skip ?_
                        refine W_seq ?_
                        refine W_block ?_
                        refine W_seq ?_
                        obtain ⟨eb6, eo13, es6, ef6, ee6, ec6, eO6, eH6, em6⟩ := elem_st (H11.seen 2 rfl) k (by omega)
                        obtain ⟨ea8, ek8, eg8, rfl, eq6, eK6, eo14⟩ := own_Tape eO6
                        have eP8 := H11.look1 2 rfl eo14 (fun b hb => eH6 b (by rw [eq6]; simp [hb]))
                        have eL8 := own_len_le eo14
                        unfold maxLen at eL8
                        refine W_reg ?_
                        refine s_val (wn rfl) rfl rfl (py_field Tryz.underlying37 rfl Tryz.sizeOf35 rfl rfl) (s_val (wn rfl) rfl rfl (py_load Tryz.underlying35 rfl rfl (cell_atL (eP8.box 0 rfl) rfl)) (s_val (wn rfl) rfl rfl (py_move rfl) (s_val (wn rfl) rfl rfl (py_elz Tryz.underlying35 Tryz.sizeOf155 rfl rfl ee6 k (by omega) (by omega)) (s_val (wn rfl) rfl rfl (py_field Tryz.underlying155 rfl Tryz.sizeOf4 rfl rfl) (s_val (wn rfl) rfl rfl (py_load Tryz.underlying4 rfl rfl (at_cell ec6 0 rfl)) (s_val (wn rfl) rfl rfl (py_move rfl) ?_))))))
                        refine s_case (t := 108) rfl (fun hg7 => ?_) (fun hg7 => ?_)
                        · try simp only [decide_eq_true_eq, decide_eq_false_iff_not] at hg7
                          refine s_val (wg rfl rfl rfl) rfl rfl (py_field Tryz.underlying37 rfl Tryz.sizeOf35 rfl rfl) (s_val (wg rfl rfl rfl) rfl rfl (py_load Tryz.underlying35 rfl rfl (cell_atL (eP8.box 0 rfl) rfl)) (s_val (wg rfl rfl rfl) rfl rfl (py_move rfl) (s_val (wg rfl rfl rfl) rfl rfl (py_elz Tryz.underlying35 Tryz.sizeOf155 rfl rfl ee6 k (by omega) (by omega)) (s_val (wg rfl rfl rfl) rfl rfl (py_field Tryz.underlying155 rfl Tryz.sizeOf82 rfl rfl) (s_val (wg rfl rfl rfl) rfl rfl (py_load Tryz.underlying82 rfl rfl (at_cell ec6 1 rfl)) (s_val (wg rfl rfl rfl) rfl rfl (py_len Tryz.underlying82 rfl) (s_val (wg rfl rfl rfl) rfl rfl (py_gtr rfl rfl) (s_val (wn rfl) rfl rfl (py_pickT rfl rfl) ?_))))))))
                          refine s_nil ?_
                          refine W_ifd rfl (fun c8 => ?_) (fun c8 => ?_)
                          · refine W_seq ?_
                            refine W_reg ?_
                            refine s_val (wn rfl) rfl rfl (py_assign rfl) ?_
                            refine s_nil ?_
                            refine W_ret (hQ _ _ (fin1 Tryz.results82 rfl ?_))
                            have tq := tapesF_full hM hAll (any_at k (by omega) (by rw [wipedFull]; simp_all <;> omega))
                            exact ⟨eP8.ext, congrArg (Value.int .i64) ((if_neg (by omega)).trans ((if_pos hF).trans ((if_pos (by omega)).trans tq))).symm⟩
                          · refine W_skip ?_
                            refine W_reg ?_
                            refine s_val (wn rfl) rfl rfl (py_move rfl) (s_val (wn rfl) rfl rfl (py_add rfl rfl (in64 ⟨by omega, by omega⟩)) (s_val (wn rfl) rfl rfl (py_assign rfl) ?_))
                            refine s_nil ?_
                            refine ⟨k + 1, ⟨rfl, rfl, trivial⟩, ⟨(eP8.ftake 5), by omega, fun i hi => ?_⟩, by dsimp only; omega⟩
                            by_cases e : i = k
                            · subst e; rw [wipedFull]; simp_all <;> omega
                            · exact hek i (by omega)
                        · try simp only [decide_eq_true_eq, decide_eq_false_iff_not] at hg7
                          refine s_skip (wog (b := false) rfl rfl rfl) rfl rfl (s_skip (wog (b := false) rfl rfl rfl) rfl rfl (s_skip (wog (b := false) rfl rfl rfl) rfl rfl (s_skip (wog (b := false) rfl rfl rfl) rfl rfl (s_skip (wog (b := false) rfl rfl rfl) rfl rfl (s_skip (wog (b := false) rfl rfl rfl) rfl rfl (s_skip (wog (b := false) rfl rfl rfl) rfl rfl (s_skip (wog (b := false) rfl rfl rfl) rfl rfl (s_val (wn rfl) rfl rfl (py_pickF rfl rfl) ?_))))))))
                          refine s_nil ?_
                          refine W_iff rfl ?_
                          refine W_skip ?_
                          refine W_reg ?_
                          refine s_val (wn rfl) rfl rfl (py_move rfl) (s_val (wn rfl) rfl rfl (py_add rfl rfl (in64 ⟨by omega, by omega⟩)) (s_val (wn rfl) rfl rfl (py_assign rfl) ?_))
                          refine s_nil ?_
                          refine ⟨k + 1, ⟨rfl, rfl, trivial⟩, ⟨(eP8.ftake 5), by omega, fun i hi => ?_⟩, by dsimp only; omega⟩
                          by_cases e : i = k
                          · subst e; rw [wipedFull]; simp_all <;> omega
                          · exact hek i (by omega)
                      · refine W_exit ?_
                        refine W_seq ?_
                        refine W_seq ?_
                        have tq := tapesF_ok hM hAll (any_none (fun i hi => hek i (by omega)))
                        refine W_reg ?_
                        refine s_val (wn rfl) rfl rfl (py_field Tryz.underlying37 rfl Tryz.sizeOf2 rfl rfl) (s_val (wn rfl) rfl rfl (py_load Tryz.underlying2 rfl rfl (cell_atL (H11.box 0 rfl) rfl)) ?_)
                        refine s_call (wn rfl) rfl rfl (pc_call Tryz.func149 rfl Tryz_nm149 rfl) Tryz_spec_l1In (fun v6 w10 r6 => ?_)
                        obtain ⟨e7, rfl⟩ := r6
                        have H12 := H11.to e7
                        refine s_val (wn rfl) rfl rfl (py_not rfl) (s_val (wn rfl) rfl rfl (py_move rfl) ?_)
                        refine s_case (t := 122) rfl (fun hg8 => ?_) (fun hg8 => ?_)
                        · try simp only [decide_eq_true_eq, decide_eq_false_iff_not] at hg8
                          refine s_skip (wog (b := true) rfl rfl rfl) rfl rfl (s_skip (wog (b := true) rfl rfl rfl) rfl rfl (s_skip (wog (b := true) rfl rfl rfl) rfl rfl (s_skip (wog (b := true) rfl rfl rfl) rfl rfl (s_val (wn rfl) rfl rfl (py_pickT rfl rfl) ?_))))
                          refine s_nil ?_
                          refine W_ift rfl ?_
                          refine W_seq ?_
                          refine W_reg ?_
                          refine s_val (wn rfl) rfl rfl (py_assign rfl) ?_
                          refine s_nil ?_
                          refine W_ret (hQ _ _ (fin1 Tryz.results82 rfl ?_))
                          exact ⟨H12.ext, congrArg (Value.int .i64) ((if_neg (by omega)).trans ((if_pos hF).trans ((if_neg (by omega)).trans (if_neg (by simp_all <;> omega))))).symm⟩
                        · try simp only [decide_eq_true_eq, decide_eq_false_iff_not] at hg8
                          refine s_val (wg rfl rfl rfl) rfl rfl (py_field Tryz.underlying37 rfl Tryz.sizeOf2 rfl rfl) (s_val (wg rfl rfl rfl) rfl rfl (py_load Tryz.underlying2 rfl rfl (cell_atL (H12.box 0 rfl) rfl)) ?_)
                          refine s_call (wg rfl rfl rfl) rfl rfl (pc_call Tryz.func149 rfl Tryz_nm149 rfl) Tryz_spec_l1In (fun v7 w11 r7 => ?_)
                          obtain ⟨e8, rfl⟩ := r7
                          have H13 := H12.to e8
                          refine s_val (wg rfl rfl rfl) rfl rfl (py_not rfl) (s_val (wn rfl) rfl rfl (py_pickF rfl rfl) ?_)
                          refine s_nil ?_
                          refine W_if rfl (fun c9 => ?_) (fun c9 => ?_)
                          · refine W_seq ?_
                            refine W_reg ?_
                            refine s_val (wn rfl) rfl rfl (py_assign rfl) ?_
                            refine s_nil ?_
                            refine W_ret (hQ _ _ (fin1 Tryz.results82 rfl ?_))
                            exact ⟨H13.ext, congrArg (Value.int .i64) ((if_neg (by omega)).trans ((if_pos hF).trans ((if_neg (by omega)).trans (if_neg (by simp_all <;> omega))))).symm⟩
                          · refine W_skip ?_
                            refine W_seq ?_
                            refine W_reg ?_
                            refine s_val (wn rfl) rfl rfl (py_assign rfl) ?_
                            refine s_nil ?_
                            refine W_ret (hQ _ _ (fin1 Tryz.results82 rfl ?_))
                            exact ⟨H13.ext, congrArg (Value.int .i64) ((if_neg (by omega)).trans ((if_pos hF).trans ((if_neg (by omega)).trans (if_pos (by simp_all <;> omega))))).symm⟩
          · try simp only [decide_eq_true_eq, decide_eq_false_iff_not] at hg4
            refine d_skip rfl (wog (b := false) rfl rfl rfl) rfl rfl (d_skip rfl (wog (b := false) rfl rfl rfl) rfl rfl (d_skip rfl (wog (b := false) rfl rfl rfl) rfl rfl (d_skip rfl (wog (b := false) rfl rfl rfl) rfl rfl (d_val rfl (wg rfl rfl rfl) rfl rfl (fun zw hx => py_pickF rfl rfl) (d_val rfl (wn rfl) rfl rfl (fun zw hx => py_pickF rfl rfl) (d_val rfl (wn rfl) rfl rfl (fun zw hx => py_move rfl) (d_val rfl (wg rfl rfl rfl) rfl rfl (fun zw hx => py_field Tryz.underlying37 rfl Tryz.sizeOf35 rfl rfl) (d_val rfl (wg rfl rfl rfl) rfl rfl (fun zw hx => py_load Tryz.underlying35 rfl rfl (cell_atL (hx.heap (H3.box 0 rfl)) rfl)) (d_val rfl (wg rfl rfl rfl) rfl rfl (fun zw hx => py_len Tryz.underlying35 rfl) (d_val rfl (wg rfl rfl rfl) rfl rfl (fun zw hx => py_neq rfl rfl) (d_end rfl (wn rfl) rfl rfl (py_pickF rfl rfl) ?_)))))))))))
            refine d_nil ?_
            refine W_ifd rfl (fun c10 => ?_) (fun c10 => ?_)
            · refine W_seq ?_
              refine W_reg ?_
              refine s_val (wn rfl) rfl rfl (py_assign rfl) ?_
              refine s_nil ?_
              refine W_ret (hQ _ _ (fin1 Tryz.results82 rfl ?_))
              exact ⟨H6.ext, congrArg (Value.int .i64) ((if_neg (by omega)).trans (if_neg (by rw [← fine_eq]; first | (simp_all <;> omega) | (cases hh : z.On <;> simp_all <;> omega)))).symm⟩
            · refine W_skip ?_
              refine W_seq ?_
              refine W_seq ?_
              have hF : (groupsOK z && onOK z && decide (z.Tapes.length = 2)) = true := by rw [← fine_eq]; simp_all <;> omega
              have h2 : z.Tapes.length = 2 := by simp_all <;> omega
              obtain ⟨eb7, eo15, es7, ef7, ee7, ec7, eO7, eH7, em7⟩ := elem_st (H6.seen 2 rfl) 0 (by omega)
              obtain ⟨ea9, ek9, eg9, rfl, eq7, eK7, eo16⟩ := own_Tape eO7
              have eP9 := H6.look1 2 rfl eo16 (fun b hb => eH7 b (by rw [eq7]; simp [hb]))
              have eL9 := own_len_le eo16
              unfold maxLen at eL9
              refine W_reg ?_
              refine s_val (wn rfl) rfl rfl (py_field Tryz.underlying37 rfl Tryz.sizeOf35 rfl rfl) (s_val (wn rfl) rfl rfl (py_load Tryz.underlying35 rfl rfl (cell_atL (eP9.box 0 rfl) rfl)) (s_val (wn rfl) rfl rfl (py_elz Tryz.underlying35 Tryz.sizeOf155 rfl rfl ee7 0 (by omega) (by omega)) (s_val (wn rfl) rfl rfl (py_field Tryz.underlying155 rfl Tryz.sizeOf82 rfl rfl) (s_val (wn rfl) rfl rfl (py_load Tryz.underlying82 rfl rfl (at_cell ec7 1 rfl)) (s_val (wn rfl) rfl rfl (py_len Tryz.underlying82 rfl) (s_val (wn rfl) rfl rfl (py_gtr rfl rfl) (s_val (wn rfl) rfl rfl (py_move rfl) ?_)))))))
              refine s_case (t := 59) rfl (fun hg9 => ?_) (fun hg9 => ?_)
              · try simp only [decide_eq_true_eq, decide_eq_false_iff_not] at hg9
                refine s_skip (wog (b := true) rfl rfl rfl) rfl rfl (s_skip (wog (b := true) rfl rfl rfl) rfl rfl (s_skip (wog (b := true) rfl rfl rfl) rfl rfl (s_skip (wog (b := true) rfl rfl rfl) rfl rfl (s_skip (wog (b := true) rfl rfl rfl) rfl rfl (s_skip (wog (b := true) rfl rfl rfl) rfl rfl (s_skip (wog (b := true) rfl rfl rfl) rfl rfl (s_val (wn rfl) rfl rfl (py_pickT rfl rfl) ?_)))))))
                refine s_nil ?_
                refine W_ift rfl ?_
                refine W_seq ?_
                have tq := tapesF_many (z := z) (any_two h2 (by simp only [manyRecs]; simp_all <;> omega))
                refine W_reg ?_
                refine s_val (wn rfl) rfl rfl (py_assign rfl) ?_
                refine s_nil ?_
                refine W_ret (hQ _ _ (fin1 Tryz.results82 rfl ?_))
                exact ⟨eP9.ext, congrArg (Value.int .i64) ((if_neg (by omega)).trans ((if_pos hF).trans ((if_pos (by omega)).trans tq))).symm⟩
              · try simp only [decide_eq_true_eq, decide_eq_false_iff_not] at hg9
                refine s_val (wg rfl rfl rfl) rfl rfl (py_field Tryz.underlying37 rfl Tryz.sizeOf35 rfl rfl) (s_val (wg rfl rfl rfl) rfl rfl (py_load Tryz.underlying35 rfl rfl (cell_atL (eP9.box 0 rfl) rfl)) ?_)
                obtain ⟨eb8, eo17, es8, ef8, ee8, ec8, eO8, eH8, em8⟩ := elem_st (eP9.seen 2 rfl) 1 (by omega)
                obtain ⟨ea10, ek10, eg10, rfl, eq8, eK8, eo18⟩ := own_Tape eO8
                have eP10 := eP9.look1 2 rfl eo18 (fun b hb => eH8 b (by rw [eq8]; simp [hb]))
                have eL10 := own_len_le eo18
                unfold maxLen at eL10
                refine s_val (wg rfl rfl rfl) rfl rfl (py_elz Tryz.underlying35 Tryz.sizeOf155 rfl rfl ee8 1 (by omega) (by omega)) (s_val (wg rfl rfl rfl) rfl rfl (py_field Tryz.underlying155 rfl Tryz.sizeOf82 rfl rfl) (s_val (wg rfl rfl rfl) rfl rfl (py_load Tryz.underlying82 rfl rfl (at_cell ec8 1 rfl)) (s_val (wg rfl rfl rfl) rfl rfl (py_len Tryz.underlying82 rfl) (s_val (wg rfl rfl rfl) rfl rfl (py_gtr rfl rfl) (s_val (wn rfl) rfl rfl (py_pickF rfl rfl) ?_)))))
                refine s_nil ?_
                refine W_ifd rfl (fun c11 => ?_) (fun c11 => ?_)
                · refine W_seq ?_
                  have tq := tapesF_many (z := z) (any_two h2 (by simp only [manyRecs]; simp_all <;> omega))
                  refine W_reg ?_
                  refine s_val (wn rfl) rfl rfl (py_assign rfl) ?_
                  refine s_nil ?_
                  refine W_ret (hQ _ _ (fin1 Tryz.results82 rfl ?_))
                  exact ⟨eP10.ext, congrArg (Value.int .i64) ((if_neg (by omega)).trans ((if_pos hF).trans ((if_pos (by omega)).trans tq))).symm⟩
                · refine W_skip ?_
                  refine W_seq ?_
                  refine W_seq ?_
                  have hM : z.Tapes.any manyRecs = false := any_neither h2 (by simp only [manyRecs]; simp_all <;> omega) (by simp only [manyRecs]; simp_all <;> omega)
                  refine W_reg ?_
                  refine s_val (wn rfl) rfl rfl (py_assign rfl) ?_
                  refine s_nil ?_
                  refine W_block ?_
                  refine W_loopS (γ := Nat) eP10 [(1, _)] ⟨rfl, trivial⟩ (fun k => [(4, .int .i64 k)]) (fun k => k ≤ z.Tapes.length ∧ tapeF z.Shape z.Tapes k = 0) (fun k => z.Tapes.length - k) 0 ⟨rfl, trivial⟩ ⟨by omega, rfl⟩ (fun k w12 H14 ⟨hk, hkz⟩ => ?_)
                  dsimp only [List.cons_append, List.nil_append]
                  refine W_seq ?_
                  refine W_seq ?_
                  refine W_reg ?_
                  refine s_val (wn rfl) rfl rfl (py_move rfl) (s_val (wn rfl) rfl rfl (py_lss rfl rfl) ?_)
                  refine s_nil ?_
                  refine W_ifd rfl (fun c12 => ?_) (fun c12 => ?_)
                  · refine W_skip ?_
                    refine W_seq ?_
                    refine W_block ?_
                    refine W_seq ?_
                    refine W_reg ?_
                    refine s_val (wn rfl) rfl rfl (py_assign rfl) ?_
                    refine s_nil ?_
                    refine W_block ?_
                    refine W_loopS (γ := Nat) H14 [(1, _), (4, _)] ⟨rfl, rfl, trivial⟩ (fun k2 => [(5, .int .i64 k2)]) (fun k2 => k2 ≤ (z.Tapes.getD k default).Recs.length ∧ recsF z.Shape (z.Tapes.getD k default).Recs k2 = 0) (fun k2 => (z.Tapes.getD k default).Recs.length - k2) 0 ⟨rfl, trivial⟩ ⟨by omega, rfl⟩ (fun k2 w13 H15 ⟨hk2, hk2z⟩ => ?_)
                    dsimp only [List.cons_append, List.nil_append]
                    refine W_seq ?_
                    refine W_seq ?_
                    obtain ⟨eb9, eo19, es9, ef9, ee9, ec9, eO9, eH9, em9⟩ := elem_st (H15.seen 2 rfl) k (by omega)
                    obtain ⟨ea11, ek11, eg11, rfl, eq9, eK9, eo20⟩ := own_Tape eO9
                    have eP11 := H15.look1 2 rfl eo20 (fun b hb => eH9 b (by rw [eq9]; simp [hb]))
                    have eL11 := own_len_le eo20
                    unfold maxLen at eL11
                    refine W_reg ?_
                    refine s_val (wn rfl) rfl rfl (py_move rfl) (s_val (wn rfl) rfl rfl (py_field Tryz.underlying37 rfl Tryz.sizeOf35 rfl rfl) (s_val (wn rfl) rfl rfl (py_load Tryz.underlying35 rfl rfl (cell_atL (eP11.box 0 rfl) rfl)) (s_val (wn rfl) rfl rfl (py_move rfl) (s_val (wn rfl) rfl rfl (py_elz Tryz.underlying35 Tryz.sizeOf155 rfl rfl ee9 k (by omega) (by omega)) (s_val (wn rfl) rfl rfl (py_field Tryz.underlying155 rfl Tryz.sizeOf82 rfl rfl) (s_val (wn rfl) rfl rfl (py_load Tryz.underlying82 rfl rfl (at_cell ec9 1 rfl)) (s_val (wn rfl) rfl rfl (py_len Tryz.underlying82 rfl) (s_val (wn rfl) rfl rfl (py_lss rfl rfl) ?_))))))))
                    refine s_nil ?_
                    refine W_ifd rfl (fun c13 => ?_) (fun c13 => ?_)
                    · refine W_skip ?_
                      refine W_seq ?_
                      refine W_block ?_
                      refine W_seq ?_
                      obtain ⟨eb10, eo21, es10, ef10, ee10, ec10, eO10, eH10, em10⟩ := elem_st (eP11.seen 2 rfl) k (by omega)
                      obtain ⟨ea12, ek12, eg12, rfl, eq10, eK10, eo22⟩ := own_Tape eO10
                      have eP12 := eP11.look1 2 rfl eo22 (fun b hb => eH10 b (by rw [eq10]; simp [hb]))
                      have eL12 := own_len_le eo22
                      unfold maxLen at eL12
                      obtain ⟨eb11, eo23, es11, ef11, ee11, ec11, eO11, eH11, em11⟩ := elem_st (eP12.seen 6 rfl) k2 (by omega)
                      obtain ⟨ea13, ek13, ea14, ek14, ea15, ek15, eg13, eg14, eg15, rfl, eq11, eK11, eo24, eo25, eo26⟩ := own_Rec eO11
                      have eK11U := eK11
                      unfold Rec.Ok at eK11U
                      try unfold I64ok at eK11U
                      try unfold maxLen at eK11U
                      have eP13 := eP12.look1 6 rfl eo24 (fun b hb => eH11 b (by rw [eq11]; simp [hb]))
                      have eL13 := own_len_le eo24
                      unfold maxLen at eL13
                      have eP14 := eP13.look1 6 rfl eo25 (fun b hb => eH11 b (by rw [eq11]; simp [hb]))
                      have eL14 := own_len_le eo25
                      unfold maxLen at eL14
                      have eP15 := eP14.look1 6 rfl eo26 (fun b hb => eH11 b (by rw [eq11]; simp [hb]))
                      have eL15 := own_len_le eo26
                      unfold maxLen at eL15
                      refine W_drw (S := Ext No _) [(0, true), (1, true), (2, true), (3, true), (4, true), (5, true), (6, true), (7, true), (8, true), (9, true), (10, true), (11, false), (12, false)] (by kernel_rfl) (by kernel_rfl) (by kernel_rfl) rfl (fun _ => Ext.refl.drawn _) (fun q3 => ?_)
                      have H16 := eP15.drawn q3
                      refine d_val rfl (wn rfl) rfl rfl (fun zw hx => py_field Tryz.underlying37 rfl Tryz.sizeOf33 rfl rfl) (d_val rfl (wn rfl) rfl rfl (fun zw hx => py_loadS Tryz.underlying33 rfl Tryz.sizeOf33 rfl rfl (At.sub (hx.heap (H16.box 0 rfl)) 9)) (d_val rfl (wn rfl) rfl rfl (fun zw hx => py_field Tryz.underlying37 rfl Tryz.sizeOf35 rfl rfl) (d_val rfl (wn rfl) rfl rfl (fun zw hx => py_load Tryz.underlying35 rfl rfl (cell_atL (hx.heap (H16.box 0 rfl)) rfl)) (d_val rfl (wn rfl) rfl rfl (fun zw hx => py_move rfl) (d_val rfl (wn rfl) rfl rfl (fun zw hx => py_elz Tryz.underlying35 Tryz.sizeOf155 rfl rfl ee10 k (by omega) (by omega)) (d_val rfl (wn rfl) rfl rfl (fun zw hx => py_field Tryz.underlying155 rfl Tryz.sizeOf82 rfl rfl) (d_val rfl (wn rfl) rfl rfl (fun zw hx => py_load Tryz.underlying82 rfl rfl (at_cell (hx.at ec10) 1 rfl)) (d_val rfl (wn rfl) rfl rfl (fun zw hx => py_move rfl) (d_val rfl (wn rfl) rfl rfl (fun zw hx => py_elz Tryz.underlying82 Tryz.sizeOf66 rfl rfl ee11 k2 (by omega) (by omega)) (d_val rfl (wn rfl) rfl rfl (fun zw hx => py_loadS Tryz.underlying66 rfl Tryz.sizeOf66 rfl rfl (hx.at ec11)) ?_))))))))))
                      refine d_call rfl (wn rfl) rfl rfl (pc_call Tryz.func108 rfl Tryz_nm108 rfl) (Tryz_spec_RecFault (by assumption) (H16.sees 7 rfl) (H16.sees 8 rfl) (H16.sees 9 rfl)) (fun hS _ _ r _ => hS.trans r.1.no) (fun v8 w14 r8 => ?_)
                      obtain ⟨e9, rfl⟩ := r8
                      have H17 := H16.to e9
                      refine d_end rfl (wn rfl) rfl rfl (py_assign rfl) ?_
                      refine d_nil ?_
                      refine W_seq ?_
                      refine W_reg ?_
                      refine s_val (wn rfl) rfl rfl (py_move rfl) (s_val (wn rfl) rfl rfl (py_neq rfl rfl) ?_)
                      refine s_nil ?_
                      refine W_ifd rfl (fun c14 => ?_) (fun c14 => ?_)
                      · refine W_seq ?_
                        refine W_reg ?_
                        refine s_val (wn rfl) rfl rfl (py_move rfl) (s_val (wn rfl) rfl rfl (py_assign rfl) ?_)
                        refine s_nil ?_
                        refine W_ret (hQ _ _ (fin1 Tryz.results82 rfl ?_))
                        have tq := tapesF_rec hM (k := k) (k2 := k2) (by omega) hkz (by omega) hk2z (by omega)
                        exact ⟨H17.ext, congrArg (Value.int .i64) ((if_neg (by omega)).trans (((if_neg (by omega)).trans ((if_pos hF).trans ((if_pos (by omega)).trans tq)))).symm)⟩
                      · refine W_skip ?_
                        refine W_reg ?_
                        refine s_val (wn rfl) rfl rfl (py_move rfl) (s_val (wn rfl) rfl rfl (py_add rfl rfl (in64 ⟨by omega, by omega⟩)) (s_val (wn rfl) rfl rfl (py_assign rfl) ?_))
                        refine s_nil ?_
                        refine ⟨k2 + 1, ⟨rfl, rfl, rfl, trivial⟩, ⟨(H17.ftake 5), by omega, (recsF_next hk2z).trans (by omega)⟩, by dsimp only; omega⟩
                    · refine W_exit ?_
                      refine W_reg ?_
                      refine s_val (wn rfl) rfl rfl (py_move rfl) (s_val (wn rfl) rfl rfl (py_add rfl rfl (in64 ⟨by omega, by omega⟩)) (s_val (wn rfl) rfl rfl (py_assign rfl) ?_))
                      refine s_nil ?_
                      obtain rfl : k2 = (z.Tapes.getD k default).Recs.length := by omega
                      refine ⟨k + 1, ⟨rfl, rfl, trivial⟩, ⟨(eP11.ftake 5), by omega, (tapeF_next hkz).trans hk2z⟩, by dsimp only; omega⟩
                  · refine W_exit ?_
                    refine W_seq ?_
                    refine W_seq ?_
                    obtain rfl : k = z.Tapes.length := by omega
                    have hAll := hkz
                    refine W_reg ?_
                    refine s_val (wn rfl) rfl rfl (py_assign rfl) ?_
                    refine s_nil ?_
                    refine W_block ?_
                    refine W_loopS (γ := Nat) H14 [(1, _)] ⟨rfl, trivial⟩ (fun k => [(7, .int .i64 k)]) (fun k => k ≤ 2 ∧ (∀ i, i < k → wipedFull (z.Tapes.getD i default) = false)) (fun k => 2 - k) 0 ⟨rfl, trivial⟩ ⟨by omega, fun i hi => by omega⟩ (fun k w15 H18 ⟨hk, hek⟩ => ?_)
                    dsimp only [List.cons_append, List.nil_append]
                    refine W_seq ?_
                    refine W_seq ?_
                    refine W_reg ?_
                    refine s_val (wn rfl) rfl rfl (py_move rfl) (s_val (wn rfl) rfl rfl (py_lss rfl rfl) ?_)
                    refine s_nil ?_
                    refine W_ifd rfl (fun c15 => ?_) (fun c15 => ?_)
                    · refine W_skip ?_
                      refine W_seq ?_
                      refine W_block ?_
                      refine W_seq ?_
                      obtain ⟨eb12, eo27, es12, ef12, ee12, ec12, eO12, eH12, em12⟩ := elem_st (H18.seen 2 rfl) k (by omega)
                      obtain ⟨ea16, ek16, eg16, rfl, eq12, eK12, eo28⟩ := own_Tape eO12
                      have eP16 := H18.look1 2 rfl eo28 (fun b hb => eH12 b (by rw [eq12]; simp [hb]))
                      have eL16 := own_len_le eo28
                      unfold maxLen at eL16
                      refine W_reg ?_
                      refine s_val (wn rfl) rfl rfl (py_field Tryz.underlying37 rfl Tryz.sizeOf35 rfl rfl) (s_val (wn rfl) rfl rfl (py_load Tryz.underlying35 rfl rfl (cell_atL (eP16.box 0 rfl) rfl)) (s_val (wn rfl) rfl rfl (py_move rfl) (s_val (wn rfl) rfl rfl (py_elz Tryz.underlying35 Tryz.sizeOf155 rfl rfl ee12 k (by omega) (by omega)) (s_val (wn rfl) rfl rfl (py_field Tryz.underlying155 rfl Tryz.sizeOf4 rfl rfl) (s_val (wn rfl) rfl rfl (py_load Tryz.underlying4 rfl rfl (at_cell ec12 0 rfl)) (s_val (wn rfl) rfl rfl (py_move rfl) ?_))))))
                      refine s_case (t := 108) rfl (fun hg10 => ?_) (fun hg10 => ?_)
                      · try simp only [decide_eq_true_eq, decide_eq_false_iff_not] at hg10
                        refine s_val (wg rfl rfl rfl) rfl rfl (py_field Tryz.underlying37 rfl Tryz.sizeOf35 rfl rfl) (s_val (wg rfl rfl rfl) rfl rfl (py_load Tryz.underlying35 rfl rfl (cell_atL (eP16.box 0 rfl) rfl)) (s_val (wg rfl rfl rfl) rfl rfl (py_move rfl) (s_val (wg rfl rfl rfl) rfl rfl (py_elz Tryz.underlying35 Tryz.sizeOf155 rfl rfl ee12 k (by omega) (by omega)) (s_val (wg rfl rfl rfl) rfl rfl (py_field Tryz.underlying155 rfl Tryz.sizeOf82 rfl rfl) (s_val (wg rfl rfl rfl) rfl rfl (py_load Tryz.underlying82 rfl rfl (at_cell ec12 1 rfl)) (s_val (wg rfl rfl rfl) rfl rfl (py_len Tryz.underlying82 rfl) (s_val (wg rfl rfl rfl) rfl rfl (py_gtr rfl rfl) (s_val (wn rfl) rfl rfl (py_pickT rfl rfl) ?_))))))))
                        refine s_nil ?_
                        refine W_ifd rfl (fun c16 => ?_) (fun c16 => ?_)
                        · refine W_seq ?_
                          refine W_reg ?_
                          refine s_val (wn rfl) rfl rfl (py_assign rfl) ?_
                          refine s_nil ?_
                          refine W_ret (hQ _ _ (fin1 Tryz.results82 rfl ?_))
                          have tq := tapesF_full hM hAll (any_at k (by omega) (by rw [wipedFull]; simp_all <;> omega))
                          exact ⟨eP16.ext, congrArg (Value.int .i64) ((if_neg (by omega)).trans ((if_pos hF).trans ((if_pos (by omega)).trans tq))).symm⟩
                        · refine W_skip ?_
                          refine W_reg ?_
                          refine s_val (wn rfl) rfl rfl (py_move rfl) (s_val (wn rfl) rfl rfl (py_add rfl rfl (in64 ⟨by omega, by omega⟩)) (s_val (wn rfl) rfl rfl (py_assign rfl) ?_))
                          refine s_nil ?_
                          refine ⟨k + 1, ⟨rfl, rfl, trivial⟩, ⟨(eP16.ftake 5), by omega, fun i hi => ?_⟩, by dsimp only; omega⟩
                          by_cases e : i = k
                          · subst e; rw [wipedFull]; simp_all <;> omega
                          · exact hek i (by omega)
                      · try simp only [decide_eq_true_eq, decide_eq_false_iff_not] at hg10
                        refine s_skip (wog (b := false) rfl rfl rfl) rfl rfl (s_skip (wog (b := false) rfl rfl rfl) rfl rfl (s_skip (wog (b := false) rfl rfl rfl) rfl rfl (s_skip (wog (b := false) rfl rfl rfl) rfl rfl (s_skip (wog (b := false) rfl rfl rfl) rfl rfl (s_skip (wog (b := false) rfl rfl rfl) rfl rfl (s_skip (wog (b := false) rfl rfl rfl) rfl rfl (s_skip (wog (b := false) rfl rfl rfl) rfl rfl (s_val (wn rfl) rfl rfl (py_pickF rfl rfl) ?_))))))))
                        refine s_nil ?_
                        refine W_iff rfl ?_
                        refine W_skip ?_
                        refine W_reg ?_
                        refine s_val (wn rfl) rfl rfl (py_move rfl) (s_val (wn rfl) rfl rfl (py_add rfl rfl (in64 ⟨by omega, by omega⟩)) (s_val (wn rfl) rfl rfl (py_assign rfl) ?_))
                        refine s_nil ?_
                        refine ⟨k + 1, ⟨rfl, rfl, trivial⟩, ⟨(eP16.ftake 5), by omega, fun i hi => ?_⟩, by dsimp only; omega⟩
                        by_cases e : i = k
                        · subst e; rw [wipedFull]; simp_all <;> omega
                        · exact hek i (by omega)
                    · refine W_exit ?_
                      refine W_seq ?_
                      refine W_seq ?_
                      have tq := tapesF_ok hM hAll (any_none (fun i hi => hek i (by omega)))
                      refine W_reg ?_
                      refine s_val (wn rfl) rfl rfl (py_field Tryz.underlying37 rfl Tryz.sizeOf2 rfl rfl) (s_val (wn rfl) rfl rfl (py_load Tryz.underlying2 rfl rfl (cell_atL (H18.box 0 rfl) rfl)) ?_)
                      refine s_call (wn rfl) rfl rfl (pc_call Tryz.func149 rfl Tryz_nm149 rfl) Tryz_spec_l1In (fun v9 w16 r9 => ?_)
                      obtain ⟨e10, rfl⟩ := r9
                      have H19 := H18.to e10
                      refine s_val (wn rfl) rfl rfl (py_not rfl) (s_val (wn rfl) rfl rfl (py_move rfl) ?_)
                      refine s_case (t := 122) rfl (fun hg11 => ?_) (fun hg11 => ?_)
                      · try simp only [decide_eq_true_eq, decide_eq_false_iff_not] at hg11
                        refine s_skip (wog (b := true) rfl rfl rfl) rfl rfl (s_skip (wog (b := true) rfl rfl rfl) rfl rfl (s_skip (wog (b := true) rfl rfl rfl) rfl rfl (s_skip (wog (b := true) rfl rfl rfl) rfl rfl (s_val (wn rfl) rfl rfl (py_pickT rfl rfl) ?_))))
                        refine s_nil ?_
                        refine W_ift rfl ?_
                        refine W_seq ?_
                        refine W_reg ?_
                        refine s_val (wn rfl) rfl rfl (py_assign rfl) ?_
                        refine s_nil ?_
                        refine W_ret (hQ _ _ (fin1 Tryz.results82 rfl ?_))
                        exact ⟨H19.ext, congrArg (Value.int .i64) ((if_neg (by omega)).trans ((if_pos hF).trans ((if_neg (by omega)).trans (if_neg (by simp_all <;> omega))))).symm⟩
                      · try simp only [decide_eq_true_eq, decide_eq_false_iff_not] at hg11
                        refine s_val (wg rfl rfl rfl) rfl rfl (py_field Tryz.underlying37 rfl Tryz.sizeOf2 rfl rfl) (s_val (wg rfl rfl rfl) rfl rfl (py_load Tryz.underlying2 rfl rfl (cell_atL (H19.box 0 rfl) rfl)) ?_)
                        refine s_call (wg rfl rfl rfl) rfl rfl (pc_call Tryz.func149 rfl Tryz_nm149 rfl) Tryz_spec_l1In (fun v10 w17 r10 => ?_)
                        obtain ⟨e11, rfl⟩ := r10
                        have H20 := H19.to e11
                        refine s_val (wg rfl rfl rfl) rfl rfl (py_not rfl) (s_val (wn rfl) rfl rfl (py_pickF rfl rfl) ?_)
                        refine s_nil ?_
                        refine W_if rfl (fun c17 => ?_) (fun c17 => ?_)
                        · refine W_seq ?_
                          refine W_reg ?_
                          refine s_val (wn rfl) rfl rfl (py_assign rfl) ?_
                          refine s_nil ?_
                          refine W_ret (hQ _ _ (fin1 Tryz.results82 rfl ?_))
                          exact ⟨H20.ext, congrArg (Value.int .i64) ((if_neg (by omega)).trans ((if_pos hF).trans ((if_neg (by omega)).trans (if_neg (by simp_all <;> omega))))).symm⟩
                        · refine W_skip ?_
                          refine W_seq ?_
                          refine W_reg ?_
                          refine s_val (wn rfl) rfl rfl (py_assign rfl) ?_
                          refine s_nil ?_
                          refine W_ret (hQ _ _ (fin1 Tryz.results82 rfl ?_))
                          exact ⟨H20.ext, congrArg (Value.int .i64) ((if_neg (by omega)).trans ((if_pos hF).trans ((if_neg (by omega)).trans (if_pos (by simp_all <;> omega))))).symm⟩
theorem Tryz_spec_l5Asked {w : World} {z : Wld} {zA9 : Option Addr} {zC9 : Nat} {zA10 : Option Addr} {zC10 : Nat} {zA11 : Option Addr} {zC11 : Nat} (zK : z.Ok) (zS9 : Sees w [.slice zA9 z.Groups.length zC9] z.Groups) (zS10 : Sees w [.slice zA10 z.On.length zC10] z.On) (zS11 : Sees w [.slice zA11 z.Tapes.length zC11] z.Tapes) : Ret Tryz.prog 99 #[z.val zA9 zC9 zA10 zC10 zA11 zC11] w fun v w' => Ext No w w' ∧ (v = .int .i64 (upF z)) := by
  have zK2 := zK
  unfold Wld.Ok Shape.Ok at zK2
  try unfold I64ok at zK2
  try unfold maxLen at zK2
  have zL9 := sees_len zS9
  unfold maxLen at zL9
  obtain ⟨zF9, zO9⟩ := zS9
  have zL10 := sees_len zS10
  unfold maxLen at zL10
  obtain ⟨zF10, zO10⟩ := zS10
  have zL11 := sees_len zS11
  unfold maxLen at zL11
  obtain ⟨zF11, zO11⟩ := zS11
  refine ret_Q (vs := [z.val zA9 zC9 zA10 zC10 zA11 zC11]) Tryz.func99 rfl Tryz.ntmps99 rfl (fun Q hQ hN => ?_)
  have H0 := Sep.start (w := w) (F := [seen false [.slice zA9 z.Groups.length zC9] z.Groups zF9, seen false [.slice zA10 z.On.length zC10] z.On zF10, seen false [.slice zA11 z.Tapes.length zC11] z.Tapes zF11]) (all_cons zO9 (all_cons zO10 (all_cons zO11 (by simp))))
  refine W_seq ?_
  refine W_reg ?_
  refine s_box (wn rfl) rfl rfl H0 (fun b1 w1 e1 g1 H1 => ?_)
  refine s_val (wn rfl) rfl rfl (py_assign rfl) ?_
  refine s_nil ?_
  refine W_seq ?_
  refine W_seq ?_
  refine W_reg ?_
  refine s_val (wn rfl) rfl rfl (py_loadS Tryz.underlying37 rfl Tryz.sizeOf37 rfl rfl (At.whole (H1.box 0 rfl))) ?_
  refine s_call (wn rfl) rfl rfl (pc_call Tryz.func82 rfl Tryz_nm82 rfl) (Tryz_spec_WorldFault (by assumption) (H1.sees 0 rfl) (H1.sees 1 rfl) (H1.sees 2 rfl)) (fun v1 w2 r1 => ?_)
  obtain ⟨e2, rfl⟩ := r1
  have H2 := H1.to e2
  refine s_val (wn rfl) rfl rfl (py_assign rfl) ?_
  refine s_nil ?_
  refine W_seq ?_
  refine W_reg ?_
  refine s_val (wn rfl) rfl rfl (py_move rfl) (s_val (wn rfl) rfl rfl (py_neq rfl rfl) ?_)
  refine s_nil ?_
  refine W_ifd rfl (fun c1 => ?_) (fun c1 => ?_)
  · refine W_seq ?_
    refine W_reg ?_
    refine s_val (wn rfl) rfl rfl (py_move rfl) (s_val (wn rfl) rfl rfl (py_assign rfl) ?_)
    refine s_nil ?_
    refine W_ret (hQ _ _ (fin1 Tryz.results99 rfl ?_))
    exact ⟨H2.ext, congrArg (Value.int .i64) (if_pos (by omega)).symm⟩
  · refine W_skip ?_
    refine W_seq ?_
    refine W_seq ?_
    refine W_reg ?_
    refine s_val (wn rfl) rfl rfl (py_field Tryz.underlying37 rfl Tryz.sizeOf4 rfl rfl) (s_val (wn rfl) rfl rfl (py_load Tryz.underlying4 rfl rfl (cell_atL (H2.box 0 rfl) rfl)) ?_)
    refine s_nil ?_
    refine W_if rfl (fun c2 => ?_) (fun c2 => ?_)
    · refine W_seq ?_
      refine W_reg ?_
      refine s_val (wn rfl) rfl rfl (py_assign rfl) ?_
      refine s_nil ?_
      refine W_ret (hQ _ _ (fin1 Tryz.results99 rfl ?_))
      exact ⟨H2.ext, congrArg (Value.int .i64) ((if_neg (by omega)).trans (if_pos (by assumption))).symm⟩
    · refine W_skip ?_
      refine W_seq ?_
      refine W_reg ?_
      refine s_val (wn rfl) rfl rfl (py_assign rfl) ?_
      refine s_nil ?_
      refine W_ret (hQ _ _ (fin1 Tryz.results99 rfl ?_))
      exact ⟨H2.ext, congrArg (Value.int .i64) ((if_neg (by omega)).trans (if_neg (by simp_all <;> omega))).symm⟩
end Go.Wk
