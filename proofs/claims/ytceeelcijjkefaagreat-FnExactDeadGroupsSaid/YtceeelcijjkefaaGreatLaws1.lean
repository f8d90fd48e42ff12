/-
  The functions walked, each once. (Printed by a program of mine.)
-/
import Derived.Test.YtceeelcijjkefaaGreatWiped
import Derived.Test.YtceeelcijjkefaaGreatWmarks2
set_option linter.unusedVariables false
set_option linter.unusedSimpArgs false
namespace Go.Wk
open Go.Proofs Rp
set_option maxRecDepth 10000
theorem Tryz_laws_FnExactDeadGroups {w : World} {z : Wld} {zA9 : Option Addr} {zC9 : Nat} {zA10 : Option Addr} {zC10 : Nat} {zA11 : Option Addr} {zC11 : Nat} (zK : z.Ok) (zS9 : Sees w [.slice zA9 z.Groups.length zC9] z.Groups) (zS10 : Sees w [.slice zA10 z.On.length zC10] z.On) (zS11 : Sees w [.slice zA11 z.Tapes.length zC11] z.Tapes) : Ret Tryz.prog 4 #[z.val zA9 zC9 zA10 zC10 zA11 zC11] w fun v w' => Ext No w w' ∧ (v = .bool true) := by
  have zK2 := zK
  unfold Wld.Ok Shape.Ok at zK2
  try unfold I64ok at zK2
  try unfold maxLen at zK2
  have zL9 := sees_len zS9
  unfold maxLen at zL9
  obtain ⟨zF9, zO9⟩ := zS9
  have zL10 := sees_len zS10
  unfold maxLen at zL10
  obtain ⟨zF10, zO10⟩ := zS10
  have zL11 := sees_len zS11
  unfold maxLen at zL11
  obtain ⟨zF11, zO11⟩ := zS11
  refine ret_Q (vs := [z.val zA9 zC9 zA10 zC10 zA11 zC11]) Tryz.func4 rfl Tryz.ntmps4 rfl (fun Q hQ hN => ?_)
  have H0 := Sep.start (w := w) (F := [seen false [.slice zA9 z.Groups.length zC9] z.Groups zF9, seen false [.slice zA10 z.On.length zC10] z.On zF10, seen false [.slice zA11 z.Tapes.length zC11] z.Tapes zF11]) (all_cons zO9 (all_cons zO10 (all_cons zO11 (by simp))))
  refine W_seq ?_
  refine W_reg ?_
  refine s_box (wn rfl) rfl rfl H0 (fun b1 w1 e1 g1 H1 => ?_)
  refine s_val (wn rfl) rfl rfl (py_assign rfl) ?_
  refine s_nil ?_
  refine W_seq ?_
  refine W_reg ?_
  refine s_val (wn rfl) rfl rfl (py_assign rfl) ?_
  refine s_nil ?_
  refine W_seq ?_
  refine W_reg ?_
  refine s_val (wn rfl) rfl rfl (py_loadS Tryz.underlying28 rfl Tryz.sizeOf28 rfl rfl (At.whole (H1.box 0 rfl))) (s_val (wn rfl) rfl rfl (py_move rfl) ?_)
  refine s_call (wn rfl) rfl rfl (pc_call Tryz.func15 rfl Tryz_nm15 rfl) (Tryz_laws_szWorld (by assumption) (H1.sees 0 rfl) (H1.sees 1 rfl) (H1.sees 2 rfl) (by omega)) (fun v1 w2 r1 => ?_)
  obtain ⟨e2, rfl⟩ := r1
  have H2 := H1.to e2
  refine s_val (wn rfl) rfl rfl (py_assign rfl) ?_
  refine s_nil ?_
  refine W_seq ?_
  refine W_seq ?_
  refine W_reg ?_
  refine s_val (wn rfl) rfl rfl (py_move rfl) (s_val (wn rfl) rfl rfl (py_lss rfl rfl) ?_)
  refine s_nil ?_
  refine W_ifd rfl (fun c1 => ?_) (fun c1 => ?_)
  · refine W_seq ?_
    refine W_reg ?_
    refine s_val (wn rfl) rfl rfl (py_assign rfl) ?_
    refine s_nil ?_
    refine W_ret (hQ _ _ (fin1 Tryz.results4 rfl ?_))
    exact ⟨H2.ext, rfl⟩
  · refine W_skip ?_
    refine W_seq ?_
    have hsz : szWld z ≤ 1048576 := by omega
    have hmk := mkWld_le z
    have cnt := deadGroups_len (z := z)
    have hOk := deadGroups_Ok (z := z)
    refine W_reg ?_
    refine s_val (wn rfl) rfl rfl (py_loadS Tryz.underlying28 rfl Tryz.sizeOf28 rfl rfl (At.whole (H2.box 0 rfl))) ?_
    refine s_call (wn rfl) rfl rfl (pc_call Tryz.func17 rfl Tryz_nm17 rfl) (Tryz_laws_toWorld (by assumption) (H2.sees 0 rfl) (H2.sees 1 rfl) (H2.sees 2 rfl) (by assumption)) (fun v2 w3 r2 => ?_)
    obtain ⟨e3, sa1, sk1, sa2, sk2, sa3, sk3, rfl, r2⟩ := r2
    obtain ⟨fp1, H3⟩ := H2.res e3 r2
    have H4 := H3.share 1 rfl
    obtain ⟨sf1, sf2, sf3, sq1, sok1, so1, so2, so3⟩ := own_WldC (H4.seen 3 rfl)
    have H6 := H4.look1 3 rfl so1 (fun b hb => by rw [sq1]; simp [hb])
    have H7 := H6.look1 3 rfl so2 (fun b hb => by rw [sq1]; simp [hb])
    have H8 := H7.look1 3 rfl so3 (fun b hb => by rw [sq1]; simp [hb])
    refine s_call (wn rfl) rfl rfl (pc_call Tryz.func21 rfl Tryz_nm21 rfl) (Tryz_spec_DeadGroups (by assumption) (H8.sees 4 rfl) (H8.sees 5 rfl) (H8.sees 6 rfl)) (fun v3 w4 r3 => ?_)
    obtain ⟨e4, sa4, sk4, rfl, r3⟩ := r3
    obtain ⟨fp2, H9⟩ := H8.res e4 r3
    have H10 := H9.share 2 rfl
    obtain ⟨sf4, sq2, sok2, so4⟩ := own_GroupsResultC (H10.seen 7 rfl)
    have H12 := H10.look1 7 rfl so4 (fun b hb => by rw [sq2]; simp [hb])
    refine s_var (wn rfl) rfl Tryz.zeroValue43 H12 (fun b2 w5 e5 g2 H13 => ?_)
    refine s_stoS (wn rfl) Tryz.sizeOf43 rfl rfl rfl rfl H13 3 rfl rfl (fun w6 e6 H14 => ?_)
    dsimp only [List.nil_append, List.cons_append, List.set_cons_zero, List.set_cons_succ, layL] at H14
    refine s_nil ?_
    refine W_seq ?_
    refine W_reg ?_
    refine s_val (wn rfl) rfl rfl (py_loadS Tryz.underlying28 rfl Tryz.sizeOf28 rfl rfl (At.whole (H14.box 0 rfl))) ?_
    refine s_call (wn rfl) rfl rfl (pc_call Tryz.func17 rfl Tryz_nm17 rfl) (Tryz_laws_toWorld (by assumption) (H14.sees 0 rfl) (H14.sees 1 rfl) (H14.sees 2 rfl) (by assumption)) (fun v4 w7 r4 => ?_)
    obtain ⟨e7, sa5, sk5, sa6, sk6, sa7, sk7, rfl, r4⟩ := r4
    obtain ⟨fp3, H15⟩ := H14.res e7 r4
    refine s_var (wn rfl) rfl Tryz.zeroValue37 H15 (fun b3 w8 e8 g3 H16 => ?_)
    refine s_stoS (wn rfl) Tryz.sizeOf37 rfl rfl rfl rfl H16 5 rfl rfl (fun w9 e9 H17 => ?_)
    dsimp only [List.nil_append, List.cons_append, List.set_cons_zero, List.set_cons_succ, layL] at H17
    refine s_nil ?_
    refine W_seq ?_
    refine W_reg ?_
    refine s_val (wn rfl) rfl rfl (py_loadS Tryz.underlying37 rfl Tryz.sizeOf37 rfl rfl (At.whole (H17.box 5 rfl))) ?_
    refine s_call (wn rfl) rfl rfl (pc_call Tryz.func22 rfl Tryz_nm22 rfl) (Tryz_impl_DeadGroups (by assumption) (Wld.see9 (H17.mine 4 rfl)) (Wld.see10 (H17.mine 4 rfl)) (Wld.see11 (H17.mine 4 rfl))) (fun v5 w10 r5 => ?_)
    obtain ⟨e10, sa8, sk8, rfl, r5⟩ := r5
    obtain ⟨fp4, H18⟩ := H17.res e10 r5
    obtain ⟨sf5, sq3, sok3, so5⟩ := own_GroupsResultC (H18.mine 6 rfl)
    have H19 := H18.part 6 rfl [mine [.slice _ (deadGroups z).Groups.length _] (deadGroups z).Groups sf5] (all_cons so5 (by simp)) (by simp [blocks, mine, sq3])
    try dsimp only [List.nil_append, List.cons_append, List.set_cons_zero, List.set_cons_succ] at H19
    refine s_var (wn rfl) rfl Tryz.zeroValue43 H19 (fun b4 w11 e11 g4 H20 => ?_)
    refine s_stoS (wn rfl) Tryz.sizeOf43 rfl rfl rfl rfl H20 8 rfl rfl (fun w12 e12 H21 => ?_)
    dsimp only [List.nil_append, List.cons_append, List.set_cons_zero, List.set_cons_succ, layL] at H21
    refine s_nil ?_
    refine W_seq ?_
    refine W_seq ?_
    refine W_reg ?_
    refine s_val (wn rfl) rfl rfl (py_loadS Tryz.underlying43 rfl Tryz.sizeOf43 rfl rfl (At.whole (H21.box 8 rfl))) (s_val (wn rfl) rfl rfl (py_loadS Tryz.underlying43 rfl Tryz.sizeOf43 rfl rfl (At.whole (H21.box 3 rfl))) ?_)
    refine s_call (wn rfl) rfl rfl (pc_call Tryz.func23 rfl Tryz_nm23 rfl) (Tryz_laws_eqGroupsResult (by assumption) (H21.msees 7 rfl) (by assumption) (H21.sees 8 rfl)) (fun v6 w13 r6 => ?_)
    obtain ⟨e13, rfl⟩ := r6
    have H22 := H21.to e13
    refine s_val (wn rfl) rfl rfl (py_not rfl) ?_
    refine s_nil ?_
    refine W_if rfl (fun c2 => ?_) (fun c2 => ?_)
    · exfalso; simp_all
    · refine W_skip ?_
      refine W_seq ?_
      refine W_seq ?_
      refine W_drw (S := Ext No _) [(0, true), (1, true), (2, false), (3, false), (4, false)] (by kernel_rfl) (by kernel_rfl) (by kernel_rfl) rfl (fun _ => Ext.refl.drawn _) (fun q1 => ?_)
      have H23 := H22.drawn q1
      refine d_val rfl (wn rfl) rfl rfl (fun zw hx => py_loadS Tryz.underlying37 rfl Tryz.sizeOf37 rfl rfl (At.whole (hx.heap (H23.box 5 rfl)))) (d_val rfl (wn rfl) rfl rfl (fun zw hx => py_loadS Tryz.underlying28 rfl Tryz.sizeOf28 rfl rfl (At.whole (hx.heap (H23.box 0 rfl)))) ?_)
      refine d_call rfl (wn rfl) rfl rfl (pc_call Tryz.func17 rfl Tryz_nm17 rfl) (Tryz_laws_toWorld (by assumption) (H23.sees 0 rfl) (H23.sees 1 rfl) (H23.sees 2 rfl) (by assumption)) (fun hS _ _ r _ => hS.trans r.1.no) (fun v7 w14 r7 => ?_)
      obtain ⟨e14, sa9, sk9, sa10, sk10, sa11, sk11, rfl, r7⟩ := r7
      obtain ⟨fp5, H24⟩ := H23.res e14 r7
      have H25 := H24.share 9 rfl
      obtain ⟨sf6, sf7, sf8, sq4, sok4, so6, so7, so8⟩ := own_WldC (H25.seen 9 rfl)
      have H27 := H25.look1 9 rfl so6 (fun b hb => by rw [sq4]; simp [hb])
      have H28 := H27.look1 9 rfl so7 (fun b hb => by rw [sq4]; simp [hb])
      have H29 := H28.look1 9 rfl so8 (fun b hb => by rw [sq4]; simp [hb])
      refine d_call rfl (wn rfl) rfl rfl (pc_call Tryz.func20 rfl Tryz_nm20 rfl) (Tryz_laws_eqWorld (by assumption) (Wld.see9 (H29.mine 4 rfl)) (Wld.see10 (H29.mine 4 rfl)) (Wld.see11 (H29.mine 4 rfl)) (by assumption) (H29.sees 10 rfl) (H29.sees 11 rfl) (H29.sees 12 rfl)) (fun hS _ _ r _ => hS.trans r.1.no) (fun v8 w15 r8 => ?_)
      obtain ⟨e15, rfl⟩ := r8
      have H30 := H29.to e15
      refine d_end rfl (wn rfl) rfl rfl (py_not rfl) ?_
      refine d_nil ?_
      refine W_if rfl (fun c3 => ?_) (fun c3 => ?_)
      · exfalso; simp_all
      · refine W_skip ?_
        refine W_seq ?_
        refine W_reg ?_
        refine s_val (wn rfl) rfl rfl (py_assign rfl) ?_
        refine s_nil ?_
        refine W_seq ?_
        refine W_reg ?_
        refine s_val (wn rfl) rfl rfl (py_loadS Tryz.underlying37 rfl Tryz.sizeOf37 rfl rfl (At.whole (H30.box 5 rfl))) (s_val (wn rfl) rfl rfl (py_move rfl) ?_)
        refine s_call (wn rfl) rfl rfl (pc_call Tryz.func24 rfl Tryz_nm24 rfl) (Tryz_laws_markWorld (by assumption) (H30.mine 4 rfl) (H30.nodup1 (i := 4) rfl) (by constructor <;> omega)) (fun v9 w16 r9 => ?_)
        obtain ⟨rfl, mx1, mm1, ml1⟩ := r9
        obtain ⟨fp6, H31⟩ := H30.mut 4 rfl mm1
        try dsimp only [List.nil_append, List.cons_append, List.set_cons_zero, List.set_cons_succ] at H31
        refine s_val (wn rfl) rfl rfl (py_assign rfl) ?_
        refine s_nil ?_
        refine W_seq ?_
        refine W_seq ?_
        refine W_reg ?_
        refine s_val (wn rfl) rfl rfl (py_move rfl) (s_val (wn rfl) rfl rfl (py_lss rfl rfl) (s_val (wn rfl) rfl rfl (py_move rfl) ?_))
        refine s_grp 4 (j := 2) (want := false) (t := 41) rfl rfl rfl rfl (fun hg1 kk1 => s_val (wgE rfl rfl rfl hg1) rfl rfl (py_loadS Tryz.underlying43 rfl Tryz.sizeOf43 rfl rfl (At.whole (H31.box 8 rfl))) (s_val (wgE rfl rfl rfl hg1) rfl rfl (py_loadS Tryz.underlying43 rfl Tryz.sizeOf43 rfl rfl (At.whole (H31.box 3 rfl))) (s_callv (wgE rfl rfl rfl hg1) rfl rfl (pc_call Tryz.func23 rfl Tryz_nm23 rfl) (Tryz_laws_eqGroupsResult (by assumption) (H31.msees 7 rfl) (by assumption) (H31.sees 8 rfl)) (fun w18 e18 => s_val (wgE rfl rfl rfl hg1) rfl rfl (py_not rfl) (kk1 _ _ (kx rfl (kx rfl (kx rfl (kx rfl k0)))) rfl (Ext.refl.trans e18)))))) (fun w17 e17 => ?_)
        have H32 := H31.to e17
        refine s_val (wn rfl) rfl rfl (py_bor rfl rfl) ?_
        refine s_nil ?_
        refine W_if rfl (fun c4 => ?_) (fun c4 => ?_)
        · exact absurd c4 (by simp; omega)
        · refine W_skip ?_
          refine W_seq ?_
          refine W_reg ?_
          refine s_val (wn rfl) rfl rfl (py_assign rfl) ?_
          refine s_nil ?_
          refine W_seq ?_
          refine W_reg ?_
          refine s_val (wn rfl) rfl rfl (py_loadS Tryz.underlying43 rfl Tryz.sizeOf43 rfl rfl (At.whole (H32.box 8 rfl))) (s_val (wn rfl) rfl rfl (py_move rfl) ?_)
          refine s_call (wn rfl) rfl rfl (pc_call Tryz.func25 rfl Tryz_nm25 rfl) (Tryz_laws_markGroupsResult (H32.mine 7 rfl) (H32.nodup1 (i := 7) rfl) (by constructor <;> omega)) (fun v10 w19 r10 => ?_)
          obtain ⟨rfl, mx2, mm2, ml2, mk1⟩ := r10
          obtain ⟨fp7, H33⟩ := H32.mut 7 rfl mm2
          try dsimp only [List.nil_append, List.cons_append, List.set_cons_zero, List.set_cons_succ] at H33
          refine s_val (wn rfl) rfl rfl (py_assign rfl) ?_
          refine s_nil ?_
          refine W_seq ?_
          refine W_reg ?_
          refine s_val (wn rfl) rfl rfl (py_assign rfl) ?_
          refine s_nil ?_
          refine W_seq ?_
          refine W_reg ?_
          refine s_val (wn rfl) rfl rfl (py_loadS Tryz.underlying43 rfl Tryz.sizeOf43 rfl rfl (At.whole (H33.box 8 rfl))) (s_val (wn rfl) rfl rfl (py_move rfl) ?_)
          refine s_call (wn rfl) rfl rfl (pc_call Tryz.func26 rfl Tryz_nm26 rfl) (Tryz_laws_heldGroupsResult (H33.msees 7 rfl) (by constructor <;> omega) (by assumption)) (fun v11 w20 r11 => ?_)
          obtain ⟨e20, rfl⟩ := r11
          have H34 := H33.to e20
          refine s_val (wn rfl) rfl rfl (py_assign rfl) ?_
          refine s_nil ?_
          refine W_seq ?_
          refine W_seq ?_
          refine W_reg ?_
          refine s_val (wn rfl) rfl rfl (py_move rfl) (s_val (wn rfl) rfl rfl (py_lss rfl rfl) ?_)
          refine s_nil ?_
          refine W_ifd rfl (fun c5 => ?_) (fun c5 => ?_)
          · exact absurd c5 (by omega)
          · refine W_skip ?_
            refine W_seq ?_
            refine W_seq ?_
            refine W_reg ?_
            refine s_val (wn rfl) rfl rfl (py_move rfl) (s_val (wn rfl) rfl rfl (py_move rfl) (s_val (wn rfl) rfl rfl (py_neq rfl rfl) ?_))
            refine s_nil ?_
            refine W_ifd rfl (fun c6 => ?_) (fun c6 => ?_)
            · exact absurd c6 (by omega)
            · refine W_skip ?_
              refine W_seq ?_
              refine W_reg ?_
              refine s_val (wn rfl) rfl rfl (py_loadS Tryz.underlying28 rfl Tryz.sizeOf28 rfl rfl (At.whole (H34.box 0 rfl))) ?_
              refine s_call (wn rfl) rfl rfl (pc_call Tryz.func17 rfl Tryz_nm17 rfl) (Tryz_laws_toWorld (by assumption) (H34.sees 0 rfl) (H34.sees 1 rfl) (H34.sees 2 rfl) (by assumption)) (fun v12 w21 r12 => ?_)
              obtain ⟨e21, sa12, sk12, sa13, sk13, sa14, sk14, rfl, r12⟩ := r12
              obtain ⟨fp8, H35⟩ := H34.res e21 r12
              have H36 := H35.share 10 rfl
              obtain ⟨sf9, sf10, sf11, sq5, sok5, so9, so10, so11⟩ := own_WldC (H36.seen 13 rfl)
              have H38 := H36.look1 13 rfl so9 (fun b hb => by rw [sq5]; simp [hb])
              have H39 := H38.look1 13 rfl so10 (fun b hb => by rw [sq5]; simp [hb])
              have H40 := H39.look1 13 rfl so11 (fun b hb => by rw [sq5]; simp [hb])
              refine s_call (wn rfl) rfl rfl (pc_call Tryz.func22 rfl Tryz_nm22 rfl) (Tryz_impl_DeadGroups (by assumption) (H40.sees 14 rfl) (H40.sees 15 rfl) (H40.sees 16 rfl)) (fun v13 w22 r13 => ?_)
              obtain ⟨e22, sa15, sk15, rfl, r13⟩ := r13
              obtain ⟨fp9, H41⟩ := H40.res e22 r13
              have H42 := H41.share 11 rfl
              obtain ⟨sf12, sq6, sok6, so12⟩ := own_GroupsResultC (H42.seen 17 rfl)
              have H44 := H42.look1 17 rfl so12 (fun b hb => by rw [sq6]; simp [hb])
              refine s_var (wn rfl) rfl Tryz.zeroValue43 H44 (fun b5 w23 e23 g5 H45 => ?_)
              refine s_stoS (wn rfl) Tryz.sizeOf43 rfl rfl rfl rfl H45 12 rfl rfl (fun w24 e24 H46 => ?_)
              dsimp only [List.nil_append, List.cons_append, List.set_cons_zero, List.set_cons_succ, layL] at H46
              refine s_nil ?_
              refine W_seq ?_
              refine W_seq ?_
              refine W_reg ?_
              refine s_val (wn rfl) rfl rfl (py_loadS Tryz.underlying43 rfl Tryz.sizeOf43 rfl rfl (At.whole (H46.box 12 rfl))) (s_val (wn rfl) rfl rfl (py_loadS Tryz.underlying43 rfl Tryz.sizeOf43 rfl rfl (At.whole (H46.box 3 rfl))) ?_)
              refine s_call (wn rfl) rfl rfl (pc_call Tryz.func23 rfl Tryz_nm23 rfl) (Tryz_laws_eqGroupsResult (by assumption) (H46.sees 18 rfl) (by assumption) (H46.sees 8 rfl)) (fun v14 w25 r14 => ?_)
              obtain ⟨e25, rfl⟩ := r14
              have H47 := H46.to e25
              refine s_val (wn rfl) rfl rfl (py_not rfl) ?_
              refine s_nil ?_
              refine W_if rfl (fun c7 => ?_) (fun c7 => ?_)
              · exfalso; simp_all
              · refine W_skip ?_
                refine W_seq ?_
                refine W_reg ?_
                refine s_val (wn rfl) rfl rfl (py_assign rfl) ?_
                refine s_nil ?_
                refine W_seq ?_
                refine W_reg ?_
                refine s_val (wn rfl) rfl rfl (py_loadS Tryz.underlying43 rfl Tryz.sizeOf43 rfl rfl (At.whole (H47.box 8 rfl))) (s_val (wn rfl) rfl rfl (py_move rfl) ?_)
                refine s_call (wn rfl) rfl rfl (pc_call Tryz.func26 rfl Tryz_nm26 rfl) (Tryz_laws_heldGroupsResult (H47.msees 7 rfl) (by constructor <;> omega) (by assumption)) (fun v15 w26 r15 => ?_)
                obtain ⟨e26, rfl⟩ := r15
                have H48 := H47.to e26
                refine s_val (wn rfl) rfl rfl (py_assign rfl) ?_
                refine s_nil ?_
                refine W_seq ?_
                refine W_seq ?_
                refine W_reg ?_
                refine s_val (wn rfl) rfl rfl (py_move rfl) (s_val (wn rfl) rfl rfl (py_lss rfl rfl) ?_)
                refine s_nil ?_
                refine W_ifd rfl (fun c8 => ?_) (fun c8 => ?_)
                · exact absurd c8 (by omega)
                · refine W_skip ?_
                  refine W_seq ?_
                  refine W_seq ?_
                  refine W_reg ?_
                  refine s_val (wn rfl) rfl rfl (py_move rfl) (s_val (wn rfl) rfl rfl (py_move rfl) (s_val (wn rfl) rfl rfl (py_neq rfl rfl) ?_))
                  refine s_nil ?_
                  refine W_ifd rfl (fun c9 => ?_) (fun c9 => ?_)
                  · exact absurd c9 (by omega)
                  · refine W_skip ?_
                    refine W_seq ?_
                    refine W_reg ?_
                    refine s_val (wn rfl) rfl rfl (py_assign rfl) ?_
                    refine s_nil ?_
                    refine W_ret (hQ _ _ (fin1 Tryz.results4 rfl ?_))
                    exact ⟨H48.ext, rfl⟩
theorem Tryz_laws_FnExactWipedOf {w : World} {z : Wld} {zA9 : Option Addr} {zC9 : Nat} {zA10 : Option Addr} {zC10 : Nat} {zA11 : Option Addr} {zC11 : Nat} {g : Int} (zK : z.Ok) (zS9 : Sees w [.slice zA9 z.Groups.length zC9] z.Groups) (zS10 : Sees w [.slice zA10 z.On.length zC10] z.On) (zS11 : Sees w [.slice zA11 z.Tapes.length zC11] z.Tapes) : Ret Tryz.prog 5 #[z.val zA9 zC9 zA10 zC10 zA11 zC11, .int .i64 g] w fun v w' => Ext No w w' ∧ (v = .bool true) := by
  have zK2 := zK
  unfold Wld.Ok Shape.Ok at zK2
  try unfold I64ok at zK2
  try unfold maxLen at zK2
  have zL9 := sees_len zS9
  unfold maxLen at zL9
  obtain ⟨zF9, zO9⟩ := zS9
  have zL10 := sees_len zS10
  unfold maxLen at zL10
  obtain ⟨zF10, zO10⟩ := zS10
  have zL11 := sees_len zS11
  unfold maxLen at zL11
  obtain ⟨zF11, zO11⟩ := zS11
  refine ret_Q (vs := [z.val zA9 zC9 zA10 zC10 zA11 zC11, .int .i64 g]) Tryz.func5 rfl Tryz.ntmps5 rfl (fun Q hQ hN => ?_)
  have H0 := Sep.start (w := w) (F := [seen false [.slice zA9 z.Groups.length zC9] z.Groups zF9, seen false [.slice zA10 z.On.length zC10] z.On zF10, seen false [.slice zA11 z.Tapes.length zC11] z.Tapes zF11]) (all_cons zO9 (all_cons zO10 (all_cons zO11 (by simp))))
  refine W_seq ?_
  refine W_reg ?_
  refine s_box (wn rfl) rfl rfl H0 (fun b1 w1 e1 g1 H1 => ?_)
  refine s_val (wn rfl) rfl rfl (py_assign rfl) ?_
  refine s_nil ?_
  refine W_seq ?_
  refine W_reg ?_
  refine s_val (wn rfl) rfl rfl (py_assign rfl) ?_
  refine s_nil ?_
  refine W_seq ?_
  refine W_reg ?_
  refine s_val (wn rfl) rfl rfl (py_loadS Tryz.underlying28 rfl Tryz.sizeOf28 rfl rfl (At.whole (H1.box 0 rfl))) (s_val (wn rfl) rfl rfl (py_move rfl) ?_)
  refine s_call (wn rfl) rfl rfl (pc_call Tryz.func15 rfl Tryz_nm15 rfl) (Tryz_laws_szWorld (by assumption) (H1.sees 0 rfl) (H1.sees 1 rfl) (H1.sees 2 rfl) (by omega)) (fun v1 w2 r1 => ?_)
  obtain ⟨e2, rfl⟩ := r1
  have H2 := H1.to e2
  refine s_val (wn rfl) rfl rfl (py_assign rfl) ?_
  refine s_nil ?_
  refine W_seq ?_
  refine W_seq ?_
  refine W_reg ?_
  refine s_val (wn rfl) rfl rfl (py_move rfl) (s_val (wn rfl) rfl rfl (py_lss rfl rfl) ?_)
  refine s_nil ?_
  refine W_ifd rfl (fun c1 => ?_) (fun c1 => ?_)
  · refine W_seq ?_
    refine W_reg ?_
    refine s_val (wn rfl) rfl rfl (py_assign rfl) ?_
    refine s_nil ?_
    refine W_ret (hQ _ _ (fin1 Tryz.results5 rfl ?_))
    exact ⟨H2.ext, rfl⟩
  · refine W_skip ?_
    refine W_seq ?_
    have hsz : szWld z ≤ 1048576 := by omega
    have hmk := mkWld_le z
    have cnt := wipedOf_len (z := z) (g := g)
    have hOk := wipedOf_Ok (z := z) (g := g)
    refine W_reg ?_
    refine s_val (wn rfl) rfl rfl (py_loadS Tryz.underlying28 rfl Tryz.sizeOf28 rfl rfl (At.whole (H2.box 0 rfl))) ?_
    refine s_call (wn rfl) rfl rfl (pc_call Tryz.func17 rfl Tryz_nm17 rfl) (Tryz_laws_toWorld (by assumption) (H2.sees 0 rfl) (H2.sees 1 rfl) (H2.sees 2 rfl) (by assumption)) (fun v2 w3 r2 => ?_)
    obtain ⟨e3, sa1, sk1, sa2, sk2, sa3, sk3, rfl, r2⟩ := r2
    obtain ⟨fp1, H3⟩ := H2.res e3 r2
    have H4 := H3.share 1 rfl
    obtain ⟨sf1, sf2, sf3, sq1, sok1, so1, so2, so3⟩ := own_WldC (H4.seen 3 rfl)
    have H6 := H4.look1 3 rfl so1 (fun b hb => by rw [sq1]; simp [hb])
    have H7 := H6.look1 3 rfl so2 (fun b hb => by rw [sq1]; simp [hb])
    have H8 := H7.look1 3 rfl so3 (fun b hb => by rw [sq1]; simp [hb])
    refine s_val (wn rfl) rfl rfl (py_move rfl) ?_
    refine s_call (wn rfl) rfl rfl (pc_call Tryz.func27 rfl Tryz_nm27 rfl) (Tryz_spec_WipedOf (by assumption) (H8.sees 4 rfl) (H8.sees 5 rfl) (H8.sees 6 rfl)) (fun v3 w4 r3 => ?_)
    obtain ⟨e4, sa4, sk4, rfl, r3⟩ := r3
    obtain ⟨fp2, H9⟩ := H8.res e4 r3
    have H10 := H9.share 2 rfl
    obtain ⟨sf4, sq2, sok2, so4⟩ := own_IntsResultC (H10.seen 7 rfl)
    have H12 := H10.look1 7 rfl so4 (fun b hb => by rw [sq2]; simp [hb])
    refine s_var (wn rfl) rfl Tryz.zeroValue50 H12 (fun b2 w5 e5 g2 H13 => ?_)
    refine s_stoS (wn rfl) Tryz.sizeOf50 rfl rfl rfl rfl H13 3 rfl rfl (fun w6 e6 H14 => ?_)
    dsimp only [List.nil_append, List.cons_append, List.set_cons_zero, List.set_cons_succ, layL] at H14
    refine s_nil ?_
    refine W_seq ?_
    refine W_reg ?_
    refine s_val (wn rfl) rfl rfl (py_loadS Tryz.underlying28 rfl Tryz.sizeOf28 rfl rfl (At.whole (H14.box 0 rfl))) ?_
    refine s_call (wn rfl) rfl rfl (pc_call Tryz.func17 rfl Tryz_nm17 rfl) (Tryz_laws_toWorld (by assumption) (H14.sees 0 rfl) (H14.sees 1 rfl) (H14.sees 2 rfl) (by assumption)) (fun v4 w7 r4 => ?_)
    obtain ⟨e7, sa5, sk5, sa6, sk6, sa7, sk7, rfl, r4⟩ := r4
    obtain ⟨fp3, H15⟩ := H14.res e7 r4
    refine s_var (wn rfl) rfl Tryz.zeroValue37 H15 (fun b3 w8 e8 g3 H16 => ?_)
    refine s_stoS (wn rfl) Tryz.sizeOf37 rfl rfl rfl rfl H16 5 rfl rfl (fun w9 e9 H17 => ?_)
    dsimp only [List.nil_append, List.cons_append, List.set_cons_zero, List.set_cons_succ, layL] at H17
    refine s_nil ?_
    refine W_seq ?_
    refine W_reg ?_
    refine s_val (wn rfl) rfl rfl (py_loadS Tryz.underlying37 rfl Tryz.sizeOf37 rfl rfl (At.whole (H17.box 5 rfl))) (s_val (wn rfl) rfl rfl (py_move rfl) ?_)
    refine s_call (wn rfl) rfl rfl (pc_call Tryz.func28 rfl Tryz_nm28 rfl) (Tryz_impl_WipedOf (by assumption) (Wld.see9 (H17.mine 4 rfl)) (Wld.see10 (H17.mine 4 rfl)) (Wld.see11 (H17.mine 4 rfl))) (fun v5 w10 r5 => ?_)
    obtain ⟨e10, sa8, sk8, rfl, r5⟩ := r5
    obtain ⟨fp4, H18⟩ := H17.res e10 r5
    obtain ⟨sf5, sq3, sok3, so5⟩ := own_IntsResultC (H18.mine 6 rfl)
    have H19 := H18.part 6 rfl [mine [.slice _ (wipedOf z g).Lst.length _] (wipedOf z g).Lst sf5] (all_cons so5 (by simp)) (by simp [blocks, mine, sq3])
    try dsimp only [List.nil_append, List.cons_append, List.set_cons_zero, List.set_cons_succ] at H19
    refine s_var (wn rfl) rfl Tryz.zeroValue50 H19 (fun b4 w11 e11 g4 H20 => ?_)
    refine s_stoS (wn rfl) Tryz.sizeOf50 rfl rfl rfl rfl H20 8 rfl rfl (fun w12 e12 H21 => ?_)
    dsimp only [List.nil_append, List.cons_append, List.set_cons_zero, List.set_cons_succ, layL] at H21
    refine s_nil ?_
    refine W_seq ?_
    refine W_seq ?_
    refine W_reg ?_
    refine s_val (wn rfl) rfl rfl (py_loadS Tryz.underlying50 rfl Tryz.sizeOf50 rfl rfl (At.whole (H21.box 8 rfl))) (s_val (wn rfl) rfl rfl (py_loadS Tryz.underlying50 rfl Tryz.sizeOf50 rfl rfl (At.whole (H21.box 3 rfl))) ?_)
    refine s_call (wn rfl) rfl rfl (pc_call Tryz.func29 rfl Tryz_nm29 rfl) (Tryz_laws_eqIntsResult (by assumption) (H21.msees 7 rfl) (by assumption) (H21.sees 8 rfl)) (fun v6 w13 r6 => ?_)
    obtain ⟨e13, rfl⟩ := r6
    have H22 := H21.to e13
    refine s_val (wn rfl) rfl rfl (py_not rfl) ?_
    refine s_nil ?_
    refine W_if rfl (fun c2 => ?_) (fun c2 => ?_)
    · exfalso; simp_all
    · refine W_skip ?_
      refine W_seq ?_
      refine W_seq ?_
      refine W_drw (S := Ext No _) [(0, true), (1, true), (2, false), (3, false), (4, false)] (by kernel_rfl) (by kernel_rfl) (by kernel_rfl) rfl (fun _ => Ext.refl.drawn _) (fun q1 => ?_)
      have H23 := H22.drawn q1
      refine d_val rfl (wn rfl) rfl rfl (fun zw hx => py_loadS Tryz.underlying37 rfl Tryz.sizeOf37 rfl rfl (At.whole (hx.heap (H23.box 5 rfl)))) (d_val rfl (wn rfl) rfl rfl (fun zw hx => py_loadS Tryz.underlying28 rfl Tryz.sizeOf28 rfl rfl (At.whole (hx.heap (H23.box 0 rfl)))) ?_)
      refine d_call rfl (wn rfl) rfl rfl (pc_call Tryz.func17 rfl Tryz_nm17 rfl) (Tryz_laws_toWorld (by assumption) (H23.sees 0 rfl) (H23.sees 1 rfl) (H23.sees 2 rfl) (by assumption)) (fun hS _ _ r _ => hS.trans r.1.no) (fun v7 w14 r7 => ?_)
      obtain ⟨e14, sa9, sk9, sa10, sk10, sa11, sk11, rfl, r7⟩ := r7
      obtain ⟨fp5, H24⟩ := H23.res e14 r7
      have H25 := H24.share 9 rfl
      obtain ⟨sf6, sf7, sf8, sq4, sok4, so6, so7, so8⟩ := own_WldC (H25.seen 9 rfl)
      have H27 := H25.look1 9 rfl so6 (fun b hb => by rw [sq4]; simp [hb])
      have H28 := H27.look1 9 rfl so7 (fun b hb => by rw [sq4]; simp [hb])
      have H29 := H28.look1 9 rfl so8 (fun b hb => by rw [sq4]; simp [hb])
      refine d_call rfl (wn rfl) rfl rfl (pc_call Tryz.func20 rfl Tryz_nm20 rfl) (Tryz_laws_eqWorld (by assumption) (Wld.see9 (H29.mine 4 rfl)) (Wld.see10 (H29.mine 4 rfl)) (Wld.see11 (H29.mine 4 rfl)) (by assumption) (H29.sees 10 rfl) (H29.sees 11 rfl) (H29.sees 12 rfl)) (fun hS _ _ r _ => hS.trans r.1.no) (fun v8 w15 r8 => ?_)
      obtain ⟨e15, rfl⟩ := r8
      have H30 := H29.to e15
      refine d_end rfl (wn rfl) rfl rfl (py_not rfl) ?_
      refine d_nil ?_
      refine W_if rfl (fun c3 => ?_) (fun c3 => ?_)
      · exfalso; simp_all
      · refine W_skip ?_
        refine W_seq ?_
        refine W_reg ?_
        refine s_val (wn rfl) rfl rfl (py_assign rfl) ?_
        refine s_nil ?_
        refine W_seq ?_
        refine W_reg ?_
        refine s_val (wn rfl) rfl rfl (py_loadS Tryz.underlying37 rfl Tryz.sizeOf37 rfl rfl (At.whole (H30.box 5 rfl))) (s_val (wn rfl) rfl rfl (py_move rfl) ?_)
        refine s_call (wn rfl) rfl rfl (pc_call Tryz.func24 rfl Tryz_nm24 rfl) (Tryz_laws_markWorld (by assumption) (H30.mine 4 rfl) (H30.nodup1 (i := 4) rfl) (by constructor <;> omega)) (fun v9 w16 r9 => ?_)
        obtain ⟨rfl, mx1, mm1, ml1⟩ := r9
        obtain ⟨fp6, H31⟩ := H30.mut 4 rfl mm1
        try dsimp only [List.nil_append, List.cons_append, List.set_cons_zero, List.set_cons_succ] at H31
        refine s_val (wn rfl) rfl rfl (py_assign rfl) ?_
        refine s_nil ?_
        refine W_seq ?_
        refine W_seq ?_
        refine W_reg ?_
        refine s_val (wn rfl) rfl rfl (py_move rfl) (s_val (wn rfl) rfl rfl (py_lss rfl rfl) (s_val (wn rfl) rfl rfl (py_move rfl) ?_))
        refine s_grp 4 (j := 2) (want := false) (t := 45) rfl rfl rfl rfl (fun hg1 kk1 => s_val (wgE rfl rfl rfl hg1) rfl rfl (py_loadS Tryz.underlying50 rfl Tryz.sizeOf50 rfl rfl (At.whole (H31.box 8 rfl))) (s_val (wgE rfl rfl rfl hg1) rfl rfl (py_loadS Tryz.underlying50 rfl Tryz.sizeOf50 rfl rfl (At.whole (H31.box 3 rfl))) (s_callv (wgE rfl rfl rfl hg1) rfl rfl (pc_call Tryz.func29 rfl Tryz_nm29 rfl) (Tryz_laws_eqIntsResult (by assumption) (H31.msees 7 rfl) (by assumption) (H31.sees 8 rfl)) (fun w18 e18 => s_val (wgE rfl rfl rfl hg1) rfl rfl (py_not rfl) (kk1 _ _ (kx rfl (kx rfl (kx rfl (kx rfl k0)))) rfl (Ext.refl.trans e18)))))) (fun w17 e17 => ?_)
        have H32 := H31.to e17
        refine s_val (wn rfl) rfl rfl (py_bor rfl rfl) ?_
        refine s_nil ?_
        refine W_if rfl (fun c4 => ?_) (fun c4 => ?_)
        · exact absurd c4 (by simp; omega)
        · refine W_skip ?_
          refine W_seq ?_
          refine W_reg ?_
          refine s_val (wn rfl) rfl rfl (py_assign rfl) ?_
          refine s_nil ?_
          refine W_seq ?_
          refine W_reg ?_
          refine s_val (wn rfl) rfl rfl (py_loadS Tryz.underlying50 rfl Tryz.sizeOf50 rfl rfl (At.whole (H32.box 8 rfl))) (s_val (wn rfl) rfl rfl (py_move rfl) ?_)
          refine s_call (wn rfl) rfl rfl (pc_call Tryz.func30 rfl Tryz_nm30 rfl) (Tryz_laws_markIntsResult (H32.mine 7 rfl) (H32.nodup1 (i := 7) rfl) (by constructor <;> omega)) (fun v10 w19 r10 => ?_)
          obtain ⟨rfl, mx2, mm2, ml2, mk1⟩ := r10
          obtain ⟨fp7, H33⟩ := H32.mut 7 rfl mm2
          try dsimp only [List.nil_append, List.cons_append, List.set_cons_zero, List.set_cons_succ] at H33
          refine s_val (wn rfl) rfl rfl (py_assign rfl) ?_
          refine s_nil ?_
          refine W_seq ?_
          refine W_reg ?_
          refine s_val (wn rfl) rfl rfl (py_assign rfl) ?_
          refine s_nil ?_
          refine W_seq ?_
          refine W_reg ?_
          refine s_val (wn rfl) rfl rfl (py_loadS Tryz.underlying50 rfl Tryz.sizeOf50 rfl rfl (At.whole (H33.box 8 rfl))) (s_val (wn rfl) rfl rfl (py_move rfl) ?_)
          refine s_call (wn rfl) rfl rfl (pc_call Tryz.func31 rfl Tryz_nm31 rfl) (Tryz_laws_heldIntsResult (H33.msees 7 rfl) (by constructor <;> omega) (by assumption)) (fun v11 w20 r11 => ?_)
          obtain ⟨e20, rfl⟩ := r11
          have H34 := H33.to e20
          refine s_val (wn rfl) rfl rfl (py_assign rfl) ?_
          refine s_nil ?_
          refine W_seq ?_
          refine W_seq ?_
          refine W_reg ?_
          refine s_val (wn rfl) rfl rfl (py_move rfl) (s_val (wn rfl) rfl rfl (py_lss rfl rfl) ?_)
          refine s_nil ?_
          refine W_ifd rfl (fun c5 => ?_) (fun c5 => ?_)
          · exact absurd c5 (by omega)
          · refine W_skip ?_
            refine W_seq ?_
            refine W_seq ?_
            refine W_reg ?_
            refine s_val (wn rfl) rfl rfl (py_move rfl) (s_val (wn rfl) rfl rfl (py_move rfl) (s_val (wn rfl) rfl rfl (py_neq rfl rfl) ?_))
            refine s_nil ?_
            refine W_ifd rfl (fun c6 => ?_) (fun c6 => ?_)
            · exact absurd c6 (by omega)
            · refine W_skip ?_
              refine W_seq ?_
              refine W_reg ?_
              refine s_val (wn rfl) rfl rfl (py_loadS Tryz.underlying28 rfl Tryz.sizeOf28 rfl rfl (At.whole (H34.box 0 rfl))) ?_
              refine s_call (wn rfl) rfl rfl (pc_call Tryz.func17 rfl Tryz_nm17 rfl) (Tryz_laws_toWorld (by assumption) (H34.sees 0 rfl) (H34.sees 1 rfl) (H34.sees 2 rfl) (by assumption)) (fun v12 w21 r12 => ?_)
              obtain ⟨e21, sa12, sk12, sa13, sk13, sa14, sk14, rfl, r12⟩ := r12
              obtain ⟨fp8, H35⟩ := H34.res e21 r12
              have H36 := H35.share 10 rfl
              obtain ⟨sf9, sf10, sf11, sq5, sok5, so9, so10, so11⟩ := own_WldC (H36.seen 13 rfl)
              have H38 := H36.look1 13 rfl so9 (fun b hb => by rw [sq5]; simp [hb])
              have H39 := H38.look1 13 rfl so10 (fun b hb => by rw [sq5]; simp [hb])
              have H40 := H39.look1 13 rfl so11 (fun b hb => by rw [sq5]; simp [hb])
              refine s_val (wn rfl) rfl rfl (py_move rfl) ?_
              refine s_call (wn rfl) rfl rfl (pc_call Tryz.func28 rfl Tryz_nm28 rfl) (Tryz_impl_WipedOf (by assumption) (H40.sees 14 rfl) (H40.sees 15 rfl) (H40.sees 16 rfl)) (fun v13 w22 r13 => ?_)
              obtain ⟨e22, sa15, sk15, rfl, r13⟩ := r13
              obtain ⟨fp9, H41⟩ := H40.res e22 r13
              have H42 := H41.share 11 rfl
              obtain ⟨sf12, sq6, sok6, so12⟩ := own_IntsResultC (H42.seen 17 rfl)
              have H44 := H42.look1 17 rfl so12 (fun b hb => by rw [sq6]; simp [hb])
              refine s_var (wn rfl) rfl Tryz.zeroValue50 H44 (fun b5 w23 e23 g5 H45 => ?_)
              refine s_stoS (wn rfl) Tryz.sizeOf50 rfl rfl rfl rfl H45 12 rfl rfl (fun w24 e24 H46 => ?_)
              dsimp only [List.nil_append, List.cons_append, List.set_cons_zero, List.set_cons_succ, layL] at H46
              refine s_nil ?_
              refine W_seq ?_
              refine W_seq ?_
              refine W_reg ?_
              refine s_val (wn rfl) rfl rfl (py_loadS Tryz.underlying50 rfl Tryz.sizeOf50 rfl rfl (At.whole (H46.box 12 rfl))) (s_val (wn rfl) rfl rfl (py_loadS Tryz.underlying50 rfl Tryz.sizeOf50 rfl rfl (At.whole (H46.box 3 rfl))) ?_)
              refine s_call (wn rfl) rfl rfl (pc_call Tryz.func29 rfl Tryz_nm29 rfl) (Tryz_laws_eqIntsResult (by assumption) (H46.sees 18 rfl) (by assumption) (H46.sees 8 rfl)) (fun v14 w25 r14 => ?_)
              obtain ⟨e25, rfl⟩ := r14
              have H47 := H46.to e25
              refine s_val (wn rfl) rfl rfl (py_not rfl) ?_
              refine s_nil ?_
              refine W_if rfl (fun c7 => ?_) (fun c7 => ?_)
              · exfalso; simp_all
              · refine W_skip ?_
                refine W_seq ?_
                refine W_reg ?_
                refine s_val (wn rfl) rfl rfl (py_assign rfl) ?_
                refine s_nil ?_
                refine W_seq ?_
                refine W_reg ?_
                refine s_val (wn rfl) rfl rfl (py_loadS Tryz.underlying50 rfl Tryz.sizeOf50 rfl rfl (At.whole (H47.box 8 rfl))) (s_val (wn rfl) rfl rfl (py_move rfl) ?_)
                refine s_call (wn rfl) rfl rfl (pc_call Tryz.func31 rfl Tryz_nm31 rfl) (Tryz_laws_heldIntsResult (H47.msees 7 rfl) (by constructor <;> omega) (by assumption)) (fun v15 w26 r15 => ?_)
                obtain ⟨e26, rfl⟩ := r15
                have H48 := H47.to e26
                refine s_val (wn rfl) rfl rfl (py_assign rfl) ?_
                refine s_nil ?_
                refine W_seq ?_
                refine W_seq ?_
                refine W_reg ?_
                refine s_val (wn rfl) rfl rfl (py_move rfl) (s_val (wn rfl) rfl rfl (py_lss rfl rfl) ?_)
                refine s_nil ?_
                refine W_ifd rfl (fun c8 => ?_) (fun c8 => ?_)
                · exact absurd c8 (by omega)
                · refine W_skip ?_
                  refine W_seq ?_
                  refine W_seq ?_
                  refine W_reg ?_
                  refine s_val (wn rfl) rfl rfl (py_move rfl) (s_val (wn rfl) rfl rfl (py_move rfl) (s_val (wn rfl) rfl rfl (py_neq rfl rfl) ?_))
                  refine s_nil ?_
                  refine W_ifd rfl (fun c9 => ?_) (fun c9 => ?_)
                  · exact absurd c9 (by omega)
                  · refine W_skip ?_
                    refine W_seq ?_
                    refine W_reg ?_
                    refine s_val (wn rfl) rfl rfl (py_assign rfl) ?_
                    refine s_nil ?_
                    refine W_ret (hQ _ _ (fin1 Tryz.results5 rfl ?_))
                    exact ⟨H48.ext, rfl⟩
end Go.Wk
