/-
  Laws on walking, and the functions walked, each once: what this claim comes to.
-/
import Derived.Test.YthfpkjhjkbpbiaaGreatZb3
set_option linter.unusedVariables false
set_option linter.unusedSimpArgs false
namespace Go.Wk
open Go.Proofs Rp
set_option maxRecDepth 10000
theorem Tryz_impl_World_spent_3 {w : World} {x : Rec} {xA6 : Option Addr} {xC6 : Nat} {xA7 : Option Addr} {xC7 : Nat} {xA8 : Option Addr} {xC8 : Nat} {rb : Nat} {r : Rec} {rA6 : Option Addr} {rC6 : Nat} {rA7 : Option Addr} {rC7 : Nat} {rA8 : Option Addr} {rC8 : Nat} (xK : x.Ok) (xS6 : Sees w [.slice xA6 x.Rows.length xC6] x.Rows) (xS7 : Sees w [.slice xA7 x.Data.length xC7] x.Data) (xS8 : Sees w [.slice xA8 x.Delta.length xC8] x.Delta) (rB : w.heap[rb]? = some (.cells [.int .i64 r.Kind, .int .i64 r.Seq, .string r.Name, .int .i64 r.Length, .int .i64 r.Group, .int .i64 r.Row, .slice rA6 r.Rows.length rC6, .slice rA7 r.Data.length rC7, .slice rA8 r.Delta.length rC8].toArray 68)) (rK : r.Ok) (rS6 : Sees w [.slice rA6 r.Rows.length rC6] r.Rows) (rS7 : Sees w [.slice rA7 r.Data.length rC7] r.Data) (rS8 : Sees w [.slice rA8 r.Delta.length rC8] r.Delta) : Ret Tryz.prog 251 #[x.val xA6 xC6 xA7 xC7 xA8 xC8, .pointer (some ⟨rb, 0, none⟩)] w fun v w' => Ext No w w' ∧ (v = .bool (spS r x)) := by
 have xK2 := xK
 unfold Rec.Ok at xK2
 try unfold I64ok at xK2
 try unfold maxLen at xK2
 have xN2 : x.Name.size ≤ maxLen := by unfold maxLen; omega
 have xL6 := sees_len xS6
 unfold maxLen at xL6
 obtain ⟨xF6, xO6⟩ := xS6
 have xL7 := sees_len xS7
 unfold maxLen at xL7
 obtain ⟨xF7, xO7⟩ := xS7
 have xL8 := sees_len xS8
 unfold maxLen at xL8
 obtain ⟨xF8, xO8⟩ := xS8
 have rK2 := rK
 unfold Rec.Ok at rK2
 try unfold I64ok at rK2
 try unfold maxLen at rK2
 have rN2 : r.Name.size ≤ maxLen := by unfold maxLen; omega
 have rL6 := sees_len rS6
 unfold maxLen at rL6
 obtain ⟨rF6, rO6⟩ := rS6
 have rL7 := sees_len rS7
 unfold maxLen at rL7
 obtain ⟨rF7, rO7⟩ := rS7
 have rL8 := sees_len rS8
 unfold maxLen at rL8
 obtain ⟨rF8, rO8⟩ := rS8
 refine ret_Q (vs := [x.val xA6 xC6 xA7 xC7 xA8 xC8, .pointer (some ⟨rb, 0, none⟩)]) Tryz.func251 rfl Tryz.ntmps251 rfl (fun Q hQ hN => ?_)
 have H0 := Sep.start (w := w) (F := [seen false [.slice xA6 x.Rows.length xC6] x.Rows xF6, seen false [.slice xA7 x.Data.length xC7] x.Data xF7, seen false [.slice xA8 x.Delta.length xC8] x.Delta xF8, box rb (.cells [.int .i64 r.Kind, .int .i64 r.Seq, .string r.Name, .int .i64 r.Length, .int .i64 r.Group, .int .i64 r.Row, .slice rA6 r.Rows.length rC6, .slice rA7 r.Data.length rC7, .slice rA8 r.Delta.length rC8].toArray 68), seen false [.slice rA6 r.Rows.length rC6] r.Rows rF6, seen false [.slice rA7 r.Data.length rC7] r.Data rF7, seen false [.slice rA8 r.Delta.length rC8] r.Delta rF8]) (all_cons xO6 (all_cons xO7 (all_cons xO8 (all_cons (by exact rB) (all_cons rO6 (all_cons rO7 (all_cons rO8 (by simp))))))))
 refine W_sr (s_box (wn rfl) rfl rfl H0 (fun b1 w1 e1 g1 H1 => ?_))
 refine sV rfl (py_assign rfl) (s_nil (W_sr (sV rfl (py_field Tryz.underlying68 rfl Tryz.sizeOf2 rfl rfl) (sV rfl (py_load Tryz.underlying2 rfl rfl (cell_atL (H1.box 0 rfl) rfl)) (sV rfl (py_eql rfl rfl) (sV rfl (py_move rfl) (s_grp 5 (j := 3) (want := true) (t := 12) rfl rfl rfl rfl (fun hg1 kk1 => s_val (wgE rfl rfl rfl hg1) rfl rfl (py_field Tryz.underlying68 rfl Tryz.sizeOf2 rfl rfl) (s_val (wgE rfl rfl rfl hg1) rfl rfl (py_load Tryz.underlying2 rfl rfl (cell_atL (H1.box 0 rfl) rfl)) (s_val (wgE rfl rfl rfl hg1) rfl rfl (py_field Tryz.underlying68 rfl Tryz.sizeOf2 rfl rfl) (s_val (wgE rfl rfl rfl hg1) rfl rfl (py_load Tryz.underlying2 rfl rfl (cell_atL (H1.fbox 3 rfl) rfl)) (s_val (wgE rfl rfl rfl hg1) rfl rfl (py_eql rfl rfl) (kk1 _ _ (kx rfl (kx rfl (kx rfl (kx rfl (kx rfl k0))))) rfl Ext.refl)))))) (fun w2 e2 => ?_))))))))
 have H2 := H1.to e2
 refine sV rfl (py_band rfl rfl) (sV rfl (py_move rfl) (s_grp 24 (j := 10) (want := false) (t := 38) rfl rfl rfl rfl (fun hg2 kk2 => s_val (wgE rfl rfl rfl hg2) rfl rfl (py_field Tryz.underlying68 rfl Tryz.sizeOf2 rfl rfl) (s_val (wgE rfl rfl rfl hg2) rfl rfl (py_load Tryz.underlying2 rfl rfl (cell_atL (H2.box 0 rfl) rfl)) (s_val (wgE rfl rfl rfl hg2) rfl rfl (py_eql rfl rfl) (s_val (wgE rfl rfl rfl hg2) rfl rfl (py_move rfl) (s_grp 5 (j := 14) (want := true) (t := 23) rfl rfl rfl rfl (fun hg3 kk3 => s_val (wgE rfl rfl rfl hg3) rfl rfl (py_field Tryz.underlying68 rfl Tryz.sizeOf2 rfl rfl) (s_val (wgE rfl rfl rfl hg3) rfl rfl (py_load Tryz.underlying2 rfl rfl (cell_atL (H2.box 0 rfl) rfl)) (s_val (wgE rfl rfl rfl hg3) rfl rfl (py_field Tryz.underlying68 rfl Tryz.sizeOf2 rfl rfl) (s_val (wgE rfl rfl rfl hg3) rfl rfl (py_load Tryz.underlying2 rfl rfl (cell_atL (H2.fbox 3 rfl) rfl)) (s_val (wgE rfl rfl rfl hg3) rfl rfl (py_eql rfl rfl) (kk3 _ _ (kx rfl (kx rfl (kx rfl (kx rfl (kx rfl k0))))) rfl Ext.refl)))))) (fun w4 e4 => s_val (wgE rfl rfl rfl hg2) rfl rfl (py_band rfl rfl) (s_val (wgE rfl rfl rfl hg2) rfl rfl (py_move rfl) (s_grp 5 (j := 21) (want := true) (t := 30) rfl rfl rfl rfl (fun hg4 kk4 => s_val (wgE rfl rfl rfl hg4) rfl rfl (py_field Tryz.underlying68 rfl Tryz.sizeOf2 rfl rfl) (s_val (wgE rfl rfl rfl hg4) rfl rfl (py_load Tryz.underlying2 rfl rfl (cell_atL ((H2.to e4).box 0 rfl) rfl)) (s_val (wgE rfl rfl rfl hg4) rfl rfl (py_field Tryz.underlying68 rfl Tryz.sizeOf2 rfl rfl) (s_val (wgE rfl rfl rfl hg4) rfl rfl (py_load Tryz.underlying2 rfl rfl (cell_atL ((H2.to e4).fbox 3 rfl) rfl)) (s_val (wgE rfl rfl rfl hg4) rfl rfl (py_eql rfl rfl) (kk4 _ _ (kx rfl (kx rfl (kx rfl (kx rfl (kx rfl k0))))) rfl Ext.refl)))))) (fun w5 e5 => s_val (wgE rfl rfl rfl hg2) rfl rfl (py_band rfl rfl) (s_val (wgE rfl rfl rfl hg2) rfl rfl (py_move rfl) (s_grp 5 (j := 28) (want := true) (t := 37) rfl rfl rfl rfl (fun hg5 kk5 => s_val (wgE rfl rfl rfl hg5) rfl rfl (py_field Tryz.underlying68 rfl Tryz.sizeOf2 rfl rfl) (s_val (wgE rfl rfl rfl hg5) rfl rfl (py_load Tryz.underlying2 rfl rfl (cell_atL (((H2.to e4).to e5).box 0 rfl) rfl)) (s_val (wgE rfl rfl rfl hg5) rfl rfl (py_field Tryz.underlying68 rfl Tryz.sizeOf2 rfl rfl) (s_val (wgE rfl rfl rfl hg5) rfl rfl (py_load Tryz.underlying2 rfl rfl (cell_atL (((H2.to e4).to e5).fbox 3 rfl) rfl)) (s_val (wgE rfl rfl rfl hg5) rfl rfl (py_gtr rfl rfl) (kk5 _ _ (kx rfl (kx rfl (kx rfl (kx rfl (kx rfl k0))))) rfl Ext.refl)))))) (fun w6 e6 => s_val (wgE rfl rfl rfl hg2) rfl rfl (py_band rfl rfl) (kk2 _ _ (kx rfl (kx rfl (kx rfl (kx rfl (kx rfl (kx rfl (kx rfl (kx rfl (kx rfl (kx rfl (kx rfl (kx rfl k0)))))))))))) rfl (((Ext.refl.trans e4).trans e5).trans e6)))))))))))))) (fun w3 e3 => ?_)))
 have H6 := H2.to e3
 refine sV rfl (py_bor rfl rfl) (sV rfl (py_assign rfl) (s_nil (W_ret (hQ _ _ (fin1 Tryz.results251 rfl ?_)))))
 exact ⟨H6.ext, congrArg Value.bool (by unfold spS; simp only [Bool.and_assoc])⟩
theorem Tryz_impl_World_spent {w : World} {zp : Option Addr} {xs : List Rec} {xsA : Option Addr} {xsC a : Nat} (xsS : Sees w [.slice xsA xs.length xsC] xs) (ha : a < xs.length) (hk4 : (xs.getD a default).Kind = 4) : Ret Tryz.prog 149 #[.pointer zp, .slice xsA xs.length xsC, .int .i64 a] w fun v w' => Ext No w w' ∧ (v = .bool (xs.any (spS (xs.getD a default)))) := by
 have xsL := sees_len xsS
 unfold maxLen at xsL
 obtain ⟨xsF, xsO⟩ := xsS
 refine ret_Q (vs := [.pointer zp, .slice xsA xs.length xsC, .int .i64 a]) Tryz.func149 rfl Tryz.ntmps149 rfl (fun Q hQ hN => ?_)
 have H0 := Sep.start (w := w) (F := [seen false [.slice xsA xs.length xsC] xs xsF]) (all_cons xsO (by simp))
 refine W_sr (sV rfl (py_assign rfl) (s_nil (W_seq ?_)))
 obtain ⟨eb1, eo1, es1, ef1, ee1, ec1, eO1, eH1, em1⟩ := elem_st (H0.seen 0 rfl) a (by omega)
 obtain ⟨ea1, ek1, ea2, ek2, ea3, ek3, eg1, eg2, eg3, rfl, eq1, eK1, eo2, eo3, eo4⟩ := own_Rec eO1
 have eK1U := eK1
 unfold Rec.Ok at eK1U
 try unfold I64ok at eK1U
 try unfold maxLen at eK1U
 have eP1 := H0.look1 0 rfl eo2 (fun b hb => eH1 b (by rw [eq1]; simp [hb]))
 have eL1 := own_len_le eo2
 unfold maxLen at eL1
 have eP2 := eP1.look1 0 rfl eo3 (fun b hb => eH1 b (by rw [eq1]; simp [hb]))
 have eL2 := own_len_le eo3
 unfold maxLen at eL2
 have eP3 := eP2.look1 0 rfl eo4 (fun b hb => eH1 b (by rw [eq1]; simp [hb]))
 have eL3 := own_len_le eo4
 unfold maxLen at eL3
 refine W_reg (sV rfl (py_move rfl) (sV rfl (py_move rfl) (sV rfl (py_elz Tryz.underlying30 Tryz.sizeOf68 rfl rfl ee1 a (by omega) (by omega)) (sV rfl (py_loadS Tryz.underlying68 rfl Tryz.sizeOf68 rfl rfl ec1) (s_var (wn rfl) rfl Tryz.zeroValue68 eP3 (fun b1 w1 e1 g1 H1 => ?_))))))
 refine s_stoS (wn rfl) Tryz.sizeOf68 rfl rfl rfl rfl H1 0 rfl rfl (fun w2 e2 H2 => ?_)
 dsimp only [List.nil_append, List.cons_append, List.set_cons_zero, List.set_cons_succ, layL] at H2
 refine s_nil (W_seq (W_sr (sV rfl (py_field Tryz.underlying68 rfl Tryz.sizeOf2 rfl rfl) (sV rfl (py_load Tryz.underlying2 rfl rfl (cell_atL (H2.box 0 rfl) rfl)) (s_nil (W_block (W_sr (sV rfl (py_eql rfl rfl) (sV rfl (py_assign rfl) (s_nil (W_ifd rfl (fun c1 => ?_) (fun c1 => ?_))))))))))))
 ·exact absurd c1 (by omega)
 ·refine W_sr (sV rfl (py_eql rfl rfl) (sV rfl (py_assign rfl) (s_nil (W_ifd rfl (fun c2 => ?_) (fun c2 => ?_)))))
  ·exact absurd c2 (by omega)
  ·refine W_sr (sV rfl (py_eql rfl rfl) (sV rfl (py_assign rfl) (s_nil (W_ifd rfl (fun c3 => ?_) (fun c3 => ?_)))))
   ·exact absurd c3 (by omega)
   ·refine W_skip (W_sr (sV rfl (py_move rfl) (sV rfl (py_func rfl) (s_call (wn rfl) rfl rfl (pc_call Tryz.func221 rfl Tryz_nm221 rfl) (Tryz_ContainsFunc_Rec (H2.sees 0 rfl) (p := (spS (xs.getD a default))) Tryz.func251 rfl Tryz_nm251 (fun w1 e1 i0 hi0 _ _ _ _ _ _ K0 o0_6 o0_7 o0_8 => Tryz_impl_World_spent_3 K0 o0_6 o0_7 o0_8 ((H2.to e1).box 0 rfl) (by assumption) ((H2.to e1).sees 1 rfl) ((H2.to e1).sees 2 rfl) ((H2.to e1).sees 3 rfl))) (fun v1 w3 r1 => ?_)))))
    obtain ⟨e3, rfl⟩ := r1
    have H3 := H2.to e3
    refine sV rfl (py_assign rfl) (s_nil (W_ret (hQ _ _ (fin1 Tryz.results149 rfl ?_))))
    exact ⟨H3.ext, rfl⟩
theorem Tryz_spec_l6IsSpent {w : World} {s : Shape} {xs : List Rec} {xsA : Option Addr} {xsC a : Nat} (xsS : Sees w [.slice xsA xs.length xsC] xs) (ha : a < xs.length) (hk4 : (xs.getD a default).Kind = 4) : Ret Tryz.prog 140 #[s.v, .slice xsA xs.length xsC, .int .i64 a] w fun v w' => Ext No w w' ∧ (v = .bool (xs.any (spS (xs.getD a default)))) := by
 have xsL := sees_len xsS
 unfold maxLen at xsL
 obtain ⟨xsF, xsO⟩ := xsS
 refine ret_Q (vs := [s.v, .slice xsA xs.length xsC, .int .i64 a]) Tryz.func140 rfl Tryz.ntmps140 rfl (fun Q hQ hN => ?_)
 have H0 := Sep.start (w := w) (F := [seen false [.slice xsA xs.length xsC] xs xsF]) (all_cons xsO (by simp))
 refine W_sr (s_box (wn rfl) rfl rfl H0 (fun b1 w1 e1 g1 H1 => ?_))
 refine sV rfl (py_assign rfl) (s_nil (W_seq ?_))
 obtain ⟨eb1, eo1, es1, ef1, ee1, ec1, eO1, eH1, em1⟩ := elem_st (H1.seen 0 rfl) a (by omega)
 obtain ⟨ea1, ek1, ea2, ek2, ea3, ek3, eg1, eg2, eg3, rfl, eq1, eK1, eo2, eo3, eo4⟩ := own_Rec eO1
 have eK1U := eK1
 unfold Rec.Ok at eK1U
 try unfold I64ok at eK1U
 try unfold maxLen at eK1U
 have eP1 := H1.look1 0 rfl eo2 (fun b hb => eH1 b (by rw [eq1]; simp [hb]))
 have eL1 := own_len_le eo2
 unfold maxLen at eL1
 have eP2 := eP1.look1 0 rfl eo3 (fun b hb => eH1 b (by rw [eq1]; simp [hb]))
 have eL2 := own_len_le eo3
 unfold maxLen at eL2
 have eP3 := eP2.look1 0 rfl eo4 (fun b hb => eH1 b (by rw [eq1]; simp [hb]))
 have eL3 := own_len_le eo4
 unfold maxLen at eL3
 refine W_reg (sV rfl (py_move rfl) (sV rfl (py_move rfl) (sV rfl (py_elz Tryz.underlying30 Tryz.sizeOf68 rfl rfl ee1 a (by omega) (by omega)) (sV rfl (py_loadS Tryz.underlying68 rfl Tryz.sizeOf68 rfl rfl ec1) (s_var (wn rfl) rfl Tryz.zeroValue68 eP3 (fun b2 w2 e2 g2 H2 => ?_))))))
 refine s_stoS (wn rfl) Tryz.sizeOf68 rfl rfl rfl rfl H2 1 rfl rfl (fun w3 e3 H3 => ?_)
 dsimp only [List.nil_append, List.cons_append, List.set_cons_zero, List.set_cons_succ, layL] at H3
 refine s_nil (W_seq (W_sr (sV rfl (py_field Tryz.underlying68 rfl Tryz.sizeOf2 rfl rfl) (sV rfl (py_load Tryz.underlying2 rfl rfl (cell_atL (H3.box 1 rfl) rfl)) (sV rfl (py_eql rfl rfl) (s_nil (W_ifd rfl (fun c1 => ?_) (fun c1 => ?_))))))))
 ·exact absurd c1 (by omega)
 ·refine W_skip (W_seq (W_sr (sV rfl (py_field Tryz.underlying68 rfl Tryz.sizeOf2 rfl rfl) (sV rfl (py_load Tryz.underlying2 rfl rfl (cell_atL (H3.box 1 rfl) rfl)) (sV rfl (py_eql rfl rfl) (s_nil (W_ifd rfl (fun c2 => ?_) (fun c2 => ?_))))))))
  ·exact absurd c2 (by omega)
  ·refine W_skip (W_seq (W_sr (sV rfl (py_assign rfl) (s_nil (W_block (W_loopS (γ := Nat) H3 [(1, _), (7, _)] ⟨rfl, rfl, trivial⟩ (fun k => [(8, .int .i64 k)]) (fun k => k ≤ xs.length ∧ (∀ i, i < k → spS (xs.getD a default) (xs.getD i default) = false)) (fun k => xs.length - k) 0 ⟨rfl, trivial⟩ ⟨by omega, fun i hi => by omega⟩ (fun k w4 H4 ⟨hk, he⟩ => ?_)))))))
   dsimp only [List.cons_append, List.nil_append]
   refine W_seq (W_sr (sV rfl (py_move rfl) (sV rfl (py_move rfl) (sV rfl (py_len Tryz.underlying30 rfl) (sV rfl (py_lss rfl rfl) (s_nil (W_ifd rfl (fun c3 => ?_) (fun c3 => ?_))))))))
   ·refine W_skip (W_seq (W_block (W_seq ?_)))
    obtain ⟨eb2, eo5, es2, ef2, ee2, ec2, eO2, eH2, em2⟩ := elem_st (H4.seen 0 rfl) k (by omega)
    obtain ⟨ea4, ek4, ea5, ek5, ea6, ek6, eg4, eg5, eg6, rfl, eq2, eK2, eo6, eo7, eo8⟩ := own_Rec eO2
    have eK2U := eK2
    unfold Rec.Ok at eK2U
    try unfold I64ok at eK2U
    try unfold maxLen at eK2U
    have eP4 := H4.look1 0 rfl eo6 (fun b hb => eH2 b (by rw [eq2]; simp [hb]))
    have eL4 := own_len_le eo6
    unfold maxLen at eL4
    have eP5 := eP4.look1 0 rfl eo7 (fun b hb => eH2 b (by rw [eq2]; simp [hb]))
    have eL5 := own_len_le eo7
    unfold maxLen at eL5
    have eP6 := eP5.look1 0 rfl eo8 (fun b hb => eH2 b (by rw [eq2]; simp [hb]))
    have eL6 := own_len_le eo8
    unfold maxLen at eL6
    refine W_reg (sV rfl (py_move rfl) (sV rfl (py_move rfl) (sV rfl (py_elz Tryz.underlying30 Tryz.sizeOf68 rfl rfl ee2 k (by omega) (by omega)) (sV rfl (py_loadS Tryz.underlying68 rfl Tryz.sizeOf68 rfl rfl ec2) (s_var (wn rfl) rfl Tryz.zeroValue68 eP6 (fun b3 w5 e4 g3 H5 => ?_))))))
    refine s_stoS (wn rfl) Tryz.sizeOf68 rfl rfl rfl rfl H5 2 rfl rfl (fun w6 e5 H6 => ?_)
    dsimp only [List.nil_append, List.cons_append, List.set_cons_zero, List.set_cons_succ, layL] at H6
    refine s_nil (W_seq (W_sr (sV rfl (py_field Tryz.underlying68 rfl Tryz.sizeOf2 rfl rfl) (sV rfl (py_load Tryz.underlying2 rfl rfl (cell_atL (H6.box 1 rfl) rfl)) (sV rfl (py_eql rfl rfl) (sV rfl (py_move rfl) (s_grp 3 (j := 3) (want := true) (t := 46) rfl rfl rfl rfl (fun hg1 kk1 => s_val (wgE rfl rfl rfl hg1) rfl rfl (py_field Tryz.underlying68 rfl Tryz.sizeOf2 rfl rfl) (s_val (wgE rfl rfl rfl hg1) rfl rfl (py_load Tryz.underlying2 rfl rfl (cell_atL (H6.box 2 rfl) rfl)) (s_val (wgE rfl rfl rfl hg1) rfl rfl (py_eql rfl rfl) (kk1 _ _ (kx rfl (kx rfl (kx rfl k0))) rfl Ext.refl)))) (fun w7 e6 => ?_))))))))
    have H7 := H6.to e6
    refine sV rfl (py_band rfl rfl) (sV rfl (py_move rfl) (s_grp 5 (j := 8) (want := true) (t := 53) rfl rfl rfl rfl (fun hg2 kk2 => s_val (wgE rfl rfl rfl hg2) rfl rfl (py_field Tryz.underlying68 rfl Tryz.sizeOf2 rfl rfl) (s_val (wgE rfl rfl rfl hg2) rfl rfl (py_load Tryz.underlying2 rfl rfl (cell_atL (H7.box 2 rfl) rfl)) (s_val (wgE rfl rfl rfl hg2) rfl rfl (py_field Tryz.underlying68 rfl Tryz.sizeOf2 rfl rfl) (s_val (wgE rfl rfl rfl hg2) rfl rfl (py_load Tryz.underlying2 rfl rfl (cell_atL (H7.box 1 rfl) rfl)) (s_val (wgE rfl rfl rfl hg2) rfl rfl (py_eql rfl rfl) (kk2 _ _ (kx rfl (kx rfl (kx rfl (kx rfl (kx rfl k0))))) rfl Ext.refl)))))) (fun w8 e7 => ?_)))
    have H8 := H7.to e7
    refine sV rfl (py_band rfl rfl) (s_nil (W_if rfl (fun c4 => ?_) (fun c4 => ?_)))
    ·exfalso; rw [hk4] at c4; simp at c4
    ·refine W_skip (W_sr (sV rfl (py_field Tryz.underlying68 rfl Tryz.sizeOf2 rfl rfl) (sV rfl (py_load Tryz.underlying2 rfl rfl (cell_atL (H8.box 1 rfl) rfl)) (sV rfl (py_eql rfl rfl) (sV rfl (py_move rfl) (s_grp 36 (j := 3) (want := true) (t := 94) rfl rfl rfl rfl (fun hg3 kk3 => s_val (wgE rfl rfl rfl hg3) rfl rfl (py_field Tryz.underlying68 rfl Tryz.sizeOf2 rfl rfl) (s_val (wgE rfl rfl rfl hg3) rfl rfl (py_load Tryz.underlying2 rfl rfl (cell_atL (H8.box 2 rfl) rfl)) (s_val (wgE rfl rfl rfl hg3) rfl rfl (py_eql rfl rfl) (s_val (wgE rfl rfl rfl hg3) rfl rfl (py_move rfl) (s_grp 5 (j := 7) (want := true) (t := 67) rfl rfl rfl rfl (fun hg4 kk4 => s_val (wgE rfl rfl rfl hg4) rfl rfl (py_field Tryz.underlying68 rfl Tryz.sizeOf2 rfl rfl) (s_val (wgE rfl rfl rfl hg4) rfl rfl (py_load Tryz.underlying2 rfl rfl (cell_atL (H8.box 2 rfl) rfl)) (s_val (wgE rfl rfl rfl hg4) rfl rfl (py_field Tryz.underlying68 rfl Tryz.sizeOf2 rfl rfl) (s_val (wgE rfl rfl rfl hg4) rfl rfl (py_load Tryz.underlying2 rfl rfl (cell_atL (H8.box 1 rfl) rfl)) (s_val (wgE rfl rfl rfl hg4) rfl rfl (py_eql rfl rfl) (kk4 _ _ (kx rfl (kx rfl (kx rfl (kx rfl (kx rfl k0))))) rfl Ext.refl)))))) (fun w10 e9 => s_val (wgE rfl rfl rfl hg3) rfl rfl (py_band rfl rfl) (s_val (wgE rfl rfl rfl hg3) rfl rfl (py_move rfl) (s_grp 24 (j := 14) (want := false) (t := 93) rfl rfl rfl rfl (fun hg5 kk5 => s_val (wgE rfl rfl rfl hg5) rfl rfl (py_field Tryz.underlying68 rfl Tryz.sizeOf2 rfl rfl) (s_val (wgE rfl rfl rfl hg5) rfl rfl (py_load Tryz.underlying2 rfl rfl (cell_atL ((H8.to e9).box 2 rfl) rfl)) (s_val (wgE rfl rfl rfl hg5) rfl rfl (py_eql rfl rfl) (s_val (wgE rfl rfl rfl hg5) rfl rfl (py_move rfl) (s_grp 5 (j := 18) (want := true) (t := 78) rfl rfl rfl rfl (fun hg6 kk6 => s_val (wgE rfl rfl rfl hg6) rfl rfl (py_field Tryz.underlying68 rfl Tryz.sizeOf2 rfl rfl) (s_val (wgE rfl rfl rfl hg6) rfl rfl (py_load Tryz.underlying2 rfl rfl (cell_atL ((H8.to e9).box 2 rfl) rfl)) (s_val (wgE rfl rfl rfl hg6) rfl rfl (py_field Tryz.underlying68 rfl Tryz.sizeOf2 rfl rfl) (s_val (wgE rfl rfl rfl hg6) rfl rfl (py_load Tryz.underlying2 rfl rfl (cell_atL ((H8.to e9).box 1 rfl) rfl)) (s_val (wgE rfl rfl rfl hg6) rfl rfl (py_eql rfl rfl) (kk6 _ _ (kx rfl (kx rfl (kx rfl (kx rfl (kx rfl k0))))) rfl Ext.refl)))))) (fun w12 e11 => s_val (wgE rfl rfl rfl hg5) rfl rfl (py_band rfl rfl) (s_val (wgE rfl rfl rfl hg5) rfl rfl (py_move rfl) (s_grp 5 (j := 25) (want := true) (t := 85) rfl rfl rfl rfl (fun hg7 kk7 => s_val (wgE rfl rfl rfl hg7) rfl rfl (py_field Tryz.underlying68 rfl Tryz.sizeOf2 rfl rfl) (s_val (wgE rfl rfl rfl hg7) rfl rfl (py_load Tryz.underlying2 rfl rfl (cell_atL (((H8.to e9).to e11).box 2 rfl) rfl)) (s_val (wgE rfl rfl rfl hg7) rfl rfl (py_field Tryz.underlying68 rfl Tryz.sizeOf2 rfl rfl) (s_val (wgE rfl rfl rfl hg7) rfl rfl (py_load Tryz.underlying2 rfl rfl (cell_atL (((H8.to e9).to e11).box 1 rfl) rfl)) (s_val (wgE rfl rfl rfl hg7) rfl rfl (py_eql rfl rfl) (kk7 _ _ (kx rfl (kx rfl (kx rfl (kx rfl (kx rfl k0))))) rfl Ext.refl)))))) (fun w13 e12 => s_val (wgE rfl rfl rfl hg5) rfl rfl (py_band rfl rfl) (s_val (wgE rfl rfl rfl hg5) rfl rfl (py_move rfl) (s_grp 5 (j := 32) (want := true) (t := 92) rfl rfl rfl rfl (fun hg8 kk8 => s_val (wgE rfl rfl rfl hg8) rfl rfl (py_field Tryz.underlying68 rfl Tryz.sizeOf2 rfl rfl) (s_val (wgE rfl rfl rfl hg8) rfl rfl (py_load Tryz.underlying2 rfl rfl (cell_atL ((((H8.to e9).to e11).to e12).box 2 rfl) rfl)) (s_val (wgE rfl rfl rfl hg8) rfl rfl (py_field Tryz.underlying68 rfl Tryz.sizeOf2 rfl rfl) (s_val (wgE rfl rfl rfl hg8) rfl rfl (py_load Tryz.underlying2 rfl rfl (cell_atL ((((H8.to e9).to e11).to e12).box 1 rfl) rfl)) (s_val (wgE rfl rfl rfl hg8) rfl rfl (py_gtr rfl rfl) (kk8 _ _ (kx rfl (kx rfl (kx rfl (kx rfl (kx rfl k0))))) rfl Ext.refl)))))) (fun w14 e13 => s_val (wgE rfl rfl rfl hg5) rfl rfl (py_band rfl rfl) (kk5 _ _ (kx rfl (kx rfl (kx rfl (kx rfl (kx rfl (kx rfl (kx rfl (kx rfl (kx rfl (kx rfl (kx rfl (kx rfl k0)))))))))))) rfl (((Ext.refl.trans e11).trans e12).trans e13)))))))))))))) (fun w11 e10 => s_val (wgE rfl rfl rfl hg3) rfl rfl (py_bor rfl rfl) (kk3 _ _ (kx rfl (kx rfl (kx rfl (kx rfl (kx rfl (kx rfl (kx rfl (kx rfl (kx rfl k0))))))))) rfl ((Ext.refl.trans e9).trans e10))))))))))) (fun w9 e8 => ?_)))))))
     have H14 := H8.to e8
     refine sV rfl (py_band rfl rfl) (s_nil (W_if rfl (fun c5 => ?_) (fun c5 => ?_)))
     ·refine W_sr (sV rfl (py_assign rfl) (s_nil (W_ret (hQ _ _ (fin1 Tryz.results140 rfl ?_)))))
      exact ⟨H14.ext, congrArg Value.bool (by rw [anyR_yes (k := k) (by omega) (by have hc := c5; simp only [hk4] at hc; simpa [spS, Bool.and_assoc] using hc)])⟩
     ·refine W_skip (W_reg (sV rfl (py_move rfl) (sV rfl (py_add rfl rfl (in64 ⟨by omega, by omega⟩)) (sV rfl (py_assign rfl) (s_nil (⟨k + 1, ⟨rfl, rfl, rfl, trivial⟩, ⟨((H14.ftake 4).dtake 2), by omega, fun i hi => ?_⟩, by dsimp only; omega⟩))))))
      by_cases e : i = k
      ·subst e
       have hc := c5
       simp only [hk4] at hc
       simpa [spS, Bool.and_assoc] using hc
      ·exact he i (by omega)
   ·refine W_exit (W_sr (sV rfl (py_field Tryz.underlying68 rfl Tryz.sizeOf2 rfl rfl) (sV rfl (py_load Tryz.underlying2 rfl rfl (cell_atL (H4.box 1 rfl) rfl)) (sV rfl (py_eql rfl rfl) (sV rfl (py_assign rfl) (s_nil (W_ret (hQ _ _ (fin1 Tryz.results140 rfl ?_)))))))))
    exact ⟨H4.ext, congrArg Value.bool (by rw [anyR_none (fun i hi => he i (by omega)), hk4]; rfl)⟩
theorem Tryz_spec_l8Open {w : World} {s : Shape} {xs : List Rec} {xsA : Option Addr} {xsC : Nat} {g : Int} {row : Int} (xsS : Sees w [.slice xsA xs.length xsC] xs) : Ret Tryz.prog 64 #[s.v, .slice xsA xs.length xsC, .int .i64 g, .int .i64 row] w fun v w' => Ext No w w' ∧ (v = .int .i64 (opI xs g row)) := by
 have xsL := sees_len xsS
 unfold maxLen at xsL
 obtain ⟨xsF, xsO⟩ := xsS
 refine ret_Q (vs := [s.v, .slice xsA xs.length xsC, .int .i64 g, .int .i64 row]) Tryz.func64 rfl Tryz.ntmps64 rfl (fun Q hQ hN => ?_)
 have H0 := Sep.start (w := w) (F := [seen false [.slice xsA xs.length xsC] xs xsF]) (all_cons xsO (by simp))
 refine W_sr (s_box (wn rfl) rfl rfl H0 (fun b1 w1 e1 g1 H1 => ?_))
 refine sV rfl (py_assign rfl) (s_nil (W_sr (sV rfl (py_assign rfl) (s_nil (W_seq (W_sr (sV rfl (py_assign rfl) (s_nil (W_block (W_loopS (γ := Nat) H1 [(1, _), (2, _), (3, _), (4, _), (8, _)] ⟨rfl, rfl, rfl, rfl, rfl, trivial⟩ (fun k => [(9, .int .i64 (lastTo (shP g row) xs k)), (10, .int .i64 k)]) (fun k => k ≤ xs.length ∧ True) (fun k => xs.length - k) 0 ⟨rfl, rfl, trivial⟩ ⟨by omega, trivial⟩ (fun k w2 H2 ⟨hk, _⟩ => ?_)))))))))))
 dsimp only [List.cons_append, List.nil_append]
 refine W_seq (W_sr (sV rfl (py_move rfl) (sV rfl (py_move rfl) (sV rfl (py_len Tryz.underlying30 rfl) (sV rfl (py_lss rfl rfl) (s_nil (W_ifd rfl (fun c1 => ?_) (fun c1 => ?_))))))))
 ·refine W_skip (W_seq (W_block (W_seq ?_)))
  obtain ⟨eb1, eo1, es1, ef1, ee1, ec1, eO1, eH1, em1⟩ := elem_st (H2.seen 0 rfl) k (by omega)
  obtain ⟨ea1, ek1, ea2, ek2, ea3, ek3, eg1, eg2, eg3, rfl, eq1, eK1, eo2, eo3, eo4⟩ := own_Rec eO1
  have eK1U := eK1
  unfold Rec.Ok at eK1U
  try unfold I64ok at eK1U
  try unfold maxLen at eK1U
  have eP1 := H2.look1 0 rfl eo2 (fun b hb => eH1 b (by rw [eq1]; simp [hb]))
  have eL1 := own_len_le eo2
  unfold maxLen at eL1
  have eP2 := eP1.look1 0 rfl eo3 (fun b hb => eH1 b (by rw [eq1]; simp [hb]))
  have eL2 := own_len_le eo3
  unfold maxLen at eL2
  have eP3 := eP2.look1 0 rfl eo4 (fun b hb => eH1 b (by rw [eq1]; simp [hb]))
  have eL3 := own_len_le eo4
  unfold maxLen at eL3
  refine W_reg (sV rfl (py_move rfl) (sV rfl (py_move rfl) (sV rfl (py_elz Tryz.underlying30 Tryz.sizeOf68 rfl rfl ee1 k (by omega) (by omega)) (sV rfl (py_field Tryz.underlying68 rfl Tryz.sizeOf2 rfl rfl) (sV rfl (py_load Tryz.underlying2 rfl rfl (at_cell ec1 0 rfl)) (sV rfl (py_eql rfl rfl) (sV rfl (py_move rfl) (s_grp 7 (j := 6) (want := true) (t := 30) rfl rfl rfl rfl (fun hg1 kk1 => s_val (wgE rfl rfl rfl hg1) rfl rfl (py_move rfl) (s_val (wgE rfl rfl rfl hg1) rfl rfl (py_move rfl) (s_val (wgE rfl rfl rfl hg1) rfl rfl (py_elz Tryz.underlying30 Tryz.sizeOf68 rfl rfl ee1 k (by first | omega | (simp only [Bool.or_eq_false_iff, Bool.and_eq_true, Bool.and_eq_false_iff, Bool.or_eq_true, Bool.not_eq_true', Bool.not_eq_false', decide_eq_true_eq, decide_eq_false_iff_not] at hg1; omega)) (by omega)) (s_val (wgE rfl rfl rfl hg1) rfl rfl (py_field Tryz.underlying68 rfl Tryz.sizeOf2 rfl rfl) (s_val (wgE rfl rfl rfl hg1) rfl rfl (py_load Tryz.underlying2 rfl rfl (at_cell ec1 4 rfl)) (s_val (wgE rfl rfl rfl hg1) rfl rfl (py_move rfl) (s_val (wgE rfl rfl rfl hg1) rfl rfl (py_eql rfl rfl) (kk1 _ _ (kx rfl (kx rfl (kx rfl (kx rfl (kx rfl (kx rfl (kx rfl k0))))))) rfl Ext.refl)))))))) (fun w3 e2 => ?_)))))))))
  have H3 := eP3.to e2
  refine sV rfl (py_band rfl rfl) (sV rfl (py_move rfl) (s_grp 7 (j := 15) (want := true) (t := 39) rfl rfl rfl rfl (fun hg2 kk2 => s_val (wgE rfl rfl rfl hg2) rfl rfl (py_move rfl) (s_val (wgE rfl rfl rfl hg2) rfl rfl (py_move rfl) (s_val (wgE rfl rfl rfl hg2) rfl rfl (py_elz Tryz.underlying30 Tryz.sizeOf68 rfl rfl ee1 k (by first | omega | (simp only [Bool.or_eq_false_iff, Bool.and_eq_true, Bool.and_eq_false_iff, Bool.or_eq_true, Bool.not_eq_true', Bool.not_eq_false', decide_eq_true_eq, decide_eq_false_iff_not] at hg2; omega)) (by omega)) (s_val (wgE rfl rfl rfl hg2) rfl rfl (py_field Tryz.underlying68 rfl Tryz.sizeOf2 rfl rfl) (s_val (wgE rfl rfl rfl hg2) rfl rfl (py_load Tryz.underlying2 rfl rfl (at_cell (e2.at ec1) 5 rfl)) (s_val (wgE rfl rfl rfl hg2) rfl rfl (py_move rfl) (s_val (wgE rfl rfl rfl hg2) rfl rfl (py_eql rfl rfl) (kk2 _ _ (kx rfl (kx rfl (kx rfl (kx rfl (kx rfl (kx rfl (kx rfl k0))))))) rfl Ext.refl)))))))) (fun w4 e3 => ?_)))
  have H4 := H3.to e3
  refine sV rfl (py_band rfl rfl) (s_nil (W_if rfl (fun c2 => ?_) (fun c2 => ?_)))
  ·refine W_reg (sV rfl (py_move rfl) (sV rfl (py_assign rfl) (s_nil (W_reg (sV rfl (py_move rfl) (sV rfl (py_add rfl rfl (in64 ⟨by omega, by omega⟩)) (sV rfl (py_assign rfl) (s_nil (⟨k + 1, ⟨eqI (lastTo_yes (by simpa [shP, Bool.and_assoc] using c2)).symm, rfl, rfl, rfl, rfl, rfl, rfl, trivial⟩, ⟨(H4.ftake 1), by omega, trivial⟩, by dsimp only; omega⟩)))))))))
  ·refine W_skip (W_reg (sV rfl (py_move rfl) (sV rfl (py_add rfl rfl (in64 ⟨by omega, by omega⟩)) (sV rfl (py_assign rfl) (s_nil (⟨k + 1, ⟨eqI (lastTo_no (by simpa [shP, Bool.and_assoc] using c2)).symm, rfl, rfl, rfl, rfl, rfl, rfl, trivial⟩, ⟨(H4.ftake 1), by omega, trivial⟩, by dsimp only; omega⟩))))))
 ·refine W_exit (W_seq (W_seq ?_))
  obtain rfl : k = xs.length := by omega
  have hlb := lastI_bd (p := shP g row) (rs := xs)
  refine W_reg (sV rfl (py_move rfl) (sV rfl (py_geq rfl rfl) (sV rfl (py_move rfl) (s_case (t := 44) rfl (fun hg3 => ?_) (fun hg3 => ?_)))))
  ·have hg0 : 0 ≤ (lastI (shP g row) xs) := of_decide_eq_true hg3
   refine s_val (wg rfl rfl rfl) rfl rfl (py_loadS Tryz.underlying34 rfl Tryz.sizeOf34 rfl rfl (At.whole (H2.box 0 rfl))) (s_val (wg rfl rfl rfl) rfl rfl (py_move rfl) (s_val (wg rfl rfl rfl) rfl rfl (py_move rfl) (s_call (wg rfl rfl rfl) rfl rfl (pc_call Tryz.func140 rfl Tryz_nm140 rfl) (by have hS : Sees _ [.slice xsA xs.length xsC] xs := ⟨_, own_weak (H2.seen 0 rfl)⟩; have lc := Tryz_spec_l6IsSpent (s := s) (a := (lastI (shP g row) xs).toNat) hS (by omega) ((shP_kind (lastTo_get hg0)).1); rw [Int.toNat_of_nonneg hg0] at lc; exact lc) (fun v1 w5 r1 => ?_))))
   obtain ⟨e4, rfl⟩ := r1
   have H5 := H2.to e4
   refine sV rfl (py_pickT rfl rfl) (s_nil (W_if rfl (fun c3 => ?_) (fun c3 => ?_)))
   ·refine W_sr (sV rfl (py_assign rfl) (s_nil (W_ret (hQ _ _ (fin1 Tryz.results64 rfl ?_)))))
    exact ⟨H5.ext, congrArg (Value.int .i64) (opI_spent (by omega) c3).symm⟩
   ·refine W_skip (W_sr (sV rfl (py_move rfl) (sV rfl (py_assign rfl) (s_nil (W_ret (hQ _ _ (fin1 Tryz.results64 rfl ?_)))))))
    exact ⟨H5.ext, congrArg (Value.int .i64) (opI_open (by omega) (by simpa using c3)).symm⟩
  ·have hg0 : ¬ 0 ≤ (lastI (shP g row) xs) := of_decide_eq_false hg3
   refine s_skip (wog (b := false) rfl rfl rfl) rfl rfl (s_skip (wog (b := false) rfl rfl rfl) rfl rfl (s_skip (wog (b := false) rfl rfl rfl) rfl rfl (s_skip (wog (b := false) rfl rfl rfl) rfl rfl (sV rfl (py_pickF rfl rfl) (s_nil (W_iff rfl (W_skip (W_sr (sV rfl (py_move rfl) (sV rfl (py_assign rfl) (s_nil (W_ret (hQ _ _ (fin1 Tryz.results64 rfl ?_))))))))))))))
   exact ⟨H2.ext, congrArg (Value.int .i64) (opI_none2 hg0).symm⟩
end Go.Wk
namespace Go.Wk
open Go.Proofs Rp
set_option maxRecDepth 10000
theorem Tryz_backward {w : World} {A : Option Addr} {n C : Nat} : Ret Tryz.prog 148 #[.slice A n C] w fun v w' => Ext No w w' ∧ ∃ b, w.heap.size ≤ b ∧ v = .func (.func 247) #[] #[.pointer (some ⟨b, 0, none⟩)] ∧ w'.heap[b]? = some (.cells [.slice A n C].toArray 30) := by
 refine ret_Q (vs := [.slice A n C]) Tryz.func148 rfl Tryz.ntmps148 rfl (fun Q hQ hN => ?_)
 have H0 := Sep.start (w := w) (F := []) (by simp)
 refine W_sr (s_box (wn rfl) rfl rfl H0 (fun b1 w1 e1 g1 H1 => ?_))
 dsimp only [List.nil_append, List.cons_append] at H1
 refine sV rfl (py_assign rfl) (s_nil (W_sr (sV rfl (py_func rfl) (sV rfl (py_assign rfl) (s_nil (W_ret (hQ _ _ (fin1 Tryz.results148 rfl ?_))))))))
 exact ⟨H1.ext, b1, g1, rfl, H1.box 0 rfl⟩
theorem Tryz_backgo {w : World} {l b1 n C : Nat} {A : Option Addr} {val : Nat → List Value} {J : Nat → World → Prop} {K : World → Prop} (hn : n ≤ 1000000)
  (hb : ∀ i W, J i W → W.heap[b1]? = some (.cells [.slice A n C].toArray 30))
  (hc : ∀ i W, J (i + 1) W → i < n → ∃ b o, A = some ⟨b, o, none⟩ ∧ At W b (o + i * 9) (val i))
  (hY : ∀ i W, J (i + 1) W → i < n → YieldAt (inF none) 2 Tryz.prog l #[.int .i64 (i : Nat), .agg (val i).toArray] W fun e W' => e = .returned (.bool true) ∧ J i W' ∨ e = .returned (.bool false) ∧ K W') (hv : ∀ i, (val i).length = 9) (h0 : J n w) :
  Ret Tryz.prog 247 #[.func (.yield l) #[] #[], .pointer (some ⟨b1, 0, none⟩)] w fun _ w' => J 0 w' ∨ K w' := by
 refine ret_Q (vs := [.func (.yield l) #[] #[], .pointer (some ⟨b1, 0, none⟩)]) Tryz.func247 rfl Tryz.ntmps247 rfl (fun Q hQ hN => ?_)
 refine W_sr (sV rfl (py_load Tryz.underlying30 rfl rfl (cell_atL (hb _ _ h0) rfl)) (sV rfl (py_len Tryz.underlying30 rfl) (sV rfl (py_sub rfl rfl (in64 ⟨by omega, by omega⟩)) (sV rfl (py_assign rfl) (s_nil (W_block (W_loop (γ := Nat) (fun i => [(0, .func (.yield l) #[] #[]), (1, .pointer (some ⟨b1, 0, none⟩)), (3, .int .i64 ((i : Int) - 1))]) (fun i w' => i ≤ n ∧ J i w') (fun i => i) n ⟨rfl, rfl, rfl, trivial⟩ ⟨Nat.le_refl _, h0⟩ (fun i w1 hI => ?_))))))))
 obtain ⟨hi, hJ⟩ := hI
 refine W_seq (W_sr (sV rfl (py_move rfl) (sV rfl (py_geq rfl rfl) (s_nil (W_ifd rfl (fun c1 => ?_) (fun c1 => ?_))))))
 ·obtain ⟨j, rfl⟩ : ∃ j, i = j + 1 := ⟨i - 1, by omega⟩
  have ej : ((j + 1 : Nat) : Int) - 1 = (j : Nat) := by omega
  rw [ej]
  obtain ⟨b, o, hA, hat⟩ := hc j w1 hJ (by omega)
  refine W_skip (W_seq (W_block (W_seq (W_of (WF_reg (f_val (wn rfl) rfl rfl (py_move rfl) (f_val (wn rfl) rfl rfl (py_move rfl) (f_val (wn rfl) rfl rfl (py_load Tryz.underlying30 rfl rfl (cell_atL (hb _ _ hJ) rfl)) (f_val (wn rfl) rfl rfl (py_move rfl) (f_val (wn rfl) rfl rfl (py_elz Tryz.underlying30 Tryz.sizeOf68 rfl rfl hA j rfl (by omega)) (f_val (wn rfl) rfl rfl (py_loadS Tryz.underlying68 rfl Tryz.sizeOf68 rfl (hv j) hat) (f_yield2 rfl rfl rfl rfl (hY j _ hJ (by omega)) (fun e w2 he => ?_)))))))))))))
  rcases he with ⟨rfl, hJ2⟩ | ⟨rfl, hK⟩
  ·refine ⟨_, rfl, ?_⟩
   refine f_val (wn rfl) rfl rfl (py_not rfl) (f_nil (W_iff rfl (W_skip (W_reg (sV rfl (py_move rfl) (sV rfl (py_sub rfl rfl (in64 ⟨by omega, by omega⟩)) (sV rfl (py_assign rfl) (s_nil ?_))))))))
   exact ⟨j, ⟨rfl, rfl, rfl, trivial⟩, ⟨by omega, hJ2⟩, by dsimp only; omega⟩
  ·refine ⟨_, rfl, ?_⟩
   refine f_val (wn rfl) rfl rfl (py_not rfl) (f_nil (W_ift rfl (W_ret (hQ _ _ (fin0 Tryz.results247 ?_)))))
   exact .inr hK
 ·obtain rfl : i = 0 := by omega
  refine W_exit (hN _ _ (fin0 Tryz.results247 ?_))
  exact .inl hJ
theorem Tryz_impl_World_openShare {w : World} {zb : Nat} {z : Wld} {zA9 : Option Addr} {zC9 : Nat} {zA10 : Option Addr} {zC10 : Nat} {zA11 : Option Addr} {zC11 : Nat} {zF9 : List Nat} {zF10 : List Nat} {zF11 : List Nat} {g : Int} {row : Int} (zB : w.heap[zb]? = some (.cells [.int .i64 z.Shape.Groups, .int .i64 z.Shape.Column, .int .i64 z.Shape.Data, .int .i64 z.Shape.Spare, .int .i64 z.Shape.Rows, .int .i64 z.Shape.Cap, .int .i64 z.Shape.Batch, .int .i64 z.Shape.Queue, .int .i64 z.Shape.Stage, .slice zA9 z.Groups.length zC9, .slice zA10 z.On.length zC10, .slice zA11 z.Tapes.length zC11, .int .i64 z.Writes, .int .i64 z.Stop, .bool z.Down].toArray 38)) (zK : z.Ok) (zO9 : own false w [.slice zA9 z.Groups.length zC9] z.Groups zF9) (zO10 : own false w [.slice zA10 z.On.length zC10] z.On zF10) (zO11 : own false w [.slice zA11 z.Tapes.length zC11] z.Tapes zF11) (hT : z.Tapes.length = 2) (hrl : ∀ k, (z.Tapes.getD k default).Recs.length ≤ 200000) : Ret Tryz.prog 73 #[.pointer (some ⟨zb, 0, none⟩), .int .i64 g, .int .i64 row] w fun v w' => Ext No w w' ∧ (∃ A6 C6 A7 C7 A8 C8, v = .tuple #[(opR z g row).val A6 C6 A7 C7 A8 C8, .bool (opOK z g row)] ∧ InF w' zF11 (RecV.mk (opR z g row) A6 C6 A7 C7 A8 C8).cs (opR z g row)) := by
 have zK2 := zK
 unfold Wld.Ok Shape.Ok at zK2
 try unfold I64ok at zK2
 try unfold maxLen at zK2
 have zL9 := own_len_le zO9
 unfold maxLen at zL9
 have zL10 := own_len_le zO10
 unfold maxLen at zL10
 have zL11 := own_len_le zO11
 unfold maxLen at zL11
 refine ret_marks (vs := [.pointer (some ⟨zb, 0, none⟩), .int .i64 g, .int .i64 row]) Tryz.func73 rfl Tryz.ntmps73 rfl (fun a ha => ?_)
 have H0 := Sep.start (w := w) (F := [box zb (.cells [.int .i64 z.Shape.Groups, .int .i64 z.Shape.Column, .int .i64 z.Shape.Data, .int .i64 z.Shape.Spare, .int .i64 z.Shape.Rows, .int .i64 z.Shape.Cap, .int .i64 z.Shape.Batch, .int .i64 z.Shape.Queue, .int .i64 z.Shape.Stage, .slice zA9 z.Groups.length zC9, .slice zA10 z.On.length zC10, .slice zA11 z.Tapes.length zC11, .int .i64 z.Writes, .int .i64 z.Stop, .bool z.Down].toArray 38), seen false [.slice zA9 z.Groups.length zC9] z.Groups zF9, seen false [.slice zA10 z.On.length zC10] z.On zF10, seen false [.slice zA11 z.Tapes.length zC11] z.Tapes zF11]) (all_cons (by exact zB) (all_cons zO9 (all_cons zO10 (all_cons zO11 (by simp)))))
 refine seqF (L := argsL 0 _) (B := fun L' w' => ∃ b1 b2 b3 b4 b5, sub L' [(3, .pointer (some ⟨b1, 0, none⟩)), (4, .pointer (some ⟨b2, 0, none⟩)), (5, .pointer (some ⟨b3, 0, none⟩)), (6, .pointer (some ⟨b4, 0, none⟩)), (7, .pointer (some ⟨b5, 0, none⟩))] ∧ Sep No w [box b1 (.cells [.pointer (some ⟨zb, 0, none⟩)].toArray 82), box b2 (.cells [.int .i64 g].toArray 2), box b3 (.cells [.int .i64 row].toArray 2), box b4 (.cells [.int .i64 0, .int .i64 0, .string ⟨#[]⟩, .int .i64 0, .int .i64 0, .int .i64 0, .slice none 0 0, .slice none 0 0, .slice none 0 0].toArray 68), box b5 (.cells [.bool false].toArray 4)] [box zb (.cells [.int .i64 z.Shape.Groups, .int .i64 z.Shape.Column, .int .i64 z.Shape.Data, .int .i64 z.Shape.Spare, .int .i64 z.Shape.Rows, .int .i64 z.Shape.Cap, .int .i64 z.Shape.Batch, .int .i64 z.Shape.Queue, .int .i64 z.Shape.Stage, .slice zA9 z.Groups.length zC9, .slice zA10 z.On.length zC10, .slice zA11 z.Tapes.length zC11, .int .i64 z.Writes, .int .i64 z.Stop, .bool z.Down].toArray 38), seen false [.slice zA9 z.Groups.length zC9] z.Groups zF9, seen false [.slice zA10 z.On.length zC10] z.On zF10, seen false [.slice zA11 z.Tapes.length zC11] z.Tapes zF11] w') ha ?_ (fun a1 L1 w1 ha1 hB => ?_)
 ·refine WF_regW rfl (s_box (wn rfl) rfl rfl H0 (fun b11 w11 e1 g1 H11 => ?_))
  refine s_box (wn rfl) rfl rfl H11 (fun b12 w12 e2 g2 H12 => ?_)
  refine s_box (wn rfl) rfl rfl H12 (fun b13 w13 e3 g3 H13 => ?_)
  refine s_var (wn rfl) rfl Tryz.zeroValue68 H13 (fun b14 w14 e4 g4 H14 => ?_)
  refine s_var (wn rfl) rfl Tryz.zeroValue4 H14 (fun b15 w15 e5 g5 H15 => ?_)
  refine s_nil ?_
  exact ⟨rfl, _, _, _, _, _, ⟨rfl, rfl, rfl, rfl, rfl, trivial⟩, H15⟩
 obtain ⟨b1, b2, b3, b4, b5, hs1, H1⟩ := hB
 replace ha1 := ha1.weak hs1
 refine seqF (B := fun L' w' => ∃ b6 vs sa sk fp, sub L' [(3, .pointer (some ⟨b1, 0, none⟩)), (4, .pointer (some ⟨b2, 0, none⟩)), (5, .pointer (some ⟨b3, 0, none⟩)), (6, .pointer (some ⟨b4, 0, none⟩)), (7, .pointer (some ⟨b5, 0, none⟩)), (8, .pointer (some ⟨b6, 0, none⟩))] ∧ Sep No w [box b1 (.cells [.pointer (some ⟨zb, 0, none⟩)].toArray 82), box b2 (.cells [.int .i64 g].toArray 2), box b3 (.cells [.int .i64 row].toArray 2), box b4 (.cells [.int .i64 0, .int .i64 0, .string ⟨#[]⟩, .int .i64 0, .int .i64 0, .int .i64 0, .slice none 0 0, .slice none 0 0, .slice none 0 0].toArray 68), box b5 (.cells [.bool false].toArray 4), mine [.slice sa vs.length sk] vs fp, box b6 (.cells [.slice sa vs.length sk].toArray 30)] [box zb (.cells [.int .i64 z.Shape.Groups, .int .i64 z.Shape.Column, .int .i64 z.Shape.Data, .int .i64 z.Shape.Spare, .int .i64 z.Shape.Rows, .int .i64 z.Shape.Cap, .int .i64 z.Shape.Batch, .int .i64 z.Shape.Queue, .int .i64 z.Shape.Stage, .slice zA9 z.Groups.length zC9, .slice zA10 z.On.length zC10, .slice zA11 z.Tapes.length zC11, .int .i64 z.Writes, .int .i64 z.Stop, .bool z.Down].toArray 38), seen false [.slice zA9 z.Groups.length zC9] z.Groups zF9, seen false [.slice zA10 z.On.length zC10] z.On zF10, seen false [.slice zA11 z.Tapes.length zC11] z.Tapes zF11] w' ∧ RdV w zF11 vs ∧ vs.map RecV.r = cntL z) ha1 ?_ (fun a2 L2 w2 ha2 hB => ?_)
 ·refine WF_regW rfl (sV rfl (py_load Tryz.underlying82 rfl rfl (cell_atL (H1.box 0 rfl) rfl)) (s_call (wn rfl) rfl rfl (pc_call Tryz.func99 rfl Tryz_nm99 rfl) (Tryz_impl_World_counted (H1.fbox 0 rfl) (by assumption) (own_weak (H1.seen 1 rfl)) (own_weak (H1.seen 2 rfl)) (own_weak (H1.seen 3 rfl)) (by first | assumption | omega) (by first | assumption | omega)) (fun v1 w11 r1 => ?_)))
  obtain ⟨e1, vs1, r1, hR1, hM1⟩ := r1
  obtain ⟨fp1, H11⟩ := H1.res e1 r1
  obtain ⟨sa1, sk1, sq1⟩ := own_slice (H11.mine 5 rfl)
  cases sq1
  have hl1 : vs1.length = (cntL z).length := by rw [← hM1, List.length_map]
  have hb1 := cntL_bd (z := z) (by first | assumption | omega) (by assumption)
  have hRw1 : RdV w zF11 vs1 := hR1.back H11.ext (Rp.lt zO11)
  refine s_var (wn rfl) rfl Tryz.zeroValue30 H11 (fun b11 w12 e2 g1 H12 => ?_)
  refine s_sto (wn rfl) Tryz.sizeOf30 rfl rfl rfl H12 6 rfl rfl (fun w13 e3 H13 => ?_)
  dsimp only [List.nil_append, List.cons_append, List.set_cons_zero, List.set_cons_succ, layL] at H13
  refine s_nil ?_
  exact ⟨rfl, _, _, _, _, _, ⟨rfl, rfl, rfl, rfl, rfl, rfl, trivial⟩, H13, hRw1, hM1⟩
 obtain ⟨b6, vs, sa, sk, fp, hs2, H2, hR, hM⟩ := hB
 replace ha2 := ha2.weak hs2
 have hl : vs.length = (cntL z).length := by rw [← hM, List.length_map]
 have hcb := cntL_bd (z := z) (by assumption) (by assumption)
 refine wpIn_seq (seqF (B := fun L' w' => ∃ b7, sub L' [(14, .func (.func 247) #[] #[.pointer (some ⟨b7, 0, none⟩)]), (3, .pointer (some ⟨b1, 0, none⟩)), (4, .pointer (some ⟨b2, 0, none⟩)), (5, .pointer (some ⟨b3, 0, none⟩)), (6, .pointer (some ⟨b4, 0, none⟩)), (7, .pointer (some ⟨b5, 0, none⟩)), (8, .pointer (some ⟨b6, 0, none⟩))] ∧ Sep No w [box b1 (.cells [.pointer (some ⟨zb, 0, none⟩)].toArray 82), box b2 (.cells [.int .i64 g].toArray 2), box b3 (.cells [.int .i64 row].toArray 2), box b4 (.cells [.int .i64 0, .int .i64 0, .string ⟨#[]⟩, .int .i64 0, .int .i64 0, .int .i64 0, .slice none 0 0, .slice none 0 0, .slice none 0 0].toArray 68), box b5 (.cells [.bool false].toArray 4), mine [.slice sa vs.length sk] vs fp, box b6 (.cells [.slice sa vs.length sk].toArray 30), box b7 (.cells [.slice sa vs.length sk].toArray 30)] [box zb (.cells [.int .i64 z.Shape.Groups, .int .i64 z.Shape.Column, .int .i64 z.Shape.Data, .int .i64 z.Shape.Spare, .int .i64 z.Shape.Rows, .int .i64 z.Shape.Cap, .int .i64 z.Shape.Batch, .int .i64 z.Shape.Queue, .int .i64 z.Shape.Stage, .slice zA9 z.Groups.length zC9, .slice zA10 z.On.length zC10, .slice zA11 z.Tapes.length zC11, .int .i64 z.Writes, .int .i64 z.Stop, .bool z.Down].toArray 38), seen false [.slice zA9 z.Groups.length zC9] z.Groups zF9, seen false [.slice zA10 z.On.length zC10] z.On zF10, seen false [.slice zA11 z.Tapes.length zC11] z.Tapes zF11] w') ha2 ?_ (fun a3 L3 w3 ha3 hB => ?_))
 ·refine WF_regW rfl (sV rfl (py_load Tryz.underlying30 rfl rfl (cell_atL (H2.box 6 rfl) rfl)) (s_call (wn rfl) rfl rfl (pc_call Tryz.func148 rfl Tryz_nm148 rfl) Tryz_backward (fun v9 w9 r9 => ?_)))
  obtain ⟨e9, b7, g7, rfl, h7⟩ := r9
  have H9 := H2.add e9 (r := box b7 (.cells [.slice sa vs.length sk].toArray 30)) (by exact h7) (by simp [Wk.box]) (by simpa [Wk.box] using g7)
  refine s_nil ?_
  exact ⟨rfl, b7, ⟨rfl, rfl, rfl, rfl, rfl, rfl, rfl, trivial⟩, H9⟩
 obtain ⟨b7, hs3, H3⟩ := hB
 replace ha3 := ha3.weak hs3
 refine wpIn_block (WF_range2 ha3 (lb := #[.pointer (some ⟨b7, 0, none⟩)]) rfl Tryz.func247 rfl Tryz_nm247 (K := fun W => ∃ o, Sep No w [box b1 (.cells [.pointer (some ⟨zb, 0, none⟩)].toArray 82), box b2 (.cells [.int .i64 g].toArray 2), box b3 (.cells [.int .i64 row].toArray 2), box b4 (.cells [.int .i64 0, .int .i64 0, .string ⟨#[]⟩, .int .i64 0, .int .i64 0, .int .i64 0, .slice none 0 0, .slice none 0 0, .slice none 0 0].toArray 68), box b5 (.cells [.bool false].toArray 4), mine [.slice sa vs.length sk] vs fp, box b6 (.cells [.slice sa vs.length sk].toArray 30), box b7 (.cells [.slice sa vs.length sk].toArray 30), box w3.heap.size (.deferred (some [])), box (w3.heap.size + 1) o] [box zb (.cells [.int .i64 z.Shape.Groups, .int .i64 z.Shape.Column, .int .i64 z.Shape.Data, .int .i64 z.Shape.Spare, .int .i64 z.Shape.Rows, .int .i64 z.Shape.Cap, .int .i64 z.Shape.Batch, .int .i64 z.Shape.Queue, .int .i64 z.Shape.Stage, .slice zA9 z.Groups.length zC9, .slice zA10 z.On.length zC10, .slice zA11 z.Tapes.length zC11, .int .i64 z.Writes, .int .i64 z.Stop, .bool z.Down].toArray 38), seen false [.slice zA9 z.Groups.length zC9] z.Groups zF9, seen false [.slice zA10 z.On.length zC10] z.On zF10, seen false [.slice zA11 z.Tapes.length zC11] z.Tapes zF11] W ∧ (∀ j, j < vs.length → shP g row (vs.getD j default).r = false)) (K2 := fun W => ∃ o i, Sep No w [box b1 (.cells [.pointer (some ⟨zb, 0, none⟩)].toArray 82), box b2 (.cells [.int .i64 g].toArray 2), box b3 (.cells [.int .i64 row].toArray 2), box b4 (.cells [.int .i64 (vs.getD i default).r.Kind, .int .i64 (vs.getD i default).r.Seq, .string (vs.getD i default).r.Name, .int .i64 (vs.getD i default).r.Length, .int .i64 (vs.getD i default).r.Group, .int .i64 (vs.getD i default).r.Row, .slice (vs.getD i default).A6 (vs.getD i default).r.Rows.length (vs.getD i default).C6, .slice (vs.getD i default).A7 (vs.getD i default).r.Data.length (vs.getD i default).C7, .slice (vs.getD i default).A8 (vs.getD i default).r.Delta.length (vs.getD i default).C8].toArray 68), box b5 (.cells [.bool (!((cntL z).any (spS ((cntL z).getD i default))))].toArray 4), mine [.slice sa vs.length sk] vs fp, box b6 (.cells [.slice sa vs.length sk].toArray 30), box b7 (.cells [.slice sa vs.length sk].toArray 30), box w3.heap.size (.deferred (some [])), box (w3.heap.size + 1) o] [box zb (.cells [.int .i64 z.Shape.Groups, .int .i64 z.Shape.Column, .int .i64 z.Shape.Data, .int .i64 z.Shape.Spare, .int .i64 z.Shape.Rows, .int .i64 z.Shape.Cap, .int .i64 z.Shape.Batch, .int .i64 z.Shape.Queue, .int .i64 z.Shape.Stage, .slice zA9 z.Groups.length zC9, .slice zA10 z.On.length zC10, .slice zA11 z.Tapes.length zC11, .int .i64 z.Writes, .int .i64 z.Stop, .bool z.Down].toArray 38), seen false [.slice zA9 z.Groups.length zC9] z.Groups zF9, seen false [.slice zA10 z.On.length zC10] z.On zF10, seen false [.slice zA11 z.Tapes.length zC11] z.Tapes zF11] W ∧ i < vs.length ∧ shP g row (vs.getD i default).r = true ∧ (∀ j, i < j → j < vs.length → shP g row (vs.getD j default).r = false)) (fun R fn hR2 => ?_) (fun W hK => ?_) (fun W hK => ?_))
 ·have e1 : (w3.alloc (.deferred (some []))).heap.size = w3.heap.size + 1 := by simp
  have HA := (H3.alloc (.deferred (some []))).alloc (.loop (R .ready none))
  rw [e1] at HA
  try dsimp only [List.nil_append, List.cons_append, List.set_cons_zero, List.set_cons_succ] at HA
  refine Ret.mono (Tryz_backgo (A := sa) (n := vs.length) (C := sk) (b1 := b7) (val := fun i => [.int .i64 (vs.getD i default).r.Kind, .int .i64 (vs.getD i default).r.Seq, .string (vs.getD i default).r.Name, .int .i64 (vs.getD i default).r.Length, .int .i64 (vs.getD i default).r.Group, .int .i64 (vs.getD i default).r.Row, .slice (vs.getD i default).A6 (vs.getD i default).r.Rows.length (vs.getD i default).C6, .slice (vs.getD i default).A7 (vs.getD i default).r.Data.length (vs.getD i default).C7, .slice (vs.getD i default).A8 (vs.getD i default).r.Delta.length (vs.getD i default).C8]) (J := fun i W => Sep No w [box b1 (.cells [.pointer (some ⟨zb, 0, none⟩)].toArray 82), box b2 (.cells [.int .i64 g].toArray 2), box b3 (.cells [.int .i64 row].toArray 2), box b4 (.cells [.int .i64 0, .int .i64 0, .string ⟨#[]⟩, .int .i64 0, .int .i64 0, .int .i64 0, .slice none 0 0, .slice none 0 0, .slice none 0 0].toArray 68), box b5 (.cells [.bool false].toArray 4), mine [.slice sa vs.length sk] vs fp, box b6 (.cells [.slice sa vs.length sk].toArray 30), box b7 (.cells [.slice sa vs.length sk].toArray 30), box w3.heap.size (.deferred (some [])), box (w3.heap.size + 1) (.loop (R .ready none))] [box zb (.cells [.int .i64 z.Shape.Groups, .int .i64 z.Shape.Column, .int .i64 z.Shape.Data, .int .i64 z.Shape.Spare, .int .i64 z.Shape.Rows, .int .i64 z.Shape.Cap, .int .i64 z.Shape.Batch, .int .i64 z.Shape.Queue, .int .i64 z.Shape.Stage, .slice zA9 z.Groups.length zC9, .slice zA10 z.On.length zC10, .slice zA11 z.Tapes.length zC11, .int .i64 z.Writes, .int .i64 z.Stop, .bool z.Down].toArray 38), seen false [.slice zA9 z.Groups.length zC9] z.Groups zF9, seen false [.slice zA10 z.On.length zC10] z.On zF10, seen false [.slice zA11 z.Tapes.length zC11] z.Tapes zF11] W ∧ ∀ j, i ≤ j → j < vs.length → shP g row (vs.getD j default).r = false) (K := fun W => ∃ i, Sep No w [box b1 (.cells [.pointer (some ⟨zb, 0, none⟩)].toArray 82), box b2 (.cells [.int .i64 g].toArray 2), box b3 (.cells [.int .i64 row].toArray 2), box b4 (.cells [.int .i64 (vs.getD i default).r.Kind, .int .i64 (vs.getD i default).r.Seq, .string (vs.getD i default).r.Name, .int .i64 (vs.getD i default).r.Length, .int .i64 (vs.getD i default).r.Group, .int .i64 (vs.getD i default).r.Row, .slice (vs.getD i default).A6 (vs.getD i default).r.Rows.length (vs.getD i default).C6, .slice (vs.getD i default).A7 (vs.getD i default).r.Data.length (vs.getD i default).C7, .slice (vs.getD i default).A8 (vs.getD i default).r.Delta.length (vs.getD i default).C8].toArray 68), box b5 (.cells [.bool (!((cntL z).any (spS ((cntL z).getD i default))))].toArray 4), mine [.slice sa vs.length sk] vs fp, box b6 (.cells [.slice sa vs.length sk].toArray 30), box b7 (.cells [.slice sa vs.length sk].toArray 30), box w3.heap.size (.deferred (some [])), box (w3.heap.size + 1) (.loop (R .done (some .ret)))] [box zb (.cells [.int .i64 z.Shape.Groups, .int .i64 z.Shape.Column, .int .i64 z.Shape.Data, .int .i64 z.Shape.Spare, .int .i64 z.Shape.Rows, .int .i64 z.Shape.Cap, .int .i64 z.Shape.Batch, .int .i64 z.Shape.Queue, .int .i64 z.Shape.Stage, .slice zA9 z.Groups.length zC9, .slice zA10 z.On.length zC10, .slice zA11 z.Tapes.length zC11, .int .i64 z.Writes, .int .i64 z.Stop, .bool z.Down].toArray 38), seen false [.slice zA9 z.Groups.length zC9] z.Groups zF9, seen false [.slice zA10 z.On.length zC10] z.On zF10, seen false [.slice zA11 z.Tapes.length zC11] z.Tapes zF11] W ∧ i < vs.length ∧ shP g row (vs.getD i default).r = true ∧ (∀ j, i < j → j < vs.length → shP g row (vs.getD j default).r = false)) (by omega) ?_ ?_ ?_ (fun _ => rfl) ⟨HA, fun j h1 h2 => by omega⟩) ?_
  ·rintro i W ⟨H, _⟩
   exact H.box 7 rfl
  ·rintro i W ⟨H, _⟩ hi
   obtain ⟨b, o, h1, h2, _⟩ := H.viewAt 5 rfl i hi
   exact ⟨b, o, h1, h2⟩
  ·rintro i W ⟨HJ, hJ⟩ hi
   have hvo := hR.okAt hi
   have hy := yield_at2 (P := Tryz.prog) (u1 := .int .i64 (i : Nat)) (u2 := .agg [.int .i64 (vs.getD i default).r.Kind, .int .i64 (vs.getD i default).r.Seq, .string (vs.getD i default).r.Name, .int .i64 (vs.getD i default).r.Length, .int .i64 (vs.getD i default).r.Group, .int .i64 (vs.getD i default).r.Row, .slice (vs.getD i default).A6 (vs.getD i default).r.Rows.length (vs.getD i default).C6, .slice (vs.getD i default).A7 (vs.getD i default).r.Data.length (vs.getD i default).C7, .slice (vs.getD i default).A8 (vs.getD i default).r.Delta.length (vs.getD i default).C8].toArray) hR2 ha3.1 rfl rfl (HJ.box 9 rfl)
    (A := fun L' W' => ∃ b10, sub L' [(9, .int .i64 (i : Nat)), (10, .pointer (some ⟨b10, 0, none⟩)), (3, .pointer (some ⟨b1, 0, none⟩)), (4, .pointer (some ⟨b2, 0, none⟩)), (5, .pointer (some ⟨b3, 0, none⟩)), (6, .pointer (some ⟨b4, 0, none⟩)), (7, .pointer (some ⟨b5, 0, none⟩)), (8, .pointer (some ⟨b6, 0, none⟩))] ∧ Sep No w [box b1 (.cells [.pointer (some ⟨zb, 0, none⟩)].toArray 82), box b2 (.cells [.int .i64 g].toArray 2), box b3 (.cells [.int .i64 row].toArray 2), box b4 (.cells [.int .i64 0, .int .i64 0, .string ⟨#[]⟩, .int .i64 0, .int .i64 0, .int .i64 0, .slice none 0 0, .slice none 0 0, .slice none 0 0].toArray 68), box b5 (.cells [.bool false].toArray 4), mine [.slice sa vs.length sk] vs fp, box b6 (.cells [.slice sa vs.length sk].toArray 30), box b7 (.cells [.slice sa vs.length sk].toArray 30), box w3.heap.size (.deferred (some [])), box (w3.heap.size + 1) (.loop (R .ready none)), box b10 (.cells [.int .i64 (vs.getD i default).r.Kind, .int .i64 (vs.getD i default).r.Seq, .string (vs.getD i default).r.Name, .int .i64 (vs.getD i default).r.Length, .int .i64 (vs.getD i default).r.Group, .int .i64 (vs.getD i default).r.Row, .slice (vs.getD i default).A6 (vs.getD i default).r.Rows.length (vs.getD i default).C6, .slice (vs.getD i default).A7 (vs.getD i default).r.Data.length (vs.getD i default).C7, .slice (vs.getD i default).A8 (vs.getD i default).r.Delta.length (vs.getD i default).C8].toArray 68)] [box zb (.cells [.int .i64 z.Shape.Groups, .int .i64 z.Shape.Column, .int .i64 z.Shape.Data, .int .i64 z.Shape.Spare, .int .i64 z.Shape.Rows, .int .i64 z.Shape.Cap, .int .i64 z.Shape.Batch, .int .i64 z.Shape.Queue, .int .i64 z.Shape.Stage, .slice zA9 z.Groups.length zC9, .slice zA10 z.On.length zC10, .slice zA11 z.Tapes.length zC11, .int .i64 z.Writes, .int .i64 z.Stop, .bool z.Down].toArray 38), seen false [.slice zA9 z.Groups.length zC9] z.Groups zF9, seen false [.slice zA10 z.On.length zC10] z.On zF10, seen false [.slice zA11 z.Tapes.length zC11] z.Tapes zF11] W')
    (B := fun W2 => Sep No w [box b1 (.cells [.pointer (some ⟨zb, 0, none⟩)].toArray 82), box b2 (.cells [.int .i64 g].toArray 2), box b3 (.cells [.int .i64 row].toArray 2), box b4 (.cells [.int .i64 0, .int .i64 0, .string ⟨#[]⟩, .int .i64 0, .int .i64 0, .int .i64 0, .slice none 0 0, .slice none 0 0, .slice none 0 0].toArray 68), box b5 (.cells [.bool false].toArray 4), mine [.slice sa vs.length sk] vs fp, box b6 (.cells [.slice sa vs.length sk].toArray 30), box b7 (.cells [.slice sa vs.length sk].toArray 30), box w3.heap.size (.deferred (some [])), box (w3.heap.size + 1) (.loop (R .busy none))] [box zb (.cells [.int .i64 z.Shape.Groups, .int .i64 z.Shape.Column, .int .i64 z.Shape.Data, .int .i64 z.Shape.Spare, .int .i64 z.Shape.Rows, .int .i64 z.Shape.Cap, .int .i64 z.Shape.Batch, .int .i64 z.Shape.Queue, .int .i64 z.Shape.Stage, .slice zA9 z.Groups.length zC9, .slice zA10 z.On.length zC10, .slice zA11 z.Tapes.length zC11, .int .i64 z.Writes, .int .i64 z.Stop, .bool z.Down].toArray 38), seen false [.slice zA9 z.Groups.length zC9] z.Groups zF9, seen false [.slice zA10 z.On.length zC10] z.On zF10, seen false [.slice zA11 z.Tapes.length zC11] z.Tapes zF11] W2 ∧ shP g row (vs.getD i default).r = false)
    (C := fun W2 => Sep No w [box b1 (.cells [.pointer (some ⟨zb, 0, none⟩)].toArray 82), box b2 (.cells [.int .i64 g].toArray 2), box b3 (.cells [.int .i64 row].toArray 2), box b4 (.cells [.int .i64 (vs.getD i default).r.Kind, .int .i64 (vs.getD i default).r.Seq, .string (vs.getD i default).r.Name, .int .i64 (vs.getD i default).r.Length, .int .i64 (vs.getD i default).r.Group, .int .i64 (vs.getD i default).r.Row, .slice (vs.getD i default).A6 (vs.getD i default).r.Rows.length (vs.getD i default).C6, .slice (vs.getD i default).A7 (vs.getD i default).r.Data.length (vs.getD i default).C7, .slice (vs.getD i default).A8 (vs.getD i default).r.Delta.length (vs.getD i default).C8].toArray 68), box b5 (.cells [.bool (!((cntL z).any (spS ((cntL z).getD i default))))].toArray 4), mine [.slice sa vs.length sk] vs fp, box b6 (.cells [.slice sa vs.length sk].toArray 30), box b7 (.cells [.slice sa vs.length sk].toArray 30), box w3.heap.size (.deferred (some [])), box (w3.heap.size + 1) (.loop (R .busy none))] [box zb (.cells [.int .i64 z.Shape.Groups, .int .i64 z.Shape.Column, .int .i64 z.Shape.Data, .int .i64 z.Shape.Spare, .int .i64 z.Shape.Rows, .int .i64 z.Shape.Cap, .int .i64 z.Shape.Batch, .int .i64 z.Shape.Queue, .int .i64 z.Shape.Stage, .slice zA9 z.Groups.length zC9, .slice zA10 z.On.length zC10, .slice zA11 z.Tapes.length zC11, .int .i64 z.Writes, .int .i64 z.Stop, .bool z.Down].toArray 38), seen false [.slice zA9 z.Groups.length zC9] z.Groups zF9, seen false [.slice zA10 z.On.length zC10] z.On zF10, seen false [.slice zA11 z.Tapes.length zC11] z.Tapes zF11] W2 ∧ shP g row (vs.getD i default).r = true)
    (by
     refine WF_seq (WF_regW rfl (sV rfl (py_assign rfl) (s_nil (WF_regW rfl (s_var (wn rfl) rfl Tryz.zeroValue68 HJ (fun b21 w21 e1 g1 H21 => ?_))))))
     refine s_stoS (wn rfl) Tryz.sizeOf68 rfl rfl rfl rfl H21 10 rfl rfl (fun w22 e2 H22 => ?_)
     dsimp only [List.nil_append, List.cons_append, List.set_cons_zero, List.set_cons_succ, layL] at H22
     refine s_nil ?_
     exact ⟨rfl, H22.box 9 rfl, _, ⟨rfl, rfl, rfl, rfl, rfl, rfl, rfl, rfl, trivial⟩, H22⟩)
    (by
     rintro L' W' ⟨b10, hs, HQ⟩
     have HB := HQ.put 9 (.loop (R .busy none)) rfl
     try dsimp only [List.nil_append, List.cons_append, List.set_cons_zero, List.set_cons_succ] at HB
     refine WF_weak hs (WF_block (WF_seq (WF_regW rfl (sV rfl (py_field Tryz.underlying68 rfl Tryz.sizeOf2 rfl rfl) (sV rfl (py_load Tryz.underlying2 rfl rfl (cell_atL (HB.box 10 rfl) rfl)) (sV rfl (py_eql rfl rfl) (sV rfl (py_move rfl) (s_grp 4 (j := 3) (want := true) (t := 24) rfl rfl rfl rfl (fun hg1 kk1 => s_val (wgE rfl rfl rfl hg1) rfl rfl (py_field Tryz.underlying68 rfl Tryz.sizeOf2 rfl rfl) (s_val (wgE rfl rfl rfl hg1) rfl rfl (py_load Tryz.underlying2 rfl rfl (cell_atL (HB.box 10 rfl) rfl)) (s_val (wgE rfl rfl rfl hg1) rfl rfl (py_load Tryz.underlying2 rfl rfl (cell_atL (HB.box 1 rfl) rfl)) (s_val (wgE rfl rfl rfl hg1) rfl rfl (py_eql rfl rfl) (kk1 _ _ (kx rfl (kx rfl (kx rfl (kx rfl k0)))) rfl Ext.refl))))) (fun w41 e1 => ?_)))))))))
     have H41 := HB.to e1
     refine sV rfl (py_band rfl rfl) (sV rfl (py_move rfl) (s_grp 4 (j := 9) (want := true) (t := 30) rfl rfl rfl rfl (fun hg2 kk2 => s_val (wgE rfl rfl rfl hg2) rfl rfl (py_field Tryz.underlying68 rfl Tryz.sizeOf2 rfl rfl) (s_val (wgE rfl rfl rfl hg2) rfl rfl (py_load Tryz.underlying2 rfl rfl (cell_atL (H41.box 10 rfl) rfl)) (s_val (wgE rfl rfl rfl hg2) rfl rfl (py_load Tryz.underlying2 rfl rfl (cell_atL (H41.box 2 rfl) rfl)) (s_val (wgE rfl rfl rfl hg2) rfl rfl (py_eql rfl rfl) (kk2 _ _ (kx rfl (kx rfl (kx rfl (kx rfl k0)))) rfl Ext.refl))))) (fun w42 e2 => ?_)))
     have H42 := H41.to e2
     refine sV rfl (py_band rfl rfl) (s_nil (WF_if rfl (fun c1 => ?_) (fun c1 => ?_)))
     ·have hsp : shP g row (vs.getD i default).r = true := by simpa [shP, Bool.and_assoc] using c1
      have hk4 := (shP_kind hsp).1
      refine WF_seq (WF_drwW (S := Ext (· ∈ [b4]) _) [(0, true), (1, true), (2, true), (3, true), (4, false), (5, true), (6, false), (7, false)] rfl (by kernel_rfl) (by kernel_rfl) (by kernel_rfl) (fun _ => Ext.refl.drawn _) (fun q1 => ?_))
      have H43 := H42.drawn q1
      refine dV rfl rfl (fun zw hx => py_loadS Tryz.underlying68 rfl Tryz.sizeOf68 rfl rfl (At.whole (hx.heapM (H43.boff 10 rfl 3 rfl rfl) (H43.box 10 rfl)))) (dV rfl rfl (fun zw hx => py_load Tryz.underlying82 rfl rfl (cell_atL (hx.heapM (H43.boff 0 rfl 3 rfl rfl) (H43.box 0 rfl)) rfl)) (dV rfl rfl (fun zw hx => py_load Tryz.underlying30 rfl rfl (cell_atL (hx.heapM (H43.boff 6 rfl 3 rfl rfl) (H43.box 6 rfl)) rfl)) (dV rfl rfl (fun zw hx => py_move rfl) ?_)))
      have lc := Tryz_impl_World_spent (zp := some ⟨zb, 0, none⟩) (xs := vs.map RecV.r) (a := i) (by rw [List.length_map]; exact (hR.to H43.ext).list (H43.mine 5 rfl)) (by rw [List.length_map]; exact hi) (by rw [← map_getD rfl hi]; exact hk4)
      rw [List.length_map, hM] at lc
      refine d_call rfl (wn rfl) rfl rfl (pc_call Tryz.func149 rfl Tryz_nm149 rfl) lc (fun hS _ _ r _ => hS.trans r.1.no) (fun v1 w43 r1 => ?_)
      obtain ⟨e3, rfl⟩ := r1
      have H44 := H43.to e3
      refine dV rfl rfl (fun zw hx => py_not rfl) (d_stoS rfl (wn rfl) Tryz.sizeOf68 rfl rfl rfl rfl H44 3 rfl rfl (fun _ h e _ => h.trans (e.mono fun _ _ q => by simp [q])) (fun w44 e4 H45 => ?_))
      dsimp only [List.nil_append, List.cons_append, List.set_cons_zero, List.set_cons_succ, layL] at H45
      refine d_sto rfl (wn rfl) Tryz.sizeOf4 rfl rfl rfl H45 4 rfl rfl (fun _ _ _ hr => absurd rfl hr) (fun w45 e5 H46 => ?_)
      dsimp only [List.nil_append, List.cons_append, List.set_cons_zero, List.set_cons_succ, layL] at H46
      refine d_nil (WF_ret ?_)
      exact ⟨H46.box 9 rfl, .inr ⟨rfl, H46.dtake 10, hsp⟩⟩
     ·have hsp : shP g row (vs.getD i default).r = false := by simpa [shP, Bool.and_assoc] using c1
      refine WF_skip ?_
      exact ⟨H42.box 9 rfl, .inl ⟨rfl, H42.dtake 10, hsp⟩⟩)
   obtain ⟨f1, t1, s1, o1, r1, k1⟩ := hy
   refine ⟨f1, t1, s1, o1, r1, k1.mono fun e W' he => ?_⟩
   obtain ⟨W2, _, ⟨he, ⟨H4, h4⟩, rfl⟩ | ⟨he, ⟨H4, h4⟩, rfl⟩⟩ := he
   ·refine .inl ⟨he, H4.put 9 (.loop (R .ready none)) rfl, fun j h1 h2 => ?_⟩
    by_cases e : j = i
    ·subst e; exact h4
    ·exact hJ j (by omega) h2
   ·exact .inr ⟨he, i, H4.put 9 (.loop (R .done (some .ret))) rfl, hi, h4, fun j h1 h2 => hJ j (by omega) h2⟩
  ·rintro _ W2 (⟨H, h⟩ | ⟨i, H, h1, h2, h3⟩)
   ·exact .inl ⟨H.box 9 rfl, _, H.put 9 (.loop (R .exhausted none)) rfl, fun j hj => h j (Nat.zero_le _) hj⟩
   ·exact .inr ⟨H.box 9 rfl, _, i, H.put 9 (.loop (R .exhausted (some .ret))) rfl, h1, h2, h3⟩
 ·obtain ⟨o, HK, hn⟩ := hK
  show Code.wpIn _ _ _ _ _ _ _
  have ha5 : GoodD [{ target := .collected w3.heap.size, args := #[] }] 39 { a3 with defers := [{ target := .collected w3.heap.size, args := #[] }] } [(3, .pointer (some ⟨b1, 0, none⟩)), (4, .pointer (some ⟨b2, 0, none⟩)), (5, .pointer (some ⟨b3, 0, none⟩)), (6, .pointer (some ⟨b4, 0, none⟩)), (7, .pointer (some ⟨b5, 0, none⟩))] :=
   ⟨by have := ha3.1; exact this.weak ⟨rfl, rfl, rfl, rfl, rfl, trivial⟩, rfl⟩
  refine seqF (B := fun L' w' => sub L' [(3, .pointer (some ⟨b1, 0, none⟩)), (4, .pointer (some ⟨b2, 0, none⟩)), (5, .pointer (some ⟨b3, 0, none⟩)), (6, .pointer (some ⟨b4, 0, none⟩)), (7, .pointer (some ⟨b5, 0, none⟩))] ∧ Sep No w [box b1 (.cells [.pointer (some ⟨zb, 0, none⟩)].toArray 82), box b2 (.cells [.int .i64 g].toArray 2), box b3 (.cells [.int .i64 row].toArray 2), box b4 (.cells [.int .i64 0, .int .i64 0, .string ⟨#[]⟩, .int .i64 0, .int .i64 0, .int .i64 0, .slice none 0 0, .slice none 0 0, .slice none 0 0].toArray 68), box b5 (.cells [.bool false].toArray 4), mine [.slice sa vs.length sk] vs fp, box b6 (.cells [.slice sa vs.length sk].toArray 30), box b7 (.cells [.slice sa vs.length sk].toArray 30), box w3.heap.size (.deferred (some [])), box (w3.heap.size + 1) o] [box zb (.cells [.int .i64 z.Shape.Groups, .int .i64 z.Shape.Column, .int .i64 z.Shape.Data, .int .i64 z.Shape.Spare, .int .i64 z.Shape.Rows, .int .i64 z.Shape.Cap, .int .i64 z.Shape.Batch, .int .i64 z.Shape.Queue, .int .i64 z.Shape.Stage, .slice zA9 z.Groups.length zC9, .slice zA10 z.On.length zC10, .slice zA11 z.Tapes.length zC11, .int .i64 z.Writes, .int .i64 z.Stop, .bool z.Down].toArray 38), seen false [.slice zA9 z.Groups.length zC9] z.Groups zF9, seen false [.slice zA10 z.On.length zC10] z.On zF10, seen false [.slice zA11 z.Tapes.length zC11] z.Tapes zF11] w') ha5 ?_ (fun a6 L6 w6 ha6 hB => ?_)
  ·refine WF_reg (f_val (wn rfl) rfl rfl (py_buildS Tryz_pl68 rfl rfl) (f_stoS (wn rfl) Tryz.sizeOf68 rfl rfl rfl rfl HK 3 rfl rfl (fun w7 _ H7 => ?_)))
   dsimp only [List.nil_append, List.cons_append, List.set_cons_zero, List.set_cons_succ, layL] at H7
   refine f_sto (wn rfl) Tryz.sizeOf4 rfl rfl rfl H7 4 rfl rfl (fun w8 _ H8 => ?_)
   try dsimp only [List.nil_append, List.cons_append, List.set_cons_zero, List.set_cons_succ] at H8
   exact f_nil ⟨rfl, ⟨rfl, rfl, rfl, rfl, rfl, trivial⟩, H8⟩
  obtain ⟨hs6, H6⟩ := hB
  refine wpIn_ret ?_
  have HF := H6.put 8 (.deferred none) rfl
  try dsimp only [List.nil_append, List.cons_append, List.set_cons_zero, List.set_cons_succ] at HF
  refine ⟨.inr rfl, w3.heap.size, [(3, .pointer (some ⟨b1, 0, none⟩)), (4, .pointer (some ⟨b2, 0, none⟩)), (5, .pointer (some ⟨b3, 0, none⟩)), (6, .pointer (some ⟨b4, 0, none⟩)), (7, .pointer (some ⟨b5, 0, none⟩))], ha6.weak hs6, H6.box 8 rfl, finCC Tryz.results73 rfl (run_loadVarS Tryz.underlying68 rfl Tryz.sizeOf68 rfl (At.whole (HF.box 3 rfl))) rfl (run_loadVar1 Tryz.underlying4 rfl (cell_atL (HF.box 4 rfl) rfl)) ?_⟩
  have hq : shLast z g row = -1 := lastI_none fun j hj => by rw [← map_getD hM (by omega)]; exact hn j (by omega)
  refine ⟨HF.ext, none, 0, none, 0, none, 0, ?_, ?_⟩
  ·rw [opR_no hq, opOK_no hq]; rfl
  ·rw [opR_no hq]; exact inF_zero
 ·obtain ⟨o, i, HK, hi, h4, h5⟩ := hK
  have HF := HK.put 8 (.deferred none) rfl
  try dsimp only [List.nil_append, List.cons_append, List.set_cons_zero, List.set_cons_succ] at HF
  refine ⟨.inr rfl, w3.heap.size, [(3, .pointer (some ⟨b1, 0, none⟩)), (4, .pointer (some ⟨b2, 0, none⟩)), (5, .pointer (some ⟨b3, 0, none⟩)), (6, .pointer (some ⟨b4, 0, none⟩)), (7, .pointer (some ⟨b5, 0, none⟩))], ⟨by have := ha3.1; exact this.weak ⟨rfl, rfl, rfl, rfl, rfl, trivial⟩, rfl⟩, HK.box 8 rfl, finCC Tryz.results73 rfl (run_loadVarS Tryz.underlying68 rfl Tryz.sizeOf68 rfl (At.whole (HF.box 3 rfl))) rfl (run_loadVar1 Tryz.underlying4 rfl (cell_atL (HF.box 4 rfl) rfl)) ?_⟩
  have hq : shLast z g row = (i : Nat) := lastI_at (by omega) (by rw [← map_getD hM hi]; exact h4) fun j h1 h2 => by rw [← map_getD hM (by omega)]; exact h5 j h1 (by omega)
  have hr : (vs.getD i default).r = opR z g row := by rw [opR_at hq]; exact map_getD hM hi
  refine ⟨HF.ext, (vs.getD i default).A6, (vs.getD i default).C6, (vs.getD i default).A7, (vs.getD i default).C7, (vs.getD i default).A8, (vs.getD i default).C8, ?_, ?_⟩
  ·rw [opOK_at (by omega), ← hr, map_getD hM hi]; rfl
  ·exact ((hR.inAt hi).val hr).to HF.ext
end Go.Wk
namespace Go.Wk
open Go.Proofs Rp
set_option maxRecDepth 10000
set_option maxHeartbeats 1000000 in
theorem Tryz_spec_RecFault {w : World} {s : Shape} {r : Rec} {rA6 : Option Addr} {rC6 : Nat} {rA7 : Option Addr} {rC7 : Nat} {rA8 : Option Addr} {rC8 : Nat} (rK : r.Ok) (rS6 : Sees w [.slice rA6 r.Rows.length rC6] r.Rows) (rS7 : Sees w [.slice rA7 r.Data.length rC7] r.Data) (rS8 : Sees w [.slice rA8 r.Delta.length rC8] r.Delta) : Ret Tryz.prog 112 #[s.v, r.val rA6 rC6 rA7 rC7 rA8 rC8] w fun v w' => Ext No w w' ∧ (v = .int .i64 (if s.fault ≠ 0 then s.fault else recF s r)) := by
 have rK2 := rK
 unfold Rec.Ok at rK2
 try unfold I64ok at rK2
 try unfold maxLen at rK2
 have rN2 : r.Name.size ≤ maxLen := by unfold maxLen; omega
 have rL6 := sees_len rS6
 unfold maxLen at rL6
 obtain ⟨rF6, rO6⟩ := rS6
 have rL7 := sees_len rS7
 unfold maxLen at rL7
 obtain ⟨rF7, rO7⟩ := rS7
 have rL8 := sees_len rS8
 unfold maxLen at rL8
 obtain ⟨rF8, rO8⟩ := rS8
 refine ret_Q (vs := [s.v, r.val rA6 rC6 rA7 rC7 rA8 rC8]) Tryz.func112 rfl Tryz.ntmps112 rfl (fun Q hQ hN => ?_)
 have H0 := Sep.start (w := w) (F := [seen false [.slice rA6 r.Rows.length rC6] r.Rows rF6, seen false [.slice rA7 r.Data.length rC7] r.Data rF7, seen false [.slice rA8 r.Delta.length rC8] r.Delta rF8]) (all_cons rO6 (all_cons rO7 (all_cons rO8 (by simp))))
 refine W_sr (s_box (wn rfl) rfl rfl H0 (fun b1 w1 e1 g1 H1 => ?_))
 refine s_box (wn rfl) rfl rfl H1 (fun b2 w2 e2 g2 H2 => ?_)
 refine sV rfl (py_assign rfl) (s_nil (W_seq (W_sr (sV rfl (py_loadS Tryz.underlying34 rfl Tryz.sizeOf34 rfl rfl (At.whole (H2.box 0 rfl))) (s_call (wn rfl) rfl rfl (pc_call Tryz.func159 rfl Tryz_nm159 rfl) Tryz_spec_ShapeFault (fun v1 w3 r1 => ?_))))))
 obtain ⟨e3, rfl⟩ := r1
 have H3 := H2.to e3
 refine sV rfl (py_assign rfl) (s_nil (W_sr (sV rfl (py_move rfl) (sV rfl (py_neq rfl rfl) (s_nil (W_ifd rfl (fun c1 => ?_) (fun c1 => ?_)))))))
 ·refine W_sr (sV rfl (py_move rfl) (sV rfl (py_assign rfl) (s_nil (W_ret (hQ _ _ (fin1 Tryz.results112 rfl ?_))))))
  exact ⟨H3.ext, congrArg (Value.int .i64) (if_pos (by omega)).symm⟩
 ·refine W_skip (W_seq (W_seq ?_))
  have hs := shapeFault_ok (s := s) (by omega)
  have sbd := shape_bd hs
  refine W_reg (sV rfl (py_field Tryz.underlying68 rfl Tryz.sizeOf2 rfl rfl) (sV rfl (py_load Tryz.underlying2 rfl rfl (cell_atL (H3.box 1 rfl) rfl)) (s_call (wn rfl) rfl rfl (pc_call Tryz.func97 rfl Tryz_nm97 rfl) Tryz_spec_l1In (fun v2 w4 r2 => ?_))))
  obtain ⟨e4, rfl⟩ := r2
  have H4 := H3.to e4
  refine sV rfl (py_not rfl) (s_nil (W_if rfl (fun c2 => ?_) (fun c2 => ?_)))
  ·refine W_sr (sV rfl (py_assign rfl) (s_nil (W_ret (hQ _ _ (fin1 Tryz.results112 rfl ?_)))))
   exact ⟨H4.ext, congrArg (Value.int .i64) ((if_neg (by omega)).trans (recF_kind (not_true c2))).symm⟩
  ·refine W_skip (W_seq (W_sr (sV rfl (py_field Tryz.underlying68 rfl Tryz.sizeOf2 rfl rfl) (sV rfl (py_load Tryz.underlying2 rfl rfl (cell_atL (H4.box 1 rfl) rfl)) (s_call (wn rfl) rfl rfl (pc_call Tryz.func97 rfl Tryz_nm97 rfl) Tryz_spec_l1In (fun v3 w5 r3 => ?_))))))
   obtain ⟨e5, rfl⟩ := r3
   have H5 := H4.to e5
   refine sV rfl (py_not rfl) (s_nil (W_if rfl (fun c3 => ?_) (fun c3 => ?_)))
   ·refine W_sr (sV rfl (py_assign rfl) (s_nil (W_ret (hQ _ _ (fin1 Tryz.results112 rfl ?_)))))
    exact ⟨H5.ext, congrArg (Value.int .i64) ((if_neg (by omega)).trans (recF_seq (not_false c2) (not_true c3))).symm⟩
   ·refine W_skip (W_sr (sV rfl (py_loadS Tryz.underlying68 rfl Tryz.sizeOf68 rfl rfl (At.whole (H5.box 1 rfl))) (s_var (wn rfl) rfl Tryz.zeroValue68 H5 (fun b3 w6 e6 g3 H6 => ?_))))
    refine s_stoS (wn rfl) Tryz.sizeOf68 rfl rfl rfl rfl H6 2 rfl rfl (fun w7 e7 H7 => ?_)
    dsimp only [List.nil_append, List.cons_append, List.set_cons_zero, List.set_cons_succ, layL] at H7
    refine s_nil (W_seq (W_sr (sV rfl (py_field Tryz.underlying68 rfl Tryz.sizeOf2 rfl rfl) (sV rfl (py_load Tryz.underlying2 rfl rfl (cell_atL (H7.box 1 rfl) rfl)) (s_nil (W_block (W_seq ?_)))))))
    have hk1 := ins_iff.1 (not_false c2)
    refine W_reg (sV rfl (py_eql rfl rfl) (sV rfl (py_assign rfl) (s_nil (W_ifd rfl (fun c4 => ?_) (fun c4 => ?_)))))
    ·refine W_seq (W_sr (sV rfl (py_field Tryz.underlying68 rfl Tryz.sizeOf9 rfl rfl) (sV rfl (py_load Tryz.underlying9 rfl rfl (cell_atL (H7.box 1 rfl) rfl)) (s_call (wn rfl) rfl rfl (pc_call Tryz.func187 rfl Tryz_nm187 rfl) (Tryz_spec_NameFault (by assumption)) (fun v4 w8 r4 => ?_)))))
     obtain ⟨e8, rfl⟩ := r4
     have H8 := H7.to e8
     refine sV rfl (py_assign rfl) (s_nil (W_sr (sV rfl (py_move rfl) (sV rfl (py_neq rfl rfl) (s_nil (W_ifd rfl (fun c5 => ?_) (fun c5 => ?_)))))))
     ·refine W_sr (sV rfl (py_move rfl) (sV rfl (py_assign rfl) (s_nil (W_ret (hQ _ _ (fin1 Tryz.results112 rfl ?_))))))
      have kq := (kindF_item (s := s) (by omega)).trans (itemF_name (by omega))
      have kF := recF_bad (s := s) (not_false c2) (not_false c3) (by omega)
      exact ⟨H8.ext, congrArg (Value.int .i64) ((if_neg (by omega)).trans (kF.trans kq)).symm⟩
     ·refine W_skip (W_seq (W_sr (sV rfl (py_loadS Tryz.underlying34 rfl Tryz.sizeOf34 rfl rfl (At.whole (H8.box 0 rfl))) (sV rfl (py_loadS Tryz.underlying68 rfl Tryz.sizeOf68 rfl rfl (At.whole (H8.box 1 rfl))) (s_call (wn rfl) rfl rfl (pc_call Tryz.func188 rfl Tryz_nm188 rfl) (Tryz_spec_l5Item (by assumption) (H8.sees 0 rfl) (H8.sees 1 rfl) (H8.sees 2 rfl) (by assumption)) (fun v5 w9 r5 => ?_))))))
      obtain ⟨e9, rfl⟩ := r5
      have H9 := H8.to e9
      refine sV rfl (py_not rfl) (s_nil (W_if rfl (fun c6 => ?_) (fun c6 => ?_)))
      ·refine W_sr (sV rfl (py_assign rfl) (s_nil (W_ret (hQ _ _ (fin1 Tryz.results112 rfl ?_)))))
       have kq := (kindF_item (s := s) (by omega)).trans (itemF_bad (by omega) (not_true c6))
       have kF := recF_bad (s := s) (not_false c2) (not_false c3) (by omega)
       exact ⟨H9.ext, congrArg (Value.int .i64) ((if_neg (by omega)).trans (kF.trans kq)).symm⟩
      ·refine W_skip (W_sr (sV rfl (py_field Tryz.underlying68 rfl Tryz.sizeOf9 rfl rfl) (s_sto (wn rfl) Tryz.sizeOf9 rfl rfl rfl H9 2 rfl rfl (fun w10 e10 H10 => ?_))))
       dsimp only [List.nil_append, List.cons_append, List.set_cons_zero, List.set_cons_succ, layL] at H10
       refine s_nil (W_sr (sV rfl (py_field Tryz.underlying68 rfl Tryz.sizeOf2 rfl rfl) (s_sto (wn rfl) Tryz.sizeOf2 rfl rfl rfl H10 2 rfl rfl (fun w11 e11 H11 => ?_))))
       dsimp only [List.nil_append, List.cons_append, List.set_cons_zero, List.set_cons_succ, layL] at H11
       refine s_nil (W_sr (sV rfl (py_field Tryz.underlying68 rfl Tryz.sizeOf25 rfl rfl) (s_sto (wn rfl) Tryz.sizeOf25 rfl rfl rfl H11 2 rfl rfl (fun w12 e12 H12 => ?_))))
       dsimp only [List.nil_append, List.cons_append, List.set_cons_zero, List.set_cons_succ, layL] at H12
       refine s_nil (W_reg (sV rfl (py_field Tryz.underlying68 rfl Tryz.sizeOf45 rfl rfl) (s_sto (wn rfl) Tryz.sizeOf45 rfl rfl rfl H12 2 rfl rfl (fun w13 e13 H13 => ?_))))
       dsimp only [List.nil_append, List.cons_append, List.set_cons_zero, List.set_cons_succ, layL] at H13
       refine s_nil (W_seq (W_sr (sV rfl (py_loadS Tryz.underlying68 rfl Tryz.sizeOf68 rfl rfl (At.whole (H13.box 2 rfl))) (s_call (wn rfl) rfl rfl (pc_call Tryz.func192 rfl Tryz_nm192 rfl) (Tryz_spec_l5Empty (r := ⟨r.Kind, r.Seq, ⟨#[]⟩, 0, r.Group, r.Row, [], [], r.Delta⟩) (rest_ok1 rK) ⟨[], .inr (.inl ⟨rfl, rfl, rfl⟩)⟩ ⟨[], .inr (.inl ⟨rfl, rfl, rfl⟩)⟩ (H13.sees 2 rfl)) (fun v6 w14 r6 => ?_)))))
       obtain ⟨e14, rfl⟩ := r6
       have H14 := H13.to e14
       refine sV rfl (py_not rfl) (s_nil (W_if rfl (fun c7 => ?_) (fun c7 => ?_)))
       ·refine W_sr (sV rfl (py_assign rfl) (s_nil (W_ret (hQ _ _ (fin1 Tryz.results112 rfl ?_)))))
        have kq := (kindF_item (s := s) (by omega)).trans (itemF_ok (by omega) (not_false c6))
        exact ⟨H14.ext, congrArg (Value.int .i64) ((if_neg (by omega)).trans (recF_form (not_false c2) (not_false c3) kq (by rw [← rest_bare1 (by omega)]; exact not_true c7))).symm⟩
       ·refine W_skip (W_sr (sV rfl (py_assign rfl) (s_nil (W_ret (hQ _ _ (fin1 Tryz.results112 rfl ?_))))))
        have kq := (kindF_item (s := s) (by omega)).trans (itemF_ok (by omega) (not_false c6))
        exact ⟨H14.ext, congrArg (Value.int .i64) ((if_neg (by omega)).trans (recF_ok (not_false c2) (not_false c3) kq (by rw [← rest_bare1 (by omega)]; exact not_false c7))).symm⟩
    ·refine W_sr (sV rfl (py_eql rfl rfl) (sV rfl (py_assign rfl) (s_nil (W_ifd rfl (fun c8 => ?_) (fun c8 => ?_)))))
     ·refine W_seq (W_seq (W_drw (S := Ext No _) [(0, true), (1, true), (2, true), (3, true), (4, true), (5, false), (6, true), (7, true), (8, true), (9, true), (10, true), (11, true), (12, true), (13, false), (14, true), (15, true), (16, true), (17, true), (18, true), (19, true), (20, true), (21, false), (22, true), (23, true), (24, true), (25, true), (26, true), (27, true), (28, true), (29, false), (30, true), (31, false)] (by kernel_rfl) (by kernel_rfl) (by kernel_rfl) rfl (fun _ => Ext.refl.drawn _) (fun q1 => ?_)))
      have H15 := H7.drawn q1
      refine dV rfl rfl (fun zw hx => py_field Tryz.underlying68 rfl Tryz.sizeOf2 rfl rfl) (dV rfl rfl (fun zw hx => py_load Tryz.underlying2 rfl rfl (cell_atL (hx.heap (H15.box 1 rfl)) rfl)) (dV rfl rfl (fun zw hx => py_field Tryz.underlying34 rfl Tryz.sizeOf2 rfl rfl) (dV rfl rfl (fun zw hx => py_load Tryz.underlying2 rfl rfl (cell_atL (hx.heap (H15.box 0 rfl)) rfl)) (dV rfl rfl (fun zw hx => py_sub rfl rfl (in64 ⟨by omega, by omega⟩)) (d_call rfl (wn rfl) rfl rfl (pc_call Tryz.func97 rfl Tryz_nm97 rfl) Tryz_spec_l1In (fun hS _ _ r _ => hS.trans r.1.no) (fun v7 w15 r7 => ?_))))))
      obtain ⟨e15, rfl⟩ := r7
      have H16 := H15.to e15
      refine dV rfl rfl (fun zw hx => py_not rfl) (dV rfl rfl (fun zw hx => py_move rfl) (d_case (t := 49) rfl (fun hg1 => ?_) (fun hg1 => ?_)))
      ·try simp only [decide_eq_true_eq, decide_eq_false_iff_not] at hg1
       refine d_skip rfl (wog (b := true) rfl rfl rfl) rfl rfl (d_skip rfl (wog (b := true) rfl rfl rfl) rfl rfl (d_skip rfl (wog (b := true) rfl rfl rfl) rfl rfl (d_skip rfl (wog (b := true) rfl rfl rfl) rfl rfl (d_skip rfl (wog (b := true) rfl rfl rfl) rfl rfl (d_skipA rfl (wog (b := true) rfl rfl rfl) rfl rfl (d_skip rfl (wog (b := true) rfl rfl rfl) rfl rfl (dV rfl rfl (fun zw hx => py_pickT rfl rfl) (dV rfl rfl (fun zw hx => py_move rfl) (d_skip rfl (wog (b := true) rfl rfl rfl) rfl rfl (d_skip rfl (wog (b := true) rfl rfl rfl) rfl rfl (d_skip rfl (wog (b := true) rfl rfl rfl) rfl rfl (d_skip rfl (wog (b := true) rfl rfl rfl) rfl rfl (d_skipA rfl (wog (b := true) rfl rfl rfl) rfl rfl (d_skip rfl (wog (b := true) rfl rfl rfl) rfl rfl (dV rfl rfl (fun zw hx => py_pickT rfl rfl) (dV rfl rfl (fun zw hx => py_move rfl) (d_skip rfl (wog (b := true) rfl rfl rfl) rfl rfl (d_skip rfl (wog (b := true) rfl rfl rfl) rfl rfl (d_skip rfl (wog (b := true) rfl rfl rfl) rfl rfl (d_skip rfl (wog (b := true) rfl rfl rfl) rfl rfl (d_skipA rfl (wog (b := true) rfl rfl rfl) rfl rfl (d_skip rfl (wog (b := true) rfl rfl rfl) rfl rfl (d_end rfl (wn rfl) rfl rfl (py_pickT rfl rfl) (d_nil (W_ift rfl (W_sr (sV rfl (py_assign rfl) (s_nil (W_ret (hQ _ _ (fin1 Tryz.results112 rfl ?_)))))))))))))))))))))))))))))))
       have kq := kindF_move_no (s := s) (by omega) (by simp_all [moveOK])
       have kF := recF_bad (s := s) (not_false c2) (not_false c3) (by omega)
       exact ⟨H16.ext, congrArg (Value.int .i64) ((if_neg (by omega)).trans (kF.trans kq)).symm⟩
      ·try simp only [decide_eq_true_eq, decide_eq_false_iff_not] at hg1
       refine d_val rfl (wg rfl rfl rfl) rfl rfl (fun zw hx => py_field Tryz.underlying68 rfl Tryz.sizeOf2 rfl rfl) (d_val rfl (wg rfl rfl rfl) rfl rfl (fun zw hx => py_load Tryz.underlying2 rfl rfl (cell_atL (hx.heap (H15.box 1 rfl)) rfl)) (d_val rfl (wg rfl rfl rfl) rfl rfl (fun zw hx => py_field Tryz.underlying34 rfl Tryz.sizeOf2 rfl rfl) (d_val rfl (wg rfl rfl rfl) rfl rfl (fun zw hx => py_load Tryz.underlying2 rfl rfl (cell_atL (hx.heap (H15.box 0 rfl)) rfl)) (d_val rfl (wg rfl rfl rfl) rfl rfl (fun zw hx => py_sub rfl rfl (in64 ⟨by omega, by omega⟩)) (d_call rfl (wg rfl rfl rfl) rfl rfl (pc_call Tryz.func97 rfl Tryz_nm97 rfl) Tryz_spec_l1In (fun hS _ _ r _ => hS.trans r.1.no) (fun v8 w16 r8 => ?_))))))
       obtain ⟨e16, rfl⟩ := r8
       have H17 := H16.to e16
       refine d_val rfl (wg rfl rfl rfl) rfl rfl (fun zw hx => py_not rfl) (dV rfl rfl (fun zw hx => py_pickF rfl rfl) (dV rfl rfl (fun zw hx => py_move rfl) (d_case (t := 58) rfl (fun hg2 => ?_) (fun hg2 => ?_))))
       ·try simp only [decide_eq_true_eq, decide_eq_false_iff_not] at hg2
        refine d_skip rfl (wog (b := true) rfl rfl rfl) rfl rfl (d_skip rfl (wog (b := true) rfl rfl rfl) rfl rfl (d_skip rfl (wog (b := true) rfl rfl rfl) rfl rfl (d_skip rfl (wog (b := true) rfl rfl rfl) rfl rfl (d_skipA rfl (wog (b := true) rfl rfl rfl) rfl rfl (d_skip rfl (wog (b := true) rfl rfl rfl) rfl rfl (dV rfl rfl (fun zw hx => py_pickT rfl rfl) (dV rfl rfl (fun zw hx => py_move rfl) (d_skip rfl (wog (b := true) rfl rfl rfl) rfl rfl (d_skip rfl (wog (b := true) rfl rfl rfl) rfl rfl (d_skip rfl (wog (b := true) rfl rfl rfl) rfl rfl (d_skip rfl (wog (b := true) rfl rfl rfl) rfl rfl (d_skipA rfl (wog (b := true) rfl rfl rfl) rfl rfl (d_skip rfl (wog (b := true) rfl rfl rfl) rfl rfl (d_end rfl (wn rfl) rfl rfl (py_pickT rfl rfl) (d_nil (W_ift rfl (W_sr (sV rfl (py_assign rfl) (s_nil (W_ret (hQ _ _ (fin1 Tryz.results112 rfl ?_))))))))))))))))))))))
        have kq := kindF_move_no (s := s) (by omega) (by simp_all [moveOK])
        have kF := recF_bad (s := s) (not_false c2) (not_false c3) (by omega)
        exact ⟨H17.ext, congrArg (Value.int .i64) ((if_neg (by omega)).trans (kF.trans kq)).symm⟩
       ·try simp only [decide_eq_true_eq, decide_eq_false_iff_not] at hg2
        refine d_val rfl (wg rfl rfl rfl) rfl rfl (fun zw hx => py_field Tryz.underlying68 rfl Tryz.sizeOf45 rfl rfl) (d_val rfl (wg rfl rfl rfl) rfl rfl (fun zw hx => py_load Tryz.underlying45 rfl rfl (cell_atL (hx.heap (H15.box 1 rfl)) rfl)) (d_val rfl (wg rfl rfl rfl) rfl rfl (fun zw hx => py_len Tryz.underlying45 rfl) (d_val rfl (wg rfl rfl rfl) rfl rfl (fun zw hx => py_loadS Tryz.underlying34 rfl Tryz.sizeOf34 rfl rfl (At.whole (hx.heap (H15.box 0 rfl)))) (d_call rfl (wg rfl rfl rfl) rfl rfl (pc_call Tryz.func189 rfl Tryz_nm189 rfl) (Tryz_spec_l4Wide (by assumption)) (fun hS _ _ r _ => hS.trans r.1.no) (fun v9 w17 r9 => ?_)))))
        obtain ⟨e17, rfl⟩ := r9
        have H18 := H17.to e17
        refine d_val rfl (wg rfl rfl rfl) rfl rfl (fun zw hx => py_neq rfl rfl) (dV rfl rfl (fun zw hx => py_pickF rfl rfl) (dV rfl rfl (fun zw hx => py_move rfl) (d_case (t := 66) rfl (fun hg3 => ?_) (fun hg3 => ?_))))
        ·try simp only [decide_eq_true_eq, decide_eq_false_iff_not] at hg3
         refine d_skip rfl (wog (b := true) rfl rfl rfl) rfl rfl (d_skip rfl (wog (b := true) rfl rfl rfl) rfl rfl (d_skip rfl (wog (b := true) rfl rfl rfl) rfl rfl (d_skip rfl (wog (b := true) rfl rfl rfl) rfl rfl (d_skipA rfl (wog (b := true) rfl rfl rfl) rfl rfl (d_skip rfl (wog (b := true) rfl rfl rfl) rfl rfl (d_end rfl (wn rfl) rfl rfl (py_pickT rfl rfl) (d_nil (W_ift rfl (W_sr (sV rfl (py_assign rfl) (s_nil (W_ret (hQ _ _ (fin1 Tryz.results112 rfl ?_))))))))))))))
         have kq := kindF_move_no (s := s) (by omega) (by simp_all [moveOK])
         have kF := recF_bad (s := s) (not_false c2) (not_false c3) (by omega)
         exact ⟨H18.ext, congrArg (Value.int .i64) ((if_neg (by omega)).trans (kF.trans kq)).symm⟩
        ·try simp only [decide_eq_true_eq, decide_eq_false_iff_not] at hg3
         refine d_val rfl (wg rfl rfl rfl) rfl rfl (fun zw hx => py_field Tryz.underlying68 rfl Tryz.sizeOf45 rfl rfl) (d_val rfl (wg rfl rfl rfl) rfl rfl (fun zw hx => py_load Tryz.underlying45 rfl rfl (cell_atL (hx.heap (H15.box 1 rfl)) rfl)) (d_val rfl (wg rfl rfl rfl) rfl rfl (fun zw hx => py_len Tryz.underlying45 rfl) (d_val rfl (wg rfl rfl rfl) rfl rfl (fun zw hx => py_loadS Tryz.underlying34 rfl Tryz.sizeOf34 rfl rfl (At.whole (hx.heap (H15.box 0 rfl)))) (d_call rfl (wg rfl rfl rfl) rfl rfl (pc_call Tryz.func189 rfl Tryz_nm189 rfl) (Tryz_spec_l4Wide (by assumption)) (fun hS _ _ r _ => hS.trans r.1.no) (fun v10 w18 r10 => ?_)))))
         obtain ⟨e18, rfl⟩ := r10
         have H19 := H18.to e18
         refine d_val rfl (wg rfl rfl rfl) rfl rfl (fun zw hx => py_neq rfl rfl) (d_end rfl (wn rfl) rfl rfl (py_pickF rfl rfl) (d_nil (W_ifd rfl (fun c9 => ?_) (fun c9 => ?_))))
         ·refine W_sr (sV rfl (py_assign rfl) (s_nil (W_ret (hQ _ _ (fin1 Tryz.results112 rfl ?_)))))
          have kq := kindF_move_no (s := s) (by omega) (by simp_all [moveOK])
          have kF := recF_bad (s := s) (not_false c2) (not_false c3) (by omega)
          exact ⟨H19.ext, congrArg (Value.int .i64) ((if_neg (by omega)).trans (kF.trans kq)).symm⟩
         ·refine W_skip (W_sr (sV rfl (py_field Tryz.underlying68 rfl Tryz.sizeOf2 rfl rfl) (s_sto (wn rfl) Tryz.sizeOf2 rfl rfl rfl H19 2 rfl rfl (fun w19 e19 H20 => ?_))))
          dsimp only [List.nil_append, List.cons_append, List.set_cons_zero, List.set_cons_succ, layL] at H20
          refine s_nil (W_sr (sV rfl (py_field Tryz.underlying68 rfl Tryz.sizeOf2 rfl rfl) (s_sto (wn rfl) Tryz.sizeOf2 rfl rfl rfl H20 2 rfl rfl (fun w20 e20 H21 => ?_))))
          dsimp only [List.nil_append, List.cons_append, List.set_cons_zero, List.set_cons_succ, layL] at H21
          refine s_nil (W_sr (sV rfl (py_field Tryz.underlying68 rfl Tryz.sizeOf45 rfl rfl) (s_sto (wn rfl) Tryz.sizeOf45 rfl rfl rfl H21 2 rfl rfl (fun w21 e21 H22 => ?_))))
          dsimp only [List.nil_append, List.cons_append, List.set_cons_zero, List.set_cons_succ, layL] at H22
          refine s_nil (W_reg (sV rfl (py_field Tryz.underlying68 rfl Tryz.sizeOf45 rfl rfl) (s_sto (wn rfl) Tryz.sizeOf45 rfl rfl rfl H22 2 rfl rfl (fun w22 e22 H23 => ?_))))
          dsimp only [List.nil_append, List.cons_append, List.set_cons_zero, List.set_cons_succ, layL] at H23
          refine s_nil (W_seq (W_sr (sV rfl (py_loadS Tryz.underlying68 rfl Tryz.sizeOf68 rfl rfl (At.whole (H23.box 2 rfl))) (s_call (wn rfl) rfl rfl (pc_call Tryz.func192 rfl Tryz_nm192 rfl) (Tryz_spec_l5Empty (r := ⟨r.Kind, r.Seq, r.Name, r.Length, 0, 0, r.Rows, [], []⟩) (rest_ok2 rK) (H23.sees 0 rfl) ⟨[], .inr (.inl ⟨rfl, rfl, rfl⟩)⟩ ⟨[], .inr (.inl ⟨rfl, rfl, rfl⟩)⟩) (fun v11 w23 r11 => ?_)))))
          obtain ⟨e23, rfl⟩ := r11
          have H24 := H23.to e23
          refine sV rfl (py_not rfl) (s_nil (W_if rfl (fun c10 => ?_) (fun c10 => ?_)))
          ·refine W_sr (sV rfl (py_assign rfl) (s_nil (W_ret (hQ _ _ (fin1 Tryz.results112 rfl ?_)))))
           have kq := kindF_move_ok (s := s) (by omega) (by simp_all [moveOK])
           exact ⟨H24.ext, congrArg (Value.int .i64) ((if_neg (by omega)).trans (recF_form (not_false c2) (not_false c3) kq (by rw [← rest_bare2 (by omega)]; exact not_true c10))).symm⟩
          ·refine W_skip (W_sr (sV rfl (py_assign rfl) (s_nil (W_ret (hQ _ _ (fin1 Tryz.results112 rfl ?_))))))
           have kq := kindF_move_ok (s := s) (by omega) (by simp_all [moveOK])
           exact ⟨H24.ext, congrArg (Value.int .i64) ((if_neg (by omega)).trans (recF_ok (not_false c2) (not_false c3) kq (by rw [← rest_bare2 (by omega)]; exact not_false c10))).symm⟩
     ·refine W_sr (sV rfl (py_eql rfl rfl) (sV rfl (py_assign rfl) (s_nil (W_ifd rfl (fun c11 => ?_) (fun c11 => ?_)))))
      ·refine W_seq (W_seq (W_drw (S := Ext No _) [(0, true), (1, true), (2, true), (3, false), (4, true), (5, false), (6, false)] (by kernel_rfl) (by kernel_rfl) (by kernel_rfl) rfl (fun _ => Ext.refl.drawn _) (fun q2 => ?_)))
       have H25 := H7.drawn q2
       refine dV rfl rfl (fun zw hx => py_field Tryz.underlying68 rfl Tryz.sizeOf2 rfl rfl) (dV rfl rfl (fun zw hx => py_load Tryz.underlying2 rfl rfl (cell_atL (hx.heap (H25.box 1 rfl)) rfl)) (dV rfl rfl (fun zw hx => py_loadS Tryz.underlying34 rfl Tryz.sizeOf34 rfl rfl (At.whole (hx.heap (H25.box 0 rfl)))) (d_call rfl (wn rfl) rfl rfl (pc_call Tryz.func162 rfl Tryz_nm162 rfl) (Tryz_spec_l5All (by assumption)) (fun hS _ _ r _ => hS.trans r.1.no) (fun v12 w24 r12 => ?_))))
       obtain ⟨e24, rfl⟩ := r12
       have H26 := H25.to e24
       refine dV rfl rfl (fun zw hx => py_sub rfl rfl (in64 ⟨by omega, by omega⟩)) (d_call rfl (wn rfl) rfl rfl (pc_call Tryz.func97 rfl Tryz_nm97 rfl) Tryz_spec_l1In (fun hS _ _ r _ => hS.trans r.1.no) (fun v13 w25 r13 => ?_))
       obtain ⟨e25, rfl⟩ := r13
       have H27 := H26.to e25
       refine d_end rfl (wn rfl) rfl rfl (py_not rfl) (d_nil (W_if rfl (fun c12 => ?_) (fun c12 => ?_)))
       ·refine W_sr (sV rfl (py_assign rfl) (s_nil (W_ret (hQ _ _ (fin1 Tryz.results112 rfl ?_)))))
        have kq := kindF_done_no (s := s) (by omega) (not_true c12)
        have kF := recF_bad (s := s) (not_false c2) (not_false c3) (by omega)
        exact ⟨H27.ext, congrArg (Value.int .i64) ((if_neg (by omega)).trans (kF.trans kq)).symm⟩
       ·refine W_skip (W_reg (sV rfl (py_field Tryz.underlying68 rfl Tryz.sizeOf2 rfl rfl) (s_sto (wn rfl) Tryz.sizeOf2 rfl rfl rfl H27 2 rfl rfl (fun w26 e26 H28 => ?_))))
        dsimp only [List.nil_append, List.cons_append, List.set_cons_zero, List.set_cons_succ, layL] at H28
        refine s_nil (W_seq (W_sr (sV rfl (py_loadS Tryz.underlying68 rfl Tryz.sizeOf68 rfl rfl (At.whole (H28.box 2 rfl))) (s_call (wn rfl) rfl rfl (pc_call Tryz.func192 rfl Tryz_nm192 rfl) (Tryz_spec_l5Empty (r := ⟨r.Kind, r.Seq, r.Name, r.Length, 0, r.Row, r.Rows, r.Data, r.Delta⟩) (rest_ok3 rK) (H28.sees 0 rfl) (H28.sees 1 rfl) (H28.sees 2 rfl)) (fun v14 w27 r14 => ?_)))))
        obtain ⟨e27, rfl⟩ := r14
        have H29 := H28.to e27
        refine sV rfl (py_not rfl) (s_nil (W_if rfl (fun c13 => ?_) (fun c13 => ?_)))
        ·refine W_sr (sV rfl (py_assign rfl) (s_nil (W_ret (hQ _ _ (fin1 Tryz.results112 rfl ?_)))))
         have kq := kindF_done_ok (s := s) (by omega) (not_false c12)
         exact ⟨H29.ext, congrArg (Value.int .i64) ((if_neg (by omega)).trans (recF_form (not_false c2) (not_false c3) kq (by rw [← rest_bare3 (by omega)]; exact not_true c13))).symm⟩
        ·refine W_skip (W_sr (sV rfl (py_assign rfl) (s_nil (W_ret (hQ _ _ (fin1 Tryz.results112 rfl ?_))))))
         have kq := kindF_done_ok (s := s) (by omega) (not_false c12)
         exact ⟨H29.ext, congrArg (Value.int .i64) ((if_neg (by omega)).trans (recF_ok (not_false c2) (not_false c3) kq (by rw [← rest_bare3 (by omega)]; exact not_false c13))).symm⟩
      ·refine W_sr (sV rfl (py_eql rfl rfl) (sV rfl (py_assign rfl) (s_nil (W_ifd rfl (fun c14 => ?_) (fun c14 => ?_)))))
       ·refine W_seq (W_seq (W_drw (S := Ext No _) [(0, true), (1, true), (2, true), (3, false), (4, true), (5, false), (6, true), (7, true), (8, true), (9, true), (10, true), (11, true), (12, true), (13, false), (14, true), (15, true), (16, true), (17, true), (18, true), (19, true), (20, false), (21, true), (22, false), (23, true), (24, true), (25, true), (26, true), (27, true), (28, true), (29, true), (30, false), (31, true), (32, true), (33, true), (34, true), (35, true), (36, false), (37, true), (38, false)] (by kernel_rfl) (by kernel_rfl) (by kernel_rfl) rfl (fun _ => Ext.refl.drawn _) (fun q3 => ?_)))
        have H30 := H7.drawn q3
        refine dV rfl rfl (fun zw hx => py_field Tryz.underlying68 rfl Tryz.sizeOf2 rfl rfl) (dV rfl rfl (fun zw hx => py_load Tryz.underlying2 rfl rfl (cell_atL (hx.heap (H30.box 1 rfl)) rfl)) (dV rfl rfl (fun zw hx => py_loadS Tryz.underlying34 rfl Tryz.sizeOf34 rfl rfl (At.whole (hx.heap (H30.box 0 rfl)))) (d_call rfl (wn rfl) rfl rfl (pc_call Tryz.func162 rfl Tryz_nm162 rfl) (Tryz_spec_l5All (by assumption)) (fun hS _ _ r _ => hS.trans r.1.no) (fun v15 w28 r15 => ?_))))
        obtain ⟨e28, rfl⟩ := r15
        have H31 := H30.to e28
        refine dV rfl rfl (fun zw hx => py_sub rfl rfl (in64 ⟨by omega, by omega⟩)) (d_call rfl (wn rfl) rfl rfl (pc_call Tryz.func97 rfl Tryz_nm97 rfl) Tryz_spec_l1In (fun hS _ _ r _ => hS.trans r.1.no) (fun v16 w29 r16 => ?_))
        obtain ⟨e29, rfl⟩ := r16
        have H32 := H31.to e29
        refine dV rfl rfl (fun zw hx => py_not rfl) (dV rfl rfl (fun zw hx => py_move rfl) (d_case (t := 97) rfl (fun hg4 => ?_) (fun hg4 => ?_)))
        ·try simp only [decide_eq_true_eq, decide_eq_false_iff_not] at hg4
         refine d_skip rfl (wog (b := true) rfl rfl rfl) rfl rfl (d_skip rfl (wog (b := true) rfl rfl rfl) rfl rfl (d_skip rfl (wog (b := true) rfl rfl rfl) rfl rfl (d_skip rfl (wog (b := true) rfl rfl rfl) rfl rfl (d_skip rfl (wog (b := true) rfl rfl rfl) rfl rfl (d_skipA rfl (wog (b := true) rfl rfl rfl) rfl rfl (d_skip rfl (wog (b := true) rfl rfl rfl) rfl rfl (dV rfl rfl (fun zw hx => py_pickT rfl rfl) (dV rfl rfl (fun zw hx => py_move rfl) (d_skip rfl (wog (b := true) rfl rfl rfl) rfl rfl (d_skip rfl (wog (b := true) rfl rfl rfl) rfl rfl (d_skip rfl (wog (b := true) rfl rfl rfl) rfl rfl (d_skipA rfl (wog (b := true) rfl rfl rfl) rfl rfl (d_skip rfl (wog (b := true) rfl rfl rfl) rfl rfl (d_skipA rfl (wog (b := true) rfl rfl rfl) rfl rfl (d_skip rfl (wog (b := true) rfl rfl rfl) rfl rfl (dV rfl rfl (fun zw hx => py_pickT rfl rfl) (dV rfl rfl (fun zw hx => py_move rfl) (d_skip rfl (wog (b := true) rfl rfl rfl) rfl rfl (d_skip rfl (wog (b := true) rfl rfl rfl) rfl rfl (d_skip rfl (wog (b := true) rfl rfl rfl) rfl rfl (d_skip rfl (wog (b := true) rfl rfl rfl) rfl rfl (d_skipA rfl (wog (b := true) rfl rfl rfl) rfl rfl (d_skip rfl (wog (b := true) rfl rfl rfl) rfl rfl (dV rfl rfl (fun zw hx => py_pickT rfl rfl) (dV rfl rfl (fun zw hx => py_move rfl) (d_skip rfl (wog (b := true) rfl rfl rfl) rfl rfl (d_skip rfl (wog (b := true) rfl rfl rfl) rfl rfl (d_skipA rfl (wog (b := true) rfl rfl rfl) rfl rfl (d_skip rfl (wog (b := true) rfl rfl rfl) rfl rfl (d_end rfl (wn rfl) rfl rfl (py_pickT rfl rfl) (d_nil (W_ift rfl (W_sr (sV rfl (py_assign rfl) (s_nil (W_ret (hQ _ _ (fin1 Tryz.results112 rfl ?_))))))))))))))))))))))))))))))))))))))
         have kq := (kindF_share (s := s) (by omega)).trans (if_neg (by simp_all [shareOK]))
         have kF := recF_bad (s := s) (not_false c2) (not_false c3) (by omega)
         exact ⟨H32.ext, congrArg (Value.int .i64) ((if_neg (by omega)).trans (kF.trans kq)).symm⟩
        ·try simp only [decide_eq_true_eq, decide_eq_false_iff_not] at hg4
         refine d_val rfl (wg rfl rfl rfl) rfl rfl (fun zw hx => py_field Tryz.underlying68 rfl Tryz.sizeOf2 rfl rfl) (d_val rfl (wg rfl rfl rfl) rfl rfl (fun zw hx => py_load Tryz.underlying2 rfl rfl (cell_atL (hx.heap (H30.box 1 rfl)) rfl)) (d_val rfl (wg rfl rfl rfl) rfl rfl (fun zw hx => py_field Tryz.underlying34 rfl Tryz.sizeOf2 rfl rfl) (d_val rfl (wg rfl rfl rfl) rfl rfl (fun zw hx => py_load Tryz.underlying2 rfl rfl (cell_atL (hx.heap (H30.box 0 rfl)) rfl)) (d_val rfl (wg rfl rfl rfl) rfl rfl (fun zw hx => py_sub rfl rfl (in64 ⟨by omega, by omega⟩)) (d_call rfl (wg rfl rfl rfl) rfl rfl (pc_call Tryz.func97 rfl Tryz_nm97 rfl) Tryz_spec_l1In (fun hS _ _ r _ => hS.trans r.1.no) (fun v17 w30 r17 => ?_))))))
         obtain ⟨e30, rfl⟩ := r17
         have H33 := H32.to e30
         refine d_val rfl (wg rfl rfl rfl) rfl rfl (fun zw hx => py_not rfl) (dV rfl rfl (fun zw hx => py_pickF rfl rfl) (dV rfl rfl (fun zw hx => py_move rfl) (d_case (t := 106) rfl (fun hg5 => ?_) (fun hg5 => ?_))))
         ·try simp only [decide_eq_true_eq, decide_eq_false_iff_not] at hg5
          refine d_skip rfl (wog (b := true) rfl rfl rfl) rfl rfl (d_skip rfl (wog (b := true) rfl rfl rfl) rfl rfl (d_skip rfl (wog (b := true) rfl rfl rfl) rfl rfl (d_skipA rfl (wog (b := true) rfl rfl rfl) rfl rfl (d_skip rfl (wog (b := true) rfl rfl rfl) rfl rfl (d_skipA rfl (wog (b := true) rfl rfl rfl) rfl rfl (d_skip rfl (wog (b := true) rfl rfl rfl) rfl rfl (dV rfl rfl (fun zw hx => py_pickT rfl rfl) (dV rfl rfl (fun zw hx => py_move rfl) (d_skip rfl (wog (b := true) rfl rfl rfl) rfl rfl (d_skip rfl (wog (b := true) rfl rfl rfl) rfl rfl (d_skip rfl (wog (b := true) rfl rfl rfl) rfl rfl (d_skip rfl (wog (b := true) rfl rfl rfl) rfl rfl (d_skipA rfl (wog (b := true) rfl rfl rfl) rfl rfl (d_skip rfl (wog (b := true) rfl rfl rfl) rfl rfl (dV rfl rfl (fun zw hx => py_pickT rfl rfl) (dV rfl rfl (fun zw hx => py_move rfl) (d_skip rfl (wog (b := true) rfl rfl rfl) rfl rfl (d_skip rfl (wog (b := true) rfl rfl rfl) rfl rfl (d_skipA rfl (wog (b := true) rfl rfl rfl) rfl rfl (d_skip rfl (wog (b := true) rfl rfl rfl) rfl rfl (d_end rfl (wn rfl) rfl rfl (py_pickT rfl rfl) (d_nil (W_ift rfl (W_sr (sV rfl (py_assign rfl) (s_nil (W_ret (hQ _ _ (fin1 Tryz.results112 rfl ?_)))))))))))))))))))))))))))))
          have kq := (kindF_share (s := s) (by omega)).trans (if_neg (by simp_all [shareOK]))
          have kF := recF_bad (s := s) (not_false c2) (not_false c3) (by omega)
          exact ⟨H33.ext, congrArg (Value.int .i64) ((if_neg (by omega)).trans (kF.trans kq)).symm⟩
         ·try simp only [decide_eq_true_eq, decide_eq_false_iff_not] at hg5
          refine d_val rfl (wg rfl rfl rfl) rfl rfl (fun zw hx => py_field Tryz.underlying68 rfl Tryz.sizeOf25 rfl rfl) (d_val rfl (wg rfl rfl rfl) rfl rfl (fun zw hx => py_load Tryz.underlying25 rfl rfl (cell_atL (hx.heap (H30.box 1 rfl)) rfl)) (d_val rfl (wg rfl rfl rfl) rfl rfl (fun zw hx => py_loadS Tryz.underlying34 rfl Tryz.sizeOf34 rfl rfl (At.whole (hx.heap (H30.box 0 rfl)))) (d_call rfl (wg rfl rfl rfl) rfl rfl (pc_call Tryz.func162 rfl Tryz_nm162 rfl) (Tryz_spec_l5All (by assumption)) (fun hS _ _ r _ => hS.trans r.1.no) (fun v18 w31 r18 => ?_))))
          obtain ⟨e31, rfl⟩ := r18
          have H34 := H33.to e31
          refine d_val rfl (wg rfl rfl rfl) rfl rfl (fun zw hx => py_sub rfl rfl (in64 ⟨by omega, by omega⟩)) (d_call rfl (wg rfl rfl rfl) rfl rfl (pc_call Tryz.func190 rfl Tryz_nm190 rfl) (Tryz_spec_l2Rise (H34.sees 0 rfl) (by omega)) (fun hS _ _ r _ => hS.trans r.1.no) (fun v19 w32 r19 => ?_))
          obtain ⟨e32, rfl⟩ := r19
          have H35 := H34.to e32
          refine d_val rfl (wg rfl rfl rfl) rfl rfl (fun zw hx => py_not rfl) (dV rfl rfl (fun zw hx => py_pickF rfl rfl) (dV rfl rfl (fun zw hx => py_move rfl) (d_case (t := 115) rfl (fun hg6 => ?_) (fun hg6 => ?_))))
          ·try simp only [decide_eq_true_eq, decide_eq_false_iff_not] at hg6
           refine d_skip rfl (wog (b := true) rfl rfl rfl) rfl rfl (d_skip rfl (wog (b := true) rfl rfl rfl) rfl rfl (d_skip rfl (wog (b := true) rfl rfl rfl) rfl rfl (d_skip rfl (wog (b := true) rfl rfl rfl) rfl rfl (d_skipA rfl (wog (b := true) rfl rfl rfl) rfl rfl (d_skip rfl (wog (b := true) rfl rfl rfl) rfl rfl (dV rfl rfl (fun zw hx => py_pickT rfl rfl) (dV rfl rfl (fun zw hx => py_move rfl) (d_skip rfl (wog (b := true) rfl rfl rfl) rfl rfl (d_skip rfl (wog (b := true) rfl rfl rfl) rfl rfl (d_skipA rfl (wog (b := true) rfl rfl rfl) rfl rfl (d_skip rfl (wog (b := true) rfl rfl rfl) rfl rfl (d_end rfl (wn rfl) rfl rfl (py_pickT rfl rfl) (d_nil (W_ift rfl (W_sr (sV rfl (py_assign rfl) (s_nil (W_ret (hQ _ _ (fin1 Tryz.results112 rfl ?_))))))))))))))))))))
           have kq := (kindF_share (s := s) (by omega)).trans (if_neg (by simp_all [shareOK]))
           have kF := recF_bad (s := s) (not_false c2) (not_false c3) (by omega)
           exact ⟨H35.ext, congrArg (Value.int .i64) ((if_neg (by omega)).trans (kF.trans kq)).symm⟩
          ·try simp only [decide_eq_true_eq, decide_eq_false_iff_not] at hg6
           refine d_val rfl (wg rfl rfl rfl) rfl rfl (fun zw hx => py_field Tryz.underlying68 rfl Tryz.sizeOf45 rfl rfl) (d_val rfl (wg rfl rfl rfl) rfl rfl (fun zw hx => py_load Tryz.underlying45 rfl rfl (cell_atL (hx.heap (H30.box 1 rfl)) rfl)) (d_val rfl (wg rfl rfl rfl) rfl rfl (fun zw hx => py_len Tryz.underlying45 rfl) (d_val rfl (wg rfl rfl rfl) rfl rfl (fun zw hx => py_loadS Tryz.underlying34 rfl Tryz.sizeOf34 rfl rfl (At.whole (hx.heap (H30.box 0 rfl)))) (d_call rfl (wg rfl rfl rfl) rfl rfl (pc_call Tryz.func189 rfl Tryz_nm189 rfl) (Tryz_spec_l4Wide (by assumption)) (fun hS _ _ r _ => hS.trans r.1.no) (fun v20 w33 r20 => ?_)))))
           obtain ⟨e33, rfl⟩ := r20
           have H36 := H35.to e33
           refine d_val rfl (wg rfl rfl rfl) rfl rfl (fun zw hx => py_neq rfl rfl) (dV rfl rfl (fun zw hx => py_pickF rfl rfl) (dV rfl rfl (fun zw hx => py_move rfl) (d_case (t := 123) rfl (fun hg7 => ?_) (fun hg7 => ?_))))
           ·try simp only [decide_eq_true_eq, decide_eq_false_iff_not] at hg7
            refine d_skip rfl (wog (b := true) rfl rfl rfl) rfl rfl (d_skip rfl (wog (b := true) rfl rfl rfl) rfl rfl (d_skipA rfl (wog (b := true) rfl rfl rfl) rfl rfl (d_skip rfl (wog (b := true) rfl rfl rfl) rfl rfl (d_end rfl (wn rfl) rfl rfl (py_pickT rfl rfl) (d_nil (W_ift rfl (W_sr (sV rfl (py_assign rfl) (s_nil (W_ret (hQ _ _ (fin1 Tryz.results112 rfl ?_))))))))))))
            have kq := (kindF_share (s := s) (by omega)).trans (if_neg (by simp_all [shareOK]))
            have kF := recF_bad (s := s) (not_false c2) (not_false c3) (by omega)
            exact ⟨H36.ext, congrArg (Value.int .i64) ((if_neg (by omega)).trans (kF.trans kq)).symm⟩
           ·have hgr := ins_iff.1 (not_false hg4)
            have hrr : ∀ i, i < r.Rows.length → 0 ≤ r.Rows.getD i 0 ∧ r.Rows.getD i 0 < s.Groups + s.Column := fun i hi => by have := rises_get (not_false hg6) i hi; omega
            refine d_val rfl (wg rfl rfl rfl) rfl rfl (fun zw hx => py_loadS Tryz.underlying34 rfl Tryz.sizeOf34 rfl rfl (At.whole (hx.heap (H30.box 0 rfl)))) (d_val rfl (wg rfl rfl rfl) rfl rfl (fun zw hx => py_loadS Tryz.underlying68 rfl Tryz.sizeOf68 rfl rfl (At.whole (hx.heap (H30.box 1 rfl)))) (d_call rfl (wg rfl rfl rfl) rfl rfl (pc_call Tryz.func191 rfl Tryz_nm191 rfl) (Tryz_spec_l5Weights (by assumption) (H36.sees 0 rfl) (H36.sees 1 rfl) (H36.sees 2 rfl) (by assumption) (by omega) hrr) (fun hS _ _ r _ => hS.trans r.1.no) (fun v21 w34 r21 => ?_)))
            obtain ⟨e34, rfl⟩ := r21
            have H37 := H36.to e34
            refine d_val rfl (wg rfl rfl rfl) rfl rfl (fun zw hx => py_not rfl) (d_end rfl (wn rfl) rfl rfl (py_pickF rfl rfl) (d_nil (W_if rfl (fun c15 => ?_) (fun c15 => ?_))))
            ·refine W_sr (sV rfl (py_assign rfl) (s_nil (W_ret (hQ _ _ (fin1 Tryz.results112 rfl ?_)))))
             have kq := (kindF_share (s := s) (by omega)).trans (if_neg (by simp_all [shareOK]))
             have kF := recF_bad (s := s) (not_false c2) (not_false c3) (by omega)
             exact ⟨H37.ext, congrArg (Value.int .i64) ((if_neg (by omega)).trans (kF.trans kq)).symm⟩
            ·refine W_skip (W_sr (sV rfl (py_field Tryz.underlying68 rfl Tryz.sizeOf45 rfl rfl) (s_sto (wn rfl) Tryz.sizeOf45 rfl rfl rfl H37 2 rfl rfl (fun w35 e35 H38 => ?_))))
             dsimp only [List.nil_append, List.cons_append, List.set_cons_zero, List.set_cons_succ, layL] at H38
             refine s_nil (W_sr (sV rfl (py_field Tryz.underlying68 rfl Tryz.sizeOf2 rfl rfl) (s_sto (wn rfl) Tryz.sizeOf2 rfl rfl rfl H38 2 rfl rfl (fun w36 e36 H39 => ?_))))
             dsimp only [List.nil_append, List.cons_append, List.set_cons_zero, List.set_cons_succ, layL] at H39
             refine s_nil (W_sr (sV rfl (py_field Tryz.underlying68 rfl Tryz.sizeOf2 rfl rfl) (s_sto (wn rfl) Tryz.sizeOf2 rfl rfl rfl H39 2 rfl rfl (fun w37 e37 H40 => ?_))))
             dsimp only [List.nil_append, List.cons_append, List.set_cons_zero, List.set_cons_succ, layL] at H40
             refine s_nil (W_sr (sV rfl (py_field Tryz.underlying68 rfl Tryz.sizeOf25 rfl rfl) (s_sto (wn rfl) Tryz.sizeOf25 rfl rfl rfl H40 2 rfl rfl (fun w38 e38 H41 => ?_))))
             dsimp only [List.nil_append, List.cons_append, List.set_cons_zero, List.set_cons_succ, layL] at H41
             refine s_nil (W_reg (sV rfl (py_field Tryz.underlying68 rfl Tryz.sizeOf45 rfl rfl) (s_sto (wn rfl) Tryz.sizeOf45 rfl rfl rfl H41 2 rfl rfl (fun w39 e39 H42 => ?_))))
             dsimp only [List.nil_append, List.cons_append, List.set_cons_zero, List.set_cons_succ, layL] at H42
             refine s_nil (W_seq (W_sr (sV rfl (py_loadS Tryz.underlying68 rfl Tryz.sizeOf68 rfl rfl (At.whole (H42.box 2 rfl))) (s_call (wn rfl) rfl rfl (pc_call Tryz.func192 rfl Tryz_nm192 rfl) (Tryz_spec_l5Empty (r := ⟨r.Kind, r.Seq, r.Name, r.Length, 0, 0, [], [], []⟩) (rest_ok4 rK) ⟨[], .inr (.inl ⟨rfl, rfl, rfl⟩)⟩ ⟨[], .inr (.inl ⟨rfl, rfl, rfl⟩)⟩ ⟨[], .inr (.inl ⟨rfl, rfl, rfl⟩)⟩) (fun v22 w40 r22 => ?_)))))
             obtain ⟨e40, rfl⟩ := r22
             have H43 := H42.to e40
             refine sV rfl (py_not rfl) (s_nil (W_if rfl (fun c16 => ?_) (fun c16 => ?_)))
             ·refine W_sr (sV rfl (py_assign rfl) (s_nil (W_ret (hQ _ _ (fin1 Tryz.results112 rfl ?_)))))
              have kq := (kindF_share (s := s) (by omega)).trans (if_pos (by simp_all [shareOK]))
              exact ⟨H43.ext, congrArg (Value.int .i64) ((if_neg (by omega)).trans (recF_form (not_false c2) (not_false c3) kq (by rw [← rest_bare4 (by omega)]; exact not_true c16))).symm⟩
             ·refine W_skip (W_sr (sV rfl (py_assign rfl) (s_nil (W_ret (hQ _ _ (fin1 Tryz.results112 rfl ?_))))))
              have kq := (kindF_share (s := s) (by omega)).trans (if_pos (by simp_all [shareOK]))
              exact ⟨H43.ext, congrArg (Value.int .i64) ((if_neg (by omega)).trans (recF_ok (not_false c2) (not_false c3) kq (by rw [← rest_bare4 (by omega)]; exact not_false c16))).symm⟩
       ·exfalso; omega
theorem Tryz_impl_blockOK {w : World} {b : Block} {bA1 : Option Addr} {bC1 : Nat} (bK : b.Ok) (bS1 : Sees w [.slice bA1 b.Bytes.length bC1] b.Bytes) : Ret Tryz.prog 242 #[b.val bA1 bC1] w fun v w' => Ext No w w' ∧ (v = .bool (blockOK b)) := by
 have bK2 := bK
 unfold Block.Ok at bK2
 try unfold I64ok at bK2
 try unfold maxLen at bK2
 have bL1 := sees_len bS1
 unfold maxLen at bL1
 obtain ⟨bF1, bO1⟩ := bS1
 refine ret_Q (vs := [b.val bA1 bC1]) Tryz.func242 rfl Tryz.ntmps242 rfl (fun Q hQ hN => ?_)
 have H0 := Sep.start (w := w) (F := [seen false [.slice bA1 b.Bytes.length bC1] b.Bytes bF1]) (all_cons bO1 (by simp))
 refine W_sr (s_box (wn rfl) rfl rfl H0 (fun b1 w1 e1 g1 H1 => ?_))
 refine sV rfl (py_assign rfl) (s_nil (W_sr (sV rfl (py_field Tryz.underlying182 rfl Tryz.sizeOf2 rfl rfl) (sV rfl (py_load Tryz.underlying2 rfl rfl (cell_atL (H1.box 0 rfl) rfl)) (s_call (wn rfl) rfl rfl (pc_call Tryz.func147 rfl Tryz_nm147 rfl) Tryz_impl_inside (fun v1 w2 r1 => ?_))))))
 obtain ⟨e2, rfl⟩ := r1
 have H2 := H1.to e2
 refine sV rfl (py_move rfl) (s_grp 4 (j := 3) (want := true) (t := 10) rfl rfl rfl rfl (fun hg1 kk1 => s_val (wgE rfl rfl rfl hg1) rfl rfl (py_field Tryz.underlying182 rfl Tryz.sizeOf45 rfl rfl) (s_val (wgE rfl rfl rfl hg1) rfl rfl (py_load Tryz.underlying45 rfl rfl (cell_atL (H2.box 0 rfl) rfl)) (s_val (wgE rfl rfl rfl hg1) rfl rfl (py_len Tryz.underlying45 rfl) (s_val (wgE rfl rfl rfl hg1) rfl rfl (py_eql rfl rfl) (kk1 _ _ (kx rfl (kx rfl (kx rfl (kx rfl k0)))) rfl Ext.refl))))) (fun w3 e3 => ?_))
 have H3 := H2.to e3
 refine sV rfl (py_band rfl rfl) (sV rfl (py_assign rfl) (s_nil (W_ret (hQ _ _ (fin1 Tryz.results242 rfl ?_)))))
 exact ⟨H3.ext, congrArg Value.bool (by simp only [blockOK]; congr 1; exact decide_eq_decide.2 (by omega))⟩
theorem Tryz_impl_groupsOK_1 {w : World} {b : Block} {bA1 : Option Addr} {bC1 : Nat} (bK : b.Ok) (bS1 : Sees w [.slice bA1 b.Bytes.length bC1] b.Bytes) : Ret Tryz.prog 241 #[b.val bA1 bC1] w fun v w' => Ext No w w' ∧ (v = .bool (!blockOK b)) := by
 have bK2 := bK
 unfold Block.Ok at bK2
 try unfold I64ok at bK2
 try unfold maxLen at bK2
 have bL1 := sees_len bS1
 unfold maxLen at bL1
 obtain ⟨bF1, bO1⟩ := bS1
 refine ret_Q (vs := [b.val bA1 bC1]) Tryz.func241 rfl Tryz.ntmps241 rfl (fun Q hQ hN => ?_)
 have H0 := Sep.start (w := w) (F := [seen false [.slice bA1 b.Bytes.length bC1] b.Bytes bF1]) (all_cons bO1 (by simp))
 refine W_sr (s_box (wn rfl) rfl rfl H0 (fun b1 w1 e1 g1 H1 => ?_))
 refine sV rfl (py_assign rfl) (s_nil (W_sr (sV rfl (py_loadS Tryz.underlying182 rfl Tryz.sizeOf182 rfl rfl (At.whole (H1.box 0 rfl))) (s_call (wn rfl) rfl rfl (pc_call Tryz.func242 rfl Tryz_nm242 rfl) (Tryz_impl_blockOK (by assumption) (H1.sees 0 rfl)) (fun v1 w2 r1 => ?_)))))
 obtain ⟨e2, rfl⟩ := r1
 have H2 := H1.to e2
 refine sV rfl (py_not rfl) (sV rfl (py_assign rfl) (s_nil (W_ret (hQ _ _ (fin1 Tryz.results241 rfl ?_)))))
 exact ⟨H2.ext, rfl⟩
set_option maxHeartbeats 1000000 in
theorem Tryz_impl_groupsOK {w : World} {z : Wld} {zA9 : Option Addr} {zC9 : Nat} {zA10 : Option Addr} {zC10 : Nat} {zA11 : Option Addr} {zC11 : Nat} (zK : z.Ok) (zS9 : Sees w [.slice zA9 z.Groups.length zC9] z.Groups) (zS10 : Sees w [.slice zA10 z.On.length zC10] z.On) (zS11 : Sees w [.slice zA11 z.Tapes.length zC11] z.Tapes) (hs : z.Shape.ok = true) : Ret Tryz.prog 144 #[z.val zA9 zC9 zA10 zC10 zA11 zC11] w fun v w' => Ext No w w' ∧ (v = .bool (groupsOK z)) := by
 have zK2 := zK
 unfold Wld.Ok Shape.Ok at zK2
 try unfold I64ok at zK2
 try unfold maxLen at zK2
 have zL9 := sees_len zS9
 unfold maxLen at zL9
 obtain ⟨zF9, zO9⟩ := zS9
 have zL10 := sees_len zS10
 unfold maxLen at zL10
 obtain ⟨zF10, zO10⟩ := zS10
 have zL11 := sees_len zS11
 unfold maxLen at zL11
 obtain ⟨zF11, zO11⟩ := zS11
 have sbd := shape_bd hs
 refine ret_Q (vs := [z.val zA9 zC9 zA10 zC10 zA11 zC11]) Tryz.func144 rfl Tryz.ntmps144 rfl (fun Q hQ hN => ?_)
 have H0 := Sep.start (w := w) (F := [seen false [.slice zA9 z.Groups.length zC9] z.Groups zF9, seen false [.slice zA10 z.On.length zC10] z.On zF10, seen false [.slice zA11 z.Tapes.length zC11] z.Tapes zF11]) (all_cons zO9 (all_cons zO10 (all_cons zO11 (by simp))))
 refine W_sr (s_box (wn rfl) rfl rfl H0 (fun b1 w1 e1 g1 H1 => ?_))
 refine sV rfl (py_assign rfl) (s_nil (W_sr (sV rfl (py_field Tryz.underlying38 rfl Tryz.sizeOf34 rfl rfl) (sV rfl (py_loadS Tryz.underlying34 rfl Tryz.sizeOf34 rfl rfl (At.sub (H1.box 0 rfl) 9)) (s_var (wn rfl) rfl Tryz.zeroValue34 H1 (fun b2 w2 e2 g2 H2 => ?_))))))
 refine s_stoS (wn rfl) Tryz.sizeOf34 rfl rfl rfl rfl H2 1 rfl rfl (fun w3 e3 H3 => ?_)
 dsimp only [List.nil_append, List.cons_append, List.set_cons_zero, List.set_cons_succ, layL] at H3
 refine s_nil (W_seq (W_seq (W_drw (S := Ext No _) [(0, true), (1, true), (3, true), (2, false), (4, false), (5, false)] (by kernel_rfl) (by kernel_rfl) (by kernel_rfl) rfl (fun _ => Ext.refl.drawn _) (fun q1 => ?_))))
 have H4 := H3.drawn q1
 refine dV rfl rfl (fun zw hx => py_field Tryz.underlying38 rfl Tryz.sizeOf35 rfl rfl) (dV rfl rfl (fun zw hx => py_load Tryz.underlying35 rfl rfl (cell_atL (hx.heap (H4.box 0 rfl)) rfl)) (dV rfl rfl (fun zw hx => py_loadS Tryz.underlying34 rfl Tryz.sizeOf34 rfl rfl (At.whole (hx.heap (H4.box 1 rfl)))) (d_call rfl (wn rfl) rfl rfl (pc_call Tryz.func237 rfl Tryz_nm237 rfl) (Tryz_size_ListDrive (H4.sees 0 rfl)) (fun hS _ _ r _ => hS.trans r.1.no) (fun v1 w4 r1 => ?_))))
 obtain ⟨e4, rfl⟩ := r1
 have H5 := H4.to e4
 refine d_call rfl (wn rfl) rfl rfl (pc_call Tryz.func100 rfl Tryz_nm100 rfl) (Tryz_impl_Shape_all (by assumption)) (fun hS _ _ r _ => hS.trans r.1.no) (fun v2 w5 r2 => ?_)
 obtain ⟨e5, rfl⟩ := r2
 have H6 := H5.to e5
 refine d_end rfl (wn rfl) rfl rfl (py_neq rfl rfl) (d_nil (W_ifd rfl (fun c1 => ?_) (fun c1 => ?_)))
 ·refine W_sr (sV rfl (py_assign rfl) (s_nil (W_ret (hQ _ _ (fin1 Tryz.results144 rfl ?_)))))
  exact ⟨H6.ext, congrArg Value.bool (groupsOK_len (by omega)).symm⟩
 ·refine W_skip (W_seq (W_sr (sV rfl (py_field Tryz.underlying38 rfl Tryz.sizeOf35 rfl rfl) (sV rfl (py_load Tryz.underlying35 rfl rfl (cell_atL (H6.box 0 rfl) rfl)) (sV rfl (py_len Tryz.underlying35 rfl) (sV rfl (py_move rfl) (s_nil (W_block (W_loopS (γ := Nat) H6 [(3, _), (17, _), (18, _)] ⟨rfl, rfl, rfl, trivial⟩ (fun k => [(19, .int .i64 k)]) (fun k => k ≤ z.Groups.length ∧ (∀ i, i < k → groupOK z.Shape (z.Groups.getD i []) = true)) (fun k => z.Groups.length - k) 0 ⟨rfl, trivial⟩ ⟨by omega, fun i hi => by omega⟩ (fun k w6 H7 ⟨hk, he⟩ => ?_))))))))))
  dsimp only [List.cons_append, List.nil_append]
  refine W_sr (sV rfl (py_lss rfl rfl) (s_nil (W_seq (W_ifd rfl (fun c2 => ?_) (fun c2 => ?_)))))
  ·refine W_skip (W_seq (W_block (W_seq ?_)))
   obtain ⟨eb1, eo1, ea1, ek1, ef1, ee1, ec1, eO1, eH1⟩ := elem_sl (H7.seen 0 rfl) k (by omega)
   have eP1 := H7.look1 0 rfl eO1 eH1
   refine W_reg (sV rfl (py_elz Tryz.underlying35 Tryz.sizeOf142 rfl rfl ee1 k (by omega) (by omega)) (sV rfl (py_load Tryz.underlying142 rfl rfl ec1) (sV rfl (py_assign rfl) (s_nil (W_seq (W_seq (W_drw (S := Ext No _) [(0, true), (2, true), (1, false), (3, false), (4, false)] (by kernel_rfl) (by kernel_rfl) (by kernel_rfl) rfl (fun _ => Ext.refl.drawn _) (fun q2 => ?_))))))))
   have H8 := eP1.drawn q2
   refine dV rfl rfl (fun zw hx => py_move rfl) (dV rfl rfl (fun zw hx => py_loadS Tryz.underlying34 rfl Tryz.sizeOf34 rfl rfl (At.whole (hx.heap (H8.box 1 rfl)))) (d_call rfl (wn rfl) rfl rfl (pc_call Tryz.func238 rfl Tryz_nm238 rfl) (Tryz_size_Drive (H8.sees 3 rfl)) (fun hS _ _ r _ => hS.trans r.1.no) (fun v3 w7 r3 => ?_)))
   obtain ⟨e6, rfl⟩ := r3
   have H9 := H8.to e6
   refine d_call rfl (wn rfl) rfl rfl (pc_call Tryz.func209 rfl Tryz_nm209 rfl) (Tryz_impl_Shape_drives (by assumption)) (fun hS _ _ r _ => hS.trans r.1.no) (fun v4 w8 r4 => ?_)
   obtain ⟨e7, rfl⟩ := r4
   have H10 := H9.to e7
   refine d_end rfl (wn rfl) rfl rfl (py_neq rfl rfl) (d_nil (W_ifd rfl (fun c3 => ?_) (fun c3 => ?_)))
   ·refine W_sr (sV rfl (py_assign rfl) (s_nil (W_ret (hQ _ _ (fin1 Tryz.results144 rfl ?_)))))
    exact ⟨H10.ext, congrArg Value.bool (groupsOK_at k (by omega) (groupOK_len (by omega))).symm⟩
   ·refine W_skip (W_sr (sV rfl (py_move rfl) (sV rfl (py_len Tryz.underlying142 rfl) (sV rfl (py_move rfl) (s_nil (W_block (W_loopS (γ := Nat) H10 [(3, _), (17, _), (18, _), (19, _), (28, _), (29, _)] ⟨rfl, rfl, rfl, rfl, rfl, rfl, trivial⟩ (fun k2 => [(30, .int .i64 k2)]) (fun k2 => k2 ≤ (z.Groups.getD k []).length ∧ (∀ i, i < k2 → driveOK z.Shape ((z.Groups.getD k []).getD i default) = true)) (fun k2 => (z.Groups.getD k []).length - k2) 0 ⟨rfl, trivial⟩ ⟨by omega, fun i hi => by omega⟩ (fun k2 w9 H11 ⟨hk2, hek2⟩ => ?_))))))))
    dsimp only [List.cons_append, List.nil_append]
    refine W_sr (sV rfl (py_lss rfl rfl) (s_nil (W_seq (W_ifd rfl (fun c4 => ?_) (fun c4 => ?_)))))
    ·refine W_skip (W_seq (W_block (W_seq ?_)))
     obtain ⟨eb2, eo2, es1, ef2, ee2, ec2, eO2, eH2, em1⟩ := elem_st (H11.seen 3 rfl) k2 (by omega)
     obtain ⟨ea2, ek2, eg1, rfl, eq1, eK1, eo3⟩ := own_Drive eO2
     have eP2 := H11.look1 3 rfl eo3 (fun b hb => eH2 b (by rw [eq1]; simp [hb]))
     have eL1 := own_len_le eo3
     unfold maxLen at eL1
     refine W_reg (sV rfl (py_elz Tryz.underlying142 Tryz.sizeOf180 rfl rfl ee2 k2 (by omega) (by omega)) (sV rfl (py_loadS Tryz.underlying180 rfl Tryz.sizeOf180 rfl rfl ec2) (s_var (wn rfl) rfl Tryz.zeroValue180 eP2 (fun b3 w10 e8 g3 H12 => ?_))))
     refine s_stoS (wn rfl) Tryz.sizeOf180 rfl rfl rfl rfl H12 2 rfl rfl (fun w11 e9 H13 => ?_)
     dsimp only [List.nil_append, List.cons_append, List.set_cons_zero, List.set_cons_succ, layL] at H13
     refine s_nil (W_seq (W_drw (S := Ext No _) [(0, true), (1, true), (3, true), (4, true), (2, false), (5, true), (6, true), (7, true), (8, true), (9, false), (10, false)] (by kernel_rfl) (by kernel_rfl) (by kernel_rfl) rfl (fun _ => Ext.refl.drawn _) (fun q3 => ?_)))
     have H14 := H13.drawn q3
     refine dV rfl rfl (fun zw hx => py_field Tryz.underlying180 rfl Tryz.sizeOf178 rfl rfl) (dV rfl rfl (fun zw hx => py_load Tryz.underlying178 rfl rfl (cell_atL (hx.heap (H14.box 2 rfl)) rfl)) (dV rfl rfl (fun zw hx => py_field Tryz.underlying34 rfl Tryz.sizeOf2 rfl rfl) (dV rfl rfl (fun zw hx => py_load Tryz.underlying2 rfl rfl (cell_atL (hx.heap (H14.box 1 rfl)) rfl)) (d_call rfl (wn rfl) rfl rfl (pc_call Tryz.func239 rfl Tryz_nm239 rfl) (Tryz_size_Block (H14.sees 4 rfl)) (fun hS _ _ r _ => hS.trans r.1.no) (fun v5 w12 r5 => ?_)))))
     obtain ⟨e10, rfl⟩ := r5
     have H15 := H14.to e10
     refine dV rfl rfl (fun zw hx => py_neq rfl rfl) (dV rfl rfl (fun zw hx => py_move rfl) (d_case (t := 40) rfl (fun hg1 => ?_) (fun hg1 => ?_)))
     ·try simp only [decide_eq_true_eq, decide_eq_false_iff_not] at hg1
      refine d_skip rfl (wog (b := true) rfl rfl rfl) rfl rfl (d_skip rfl (wog (b := true) rfl rfl rfl) rfl rfl (d_skipA rfl (wog (b := true) rfl rfl rfl) rfl rfl (d_end rfl (wn rfl) rfl rfl (py_pickT rfl rfl) (d_nil (W_ift rfl (W_sr (sV rfl (py_assign rfl) (s_nil (W_ret (hQ _ _ (fin1 Tryz.results144 rfl ?_)))))))))))
      exact ⟨H15.ext, congrArg Value.bool (groupsOK_at k (by omega) (groupOK_at k2 (by omega) (driveOK_len (by omega)))).symm⟩
     ·try simp only [decide_eq_true_eq, decide_eq_false_iff_not] at hg1
      refine d_val rfl (wg rfl rfl rfl) rfl rfl (fun zw hx => py_field Tryz.underlying180 rfl Tryz.sizeOf178 rfl rfl) (d_val rfl (wg rfl rfl rfl) rfl rfl (fun zw hx => py_load Tryz.underlying178 rfl rfl (cell_atL (hx.heap (H14.box 2 rfl)) rfl)) (d_call rfl (wg rfl rfl rfl) rfl rfl (pc_call Tryz.func240 rfl Tryz_nm240 rfl) (Tryz_ContainsFunc_Block (H15.sees 4 rfl) (p := (fun b => !blockOK b)) Tryz.func241 rfl Tryz_nm241 (fun w1 e1 i0 hi0 _ _ K0 o0_1 => Tryz_impl_groupsOK_1 K0 o0_1)) (fun hS _ _ r _ => hS.trans r.1.no) (fun v6 w13 r6 => ?_)))
      obtain ⟨e11, rfl⟩ := r6
      have H16 := H15.to e11
      refine d_end rfl (wn rfl) rfl rfl (py_pickF rfl rfl) (d_nil (W_if rfl (fun c5 => ?_) (fun c5 => ?_)))
      ·refine W_sr (sV rfl (py_assign rfl) (s_nil (W_ret (hQ _ _ (fin1 Tryz.results144 rfl ?_)))))
       exact ⟨H16.ext, congrArg Value.bool (groupsOK_at k (by omega) (groupOK_at k2 (by omega) (driveOK_bad c5))).symm⟩
      ·refine W_skip (W_reg (sV rfl (py_add rfl rfl (in64 ⟨by omega, by omega⟩)) (sV rfl (py_move rfl) (s_nil (⟨k2 + 1, ⟨rfl, rfl, rfl, rfl, rfl, rfl, rfl, trivial⟩, ⟨((H16.ftake 4).dtake 2), by omega, fun i hi => ?_⟩, by dsimp only; omega⟩)))))
       by_cases e : i = k2
       ·subst e
        exact driveOK_yes (by omega) c5
       ·exact hek2 i (by omega)
    ·refine W_exit (W_reg (sV rfl (py_add rfl rfl (in64 ⟨by omega, by omega⟩)) (sV rfl (py_move rfl) (s_nil (⟨k + 1, ⟨rfl, rfl, rfl, rfl, trivial⟩, ⟨(H11.ftake 3), by omega, fun i hi => ?_⟩, by dsimp only; omega⟩)))))
     by_cases e : i = k
     ·subst e
      exact groupOK_yes (by omega) (fun i hi => hek2 i (by omega))
     ·exact he i (by omega)
  ·refine W_exit (W_sr (sV rfl (py_assign rfl) (s_nil (W_ret (hQ _ _ (fin1 Tryz.results144 rfl ?_))))))
   exact ⟨H7.ext, congrArg Value.bool (groupsOK_yes (by omega) (fun i hi => he i (by omega))).symm⟩
theorem Tryz_impl_onOK {w : World} {z : Wld} {zA9 : Option Addr} {zC9 : Nat} {zA10 : Option Addr} {zC10 : Nat} {zA11 : Option Addr} {zC11 : Nat} (zK : z.Ok) (zS9 : Sees w [.slice zA9 z.Groups.length zC9] z.Groups) (zS10 : Sees w [.slice zA10 z.On.length zC10] z.On) (zS11 : Sees w [.slice zA11 z.Tapes.length zC11] z.Tapes) (hs : z.Shape.ok = true) : Ret Tryz.prog 145 #[z.val zA9 zC9 zA10 zC10 zA11 zC11] w fun v w' => Ext No w w' ∧ (v = .bool (onOK z)) := by
 have zK2 := zK
 unfold Wld.Ok Shape.Ok at zK2
 try unfold I64ok at zK2
 try unfold maxLen at zK2
 have zL9 := sees_len zS9
 unfold maxLen at zL9
 obtain ⟨zF9, zO9⟩ := zS9
 have zL10 := sees_len zS10
 unfold maxLen at zL10
 obtain ⟨zF10, zO10⟩ := zS10
 have zL11 := sees_len zS11
 unfold maxLen at zL11
 obtain ⟨zF11, zO11⟩ := zS11
 have sbd := shape_bd hs
 refine ret_Q (vs := [z.val zA9 zC9 zA10 zC10 zA11 zC11]) Tryz.func145 rfl Tryz.ntmps145 rfl (fun Q hQ hN => ?_)
 have H0 := Sep.start (w := w) (F := [seen false [.slice zA9 z.Groups.length zC9] z.Groups zF9, seen false [.slice zA10 z.On.length zC10] z.On zF10, seen false [.slice zA11 z.Tapes.length zC11] z.Tapes zF11]) (all_cons zO9 (all_cons zO10 (all_cons zO11 (by simp))))
 refine W_sr (s_box (wn rfl) rfl rfl H0 (fun b1 w1 e1 g1 H1 => ?_))
 refine sV rfl (py_assign rfl) (s_nil (W_seq (W_sr (sV rfl (py_field Tryz.underlying38 rfl Tryz.sizeOf25 rfl rfl) (sV rfl (py_load Tryz.underlying25 rfl rfl (cell_atL (H1.box 0 rfl) rfl)) (sV rfl (py_len Tryz.underlying25 rfl) (sV rfl (py_move rfl) (s_nil (W_block (W_loopS (γ := Nat) H1 [(1, _), (6, _), (7, _)] ⟨rfl, rfl, rfl, trivial⟩ (fun k => [(8, .int .i64 k)]) (fun k => k ≤ z.On.length ∧ (∀ i, i < k → apartAt z.On (z.Shape.Groups + z.Shape.Column - 1) i = true)) (fun k => z.On.length - k) 0 ⟨rfl, trivial⟩ ⟨by omega, fun i hi => by omega⟩ (fun k w2 H2 ⟨hk, he⟩ => ?_)))))))))))
 dsimp only [List.cons_append, List.nil_append]
 refine W_sr (sV rfl (py_lss rfl rfl) (s_nil (W_seq (W_ifd rfl (fun c1 => ?_) (fun c1 => ?_)))))
 ·refine W_skip (W_seq (W_block (W_seq ?_)))
  obtain ⟨eb1, eo1, ee1, ec1⟩ := elem_int (H2.seen 1 rfl) k (by omega)
  have eI1 := elem_i64 (H2.seen 1 rfl) k (by omega)
  refine W_reg (sV rfl (py_move rfl) (sV rfl (py_elz Tryz.underlying25 Tryz.sizeOf2 rfl rfl ee1 k (by omega) (by omega)) (sV rfl (py_load Tryz.underlying2 rfl rfl ec1) (sV rfl (py_assign rfl) (sV rfl (py_assign rfl) (s_nil (W_sr (sV rfl (py_field Tryz.underlying38 rfl Tryz.sizeOf34 rfl rfl) (sV rfl (py_loadS Tryz.underlying34 rfl Tryz.sizeOf34 rfl rfl (At.sub (H2.box 0 rfl) 9)) (sV rfl (py_move rfl) (s_call (wn rfl) rfl rfl (pc_call Tryz.func71 rfl Tryz_nm71 rfl) (Tryz_impl_Shape_isGroup (by assumption)) (fun v1 w3 r1 => ?_))))))))))))
  obtain ⟨e2, rfl⟩ := r1
  have H3 := H2.to e2
  refine sV rfl (py_not rfl) (sV rfl (py_move rfl) (s_case (t := 18) rfl (fun hg1 => ?_) (fun hg1 => ?_)))
  ·try simp only [decide_eq_true_eq, decide_eq_false_iff_not] at hg1
   refine s_skip (wog (b := true) rfl rfl rfl) rfl rfl (s_skip (wog (b := true) rfl rfl rfl) rfl rfl (s_skip (wog (b := true) rfl rfl rfl) rfl rfl (s_skip (wog (b := true) rfl rfl rfl) rfl rfl (s_skip (wog (b := true) rfl rfl rfl) rfl rfl (s_skip (wog (b := true) rfl rfl rfl) rfl rfl (sV rfl (py_pickT rfl rfl) (s_nil (W_ift rfl (W_sr (sV rfl (py_assign rfl) (s_nil (W_ret (hQ _ _ (fin1 Tryz.results145 rfl ?_))))))))))))))
   exact ⟨H3.ext, congrArg Value.bool (onOK_apart (all_no k (by omega) (by simp only [apartAt, cut_take] at *; simp_all))).symm⟩
  ·try simp only [decide_eq_true_eq, decide_eq_false_iff_not] at hg1
   refine s_val (wg rfl rfl rfl) rfl rfl (py_field Tryz.underlying38 rfl Tryz.sizeOf25 rfl rfl) (s_val (wg rfl rfl rfl) rfl rfl (py_load Tryz.underlying25 rfl rfl (cell_atL (H3.box 0 rfl) rfl)) (s_val (wg rfl rfl rfl) rfl rfl (py_move rfl) ?_))
   have sc1 := own_le_cap (H3.seen 1 rfl)
   obtain ⟨sf1, so1, ss1⟩ := own_cutL (H3.seen 1 rfl) (0) (k) _ (by omega) (by omega) (by omega) (Nat.le_refl _)
   have H4 := H3.look1 1 rfl so1 ss1
   have sl1 := cut_len (xs := z.On) (l := 0) (h := k) (by omega)
   refine s_val (wg rfl rfl rfl) rfl rfl (py_slcHN Tryz.underlying25 Tryz.sizeOf2 rfl rfl (k) (by omega) (by omega) sl1) ((s_val (wg rfl rfl rfl) rfl rfl (py_move rfl) (s_call (wg rfl rfl rfl) rfl rfl (pc_call Tryz.func243 rfl Tryz_nm243 rfl) (Tryz_slices_Contains_int64_int64 (H4.sees 3 rfl)) (fun v2 w4 r2 => ?_))))
   obtain ⟨e3, rfl⟩ := r2
   have H5 := H4.to e3
   refine sV rfl (py_pickF rfl rfl) (s_nil (W_if rfl (fun c2 => ?_) (fun c2 => ?_)))
   ·refine W_sr (sV rfl (py_assign rfl) (s_nil (W_ret (hQ _ _ (fin1 Tryz.results145 rfl ?_)))))
    exact ⟨H5.ext, congrArg Value.bool (onOK_apart (all_no k (by omega) (by simp only [apartAt, cut_take] at *; simp_all))).symm⟩
   ·refine W_skip (W_reg (sV rfl (py_add rfl rfl (in64 ⟨by omega, by omega⟩)) (sV rfl (py_move rfl) (s_nil (⟨k + 1, ⟨rfl, rfl, rfl, rfl, trivial⟩, ⟨(H5.ftake 3), by omega, fun i hi => ?_⟩, by dsimp only; omega⟩)))))
    by_cases e : i = k
    ·subst e
     simp only [apartAt, cut_take] at *; simp_all
    ·exact he i (by omega)
 ·refine W_exit (W_seq (W_drw (S := Ext No _) [(0, true), (1, true), (3, true), (4, true), (5, true), (2, false), (6, true), (7, true), (8, true), (9, true), (10, true), (11, true), (12, true), (13, true), (14, true), (15, true), (16, true), (17, true), (18, false)] (by kernel_rfl) (by kernel_rfl) (by kernel_rfl) rfl (fun _ => Ext.refl.drawn _) (fun q1 => ?_)))
  have H6 := H2.drawn q1
  refine dV rfl rfl (fun zw hx => py_field Tryz.underlying38 rfl Tryz.sizeOf25 rfl rfl) (dV rfl rfl (fun zw hx => py_load Tryz.underlying25 rfl rfl (cell_atL (hx.heap (H6.box 0 rfl)) rfl)) (dV rfl rfl (fun zw hx => py_field Tryz.underlying38 rfl Tryz.sizeOf34 rfl rfl) (dV rfl rfl (fun zw hx => py_field Tryz.underlying34 rfl Tryz.sizeOf2 rfl rfl) (dV rfl rfl (fun zw hx => py_load Tryz.underlying2 rfl rfl (cell_atL (hx.heap (H6.box 0 rfl)) rfl)) (d_call rfl (wn rfl) rfl rfl (pc_call Tryz.func173 rfl Tryz_nm173 rfl) (Tryz_size_int64 (H6.sees 1 rfl)) (fun hS _ _ r _ => hS.trans r.1.no) (fun v3 w5 r3 => ?_))))))
  obtain ⟨e4, rfl⟩ := r3
  have H7 := H6.to e4
  refine dV rfl rfl (fun zw hx => py_leq rfl rfl) (dV rfl rfl (fun zw hx => py_move rfl) (d_case (t := 34) rfl (fun hg2 => ?_) (fun hg2 => ?_)))
  ·try simp only [decide_eq_true_eq, decide_eq_false_iff_not] at hg2
   refine d_val rfl (wg rfl rfl rfl) rfl rfl (fun zw hx => py_field Tryz.underlying38 rfl Tryz.sizeOf25 rfl rfl) (d_val rfl (wg rfl rfl rfl) rfl rfl (fun zw hx => py_load Tryz.underlying25 rfl rfl (cell_atL (hx.heap (H6.box 0 rfl)) rfl)) (d_val rfl (wg rfl rfl rfl) rfl rfl (fun zw hx => py_len Tryz.underlying25 rfl) (d_val rfl (wg rfl rfl rfl) rfl rfl (fun zw hx => py_eql rfl rfl) (d_val rfl (wg rfl rfl rfl) rfl rfl (fun zw hx => py_move rfl) (d_case (t := 39) rfl (fun hg3 => ?_) (fun hg3 => ?_))))))
   ·try simp only [decide_eq_true_eq, decide_eq_false_iff_not] at hg3
    refine d_skip rfl (wog (b := true) rfl rfl rfl) rfl rfl (d_skip rfl (wog (b := true) rfl rfl rfl) rfl rfl (d_skip rfl (wog (b := true) rfl rfl rfl) rfl rfl (d_val rfl (wg rfl rfl rfl) rfl rfl (fun zw hx => py_pickT rfl rfl) (dV rfl rfl (fun zw hx => py_pickT rfl rfl) (d_end rfl (wn rfl) rfl rfl (py_assign rfl) (d_nil (W_ret (hQ _ _ (fin1 Tryz.results145 rfl ?_)))))))))
    exact ⟨H7.ext, congrArg Value.bool (onOK_rest (all_yes fun i hi => he i (by omega)) (by simp_all)).symm⟩
   ·try simp only [decide_eq_true_eq, decide_eq_false_iff_not] at hg3
    refine d_val rfl (wg rfl rfl rfl) rfl rfl (fun zw hx => py_field Tryz.underlying38 rfl Tryz.sizeOf4 rfl rfl) (d_val rfl (wg rfl rfl rfl) rfl rfl (fun zw hx => py_load Tryz.underlying4 rfl rfl (cell_atL (hx.heap (H6.box 0 rfl)) rfl)) (d_val rfl (wg rfl rfl rfl) rfl rfl (fun zw hx => py_not rfl) (d_val rfl (wg rfl rfl rfl) rfl rfl (fun zw hx => py_pickF rfl rfl) (dV rfl rfl (fun zw hx => py_pickT rfl rfl) (d_end rfl (wn rfl) rfl rfl (py_assign rfl) (d_nil (W_ret (hQ _ _ (fin1 Tryz.results145 rfl ?_)))))))))
    exact ⟨H7.ext, congrArg Value.bool (onOK_rest (all_yes fun i hi => he i (by omega)) (by simp_all)).symm⟩
  ·try simp only [decide_eq_true_eq, decide_eq_false_iff_not] at hg2
   refine d_skip rfl (wog (b := false) rfl rfl rfl) rfl rfl (d_skip rfl (wog (b := false) rfl rfl rfl) rfl rfl (d_skip rfl (wog (b := false) rfl rfl rfl) rfl rfl (d_skip rfl (wog (b := false) rfl rfl rfl) rfl rfl (d_skip rfl (wog (b := false) rfl rfl rfl) rfl rfl (d_skip rfl (wou rfl rfl rfl) rfl rfl (d_skip rfl (wou rfl rfl rfl) rfl rfl (d_skip rfl (wou rfl rfl rfl) rfl rfl (d_skip rfl (wog (b := false) rfl rfl rfl) rfl rfl (dV rfl rfl (fun zw hx => py_pickF rfl rfl) (d_end rfl (wn rfl) rfl rfl (py_assign rfl) (d_nil (W_ret (hQ _ _ (fin1 Tryz.results145 rfl ?_))))))))))))))
   exact ⟨H7.ext, congrArg Value.bool (onOK_rest (all_yes fun i hi => he i (by omega)) (by rw [decide_eq_false (by omega)]; rfl)).symm⟩
theorem Tryz_impl_tapesFault_1 {w : World} {t : Tape} {tA1 : Option Addr} {tC1 : Nat} (tK : t.Ok) (tS1 : Sees w [.slice tA1 t.Recs.length tC1] t.Recs) : Ret Tryz.prog 245 #[t.val tA1 tC1] w fun v w' => Ext No w w' ∧ (v = .bool (manyRecs t)) := by
 have tK2 := tK
 unfold Tape.Ok at tK2
 try unfold I64ok at tK2
 try unfold maxLen at tK2
 have tL1 := sees_len tS1
 unfold maxLen at tL1
 obtain ⟨tF1, tO1⟩ := tS1
 refine ret_Q (vs := [t.val tA1 tC1]) Tryz.func245 rfl Tryz.ntmps245 rfl (fun Q hQ hN => ?_)
 have H0 := Sep.start (w := w) (F := [seen false [.slice tA1 t.Recs.length tC1] t.Recs tF1]) (all_cons tO1 (by simp))
 refine W_sr (s_box (wn rfl) rfl rfl H0 (fun b1 w1 e1 g1 H1 => ?_))
 refine sV rfl (py_assign rfl) (s_nil (W_sr (sV rfl (py_field Tryz.underlying139 rfl Tryz.sizeOf30 rfl rfl) (sV rfl (py_load Tryz.underlying30 rfl rfl (cell_atL (H1.box 0 rfl) rfl)) (sV rfl (py_len Tryz.underlying30 rfl) (sV rfl (py_gtr rfl rfl) (sV rfl (py_assign rfl) (s_nil (W_ret (hQ _ _ (fin1 Tryz.results245 rfl ?_)))))))))))
 exact ⟨H1.ext, rfl⟩
theorem Tryz_impl_tapesFault_2 {w : World} {t : Tape} {tA1 : Option Addr} {tC1 : Nat} (tK : t.Ok) (tS1 : Sees w [.slice tA1 t.Recs.length tC1] t.Recs) : Ret Tryz.prog 246 #[t.val tA1 tC1] w fun v w' => Ext No w w' ∧ (v = .bool (wipedFull t)) := by
 have tK2 := tK
 unfold Tape.Ok at tK2
 try unfold I64ok at tK2
 try unfold maxLen at tK2
 have tL1 := sees_len tS1
 unfold maxLen at tL1
 obtain ⟨tF1, tO1⟩ := tS1
 refine ret_Q (vs := [t.val tA1 tC1]) Tryz.func246 rfl Tryz.ntmps246 rfl (fun Q hQ hN => ?_)
 have H0 := Sep.start (w := w) (F := [seen false [.slice tA1 t.Recs.length tC1] t.Recs tF1]) (all_cons tO1 (by simp))
 refine W_sr (s_box (wn rfl) rfl rfl H0 (fun b1 w1 e1 g1 H1 => ?_))
 refine sV rfl (py_assign rfl) (s_nil (W_sr (sV rfl (py_field Tryz.underlying139 rfl Tryz.sizeOf4 rfl rfl) (sV rfl (py_load Tryz.underlying4 rfl rfl (cell_atL (H1.box 0 rfl) rfl)) (sV rfl (py_move rfl) (s_grp 4 (j := 2) (want := true) (t := 9) rfl rfl rfl rfl (fun hg1 kk1 => s_val (wgE rfl rfl rfl hg1) rfl rfl (py_field Tryz.underlying139 rfl Tryz.sizeOf30 rfl rfl) (s_val (wgE rfl rfl rfl hg1) rfl rfl (py_load Tryz.underlying30 rfl rfl (cell_atL (H1.box 0 rfl) rfl)) (s_val (wgE rfl rfl rfl hg1) rfl rfl (py_len Tryz.underlying30 rfl) (s_val (wgE rfl rfl rfl hg1) rfl rfl (py_gtr rfl rfl) (kk1 _ _ (kx rfl (kx rfl (kx rfl (kx rfl k0)))) rfl Ext.refl))))) (fun w2 e2 => ?_)))))))
 have H2 := H1.to e2
 refine sV rfl (py_band rfl rfl) (sV rfl (py_assign rfl) (s_nil (W_ret (hQ _ _ (fin1 Tryz.results246 rfl ?_)))))
 exact ⟨H2.ext, congrArg Value.bool (by simp [wipedFull])⟩
set_option maxHeartbeats 1000000 in
theorem Tryz_impl_tapesFault {w : World} {z : Wld} {zA9 : Option Addr} {zC9 : Nat} {zA10 : Option Addr} {zC10 : Nat} {zA11 : Option Addr} {zC11 : Nat} (zK : z.Ok) (zS9 : Sees w [.slice zA9 z.Groups.length zC9] z.Groups) (zS10 : Sees w [.slice zA10 z.On.length zC10] z.On) (zS11 : Sees w [.slice zA11 z.Tapes.length zC11] z.Tapes) (hs : z.Shape.ok = true) : Ret Tryz.prog 146 #[z.val zA9 zC9 zA10 zC10 zA11 zC11] w fun v w' => Ext No w w' ∧ (v = .int .i64 (tapesF z)) := by
 have zK2 := zK
 unfold Wld.Ok Shape.Ok at zK2
 try unfold I64ok at zK2
 try unfold maxLen at zK2
 have zL9 := sees_len zS9
 unfold maxLen at zL9
 obtain ⟨zF9, zO9⟩ := zS9
 have zL10 := sees_len zS10
 unfold maxLen at zL10
 obtain ⟨zF10, zO10⟩ := zS10
 have zL11 := sees_len zS11
 unfold maxLen at zL11
 obtain ⟨zF11, zO11⟩ := zS11
 have sbd := shape_bd hs
 refine ret_Q (vs := [z.val zA9 zC9 zA10 zC10 zA11 zC11]) Tryz.func146 rfl Tryz.ntmps146 rfl (fun Q hQ hN => ?_)
 have H0 := Sep.start (w := w) (F := [seen false [.slice zA9 z.Groups.length zC9] z.Groups zF9, seen false [.slice zA10 z.On.length zC10] z.On zF10, seen false [.slice zA11 z.Tapes.length zC11] z.Tapes zF11]) (all_cons zO9 (all_cons zO10 (all_cons zO11 (by simp))))
 refine W_sr (s_box (wn rfl) rfl rfl H0 (fun b1 w1 e1 g1 H1 => ?_))
 refine sV rfl (py_assign rfl) (s_nil (W_seq (W_sr (sV rfl (py_field Tryz.underlying38 rfl Tryz.sizeOf36 rfl rfl) (sV rfl (py_load Tryz.underlying36 rfl rfl (cell_atL (H1.box 0 rfl) rfl)) (s_call (wn rfl) rfl rfl (pc_call Tryz.func244 rfl Tryz_nm244 rfl) (Tryz_ContainsFunc_Tape (H1.sees 2 rfl) (p := manyRecs) Tryz.func245 rfl Tryz_nm245 (fun w1 e1 i0 hi0 _ _ K0 o0_1 => Tryz_impl_tapesFault_1 K0 o0_1)) (fun v1 w2 r1 => ?_)))))))
 obtain ⟨e2, rfl⟩ := r1
 have H2 := H1.to e2
 refine s_nil (W_if rfl (fun c1 => ?_) (fun c1 => ?_))
 ·refine W_sr (sV rfl (py_assign rfl) (s_nil (W_ret (hQ _ _ (fin1 Tryz.results146 rfl ?_)))))
  exact ⟨H2.ext, congrArg (Value.int .i64) (tapesF_many c1).symm⟩
 ·refine W_skip (W_seq (W_seq ?_))
  have cM := c1
  refine W_reg (sV rfl (py_field Tryz.underlying38 rfl Tryz.sizeOf36 rfl rfl) (sV rfl (py_load Tryz.underlying36 rfl rfl (cell_atL (H2.box 0 rfl) rfl)) (sV rfl (py_len Tryz.underlying36 rfl) (sV rfl (py_move rfl) (s_nil (W_block (W_loopS (γ := Nat) H2 [(1, _), (12, _), (13, _)] ⟨rfl, rfl, rfl, trivial⟩ (fun k => [(14, .int .i64 k)]) (fun k => k ≤ z.Tapes.length ∧ tapeF z.Shape z.Tapes k = 0) (fun k => z.Tapes.length - k) 0 ⟨rfl, trivial⟩ ⟨by omega, rfl⟩ (fun k w3 H3 ⟨hk, hkz⟩ => ?_))))))))
  dsimp only [List.cons_append, List.nil_append]
  refine W_sr (sV rfl (py_lss rfl rfl) (s_nil (W_seq (W_ifd rfl (fun c2 => ?_) (fun c2 => ?_)))))
  ·refine W_skip (W_seq (W_block (W_seq ?_)))
   obtain ⟨eb1, eo1, es1, ef1, ee1, ec1, eO1, eH1, em1⟩ := elem_st (H3.seen 2 rfl) k (by omega)
   obtain ⟨ea1, ek1, eg1, rfl, eq1, eK1, eo2⟩ := own_Tape eO1
   have eP1 := H3.look1 2 rfl eo2 (fun b hb => eH1 b (by rw [eq1]; simp [hb]))
   have eL1 := own_len_le eo2
   unfold maxLen at eL1
   refine W_reg (sV rfl (py_elz Tryz.underlying36 Tryz.sizeOf139 rfl rfl ee1 k (by omega) (by omega)) (sV rfl (py_loadS Tryz.underlying139 rfl Tryz.sizeOf139 rfl rfl ec1) (s_var (wn rfl) rfl Tryz.zeroValue139 eP1 (fun b2 w4 e3 g2 H4 => ?_))))
   refine s_stoS (wn rfl) Tryz.sizeOf139 rfl rfl rfl rfl H4 1 rfl rfl (fun w5 e4 H5 => ?_)
   dsimp only [List.nil_append, List.cons_append, List.set_cons_zero, List.set_cons_succ, layL] at H5
   refine s_nil (W_sr (sV rfl (py_field Tryz.underlying139 rfl Tryz.sizeOf30 rfl rfl) (sV rfl (py_load Tryz.underlying30 rfl rfl (cell_atL (H5.box 1 rfl) rfl)) (sV rfl (py_len Tryz.underlying30 rfl) (sV rfl (py_move rfl) (s_nil (W_block (W_loopS (γ := Nat) H5 [(1, _), (12, _), (13, _), (14, _), (19, _), (20, _)] ⟨rfl, rfl, rfl, rfl, rfl, rfl, trivial⟩ (fun k2 => [(21, .int .i64 k2)]) (fun k2 => k2 ≤ (z.Tapes.getD k default).Recs.length ∧ recsF z.Shape (z.Tapes.getD k default).Recs k2 = 0) (fun k2 => (z.Tapes.getD k default).Recs.length - k2) 0 ⟨rfl, trivial⟩ ⟨by omega, rfl⟩ (fun k2 w6 H6 ⟨hk2, hk2z⟩ => ?_)))))))))
   dsimp only [List.cons_append, List.nil_append]
   refine W_sr (sV rfl (py_lss rfl rfl) (s_nil (W_seq (W_ifd rfl (fun c3 => ?_) (fun c3 => ?_)))))
   ·refine W_skip (W_seq (W_block (W_seq ?_)))
    obtain ⟨eb2, eo3, es2, ef2, ee2, ec2, eO2, eH2, em2⟩ := elem_st (H6.seen 3 rfl) k2 (by omega)
    obtain ⟨ea2, ek2, ea3, ek3, ea4, ek4, eg2, eg3, eg4, rfl, eq2, eK2, eo4, eo5, eo6⟩ := own_Rec eO2
    have eK2U := eK2
    unfold Rec.Ok at eK2U
    try unfold I64ok at eK2U
    try unfold maxLen at eK2U
    have eP2 := H6.look1 3 rfl eo4 (fun b hb => eH2 b (by rw [eq2]; simp [hb]))
    have eL2 := own_len_le eo4
    unfold maxLen at eL2
    have eP3 := eP2.look1 3 rfl eo5 (fun b hb => eH2 b (by rw [eq2]; simp [hb]))
    have eL3 := own_len_le eo5
    unfold maxLen at eL3
    have eP4 := eP3.look1 3 rfl eo6 (fun b hb => eH2 b (by rw [eq2]; simp [hb]))
    have eL4 := own_len_le eo6
    unfold maxLen at eL4
    refine W_reg (sV rfl (py_elz Tryz.underlying30 Tryz.sizeOf68 rfl rfl ee2 k2 (by omega) (by omega)) (sV rfl (py_loadS Tryz.underlying68 rfl Tryz.sizeOf68 rfl rfl ec2) (s_var (wn rfl) rfl Tryz.zeroValue68 eP4 (fun b3 w7 e5 g3 H7 => ?_))))
    refine s_stoS (wn rfl) Tryz.sizeOf68 rfl rfl rfl rfl H7 2 rfl rfl (fun w8 e6 H8 => ?_)
    dsimp only [List.nil_append, List.cons_append, List.set_cons_zero, List.set_cons_succ, layL] at H8
    refine s_nil (W_sr (sV rfl (py_field Tryz.underlying38 rfl Tryz.sizeOf34 rfl rfl) (sV rfl (py_loadS Tryz.underlying34 rfl Tryz.sizeOf34 rfl rfl (At.sub (H8.box 0 rfl) 9)) (sV rfl (py_loadS Tryz.underlying68 rfl Tryz.sizeOf68 rfl rfl (At.whole (H8.box 2 rfl))) (s_call (wn rfl) rfl rfl (pc_call Tryz.func119 rfl Tryz_nm119 rfl) (Tryz_impl_recFault (by assumption) (H8.sees 4 rfl) (H8.sees 5 rfl) (H8.sees 6 rfl) (by assumption)) (fun v2 w9 r2 => ?_))))))
    obtain ⟨e7, rfl⟩ := r2
    have H9 := H8.to e7
    refine sV rfl (py_assign rfl) (s_nil (W_sr (sV rfl (py_move rfl) (sV rfl (py_neq rfl rfl) (s_nil (W_ifd rfl (fun c4 => ?_) (fun c4 => ?_)))))))
    ·refine W_sr (sV rfl (py_move rfl) (sV rfl (py_assign rfl) (s_nil (W_ret (hQ _ _ (fin1 Tryz.results146 rfl ?_))))))
     exact ⟨H9.ext, congrArg (Value.int .i64) ((tapesF_rec cM (k := k) (k2 := k2) (by omega) hkz (by omega) hk2z (by omega))).symm⟩
    ·refine W_skip (W_reg (sV rfl (py_add rfl rfl (in64 ⟨by omega, by omega⟩)) (sV rfl (py_move rfl) (s_nil (⟨k2 + 1, ⟨rfl, rfl, rfl, rfl, rfl, rfl, rfl, trivial⟩, ⟨((H9.ftake 4).dtake 2), by omega, (recsF_next hk2z).trans (by omega)⟩, by dsimp only; omega⟩)))))
   ·refine W_exit (W_reg (sV rfl (py_add rfl rfl (in64 ⟨by omega, by omega⟩)) (sV rfl (py_move rfl) (s_nil ?_))))
    obtain rfl : k2 = (z.Tapes.getD k default).Recs.length := by omega
    refine ⟨k + 1, ⟨rfl, rfl, rfl, rfl, trivial⟩, ⟨((H6.ftake 3).dtake 1), by omega, (tapeF_next hkz).trans hk2z⟩, by dsimp only; omega⟩
  ·refine W_exit (W_seq (W_seq ?_))
   obtain rfl : k = z.Tapes.length := by omega
   have hAll := hkz
   refine W_reg (sV rfl (py_field Tryz.underlying38 rfl Tryz.sizeOf36 rfl rfl) (sV rfl (py_load Tryz.underlying36 rfl rfl (cell_atL (H3.box 0 rfl) rfl)) (s_call (wn rfl) rfl rfl (pc_call Tryz.func244 rfl Tryz_nm244 rfl) (Tryz_ContainsFunc_Tape (H3.sees 2 rfl) (p := wipedFull) Tryz.func246 rfl Tryz_nm246 (fun w1 e1 i0 hi0 _ _ K0 o0_1 => Tryz_impl_tapesFault_2 K0 o0_1)) (fun v3 w10 r3 => ?_))))
   obtain ⟨e8, rfl⟩ := r3
   have H10 := H3.to e8
   refine s_nil (W_if rfl (fun c5 => ?_) (fun c5 => ?_))
   ·refine W_sr (sV rfl (py_assign rfl) (s_nil (W_ret (hQ _ _ (fin1 Tryz.results146 rfl ?_)))))
    exact ⟨H10.ext, congrArg (Value.int .i64) (tapesF_full cM hAll c5).symm⟩
   ·refine W_skip (W_sr (sV rfl (py_assign rfl) (s_nil (W_ret (hQ _ _ (fin1 Tryz.results146 rfl ?_))))))
    exact ⟨H10.ext, congrArg (Value.int .i64) (tapesF_ok cM hAll c5).symm⟩
end Go.Wk
namespace Go.Wk
open Go.Proofs Rp
set_option maxRecDepth 10000
set_option maxHeartbeats 1000000 in
theorem Tryz_spec_l5Built {w : World} {z : Wld} {zA9 : Option Addr} {zC9 : Nat} {zA10 : Option Addr} {zC10 : Nat} {zA11 : Option Addr} {zC11 : Nat} (zK : z.Ok) (zS9 : Sees w [.slice zA9 z.Groups.length zC9] z.Groups) (zS10 : Sees w [.slice zA10 z.On.length zC10] z.On) (zS11 : Sees w [.slice zA11 z.Tapes.length zC11] z.Tapes) (hs : z.Shape.ok = true) : Ret Tryz.prog 160 #[z.val zA9 zC9 zA10 zC10 zA11 zC11] w fun v w' => Ext No w w' ∧ (v = .bool (groupsOK z)) := by
 have zK2 := zK
 unfold Wld.Ok Shape.Ok at zK2
 try unfold I64ok at zK2
 try unfold maxLen at zK2
 have zL9 := sees_len zS9
 unfold maxLen at zL9
 obtain ⟨zF9, zO9⟩ := zS9
 have zL10 := sees_len zS10
 unfold maxLen at zL10
 obtain ⟨zF10, zO10⟩ := zS10
 have zL11 := sees_len zS11
 unfold maxLen at zL11
 obtain ⟨zF11, zO11⟩ := zS11
 have sbd := shape_bd hs
 refine ret_Q (vs := [z.val zA9 zC9 zA10 zC10 zA11 zC11]) Tryz.func160 rfl Tryz.ntmps160 rfl (fun Q hQ hN => ?_)
 have H0 := Sep.start (w := w) (F := [seen false [.slice zA9 z.Groups.length zC9] z.Groups zF9, seen false [.slice zA10 z.On.length zC10] z.On zF10, seen false [.slice zA11 z.Tapes.length zC11] z.Tapes zF11]) (all_cons zO9 (all_cons zO10 (all_cons zO11 (by simp))))
 refine W_sr (s_box (wn rfl) rfl rfl H0 (fun b1 w1 e1 g1 H1 => ?_))
 refine sV rfl (py_assign rfl) (s_nil (W_sr (sV rfl (py_field Tryz.underlying38 rfl Tryz.sizeOf34 rfl rfl) (sV rfl (py_loadS Tryz.underlying34 rfl Tryz.sizeOf34 rfl rfl (At.sub (H1.box 0 rfl) 9)) (s_var (wn rfl) rfl Tryz.zeroValue34 H1 (fun b2 w2 e2 g2 H2 => ?_))))))
 refine s_stoS (wn rfl) Tryz.sizeOf34 rfl rfl rfl rfl H2 1 rfl rfl (fun w3 e3 H3 => ?_)
 dsimp only [List.nil_append, List.cons_append, List.set_cons_zero, List.set_cons_succ, layL] at H3
 refine s_nil (W_seq (W_seq (W_drw (S := Ext No _) [(0, true), (1, true), (2, true), (3, true), (4, false), (5, false)] (by kernel_rfl) (by kernel_rfl) (by kernel_rfl) rfl (fun _ => Ext.refl.drawn _) (fun q1 => ?_))))
 have H4 := H3.drawn q1
 refine dV rfl rfl (fun zw hx => py_field Tryz.underlying38 rfl Tryz.sizeOf35 rfl rfl) (dV rfl rfl (fun zw hx => py_load Tryz.underlying35 rfl rfl (cell_atL (hx.heap (H4.box 0 rfl)) rfl)) (dV rfl rfl (fun zw hx => py_len Tryz.underlying35 rfl) (dV rfl rfl (fun zw hx => py_loadS Tryz.underlying34 rfl Tryz.sizeOf34 rfl rfl (At.whole (hx.heap (H4.box 1 rfl)))) (d_call rfl (wn rfl) rfl rfl (pc_call Tryz.func162 rfl Tryz_nm162 rfl) (Tryz_spec_l5All (by assumption)) (fun hS _ _ r _ => hS.trans r.1.no) (fun v1 w4 r1 => ?_)))))
 obtain ⟨e4, rfl⟩ := r1
 have H5 := H4.to e4
 refine d_end rfl (wn rfl) rfl rfl (py_neq rfl rfl) (d_nil (W_ifd rfl (fun c1 => ?_) (fun c1 => ?_)))
 ·refine W_sr (sV rfl (py_assign rfl) (s_nil (W_ret (hQ _ _ (fin1 Tryz.results160 rfl ?_)))))
  exact ⟨H5.ext, congrArg Value.bool (groupsOK_len (by omega)).symm⟩
 ·refine W_skip (W_seq (W_sr (sV rfl (py_assign rfl) (s_nil (W_block (W_loopS (γ := Nat) H5 [(1, _), (3, _)] ⟨rfl, rfl, trivial⟩ (fun k => [(4, .int .i64 k)]) (fun k => k ≤ z.Groups.length ∧ (∀ i, i < k → groupOK z.Shape (z.Groups.getD i []) = true)) (fun k => z.Groups.length - k) 0 ⟨rfl, trivial⟩ ⟨by omega, fun i hi => by omega⟩ (fun k w5 H6 ⟨hk, he⟩ => ?_)))))))
  dsimp only [List.cons_append, List.nil_append]
  refine W_seq (W_sr (sV rfl (py_move rfl) (sV rfl (py_field Tryz.underlying38 rfl Tryz.sizeOf35 rfl rfl) (sV rfl (py_load Tryz.underlying35 rfl rfl (cell_atL (H6.box 0 rfl) rfl)) (sV rfl (py_len Tryz.underlying35 rfl) (sV rfl (py_lss rfl rfl) (s_nil (W_ifd rfl (fun c2 => ?_) (fun c2 => ?_)))))))))
  ·refine W_skip (W_seq (W_block (W_seq (W_seq ?_))))
   obtain ⟨eb1, eo1, ea1, ek1, ef1, ee1, ec1, eO1, eH1⟩ := elem_sl (H6.seen 0 rfl) k (by omega)
   have eP1 := H6.look1 0 rfl eO1 eH1
   refine W_drw (S := Ext No _) [(0, true), (1, true), (2, true), (3, true), (4, true), (5, true), (6, true), (7, false), (8, false)] (by kernel_rfl) (by kernel_rfl) (by kernel_rfl) rfl (fun _ => Ext.refl.drawn _) (fun q2 => ?_)
   have H7 := eP1.drawn q2
   refine dV rfl rfl (fun zw hx => py_field Tryz.underlying38 rfl Tryz.sizeOf35 rfl rfl) (dV rfl rfl (fun zw hx => py_load Tryz.underlying35 rfl rfl (cell_atL (hx.heap (H7.box 0 rfl)) rfl)) (dV rfl rfl (fun zw hx => py_move rfl) (dV rfl rfl (fun zw hx => py_elz Tryz.underlying35 Tryz.sizeOf142 rfl rfl ee1 k (by omega) (by omega)) (dV rfl rfl (fun zw hx => py_load Tryz.underlying142 rfl rfl (hx.cell ec1)) (dV rfl rfl (fun zw hx => py_len Tryz.underlying142 rfl) (dV rfl rfl (fun zw hx => py_loadS Tryz.underlying34 rfl Tryz.sizeOf34 rfl rfl (At.whole (hx.heap (H7.box 1 rfl)))) (d_call rfl (wn rfl) rfl rfl (pc_call Tryz.func232 rfl Tryz_nm232 rfl) (Tryz_spec_l5Drives (by assumption)) (fun hS _ _ r _ => hS.trans r.1.no) (fun v2 w6 r2 => ?_))))))))
   obtain ⟨e5, rfl⟩ := r2
   have H8 := H7.to e5
   refine d_end rfl (wn rfl) rfl rfl (py_neq rfl rfl) (d_nil (W_ifd rfl (fun c3 => ?_) (fun c3 => ?_)))
   ·refine W_sr (sV rfl (py_assign rfl) (s_nil (W_ret (hQ _ _ (fin1 Tryz.results160 rfl ?_)))))
    exact ⟨H8.ext, congrArg Value.bool (groupsOK_at k (by omega) (groupOK_len (by omega))).symm⟩
   ·refine W_skip (W_sr (sV rfl (py_assign rfl) (s_nil (W_block (W_loopS (γ := Nat) H8 [(1, _), (3, _), (4, _)] ⟨rfl, rfl, rfl, trivial⟩ (fun k2 => [(5, .int .i64 k2)]) (fun k2 => k2 ≤ (z.Groups.getD k []).length ∧ (∀ i, i < k2 → driveOK z.Shape ((z.Groups.getD k []).getD i default) = true)) (fun k2 => (z.Groups.getD k []).length - k2) 0 ⟨rfl, trivial⟩ ⟨by omega, fun i hi => by omega⟩ (fun k2 w7 H9 ⟨hk2, hek2⟩ => ?_))))))
    dsimp only [List.cons_append, List.nil_append]
    refine W_seq (W_seq ?_)
    obtain ⟨eb2, eo2, ea2, ek2, ef2, ee2, ec2, eO2, eH2⟩ := elem_sl (H9.seen 0 rfl) k (by omega)
    have eP2 := H9.look1 0 rfl eO2 eH2
    refine W_reg (sV rfl (py_move rfl) (sV rfl (py_field Tryz.underlying38 rfl Tryz.sizeOf35 rfl rfl) (sV rfl (py_load Tryz.underlying35 rfl rfl (cell_atL (eP2.box 0 rfl) rfl)) (sV rfl (py_move rfl) (sV rfl (py_elz Tryz.underlying35 Tryz.sizeOf142 rfl rfl ee2 k (by omega) (by omega)) (sV rfl (py_load Tryz.underlying142 rfl rfl ec2) (sV rfl (py_len Tryz.underlying142 rfl) (sV rfl (py_lss rfl rfl) (s_nil (W_ifd rfl (fun c4 => ?_) (fun c4 => ?_)))))))))))
    ·refine W_skip (W_seq (W_block (W_seq ?_)))
     obtain ⟨eb3, eo3, ea3, ek3, ef3, ee3, ec3, eO3, eH3⟩ := elem_sl (eP2.seen 0 rfl) k (by omega)
     have eP3 := eP2.look1 0 rfl eO3 eH3
     obtain ⟨eb4, eo4, es1, ef4, ee4, ec4, eO4, eH4, em1⟩ := elem_st (eP3.seen 5 rfl) k2 (by omega)
     obtain ⟨ea4, ek4, eg1, rfl, eq1, eK1, eo5⟩ := own_Drive eO4
     have eP4 := eP3.look1 5 rfl eo5 (fun b hb => eH4 b (by rw [eq1]; simp [hb]))
     have eL1 := own_len_le eo5
     unfold maxLen at eL1
     refine W_reg (sV rfl (py_field Tryz.underlying38 rfl Tryz.sizeOf35 rfl rfl) (sV rfl (py_load Tryz.underlying35 rfl rfl (cell_atL (eP4.box 0 rfl) rfl)) (sV rfl (py_move rfl) (sV rfl (py_elz Tryz.underlying35 Tryz.sizeOf142 rfl rfl ee3 k (by omega) (by omega)) (sV rfl (py_load Tryz.underlying142 rfl rfl ec3) (sV rfl (py_move rfl) (sV rfl (py_elz Tryz.underlying142 Tryz.sizeOf180 rfl rfl ee4 k2 (by omega) (by omega)) (sV rfl (py_field Tryz.underlying180 rfl Tryz.sizeOf178 rfl rfl) (sV rfl (py_load Tryz.underlying178 rfl rfl (at_cell ec4 1 rfl)) (sV rfl (py_assign rfl) (s_nil (W_seq (W_sr (sV rfl (py_move rfl) (sV rfl (py_len Tryz.underlying178 rfl) (sV rfl (py_field Tryz.underlying34 rfl Tryz.sizeOf2 rfl rfl) (sV rfl (py_load Tryz.underlying2 rfl rfl (cell_atL (eP4.box 1 rfl) rfl)) (sV rfl (py_neq rfl rfl) (s_nil (W_ifd rfl (fun c5 => ?_) (fun c5 => ?_)))))))))))))))))))))
     ·refine W_sr (sV rfl (py_assign rfl) (s_nil (W_ret (hQ _ _ (fin1 Tryz.results160 rfl ?_)))))
      exact ⟨eP4.ext, congrArg Value.bool (groupsOK_at k (by omega) (groupOK_at k2 (by omega) (driveOK_len (by omega)))).symm⟩
     ·refine W_skip (W_sr (sV rfl (py_assign rfl) (s_nil (W_block (W_loopS (γ := Nat) eP4 [(1, _), (3, _), (4, _), (5, _), (6, _)] ⟨rfl, rfl, rfl, rfl, rfl, trivial⟩ (fun k3 => [(7, .int .i64 k3)]) (fun k3 => k3 ≤ ((z.Groups.getD k []).getD k2 default).Blocks.length ∧ (∀ i, i < k3 → blockOK (((z.Groups.getD k []).getD k2 default).Blocks.getD i default) = true)) (fun k3 => ((z.Groups.getD k []).getD k2 default).Blocks.length - k3) 0 ⟨rfl, trivial⟩ ⟨by omega, fun i hi => by omega⟩ (fun k3 w8 H10 ⟨hk3, hek3⟩ => ?_))))))
      dsimp only [List.cons_append, List.nil_append]
      refine W_seq (W_sr (sV rfl (py_move rfl) (sV rfl (py_move rfl) (sV rfl (py_len Tryz.underlying178 rfl) (sV rfl (py_lss rfl rfl) (s_nil (W_ifd rfl (fun c6 => ?_) (fun c6 => ?_))))))))
      ·refine W_skip (W_seq (W_block (W_seq ?_)))
       obtain ⟨eb5, eo6, es2, ef5, ee5, ec5, eO5, eH5, em2⟩ := elem_st (H10.seen 6 rfl) k3 (by omega)
       obtain ⟨ea5, ek5, eg2, rfl, eq2, eK2, eo7⟩ := own_Block eO5
       have eK2U := eK2
       unfold Block.Ok at eK2U
       try unfold I64ok at eK2U
       try unfold maxLen at eK2U
       have eP5 := H10.look1 6 rfl eo7 (fun b hb => eH5 b (by rw [eq2]; simp [hb]))
       have eL2 := own_len_le eo7
       unfold maxLen at eL2
       refine W_reg (sV rfl (py_move rfl) (sV rfl (py_move rfl) (sV rfl (py_elz Tryz.underlying178 Tryz.sizeOf182 rfl rfl ee5 k3 (by omega) (by omega)) (sV rfl (py_field Tryz.underlying182 rfl Tryz.sizeOf2 rfl rfl) (sV rfl (py_load Tryz.underlying2 rfl rfl (at_cell ec5 0 rfl)) (s_call (wn rfl) rfl rfl (pc_call Tryz.func97 rfl Tryz_nm97 rfl) Tryz_spec_l1In (fun v3 w9 r3 => ?_)))))))
       obtain ⟨e6, rfl⟩ := r3
       have H11 := eP5.to e6
       refine sV rfl (py_not rfl) (sV rfl (py_move rfl) (s_grp 7 (j := 7) (want := false) (t := 76) rfl rfl rfl rfl (fun hg1 kk1 => s_val (wgE rfl rfl rfl hg1) rfl rfl (py_move rfl) (s_val (wgE rfl rfl rfl hg1) rfl rfl (py_move rfl) (s_val (wgE rfl rfl rfl hg1) rfl rfl (py_elz Tryz.underlying178 Tryz.sizeOf182 rfl rfl ee5 k3 (by first | omega | (simp only [Bool.or_eq_false_iff, Bool.and_eq_true, Bool.and_eq_false_iff, Bool.or_eq_true, Bool.not_eq_true', Bool.not_eq_false', decide_eq_true_eq, decide_eq_false_iff_not] at hg1; omega)) (by omega)) (s_val (wgE rfl rfl rfl hg1) rfl rfl (py_field Tryz.underlying182 rfl Tryz.sizeOf45 rfl rfl) (s_val (wgE rfl rfl rfl hg1) rfl rfl (py_load Tryz.underlying45 rfl rfl (at_cell (e6.at ec5) 1 rfl)) (s_val (wgE rfl rfl rfl hg1) rfl rfl (py_len Tryz.underlying45 rfl) (s_val (wgE rfl rfl rfl hg1) rfl rfl (py_neq rfl rfl) (kk1 _ _ (kx rfl (kx rfl (kx rfl (kx rfl (kx rfl (kx rfl (kx rfl k0))))))) rfl Ext.refl)))))))) (fun w10 e7 => ?_)))
       have H12 := H11.to e7
       refine sV rfl (py_bor rfl rfl) (s_nil (W_if rfl (fun c7 => ?_) (fun c7 => ?_)))
       ·refine W_sr (sV rfl (py_assign rfl) (s_nil (W_ret (hQ _ _ (fin1 Tryz.results160 rfl ?_)))))
        exact ⟨H12.ext, congrArg Value.bool (groupsOK_at k (by omega) (groupOK_at k2 (by omega) (driveOK_at k3 (by omega) (blockOK_no c7)))).symm⟩
       ·refine W_skip (W_reg (sV rfl (py_move rfl) (sV rfl (py_add rfl rfl (in64 ⟨by omega, by omega⟩)) (sV rfl (py_assign rfl) (s_nil (⟨k3 + 1, ⟨rfl, rfl, rfl, rfl, rfl, rfl, trivial⟩, ⟨(H12.ftake 7), by omega, fun i hi => ?_⟩, by dsimp only; omega⟩))))))
        by_cases e : i = k3
        ·subst e
         exact blockOK_yes (by assumption)
        ·exact hek3 i (by omega)
      ·refine W_exit (W_reg (sV rfl (py_move rfl) (sV rfl (py_add rfl rfl (in64 ⟨by omega, by omega⟩)) (sV rfl (py_assign rfl) (s_nil (⟨k2 + 1, ⟨rfl, rfl, rfl, rfl, trivial⟩, ⟨(H10.ftake 4), by omega, fun i hi => ?_⟩, by dsimp only; omega⟩))))))
       by_cases e : i = k2
       ·subst e
        exact driveOK_all (by omega) (fun i hi => hek3 i (by omega))
       ·exact hek2 i (by omega)
    ·refine W_exit (W_reg (sV rfl (py_move rfl) (sV rfl (py_add rfl rfl (in64 ⟨by omega, by omega⟩)) (sV rfl (py_assign rfl) (s_nil (⟨k + 1, ⟨rfl, rfl, rfl, trivial⟩, ⟨(eP2.ftake 3), by omega, fun i hi => ?_⟩, by dsimp only; omega⟩))))))
     by_cases e : i = k
     ·subst e
      exact groupOK_yes (by omega) (fun i hi => hek2 i (by omega))
     ·exact he i (by omega)
  ·refine W_exit (W_sr (sV rfl (py_assign rfl) (s_nil (W_ret (hQ _ _ (fin1 Tryz.results160 rfl ?_))))))
   exact ⟨H6.ext, congrArg Value.bool (groupsOK_yes (by omega) (fun i hi => he i (by omega))).symm⟩
theorem Tryz_impl_WorldFault {w : World} {z : Wld} {zA9 : Option Addr} {zC9 : Nat} {zA10 : Option Addr} {zC10 : Nat} {zA11 : Option Addr} {zC11 : Nat} (zK : z.Ok) (zS9 : Sees w [.slice zA9 z.Groups.length zC9] z.Groups) (zS10 : Sees w [.slice zA10 z.On.length zC10] z.On) (zS11 : Sees w [.slice zA11 z.Tapes.length zC11] z.Tapes) : Ret Tryz.prog 70 #[z.val zA9 zC9 zA10 zC10 zA11 zC11] w fun v w' => Ext No w w' ∧ (v = .int .i64 (worldF z)) := by
 have zK2 := zK
 unfold Wld.Ok Shape.Ok at zK2
 try unfold I64ok at zK2
 try unfold maxLen at zK2
 have zL9 := sees_len zS9
 unfold maxLen at zL9
 obtain ⟨zF9, zO9⟩ := zS9
 have zL10 := sees_len zS10
 unfold maxLen at zL10
 obtain ⟨zF10, zO10⟩ := zS10
 have zL11 := sees_len zS11
 unfold maxLen at zL11
 obtain ⟨zF11, zO11⟩ := zS11
 refine ret_Q (vs := [z.val zA9 zC9 zA10 zC10 zA11 zC11]) Tryz.func70 rfl Tryz.ntmps70 rfl (fun Q hQ hN => ?_)
 have H0 := Sep.start (w := w) (F := [seen false [.slice zA9 z.Groups.length zC9] z.Groups zF9, seen false [.slice zA10 z.On.length zC10] z.On zF10, seen false [.slice zA11 z.Tapes.length zC11] z.Tapes zF11]) (all_cons zO9 (all_cons zO10 (all_cons zO11 (by simp))))
 refine W_sr (s_box (wn rfl) rfl rfl H0 (fun b1 w1 e1 g1 H1 => ?_))
 refine sV rfl (py_assign rfl) (s_nil (W_seq (W_sr (sV rfl (py_field Tryz.underlying38 rfl Tryz.sizeOf34 rfl rfl) (sV rfl (py_loadS Tryz.underlying34 rfl Tryz.sizeOf34 rfl rfl (At.sub (H1.box 0 rfl) 9)) (s_call (wn rfl) rfl rfl (pc_call Tryz.func143 rfl Tryz_nm143 rfl) Tryz_impl_ShapeFault (fun v1 w2 r1 => ?_)))))))
 obtain ⟨e2, rfl⟩ := r1
 have H2 := H1.to e2
 refine sV rfl (py_assign rfl) (s_nil (W_sr (sV rfl (py_move rfl) (sV rfl (py_neq rfl rfl) (s_nil (W_ifd rfl (fun c1 => ?_) (fun c1 => ?_)))))))
 ·refine W_sr (sV rfl (py_move rfl) (sV rfl (py_assign rfl) (s_nil (W_ret (hQ _ _ (fin1 Tryz.results70 rfl ?_))))))
  exact ⟨H2.ext, congrArg (Value.int .i64) (if_pos (by omega)).symm⟩
 ·refine W_skip (W_seq (W_seq ?_))
  have hs := shapeFault_ok (s := z.Shape) (by omega)
  refine W_reg (sV rfl (py_loadS Tryz.underlying38 rfl Tryz.sizeOf38 rfl rfl (At.whole (H2.box 0 rfl))) (s_call (wn rfl) rfl rfl (pc_call Tryz.func144 rfl Tryz_nm144 rfl) (Tryz_impl_groupsOK (by assumption) (H2.sees 0 rfl) (H2.sees 1 rfl) (H2.sees 2 rfl) (by assumption)) (fun v2 w3 r2 => ?_)))
  obtain ⟨e3, rfl⟩ := r2
  have H3 := H2.to e3
  refine sV rfl (py_not rfl) (sV rfl (py_move rfl) (s_case (t := 14) rfl (fun hg1 => ?_) (fun hg1 => ?_)))
  ·try simp only [decide_eq_true_eq, decide_eq_false_iff_not] at hg1
   refine s_skip (wog (b := true) rfl rfl rfl) rfl rfl (s_skip (wog (b := true) rfl rfl rfl) rfl rfl (s_skip (wog (b := true) rfl rfl rfl) rfl rfl (sV rfl (py_pickT rfl rfl) (sV rfl (py_move rfl) (s_skip (wog (b := true) rfl rfl rfl) rfl rfl (s_skip (wog (b := true) rfl rfl rfl) rfl rfl (s_skip (wog (b := true) rfl rfl rfl) rfl rfl (s_skip (wog (b := true) rfl rfl rfl) rfl rfl (sV rfl (py_pickT rfl rfl) (s_nil (W_ift rfl (W_sr (sV rfl (py_assign rfl) (s_nil (W_ret (hQ _ _ (fin1 Tryz.results70 rfl ?_)))))))))))))))))
   exact ⟨H3.ext, congrArg (Value.int .i64) ((if_neg (by omega)).trans (if_neg (by simp_all <;> omega))).symm⟩
  ·try simp only [decide_eq_true_eq, decide_eq_false_iff_not] at hg1
   refine s_val (wg rfl rfl rfl) rfl rfl (py_loadS Tryz.underlying38 rfl Tryz.sizeOf38 rfl rfl (At.whole (H3.box 0 rfl))) (s_call (wg rfl rfl rfl) rfl rfl (pc_call Tryz.func145 rfl Tryz_nm145 rfl) (Tryz_impl_onOK (by assumption) (H3.sees 0 rfl) (H3.sees 1 rfl) (H3.sees 2 rfl) (by assumption)) (fun v3 w4 r3 => ?_))
   obtain ⟨e4, rfl⟩ := r3
   have H4 := H3.to e4
   refine s_val (wg rfl rfl rfl) rfl rfl (py_not rfl) (sV rfl (py_pickF rfl rfl) (sV rfl (py_move rfl) (s_case (t := 19) rfl (fun hg2 => ?_) (fun hg2 => ?_))))
   ·try simp only [decide_eq_true_eq, decide_eq_false_iff_not] at hg2
    refine s_skip (wog (b := true) rfl rfl rfl) rfl rfl (s_skip (wog (b := true) rfl rfl rfl) rfl rfl (s_skip (wog (b := true) rfl rfl rfl) rfl rfl (s_skip (wog (b := true) rfl rfl rfl) rfl rfl (sV rfl (py_pickT rfl rfl) (s_nil (W_ift rfl (W_sr (sV rfl (py_assign rfl) (s_nil (W_ret (hQ _ _ (fin1 Tryz.results70 rfl ?_))))))))))))
    exact ⟨H4.ext, congrArg (Value.int .i64) ((if_neg (by omega)).trans (if_neg (by simp_all <;> omega))).symm⟩
   ·try simp only [decide_eq_true_eq, decide_eq_false_iff_not] at hg2
    refine s_val (wg rfl rfl rfl) rfl rfl (py_field Tryz.underlying38 rfl Tryz.sizeOf36 rfl rfl) (s_val (wg rfl rfl rfl) rfl rfl (py_load Tryz.underlying36 rfl rfl (cell_atL (H4.box 0 rfl) rfl)) (s_val (wg rfl rfl rfl) rfl rfl (py_len Tryz.underlying36 rfl) (s_val (wg rfl rfl rfl) rfl rfl (py_neq rfl rfl) (sV rfl (py_pickF rfl rfl) (s_nil (W_ifd rfl (fun c2 => ?_) (fun c2 => ?_)))))))
    ·refine W_sr (sV rfl (py_assign rfl) (s_nil (W_ret (hQ _ _ (fin1 Tryz.results70 rfl ?_)))))
     exact ⟨H4.ext, congrArg (Value.int .i64) ((if_neg (by omega)).trans (if_neg (by simp_all <;> omega))).symm⟩
    ·refine W_skip (W_seq (W_sr (sV rfl (py_loadS Tryz.underlying38 rfl Tryz.sizeOf38 rfl rfl (At.whole (H4.box 0 rfl))) (s_call (wn rfl) rfl rfl (pc_call Tryz.func146 rfl Tryz_nm146 rfl) (Tryz_impl_tapesFault (by assumption) (H4.sees 0 rfl) (H4.sees 1 rfl) (H4.sees 2 rfl) (by assumption)) (fun v4 w5 r4 => ?_)))))
     obtain ⟨e5, rfl⟩ := r4
     have H5 := H4.to e5
     refine sV rfl (py_assign rfl) (s_nil (W_sr (sV rfl (py_move rfl) (sV rfl (py_neq rfl rfl) (s_nil (W_ifd rfl (fun c3 => ?_) (fun c3 => ?_)))))))
     ·refine W_sr (sV rfl (py_move rfl) (sV rfl (py_assign rfl) (s_nil (W_ret (hQ _ _ (fin1 Tryz.results70 rfl ?_))))))
      exact ⟨H5.ext, congrArg (Value.int .i64) ((if_neg (by omega)).trans ((if_pos (by simp_all <;> omega)).trans (if_pos (by omega)))).symm⟩
     ·refine W_skip (W_seq (W_sr (sV rfl (py_field Tryz.underlying38 rfl Tryz.sizeOf2 rfl rfl) (sV rfl (py_load Tryz.underlying2 rfl rfl (cell_atL (H5.box 0 rfl) rfl)) (s_call (wn rfl) rfl rfl (pc_call Tryz.func147 rfl Tryz_nm147 rfl) Tryz_impl_inside (fun v5 w6 r5 => ?_))))))
      obtain ⟨e6, rfl⟩ := r5
      have H6 := H5.to e6
      refine sV rfl (py_not rfl) (sV rfl (py_move rfl) (s_case (t := 34) rfl (fun hg3 => ?_) (fun hg3 => ?_)))
      ·try simp only [decide_eq_true_eq, decide_eq_false_iff_not] at hg3
       refine s_skip (wog (b := true) rfl rfl rfl) rfl rfl (s_skip (wog (b := true) rfl rfl rfl) rfl rfl (s_skip (wog (b := true) rfl rfl rfl) rfl rfl (s_skip (wog (b := true) rfl rfl rfl) rfl rfl (sV rfl (py_pickT rfl rfl) (s_nil (W_ift rfl (W_sr (sV rfl (py_assign rfl) (s_nil (W_ret (hQ _ _ (fin1 Tryz.results70 rfl ?_))))))))))))
       exact ⟨H6.ext, congrArg (Value.int .i64) ((if_neg (by omega)).trans ((if_pos (by simp_all <;> omega)).trans ((if_neg (by omega)).trans (if_neg (by simp_all <;> omega))))).symm⟩
      ·try simp only [decide_eq_true_eq, decide_eq_false_iff_not] at hg3
       refine s_val (wg rfl rfl rfl) rfl rfl (py_field Tryz.underlying38 rfl Tryz.sizeOf2 rfl rfl) (s_val (wg rfl rfl rfl) rfl rfl (py_load Tryz.underlying2 rfl rfl (cell_atL (H6.box 0 rfl) rfl)) (s_call (wg rfl rfl rfl) rfl rfl (pc_call Tryz.func147 rfl Tryz_nm147 rfl) Tryz_impl_inside (fun v6 w7 r6 => ?_)))
       obtain ⟨e7, rfl⟩ := r6
       have H7 := H6.to e7
       refine s_val (wg rfl rfl rfl) rfl rfl (py_not rfl) (sV rfl (py_pickF rfl rfl) (s_nil (W_if rfl (fun c4 => ?_) (fun c4 => ?_))))
       ·refine W_sr (sV rfl (py_assign rfl) (s_nil (W_ret (hQ _ _ (fin1 Tryz.results70 rfl ?_)))))
        exact ⟨H7.ext, congrArg (Value.int .i64) ((if_neg (by omega)).trans ((if_pos (by simp_all <;> omega)).trans ((if_neg (by omega)).trans (if_neg (by simp_all <;> omega))))).symm⟩
       ·refine W_skip (W_sr (sV rfl (py_assign rfl) (s_nil (W_ret (hQ _ _ (fin1 Tryz.results70 rfl ?_))))))
        exact ⟨H7.ext, congrArg (Value.int .i64) ((if_neg (by omega)).trans ((if_pos (by simp_all <;> omega)).trans ((if_neg (by omega)).trans (if_pos (by simp_all <;> omega))))).symm⟩
set_option maxHeartbeats 1000000 in
theorem Tryz_spec_WorldFault {w : World} {z : Wld} {zA9 : Option Addr} {zC9 : Nat} {zA10 : Option Addr} {zC10 : Nat} {zA11 : Option Addr} {zC11 : Nat} (zK : z.Ok) (zS9 : Sees w [.slice zA9 z.Groups.length zC9] z.Groups) (zS10 : Sees w [.slice zA10 z.On.length zC10] z.On) (zS11 : Sees w [.slice zA11 z.Tapes.length zC11] z.Tapes) : Ret Tryz.prog 93 #[z.val zA9 zC9 zA10 zC10 zA11 zC11] w fun v w' => Ext No w w' ∧ (v = .int .i64 (worldF z)) := by
 have zK2 := zK
 unfold Wld.Ok Shape.Ok at zK2
 try unfold I64ok at zK2
 try unfold maxLen at zK2
 have zL9 := sees_len zS9
 unfold maxLen at zL9
 obtain ⟨zF9, zO9⟩ := zS9
 have zL10 := sees_len zS10
 unfold maxLen at zL10
 obtain ⟨zF10, zO10⟩ := zS10
 have zL11 := sees_len zS11
 unfold maxLen at zL11
 obtain ⟨zF11, zO11⟩ := zS11
 refine ret_Q (vs := [z.val zA9 zC9 zA10 zC10 zA11 zC11]) Tryz.func93 rfl Tryz.ntmps93 rfl (fun Q hQ hN => ?_)
 have H0 := Sep.start (w := w) (F := [seen false [.slice zA9 z.Groups.length zC9] z.Groups zF9, seen false [.slice zA10 z.On.length zC10] z.On zF10, seen false [.slice zA11 z.Tapes.length zC11] z.Tapes zF11]) (all_cons zO9 (all_cons zO10 (all_cons zO11 (by simp))))
 refine W_sr (s_box (wn rfl) rfl rfl H0 (fun b1 w1 e1 g1 H1 => ?_))
 refine sV rfl (py_assign rfl) (s_nil (W_seq (W_sr (sV rfl (py_field Tryz.underlying38 rfl Tryz.sizeOf34 rfl rfl) (sV rfl (py_loadS Tryz.underlying34 rfl Tryz.sizeOf34 rfl rfl (At.sub (H1.box 0 rfl) 9)) (s_call (wn rfl) rfl rfl (pc_call Tryz.func159 rfl Tryz_nm159 rfl) Tryz_spec_ShapeFault (fun v1 w2 r1 => ?_)))))))
 obtain ⟨e2, rfl⟩ := r1
 have H2 := H1.to e2
 refine sV rfl (py_assign rfl) (s_nil (W_sr (sV rfl (py_move rfl) (sV rfl (py_neq rfl rfl) (s_nil (W_ifd rfl (fun c1 => ?_) (fun c1 => ?_)))))))
 ·refine W_sr (sV rfl (py_move rfl) (sV rfl (py_assign rfl) (s_nil (W_ret (hQ _ _ (fin1 Tryz.results93 rfl ?_))))))
  exact ⟨H2.ext, congrArg (Value.int .i64) (if_pos (by omega)).symm⟩
 ·refine W_skip (W_seq (W_seq ?_))
  have hs := shapeFault_ok (s := z.Shape) (by omega)
  have sbd := shape_bd hs
  refine W_drw (S := Ext No _) [(0, true), (1, false), (2, true), (3, true), (4, true), (5, true), (6, true), (7, true), (8, false), (9, true), (10, false), (11, true), (12, true), (13, true), (14, true), (15, true), (16, true), (17, true), (18, true), (19, true), (20, true), (21, true), (22, true), (23, true), (24, true), (25, true), (26, true), (27, true), (28, true), (29, true), (30, true), (31, true), (32, true), (33, true), (34, true), (35, true), (36, true), (37, false)] (by kernel_rfl) (by kernel_rfl) (by kernel_rfl) rfl (fun _ => Ext.refl.drawn _) (fun q1 => ?_)
  have H3 := H2.drawn q1
  refine dV rfl rfl (fun zw hx => py_loadS Tryz.underlying38 rfl Tryz.sizeOf38 rfl rfl (At.whole (hx.heap (H3.box 0 rfl)))) (d_call rfl (wn rfl) rfl rfl (pc_call Tryz.func160 rfl Tryz_nm160 rfl) (Tryz_spec_l5Built (by assumption) (H3.sees 0 rfl) (H3.sees 1 rfl) (H3.sees 2 rfl) (by assumption)) (fun hS _ _ r _ => hS.trans r.1.no) (fun v2 w3 r2 => ?_))
  obtain ⟨e3, rfl⟩ := r2
  have H4 := H3.to e3
  refine dV rfl rfl (fun zw hx => py_not rfl) (dV rfl rfl (fun zw hx => py_move rfl) (d_case (t := 17) rfl (fun hg1 => ?_) (fun hg1 => ?_)))
  ·try simp only [decide_eq_true_eq, decide_eq_false_iff_not] at hg1
   refine d_skip rfl (wog (b := true) rfl rfl rfl) rfl rfl (d_skip rfl (wog (b := true) rfl rfl rfl) rfl rfl (d_skip rfl (wog (b := true) rfl rfl rfl) rfl rfl (d_skip rfl (wog (b := true) rfl rfl rfl) rfl rfl (d_skipA rfl (wog (b := true) rfl rfl rfl) rfl rfl (d_skip rfl (wog (b := true) rfl rfl rfl) rfl rfl (d_skipA rfl (wog (b := true) rfl rfl rfl) rfl rfl (d_skip rfl (wog (b := true) rfl rfl rfl) rfl rfl (dV rfl rfl (fun zw hx => py_pickT rfl rfl) (dV rfl rfl (fun zw hx => py_move rfl) (d_skip rfl (wog (b := true) rfl rfl rfl) rfl rfl (d_skip rfl (wog (b := true) rfl rfl rfl) rfl rfl (d_skip rfl (wog (b := true) rfl rfl rfl) rfl rfl (d_skip rfl (wog (b := true) rfl rfl rfl) rfl rfl (d_skip rfl (wog (b := true) rfl rfl rfl) rfl rfl (d_skip rfl (wog (b := true) rfl rfl rfl) rfl rfl (d_skip rfl (wog (b := true) rfl rfl rfl) rfl rfl (dV rfl rfl (fun zw hx => py_pickT rfl rfl) (dV rfl rfl (fun zw hx => py_move rfl) (d_skip rfl (wog (b := true) rfl rfl rfl) rfl rfl (d_skip rfl (wog (b := true) rfl rfl rfl) rfl rfl (d_skip rfl (wog (b := true) rfl rfl rfl) rfl rfl (d_skip rfl (wou rfl rfl rfl) rfl rfl (d_skip rfl (wou rfl rfl rfl) rfl rfl (d_skip rfl (wou rfl rfl rfl) rfl rfl (d_skip rfl (wou rfl rfl rfl) rfl rfl (d_skip rfl (wog (b := true) rfl rfl rfl) rfl rfl (dV rfl rfl (fun zw hx => py_pickT rfl rfl) (dV rfl rfl (fun zw hx => py_move rfl) (d_skip rfl (wog (b := true) rfl rfl rfl) rfl rfl (d_skip rfl (wog (b := true) rfl rfl rfl) rfl rfl (d_skip rfl (wog (b := true) rfl rfl rfl) rfl rfl (d_skip rfl (wog (b := true) rfl rfl rfl) rfl rfl (d_end rfl (wn rfl) rfl rfl (py_pickT rfl rfl) (d_nil (W_ift rfl (W_sr (sV rfl (py_assign rfl) (s_nil (W_ret (hQ _ _ (fin1 Tryz.results93 rfl ?_)))))))))))))))))))))))))))))))))))))))))
   exact ⟨H4.ext, congrArg (Value.int .i64) ((if_neg (by omega)).trans (if_neg (by rw [← fine_eq]; first | (simp_all <;> omega) | (cases hh : z.On <;> simp_all <;> omega)))).symm⟩
  ·try simp only [decide_eq_true_eq, decide_eq_false_iff_not] at hg1
   refine d_val rfl (wg rfl rfl rfl) rfl rfl (fun zw hx => py_field Tryz.underlying38 rfl Tryz.sizeOf25 rfl rfl) (d_val rfl (wg rfl rfl rfl) rfl rfl (fun zw hx => py_load Tryz.underlying25 rfl rfl (cell_atL (hx.heap (H3.box 0 rfl)) rfl)) (d_val rfl (wg rfl rfl rfl) rfl rfl (fun zw hx => py_field Tryz.underlying38 rfl Tryz.sizeOf34 rfl rfl) (d_val rfl (wg rfl rfl rfl) rfl rfl (fun zw hx => py_loadS Tryz.underlying34 rfl Tryz.sizeOf34 rfl rfl (At.sub (hx.heap (H3.box 0 rfl)) 9)) (d_call rfl (wg rfl rfl rfl) rfl rfl (pc_call Tryz.func162 rfl Tryz_nm162 rfl) (Tryz_spec_l5All (by assumption)) (fun hS _ _ r _ => hS.trans r.1.no) (fun v3 w4 r3 => ?_)))))
   obtain ⟨e4, rfl⟩ := r3
   have H5 := H4.to e4
   refine d_val rfl (wg rfl rfl rfl) rfl rfl (fun zw hx => py_sub rfl rfl (in64 ⟨by omega, by omega⟩)) (d_call rfl (wg rfl rfl rfl) rfl rfl (pc_call Tryz.func161 rfl Tryz_nm161 rfl) (Tryz_spec_l5Apart (H5.sees 1 rfl)) (fun hS _ _ r _ => hS.trans r.1.no) (fun v4 w5 r4 => ?_))
   obtain ⟨e5, rfl⟩ := r4
   have H6 := H5.to e5
   refine d_val rfl (wg rfl rfl rfl) rfl rfl (fun zw hx => py_not rfl) (dV rfl rfl (fun zw hx => py_pickF rfl rfl) (dV rfl rfl (fun zw hx => py_move rfl) (d_case (t := 27) rfl (fun hg2 => ?_) (fun hg2 => ?_))))
   ·try simp only [decide_eq_true_eq, decide_eq_false_iff_not] at hg2
    refine d_skip rfl (wog (b := true) rfl rfl rfl) rfl rfl (d_skip rfl (wog (b := true) rfl rfl rfl) rfl rfl (d_skip rfl (wog (b := true) rfl rfl rfl) rfl rfl (d_skip rfl (wog (b := true) rfl rfl rfl) rfl rfl (d_skip rfl (wog (b := true) rfl rfl rfl) rfl rfl (d_skip rfl (wog (b := true) rfl rfl rfl) rfl rfl (d_skip rfl (wog (b := true) rfl rfl rfl) rfl rfl (dV rfl rfl (fun zw hx => py_pickT rfl rfl) (dV rfl rfl (fun zw hx => py_move rfl) (d_skip rfl (wog (b := true) rfl rfl rfl) rfl rfl (d_skip rfl (wog (b := true) rfl rfl rfl) rfl rfl (d_skip rfl (wog (b := true) rfl rfl rfl) rfl rfl (d_skip rfl (wou rfl rfl rfl) rfl rfl (d_skip rfl (wou rfl rfl rfl) rfl rfl (d_skip rfl (wou rfl rfl rfl) rfl rfl (d_skip rfl (wou rfl rfl rfl) rfl rfl (d_skip rfl (wog (b := true) rfl rfl rfl) rfl rfl (dV rfl rfl (fun zw hx => py_pickT rfl rfl) (dV rfl rfl (fun zw hx => py_move rfl) (d_skip rfl (wog (b := true) rfl rfl rfl) rfl rfl (d_skip rfl (wog (b := true) rfl rfl rfl) rfl rfl (d_skip rfl (wog (b := true) rfl rfl rfl) rfl rfl (d_skip rfl (wog (b := true) rfl rfl rfl) rfl rfl (d_end rfl (wn rfl) rfl rfl (py_pickT rfl rfl) (d_nil (W_ift rfl (W_sr (sV rfl (py_assign rfl) (s_nil (W_ret (hQ _ _ (fin1 Tryz.results93 rfl ?_)))))))))))))))))))))))))))))))
    exact ⟨H6.ext, congrArg (Value.int .i64) ((if_neg (by omega)).trans (if_neg (by rw [← fine_eq]; first | (simp_all <;> omega) | (cases hh : z.On <;> simp_all <;> omega)))).symm⟩
   ·try simp only [decide_eq_true_eq, decide_eq_false_iff_not] at hg2
    refine d_val rfl (wg rfl rfl rfl) rfl rfl (fun zw hx => py_field Tryz.underlying38 rfl Tryz.sizeOf25 rfl rfl) (d_val rfl (wg rfl rfl rfl) rfl rfl (fun zw hx => py_load Tryz.underlying25 rfl rfl (cell_atL (hx.heap (H3.box 0 rfl)) rfl)) (d_val rfl (wg rfl rfl rfl) rfl rfl (fun zw hx => py_len Tryz.underlying25 rfl) (d_val rfl (wg rfl rfl rfl) rfl rfl (fun zw hx => py_field Tryz.underlying38 rfl Tryz.sizeOf34 rfl rfl) (d_val rfl (wg rfl rfl rfl) rfl rfl (fun zw hx => py_field Tryz.underlying34 rfl Tryz.sizeOf2 rfl rfl) (d_val rfl (wg rfl rfl rfl) rfl rfl (fun zw hx => py_load Tryz.underlying2 rfl rfl (cell_atL (hx.heap (H3.box 0 rfl)) rfl)) (d_val rfl (wg rfl rfl rfl) rfl rfl (fun zw hx => py_gtr rfl rfl) (dV rfl rfl (fun zw hx => py_pickF rfl rfl) (dV rfl rfl (fun zw hx => py_move rfl) (d_case (t := 36) rfl (fun hg3 => ?_) (fun hg3 => ?_))))))))))
    ·try simp only [decide_eq_true_eq, decide_eq_false_iff_not] at hg3
     refine d_skip rfl (wog (b := true) rfl rfl rfl) rfl rfl (d_skip rfl (wog (b := true) rfl rfl rfl) rfl rfl (d_skip rfl (wog (b := true) rfl rfl rfl) rfl rfl (d_skip rfl (wou rfl rfl rfl) rfl rfl (d_skip rfl (wou rfl rfl rfl) rfl rfl (d_skip rfl (wou rfl rfl rfl) rfl rfl (d_skip rfl (wou rfl rfl rfl) rfl rfl (d_skip rfl (wog (b := true) rfl rfl rfl) rfl rfl (dV rfl rfl (fun zw hx => py_pickT rfl rfl) (dV rfl rfl (fun zw hx => py_move rfl) (d_skip rfl (wog (b := true) rfl rfl rfl) rfl rfl (d_skip rfl (wog (b := true) rfl rfl rfl) rfl rfl (d_skip rfl (wog (b := true) rfl rfl rfl) rfl rfl (d_skip rfl (wog (b := true) rfl rfl rfl) rfl rfl (d_end rfl (wn rfl) rfl rfl (py_pickT rfl rfl) (d_nil (W_ift rfl (W_sr (sV rfl (py_assign rfl) (s_nil (W_ret (hQ _ _ (fin1 Tryz.results93 rfl ?_))))))))))))))))))))))
     exact ⟨H6.ext, congrArg (Value.int .i64) ((if_neg (by omega)).trans (if_neg (by rw [← fine_eq]; first | (simp_all <;> omega) | (cases hh : z.On <;> simp_all <;> omega)))).symm⟩
    ·try simp only [decide_eq_true_eq, decide_eq_false_iff_not] at hg3
     refine d_val rfl (wg rfl rfl rfl) rfl rfl (fun zw hx => py_field Tryz.underlying38 rfl Tryz.sizeOf4 rfl rfl) (d_val rfl (wg rfl rfl rfl) rfl rfl (fun zw hx => py_load Tryz.underlying4 rfl rfl (cell_atL (hx.heap (H3.box 0 rfl)) rfl)) (d_val rfl (wg rfl rfl rfl) rfl rfl (fun zw hx => py_move rfl) (d_case (t := 39) rfl (fun hg4 => ?_) (fun hg4 => ?_))))
     ·try simp only [decide_eq_true_eq, decide_eq_false_iff_not] at hg4
      refine d_val rfl (wg rfl rfl rfl) rfl rfl (fun zw hx => py_field Tryz.underlying38 rfl Tryz.sizeOf25 rfl rfl) (d_val rfl (wg rfl rfl rfl) rfl rfl (fun zw hx => py_load Tryz.underlying25 rfl rfl (cell_atL (hx.heap (H3.box 0 rfl)) rfl)) (d_val rfl (wg rfl rfl rfl) rfl rfl (fun zw hx => py_len Tryz.underlying25 rfl) (d_val rfl (wg rfl rfl rfl) rfl rfl (fun zw hx => py_gtr rfl rfl) (d_val rfl (wg rfl rfl rfl) rfl rfl (fun zw hx => py_pickT rfl rfl) (dV rfl rfl (fun zw hx => py_pickF rfl rfl) (dV rfl rfl (fun zw hx => py_move rfl) (d_case (t := 46) rfl (fun hg5 => ?_) (fun hg5 => ?_))))))))
      ·try simp only [decide_eq_true_eq, decide_eq_false_iff_not] at hg5
       refine d_skip rfl (wog (b := true) rfl rfl rfl) rfl rfl (d_skip rfl (wog (b := true) rfl rfl rfl) rfl rfl (d_skip rfl (wog (b := true) rfl rfl rfl) rfl rfl (d_skip rfl (wog (b := true) rfl rfl rfl) rfl rfl (d_end rfl (wn rfl) rfl rfl (py_pickT rfl rfl) (d_nil (W_ift rfl (W_sr (sV rfl (py_assign rfl) (s_nil (W_ret (hQ _ _ (fin1 Tryz.results93 rfl ?_))))))))))))
       exact ⟨H6.ext, congrArg (Value.int .i64) ((if_neg (by omega)).trans (if_neg (by rw [← fine_eq]; first | (simp_all <;> omega) | (cases hh : z.On <;> simp_all <;> omega)))).symm⟩
      ·try simp only [decide_eq_true_eq, decide_eq_false_iff_not] at hg5
       refine d_val rfl (wg rfl rfl rfl) rfl rfl (fun zw hx => py_field Tryz.underlying38 rfl Tryz.sizeOf36 rfl rfl) (d_val rfl (wg rfl rfl rfl) rfl rfl (fun zw hx => py_load Tryz.underlying36 rfl rfl (cell_atL (hx.heap (H3.box 0 rfl)) rfl)) (d_val rfl (wg rfl rfl rfl) rfl rfl (fun zw hx => py_len Tryz.underlying36 rfl) (d_val rfl (wg rfl rfl rfl) rfl rfl (fun zw hx => py_neq rfl rfl) (d_end rfl (wn rfl) rfl rfl (py_pickF rfl rfl) (d_nil (W_ifd rfl (fun c2 => ?_) (fun c2 => ?_)))))))
       ·refine W_sr (sV rfl (py_assign rfl) (s_nil (W_ret (hQ _ _ (fin1 Tryz.results93 rfl ?_)))))
        exact ⟨H6.ext, congrArg (Value.int .i64) ((if_neg (by omega)).trans (if_neg (by rw [← fine_eq]; first | (simp_all <;> omega) | (cases hh : z.On <;> simp_all <;> omega)))).symm⟩
       ·refine W_skip (W_seq (W_seq ?_))
        have hF : (groupsOK z && onOK z && decide (z.Tapes.length = 2)) = true := by rw [← fine_eq]; simp_all <;> omega
        have h2 : z.Tapes.length = 2 := by simp_all <;> omega
        obtain ⟨eb1, eo1, es1, ef1, ee1, ec1, eO1, eH1, em1⟩ := elem_st (H6.seen 2 rfl) 0 (by omega)
        obtain ⟨ea1, ek1, eg1, rfl, eq1, eK1, eo2⟩ := own_Tape eO1
        have eP1 := H6.look1 2 rfl eo2 (fun b hb => eH1 b (by rw [eq1]; simp [hb]))
        have eL1 := own_len_le eo2
        unfold maxLen at eL1
        refine W_reg (sV rfl (py_field Tryz.underlying38 rfl Tryz.sizeOf36 rfl rfl) (sV rfl (py_load Tryz.underlying36 rfl rfl (cell_atL (eP1.box 0 rfl) rfl)) (sV rfl (py_elz Tryz.underlying36 Tryz.sizeOf139 rfl rfl ee1 0 (by omega) (by omega)) (sV rfl (py_field Tryz.underlying139 rfl Tryz.sizeOf30 rfl rfl) (sV rfl (py_load Tryz.underlying30 rfl rfl (at_cell ec1 1 rfl)) (sV rfl (py_len Tryz.underlying30 rfl) (sV rfl (py_gtr rfl rfl) (sV rfl (py_move rfl) (s_case (t := 59) rfl (fun hg6 => ?_) (fun hg6 => ?_))))))))))
        ·try simp only [decide_eq_true_eq, decide_eq_false_iff_not] at hg6
         refine s_skip (wog (b := true) rfl rfl rfl) rfl rfl (s_skip (wog (b := true) rfl rfl rfl) rfl rfl (s_skip (wog (b := true) rfl rfl rfl) rfl rfl (s_skip (wog (b := true) rfl rfl rfl) rfl rfl (s_skip (wog (b := true) rfl rfl rfl) rfl rfl (s_skip (wog (b := true) rfl rfl rfl) rfl rfl (s_skip (wog (b := true) rfl rfl rfl) rfl rfl (sV rfl (py_pickT rfl rfl) (s_nil (W_ift rfl (W_seq ?_))))))))))
         have tq := tapesF_many (z := z) (any_two h2 (by simp only [manyRecs]; simp_all <;> omega))
         refine W_reg (sV rfl (py_assign rfl) (s_nil (W_ret (hQ _ _ (fin1 Tryz.results93 rfl ?_)))))
         exact ⟨eP1.ext, congrArg (Value.int .i64) ((if_neg (by omega)).trans ((if_pos hF).trans ((if_pos (by omega)).trans tq))).symm⟩
        ·try simp only [decide_eq_true_eq, decide_eq_false_iff_not] at hg6
         refine s_val (wg rfl rfl rfl) rfl rfl (py_field Tryz.underlying38 rfl Tryz.sizeOf36 rfl rfl) (s_val (wg rfl rfl rfl) rfl rfl (py_load Tryz.underlying36 rfl rfl (cell_atL (eP1.box 0 rfl) rfl)) ?_)
         obtain ⟨eb2, eo3, es2, ef2, ee2, ec2, eO2, eH2, em2⟩ := elem_st (eP1.seen 2 rfl) 1 (by omega)
         obtain ⟨ea2, ek2, eg2, rfl, eq2, eK2, eo4⟩ := own_Tape eO2
         have eP2 := eP1.look1 2 rfl eo4 (fun b hb => eH2 b (by rw [eq2]; simp [hb]))
         have eL2 := own_len_le eo4
         unfold maxLen at eL2
         refine s_val (wg rfl rfl rfl) rfl rfl (py_elz Tryz.underlying36 Tryz.sizeOf139 rfl rfl ee2 1 (by omega) (by omega)) (s_val (wg rfl rfl rfl) rfl rfl (py_field Tryz.underlying139 rfl Tryz.sizeOf30 rfl rfl) (s_val (wg rfl rfl rfl) rfl rfl (py_load Tryz.underlying30 rfl rfl (at_cell ec2 1 rfl)) (s_val (wg rfl rfl rfl) rfl rfl (py_len Tryz.underlying30 rfl) (s_val (wg rfl rfl rfl) rfl rfl (py_gtr rfl rfl) (sV rfl (py_pickF rfl rfl) (s_nil (W_ifd rfl (fun c3 => ?_) (fun c3 => ?_))))))))
         ·refine W_seq ?_
          have tq := tapesF_many (z := z) (any_two h2 (by simp only [manyRecs]; simp_all <;> omega))
          refine W_reg (sV rfl (py_assign rfl) (s_nil (W_ret (hQ _ _ (fin1 Tryz.results93 rfl ?_)))))
          exact ⟨eP2.ext, congrArg (Value.int .i64) ((if_neg (by omega)).trans ((if_pos hF).trans ((if_pos (by omega)).trans tq))).symm⟩
         ·refine W_skip (W_seq (W_seq ?_))
          have hM : z.Tapes.any manyRecs = false := any_neither h2 (by simp only [manyRecs]; simp_all <;> omega) (by simp only [manyRecs]; simp_all <;> omega)
          refine W_reg (sV rfl (py_assign rfl) (s_nil (W_block (W_loopS (γ := Nat) eP2 [(1, _)] ⟨rfl, trivial⟩ (fun k => [(4, .int .i64 k)]) (fun k => k ≤ z.Tapes.length ∧ tapeF z.Shape z.Tapes k = 0) (fun k => z.Tapes.length - k) 0 ⟨rfl, trivial⟩ ⟨by omega, rfl⟩ (fun k w6 H7 ⟨hk, hkz⟩ => ?_)))))
          dsimp only [List.cons_append, List.nil_append]
          refine W_seq (W_sr (sV rfl (py_move rfl) (sV rfl (py_lss rfl rfl) (s_nil (W_ifd rfl (fun c4 => ?_) (fun c4 => ?_))))))
          ·refine W_skip (W_seq (W_block (W_sr (sV rfl (py_assign rfl) (s_nil (W_block (W_loopS (γ := Nat) H7 [(1, _), (4, _)] ⟨rfl, rfl, trivial⟩ (fun k2 => [(5, .int .i64 k2)]) (fun k2 => k2 ≤ (z.Tapes.getD k default).Recs.length ∧ recsF z.Shape (z.Tapes.getD k default).Recs k2 = 0) (fun k2 => (z.Tapes.getD k default).Recs.length - k2) 0 ⟨rfl, trivial⟩ ⟨by omega, rfl⟩ (fun k2 w7 H8 ⟨hk2, hk2z⟩ => ?_))))))))
           dsimp only [List.cons_append, List.nil_append]
           refine W_seq (W_seq ?_)
           obtain ⟨eb3, eo5, es3, ef3, ee3, ec3, eO3, eH3, em3⟩ := elem_st (H8.seen 2 rfl) k (by omega)
           obtain ⟨ea3, ek3, eg3, rfl, eq3, eK3, eo6⟩ := own_Tape eO3
           have eP3 := H8.look1 2 rfl eo6 (fun b hb => eH3 b (by rw [eq3]; simp [hb]))
           have eL3 := own_len_le eo6
           unfold maxLen at eL3
           refine W_reg (sV rfl (py_move rfl) (sV rfl (py_field Tryz.underlying38 rfl Tryz.sizeOf36 rfl rfl) (sV rfl (py_load Tryz.underlying36 rfl rfl (cell_atL (eP3.box 0 rfl) rfl)) (sV rfl (py_move rfl) (sV rfl (py_elz Tryz.underlying36 Tryz.sizeOf139 rfl rfl ee3 k (by omega) (by omega)) (sV rfl (py_field Tryz.underlying139 rfl Tryz.sizeOf30 rfl rfl) (sV rfl (py_load Tryz.underlying30 rfl rfl (at_cell ec3 1 rfl)) (sV rfl (py_len Tryz.underlying30 rfl) (sV rfl (py_lss rfl rfl) (s_nil (W_ifd rfl (fun c5 => ?_) (fun c5 => ?_))))))))))))
           ·refine W_skip (W_seq (W_block (W_seq ?_)))
            obtain ⟨eb4, eo7, es4, ef4, ee4, ec4, eO4, eH4, em4⟩ := elem_st (eP3.seen 2 rfl) k (by omega)
            obtain ⟨ea4, ek4, eg4, rfl, eq4, eK4, eo8⟩ := own_Tape eO4
            have eP4 := eP3.look1 2 rfl eo8 (fun b hb => eH4 b (by rw [eq4]; simp [hb]))
            have eL4 := own_len_le eo8
            unfold maxLen at eL4
            obtain ⟨eb5, eo9, es5, ef5, ee5, ec5, eO5, eH5, em5⟩ := elem_st (eP4.seen 6 rfl) k2 (by omega)
            obtain ⟨ea5, ek5, ea6, ek6, ea7, ek7, eg5, eg6, eg7, rfl, eq5, eK5, eo10, eo11, eo12⟩ := own_Rec eO5
            have eK5U := eK5
            unfold Rec.Ok at eK5U
            try unfold I64ok at eK5U
            try unfold maxLen at eK5U
            have eP5 := eP4.look1 6 rfl eo10 (fun b hb => eH5 b (by rw [eq5]; simp [hb]))
            have eL5 := own_len_le eo10
            unfold maxLen at eL5
            have eP6 := eP5.look1 6 rfl eo11 (fun b hb => eH5 b (by rw [eq5]; simp [hb]))
            have eL6 := own_len_le eo11
            unfold maxLen at eL6
            have eP7 := eP6.look1 6 rfl eo12 (fun b hb => eH5 b (by rw [eq5]; simp [hb]))
            have eL7 := own_len_le eo12
            unfold maxLen at eL7
            refine W_drw (S := Ext No _) [(0, true), (1, true), (2, true), (3, true), (4, true), (5, true), (6, true), (7, true), (8, true), (9, true), (10, true), (11, false), (12, false)] (by kernel_rfl) (by kernel_rfl) (by kernel_rfl) rfl (fun _ => Ext.refl.drawn _) (fun q2 => ?_)
            have H9 := eP7.drawn q2
            refine dV rfl rfl (fun zw hx => py_field Tryz.underlying38 rfl Tryz.sizeOf34 rfl rfl) (dV rfl rfl (fun zw hx => py_loadS Tryz.underlying34 rfl Tryz.sizeOf34 rfl rfl (At.sub (hx.heap (H9.box 0 rfl)) 9)) (dV rfl rfl (fun zw hx => py_field Tryz.underlying38 rfl Tryz.sizeOf36 rfl rfl) (dV rfl rfl (fun zw hx => py_load Tryz.underlying36 rfl rfl (cell_atL (hx.heap (H9.box 0 rfl)) rfl)) (dV rfl rfl (fun zw hx => py_move rfl) (dV rfl rfl (fun zw hx => py_elz Tryz.underlying36 Tryz.sizeOf139 rfl rfl ee4 k (by omega) (by omega)) (dV rfl rfl (fun zw hx => py_field Tryz.underlying139 rfl Tryz.sizeOf30 rfl rfl) (dV rfl rfl (fun zw hx => py_load Tryz.underlying30 rfl rfl (at_cell (hx.at ec4) 1 rfl)) (dV rfl rfl (fun zw hx => py_move rfl) (dV rfl rfl (fun zw hx => py_elz Tryz.underlying30 Tryz.sizeOf68 rfl rfl ee5 k2 (by omega) (by omega)) (dV rfl rfl (fun zw hx => py_loadS Tryz.underlying68 rfl Tryz.sizeOf68 rfl rfl (hx.at ec5)) (d_call rfl (wn rfl) rfl rfl (pc_call Tryz.func112 rfl Tryz_nm112 rfl) (Tryz_spec_RecFault (by assumption) (H9.sees 7 rfl) (H9.sees 8 rfl) (H9.sees 9 rfl)) (fun hS _ _ r _ => hS.trans r.1.no) (fun v5 w8 r5 => ?_))))))))))))
            obtain ⟨e6, rfl⟩ := r5
            have H10 := H9.to e6
            refine d_end rfl (wn rfl) rfl rfl (py_assign rfl) (d_nil (W_sr (sV rfl (py_move rfl) (sV rfl (py_neq rfl rfl) (s_nil (W_ifd rfl (fun c6 => ?_) (fun c6 => ?_)))))))
            ·refine W_sr (sV rfl (py_move rfl) (sV rfl (py_assign rfl) (s_nil (W_ret (hQ _ _ (fin1 Tryz.results93 rfl ?_))))))
             have tq := tapesF_rec hM (k := k) (k2 := k2) (by omega) hkz (by omega) hk2z (by omega)
             exact ⟨H10.ext, congrArg (Value.int .i64) ((if_neg (by omega)).trans (((if_neg (by omega)).trans ((if_pos hF).trans ((if_pos (by omega)).trans tq)))).symm)⟩
            ·refine W_skip (W_reg (sV rfl (py_move rfl) (sV rfl (py_add rfl rfl (in64 ⟨by omega, by omega⟩)) (sV rfl (py_assign rfl) (s_nil (⟨k2 + 1, ⟨rfl, rfl, rfl, trivial⟩, ⟨(H10.ftake 5), by omega, (recsF_next hk2z).trans (by omega)⟩, by dsimp only; omega⟩))))))
           ·refine W_exit (W_reg (sV rfl (py_move rfl) (sV rfl (py_add rfl rfl (in64 ⟨by omega, by omega⟩)) (sV rfl (py_assign rfl) (s_nil ?_)))))
            obtain rfl : k2 = (z.Tapes.getD k default).Recs.length := by omega
            refine ⟨k + 1, ⟨rfl, rfl, trivial⟩, ⟨(eP3.ftake 5), by omega, (tapeF_next hkz).trans hk2z⟩, by dsimp only; omega⟩
          ·refine W_exit (W_seq (W_seq ?_))
           obtain rfl : k = z.Tapes.length := by omega
           have hAll := hkz
           refine W_reg (sV rfl (py_assign rfl) (s_nil (W_block (W_loopS (γ := Nat) H7 [(1, _)] ⟨rfl, trivial⟩ (fun k => [(7, .int .i64 k)]) (fun k => k ≤ 2 ∧ (∀ i, i < k → wipedFull (z.Tapes.getD i default) = false)) (fun k => 2 - k) 0 ⟨rfl, trivial⟩ ⟨by omega, fun i hi => by omega⟩ (fun k w9 H11 ⟨hk, hek⟩ => ?_)))))
           dsimp only [List.cons_append, List.nil_append]
           refine W_seq (W_sr (sV rfl (py_move rfl) (sV rfl (py_lss rfl rfl) (s_nil (W_ifd rfl (fun c7 => ?_) (fun c7 => ?_))))))
           ·refine W_skip (W_seq (W_block (W_seq ?_)))
            obtain ⟨eb6, eo13, es6, ef6, ee6, ec6, eO6, eH6, em6⟩ := elem_st (H11.seen 2 rfl) k (by omega)
            obtain ⟨ea8, ek8, eg8, rfl, eq6, eK6, eo14⟩ := own_Tape eO6
            have eP8 := H11.look1 2 rfl eo14 (fun b hb => eH6 b (by rw [eq6]; simp [hb]))
            have eL8 := own_len_le eo14
            unfold maxLen at eL8
            refine W_reg (sV rfl (py_field Tryz.underlying38 rfl Tryz.sizeOf36 rfl rfl) (sV rfl (py_load Tryz.underlying36 rfl rfl (cell_atL (eP8.box 0 rfl) rfl)) (sV rfl (py_move rfl) (sV rfl (py_elz Tryz.underlying36 Tryz.sizeOf139 rfl rfl ee6 k (by omega) (by omega)) (sV rfl (py_field Tryz.underlying139 rfl Tryz.sizeOf4 rfl rfl) (sV rfl (py_load Tryz.underlying4 rfl rfl (at_cell ec6 0 rfl)) (sV rfl (py_move rfl) (s_case (t := 108) rfl (fun hg7 => ?_) (fun hg7 => ?_)))))))))
            ·try simp only [decide_eq_true_eq, decide_eq_false_iff_not] at hg7
             refine s_val (wg rfl rfl rfl) rfl rfl (py_field Tryz.underlying38 rfl Tryz.sizeOf36 rfl rfl) (s_val (wg rfl rfl rfl) rfl rfl (py_load Tryz.underlying36 rfl rfl (cell_atL (eP8.box 0 rfl) rfl)) (s_val (wg rfl rfl rfl) rfl rfl (py_move rfl) (s_val (wg rfl rfl rfl) rfl rfl (py_elz Tryz.underlying36 Tryz.sizeOf139 rfl rfl ee6 k (by omega) (by omega)) (s_val (wg rfl rfl rfl) rfl rfl (py_field Tryz.underlying139 rfl Tryz.sizeOf30 rfl rfl) (s_val (wg rfl rfl rfl) rfl rfl (py_load Tryz.underlying30 rfl rfl (at_cell ec6 1 rfl)) (s_val (wg rfl rfl rfl) rfl rfl (py_len Tryz.underlying30 rfl) (s_val (wg rfl rfl rfl) rfl rfl (py_gtr rfl rfl) (sV rfl (py_pickT rfl rfl) (s_nil (W_ifd rfl (fun c8 => ?_) (fun c8 => ?_)))))))))))
             ·refine W_sr (sV rfl (py_assign rfl) (s_nil (W_ret (hQ _ _ (fin1 Tryz.results93 rfl ?_)))))
              have tq := tapesF_full hM hAll (any_at k (by omega) (by rw [wipedFull]; simp_all <;> omega))
              exact ⟨eP8.ext, congrArg (Value.int .i64) ((if_neg (by omega)).trans ((if_pos hF).trans ((if_pos (by omega)).trans tq))).symm⟩
             ·refine W_skip (W_reg (sV rfl (py_move rfl) (sV rfl (py_add rfl rfl (in64 ⟨by omega, by omega⟩)) (sV rfl (py_assign rfl) (s_nil (⟨k + 1, ⟨rfl, rfl, trivial⟩, ⟨(eP8.ftake 5), by omega, fun i hi => ?_⟩, by dsimp only; omega⟩))))))
              by_cases e : i = k
              ·subst e; rw [wipedFull]; simp_all <;> omega
              ·exact hek i (by omega)
            ·try simp only [decide_eq_true_eq, decide_eq_false_iff_not] at hg7
             refine s_skip (wog (b := false) rfl rfl rfl) rfl rfl (s_skip (wog (b := false) rfl rfl rfl) rfl rfl (s_skip (wog (b := false) rfl rfl rfl) rfl rfl (s_skip (wog (b := false) rfl rfl rfl) rfl rfl (s_skip (wog (b := false) rfl rfl rfl) rfl rfl (s_skip (wog (b := false) rfl rfl rfl) rfl rfl (s_skip (wog (b := false) rfl rfl rfl) rfl rfl (s_skip (wog (b := false) rfl rfl rfl) rfl rfl (sV rfl (py_pickF rfl rfl) (s_nil (W_iff rfl (W_skip (W_reg (sV rfl (py_move rfl) (sV rfl (py_add rfl rfl (in64 ⟨by omega, by omega⟩)) (sV rfl (py_assign rfl) (s_nil (⟨k + 1, ⟨rfl, rfl, trivial⟩, ⟨(eP8.ftake 5), by omega, fun i hi => ?_⟩, by dsimp only; omega⟩)))))))))))))))))
             by_cases e : i = k
             ·subst e; rw [wipedFull]; simp_all <;> omega
             ·exact hek i (by omega)
           ·refine W_exit (W_seq (W_seq ?_))
            have tq := tapesF_ok hM hAll (any_none (fun i hi => hek i (by omega)))
            refine W_reg (sV rfl (py_field Tryz.underlying38 rfl Tryz.sizeOf2 rfl rfl) (sV rfl (py_load Tryz.underlying2 rfl rfl (cell_atL (H11.box 0 rfl) rfl)) (s_call (wn rfl) rfl rfl (pc_call Tryz.func97 rfl Tryz_nm97 rfl) Tryz_spec_l1In (fun v6 w10 r6 => ?_))))
            obtain ⟨e7, rfl⟩ := r6
            have H12 := H11.to e7
            refine sV rfl (py_not rfl) (sV rfl (py_move rfl) (s_case (t := 122) rfl (fun hg8 => ?_) (fun hg8 => ?_)))
            ·try simp only [decide_eq_true_eq, decide_eq_false_iff_not] at hg8
             refine s_skip (wog (b := true) rfl rfl rfl) rfl rfl (s_skip (wog (b := true) rfl rfl rfl) rfl rfl (s_skip (wog (b := true) rfl rfl rfl) rfl rfl (s_skip (wog (b := true) rfl rfl rfl) rfl rfl (sV rfl (py_pickT rfl rfl) (s_nil (W_ift rfl (W_sr (sV rfl (py_assign rfl) (s_nil (W_ret (hQ _ _ (fin1 Tryz.results93 rfl ?_))))))))))))
             exact ⟨H12.ext, congrArg (Value.int .i64) ((if_neg (by omega)).trans ((if_pos hF).trans ((if_neg (by omega)).trans (if_neg (by simp_all <;> omega))))).symm⟩
            ·try simp only [decide_eq_true_eq, decide_eq_false_iff_not] at hg8
             refine s_val (wg rfl rfl rfl) rfl rfl (py_field Tryz.underlying38 rfl Tryz.sizeOf2 rfl rfl) (s_val (wg rfl rfl rfl) rfl rfl (py_load Tryz.underlying2 rfl rfl (cell_atL (H12.box 0 rfl) rfl)) (s_call (wg rfl rfl rfl) rfl rfl (pc_call Tryz.func97 rfl Tryz_nm97 rfl) Tryz_spec_l1In (fun v7 w11 r7 => ?_)))
             obtain ⟨e8, rfl⟩ := r7
             have H13 := H12.to e8
             refine s_val (wg rfl rfl rfl) rfl rfl (py_not rfl) (sV rfl (py_pickF rfl rfl) (s_nil (W_if rfl (fun c9 => ?_) (fun c9 => ?_))))
             ·refine W_sr (sV rfl (py_assign rfl) (s_nil (W_ret (hQ _ _ (fin1 Tryz.results93 rfl ?_)))))
              exact ⟨H13.ext, congrArg (Value.int .i64) ((if_neg (by omega)).trans ((if_pos hF).trans ((if_neg (by omega)).trans (if_neg (by simp_all <;> omega))))).symm⟩
             ·refine W_skip (W_sr (sV rfl (py_assign rfl) (s_nil (W_ret (hQ _ _ (fin1 Tryz.results93 rfl ?_))))))
              exact ⟨H13.ext, congrArg (Value.int .i64) ((if_neg (by omega)).trans ((if_pos hF).trans ((if_neg (by omega)).trans (if_pos (by simp_all <;> omega))))).symm⟩
     ·try simp only [decide_eq_true_eq, decide_eq_false_iff_not] at hg4
      refine d_skip rfl (wog (b := false) rfl rfl rfl) rfl rfl (d_skip rfl (wog (b := false) rfl rfl rfl) rfl rfl (d_skip rfl (wog (b := false) rfl rfl rfl) rfl rfl (d_skip rfl (wog (b := false) rfl rfl rfl) rfl rfl (d_val rfl (wg rfl rfl rfl) rfl rfl (fun zw hx => py_pickF rfl rfl) (dV rfl rfl (fun zw hx => py_pickF rfl rfl) (dV rfl rfl (fun zw hx => py_move rfl) (d_val rfl (wg rfl rfl rfl) rfl rfl (fun zw hx => py_field Tryz.underlying38 rfl Tryz.sizeOf36 rfl rfl) (d_val rfl (wg rfl rfl rfl) rfl rfl (fun zw hx => py_load Tryz.underlying36 rfl rfl (cell_atL (hx.heap (H3.box 0 rfl)) rfl)) (d_val rfl (wg rfl rfl rfl) rfl rfl (fun zw hx => py_len Tryz.underlying36 rfl) (d_val rfl (wg rfl rfl rfl) rfl rfl (fun zw hx => py_neq rfl rfl) (d_end rfl (wn rfl) rfl rfl (py_pickF rfl rfl) (d_nil (W_ifd rfl (fun c10 => ?_) (fun c10 => ?_))))))))))))))
      ·refine W_sr (sV rfl (py_assign rfl) (s_nil (W_ret (hQ _ _ (fin1 Tryz.results93 rfl ?_)))))
       exact ⟨H6.ext, congrArg (Value.int .i64) ((if_neg (by omega)).trans (if_neg (by rw [← fine_eq]; first | (simp_all <;> omega) | (cases hh : z.On <;> simp_all <;> omega)))).symm⟩
      ·refine W_skip (W_seq (W_seq ?_))
       have hF : (groupsOK z && onOK z && decide (z.Tapes.length = 2)) = true := by rw [← fine_eq]; simp_all <;> omega
       have h2 : z.Tapes.length = 2 := by simp_all <;> omega
       obtain ⟨eb7, eo15, es7, ef7, ee7, ec7, eO7, eH7, em7⟩ := elem_st (H6.seen 2 rfl) 0 (by omega)
       obtain ⟨ea9, ek9, eg9, rfl, eq7, eK7, eo16⟩ := own_Tape eO7
       have eP9 := H6.look1 2 rfl eo16 (fun b hb => eH7 b (by rw [eq7]; simp [hb]))
       have eL9 := own_len_le eo16
       unfold maxLen at eL9
       refine W_reg (sV rfl (py_field Tryz.underlying38 rfl Tryz.sizeOf36 rfl rfl) (sV rfl (py_load Tryz.underlying36 rfl rfl (cell_atL (eP9.box 0 rfl) rfl)) (sV rfl (py_elz Tryz.underlying36 Tryz.sizeOf139 rfl rfl ee7 0 (by omega) (by omega)) (sV rfl (py_field Tryz.underlying139 rfl Tryz.sizeOf30 rfl rfl) (sV rfl (py_load Tryz.underlying30 rfl rfl (at_cell ec7 1 rfl)) (sV rfl (py_len Tryz.underlying30 rfl) (sV rfl (py_gtr rfl rfl) (sV rfl (py_move rfl) (s_case (t := 59) rfl (fun hg9 => ?_) (fun hg9 => ?_))))))))))
       ·try simp only [decide_eq_true_eq, decide_eq_false_iff_not] at hg9
        refine s_skip (wog (b := true) rfl rfl rfl) rfl rfl (s_skip (wog (b := true) rfl rfl rfl) rfl rfl (s_skip (wog (b := true) rfl rfl rfl) rfl rfl (s_skip (wog (b := true) rfl rfl rfl) rfl rfl (s_skip (wog (b := true) rfl rfl rfl) rfl rfl (s_skip (wog (b := true) rfl rfl rfl) rfl rfl (s_skip (wog (b := true) rfl rfl rfl) rfl rfl (sV rfl (py_pickT rfl rfl) (s_nil (W_ift rfl (W_seq ?_))))))))))
        have tq := tapesF_many (z := z) (any_two h2 (by simp only [manyRecs]; simp_all <;> omega))
        refine W_reg (sV rfl (py_assign rfl) (s_nil (W_ret (hQ _ _ (fin1 Tryz.results93 rfl ?_)))))
        exact ⟨eP9.ext, congrArg (Value.int .i64) ((if_neg (by omega)).trans ((if_pos hF).trans ((if_pos (by omega)).trans tq))).symm⟩
       ·try simp only [decide_eq_true_eq, decide_eq_false_iff_not] at hg9
        refine s_val (wg rfl rfl rfl) rfl rfl (py_field Tryz.underlying38 rfl Tryz.sizeOf36 rfl rfl) (s_val (wg rfl rfl rfl) rfl rfl (py_load Tryz.underlying36 rfl rfl (cell_atL (eP9.box 0 rfl) rfl)) ?_)
        obtain ⟨eb8, eo17, es8, ef8, ee8, ec8, eO8, eH8, em8⟩ := elem_st (eP9.seen 2 rfl) 1 (by omega)
        obtain ⟨ea10, ek10, eg10, rfl, eq8, eK8, eo18⟩ := own_Tape eO8
        have eP10 := eP9.look1 2 rfl eo18 (fun b hb => eH8 b (by rw [eq8]; simp [hb]))
        have eL10 := own_len_le eo18
        unfold maxLen at eL10
        refine s_val (wg rfl rfl rfl) rfl rfl (py_elz Tryz.underlying36 Tryz.sizeOf139 rfl rfl ee8 1 (by omega) (by omega)) (s_val (wg rfl rfl rfl) rfl rfl (py_field Tryz.underlying139 rfl Tryz.sizeOf30 rfl rfl) (s_val (wg rfl rfl rfl) rfl rfl (py_load Tryz.underlying30 rfl rfl (at_cell ec8 1 rfl)) (s_val (wg rfl rfl rfl) rfl rfl (py_len Tryz.underlying30 rfl) (s_val (wg rfl rfl rfl) rfl rfl (py_gtr rfl rfl) (sV rfl (py_pickF rfl rfl) (s_nil (W_ifd rfl (fun c11 => ?_) (fun c11 => ?_))))))))
        ·refine W_seq ?_
         have tq := tapesF_many (z := z) (any_two h2 (by simp only [manyRecs]; simp_all <;> omega))
         refine W_reg (sV rfl (py_assign rfl) (s_nil (W_ret (hQ _ _ (fin1 Tryz.results93 rfl ?_)))))
         exact ⟨eP10.ext, congrArg (Value.int .i64) ((if_neg (by omega)).trans ((if_pos hF).trans ((if_pos (by omega)).trans tq))).symm⟩
        ·refine W_skip (W_seq (W_seq ?_))
         have hM : z.Tapes.any manyRecs = false := any_neither h2 (by simp only [manyRecs]; simp_all <;> omega) (by simp only [manyRecs]; simp_all <;> omega)
         refine W_reg (sV rfl (py_assign rfl) (s_nil (W_block (W_loopS (γ := Nat) eP10 [(1, _)] ⟨rfl, trivial⟩ (fun k => [(4, .int .i64 k)]) (fun k => k ≤ z.Tapes.length ∧ tapeF z.Shape z.Tapes k = 0) (fun k => z.Tapes.length - k) 0 ⟨rfl, trivial⟩ ⟨by omega, rfl⟩ (fun k w12 H14 ⟨hk, hkz⟩ => ?_)))))
         dsimp only [List.cons_append, List.nil_append]
         refine W_seq (W_sr (sV rfl (py_move rfl) (sV rfl (py_lss rfl rfl) (s_nil (W_ifd rfl (fun c12 => ?_) (fun c12 => ?_))))))
         ·refine W_skip (W_seq (W_block (W_sr (sV rfl (py_assign rfl) (s_nil (W_block (W_loopS (γ := Nat) H14 [(1, _), (4, _)] ⟨rfl, rfl, trivial⟩ (fun k2 => [(5, .int .i64 k2)]) (fun k2 => k2 ≤ (z.Tapes.getD k default).Recs.length ∧ recsF z.Shape (z.Tapes.getD k default).Recs k2 = 0) (fun k2 => (z.Tapes.getD k default).Recs.length - k2) 0 ⟨rfl, trivial⟩ ⟨by omega, rfl⟩ (fun k2 w13 H15 ⟨hk2, hk2z⟩ => ?_))))))))
          dsimp only [List.cons_append, List.nil_append]
          refine W_seq (W_seq ?_)
          obtain ⟨eb9, eo19, es9, ef9, ee9, ec9, eO9, eH9, em9⟩ := elem_st (H15.seen 2 rfl) k (by omega)
          obtain ⟨ea11, ek11, eg11, rfl, eq9, eK9, eo20⟩ := own_Tape eO9
          have eP11 := H15.look1 2 rfl eo20 (fun b hb => eH9 b (by rw [eq9]; simp [hb]))
          have eL11 := own_len_le eo20
          unfold maxLen at eL11
          refine W_reg (sV rfl (py_move rfl) (sV rfl (py_field Tryz.underlying38 rfl Tryz.sizeOf36 rfl rfl) (sV rfl (py_load Tryz.underlying36 rfl rfl (cell_atL (eP11.box 0 rfl) rfl)) (sV rfl (py_move rfl) (sV rfl (py_elz Tryz.underlying36 Tryz.sizeOf139 rfl rfl ee9 k (by omega) (by omega)) (sV rfl (py_field Tryz.underlying139 rfl Tryz.sizeOf30 rfl rfl) (sV rfl (py_load Tryz.underlying30 rfl rfl (at_cell ec9 1 rfl)) (sV rfl (py_len Tryz.underlying30 rfl) (sV rfl (py_lss rfl rfl) (s_nil (W_ifd rfl (fun c13 => ?_) (fun c13 => ?_))))))))))))
          ·refine W_skip (W_seq (W_block (W_seq ?_)))
           obtain ⟨eb10, eo21, es10, ef10, ee10, ec10, eO10, eH10, em10⟩ := elem_st (eP11.seen 2 rfl) k (by omega)
           obtain ⟨ea12, ek12, eg12, rfl, eq10, eK10, eo22⟩ := own_Tape eO10
           have eP12 := eP11.look1 2 rfl eo22 (fun b hb => eH10 b (by rw [eq10]; simp [hb]))
           have eL12 := own_len_le eo22
           unfold maxLen at eL12
           obtain ⟨eb11, eo23, es11, ef11, ee11, ec11, eO11, eH11, em11⟩ := elem_st (eP12.seen 6 rfl) k2 (by omega)
           obtain ⟨ea13, ek13, ea14, ek14, ea15, ek15, eg13, eg14, eg15, rfl, eq11, eK11, eo24, eo25, eo26⟩ := own_Rec eO11
           have eK11U := eK11
           unfold Rec.Ok at eK11U
           try unfold I64ok at eK11U
           try unfold maxLen at eK11U
           have eP13 := eP12.look1 6 rfl eo24 (fun b hb => eH11 b (by rw [eq11]; simp [hb]))
           have eL13 := own_len_le eo24
           unfold maxLen at eL13
           have eP14 := eP13.look1 6 rfl eo25 (fun b hb => eH11 b (by rw [eq11]; simp [hb]))
           have eL14 := own_len_le eo25
           unfold maxLen at eL14
           have eP15 := eP14.look1 6 rfl eo26 (fun b hb => eH11 b (by rw [eq11]; simp [hb]))
           have eL15 := own_len_le eo26
           unfold maxLen at eL15
           refine W_drw (S := Ext No _) [(0, true), (1, true), (2, true), (3, true), (4, true), (5, true), (6, true), (7, true), (8, true), (9, true), (10, true), (11, false), (12, false)] (by kernel_rfl) (by kernel_rfl) (by kernel_rfl) rfl (fun _ => Ext.refl.drawn _) (fun q3 => ?_)
           have H16 := eP15.drawn q3
           refine dV rfl rfl (fun zw hx => py_field Tryz.underlying38 rfl Tryz.sizeOf34 rfl rfl) (dV rfl rfl (fun zw hx => py_loadS Tryz.underlying34 rfl Tryz.sizeOf34 rfl rfl (At.sub (hx.heap (H16.box 0 rfl)) 9)) (dV rfl rfl (fun zw hx => py_field Tryz.underlying38 rfl Tryz.sizeOf36 rfl rfl) (dV rfl rfl (fun zw hx => py_load Tryz.underlying36 rfl rfl (cell_atL (hx.heap (H16.box 0 rfl)) rfl)) (dV rfl rfl (fun zw hx => py_move rfl) (dV rfl rfl (fun zw hx => py_elz Tryz.underlying36 Tryz.sizeOf139 rfl rfl ee10 k (by omega) (by omega)) (dV rfl rfl (fun zw hx => py_field Tryz.underlying139 rfl Tryz.sizeOf30 rfl rfl) (dV rfl rfl (fun zw hx => py_load Tryz.underlying30 rfl rfl (at_cell (hx.at ec10) 1 rfl)) (dV rfl rfl (fun zw hx => py_move rfl) (dV rfl rfl (fun zw hx => py_elz Tryz.underlying30 Tryz.sizeOf68 rfl rfl ee11 k2 (by omega) (by omega)) (dV rfl rfl (fun zw hx => py_loadS Tryz.underlying68 rfl Tryz.sizeOf68 rfl rfl (hx.at ec11)) (d_call rfl (wn rfl) rfl rfl (pc_call Tryz.func112 rfl Tryz_nm112 rfl) (Tryz_spec_RecFault (by assumption) (H16.sees 7 rfl) (H16.sees 8 rfl) (H16.sees 9 rfl)) (fun hS _ _ r _ => hS.trans r.1.no) (fun v8 w14 r8 => ?_))))))))))))
           obtain ⟨e9, rfl⟩ := r8
           have H17 := H16.to e9
           refine d_end rfl (wn rfl) rfl rfl (py_assign rfl) (d_nil (W_sr (sV rfl (py_move rfl) (sV rfl (py_neq rfl rfl) (s_nil (W_ifd rfl (fun c14 => ?_) (fun c14 => ?_)))))))
           ·refine W_sr (sV rfl (py_move rfl) (sV rfl (py_assign rfl) (s_nil (W_ret (hQ _ _ (fin1 Tryz.results93 rfl ?_))))))
            have tq := tapesF_rec hM (k := k) (k2 := k2) (by omega) hkz (by omega) hk2z (by omega)
            exact ⟨H17.ext, congrArg (Value.int .i64) ((if_neg (by omega)).trans (((if_neg (by omega)).trans ((if_pos hF).trans ((if_pos (by omega)).trans tq)))).symm)⟩
           ·refine W_skip (W_reg (sV rfl (py_move rfl) (sV rfl (py_add rfl rfl (in64 ⟨by omega, by omega⟩)) (sV rfl (py_assign rfl) (s_nil (⟨k2 + 1, ⟨rfl, rfl, rfl, trivial⟩, ⟨(H17.ftake 5), by omega, (recsF_next hk2z).trans (by omega)⟩, by dsimp only; omega⟩))))))
          ·refine W_exit (W_reg (sV rfl (py_move rfl) (sV rfl (py_add rfl rfl (in64 ⟨by omega, by omega⟩)) (sV rfl (py_assign rfl) (s_nil ?_)))))
           obtain rfl : k2 = (z.Tapes.getD k default).Recs.length := by omega
           refine ⟨k + 1, ⟨rfl, rfl, trivial⟩, ⟨(eP11.ftake 5), by omega, (tapeF_next hkz).trans hk2z⟩, by dsimp only; omega⟩
         ·refine W_exit (W_seq (W_seq ?_))
          obtain rfl : k = z.Tapes.length := by omega
          have hAll := hkz
          refine W_reg (sV rfl (py_assign rfl) (s_nil (W_block (W_loopS (γ := Nat) H14 [(1, _)] ⟨rfl, trivial⟩ (fun k => [(7, .int .i64 k)]) (fun k => k ≤ 2 ∧ (∀ i, i < k → wipedFull (z.Tapes.getD i default) = false)) (fun k => 2 - k) 0 ⟨rfl, trivial⟩ ⟨by omega, fun i hi => by omega⟩ (fun k w15 H18 ⟨hk, hek⟩ => ?_)))))
          dsimp only [List.cons_append, List.nil_append]
          refine W_seq (W_sr (sV rfl (py_move rfl) (sV rfl (py_lss rfl rfl) (s_nil (W_ifd rfl (fun c15 => ?_) (fun c15 => ?_))))))
          ·refine W_skip (W_seq (W_block (W_seq ?_)))
           obtain ⟨eb12, eo27, es12, ef12, ee12, ec12, eO12, eH12, em12⟩ := elem_st (H18.seen 2 rfl) k (by omega)
           obtain ⟨ea16, ek16, eg16, rfl, eq12, eK12, eo28⟩ := own_Tape eO12
           have eP16 := H18.look1 2 rfl eo28 (fun b hb => eH12 b (by rw [eq12]; simp [hb]))
           have eL16 := own_len_le eo28
           unfold maxLen at eL16
           refine W_reg (sV rfl (py_field Tryz.underlying38 rfl Tryz.sizeOf36 rfl rfl) (sV rfl (py_load Tryz.underlying36 rfl rfl (cell_atL (eP16.box 0 rfl) rfl)) (sV rfl (py_move rfl) (sV rfl (py_elz Tryz.underlying36 Tryz.sizeOf139 rfl rfl ee12 k (by omega) (by omega)) (sV rfl (py_field Tryz.underlying139 rfl Tryz.sizeOf4 rfl rfl) (sV rfl (py_load Tryz.underlying4 rfl rfl (at_cell ec12 0 rfl)) (sV rfl (py_move rfl) (s_case (t := 108) rfl (fun hg10 => ?_) (fun hg10 => ?_)))))))))
           ·try simp only [decide_eq_true_eq, decide_eq_false_iff_not] at hg10
            refine s_val (wg rfl rfl rfl) rfl rfl (py_field Tryz.underlying38 rfl Tryz.sizeOf36 rfl rfl) (s_val (wg rfl rfl rfl) rfl rfl (py_load Tryz.underlying36 rfl rfl (cell_atL (eP16.box 0 rfl) rfl)) (s_val (wg rfl rfl rfl) rfl rfl (py_move rfl) (s_val (wg rfl rfl rfl) rfl rfl (py_elz Tryz.underlying36 Tryz.sizeOf139 rfl rfl ee12 k (by omega) (by omega)) (s_val (wg rfl rfl rfl) rfl rfl (py_field Tryz.underlying139 rfl Tryz.sizeOf30 rfl rfl) (s_val (wg rfl rfl rfl) rfl rfl (py_load Tryz.underlying30 rfl rfl (at_cell ec12 1 rfl)) (s_val (wg rfl rfl rfl) rfl rfl (py_len Tryz.underlying30 rfl) (s_val (wg rfl rfl rfl) rfl rfl (py_gtr rfl rfl) (sV rfl (py_pickT rfl rfl) (s_nil (W_ifd rfl (fun c16 => ?_) (fun c16 => ?_)))))))))))
            ·refine W_sr (sV rfl (py_assign rfl) (s_nil (W_ret (hQ _ _ (fin1 Tryz.results93 rfl ?_)))))
             have tq := tapesF_full hM hAll (any_at k (by omega) (by rw [wipedFull]; simp_all <;> omega))
             exact ⟨eP16.ext, congrArg (Value.int .i64) ((if_neg (by omega)).trans ((if_pos hF).trans ((if_pos (by omega)).trans tq))).symm⟩
            ·refine W_skip (W_reg (sV rfl (py_move rfl) (sV rfl (py_add rfl rfl (in64 ⟨by omega, by omega⟩)) (sV rfl (py_assign rfl) (s_nil (⟨k + 1, ⟨rfl, rfl, trivial⟩, ⟨(eP16.ftake 5), by omega, fun i hi => ?_⟩, by dsimp only; omega⟩))))))
             by_cases e : i = k
             ·subst e; rw [wipedFull]; simp_all <;> omega
             ·exact hek i (by omega)
           ·try simp only [decide_eq_true_eq, decide_eq_false_iff_not] at hg10
            refine s_skip (wog (b := false) rfl rfl rfl) rfl rfl (s_skip (wog (b := false) rfl rfl rfl) rfl rfl (s_skip (wog (b := false) rfl rfl rfl) rfl rfl (s_skip (wog (b := false) rfl rfl rfl) rfl rfl (s_skip (wog (b := false) rfl rfl rfl) rfl rfl (s_skip (wog (b := false) rfl rfl rfl) rfl rfl (s_skip (wog (b := false) rfl rfl rfl) rfl rfl (s_skip (wog (b := false) rfl rfl rfl) rfl rfl (sV rfl (py_pickF rfl rfl) (s_nil (W_iff rfl (W_skip (W_reg (sV rfl (py_move rfl) (sV rfl (py_add rfl rfl (in64 ⟨by omega, by omega⟩)) (sV rfl (py_assign rfl) (s_nil (⟨k + 1, ⟨rfl, rfl, trivial⟩, ⟨(eP16.ftake 5), by omega, fun i hi => ?_⟩, by dsimp only; omega⟩)))))))))))))))))
            by_cases e : i = k
            ·subst e; rw [wipedFull]; simp_all <;> omega
            ·exact hek i (by omega)
          ·refine W_exit (W_seq (W_seq ?_))
           have tq := tapesF_ok hM hAll (any_none (fun i hi => hek i (by omega)))
           refine W_reg (sV rfl (py_field Tryz.underlying38 rfl Tryz.sizeOf2 rfl rfl) (sV rfl (py_load Tryz.underlying2 rfl rfl (cell_atL (H18.box 0 rfl) rfl)) (s_call (wn rfl) rfl rfl (pc_call Tryz.func97 rfl Tryz_nm97 rfl) Tryz_spec_l1In (fun v9 w16 r9 => ?_))))
           obtain ⟨e10, rfl⟩ := r9
           have H19 := H18.to e10
           refine sV rfl (py_not rfl) (sV rfl (py_move rfl) (s_case (t := 122) rfl (fun hg11 => ?_) (fun hg11 => ?_)))
           ·try simp only [decide_eq_true_eq, decide_eq_false_iff_not] at hg11
            refine s_skip (wog (b := true) rfl rfl rfl) rfl rfl (s_skip (wog (b := true) rfl rfl rfl) rfl rfl (s_skip (wog (b := true) rfl rfl rfl) rfl rfl (s_skip (wog (b := true) rfl rfl rfl) rfl rfl (sV rfl (py_pickT rfl rfl) (s_nil (W_ift rfl (W_sr (sV rfl (py_assign rfl) (s_nil (W_ret (hQ _ _ (fin1 Tryz.results93 rfl ?_))))))))))))
            exact ⟨H19.ext, congrArg (Value.int .i64) ((if_neg (by omega)).trans ((if_pos hF).trans ((if_neg (by omega)).trans (if_neg (by simp_all <;> omega))))).symm⟩
           ·try simp only [decide_eq_true_eq, decide_eq_false_iff_not] at hg11
            refine s_val (wg rfl rfl rfl) rfl rfl (py_field Tryz.underlying38 rfl Tryz.sizeOf2 rfl rfl) (s_val (wg rfl rfl rfl) rfl rfl (py_load Tryz.underlying2 rfl rfl (cell_atL (H19.box 0 rfl) rfl)) (s_call (wg rfl rfl rfl) rfl rfl (pc_call Tryz.func97 rfl Tryz_nm97 rfl) Tryz_spec_l1In (fun v10 w17 r10 => ?_)))
            obtain ⟨e11, rfl⟩ := r10
            have H20 := H19.to e11
            refine s_val (wg rfl rfl rfl) rfl rfl (py_not rfl) (sV rfl (py_pickF rfl rfl) (s_nil (W_if rfl (fun c17 => ?_) (fun c17 => ?_))))
            ·refine W_sr (sV rfl (py_assign rfl) (s_nil (W_ret (hQ _ _ (fin1 Tryz.results93 rfl ?_)))))
             exact ⟨H20.ext, congrArg (Value.int .i64) ((if_neg (by omega)).trans ((if_pos hF).trans ((if_neg (by omega)).trans (if_neg (by simp_all <;> omega))))).symm⟩
            ·refine W_skip (W_sr (sV rfl (py_assign rfl) (s_nil (W_ret (hQ _ _ (fin1 Tryz.results93 rfl ?_))))))
             exact ⟨H20.ext, congrArg (Value.int .i64) ((if_neg (by omega)).trans ((if_pos hF).trans ((if_neg (by omega)).trans (if_pos (by simp_all <;> omega))))).symm⟩
end Go.Wk
namespace Go.Wk
open Go.Proofs Rp
set_option maxRecDepth 10000
theorem Tryz_impl_World_wiped {w : World} {zb : Nat} {z : Wld} {zA9 : Option Addr} {zC9 : Nat} {zA10 : Option Addr} {zC10 : Nat} {zA11 : Option Addr} {zC11 : Nat} {g : Int} (zB : w.heap[zb]? = some (.cells [.int .i64 z.Shape.Groups, .int .i64 z.Shape.Column, .int .i64 z.Shape.Data, .int .i64 z.Shape.Spare, .int .i64 z.Shape.Rows, .int .i64 z.Shape.Cap, .int .i64 z.Shape.Batch, .int .i64 z.Shape.Queue, .int .i64 z.Shape.Stage, .slice zA9 z.Groups.length zC9, .slice zA10 z.On.length zC10, .slice zA11 z.Tapes.length zC11, .int .i64 z.Writes, .int .i64 z.Stop, .bool z.Down].toArray 38)) (zK : z.Ok) (zS9 : Sees w [.slice zA9 z.Groups.length zC9] z.Groups) (zS10 : Sees w [.slice zA10 z.On.length zC10] z.On) (zS11 : Sees w [.slice zA11 z.Tapes.length zC11] z.Tapes) (hs : z.Shape.ok = true) (hG : groupsOK z = true) (hg : ins g 0 (z.Shape.Groups + z.Shape.Column - 1) = true) : Ret Tryz.prog 174 #[.pointer (some ⟨zb, 0, none⟩), .int .i64 g] w fun v w' => Ext No w w' ∧ (Res w w' [v] (wipedL z g)) := by
 have zK2 := zK
 unfold Wld.Ok Shape.Ok at zK2
 try unfold I64ok at zK2
 try unfold maxLen at zK2
 have zL9 := sees_len zS9
 unfold maxLen at zL9
 obtain ⟨zF9, zO9⟩ := zS9
 have zL10 := sees_len zS10
 unfold maxLen at zL10
 obtain ⟨zF10, zO10⟩ := zS10
 have zL11 := sees_len zS11
 unfold maxLen at zL11
 obtain ⟨zF11, zO11⟩ := zS11
 have sbd := shape_bd hs
 have hgg := groups_get hG
 have hgl := hgg.1
 have hgi := ins_iff.1 hg
 obtain ⟨hdl, hdd⟩ := hgg.2 g.toNat (by omega)
 refine ret_Q (vs := [.pointer (some ⟨zb, 0, none⟩), .int .i64 g]) Tryz.func174 rfl Tryz.ntmps174 rfl (fun Q hQ hN => ?_)
 have H0 := Sep.start (w := w) (F := [box zb (.cells [.int .i64 z.Shape.Groups, .int .i64 z.Shape.Column, .int .i64 z.Shape.Data, .int .i64 z.Shape.Spare, .int .i64 z.Shape.Rows, .int .i64 z.Shape.Cap, .int .i64 z.Shape.Batch, .int .i64 z.Shape.Queue, .int .i64 z.Shape.Stage, .slice zA9 z.Groups.length zC9, .slice zA10 z.On.length zC10, .slice zA11 z.Tapes.length zC11, .int .i64 z.Writes, .int .i64 z.Stop, .bool z.Down].toArray 38), seen false [.slice zA9 z.Groups.length zC9] z.Groups zF9, seen false [.slice zA10 z.On.length zC10] z.On zF10, seen false [.slice zA11 z.Tapes.length zC11] z.Tapes zF11]) (all_cons (by exact zB) (all_cons zO9 (all_cons zO10 (all_cons zO11 (by simp)))))
 refine W_sr (sV rfl (py_assign rfl) (s_nil (W_sr (s_lit0 (α := Int) (wn rfl) rfl Tryz.underlying25 Tryz_ty2 H0 (fun b1 w1 e1 g1 H1 => ?_)))))
 refine sV rfl (py_assign rfl) (s_nil (W_seq (W_seq ?_)))
 obtain ⟨eb1, eo1, ea1, ek1, ef1, ee1, ec1, eO1, eH1⟩ := elem_sl (H1.seen 1 rfl) g.toNat (by omega)
 have eP1 := H1.look1 1 rfl eO1 eH1
 refine W_reg (sV rfl (py_move rfl) (sV rfl (py_nil rfl) (sV rfl (py_field Tryz.underlying38 rfl Tryz.sizeOf35 rfl rfl) (sV rfl (py_load Tryz.underlying35 rfl rfl (cell_atL (eP1.fbox 0 rfl) rfl)) (sV rfl (py_move rfl) (sV rfl (py_elz Tryz.underlying35 Tryz.sizeOf142 rfl rfl ee1 g.toNat (by omega) (by omega)) (sV rfl (py_load Tryz.underlying142 rfl rfl ec1) (sV rfl (py_len Tryz.underlying142 rfl) (sV rfl (py_move rfl) (s_nil (W_block (W_loopA (α := Int) (γ := Nat) (fun k => wipedTo (z.Groups.getD g.toNat []) k) 0 eP1 0 rfl 5 rfl [(4, _), (15, _), (16, _)] ⟨rfl, rfl, rfl, trivial⟩ (fun k => [(17, .int .i64 k)]) (fun k => k ≤ (z.Groups.getD g.toNat []).length ∧ True) (fun k => (z.Groups.getD g.toNat []).length - k) ⟨rfl, trivial⟩ ⟨by omega, trivial⟩ (fun k vA1 fA1 w2 H2 ⟨hk, _⟩ => ?_)))))))))))))
 dsimp only [List.cons_append, List.nil_append, List.set_cons_zero, List.set_cons_succ] at H2 ⊢
 refine W_sr (sV rfl (py_lss rfl rfl) (s_nil (W_seq (W_ifd rfl (fun c1 => ?_) (fun c1 => ?_)))))
 ·refine W_skip (W_seq (W_block (W_seq ?_)))
  obtain ⟨eb2, eo2, es1, ef2, ee2, ec2, eO2, eH2, em1⟩ := elem_st (H2.seen 4 rfl) k (by omega)
  obtain ⟨ea2, ek2, eg1, rfl, eq1, eK1, eo3⟩ := own_Drive eO2
  have eP2 := H2.look1 4 rfl eo3 (fun b hb => eH2 b (by rw [eq1]; simp [hb]))
  have eL1 := own_len_le eo3
  unfold maxLen at eL1
  refine W_reg (sV rfl (py_move rfl) (sV rfl (py_elz Tryz.underlying142 Tryz.sizeOf180 rfl rfl ee2 k (by omega) (by omega)) (sV rfl (py_loadS Tryz.underlying180 rfl Tryz.sizeOf180 rfl rfl ec2) (s_var (wn rfl) rfl Tryz.zeroValue180 eP2 (fun b2 w3 e2 g2 H3 => ?_)))))
  refine sV rfl (py_assign rfl) (s_stoS (wn rfl) Tryz.sizeOf180 rfl rfl rfl rfl H3 1 rfl rfl (fun w4 e3 H4 => ?_))
  dsimp only [List.nil_append, List.cons_append, List.set_cons_zero, List.set_cons_succ, layL] at H4
  refine s_nil (W_sr (sV rfl (py_field Tryz.underlying180 rfl Tryz.sizeOf4 rfl rfl) (sV rfl (py_load Tryz.underlying4 rfl rfl (cell_atL (H4.box 1 rfl) rfl)) (s_nil (W_if rfl (fun c2 => ?_) (fun c2 => ?_))))))
  ·have wl := wiped_len (G := (z.Groups.getD g.toNat [])) (k := k)
   refine W_reg (sV rfl (py_move rfl) (sV rfl (py_move rfl) (s_lit1 (wn rfl) rfl Tryz.underlying25 Tryz_ty2 rfl rfl rfl rfl H4 (fun b3 w5 e4 g3 H5 => ?_))))
   refine s_app1 (wn rfl) rfl Tryz.underlying25 Tryz_ty2 rfl rfl rfl H5 0 2 rfl rfl (own_bi (by first | assumption | (unfold I64ok; omega))) (by unfold maxLen; omega) (by omega) (fun v1 w6 fp1 H6 => ?_)
   refine sV rfl (py_assign rfl) (s_nil (W_reg (sV rfl (py_add rfl rfl (in64 ⟨by omega, by omega⟩)) (sV rfl (py_move rfl) (s_nil ?_)))))
   rw [← wiped_yes c2] at H6
   exact ⟨(k + 1, _, _), ⟨rfl, rfl, rfl, rfl, rfl, trivial⟩, ⟨((H6.ftake 5).dtake 1), by omega, trivial⟩, by dsimp only; omega⟩
  ·refine W_skip (W_reg (sV rfl (py_add rfl rfl (in64 ⟨by omega, by omega⟩)) (sV rfl (py_move rfl) (s_nil ?_))))
   rw [← wiped_no c2] at H4
   exact ⟨(k + 1, _, _), ⟨rfl, rfl, rfl, rfl, rfl, trivial⟩, ⟨((H4.ftake 5).dtake 1), by omega, trivial⟩, by dsimp only; omega⟩
 ·refine W_exit (W_sr (sV rfl (py_move rfl) (sV rfl (py_assign rfl) (s_nil (W_ret (hQ _ _ (fin1 Tryz.results174 rfl ?_)))))))
  obtain rfl : k = (z.Groups.getD g.toNat []).length := by omega
  exact ⟨H2.ext, H2.out 0 rfl⟩
theorem Tryz_impl_World_dead {w : World} {zb : Nat} {z : Wld} {zA9 : Option Addr} {zC9 : Nat} {zA10 : Option Addr} {zC10 : Nat} {zA11 : Option Addr} {zC11 : Nat} {g : Int} (zB : w.heap[zb]? = some (.cells [.int .i64 z.Shape.Groups, .int .i64 z.Shape.Column, .int .i64 z.Shape.Data, .int .i64 z.Shape.Spare, .int .i64 z.Shape.Rows, .int .i64 z.Shape.Cap, .int .i64 z.Shape.Batch, .int .i64 z.Shape.Queue, .int .i64 z.Shape.Stage, .slice zA9 z.Groups.length zC9, .slice zA10 z.On.length zC10, .slice zA11 z.Tapes.length zC11, .int .i64 z.Writes, .int .i64 z.Stop, .bool z.Down].toArray 38)) (zK : z.Ok) (zS9 : Sees w [.slice zA9 z.Groups.length zC9] z.Groups) (zS10 : Sees w [.slice zA10 z.On.length zC10] z.On) (zS11 : Sees w [.slice zA11 z.Tapes.length zC11] z.Tapes) (hs : z.Shape.ok = true) (hG : groupsOK z = true) (hg : ins g 0 (z.Shape.Groups + z.Shape.Column - 1) = true) : Ret Tryz.prog 101 #[.pointer (some ⟨zb, 0, none⟩), .int .i64 g] w fun v w' => Ext No w w' ∧ (v = .bool (deadF z g)) := by
 have zK2 := zK
 unfold Wld.Ok Shape.Ok at zK2
 try unfold I64ok at zK2
 try unfold maxLen at zK2
 have zL9 := sees_len zS9
 unfold maxLen at zL9
 obtain ⟨zF9, zO9⟩ := zS9
 have zL10 := sees_len zS10
 unfold maxLen at zL10
 obtain ⟨zF10, zO10⟩ := zS10
 have zL11 := sees_len zS11
 unfold maxLen at zL11
 obtain ⟨zF11, zO11⟩ := zS11
 have sbd := shape_bd hs
 refine ret_Q (vs := [.pointer (some ⟨zb, 0, none⟩), .int .i64 g]) Tryz.func101 rfl Tryz.ntmps101 rfl (fun Q hQ hN => ?_)
 have H0 := Sep.start (w := w) (F := [box zb (.cells [.int .i64 z.Shape.Groups, .int .i64 z.Shape.Column, .int .i64 z.Shape.Data, .int .i64 z.Shape.Spare, .int .i64 z.Shape.Rows, .int .i64 z.Shape.Cap, .int .i64 z.Shape.Batch, .int .i64 z.Shape.Queue, .int .i64 z.Shape.Stage, .slice zA9 z.Groups.length zC9, .slice zA10 z.On.length zC10, .slice zA11 z.Tapes.length zC11, .int .i64 z.Writes, .int .i64 z.Stop, .bool z.Down].toArray 38), seen false [.slice zA9 z.Groups.length zC9] z.Groups zF9, seen false [.slice zA10 z.On.length zC10] z.On zF10, seen false [.slice zA11 z.Tapes.length zC11] z.Tapes zF11]) (all_cons (by exact zB) (all_cons zO9 (all_cons zO10 (all_cons zO11 (by simp)))))
 refine W_sr (sV rfl (py_assign rfl) (s_nil (W_seq (W_drw (S := Ext No _) [(0, true), (1, true), (4, true), (5, true), (6, true), (7, true), (8, true), (2, false), (3, false), (9, true), (10, false)] (by kernel_rfl) (by kernel_rfl) (by kernel_rfl) rfl (fun _ => Ext.refl.drawn _) (fun q1 => ?_)))))
 have H1 := H0.drawn q1
 refine dV rfl rfl (fun zw hx => py_move rfl) (dV rfl rfl (fun zw hx => py_move rfl) (dV rfl rfl (fun zw hx => py_move rfl) (dV rfl rfl (fun zw hx => py_nil rfl) (dV rfl rfl (fun zw hx => py_field Tryz.underlying38 rfl Tryz.sizeOf34 rfl rfl) (dV rfl rfl (fun zw hx => py_field Tryz.underlying34 rfl Tryz.sizeOf2 rfl rfl) (dV rfl rfl (fun zw hx => py_load Tryz.underlying2 rfl rfl (cell_atL (hx.heap (H1.fbox 0 rfl)) rfl)) (d_call rfl (wn rfl) rfl rfl (pc_call Tryz.func174 rfl Tryz_nm174 rfl) (Tryz_impl_World_wiped (H1.fbox 0 rfl) (by assumption) (H1.sees 1 rfl) (H1.sees 2 rfl) (H1.sees 3 rfl) (by assumption) (by assumption) (by assumption)) (fun hS _ _ r _ => hS.trans r.1.no) (fun v1 w1 r1 => ?_))))))))
 obtain ⟨e1, r1⟩ := r1
 obtain ⟨fp1, H2⟩ := H1.res e1 r1
 obtain ⟨a1, k1, q2⟩ := own_slice (H2.mine 0 rfl)
 cases q2
 refine d_call rfl (wn rfl) rfl rfl (pc_call Tryz.func173 rfl Tryz_nm173 rfl) (Tryz_size_int64 (H2.msees 0 rfl)) (fun hS _ _ r _ => hS.trans r.1.no) (fun v2 w2 r2 => ?_)
 obtain ⟨e2, rfl⟩ := r2
 have H3 := H2.to e2
 refine dV rfl rfl (fun zw hx => py_gtr rfl rfl) (d_end rfl (wn rfl) rfl rfl (py_assign rfl) (d_nil (W_ret (hQ _ _ (fin1 Tryz.results101 rfl ?_)))))
 exact ⟨H3.ext, rfl⟩
theorem Tryz_spec_l7Dead {w : World} {zb : Nat} {z : Wld} {zA9 : Option Addr} {zC9 : Nat} {zA10 : Option Addr} {zC10 : Nat} {zA11 : Option Addr} {zC11 : Nat} {g : Int} (zB : w.heap[zb]? = some (.cells [.int .i64 z.Shape.Groups, .int .i64 z.Shape.Column, .int .i64 z.Shape.Data, .int .i64 z.Shape.Spare, .int .i64 z.Shape.Rows, .int .i64 z.Shape.Cap, .int .i64 z.Shape.Batch, .int .i64 z.Shape.Queue, .int .i64 z.Shape.Stage, .slice zA9 z.Groups.length zC9, .slice zA10 z.On.length zC10, .slice zA11 z.Tapes.length zC11, .int .i64 z.Writes, .int .i64 z.Stop, .bool z.Down].toArray 38)) (zK : z.Ok) (zS9 : Sees w [.slice zA9 z.Groups.length zC9] z.Groups) (zS10 : Sees w [.slice zA10 z.On.length zC10] z.On) (zS11 : Sees w [.slice zA11 z.Tapes.length zC11] z.Tapes) (hs : z.Shape.ok = true) (hG : groupsOK z = true) (hg : ins g 0 (z.Shape.Groups + z.Shape.Column - 1) = true) : Ret Tryz.prog 158 #[.pointer (some ⟨zb, 0, none⟩), .int .i64 g] w fun v w' => Ext No w w' ∧ (v = .bool (deadF z g)) := by
 have zK2 := zK
 unfold Wld.Ok Shape.Ok at zK2
 try unfold I64ok at zK2
 try unfold maxLen at zK2
 have zL9 := sees_len zS9
 unfold maxLen at zL9
 obtain ⟨zF9, zO9⟩ := zS9
 have zL10 := sees_len zS10
 unfold maxLen at zL10
 obtain ⟨zF10, zO10⟩ := zS10
 have zL11 := sees_len zS11
 unfold maxLen at zL11
 obtain ⟨zF11, zO11⟩ := zS11
 have sbd := shape_bd hs
 have hgg := groups_get hG
 have hgl := hgg.1
 have hgi := ins_iff.1 hg
 obtain ⟨hdl, hdd⟩ := hgg.2 g.toNat (by omega)
 refine ret_Q (vs := [.pointer (some ⟨zb, 0, none⟩), .int .i64 g]) Tryz.func158 rfl Tryz.ntmps158 rfl (fun Q hQ hN => ?_)
 have H0 := Sep.start (w := w) (F := [box zb (.cells [.int .i64 z.Shape.Groups, .int .i64 z.Shape.Column, .int .i64 z.Shape.Data, .int .i64 z.Shape.Spare, .int .i64 z.Shape.Rows, .int .i64 z.Shape.Cap, .int .i64 z.Shape.Batch, .int .i64 z.Shape.Queue, .int .i64 z.Shape.Stage, .slice zA9 z.Groups.length zC9, .slice zA10 z.On.length zC10, .slice zA11 z.Tapes.length zC11, .int .i64 z.Writes, .int .i64 z.Stop, .bool z.Down].toArray 38), seen false [.slice zA9 z.Groups.length zC9] z.Groups zF9, seen false [.slice zA10 z.On.length zC10] z.On zF10, seen false [.slice zA11 z.Tapes.length zC11] z.Tapes zF11]) (all_cons (by exact zB) (all_cons zO9 (all_cons zO10 (all_cons zO11 (by simp)))))
 refine W_sr (sV rfl (py_assign rfl) (s_nil (W_sr (sV rfl (py_assign rfl) (s_nil (W_seq (W_sr (sV rfl (py_assign rfl) (s_nil (W_block (W_loopS (γ := Nat) H0 [(0, _), (1, _), (4, _)] ⟨rfl, rfl, rfl, trivial⟩ (fun k => [(5, .int .i64 ((wipedTo (z.Groups.getD g.toNat []) k).length : Nat)), (6, .int .i64 k)]) (fun k => k ≤ (z.Groups.getD g.toNat []).length ∧ True) (fun k => (z.Groups.getD g.toNat []).length - k) 0 ⟨rfl, rfl, trivial⟩ ⟨by omega, trivial⟩ (fun k w1 H1 ⟨hk, _⟩ => ?_))))))))))))
 dsimp only [List.cons_append, List.nil_append]
 refine W_seq (W_seq ?_)
 obtain ⟨eb1, eo1, ea1, ek1, ef1, ee1, ec1, eO1, eH1⟩ := elem_sl (H1.seen 1 rfl) g.toNat (by omega)
 have eP1 := H1.look1 1 rfl eO1 eH1
 refine W_reg (sV rfl (py_move rfl) (sV rfl (py_move rfl) (sV rfl (py_nil rfl) (sV rfl (py_field Tryz.underlying38 rfl Tryz.sizeOf35 rfl rfl) (sV rfl (py_load Tryz.underlying35 rfl rfl (cell_atL (eP1.fbox 0 rfl) rfl)) (sV rfl (py_move rfl) (sV rfl (py_elz Tryz.underlying35 Tryz.sizeOf142 rfl rfl ee1 g.toNat (by omega) (by omega)) (sV rfl (py_load Tryz.underlying142 rfl rfl ec1) (sV rfl (py_len Tryz.underlying142 rfl) (sV rfl (py_lss rfl rfl) (s_nil (W_ifd rfl (fun c1 => ?_) (fun c1 => ?_)))))))))))))
 ·refine W_skip (W_seq (W_block (W_seq ?_)))
  obtain ⟨eb2, eo2, ea2, ek2, ef2, ee2, ec2, eO2, eH2⟩ := elem_sl (eP1.seen 1 rfl) g.toNat (by omega)
  have eP2 := eP1.look1 1 rfl eO2 eH2
  obtain ⟨eb3, eo3, es1, ef3, ee3, ec3, eO3, eH3, em1⟩ := elem_st (eP2.seen 5 rfl) k (by omega)
  obtain ⟨ea3, ek3, eg1, rfl, eq1, eK1, eo4⟩ := own_Drive eO3
  have eP3 := eP2.look1 5 rfl eo4 (fun b hb => eH3 b (by rw [eq1]; simp [hb]))
  have eL1 := own_len_le eo4
  unfold maxLen at eL1
  refine W_reg (sV rfl (py_move rfl) (sV rfl (py_nil rfl) (sV rfl (py_field Tryz.underlying38 rfl Tryz.sizeOf35 rfl rfl) (sV rfl (py_load Tryz.underlying35 rfl rfl (cell_atL (eP3.fbox 0 rfl) rfl)) (sV rfl (py_move rfl) (sV rfl (py_elz Tryz.underlying35 Tryz.sizeOf142 rfl rfl ee2 g.toNat (by omega) (by omega)) (sV rfl (py_load Tryz.underlying142 rfl rfl ec2) (sV rfl (py_move rfl) (sV rfl (py_elz Tryz.underlying142 Tryz.sizeOf180 rfl rfl ee3 k (by omega) (by omega)) (sV rfl (py_field Tryz.underlying180 rfl Tryz.sizeOf4 rfl rfl) (sV rfl (py_load Tryz.underlying4 rfl rfl (at_cell ec3 0 rfl)) (s_nil (W_if rfl (fun c2 => ?_) (fun c2 => ?_))))))))))))))
  ·have wl := wiped_len (G := (z.Groups.getD g.toNat [])) (k := k)
   refine W_reg (sV rfl (py_move rfl) (sV rfl (py_add rfl rfl (in64 ⟨by omega, by omega⟩)) (sV rfl (py_assign rfl) (s_nil (W_reg (sV rfl (py_move rfl) (sV rfl (py_add rfl rfl (in64 ⟨by omega, by omega⟩)) (sV rfl (py_assign rfl) (s_nil ?_)))))))))
   have wq := wiped_yes c2
   exact ⟨k + 1, ⟨eqI (by rw [wq]; simp), rfl, rfl, rfl, rfl, trivial⟩, ⟨(eP3.ftake 4), by omega, trivial⟩, by dsimp only; omega⟩
  ·refine W_skip (W_reg (sV rfl (py_move rfl) (sV rfl (py_add rfl rfl (in64 ⟨by omega, by omega⟩)) (sV rfl (py_assign rfl) (s_nil ?_)))))
   have wq := wiped_no c2
   exact ⟨k + 1, ⟨eqI (by rw [wq]), rfl, rfl, rfl, rfl, trivial⟩, ⟨(eP3.ftake 4), by omega, trivial⟩, by dsimp only; omega⟩
 ·refine W_exit (W_sr (sV rfl (py_move rfl) (sV rfl (py_move rfl) (sV rfl (py_nil rfl) (sV rfl (py_field Tryz.underlying38 rfl Tryz.sizeOf34 rfl rfl) (sV rfl (py_field Tryz.underlying34 rfl Tryz.sizeOf2 rfl rfl) (sV rfl (py_load Tryz.underlying2 rfl rfl (cell_atL (eP1.fbox 0 rfl) rfl)) (sV rfl (py_gtr rfl rfl) (sV rfl (py_assign rfl) (s_nil (W_ret (hQ _ _ (fin1 Tryz.results158 rfl ?_)))))))))))))
  obtain rfl : k = (z.Groups.getD g.toNat []).length := by omega
  exact ⟨eP1.ext, rfl⟩
end Go.Wk
