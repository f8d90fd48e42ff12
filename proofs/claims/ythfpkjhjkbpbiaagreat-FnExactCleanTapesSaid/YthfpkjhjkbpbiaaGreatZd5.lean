/-
  Laws on walking, and the functions walked, each once: what this claim comes to.
-/
import Derived.Test.YthfpkjhjkbpbiaaGreatZd4
set_option linter.unusedVariables false
set_option linter.unusedSimpArgs false
namespace Go.Wk
open Go.Proofs Rp
set_option maxRecDepth 10000
theorem Tryz_impl_isDone_1 {w : World} {x : Rec} {xA6 xA7 xA8 : Option Addr} {xC6 xC7 xC8 qb gb : Nat} {q g : Int} (xK : x.Ok) (xS6 : Sees w [.slice xA6 x.Rows.length xC6] x.Rows) (xS7 : Sees w [.slice xA7 x.Data.length xC7] x.Data) (xS8 : Sees w [.slice xA8 x.Delta.length xC8] x.Delta) (qB : w.heap[qb]? = some (.cells [.int .i64 q].toArray 2)) (gB : w.heap[gb]? = some (.cells [.int .i64 g].toArray 2)) : Ret Tryz.prog 339 #[x.val xA6 xC6 xA7 xC7 xA8 xC8, .pointer (some ⟨qb, 0, none⟩), .pointer (some ⟨gb, 0, none⟩)] w fun v w' => Ext No w w' ∧ (v = .bool (dnP q g x)) := by
 have xK2 := xK
 unfold Rec.Ok at xK2
 try unfold I64ok at xK2
 try unfold maxLen at xK2
 have xN2 : x.Name.size ≤ maxLen := by unfold maxLen; omega
 have xL6 := sL xS6
 obtain ⟨xF6, xO6⟩ := xS6
 have xL7 := sL xS7
 obtain ⟨xF7, xO7⟩ := xS7
 have xL8 := sL xS8
 obtain ⟨xF8, xO8⟩ := xS8
 refine ret_Q (vs := [x.val xA6 xC6 xA7 xC7 xA8 xC8, .pointer (some ⟨qb, 0, none⟩), .pointer (some ⟨gb, 0, none⟩)]) Tryz.func339 rfl Tryz.ntmps339 rfl (fun Q hQ hN => ?_)
 have H0 := Sep.start (w := w) (F := [seen false [.slice xA6 x.Rows.length xC6] x.Rows xF6, seen false [.slice xA7 x.Data.length xC7] x.Data xF7, seen false [.slice xA8 x.Delta.length xC8] x.Delta xF8, box qb (.cells [.int .i64 q].toArray 2), box gb (.cells [.int .i64 g].toArray 2)]) (all_cons xO6 (all_cons xO7 (all_cons xO8 (all_cons (by exact qB) (all_cons (by exact gB) (by simp))))))
 refine W_sr (s_box (wn rfl) rfl rfl H0 (fun b1 w1 e1 g1 H1 => ?_))
 refine sA rfl rfl (s_nil (W_sr (sV rfl (py_field tu68 rfl ts2 rfl rfl) (sV rfl (py_load tu2 rfl rfl (cell_atL (H1.box 0 rfl) rfl)) (sV rfl (py_eql rfl rfl) (sM rfl rfl (s_grp 4 (j := 3) (want := true) (t := 12) rfl rfl rfl rfl (fun hg1 kk1 => s_val (wgE rfl rfl rfl hg1) rfl rfl (py_field tu68 rfl ts2 rfl rfl) (s_val (wgE rfl rfl rfl hg1) rfl rfl (py_load tu2 rfl rfl (cell_atL (H1.box 0 rfl) rfl)) (s_val (wgE rfl rfl rfl hg1) rfl rfl (py_load tu2 rfl rfl (cell_atL (H1.fbox 3 rfl) rfl)) (s_val (wgE rfl rfl rfl hg1) rfl rfl (py_eql rfl rfl) (kk1 _ _ (kx rfl (kx rfl (kx rfl (kx rfl k0)))) rfl Ext.refl))))) (fun w2 e2 => ?_))))))))
 have H2 := H1.to e2
 refine sV rfl (py_band rfl rfl) (sM rfl rfl (s_grp 4 (j := 9) (want := true) (t := 18) rfl rfl rfl rfl (fun hg2 kk2 => s_val (wgE rfl rfl rfl hg2) rfl rfl (py_field tu68 rfl ts2 rfl rfl) (s_val (wgE rfl rfl rfl hg2) rfl rfl (py_load tu2 rfl rfl (cell_atL (H2.box 0 rfl) rfl)) (s_val (wgE rfl rfl rfl hg2) rfl rfl (py_load tu2 rfl rfl (cell_atL (H2.fbox 4 rfl) rfl)) (s_val (wgE rfl rfl rfl hg2) rfl rfl (py_eql rfl rfl) (kk2 _ _ (kx rfl (kx rfl (kx rfl (kx rfl k0)))) rfl Ext.refl))))) (fun w3 e3 => ?_)))
 have H3 := H2.to e3
 refine sV rfl (py_band rfl rfl) (sA rfl rfl (s_nil (rT hQ Tryz.results339 rfl ?_)))
 exact ⟨H3.ext, congrArg Value.bool (by unfold dnP; simp only [Bool.and_assoc])⟩
theorem Tryz_impl_isDone {w : World} {xs : List Rec} {xsA : Option Addr} {xsC : Nat} {q g : Int} (xsS : Sees w [.slice xsA xs.length xsC] xs) : Ret Tryz.prog 304 #[.slice xsA xs.length xsC, .int .i64 q, .int .i64 g] w fun v w' => Ext No w w' ∧ (v = .bool (xs.any (dnP q g))) := by
 have xsL := sL xsS
 obtain ⟨xsF, xsO⟩ := xsS
 refine ret_Q (vs := [.slice xsA xs.length xsC, .int .i64 q, .int .i64 g]) Tryz.func304 rfl Tryz.ntmps304 rfl (fun Q hQ hN => ?_)
 have H0 := Sep.start (w := w) (F := [seen false [.slice xsA xs.length xsC] xs xsF]) (all_cons xsO (by simp))
 refine W_sr (s_box (wn rfl) rfl rfl H0 (fun b1 w1 e1 g1 H1 => ?_))
 refine s_box (wn rfl) rfl rfl H1 (fun b2 w2 e2 g2 H2 => ?_)
 refine sA rfl rfl (s_nil (W_sr (sM rfl rfl (sV rfl (py_func rfl) (s_call (wn rfl) rfl rfl (pc_call Tryz.func221 rfl Tryz_nm221 rfl) (Tryz_ContainsFunc_Rec (H2.sees 0 rfl) (p := (dnP q g)) Tryz.func339 rfl Tryz_nm339 (fun w1 e1 i0 hi0 _ _ _ _ _ _ K0 o0_6 o0_7 o0_8 => Tryz_impl_isDone_1 K0 o0_6 o0_7 o0_8 ((H2.to e1).box 0 rfl) ((H2.to e1).box 1 rfl))) (fun v1 w3 r1 => ?_))))))
 obtain ⟨e3, rfl⟩ := r1
 have H3 := H2.to e3
 refine sA rfl rfl (s_nil (rT hQ Tryz.results304 rfl ?_))
 exact ⟨H3.ext, rfl⟩
theorem Tryz_spec_l6Done {w : World} {xs : List Rec} {xsA : Option Addr} {xsC : Nat} {q g : Int} (xsS : Sees w [.slice xsA xs.length xsC] xs) : Ret Tryz.prog 301 #[.slice xsA xs.length xsC, .int .i64 q, .int .i64 g] w fun v w' => Ext No w w' ∧ (v = .bool (xs.any (dnP q g))) := by
 have xsL := sL xsS
 obtain ⟨xsF, xsO⟩ := xsS
 refine ret_Q (vs := [.slice xsA xs.length xsC, .int .i64 q, .int .i64 g]) Tryz.func301 rfl Tryz.ntmps301 rfl (fun Q hQ hN => ?_)
 have H0 := Sep.start (w := w) (F := [seen false [.slice xsA xs.length xsC] xs xsF]) (all_cons xsO (by simp))
 refine W_sr (sA rfl rfl (s_nil (W_seq (W_sr (sA rfl rfl (s_nil (W_block (W_loopS (γ := Nat) H0 [(0, _), (1, _), (2, _)] ⟨rfl, rfl, rfl, trivial⟩ (fun k => [(7, .int .i64 k)]) (fun k => k ≤ xs.length ∧ (∀ i, i < k → dnP q g (xs.getD i default) = false)) (fun k => xs.length - k) 0 ⟨rfl, trivial⟩ ⟨by omega, fun i hi => by omega⟩ (fun k w1 H1 ⟨hk, he⟩ => ?_)))))))))
 dsimp only [lCA, lNA]
 refine W_seq (W_sr (sM rfl rfl (sM rfl rfl (sV rfl (py_len tu30 rfl) (sV rfl (py_lss rfl rfl) (s_nil (W_ifd rfl (fun c1 => ?_) (fun c1 => ?_))))))))
 ·refine W_skip (W_seq (W_block (W_seq ?_)))
  obtain ⟨eb1, eo1, es1, ef1, ee1, ec1, eO1, eH1, em1⟩ := elem_st (H1.seen 0 rfl) k (by omega)
  obtain ⟨ea1, ek1, ea2, ek2, ea3, ek3, eg1, eg2, eg3, rfl, eq1, eK1, eo2, eo3, eo4⟩ := own_Rec eO1
  have eK1U := eK1
  unfold Rec.Ok at eK1U
  try unfold I64ok at eK1U
  try unfold maxLen at eK1U
  have eP1 := H1.look1 0 rfl eo2 (fun b hb => eH1 b (by rw [eq1]; simp [hb]))
  have eL1 := oL eo2
  have eP2 := eP1.look1 0 rfl eo3 (fun b hb => eH1 b (by rw [eq1]; simp [hb]))
  have eL2 := oL eo3
  have eP3 := eP2.look1 0 rfl eo4 (fun b hb => eH1 b (by rw [eq1]; simp [hb]))
  have eL3 := oL eo4
  refine W_reg (sM rfl rfl (sM rfl rfl (sV rfl (py_elz tu30 ts68 rfl rfl ee1 k (by omega) (by omega)) (sV rfl (py_field tu68 rfl ts2 rfl rfl) (sV rfl (py_load tu2 rfl rfl (at_cell ec1 0 rfl)) (sV rfl (py_eql rfl rfl) (sM rfl rfl (s_grp 7 (j := 6) (want := true) (t := 27) rfl rfl rfl rfl (fun hg1 kk1 => s_val (wgE rfl rfl rfl hg1) rfl rfl (py_move rfl) (s_val (wgE rfl rfl rfl hg1) rfl rfl (py_move rfl) (s_val (wgE rfl rfl rfl hg1) rfl rfl (py_elz tu30 ts68 rfl rfl ee1 k (by first | omega | (simp only [Bool.or_eq_false_iff, Bool.and_eq_true, Bool.and_eq_false_iff, Bool.or_eq_true, Bool.not_eq_true', Bool.not_eq_false', decide_eq_true_eq, decide_eq_false_iff_not] at hg1; omega)) (by omega)) (s_val (wgE rfl rfl rfl hg1) rfl rfl (py_field tu68 rfl ts2 rfl rfl) (s_val (wgE rfl rfl rfl hg1) rfl rfl (py_load tu2 rfl rfl (at_cell ec1 1 rfl)) (s_val (wgE rfl rfl rfl hg1) rfl rfl (py_move rfl) (s_val (wgE rfl rfl rfl hg1) rfl rfl (py_eql rfl rfl) (kk1 _ _ (kx rfl (kx rfl (kx rfl (kx rfl (kx rfl (kx rfl (kx rfl k0))))))) rfl Ext.refl)))))))) (fun w2 e1 => ?_)))))))))
  have H2 := eP3.to e1
  refine sV rfl (py_band rfl rfl) (sM rfl rfl (s_grp 7 (j := 15) (want := true) (t := 36) rfl rfl rfl rfl (fun hg2 kk2 => s_val (wgE rfl rfl rfl hg2) rfl rfl (py_move rfl) (s_val (wgE rfl rfl rfl hg2) rfl rfl (py_move rfl) (s_val (wgE rfl rfl rfl hg2) rfl rfl (py_elz tu30 ts68 rfl rfl ee1 k (by first | omega | (simp only [Bool.or_eq_false_iff, Bool.and_eq_true, Bool.and_eq_false_iff, Bool.or_eq_true, Bool.not_eq_true', Bool.not_eq_false', decide_eq_true_eq, decide_eq_false_iff_not] at hg2; omega)) (by omega)) (s_val (wgE rfl rfl rfl hg2) rfl rfl (py_field tu68 rfl ts2 rfl rfl) (s_val (wgE rfl rfl rfl hg2) rfl rfl (py_load tu2 rfl rfl (at_cell (e1.at ec1) 4 rfl)) (s_val (wgE rfl rfl rfl hg2) rfl rfl (py_move rfl) (s_val (wgE rfl rfl rfl hg2) rfl rfl (py_eql rfl rfl) (kk2 _ _ (kx rfl (kx rfl (kx rfl (kx rfl (kx rfl (kx rfl (kx rfl k0))))))) rfl Ext.refl)))))))) (fun w3 e2 => ?_)))
  have H3 := H2.to e2
  refine sV rfl (py_band rfl rfl) (s_nil (W_if rfl (fun c2 => ?_) (fun c2 => ?_)))
  ·refine W_sr (sA rfl rfl (s_nil (rT hQ Tryz.results301 rfl ?_)))
   exact ⟨H3.ext, congrArg Value.bool (by rw [anyR_yes (k := k) (by omega) (by have hc := c2; simpa [dnP, Bool.and_assoc] using hc)])⟩
  ·refine W_skip (W_reg (sM rfl rfl (sV rfl (py_add rfl rfl (in64 ⟨by omega, by omega⟩)) (sA rfl rfl (s_nil (⟨k + 1, ⟨rfl, rfl, rfl, rfl, trivial⟩, ⟨(H3.ftake 1), by omega, fun i hi => ?_⟩, by dsimp only; omega⟩))))))
   by_cases e : i = k
   ·subst e
    have hc := c2
    simpa [dnP, Bool.and_assoc] using hc
   ·exact he i (by omega)
 ·refine W_exit (W_sr (sA rfl rfl (s_nil (rT hQ Tryz.results301 rfl ?_))))
  exact ⟨H1.ext, congrArg Value.bool (by rw [anyR_none (fun i hi => he i (by omega))])⟩
theorem Tryz_impl_World_spent_1 {w : World} {x r : Rec} {xA6 xA7 xA8 rA6 rA7 rA8 : Option Addr} {xC6 xC7 xC8 rb rC6 rC7 rC8 : Nat} (xK : x.Ok) (xS6 : Sees w [.slice xA6 x.Rows.length xC6] x.Rows) (xS7 : Sees w [.slice xA7 x.Data.length xC7] x.Data) (xS8 : Sees w [.slice xA8 x.Delta.length xC8] x.Delta) (rB : w.heap[rb]? = some (.cells [.int .i64 r.Kind, .int .i64 r.Seq, .string r.Name, .int .i64 r.Length, .int .i64 r.Group, .int .i64 r.Row, .slice rA6 r.Rows.length rC6, .slice rA7 r.Data.length rC7, .slice rA8 r.Delta.length rC8].toArray 68)) (rK : r.Ok) (rS6 : Sees w [.slice rA6 r.Rows.length rC6] r.Rows) (rS7 : Sees w [.slice rA7 r.Data.length rC7] r.Data) (rS8 : Sees w [.slice rA8 r.Delta.length rC8] r.Delta) : Ret Tryz.prog 248 #[x.val xA6 xC6 xA7 xC7 xA8 xC8, .pointer (some ⟨rb, 0, none⟩)] w fun v w' => Ext No w w' ∧ (v = .bool (itP r.Name x)) := by
 have xK2 := xK
 unfold Rec.Ok at xK2
 try unfold I64ok at xK2
 try unfold maxLen at xK2
 have xN2 : x.Name.size ≤ maxLen := by unfold maxLen; omega
 have xL6 := sL xS6
 obtain ⟨xF6, xO6⟩ := xS6
 have xL7 := sL xS7
 obtain ⟨xF7, xO7⟩ := xS7
 have xL8 := sL xS8
 obtain ⟨xF8, xO8⟩ := xS8
 have rK2 := rK
 unfold Rec.Ok at rK2
 try unfold I64ok at rK2
 try unfold maxLen at rK2
 have rN2 : r.Name.size ≤ maxLen := by unfold maxLen; omega
 have rL6 := sL rS6
 obtain ⟨rF6, rO6⟩ := rS6
 have rL7 := sL rS7
 obtain ⟨rF7, rO7⟩ := rS7
 have rL8 := sL rS8
 obtain ⟨rF8, rO8⟩ := rS8
 refine ret_Q (vs := [x.val xA6 xC6 xA7 xC7 xA8 xC8, .pointer (some ⟨rb, 0, none⟩)]) Tryz.func248 rfl Tryz.ntmps248 rfl (fun Q hQ hN => ?_)
 have H0 := Sep.start (w := w) (F := [seen false [.slice xA6 x.Rows.length xC6] x.Rows xF6, seen false [.slice xA7 x.Data.length xC7] x.Data xF7, seen false [.slice xA8 x.Delta.length xC8] x.Delta xF8, box rb (.cells [.int .i64 r.Kind, .int .i64 r.Seq, .string r.Name, .int .i64 r.Length, .int .i64 r.Group, .int .i64 r.Row, .slice rA6 r.Rows.length rC6, .slice rA7 r.Data.length rC7, .slice rA8 r.Delta.length rC8].toArray 68), seen false [.slice rA6 r.Rows.length rC6] r.Rows rF6, seen false [.slice rA7 r.Data.length rC7] r.Data rF7, seen false [.slice rA8 r.Delta.length rC8] r.Delta rF8]) (all_cons xO6 (all_cons xO7 (all_cons xO8 (all_cons (by exact rB) (all_cons rO6 (all_cons rO7 (all_cons rO8 (by simp))))))))
 refine W_sr (s_box (wn rfl) rfl rfl H0 (fun b1 w1 e1 g1 H1 => ?_))
 refine sA rfl rfl (s_nil (W_sr (sV rfl (py_field tu68 rfl ts2 rfl rfl) (sV rfl (py_load tu2 rfl rfl (cell_atL (H1.box 0 rfl) rfl)) (sV rfl (py_eql rfl rfl) (sM rfl rfl (s_grp 5 (j := 3) (want := true) (t := 12) rfl rfl rfl rfl (fun hg1 kk1 => s_val (wgE rfl rfl rfl hg1) rfl rfl (py_field tu68 rfl ts9 rfl rfl) (s_val (wgE rfl rfl rfl hg1) rfl rfl (py_load tu9 rfl rfl (cell_atL (H1.box 0 rfl) rfl)) (s_val (wgE rfl rfl rfl hg1) rfl rfl (py_field tu68 rfl ts9 rfl rfl) (s_val (wgE rfl rfl rfl hg1) rfl rfl (py_load tu9 rfl rfl (cell_atL (H1.fbox 3 rfl) rfl)) (s_val (wgE rfl rfl rfl hg1) rfl rfl (py_seql rfl rfl) (kk1 _ _ (kx rfl (kx rfl (kx rfl (kx rfl (kx rfl k0))))) rfl Ext.refl)))))) (fun w2 e2 => ?_))))))))
 have H2 := H1.to e2
 refine sV rfl (py_band rfl rfl) (sA rfl rfl (s_nil (rT hQ Tryz.results248 rfl ?_)))
 exact ⟨H2.ext, rfl⟩
theorem Tryz_impl_World_spent_2 {w : World} {x r : Rec} {xA6 xA7 xA8 rA6 rA7 rA8 : Option Addr} {xC6 xC7 xC8 rb rC6 rC7 rC8 : Nat} (xK : x.Ok) (xS6 : Sees w [.slice xA6 x.Rows.length xC6] x.Rows) (xS7 : Sees w [.slice xA7 x.Data.length xC7] x.Data) (xS8 : Sees w [.slice xA8 x.Delta.length xC8] x.Delta) (rB : w.heap[rb]? = some (.cells [.int .i64 r.Kind, .int .i64 r.Seq, .string r.Name, .int .i64 r.Length, .int .i64 r.Group, .int .i64 r.Row, .slice rA6 r.Rows.length rC6, .slice rA7 r.Data.length rC7, .slice rA8 r.Delta.length rC8].toArray 68)) (rK : r.Ok) (rS6 : Sees w [.slice rA6 r.Rows.length rC6] r.Rows) (rS7 : Sees w [.slice rA7 r.Data.length rC7] r.Data) (rS8 : Sees w [.slice rA8 r.Delta.length rC8] r.Delta) : Ret Tryz.prog 250 #[x.val xA6 xC6 xA7 xC7 xA8 xC8, .pointer (some ⟨rb, 0, none⟩)] w fun v w' => Ext No w w' ∧ (v = .bool (mvP r.Seq x)) := by
 have xK2 := xK
 unfold Rec.Ok at xK2
 try unfold I64ok at xK2
 try unfold maxLen at xK2
 have xN2 : x.Name.size ≤ maxLen := by unfold maxLen; omega
 have xL6 := sL xS6
 obtain ⟨xF6, xO6⟩ := xS6
 have xL7 := sL xS7
 obtain ⟨xF7, xO7⟩ := xS7
 have xL8 := sL xS8
 obtain ⟨xF8, xO8⟩ := xS8
 have rK2 := rK
 unfold Rec.Ok at rK2
 try unfold I64ok at rK2
 try unfold maxLen at rK2
 have rN2 : r.Name.size ≤ maxLen := by unfold maxLen; omega
 have rL6 := sL rS6
 obtain ⟨rF6, rO6⟩ := rS6
 have rL7 := sL rS7
 obtain ⟨rF7, rO7⟩ := rS7
 have rL8 := sL rS8
 obtain ⟨rF8, rO8⟩ := rS8
 refine ret_Q (vs := [x.val xA6 xC6 xA7 xC7 xA8 xC8, .pointer (some ⟨rb, 0, none⟩)]) Tryz.func250 rfl Tryz.ntmps250 rfl (fun Q hQ hN => ?_)
 have H0 := Sep.start (w := w) (F := [seen false [.slice xA6 x.Rows.length xC6] x.Rows xF6, seen false [.slice xA7 x.Data.length xC7] x.Data xF7, seen false [.slice xA8 x.Delta.length xC8] x.Delta xF8, box rb (.cells [.int .i64 r.Kind, .int .i64 r.Seq, .string r.Name, .int .i64 r.Length, .int .i64 r.Group, .int .i64 r.Row, .slice rA6 r.Rows.length rC6, .slice rA7 r.Data.length rC7, .slice rA8 r.Delta.length rC8].toArray 68), seen false [.slice rA6 r.Rows.length rC6] r.Rows rF6, seen false [.slice rA7 r.Data.length rC7] r.Data rF7, seen false [.slice rA8 r.Delta.length rC8] r.Delta rF8]) (all_cons xO6 (all_cons xO7 (all_cons xO8 (all_cons (by exact rB) (all_cons rO6 (all_cons rO7 (all_cons rO8 (by simp))))))))
 refine W_sr (s_box (wn rfl) rfl rfl H0 (fun b1 w1 e1 g1 H1 => ?_))
 refine sA rfl rfl (s_nil (W_sr (sV rfl (py_field tu68 rfl ts2 rfl rfl) (sV rfl (py_load tu2 rfl rfl (cell_atL (H1.box 0 rfl) rfl)) (sV rfl (py_eql rfl rfl) (sM rfl rfl (s_grp 5 (j := 3) (want := true) (t := 12) rfl rfl rfl rfl (fun hg1 kk1 => s_val (wgE rfl rfl rfl hg1) rfl rfl (py_field tu68 rfl ts2 rfl rfl) (s_val (wgE rfl rfl rfl hg1) rfl rfl (py_load tu2 rfl rfl (cell_atL (H1.box 0 rfl) rfl)) (s_val (wgE rfl rfl rfl hg1) rfl rfl (py_field tu68 rfl ts2 rfl rfl) (s_val (wgE rfl rfl rfl hg1) rfl rfl (py_load tu2 rfl rfl (cell_atL (H1.fbox 3 rfl) rfl)) (s_val (wgE rfl rfl rfl hg1) rfl rfl (py_eql rfl rfl) (kk1 _ _ (kx rfl (kx rfl (kx rfl (kx rfl (kx rfl k0))))) rfl Ext.refl)))))) (fun w2 e2 => ?_))))))))
 have H2 := H1.to e2
 refine sV rfl (py_band rfl rfl) (sA rfl rfl (s_nil (rT hQ Tryz.results250 rfl ?_)))
 exact ⟨H2.ext, rfl⟩
theorem Tryz_impl_World_cleanTapes_1 {w : World} {x r : Rec} {xA6 xA7 xA8 rA6 rA7 rA8 : Option Addr} {xC6 xC7 xC8 rb rC6 rC7 rC8 : Nat} (xK : x.Ok) (xS6 : Sees w [.slice xA6 x.Rows.length xC6] x.Rows) (xS7 : Sees w [.slice xA7 x.Data.length xC7] x.Data) (xS8 : Sees w [.slice xA8 x.Delta.length xC8] x.Delta) (rB : w.heap[rb]? = some (.cells [.int .i64 r.Kind, .int .i64 r.Seq, .string r.Name, .int .i64 r.Length, .int .i64 r.Group, .int .i64 r.Row, .slice rA6 r.Rows.length rC6, .slice rA7 r.Data.length rC7, .slice rA8 r.Delta.length rC8].toArray 68)) (rK : r.Ok) (rS6 : Sees w [.slice rA6 r.Rows.length rC6] r.Rows) (rS7 : Sees w [.slice rA7 r.Data.length rC7] r.Data) (rS8 : Sees w [.slice rA8 r.Delta.length rC8] r.Delta) : Ret Tryz.prog 222 #[x.val xA6 xC6 xA7 xC7 xA8 xC8, .pointer (some ⟨rb, 0, none⟩)] w fun v w' => Ext No w w' ∧ (v = .bool (sameKS r x)) := by
 have xK2 := xK
 unfold Rec.Ok at xK2
 try unfold I64ok at xK2
 try unfold maxLen at xK2
 have xN2 : x.Name.size ≤ maxLen := by unfold maxLen; omega
 have xL6 := sL xS6
 obtain ⟨xF6, xO6⟩ := xS6
 have xL7 := sL xS7
 obtain ⟨xF7, xO7⟩ := xS7
 have xL8 := sL xS8
 obtain ⟨xF8, xO8⟩ := xS8
 have rK2 := rK
 unfold Rec.Ok at rK2
 try unfold I64ok at rK2
 try unfold maxLen at rK2
 have rN2 : r.Name.size ≤ maxLen := by unfold maxLen; omega
 have rL6 := sL rS6
 obtain ⟨rF6, rO6⟩ := rS6
 have rL7 := sL rS7
 obtain ⟨rF7, rO7⟩ := rS7
 have rL8 := sL rS8
 obtain ⟨rF8, rO8⟩ := rS8
 refine ret_Q (vs := [x.val xA6 xC6 xA7 xC7 xA8 xC8, .pointer (some ⟨rb, 0, none⟩)]) Tryz.func222 rfl Tryz.ntmps222 rfl (fun Q hQ hN => ?_)
 have H0 := Sep.start (w := w) (F := [seen false [.slice xA6 x.Rows.length xC6] x.Rows xF6, seen false [.slice xA7 x.Data.length xC7] x.Data xF7, seen false [.slice xA8 x.Delta.length xC8] x.Delta xF8, box rb (.cells [.int .i64 r.Kind, .int .i64 r.Seq, .string r.Name, .int .i64 r.Length, .int .i64 r.Group, .int .i64 r.Row, .slice rA6 r.Rows.length rC6, .slice rA7 r.Data.length rC7, .slice rA8 r.Delta.length rC8].toArray 68), seen false [.slice rA6 r.Rows.length rC6] r.Rows rF6, seen false [.slice rA7 r.Data.length rC7] r.Data rF7, seen false [.slice rA8 r.Delta.length rC8] r.Delta rF8]) (all_cons xO6 (all_cons xO7 (all_cons xO8 (all_cons (by exact rB) (all_cons rO6 (all_cons rO7 (all_cons rO8 (by simp))))))))
 refine W_sr (s_box (wn rfl) rfl rfl H0 (fun b1 w1 e1 g1 H1 => ?_))
 refine sA rfl rfl (s_nil (W_sr (sV rfl (py_field tu68 rfl ts2 rfl rfl) (sV rfl (py_load tu2 rfl rfl (cell_atL (H1.box 0 rfl) rfl)) (sV rfl (py_field tu68 rfl ts2 rfl rfl) (sV rfl (py_load tu2 rfl rfl (cell_atL (H1.fbox 3 rfl) rfl)) (sV rfl (py_eql rfl rfl) (sM rfl rfl (s_grp 5 (j := 5) (want := true) (t := 14) rfl rfl rfl rfl (fun hg1 kk1 => s_val (wgE rfl rfl rfl hg1) rfl rfl (py_field tu68 rfl ts2 rfl rfl) (s_val (wgE rfl rfl rfl hg1) rfl rfl (py_load tu2 rfl rfl (cell_atL (H1.box 0 rfl) rfl)) (s_val (wgE rfl rfl rfl hg1) rfl rfl (py_field tu68 rfl ts2 rfl rfl) (s_val (wgE rfl rfl rfl hg1) rfl rfl (py_load tu2 rfl rfl (cell_atL (H1.fbox 3 rfl) rfl)) (s_val (wgE rfl rfl rfl hg1) rfl rfl (py_eql rfl rfl) (kk1 _ _ (kx rfl (kx rfl (kx rfl (kx rfl (kx rfl k0))))) rfl Ext.refl)))))) (fun w2 e2 => ?_))))))))))
 have H2 := H1.to e2
 refine sV rfl (py_band rfl rfl) (sA rfl rfl (s_nil (rT hQ Tryz.results222 rfl ?_)))
 exact ⟨H2.ext, rfl⟩
theorem Tryz_spec_l6Newest {w : World} {xs : List Rec} {xsA : Option Addr} {xsC : Nat} {nm : ByteArray} (xsS : Sees w [.slice xsA xs.length xsC] xs) : Ret Tryz.prog 105 #[.slice xsA xs.length xsC, .string nm] w fun v w' => Ext No w w' ∧ (v = .int .i64 (lastI (itP nm) xs)) := by
 have xsL := sL xsS
 obtain ⟨xsF, xsO⟩ := xsS
 refine ret_Q (vs := [.slice xsA xs.length xsC, .string nm]) Tryz.func105 rfl Tryz.ntmps105 rfl (fun Q hQ hN => ?_)
 have H0 := Sep.start (w := w) (F := [seen false [.slice xsA xs.length xsC] xs xsF]) (all_cons xsO (by simp))
 refine W_sr (sA rfl rfl (s_nil (W_sr (sA rfl rfl (s_nil (W_seq (W_sr (sA rfl rfl (s_nil (W_block (W_loopS (γ := Nat) H0 [(0, _), (1, _), (4, _)] ⟨rfl, rfl, rfl, trivial⟩ (fun k => [(5, .int .i64 (lastTo (itP nm) xs k)), (6, .int .i64 k)]) (fun k => k ≤ xs.length ∧ True) (fun k => xs.length - k) 0 ⟨rfl, rfl, trivial⟩ ⟨by omega, trivial⟩ (fun k w1 H1 ⟨hk, _⟩ => ?_))))))))))))
 dsimp only [lCA, lNA]
 refine W_seq (W_sr (sM rfl rfl (sM rfl rfl (sV rfl (py_len tu30 rfl) (sV rfl (py_lss rfl rfl) (s_nil (W_ifd rfl (fun c1 => ?_) (fun c1 => ?_))))))))
 ·refine W_skip (W_seq (W_block (W_seq ?_)))
  obtain ⟨eb1, eo1, es1, ef1, ee1, ec1, eO1, eH1, em1⟩ := elem_st (H1.seen 0 rfl) k (by omega)
  obtain ⟨ea1, ek1, ea2, ek2, ea3, ek3, eg1, eg2, eg3, rfl, eq1, eK1, eo2, eo3, eo4⟩ := own_Rec eO1
  have eK1U := eK1
  unfold Rec.Ok at eK1U
  try unfold I64ok at eK1U
  try unfold maxLen at eK1U
  have eP1 := H1.look1 0 rfl eo2 (fun b hb => eH1 b (by rw [eq1]; simp [hb]))
  have eL1 := oL eo2
  have eP2 := eP1.look1 0 rfl eo3 (fun b hb => eH1 b (by rw [eq1]; simp [hb]))
  have eL2 := oL eo3
  have eP3 := eP2.look1 0 rfl eo4 (fun b hb => eH1 b (by rw [eq1]; simp [hb]))
  have eL3 := oL eo4
  refine W_reg (sM rfl rfl (sM rfl rfl (sV rfl (py_elz tu30 ts68 rfl rfl ee1 k (by omega) (by omega)) (sV rfl (py_field tu68 rfl ts2 rfl rfl) (sV rfl (py_load tu2 rfl rfl (at_cell ec1 0 rfl)) (sV rfl (py_eql rfl rfl) (sM rfl rfl (s_grp 7 (j := 6) (want := true) (t := 26) rfl rfl rfl rfl (fun hg1 kk1 => s_val (wgE rfl rfl rfl hg1) rfl rfl (py_move rfl) (s_val (wgE rfl rfl rfl hg1) rfl rfl (py_move rfl) (s_val (wgE rfl rfl rfl hg1) rfl rfl (py_elz tu30 ts68 rfl rfl ee1 k (by first | omega | (simp only [Bool.or_eq_false_iff, Bool.and_eq_true, Bool.and_eq_false_iff, Bool.or_eq_true, Bool.not_eq_true', Bool.not_eq_false', decide_eq_true_eq, decide_eq_false_iff_not] at hg1; omega)) (by omega)) (s_val (wgE rfl rfl rfl hg1) rfl rfl (py_field tu68 rfl ts9 rfl rfl) (s_val (wgE rfl rfl rfl hg1) rfl rfl (py_load tu9 rfl rfl (at_cell ec1 2 rfl)) (s_val (wgE rfl rfl rfl hg1) rfl rfl (py_move rfl) (s_val (wgE rfl rfl rfl hg1) rfl rfl (py_seql rfl rfl) (kk1 _ _ (kx rfl (kx rfl (kx rfl (kx rfl (kx rfl (kx rfl (kx rfl k0))))))) rfl Ext.refl)))))))) (fun w2 e1 => ?_)))))))))
  have H2 := eP3.to e1
  refine sV rfl (py_band rfl rfl) (s_nil (W_if rfl (fun c2 => ?_) (fun c2 => ?_)))
  ·refine W_reg (sM rfl rfl (sA rfl rfl (s_nil (W_reg (sM rfl rfl (sV rfl (py_add rfl rfl (in64 ⟨by omega, by omega⟩)) (sA rfl rfl (s_nil (⟨k + 1, ⟨eqI (lastTo_yes (by simpa [itP] using c2)).symm, rfl, rfl, rfl, rfl, trivial⟩, ⟨(H2.ftake 1), by omega, trivial⟩, by dsimp only; omega⟩)))))))))
  ·refine W_skip (W_reg (sM rfl rfl (sV rfl (py_add rfl rfl (in64 ⟨by omega, by omega⟩)) (sA rfl rfl (s_nil (⟨k + 1, ⟨eqI (lastTo_no (by simpa [itP] using c2)).symm, rfl, rfl, rfl, rfl, trivial⟩, ⟨(H2.ftake 1), by omega, trivial⟩, by dsimp only; omega⟩))))))
 ·refine W_exit (W_sr (sM rfl rfl (sA rfl rfl (s_nil (rT hQ Tryz.results105 rfl ?_)))))
  obtain rfl : k = xs.length := by omega
  exact ⟨H1.ext, rfl⟩
theorem Tryz_impl_World_doneEverywhere {w : World} {zb zC9 zC10 zC11 xsC rC6 rC7 rC8 : Nat} {z : Wld} {zA9 zA10 zA11 xsA rA6 rA7 rA8 : Option Addr} {zF9 zF10 zF11 : List Nat} {xs : List Rec} {r : Rec} (zB : w.heap[zb]? = some (.cells [.int .i64 z.Shape.Groups, .int .i64 z.Shape.Column, .int .i64 z.Shape.Data, .int .i64 z.Shape.Spare, .int .i64 z.Shape.Rows, .int .i64 z.Shape.Cap, .int .i64 z.Shape.Batch, .int .i64 z.Shape.Queue, .int .i64 z.Shape.Stage, .slice zA9 z.Groups.length zC9, .slice zA10 z.On.length zC10, .slice zA11 z.Tapes.length zC11, .int .i64 z.Writes, .int .i64 z.Stop, .bool z.Down].toArray 38)) (zK : z.Ok) (zO9 : own false w [.slice zA9 z.Groups.length zC9] z.Groups zF9) (zO10 : own false w [.slice zA10 z.On.length zC10] z.On zF10) (zO11 : own false w [.slice zA11 z.Tapes.length zC11] z.Tapes zF11) (xsS : Sees w [.slice xsA xs.length xsC] xs) (rK : r.Ok) (rS6 : Sees w [.slice rA6 r.Rows.length rC6] r.Rows) (rS7 : Sees w [.slice rA7 r.Data.length rC7] r.Data) (rS8 : Sees w [.slice rA8 r.Delta.length rC8] r.Delta) (hs : z.Shape.ok = true) : Ret Tryz.prog 249 #[.pointer (some ⟨zb, 0, none⟩), .slice xsA xs.length xsC, r.val rA6 rC6 rA7 rC7 rA8 rC8] w fun v w' => Ext No w w' ∧ (v = .bool (setl z.Shape xs r)) := by
 have zK2 := zK
 unfold Wld.Ok Shape.Ok at zK2
 try unfold I64ok at zK2
 try unfold maxLen at zK2
 have zL9 := oL zO9
 have zL10 := oL zO10
 have zL11 := oL zO11
 have xsL := sL xsS
 obtain ⟨xsF, xsO⟩ := xsS
 have rK2 := rK
 unfold Rec.Ok at rK2
 try unfold I64ok at rK2
 try unfold maxLen at rK2
 have rN2 : r.Name.size ≤ maxLen := by unfold maxLen; omega
 have rL6 := sL rS6
 obtain ⟨rF6, rO6⟩ := rS6
 have rL7 := sL rS7
 obtain ⟨rF7, rO7⟩ := rS7
 have rL8 := sL rS8
 obtain ⟨rF8, rO8⟩ := rS8
 have sbd := shape_bd hs
 refine ret_Q (vs := [.pointer (some ⟨zb, 0, none⟩), .slice xsA xs.length xsC, r.val rA6 rC6 rA7 rC7 rA8 rC8]) Tryz.func249 rfl Tryz.ntmps249 rfl (fun Q hQ hN => ?_)
 have H0 := Sep.start (w := w) (F := [box zb (.cells [.int .i64 z.Shape.Groups, .int .i64 z.Shape.Column, .int .i64 z.Shape.Data, .int .i64 z.Shape.Spare, .int .i64 z.Shape.Rows, .int .i64 z.Shape.Cap, .int .i64 z.Shape.Batch, .int .i64 z.Shape.Queue, .int .i64 z.Shape.Stage, .slice zA9 z.Groups.length zC9, .slice zA10 z.On.length zC10, .slice zA11 z.Tapes.length zC11, .int .i64 z.Writes, .int .i64 z.Stop, .bool z.Down].toArray 38), seen false [.slice zA9 z.Groups.length zC9] z.Groups zF9, seen false [.slice zA10 z.On.length zC10] z.On zF10, seen false [.slice zA11 z.Tapes.length zC11] z.Tapes zF11, seen false [.slice xsA xs.length xsC] xs xsF, seen false [.slice rA6 r.Rows.length rC6] r.Rows rF6, seen false [.slice rA7 r.Data.length rC7] r.Data rF7, seen false [.slice rA8 r.Delta.length rC8] r.Delta rF8]) (all_cons (by exact zB) (all_cons zO9 (all_cons zO10 (all_cons zO11 (all_cons xsO (all_cons rO6 (all_cons rO7 (all_cons rO8 (by simp)))))))))
 refine W_sr (s_box (wn rfl) rfl rfl H0 (fun b1 w1 e1 g1 H1 => ?_))
 refine sA rfl rfl (s_nil (W_seq (W_sr (sM rfl rfl (sV rfl (py_nil rfl) (sV rfl (py_field tu38 rfl ts34 rfl rfl) (sV rfl (py_field tu34 rfl ts2 rfl rfl) (sV rfl (py_load tu2 rfl rfl (cell_atL (H1.fbox 0 rfl) rfl)) (sA rfl rfl (s_nil (W_block (W_loopS (γ := Nat) H1 [(0, _), (1, _), (5, _)] ⟨rfl, rfl, rfl, trivial⟩ (fun k => [(7, .int .i64 (z.Shape.Groups + k))]) (fun k => k ≤ z.Shape.Column.toNat ∧ (∀ i, i < k → xs.any (dnP r.Seq (z.Shape.Groups + i)) = true)) (fun k => z.Shape.Column.toNat - k) 0 ⟨eqI (by omega), trivial⟩ ⟨by omega, fun i hi => by omega⟩ (fun k w2 H2 ⟨hk, he⟩ => ?_)))))))))))))
 dsimp only [lCA, lNA]
 refine W_seq (W_sr (sM rfl rfl (sM rfl rfl (sV rfl (py_nil rfl) (sV rfl (py_field tu38 rfl ts34 rfl rfl) (sV rfl (py_loadS tu34 rfl ts34 rfl rfl (At.sub (H2.fbox 0 rfl) 9)) (s_call (wn rfl) rfl rfl (pc_call Tryz.func100 rfl Tryz_nm100 rfl) (Tryz_impl_Shape_all (by assumption)) (fun v1 w3 r1 => ?_))))))))
 obtain ⟨e2, rfl⟩ := r1
 have H3 := H2.to e2
 refine sV rfl (py_lss rfl rfl) (s_nil (W_ifd rfl (fun c1 => ?_) (fun c1 => ?_)))
 ·refine W_skip (W_seq (W_block (W_sr (sM rfl rfl (sV rfl (py_field tu68 rfl ts2 rfl rfl) (sV rfl (py_load tu2 rfl rfl (cell_atL (H3.box 0 rfl) rfl)) (sM rfl rfl (s_call (wn rfl) rfl rfl (pc_call Tryz.func304 rfl Tryz_nm304 rfl) (Tryz_impl_isDone (H3.sees 4 rfl)) (fun v2 w4 r2 => ?_)))))))))
  obtain ⟨e3, rfl⟩ := r2
  have H4 := H3.to e3
  refine sV rfl (py_not rfl) (s_nil (W_if rfl (fun c2 => ?_) (fun c2 => ?_)))
  ·refine W_sr (sA rfl rfl (s_nil (rT hQ Tryz.results249 rfl ?_)))
   exact ⟨H4.ext, congrArg Value.bool (by rw [setl_no (k := k) (by omega) (by simpa using c2)])⟩
  ·refine W_skip (W_reg (sM rfl rfl (sV rfl (py_add rfl rfl (in64 ⟨by omega, by omega⟩)) (sA rfl rfl (s_nil (⟨k + 1, ⟨eqI (by omega), rfl, rfl, rfl, trivial⟩, ⟨H4, by omega, fun i hi => ?_⟩, by dsimp only; omega⟩))))))
   by_cases e : i = k
   ·subst e
    simpa using c2
   ·exact he i (by omega)
 ·refine W_exit (W_sr (sM rfl rfl (sV rfl (py_field tu68 rfl ts2 rfl rfl) (sV rfl (py_load tu2 rfl rfl (cell_atL (H3.box 0 rfl) rfl)) (sV rfl (py_field tu68 rfl ts2 rfl rfl) (sV rfl (py_load tu2 rfl rfl (cell_atL (H3.box 0 rfl) rfl)) (s_call (wn rfl) rfl rfl (pc_call Tryz.func304 rfl Tryz_nm304 rfl) (Tryz_impl_isDone (H3.sees 4 rfl)) (fun v3 w5 r3 => ?_))))))))
  obtain ⟨e4, rfl⟩ := r3
  have H5 := H3.to e4
  refine sA rfl rfl (s_nil (rT hQ Tryz.results249 rfl ?_))
  exact ⟨H5.ext, congrArg Value.bool (by rw [setl_all (fun i hi => he i (by omega))])⟩
theorem Tryz_spec_l6Settled {w : World} {s : Shape} {xs : List Rec} {xsA rA6 rA7 rA8 : Option Addr} {xsC rC6 rC7 rC8 : Nat} {r : Rec} (xsS : Sees w [.slice xsA xs.length xsC] xs) (rK : r.Ok) (rS6 : Sees w [.slice rA6 r.Rows.length rC6] r.Rows) (rS7 : Sees w [.slice rA7 r.Data.length rC7] r.Data) (rS8 : Sees w [.slice rA8 r.Delta.length rC8] r.Delta) (hs : s.ok = true) : Ret Tryz.prog 234 #[s.v, .slice xsA xs.length xsC, r.val rA6 rC6 rA7 rC7 rA8 rC8] w fun v w' => Ext No w w' ∧ (v = .bool (setl s xs r)) := by
 have xsL := sL xsS
 obtain ⟨xsF, xsO⟩ := xsS
 have rK2 := rK
 unfold Rec.Ok at rK2
 try unfold I64ok at rK2
 try unfold maxLen at rK2
 have rN2 : r.Name.size ≤ maxLen := by unfold maxLen; omega
 have rL6 := sL rS6
 obtain ⟨rF6, rO6⟩ := rS6
 have rL7 := sL rS7
 obtain ⟨rF7, rO7⟩ := rS7
 have rL8 := sL rS8
 obtain ⟨rF8, rO8⟩ := rS8
 have sbd := shape_bd hs
 refine ret_Q (vs := [s.v, .slice xsA xs.length xsC, r.val rA6 rC6 rA7 rC7 rA8 rC8]) Tryz.func234 rfl Tryz.ntmps234 rfl (fun Q hQ hN => ?_)
 have H0 := Sep.start (w := w) (F := [seen false [.slice xsA xs.length xsC] xs xsF, seen false [.slice rA6 r.Rows.length rC6] r.Rows rF6, seen false [.slice rA7 r.Data.length rC7] r.Data rF7, seen false [.slice rA8 r.Delta.length rC8] r.Delta rF8]) (all_cons xsO (all_cons rO6 (all_cons rO7 (all_cons rO8 (by simp)))))
 refine W_sr (s_box (wn rfl) rfl rfl H0 (fun b1 w1 e1 g1 H1 => ?_))
 refine s_box (wn rfl) rfl rfl H1 (fun b2 w2 e2 g2 H2 => ?_)
 refine sA rfl rfl (s_nil (W_sr (sM rfl rfl (sV rfl (py_field tu68 rfl ts2 rfl rfl) (sV rfl (py_load tu2 rfl rfl (cell_atL (H2.box 1 rfl) rfl)) (sV rfl (py_field tu68 rfl ts2 rfl rfl) (sV rfl (py_load tu2 rfl rfl (cell_atL (H2.box 1 rfl) rfl)) (s_call (wn rfl) rfl rfl (pc_call Tryz.func301 rfl Tryz_nm301 rfl) (Tryz_spec_l6Done (H2.sees 0 rfl)) (fun v1 w3 r1 => ?_)))))))))
 obtain ⟨e3, rfl⟩ := r1
 have H3 := H2.to e3
 refine sA rfl rfl (s_nil (W_seq (W_sr (sV rfl (py_field tu34 rfl ts2 rfl rfl) (sV rfl (py_load tu2 rfl rfl (cell_atL (H3.box 0 rfl) rfl)) (sA rfl rfl (s_nil (W_block (W_loopS (γ := Nat) H3 [(1, _), (3, _), (5, _), (6, _)] ⟨rfl, rfl, rfl, rfl, trivial⟩ (fun k => [(7, .bool (xs.any (dnP r.Seq r.Group) && dnTo s xs r.Seq k)), (8, .int .i64 (s.Groups + k))]) (fun k => k ≤ s.Column.toNat ∧ True) (fun k => s.Column.toNat - k) 0 ⟨eqB (Bool.and_true _).symm, eqI (by omega), trivial⟩ ⟨by omega, trivial⟩ (fun k w4 H4 ⟨hk, _⟩ => ?_))))))))))
 dsimp only [lCA, lNA]
 refine W_seq (W_sr (sM rfl rfl (sV rfl (py_loadS tu34 rfl ts34 rfl rfl (At.whole (H4.box 0 rfl))) (s_call (wn rfl) rfl rfl (pc_call Tryz.func162 rfl Tryz_nm162 rfl) (Tryz_spec_l5All (by assumption)) (fun v2 w5 r2 => ?_)))))
 obtain ⟨e4, rfl⟩ := r2
 have H5 := H4.to e4
 refine sV rfl (py_lss rfl rfl) (s_nil (W_ifd rfl (fun c1 => ?_) (fun c1 => ?_)))
 ·refine W_skip (W_seq (W_block (W_reg (sM rfl rfl (sM rfl rfl (s_grp 5 (j := 1) (want := true) (t := 29) rfl rfl rfl rfl (fun hg1 kk1 => s_val (wgE rfl rfl rfl hg1) rfl rfl (py_move rfl) (s_val (wgE rfl rfl rfl hg1) rfl rfl (py_field tu68 rfl ts2 rfl rfl) (s_val (wgE rfl rfl rfl hg1) rfl rfl (py_load tu2 rfl rfl (cell_atL (H5.box 1 rfl) rfl)) (s_val (wgE rfl rfl rfl hg1) rfl rfl (py_move rfl) (s_callv (wgE rfl rfl rfl hg1) rfl rfl (pc_call Tryz.func301 rfl Tryz_nm301 rfl) (Tryz_spec_l6Done (H5.sees 0 rfl)) (fun w7 e6 => kk1 _ _ (kx rfl (kx rfl (kx rfl (kx rfl (kx rfl k0))))) rfl (Ext.refl.trans e6))))))) (fun w6 e5 => ?_)))))))
  have H6 := H5.to e5
  refine sV rfl (py_band rfl rfl) (sA rfl rfl (s_nil (W_reg (sM rfl rfl (sV rfl (py_add rfl rfl (in64 ⟨by omega, by omega⟩)) (sA rfl rfl (s_nil ?_)))))))
  exact ⟨k + 1, ⟨eqB (by rw [dnTo, ← Bool.and_assoc]), eqI (by omega), rfl, rfl, rfl, rfl, trivial⟩, ⟨H6, by omega, trivial⟩, by dsimp only; omega⟩
 ·refine W_exit (W_sr (sM rfl rfl (sA rfl rfl (s_nil (rT hQ Tryz.results234 rfl ?_)))))
  obtain rfl : k = s.Column.toNat := by omega
  exact ⟨H5.ext, congrArg Value.bool (by unfold setl; rw [Bool.and_comm])⟩
theorem Tryz_spent_any {w : World} {zb zC9 zC10 zC11 xsC a : Nat} {z : Wld} {zA9 zA10 zA11 xsA : Option Addr} {zF9 zF10 zF11 : List Nat} {xs : List Rec} (zB : w.heap[zb]? = some (.cells [.int .i64 z.Shape.Groups, .int .i64 z.Shape.Column, .int .i64 z.Shape.Data, .int .i64 z.Shape.Spare, .int .i64 z.Shape.Rows, .int .i64 z.Shape.Cap, .int .i64 z.Shape.Batch, .int .i64 z.Shape.Queue, .int .i64 z.Shape.Stage, .slice zA9 z.Groups.length zC9, .slice zA10 z.On.length zC10, .slice zA11 z.Tapes.length zC11, .int .i64 z.Writes, .int .i64 z.Stop, .bool z.Down].toArray 38)) (zK : z.Ok) (zO9 : own false w [.slice zA9 z.Groups.length zC9] z.Groups zF9) (zO10 : own false w [.slice zA10 z.On.length zC10] z.On zF10) (zO11 : own false w [.slice zA11 z.Tapes.length zC11] z.Tapes zF11) (xsS : Sees w [.slice xsA xs.length xsC] xs) (hs : z.Shape.ok = true) (ha : a < xs.length) (hk : 1 ≤ (xs.getD a default).Kind ∧ (xs.getD a default).Kind ≤ 4) : Ret Tryz.prog 149 #[.pointer (some ⟨zb, 0, none⟩), .slice xsA xs.length xsC, .int .i64 a] w fun v w' => Ext No w w' ∧ (v = .bool (spent z.Shape xs a)) := by
 have zK2 := zK
 unfold Wld.Ok Shape.Ok at zK2
 try unfold I64ok at zK2
 try unfold maxLen at zK2
 have zL9 := oL zO9
 have zL10 := oL zO10
 have zL11 := oL zO11
 have xsL := sL xsS
 obtain ⟨xsF, xsO⟩ := xsS
 refine ret_Q (vs := [.pointer (some ⟨zb, 0, none⟩), .slice xsA xs.length xsC, .int .i64 a]) Tryz.func149 rfl Tryz.ntmps149 rfl (fun Q hQ hN => ?_)
 have H0 := Sep.start (w := w) (F := [box zb (.cells [.int .i64 z.Shape.Groups, .int .i64 z.Shape.Column, .int .i64 z.Shape.Data, .int .i64 z.Shape.Spare, .int .i64 z.Shape.Rows, .int .i64 z.Shape.Cap, .int .i64 z.Shape.Batch, .int .i64 z.Shape.Queue, .int .i64 z.Shape.Stage, .slice zA9 z.Groups.length zC9, .slice zA10 z.On.length zC10, .slice zA11 z.Tapes.length zC11, .int .i64 z.Writes, .int .i64 z.Stop, .bool z.Down].toArray 38), seen false [.slice zA9 z.Groups.length zC9] z.Groups zF9, seen false [.slice zA10 z.On.length zC10] z.On zF10, seen false [.slice zA11 z.Tapes.length zC11] z.Tapes zF11, seen false [.slice xsA xs.length xsC] xs xsF]) (all_cons (by exact zB) (all_cons zO9 (all_cons zO10 (all_cons zO11 (all_cons xsO (by simp))))))
 refine W_sr (sA rfl rfl (s_nil (W_seq ?_)))
 obtain ⟨eb1, eo1, es1, ef1, ee1, ec1, eO1, eH1, em1⟩ := elem_st (H0.seen 4 rfl) a (by omega)
 obtain ⟨ea1, ek1, ea2, ek2, ea3, ek3, eg1, eg2, eg3, rfl, eq1, eK1, eo2, eo3, eo4⟩ := own_Rec eO1
 have eK1U := eK1
 unfold Rec.Ok at eK1U
 try unfold I64ok at eK1U
 try unfold maxLen at eK1U
 have eP1 := H0.look1 4 rfl eo2 (fun b hb => eH1 b (by rw [eq1]; simp [hb]))
 have eL1 := oL eo2
 have eP2 := eP1.look1 4 rfl eo3 (fun b hb => eH1 b (by rw [eq1]; simp [hb]))
 have eL2 := oL eo3
 have eP3 := eP2.look1 4 rfl eo4 (fun b hb => eH1 b (by rw [eq1]; simp [hb]))
 have eL3 := oL eo4
 refine W_reg (sM rfl rfl (sM rfl rfl (sV rfl (py_elz tu30 ts68 rfl rfl ee1 a (by omega) (by omega)) (sV rfl (py_loadS tu68 rfl ts68 rfl rfl ec1) (s_var (wn rfl) rfl Tryz.zeroValue68 eP3 (fun b1 w1 e1 g1 H1 => ?_))))))
 refine s_stoS (wn rfl) ts68 rfl rfl rfl rfl H1 0 rfl rfl (fun w2 e2 H2 => ?_)
 dsimp only [lNA, lCA, lSZ, lSS, layL] at H2
 refine s_nil (W_seq (W_sr (sV rfl (py_field tu68 rfl ts2 rfl rfl) (sV rfl (py_load tu2 rfl rfl (cell_atL (H2.box 0 rfl) rfl)) (s_nil (W_block (W_sr (sV rfl (py_eql rfl rfl) (sA rfl rfl (s_nil (W_ifd rfl (fun c1 => ?_) (fun c1 => ?_))))))))))))
 ·refine W_sr (sM rfl rfl (sM rfl rfl (sV rfl (py_add rfl rfl (in64 ⟨by omega, by omega⟩)) ?_)))
  have sc1 := own_le_cap (H2.seen 4 rfl)
  obtain ⟨sf1, so1, ss1⟩ := own_cutL (H2.seen 4 rfl) ((a + 1)) (xs.length) _ (by omega) (by omega) (by omega) (Nat.le_refl _)
  have H3 := H2.look1 4 rfl so1 ss1
  have sl1 := cut_len (xs := xs) (l := (a + 1)) (h := xs.length) (by omega)
  refine sV rfl (py_slcLN tu30 ts68 rfl rfl ((a + 1)) (by omega) (by omega) sl1) ((sV rfl (py_func rfl) (s_call (wn rfl) rfl rfl (pc_call Tryz.func221 rfl Tryz_nm221 rfl) (Tryz_ContainsFunc_Rec (H3.sees 8 rfl) (p := (itP (xs.getD a default).Name)) Tryz.func248 rfl Tryz_nm248 (fun w1 e1 i0 hi0 _ _ _ _ _ _ K0 o0_6 o0_7 o0_8 => Tryz_impl_World_spent_1 K0 o0_6 o0_7 o0_8 ((H3.to e1).box 0 rfl) (by assumption) ((H3.to e1).sees 5 rfl) ((H3.to e1).sees 6 rfl) ((H3.to e1).sees 7 rfl))) (fun v1 w3 r1 => ?_))))
  obtain ⟨e3, rfl⟩ := r1
  have H4 := H3.to e3
  refine sA rfl rfl (s_nil (rT hQ Tryz.results149 rfl ?_))
  exact ⟨H4.ext, congrArg Value.bool (by rw [spent_1 (by omega), cut_drop])⟩
 ·refine W_sr (sV rfl (py_eql rfl rfl) (sA rfl rfl (s_nil (W_ifd rfl (fun c2 => ?_) (fun c2 => ?_)))))
  ·refine W_sr (sM rfl rfl (sM rfl rfl (sV rfl (py_loadS tu68 rfl ts68 rfl rfl (At.whole (H2.box 0 rfl))) (s_call (wn rfl) rfl rfl (pc_call Tryz.func249 rfl Tryz_nm249 rfl) (Tryz_impl_World_doneEverywhere (H2.fbox 0 rfl) (by assumption) (own_weak (H2.seen 1 rfl)) (own_weak (H2.seen 2 rfl)) (own_weak (H2.seen 3 rfl)) (H2.sees 4 rfl) (by assumption) (H2.sees 5 rfl) (H2.sees 6 rfl) (H2.sees 7 rfl) (by first | assumption | omega)) (fun v2 w4 r2 => ?_)))))
   obtain ⟨e4, rfl⟩ := r2
   have H5 := H2.to e4
   refine sA rfl rfl (s_nil (rT hQ Tryz.results149 rfl ?_))
   exact ⟨H5.ext, congrArg Value.bool (by rw [spent_2 (by omega)])⟩
  ·refine W_sr (sV rfl (py_eql rfl rfl) (sA rfl rfl (s_nil (W_ifd rfl (fun c3 => ?_) (fun c3 => ?_)))))
   ·refine W_sr (sM rfl rfl (sV rfl (py_func rfl) (s_call (wn rfl) rfl rfl (pc_call Tryz.func221 rfl Tryz_nm221 rfl) (Tryz_ContainsFunc_Rec (H2.sees 4 rfl) (p := (mvP (xs.getD a default).Seq)) Tryz.func250 rfl Tryz_nm250 (fun w1 e1 i0 hi0 _ _ _ _ _ _ K0 o0_6 o0_7 o0_8 => Tryz_impl_World_spent_2 K0 o0_6 o0_7 o0_8 ((H2.to e1).box 0 rfl) (by assumption) ((H2.to e1).sees 5 rfl) ((H2.to e1).sees 6 rfl) ((H2.to e1).sees 7 rfl))) (fun v3 w5 r3 => ?_))))
    obtain ⟨e5, rfl⟩ := r3
    have H6 := H2.to e5
    refine sV rfl (py_not rfl) (sA rfl rfl (s_nil (rT hQ Tryz.results149 rfl ?_)))
    exact ⟨H6.ext, congrArg Value.bool (by rw [spent_3 (by omega)])⟩
   ·refine W_skip (W_sr (sM rfl rfl (sV rfl (py_func rfl) (s_call (wn rfl) rfl rfl (pc_call Tryz.func221 rfl Tryz_nm221 rfl) (Tryz_ContainsFunc_Rec (H2.sees 4 rfl) (p := (spS (xs.getD a default))) Tryz.func251 rfl Tryz_nm251 (fun w1 e1 i0 hi0 _ _ _ _ _ _ K0 o0_6 o0_7 o0_8 => Tryz_impl_World_spent_3 K0 o0_6 o0_7 o0_8 ((H2.to e1).box 0 rfl) (by assumption) ((H2.to e1).sees 5 rfl) ((H2.to e1).sees 6 rfl) ((H2.to e1).sees 7 rfl))) (fun v4 w6 r4 => ?_)))))
    obtain ⟨e6, rfl⟩ := r4
    have H7 := H2.to e6
    refine sA rfl rfl (s_nil (rT hQ Tryz.results149 rfl ?_))
    exact ⟨H7.ext, congrArg Value.bool (by rw [spent_4 (by omega)])⟩
theorem Tryz_isSpent_any {w : World} {s : Shape} {xs : List Rec} {xsA : Option Addr} {xsC a : Nat} (xsS : Sees w [.slice xsA xs.length xsC] xs) (hs : s.ok = true) (ha : a < xs.length) (hk : 1 ≤ (xs.getD a default).Kind ∧ (xs.getD a default).Kind ≤ 4) : Ret Tryz.prog 140 #[s.v, .slice xsA xs.length xsC, .int .i64 a] w fun v w' => Ext No w w' ∧ (v = .bool (spent s xs a)) := by
 have xsL := sL xsS
 obtain ⟨xsF, xsO⟩ := xsS
 refine ret_Q (vs := [s.v, .slice xsA xs.length xsC, .int .i64 a]) Tryz.func140 rfl Tryz.ntmps140 rfl (fun Q hQ hN => ?_)
 have H0 := Sep.start (w := w) (F := [seen false [.slice xsA xs.length xsC] xs xsF]) (all_cons xsO (by simp))
 refine W_sr (s_box (wn rfl) rfl rfl H0 (fun b1 w1 e1 g1 H1 => ?_))
 refine sA rfl rfl (s_nil (W_seq ?_))
 obtain ⟨eb1, eo1, es1, ef1, ee1, ec1, eO1, eH1, em1⟩ := elem_st (H1.seen 0 rfl) a (by omega)
 obtain ⟨ea1, ek1, ea2, ek2, ea3, ek3, eg1, eg2, eg3, rfl, eq1, eK1, eo2, eo3, eo4⟩ := own_Rec eO1
 have eK1U := eK1
 unfold Rec.Ok at eK1U
 try unfold I64ok at eK1U
 try unfold maxLen at eK1U
 have eP1 := H1.look1 0 rfl eo2 (fun b hb => eH1 b (by rw [eq1]; simp [hb]))
 have eL1 := oL eo2
 have eP2 := eP1.look1 0 rfl eo3 (fun b hb => eH1 b (by rw [eq1]; simp [hb]))
 have eL2 := oL eo3
 have eP3 := eP2.look1 0 rfl eo4 (fun b hb => eH1 b (by rw [eq1]; simp [hb]))
 have eL3 := oL eo4
 refine W_reg (sM rfl rfl (sM rfl rfl (sV rfl (py_elz tu30 ts68 rfl rfl ee1 a (by omega) (by omega)) (sV rfl (py_loadS tu68 rfl ts68 rfl rfl ec1) (s_var (wn rfl) rfl Tryz.zeroValue68 eP3 (fun b2 w2 e2 g2 H2 => ?_))))))
 refine s_stoS (wn rfl) ts68 rfl rfl rfl rfl H2 1 rfl rfl (fun w3 e3 H3 => ?_)
 dsimp only [lNA, lCA, lSZ, lSS, layL] at H3
 refine s_nil (W_seq (W_sr (sV rfl (py_field tu68 rfl ts2 rfl rfl) (sV rfl (py_load tu2 rfl rfl (cell_atL (H3.box 1 rfl) rfl)) (sV rfl (py_eql rfl rfl) (s_nil (W_ifd rfl (fun c1 => ?_) (fun c1 => ?_))))))))
 ·refine W_sr (sM rfl rfl (sV rfl (py_field tu68 rfl ts9 rfl rfl) (sV rfl (py_load tu9 rfl rfl (cell_atL (H3.box 1 rfl) rfl)) (s_call (wn rfl) rfl rfl (pc_call Tryz.func105 rfl Tryz_nm105 rfl) (Tryz_spec_l6Newest (H3.sees 0 rfl)) (fun v1 w4 r1 => ?_)))))
  obtain ⟨e4, rfl⟩ := r1
  have H4 := H3.to e4
  refine sM rfl rfl (sV rfl (py_neq rfl rfl) (sA rfl rfl (s_nil (rT hQ Tryz.results140 rfl ?_))))
  exact ⟨H4.ext, congrArg Value.bool (by rw [spent_1 (by omega), drop_any ha (by unfold itP; rw [decide_eq_true (by omega)]; simp)]; simp)⟩
 ·refine W_skip (W_seq (W_sr (sV rfl (py_field tu68 rfl ts2 rfl rfl) (sV rfl (py_load tu2 rfl rfl (cell_atL (H3.box 1 rfl) rfl)) (sV rfl (py_eql rfl rfl) (s_nil (W_ifd rfl (fun c2 => ?_) (fun c2 => ?_))))))))
  ·refine W_sr (sV rfl (py_loadS tu34 rfl ts34 rfl rfl (At.whole (H3.box 0 rfl))) (sM rfl rfl (sV rfl (py_loadS tu68 rfl ts68 rfl rfl (At.whole (H3.box 1 rfl))) (s_call (wn rfl) rfl rfl (pc_call Tryz.func234 rfl Tryz_nm234 rfl) (Tryz_spec_l6Settled (H3.sees 0 rfl) (by assumption) (H3.sees 1 rfl) (H3.sees 2 rfl) (H3.sees 3 rfl) (by first | assumption | omega)) (fun v2 w5 r2 => ?_)))))
   obtain ⟨e5, rfl⟩ := r2
   have H5 := H3.to e5
   refine sA rfl rfl (s_nil (rT hQ Tryz.results140 rfl ?_))
   exact ⟨H5.ext, congrArg Value.bool (by rw [spent_2 (by omega)])⟩
  ·refine W_skip (W_seq (W_sr (sA rfl rfl (s_nil (W_block (W_loopS (γ := Nat) H3 [(1, _), (7, _)] ⟨rfl, rfl, trivial⟩ (fun k => [(8, .int .i64 k)]) (fun k => k ≤ xs.length ∧ ((xs.getD a default).Kind = 3 → ∀ i, i < k → mvP (xs.getD a default).Seq (xs.getD i default) = false) ∧ ((xs.getD a default).Kind = 4 → ∀ i, i < k → spS (xs.getD a default) (xs.getD i default) = false)) (fun k => xs.length - k) 0 ⟨rfl, trivial⟩ ⟨by omega, fun _ i hi => by omega, fun _ i hi => by omega⟩ (fun k w6 H6 ⟨hk_, he, he4⟩ => ?_)))))))
   dsimp only [lCA, lNA]
   refine W_seq (W_sr (sM rfl rfl (sM rfl rfl (sV rfl (py_len tu30 rfl) (sV rfl (py_lss rfl rfl) (s_nil (W_ifd rfl (fun c3 => ?_) (fun c3 => ?_))))))))
   ·refine W_skip (W_seq (W_block (W_seq ?_)))
    obtain ⟨eb2, eo5, es2, ef2, ee2, ec2, eO2, eH2, em2⟩ := elem_st (H6.seen 0 rfl) k (by omega)
    obtain ⟨ea4, ek4, ea5, ek5, ea6, ek6, eg4, eg5, eg6, rfl, eq2, eK2, eo6, eo7, eo8⟩ := own_Rec eO2
    have eK2U := eK2
    unfold Rec.Ok at eK2U
    try unfold I64ok at eK2U
    try unfold maxLen at eK2U
    have eP4 := H6.look1 0 rfl eo6 (fun b hb => eH2 b (by rw [eq2]; simp [hb]))
    have eL4 := oL eo6
    have eP5 := eP4.look1 0 rfl eo7 (fun b hb => eH2 b (by rw [eq2]; simp [hb]))
    have eL5 := oL eo7
    have eP6 := eP5.look1 0 rfl eo8 (fun b hb => eH2 b (by rw [eq2]; simp [hb]))
    have eL6 := oL eo8
    refine W_reg (sM rfl rfl (sM rfl rfl (sV rfl (py_elz tu30 ts68 rfl rfl ee2 k (by omega) (by omega)) (sV rfl (py_loadS tu68 rfl ts68 rfl rfl ec2) (s_var (wn rfl) rfl Tryz.zeroValue68 eP6 (fun b3 w7 e6 g3 H7 => ?_))))))
    refine s_stoS (wn rfl) ts68 rfl rfl rfl rfl H7 2 rfl rfl (fun w8 e7 H8 => ?_)
    dsimp only [lNA, lCA, lSZ, lSS, layL] at H8
    refine s_nil (W_seq (W_sr (sV rfl (py_field tu68 rfl ts2 rfl rfl) (sV rfl (py_load tu2 rfl rfl (cell_atL (H8.box 1 rfl) rfl)) (sV rfl (py_eql rfl rfl) (sM rfl rfl (s_grp 3 (j := 3) (want := true) (t := 46) rfl rfl rfl rfl (fun hg1 kk1 => s_val (wgE rfl rfl rfl hg1) rfl rfl (py_field tu68 rfl ts2 rfl rfl) (s_val (wgE rfl rfl rfl hg1) rfl rfl (py_load tu2 rfl rfl (cell_atL (H8.box 2 rfl) rfl)) (s_val (wgE rfl rfl rfl hg1) rfl rfl (py_eql rfl rfl) (kk1 _ _ (kx rfl (kx rfl (kx rfl k0))) rfl Ext.refl)))) (fun w9 e8 => ?_))))))))
    have H9 := H8.to e8
    refine sV rfl (py_band rfl rfl) (sM rfl rfl (s_grp 5 (j := 8) (want := true) (t := 53) rfl rfl rfl rfl (fun hg2 kk2 => s_val (wgE rfl rfl rfl hg2) rfl rfl (py_field tu68 rfl ts2 rfl rfl) (s_val (wgE rfl rfl rfl hg2) rfl rfl (py_load tu2 rfl rfl (cell_atL (H9.box 2 rfl) rfl)) (s_val (wgE rfl rfl rfl hg2) rfl rfl (py_field tu68 rfl ts2 rfl rfl) (s_val (wgE rfl rfl rfl hg2) rfl rfl (py_load tu2 rfl rfl (cell_atL (H9.box 1 rfl) rfl)) (s_val (wgE rfl rfl rfl hg2) rfl rfl (py_eql rfl rfl) (kk2 _ _ (kx rfl (kx rfl (kx rfl (kx rfl (kx rfl k0))))) rfl Ext.refl)))))) (fun w10 e9 => ?_)))
    have H10 := H9.to e9
    refine sV rfl (py_band rfl rfl) (s_nil (W_if rfl (fun c4 => ?_) (fun c4 => ?_)))
    ·refine W_sr (sA rfl rfl (s_nil (rT hQ Tryz.results140 rfl ?_)))
     have hc := c4
     have h3 : (xs.getD a default).Kind = 3 := by simp only [Bool.and_eq_true, decide_eq_true_eq] at hc; omega
     exact ⟨H10.ext, congrArg Value.bool (by rw [spent_3 h3, anyR_yes (k := k) (by omega) (by simp only [h3] at hc; simpa [mvP, Bool.and_assoc] using hc)]; rfl)⟩
    ·refine W_skip (W_sr (sV rfl (py_field tu68 rfl ts2 rfl rfl) (sV rfl (py_load tu2 rfl rfl (cell_atL (H10.box 1 rfl) rfl)) (sV rfl (py_eql rfl rfl) (sM rfl rfl (s_grp 36 (j := 3) (want := true) (t := 94) rfl rfl rfl rfl (fun hg3 kk3 => s_val (wgE rfl rfl rfl hg3) rfl rfl (py_field tu68 rfl ts2 rfl rfl) (s_val (wgE rfl rfl rfl hg3) rfl rfl (py_load tu2 rfl rfl (cell_atL (H10.box 2 rfl) rfl)) (s_val (wgE rfl rfl rfl hg3) rfl rfl (py_eql rfl rfl) (s_val (wgE rfl rfl rfl hg3) rfl rfl (py_move rfl) (s_grp 5 (j := 7) (want := true) (t := 67) rfl rfl rfl rfl (fun hg4 kk4 => s_val (wgE rfl rfl rfl hg4) rfl rfl (py_field tu68 rfl ts2 rfl rfl) (s_val (wgE rfl rfl rfl hg4) rfl rfl (py_load tu2 rfl rfl (cell_atL (H10.box 2 rfl) rfl)) (s_val (wgE rfl rfl rfl hg4) rfl rfl (py_field tu68 rfl ts2 rfl rfl) (s_val (wgE rfl rfl rfl hg4) rfl rfl (py_load tu2 rfl rfl (cell_atL (H10.box 1 rfl) rfl)) (s_val (wgE rfl rfl rfl hg4) rfl rfl (py_eql rfl rfl) (kk4 _ _ (kx rfl (kx rfl (kx rfl (kx rfl (kx rfl k0))))) rfl Ext.refl)))))) (fun w12 e11 => s_val (wgE rfl rfl rfl hg3) rfl rfl (py_band rfl rfl) (s_val (wgE rfl rfl rfl hg3) rfl rfl (py_move rfl) (s_grp 24 (j := 14) (want := false) (t := 93) rfl rfl rfl rfl (fun hg5 kk5 => s_val (wgE rfl rfl rfl hg5) rfl rfl (py_field tu68 rfl ts2 rfl rfl) (s_val (wgE rfl rfl rfl hg5) rfl rfl (py_load tu2 rfl rfl (cell_atL ((H10.to e11).box 2 rfl) rfl)) (s_val (wgE rfl rfl rfl hg5) rfl rfl (py_eql rfl rfl) (s_val (wgE rfl rfl rfl hg5) rfl rfl (py_move rfl) (s_grp 5 (j := 18) (want := true) (t := 78) rfl rfl rfl rfl (fun hg6 kk6 => s_val (wgE rfl rfl rfl hg6) rfl rfl (py_field tu68 rfl ts2 rfl rfl) (s_val (wgE rfl rfl rfl hg6) rfl rfl (py_load tu2 rfl rfl (cell_atL ((H10.to e11).box 2 rfl) rfl)) (s_val (wgE rfl rfl rfl hg6) rfl rfl (py_field tu68 rfl ts2 rfl rfl) (s_val (wgE rfl rfl rfl hg6) rfl rfl (py_load tu2 rfl rfl (cell_atL ((H10.to e11).box 1 rfl) rfl)) (s_val (wgE rfl rfl rfl hg6) rfl rfl (py_eql rfl rfl) (kk6 _ _ (kx rfl (kx rfl (kx rfl (kx rfl (kx rfl k0))))) rfl Ext.refl)))))) (fun w14 e13 => s_val (wgE rfl rfl rfl hg5) rfl rfl (py_band rfl rfl) (s_val (wgE rfl rfl rfl hg5) rfl rfl (py_move rfl) (s_grp 5 (j := 25) (want := true) (t := 85) rfl rfl rfl rfl (fun hg7 kk7 => s_val (wgE rfl rfl rfl hg7) rfl rfl (py_field tu68 rfl ts2 rfl rfl) (s_val (wgE rfl rfl rfl hg7) rfl rfl (py_load tu2 rfl rfl (cell_atL (((H10.to e11).to e13).box 2 rfl) rfl)) (s_val (wgE rfl rfl rfl hg7) rfl rfl (py_field tu68 rfl ts2 rfl rfl) (s_val (wgE rfl rfl rfl hg7) rfl rfl (py_load tu2 rfl rfl (cell_atL (((H10.to e11).to e13).box 1 rfl) rfl)) (s_val (wgE rfl rfl rfl hg7) rfl rfl (py_eql rfl rfl) (kk7 _ _ (kx rfl (kx rfl (kx rfl (kx rfl (kx rfl k0))))) rfl Ext.refl)))))) (fun w15 e14 => s_val (wgE rfl rfl rfl hg5) rfl rfl (py_band rfl rfl) (s_val (wgE rfl rfl rfl hg5) rfl rfl (py_move rfl) (s_grp 5 (j := 32) (want := true) (t := 92) rfl rfl rfl rfl (fun hg8 kk8 => s_val (wgE rfl rfl rfl hg8) rfl rfl (py_field tu68 rfl ts2 rfl rfl) (s_val (wgE rfl rfl rfl hg8) rfl rfl (py_load tu2 rfl rfl (cell_atL ((((H10.to e11).to e13).to e14).box 2 rfl) rfl)) (s_val (wgE rfl rfl rfl hg8) rfl rfl (py_field tu68 rfl ts2 rfl rfl) (s_val (wgE rfl rfl rfl hg8) rfl rfl (py_load tu2 rfl rfl (cell_atL ((((H10.to e11).to e13).to e14).box 1 rfl) rfl)) (s_val (wgE rfl rfl rfl hg8) rfl rfl (py_gtr rfl rfl) (kk8 _ _ (kx rfl (kx rfl (kx rfl (kx rfl (kx rfl k0))))) rfl Ext.refl)))))) (fun w16 e15 => s_val (wgE rfl rfl rfl hg5) rfl rfl (py_band rfl rfl) (kk5 _ _ (kx rfl (kx rfl (kx rfl (kx rfl (kx rfl (kx rfl (kx rfl (kx rfl (kx rfl (kx rfl (kx rfl (kx rfl k0)))))))))))) rfl (((Ext.refl.trans e13).trans e14).trans e15)))))))))))))) (fun w13 e12 => s_val (wgE rfl rfl rfl hg3) rfl rfl (py_bor rfl rfl) (kk3 _ _ (kx rfl (kx rfl (kx rfl (kx rfl (kx rfl (kx rfl (kx rfl (kx rfl (kx rfl k0))))))))) rfl ((Ext.refl.trans e11).trans e12))))))))))) (fun w11 e10 => ?_)))))))
     have H16 := H10.to e10
     refine sV rfl (py_band rfl rfl) (s_nil (W_if rfl (fun c5 => ?_) (fun c5 => ?_)))
     ·refine W_sr (sA rfl rfl (s_nil (rT hQ Tryz.results140 rfl ?_)))
      have hc := c5
      have h4 : (xs.getD a default).Kind = 4 := by simp only [Bool.and_eq_true, decide_eq_true_eq] at hc; omega
      exact ⟨H16.ext, congrArg Value.bool (by rw [spent_4 h4, anyR_yes (k := k) (by omega) (by simp only [h4] at hc; simpa [spS, Bool.and_assoc] using hc)])⟩
     ·refine W_skip (W_reg (sM rfl rfl (sV rfl (py_add rfl rfl (in64 ⟨by omega, by omega⟩)) (sA rfl rfl (s_nil (⟨k + 1, ⟨rfl, rfl, rfl, trivial⟩, ⟨((H16.ftake 4).dtake 2), by omega, fun h i hi => ?_, fun h i hi => ?_⟩, by dsimp only; omega⟩))))))
      ·by_cases e : i = k
       ·subst e
        have hc := c4
        simp only [h] at hc
        simpa [mvP, Bool.and_assoc] using hc
       ·exact he h i (by omega)
      ·by_cases e : i = k
       ·subst e
        have hc := c5
        simp only [h] at hc
        simpa [spS, Bool.and_assoc] using hc
       ·exact he4 h i (by omega)
   ·refine W_exit (W_sr (sV rfl (py_field tu68 rfl ts2 rfl rfl) (sV rfl (py_load tu2 rfl rfl (cell_atL (H6.box 1 rfl) rfl)) (sV rfl (py_eql rfl rfl) (sA rfl rfl (s_nil (rT hQ Tryz.results140 rfl ?_)))))))
    by_cases h3 : (xs.getD a default).Kind = 3
    ·exact ⟨H6.ext, congrArg Value.bool (by rw [spent_3 h3, anyR_none (fun i hi => he h3 i (by omega)), decide_eq_true h3]; rfl)⟩
    ·exact ⟨H6.ext, congrArg Value.bool (by rw [spent_4 (by omega), anyR_none (fun i hi => he4 (by omega) i (by omega)), decide_eq_false h3])⟩
theorem Tryz_impl_World_spentRecs {w : World} {zb zC9 zC10 zC11 : Nat} {z : Wld} {zA9 zA10 zA11 : Option Addr} {zF9 zF10 zF11 : List Nat} (zB : w.heap[zb]? = some (.cells [.int .i64 z.Shape.Groups, .int .i64 z.Shape.Column, .int .i64 z.Shape.Data, .int .i64 z.Shape.Spare, .int .i64 z.Shape.Rows, .int .i64 z.Shape.Cap, .int .i64 z.Shape.Batch, .int .i64 z.Shape.Queue, .int .i64 z.Shape.Stage, .slice zA9 z.Groups.length zC9, .slice zA10 z.On.length zC10, .slice zA11 z.Tapes.length zC11, .int .i64 z.Writes, .int .i64 z.Stop, .bool z.Down].toArray 38)) (zK : z.Ok) (zO9 : own false w [.slice zA9 z.Groups.length zC9] z.Groups zF9) (zO10 : own false w [.slice zA10 z.On.length zC10] z.On zF10) (zO11 : own false w [.slice zA11 z.Tapes.length zC11] z.Tapes zF11) (hw : worldF z = 0) : Ret Tryz.prog 220 #[.pointer (some ⟨zb, 0, none⟩)] w fun v w' => Ext No w w' ∧ (∃ vs, Res w w' [v] vs ∧ RdV w' zF11 vs ∧ vs.map RecV.r = spentL z) := by
 have zK2 := zK
 unfold Wld.Ok Shape.Ok at zK2
 try unfold I64ok at zK2
 try unfold maxLen at zK2
 have zL9 := oL zO9
 have zL10 := oL zO10
 have zL11 := oL zO11
 have hs := (worldF_ok hw).1
 have hT := (worldF_ok hw).2.2.2.1
 have hrl := recs_bd hw
 have sbd := shape_bd hs
 refine ret_Q (vs := [.pointer (some ⟨zb, 0, none⟩)]) Tryz.func220 rfl Tryz.ntmps220 rfl (fun Q hQ hN => ?_)
 have H0 := Sep.start (w := w) (F := [box zb (.cells [.int .i64 z.Shape.Groups, .int .i64 z.Shape.Column, .int .i64 z.Shape.Data, .int .i64 z.Shape.Spare, .int .i64 z.Shape.Rows, .int .i64 z.Shape.Cap, .int .i64 z.Shape.Batch, .int .i64 z.Shape.Queue, .int .i64 z.Shape.Stage, .slice zA9 z.Groups.length zC9, .slice zA10 z.On.length zC10, .slice zA11 z.Tapes.length zC11, .int .i64 z.Writes, .int .i64 z.Stop, .bool z.Down].toArray 38), seen false [.slice zA9 z.Groups.length zC9] z.Groups zF9, seen false [.slice zA10 z.On.length zC10] z.On zF10, seen false [.slice zA11 z.Tapes.length zC11] z.Tapes zF11]) (all_cons (by exact zB) (all_cons zO9 (all_cons zO10 (all_cons zO11 (by simp)))))
 refine W_sr (sA rfl rfl (s_nil (W_sr (sM rfl rfl (s_call (wn rfl) rfl rfl (pc_call Tryz.func99 rfl Tryz_nm99 rfl) (Tryz_impl_World_counted (H0.fbox 0 rfl) (by assumption) (own_weak (H0.seen 1 rfl)) (own_weak (H0.seen 2 rfl)) (own_weak (H0.seen 3 rfl)) (by first | assumption | omega) (by first | assumption | omega)) (fun v1 w1 r1 => ?_))))))
 obtain ⟨e1, vs1, r1, hR1, hM1⟩ := r1
 obtain ⟨fp1, H1⟩ := H0.res e1 r1
 obtain ⟨sa1, sk1, sq1⟩ := own_slice (H1.mine 0 rfl)
 cases sq1
 have hl1 : vs1.length = (cntL z).length := by rw [← hM1, List.length_map]
 have hb1 := cntL_bd (z := z) (by first | assumption | omega) (by assumption)
 have hRw1 : RdV w zF11 vs1 := hR1.back H1.ext (Rp.lt zO11)
 refine s_lit0 (α := RecV) (wn rfl) rfl tu30 Tryz_ty68 H1 (fun b1 w2 e2 g1 H2 => ?_)
 refine sA rfl rfl (sA rfl rfl (s_nil (W_sr (sM rfl rfl (sV rfl (py_len tu30 rfl) (s_make (wn rfl) rfl tu255 Tryz_ty4 own_zb rfl (by omega) (by unfold maxLen; omega) H2 (fun b2 w3 e3 g2 H3 => ?_)))))))
 refine sA rfl rfl (s_nil (W_seq (W_sr (sM rfl rfl (sV rfl (py_len tu30 rfl) (sM rfl rfl (s_nil (W_block (W_loopA (α := Bool) (γ := Nat × List Bool) (fun (k, bs) => bs) (0, _) H3 2 rfl 5 rfl [(0, _), (2, _), (3, _), (4, _), (19, _)] ⟨rfl, rfl, rfl, rfl, rfl, trivial⟩ (fun (k, bs) => [(20, .int .i64 k)]) (fun (k, bs) => k ≤ (cntL z).length ∧ bs.length = (cntL z).length ∧ ∀ i, i < k → bs.getD i false = spent z.Shape (cntL z) i) (fun (k, bs) => (cntL z).length - k) ⟨rfl, trivial⟩ ⟨by (try dsimp only); omega, by (try dsimp only); simp; omega, fun i hi => by omega⟩ (fun (k, bs) vA1 fA1 w4 H4 ⟨hk, hbl, hbs⟩ => ?_))))))))))
 dsimp only [lCA, lNA, lSZ, lSS] at H4 ⊢
 refine W_sr (sV rfl (py_lss rfl rfl) (s_nil (W_seq (W_ifd rfl (fun c1 => ?_) (fun c1 => ?_)))))
 ·refine W_skip (W_seq (W_block (W_sr (sM rfl rfl (sA rfl rfl (s_nil ?_))))))
  obtain ⟨oa1, ok1, oq1⟩ := own_slice (H4.mine 2 rfl)
  cases oq1
  obtain ⟨eb1, eo1, ee1, ec1⟩ := elem_bool (H4.mine 2 rfl) k (by omega)
  refine W_reg (sM rfl rfl (sM rfl rfl (sM rfl rfl (sM rfl rfl (sM rfl rfl ?_)))))
  have lc := Tryz_spent_any (xs := vs1.map RecV.r) (a := k) (H4.fbox 0 rfl) (by assumption) (own_weak (H4.seen 1 rfl)) (own_weak (H4.seen 2 rfl)) (own_weak (H4.seen 3 rfl)) (by rw [List.length_map]; exact (hRw1.to H4.ext).list (H4.mine 0 rfl)) hs (by rw [List.length_map]; omega) (by rw [hM1]; exact cnt_kind hw (by rw [getD_el (by omega)]; exact List.getElem_mem _))
  rw [List.length_map, hM1] at lc
  refine s_call (wn rfl) rfl rfl (pc_call Tryz.func149 rfl Tryz_nm149 rfl) lc (fun v2 w5 r2 => ?_)
  obtain ⟨e4, rfl⟩ := r2
  have H5 := H4.to e4
  refine sV rfl (py_elz tu255 ts4 rfl rfl ee1 k (by omega) (by omega)) (s_elst (wn rfl) ts4 rfl H5 2 rfl k (by omega) rfl ee1 rfl own_bl (fun w6 fp2 e5 H6 => ?_))
  refine s_nil (W_reg (sV rfl (py_add rfl rfl (in64 ⟨by omega, by omega⟩)) (sM rfl rfl (s_nil ?_))))
  exact ⟨((k + 1, bs.set k (spent z.Shape (cntL z) k)), _, _), ⟨rfl, rfl, rfl, rfl, rfl, rfl, rfl, trivial⟩, ⟨H6, by (try dsimp only); omega, by (try dsimp only); rw [List.length_set]; exact hbl, bset (by omega) hbs⟩, by dsimp only; omega⟩
 ·refine W_exit (W_seq (W_sr (sM rfl rfl (sV rfl (py_len tu30 rfl) (sM rfl rfl (s_nil (W_block (W_loopA (α := RecV) (γ := Nat × List RecV) (fun (k, vv) => vv) (0, []) H4 1 rfl 4 rfl [(2, _), (3, _), (5, _), (31, _), (32, _)] ⟨rfl, rfl, rfl, rfl, rfl, trivial⟩ (fun (k, vv) => [(33, .int .i64 k)]) (fun (k, vv) => k ≤ (cntL z).length ∧ RdV w zF11 vv ∧ vv.map RecV.r = slTo z.Shape (cntL z) k) (fun (k, vv) => (cntL z).length - k) ⟨rfl, trivial⟩ ⟨by (try dsimp only); omega, RdV.nil, rfl⟩ (fun (k, vv) vA2 fA2 w7 H7 ⟨hk2, hRv, hMv⟩ => ?_)))))))))
  dsimp only [lCA, lNA, lSZ, lSS] at H7 ⊢
  refine W_sr (sV rfl (py_lss rfl rfl) (s_nil (W_seq (W_ifd rfl (fun c2 => ?_) (fun c2 => ?_)))))
  ·refine W_skip (W_seq (W_block (W_seq ?_)))
   obtain ⟨oa2, ok2, oq2⟩ := own_slice (H7.mine 2 rfl)
   cases oq2
   obtain ⟨eb2, eo2, ee2, ec2, eK1⟩ := H7.viewAt 0 rfl k (by omega)
   refine W_reg (sV rfl (py_elz tu30 ts68 rfl rfl ee2 k (by omega) (by omega)) (sV rfl (py_loadS tu68 rfl ts68 rfl rfl ec2) (s_var (wn rfl) rfl Tryz.zeroValue68 H7 (fun b3 w8 e6 g3 H8 => ?_))))
   refine s_stoS (wn rfl) ts68 rfl rfl rfl rfl H8 3 rfl rfl (fun w9 e7 H9 => ?_)
   dsimp only [lNA, lCA, lSZ, lSS, layL] at H9
   refine s_nil (W_seq ?_)
   have hel : (vs1.getD k default).r = (cntL z).getD k default := map_getD hM1 (by omega)
   have htp : (vs1.getD (vs1.length - 1) default).r.Seq = topS (cntL z) := topS_map hM1 (by omega)
   obtain ⟨eb3, eo3, ee3, ec3, eK2⟩ := H9.viewAt 0 rfl (vs1.length - 1) (by omega)
   refine W_drw (S := Ext No _) [(0, true), (1, true), (2, true), (3, true), (4, true), (5, true), (6, true), (7, true), (8, true), (9, true), (10, false)] (by kernel_rfl) (by kernel_rfl) (by kernel_rfl) rfl (fun _ => Ext.refl.drawn _) (fun q1 => ?_)
   have H10 := H9.drawn q1
   refine dV rfl rfl (fun zw hx => py_field tu68 rfl ts2 rfl rfl) (dV rfl rfl (fun zw hx => py_load tu2 rfl rfl (cell_atL (hx.heap (H10.box 3 rfl)) rfl)) (dM rfl rfl rfl (dM rfl rfl rfl (dV rfl rfl (fun zw hx => py_len tu30 rfl) (dV rfl rfl (fun zw hx => py_sub rfl rfl (in64 ⟨by omega, by omega⟩)) (dV rfl rfl (fun zw hx => py_elz tu30 ts68 rfl rfl ee3 (vs1.length - 1) (by omega) (by omega)) (dV rfl rfl (fun zw hx => py_field tu68 rfl ts2 rfl rfl) (dV rfl rfl (fun zw hx => py_load tu2 rfl rfl (at_cell (hx.at ec3) 1 rfl)) (dV rfl rfl (fun zw hx => py_lss rfl rfl) (d_end rfl (wn rfl) rfl rfl (py_assign rfl) (d_nil (W_seq (W_sr (sM rfl rfl (sV rfl (py_len tu30 rfl) (sM rfl rfl (s_nil (W_block (W_loopS (γ := Nat) H10 [(2, _), (3, _), (4, _), (5, _), (8, _), (31, _), (32, _), (33, _), (47, _), (48, _)] ⟨rfl, rfl, rfl, rfl, rfl, rfl, rfl, rfl, rfl, rfl, trivial⟩ (fun j => [(9, .bool (slFl z.Shape (cntL z) (vs1.getD k default).r j)), (49, .int .i64 j)]) (fun j => j ≤ (cntL z).length ∧ True) (fun j => (cntL z).length - j) 0 ⟨eqB (by rw [slFl, htp]), rfl, trivial⟩ ⟨by omega, trivial⟩ (fun j w10 H11 ⟨hj, _⟩ => ?_))))))))))))))))))))
   dsimp only [lCA, lNA]
   refine W_sr (sV rfl (py_lss rfl rfl) (s_nil (W_seq (W_ifd rfl (fun c3 => ?_) (fun c3 => ?_)))))
   ·refine W_skip (W_seq (W_block (W_seq ?_)))
    obtain ⟨eb4, eo4, ee4, ec4, eK3⟩ := H11.viewAt 0 rfl j (by omega)
    refine W_reg (sM rfl rfl (sV rfl (py_elz tu30 ts68 rfl rfl ee4 j (by omega) (by omega)) (sV rfl (py_loadS tu68 rfl ts68 rfl rfl ec4) (s_var (wn rfl) rfl Tryz.zeroValue68 H11 (fun b4 w11 e8 g4 H12 => ?_)))))
    refine sA rfl rfl (s_stoS (wn rfl) ts68 rfl rfl rfl rfl H12 4 rfl rfl (fun w12 e9 H13 => ?_))
    dsimp only [lNA, lCA, lSZ, lSS, layL] at H13
    refine s_nil ?_
    obtain ⟨eb5, eo5, ee5, ec5⟩ := elem_bool (H13.mine 2 rfl) j (by omega)
    refine W_reg (sM rfl rfl (sM rfl rfl (s_grp 18 (j := 1) (want := true) (t := 73) rfl rfl rfl rfl (fun hg1 kk1 => s_val (wgE rfl rfl rfl hg1) rfl rfl (py_move rfl) (s_val (wgE rfl rfl rfl hg1) rfl rfl (py_move rfl) (s_val (wgE rfl rfl rfl hg1) rfl rfl (py_elz tu255 ts4 rfl rfl ee5 j (by first | omega | (simp only [Bool.or_eq_false_iff, Bool.and_eq_true, Bool.and_eq_false_iff, Bool.or_eq_true, Bool.not_eq_true', Bool.not_eq_false', decide_eq_true_eq, decide_eq_false_iff_not] at hg1; omega)) (by omega)) (s_val (wgE rfl rfl rfl hg1) rfl rfl (py_load tu4 rfl rfl ec5) (s_val (wgE rfl rfl rfl hg1) rfl rfl (py_move rfl) (s_grp 5 (j := 6) (want := false) (t := 65) rfl rfl rfl rfl (fun hg2 kk2 => s_val (wgE rfl rfl rfl hg2) rfl rfl (py_field tu68 rfl ts2 rfl rfl) (s_val (wgE rfl rfl rfl hg2) rfl rfl (py_load tu2 rfl rfl (cell_atL (H13.box 4 rfl) rfl)) (s_val (wgE rfl rfl rfl hg2) rfl rfl (py_field tu68 rfl ts2 rfl rfl) (s_val (wgE rfl rfl rfl hg2) rfl rfl (py_load tu2 rfl rfl (cell_atL (H13.box 3 rfl) rfl)) (s_val (wgE rfl rfl rfl hg2) rfl rfl (py_neq rfl rfl) (kk2 _ _ (kx rfl (kx rfl (kx rfl (kx rfl (kx rfl k0))))) rfl Ext.refl)))))) (fun w14 e11 => s_val (wgE rfl rfl rfl hg1) rfl rfl (py_bor rfl rfl) (s_val (wgE rfl rfl rfl hg1) rfl rfl (py_move rfl) (s_grp 5 (j := 13) (want := false) (t := 72) rfl rfl rfl rfl (fun hg3 kk3 => s_val (wgE rfl rfl rfl hg3) rfl rfl (py_field tu68 rfl ts2 rfl rfl) (s_val (wgE rfl rfl rfl hg3) rfl rfl (py_load tu2 rfl rfl (cell_atL ((H13.to e11).box 4 rfl) rfl)) (s_val (wgE rfl rfl rfl hg3) rfl rfl (py_field tu68 rfl ts2 rfl rfl) (s_val (wgE rfl rfl rfl hg3) rfl rfl (py_load tu2 rfl rfl (cell_atL ((H13.to e11).box 3 rfl) rfl)) (s_val (wgE rfl rfl rfl hg3) rfl rfl (py_neq rfl rfl) (kk3 _ _ (kx rfl (kx rfl (kx rfl (kx rfl (kx rfl k0))))) rfl Ext.refl)))))) (fun w15 e12 => s_val (wgE rfl rfl rfl hg1) rfl rfl (py_bor rfl rfl) (kk1 _ _ (kx rfl (kx rfl (kx rfl (kx rfl (kx rfl (kx rfl (kx rfl (kx rfl (kx rfl (kx rfl k0)))))))))) rfl ((Ext.refl.trans e11).trans e12)))))))))))) (fun w13 e10 => ?_))))
    have H16 := H13.to e10
    refine sV rfl (py_band rfl rfl) (sA rfl rfl (s_nil (W_reg (sV rfl (py_add rfl rfl (in64 ⟨by omega, by omega⟩)) (sM rfl rfl (s_nil ?_))))))
    exact ⟨j + 1, ⟨eqB (by rw [slFl, ← hbs j (by omega), ← map_getD hM1 (show j < vs1.length by omega)]; simp only [Bool.or_assoc, ne_eq, decide_not]), rfl, rfl, rfl, rfl, rfl, rfl, rfl, rfl, rfl, rfl, rfl, trivial⟩, ⟨(H16.dtake 4), by (try dsimp only); omega, trivial⟩, by dsimp only; omega⟩
   ·refine W_exit (W_seq ?_)
    have hjn : j = (cntL z).length := by omega
    have vvl : vv.length = (slTo z.Shape (cntL z) k).length := by rw [← hMv, List.length_map]
    have slk := slTo_len (s := z.Shape) (xs := cntL z) (k := k) (by omega)
    refine W_reg (sM rfl rfl (s_nil (W_if rfl (fun c4 => ?_) (fun c4 => ?_))))
    ·refine W_reg (sM rfl rfl (sV rfl (py_loadS tu68 rfl ts68 rfl rfl (At.whole (H11.box 3 rfl))) (s_lit1 (wn rfl) rfl tu30 Tryz_ty68 rfl rfl rfl rfl H11 (fun b5 w16 e13 g5 H17 => ?_))))
     refine s_app1 (wn rfl) rfl tu30 Tryz_ty68 rfl rfl rfl H17 1 4 rfl rfl (recv_own (v := (vs1.getD k default)) (by assumption)) (by unfold maxLen; omega) (by omega) (fun v3 w17 fp3 H18 => ?_)
     refine sA rfl rfl (s_nil (W_reg (sV rfl (py_add rfl rfl (in64 ⟨by omega, by omega⟩)) (sM rfl rfl (s_nil ?_)))))
     exact ⟨((k + 1, vv ++ [(vs1.getD k default)]), _, _), ⟨rfl, rfl, rfl, rfl, rfl, rfl, rfl, trivial⟩, ⟨(H18.dtake 3), by (try dsimp only); omega, hRv.snoc (hRw1.inAt (k := k) (by omega)), by (try dsimp only); rw [List.map_append, hMv, slTo_yes (by rw [← hel, ← hjn]; exact c4), ← hel]; rfl⟩, by dsimp only; omega⟩
    ·refine W_skip (W_reg (sV rfl (py_add rfl rfl (in64 ⟨by omega, by omega⟩)) (sM rfl rfl (s_nil ?_))))
     exact ⟨((k + 1, vv), _, _), ⟨rfl, rfl, rfl, rfl, rfl, rfl, rfl, trivial⟩, ⟨(H11.dtake 3), by (try dsimp only); omega, hRv, by (try dsimp only); rw [hMv, slTo_no (by rw [← hel, ← hjn]; simpa using c4)]⟩, by dsimp only; omega⟩
  ·refine W_exit (W_sr (sM rfl rfl (sA rfl rfl (s_nil (rT hQ Tryz.results220 rfl ?_)))))
   obtain rfl : k = (cntL z).length := by omega
   exact ⟨H7.ext, vv, H7.out 1 rfl, hRv.to H7.ext, hMv⟩
theorem Tryz_spec_l6Top {w : World} {vs : List RecV} {A : Option Addr} {n C : Nat} (vS : Sees w [.slice A n C] vs) (h0 : 0 < vs.length) : Ret Tryz.prog 296 #[.slice A n C] w fun v w' => Ext No w w' ∧ (v = .int .i64 (vs.getD (vs.length - 1) default).r.Seq) := by
 obtain ⟨f0, vO⟩ := vS
 obtain rfl := own_n vO
 have vL := oL vO
 refine ret_Q (vs := [.slice A vs.length C]) Tryz.func296 rfl Tryz.ntmps296 rfl (fun Q hQ hN => ?_)
 have H0 := Sep.start (w := w) (F := [seen false [.slice A vs.length C] vs f0]) (all_cons vO (by simp))
 refine W_sr (sA rfl rfl (s_nil (W_seq (W_sr (sM rfl rfl (sV rfl (py_len tu30 rfl) (sV rfl (py_eql rfl rfl) (s_nil (W_ifd rfl (fun c1 => ?_) (fun c1 => ?_))))))))))
 ·exact absurd c1 (by omega)
 ·refine W_skip (W_seq ?_)
  obtain ⟨eb1, eo1, ee1, ec1, eK1⟩ := H0.viewSeen 0 rfl (vs.length - 1) (by omega)
  refine W_reg (sM rfl rfl (sM rfl rfl (sV rfl (py_len tu30 rfl) (sV rfl (py_sub rfl rfl (in64 ⟨by omega, by omega⟩)) (sV rfl (py_elz tu30 ts68 rfl rfl ee1 (vs.length - 1) (by omega) (by omega)) (sV rfl (py_field tu68 rfl ts2 rfl rfl) (sV rfl (py_load tu2 rfl rfl (at_cell ec1 1 rfl)) (sA rfl rfl (s_nil (rT hQ Tryz.results296 rfl ?_))))))))))
  exact ⟨H0.ext, rfl⟩
theorem Tryz_spec_l6Spent {w : World} {s : Shape} {xs : List Rec} {vs : List RecV} {A : Option Addr} {n C : Nat} {ft : List Nat} (vS : Sees w [.slice A n C] vs) (hR : RdV w ft vs) (hM : vs.map RecV.r = xs) (hs : s.ok = true) (hl : xs.length ≤ 600000) (hkd : ∀ r ∈ xs, 1 ≤ r.Kind ∧ r.Kind ≤ 4) : Ret Tryz.prog 218 #[s.v, .slice A n C] w fun v w' => Ext No w w' ∧ (∃ us, Res w w' [v] us ∧ RdV w' ft us ∧ us.map RecV.r = slTo s xs xs.length) := by
 obtain ⟨f0, vO⟩ := vS
 obtain rfl := own_n vO
 have vL := oL vO
 have hvl : vs.length = xs.length := by rw [← hM, List.length_map]
 refine ret_Q (vs := [s.v, .slice A vs.length C]) Tryz.func218 rfl Tryz.ntmps218 rfl (fun Q hQ hN => ?_)
 have H0 := Sep.start (w := w) (F := [seen false [.slice A vs.length C] vs f0]) (all_cons vO (by simp))
 refine W_sr (s_box (wn rfl) rfl rfl H0 (fun b1 w1 e1 g1 H1 => ?_))
 refine sA rfl rfl (s_nil (W_sr (s_lit0 (α := RecV) (wn rfl) rfl tu30 Tryz_ty68 H1 (fun b2 w2 e2 g2 H2 => ?_))))
 refine sA rfl rfl (s_nil (W_seq (W_sr (sA rfl rfl (s_nil (W_block (W_loopA (α := RecV) (γ := Nat × List RecV) (fun (k, uu) => uu) (0, []) H2 1 rfl 5 rfl [(1, _), (2, _), (4, _)] ⟨rfl, rfl, rfl, trivial⟩ (fun (k, uu) => [(6, .int .i64 k)]) (fun (k, uu) => k ≤ xs.length ∧ RdV w ft uu ∧ uu.map RecV.r = slTo s xs k) (fun (k, uu) => xs.length - k) ⟨rfl, trivial⟩ ⟨by (try dsimp only); omega, RdV.nil, rfl⟩ (fun (k, uu) vA1 fA1 w3 H3 ⟨hk, hRv, hMv⟩ => ?_))))))))
 dsimp only [lCA, lNA, lSZ, lSS] at H3 ⊢
 refine W_seq (W_sr (sM rfl rfl (sM rfl rfl (sV rfl (py_len tu30 rfl) (sV rfl (py_lss rfl rfl) (s_nil (W_ifd rfl (fun c1 => ?_) (fun c1 => ?_))))))))
 ·refine W_skip (W_seq (W_block (W_seq ?_)))
  have hel : (vs.getD k default).r = xs.getD k default := map_getD hM (by omega)
  have htp : (vs.getD (vs.length - 1) default).r.Seq = topS xs := topS_map hM (by omega)
  obtain ⟨eb1, eo1, ee1, ec1, eK1⟩ := H3.viewSeen 0 rfl k (by omega)
  refine W_drw (S := Ext No _) [(0, true), (1, true), (2, true), (3, true), (4, true), (5, true), (6, false), (7, true), (8, false)] (by kernel_rfl) (by kernel_rfl) (by kernel_rfl) rfl (fun _ => Ext.refl.drawn _) (fun q1 => ?_)
  have H4 := H3.drawn q1
  refine dM rfl rfl rfl (dM rfl rfl rfl (dV rfl rfl (fun zw hx => py_elz tu30 ts68 rfl rfl ee1 k (by omega) (by omega)) (dV rfl rfl (fun zw hx => py_field tu68 rfl ts2 rfl rfl) (dV rfl rfl (fun zw hx => py_load tu2 rfl rfl (at_cell (hx.at ec1) 1 rfl)) (dM rfl rfl rfl (d_call rfl (wn rfl) rfl rfl (pc_call Tryz.func296 rfl Tryz_nm296 rfl) (Tryz_spec_l6Top (H4.sees 0 rfl) (by first | assumption | omega)) (fun hS _ _ r _ => hS.trans r.1.no) (fun v1 w4 r1 => ?_)))))))
  obtain ⟨e3, rfl⟩ := r1
  have H5 := H4.to e3
  refine dV rfl rfl (fun zw hx => py_lss rfl rfl) (d_end rfl (wn rfl) rfl rfl (py_assign rfl) (d_nil (W_seq (W_sr (sA rfl rfl (s_nil (W_block (W_loopS (γ := Nat) H5 [(1, _), (2, _), (4, _), (5, _), (6, _)] ⟨rfl, rfl, rfl, rfl, rfl, trivial⟩ (fun j => [(7, .bool (slFl s xs (vs.getD k default).r j)), (8, .int .i64 j)]) (fun j => j ≤ xs.length ∧ True) (fun j => xs.length - j) 0 ⟨eqB (by rw [slFl, htp]), rfl, trivial⟩ ⟨by omega, trivial⟩ (fun j w5 H6 ⟨hj, _⟩ => ?_)))))))))
  dsimp only [lCA, lNA]
  refine W_seq (W_sr (sM rfl rfl (sM rfl rfl (sV rfl (py_len tu30 rfl) (sV rfl (py_lss rfl rfl) (sM rfl rfl (s_grp 1 (j := 4) (want := true) (t := 29) rfl rfl rfl rfl (fun hg1 kk1 => s_val (wgE rfl rfl rfl hg1) rfl rfl (py_move rfl) (kk1 _ _ (kx rfl k0) rfl Ext.refl)) (fun w6 e4 => ?_))))))))
  have H7 := H6.to e4
  refine sV rfl (py_band rfl rfl) (s_nil (W_if rfl (fun c2 => ?_) (fun c2 => ?_)))
  ·refine W_skip (W_seq (W_block (W_seq ?_)))
   have hfl := c2
   simp only [Bool.and_eq_true, decide_eq_true_eq] at hfl
   have hej : (vs.getD j default).r = xs.getD j default := map_getD hM (by omega)
   obtain ⟨eb2, eo2, ee2, ec2, eK2⟩ := H7.viewSeen 0 rfl j (by omega)
   obtain ⟨eb3, eo3, ee3, ec3, eK3⟩ := H7.viewSeen 0 rfl k (by omega)
   refine W_drw (S := Ext No _) [(0, true), (1, true), (2, true), (3, true), (4, true), (5, true), (6, true), (7, true), (8, true), (9, true), (10, true), (11, true), (12, true), (13, true), (14, true), (15, true), (16, true), (17, true), (18, true), (19, true), (20, true), (21, true), (22, true), (23, false)] (by kernel_rfl) (by kernel_rfl) (by kernel_rfl) rfl (fun _ => Ext.refl.drawn _) (fun q2 => ?_)
   have H8 := H7.drawn q2
   refine dM rfl rfl rfl (dM rfl rfl rfl (dV rfl rfl (fun zw hx => py_elz tu30 ts68 rfl rfl ee2 j (by omega) (by omega)) (dV rfl rfl (fun zw hx => py_field tu68 rfl ts2 rfl rfl) (dV rfl rfl (fun zw hx => py_load tu2 rfl rfl (at_cell (hx.at ec2) 0 rfl)) (dM rfl rfl rfl (dM rfl rfl rfl (dV rfl rfl (fun zw hx => py_elz tu30 ts68 rfl rfl ee3 k (by omega) (by omega)) (dV rfl rfl (fun zw hx => py_field tu68 rfl ts2 rfl rfl) (dV rfl rfl (fun zw hx => py_load tu2 rfl rfl (at_cell (hx.at ec3) 0 rfl)) (dV rfl rfl (fun zw hx => py_eql rfl rfl) (dM rfl rfl rfl (d_case (t := 44) rfl (fun hg2 => ?_) (fun hg2 => ?_)))))))))))))
   ·try simp only [decide_eq_true_eq, decide_eq_false_iff_not] at hg2
    refine d_val rfl (wg rfl rfl rfl) rfl rfl (fun zw hx => py_move rfl) (d_val rfl (wg rfl rfl rfl) rfl rfl (fun zw hx => py_move rfl) (d_val rfl (wg rfl rfl rfl) rfl rfl (fun zw hx => py_elz tu30 ts68 rfl rfl ee2 j (by omega) (by omega)) (d_val rfl (wg rfl rfl rfl) rfl rfl (fun zw hx => py_field tu68 rfl ts2 rfl rfl) (d_val rfl (wg rfl rfl rfl) rfl rfl (fun zw hx => py_load tu2 rfl rfl (at_cell (hx.at ec2) 1 rfl)) (d_val rfl (wg rfl rfl rfl) rfl rfl (fun zw hx => py_move rfl) (d_val rfl (wg rfl rfl rfl) rfl rfl (fun zw hx => py_move rfl) (d_val rfl (wg rfl rfl rfl) rfl rfl (fun zw hx => py_elz tu30 ts68 rfl rfl ee3 k (by omega) (by omega)) (d_val rfl (wg rfl rfl rfl) rfl rfl (fun zw hx => py_field tu68 rfl ts2 rfl rfl) (d_val rfl (wg rfl rfl rfl) rfl rfl (fun zw hx => py_load tu2 rfl rfl (at_cell (hx.at ec3) 1 rfl)) (d_val rfl (wg rfl rfl rfl) rfl rfl (fun zw hx => py_eql rfl rfl) (d_end rfl (wn rfl) rfl rfl (py_pickT rfl rfl) (d_nil (W_ifd rfl (fun c3 => ?_) (fun c3 => ?_))))))))))))))
    ·refine W_reg (sV rfl (py_loadS tu34 rfl ts34 rfl rfl (At.whole (H8.box 0 rfl))) (sM rfl rfl (sM rfl rfl ?_)))
     have lc := Tryz_isSpent_any (s := s) (xs := vs.map RecV.r) (a := j) (by rw [List.length_map]; exact (hR.to H8.ext).list (H8.seen 0 rfl)) hs (by rw [List.length_map]; omega) (by rw [hM]; exact hkd _ (by rw [getD_el (by omega)]; exact List.getElem_mem _))
     rw [List.length_map, hM] at lc
     refine s_call (wn rfl) rfl rfl (pc_call Tryz.func140 rfl Tryz_nm140 rfl) lc (fun v2 w7 r2 => ?_)
     obtain ⟨e5, rfl⟩ := r2
     have H9 := H8.to e5
     refine sA rfl rfl (s_nil (W_reg (sM rfl rfl (sV rfl (py_add rfl rfl (in64 ⟨by omega, by omega⟩)) (sA rfl rfl (s_nil ?_))))))
     exact ⟨j + 1, ⟨eqB (slFl_same hfl.2 (by rw [← hej]; omega) (by rw [← hej]; omega)).symm, rfl, rfl, rfl, rfl, rfl, rfl, trivial⟩, ⟨H9, by (try dsimp only); omega, trivial⟩, by dsimp only; omega⟩
    ·refine W_skip (W_reg (sM rfl rfl (sV rfl (py_add rfl rfl (in64 ⟨by omega, by omega⟩)) (sA rfl rfl (s_nil ?_)))))
     exact ⟨j + 1, ⟨eqB (hfl.2.trans (slFl_diff hfl.2 (by rw [← hej]; omega)).symm), rfl, rfl, rfl, rfl, rfl, rfl, trivial⟩, ⟨H8, by (try dsimp only); omega, trivial⟩, by dsimp only; omega⟩
   ·try simp only [decide_eq_true_eq, decide_eq_false_iff_not] at hg2
    refine dKf rfl rfl rfl rfl (dKf rfl rfl rfl rfl (dKf rfl rfl rfl rfl (dKf rfl rfl rfl rfl (dKf rfl rfl rfl rfl (dKf rfl rfl rfl rfl (dKf rfl rfl rfl rfl (dKf rfl rfl rfl rfl (dKf rfl rfl rfl rfl (dKf rfl rfl rfl rfl (dKf rfl rfl rfl rfl (d_end rfl (wn rfl) rfl rfl (py_pickF rfl rfl) (d_nil (W_iff rfl (W_skip (W_reg (sM rfl rfl (sV rfl (py_add rfl rfl (in64 ⟨by omega, by omega⟩)) (sA rfl rfl (s_nil ?_)))))))))))))))))))
    exact ⟨j + 1, ⟨eqB (hfl.2.trans (slFl_diff hfl.2 (by rw [← hej]; omega)).symm), rfl, rfl, rfl, rfl, rfl, rfl, trivial⟩, ⟨H8, by (try dsimp only); omega, trivial⟩, by dsimp only; omega⟩
  ·refine W_exit (W_seq ?_)
   have vvl : uu.length = (slTo s xs k).length := by rw [← hMv, List.length_map]
   have slk := slTo_len (s := s) (xs := xs) (k := k) (by omega)
   refine W_reg (sM rfl rfl (s_nil (W_if rfl (fun c4 => ?_) (fun c4 => ?_))))
   ·obtain ⟨eb4, eo4, ee4, ec4, eK4⟩ := H7.viewSeen 0 rfl k (by omega)
    refine W_reg (sM rfl rfl (sM rfl rfl (sM rfl rfl (sV rfl (py_elz tu30 ts68 rfl rfl ee4 k (by omega) (by omega)) (sV rfl (py_loadS tu68 rfl ts68 rfl rfl ec4) (s_lit1 (wn rfl) rfl tu30 Tryz_ty68 rfl rfl rfl rfl H7 (fun b3 w8 e6 g3 H10 => ?_)))))))
    refine s_app1 (wn rfl) rfl tu30 Tryz_ty68 rfl rfl rfl H10 1 2 rfl rfl (recv_own (v := (vs.getD k default)) (by assumption)) (by unfold maxLen; omega) (by omega) (fun v3 w9 fp1 H11 => ?_)
    refine sA rfl rfl (s_nil (W_reg (sM rfl rfl (sV rfl (py_add rfl rfl (in64 ⟨by omega, by omega⟩)) (sA rfl rfl (s_nil ?_))))))
    have hjx : j = xs.length := by
     by_cases e : j = xs.length
     ·exact e
     ·exfalso
      have hx := c2
      rw [c4, Bool.and_true] at hx
      exact absurd (of_decide_eq_false hx) (by omega)
    exact ⟨((k + 1, uu ++ [(vs.getD k default)]), _, _), ⟨rfl, rfl, rfl, rfl, rfl, trivial⟩, ⟨(H11.dtake 2), by (try dsimp only); omega, hRv.snoc (hR.inAt (k := k) (by omega)), by (try dsimp only); rw [List.map_append, hMv, slTo_yes (by rw [← hel, ← hjx]; exact c4), ← hel]; rfl⟩, by dsimp only; omega⟩
   ·refine W_skip (W_reg (sM rfl rfl (sV rfl (py_add rfl rfl (in64 ⟨by omega, by omega⟩)) (sA rfl rfl (s_nil ?_)))))
    exact ⟨((k + 1, uu), _, _), ⟨rfl, rfl, rfl, rfl, rfl, trivial⟩, ⟨H7, by (try dsimp only); omega, hRv, by (try dsimp only); rw [hMv, slTo_noj (j := j) (by rw [← hel]; simpa using c4) (by omega)]⟩, by dsimp only; omega⟩
 ·refine W_exit (W_sr (sM rfl rfl (sA rfl rfl (s_nil (rT hQ Tryz.results218 rfl ?_)))))
  obtain rfl : k = xs.length := by omega
  exact ⟨H3.ext, uu, H3.out 1 rfl, hRv.to H3.ext, hMv⟩
theorem Tryz_impl_World_cleanTapes {w : World} {z : Wld} {zb : Nat} {fp : List Nat} (o : OwnW w zb 38 z fp) (nd : fp.Nodup) (hw : worldF z = 0) (hb : szWld z ≤ 1048576) : Ret Tryz.prog 130 #[.pointer (some ⟨zb, 0, none⟩)] w fun v w' => (v = .int .i64 (if (clnP z).1 = true then 0 else 9) ∧ MutW w w' fp zb 38 ((clnP z).2)) := by
 have hs := (worldF_ok hw).1
 obtain ⟨hw0, hw1, _, _⟩ := worldF_rng hw
 have hT := (worldF_ok hw).2.2.2.1
 have hsl := spent_len hw
 refine ret_Q (vs := [.pointer (some ⟨zb, 0, none⟩)]) Tryz.func130 rfl Tryz.ntmps130 rfl (fun Q hQ hN => ?_)
 have H0 := Sep.beginW o nd
 refine W_sr (sA rfl rfl (s_nil (W_seq ?_)))
 obtain ⟨wA1, wC1, wA2, wC2, wA3, wC3, wf1, wf2, wf3, wok1, H1⟩ := H0.openW 0 rfl
 try dsimp only [lNA, lCA, lSZ, lSS] at H1
 have wok1U := wok1
 unfold Wld.Ok Shape.Ok I64ok at wok1U
 have wL1 := oL (H1.mine 2 rfl)
 have wL2 := oL (H1.mine 3 rfl)
 have wL3 := oL (H1.mine 4 rfl)
 refine W_reg (sM rfl rfl (s_call (wn rfl) rfl rfl (pc_call Tryz.func220 rfl Tryz_nm220 rfl) (Tryz_impl_World_spentRecs (H1.box 0 rfl) (by assumption) (own_weak (H1.mine 2 rfl)) (own_weak (H1.mine 3 rfl)) (own_weak (H1.mine 4 rfl)) (by first | assumption | omega)) (fun v1 w1 r1 => ?_)))
 obtain ⟨e1, vs1, r1, hR1, hM1⟩ := r1
 obtain ⟨fp1, H2⟩ := H1.res e1 r1
 obtain ⟨sa1, sk1, sq1⟩ := own_slice (H2.mine 5 rfl)
 cases sq1
 have hl1 : vs1.length = (spentL z).length := by rw [← hM1, List.length_map]
 have lc := Tryz_big_impl_cloneRecs (xs := vs1.map RecV.r) (by rw [List.length_map]; exact hR1.list (H2.mine 5 rfl)) (by rw [List.length_map]; omega) (by rw [hM1]; intro i hi; have := spentL_sz (z := z) (r := (spentL z).getD i default) (by rw [getD_el hi]; exact List.getElem_mem _); omega)
 rw [List.length_map, hM1] at lc
 refine s_call (wn rfl) rfl rfl (pc_call Tryz.func108 rfl Tryz_nm108 rfl) lc (fun v2 w2 r2 => ?_)
 obtain ⟨e2, r2⟩ := r2
 obtain ⟨fp2, H3⟩ := H2.res e2 r2
 obtain ⟨a1, k1, q1⟩ := own_slice (H3.mine 6 rfl)
 cases q1
 refine sA rfl rfl (s_nil (W_seq (W_sr (sM rfl rfl (sV rfl (py_len tu30 rfl) (sM rfl rfl (s_nil (W_block ?_))))))))
 have H4 := H3.share 6 rfl
 try dsimp only [lNA, lCA, lSZ, lSS] at H4
 obtain ⟨fp3, H5⟩ := H4.closeW 0 2 3 4 z rfl rfl rfl rfl rfl rfl rfl rfl rfl rfl wok1
 try dsimp only [lNA, lCA, lSZ, lSS] at H5
 refine W_loop (γ := Nat × Wld × List Nat) (fun (i, zi, f) => [(0, .pointer (some ⟨zb, 0, none⟩)), (3, .slice a1 (spentL z).length k1), (10, .slice a1 (spentL z).length k1), (11, .int .i64 (spentL z).length), (12, .int .i64 i)]) (fun (i, zi, f) w' => Sep (· ∈ fp) w [wldR zb 38 zi f] [seen true [.slice a1 (spentL z).length k1] (spentL z) fp2] w' ∧ i ≤ (spentL z).length ∧ clnP z = clnI (spentL z) ((spentL z).length - i) i zi ∧ zi.Tapes.length = 2 ∧ zi.Writes ≤ z.Writes + 2 * i) (fun (i, zi, f) => (spentL z).length - i) (0, z, _) ⟨rfl, rfl, rfl, rfl, rfl, trivial⟩ ⟨(H5.dtake 1), by (try dsimp only); omega, rfl, hT, by (try dsimp only); omega⟩ (fun (i, zi, f) w3 H6 => ?_)
 obtain ⟨H6, hi, hdl, hT2, hw2⟩ := H6
 refine W_sr (sV rfl (py_lss rfl rfl) (s_nil (W_seq (W_ifd rfl (fun c1 => ?_) (fun c1 => ?_)))))
 ·refine W_skip (W_seq (W_block (W_seq ?_)))
  obtain ⟨eb1, eo1, es1, ef1, ee1, ec1, eO1, eH1, em1⟩ := elem_st (H6.seen 0 rfl) i (by omega)
  obtain ⟨ea1, ek1, ea2, ek2, ea3, ek3, eg1, eg2, eg3, rfl, eq1, eK1, eo2, eo3, eo4⟩ := own_Rec eO1
  have eK1U := eK1
  unfold Rec.Ok at eK1U
  try unfold I64ok at eK1U
  try unfold maxLen at eK1U
  have eP1 := H6.look1 0 rfl eo2 (fun b hb => eH1 b (by rw [eq1]; simp [hb]))
  have eL1 := oL eo2
  have eP2 := eP1.look1 0 rfl eo3 (fun b hb => eH1 b (by rw [eq1]; simp [hb]))
  have eL2 := oL eo3
  have eP3 := eP2.look1 0 rfl eo4 (fun b hb => eH1 b (by rw [eq1]; simp [hb]))
  have eL3 := oL eo4
  refine W_reg (sM rfl rfl (sV rfl (py_elz tu30 ts68 rfl rfl ee1 i (by omega) (by omega)) (sV rfl (py_loadS tu68 rfl ts68 rfl rfl ec1) (s_var (wn rfl) rfl Tryz.zeroValue68 eP3 (fun b1 w4 e3 g1 H7 => ?_)))))
  refine sA rfl rfl (s_stoS (wn rfl) ts68 rfl rfl rfl rfl H7 1 rfl rfl (fun w5 e4 H8 => ?_))
  dsimp only [lNA, lCA, lSZ, lSS, layL] at H8
  refine s_nil (W_seq (W_seq ?_))
  have hdp := dup_any (xs := spentL z) spent_ord (show i < (spentL z).length by omega)
  refine W_reg (sM rfl rfl (sM rfl rfl ?_))
  have sc1 := own_le_cap (H8.seen 0 rfl)
  obtain ⟨sf1, so1, ss1⟩ := own_cutL (H8.seen 0 rfl) (0) (i) _ (by omega) (by omega) (by omega) (Nat.le_refl _)
  have H9 := H8.look1 0 rfl so1 ss1
  have sl1 := cut_len (xs := (spentL z)) (l := 0) (h := i) (by omega)
  refine sV rfl (py_slcHN tu30 ts68 rfl rfl (i) (by omega) (by omega) sl1) ((sV rfl (py_func rfl) (s_call (wn rfl) rfl rfl (pc_call Tryz.func221 rfl Tryz_nm221 rfl) (Tryz_ContainsFunc_Rec (H9.sees 4 rfl) (p := (sameKS ((spentL z).getD i default))) Tryz.func222 rfl Tryz_nm222 (fun w1 e1 i0 hi0 _ _ _ _ _ _ K0 o0_6 o0_7 o0_8 => Tryz_impl_World_cleanTapes_1 K0 o0_6 o0_7 o0_8 ((H9.to e1).box 1 rfl) (by assumption) ((H9.to e1).sees 1 rfl) ((H9.to e1).sees 2 rfl) ((H9.to e1).sees 3 rfl))) (fun v3 w6 r3 => ?_))))
  obtain ⟨e5, rfl⟩ := r3
  have H10 := H9.to e5
  refine s_nil (W_if rfl (fun c2 => ?_) (fun c2 => ?_))
  ·refine W_exit (W_reg (sV rfl (py_add rfl rfl (in64 ⟨by omega, by omega⟩)) (sM rfl rfl (s_nil ?_))))
   exact ⟨(i + 1, zi, _), ⟨rfl, rfl, rfl, rfl, rfl, trivial⟩, ⟨((H10.ftake 1).dtake 1), by (try dsimp only); omega, by (try dsimp only); rw [hdl, clnI_dup (by omega) (by rw [← hdp, ← cut_take]; exact c2)], hT2, by (try dsimp only); omega⟩, by dsimp only; omega⟩
  ·refine W_skip (W_seq ?_)
   have hdu : dupAt (spentL z) i = false := by rw [← hdp, ← cut_take]; simpa using c2
   obtain ⟨hf1, hf2, hf3, _, _⟩ := strBW_facts (kd := ((spentL z).getD i default).Kind) (sq := ((spentL z).getD i default).Seq) hT2
   refine W_reg (sM rfl rfl (sV rfl (py_field tu68 rfl ts2 rfl rfl) (sV rfl (py_load tu2 rfl rfl (cell_atL (H10.box 1 rfl) rfl)) (sV rfl (py_field tu68 rfl ts2 rfl rfl) (sV rfl (py_load tu2 rfl rfl (cell_atL (H10.box 1 rfl) rfl)) (s_call (wn rfl) rfl rfl (pc_call Tryz.func223 rfl Tryz_nm223 rfl) (Tryz_impl_World_strikeBoth (H10.wldAt 0 rfl) (H10.nodup1 (i := 0) rfl) (by first | assumption | omega) (by first | assumption | omega)) (fun v4 w7 r4 => ?_)))))))
   obtain ⟨rfl, mm1⟩ := r4
   obtain ⟨fp4, H11⟩ := H10.mutW 0 rfl mm1
   try dsimp only [lNA, lCA, lSZ, lSS] at H11
   refine sA rfl rfl (s_nil (W_sr (sM rfl rfl (sV rfl (py_neq rfl rfl) (s_nil (W_ifd rfl (fun c3 => ?_) (fun c3 => ?_)))))))
   ·refine W_sr (sM rfl rfl (sA rfl rfl (s_nil (rT hQ Tryz.results130 rfl ?_))))
    have hlo : strOK zi ((spentL z).getD i default).Kind ((spentL z).getD i default).Seq = false := by
     cases hq : strOK zi ((spentL z).getD i default).Kind ((spentL z).getD i default).Seq
     ·rfl
     ·exfalso; have hx := c3; rw [hq] at hx; simp at hx
    have hz := H11.doneW
    rw [hdl, clnI_stop (by omega) hdu hlo]
    exact ⟨by rw [hlo], hz⟩
   ·refine W_skip (W_reg (sV rfl (py_add rfl rfl (in64 ⟨by omega, by omega⟩)) (sM rfl rfl (s_nil ?_))))
    have hlo : strOK zi ((spentL z).getD i default).Kind ((spentL z).getD i default).Seq = true := by
     cases hq : strOK zi ((spentL z).getD i default).Kind ((spentL z).getD i default).Seq
     ·exfalso; have hx := c3; rw [hq] at hx; simp at hx
     ·rfl
    exact ⟨(i + 1, strBW zi ((spentL z).getD i default).Kind ((spentL z).getD i default).Seq, _), ⟨rfl, rfl, rfl, rfl, rfl, trivial⟩, ⟨((H11.ftake 1).dtake 1), by (try dsimp only); omega, by (try dsimp only); rw [hdl, clnI_go (by omega) hdu hlo], hf1, by (try dsimp only); omega⟩, by dsimp only; omega⟩
 ·refine W_exit (W_sr (sA rfl rfl (s_nil (rT hQ Tryz.results130 rfl ?_))))
  have hz := H6.doneW
  rw [hdl, clnI_end (by omega)]
  exact ⟨rfl, hz⟩
set_option maxHeartbeats 2000000 in
theorem Tryz_spec_l7Clean {w : World} {z : Wld} {zb : Nat} {fp : List Nat} (o : OwnW w zb 38 z fp) (nd : fp.Nodup) (hd : z.Down = false) (hw : worldF z = 0) : Ret Tryz.prog 129 #[.pointer (some ⟨zb, 0, none⟩)] w fun v w' => (v = .bool (clnP z).1 ∧ MutW w w' fp zb 38 ((clnP z).2)) := by
 have hs := (worldF_ok hw).1
 obtain ⟨hw0, hw1, _, _⟩ := worldF_rng hw
 have hT := (worldF_ok hw).2.2.2.1
 have hsl := spent_len hw
 have hrl := recs_bd hw
 refine ret_Q (vs := [.pointer (some ⟨zb, 0, none⟩)]) Tryz.func129 rfl Tryz.ntmps129 rfl (fun Q hQ hN => ?_)
 have H0 := Sep.beginW o nd
 refine W_sr (sA rfl rfl (s_nil (W_seq ?_)))
 obtain ⟨wA1, wC1, wA2, wC2, wA3, wC3, wf1, wf2, wf3, wok1, H1⟩ := H0.openW 0 rfl
 try dsimp only [lNA, lCA, lSZ, lSS] at H1
 have wok1U := wok1
 unfold Wld.Ok Shape.Ok I64ok at wok1U
 have wL1 := oL (H1.mine 2 rfl)
 have wL2 := oL (H1.mine 3 rfl)
 have wL3 := oL (H1.mine 4 rfl)
 refine W_drw (S := Ext No _) [(0, true), (1, true), (2, true), (3, true), (4, true), (5, false), (6, false), (7, false)] (by kernel_rfl) (by kernel_rfl) (by kernel_rfl) rfl (fun _ => Ext.refl.drawn _) (fun q1 => ?_)
 have H2 := H1.drawn q1
 refine dM rfl rfl rfl (dV rfl rfl (fun zw hx => py_nil rfl) (dV rfl rfl (fun zw hx => py_field tu38 rfl ts34 rfl rfl) (dV rfl rfl (fun zw hx => py_loadS tu34 rfl ts34 rfl rfl (At.sub (hx.heap (H2.box 0 rfl)) 9)) (dM rfl rfl rfl (d_call rfl (wn rfl) rfl rfl (pc_call Tryz.func63 rfl Tryz_nm63 rfl) (Tryz_spec_l6Counted (H2.box 0 rfl) (by assumption) (own_weak (H2.mine 2 rfl)) (own_weak (H2.mine 3 rfl)) (own_weak (H2.mine 4 rfl)) (by first | assumption | omega) (by first | assumption | omega)) (fun hS _ _ r _ => hS.trans r.1.no) (fun v1 w1 r1 => ?_))))))
 obtain ⟨e1, vs1, r1, hR1, hM1⟩ := r1
 obtain ⟨fp1, H3⟩ := H2.res e1 r1
 obtain ⟨sa1, sk1, sq1⟩ := own_slice (H3.mine 5 rfl)
 cases sq1
 have hl1 : vs1.length = (cntL z).length := by rw [← hM1, List.length_map]
 have hb1 := cntL_bd (z := z) (by first | assumption | omega) (by assumption)
 refine d_call rfl (wn rfl) rfl rfl (pc_call Tryz.func218 rfl Tryz_nm218 rfl) (Tryz_spec_l6Spent (H3.msees 5 rfl) (by first | assumption | exact hR1.to (by assumption)) (by assumption) (by assumption) (by first | assumption | omega) (fun r hr => cnt_kind hw hr)) (fun hS _ _ r _ => hS.trans r.1.no) (fun v2 w2 r2 => ?_)
 obtain ⟨e2, us1, r2, hR2, hM2⟩ := r2
 obtain ⟨fp2, H4⟩ := H3.res e2 r2
 obtain ⟨sa2, sk2, sq2⟩ := own_slice (H4.mine 6 rfl)
 cases sq2
 have hl2 : us1.length = (spentL z).length := by rw [← List.length_map (f := RecV.r), hM2]; rfl
 refine d_end rfl (wn rfl) rfl rfl (py_assign rfl) (d_nil (W_seq (W_sr (sA rfl rfl (s_nil (W_block ?_))))))
 obtain ⟨fp3, H5⟩ := H4.closeW 0 2 3 4 z rfl rfl rfl rfl rfl rfl rfl rfl rfl rfl wok1
 try dsimp only [lNA, lCA, lSZ, lSS] at H5
 refine W_loop (γ := Nat × Wld × List Nat) (fun (i, zi, f) => [(0, .pointer (some ⟨zb, 0, none⟩)), (3, .slice sa2 us1.length sk2), (4, .int .i64 i)]) (fun (i, zi, f) w' => Sep (· ∈ fp) w [wldR zb 38 zi f, gone, gone, gone, gone, mine [.slice sa1 vs1.length sk1] vs1 fp1, mine [.slice sa2 us1.length sk2] us1 fp2] [] w' ∧ i ≤ (spentL z).length ∧ clnP z = clnI (spentL z) ((spentL z).length - i) i zi ∧ zi.Tapes.length = 2 ∧ zi.Writes ≤ z.Writes + 2 * i ∧ zi.Down = false ∧ ∀ u, (zi.Tapes.getD u default).Recs.length ≤ (z.Tapes.getD u default).Recs.length) (fun (i, zi, f) => (spentL z).length - i) (0, z, _) ⟨rfl, rfl, rfl, trivial⟩ ⟨H5, by (try dsimp only); omega, rfl, hT, by (try dsimp only); omega, hd, fun u => Nat.le_refl _⟩ (fun (i, zi, f) w3 H6 => ?_)
 obtain ⟨H6, hi, hdl, hT2, hw2, hdn, hrr⟩ := H6
 refine W_seq (W_sr (sM rfl rfl (sM rfl rfl (sV rfl (py_len tu30 rfl) (sV rfl (py_lss rfl rfl) (s_nil (W_ifd rfl (fun c1 => ?_) (fun c1 => ?_))))))))
 ·refine W_skip (W_seq (W_block (W_seq (W_seq ?_))))
  have hel : (us1.getD i default).r = ((spentL z).getD i default) := map_getD hM2 (by omega)
  have hep : (us1.getD (i - 1) default).r = (spentL z).getD (i - 1) default := map_getD hM2 (by omega)
  refine W_drw (S := Ext No _) [(0, true), (1, true), (2, true), (3, true), (4, true), (5, true), (6, true), (7, true), (8, true), (9, true), (10, true), (11, true), (12, true), (13, true), (14, true), (15, true), (16, true), (17, true), (18, true), (19, true), (20, true), (21, true), (22, true), (23, true), (24, true), (25, true), (26, true), (27, true), (28, true), (29, false)] (by kernel_rfl) (by kernel_rfl) (by kernel_rfl) rfl (fun _ => Ext.refl.drawn _) (fun q2 => ?_)
  have H7 := H6.drawn q2
  refine dM rfl rfl rfl (dV rfl rfl (fun zw hx => py_gtr rfl rfl) (dM rfl rfl rfl (d_case (t := 20) rfl (fun hg1 => ?_) (fun hg1 => ?_))))
  ·try simp only [decide_eq_true_eq, decide_eq_false_iff_not] at hg1
   refine d_val rfl (wg rfl rfl rfl) rfl rfl (fun zw hx => py_move rfl) (d_val rfl (wg rfl rfl rfl) rfl rfl (fun zw hx => py_move rfl) ?_)
   obtain ⟨eb1, eo1, ee1, ec1, eK1⟩ := H7.viewAt 6 rfl i (by omega)
   refine d_val rfl (wg rfl rfl rfl) rfl rfl (fun zw hx => py_elz tu30 ts68 rfl rfl ee1 i (by omega) (by omega)) (d_val rfl (wg rfl rfl rfl) rfl rfl (fun zw hx => py_field tu68 rfl ts2 rfl rfl) (d_val rfl (wg rfl rfl rfl) rfl rfl (fun zw hx => py_load tu2 rfl rfl (at_cell (hx.at ec1) 0 rfl)) (d_val rfl (wg rfl rfl rfl) rfl rfl (fun zw hx => py_move rfl) (d_val rfl (wg rfl rfl rfl) rfl rfl (fun zw hx => py_move rfl) (d_val rfl (wg rfl rfl rfl) rfl rfl (fun zw hx => py_sub rfl rfl (in64 ⟨by omega, by omega⟩)) ?_)))))
   obtain ⟨eb2, eo2, ee2, ec2, eK2⟩ := H7.viewAt 6 rfl (i - 1) (by omega)
   refine d_val rfl (wg rfl rfl rfl) rfl rfl (fun zw hx => py_elz tu30 ts68 rfl rfl ee2 (i - 1) (by omega) (by omega)) (d_val rfl (wg rfl rfl rfl) rfl rfl (fun zw hx => py_field tu68 rfl ts2 rfl rfl) (d_val rfl (wg rfl rfl rfl) rfl rfl (fun zw hx => py_load tu2 rfl rfl (at_cell (hx.at ec2) 0 rfl)) (d_val rfl (wg rfl rfl rfl) rfl rfl (fun zw hx => py_eql rfl rfl) (dV rfl rfl (fun zw hx => py_pickT rfl rfl) (dM rfl rfl rfl (d_case (t := 34) rfl (fun hg2 => ?_) (fun hg2 => ?_)))))))
   ·try simp only [decide_eq_true_eq, decide_eq_false_iff_not] at hg2
    refine d_val rfl (wg rfl rfl rfl) rfl rfl (fun zw hx => py_move rfl) (d_val rfl (wg rfl rfl rfl) rfl rfl (fun zw hx => py_move rfl) (d_val rfl (wg rfl rfl rfl) rfl rfl (fun zw hx => py_elz tu30 ts68 rfl rfl ee1 i (by omega) (by omega)) (d_val rfl (wg rfl rfl rfl) rfl rfl (fun zw hx => py_field tu68 rfl ts2 rfl rfl) (d_val rfl (wg rfl rfl rfl) rfl rfl (fun zw hx => py_load tu2 rfl rfl (at_cell (hx.at ec1) 1 rfl)) (d_val rfl (wg rfl rfl rfl) rfl rfl (fun zw hx => py_move rfl) (d_val rfl (wg rfl rfl rfl) rfl rfl (fun zw hx => py_move rfl) (d_val rfl (wg rfl rfl rfl) rfl rfl (fun zw hx => py_sub rfl rfl (in64 ⟨by omega, by omega⟩)) (d_val rfl (wg rfl rfl rfl) rfl rfl (fun zw hx => py_elz tu30 ts68 rfl rfl ee2 (i - 1) (by omega) (by omega)) (d_val rfl (wg rfl rfl rfl) rfl rfl (fun zw hx => py_field tu68 rfl ts2 rfl rfl) (d_val rfl (wg rfl rfl rfl) rfl rfl (fun zw hx => py_load tu2 rfl rfl (at_cell (hx.at ec2) 1 rfl)) (d_val rfl (wg rfl rfl rfl) rfl rfl (fun zw hx => py_eql rfl rfl) (d_end rfl (wn rfl) rfl rfl (py_pickT rfl rfl) (d_nil (W_ifd rfl (fun c2 => ?_) (fun c2 => ?_)))))))))))))))
    ·refine W_exit (W_reg (sM rfl rfl (sV rfl (py_add rfl rfl (in64 ⟨by omega, by omega⟩)) (sA rfl rfl (s_nil ?_)))))
     have hdu : dupAt (spentL z) i = true := by unfold dupAt; rw [← hel, ← hep]; simp_all
     exact ⟨(i + 1, zi, _), ⟨rfl, rfl, rfl, trivial⟩, ⟨H7, by (try dsimp only); omega, by (try dsimp only); rw [hdl, clnI_dup (by omega) hdu], hT2, by (try dsimp only); omega, hdn, hrr⟩, by dsimp only; omega⟩
    ·refine W_skip (W_seq ?_)
     have hrs : ∀ k, ((strN zi (us1.getD i default).r.Kind (us1.getD i default).r.Seq k).Tapes.getD k default).Recs.length ≤ 100000 ∧ True := fun k => ⟨by have h1 := strN_recs (z := zi) (kd := (us1.getD i default).r.Kind) (sq := (us1.getD i default).r.Seq) (u := k) k; have h2 := hrr k; have h3 := recs_all hw k; omega, trivial⟩
     obtain ⟨hf1, hf2, hf3, _, hf5⟩ := strBW_facts (kd := (us1.getD i default).r.Kind) (sq := (us1.getD i default).r.Seq) hT2
     refine W_drw (S := fun _ => True) [(0, true), (1, true), (2, true), (3, true), (4, true), (6, true), (7, true), (8, true), (9, true), (1004, false), (5, false), (10, false), (11, false), (12, false), (10, false), (5, false), (11, false), (12, false)] (by kernel_rfl) (by kernel_rfl) (by kernel_rfl) rfl (fun _ => trivial) (fun q3 => ?_)
     have H8 := H7.drawn q3
     refine dM rfl rfl rfl (dM rfl rfl rfl (dM rfl rfl rfl ?_))
     obtain ⟨eb3, eo3, ee3, ec3, eK3⟩ := H8.viewAt 6 rfl i (by omega)
     refine dV rfl rfl (fun zw hx => py_elz tu30 ts68 rfl rfl ee3 i (by omega) (by omega)) (dV rfl rfl (fun zw hx => py_field tu68 rfl ts2 rfl rfl) (dM rfl rfl rfl (dM rfl rfl rfl (dV rfl rfl (fun zw hx => py_elz tu30 ts68 rfl rfl ee3 i (by omega) (by omega)) (dV rfl rfl (fun zw hx => py_field tu68 rfl ts2 rfl rfl) (d_fork (l1 := [(5, false), (10, false), (11, false), (12, false)]) (l2 := [(10, false), (5, false), (11, false), (12, false)]) rfl rfl rfl rfl ?_ ?_))))))
     ·refine d_end rfl (wn rfl) rfl rfl (py_load tu2 rfl rfl (at_cell ec3 0 rfl)) (d_end rfl (wn rfl) rfl rfl (py_load tu2 rfl rfl (at_cell ec3 1 rfl)) (d_call rfl (wn rfl) rfl rfl (pc_call Tryz.func219 rfl Tryz_nm219 rfl) (Tryz_spec_l7Strike (H8.wldAt 0 rfl) (H8.nodup1 (i := 0) rfl) (by first | assumption | omega) (by first | assumption | omega) (by first | assumption | omega) (by assumption)) (fun hS _ _ r _ => trivial) (fun v3 w4 r3 => ?_)))
      obtain ⟨rfl, mm1⟩ := r3
      obtain ⟨fp4, H9⟩ := H8.mutW 0 rfl mm1
      try dsimp only [lNA, lCA, lSZ, lSS] at H9
      refine d_end rfl (wn rfl) rfl rfl (py_not rfl) (d_nil (W_if rfl (fun c3 => ?_) (fun c3 => ?_)))
      ·refine W_sr (sA rfl rfl (s_nil (rT hQ Tryz.results129 rfl ?_)))
       have hdu : dupAt (spentL z) i = false := by unfold dupAt; rw [← hel, ← hep]; simp_all
       have hlo := c3
       have hz := H9.doneW
       rw [hel] at hz hlo
       replace hlo : strOK zi ((spentL z).getD i default).Kind ((spentL z).getD i default).Seq = false := by simpa using hlo
       rw [hdl, clnI_stop (by omega) hdu hlo]
       exact ⟨rfl, hz⟩
      ·refine W_skip (W_reg (sM rfl rfl (sV rfl (py_add rfl rfl (in64 ⟨by omega, by omega⟩)) (sA rfl rfl (s_nil ?_)))))
       have hdu : dupAt (spentL z) i = false := by unfold dupAt; rw [← hel, ← hep]; simp_all
       have hlo := c3
       have hz := H9
       rw [hel] at hz hlo hf1 hf2 hf3 hf5
       replace hlo : strOK zi ((spentL z).getD i default).Kind ((spentL z).getD i default).Seq = true := by simpa using hlo
       exact ⟨(i + 1, strBW zi ((spentL z).getD i default).Kind ((spentL z).getD i default).Seq, _), ⟨rfl, rfl, rfl, trivial⟩, ⟨hz, by (try dsimp only); omega, by (try dsimp only); rw [hdl, clnI_go (by omega) hdu hlo], hf1, by (try dsimp only); omega, by (try dsimp only); rw [strBW_down hlo]; exact hdn, fun u => Nat.le_trans (hf5 u) (hrr u)⟩, by dsimp only; omega⟩
     ·refine d_end rfl (wn rfl) rfl rfl (py_load tu2 rfl rfl (at_cell ec3 1 rfl)) (d_end rfl (wn rfl) rfl rfl (py_load tu2 rfl rfl (at_cell ec3 0 rfl)) (d_call rfl (wn rfl) rfl rfl (pc_call Tryz.func219 rfl Tryz_nm219 rfl) (Tryz_spec_l7Strike (H8.wldAt 0 rfl) (H8.nodup1 (i := 0) rfl) (by first | assumption | omega) (by first | assumption | omega) (by first | assumption | omega) (by assumption)) (fun hS _ _ r _ => trivial) (fun v4 w5 r4 => ?_)))
      obtain ⟨rfl, mm2⟩ := r4
      obtain ⟨fp5, H10⟩ := H8.mutW 0 rfl mm2
      try dsimp only [lNA, lCA, lSZ, lSS] at H10
      refine d_end rfl (wn rfl) rfl rfl (py_not rfl) (d_nil (W_if rfl (fun c4 => ?_) (fun c4 => ?_)))
      ·refine W_sr (sA rfl rfl (s_nil (rT hQ Tryz.results129 rfl ?_)))
       have hdu : dupAt (spentL z) i = false := by unfold dupAt; rw [← hel, ← hep]; simp_all
       have hlo := c4
       have hz := H10.doneW
       rw [hel] at hz hlo
       replace hlo : strOK zi ((spentL z).getD i default).Kind ((spentL z).getD i default).Seq = false := by simpa using hlo
       rw [hdl, clnI_stop (by omega) hdu hlo]
       exact ⟨rfl, hz⟩
      ·refine W_skip (W_reg (sM rfl rfl (sV rfl (py_add rfl rfl (in64 ⟨by omega, by omega⟩)) (sA rfl rfl (s_nil ?_)))))
       have hdu : dupAt (spentL z) i = false := by unfold dupAt; rw [← hel, ← hep]; simp_all
       have hlo := c4
       have hz := H10
       rw [hel] at hz hlo hf1 hf2 hf3 hf5
       replace hlo : strOK zi ((spentL z).getD i default).Kind ((spentL z).getD i default).Seq = true := by simpa using hlo
       exact ⟨(i + 1, strBW zi ((spentL z).getD i default).Kind ((spentL z).getD i default).Seq, _), ⟨rfl, rfl, rfl, trivial⟩, ⟨hz, by (try dsimp only); omega, by (try dsimp only); rw [hdl, clnI_go (by omega) hdu hlo], hf1, by (try dsimp only); omega, by (try dsimp only); rw [strBW_down hlo]; exact hdn, fun u => Nat.le_trans (hf5 u) (hrr u)⟩, by dsimp only; omega⟩
   ·try simp only [decide_eq_true_eq, decide_eq_false_iff_not] at hg2
    refine dKf rfl rfl rfl rfl (dKf rfl rfl rfl rfl (dKf rfl rfl rfl rfl (dKf rfl rfl rfl rfl (dKf rfl rfl rfl rfl (dKf rfl rfl rfl rfl (dKf rfl rfl rfl rfl (dKf rfl rfl rfl rfl (dKf rfl rfl rfl rfl (dKf rfl rfl rfl rfl (dKf rfl rfl rfl rfl (dKf rfl rfl rfl rfl (d_end rfl (wn rfl) rfl rfl (py_pickF rfl rfl) (d_nil (W_iff rfl (W_skip (W_seq ?_))))))))))))))))
    have hrs : ∀ k, ((strN zi (us1.getD i default).r.Kind (us1.getD i default).r.Seq k).Tapes.getD k default).Recs.length ≤ 100000 ∧ True := fun k => ⟨by have h1 := strN_recs (z := zi) (kd := (us1.getD i default).r.Kind) (sq := (us1.getD i default).r.Seq) (u := k) k; have h2 := hrr k; have h3 := recs_all hw k; omega, trivial⟩
    obtain ⟨hf1, hf2, hf3, _, hf5⟩ := strBW_facts (kd := (us1.getD i default).r.Kind) (sq := (us1.getD i default).r.Seq) hT2
    refine W_drw (S := fun _ => True) [(0, true), (1, true), (2, true), (3, true), (4, true), (6, true), (7, true), (8, true), (9, true), (1004, false), (5, false), (10, false), (11, false), (12, false), (10, false), (5, false), (11, false), (12, false)] (by kernel_rfl) (by kernel_rfl) (by kernel_rfl) rfl (fun _ => trivial) (fun q4 => ?_)
    have H11 := H7.drawn q4
    refine dM rfl rfl rfl (dM rfl rfl rfl (dM rfl rfl rfl ?_))
    obtain ⟨eb4, eo4, ee4, ec4, eK4⟩ := H11.viewAt 6 rfl i (by omega)
    refine dV rfl rfl (fun zw hx => py_elz tu30 ts68 rfl rfl ee4 i (by omega) (by omega)) (dV rfl rfl (fun zw hx => py_field tu68 rfl ts2 rfl rfl) (dM rfl rfl rfl (dM rfl rfl rfl (dV rfl rfl (fun zw hx => py_elz tu30 ts68 rfl rfl ee4 i (by omega) (by omega)) (dV rfl rfl (fun zw hx => py_field tu68 rfl ts2 rfl rfl) (d_fork (l1 := [(5, false), (10, false), (11, false), (12, false)]) (l2 := [(10, false), (5, false), (11, false), (12, false)]) rfl rfl rfl rfl ?_ ?_))))))
    ·refine d_end rfl (wn rfl) rfl rfl (py_load tu2 rfl rfl (at_cell ec4 0 rfl)) (d_end rfl (wn rfl) rfl rfl (py_load tu2 rfl rfl (at_cell ec4 1 rfl)) (d_call rfl (wn rfl) rfl rfl (pc_call Tryz.func219 rfl Tryz_nm219 rfl) (Tryz_spec_l7Strike (H11.wldAt 0 rfl) (H11.nodup1 (i := 0) rfl) (by first | assumption | omega) (by first | assumption | omega) (by first | assumption | omega) (by assumption)) (fun hS _ _ r _ => trivial) (fun v5 w6 r5 => ?_)))
     obtain ⟨rfl, mm3⟩ := r5
     obtain ⟨fp6, H12⟩ := H11.mutW 0 rfl mm3
     try dsimp only [lNA, lCA, lSZ, lSS] at H12
     refine d_end rfl (wn rfl) rfl rfl (py_not rfl) (d_nil (W_if rfl (fun c5 => ?_) (fun c5 => ?_)))
     ·refine W_sr (sA rfl rfl (s_nil (rT hQ Tryz.results129 rfl ?_)))
      have hdu : dupAt (spentL z) i = false := by unfold dupAt; rw [← hel, ← hep]; simp_all
      have hlo := c5
      have hz := H12.doneW
      rw [hel] at hz hlo
      replace hlo : strOK zi ((spentL z).getD i default).Kind ((spentL z).getD i default).Seq = false := by simpa using hlo
      rw [hdl, clnI_stop (by omega) hdu hlo]
      exact ⟨rfl, hz⟩
     ·refine W_skip (W_reg (sM rfl rfl (sV rfl (py_add rfl rfl (in64 ⟨by omega, by omega⟩)) (sA rfl rfl (s_nil ?_)))))
      have hdu : dupAt (spentL z) i = false := by unfold dupAt; rw [← hel, ← hep]; simp_all
      have hlo := c5
      have hz := H12
      rw [hel] at hz hlo hf1 hf2 hf3 hf5
      replace hlo : strOK zi ((spentL z).getD i default).Kind ((spentL z).getD i default).Seq = true := by simpa using hlo
      exact ⟨(i + 1, strBW zi ((spentL z).getD i default).Kind ((spentL z).getD i default).Seq, _), ⟨rfl, rfl, rfl, trivial⟩, ⟨hz, by (try dsimp only); omega, by (try dsimp only); rw [hdl, clnI_go (by omega) hdu hlo], hf1, by (try dsimp only); omega, by (try dsimp only); rw [strBW_down hlo]; exact hdn, fun u => Nat.le_trans (hf5 u) (hrr u)⟩, by dsimp only; omega⟩
    ·refine d_end rfl (wn rfl) rfl rfl (py_load tu2 rfl rfl (at_cell ec4 1 rfl)) (d_end rfl (wn rfl) rfl rfl (py_load tu2 rfl rfl (at_cell ec4 0 rfl)) (d_call rfl (wn rfl) rfl rfl (pc_call Tryz.func219 rfl Tryz_nm219 rfl) (Tryz_spec_l7Strike (H11.wldAt 0 rfl) (H11.nodup1 (i := 0) rfl) (by first | assumption | omega) (by first | assumption | omega) (by first | assumption | omega) (by assumption)) (fun hS _ _ r _ => trivial) (fun v6 w7 r6 => ?_)))
     obtain ⟨rfl, mm4⟩ := r6
     obtain ⟨fp7, H13⟩ := H11.mutW 0 rfl mm4
     try dsimp only [lNA, lCA, lSZ, lSS] at H13
     refine d_end rfl (wn rfl) rfl rfl (py_not rfl) (d_nil (W_if rfl (fun c6 => ?_) (fun c6 => ?_)))
     ·refine W_sr (sA rfl rfl (s_nil (rT hQ Tryz.results129 rfl ?_)))
      have hdu : dupAt (spentL z) i = false := by unfold dupAt; rw [← hel, ← hep]; simp_all
      have hlo := c6
      have hz := H13.doneW
      rw [hel] at hz hlo
      replace hlo : strOK zi ((spentL z).getD i default).Kind ((spentL z).getD i default).Seq = false := by simpa using hlo
      rw [hdl, clnI_stop (by omega) hdu hlo]
      exact ⟨rfl, hz⟩
     ·refine W_skip (W_reg (sM rfl rfl (sV rfl (py_add rfl rfl (in64 ⟨by omega, by omega⟩)) (sA rfl rfl (s_nil ?_)))))
      have hdu : dupAt (spentL z) i = false := by unfold dupAt; rw [← hel, ← hep]; simp_all
      have hlo := c6
      have hz := H13
      rw [hel] at hz hlo hf1 hf2 hf3 hf5
      replace hlo : strOK zi ((spentL z).getD i default).Kind ((spentL z).getD i default).Seq = true := by simpa using hlo
      exact ⟨(i + 1, strBW zi ((spentL z).getD i default).Kind ((spentL z).getD i default).Seq, _), ⟨rfl, rfl, rfl, trivial⟩, ⟨hz, by (try dsimp only); omega, by (try dsimp only); rw [hdl, clnI_go (by omega) hdu hlo], hf1, by (try dsimp only); omega, by (try dsimp only); rw [strBW_down hlo]; exact hdn, fun u => Nat.le_trans (hf5 u) (hrr u)⟩, by dsimp only; omega⟩
  ·try simp only [decide_eq_true_eq, decide_eq_false_iff_not] at hg1
   refine dKf rfl rfl rfl rfl (dKf rfl rfl rfl rfl (dKf rfl rfl rfl rfl (dKf rfl rfl rfl rfl (dKf rfl rfl rfl rfl (dKf rfl rfl rfl rfl (dKf rfl rfl rfl rfl (dKf rfl rfl rfl rfl (dKf rfl rfl rfl rfl (dKf rfl rfl rfl rfl (dKf rfl rfl rfl rfl (dKf rfl rfl rfl rfl (dV rfl rfl (fun zw hx => py_pickF rfl rfl) (dM rfl rfl rfl (dKf rfl rfl rfl rfl (dKf rfl rfl rfl rfl (dKf rfl rfl rfl rfl (dKf rfl rfl rfl rfl (dKf rfl rfl rfl rfl (dKf rfl rfl rfl rfl (dKf rfl rfl rfl rfl (dKf rfl rfl rfl rfl (dKf rfl rfl rfl rfl (dKf rfl rfl rfl rfl (dKf rfl rfl rfl rfl (dKf rfl rfl rfl rfl (d_end rfl (wn rfl) rfl rfl (py_pickF rfl rfl) (d_nil (W_iff rfl (W_skip (W_seq ?_))))))))))))))))))))))))))))))
   have hrs : ∀ k, ((strN zi (us1.getD i default).r.Kind (us1.getD i default).r.Seq k).Tapes.getD k default).Recs.length ≤ 100000 ∧ True := fun k => ⟨by have h1 := strN_recs (z := zi) (kd := (us1.getD i default).r.Kind) (sq := (us1.getD i default).r.Seq) (u := k) k; have h2 := hrr k; have h3 := recs_all hw k; omega, trivial⟩
   obtain ⟨hf1, hf2, hf3, _, hf5⟩ := strBW_facts (kd := (us1.getD i default).r.Kind) (sq := (us1.getD i default).r.Seq) hT2
   refine W_drw (S := fun _ => True) [(0, true), (1, true), (2, true), (3, true), (4, true), (6, true), (7, true), (8, true), (9, true), (1004, false), (5, false), (10, false), (11, false), (12, false), (10, false), (5, false), (11, false), (12, false)] (by kernel_rfl) (by kernel_rfl) (by kernel_rfl) rfl (fun _ => trivial) (fun q5 => ?_)
   have H14 := H7.drawn q5
   refine dM rfl rfl rfl (dM rfl rfl rfl (dM rfl rfl rfl ?_))
   obtain ⟨eb5, eo5, ee5, ec5, eK5⟩ := H14.viewAt 6 rfl i (by omega)
   refine dV rfl rfl (fun zw hx => py_elz tu30 ts68 rfl rfl ee5 i (by omega) (by omega)) (dV rfl rfl (fun zw hx => py_field tu68 rfl ts2 rfl rfl) (dM rfl rfl rfl (dM rfl rfl rfl (dV rfl rfl (fun zw hx => py_elz tu30 ts68 rfl rfl ee5 i (by omega) (by omega)) (dV rfl rfl (fun zw hx => py_field tu68 rfl ts2 rfl rfl) (d_fork (l1 := [(5, false), (10, false), (11, false), (12, false)]) (l2 := [(10, false), (5, false), (11, false), (12, false)]) rfl rfl rfl rfl ?_ ?_))))))
   ·refine d_end rfl (wn rfl) rfl rfl (py_load tu2 rfl rfl (at_cell ec5 0 rfl)) (d_end rfl (wn rfl) rfl rfl (py_load tu2 rfl rfl (at_cell ec5 1 rfl)) (d_call rfl (wn rfl) rfl rfl (pc_call Tryz.func219 rfl Tryz_nm219 rfl) (Tryz_spec_l7Strike (H14.wldAt 0 rfl) (H14.nodup1 (i := 0) rfl) (by first | assumption | omega) (by first | assumption | omega) (by first | assumption | omega) (by assumption)) (fun hS _ _ r _ => trivial) (fun v7 w8 r7 => ?_)))
    obtain ⟨rfl, mm5⟩ := r7
    obtain ⟨fp8, H15⟩ := H14.mutW 0 rfl mm5
    try dsimp only [lNA, lCA, lSZ, lSS] at H15
    refine d_end rfl (wn rfl) rfl rfl (py_not rfl) (d_nil (W_if rfl (fun c7 => ?_) (fun c7 => ?_)))
    ·refine W_sr (sA rfl rfl (s_nil (rT hQ Tryz.results129 rfl ?_)))
     have hdu : dupAt (spentL z) i = false := by unfold dupAt; rw [← hel, ← hep]; simp_all
     have hlo := c7
     have hz := H15.doneW
     rw [hel] at hz hlo
     replace hlo : strOK zi ((spentL z).getD i default).Kind ((spentL z).getD i default).Seq = false := by simpa using hlo
     rw [hdl, clnI_stop (by omega) hdu hlo]
     exact ⟨rfl, hz⟩
    ·refine W_skip (W_reg (sM rfl rfl (sV rfl (py_add rfl rfl (in64 ⟨by omega, by omega⟩)) (sA rfl rfl (s_nil ?_)))))
     have hdu : dupAt (spentL z) i = false := by unfold dupAt; rw [← hel, ← hep]; simp_all
     have hlo := c7
     have hz := H15
     rw [hel] at hz hlo hf1 hf2 hf3 hf5
     replace hlo : strOK zi ((spentL z).getD i default).Kind ((spentL z).getD i default).Seq = true := by simpa using hlo
     exact ⟨(i + 1, strBW zi ((spentL z).getD i default).Kind ((spentL z).getD i default).Seq, _), ⟨rfl, rfl, rfl, trivial⟩, ⟨hz, by (try dsimp only); omega, by (try dsimp only); rw [hdl, clnI_go (by omega) hdu hlo], hf1, by (try dsimp only); omega, by (try dsimp only); rw [strBW_down hlo]; exact hdn, fun u => Nat.le_trans (hf5 u) (hrr u)⟩, by dsimp only; omega⟩
   ·refine d_end rfl (wn rfl) rfl rfl (py_load tu2 rfl rfl (at_cell ec5 1 rfl)) (d_end rfl (wn rfl) rfl rfl (py_load tu2 rfl rfl (at_cell ec5 0 rfl)) (d_call rfl (wn rfl) rfl rfl (pc_call Tryz.func219 rfl Tryz_nm219 rfl) (Tryz_spec_l7Strike (H14.wldAt 0 rfl) (H14.nodup1 (i := 0) rfl) (by first | assumption | omega) (by first | assumption | omega) (by first | assumption | omega) (by assumption)) (fun hS _ _ r _ => trivial) (fun v8 w9 r8 => ?_)))
    obtain ⟨rfl, mm6⟩ := r8
    obtain ⟨fp9, H16⟩ := H14.mutW 0 rfl mm6
    try dsimp only [lNA, lCA, lSZ, lSS] at H16
    refine d_end rfl (wn rfl) rfl rfl (py_not rfl) (d_nil (W_if rfl (fun c8 => ?_) (fun c8 => ?_)))
    ·refine W_sr (sA rfl rfl (s_nil (rT hQ Tryz.results129 rfl ?_)))
     have hdu : dupAt (spentL z) i = false := by unfold dupAt; rw [← hel, ← hep]; simp_all
     have hlo := c8
     have hz := H16.doneW
     rw [hel] at hz hlo
     replace hlo : strOK zi ((spentL z).getD i default).Kind ((spentL z).getD i default).Seq = false := by simpa using hlo
     rw [hdl, clnI_stop (by omega) hdu hlo]
     exact ⟨rfl, hz⟩
    ·refine W_skip (W_reg (sM rfl rfl (sV rfl (py_add rfl rfl (in64 ⟨by omega, by omega⟩)) (sA rfl rfl (s_nil ?_)))))
     have hdu : dupAt (spentL z) i = false := by unfold dupAt; rw [← hel, ← hep]; simp_all
     have hlo := c8
     have hz := H16
     rw [hel] at hz hlo hf1 hf2 hf3 hf5
     replace hlo : strOK zi ((spentL z).getD i default).Kind ((spentL z).getD i default).Seq = true := by simpa using hlo
     exact ⟨(i + 1, strBW zi ((spentL z).getD i default).Kind ((spentL z).getD i default).Seq, _), ⟨rfl, rfl, rfl, trivial⟩, ⟨hz, by (try dsimp only); omega, by (try dsimp only); rw [hdl, clnI_go (by omega) hdu hlo], hf1, by (try dsimp only); omega, by (try dsimp only); rw [strBW_down hlo]; exact hdn, fun u => Nat.le_trans (hf5 u) (hrr u)⟩, by dsimp only; omega⟩
 ·refine W_exit (W_sr (sA rfl rfl (s_nil (rT hQ Tryz.results129 rfl ?_))))
  have hz := H6.doneW
  rw [hdl, clnI_end (by omega)]
  exact ⟨rfl, hz⟩
end Go.Wk
namespace Go.Wk
open Go.Proofs Rp
set_option maxRecDepth 10000
theorem Tryz_impl_CleanTapes {w : World} {z : Wld} {zA9 zA10 zA11 : Option Addr} {zC9 zC10 zC11 : Nat} (zK : z.Ok) (zS9 : Sees w [.slice zA9 z.Groups.length zC9] z.Groups) (zS10 : Sees w [.slice zA10 z.On.length zC10] z.On) (zS11 : Sees w [.slice zA11 z.Tapes.length zC11] z.Tapes) (hb : szWld z ≤ 1048576) : Ret Tryz.prog 54 #[z.val zA9 zC9 zA10 zC10 zA11 zC11] w fun v w' => Ext No w w' ∧ (∃ A10 C10 A11 C11 A12 C12, v = (cleanF z).val A10 C10 A11 C11 A12 C12 ∧ Res w w' [.int .i64 (cleanF z).Code, .int .i64 (cleanF z).Wd.Shape.Groups, .int .i64 (cleanF z).Wd.Shape.Column, .int .i64 (cleanF z).Wd.Shape.Data, .int .i64 (cleanF z).Wd.Shape.Spare, .int .i64 (cleanF z).Wd.Shape.Rows, .int .i64 (cleanF z).Wd.Shape.Cap, .int .i64 (cleanF z).Wd.Shape.Batch, .int .i64 (cleanF z).Wd.Shape.Queue, .int .i64 (cleanF z).Wd.Shape.Stage, .slice A10 (cleanF z).Wd.Groups.length C10, .slice A11 (cleanF z).Wd.On.length C11, .slice A12 (cleanF z).Wd.Tapes.length C12, .int .i64 (cleanF z).Wd.Writes, .int .i64 (cleanF z).Wd.Stop, .bool (cleanF z).Wd.Down] (cleanF z)) := by
 have zK2 := zK
 unfold Wld.Ok Shape.Ok at zK2
 try unfold I64ok at zK2
 try unfold maxLen at zK2
 have zL9 := sL zS9
 obtain ⟨zF9, zO9⟩ := zS9
 have zL10 := sL zS10
 obtain ⟨zF10, zO10⟩ := zS10
 have zL11 := sL zS11
 obtain ⟨zF11, zO11⟩ := zS11
 refine ret_Q (vs := [z.val zA9 zC9 zA10 zC10 zA11 zC11]) Tryz.func54 rfl Tryz.ntmps54 rfl (fun Q hQ hN => ?_)
 have H0 := Sep.start (w := w) (F := [seen false [.slice zA9 z.Groups.length zC9] z.Groups zF9, seen false [.slice zA10 z.On.length zC10] z.On zF10, seen false [.slice zA11 z.Tapes.length zC11] z.Tapes zF11]) (all_cons zO9 (all_cons zO10 (all_cons zO11 (by simp))))
 refine W_sr (s_box (wn rfl) rfl rfl H0 (fun b1 w1 e1 g1 H1 => ?_))
 refine s_var (wn rfl) rfl Tryz.zeroValue66 H1 (fun b2 w2 e2 g2 H2 => ?_)
 refine s_nil (W_seq (W_sr (sV rfl (py_loadS tu38 rfl ts38 rfl rfl (At.whole (H2.box 0 rfl))) (s_call (wn rfl) rfl rfl (pc_call Tryz.func117 rfl Tryz_nm117 rfl) (Tryz_impl_upFault (by assumption) (H2.sees 0 rfl) (H2.sees 1 rfl) (H2.sees 2 rfl)) (fun v1 w3 r1 => ?_)))))
 obtain ⟨e3, rfl⟩ := r1
 have H3 := H2.to e3
 refine sA rfl rfl (s_nil (W_sr (sM rfl rfl (sV rfl (py_neq rfl rfl) (s_nil (W_ifd rfl (fun c1 => ?_) (fun c1 => ?_)))))))
 ·refine W_sr (sM rfl rfl (sV rfl (py_buildS Tryz_pl66 rfl rfl) (s_stoS (wn rfl) ts66 rfl rfl rfl rfl H3 1 rfl rfl (fun w4 e4 H4 => ?_))))
  dsimp only [lNA, lCA, lSZ, lSS, layL] at H4
  refine s_nil (W_ret (hQ _ _ (finC Tryz.results54 rfl (run_loadVarS tu66 rfl ts66 rfl (At.whole (H4.box 1 rfl))) ?_)))
  rw [cleanF_bad (by omega)]
  exact ⟨H4.ext, none, 0, none, 0, none, 0, rfl, wld_nil (by unfold I64ok; have := upF_cd (z := z); (try dsimp only); omega)⟩
 ·refine W_skip (W_seq ?_)
  have hu : upF z = 0 := by omega
  obtain ⟨hwf, hdn⟩ := upF_ok hu
  have hT := (worldF_ok hwf).2.2.2.1
  obtain ⟨hw0, hw1, _, _⟩ := worldF_rng hwf
  refine W_reg (sV rfl (py_loadS tu38 rfl ts38 rfl rfl (At.whole (H3.box 0 rfl))) (s_call (wn rfl) rfl rfl (pc_call Tryz.func121 rfl Tryz_nm121 rfl) (Tryz_impl_cloneWorld (by assumption) (H3.sees 0 rfl) (H3.sees 1 rfl) (H3.sees 2 rfl) (by first | assumption | omega)) (fun v2 w5 r2 => ?_)))
  obtain ⟨e5, sa1, sk1, sa2, sk2, sa3, sk3, rfl, r2⟩ := r2
  obtain ⟨fp1, H5⟩ := H3.res e5 r2
  obtain ⟨sf1, sf2, sf3, sq1, sok1, so1, so2, so3⟩ := own_WldC (H5.mine 2 rfl)
  have H6 := H5.part 2 rfl [mine [.slice _ z.Groups.length _] z.Groups sf1, mine [.slice _ z.On.length _] z.On sf2, mine [.slice _ z.Tapes.length _] z.Tapes sf3] (all_cons so1 (all_cons so2 (all_cons so3 (by simp)))) (by simp [blocks, mine, sq1])
  try dsimp only [lNA, lCA, lSZ, lSS] at H6
  refine s_var (wn rfl) rfl Tryz.zeroValue38 H6 (fun b3 w6 e6 g3 H7 => ?_)
  refine s_stoS (wn rfl) ts38 rfl rfl rfl rfl H7 6 rfl rfl (fun w7 e7 H8 => ?_)
  dsimp only [lNA, lCA, lSZ, lSS, layL] at H8
  refine s_nil (W_sr ?_)
  obtain ⟨fp2, H9⟩ := H8.closeW 6 3 4 5 z rfl rfl rfl rfl rfl rfl rfl rfl rfl rfl zK
  try dsimp only [lNA, lCA, lSZ, lSS] at H9
  refine s_call (wn rfl) rfl rfl (pc_call Tryz.func130 rfl Tryz_nm130 rfl) (Tryz_impl_World_cleanTapes (H9.wldAt 6 rfl) (H9.nodup1 (i := 6) rfl) (by first | assumption | omega) (by first | assumption | omega)) (fun v3 w8 r3 => ?_)
  obtain ⟨rfl, mm1⟩ := r3
  obtain ⟨fp3, H10⟩ := H9.mutW 6 rfl mm1
  try dsimp only [lNA, lCA, lSZ, lSS] at H10
  refine sA rfl rfl (s_nil (W_seq ?_))
  obtain ⟨wA1, wC1, wA2, wC2, wA3, wC3, wf1, wf2, wf3, wok1, H11⟩ := H10.openW 6 rfl
  try dsimp only [lNA, lCA, lSZ, lSS] at H11
  have wok1U := wok1
  unfold Wld.Ok Shape.Ok I64ok at wok1U
  have wL1 := oL (H11.mine 8 rfl)
  have wL2 := oL (H11.mine 9 rfl)
  have wL3 := oL (H11.mine 10 rfl)
  refine W_reg (sV rfl (py_loadS tu38 rfl ts38 rfl rfl (At.whole (H11.box 6 rfl))) (sM rfl rfl (s_call (wn rfl) rfl rfl (pc_call Tryz.func123 rfl Tryz_nm123 rfl) (Tryz_impl_changed_yes (by assumption) (H11.msees 8 rfl) (H11.msees 9 rfl) (H11.msees 10 rfl) (by first | assumption | (split <;> simp))) (fun v4 w9 r4 => ?_))))
  obtain ⟨e9, rfl⟩ := r4
  have H12 := H11.to e9
  refine s_stoS (wn rfl) ts66 rfl rfl rfl rfl H12 1 rfl rfl (fun w10 e10 H13 => ?_)
  dsimp only [lNA, lCA, lSZ, lSS, layL] at H13
  refine s_nil (W_ret (hQ _ _ (finC Tryz.results54 rfl (run_loadVarS tu66 rfl ts66 rfl (At.whole (H13.box 1 rfl))) ?_)))
  rw [cleanF_ok hu]
  exact ⟨H13.ext, _, _, _, _, _, _, rfl, WldResult.out (x := ⟨if (clnP z).1 = true then 0 else 9, (clnP z).2⟩) (H13.sub (.cons _ (.cons _ (.cons _ (.cons _ (.cons _ (.cons _ (.cons _ (.cons _ (.cons_cons _ (.cons_cons _ (.cons_cons _ List.Sublist.slnil)))))))))))) ⟨(by show I64ok (if (clnP z).1 = true then 0 else 9); unfold I64ok; split <;> omega), (by assumption)⟩⟩
theorem Tryz_spec_CleanTapes {w : World} {z : Wld} {zA9 zA10 zA11 : Option Addr} {zC9 zC10 zC11 : Nat} (zK : z.Ok) (zS9 : Sees w [.slice zA9 z.Groups.length zC9] z.Groups) (zS10 : Sees w [.slice zA10 z.On.length zC10] z.On) (zS11 : Sees w [.slice zA11 z.Tapes.length zC11] z.Tapes) (hb : szWld z ≤ 1048576) : Ret Tryz.prog 53 #[z.val zA9 zC9 zA10 zC10 zA11 zC11] w fun v w' => Ext No w w' ∧ (∃ A10 C10 A11 C11 A12 C12, v = (cleanF z).val A10 C10 A11 C11 A12 C12 ∧ Res w w' [.int .i64 (cleanF z).Code, .int .i64 (cleanF z).Wd.Shape.Groups, .int .i64 (cleanF z).Wd.Shape.Column, .int .i64 (cleanF z).Wd.Shape.Data, .int .i64 (cleanF z).Wd.Shape.Spare, .int .i64 (cleanF z).Wd.Shape.Rows, .int .i64 (cleanF z).Wd.Shape.Cap, .int .i64 (cleanF z).Wd.Shape.Batch, .int .i64 (cleanF z).Wd.Shape.Queue, .int .i64 (cleanF z).Wd.Shape.Stage, .slice A10 (cleanF z).Wd.Groups.length C10, .slice A11 (cleanF z).Wd.On.length C11, .slice A12 (cleanF z).Wd.Tapes.length C12, .int .i64 (cleanF z).Wd.Writes, .int .i64 (cleanF z).Wd.Stop, .bool (cleanF z).Wd.Down] (cleanF z)) := by
 have zK2 := zK
 unfold Wld.Ok Shape.Ok at zK2
 try unfold I64ok at zK2
 try unfold maxLen at zK2
 have zL9 := sL zS9
 obtain ⟨zF9, zO9⟩ := zS9
 have zL10 := sL zS10
 obtain ⟨zF10, zO10⟩ := zS10
 have zL11 := sL zS11
 obtain ⟨zF11, zO11⟩ := zS11
 refine ret_Q (vs := [z.val zA9 zC9 zA10 zC10 zA11 zC11]) Tryz.func53 rfl Tryz.ntmps53 rfl (fun Q hQ hN => ?_)
 have H0 := Sep.start (w := w) (F := [seen false [.slice zA9 z.Groups.length zC9] z.Groups zF9, seen false [.slice zA10 z.On.length zC10] z.On zF10, seen false [.slice zA11 z.Tapes.length zC11] z.Tapes zF11]) (all_cons zO9 (all_cons zO10 (all_cons zO11 (by simp))))
 refine W_sr (s_box (wn rfl) rfl rfl H0 (fun b1 w1 e1 g1 H1 => ?_))
 refine s_var (wn rfl) rfl Tryz.zeroValue66 H1 (fun b2 w2 e2 g2 H2 => ?_)
 refine s_nil (W_seq (W_sr (sV rfl (py_loadS tu38 rfl ts38 rfl rfl (At.whole (H2.box 0 rfl))) (s_call (wn rfl) rfl rfl (pc_call Tryz.func125 rfl Tryz_nm125 rfl) (Tryz_spec_l5Asked (by assumption) (H2.sees 0 rfl) (H2.sees 1 rfl) (H2.sees 2 rfl)) (fun v1 w3 r1 => ?_)))))
 obtain ⟨e3, rfl⟩ := r1
 have H3 := H2.to e3
 refine sA rfl rfl (s_nil (W_sr (sM rfl rfl (sV rfl (py_neq rfl rfl) (s_nil (W_ifd rfl (fun c1 => ?_) (fun c1 => ?_)))))))
 ·refine W_sr (sM rfl rfl (sV rfl (py_buildS Tryz_pl66 rfl rfl) (s_stoS (wn rfl) ts66 rfl rfl rfl rfl H3 1 rfl rfl (fun w4 e4 H4 => ?_))))
  dsimp only [lNA, lCA, lSZ, lSS, layL] at H4
  refine s_nil (W_ret (hQ _ _ (finC Tryz.results53 rfl (run_loadVarS tu66 rfl ts66 rfl (At.whole (H4.box 1 rfl))) ?_)))
  rw [cleanF_bad (by omega)]
  exact ⟨H4.ext, none, 0, none, 0, none, 0, rfl, wld_nil (by unfold I64ok; have := upF_cd (z := z); (try dsimp only); omega)⟩
 ·refine W_skip (W_seq ?_)
  have hu : upF z = 0 := by omega
  obtain ⟨hwf, hdn⟩ := upF_ok hu
  have hT := (worldF_ok hwf).2.2.2.1
  obtain ⟨hw0, hw1, _, _⟩ := worldF_rng hwf
  refine W_reg (sV rfl (py_loadS tu38 rfl ts38 rfl rfl (At.whole (H3.box 0 rfl))) (s_call (wn rfl) rfl rfl (pc_call Tryz.func113 rfl Tryz_nm113 rfl) (Tryz_spec_l5Copy (by assumption) (H3.sees 0 rfl) (H3.sees 1 rfl) (H3.sees 2 rfl) (by first | assumption | omega)) (fun v2 w5 r2 => ?_)))
  obtain ⟨e5, sa1, sk1, sa2, sk2, sa3, sk3, rfl, r2⟩ := r2
  obtain ⟨fp1, H5⟩ := H3.res e5 r2
  obtain ⟨sf1, sf2, sf3, sq1, sok1, so1, so2, so3⟩ := own_WldC (H5.mine 2 rfl)
  have H6 := H5.part 2 rfl [mine [.slice _ z.Groups.length _] z.Groups sf1, mine [.slice _ z.On.length _] z.On sf2, mine [.slice _ z.Tapes.length _] z.Tapes sf3] (all_cons so1 (all_cons so2 (all_cons so3 (by simp)))) (by simp [blocks, mine, sq1])
  try dsimp only [lNA, lCA, lSZ, lSS] at H6
  refine s_var (wn rfl) rfl Tryz.zeroValue38 H6 (fun b3 w6 e6 g3 H7 => ?_)
  refine s_stoS (wn rfl) ts38 rfl rfl rfl rfl H7 6 rfl rfl (fun w7 e7 H8 => ?_)
  dsimp only [lNA, lCA, lSZ, lSS, layL] at H8
  refine s_nil (W_sr ?_)
  obtain ⟨fp2, H9⟩ := H8.closeW 6 3 4 5 z rfl rfl rfl rfl rfl rfl rfl rfl rfl rfl zK
  try dsimp only [lNA, lCA, lSZ, lSS] at H9
  refine s_call (wn rfl) rfl rfl (pc_call Tryz.func129 rfl Tryz_nm129 rfl) (Tryz_spec_l7Clean (H9.wldAt 6 rfl) (H9.nodup1 (i := 6) rfl) (by first | assumption | omega) (by first | assumption | omega)) (fun v3 w8 r3 => ?_)
  obtain ⟨rfl, mm1⟩ := r3
  obtain ⟨fp3, H10⟩ := H9.mutW 6 rfl mm1
  try dsimp only [lNA, lCA, lSZ, lSS] at H10
  refine sA rfl rfl (s_nil (W_seq ?_))
  obtain ⟨wA1, wC1, wA2, wC2, wA3, wC3, wf1, wf2, wf3, wok1, H11⟩ := H10.openW 6 rfl
  try dsimp only [lNA, lCA, lSZ, lSS] at H11
  have wok1U := wok1
  unfold Wld.Ok Shape.Ok I64ok at wok1U
  have wL1 := oL (H11.mine 8 rfl)
  have wL2 := oL (H11.mine 9 rfl)
  have wL3 := oL (H11.mine 10 rfl)
  refine W_reg (sV rfl (py_loadS tu38 rfl ts38 rfl rfl (At.whole (H11.box 6 rfl))) (sM rfl rfl (s_call (wn rfl) rfl rfl (pc_call Tryz.func115 rfl Tryz_nm115 rfl) (Tryz_spec_l7Told (by assumption) (H11.msees 8 rfl) (H11.msees 9 rfl) (H11.msees 10 rfl)) (fun v4 w9 r4 => ?_))))
  obtain ⟨e9, rfl⟩ := r4
  have H12 := H11.to e9
  refine s_stoS (wn rfl) ts66 rfl rfl rfl rfl H12 1 rfl rfl (fun w10 e10 H13 => ?_)
  dsimp only [lNA, lCA, lSZ, lSS, layL] at H13
  refine s_nil (W_ret (hQ _ _ (finC Tryz.results53 rfl (run_loadVarS tu66 rfl ts66 rfl (At.whole (H13.box 1 rfl))) ?_)))
  rw [cleanF_ok hu]
  exact ⟨H13.ext, _, _, _, _, _, _, rfl, WldResult.out (x := ⟨if (clnP z).1 = true then 0 else 9, (clnP z).2⟩) (H13.sub (.cons _ (.cons _ (.cons _ (.cons _ (.cons _ (.cons _ (.cons _ (.cons _ (.cons_cons _ (.cons_cons _ (.cons_cons _ List.Sublist.slnil)))))))))))) ⟨(by show I64ok (if (clnP z).1 = true then 0 else 9); unfold I64ok; split <;> omega), (by assumption)⟩⟩
end Go.Wk
namespace Go.Wk
open Go.Proofs Rp
set_option maxRecDepth 10000
set_option maxHeartbeats 2000000 in
theorem Tryz_laws_FnExactCleanTapes {w : World} {z : Wld} {zA9 zA10 zA11 : Option Addr} {zC9 zC10 zC11 : Nat} (zK : z.Ok) (zS9 : Sees w [.slice zA9 z.Groups.length zC9] z.Groups) (zS10 : Sees w [.slice zA10 z.On.length zC10] z.On) (zS11 : Sees w [.slice zA11 z.Tapes.length zC11] z.Tapes) : Ret Tryz.prog 12 #[z.val zA9 zC9 zA10 zC10 zA11 zC11] w fun v w' => Ext No w w' ∧ (v = .bool true) := by
 have zK2 := zK
 unfold Wld.Ok Shape.Ok at zK2
 try unfold I64ok at zK2
 try unfold maxLen at zK2
 have zL9 := sL zS9
 obtain ⟨zF9, zO9⟩ := zS9
 have zL10 := sL zS10
 obtain ⟨zF10, zO10⟩ := zS10
 have zL11 := sL zS11
 obtain ⟨zF11, zO11⟩ := zS11
 refine ret_Q (vs := [z.val zA9 zC9 zA10 zC10 zA11 zC11]) Tryz.func12 rfl Tryz.ntmps12 rfl (fun Q hQ hN => ?_)
 have H0 := Sep.start (w := w) (F := [seen false [.slice zA9 z.Groups.length zC9] z.Groups zF9, seen false [.slice zA10 z.On.length zC10] z.On zF10, seen false [.slice zA11 z.Tapes.length zC11] z.Tapes zF11]) (all_cons zO9 (all_cons zO10 (all_cons zO11 (by simp))))
 refine W_sr (s_box (wn rfl) rfl rfl H0 (fun b1 w1 e1 g1 H1 => ?_))
 refine sA rfl rfl (s_nil (W_sr (sA rfl rfl (s_nil (W_sr (sV rfl (py_loadS tu28 rfl ts28 rfl rfl (At.whole (H1.box 0 rfl))) (sM rfl rfl (s_call (wn rfl) rfl rfl (pc_call Tryz.func15 rfl Tryz_nm15 rfl) (Tryz_laws_szWorld (by assumption) (H1.sees 0 rfl) (H1.sees 1 rfl) (H1.sees 2 rfl) (by omega)) (fun v1 w2 r1 => ?_)))))))))
 obtain ⟨e2, rfl⟩ := r1
 have H2 := H1.to e2
 refine sA rfl rfl (s_nil (W_seq (W_sr (sM rfl rfl (sV rfl (py_lss rfl rfl) (s_nil (W_ifd rfl (fun c1 => ?_) (fun c1 => ?_))))))))
 ·refine W_sr (sA rfl rfl (s_nil (rT hQ Tryz.results12 rfl ?_)))
  exact ⟨H2.ext, rfl⟩
 ·refine W_skip (W_seq ?_)
  have hsz : szWld z ≤ 1048576 := by omega
  have hmk := mkWld_le z
  have hml := mk_clean (z := z)
  have hOk := clean_Ok zK
  refine W_reg (sV rfl (py_loadS tu28 rfl ts28 rfl rfl (At.whole (H2.box 0 rfl))) (s_call (wn rfl) rfl rfl (pc_call Tryz.func17 rfl Tryz_nm17 rfl) (Tryz_laws_toWorld (by assumption) (H2.sees 0 rfl) (H2.sees 1 rfl) (H2.sees 2 rfl) (by assumption)) (fun v2 w3 r2 => ?_)))
  obtain ⟨e3, sa1, sk1, sa2, sk2, sa3, sk3, rfl, r2⟩ := r2
  obtain ⟨fp1, H3⟩ := H2.res e3 r2
  have H4 := H3.share 1 rfl
  obtain ⟨sf1, sf2, sf3, sq1, sok1, so1, so2, so3⟩ := own_WldC (H4.seen 3 rfl)
  have H6 := H4.look1 3 rfl so1 (fun b hb => by rw [sq1]; simp [hb])
  have H7 := H6.look1 3 rfl so2 (fun b hb => by rw [sq1]; simp [hb])
  have H8 := H7.look1 3 rfl so3 (fun b hb => by rw [sq1]; simp [hb])
  refine s_call (wn rfl) rfl rfl (pc_call Tryz.func53 rfl Tryz_nm53 rfl) (Tryz_spec_CleanTapes (by assumption) (H8.sees 4 rfl) (H8.sees 5 rfl) (H8.sees 6 rfl) (by first | assumption | omega)) (fun v3 w4 r3 => ?_)
  obtain ⟨e4, sa4, sk4, sa5, sk5, sa6, sk6, rfl, r3⟩ := r3
  obtain ⟨fp2, H9⟩ := H8.res e4 r3
  have H10 := H9.share 2 rfl
  obtain ⟨sf4, sf5, sf6, sq2, sok2, so4, so5, so6⟩ := own_WldResultC (H10.seen 7 rfl)
  have H12 := H10.look1 7 rfl so4 (fun b hb => by rw [sq2]; simp [hb])
  have H13 := H12.look1 7 rfl so5 (fun b hb => by rw [sq2]; simp [hb])
  have H14 := H13.look1 7 rfl so6 (fun b hb => by rw [sq2]; simp [hb])
  refine s_var (wn rfl) rfl Tryz.zeroValue66 H14 (fun b2 w5 e5 g2 H15 => ?_)
  refine s_stoS (wn rfl) ts66 rfl rfl rfl rfl H15 3 rfl rfl (fun w6 e6 H16 => ?_)
  dsimp only [lNA, lCA, lSZ, lSS, layL] at H16
  refine s_nil (W_sr (sV rfl (py_loadS tu28 rfl ts28 rfl rfl (At.whole (H16.box 0 rfl))) (s_call (wn rfl) rfl rfl (pc_call Tryz.func17 rfl Tryz_nm17 rfl) (Tryz_laws_toWorld (by assumption) (H16.sees 0 rfl) (H16.sees 1 rfl) (H16.sees 2 rfl) (by assumption)) (fun v4 w7 r4 => ?_))))
  obtain ⟨e7, sa7, sk7, sa8, sk8, sa9, sk9, rfl, r4⟩ := r4
  obtain ⟨fp3, H17⟩ := H16.res e7 r4
  refine s_var (wn rfl) rfl Tryz.zeroValue38 H17 (fun b3 w8 e8 g3 H18 => ?_)
  refine s_stoS (wn rfl) ts38 rfl rfl rfl rfl H18 5 rfl rfl (fun w9 e9 H19 => ?_)
  dsimp only [lNA, lCA, lSZ, lSS, layL] at H19
  refine s_nil (W_sr (sV rfl (py_loadS tu38 rfl ts38 rfl rfl (At.whole (H19.box 5 rfl))) (s_call (wn rfl) rfl rfl (pc_call Tryz.func54 rfl Tryz_nm54 rfl) (Tryz_impl_CleanTapes (by assumption) (Wld.see9 (H19.mine 4 rfl)) (Wld.see10 (H19.mine 4 rfl)) (Wld.see11 (H19.mine 4 rfl)) (by first | assumption | omega)) (fun v5 w10 r5 => ?_))))
  obtain ⟨e10, sa10, sk10, sa11, sk11, sa12, sk12, rfl, r5⟩ := r5
  obtain ⟨fp4, H20⟩ := H19.res e10 r5
  refine s_var (wn rfl) rfl Tryz.zeroValue66 H20 (fun b4 w11 e11 g4 H21 => ?_)
  refine s_stoS (wn rfl) ts66 rfl rfl rfl rfl H21 7 rfl rfl (fun w12 e12 H22 => ?_)
  dsimp only [lNA, lCA, lSZ, lSS, layL] at H22
  refine s_nil (W_seq (W_sr (sV rfl (py_loadS tu66 rfl ts66 rfl rfl (At.whole (H22.box 7 rfl))) (sV rfl (py_loadS tu66 rfl ts66 rfl rfl (At.whole (H22.box 3 rfl))) (s_call (wn rfl) rfl rfl (pc_call Tryz.func46 rfl Tryz_nm46 rfl) (Tryz_laws_eqWorldResult (by assumption) (WldResult.see10 (H22.mine 6 rfl)) (WldResult.see11 (H22.mine 6 rfl)) (WldResult.see12 (H22.mine 6 rfl)) (by assumption) (H22.sees 8 rfl) (H22.sees 9 rfl) (H22.sees 10 rfl)) (fun v6 w13 r6 => ?_))))))
  obtain ⟨e13, rfl⟩ := r6
  have H23 := H22.to e13
  refine sV rfl (py_not rfl) (s_nil (W_if rfl (fun c2 => ?_) (fun c2 => ?_)))
  ·exfalso; simp_all
  ·refine W_skip (W_seq (W_seq (W_drw (S := Ext No _) [(0, true), (1, true), (2, false), (3, false), (4, false)] (by kernel_rfl) (by kernel_rfl) (by kernel_rfl) rfl (fun _ => Ext.refl.drawn _) (fun q1 => ?_))))
   have H24 := H23.drawn q1
   refine dV rfl rfl (fun zw hx => py_loadS tu38 rfl ts38 rfl rfl (At.whole (hx.heap (H24.box 5 rfl)))) (dV rfl rfl (fun zw hx => py_loadS tu28 rfl ts28 rfl rfl (At.whole (hx.heap (H24.box 0 rfl)))) (d_call rfl (wn rfl) rfl rfl (pc_call Tryz.func17 rfl Tryz_nm17 rfl) (Tryz_laws_toWorld (by assumption) (H24.sees 0 rfl) (H24.sees 1 rfl) (H24.sees 2 rfl) (by assumption)) (fun hS _ _ r _ => hS.trans r.1.no) (fun v7 w14 r7 => ?_)))
   obtain ⟨e14, sa13, sk13, sa14, sk14, sa15, sk15, rfl, r7⟩ := r7
   obtain ⟨fp5, H25⟩ := H24.res e14 r7
   have H26 := H25.share 8 rfl
   obtain ⟨sf7, sf8, sf9, sq3, sok3, so7, so8, so9⟩ := own_WldC (H26.seen 11 rfl)
   have H28 := H26.look1 11 rfl so7 (fun b hb => by rw [sq3]; simp [hb])
   have H29 := H28.look1 11 rfl so8 (fun b hb => by rw [sq3]; simp [hb])
   have H30 := H29.look1 11 rfl so9 (fun b hb => by rw [sq3]; simp [hb])
   refine d_call rfl (wn rfl) rfl rfl (pc_call Tryz.func20 rfl Tryz_nm20 rfl) (Tryz_laws_eqWorld (by assumption) (Wld.see9 (H30.mine 4 rfl)) (Wld.see10 (H30.mine 4 rfl)) (Wld.see11 (H30.mine 4 rfl)) (by assumption) (H30.sees 12 rfl) (H30.sees 13 rfl) (H30.sees 14 rfl)) (fun hS _ _ r _ => hS.trans r.1.no) (fun v8 w15 r8 => ?_)
   obtain ⟨e15, rfl⟩ := r8
   have H31 := H30.to e15
   refine d_end rfl (wn rfl) rfl rfl (py_not rfl) (d_nil (W_if rfl (fun c3 => ?_) (fun c3 => ?_)))
   ·exfalso; simp_all
   ·refine W_skip (W_sr (sA rfl rfl (s_nil (W_sr (sV rfl (py_loadS tu38 rfl ts38 rfl rfl (At.whole (H31.box 5 rfl))) (sM rfl rfl (s_call (wn rfl) rfl rfl (pc_call Tryz.func21 rfl Tryz_nm21 rfl) (Tryz_laws_markWorld (by assumption) (H31.mine 4 rfl) (H31.nodup1 (i := 4) rfl) (by constructor <;> omega)) (fun v9 w16 r9 => ?_))))))))
    obtain ⟨rfl, mx1, mm1, ml1⟩ := r9
    obtain ⟨fp6, H32⟩ := H31.mut 4 rfl mm1
    try dsimp only [lNA, lCA, lSZ, lSS] at H32
    refine sA rfl rfl (s_nil (W_seq (W_sr (sM rfl rfl (sV rfl (py_lss rfl rfl) (sM rfl rfl (s_grp 4 (j := 2) (want := false) (t := 41) rfl rfl rfl rfl (fun hg1 kk1 => s_val (wgE rfl rfl rfl hg1) rfl rfl (py_loadS tu66 rfl ts66 rfl rfl (At.whole (H32.box 7 rfl))) (s_val (wgE rfl rfl rfl hg1) rfl rfl (py_loadS tu66 rfl ts66 rfl rfl (At.whole (H32.box 3 rfl))) (s_callv (wgE rfl rfl rfl hg1) rfl rfl (pc_call Tryz.func46 rfl Tryz_nm46 rfl) (Tryz_laws_eqWorldResult (by assumption) (WldResult.see10 (H32.mine 6 rfl)) (WldResult.see11 (H32.mine 6 rfl)) (WldResult.see12 (H32.mine 6 rfl)) (by assumption) (H32.sees 8 rfl) (H32.sees 9 rfl) (H32.sees 10 rfl)) (fun w18 e18 => s_val (wgE rfl rfl rfl hg1) rfl rfl (py_not rfl) (kk1 _ _ (kx rfl (kx rfl (kx rfl (kx rfl k0)))) rfl (Ext.refl.trans e18)))))) (fun w17 e17 => ?_))))))))
    have H33 := H32.to e17
    refine sV rfl (py_bor rfl rfl) (s_nil (W_if rfl (fun c4 => ?_) (fun c4 => ?_)))
    ·exact absurd c4 (by simp; omega)
    ·refine W_skip (W_sr (sA rfl rfl (s_nil (W_sr (sV rfl (py_loadS tu66 rfl ts66 rfl rfl (At.whole (H33.box 7 rfl))) (sM rfl rfl (s_call (wn rfl) rfl rfl (pc_call Tryz.func49 rfl Tryz_nm49 rfl) (Tryz_laws_markWorldResult (H33.mine 6 rfl) (H33.nodup1 (i := 6) rfl) (by constructor <;> omega)) (fun v10 w19 r10 => ?_))))))))
     obtain ⟨rfl, mx2, mm2, ml2⟩ := r10
     obtain ⟨fp7, H34⟩ := H33.mut 6 rfl mm2
     try dsimp only [lNA, lCA, lSZ, lSS] at H34
     refine sA rfl rfl (s_nil (W_sr (sA rfl rfl (s_nil (W_sr (sV rfl (py_loadS tu66 rfl ts66 rfl rfl (At.whole (H34.box 7 rfl))) (sM rfl rfl (s_call (wn rfl) rfl rfl (pc_call Tryz.func50 rfl Tryz_nm50 rfl) (Tryz_laws_heldWorldResult (x := mx2) (wr_see (H34.mine 6 rfl)).1 (wr_see (H34.mine 6 rfl)).2.1 (wr_see (H34.mine 6 rfl)).2.2 (by have := ml2.2.2.2.1; constructor <;> omega) ml2.2.2.2.2.1) (fun v11 w20 r11 => ?_)))))))))
     obtain ⟨e20, rfl⟩ := r11
     have H35 := H34.to e20
     refine sA rfl rfl (s_nil (W_seq (W_seq ?_)))
     have hq := ml2.2.2.2.1
     refine W_reg (sM rfl rfl (sV rfl (py_lss rfl rfl) (s_nil (W_ifd rfl (fun c5 => ?_) (fun c5 => ?_)))))
     ·exact absurd c5 (by omega)
     ·refine W_skip (W_seq (W_sr (sM rfl rfl (sM rfl rfl (sV rfl (py_neq rfl rfl) (s_nil (W_ifd rfl (fun c6 => ?_) (fun c6 => ?_))))))))
      ·exact absurd c6 (by omega)
      ·refine W_skip (W_sr (sV rfl (py_loadS tu28 rfl ts28 rfl rfl (At.whole (H35.box 0 rfl))) (s_call (wn rfl) rfl rfl (pc_call Tryz.func17 rfl Tryz_nm17 rfl) (Tryz_laws_toWorld (by assumption) (H35.sees 0 rfl) (H35.sees 1 rfl) (H35.sees 2 rfl) (by assumption)) (fun v12 w21 r12 => ?_))))
       obtain ⟨e21, sa16, sk16, sa17, sk17, sa18, sk18, rfl, r12⟩ := r12
       obtain ⟨fp8, H36⟩ := H35.res e21 r12
       have H37 := H36.share 9 rfl
       obtain ⟨sf10, sf11, sf12, sq4, sok4, so10, so11, so12⟩ := own_WldC (H37.seen 15 rfl)
       have H39 := H37.look1 15 rfl so10 (fun b hb => by rw [sq4]; simp [hb])
       have H40 := H39.look1 15 rfl so11 (fun b hb => by rw [sq4]; simp [hb])
       have H41 := H40.look1 15 rfl so12 (fun b hb => by rw [sq4]; simp [hb])
       refine s_call (wn rfl) rfl rfl (pc_call Tryz.func54 rfl Tryz_nm54 rfl) (Tryz_impl_CleanTapes (by assumption) (H41.sees 16 rfl) (H41.sees 17 rfl) (H41.sees 18 rfl) (by first | assumption | omega)) (fun v13 w22 r13 => ?_)
       obtain ⟨e22, sa19, sk19, sa20, sk20, sa21, sk21, rfl, r13⟩ := r13
       obtain ⟨fp9, H42⟩ := H41.res e22 r13
       have H43 := H42.share 10 rfl
       obtain ⟨sf13, sf14, sf15, sq5, sok5, so13, so14, so15⟩ := own_WldResultC (H43.seen 19 rfl)
       have H45 := H43.look1 19 rfl so13 (fun b hb => by rw [sq5]; simp [hb])
       have H46 := H45.look1 19 rfl so14 (fun b hb => by rw [sq5]; simp [hb])
       have H47 := H46.look1 19 rfl so15 (fun b hb => by rw [sq5]; simp [hb])
       refine s_var (wn rfl) rfl Tryz.zeroValue66 H47 (fun b5 w23 e23 g5 H48 => ?_)
       refine s_stoS (wn rfl) ts66 rfl rfl rfl rfl H48 11 rfl rfl (fun w24 e24 H49 => ?_)
       dsimp only [lNA, lCA, lSZ, lSS, layL] at H49
       refine s_nil (W_seq (W_sr (sV rfl (py_loadS tu66 rfl ts66 rfl rfl (At.whole (H49.box 11 rfl))) (sV rfl (py_loadS tu66 rfl ts66 rfl rfl (At.whole (H49.box 3 rfl))) (s_call (wn rfl) rfl rfl (pc_call Tryz.func46 rfl Tryz_nm46 rfl) (Tryz_laws_eqWorldResult (by assumption) (H49.sees 20 rfl) (H49.sees 21 rfl) (H49.sees 22 rfl) (by assumption) (H49.sees 8 rfl) (H49.sees 9 rfl) (H49.sees 10 rfl)) (fun v14 w25 r14 => ?_))))))
       obtain ⟨e25, rfl⟩ := r14
       have H50 := H49.to e25
       refine sV rfl (py_not rfl) (s_nil (W_if rfl (fun c7 => ?_) (fun c7 => ?_)))
       ·exfalso; simp_all
       ·refine W_skip (W_sr (sA rfl rfl (s_nil (W_sr (sV rfl (py_loadS tu66 rfl ts66 rfl rfl (At.whole (H50.box 7 rfl))) (sM rfl rfl (s_call (wn rfl) rfl rfl (pc_call Tryz.func50 rfl Tryz_nm50 rfl) (Tryz_laws_heldWorldResult (x := mx2) (wr_see (H50.mine 6 rfl)).1 (wr_see (H50.mine 6 rfl)).2.1 (wr_see (H50.mine 6 rfl)).2.2 (by have := ml2.2.2.2.1; constructor <;> omega) ml2.2.2.2.2.1) (fun v15 w26 r15 => ?_))))))))
        obtain ⟨e26, rfl⟩ := r15
        have H51 := H50.to e26
        refine sA rfl rfl (s_nil (W_seq (W_sr (sM rfl rfl (sV rfl (py_lss rfl rfl) (s_nil (W_ifd rfl (fun c8 => ?_) (fun c8 => ?_))))))))
        ·exact absurd c8 (by omega)
        ·refine W_skip (W_seq (W_sr (sM rfl rfl (sM rfl rfl (sV rfl (py_neq rfl rfl) (s_nil (W_ifd rfl (fun c9 => ?_) (fun c9 => ?_))))))))
         ·exact absurd c9 (by omega)
         ·refine W_skip (W_sr (sA rfl rfl (s_nil (rT hQ Tryz.results12 rfl ?_))))
          exact ⟨H51.ext, rfl⟩
end Go.Wk
