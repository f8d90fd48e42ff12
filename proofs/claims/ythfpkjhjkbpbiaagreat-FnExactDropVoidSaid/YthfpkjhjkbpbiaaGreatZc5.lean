/-
  Laws on walking, and the functions walked, each once: what this claim comes to.
-/
import Derived.Test.YthfpkjhjkbpbiaaGreatZc4
set_option linter.unusedVariables false
set_option linter.unusedSimpArgs false
namespace Go.Wk
open Go.Proofs Rp
set_option maxRecDepth 10000
theorem Tryz_laws_heldBlockS {w : World} {xs : List Block} {xsA : Option Addr} {xsC : Nat} {k : Int} (xsS : Sees w [.slice xsA xs.length xsC] xs) (hk : 0 ≤ k ∧ k + mkL mkBlock xs ≤ 4611686018427387904) (hm : MkL MkBlock mkBlock xs k) : Ret Tryz.prog 335 #[.slice xsA xs.length xsC, .int .i64 k] w fun v w' => Ext No w w' ∧ (v = .int .i64 (k + mkL mkBlock xs)) := by
 have xsL := sL xsS
 obtain ⟨xsF, xsO⟩ := xsS
 refine ret_Q (vs := [.slice xsA xs.length xsC, .int .i64 k]) Tryz.func335 rfl Tryz.ntmps335 rfl (fun Q hQ hN => ?_)
 have H0 := Sep.start (w := w) (F := [seen false [.slice xsA xs.length xsC] xs xsF]) (all_cons xsO (by simp))
 refine W_sr (sA rfl rfl (s_nil (W_seq (W_sr (sA rfl rfl (s_nil (W_block (W_loopS (γ := Nat) H0 [(0, _)] ⟨rfl, trivial⟩ (fun i => [(1, .int .i64 (k + sumN (fun i => mkBlock (xs.getD i default)) i)), (5, .int .i64 i)]) (fun i => i ≤ xs.length ∧ True) (fun i => xs.length - i) 0 ⟨eqI (by simp [sumN]), rfl, trivial⟩ ⟨by omega, trivial⟩ (fun i w1 H1 ⟨hi, _⟩ => ?_)))))))))
 dsimp only [lCA, lNA]
 refine W_seq (W_sr (sM rfl rfl (sM rfl rfl (sV rfl (py_len tu178 rfl) (sV rfl (py_lss rfl rfl) (s_nil (W_ifd rfl (fun c1 => ?_) (fun c1 => ?_))))))))
 ·refine W_skip (W_seq (W_block (W_seq (W_seq ?_))))
  have hmi := hm i (by omega)
  obtain ⟨sg, sl⟩ := mkL_at (c := mkBlock) (xs := xs) (i := i) (by omega)
  have hcu : mkBlock (xs.getD i default) = 1 + (xs.getD i default).Bytes.length := rfl
  obtain ⟨hm1, hm2⟩ := hmi
  obtain ⟨eb1, eo1, es1, ef1, ee1, ec1, eO1, eH1, em1⟩ := elem_st (H1.seen 0 rfl) i (by omega)
  obtain ⟨ea1, ek1, eg1, rfl, eq1, eK1, eo2⟩ := own_Block eO1
  have eK1U := eK1
  unfold Block.Ok at eK1U
  try unfold I64ok at eK1U
  try unfold maxLen at eK1U
  have eP1 := H1.look1 0 rfl eo2 (fun b hb => eH1 b (by rw [eq1]; simp [hb]))
  have eL1 := oL eo2
  refine W_reg (sM rfl rfl (sM rfl rfl (sV rfl (py_elz tu178 ts182 rfl rfl ee1 i (by omega) (by omega)) (sV rfl (py_field tu182 rfl ts2 rfl rfl) (sV rfl (py_load tu2 rfl rfl (at_cell ec1 0 rfl)) (sM rfl rfl (sV rfl (py_neq rfl rfl) (s_nil (W_ifd rfl (fun c2 => ?_) (fun c2 => ?_))))))))))
  ·exact absurd hm1 c2
  ·refine W_skip (W_sr (sM rfl rfl (sV rfl (py_add rfl rfl (in64 ⟨by omega, by omega⟩)) (sA rfl rfl (s_nil (W_seq ?_))))))
   obtain ⟨eb2, eo3, es2, ef2, ee2, ec2, eO2, eH2, em2⟩ := elem_st (eP1.seen 0 rfl) i (by omega)
   obtain ⟨ea2, ek2, eg2, rfl, eq2, eK2, eo4⟩ := own_Block eO2
   have eK2U := eK2
   unfold Block.Ok at eK2U
   try unfold I64ok at eK2U
   try unfold maxLen at eK2U
   have eP2 := eP1.look1 0 rfl eo4 (fun b hb => eH2 b (by rw [eq2]; simp [hb]))
   have eL2 := oL eo4
   refine W_reg (sM rfl rfl (sM rfl rfl (sV rfl (py_elz tu178 ts182 rfl rfl ee2 i (by omega) (by omega)) (sV rfl (py_field tu182 rfl ts45 rfl rfl) (sV rfl (py_load tu45 rfl rfl (at_cell ec2 1 rfl)) (sM rfl rfl (s_call (wn rfl) rfl rfl (pc_call Tryz.func89 rfl Tryz_nm89 rfl) (Tryz_laws_heldByteS (eP2.sees 2 rfl) (by constructor <;> omega) (by assumption)) (fun v1 w2 r1 => ?_))))))))
   obtain ⟨e1, rfl⟩ := r1
   have H2 := eP2.to e1
   refine sA rfl rfl (s_nil (W_sr (sM rfl rfl (sV rfl (py_lss rfl rfl) (s_nil (W_ifd rfl (fun c3 => ?_) (fun c3 => ?_)))))))
   ·exact absurd c3 (by omega)
   ·refine W_skip (W_reg (sM rfl rfl (sV rfl (py_add rfl rfl (in64 ⟨by omega, by omega⟩)) (sA rfl rfl (s_nil (⟨i + 1, ⟨eqI (by omega), rfl, rfl, trivial⟩, ⟨(H2.ftake 1), by omega, trivial⟩, by dsimp only; omega⟩))))))
 ·refine W_exit (W_sr (sM rfl rfl (sA rfl rfl (s_nil (rT hQ Tryz.results335 rfl ?_)))))
  obtain rfl : i = xs.length := by omega
  exact ⟨H1.ext, rfl⟩
theorem Tryz_laws_heldDriveS {w : World} {xs : List Drive} {xsA : Option Addr} {xsC : Nat} {k : Int} (xsS : Sees w [.slice xsA xs.length xsC] xs) (hk : 0 ≤ k ∧ k + mkL mkDrive xs ≤ 4611686018427387904) (hm : MkL MkDrive mkDrive xs k) : Ret Tryz.prog 292 #[.slice xsA xs.length xsC, .int .i64 k] w fun v w' => Ext No w w' ∧ (v = .int .i64 (k + mkL mkDrive xs)) := by
 have xsL := sL xsS
 obtain ⟨xsF, xsO⟩ := xsS
 refine ret_Q (vs := [.slice xsA xs.length xsC, .int .i64 k]) Tryz.func292 rfl Tryz.ntmps292 rfl (fun Q hQ hN => ?_)
 have H0 := Sep.start (w := w) (F := [seen false [.slice xsA xs.length xsC] xs xsF]) (all_cons xsO (by simp))
 refine W_sr (sA rfl rfl (s_nil (W_seq (W_sr (sA rfl rfl (s_nil (W_block (W_loopS (γ := Nat) H0 [(0, _)] ⟨rfl, trivial⟩ (fun i => [(1, .int .i64 (k + sumN (fun i => mkDrive (xs.getD i default)) i)), (5, .int .i64 i)]) (fun i => i ≤ xs.length ∧ True) (fun i => xs.length - i) 0 ⟨eqI (by simp [sumN]), rfl, trivial⟩ ⟨by omega, trivial⟩ (fun i w1 H1 ⟨hi, _⟩ => ?_)))))))))
 dsimp only [lCA, lNA]
 refine W_seq (W_sr (sM rfl rfl (sM rfl rfl (sV rfl (py_len tu142 rfl) (sV rfl (py_lss rfl rfl) (s_nil (W_ifd rfl (fun c1 => ?_) (fun c1 => ?_))))))))
 ·refine W_skip (W_seq (W_block (W_seq (W_seq ?_))))
  have hmi := hm i (by omega)
  obtain ⟨sg, sl⟩ := mkL_at (c := mkDrive) (xs := xs) (i := i) (by omega)
  have hcu : mkDrive (xs.getD i default) = 1 + mkL mkBlock (xs.getD i default).Blocks := rfl
  obtain ⟨hm1, hm2⟩ := hmi
  obtain ⟨eb1, eo1, es1, ef1, ee1, ec1, eO1, eH1, em1⟩ := elem_st (H1.seen 0 rfl) i (by omega)
  obtain ⟨ea1, ek1, eg1, rfl, eq1, eK1, eo2⟩ := own_Drive eO1
  have eP1 := H1.look1 0 rfl eo2 (fun b hb => eH1 b (by rw [eq1]; simp [hb]))
  have eL1 := oL eo2
  refine W_reg (sM rfl rfl (sM rfl rfl (sV rfl (py_elz tu142 ts180 rfl rfl ee1 i (by omega) (by omega)) (sV rfl (py_field tu180 rfl ts4 rfl rfl) (sV rfl (py_load tu4 rfl rfl (at_cell ec1 0 rfl)) (sM rfl rfl (sV rfl (py_rem rfl rfl (by omega)) (sV rfl (py_eql rfl rfl) (sV rfl (py_bneq tu4 rfl rfl) (s_nil (W_if rfl (fun c2 => ?_) (fun c2 => ?_))))))))))))
  ·exfalso; rw [hm1] at c2; simp at c2
  ·refine W_skip (W_sr (sM rfl rfl (sV rfl (py_add rfl rfl (in64 ⟨by omega, by omega⟩)) (sA rfl rfl (s_nil (W_seq ?_))))))
   obtain ⟨eb2, eo3, es2, ef2, ee2, ec2, eO2, eH2, em2⟩ := elem_st (eP1.seen 0 rfl) i (by omega)
   obtain ⟨ea2, ek2, eg2, rfl, eq2, eK2, eo4⟩ := own_Drive eO2
   have eP2 := eP1.look1 0 rfl eo4 (fun b hb => eH2 b (by rw [eq2]; simp [hb]))
   have eL2 := oL eo4
   refine W_reg (sM rfl rfl (sM rfl rfl (sV rfl (py_elz tu142 ts180 rfl rfl ee2 i (by omega) (by omega)) (sV rfl (py_field tu180 rfl ts178 rfl rfl) (sV rfl (py_load tu178 rfl rfl (at_cell ec2 1 rfl)) (sM rfl rfl (s_call (wn rfl) rfl rfl (pc_call Tryz.func335 rfl Tryz_nm335 rfl) (Tryz_laws_heldBlockS (eP2.sees 2 rfl) (by constructor <;> omega) (by assumption)) (fun v1 w2 r1 => ?_))))))))
   obtain ⟨e1, rfl⟩ := r1
   have H2 := eP2.to e1
   refine sA rfl rfl (s_nil (W_sr (sM rfl rfl (sV rfl (py_lss rfl rfl) (s_nil (W_ifd rfl (fun c3 => ?_) (fun c3 => ?_)))))))
   ·exact absurd c3 (by omega)
   ·refine W_skip (W_reg (sM rfl rfl (sV rfl (py_add rfl rfl (in64 ⟨by omega, by omega⟩)) (sA rfl rfl (s_nil (⟨i + 1, ⟨eqI (by omega), rfl, rfl, trivial⟩, ⟨(H2.ftake 1), by omega, trivial⟩, by dsimp only; omega⟩))))))
 ·refine W_exit (W_sr (sM rfl rfl (sA rfl rfl (s_nil (rT hQ Tryz.results292 rfl ?_)))))
  obtain rfl : i = xs.length := by omega
  exact ⟨H1.ext, rfl⟩
theorem Tryz_laws_heldDriveSS {w : World} {xs : List (List Drive)} {xsA : Option Addr} {xsC : Nat} {k : Int} (xsS : Sees w [.slice xsA xs.length xsC] xs) (hk : 0 ≤ k ∧ k + mkL (mkL mkDrive) xs ≤ 4611686018427387904) (hm : MkL (MkL MkDrive mkDrive) (mkL mkDrive) xs k) : Ret Tryz.prog 212 #[.slice xsA xs.length xsC, .int .i64 k] w fun v w' => Ext No w w' ∧ (v = .int .i64 (k + mkL (mkL mkDrive) xs)) := by
 have xsL := sL xsS
 obtain ⟨xsF, xsO⟩ := xsS
 refine ret_Q (vs := [.slice xsA xs.length xsC, .int .i64 k]) Tryz.func212 rfl Tryz.ntmps212 rfl (fun Q hQ hN => ?_)
 have H0 := Sep.start (w := w) (F := [seen false [.slice xsA xs.length xsC] xs xsF]) (all_cons xsO (by simp))
 refine W_sr (sA rfl rfl (s_nil (W_seq (W_sr (sA rfl rfl (s_nil (W_block (W_loopS (γ := Nat) H0 [(0, _)] ⟨rfl, trivial⟩ (fun i => [(1, .int .i64 (k + sumN (fun i => (mkL mkDrive) (xs.getD i default)) i)), (5, .int .i64 i)]) (fun i => i ≤ xs.length ∧ True) (fun i => xs.length - i) 0 ⟨eqI (by simp [sumN]), rfl, trivial⟩ ⟨by omega, trivial⟩ (fun i w1 H1 ⟨hi, _⟩ => ?_)))))))))
 dsimp only [lCA, lNA]
 refine W_seq (W_sr (sM rfl rfl (sM rfl rfl (sV rfl (py_len tu35 rfl) (sV rfl (py_lss rfl rfl) (s_nil (W_ifd rfl (fun c1 => ?_) (fun c1 => ?_))))))))
 ·refine W_skip (W_seq (W_block (W_seq ?_)))
  have hmi := hm i (by omega)
  obtain ⟨sg, sl⟩ := mkL_at (c := (mkL mkDrive)) (xs := xs) (i := i) (by omega)
  have hcu : mkL mkDrive (xs.getD i default) = mkL mkDrive (xs.getD i []) := rfl
  have hm2 : MkL MkDrive mkDrive (xs.getD i []) ((k + sumN (fun i => (mkL mkDrive) (xs.getD i default)) i)) := hmi
  obtain ⟨eb1, eo1, ea1, ek1, ef1, ee1, ec1, eO1, eH1⟩ := elem_sl (H1.seen 0 rfl) i (by omega)
  have eP1 := H1.look1 0 rfl eO1 eH1
  refine W_reg (sM rfl rfl (sM rfl rfl (sV rfl (py_elz tu35 ts142 rfl rfl ee1 i (by omega) (by omega)) (sV rfl (py_load tu142 rfl rfl ec1) (sM rfl rfl (s_call (wn rfl) rfl rfl (pc_call Tryz.func292 rfl Tryz_nm292 rfl) (Tryz_laws_heldDriveS (eP1.sees 1 rfl) (by constructor <;> omega) (by assumption)) (fun v1 w2 r1 => ?_)))))))
  obtain ⟨e1, rfl⟩ := r1
  have H2 := eP1.to e1
  refine sA rfl rfl (s_nil (W_sr (sM rfl rfl (sV rfl (py_lss rfl rfl) (s_nil (W_ifd rfl (fun c2 => ?_) (fun c2 => ?_)))))))
  ·exact absurd c2 (by omega)
  ·refine W_skip (W_reg (sM rfl rfl (sV rfl (py_add rfl rfl (in64 ⟨by omega, by omega⟩)) (sA rfl rfl (s_nil (⟨i + 1, ⟨eqI (by omega), rfl, rfl, trivial⟩, ⟨(H2.ftake 1), by omega, trivial⟩, by dsimp only; omega⟩))))))
 ·refine W_exit (W_sr (sM rfl rfl (sA rfl rfl (s_nil (rT hQ Tryz.results212 rfl ?_)))))
  obtain rfl : i = xs.length := by omega
  exact ⟨H1.ext, rfl⟩
set_option maxHeartbeats 1000000 in
theorem Tryz_laws_heldRecS {w : World} {xs : List Rec} {xsA : Option Addr} {xsC : Nat} {k : Int} (xsS : Sees w [.slice xsA xs.length xsC] xs) (hk : 0 ≤ k ∧ k + mkL mkRec xs ≤ 4611686018427387904) (hm : MkL MkRec mkRec xs k) : Ret Tryz.prog 84 #[.slice xsA xs.length xsC, .int .i64 k] w fun v w' => Ext No w w' ∧ (v = .int .i64 (k + mkL mkRec xs)) := by
 have xsL := sL xsS
 obtain ⟨xsF, xsO⟩ := xsS
 refine ret_Q (vs := [.slice xsA xs.length xsC, .int .i64 k]) Tryz.func84 rfl Tryz.ntmps84 rfl (fun Q hQ hN => ?_)
 have H0 := Sep.start (w := w) (F := [seen false [.slice xsA xs.length xsC] xs xsF]) (all_cons xsO (by simp))
 refine W_sr (sA rfl rfl (s_nil (W_seq (W_sr (sA rfl rfl (s_nil (W_block (W_loopS (γ := Nat) H0 [(0, _)] ⟨rfl, trivial⟩ (fun i => [(1, .int .i64 (k + sumN (fun i => mkRec (xs.getD i default)) i)), (5, .int .i64 i)]) (fun i => i ≤ xs.length ∧ True) (fun i => xs.length - i) 0 ⟨eqI (by simp [sumN]), rfl, trivial⟩ ⟨by omega, trivial⟩ (fun i w1 H1 ⟨hi, _⟩ => ?_)))))))))
 dsimp only [lCA, lNA]
 refine W_seq (W_sr (sM rfl rfl (sM rfl rfl (sV rfl (py_len tu30 rfl) (sV rfl (py_lss rfl rfl) (s_nil (W_ifd rfl (fun c1 => ?_) (fun c1 => ?_))))))))
 ·refine W_skip (W_seq (W_block (W_seq (W_seq ?_))))
  have hmi := hm i (by omega)
  obtain ⟨sg, sl⟩ := mkL_at (c := mkRec) (xs := xs) (i := i) (by omega)
  have hcu : mkRec (xs.getD i default) = 6 + (xs.getD i default).Rows.length + (xs.getD i default).Data.length + (xs.getD i default).Delta.length := rfl
  obtain ⟨m1, m2, m3, m4, m5, m6, m7, m8, m9⟩ := hmi
  have n3 : (xs.getD i default).Name = mText ((k + sumN (fun i => mkRec (xs.getD i default)) i) + 1 + 1) := by rw [m3]; congr 1; omega
  have n7 : MarkI (xs.getD i default).Rows ((k + sumN (fun i => mkRec (xs.getD i default)) i) + 1 + 1 + 1 + 1 + 1 + 1) := by rwa [show (k + sumN (fun i => mkRec (xs.getD i default)) i) + 1 + 1 + 1 + 1 + 1 + 1 = (k + sumN (fun i => mkRec (xs.getD i default)) i) + 6 by omega]
  have n8 : MarkB (xs.getD i default).Data ((k + sumN (fun i => mkRec (xs.getD i default)) i) + 1 + 1 + 1 + 1 + 1 + 1 + (xs.getD i default).Rows.length) := by rwa [show (k + sumN (fun i => mkRec (xs.getD i default)) i) + 1 + 1 + 1 + 1 + 1 + 1 = (k + sumN (fun i => mkRec (xs.getD i default)) i) + 6 by omega]
  have n9 : MarkB (xs.getD i default).Delta ((k + sumN (fun i => mkRec (xs.getD i default)) i) + 1 + 1 + 1 + 1 + 1 + 1 + (xs.getD i default).Rows.length + (xs.getD i default).Data.length) := by rwa [show (k + sumN (fun i => mkRec (xs.getD i default)) i) + 1 + 1 + 1 + 1 + 1 + 1 = (k + sumN (fun i => mkRec (xs.getD i default)) i) + 6 by omega]
  obtain ⟨eb1, eo1, es1, ef1, ee1, ec1, eO1, eH1, em1⟩ := elem_st (H1.seen 0 rfl) i (by omega)
  obtain ⟨ea1, ek1, ea2, ek2, ea3, ek3, eg1, eg2, eg3, rfl, eq1, eK1, eo2, eo3, eo4⟩ := own_Rec eO1
  have eK1U := eK1
  unfold Rec.Ok at eK1U
  try unfold I64ok at eK1U
  try unfold maxLen at eK1U
  refine W_reg (sM rfl rfl (sM rfl rfl (sV rfl (py_elz tu30 ts68 rfl rfl ee1 i (by omega) (by omega)) (sV rfl (py_field tu68 rfl ts2 rfl rfl) (sV rfl (py_load tu2 rfl rfl (at_cell ec1 0 rfl)) (sM rfl rfl (sV rfl (py_neq rfl rfl) (s_nil (W_ifd rfl (fun c2 => ?_) (fun c2 => ?_))))))))))
  ·exact absurd c2 (by omega)
  ·refine W_skip (W_sr (sM rfl rfl (sV rfl (py_add rfl rfl (in64 ⟨by omega, by omega⟩)) (sA rfl rfl (s_nil (W_seq (W_seq ?_)))))))
   obtain ⟨eb2, eo5, es2, ef2, ee2, ec2, eO2, eH2, em2⟩ := elem_st (H1.seen 0 rfl) i (by omega)
   obtain ⟨ea4, ek4, ea5, ek5, ea6, ek6, eg4, eg5, eg6, rfl, eq2, eK2, eo6, eo7, eo8⟩ := own_Rec eO2
   have eK2U := eK2
   unfold Rec.Ok at eK2U
   try unfold I64ok at eK2U
   try unfold maxLen at eK2U
   refine W_reg (sM rfl rfl (sM rfl rfl (sV rfl (py_elz tu30 ts68 rfl rfl ee2 i (by omega) (by omega)) (sV rfl (py_field tu68 rfl ts2 rfl rfl) (sV rfl (py_load tu2 rfl rfl (at_cell ec2 1 rfl)) (sM rfl rfl (sV rfl (py_neq rfl rfl) (s_nil (W_ifd rfl (fun c3 => ?_) (fun c3 => ?_))))))))))
   ·exact absurd c3 (by omega)
   ·refine W_skip (W_sr (sM rfl rfl (sV rfl (py_add rfl rfl (in64 ⟨by omega, by omega⟩)) (sA rfl rfl (s_nil (W_seq (W_seq ?_)))))))
    obtain ⟨eb3, eo9, es3, ef3, ee3, ec3, eO3, eH3, em3⟩ := elem_st (H1.seen 0 rfl) i (by omega)
    obtain ⟨ea7, ek7, ea8, ek8, ea9, ek9, eg7, eg8, eg9, rfl, eq3, eK3, eo10, eo11, eo12⟩ := own_Rec eO3
    have eK3U := eK3
    unfold Rec.Ok at eK3U
    try unfold I64ok at eK3U
    try unfold maxLen at eK3U
    refine W_drw (S := Ext No _) [(0, true), (1, true), (2, true), (3, true), (4, true), (5, true), (6, false), (7, false)] (by kernel_rfl) (by kernel_rfl) (by kernel_rfl) rfl (fun _ => Ext.refl.drawn _) (fun q1 => ?_)
    have H2 := H1.drawn q1
    refine dM rfl rfl rfl (dM rfl rfl rfl (dV rfl rfl (fun zw hx => py_elz tu30 ts68 rfl rfl ee3 i (by omega) (by omega)) (dV rfl rfl (fun zw hx => py_field tu68 rfl ts9 rfl rfl) (dV rfl rfl (fun zw hx => py_load tu9 rfl rfl (at_cell (hx.at ec3) 2 rfl)) (dM rfl rfl rfl (d_call rfl (wn rfl) rfl rfl (pc_call Tryz.func155 rfl Tryz_nm155 rfl) (Tryz_laws_markText (by omega)) (fun hS _ _ r _ => hS.trans r.1.no) (fun v1 w2 r1 => ?_)))))))
    obtain ⟨e1, rfl, mt1⟩ := r1
    have H3 := H2.to e1
    refine d_end rfl (wn rfl) rfl rfl (py_sneq rfl rfl) (d_nil (W_if rfl (fun c4 => ?_) (fun c4 => ?_)))
    ·exfalso; rw [n3] at c4; simp at c4
    ·refine W_skip (W_sr (sM rfl rfl (sV rfl (py_add rfl rfl (in64 ⟨by omega, by omega⟩)) (sA rfl rfl (s_nil (W_seq (W_seq ?_)))))))
     obtain ⟨eb4, eo13, es4, ef4, ee4, ec4, eO4, eH4, em4⟩ := elem_st (H3.seen 0 rfl) i (by omega)
     obtain ⟨ea10, ek10, ea11, ek11, ea12, ek12, eg10, eg11, eg12, rfl, eq4, eK4, eo14, eo15, eo16⟩ := own_Rec eO4
     have eK4U := eK4
     unfold Rec.Ok at eK4U
     try unfold I64ok at eK4U
     try unfold maxLen at eK4U
     refine W_reg (sM rfl rfl (sM rfl rfl (sV rfl (py_elz tu30 ts68 rfl rfl ee4 i (by omega) (by omega)) (sV rfl (py_field tu68 rfl ts2 rfl rfl) (sV rfl (py_load tu2 rfl rfl (at_cell ec4 3 rfl)) (sM rfl rfl (sV rfl (py_neq rfl rfl) (s_nil (W_ifd rfl (fun c5 => ?_) (fun c5 => ?_))))))))))
     ·exact absurd c5 (by omega)
     ·refine W_skip (W_sr (sM rfl rfl (sV rfl (py_add rfl rfl (in64 ⟨by omega, by omega⟩)) (sA rfl rfl (s_nil (W_seq (W_seq ?_)))))))
      obtain ⟨eb5, eo17, es5, ef5, ee5, ec5, eO5, eH5, em5⟩ := elem_st (H3.seen 0 rfl) i (by omega)
      obtain ⟨ea13, ek13, ea14, ek14, ea15, ek15, eg13, eg14, eg15, rfl, eq5, eK5, eo18, eo19, eo20⟩ := own_Rec eO5
      have eK5U := eK5
      unfold Rec.Ok at eK5U
      try unfold I64ok at eK5U
      try unfold maxLen at eK5U
      refine W_reg (sM rfl rfl (sM rfl rfl (sV rfl (py_elz tu30 ts68 rfl rfl ee5 i (by omega) (by omega)) (sV rfl (py_field tu68 rfl ts2 rfl rfl) (sV rfl (py_load tu2 rfl rfl (at_cell ec5 4 rfl)) (sM rfl rfl (sV rfl (py_neq rfl rfl) (s_nil (W_ifd rfl (fun c6 => ?_) (fun c6 => ?_))))))))))
      ·exact absurd c6 (by omega)
      ·refine W_skip (W_sr (sM rfl rfl (sV rfl (py_add rfl rfl (in64 ⟨by omega, by omega⟩)) (sA rfl rfl (s_nil (W_seq (W_seq ?_)))))))
       obtain ⟨eb6, eo21, es6, ef6, ee6, ec6, eO6, eH6, em6⟩ := elem_st (H3.seen 0 rfl) i (by omega)
       obtain ⟨ea16, ek16, ea17, ek17, ea18, ek18, eg16, eg17, eg18, rfl, eq6, eK6, eo22, eo23, eo24⟩ := own_Rec eO6
       have eK6U := eK6
       unfold Rec.Ok at eK6U
       try unfold I64ok at eK6U
       try unfold maxLen at eK6U
       refine W_reg (sM rfl rfl (sM rfl rfl (sV rfl (py_elz tu30 ts68 rfl rfl ee6 i (by omega) (by omega)) (sV rfl (py_field tu68 rfl ts2 rfl rfl) (sV rfl (py_load tu2 rfl rfl (at_cell ec6 5 rfl)) (sM rfl rfl (sV rfl (py_neq rfl rfl) (s_nil (W_ifd rfl (fun c7 => ?_) (fun c7 => ?_))))))))))
       ·exact absurd c7 (by omega)
       ·refine W_skip (W_sr (sM rfl rfl (sV rfl (py_add rfl rfl (in64 ⟨by omega, by omega⟩)) (sA rfl rfl (s_nil (W_seq ?_))))))
        obtain ⟨eb7, eo25, es7, ef7, ee7, ec7, eO7, eH7, em7⟩ := elem_st (H3.seen 0 rfl) i (by omega)
        obtain ⟨ea19, ek19, ea20, ek20, ea21, ek21, eg19, eg20, eg21, rfl, eq7, eK7, eo26, eo27, eo28⟩ := own_Rec eO7
        have eK7U := eK7
        unfold Rec.Ok at eK7U
        try unfold I64ok at eK7U
        try unfold maxLen at eK7U
        have eP1 := H3.look1 0 rfl eo26 (fun b hb => eH7 b (by rw [eq7]; simp [hb]))
        have eL1 := oL eo26
        refine W_reg (sM rfl rfl (sM rfl rfl (sV rfl (py_elz tu30 ts68 rfl rfl ee7 i (by omega) (by omega)) (sV rfl (py_field tu68 rfl ts25 rfl rfl) (sV rfl (py_load tu25 rfl rfl (at_cell ec7 6 rfl)) (sM rfl rfl (s_call (wn rfl) rfl rfl (pc_call Tryz.func92 rfl Tryz_nm92 rfl) (Tryz_laws_heldInt64S (eP1.sees 1 rfl) (by constructor <;> omega) (by assumption)) (fun v2 w3 r2 => ?_))))))))
        obtain ⟨e2, rfl⟩ := r2
        have H4 := eP1.to e2
        refine sA rfl rfl (s_nil (W_seq (W_sr (sM rfl rfl (sV rfl (py_lss rfl rfl) (s_nil (W_ifd rfl (fun c8 => ?_) (fun c8 => ?_))))))))
        ·exact absurd c8 (by omega)
        ·refine W_skip (W_seq ?_)
         obtain ⟨eb8, eo29, es8, ef8, ee8, ec8, eO8, eH8, em8⟩ := elem_st (H4.seen 0 rfl) i (by omega)
         obtain ⟨ea22, ek22, ea23, ek23, ea24, ek24, eg22, eg23, eg24, rfl, eq8, eK8, eo30, eo31, eo32⟩ := own_Rec eO8
         have eK8U := eK8
         unfold Rec.Ok at eK8U
         try unfold I64ok at eK8U
         try unfold maxLen at eK8U
         have eP2 := H4.look1 0 rfl eo31 (fun b hb => eH8 b (by rw [eq8]; simp [hb]))
         have eL2 := oL eo31
         refine W_reg (sM rfl rfl (sM rfl rfl (sV rfl (py_elz tu30 ts68 rfl rfl ee8 i (by omega) (by omega)) (sV rfl (py_field tu68 rfl ts45 rfl rfl) (sV rfl (py_load tu45 rfl rfl (at_cell ec8 7 rfl)) (sM rfl rfl (s_call (wn rfl) rfl rfl (pc_call Tryz.func89 rfl Tryz_nm89 rfl) (Tryz_laws_heldByteS (eP2.sees 2 rfl) (by constructor <;> omega) (by assumption)) (fun v3 w4 r3 => ?_))))))))
         obtain ⟨e3, rfl⟩ := r3
         have H5 := eP2.to e3
         refine sA rfl rfl (s_nil (W_seq (W_sr (sM rfl rfl (sV rfl (py_lss rfl rfl) (s_nil (W_ifd rfl (fun c9 => ?_) (fun c9 => ?_))))))))
         ·exact absurd c9 (by omega)
         ·refine W_skip (W_seq ?_)
          obtain ⟨eb9, eo33, es9, ef9, ee9, ec9, eO9, eH9, em9⟩ := elem_st (H5.seen 0 rfl) i (by omega)
          obtain ⟨ea25, ek25, ea26, ek26, ea27, ek27, eg25, eg26, eg27, rfl, eq9, eK9, eo34, eo35, eo36⟩ := own_Rec eO9
          have eK9U := eK9
          unfold Rec.Ok at eK9U
          try unfold I64ok at eK9U
          try unfold maxLen at eK9U
          have eP3 := H5.look1 0 rfl eo36 (fun b hb => eH9 b (by rw [eq9]; simp [hb]))
          have eL3 := oL eo36
          refine W_reg (sM rfl rfl (sM rfl rfl (sV rfl (py_elz tu30 ts68 rfl rfl ee9 i (by omega) (by omega)) (sV rfl (py_field tu68 rfl ts45 rfl rfl) (sV rfl (py_load tu45 rfl rfl (at_cell ec9 8 rfl)) (sM rfl rfl (s_call (wn rfl) rfl rfl (pc_call Tryz.func89 rfl Tryz_nm89 rfl) (Tryz_laws_heldByteS (eP3.sees 3 rfl) (by constructor <;> omega) (by assumption)) (fun v4 w5 r4 => ?_))))))))
          obtain ⟨e4, rfl⟩ := r4
          have H6 := eP3.to e4
          refine sA rfl rfl (s_nil (W_sr (sM rfl rfl (sV rfl (py_lss rfl rfl) (s_nil (W_ifd rfl (fun c10 => ?_) (fun c10 => ?_)))))))
          ·exact absurd c10 (by omega)
          ·refine W_skip (W_reg (sM rfl rfl (sV rfl (py_add rfl rfl (in64 ⟨by omega, by omega⟩)) (sA rfl rfl (s_nil (⟨i + 1, ⟨eqI (by omega), rfl, rfl, trivial⟩, ⟨(H6.ftake 1), by omega, trivial⟩, by dsimp only; omega⟩))))))
 ·refine W_exit (W_sr (sM rfl rfl (sA rfl rfl (s_nil (rT hQ Tryz.results84 rfl ?_)))))
  obtain rfl : i = xs.length := by omega
  exact ⟨H1.ext, rfl⟩
theorem Tryz_laws_heldTapeS {w : World} {xs : List Tape} {xsA : Option Addr} {xsC : Nat} {k : Int} (xsS : Sees w [.slice xsA xs.length xsC] xs) (hk : 0 ≤ k ∧ k + mkL mkTape xs ≤ 4611686018427387904) (hm : MkL MkTape mkTape xs k) : Ret Tryz.prog 213 #[.slice xsA xs.length xsC, .int .i64 k] w fun v w' => Ext No w w' ∧ (v = .int .i64 (k + mkL mkTape xs)) := by
 have xsL := sL xsS
 obtain ⟨xsF, xsO⟩ := xsS
 refine ret_Q (vs := [.slice xsA xs.length xsC, .int .i64 k]) Tryz.func213 rfl Tryz.ntmps213 rfl (fun Q hQ hN => ?_)
 have H0 := Sep.start (w := w) (F := [seen false [.slice xsA xs.length xsC] xs xsF]) (all_cons xsO (by simp))
 refine W_sr (sA rfl rfl (s_nil (W_seq (W_sr (sA rfl rfl (s_nil (W_block (W_loopS (γ := Nat) H0 [(0, _)] ⟨rfl, trivial⟩ (fun i => [(1, .int .i64 (k + sumN (fun i => mkTape (xs.getD i default)) i)), (5, .int .i64 i)]) (fun i => i ≤ xs.length ∧ True) (fun i => xs.length - i) 0 ⟨eqI (by simp [sumN]), rfl, trivial⟩ ⟨by omega, trivial⟩ (fun i w1 H1 ⟨hi, _⟩ => ?_)))))))))
 dsimp only [lCA, lNA]
 refine W_seq (W_sr (sM rfl rfl (sM rfl rfl (sV rfl (py_len tu36 rfl) (sV rfl (py_lss rfl rfl) (s_nil (W_ifd rfl (fun c1 => ?_) (fun c1 => ?_))))))))
 ·refine W_skip (W_seq (W_block (W_seq (W_seq ?_))))
  have hmi := hm i (by omega)
  obtain ⟨sg, sl⟩ := mkL_at (c := mkTape) (xs := xs) (i := i) (by omega)
  have hcu : mkTape (xs.getD i default) = 1 + mkL mkRec (xs.getD i default).Recs := rfl
  obtain ⟨hm1, hm2⟩ := hmi
  obtain ⟨eb1, eo1, es1, ef1, ee1, ec1, eO1, eH1, em1⟩ := elem_st (H1.seen 0 rfl) i (by omega)
  obtain ⟨ea1, ek1, eg1, rfl, eq1, eK1, eo2⟩ := own_Tape eO1
  have eP1 := H1.look1 0 rfl eo2 (fun b hb => eH1 b (by rw [eq1]; simp [hb]))
  have eL1 := oL eo2
  refine W_reg (sM rfl rfl (sM rfl rfl (sV rfl (py_elz tu36 ts139 rfl rfl ee1 i (by omega) (by omega)) (sV rfl (py_field tu139 rfl ts4 rfl rfl) (sV rfl (py_load tu4 rfl rfl (at_cell ec1 0 rfl)) (sM rfl rfl (sV rfl (py_rem rfl rfl (by omega)) (sV rfl (py_eql rfl rfl) (sV rfl (py_bneq tu4 rfl rfl) (s_nil (W_if rfl (fun c2 => ?_) (fun c2 => ?_))))))))))))
  ·exfalso; rw [hm1] at c2; simp at c2
  ·refine W_skip (W_sr (sM rfl rfl (sV rfl (py_add rfl rfl (in64 ⟨by omega, by omega⟩)) (sA rfl rfl (s_nil (W_seq ?_))))))
   obtain ⟨eb2, eo3, es2, ef2, ee2, ec2, eO2, eH2, em2⟩ := elem_st (eP1.seen 0 rfl) i (by omega)
   obtain ⟨ea2, ek2, eg2, rfl, eq2, eK2, eo4⟩ := own_Tape eO2
   have eP2 := eP1.look1 0 rfl eo4 (fun b hb => eH2 b (by rw [eq2]; simp [hb]))
   have eL2 := oL eo4
   refine W_reg (sM rfl rfl (sM rfl rfl (sV rfl (py_elz tu36 ts139 rfl rfl ee2 i (by omega) (by omega)) (sV rfl (py_field tu139 rfl ts30 rfl rfl) (sV rfl (py_load tu30 rfl rfl (at_cell ec2 1 rfl)) (sM rfl rfl (s_call (wn rfl) rfl rfl (pc_call Tryz.func84 rfl Tryz_nm84 rfl) (Tryz_laws_heldRecS (eP2.sees 2 rfl) (by constructor <;> omega) (by assumption)) (fun v1 w2 r1 => ?_))))))))
   obtain ⟨e1, rfl⟩ := r1
   have H2 := eP2.to e1
   refine sA rfl rfl (s_nil (W_sr (sM rfl rfl (sV rfl (py_lss rfl rfl) (s_nil (W_ifd rfl (fun c3 => ?_) (fun c3 => ?_)))))))
   ·exact absurd c3 (by omega)
   ·refine W_skip (W_reg (sM rfl rfl (sV rfl (py_add rfl rfl (in64 ⟨by omega, by omega⟩)) (sA rfl rfl (s_nil (⟨i + 1, ⟨eqI (by omega), rfl, rfl, trivial⟩, ⟨(H2.ftake 1), by omega, trivial⟩, by dsimp only; omega⟩))))))
 ·refine W_exit (W_sr (sM rfl rfl (sA rfl rfl (s_nil (rT hQ Tryz.results213 rfl ?_)))))
  obtain rfl : i = xs.length := by omega
  exact ⟨H1.ext, rfl⟩
theorem Tryz_laws_heldWorld {w : World} {x : Wld} {s0 s1 s2 s3 s4 s5 s6 s7 s8 wr sp k : Int} {dn : Bool} {A9 A10 A11 : Option Addr} {n9 C9 n10 C10 n11 C11 : Nat} (e9 : Sees w [.slice A9 n9 C9] x.Groups) (e10 : Sees w [.slice A10 n10 C10] x.On) (e11 : Sees w [.slice A11 n11 C11] x.Tapes) (hk : 0 ≤ k ∧ k + mkWld x ≤ 4611686018427387904) (hm : MkWld x k) : Ret Tryz.prog 124 #[.agg #[.int .i64 s0, .int .i64 s1, .int .i64 s2, .int .i64 s3, .int .i64 s4, .int .i64 s5, .int .i64 s6, .int .i64 s7, .int .i64 s8, .slice A9 n9 C9, .slice A10 n10 C10, .slice A11 n11 C11, .int .i64 wr, .int .i64 sp, .bool dn], .int .i64 k] w fun v w' => Ext No w w' ∧ (v = .int .i64 (k + mkWld x)) := by
 obtain ⟨f9, o9⟩ := e9
 obtain rfl := own_n o9
 obtain ⟨f10, o10⟩ := e10
 obtain rfl := own_n o10
 obtain ⟨f11, o11⟩ := e11
 obtain rfl := own_n o11
 have hcu : mkWld x = mkL (mkL mkDrive) x.Groups + x.On.length + mkL mkTape x.Tapes := rfl
 obtain ⟨m1, m2, m3⟩ := hm
 refine ret_Q (vs := [.agg #[.int .i64 s0, .int .i64 s1, .int .i64 s2, .int .i64 s3, .int .i64 s4, .int .i64 s5, .int .i64 s6, .int .i64 s7, .int .i64 s8, .slice A9 x.Groups.length C9, .slice A10 x.On.length C10, .slice A11 x.Tapes.length C11, .int .i64 wr, .int .i64 sp, .bool dn], .int .i64 k]) Tryz.func124 rfl Tryz.ntmps124 rfl (fun Q hQ hN => ?_)
 have H0 := Sep.start (w := w) (F := [seen false [.slice A9 x.Groups.length C9] x.Groups f9, seen false [.slice A10 x.On.length C10] x.On f10, seen false [.slice A11 x.Tapes.length C11] x.Tapes f11]) (all_cons o9 (all_cons o10 (all_cons o11 (by simp))))
 refine W_sr (s_box (wn rfl) rfl rfl H0 (fun b1 w1 e1 g1 H1 => ?_))
 refine sA rfl rfl (s_nil (W_sr (sV rfl (py_field tu38 rfl ts35 rfl rfl) (sV rfl (py_load tu35 rfl rfl (cell_atL (H1.box 0 rfl) rfl)) (sM rfl rfl (s_call (wn rfl) rfl rfl (pc_call Tryz.func212 rfl Tryz_nm212 rfl) (Tryz_laws_heldDriveSS (H1.sees 0 rfl) (by constructor <;> omega) (by assumption)) (fun v1 w2 r1 => ?_)))))))
 obtain ⟨e2, rfl⟩ := r1
 have H2 := H1.to e2
 refine sA rfl rfl (s_nil (W_seq (W_sr (sM rfl rfl (sV rfl (py_lss rfl rfl) (s_nil (W_ifd rfl (fun c1 => ?_) (fun c1 => ?_))))))))
 ·exact absurd c1 (by omega)
 ·refine W_skip (W_sr (sV rfl (py_field tu38 rfl ts25 rfl rfl) (sV rfl (py_load tu25 rfl rfl (cell_atL (H2.box 0 rfl) rfl)) (sM rfl rfl (s_call (wn rfl) rfl rfl (pc_call Tryz.func92 rfl Tryz_nm92 rfl) (Tryz_laws_heldInt64S (H2.sees 1 rfl) (by constructor <;> omega) (by assumption)) (fun v2 w3 r2 => ?_))))))
  obtain ⟨e3, rfl⟩ := r2
  have H3 := H2.to e3
  refine sA rfl rfl (s_nil (W_seq (W_sr (sM rfl rfl (sV rfl (py_lss rfl rfl) (s_nil (W_ifd rfl (fun c2 => ?_) (fun c2 => ?_))))))))
  ·exact absurd c2 (by omega)
  ·refine W_skip (W_sr (sV rfl (py_field tu38 rfl ts36 rfl rfl) (sV rfl (py_load tu36 rfl rfl (cell_atL (H3.box 0 rfl) rfl)) (sM rfl rfl (s_call (wn rfl) rfl rfl (pc_call Tryz.func213 rfl Tryz_nm213 rfl) (Tryz_laws_heldTapeS (H3.sees 2 rfl) (by constructor <;> omega) (by assumption)) (fun v3 w4 r3 => ?_))))))
   obtain ⟨e4, rfl⟩ := r3
   have H4 := H3.to e4
   refine sA rfl rfl (s_nil (W_seq (W_sr (sM rfl rfl (sV rfl (py_lss rfl rfl) (s_nil (W_ifd rfl (fun c3 => ?_) (fun c3 => ?_))))))))
   ·exact absurd c3 (by omega)
   ·refine W_skip (W_sr (sM rfl rfl (sA rfl rfl (s_nil (rT hQ Tryz.results124 rfl ?_)))))
    exact ⟨H4.ext, congrArg (Value.int .i64) (by omega)⟩
theorem Tryz_laws_heldWorldResult {w : World} {x : Wld} {c s0 s1 s2 s3 s4 s5 s6 s7 s8 wr sp k : Int} {dn : Bool} {A9 A10 A11 : Option Addr} {n9 C9 n10 C10 n11 C11 : Nat} (e9 : Sees w [.slice A9 n9 C9] x.Groups) (e10 : Sees w [.slice A10 n10 C10] x.On) (e11 : Sees w [.slice A11 n11 C11] x.Tapes) (hk : 0 ≤ k ∧ k + mkWld x ≤ 4611686018427387904) (hm : MkWld x k) : Ret Tryz.prog 50 #[.agg #[.int .i64 c, .int .i64 s0, .int .i64 s1, .int .i64 s2, .int .i64 s3, .int .i64 s4, .int .i64 s5, .int .i64 s6, .int .i64 s7, .int .i64 s8, .slice A9 n9 C9, .slice A10 n10 C10, .slice A11 n11 C11, .int .i64 wr, .int .i64 sp, .bool dn], .int .i64 k] w fun v w' => Ext No w w' ∧ (v = .int .i64 (k + mkWld x)) := by
 obtain ⟨f9, o9⟩ := e9
 obtain rfl := own_n o9
 obtain ⟨f10, o10⟩ := e10
 obtain rfl := own_n o10
 obtain ⟨f11, o11⟩ := e11
 obtain rfl := own_n o11
 skip
 refine ret_Q (vs := [.agg #[.int .i64 c, .int .i64 s0, .int .i64 s1, .int .i64 s2, .int .i64 s3, .int .i64 s4, .int .i64 s5, .int .i64 s6, .int .i64 s7, .int .i64 s8, .slice A9 x.Groups.length C9, .slice A10 x.On.length C10, .slice A11 x.Tapes.length C11, .int .i64 wr, .int .i64 sp, .bool dn], .int .i64 k]) Tryz.func50 rfl Tryz.ntmps50 rfl (fun Q hQ hN => ?_)
 have H0 := Sep.start (w := w) (F := [seen false [.slice A9 x.Groups.length C9] x.Groups f9, seen false [.slice A10 x.On.length C10] x.On f10, seen false [.slice A11 x.Tapes.length C11] x.Tapes f11]) (all_cons o9 (all_cons o10 (all_cons o11 (by simp))))
 refine W_sr (s_box (wn rfl) rfl rfl H0 (fun b1 w1 e1 g1 H1 => ?_))
 refine sA rfl rfl (s_nil (W_sr (sV rfl (py_field tu66 rfl ts38 rfl rfl) (sV rfl (py_loadS tu38 rfl ts38 rfl rfl (At.sub (H1.box 0 rfl) 15)) (sM rfl rfl (s_call (wn rfl) rfl rfl (pc_call Tryz.func124 rfl Tryz_nm124 rfl) (Tryz_laws_heldWorld (H1.sees 0 rfl) (H1.sees 1 rfl) (H1.sees 2 rfl) (by constructor <;> omega) (by assumption)) (fun v1 w2 r1 => ?_)))))))
 obtain ⟨e2, rfl⟩ := r1
 have H2 := H1.to e2
 refine sA rfl rfl (s_nil (W_seq (W_sr (sM rfl rfl (sV rfl (py_lss rfl rfl) (s_nil (W_ifd rfl (fun c1 => ?_) (fun c1 => ?_))))))))
 ·exact absurd c1 (by omega)
 ·refine W_skip (W_sr (sM rfl rfl (sA rfl rfl (s_nil (rT hQ Tryz.results50 rfl ?_)))))
  exact ⟨H2.ext, rfl⟩
theorem Tryz_laws_markWorldResult {w : World} {y : WldResult} {yA10 yA11 yA12 : Option Addr} {yC10 yC11 yC12 : Nat} {k : Int} {fp : List Nat} (o : own true w [.int .i64 y.Code, .int .i64 y.Wd.Shape.Groups, .int .i64 y.Wd.Shape.Column, .int .i64 y.Wd.Shape.Data, .int .i64 y.Wd.Shape.Spare, .int .i64 y.Wd.Shape.Rows, .int .i64 y.Wd.Shape.Cap, .int .i64 y.Wd.Shape.Batch, .int .i64 y.Wd.Shape.Queue, .int .i64 y.Wd.Shape.Stage, .slice yA10 y.Wd.Groups.length yC10, .slice yA11 y.Wd.On.length yC11, .slice yA12 y.Wd.Tapes.length yC12, .int .i64 y.Wd.Writes, .int .i64 y.Wd.Stop, .bool y.Wd.Down] y fp) (nd : fp.Nodup) (hk : 0 ≤ k ∧ k + mkWld y.Wd ≤ 4611686018427387904) : Ret Tryz.prog 49 #[y.val yA10 yC10 yA11 yC11 yA12 yC12, .int .i64 k] w fun v w' => (v = .int .i64 (k + mkWld y.Wd) ∧ ∃ x' : Wld, Mut w w' fp [.int .i64 y.Code, .int .i64 y.Wd.Shape.Groups, .int .i64 y.Wd.Shape.Column, .int .i64 y.Wd.Shape.Data, .int .i64 y.Wd.Shape.Spare, .int .i64 y.Wd.Shape.Rows, .int .i64 y.Wd.Shape.Cap, .int .i64 y.Wd.Shape.Batch, .int .i64 y.Wd.Shape.Queue, .int .i64 y.Wd.Shape.Stage, .slice yA10 y.Wd.Groups.length yC10, .slice yA11 y.Wd.On.length yC11, .slice yA12 y.Wd.Tapes.length yC12, .int .i64 y.Wd.Writes, .int .i64 y.Wd.Stop, .bool y.Wd.Down] (⟨y.Code, x'⟩ : WldResult) ∧ (x'.Groups.length = y.Wd.Groups.length ∧ x'.On.length = y.Wd.On.length ∧ x'.Tapes.length = y.Wd.Tapes.length ∧ mkWld x' = mkWld y.Wd ∧ MkWld x' k ∧ x'.Shape = y.Wd.Shape ∧ x'.Writes = y.Wd.Writes ∧ x'.Stop = y.Wd.Stop ∧ x'.Down = y.Wd.Down)) := by
 refine ret_Q (vs := [y.val yA10 yC10 yA11 yC11 yA12 yC12, .int .i64 k]) Tryz.func49 rfl Tryz.ntmps49 rfl (fun Q hQ hN => ?_)
 obtain ⟨f10, f11, f12, ef, ok, o10, o11, o12⟩ := own_WldResultC o
 have H0 := (Sep.begin o nd).conv 0 (mine [.int .i64 y.Wd.Shape.Groups, .int .i64 y.Wd.Shape.Column, .int .i64 y.Wd.Shape.Data, .int .i64 y.Wd.Shape.Spare, .int .i64 y.Wd.Shape.Rows, .int .i64 y.Wd.Shape.Cap, .int .i64 y.Wd.Shape.Batch, .int .i64 y.Wd.Shape.Queue, .int .i64 y.Wd.Shape.Stage, .slice yA10 y.Wd.Groups.length yC10, .slice yA11 y.Wd.On.length yC11, .slice yA12 y.Wd.Tapes.length yC12, .int .i64 y.Wd.Writes, .int .i64 y.Wd.Stop, .bool y.Wd.Down] y.Wd (f10 ++ (f11 ++ f12))) rfl (Wld.own_mk ok.2 o10 o11 o12) (fun b hb => by rw [ef]; exact hb) (by rw [← ef]; exact nd)
 try dsimp only [lNA, lCA, lSZ, lSS] at H0
 have okW := ok.2
 refine W_sr (s_box (wn rfl) rfl rfl H0 (fun b1 w1 e1 g1 H1 => ?_))
 refine sA rfl rfl (s_nil (W_sr (sV rfl (py_field tu66 rfl ts38 rfl rfl) (sV rfl (py_loadS tu38 rfl ts38 rfl rfl (At.sub (H1.box 1 rfl) 15)) (sM rfl rfl (s_call (wn rfl) rfl rfl (pc_call Tryz.func21 rfl Tryz_nm21 rfl) (Tryz_laws_markWorld (by assumption) (H1.mine 0 rfl) (H1.nodup1 (i := 0) rfl) (by constructor <;> omega)) (fun v1 w2 r1 => ?_)))))))
 obtain ⟨rfl, mx1, mm1, ml1⟩ := r1
 obtain ⟨fp1, H2⟩ := H1.mut 0 rfl mm1
 try dsimp only [lNA, lCA, lSZ, lSS] at H2
 refine sA rfl rfl (s_nil (W_sr (sM rfl rfl (sA rfl rfl (s_nil (rT hQ Tryz.results49 rfl ?_))))))
 exact ⟨rfl, mx1, WldResult.mutW ok (H2.dtake 1), ml1⟩
theorem Tryz_laws_eqWorldResult {w : World} {a : WldResult} {aA10 aA11 aA12 : Option Addr} {aC10 aC11 aC12 : Nat} {b : WldResult} {bA10 bA11 bA12 : Option Addr} {bC10 bC11 bC12 : Nat} (aK : a.Ok) (aS10 : Sees w [.slice aA10 a.Wd.Groups.length aC10] a.Wd.Groups) (aS11 : Sees w [.slice aA11 a.Wd.On.length aC11] a.Wd.On) (aS12 : Sees w [.slice aA12 a.Wd.Tapes.length aC12] a.Wd.Tapes) (bK : b.Ok) (bS10 : Sees w [.slice bA10 b.Wd.Groups.length bC10] b.Wd.Groups) (bS11 : Sees w [.slice bA11 b.Wd.On.length bC11] b.Wd.On) (bS12 : Sees w [.slice bA12 b.Wd.Tapes.length bC12] b.Wd.Tapes) : Ret Tryz.prog 46 #[a.val aA10 aC10 aA11 aC11 aA12 aC12, b.val bA10 bC10 bA11 bC11 bA12 bC12] w fun v w' => Ext No w w' ∧ (v = .bool (decide (a = b))) := by
 have aK2 := aK
 unfold WldResult.Ok Wld.Ok Shape.Ok at aK2
 try unfold I64ok at aK2
 try unfold maxLen at aK2
 have aL10 := sL aS10
 obtain ⟨aF10, aO10⟩ := aS10
 have aL11 := sL aS11
 obtain ⟨aF11, aO11⟩ := aS11
 have aL12 := sL aS12
 obtain ⟨aF12, aO12⟩ := aS12
 have bK2 := bK
 unfold WldResult.Ok Wld.Ok Shape.Ok at bK2
 try unfold I64ok at bK2
 try unfold maxLen at bK2
 have bL10 := sL bS10
 obtain ⟨bF10, bO10⟩ := bS10
 have bL11 := sL bS11
 obtain ⟨bF11, bO11⟩ := bS11
 have bL12 := sL bS12
 obtain ⟨bF12, bO12⟩ := bS12
 have aK3 := aK.2
 have bK3 := bK.2
 refine ret_Q (vs := [a.val aA10 aC10 aA11 aC11 aA12 aC12, b.val bA10 bC10 bA11 bC11 bA12 bC12]) Tryz.func46 rfl Tryz.ntmps46 rfl (fun Q hQ hN => ?_)
 have H0 := Sep.start (w := w) (F := [seen false [.slice aA10 a.Wd.Groups.length aC10] a.Wd.Groups aF10, seen false [.slice aA11 a.Wd.On.length aC11] a.Wd.On aF11, seen false [.slice aA12 a.Wd.Tapes.length aC12] a.Wd.Tapes aF12, seen false [.slice bA10 b.Wd.Groups.length bC10] b.Wd.Groups bF10, seen false [.slice bA11 b.Wd.On.length bC11] b.Wd.On bF11, seen false [.slice bA12 b.Wd.Tapes.length bC12] b.Wd.Tapes bF12]) (all_cons aO10 (all_cons aO11 (all_cons aO12 (all_cons bO10 (all_cons bO11 (all_cons bO12 (by simp)))))))
 refine W_sr (s_box (wn rfl) rfl rfl H0 (fun b1 w1 e1 g1 H1 => ?_))
 refine s_box (wn rfl) rfl rfl H1 (fun b2 w2 e2 g2 H2 => ?_)
 refine sA rfl rfl (s_nil (W_seq (W_sr (sV rfl (py_field tu66 rfl ts2 rfl rfl) (sV rfl (py_load tu2 rfl rfl (cell_atL (H2.box 0 rfl) rfl)) (sV rfl (py_field tu66 rfl ts2 rfl rfl) (sV rfl (py_load tu2 rfl rfl (cell_atL (H2.box 1 rfl) rfl)) (sV rfl (py_neq rfl rfl) (s_nil (W_ifd rfl (fun c1 => ?_) (fun c1 => ?_)))))))))))
 ·refine W_sr (sA rfl rfl (s_nil (rT hQ Tryz.results46 rfl (⟨H2.ext, ?_⟩))))
  rw [decide_eq_false (fun e => by subst e; first | exact c1 rfl | simp at c1)]
 ·refine W_skip (W_seq (W_sr (sV rfl (py_field tu66 rfl ts38 rfl rfl) (sV rfl (py_loadS tu38 rfl ts38 rfl rfl (At.sub (H2.box 0 rfl) 15)) (sV rfl (py_field tu66 rfl ts38 rfl rfl) (sV rfl (py_loadS tu38 rfl ts38 rfl rfl (At.sub (H2.box 1 rfl) 15)) (s_call (wn rfl) rfl rfl (pc_call Tryz.func20 rfl Tryz_nm20 rfl) (Tryz_laws_eqWorld (by assumption) (H2.sees 0 rfl) (H2.sees 1 rfl) (H2.sees 2 rfl) (by assumption) (H2.sees 3 rfl) (H2.sees 4 rfl) (H2.sees 5 rfl)) (fun v1 w3 r1 => ?_))))))))
  obtain ⟨e3, rfl⟩ := r1
  have H3 := H2.to e3
  refine sV rfl (py_not rfl) (s_nil (W_if rfl (fun c2 => ?_) (fun c2 => ?_)))
  ·refine W_sr (sA rfl rfl (s_nil (rT hQ Tryz.results46 rfl (⟨H3.ext, ?_⟩))))
   rw [decide_eq_false (fun e => by subst e; first | exact c2 rfl | simp at c2)]
  ·refine W_skip (W_sr (sA rfl rfl (s_nil (rT hQ Tryz.results46 rfl (⟨H3.ext, ?_⟩)))))
   rw [decide_eq_true]
   cases a; cases b; simp_all
end Go.Wk
namespace Go.Wk
open Go.Proofs Rp
set_option maxRecDepth 10000
theorem Tryz_impl_World_room {w : World} {zb zC9 zC10 zC11 : Nat} {z : Wld} {zA9 zA10 zA11 : Option Addr} (zB : w.heap[zb]? = some (.cells [.int .i64 z.Shape.Groups, .int .i64 z.Shape.Column, .int .i64 z.Shape.Data, .int .i64 z.Shape.Spare, .int .i64 z.Shape.Rows, .int .i64 z.Shape.Cap, .int .i64 z.Shape.Batch, .int .i64 z.Shape.Queue, .int .i64 z.Shape.Stage, .slice zA9 z.Groups.length zC9, .slice zA10 z.On.length zC10, .slice zA11 z.Tapes.length zC11, .int .i64 z.Writes, .int .i64 z.Stop, .bool z.Down].toArray 38)) (zK : z.Ok) (zS9 : Sees w [.slice zA9 z.Groups.length zC9] z.Groups) (zS10 : Sees w [.slice zA10 z.On.length zC10] z.On) (zS11 : Sees w [.slice zA11 z.Tapes.length zC11] z.Tapes) (hT : z.Tapes.length = 2) : Ret Tryz.prog 300 #[.pointer (some ⟨zb, 0, none⟩)] w fun v w' => Ext No w w' ∧ (v = .int .i64 (roomW z)) := by
 have zK2 := zK
 unfold Wld.Ok Shape.Ok at zK2
 try unfold I64ok at zK2
 try unfold maxLen at zK2
 have zL9 := sL zS9
 obtain ⟨zF9, zO9⟩ := zS9
 have zL10 := sL zS10
 obtain ⟨zF10, zO10⟩ := zS10
 have zL11 := sL zS11
 obtain ⟨zF11, zO11⟩ := zS11
 refine ret_Q (vs := [.pointer (some ⟨zb, 0, none⟩)]) Tryz.func300 rfl Tryz.ntmps300 rfl (fun Q hQ hN => ?_)
 have H0 := Sep.start (w := w) (F := [box zb (.cells [.int .i64 z.Shape.Groups, .int .i64 z.Shape.Column, .int .i64 z.Shape.Data, .int .i64 z.Shape.Spare, .int .i64 z.Shape.Rows, .int .i64 z.Shape.Cap, .int .i64 z.Shape.Batch, .int .i64 z.Shape.Queue, .int .i64 z.Shape.Stage, .slice zA9 z.Groups.length zC9, .slice zA10 z.On.length zC10, .slice zA11 z.Tapes.length zC11, .int .i64 z.Writes, .int .i64 z.Stop, .bool z.Down].toArray 38), seen false [.slice zA9 z.Groups.length zC9] z.Groups zF9, seen false [.slice zA10 z.On.length zC10] z.On zF10, seen false [.slice zA11 z.Tapes.length zC11] z.Tapes zF11]) (all_cons (by exact zB) (all_cons zO9 (all_cons zO10 (all_cons zO11 (by simp)))))
 refine W_sr (sA rfl rfl (s_nil (W_seq ?_)))
 obtain ⟨eb1, eo1, es1, ef1, ee1, ec1, eO1, eH1, em1⟩ := elem_st (H0.seen 3 rfl) 0 (by omega)
 obtain ⟨ea1, ek1, eg1, rfl, eq1, eK1, eo2⟩ := own_Tape eO1
 have eP1 := H0.look1 3 rfl eo2 (fun b hb => eH1 b (by rw [eq1]; simp [hb]))
 have eL1 := oL eo2
 obtain ⟨eb2, eo3, es2, ef2, ee2, ec2, eO2, eH2, em2⟩ := elem_st (eP1.seen 3 rfl) 1 (by omega)
 obtain ⟨ea2, ek2, eg2, rfl, eq2, eK2, eo4⟩ := own_Tape eO2
 have eP2 := eP1.look1 3 rfl eo4 (fun b hb => eH2 b (by rw [eq2]; simp [hb]))
 have eL2 := oL eo4
 refine W_drw (S := Ext No _) [(0, true), (1, true), (2, true), (3, true), (4, true), (5, true), (6, true), (8, true), (9, true), (10, true), (11, true), (12, true), (13, true), (14, true), (7, false), (15, false), (16, true), (17, true), (18, false)] (by kernel_rfl) (by kernel_rfl) (by kernel_rfl) rfl (fun _ => Ext.refl.drawn _) (fun q1 => ?_)
 have H1 := eP2.drawn q1
 refine dM rfl rfl rfl (dV rfl rfl (fun zw hx => py_nil rfl) (dV rfl rfl (fun zw hx => py_field tu38 rfl ts36 rfl rfl) (dV rfl rfl (fun zw hx => py_load tu36 rfl rfl (cell_atL (hx.heap (H1.fbox 0 rfl)) rfl)) (dV rfl rfl (fun zw hx => py_elz tu36 ts139 rfl rfl ee1 0 (by omega) (by omega)) (dV rfl rfl (fun zw hx => py_field tu139 rfl ts30 rfl rfl) (dV rfl rfl (fun zw hx => py_load tu30 rfl rfl (at_cell (hx.at ec1) 1 rfl)) (dM rfl rfl rfl (dV rfl rfl (fun zw hx => py_nil rfl) (dV rfl rfl (fun zw hx => py_field tu38 rfl ts36 rfl rfl) (dV rfl rfl (fun zw hx => py_load tu36 rfl rfl (cell_atL (hx.heap (H1.fbox 0 rfl)) rfl)) (dV rfl rfl (fun zw hx => py_elz tu36 ts139 rfl rfl ee2 1 (by omega) (by omega)) (dV rfl rfl (fun zw hx => py_field tu139 rfl ts30 rfl rfl) (dV rfl rfl (fun zw hx => py_load tu30 rfl rfl (at_cell (hx.at ec2) 1 rfl)) (d_call rfl (wn rfl) rfl rfl (pc_call Tryz.func338 rfl Tryz_nm338 rfl) (Tryz_size_Rec (H1.sees 4 rfl)) (fun hS _ _ r _ => hS.trans r.1.no) (fun v1 w1 r1 => ?_)))))))))))))))
 obtain ⟨e1, rfl⟩ := r1
 have H2 := H1.to e1
 refine d_call rfl (wn rfl) rfl rfl (pc_call Tryz.func338 rfl Tryz_nm338 rfl) (Tryz_size_Rec (H2.sees 5 rfl)) (fun hS _ _ r _ => hS.trans r.1.no) (fun v2 w2 r2 => ?_)
 obtain ⟨e2, rfl⟩ := r2
 have H3 := H2.to e2
 refine dV rfl rfl (fun zw hx => py_max rfl rfl) (dV rfl rfl (fun zw hx => py_sub rfl rfl (in64 ⟨by omega, by omega⟩)) (d_end rfl (wn rfl) rfl rfl (py_assign rfl) (d_nil (rT hQ Tryz.results300 rfl ?_))))
 exact ⟨H3.ext, congrArg (Value.int .i64) (by unfold roomW; split <;> omega)⟩
theorem Tryz_spec_l7Full {w : World} {zb zC9 zC10 zC11 : Nat} {z : Wld} {zA9 zA10 zA11 : Option Addr} {m : Int} (zB : w.heap[zb]? = some (.cells [.int .i64 z.Shape.Groups, .int .i64 z.Shape.Column, .int .i64 z.Shape.Data, .int .i64 z.Shape.Spare, .int .i64 z.Shape.Rows, .int .i64 z.Shape.Cap, .int .i64 z.Shape.Batch, .int .i64 z.Shape.Queue, .int .i64 z.Shape.Stage, .slice zA9 z.Groups.length zC9, .slice zA10 z.On.length zC10, .slice zA11 z.Tapes.length zC11, .int .i64 z.Writes, .int .i64 z.Stop, .bool z.Down].toArray 38)) (zK : z.Ok) (zS9 : Sees w [.slice zA9 z.Groups.length zC9] z.Groups) (zS10 : Sees w [.slice zA10 z.On.length zC10] z.On) (zS11 : Sees w [.slice zA11 z.Tapes.length zC11] z.Tapes) (hT : z.Tapes.length = 2) (hm : 0 ≤ m ∧ m ≤ 10) (hr : (z.Tapes.getD 0 default).Recs.length ≤ 1000 ∧ (z.Tapes.getD 1 default).Recs.length ≤ 1000) : Ret Tryz.prog 224 #[.pointer (some ⟨zb, 0, none⟩), .int .i64 m] w fun v w' => Ext No w w' ∧ (v = .bool (fullM z m)) := by
 have zK2 := zK
 unfold Wld.Ok Shape.Ok at zK2
 try unfold I64ok at zK2
 try unfold maxLen at zK2
 have zL9 := sL zS9
 obtain ⟨zF9, zO9⟩ := zS9
 have zL10 := sL zS10
 obtain ⟨zF10, zO10⟩ := zS10
 have zL11 := sL zS11
 obtain ⟨zF11, zO11⟩ := zS11
 refine ret_Q (vs := [.pointer (some ⟨zb, 0, none⟩), .int .i64 m]) Tryz.func224 rfl Tryz.ntmps224 rfl (fun Q hQ hN => ?_)
 have H0 := Sep.start (w := w) (F := [box zb (.cells [.int .i64 z.Shape.Groups, .int .i64 z.Shape.Column, .int .i64 z.Shape.Data, .int .i64 z.Shape.Spare, .int .i64 z.Shape.Rows, .int .i64 z.Shape.Cap, .int .i64 z.Shape.Batch, .int .i64 z.Shape.Queue, .int .i64 z.Shape.Stage, .slice zA9 z.Groups.length zC9, .slice zA10 z.On.length zC10, .slice zA11 z.Tapes.length zC11, .int .i64 z.Writes, .int .i64 z.Stop, .bool z.Down].toArray 38), seen false [.slice zA9 z.Groups.length zC9] z.Groups zF9, seen false [.slice zA10 z.On.length zC10] z.On zF10, seen false [.slice zA11 z.Tapes.length zC11] z.Tapes zF11]) (all_cons (by exact zB) (all_cons zO9 (all_cons zO10 (all_cons zO11 (by simp)))))
 refine W_sr (sA rfl rfl (s_nil (W_seq ?_)))
 obtain ⟨eb1, eo1, es1, ef1, ee1, ec1, eO1, eH1, em1⟩ := elem_st (H0.seen 3 rfl) 0 (by omega)
 obtain ⟨ea1, ek1, eg1, rfl, eq1, eK1, eo2⟩ := own_Tape eO1
 have eP1 := H0.look1 3 rfl eo2 (fun b hb => eH1 b (by rw [eq1]; simp [hb]))
 have eL1 := oL eo2
 refine W_reg (sM rfl rfl (sV rfl (py_nil rfl) (sV rfl (py_field tu38 rfl ts36 rfl rfl) (sV rfl (py_load tu36 rfl rfl (cell_atL (eP1.fbox 0 rfl) rfl)) (sV rfl (py_elz tu36 ts139 rfl rfl ee1 0 (by omega) (by omega)) (sV rfl (py_field tu139 rfl ts30 rfl rfl) (sV rfl (py_load tu30 rfl rfl (at_cell ec1 1 rfl)) (sV rfl (py_len tu30 rfl) (sM rfl rfl (sV rfl (py_add rfl rfl (in64 ⟨by omega, by omega⟩)) (sV rfl (py_gtr rfl rfl) (sM rfl rfl (s_case (t := 16) rfl (fun hg1 => ?_) (fun hg1 => ?_))))))))))))))
 ·try simp only [decide_eq_true_eq, decide_eq_false_iff_not] at hg1
  refine sKt rfl rfl rfl (sKt rfl rfl rfl (sKt rfl rfl rfl (sKt rfl rfl rfl (sKt rfl rfl rfl (sKt rfl rfl rfl (sKt rfl rfl rfl (sKt rfl rfl rfl (sKt rfl rfl rfl (sKt rfl rfl rfl (sKt rfl rfl rfl (sV rfl (py_pickT rfl rfl) (sA rfl rfl (s_nil (rT hQ Tryz.results224 rfl ?_))))))))))))))
  exact ⟨eP1.ext, congrArg Value.bool (by unfold fullM; rw [decide_eq_true (p := 200 < ((z.Tapes.getD 0 default).Recs.length : Int) + m) hg1]; rfl)⟩
 ·try simp only [decide_eq_true_eq, decide_eq_false_iff_not] at hg1
  refine s_val (wg rfl rfl rfl) rfl rfl (py_move rfl) (s_val (wg rfl rfl rfl) rfl rfl (py_nil rfl) (s_val (wg rfl rfl rfl) rfl rfl (py_field tu38 rfl ts36 rfl rfl) (s_val (wg rfl rfl rfl) rfl rfl (py_load tu36 rfl rfl (cell_atL (eP1.fbox 0 rfl) rfl)) ?_)))
  obtain ⟨eb2, eo3, es2, ef2, ee2, ec2, eO2, eH2, em2⟩ := elem_st (eP1.seen 3 rfl) 1 (by omega)
  obtain ⟨ea2, ek2, eg2, rfl, eq2, eK2, eo4⟩ := own_Tape eO2
  have eP2 := eP1.look1 3 rfl eo4 (fun b hb => eH2 b (by rw [eq2]; simp [hb]))
  have eL2 := oL eo4
  refine s_val (wg rfl rfl rfl) rfl rfl (py_elz tu36 ts139 rfl rfl ee2 1 (by omega) (by omega)) (s_val (wg rfl rfl rfl) rfl rfl (py_field tu139 rfl ts30 rfl rfl) (s_val (wg rfl rfl rfl) rfl rfl (py_load tu30 rfl rfl (at_cell ec2 1 rfl)) (s_val (wg rfl rfl rfl) rfl rfl (py_len tu30 rfl) (s_val (wg rfl rfl rfl) rfl rfl (py_move rfl) (s_val (wg rfl rfl rfl) rfl rfl (py_add rfl rfl (in64 ⟨by omega, by omega⟩)) (s_val (wg rfl rfl rfl) rfl rfl (py_gtr rfl rfl) (sV rfl (py_pickF rfl rfl) (sA rfl rfl (s_nil (rT hQ Tryz.results224 rfl ?_))))))))))
  exact ⟨eP2.ext, congrArg Value.bool (by unfold fullM; rw [decide_eq_false (p := 200 < ((z.Tapes.getD 0 default).Recs.length : Int) + m) hg1]; rfl)⟩
theorem Tryz_impl_downIf {w : World} {d : Bool}  : Ret Tryz.prog 298 #[.bool d] w fun v w' => Ext No w w' ∧ (v = .int .i64 (if d = true then 0 else 9)) := by
 refine ret_Q (vs := [.bool d]) Tryz.func298 rfl Tryz.ntmps298 rfl (fun Q hQ hN => ?_)
 have H0 := Sep.start (w := w) (F := []) (by simp)
 refine W_sr (sA rfl rfl (s_nil (W_seq (W_sr (sM rfl rfl (sV rfl (py_not rfl) (s_nil (W_if rfl (fun c1 => ?_) (fun c1 => ?_)))))))))
 ·refine W_sr (sA rfl rfl (s_nil (rT hQ Tryz.results298 rfl ?_)))
  exact ⟨H0.ext, by simp_all⟩
 ·refine W_skip (W_sr (sA rfl rfl (s_nil (rT hQ Tryz.results298 rfl ?_))))
  exact ⟨H0.ext, by simp_all⟩
theorem Tryz_impl_World_cut {w : World} {z : Wld} {zb : Nat} {fp : List Nat} (o : OwnW w zb 38 z fp) (nd : fp.Nodup) : Ret Tryz.prog 334 #[.pointer (some ⟨zb, 0, none⟩)] w fun v w' => (MutW w w' fp zb 38 (cutW z)) := by
 refine ret_Q (vs := [.pointer (some ⟨zb, 0, none⟩)]) Tryz.func334 rfl Tryz.ntmps334 rfl (fun Q hQ hN => ?_)
 have H0 := Sep.beginW o nd
 obtain ⟨wA1, wC1, wA2, wC2, wA3, wC3, wf1, wf2, wf3, wok1, H1⟩ := H0.openW 0 rfl
 try dsimp only [lNA, lCA, lSZ, lSS] at H1
 have wok1U := wok1
 unfold Wld.Ok Shape.Ok I64ok at wok1U
 have wL1 := oL (H1.mine 2 rfl)
 have wL2 := oL (H1.mine 3 rfl)
 have wL3 := oL (H1.mine 4 rfl)
 refine W_reg (sM rfl rfl (sM rfl rfl (sV rfl (py_nil rfl) (sV rfl (py_field tu38 rfl ts4 rfl rfl) (s_sto (wn rfl) ts4 rfl rfl rfl H1 0 rfl rfl (fun w1 e1 H2 => ?_))))))
 dsimp only [lNA, lCA, lSZ, lSS, layL] at H2
 refine sV rfl (py_nil rfl) (sV rfl (py_field tu38 rfl ts25 rfl rfl) (s_sto (wn rfl) ts25 rfl rfl rfl H2 0 rfl rfl (fun w2 e2 H3 => ?_)))
 dsimp only [lNA, lCA, lSZ, lSS, layL] at H3
 refine s_nil (hN _ _ (fin0 Tryz.results334 ?_))
 have H4 := H3.nilW (α := Int)
 try dsimp only [lNA, lCA, lSZ, lSS] at H4
 obtain ⟨fp1, H5⟩ := H4.closeW 0 2 5 4 (cutW z) rfl rfl rfl rfl rfl rfl rfl rfl rfl rfl (cutW_ok wok1)
 try dsimp only [lNA, lCA, lSZ, lSS] at H5
 have hz := H5.doneW
 exact hz
theorem Tryz_impl_World_raw {w : World} {z y : Wld} {zb : Nat} {fp : List Nat} {dof : FuncId} {doL : List Value} {doF : Func} (o : OwnW w zb 38 z fp) (nd : fp.Nodup) (doH : Tryz.prog.funcs[dof]? = some doF) (doB : doF.body.isNone = false) (doN : NG doF) (doC : ∀ w1 fp1, OwnW w1 zb 38 z fp1 → fp1.Nodup → (∀ x ∈ fp1, x ∈ fp ∨ w.heap.size ≤ x) → Ext (· ∈ fp) w w1 → Ret Tryz.prog dof doL.toArray w1 fun v w' => MutW w1 w' fp1 zb 38 y) (hy : y.Writes ≤ 2000000000) : Ret Tryz.prog 290 #[.pointer (some ⟨zb, 0, none⟩), .func (.func dof) #[] doL.toArray] w fun v w' => (v = .bool (!noPower z) ∧ MutW w w' fp zb 38 (rawW z y)) := by
 refine ret_Q (vs := [.pointer (some ⟨zb, 0, none⟩), .func (.func dof) #[] doL.toArray]) Tryz.func290 rfl Tryz.ntmps290 rfl (fun Q hQ hN => ?_)
 have H0 := Sep.beginW o nd
 refine W_sr (sA rfl rfl (s_nil (W_seq (W_seq ?_))))
 obtain ⟨wA1, wC1, wA2, wC2, wA3, wC3, wf1, wf2, wf3, wok1, H1⟩ := H0.openW 0 rfl
 try dsimp only [lNA, lCA, lSZ, lSS] at H1
 have wok1U := wok1
 unfold Wld.Ok Shape.Ok I64ok at wok1U
 have wL1 := oL (H1.mine 2 rfl)
 have wL2 := oL (H1.mine 3 rfl)
 have wL3 := oL (H1.mine 4 rfl)
 refine W_drw (S := Ext No _) [(0, true), (1, true), (2, true), (3, true), (4, true), (5, true), (6, true), (7, true), (8, true), (9, true), (10, true), (11, true), (12, true), (13, true), (14, true), (15, false)] (by kernel_rfl) (by kernel_rfl) (by kernel_rfl) rfl (fun _ => Ext.refl.drawn _) (fun q1 => ?_)
 have H2 := H1.drawn q1
 refine dM rfl rfl rfl (dV rfl rfl (fun zw hx => py_nil rfl) (dV rfl rfl (fun zw hx => py_field tu38 rfl ts2 rfl rfl) (dV rfl rfl (fun zw hx => py_load tu2 rfl rfl (cell_atL (hx.heap (H2.box 0 rfl)) rfl)) (dV rfl rfl (fun zw hx => py_neq rfl rfl) (dM rfl rfl rfl (d_case (t := 10) rfl (fun hg1 => ?_) (fun hg1 => ?_)))))))
 ·try simp only [decide_eq_true_eq, decide_eq_false_iff_not] at hg1
  refine d_val rfl (wg rfl rfl rfl) rfl rfl (fun zw hx => py_move rfl) (d_val rfl (wg rfl rfl rfl) rfl rfl (fun zw hx => py_nil rfl) (d_val rfl (wg rfl rfl rfl) rfl rfl (fun zw hx => py_field tu38 rfl ts2 rfl rfl) (d_val rfl (wg rfl rfl rfl) rfl rfl (fun zw hx => py_load tu2 rfl rfl (cell_atL (hx.heap (H2.box 0 rfl)) rfl)) (d_val rfl (wg rfl rfl rfl) rfl rfl (fun zw hx => py_move rfl) (d_val rfl (wg rfl rfl rfl) rfl rfl (fun zw hx => py_nil rfl) (d_val rfl (wg rfl rfl rfl) rfl rfl (fun zw hx => py_field tu38 rfl ts2 rfl rfl) (d_val rfl (wg rfl rfl rfl) rfl rfl (fun zw hx => py_load tu2 rfl rfl (cell_atL (hx.heap (H2.box 0 rfl)) rfl)) (d_val rfl (wg rfl rfl rfl) rfl rfl (fun zw hx => py_geq rfl rfl) (d_end rfl (wn rfl) rfl rfl (py_pickT rfl rfl) (d_nil (W_ifd rfl (fun c1 => ?_) (fun c1 => ?_))))))))))))
  ·refine W_seq ?_
   have hnp : noPower z = true := noPower_yes (by omega) (by omega)
   refine W_reg (sM rfl rfl ?_)
   obtain ⟨fp1, H3⟩ := H2.closeW 0 2 3 4 z rfl rfl rfl rfl rfl rfl rfl rfl rfl rfl wok1
   try dsimp only [lNA, lCA, lSZ, lSS] at H3
   refine s_call (wn rfl) rfl rfl (pc_call Tryz.func334 rfl Tryz_nm334 rfl) (Tryz_impl_World_cut (H3.wldAt 0 rfl) (H3.nodup1 (i := 0) rfl)) (fun v1 w1 r1 => ?_)
   have mm1 := r1
   obtain ⟨fp2, H4⟩ := H3.mutW 0 rfl mm1
   try dsimp only [lNA, lCA, lSZ, lSS] at H4
   refine s_nil (W_sr (sA rfl rfl (s_nil (rT hQ Tryz.results290 rfl ?_))))
   have hz := H4.doneW
   rw [← rawW_no (y := y) hnp] at hz
   exact ⟨(by rw [hnp]; rfl), hz⟩
  ·refine W_skip (W_seq ?_)
   have hnp : noPower z = false := noPower_no (.inr (by omega))
   refine W_reg (sM rfl rfl ?_)
   obtain ⟨fp3, H5⟩ := H2.closeW 0 2 3 4 z rfl rfl rfl rfl rfl rfl rfl rfl rfl rfl wok1
   try dsimp only [lNA, lCA, lSZ, lSS] at H5
   refine s_call (wn rfl) rfl rfl (pc_callv (lb := doL) rfl doH doB doN rfl) (doC _ _ (H5.wldAt 0 rfl) (H5.nodup1 (i := 0) rfl) (fun x hx => H5.new x (H5.inB 0 rfl hx)) H5.ext) (fun v2 w2 r2 => ?_)
   obtain ⟨fp4, H6⟩ := H5.mutW 0 rfl r2
   try dsimp only [lNA, lCA, lSZ, lSS] at H6
   refine s_nil (W_seq ?_)
   obtain ⟨wA4, wC4, wA5, wC5, wA6, wC6, wf4, wf5, wf6, wok2, H7⟩ := H6.openW 0 rfl
   try dsimp only [lNA, lCA, lSZ, lSS] at H7
   have wok2U := wok2
   unfold Wld.Ok Shape.Ok I64ok at wok2U
   have wL4 := oL (H7.mine 6 rfl)
   have wL5 := oL (H7.mine 7 rfl)
   have wL6 := oL (H7.mine 8 rfl)
   refine W_reg (sM rfl rfl (sV rfl (py_nil rfl) (sV rfl (py_field tu38 rfl ts2 rfl rfl) (sV rfl (py_load tu2 rfl rfl (cell_atL (H7.box 0 rfl) rfl)) (sV rfl (py_add rfl rfl (in64 ⟨by omega, by omega⟩)) (sV rfl (py_nil rfl) (sV rfl (py_field tu38 rfl ts2 rfl rfl) (s_sto (wn rfl) ts2 rfl rfl rfl H7 0 rfl rfl (fun w3 e2 H8 => ?_)))))))))
   dsimp only [lNA, lCA, lSZ, lSS, layL] at H8
   refine s_nil (W_sr (sA rfl rfl (s_nil (rT hQ Tryz.results290 rfl ?_))))
   obtain ⟨fp5, H9⟩ := H8.closeW 0 6 7 8 (tickW y) rfl rfl rfl rfl rfl rfl rfl rfl rfl rfl (tickW_ok wok2 hy)
   try dsimp only [lNA, lCA, lSZ, lSS] at H9
   have hz := H9.doneW
   rw [← rawW_yes hnp] at hz
   exact ⟨(by rw [hnp]; rfl), hz⟩
 ·try simp only [decide_eq_true_eq, decide_eq_false_iff_not] at hg1
  refine dKf rfl rfl rfl rfl (dKf rfl rfl rfl rfl (dKf rfl rfl rfl rfl (dKf rfl rfl rfl rfl (dKf rfl rfl rfl rfl (dKf rfl rfl rfl rfl (dKf rfl rfl rfl rfl (dKf rfl rfl rfl rfl (dKf rfl rfl rfl rfl (d_end rfl (wn rfl) rfl rfl (py_pickF rfl rfl) (d_nil (W_iff rfl (W_skip (W_seq ?_)))))))))))))
  have hnp : noPower z = false := noPower_no (.inl (by omega))
  refine W_reg (sM rfl rfl ?_)
  obtain ⟨fp6, H10⟩ := H2.closeW 0 2 3 4 z rfl rfl rfl rfl rfl rfl rfl rfl rfl rfl wok1
  try dsimp only [lNA, lCA, lSZ, lSS] at H10
  refine s_call (wn rfl) rfl rfl (pc_callv (lb := doL) rfl doH doB doN rfl) (doC _ _ (H10.wldAt 0 rfl) (H10.nodup1 (i := 0) rfl) (fun x hx => H10.new x (H10.inB 0 rfl hx)) H10.ext) (fun v3 w4 r3 => ?_)
  obtain ⟨fp7, H11⟩ := H10.mutW 0 rfl r3
  try dsimp only [lNA, lCA, lSZ, lSS] at H11
  refine s_nil (W_seq ?_)
  obtain ⟨wA7, wC7, wA8, wC8, wA9, wC9, wf7, wf8, wf9, wok3, H12⟩ := H11.openW 0 rfl
  try dsimp only [lNA, lCA, lSZ, lSS] at H12
  have wok3U := wok3
  unfold Wld.Ok Shape.Ok I64ok at wok3U
  have wL7 := oL (H12.mine 6 rfl)
  have wL8 := oL (H12.mine 7 rfl)
  have wL9 := oL (H12.mine 8 rfl)
  refine W_reg (sM rfl rfl (sV rfl (py_nil rfl) (sV rfl (py_field tu38 rfl ts2 rfl rfl) (sV rfl (py_load tu2 rfl rfl (cell_atL (H12.box 0 rfl) rfl)) (sV rfl (py_add rfl rfl (in64 ⟨by omega, by omega⟩)) (sV rfl (py_nil rfl) (sV rfl (py_field tu38 rfl ts2 rfl rfl) (s_sto (wn rfl) ts2 rfl rfl rfl H12 0 rfl rfl (fun w5 e3 H13 => ?_)))))))))
  dsimp only [lNA, lCA, lSZ, lSS, layL] at H13
  refine s_nil (W_sr (sA rfl rfl (s_nil (rT hQ Tryz.results290 rfl ?_))))
  obtain ⟨fp8, H14⟩ := H13.closeW 0 6 7 8 (tickW y) rfl rfl rfl rfl rfl rfl rfl rfl rfl rfl (tickW_ok wok3 hy)
  try dsimp only [lNA, lCA, lSZ, lSS] at H14
  have hz := H14.doneW
  rw [← rawW_yes hnp] at hz
  exact ⟨(by rw [hnp]; rfl), hz⟩
theorem Tryz_impl_World_appendRec_1 {w : World} {z : Wld} {zb t b1 b2 b3 rC6 rC7 rC8 : Nat} {fp rF6 rF7 rF8 : List Nat} {r : Rec} {rA6 rA7 rA8 : Option Addr} (o : OwnW w zb 38 z fp) (nd : fp.Nodup) (h1 : w.heap[b1]? = some (.cells [.pointer (some ⟨zb, 0, none⟩)].toArray 82)) (d1 : b1 ∉ fp) (h2 : w.heap[b2]? = some (.cells [.int .i64 (t : Nat)].toArray 2)) (d2 : b2 ∉ fp) (h3 : w.heap[b3]? = some (.cells [.int .i64 r.Kind, .int .i64 r.Seq, .string r.Name, .int .i64 r.Length, .int .i64 r.Group, .int .i64 r.Row, .slice rA6 r.Rows.length rC6, .slice rA7 r.Data.length rC7, .slice rA8 r.Delta.length rC8].toArray 68)) (d3 : b3 ∉ fp) (rO6 : own false w [.slice rA6 r.Rows.length rC6] r.Rows rF6) (rD6 : ∀ b ∈ rF6, b ∉ fp) (rO7 : own false w [.slice rA7 r.Data.length rC7] r.Data rF7) (rD7 : ∀ b ∈ rF7, b ∉ fp) (rO8 : own false w [.slice rA8 r.Delta.length rC8] r.Delta rF8) (rD8 : ∀ b ∈ rF8, b ∉ fp) (rK : r.Ok) (ht : t < z.Tapes.length) (hb : szRec r ≤ 1048576) (hl : (z.Tapes.getD t default).Recs.length ≤ 100000) : Ret Tryz.prog 295 #[.pointer (some ⟨b1, 0, none⟩), .pointer (some ⟨b2, 0, none⟩), .pointer (some ⟨b3, 0, none⟩)] w fun v w' => (MutW w w' fp zb 38 (layT t r z)) := by
 have rK2 := rK
 unfold Rec.Ok at rK2
 try unfold I64ok at rK2
 try unfold maxLen at rK2
 have rN2 : r.Name.size ≤ maxLen := by unfold maxLen; omega
 have rL6 := oL rO6
 have rL7 := oL rO7
 have rL8 := oL rO8
 refine ret_Q (vs := [.pointer (some ⟨b1, 0, none⟩), .pointer (some ⟨b2, 0, none⟩), .pointer (some ⟨b3, 0, none⟩)]) Tryz.func295 rfl Tryz.ntmps295 rfl (fun Q hQ hN => ?_)
 have H0 := (((((((Sep.beginW o nd).boxF h1 d1).boxF h2 d2).boxF h3 d3).seeF rO6 rD6).seeF rO7 rD7).seeF rO8 rD8)
 try dsimp only [lNA, lCA, lSZ, lSS] at H0
 refine W_seq ?_
 obtain ⟨wA1, wC1, wA2, wC2, wA3, wC3, wf1, wf2, wf3, wok1, H1⟩ := H0.openW 0 rfl
 try dsimp only [lNA, lCA, lSZ, lSS] at H1
 have wok1U := wok1
 unfold Wld.Ok Shape.Ok I64ok at wok1U
 have wL1 := oL (H1.mine 2 rfl)
 have wL2 := oL (H1.mine 3 rfl)
 have wL3 := oL (H1.mine 4 rfl)
 obtain ⟨eb1, eo1, eT1, eF1, eG1, ea1, ek1, eg1, ee1, eK1, eH1⟩ := Tape.focus H1 4 rfl t (by omega)
 have eK1U := eK1
 unfold Tape.Ok at eK1U
 try unfold I64ok at eK1U
 try unfold maxLen at eK1U
 try dsimp only [lNA, lCA, lSZ, lSS] at eH1
 refine W_drw (S := Ext No _) [(0, true), (1, true), (2, true), (3, true), (4, true), (5, true), (6, false)] (by kernel_rfl) (by kernel_rfl) (by kernel_rfl) rfl (fun _ => Ext.refl.drawn _) (fun q1 => ?_)
 have H2 := eH1.drawn q1
 refine dV rfl rfl (fun zw hx => py_load tu82 rfl rfl (cell_atL (hx.heap (H2.fbox 0 rfl)) rfl)) (dV rfl rfl (fun zw hx => py_nil rfl) (dV rfl rfl (fun zw hx => py_field tu38 rfl ts36 rfl rfl) (dV rfl rfl (fun zw hx => py_load tu36 rfl rfl (cell_atL (hx.heap (H2.box 0 rfl)) rfl)) (dV rfl rfl (fun zw hx => py_load tu2 rfl rfl (cell_atL (hx.heap (H2.fbox 1 rfl)) rfl)) (dV rfl rfl (fun zw hx => py_elz tu36 ts139 rfl rfl ee1 t (by omega) (by omega)) (d_end rfl (wn rfl) rfl rfl (py_assign rfl) (d_nil (W_drw (S := H2.S2 4 6) [(0, true), (1, true), (2, true), (3, true), (4, true), (6, true), (1010, false), (5, false), (7, false), (8, false), (9, false), (10, true), (11, true), (12, false), (13, true), (14, true), (15, false), (7, false), (1009, false), (5, false), (8, false), (9, false), (10, true), (11, true), (12, false), (13, true), (14, true), (15, false), (8, false), (5, false), (9, false), (10, true), (11, true), (12, false), (13, true), (14, true), (15, false)] (by kernel_rfl) (by kernel_rfl) (by kernel_rfl) rfl (fun _ => show H2.S2 4 6 _ from Ext.refl.drawn _) (fun q2 => ?_)))))))))
 have H3 := H2.drawn q2
 refine dM rfl rfl rfl (dM rfl rfl rfl (dM rfl rfl rfl (dV rfl rfl (fun zw hx => py_nil rfl) (dV rfl rfl (fun zw hx => py_field tu139 rfl ts30 rfl rfl) (dV rfl rfl (fun zw hx => py_loadS tu68 rfl ts68 rfl rfl (At.whole (H2.s2FBox hx 2 rfl rfl rfl))) (d_fork (l1 := [(5, false), (7, false), (8, false), (9, false), (10, true), (11, true), (12, false), (13, true), (14, true), (15, false)]) (l2 := [(7, false), (1009, false), (5, false), (8, false), (9, false), (10, true), (11, true), (12, false), (13, true), (14, true), (15, false), (8, false), (5, false), (9, false), (10, true), (11, true), (12, false), (13, true), (14, true), (15, false)]) rfl rfl rfl rfl ?_ ?_))))))
 ·refine d_end rfl (wn rfl) rfl rfl (py_load tu30 rfl rfl (at_cell (H3.holAt 4 rfl) 1 rfl)) (d_call rfl (wn rfl) rfl rfl (pc_call Tryz.func74 rfl Tryz_nm74 rfl) (Tryz_impl_cloneRec (by assumption) (H3.sees 3 rfl) (H3.sees 4 rfl) (H3.sees 5 rfl) (by first | assumption | omega)) (fun hS _ _ r _ => H2.s2Call hS r.1) (fun v1 w1 r1 => ?_))
  obtain ⟨e1, sa1, sk1, sa2, sk2, sa3, sk3, rfl, r1⟩ := r1
  obtain ⟨fp1, H4⟩ := H3.res e1 r1
  refine d_lit1 rfl (wn rfl) rfl tu30 Tryz_ty68 rfl rfl rfl rfl H4 (fun _ h e => H2.s2Call h e) (fun b1 w2 e2 g1 H5 => ?_)
  refine d_app2 rfl (wn rfl) rfl tu30 Tryz_ty68 rfl rfl rfl H5 6 8 7 rfl rfl rfl rfl (by unfold maxLen; omega) (by omega) (fun _ h e => H2.s2In h 6 rfl (.inr rfl) e (fun _ hb => hb)) (fun v2 w3 fp2 H6 => ?_)
  refine dV rfl rfl (fun zw hx => py_nil rfl) (dV rfl rfl (fun zw hx => py_field tu139 rfl ts30 rfl rfl) ?_)
  obtain ⟨a1, k1, q3⟩ := own_slice (H6.mine 6 rfl)
  cases q3
  refine d_hsto rfl (wn rfl) ts30 H6 4 1 rfl rfl rfl rfl rfl (fun _ h e _ => H2.s2In h 4 rfl (.inl rfl) e (fun _ hb => by rw [hb]; exact List.mem_cons_self)) (fun w4 H7 => ?_)
  dsimp only [lNA, lCA, lSZ, lSS, layL] at H7
  refine dV rfl rfl (fun zw hx => py_nil rfl) (dV rfl rfl (fun zw hx => py_field tu139 rfl ts4 rfl rfl) (d_hsto rfl (wn rfl) ts4 H7 4 0 rfl rfl rfl rfl rfl (fun _ h e _ => H2.s2In h 4 rfl (.inl rfl) e (fun _ hb => by rw [hb]; exact List.mem_cons_self)) (fun w5 H8 => ?_)))
  dsimp only [lNA, lCA, lSZ, lSS, layL] at H8
  refine d_nil (hN _ _ (fin0 Tryz.results295 ?_))
  obtain ⟨fp3, H9⟩ := Tape.fill H8 4 6 rfl rfl rfl trivial
  try dsimp only [lNA, lCA, lSZ, lSS] at H9
  obtain ⟨fp4, H10⟩ := H9.closeW 0 2 3 4 (layT t r z) rfl rfl rfl rfl rfl rfl rfl rfl rfl rfl (layT_ok wok1)
  try dsimp only [lNA, lCA, lSZ, lSS] at H10
  have hz := H10.doneW
  exact hz
 ·refine d_call rfl (wn rfl) rfl rfl (pc_call Tryz.func74 rfl Tryz_nm74 rfl) (Tryz_impl_cloneRec (by assumption) (H3.sees 3 rfl) (H3.sees 4 rfl) (H3.sees 5 rfl) (by first | assumption | omega)) (fun hS _ _ r _ => H2.s2Call hS r.1) (fun v3 w6 r2 => ?_)
  obtain ⟨e5, sa4, sk4, sa5, sk5, sa6, sk6, rfl, r2⟩ := r2
  obtain ⟨fp5, H11⟩ := H3.res e5 r2
  refine d_fork (l1 := [(5, false), (8, false), (9, false), (10, true), (11, true), (12, false), (13, true), (14, true), (15, false)]) (l2 := [(8, false), (5, false), (9, false), (10, true), (11, true), (12, false), (13, true), (14, true), (15, false)]) rfl rfl rfl rfl ?_ ?_
  ·refine d_end rfl (wn rfl) rfl rfl (py_load tu30 rfl rfl (at_cell (H11.holAt 4 rfl) 1 rfl)) (d_lit1 rfl (wn rfl) rfl tu30 Tryz_ty68 rfl rfl rfl rfl H11 (fun _ h e => H2.s2Call h e) (fun b2 w7 e6 g2 H12 => ?_))
   refine d_app2 rfl (wn rfl) rfl tu30 Tryz_ty68 rfl rfl rfl H12 6 8 7 rfl rfl rfl rfl (by unfold maxLen; omega) (by omega) (fun _ h e => H2.s2In h 6 rfl (.inr rfl) e (fun _ hb => hb)) (fun v4 w8 fp6 H13 => ?_)
   refine dV rfl rfl (fun zw hx => py_nil rfl) (dV rfl rfl (fun zw hx => py_field tu139 rfl ts30 rfl rfl) ?_)
   obtain ⟨a2, k2, q4⟩ := own_slice (H13.mine 6 rfl)
   cases q4
   refine d_hsto rfl (wn rfl) ts30 H13 4 1 rfl rfl rfl rfl rfl (fun _ h e _ => H2.s2In h 4 rfl (.inl rfl) e (fun _ hb => by rw [hb]; exact List.mem_cons_self)) (fun w9 H14 => ?_)
   dsimp only [lNA, lCA, lSZ, lSS, layL] at H14
   refine dV rfl rfl (fun zw hx => py_nil rfl) (dV rfl rfl (fun zw hx => py_field tu139 rfl ts4 rfl rfl) (d_hsto rfl (wn rfl) ts4 H14 4 0 rfl rfl rfl rfl rfl (fun _ h e _ => H2.s2In h 4 rfl (.inl rfl) e (fun _ hb => by rw [hb]; exact List.mem_cons_self)) (fun w10 H15 => ?_)))
   dsimp only [lNA, lCA, lSZ, lSS, layL] at H15
   refine d_nil (hN _ _ (fin0 Tryz.results295 ?_))
   obtain ⟨fp7, H16⟩ := Tape.fill H15 4 6 rfl rfl rfl trivial
   try dsimp only [lNA, lCA, lSZ, lSS] at H16
   obtain ⟨fp8, H17⟩ := H16.closeW 0 2 3 4 (layT t r z) rfl rfl rfl rfl rfl rfl rfl rfl rfl rfl (layT_ok wok1)
   try dsimp only [lNA, lCA, lSZ, lSS] at H17
   have hz := H17.doneW
   exact hz
  ·refine d_lit1 rfl (wn rfl) rfl tu30 Tryz_ty68 rfl rfl rfl rfl H11 (fun _ h e => H2.s2Call h e) (fun b3 w11 e9 g3 H18 => ?_)
   refine d_end rfl (wn rfl) rfl rfl (py_load tu30 rfl rfl (at_cell (H18.holAt 4 rfl) 1 rfl)) (d_app2 rfl (wn rfl) rfl tu30 Tryz_ty68 rfl rfl rfl H18 6 8 7 rfl rfl rfl rfl (by unfold maxLen; omega) (by omega) (fun _ h e => H2.s2In h 6 rfl (.inr rfl) e (fun _ hb => hb)) (fun v5 w12 fp9 H19 => ?_))
   refine dV rfl rfl (fun zw hx => py_nil rfl) (dV rfl rfl (fun zw hx => py_field tu139 rfl ts30 rfl rfl) ?_)
   obtain ⟨a3, k3, q5⟩ := own_slice (H19.mine 6 rfl)
   cases q5
   refine d_hsto rfl (wn rfl) ts30 H19 4 1 rfl rfl rfl rfl rfl (fun _ h e _ => H2.s2In h 4 rfl (.inl rfl) e (fun _ hb => by rw [hb]; exact List.mem_cons_self)) (fun w13 H20 => ?_)
   dsimp only [lNA, lCA, lSZ, lSS, layL] at H20
   refine dV rfl rfl (fun zw hx => py_nil rfl) (dV rfl rfl (fun zw hx => py_field tu139 rfl ts4 rfl rfl) (d_hsto rfl (wn rfl) ts4 H20 4 0 rfl rfl rfl rfl rfl (fun _ h e _ => H2.s2In h 4 rfl (.inl rfl) e (fun _ hb => by rw [hb]; exact List.mem_cons_self)) (fun w14 H21 => ?_)))
   dsimp only [lNA, lCA, lSZ, lSS, layL] at H21
   refine d_nil (hN _ _ (fin0 Tryz.results295 ?_))
   obtain ⟨fp10, H22⟩ := Tape.fill H21 4 6 rfl rfl rfl trivial
   try dsimp only [lNA, lCA, lSZ, lSS] at H22
   obtain ⟨fp11, H23⟩ := H22.closeW 0 2 3 4 (layT t r z) rfl rfl rfl rfl rfl rfl rfl rfl rfl rfl (layT_ok wok1)
   try dsimp only [lNA, lCA, lSZ, lSS] at H23
   have hz := H23.doneW
   exact hz
theorem Tryz_impl_World_appendRec {w : World} {z : Wld} {zb t rC6 rC7 rC8 : Nat} {fp rF6 rF7 rF8 : List Nat} {r : Rec} {rA6 rA7 rA8 : Option Addr} (o : OwnW w zb 38 z fp) (nd : fp.Nodup) (rK : r.Ok) (rO6 : own false w [.slice rA6 r.Rows.length rC6] r.Rows rF6) (rD6 : ∀ b ∈ rF6, b ∉ fp) (rO7 : own false w [.slice rA7 r.Data.length rC7] r.Data rF7) (rD7 : ∀ b ∈ rF7, b ∉ fp) (rO8 : own false w [.slice rA8 r.Delta.length rC8] r.Delta rF8) (rD8 : ∀ b ∈ rF8, b ∉ fp) (ht : t < z.Tapes.length) (hb : szRec r ≤ 1048576) (hl : (z.Tapes.getD t default).Recs.length ≤ 100000) (hw : z.Writes ≤ 2000000000) : Ret Tryz.prog 217 #[.pointer (some ⟨zb, 0, none⟩), .int .i64 t, r.val rA6 rC6 rA7 rC7 rA8 rC8] w fun v w' => (v = .bool (!noPower z) ∧ MutW w w' fp zb 38 (appW t r z)) := by
 have rK2 := rK
 unfold Rec.Ok at rK2
 try unfold I64ok at rK2
 try unfold maxLen at rK2
 have rN2 : r.Name.size ≤ maxLen := by unfold maxLen; omega
 have rL6 := oL rO6
 have rL7 := oL rO7
 have rL8 := oL rO8
 refine ret_Q (vs := [.pointer (some ⟨zb, 0, none⟩), .int .i64 t, r.val rA6 rC6 rA7 rC7 rA8 rC8]) Tryz.func217 rfl Tryz.ntmps217 rfl (fun Q hQ hN => ?_)
 have H0 := (((Sep.beginW o nd).seeF (rO6) rD6).seeF (rO7) rD7).seeF (rO8) rD8
 try dsimp only [lNA, lCA, lSZ, lSS] at H0
 refine W_sr (s_box (wn rfl) rfl rfl H0 (fun b1 w1 e1 g1 H1 => ?_))
 refine s_box (wn rfl) rfl rfl H1 (fun b2 w2 e2 g2 H2 => ?_)
 refine s_box (wn rfl) rfl rfl H2 (fun b3 w3 e3 g3 H3 => ?_)
 refine sA rfl rfl (s_nil (W_sr (sV rfl (py_load tu82 rfl rfl (cell_atL (H3.box 1 rfl) rfl)) (sV rfl (py_func rfl) (s_call (wn rfl) rfl rfl (pc_call Tryz.func290 rfl Tryz_nm290 rfl) (Tryz_impl_World_raw (H3.wldAt 0 rfl) (H3.nodup1 (i := 0) rfl) (y := layT t r z) Tryz.func295 rfl Tryz_nm295 (fun w1 fp1 o1 n1 s1 e1 => Tryz_impl_World_appendRec_1 o1 n1 (H3.boxFar 0 1 rfl rfl rfl s1 e1).1 (H3.boxFar 0 1 rfl rfl rfl s1 e1).2 (H3.boxFar 0 2 rfl rfl rfl s1 e1).1 (H3.boxFar 0 2 rfl rfl rfl s1 e1).2 (H3.boxFar 0 3 rfl rfl rfl s1 e1).1 (H3.boxFar 0 3 rfl rfl rfl s1 e1).2 (H3.seeFar 0 0 rfl rfl s1 e1).1 (H3.seeFar 0 0 rfl rfl s1 e1).2 (H3.seeFar 0 1 rfl rfl s1 e1).1 (H3.seeFar 0 1 rfl rfl s1 e1).2 (H3.seeFar 0 2 rfl rfl s1 e1).1 (H3.seeFar 0 2 rfl rfl s1 e1).2 rK ht hb hl) (by first | assumption | omega)) (fun v1 w4 r1 => ?_))))))
 obtain ⟨rfl, mm1⟩ := r1
 obtain ⟨fp1, H4⟩ := H3.mutW 0 rfl mm1
 try dsimp only [lNA, lCA, lSZ, lSS] at H4
 refine sA rfl rfl (s_nil (rT hQ Tryz.results217 rfl ?_))
 exact ⟨rfl, H4.doneW⟩
theorem Tryz_impl_layRec_full {w : World} {z : Wld} {zb rC6 rC7 rC8 : Nat} {fp rF6 rF7 rF8 : List Nat} {r : Rec} {rA6 rA7 rA8 : Option Addr} (o : OwnW w zb 38 z fp) (nd : fp.Nodup) (rK : r.Ok) (rO6 : own false w [.slice rA6 r.Rows.length rC6] r.Rows rF6) (rD6 : ∀ b ∈ rF6, b ∉ fp) (rO7 : own false w [.slice rA7 r.Data.length rC7] r.Data rF7) (rD7 : ∀ b ∈ rF7, b ∉ fp) (rO8 : own false w [.slice rA8 r.Delta.length rC8] r.Delta rF8) (rD8 : ∀ b ∈ rF8, b ∉ fp) (hf : layFull z = true) (hT : z.Tapes.length = 2) (hb : szRec r ≤ 1048576) (hw : z.Writes ≤ 1500000000) : Ret Tryz.prog 226 #[.pointer (some ⟨zb, 0, none⟩), r.val rA6 rC6 rA7 rC7 rA8 rC8] w fun v w' => (v = .int .i64 2 ∧ MutW w w' fp zb 38 (z)) := by
 have rK2 := rK
 unfold Rec.Ok at rK2
 try unfold I64ok at rK2
 try unfold maxLen at rK2
 have rN2 : r.Name.size ≤ maxLen := by unfold maxLen; omega
 have rL6 := oL rO6
 have rL7 := oL rO7
 have rL8 := oL rO8
 refine ret_Q (vs := [.pointer (some ⟨zb, 0, none⟩), r.val rA6 rC6 rA7 rC7 rA8 rC8]) Tryz.func226 rfl Tryz.ntmps226 rfl (fun Q hQ hN => ?_)
 have H0 := (((Sep.beginW o nd).seeF (rO6) rD6).seeF (rO7) rD7).seeF (rO8) rD8
 try dsimp only [lNA, lCA, lSZ, lSS] at H0
 refine W_sr (s_box (wn rfl) rfl rfl H0 (fun b1 w1 e1 g1 H1 => ?_))
 refine sA rfl rfl (s_nil (W_seq (W_seq ?_)))
 obtain ⟨wA1, wC1, wA2, wC2, wA3, wC3, wf1, wf2, wf3, wok1, H2⟩ := H1.openW 0 rfl
 try dsimp only [lNA, lCA, lSZ, lSS] at H2
 have wok1U := wok1
 unfold Wld.Ok Shape.Ok I64ok at wok1U
 have wL1 := oL (H2.mine 3 rfl)
 have wL2 := oL (H2.mine 4 rfl)
 have wL3 := oL (H2.mine 5 rfl)
 refine W_reg (sM rfl rfl (s_call (wn rfl) rfl rfl (pc_call Tryz.func300 rfl Tryz_nm300 rfl) (Tryz_impl_World_room (H2.box 0 rfl) (by assumption) (H2.msees 3 rfl) (H2.msees 4 rfl) (H2.msees 5 rfl) (by first | assumption | omega)) (fun v1 w2 r1 => ?_)))
 obtain ⟨e2, rfl⟩ := r1
 have H3 := H2.to e2
 refine sV rfl (py_lss rfl rfl) (s_nil (W_ifd rfl (fun c1 => ?_) (fun c1 => ?_)))
 ·refine W_sr (sA rfl rfl (s_nil (rT hQ Tryz.results226 rfl ?_)))
  obtain ⟨fp1, H4⟩ := H3.closeW 0 3 4 5 z rfl rfl rfl rfl rfl rfl rfl rfl rfl rfl wok1
  try dsimp only [lNA, lCA, lSZ, lSS] at H4
  have hz := H4.doneW
  exact ⟨rfl, hz⟩
 ·exact absurd (room_not c1) (by simp [hf])
theorem Tryz_impl_layRec_ok {w : World} {z : Wld} {zb rC6 rC7 rC8 : Nat} {fp rF6 rF7 rF8 : List Nat} {r : Rec} {rA6 rA7 rA8 : Option Addr} (o : OwnW w zb 38 z fp) (nd : fp.Nodup) (rK : r.Ok) (rO6 : own false w [.slice rA6 r.Rows.length rC6] r.Rows rF6) (rD6 : ∀ b ∈ rF6, b ∉ fp) (rO7 : own false w [.slice rA7 r.Data.length rC7] r.Data rF7) (rD7 : ∀ b ∈ rF7, b ∉ fp) (rO8 : own false w [.slice rA8 r.Delta.length rC8] r.Delta rF8) (rD8 : ∀ b ∈ rF8, b ∉ fp) (hf : layFull z = false) (hT : z.Tapes.length = 2) (hb : szRec r ≤ 1048576) (hw : z.Writes ≤ 1500000000) : Ret Tryz.prog 226 #[.pointer (some ⟨zb, 0, none⟩), r.val rA6 rC6 rA7 rC7 rA8 rC8] w fun v w' => (v = .int .i64 (if layOK z r = true then 0 else 9) ∧ MutW w w' fp zb 38 (layW z r)) := by
 have rK2 := rK
 unfold Rec.Ok at rK2
 try unfold I64ok at rK2
 try unfold maxLen at rK2
 have rN2 : r.Name.size ≤ maxLen := by unfold maxLen; omega
 have rL6 := oL rO6
 have rL7 := oL rO7
 have rL8 := oL rO8
 have aw := (appW_writes (t := 0) (r := r) (z := z)).2
 have at_ := appW_tapes (t := 0) (r := r) (z := z)
 have ar := appW_recs (t := 0) (u := 1) (r := r) (z := z)
 have fn_ := full_not hf
 refine ret_Q (vs := [.pointer (some ⟨zb, 0, none⟩), r.val rA6 rC6 rA7 rC7 rA8 rC8]) Tryz.func226 rfl Tryz.ntmps226 rfl (fun Q hQ hN => ?_)
 have H0 := (((Sep.beginW o nd).seeF (rO6) rD6).seeF (rO7) rD7).seeF (rO8) rD8
 try dsimp only [lNA, lCA, lSZ, lSS] at H0
 refine W_sr (s_box (wn rfl) rfl rfl H0 (fun b1 w1 e1 g1 H1 => ?_))
 refine sA rfl rfl (s_nil (W_seq (W_seq ?_)))
 obtain ⟨wA1, wC1, wA2, wC2, wA3, wC3, wf1, wf2, wf3, wok1, H2⟩ := H1.openW 0 rfl
 try dsimp only [lNA, lCA, lSZ, lSS] at H2
 have wok1U := wok1
 unfold Wld.Ok Shape.Ok I64ok at wok1U
 have wL1 := oL (H2.mine 3 rfl)
 have wL2 := oL (H2.mine 4 rfl)
 have wL3 := oL (H2.mine 5 rfl)
 refine W_reg (sM rfl rfl (s_call (wn rfl) rfl rfl (pc_call Tryz.func300 rfl Tryz_nm300 rfl) (Tryz_impl_World_room (H2.box 0 rfl) (by assumption) (H2.msees 3 rfl) (H2.msees 4 rfl) (H2.msees 5 rfl) (by first | assumption | omega)) (fun v1 w2 r1 => ?_)))
 obtain ⟨e2, rfl⟩ := r1
 have H3 := H2.to e2
 refine sV rfl (py_lss rfl rfl) (s_nil (W_ifd rfl (fun c1 => ?_) (fun c1 => ?_)))
 ·exact absurd (room_full c1) (by simp [hf])
 ·refine W_skip (W_sr (sM rfl rfl (sV rfl (py_loadS tu68 rfl ts68 rfl rfl (At.whole (H3.box 1 rfl))) ?_)))
  obtain ⟨fp1, H4⟩ := H3.closeW 0 3 4 5 z rfl rfl rfl rfl rfl rfl rfl rfl rfl rfl wok1
  try dsimp only [lNA, lCA, lSZ, lSS] at H4
  refine s_call (wn rfl) rfl rfl (pc_call Tryz.func217 rfl Tryz_nm217 rfl) (Tryz_impl_World_appendRec (H4.wldAt 0 rfl) (H4.nodup1 (i := 0) rfl) (by assumption) (own_weak (H4.seen 0 rfl)) (fun b hb => H4.off 0 rfl 0 rfl hb) (own_weak (H4.seen 1 rfl)) (fun b hb => H4.off 1 rfl 0 rfl hb) (own_weak (H4.seen 2 rfl)) (fun b hb => H4.off 2 rfl 0 rfl hb) (by first | assumption | omega) (by first | assumption | omega) (by first | assumption | omega) (by first | assumption | omega) (t := 0)) (fun v2 w3 r2 => ?_)
  obtain ⟨rfl, mm1⟩ := r2
  obtain ⟨fp2, H5⟩ := H4.mutW 0 rfl mm1
  try dsimp only [lNA, lCA, lSZ, lSS] at H5
  refine sM rfl rfl (s_case (t := 11) rfl (fun hg1 => ?_) (fun hg1 => ?_))
  ·try simp only [decide_eq_true_eq, decide_eq_false_iff_not] at hg1
   refine s_val (wg rfl rfl rfl) rfl rfl (py_move rfl) (s_val (wg rfl rfl rfl) rfl rfl (py_loadS tu68 rfl ts68 rfl rfl (At.whole (H5.box 1 rfl))) (s_call (wg rfl rfl rfl) rfl rfl (pc_call Tryz.func217 rfl Tryz_nm217 rfl) (Tryz_impl_World_appendRec (H5.wldAt 0 rfl) (H5.nodup1 (i := 0) rfl) (by assumption) (own_weak (H5.seen 0 rfl)) (fun b hb => H5.off 0 rfl 0 rfl hb) (own_weak (H5.seen 1 rfl)) (fun b hb => H5.off 1 rfl 0 rfl hb) (own_weak (H5.seen 2 rfl)) (fun b hb => H5.off 2 rfl 0 rfl hb) (by first | assumption | omega) (by first | assumption | omega) (by first | assumption | omega) (by first | assumption | omega) (t := 1)) (fun v3 w4 r3 => ?_)))
   obtain ⟨rfl, mm2⟩ := r3
   obtain ⟨fp3, H6⟩ := H5.mutW 0 rfl mm2
   try dsimp only [lNA, lCA, lSZ, lSS] at H6
   refine sV rfl (py_pickT rfl rfl) (s_call (wn rfl) rfl rfl (pc_call Tryz.func298 rfl Tryz_nm298 rfl) Tryz_impl_downIf (fun v4 w5 r4 => ?_))
   obtain ⟨e5, rfl⟩ := r4
   have H7 := H6.to e5
   refine sA rfl rfl (s_nil (rT hQ Tryz.results226 rfl ?_))
   have hnp : noPower z = false := by simpa using hg1
   have hz := H7.doneW
   rw [← (layW_yes (r := r) hnp).1] at hz
   exact ⟨(by rw [(layW_yes (r := r) hnp).2]), hz⟩
  ·try simp only [decide_eq_true_eq, decide_eq_false_iff_not] at hg1
   refine sKf rfl rfl rfl (sKf rfl rfl rfl (sKf rfl rfl rfl (sV rfl (py_pickF rfl rfl) (s_call (wn rfl) rfl rfl (pc_call Tryz.func298 rfl Tryz_nm298 rfl) Tryz_impl_downIf (fun v5 w6 r5 => ?_)))))
   obtain ⟨e6, rfl⟩ := r5
   have H8 := H5.to e6
   refine sA rfl rfl (s_nil (rT hQ Tryz.results226 rfl ?_))
   have hnp : noPower z = true := by simpa using hg1
   have hz := H8.doneW
   rw [← (layW_no (r := r) hnp).1] at hz
   exact ⟨(by rw [(layW_no (r := r) hnp).2]), hz⟩
theorem Tryz_impl_changed_no {w : World} {x : Wld} {xA9 xA10 xA11 : Option Addr} {xC9 xC10 xC11 : Nat} {c : Int} (xK : x.Ok) (xS9 : Sees w [.slice xA9 x.Groups.length xC9] x.Groups) (xS10 : Sees w [.slice xA10 x.On.length xC10] x.On) (xS11 : Sees w [.slice xA11 x.Tapes.length xC11] x.Tapes) (hc : c ≠ 0 ∧ c ≠ 9) : Ret Tryz.prog 123 #[x.val xA9 xC9 xA10 xC10 xA11 xC11, .int .i64 c] w fun v w' => Ext No w w' ∧ (v = (⟨c, noWld⟩ : WldResult).val none 0 none 0 none 0) := by
 have xK2 := xK
 unfold Wld.Ok Shape.Ok at xK2
 try unfold I64ok at xK2
 try unfold maxLen at xK2
 have xL9 := sL xS9
 obtain ⟨xF9, xO9⟩ := xS9
 have xL10 := sL xS10
 obtain ⟨xF10, xO10⟩ := xS10
 have xL11 := sL xS11
 obtain ⟨xF11, xO11⟩ := xS11
 refine ret_Q (vs := [x.val xA9 xC9 xA10 xC10 xA11 xC11, .int .i64 c]) Tryz.func123 rfl Tryz.ntmps123 rfl (fun Q hQ hN => ?_)
 have H0 := Sep.start (w := w) (F := [seen false [.slice xA9 x.Groups.length xC9] x.Groups xF9, seen false [.slice xA10 x.On.length xC10] x.On xF10, seen false [.slice xA11 x.Tapes.length xC11] x.Tapes xF11]) (all_cons xO9 (all_cons xO10 (all_cons xO11 (by simp))))
 refine W_sr (s_box (wn rfl) rfl rfl H0 (fun b1 w1 e1 g1 H1 => ?_))
 refine s_var (wn rfl) rfl Tryz.zeroValue66 H1 (fun b2 w2 e2 g2 H2 => ?_)
 refine s_nil (W_seq (W_sr (sM rfl rfl (sV rfl (py_neq rfl rfl) (sM rfl rfl (s_case (t := 7) rfl (fun hg1 => ?_) (fun hg1 => ?_)))))))
 ·try simp only [decide_eq_true_eq, decide_eq_false_iff_not] at hg1
  refine s_val (wg rfl rfl rfl) rfl rfl (py_move rfl) (s_val (wg rfl rfl rfl) rfl rfl (py_neq rfl rfl) (sV rfl (py_pickT rfl rfl) (s_nil (W_ifd rfl (fun c1 => ?_) (fun c1 => ?_)))))
  ·refine W_sr (sM rfl rfl (sV rfl (py_buildS Tryz_pl66 rfl rfl) (s_stoS (wn rfl) ts66 rfl rfl rfl rfl H2 1 rfl rfl (fun w3 e3 H3 => ?_))))
   dsimp only [lNA, lCA, lSZ, lSS, layL] at H3
   refine s_nil (W_ret (hQ _ _ (finC Tryz.results123 rfl (run_loadVarS tu66 rfl ts66 rfl (At.whole (H3.box 1 rfl))) ?_)))
   exact ⟨H3.ext, rfl⟩
  ·exfalso; simp_all
 ·exfalso; simp_all
theorem Tryz_impl_changed_yes {w : World} {x : Wld} {xA9 xA10 xA11 : Option Addr} {xC9 xC10 xC11 : Nat} {c : Int} (xK : x.Ok) (xS9 : Sees w [.slice xA9 x.Groups.length xC9] x.Groups) (xS10 : Sees w [.slice xA10 x.On.length xC10] x.On) (xS11 : Sees w [.slice xA11 x.Tapes.length xC11] x.Tapes) (hc : c = 0 ∨ c = 9) : Ret Tryz.prog 123 #[x.val xA9 xC9 xA10 xC10 xA11 xC11, .int .i64 c] w fun v w' => Ext No w w' ∧ (v = (⟨c, x⟩ : WldResult).val xA9 xC9 xA10 xC10 xA11 xC11) := by
 have xK2 := xK
 unfold Wld.Ok Shape.Ok at xK2
 try unfold I64ok at xK2
 try unfold maxLen at xK2
 have xL9 := sL xS9
 obtain ⟨xF9, xO9⟩ := xS9
 have xL10 := sL xS10
 obtain ⟨xF10, xO10⟩ := xS10
 have xL11 := sL xS11
 obtain ⟨xF11, xO11⟩ := xS11
 refine ret_Q (vs := [x.val xA9 xC9 xA10 xC10 xA11 xC11, .int .i64 c]) Tryz.func123 rfl Tryz.ntmps123 rfl (fun Q hQ hN => ?_)
 have H0 := Sep.start (w := w) (F := [seen false [.slice xA9 x.Groups.length xC9] x.Groups xF9, seen false [.slice xA10 x.On.length xC10] x.On xF10, seen false [.slice xA11 x.Tapes.length xC11] x.Tapes xF11]) (all_cons xO9 (all_cons xO10 (all_cons xO11 (by simp))))
 refine W_sr (s_box (wn rfl) rfl rfl H0 (fun b1 w1 e1 g1 H1 => ?_))
 refine s_var (wn rfl) rfl Tryz.zeroValue66 H1 (fun b2 w2 e2 g2 H2 => ?_)
 refine s_nil (W_seq (W_sr (sM rfl rfl (sV rfl (py_neq rfl rfl) (sM rfl rfl (s_case (t := 7) rfl (fun hg1 => ?_) (fun hg1 => ?_)))))))
 ·try simp only [decide_eq_true_eq, decide_eq_false_iff_not] at hg1
  refine s_val (wg rfl rfl rfl) rfl rfl (py_move rfl) (s_val (wg rfl rfl rfl) rfl rfl (py_neq rfl rfl) (sV rfl (py_pickT rfl rfl) (s_nil (W_ifd rfl (fun c1 => ?_) (fun c1 => ?_)))))
  ·exfalso; simp_all
  ·refine W_skip (W_sr (sM rfl rfl (sV rfl (py_loadS tu38 rfl ts38 rfl rfl (At.whole (H2.box 0 rfl))) (sV rfl (py_buildS Tryz_pl66 rfl rfl) (s_stoS (wn rfl) ts66 rfl rfl rfl rfl H2 1 rfl rfl (fun w3 e3 H3 => ?_))))))
   dsimp only [lNA, lCA, lSZ, lSS, layL] at H3
   refine s_nil (W_ret (hQ _ _ (finC Tryz.results123 rfl (run_loadVarS tu66 rfl ts66 rfl (At.whole (H3.box 1 rfl))) ?_)))
   exact ⟨H3.ext, rfl⟩
 ·try simp only [decide_eq_true_eq, decide_eq_false_iff_not] at hg1
  refine sKf rfl rfl rfl (sKf rfl rfl rfl (sV rfl (py_pickF rfl rfl) (s_nil (W_iff rfl (W_skip (W_sr (sM rfl rfl (sV rfl (py_loadS tu38 rfl ts38 rfl rfl (At.whole (H2.box 0 rfl))) (sV rfl (py_buildS Tryz_pl66 rfl rfl) (s_stoS (wn rfl) ts66 rfl rfl rfl rfl H2 1 rfl rfl (fun w4 e4 H4 => ?_)))))))))))
  dsimp only [lNA, lCA, lSZ, lSS, layL] at H4
  refine s_nil (W_ret (hQ _ _ (finC Tryz.results123 rfl (run_loadVarS tu66 rfl ts66 rfl (At.whole (H4.box 1 rfl))) ?_)))
  exact ⟨H4.ext, rfl⟩
theorem Tryz_spec_l5Raw {w : World} {z : Wld} {zb : Nat} {fp : List Nat} (o : OwnW w zb 38 z fp) (nd : fp.Nodup) (hd : z.Down = false) (hw : z.Writes ≤ 2000000000) : Ret Tryz.prog 198 #[.pointer (some ⟨zb, 0, none⟩)] w fun v w' => (v = .bool (!noPower z) ∧ MutW w w' fp zb 38 (rawW z z)) := by
 refine ret_Q (vs := [.pointer (some ⟨zb, 0, none⟩)]) Tryz.func198 rfl Tryz.ntmps198 rfl (fun Q hQ hN => ?_)
 have H0 := Sep.beginW o nd
 refine W_sr (sA rfl rfl (s_nil (W_seq (W_seq ?_))))
 obtain ⟨wA1, wC1, wA2, wC2, wA3, wC3, wf1, wf2, wf3, wok1, H1⟩ := H0.openW 0 rfl
 try dsimp only [lNA, lCA, lSZ, lSS] at H1
 have wok1U := wok1
 unfold Wld.Ok Shape.Ok I64ok at wok1U
 have wL1 := oL (H1.mine 2 rfl)
 have wL2 := oL (H1.mine 3 rfl)
 have wL3 := oL (H1.mine 4 rfl)
 refine W_reg (sM rfl rfl (sV rfl (py_nil rfl) (sV rfl (py_field tu38 rfl ts4 rfl rfl) (sV rfl (py_load tu4 rfl rfl (cell_atL (H1.box 0 rfl) rfl)) (s_nil (W_if rfl (fun c1 => ?_) (fun c1 => ?_)))))))
 ·exfalso; simp_all
 ·refine W_skip (W_seq (W_seq (W_drw (S := Ext No _) [(0, true), (1, true), (2, true), (3, true), (4, true), (5, true), (6, true), (7, true), (8, true), (9, true), (10, true), (11, true), (12, true), (13, true), (14, true), (15, false)] (by kernel_rfl) (by kernel_rfl) (by kernel_rfl) rfl (fun _ => Ext.refl.drawn _) (fun q1 => ?_))))
  have H2 := H1.drawn q1
  refine dM rfl rfl rfl (dV rfl rfl (fun zw hx => py_nil rfl) (dV rfl rfl (fun zw hx => py_field tu38 rfl ts2 rfl rfl) (dV rfl rfl (fun zw hx => py_load tu2 rfl rfl (cell_atL (hx.heap (H2.box 0 rfl)) rfl)) (dV rfl rfl (fun zw hx => py_neq rfl rfl) (dM rfl rfl rfl (d_case (t := 12) rfl (fun hg1 => ?_) (fun hg1 => ?_)))))))
  ·try simp only [decide_eq_true_eq, decide_eq_false_iff_not] at hg1
   refine d_val rfl (wg rfl rfl rfl) rfl rfl (fun zw hx => py_move rfl) (d_val rfl (wg rfl rfl rfl) rfl rfl (fun zw hx => py_nil rfl) (d_val rfl (wg rfl rfl rfl) rfl rfl (fun zw hx => py_field tu38 rfl ts2 rfl rfl) (d_val rfl (wg rfl rfl rfl) rfl rfl (fun zw hx => py_load tu2 rfl rfl (cell_atL (hx.heap (H2.box 0 rfl)) rfl)) (d_val rfl (wg rfl rfl rfl) rfl rfl (fun zw hx => py_move rfl) (d_val rfl (wg rfl rfl rfl) rfl rfl (fun zw hx => py_nil rfl) (d_val rfl (wg rfl rfl rfl) rfl rfl (fun zw hx => py_field tu38 rfl ts2 rfl rfl) (d_val rfl (wg rfl rfl rfl) rfl rfl (fun zw hx => py_load tu2 rfl rfl (cell_atL (hx.heap (H2.box 0 rfl)) rfl)) (d_val rfl (wg rfl rfl rfl) rfl rfl (fun zw hx => py_geq rfl rfl) (d_end rfl (wn rfl) rfl rfl (py_pickT rfl rfl) (d_nil (W_ifd rfl (fun c2 => ?_) (fun c2 => ?_))))))))))))
   ·refine W_seq ?_
    have hnp : noPower z = true := noPower_yes (by omega) (by omega)
    refine W_reg (sM rfl rfl (sV rfl (py_nil rfl) (sV rfl (py_field tu38 rfl ts4 rfl rfl) (s_sto (wn rfl) ts4 rfl rfl rfl H2 0 rfl rfl (fun w1 e1 H3 => ?_)))))
    dsimp only [lNA, lCA, lSZ, lSS, layL] at H3
    refine s_nil (W_sr (sM rfl rfl (sV rfl (py_nil rfl) (sV rfl (py_field tu38 rfl ts25 rfl rfl) (s_sto (wn rfl) ts25 rfl rfl rfl H3 0 rfl rfl (fun w2 e2 H4 => ?_))))))
    dsimp only [lNA, lCA, lSZ, lSS, layL] at H4
    refine s_nil (W_sr (sA rfl rfl (s_nil (rT hQ Tryz.results198 rfl ?_))))
    have H5 := H4.nilW (α := Int)
    try dsimp only [lNA, lCA, lSZ, lSS] at H5
    obtain ⟨fp1, H6⟩ := H5.closeW 0 2 5 4 (cutW z) rfl rfl rfl rfl rfl rfl rfl rfl rfl rfl (cutW_ok wok1)
    try dsimp only [lNA, lCA, lSZ, lSS] at H6
    have hz := H6.doneW
    rw [← rawW_no (y := z) hnp] at hz
    exact ⟨(by rw [hnp]; rfl), hz⟩
   ·refine W_skip (W_seq ?_)
    have hnp : noPower z = false := noPower_no (.inr (by omega))
    refine W_reg (sM rfl rfl (sM rfl rfl (sV rfl (py_nil rfl) (sV rfl (py_field tu38 rfl ts2 rfl rfl) (sV rfl (py_load tu2 rfl rfl (cell_atL (H2.box 0 rfl) rfl)) (sV rfl (py_add rfl rfl (in64 ⟨by omega, by omega⟩)) (sV rfl (py_nil rfl) (sV rfl (py_field tu38 rfl ts2 rfl rfl) (s_sto (wn rfl) ts2 rfl rfl rfl H2 0 rfl rfl (fun w3 e3 H7 => ?_))))))))))
    dsimp only [lNA, lCA, lSZ, lSS, layL] at H7
    refine s_nil (W_sr (sA rfl rfl (s_nil (rT hQ Tryz.results198 rfl ?_))))
    obtain ⟨fp2, H8⟩ := H7.closeW 0 2 3 4 (tickW z) rfl rfl rfl rfl rfl rfl rfl rfl rfl rfl (tickW_ok wok1 hw)
    try dsimp only [lNA, lCA, lSZ, lSS] at H8
    have hz := H8.doneW
    rw [← rawW_yes hnp] at hz
    exact ⟨(by rw [hnp]; rfl), hz⟩
  ·try simp only [decide_eq_true_eq, decide_eq_false_iff_not] at hg1
   refine dKf rfl rfl rfl rfl (dKf rfl rfl rfl rfl (dKf rfl rfl rfl rfl (dKf rfl rfl rfl rfl (dKf rfl rfl rfl rfl (dKf rfl rfl rfl rfl (dKf rfl rfl rfl rfl (dKf rfl rfl rfl rfl (dKf rfl rfl rfl rfl (d_end rfl (wn rfl) rfl rfl (py_pickF rfl rfl) (d_nil (W_iff rfl (W_skip (W_seq ?_)))))))))))))
   have hnp : noPower z = false := noPower_no (.inl (by omega))
   refine W_reg (sM rfl rfl (sM rfl rfl (sV rfl (py_nil rfl) (sV rfl (py_field tu38 rfl ts2 rfl rfl) (sV rfl (py_load tu2 rfl rfl (cell_atL (H2.box 0 rfl) rfl)) (sV rfl (py_add rfl rfl (in64 ⟨by omega, by omega⟩)) (sV rfl (py_nil rfl) (sV rfl (py_field tu38 rfl ts2 rfl rfl) (s_sto (wn rfl) ts2 rfl rfl rfl H2 0 rfl rfl (fun w4 e4 H9 => ?_))))))))))
   dsimp only [lNA, lCA, lSZ, lSS, layL] at H9
   refine s_nil (W_sr (sA rfl rfl (s_nil (rT hQ Tryz.results198 rfl ?_))))
   obtain ⟨fp3, H10⟩ := H9.closeW 0 2 3 4 (tickW z) rfl rfl rfl rfl rfl rfl rfl rfl rfl rfl (tickW_ok wok1 hw)
   try dsimp only [lNA, lCA, lSZ, lSS] at H10
   have hz := H10.doneW
   rw [← rawW_yes hnp] at hz
   exact ⟨(by rw [hnp]; rfl), hz⟩
theorem Tryz_spec_l7Append {w : World} {z : Wld} {zb t rC6 rC7 rC8 : Nat} {fp rF6 rF7 rF8 : List Nat} {r : Rec} {rA6 rA7 rA8 : Option Addr} (o : OwnW w zb 38 z fp) (nd : fp.Nodup) (rK : r.Ok) (rO6 : own false w [.slice rA6 r.Rows.length rC6] r.Rows rF6) (rD6 : ∀ b ∈ rF6, b ∉ fp) (rO7 : own false w [.slice rA7 r.Data.length rC7] r.Data rF7) (rD7 : ∀ b ∈ rF7, b ∉ fp) (rO8 : own false w [.slice rA8 r.Delta.length rC8] r.Delta rF8) (rD8 : ∀ b ∈ rF8, b ∉ fp) (hd : z.Down = false) (ht : t < z.Tapes.length) (hb : szRec r ≤ 1048576) (hl : (z.Tapes.getD t default).Recs.length ≤ 100000) (hw : z.Writes ≤ 2000000000) : Ret Tryz.prog 215 #[.pointer (some ⟨zb, 0, none⟩), .int .i64 t, r.val rA6 rC6 rA7 rC7 rA8 rC8] w fun v w' => (v = .bool (!noPower z) ∧ MutW w w' fp zb 38 (appW t r z)) := by
 have rK2 := rK
 unfold Rec.Ok at rK2
 try unfold I64ok at rK2
 try unfold maxLen at rK2
 have rN2 : r.Name.size ≤ maxLen := by unfold maxLen; omega
 have rL6 := oL rO6
 have rL7 := oL rO7
 have rL8 := oL rO8
 refine ret_Q (vs := [.pointer (some ⟨zb, 0, none⟩), .int .i64 t, r.val rA6 rC6 rA7 rC7 rA8 rC8]) Tryz.func215 rfl Tryz.ntmps215 rfl (fun Q hQ hN => ?_)
 have H0 := (((Sep.beginW o nd).seeF (rO6) rD6).seeF (rO7) rD7).seeF (rO8) rD8
 try dsimp only [lNA, lCA, lSZ, lSS] at H0
 refine W_sr (s_box (wn rfl) rfl rfl H0 (fun b1 w1 e1 g1 H1 => ?_))
 refine sA rfl rfl (s_nil (W_seq (W_sr (sM rfl rfl (s_call (wn rfl) rfl rfl (pc_call Tryz.func198 rfl Tryz_nm198 rfl) (Tryz_spec_l5Raw (H1.wldAt 0 rfl) (H1.nodup1 (i := 0) rfl) (by first | assumption | omega) (by first | assumption | omega)) (fun v1 w2 r1 => ?_))))))
 obtain ⟨rfl, mm1⟩ := r1
 obtain ⟨fp1, H2⟩ := H1.mutW 0 rfl mm1
 try dsimp only [lNA, lCA, lSZ, lSS] at H2
 refine sV rfl (py_not rfl) (s_nil (W_if rfl (fun c1 => ?_) (fun c1 => ?_)))
 ·refine W_sr (sA rfl rfl (s_nil (rT hQ Tryz.results215 rfl ?_)))
  have hnp : noPower z = true := by simpa using c1
  have hz := H2.doneW
  rw [rawW_no hnp] at hz
  exact ⟨(by rw [hnp]; rfl), (by unfold appW; rw [rawW_no hnp]; exact hz)⟩
 ·refine W_skip (W_seq ?_)
  have hnp : noPower z = false := by simpa using c1
  obtain ⟨z1, hz1⟩ : ∃ z1, z1 = tickW z := ⟨_, rfl⟩
  have HZ := H2
  rw [rawW_yes hnp, ← hz1] at HZ
  have ht1 : t < z1.Tapes.length := by rw [hz1]; exact ht
  have hl1 : (z1.Tapes.getD t default).Recs.length ≤ 100000 := by rw [hz1]; exact hl
  obtain ⟨wA1, wC1, wA2, wC2, wA3, wC3, wf1, wf2, wf3, wok1, H3⟩ := HZ.openW 0 rfl
  try dsimp only [lNA, lCA, lSZ, lSS] at H3
  have wok1U := wok1
  unfold Wld.Ok Shape.Ok I64ok at wok1U
  have wL1 := oL (H3.mine 3 rfl)
  have wL2 := oL (H3.mine 4 rfl)
  have wL3 := oL (H3.mine 5 rfl)
  obtain ⟨eb1, eo1, eT1, eF1, eG1, ea1, ek1, eg1, ee1, eK1, eH1⟩ := Tape.focus H3 5 rfl t (by omega)
  have eK1U := eK1
  unfold Tape.Ok at eK1U
  try unfold I64ok at eK1U
  try unfold maxLen at eK1U
  try dsimp only [lNA, lCA, lSZ, lSS] at eH1
  refine W_drw (S := eH1.S2 5 7) [(0, true), (1, true), (2, true), (3, true), (4, true), (5, true), (6, true), (7, true), (8, true), (9, true), (10, true), (11, true), (13, true), (1007, false), (12, false), (14, false), (15, false), (16, false), (17, true), (18, true), (19, false), (14, false), (1006, false), (12, false), (15, false), (16, false), (17, true), (18, true), (19, false), (15, false), (12, false), (16, false), (17, true), (18, true), (19, false)] (by kernel_rfl) (by kernel_rfl) (by kernel_rfl) rfl (fun _ => show eH1.S2 5 7 _ from Ext.refl.drawn _) (fun q1 => ?_)
  have H4 := eH1.drawn q1
  refine dM rfl rfl rfl (dV rfl rfl (fun zw hx => py_nil rfl) (dV rfl rfl (fun zw hx => py_field tu38 rfl ts36 rfl rfl) (dV rfl rfl (fun zw hx => py_load tu36 rfl rfl (cell_atL (eH1.s2Box hx 0 rfl rfl rfl rfl rfl) rfl)) (dM rfl rfl rfl (dM rfl rfl rfl (dV rfl rfl (fun zw hx => py_nil rfl) (dV rfl rfl (fun zw hx => py_field tu38 rfl ts36 rfl rfl) (dV rfl rfl (fun zw hx => py_load tu36 rfl rfl (cell_atL (eH1.s2Box hx 0 rfl rfl rfl rfl rfl) rfl)) (dM rfl rfl rfl (dV rfl rfl (fun zw hx => py_elz tu36 ts139 rfl rfl ee1 t (by omega) (by omega)) (dV rfl rfl (fun zw hx => py_field tu139 rfl ts30 rfl rfl) (dV rfl rfl (fun zw hx => py_loadS tu68 rfl ts68 rfl rfl (At.whole (eH1.s2Box hx 1 rfl rfl rfl rfl rfl))) (d_fork (l1 := [(12, false), (14, false), (15, false), (16, false), (17, true), (18, true), (19, false)]) (l2 := [(14, false), (1006, false), (12, false), (15, false), (16, false), (17, true), (18, true), (19, false), (15, false), (12, false), (16, false), (17, true), (18, true), (19, false)]) rfl rfl rfl rfl ?_ ?_)))))))))))))
  ·refine d_end rfl (wn rfl) rfl rfl (py_load tu30 rfl rfl (at_cell (H4.holAt 5 rfl) 1 rfl)) (d_call rfl (wn rfl) rfl rfl (pc_call Tryz.func65 rfl Tryz_nm65 rfl) (Tryz_spec_l5CopyRec (by assumption) (H4.sees 0 rfl) (H4.sees 1 rfl) (H4.sees 2 rfl) (by first | assumption | omega)) (fun hS _ _ r _ => eH1.s2Call hS r.1) (fun v2 w3 r2 => ?_))
   obtain ⟨e3, sa1, sk1, sa2, sk2, sa3, sk3, rfl, r2⟩ := r2
   obtain ⟨fp2, H5⟩ := H4.res e3 r2
   refine d_lit1 rfl (wn rfl) rfl tu30 Tryz_ty68 rfl rfl rfl rfl H5 (fun _ h e => eH1.s2Call h e) (fun b2 w4 e4 g2 H6 => ?_)
   refine d_app2 rfl (wn rfl) rfl tu30 Tryz_ty68 rfl rfl rfl H6 7 9 8 rfl rfl rfl rfl (by unfold maxLen; omega) (by omega) (fun _ h e => eH1.s2In h 7 rfl (.inr rfl) e (fun _ hb => hb)) (fun v3 w5 fp3 H7 => ?_)
   refine dV rfl rfl (fun zw hx => py_elz tu36 ts139 rfl rfl ee1 t (by omega) (by omega)) (dV rfl rfl (fun zw hx => py_field tu139 rfl ts30 rfl rfl) ?_)
   obtain ⟨a1, k1, q2⟩ := own_slice (H7.mine 7 rfl)
   cases q2
   refine d_hsto rfl (wn rfl) ts30 H7 5 1 rfl rfl rfl rfl rfl (fun _ h e _ => eH1.s2In h 5 rfl (.inl rfl) e (fun _ hb => by rw [hb]; exact List.mem_cons_self)) (fun w6 H8 => ?_)
   dsimp only [lNA, lCA, lSZ, lSS, layL] at H8
   refine d_nil (W_sr (sM rfl rfl (sV rfl (py_nil rfl) (sV rfl (py_field tu38 rfl ts36 rfl rfl) (sV rfl (py_load tu36 rfl rfl (cell_atL (H8.box 0 rfl) rfl)) (sM rfl rfl (sV rfl (py_elz tu36 ts139 rfl rfl ee1 t (by omega) (by omega)) (sV rfl (py_field tu139 rfl ts4 rfl rfl) (s_hsto (wn rfl) ts4 H8 5 0 rfl rfl rfl rfl rfl (fun w7 H9 => ?_))))))))))
   dsimp only [lNA, lCA, lSZ, lSS, layL] at H9
   refine s_nil (W_sr (sA rfl rfl (s_nil (rT hQ Tryz.results215 rfl ?_))))
   obtain ⟨fp4, H10⟩ := Tape.fill H9 5 7 rfl rfl rfl trivial
   try dsimp only [lNA, lCA, lSZ, lSS] at H10
   obtain ⟨fp5, H11⟩ := H10.closeW 0 3 4 5 (layT t r z1) rfl rfl rfl rfl rfl rfl rfl rfl rfl rfl (layT_ok wok1)
   try dsimp only [lNA, lCA, lSZ, lSS] at H11
   have hz := H11.doneW
   rw [show layT t r z1 = appW t r z from by unfold appW; rw [rawW_yes hnp, hz1]; rfl] at hz
   exact ⟨(by rw [hnp]; rfl), hz⟩
  ·refine d_call rfl (wn rfl) rfl rfl (pc_call Tryz.func65 rfl Tryz_nm65 rfl) (Tryz_spec_l5CopyRec (by assumption) (H4.sees 0 rfl) (H4.sees 1 rfl) (H4.sees 2 rfl) (by first | assumption | omega)) (fun hS _ _ r _ => eH1.s2Call hS r.1) (fun v4 w8 r3 => ?_)
   obtain ⟨e7, sa4, sk4, sa5, sk5, sa6, sk6, rfl, r3⟩ := r3
   obtain ⟨fp6, H12⟩ := H4.res e7 r3
   refine d_fork (l1 := [(12, false), (15, false), (16, false), (17, true), (18, true), (19, false)]) (l2 := [(15, false), (12, false), (16, false), (17, true), (18, true), (19, false)]) rfl rfl rfl rfl ?_ ?_
   ·refine d_end rfl (wn rfl) rfl rfl (py_load tu30 rfl rfl (at_cell (H12.holAt 5 rfl) 1 rfl)) (d_lit1 rfl (wn rfl) rfl tu30 Tryz_ty68 rfl rfl rfl rfl H12 (fun _ h e => eH1.s2Call h e) (fun b3 w9 e8 g3 H13 => ?_))
    refine d_app2 rfl (wn rfl) rfl tu30 Tryz_ty68 rfl rfl rfl H13 7 9 8 rfl rfl rfl rfl (by unfold maxLen; omega) (by omega) (fun _ h e => eH1.s2In h 7 rfl (.inr rfl) e (fun _ hb => hb)) (fun v5 w10 fp7 H14 => ?_)
    refine dV rfl rfl (fun zw hx => py_elz tu36 ts139 rfl rfl ee1 t (by omega) (by omega)) (dV rfl rfl (fun zw hx => py_field tu139 rfl ts30 rfl rfl) ?_)
    obtain ⟨a2, k2, q3⟩ := own_slice (H14.mine 7 rfl)
    cases q3
    refine d_hsto rfl (wn rfl) ts30 H14 5 1 rfl rfl rfl rfl rfl (fun _ h e _ => eH1.s2In h 5 rfl (.inl rfl) e (fun _ hb => by rw [hb]; exact List.mem_cons_self)) (fun w11 H15 => ?_)
    dsimp only [lNA, lCA, lSZ, lSS, layL] at H15
    refine d_nil (W_sr (sM rfl rfl (sV rfl (py_nil rfl) (sV rfl (py_field tu38 rfl ts36 rfl rfl) (sV rfl (py_load tu36 rfl rfl (cell_atL (H15.box 0 rfl) rfl)) (sM rfl rfl (sV rfl (py_elz tu36 ts139 rfl rfl ee1 t (by omega) (by omega)) (sV rfl (py_field tu139 rfl ts4 rfl rfl) (s_hsto (wn rfl) ts4 H15 5 0 rfl rfl rfl rfl rfl (fun w12 H16 => ?_))))))))))
    dsimp only [lNA, lCA, lSZ, lSS, layL] at H16
    refine s_nil (W_sr (sA rfl rfl (s_nil (rT hQ Tryz.results215 rfl ?_))))
    obtain ⟨fp8, H17⟩ := Tape.fill H16 5 7 rfl rfl rfl trivial
    try dsimp only [lNA, lCA, lSZ, lSS] at H17
    obtain ⟨fp9, H18⟩ := H17.closeW 0 3 4 5 (layT t r z1) rfl rfl rfl rfl rfl rfl rfl rfl rfl rfl (layT_ok wok1)
    try dsimp only [lNA, lCA, lSZ, lSS] at H18
    have hz := H18.doneW
    rw [show layT t r z1 = appW t r z from by unfold appW; rw [rawW_yes hnp, hz1]; rfl] at hz
    exact ⟨(by rw [hnp]; rfl), hz⟩
   ·refine d_lit1 rfl (wn rfl) rfl tu30 Tryz_ty68 rfl rfl rfl rfl H12 (fun _ h e => eH1.s2Call h e) (fun b4 w13 e11 g4 H19 => ?_)
    refine d_end rfl (wn rfl) rfl rfl (py_load tu30 rfl rfl (at_cell (H19.holAt 5 rfl) 1 rfl)) (d_app2 rfl (wn rfl) rfl tu30 Tryz_ty68 rfl rfl rfl H19 7 9 8 rfl rfl rfl rfl (by unfold maxLen; omega) (by omega) (fun _ h e => eH1.s2In h 7 rfl (.inr rfl) e (fun _ hb => hb)) (fun v6 w14 fp10 H20 => ?_))
    refine dV rfl rfl (fun zw hx => py_elz tu36 ts139 rfl rfl ee1 t (by omega) (by omega)) (dV rfl rfl (fun zw hx => py_field tu139 rfl ts30 rfl rfl) ?_)
    obtain ⟨a3, k3, q4⟩ := own_slice (H20.mine 7 rfl)
    cases q4
    refine d_hsto rfl (wn rfl) ts30 H20 5 1 rfl rfl rfl rfl rfl (fun _ h e _ => eH1.s2In h 5 rfl (.inl rfl) e (fun _ hb => by rw [hb]; exact List.mem_cons_self)) (fun w15 H21 => ?_)
    dsimp only [lNA, lCA, lSZ, lSS, layL] at H21
    refine d_nil (W_sr (sM rfl rfl (sV rfl (py_nil rfl) (sV rfl (py_field tu38 rfl ts36 rfl rfl) (sV rfl (py_load tu36 rfl rfl (cell_atL (H21.box 0 rfl) rfl)) (sM rfl rfl (sV rfl (py_elz tu36 ts139 rfl rfl ee1 t (by omega) (by omega)) (sV rfl (py_field tu139 rfl ts4 rfl rfl) (s_hsto (wn rfl) ts4 H21 5 0 rfl rfl rfl rfl rfl (fun w16 H22 => ?_))))))))))
    dsimp only [lNA, lCA, lSZ, lSS, layL] at H22
    refine s_nil (W_sr (sA rfl rfl (s_nil (rT hQ Tryz.results215 rfl ?_))))
    obtain ⟨fp11, H23⟩ := Tape.fill H22 5 7 rfl rfl rfl trivial
    try dsimp only [lNA, lCA, lSZ, lSS] at H23
    obtain ⟨fp12, H24⟩ := H23.closeW 0 3 4 5 (layT t r z1) rfl rfl rfl rfl rfl rfl rfl rfl rfl rfl (layT_ok wok1)
    try dsimp only [lNA, lCA, lSZ, lSS] at H24
    have hz := H24.doneW
    rw [show layT t r z1 = appW t r z from by unfold appW; rw [rawW_yes hnp, hz1]; rfl] at hz
    exact ⟨(by rw [hnp]; rfl), hz⟩
theorem Tryz_spec_l7Lay {w : World} {z : Wld} {zb rC6 rC7 rC8 : Nat} {fp rF6 rF7 rF8 : List Nat} {r : Rec} {rA6 rA7 rA8 : Option Addr} (o : OwnW w zb 38 z fp) (nd : fp.Nodup) (rK : r.Ok) (rO6 : own false w [.slice rA6 r.Rows.length rC6] r.Rows rF6) (rD6 : ∀ b ∈ rF6, b ∉ fp) (rO7 : own false w [.slice rA7 r.Data.length rC7] r.Data rF7) (rD7 : ∀ b ∈ rF7, b ∉ fp) (rO8 : own false w [.slice rA8 r.Delta.length rC8] r.Delta rF8) (rD8 : ∀ b ∈ rF8, b ∉ fp) (hf : layFull z = false) (hd : z.Down = false) (hT : z.Tapes.length = 2) (hb : szRec r ≤ 1048576) (hw : z.Writes ≤ 1500000000) : Ret Tryz.prog 225 #[.pointer (some ⟨zb, 0, none⟩), r.val rA6 rC6 rA7 rC7 rA8 rC8] w fun v w' => (v = .bool (layOK z r) ∧ MutW w w' fp zb 38 (layW z r)) := by
 have rK2 := rK
 unfold Rec.Ok at rK2
 try unfold I64ok at rK2
 try unfold maxLen at rK2
 have rN2 : r.Name.size ≤ maxLen := by unfold maxLen; omega
 have rL6 := oL rO6
 have rL7 := oL rO7
 have rL8 := oL rO8
 have aw := (appW_writes (t := 0) (r := r) (z := z)).2
 have at_ := appW_tapes (t := 0) (r := r) (z := z)
 have ar := appW_recs (t := 0) (u := 1) (r := r) (z := z)
 have fn_ := full_not hf
 refine ret_Q (vs := [.pointer (some ⟨zb, 0, none⟩), r.val rA6 rC6 rA7 rC7 rA8 rC8]) Tryz.func225 rfl Tryz.ntmps225 rfl (fun Q hQ hN => ?_)
 have H0 := (((Sep.beginW o nd).seeF (rO6) rD6).seeF (rO7) rD7).seeF (rO8) rD8
 try dsimp only [lNA, lCA, lSZ, lSS] at H0
 refine W_sr (s_box (wn rfl) rfl rfl H0 (fun b1 w1 e1 g1 H1 => ?_))
 refine sA rfl rfl (s_nil (W_sr (sM rfl rfl (sV rfl (py_loadS tu68 rfl ts68 rfl rfl (At.whole (H1.box 1 rfl))) (s_call (wn rfl) rfl rfl (pc_call Tryz.func215 rfl Tryz_nm215 rfl) (Tryz_spec_l7Append (H1.wldAt 0 rfl) (H1.nodup1 (i := 0) rfl) (by assumption) (own_weak (H1.seen 0 rfl)) (fun b hb => H1.off 0 rfl 0 rfl hb) (own_weak (H1.seen 1 rfl)) (fun b hb => H1.off 1 rfl 0 rfl hb) (own_weak (H1.seen 2 rfl)) (fun b hb => H1.off 2 rfl 0 rfl hb) (by first | assumption | omega) (by first | assumption | omega) (by first | assumption | omega) (by first | assumption | omega) (by first | assumption | omega) (t := 0)) (fun v1 w2 r1 => ?_))))))
 obtain ⟨rfl, mm1⟩ := r1
 obtain ⟨fp1, H2⟩ := H1.mutW 0 rfl mm1
 try dsimp only [lNA, lCA, lSZ, lSS] at H2
 refine sM rfl rfl (s_case (t := 8) rfl (fun hg1 => ?_) (fun hg1 => ?_))
 ·have hnp0 : noPower z = false := by simpa using hg1
  have ad : (appW 0 r z).Down = false := (appW_down (t := 0) (r := r) hnp0).trans hd
  refine s_val (wg rfl rfl rfl) rfl rfl (py_move rfl) (s_val (wg rfl rfl rfl) rfl rfl (py_loadS tu68 rfl ts68 rfl rfl (At.whole (H2.box 1 rfl))) (s_call (wg rfl rfl rfl) rfl rfl (pc_call Tryz.func215 rfl Tryz_nm215 rfl) (Tryz_spec_l7Append (H2.wldAt 0 rfl) (H2.nodup1 (i := 0) rfl) (by assumption) (own_weak (H2.seen 0 rfl)) (fun b hb => H2.off 0 rfl 0 rfl hb) (own_weak (H2.seen 1 rfl)) (fun b hb => H2.off 1 rfl 0 rfl hb) (own_weak (H2.seen 2 rfl)) (fun b hb => H2.off 2 rfl 0 rfl hb) (by first | assumption | omega) (by first | assumption | omega) (by first | assumption | omega) (by first | assumption | omega) (by first | assumption | omega) (t := 1)) (fun v2 w3 r2 => ?_)))
  obtain ⟨rfl, mm2⟩ := r2
  obtain ⟨fp2, H3⟩ := H2.mutW 0 rfl mm2
  try dsimp only [lNA, lCA, lSZ, lSS] at H3
  refine sV rfl (py_pickT rfl rfl) (sA rfl rfl (s_nil (rT hQ Tryz.results225 rfl ?_)))
  have hnp : noPower z = false := by simpa using hg1
  have hz := H3.doneW
  rw [← (layW_yes (r := r) hnp).1] at hz
  exact ⟨(by rw [(layW_yes (r := r) hnp).2]), hz⟩
 ·try simp only [decide_eq_true_eq, decide_eq_false_iff_not] at hg1
  refine sKf rfl rfl rfl (sKf rfl rfl rfl (sKf rfl rfl rfl (sV rfl (py_pickF rfl rfl) (sA rfl rfl (s_nil (rT hQ Tryz.results225 rfl ?_))))))
  have hnp : noPower z = true := by simpa using hg1
  have hz := H2.doneW
  rw [← (layW_no (r := r) hnp).1] at hz
  exact ⟨(by rw [(layW_no (r := r) hnp).2]), hz⟩
end Go.Wk
namespace Go.Wk
open Rp (sz own)
section
variable {α : Type} [Inhabited α] {f : α → Nat} {xs : List α} {y : α} {i : Nat}
theorem mkL_set2 (h : i < xs.length) : mkL f (xs.set i y) + f (xs.getD i default) = mkL f xs + f y := by
  unfold mkL
  rw [List.length_set]
  have e1 : sumN (fun j => f ((xs.set i y).getD j default) + (if j = i then f (xs.getD i default) else 0)) xs.length = sumN (fun j => f (xs.getD j default) + (if j = i then f y else 0)) xs.length :=
    sumN_congr fun j hj => by
      rw [getD_set]
      by_cases e : j = i
      · subst e; rw [if_pos ⟨rfl, h⟩, if_pos rfl, if_pos rfl]; omega
      · rw [if_neg (fun q => e q.1), if_neg e, if_neg e]
  rw [sumN_plus, sumN_plus, sumN_one, sumN_one, if_pos h, if_pos h] at e1
  exact e1
end
def doneR (s g : Int) : Rec := ⟨3, s, ⟨#[]⟩, 0, g, 0, [], [], []⟩
def layC (z : Wld) (r : Rec) : Int := if layFull z = true then 2 else if layOK z r = true then 0 else 9
def layZ (z : Wld) (r : Rec) : Wld := if layFull z = true then z else layW z r
def dropL (z : Wld) : List Rec → Int × Wld
  | [] => (0, z)
  | r :: rs => if layC z (doneR r.Seq r.Group) = 0 then dropL (layZ z (doneR r.Seq r.Group)) rs else (layC z (doneR r.Seq r.Group), layZ z (doneR r.Seq r.Group))
section
variable {z : Wld} {r : Rec} {rs : List Rec} {t : Nat}
theorem layC_bd : layC z r = 0 ∨ layC z r = 2 ∨ layC z r = 9 := by
  unfold layC; split
  · exact .inr (.inl rfl)
  · split
    · exact .inl rfl
    · exact .inr (.inr rfl)
theorem layC_full (h : layFull z = true) : layC z r = 2 ∧ layZ z r = z := ⟨if_pos h, if_pos h⟩
theorem layC_not (h : layFull z = false) : layC z r = (if layOK z r = true then 0 else 9) ∧ layZ z r = layW z r := ⟨if_neg (by simp [h]), if_neg (by simp [h])⟩
theorem dropL_go (h : layC z (doneR r.Seq r.Group) = 0) : dropL z (r :: rs) = dropL (layZ z (doneR r.Seq r.Group)) rs := by rw [dropL, if_pos h]
theorem dropL_stop (h : layC z (doneR r.Seq r.Group) ≠ 0) : dropL z (r :: rs) = (layC z (doneR r.Seq r.Group), layZ z (doneR r.Seq r.Group)) := by rw [dropL, if_neg h]
theorem drop_at {i : Nat} (h : i < rs.length) : rs.drop i = rs.getD i default :: rs.drop (i + 1) := by
  rw [getD_el h]; exact List.drop_eq_getElem_cons h
theorem dropL_end {i : Nat} (h : ¬ i < rs.length) : dropL z (rs.drop i) = (0, z) := by rw [List.drop_of_length_le (by omega)]; rfl
theorem dropL_bd : ∀ {rs : List Rec} {z : Wld}, (dropL z rs).1 = 0 ∨ (dropL z rs).1 = 2 ∨ (dropL z rs).1 = 9
  | [], _ => .inl rfl
  | r :: rs, z => by
    by_cases h : layC z (doneR r.Seq r.Group) = 0
    · rw [dropL_go h]; exact dropL_bd
    · rw [dropL_stop h]; exact layC_bd
theorem mk_app2 (h : t < z.Tapes.length) : mkWld (appW t r z) ≤ mkWld z + mkRec r := by
  unfold appW rawW; split
  · have := mk_cut (z := z); omega
  · have h1 := mkL_set2 (f := mkTape) (xs := z.Tapes) (i := t) (y := ⟨false, (z.Tapes.getD t default).Recs ++ [r]⟩) h
    have h3 : mkTape ⟨false, (z.Tapes.getD t default).Recs ++ [r]⟩ = mkTape (z.Tapes.getD t default) + mkRec r := by
      unfold mkTape; dsimp only; rw [mkL_snoc]; omega
    unfold mkWld tickW layT; dsimp only; omega
theorem mk_lay2 (h : z.Tapes.length = 2) : mkWld (layW z r) ≤ mkWld z + 2 * mkRec r := by
  unfold layW; split
  · have := mk_cut (z := z); omega
  · have h1 := mk_app2 (t := 0) (r := r) (z := z) (by omega)
    have h2 := mk_app2 (t := 1) (r := r) (z := appW 0 r z) (by rw [appW_tapes]; omega)
    omega
theorem layW_tapes : (layW z r).Tapes.length = z.Tapes.length := by
  unfold layW; split
  · rfl
  · rw [appW_tapes, appW_tapes]
theorem layW_writes : z.Writes ≤ (layW z r).Writes ∧ (layW z r).Writes ≤ z.Writes + 2 := by
  unfold layW; split
  · show z.Writes ≤ z.Writes ∧ z.Writes ≤ z.Writes + 2; omega
  · have h1 := appW_writes (t := 0) (r := r) (z := z)
    have h2 := appW_writes (t := 1) (r := r) (z := appW 0 r z)
    omega
theorem layW_recs {u : Nat} : ((layW z r).Tapes.getD u default).Recs.length ≤ (z.Tapes.getD u default).Recs.length + 2 := by
  unfold layW; split
  · show (z.Tapes.getD u default).Recs.length ≤ _; omega
  · have h1 := appW_recs (t := 0) (u := u) (r := r) (z := z)
    have h2 := appW_recs (t := 1) (u := u) (r := r) (z := appW 0 r z)
    omega
theorem layW_down (h : layOK z r = true) : (layW z r).Down = z.Down := by
  unfold layOK at h
  simp only [Bool.and_eq_true, Bool.not_eq_true'] at h
  rw [(layW_yes h.1).1, appW_down h.2, appW_down h.1]
theorem layW_ok2 (h : z.Ok) (h2 : z.Writes ≤ 1500000000) : (layW z r).Ok := by
  unfold layW; split
  · exact cutW_ok h
  · have := appW_writes (t := 0) (r := r) (z := z)
    exact appW_ok (appW_ok h (by omega)) (by omega)
theorem doneR_ok {s g : Int} (h1 : I64ok s) (h2 : I64ok g) : (doneR s g).Ok := by
  have h0 : I64ok 0 := by unfold I64ok; omega
  exact ⟨by show I64ok 3; unfold I64ok; omega, h1, by show (0 : Nat) ≤ maxLen; exact Nat.zero_le _, h0, h2, h0⟩
theorem layZ_facts (hT : z.Tapes.length = 2) : (layZ z r).Tapes.length = 2 ∧ (layZ z r).Writes ≤ z.Writes + 2 ∧ z.Writes ≤ (layZ z r).Writes ∧ mkWld (layZ z r) ≤ mkWld z + 2 * mkRec r := by
  unfold layZ; split
  · exact ⟨hT, by omega, by omega, by omega⟩
  · have h1 := layW_writes (z := z) (r := r)
    exact ⟨by rw [layW_tapes, hT], by omega, by omega, mk_lay2 hT⟩
theorem layZ_ok (h : z.Ok) (h2 : z.Writes ≤ 1500000000) : (layZ z r).Ok := by
  unfold layZ; split
  · exact h
  · exact layW_ok2 h h2
theorem dropL_mk : ∀ {rs : List Rec} {z : Wld}, z.Tapes.length = 2 → mkWld (dropL z rs).2 ≤ mkWld z + 12 * rs.length
  | [], _, _ => Nat.le_refl _
  | r :: rs, z, hT => by
    obtain ⟨h1, h2, h2', h3⟩ := layZ_facts (r := doneR r.Seq r.Group) hT
    have h4 : mkRec (doneR r.Seq r.Group) = 6 := rfl
    by_cases h : layC z (doneR r.Seq r.Group) = 0
    · rw [dropL_go h]
      have := dropL_mk (rs := rs) h1
      rw [List.length_cons]; omega
    · rw [dropL_stop h, List.length_cons]; show mkWld (layZ z _) ≤ _; omega
theorem dropL_ok : ∀ {rs : List Rec} {z : Wld}, z.Ok → z.Tapes.length = 2 → z.Writes + 2 * (rs.length : Int) ≤ 1500000000 → (dropL z rs).2.Ok
  | [], _, h, _, _ => h
  | r :: rs, z, h, hT, hw => by
    rw [List.length_cons] at hw
    obtain ⟨h1, h2, h2', h3⟩ := layZ_facts (r := doneR r.Seq r.Group) hT
    by_cases c : layC z (doneR r.Seq r.Group) = 0
    · rw [dropL_go c]
      exact dropL_ok (layZ_ok h (by omega)) h1 (by omega)
    · rw [dropL_stop c]; exact layZ_ok h (by omega)
end
noncomputable def dropF (z : Wld) : WldResult := if upF z = 0 then if (dropL z (voids z)).1 = 2 then ⟨2, noWld⟩ else ⟨(dropL z (voids z)).1, (dropL z (voids z)).2⟩ else ⟨upF z, noWld⟩
section
variable {z : Wld}
theorem dropF_bad (h : upF z ≠ 0) : dropF z = ⟨upF z, noWld⟩ := if_neg h
theorem dropF_full (h : upF z = 0) (h2 : (dropL z (voids z)).1 = 2) : dropF z = ⟨2, noWld⟩ := by rw [dropF, if_pos h, if_pos h2]
theorem dropF_ok (h : upF z = 0) (h2 : (dropL z (voids z)).1 ≠ 2) : dropF z = ⟨(dropL z (voids z)).1, (dropL z (voids z)).2⟩ := by rw [dropF, if_pos h, if_neg h2]
theorem mk_drop : mkWld (dropF z).Wd ≤ mkWld z + 432 := by
  have h0 : mkWld noWld = 0 := rfl
  unfold dropF
  split
  · next h =>
    have hw := (upF_ok h).1
    split
    · show mkWld noWld ≤ _; omega
    · have h1 := dropL_mk (rs := voids z) (worldF_ok hw).2.2.2.1
      have h2 := voids_len hw
      show mkWld (dropL z (voids z)).2 ≤ _
      omega
  · show mkWld noWld ≤ _; omega
theorem drop_Ok (h : z.Ok) : (dropF z).Ok := by
  have h1 := upF_cd (z := z)
  have h3 := dropL_bd (z := z) (rs := voids z)
  unfold dropF
  split
  · next hu =>
    have hw := (upF_ok hu).1
    obtain ⟨hw0, hw1, _, _⟩ := worldF_rng hw
    have h2 := voids_len hw
    split
    · exact ⟨by show I64ok 2; unfold I64ok; omega, noWld_ok⟩
    · exact ⟨by show I64ok (dropL z (voids z)).1; unfold I64ok; omega, dropL_ok h (worldF_ok hw).2.2.2.1 (by omega)⟩
  · exact ⟨by show I64ok (upF z); unfold I64ok; omega, noWld_ok⟩
end
end Go.Wk
namespace Go.Wk
theorem sz_doneR {s g : Int} : szRec (doneR s g) = 0 := rfl
section
variable {z : Wld} {r : Rec}
theorem layZ_recs {u : Nat} : ((layZ z r).Tapes.getD u default).Recs.length ≤ (z.Tapes.getD u default).Recs.length + 2 := by
  unfold layZ; split
  · omega
  · exact layW_recs
theorem full_one : fullM z 1 = layFull z := rfl
end
end Go.Wk
namespace Go.Wk
open Go.Proofs Rp
set_option maxRecDepth 10000
theorem Tryz_layRec_any {w : World} {z : Wld} {zb rC6 rC7 rC8 : Nat} {fp rF6 rF7 rF8 : List Nat} {r : Rec} {rA6 rA7 rA8 : Option Addr} (o : OwnW w zb 38 z fp) (nd : fp.Nodup) (rK : r.Ok) (rO6 : own false w [.slice rA6 r.Rows.length rC6] r.Rows rF6) (rD6 : ∀ b ∈ rF6, b ∉ fp) (rO7 : own false w [.slice rA7 r.Data.length rC7] r.Data rF7) (rD7 : ∀ b ∈ rF7, b ∉ fp) (rO8 : own false w [.slice rA8 r.Delta.length rC8] r.Delta rF8) (rD8 : ∀ b ∈ rF8, b ∉ fp) (hT : z.Tapes.length = 2) (hb : szRec r ≤ 1048576) (hw : z.Writes ≤ 1500000000) : Ret Tryz.prog 226 #[.pointer (some ⟨zb, 0, none⟩), r.val rA6 rC6 rA7 rC7 rA8 rC8] w fun v w' => (v = .int .i64 (layC z r) ∧ MutW w w' fp zb 38 (layZ z r)) := by
 cases hf : layFull z
 ·rw [(layC_not hf).1, (layC_not hf).2]; exact Tryz_impl_layRec_ok o nd rK rO6 rD6 rO7 rD7 rO8 rD8 hf hT hb hw
 ·rw [(layC_full hf).1, (layC_full hf).2]; exact Tryz_impl_layRec_full o nd rK rO6 rD6 rO7 rD7 rO8 rD8 hf hT hb hw
theorem Tryz_impl_done {w : World} {a b : Int}  : Ret Tryz.prog 227 #[.int .i64 a, .int .i64 b] w fun v w' => Ext No w w' ∧ (v = (doneR a b).val none 0 none 0 none 0) := by
 refine ret_Q (vs := [.int .i64 a, .int .i64 b]) Tryz.func227 rfl Tryz.ntmps227 rfl (fun Q hQ hN => ?_)
 have H0 := Sep.start (w := w) (F := []) (by simp)
 refine W_sr (s_var (wn rfl) rfl Tryz.zeroValue68 H0 (fun b1 w1 e1 g1 H1 => ?_))
 refine s_nil (W_sr (sM rfl rfl (sM rfl rfl (sV rfl (py_buildS Tryz_pl68 rfl rfl) (s_stoS (wn rfl) ts68 rfl rfl rfl rfl H1 0 rfl rfl (fun w2 e2 H2 => ?_))))))
 dsimp only [lNA, lCA, lSZ, lSS, layL] at H2
 refine s_nil (W_ret (hQ _ _ (finC Tryz.results227 rfl (run_loadVarS tu68 rfl ts68 rfl (At.whole (H2.box 0 rfl))) ?_)))
 exact ⟨H2.ext, rfl⟩
theorem Tryz_impl_World_dropVoid {w : World} {z : Wld} {zb : Nat} {fp : List Nat} (o : OwnW w zb 38 z fp) (nd : fp.Nodup) (hw : worldF z = 0) (hb : szWld z ≤ 1048576) : Ret Tryz.prog 132 #[.pointer (some ⟨zb, 0, none⟩)] w fun v w' => (v = .int .i64 (dropL z (voids z)).1 ∧ MutW w w' fp zb 38 ((dropL z (voids z)).2)) := by
 have hs := (worldF_ok hw).1
 obtain ⟨hw0, hw1, _, _⟩ := worldF_rng hw
 have hT := (worldF_ok hw).2.2.2.1
 have hvl := voids_len hw
 refine ret_Q (vs := [.pointer (some ⟨zb, 0, none⟩)]) Tryz.func132 rfl Tryz.ntmps132 rfl (fun Q hQ hN => ?_)
 have H0 := Sep.beginW o nd
 refine W_sr (sA rfl rfl (s_nil (W_seq (W_seq ?_))))
 obtain ⟨wA1, wC1, wA2, wC2, wA3, wC3, wf1, wf2, wf3, wok1, H1⟩ := H0.openW 0 rfl
 try dsimp only [lNA, lCA, lSZ, lSS] at H1
 have wok1U := wok1
 unfold Wld.Ok Shape.Ok I64ok at wok1U
 have wL1 := oL (H1.mine 2 rfl)
 have wL2 := oL (H1.mine 3 rfl)
 have wL3 := oL (H1.mine 4 rfl)
 refine W_reg (sM rfl rfl (s_call (wn rfl) rfl rfl (pc_call Tryz.func96 rfl Tryz_nm96 rfl) (Tryz_impl_World_voidShares (H1.box 0 rfl) (by assumption) (own_weak (H1.mine 2 rfl)) (own_weak (H1.mine 3 rfl)) (own_weak (H1.mine 4 rfl)) (by first | assumption | omega) (by first | assumption | omega)) (fun v1 w1 r1 => ?_)))
 obtain ⟨e1, r1⟩ := r1
 obtain ⟨fp1, H2⟩ := H1.res e1 r1
 obtain ⟨sa1, sk1, sq1⟩ := own_slice (H2.mine 5 rfl)
 cases sq1
 refine sV rfl (py_len tu30 rfl) (sM rfl rfl (s_nil (W_block ?_)))
 have H3 := H2.share 5 rfl
 try dsimp only [lNA, lCA, lSZ, lSS] at H3
 obtain ⟨fp2, H4⟩ := H3.closeW 0 2 3 4 z rfl rfl rfl rfl rfl rfl rfl rfl rfl rfl wok1
 try dsimp only [lNA, lCA, lSZ, lSS] at H4
 refine W_loop (γ := Nat × Wld × List Nat) (fun (i, zi, f) => [(0, .pointer (some ⟨zb, 0, none⟩)), (7, .slice sa1 (voids z).length sk1), (8, .int .i64 (voids z).length), (9, .int .i64 i)]) (fun (i, zi, f) w' => Sep (· ∈ fp) w [wldR zb 38 zi f] [seen true [.slice sa1 (voids z).length sk1] (voids z) fp1] w' ∧ i ≤ (voids z).length ∧ dropL z (voids z) = dropL zi ((voids z).drop i) ∧ zi.Tapes.length = 2 ∧ zi.Writes ≤ z.Writes + 2 * i) (fun (i, zi, f) => (voids z).length - i) (0, z, _) ⟨rfl, rfl, rfl, rfl, trivial⟩ ⟨(H4.dtake 1), by (try dsimp only); omega, by (try dsimp only); rw [List.drop_zero], hT, by (try dsimp only); omega⟩ (fun (i, zi, f) w2 H5 => ?_)
 obtain ⟨H5, hi, hdl, hT2, hw2⟩ := H5
 refine W_sr (sV rfl (py_lss rfl rfl) (s_nil (W_seq (W_ifd rfl (fun c1 => ?_) (fun c1 => ?_)))))
 ·refine W_skip (W_seq (W_block (W_seq ?_)))
  obtain ⟨eb1, eo1, es1, ef1, ee1, ec1, eO1, eH1, em1⟩ := elem_st (H5.seen 0 rfl) i (by omega)
  obtain ⟨ea1, ek1, ea2, ek2, ea3, ek3, eg1, eg2, eg3, rfl, eq1, eK1, eo2, eo3, eo4⟩ := own_Rec eO1
  have eK1U := eK1
  unfold Rec.Ok at eK1U
  try unfold I64ok at eK1U
  try unfold maxLen at eK1U
  refine W_reg (sV rfl (py_elz tu30 ts68 rfl rfl ee1 i (by omega) (by omega)) (sV rfl (py_loadS tu68 rfl ts68 rfl rfl ec1) (s_var (wn rfl) rfl Tryz.zeroValue68 H5 (fun b1 w3 e2 g1 H6 => ?_))))
  refine s_stoS (wn rfl) ts68 rfl rfl rfl rfl H6 1 rfl rfl (fun w4 e3 H7 => ?_)
  dsimp only [lNA, lCA, lSZ, lSS, layL] at H7
  refine s_nil (W_seq ?_)
  have hdk : (doneR ((voids z).getD i default).Seq ((voids z).getD i default).Group).Ok := doneR_ok eK1.2.1 eK1.2.2.2.2.1
  have hszd := sz_doneR (s := ((voids z).getD i default).Seq) (g := ((voids z).getD i default).Group)
  obtain ⟨hf1, hf2, hf3, hf4⟩ := layZ_facts (r := (doneR ((voids z).getD i default).Seq ((voids z).getD i default).Group)) hT2
  refine W_reg (sM rfl rfl (sV rfl (py_field tu68 rfl ts2 rfl rfl) (sV rfl (py_load tu2 rfl rfl (cell_atL (H7.box 1 rfl) rfl)) (sV rfl (py_field tu68 rfl ts2 rfl rfl) (sV rfl (py_load tu2 rfl rfl (cell_atL (H7.box 1 rfl) rfl)) (s_call (wn rfl) rfl rfl (pc_call Tryz.func227 rfl Tryz_nm227 rfl) Tryz_impl_done (fun v2 w5 r2 => ?_)))))))
  obtain ⟨e4, rfl⟩ := r2
  have H8 := H7.to e4
  refine s_call (wn rfl) rfl rfl (pc_call Tryz.func226 rfl Tryz_nm226 rfl) (Tryz_layRec_any (H8.wldAt 0 rfl) (H8.nodup1 (i := 0) rfl) (by assumption) (.inr (.inl ⟨rfl, rfl, rfl⟩)) (by simp) (.inr (.inl ⟨rfl, rfl, rfl⟩)) (by simp) (.inr (.inl ⟨rfl, rfl, rfl⟩)) (by simp) (by first | assumption | omega) (by first | assumption | omega) (by first | assumption | omega)) (fun v3 w6 r3 => ?_)
  obtain ⟨rfl, mm1⟩ := r3
  obtain ⟨fp3, H9⟩ := H8.mutW 0 rfl mm1
  try dsimp only [lNA, lCA, lSZ, lSS] at H9
  refine sA rfl rfl (s_nil (W_sr (sM rfl rfl (sV rfl (py_neq rfl rfl) (s_nil (W_ifd rfl (fun c2 => ?_) (fun c2 => ?_)))))))
  ·refine W_sr (sM rfl rfl (sA rfl rfl (s_nil (rT hQ Tryz.results132 rfl ?_))))
   have hz := H9.doneW
   rw [hdl, drop_at (by omega), dropL_stop c2]
   exact ⟨rfl, hz⟩
  ·refine W_skip (W_reg (sV rfl (py_add rfl rfl (in64 ⟨by omega, by omega⟩)) (sM rfl rfl (s_nil ?_))))
   exact ⟨(i + 1, layZ zi (doneR ((voids z).getD i default).Seq ((voids z).getD i default).Group), _), ⟨rfl, rfl, rfl, rfl, trivial⟩, ⟨(H9.dtake 1), by (try dsimp only); omega, by (try dsimp only); rw [hdl, drop_at (by omega), dropL_go (by omega)], hf1, by (try dsimp only); omega⟩, by dsimp only; omega⟩
 ·refine W_exit (W_sr (sA rfl rfl (s_nil (rT hQ Tryz.results132 rfl ?_))))
  have hz := H5.doneW
  rw [hdl, dropL_end (by omega)]
  exact ⟨rfl, hz⟩
set_option maxHeartbeats 2000000 in
theorem Tryz_spec_l8Drop {w : World} {z : Wld} {zb : Nat} {fp : List Nat} (o : OwnW w zb 38 z fp) (nd : fp.Nodup) (hd : z.Down = false) (hw : worldF z = 0) (hb : szWld z ≤ 1048576) : Ret Tryz.prog 131 #[.pointer (some ⟨zb, 0, none⟩)] w fun v w' => (v = .int .i64 (dropL z (voids z)).1 ∧ MutW w w' fp zb 38 ((dropL z (voids z)).2)) := by
 have hs := (worldF_ok hw).1
 obtain ⟨hw0, hw1, _, _⟩ := worldF_rng hw
 have hT := (worldF_ok hw).2.2.2.1
 have hvl := voids_len hw
 have hrl2 := recs_le hw
 refine ret_Q (vs := [.pointer (some ⟨zb, 0, none⟩)]) Tryz.func131 rfl Tryz.ntmps131 rfl (fun Q hQ hN => ?_)
 have H0 := Sep.beginW o nd
 refine W_sr (sA rfl rfl (s_nil (W_seq ?_)))
 obtain ⟨wA1, wC1, wA2, wC2, wA3, wC3, wf1, wf2, wf3, wok1, H1⟩ := H0.openW 0 rfl
 try dsimp only [lNA, lCA, lSZ, lSS] at H1
 have wok1U := wok1
 unfold Wld.Ok Shape.Ok I64ok at wok1U
 have wL1 := oL (H1.mine 2 rfl)
 have wL2 := oL (H1.mine 3 rfl)
 have wL3 := oL (H1.mine 4 rfl)
 refine W_reg (sM rfl rfl (s_call (wn rfl) rfl rfl (pc_call Tryz.func95 rfl Tryz_nm95 rfl) (Tryz_spec_l8Void (H1.box 0 rfl) (by assumption) (own_weak (H1.mine 2 rfl)) (own_weak (H1.mine 3 rfl)) (own_weak (H1.mine 4 rfl)) (by first | assumption | omega)) (fun v1 w1 r1 => ?_)))
 obtain ⟨e1, vs1, r1, hR1, hM1⟩ := r1
 obtain ⟨fp1, H2⟩ := H1.res e1 r1
 obtain ⟨sa1, sk1, sq1⟩ := own_slice (H2.mine 5 rfl)
 cases sq1
 have hl1 : vs1.length = (voids z).length := by rw [← hM1, List.length_map]
 refine sA rfl rfl (s_nil (W_seq (W_sr (sA rfl rfl (s_nil (W_block ?_))))))
 obtain ⟨fp2, H3⟩ := H2.closeW 0 2 3 4 z rfl rfl rfl rfl rfl rfl rfl rfl rfl rfl wok1
 try dsimp only [lNA, lCA, lSZ, lSS] at H3
 refine W_loop (γ := Nat × Wld × List Nat) (fun (i, zi, f) => [(0, .pointer (some ⟨zb, 0, none⟩)), (3, .slice sa1 vs1.length sk1), (4, .int .i64 i)]) (fun (i, zi, f) w' => Sep (· ∈ fp) w [wldR zb 38 zi f, gone, gone, gone, gone, mine [.slice sa1 vs1.length sk1] vs1 fp1] [] w' ∧ i ≤ (voids z).length ∧ dropL z (voids z) = dropL zi ((voids z).drop i) ∧ zi.Tapes.length = 2 ∧ zi.Writes ≤ z.Writes + 2 * i ∧ zi.Down = false ∧ ((zi.Tapes.getD 0 default).Recs.length ≤ 200 + 2 * i ∧ (zi.Tapes.getD 1 default).Recs.length ≤ 200 + 2 * i)) (fun (i, zi, f) => (voids z).length - i) (0, z, _) ⟨rfl, rfl, rfl, trivial⟩ ⟨H3, by (try dsimp only); omega, by (try dsimp only); rw [List.drop_zero], hT, by (try dsimp only); omega, hd, by (try dsimp only); omega⟩ (fun (i, zi, f) w2 H4 => ?_)
 obtain ⟨H4, hi, hdl, hT2, hw2, hdn, hrr⟩ := H4
 refine W_seq (W_sr (sM rfl rfl (sM rfl rfl (sV rfl (py_len tu30 rfl) (sV rfl (py_lss rfl rfl) (s_nil (W_ifd rfl (fun c1 => ?_) (fun c1 => ?_))))))))
 ·refine W_skip (W_seq (W_block (W_seq (W_seq ?_))))
  obtain ⟨wA4, wC4, wA5, wC5, wA6, wC6, wf4, wf5, wf6, wok2, H5⟩ := H4.openW 0 rfl
  try dsimp only [lNA, lCA, lSZ, lSS] at H5
  have wok2U := wok2
  unfold Wld.Ok Shape.Ok I64ok at wok2U
  have wL4 := oL (H5.mine 7 rfl)
  have wL5 := oL (H5.mine 8 rfl)
  have wL6 := oL (H5.mine 9 rfl)
  refine W_reg (sM rfl rfl (s_call (wn rfl) rfl rfl (pc_call Tryz.func224 rfl Tryz_nm224 rfl) (Tryz_spec_l7Full (H5.box 0 rfl) (by assumption) (H5.msees 7 rfl) (H5.msees 8 rfl) (H5.msees 9 rfl) (by first | assumption | omega) (by first | assumption | omega) (by first | assumption | omega)) (fun v2 w3 r2 => ?_)))
  obtain ⟨e2, rfl⟩ := r2
  have H6 := H5.to e2
  refine s_nil (W_if rfl (fun c2 => ?_) (fun c2 => ?_))
  ·refine W_sr (sA rfl rfl (s_nil (rT hQ Tryz.results131 rfl ?_)))
   obtain ⟨fp3, H7⟩ := H6.closeW 0 7 8 9 zi rfl rfl rfl rfl rfl rfl rfl rfl rfl rfl wok2
   try dsimp only [lNA, lCA, lSZ, lSS] at H7
   have hf : layFull zi = true := by rw [← full_one]; exact c2
   have hz := H7.doneW
   rw [hdl, drop_at (by omega), dropL_stop (by rw [(layC_full hf).1]; omega), (layC_full hf).1, (layC_full hf).2]
   exact ⟨rfl, hz⟩
  ·refine W_skip (W_seq ?_)
   obtain ⟨fp4, H8⟩ := H6.closeW 0 7 8 9 zi rfl rfl rfl rfl rfl rfl rfl rfl rfl rfl wok2
   try dsimp only [lNA, lCA, lSZ, lSS] at H8
   have hel : (vs1.getD i default).r = ((voids z).getD i default) := map_getD hM1 (by omega)
   obtain ⟨_, _, _, _, hvk⟩ := H8.viewAt 5 rfl i (by omega)
   have hdk : (doneR (vs1.getD i default).r.Seq (vs1.getD i default).r.Group).Ok := doneR_ok hvk.2.1 hvk.2.2.2.2.1
   have hszd := sz_doneR (s := (vs1.getD i default).r.Seq) (g := (vs1.getD i default).r.Group)
   have hf : layFull zi = false := by rw [← full_one]; simpa using c2
   obtain ⟨hf1, hf2, hf3, hf4⟩ := layZ_facts (r := (doneR (vs1.getD i default).r.Seq (vs1.getD i default).r.Group)) hT2
   have hfa := layZ_recs (z := zi) (r := (doneR (vs1.getD i default).r.Seq (vs1.getD i default).r.Group)) (u := 0)
   have hfb := layZ_recs (z := zi) (r := (doneR (vs1.getD i default).r.Seq (vs1.getD i default).r.Group)) (u := 1)
   refine W_drw (S := fun _ => True) [(0, true), (1, true), (2, true), (3, true), (4, true), (6, true), (7, true), (8, true), (9, true), (1005, false), (5, false), (10, false), (11, true), (12, false), (13, false), (10, false), (5, false), (11, true), (12, false), (13, false)] (by kernel_rfl) (by kernel_rfl) (by kernel_rfl) rfl (fun _ => trivial) (fun q1 => ?_)
   have H9 := H8.drawn q1
   refine dM rfl rfl rfl (dM rfl rfl rfl (dM rfl rfl rfl ?_))
   obtain ⟨eb1, eo1, ee1, ec1, eK1⟩ := H9.viewAt 5 rfl i (by omega)
   refine dV rfl rfl (fun zw hx => py_elz tu30 ts68 rfl rfl ee1 i (by omega) (by omega)) (dV rfl rfl (fun zw hx => py_field tu68 rfl ts2 rfl rfl) (dM rfl rfl rfl (dM rfl rfl rfl (dV rfl rfl (fun zw hx => py_elz tu30 ts68 rfl rfl ee1 i (by omega) (by omega)) (dV rfl rfl (fun zw hx => py_field tu68 rfl ts2 rfl rfl) (d_fork (l1 := [(5, false), (10, false), (11, true), (12, false), (13, false)]) (l2 := [(10, false), (5, false), (11, true), (12, false), (13, false)]) rfl rfl rfl rfl ?_ ?_))))))
   ·refine d_end rfl (wn rfl) rfl rfl (py_load tu2 rfl rfl (at_cell ec1 1 rfl)) (d_end rfl (wn rfl) rfl rfl (py_load tu2 rfl rfl (at_cell ec1 4 rfl)) (dV rfl rfl (fun zw hx => py_buildS Tryz_pl68 rfl rfl) (d_call rfl (wn rfl) rfl rfl (pc_call Tryz.func225 rfl Tryz_nm225 rfl) (Tryz_spec_l7Lay (H9.wldAt 0 rfl) (H9.nodup1 (i := 0) rfl) (by assumption) (.inr (.inl ⟨rfl, rfl, rfl⟩)) (by simp) (.inr (.inl ⟨rfl, rfl, rfl⟩)) (by simp) (.inr (.inl ⟨rfl, rfl, rfl⟩)) (by simp) (by assumption) (by assumption) (by first | assumption | omega) (by first | assumption | omega) (by first | assumption | omega) (r := (doneR (vs1.getD i default).r.Seq (vs1.getD i default).r.Group))) (fun hS _ _ r _ => trivial) (fun v3 w4 r3 => ?_))))
    obtain ⟨rfl, mm1⟩ := r3
    obtain ⟨fp5, H10⟩ := H9.mutW 0 rfl mm1
    try dsimp only [lNA, lCA, lSZ, lSS] at H10
    refine d_end rfl (wn rfl) rfl rfl (py_not rfl) (d_nil (W_if rfl (fun c3 => ?_) (fun c3 => ?_)))
    ·refine W_sr (sA rfl rfl (s_nil (rT hQ Tryz.results131 rfl ?_)))
     have hlo := c3
     have hz := H10.doneW
     rw [hel] at hz hlo
     rw [hel] at hdk hf1 hf2 hf3 hf4 hfa hfb
     replace hlo : layOK zi (doneR ((voids z).getD i default).Seq ((voids z).getD i default).Group) = false := by simpa using hlo
     have hc9 : layC zi (doneR ((voids z).getD i default).Seq ((voids z).getD i default).Group) = 9 := by rw [(layC_not hf).1, hlo]; rfl
     rw [hdl, drop_at (by omega), dropL_stop (by omega), hc9, (layC_not hf).2]
     exact ⟨rfl, hz⟩
    ·refine W_skip (W_reg (sM rfl rfl (sV rfl (py_add rfl rfl (in64 ⟨by omega, by omega⟩)) (sA rfl rfl (s_nil ?_)))))
     have hlo := c3
     have hz := (H10.dtake 6)
     rw [hel] at hz hlo
     rw [hel] at hdk hf1 hf2 hf3 hf4 hfa hfb
     replace hlo : layOK zi (doneR ((voids z).getD i default).Seq ((voids z).getD i default).Group) = true := by simpa using hlo
     have hc0 : layC zi (doneR ((voids z).getD i default).Seq ((voids z).getD i default).Group) = 0 := by rw [(layC_not hf).1, hlo]; rfl
     rw [← (layC_not (r := (doneR ((voids z).getD i default).Seq ((voids z).getD i default).Group)) hf).2] at hz
     exact ⟨(i + 1, layZ zi (doneR ((voids z).getD i default).Seq ((voids z).getD i default).Group), _), ⟨rfl, rfl, rfl, trivial⟩, ⟨hz, by (try dsimp only); omega, by (try dsimp only); rw [hdl, drop_at (by omega), dropL_go (by omega)], hf1, by (try dsimp only); omega, by (try dsimp only); rw [(layC_not hf).2, layW_down hlo]; exact hdn, by (try dsimp only); omega⟩, by dsimp only; omega⟩
   ·refine d_end rfl (wn rfl) rfl rfl (py_load tu2 rfl rfl (at_cell ec1 4 rfl)) (d_end rfl (wn rfl) rfl rfl (py_load tu2 rfl rfl (at_cell ec1 1 rfl)) (dV rfl rfl (fun zw hx => py_buildS Tryz_pl68 rfl rfl) (d_call rfl (wn rfl) rfl rfl (pc_call Tryz.func225 rfl Tryz_nm225 rfl) (Tryz_spec_l7Lay (H9.wldAt 0 rfl) (H9.nodup1 (i := 0) rfl) (by assumption) (.inr (.inl ⟨rfl, rfl, rfl⟩)) (by simp) (.inr (.inl ⟨rfl, rfl, rfl⟩)) (by simp) (.inr (.inl ⟨rfl, rfl, rfl⟩)) (by simp) (by assumption) (by assumption) (by first | assumption | omega) (by first | assumption | omega) (by first | assumption | omega) (r := (doneR (vs1.getD i default).r.Seq (vs1.getD i default).r.Group))) (fun hS _ _ r _ => trivial) (fun v4 w5 r4 => ?_))))
    obtain ⟨rfl, mm2⟩ := r4
    obtain ⟨fp6, H11⟩ := H9.mutW 0 rfl mm2
    try dsimp only [lNA, lCA, lSZ, lSS] at H11
    refine d_end rfl (wn rfl) rfl rfl (py_not rfl) (d_nil (W_if rfl (fun c4 => ?_) (fun c4 => ?_)))
    ·refine W_sr (sA rfl rfl (s_nil (rT hQ Tryz.results131 rfl ?_)))
     have hlo := c4
     have hz := H11.doneW
     rw [hel] at hz hlo
     rw [hel] at hdk hf1 hf2 hf3 hf4 hfa hfb
     replace hlo : layOK zi (doneR ((voids z).getD i default).Seq ((voids z).getD i default).Group) = false := by simpa using hlo
     have hc9 : layC zi (doneR ((voids z).getD i default).Seq ((voids z).getD i default).Group) = 9 := by rw [(layC_not hf).1, hlo]; rfl
     rw [hdl, drop_at (by omega), dropL_stop (by omega), hc9, (layC_not hf).2]
     exact ⟨rfl, hz⟩
    ·refine W_skip (W_reg (sM rfl rfl (sV rfl (py_add rfl rfl (in64 ⟨by omega, by omega⟩)) (sA rfl rfl (s_nil ?_)))))
     have hlo := c4
     have hz := (H11.dtake 6)
     rw [hel] at hz hlo
     rw [hel] at hdk hf1 hf2 hf3 hf4 hfa hfb
     replace hlo : layOK zi (doneR ((voids z).getD i default).Seq ((voids z).getD i default).Group) = true := by simpa using hlo
     have hc0 : layC zi (doneR ((voids z).getD i default).Seq ((voids z).getD i default).Group) = 0 := by rw [(layC_not hf).1, hlo]; rfl
     rw [← (layC_not (r := (doneR ((voids z).getD i default).Seq ((voids z).getD i default).Group)) hf).2] at hz
     exact ⟨(i + 1, layZ zi (doneR ((voids z).getD i default).Seq ((voids z).getD i default).Group), _), ⟨rfl, rfl, rfl, trivial⟩, ⟨hz, by (try dsimp only); omega, by (try dsimp only); rw [hdl, drop_at (by omega), dropL_go (by omega)], hf1, by (try dsimp only); omega, by (try dsimp only); rw [(layC_not hf).2, layW_down hlo]; exact hdn, by (try dsimp only); omega⟩, by dsimp only; omega⟩
 ·refine W_exit (W_sr (sA rfl rfl (s_nil (rT hQ Tryz.results131 rfl ?_))))
  have hz := H4.doneW
  rw [hdl, dropL_end (by omega)]
  exact ⟨rfl, hz⟩
theorem Tryz_coded_no {w : World} {x : Wld} {xA9 xA10 xA11 : Option Addr} {xC9 xC10 xC11 : Nat} {c : Int} (xK : x.Ok) (xS9 : Sees w [.slice xA9 x.Groups.length xC9] x.Groups) (xS10 : Sees w [.slice xA10 x.On.length xC10] x.On) (xS11 : Sees w [.slice xA11 x.Tapes.length xC11] x.Tapes) (hc : c ≠ 0 ∧ c ≠ 9) : Ret Tryz.prog 127 #[x.val xA9 xC9 xA10 xC10 xA11 xC11, .int .i64 c] w fun v w' => Ext No w w' ∧ (v = (⟨c, noWld⟩ : WldResult).val none 0 none 0 none 0) := by
 have xK2 := xK
 unfold Wld.Ok Shape.Ok at xK2
 try unfold I64ok at xK2
 try unfold maxLen at xK2
 have xL9 := sL xS9
 obtain ⟨xF9, xO9⟩ := xS9
 have xL10 := sL xS10
 obtain ⟨xF10, xO10⟩ := xS10
 have xL11 := sL xS11
 obtain ⟨xF11, xO11⟩ := xS11
 refine ret_Q (vs := [x.val xA9 xC9 xA10 xC10 xA11 xC11, .int .i64 c]) Tryz.func127 rfl Tryz.ntmps127 rfl (fun Q hQ hN => ?_)
 have H0 := Sep.start (w := w) (F := [seen false [.slice xA9 x.Groups.length xC9] x.Groups xF9, seen false [.slice xA10 x.On.length xC10] x.On xF10, seen false [.slice xA11 x.Tapes.length xC11] x.Tapes xF11]) (all_cons xO9 (all_cons xO10 (all_cons xO11 (by simp))))
 refine W_sr (s_box (wn rfl) rfl rfl H0 (fun b1 w1 e1 g1 H1 => ?_))
 refine s_var (wn rfl) rfl Tryz.zeroValue66 H1 (fun b2 w2 e2 g2 H2 => ?_)
 refine s_nil (W_seq (W_sr (sM rfl rfl (sV rfl (py_neq rfl rfl) (sM rfl rfl (s_case (t := 7) rfl (fun hg1 => ?_) (fun hg1 => ?_)))))))
 ·try simp only [decide_eq_true_eq, decide_eq_false_iff_not] at hg1
  refine s_val (wg rfl rfl rfl) rfl rfl (py_move rfl) (s_val (wg rfl rfl rfl) rfl rfl (py_neq rfl rfl) (sV rfl (py_pickT rfl rfl) (s_nil (W_ifd rfl (fun c1 => ?_) (fun c1 => ?_)))))
  ·refine W_sr (sM rfl rfl (sV rfl (py_buildS Tryz_pl66 rfl rfl) (s_stoS (wn rfl) ts66 rfl rfl rfl rfl H2 1 rfl rfl (fun w3 e3 H3 => ?_))))
   dsimp only [lNA, lCA, lSZ, lSS, layL] at H3
   refine s_nil (W_ret (hQ _ _ (finC Tryz.results127 rfl (run_loadVarS tu66 rfl ts66 rfl (At.whole (H3.box 1 rfl))) ?_)))
   exact ⟨H3.ext, rfl⟩
  ·exfalso; simp_all
 ·exfalso; simp_all
theorem Tryz_coded_yes {w : World} {x : Wld} {xA9 xA10 xA11 : Option Addr} {xC9 xC10 xC11 : Nat} {c : Int} (xK : x.Ok) (xS9 : Sees w [.slice xA9 x.Groups.length xC9] x.Groups) (xS10 : Sees w [.slice xA10 x.On.length xC10] x.On) (xS11 : Sees w [.slice xA11 x.Tapes.length xC11] x.Tapes) (hc : c = 0 ∨ c = 9) : Ret Tryz.prog 127 #[x.val xA9 xC9 xA10 xC10 xA11 xC11, .int .i64 c] w fun v w' => Ext No w w' ∧ (v = (⟨c, x⟩ : WldResult).val xA9 xC9 xA10 xC10 xA11 xC11) := by
 have xK2 := xK
 unfold Wld.Ok Shape.Ok at xK2
 try unfold I64ok at xK2
 try unfold maxLen at xK2
 have xL9 := sL xS9
 obtain ⟨xF9, xO9⟩ := xS9
 have xL10 := sL xS10
 obtain ⟨xF10, xO10⟩ := xS10
 have xL11 := sL xS11
 obtain ⟨xF11, xO11⟩ := xS11
 refine ret_Q (vs := [x.val xA9 xC9 xA10 xC10 xA11 xC11, .int .i64 c]) Tryz.func127 rfl Tryz.ntmps127 rfl (fun Q hQ hN => ?_)
 have H0 := Sep.start (w := w) (F := [seen false [.slice xA9 x.Groups.length xC9] x.Groups xF9, seen false [.slice xA10 x.On.length xC10] x.On xF10, seen false [.slice xA11 x.Tapes.length xC11] x.Tapes xF11]) (all_cons xO9 (all_cons xO10 (all_cons xO11 (by simp))))
 refine W_sr (s_box (wn rfl) rfl rfl H0 (fun b1 w1 e1 g1 H1 => ?_))
 refine s_var (wn rfl) rfl Tryz.zeroValue66 H1 (fun b2 w2 e2 g2 H2 => ?_)
 refine s_nil (W_seq (W_sr (sM rfl rfl (sV rfl (py_neq rfl rfl) (sM rfl rfl (s_case (t := 7) rfl (fun hg1 => ?_) (fun hg1 => ?_)))))))
 ·try simp only [decide_eq_true_eq, decide_eq_false_iff_not] at hg1
  refine s_val (wg rfl rfl rfl) rfl rfl (py_move rfl) (s_val (wg rfl rfl rfl) rfl rfl (py_neq rfl rfl) (sV rfl (py_pickT rfl rfl) (s_nil (W_ifd rfl (fun c1 => ?_) (fun c1 => ?_)))))
  ·exfalso; simp_all
  ·refine W_skip (W_sr (sM rfl rfl (sV rfl (py_loadS tu38 rfl ts38 rfl rfl (At.whole (H2.box 0 rfl))) (sV rfl (py_buildS Tryz_pl66 rfl rfl) (s_stoS (wn rfl) ts66 rfl rfl rfl rfl H2 1 rfl rfl (fun w3 e3 H3 => ?_))))))
   dsimp only [lNA, lCA, lSZ, lSS, layL] at H3
   refine s_nil (W_ret (hQ _ _ (finC Tryz.results127 rfl (run_loadVarS tu66 rfl ts66 rfl (At.whole (H3.box 1 rfl))) ?_)))
   exact ⟨H3.ext, rfl⟩
 ·try simp only [decide_eq_true_eq, decide_eq_false_iff_not] at hg1
  refine sKf rfl rfl rfl (sKf rfl rfl rfl (sV rfl (py_pickF rfl rfl) (s_nil (W_iff rfl (W_skip (W_sr (sM rfl rfl (sV rfl (py_loadS tu38 rfl ts38 rfl rfl (At.whole (H2.box 0 rfl))) (sV rfl (py_buildS Tryz_pl66 rfl rfl) (s_stoS (wn rfl) ts66 rfl rfl rfl rfl H2 1 rfl rfl (fun w4 e4 H4 => ?_)))))))))))
  dsimp only [lNA, lCA, lSZ, lSS, layL] at H4
  refine s_nil (W_ret (hQ _ _ (finC Tryz.results127 rfl (run_loadVarS tu66 rfl ts66 rfl (At.whole (H4.box 1 rfl))) ?_)))
  exact ⟨H4.ext, rfl⟩
theorem Tryz_impl_DropVoid_full {w : World} {z : Wld} {zA9 zA10 zA11 : Option Addr} {zC9 zC10 zC11 : Nat} (zK : z.Ok) (zS9 : Sees w [.slice zA9 z.Groups.length zC9] z.Groups) (zS10 : Sees w [.slice zA10 z.On.length zC10] z.On) (zS11 : Sees w [.slice zA11 z.Tapes.length zC11] z.Tapes) (hb : szWld z ≤ 1048576) (hc : (dropL z (voids z)).1 = 2) : Ret Tryz.prog 56 #[z.val zA9 zC9 zA10 zC10 zA11 zC11] w fun v w' => Ext No w w' ∧ (∃ A10 C10 A11 C11 A12 C12, v = (dropF z).val A10 C10 A11 C11 A12 C12 ∧ Res w w' [.int .i64 (dropF z).Code, .int .i64 (dropF z).Wd.Shape.Groups, .int .i64 (dropF z).Wd.Shape.Column, .int .i64 (dropF z).Wd.Shape.Data, .int .i64 (dropF z).Wd.Shape.Spare, .int .i64 (dropF z).Wd.Shape.Rows, .int .i64 (dropF z).Wd.Shape.Cap, .int .i64 (dropF z).Wd.Shape.Batch, .int .i64 (dropF z).Wd.Shape.Queue, .int .i64 (dropF z).Wd.Shape.Stage, .slice A10 (dropF z).Wd.Groups.length C10, .slice A11 (dropF z).Wd.On.length C11, .slice A12 (dropF z).Wd.Tapes.length C12, .int .i64 (dropF z).Wd.Writes, .int .i64 (dropF z).Wd.Stop, .bool (dropF z).Wd.Down] (dropF z)) := by
 have zK2 := zK
 unfold Wld.Ok Shape.Ok at zK2
 try unfold I64ok at zK2
 try unfold maxLen at zK2
 have zL9 := sL zS9
 obtain ⟨zF9, zO9⟩ := zS9
 have zL10 := sL zS10
 obtain ⟨zF10, zO10⟩ := zS10
 have zL11 := sL zS11
 obtain ⟨zF11, zO11⟩ := zS11
 refine ret_Q (vs := [z.val zA9 zC9 zA10 zC10 zA11 zC11]) Tryz.func56 rfl Tryz.ntmps56 rfl (fun Q hQ hN => ?_)
 have H0 := Sep.start (w := w) (F := [seen false [.slice zA9 z.Groups.length zC9] z.Groups zF9, seen false [.slice zA10 z.On.length zC10] z.On zF10, seen false [.slice zA11 z.Tapes.length zC11] z.Tapes zF11]) (all_cons zO9 (all_cons zO10 (all_cons zO11 (by simp))))
 refine W_sr (s_box (wn rfl) rfl rfl H0 (fun b1 w1 e1 g1 H1 => ?_))
 refine s_var (wn rfl) rfl Tryz.zeroValue66 H1 (fun b2 w2 e2 g2 H2 => ?_)
 refine s_nil (W_seq (W_sr (sV rfl (py_loadS tu38 rfl ts38 rfl rfl (At.whole (H2.box 0 rfl))) (s_call (wn rfl) rfl rfl (pc_call Tryz.func117 rfl Tryz_nm117 rfl) (Tryz_impl_upFault (by assumption) (H2.sees 0 rfl) (H2.sees 1 rfl) (H2.sees 2 rfl)) (fun v1 w3 r1 => ?_)))))
 obtain ⟨e3, rfl⟩ := r1
 have H3 := H2.to e3
 refine sA rfl rfl (s_nil (W_sr (sM rfl rfl (sV rfl (py_neq rfl rfl) (s_nil (W_ifd rfl (fun c1 => ?_) (fun c1 => ?_)))))))
 ·refine W_sr (sM rfl rfl (sV rfl (py_buildS Tryz_pl66 rfl rfl) (s_stoS (wn rfl) ts66 rfl rfl rfl rfl H3 1 rfl rfl (fun w4 e4 H4 => ?_))))
  dsimp only [lNA, lCA, lSZ, lSS, layL] at H4
  refine s_nil (W_ret (hQ _ _ (finC Tryz.results56 rfl (run_loadVarS tu66 rfl ts66 rfl (At.whole (H4.box 1 rfl))) ?_)))
  rw [dropF_bad (by omega)]
  exact ⟨H4.ext, none, 0, none, 0, none, 0, rfl, wld_nil (by unfold I64ok; have := upF_cd (z := z); (try dsimp only); omega)⟩
 ·refine W_skip (W_seq ?_)
  have hu : upF z = 0 := by omega
  obtain ⟨hwf, hdn⟩ := upF_ok hu
  have hT := (worldF_ok hwf).2.2.2.1
  obtain ⟨hw0, hw1, _, _⟩ := worldF_rng hwf
  have hrl := recs_le hwf
  refine W_reg (sV rfl (py_loadS tu38 rfl ts38 rfl rfl (At.whole (H3.box 0 rfl))) (s_call (wn rfl) rfl rfl (pc_call Tryz.func121 rfl Tryz_nm121 rfl) (Tryz_impl_cloneWorld (by assumption) (H3.sees 0 rfl) (H3.sees 1 rfl) (H3.sees 2 rfl) (by first | assumption | omega)) (fun v2 w5 r2 => ?_)))
  obtain ⟨e5, sa1, sk1, sa2, sk2, sa3, sk3, rfl, r2⟩ := r2
  obtain ⟨fp1, H5⟩ := H3.res e5 r2
  obtain ⟨sf1, sf2, sf3, sq1, sok1, so1, so2, so3⟩ := own_WldC (H5.mine 2 rfl)
  have H6 := H5.part 2 rfl [mine [.slice _ z.Groups.length _] z.Groups sf1, mine [.slice _ z.On.length _] z.On sf2, mine [.slice _ z.Tapes.length _] z.Tapes sf3] (all_cons so1 (all_cons so2 (all_cons so3 (by simp)))) (by simp [blocks, mine, sq1])
  try dsimp only [lNA, lCA, lSZ, lSS] at H6
  refine s_var (wn rfl) rfl Tryz.zeroValue38 H6 (fun b3 w6 e6 g3 H7 => ?_)
  refine s_stoS (wn rfl) ts38 rfl rfl rfl rfl H7 6 rfl rfl (fun w7 e7 H8 => ?_)
  dsimp only [lNA, lCA, lSZ, lSS, layL] at H8
  refine s_nil (W_sr ?_)
  obtain ⟨fp2, H9⟩ := H8.closeW 6 3 4 5 z rfl rfl rfl rfl rfl rfl rfl rfl rfl rfl zK
  try dsimp only [lNA, lCA, lSZ, lSS] at H9
  refine s_call (wn rfl) rfl rfl (pc_call Tryz.func132 rfl Tryz_nm132 rfl) (Tryz_impl_World_dropVoid (H9.wldAt 6 rfl) (H9.nodup1 (i := 6) rfl) (by first | assumption | omega) (by first | assumption | omega)) (fun v3 w8 r3 => ?_)
  obtain ⟨rfl, mm1⟩ := r3
  obtain ⟨fp3, H10⟩ := H9.mutW 6 rfl mm1
  try dsimp only [lNA, lCA, lSZ, lSS] at H10
  refine sA rfl rfl (s_nil (W_seq ?_))
  obtain ⟨wA1, wC1, wA2, wC2, wA3, wC3, wf1, wf2, wf3, wok1, H11⟩ := H10.openW 6 rfl
  try dsimp only [lNA, lCA, lSZ, lSS] at H11
  have wok1U := wok1
  unfold Wld.Ok Shape.Ok I64ok at wok1U
  have wL1 := oL (H11.mine 8 rfl)
  have wL2 := oL (H11.mine 9 rfl)
  have wL3 := oL (H11.mine 10 rfl)
  refine W_reg (sV rfl (py_loadS tu38 rfl ts38 rfl rfl (At.whole (H11.box 6 rfl))) (sM rfl rfl (s_call (wn rfl) rfl rfl (pc_call Tryz.func123 rfl Tryz_nm123 rfl) (Tryz_impl_changed_no (by assumption) (H11.msees 8 rfl) (H11.msees 9 rfl) (H11.msees 10 rfl) (by first | assumption | omega)) (fun v4 w9 r4 => ?_))))
  obtain ⟨e9, rfl⟩ := r4
  have H12 := H11.to e9
  refine s_stoS (wn rfl) ts66 rfl rfl rfl rfl H12 1 rfl rfl (fun w10 e10 H13 => ?_)
  dsimp only [lNA, lCA, lSZ, lSS, layL] at H13
  refine s_nil (W_ret (hQ _ _ (finC Tryz.results56 rfl (run_loadVarS tu66 rfl ts66 rfl (At.whole (H13.box 1 rfl))) ?_)))
  rw [(show dropF z = ⟨(dropL z (voids z)).1, noWld⟩ by rw [dropF_full hu hc, hc])]
  exact ⟨H13.ext, none, 0, none, 0, none, 0, rfl, wld_nil (by unfold I64ok; (try dsimp only); omega)⟩
theorem Tryz_impl_DropVoid_ok {w : World} {z : Wld} {zA9 zA10 zA11 : Option Addr} {zC9 zC10 zC11 : Nat} (zK : z.Ok) (zS9 : Sees w [.slice zA9 z.Groups.length zC9] z.Groups) (zS10 : Sees w [.slice zA10 z.On.length zC10] z.On) (zS11 : Sees w [.slice zA11 z.Tapes.length zC11] z.Tapes) (hb : szWld z ≤ 1048576) (hc : (dropL z (voids z)).1 = 0 ∨ (dropL z (voids z)).1 = 9) : Ret Tryz.prog 56 #[z.val zA9 zC9 zA10 zC10 zA11 zC11] w fun v w' => Ext No w w' ∧ (∃ A10 C10 A11 C11 A12 C12, v = (dropF z).val A10 C10 A11 C11 A12 C12 ∧ Res w w' [.int .i64 (dropF z).Code, .int .i64 (dropF z).Wd.Shape.Groups, .int .i64 (dropF z).Wd.Shape.Column, .int .i64 (dropF z).Wd.Shape.Data, .int .i64 (dropF z).Wd.Shape.Spare, .int .i64 (dropF z).Wd.Shape.Rows, .int .i64 (dropF z).Wd.Shape.Cap, .int .i64 (dropF z).Wd.Shape.Batch, .int .i64 (dropF z).Wd.Shape.Queue, .int .i64 (dropF z).Wd.Shape.Stage, .slice A10 (dropF z).Wd.Groups.length C10, .slice A11 (dropF z).Wd.On.length C11, .slice A12 (dropF z).Wd.Tapes.length C12, .int .i64 (dropF z).Wd.Writes, .int .i64 (dropF z).Wd.Stop, .bool (dropF z).Wd.Down] (dropF z)) := by
 have zK2 := zK
 unfold Wld.Ok Shape.Ok at zK2
 try unfold I64ok at zK2
 try unfold maxLen at zK2
 have zL9 := sL zS9
 obtain ⟨zF9, zO9⟩ := zS9
 have zL10 := sL zS10
 obtain ⟨zF10, zO10⟩ := zS10
 have zL11 := sL zS11
 obtain ⟨zF11, zO11⟩ := zS11
 refine ret_Q (vs := [z.val zA9 zC9 zA10 zC10 zA11 zC11]) Tryz.func56 rfl Tryz.ntmps56 rfl (fun Q hQ hN => ?_)
 have H0 := Sep.start (w := w) (F := [seen false [.slice zA9 z.Groups.length zC9] z.Groups zF9, seen false [.slice zA10 z.On.length zC10] z.On zF10, seen false [.slice zA11 z.Tapes.length zC11] z.Tapes zF11]) (all_cons zO9 (all_cons zO10 (all_cons zO11 (by simp))))
 refine W_sr (s_box (wn rfl) rfl rfl H0 (fun b1 w1 e1 g1 H1 => ?_))
 refine s_var (wn rfl) rfl Tryz.zeroValue66 H1 (fun b2 w2 e2 g2 H2 => ?_)
 refine s_nil (W_seq (W_sr (sV rfl (py_loadS tu38 rfl ts38 rfl rfl (At.whole (H2.box 0 rfl))) (s_call (wn rfl) rfl rfl (pc_call Tryz.func117 rfl Tryz_nm117 rfl) (Tryz_impl_upFault (by assumption) (H2.sees 0 rfl) (H2.sees 1 rfl) (H2.sees 2 rfl)) (fun v1 w3 r1 => ?_)))))
 obtain ⟨e3, rfl⟩ := r1
 have H3 := H2.to e3
 refine sA rfl rfl (s_nil (W_sr (sM rfl rfl (sV rfl (py_neq rfl rfl) (s_nil (W_ifd rfl (fun c1 => ?_) (fun c1 => ?_)))))))
 ·refine W_sr (sM rfl rfl (sV rfl (py_buildS Tryz_pl66 rfl rfl) (s_stoS (wn rfl) ts66 rfl rfl rfl rfl H3 1 rfl rfl (fun w4 e4 H4 => ?_))))
  dsimp only [lNA, lCA, lSZ, lSS, layL] at H4
  refine s_nil (W_ret (hQ _ _ (finC Tryz.results56 rfl (run_loadVarS tu66 rfl ts66 rfl (At.whole (H4.box 1 rfl))) ?_)))
  rw [dropF_bad (by omega)]
  exact ⟨H4.ext, none, 0, none, 0, none, 0, rfl, wld_nil (by unfold I64ok; have := upF_cd (z := z); (try dsimp only); omega)⟩
 ·refine W_skip (W_seq ?_)
  have hu : upF z = 0 := by omega
  obtain ⟨hwf, hdn⟩ := upF_ok hu
  have hT := (worldF_ok hwf).2.2.2.1
  obtain ⟨hw0, hw1, _, _⟩ := worldF_rng hwf
  have hrl := recs_le hwf
  refine W_reg (sV rfl (py_loadS tu38 rfl ts38 rfl rfl (At.whole (H3.box 0 rfl))) (s_call (wn rfl) rfl rfl (pc_call Tryz.func121 rfl Tryz_nm121 rfl) (Tryz_impl_cloneWorld (by assumption) (H3.sees 0 rfl) (H3.sees 1 rfl) (H3.sees 2 rfl) (by first | assumption | omega)) (fun v2 w5 r2 => ?_)))
  obtain ⟨e5, sa1, sk1, sa2, sk2, sa3, sk3, rfl, r2⟩ := r2
  obtain ⟨fp1, H5⟩ := H3.res e5 r2
  obtain ⟨sf1, sf2, sf3, sq1, sok1, so1, so2, so3⟩ := own_WldC (H5.mine 2 rfl)
  have H6 := H5.part 2 rfl [mine [.slice _ z.Groups.length _] z.Groups sf1, mine [.slice _ z.On.length _] z.On sf2, mine [.slice _ z.Tapes.length _] z.Tapes sf3] (all_cons so1 (all_cons so2 (all_cons so3 (by simp)))) (by simp [blocks, mine, sq1])
  try dsimp only [lNA, lCA, lSZ, lSS] at H6
  refine s_var (wn rfl) rfl Tryz.zeroValue38 H6 (fun b3 w6 e6 g3 H7 => ?_)
  refine s_stoS (wn rfl) ts38 rfl rfl rfl rfl H7 6 rfl rfl (fun w7 e7 H8 => ?_)
  dsimp only [lNA, lCA, lSZ, lSS, layL] at H8
  refine s_nil (W_sr ?_)
  obtain ⟨fp2, H9⟩ := H8.closeW 6 3 4 5 z rfl rfl rfl rfl rfl rfl rfl rfl rfl rfl zK
  try dsimp only [lNA, lCA, lSZ, lSS] at H9
  refine s_call (wn rfl) rfl rfl (pc_call Tryz.func132 rfl Tryz_nm132 rfl) (Tryz_impl_World_dropVoid (H9.wldAt 6 rfl) (H9.nodup1 (i := 6) rfl) (by first | assumption | omega) (by first | assumption | omega)) (fun v3 w8 r3 => ?_)
  obtain ⟨rfl, mm1⟩ := r3
  obtain ⟨fp3, H10⟩ := H9.mutW 6 rfl mm1
  try dsimp only [lNA, lCA, lSZ, lSS] at H10
  refine sA rfl rfl (s_nil (W_seq ?_))
  obtain ⟨wA1, wC1, wA2, wC2, wA3, wC3, wf1, wf2, wf3, wok1, H11⟩ := H10.openW 6 rfl
  try dsimp only [lNA, lCA, lSZ, lSS] at H11
  have wok1U := wok1
  unfold Wld.Ok Shape.Ok I64ok at wok1U
  have wL1 := oL (H11.mine 8 rfl)
  have wL2 := oL (H11.mine 9 rfl)
  have wL3 := oL (H11.mine 10 rfl)
  refine W_reg (sV rfl (py_loadS tu38 rfl ts38 rfl rfl (At.whole (H11.box 6 rfl))) (sM rfl rfl (s_call (wn rfl) rfl rfl (pc_call Tryz.func123 rfl Tryz_nm123 rfl) (Tryz_impl_changed_yes (by assumption) (H11.msees 8 rfl) (H11.msees 9 rfl) (H11.msees 10 rfl) (by first | assumption | (split <;> simp))) (fun v4 w9 r4 => ?_))))
  obtain ⟨e9, rfl⟩ := r4
  have H12 := H11.to e9
  refine s_stoS (wn rfl) ts66 rfl rfl rfl rfl H12 1 rfl rfl (fun w10 e10 H13 => ?_)
  dsimp only [lNA, lCA, lSZ, lSS, layL] at H13
  refine s_nil (W_ret (hQ _ _ (finC Tryz.results56 rfl (run_loadVarS tu66 rfl ts66 rfl (At.whole (H13.box 1 rfl))) ?_)))
  rw [dropF_ok hu (by omega)]
  exact ⟨H13.ext, _, _, _, _, _, _, rfl, WldResult.out (x := ⟨(dropL z (voids z)).1, (dropL z (voids z)).2⟩) (H13.sub (.cons _ (.cons _ (.cons _ (.cons _ (.cons _ (.cons _ (.cons _ (.cons _ (.cons_cons _ (.cons_cons _ (.cons_cons _ List.Sublist.slnil)))))))))))) ⟨(by show I64ok (dropL z (voids z)).1; unfold I64ok; omega), (by assumption)⟩⟩
theorem Tryz_impl_DropVoid {w : World} {z : Wld} {zA9 zA10 zA11 : Option Addr} {zC9 zC10 zC11 : Nat} (zK : z.Ok) (zS9 : Sees w [.slice zA9 z.Groups.length zC9] z.Groups) (zS10 : Sees w [.slice zA10 z.On.length zC10] z.On) (zS11 : Sees w [.slice zA11 z.Tapes.length zC11] z.Tapes) (hb : szWld z ≤ 1048576) : Ret Tryz.prog 56 #[z.val zA9 zC9 zA10 zC10 zA11 zC11] w fun v w' => Ext No w w' ∧ (∃ A10 C10 A11 C11 A12 C12, v = (dropF z).val A10 C10 A11 C11 A12 C12 ∧ Res w w' [.int .i64 (dropF z).Code, .int .i64 (dropF z).Wd.Shape.Groups, .int .i64 (dropF z).Wd.Shape.Column, .int .i64 (dropF z).Wd.Shape.Data, .int .i64 (dropF z).Wd.Shape.Spare, .int .i64 (dropF z).Wd.Shape.Rows, .int .i64 (dropF z).Wd.Shape.Cap, .int .i64 (dropF z).Wd.Shape.Batch, .int .i64 (dropF z).Wd.Shape.Queue, .int .i64 (dropF z).Wd.Shape.Stage, .slice A10 (dropF z).Wd.Groups.length C10, .slice A11 (dropF z).Wd.On.length C11, .slice A12 (dropF z).Wd.Tapes.length C12, .int .i64 (dropF z).Wd.Writes, .int .i64 (dropF z).Wd.Stop, .bool (dropF z).Wd.Down] (dropF z)) := by
 by_cases h2 : (dropL z (voids z)).1 = 2
 ·exact Tryz_impl_DropVoid_full zK zS9 zS10 zS11 hb h2
 ·exact Tryz_impl_DropVoid_ok zK zS9 zS10 zS11 hb (by have := dropL_bd (z := z) (rs := voids z); omega)
theorem Tryz_spec_DropVoid_full {w : World} {z : Wld} {zA9 zA10 zA11 : Option Addr} {zC9 zC10 zC11 : Nat} (zK : z.Ok) (zS9 : Sees w [.slice zA9 z.Groups.length zC9] z.Groups) (zS10 : Sees w [.slice zA10 z.On.length zC10] z.On) (zS11 : Sees w [.slice zA11 z.Tapes.length zC11] z.Tapes) (hb : szWld z ≤ 1048576) (hc : (dropL z (voids z)).1 = 2) : Ret Tryz.prog 55 #[z.val zA9 zC9 zA10 zC10 zA11 zC11] w fun v w' => Ext No w w' ∧ (∃ A10 C10 A11 C11 A12 C12, v = (dropF z).val A10 C10 A11 C11 A12 C12 ∧ Res w w' [.int .i64 (dropF z).Code, .int .i64 (dropF z).Wd.Shape.Groups, .int .i64 (dropF z).Wd.Shape.Column, .int .i64 (dropF z).Wd.Shape.Data, .int .i64 (dropF z).Wd.Shape.Spare, .int .i64 (dropF z).Wd.Shape.Rows, .int .i64 (dropF z).Wd.Shape.Cap, .int .i64 (dropF z).Wd.Shape.Batch, .int .i64 (dropF z).Wd.Shape.Queue, .int .i64 (dropF z).Wd.Shape.Stage, .slice A10 (dropF z).Wd.Groups.length C10, .slice A11 (dropF z).Wd.On.length C11, .slice A12 (dropF z).Wd.Tapes.length C12, .int .i64 (dropF z).Wd.Writes, .int .i64 (dropF z).Wd.Stop, .bool (dropF z).Wd.Down] (dropF z)) := by
 have zK2 := zK
 unfold Wld.Ok Shape.Ok at zK2
 try unfold I64ok at zK2
 try unfold maxLen at zK2
 have zL9 := sL zS9
 obtain ⟨zF9, zO9⟩ := zS9
 have zL10 := sL zS10
 obtain ⟨zF10, zO10⟩ := zS10
 have zL11 := sL zS11
 obtain ⟨zF11, zO11⟩ := zS11
 refine ret_Q (vs := [z.val zA9 zC9 zA10 zC10 zA11 zC11]) Tryz.func55 rfl Tryz.ntmps55 rfl (fun Q hQ hN => ?_)
 have H0 := Sep.start (w := w) (F := [seen false [.slice zA9 z.Groups.length zC9] z.Groups zF9, seen false [.slice zA10 z.On.length zC10] z.On zF10, seen false [.slice zA11 z.Tapes.length zC11] z.Tapes zF11]) (all_cons zO9 (all_cons zO10 (all_cons zO11 (by simp))))
 refine W_sr (s_box (wn rfl) rfl rfl H0 (fun b1 w1 e1 g1 H1 => ?_))
 refine s_var (wn rfl) rfl Tryz.zeroValue66 H1 (fun b2 w2 e2 g2 H2 => ?_)
 refine s_nil (W_seq (W_sr (sV rfl (py_loadS tu38 rfl ts38 rfl rfl (At.whole (H2.box 0 rfl))) (s_call (wn rfl) rfl rfl (pc_call Tryz.func125 rfl Tryz_nm125 rfl) (Tryz_spec_l5Asked (by assumption) (H2.sees 0 rfl) (H2.sees 1 rfl) (H2.sees 2 rfl)) (fun v1 w3 r1 => ?_)))))
 obtain ⟨e3, rfl⟩ := r1
 have H3 := H2.to e3
 refine sA rfl rfl (s_nil (W_sr (sM rfl rfl (sV rfl (py_neq rfl rfl) (s_nil (W_ifd rfl (fun c1 => ?_) (fun c1 => ?_)))))))
 ·refine W_sr (sM rfl rfl (sV rfl (py_buildS Tryz_pl66 rfl rfl) (s_stoS (wn rfl) ts66 rfl rfl rfl rfl H3 1 rfl rfl (fun w4 e4 H4 => ?_))))
  dsimp only [lNA, lCA, lSZ, lSS, layL] at H4
  refine s_nil (W_ret (hQ _ _ (finC Tryz.results55 rfl (run_loadVarS tu66 rfl ts66 rfl (At.whole (H4.box 1 rfl))) ?_)))
  rw [dropF_bad (by omega)]
  exact ⟨H4.ext, none, 0, none, 0, none, 0, rfl, wld_nil (by unfold I64ok; have := upF_cd (z := z); (try dsimp only); omega)⟩
 ·refine W_skip (W_seq ?_)
  have hu : upF z = 0 := by omega
  obtain ⟨hwf, hdn⟩ := upF_ok hu
  have hT := (worldF_ok hwf).2.2.2.1
  obtain ⟨hw0, hw1, _, _⟩ := worldF_rng hwf
  have hrl := recs_le hwf
  refine W_reg (sV rfl (py_loadS tu38 rfl ts38 rfl rfl (At.whole (H3.box 0 rfl))) (s_call (wn rfl) rfl rfl (pc_call Tryz.func113 rfl Tryz_nm113 rfl) (Tryz_spec_l5Copy (by assumption) (H3.sees 0 rfl) (H3.sees 1 rfl) (H3.sees 2 rfl) (by first | assumption | omega)) (fun v2 w5 r2 => ?_)))
  obtain ⟨e5, sa1, sk1, sa2, sk2, sa3, sk3, rfl, r2⟩ := r2
  obtain ⟨fp1, H5⟩ := H3.res e5 r2
  obtain ⟨sf1, sf2, sf3, sq1, sok1, so1, so2, so3⟩ := own_WldC (H5.mine 2 rfl)
  have H6 := H5.part 2 rfl [mine [.slice _ z.Groups.length _] z.Groups sf1, mine [.slice _ z.On.length _] z.On sf2, mine [.slice _ z.Tapes.length _] z.Tapes sf3] (all_cons so1 (all_cons so2 (all_cons so3 (by simp)))) (by simp [blocks, mine, sq1])
  try dsimp only [lNA, lCA, lSZ, lSS] at H6
  refine s_var (wn rfl) rfl Tryz.zeroValue38 H6 (fun b3 w6 e6 g3 H7 => ?_)
  refine s_stoS (wn rfl) ts38 rfl rfl rfl rfl H7 6 rfl rfl (fun w7 e7 H8 => ?_)
  dsimp only [lNA, lCA, lSZ, lSS, layL] at H8
  refine s_nil (W_sr ?_)
  obtain ⟨fp2, H9⟩ := H8.closeW 6 3 4 5 z rfl rfl rfl rfl rfl rfl rfl rfl rfl rfl zK
  try dsimp only [lNA, lCA, lSZ, lSS] at H9
  refine s_call (wn rfl) rfl rfl (pc_call Tryz.func131 rfl Tryz_nm131 rfl) (Tryz_spec_l8Drop (H9.wldAt 6 rfl) (H9.nodup1 (i := 6) rfl) (by first | assumption | omega) (by first | assumption | omega) (by first | assumption | omega)) (fun v3 w8 r3 => ?_)
  obtain ⟨rfl, mm1⟩ := r3
  obtain ⟨fp3, H10⟩ := H9.mutW 6 rfl mm1
  try dsimp only [lNA, lCA, lSZ, lSS] at H10
  refine sA rfl rfl (s_nil (W_seq ?_))
  obtain ⟨wA1, wC1, wA2, wC2, wA3, wC3, wf1, wf2, wf3, wok1, H11⟩ := H10.openW 6 rfl
  try dsimp only [lNA, lCA, lSZ, lSS] at H11
  have wok1U := wok1
  unfold Wld.Ok Shape.Ok I64ok at wok1U
  have wL1 := oL (H11.mine 8 rfl)
  have wL2 := oL (H11.mine 9 rfl)
  have wL3 := oL (H11.mine 10 rfl)
  refine W_reg (sV rfl (py_loadS tu38 rfl ts38 rfl rfl (At.whole (H11.box 6 rfl))) (sM rfl rfl (s_call (wn rfl) rfl rfl (pc_call Tryz.func127 rfl Tryz_nm127 rfl) (Tryz_coded_no (by assumption) (H11.msees 8 rfl) (H11.msees 9 rfl) (H11.msees 10 rfl) (by first | assumption | omega)) (fun v4 w9 r4 => ?_))))
  obtain ⟨e9, rfl⟩ := r4
  have H12 := H11.to e9
  refine s_stoS (wn rfl) ts66 rfl rfl rfl rfl H12 1 rfl rfl (fun w10 e10 H13 => ?_)
  dsimp only [lNA, lCA, lSZ, lSS, layL] at H13
  refine s_nil (W_ret (hQ _ _ (finC Tryz.results55 rfl (run_loadVarS tu66 rfl ts66 rfl (At.whole (H13.box 1 rfl))) ?_)))
  rw [(show dropF z = ⟨(dropL z (voids z)).1, noWld⟩ by rw [dropF_full hu hc, hc])]
  exact ⟨H13.ext, none, 0, none, 0, none, 0, rfl, wld_nil (by unfold I64ok; (try dsimp only); omega)⟩
theorem Tryz_spec_DropVoid_ok {w : World} {z : Wld} {zA9 zA10 zA11 : Option Addr} {zC9 zC10 zC11 : Nat} (zK : z.Ok) (zS9 : Sees w [.slice zA9 z.Groups.length zC9] z.Groups) (zS10 : Sees w [.slice zA10 z.On.length zC10] z.On) (zS11 : Sees w [.slice zA11 z.Tapes.length zC11] z.Tapes) (hb : szWld z ≤ 1048576) (hc : (dropL z (voids z)).1 = 0 ∨ (dropL z (voids z)).1 = 9) : Ret Tryz.prog 55 #[z.val zA9 zC9 zA10 zC10 zA11 zC11] w fun v w' => Ext No w w' ∧ (∃ A10 C10 A11 C11 A12 C12, v = (dropF z).val A10 C10 A11 C11 A12 C12 ∧ Res w w' [.int .i64 (dropF z).Code, .int .i64 (dropF z).Wd.Shape.Groups, .int .i64 (dropF z).Wd.Shape.Column, .int .i64 (dropF z).Wd.Shape.Data, .int .i64 (dropF z).Wd.Shape.Spare, .int .i64 (dropF z).Wd.Shape.Rows, .int .i64 (dropF z).Wd.Shape.Cap, .int .i64 (dropF z).Wd.Shape.Batch, .int .i64 (dropF z).Wd.Shape.Queue, .int .i64 (dropF z).Wd.Shape.Stage, .slice A10 (dropF z).Wd.Groups.length C10, .slice A11 (dropF z).Wd.On.length C11, .slice A12 (dropF z).Wd.Tapes.length C12, .int .i64 (dropF z).Wd.Writes, .int .i64 (dropF z).Wd.Stop, .bool (dropF z).Wd.Down] (dropF z)) := by
 have zK2 := zK
 unfold Wld.Ok Shape.Ok at zK2
 try unfold I64ok at zK2
 try unfold maxLen at zK2
 have zL9 := sL zS9
 obtain ⟨zF9, zO9⟩ := zS9
 have zL10 := sL zS10
 obtain ⟨zF10, zO10⟩ := zS10
 have zL11 := sL zS11
 obtain ⟨zF11, zO11⟩ := zS11
 refine ret_Q (vs := [z.val zA9 zC9 zA10 zC10 zA11 zC11]) Tryz.func55 rfl Tryz.ntmps55 rfl (fun Q hQ hN => ?_)
 have H0 := Sep.start (w := w) (F := [seen false [.slice zA9 z.Groups.length zC9] z.Groups zF9, seen false [.slice zA10 z.On.length zC10] z.On zF10, seen false [.slice zA11 z.Tapes.length zC11] z.Tapes zF11]) (all_cons zO9 (all_cons zO10 (all_cons zO11 (by simp))))
 refine W_sr (s_box (wn rfl) rfl rfl H0 (fun b1 w1 e1 g1 H1 => ?_))
 refine s_var (wn rfl) rfl Tryz.zeroValue66 H1 (fun b2 w2 e2 g2 H2 => ?_)
 refine s_nil (W_seq (W_sr (sV rfl (py_loadS tu38 rfl ts38 rfl rfl (At.whole (H2.box 0 rfl))) (s_call (wn rfl) rfl rfl (pc_call Tryz.func125 rfl Tryz_nm125 rfl) (Tryz_spec_l5Asked (by assumption) (H2.sees 0 rfl) (H2.sees 1 rfl) (H2.sees 2 rfl)) (fun v1 w3 r1 => ?_)))))
 obtain ⟨e3, rfl⟩ := r1
 have H3 := H2.to e3
 refine sA rfl rfl (s_nil (W_sr (sM rfl rfl (sV rfl (py_neq rfl rfl) (s_nil (W_ifd rfl (fun c1 => ?_) (fun c1 => ?_)))))))
 ·refine W_sr (sM rfl rfl (sV rfl (py_buildS Tryz_pl66 rfl rfl) (s_stoS (wn rfl) ts66 rfl rfl rfl rfl H3 1 rfl rfl (fun w4 e4 H4 => ?_))))
  dsimp only [lNA, lCA, lSZ, lSS, layL] at H4
  refine s_nil (W_ret (hQ _ _ (finC Tryz.results55 rfl (run_loadVarS tu66 rfl ts66 rfl (At.whole (H4.box 1 rfl))) ?_)))
  rw [dropF_bad (by omega)]
  exact ⟨H4.ext, none, 0, none, 0, none, 0, rfl, wld_nil (by unfold I64ok; have := upF_cd (z := z); (try dsimp only); omega)⟩
 ·refine W_skip (W_seq ?_)
  have hu : upF z = 0 := by omega
  obtain ⟨hwf, hdn⟩ := upF_ok hu
  have hT := (worldF_ok hwf).2.2.2.1
  obtain ⟨hw0, hw1, _, _⟩ := worldF_rng hwf
  have hrl := recs_le hwf
  refine W_reg (sV rfl (py_loadS tu38 rfl ts38 rfl rfl (At.whole (H3.box 0 rfl))) (s_call (wn rfl) rfl rfl (pc_call Tryz.func113 rfl Tryz_nm113 rfl) (Tryz_spec_l5Copy (by assumption) (H3.sees 0 rfl) (H3.sees 1 rfl) (H3.sees 2 rfl) (by first | assumption | omega)) (fun v2 w5 r2 => ?_)))
  obtain ⟨e5, sa1, sk1, sa2, sk2, sa3, sk3, rfl, r2⟩ := r2
  obtain ⟨fp1, H5⟩ := H3.res e5 r2
  obtain ⟨sf1, sf2, sf3, sq1, sok1, so1, so2, so3⟩ := own_WldC (H5.mine 2 rfl)
  have H6 := H5.part 2 rfl [mine [.slice _ z.Groups.length _] z.Groups sf1, mine [.slice _ z.On.length _] z.On sf2, mine [.slice _ z.Tapes.length _] z.Tapes sf3] (all_cons so1 (all_cons so2 (all_cons so3 (by simp)))) (by simp [blocks, mine, sq1])
  try dsimp only [lNA, lCA, lSZ, lSS] at H6
  refine s_var (wn rfl) rfl Tryz.zeroValue38 H6 (fun b3 w6 e6 g3 H7 => ?_)
  refine s_stoS (wn rfl) ts38 rfl rfl rfl rfl H7 6 rfl rfl (fun w7 e7 H8 => ?_)
  dsimp only [lNA, lCA, lSZ, lSS, layL] at H8
  refine s_nil (W_sr ?_)
  obtain ⟨fp2, H9⟩ := H8.closeW 6 3 4 5 z rfl rfl rfl rfl rfl rfl rfl rfl rfl rfl zK
  try dsimp only [lNA, lCA, lSZ, lSS] at H9
  refine s_call (wn rfl) rfl rfl (pc_call Tryz.func131 rfl Tryz_nm131 rfl) (Tryz_spec_l8Drop (H9.wldAt 6 rfl) (H9.nodup1 (i := 6) rfl) (by first | assumption | omega) (by first | assumption | omega) (by first | assumption | omega)) (fun v3 w8 r3 => ?_)
  obtain ⟨rfl, mm1⟩ := r3
  obtain ⟨fp3, H10⟩ := H9.mutW 6 rfl mm1
  try dsimp only [lNA, lCA, lSZ, lSS] at H10
  refine sA rfl rfl (s_nil (W_seq ?_))
  obtain ⟨wA1, wC1, wA2, wC2, wA3, wC3, wf1, wf2, wf3, wok1, H11⟩ := H10.openW 6 rfl
  try dsimp only [lNA, lCA, lSZ, lSS] at H11
  have wok1U := wok1
  unfold Wld.Ok Shape.Ok I64ok at wok1U
  have wL1 := oL (H11.mine 8 rfl)
  have wL2 := oL (H11.mine 9 rfl)
  have wL3 := oL (H11.mine 10 rfl)
  refine W_reg (sV rfl (py_loadS tu38 rfl ts38 rfl rfl (At.whole (H11.box 6 rfl))) (sM rfl rfl (s_call (wn rfl) rfl rfl (pc_call Tryz.func127 rfl Tryz_nm127 rfl) (Tryz_coded_yes (by assumption) (H11.msees 8 rfl) (H11.msees 9 rfl) (H11.msees 10 rfl) (by first | assumption | (split <;> simp))) (fun v4 w9 r4 => ?_))))
  obtain ⟨e9, rfl⟩ := r4
  have H12 := H11.to e9
  refine s_stoS (wn rfl) ts66 rfl rfl rfl rfl H12 1 rfl rfl (fun w10 e10 H13 => ?_)
  dsimp only [lNA, lCA, lSZ, lSS, layL] at H13
  refine s_nil (W_ret (hQ _ _ (finC Tryz.results55 rfl (run_loadVarS tu66 rfl ts66 rfl (At.whole (H13.box 1 rfl))) ?_)))
  rw [dropF_ok hu (by omega)]
  exact ⟨H13.ext, _, _, _, _, _, _, rfl, WldResult.out (x := ⟨(dropL z (voids z)).1, (dropL z (voids z)).2⟩) (H13.sub (.cons _ (.cons _ (.cons _ (.cons _ (.cons _ (.cons _ (.cons _ (.cons _ (.cons_cons _ (.cons_cons _ (.cons_cons _ List.Sublist.slnil)))))))))))) ⟨(by show I64ok (dropL z (voids z)).1; unfold I64ok; omega), (by assumption)⟩⟩
theorem Tryz_spec_DropVoid {w : World} {z : Wld} {zA9 zA10 zA11 : Option Addr} {zC9 zC10 zC11 : Nat} (zK : z.Ok) (zS9 : Sees w [.slice zA9 z.Groups.length zC9] z.Groups) (zS10 : Sees w [.slice zA10 z.On.length zC10] z.On) (zS11 : Sees w [.slice zA11 z.Tapes.length zC11] z.Tapes) (hb : szWld z ≤ 1048576) : Ret Tryz.prog 55 #[z.val zA9 zC9 zA10 zC10 zA11 zC11] w fun v w' => Ext No w w' ∧ (∃ A10 C10 A11 C11 A12 C12, v = (dropF z).val A10 C10 A11 C11 A12 C12 ∧ Res w w' [.int .i64 (dropF z).Code, .int .i64 (dropF z).Wd.Shape.Groups, .int .i64 (dropF z).Wd.Shape.Column, .int .i64 (dropF z).Wd.Shape.Data, .int .i64 (dropF z).Wd.Shape.Spare, .int .i64 (dropF z).Wd.Shape.Rows, .int .i64 (dropF z).Wd.Shape.Cap, .int .i64 (dropF z).Wd.Shape.Batch, .int .i64 (dropF z).Wd.Shape.Queue, .int .i64 (dropF z).Wd.Shape.Stage, .slice A10 (dropF z).Wd.Groups.length C10, .slice A11 (dropF z).Wd.On.length C11, .slice A12 (dropF z).Wd.Tapes.length C12, .int .i64 (dropF z).Wd.Writes, .int .i64 (dropF z).Wd.Stop, .bool (dropF z).Wd.Down] (dropF z)) := by
 by_cases h2 : (dropL z (voids z)).1 = 2
 ·exact Tryz_spec_DropVoid_full zK zS9 zS10 zS11 hb h2
 ·exact Tryz_spec_DropVoid_ok zK zS9 zS10 zS11 hb (by have := dropL_bd (z := z) (rs := voids z); omega)
end Go.Wk
namespace Go.Wk
open Go.Proofs Rp
set_option maxRecDepth 10000
set_option maxHeartbeats 2000000 in
theorem Tryz_laws_FnExactDropVoid {w : World} {z : Wld} {zA9 zA10 zA11 : Option Addr} {zC9 zC10 zC11 : Nat} (zK : z.Ok) (zS9 : Sees w [.slice zA9 z.Groups.length zC9] z.Groups) (zS10 : Sees w [.slice zA10 z.On.length zC10] z.On) (zS11 : Sees w [.slice zA11 z.Tapes.length zC11] z.Tapes) : Ret Tryz.prog 13 #[z.val zA9 zC9 zA10 zC10 zA11 zC11] w fun v w' => Ext No w w' ∧ (v = .bool true) := by
 have zK2 := zK
 unfold Wld.Ok Shape.Ok at zK2
 try unfold I64ok at zK2
 try unfold maxLen at zK2
 have zL9 := sL zS9
 obtain ⟨zF9, zO9⟩ := zS9
 have zL10 := sL zS10
 obtain ⟨zF10, zO10⟩ := zS10
 have zL11 := sL zS11
 obtain ⟨zF11, zO11⟩ := zS11
 refine ret_Q (vs := [z.val zA9 zC9 zA10 zC10 zA11 zC11]) Tryz.func13 rfl Tryz.ntmps13 rfl (fun Q hQ hN => ?_)
 have H0 := Sep.start (w := w) (F := [seen false [.slice zA9 z.Groups.length zC9] z.Groups zF9, seen false [.slice zA10 z.On.length zC10] z.On zF10, seen false [.slice zA11 z.Tapes.length zC11] z.Tapes zF11]) (all_cons zO9 (all_cons zO10 (all_cons zO11 (by simp))))
 refine W_sr (s_box (wn rfl) rfl rfl H0 (fun b1 w1 e1 g1 H1 => ?_))
 refine sA rfl rfl (s_nil (W_sr (sA rfl rfl (s_nil (W_sr (sV rfl (py_loadS tu28 rfl ts28 rfl rfl (At.whole (H1.box 0 rfl))) (sM rfl rfl (s_call (wn rfl) rfl rfl (pc_call Tryz.func15 rfl Tryz_nm15 rfl) (Tryz_laws_szWorld (by assumption) (H1.sees 0 rfl) (H1.sees 1 rfl) (H1.sees 2 rfl) (by omega)) (fun v1 w2 r1 => ?_)))))))))
 obtain ⟨e2, rfl⟩ := r1
 have H2 := H1.to e2
 refine sA rfl rfl (s_nil (W_seq (W_sr (sM rfl rfl (sV rfl (py_lss rfl rfl) (s_nil (W_ifd rfl (fun c1 => ?_) (fun c1 => ?_))))))))
 ·refine W_sr (sA rfl rfl (s_nil (rT hQ Tryz.results13 rfl ?_)))
  exact ⟨H2.ext, rfl⟩
 ·refine W_skip (W_seq ?_)
  have hsz : szWld z ≤ 1048576 := by omega
  have hmk := mkWld_le z
  have hml := mk_drop (z := z)
  have hOk := drop_Ok zK
  refine W_reg (sV rfl (py_loadS tu28 rfl ts28 rfl rfl (At.whole (H2.box 0 rfl))) (s_call (wn rfl) rfl rfl (pc_call Tryz.func17 rfl Tryz_nm17 rfl) (Tryz_laws_toWorld (by assumption) (H2.sees 0 rfl) (H2.sees 1 rfl) (H2.sees 2 rfl) (by assumption)) (fun v2 w3 r2 => ?_)))
  obtain ⟨e3, sa1, sk1, sa2, sk2, sa3, sk3, rfl, r2⟩ := r2
  obtain ⟨fp1, H3⟩ := H2.res e3 r2
  have H4 := H3.share 1 rfl
  obtain ⟨sf1, sf2, sf3, sq1, sok1, so1, so2, so3⟩ := own_WldC (H4.seen 3 rfl)
  have H6 := H4.look1 3 rfl so1 (fun b hb => by rw [sq1]; simp [hb])
  have H7 := H6.look1 3 rfl so2 (fun b hb => by rw [sq1]; simp [hb])
  have H8 := H7.look1 3 rfl so3 (fun b hb => by rw [sq1]; simp [hb])
  refine s_call (wn rfl) rfl rfl (pc_call Tryz.func55 rfl Tryz_nm55 rfl) (Tryz_spec_DropVoid (by assumption) (H8.sees 4 rfl) (H8.sees 5 rfl) (H8.sees 6 rfl) (by first | assumption | omega)) (fun v3 w4 r3 => ?_)
  obtain ⟨e4, sa4, sk4, sa5, sk5, sa6, sk6, rfl, r3⟩ := r3
  obtain ⟨fp2, H9⟩ := H8.res e4 r3
  have H10 := H9.share 2 rfl
  obtain ⟨sf4, sf5, sf6, sq2, sok2, so4, so5, so6⟩ := own_WldResultC (H10.seen 7 rfl)
  have H12 := H10.look1 7 rfl so4 (fun b hb => by rw [sq2]; simp [hb])
  have H13 := H12.look1 7 rfl so5 (fun b hb => by rw [sq2]; simp [hb])
  have H14 := H13.look1 7 rfl so6 (fun b hb => by rw [sq2]; simp [hb])
  refine s_var (wn rfl) rfl Tryz.zeroValue66 H14 (fun b2 w5 e5 g2 H15 => ?_)
  refine s_stoS (wn rfl) ts66 rfl rfl rfl rfl H15 3 rfl rfl (fun w6 e6 H16 => ?_)
  dsimp only [lNA, lCA, lSZ, lSS, layL] at H16
  refine s_nil (W_sr (sV rfl (py_loadS tu28 rfl ts28 rfl rfl (At.whole (H16.box 0 rfl))) (s_call (wn rfl) rfl rfl (pc_call Tryz.func17 rfl Tryz_nm17 rfl) (Tryz_laws_toWorld (by assumption) (H16.sees 0 rfl) (H16.sees 1 rfl) (H16.sees 2 rfl) (by assumption)) (fun v4 w7 r4 => ?_))))
  obtain ⟨e7, sa7, sk7, sa8, sk8, sa9, sk9, rfl, r4⟩ := r4
  obtain ⟨fp3, H17⟩ := H16.res e7 r4
  refine s_var (wn rfl) rfl Tryz.zeroValue38 H17 (fun b3 w8 e8 g3 H18 => ?_)
  refine s_stoS (wn rfl) ts38 rfl rfl rfl rfl H18 5 rfl rfl (fun w9 e9 H19 => ?_)
  dsimp only [lNA, lCA, lSZ, lSS, layL] at H19
  refine s_nil (W_sr (sV rfl (py_loadS tu38 rfl ts38 rfl rfl (At.whole (H19.box 5 rfl))) (s_call (wn rfl) rfl rfl (pc_call Tryz.func56 rfl Tryz_nm56 rfl) (Tryz_impl_DropVoid (by assumption) (Wld.see9 (H19.mine 4 rfl)) (Wld.see10 (H19.mine 4 rfl)) (Wld.see11 (H19.mine 4 rfl)) (by first | assumption | omega)) (fun v5 w10 r5 => ?_))))
  obtain ⟨e10, sa10, sk10, sa11, sk11, sa12, sk12, rfl, r5⟩ := r5
  obtain ⟨fp4, H20⟩ := H19.res e10 r5
  refine s_var (wn rfl) rfl Tryz.zeroValue66 H20 (fun b4 w11 e11 g4 H21 => ?_)
  refine s_stoS (wn rfl) ts66 rfl rfl rfl rfl H21 7 rfl rfl (fun w12 e12 H22 => ?_)
  dsimp only [lNA, lCA, lSZ, lSS, layL] at H22
  refine s_nil (W_seq (W_sr (sV rfl (py_loadS tu66 rfl ts66 rfl rfl (At.whole (H22.box 7 rfl))) (sV rfl (py_loadS tu66 rfl ts66 rfl rfl (At.whole (H22.box 3 rfl))) (s_call (wn rfl) rfl rfl (pc_call Tryz.func46 rfl Tryz_nm46 rfl) (Tryz_laws_eqWorldResult (by assumption) (WldResult.see10 (H22.mine 6 rfl)) (WldResult.see11 (H22.mine 6 rfl)) (WldResult.see12 (H22.mine 6 rfl)) (by assumption) (H22.sees 8 rfl) (H22.sees 9 rfl) (H22.sees 10 rfl)) (fun v6 w13 r6 => ?_))))))
  obtain ⟨e13, rfl⟩ := r6
  have H23 := H22.to e13
  refine sV rfl (py_not rfl) (s_nil (W_if rfl (fun c2 => ?_) (fun c2 => ?_)))
  ·exfalso; simp_all
  ·refine W_skip (W_seq (W_seq (W_drw (S := Ext No _) [(0, true), (1, true), (2, false), (3, false), (4, false)] (by kernel_rfl) (by kernel_rfl) (by kernel_rfl) rfl (fun _ => Ext.refl.drawn _) (fun q1 => ?_))))
   have H24 := H23.drawn q1
   refine dV rfl rfl (fun zw hx => py_loadS tu38 rfl ts38 rfl rfl (At.whole (hx.heap (H24.box 5 rfl)))) (dV rfl rfl (fun zw hx => py_loadS tu28 rfl ts28 rfl rfl (At.whole (hx.heap (H24.box 0 rfl)))) (d_call rfl (wn rfl) rfl rfl (pc_call Tryz.func17 rfl Tryz_nm17 rfl) (Tryz_laws_toWorld (by assumption) (H24.sees 0 rfl) (H24.sees 1 rfl) (H24.sees 2 rfl) (by assumption)) (fun hS _ _ r _ => hS.trans r.1.no) (fun v7 w14 r7 => ?_)))
   obtain ⟨e14, sa13, sk13, sa14, sk14, sa15, sk15, rfl, r7⟩ := r7
   obtain ⟨fp5, H25⟩ := H24.res e14 r7
   have H26 := H25.share 8 rfl
   obtain ⟨sf7, sf8, sf9, sq3, sok3, so7, so8, so9⟩ := own_WldC (H26.seen 11 rfl)
   have H28 := H26.look1 11 rfl so7 (fun b hb => by rw [sq3]; simp [hb])
   have H29 := H28.look1 11 rfl so8 (fun b hb => by rw [sq3]; simp [hb])
   have H30 := H29.look1 11 rfl so9 (fun b hb => by rw [sq3]; simp [hb])
   refine d_call rfl (wn rfl) rfl rfl (pc_call Tryz.func20 rfl Tryz_nm20 rfl) (Tryz_laws_eqWorld (by assumption) (Wld.see9 (H30.mine 4 rfl)) (Wld.see10 (H30.mine 4 rfl)) (Wld.see11 (H30.mine 4 rfl)) (by assumption) (H30.sees 12 rfl) (H30.sees 13 rfl) (H30.sees 14 rfl)) (fun hS _ _ r _ => hS.trans r.1.no) (fun v8 w15 r8 => ?_)
   obtain ⟨e15, rfl⟩ := r8
   have H31 := H30.to e15
   refine d_end rfl (wn rfl) rfl rfl (py_not rfl) (d_nil (W_if rfl (fun c3 => ?_) (fun c3 => ?_)))
   ·exfalso; simp_all
   ·refine W_skip (W_sr (sA rfl rfl (s_nil (W_sr (sV rfl (py_loadS tu38 rfl ts38 rfl rfl (At.whole (H31.box 5 rfl))) (sM rfl rfl (s_call (wn rfl) rfl rfl (pc_call Tryz.func21 rfl Tryz_nm21 rfl) (Tryz_laws_markWorld (by assumption) (H31.mine 4 rfl) (H31.nodup1 (i := 4) rfl) (by constructor <;> omega)) (fun v9 w16 r9 => ?_))))))))
    obtain ⟨rfl, mx1, mm1, ml1⟩ := r9
    obtain ⟨fp6, H32⟩ := H31.mut 4 rfl mm1
    try dsimp only [lNA, lCA, lSZ, lSS] at H32
    refine sA rfl rfl (s_nil (W_seq (W_sr (sM rfl rfl (sV rfl (py_lss rfl rfl) (sM rfl rfl (s_grp 4 (j := 2) (want := false) (t := 41) rfl rfl rfl rfl (fun hg1 kk1 => s_val (wgE rfl rfl rfl hg1) rfl rfl (py_loadS tu66 rfl ts66 rfl rfl (At.whole (H32.box 7 rfl))) (s_val (wgE rfl rfl rfl hg1) rfl rfl (py_loadS tu66 rfl ts66 rfl rfl (At.whole (H32.box 3 rfl))) (s_callv (wgE rfl rfl rfl hg1) rfl rfl (pc_call Tryz.func46 rfl Tryz_nm46 rfl) (Tryz_laws_eqWorldResult (by assumption) (WldResult.see10 (H32.mine 6 rfl)) (WldResult.see11 (H32.mine 6 rfl)) (WldResult.see12 (H32.mine 6 rfl)) (by assumption) (H32.sees 8 rfl) (H32.sees 9 rfl) (H32.sees 10 rfl)) (fun w18 e18 => s_val (wgE rfl rfl rfl hg1) rfl rfl (py_not rfl) (kk1 _ _ (kx rfl (kx rfl (kx rfl (kx rfl k0)))) rfl (Ext.refl.trans e18)))))) (fun w17 e17 => ?_))))))))
    have H33 := H32.to e17
    refine sV rfl (py_bor rfl rfl) (s_nil (W_if rfl (fun c4 => ?_) (fun c4 => ?_)))
    ·exact absurd c4 (by simp; omega)
    ·refine W_skip (W_sr (sA rfl rfl (s_nil (W_sr (sV rfl (py_loadS tu66 rfl ts66 rfl rfl (At.whole (H33.box 7 rfl))) (sM rfl rfl (s_call (wn rfl) rfl rfl (pc_call Tryz.func49 rfl Tryz_nm49 rfl) (Tryz_laws_markWorldResult (H33.mine 6 rfl) (H33.nodup1 (i := 6) rfl) (by constructor <;> omega)) (fun v10 w19 r10 => ?_))))))))
     obtain ⟨rfl, mx2, mm2, ml2⟩ := r10
     obtain ⟨fp7, H34⟩ := H33.mut 6 rfl mm2
     try dsimp only [lNA, lCA, lSZ, lSS] at H34
     refine sA rfl rfl (s_nil (W_sr (sA rfl rfl (s_nil (W_sr (sV rfl (py_loadS tu66 rfl ts66 rfl rfl (At.whole (H34.box 7 rfl))) (sM rfl rfl (s_call (wn rfl) rfl rfl (pc_call Tryz.func50 rfl Tryz_nm50 rfl) (Tryz_laws_heldWorldResult (x := mx2) (wr_see (H34.mine 6 rfl)).1 (wr_see (H34.mine 6 rfl)).2.1 (wr_see (H34.mine 6 rfl)).2.2 (by have := ml2.2.2.2.1; constructor <;> omega) ml2.2.2.2.2.1) (fun v11 w20 r11 => ?_)))))))))
     obtain ⟨e20, rfl⟩ := r11
     have H35 := H34.to e20
     refine sA rfl rfl (s_nil (W_seq (W_seq ?_)))
     have hq := ml2.2.2.2.1
     refine W_reg (sM rfl rfl (sV rfl (py_lss rfl rfl) (s_nil (W_ifd rfl (fun c5 => ?_) (fun c5 => ?_)))))
     ·exact absurd c5 (by omega)
     ·refine W_skip (W_seq (W_sr (sM rfl rfl (sM rfl rfl (sV rfl (py_neq rfl rfl) (s_nil (W_ifd rfl (fun c6 => ?_) (fun c6 => ?_))))))))
      ·exact absurd c6 (by omega)
      ·refine W_skip (W_sr (sV rfl (py_loadS tu28 rfl ts28 rfl rfl (At.whole (H35.box 0 rfl))) (s_call (wn rfl) rfl rfl (pc_call Tryz.func17 rfl Tryz_nm17 rfl) (Tryz_laws_toWorld (by assumption) (H35.sees 0 rfl) (H35.sees 1 rfl) (H35.sees 2 rfl) (by assumption)) (fun v12 w21 r12 => ?_))))
       obtain ⟨e21, sa16, sk16, sa17, sk17, sa18, sk18, rfl, r12⟩ := r12
       obtain ⟨fp8, H36⟩ := H35.res e21 r12
       have H37 := H36.share 9 rfl
       obtain ⟨sf10, sf11, sf12, sq4, sok4, so10, so11, so12⟩ := own_WldC (H37.seen 15 rfl)
       have H39 := H37.look1 15 rfl so10 (fun b hb => by rw [sq4]; simp [hb])
       have H40 := H39.look1 15 rfl so11 (fun b hb => by rw [sq4]; simp [hb])
       have H41 := H40.look1 15 rfl so12 (fun b hb => by rw [sq4]; simp [hb])
       refine s_call (wn rfl) rfl rfl (pc_call Tryz.func56 rfl Tryz_nm56 rfl) (Tryz_impl_DropVoid (by assumption) (H41.sees 16 rfl) (H41.sees 17 rfl) (H41.sees 18 rfl) (by first | assumption | omega)) (fun v13 w22 r13 => ?_)
       obtain ⟨e22, sa19, sk19, sa20, sk20, sa21, sk21, rfl, r13⟩ := r13
       obtain ⟨fp9, H42⟩ := H41.res e22 r13
       have H43 := H42.share 10 rfl
       obtain ⟨sf13, sf14, sf15, sq5, sok5, so13, so14, so15⟩ := own_WldResultC (H43.seen 19 rfl)
       have H45 := H43.look1 19 rfl so13 (fun b hb => by rw [sq5]; simp [hb])
       have H46 := H45.look1 19 rfl so14 (fun b hb => by rw [sq5]; simp [hb])
       have H47 := H46.look1 19 rfl so15 (fun b hb => by rw [sq5]; simp [hb])
       refine s_var (wn rfl) rfl Tryz.zeroValue66 H47 (fun b5 w23 e23 g5 H48 => ?_)
       refine s_stoS (wn rfl) ts66 rfl rfl rfl rfl H48 11 rfl rfl (fun w24 e24 H49 => ?_)
       dsimp only [lNA, lCA, lSZ, lSS, layL] at H49
       refine s_nil (W_seq (W_sr (sV rfl (py_loadS tu66 rfl ts66 rfl rfl (At.whole (H49.box 11 rfl))) (sV rfl (py_loadS tu66 rfl ts66 rfl rfl (At.whole (H49.box 3 rfl))) (s_call (wn rfl) rfl rfl (pc_call Tryz.func46 rfl Tryz_nm46 rfl) (Tryz_laws_eqWorldResult (by assumption) (H49.sees 20 rfl) (H49.sees 21 rfl) (H49.sees 22 rfl) (by assumption) (H49.sees 8 rfl) (H49.sees 9 rfl) (H49.sees 10 rfl)) (fun v14 w25 r14 => ?_))))))
       obtain ⟨e25, rfl⟩ := r14
       have H50 := H49.to e25
       refine sV rfl (py_not rfl) (s_nil (W_if rfl (fun c7 => ?_) (fun c7 => ?_)))
       ·exfalso; simp_all
       ·refine W_skip (W_sr (sA rfl rfl (s_nil (W_sr (sV rfl (py_loadS tu66 rfl ts66 rfl rfl (At.whole (H50.box 7 rfl))) (sM rfl rfl (s_call (wn rfl) rfl rfl (pc_call Tryz.func50 rfl Tryz_nm50 rfl) (Tryz_laws_heldWorldResult (x := mx2) (wr_see (H50.mine 6 rfl)).1 (wr_see (H50.mine 6 rfl)).2.1 (wr_see (H50.mine 6 rfl)).2.2 (by have := ml2.2.2.2.1; constructor <;> omega) ml2.2.2.2.2.1) (fun v15 w26 r15 => ?_))))))))
        obtain ⟨e26, rfl⟩ := r15
        have H51 := H50.to e26
        refine sA rfl rfl (s_nil (W_seq (W_sr (sM rfl rfl (sV rfl (py_lss rfl rfl) (s_nil (W_ifd rfl (fun c8 => ?_) (fun c8 => ?_))))))))
        ·exact absurd c8 (by omega)
        ·refine W_skip (W_seq (W_sr (sM rfl rfl (sM rfl rfl (sV rfl (py_neq rfl rfl) (s_nil (W_ifd rfl (fun c9 => ?_) (fun c9 => ?_))))))))
         ·exact absurd c9 (by omega)
         ·refine W_skip (W_sr (sA rfl rfl (s_nil (rT hQ Tryz.results13 rfl ?_))))
          exact ⟨H51.ext, rfl⟩
end Go.Wk
