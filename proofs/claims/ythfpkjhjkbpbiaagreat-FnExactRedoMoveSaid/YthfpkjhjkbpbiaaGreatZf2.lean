/-
  Laws on walking, and the functions walked, each once: what this claim comes to.
-/
import Derived.Test.YthfpkjhjkbpbiaaGreatZf1
set_option linter.unusedVariables false
set_option linter.unusedSimpArgs false
namespace Go.Wk
open Go.Proofs Rp
set_option maxRecDepth 10000
theorem Tryz_IndexFunc_int64 {w : World} {xs : List Int} {xsA : Option Addr} {xsC : Nat} {gf : FuncId} {gL : List Value} {gF : Func} (xsS : Sees w [.slice xsA xs.length xsC] xs) {p : Int → Bool} (gH : Tryz.prog.funcs[gf]? = some gF) (gB : gF.body.isNone = false) (gN : NG gF) (gC : ∀ w1, Ext No w w1 → ∀ (i0 : Nat), i0 < xs.length → Ret Tryz.prog gf (([.int .i64 (xs.getD i0 0)] : List Value) ++ gL).toArray w1 fun v w' => Ext No w1 w' ∧ v = .bool (p (xs.getD i0 0))) : Ret Tryz.prog 328 #[.slice xsA xs.length xsC, .func (.func gf) #[] gL.toArray] w fun v w' => Ext No w w' ∧ (v = .int .i64 (firstOf p xs)) := by
 have xsL := sL xsS
 obtain ⟨xsF, xsO⟩ := xsS
 refine ret_Q (vs := [.slice xsA xs.length xsC, .func (.func gf) #[] gL.toArray]) Tryz.func328 rfl Tryz.ntmps328 rfl (fun Q hQ hN => ?_)
 have H0 := Sep.start (w := w) (F := [seen false [.slice xsA xs.length xsC] xs xsF]) (all_cons xsO (by simp))
 refine W_sr (sA rfl rfl (s_nil (W_seq (W_sr (sM rfl rfl (sV rfl (py_len tu25 rfl) (sM rfl rfl (s_nil (W_block (W_loopS (γ := Nat) H0 [(0, _), (1, _), (7, _)] ⟨rfl, rfl, rfl, trivial⟩ (fun k => [(8, .int .i64 k)]) (fun k => k ≤ xs.length ∧ (∀ i, i < k → p (xs.getD i 0) = false)) (fun k => xs.length - k) 0 ⟨rfl, trivial⟩ ⟨by omega, fun i hi => by omega⟩ (fun k w1 H1 ⟨hk, he⟩ => ?_)))))))))))
 dsimp only [lCA, lNA]
 refine W_sr (sV rfl (py_lss rfl rfl) (s_nil (W_seq (W_ifd rfl (fun c1 => ?_) (fun c1 => ?_)))))
 ·refine W_skip (W_seq (W_block (W_sr (sM rfl rfl (sA rfl rfl (s_nil (W_seq ?_)))))))
  obtain ⟨eb1, eo1, ee1, ec1⟩ := elem_int (H1.seen 0 rfl) k (by omega)
  have eI1 := elem_i64 (H1.seen 0 rfl) k (by omega)
  refine W_reg (sM rfl rfl (sM rfl rfl (sM rfl rfl (sV rfl (py_elz tu25 ts2 rfl rfl ee1 k (by omega) (by omega)) (sV rfl (py_load tu2 rfl rfl ec1) (s_call (wn rfl) rfl rfl (pc_callv (lb := gL) rfl gH gB gN rfl) (gC _ H1.ext k (by omega)) (fun v1 w2 r1 => ?_)))))))
  obtain ⟨e1, rfl⟩ := r1
  have H2 := H1.to e1
  refine s_nil (W_if rfl (fun c2 => ?_) (fun c2 => ?_))
  ·refine W_sr (sM rfl rfl (sA rfl rfl (s_nil (rT hQ Tryz.results328 rfl ?_))))
   exact ⟨H2.ext, congrArg (Value.int .i64) (firstOf_at (d := 0) (by omega) (by assumption) he).symm⟩
  ·refine W_skip (W_reg (sV rfl (py_add rfl rfl (in64 ⟨by omega, by omega⟩)) (sM rfl rfl (s_nil (⟨k + 1, ⟨rfl, rfl, rfl, rfl, trivial⟩, ⟨H2, by omega, fun i hi => ?_⟩, by dsimp only; omega⟩)))))
   by_cases e : i = k
   ·subst e
    assumption
   ·exact he i (by omega)
 ·refine W_exit (W_sr (sA rfl rfl (s_nil (rT hQ Tryz.results328 rfl ?_))))
  exact ⟨H1.ext, congrArg (Value.int .i64) (firstOf_no (d := 0) (fun i hi => he i (by omega))).symm⟩
theorem Tryz_ContainsFunc_int64 {w : World} {xs : List Int} {xsA : Option Addr} {xsC : Nat} {gf : FuncId} {gL : List Value} {gF : Func} (xsS : Sees w [.slice xsA xs.length xsC] xs) {p : Int → Bool} (gH : Tryz.prog.funcs[gf]? = some gF) (gB : gF.body.isNone = false) (gN : NG gF) (gC : ∀ w1, Ext No w w1 → ∀ (i0 : Nat), i0 < xs.length → Ret Tryz.prog gf (([.int .i64 (xs.getD i0 0)] : List Value) ++ gL).toArray w1 fun v w' => Ext No w1 w' ∧ v = .bool (p (xs.getD i0 0))) : Ret Tryz.prog 280 #[.slice xsA xs.length xsC, .func (.func gf) #[] gL.toArray] w fun v w' => Ext No w w' ∧ (v = .bool (xs.any p)) := by
 have xsL := sL xsS
 obtain ⟨xsF, xsO⟩ := xsS
 refine ret_Q (vs := [.slice xsA xs.length xsC, .func (.func gf) #[] gL.toArray]) Tryz.func280 rfl Tryz.ntmps280 rfl (fun Q hQ hN => ?_)
 have H0 := Sep.start (w := w) (F := [seen false [.slice xsA xs.length xsC] xs xsF]) (all_cons xsO (by simp))
 refine W_sr (sA rfl rfl (s_nil (W_sr (sM rfl rfl (sM rfl rfl (s_call (wn rfl) rfl rfl (pc_call Tryz.func328 rfl Tryz_nm328 rfl) (Tryz_IndexFunc_int64 (H0.sees 0 rfl) gH gB gN (fun w1 e1 => gC w1 (H0.ext.trans e1))) (fun v1 w1 r1 => ?_)))))))
 obtain ⟨e1, rfl⟩ := r1
 have H1 := H0.to e1
 refine sV rfl (py_geq rfl rfl) (sA rfl rfl (s_nil (rT hQ Tryz.results280 rfl ?_)))
 exact ⟨H1.ext, by rw [← firstOf_any]⟩
theorem Tryz_IndexFunc_Block {w : World} {xs : List Block} {xsA : Option Addr} {xsC : Nat} {gf : FuncId} {gL : List Value} {gF : Func} (xsS : Sees w [.slice xsA xs.length xsC] xs) {p : Block → Bool} (gH : Tryz.prog.funcs[gf]? = some gF) (gB : gF.body.isNone = false) (gN : NG gF) (gC : ∀ w1, Ext No w w1 → ∀ (i0 : Nat), i0 < xs.length → ∀ (A0_1 : Option Addr) (C0_1 : Nat) (_ : (xs.getD i0 default).Ok) (_ : Sees w1 [.slice A0_1 (xs.getD i0 default).Bytes.length C0_1] (xs.getD i0 default).Bytes), Ret Tryz.prog gf (([(xs.getD i0 default).val A0_1 C0_1] : List Value) ++ gL).toArray w1 fun v w' => Ext No w1 w' ∧ v = .bool (p (xs.getD i0 default))) : Ret Tryz.prog 308 #[.slice xsA xs.length xsC, .func (.func gf) #[] gL.toArray] w fun v w' => Ext No w w' ∧ (v = .int .i64 (firstOf p xs)) := by
 have xsL := sL xsS
 obtain ⟨xsF, xsO⟩ := xsS
 refine ret_Q (vs := [.slice xsA xs.length xsC, .func (.func gf) #[] gL.toArray]) Tryz.func308 rfl Tryz.ntmps308 rfl (fun Q hQ hN => ?_)
 have H0 := Sep.start (w := w) (F := [seen false [.slice xsA xs.length xsC] xs xsF]) (all_cons xsO (by simp))
 refine W_sr (sA rfl rfl (s_nil (W_seq (W_sr (sM rfl rfl (sV rfl (py_len tu178 rfl) (sM rfl rfl (s_nil (W_block (W_loopS (γ := Nat) H0 [(0, _), (1, _), (7, _)] ⟨rfl, rfl, rfl, trivial⟩ (fun k => [(8, .int .i64 k)]) (fun k => k ≤ xs.length ∧ (∀ i, i < k → p (xs.getD i default) = false)) (fun k => xs.length - k) 0 ⟨rfl, trivial⟩ ⟨by omega, fun i hi => by omega⟩ (fun k w1 H1 ⟨hk, he⟩ => ?_)))))))))))
 dsimp only [lCA, lNA]
 refine W_sr (sV rfl (py_lss rfl rfl) (s_nil (W_seq (W_ifd rfl (fun c1 => ?_) (fun c1 => ?_)))))
 ·refine W_skip (W_seq (W_block (W_sr (sM rfl rfl (sA rfl rfl (s_nil (W_seq ?_)))))))
  obtain ⟨eb1, eo1, es1, ef1, ee1, ec1, eO1, eH1, em1⟩ := elem_st (H1.seen 0 rfl) k (by omega)
  obtain ⟨ea1, ek1, eg1, rfl, eq1, eK1, eo2⟩ := own_Block eO1
  have eK1U := eK1
  unfold Block.Ok at eK1U
  try unfold I64ok at eK1U
  try unfold maxLen at eK1U
  have eP1 := H1.look1 0 rfl eo2 (fun b hb => eH1 b (by rw [eq1]; simp [hb]))
  have eL1 := oL eo2
  refine W_reg (sM rfl rfl (sM rfl rfl (sM rfl rfl (sV rfl (py_elz tu178 ts182 rfl rfl ee1 k (by omega) (by omega)) (sV rfl (py_loadS tu182 rfl ts182 rfl rfl ec1) (s_call (wn rfl) rfl rfl (pc_callv (lb := gL) rfl gH gB gN rfl) (gC _ eP1.ext k (by omega) _ _ (by assumption) (eP1.sees 1 rfl)) (fun v1 w2 r1 => ?_)))))))
  obtain ⟨e1, rfl⟩ := r1
  have H2 := eP1.to e1
  refine s_nil (W_if rfl (fun c2 => ?_) (fun c2 => ?_))
  ·refine W_sr (sM rfl rfl (sA rfl rfl (s_nil (rT hQ Tryz.results308 rfl ?_))))
   exact ⟨H2.ext, congrArg (Value.int .i64) (firstOf_at (d := default) (by omega) (by assumption) he).symm⟩
  ·refine W_skip (W_reg (sV rfl (py_add rfl rfl (in64 ⟨by omega, by omega⟩)) (sM rfl rfl (s_nil (⟨k + 1, ⟨rfl, rfl, rfl, rfl, trivial⟩, ⟨(H2.ftake 1), by omega, fun i hi => ?_⟩, by dsimp only; omega⟩)))))
   by_cases e : i = k
   ·subst e
    assumption
   ·exact he i (by omega)
 ·refine W_exit (W_sr (sA rfl rfl (s_nil (rT hQ Tryz.results308 rfl ?_))))
  exact ⟨H1.ext, congrArg (Value.int .i64) (firstOf_no (d := default) (fun i hi => he i (by omega))).symm⟩
theorem Tryz_ContainsFunc_Block {w : World} {xs : List Block} {xsA : Option Addr} {xsC : Nat} {gf : FuncId} {gL : List Value} {gF : Func} (xsS : Sees w [.slice xsA xs.length xsC] xs) {p : Block → Bool} (gH : Tryz.prog.funcs[gf]? = some gF) (gB : gF.body.isNone = false) (gN : NG gF) (gC : ∀ w1, Ext No w w1 → ∀ (i0 : Nat), i0 < xs.length → ∀ (A0_1 : Option Addr) (C0_1 : Nat) (_ : (xs.getD i0 default).Ok) (_ : Sees w1 [.slice A0_1 (xs.getD i0 default).Bytes.length C0_1] (xs.getD i0 default).Bytes), Ret Tryz.prog gf (([(xs.getD i0 default).val A0_1 C0_1] : List Value) ++ gL).toArray w1 fun v w' => Ext No w1 w' ∧ v = .bool (p (xs.getD i0 default))) : Ret Tryz.prog 240 #[.slice xsA xs.length xsC, .func (.func gf) #[] gL.toArray] w fun v w' => Ext No w w' ∧ (v = .bool (xs.any p)) := by
 have xsL := sL xsS
 obtain ⟨xsF, xsO⟩ := xsS
 refine ret_Q (vs := [.slice xsA xs.length xsC, .func (.func gf) #[] gL.toArray]) Tryz.func240 rfl Tryz.ntmps240 rfl (fun Q hQ hN => ?_)
 have H0 := Sep.start (w := w) (F := [seen false [.slice xsA xs.length xsC] xs xsF]) (all_cons xsO (by simp))
 refine W_sr (sA rfl rfl (s_nil (W_sr (sM rfl rfl (sM rfl rfl (s_call (wn rfl) rfl rfl (pc_call Tryz.func308 rfl Tryz_nm308 rfl) (Tryz_IndexFunc_Block (H0.sees 0 rfl) gH gB gN (fun w1 e1 => gC w1 (H0.ext.trans e1))) (fun v1 w1 r1 => ?_)))))))
 obtain ⟨e1, rfl⟩ := r1
 have H1 := H0.to e1
 refine sV rfl (py_geq rfl rfl) (sA rfl rfl (s_nil (rT hQ Tryz.results240 rfl ?_)))
 exact ⟨H1.ext, by rw [← firstOf_any]⟩
theorem Tryz_IndexFunc_Tape {w : World} {xs : List Tape} {xsA : Option Addr} {xsC : Nat} {gf : FuncId} {gL : List Value} {gF : Func} (xsS : Sees w [.slice xsA xs.length xsC] xs) {p : Tape → Bool} (gH : Tryz.prog.funcs[gf]? = some gF) (gB : gF.body.isNone = false) (gN : NG gF) (gC : ∀ w1, Ext No w w1 → ∀ (i0 : Nat), i0 < xs.length → ∀ (A0_1 : Option Addr) (C0_1 : Nat) (_ : (xs.getD i0 default).Ok) (_ : Sees w1 [.slice A0_1 (xs.getD i0 default).Recs.length C0_1] (xs.getD i0 default).Recs), Ret Tryz.prog gf (([(xs.getD i0 default).val A0_1 C0_1] : List Value) ++ gL).toArray w1 fun v w' => Ext No w1 w' ∧ v = .bool (p (xs.getD i0 default))) : Ret Tryz.prog 310 #[.slice xsA xs.length xsC, .func (.func gf) #[] gL.toArray] w fun v w' => Ext No w w' ∧ (v = .int .i64 (firstOf p xs)) := by
 have xsL := sL xsS
 obtain ⟨xsF, xsO⟩ := xsS
 refine ret_Q (vs := [.slice xsA xs.length xsC, .func (.func gf) #[] gL.toArray]) Tryz.func310 rfl Tryz.ntmps310 rfl (fun Q hQ hN => ?_)
 have H0 := Sep.start (w := w) (F := [seen false [.slice xsA xs.length xsC] xs xsF]) (all_cons xsO (by simp))
 refine W_sr (sA rfl rfl (s_nil (W_seq (W_sr (sM rfl rfl (sV rfl (py_len tu36 rfl) (sM rfl rfl (s_nil (W_block (W_loopS (γ := Nat) H0 [(0, _), (1, _), (7, _)] ⟨rfl, rfl, rfl, trivial⟩ (fun k => [(8, .int .i64 k)]) (fun k => k ≤ xs.length ∧ (∀ i, i < k → p (xs.getD i default) = false)) (fun k => xs.length - k) 0 ⟨rfl, trivial⟩ ⟨by omega, fun i hi => by omega⟩ (fun k w1 H1 ⟨hk, he⟩ => ?_)))))))))))
 dsimp only [lCA, lNA]
 refine W_sr (sV rfl (py_lss rfl rfl) (s_nil (W_seq (W_ifd rfl (fun c1 => ?_) (fun c1 => ?_)))))
 ·refine W_skip (W_seq (W_block (W_sr (sM rfl rfl (sA rfl rfl (s_nil (W_seq ?_)))))))
  obtain ⟨eb1, eo1, es1, ef1, ee1, ec1, eO1, eH1, em1⟩ := elem_st (H1.seen 0 rfl) k (by omega)
  obtain ⟨ea1, ek1, eg1, rfl, eq1, eK1, eo2⟩ := own_Tape eO1
  have eP1 := H1.look1 0 rfl eo2 (fun b hb => eH1 b (by rw [eq1]; simp [hb]))
  have eL1 := oL eo2
  refine W_reg (sM rfl rfl (sM rfl rfl (sM rfl rfl (sV rfl (py_elz tu36 ts139 rfl rfl ee1 k (by omega) (by omega)) (sV rfl (py_loadS tu139 rfl ts139 rfl rfl ec1) (s_call (wn rfl) rfl rfl (pc_callv (lb := gL) rfl gH gB gN rfl) (gC _ eP1.ext k (by omega) _ _ (by assumption) (eP1.sees 1 rfl)) (fun v1 w2 r1 => ?_)))))))
  obtain ⟨e1, rfl⟩ := r1
  have H2 := eP1.to e1
  refine s_nil (W_if rfl (fun c2 => ?_) (fun c2 => ?_))
  ·refine W_sr (sM rfl rfl (sA rfl rfl (s_nil (rT hQ Tryz.results310 rfl ?_))))
   exact ⟨H2.ext, congrArg (Value.int .i64) (firstOf_at (d := default) (by omega) (by assumption) he).symm⟩
  ·refine W_skip (W_reg (sV rfl (py_add rfl rfl (in64 ⟨by omega, by omega⟩)) (sM rfl rfl (s_nil (⟨k + 1, ⟨rfl, rfl, rfl, rfl, trivial⟩, ⟨(H2.ftake 1), by omega, fun i hi => ?_⟩, by dsimp only; omega⟩)))))
   by_cases e : i = k
   ·subst e
    assumption
   ·exact he i (by omega)
 ·refine W_exit (W_sr (sA rfl rfl (s_nil (rT hQ Tryz.results310 rfl ?_))))
  exact ⟨H1.ext, congrArg (Value.int .i64) (firstOf_no (d := default) (fun i hi => he i (by omega))).symm⟩
theorem Tryz_ContainsFunc_Tape {w : World} {xs : List Tape} {xsA : Option Addr} {xsC : Nat} {gf : FuncId} {gL : List Value} {gF : Func} (xsS : Sees w [.slice xsA xs.length xsC] xs) {p : Tape → Bool} (gH : Tryz.prog.funcs[gf]? = some gF) (gB : gF.body.isNone = false) (gN : NG gF) (gC : ∀ w1, Ext No w w1 → ∀ (i0 : Nat), i0 < xs.length → ∀ (A0_1 : Option Addr) (C0_1 : Nat) (_ : (xs.getD i0 default).Ok) (_ : Sees w1 [.slice A0_1 (xs.getD i0 default).Recs.length C0_1] (xs.getD i0 default).Recs), Ret Tryz.prog gf (([(xs.getD i0 default).val A0_1 C0_1] : List Value) ++ gL).toArray w1 fun v w' => Ext No w1 w' ∧ v = .bool (p (xs.getD i0 default))) : Ret Tryz.prog 244 #[.slice xsA xs.length xsC, .func (.func gf) #[] gL.toArray] w fun v w' => Ext No w w' ∧ (v = .bool (xs.any p)) := by
 have xsL := sL xsS
 obtain ⟨xsF, xsO⟩ := xsS
 refine ret_Q (vs := [.slice xsA xs.length xsC, .func (.func gf) #[] gL.toArray]) Tryz.func244 rfl Tryz.ntmps244 rfl (fun Q hQ hN => ?_)
 have H0 := Sep.start (w := w) (F := [seen false [.slice xsA xs.length xsC] xs xsF]) (all_cons xsO (by simp))
 refine W_sr (sA rfl rfl (s_nil (W_sr (sM rfl rfl (sM rfl rfl (s_call (wn rfl) rfl rfl (pc_call Tryz.func310 rfl Tryz_nm310 rfl) (Tryz_IndexFunc_Tape (H0.sees 0 rfl) gH gB gN (fun w1 e1 => gC w1 (H0.ext.trans e1))) (fun v1 w1 r1 => ?_)))))))
 obtain ⟨e1, rfl⟩ := r1
 have H1 := H0.to e1
 refine sV rfl (py_geq rfl rfl) (sA rfl rfl (s_nil (rT hQ Tryz.results244 rfl ?_)))
 exact ⟨H1.ext, by rw [← firstOf_any]⟩
end Go.Wk
namespace Go.Wk
open Go.Proofs Rp
set_option maxRecDepth 10000
theorem Tryz_spec_l5Drives {w : World} {s : Shape} (hs : s.ok = true) : Ret Tryz.prog 232 #[s.v] w fun v w' => Ext No w w' ∧ (v = .int .i64 (s.Data + s.Spare)) := by
 have sbd := shape_bd hs
 refine ret_Q (vs := [s.v]) Tryz.func232 rfl Tryz.ntmps232 rfl (fun Q hQ hN => ?_)
 have H0 := Sep.start (w := w) (F := []) (by simp)
 refine W_sr (s_box (wn rfl) rfl rfl H0 (fun b1 w1 e1 g1 H1 => ?_))
 refine sA rfl rfl (s_nil (W_sr (sV rfl (py_field tu34 rfl ts2 rfl rfl) (sV rfl (py_load tu2 rfl rfl (cell_atL (H1.box 0 rfl) rfl)) (sV rfl (py_field tu34 rfl ts2 rfl rfl) (sV rfl (py_load tu2 rfl rfl (cell_atL (H1.box 0 rfl) rfl)) (sV rfl (py_add rfl rfl (in64 ⟨by omega, by omega⟩)) (sA rfl rfl (s_nil (rT hQ Tryz.results232 rfl ?_))))))))))
 exact ⟨H1.ext, rfl⟩
theorem Tryz_impl_Shape_drives {w : World} {s : Shape} (hs : s.ok = true) : Ret Tryz.prog 209 #[s.v] w fun v w' => Ext No w w' ∧ (v = .int .i64 (s.Data + s.Spare)) := by
 have sbd := shape_bd hs
 refine ret_Q (vs := [s.v]) Tryz.func209 rfl Tryz.ntmps209 rfl (fun Q hQ hN => ?_)
 have H0 := Sep.start (w := w) (F := []) (by simp)
 refine W_sr (s_box (wn rfl) rfl rfl H0 (fun b1 w1 e1 g1 H1 => ?_))
 refine sA rfl rfl (s_nil (W_sr (sV rfl (py_field tu34 rfl ts2 rfl rfl) (sV rfl (py_load tu2 rfl rfl (cell_atL (H1.box 0 rfl) rfl)) (sV rfl (py_field tu34 rfl ts2 rfl rfl) (sV rfl (py_load tu2 rfl rfl (cell_atL (H1.box 0 rfl) rfl)) (sV rfl (py_add rfl rfl (in64 ⟨by omega, by omega⟩)) (sA rfl rfl (s_nil (rT hQ Tryz.results209 rfl ?_))))))))))
 exact ⟨H1.ext, rfl⟩
theorem Tryz_spec_l4Wide {w : World} {s : Shape} (hs : s.ok = true) : Ret Tryz.prog 189 #[s.v] w fun v w' => Ext No w w' ∧ (v = .int .i64 (s.Data * 4)) := by
 have sbd := shape_bd hs
 refine ret_Q (vs := [s.v]) Tryz.func189 rfl Tryz.ntmps189 rfl (fun Q hQ hN => ?_)
 have H0 := Sep.start (w := w) (F := []) (by simp)
 refine W_sr (s_box (wn rfl) rfl rfl H0 (fun b1 w1 e1 g1 H1 => ?_))
 refine sA rfl rfl (s_nil (W_sr (sV rfl (py_field tu34 rfl ts2 rfl rfl) (sV rfl (py_load tu2 rfl rfl (cell_atL (H1.box 0 rfl) rfl)) (sV rfl (py_mul rfl rfl (in64 ⟨by omega, by omega⟩)) (sA rfl rfl (s_nil (rT hQ Tryz.results189 rfl ?_))))))))
 exact ⟨H1.ext, rfl⟩
theorem Tryz_impl_Shape_rowLength {w : World} {s : Shape} (hs : s.ok = true) : Ret Tryz.prog 203 #[s.v] w fun v w' => Ext No w w' ∧ (v = .int .i64 (s.Data * 4)) := by
 have sbd := shape_bd hs
 refine ret_Q (vs := [s.v]) Tryz.func203 rfl Tryz.ntmps203 rfl (fun Q hQ hN => ?_)
 have H0 := Sep.start (w := w) (F := []) (by simp)
 refine W_sr (s_box (wn rfl) rfl rfl H0 (fun b1 w1 e1 g1 H1 => ?_))
 refine sA rfl rfl (s_nil (W_sr (sV rfl (py_field tu34 rfl ts2 rfl rfl) (sV rfl (py_load tu2 rfl rfl (cell_atL (H1.box 0 rfl) rfl)) (sV rfl (py_mul rfl rfl (in64 ⟨by omega, by omega⟩)) (sA rfl rfl (s_nil (rT hQ Tryz.results203 rfl ?_))))))))
 exact ⟨H1.ext, rfl⟩
theorem Tryz_impl_Shape_isRow {w : World} {s : Shape} {x : Int} (hs : s.ok = true) : Ret Tryz.prog 72 #[s.v, .int .i64 x] w fun v w' => Ext No w w' ∧ (v = .bool (ins x 0 (s.Rows - 1))) := by
 have sbd := shape_bd hs
 refine ret_Q (vs := [s.v, .int .i64 x]) Tryz.func72 rfl Tryz.ntmps72 rfl (fun Q hQ hN => ?_)
 have H0 := Sep.start (w := w) (F := []) (by simp)
 refine W_sr (s_box (wn rfl) rfl rfl H0 (fun b1 w1 e1 g1 H1 => ?_))
 refine sA rfl rfl (s_nil (W_sr (sM rfl rfl (sV rfl (py_field tu34 rfl ts2 rfl rfl) (sV rfl (py_load tu2 rfl rfl (cell_atL (H1.box 0 rfl) rfl)) (sV rfl (py_sub rfl rfl (in64 ⟨by omega, by omega⟩)) (s_call (wn rfl) rfl rfl (pc_call Tryz.func147 rfl Tryz_nm147 rfl) Tryz_impl_inside (fun v1 w2 r1 => ?_))))))))
 obtain ⟨e2, rfl⟩ := r1
 have H2 := H1.to e2
 refine sA rfl rfl (s_nil (rT hQ Tryz.results72 rfl ?_))
 exact ⟨H2.ext, rfl⟩
theorem Tryz_impl_Shape_isData {w : World} {s : Shape} {x : Int} (hs : s.ok = true) : Ret Tryz.prog 120 #[s.v, .int .i64 x] w fun v w' => Ext No w w' ∧ (v = .bool (ins x 0 (s.Groups - 1))) := by
 have sbd := shape_bd hs
 refine ret_Q (vs := [s.v, .int .i64 x]) Tryz.func120 rfl Tryz.ntmps120 rfl (fun Q hQ hN => ?_)
 have H0 := Sep.start (w := w) (F := []) (by simp)
 refine W_sr (s_box (wn rfl) rfl rfl H0 (fun b1 w1 e1 g1 H1 => ?_))
 refine sA rfl rfl (s_nil (W_sr (sM rfl rfl (sV rfl (py_field tu34 rfl ts2 rfl rfl) (sV rfl (py_load tu2 rfl rfl (cell_atL (H1.box 0 rfl) rfl)) (sV rfl (py_sub rfl rfl (in64 ⟨by omega, by omega⟩)) (s_call (wn rfl) rfl rfl (pc_call Tryz.func147 rfl Tryz_nm147 rfl) Tryz_impl_inside (fun v1 w2 r1 => ?_))))))))
 obtain ⟨e2, rfl⟩ := r1
 have H2 := H1.to e2
 refine sA rfl rfl (s_nil (rT hQ Tryz.results120 rfl ?_))
 exact ⟨H2.ext, rfl⟩
theorem Tryz_impl_Shape_parts {w : World} {s : Shape} {len : Int} (hs : s.ok = true) (hL : I64ok len) : Ret Tryz.prog 278 #[s.v, .int .i64 len] w fun v w' => Ext No w w' ∧ (v = .tuple #[.int .i64 (partsN s len), .int .i64 (longOf s len)]) := by
 have sbd := shape_bd hs
 unfold I64ok at hL
 refine ret_Q (vs := [s.v, .int .i64 len]) Tryz.func278 rfl Tryz.ntmps278 rfl (fun Q hQ hN => ?_)
 have H0 := Sep.start (w := w) (F := []) (by simp)
 refine W_sr (s_box (wn rfl) rfl rfl H0 (fun b1 w1 e1 g1 H1 => ?_))
 refine sA rfl rfl (sA rfl rfl (s_nil (W_seq (W_sr (sM rfl rfl (sV rfl (py_lss rfl rfl) (s_nil (W_ifd rfl (fun c1 => ?_) (fun c1 => ?_)))))))))
 ·refine W_sr (sA rfl rfl (sA rfl rfl (s_nil (W_ret (hQ _ _ (fin2 Tryz.results278 rfl rfl ?_))))))
  obtain ⟨e1, e2⟩ := long_low (s := s) c1
  exact ⟨H1.ext, by rw [e1, e2]⟩
 ·refine W_skip (W_seq ?_)
  have hb := parts_bd (s := s) (len := len) (by omega) (by omega)
  refine W_reg (sM rfl rfl (sV rfl (py_sub rfl rfl (in64 ⟨by omega, by omega⟩)) (sV rfl (py_loadS tu34 rfl ts34 rfl rfl (At.whole (H1.box 0 rfl))) (s_call (wn rfl) rfl rfl (pc_call Tryz.func203 rfl Tryz_nm203 rfl) (Tryz_impl_Shape_rowLength (by assumption)) (fun v1 w2 r1 => ?_)))))
  obtain ⟨e2, rfl⟩ := r1
  have H2 := H1.to e2
  refine sV rfl (py_quo rfl rfl (by omega) (in64 ⟨by omega, by omega⟩)) (sV rfl (py_add rfl rfl (in64 ⟨by omega, by omega⟩)) (sA rfl rfl (s_nil (W_seq (W_sr (sM rfl rfl (sV rfl (py_gtr rfl rfl) (s_nil (W_ifd rfl (fun c2 => ?_) (fun c2 => ?_))))))))))
  ·refine W_sr (sA rfl rfl (sA rfl rfl (s_nil (W_ret (hQ _ _ (fin2 Tryz.results278 rfl rfl ?_))))))
   have hp := (parts_iff (s := s) (len := len) (by omega) (by omega)).1 (by omega)
   obtain ⟨e1, e2⟩ := long_high (s := s) c1 hp
   exact ⟨H2.ext, by rw [e1, e2]⟩
  ·refine W_skip (W_sr (sM rfl rfl (sA rfl rfl (sA rfl rfl (s_nil (W_ret (hQ _ _ (fin2 Tryz.results278 rfl rfl ?_))))))))
   have hp : ¬ 3 * (s.Data * 4) < len := fun h => absurd ((parts_iff (s := s) (len := len) (by omega) (by omega)).2 h) (by omega)
   obtain ⟨e1, e2⟩ := long_ok (s := s) c1 hp
   exact ⟨H2.ext, by rw [e1, e2]; rfl⟩
theorem Tryz_spec_l4Long {w : World} {s : Shape} {len : Int} (hs : s.ok = true) : Ret Tryz.prog 271 #[s.v, .int .i64 len] w fun v w' => Ext No w w' ∧ (v = .int .i64 (longOf s len)) := by
 have sbd := shape_bd hs
 refine ret_Q (vs := [s.v, .int .i64 len]) Tryz.func271 rfl Tryz.ntmps271 rfl (fun Q hQ hN => ?_)
 have H0 := Sep.start (w := w) (F := []) (by simp)
 refine W_sr (s_box (wn rfl) rfl rfl H0 (fun b1 w1 e1 g1 H1 => ?_))
 refine sA rfl rfl (s_nil (W_seq (W_sr (sM rfl rfl (sV rfl (py_lss rfl rfl) (s_nil (W_ifd rfl (fun c1 => ?_) (fun c1 => ?_))))))))
 ·refine W_sr (sA rfl rfl (s_nil (rT hQ Tryz.results271 rfl ?_)))
  exact ⟨H1.ext, by rw [(long_low (s := s) c1).1]⟩
 ·refine W_skip (W_seq (W_sr (sM rfl rfl (sV rfl (py_loadS tu34 rfl ts34 rfl rfl (At.whole (H1.box 0 rfl))) (s_call (wn rfl) rfl rfl (pc_call Tryz.func189 rfl Tryz_nm189 rfl) (Tryz_spec_l4Wide (by assumption)) (fun v1 w2 r1 => ?_))))))
  obtain ⟨e2, rfl⟩ := r1
  have H2 := H1.to e2
  refine sV rfl (py_mul rfl rfl (in64 ⟨by omega, by omega⟩)) (sV rfl (py_gtr rfl rfl) (s_nil (W_ifd rfl (fun c2 => ?_) (fun c2 => ?_))))
  ·refine W_sr (sA rfl rfl (s_nil (rT hQ Tryz.results271 rfl ?_)))
   exact ⟨H2.ext, by rw [(long_high (s := s) c1 (by omega)).1]⟩
  ·refine W_skip (W_sr (sA rfl rfl (s_nil (rT hQ Tryz.results271 rfl ?_))))
   exact ⟨H2.ext, by rw [(long_ok (s := s) c1 (by omega)).1]⟩
theorem Tryz_spec_l4Parts {w : World} {s : Shape} {len : Int} (hs : s.ok = true) (hL : 1 ≤ len ∧ len ≤ 1000) : Ret Tryz.prog 272 #[s.v, .int .i64 len] w fun v w' => Ext No w w' ∧ (v = .int .i64 (partsOf s len)) := by
 have sbd := shape_bd hs
 have hb := parts_bd (s := s) (len := len) (by omega) (by omega)
 have hq : (len + s.Data * 4 - 1).tdiv (s.Data * 4) = partsOf s len := parts_two (by omega) (by omega)
 unfold partsOf at hq
 refine ret_Q (vs := [s.v, .int .i64 len]) Tryz.func272 rfl Tryz.ntmps272 rfl (fun Q hQ hN => ?_)
 have H0 := Sep.start (w := w) (F := []) (by simp)
 refine W_sr (s_box (wn rfl) rfl rfl H0 (fun b1 w1 e1 g1 H1 => ?_))
 refine sA rfl rfl (s_nil (W_seq (W_drw (S := Ext No _) [(0, true), (1, true), (5, true), (2, false), (3, true), (4, true), (6, false), (7, true), (8, false)] (by kernel_rfl) (by kernel_rfl) (by kernel_rfl) rfl (fun _ => Ext.refl.drawn _) (fun q1 => ?_))))
 have H2 := H1.drawn q1
 refine dM rfl rfl rfl (dV rfl rfl (fun zw hx => py_loadS tu34 rfl ts34 rfl rfl (At.whole (hx.heap (H2.box 0 rfl)))) (dV rfl rfl (fun zw hx => py_loadS tu34 rfl ts34 rfl rfl (At.whole (hx.heap (H2.box 0 rfl)))) (d_call rfl (wn rfl) rfl rfl (pc_call Tryz.func189 rfl Tryz_nm189 rfl) (Tryz_spec_l4Wide (by assumption)) (fun hS _ _ r _ => hS.trans r.1.no) (fun v1 w2 r1 => ?_))))
 obtain ⟨e2, rfl⟩ := r1
 have H3 := H2.to e2
 refine dV rfl rfl (fun zw hx => py_add rfl rfl (in64 ⟨by omega, by omega⟩)) (dV rfl rfl (fun zw hx => py_sub rfl rfl (in64 ⟨by omega, by omega⟩)) (d_call rfl (wn rfl) rfl rfl (pc_call Tryz.func189 rfl Tryz_nm189 rfl) (Tryz_spec_l4Wide (by assumption)) (fun hS _ _ r _ => hS.trans r.1.no) (fun v2 w3 r2 => ?_)))
 obtain ⟨e3, rfl⟩ := r2
 have H4 := H3.to e3
 refine dV rfl rfl (fun zw hx => py_quo rfl rfl (by omega) (in64 ⟨by omega, by omega⟩)) (d_end rfl (wn rfl) rfl rfl (py_assign rfl) (d_nil (rT hQ Tryz.results272 rfl ?_)))
 exact ⟨H4.ext, by rw [parts_two (by omega) (by omega)]⟩
theorem Tryz_size_ListDrive {w : World} {xs : List (List Drive)} {xsA : Option Addr} {xsC : Nat} (xsS : Sees w [.slice xsA xs.length xsC] xs) : Ret Tryz.prog 237 #[.slice xsA xs.length xsC] w fun v w' => Ext No w w' ∧ (v = .int .i64 xs.length) := by
 have xsL := sL xsS
 obtain ⟨xsF, xsO⟩ := xsS
 refine ret_Q (vs := [.slice xsA xs.length xsC]) Tryz.func237 rfl Tryz.ntmps237 rfl (fun Q hQ hN => ?_)
 have H0 := Sep.start (w := w) (F := [seen false [.slice xsA xs.length xsC] xs xsF]) (all_cons xsO (by simp))
 refine W_sr (sA rfl rfl (s_nil (W_sr (sM rfl rfl (sV rfl (py_len tu35 rfl) (sA rfl rfl (s_nil (rT hQ Tryz.results237 rfl ?_))))))))
 exact ⟨H0.ext, rfl⟩
theorem Tryz_size_Drive {w : World} {xs : List Drive} {xsA : Option Addr} {xsC : Nat} (xsS : Sees w [.slice xsA xs.length xsC] xs) : Ret Tryz.prog 238 #[.slice xsA xs.length xsC] w fun v w' => Ext No w w' ∧ (v = .int .i64 xs.length) := by
 have xsL := sL xsS
 obtain ⟨xsF, xsO⟩ := xsS
 refine ret_Q (vs := [.slice xsA xs.length xsC]) Tryz.func238 rfl Tryz.ntmps238 rfl (fun Q hQ hN => ?_)
 have H0 := Sep.start (w := w) (F := [seen false [.slice xsA xs.length xsC] xs xsF]) (all_cons xsO (by simp))
 refine W_sr (sA rfl rfl (s_nil (W_sr (sM rfl rfl (sV rfl (py_len tu142 rfl) (sA rfl rfl (s_nil (rT hQ Tryz.results238 rfl ?_))))))))
 exact ⟨H0.ext, rfl⟩
theorem Tryz_size_Block {w : World} {xs : List Block} {xsA : Option Addr} {xsC : Nat} (xsS : Sees w [.slice xsA xs.length xsC] xs) : Ret Tryz.prog 239 #[.slice xsA xs.length xsC] w fun v w' => Ext No w w' ∧ (v = .int .i64 xs.length) := by
 have xsL := sL xsS
 obtain ⟨xsF, xsO⟩ := xsS
 refine ret_Q (vs := [.slice xsA xs.length xsC]) Tryz.func239 rfl Tryz.ntmps239 rfl (fun Q hQ hN => ?_)
 have H0 := Sep.start (w := w) (F := [seen false [.slice xsA xs.length xsC] xs xsF]) (all_cons xsO (by simp))
 refine W_sr (sA rfl rfl (s_nil (W_sr (sM rfl rfl (sV rfl (py_len tu178 rfl) (sA rfl rfl (s_nil (rT hQ Tryz.results239 rfl ?_))))))))
 exact ⟨H0.ext, rfl⟩
theorem Tryz_size_byte {w : World} {xs : List UInt8} {xsA : Option Addr} {xsC : Nat} (xsS : Sees w [.slice xsA xs.length xsC] xs) : Ret Tryz.prog 202 #[.slice xsA xs.length xsC] w fun v w' => Ext No w w' ∧ (v = .int .i64 xs.length) := by
 have xsL := sL xsS
 obtain ⟨xsF, xsO⟩ := xsS
 refine ret_Q (vs := [.slice xsA xs.length xsC]) Tryz.func202 rfl Tryz.ntmps202 rfl (fun Q hQ hN => ?_)
 have H0 := Sep.start (w := w) (F := [seen false [.slice xsA xs.length xsC] xs xsF]) (all_cons xsO (by simp))
 refine W_sr (sA rfl rfl (s_nil (W_sr (sM rfl rfl (sV rfl (py_len tu45 rfl) (sA rfl rfl (s_nil (rT hQ Tryz.results202 rfl ?_))))))))
 exact ⟨H0.ext, rfl⟩
theorem Tryz_size_int64 {w : World} {xs : List Int} {xsA : Option Addr} {xsC : Nat} (xsS : Sees w [.slice xsA xs.length xsC] xs) : Ret Tryz.prog 173 #[.slice xsA xs.length xsC] w fun v w' => Ext No w w' ∧ (v = .int .i64 xs.length) := by
 have xsL := sL xsS
 obtain ⟨xsF, xsO⟩ := xsS
 refine ret_Q (vs := [.slice xsA xs.length xsC]) Tryz.func173 rfl Tryz.ntmps173 rfl (fun Q hQ hN => ?_)
 have H0 := Sep.start (w := w) (F := [seen false [.slice xsA xs.length xsC] xs xsF]) (all_cons xsO (by simp))
 refine W_sr (sA rfl rfl (s_nil (W_sr (sM rfl rfl (sV rfl (py_len tu25 rfl) (sA rfl rfl (s_nil (rT hQ Tryz.results173 rfl ?_))))))))
 exact ⟨H0.ext, rfl⟩
theorem Tryz_bytesEq {w : World} {xs ys : List UInt8} {xsA ysA : Option Addr} {xsC ysC : Nat} (xsS : Sees w [.slice xsA xs.length xsC] xs) (ysS : Sees w [.slice ysA ys.length ysC] ys) : Ret Tryz.prog 181 #[.slice xsA xs.length xsC, .slice ysA ys.length ysC] w fun v w' => Ext No w w' ∧ (v = .bool (decide (xs = ys))) := by
 have xsL := sL xsS
 obtain ⟨xsF, xsO⟩ := xsS
 have ysL := sL ysS
 obtain ⟨ysF, ysO⟩ := ysS
 refine ret_Q (vs := [.slice xsA xs.length xsC, .slice ysA ys.length ysC]) Tryz.func181 rfl Tryz.ntmps181 rfl (fun Q hQ hN => ?_)
 have H0 := Sep.start (w := w) (F := [seen false [.slice xsA xs.length xsC] xs xsF, seen false [.slice ysA ys.length ysC] ys ysF]) (all_cons xsO (all_cons ysO (by simp)))
 refine W_sr (sA rfl rfl (s_nil (W_sr (sM rfl rfl (sV rfl (py_b2s tu45 tu5 tu9 rfl (H0.seen 0 rfl)) (sM rfl rfl (sV rfl (py_b2s tu45 tu5 tu9 rfl (H0.seen 1 rfl)) (sV rfl (py_seql rfl rfl) (sA rfl rfl (s_nil (rT hQ Tryz.results181 rfl ?_)))))))))))
 exact ⟨H0.ext, by simp [str_beq, strB_inj]⟩
theorem Tryz_slices_Equal_int64_int64 {w : World} {xs ys : List Int} {xsA ysA : Option Addr} {xsC ysC : Nat} (xsS : Sees w [.slice xsA xs.length xsC] xs) (ysS : Sees w [.slice ysA ys.length ysC] ys) : Ret Tryz.prog 282 #[.slice xsA xs.length xsC, .slice ysA ys.length ysC] w fun v w' => Ext No w w' ∧ (v = .bool (decide (xs = ys))) := by
 have xsL := sL xsS
 obtain ⟨xsF, xsO⟩ := xsS
 have ysL := sL ysS
 obtain ⟨ysF, ysO⟩ := ysS
 refine ret_Q (vs := [.slice xsA xs.length xsC, .slice ysA ys.length ysC]) Tryz.func282 rfl Tryz.ntmps282 rfl (fun Q hQ hN => ?_)
 have H0 := Sep.start (w := w) (F := [seen false [.slice xsA xs.length xsC] xs xsF, seen false [.slice ysA ys.length ysC] ys ysF]) (all_cons xsO (all_cons ysO (by simp)))
 refine W_sr (sA rfl rfl (s_nil (W_seq (W_sr (sM rfl rfl (sV rfl (py_len tu25 rfl) (sM rfl rfl (sV rfl (py_len tu25 rfl) (sV rfl (py_neq rfl rfl) (s_nil (W_ifd rfl (fun c1 => ?_) (fun c1 => ?_))))))))))))
 ·refine W_sr (sA rfl rfl (s_nil (rT hQ Tryz.results282 rfl (⟨H0.ext, ?_⟩))))
  rw [decide_eq_false (fun e => by subst e; exact c1 rfl)]
 ·refine W_skip (W_seq (W_sr (sM rfl rfl (sV rfl (py_len tu25 rfl) (sM rfl rfl (s_nil (W_block (W_loopS (γ := Nat) H0 [(0, _), (1, _), (12, _)] ⟨rfl, rfl, rfl, trivial⟩ (fun k => [(13, .int .i64 k)]) (fun k => k ≤ xs.length ∧ (∀ i, i < k → xs.getD i 0 = ys.getD i 0)) (fun k => xs.length - k) 0 ⟨rfl, trivial⟩ ⟨by omega, fun i hi => by omega⟩ (fun k w1 H1 ⟨hk, he⟩ => ?_)))))))))
  dsimp only [lCA, lNA]
  refine W_sr (sV rfl (py_lss rfl rfl) (s_nil (W_seq (W_ifd rfl (fun c2 => ?_) (fun c2 => ?_)))))
  ·refine W_skip (W_seq (W_block (W_sr (sM rfl rfl (sA rfl rfl (s_nil (W_seq ?_)))))))
   obtain ⟨eb1, eo1, ee1, ec1⟩ := elem_int (H1.seen 0 rfl) k (by omega)
   have eI1 := elem_i64 (H1.seen 0 rfl) k (by omega)
   obtain ⟨eb2, eo2, ee2, ec2⟩ := elem_int (H1.seen 1 rfl) k (by omega)
   have eI2 := elem_i64 (H1.seen 1 rfl) k (by omega)
   refine W_drw (S := Ext No _) [(0, true), (1, true), (2, true), (3, true), (4, true), (5, true), (6, true), (7, true), (8, false)] (by kernel_rfl) (by kernel_rfl) (by kernel_rfl) rfl (fun _ => Ext.refl.drawn _) (fun q1 => ?_)
   have H2 := H1.drawn q1
   refine dM rfl rfl rfl (dM rfl rfl rfl (dV rfl rfl (fun zw hx => py_elz tu25 ts2 rfl rfl ee1 k (by omega) (by omega)) (dV rfl rfl (fun zw hx => py_load tu2 rfl rfl (hx.cell ec1)) (dM rfl rfl rfl (dM rfl rfl rfl (dV rfl rfl (fun zw hx => py_elz tu25 ts2 rfl rfl ee2 k (by omega) (by omega)) (dV rfl rfl (fun zw hx => py_load tu2 rfl rfl (hx.cell ec2)) (d_end rfl (wn rfl) rfl rfl (py_neq rfl rfl) (d_nil (W_ifd rfl (fun c3 => ?_) (fun c3 => ?_)))))))))))
   ·refine W_sr (sA rfl rfl (s_nil (rT hQ Tryz.results282 rfl (⟨H2.ext, ?_⟩))))
    rw [decide_eq_false (fun e => by subst e; exact c3 rfl)]
   ·refine W_skip (W_reg (sV rfl (py_add rfl rfl (in64 ⟨by omega, by omega⟩)) (sM rfl rfl (s_nil (⟨k + 1, ⟨rfl, rfl, rfl, rfl, trivial⟩, ⟨H2, by omega, fun i hi => ?_⟩, by dsimp only; omega⟩)))))
    by_cases e : i = k
    ·subst e
     simpa using c3
    ·exact he i (by omega)
  ·refine W_exit (W_sr (sA rfl rfl (s_nil (rT hQ Tryz.results282 rfl (⟨H1.ext, ?_⟩)))))
   rw [decide_eq_true (getD_ext (d := 0) (by omega) fun i hi => he i (by omega))]
theorem Tryz_impl_itemFault {w : World} {s : Shape} {r : Rec} {rA6 rA7 rA8 : Option Addr} {rC6 rC7 rC8 : Nat} (rK : r.Ok) (rS6 : Sees w [.slice rA6 r.Rows.length rC6] r.Rows) (rS7 : Sees w [.slice rA7 r.Data.length rC7] r.Data) (rS8 : Sees w [.slice rA8 r.Delta.length rC8] r.Delta) (hs : s.ok = true) : Ret Tryz.prog 200 #[s.v, r.val rA6 rC6 rA7 rC7 rA8 rC8] w fun v w' => Ext No w w' ∧ (v = .int .i64 (itemF s r)) := by
 have rK2 := rK
 unfold Rec.Ok at rK2
 try unfold I64ok at rK2
 try unfold maxLen at rK2
 have rN2 : r.Name.size ≤ maxLen := by unfold maxLen; omega
 have rL6 := sL rS6
 obtain ⟨rF6, rO6⟩ := rS6
 have rL7 := sL rS7
 obtain ⟨rF7, rO7⟩ := rS7
 have rL8 := sL rS8
 obtain ⟨rF8, rO8⟩ := rS8
 have sbd := shape_bd hs
 refine ret_Q (vs := [s.v, r.val rA6 rC6 rA7 rC7 rA8 rC8]) Tryz.func200 rfl Tryz.ntmps200 rfl (fun Q hQ hN => ?_)
 have H0 := Sep.start (w := w) (F := [seen false [.slice rA6 r.Rows.length rC6] r.Rows rF6, seen false [.slice rA7 r.Data.length rC7] r.Data rF7, seen false [.slice rA8 r.Delta.length rC8] r.Delta rF8]) (all_cons rO6 (all_cons rO7 (all_cons rO8 (by simp))))
 refine W_sr (s_box (wn rfl) rfl rfl H0 (fun b1 w1 e1 g1 H1 => ?_))
 refine s_box (wn rfl) rfl rfl H1 (fun b2 w2 e2 g2 H2 => ?_)
 refine sA rfl rfl (s_nil (W_seq (W_sr (sV rfl (py_field tu68 rfl ts9 rfl rfl) (sV rfl (py_load tu9 rfl rfl (cell_atL (H2.box 1 rfl) rfl)) (s_call (wn rfl) rfl rfl (pc_call Tryz.func277 rfl Tryz_nm277 rfl) (Tryz_impl_NameFault (by assumption)) (fun v1 w3 r1 => ?_)))))))
 obtain ⟨e3, rfl⟩ := r1
 have H3 := H2.to e3
 refine sA rfl rfl (s_nil (W_sr (sM rfl rfl (sV rfl (py_neq rfl rfl) (s_nil (W_ifd rfl (fun c1 => ?_) (fun c1 => ?_)))))))
 ·refine W_sr (sM rfl rfl (sA rfl rfl (s_nil (rT hQ Tryz.results200 rfl ?_))))
  exact ⟨H3.ext, congrArg (Value.int .i64) (itemF_name (by omega)).symm⟩
 ·refine W_skip (W_seq (W_sr (sV rfl (py_field tu68 rfl ts2 rfl rfl) (sV rfl (py_load tu2 rfl rfl (cell_atL (H3.box 1 rfl) rfl)) (sV rfl (py_eql rfl rfl) (s_nil (W_ifd rfl (fun c2 => ?_) (fun c2 => ?_))))))))
  ·refine W_seq (W_sr (sV rfl (py_field tu68 rfl ts45 rfl rfl) (sV rfl (py_load tu45 rfl rfl (cell_atL (H3.box 1 rfl) rfl)) (sV rfl (py_len tu45 rfl) (sV rfl (py_gtr rfl rfl) (sM rfl rfl (s_grp 4 (j := 4) (want := false) (t := 29) rfl rfl rfl rfl (fun hg1 kk1 => s_val (wgE rfl rfl rfl hg1) rfl rfl (py_field tu68 rfl ts25 rfl rfl) (s_val (wgE rfl rfl rfl hg1) rfl rfl (py_load tu25 rfl rfl (cell_atL (H3.box 1 rfl) rfl)) (s_val (wgE rfl rfl rfl hg1) rfl rfl (py_len tu25 rfl) (s_val (wgE rfl rfl rfl hg1) rfl rfl (py_gtr rfl rfl) (kk1 _ _ (kx rfl (kx rfl (kx rfl (kx rfl k0)))) rfl Ext.refl))))) (fun w4 e4 => ?_))))))))
   have H4 := H3.to e4
   refine sV rfl (py_bor rfl rfl) (s_nil (W_if rfl (fun c3 => ?_) (fun c3 => ?_)))
   ·refine W_sr (sA rfl rfl (s_nil (rT hQ Tryz.results200 rfl ?_)))
    exact ⟨H4.ext, congrArg (Value.int .i64) (itemF_bad (by omega) (by rw [item_del (by omega)]; by_cases hd : r.Data = [] <;> by_cases he : r.Rows = [] <;> simp_all)).symm⟩
   ·refine W_skip (W_sr (sA rfl rfl (s_nil (rT hQ Tryz.results200 rfl ?_))))
    exact ⟨H4.ext, congrArg (Value.int .i64) (itemF_ok (by omega) (by rw [item_del (by omega)]; by_cases hd : r.Data = [] <;> by_cases he : r.Rows = [] <;> simp_all)).symm⟩
  ·refine W_skip (W_sr (sV rfl (py_loadS tu34 rfl ts34 rfl rfl (At.whole (H3.box 0 rfl))) (sV rfl (py_field tu68 rfl ts2 rfl rfl) (sV rfl (py_load tu2 rfl rfl (cell_atL (H3.box 1 rfl) rfl)) (s_call (wn rfl) rfl rfl (pc_call Tryz.func278 rfl Tryz_nm278 rfl) (Tryz_impl_Shape_parts (by assumption) (by unfold I64ok; omega)) (fun v2 w5 r2 => ?_))))))
   obtain ⟨e5, rfl⟩ := r2
   have H5 := H3.to e5
   refine sM rfl rfl (sV rfl (py_extr rfl rfl) (sV rfl (py_extr rfl rfl) (sA rfl rfl (sA rfl rfl (s_nil (W_seq (W_sr (sM rfl rfl (sV rfl (py_neq rfl rfl) (s_nil (W_ifd rfl (fun c4 => ?_) (fun c4 => ?_))))))))))))
   ·refine W_sr (sA rfl rfl (s_nil (rT hQ Tryz.results200 rfl ?_)))
    exact ⟨H5.ext, congrArg (Value.int .i64) (itemF_bad (by omega) (item_long (by omega) (by omega))).symm⟩
   ·refine W_skip (W_seq (W_drw (S := Ext No _) [(0, true), (1, true), (3, true), (4, true), (2, false), (5, true), (6, true), (7, true), (8, true), (9, true), (10, true), (11, true), (12, false)] (by kernel_rfl) (by kernel_rfl) (by kernel_rfl) rfl (fun _ => Ext.refl.drawn _) (fun q1 => ?_)))
    have H6 := H5.drawn q1
    refine dV rfl rfl (fun zw hx => py_field tu68 rfl ts45 rfl rfl) (dV rfl rfl (fun zw hx => py_load tu45 rfl rfl (cell_atL (hx.heap (H6.box 1 rfl)) rfl)) (dV rfl rfl (fun zw hx => py_field tu68 rfl ts2 rfl rfl) (dV rfl rfl (fun zw hx => py_load tu2 rfl rfl (cell_atL (hx.heap (H6.box 1 rfl)) rfl)) (d_call rfl (wn rfl) rfl rfl (pc_call Tryz.func202 rfl Tryz_nm202 rfl) (Tryz_size_byte (H6.sees 1 rfl)) (fun hS _ _ r _ => hS.trans r.1.no) (fun v3 w6 r3 => ?_)))))
    obtain ⟨e6, rfl⟩ := r3
    have H7 := H6.to e6
    refine dV rfl rfl (fun zw hx => py_eql rfl rfl) (dM rfl rfl rfl (d_case (t := 46) rfl (fun hg2 => ?_) (fun hg2 => ?_)))
    ·try simp only [decide_eq_true_eq, decide_eq_false_iff_not] at hg2
     refine d_val rfl (wg rfl rfl rfl) rfl rfl (fun zw hx => py_field tu68 rfl ts25 rfl rfl) (d_val rfl (wg rfl rfl rfl) rfl rfl (fun zw hx => py_load tu25 rfl rfl (cell_atL (hx.heap (H6.box 1 rfl)) rfl)) (d_val rfl (wg rfl rfl rfl) rfl rfl (fun zw hx => py_len tu25 rfl) (d_val rfl (wg rfl rfl rfl) rfl rfl (fun zw hx => py_eql rfl rfl) (dV rfl rfl (fun zw hx => py_pickT rfl rfl) (d_end rfl (wn rfl) rfl rfl (py_assign rfl) (d_nil (W_sr (sV rfl (py_field tu68 rfl ts45 rfl rfl) (sV rfl (py_load tu45 rfl rfl (cell_atL (H7.box 1 rfl) rfl)) (sV rfl (py_len tu45 rfl) (sV rfl (py_eql rfl rfl) (sM rfl rfl (s_grp 5 (j := 4) (want := true) (t := 61) rfl rfl rfl rfl (fun hg3 kk2 => s_val (wgE rfl rfl rfl hg3) rfl rfl (py_field tu68 rfl ts25 rfl rfl) (s_val (wgE rfl rfl rfl hg3) rfl rfl (py_load tu25 rfl rfl (cell_atL (H7.box 1 rfl) rfl)) (s_callv (wgE rfl rfl rfl hg3) rfl rfl (pc_call Tryz.func173 rfl Tryz_nm173 rfl) (Tryz_size_int64 (H7.sees 0 rfl)) (fun w8 e8 => s_val (wgE rfl rfl rfl hg3) rfl rfl (py_move rfl) (s_val (wgE rfl rfl rfl hg3) rfl rfl (py_eql rfl rfl) (kk2 _ _ (kx rfl (kx rfl (kx rfl (kx rfl (kx rfl k0))))) rfl (Ext.refl.trans e8))))))) (fun w7 e7 => ?_))))))))))))))
     have H8 := H7.to e7
     refine sV rfl (py_band rfl rfl) (sA rfl rfl (s_nil (W_seq (W_sr (sV rfl (py_field tu68 rfl ts25 rfl rfl) (sV rfl (py_load tu25 rfl rfl (cell_atL (H8.box 1 rfl) rfl)) (sV rfl (py_len tu25 rfl) (sM rfl rfl (s_nil (W_block (W_loopS (γ := Nat) H8 [(2, _), (3, _), (4, _), (8, _), (64, _), (65, _)] ⟨rfl, rfl, rfl, rfl, rfl, rfl, trivial⟩ (fun k => [(9, .bool (decide ((r.Data.length : Int) = 0) && decide ((r.Rows.length : Int) = partsOf s r.Length) && (List.range k).all (apartAt r.Rows (s.Rows - 1)))), (66, .int .i64 k)]) (fun k => k ≤ r.Rows.length ∧ True) (fun k => r.Rows.length - k) 0 ⟨eqB (by simp [partsN_ok (show longOf s r.Length = 0 by omega)]), rfl, trivial⟩ ⟨by omega, trivial⟩ (fun k w9 H9 ⟨hk, _⟩ => ?_))))))))))))
     dsimp only [lCA, lNA]
     refine W_sr (sV rfl (py_lss rfl rfl) (s_nil (W_seq (W_ifd rfl (fun c5 => ?_) (fun c5 => ?_)))))
     ·refine W_skip (W_seq (W_block (W_seq ?_)))
      obtain ⟨eb1, eo1, ee1, ec1⟩ := elem_int (H9.seen 0 rfl) k (by omega)
      have eI1 := elem_i64 (H9.seen 0 rfl) k (by omega)
      refine W_reg (sM rfl rfl (sV rfl (py_elz tu25 ts2 rfl rfl ee1 k (by omega) (by omega)) (sV rfl (py_load tu2 rfl rfl ec1) (sA rfl rfl (sA rfl rfl (s_nil (W_reg (sM rfl rfl (sM rfl rfl (s_case (t := 72) rfl (fun hg4 => ?_) (fun hg4 => ?_)))))))))))
      ·try simp only [decide_eq_true_eq, decide_eq_false_iff_not] at hg4
       refine s_val (wg rfl rfl rfl) rfl rfl (py_loadS tu34 rfl ts34 rfl rfl (At.whole (H9.box 0 rfl))) (s_val (wg rfl rfl rfl) rfl rfl (py_move rfl) (s_call (wg rfl rfl rfl) rfl rfl (pc_call Tryz.func72 rfl Tryz_nm72 rfl) (Tryz_impl_Shape_isRow (by assumption)) (fun v4 w10 r4 => ?_)))
       obtain ⟨e9, rfl⟩ := r4
       have H10 := H9.to e9
       refine sV rfl (py_pickT rfl rfl) (sM rfl rfl (s_case (t := 77) rfl (fun hg5 => ?_) (fun hg5 => ?_)))
       ·try simp only [decide_eq_true_eq, decide_eq_false_iff_not] at hg5
        refine s_val (wg rfl rfl rfl) rfl rfl (py_field tu68 rfl ts25 rfl rfl) (s_val (wg rfl rfl rfl) rfl rfl (py_load tu25 rfl rfl (cell_atL (H10.box 1 rfl) rfl)) (s_val (wg rfl rfl rfl) rfl rfl (py_move rfl) ?_))
        have sc1 := own_le_cap (H10.seen 0 rfl)
        obtain ⟨sf1, so1, ss1⟩ := own_cutL (H10.seen 0 rfl) (0) (k) _ (by omega) (by omega) (by omega) (Nat.le_refl _)
        have H11 := H10.look1 0 rfl so1 ss1
        have sl1 := cut_len (xs := r.Rows) (l := 0) (h := k) (by omega)
        refine s_val (wg rfl rfl rfl) rfl rfl (py_slcHN tu25 ts2 rfl rfl (k) (by omega) (by omega) sl1) ((s_val (wg rfl rfl rfl) rfl rfl (py_move rfl) (s_call (wg rfl rfl rfl) rfl rfl (pc_call Tryz.func243 rfl Tryz_nm243 rfl) (Tryz_slices_Contains_int64_int64 (H11.sees 3 rfl)) (fun v5 w11 r5 => ?_))))
        obtain ⟨e10, rfl⟩ := r5
        have H12 := H11.to e10
        refine s_val (wg rfl rfl rfl) rfl rfl (py_not rfl) (sV rfl (py_pickT rfl rfl) (sA rfl rfl (s_nil (W_reg (sV rfl (py_add rfl rfl (in64 ⟨by omega, by omega⟩)) (sM rfl rfl (s_nil (⟨k + 1, ⟨eqB (by simp only [all_step, apartAt, cut_take, ← Bool.and_assoc, hg4, hg5, Bool.true_and, Bool.false_and]), rfl, rfl, rfl, rfl, rfl, rfl, rfl, trivial⟩, ⟨(H12.ftake 3), by omega, trivial⟩, by dsimp only; omega⟩))))))))
       ·try simp only [decide_eq_true_eq, decide_eq_false_iff_not] at hg5
        refine sKf rfl rfl rfl (sKf rfl rfl rfl (sKf rfl rfl rfl (sKf rfl rfl rfl (sKf rfl rfl rfl (sKf rfl rfl rfl (sKf rfl rfl rfl (sV rfl (py_pickF rfl rfl) (sA rfl rfl (s_nil (W_reg (sV rfl (py_add rfl rfl (in64 ⟨by omega, by omega⟩)) (sM rfl rfl (s_nil (⟨k + 1, ⟨eqB (by simp only [all_step, apartAt, cut_take, ← Bool.and_assoc, hg4, hg5, Bool.true_and, Bool.false_and]), rfl, rfl, rfl, rfl, rfl, rfl, rfl, trivial⟩, ⟨H10, by omega, trivial⟩, by dsimp only; omega⟩))))))))))))))
      ·try simp only [decide_eq_true_eq, decide_eq_false_iff_not] at hg4
       refine sKf rfl rfl rfl (sKf rfl rfl rfl (sKf rfl rfl rfl (sV rfl (py_pickF rfl rfl) (sM rfl rfl (sKf rfl rfl rfl (sKf rfl rfl rfl (sKf rfl rfl rfl (sKf rfl rfl rfl (sKf rfl rfl rfl (sKf rfl rfl rfl (sKf rfl rfl rfl (sV rfl (py_pickF rfl rfl) (sA rfl rfl (s_nil (W_reg (sV rfl (py_add rfl rfl (in64 ⟨by omega, by omega⟩)) (sM rfl rfl (s_nil (⟨k + 1, ⟨eqB (by simp only [all_step, apartAt, cut_take, ← Bool.and_assoc, hg4, Bool.true_and, Bool.false_and]), rfl, rfl, rfl, rfl, rfl, rfl, rfl, trivial⟩, ⟨H9, by omega, trivial⟩, by dsimp only; omega⟩)))))))))))))))))))
     ·refine W_exit (W_seq (W_seq ?_))
      obtain rfl : k = r.Rows.length := by omega
      have io := item_ok (s := s) (r := r) (by omega) (by omega) (decide_eq_true hg2).symm rfl rfl rfl
      simp only [Bool.true_and, Bool.false_and, Bool.false_or] at io
      refine W_reg (sM rfl rfl (sV rfl (py_notd rfl) (sM rfl rfl (s_grp 2 (j := 2) (want := true) (t := 91) rfl rfl rfl rfl (fun hg6 kk3 => s_val (wgE rfl rfl rfl hg6) rfl rfl (py_move rfl) (s_val (wgE rfl rfl rfl hg6) rfl rfl (py_not rfl) (kk3 _ _ (kx rfl (kx rfl k0)) rfl Ext.refl))) (fun w12 e11 => ?_)))))
      have H13 := H9.to e11
      refine sV rfl (py_band rfl rfl) (s_nil (W_if rfl (fun c6 => ?_) (fun c6 => ?_)))
      ·refine W_sr (sA rfl rfl (s_nil (rT hQ Tryz.results200 rfl ?_)))
       exact ⟨H13.ext, congrArg (Value.int .i64) (itemF_bad (by omega) (by rw [← io]; exact not_true (by rw [Bool.not_or, ← decide_not]; exact c6))).symm⟩
      ·refine W_skip (W_sr (sA rfl rfl (s_nil (rT hQ Tryz.results200 rfl ?_))))
       exact ⟨H13.ext, congrArg (Value.int .i64) (itemF_ok (by omega) (by rw [← io]; exact not_false (by rw [Bool.not_or, ← decide_not]; exact c6))).symm⟩
    ·try simp only [decide_eq_true_eq, decide_eq_false_iff_not] at hg2
     refine dKf rfl rfl rfl rfl (dKf rfl rfl rfl rfl (dKf rfl rfl rfl rfl (dKf rfl rfl rfl rfl (dV rfl rfl (fun zw hx => py_pickF rfl rfl) (d_end rfl (wn rfl) rfl rfl (py_assign rfl) (d_nil (W_sr (sV rfl (py_field tu68 rfl ts45 rfl rfl) (sV rfl (py_load tu45 rfl rfl (cell_atL (H7.box 1 rfl) rfl)) (sV rfl (py_len tu45 rfl) (sV rfl (py_eql rfl rfl) (sM rfl rfl (s_grp 5 (j := 4) (want := true) (t := 61) rfl rfl rfl rfl (fun hg7 kk4 => s_val (wgE rfl rfl rfl hg7) rfl rfl (py_field tu68 rfl ts25 rfl rfl) (s_val (wgE rfl rfl rfl hg7) rfl rfl (py_load tu25 rfl rfl (cell_atL (H7.box 1 rfl) rfl)) (s_callv (wgE rfl rfl rfl hg7) rfl rfl (pc_call Tryz.func173 rfl Tryz_nm173 rfl) (Tryz_size_int64 (H7.sees 0 rfl)) (fun w14 e13 => s_val (wgE rfl rfl rfl hg7) rfl rfl (py_move rfl) (s_val (wgE rfl rfl rfl hg7) rfl rfl (py_eql rfl rfl) (kk4 _ _ (kx rfl (kx rfl (kx rfl (kx rfl (kx rfl k0))))) rfl (Ext.refl.trans e13))))))) (fun w13 e12 => ?_))))))))))))))
     have H14 := H7.to e12
     refine sV rfl (py_band rfl rfl) (sA rfl rfl (s_nil (W_seq (W_sr (sV rfl (py_field tu68 rfl ts25 rfl rfl) (sV rfl (py_load tu25 rfl rfl (cell_atL (H14.box 1 rfl) rfl)) (sV rfl (py_len tu25 rfl) (sM rfl rfl (s_nil (W_block (W_loopS (γ := Nat) H14 [(2, _), (3, _), (4, _), (8, _), (64, _), (65, _)] ⟨rfl, rfl, rfl, rfl, rfl, rfl, trivial⟩ (fun k => [(9, .bool (decide ((r.Data.length : Int) = 0) && decide ((r.Rows.length : Int) = partsOf s r.Length) && (List.range k).all (apartAt r.Rows (s.Rows - 1)))), (66, .int .i64 k)]) (fun k => k ≤ r.Rows.length ∧ True) (fun k => r.Rows.length - k) 0 ⟨eqB (by simp [partsN_ok (show longOf s r.Length = 0 by omega)]), rfl, trivial⟩ ⟨by omega, trivial⟩ (fun k w15 H15 ⟨hk, _⟩ => ?_))))))))))))
     dsimp only [lCA, lNA]
     refine W_sr (sV rfl (py_lss rfl rfl) (s_nil (W_seq (W_ifd rfl (fun c7 => ?_) (fun c7 => ?_)))))
     ·refine W_skip (W_seq (W_block (W_seq ?_)))
      obtain ⟨eb2, eo2, ee2, ec2⟩ := elem_int (H15.seen 0 rfl) k (by omega)
      have eI2 := elem_i64 (H15.seen 0 rfl) k (by omega)
      refine W_reg (sM rfl rfl (sV rfl (py_elz tu25 ts2 rfl rfl ee2 k (by omega) (by omega)) (sV rfl (py_load tu2 rfl rfl ec2) (sA rfl rfl (sA rfl rfl (s_nil (W_reg (sM rfl rfl (sM rfl rfl (s_case (t := 72) rfl (fun hg8 => ?_) (fun hg8 => ?_)))))))))))
      ·try simp only [decide_eq_true_eq, decide_eq_false_iff_not] at hg8
       refine s_val (wg rfl rfl rfl) rfl rfl (py_loadS tu34 rfl ts34 rfl rfl (At.whole (H15.box 0 rfl))) (s_val (wg rfl rfl rfl) rfl rfl (py_move rfl) (s_call (wg rfl rfl rfl) rfl rfl (pc_call Tryz.func72 rfl Tryz_nm72 rfl) (Tryz_impl_Shape_isRow (by assumption)) (fun v6 w16 r6 => ?_)))
       obtain ⟨e14, rfl⟩ := r6
       have H16 := H15.to e14
       refine sV rfl (py_pickT rfl rfl) (sM rfl rfl (s_case (t := 77) rfl (fun hg9 => ?_) (fun hg9 => ?_)))
       ·try simp only [decide_eq_true_eq, decide_eq_false_iff_not] at hg9
        refine s_val (wg rfl rfl rfl) rfl rfl (py_field tu68 rfl ts25 rfl rfl) (s_val (wg rfl rfl rfl) rfl rfl (py_load tu25 rfl rfl (cell_atL (H16.box 1 rfl) rfl)) (s_val (wg rfl rfl rfl) rfl rfl (py_move rfl) ?_))
        have sc2 := own_le_cap (H16.seen 0 rfl)
        obtain ⟨sf2, so2, ss2⟩ := own_cutL (H16.seen 0 rfl) (0) (k) _ (by omega) (by omega) (by omega) (Nat.le_refl _)
        have H17 := H16.look1 0 rfl so2 ss2
        have sl2 := cut_len (xs := r.Rows) (l := 0) (h := k) (by omega)
        refine s_val (wg rfl rfl rfl) rfl rfl (py_slcHN tu25 ts2 rfl rfl (k) (by omega) (by omega) sl2) ((s_val (wg rfl rfl rfl) rfl rfl (py_move rfl) (s_call (wg rfl rfl rfl) rfl rfl (pc_call Tryz.func243 rfl Tryz_nm243 rfl) (Tryz_slices_Contains_int64_int64 (H17.sees 3 rfl)) (fun v7 w17 r7 => ?_))))
        obtain ⟨e15, rfl⟩ := r7
        have H18 := H17.to e15
        refine s_val (wg rfl rfl rfl) rfl rfl (py_not rfl) (sV rfl (py_pickT rfl rfl) (sA rfl rfl (s_nil (W_reg (sV rfl (py_add rfl rfl (in64 ⟨by omega, by omega⟩)) (sM rfl rfl (s_nil (⟨k + 1, ⟨eqB (by simp only [all_step, apartAt, cut_take, ← Bool.and_assoc, hg8, hg9, Bool.true_and, Bool.false_and]), rfl, rfl, rfl, rfl, rfl, rfl, rfl, trivial⟩, ⟨(H18.ftake 3), by omega, trivial⟩, by dsimp only; omega⟩))))))))
       ·try simp only [decide_eq_true_eq, decide_eq_false_iff_not] at hg9
        refine sKf rfl rfl rfl (sKf rfl rfl rfl (sKf rfl rfl rfl (sKf rfl rfl rfl (sKf rfl rfl rfl (sKf rfl rfl rfl (sKf rfl rfl rfl (sV rfl (py_pickF rfl rfl) (sA rfl rfl (s_nil (W_reg (sV rfl (py_add rfl rfl (in64 ⟨by omega, by omega⟩)) (sM rfl rfl (s_nil (⟨k + 1, ⟨eqB (by simp only [all_step, apartAt, cut_take, ← Bool.and_assoc, hg8, hg9, Bool.true_and, Bool.false_and]), rfl, rfl, rfl, rfl, rfl, rfl, rfl, trivial⟩, ⟨H16, by omega, trivial⟩, by dsimp only; omega⟩))))))))))))))
      ·try simp only [decide_eq_true_eq, decide_eq_false_iff_not] at hg8
       refine sKf rfl rfl rfl (sKf rfl rfl rfl (sKf rfl rfl rfl (sV rfl (py_pickF rfl rfl) (sM rfl rfl (sKf rfl rfl rfl (sKf rfl rfl rfl (sKf rfl rfl rfl (sKf rfl rfl rfl (sKf rfl rfl rfl (sKf rfl rfl rfl (sKf rfl rfl rfl (sV rfl (py_pickF rfl rfl) (sA rfl rfl (s_nil (W_reg (sV rfl (py_add rfl rfl (in64 ⟨by omega, by omega⟩)) (sM rfl rfl (s_nil (⟨k + 1, ⟨eqB (by simp only [all_step, apartAt, cut_take, ← Bool.and_assoc, hg8, Bool.true_and, Bool.false_and]), rfl, rfl, rfl, rfl, rfl, rfl, rfl, trivial⟩, ⟨H15, by omega, trivial⟩, by dsimp only; omega⟩)))))))))))))))))))
     ·refine W_exit (W_seq (W_seq ?_))
      obtain rfl : k = r.Rows.length := by omega
      have io := item_ok (s := s) (r := r) (by omega) (by omega) (decide_eq_false hg2).symm rfl rfl rfl
      simp only [Bool.true_and, Bool.false_and, Bool.false_or] at io
      refine W_reg (sM rfl rfl (sV rfl (py_not rfl) (sM rfl rfl (s_val (wg rfl rfl rfl) rfl rfl (py_move rfl) (s_val (wg rfl rfl rfl) rfl rfl (py_not rfl) (sV rfl (py_pickT rfl rfl) (s_nil (W_if rfl (fun c8 => ?_) (fun c8 => ?_)))))))))
      ·refine W_sr (sA rfl rfl (s_nil (rT hQ Tryz.results200 rfl ?_)))
       exact ⟨H15.ext, congrArg (Value.int .i64) (itemF_bad (by omega) (by rw [← io]; exact not_true (id c8))).symm⟩
      ·refine W_skip (W_sr (sA rfl rfl (s_nil (rT hQ Tryz.results200 rfl ?_))))
       exact ⟨H15.ext, congrArg (Value.int .i64) (itemF_ok (by omega) (by rw [← io]; exact not_false (id c8))).symm⟩
theorem Tryz_spec_l5Weights {w : World} {s : Shape} {r : Rec} {rA6 rA7 rA8 : Option Addr} {rC6 rC7 rC8 : Nat} (rK : r.Ok) (rS6 : Sees w [.slice rA6 r.Rows.length rC6] r.Rows) (rS7 : Sees w [.slice rA7 r.Data.length rC7] r.Data) (rS8 : Sees w [.slice rA8 r.Delta.length rC8] r.Delta) (hs : s.ok = true) (hg : 0 ≤ r.Group ∧ r.Group < s.Groups + s.Column) (hr : ∀ i, i < r.Rows.length → 0 ≤ r.Rows.getD i 0 ∧ r.Rows.getD i 0 < s.Groups + s.Column) : Ret Tryz.prog 191 #[s.v, r.val rA6 rC6 rA7 rC7 rA8 rC8] w fun v w' => Ext No w w' ∧ (v = .bool (weightsOK s r)) := by
 have rK2 := rK
 unfold Rec.Ok at rK2
 try unfold I64ok at rK2
 try unfold maxLen at rK2
 have rN2 : r.Name.size ≤ maxLen := by unfold maxLen; omega
 have rL6 := sL rS6
 obtain ⟨rF6, rO6⟩ := rS6
 have rL7 := sL rS7
 obtain ⟨rF7, rO7⟩ := rS7
 have rL8 := sL rS8
 obtain ⟨rF8, rO8⟩ := rS8
 have sbd := shape_bd hs
 refine ret_Q (vs := [s.v, r.val rA6 rC6 rA7 rC7 rA8 rC8]) Tryz.func191 rfl Tryz.ntmps191 rfl (fun Q hQ hN => ?_)
 have H0 := Sep.start (w := w) (F := [seen false [.slice rA6 r.Rows.length rC6] r.Rows rF6, seen false [.slice rA7 r.Data.length rC7] r.Data rF7, seen false [.slice rA8 r.Delta.length rC8] r.Delta rF8]) (all_cons rO6 (all_cons rO7 (all_cons rO8 (by simp))))
 refine W_sr (s_box (wn rfl) rfl rfl H0 (fun b1 w1 e1 g1 H1 => ?_))
 refine s_box (wn rfl) rfl rfl H1 (fun b2 w2 e2 g2 H2 => ?_)
 refine sA rfl rfl (s_nil (W_seq (W_seq (W_drw (S := Ext No _) [(0, true), (1, true), (2, true), (3, true), (4, false), (5, true), (6, true), (7, true), (8, true), (9, true), (10, true), (11, true), (12, true), (13, true), (14, false)] (by kernel_rfl) (by kernel_rfl) (by kernel_rfl) rfl (fun _ => Ext.refl.drawn _) (fun q1 => ?_)))))
 have H3 := H2.drawn q1
 refine dV rfl rfl (fun zw hx => py_field tu68 rfl ts45 rfl rfl) (dV rfl rfl (fun zw hx => py_load tu45 rfl rfl (cell_atL (hx.heap (H3.box 1 rfl)) rfl)) (dV rfl rfl (fun zw hx => py_len tu45 rfl) (dV rfl rfl (fun zw hx => py_loadS tu34 rfl ts34 rfl rfl (At.whole (hx.heap (H3.box 0 rfl)))) (d_call rfl (wn rfl) rfl rfl (pc_call Tryz.func162 rfl Tryz_nm162 rfl) (Tryz_spec_l5All (by assumption)) (fun hS _ _ r _ => hS.trans r.1.no) (fun v1 w3 r1 => ?_)))))
 obtain ⟨e3, rfl⟩ := r1
 have H4 := H3.to e3
 refine dV rfl rfl (fun zw hx => py_neq rfl rfl) (dM rfl rfl rfl (d_case (t := 12) rfl (fun hg1 => ?_) (fun hg1 => ?_)))
 ·try simp only [decide_eq_true_eq, decide_eq_false_iff_not] at hg1
  refine dKt rfl rfl rfl rfl (dKt rfl rfl rfl rfl (dKt rfl rfl rfl rfl (dKt rfl rfl rfl rfl (dKt rfl rfl rfl rfl (dKt rfl rfl rfl rfl (dKt rfl rfl rfl rfl (d_end rfl (wn rfl) rfl rfl (py_pickT rfl rfl) (d_nil (W_ift rfl (W_sr (sA rfl rfl (s_nil (rT hQ Tryz.results191 rfl ?_)))))))))))))
  exact ⟨H4.ext, congrArg Value.bool ((weight_bad (by omega)).symm)⟩
 ·try simp only [decide_eq_true_eq, decide_eq_false_iff_not] at hg1
  refine d_val rfl (wg rfl rfl rfl) rfl rfl (fun zw hx => py_field tu68 rfl ts45 rfl rfl) (d_val rfl (wg rfl rfl rfl) rfl rfl (fun zw hx => py_load tu45 rfl rfl (cell_atL (hx.heap (H3.box 1 rfl)) rfl)) (d_val rfl (wg rfl rfl rfl) rfl rfl (fun zw hx => py_field tu68 rfl ts2 rfl rfl) (d_val rfl (wg rfl rfl rfl) rfl rfl (fun zw hx => py_load tu2 rfl rfl (cell_atL (hx.heap (H3.box 1 rfl)) rfl)) ?_)))
  obtain ⟨eb1, eo1, ee1, ec1⟩ := elem_u8 (H3.seen 2 rfl) r.Group.toNat (by omega)
  refine d_val rfl (wg rfl rfl rfl) rfl rfl (fun zw hx => py_elz tu45 ts5 rfl rfl ee1 r.Group.toNat (by omega) (by omega)) (d_val rfl (wg rfl rfl rfl) rfl rfl (fun zw hx => py_load tu5 rfl rfl (hx.cell ec1)) (d_val rfl (wg rfl rfl rfl) rfl rfl (fun zw hx => py_neq rfl rfl) (d_end rfl (wn rfl) rfl rfl (py_pickF rfl rfl) (d_nil (W_ifd rfl (fun c1 => ?_) (fun c1 => ?_))))))
  ·refine W_sr (sA rfl rfl (s_nil (rT hQ Tryz.results191 rfl ?_)))
   exact ⟨H4.ext, congrArg Value.bool ((weight_grp (by omega)).symm)⟩
  ·refine W_skip (W_seq (W_sr (sA rfl rfl (s_nil (W_block (W_loopS (γ := Nat) H4 [(3, _)] ⟨rfl, trivial⟩ (fun k => [(5, .int .i64 k)]) (fun k => k ≤ r.Rows.length ∧ (∀ i, i < k → ¬ ((r.Delta.getD (r.Rows.getD i 0).toNat 0).toNat : Int) = 0)) (fun k => r.Rows.length - k) 0 ⟨rfl, trivial⟩ ⟨by omega, fun i hi => by omega⟩ (fun k w4 H5 ⟨hk, he⟩ => ?_)))))))
   dsimp only [lCA, lNA]
   refine W_seq (W_sr (sM rfl rfl (sV rfl (py_field tu68 rfl ts25 rfl rfl) (sV rfl (py_load tu25 rfl rfl (cell_atL (H5.box 1 rfl) rfl)) (sV rfl (py_len tu25 rfl) (sV rfl (py_lss rfl rfl) (s_nil (W_ifd rfl (fun c2 => ?_) (fun c2 => ?_)))))))))
   ·refine W_skip (W_seq (W_block (W_seq ?_)))
    have hrk := hr k (by omega)
    obtain ⟨eb2, eo2, ee2, ec2⟩ := elem_int (H5.seen 0 rfl) k (by omega)
    have eI1 := elem_i64 (H5.seen 0 rfl) k (by omega)
    obtain ⟨eb3, eo3, ee3, ec3⟩ := elem_u8 (H5.seen 2 rfl) (r.Rows.getD k 0).toNat (by omega)
    refine W_drw (S := Ext No _) [(0, true), (1, true), (2, true), (3, true), (4, true), (5, true), (6, true), (7, true), (8, true), (9, false)] (by kernel_rfl) (by kernel_rfl) (by kernel_rfl) rfl (fun _ => Ext.refl.drawn _) (fun q2 => ?_)
    have H6 := H5.drawn q2
    refine dV rfl rfl (fun zw hx => py_field tu68 rfl ts45 rfl rfl) (dV rfl rfl (fun zw hx => py_load tu45 rfl rfl (cell_atL (hx.heap (H6.box 1 rfl)) rfl)) (dV rfl rfl (fun zw hx => py_field tu68 rfl ts25 rfl rfl) (dV rfl rfl (fun zw hx => py_load tu25 rfl rfl (cell_atL (hx.heap (H6.box 1 rfl)) rfl)) (dM rfl rfl rfl (dV rfl rfl (fun zw hx => py_elz tu25 ts2 rfl rfl ee2 k (by omega) (by omega)) (dV rfl rfl (fun zw hx => py_load tu2 rfl rfl (hx.cell ec2)) (dV rfl rfl (fun zw hx => py_elz tu45 ts5 rfl rfl ee3 (r.Rows.getD k 0).toNat (by omega) (by omega)) (dV rfl rfl (fun zw hx => py_load tu5 rfl rfl (hx.cell ec3)) (d_end rfl (wn rfl) rfl rfl (py_eql rfl rfl) (d_nil (W_ifd rfl (fun c3 => ?_) (fun c3 => ?_))))))))))))
    ·refine W_sr (sA rfl rfl (s_nil (rT hQ Tryz.results191 rfl ?_)))
     exact ⟨H6.ext, congrArg Value.bool ((weight_row k (by omega) c3).symm)⟩
    ·refine W_skip (W_reg (sM rfl rfl (sV rfl (py_add rfl rfl (in64 ⟨by omega, by omega⟩)) (sA rfl rfl (s_nil (⟨k + 1, ⟨rfl, rfl, trivial⟩, ⟨H6, by omega, fun i hi => ?_⟩, by dsimp only; omega⟩))))))
     by_cases e : i = k
     ·subst e
      assumption
     ·exact he i (by omega)
   ·refine W_exit (W_sr (sA rfl rfl (s_nil (rT hQ Tryz.results191 rfl ?_))))
    exact ⟨H5.ext, congrArg Value.bool ((weight_ok (by omega) (by omega) (fun i hi => he i (by omega))).symm)⟩
theorem Tryz_spec_l5Empty {w : World} {r : Rec} {rA6 rA7 rA8 : Option Addr} {rC6 rC7 rC8 : Nat} (rK : r.Ok) (rS6 : Sees w [.slice rA6 r.Rows.length rC6] r.Rows) (rS7 : Sees w [.slice rA7 r.Data.length rC7] r.Data) (rS8 : Sees w [.slice rA8 r.Delta.length rC8] r.Delta) : Ret Tryz.prog 192 #[r.val rA6 rC6 rA7 rC7 rA8 rC8] w fun v w' => Ext No w w' ∧ (v = .bool (emptyR r)) := by
 have rK2 := rK
 unfold Rec.Ok at rK2
 try unfold I64ok at rK2
 try unfold maxLen at rK2
 have rN2 : r.Name.size ≤ maxLen := by unfold maxLen; omega
 have rL6 := sL rS6
 obtain ⟨rF6, rO6⟩ := rS6
 have rL7 := sL rS7
 obtain ⟨rF7, rO7⟩ := rS7
 have rL8 := sL rS8
 obtain ⟨rF8, rO8⟩ := rS8
 refine ret_Q (vs := [r.val rA6 rC6 rA7 rC7 rA8 rC8]) Tryz.func192 rfl Tryz.ntmps192 rfl (fun Q hQ hN => ?_)
 have H0 := Sep.start (w := w) (F := [seen false [.slice rA6 r.Rows.length rC6] r.Rows rF6, seen false [.slice rA7 r.Data.length rC7] r.Data rF7, seen false [.slice rA8 r.Delta.length rC8] r.Delta rF8]) (all_cons rO6 (all_cons rO7 (all_cons rO8 (by simp))))
 refine W_sr (s_box (wn rfl) rfl rfl H0 (fun b1 w1 e1 g1 H1 => ?_))
 refine sA rfl rfl (s_nil (W_sr (sV rfl (py_field tu68 rfl ts9 rfl rfl) (sV rfl (py_load tu9 rfl rfl (cell_atL (H1.box 0 rfl) rfl)) (sV rfl (py_seql rfl rfl) (sM rfl rfl (s_grp 3 (j := 3) (want := true) (t := 9) rfl rfl rfl rfl (fun hg1 kk1 => s_val (wgE rfl rfl rfl hg1) rfl rfl (py_field tu68 rfl ts2 rfl rfl) (s_val (wgE rfl rfl rfl hg1) rfl rfl (py_load tu2 rfl rfl (cell_atL (H1.box 0 rfl) rfl)) (s_val (wgE rfl rfl rfl hg1) rfl rfl (py_eql rfl rfl) (kk1 _ _ (kx rfl (kx rfl (kx rfl k0))) rfl Ext.refl)))) (fun w2 e2 => ?_))))))))
 have H2 := H1.to e2
 refine sV rfl (py_band rfl rfl) (sM rfl rfl (s_grp 3 (j := 8) (want := true) (t := 14) rfl rfl rfl rfl (fun hg2 kk2 => s_val (wgE rfl rfl rfl hg2) rfl rfl (py_field tu68 rfl ts2 rfl rfl) (s_val (wgE rfl rfl rfl hg2) rfl rfl (py_load tu2 rfl rfl (cell_atL (H2.box 0 rfl) rfl)) (s_val (wgE rfl rfl rfl hg2) rfl rfl (py_eql rfl rfl) (kk2 _ _ (kx rfl (kx rfl (kx rfl k0))) rfl Ext.refl)))) (fun w3 e3 => ?_)))
 have H3 := H2.to e3
 refine sV rfl (py_band rfl rfl) (sM rfl rfl (s_grp 3 (j := 13) (want := true) (t := 19) rfl rfl rfl rfl (fun hg3 kk3 => s_val (wgE rfl rfl rfl hg3) rfl rfl (py_field tu68 rfl ts2 rfl rfl) (s_val (wgE rfl rfl rfl hg3) rfl rfl (py_load tu2 rfl rfl (cell_atL (H3.box 0 rfl) rfl)) (s_val (wgE rfl rfl rfl hg3) rfl rfl (py_eql rfl rfl) (kk3 _ _ (kx rfl (kx rfl (kx rfl k0))) rfl Ext.refl)))) (fun w4 e4 => ?_)))
 have H4 := H3.to e4
 refine sV rfl (py_band rfl rfl) (sM rfl rfl (s_grp 4 (j := 18) (want := true) (t := 25) rfl rfl rfl rfl (fun hg4 kk4 => s_val (wgE rfl rfl rfl hg4) rfl rfl (py_field tu68 rfl ts25 rfl rfl) (s_val (wgE rfl rfl rfl hg4) rfl rfl (py_load tu25 rfl rfl (cell_atL (H4.box 0 rfl) rfl)) (s_val (wgE rfl rfl rfl hg4) rfl rfl (py_len tu25 rfl) (s_val (wgE rfl rfl rfl hg4) rfl rfl (py_eql rfl rfl) (kk4 _ _ (kx rfl (kx rfl (kx rfl (kx rfl k0)))) rfl Ext.refl))))) (fun w5 e5 => ?_)))
 have H5 := H4.to e5
 refine sV rfl (py_band rfl rfl) (sM rfl rfl (s_grp 4 (j := 24) (want := true) (t := 31) rfl rfl rfl rfl (fun hg5 kk5 => s_val (wgE rfl rfl rfl hg5) rfl rfl (py_field tu68 rfl ts45 rfl rfl) (s_val (wgE rfl rfl rfl hg5) rfl rfl (py_load tu45 rfl rfl (cell_atL (H5.box 0 rfl) rfl)) (s_val (wgE rfl rfl rfl hg5) rfl rfl (py_len tu45 rfl) (s_val (wgE rfl rfl rfl hg5) rfl rfl (py_eql rfl rfl) (kk5 _ _ (kx rfl (kx rfl (kx rfl (kx rfl k0)))) rfl Ext.refl))))) (fun w6 e6 => ?_)))
 have H6 := H5.to e6
 refine sV rfl (py_band rfl rfl) (sM rfl rfl (s_grp 4 (j := 30) (want := true) (t := 37) rfl rfl rfl rfl (fun hg6 kk6 => s_val (wgE rfl rfl rfl hg6) rfl rfl (py_field tu68 rfl ts45 rfl rfl) (s_val (wgE rfl rfl rfl hg6) rfl rfl (py_load tu45 rfl rfl (cell_atL (H6.box 0 rfl) rfl)) (s_val (wgE rfl rfl rfl hg6) rfl rfl (py_len tu45 rfl) (s_val (wgE rfl rfl rfl hg6) rfl rfl (py_eql rfl rfl) (kk6 _ _ (kx rfl (kx rfl (kx rfl (kx rfl k0)))) rfl Ext.refl))))) (fun w7 e7 => ?_)))
 have H7 := H6.to e7
 refine sV rfl (py_band rfl rfl) (sA rfl rfl (s_nil (rT hQ Tryz.results192 rfl ?_)))
 exact ⟨H7.ext, congrArg Value.bool (by simp only [emptyR, noName, str_beq, Bool.and_assoc]; simp)⟩
theorem Tryz_spec_l5Apart {w : World} {xs : List Int} {xsA : Option Addr} {xsC : Nat} {m : Int} (xsS : Sees w [.slice xsA xs.length xsC] xs) : Ret Tryz.prog 161 #[.slice xsA xs.length xsC, .int .i64 m] w fun v w' => Ext No w w' ∧ (v = .bool (apartL xs m)) := by
 have xsL := sL xsS
 obtain ⟨xsF, xsO⟩ := xsS
 refine ret_Q (vs := [.slice xsA xs.length xsC, .int .i64 m]) Tryz.func161 rfl Tryz.ntmps161 rfl (fun Q hQ hN => ?_)
 have H0 := Sep.start (w := w) (F := [seen false [.slice xsA xs.length xsC] xs xsF]) (all_cons xsO (by simp))
 refine W_sr (sA rfl rfl (s_nil (W_seq (W_sr (sA rfl rfl (s_nil (W_block (W_loopS (γ := Nat) H0 [(0, _), (1, _)] ⟨rfl, rfl, trivial⟩ (fun k => [(5, .int .i64 k)]) (fun k => k ≤ xs.length ∧ (∀ i, i < k → apartAt xs m i = true)) (fun k => xs.length - k) 0 ⟨rfl, trivial⟩ ⟨by omega, fun i hi => by omega⟩ (fun k w1 H1 ⟨hk, he⟩ => ?_)))))))))
 dsimp only [lCA, lNA]
 refine W_seq (W_sr (sM rfl rfl (sM rfl rfl (sV rfl (py_len tu25 rfl) (sV rfl (py_lss rfl rfl) (s_nil (W_ifd rfl (fun c1 => ?_) (fun c1 => ?_))))))))
 ·refine W_skip (W_seq (W_block (W_seq ?_)))
  obtain ⟨eb1, eo1, ee1, ec1⟩ := elem_int (H1.seen 0 rfl) k (by omega)
  have eI1 := elem_i64 (H1.seen 0 rfl) k (by omega)
  refine W_drw (S := Ext No _) [(0, true), (1, true), (2, true), (3, true), (4, true), (5, false), (6, true), (7, true), (8, true), (9, true), (10, true), (11, true), (12, true), (13, true), (14, true), (15, false), (16, false)] (by kernel_rfl) (by kernel_rfl) (by kernel_rfl) rfl (fun _ => Ext.refl.drawn _) (fun q1 => ?_)
  have H2 := H1.drawn q1
  refine dM rfl rfl rfl (dM rfl rfl rfl (dV rfl rfl (fun zw hx => py_elz tu25 ts2 rfl rfl ee1 k (by omega) (by omega)) (dV rfl rfl (fun zw hx => py_load tu2 rfl rfl (hx.cell ec1)) (dM rfl rfl rfl (d_call rfl (wn rfl) rfl rfl (pc_call Tryz.func97 rfl Tryz_nm97 rfl) Tryz_spec_l1In (fun hS _ _ r _ => hS.trans r.1.no) (fun v1 w2 r1 => ?_))))))
  obtain ⟨e1, rfl⟩ := r1
  have H3 := H2.to e1
  refine dV rfl rfl (fun zw hx => py_not rfl) (dM rfl rfl rfl (d_case (t := 19) rfl (fun hg1 => ?_) (fun hg1 => ?_)))
  ·try simp only [decide_eq_true_eq, decide_eq_false_iff_not] at hg1
   refine dKt rfl rfl rfl rfl (dKt rfl rfl rfl rfl (dKt rfl rfl rfl rfl (dKt rfl rfl rfl rfl (dKt rfl rfl rfl rfl (dKt rfl rfl rfl rfl (dKt rfl rfl rfl rfl (d_skipA rfl (wog (b := true) rfl rfl rfl) rfl rfl (d_end rfl (wn rfl) rfl rfl (py_pickT rfl rfl) (d_nil (W_ift rfl (W_sr (sA rfl rfl (s_nil (rT hQ Tryz.results161 rfl ?_))))))))))))))
   exact ⟨H3.ext, congrArg Value.bool ((all_no k (by omega) (by simp only [apartAt, cut_take] at *; simp_all)).symm)⟩
  ·try simp only [decide_eq_true_eq, decide_eq_false_iff_not] at hg1
   refine d_val rfl (wg rfl rfl rfl) rfl rfl (fun zw hx => py_move rfl) (d_val rfl (wg rfl rfl rfl) rfl rfl (fun zw hx => py_move rfl) ?_)
   have sc1 := own_le_cap (H3.seen 0 rfl)
   obtain ⟨sf1, so1, ss1⟩ := own_cutL (H3.seen 0 rfl) (0) (k) _ (by omega) (by omega) (by omega) (Nat.le_refl _)
   have H4 := H3.look1 0 rfl so1 ss1
   have sl1 := cut_len (xs := xs) (l := 0) (h := k) (by omega)
   refine d_val rfl (wg rfl rfl rfl) rfl rfl (fun zw hx => py_slcHN tu25 ts2 rfl rfl (k) (by omega) (by omega) sl1) (d_val rfl (wg rfl rfl rfl) rfl rfl (fun zw hx => py_move rfl) (d_val rfl (wg rfl rfl rfl) rfl rfl (fun zw hx => py_move rfl) (d_val rfl (wg rfl rfl rfl) rfl rfl (fun zw hx => py_elz tu25 ts2 rfl rfl ee1 k (by omega) (by omega)) (d_val rfl (wg rfl rfl rfl) rfl rfl (fun zw hx => py_load tu2 rfl rfl (hx.cell ec1)) (d_call rfl (wg rfl rfl rfl) rfl rfl (pc_call Tryz.func156 rfl Tryz_nm156 rfl) (Tryz_spec_l1Has (H4.sees 1 rfl)) (fun hS _ _ r _ => hS.trans r.1.no) (fun v2 w3 r2 => ?_))))))
   obtain ⟨e2, rfl⟩ := r2
   have H5 := H4.to e2
   refine d_end rfl (wn rfl) rfl rfl (py_pickF rfl rfl) (d_nil (W_if rfl (fun c2 => ?_) (fun c2 => ?_)))
   ·refine W_sr (sA rfl rfl (s_nil (rT hQ Tryz.results161 rfl ?_)))
    exact ⟨H5.ext, congrArg Value.bool ((all_no k (by omega) (by simp only [apartAt, cut_take] at *; simp_all)).symm)⟩
   ·refine W_skip (W_reg (sM rfl rfl (sV rfl (py_add rfl rfl (in64 ⟨by omega, by omega⟩)) (sA rfl rfl (s_nil (⟨k + 1, ⟨rfl, rfl, rfl, trivial⟩, ⟨(H5.ftake 1), by omega, fun i hi => ?_⟩, by dsimp only; omega⟩))))))
    by_cases e : i = k
    ·subst e
     simp only [apartAt, cut_take] at *; simp_all
    ·exact he i (by omega)
 ·refine W_exit (W_sr (sA rfl rfl (s_nil (rT hQ Tryz.results161 rfl ?_))))
  exact ⟨H1.ext, congrArg Value.bool ((all_yes fun i hi => he i (by omega)).symm)⟩
theorem Tryz_spec_l5Item {w : World} {s : Shape} {r : Rec} {rA6 rA7 rA8 : Option Addr} {rC6 rC7 rC8 : Nat} (rK : r.Ok) (rS6 : Sees w [.slice rA6 r.Rows.length rC6] r.Rows) (rS7 : Sees w [.slice rA7 r.Data.length rC7] r.Data) (rS8 : Sees w [.slice rA8 r.Delta.length rC8] r.Delta) (hs : s.ok = true) : Ret Tryz.prog 188 #[s.v, r.val rA6 rC6 rA7 rC7 rA8 rC8] w fun v w' => Ext No w w' ∧ (v = .bool (itemOK s r)) := by
 have rK2 := rK
 unfold Rec.Ok at rK2
 try unfold I64ok at rK2
 try unfold maxLen at rK2
 have rN2 : r.Name.size ≤ maxLen := by unfold maxLen; omega
 have rL6 := sL rS6
 obtain ⟨rF6, rO6⟩ := rS6
 have rL7 := sL rS7
 obtain ⟨rF7, rO7⟩ := rS7
 have rL8 := sL rS8
 obtain ⟨rF8, rO8⟩ := rS8
 have sbd := shape_bd hs
 refine ret_Q (vs := [s.v, r.val rA6 rC6 rA7 rC7 rA8 rC8]) Tryz.func188 rfl Tryz.ntmps188 rfl (fun Q hQ hN => ?_)
 have H0 := Sep.start (w := w) (F := [seen false [.slice rA6 r.Rows.length rC6] r.Rows rF6, seen false [.slice rA7 r.Data.length rC7] r.Data rF7, seen false [.slice rA8 r.Delta.length rC8] r.Delta rF8]) (all_cons rO6 (all_cons rO7 (all_cons rO8 (by simp))))
 refine W_sr (s_box (wn rfl) rfl rfl H0 (fun b1 w1 e1 g1 H1 => ?_))
 refine s_box (wn rfl) rfl rfl H1 (fun b2 w2 e2 g2 H2 => ?_)
 refine sA rfl rfl (s_nil (W_seq (W_sr (sV rfl (py_field tu68 rfl ts2 rfl rfl) (sV rfl (py_load tu2 rfl rfl (cell_atL (H2.box 1 rfl) rfl)) (sV rfl (py_eql rfl rfl) (s_nil (W_ifd rfl (fun c1 => ?_) (fun c1 => ?_)))))))))
 ·refine W_sr (sV rfl (py_field tu68 rfl ts45 rfl rfl) (sV rfl (py_load tu45 rfl rfl (cell_atL (H2.box 1 rfl) rfl)) (sV rfl (py_len tu45 rfl) (sV rfl (py_eql rfl rfl) (sM rfl rfl (s_grp 4 (j := 4) (want := true) (t := 16) rfl rfl rfl rfl (fun hg1 kk1 => s_val (wgE rfl rfl rfl hg1) rfl rfl (py_field tu68 rfl ts25 rfl rfl) (s_val (wgE rfl rfl rfl hg1) rfl rfl (py_load tu25 rfl rfl (cell_atL (H2.box 1 rfl) rfl)) (s_val (wgE rfl rfl rfl hg1) rfl rfl (py_len tu25 rfl) (s_val (wgE rfl rfl rfl hg1) rfl rfl (py_eql rfl rfl) (kk1 _ _ (kx rfl (kx rfl (kx rfl (kx rfl k0)))) rfl Ext.refl))))) (fun w3 e3 => ?_)))))))
  have H3 := H2.to e3
  refine sV rfl (py_band rfl rfl) (sA rfl rfl (s_nil (rT hQ Tryz.results188 rfl ?_)))
  exact ⟨H3.ext, congrArg Value.bool (by rw [item_del (by omega)]; simp)⟩
 ·refine W_skip (W_seq (W_sr (sV rfl (py_loadS tu34 rfl ts34 rfl rfl (At.whole (H2.box 0 rfl))) (sV rfl (py_field tu68 rfl ts2 rfl rfl) (sV rfl (py_load tu2 rfl rfl (cell_atL (H2.box 1 rfl) rfl)) (s_call (wn rfl) rfl rfl (pc_call Tryz.func271 rfl Tryz_nm271 rfl) (Tryz_spec_l4Long (by assumption)) (fun v1 w4 r1 => ?_)))))))
  obtain ⟨e4, rfl⟩ := r1
  have H4 := H2.to e4
  refine sV rfl (py_neq rfl rfl) (s_nil (W_ifd rfl (fun c2 => ?_) (fun c2 => ?_)))
  ·refine W_sr (sA rfl rfl (s_nil (rT hQ Tryz.results188 rfl ?_)))
   exact ⟨H4.ext, congrArg Value.bool ((item_long (by omega) (by omega)).symm)⟩
  ·refine W_skip (W_seq (W_sr (sV rfl (py_field tu68 rfl ts45 rfl rfl) (sV rfl (py_load tu45 rfl rfl (cell_atL (H4.box 1 rfl) rfl)) (sV rfl (py_len tu45 rfl) (sV rfl (py_gtr rfl rfl) (s_nil (W_ifd rfl (fun c3 => ?_) (fun c3 => ?_)))))))))
   ·refine W_sr (sV rfl (py_field tu68 rfl ts45 rfl rfl) (sV rfl (py_load tu45 rfl rfl (cell_atL (H4.box 1 rfl) rfl)) (sV rfl (py_len tu45 rfl) (sV rfl (py_field tu68 rfl ts2 rfl rfl) (sV rfl (py_load tu2 rfl rfl (cell_atL (H4.box 1 rfl) rfl)) (sV rfl (py_eql rfl rfl) (sM rfl rfl (s_grp 4 (j := 6) (want := true) (t := 37) rfl rfl rfl rfl (fun hg2 kk2 => s_val (wgE rfl rfl rfl hg2) rfl rfl (py_field tu68 rfl ts25 rfl rfl) (s_val (wgE rfl rfl rfl hg2) rfl rfl (py_load tu25 rfl rfl (cell_atL (H4.box 1 rfl) rfl)) (s_val (wgE rfl rfl rfl hg2) rfl rfl (py_len tu25 rfl) (s_val (wgE rfl rfl rfl hg2) rfl rfl (py_eql rfl rfl) (kk2 _ _ (kx rfl (kx rfl (kx rfl (kx rfl k0)))) rfl Ext.refl))))) (fun w5 e5 => ?_)))))))))
    have H5 := H4.to e5
    refine sV rfl (py_band rfl rfl) (sA rfl rfl (s_nil (rT hQ Tryz.results188 rfl ?_)))
    exact ⟨H5.ext, congrArg Value.bool (by rw [item_long0 (by omega) (by omega), if_pos (by omega)]; simp)⟩
   ·refine W_skip (W_seq ?_)
    have hz := long_zero (s := s) (len := r.Length) (by omega)
    refine W_drw (S := Ext No _) [(0, true), (1, true), (2, true), (3, true), (4, true), (5, true), (6, false), (7, true), (8, true), (9, true), (10, true), (11, true), (12, true), (13, true), (14, false), (15, true), (16, false)] (by kernel_rfl) (by kernel_rfl) (by kernel_rfl) rfl (fun _ => Ext.refl.drawn _) (fun q1 => ?_)
    have H6 := H4.drawn q1
    refine dV rfl rfl (fun zw hx => py_field tu68 rfl ts25 rfl rfl) (dV rfl rfl (fun zw hx => py_load tu25 rfl rfl (cell_atL (hx.heap (H6.box 1 rfl)) rfl)) (dV rfl rfl (fun zw hx => py_len tu25 rfl) (dV rfl rfl (fun zw hx => py_loadS tu34 rfl ts34 rfl rfl (At.whole (hx.heap (H6.box 0 rfl)))) (dV rfl rfl (fun zw hx => py_field tu68 rfl ts2 rfl rfl) (dV rfl rfl (fun zw hx => py_load tu2 rfl rfl (cell_atL (hx.heap (H6.box 1 rfl)) rfl)) (d_call rfl (wn rfl) rfl rfl (pc_call Tryz.func272 rfl Tryz_nm272 rfl) (Tryz_spec_l4Parts (by assumption) (by omega)) (fun hS _ _ r _ => hS.trans r.1.no) (fun v2 w6 r2 => ?_)))))))
    obtain ⟨e6, rfl⟩ := r2
    have H7 := H6.to e6
    refine dV rfl rfl (fun zw hx => py_eql rfl rfl) (dM rfl rfl rfl (d_case (t := 47) rfl (fun hg3 => ?_) (fun hg3 => ?_)))
    ·try simp only [decide_eq_true_eq, decide_eq_false_iff_not] at hg3
     refine d_val rfl (wg rfl rfl rfl) rfl rfl (fun zw hx => py_field tu68 rfl ts25 rfl rfl) (d_val rfl (wg rfl rfl rfl) rfl rfl (fun zw hx => py_load tu25 rfl rfl (cell_atL (hx.heap (H6.box 1 rfl)) rfl)) (d_val rfl (wg rfl rfl rfl) rfl rfl (fun zw hx => py_field tu34 rfl ts2 rfl rfl) (d_val rfl (wg rfl rfl rfl) rfl rfl (fun zw hx => py_load tu2 rfl rfl (cell_atL (hx.heap (H6.box 0 rfl)) rfl)) (d_val rfl (wg rfl rfl rfl) rfl rfl (fun zw hx => py_sub rfl rfl (in64 ⟨by omega, by omega⟩)) (d_call rfl (wg rfl rfl rfl) rfl rfl (pc_call Tryz.func161 rfl Tryz_nm161 rfl) (Tryz_spec_l5Apart (H7.sees 0 rfl)) (fun hS _ _ r _ => hS.trans r.1.no) (fun v3 w7 r3 => ?_))))))
     obtain ⟨e7, rfl⟩ := r3
     have H8 := H7.to e7
     refine dV rfl rfl (fun zw hx => py_pickT rfl rfl) (d_end rfl (wn rfl) rfl rfl (py_assign rfl) (d_nil (rT hQ Tryz.results188 rfl ?_)))
     exact ⟨H8.ext, congrArg Value.bool (by rw [item_long0 (by omega) (by omega), if_neg (by omega)]; simp_all)⟩
    ·try simp only [decide_eq_true_eq, decide_eq_false_iff_not] at hg3
     refine dKf rfl rfl rfl rfl (dKf rfl rfl rfl rfl (dKf rfl rfl rfl rfl (dKf rfl rfl rfl rfl (dKf rfl rfl rfl rfl (d_skipA rfl (wog (b := false) rfl rfl rfl) rfl rfl (dV rfl rfl (fun zw hx => py_pickF rfl rfl) (d_end rfl (wn rfl) rfl rfl (py_assign rfl) (d_nil (rT hQ Tryz.results188 rfl ?_)))))))))
     exact ⟨H7.ext, congrArg Value.bool (by rw [item_long0 (by omega) (by omega), if_neg (by omega)]; simp_all)⟩
theorem Tryz_impl_shareFault_1 {w : World} {x : Int} {rb rC6 rC7 rC8 : Nat} {r : Rec} {rA6 rA7 rA8 : Option Addr} (rB : w.heap[rb]? = some (.cells [.int .i64 r.Kind, .int .i64 r.Seq, .string r.Name, .int .i64 r.Length, .int .i64 r.Group, .int .i64 r.Row, .slice rA6 r.Rows.length rC6, .slice rA7 r.Data.length rC7, .slice rA8 r.Delta.length rC8].toArray 68)) (rK : r.Ok) (rS6 : Sees w [.slice rA6 r.Rows.length rC6] r.Rows) (rS7 : Sees w [.slice rA7 r.Data.length rC7] r.Data) (rS8 : Sees w [.slice rA8 r.Delta.length rC8] r.Delta) (hx : 0 ≤ x ∧ x < r.Delta.length) : Ret Tryz.prog 281 #[.int .i64 x, .pointer (some ⟨rb, 0, none⟩)] w fun v w' => Ext No w w' ∧ (v = .bool (decide (((r.Delta.getD (x).toNat 0).toNat : Int) = 0))) := by
 have rK2 := rK
 unfold Rec.Ok at rK2
 try unfold I64ok at rK2
 try unfold maxLen at rK2
 have rN2 : r.Name.size ≤ maxLen := by unfold maxLen; omega
 have rL6 := sL rS6
 obtain ⟨rF6, rO6⟩ := rS6
 have rL7 := sL rS7
 obtain ⟨rF7, rO7⟩ := rS7
 have rL8 := sL rS8
 obtain ⟨rF8, rO8⟩ := rS8
 refine ret_Q (vs := [.int .i64 x, .pointer (some ⟨rb, 0, none⟩)]) Tryz.func281 rfl Tryz.ntmps281 rfl (fun Q hQ hN => ?_)
 have H0 := Sep.start (w := w) (F := [box rb (.cells [.int .i64 r.Kind, .int .i64 r.Seq, .string r.Name, .int .i64 r.Length, .int .i64 r.Group, .int .i64 r.Row, .slice rA6 r.Rows.length rC6, .slice rA7 r.Data.length rC7, .slice rA8 r.Delta.length rC8].toArray 68), seen false [.slice rA6 r.Rows.length rC6] r.Rows rF6, seen false [.slice rA7 r.Data.length rC7] r.Data rF7, seen false [.slice rA8 r.Delta.length rC8] r.Delta rF8]) (all_cons (by exact rB) (all_cons rO6 (all_cons rO7 (all_cons rO8 (by simp)))))
 refine W_sr (sA rfl rfl (s_nil (W_seq ?_)))
 obtain ⟨eb1, eo1, ee1, ec1⟩ := elem_u8 (H0.seen 3 rfl) x.toNat (by omega)
 refine W_reg (sV rfl (py_field tu68 rfl ts45 rfl rfl) (sV rfl (py_load tu45 rfl rfl (cell_atL (H0.fbox 0 rfl) rfl)) (sM rfl rfl (sV rfl (py_elz tu45 ts5 rfl rfl ee1 x.toNat (by omega) (by omega)) (sV rfl (py_load tu5 rfl rfl ec1) (sV rfl (py_eql rfl rfl) (sA rfl rfl (s_nil (rT hQ Tryz.results281 rfl ?_)))))))))
 exact ⟨H0.ext, rfl⟩
theorem Tryz_impl_shareFault {w : World} {s : Shape} {r : Rec} {rA6 rA7 rA8 : Option Addr} {rC6 rC7 rC8 : Nat} (rK : r.Ok) (rS6 : Sees w [.slice rA6 r.Rows.length rC6] r.Rows) (rS7 : Sees w [.slice rA7 r.Data.length rC7] r.Data) (rS8 : Sees w [.slice rA8 r.Delta.length rC8] r.Delta) (hs : s.ok = true) : Ret Tryz.prog 201 #[s.v, r.val rA6 rC6 rA7 rC7 rA8 rC8] w fun v w' => Ext No w w' ∧ (v = .int .i64 (if shareOK s r = true then 0 else 3)) := by
 have rK2 := rK
 unfold Rec.Ok at rK2
 try unfold I64ok at rK2
 try unfold maxLen at rK2
 have rN2 : r.Name.size ≤ maxLen := by unfold maxLen; omega
 have rL6 := sL rS6
 obtain ⟨rF6, rO6⟩ := rS6
 have rL7 := sL rS7
 obtain ⟨rF7, rO7⟩ := rS7
 have rL8 := sL rS8
 obtain ⟨rF8, rO8⟩ := rS8
 have sbd := shape_bd hs
 refine ret_Q (vs := [s.v, r.val rA6 rC6 rA7 rC7 rA8 rC8]) Tryz.func201 rfl Tryz.ntmps201 rfl (fun Q hQ hN => ?_)
 have H0 := Sep.start (w := w) (F := [seen false [.slice rA6 r.Rows.length rC6] r.Rows rF6, seen false [.slice rA7 r.Data.length rC7] r.Data rF7, seen false [.slice rA8 r.Delta.length rC8] r.Delta rF8]) (all_cons rO6 (all_cons rO7 (all_cons rO8 (by simp))))
 refine W_sr (s_box (wn rfl) rfl rfl H0 (fun b1 w1 e1 g1 H1 => ?_))
 refine s_box (wn rfl) rfl rfl H1 (fun b2 w2 e2 g2 H2 => ?_)
 refine sA rfl rfl (s_nil (W_seq (W_drw (S := Ext No _) [(0, true), (1, true), (2, true), (3, false), (4, true), (5, true), (6, true), (7, true), (8, false), (9, true), (10, true), (11, true), (12, true), (13, true), (14, false), (15, false), (16, true), (17, true), (18, true), (19, true), (21, true), (20, false), (22, false), (23, true), (24, true), (25, true), (26, true), (27, true), (29, true), (28, false), (30, false), (31, true), (32, true), (33, false)] (by kernel_rfl) (by kernel_rfl) (by kernel_rfl) rfl (fun _ => Ext.refl.drawn _) (fun q1 => ?_))))
 have H3 := H2.drawn q1
 refine dV rfl rfl (fun zw hx => py_loadS tu34 rfl ts34 rfl rfl (At.whole (hx.heap (H3.box 0 rfl)))) (dV rfl rfl (fun zw hx => py_field tu68 rfl ts2 rfl rfl) (dV rfl rfl (fun zw hx => py_load tu2 rfl rfl (cell_atL (hx.heap (H3.box 1 rfl)) rfl)) (d_call rfl (wn rfl) rfl rfl (pc_call Tryz.func71 rfl Tryz_nm71 rfl) (Tryz_impl_Shape_isGroup (by assumption)) (fun hS _ _ r _ => hS.trans r.1.no) (fun v1 w3 r1 => ?_))))
 obtain ⟨e3, rfl⟩ := r1
 have H4 := H3.to e3
 refine dM rfl rfl rfl (d_case (t := 10) rfl (fun hg1 => ?_) (fun hg1 => ?_))
 ·try simp only [decide_eq_true_eq, decide_eq_false_iff_not] at hg1
  refine d_val rfl (wg rfl rfl rfl) rfl rfl (fun zw hx => py_loadS tu34 rfl ts34 rfl rfl (At.whole (hx.heap (H3.box 0 rfl)))) (d_val rfl (wg rfl rfl rfl) rfl rfl (fun zw hx => py_field tu68 rfl ts2 rfl rfl) (d_val rfl (wg rfl rfl rfl) rfl rfl (fun zw hx => py_load tu2 rfl rfl (cell_atL (hx.heap (H3.box 1 rfl)) rfl)) (d_call rfl (wg rfl rfl rfl) rfl rfl (pc_call Tryz.func72 rfl Tryz_nm72 rfl) (Tryz_impl_Shape_isRow (by assumption)) (fun hS _ _ r _ => hS.trans r.1.no) (fun v2 w4 r2 => ?_))))
  obtain ⟨e4, rfl⟩ := r2
  have H5 := H4.to e4
  refine dV rfl rfl (fun zw hx => py_pickT rfl rfl) (dM rfl rfl rfl (d_case (t := 16) rfl (fun hg2 => ?_) (fun hg2 => ?_)))
  ·try simp only [decide_eq_true_eq, decide_eq_false_iff_not] at hg2
   refine d_val rfl (wg rfl rfl rfl) rfl rfl (fun zw hx => py_field tu68 rfl ts25 rfl rfl) (d_val rfl (wg rfl rfl rfl) rfl rfl (fun zw hx => py_load tu25 rfl rfl (cell_atL (hx.heap (H3.box 1 rfl)) rfl)) (d_val rfl (wg rfl rfl rfl) rfl rfl (fun zw hx => py_loadS tu34 rfl ts34 rfl rfl (At.whole (hx.heap (H3.box 0 rfl)))) (d_call rfl (wg rfl rfl rfl) rfl rfl (pc_call Tryz.func100 rfl Tryz_nm100 rfl) (Tryz_impl_Shape_all (by assumption)) (fun hS _ _ r _ => hS.trans r.1.no) (fun v3 w5 r3 => ?_))))
   obtain ⟨e5, rfl⟩ := r3
   have H6 := H5.to e5
   refine d_call rfl (wg rfl rfl rfl) rfl rfl (pc_call Tryz.func279 rfl Tryz_nm279 rfl) (Tryz_impl_risesIn (H6.sees 0 rfl) (by omega)) (fun hS _ _ r _ => hS.trans r.1.no) (fun v4 w6 r4 => ?_)
   obtain ⟨e6, rfl⟩ := r4
   have H7 := H6.to e6
   refine dV rfl rfl (fun zw hx => py_pickT rfl rfl) (dM rfl rfl rfl (d_case (t := 23) rfl (fun hg3 => ?_) (fun hg3 => ?_)))
   ·try simp only [decide_eq_true_eq, decide_eq_false_iff_not] at hg3
    refine d_val rfl (wg rfl rfl rfl) rfl rfl (fun zw hx => py_field tu68 rfl ts45 rfl rfl) (d_val rfl (wg rfl rfl rfl) rfl rfl (fun zw hx => py_load tu45 rfl rfl (cell_atL (hx.heap (H3.box 1 rfl)) rfl)) (d_val rfl (wg rfl rfl rfl) rfl rfl (fun zw hx => py_loadS tu34 rfl ts34 rfl rfl (At.whole (hx.heap (H3.box 0 rfl)))) (d_call rfl (wg rfl rfl rfl) rfl rfl (pc_call Tryz.func202 rfl Tryz_nm202 rfl) (Tryz_size_byte (H7.sees 1 rfl)) (fun hS _ _ r _ => hS.trans r.1.no) (fun v5 w7 r5 => ?_))))
    obtain ⟨e7, rfl⟩ := r5
    have H8 := H7.to e7
    refine d_call rfl (wg rfl rfl rfl) rfl rfl (pc_call Tryz.func203 rfl Tryz_nm203 rfl) (Tryz_impl_Shape_rowLength (by assumption)) (fun hS _ _ r _ => hS.trans r.1.no) (fun v6 w8 r6 => ?_)
    obtain ⟨e8, rfl⟩ := r6
    have H9 := H8.to e8
    refine d_val rfl (wg rfl rfl rfl) rfl rfl (fun zw hx => py_eql rfl rfl) (dV rfl rfl (fun zw hx => py_pickT rfl rfl) (dM rfl rfl rfl (d_case (t := 31) rfl (fun hg4 => ?_) (fun hg4 => ?_))))
    ·try simp only [decide_eq_true_eq, decide_eq_false_iff_not] at hg4
     refine d_val rfl (wg rfl rfl rfl) rfl rfl (fun zw hx => py_field tu68 rfl ts45 rfl rfl) (d_val rfl (wg rfl rfl rfl) rfl rfl (fun zw hx => py_load tu45 rfl rfl (cell_atL (hx.heap (H3.box 1 rfl)) rfl)) (d_val rfl (wg rfl rfl rfl) rfl rfl (fun zw hx => py_loadS tu34 rfl ts34 rfl rfl (At.whole (hx.heap (H3.box 0 rfl)))) (d_call rfl (wg rfl rfl rfl) rfl rfl (pc_call Tryz.func202 rfl Tryz_nm202 rfl) (Tryz_size_byte (H9.sees 2 rfl)) (fun hS _ _ r _ => hS.trans r.1.no) (fun v7 w9 r7 => ?_))))
     obtain ⟨e9, rfl⟩ := r7
     have H10 := H9.to e9
     refine d_call rfl (wg rfl rfl rfl) rfl rfl (pc_call Tryz.func100 rfl Tryz_nm100 rfl) (Tryz_impl_Shape_all (by assumption)) (fun hS _ _ r _ => hS.trans r.1.no) (fun v8 w10 r8 => ?_)
     obtain ⟨e10, rfl⟩ := r8
     have H11 := H10.to e10
     refine d_val rfl (wg rfl rfl rfl) rfl rfl (fun zw hx => py_eql rfl rfl) (dV rfl rfl (fun zw hx => py_pickT rfl rfl) (d_end rfl (wn rfl) rfl rfl (py_assign rfl) (d_nil (W_seq (W_seq ?_)))))
     try have hgb := ins_iff.1 hg1
     refine W_reg (sM rfl rfl (sV rfl (py_notd rfl) (sM rfl rfl (s_case (t := 41) rfl (fun hg5 => ?_) (fun hg5 => ?_)))))
     ·try simp only [decide_eq_true_eq, decide_eq_false_iff_not] at hg5
      refine sKt rfl rfl rfl (sKt rfl rfl rfl (sKt rfl rfl rfl (sKt rfl rfl rfl (sKt rfl rfl rfl (sKt rfl rfl rfl (sKt rfl rfl rfl (sV rfl (py_pickT rfl rfl) (s_nil (W_ift rfl (W_sr (sA rfl rfl (s_nil (rT hQ Tryz.results201 rfl ?_)))))))))))))
      exact ⟨H11.ext, congrArg (Value.int .i64) (if_neg (by simp [shareOK, weightsOK, -List.getD_eq_getElem?_getD, hg1, hg2, hg3, hg4, hg5])).symm⟩
     ·try simp only [decide_eq_true_eq, decide_eq_false_iff_not] at hg5
      refine s_val (wg rfl rfl rfl) rfl rfl (py_field tu68 rfl ts45 rfl rfl) (s_val (wg rfl rfl rfl) rfl rfl (py_load tu45 rfl rfl (cell_atL (H11.box 1 rfl) rfl)) (s_val (wg rfl rfl rfl) rfl rfl (py_field tu68 rfl ts2 rfl rfl) (s_val (wg rfl rfl rfl) rfl rfl (py_load tu2 rfl rfl (cell_atL (H11.box 1 rfl) rfl)) ?_)))
      obtain ⟨eb1, eo1, ee1, ec1⟩ := elem_u8 (H11.seen 2 rfl) r.Group.toNat (by omega)
      refine s_val (wg rfl rfl rfl) rfl rfl (py_elz tu45 ts5 rfl rfl ee1 r.Group.toNat (by omega) (by omega)) (s_val (wg rfl rfl rfl) rfl rfl (py_load tu5 rfl rfl ec1) (s_val (wg rfl rfl rfl) rfl rfl (py_neq rfl rfl) (sV rfl (py_pickF rfl rfl) (s_nil (W_ifd rfl (fun c1 => ?_) (fun c1 => ?_))))))
      ·refine W_sr (sA rfl rfl (s_nil (rT hQ Tryz.results201 rfl ?_)))
       exact ⟨H11.ext, congrArg (Value.int .i64) (if_neg (by simp [shareOK, weight_grp c1])).symm⟩
      ·refine W_skip (W_seq (W_seq ?_))
       have hL : (r.Delta.length : Int) = s.Groups + s.Column := by omega
       have hR : ∀ i, i < r.Rows.length → 0 ≤ r.Rows.getD i 0 ∧ r.Rows.getD i 0 < r.Delta.length := fun i hi => by have := rises_get hg3 i hi; omega
       refine W_reg (sV rfl (py_field tu68 rfl ts25 rfl rfl) (sV rfl (py_load tu25 rfl rfl (cell_atL (H11.box 1 rfl) rfl)) (sV rfl (py_func rfl) (s_call (wn rfl) rfl rfl (pc_call Tryz.func280 rfl Tryz_nm280 rfl) (Tryz_ContainsFunc_int64 (H11.sees 0 rfl) (p := (fun k => decide (((r.Delta.getD (k).toNat 0).toNat : Int) = 0))) Tryz.func281 rfl Tryz_nm281 (fun w1 e1 i0 hi0 => Tryz_impl_shareFault_1 ((H11.to e1).box 1 rfl) (by assumption) ((H11.to e1).sees 0 rfl) ((H11.to e1).sees 1 rfl) ((H11.to e1).sees 2 rfl) (hR i0 hi0))) (fun v9 w11 r9 => ?_)))))
       obtain ⟨e11, rfl⟩ := r9
       have H12 := H11.to e11
       refine s_nil (W_if rfl (fun c2 => ?_) (fun c2 => ?_))
       ·refine W_sr (sA rfl rfl (s_nil (rT hQ Tryz.results201 rfl ?_)))
        exact ⟨H12.ext, congrArg (Value.int .i64) (if_neg (by simp [shareOK, weight_any (by assumption)])).symm⟩
       ·refine W_skip (W_sr (sA rfl rfl (s_nil (rT hQ Tryz.results201 rfl ?_))))
        exact ⟨H12.ext, congrArg (Value.int .i64) (if_pos (by rw [shareOK, weight_none hL (by omega) (by assumption)]; simp [hg1, hg2, hg3, hg4, hg5])).symm⟩
    ·try simp only [decide_eq_true_eq, decide_eq_false_iff_not] at hg4
     refine dKf rfl rfl rfl rfl (dKf rfl rfl rfl rfl (dKf rfl rfl rfl rfl (d_skipA rfl (wog (b := false) rfl rfl rfl) rfl rfl (d_skipA rfl (wog (b := false) rfl rfl rfl) rfl rfl (dKf rfl rfl rfl rfl (dV rfl rfl (fun zw hx => py_pickF rfl rfl) (d_end rfl (wn rfl) rfl rfl (py_assign rfl) (d_nil (W_seq (W_seq ?_))))))))))
     try have hgb := ins_iff.1 hg1
     refine W_reg (sM rfl rfl (sV rfl (py_not rfl) (sM rfl rfl (sKt rfl rfl rfl (sKt rfl rfl rfl (sKt rfl rfl rfl (sKt rfl rfl rfl (sKt rfl rfl rfl (sKt rfl rfl rfl (sKt rfl rfl rfl (sV rfl (py_pickT rfl rfl) (s_nil (W_ift rfl (W_sr (sA rfl rfl (s_nil (rT hQ Tryz.results201 rfl ?_)))))))))))))))))
     exact ⟨H9.ext, congrArg (Value.int .i64) (if_neg (by simp [shareOK, weightsOK, -List.getD_eq_getElem?_getD, hg1, hg2, hg3, hg4])).symm⟩
   ·try simp only [decide_eq_true_eq, decide_eq_false_iff_not] at hg3
    refine dKf rfl rfl rfl rfl (dKf rfl rfl rfl rfl (dKf rfl rfl rfl rfl (d_skipA rfl (wog (b := false) rfl rfl rfl) rfl rfl (d_skipA rfl (wog (b := false) rfl rfl rfl) rfl rfl (dKf rfl rfl rfl rfl (dV rfl rfl (fun zw hx => py_pickF rfl rfl) (dM rfl rfl rfl (dKf rfl rfl rfl rfl (dKf rfl rfl rfl rfl (dKf rfl rfl rfl rfl (d_skipA rfl (wog (b := false) rfl rfl rfl) rfl rfl (d_skipA rfl (wog (b := false) rfl rfl rfl) rfl rfl (dKf rfl rfl rfl rfl (dV rfl rfl (fun zw hx => py_pickF rfl rfl) (d_end rfl (wn rfl) rfl rfl (py_assign rfl) (d_nil (W_seq (W_seq ?_))))))))))))))))))
    try have hgb := ins_iff.1 hg1
    refine W_reg (sM rfl rfl (sV rfl (py_not rfl) (sM rfl rfl (sKt rfl rfl rfl (sKt rfl rfl rfl (sKt rfl rfl rfl (sKt rfl rfl rfl (sKt rfl rfl rfl (sKt rfl rfl rfl (sKt rfl rfl rfl (sV rfl (py_pickT rfl rfl) (s_nil (W_ift rfl (W_sr (sA rfl rfl (s_nil (rT hQ Tryz.results201 rfl ?_)))))))))))))))))
    exact ⟨H7.ext, congrArg (Value.int .i64) (if_neg (by simp [shareOK, weightsOK, -List.getD_eq_getElem?_getD, hg1, hg2, hg3])).symm⟩
  ·try simp only [decide_eq_true_eq, decide_eq_false_iff_not] at hg2
   refine dKf rfl rfl rfl rfl (dKf rfl rfl rfl rfl (dKf rfl rfl rfl rfl (d_skipA rfl (wog (b := false) rfl rfl rfl) rfl rfl (d_skipA rfl (wog (b := false) rfl rfl rfl) rfl rfl (dV rfl rfl (fun zw hx => py_pickF rfl rfl) (dM rfl rfl rfl (dKf rfl rfl rfl rfl (dKf rfl rfl rfl rfl (dKf rfl rfl rfl rfl (d_skipA rfl (wog (b := false) rfl rfl rfl) rfl rfl (d_skipA rfl (wog (b := false) rfl rfl rfl) rfl rfl (dKf rfl rfl rfl rfl (dV rfl rfl (fun zw hx => py_pickF rfl rfl) (dM rfl rfl rfl (dKf rfl rfl rfl rfl (dKf rfl rfl rfl rfl (dKf rfl rfl rfl rfl (d_skipA rfl (wog (b := false) rfl rfl rfl) rfl rfl (d_skipA rfl (wog (b := false) rfl rfl rfl) rfl rfl (dKf rfl rfl rfl rfl (dV rfl rfl (fun zw hx => py_pickF rfl rfl) (d_end rfl (wn rfl) rfl rfl (py_assign rfl) (d_nil (W_seq (W_seq ?_)))))))))))))))))))))))))
   try have hgb := ins_iff.1 hg1
   refine W_reg (sM rfl rfl (sV rfl (py_not rfl) (sM rfl rfl (sKt rfl rfl rfl (sKt rfl rfl rfl (sKt rfl rfl rfl (sKt rfl rfl rfl (sKt rfl rfl rfl (sKt rfl rfl rfl (sKt rfl rfl rfl (sV rfl (py_pickT rfl rfl) (s_nil (W_ift rfl (W_sr (sA rfl rfl (s_nil (rT hQ Tryz.results201 rfl ?_)))))))))))))))))
   exact ⟨H5.ext, congrArg (Value.int .i64) (if_neg (by simp [shareOK, weightsOK, -List.getD_eq_getElem?_getD, hg1, hg2])).symm⟩
 ·try simp only [decide_eq_true_eq, decide_eq_false_iff_not] at hg1
  refine dKf rfl rfl rfl rfl (dKf rfl rfl rfl rfl (dKf rfl rfl rfl rfl (d_skipA rfl (wog (b := false) rfl rfl rfl) rfl rfl (dV rfl rfl (fun zw hx => py_pickF rfl rfl) (dM rfl rfl rfl (dKf rfl rfl rfl rfl (dKf rfl rfl rfl rfl (dKf rfl rfl rfl rfl (d_skipA rfl (wog (b := false) rfl rfl rfl) rfl rfl (d_skipA rfl (wog (b := false) rfl rfl rfl) rfl rfl (dV rfl rfl (fun zw hx => py_pickF rfl rfl) (dM rfl rfl rfl (dKf rfl rfl rfl rfl (dKf rfl rfl rfl rfl (dKf rfl rfl rfl rfl (d_skipA rfl (wog (b := false) rfl rfl rfl) rfl rfl (d_skipA rfl (wog (b := false) rfl rfl rfl) rfl rfl (dKf rfl rfl rfl rfl (dV rfl rfl (fun zw hx => py_pickF rfl rfl) (dM rfl rfl rfl (dKf rfl rfl rfl rfl (dKf rfl rfl rfl rfl (dKf rfl rfl rfl rfl (d_skipA rfl (wog (b := false) rfl rfl rfl) rfl rfl (d_skipA rfl (wog (b := false) rfl rfl rfl) rfl rfl (dKf rfl rfl rfl rfl (dV rfl rfl (fun zw hx => py_pickF rfl rfl) (d_end rfl (wn rfl) rfl rfl (py_assign rfl) (d_nil (W_seq (W_seq ?_)))))))))))))))))))))))))))))))
  try have hgb := ins_iff.1 hg1
  refine W_reg (sM rfl rfl (sV rfl (py_not rfl) (sM rfl rfl (sKt rfl rfl rfl (sKt rfl rfl rfl (sKt rfl rfl rfl (sKt rfl rfl rfl (sKt rfl rfl rfl (sKt rfl rfl rfl (sKt rfl rfl rfl (sV rfl (py_pickT rfl rfl) (s_nil (W_ift rfl (W_sr (sA rfl rfl (s_nil (rT hQ Tryz.results201 rfl ?_)))))))))))))))))
  exact ⟨H4.ext, congrArg (Value.int .i64) (if_neg (by simp [shareOK, weightsOK, -List.getD_eq_getElem?_getD, hg1])).symm⟩
set_option maxHeartbeats 1000000 in
theorem Tryz_impl_Rec_bare {w : World} {r : Rec} {rA6 rA7 rA8 : Option Addr} {rC6 rC7 rC8 : Nat} (rK : r.Ok) (rS6 : Sees w [.slice rA6 r.Rows.length rC6] r.Rows) (rS7 : Sees w [.slice rA7 r.Data.length rC7] r.Data) (rS8 : Sees w [.slice rA8 r.Delta.length rC8] r.Delta) : Ret Tryz.prog 205 #[r.val rA6 rC6 rA7 rC7 rA8 rC8] w fun v w' => Ext No w w' ∧ (∃ A6 C6 A7 C7 A8 C8, v = (recOf r).val A6 C6 A7 C7 A8 C8 ∧ Sees w' [.slice A6 (recOf r).Rows.length C6] (recOf r).Rows ∧ Sees w' [.slice A7 (recOf r).Data.length C7] (recOf r).Data ∧ Sees w' [.slice A8 (recOf r).Delta.length C8] (recOf r).Delta) := by
 have rK2 := rK
 unfold Rec.Ok at rK2
 try unfold I64ok at rK2
 try unfold maxLen at rK2
 have rN2 : r.Name.size ≤ maxLen := by unfold maxLen; omega
 have rL6 := sL rS6
 obtain ⟨rF6, rO6⟩ := rS6
 have rL7 := sL rS7
 obtain ⟨rF7, rO7⟩ := rS7
 have rL8 := sL rS8
 obtain ⟨rF8, rO8⟩ := rS8
 refine ret_Q (vs := [r.val rA6 rC6 rA7 rC7 rA8 rC8]) Tryz.func205 rfl Tryz.ntmps205 rfl (fun Q hQ hN => ?_)
 have H0 := Sep.start (w := w) (F := [seen false [.slice rA6 r.Rows.length rC6] r.Rows rF6, seen false [.slice rA7 r.Data.length rC7] r.Data rF7, seen false [.slice rA8 r.Delta.length rC8] r.Delta rF8]) (all_cons rO6 (all_cons rO7 (all_cons rO8 (by simp))))
 refine W_sr (s_box (wn rfl) rfl rfl H0 (fun b1 w1 e1 g1 H1 => ?_))
 refine s_var (wn rfl) rfl Tryz.zeroValue68 H1 (fun b2 w2 e2 g2 H2 => ?_)
 refine s_nil (W_sr (sV rfl (py_field tu68 rfl ts2 rfl rfl) (sV rfl (py_load tu2 rfl rfl (cell_atL (H2.box 0 rfl) rfl)) (sV rfl (py_field tu68 rfl ts2 rfl rfl) (sV rfl (py_load tu2 rfl rfl (cell_atL (H2.box 0 rfl) rfl)) (sV rfl (py_buildS Tryz_pl68 rfl rfl) (s_var (wn rfl) rfl Tryz.zeroValue68 H2 (fun b3 w3 e3 g3 H3 => ?_))))))))
 refine s_stoS (wn rfl) ts68 rfl rfl rfl rfl H3 2 rfl rfl (fun w4 e4 H4 => ?_)
 dsimp only [lNA, lCA, lSZ, lSS, layL] at H4
 refine s_nil (W_seq (W_sr (sV rfl (py_field tu68 rfl ts2 rfl rfl) (sV rfl (py_load tu2 rfl rfl (cell_atL (H4.box 0 rfl) rfl)) (s_nil (W_block (W_sr (sV rfl (py_eql rfl rfl) (sA rfl rfl (s_nil (W_ifd rfl (fun c1 => ?_) (fun c1 => ?_))))))))))))
 ·refine W_drw (S := Ext (· ∈ [b3]) _) [(0, true), (1, true), (2, true), (3, true), (4, true), (5, true), (6, true), (7, true), (8, true), (9, false), (10, true), (11, false), (12, true), (13, false), (14, true), (15, false)] (by kernel_rfl) (by kernel_rfl) (by kernel_rfl) rfl (fun _ => Ext.refl.drawn _) (fun q1 => ?_)
  have H5 := H4.drawn q1
  refine dV rfl rfl (fun zw hx => py_field tu68 rfl ts9 rfl rfl) (dV rfl rfl (fun zw hx => py_load tu9 rfl rfl (cell_atL (hx.heapM (H5.boff 0 rfl 2 rfl rfl) (H5.box 0 rfl)) rfl)) (dV rfl rfl (fun zw hx => py_field tu68 rfl ts2 rfl rfl) (dV rfl rfl (fun zw hx => py_load tu2 rfl rfl (cell_atL (hx.heapM (H5.boff 0 rfl 2 rfl rfl) (H5.box 0 rfl)) rfl)) (dV rfl rfl (fun zw hx => py_field tu68 rfl ts45 rfl rfl) (dV rfl rfl (fun zw hx => py_load tu45 rfl rfl (cell_atL (hx.heapM (H5.boff 0 rfl 2 rfl rfl) (H5.box 0 rfl)) rfl)) (dV rfl rfl (fun zw hx => py_field tu68 rfl ts25 rfl rfl) (dV rfl rfl (fun zw hx => py_load tu25 rfl rfl (cell_atL (hx.heapM (H5.boff 0 rfl 2 rfl rfl) (H5.box 0 rfl)) rfl)) (dV rfl rfl (fun zw hx => py_field tu68 rfl ts9 rfl rfl) (d_sto rfl (wn rfl) ts9 rfl rfl rfl H5 2 rfl rfl (fun _ h e _ => h.trans (e.mono fun _ _ q => by simp [q])) (fun w5 e5 H6 => ?_))))))))))
  dsimp only [lNA, lCA, lSZ, lSS, layL] at H6
  refine dV rfl rfl (fun zw hx => py_field tu68 rfl ts2 rfl rfl) (d_sto rfl (wn rfl) ts2 rfl rfl rfl H6 2 rfl rfl (fun _ h e _ => h.trans (e.mono fun _ _ q => by simp [q])) (fun w6 e6 H7 => ?_))
  dsimp only [lNA, lCA, lSZ, lSS, layL] at H7
  refine dV rfl rfl (fun zw hx => py_field tu68 rfl ts45 rfl rfl) (d_sto rfl (wn rfl) ts45 rfl rfl rfl H7 2 rfl rfl (fun _ h e _ => h.trans (e.mono fun _ _ q => by simp [q])) (fun w7 e7 H8 => ?_))
  dsimp only [lNA, lCA, lSZ, lSS, layL] at H8
  refine dV rfl rfl (fun zw hx => py_field tu68 rfl ts25 rfl rfl) (d_sto rfl (wn rfl) ts25 rfl rfl rfl H8 2 rfl rfl (fun _ h e _ => h.trans (e.mono fun _ _ q => by simp [q])) (fun w8 e8 H9 => ?_))
  dsimp only [lNA, lCA, lSZ, lSS, layL] at H9
  refine d_nil (W_sr (sV rfl (py_loadS tu68 rfl ts68 rfl rfl (At.whole (H9.box 2 rfl))) (s_stoS (wn rfl) ts68 rfl rfl rfl rfl H9 1 rfl rfl (fun w9 e9 H10 => ?_))))
  dsimp only [lNA, lCA, lSZ, lSS, layL] at H10
  refine s_nil (W_ret (hQ _ _ (finC Tryz.results205 rfl (run_loadVarS tu68 rfl ts68 rfl (At.whole (H10.box 1 rfl))) ?_)))
  have eR : recOf r = _ := recOf_0 c1
  refine ⟨H10.ext, ?_⟩
  rw [eR]
  exact ⟨_, _, _, _, _, _, rfl, (H10.sees 0 rfl), (H10.sees 1 rfl), ⟨[], .inr (.inl ⟨rfl, rfl, rfl⟩)⟩⟩
 ·refine W_sr (sV rfl (py_eql rfl rfl) (sA rfl rfl (s_nil (W_ifd rfl (fun c2 => ?_) (fun c2 => ?_)))))
  ·refine W_drw (S := Ext (· ∈ [b3]) _) [(0, true), (1, true), (2, true), (3, true), (4, true), (5, true), (6, true), (7, true), (8, true), (9, false), (10, true), (11, false), (12, true), (13, false), (14, true), (15, false)] (by kernel_rfl) (by kernel_rfl) (by kernel_rfl) rfl (fun _ => Ext.refl.drawn _) (fun q2 => ?_)
   have H11 := H4.drawn q2
   refine dV rfl rfl (fun zw hx => py_field tu68 rfl ts2 rfl rfl) (dV rfl rfl (fun zw hx => py_load tu2 rfl rfl (cell_atL (hx.heapM (H11.boff 0 rfl 2 rfl rfl) (H11.box 0 rfl)) rfl)) (dV rfl rfl (fun zw hx => py_field tu68 rfl ts2 rfl rfl) (dV rfl rfl (fun zw hx => py_load tu2 rfl rfl (cell_atL (hx.heapM (H11.boff 0 rfl 2 rfl rfl) (H11.box 0 rfl)) rfl)) (dV rfl rfl (fun zw hx => py_field tu68 rfl ts45 rfl rfl) (dV rfl rfl (fun zw hx => py_load tu45 rfl rfl (cell_atL (hx.heapM (H11.boff 0 rfl 2 rfl rfl) (H11.box 0 rfl)) rfl)) (dV rfl rfl (fun zw hx => py_field tu68 rfl ts45 rfl rfl) (dV rfl rfl (fun zw hx => py_load tu45 rfl rfl (cell_atL (hx.heapM (H11.boff 0 rfl 2 rfl rfl) (H11.box 0 rfl)) rfl)) (dV rfl rfl (fun zw hx => py_field tu68 rfl ts2 rfl rfl) (d_sto rfl (wn rfl) ts2 rfl rfl rfl H11 2 rfl rfl (fun _ h e _ => h.trans (e.mono fun _ _ q => by simp [q])) (fun w10 e10 H12 => ?_))))))))))
   dsimp only [lNA, lCA, lSZ, lSS, layL] at H12
   refine dV rfl rfl (fun zw hx => py_field tu68 rfl ts2 rfl rfl) (d_sto rfl (wn rfl) ts2 rfl rfl rfl H12 2 rfl rfl (fun _ h e _ => h.trans (e.mono fun _ _ q => by simp [q])) (fun w11 e11 H13 => ?_))
   dsimp only [lNA, lCA, lSZ, lSS, layL] at H13
   refine dV rfl rfl (fun zw hx => py_field tu68 rfl ts45 rfl rfl) (d_sto rfl (wn rfl) ts45 rfl rfl rfl H13 2 rfl rfl (fun _ h e _ => h.trans (e.mono fun _ _ q => by simp [q])) (fun w12 e12 H14 => ?_))
   dsimp only [lNA, lCA, lSZ, lSS, layL] at H14
   refine dV rfl rfl (fun zw hx => py_field tu68 rfl ts45 rfl rfl) (d_sto rfl (wn rfl) ts45 rfl rfl rfl H14 2 rfl rfl (fun _ h e _ => h.trans (e.mono fun _ _ q => by simp [q])) (fun w13 e13 H15 => ?_))
   dsimp only [lNA, lCA, lSZ, lSS, layL] at H15
   refine d_nil (W_sr (sV rfl (py_loadS tu68 rfl ts68 rfl rfl (At.whole (H15.box 2 rfl))) (s_stoS (wn rfl) ts68 rfl rfl rfl rfl H15 1 rfl rfl (fun w14 e14 H16 => ?_))))
   dsimp only [lNA, lCA, lSZ, lSS, layL] at H16
   refine s_nil (W_ret (hQ _ _ (finC Tryz.results205 rfl (run_loadVarS tu68 rfl ts68 rfl (At.whole (H16.box 1 rfl))) ?_)))
   have eR : recOf r = _ := recOf_1 c1 c2
   refine ⟨H16.ext, ?_⟩
   rw [eR]
   exact ⟨_, _, _, _, _, _, rfl, ⟨[], .inr (.inl ⟨rfl, rfl, rfl⟩)⟩, (H16.sees 1 rfl), (H16.sees 2 rfl)⟩
  ·refine W_sr (sV rfl (py_eql rfl rfl) (sA rfl rfl (s_nil (W_ifd rfl (fun c3 => ?_) (fun c3 => ?_)))))
   ·refine W_reg (sV rfl (py_field tu68 rfl ts2 rfl rfl) (sV rfl (py_load tu2 rfl rfl (cell_atL (H4.box 0 rfl) rfl)) (sV rfl (py_field tu68 rfl ts2 rfl rfl) (s_sto (wn rfl) ts2 rfl rfl rfl H4 2 rfl rfl (fun w15 e15 H17 => ?_)))))
    dsimp only [lNA, lCA, lSZ, lSS, layL] at H17
    refine s_nil (W_sr (sV rfl (py_loadS tu68 rfl ts68 rfl rfl (At.whole (H17.box 2 rfl))) (s_stoS (wn rfl) ts68 rfl rfl rfl rfl H17 1 rfl rfl (fun w16 e16 H18 => ?_))))
    dsimp only [lNA, lCA, lSZ, lSS, layL] at H18
    refine s_nil (W_ret (hQ _ _ (finC Tryz.results205 rfl (run_loadVarS tu68 rfl ts68 rfl (At.whole (H18.box 1 rfl))) ?_)))
    have eR : recOf r = _ := recOf_2 c1 c2 c3
    refine ⟨H18.ext, ?_⟩
    rw [eR]
    exact ⟨_, _, _, _, _, _, rfl, ⟨[], .inr (.inl ⟨rfl, rfl, rfl⟩)⟩, ⟨[], .inr (.inl ⟨rfl, rfl, rfl⟩)⟩, ⟨[], .inr (.inl ⟨rfl, rfl, rfl⟩)⟩⟩
   ·refine W_sr (sV rfl (py_eql rfl rfl) (sA rfl rfl (s_nil (W_ifd rfl (fun c4 => ?_) (fun c4 => ?_)))))
    ·refine W_drw (S := Ext (· ∈ [b3]) _) [(0, true), (1, true), (2, true), (3, true), (4, true), (5, true), (6, true), (7, true), (8, true), (9, true), (10, true), (11, false), (12, true), (13, false), (14, true), (15, false), (16, true), (17, false), (18, true), (19, false)] (by kernel_rfl) (by kernel_rfl) (by kernel_rfl) rfl (fun _ => Ext.refl.drawn _) (fun q3 => ?_)
     have H19 := H4.drawn q3
     refine dV rfl rfl (fun zw hx => py_field tu68 rfl ts2 rfl rfl) (dV rfl rfl (fun zw hx => py_load tu2 rfl rfl (cell_atL (hx.heapM (H19.boff 0 rfl 2 rfl rfl) (H19.box 0 rfl)) rfl)) (dV rfl rfl (fun zw hx => py_field tu68 rfl ts2 rfl rfl) (dV rfl rfl (fun zw hx => py_load tu2 rfl rfl (cell_atL (hx.heapM (H19.boff 0 rfl 2 rfl rfl) (H19.box 0 rfl)) rfl)) (dV rfl rfl (fun zw hx => py_field tu68 rfl ts25 rfl rfl) (dV rfl rfl (fun zw hx => py_load tu25 rfl rfl (cell_atL (hx.heapM (H19.boff 0 rfl 2 rfl rfl) (H19.box 0 rfl)) rfl)) (dV rfl rfl (fun zw hx => py_field tu68 rfl ts45 rfl rfl) (dV rfl rfl (fun zw hx => py_load tu45 rfl rfl (cell_atL (hx.heapM (H19.boff 0 rfl 2 rfl rfl) (H19.box 0 rfl)) rfl)) (dV rfl rfl (fun zw hx => py_field tu68 rfl ts45 rfl rfl) (dV rfl rfl (fun zw hx => py_load tu45 rfl rfl (cell_atL (hx.heapM (H19.boff 0 rfl 2 rfl rfl) (H19.box 0 rfl)) rfl)) (dV rfl rfl (fun zw hx => py_field tu68 rfl ts2 rfl rfl) (d_sto rfl (wn rfl) ts2 rfl rfl rfl H19 2 rfl rfl (fun _ h e _ => h.trans (e.mono fun _ _ q => by simp [q])) (fun w17 e17 H20 => ?_))))))))))))
     dsimp only [lNA, lCA, lSZ, lSS, layL] at H20
     refine dV rfl rfl (fun zw hx => py_field tu68 rfl ts2 rfl rfl) (d_sto rfl (wn rfl) ts2 rfl rfl rfl H20 2 rfl rfl (fun _ h e _ => h.trans (e.mono fun _ _ q => by simp [q])) (fun w18 e18 H21 => ?_))
     dsimp only [lNA, lCA, lSZ, lSS, layL] at H21
     refine dV rfl rfl (fun zw hx => py_field tu68 rfl ts25 rfl rfl) (d_sto rfl (wn rfl) ts25 rfl rfl rfl H21 2 rfl rfl (fun _ h e _ => h.trans (e.mono fun _ _ q => by simp [q])) (fun w19 e19 H22 => ?_))
     dsimp only [lNA, lCA, lSZ, lSS, layL] at H22
     refine dV rfl rfl (fun zw hx => py_field tu68 rfl ts45 rfl rfl) (d_sto rfl (wn rfl) ts45 rfl rfl rfl H22 2 rfl rfl (fun _ h e _ => h.trans (e.mono fun _ _ q => by simp [q])) (fun w20 e20 H23 => ?_))
     dsimp only [lNA, lCA, lSZ, lSS, layL] at H23
     refine dV rfl rfl (fun zw hx => py_field tu68 rfl ts45 rfl rfl) (d_sto rfl (wn rfl) ts45 rfl rfl rfl H23 2 rfl rfl (fun _ h e _ => h.trans (e.mono fun _ _ q => by simp [q])) (fun w21 e21 H24 => ?_))
     dsimp only [lNA, lCA, lSZ, lSS, layL] at H24
     refine d_nil (W_sr (sV rfl (py_loadS tu68 rfl ts68 rfl rfl (At.whole (H24.box 2 rfl))) (s_stoS (wn rfl) ts68 rfl rfl rfl rfl H24 1 rfl rfl (fun w22 e22 H25 => ?_))))
     dsimp only [lNA, lCA, lSZ, lSS, layL] at H25
     refine s_nil (W_ret (hQ _ _ (finC Tryz.results205 rfl (run_loadVarS tu68 rfl ts68 rfl (At.whole (H25.box 1 rfl))) ?_)))
     have eR : recOf r = _ := recOf_3 c1 c2 c3 c4
     refine ⟨H25.ext, ?_⟩
     rw [eR]
     exact ⟨_, _, _, _, _, _, rfl, (H25.sees 0 rfl), (H25.sees 1 rfl), (H25.sees 2 rfl)⟩
    ·refine W_skip (W_sr (sV rfl (py_loadS tu68 rfl ts68 rfl rfl (At.whole (H4.box 2 rfl))) (s_stoS (wn rfl) ts68 rfl rfl rfl rfl H4 1 rfl rfl (fun w23 e23 H26 => ?_))))
     dsimp only [lNA, lCA, lSZ, lSS, layL] at H26
     refine s_nil (W_ret (hQ _ _ (finC Tryz.results205 rfl (run_loadVarS tu68 rfl ts68 rfl (At.whole (H26.box 1 rfl))) ?_)))
     have eR : recOf r = _ := recOf_4 c1 c2 c3 c4
     refine ⟨H26.ext, ?_⟩
     rw [eR]
     exact ⟨_, _, _, _, _, _, rfl, ⟨[], .inr (.inl ⟨rfl, rfl, rfl⟩)⟩, ⟨[], .inr (.inl ⟨rfl, rfl, rfl⟩)⟩, ⟨[], .inr (.inl ⟨rfl, rfl, rfl⟩)⟩⟩
theorem Tryz_impl_sameRec {w : World} {a b : Rec} {aA6 aA7 aA8 bA6 bA7 bA8 : Option Addr} {aC6 aC7 aC8 bC6 bC7 bC8 : Nat} (aK : a.Ok) (aS6 : Sees w [.slice aA6 a.Rows.length aC6] a.Rows) (aS7 : Sees w [.slice aA7 a.Data.length aC7] a.Data) (aS8 : Sees w [.slice aA8 a.Delta.length aC8] a.Delta) (bK : b.Ok) (bS6 : Sees w [.slice bA6 b.Rows.length bC6] b.Rows) (bS7 : Sees w [.slice bA7 b.Data.length bC7] b.Data) (bS8 : Sees w [.slice bA8 b.Delta.length bC8] b.Delta) : Ret Tryz.prog 204 #[a.val aA6 aC6 aA7 aC7 aA8 aC8, b.val bA6 bC6 bA7 bC7 bA8 bC8] w fun v w' => Ext No w w' ∧ (v = .bool (decide (a = b))) := by
 have aK2 := aK
 unfold Rec.Ok at aK2
 try unfold I64ok at aK2
 try unfold maxLen at aK2
 have aN2 : a.Name.size ≤ maxLen := by unfold maxLen; omega
 have aL6 := sL aS6
 obtain ⟨aF6, aO6⟩ := aS6
 have aL7 := sL aS7
 obtain ⟨aF7, aO7⟩ := aS7
 have aL8 := sL aS8
 obtain ⟨aF8, aO8⟩ := aS8
 have bK2 := bK
 unfold Rec.Ok at bK2
 try unfold I64ok at bK2
 try unfold maxLen at bK2
 have bN2 : b.Name.size ≤ maxLen := by unfold maxLen; omega
 have bL6 := sL bS6
 obtain ⟨bF6, bO6⟩ := bS6
 have bL7 := sL bS7
 obtain ⟨bF7, bO7⟩ := bS7
 have bL8 := sL bS8
 obtain ⟨bF8, bO8⟩ := bS8
 refine ret_Q (vs := [a.val aA6 aC6 aA7 aC7 aA8 aC8, b.val bA6 bC6 bA7 bC7 bA8 bC8]) Tryz.func204 rfl Tryz.ntmps204 rfl (fun Q hQ hN => ?_)
 have H0 := Sep.start (w := w) (F := [seen false [.slice aA6 a.Rows.length aC6] a.Rows aF6, seen false [.slice aA7 a.Data.length aC7] a.Data aF7, seen false [.slice aA8 a.Delta.length aC8] a.Delta aF8, seen false [.slice bA6 b.Rows.length bC6] b.Rows bF6, seen false [.slice bA7 b.Data.length bC7] b.Data bF7, seen false [.slice bA8 b.Delta.length bC8] b.Delta bF8]) (all_cons aO6 (all_cons aO7 (all_cons aO8 (all_cons bO6 (all_cons bO7 (all_cons bO8 (by simp)))))))
 refine W_sr (s_box (wn rfl) rfl rfl H0 (fun b1 w1 e1 g1 H1 => ?_))
 refine s_box (wn rfl) rfl rfl H1 (fun b2 w2 e2 g2 H2 => ?_)
 refine sA rfl rfl (s_nil (W_sr (sV rfl (py_field tu68 rfl ts2 rfl rfl) (sV rfl (py_load tu2 rfl rfl (cell_atL (H2.box 0 rfl) rfl)) (sV rfl (py_field tu68 rfl ts2 rfl rfl) (sV rfl (py_load tu2 rfl rfl (cell_atL (H2.box 1 rfl) rfl)) (sV rfl (py_eql rfl rfl) (sM rfl rfl (s_grp 5 (j := 5) (want := true) (t := 15) rfl rfl rfl rfl (fun hg1 kk1 => s_val (wgE rfl rfl rfl hg1) rfl rfl (py_field tu68 rfl ts2 rfl rfl) (s_val (wgE rfl rfl rfl hg1) rfl rfl (py_load tu2 rfl rfl (cell_atL (H2.box 0 rfl) rfl)) (s_val (wgE rfl rfl rfl hg1) rfl rfl (py_field tu68 rfl ts2 rfl rfl) (s_val (wgE rfl rfl rfl hg1) rfl rfl (py_load tu2 rfl rfl (cell_atL (H2.box 1 rfl) rfl)) (s_val (wgE rfl rfl rfl hg1) rfl rfl (py_eql rfl rfl) (kk1 _ _ (kx rfl (kx rfl (kx rfl (kx rfl (kx rfl k0))))) rfl Ext.refl)))))) (fun w3 e3 => ?_))))))))))
 have H3 := H2.to e3
 refine sV rfl (py_band rfl rfl) (sM rfl rfl (s_grp 5 (j := 12) (want := true) (t := 22) rfl rfl rfl rfl (fun hg2 kk2 => s_val (wgE rfl rfl rfl hg2) rfl rfl (py_field tu68 rfl ts9 rfl rfl) (s_val (wgE rfl rfl rfl hg2) rfl rfl (py_load tu9 rfl rfl (cell_atL (H3.box 0 rfl) rfl)) (s_val (wgE rfl rfl rfl hg2) rfl rfl (py_field tu68 rfl ts9 rfl rfl) (s_val (wgE rfl rfl rfl hg2) rfl rfl (py_load tu9 rfl rfl (cell_atL (H3.box 1 rfl) rfl)) (s_val (wgE rfl rfl rfl hg2) rfl rfl (py_seql rfl rfl) (kk2 _ _ (kx rfl (kx rfl (kx rfl (kx rfl (kx rfl k0))))) rfl Ext.refl)))))) (fun w4 e4 => ?_)))
 have H4 := H3.to e4
 refine sV rfl (py_band rfl rfl) (sM rfl rfl (s_grp 5 (j := 19) (want := true) (t := 29) rfl rfl rfl rfl (fun hg3 kk3 => s_val (wgE rfl rfl rfl hg3) rfl rfl (py_field tu68 rfl ts2 rfl rfl) (s_val (wgE rfl rfl rfl hg3) rfl rfl (py_load tu2 rfl rfl (cell_atL (H4.box 0 rfl) rfl)) (s_val (wgE rfl rfl rfl hg3) rfl rfl (py_field tu68 rfl ts2 rfl rfl) (s_val (wgE rfl rfl rfl hg3) rfl rfl (py_load tu2 rfl rfl (cell_atL (H4.box 1 rfl) rfl)) (s_val (wgE rfl rfl rfl hg3) rfl rfl (py_eql rfl rfl) (kk3 _ _ (kx rfl (kx rfl (kx rfl (kx rfl (kx rfl k0))))) rfl Ext.refl)))))) (fun w5 e5 => ?_)))
 have H5 := H4.to e5
 refine sV rfl (py_band rfl rfl) (sM rfl rfl (s_grp 5 (j := 26) (want := true) (t := 36) rfl rfl rfl rfl (fun hg4 kk4 => s_val (wgE rfl rfl rfl hg4) rfl rfl (py_field tu68 rfl ts2 rfl rfl) (s_val (wgE rfl rfl rfl hg4) rfl rfl (py_load tu2 rfl rfl (cell_atL (H5.box 0 rfl) rfl)) (s_val (wgE rfl rfl rfl hg4) rfl rfl (py_field tu68 rfl ts2 rfl rfl) (s_val (wgE rfl rfl rfl hg4) rfl rfl (py_load tu2 rfl rfl (cell_atL (H5.box 1 rfl) rfl)) (s_val (wgE rfl rfl rfl hg4) rfl rfl (py_eql rfl rfl) (kk4 _ _ (kx rfl (kx rfl (kx rfl (kx rfl (kx rfl k0))))) rfl Ext.refl)))))) (fun w6 e6 => ?_)))
 have H6 := H5.to e6
 refine sV rfl (py_band rfl rfl) (sM rfl rfl (s_grp 5 (j := 33) (want := true) (t := 43) rfl rfl rfl rfl (fun hg5 kk5 => s_val (wgE rfl rfl rfl hg5) rfl rfl (py_field tu68 rfl ts2 rfl rfl) (s_val (wgE rfl rfl rfl hg5) rfl rfl (py_load tu2 rfl rfl (cell_atL (H6.box 0 rfl) rfl)) (s_val (wgE rfl rfl rfl hg5) rfl rfl (py_field tu68 rfl ts2 rfl rfl) (s_val (wgE rfl rfl rfl hg5) rfl rfl (py_load tu2 rfl rfl (cell_atL (H6.box 1 rfl) rfl)) (s_val (wgE rfl rfl rfl hg5) rfl rfl (py_eql rfl rfl) (kk5 _ _ (kx rfl (kx rfl (kx rfl (kx rfl (kx rfl k0))))) rfl Ext.refl)))))) (fun w7 e7 => ?_)))
 have H7 := H6.to e7
 refine sV rfl (py_band rfl rfl) (sM rfl rfl (s_grp 5 (j := 40) (want := true) (t := 50) rfl rfl rfl rfl (fun hg6 kk6 => s_val (wgE rfl rfl rfl hg6) rfl rfl (py_field tu68 rfl ts25 rfl rfl) (s_val (wgE rfl rfl rfl hg6) rfl rfl (py_load tu25 rfl rfl (cell_atL (H7.box 0 rfl) rfl)) (s_val (wgE rfl rfl rfl hg6) rfl rfl (py_field tu68 rfl ts25 rfl rfl) (s_val (wgE rfl rfl rfl hg6) rfl rfl (py_load tu25 rfl rfl (cell_atL (H7.box 1 rfl) rfl)) (s_callv (wgE rfl rfl rfl hg6) rfl rfl (pc_call Tryz.func282 rfl Tryz_nm282 rfl) (Tryz_slices_Equal_int64_int64 (H7.sees 0 rfl) (H7.sees 3 rfl)) (fun w9 e9 => kk6 _ _ (kx rfl (kx rfl (kx rfl (kx rfl (kx rfl k0))))) rfl (Ext.refl.trans e9))))))) (fun w8 e8 => ?_)))
 have H8 := H7.to e8
 refine sV rfl (py_band rfl rfl) (sM rfl rfl (s_grp 5 (j := 47) (want := true) (t := 57) rfl rfl rfl rfl (fun hg7 kk7 => s_val (wgE rfl rfl rfl hg7) rfl rfl (py_field tu68 rfl ts45 rfl rfl) (s_val (wgE rfl rfl rfl hg7) rfl rfl (py_load tu45 rfl rfl (cell_atL (H8.box 0 rfl) rfl)) (s_val (wgE rfl rfl rfl hg7) rfl rfl (py_field tu68 rfl ts45 rfl rfl) (s_val (wgE rfl rfl rfl hg7) rfl rfl (py_load tu45 rfl rfl (cell_atL (H8.box 1 rfl) rfl)) (s_callv (wgE rfl rfl rfl hg7) rfl rfl (pc_call Tryz.func181 rfl Tryz_nm181 rfl) (Tryz_bytesEq (H8.sees 1 rfl) (H8.sees 4 rfl)) (fun w11 e11 => kk7 _ _ (kx rfl (kx rfl (kx rfl (kx rfl (kx rfl k0))))) rfl (Ext.refl.trans e11))))))) (fun w10 e10 => ?_)))
 have H9 := H8.to e10
 refine sV rfl (py_band rfl rfl) (sM rfl rfl (s_grp 5 (j := 54) (want := true) (t := 64) rfl rfl rfl rfl (fun hg8 kk8 => s_val (wgE rfl rfl rfl hg8) rfl rfl (py_field tu68 rfl ts45 rfl rfl) (s_val (wgE rfl rfl rfl hg8) rfl rfl (py_load tu45 rfl rfl (cell_atL (H9.box 0 rfl) rfl)) (s_val (wgE rfl rfl rfl hg8) rfl rfl (py_field tu68 rfl ts45 rfl rfl) (s_val (wgE rfl rfl rfl hg8) rfl rfl (py_load tu45 rfl rfl (cell_atL (H9.box 1 rfl) rfl)) (s_callv (wgE rfl rfl rfl hg8) rfl rfl (pc_call Tryz.func181 rfl Tryz_nm181 rfl) (Tryz_bytesEq (H9.sees 2 rfl) (H9.sees 5 rfl)) (fun w13 e13 => kk8 _ _ (kx rfl (kx rfl (kx rfl (kx rfl (kx rfl k0))))) rfl (Ext.refl.trans e13))))))) (fun w12 e12 => ?_)))
 have H10 := H9.to e12
 refine sV rfl (py_band rfl rfl) (sA rfl rfl (s_nil (rT hQ Tryz.results204 rfl ?_)))
 exact ⟨H10.ext, congrArg Value.bool (by rw [← same_rec]; simp only [Bool.and_assoc])⟩
set_option maxHeartbeats 1000000 in
theorem Tryz_impl_recFault {w : World} {s : Shape} {r : Rec} {rA6 rA7 rA8 : Option Addr} {rC6 rC7 rC8 : Nat} (rK : r.Ok) (rS6 : Sees w [.slice rA6 r.Rows.length rC6] r.Rows) (rS7 : Sees w [.slice rA7 r.Data.length rC7] r.Data) (rS8 : Sees w [.slice rA8 r.Delta.length rC8] r.Delta) (hs : s.ok = true) : Ret Tryz.prog 119 #[s.v, r.val rA6 rC6 rA7 rC7 rA8 rC8] w fun v w' => Ext No w w' ∧ (v = .int .i64 (recF s r)) := by
 have rK2 := rK
 unfold Rec.Ok at rK2
 try unfold I64ok at rK2
 try unfold maxLen at rK2
 have rN2 : r.Name.size ≤ maxLen := by unfold maxLen; omega
 have rL6 := sL rS6
 obtain ⟨rF6, rO6⟩ := rS6
 have rL7 := sL rS7
 obtain ⟨rF7, rO7⟩ := rS7
 have rL8 := sL rS8
 obtain ⟨rF8, rO8⟩ := rS8
 have sbd := shape_bd hs
 refine ret_Q (vs := [s.v, r.val rA6 rC6 rA7 rC7 rA8 rC8]) Tryz.func119 rfl Tryz.ntmps119 rfl (fun Q hQ hN => ?_)
 have H0 := Sep.start (w := w) (F := [seen false [.slice rA6 r.Rows.length rC6] r.Rows rF6, seen false [.slice rA7 r.Data.length rC7] r.Data rF7, seen false [.slice rA8 r.Delta.length rC8] r.Delta rF8]) (all_cons rO6 (all_cons rO7 (all_cons rO8 (by simp))))
 refine W_sr (s_box (wn rfl) rfl rfl H0 (fun b1 w1 e1 g1 H1 => ?_))
 refine s_box (wn rfl) rfl rfl H1 (fun b2 w2 e2 g2 H2 => ?_)
 refine sA rfl rfl (s_nil (W_sr (sA rfl rfl (s_nil (W_cutS (γ := Unit) H2 [(3, _)] ⟨rfl, trivial⟩ (fun _ => [(5, .int .i64 (kindF s r))]) (fun _ => ins r.Kind 1 4 = true ∧ ins r.Seq 1 1000000000 = true) ?_ (fun _ w3 H3 ⟨hK, hS⟩ => ?_))))))
 ·refine W_block (W_sr (sV rfl (py_field tu68 rfl ts2 rfl rfl) (sV rfl (py_load tu2 rfl rfl (cell_atL (H2.box 1 rfl) rfl)) (s_call (wn rfl) rfl rfl (pc_call Tryz.func147 rfl Tryz_nm147 rfl) Tryz_impl_inside (fun v1 w4 r1 => ?_)))))
  obtain ⟨e3, rfl⟩ := r1
  have H4 := H2.to e3
  refine sV rfl (py_not rfl) (sA rfl rfl (s_nil (W_if rfl (fun c1 => ?_) (fun c1 => ?_))))
  ·refine W_sr (sA rfl rfl (s_nil (rT hQ Tryz.results119 rfl ?_)))
   exact ⟨H4.ext, congrArg (Value.int .i64) (recF_kind (not_true c1)).symm⟩
  ·refine W_sr (sV rfl (py_field tu68 rfl ts2 rfl rfl) (sV rfl (py_load tu2 rfl rfl (cell_atL (H4.box 1 rfl) rfl)) (s_call (wn rfl) rfl rfl (pc_call Tryz.func147 rfl Tryz_nm147 rfl) Tryz_impl_inside (fun v2 w5 r2 => ?_))))
   obtain ⟨e4, rfl⟩ := r2
   have H5 := H4.to e4
   refine sV rfl (py_not rfl) (sA rfl rfl (s_nil (W_if rfl (fun c2 => ?_) (fun c2 => ?_))))
   ·refine W_sr (sA rfl rfl (s_nil (rT hQ Tryz.results119 rfl ?_)))
    exact ⟨H5.ext, congrArg (Value.int .i64) (recF_seq (not_false c1) (not_true c2)).symm⟩
   ·refine W_sr (sV rfl (py_field tu68 rfl ts2 rfl rfl) (sV rfl (py_load tu2 rfl rfl (cell_atL (H5.box 1 rfl) rfl)) (sV rfl (py_eql rfl rfl) (sA rfl rfl (s_nil (W_ifd rfl (fun c3 => ?_) (fun c3 => ?_)))))))
    ·refine W_reg (sV rfl (py_loadS tu34 rfl ts34 rfl rfl (At.whole (H5.box 0 rfl))) (sV rfl (py_loadS tu68 rfl ts68 rfl rfl (At.whole (H5.box 1 rfl))) (s_call (wn rfl) rfl rfl (pc_call Tryz.func200 rfl Tryz_nm200 rfl) (Tryz_impl_itemFault (by assumption) (H5.sees 0 rfl) (H5.sees 1 rfl) (H5.sees 2 rfl) (by assumption)) (fun v3 w6 r3 => ?_))))
     obtain ⟨e5, rfl⟩ := r3
     have H6 := H5.to e5
     refine sA rfl rfl (s_nil ?_)
     have hk1 := ins_iff.1 (not_false c1)
     exact ⟨(), ⟨eqI (kindF_item c3).symm, rfl, trivial⟩, H6, not_false c1, not_false c2⟩
    ·refine W_sr (sV rfl (py_field tu68 rfl ts2 rfl rfl) (sV rfl (py_load tu2 rfl rfl (cell_atL (H5.box 1 rfl) rfl)) (sV rfl (py_eql rfl rfl) (sA rfl rfl (s_nil (W_ifd rfl (fun c4 => ?_) (fun c4 => ?_)))))))
     ·refine W_reg (sV rfl (py_loadS tu34 rfl ts34 rfl rfl (At.whole (H5.box 0 rfl))) (sV rfl (py_loadS tu68 rfl ts68 rfl rfl (At.whole (H5.box 1 rfl))) (s_call (wn rfl) rfl rfl (pc_call Tryz.func201 rfl Tryz_nm201 rfl) (Tryz_impl_shareFault (by assumption) (H5.sees 0 rfl) (H5.sees 1 rfl) (H5.sees 2 rfl) (by assumption)) (fun v4 w7 r4 => ?_))))
      obtain ⟨e6, rfl⟩ := r4
      have H7 := H5.to e6
      refine sA rfl rfl (s_nil ?_)
      have hk1 := ins_iff.1 (not_false c1)
      exact ⟨(), ⟨eqI (kindF_share (by omega)).symm, rfl, trivial⟩, H7, not_false c1, not_false c2⟩
     ·refine W_sr (sV rfl (py_field tu68 rfl ts2 rfl rfl) (sV rfl (py_load tu2 rfl rfl (cell_atL (H5.box 1 rfl) rfl)) (sV rfl (py_eql rfl rfl) (sA rfl rfl (s_nil (W_ifd rfl (fun c5 => ?_) (fun c5 => ?_)))))))
      ·refine W_sr (sV rfl (py_loadS tu34 rfl ts34 rfl rfl (At.whole (H5.box 0 rfl))) (sV rfl (py_field tu68 rfl ts2 rfl rfl) (sV rfl (py_load tu2 rfl rfl (cell_atL (H5.box 1 rfl) rfl)) (s_call (wn rfl) rfl rfl (pc_call Tryz.func71 rfl Tryz_nm71 rfl) (Tryz_impl_Shape_isGroup (by assumption)) (fun v5 w8 r5 => ?_)))))
       obtain ⟨e7, rfl⟩ := r5
       have H8 := H5.to e7
       refine sV rfl (py_not rfl) (s_nil (W_if rfl (fun c6 => ?_) (fun c6 => ?_)))
       ·refine W_reg (sA rfl rfl (s_nil ?_))
        have hk1 := ins_iff.1 (not_false c1)
        exact ⟨(), ⟨eqI (kindF_done_no (by omega) (not_true c6)).symm, rfl, trivial⟩, H8, not_false c1, not_false c2⟩
       ·refine W_skip ?_
        have hk1 := ins_iff.1 (not_false c1)
        exact ⟨(), ⟨eqI (kindF_done_ok (by omega) (not_false c6)).symm, rfl, trivial⟩, H8, not_false c1, not_false c2⟩
      ·refine W_seq (W_drw (S := Ext No _) [(0, true), (1, true), (2, true), (3, false), (4, true), (5, true), (6, true), (7, true), (8, true), (9, false), (10, true), (11, true), (12, true), (13, true), (14, true), (16, true), (15, false), (17, false), (18, true), (19, true), (20, true), (21, true), (22, true), (24, true), (23, false), (25, false), (26, true), (27, true), (28, false)] (by kernel_rfl) (by kernel_rfl) (by kernel_rfl) rfl (fun _ => Ext.refl.drawn _) (fun q1 => ?_))
       have H9 := H5.drawn q1
       refine dV rfl rfl (fun zw hx => py_loadS tu34 rfl ts34 rfl rfl (At.whole (hx.heap (H9.box 0 rfl)))) (dV rfl rfl (fun zw hx => py_field tu68 rfl ts2 rfl rfl) (dV rfl rfl (fun zw hx => py_load tu2 rfl rfl (cell_atL (hx.heap (H9.box 1 rfl)) rfl)) (d_call rfl (wn rfl) rfl rfl (pc_call Tryz.func120 rfl Tryz_nm120 rfl) (Tryz_impl_Shape_isData (by assumption)) (fun hS _ _ r _ => hS.trans r.1.no) (fun v6 w9 r6 => ?_))))
       obtain ⟨e8, rfl⟩ := r6
       have H10 := H9.to e8
       refine dV rfl rfl (fun zw hx => py_not rfl) (dM rfl rfl rfl (d_case (t := 45) rfl (fun hg1 => ?_) (fun hg1 => ?_)))
       ·try simp only [decide_eq_true_eq, decide_eq_false_iff_not] at hg1
        refine dKt rfl rfl rfl rfl (dKt rfl rfl rfl rfl (dKt rfl rfl rfl rfl (d_skipA rfl (wog (b := true) rfl rfl rfl) rfl rfl (dKt rfl rfl rfl rfl (dV rfl rfl (fun zw hx => py_pickT rfl rfl) (dM rfl rfl rfl (dKt rfl rfl rfl rfl (dKt rfl rfl rfl rfl (dKt rfl rfl rfl rfl (d_skipA rfl (wog (b := true) rfl rfl rfl) rfl rfl (d_skipA rfl (wog (b := true) rfl rfl rfl) rfl rfl (dKt rfl rfl rfl rfl (dV rfl rfl (fun zw hx => py_pickT rfl rfl) (dM rfl rfl rfl (dKt rfl rfl rfl rfl (dKt rfl rfl rfl rfl (dKt rfl rfl rfl rfl (d_skipA rfl (wog (b := true) rfl rfl rfl) rfl rfl (d_skipA rfl (wog (b := true) rfl rfl rfl) rfl rfl (dKt rfl rfl rfl rfl (dV rfl rfl (fun zw hx => py_pickT rfl rfl) (d_end rfl (wn rfl) rfl rfl (py_assign rfl) (d_nil (W_ift rfl (W_reg (sA rfl rfl (s_nil ?_)))))))))))))))))))))))))))
        have hk1 := ins_iff.1 (not_false c1)
        exact ⟨(), ⟨eqI (kindF_move_no (by omega) (by simp_all [moveOK])).symm, rfl, trivial⟩, H10, not_false c1, not_false c2⟩
       ·try simp only [decide_eq_true_eq, decide_eq_false_iff_not] at hg1
        refine d_val rfl (wg rfl rfl rfl) rfl rfl (fun zw hx => py_loadS tu34 rfl ts34 rfl rfl (At.whole (hx.heap (H9.box 0 rfl)))) (d_val rfl (wg rfl rfl rfl) rfl rfl (fun zw hx => py_field tu68 rfl ts2 rfl rfl) (d_val rfl (wg rfl rfl rfl) rfl rfl (fun zw hx => py_load tu2 rfl rfl (cell_atL (hx.heap (H9.box 1 rfl)) rfl)) (d_call rfl (wg rfl rfl rfl) rfl rfl (pc_call Tryz.func72 rfl Tryz_nm72 rfl) (Tryz_impl_Shape_isRow (by assumption)) (fun hS _ _ r _ => hS.trans r.1.no) (fun v7 w10 r7 => ?_))))
        obtain ⟨e9, rfl⟩ := r7
        have H11 := H10.to e9
        refine d_val rfl (wg rfl rfl rfl) rfl rfl (fun zw hx => py_not rfl) (dV rfl rfl (fun zw hx => py_pickF rfl rfl) (dM rfl rfl rfl (d_case (t := 52) rfl (fun hg2 => ?_) (fun hg2 => ?_))))
        ·try simp only [decide_eq_true_eq, decide_eq_false_iff_not] at hg2
         refine dKt rfl rfl rfl rfl (dKt rfl rfl rfl rfl (dKt rfl rfl rfl rfl (d_skipA rfl (wog (b := true) rfl rfl rfl) rfl rfl (d_skipA rfl (wog (b := true) rfl rfl rfl) rfl rfl (dKt rfl rfl rfl rfl (dV rfl rfl (fun zw hx => py_pickT rfl rfl) (dM rfl rfl rfl (dKt rfl rfl rfl rfl (dKt rfl rfl rfl rfl (dKt rfl rfl rfl rfl (d_skipA rfl (wog (b := true) rfl rfl rfl) rfl rfl (d_skipA rfl (wog (b := true) rfl rfl rfl) rfl rfl (dKt rfl rfl rfl rfl (dV rfl rfl (fun zw hx => py_pickT rfl rfl) (d_end rfl (wn rfl) rfl rfl (py_assign rfl) (d_nil (W_ift rfl (W_reg (sA rfl rfl (s_nil ?_))))))))))))))))))))
         have hk1 := ins_iff.1 (not_false c1)
         exact ⟨(), ⟨eqI (kindF_move_no (by omega) (by simp_all [moveOK])).symm, rfl, trivial⟩, H11, not_false c1, not_false c2⟩
        ·try simp only [decide_eq_true_eq, decide_eq_false_iff_not] at hg2
         refine d_val rfl (wg rfl rfl rfl) rfl rfl (fun zw hx => py_field tu68 rfl ts45 rfl rfl) (d_val rfl (wg rfl rfl rfl) rfl rfl (fun zw hx => py_load tu45 rfl rfl (cell_atL (hx.heap (H9.box 1 rfl)) rfl)) (d_val rfl (wg rfl rfl rfl) rfl rfl (fun zw hx => py_loadS tu34 rfl ts34 rfl rfl (At.whole (hx.heap (H9.box 0 rfl)))) (d_call rfl (wg rfl rfl rfl) rfl rfl (pc_call Tryz.func202 rfl Tryz_nm202 rfl) (Tryz_size_byte (H11.sees 1 rfl)) (fun hS _ _ r _ => hS.trans r.1.no) (fun v8 w11 r8 => ?_))))
         obtain ⟨e10, rfl⟩ := r8
         have H12 := H11.to e10
         refine d_call rfl (wg rfl rfl rfl) rfl rfl (pc_call Tryz.func203 rfl Tryz_nm203 rfl) (Tryz_impl_Shape_rowLength (by assumption)) (fun hS _ _ r _ => hS.trans r.1.no) (fun v9 w12 r9 => ?_)
         obtain ⟨e11, rfl⟩ := r9
         have H13 := H12.to e11
         refine d_val rfl (wg rfl rfl rfl) rfl rfl (fun zw hx => py_neq rfl rfl) (dV rfl rfl (fun zw hx => py_pickF rfl rfl) (dM rfl rfl rfl (d_case (t := 60) rfl (fun hg3 => ?_) (fun hg3 => ?_))))
         ·try simp only [decide_eq_true_eq, decide_eq_false_iff_not] at hg3
          refine dKt rfl rfl rfl rfl (dKt rfl rfl rfl rfl (dKt rfl rfl rfl rfl (d_skipA rfl (wog (b := true) rfl rfl rfl) rfl rfl (d_skipA rfl (wog (b := true) rfl rfl rfl) rfl rfl (dKt rfl rfl rfl rfl (dV rfl rfl (fun zw hx => py_pickT rfl rfl) (d_end rfl (wn rfl) rfl rfl (py_assign rfl) (d_nil (W_ift rfl (W_reg (sA rfl rfl (s_nil ?_))))))))))))
          have hk1 := ins_iff.1 (not_false c1)
          exact ⟨(), ⟨eqI (kindF_move_no (by omega) (by simp_all [moveOK])).symm, rfl, trivial⟩, H13, not_false c1, not_false c2⟩
         ·try simp only [decide_eq_true_eq, decide_eq_false_iff_not] at hg3
          refine d_val rfl (wg rfl rfl rfl) rfl rfl (fun zw hx => py_field tu68 rfl ts45 rfl rfl) (d_val rfl (wg rfl rfl rfl) rfl rfl (fun zw hx => py_load tu45 rfl rfl (cell_atL (hx.heap (H9.box 1 rfl)) rfl)) (d_val rfl (wg rfl rfl rfl) rfl rfl (fun zw hx => py_loadS tu34 rfl ts34 rfl rfl (At.whole (hx.heap (H9.box 0 rfl)))) (d_call rfl (wg rfl rfl rfl) rfl rfl (pc_call Tryz.func202 rfl Tryz_nm202 rfl) (Tryz_size_byte (H13.sees 2 rfl)) (fun hS _ _ r _ => hS.trans r.1.no) (fun v10 w13 r10 => ?_))))
          obtain ⟨e12, rfl⟩ := r10
          have H14 := H13.to e12
          refine d_call rfl (wg rfl rfl rfl) rfl rfl (pc_call Tryz.func203 rfl Tryz_nm203 rfl) (Tryz_impl_Shape_rowLength (by assumption)) (fun hS _ _ r _ => hS.trans r.1.no) (fun v11 w14 r11 => ?_)
          obtain ⟨e13, rfl⟩ := r11
          have H15 := H14.to e13
          refine d_val rfl (wg rfl rfl rfl) rfl rfl (fun zw hx => py_neq rfl rfl) (dV rfl rfl (fun zw hx => py_pickF rfl rfl) (d_end rfl (wn rfl) rfl rfl (py_assign rfl) (d_nil (W_ifd rfl (fun c7 => ?_) (fun c7 => ?_)))))
          ·refine W_reg (sA rfl rfl (s_nil ?_))
           have hk1 := ins_iff.1 (not_false c1)
           exact ⟨(), ⟨eqI (kindF_move_no (by omega) (by simp_all [moveOK])).symm, rfl, trivial⟩, H15, not_false c1, not_false c2⟩
          ·refine W_skip ?_
           have hk1 := ins_iff.1 (not_false c1)
           exact ⟨(), ⟨eqI (kindF_move_ok (by omega) (by simp_all [moveOK])).symm, rfl, trivial⟩, H15, not_false c1, not_false c2⟩
 ·dsimp only [lCA, lNA]
  refine W_seq (W_seq (W_drw (S := Ext No _) [(0, true), (1, true), (2, true), (3, true), (4, true), (5, false), (6, false), (7, true), (8, false)] (by kernel_rfl) (by kernel_rfl) (by kernel_rfl) rfl (fun _ => Ext.refl.drawn _) (fun q2 => ?_)))
  have H16 := H3.drawn q2
  refine dM rfl rfl rfl (dV rfl rfl (fun zw hx => py_eql rfl rfl) (dM rfl rfl rfl (d_case (t := 70) rfl (fun hg4 => ?_) (fun hg4 => ?_))))
  ·try simp only [decide_eq_true_eq, decide_eq_false_iff_not] at hg4
   refine d_val rfl (wg rfl rfl rfl) rfl rfl (fun zw hx => py_loadS tu68 rfl ts68 rfl rfl (At.whole (hx.heap (H16.box 1 rfl)))) (d_val rfl (wg rfl rfl rfl) rfl rfl (fun zw hx => py_loadS tu68 rfl ts68 rfl rfl (At.whole (hx.heap (H16.box 1 rfl)))) (d_call rfl (wg rfl rfl rfl) rfl rfl (pc_call Tryz.func205 rfl Tryz_nm205 rfl) (Tryz_impl_Rec_bare (by assumption) (H16.sees 0 rfl) (H16.sees 1 rfl) (H16.sees 2 rfl)) (fun hS _ _ r _ => hS.trans r.1.no) (fun v12 w15 r12 => ?_)))
   obtain ⟨e14, bA1, bA2, bA3, bA4, bA5, bA6, rfl, bS1, bS2, bS3⟩ := r12
   have H17 := H16.to e14
   refine d_call rfl (wg rfl rfl rfl) rfl rfl (pc_call Tryz.func204 rfl Tryz_nm204 rfl) (Tryz_impl_sameRec (by assumption) (H17.sees 0 rfl) (H17.sees 1 rfl) (H17.sees 2 rfl) (recOf_ok (by assumption)) bS1 bS2 bS3) (fun hS _ _ r _ => hS.trans r.1.no) (fun v13 w16 r13 => ?_)
   obtain ⟨e15, rfl⟩ := r13
   have H18 := H17.to e15
   refine d_val rfl (wg rfl rfl rfl) rfl rfl (fun zw hx => py_not rfl) (d_end rfl (wn rfl) rfl rfl (py_pickT rfl rfl) (d_nil (W_if rfl (fun c8 => ?_) (fun c8 => ?_))))
   ·refine W_reg (sA rfl rfl (s_nil (W_sr (sM rfl rfl (sA rfl rfl (s_nil (rT hQ Tryz.results119 rfl ?_)))))))
    exact ⟨H18.ext, congrArg (Value.int .i64) ((recF_form hK hS (by omega) (by rw [← recOf_same (ins_iff.1 hK)]; exact not_true c8)).trans rfl).symm⟩
   ·refine W_skip (W_sr (sM rfl rfl (sA rfl rfl (s_nil (rT hQ Tryz.results119 rfl ?_)))))
    exact ⟨H18.ext, congrArg (Value.int .i64) ((recF_ok hK hS (by omega) (by rw [← recOf_same (ins_iff.1 hK)]; exact not_false c8)).trans (by omega)).symm⟩
  ·try simp only [decide_eq_true_eq, decide_eq_false_iff_not] at hg4
   refine dKf rfl rfl rfl rfl (dKf rfl rfl rfl rfl (d_skipA rfl (wog (b := false) rfl rfl rfl) rfl rfl (d_skipA rfl (wog (b := false) rfl rfl rfl) rfl rfl (dKf rfl rfl rfl rfl (d_end rfl (wn rfl) rfl rfl (py_pickF rfl rfl) (d_nil (W_iff rfl (W_skip (W_sr (sM rfl rfl (sA rfl rfl (s_nil (rT hQ Tryz.results119 rfl ?_)))))))))))))
   exact ⟨H16.ext, congrArg (Value.int .i64) (recF_bad hK hS (by omega)).symm⟩
end Go.Wk
namespace Go.Wk
open Rp (sz own)
section
variable {s : Shape} {r : Rec}
theorem rest_ok1 (h : r.Ok) : (⟨r.Kind, r.Seq, ⟨#[]⟩, 0, r.Group, r.Row, [], [], r.Delta⟩ : Rec).Ok := by
  unfold Rec.Ok I64ok at h ⊢
  have : (⟨#[]⟩ : ByteArray).size ≤ maxLen := Nat.zero_le _
  simp only; omega
theorem rest_ok2 (h : r.Ok) : (⟨r.Kind, r.Seq, r.Name, r.Length, 0, 0, r.Rows, [], []⟩ : Rec).Ok := by
  unfold Rec.Ok I64ok at h ⊢
  simp only; omega
theorem rest_ok3 (h : r.Ok) : (⟨r.Kind, r.Seq, r.Name, r.Length, 0, r.Row, r.Rows, r.Data, r.Delta⟩ : Rec).Ok := by
  unfold Rec.Ok I64ok at h ⊢
  simp only; omega
theorem rest_ok4 (h : r.Ok) : (⟨r.Kind, r.Seq, r.Name, r.Length, 0, 0, [], [], []⟩ : Rec).Ok := by
  unfold Rec.Ok I64ok at h ⊢
  simp only; omega
theorem rest_bare1 (h : r.Kind = 1) : emptyR ⟨r.Kind, r.Seq, ⟨#[]⟩, 0, r.Group, r.Row, [], [], r.Delta⟩ = bareOK r := by rw [bareOK, if_pos h]; simp [emptyR, noName]
theorem rest_bare2 (h : r.Kind = 2) : emptyR ⟨r.Kind, r.Seq, r.Name, r.Length, 0, 0, r.Rows, [], []⟩ = bareOK r := by rw [bareOK, if_neg (by omega), if_pos h]; simp [emptyR, noName]
theorem rest_bare3 (h : r.Kind = 3) : emptyR ⟨r.Kind, r.Seq, r.Name, r.Length, 0, r.Row, r.Rows, r.Data, r.Delta⟩ = bareOK r := by rw [bareOK, if_neg (by omega), if_neg (by omega), if_pos h]; simp [emptyR, noName, Bool.and_assoc]
theorem rest_bare4 (h : r.Kind = 4) : emptyR ⟨r.Kind, r.Seq, r.Name, r.Length, 0, 0, [], [], []⟩ = bareOK r := by rw [bareOK, if_neg (by omega), if_neg (by omega), if_neg (by omega)]; simp [emptyR, noName]
end
end Go.Wk
namespace Go.Wk
section
variable {z : Wld} {s : Shape} {g : List Drive} {d : Drive}
theorem all_of_any {α : Type} [Inhabited α] {xs : List α} {p : α → Bool} (h : (xs.any fun b => !p b) = false) : ((List.range xs.length).all fun i => p (xs.getD i default)) = true :=
  all_yes fun i hi => by simpa using any_noD (d := default) h i hi
theorem not_all_of_any {α : Type} [Inhabited α] {xs : List α} {p : α → Bool} (h : (xs.any fun b => !p b) = true) : ((List.range xs.length).all fun i => p (xs.getD i default)) = false := by
  obtain ⟨i, hi, h⟩ := any_getD (d := default) h
  exact all_no i hi (by simpa using h)
theorem driveOK_len (h : ¬ (d.Blocks.length : Int) = s.Rows) : driveOK s d = false := by rw [driveOK, decide_eq_false h]; rfl
theorem driveOK_bad (h : (d.Blocks.any fun b => !blockOK b) = true) : driveOK s d = false := by rw [driveOK, not_all_of_any h, Bool.and_false]
theorem driveOK_yes (h : (d.Blocks.length : Int) = s.Rows) (h2 : (d.Blocks.any fun b => !blockOK b) = false) : driveOK s d = true := by rw [driveOK, decide_eq_true h, all_of_any h2]; rfl
theorem driveOK_all (h : (d.Blocks.length : Int) = s.Rows) (h2 : ∀ i, i < d.Blocks.length → blockOK (d.Blocks.getD i default) = true) : driveOK s d = true := by rw [driveOK, decide_eq_true h, all_yes h2]; rfl
theorem driveOK_at (i : Nat) (hi : i < d.Blocks.length) (h2 : blockOK (d.Blocks.getD i default) = false) : driveOK s d = false := by rw [driveOK, all_no i hi h2, Bool.and_false]
theorem groupOK_len (h : ¬ (g.length : Int) = s.Data + s.Spare) : groupOK s g = false := by rw [groupOK, decide_eq_false h]; rfl
theorem groupOK_at (k : Nat) (hk : k < g.length) (h : driveOK s (g.getD k default) = false) : groupOK s g = false := by rw [groupOK, all_no k hk h, Bool.and_false]
theorem groupOK_yes (h : (g.length : Int) = s.Data + s.Spare) (h2 : ∀ i, i < g.length → driveOK s (g.getD i default) = true) : groupOK s g = true := by rw [groupOK, decide_eq_true h, all_yes h2]; rfl
theorem groupsOK_len (h : ¬ (z.Groups.length : Int) = z.Shape.Groups + z.Shape.Column) : groupsOK z = false := by rw [groupsOK, decide_eq_false h]; rfl
theorem groupsOK_at (k : Nat) (hk : k < z.Groups.length) (h : groupOK z.Shape (z.Groups.getD k []) = false) : groupsOK z = false := by rw [groupsOK, all_no k hk h, Bool.and_false]
theorem groupsOK_yes (h : (z.Groups.length : Int) = z.Shape.Groups + z.Shape.Column) (h2 : ∀ i, i < z.Groups.length → groupOK z.Shape (z.Groups.getD i []) = true) : groupsOK z = true := by rw [groupsOK, decide_eq_true h, all_yes h2]; rfl
end
end Go.Wk
namespace Go.Wk
section
variable {z : Wld}
theorem onOK_apart (h : (List.range z.On.length).all (apartAt z.On (z.Shape.Groups + z.Shape.Column - 1)) = false) : onOK z = false := by rw [onOK, apartL, h]; rfl
theorem onOK_rest (h : (List.range z.On.length).all (apartAt z.On (z.Shape.Groups + z.Shape.Column - 1)) = true) {b : Bool} (hb : b = (decide ((z.On.length : Int) ≤ z.Shape.Cap) && (decide (z.On.length = 0) || !z.Down))) : onOK z = b := by rw [onOK, apartL, h, hb]; simp [Bool.and_assoc]
theorem tapesF_many (h : z.Tapes.any manyRecs = true) : tapesF z = 2 := by rw [tapesF, if_pos h]
theorem tapesF_rec (h : z.Tapes.any manyRecs = false) {k k2 : Nat} (hk : k < z.Tapes.length) (hkz : tapeF z.Shape z.Tapes k = 0) (hk2 : k2 < (z.Tapes.getD k default).Recs.length) (h2 : recsF z.Shape (z.Tapes.getD k default).Recs k2 = 0)
    (hr : recF z.Shape ((z.Tapes.getD k default).Recs.getD k2 default) ≠ 0) : tapesF z = recF z.Shape ((z.Tapes.getD k default).Recs.getD k2 default) := by
  have e := tapeF_hit hk hkz hk2 h2 hr
  rw [tapesF, if_neg (by simp [h]), if_pos (by rw [e]; exact hr), e]
theorem tapesF_full (h : z.Tapes.any manyRecs = false) (h2 : tapeF z.Shape z.Tapes z.Tapes.length = 0) (h3 : z.Tapes.any wipedFull = true) : tapesF z = 1 := by rw [tapesF, if_neg (by simp [h]), if_neg (by omega), if_pos h3]
theorem tapesF_ok (h : z.Tapes.any manyRecs = false) (h2 : tapeF z.Shape z.Tapes z.Tapes.length = 0) (h3 : z.Tapes.any wipedFull = false) : tapesF z = 0 := by rw [tapesF, if_neg (by simp [h]), if_neg (by omega), if_neg (by simp [h3])]
end
end Go.Wk
namespace Go.Wk
section
variable {z : Wld} {b : Block}
theorem blockOK_no (h : (!ins b.Stamp 0 1000000000 || decide ((b.Bytes.length : Int) ≠ 4)) = true) : blockOK b = false := by
  rw [blockOK]
  simp only [Bool.or_eq_true, decide_eq_true_eq] at h
  rcases h with h | h
  · rw [not_true h]; rfl
  · rw [decide_eq_false (by omega), Bool.and_false]
theorem blockOK_yes (h : (!ins b.Stamp 0 1000000000 || decide ((b.Bytes.length : Int) ≠ 4)) = false) : blockOK b = true := by
  rw [Bool.or_eq_false_iff] at h
  have h2 := of_decide_eq_false h.2
  rw [blockOK, not_false h.1, decide_eq_true (by omega)]; rfl
theorem any_two {α : Type} [Inhabited α] {xs : List α} {p : α → Bool} (h : xs.length = 2) (h2 : p (xs.getD 0 default) = true ∨ p (xs.getD 1 default) = true) : xs.any p = true := by
  rcases h2 with h2 | h2
  · exact any_at 0 (by omega) h2
  · exact any_at 1 (by omega) h2
theorem any_neither {α : Type} [Inhabited α] {xs : List α} {p : α → Bool} (h : xs.length = 2) (h0 : p (xs.getD 0 default) = false) (h1 : p (xs.getD 1 default) = false) : xs.any p = false :=
  any_none fun i hi => by
    have : i = 0 ∨ i = 1 := by omega
    rcases this with rfl | rfl
    · exact h0
    · exact h1
theorem fine_eq : (groupsOK z && (apartL z.On (z.Shape.Groups + z.Shape.Column - 1) && (decide ((z.On.length : Int) ≤ z.Shape.Cap) && ((decide (z.On.length = 0) || !z.Down) && decide (z.Tapes.length = 2))))) = (groupsOK z && onOK z && decide (z.Tapes.length = 2)) := by
  rw [onOK]; simp only [Bool.and_assoc]
end
end Go.Wk
namespace Go.Wk
theorem at_cell {w : World} {b o : Nat} {cs : List Value} (h : At w b o cs) (j : Nat) {v : Value} (hj : cs[j]? = some v) : w.cell? ⟨b, o + j, none⟩ = some v := h j v hj
end Go.Wk
namespace Go.Wk
open Go.Proofs Rp
set_option maxRecDepth 10000
set_option maxHeartbeats 1000000 in
theorem Tryz_spec_RecFault {w : World} {s : Shape} {r : Rec} {rA6 rA7 rA8 : Option Addr} {rC6 rC7 rC8 : Nat} (rK : r.Ok) (rS6 : Sees w [.slice rA6 r.Rows.length rC6] r.Rows) (rS7 : Sees w [.slice rA7 r.Data.length rC7] r.Data) (rS8 : Sees w [.slice rA8 r.Delta.length rC8] r.Delta) : Ret Tryz.prog 112 #[s.v, r.val rA6 rC6 rA7 rC7 rA8 rC8] w fun v w' => Ext No w w' ∧ (v = .int .i64 (if s.fault ≠ 0 then s.fault else recF s r)) := by
 have rK2 := rK
 unfold Rec.Ok at rK2
 try unfold I64ok at rK2
 try unfold maxLen at rK2
 have rN2 : r.Name.size ≤ maxLen := by unfold maxLen; omega
 have rL6 := sL rS6
 obtain ⟨rF6, rO6⟩ := rS6
 have rL7 := sL rS7
 obtain ⟨rF7, rO7⟩ := rS7
 have rL8 := sL rS8
 obtain ⟨rF8, rO8⟩ := rS8
 refine ret_Q (vs := [s.v, r.val rA6 rC6 rA7 rC7 rA8 rC8]) Tryz.func112 rfl Tryz.ntmps112 rfl (fun Q hQ hN => ?_)
 have H0 := Sep.start (w := w) (F := [seen false [.slice rA6 r.Rows.length rC6] r.Rows rF6, seen false [.slice rA7 r.Data.length rC7] r.Data rF7, seen false [.slice rA8 r.Delta.length rC8] r.Delta rF8]) (all_cons rO6 (all_cons rO7 (all_cons rO8 (by simp))))
 refine W_sr (s_box (wn rfl) rfl rfl H0 (fun b1 w1 e1 g1 H1 => ?_))
 refine s_box (wn rfl) rfl rfl H1 (fun b2 w2 e2 g2 H2 => ?_)
 refine sA rfl rfl (s_nil (W_seq (W_sr (sV rfl (py_loadS tu34 rfl ts34 rfl rfl (At.whole (H2.box 0 rfl))) (s_call (wn rfl) rfl rfl (pc_call Tryz.func159 rfl Tryz_nm159 rfl) Tryz_spec_ShapeFault (fun v1 w3 r1 => ?_))))))
 obtain ⟨e3, rfl⟩ := r1
 have H3 := H2.to e3
 refine sA rfl rfl (s_nil (W_sr (sM rfl rfl (sV rfl (py_neq rfl rfl) (s_nil (W_ifd rfl (fun c1 => ?_) (fun c1 => ?_)))))))
 ·refine W_sr (sM rfl rfl (sA rfl rfl (s_nil (rT hQ Tryz.results112 rfl ?_))))
  exact ⟨H3.ext, congrArg (Value.int .i64) (if_pos (by omega)).symm⟩
 ·refine W_skip (W_seq (W_seq ?_))
  have hs := shapeFault_ok (s := s) (by omega)
  have sbd := shape_bd hs
  refine W_reg (sV rfl (py_field tu68 rfl ts2 rfl rfl) (sV rfl (py_load tu2 rfl rfl (cell_atL (H3.box 1 rfl) rfl)) (s_call (wn rfl) rfl rfl (pc_call Tryz.func97 rfl Tryz_nm97 rfl) Tryz_spec_l1In (fun v2 w4 r2 => ?_))))
  obtain ⟨e4, rfl⟩ := r2
  have H4 := H3.to e4
  refine sV rfl (py_not rfl) (s_nil (W_if rfl (fun c2 => ?_) (fun c2 => ?_)))
  ·refine W_sr (sA rfl rfl (s_nil (rT hQ Tryz.results112 rfl ?_)))
   exact ⟨H4.ext, congrArg (Value.int .i64) ((if_neg (by omega)).trans (recF_kind (not_true c2))).symm⟩
  ·refine W_skip (W_seq (W_sr (sV rfl (py_field tu68 rfl ts2 rfl rfl) (sV rfl (py_load tu2 rfl rfl (cell_atL (H4.box 1 rfl) rfl)) (s_call (wn rfl) rfl rfl (pc_call Tryz.func97 rfl Tryz_nm97 rfl) Tryz_spec_l1In (fun v3 w5 r3 => ?_))))))
   obtain ⟨e5, rfl⟩ := r3
   have H5 := H4.to e5
   refine sV rfl (py_not rfl) (s_nil (W_if rfl (fun c3 => ?_) (fun c3 => ?_)))
   ·refine W_sr (sA rfl rfl (s_nil (rT hQ Tryz.results112 rfl ?_)))
    exact ⟨H5.ext, congrArg (Value.int .i64) ((if_neg (by omega)).trans (recF_seq (not_false c2) (not_true c3))).symm⟩
   ·refine W_skip (W_sr (sV rfl (py_loadS tu68 rfl ts68 rfl rfl (At.whole (H5.box 1 rfl))) (s_var (wn rfl) rfl Tryz.zeroValue68 H5 (fun b3 w6 e6 g3 H6 => ?_))))
    refine s_stoS (wn rfl) ts68 rfl rfl rfl rfl H6 2 rfl rfl (fun w7 e7 H7 => ?_)
    dsimp only [lNA, lCA, lSZ, lSS, layL] at H7
    refine s_nil (W_seq (W_sr (sV rfl (py_field tu68 rfl ts2 rfl rfl) (sV rfl (py_load tu2 rfl rfl (cell_atL (H7.box 1 rfl) rfl)) (s_nil (W_block (W_seq ?_)))))))
    have hk1 := ins_iff.1 (not_false c2)
    refine W_reg (sV rfl (py_eql rfl rfl) (sA rfl rfl (s_nil (W_ifd rfl (fun c4 => ?_) (fun c4 => ?_)))))
    ·refine W_seq (W_sr (sV rfl (py_field tu68 rfl ts9 rfl rfl) (sV rfl (py_load tu9 rfl rfl (cell_atL (H7.box 1 rfl) rfl)) (s_call (wn rfl) rfl rfl (pc_call Tryz.func187 rfl Tryz_nm187 rfl) (Tryz_spec_NameFault (by assumption)) (fun v4 w8 r4 => ?_)))))
     obtain ⟨e8, rfl⟩ := r4
     have H8 := H7.to e8
     refine sA rfl rfl (s_nil (W_sr (sM rfl rfl (sV rfl (py_neq rfl rfl) (s_nil (W_ifd rfl (fun c5 => ?_) (fun c5 => ?_)))))))
     ·refine W_sr (sM rfl rfl (sA rfl rfl (s_nil (rT hQ Tryz.results112 rfl ?_))))
      have kq := (kindF_item (s := s) (by omega)).trans (itemF_name (by omega))
      have kF := recF_bad (s := s) (not_false c2) (not_false c3) (by omega)
      exact ⟨H8.ext, congrArg (Value.int .i64) ((if_neg (by omega)).trans (kF.trans kq)).symm⟩
     ·refine W_skip (W_seq (W_sr (sV rfl (py_loadS tu34 rfl ts34 rfl rfl (At.whole (H8.box 0 rfl))) (sV rfl (py_loadS tu68 rfl ts68 rfl rfl (At.whole (H8.box 1 rfl))) (s_call (wn rfl) rfl rfl (pc_call Tryz.func188 rfl Tryz_nm188 rfl) (Tryz_spec_l5Item (by assumption) (H8.sees 0 rfl) (H8.sees 1 rfl) (H8.sees 2 rfl) (by assumption)) (fun v5 w9 r5 => ?_))))))
      obtain ⟨e9, rfl⟩ := r5
      have H9 := H8.to e9
      refine sV rfl (py_not rfl) (s_nil (W_if rfl (fun c6 => ?_) (fun c6 => ?_)))
      ·refine W_sr (sA rfl rfl (s_nil (rT hQ Tryz.results112 rfl ?_)))
       have kq := (kindF_item (s := s) (by omega)).trans (itemF_bad (by omega) (not_true c6))
       have kF := recF_bad (s := s) (not_false c2) (not_false c3) (by omega)
       exact ⟨H9.ext, congrArg (Value.int .i64) ((if_neg (by omega)).trans (kF.trans kq)).symm⟩
      ·refine W_skip (W_sr (sV rfl (py_field tu68 rfl ts9 rfl rfl) (s_sto (wn rfl) ts9 rfl rfl rfl H9 2 rfl rfl (fun w10 e10 H10 => ?_))))
       dsimp only [lNA, lCA, lSZ, lSS, layL] at H10
       refine s_nil (W_sr (sV rfl (py_field tu68 rfl ts2 rfl rfl) (s_sto (wn rfl) ts2 rfl rfl rfl H10 2 rfl rfl (fun w11 e11 H11 => ?_))))
       dsimp only [lNA, lCA, lSZ, lSS, layL] at H11
       refine s_nil (W_sr (sV rfl (py_field tu68 rfl ts25 rfl rfl) (s_sto (wn rfl) ts25 rfl rfl rfl H11 2 rfl rfl (fun w12 e12 H12 => ?_))))
       dsimp only [lNA, lCA, lSZ, lSS, layL] at H12
       refine s_nil (W_reg (sV rfl (py_field tu68 rfl ts45 rfl rfl) (s_sto (wn rfl) ts45 rfl rfl rfl H12 2 rfl rfl (fun w13 e13 H13 => ?_))))
       dsimp only [lNA, lCA, lSZ, lSS, layL] at H13
       refine s_nil (W_seq (W_sr (sV rfl (py_loadS tu68 rfl ts68 rfl rfl (At.whole (H13.box 2 rfl))) (s_call (wn rfl) rfl rfl (pc_call Tryz.func192 rfl Tryz_nm192 rfl) (Tryz_spec_l5Empty (r := ⟨r.Kind, r.Seq, ⟨#[]⟩, 0, r.Group, r.Row, [], [], r.Delta⟩) (rest_ok1 rK) ⟨[], .inr (.inl ⟨rfl, rfl, rfl⟩)⟩ ⟨[], .inr (.inl ⟨rfl, rfl, rfl⟩)⟩ (H13.sees 2 rfl)) (fun v6 w14 r6 => ?_)))))
       obtain ⟨e14, rfl⟩ := r6
       have H14 := H13.to e14
       refine sV rfl (py_not rfl) (s_nil (W_if rfl (fun c7 => ?_) (fun c7 => ?_)))
       ·refine W_sr (sA rfl rfl (s_nil (rT hQ Tryz.results112 rfl ?_)))
        have kq := (kindF_item (s := s) (by omega)).trans (itemF_ok (by omega) (not_false c6))
        exact ⟨H14.ext, congrArg (Value.int .i64) ((if_neg (by omega)).trans (recF_form (not_false c2) (not_false c3) kq (by rw [← rest_bare1 (by omega)]; exact not_true c7))).symm⟩
       ·refine W_skip (W_sr (sA rfl rfl (s_nil (rT hQ Tryz.results112 rfl ?_))))
        have kq := (kindF_item (s := s) (by omega)).trans (itemF_ok (by omega) (not_false c6))
        exact ⟨H14.ext, congrArg (Value.int .i64) ((if_neg (by omega)).trans (recF_ok (not_false c2) (not_false c3) kq (by rw [← rest_bare1 (by omega)]; exact not_false c7))).symm⟩
    ·refine W_sr (sV rfl (py_eql rfl rfl) (sA rfl rfl (s_nil (W_ifd rfl (fun c8 => ?_) (fun c8 => ?_)))))
     ·refine W_seq (W_seq (W_drw (S := Ext No _) [(0, true), (1, true), (2, true), (3, true), (4, true), (5, false), (6, true), (7, true), (8, true), (9, true), (10, true), (11, true), (12, true), (13, false), (14, true), (15, true), (16, true), (17, true), (18, true), (19, true), (20, true), (21, false), (22, true), (23, true), (24, true), (25, true), (26, true), (27, true), (28, true), (29, false), (30, true), (31, false)] (by kernel_rfl) (by kernel_rfl) (by kernel_rfl) rfl (fun _ => Ext.refl.drawn _) (fun q1 => ?_)))
      have H15 := H7.drawn q1
      refine dV rfl rfl (fun zw hx => py_field tu68 rfl ts2 rfl rfl) (dV rfl rfl (fun zw hx => py_load tu2 rfl rfl (cell_atL (hx.heap (H15.box 1 rfl)) rfl)) (dV rfl rfl (fun zw hx => py_field tu34 rfl ts2 rfl rfl) (dV rfl rfl (fun zw hx => py_load tu2 rfl rfl (cell_atL (hx.heap (H15.box 0 rfl)) rfl)) (dV rfl rfl (fun zw hx => py_sub rfl rfl (in64 ⟨by omega, by omega⟩)) (d_call rfl (wn rfl) rfl rfl (pc_call Tryz.func97 rfl Tryz_nm97 rfl) Tryz_spec_l1In (fun hS _ _ r _ => hS.trans r.1.no) (fun v7 w15 r7 => ?_))))))
      obtain ⟨e15, rfl⟩ := r7
      have H16 := H15.to e15
      refine dV rfl rfl (fun zw hx => py_not rfl) (dM rfl rfl rfl (d_case (t := 49) rfl (fun hg1 => ?_) (fun hg1 => ?_)))
      ·try simp only [decide_eq_true_eq, decide_eq_false_iff_not] at hg1
       refine dKt rfl rfl rfl rfl (dKt rfl rfl rfl rfl (dKt rfl rfl rfl rfl (dKt rfl rfl rfl rfl (dKt rfl rfl rfl rfl (d_skipA rfl (wog (b := true) rfl rfl rfl) rfl rfl (dKt rfl rfl rfl rfl (dV rfl rfl (fun zw hx => py_pickT rfl rfl) (dM rfl rfl rfl (dKt rfl rfl rfl rfl (dKt rfl rfl rfl rfl (dKt rfl rfl rfl rfl (dKt rfl rfl rfl rfl (d_skipA rfl (wog (b := true) rfl rfl rfl) rfl rfl (dKt rfl rfl rfl rfl (dV rfl rfl (fun zw hx => py_pickT rfl rfl) (dM rfl rfl rfl (dKt rfl rfl rfl rfl (dKt rfl rfl rfl rfl (dKt rfl rfl rfl rfl (dKt rfl rfl rfl rfl (d_skipA rfl (wog (b := true) rfl rfl rfl) rfl rfl (dKt rfl rfl rfl rfl (d_end rfl (wn rfl) rfl rfl (py_pickT rfl rfl) (d_nil (W_ift rfl (W_sr (sA rfl rfl (s_nil (rT hQ Tryz.results112 rfl ?_)))))))))))))))))))))))))))))
       have kq := kindF_move_no (s := s) (by omega) (by simp_all [moveOK])
       have kF := recF_bad (s := s) (not_false c2) (not_false c3) (by omega)
       exact ⟨H16.ext, congrArg (Value.int .i64) ((if_neg (by omega)).trans (kF.trans kq)).symm⟩
      ·try simp only [decide_eq_true_eq, decide_eq_false_iff_not] at hg1
       refine d_val rfl (wg rfl rfl rfl) rfl rfl (fun zw hx => py_field tu68 rfl ts2 rfl rfl) (d_val rfl (wg rfl rfl rfl) rfl rfl (fun zw hx => py_load tu2 rfl rfl (cell_atL (hx.heap (H15.box 1 rfl)) rfl)) (d_val rfl (wg rfl rfl rfl) rfl rfl (fun zw hx => py_field tu34 rfl ts2 rfl rfl) (d_val rfl (wg rfl rfl rfl) rfl rfl (fun zw hx => py_load tu2 rfl rfl (cell_atL (hx.heap (H15.box 0 rfl)) rfl)) (d_val rfl (wg rfl rfl rfl) rfl rfl (fun zw hx => py_sub rfl rfl (in64 ⟨by omega, by omega⟩)) (d_call rfl (wg rfl rfl rfl) rfl rfl (pc_call Tryz.func97 rfl Tryz_nm97 rfl) Tryz_spec_l1In (fun hS _ _ r _ => hS.trans r.1.no) (fun v8 w16 r8 => ?_))))))
       obtain ⟨e16, rfl⟩ := r8
       have H17 := H16.to e16
       refine d_val rfl (wg rfl rfl rfl) rfl rfl (fun zw hx => py_not rfl) (dV rfl rfl (fun zw hx => py_pickF rfl rfl) (dM rfl rfl rfl (d_case (t := 58) rfl (fun hg2 => ?_) (fun hg2 => ?_))))
       ·try simp only [decide_eq_true_eq, decide_eq_false_iff_not] at hg2
        refine dKt rfl rfl rfl rfl (dKt rfl rfl rfl rfl (dKt rfl rfl rfl rfl (dKt rfl rfl rfl rfl (d_skipA rfl (wog (b := true) rfl rfl rfl) rfl rfl (dKt rfl rfl rfl rfl (dV rfl rfl (fun zw hx => py_pickT rfl rfl) (dM rfl rfl rfl (dKt rfl rfl rfl rfl (dKt rfl rfl rfl rfl (dKt rfl rfl rfl rfl (dKt rfl rfl rfl rfl (d_skipA rfl (wog (b := true) rfl rfl rfl) rfl rfl (dKt rfl rfl rfl rfl (d_end rfl (wn rfl) rfl rfl (py_pickT rfl rfl) (d_nil (W_ift rfl (W_sr (sA rfl rfl (s_nil (rT hQ Tryz.results112 rfl ?_))))))))))))))))))))
        have kq := kindF_move_no (s := s) (by omega) (by simp_all [moveOK])
        have kF := recF_bad (s := s) (not_false c2) (not_false c3) (by omega)
        exact ⟨H17.ext, congrArg (Value.int .i64) ((if_neg (by omega)).trans (kF.trans kq)).symm⟩
       ·try simp only [decide_eq_true_eq, decide_eq_false_iff_not] at hg2
        refine d_val rfl (wg rfl rfl rfl) rfl rfl (fun zw hx => py_field tu68 rfl ts45 rfl rfl) (d_val rfl (wg rfl rfl rfl) rfl rfl (fun zw hx => py_load tu45 rfl rfl (cell_atL (hx.heap (H15.box 1 rfl)) rfl)) (d_val rfl (wg rfl rfl rfl) rfl rfl (fun zw hx => py_len tu45 rfl) (d_val rfl (wg rfl rfl rfl) rfl rfl (fun zw hx => py_loadS tu34 rfl ts34 rfl rfl (At.whole (hx.heap (H15.box 0 rfl)))) (d_call rfl (wg rfl rfl rfl) rfl rfl (pc_call Tryz.func189 rfl Tryz_nm189 rfl) (Tryz_spec_l4Wide (by assumption)) (fun hS _ _ r _ => hS.trans r.1.no) (fun v9 w17 r9 => ?_)))))
        obtain ⟨e17, rfl⟩ := r9
        have H18 := H17.to e17
        refine d_val rfl (wg rfl rfl rfl) rfl rfl (fun zw hx => py_neq rfl rfl) (dV rfl rfl (fun zw hx => py_pickF rfl rfl) (dM rfl rfl rfl (d_case (t := 66) rfl (fun hg3 => ?_) (fun hg3 => ?_))))
        ·try simp only [decide_eq_true_eq, decide_eq_false_iff_not] at hg3
         refine dKt rfl rfl rfl rfl (dKt rfl rfl rfl rfl (dKt rfl rfl rfl rfl (dKt rfl rfl rfl rfl (d_skipA rfl (wog (b := true) rfl rfl rfl) rfl rfl (dKt rfl rfl rfl rfl (d_end rfl (wn rfl) rfl rfl (py_pickT rfl rfl) (d_nil (W_ift rfl (W_sr (sA rfl rfl (s_nil (rT hQ Tryz.results112 rfl ?_))))))))))))
         have kq := kindF_move_no (s := s) (by omega) (by simp_all [moveOK])
         have kF := recF_bad (s := s) (not_false c2) (not_false c3) (by omega)
         exact ⟨H18.ext, congrArg (Value.int .i64) ((if_neg (by omega)).trans (kF.trans kq)).symm⟩
        ·try simp only [decide_eq_true_eq, decide_eq_false_iff_not] at hg3
         refine d_val rfl (wg rfl rfl rfl) rfl rfl (fun zw hx => py_field tu68 rfl ts45 rfl rfl) (d_val rfl (wg rfl rfl rfl) rfl rfl (fun zw hx => py_load tu45 rfl rfl (cell_atL (hx.heap (H15.box 1 rfl)) rfl)) (d_val rfl (wg rfl rfl rfl) rfl rfl (fun zw hx => py_len tu45 rfl) (d_val rfl (wg rfl rfl rfl) rfl rfl (fun zw hx => py_loadS tu34 rfl ts34 rfl rfl (At.whole (hx.heap (H15.box 0 rfl)))) (d_call rfl (wg rfl rfl rfl) rfl rfl (pc_call Tryz.func189 rfl Tryz_nm189 rfl) (Tryz_spec_l4Wide (by assumption)) (fun hS _ _ r _ => hS.trans r.1.no) (fun v10 w18 r10 => ?_)))))
         obtain ⟨e18, rfl⟩ := r10
         have H19 := H18.to e18
         refine d_val rfl (wg rfl rfl rfl) rfl rfl (fun zw hx => py_neq rfl rfl) (d_end rfl (wn rfl) rfl rfl (py_pickF rfl rfl) (d_nil (W_ifd rfl (fun c9 => ?_) (fun c9 => ?_))))
         ·refine W_sr (sA rfl rfl (s_nil (rT hQ Tryz.results112 rfl ?_)))
          have kq := kindF_move_no (s := s) (by omega) (by simp_all [moveOK])
          have kF := recF_bad (s := s) (not_false c2) (not_false c3) (by omega)
          exact ⟨H19.ext, congrArg (Value.int .i64) ((if_neg (by omega)).trans (kF.trans kq)).symm⟩
         ·refine W_skip (W_sr (sV rfl (py_field tu68 rfl ts2 rfl rfl) (s_sto (wn rfl) ts2 rfl rfl rfl H19 2 rfl rfl (fun w19 e19 H20 => ?_))))
          dsimp only [lNA, lCA, lSZ, lSS, layL] at H20
          refine s_nil (W_sr (sV rfl (py_field tu68 rfl ts2 rfl rfl) (s_sto (wn rfl) ts2 rfl rfl rfl H20 2 rfl rfl (fun w20 e20 H21 => ?_))))
          dsimp only [lNA, lCA, lSZ, lSS, layL] at H21
          refine s_nil (W_sr (sV rfl (py_field tu68 rfl ts45 rfl rfl) (s_sto (wn rfl) ts45 rfl rfl rfl H21 2 rfl rfl (fun w21 e21 H22 => ?_))))
          dsimp only [lNA, lCA, lSZ, lSS, layL] at H22
          refine s_nil (W_reg (sV rfl (py_field tu68 rfl ts45 rfl rfl) (s_sto (wn rfl) ts45 rfl rfl rfl H22 2 rfl rfl (fun w22 e22 H23 => ?_))))
          dsimp only [lNA, lCA, lSZ, lSS, layL] at H23
          refine s_nil (W_seq (W_sr (sV rfl (py_loadS tu68 rfl ts68 rfl rfl (At.whole (H23.box 2 rfl))) (s_call (wn rfl) rfl rfl (pc_call Tryz.func192 rfl Tryz_nm192 rfl) (Tryz_spec_l5Empty (r := ⟨r.Kind, r.Seq, r.Name, r.Length, 0, 0, r.Rows, [], []⟩) (rest_ok2 rK) (H23.sees 0 rfl) ⟨[], .inr (.inl ⟨rfl, rfl, rfl⟩)⟩ ⟨[], .inr (.inl ⟨rfl, rfl, rfl⟩)⟩) (fun v11 w23 r11 => ?_)))))
          obtain ⟨e23, rfl⟩ := r11
          have H24 := H23.to e23
          refine sV rfl (py_not rfl) (s_nil (W_if rfl (fun c10 => ?_) (fun c10 => ?_)))
          ·refine W_sr (sA rfl rfl (s_nil (rT hQ Tryz.results112 rfl ?_)))
           have kq := kindF_move_ok (s := s) (by omega) (by simp_all [moveOK])
           exact ⟨H24.ext, congrArg (Value.int .i64) ((if_neg (by omega)).trans (recF_form (not_false c2) (not_false c3) kq (by rw [← rest_bare2 (by omega)]; exact not_true c10))).symm⟩
          ·refine W_skip (W_sr (sA rfl rfl (s_nil (rT hQ Tryz.results112 rfl ?_))))
           have kq := kindF_move_ok (s := s) (by omega) (by simp_all [moveOK])
           exact ⟨H24.ext, congrArg (Value.int .i64) ((if_neg (by omega)).trans (recF_ok (not_false c2) (not_false c3) kq (by rw [← rest_bare2 (by omega)]; exact not_false c10))).symm⟩
     ·refine W_sr (sV rfl (py_eql rfl rfl) (sA rfl rfl (s_nil (W_ifd rfl (fun c11 => ?_) (fun c11 => ?_)))))
      ·refine W_seq (W_seq (W_drw (S := Ext No _) [(0, true), (1, true), (2, true), (3, false), (4, true), (5, false), (6, false)] (by kernel_rfl) (by kernel_rfl) (by kernel_rfl) rfl (fun _ => Ext.refl.drawn _) (fun q2 => ?_)))
       have H25 := H7.drawn q2
       refine dV rfl rfl (fun zw hx => py_field tu68 rfl ts2 rfl rfl) (dV rfl rfl (fun zw hx => py_load tu2 rfl rfl (cell_atL (hx.heap (H25.box 1 rfl)) rfl)) (dV rfl rfl (fun zw hx => py_loadS tu34 rfl ts34 rfl rfl (At.whole (hx.heap (H25.box 0 rfl)))) (d_call rfl (wn rfl) rfl rfl (pc_call Tryz.func162 rfl Tryz_nm162 rfl) (Tryz_spec_l5All (by assumption)) (fun hS _ _ r _ => hS.trans r.1.no) (fun v12 w24 r12 => ?_))))
       obtain ⟨e24, rfl⟩ := r12
       have H26 := H25.to e24
       refine dV rfl rfl (fun zw hx => py_sub rfl rfl (in64 ⟨by omega, by omega⟩)) (d_call rfl (wn rfl) rfl rfl (pc_call Tryz.func97 rfl Tryz_nm97 rfl) Tryz_spec_l1In (fun hS _ _ r _ => hS.trans r.1.no) (fun v13 w25 r13 => ?_))
       obtain ⟨e25, rfl⟩ := r13
       have H27 := H26.to e25
       refine d_end rfl (wn rfl) rfl rfl (py_not rfl) (d_nil (W_if rfl (fun c12 => ?_) (fun c12 => ?_)))
       ·refine W_sr (sA rfl rfl (s_nil (rT hQ Tryz.results112 rfl ?_)))
        have kq := kindF_done_no (s := s) (by omega) (not_true c12)
        have kF := recF_bad (s := s) (not_false c2) (not_false c3) (by omega)
        exact ⟨H27.ext, congrArg (Value.int .i64) ((if_neg (by omega)).trans (kF.trans kq)).symm⟩
       ·refine W_skip (W_reg (sV rfl (py_field tu68 rfl ts2 rfl rfl) (s_sto (wn rfl) ts2 rfl rfl rfl H27 2 rfl rfl (fun w26 e26 H28 => ?_))))
        dsimp only [lNA, lCA, lSZ, lSS, layL] at H28
        refine s_nil (W_seq (W_sr (sV rfl (py_loadS tu68 rfl ts68 rfl rfl (At.whole (H28.box 2 rfl))) (s_call (wn rfl) rfl rfl (pc_call Tryz.func192 rfl Tryz_nm192 rfl) (Tryz_spec_l5Empty (r := ⟨r.Kind, r.Seq, r.Name, r.Length, 0, r.Row, r.Rows, r.Data, r.Delta⟩) (rest_ok3 rK) (H28.sees 0 rfl) (H28.sees 1 rfl) (H28.sees 2 rfl)) (fun v14 w27 r14 => ?_)))))
        obtain ⟨e27, rfl⟩ := r14
        have H29 := H28.to e27
        refine sV rfl (py_not rfl) (s_nil (W_if rfl (fun c13 => ?_) (fun c13 => ?_)))
        ·refine W_sr (sA rfl rfl (s_nil (rT hQ Tryz.results112 rfl ?_)))
         have kq := kindF_done_ok (s := s) (by omega) (not_false c12)
         exact ⟨H29.ext, congrArg (Value.int .i64) ((if_neg (by omega)).trans (recF_form (not_false c2) (not_false c3) kq (by rw [← rest_bare3 (by omega)]; exact not_true c13))).symm⟩
        ·refine W_skip (W_sr (sA rfl rfl (s_nil (rT hQ Tryz.results112 rfl ?_))))
         have kq := kindF_done_ok (s := s) (by omega) (not_false c12)
         exact ⟨H29.ext, congrArg (Value.int .i64) ((if_neg (by omega)).trans (recF_ok (not_false c2) (not_false c3) kq (by rw [← rest_bare3 (by omega)]; exact not_false c13))).symm⟩
      ·refine W_sr (sV rfl (py_eql rfl rfl) (sA rfl rfl (s_nil (W_ifd rfl (fun c14 => ?_) (fun c14 => ?_)))))
       ·refine W_seq (W_seq (W_drw (S := Ext No _) [(0, true), (1, true), (2, true), (3, false), (4, true), (5, false), (6, true), (7, true), (8, true), (9, true), (10, true), (11, true), (12, true), (13, false), (14, true), (15, true), (16, true), (17, true), (18, true), (19, true), (20, false), (21, true), (22, false), (23, true), (24, true), (25, true), (26, true), (27, true), (28, true), (29, true), (30, false), (31, true), (32, true), (33, true), (34, true), (35, true), (36, false), (37, true), (38, false)] (by kernel_rfl) (by kernel_rfl) (by kernel_rfl) rfl (fun _ => Ext.refl.drawn _) (fun q3 => ?_)))
        have H30 := H7.drawn q3
        refine dV rfl rfl (fun zw hx => py_field tu68 rfl ts2 rfl rfl) (dV rfl rfl (fun zw hx => py_load tu2 rfl rfl (cell_atL (hx.heap (H30.box 1 rfl)) rfl)) (dV rfl rfl (fun zw hx => py_loadS tu34 rfl ts34 rfl rfl (At.whole (hx.heap (H30.box 0 rfl)))) (d_call rfl (wn rfl) rfl rfl (pc_call Tryz.func162 rfl Tryz_nm162 rfl) (Tryz_spec_l5All (by assumption)) (fun hS _ _ r _ => hS.trans r.1.no) (fun v15 w28 r15 => ?_))))
        obtain ⟨e28, rfl⟩ := r15
        have H31 := H30.to e28
        refine dV rfl rfl (fun zw hx => py_sub rfl rfl (in64 ⟨by omega, by omega⟩)) (d_call rfl (wn rfl) rfl rfl (pc_call Tryz.func97 rfl Tryz_nm97 rfl) Tryz_spec_l1In (fun hS _ _ r _ => hS.trans r.1.no) (fun v16 w29 r16 => ?_))
        obtain ⟨e29, rfl⟩ := r16
        have H32 := H31.to e29
        refine dV rfl rfl (fun zw hx => py_not rfl) (dM rfl rfl rfl (d_case (t := 97) rfl (fun hg4 => ?_) (fun hg4 => ?_)))
        ·try simp only [decide_eq_true_eq, decide_eq_false_iff_not] at hg4
         refine dKt rfl rfl rfl rfl (dKt rfl rfl rfl rfl (dKt rfl rfl rfl rfl (dKt rfl rfl rfl rfl (dKt rfl rfl rfl rfl (d_skipA rfl (wog (b := true) rfl rfl rfl) rfl rfl (dKt rfl rfl rfl rfl (dV rfl rfl (fun zw hx => py_pickT rfl rfl) (dM rfl rfl rfl (dKt rfl rfl rfl rfl (dKt rfl rfl rfl rfl (dKt rfl rfl rfl rfl (d_skipA rfl (wog (b := true) rfl rfl rfl) rfl rfl (dKt rfl rfl rfl rfl (d_skipA rfl (wog (b := true) rfl rfl rfl) rfl rfl (dKt rfl rfl rfl rfl (dV rfl rfl (fun zw hx => py_pickT rfl rfl) (dM rfl rfl rfl (dKt rfl rfl rfl rfl (dKt rfl rfl rfl rfl (dKt rfl rfl rfl rfl (dKt rfl rfl rfl rfl (d_skipA rfl (wog (b := true) rfl rfl rfl) rfl rfl (dKt rfl rfl rfl rfl (dV rfl rfl (fun zw hx => py_pickT rfl rfl) (dM rfl rfl rfl (dKt rfl rfl rfl rfl (dKt rfl rfl rfl rfl (d_skipA rfl (wog (b := true) rfl rfl rfl) rfl rfl (dKt rfl rfl rfl rfl (d_end rfl (wn rfl) rfl rfl (py_pickT rfl rfl) (d_nil (W_ift rfl (W_sr (sA rfl rfl (s_nil (rT hQ Tryz.results112 rfl ?_))))))))))))))))))))))))))))))))))))
         have kq := (kindF_share (s := s) (by omega)).trans (if_neg (by simp_all [shareOK]))
         have kF := recF_bad (s := s) (not_false c2) (not_false c3) (by omega)
         exact ⟨H32.ext, congrArg (Value.int .i64) ((if_neg (by omega)).trans (kF.trans kq)).symm⟩
        ·try simp only [decide_eq_true_eq, decide_eq_false_iff_not] at hg4
         refine d_val rfl (wg rfl rfl rfl) rfl rfl (fun zw hx => py_field tu68 rfl ts2 rfl rfl) (d_val rfl (wg rfl rfl rfl) rfl rfl (fun zw hx => py_load tu2 rfl rfl (cell_atL (hx.heap (H30.box 1 rfl)) rfl)) (d_val rfl (wg rfl rfl rfl) rfl rfl (fun zw hx => py_field tu34 rfl ts2 rfl rfl) (d_val rfl (wg rfl rfl rfl) rfl rfl (fun zw hx => py_load tu2 rfl rfl (cell_atL (hx.heap (H30.box 0 rfl)) rfl)) (d_val rfl (wg rfl rfl rfl) rfl rfl (fun zw hx => py_sub rfl rfl (in64 ⟨by omega, by omega⟩)) (d_call rfl (wg rfl rfl rfl) rfl rfl (pc_call Tryz.func97 rfl Tryz_nm97 rfl) Tryz_spec_l1In (fun hS _ _ r _ => hS.trans r.1.no) (fun v17 w30 r17 => ?_))))))
         obtain ⟨e30, rfl⟩ := r17
         have H33 := H32.to e30
         refine d_val rfl (wg rfl rfl rfl) rfl rfl (fun zw hx => py_not rfl) (dV rfl rfl (fun zw hx => py_pickF rfl rfl) (dM rfl rfl rfl (d_case (t := 106) rfl (fun hg5 => ?_) (fun hg5 => ?_))))
         ·try simp only [decide_eq_true_eq, decide_eq_false_iff_not] at hg5
          refine dKt rfl rfl rfl rfl (dKt rfl rfl rfl rfl (dKt rfl rfl rfl rfl (d_skipA rfl (wog (b := true) rfl rfl rfl) rfl rfl (dKt rfl rfl rfl rfl (d_skipA rfl (wog (b := true) rfl rfl rfl) rfl rfl (dKt rfl rfl rfl rfl (dV rfl rfl (fun zw hx => py_pickT rfl rfl) (dM rfl rfl rfl (dKt rfl rfl rfl rfl (dKt rfl rfl rfl rfl (dKt rfl rfl rfl rfl (dKt rfl rfl rfl rfl (d_skipA rfl (wog (b := true) rfl rfl rfl) rfl rfl (dKt rfl rfl rfl rfl (dV rfl rfl (fun zw hx => py_pickT rfl rfl) (dM rfl rfl rfl (dKt rfl rfl rfl rfl (dKt rfl rfl rfl rfl (d_skipA rfl (wog (b := true) rfl rfl rfl) rfl rfl (dKt rfl rfl rfl rfl (d_end rfl (wn rfl) rfl rfl (py_pickT rfl rfl) (d_nil (W_ift rfl (W_sr (sA rfl rfl (s_nil (rT hQ Tryz.results112 rfl ?_)))))))))))))))))))))))))))
          have kq := (kindF_share (s := s) (by omega)).trans (if_neg (by simp_all [shareOK]))
          have kF := recF_bad (s := s) (not_false c2) (not_false c3) (by omega)
          exact ⟨H33.ext, congrArg (Value.int .i64) ((if_neg (by omega)).trans (kF.trans kq)).symm⟩
         ·try simp only [decide_eq_true_eq, decide_eq_false_iff_not] at hg5
          refine d_val rfl (wg rfl rfl rfl) rfl rfl (fun zw hx => py_field tu68 rfl ts25 rfl rfl) (d_val rfl (wg rfl rfl rfl) rfl rfl (fun zw hx => py_load tu25 rfl rfl (cell_atL (hx.heap (H30.box 1 rfl)) rfl)) (d_val rfl (wg rfl rfl rfl) rfl rfl (fun zw hx => py_loadS tu34 rfl ts34 rfl rfl (At.whole (hx.heap (H30.box 0 rfl)))) (d_call rfl (wg rfl rfl rfl) rfl rfl (pc_call Tryz.func162 rfl Tryz_nm162 rfl) (Tryz_spec_l5All (by assumption)) (fun hS _ _ r _ => hS.trans r.1.no) (fun v18 w31 r18 => ?_))))
          obtain ⟨e31, rfl⟩ := r18
          have H34 := H33.to e31
          refine d_val rfl (wg rfl rfl rfl) rfl rfl (fun zw hx => py_sub rfl rfl (in64 ⟨by omega, by omega⟩)) (d_call rfl (wg rfl rfl rfl) rfl rfl (pc_call Tryz.func190 rfl Tryz_nm190 rfl) (Tryz_spec_l2Rise (H34.sees 0 rfl) (by omega)) (fun hS _ _ r _ => hS.trans r.1.no) (fun v19 w32 r19 => ?_))
          obtain ⟨e32, rfl⟩ := r19
          have H35 := H34.to e32
          refine d_val rfl (wg rfl rfl rfl) rfl rfl (fun zw hx => py_not rfl) (dV rfl rfl (fun zw hx => py_pickF rfl rfl) (dM rfl rfl rfl (d_case (t := 115) rfl (fun hg6 => ?_) (fun hg6 => ?_))))
          ·try simp only [decide_eq_true_eq, decide_eq_false_iff_not] at hg6
           refine dKt rfl rfl rfl rfl (dKt rfl rfl rfl rfl (dKt rfl rfl rfl rfl (dKt rfl rfl rfl rfl (d_skipA rfl (wog (b := true) rfl rfl rfl) rfl rfl (dKt rfl rfl rfl rfl (dV rfl rfl (fun zw hx => py_pickT rfl rfl) (dM rfl rfl rfl (dKt rfl rfl rfl rfl (dKt rfl rfl rfl rfl (d_skipA rfl (wog (b := true) rfl rfl rfl) rfl rfl (dKt rfl rfl rfl rfl (d_end rfl (wn rfl) rfl rfl (py_pickT rfl rfl) (d_nil (W_ift rfl (W_sr (sA rfl rfl (s_nil (rT hQ Tryz.results112 rfl ?_))))))))))))))))))
           have kq := (kindF_share (s := s) (by omega)).trans (if_neg (by simp_all [shareOK]))
           have kF := recF_bad (s := s) (not_false c2) (not_false c3) (by omega)
           exact ⟨H35.ext, congrArg (Value.int .i64) ((if_neg (by omega)).trans (kF.trans kq)).symm⟩
          ·try simp only [decide_eq_true_eq, decide_eq_false_iff_not] at hg6
           refine d_val rfl (wg rfl rfl rfl) rfl rfl (fun zw hx => py_field tu68 rfl ts45 rfl rfl) (d_val rfl (wg rfl rfl rfl) rfl rfl (fun zw hx => py_load tu45 rfl rfl (cell_atL (hx.heap (H30.box 1 rfl)) rfl)) (d_val rfl (wg rfl rfl rfl) rfl rfl (fun zw hx => py_len tu45 rfl) (d_val rfl (wg rfl rfl rfl) rfl rfl (fun zw hx => py_loadS tu34 rfl ts34 rfl rfl (At.whole (hx.heap (H30.box 0 rfl)))) (d_call rfl (wg rfl rfl rfl) rfl rfl (pc_call Tryz.func189 rfl Tryz_nm189 rfl) (Tryz_spec_l4Wide (by assumption)) (fun hS _ _ r _ => hS.trans r.1.no) (fun v20 w33 r20 => ?_)))))
           obtain ⟨e33, rfl⟩ := r20
           have H36 := H35.to e33
           refine d_val rfl (wg rfl rfl rfl) rfl rfl (fun zw hx => py_neq rfl rfl) (dV rfl rfl (fun zw hx => py_pickF rfl rfl) (dM rfl rfl rfl (d_case (t := 123) rfl (fun hg7 => ?_) (fun hg7 => ?_))))
           ·try simp only [decide_eq_true_eq, decide_eq_false_iff_not] at hg7
            refine dKt rfl rfl rfl rfl (dKt rfl rfl rfl rfl (d_skipA rfl (wog (b := true) rfl rfl rfl) rfl rfl (dKt rfl rfl rfl rfl (d_end rfl (wn rfl) rfl rfl (py_pickT rfl rfl) (d_nil (W_ift rfl (W_sr (sA rfl rfl (s_nil (rT hQ Tryz.results112 rfl ?_))))))))))
            have kq := (kindF_share (s := s) (by omega)).trans (if_neg (by simp_all [shareOK]))
            have kF := recF_bad (s := s) (not_false c2) (not_false c3) (by omega)
            exact ⟨H36.ext, congrArg (Value.int .i64) ((if_neg (by omega)).trans (kF.trans kq)).symm⟩
           ·have hgr := ins_iff.1 (not_false hg4)
            have hrr : ∀ i, i < r.Rows.length → 0 ≤ r.Rows.getD i 0 ∧ r.Rows.getD i 0 < s.Groups + s.Column := fun i hi => by have := rises_get (not_false hg6) i hi; omega
            refine d_val rfl (wg rfl rfl rfl) rfl rfl (fun zw hx => py_loadS tu34 rfl ts34 rfl rfl (At.whole (hx.heap (H30.box 0 rfl)))) (d_val rfl (wg rfl rfl rfl) rfl rfl (fun zw hx => py_loadS tu68 rfl ts68 rfl rfl (At.whole (hx.heap (H30.box 1 rfl)))) (d_call rfl (wg rfl rfl rfl) rfl rfl (pc_call Tryz.func191 rfl Tryz_nm191 rfl) (Tryz_spec_l5Weights (by assumption) (H36.sees 0 rfl) (H36.sees 1 rfl) (H36.sees 2 rfl) (by assumption) (by omega) hrr) (fun hS _ _ r _ => hS.trans r.1.no) (fun v21 w34 r21 => ?_)))
            obtain ⟨e34, rfl⟩ := r21
            have H37 := H36.to e34
            refine d_val rfl (wg rfl rfl rfl) rfl rfl (fun zw hx => py_not rfl) (d_end rfl (wn rfl) rfl rfl (py_pickF rfl rfl) (d_nil (W_if rfl (fun c15 => ?_) (fun c15 => ?_))))
            ·refine W_sr (sA rfl rfl (s_nil (rT hQ Tryz.results112 rfl ?_)))
             have kq := (kindF_share (s := s) (by omega)).trans (if_neg (by simp_all [shareOK]))
             have kF := recF_bad (s := s) (not_false c2) (not_false c3) (by omega)
             exact ⟨H37.ext, congrArg (Value.int .i64) ((if_neg (by omega)).trans (kF.trans kq)).symm⟩
            ·refine W_skip (W_sr (sV rfl (py_field tu68 rfl ts45 rfl rfl) (s_sto (wn rfl) ts45 rfl rfl rfl H37 2 rfl rfl (fun w35 e35 H38 => ?_))))
             dsimp only [lNA, lCA, lSZ, lSS, layL] at H38
             refine s_nil (W_sr (sV rfl (py_field tu68 rfl ts2 rfl rfl) (s_sto (wn rfl) ts2 rfl rfl rfl H38 2 rfl rfl (fun w36 e36 H39 => ?_))))
             dsimp only [lNA, lCA, lSZ, lSS, layL] at H39
             refine s_nil (W_sr (sV rfl (py_field tu68 rfl ts2 rfl rfl) (s_sto (wn rfl) ts2 rfl rfl rfl H39 2 rfl rfl (fun w37 e37 H40 => ?_))))
             dsimp only [lNA, lCA, lSZ, lSS, layL] at H40
             refine s_nil (W_sr (sV rfl (py_field tu68 rfl ts25 rfl rfl) (s_sto (wn rfl) ts25 rfl rfl rfl H40 2 rfl rfl (fun w38 e38 H41 => ?_))))
             dsimp only [lNA, lCA, lSZ, lSS, layL] at H41
             refine s_nil (W_reg (sV rfl (py_field tu68 rfl ts45 rfl rfl) (s_sto (wn rfl) ts45 rfl rfl rfl H41 2 rfl rfl (fun w39 e39 H42 => ?_))))
             dsimp only [lNA, lCA, lSZ, lSS, layL] at H42
             refine s_nil (W_seq (W_sr (sV rfl (py_loadS tu68 rfl ts68 rfl rfl (At.whole (H42.box 2 rfl))) (s_call (wn rfl) rfl rfl (pc_call Tryz.func192 rfl Tryz_nm192 rfl) (Tryz_spec_l5Empty (r := ⟨r.Kind, r.Seq, r.Name, r.Length, 0, 0, [], [], []⟩) (rest_ok4 rK) ⟨[], .inr (.inl ⟨rfl, rfl, rfl⟩)⟩ ⟨[], .inr (.inl ⟨rfl, rfl, rfl⟩)⟩ ⟨[], .inr (.inl ⟨rfl, rfl, rfl⟩)⟩) (fun v22 w40 r22 => ?_)))))
             obtain ⟨e40, rfl⟩ := r22
             have H43 := H42.to e40
             refine sV rfl (py_not rfl) (s_nil (W_if rfl (fun c16 => ?_) (fun c16 => ?_)))
             ·refine W_sr (sA rfl rfl (s_nil (rT hQ Tryz.results112 rfl ?_)))
              have kq := (kindF_share (s := s) (by omega)).trans (if_pos (by simp_all [shareOK]))
              exact ⟨H43.ext, congrArg (Value.int .i64) ((if_neg (by omega)).trans (recF_form (not_false c2) (not_false c3) kq (by rw [← rest_bare4 (by omega)]; exact not_true c16))).symm⟩
             ·refine W_skip (W_sr (sA rfl rfl (s_nil (rT hQ Tryz.results112 rfl ?_))))
              have kq := (kindF_share (s := s) (by omega)).trans (if_pos (by simp_all [shareOK]))
              exact ⟨H43.ext, congrArg (Value.int .i64) ((if_neg (by omega)).trans (recF_ok (not_false c2) (not_false c3) kq (by rw [← rest_bare4 (by omega)]; exact not_false c16))).symm⟩
       ·exfalso; omega
theorem Tryz_impl_blockOK {w : World} {b : Block} {bA1 : Option Addr} {bC1 : Nat} (bK : b.Ok) (bS1 : Sees w [.slice bA1 b.Bytes.length bC1] b.Bytes) : Ret Tryz.prog 242 #[b.val bA1 bC1] w fun v w' => Ext No w w' ∧ (v = .bool (blockOK b)) := by
 have bK2 := bK
 unfold Block.Ok at bK2
 try unfold I64ok at bK2
 try unfold maxLen at bK2
 have bL1 := sL bS1
 obtain ⟨bF1, bO1⟩ := bS1
 refine ret_Q (vs := [b.val bA1 bC1]) Tryz.func242 rfl Tryz.ntmps242 rfl (fun Q hQ hN => ?_)
 have H0 := Sep.start (w := w) (F := [seen false [.slice bA1 b.Bytes.length bC1] b.Bytes bF1]) (all_cons bO1 (by simp))
 refine W_sr (s_box (wn rfl) rfl rfl H0 (fun b1 w1 e1 g1 H1 => ?_))
 refine sA rfl rfl (s_nil (W_sr (sV rfl (py_field tu182 rfl ts2 rfl rfl) (sV rfl (py_load tu2 rfl rfl (cell_atL (H1.box 0 rfl) rfl)) (s_call (wn rfl) rfl rfl (pc_call Tryz.func147 rfl Tryz_nm147 rfl) Tryz_impl_inside (fun v1 w2 r1 => ?_))))))
 obtain ⟨e2, rfl⟩ := r1
 have H2 := H1.to e2
 refine sM rfl rfl (s_grp 4 (j := 3) (want := true) (t := 10) rfl rfl rfl rfl (fun hg1 kk1 => s_val (wgE rfl rfl rfl hg1) rfl rfl (py_field tu182 rfl ts45 rfl rfl) (s_val (wgE rfl rfl rfl hg1) rfl rfl (py_load tu45 rfl rfl (cell_atL (H2.box 0 rfl) rfl)) (s_val (wgE rfl rfl rfl hg1) rfl rfl (py_len tu45 rfl) (s_val (wgE rfl rfl rfl hg1) rfl rfl (py_eql rfl rfl) (kk1 _ _ (kx rfl (kx rfl (kx rfl (kx rfl k0)))) rfl Ext.refl))))) (fun w3 e3 => ?_))
 have H3 := H2.to e3
 refine sV rfl (py_band rfl rfl) (sA rfl rfl (s_nil (rT hQ Tryz.results242 rfl ?_)))
 exact ⟨H3.ext, congrArg Value.bool (by simp only [blockOK]; congr 1; exact decide_eq_decide.2 (by omega))⟩
theorem Tryz_impl_groupsOK_1 {w : World} {b : Block} {bA1 : Option Addr} {bC1 : Nat} (bK : b.Ok) (bS1 : Sees w [.slice bA1 b.Bytes.length bC1] b.Bytes) : Ret Tryz.prog 241 #[b.val bA1 bC1] w fun v w' => Ext No w w' ∧ (v = .bool (!blockOK b)) := by
 have bK2 := bK
 unfold Block.Ok at bK2
 try unfold I64ok at bK2
 try unfold maxLen at bK2
 have bL1 := sL bS1
 obtain ⟨bF1, bO1⟩ := bS1
 refine ret_Q (vs := [b.val bA1 bC1]) Tryz.func241 rfl Tryz.ntmps241 rfl (fun Q hQ hN => ?_)
 have H0 := Sep.start (w := w) (F := [seen false [.slice bA1 b.Bytes.length bC1] b.Bytes bF1]) (all_cons bO1 (by simp))
 refine W_sr (s_box (wn rfl) rfl rfl H0 (fun b1 w1 e1 g1 H1 => ?_))
 refine sA rfl rfl (s_nil (W_sr (sV rfl (py_loadS tu182 rfl ts182 rfl rfl (At.whole (H1.box 0 rfl))) (s_call (wn rfl) rfl rfl (pc_call Tryz.func242 rfl Tryz_nm242 rfl) (Tryz_impl_blockOK (by assumption) (H1.sees 0 rfl)) (fun v1 w2 r1 => ?_)))))
 obtain ⟨e2, rfl⟩ := r1
 have H2 := H1.to e2
 refine sV rfl (py_not rfl) (sA rfl rfl (s_nil (rT hQ Tryz.results241 rfl ?_)))
 exact ⟨H2.ext, rfl⟩
set_option maxHeartbeats 1000000 in
theorem Tryz_impl_groupsOK {w : World} {z : Wld} {zA9 zA10 zA11 : Option Addr} {zC9 zC10 zC11 : Nat} (zK : z.Ok) (zS9 : Sees w [.slice zA9 z.Groups.length zC9] z.Groups) (zS10 : Sees w [.slice zA10 z.On.length zC10] z.On) (zS11 : Sees w [.slice zA11 z.Tapes.length zC11] z.Tapes) (hs : z.Shape.ok = true) : Ret Tryz.prog 144 #[z.val zA9 zC9 zA10 zC10 zA11 zC11] w fun v w' => Ext No w w' ∧ (v = .bool (groupsOK z)) := by
 have zK2 := zK
 unfold Wld.Ok Shape.Ok at zK2
 try unfold I64ok at zK2
 try unfold maxLen at zK2
 have zL9 := sL zS9
 obtain ⟨zF9, zO9⟩ := zS9
 have zL10 := sL zS10
 obtain ⟨zF10, zO10⟩ := zS10
 have zL11 := sL zS11
 obtain ⟨zF11, zO11⟩ := zS11
 have sbd := shape_bd hs
 refine ret_Q (vs := [z.val zA9 zC9 zA10 zC10 zA11 zC11]) Tryz.func144 rfl Tryz.ntmps144 rfl (fun Q hQ hN => ?_)
 have H0 := Sep.start (w := w) (F := [seen false [.slice zA9 z.Groups.length zC9] z.Groups zF9, seen false [.slice zA10 z.On.length zC10] z.On zF10, seen false [.slice zA11 z.Tapes.length zC11] z.Tapes zF11]) (all_cons zO9 (all_cons zO10 (all_cons zO11 (by simp))))
 refine W_sr (s_box (wn rfl) rfl rfl H0 (fun b1 w1 e1 g1 H1 => ?_))
 refine sA rfl rfl (s_nil (W_sr (sV rfl (py_field tu38 rfl ts34 rfl rfl) (sV rfl (py_loadS tu34 rfl ts34 rfl rfl (At.sub (H1.box 0 rfl) 9)) (s_var (wn rfl) rfl Tryz.zeroValue34 H1 (fun b2 w2 e2 g2 H2 => ?_))))))
 refine s_stoS (wn rfl) ts34 rfl rfl rfl rfl H2 1 rfl rfl (fun w3 e3 H3 => ?_)
 dsimp only [lNA, lCA, lSZ, lSS, layL] at H3
 refine s_nil (W_seq (W_seq (W_drw (S := Ext No _) [(0, true), (1, true), (3, true), (2, false), (4, false), (5, false)] (by kernel_rfl) (by kernel_rfl) (by kernel_rfl) rfl (fun _ => Ext.refl.drawn _) (fun q1 => ?_))))
 have H4 := H3.drawn q1
 refine dV rfl rfl (fun zw hx => py_field tu38 rfl ts35 rfl rfl) (dV rfl rfl (fun zw hx => py_load tu35 rfl rfl (cell_atL (hx.heap (H4.box 0 rfl)) rfl)) (dV rfl rfl (fun zw hx => py_loadS tu34 rfl ts34 rfl rfl (At.whole (hx.heap (H4.box 1 rfl)))) (d_call rfl (wn rfl) rfl rfl (pc_call Tryz.func237 rfl Tryz_nm237 rfl) (Tryz_size_ListDrive (H4.sees 0 rfl)) (fun hS _ _ r _ => hS.trans r.1.no) (fun v1 w4 r1 => ?_))))
 obtain ⟨e4, rfl⟩ := r1
 have H5 := H4.to e4
 refine d_call rfl (wn rfl) rfl rfl (pc_call Tryz.func100 rfl Tryz_nm100 rfl) (Tryz_impl_Shape_all (by assumption)) (fun hS _ _ r _ => hS.trans r.1.no) (fun v2 w5 r2 => ?_)
 obtain ⟨e5, rfl⟩ := r2
 have H6 := H5.to e5
 refine d_end rfl (wn rfl) rfl rfl (py_neq rfl rfl) (d_nil (W_ifd rfl (fun c1 => ?_) (fun c1 => ?_)))
 ·refine W_sr (sA rfl rfl (s_nil (rT hQ Tryz.results144 rfl ?_)))
  exact ⟨H6.ext, congrArg Value.bool (groupsOK_len (by omega)).symm⟩
 ·refine W_skip (W_seq (W_sr (sV rfl (py_field tu38 rfl ts35 rfl rfl) (sV rfl (py_load tu35 rfl rfl (cell_atL (H6.box 0 rfl) rfl)) (sV rfl (py_len tu35 rfl) (sM rfl rfl (s_nil (W_block (W_loopS (γ := Nat) H6 [(3, _), (17, _), (18, _)] ⟨rfl, rfl, rfl, trivial⟩ (fun k => [(19, .int .i64 k)]) (fun k => k ≤ z.Groups.length ∧ (∀ i, i < k → groupOK z.Shape (z.Groups.getD i []) = true)) (fun k => z.Groups.length - k) 0 ⟨rfl, trivial⟩ ⟨by omega, fun i hi => by omega⟩ (fun k w6 H7 ⟨hk, he⟩ => ?_))))))))))
  dsimp only [lCA, lNA]
  refine W_sr (sV rfl (py_lss rfl rfl) (s_nil (W_seq (W_ifd rfl (fun c2 => ?_) (fun c2 => ?_)))))
  ·refine W_skip (W_seq (W_block (W_seq ?_)))
   obtain ⟨eb1, eo1, ea1, ek1, ef1, ee1, ec1, eO1, eH1⟩ := elem_sl (H7.seen 0 rfl) k (by omega)
   have eP1 := H7.look1 0 rfl eO1 eH1
   refine W_reg (sV rfl (py_elz tu35 ts142 rfl rfl ee1 k (by omega) (by omega)) (sV rfl (py_load tu142 rfl rfl ec1) (sA rfl rfl (s_nil (W_seq (W_seq (W_drw (S := Ext No _) [(0, true), (2, true), (1, false), (3, false), (4, false)] (by kernel_rfl) (by kernel_rfl) (by kernel_rfl) rfl (fun _ => Ext.refl.drawn _) (fun q2 => ?_))))))))
   have H8 := eP1.drawn q2
   refine dM rfl rfl rfl (dV rfl rfl (fun zw hx => py_loadS tu34 rfl ts34 rfl rfl (At.whole (hx.heap (H8.box 1 rfl)))) (d_call rfl (wn rfl) rfl rfl (pc_call Tryz.func238 rfl Tryz_nm238 rfl) (Tryz_size_Drive (H8.sees 3 rfl)) (fun hS _ _ r _ => hS.trans r.1.no) (fun v3 w7 r3 => ?_)))
   obtain ⟨e6, rfl⟩ := r3
   have H9 := H8.to e6
   refine d_call rfl (wn rfl) rfl rfl (pc_call Tryz.func209 rfl Tryz_nm209 rfl) (Tryz_impl_Shape_drives (by assumption)) (fun hS _ _ r _ => hS.trans r.1.no) (fun v4 w8 r4 => ?_)
   obtain ⟨e7, rfl⟩ := r4
   have H10 := H9.to e7
   refine d_end rfl (wn rfl) rfl rfl (py_neq rfl rfl) (d_nil (W_ifd rfl (fun c3 => ?_) (fun c3 => ?_)))
   ·refine W_sr (sA rfl rfl (s_nil (rT hQ Tryz.results144 rfl ?_)))
    exact ⟨H10.ext, congrArg Value.bool (groupsOK_at k (by omega) (groupOK_len (by omega))).symm⟩
   ·refine W_skip (W_sr (sM rfl rfl (sV rfl (py_len tu142 rfl) (sM rfl rfl (s_nil (W_block (W_loopS (γ := Nat) H10 [(3, _), (17, _), (18, _), (19, _), (28, _), (29, _)] ⟨rfl, rfl, rfl, rfl, rfl, rfl, trivial⟩ (fun k2 => [(30, .int .i64 k2)]) (fun k2 => k2 ≤ (z.Groups.getD k []).length ∧ (∀ i, i < k2 → driveOK z.Shape ((z.Groups.getD k []).getD i default) = true)) (fun k2 => (z.Groups.getD k []).length - k2) 0 ⟨rfl, trivial⟩ ⟨by omega, fun i hi => by omega⟩ (fun k2 w9 H11 ⟨hk2, hek2⟩ => ?_))))))))
    dsimp only [lCA, lNA]
    refine W_sr (sV rfl (py_lss rfl rfl) (s_nil (W_seq (W_ifd rfl (fun c4 => ?_) (fun c4 => ?_)))))
    ·refine W_skip (W_seq (W_block (W_seq ?_)))
     obtain ⟨eb2, eo2, es1, ef2, ee2, ec2, eO2, eH2, em1⟩ := elem_st (H11.seen 3 rfl) k2 (by omega)
     obtain ⟨ea2, ek2, eg1, rfl, eq1, eK1, eo3⟩ := own_Drive eO2
     have eP2 := H11.look1 3 rfl eo3 (fun b hb => eH2 b (by rw [eq1]; simp [hb]))
     have eL1 := oL eo3
     refine W_reg (sV rfl (py_elz tu142 ts180 rfl rfl ee2 k2 (by omega) (by omega)) (sV rfl (py_loadS tu180 rfl ts180 rfl rfl ec2) (s_var (wn rfl) rfl Tryz.zeroValue180 eP2 (fun b3 w10 e8 g3 H12 => ?_))))
     refine s_stoS (wn rfl) ts180 rfl rfl rfl rfl H12 2 rfl rfl (fun w11 e9 H13 => ?_)
     dsimp only [lNA, lCA, lSZ, lSS, layL] at H13
     refine s_nil (W_seq (W_drw (S := Ext No _) [(0, true), (1, true), (3, true), (4, true), (2, false), (5, true), (6, true), (7, true), (8, true), (9, false), (10, false)] (by kernel_rfl) (by kernel_rfl) (by kernel_rfl) rfl (fun _ => Ext.refl.drawn _) (fun q3 => ?_)))
     have H14 := H13.drawn q3
     refine dV rfl rfl (fun zw hx => py_field tu180 rfl ts178 rfl rfl) (dV rfl rfl (fun zw hx => py_load tu178 rfl rfl (cell_atL (hx.heap (H14.box 2 rfl)) rfl)) (dV rfl rfl (fun zw hx => py_field tu34 rfl ts2 rfl rfl) (dV rfl rfl (fun zw hx => py_load tu2 rfl rfl (cell_atL (hx.heap (H14.box 1 rfl)) rfl)) (d_call rfl (wn rfl) rfl rfl (pc_call Tryz.func239 rfl Tryz_nm239 rfl) (Tryz_size_Block (H14.sees 4 rfl)) (fun hS _ _ r _ => hS.trans r.1.no) (fun v5 w12 r5 => ?_)))))
     obtain ⟨e10, rfl⟩ := r5
     have H15 := H14.to e10
     refine dV rfl rfl (fun zw hx => py_neq rfl rfl) (dM rfl rfl rfl (d_case (t := 40) rfl (fun hg1 => ?_) (fun hg1 => ?_)))
     ·try simp only [decide_eq_true_eq, decide_eq_false_iff_not] at hg1
      refine dKt rfl rfl rfl rfl (dKt rfl rfl rfl rfl (d_skipA rfl (wog (b := true) rfl rfl rfl) rfl rfl (d_end rfl (wn rfl) rfl rfl (py_pickT rfl rfl) (d_nil (W_ift rfl (W_sr (sA rfl rfl (s_nil (rT hQ Tryz.results144 rfl ?_)))))))))
      exact ⟨H15.ext, congrArg Value.bool (groupsOK_at k (by omega) (groupOK_at k2 (by omega) (driveOK_len (by omega)))).symm⟩
     ·try simp only [decide_eq_true_eq, decide_eq_false_iff_not] at hg1
      refine d_val rfl (wg rfl rfl rfl) rfl rfl (fun zw hx => py_field tu180 rfl ts178 rfl rfl) (d_val rfl (wg rfl rfl rfl) rfl rfl (fun zw hx => py_load tu178 rfl rfl (cell_atL (hx.heap (H14.box 2 rfl)) rfl)) (d_call rfl (wg rfl rfl rfl) rfl rfl (pc_call Tryz.func240 rfl Tryz_nm240 rfl) (Tryz_ContainsFunc_Block (H15.sees 4 rfl) (p := (fun b => !blockOK b)) Tryz.func241 rfl Tryz_nm241 (fun w1 e1 i0 hi0 _ _ K0 o0_1 => Tryz_impl_groupsOK_1 K0 o0_1)) (fun hS _ _ r _ => hS.trans r.1.no) (fun v6 w13 r6 => ?_)))
      obtain ⟨e11, rfl⟩ := r6
      have H16 := H15.to e11
      refine d_end rfl (wn rfl) rfl rfl (py_pickF rfl rfl) (d_nil (W_if rfl (fun c5 => ?_) (fun c5 => ?_)))
      ·refine W_sr (sA rfl rfl (s_nil (rT hQ Tryz.results144 rfl ?_)))
       exact ⟨H16.ext, congrArg Value.bool (groupsOK_at k (by omega) (groupOK_at k2 (by omega) (driveOK_bad c5))).symm⟩
      ·refine W_skip (W_reg (sV rfl (py_add rfl rfl (in64 ⟨by omega, by omega⟩)) (sM rfl rfl (s_nil (⟨k2 + 1, ⟨rfl, rfl, rfl, rfl, rfl, rfl, rfl, trivial⟩, ⟨((H16.ftake 4).dtake 2), by omega, fun i hi => ?_⟩, by dsimp only; omega⟩)))))
       by_cases e : i = k2
       ·subst e
        exact driveOK_yes (by omega) c5
       ·exact hek2 i (by omega)
    ·refine W_exit (W_reg (sV rfl (py_add rfl rfl (in64 ⟨by omega, by omega⟩)) (sM rfl rfl (s_nil (⟨k + 1, ⟨rfl, rfl, rfl, rfl, trivial⟩, ⟨(H11.ftake 3), by omega, fun i hi => ?_⟩, by dsimp only; omega⟩)))))
     by_cases e : i = k
     ·subst e
      exact groupOK_yes (by omega) (fun i hi => hek2 i (by omega))
     ·exact he i (by omega)
  ·refine W_exit (W_sr (sA rfl rfl (s_nil (rT hQ Tryz.results144 rfl ?_))))
   exact ⟨H7.ext, congrArg Value.bool (groupsOK_yes (by omega) (fun i hi => he i (by omega))).symm⟩
theorem Tryz_impl_onOK {w : World} {z : Wld} {zA9 zA10 zA11 : Option Addr} {zC9 zC10 zC11 : Nat} (zK : z.Ok) (zS9 : Sees w [.slice zA9 z.Groups.length zC9] z.Groups) (zS10 : Sees w [.slice zA10 z.On.length zC10] z.On) (zS11 : Sees w [.slice zA11 z.Tapes.length zC11] z.Tapes) (hs : z.Shape.ok = true) : Ret Tryz.prog 145 #[z.val zA9 zC9 zA10 zC10 zA11 zC11] w fun v w' => Ext No w w' ∧ (v = .bool (onOK z)) := by
 have zK2 := zK
 unfold Wld.Ok Shape.Ok at zK2
 try unfold I64ok at zK2
 try unfold maxLen at zK2
 have zL9 := sL zS9
 obtain ⟨zF9, zO9⟩ := zS9
 have zL10 := sL zS10
 obtain ⟨zF10, zO10⟩ := zS10
 have zL11 := sL zS11
 obtain ⟨zF11, zO11⟩ := zS11
 have sbd := shape_bd hs
 refine ret_Q (vs := [z.val zA9 zC9 zA10 zC10 zA11 zC11]) Tryz.func145 rfl Tryz.ntmps145 rfl (fun Q hQ hN => ?_)
 have H0 := Sep.start (w := w) (F := [seen false [.slice zA9 z.Groups.length zC9] z.Groups zF9, seen false [.slice zA10 z.On.length zC10] z.On zF10, seen false [.slice zA11 z.Tapes.length zC11] z.Tapes zF11]) (all_cons zO9 (all_cons zO10 (all_cons zO11 (by simp))))
 refine W_sr (s_box (wn rfl) rfl rfl H0 (fun b1 w1 e1 g1 H1 => ?_))
 refine sA rfl rfl (s_nil (W_seq (W_sr (sV rfl (py_field tu38 rfl ts25 rfl rfl) (sV rfl (py_load tu25 rfl rfl (cell_atL (H1.box 0 rfl) rfl)) (sV rfl (py_len tu25 rfl) (sM rfl rfl (s_nil (W_block (W_loopS (γ := Nat) H1 [(1, _), (6, _), (7, _)] ⟨rfl, rfl, rfl, trivial⟩ (fun k => [(8, .int .i64 k)]) (fun k => k ≤ z.On.length ∧ (∀ i, i < k → apartAt z.On (z.Shape.Groups + z.Shape.Column - 1) i = true)) (fun k => z.On.length - k) 0 ⟨rfl, trivial⟩ ⟨by omega, fun i hi => by omega⟩ (fun k w2 H2 ⟨hk, he⟩ => ?_)))))))))))
 dsimp only [lCA, lNA]
 refine W_sr (sV rfl (py_lss rfl rfl) (s_nil (W_seq (W_ifd rfl (fun c1 => ?_) (fun c1 => ?_)))))
 ·refine W_skip (W_seq (W_block (W_seq ?_)))
  obtain ⟨eb1, eo1, ee1, ec1⟩ := elem_int (H2.seen 1 rfl) k (by omega)
  have eI1 := elem_i64 (H2.seen 1 rfl) k (by omega)
  refine W_reg (sM rfl rfl (sV rfl (py_elz tu25 ts2 rfl rfl ee1 k (by omega) (by omega)) (sV rfl (py_load tu2 rfl rfl ec1) (sA rfl rfl (sA rfl rfl (s_nil (W_sr (sV rfl (py_field tu38 rfl ts34 rfl rfl) (sV rfl (py_loadS tu34 rfl ts34 rfl rfl (At.sub (H2.box 0 rfl) 9)) (sM rfl rfl (s_call (wn rfl) rfl rfl (pc_call Tryz.func71 rfl Tryz_nm71 rfl) (Tryz_impl_Shape_isGroup (by assumption)) (fun v1 w3 r1 => ?_))))))))))))
  obtain ⟨e2, rfl⟩ := r1
  have H3 := H2.to e2
  refine sV rfl (py_not rfl) (sM rfl rfl (s_case (t := 18) rfl (fun hg1 => ?_) (fun hg1 => ?_)))
  ·try simp only [decide_eq_true_eq, decide_eq_false_iff_not] at hg1
   refine sKt rfl rfl rfl (sKt rfl rfl rfl (sKt rfl rfl rfl (sKt rfl rfl rfl (sKt rfl rfl rfl (sKt rfl rfl rfl (sV rfl (py_pickT rfl rfl) (s_nil (W_ift rfl (W_sr (sA rfl rfl (s_nil (rT hQ Tryz.results145 rfl ?_))))))))))))
   exact ⟨H3.ext, congrArg Value.bool (onOK_apart (all_no k (by omega) (by simp only [apartAt, cut_take] at *; simp_all))).symm⟩
  ·try simp only [decide_eq_true_eq, decide_eq_false_iff_not] at hg1
   refine s_val (wg rfl rfl rfl) rfl rfl (py_field tu38 rfl ts25 rfl rfl) (s_val (wg rfl rfl rfl) rfl rfl (py_load tu25 rfl rfl (cell_atL (H3.box 0 rfl) rfl)) (s_val (wg rfl rfl rfl) rfl rfl (py_move rfl) ?_))
   have sc1 := own_le_cap (H3.seen 1 rfl)
   obtain ⟨sf1, so1, ss1⟩ := own_cutL (H3.seen 1 rfl) (0) (k) _ (by omega) (by omega) (by omega) (Nat.le_refl _)
   have H4 := H3.look1 1 rfl so1 ss1
   have sl1 := cut_len (xs := z.On) (l := 0) (h := k) (by omega)
   refine s_val (wg rfl rfl rfl) rfl rfl (py_slcHN tu25 ts2 rfl rfl (k) (by omega) (by omega) sl1) ((s_val (wg rfl rfl rfl) rfl rfl (py_move rfl) (s_call (wg rfl rfl rfl) rfl rfl (pc_call Tryz.func243 rfl Tryz_nm243 rfl) (Tryz_slices_Contains_int64_int64 (H4.sees 3 rfl)) (fun v2 w4 r2 => ?_))))
   obtain ⟨e3, rfl⟩ := r2
   have H5 := H4.to e3
   refine sV rfl (py_pickF rfl rfl) (s_nil (W_if rfl (fun c2 => ?_) (fun c2 => ?_)))
   ·refine W_sr (sA rfl rfl (s_nil (rT hQ Tryz.results145 rfl ?_)))
    exact ⟨H5.ext, congrArg Value.bool (onOK_apart (all_no k (by omega) (by simp only [apartAt, cut_take] at *; simp_all))).symm⟩
   ·refine W_skip (W_reg (sV rfl (py_add rfl rfl (in64 ⟨by omega, by omega⟩)) (sM rfl rfl (s_nil (⟨k + 1, ⟨rfl, rfl, rfl, rfl, trivial⟩, ⟨(H5.ftake 3), by omega, fun i hi => ?_⟩, by dsimp only; omega⟩)))))
    by_cases e : i = k
    ·subst e
     simp only [apartAt, cut_take] at *; simp_all
    ·exact he i (by omega)
 ·refine W_exit (W_seq (W_drw (S := Ext No _) [(0, true), (1, true), (3, true), (4, true), (5, true), (2, false), (6, true), (7, true), (8, true), (9, true), (10, true), (11, true), (12, true), (13, true), (14, true), (15, true), (16, true), (17, true), (18, false)] (by kernel_rfl) (by kernel_rfl) (by kernel_rfl) rfl (fun _ => Ext.refl.drawn _) (fun q1 => ?_)))
  have H6 := H2.drawn q1
  refine dV rfl rfl (fun zw hx => py_field tu38 rfl ts25 rfl rfl) (dV rfl rfl (fun zw hx => py_load tu25 rfl rfl (cell_atL (hx.heap (H6.box 0 rfl)) rfl)) (dV rfl rfl (fun zw hx => py_field tu38 rfl ts34 rfl rfl) (dV rfl rfl (fun zw hx => py_field tu34 rfl ts2 rfl rfl) (dV rfl rfl (fun zw hx => py_load tu2 rfl rfl (cell_atL (hx.heap (H6.box 0 rfl)) rfl)) (d_call rfl (wn rfl) rfl rfl (pc_call Tryz.func173 rfl Tryz_nm173 rfl) (Tryz_size_int64 (H6.sees 1 rfl)) (fun hS _ _ r _ => hS.trans r.1.no) (fun v3 w5 r3 => ?_))))))
  obtain ⟨e4, rfl⟩ := r3
  have H7 := H6.to e4
  refine dV rfl rfl (fun zw hx => py_leq rfl rfl) (dM rfl rfl rfl (d_case (t := 34) rfl (fun hg2 => ?_) (fun hg2 => ?_)))
  ·try simp only [decide_eq_true_eq, decide_eq_false_iff_not] at hg2
   refine d_val rfl (wg rfl rfl rfl) rfl rfl (fun zw hx => py_field tu38 rfl ts25 rfl rfl) (d_val rfl (wg rfl rfl rfl) rfl rfl (fun zw hx => py_load tu25 rfl rfl (cell_atL (hx.heap (H6.box 0 rfl)) rfl)) (d_val rfl (wg rfl rfl rfl) rfl rfl (fun zw hx => py_len tu25 rfl) (d_val rfl (wg rfl rfl rfl) rfl rfl (fun zw hx => py_eql rfl rfl) (d_val rfl (wg rfl rfl rfl) rfl rfl (fun zw hx => py_move rfl) (d_case (t := 39) rfl (fun hg3 => ?_) (fun hg3 => ?_))))))
   ·try simp only [decide_eq_true_eq, decide_eq_false_iff_not] at hg3
    refine dKt rfl rfl rfl rfl (dKt rfl rfl rfl rfl (dKt rfl rfl rfl rfl (d_val rfl (wg rfl rfl rfl) rfl rfl (fun zw hx => py_pickT rfl rfl) (dV rfl rfl (fun zw hx => py_pickT rfl rfl) (d_end rfl (wn rfl) rfl rfl (py_assign rfl) (d_nil (rT hQ Tryz.results145 rfl ?_)))))))
    exact ⟨H7.ext, congrArg Value.bool (onOK_rest (all_yes fun i hi => he i (by omega)) (by simp_all)).symm⟩
   ·try simp only [decide_eq_true_eq, decide_eq_false_iff_not] at hg3
    refine d_val rfl (wg rfl rfl rfl) rfl rfl (fun zw hx => py_field tu38 rfl ts4 rfl rfl) (d_val rfl (wg rfl rfl rfl) rfl rfl (fun zw hx => py_load tu4 rfl rfl (cell_atL (hx.heap (H6.box 0 rfl)) rfl)) (d_val rfl (wg rfl rfl rfl) rfl rfl (fun zw hx => py_not rfl) (d_val rfl (wg rfl rfl rfl) rfl rfl (fun zw hx => py_pickF rfl rfl) (dV rfl rfl (fun zw hx => py_pickT rfl rfl) (d_end rfl (wn rfl) rfl rfl (py_assign rfl) (d_nil (rT hQ Tryz.results145 rfl ?_)))))))
    exact ⟨H7.ext, congrArg Value.bool (onOK_rest (all_yes fun i hi => he i (by omega)) (by simp_all)).symm⟩
  ·try simp only [decide_eq_true_eq, decide_eq_false_iff_not] at hg2
   refine dKf rfl rfl rfl rfl (dKf rfl rfl rfl rfl (dKf rfl rfl rfl rfl (dKf rfl rfl rfl rfl (dKf rfl rfl rfl rfl (d_skip rfl (wou rfl rfl rfl) rfl rfl (d_skip rfl (wou rfl rfl rfl) rfl rfl (d_skip rfl (wou rfl rfl rfl) rfl rfl (dKf rfl rfl rfl rfl (dV rfl rfl (fun zw hx => py_pickF rfl rfl) (d_end rfl (wn rfl) rfl rfl (py_assign rfl) (d_nil (rT hQ Tryz.results145 rfl ?_))))))))))))
   exact ⟨H7.ext, congrArg Value.bool (onOK_rest (all_yes fun i hi => he i (by omega)) (by rw [decide_eq_false (by omega)]; rfl)).symm⟩
theorem Tryz_impl_tapesFault_1 {w : World} {t : Tape} {tA1 : Option Addr} {tC1 : Nat} (tK : t.Ok) (tS1 : Sees w [.slice tA1 t.Recs.length tC1] t.Recs) : Ret Tryz.prog 245 #[t.val tA1 tC1] w fun v w' => Ext No w w' ∧ (v = .bool (manyRecs t)) := by
 have tK2 := tK
 unfold Tape.Ok at tK2
 try unfold I64ok at tK2
 try unfold maxLen at tK2
 have tL1 := sL tS1
 obtain ⟨tF1, tO1⟩ := tS1
 refine ret_Q (vs := [t.val tA1 tC1]) Tryz.func245 rfl Tryz.ntmps245 rfl (fun Q hQ hN => ?_)
 have H0 := Sep.start (w := w) (F := [seen false [.slice tA1 t.Recs.length tC1] t.Recs tF1]) (all_cons tO1 (by simp))
 refine W_sr (s_box (wn rfl) rfl rfl H0 (fun b1 w1 e1 g1 H1 => ?_))
 refine sA rfl rfl (s_nil (W_sr (sV rfl (py_field tu139 rfl ts30 rfl rfl) (sV rfl (py_load tu30 rfl rfl (cell_atL (H1.box 0 rfl) rfl)) (sV rfl (py_len tu30 rfl) (sV rfl (py_gtr rfl rfl) (sA rfl rfl (s_nil (rT hQ Tryz.results245 rfl ?_)))))))))
 exact ⟨H1.ext, rfl⟩
theorem Tryz_impl_tapesFault_2 {w : World} {t : Tape} {tA1 : Option Addr} {tC1 : Nat} (tK : t.Ok) (tS1 : Sees w [.slice tA1 t.Recs.length tC1] t.Recs) : Ret Tryz.prog 246 #[t.val tA1 tC1] w fun v w' => Ext No w w' ∧ (v = .bool (wipedFull t)) := by
 have tK2 := tK
 unfold Tape.Ok at tK2
 try unfold I64ok at tK2
 try unfold maxLen at tK2
 have tL1 := sL tS1
 obtain ⟨tF1, tO1⟩ := tS1
 refine ret_Q (vs := [t.val tA1 tC1]) Tryz.func246 rfl Tryz.ntmps246 rfl (fun Q hQ hN => ?_)
 have H0 := Sep.start (w := w) (F := [seen false [.slice tA1 t.Recs.length tC1] t.Recs tF1]) (all_cons tO1 (by simp))
 refine W_sr (s_box (wn rfl) rfl rfl H0 (fun b1 w1 e1 g1 H1 => ?_))
 refine sA rfl rfl (s_nil (W_sr (sV rfl (py_field tu139 rfl ts4 rfl rfl) (sV rfl (py_load tu4 rfl rfl (cell_atL (H1.box 0 rfl) rfl)) (sM rfl rfl (s_grp 4 (j := 2) (want := true) (t := 9) rfl rfl rfl rfl (fun hg1 kk1 => s_val (wgE rfl rfl rfl hg1) rfl rfl (py_field tu139 rfl ts30 rfl rfl) (s_val (wgE rfl rfl rfl hg1) rfl rfl (py_load tu30 rfl rfl (cell_atL (H1.box 0 rfl) rfl)) (s_val (wgE rfl rfl rfl hg1) rfl rfl (py_len tu30 rfl) (s_val (wgE rfl rfl rfl hg1) rfl rfl (py_gtr rfl rfl) (kk1 _ _ (kx rfl (kx rfl (kx rfl (kx rfl k0)))) rfl Ext.refl))))) (fun w2 e2 => ?_)))))))
 have H2 := H1.to e2
 refine sV rfl (py_band rfl rfl) (sA rfl rfl (s_nil (rT hQ Tryz.results246 rfl ?_)))
 exact ⟨H2.ext, congrArg Value.bool (by simp [wipedFull])⟩
set_option maxHeartbeats 1000000 in
theorem Tryz_impl_tapesFault {w : World} {z : Wld} {zA9 zA10 zA11 : Option Addr} {zC9 zC10 zC11 : Nat} (zK : z.Ok) (zS9 : Sees w [.slice zA9 z.Groups.length zC9] z.Groups) (zS10 : Sees w [.slice zA10 z.On.length zC10] z.On) (zS11 : Sees w [.slice zA11 z.Tapes.length zC11] z.Tapes) (hs : z.Shape.ok = true) : Ret Tryz.prog 146 #[z.val zA9 zC9 zA10 zC10 zA11 zC11] w fun v w' => Ext No w w' ∧ (v = .int .i64 (tapesF z)) := by
 have zK2 := zK
 unfold Wld.Ok Shape.Ok at zK2
 try unfold I64ok at zK2
 try unfold maxLen at zK2
 have zL9 := sL zS9
 obtain ⟨zF9, zO9⟩ := zS9
 have zL10 := sL zS10
 obtain ⟨zF10, zO10⟩ := zS10
 have zL11 := sL zS11
 obtain ⟨zF11, zO11⟩ := zS11
 have sbd := shape_bd hs
 refine ret_Q (vs := [z.val zA9 zC9 zA10 zC10 zA11 zC11]) Tryz.func146 rfl Tryz.ntmps146 rfl (fun Q hQ hN => ?_)
 have H0 := Sep.start (w := w) (F := [seen false [.slice zA9 z.Groups.length zC9] z.Groups zF9, seen false [.slice zA10 z.On.length zC10] z.On zF10, seen false [.slice zA11 z.Tapes.length zC11] z.Tapes zF11]) (all_cons zO9 (all_cons zO10 (all_cons zO11 (by simp))))
 refine W_sr (s_box (wn rfl) rfl rfl H0 (fun b1 w1 e1 g1 H1 => ?_))
 refine sA rfl rfl (s_nil (W_seq (W_sr (sV rfl (py_field tu38 rfl ts36 rfl rfl) (sV rfl (py_load tu36 rfl rfl (cell_atL (H1.box 0 rfl) rfl)) (s_call (wn rfl) rfl rfl (pc_call Tryz.func244 rfl Tryz_nm244 rfl) (Tryz_ContainsFunc_Tape (H1.sees 2 rfl) (p := manyRecs) Tryz.func245 rfl Tryz_nm245 (fun w1 e1 i0 hi0 _ _ K0 o0_1 => Tryz_impl_tapesFault_1 K0 o0_1)) (fun v1 w2 r1 => ?_)))))))
 obtain ⟨e2, rfl⟩ := r1
 have H2 := H1.to e2
 refine s_nil (W_if rfl (fun c1 => ?_) (fun c1 => ?_))
 ·refine W_sr (sA rfl rfl (s_nil (rT hQ Tryz.results146 rfl ?_)))
  exact ⟨H2.ext, congrArg (Value.int .i64) (tapesF_many c1).symm⟩
 ·refine W_skip (W_seq (W_seq ?_))
  have cM := c1
  refine W_reg (sV rfl (py_field tu38 rfl ts36 rfl rfl) (sV rfl (py_load tu36 rfl rfl (cell_atL (H2.box 0 rfl) rfl)) (sV rfl (py_len tu36 rfl) (sM rfl rfl (s_nil (W_block (W_loopS (γ := Nat) H2 [(1, _), (12, _), (13, _)] ⟨rfl, rfl, rfl, trivial⟩ (fun k => [(14, .int .i64 k)]) (fun k => k ≤ z.Tapes.length ∧ tapeF z.Shape z.Tapes k = 0) (fun k => z.Tapes.length - k) 0 ⟨rfl, trivial⟩ ⟨by omega, rfl⟩ (fun k w3 H3 ⟨hk, hkz⟩ => ?_))))))))
  dsimp only [lCA, lNA]
  refine W_sr (sV rfl (py_lss rfl rfl) (s_nil (W_seq (W_ifd rfl (fun c2 => ?_) (fun c2 => ?_)))))
  ·refine W_skip (W_seq (W_block (W_seq ?_)))
   obtain ⟨eb1, eo1, es1, ef1, ee1, ec1, eO1, eH1, em1⟩ := elem_st (H3.seen 2 rfl) k (by omega)
   obtain ⟨ea1, ek1, eg1, rfl, eq1, eK1, eo2⟩ := own_Tape eO1
   have eP1 := H3.look1 2 rfl eo2 (fun b hb => eH1 b (by rw [eq1]; simp [hb]))
   have eL1 := oL eo2
   refine W_reg (sV rfl (py_elz tu36 ts139 rfl rfl ee1 k (by omega) (by omega)) (sV rfl (py_loadS tu139 rfl ts139 rfl rfl ec1) (s_var (wn rfl) rfl Tryz.zeroValue139 eP1 (fun b2 w4 e3 g2 H4 => ?_))))
   refine s_stoS (wn rfl) ts139 rfl rfl rfl rfl H4 1 rfl rfl (fun w5 e4 H5 => ?_)
   dsimp only [lNA, lCA, lSZ, lSS, layL] at H5
   refine s_nil (W_sr (sV rfl (py_field tu139 rfl ts30 rfl rfl) (sV rfl (py_load tu30 rfl rfl (cell_atL (H5.box 1 rfl) rfl)) (sV rfl (py_len tu30 rfl) (sM rfl rfl (s_nil (W_block (W_loopS (γ := Nat) H5 [(1, _), (12, _), (13, _), (14, _), (19, _), (20, _)] ⟨rfl, rfl, rfl, rfl, rfl, rfl, trivial⟩ (fun k2 => [(21, .int .i64 k2)]) (fun k2 => k2 ≤ (z.Tapes.getD k default).Recs.length ∧ recsF z.Shape (z.Tapes.getD k default).Recs k2 = 0) (fun k2 => (z.Tapes.getD k default).Recs.length - k2) 0 ⟨rfl, trivial⟩ ⟨by omega, rfl⟩ (fun k2 w6 H6 ⟨hk2, hk2z⟩ => ?_)))))))))
   dsimp only [lCA, lNA]
   refine W_sr (sV rfl (py_lss rfl rfl) (s_nil (W_seq (W_ifd rfl (fun c3 => ?_) (fun c3 => ?_)))))
   ·refine W_skip (W_seq (W_block (W_seq ?_)))
    obtain ⟨eb2, eo3, es2, ef2, ee2, ec2, eO2, eH2, em2⟩ := elem_st (H6.seen 3 rfl) k2 (by omega)
    obtain ⟨ea2, ek2, ea3, ek3, ea4, ek4, eg2, eg3, eg4, rfl, eq2, eK2, eo4, eo5, eo6⟩ := own_Rec eO2
    have eK2U := eK2
    unfold Rec.Ok at eK2U
    try unfold I64ok at eK2U
    try unfold maxLen at eK2U
    have eP2 := H6.look1 3 rfl eo4 (fun b hb => eH2 b (by rw [eq2]; simp [hb]))
    have eL2 := oL eo4
    have eP3 := eP2.look1 3 rfl eo5 (fun b hb => eH2 b (by rw [eq2]; simp [hb]))
    have eL3 := oL eo5
    have eP4 := eP3.look1 3 rfl eo6 (fun b hb => eH2 b (by rw [eq2]; simp [hb]))
    have eL4 := oL eo6
    refine W_reg (sV rfl (py_elz tu30 ts68 rfl rfl ee2 k2 (by omega) (by omega)) (sV rfl (py_loadS tu68 rfl ts68 rfl rfl ec2) (s_var (wn rfl) rfl Tryz.zeroValue68 eP4 (fun b3 w7 e5 g3 H7 => ?_))))
    refine s_stoS (wn rfl) ts68 rfl rfl rfl rfl H7 2 rfl rfl (fun w8 e6 H8 => ?_)
    dsimp only [lNA, lCA, lSZ, lSS, layL] at H8
    refine s_nil (W_sr (sV rfl (py_field tu38 rfl ts34 rfl rfl) (sV rfl (py_loadS tu34 rfl ts34 rfl rfl (At.sub (H8.box 0 rfl) 9)) (sV rfl (py_loadS tu68 rfl ts68 rfl rfl (At.whole (H8.box 2 rfl))) (s_call (wn rfl) rfl rfl (pc_call Tryz.func119 rfl Tryz_nm119 rfl) (Tryz_impl_recFault (by assumption) (H8.sees 4 rfl) (H8.sees 5 rfl) (H8.sees 6 rfl) (by assumption)) (fun v2 w9 r2 => ?_))))))
    obtain ⟨e7, rfl⟩ := r2
    have H9 := H8.to e7
    refine sA rfl rfl (s_nil (W_sr (sM rfl rfl (sV rfl (py_neq rfl rfl) (s_nil (W_ifd rfl (fun c4 => ?_) (fun c4 => ?_)))))))
    ·refine W_sr (sM rfl rfl (sA rfl rfl (s_nil (rT hQ Tryz.results146 rfl ?_))))
     exact ⟨H9.ext, congrArg (Value.int .i64) ((tapesF_rec cM (k := k) (k2 := k2) (by omega) hkz (by omega) hk2z (by omega))).symm⟩
    ·refine W_skip (W_reg (sV rfl (py_add rfl rfl (in64 ⟨by omega, by omega⟩)) (sM rfl rfl (s_nil (⟨k2 + 1, ⟨rfl, rfl, rfl, rfl, rfl, rfl, rfl, trivial⟩, ⟨((H9.ftake 4).dtake 2), by omega, (recsF_next hk2z).trans (by omega)⟩, by dsimp only; omega⟩)))))
   ·refine W_exit (W_reg (sV rfl (py_add rfl rfl (in64 ⟨by omega, by omega⟩)) (sM rfl rfl (s_nil ?_))))
    obtain rfl : k2 = (z.Tapes.getD k default).Recs.length := by omega
    refine ⟨k + 1, ⟨rfl, rfl, rfl, rfl, trivial⟩, ⟨((H6.ftake 3).dtake 1), by omega, (tapeF_next hkz).trans hk2z⟩, by dsimp only; omega⟩
  ·refine W_exit (W_seq (W_seq ?_))
   obtain rfl : k = z.Tapes.length := by omega
   have hAll := hkz
   refine W_reg (sV rfl (py_field tu38 rfl ts36 rfl rfl) (sV rfl (py_load tu36 rfl rfl (cell_atL (H3.box 0 rfl) rfl)) (s_call (wn rfl) rfl rfl (pc_call Tryz.func244 rfl Tryz_nm244 rfl) (Tryz_ContainsFunc_Tape (H3.sees 2 rfl) (p := wipedFull) Tryz.func246 rfl Tryz_nm246 (fun w1 e1 i0 hi0 _ _ K0 o0_1 => Tryz_impl_tapesFault_2 K0 o0_1)) (fun v3 w10 r3 => ?_))))
   obtain ⟨e8, rfl⟩ := r3
   have H10 := H3.to e8
   refine s_nil (W_if rfl (fun c5 => ?_) (fun c5 => ?_))
   ·refine W_sr (sA rfl rfl (s_nil (rT hQ Tryz.results146 rfl ?_)))
    exact ⟨H10.ext, congrArg (Value.int .i64) (tapesF_full cM hAll c5).symm⟩
   ·refine W_skip (W_sr (sA rfl rfl (s_nil (rT hQ Tryz.results146 rfl ?_))))
    exact ⟨H10.ext, congrArg (Value.int .i64) (tapesF_ok cM hAll c5).symm⟩
end Go.Wk
namespace Go.Wk
open Go.Proofs Rp
set_option maxRecDepth 10000
set_option maxHeartbeats 1000000 in
theorem Tryz_spec_l5Built {w : World} {z : Wld} {zA9 zA10 zA11 : Option Addr} {zC9 zC10 zC11 : Nat} (zK : z.Ok) (zS9 : Sees w [.slice zA9 z.Groups.length zC9] z.Groups) (zS10 : Sees w [.slice zA10 z.On.length zC10] z.On) (zS11 : Sees w [.slice zA11 z.Tapes.length zC11] z.Tapes) (hs : z.Shape.ok = true) : Ret Tryz.prog 160 #[z.val zA9 zC9 zA10 zC10 zA11 zC11] w fun v w' => Ext No w w' ∧ (v = .bool (groupsOK z)) := by
 have zK2 := zK
 unfold Wld.Ok Shape.Ok at zK2
 try unfold I64ok at zK2
 try unfold maxLen at zK2
 have zL9 := sL zS9
 obtain ⟨zF9, zO9⟩ := zS9
 have zL10 := sL zS10
 obtain ⟨zF10, zO10⟩ := zS10
 have zL11 := sL zS11
 obtain ⟨zF11, zO11⟩ := zS11
 have sbd := shape_bd hs
 refine ret_Q (vs := [z.val zA9 zC9 zA10 zC10 zA11 zC11]) Tryz.func160 rfl Tryz.ntmps160 rfl (fun Q hQ hN => ?_)
 have H0 := Sep.start (w := w) (F := [seen false [.slice zA9 z.Groups.length zC9] z.Groups zF9, seen false [.slice zA10 z.On.length zC10] z.On zF10, seen false [.slice zA11 z.Tapes.length zC11] z.Tapes zF11]) (all_cons zO9 (all_cons zO10 (all_cons zO11 (by simp))))
 refine W_sr (s_box (wn rfl) rfl rfl H0 (fun b1 w1 e1 g1 H1 => ?_))
 refine sA rfl rfl (s_nil (W_sr (sV rfl (py_field tu38 rfl ts34 rfl rfl) (sV rfl (py_loadS tu34 rfl ts34 rfl rfl (At.sub (H1.box 0 rfl) 9)) (s_var (wn rfl) rfl Tryz.zeroValue34 H1 (fun b2 w2 e2 g2 H2 => ?_))))))
 refine s_stoS (wn rfl) ts34 rfl rfl rfl rfl H2 1 rfl rfl (fun w3 e3 H3 => ?_)
 dsimp only [lNA, lCA, lSZ, lSS, layL] at H3
 refine s_nil (W_seq (W_seq (W_drw (S := Ext No _) [(0, true), (1, true), (2, true), (3, true), (4, false), (5, false)] (by kernel_rfl) (by kernel_rfl) (by kernel_rfl) rfl (fun _ => Ext.refl.drawn _) (fun q1 => ?_))))
 have H4 := H3.drawn q1
 refine dV rfl rfl (fun zw hx => py_field tu38 rfl ts35 rfl rfl) (dV rfl rfl (fun zw hx => py_load tu35 rfl rfl (cell_atL (hx.heap (H4.box 0 rfl)) rfl)) (dV rfl rfl (fun zw hx => py_len tu35 rfl) (dV rfl rfl (fun zw hx => py_loadS tu34 rfl ts34 rfl rfl (At.whole (hx.heap (H4.box 1 rfl)))) (d_call rfl (wn rfl) rfl rfl (pc_call Tryz.func162 rfl Tryz_nm162 rfl) (Tryz_spec_l5All (by assumption)) (fun hS _ _ r _ => hS.trans r.1.no) (fun v1 w4 r1 => ?_)))))
 obtain ⟨e4, rfl⟩ := r1
 have H5 := H4.to e4
 refine d_end rfl (wn rfl) rfl rfl (py_neq rfl rfl) (d_nil (W_ifd rfl (fun c1 => ?_) (fun c1 => ?_)))
 ·refine W_sr (sA rfl rfl (s_nil (rT hQ Tryz.results160 rfl ?_)))
  exact ⟨H5.ext, congrArg Value.bool (groupsOK_len (by omega)).symm⟩
 ·refine W_skip (W_seq (W_sr (sA rfl rfl (s_nil (W_block (W_loopS (γ := Nat) H5 [(1, _), (3, _)] ⟨rfl, rfl, trivial⟩ (fun k => [(4, .int .i64 k)]) (fun k => k ≤ z.Groups.length ∧ (∀ i, i < k → groupOK z.Shape (z.Groups.getD i []) = true)) (fun k => z.Groups.length - k) 0 ⟨rfl, trivial⟩ ⟨by omega, fun i hi => by omega⟩ (fun k w5 H6 ⟨hk, he⟩ => ?_)))))))
  dsimp only [lCA, lNA]
  refine W_seq (W_sr (sM rfl rfl (sV rfl (py_field tu38 rfl ts35 rfl rfl) (sV rfl (py_load tu35 rfl rfl (cell_atL (H6.box 0 rfl) rfl)) (sV rfl (py_len tu35 rfl) (sV rfl (py_lss rfl rfl) (s_nil (W_ifd rfl (fun c2 => ?_) (fun c2 => ?_)))))))))
  ·refine W_skip (W_seq (W_block (W_seq (W_seq ?_))))
   obtain ⟨eb1, eo1, ea1, ek1, ef1, ee1, ec1, eO1, eH1⟩ := elem_sl (H6.seen 0 rfl) k (by omega)
   have eP1 := H6.look1 0 rfl eO1 eH1
   refine W_drw (S := Ext No _) [(0, true), (1, true), (2, true), (3, true), (4, true), (5, true), (6, true), (7, false), (8, false)] (by kernel_rfl) (by kernel_rfl) (by kernel_rfl) rfl (fun _ => Ext.refl.drawn _) (fun q2 => ?_)
   have H7 := eP1.drawn q2
   refine dV rfl rfl (fun zw hx => py_field tu38 rfl ts35 rfl rfl) (dV rfl rfl (fun zw hx => py_load tu35 rfl rfl (cell_atL (hx.heap (H7.box 0 rfl)) rfl)) (dM rfl rfl rfl (dV rfl rfl (fun zw hx => py_elz tu35 ts142 rfl rfl ee1 k (by omega) (by omega)) (dV rfl rfl (fun zw hx => py_load tu142 rfl rfl (hx.cell ec1)) (dV rfl rfl (fun zw hx => py_len tu142 rfl) (dV rfl rfl (fun zw hx => py_loadS tu34 rfl ts34 rfl rfl (At.whole (hx.heap (H7.box 1 rfl)))) (d_call rfl (wn rfl) rfl rfl (pc_call Tryz.func232 rfl Tryz_nm232 rfl) (Tryz_spec_l5Drives (by assumption)) (fun hS _ _ r _ => hS.trans r.1.no) (fun v2 w6 r2 => ?_))))))))
   obtain ⟨e5, rfl⟩ := r2
   have H8 := H7.to e5
   refine d_end rfl (wn rfl) rfl rfl (py_neq rfl rfl) (d_nil (W_ifd rfl (fun c3 => ?_) (fun c3 => ?_)))
   ·refine W_sr (sA rfl rfl (s_nil (rT hQ Tryz.results160 rfl ?_)))
    exact ⟨H8.ext, congrArg Value.bool (groupsOK_at k (by omega) (groupOK_len (by omega))).symm⟩
   ·refine W_skip (W_sr (sA rfl rfl (s_nil (W_block (W_loopS (γ := Nat) H8 [(1, _), (3, _), (4, _)] ⟨rfl, rfl, rfl, trivial⟩ (fun k2 => [(5, .int .i64 k2)]) (fun k2 => k2 ≤ (z.Groups.getD k []).length ∧ (∀ i, i < k2 → driveOK z.Shape ((z.Groups.getD k []).getD i default) = true)) (fun k2 => (z.Groups.getD k []).length - k2) 0 ⟨rfl, trivial⟩ ⟨by omega, fun i hi => by omega⟩ (fun k2 w7 H9 ⟨hk2, hek2⟩ => ?_))))))
    dsimp only [lCA, lNA]
    refine W_seq (W_seq ?_)
    obtain ⟨eb2, eo2, ea2, ek2, ef2, ee2, ec2, eO2, eH2⟩ := elem_sl (H9.seen 0 rfl) k (by omega)
    have eP2 := H9.look1 0 rfl eO2 eH2
    refine W_reg (sM rfl rfl (sV rfl (py_field tu38 rfl ts35 rfl rfl) (sV rfl (py_load tu35 rfl rfl (cell_atL (eP2.box 0 rfl) rfl)) (sM rfl rfl (sV rfl (py_elz tu35 ts142 rfl rfl ee2 k (by omega) (by omega)) (sV rfl (py_load tu142 rfl rfl ec2) (sV rfl (py_len tu142 rfl) (sV rfl (py_lss rfl rfl) (s_nil (W_ifd rfl (fun c4 => ?_) (fun c4 => ?_)))))))))))
    ·refine W_skip (W_seq (W_block (W_seq ?_)))
     obtain ⟨eb3, eo3, ea3, ek3, ef3, ee3, ec3, eO3, eH3⟩ := elem_sl (eP2.seen 0 rfl) k (by omega)
     have eP3 := eP2.look1 0 rfl eO3 eH3
     obtain ⟨eb4, eo4, es1, ef4, ee4, ec4, eO4, eH4, em1⟩ := elem_st (eP3.seen 5 rfl) k2 (by omega)
     obtain ⟨ea4, ek4, eg1, rfl, eq1, eK1, eo5⟩ := own_Drive eO4
     have eP4 := eP3.look1 5 rfl eo5 (fun b hb => eH4 b (by rw [eq1]; simp [hb]))
     have eL1 := oL eo5
     refine W_reg (sV rfl (py_field tu38 rfl ts35 rfl rfl) (sV rfl (py_load tu35 rfl rfl (cell_atL (eP4.box 0 rfl) rfl)) (sM rfl rfl (sV rfl (py_elz tu35 ts142 rfl rfl ee3 k (by omega) (by omega)) (sV rfl (py_load tu142 rfl rfl ec3) (sM rfl rfl (sV rfl (py_elz tu142 ts180 rfl rfl ee4 k2 (by omega) (by omega)) (sV rfl (py_field tu180 rfl ts178 rfl rfl) (sV rfl (py_load tu178 rfl rfl (at_cell ec4 1 rfl)) (sA rfl rfl (s_nil (W_seq (W_sr (sM rfl rfl (sV rfl (py_len tu178 rfl) (sV rfl (py_field tu34 rfl ts2 rfl rfl) (sV rfl (py_load tu2 rfl rfl (cell_atL (eP4.box 1 rfl) rfl)) (sV rfl (py_neq rfl rfl) (s_nil (W_ifd rfl (fun c5 => ?_) (fun c5 => ?_)))))))))))))))))))))
     ·refine W_sr (sA rfl rfl (s_nil (rT hQ Tryz.results160 rfl ?_)))
      exact ⟨eP4.ext, congrArg Value.bool (groupsOK_at k (by omega) (groupOK_at k2 (by omega) (driveOK_len (by omega)))).symm⟩
     ·refine W_skip (W_sr (sA rfl rfl (s_nil (W_block (W_loopS (γ := Nat) eP4 [(1, _), (3, _), (4, _), (5, _), (6, _)] ⟨rfl, rfl, rfl, rfl, rfl, trivial⟩ (fun k3 => [(7, .int .i64 k3)]) (fun k3 => k3 ≤ ((z.Groups.getD k []).getD k2 default).Blocks.length ∧ (∀ i, i < k3 → blockOK (((z.Groups.getD k []).getD k2 default).Blocks.getD i default) = true)) (fun k3 => ((z.Groups.getD k []).getD k2 default).Blocks.length - k3) 0 ⟨rfl, trivial⟩ ⟨by omega, fun i hi => by omega⟩ (fun k3 w8 H10 ⟨hk3, hek3⟩ => ?_))))))
      dsimp only [lCA, lNA]
      refine W_seq (W_sr (sM rfl rfl (sM rfl rfl (sV rfl (py_len tu178 rfl) (sV rfl (py_lss rfl rfl) (s_nil (W_ifd rfl (fun c6 => ?_) (fun c6 => ?_))))))))
      ·refine W_skip (W_seq (W_block (W_seq ?_)))
       obtain ⟨eb5, eo6, es2, ef5, ee5, ec5, eO5, eH5, em2⟩ := elem_st (H10.seen 6 rfl) k3 (by omega)
       obtain ⟨ea5, ek5, eg2, rfl, eq2, eK2, eo7⟩ := own_Block eO5
       have eK2U := eK2
       unfold Block.Ok at eK2U
       try unfold I64ok at eK2U
       try unfold maxLen at eK2U
       have eP5 := H10.look1 6 rfl eo7 (fun b hb => eH5 b (by rw [eq2]; simp [hb]))
       have eL2 := oL eo7
       refine W_reg (sM rfl rfl (sM rfl rfl (sV rfl (py_elz tu178 ts182 rfl rfl ee5 k3 (by omega) (by omega)) (sV rfl (py_field tu182 rfl ts2 rfl rfl) (sV rfl (py_load tu2 rfl rfl (at_cell ec5 0 rfl)) (s_call (wn rfl) rfl rfl (pc_call Tryz.func97 rfl Tryz_nm97 rfl) Tryz_spec_l1In (fun v3 w9 r3 => ?_)))))))
       obtain ⟨e6, rfl⟩ := r3
       have H11 := eP5.to e6
       refine sV rfl (py_not rfl) (sM rfl rfl (s_grp 7 (j := 7) (want := false) (t := 76) rfl rfl rfl rfl (fun hg1 kk1 => s_val (wgE rfl rfl rfl hg1) rfl rfl (py_move rfl) (s_val (wgE rfl rfl rfl hg1) rfl rfl (py_move rfl) (s_val (wgE rfl rfl rfl hg1) rfl rfl (py_elz tu178 ts182 rfl rfl ee5 k3 (by first | omega | (simp only [Bool.or_eq_false_iff, Bool.and_eq_true, Bool.and_eq_false_iff, Bool.or_eq_true, Bool.not_eq_true', Bool.not_eq_false', decide_eq_true_eq, decide_eq_false_iff_not] at hg1; omega)) (by omega)) (s_val (wgE rfl rfl rfl hg1) rfl rfl (py_field tu182 rfl ts45 rfl rfl) (s_val (wgE rfl rfl rfl hg1) rfl rfl (py_load tu45 rfl rfl (at_cell (e6.at ec5) 1 rfl)) (s_val (wgE rfl rfl rfl hg1) rfl rfl (py_len tu45 rfl) (s_val (wgE rfl rfl rfl hg1) rfl rfl (py_neq rfl rfl) (kk1 _ _ (kx rfl (kx rfl (kx rfl (kx rfl (kx rfl (kx rfl (kx rfl k0))))))) rfl Ext.refl)))))))) (fun w10 e7 => ?_)))
       have H12 := H11.to e7
       refine sV rfl (py_bor rfl rfl) (s_nil (W_if rfl (fun c7 => ?_) (fun c7 => ?_)))
       ·refine W_sr (sA rfl rfl (s_nil (rT hQ Tryz.results160 rfl ?_)))
        exact ⟨H12.ext, congrArg Value.bool (groupsOK_at k (by omega) (groupOK_at k2 (by omega) (driveOK_at k3 (by omega) (blockOK_no c7)))).symm⟩
       ·refine W_skip (W_reg (sM rfl rfl (sV rfl (py_add rfl rfl (in64 ⟨by omega, by omega⟩)) (sA rfl rfl (s_nil (⟨k3 + 1, ⟨rfl, rfl, rfl, rfl, rfl, rfl, trivial⟩, ⟨(H12.ftake 7), by omega, fun i hi => ?_⟩, by dsimp only; omega⟩))))))
        by_cases e : i = k3
        ·subst e
         exact blockOK_yes (by assumption)
        ·exact hek3 i (by omega)
      ·refine W_exit (W_reg (sM rfl rfl (sV rfl (py_add rfl rfl (in64 ⟨by omega, by omega⟩)) (sA rfl rfl (s_nil (⟨k2 + 1, ⟨rfl, rfl, rfl, rfl, trivial⟩, ⟨(H10.ftake 4), by omega, fun i hi => ?_⟩, by dsimp only; omega⟩))))))
       by_cases e : i = k2
       ·subst e
        exact driveOK_all (by omega) (fun i hi => hek3 i (by omega))
       ·exact hek2 i (by omega)
    ·refine W_exit (W_reg (sM rfl rfl (sV rfl (py_add rfl rfl (in64 ⟨by omega, by omega⟩)) (sA rfl rfl (s_nil (⟨k + 1, ⟨rfl, rfl, rfl, trivial⟩, ⟨(eP2.ftake 3), by omega, fun i hi => ?_⟩, by dsimp only; omega⟩))))))
     by_cases e : i = k
     ·subst e
      exact groupOK_yes (by omega) (fun i hi => hek2 i (by omega))
     ·exact he i (by omega)
  ·refine W_exit (W_sr (sA rfl rfl (s_nil (rT hQ Tryz.results160 rfl ?_))))
   exact ⟨H6.ext, congrArg Value.bool (groupsOK_yes (by omega) (fun i hi => he i (by omega))).symm⟩
theorem Tryz_impl_WorldFault {w : World} {z : Wld} {zA9 zA10 zA11 : Option Addr} {zC9 zC10 zC11 : Nat} (zK : z.Ok) (zS9 : Sees w [.slice zA9 z.Groups.length zC9] z.Groups) (zS10 : Sees w [.slice zA10 z.On.length zC10] z.On) (zS11 : Sees w [.slice zA11 z.Tapes.length zC11] z.Tapes) : Ret Tryz.prog 70 #[z.val zA9 zC9 zA10 zC10 zA11 zC11] w fun v w' => Ext No w w' ∧ (v = .int .i64 (worldF z)) := by
 have zK2 := zK
 unfold Wld.Ok Shape.Ok at zK2
 try unfold I64ok at zK2
 try unfold maxLen at zK2
 have zL9 := sL zS9
 obtain ⟨zF9, zO9⟩ := zS9
 have zL10 := sL zS10
 obtain ⟨zF10, zO10⟩ := zS10
 have zL11 := sL zS11
 obtain ⟨zF11, zO11⟩ := zS11
 refine ret_Q (vs := [z.val zA9 zC9 zA10 zC10 zA11 zC11]) Tryz.func70 rfl Tryz.ntmps70 rfl (fun Q hQ hN => ?_)
 have H0 := Sep.start (w := w) (F := [seen false [.slice zA9 z.Groups.length zC9] z.Groups zF9, seen false [.slice zA10 z.On.length zC10] z.On zF10, seen false [.slice zA11 z.Tapes.length zC11] z.Tapes zF11]) (all_cons zO9 (all_cons zO10 (all_cons zO11 (by simp))))
 refine W_sr (s_box (wn rfl) rfl rfl H0 (fun b1 w1 e1 g1 H1 => ?_))
 refine sA rfl rfl (s_nil (W_seq (W_sr (sV rfl (py_field tu38 rfl ts34 rfl rfl) (sV rfl (py_loadS tu34 rfl ts34 rfl rfl (At.sub (H1.box 0 rfl) 9)) (s_call (wn rfl) rfl rfl (pc_call Tryz.func143 rfl Tryz_nm143 rfl) Tryz_impl_ShapeFault (fun v1 w2 r1 => ?_)))))))
 obtain ⟨e2, rfl⟩ := r1
 have H2 := H1.to e2
 refine sA rfl rfl (s_nil (W_sr (sM rfl rfl (sV rfl (py_neq rfl rfl) (s_nil (W_ifd rfl (fun c1 => ?_) (fun c1 => ?_)))))))
 ·refine W_sr (sM rfl rfl (sA rfl rfl (s_nil (rT hQ Tryz.results70 rfl ?_))))
  exact ⟨H2.ext, congrArg (Value.int .i64) (if_pos (by omega)).symm⟩
 ·refine W_skip (W_seq (W_seq ?_))
  have hs := shapeFault_ok (s := z.Shape) (by omega)
  refine W_reg (sV rfl (py_loadS tu38 rfl ts38 rfl rfl (At.whole (H2.box 0 rfl))) (s_call (wn rfl) rfl rfl (pc_call Tryz.func144 rfl Tryz_nm144 rfl) (Tryz_impl_groupsOK (by assumption) (H2.sees 0 rfl) (H2.sees 1 rfl) (H2.sees 2 rfl) (by assumption)) (fun v2 w3 r2 => ?_)))
  obtain ⟨e3, rfl⟩ := r2
  have H3 := H2.to e3
  refine sV rfl (py_not rfl) (sM rfl rfl (s_case (t := 14) rfl (fun hg1 => ?_) (fun hg1 => ?_)))
  ·try simp only [decide_eq_true_eq, decide_eq_false_iff_not] at hg1
   refine sKt rfl rfl rfl (sKt rfl rfl rfl (sKt rfl rfl rfl (sV rfl (py_pickT rfl rfl) (sM rfl rfl (sKt rfl rfl rfl (sKt rfl rfl rfl (sKt rfl rfl rfl (sKt rfl rfl rfl (sV rfl (py_pickT rfl rfl) (s_nil (W_ift rfl (W_sr (sA rfl rfl (s_nil (rT hQ Tryz.results70 rfl ?_)))))))))))))))
   exact ⟨H3.ext, congrArg (Value.int .i64) ((if_neg (by omega)).trans (if_neg (by simp_all <;> omega))).symm⟩
  ·try simp only [decide_eq_true_eq, decide_eq_false_iff_not] at hg1
   refine s_val (wg rfl rfl rfl) rfl rfl (py_loadS tu38 rfl ts38 rfl rfl (At.whole (H3.box 0 rfl))) (s_call (wg rfl rfl rfl) rfl rfl (pc_call Tryz.func145 rfl Tryz_nm145 rfl) (Tryz_impl_onOK (by assumption) (H3.sees 0 rfl) (H3.sees 1 rfl) (H3.sees 2 rfl) (by assumption)) (fun v3 w4 r3 => ?_))
   obtain ⟨e4, rfl⟩ := r3
   have H4 := H3.to e4
   refine s_val (wg rfl rfl rfl) rfl rfl (py_not rfl) (sV rfl (py_pickF rfl rfl) (sM rfl rfl (s_case (t := 19) rfl (fun hg2 => ?_) (fun hg2 => ?_))))
   ·try simp only [decide_eq_true_eq, decide_eq_false_iff_not] at hg2
    refine sKt rfl rfl rfl (sKt rfl rfl rfl (sKt rfl rfl rfl (sKt rfl rfl rfl (sV rfl (py_pickT rfl rfl) (s_nil (W_ift rfl (W_sr (sA rfl rfl (s_nil (rT hQ Tryz.results70 rfl ?_))))))))))
    exact ⟨H4.ext, congrArg (Value.int .i64) ((if_neg (by omega)).trans (if_neg (by simp_all <;> omega))).symm⟩
   ·try simp only [decide_eq_true_eq, decide_eq_false_iff_not] at hg2
    refine s_val (wg rfl rfl rfl) rfl rfl (py_field tu38 rfl ts36 rfl rfl) (s_val (wg rfl rfl rfl) rfl rfl (py_load tu36 rfl rfl (cell_atL (H4.box 0 rfl) rfl)) (s_val (wg rfl rfl rfl) rfl rfl (py_len tu36 rfl) (s_val (wg rfl rfl rfl) rfl rfl (py_neq rfl rfl) (sV rfl (py_pickF rfl rfl) (s_nil (W_ifd rfl (fun c2 => ?_) (fun c2 => ?_)))))))
    ·refine W_sr (sA rfl rfl (s_nil (rT hQ Tryz.results70 rfl ?_)))
     exact ⟨H4.ext, congrArg (Value.int .i64) ((if_neg (by omega)).trans (if_neg (by simp_all <;> omega))).symm⟩
    ·refine W_skip (W_seq (W_sr (sV rfl (py_loadS tu38 rfl ts38 rfl rfl (At.whole (H4.box 0 rfl))) (s_call (wn rfl) rfl rfl (pc_call Tryz.func146 rfl Tryz_nm146 rfl) (Tryz_impl_tapesFault (by assumption) (H4.sees 0 rfl) (H4.sees 1 rfl) (H4.sees 2 rfl) (by assumption)) (fun v4 w5 r4 => ?_)))))
     obtain ⟨e5, rfl⟩ := r4
     have H5 := H4.to e5
     refine sA rfl rfl (s_nil (W_sr (sM rfl rfl (sV rfl (py_neq rfl rfl) (s_nil (W_ifd rfl (fun c3 => ?_) (fun c3 => ?_)))))))
     ·refine W_sr (sM rfl rfl (sA rfl rfl (s_nil (rT hQ Tryz.results70 rfl ?_))))
      exact ⟨H5.ext, congrArg (Value.int .i64) ((if_neg (by omega)).trans ((if_pos (by simp_all <;> omega)).trans (if_pos (by omega)))).symm⟩
     ·refine W_skip (W_seq (W_sr (sV rfl (py_field tu38 rfl ts2 rfl rfl) (sV rfl (py_load tu2 rfl rfl (cell_atL (H5.box 0 rfl) rfl)) (s_call (wn rfl) rfl rfl (pc_call Tryz.func147 rfl Tryz_nm147 rfl) Tryz_impl_inside (fun v5 w6 r5 => ?_))))))
      obtain ⟨e6, rfl⟩ := r5
      have H6 := H5.to e6
      refine sV rfl (py_not rfl) (sM rfl rfl (s_case (t := 34) rfl (fun hg3 => ?_) (fun hg3 => ?_)))
      ·try simp only [decide_eq_true_eq, decide_eq_false_iff_not] at hg3
       refine sKt rfl rfl rfl (sKt rfl rfl rfl (sKt rfl rfl rfl (sKt rfl rfl rfl (sV rfl (py_pickT rfl rfl) (s_nil (W_ift rfl (W_sr (sA rfl rfl (s_nil (rT hQ Tryz.results70 rfl ?_))))))))))
       exact ⟨H6.ext, congrArg (Value.int .i64) ((if_neg (by omega)).trans ((if_pos (by simp_all <;> omega)).trans ((if_neg (by omega)).trans (if_neg (by simp_all <;> omega))))).symm⟩
      ·try simp only [decide_eq_true_eq, decide_eq_false_iff_not] at hg3
       refine s_val (wg rfl rfl rfl) rfl rfl (py_field tu38 rfl ts2 rfl rfl) (s_val (wg rfl rfl rfl) rfl rfl (py_load tu2 rfl rfl (cell_atL (H6.box 0 rfl) rfl)) (s_call (wg rfl rfl rfl) rfl rfl (pc_call Tryz.func147 rfl Tryz_nm147 rfl) Tryz_impl_inside (fun v6 w7 r6 => ?_)))
       obtain ⟨e7, rfl⟩ := r6
       have H7 := H6.to e7
       refine s_val (wg rfl rfl rfl) rfl rfl (py_not rfl) (sV rfl (py_pickF rfl rfl) (s_nil (W_if rfl (fun c4 => ?_) (fun c4 => ?_))))
       ·refine W_sr (sA rfl rfl (s_nil (rT hQ Tryz.results70 rfl ?_)))
        exact ⟨H7.ext, congrArg (Value.int .i64) ((if_neg (by omega)).trans ((if_pos (by simp_all <;> omega)).trans ((if_neg (by omega)).trans (if_neg (by simp_all <;> omega))))).symm⟩
       ·refine W_skip (W_sr (sA rfl rfl (s_nil (rT hQ Tryz.results70 rfl ?_))))
        exact ⟨H7.ext, congrArg (Value.int .i64) ((if_neg (by omega)).trans ((if_pos (by simp_all <;> omega)).trans ((if_neg (by omega)).trans (if_pos (by simp_all <;> omega))))).symm⟩
theorem Tryz_impl_upFault {w : World} {z : Wld} {zA9 zA10 zA11 : Option Addr} {zC9 zC10 zC11 : Nat} (zK : z.Ok) (zS9 : Sees w [.slice zA9 z.Groups.length zC9] z.Groups) (zS10 : Sees w [.slice zA10 z.On.length zC10] z.On) (zS11 : Sees w [.slice zA11 z.Tapes.length zC11] z.Tapes) : Ret Tryz.prog 117 #[z.val zA9 zC9 zA10 zC10 zA11 zC11] w fun v w' => Ext No w w' ∧ (v = .int .i64 (upF z)) := by
 have zK2 := zK
 unfold Wld.Ok Shape.Ok at zK2
 try unfold I64ok at zK2
 try unfold maxLen at zK2
 have zL9 := sL zS9
 obtain ⟨zF9, zO9⟩ := zS9
 have zL10 := sL zS10
 obtain ⟨zF10, zO10⟩ := zS10
 have zL11 := sL zS11
 obtain ⟨zF11, zO11⟩ := zS11
 refine ret_Q (vs := [z.val zA9 zC9 zA10 zC10 zA11 zC11]) Tryz.func117 rfl Tryz.ntmps117 rfl (fun Q hQ hN => ?_)
 have H0 := Sep.start (w := w) (F := [seen false [.slice zA9 z.Groups.length zC9] z.Groups zF9, seen false [.slice zA10 z.On.length zC10] z.On zF10, seen false [.slice zA11 z.Tapes.length zC11] z.Tapes zF11]) (all_cons zO9 (all_cons zO10 (all_cons zO11 (by simp))))
 refine W_sr (s_box (wn rfl) rfl rfl H0 (fun b1 w1 e1 g1 H1 => ?_))
 refine sA rfl rfl (s_nil (W_seq (W_sr (sV rfl (py_loadS tu38 rfl ts38 rfl rfl (At.whole (H1.box 0 rfl))) (s_call (wn rfl) rfl rfl (pc_call Tryz.func70 rfl Tryz_nm70 rfl) (Tryz_impl_WorldFault (by assumption) (H1.sees 0 rfl) (H1.sees 1 rfl) (H1.sees 2 rfl)) (fun v1 w2 r1 => ?_))))))
 obtain ⟨e2, rfl⟩ := r1
 have H2 := H1.to e2
 refine sA rfl rfl (s_nil (W_sr (sM rfl rfl (sV rfl (py_neq rfl rfl) (s_nil (W_ifd rfl (fun c1 => ?_) (fun c1 => ?_)))))))
 ·refine W_sr (sM rfl rfl (sA rfl rfl (s_nil (rT hQ Tryz.results117 rfl ?_))))
  exact ⟨H2.ext, congrArg (Value.int .i64) (if_pos (by omega)).symm⟩
 ·refine W_skip (W_seq (W_sr (sV rfl (py_field tu38 rfl ts4 rfl rfl) (sV rfl (py_load tu4 rfl rfl (cell_atL (H2.box 0 rfl) rfl)) (s_nil (W_if rfl (fun c2 => ?_) (fun c2 => ?_)))))))
  ·refine W_sr (sA rfl rfl (s_nil (rT hQ Tryz.results117 rfl ?_)))
   exact ⟨H2.ext, congrArg (Value.int .i64) ((if_neg (by omega)).trans (if_pos (by assumption))).symm⟩
  ·refine W_skip (W_sr (sA rfl rfl (s_nil (rT hQ Tryz.results117 rfl ?_))))
   exact ⟨H2.ext, congrArg (Value.int .i64) ((if_neg (by omega)).trans (if_neg (by simp_all <;> omega))).symm⟩
set_option maxHeartbeats 1000000 in
theorem Tryz_spec_WorldFault {w : World} {z : Wld} {zA9 zA10 zA11 : Option Addr} {zC9 zC10 zC11 : Nat} (zK : z.Ok) (zS9 : Sees w [.slice zA9 z.Groups.length zC9] z.Groups) (zS10 : Sees w [.slice zA10 z.On.length zC10] z.On) (zS11 : Sees w [.slice zA11 z.Tapes.length zC11] z.Tapes) : Ret Tryz.prog 93 #[z.val zA9 zC9 zA10 zC10 zA11 zC11] w fun v w' => Ext No w w' ∧ (v = .int .i64 (worldF z)) := by
 have zK2 := zK
 unfold Wld.Ok Shape.Ok at zK2
 try unfold I64ok at zK2
 try unfold maxLen at zK2
 have zL9 := sL zS9
 obtain ⟨zF9, zO9⟩ := zS9
 have zL10 := sL zS10
 obtain ⟨zF10, zO10⟩ := zS10
 have zL11 := sL zS11
 obtain ⟨zF11, zO11⟩ := zS11
 refine ret_Q (vs := [z.val zA9 zC9 zA10 zC10 zA11 zC11]) Tryz.func93 rfl Tryz.ntmps93 rfl (fun Q hQ hN => ?_)
 have H0 := Sep.start (w := w) (F := [seen false [.slice zA9 z.Groups.length zC9] z.Groups zF9, seen false [.slice zA10 z.On.length zC10] z.On zF10, seen false [.slice zA11 z.Tapes.length zC11] z.Tapes zF11]) (all_cons zO9 (all_cons zO10 (all_cons zO11 (by simp))))
 refine W_sr (s_box (wn rfl) rfl rfl H0 (fun b1 w1 e1 g1 H1 => ?_))
 refine sA rfl rfl (s_nil (W_seq (W_sr (sV rfl (py_field tu38 rfl ts34 rfl rfl) (sV rfl (py_loadS tu34 rfl ts34 rfl rfl (At.sub (H1.box 0 rfl) 9)) (s_call (wn rfl) rfl rfl (pc_call Tryz.func159 rfl Tryz_nm159 rfl) Tryz_spec_ShapeFault (fun v1 w2 r1 => ?_)))))))
 obtain ⟨e2, rfl⟩ := r1
 have H2 := H1.to e2
 refine sA rfl rfl (s_nil (W_sr (sM rfl rfl (sV rfl (py_neq rfl rfl) (s_nil (W_ifd rfl (fun c1 => ?_) (fun c1 => ?_)))))))
 ·refine W_sr (sM rfl rfl (sA rfl rfl (s_nil (rT hQ Tryz.results93 rfl ?_))))
  exact ⟨H2.ext, congrArg (Value.int .i64) (if_pos (by omega)).symm⟩
 ·refine W_skip (W_seq (W_seq ?_))
  have hs := shapeFault_ok (s := z.Shape) (by omega)
  have sbd := shape_bd hs
  refine W_drw (S := Ext No _) [(0, true), (1, false), (2, true), (3, true), (4, true), (5, true), (6, true), (7, true), (8, false), (9, true), (10, false), (11, true), (12, true), (13, true), (14, true), (15, true), (16, true), (17, true), (18, true), (19, true), (20, true), (21, true), (22, true), (23, true), (24, true), (25, true), (26, true), (27, true), (28, true), (29, true), (30, true), (31, true), (32, true), (33, true), (34, true), (35, true), (36, true), (37, false)] (by kernel_rfl) (by kernel_rfl) (by kernel_rfl) rfl (fun _ => Ext.refl.drawn _) (fun q1 => ?_)
  have H3 := H2.drawn q1
  refine dV rfl rfl (fun zw hx => py_loadS tu38 rfl ts38 rfl rfl (At.whole (hx.heap (H3.box 0 rfl)))) (d_call rfl (wn rfl) rfl rfl (pc_call Tryz.func160 rfl Tryz_nm160 rfl) (Tryz_spec_l5Built (by assumption) (H3.sees 0 rfl) (H3.sees 1 rfl) (H3.sees 2 rfl) (by assumption)) (fun hS _ _ r _ => hS.trans r.1.no) (fun v2 w3 r2 => ?_))
  obtain ⟨e3, rfl⟩ := r2
  have H4 := H3.to e3
  refine dV rfl rfl (fun zw hx => py_not rfl) (dM rfl rfl rfl (d_case (t := 17) rfl (fun hg1 => ?_) (fun hg1 => ?_)))
  ·try simp only [decide_eq_true_eq, decide_eq_false_iff_not] at hg1
   refine dKt rfl rfl rfl rfl (dKt rfl rfl rfl rfl (dKt rfl rfl rfl rfl (dKt rfl rfl rfl rfl (d_skipA rfl (wog (b := true) rfl rfl rfl) rfl rfl (dKt rfl rfl rfl rfl (d_skipA rfl (wog (b := true) rfl rfl rfl) rfl rfl (dKt rfl rfl rfl rfl (dV rfl rfl (fun zw hx => py_pickT rfl rfl) (dM rfl rfl rfl (dKt rfl rfl rfl rfl (dKt rfl rfl rfl rfl (dKt rfl rfl rfl rfl (dKt rfl rfl rfl rfl (dKt rfl rfl rfl rfl (dKt rfl rfl rfl rfl (dKt rfl rfl rfl rfl (dV rfl rfl (fun zw hx => py_pickT rfl rfl) (dM rfl rfl rfl (dKt rfl rfl rfl rfl (dKt rfl rfl rfl rfl (dKt rfl rfl rfl rfl (d_skip rfl (wou rfl rfl rfl) rfl rfl (d_skip rfl (wou rfl rfl rfl) rfl rfl (d_skip rfl (wou rfl rfl rfl) rfl rfl (d_skip rfl (wou rfl rfl rfl) rfl rfl (dKt rfl rfl rfl rfl (dV rfl rfl (fun zw hx => py_pickT rfl rfl) (dM rfl rfl rfl (dKt rfl rfl rfl rfl (dKt rfl rfl rfl rfl (dKt rfl rfl rfl rfl (dKt rfl rfl rfl rfl (d_end rfl (wn rfl) rfl rfl (py_pickT rfl rfl) (d_nil (W_ift rfl (W_sr (sA rfl rfl (s_nil (rT hQ Tryz.results93 rfl ?_)))))))))))))))))))))))))))))))))))))))
   exact ⟨H4.ext, congrArg (Value.int .i64) ((if_neg (by omega)).trans (if_neg (by rw [← fine_eq]; first | (simp_all <;> omega) | (cases hh : z.On <;> simp_all <;> omega)))).symm⟩
  ·try simp only [decide_eq_true_eq, decide_eq_false_iff_not] at hg1
   refine d_val rfl (wg rfl rfl rfl) rfl rfl (fun zw hx => py_field tu38 rfl ts25 rfl rfl) (d_val rfl (wg rfl rfl rfl) rfl rfl (fun zw hx => py_load tu25 rfl rfl (cell_atL (hx.heap (H3.box 0 rfl)) rfl)) (d_val rfl (wg rfl rfl rfl) rfl rfl (fun zw hx => py_field tu38 rfl ts34 rfl rfl) (d_val rfl (wg rfl rfl rfl) rfl rfl (fun zw hx => py_loadS tu34 rfl ts34 rfl rfl (At.sub (hx.heap (H3.box 0 rfl)) 9)) (d_call rfl (wg rfl rfl rfl) rfl rfl (pc_call Tryz.func162 rfl Tryz_nm162 rfl) (Tryz_spec_l5All (by assumption)) (fun hS _ _ r _ => hS.trans r.1.no) (fun v3 w4 r3 => ?_)))))
   obtain ⟨e4, rfl⟩ := r3
   have H5 := H4.to e4
   refine d_val rfl (wg rfl rfl rfl) rfl rfl (fun zw hx => py_sub rfl rfl (in64 ⟨by omega, by omega⟩)) (d_call rfl (wg rfl rfl rfl) rfl rfl (pc_call Tryz.func161 rfl Tryz_nm161 rfl) (Tryz_spec_l5Apart (H5.sees 1 rfl)) (fun hS _ _ r _ => hS.trans r.1.no) (fun v4 w5 r4 => ?_))
   obtain ⟨e5, rfl⟩ := r4
   have H6 := H5.to e5
   refine d_val rfl (wg rfl rfl rfl) rfl rfl (fun zw hx => py_not rfl) (dV rfl rfl (fun zw hx => py_pickF rfl rfl) (dM rfl rfl rfl (d_case (t := 27) rfl (fun hg2 => ?_) (fun hg2 => ?_))))
   ·try simp only [decide_eq_true_eq, decide_eq_false_iff_not] at hg2
    refine dKt rfl rfl rfl rfl (dKt rfl rfl rfl rfl (dKt rfl rfl rfl rfl (dKt rfl rfl rfl rfl (dKt rfl rfl rfl rfl (dKt rfl rfl rfl rfl (dKt rfl rfl rfl rfl (dV rfl rfl (fun zw hx => py_pickT rfl rfl) (dM rfl rfl rfl (dKt rfl rfl rfl rfl (dKt rfl rfl rfl rfl (dKt rfl rfl rfl rfl (d_skip rfl (wou rfl rfl rfl) rfl rfl (d_skip rfl (wou rfl rfl rfl) rfl rfl (d_skip rfl (wou rfl rfl rfl) rfl rfl (d_skip rfl (wou rfl rfl rfl) rfl rfl (dKt rfl rfl rfl rfl (dV rfl rfl (fun zw hx => py_pickT rfl rfl) (dM rfl rfl rfl (dKt rfl rfl rfl rfl (dKt rfl rfl rfl rfl (dKt rfl rfl rfl rfl (dKt rfl rfl rfl rfl (d_end rfl (wn rfl) rfl rfl (py_pickT rfl rfl) (d_nil (W_ift rfl (W_sr (sA rfl rfl (s_nil (rT hQ Tryz.results93 rfl ?_)))))))))))))))))))))))))))))
    exact ⟨H6.ext, congrArg (Value.int .i64) ((if_neg (by omega)).trans (if_neg (by rw [← fine_eq]; first | (simp_all <;> omega) | (cases hh : z.On <;> simp_all <;> omega)))).symm⟩
   ·try simp only [decide_eq_true_eq, decide_eq_false_iff_not] at hg2
    refine d_val rfl (wg rfl rfl rfl) rfl rfl (fun zw hx => py_field tu38 rfl ts25 rfl rfl) (d_val rfl (wg rfl rfl rfl) rfl rfl (fun zw hx => py_load tu25 rfl rfl (cell_atL (hx.heap (H3.box 0 rfl)) rfl)) (d_val rfl (wg rfl rfl rfl) rfl rfl (fun zw hx => py_len tu25 rfl) (d_val rfl (wg rfl rfl rfl) rfl rfl (fun zw hx => py_field tu38 rfl ts34 rfl rfl) (d_val rfl (wg rfl rfl rfl) rfl rfl (fun zw hx => py_field tu34 rfl ts2 rfl rfl) (d_val rfl (wg rfl rfl rfl) rfl rfl (fun zw hx => py_load tu2 rfl rfl (cell_atL (hx.heap (H3.box 0 rfl)) rfl)) (d_val rfl (wg rfl rfl rfl) rfl rfl (fun zw hx => py_gtr rfl rfl) (dV rfl rfl (fun zw hx => py_pickF rfl rfl) (dM rfl rfl rfl (d_case (t := 36) rfl (fun hg3 => ?_) (fun hg3 => ?_))))))))))
    ·try simp only [decide_eq_true_eq, decide_eq_false_iff_not] at hg3
     refine dKt rfl rfl rfl rfl (dKt rfl rfl rfl rfl (dKt rfl rfl rfl rfl (d_skip rfl (wou rfl rfl rfl) rfl rfl (d_skip rfl (wou rfl rfl rfl) rfl rfl (d_skip rfl (wou rfl rfl rfl) rfl rfl (d_skip rfl (wou rfl rfl rfl) rfl rfl (dKt rfl rfl rfl rfl (dV rfl rfl (fun zw hx => py_pickT rfl rfl) (dM rfl rfl rfl (dKt rfl rfl rfl rfl (dKt rfl rfl rfl rfl (dKt rfl rfl rfl rfl (dKt rfl rfl rfl rfl (d_end rfl (wn rfl) rfl rfl (py_pickT rfl rfl) (d_nil (W_ift rfl (W_sr (sA rfl rfl (s_nil (rT hQ Tryz.results93 rfl ?_))))))))))))))))))))
     exact ⟨H6.ext, congrArg (Value.int .i64) ((if_neg (by omega)).trans (if_neg (by rw [← fine_eq]; first | (simp_all <;> omega) | (cases hh : z.On <;> simp_all <;> omega)))).symm⟩
    ·try simp only [decide_eq_true_eq, decide_eq_false_iff_not] at hg3
     refine d_val rfl (wg rfl rfl rfl) rfl rfl (fun zw hx => py_field tu38 rfl ts4 rfl rfl) (d_val rfl (wg rfl rfl rfl) rfl rfl (fun zw hx => py_load tu4 rfl rfl (cell_atL (hx.heap (H3.box 0 rfl)) rfl)) (d_val rfl (wg rfl rfl rfl) rfl rfl (fun zw hx => py_move rfl) (d_case (t := 39) rfl (fun hg4 => ?_) (fun hg4 => ?_))))
     ·try simp only [decide_eq_true_eq, decide_eq_false_iff_not] at hg4
      refine d_val rfl (wg rfl rfl rfl) rfl rfl (fun zw hx => py_field tu38 rfl ts25 rfl rfl) (d_val rfl (wg rfl rfl rfl) rfl rfl (fun zw hx => py_load tu25 rfl rfl (cell_atL (hx.heap (H3.box 0 rfl)) rfl)) (d_val rfl (wg rfl rfl rfl) rfl rfl (fun zw hx => py_len tu25 rfl) (d_val rfl (wg rfl rfl rfl) rfl rfl (fun zw hx => py_gtr rfl rfl) (d_val rfl (wg rfl rfl rfl) rfl rfl (fun zw hx => py_pickT rfl rfl) (dV rfl rfl (fun zw hx => py_pickF rfl rfl) (dM rfl rfl rfl (d_case (t := 46) rfl (fun hg5 => ?_) (fun hg5 => ?_))))))))
      ·try simp only [decide_eq_true_eq, decide_eq_false_iff_not] at hg5
       refine dKt rfl rfl rfl rfl (dKt rfl rfl rfl rfl (dKt rfl rfl rfl rfl (dKt rfl rfl rfl rfl (d_end rfl (wn rfl) rfl rfl (py_pickT rfl rfl) (d_nil (W_ift rfl (W_sr (sA rfl rfl (s_nil (rT hQ Tryz.results93 rfl ?_))))))))))
       exact ⟨H6.ext, congrArg (Value.int .i64) ((if_neg (by omega)).trans (if_neg (by rw [← fine_eq]; first | (simp_all <;> omega) | (cases hh : z.On <;> simp_all <;> omega)))).symm⟩
      ·try simp only [decide_eq_true_eq, decide_eq_false_iff_not] at hg5
       refine d_val rfl (wg rfl rfl rfl) rfl rfl (fun zw hx => py_field tu38 rfl ts36 rfl rfl) (d_val rfl (wg rfl rfl rfl) rfl rfl (fun zw hx => py_load tu36 rfl rfl (cell_atL (hx.heap (H3.box 0 rfl)) rfl)) (d_val rfl (wg rfl rfl rfl) rfl rfl (fun zw hx => py_len tu36 rfl) (d_val rfl (wg rfl rfl rfl) rfl rfl (fun zw hx => py_neq rfl rfl) (d_end rfl (wn rfl) rfl rfl (py_pickF rfl rfl) (d_nil (W_ifd rfl (fun c2 => ?_) (fun c2 => ?_)))))))
       ·refine W_sr (sA rfl rfl (s_nil (rT hQ Tryz.results93 rfl ?_)))
        exact ⟨H6.ext, congrArg (Value.int .i64) ((if_neg (by omega)).trans (if_neg (by rw [← fine_eq]; first | (simp_all <;> omega) | (cases hh : z.On <;> simp_all <;> omega)))).symm⟩
       ·refine W_skip (W_seq (W_seq ?_))
        have hF : (groupsOK z && onOK z && decide (z.Tapes.length = 2)) = true := by rw [← fine_eq]; simp_all <;> omega
        have h2 : z.Tapes.length = 2 := by simp_all <;> omega
        obtain ⟨eb1, eo1, es1, ef1, ee1, ec1, eO1, eH1, em1⟩ := elem_st (H6.seen 2 rfl) 0 (by omega)
        obtain ⟨ea1, ek1, eg1, rfl, eq1, eK1, eo2⟩ := own_Tape eO1
        have eP1 := H6.look1 2 rfl eo2 (fun b hb => eH1 b (by rw [eq1]; simp [hb]))
        have eL1 := oL eo2
        refine W_reg (sV rfl (py_field tu38 rfl ts36 rfl rfl) (sV rfl (py_load tu36 rfl rfl (cell_atL (eP1.box 0 rfl) rfl)) (sV rfl (py_elz tu36 ts139 rfl rfl ee1 0 (by omega) (by omega)) (sV rfl (py_field tu139 rfl ts30 rfl rfl) (sV rfl (py_load tu30 rfl rfl (at_cell ec1 1 rfl)) (sV rfl (py_len tu30 rfl) (sV rfl (py_gtr rfl rfl) (sM rfl rfl (s_case (t := 59) rfl (fun hg6 => ?_) (fun hg6 => ?_))))))))))
        ·try simp only [decide_eq_true_eq, decide_eq_false_iff_not] at hg6
         refine sKt rfl rfl rfl (sKt rfl rfl rfl (sKt rfl rfl rfl (sKt rfl rfl rfl (sKt rfl rfl rfl (sKt rfl rfl rfl (sKt rfl rfl rfl (sV rfl (py_pickT rfl rfl) (s_nil (W_ift rfl (W_seq ?_))))))))))
         have tq := tapesF_many (z := z) (any_two h2 (by simp only [manyRecs]; simp_all <;> omega))
         refine W_reg (sA rfl rfl (s_nil (rT hQ Tryz.results93 rfl ?_)))
         exact ⟨eP1.ext, congrArg (Value.int .i64) ((if_neg (by omega)).trans ((if_pos hF).trans ((if_pos (by omega)).trans tq))).symm⟩
        ·try simp only [decide_eq_true_eq, decide_eq_false_iff_not] at hg6
         refine s_val (wg rfl rfl rfl) rfl rfl (py_field tu38 rfl ts36 rfl rfl) (s_val (wg rfl rfl rfl) rfl rfl (py_load tu36 rfl rfl (cell_atL (eP1.box 0 rfl) rfl)) ?_)
         obtain ⟨eb2, eo3, es2, ef2, ee2, ec2, eO2, eH2, em2⟩ := elem_st (eP1.seen 2 rfl) 1 (by omega)
         obtain ⟨ea2, ek2, eg2, rfl, eq2, eK2, eo4⟩ := own_Tape eO2
         have eP2 := eP1.look1 2 rfl eo4 (fun b hb => eH2 b (by rw [eq2]; simp [hb]))
         have eL2 := oL eo4
         refine s_val (wg rfl rfl rfl) rfl rfl (py_elz tu36 ts139 rfl rfl ee2 1 (by omega) (by omega)) (s_val (wg rfl rfl rfl) rfl rfl (py_field tu139 rfl ts30 rfl rfl) (s_val (wg rfl rfl rfl) rfl rfl (py_load tu30 rfl rfl (at_cell ec2 1 rfl)) (s_val (wg rfl rfl rfl) rfl rfl (py_len tu30 rfl) (s_val (wg rfl rfl rfl) rfl rfl (py_gtr rfl rfl) (sV rfl (py_pickF rfl rfl) (s_nil (W_ifd rfl (fun c3 => ?_) (fun c3 => ?_))))))))
         ·refine W_seq ?_
          have tq := tapesF_many (z := z) (any_two h2 (by simp only [manyRecs]; simp_all <;> omega))
          refine W_reg (sA rfl rfl (s_nil (rT hQ Tryz.results93 rfl ?_)))
          exact ⟨eP2.ext, congrArg (Value.int .i64) ((if_neg (by omega)).trans ((if_pos hF).trans ((if_pos (by omega)).trans tq))).symm⟩
         ·refine W_skip (W_seq (W_seq ?_))
          have hM : z.Tapes.any manyRecs = false := any_neither h2 (by simp only [manyRecs]; simp_all <;> omega) (by simp only [manyRecs]; simp_all <;> omega)
          refine W_reg (sA rfl rfl (s_nil (W_block (W_loopS (γ := Nat) eP2 [(1, _)] ⟨rfl, trivial⟩ (fun k => [(4, .int .i64 k)]) (fun k => k ≤ z.Tapes.length ∧ tapeF z.Shape z.Tapes k = 0) (fun k => z.Tapes.length - k) 0 ⟨rfl, trivial⟩ ⟨by omega, rfl⟩ (fun k w6 H7 ⟨hk, hkz⟩ => ?_)))))
          dsimp only [lCA, lNA]
          refine W_seq (W_sr (sM rfl rfl (sV rfl (py_lss rfl rfl) (s_nil (W_ifd rfl (fun c4 => ?_) (fun c4 => ?_))))))
          ·refine W_skip (W_seq (W_block (W_sr (sA rfl rfl (s_nil (W_block (W_loopS (γ := Nat) H7 [(1, _), (4, _)] ⟨rfl, rfl, trivial⟩ (fun k2 => [(5, .int .i64 k2)]) (fun k2 => k2 ≤ (z.Tapes.getD k default).Recs.length ∧ recsF z.Shape (z.Tapes.getD k default).Recs k2 = 0) (fun k2 => (z.Tapes.getD k default).Recs.length - k2) 0 ⟨rfl, trivial⟩ ⟨by omega, rfl⟩ (fun k2 w7 H8 ⟨hk2, hk2z⟩ => ?_))))))))
           dsimp only [lCA, lNA]
           refine W_seq (W_seq ?_)
           obtain ⟨eb3, eo5, es3, ef3, ee3, ec3, eO3, eH3, em3⟩ := elem_st (H8.seen 2 rfl) k (by omega)
           obtain ⟨ea3, ek3, eg3, rfl, eq3, eK3, eo6⟩ := own_Tape eO3
           have eP3 := H8.look1 2 rfl eo6 (fun b hb => eH3 b (by rw [eq3]; simp [hb]))
           have eL3 := oL eo6
           refine W_reg (sM rfl rfl (sV rfl (py_field tu38 rfl ts36 rfl rfl) (sV rfl (py_load tu36 rfl rfl (cell_atL (eP3.box 0 rfl) rfl)) (sM rfl rfl (sV rfl (py_elz tu36 ts139 rfl rfl ee3 k (by omega) (by omega)) (sV rfl (py_field tu139 rfl ts30 rfl rfl) (sV rfl (py_load tu30 rfl rfl (at_cell ec3 1 rfl)) (sV rfl (py_len tu30 rfl) (sV rfl (py_lss rfl rfl) (s_nil (W_ifd rfl (fun c5 => ?_) (fun c5 => ?_))))))))))))
           ·refine W_skip (W_seq (W_block (W_seq ?_)))
            obtain ⟨eb4, eo7, es4, ef4, ee4, ec4, eO4, eH4, em4⟩ := elem_st (eP3.seen 2 rfl) k (by omega)
            obtain ⟨ea4, ek4, eg4, rfl, eq4, eK4, eo8⟩ := own_Tape eO4
            have eP4 := eP3.look1 2 rfl eo8 (fun b hb => eH4 b (by rw [eq4]; simp [hb]))
            have eL4 := oL eo8
            obtain ⟨eb5, eo9, es5, ef5, ee5, ec5, eO5, eH5, em5⟩ := elem_st (eP4.seen 6 rfl) k2 (by omega)
            obtain ⟨ea5, ek5, ea6, ek6, ea7, ek7, eg5, eg6, eg7, rfl, eq5, eK5, eo10, eo11, eo12⟩ := own_Rec eO5
            have eK5U := eK5
            unfold Rec.Ok at eK5U
            try unfold I64ok at eK5U
            try unfold maxLen at eK5U
            have eP5 := eP4.look1 6 rfl eo10 (fun b hb => eH5 b (by rw [eq5]; simp [hb]))
            have eL5 := oL eo10
            have eP6 := eP5.look1 6 rfl eo11 (fun b hb => eH5 b (by rw [eq5]; simp [hb]))
            have eL6 := oL eo11
            have eP7 := eP6.look1 6 rfl eo12 (fun b hb => eH5 b (by rw [eq5]; simp [hb]))
            have eL7 := oL eo12
            refine W_drw (S := Ext No _) [(0, true), (1, true), (2, true), (3, true), (4, true), (5, true), (6, true), (7, true), (8, true), (9, true), (10, true), (11, false), (12, false)] (by kernel_rfl) (by kernel_rfl) (by kernel_rfl) rfl (fun _ => Ext.refl.drawn _) (fun q2 => ?_)
            have H9 := eP7.drawn q2
            refine dV rfl rfl (fun zw hx => py_field tu38 rfl ts34 rfl rfl) (dV rfl rfl (fun zw hx => py_loadS tu34 rfl ts34 rfl rfl (At.sub (hx.heap (H9.box 0 rfl)) 9)) (dV rfl rfl (fun zw hx => py_field tu38 rfl ts36 rfl rfl) (dV rfl rfl (fun zw hx => py_load tu36 rfl rfl (cell_atL (hx.heap (H9.box 0 rfl)) rfl)) (dM rfl rfl rfl (dV rfl rfl (fun zw hx => py_elz tu36 ts139 rfl rfl ee4 k (by omega) (by omega)) (dV rfl rfl (fun zw hx => py_field tu139 rfl ts30 rfl rfl) (dV rfl rfl (fun zw hx => py_load tu30 rfl rfl (at_cell (hx.at ec4) 1 rfl)) (dM rfl rfl rfl (dV rfl rfl (fun zw hx => py_elz tu30 ts68 rfl rfl ee5 k2 (by omega) (by omega)) (dV rfl rfl (fun zw hx => py_loadS tu68 rfl ts68 rfl rfl (hx.at ec5)) (d_call rfl (wn rfl) rfl rfl (pc_call Tryz.func112 rfl Tryz_nm112 rfl) (Tryz_spec_RecFault (by assumption) (H9.sees 7 rfl) (H9.sees 8 rfl) (H9.sees 9 rfl)) (fun hS _ _ r _ => hS.trans r.1.no) (fun v5 w8 r5 => ?_))))))))))))
            obtain ⟨e6, rfl⟩ := r5
            have H10 := H9.to e6
            refine d_end rfl (wn rfl) rfl rfl (py_assign rfl) (d_nil (W_sr (sM rfl rfl (sV rfl (py_neq rfl rfl) (s_nil (W_ifd rfl (fun c6 => ?_) (fun c6 => ?_)))))))
            ·refine W_sr (sM rfl rfl (sA rfl rfl (s_nil (rT hQ Tryz.results93 rfl ?_))))
             have tq := tapesF_rec hM (k := k) (k2 := k2) (by omega) hkz (by omega) hk2z (by omega)
             exact ⟨H10.ext, congrArg (Value.int .i64) ((if_neg (by omega)).trans (((if_neg (by omega)).trans ((if_pos hF).trans ((if_pos (by omega)).trans tq)))).symm)⟩
            ·refine W_skip (W_reg (sM rfl rfl (sV rfl (py_add rfl rfl (in64 ⟨by omega, by omega⟩)) (sA rfl rfl (s_nil (⟨k2 + 1, ⟨rfl, rfl, rfl, trivial⟩, ⟨(H10.ftake 5), by omega, (recsF_next hk2z).trans (by omega)⟩, by dsimp only; omega⟩))))))
           ·refine W_exit (W_reg (sM rfl rfl (sV rfl (py_add rfl rfl (in64 ⟨by omega, by omega⟩)) (sA rfl rfl (s_nil ?_)))))
            obtain rfl : k2 = (z.Tapes.getD k default).Recs.length := by omega
            refine ⟨k + 1, ⟨rfl, rfl, trivial⟩, ⟨(eP3.ftake 5), by omega, (tapeF_next hkz).trans hk2z⟩, by dsimp only; omega⟩
          ·refine W_exit (W_seq (W_seq ?_))
           obtain rfl : k = z.Tapes.length := by omega
           have hAll := hkz
           refine W_reg (sA rfl rfl (s_nil (W_block (W_loopS (γ := Nat) H7 [(1, _)] ⟨rfl, trivial⟩ (fun k => [(7, .int .i64 k)]) (fun k => k ≤ 2 ∧ (∀ i, i < k → wipedFull (z.Tapes.getD i default) = false)) (fun k => 2 - k) 0 ⟨rfl, trivial⟩ ⟨by omega, fun i hi => by omega⟩ (fun k w9 H11 ⟨hk, hek⟩ => ?_)))))
           dsimp only [lCA, lNA]
           refine W_seq (W_sr (sM rfl rfl (sV rfl (py_lss rfl rfl) (s_nil (W_ifd rfl (fun c7 => ?_) (fun c7 => ?_))))))
           ·refine W_skip (W_seq (W_block (W_seq ?_)))
            obtain ⟨eb6, eo13, es6, ef6, ee6, ec6, eO6, eH6, em6⟩ := elem_st (H11.seen 2 rfl) k (by omega)
            obtain ⟨ea8, ek8, eg8, rfl, eq6, eK6, eo14⟩ := own_Tape eO6
            have eP8 := H11.look1 2 rfl eo14 (fun b hb => eH6 b (by rw [eq6]; simp [hb]))
            have eL8 := oL eo14
            refine W_reg (sV rfl (py_field tu38 rfl ts36 rfl rfl) (sV rfl (py_load tu36 rfl rfl (cell_atL (eP8.box 0 rfl) rfl)) (sM rfl rfl (sV rfl (py_elz tu36 ts139 rfl rfl ee6 k (by omega) (by omega)) (sV rfl (py_field tu139 rfl ts4 rfl rfl) (sV rfl (py_load tu4 rfl rfl (at_cell ec6 0 rfl)) (sM rfl rfl (s_case (t := 108) rfl (fun hg7 => ?_) (fun hg7 => ?_)))))))))
            ·try simp only [decide_eq_true_eq, decide_eq_false_iff_not] at hg7
             refine s_val (wg rfl rfl rfl) rfl rfl (py_field tu38 rfl ts36 rfl rfl) (s_val (wg rfl rfl rfl) rfl rfl (py_load tu36 rfl rfl (cell_atL (eP8.box 0 rfl) rfl)) (s_val (wg rfl rfl rfl) rfl rfl (py_move rfl) (s_val (wg rfl rfl rfl) rfl rfl (py_elz tu36 ts139 rfl rfl ee6 k (by omega) (by omega)) (s_val (wg rfl rfl rfl) rfl rfl (py_field tu139 rfl ts30 rfl rfl) (s_val (wg rfl rfl rfl) rfl rfl (py_load tu30 rfl rfl (at_cell ec6 1 rfl)) (s_val (wg rfl rfl rfl) rfl rfl (py_len tu30 rfl) (s_val (wg rfl rfl rfl) rfl rfl (py_gtr rfl rfl) (sV rfl (py_pickT rfl rfl) (s_nil (W_ifd rfl (fun c8 => ?_) (fun c8 => ?_)))))))))))
             ·refine W_sr (sA rfl rfl (s_nil (rT hQ Tryz.results93 rfl ?_)))
              have tq := tapesF_full hM hAll (any_at k (by omega) (by rw [wipedFull]; simp_all <;> omega))
              exact ⟨eP8.ext, congrArg (Value.int .i64) ((if_neg (by omega)).trans ((if_pos hF).trans ((if_pos (by omega)).trans tq))).symm⟩
             ·refine W_skip (W_reg (sM rfl rfl (sV rfl (py_add rfl rfl (in64 ⟨by omega, by omega⟩)) (sA rfl rfl (s_nil (⟨k + 1, ⟨rfl, rfl, trivial⟩, ⟨(eP8.ftake 5), by omega, fun i hi => ?_⟩, by dsimp only; omega⟩))))))
              by_cases e : i = k
              ·subst e; rw [wipedFull]; simp_all <;> omega
              ·exact hek i (by omega)
            ·try simp only [decide_eq_true_eq, decide_eq_false_iff_not] at hg7
             refine sKf rfl rfl rfl (sKf rfl rfl rfl (sKf rfl rfl rfl (sKf rfl rfl rfl (sKf rfl rfl rfl (sKf rfl rfl rfl (sKf rfl rfl rfl (sKf rfl rfl rfl (sV rfl (py_pickF rfl rfl) (s_nil (W_iff rfl (W_skip (W_reg (sM rfl rfl (sV rfl (py_add rfl rfl (in64 ⟨by omega, by omega⟩)) (sA rfl rfl (s_nil (⟨k + 1, ⟨rfl, rfl, trivial⟩, ⟨(eP8.ftake 5), by omega, fun i hi => ?_⟩, by dsimp only; omega⟩)))))))))))))))))
             by_cases e : i = k
             ·subst e; rw [wipedFull]; simp_all <;> omega
             ·exact hek i (by omega)
           ·refine W_exit (W_seq (W_seq ?_))
            have tq := tapesF_ok hM hAll (any_none (fun i hi => hek i (by omega)))
            refine W_reg (sV rfl (py_field tu38 rfl ts2 rfl rfl) (sV rfl (py_load tu2 rfl rfl (cell_atL (H11.box 0 rfl) rfl)) (s_call (wn rfl) rfl rfl (pc_call Tryz.func97 rfl Tryz_nm97 rfl) Tryz_spec_l1In (fun v6 w10 r6 => ?_))))
            obtain ⟨e7, rfl⟩ := r6
            have H12 := H11.to e7
            refine sV rfl (py_not rfl) (sM rfl rfl (s_case (t := 122) rfl (fun hg8 => ?_) (fun hg8 => ?_)))
            ·try simp only [decide_eq_true_eq, decide_eq_false_iff_not] at hg8
             refine sKt rfl rfl rfl (sKt rfl rfl rfl (sKt rfl rfl rfl (sKt rfl rfl rfl (sV rfl (py_pickT rfl rfl) (s_nil (W_ift rfl (W_sr (sA rfl rfl (s_nil (rT hQ Tryz.results93 rfl ?_))))))))))
             exact ⟨H12.ext, congrArg (Value.int .i64) ((if_neg (by omega)).trans ((if_pos hF).trans ((if_neg (by omega)).trans (if_neg (by simp_all <;> omega))))).symm⟩
            ·try simp only [decide_eq_true_eq, decide_eq_false_iff_not] at hg8
             refine s_val (wg rfl rfl rfl) rfl rfl (py_field tu38 rfl ts2 rfl rfl) (s_val (wg rfl rfl rfl) rfl rfl (py_load tu2 rfl rfl (cell_atL (H12.box 0 rfl) rfl)) (s_call (wg rfl rfl rfl) rfl rfl (pc_call Tryz.func97 rfl Tryz_nm97 rfl) Tryz_spec_l1In (fun v7 w11 r7 => ?_)))
             obtain ⟨e8, rfl⟩ := r7
             have H13 := H12.to e8
             refine s_val (wg rfl rfl rfl) rfl rfl (py_not rfl) (sV rfl (py_pickF rfl rfl) (s_nil (W_if rfl (fun c9 => ?_) (fun c9 => ?_))))
             ·refine W_sr (sA rfl rfl (s_nil (rT hQ Tryz.results93 rfl ?_)))
              exact ⟨H13.ext, congrArg (Value.int .i64) ((if_neg (by omega)).trans ((if_pos hF).trans ((if_neg (by omega)).trans (if_neg (by simp_all <;> omega))))).symm⟩
             ·refine W_skip (W_sr (sA rfl rfl (s_nil (rT hQ Tryz.results93 rfl ?_))))
              exact ⟨H13.ext, congrArg (Value.int .i64) ((if_neg (by omega)).trans ((if_pos hF).trans ((if_neg (by omega)).trans (if_pos (by simp_all <;> omega))))).symm⟩
     ·try simp only [decide_eq_true_eq, decide_eq_false_iff_not] at hg4
      refine dKf rfl rfl rfl rfl (dKf rfl rfl rfl rfl (dKf rfl rfl rfl rfl (dKf rfl rfl rfl rfl (d_val rfl (wg rfl rfl rfl) rfl rfl (fun zw hx => py_pickF rfl rfl) (dV rfl rfl (fun zw hx => py_pickF rfl rfl) (dM rfl rfl rfl (d_val rfl (wg rfl rfl rfl) rfl rfl (fun zw hx => py_field tu38 rfl ts36 rfl rfl) (d_val rfl (wg rfl rfl rfl) rfl rfl (fun zw hx => py_load tu36 rfl rfl (cell_atL (hx.heap (H3.box 0 rfl)) rfl)) (d_val rfl (wg rfl rfl rfl) rfl rfl (fun zw hx => py_len tu36 rfl) (d_val rfl (wg rfl rfl rfl) rfl rfl (fun zw hx => py_neq rfl rfl) (d_end rfl (wn rfl) rfl rfl (py_pickF rfl rfl) (d_nil (W_ifd rfl (fun c10 => ?_) (fun c10 => ?_))))))))))))))
      ·refine W_sr (sA rfl rfl (s_nil (rT hQ Tryz.results93 rfl ?_)))
       exact ⟨H6.ext, congrArg (Value.int .i64) ((if_neg (by omega)).trans (if_neg (by rw [← fine_eq]; first | (simp_all <;> omega) | (cases hh : z.On <;> simp_all <;> omega)))).symm⟩
      ·refine W_skip (W_seq (W_seq ?_))
       have hF : (groupsOK z && onOK z && decide (z.Tapes.length = 2)) = true := by rw [← fine_eq]; simp_all <;> omega
       have h2 : z.Tapes.length = 2 := by simp_all <;> omega
       obtain ⟨eb7, eo15, es7, ef7, ee7, ec7, eO7, eH7, em7⟩ := elem_st (H6.seen 2 rfl) 0 (by omega)
       obtain ⟨ea9, ek9, eg9, rfl, eq7, eK7, eo16⟩ := own_Tape eO7
       have eP9 := H6.look1 2 rfl eo16 (fun b hb => eH7 b (by rw [eq7]; simp [hb]))
       have eL9 := oL eo16
       refine W_reg (sV rfl (py_field tu38 rfl ts36 rfl rfl) (sV rfl (py_load tu36 rfl rfl (cell_atL (eP9.box 0 rfl) rfl)) (sV rfl (py_elz tu36 ts139 rfl rfl ee7 0 (by omega) (by omega)) (sV rfl (py_field tu139 rfl ts30 rfl rfl) (sV rfl (py_load tu30 rfl rfl (at_cell ec7 1 rfl)) (sV rfl (py_len tu30 rfl) (sV rfl (py_gtr rfl rfl) (sM rfl rfl (s_case (t := 59) rfl (fun hg9 => ?_) (fun hg9 => ?_))))))))))
       ·try simp only [decide_eq_true_eq, decide_eq_false_iff_not] at hg9
        refine sKt rfl rfl rfl (sKt rfl rfl rfl (sKt rfl rfl rfl (sKt rfl rfl rfl (sKt rfl rfl rfl (sKt rfl rfl rfl (sKt rfl rfl rfl (sV rfl (py_pickT rfl rfl) (s_nil (W_ift rfl (W_seq ?_))))))))))
        have tq := tapesF_many (z := z) (any_two h2 (by simp only [manyRecs]; simp_all <;> omega))
        refine W_reg (sA rfl rfl (s_nil (rT hQ Tryz.results93 rfl ?_)))
        exact ⟨eP9.ext, congrArg (Value.int .i64) ((if_neg (by omega)).trans ((if_pos hF).trans ((if_pos (by omega)).trans tq))).symm⟩
       ·try simp only [decide_eq_true_eq, decide_eq_false_iff_not] at hg9
        refine s_val (wg rfl rfl rfl) rfl rfl (py_field tu38 rfl ts36 rfl rfl) (s_val (wg rfl rfl rfl) rfl rfl (py_load tu36 rfl rfl (cell_atL (eP9.box 0 rfl) rfl)) ?_)
        obtain ⟨eb8, eo17, es8, ef8, ee8, ec8, eO8, eH8, em8⟩ := elem_st (eP9.seen 2 rfl) 1 (by omega)
        obtain ⟨ea10, ek10, eg10, rfl, eq8, eK8, eo18⟩ := own_Tape eO8
        have eP10 := eP9.look1 2 rfl eo18 (fun b hb => eH8 b (by rw [eq8]; simp [hb]))
        have eL10 := oL eo18
        refine s_val (wg rfl rfl rfl) rfl rfl (py_elz tu36 ts139 rfl rfl ee8 1 (by omega) (by omega)) (s_val (wg rfl rfl rfl) rfl rfl (py_field tu139 rfl ts30 rfl rfl) (s_val (wg rfl rfl rfl) rfl rfl (py_load tu30 rfl rfl (at_cell ec8 1 rfl)) (s_val (wg rfl rfl rfl) rfl rfl (py_len tu30 rfl) (s_val (wg rfl rfl rfl) rfl rfl (py_gtr rfl rfl) (sV rfl (py_pickF rfl rfl) (s_nil (W_ifd rfl (fun c11 => ?_) (fun c11 => ?_))))))))
        ·refine W_seq ?_
         have tq := tapesF_many (z := z) (any_two h2 (by simp only [manyRecs]; simp_all <;> omega))
         refine W_reg (sA rfl rfl (s_nil (rT hQ Tryz.results93 rfl ?_)))
         exact ⟨eP10.ext, congrArg (Value.int .i64) ((if_neg (by omega)).trans ((if_pos hF).trans ((if_pos (by omega)).trans tq))).symm⟩
        ·refine W_skip (W_seq (W_seq ?_))
         have hM : z.Tapes.any manyRecs = false := any_neither h2 (by simp only [manyRecs]; simp_all <;> omega) (by simp only [manyRecs]; simp_all <;> omega)
         refine W_reg (sA rfl rfl (s_nil (W_block (W_loopS (γ := Nat) eP10 [(1, _)] ⟨rfl, trivial⟩ (fun k => [(4, .int .i64 k)]) (fun k => k ≤ z.Tapes.length ∧ tapeF z.Shape z.Tapes k = 0) (fun k => z.Tapes.length - k) 0 ⟨rfl, trivial⟩ ⟨by omega, rfl⟩ (fun k w12 H14 ⟨hk, hkz⟩ => ?_)))))
         dsimp only [lCA, lNA]
         refine W_seq (W_sr (sM rfl rfl (sV rfl (py_lss rfl rfl) (s_nil (W_ifd rfl (fun c12 => ?_) (fun c12 => ?_))))))
         ·refine W_skip (W_seq (W_block (W_sr (sA rfl rfl (s_nil (W_block (W_loopS (γ := Nat) H14 [(1, _), (4, _)] ⟨rfl, rfl, trivial⟩ (fun k2 => [(5, .int .i64 k2)]) (fun k2 => k2 ≤ (z.Tapes.getD k default).Recs.length ∧ recsF z.Shape (z.Tapes.getD k default).Recs k2 = 0) (fun k2 => (z.Tapes.getD k default).Recs.length - k2) 0 ⟨rfl, trivial⟩ ⟨by omega, rfl⟩ (fun k2 w13 H15 ⟨hk2, hk2z⟩ => ?_))))))))
          dsimp only [lCA, lNA]
          refine W_seq (W_seq ?_)
          obtain ⟨eb9, eo19, es9, ef9, ee9, ec9, eO9, eH9, em9⟩ := elem_st (H15.seen 2 rfl) k (by omega)
          obtain ⟨ea11, ek11, eg11, rfl, eq9, eK9, eo20⟩ := own_Tape eO9
          have eP11 := H15.look1 2 rfl eo20 (fun b hb => eH9 b (by rw [eq9]; simp [hb]))
          have eL11 := oL eo20
          refine W_reg (sM rfl rfl (sV rfl (py_field tu38 rfl ts36 rfl rfl) (sV rfl (py_load tu36 rfl rfl (cell_atL (eP11.box 0 rfl) rfl)) (sM rfl rfl (sV rfl (py_elz tu36 ts139 rfl rfl ee9 k (by omega) (by omega)) (sV rfl (py_field tu139 rfl ts30 rfl rfl) (sV rfl (py_load tu30 rfl rfl (at_cell ec9 1 rfl)) (sV rfl (py_len tu30 rfl) (sV rfl (py_lss rfl rfl) (s_nil (W_ifd rfl (fun c13 => ?_) (fun c13 => ?_))))))))))))
          ·refine W_skip (W_seq (W_block (W_seq ?_)))
           obtain ⟨eb10, eo21, es10, ef10, ee10, ec10, eO10, eH10, em10⟩ := elem_st (eP11.seen 2 rfl) k (by omega)
           obtain ⟨ea12, ek12, eg12, rfl, eq10, eK10, eo22⟩ := own_Tape eO10
           have eP12 := eP11.look1 2 rfl eo22 (fun b hb => eH10 b (by rw [eq10]; simp [hb]))
           have eL12 := oL eo22
           obtain ⟨eb11, eo23, es11, ef11, ee11, ec11, eO11, eH11, em11⟩ := elem_st (eP12.seen 6 rfl) k2 (by omega)
           obtain ⟨ea13, ek13, ea14, ek14, ea15, ek15, eg13, eg14, eg15, rfl, eq11, eK11, eo24, eo25, eo26⟩ := own_Rec eO11
           have eK11U := eK11
           unfold Rec.Ok at eK11U
           try unfold I64ok at eK11U
           try unfold maxLen at eK11U
           have eP13 := eP12.look1 6 rfl eo24 (fun b hb => eH11 b (by rw [eq11]; simp [hb]))
           have eL13 := oL eo24
           have eP14 := eP13.look1 6 rfl eo25 (fun b hb => eH11 b (by rw [eq11]; simp [hb]))
           have eL14 := oL eo25
           have eP15 := eP14.look1 6 rfl eo26 (fun b hb => eH11 b (by rw [eq11]; simp [hb]))
           have eL15 := oL eo26
           refine W_drw (S := Ext No _) [(0, true), (1, true), (2, true), (3, true), (4, true), (5, true), (6, true), (7, true), (8, true), (9, true), (10, true), (11, false), (12, false)] (by kernel_rfl) (by kernel_rfl) (by kernel_rfl) rfl (fun _ => Ext.refl.drawn _) (fun q3 => ?_)
           have H16 := eP15.drawn q3
           refine dV rfl rfl (fun zw hx => py_field tu38 rfl ts34 rfl rfl) (dV rfl rfl (fun zw hx => py_loadS tu34 rfl ts34 rfl rfl (At.sub (hx.heap (H16.box 0 rfl)) 9)) (dV rfl rfl (fun zw hx => py_field tu38 rfl ts36 rfl rfl) (dV rfl rfl (fun zw hx => py_load tu36 rfl rfl (cell_atL (hx.heap (H16.box 0 rfl)) rfl)) (dM rfl rfl rfl (dV rfl rfl (fun zw hx => py_elz tu36 ts139 rfl rfl ee10 k (by omega) (by omega)) (dV rfl rfl (fun zw hx => py_field tu139 rfl ts30 rfl rfl) (dV rfl rfl (fun zw hx => py_load tu30 rfl rfl (at_cell (hx.at ec10) 1 rfl)) (dM rfl rfl rfl (dV rfl rfl (fun zw hx => py_elz tu30 ts68 rfl rfl ee11 k2 (by omega) (by omega)) (dV rfl rfl (fun zw hx => py_loadS tu68 rfl ts68 rfl rfl (hx.at ec11)) (d_call rfl (wn rfl) rfl rfl (pc_call Tryz.func112 rfl Tryz_nm112 rfl) (Tryz_spec_RecFault (by assumption) (H16.sees 7 rfl) (H16.sees 8 rfl) (H16.sees 9 rfl)) (fun hS _ _ r _ => hS.trans r.1.no) (fun v8 w14 r8 => ?_))))))))))))
           obtain ⟨e9, rfl⟩ := r8
           have H17 := H16.to e9
           refine d_end rfl (wn rfl) rfl rfl (py_assign rfl) (d_nil (W_sr (sM rfl rfl (sV rfl (py_neq rfl rfl) (s_nil (W_ifd rfl (fun c14 => ?_) (fun c14 => ?_)))))))
           ·refine W_sr (sM rfl rfl (sA rfl rfl (s_nil (rT hQ Tryz.results93 rfl ?_))))
            have tq := tapesF_rec hM (k := k) (k2 := k2) (by omega) hkz (by omega) hk2z (by omega)
            exact ⟨H17.ext, congrArg (Value.int .i64) ((if_neg (by omega)).trans (((if_neg (by omega)).trans ((if_pos hF).trans ((if_pos (by omega)).trans tq)))).symm)⟩
           ·refine W_skip (W_reg (sM rfl rfl (sV rfl (py_add rfl rfl (in64 ⟨by omega, by omega⟩)) (sA rfl rfl (s_nil (⟨k2 + 1, ⟨rfl, rfl, rfl, trivial⟩, ⟨(H17.ftake 5), by omega, (recsF_next hk2z).trans (by omega)⟩, by dsimp only; omega⟩))))))
          ·refine W_exit (W_reg (sM rfl rfl (sV rfl (py_add rfl rfl (in64 ⟨by omega, by omega⟩)) (sA rfl rfl (s_nil ?_)))))
           obtain rfl : k2 = (z.Tapes.getD k default).Recs.length := by omega
           refine ⟨k + 1, ⟨rfl, rfl, trivial⟩, ⟨(eP11.ftake 5), by omega, (tapeF_next hkz).trans hk2z⟩, by dsimp only; omega⟩
         ·refine W_exit (W_seq (W_seq ?_))
          obtain rfl : k = z.Tapes.length := by omega
          have hAll := hkz
          refine W_reg (sA rfl rfl (s_nil (W_block (W_loopS (γ := Nat) H14 [(1, _)] ⟨rfl, trivial⟩ (fun k => [(7, .int .i64 k)]) (fun k => k ≤ 2 ∧ (∀ i, i < k → wipedFull (z.Tapes.getD i default) = false)) (fun k => 2 - k) 0 ⟨rfl, trivial⟩ ⟨by omega, fun i hi => by omega⟩ (fun k w15 H18 ⟨hk, hek⟩ => ?_)))))
          dsimp only [lCA, lNA]
          refine W_seq (W_sr (sM rfl rfl (sV rfl (py_lss rfl rfl) (s_nil (W_ifd rfl (fun c15 => ?_) (fun c15 => ?_))))))
          ·refine W_skip (W_seq (W_block (W_seq ?_)))
           obtain ⟨eb12, eo27, es12, ef12, ee12, ec12, eO12, eH12, em12⟩ := elem_st (H18.seen 2 rfl) k (by omega)
           obtain ⟨ea16, ek16, eg16, rfl, eq12, eK12, eo28⟩ := own_Tape eO12
           have eP16 := H18.look1 2 rfl eo28 (fun b hb => eH12 b (by rw [eq12]; simp [hb]))
           have eL16 := oL eo28
           refine W_reg (sV rfl (py_field tu38 rfl ts36 rfl rfl) (sV rfl (py_load tu36 rfl rfl (cell_atL (eP16.box 0 rfl) rfl)) (sM rfl rfl (sV rfl (py_elz tu36 ts139 rfl rfl ee12 k (by omega) (by omega)) (sV rfl (py_field tu139 rfl ts4 rfl rfl) (sV rfl (py_load tu4 rfl rfl (at_cell ec12 0 rfl)) (sM rfl rfl (s_case (t := 108) rfl (fun hg10 => ?_) (fun hg10 => ?_)))))))))
           ·try simp only [decide_eq_true_eq, decide_eq_false_iff_not] at hg10
            refine s_val (wg rfl rfl rfl) rfl rfl (py_field tu38 rfl ts36 rfl rfl) (s_val (wg rfl rfl rfl) rfl rfl (py_load tu36 rfl rfl (cell_atL (eP16.box 0 rfl) rfl)) (s_val (wg rfl rfl rfl) rfl rfl (py_move rfl) (s_val (wg rfl rfl rfl) rfl rfl (py_elz tu36 ts139 rfl rfl ee12 k (by omega) (by omega)) (s_val (wg rfl rfl rfl) rfl rfl (py_field tu139 rfl ts30 rfl rfl) (s_val (wg rfl rfl rfl) rfl rfl (py_load tu30 rfl rfl (at_cell ec12 1 rfl)) (s_val (wg rfl rfl rfl) rfl rfl (py_len tu30 rfl) (s_val (wg rfl rfl rfl) rfl rfl (py_gtr rfl rfl) (sV rfl (py_pickT rfl rfl) (s_nil (W_ifd rfl (fun c16 => ?_) (fun c16 => ?_)))))))))))
            ·refine W_sr (sA rfl rfl (s_nil (rT hQ Tryz.results93 rfl ?_)))
             have tq := tapesF_full hM hAll (any_at k (by omega) (by rw [wipedFull]; simp_all <;> omega))
             exact ⟨eP16.ext, congrArg (Value.int .i64) ((if_neg (by omega)).trans ((if_pos hF).trans ((if_pos (by omega)).trans tq))).symm⟩
            ·refine W_skip (W_reg (sM rfl rfl (sV rfl (py_add rfl rfl (in64 ⟨by omega, by omega⟩)) (sA rfl rfl (s_nil (⟨k + 1, ⟨rfl, rfl, trivial⟩, ⟨(eP16.ftake 5), by omega, fun i hi => ?_⟩, by dsimp only; omega⟩))))))
             by_cases e : i = k
             ·subst e; rw [wipedFull]; simp_all <;> omega
             ·exact hek i (by omega)
           ·try simp only [decide_eq_true_eq, decide_eq_false_iff_not] at hg10
            refine sKf rfl rfl rfl (sKf rfl rfl rfl (sKf rfl rfl rfl (sKf rfl rfl rfl (sKf rfl rfl rfl (sKf rfl rfl rfl (sKf rfl rfl rfl (sKf rfl rfl rfl (sV rfl (py_pickF rfl rfl) (s_nil (W_iff rfl (W_skip (W_reg (sM rfl rfl (sV rfl (py_add rfl rfl (in64 ⟨by omega, by omega⟩)) (sA rfl rfl (s_nil (⟨k + 1, ⟨rfl, rfl, trivial⟩, ⟨(eP16.ftake 5), by omega, fun i hi => ?_⟩, by dsimp only; omega⟩)))))))))))))))))
            by_cases e : i = k
            ·subst e; rw [wipedFull]; simp_all <;> omega
            ·exact hek i (by omega)
          ·refine W_exit (W_seq (W_seq ?_))
           have tq := tapesF_ok hM hAll (any_none (fun i hi => hek i (by omega)))
           refine W_reg (sV rfl (py_field tu38 rfl ts2 rfl rfl) (sV rfl (py_load tu2 rfl rfl (cell_atL (H18.box 0 rfl) rfl)) (s_call (wn rfl) rfl rfl (pc_call Tryz.func97 rfl Tryz_nm97 rfl) Tryz_spec_l1In (fun v9 w16 r9 => ?_))))
           obtain ⟨e10, rfl⟩ := r9
           have H19 := H18.to e10
           refine sV rfl (py_not rfl) (sM rfl rfl (s_case (t := 122) rfl (fun hg11 => ?_) (fun hg11 => ?_)))
           ·try simp only [decide_eq_true_eq, decide_eq_false_iff_not] at hg11
            refine sKt rfl rfl rfl (sKt rfl rfl rfl (sKt rfl rfl rfl (sKt rfl rfl rfl (sV rfl (py_pickT rfl rfl) (s_nil (W_ift rfl (W_sr (sA rfl rfl (s_nil (rT hQ Tryz.results93 rfl ?_))))))))))
            exact ⟨H19.ext, congrArg (Value.int .i64) ((if_neg (by omega)).trans ((if_pos hF).trans ((if_neg (by omega)).trans (if_neg (by simp_all <;> omega))))).symm⟩
           ·try simp only [decide_eq_true_eq, decide_eq_false_iff_not] at hg11
            refine s_val (wg rfl rfl rfl) rfl rfl (py_field tu38 rfl ts2 rfl rfl) (s_val (wg rfl rfl rfl) rfl rfl (py_load tu2 rfl rfl (cell_atL (H19.box 0 rfl) rfl)) (s_call (wg rfl rfl rfl) rfl rfl (pc_call Tryz.func97 rfl Tryz_nm97 rfl) Tryz_spec_l1In (fun v10 w17 r10 => ?_)))
            obtain ⟨e11, rfl⟩ := r10
            have H20 := H19.to e11
            refine s_val (wg rfl rfl rfl) rfl rfl (py_not rfl) (sV rfl (py_pickF rfl rfl) (s_nil (W_if rfl (fun c17 => ?_) (fun c17 => ?_))))
            ·refine W_sr (sA rfl rfl (s_nil (rT hQ Tryz.results93 rfl ?_)))
             exact ⟨H20.ext, congrArg (Value.int .i64) ((if_neg (by omega)).trans ((if_pos hF).trans ((if_neg (by omega)).trans (if_neg (by simp_all <;> omega))))).symm⟩
            ·refine W_skip (W_sr (sA rfl rfl (s_nil (rT hQ Tryz.results93 rfl ?_))))
             exact ⟨H20.ext, congrArg (Value.int .i64) ((if_neg (by omega)).trans ((if_pos hF).trans ((if_neg (by omega)).trans (if_pos (by simp_all <;> omega))))).symm⟩
theorem Tryz_spec_l5Asked {w : World} {z : Wld} {zA9 zA10 zA11 : Option Addr} {zC9 zC10 zC11 : Nat} (zK : z.Ok) (zS9 : Sees w [.slice zA9 z.Groups.length zC9] z.Groups) (zS10 : Sees w [.slice zA10 z.On.length zC10] z.On) (zS11 : Sees w [.slice zA11 z.Tapes.length zC11] z.Tapes) : Ret Tryz.prog 125 #[z.val zA9 zC9 zA10 zC10 zA11 zC11] w fun v w' => Ext No w w' ∧ (v = .int .i64 (upF z)) := by
 have zK2 := zK
 unfold Wld.Ok Shape.Ok at zK2
 try unfold I64ok at zK2
 try unfold maxLen at zK2
 have zL9 := sL zS9
 obtain ⟨zF9, zO9⟩ := zS9
 have zL10 := sL zS10
 obtain ⟨zF10, zO10⟩ := zS10
 have zL11 := sL zS11
 obtain ⟨zF11, zO11⟩ := zS11
 refine ret_Q (vs := [z.val zA9 zC9 zA10 zC10 zA11 zC11]) Tryz.func125 rfl Tryz.ntmps125 rfl (fun Q hQ hN => ?_)
 have H0 := Sep.start (w := w) (F := [seen false [.slice zA9 z.Groups.length zC9] z.Groups zF9, seen false [.slice zA10 z.On.length zC10] z.On zF10, seen false [.slice zA11 z.Tapes.length zC11] z.Tapes zF11]) (all_cons zO9 (all_cons zO10 (all_cons zO11 (by simp))))
 refine W_sr (s_box (wn rfl) rfl rfl H0 (fun b1 w1 e1 g1 H1 => ?_))
 refine sA rfl rfl (s_nil (W_seq (W_sr (sV rfl (py_loadS tu38 rfl ts38 rfl rfl (At.whole (H1.box 0 rfl))) (s_call (wn rfl) rfl rfl (pc_call Tryz.func93 rfl Tryz_nm93 rfl) (Tryz_spec_WorldFault (by assumption) (H1.sees 0 rfl) (H1.sees 1 rfl) (H1.sees 2 rfl)) (fun v1 w2 r1 => ?_))))))
 obtain ⟨e2, rfl⟩ := r1
 have H2 := H1.to e2
 refine sA rfl rfl (s_nil (W_sr (sM rfl rfl (sV rfl (py_neq rfl rfl) (s_nil (W_ifd rfl (fun c1 => ?_) (fun c1 => ?_)))))))
 ·refine W_sr (sM rfl rfl (sA rfl rfl (s_nil (rT hQ Tryz.results125 rfl ?_))))
  exact ⟨H2.ext, congrArg (Value.int .i64) (if_pos (by omega)).symm⟩
 ·refine W_skip (W_seq (W_sr (sV rfl (py_field tu38 rfl ts4 rfl rfl) (sV rfl (py_load tu4 rfl rfl (cell_atL (H2.box 0 rfl) rfl)) (s_nil (W_if rfl (fun c2 => ?_) (fun c2 => ?_)))))))
  ·refine W_sr (sA rfl rfl (s_nil (rT hQ Tryz.results125 rfl ?_)))
   exact ⟨H2.ext, congrArg (Value.int .i64) ((if_neg (by omega)).trans (if_pos (by assumption))).symm⟩
  ·refine W_skip (W_sr (sA rfl rfl (s_nil (rT hQ Tryz.results125 rfl ?_))))
   exact ⟨H2.ext, congrArg (Value.int .i64) ((if_neg (by omega)).trans (if_neg (by simp_all <;> omega))).symm⟩
end Go.Wk
namespace Go.Wk
open Rp (sz own)
section
variable {z : Wld} {s : Shape} {g row d : Int}
theorem groupF_no (h : ins g 0 (z.Shape.Groups + z.Shape.Column - 1) = false) : groupF z g = 3 := by rw [groupF, if_neg (by simp [h])]
theorem groupF_off (h : ins g 0 (z.Shape.Groups + z.Shape.Column - 1) = true) (h2 : ¬ g ∈ z.On) : groupF z g = 8 := by rw [groupF, if_pos h, if_neg h2]
theorem groupF_ok (h : ins g 0 (z.Shape.Groups + z.Shape.Column - 1) = true) (h2 : g ∈ z.On) : groupF z g = 0 := by rw [groupF, if_pos h, if_pos h2]
def placeF (s : Shape) (g d row : Int) : Bool := ins g 0 (s.Groups + s.Column - 1) && (ins d 0 (s.Data + s.Spare - 1) && ins row 0 (s.Rows - 1))
theorem place_zero (h : s.ok = true) : placeF s g 0 row = (ins g 0 (s.Groups + s.Column - 1) && ins row 0 (s.Rows - 1)) := by
  have := shape_bd h
  have : ins 0 0 (s.Data + s.Spare - 1) = true := ins_iff.2 (by omega)
  rw [placeF, this, Bool.true_and]
theorem rowF_place (h : z.Shape.ok = true) (h2 : placeF z.Shape g 0 row = false) : rowF z g row = 3 := by
  rw [place_zero h] at h2
  unfold rowF
  by_cases hg : ins g 0 (z.Shape.Groups + z.Shape.Column - 1) = true
  · rw [if_pos ⟨hg, by rw [hg, Bool.true_and] at h2; exact h2⟩]
  · rw [if_neg (fun e => hg e.1), groupF_no (by simpa using hg)]
theorem rowF_in (h : z.Shape.ok = true) (h2 : placeF z.Shape g 0 row = true) : rowF z g row = groupF z g ∧ ins g 0 (z.Shape.Groups + z.Shape.Column - 1) = true := by
  rw [place_zero h, Bool.and_eq_true] at h2
  exact ⟨by rw [rowF, if_neg (by simp [h2.2])], h2.1⟩
theorem rowF_off (h : z.Shape.ok = true) (h2 : placeF z.Shape g 0 row = true) (h3 : decide (g ∈ z.On) = false) : rowF z g row = 8 := by
  rw [(rowF_in h h2).1, groupF_off (rowF_in h h2).2 (of_decide_eq_false h3)]
theorem rowF_on (h : z.Shape.ok = true) (h2 : placeF z.Shape g 0 row = true) (h3 : decide (g ∈ z.On) = true) : rowF z g row = 0 := by
  rw [(rowF_in h h2).1, groupF_ok (rowF_in h h2).2 (of_decide_eq_true h3)]
theorem groupF_zero (h : groupF z g = 0) : ins g 0 (z.Shape.Groups + z.Shape.Column - 1) = true ∧ g ∈ z.On := by
  unfold groupF at h
  split at h
  · rename_i h1
    split at h
    · rename_i h2; exact ⟨h1, h2⟩
    · cases h
  · cases h
theorem whereF_ok (h : whereF z g row = 0) : z.Shape.ok = true ∧ groupsOK z = true ∧ ins g 0 (z.Shape.Groups + z.Shape.Column - 1) = true ∧ ins row 0 (z.Shape.Rows - 1) = true ∧ g ∈ z.On := by
  unfold whereF at h
  split at h
  · rename_i h1; exact absurd h h1
  · rename_i h1
    have hw := worldF_ok (upF_ok (w := z) (by omega)).1
    unfold rowF at h
    split at h
    · cases h
    · rename_i h2
      obtain ⟨h3, h4⟩ := groupF_zero h
      exact ⟨hw.1, hw.2.1, h3, by cases hr : ins row 0 (z.Shape.Rows - 1) <;> simp_all, h4⟩
theorem whereF_up (h : whereF z g row = 0) : upF z = 0 := by
  unfold whereF at h
  split at h
  · rename_i h1; exact absurd h h1
  · omega
end
end Go.Wk
namespace Go.Wk
section
variable {z : Wld} {s : Shape} {r : Rec} {g row d : Int}
theorem shape_cd : 0 ≤ s.fault ∧ s.fault ≤ 3 := by unfold Shape.fault; split <;> omega
theorem name_cd {b : ByteArray} : 0 ≤ nameFault b ∧ nameFault b ≤ 5 := by unfold nameFault; split <;> omega
theorem kindF_cd : 0 ≤ kindF s r ∧ kindF s r ≤ 5 := by
  have := name_cd (b := r.Name)
  unfold kindF
  repeat' split
  all_goals omega
theorem recF_cd : 0 ≤ recF s r ∧ recF s r ≤ 5 := by
  have := kindF_cd (s := s) (r := r)
  unfold recF
  repeat' split
  all_goals omega
theorem recsF_cd {rs : List Rec} : ∀ k, 0 ≤ recsF s rs k ∧ recsF s rs k ≤ 5
  | 0 => by simp [recsF]
  | k + 1 => by
    have h1 := recsF_cd (rs := rs) k
    have h2 := recF_cd (s := s) (r := rs.getD k default)
    rw [recsF]
    split <;> omega
theorem tapeF_cd {ts : List Tape} : ∀ k, 0 ≤ tapeF s ts k ∧ tapeF s ts k ≤ 5
  | 0 => by simp [tapeF]
  | k + 1 => by
    have h1 := tapeF_cd (ts := ts) k
    have h2 := recsF_cd (s := s) (rs := (ts.getD k default).Recs) (ts.getD k default).Recs.length
    rw [tapeF]
    split <;> omega
theorem tapesF_cd : 0 ≤ tapesF z ∧ tapesF z ≤ 5 := by
  have := tapeF_cd (s := z.Shape) (ts := z.Tapes) z.Tapes.length
  unfold tapesF
  repeat' split
  all_goals omega
theorem worldF_cd : 0 ≤ worldF z ∧ worldF z ≤ 5 := by
  have h1 := shape_cd (s := z.Shape)
  have h2 := tapesF_cd (z := z)
  unfold worldF
  repeat' split
  all_goals omega
theorem upF_cd : 0 ≤ upF z ∧ upF z ≤ 9 := by
  have h1 := worldF_cd (z := z)
  unfold upF
  repeat' split
  all_goals omega
theorem groupF_cd : 0 ≤ groupF z g ∧ groupF z g ≤ 8 := by unfold groupF; repeat' split <;> omega
theorem rowF_cd : 0 ≤ rowF z g row ∧ rowF z g row ≤ 8 := by
  have h1 := groupF_cd (z := z) (g := g)
  unfold rowF; split <;> omega
theorem whereF_cd : 0 ≤ whereF z g row ∧ whereF z g row ≤ 9 := by
  have h1 := upF_cd (z := z)
  have h2 := rowF_cd (z := z) (g := g) (row := row)
  unfold whereF; split <;> omega
end
end Go.Wk
namespace Go.Wk
open Go.Proofs Rp
set_option maxRecDepth 10000
theorem Tryz_impl_World_isOn {w : World} {zb zC9 zC10 zC11 : Nat} {z : Wld} {zA9 zA10 zA11 : Option Addr} {g : Int} (zB : w.heap[zb]? = some (.cells [.int .i64 z.Shape.Groups, .int .i64 z.Shape.Column, .int .i64 z.Shape.Data, .int .i64 z.Shape.Spare, .int .i64 z.Shape.Rows, .int .i64 z.Shape.Cap, .int .i64 z.Shape.Batch, .int .i64 z.Shape.Queue, .int .i64 z.Shape.Stage, .slice zA9 z.Groups.length zC9, .slice zA10 z.On.length zC10, .slice zA11 z.Tapes.length zC11, .int .i64 z.Writes, .int .i64 z.Stop, .bool z.Down].toArray 38)) (zK : z.Ok) (zS9 : Sees w [.slice zA9 z.Groups.length zC9] z.Groups) (zS10 : Sees w [.slice zA10 z.On.length zC10] z.On) (zS11 : Sees w [.slice zA11 z.Tapes.length zC11] z.Tapes) : Ret Tryz.prog 199 #[.pointer (some ⟨zb, 0, none⟩), .int .i64 g] w fun v w' => Ext No w w' ∧ (v = .bool (decide (g ∈ z.On))) := by
 have zK2 := zK
 unfold Wld.Ok Shape.Ok at zK2
 try unfold I64ok at zK2
 try unfold maxLen at zK2
 have zL9 := sL zS9
 obtain ⟨zF9, zO9⟩ := zS9
 have zL10 := sL zS10
 obtain ⟨zF10, zO10⟩ := zS10
 have zL11 := sL zS11
 obtain ⟨zF11, zO11⟩ := zS11
 refine ret_Q (vs := [.pointer (some ⟨zb, 0, none⟩), .int .i64 g]) Tryz.func199 rfl Tryz.ntmps199 rfl (fun Q hQ hN => ?_)
 have H0 := Sep.start (w := w) (F := [box zb (.cells [.int .i64 z.Shape.Groups, .int .i64 z.Shape.Column, .int .i64 z.Shape.Data, .int .i64 z.Shape.Spare, .int .i64 z.Shape.Rows, .int .i64 z.Shape.Cap, .int .i64 z.Shape.Batch, .int .i64 z.Shape.Queue, .int .i64 z.Shape.Stage, .slice zA9 z.Groups.length zC9, .slice zA10 z.On.length zC10, .slice zA11 z.Tapes.length zC11, .int .i64 z.Writes, .int .i64 z.Stop, .bool z.Down].toArray 38), seen false [.slice zA9 z.Groups.length zC9] z.Groups zF9, seen false [.slice zA10 z.On.length zC10] z.On zF10, seen false [.slice zA11 z.Tapes.length zC11] z.Tapes zF11]) (all_cons (by exact zB) (all_cons zO9 (all_cons zO10 (all_cons zO11 (by simp)))))
 refine W_sr (sA rfl rfl (s_nil (W_sr (sM rfl rfl (sV rfl (py_nil rfl) (sV rfl (py_field tu38 rfl ts25 rfl rfl) (sV rfl (py_load tu25 rfl rfl (cell_atL (H0.fbox 0 rfl) rfl)) (sM rfl rfl (s_call (wn rfl) rfl rfl (pc_call Tryz.func243 rfl Tryz_nm243 rfl) (Tryz_slices_Contains_int64_int64 (H0.sees 2 rfl)) (fun v1 w1 r1 => ?_))))))))))
 obtain ⟨e1, rfl⟩ := r1
 have H1 := H0.to e1
 refine sA rfl rfl (s_nil (rT hQ Tryz.results199 rfl ?_))
 exact ⟨H1.ext, rfl⟩
theorem Tryz_impl_World_groupFault {w : World} {zb zC9 zC10 zC11 : Nat} {z : Wld} {zA9 zA10 zA11 : Option Addr} {g : Int} (zB : w.heap[zb]? = some (.cells [.int .i64 z.Shape.Groups, .int .i64 z.Shape.Column, .int .i64 z.Shape.Data, .int .i64 z.Shape.Spare, .int .i64 z.Shape.Rows, .int .i64 z.Shape.Cap, .int .i64 z.Shape.Batch, .int .i64 z.Shape.Queue, .int .i64 z.Shape.Stage, .slice zA9 z.Groups.length zC9, .slice zA10 z.On.length zC10, .slice zA11 z.Tapes.length zC11, .int .i64 z.Writes, .int .i64 z.Stop, .bool z.Down].toArray 38)) (zK : z.Ok) (zS9 : Sees w [.slice zA9 z.Groups.length zC9] z.Groups) (zS10 : Sees w [.slice zA10 z.On.length zC10] z.On) (zS11 : Sees w [.slice zA11 z.Tapes.length zC11] z.Tapes) (hs : z.Shape.ok = true) : Ret Tryz.prog 118 #[.pointer (some ⟨zb, 0, none⟩), .int .i64 g] w fun v w' => Ext No w w' ∧ (v = .int .i64 (groupF z g)) := by
 have zK2 := zK
 unfold Wld.Ok Shape.Ok at zK2
 try unfold I64ok at zK2
 try unfold maxLen at zK2
 have zL9 := sL zS9
 obtain ⟨zF9, zO9⟩ := zS9
 have zL10 := sL zS10
 obtain ⟨zF10, zO10⟩ := zS10
 have zL11 := sL zS11
 obtain ⟨zF11, zO11⟩ := zS11
 have sbd := shape_bd hs
 refine ret_Q (vs := [.pointer (some ⟨zb, 0, none⟩), .int .i64 g]) Tryz.func118 rfl Tryz.ntmps118 rfl (fun Q hQ hN => ?_)
 have H0 := Sep.start (w := w) (F := [box zb (.cells [.int .i64 z.Shape.Groups, .int .i64 z.Shape.Column, .int .i64 z.Shape.Data, .int .i64 z.Shape.Spare, .int .i64 z.Shape.Rows, .int .i64 z.Shape.Cap, .int .i64 z.Shape.Batch, .int .i64 z.Shape.Queue, .int .i64 z.Shape.Stage, .slice zA9 z.Groups.length zC9, .slice zA10 z.On.length zC10, .slice zA11 z.Tapes.length zC11, .int .i64 z.Writes, .int .i64 z.Stop, .bool z.Down].toArray 38), seen false [.slice zA9 z.Groups.length zC9] z.Groups zF9, seen false [.slice zA10 z.On.length zC10] z.On zF10, seen false [.slice zA11 z.Tapes.length zC11] z.Tapes zF11]) (all_cons (by exact zB) (all_cons zO9 (all_cons zO10 (all_cons zO11 (by simp)))))
 refine W_sr (sA rfl rfl (s_nil (W_seq (W_block (W_sr (sM rfl rfl (sV rfl (py_nil rfl) (sV rfl (py_field tu38 rfl ts34 rfl rfl) (sV rfl (py_loadS tu34 rfl ts34 rfl rfl (At.sub (H0.fbox 0 rfl) 9)) (sM rfl rfl (s_call (wn rfl) rfl rfl (pc_call Tryz.func71 rfl Tryz_nm71 rfl) (Tryz_impl_Shape_isGroup (by assumption)) (fun v1 w1 r1 => ?_))))))))))))
 obtain ⟨e1, rfl⟩ := r1
 have H1 := H0.to e1
 refine sV rfl (py_not rfl) (sA rfl rfl (s_nil (W_if rfl (fun c1 => ?_) (fun c1 => ?_))))
 ·refine W_sr (sA rfl rfl (s_nil (rT hQ Tryz.results118 rfl ?_)))
  exact ⟨H1.ext, congrArg (Value.int .i64) (groupF_no (not_true c1)).symm⟩
 ·refine W_sr (sM rfl rfl (sM rfl rfl (s_call (wn rfl) rfl rfl (pc_call Tryz.func199 rfl Tryz_nm199 rfl) (Tryz_impl_World_isOn (H1.fbox 0 rfl) (by assumption) (H1.sees 1 rfl) (H1.sees 2 rfl) (H1.sees 3 rfl)) (fun v2 w2 r2 => ?_))))
  obtain ⟨e2, rfl⟩ := r2
  have H2 := H1.to e2
  refine sV rfl (py_not rfl) (sA rfl rfl (s_nil (W_if rfl (fun c2 => ?_) (fun c2 => ?_))))
  ·refine W_sr (sA rfl rfl (s_nil (rT hQ Tryz.results118 rfl ?_)))
   exact ⟨H2.ext, congrArg (Value.int .i64) (groupF_off (not_false c1) (of_decide_eq_false (not_true c2))).symm⟩
  ·refine W_skip (W_sr (sA rfl rfl (s_nil (rT hQ Tryz.results118 rfl ?_))))
   exact ⟨H2.ext, congrArg (Value.int .i64) (groupF_ok (not_false c1) (of_decide_eq_true (not_false c2))).symm⟩
theorem Tryz_spec_l5Place {w : World} {s : Shape} {g d row : Int} (hs : s.ok = true) : Ret Tryz.prog 137 #[s.v, .int .i64 g, .int .i64 d, .int .i64 row] w fun v w' => Ext No w w' ∧ (v = .bool (placeF s g d row)) := by
 have sbd := shape_bd hs
 refine ret_Q (vs := [s.v, .int .i64 g, .int .i64 d, .int .i64 row]) Tryz.func137 rfl Tryz.ntmps137 rfl (fun Q hQ hN => ?_)
 have H0 := Sep.start (w := w) (F := []) (by simp)
 refine W_sr (s_box (wn rfl) rfl rfl H0 (fun b1 w1 e1 g1 H1 => ?_))
 refine sA rfl rfl (s_nil (W_sr (sM rfl rfl (sV rfl (py_loadS tu34 rfl ts34 rfl rfl (At.whole (H1.box 0 rfl))) (s_call (wn rfl) rfl rfl (pc_call Tryz.func162 rfl Tryz_nm162 rfl) (Tryz_spec_l5All (by assumption)) (fun v1 w2 r1 => ?_))))))
 obtain ⟨e2, rfl⟩ := r1
 have H2 := H1.to e2
 refine sV rfl (py_sub rfl rfl (in64 ⟨by omega, by omega⟩)) (s_call (wn rfl) rfl rfl (pc_call Tryz.func97 rfl Tryz_nm97 rfl) Tryz_spec_l1In (fun v2 w3 r2 => ?_))
 obtain ⟨e3, rfl⟩ := r2
 have H3 := H2.to e3
 refine sM rfl rfl (s_grp 5 (j := 5) (want := true) (t := 19) rfl rfl rfl rfl (fun hg1 kk1 => s_val (wgE rfl rfl rfl hg1) rfl rfl (py_move rfl) (s_val (wgE rfl rfl rfl hg1) rfl rfl (py_loadS tu34 rfl ts34 rfl rfl (At.whole (H3.box 0 rfl))) (s_callv (wgE rfl rfl rfl hg1) rfl rfl (pc_call Tryz.func232 rfl Tryz_nm232 rfl) (Tryz_spec_l5Drives (by assumption)) (fun w5 e5 => s_val (wgE rfl rfl rfl hg1) rfl rfl (py_sub rfl rfl (in64 ⟨by omega, by omega⟩)) (s_callv (wgE rfl rfl rfl hg1) rfl rfl (pc_call Tryz.func97 rfl Tryz_nm97 rfl) Tryz_spec_l1In (fun w6 e6 => kk1 _ _ (kx rfl (kx rfl (kx rfl (kx rfl (kx rfl k0))))) rfl ((Ext.refl.trans e5).trans e6))))))) (fun w4 e4 => ?_))
 have H4 := H3.to e4
 refine sV rfl (py_band rfl rfl) (sM rfl rfl (s_grp 5 (j := 12) (want := true) (t := 26) rfl rfl rfl rfl (fun hg2 kk2 => s_val (wgE rfl rfl rfl hg2) rfl rfl (py_move rfl) (s_val (wgE rfl rfl rfl hg2) rfl rfl (py_field tu34 rfl ts2 rfl rfl) (s_val (wgE rfl rfl rfl hg2) rfl rfl (py_load tu2 rfl rfl (cell_atL (H4.box 0 rfl) rfl)) (s_val (wgE rfl rfl rfl hg2) rfl rfl (py_sub rfl rfl (in64 ⟨by omega, by omega⟩)) (s_callv (wgE rfl rfl rfl hg2) rfl rfl (pc_call Tryz.func97 rfl Tryz_nm97 rfl) Tryz_spec_l1In (fun w8 e8 => kk2 _ _ (kx rfl (kx rfl (kx rfl (kx rfl (kx rfl k0))))) rfl (Ext.refl.trans e8))))))) (fun w7 e7 => ?_)))
 have H5 := H4.to e7
 refine sV rfl (py_band rfl rfl) (sA rfl rfl (s_nil (rT hQ Tryz.results137 rfl ?_)))
 exact ⟨H5.ext, congrArg Value.bool (by simp [placeF, Bool.and_assoc])⟩
theorem Tryz_spec_l7Where {w : World} {z : Wld} {zA9 zA10 zA11 : Option Addr} {zC9 zC10 zC11 : Nat} {g row : Int} (zK : z.Ok) (zS9 : Sees w [.slice zA9 z.Groups.length zC9] z.Groups) (zS10 : Sees w [.slice zA10 z.On.length zC10] z.On) (zS11 : Sees w [.slice zA11 z.Tapes.length zC11] z.Tapes) : Ret Tryz.prog 111 #[z.val zA9 zC9 zA10 zC10 zA11 zC11, .int .i64 g, .int .i64 row] w fun v w' => Ext No w w' ∧ (v = .int .i64 (whereF z g row)) := by
 have zK2 := zK
 unfold Wld.Ok Shape.Ok at zK2
 try unfold I64ok at zK2
 try unfold maxLen at zK2
 have zL9 := sL zS9
 obtain ⟨zF9, zO9⟩ := zS9
 have zL10 := sL zS10
 obtain ⟨zF10, zO10⟩ := zS10
 have zL11 := sL zS11
 obtain ⟨zF11, zO11⟩ := zS11
 refine ret_Q (vs := [z.val zA9 zC9 zA10 zC10 zA11 zC11, .int .i64 g, .int .i64 row]) Tryz.func111 rfl Tryz.ntmps111 rfl (fun Q hQ hN => ?_)
 have H0 := Sep.start (w := w) (F := [seen false [.slice zA9 z.Groups.length zC9] z.Groups zF9, seen false [.slice zA10 z.On.length zC10] z.On zF10, seen false [.slice zA11 z.Tapes.length zC11] z.Tapes zF11]) (all_cons zO9 (all_cons zO10 (all_cons zO11 (by simp))))
 refine W_sr (s_box (wn rfl) rfl rfl H0 (fun b1 w1 e1 g1 H1 => ?_))
 refine sA rfl rfl (s_nil (W_seq (W_sr (sV rfl (py_loadS tu38 rfl ts38 rfl rfl (At.whole (H1.box 0 rfl))) (s_call (wn rfl) rfl rfl (pc_call Tryz.func125 rfl Tryz_nm125 rfl) (Tryz_spec_l5Asked (by assumption) (H1.sees 0 rfl) (H1.sees 1 rfl) (H1.sees 2 rfl)) (fun v1 w2 r1 => ?_))))))
 obtain ⟨e2, rfl⟩ := r1
 have H2 := H1.to e2
 refine sA rfl rfl (s_nil (W_sr (sM rfl rfl (sV rfl (py_neq rfl rfl) (s_nil (W_ifd rfl (fun c1 => ?_) (fun c1 => ?_)))))))
 ·refine W_sr (sM rfl rfl (sA rfl rfl (s_nil (rT hQ Tryz.results111 rfl ?_))))
  exact ⟨H2.ext, congrArg (Value.int .i64) (if_pos (by omega)).symm⟩
 ·refine W_skip (W_seq (W_seq ?_))
  have hs := (worldF_ok (upF_ok (w := z) (by omega)).1).1
  have sbd := shape_bd hs
  refine W_reg (sV rfl (py_field tu38 rfl ts34 rfl rfl) (sV rfl (py_loadS tu34 rfl ts34 rfl rfl (At.sub (H2.box 0 rfl) 9)) (sM rfl rfl (sM rfl rfl (s_call (wn rfl) rfl rfl (pc_call Tryz.func137 rfl Tryz_nm137 rfl) (Tryz_spec_l5Place (by assumption)) (fun v2 w3 r2 => ?_))))))
  obtain ⟨e3, rfl⟩ := r2
  have H3 := H2.to e3
  refine sV rfl (py_not rfl) (s_nil (W_if rfl (fun c2 => ?_) (fun c2 => ?_)))
  ·refine W_sr (sA rfl rfl (s_nil (rT hQ Tryz.results111 rfl ?_)))
   exact ⟨H3.ext, congrArg (Value.int .i64) ((if_neg (by omega)).trans (rowF_place hs (not_true c2))).symm⟩
  ·refine W_skip (W_seq (W_sr (sV rfl (py_field tu38 rfl ts25 rfl rfl) (sV rfl (py_load tu25 rfl rfl (cell_atL (H3.box 0 rfl) rfl)) (sM rfl rfl (s_call (wn rfl) rfl rfl (pc_call Tryz.func156 rfl Tryz_nm156 rfl) (Tryz_spec_l1Has (H3.sees 1 rfl)) (fun v3 w4 r3 => ?_)))))))
   obtain ⟨e4, rfl⟩ := r3
   have H4 := H3.to e4
   refine sV rfl (py_not rfl) (s_nil (W_if rfl (fun c3 => ?_) (fun c3 => ?_)))
   ·refine W_sr (sA rfl rfl (s_nil (rT hQ Tryz.results111 rfl ?_)))
    exact ⟨H4.ext, congrArg (Value.int .i64) ((if_neg (by omega)).trans (rowF_off hs (not_false c2) (not_true c3))).symm⟩
   ·refine W_skip (W_sr (sA rfl rfl (s_nil (rT hQ Tryz.results111 rfl ?_))))
    exact ⟨H4.ext, congrArg (Value.int .i64) ((if_neg (by omega)).trans (rowF_on hs (not_false c2) (not_false c3))).symm⟩
end Go.Wk
