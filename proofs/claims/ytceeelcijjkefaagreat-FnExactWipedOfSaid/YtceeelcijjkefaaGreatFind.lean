/-
  The functions walked, each once. (Printed by a program of mine.)
-/
import Derived.Test.YtceeelcijjkefaaGreatTypes
import Derived.Test.YtceeelcijjkefaaGreatWmA
import Derived.Test.YtceeelcijjkefaaGreatWlC
set_option linter.unusedVariables false
set_option linter.unusedSimpArgs false
namespace Go.Wk
open Go.Proofs Rp
set_option maxRecDepth 10000
theorem Tryz_IndexFunc_int64 {w : World} {xs : List Int} {xsA : Option Addr} {xsC : Nat} {gf : FuncId} {gL : List Value} {gF : Func} (xsS : Sees w [.slice xsA xs.length xsC] xs) {p : Int → Bool} (gH : Tryz.prog.funcs[gf]? = some gF) (gB : gF.body.isNone = false) (gN : (gF.name == "runtime.NumGoroutine") = false) (gC : ∀ w1, Ext No w w1 → ∀ (i0 : Nat), i0 < xs.length → Ret Tryz.prog gf (([.int .i64 (xs.getD i0 0)] : List Value) ++ gL).toArray w1 fun v w' => Ext No w1 w' ∧ v = .bool (p (xs.getD i0 0))) : Ret Tryz.prog 281 #[.slice xsA xs.length xsC, .func (.func gf) #[] gL.toArray] w fun v w' => Ext No w w' ∧ (v = .int .i64 (firstOf p xs)) := by
  have xsL := sees_len xsS
  unfold maxLen at xsL
  obtain ⟨xsF, xsO⟩ := xsS
  refine ret_Q (vs := [.slice xsA xs.length xsC, .func (.func gf) #[] gL.toArray]) Tryz.func281 rfl Tryz.ntmps281 rfl (fun Q hQ hN => ?_)
  have H0 := Sep.start (w := w) (F := [seen false [.slice xsA xs.length xsC] xs xsF]) (all_cons xsO (by simp))
  refine W_seq ?_
  refine W_reg ?_
  refine s_val (wn rfl) rfl rfl (py_assign rfl) ?_
  refine s_nil ?_
  refine W_seq ?_
  refine W_seq ?_
  refine W_reg ?_
  refine s_val (wn rfl) rfl rfl (py_move rfl) (s_val (wn rfl) rfl rfl (py_len Tryz.underlying25 rfl) (s_val (wn rfl) rfl rfl (py_move rfl) ?_))
  refine s_nil ?_
  refine W_block ?_
  refine W_loopS (γ := Nat) H0 [(0, _), (1, _), (7, _)] ⟨rfl, rfl, rfl, trivial⟩ (fun k => [(8, .int .i64 k)]) (fun k => k ≤ xs.length ∧ (∀ i, i < k → p (xs.getD i 0) = false)) (fun k => xs.length - k) 0 ⟨rfl, trivial⟩ ⟨by omega, fun i hi => by omega⟩ (fun k w1 H1 ⟨hk, he⟩ => ?_)
  dsimp only [List.cons_append, List.nil_append]
  refine W_seq ?_
  refine W_reg ?_
  refine s_val (wn rfl) rfl rfl (py_lss rfl rfl) ?_
  refine s_nil ?_
  refine W_seq ?_
  refine W_ifd rfl (fun c1 => ?_) (fun c1 => ?_)
  · refine W_skip ?_
    refine W_seq ?_
    refine W_block ?_
    refine W_seq ?_
    refine W_reg ?_
    refine s_val (wn rfl) rfl rfl (py_move rfl) (s_val (wn rfl) rfl rfl (py_assign rfl) ?_)
    refine s_nil ?_
    refine W_seq ?_
    obtain ⟨eb1, eo1, ee1, ec1⟩ := elem_int (H1.seen 0 rfl) k (by omega)
    have eI1 := elem_i64 (H1.seen 0 rfl) k (by omega)
    refine W_reg ?_
    refine s_val (wn rfl) rfl rfl (py_move rfl) (s_val (wn rfl) rfl rfl (py_move rfl) (s_val (wn rfl) rfl rfl (py_move rfl) (s_val (wn rfl) rfl rfl (py_elz Tryz.underlying25 Tryz.sizeOf2 rfl rfl ee1 k (by omega) (by omega)) (s_val (wn rfl) rfl rfl (py_load Tryz.underlying2 rfl rfl ec1) ?_))))
    refine s_call (wn rfl) rfl rfl (pc_callv (lb := gL) rfl gH gB gN rfl) (gC _ H1.ext k (by omega)) (fun v1 w2 r1 => ?_)
    obtain ⟨e1, rfl⟩ := r1
    have H2 := H1.to e1
    refine s_nil ?_
    refine W_if rfl (fun c2 => ?_) (fun c2 => ?_)
    · refine W_seq ?_
      refine W_reg ?_
      refine s_val (wn rfl) rfl rfl (py_move rfl) (s_val (wn rfl) rfl rfl (py_assign rfl) ?_)
      refine s_nil ?_
      refine W_ret (hQ _ _ (fin1 Tryz.results281 rfl ?_))
      exact ⟨H2.ext, congrArg (Value.int .i64) (firstOf_at (d := 0) (by omega) (by assumption) he).symm⟩
    · refine W_skip ?_
      refine W_reg ?_
      refine s_val (wn rfl) rfl rfl (py_add rfl rfl (in64 ⟨by omega, by omega⟩)) (s_val (wn rfl) rfl rfl (py_move rfl) ?_)
      refine s_nil ?_
      refine ⟨k + 1, ⟨rfl, rfl, rfl, rfl, trivial⟩, ⟨H2, by omega, fun i hi => ?_⟩, by dsimp only; omega⟩
      by_cases e : i = k
      · subst e
        assumption
      · exact he i (by omega)
  · refine W_exit ?_
    refine W_seq ?_
    refine W_reg ?_
    refine s_val (wn rfl) rfl rfl (py_assign rfl) ?_
    refine s_nil ?_
    refine W_ret (hQ _ _ (fin1 Tryz.results281 rfl ?_))
    exact ⟨H1.ext, congrArg (Value.int .i64) (firstOf_no (d := 0) (fun i hi => he i (by omega))).symm⟩
theorem Tryz_ContainsFunc_int64 {w : World} {xs : List Int} {xsA : Option Addr} {xsC : Nat} {gf : FuncId} {gL : List Value} {gF : Func} (xsS : Sees w [.slice xsA xs.length xsC] xs) {p : Int → Bool} (gH : Tryz.prog.funcs[gf]? = some gF) (gB : gF.body.isNone = false) (gN : (gF.name == "runtime.NumGoroutine") = false) (gC : ∀ w1, Ext No w w1 → ∀ (i0 : Nat), i0 < xs.length → Ret Tryz.prog gf (([.int .i64 (xs.getD i0 0)] : List Value) ++ gL).toArray w1 fun v w' => Ext No w1 w' ∧ v = .bool (p (xs.getD i0 0))) : Ret Tryz.prog 242 #[.slice xsA xs.length xsC, .func (.func gf) #[] gL.toArray] w fun v w' => Ext No w w' ∧ (v = .bool (xs.any p)) := by
  have xsL := sees_len xsS
  unfold maxLen at xsL
  obtain ⟨xsF, xsO⟩ := xsS
  refine ret_Q (vs := [.slice xsA xs.length xsC, .func (.func gf) #[] gL.toArray]) Tryz.func242 rfl Tryz.ntmps242 rfl (fun Q hQ hN => ?_)
  have H0 := Sep.start (w := w) (F := [seen false [.slice xsA xs.length xsC] xs xsF]) (all_cons xsO (by simp))
  refine W_seq ?_
  refine W_reg ?_
  refine s_val (wn rfl) rfl rfl (py_assign rfl) ?_
  refine s_nil ?_
  refine W_seq ?_
  refine W_reg ?_
  refine s_val (wn rfl) rfl rfl (py_move rfl) (s_val (wn rfl) rfl rfl (py_move rfl) ?_)
  refine s_call (wn rfl) rfl rfl (pc_call Tryz.func281 rfl Tryz_nm281 rfl) (Tryz_IndexFunc_int64 (H0.sees 0 rfl) gH gB gN (fun w1 e1 => gC w1 (H0.ext.trans e1))) (fun v1 w1 r1 => ?_)
  obtain ⟨e1, rfl⟩ := r1
  have H1 := H0.to e1
  refine s_val (wn rfl) rfl rfl (py_geq rfl rfl) (s_val (wn rfl) rfl rfl (py_assign rfl) ?_)
  refine s_nil ?_
  refine W_ret (hQ _ _ (fin1 Tryz.results242 rfl ?_))
  exact ⟨H1.ext, by rw [← firstOf_any]⟩
theorem Tryz_IndexFunc_Block {w : World} {xs : List Block} {xsA : Option Addr} {xsC : Nat} {gf : FuncId} {gL : List Value} {gF : Func} (xsS : Sees w [.slice xsA xs.length xsC] xs) {p : Block → Bool} (gH : Tryz.prog.funcs[gf]? = some gF) (gB : gF.body.isNone = false) (gN : (gF.name == "runtime.NumGoroutine") = false) (gC : ∀ w1, Ext No w w1 → ∀ (i0 : Nat), i0 < xs.length → ∀ (A0_1 : Option Addr) (C0_1 : Nat) (_ : (xs.getD i0 default).Ok) (_ : Sees w1 [.slice A0_1 (xs.getD i0 default).Bytes.length C0_1] (xs.getD i0 default).Bytes), Ret Tryz.prog gf (([(xs.getD i0 default).val A0_1 C0_1] : List Value) ++ gL).toArray w1 fun v w' => Ext No w1 w' ∧ v = .bool (p (xs.getD i0 default))) : Ret Tryz.prog 270 #[.slice xsA xs.length xsC, .func (.func gf) #[] gL.toArray] w fun v w' => Ext No w w' ∧ (v = .int .i64 (firstOf p xs)) := by
  have xsL := sees_len xsS
  unfold maxLen at xsL
  obtain ⟨xsF, xsO⟩ := xsS
  refine ret_Q (vs := [.slice xsA xs.length xsC, .func (.func gf) #[] gL.toArray]) Tryz.func270 rfl Tryz.ntmps270 rfl (fun Q hQ hN => ?_)
  have H0 := Sep.start (w := w) (F := [seen false [.slice xsA xs.length xsC] xs xsF]) (all_cons xsO (by simp))
  refine W_seq ?_
  refine W_reg ?_
  refine s_val (wn rfl) rfl rfl (py_assign rfl) ?_
  refine s_nil ?_
  refine W_seq ?_
  refine W_seq ?_
  refine W_reg ?_
  refine s_val (wn rfl) rfl rfl (py_move rfl) (s_val (wn rfl) rfl rfl (py_len Tryz.underlying148 rfl) (s_val (wn rfl) rfl rfl (py_move rfl) ?_))
  refine s_nil ?_
  refine W_block ?_
  refine W_loopS (γ := Nat) H0 [(0, _), (1, _), (7, _)] ⟨rfl, rfl, rfl, trivial⟩ (fun k => [(8, .int .i64 k)]) (fun k => k ≤ xs.length ∧ (∀ i, i < k → p (xs.getD i default) = false)) (fun k => xs.length - k) 0 ⟨rfl, trivial⟩ ⟨by omega, fun i hi => by omega⟩ (fun k w1 H1 ⟨hk, he⟩ => ?_)
  dsimp only [List.cons_append, List.nil_append]
  refine W_seq ?_
  refine W_reg ?_
  refine s_val (wn rfl) rfl rfl (py_lss rfl rfl) ?_
  refine s_nil ?_
  refine W_seq ?_
  refine W_ifd rfl (fun c1 => ?_) (fun c1 => ?_)
  · refine W_skip ?_
    refine W_seq ?_
    refine W_block ?_
    refine W_seq ?_
    refine W_reg ?_
    refine s_val (wn rfl) rfl rfl (py_move rfl) (s_val (wn rfl) rfl rfl (py_assign rfl) ?_)
    refine s_nil ?_
    refine W_seq ?_
    obtain ⟨eb1, eo1, es1, ef1, ee1, ec1, eO1, eH1, em1⟩ := elem_st (H1.seen 0 rfl) k (by omega)
    obtain ⟨ea1, ek1, eg1, rfl, eq1, eK1, eo2⟩ := own_Block eO1
    have eK1U := eK1
    unfold Block.Ok at eK1U
    try unfold I64ok at eK1U
    try unfold maxLen at eK1U
    have eP1 := H1.look1 0 rfl eo2 (fun b hb => eH1 b (by rw [eq1]; simp [hb]))
    have eL1 := own_len_le eo2
    unfold maxLen at eL1
    refine W_reg ?_
    refine s_val (wn rfl) rfl rfl (py_move rfl) (s_val (wn rfl) rfl rfl (py_move rfl) (s_val (wn rfl) rfl rfl (py_move rfl) (s_val (wn rfl) rfl rfl (py_elz Tryz.underlying148 Tryz.sizeOf152 rfl rfl ee1 k (by omega) (by omega)) (s_val (wn rfl) rfl rfl (py_loadS Tryz.underlying152 rfl Tryz.sizeOf152 rfl rfl ec1) ?_))))
    refine s_call (wn rfl) rfl rfl (pc_callv (lb := gL) rfl gH gB gN rfl) (gC _ eP1.ext k (by omega) _ _ (by assumption) (eP1.sees 1 rfl)) (fun v1 w2 r1 => ?_)
    obtain ⟨e1, rfl⟩ := r1
    have H2 := eP1.to e1
    refine s_nil ?_
    refine W_if rfl (fun c2 => ?_) (fun c2 => ?_)
    · refine W_seq ?_
      refine W_reg ?_
      refine s_val (wn rfl) rfl rfl (py_move rfl) (s_val (wn rfl) rfl rfl (py_assign rfl) ?_)
      refine s_nil ?_
      refine W_ret (hQ _ _ (fin1 Tryz.results270 rfl ?_))
      exact ⟨H2.ext, congrArg (Value.int .i64) (firstOf_at (d := default) (by omega) (by assumption) he).symm⟩
    · refine W_skip ?_
      refine W_reg ?_
      refine s_val (wn rfl) rfl rfl (py_add rfl rfl (in64 ⟨by omega, by omega⟩)) (s_val (wn rfl) rfl rfl (py_move rfl) ?_)
      refine s_nil ?_
      refine ⟨k + 1, ⟨rfl, rfl, rfl, rfl, trivial⟩, ⟨(H2.ftake 1), by omega, fun i hi => ?_⟩, by dsimp only; omega⟩
      by_cases e : i = k
      · subst e
        assumption
      · exact he i (by omega)
  · refine W_exit ?_
    refine W_seq ?_
    refine W_reg ?_
    refine s_val (wn rfl) rfl rfl (py_assign rfl) ?_
    refine s_nil ?_
    refine W_ret (hQ _ _ (fin1 Tryz.results270 rfl ?_))
    exact ⟨H1.ext, congrArg (Value.int .i64) (firstOf_no (d := default) (fun i hi => he i (by omega))).symm⟩
theorem Tryz_ContainsFunc_Block {w : World} {xs : List Block} {xsA : Option Addr} {xsC : Nat} {gf : FuncId} {gL : List Value} {gF : Func} (xsS : Sees w [.slice xsA xs.length xsC] xs) {p : Block → Bool} (gH : Tryz.prog.funcs[gf]? = some gF) (gB : gF.body.isNone = false) (gN : (gF.name == "runtime.NumGoroutine") = false) (gC : ∀ w1, Ext No w w1 → ∀ (i0 : Nat), i0 < xs.length → ∀ (A0_1 : Option Addr) (C0_1 : Nat) (_ : (xs.getD i0 default).Ok) (_ : Sees w1 [.slice A0_1 (xs.getD i0 default).Bytes.length C0_1] (xs.getD i0 default).Bytes), Ret Tryz.prog gf (([(xs.getD i0 default).val A0_1 C0_1] : List Value) ++ gL).toArray w1 fun v w' => Ext No w1 w' ∧ v = .bool (p (xs.getD i0 default))) : Ret Tryz.prog 217 #[.slice xsA xs.length xsC, .func (.func gf) #[] gL.toArray] w fun v w' => Ext No w w' ∧ (v = .bool (xs.any p)) := by
  have xsL := sees_len xsS
  unfold maxLen at xsL
  obtain ⟨xsF, xsO⟩ := xsS
  refine ret_Q (vs := [.slice xsA xs.length xsC, .func (.func gf) #[] gL.toArray]) Tryz.func217 rfl Tryz.ntmps217 rfl (fun Q hQ hN => ?_)
  have H0 := Sep.start (w := w) (F := [seen false [.slice xsA xs.length xsC] xs xsF]) (all_cons xsO (by simp))
  refine W_seq ?_
  refine W_reg ?_
  refine s_val (wn rfl) rfl rfl (py_assign rfl) ?_
  refine s_nil ?_
  refine W_seq ?_
  refine W_reg ?_
  refine s_val (wn rfl) rfl rfl (py_move rfl) (s_val (wn rfl) rfl rfl (py_move rfl) ?_)
  refine s_call (wn rfl) rfl rfl (pc_call Tryz.func270 rfl Tryz_nm270 rfl) (Tryz_IndexFunc_Block (H0.sees 0 rfl) gH gB gN (fun w1 e1 => gC w1 (H0.ext.trans e1))) (fun v1 w1 r1 => ?_)
  obtain ⟨e1, rfl⟩ := r1
  have H1 := H0.to e1
  refine s_val (wn rfl) rfl rfl (py_geq rfl rfl) (s_val (wn rfl) rfl rfl (py_assign rfl) ?_)
  refine s_nil ?_
  refine W_ret (hQ _ _ (fin1 Tryz.results217 rfl ?_))
  exact ⟨H1.ext, by rw [← firstOf_any]⟩
theorem Tryz_IndexFunc_Tape {w : World} {xs : List Tape} {xsA : Option Addr} {xsC : Nat} {gf : FuncId} {gL : List Value} {gF : Func} (xsS : Sees w [.slice xsA xs.length xsC] xs) {p : Tape → Bool} (gH : Tryz.prog.funcs[gf]? = some gF) (gB : gF.body.isNone = false) (gN : (gF.name == "runtime.NumGoroutine") = false) (gC : ∀ w1, Ext No w w1 → ∀ (i0 : Nat), i0 < xs.length → ∀ (A0_1 : Option Addr) (C0_1 : Nat) (_ : (xs.getD i0 default).Ok) (_ : Sees w1 [.slice A0_1 (xs.getD i0 default).Recs.length C0_1] (xs.getD i0 default).Recs), Ret Tryz.prog gf (([(xs.getD i0 default).val A0_1 C0_1] : List Value) ++ gL).toArray w1 fun v w' => Ext No w1 w' ∧ v = .bool (p (xs.getD i0 default))) : Ret Tryz.prog 272 #[.slice xsA xs.length xsC, .func (.func gf) #[] gL.toArray] w fun v w' => Ext No w w' ∧ (v = .int .i64 (firstOf p xs)) := by
  have xsL := sees_len xsS
  unfold maxLen at xsL
  obtain ⟨xsF, xsO⟩ := xsS
  refine ret_Q (vs := [.slice xsA xs.length xsC, .func (.func gf) #[] gL.toArray]) Tryz.func272 rfl Tryz.ntmps272 rfl (fun Q hQ hN => ?_)
  have H0 := Sep.start (w := w) (F := [seen false [.slice xsA xs.length xsC] xs xsF]) (all_cons xsO (by simp))
  refine W_seq ?_
  refine W_reg ?_
  refine s_val (wn rfl) rfl rfl (py_assign rfl) ?_
  refine s_nil ?_
  refine W_seq ?_
  refine W_seq ?_
  refine W_reg ?_
  refine s_val (wn rfl) rfl rfl (py_move rfl) (s_val (wn rfl) rfl rfl (py_len Tryz.underlying35 rfl) (s_val (wn rfl) rfl rfl (py_move rfl) ?_))
  refine s_nil ?_
  refine W_block ?_
  refine W_loopS (γ := Nat) H0 [(0, _), (1, _), (7, _)] ⟨rfl, rfl, rfl, trivial⟩ (fun k => [(8, .int .i64 k)]) (fun k => k ≤ xs.length ∧ (∀ i, i < k → p (xs.getD i default) = false)) (fun k => xs.length - k) 0 ⟨rfl, trivial⟩ ⟨by omega, fun i hi => by omega⟩ (fun k w1 H1 ⟨hk, he⟩ => ?_)
  dsimp only [List.cons_append, List.nil_append]
  refine W_seq ?_
  refine W_reg ?_
  refine s_val (wn rfl) rfl rfl (py_lss rfl rfl) ?_
  refine s_nil ?_
  refine W_seq ?_
  refine W_ifd rfl (fun c1 => ?_) (fun c1 => ?_)
  · refine W_skip ?_
    refine W_seq ?_
    refine W_block ?_
    refine W_seq ?_
    refine W_reg ?_
    refine s_val (wn rfl) rfl rfl (py_move rfl) (s_val (wn rfl) rfl rfl (py_assign rfl) ?_)
    refine s_nil ?_
    refine W_seq ?_
    obtain ⟨eb1, eo1, es1, ef1, ee1, ec1, eO1, eH1, em1⟩ := elem_st (H1.seen 0 rfl) k (by omega)
    obtain ⟨ea1, ek1, eg1, rfl, eq1, eK1, eo2⟩ := own_Tape eO1
    have eP1 := H1.look1 0 rfl eo2 (fun b hb => eH1 b (by rw [eq1]; simp [hb]))
    have eL1 := own_len_le eo2
    unfold maxLen at eL1
    refine W_reg ?_
    refine s_val (wn rfl) rfl rfl (py_move rfl) (s_val (wn rfl) rfl rfl (py_move rfl) (s_val (wn rfl) rfl rfl (py_move rfl) (s_val (wn rfl) rfl rfl (py_elz Tryz.underlying35 Tryz.sizeOf155 rfl rfl ee1 k (by omega) (by omega)) (s_val (wn rfl) rfl rfl (py_loadS Tryz.underlying155 rfl Tryz.sizeOf155 rfl rfl ec1) ?_))))
    refine s_call (wn rfl) rfl rfl (pc_callv (lb := gL) rfl gH gB gN rfl) (gC _ eP1.ext k (by omega) _ _ (by assumption) (eP1.sees 1 rfl)) (fun v1 w2 r1 => ?_)
    obtain ⟨e1, rfl⟩ := r1
    have H2 := eP1.to e1
    refine s_nil ?_
    refine W_if rfl (fun c2 => ?_) (fun c2 => ?_)
    · refine W_seq ?_
      refine W_reg ?_
      refine s_val (wn rfl) rfl rfl (py_move rfl) (s_val (wn rfl) rfl rfl (py_assign rfl) ?_)
      refine s_nil ?_
      refine W_ret (hQ _ _ (fin1 Tryz.results272 rfl ?_))
      exact ⟨H2.ext, congrArg (Value.int .i64) (firstOf_at (d := default) (by omega) (by assumption) he).symm⟩
    · refine W_skip ?_
      refine W_reg ?_
      refine s_val (wn rfl) rfl rfl (py_add rfl rfl (in64 ⟨by omega, by omega⟩)) (s_val (wn rfl) rfl rfl (py_move rfl) ?_)
      refine s_nil ?_
      refine ⟨k + 1, ⟨rfl, rfl, rfl, rfl, trivial⟩, ⟨(H2.ftake 1), by omega, fun i hi => ?_⟩, by dsimp only; omega⟩
      by_cases e : i = k
      · subst e
        assumption
      · exact he i (by omega)
  · refine W_exit ?_
    refine W_seq ?_
    refine W_reg ?_
    refine s_val (wn rfl) rfl rfl (py_assign rfl) ?_
    refine s_nil ?_
    refine W_ret (hQ _ _ (fin1 Tryz.results272 rfl ?_))
    exact ⟨H1.ext, congrArg (Value.int .i64) (firstOf_no (d := default) (fun i hi => he i (by omega))).symm⟩
theorem Tryz_ContainsFunc_Tape {w : World} {xs : List Tape} {xsA : Option Addr} {xsC : Nat} {gf : FuncId} {gL : List Value} {gF : Func} (xsS : Sees w [.slice xsA xs.length xsC] xs) {p : Tape → Bool} (gH : Tryz.prog.funcs[gf]? = some gF) (gB : gF.body.isNone = false) (gN : (gF.name == "runtime.NumGoroutine") = false) (gC : ∀ w1, Ext No w w1 → ∀ (i0 : Nat), i0 < xs.length → ∀ (A0_1 : Option Addr) (C0_1 : Nat) (_ : (xs.getD i0 default).Ok) (_ : Sees w1 [.slice A0_1 (xs.getD i0 default).Recs.length C0_1] (xs.getD i0 default).Recs), Ret Tryz.prog gf (([(xs.getD i0 default).val A0_1 C0_1] : List Value) ++ gL).toArray w1 fun v w' => Ext No w1 w' ∧ v = .bool (p (xs.getD i0 default))) : Ret Tryz.prog 221 #[.slice xsA xs.length xsC, .func (.func gf) #[] gL.toArray] w fun v w' => Ext No w w' ∧ (v = .bool (xs.any p)) := by
  have xsL := sees_len xsS
  unfold maxLen at xsL
  obtain ⟨xsF, xsO⟩ := xsS
  refine ret_Q (vs := [.slice xsA xs.length xsC, .func (.func gf) #[] gL.toArray]) Tryz.func221 rfl Tryz.ntmps221 rfl (fun Q hQ hN => ?_)
  have H0 := Sep.start (w := w) (F := [seen false [.slice xsA xs.length xsC] xs xsF]) (all_cons xsO (by simp))
  refine W_seq ?_
  refine W_reg ?_
  refine s_val (wn rfl) rfl rfl (py_assign rfl) ?_
  refine s_nil ?_
  refine W_seq ?_
  refine W_reg ?_
  refine s_val (wn rfl) rfl rfl (py_move rfl) (s_val (wn rfl) rfl rfl (py_move rfl) ?_)
  refine s_call (wn rfl) rfl rfl (pc_call Tryz.func272 rfl Tryz_nm272 rfl) (Tryz_IndexFunc_Tape (H0.sees 0 rfl) gH gB gN (fun w1 e1 => gC w1 (H0.ext.trans e1))) (fun v1 w1 r1 => ?_)
  obtain ⟨e1, rfl⟩ := r1
  have H1 := H0.to e1
  refine s_val (wn rfl) rfl rfl (py_geq rfl rfl) (s_val (wn rfl) rfl rfl (py_assign rfl) ?_)
  refine s_nil ?_
  refine W_ret (hQ _ _ (fin1 Tryz.results221 rfl ?_))
  exact ⟨H1.ext, by rw [← firstOf_any]⟩
theorem Tryz_IndexFunc_Rec {w : World} {xs : List Rec} {xsA : Option Addr} {xsC : Nat} {gf : FuncId} {gL : List Value} {gF : Func} (xsS : Sees w [.slice xsA xs.length xsC] xs) {p : Rec → Bool} (gH : Tryz.prog.funcs[gf]? = some gF) (gB : gF.body.isNone = false) (gN : (gF.name == "runtime.NumGoroutine") = false) (gC : ∀ w1, Ext No w w1 → ∀ (i0 : Nat), i0 < xs.length → ∀ (A0_6 : Option Addr) (C0_6 : Nat) (A0_7 : Option Addr) (C0_7 : Nat) (A0_8 : Option Addr) (C0_8 : Nat) (_ : (xs.getD i0 default).Ok) (_ : Sees w1 [.slice A0_6 (xs.getD i0 default).Rows.length C0_6] (xs.getD i0 default).Rows) (_ : Sees w1 [.slice A0_7 (xs.getD i0 default).Data.length C0_7] (xs.getD i0 default).Data) (_ : Sees w1 [.slice A0_8 (xs.getD i0 default).Delta.length C0_8] (xs.getD i0 default).Delta), Ret Tryz.prog gf (([(xs.getD i0 default).val A0_6 C0_6 A0_7 C0_7 A0_8 C0_8] : List Value) ++ gL).toArray w1 fun v w' => Ext No w1 w' ∧ v = .bool (p (xs.getD i0 default))) : Ret Tryz.prog 279 #[.slice xsA xs.length xsC, .func (.func gf) #[] gL.toArray] w fun v w' => Ext No w w' ∧ (v = .int .i64 (firstOf p xs)) := by
  have xsL := sees_len xsS
  unfold maxLen at xsL
  obtain ⟨xsF, xsO⟩ := xsS
  refine ret_Q (vs := [.slice xsA xs.length xsC, .func (.func gf) #[] gL.toArray]) Tryz.func279 rfl Tryz.ntmps279 rfl (fun Q hQ hN => ?_)
  have H0 := Sep.start (w := w) (F := [seen false [.slice xsA xs.length xsC] xs xsF]) (all_cons xsO (by simp))
  refine W_seq ?_
  refine W_reg ?_
  refine s_val (wn rfl) rfl rfl (py_assign rfl) ?_
  refine s_nil ?_
  refine W_seq ?_
  refine W_seq ?_
  refine W_reg ?_
  refine s_val (wn rfl) rfl rfl (py_move rfl) (s_val (wn rfl) rfl rfl (py_len Tryz.underlying82 rfl) (s_val (wn rfl) rfl rfl (py_move rfl) ?_))
  refine s_nil ?_
  refine W_block ?_
  refine W_loopS (γ := Nat) H0 [(0, _), (1, _), (7, _)] ⟨rfl, rfl, rfl, trivial⟩ (fun k => [(8, .int .i64 k)]) (fun k => k ≤ xs.length ∧ (∀ i, i < k → p (xs.getD i default) = false)) (fun k => xs.length - k) 0 ⟨rfl, trivial⟩ ⟨by omega, fun i hi => by omega⟩ (fun k w1 H1 ⟨hk, he⟩ => ?_)
  dsimp only [List.cons_append, List.nil_append]
  refine W_seq ?_
  refine W_reg ?_
  refine s_val (wn rfl) rfl rfl (py_lss rfl rfl) ?_
  refine s_nil ?_
  refine W_seq ?_
  refine W_ifd rfl (fun c1 => ?_) (fun c1 => ?_)
  · refine W_skip ?_
    refine W_seq ?_
    refine W_block ?_
    refine W_seq ?_
    refine W_reg ?_
    refine s_val (wn rfl) rfl rfl (py_move rfl) (s_val (wn rfl) rfl rfl (py_assign rfl) ?_)
    refine s_nil ?_
    refine W_seq ?_
    obtain ⟨eb1, eo1, es1, ef1, ee1, ec1, eO1, eH1, em1⟩ := elem_st (H1.seen 0 rfl) k (by omega)
    obtain ⟨ea1, ek1, ea2, ek2, ea3, ek3, eg1, eg2, eg3, rfl, eq1, eK1, eo2, eo3, eo4⟩ := own_Rec eO1
    have eK1U := eK1
    unfold Rec.Ok at eK1U
    try unfold I64ok at eK1U
    try unfold maxLen at eK1U
    have eP1 := H1.look1 0 rfl eo2 (fun b hb => eH1 b (by rw [eq1]; simp [hb]))
    have eL1 := own_len_le eo2
    unfold maxLen at eL1
    have eP2 := eP1.look1 0 rfl eo3 (fun b hb => eH1 b (by rw [eq1]; simp [hb]))
    have eL2 := own_len_le eo3
    unfold maxLen at eL2
    have eP3 := eP2.look1 0 rfl eo4 (fun b hb => eH1 b (by rw [eq1]; simp [hb]))
    have eL3 := own_len_le eo4
    unfold maxLen at eL3
    refine W_reg ?_
    refine s_val (wn rfl) rfl rfl (py_move rfl) (s_val (wn rfl) rfl rfl (py_move rfl) (s_val (wn rfl) rfl rfl (py_move rfl) (s_val (wn rfl) rfl rfl (py_elz Tryz.underlying82 Tryz.sizeOf66 rfl rfl ee1 k (by omega) (by omega)) (s_val (wn rfl) rfl rfl (py_loadS Tryz.underlying66 rfl Tryz.sizeOf66 rfl rfl ec1) ?_))))
    refine s_call (wn rfl) rfl rfl (pc_callv (lb := gL) rfl gH gB gN rfl) (gC _ eP3.ext k (by omega) _ _ _ _ _ _ (by assumption) (eP3.sees 1 rfl) (eP3.sees 2 rfl) (eP3.sees 3 rfl)) (fun v1 w2 r1 => ?_)
    obtain ⟨e1, rfl⟩ := r1
    have H2 := eP3.to e1
    refine s_nil ?_
    refine W_if rfl (fun c2 => ?_) (fun c2 => ?_)
    · refine W_seq ?_
      refine W_reg ?_
      refine s_val (wn rfl) rfl rfl (py_move rfl) (s_val (wn rfl) rfl rfl (py_assign rfl) ?_)
      refine s_nil ?_
      refine W_ret (hQ _ _ (fin1 Tryz.results279 rfl ?_))
      exact ⟨H2.ext, congrArg (Value.int .i64) (firstOf_at (d := default) (by omega) (by assumption) he).symm⟩
    · refine W_skip ?_
      refine W_reg ?_
      refine s_val (wn rfl) rfl rfl (py_add rfl rfl (in64 ⟨by omega, by omega⟩)) (s_val (wn rfl) rfl rfl (py_move rfl) ?_)
      refine s_nil ?_
      refine ⟨k + 1, ⟨rfl, rfl, rfl, rfl, trivial⟩, ⟨(H2.ftake 1), by omega, fun i hi => ?_⟩, by dsimp only; omega⟩
      by_cases e : i = k
      · subst e
        assumption
      · exact he i (by omega)
  · refine W_exit ?_
    refine W_seq ?_
    refine W_reg ?_
    refine s_val (wn rfl) rfl rfl (py_assign rfl) ?_
    refine s_nil ?_
    refine W_ret (hQ _ _ (fin1 Tryz.results279 rfl ?_))
    exact ⟨H1.ext, congrArg (Value.int .i64) (firstOf_no (d := default) (fun i hi => he i (by omega))).symm⟩
theorem Tryz_ContainsFunc_Rec {w : World} {xs : List Rec} {xsA : Option Addr} {xsC : Nat} {gf : FuncId} {gL : List Value} {gF : Func} (xsS : Sees w [.slice xsA xs.length xsC] xs) {p : Rec → Bool} (gH : Tryz.prog.funcs[gf]? = some gF) (gB : gF.body.isNone = false) (gN : (gF.name == "runtime.NumGoroutine") = false) (gC : ∀ w1, Ext No w w1 → ∀ (i0 : Nat), i0 < xs.length → ∀ (A0_6 : Option Addr) (C0_6 : Nat) (A0_7 : Option Addr) (C0_7 : Nat) (A0_8 : Option Addr) (C0_8 : Nat) (_ : (xs.getD i0 default).Ok) (_ : Sees w1 [.slice A0_6 (xs.getD i0 default).Rows.length C0_6] (xs.getD i0 default).Rows) (_ : Sees w1 [.slice A0_7 (xs.getD i0 default).Data.length C0_7] (xs.getD i0 default).Data) (_ : Sees w1 [.slice A0_8 (xs.getD i0 default).Delta.length C0_8] (xs.getD i0 default).Delta), Ret Tryz.prog gf (([(xs.getD i0 default).val A0_6 C0_6 A0_7 C0_7 A0_8 C0_8] : List Value) ++ gL).toArray w1 fun v w' => Ext No w1 w' ∧ v = .bool (p (xs.getD i0 default))) : Ret Tryz.prog 262 #[.slice xsA xs.length xsC, .func (.func gf) #[] gL.toArray] w fun v w' => Ext No w w' ∧ (v = .bool (xs.any p)) := by
  have xsL := sees_len xsS
  unfold maxLen at xsL
  obtain ⟨xsF, xsO⟩ := xsS
  refine ret_Q (vs := [.slice xsA xs.length xsC, .func (.func gf) #[] gL.toArray]) Tryz.func262 rfl Tryz.ntmps262 rfl (fun Q hQ hN => ?_)
  have H0 := Sep.start (w := w) (F := [seen false [.slice xsA xs.length xsC] xs xsF]) (all_cons xsO (by simp))
  refine W_seq ?_
  refine W_reg ?_
  refine s_val (wn rfl) rfl rfl (py_assign rfl) ?_
  refine s_nil ?_
  refine W_seq ?_
  refine W_reg ?_
  refine s_val (wn rfl) rfl rfl (py_move rfl) (s_val (wn rfl) rfl rfl (py_move rfl) ?_)
  refine s_call (wn rfl) rfl rfl (pc_call Tryz.func279 rfl Tryz_nm279 rfl) (Tryz_IndexFunc_Rec (H0.sees 0 rfl) gH gB gN (fun w1 e1 => gC w1 (H0.ext.trans e1))) (fun v1 w1 r1 => ?_)
  obtain ⟨e1, rfl⟩ := r1
  have H1 := H0.to e1
  refine s_val (wn rfl) rfl rfl (py_geq rfl rfl) (s_val (wn rfl) rfl rfl (py_assign rfl) ?_)
  refine s_nil ?_
  refine W_ret (hQ _ _ (fin1 Tryz.results262 rfl ?_))
  exact ⟨H1.ext, by rw [← firstOf_any]⟩
end Go.Wk
