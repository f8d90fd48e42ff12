/-
  'laws.FnExactPutItem' returns true, whatever its arguments, and leaves them as they were. No condition.
-/
import Derived.Test.YtblddeoopkfafaaGreatRows
import Derived.Test.YtblddeoopkfafaaGreatZG4
set_option linter.unusedVariables false
set_option linter.unusedSimpArgs false
namespace Go.Proofs.YtblddeoopkfafaaGreat.ofFnExactPutItem
open Go.ChangeShapes Go.WideShapes Go.ChangeAt Go.RowKit Go.Wk
open Go.ChangeMaps (open_string shut_string)

theorem knob : ownKnob Tryz.prog.godebug = none := by kernel_rfl
theorem sB : laidOutB Tryz.prog = true := by kernel_rfl
set_option maxRecDepth 100000 in
theorem lifted (os : Os) (started : os.Started) (H : Type) (enc : TypeId × Value → H) :
    ReturnsInHanded {} Tryz.checked os 8 .any (Rows.fnExactPutItemSpec.pre6 enc Tryz.prog Tryz.f8 Rows.fnExactPutItemRow.domain false) (Rows.fnExactPutItemSpec.post enc Tryz.prog Tryz.f8 false true false false) := by
  refine returnsInHanded_of_change (C := Tryz.checked) knob started (by kernel_rfl) Tryz.func8
    (ChangeSpec.witness6 (enc := enc) (C := Tryz.checked) false ⟨#[], #[.agg #[.int .i64 0, .int .i64 0, .int .i64 0, .int .i64 0, .int .i64 0, .int .i64 0, .int .i64 0, .int .i64 0, .int .i64 0, .slice none 0 0, .slice none 0 0, .slice none 0 0, .int .i64 0, .int .i64 0, .bool false], .string ⟨#[]⟩, .slice none 0 0], []⟩ 8 (by kernel_rfl) (by kernel_rfl) (by kernel_rfl) (by kernel_rfl)) ?_
  intro W base args ds gs before hval0 hW hcnd _
  have hval : ∀ (j : Nat) t v, Tryz.f8.params[j]? = some t → args[j]? = some v → Value.okWide Tryz.prog W .any base t v := hval0
  have hW' := hW
  obtain ⟨p, q, hA0, hV, rfl, hfz, hnd⟩ := hW
  have hA : DataW.TrodAll enc Tryz.prog W 0 (fun _ => true) true Tryz.f8.params.toList args.toList ds p := hA0
  rw [Tryz.params8] at hA hval
  obtain ⟨v0, vs0, d0, ds0, p0, q0, hargs, rfl, rfl, h0, r0⟩ := trodAll_cons hA
  obtain ⟨v1, vs1, d1, ds1, p1, q1, rfl, rfl, rfl, h1, r1⟩ := trodAll_cons r0
  obtain ⟨v2, vs2, d2, ds2, p2, q2, rfl, rfl, rfl, h2, r2⟩ := trodAll_cons r1
  obtain ⟨rfl, rfl, rfl⟩ := trodAll_nil r2
  obtain rfl : args = #[v0, v1, v2] := by cases args; simp_all
  obtain ⟨rfl, rfl⟩ := trodVars_none hV
  have k0 := h0
  have lt0 : ∀ x ∈ p0, x.block < W.heap.size := by obtain ⟨m, hm⟩ := k0; exact DataW.trod_lt m _ _ _ hm
  have k1 := h1
  have lt1 : ∀ x ∈ p1, x.block < W.heap.size := by obtain ⟨m, hm⟩ := k1; exact DataW.trod_lt m _ _ _ hm
  have k2 := h2
  have lt2 : ∀ x ∈ p2, x.block < W.heap.size := by obtain ⟨m, hm⟩ := k2; exact DataW.trod_lt m _ _ _ hm
  obtain ⟨a0, fp0, o0⟩ := qA (α := Go.Wk.Wld) (eL (fun x : Go.Wk.Wld => (x.Shape, x.Groups, x.On, x.Tapes, x.Writes, x.Stop, x.Down)) (fun (x0, x1, x2, x3, x4, x5, x6) => ⟨x0, x1, x2, x3, x4, x5, x6⟩) (fun _ => rfl) Tryz.underlying28 (by kernel_rfl) (br rfl (by kernel_rfl) (eL (fun x : Go.Wk.Shape => (x.Groups, x.Column, x.Data, x.Spare, x.Rows, x.Cap, x.Batch, x.Queue, x.Stage)) (fun (x0, x1, x2, x3, x4, x5, x6, x7, x8) => ⟨x0, x1, x2, x3, x4, x5, x6, x7, x8⟩) (fun _ => rfl) Tryz.underlying23 (by kernel_rfl) (br rfl (by kernel_rfl) (cf Tryz.underlying2) (br rfl (by kernel_rfl) (cf Tryz.underlying2) (br rfl (by kernel_rfl) (cf Tryz.underlying2) (br rfl (by kernel_rfl) (cf Tryz.underlying2) (br rfl (by kernel_rfl) (cf Tryz.underlying2) (br rfl (by kernel_rfl) (cf Tryz.underlying2) (br rfl (by kernel_rfl) (cf Tryz.underlying2) (br rfl (by kernel_rfl) (cf Tryz.underlying2) (ga rfl (by kernel_rfl) (cf Tryz.underlying2))))))))))) (br rfl (by kernel_rfl) (dl Tryz.underlying24 (by kernel_rfl) (dl Tryz.underlying119 (by kernel_rfl) (eL (fun x : Go.Wk.Drive => (x.Wiped, x.Blocks)) (fun (x0, x1) => ⟨x0, x1⟩) (fun _ => rfl) Tryz.underlying200 (by kernel_rfl) (br rfl (by kernel_rfl) (lW Tryz.underlying4) (ga rfl (by kernel_rfl) (dl Tryz.underlying198 (by kernel_rfl) (eL (fun x : Go.Wk.Block => (x.Stamp, x.Bytes)) (fun (x0, x1) => ⟨x0, x1⟩) (fun _ => rfl) Tryz.underlying296 (by kernel_rfl) (br rfl (by kernel_rfl) (cf Tryz.underlying2) (ga rfl (by kernel_rfl) (dl Tryz.underlying55 (by kernel_rfl) (mS Tryz.underlying5))))))))))) (br rfl (by kernel_rfl) (dl Tryz.underlying25 (by kernel_rfl) (cf Tryz.underlying2)) (br rfl (by kernel_rfl) (dl Tryz.underlying26 (by kernel_rfl) (eL (fun x : Go.Wk.Tape => (x.Wiped, x.Recs)) (fun (x0, x1) => ⟨x0, x1⟩) (fun _ => rfl) Tryz.underlying123 (by kernel_rfl) (br rfl (by kernel_rfl) (lW Tryz.underlying4) (ga rfl (by kernel_rfl) (dl Tryz.underlying121 (by kernel_rfl) (eL (fun x : Go.Wk.Rec => (x.Kind, x.Seq, Str.mk x.Name, x.Length, x.Group, x.Row, x.Rows, x.Data, x.Delta)) (fun (x0, x1, x2, x3, x4, x5, x6, x7, x8) => ⟨x0, x1, x2.b, x3, x4, x5, x6, x7, x8⟩) (fun _ => rfl) Tryz.underlying256 (by kernel_rfl) (br rfl (by kernel_rfl) (cf Tryz.underlying2) (br rfl (by kernel_rfl) (cf Tryz.underlying2) (br rfl (by kernel_rfl) (ry Tryz.underlying9) (br rfl (by kernel_rfl) (cf Tryz.underlying2) (br rfl (by kernel_rfl) (cf Tryz.underlying2) (br rfl (by kernel_rfl) (cf Tryz.underlying2) (br rfl (by kernel_rfl) (dl Tryz.underlying25 (by kernel_rfl) (cf Tryz.underlying2)) (br rfl (by kernel_rfl) (dl Tryz.underlying55 (by kernel_rfl) (mS Tryz.underlying5)) (ga rfl (by kernel_rfl) (dl Tryz.underlying55 (by kernel_rfl) (mS Tryz.underlying5))))))))))))))))) (br rfl (by kernel_rfl) (cf Tryz.underlying2) (br rfl (by kernel_rfl) (cf Tryz.underlying2) (ga rfl (by kernel_rfl) (lW Tryz.underlying4))))))))) h0
  obtain ⟨z0, rfl, _⟩ := okWide_struct Tryz.underlying28 (hval 0 28 v0 rfl rfl)
  obtain ⟨A0_9, C0_9, A0_10, C0_10, A0_11, C0_11, _, _, _, e0, _, c0, o0_9, o0_10, o0_11⟩ := pg o0
  obtain rfl : z0 = ((a0 : Go.Wk.Wld).val A0_9 C0_9 A0_10 C0_10 A0_11 C0_11).cells := Array.toList_inj.1 (show z0.toList = ((a0 : Go.Wk.Wld).val A0_9 C0_9 A0_10 C0_10 A0_11 C0_11).cells.toList from e0)
  obtain ⟨a1, fp1, o1⟩ := qA (α := Str) (ry Tryz.underlying9) h1
  obtain ⟨n1, rfl⟩ := okWide_string Tryz.underlying9 (hval 1 9 v1 rfl rfl)
  obtain ⟨a2, fp2, o2⟩ := qA (α := (List UInt8)) (dl Tryz.underlying55 (by kernel_rfl) (mS Tryz.underlying5)) h2
  obtain ⟨ad2, ln2, cp2, rfl⟩ := okWide_slice Tryz.underlying55 (hval 2 55 v2 rfl rfl)
  obtain ⟨_, _, e2⟩ := az o2
  obtain ⟨rfl, rfl, rfl⟩ : _ ∧ _ ∧ _ := by simpa [Value.cells] using e2
  clear hA0 hval0
  refine Calls.mono (iN (z := a0) c0 ⟨_, o0_9⟩ ⟨_, o0_10⟩ ⟨_, o0_11⟩ ⟨_, o2⟩) fun e W' ⟨v, he, ext, hv⟩ => ?_
  subst hv
  subst he
  have bel := Ext.below ext
  exact ⟨_, rfl, _, _, _, [], _, [], hW', trodAll_mk1 (shut_bool Tryz.underlying4 _), (trodAll_cons_mk (Below.trod sB (by kernel_rfl) (of_decide_eq_true (by kernel_rfl)) k0 bel lt0) (trodAll_cons_mk (Below.trod sB (by kernel_rfl) (of_decide_eq_true (by kernel_rfl)) k1 bel lt1) (trodAll_cons_mk (Below.trod sB (by kernel_rfl) (of_decide_eq_true (by kernel_rfl)) k2 bel lt2) trodAll_mk0))), rfl, bel.frame _, fun h => by cases h⟩

theorem fo {a b : Bool} (h : a = true) (k : b = true) : (a && b) = true := by rw [h, k]; rfl
theorem j0 : (Rows.fnExactPutItemRow.wf (OpenSpec.ofChange Rows.fnExactPutItemSpec)) = true := by kernel_rfl
theorem j1 : (laidOutB Tryz.prog) = true := by kernel_rfl
theorem j2 : (mapsRowed Tryz.prog) = true := by kernel_rfl
theorem j3 : (Tryz.f8.params.all (Tryz.prog.readableRec ·)) = true := by kernel_rfl
theorem j4 : (namedTie Tryz.prog Rows.fnExactPutItemRow.named Rows.fnExactPutItemSpec.vars) = true := by kernel_rfl
theorem j5 : ((Rows.fnExactPutItemRow.stops == [])) = true := by kernel_rfl
theorem j6 : ((Tryz.prog.stops == [])) = true := by kernel_rfl
theorem j7 : ((Rows.fnExactPutItemRow.knobs == [])) = true := by kernel_rfl
theorem j8 : ((Tryz.prog.stopKnobs == [])) = true := by kernel_rfl
theorem j9 : ((Rows.fnExactPutItemRow.inPlace == Tryz.prog.inPlace 8)) = true := by kernel_rfl
theorem j10 : ((Rows.fnExactPutItemRow.unfollowed == Tryz.prog.unfollowed 8)) = true := by kernel_rfl
theorem j11 : ((Rows.fnExactPutItemRow.recurses == Tryz.prog.recurses 8)) = true := by kernel_rfl
theorem j12 : ((Rows.fnExactPutItemRow.named == Tryz.prog.varsNamed 8)) = true := by kernel_rfl
theorem j13 : ((Rows.fnExactPutItemRow.maps == (Tryz.f8.params.toList ++ Rows.fnExactPutItemSpec.plain.varTypes Tryz.prog).any (Tryz.prog.mapsRec ·))) = true := by kernel_rfl
theorem j14 : ((Rows.fnExactPutItemRow.ifaces == (Tryz.f8.params.toList ++ Rows.fnExactPutItemSpec.plain.varTypes Tryz.prog).any (Tryz.prog.ifacesRec ·))) = true := by kernel_rfl
theorem j15 : ((Rows.fnExactPutItemRow.mapsOut == Tryz.prog.mapsAmong Tryz.f8.resultTypes.toList)) = true := by kernel_rfl
theorem j16 : ((Rows.fnExactPutItemRow.loops == (Tryz.f8.params.toList ++ Rows.fnExactPutItemSpec.plain.varTypes Tryz.prog).any (Tryz.prog.loopsFrom ·))) = true := by kernel_rfl
theorem j17 : ((Rows.fnExactPutItemRow.wideKeys == (Tryz.f8.params.toList ++ Rows.fnExactPutItemSpec.plain.varTypes Tryz.prog ++ Tryz.f8.resultTypes.toList).any (Tryz.prog.wideKeysFrom ·))) = true := by kernel_rfl
theorem j18 : (Rows.fnExactPutItemSpec.vars.all (Tryz.prog.varReadable ·)) = true := by kernel_rfl
theorem j19 : (Tryz.f8.resultTypes.all (fun t => Tryz.prog.readableRec t && decide (t < Tryz.prog.types.size))) = true := by kernel_rfl
theorem j20 : ((Rows.fnExactPutItemRow.ifacesOut == Tryz.f8.resultTypes.toList.any (Tryz.prog.ifacesRec ·))) = true := by kernel_rfl
theorem j21 : ((Rows.fnExactPutItemRow.loopsOut == Tryz.f8.resultTypes.toList.any (Tryz.prog.loopsFrom ·))) = true := by kernel_rfl
theorem j22 : ((Rows.fnExactPutItemRow.plainKeys == Tryz.prog.plainKeys)) = true := by kernel_rfl
theorem j23 : (Rows.fnExactPutItemRow.shortTexts.isNone) = true := by kernel_rfl
theorem j24 : (Tryz.prog.stopsHeard) = true := by kernel_rfl
theorem j25 : (Tryz.prog.mayEnter) = true := by kernel_rfl
theorem j26 : ((Rows.fnExactPutItemRow.lifted == Tryz.prog.liftsFinal)) = true := by kernel_rfl
theorem j27 : ((Tryz.prog.make == some Rows.fnExactPutItemRow.make)) = true := by kernel_rfl
theorem j28 : ((Rows.fnExactPutItemRow.kinds == (if Rows.fnExactPutItemRow.domain.isEmpty then [] else Tryz.f8.params.toList.map fun t => match Tryz.prog.underlying t with | some (.int k) => some k | _ => none))) = true := by kernel_rfl
theorem j29 : ((Rows.fnExactPutItemRow.pinned == Rows.fnExactPutItemRow.pinnedBy)) = true := by kernel_rfl
theorem j30 : ((Rows.fnExactPutItemRow.veiled == (Tryz.f8.params.toList ++ Rows.fnExactPutItemSpec.plain.varTypes Tryz.prog ++ Tryz.f8.resultTypes.toList).any (Tryz.prog.veiledRec ·))) = true := by kernel_rfl
theorem j31 : (Rows.fnExactPutItemRow.veiledFits Tryz.prog Tryz.f8.params.toList (Tryz.f8.params.toList ++ Rows.fnExactPutItemSpec.plain.varTypes Tryz.prog ++ Tryz.f8.resultTypes.toList)) = true := by kernel_rfl
set_option maxRecDepth 100000 in
theorem joined : joinedFacts Tryz.prog 8 Tryz.f8 Rows.fnExactPutItemSpec Rows.fnExactPutItemRow = true := (fo (fo (fo (fo (fo (fo (fo (fo (fo (fo (fo (fo (fo (fo (fo (fo (fo (fo (fo (fo (fo (fo (fo (fo (fo (fo (fo (fo (fo (fo (fo j0 j1) j2) j3) j4) j5) j6) j7) j8) j9) j10) j11) j12) j13) j14) j15) j16) j17) j18) j19) j20) j21) j22) j23) j24) j25) j26) j27) j28) j29) j30) j31)
theorem named : Tryz.pinned.checked.prog.funcNamed Rows.fnExactPutItemRow.func = some 8 := by kernel_rfl
theorem wrapped : Tryz.f8.isWrapper Tryz.pinned.checked.prog Rows.fnExactPutItemRow.wrapper Rows.fnExactPutItemRow.mainSum := by unfold Func.isWrapper; first | (rw [if_pos (by decide +kernel)]; kernel_rfl) | (rw [if_neg (by decide +kernel)]; exact ⟨rfl, rfl⟩)
set_option maxRecDepth 100000 in
theorem over : Rows.fnExactPutItemRow.holds Tryz.pinned (OpenSpec.ofChange Rows.fnExactPutItemSpec) :=
  OpenClaim.holds_of_wide 8 Tryz.f8 rfl rfl rfl rfl rfl rfl rfl ⟨rfl, rfl, rfl, rfl, rfl⟩ rfl rfl rfl rfl rfl named Tryz.func8 joined
    (of_decide_eq_true (by kernel_rfl)) wrapped
    (fun os started H enc _ => lifted os started H enc)
/-- The statement. -/
theorem proved : Rows.FnExactPutItemSaid := over
end Go.Proofs.YtblddeoopkfafaaGreat.ofFnExactPutItem
