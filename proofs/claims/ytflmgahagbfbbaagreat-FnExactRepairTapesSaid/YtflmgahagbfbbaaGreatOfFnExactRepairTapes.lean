/-
  'laws.FnExactRepairTapes' returns true, whatever its arguments, and leaves them as they were. No condition.
-/
import Derived.Test.YtflmgahagbfbbaaGreatRows
import Derived.Test.YtflmgahagbfbbaaGreatZA4
set_option linter.unusedVariables false
set_option linter.unusedSimpArgs false
namespace Go.Proofs.YtflmgahagbfbbaaGreat.ofFnExactRepairTapes
open Go.ChangeShapes Go.WideShapes Go.ChangeAt Go.RowKit Go.Wk
open Go.ChangeMaps (open_string shut_string)

theorem knob : ownKnob Tryz.prog.godebug = none := by kernel_rfl
theorem y5 : laidOutB Tryz.prog = true := by kernel_rfl
set_option maxRecDepth 100000 in
theorem lifted (os : Os) (started : os.Started) (H : Type) (enc : TypeId × Value → H) :
    ReturnsInHanded {} Tryz.checked os 3 .any (Rows.fnExactRepairTapesSpec.pre6 enc Tryz.prog Tryz.f3 Rows.fnExactRepairTapesRow.domain false) (Rows.fnExactRepairTapesSpec.post enc Tryz.prog Tryz.f3 false true false false) := by
  refine returnsInHanded_of_change (C := Tryz.checked) knob started (by kernel_rfl) Tryz.func3
    (ChangeSpec.witness6 (enc := enc) (C := Tryz.checked) false ⟨#[], #[.agg #[.int .i64 0, .int .i64 0, .int .i64 0, .int .i64 0, .int .i64 0, .int .i64 0, .int .i64 0, .int .i64 0, .int .i64 0, .slice none 0 0, .slice none 0 0, .slice none 0 0, .int .i64 0, .int .i64 0, .bool false]], []⟩ 8 (by kernel_rfl) (by kernel_rfl) (by kernel_rfl) (by kernel_rfl)) ?_
  intro W base args ds gs before hval0 hW hcnd _
  have hval : ∀ (j : Nat) t v, Tryz.f3.params[j]? = some t → args[j]? = some v → Value.okWide Tryz.prog W .any base t v := hval0
  have hW' := hW
  obtain ⟨p, q, hA0, hV, rfl, hfz, hnd⟩ := hW
  have hA : DataW.TrodAll enc Tryz.prog W 0 (fun _ => true) true Tryz.f3.params.toList args.toList ds p := hA0
  rw [Tryz.params3] at hA hval
  obtain ⟨v0, vs0, d0, ds0, p0, q0, hargs, rfl, rfl, h0, r0⟩ := trodAll_cons hA
  obtain ⟨rfl, rfl, rfl⟩ := trodAll_nil r0
  obtain rfl : args = #[v0] := by cases args; simp_all
  obtain ⟨rfl, rfl⟩ := trodVars_none hV
  have k0 := h0
  have lt0 : ∀ x ∈ p0, x.block < W.heap.size := by obtain ⟨m, hm⟩ := k0; exact DataW.trod_lt m _ _ _ hm
  obtain ⟨a0, fp0, o0⟩ := yj (α := Go.Wk.Wld) (ex (fun x : Go.Wk.Wld => (x.Shape, x.Groups, x.On, x.Tapes, x.Writes, x.Stop, x.Down)) (fun (x0, x1, x2, x3, x4, x5, x6) => ⟨x0, x1, x2, x3, x4, x5, x6⟩) (fun _ => rfl) Tryz.underlying28 (by kernel_rfl) (bj rfl (by kernel_rfl) (ex (fun x : Go.Wk.Shape => (x.Groups, x.Column, x.Data, x.Spare, x.Rows, x.Cap, x.Batch, x.Queue, x.Stage)) (fun (x0, x1, x2, x3, x4, x5, x6, x7, x8) => ⟨x0, x1, x2, x3, x4, x5, x6, x7, x8⟩) (fun _ => rfl) Tryz.underlying23 (by kernel_rfl) (bj rfl (by kernel_rfl) (bW Tryz.underlying2) (bj rfl (by kernel_rfl) (bW Tryz.underlying2) (bj rfl (by kernel_rfl) (bW Tryz.underlying2) (bj rfl (by kernel_rfl) (bW Tryz.underlying2) (bj rfl (by kernel_rfl) (bW Tryz.underlying2) (bj rfl (by kernel_rfl) (bW Tryz.underlying2) (bj rfl (by kernel_rfl) (bW Tryz.underlying2) (bj rfl (by kernel_rfl) (bW Tryz.underlying2) (fM rfl (by kernel_rfl) (bW Tryz.underlying2))))))))))) (bj rfl (by kernel_rfl) (dj Tryz.underlying24 (by kernel_rfl) (dj Tryz.underlying116 (by kernel_rfl) (ex (fun x : Go.Wk.Drive => (x.Wiped, x.Blocks)) (fun (x0, x1) => ⟨x0, x1⟩) (fun _ => rfl) Tryz.underlying187 (by kernel_rfl) (bj rfl (by kernel_rfl) (kZ Tryz.underlying4) (fM rfl (by kernel_rfl) (dj Tryz.underlying185 (by kernel_rfl) (ex (fun x : Go.Wk.Block => (x.Stamp, x.Bytes)) (fun (x0, x1) => ⟨x0, x1⟩) (fun _ => rfl) Tryz.underlying253 (by kernel_rfl) (bj rfl (by kernel_rfl) (bW Tryz.underlying2) (fM rfl (by kernel_rfl) (dj Tryz.underlying44 (by kernel_rfl) (pM Tryz.underlying5))))))))))) (bj rfl (by kernel_rfl) (dj Tryz.underlying25 (by kernel_rfl) (bW Tryz.underlying2)) (bj rfl (by kernel_rfl) (dj Tryz.underlying26 (by kernel_rfl) (ex (fun x : Go.Wk.Tape => (x.Wiped, x.Recs)) (fun (x0, x1) => ⟨x0, x1⟩) (fun _ => rfl) Tryz.underlying120 (by kernel_rfl) (bj rfl (by kernel_rfl) (kZ Tryz.underlying4) (fM rfl (by kernel_rfl) (dj Tryz.underlying118 (by kernel_rfl) (ex (fun x : Go.Wk.Rec => (x.Kind, x.Seq, Str.mk x.Name, x.Length, x.Group, x.Row, x.Rows, x.Data, x.Delta)) (fun (x0, x1, x2, x3, x4, x5, x6, x7, x8) => ⟨x0, x1, x2.b, x3, x4, x5, x6, x7, x8⟩) (fun _ => rfl) Tryz.underlying229 (by kernel_rfl) (bj rfl (by kernel_rfl) (bW Tryz.underlying2) (bj rfl (by kernel_rfl) (bW Tryz.underlying2) (bj rfl (by kernel_rfl) (wo Tryz.underlying9) (bj rfl (by kernel_rfl) (bW Tryz.underlying2) (bj rfl (by kernel_rfl) (bW Tryz.underlying2) (bj rfl (by kernel_rfl) (bW Tryz.underlying2) (bj rfl (by kernel_rfl) (dj Tryz.underlying25 (by kernel_rfl) (bW Tryz.underlying2)) (bj rfl (by kernel_rfl) (dj Tryz.underlying44 (by kernel_rfl) (pM Tryz.underlying5)) (fM rfl (by kernel_rfl) (dj Tryz.underlying44 (by kernel_rfl) (pM Tryz.underlying5))))))))))))))))) (bj rfl (by kernel_rfl) (bW Tryz.underlying2) (bj rfl (by kernel_rfl) (bW Tryz.underlying2) (fM rfl (by kernel_rfl) (kZ Tryz.underlying4))))))))) h0
  obtain ⟨z0, rfl, _⟩ := okWide_struct Tryz.underlying28 (hval 0 28 v0 rfl rfl)
  obtain ⟨A0_9, C0_9, A0_10, C0_10, A0_11, C0_11, _, _, _, e0, _, c0, o0_9, o0_10, o0_11⟩ := nX o0
  obtain rfl : z0 = ((a0 : Go.Wk.Wld).val A0_9 C0_9 A0_10 C0_10 A0_11 C0_11).cells := Array.toList_inj.1 (show z0.toList = ((a0 : Go.Wk.Wld).val A0_9 C0_9 A0_10 C0_10 A0_11 C0_11).cells.toList from e0)
  clear hA0 hval0
  refine Calls.mono (gm (z := a0) c0 ⟨_, o0_9⟩ ⟨_, o0_10⟩ ⟨_, o0_11⟩) fun e W' ⟨v, he, ext, hv⟩ => ?_
  subst hv
  subst he
  have bel := Ext.below ext
  exact ⟨_, rfl, _, _, _, [], _, [], hW', trodAll_mk1 (shut_bool Tryz.underlying4 _), (trodAll_cons_mk (Below.trod y5 (by kernel_rfl) (of_decide_eq_true (by kernel_rfl)) k0 bel lt0) trodAll_mk0), rfl, bel.frame _, fun h => by cases h⟩

theorem eP {a b : Bool} (h : a = true) (k : b = true) : (a && b) = true := by rw [h, k]; rfl
theorem j0 : (Rows.fnExactRepairTapesRow.wf (OpenSpec.ofChange Rows.fnExactRepairTapesSpec)) = true := by kernel_rfl
theorem j1 : (laidOutB Tryz.prog) = true := by kernel_rfl
theorem j2 : (mapsRowed Tryz.prog) = true := by kernel_rfl
theorem j3 : (Tryz.f3.params.all (Tryz.prog.readableRec ·)) = true := by kernel_rfl
theorem j4 : (namedTie Tryz.prog Rows.fnExactRepairTapesRow.named Rows.fnExactRepairTapesSpec.vars) = true := by kernel_rfl
theorem j5 : ((Rows.fnExactRepairTapesRow.stops == [])) = true := by kernel_rfl
theorem j6 : ((Tryz.prog.stops == [])) = true := by kernel_rfl
theorem j7 : ((Rows.fnExactRepairTapesRow.knobs == [])) = true := by kernel_rfl
theorem j8 : ((Tryz.prog.stopKnobs == [])) = true := by kernel_rfl
theorem j9 : ((Rows.fnExactRepairTapesRow.inPlace == Tryz.prog.inPlace 3)) = true := by kernel_rfl
theorem j10 : ((Rows.fnExactRepairTapesRow.unfollowed == Tryz.prog.unfollowed 3)) = true := by kernel_rfl
theorem j11 : ((Rows.fnExactRepairTapesRow.recurses == Tryz.prog.recurses 3)) = true := by kernel_rfl
theorem j12 : ((Rows.fnExactRepairTapesRow.named == Tryz.prog.varsNamed 3)) = true := by kernel_rfl
theorem j13 : ((Rows.fnExactRepairTapesRow.maps == (Tryz.f3.params.toList ++ Rows.fnExactRepairTapesSpec.plain.varTypes Tryz.prog).any (Tryz.prog.mapsRec ·))) = true := by kernel_rfl
theorem j14 : ((Rows.fnExactRepairTapesRow.ifaces == (Tryz.f3.params.toList ++ Rows.fnExactRepairTapesSpec.plain.varTypes Tryz.prog).any (Tryz.prog.ifacesRec ·))) = true := by kernel_rfl
theorem j15 : ((Rows.fnExactRepairTapesRow.mapsOut == Tryz.prog.mapsAmong Tryz.f3.resultTypes.toList)) = true := by kernel_rfl
theorem j16 : ((Rows.fnExactRepairTapesRow.loops == (Tryz.f3.params.toList ++ Rows.fnExactRepairTapesSpec.plain.varTypes Tryz.prog).any (Tryz.prog.loopsFrom ·))) = true := by kernel_rfl
theorem j17 : ((Rows.fnExactRepairTapesRow.wideKeys == (Tryz.f3.params.toList ++ Rows.fnExactRepairTapesSpec.plain.varTypes Tryz.prog ++ Tryz.f3.resultTypes.toList).any (Tryz.prog.wideKeysFrom ·))) = true := by kernel_rfl
theorem j18 : (Rows.fnExactRepairTapesSpec.vars.all (Tryz.prog.varReadable ·)) = true := by kernel_rfl
theorem j19 : (Tryz.f3.resultTypes.all (fun t => Tryz.prog.readableRec t && decide (t < Tryz.prog.types.size))) = true := by kernel_rfl
theorem j20 : ((Rows.fnExactRepairTapesRow.ifacesOut == Tryz.f3.resultTypes.toList.any (Tryz.prog.ifacesRec ·))) = true := by kernel_rfl
theorem j21 : ((Rows.fnExactRepairTapesRow.loopsOut == Tryz.f3.resultTypes.toList.any (Tryz.prog.loopsFrom ·))) = true := by kernel_rfl
theorem j22 : ((Rows.fnExactRepairTapesRow.plainKeys == Tryz.prog.plainKeys)) = true := by kernel_rfl
theorem j23 : (Rows.fnExactRepairTapesRow.shortTexts.isNone) = true := by kernel_rfl
theorem j24 : (Tryz.prog.stopsHeard) = true := by kernel_rfl
theorem j25 : (Tryz.prog.mayEnter) = true := by kernel_rfl
theorem j26 : ((Rows.fnExactRepairTapesRow.lifted == Tryz.prog.liftsFinal)) = true := by kernel_rfl
theorem j27 : ((Tryz.prog.make == some Rows.fnExactRepairTapesRow.make)) = true := by kernel_rfl
theorem j28 : ((Rows.fnExactRepairTapesRow.kinds == (if Rows.fnExactRepairTapesRow.domain.isEmpty then [] else Tryz.f3.params.toList.map fun t => match Tryz.prog.underlying t with | some (.int k) => some k | _ => none))) = true := by kernel_rfl
theorem j29 : ((Rows.fnExactRepairTapesRow.pinned == Rows.fnExactRepairTapesRow.pinnedBy)) = true := by kernel_rfl
theorem j30 : ((Rows.fnExactRepairTapesRow.veiled == (Tryz.f3.params.toList ++ Rows.fnExactRepairTapesSpec.plain.varTypes Tryz.prog ++ Tryz.f3.resultTypes.toList).any (Tryz.prog.veiledRec ·))) = true := by kernel_rfl
theorem j31 : (Rows.fnExactRepairTapesRow.veiledFits Tryz.prog Tryz.f3.params.toList (Tryz.f3.params.toList ++ Rows.fnExactRepairTapesSpec.plain.varTypes Tryz.prog ++ Tryz.f3.resultTypes.toList)) = true := by kernel_rfl
set_option maxRecDepth 100000 in
theorem joined : joinedFacts Tryz.prog 3 Tryz.f3 Rows.fnExactRepairTapesSpec Rows.fnExactRepairTapesRow = true := (eP (eP (eP (eP (eP (eP (eP (eP (eP (eP (eP (eP (eP (eP (eP (eP (eP (eP (eP (eP (eP (eP (eP (eP (eP (eP (eP (eP (eP (eP (eP j0 j1) j2) j3) j4) j5) j6) j7) j8) j9) j10) j11) j12) j13) j14) j15) j16) j17) j18) j19) j20) j21) j22) j23) j24) j25) j26) j27) j28) j29) j30) j31)
theorem named : Tryz.pinned.checked.prog.funcNamed Rows.fnExactRepairTapesRow.func = some 3 := by kernel_rfl
theorem wrapped : Tryz.f3.isWrapper Tryz.pinned.checked.prog Rows.fnExactRepairTapesRow.wrapper Rows.fnExactRepairTapesRow.mainSum := by unfold Func.isWrapper; first | (rw [if_pos (by decide +kernel)]; kernel_rfl) | (rw [if_neg (by decide +kernel)]; exact ⟨rfl, rfl⟩)
set_option maxRecDepth 100000 in
theorem over : Rows.fnExactRepairTapesRow.holds Tryz.pinned (OpenSpec.ofChange Rows.fnExactRepairTapesSpec) :=
  OpenClaim.holds_of_wide 3 Tryz.f3 rfl rfl rfl rfl rfl rfl rfl ⟨rfl, rfl, rfl, rfl, rfl⟩ rfl rfl rfl rfl rfl named Tryz.func3 joined
    (of_decide_eq_true (by kernel_rfl)) wrapped
    (fun os started H enc _ => lifted os started H enc)
/-- The statement. -/
theorem proved : Rows.FnExactRepairTapesSaid := over
end Go.Proofs.YtflmgahagbfbbaaGreat.ofFnExactRepairTapes
