/-
  'laws.FnQueues' returns true, whatever its arguments, and leaves them as they were. No condition.
-/
import Derived.Test.YtkjkoeocnnfilaaRows
import Derived.Test.YtkjkoeocnnfilaaZQ2
set_option linter.unusedVariables false
set_option linter.unusedSimpArgs false
namespace Go.Proofs.Ytkjkoeocnnfilaa.ofFnQueues
open Go.ChangeShapes Go.WideShapes Go.ChangeAt Go.RowKit Go.Wk
open Go.ChangeMaps (open_string shut_string)

theorem knob : ownKnob Try.prog.godebug = none := by kernel_rfl
theorem oF : laidOutB Try.prog = true := by kernel_rfl
set_option maxRecDepth 100000 in
theorem lifted (os : Os) (started : os.Started) (H : Type) (enc : TypeId × Value → H) :
    ReturnsInHanded {} Try.checked os 3 .any (Rows.fnQueuesSpec.pre6 enc Try.prog Try.f3 Rows.fnQueuesRow.domain false) (Rows.fnQueuesSpec.post enc Try.prog Try.f3 false true false false) := by
  refine returnsInHanded_of_change (C := Try.checked) knob started (by kernel_rfl) Try.func3
    (ChangeSpec.witness6 (enc := enc) (C := Try.checked) false ⟨#[], #[.slice none 0 0], []⟩ 8 (by kernel_rfl) (by kernel_rfl) (by kernel_rfl) (by kernel_rfl)) ?_
  intro W base args ds gs before hval0 hW hcnd _
  have hval : ∀ (j : Nat) t v, Try.f3.params[j]? = some t → args[j]? = some v → Value.okWide Try.prog W .any base t v := hval0
  have hW' := hW
  obtain ⟨p, q, hA0, hV, rfl, hfz, hnd⟩ := hW
  have hA : DataW.TrodAll enc Try.prog W 0 (fun _ => true) true Try.f3.params.toList args.toList ds p := hA0
  rw [Try.params3] at hA hval
  obtain ⟨v0, vs0, d0, ds0, p0, q0, hargs, rfl, rfl, h0, r0⟩ := trodAll_cons hA
  obtain ⟨rfl, rfl, rfl⟩ := trodAll_nil r0
  obtain rfl : args = #[v0] := by cases args; simp_all
  obtain ⟨rfl, rfl⟩ := trodVars_none hV
  have k0 := h0
  have lt0 : ∀ x ∈ p0, x.block < W.heap.size := by obtain ⟨m, hm⟩ := k0; exact DataW.trod_lt m _ _ _ hm
  obtain ⟨a0, fp0, o0⟩ := nJ (α := (List UInt8)) (lD Try.underlying22 (by kernel_rfl) (mO Try.underlying5)) h0
  obtain ⟨ad0, ln0, cp0, rfl⟩ := okWide_slice Try.underlying22 (hval 0 22 v0 rfl rfl)
  obtain ⟨_, _, e0⟩ := aE o0
  obtain ⟨rfl, rfl, rfl⟩ : _ ∧ _ ∧ _ := by simpa [Value.cells] using e0
  clear hA0 hval0
  refine Calls.mono (gG ⟨_, o0⟩) fun e W' ⟨v, he, ext, hv⟩ => ?_
  subst hv
  subst he
  have bel := Ext.below ext
  exact ⟨_, rfl, _, _, _, [], _, [], hW', trodAll_mk1 (shut_bool Try.underlying4 _), (trodAll_cons_mk (Below.trod oF (by kernel_rfl) (of_decide_eq_true (by kernel_rfl)) k0 bel lt0) trodAll_mk0), rfl, bel.frame _, fun h => by cases h⟩

theorem cY {a b : Bool} (h : a = true) (k : b = true) : (a && b) = true := by rw [h, k]; rfl
theorem j0 : (Rows.fnQueuesRow.wf (OpenSpec.ofChange Rows.fnQueuesSpec)) = true := by kernel_rfl
theorem j1 : (laidOutB Try.prog) = true := by kernel_rfl
theorem j2 : (mapsRowed Try.prog) = true := by kernel_rfl
theorem j3 : (Try.f3.params.all (Try.prog.readableRec ·)) = true := by kernel_rfl
theorem j4 : (namedTie Try.prog Rows.fnQueuesRow.named Rows.fnQueuesSpec.vars) = true := by kernel_rfl
theorem j5 : ((Rows.fnQueuesRow.stops == [])) = true := by kernel_rfl
theorem j6 : ((Try.prog.stops == [])) = true := by kernel_rfl
theorem j7 : ((Rows.fnQueuesRow.knobs == [])) = true := by kernel_rfl
theorem j8 : ((Try.prog.stopKnobs == [])) = true := by kernel_rfl
theorem j9 : ((Rows.fnQueuesRow.inPlace == Try.prog.inPlace 3)) = true := by kernel_rfl
theorem j10 : ((Rows.fnQueuesRow.unfollowed == Try.prog.unfollowed 3)) = true := by kernel_rfl
theorem j11 : ((Rows.fnQueuesRow.recurses == Try.prog.recurses 3)) = true := by kernel_rfl
theorem j12 : ((Rows.fnQueuesRow.named == Try.prog.varsNamed 3)) = true := by kernel_rfl
theorem j13 : ((Rows.fnQueuesRow.maps == (Try.f3.params.toList ++ Rows.fnQueuesSpec.plain.varTypes Try.prog).any (Try.prog.mapsRec ·))) = true := by kernel_rfl
theorem j14 : ((Rows.fnQueuesRow.ifaces == (Try.f3.params.toList ++ Rows.fnQueuesSpec.plain.varTypes Try.prog).any (Try.prog.ifacesRec ·))) = true := by kernel_rfl
theorem j15 : ((Rows.fnQueuesRow.mapsOut == Try.prog.mapsAmong Try.f3.resultTypes.toList)) = true := by kernel_rfl
theorem j16 : ((Rows.fnQueuesRow.loops == (Try.f3.params.toList ++ Rows.fnQueuesSpec.plain.varTypes Try.prog).any (Try.prog.loopsFrom ·))) = true := by kernel_rfl
theorem j17 : ((Rows.fnQueuesRow.wideKeys == (Try.f3.params.toList ++ Rows.fnQueuesSpec.plain.varTypes Try.prog ++ Try.f3.resultTypes.toList).any (Try.prog.wideKeysFrom ·))) = true := by kernel_rfl
theorem j18 : (Rows.fnQueuesSpec.vars.all (Try.prog.varReadable ·)) = true := by kernel_rfl
theorem j19 : (Try.f3.resultTypes.all (fun t => Try.prog.readableRec t && decide (t < Try.prog.types.size))) = true := by kernel_rfl
theorem j20 : ((Rows.fnQueuesRow.ifacesOut == Try.f3.resultTypes.toList.any (Try.prog.ifacesRec ·))) = true := by kernel_rfl
theorem j21 : ((Rows.fnQueuesRow.loopsOut == Try.f3.resultTypes.toList.any (Try.prog.loopsFrom ·))) = true := by kernel_rfl
theorem j22 : ((Rows.fnQueuesRow.plainKeys == Try.prog.plainKeys)) = true := by kernel_rfl
theorem j23 : (Rows.fnQueuesRow.shortTexts.isNone) = true := by kernel_rfl
theorem j24 : (Try.prog.stopsHeard) = true := by kernel_rfl
theorem j25 : (Try.prog.mayEnter) = true := by kernel_rfl
theorem j26 : ((Rows.fnQueuesRow.lifted == Try.prog.liftsFinal)) = true := by kernel_rfl
theorem j27 : ((Try.prog.make == some Rows.fnQueuesRow.make)) = true := by kernel_rfl
theorem j28 : ((Rows.fnQueuesRow.kinds == (if Rows.fnQueuesRow.domain.isEmpty then [] else Try.f3.params.toList.map fun t => match Try.prog.underlying t with | some (.int k) => some k | _ => none))) = true := by kernel_rfl
theorem j29 : ((Rows.fnQueuesRow.pinned == Rows.fnQueuesRow.pinnedBy)) = true := by kernel_rfl
theorem j30 : ((Rows.fnQueuesRow.veiled == (Try.f3.params.toList ++ Rows.fnQueuesSpec.plain.varTypes Try.prog ++ Try.f3.resultTypes.toList).any (Try.prog.veiledRec ·))) = true := by kernel_rfl
theorem j31 : (Rows.fnQueuesRow.veiledFits Try.prog Try.f3.params.toList (Try.f3.params.toList ++ Rows.fnQueuesSpec.plain.varTypes Try.prog ++ Try.f3.resultTypes.toList)) = true := by kernel_rfl
set_option maxRecDepth 100000 in
theorem joined : joinedFacts Try.prog 3 Try.f3 Rows.fnQueuesSpec Rows.fnQueuesRow = true := (cY (cY (cY (cY (cY (cY (cY (cY (cY (cY (cY (cY (cY (cY (cY (cY (cY (cY (cY (cY (cY (cY (cY (cY (cY (cY (cY (cY (cY (cY (cY j0 j1) j2) j3) j4) j5) j6) j7) j8) j9) j10) j11) j12) j13) j14) j15) j16) j17) j18) j19) j20) j21) j22) j23) j24) j25) j26) j27) j28) j29) j30) j31)
theorem named : Try.pinned.checked.prog.funcNamed Rows.fnQueuesRow.func = some 3 := by kernel_rfl
theorem wrapped : Try.f3.isWrapper Try.pinned.checked.prog Rows.fnQueuesRow.wrapper Rows.fnQueuesRow.mainSum := by unfold Func.isWrapper; first | (rw [if_pos (by decide +kernel)]; kernel_rfl) | (rw [if_neg (by decide +kernel)]; exact ⟨rfl, rfl⟩)
set_option maxRecDepth 100000 in
theorem over : Rows.fnQueuesRow.holds Try.pinned (OpenSpec.ofChange Rows.fnQueuesSpec) :=
  OpenClaim.holds_of_wide 3 Try.f3 rfl rfl rfl rfl rfl rfl rfl ⟨rfl, rfl, rfl, rfl, rfl⟩ rfl rfl rfl rfl rfl named Try.func3 joined
    (of_decide_eq_true (by kernel_rfl)) wrapped
    (fun os started H enc _ => lifted os started H enc)
/-- The statement. -/
theorem proved : Rows.FnQueuesSaid := over
end Go.Proofs.Ytkjkoeocnnfilaa.ofFnQueues
