/-
  'laws.FnExactRedoAll' returns true, whatever its arguments, and leaves them as they were. No condition.
-/
import Derived.Test.YtlbpcbdlcdbioaaGreatRows
import Derived.Test.YtlbpcbdlcdbioaaGreatZE5
set_option linter.unusedVariables false
set_option linter.unusedSimpArgs false
namespace Go.Proofs.YtlbpcbdlcdbioaaGreat.ofFnExactRedoAll
open Go.ChangeShapes Go.WideShapes Go.ChangeAt Go.RowKit Go.Wk
open Go.ChangeMaps (open_string shut_string)

theorem knob : ownKnob Tryz.prog.godebug = none := by kernel_rfl
theorem Cd : laidOutB Tryz.prog = true := by kernel_rfl
set_option maxRecDepth 100000 in
theorem lifted (os : Os) (started : os.Started) (H : Type) (enc : TypeId × Value → H) :
    ReturnsInHanded {} Tryz.checked os 4 .any (Rows.fnExactRedoAllSpec.pre6 enc Tryz.prog Tryz.f4 Rows.fnExactRedoAllRow.domain false) (Rows.fnExactRedoAllSpec.post enc Tryz.prog Tryz.f4 false true false false) := by
  refine returnsInHanded_of_change (C := Tryz.checked) knob started (by kernel_rfl) Tryz.func4
    (ChangeSpec.witness6 (enc := enc) (C := Tryz.checked) false ⟨#[], #[.agg #[.int .i64 0, .int .i64 0, .int .i64 0, .int .i64 0, .int .i64 0, .int .i64 0, .int .i64 0, .int .i64 0, .int .i64 0, .slice none 0 0, .slice none 0 0, .slice none 0 0, .int .i64 0, .int .i64 0, .bool false], .int .i64 0], []⟩ 8 (by kernel_rfl) (by kernel_rfl) (by kernel_rfl) (by kernel_rfl)) ?_
  intro W base args ds gs before hval0 hW hcnd _
  have hval : ∀ (j : Nat) t v, Tryz.f4.params[j]? = some t → args[j]? = some v → Value.okWide Tryz.prog W .any base t v := hval0
  have hW' := hW
  obtain ⟨p, q, hA0, hV, rfl, hfz, hnd⟩ := hW
  have hA : DataW.TrodAll enc Tryz.prog W 0 (fun _ => true) true Tryz.f4.params.toList args.toList ds p := hA0
  rw [Tryz.params4] at hA hval
  obtain ⟨v0, vs0, d0, ds0, p0, q0, hargs, rfl, rfl, h0, r0⟩ := trodAll_cons hA
  obtain ⟨v1, vs1, d1, ds1, p1, q1, rfl, rfl, rfl, h1, r1⟩ := trodAll_cons r0
  obtain ⟨rfl, rfl, rfl⟩ := trodAll_nil r1
  obtain rfl : args = #[v0, v1] := by cases args; simp_all
  obtain ⟨rfl, rfl⟩ := trodVars_none hV
  have k0 := h0
  have lt0 : ∀ x ∈ p0, x.block < W.heap.size := by obtain ⟨m, hm⟩ := k0; exact DataW.trod_lt m _ _ _ hm
  have k1 := h1
  have lt1 : ∀ x ∈ p1, x.block < W.heap.size := by obtain ⟨m, hm⟩ := k1; exact DataW.trod_lt m _ _ _ hm
  obtain ⟨a0, fp0, o0⟩ := xI (α := Go.Wk.Wld) (fV (fun x : Go.Wk.Wld => (x.Shape, x.Groups, x.On, x.Tapes, x.Writes, x.Stop, x.Down)) (fun (x0, x1, x2, x3, x4, x5, x6) => ⟨x0, x1, x2, x3, x4, x5, x6⟩) (fun _ => rfl) Tryz.underlying28 (by kernel_rfl) (bC rfl (by kernel_rfl) (fV (fun x : Go.Wk.Shape => (x.Groups, x.Column, x.Data, x.Spare, x.Rows, x.Cap, x.Batch, x.Queue, x.Stage)) (fun (x0, x1, x2, x3, x4, x5, x6, x7, x8) => ⟨x0, x1, x2, x3, x4, x5, x6, x7, x8⟩) (fun _ => rfl) Tryz.underlying23 (by kernel_rfl) (bC rfl (by kernel_rfl) (cx Tryz.underlying2) (bC rfl (by kernel_rfl) (cx Tryz.underlying2) (bC rfl (by kernel_rfl) (cx Tryz.underlying2) (bC rfl (by kernel_rfl) (cx Tryz.underlying2) (bC rfl (by kernel_rfl) (cx Tryz.underlying2) (bC rfl (by kernel_rfl) (cx Tryz.underlying2) (bC rfl (by kernel_rfl) (cx Tryz.underlying2) (bC rfl (by kernel_rfl) (cx Tryz.underlying2) (iL rfl (by kernel_rfl) (cx Tryz.underlying2))))))))))) (bC rfl (by kernel_rfl) (eG Tryz.underlying24 (by kernel_rfl) (eG Tryz.underlying172 (by kernel_rfl) (fV (fun x : Go.Wk.Drive => (x.Wiped, x.Blocks)) (fun (x0, x1) => ⟨x0, x1⟩) (fun _ => rfl) Tryz.underlying270 (by kernel_rfl) (bC rfl (by kernel_rfl) (ou Tryz.underlying4) (iL rfl (by kernel_rfl) (eG Tryz.underlying268 (by kernel_rfl) (fV (fun x : Go.Wk.Block => (x.Stamp, x.Bytes)) (fun (x0, x1) => ⟨x0, x1⟩) (fun _ => rfl) Tryz.underlying350 (by kernel_rfl) (bC rfl (by kernel_rfl) (cx Tryz.underlying2) (iL rfl (by kernel_rfl) (eG Tryz.underlying46 (by kernel_rfl) (uc Tryz.underlying5))))))))))) (bC rfl (by kernel_rfl) (eG Tryz.underlying25 (by kernel_rfl) (cx Tryz.underlying2)) (bC rfl (by kernel_rfl) (eG Tryz.underlying26 (by kernel_rfl) (fV (fun x : Go.Wk.Tape => (x.Wiped, x.Recs)) (fun (x0, x1) => ⟨x0, x1⟩) (fun _ => rfl) Tryz.underlying176 (by kernel_rfl) (bC rfl (by kernel_rfl) (ou Tryz.underlying4) (iL rfl (by kernel_rfl) (eG Tryz.underlying174 (by kernel_rfl) (fV (fun x : Go.Wk.Rec => (x.Kind, x.Seq, Str.mk x.Name, x.Length, x.Group, x.Row, x.Rows, x.Data, x.Delta)) (fun (x0, x1, x2, x3, x4, x5, x6, x7, x8) => ⟨x0, x1, x2.b, x3, x4, x5, x6, x7, x8⟩) (fun _ => rfl) Tryz.underlying318 (by kernel_rfl) (bC rfl (by kernel_rfl) (cx Tryz.underlying2) (bC rfl (by kernel_rfl) (cx Tryz.underlying2) (bC rfl (by kernel_rfl) (De Tryz.underlying9) (bC rfl (by kernel_rfl) (cx Tryz.underlying2) (bC rfl (by kernel_rfl) (cx Tryz.underlying2) (bC rfl (by kernel_rfl) (cx Tryz.underlying2) (bC rfl (by kernel_rfl) (eG Tryz.underlying25 (by kernel_rfl) (cx Tryz.underlying2)) (bC rfl (by kernel_rfl) (eG Tryz.underlying46 (by kernel_rfl) (uc Tryz.underlying5)) (iL rfl (by kernel_rfl) (eG Tryz.underlying46 (by kernel_rfl) (uc Tryz.underlying5))))))))))))))))) (bC rfl (by kernel_rfl) (cx Tryz.underlying2) (bC rfl (by kernel_rfl) (cx Tryz.underlying2) (iL rfl (by kernel_rfl) (ou Tryz.underlying4))))))))) h0
  obtain ⟨z0, rfl, _⟩ := okWide_struct Tryz.underlying28 (hval 0 28 v0 rfl rfl)
  obtain ⟨A0_9, C0_9, A0_10, C0_10, A0_11, C0_11, _, _, _, e0, _, c0, o0_9, o0_10, o0_11⟩ := sm o0
  obtain rfl : z0 = ((a0 : Go.Wk.Wld).val A0_9 C0_9 A0_10 C0_10 A0_11 C0_11).cells := Array.toList_inj.1 (show z0.toList = ((a0 : Go.Wk.Wld).val A0_9 C0_9 A0_10 C0_10 A0_11 C0_11).cells.toList from e0)
  obtain ⟨a1, fp1, o1⟩ := xI (α := Int) (cx Tryz.underlying2) h1
  obtain ⟨n1, rfl⟩ := okWide_int Tryz.underlying2 (hval 1 2 v1 rfl rfl)
  clear hA0 hval0
  refine Calls.mono (kQ (z := a0) c0 ⟨_, o0_9⟩ ⟨_, o0_10⟩ ⟨_, o0_11⟩) fun e W' ⟨v, he, ext, hv⟩ => ?_
  subst hv
  subst he
  have bel := Ext.below ext
  exact ⟨_, rfl, _, _, _, [], _, [], hW', trodAll_mk1 (shut_bool Tryz.underlying4 _), (trodAll_cons_mk (Below.trod Cd (by kernel_rfl) (of_decide_eq_true (by kernel_rfl)) k0 bel lt0) (trodAll_cons_mk (Below.trod Cd (by kernel_rfl) (of_decide_eq_true (by kernel_rfl)) k1 bel lt1) trodAll_mk0)), rfl, bel.frame _, fun h => by cases h⟩

theorem gE {a b : Bool} (h : a = true) (k : b = true) : (a && b) = true := by rw [h, k]; rfl
theorem j0 : (Rows.fnExactRedoAllRow.wf (OpenSpec.ofChange Rows.fnExactRedoAllSpec)) = true := by kernel_rfl
theorem j1 : (laidOutB Tryz.prog) = true := by kernel_rfl
theorem j2 : (mapsRowed Tryz.prog) = true := by kernel_rfl
theorem j3 : (Tryz.f4.params.all (Tryz.prog.readableRec ·)) = true := by kernel_rfl
theorem j4 : (namedTie Tryz.prog Rows.fnExactRedoAllRow.named Rows.fnExactRedoAllSpec.vars) = true := by kernel_rfl
theorem j5 : ((Rows.fnExactRedoAllRow.stops == [])) = true := by kernel_rfl
theorem j6 : ((Tryz.prog.stops == [])) = true := by kernel_rfl
theorem j7 : ((Rows.fnExactRedoAllRow.knobs == [])) = true := by kernel_rfl
theorem j8 : ((Tryz.prog.stopKnobs == [])) = true := by kernel_rfl
theorem j9 : ((Rows.fnExactRedoAllRow.inPlace == Tryz.prog.inPlace 4)) = true := by kernel_rfl
theorem j10 : ((Rows.fnExactRedoAllRow.unfollowed == Tryz.prog.unfollowed 4)) = true := by kernel_rfl
theorem j11 : ((Rows.fnExactRedoAllRow.recurses == Tryz.prog.recurses 4)) = true := by kernel_rfl
theorem j12 : ((Rows.fnExactRedoAllRow.named == Tryz.prog.varsNamed 4)) = true := by kernel_rfl
theorem j13 : ((Rows.fnExactRedoAllRow.maps == (Tryz.f4.params.toList ++ Rows.fnExactRedoAllSpec.plain.varTypes Tryz.prog).any (Tryz.prog.mapsRec ·))) = true := by kernel_rfl
theorem j14 : ((Rows.fnExactRedoAllRow.ifaces == (Tryz.f4.params.toList ++ Rows.fnExactRedoAllSpec.plain.varTypes Tryz.prog).any (Tryz.prog.ifacesRec ·))) = true := by kernel_rfl
theorem j15 : ((Rows.fnExactRedoAllRow.mapsOut == Tryz.prog.mapsAmong Tryz.f4.resultTypes.toList)) = true := by kernel_rfl
theorem j16 : ((Rows.fnExactRedoAllRow.loops == (Tryz.f4.params.toList ++ Rows.fnExactRedoAllSpec.plain.varTypes Tryz.prog).any (Tryz.prog.loopsFrom ·))) = true := by kernel_rfl
theorem j17 : ((Rows.fnExactRedoAllRow.wideKeys == (Tryz.f4.params.toList ++ Rows.fnExactRedoAllSpec.plain.varTypes Tryz.prog ++ Tryz.f4.resultTypes.toList).any (Tryz.prog.wideKeysFrom ·))) = true := by kernel_rfl
theorem j18 : (Rows.fnExactRedoAllSpec.vars.all (Tryz.prog.varReadable ·)) = true := by kernel_rfl
theorem j19 : (Tryz.f4.resultTypes.all (fun t => Tryz.prog.readableRec t && decide (t < Tryz.prog.types.size))) = true := by kernel_rfl
theorem j20 : ((Rows.fnExactRedoAllRow.ifacesOut == Tryz.f4.resultTypes.toList.any (Tryz.prog.ifacesRec ·))) = true := by kernel_rfl
theorem j21 : ((Rows.fnExactRedoAllRow.loopsOut == Tryz.f4.resultTypes.toList.any (Tryz.prog.loopsFrom ·))) = true := by kernel_rfl
theorem j22 : ((Rows.fnExactRedoAllRow.plainKeys == Tryz.prog.plainKeys)) = true := by kernel_rfl
theorem j23 : (Rows.fnExactRedoAllRow.shortTexts.isNone) = true := by kernel_rfl
theorem j24 : (Tryz.prog.stopsHeard) = true := by kernel_rfl
theorem j25 : (Tryz.prog.mayEnter) = true := by kernel_rfl
theorem j26 : ((Rows.fnExactRedoAllRow.lifted == Tryz.prog.liftsFinal)) = true := by kernel_rfl
theorem j27 : ((Tryz.prog.make == some Rows.fnExactRedoAllRow.make)) = true := by kernel_rfl
theorem j28 : ((Rows.fnExactRedoAllRow.kinds == (if Rows.fnExactRedoAllRow.domain.isEmpty then [] else Tryz.f4.params.toList.map fun t => match Tryz.prog.underlying t with | some (.int k) => some k | _ => none))) = true := by kernel_rfl
theorem j29 : ((Rows.fnExactRedoAllRow.pinned == Rows.fnExactRedoAllRow.pinnedBy)) = true := by kernel_rfl
theorem j30 : ((Rows.fnExactRedoAllRow.veiled == (Tryz.f4.params.toList ++ Rows.fnExactRedoAllSpec.plain.varTypes Tryz.prog ++ Tryz.f4.resultTypes.toList).any (Tryz.prog.veiledRec ·))) = true := by kernel_rfl
theorem j31 : (Rows.fnExactRedoAllRow.veiledFits Tryz.prog Tryz.f4.params.toList (Tryz.f4.params.toList ++ Rows.fnExactRedoAllSpec.plain.varTypes Tryz.prog ++ Tryz.f4.resultTypes.toList)) = true := by kernel_rfl
set_option maxRecDepth 100000 in
theorem joined : joinedFacts Tryz.prog 4 Tryz.f4 Rows.fnExactRedoAllSpec Rows.fnExactRedoAllRow = true := (gE (gE (gE (gE (gE (gE (gE (gE (gE (gE (gE (gE (gE (gE (gE (gE (gE (gE (gE (gE (gE (gE (gE (gE (gE (gE (gE (gE (gE (gE (gE j0 j1) j2) j3) j4) j5) j6) j7) j8) j9) j10) j11) j12) j13) j14) j15) j16) j17) j18) j19) j20) j21) j22) j23) j24) j25) j26) j27) j28) j29) j30) j31)
theorem named : Tryz.pinned.checked.prog.funcNamed Rows.fnExactRedoAllRow.func = some 4 := by kernel_rfl
theorem wrapped : Tryz.f4.isWrapper Tryz.pinned.checked.prog Rows.fnExactRedoAllRow.wrapper Rows.fnExactRedoAllRow.mainSum := by unfold Func.isWrapper; first | (rw [if_pos (by decide +kernel)]; kernel_rfl) | (rw [if_neg (by decide +kernel)]; exact ⟨rfl, rfl⟩)
set_option maxRecDepth 100000 in
theorem over : Rows.fnExactRedoAllRow.holds Tryz.pinned (OpenSpec.ofChange Rows.fnExactRedoAllSpec) :=
  OpenClaim.holds_of_wide 4 Tryz.f4 rfl rfl rfl rfl rfl rfl rfl ⟨rfl, rfl, rfl, rfl, rfl⟩ rfl rfl rfl rfl rfl named Tryz.func4 joined
    (of_decide_eq_true (by kernel_rfl)) wrapped
    (fun os started H enc _ => lifted os started H enc)
/-- The statement. -/
theorem proved : Rows.FnExactRedoAllSaid := over
end Go.Proofs.YtlbpcbdlcdbioaaGreat.ofFnExactRedoAll
