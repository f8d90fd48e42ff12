/-
  'laws.FnExactDropVoid' returns true, whatever its arguments, and leaves them as they were. No condition.
-/
import Derived.Test.YthfpkjhjkbpbiaaGreatRows
import Derived.Test.YthfpkjhjkbpbiaaGreatZc5
set_option linter.unusedVariables false
set_option linter.unusedSimpArgs false
namespace Go.Proofs.YthfpkjhjkbpbiaaGreat.ofFnExactDropVoid
open Go.ChangeShapes Go.WideShapes Go.ChangeAt Go.RowKit Go.Wk
open Go.ChangeMaps (open_string shut_string)

theorem knob : ownKnob Tryz.prog.godebug = none := by kernel_rfl
theorem laidOut : laidOutB Tryz.prog = true := by kernel_rfl
set_option maxRecDepth 100000 in
theorem lifted (os : Os) (started : os.Started) (H : Type) (enc : TypeId × Value → H) :
    ReturnsInHanded {} Tryz.checked os 13 .any (Rows.fnExactDropVoidSpec.pre6 enc Tryz.prog Tryz.f13 Rows.fnExactDropVoidRow.domain false) (Rows.fnExactDropVoidSpec.post enc Tryz.prog Tryz.f13 false true false false) := by
  refine returnsInHanded_of_change (C := Tryz.checked) knob started (by kernel_rfl) Tryz.func13
    (ChangeSpec.witness6 (enc := enc) (C := Tryz.checked) false ⟨#[], #[.agg #[.int .i64 0, .int .i64 0, .int .i64 0, .int .i64 0, .int .i64 0, .int .i64 0, .int .i64 0, .int .i64 0, .int .i64 0, .slice none 0 0, .slice none 0 0, .slice none 0 0, .int .i64 0, .int .i64 0, .bool false]], []⟩ 8 (by kernel_rfl) (by kernel_rfl) (by kernel_rfl) (by kernel_rfl)) ?_
  intro W base args ds gs before hval0 hW hcnd _
  have hval : ∀ (j : Nat) t v, Tryz.f13.params[j]? = some t → args[j]? = some v → Value.okWide Tryz.prog W .any base t v := hval0
  have hW' := hW
  obtain ⟨p, q, hA0, hV, rfl, hfz, hnd⟩ := hW
  have hA : DataW.TrodAll enc Tryz.prog W 0 (fun _ => true) true Tryz.f13.params.toList args.toList ds p := hA0
  rw [Tryz.params13] at hA hval
  obtain ⟨v0, vs0, d0, ds0, p0, q0, hargs, rfl, rfl, h0, r0⟩ := trodAll_cons hA
  obtain ⟨rfl, rfl, rfl⟩ := trodAll_nil r0
  obtain rfl : args = #[v0] := by cases args; simp_all
  obtain ⟨rfl, rfl⟩ := trodVars_none hV
  have k0 := h0
  have lt0 : ∀ x ∈ p0, x.block < W.heap.size := by obtain ⟨m, hm⟩ := k0; exact DataW.trod_lt m _ _ _ hm
  obtain ⟨a0, fp0, o0⟩ := open_arg (α := Go.Wk.Wld) (opens_struct (fun x : Go.Wk.Wld => (x.Shape, x.Groups, x.On, x.Tapes, x.Writes, x.Stop, x.Down)) (fun (x0, x1, x2, x3, x4, x5, x6) => ⟨x0, x1, x2, x3, x4, x5, x6⟩) (fun _ => rfl) Tryz.underlying28 (by kernel_rfl) (opensF_cons rfl (by kernel_rfl) (opens_struct (fun x : Go.Wk.Shape => (x.Groups, x.Column, x.Data, x.Spare, x.Rows, x.Cap, x.Batch, x.Queue, x.Stage)) (fun (x0, x1, x2, x3, x4, x5, x6, x7, x8) => ⟨x0, x1, x2, x3, x4, x5, x6, x7, x8⟩) (fun _ => rfl) Tryz.underlying23 (by kernel_rfl) (opensF_cons rfl (by kernel_rfl) (opens_int Tryz.underlying2) (opensF_cons rfl (by kernel_rfl) (opens_int Tryz.underlying2) (opensF_cons rfl (by kernel_rfl) (opens_int Tryz.underlying2) (opensF_cons rfl (by kernel_rfl) (opens_int Tryz.underlying2) (opensF_cons rfl (by kernel_rfl) (opens_int Tryz.underlying2) (opensF_cons rfl (by kernel_rfl) (opens_int Tryz.underlying2) (opensF_cons rfl (by kernel_rfl) (opens_int Tryz.underlying2) (opensF_cons rfl (by kernel_rfl) (opens_int Tryz.underlying2) (opensF_one rfl (by kernel_rfl) (opens_int Tryz.underlying2))))))))))) (opensF_cons rfl (by kernel_rfl) (opens_list Tryz.underlying24 (by kernel_rfl) (opens_list Tryz.underlying132 (by kernel_rfl) (opens_struct (fun x : Go.Wk.Drive => (x.Wiped, x.Blocks)) (fun (x0, x1) => ⟨x0, x1⟩) (fun _ => rfl) Tryz.underlying210 (by kernel_rfl) (opensF_cons rfl (by kernel_rfl) (opens_bool Tryz.underlying4) (opensF_one rfl (by kernel_rfl) (opens_list Tryz.underlying208 (by kernel_rfl) (opens_struct (fun x : Go.Wk.Block => (x.Stamp, x.Bytes)) (fun (x0, x1) => ⟨x0, x1⟩) (fun _ => rfl) Tryz.underlying283 (by kernel_rfl) (opensF_cons rfl (by kernel_rfl) (opens_int Tryz.underlying2) (opensF_one rfl (by kernel_rfl) (opens_list Tryz.underlying45 (by kernel_rfl) (opens_u8 Tryz.underlying5))))))))))) (opensF_cons rfl (by kernel_rfl) (opens_list Tryz.underlying25 (by kernel_rfl) (opens_int Tryz.underlying2)) (opensF_cons rfl (by kernel_rfl) (opens_list Tryz.underlying26 (by kernel_rfl) (opens_struct (fun x : Go.Wk.Tape => (x.Wiped, x.Recs)) (fun (x0, x1) => ⟨x0, x1⟩) (fun _ => rfl) Tryz.underlying136 (by kernel_rfl) (opensF_cons rfl (by kernel_rfl) (opens_bool Tryz.underlying4) (opensF_one rfl (by kernel_rfl) (opens_list Tryz.underlying134 (by kernel_rfl) (opens_struct (fun x : Go.Wk.Rec => (x.Kind, x.Seq, Str.mk x.Name, x.Length, x.Group, x.Row, x.Rows, x.Data, x.Delta)) (fun (x0, x1, x2, x3, x4, x5, x6, x7, x8) => ⟨x0, x1, x2.b, x3, x4, x5, x6, x7, x8⟩) (fun _ => rfl) Tryz.underlying63 (by kernel_rfl) (opensF_cons rfl (by kernel_rfl) (opens_int Tryz.underlying2) (opensF_cons rfl (by kernel_rfl) (opens_int Tryz.underlying2) (opensF_cons rfl (by kernel_rfl) (opens_str Tryz.underlying9) (opensF_cons rfl (by kernel_rfl) (opens_int Tryz.underlying2) (opensF_cons rfl (by kernel_rfl) (opens_int Tryz.underlying2) (opensF_cons rfl (by kernel_rfl) (opens_int Tryz.underlying2) (opensF_cons rfl (by kernel_rfl) (opens_list Tryz.underlying25 (by kernel_rfl) (opens_int Tryz.underlying2)) (opensF_cons rfl (by kernel_rfl) (opens_list Tryz.underlying45 (by kernel_rfl) (opens_u8 Tryz.underlying5)) (opensF_one rfl (by kernel_rfl) (opens_list Tryz.underlying45 (by kernel_rfl) (opens_u8 Tryz.underlying5))))))))))))))))) (opensF_cons rfl (by kernel_rfl) (opens_int Tryz.underlying2) (opensF_cons rfl (by kernel_rfl) (opens_int Tryz.underlying2) (opensF_one rfl (by kernel_rfl) (opens_bool Tryz.underlying4))))))))) h0
  obtain ⟨z0, rfl, _⟩ := okWide_struct Tryz.underlying28 (hval 0 28 v0 rfl rfl)
  obtain ⟨A0_9, C0_9, A0_10, C0_10, A0_11, C0_11, _, _, _, e0, _, c0, o0_9, o0_10, o0_11⟩ := own_Wld o0
  obtain rfl : z0 = ((a0 : Go.Wk.Wld).val A0_9 C0_9 A0_10 C0_10 A0_11 C0_11).cells := Array.toList_inj.1 (show z0.toList = ((a0 : Go.Wk.Wld).val A0_9 C0_9 A0_10 C0_10 A0_11 C0_11).cells.toList from e0)
  clear hA0 hval0
  refine Calls.mono (Tryz_laws_FnExactDropVoid (z := a0) c0 ⟨_, o0_9⟩ ⟨_, o0_10⟩ ⟨_, o0_11⟩) fun e W' ⟨v, he, ext, hv⟩ => ?_
  subst hv
  subst he
  have bel := Ext.below ext
  exact ⟨_, rfl, _, _, _, [], _, [], hW', trodAll_mk1 (shut_bool Tryz.underlying4 _), (trodAll_cons_mk (Below.trod laidOut (by kernel_rfl) (of_decide_eq_true (by kernel_rfl)) k0 bel lt0) trodAll_mk0), rfl, bel.frame _, fun h => by cases h⟩

theorem and2 {a b : Bool} (h : a = true) (k : b = true) : (a && b) = true := by rw [h, k]; rfl
theorem j0 : (Rows.fnExactDropVoidRow.wf (OpenSpec.ofChange Rows.fnExactDropVoidSpec)) = true := by kernel_rfl
theorem j1 : (laidOutB Tryz.prog) = true := by kernel_rfl
theorem j2 : (mapsRowed Tryz.prog) = true := by kernel_rfl
theorem j3 : (Tryz.f13.params.all (Tryz.prog.readableRec ·)) = true := by kernel_rfl
theorem j4 : (namedTie Tryz.prog Rows.fnExactDropVoidRow.named Rows.fnExactDropVoidSpec.vars) = true := by kernel_rfl
theorem j5 : ((Rows.fnExactDropVoidRow.stops == [])) = true := by kernel_rfl
theorem j6 : ((Tryz.prog.stops == [])) = true := by kernel_rfl
theorem j7 : ((Rows.fnExactDropVoidRow.knobs == [])) = true := by kernel_rfl
theorem j8 : ((Tryz.prog.stopKnobs == [])) = true := by kernel_rfl
theorem j9 : ((Rows.fnExactDropVoidRow.inPlace == Tryz.prog.inPlace 13)) = true := by kernel_rfl
theorem j10 : ((Rows.fnExactDropVoidRow.unfollowed == Tryz.prog.unfollowed 13)) = true := by kernel_rfl
theorem j11 : ((Rows.fnExactDropVoidRow.recurses == Tryz.prog.recurses 13)) = true := by kernel_rfl
theorem j12 : ((Rows.fnExactDropVoidRow.named == Tryz.prog.varsNamed 13)) = true := by kernel_rfl
theorem j13 : ((Rows.fnExactDropVoidRow.maps == (Tryz.f13.params.toList ++ Rows.fnExactDropVoidSpec.plain.varTypes Tryz.prog).any (Tryz.prog.mapsRec ·))) = true := by kernel_rfl
theorem j14 : ((Rows.fnExactDropVoidRow.ifaces == (Tryz.f13.params.toList ++ Rows.fnExactDropVoidSpec.plain.varTypes Tryz.prog).any (Tryz.prog.ifacesRec ·))) = true := by kernel_rfl
theorem j15 : ((Rows.fnExactDropVoidRow.mapsOut == Tryz.prog.mapsAmong Tryz.f13.resultTypes.toList)) = true := by kernel_rfl
theorem j16 : ((Rows.fnExactDropVoidRow.loops == (Tryz.f13.params.toList ++ Rows.fnExactDropVoidSpec.plain.varTypes Tryz.prog).any (Tryz.prog.loopsFrom ·))) = true := by kernel_rfl
theorem j17 : ((Rows.fnExactDropVoidRow.wideKeys == (Tryz.f13.params.toList ++ Rows.fnExactDropVoidSpec.plain.varTypes Tryz.prog ++ Tryz.f13.resultTypes.toList).any (Tryz.prog.wideKeysFrom ·))) = true := by kernel_rfl
theorem j18 : (Rows.fnExactDropVoidSpec.vars.all (Tryz.prog.varReadable ·)) = true := by kernel_rfl
theorem j19 : (Tryz.f13.resultTypes.all (fun t => Tryz.prog.readableRec t && decide (t < Tryz.prog.types.size))) = true := by kernel_rfl
theorem j20 : ((Rows.fnExactDropVoidRow.ifacesOut == Tryz.f13.resultTypes.toList.any (Tryz.prog.ifacesRec ·))) = true := by kernel_rfl
theorem j21 : ((Rows.fnExactDropVoidRow.loopsOut == Tryz.f13.resultTypes.toList.any (Tryz.prog.loopsFrom ·))) = true := by kernel_rfl
theorem j22 : ((Rows.fnExactDropVoidRow.plainKeys == Tryz.prog.plainKeys)) = true := by kernel_rfl
theorem j23 : (Rows.fnExactDropVoidRow.shortTexts.isNone) = true := by kernel_rfl
theorem j24 : (Tryz.prog.stopsHeard) = true := by kernel_rfl
theorem j25 : (Tryz.prog.mayEnter) = true := by kernel_rfl
theorem j26 : ((Rows.fnExactDropVoidRow.lifted == Tryz.prog.liftsFinal)) = true := by kernel_rfl
theorem j27 : ((Tryz.prog.make == some Rows.fnExactDropVoidRow.make)) = true := by kernel_rfl
theorem j28 : ((Rows.fnExactDropVoidRow.kinds == (if Rows.fnExactDropVoidRow.domain.isEmpty then [] else Tryz.f13.params.toList.map fun t => match Tryz.prog.underlying t with | some (.int k) => some k | _ => none))) = true := by kernel_rfl
theorem j29 : ((Rows.fnExactDropVoidRow.pinned == Rows.fnExactDropVoidRow.pinnedBy)) = true := by kernel_rfl
theorem j30 : ((Rows.fnExactDropVoidRow.veiled == (Tryz.f13.params.toList ++ Rows.fnExactDropVoidSpec.plain.varTypes Tryz.prog ++ Tryz.f13.resultTypes.toList).any (Tryz.prog.veiledRec ·))) = true := by kernel_rfl
theorem j31 : (Rows.fnExactDropVoidRow.veiledFits Tryz.prog Tryz.f13.params.toList (Tryz.f13.params.toList ++ Rows.fnExactDropVoidSpec.plain.varTypes Tryz.prog ++ Tryz.f13.resultTypes.toList)) = true := by kernel_rfl
set_option maxRecDepth 100000 in
theorem joined : joinedFacts Tryz.prog 13 Tryz.f13 Rows.fnExactDropVoidSpec Rows.fnExactDropVoidRow = true := (and2 (and2 (and2 (and2 (and2 (and2 (and2 (and2 (and2 (and2 (and2 (and2 (and2 (and2 (and2 (and2 (and2 (and2 (and2 (and2 (and2 (and2 (and2 (and2 (and2 (and2 (and2 (and2 (and2 (and2 (and2 j0 j1) j2) j3) j4) j5) j6) j7) j8) j9) j10) j11) j12) j13) j14) j15) j16) j17) j18) j19) j20) j21) j22) j23) j24) j25) j26) j27) j28) j29) j30) j31)
theorem named : Tryz.pinned.checked.prog.funcNamed Rows.fnExactDropVoidRow.func = some 13 := by kernel_rfl
theorem wrapped : Tryz.f13.isWrapper Tryz.pinned.checked.prog Rows.fnExactDropVoidRow.wrapper Rows.fnExactDropVoidRow.mainSum := by unfold Func.isWrapper; first | (rw [if_pos (by decide +kernel)]; kernel_rfl) | (rw [if_neg (by decide +kernel)]; exact ⟨rfl, rfl⟩)
set_option maxRecDepth 100000 in
theorem over : Rows.fnExactDropVoidRow.holds Tryz.pinned (OpenSpec.ofChange Rows.fnExactDropVoidSpec) :=
  OpenClaim.holds_of_wide 13 Tryz.f13 rfl rfl rfl rfl rfl rfl rfl ⟨rfl, rfl, rfl, rfl, rfl⟩ rfl rfl rfl rfl rfl named Tryz.func13 joined
    (of_decide_eq_true (by kernel_rfl)) wrapped
    (fun os started H enc _ => lifted os started H enc)
/-- The statement. -/
theorem proved : Rows.FnExactDropVoidSaid := over
end Go.Proofs.YthfpkjhjkbpbiaaGreat.ofFnExactDropVoid
