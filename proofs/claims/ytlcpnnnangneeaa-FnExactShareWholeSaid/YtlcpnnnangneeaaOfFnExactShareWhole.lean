/-
  'laws.FnExactShareWhole' returns true, whatever its arguments, and leaves them as they were. No condition.
-/
import Derived.Test.YtlcpnnnangneeaaRows
import Derived.Test.YtlcpnnnangneeaaWkJ
import Derived.Test.YtlcpnnnangneeaaShare
namespace Go.Proofs.Ytlcpnnnangneeaa.ofFnExactShareWhole
open Go.ChangeShapes Go.WideShapes Go.ChangeAt Go.RowKit Go.Wk
open Go.ChangeMaps (open_string shut_string)

theorem knob : ownKnob Try.prog.godebug = none := by kernel_rfl
theorem laidOut : laidOutB Try.prog = true := by kernel_rfl
set_option maxRecDepth 100000 in
theorem lifted (os : Os) (started : os.Started) (H : Type) (enc : TypeId × Value → H) :
    ReturnsInHanded {} Try.checked os 4 .any (Rows.fnExactShareWholeSpec.pre6 enc Try.prog Try.f4 Rows.fnExactShareWholeRow.domain false) (Rows.fnExactShareWholeSpec.post enc Try.prog Try.f4 false true false false) := by
  refine returnsInHanded_of_change (C := Try.checked) knob started (by kernel_rfl) Try.func4
    (ChangeSpec.witness6 (enc := enc) (C := Try.checked) false ⟨#[], #[.agg #[.int .i64 0, .int .i64 0, .string ⟨#[]⟩, .int .i64 0, .int .i64 0, .int .i64 0, .slice none 0 0, .slice none 0 0, .slice none 0 0]], []⟩ 8 (by kernel_rfl) (by kernel_rfl) (by kernel_rfl) (by kernel_rfl)) ?_
  intro W base args ds gs before hval0 hW hcnd _
  have hval : ∀ (j : Nat) t v, Try.f4.params[j]? = some t → args[j]? = some v → Value.okWide Try.prog W .any base t v := hval0
  have hW' := hW
  obtain ⟨p, q, hA0, hV, rfl, hfz, hnd⟩ := hW
  have hA : DataW.TrodAll enc Try.prog W 0 (fun _ => true) true Try.f4.params.toList args.toList ds p := hA0
  rw [Try.params4] at hA hval
  obtain ⟨v0, vs0, d0, ds0, p0, q0, hargs, rfl, rfl, h0, r0⟩ := trodAll_cons hA
  obtain ⟨rfl, rfl, rfl⟩ := trodAll_nil r0
  obtain rfl : args = #[v0] := by cases args; simp_all
  obtain ⟨rfl, rfl⟩ := trodVars_none hV
  have k0 := h0
  have lt0 : ∀ x ∈ p0, x.block < W.heap.size := by obtain ⟨m, hm⟩ := k0; exact DataW.trod_lt m _ _ _ hm
  obtain ⟨a0, fp0, o0⟩ := open_arg (α := Rec) (opens_struct (fun x : Rec => (x.Kind, x.Seq, Str.mk x.Name, x.Length, x.Group, x.Row, x.Rows, x.Data, x.Delta)) (fun (x0, x1, x2, x3, x4, x5, x6, x7, x8) => ⟨x0, x1, x2.b, x3, x4, x5, x6, x7, x8⟩) (fun _ => rfl) Try.underlying36 (by kernel_rfl) (opensF_cons rfl (by kernel_rfl) (opens_int Try.underlying2) (opensF_cons rfl (by kernel_rfl) (opens_int Try.underlying2) (opensF_cons rfl (by kernel_rfl) (opens_str Try.underlying9) (opensF_cons rfl (by kernel_rfl) (opens_int Try.underlying2) (opensF_cons rfl (by kernel_rfl) (opens_int Try.underlying2) (opensF_cons rfl (by kernel_rfl) (opens_int Try.underlying2) (opensF_cons rfl (by kernel_rfl) (opens_list Try.underlying33 (by kernel_rfl) (opens_int Try.underlying2)) (opensF_cons rfl (by kernel_rfl) (opens_list Try.underlying34 (by kernel_rfl) (opens_u8 Try.underlying5)) (opensF_one rfl (by kernel_rfl) (opens_list Try.underlying34 (by kernel_rfl) (opens_u8 Try.underlying5)))))))))))) h0
  obtain ⟨z0, rfl, _⟩ := okWide_struct Try.underlying36 (hval 0 36 v0 rfl rfl)
  obtain ⟨A0_6, C0_6, A0_7, C0_7, A0_8, C0_8, _, _, _, e0, _, c0, o0_6, o0_7, o0_8⟩ := own_Rec o0
  obtain rfl : z0 = ((a0 : Rec).val A0_6 C0_6 A0_7 C0_7 A0_8 C0_8).cells := Array.toList_inj.1 (show z0.toList = ((a0 : Rec).val A0_6 C0_6 A0_7 C0_7 A0_8 C0_8).cells.toList from e0)
  clear hA0 hval0
  refine Calls.mono (Try_laws_FnExactShareWhole (r := a0) c0 ⟨_, o0_6⟩ ⟨_, o0_7⟩ ⟨_, o0_8⟩) fun e W' ⟨v, he, ext, hv⟩ => ?_
  subst hv
  subst he
  have bel := Ext.below ext
  exact ⟨_, rfl, _, _, _, [], _, [], hW', trodAll_mk1 (shut_bool Try.underlying4 _), (trodAll_cons_mk (Below.trod laidOut (by kernel_rfl) (of_decide_eq_true (by kernel_rfl)) k0 bel lt0) trodAll_mk0), rfl, bel.frame _, fun h => by cases h⟩

theorem over : Rows.fnExactShareWholeRow.holds Try.pinned (OpenSpec.ofChange Rows.fnExactShareWholeSpec) :=
  OpenClaim.holds_of_wide 4 Try.f4 rfl rfl rfl rfl rfl rfl rfl ⟨rfl, rfl, rfl, rfl, rfl⟩ rfl rfl rfl rfl rfl (by kernel_rfl) Try.func4 (by kernel_rfl)
    (of_decide_eq_true (by kernel_rfl)) (by unfold Func.isWrapper; first | (rw [if_pos (by decide +kernel)]; kernel_rfl) | (rw [if_neg (by decide +kernel)]; exact ⟨rfl, rfl⟩))
    (fun os started H enc _ => lifted os started H enc)
/-- The statement. -/
theorem proved : Rows.FnExactShareWholeSaid := over
end Go.Proofs.Ytlcpnnnangneeaa.ofFnExactShareWhole
