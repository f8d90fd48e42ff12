/-
  'laws.FnExactTicketFault' returns true, whatever its arguments, and leaves them as they were. No condition.
-/
import Derived.Test.YtlcpnnnangneeaaRows
import Derived.Test.YtlcpnnnangneeaaWkJ
import Derived.Test.YtlcpnnnangneeaaTicket
namespace Go.Proofs.Ytlcpnnnangneeaa.ofFnExactTicketFault
open Go.ChangeShapes Go.WideShapes Go.ChangeAt Go.RowKit Go.Wk
open Go.ChangeMaps (open_string shut_string)

theorem knob : ownKnob Try.prog.godebug = none := by kernel_rfl
theorem laidOut : laidOutB Try.prog = true := by kernel_rfl
set_option maxRecDepth 100000 in
theorem lifted (os : Os) (started : os.Started) (H : Type) (enc : TypeId × Value → H) :
    ReturnsInHanded {} Try.checked os 3 .any (Rows.fnExactTicketFaultSpec.pre6 enc Try.prog Try.f3 Rows.fnExactTicketFaultRow.domain false) (Rows.fnExactTicketFaultSpec.post enc Try.prog Try.f3 false true false false) := by
  refine returnsInHanded_of_change (C := Try.checked) knob started (by kernel_rfl) Try.func3
    (ChangeSpec.witness6 (enc := enc) (C := Try.checked) false ⟨#[], #[.agg #[.int .i64 0, .int .i64 0, .int .i64 0, .int .i64 0, .int .i64 0, .int .i64 0, .int .i64 0, .int .i64 0, .int .i64 0], .agg #[.int .i64 0, .int .i64 0, .string ⟨#[]⟩, .int .i64 0]], []⟩ 8 (by kernel_rfl) (by kernel_rfl) (by kernel_rfl) (by kernel_rfl)) ?_
  intro W base args ds gs before hval0 hW hcnd _
  have hval : ∀ (j : Nat) t v, Try.f3.params[j]? = some t → args[j]? = some v → Value.okWide Try.prog W .any base t v := hval0
  have hW' := hW
  obtain ⟨p, q, hA0, hV, rfl, hfz, hnd⟩ := hW
  have hA : DataW.TrodAll enc Try.prog W 0 (fun _ => true) true Try.f3.params.toList args.toList ds p := hA0
  rw [Try.params3] at hA hval
  obtain ⟨v0, vs0, d0, ds0, p0, q0, hargs, rfl, rfl, h0, r0⟩ := trodAll_cons hA
  obtain ⟨v1, vs1, d1, ds1, p1, q1, rfl, rfl, rfl, h1, r1⟩ := trodAll_cons r0
  obtain ⟨rfl, rfl, rfl⟩ := trodAll_nil r1
  obtain rfl : args = #[v0, v1] := by cases args; simp_all
  obtain ⟨rfl, rfl⟩ := trodVars_none hV
  have k0 := h0
  have lt0 : ∀ x ∈ p0, x.block < W.heap.size := by obtain ⟨m, hm⟩ := k0; exact DataW.trod_lt m _ _ _ hm
  have k1 := h1
  have lt1 : ∀ x ∈ p1, x.block < W.heap.size := by obtain ⟨m, hm⟩ := k1; exact DataW.trod_lt m _ _ _ hm
  obtain ⟨a0, fp0, o0⟩ := open_arg (α := Shape) (opens_struct (fun x : Shape => (x.Groups, x.Column, x.Data, x.Spare, x.Rows, x.Cap, x.Batch, x.Queue, x.Stage)) (fun (x0, x1, x2, x3, x4, x5, x6, x7, x8) => ⟨x0, x1, x2, x3, x4, x5, x6, x7, x8⟩) (fun _ => rfl) Try.underlying23 (by kernel_rfl) (opensF_cons rfl (by kernel_rfl) (opens_int Try.underlying2) (opensF_cons rfl (by kernel_rfl) (opens_int Try.underlying2) (opensF_cons rfl (by kernel_rfl) (opens_int Try.underlying2) (opensF_cons rfl (by kernel_rfl) (opens_int Try.underlying2) (opensF_cons rfl (by kernel_rfl) (opens_int Try.underlying2) (opensF_cons rfl (by kernel_rfl) (opens_int Try.underlying2) (opensF_cons rfl (by kernel_rfl) (opens_int Try.underlying2) (opensF_cons rfl (by kernel_rfl) (opens_int Try.underlying2) (opensF_one rfl (by kernel_rfl) (opens_int Try.underlying2))))))))))) h0
  obtain ⟨e0, c0⟩ := own_shape o0
  obtain ⟨z0, rfl, _⟩ := okWide_struct Try.underlying23 (hval 0 23 v0 rfl rfl)
  obtain rfl : z0 = (a0 : Shape).v.cells := by simpa [Value.cells] using Array.toList_inj.1 e0
  obtain ⟨a1, fp1, o1⟩ := open_arg (α := Ticket) (opens_struct (fun x : Ticket => (x.Id, x.Kind, Str.mk x.Name, x.Group)) (fun (x0, x1, x2, x3) => ⟨x0, x1, x2.b, x3⟩) (fun _ => rfl) Try.underlying25 (by kernel_rfl) (opensF_cons rfl (by kernel_rfl) (opens_int Try.underlying2) (opensF_cons rfl (by kernel_rfl) (opens_int Try.underlying2) (opensF_cons rfl (by kernel_rfl) (opens_str Try.underlying9) (opensF_one rfl (by kernel_rfl) (opens_int Try.underlying2)))))) h1
  obtain ⟨e1, c1⟩ := own_ticket o1
  obtain ⟨z1, rfl, _⟩ := okWide_struct Try.underlying25 (hval 1 25 v1 rfl rfl)
  obtain rfl : z1 = (a1 : Ticket).v.cells := by simpa [Value.cells] using Array.toList_inj.1 e1
  clear hA0 hval0
  refine Calls.mono (Try_laws_FnExactTicketFault (s := a0) (t := a1) c1.2.2.2) fun e W' ⟨v, he, ext, hv⟩ => ?_
  subst hv
  subst he
  have bel := Ext.below ext
  exact ⟨_, rfl, _, _, _, [], _, [], hW', trodAll_mk1 (shut_bool Try.underlying4 _), (trodAll_cons_mk (Below.trod laidOut (by kernel_rfl) (of_decide_eq_true (by kernel_rfl)) k0 bel lt0) (trodAll_cons_mk (Below.trod laidOut (by kernel_rfl) (of_decide_eq_true (by kernel_rfl)) k1 bel lt1) trodAll_mk0)), rfl, bel.frame _, fun h => by cases h⟩

theorem over : Rows.fnExactTicketFaultRow.holds Try.pinned (OpenSpec.ofChange Rows.fnExactTicketFaultSpec) :=
  OpenClaim.holds_of_wide 3 Try.f3 rfl rfl rfl rfl rfl rfl rfl ⟨rfl, rfl, rfl, rfl, rfl⟩ rfl rfl rfl rfl rfl (by kernel_rfl) Try.func3 (by kernel_rfl)
    (of_decide_eq_true (by kernel_rfl)) (by unfold Func.isWrapper; first | (rw [if_pos (by decide +kernel)]; kernel_rfl) | (rw [if_neg (by decide +kernel)]; exact ⟨rfl, rfl⟩))
    (fun os started H enc _ => lifted os started H enc)
/-- The statement. -/
theorem proved : Rows.FnExactTicketFaultSaid := over
end Go.Proofs.Ytlcpnnnangneeaa.ofFnExactTicketFault
