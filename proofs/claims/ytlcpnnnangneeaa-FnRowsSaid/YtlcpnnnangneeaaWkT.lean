/-
  Desks as they begin. No program is named here.
-/
import Derived.Test.YtlcpnnnangneeaaWkS
namespace Go.Wk
open Rp (sz own)
/-- Nothing is queued, aside or answered. -/
def Desk.bare (d : Desk) : Prop := (∀ i, (d.Queues.getD i []).length = 0) ∧ d.Aside.length = 0 ∧ d.Answers.length = 0
def newDesk (s : Shape) : DeskResult :=
  if s.fault = 0 then ⟨0, ⟨List.replicate (s.Groups + s.Column).toNat [], [], [], 0, 1⟩⟩ else ⟨s.fault, ⟨[], [], [], 0, 0⟩⟩
theorem newDesk_ok {s : Shape} {n : Nat} (h : s.fault = 0) (hn : s.Groups + s.Column = n) : newDesk s = ⟨0, ⟨List.replicate n [], [], [], 0, 1⟩⟩ := by
  rw [newDesk, if_pos h, hn]; rfl
theorem newDesk_no {s : Shape} (h : s.fault ≠ 0) : newDesk s = ⟨s.fault, ⟨[], [], [], 0, 0⟩⟩ := by rw [newDesk, if_neg h]
theorem newDesk_bare (s : Shape) : (newDesk s).Desk.bare := by
  unfold newDesk
  split
  · refine ⟨fun i => ?_, rfl, rfl⟩
    simp only [List.getD_eq_getElem?_getD, List.getElem?_replicate]
    split <;> rfl
  · exact ⟨fun i => by simp, rfl, rfl⟩
theorem Sep.nilD {α : Type} [Rp α] {M w0 Δ F} {w : World} (h : Sep M w0 Δ F w) : Sep M w0 (Δ ++ [Wk.mine [.slice none 0 0] ([] : List α) []]) F w :=
  h.add Ext.refl (r := Wk.mine [.slice none 0 0] ([] : List α) []) (.inr (.inl ⟨rfl, rfl, rfl⟩)) .nil (by simp [Wk.mine])
theorem fault_ok (s : Shape) : I64ok s.fault := by
  unfold Shape.fault I64ok; split <;> omega
theorem desk_out {w0 w : World} {F : List Rsc} {a : Option Addr} {n c : Nat} {qs : List (List Ticket)} {f : List Nat} {k t m : Int} (h : Sep No w0 [mine [.slice a n c] qs f] F w) (hk : I64ok k ∧ I64ok t ∧ I64ok m) (hn : n = qs.length) :
    Res w0 w [.int .i64 k, .slice a qs.length c, .slice none 0 0, .slice none 0 0, .int .i64 t, .int .i64 m] (⟨k, ⟨qs, [], [], t, m⟩⟩ : DeskResult) := by
  subst hn
  exact DeskResult.out (x := ⟨k, ⟨qs, [], [], t, m⟩⟩) ((h.nilD (α := Ticket)).nilD (α := Answer)) ⟨hk.1, hk.2.1, hk.2.2⟩
end Go.Wk
