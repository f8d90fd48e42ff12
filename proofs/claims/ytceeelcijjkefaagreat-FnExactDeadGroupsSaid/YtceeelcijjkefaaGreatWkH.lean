/-
  Small lemmas for the walks, and the shapes of the data. No program is named here.
-/
import Derived.Test.YtceeelcijjkefaaGreatWkG
set_option linter.unusedVariables false
set_option linter.unusedSimpArgs false
namespace Go.Wk
open Rp (sz own)
theorem all_cons {α : Type} {p : α → Prop} {a : α} {l : List α} (h : p a) (k : ∀ x ∈ l, p x) : ∀ x ∈ a :: l, p x := fun x hx => by
  rcases List.mem_cons.1 hx with rfl | hx
  · exact h
  · exact k x hx
theorem own_z8 : ∀ w, own true w (Value.int .u8 0).cells.toList (0 : UInt8) [] := fun _ => ⟨rfl, rfl⟩
theorem own_zi : ∀ w, own true w (Value.int .i64 0).cells.toList (0 : Int) [] := fun _ => ⟨rfl, rfl, by unfold I64ok; omega⟩
theorem own_zb : ∀ w, own true w (Value.bool false).cells.toList false [] := fun _ => ⟨rfl, rfl⟩
theorem own_zs {α : Type} [Rp α] : ∀ w, own true w (Value.slice none 0 0).cells.toList ([] : List α) [] := fun _ => .inr (.inl ⟨rfl, rfl, rfl⟩)
theorem own_b8 {w : World} {x : UInt8} : own true w [.int .u8 x.toNat] x [] := ⟨rfl, rfl⟩
theorem own_bi {w : World} {x : Int} (h : I64ok x) : own true w [.int .i64 x] x [] := ⟨rfl, rfl, h⟩
def ins (v lo hi : Int) : Bool := decide (lo ≤ v) && decide (v ≤ hi)
theorem ins_iff {v lo hi : Int} : ins v lo hi = true ↔ lo ≤ v ∧ v ≤ hi := by simp [ins]
theorem ins_no {v lo hi : Int} : ins v lo hi = false ↔ ¬ (lo ≤ v ∧ v ≤ hi) := by rw [← ins_iff]; simp
structure Shape where
  Groups : Int
  Column : Int
  Data : Int
  Spare : Int
  Rows : Int
  Cap : Int
  Batch : Int
  Queue : Int
  Stage : Int
def Shape.v (s : Shape) : Value := .agg #[.int .i64 s.Groups, .int .i64 s.Column, .int .i64 s.Data, .int .i64 s.Spare, .int .i64 s.Rows, .int .i64 s.Cap, .int .i64 s.Batch, .int .i64 s.Queue, .int .i64 s.Stage]
def cOK (g c : Int) : Bool := ins g 1 4 && ins c 0 2
def rOK (d s : Int) : Bool := ins d 1 3 && ins s 0 2
def Shape.ok (s : Shape) : Bool := cOK s.Groups s.Column && rOK s.Data s.Spare && ins s.Rows 1 6 && ins s.Cap 1 6 && ins s.Batch 1 4 && ins s.Queue 1 6 && ins s.Stage 0 400
def Shape.fault (s : Shape) : Int := if s.ok then 0 else 3
theorem Shape.no {s : Shape} (h : (!s.ok) = true) : Value.int .i64 3 = .int .i64 s.fault := by
  unfold Shape.fault; cases hs : s.ok <;> simp_all
theorem Shape.yes {s : Shape} (h : (!s.ok) = false) : Value.int .i64 0 = .int .i64 s.fault := by
  unfold Shape.fault; cases hs : s.ok <;> simp_all
theorem not_true {b : Bool} (h : (!b) = true) : b = false := by cases b <;> simp_all
theorem not_false {b : Bool} (h : (!b) = false) : b = true := by cases b <;> simp_all
end Go.Wk
