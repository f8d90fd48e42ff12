/-
  Names, tickets: what they come to, in plain words. No program is named here.
-/
import Derived.Test.YtceeelcijjkefaaGreatWkH
import Derived.WideShapes
import Derived.Laws.Closers25b
set_option linter.unusedVariables false
set_option linter.unusedSimpArgs false
namespace Go.Wk
open Rp (sz own)
def okCh (i : Nat) (c : UInt8) : Bool := (decide (97 ≤ (c.toNat : Int)) && decide ((c.toNat : Int) ≤ 122)) || (!(decide (i = 0)) && (decide (48 ≤ (c.toNat : Int)) && decide ((c.toNat : Int) ≤ 57)))
def okTo (b : ByteArray) : Nat → Bool
  | 0 => true
  | k + 1 => okTo b k && okCh k (gB b k)
theorem okTo_get {b : ByteArray} : ∀ {n : Nat}, okTo b n = true → ∀ k, k < n → okCh k (gB b k) = true
  | 0, _, k, hk => by omega
  | n + 1, h, k, hk => by
    unfold okTo at h
    simp only [Bool.and_eq_true] at h
    by_cases e : k = n
    · subst e; exact h.2
    · exact okTo_get h.1 k (by omega)
def nameOK (b : ByteArray) : Bool := decide (1 ≤ b.size) && decide (b.size ≤ 8) && okTo b b.size
def nameFault (b : ByteArray) : Int := if nameOK b then 0 else 5
theorem name_no {b : ByteArray} (h : nameOK b = false) : Value.int .i64 5 = .int .i64 (nameFault b) := by simp [nameFault, h]
theorem name_yes {b : ByteArray} (h : nameOK b = true) : Value.int .i64 0 = .int .i64 (nameFault b) := by simp [nameFault, h]
theorem nameOK_bad {b : ByteArray} (k : Nat) (hk : k < b.size) (h : okCh k (gB b k) = false) : nameOK b = false := by
  cases hn : nameOK b with
  | false => rfl
  | true =>
    unfold nameOK at hn
    simp only [Bool.and_eq_true] at hn
    rw [okTo_get hn.2 k hk] at h
    cases h
def sumTo (b : ByteArray) : Nat → Int
  | 0 => 0
  | k + 1 => sumTo b k + ((gB b k).toNat : Int)
theorem sumTo_bd {b : ByteArray} : ∀ k, 0 ≤ sumTo b k ∧ sumTo b k ≤ 255 * k
  | 0 => by simp [sumTo]
  | k + 1 => by
    have := sumTo_bd (b := b) k
    have := (gB b k).toNat_lt
    unfold sumTo
    omega
def homeOf (s : Shape) (b : ByteArray) : Int := (sumTo b b.size).tmod s.Groups
theorem nameFault_ok {b : ByteArray} (h : nameFault b = 0) : 1 ≤ b.size ∧ b.size ≤ 8 := by
  unfold nameFault at h
  split at h
  · rename_i hn
    unfold nameOK at hn
    simp only [Bool.and_eq_true, decide_eq_true_eq] at hn
    omega
  · omega
theorem shapeFault_ok {s : Shape} (h : s.fault = 0) : s.ok = true := by
  unfold Shape.fault at h
  split at h
  · assumption
  · omega
structure Ticket where
  Id : Int
  Kind : Int
  Name : ByteArray
  Group : Int
def Ticket.v (t : Ticket) : Value := .agg #[.int .i64 t.Id, .int .i64 t.Kind, .string t.Name, .int .i64 t.Group]
def ticketFault (s : Shape) (t : Ticket) : Int :=
  if ins t.Id 1 1000000000 = false then 3
  else if t.Kind = 1 then (if nameFault t.Name ≠ 0 then nameFault t.Name else if t.Group ≠ homeOf s t.Name then 1 else 0)
  else if t.Kind = 2 then (if ins t.Group 0 (s.Groups + s.Column - 1) = false then 3 else if t.Name.size ≠ 0 then 1 else 0)
  else 5
def TicketFault (s : Shape) (t : Ticket) : Int := if s.fault ≠ 0 then s.fault else ticketFault s t
theorem shape_bd {s : Shape} (h : s.ok = true) : 1 ≤ s.Groups ∧ s.Groups ≤ 4 ∧ 0 ≤ s.Column ∧ s.Column ≤ 2 ∧ 1 ≤ s.Data ∧ s.Data ≤ 3 ∧ 0 ≤ s.Spare ∧ s.Spare ≤ 2 ∧ 1 ≤ s.Rows ∧ s.Rows ≤ 6 ∧ 1 ≤ s.Cap ∧ s.Cap ≤ 6 ∧ 1 ≤ s.Batch ∧ s.Batch ≤ 4 ∧ 1 ≤ s.Queue ∧ s.Queue ≤ 6 ∧ 0 ≤ s.Stage ∧ s.Stage ≤ 400 := by
  unfold Shape.ok cOK rOK at h
  simp only [Bool.and_eq_true, ins_iff] at h
  omega
theorem str_inj {a b : ByteArray} : a.toList = b.toList ↔ a = b := by
  rw [ByteArray.toList_eq, ByteArray.toList_eq]
  exact ⟨fun h => WideShapes.bytes_inj h, fun h => by rw [h]⟩
theorem str_beq {a b : ByteArray} : (a.toList == b.toList) = decide (a = b) := by
  rw [Bool.eq_iff_iff]
  simp [str_inj]
theorem str_empty {b : ByteArray} : b = ByteArray.mk #[] ↔ b.size = 0 := by
  obtain ⟨⟨l⟩⟩ := b
  cases l with
  | nil => simp [ByteArray.size]
  | cons x l => simp [ByteArray.size]
end Go.Wk
