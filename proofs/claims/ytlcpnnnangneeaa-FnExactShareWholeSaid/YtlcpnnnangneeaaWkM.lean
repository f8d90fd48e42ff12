/-
  Shares, in plain words. No program is named here.
-/
import Derived.Test.YtlcpnnnangneeaaWkL
namespace Go.Wk
def shareAt (r : Rec) (i : Nat) : Bool := decide (r.Delta.getD i 0 = 0) || decide ((i : Int) ∈ r.Rows)
def shareWhole (r : Rec) : Bool := decide (r.Kind = 4) && (List.range r.Delta.length).all (shareAt r)
theorem share_kind {r : Rec} (h : r.Kind ≠ 4) : shareWhole r = false := by simp [shareWhole, h]
theorem share_bad {r : Rec} {k : Nat} (hk : k < r.Delta.length) (h : shareAt r k = false) : shareWhole r = false := by
  unfold shareWhole
  rw [Bool.and_eq_false_iff]
  refine .inr ?_
  rw [List.all_eq_false]
  exact ⟨k, List.mem_range.2 hk, by rw [h]; simp⟩
theorem share_at {r : Rec} {k : Nat} : shareAt r k = !(decide (((r.Delta.getD k 0).toNat : Int) ≠ 0) && !decide ((k : Int) ∈ r.Rows)) := by
  unfold shareAt
  have h : (((r.Delta.getD k 0).toNat : Int) = 0) ↔ (r.Delta.getD k 0 = 0) := u8_inj (b := 0)
  have h2 : decide (((r.Delta.getD k 0).toNat : Int) ≠ 0) = !decide (r.Delta.getD k 0 = 0) := by
    by_cases h1 : r.Delta.getD k 0 = 0
    · rw [decide_eq_true h1, decide_eq_false (by rw [h.2 h1]; simp)]; rfl
    · rw [decide_eq_false h1, decide_eq_true (p := ((r.Delta.getD k 0).toNat : Int) ≠ 0) (fun e => h1 (h.1 e))]; rfl
  rw [h2]
  cases decide (r.Delta.getD k 0 = 0) <;> simp
theorem share_all {r : Rec} (h : ∀ i, i < r.Delta.length → shareAt r i = true) : shareWhole r = decide (r.Kind = 4) := by
  unfold shareWhole
  rw [List.all_eq_true.2 fun i hi => h i (List.mem_range.1 hi), Bool.and_true]
end Go.Wk
