/-
  Records, shapes: small laws. No program is named here.
-/
import Derived.Test.YtceeelcijjkefaaGreatWlI
set_option linter.unusedVariables false
set_option linter.unusedSimpArgs false
namespace Go.Wk
open Rp (sz own)
section
variable {s : Shape} {len : Int}
theorem parts_iff (hd : 1 ≤ s.Data ∧ s.Data ≤ 3) (h : 1 ≤ len) : 3 < (len - 1).tdiv (s.Data * 4) + 1 ↔ 3 * (s.Data * 4) < len := by
  rw [Int.tdiv_eq_ediv_of_nonneg (by omega)]
  have : s.Data = 1 ∨ s.Data = 2 ∨ s.Data = 3 := by omega
  rcases this with e | e | e <;> rw [e] <;> omega
theorem parts_two (hd : 1 ≤ s.Data ∧ s.Data ≤ 3) (h : 1 ≤ len) : (len + s.Data * 4 - 1).tdiv (s.Data * 4) = partsOf s len := by
  rw [partsOf, Int.tdiv_eq_ediv_of_nonneg (by omega), Int.tdiv_eq_ediv_of_nonneg (by omega)]
  have : s.Data = 1 ∨ s.Data = 2 ∨ s.Data = 3 := by omega
  rcases this with e | e | e <;> rw [e] <;> omega
theorem parts_bd (hd : 1 ≤ s.Data ∧ s.Data ≤ 3) (h : 1 ≤ len) : 0 ≤ (len - 1).tdiv (s.Data * 4) ∧ (len - 1).tdiv (s.Data * 4) < len := by
  rw [Int.tdiv_eq_ediv_of_nonneg (by omega)]
  have : s.Data = 1 ∨ s.Data = 2 ∨ s.Data = 3 := by omega
  rcases this with e | e | e <;> rw [e] <;> omega
def partsN (s : Shape) (len : Int) : Int := if longOf s len = 0 then partsOf s len else 0
theorem long_low (h : len < 1) : longOf s len = 6 ∧ partsN s len = 0 := by
  have : longOf s len = 6 := by rw [longOf, if_pos h]
  exact ⟨this, by rw [partsN, this]; rfl⟩
theorem long_high (h : ¬ len < 1) (h2 : 3 * (s.Data * 4) < len) : longOf s len = 2 ∧ partsN s len = 0 := by
  have : longOf s len = 2 := by rw [longOf, if_neg h, if_pos h2]
  exact ⟨this, by rw [partsN, this]; rfl⟩
theorem long_ok (h : ¬ len < 1) (h2 : ¬ 3 * (s.Data * 4) < len) : longOf s len = 0 ∧ partsN s len = partsOf s len := by
  have : longOf s len = 0 := by rw [longOf, if_neg h, if_neg h2]
  exact ⟨this, by rw [partsN, if_pos this]⟩
theorem long_zero (h : longOf s len = 0) : 1 ≤ len ∧ ¬ 3 * (s.Data * 4) < len := by
  unfold longOf at h
  split at h
  · cases h
  · split at h
    · cases h
    · exact ⟨by omega, by omega⟩
end
theorem all_step {n : Nat} {p : Nat → Bool} : (List.range (n + 1)).all p = ((List.range n).all p && p n) := by
  rw [List.range_succ, List.all_append]; simp
theorem cut_take {α : Type} {xs : List α} {i : Nat} : cut xs 0 i = xs.take i := by simp [cut]
/-! ### The first code -/
theorem recsF_stay {s : Shape} {rs : List Rec} {j : Nat} (h : recsF s rs j ≠ 0) : ∀ m, j ≤ m → recsF s rs m = recsF s rs j := by
  intro m hm
  induction m with
  | zero => rw [show j = 0 by omega]
  | succ m ih =>
    by_cases e : j = m + 1
    · rw [e]
    · have ih := ih (by omega)
      rw [recsF, if_pos (by rw [ih]; exact h), ih]
theorem recsF_next {s : Shape} {rs : List Rec} {j : Nat} (h : recsF s rs j = 0) : recsF s rs (j + 1) = recF s (rs.getD j default) := by rw [recsF, if_neg (by omega)]
theorem recsF_hit {s : Shape} {rs : List Rec} {j : Nat} (hj : j < rs.length) (h : recsF s rs j = 0) (hr : recF s (rs.getD j default) ≠ 0) : recsF s rs rs.length = recF s (rs.getD j default) := by
  have e := recsF_next h
  rw [recsF_stay (j := j + 1) (by rw [e]; exact hr) _ (by omega), e]
theorem tapeF_stay {s : Shape} {ts : List Tape} {j : Nat} (h : tapeF s ts j ≠ 0) : ∀ m, j ≤ m → tapeF s ts m = tapeF s ts j := by
  intro m hm
  induction m with
  | zero => rw [show j = 0 by omega]
  | succ m ih =>
    by_cases e : j = m + 1
    · rw [e]
    · have ih := ih (by omega)
      rw [tapeF, if_pos (by rw [ih]; exact h), ih]
theorem tapeF_next {s : Shape} {ts : List Tape} {j : Nat} (h : tapeF s ts j = 0) : tapeF s ts (j + 1) = recsF s (ts.getD j default).Recs (ts.getD j default).Recs.length := by rw [tapeF, if_neg (by omega)]
theorem tapeF_hit {s : Shape} {ts : List Tape} {j i : Nat} (hj : j < ts.length) (h : tapeF s ts j = 0) (hi : i < (ts.getD j default).Recs.length) (h2 : recsF s (ts.getD j default).Recs i = 0) (hr : recF s ((ts.getD j default).Recs.getD i default) ≠ 0) :
    tapeF s ts ts.length = recF s ((ts.getD j default).Recs.getD i default) := by
  have e := tapeF_next h
  rw [recsF_hit hi h2 hr] at e
  rw [tapeF_stay (j := j + 1) (by rw [e]; exact hr) _ (by omega), e]
theorem any_at {α : Type} [Inhabited α] {xs : List α} {p : α → Bool} (k : Nat) (hk : k < xs.length) (h : p (xs.getD k default) = true) : xs.any p = true := by
  rw [List.any_eq_true]
  exact ⟨xs[k], List.getElem_mem hk, by simpa [List.getD, hk] using h⟩
theorem any_none {α : Type} [Inhabited α] {xs : List α} {p : α → Bool} (h : ∀ i, i < xs.length → p (xs.getD i default) = false) : xs.any p = false := by
  rw [List.any_eq_false]
  intro x hx
  obtain ⟨i, hi, rfl⟩ := List.getElem_of_mem hx
  have := h i hi
  simpa [List.getD, hi] using this
theorem any_get {α : Type} [Inhabited α] {xs : List α} {p : α → Bool} (h : xs.any p = false) (k : Nat) (hk : k < xs.length) : p (xs.getD k default) = false := by
  rw [List.any_eq_false] at h
  have := h xs[k] (List.getElem_mem hk)
  simpa [List.getD, hk] using this
/-- The greatest stamp of a row, of the first k drives. -/
def stampTo (g : List Drive) (row : Nat) : Nat → Int
  | 0 => 0
  | k + 1 => if (g.getD k default).Wiped = true then stampTo g row k else if stampTo g row k ≤ ((g.getD k default).Blocks.getD row default).Stamp then ((g.getD k default).Blocks.getD row default).Stamp else stampTo g row k
end Go.Wk
namespace Go.Wk
/-! ### Where a row is asked -/
def upF (w : Wld) : Int := if worldF w ≠ 0 then worldF w else if w.Down = true then 9 else 0
def groupF (w : Wld) (g : Int) : Int := if ins g 0 (w.Shape.Groups + w.Shape.Column - 1) = true then if g ∈ w.On then 0 else 8 else 3
def rowF (w : Wld) (g row : Int) : Int := if ins g 0 (w.Shape.Groups + w.Shape.Column - 1) = true ∧ ins row 0 (w.Shape.Rows - 1) = false then 3 else groupF w g
def whereF (w : Wld) (g row : Int) : Int := if upF w ≠ 0 then upF w else rowF w g row
theorem worldF_ok {w : Wld} (h : worldF w = 0) : w.Shape.ok = true ∧ groupsOK w = true ∧ onOK w = true ∧ w.Tapes.length = 2 ∧ tapesF w = 0 := by
  unfold worldF at h
  split at h
  · rename_i h1; exact absurd h h1
  · rename_i h1
    have hs := shapeFault_ok (s := w.Shape) (by omega)
    split at h
    · rename_i h2
      simp only [Bool.and_eq_true, decide_eq_true_eq] at h2
      split at h
      · rename_i h3; exact absurd h h3
      · rename_i h3
        exact ⟨hs, h2.1.1, h2.1.2, h2.2, by omega⟩
    · cases h
theorem upF_ok {w : Wld} (h : upF w = 0) : worldF w = 0 ∧ w.Down = false := by
  unfold upF at h
  split at h
  · rename_i h1; exact absurd h h1
  · split at h
    · cases h
    · rename_i h1 h2
      exact ⟨by omega, by simpa using h2⟩
theorem groups_get {w : Wld} (h : groupsOK w = true) : (w.Groups.length : Int) = w.Shape.Groups + w.Shape.Column ∧ ∀ g, g < w.Groups.length → ((w.Groups.getD g []).length : Int) = w.Shape.Data + w.Shape.Spare ∧
    ∀ d, d < (w.Groups.getD g []).length → ((((w.Groups.getD g []).getD d default).Blocks.length : Int) = w.Shape.Rows) ∧
      ∀ i, i < ((w.Groups.getD g []).getD d default).Blocks.length → blockOK (((w.Groups.getD g []).getD d default).Blocks.getD i default) = true := by
  simp only [groupsOK, Bool.and_eq_true, decide_eq_true_eq] at h
  refine ⟨h.1, fun g hg => ?_⟩
  have h2 := all_get h.2 g hg
  simp only [groupOK, Bool.and_eq_true, decide_eq_true_eq] at h2
  refine ⟨h2.1, fun d hd => ?_⟩
  have h3 := all_get h2.2 d hd
  simp only [driveOK, Bool.and_eq_true, decide_eq_true_eq] at h3
  exact ⟨h3.1, fun i hi => all_get h3.2 i hi⟩
theorem blockOK_get {b : Block} (h : blockOK b = true) : 0 ≤ b.Stamp ∧ b.Stamp ≤ 1000000000 ∧ b.Bytes.length = 4 := by
  simp only [blockOK, Bool.and_eq_true, ins_iff, decide_eq_true_eq] at h
  exact ⟨h.1.1, h.1.2, h.2⟩
/-- What RowStamp answers. -/
def rowStamp (w : Wld) (g row : Int) : IntResult := if whereF w g row ≠ 0 then ⟨whereF w g row, 0⟩ else ⟨0, stampTo (w.Groups.getD g.toNat []) row.toNat (w.Groups.getD g.toNat []).length⟩
end Go.Wk
namespace Go.Wk
theorem eqB {a b : Bool} (h : a = b) : some (Value.bool a) = some (Value.bool b) := by rw [h]
def itemF (s : Shape) (r : Rec) : Int := if nameFault r.Name ≠ 0 then nameFault r.Name else if itemOK s r = true then 0 else 3
theorem itemF_name {s r} (h : nameFault r.Name ≠ 0) : itemF s r = nameFault r.Name := by rw [itemF, if_pos h]
theorem itemF_ok {s r} (h : ¬ nameFault r.Name ≠ 0) (h2 : itemOK s r = true) : itemF s r = 0 := by rw [itemF, if_neg h, if_pos h2]
theorem itemF_bad {s r} (h : ¬ nameFault r.Name ≠ 0) (h2 : itemOK s r = false) : itemF s r = 3 := by rw [itemF, if_neg h, if_neg (by simp [h2])]
theorem apartL_len0 {m : Int} : apartL [] m = true := rfl
end Go.Wk
