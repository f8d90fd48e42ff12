/-
  What is wrong with a world. No program is named here.
-/
import Derived.Test.YtceeelcijjkefaaGreatWlH
set_option linter.unusedVariables false
set_option linter.unusedSimpArgs false
namespace Go.Wk
open Rp (sz own)
def apartAt (xs : List Int) (m : Int) (i : Nat) : Bool := ins (xs.getD i 0) 0 m && !decide (xs.getD i 0 ∈ xs.take i)
/-- Numbers from 0 to m, no two alike. -/
def apartL (xs : List Int) (m : Int) : Bool := (List.range xs.length).all (apartAt xs m)
theorem all_yes {n : Nat} {p : Nat → Bool} (h : ∀ i, i < n → p i = true) : (List.range n).all p = true := by
  rw [List.all_eq_true]; exact fun i hi => h i (by simpa using hi)
theorem all_get {n : Nat} {p : Nat → Bool} (h : (List.range n).all p = true) (i : Nat) (hi : i < n) : p i = true := by
  rw [List.all_eq_true] at h; exact h i (by simpa using hi)
theorem all_no {n : Nat} {p : Nat → Bool} (i : Nat) (hi : i < n) (h : p i = false) : (List.range n).all p = false := by
  cases hr : (List.range n).all p with
  | false => rfl
  | true => rw [all_get hr i hi] at h; cases h
def wide (s : Shape) : Int := s.Data * 4
/-- How many rows so many bytes need. -/
def partsOf (s : Shape) (len : Int) : Int := (len - 1).tdiv (s.Data * 4) + 1
def longOf (s : Shape) (len : Int) : Int := if len < 1 then 6 else if 3 * (s.Data * 4) < len then 2 else 0
def itemOK (s : Shape) (r : Rec) : Bool :=
  if r.Length = -1 then decide (r.Data.length = 0) && decide (r.Rows.length = 0)
  else decide (longOf s r.Length = 0) && if 0 < r.Data.length then decide ((r.Data.length : Int) = r.Length) && decide (r.Rows.length = 0) else decide ((r.Rows.length : Int) = partsOf s r.Length) && apartL r.Rows (s.Rows - 1)
def weightsOK (s : Shape) (r : Rec) : Bool :=
  decide ((r.Delta.length : Int) = s.Groups + s.Column) && decide (((r.Delta.getD r.Group.toNat 0).toNat : Int) = 0) && (List.range r.Rows.length).all fun i => decide (¬ ((r.Delta.getD (r.Rows.getD i 0).toNat 0).toNat : Int) = 0)
def shareOK (s : Shape) (r : Rec) : Bool :=
  ins r.Group 0 (s.Groups + s.Column - 1) && ins r.Row 0 (s.Rows - 1) && rises r.Rows (s.Groups + s.Column - 1) && decide ((r.Data.length : Int) = s.Data * 4) && weightsOK s r
def moveOK (s : Shape) (r : Rec) : Bool := ins r.Group 0 (s.Groups - 1) && ins r.Row 0 (s.Rows - 1) && decide ((r.Data.length : Int) = s.Data * 4) && decide ((r.Delta.length : Int) = s.Data * 4)
def noName (r : Rec) : Bool := decide (r.Name = ⟨#[]⟩)
/-- Nothing but what the kind has. -/
def bareOK (r : Rec) : Bool :=
  if r.Kind = 1 then decide (r.Group = 0) && decide (r.Row = 0) && decide (r.Delta.length = 0)
  else if r.Kind = 2 then noName r && decide (r.Length = 0) && decide (r.Rows.length = 0)
  else if r.Kind = 3 then noName r && decide (r.Length = 0) && decide (r.Row = 0) && decide (r.Rows.length = 0) && decide (r.Data.length = 0) && decide (r.Delta.length = 0)
  else noName r && decide (r.Length = 0)
def kindF (s : Shape) (r : Rec) : Int :=
  if r.Kind = 1 then if nameFault r.Name ≠ 0 then nameFault r.Name else if itemOK s r then 0 else 3
  else if r.Kind = 2 then if moveOK s r then 0 else 3
  else if r.Kind = 3 then if ins r.Group 0 (s.Groups + s.Column - 1) then 0 else 3
  else if shareOK s r then 0 else 3
def recF (s : Shape) (r : Rec) : Int :=
  if ins r.Kind 1 4 then if ins r.Seq 1 1000000000 then if kindF s r ≠ 0 then kindF s r else if bareOK r then 0 else 1 else 3 else 5
def blockOK (b : Block) : Bool := ins b.Stamp 0 1000000000 && decide (b.Bytes.length = 4)
def driveOK (s : Shape) (d : Drive) : Bool := decide ((d.Blocks.length : Int) = s.Rows) && (List.range d.Blocks.length).all fun i => blockOK (d.Blocks.getD i default)
def groupOK (s : Shape) (g : List Drive) : Bool := decide ((g.length : Int) = s.Data + s.Spare) && (List.range g.length).all fun i => driveOK s (g.getD i default)
def groupsOK (w : Wld) : Bool := decide ((w.Groups.length : Int) = w.Shape.Groups + w.Shape.Column) && (List.range w.Groups.length).all fun i => groupOK w.Shape (w.Groups.getD i [])
def onOK (w : Wld) : Bool := apartL w.On (w.Shape.Groups + w.Shape.Column - 1) && decide ((w.On.length : Int) ≤ w.Shape.Cap) && (decide (w.On.length = 0) || !w.Down)
/-- The first code of records. -/
def recsF (s : Shape) (rs : List Rec) : Nat → Int
  | 0 => 0
  | k + 1 => if recsF s rs k ≠ 0 then recsF s rs k else recF s (rs.getD k default)
def tapeF (s : Shape) (ts : List Tape) : Nat → Int
  | 0 => 0
  | k + 1 => if tapeF s ts k ≠ 0 then tapeF s ts k else recsF s (ts.getD k default).Recs (ts.getD k default).Recs.length
def manyRecs (t : Tape) : Bool := decide ((200 : Int) < t.Recs.length)
def wipedFull (t : Tape) : Bool := t.Wiped && decide ((0 : Int) < t.Recs.length)
def tapesF (w : Wld) : Int :=
  if w.Tapes.any manyRecs then 2 else if tapeF w.Shape w.Tapes w.Tapes.length ≠ 0 then tapeF w.Shape w.Tapes w.Tapes.length else if w.Tapes.any wipedFull then 1 else 0
def worldF (w : Wld) : Int :=
  if w.Shape.fault ≠ 0 then w.Shape.fault
  else if groupsOK w && onOK w && decide (w.Tapes.length = 2) then if tapesF w ≠ 0 then tapesF w else if ins w.Writes 0 1000000000 && ins w.Stop (-1) 1000000000 then 0 else 3
  else 1
end Go.Wk
