/-
  What is asked of a world before it is read. No program is named here.
-/
import Derived.Test.YtceeelcijjkefaaGreatWmB
set_option linter.unusedVariables false
set_option linter.unusedSimpArgs false
namespace Go.Wk
open Rp (sz own)
section
variable {z : Wld} {s : Shape} {g row d : Int}
theorem groupF_no (h : ins g 0 (z.Shape.Groups + z.Shape.Column - 1) = false) : groupF z g = 3 := by rw [groupF, if_neg (by simp [h])]
theorem groupF_off (h : ins g 0 (z.Shape.Groups + z.Shape.Column - 1) = true) (h2 : ¬ g ∈ z.On) : groupF z g = 8 := by rw [groupF, if_pos h, if_neg h2]
theorem groupF_ok (h : ins g 0 (z.Shape.Groups + z.Shape.Column - 1) = true) (h2 : g ∈ z.On) : groupF z g = 0 := by rw [groupF, if_pos h, if_pos h2]
def placeF (s : Shape) (g d row : Int) : Bool := ins g 0 (s.Groups + s.Column - 1) && (ins d 0 (s.Data + s.Spare - 1) && ins row 0 (s.Rows - 1))
theorem place_zero (h : s.ok = true) : placeF s g 0 row = (ins g 0 (s.Groups + s.Column - 1) && ins row 0 (s.Rows - 1)) := by
  have := shape_bd h
  have : ins 0 0 (s.Data + s.Spare - 1) = true := ins_iff.2 (by omega)
  rw [placeF, this, Bool.true_and]
theorem rowF_place (h : z.Shape.ok = true) (h2 : placeF z.Shape g 0 row = false) : rowF z g row = 3 := by
  rw [place_zero h] at h2
  unfold rowF
  by_cases hg : ins g 0 (z.Shape.Groups + z.Shape.Column - 1) = true
  · rw [if_pos ⟨hg, by rw [hg, Bool.true_and] at h2; exact h2⟩]
  · rw [if_neg (fun e => hg e.1), groupF_no (by simpa using hg)]
theorem rowF_in (h : z.Shape.ok = true) (h2 : placeF z.Shape g 0 row = true) : rowF z g row = groupF z g ∧ ins g 0 (z.Shape.Groups + z.Shape.Column - 1) = true := by
  rw [place_zero h, Bool.and_eq_true] at h2
  exact ⟨by rw [rowF, if_neg (by simp [h2.2])], h2.1⟩
theorem rowF_off (h : z.Shape.ok = true) (h2 : placeF z.Shape g 0 row = true) (h3 : decide (g ∈ z.On) = false) : rowF z g row = 8 := by
  rw [(rowF_in h h2).1, groupF_off (rowF_in h h2).2 (of_decide_eq_false h3)]
theorem rowF_on (h : z.Shape.ok = true) (h2 : placeF z.Shape g 0 row = true) (h3 : decide (g ∈ z.On) = true) : rowF z g row = 0 := by
  rw [(rowF_in h h2).1, groupF_ok (rowF_in h h2).2 (of_decide_eq_true h3)]
theorem whereF_ok2 (h : upF z = 0) (h2 : rowF z g row = 0) : whereF z g row = 0 := by rw [whereF, if_neg (by omega)]; exact h2
theorem groupF_zero (h : groupF z g = 0) : ins g 0 (z.Shape.Groups + z.Shape.Column - 1) = true ∧ g ∈ z.On := by
  unfold groupF at h
  split at h
  · rename_i h1
    split at h
    · rename_i h2; exact ⟨h1, h2⟩
    · cases h
  · cases h
theorem whereF_ok (h : whereF z g row = 0) : z.Shape.ok = true ∧ groupsOK z = true ∧ ins g 0 (z.Shape.Groups + z.Shape.Column - 1) = true ∧ ins row 0 (z.Shape.Rows - 1) = true ∧ g ∈ z.On := by
  unfold whereF at h
  split at h
  · rename_i h1; exact absurd h h1
  · rename_i h1
    have hw := worldF_ok (upF_ok (w := z) (by omega)).1
    unfold rowF at h
    split at h
    · cases h
    · rename_i h2
      obtain ⟨h3, h4⟩ := groupF_zero h
      exact ⟨hw.1, hw.2.1, h3, by cases hr : ins row 0 (z.Shape.Rows - 1) <;> simp_all, h4⟩
theorem whereF_up (h : whereF z g row = 0) : upF z = 0 := by
  unfold whereF at h
  split at h
  · rename_i h1; exact absurd h h1
  · omega
theorem not_true2 {b : Bool} (h : (!b) = true) : ¬ b = true := by cases b <;> simp_all
theorem not_false2 {b : Bool} (h : (!b) = false) : b = true := by cases b <;> simp_all
theorem stampTo_live {g : List Drive} {row k : Nat} (h : ¬ (g.getD k default).Wiped = true) : stampTo g row (k + 1) = if stampTo g row k ≤ ((g.getD k default).Blocks.getD row default).Stamp then ((g.getD k default).Blocks.getD row default).Stamp else stampTo g row k := by rw [stampTo, if_neg h]
theorem stampTo_wiped {g : List Drive} {row k : Nat} (h : (g.getD k default).Wiped = true) : stampTo g row (k + 1) = stampTo g row k := by rw [stampTo, if_pos h]
theorem rowStamp_where (h : whereF z g row ≠ 0) : rowStamp z g row = ⟨whereF z g row, 0⟩ := by rw [rowStamp, if_pos h]
theorem rowStamp_up (h : upF z ≠ 0) : rowStamp z g row = ⟨upF z, 0⟩ := by
  have e : whereF z g row = upF z := by rw [whereF, if_pos h]
  rw [rowStamp_where (by rw [e]; exact h), e]
theorem rowStamp_row (h : upF z = 0) (h2 : rowF z g row ≠ 0) : rowStamp z g row = ⟨rowF z g row, 0⟩ := by
  have e : whereF z g row = rowF z g row := by rw [whereF, if_neg (by omega)]
  rw [rowStamp_where (by rw [e]; exact h2), e]
theorem rowStamp_ok (h : whereF z g row = 0) : rowStamp z g row = ⟨0, stampTo (z.Groups.getD g.toNat []) row.toNat (z.Groups.getD g.toNat []).length⟩ := by rw [rowStamp, if_neg (by omega)]
end
end Go.Wk
namespace Go.Wk
section
variable {z : Wld} {s : Shape} {r : Rec} {g row d : Int}
theorem shape_cd : 0 ≤ s.fault ∧ s.fault ≤ 3 := by unfold Shape.fault; split <;> omega
theorem name_cd {b : ByteArray} : 0 ≤ nameFault b ∧ nameFault b ≤ 5 := by unfold nameFault; split <;> omega
theorem kindF_cd : 0 ≤ kindF s r ∧ kindF s r ≤ 5 := by
  have := name_cd (b := r.Name)
  unfold kindF
  repeat' split
  all_goals omega
theorem recF_cd : 0 ≤ recF s r ∧ recF s r ≤ 5 := by
  have := kindF_cd (s := s) (r := r)
  unfold recF
  repeat' split
  all_goals omega
theorem recsF_cd {rs : List Rec} : ∀ k, 0 ≤ recsF s rs k ∧ recsF s rs k ≤ 5
  | 0 => by simp [recsF]
  | k + 1 => by
    have h1 := recsF_cd (rs := rs) k
    have h2 := recF_cd (s := s) (r := rs.getD k default)
    rw [recsF]
    split <;> omega
theorem tapeF_cd {ts : List Tape} : ∀ k, 0 ≤ tapeF s ts k ∧ tapeF s ts k ≤ 5
  | 0 => by simp [tapeF]
  | k + 1 => by
    have h1 := tapeF_cd (ts := ts) k
    have h2 := recsF_cd (s := s) (rs := (ts.getD k default).Recs) (ts.getD k default).Recs.length
    rw [tapeF]
    split <;> omega
theorem tapesF_cd : 0 ≤ tapesF z ∧ tapesF z ≤ 5 := by
  have := tapeF_cd (s := z.Shape) (ts := z.Tapes) z.Tapes.length
  unfold tapesF
  repeat' split
  all_goals omega
theorem worldF_cd : 0 ≤ worldF z ∧ worldF z ≤ 5 := by
  have h1 := shape_cd (s := z.Shape)
  have h2 := tapesF_cd (z := z)
  unfold worldF
  repeat' split
  all_goals omega
theorem upF_cd : 0 ≤ upF z ∧ upF z ≤ 9 := by
  have h1 := worldF_cd (z := z)
  unfold upF
  repeat' split
  all_goals omega
theorem groupF_cd : 0 ≤ groupF z g ∧ groupF z g ≤ 8 := by unfold groupF; repeat' split <;> omega
theorem rowF_cd : 0 ≤ rowF z g row ∧ rowF z g row ≤ 8 := by
  have h1 := groupF_cd (z := z) (g := g)
  unfold rowF; split <;> omega
theorem whereF_cd : 0 ≤ whereF z g row ∧ whereF z g row ≤ 9 := by
  have h1 := upF_cd (z := z)
  have h2 := rowF_cd (z := z) (g := g) (row := row)
  unfold whereF; split <;> omega
theorem stampTo_cd {G : List Drive} {row : Nat} (h : ∀ d, d < G.length → 0 ≤ ((G.getD d default).Blocks.getD row default).Stamp ∧ ((G.getD d default).Blocks.getD row default).Stamp ≤ 1000000000) : ∀ k, k ≤ G.length → 0 ≤ stampTo G row k ∧ stampTo G row k ≤ 1000000000
  | 0, _ => by simp [stampTo]
  | k + 1, hk => by
    have h1 := stampTo_cd h k (by omega)
    have h2 := h k (by omega)
    rw [stampTo]
    repeat' split
    all_goals omega
theorem stamp_bd (hs : z.Shape.ok = true) (hG : groupsOK z = true) (hg : ins g 0 (z.Shape.Groups + z.Shape.Column - 1) = true) (hr : ins row 0 (z.Shape.Rows - 1) = true) :
    0 ≤ stampTo (z.Groups.getD g.toNat []) row.toNat (z.Groups.getD g.toNat []).length ∧ stampTo (z.Groups.getD g.toNat []) row.toNat (z.Groups.getD g.toNat []).length ≤ 1000000000 := by
  have hgg := groups_get hG
  have hgi := ins_iff.1 hg
  have hri := ins_iff.1 hr
  obtain ⟨hl, hd⟩ := hgg.2 g.toNat (by omega)
  refine stampTo_cd (fun d hdl => ?_) _ (Nat.le_refl _)
  obtain ⟨h1, h2⟩ := hd d hdl
  have := blockOK_get (h2 row.toNat (by omega))
  exact ⟨this.1, this.2.1⟩
theorem rowStamp_Ok : (rowStamp z g row).Ok := by
  have h1 := whereF_cd (z := z) (g := g) (row := row)
  unfold rowStamp IntResult.Ok I64ok
  split
  · simp only; omega
  · obtain ⟨hs, hG, hg, hr, _⟩ := whereF_ok (z := z) (g := g) (row := row) (by omega)
    have := stamp_bd hs hG hg hr
    simp only; omega
end
end Go.Wk
