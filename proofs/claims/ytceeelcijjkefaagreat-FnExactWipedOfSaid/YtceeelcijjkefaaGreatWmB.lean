/-
  Records bare of what their kind names. No program is named here.
-/
import Derived.Test.YtceeelcijjkefaaGreatWmA
set_option linter.unusedVariables false
set_option linter.unusedSimpArgs false
namespace Go.Wk
open Rp (sz own)
section
variable {s : Shape} {r : Rec}
theorem rest_ok1 (h : r.Ok) : (⟨r.Kind, r.Seq, ⟨#[]⟩, 0, r.Group, r.Row, [], [], r.Delta⟩ : Rec).Ok := by
  unfold Rec.Ok I64ok at h ⊢
  have : (⟨#[]⟩ : ByteArray).size ≤ maxLen := Nat.zero_le _
  simp only; omega
theorem rest_ok2 (h : r.Ok) : (⟨r.Kind, r.Seq, r.Name, r.Length, 0, 0, r.Rows, [], []⟩ : Rec).Ok := by
  unfold Rec.Ok I64ok at h ⊢
  simp only; omega
theorem rest_ok3 (h : r.Ok) : (⟨r.Kind, r.Seq, r.Name, r.Length, 0, r.Row, r.Rows, r.Data, r.Delta⟩ : Rec).Ok := by
  unfold Rec.Ok I64ok at h ⊢
  simp only; omega
theorem rest_ok4 (h : r.Ok) : (⟨r.Kind, r.Seq, r.Name, r.Length, 0, 0, [], [], []⟩ : Rec).Ok := by
  unfold Rec.Ok I64ok at h ⊢
  simp only; omega
theorem rest_bare1 (h : r.Kind = 1) : emptyR ⟨r.Kind, r.Seq, ⟨#[]⟩, 0, r.Group, r.Row, [], [], r.Delta⟩ = bareOK r := by rw [bareOK, if_pos h]; simp [emptyR, noName]
theorem rest_bare2 (h : r.Kind = 2) : emptyR ⟨r.Kind, r.Seq, r.Name, r.Length, 0, 0, r.Rows, [], []⟩ = bareOK r := by rw [bareOK, if_neg (by omega), if_pos h]; simp [emptyR, noName]
theorem rest_bare3 (h : r.Kind = 3) : emptyR ⟨r.Kind, r.Seq, r.Name, r.Length, 0, r.Row, r.Rows, r.Data, r.Delta⟩ = bareOK r := by rw [bareOK, if_neg (by omega), if_neg (by omega), if_pos h]; simp [emptyR, noName, Bool.and_assoc]
theorem rest_bare4 (h : r.Kind = 4) : emptyR ⟨r.Kind, r.Seq, r.Name, r.Length, 0, 0, [], [], []⟩ = bareOK r := by rw [bareOK, if_neg (by omega), if_neg (by omega), if_neg (by omega)]; simp [emptyR, noName]
end
end Go.Wk
namespace Go.Wk
section
variable {z : Wld} {s : Shape} {g : List Drive} {d : Drive}
theorem all_of_any {α : Type} [Inhabited α] {xs : List α} {p : α → Bool} (h : (xs.any fun b => !p b) = false) : ((List.range xs.length).all fun i => p (xs.getD i default)) = true :=
  all_yes fun i hi => by simpa using any_noD (d := default) h i hi
theorem not_all_of_any {α : Type} [Inhabited α] {xs : List α} {p : α → Bool} (h : (xs.any fun b => !p b) = true) : ((List.range xs.length).all fun i => p (xs.getD i default)) = false := by
  obtain ⟨i, hi, h⟩ := any_getD (d := default) h
  exact all_no i hi (by simpa using h)
theorem driveOK_len (h : ¬ (d.Blocks.length : Int) = s.Rows) : driveOK s d = false := by rw [driveOK, decide_eq_false h]; rfl
theorem driveOK_bad (h : (d.Blocks.any fun b => !blockOK b) = true) : driveOK s d = false := by rw [driveOK, not_all_of_any h, Bool.and_false]
theorem driveOK_yes (h : (d.Blocks.length : Int) = s.Rows) (h2 : (d.Blocks.any fun b => !blockOK b) = false) : driveOK s d = true := by rw [driveOK, decide_eq_true h, all_of_any h2]; rfl
theorem driveOK_all (h : (d.Blocks.length : Int) = s.Rows) (h2 : ∀ i, i < d.Blocks.length → blockOK (d.Blocks.getD i default) = true) : driveOK s d = true := by rw [driveOK, decide_eq_true h, all_yes h2]; rfl
theorem driveOK_at (i : Nat) (hi : i < d.Blocks.length) (h2 : blockOK (d.Blocks.getD i default) = false) : driveOK s d = false := by rw [driveOK, all_no i hi h2, Bool.and_false]
theorem groupOK_len (h : ¬ (g.length : Int) = s.Data + s.Spare) : groupOK s g = false := by rw [groupOK, decide_eq_false h]; rfl
theorem groupOK_at (k : Nat) (hk : k < g.length) (h : driveOK s (g.getD k default) = false) : groupOK s g = false := by rw [groupOK, all_no k hk h, Bool.and_false]
theorem groupOK_yes (h : (g.length : Int) = s.Data + s.Spare) (h2 : ∀ i, i < g.length → driveOK s (g.getD i default) = true) : groupOK s g = true := by rw [groupOK, decide_eq_true h, all_yes h2]; rfl
theorem groupsOK_len (h : ¬ (z.Groups.length : Int) = z.Shape.Groups + z.Shape.Column) : groupsOK z = false := by rw [groupsOK, decide_eq_false h]; rfl
theorem groupsOK_at (k : Nat) (hk : k < z.Groups.length) (h : groupOK z.Shape (z.Groups.getD k []) = false) : groupsOK z = false := by rw [groupsOK, all_no k hk h, Bool.and_false]
theorem groupsOK_yes (h : (z.Groups.length : Int) = z.Shape.Groups + z.Shape.Column) (h2 : ∀ i, i < z.Groups.length → groupOK z.Shape (z.Groups.getD i []) = true) : groupsOK z = true := by rw [groupsOK, decide_eq_true h, all_yes h2]; rfl
end
end Go.Wk
namespace Go.Wk
section
variable {z : Wld}
theorem onOK_apart (h : (List.range z.On.length).all (apartAt z.On (z.Shape.Groups + z.Shape.Column - 1)) = false) : onOK z = false := by rw [onOK, apartL, h]; rfl
theorem onOK_rest (h : (List.range z.On.length).all (apartAt z.On (z.Shape.Groups + z.Shape.Column - 1)) = true) {b : Bool} (hb : b = (decide ((z.On.length : Int) ≤ z.Shape.Cap) && (decide (z.On.length = 0) || !z.Down))) : onOK z = b := by rw [onOK, apartL, h, hb]; simp [Bool.and_assoc]
theorem tapesF_many (h : z.Tapes.any manyRecs = true) : tapesF z = 2 := by rw [tapesF, if_pos h]
theorem tapesF_rec (h : z.Tapes.any manyRecs = false) {k k2 : Nat} (hk : k < z.Tapes.length) (hkz : tapeF z.Shape z.Tapes k = 0) (hk2 : k2 < (z.Tapes.getD k default).Recs.length) (h2 : recsF z.Shape (z.Tapes.getD k default).Recs k2 = 0)
    (hr : recF z.Shape ((z.Tapes.getD k default).Recs.getD k2 default) ≠ 0) : tapesF z = recF z.Shape ((z.Tapes.getD k default).Recs.getD k2 default) := by
  have e := tapeF_hit hk hkz hk2 h2 hr
  rw [tapesF, if_neg (by simp [h]), if_pos (by rw [e]; exact hr), e]
theorem tapesF_full (h : z.Tapes.any manyRecs = false) (h2 : tapeF z.Shape z.Tapes z.Tapes.length = 0) (h3 : z.Tapes.any wipedFull = true) : tapesF z = 1 := by rw [tapesF, if_neg (by simp [h]), if_neg (by omega), if_pos h3]
theorem tapesF_ok (h : z.Tapes.any manyRecs = false) (h2 : tapeF z.Shape z.Tapes z.Tapes.length = 0) (h3 : z.Tapes.any wipedFull = false) : tapesF z = 0 := by rw [tapesF, if_neg (by simp [h]), if_neg (by omega), if_neg (by simp [h3])]
end
end Go.Wk
namespace Go.Wk
section
variable {z : Wld} {b : Block}
theorem blockOK_no (h : (!ins b.Stamp 0 1000000000 || decide ((b.Bytes.length : Int) ≠ 4)) = true) : blockOK b = false := by
  rw [blockOK]
  simp only [Bool.or_eq_true, decide_eq_true_eq] at h
  rcases h with h | h
  · rw [not_true h]; rfl
  · rw [decide_eq_false (by omega), Bool.and_false]
theorem blockOK_yes (h : (!ins b.Stamp 0 1000000000 || decide ((b.Bytes.length : Int) ≠ 4)) = false) : blockOK b = true := by
  rw [Bool.or_eq_false_iff] at h
  have h2 := of_decide_eq_false h.2
  rw [blockOK, not_false h.1, decide_eq_true (by omega)]; rfl
theorem any_two {α : Type} [Inhabited α] {xs : List α} {p : α → Bool} (h : xs.length = 2) (h2 : p (xs.getD 0 default) = true ∨ p (xs.getD 1 default) = true) : xs.any p = true := by
  rcases h2 with h2 | h2
  · exact any_at 0 (by omega) h2
  · exact any_at 1 (by omega) h2
theorem any_neither {α : Type} [Inhabited α] {xs : List α} {p : α → Bool} (h : xs.length = 2) (h0 : p (xs.getD 0 default) = false) (h1 : p (xs.getD 1 default) = false) : xs.any p = false :=
  any_none fun i hi => by
    have : i = 0 ∨ i = 1 := by omega
    rcases this with rfl | rfl
    · exact h0
    · exact h1
theorem fine_eq : (groupsOK z && (apartL z.On (z.Shape.Groups + z.Shape.Column - 1) && (decide ((z.On.length : Int) ≤ z.Shape.Cap) && ((decide (z.On.length = 0) || !z.Down) && decide (z.Tapes.length = 2))))) = (groupsOK z && onOK z && decide (z.Tapes.length = 2)) := by
  rw [onOK]; simp only [Bool.and_assoc]
end
end Go.Wk
namespace Go.Wk
theorem at_cell {w : World} {b o : Nat} {cs : List Value} (h : At w b o cs) (j : Nat) {v : Value} (hj : cs[j]? = some v) : w.cell? ⟨b, o + j, none⟩ = some v := h j v hj
end Go.Wk
