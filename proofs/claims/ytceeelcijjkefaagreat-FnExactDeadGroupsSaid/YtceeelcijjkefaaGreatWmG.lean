/-
  Wiped drives, dead groups. No program is named here.
-/
import Derived.Test.YtceeelcijjkefaaGreatWmF
set_option linter.unusedVariables false
set_option linter.unusedSimpArgs false
namespace Go.Wk
open Rp (sz own)
/-- The numbers of the wiped drives among the first k. -/
def wipedTo (g : List Drive) : Nat → List Int
  | 0 => []
  | k + 1 => if (g.getD k default).Wiped = true then wipedTo g k ++ [(k : Int)] else wipedTo g k
def wipedL (z : Wld) (g : Int) : List Int := wipedTo (z.Groups.getD g.toNat []) (z.Groups.getD g.toNat []).length
def deadF (z : Wld) (g : Int) : Bool := decide (z.Shape.Spare < ((wipedL z g).length : Int))
def deadTo (z : Wld) : Nat → List Int
  | 0 => []
  | k + 1 => if deadF z k = true then deadTo z k ++ [(k : Int)] else deadTo z k
section
variable {G : List Drive} {z : Wld} {k : Nat}
theorem wiped_yes (h : (G.getD k default).Wiped = true) : wipedTo G (k + 1) = wipedTo G k ++ [(k : Int)] := by rw [wipedTo, if_pos h]
theorem wiped_no (h : (G.getD k default).Wiped = false) : wipedTo G (k + 1) = wipedTo G k := by rw [wipedTo, if_neg (by rw [h]; simp)]
theorem wiped_len : ∀ {k : Nat}, (wipedTo G k).length ≤ k
  | 0 => Nat.le_refl _
  | k + 1 => by
    have := wiped_len (k := k)
    rw [wipedTo]; split
    · rw [List.length_append]; simp; omega
    · omega
theorem dead_yes (h : deadF z k = true) : deadTo z (k + 1) = deadTo z k ++ [(k : Int)] := by rw [deadTo, if_pos h]
theorem dead_no (h : deadF z k = false) : deadTo z (k + 1) = deadTo z k := by rw [deadTo, if_neg (by rw [h]; simp)]
theorem dead_len : ∀ {k : Nat}, (deadTo z k).length ≤ k
  | 0 => Nat.le_refl _
  | k + 1 => by
    have := dead_len (k := k)
    rw [deadTo]; split
    · rw [List.length_append]; simp; omega
    · omega
def deadGroups (z : Wld) : GroupsResult := if worldF z ≠ 0 then ⟨worldF z, []⟩ else ⟨0, deadTo z (z.Shape.Groups + z.Shape.Column).toNat⟩
/-- The code of what is asked of a group and a row, power or not. -/
def askF (z : Wld) (g row : Int) : Int := if worldF z ≠ 0 then worldF z else if placeF z.Shape g 0 row = true then 0 else 3
def wipedOf (z : Wld) (g : Int) : IntsResult := if askF z g 0 ≠ 0 then ⟨askF z g 0, []⟩ else ⟨0, wipedL z g⟩
theorem askF_cd {g row : Int} : 0 ≤ askF z g row ∧ askF z g row ≤ 5 := by
  have := worldF_cd (z := z)
  unfold askF; repeat' split
  all_goals omega
theorem askF_ok {g row : Int} (h : askF z g row = 0) : worldF z = 0 ∧ z.Shape.ok = true ∧ groupsOK z = true ∧ ins g 0 (z.Shape.Groups + z.Shape.Column - 1) = true ∧ ins row 0 (z.Shape.Rows - 1) = true := by
  unfold askF at h
  split at h
  · rename_i h1; exact absurd h h1
  · rename_i h1
    have hw := worldF_ok (w := z) (by omega)
    split at h
    · rename_i h2
      rw [place_zero hw.1, Bool.and_eq_true] at h2
      exact ⟨by omega, hw.1, hw.2.1, h2.1, h2.2⟩
    · cases h
theorem ask_world {g row : Int} (h : worldF z ≠ 0) : askF z g row = worldF z := by rw [askF, if_pos h]
theorem ask_place {g row : Int} (h : worldF z = 0) (h2 : placeF z.Shape g 0 row = false) : askF z g row = 3 := by rw [askF, if_neg (by omega), if_neg (by simp [h2])]
theorem ask_fine {g row : Int} (h : worldF z = 0) (h2 : placeF z.Shape g 0 row = true) : askF z g row = 0 := by rw [askF, if_neg (by omega), if_pos h2]
theorem place_grp {g : Int} (hs : z.Shape.ok = true) : placeF z.Shape g 0 0 = ins g 0 (z.Shape.Groups + z.Shape.Column - 1) := by
  have : ins 0 0 (z.Shape.Rows - 1) = true := ins_iff.2 (by have := shape_bd hs; omega)
  rw [place_zero hs, this, Bool.and_true]
theorem deadGroups_len : (deadGroups z).Groups.length ≤ 10 := by
  unfold deadGroups; split
  · simp
  · have := shape_bd (worldF_ok (w := z) (by omega)).1
    have := dead_len (z := z) (k := (z.Shape.Groups + z.Shape.Column).toNat)
    simp only; omega
theorem wipedL_len {g : Int} : (wipedL z g).length ≤ (z.Groups.getD g.toNat []).length := wiped_len
theorem wipedOf_len {g : Int} : (wipedOf z g).Lst.length ≤ 10 := by
  unfold wipedOf; split
  · simp
  · obtain ⟨_, hs, hG, hg, _⟩ := askF_ok (z := z) (g := g) (row := 0) (by omega)
    have := shape_bd hs
    have hgg := groups_get hG
    have hgi := ins_iff.1 hg
    obtain ⟨hdl, _⟩ := hgg.2 g.toNat (by omega)
    have := wipedL_len (z := z) (g := g)
    simp only; omega
end
end Go.Wk
namespace Go.Wk
section
variable {z : Wld} {g : Int}
theorem deadGroups_bad (h : worldF z ≠ 0) : deadGroups z = ⟨worldF z, []⟩ := by rw [deadGroups, if_pos h]
theorem deadGroups_ok (h : worldF z = 0) : deadGroups z = ⟨0, deadTo z (z.Shape.Groups + z.Shape.Column).toNat⟩ := by rw [deadGroups, if_neg (by omega)]
theorem wipedOf_bad (h : askF z g 0 ≠ 0) : wipedOf z g = ⟨askF z g 0, []⟩ := by rw [wipedOf, if_pos h]
theorem wipedOf_ok (h : askF z g 0 = 0) : wipedOf z g = ⟨0, wipedL z g⟩ := by rw [wipedOf, if_neg (by omega)]
theorem groups_nil {w0 w : World} {c : Int} (h : I64ok c) : Res w0 w [.int .i64 c, .slice none 0 0] (⟨c, []⟩ : GroupsResult) :=
  ⟨_, GroupsResult.own_mk (x := ⟨c, []⟩) h (.inr (.inl ⟨rfl, rfl, rfl⟩)), List.nodup_nil, by simp⟩
theorem ints_nil {w0 w : World} {c : Int} (h : I64ok c) : Res w0 w [.int .i64 c, .slice none 0 0] (⟨c, []⟩ : IntsResult) :=
  ⟨_, IntsResult.own_mk (x := ⟨c, []⟩) h (.inr (.inl ⟨rfl, rfl, rfl⟩)), List.nodup_nil, by simp⟩
end
end Go.Wk
namespace Go.Wk
section
variable {z : Wld} {g : Int}
theorem deadGroups_Ok : (deadGroups z).Ok := by
  have := worldF_cd (z := z)
  unfold deadGroups GroupsResult.Ok I64ok
  split <;> (simp only; omega)
theorem wipedOf_Ok : (wipedOf z g).Ok := by
  have := askF_cd (z := z) (g := g) (row := 0)
  unfold wipedOf IntsResult.Ok I64ok
  split <;> (simp only; omega)
end
end Go.Wk
