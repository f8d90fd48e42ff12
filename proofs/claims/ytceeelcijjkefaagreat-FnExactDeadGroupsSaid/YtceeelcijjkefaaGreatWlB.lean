/-
  What RowWeights answers. No program is named here.
-/
import Derived.Test.YtceeelcijjkefaaGreatWlA
set_option linter.unusedVariables false
set_option linter.unusedSimpArgs false
namespace Go.Wk
open Rp (sz own)
def rowWeights (d s : Int) (hs : List Int) (x : Int) : BytesResult :=
  if rOK d s = true then if (hs.length : Int) = d ∧ rises hs (d + s - 1) = true then if ins x 0 (d + s - 1) = true then ⟨0, betw d.toNat hs x 0⟩ else ⟨3, []⟩ else ⟨1, []⟩ else ⟨3, []⟩
theorem rowWeights_range {d s hs x} (h : rOK d s = false) : rowWeights d s hs x = ⟨3, []⟩ := by rw [rowWeights, if_neg (by simp [h])]
theorem rowWeights_form {d s x} {hs : List Int} (h : rOK d s = true) (h2 : (decide ((hs.length : Int) ≠ d) || !rises hs (d + s - 1)) = true) : rowWeights d s hs x = ⟨1, []⟩ := by
  rw [rowWeights, if_pos h, if_neg]
  rintro ⟨h3, h4⟩
  simp [h3, h4] at h2
theorem rowWeights_mid {d s : Int} {hs : List Int} (h2 : (decide ((hs.length : Int) ≠ d) || !rises hs (d + s - 1)) = false) : (hs.length : Int) = d ∧ rises hs (d + s - 1) = true := by
  simpa using h2
theorem rowWeights_bad {d s x} {hs : List Int} (h : rOK d s = true) (h2 : (hs.length : Int) = d ∧ rises hs (d + s - 1) = true) (h3 : ins x 0 (d + s - 1) = false) : rowWeights d s hs x = ⟨3, []⟩ := by
  rw [rowWeights, if_pos h, if_pos h2, if_neg (by simp [h3])]
theorem rowWeights_full {d s x} {hs : List Int} (h : rOK d s = true) (h2 : (hs.length : Int) = d ∧ rises hs (d + s - 1) = true) (h3 : ins x 0 (d + s - 1) = true) : rowWeights d s hs x = ⟨0, betw d.toNat hs x 0⟩ := by
  rw [rowWeights, if_pos h, if_pos h2, if_pos h3]
theorem ins_bd {x a b : Int} (h : ins x a b = true) : a ≤ x ∧ x ≤ b := by simpa [ins] using h
theorem bytes_nil {w w' : World} {c : Int} (h : I64ok c) : Res w w' [.int .i64 c, .slice none 0 0] (⟨c, []⟩ : BytesResult) :=
  ⟨[], BytesResult.own_mk (x := ⟨c, []⟩) (A1 := none) (C1 := 0) h (.inr (.inl ⟨rfl, rfl, rfl⟩)), .nil, by simp⟩
theorem rowWeights_len {d s x} {hs : List Int} : (rowWeights d s hs x).Bytes.length ≤ 100 := by
  unfold rowWeights
  split
  · rename_i h
    have hb := rOK_bd h
    split
    · split
      · have := betw_len (n := d.toNat) (h := hs) (x := x) (b := 0)
        show (betw d.toNat hs x 0).length ≤ 100
        omega
      · exact Nat.zero_le _
    · exact Nat.zero_le _
  · exact Nat.zero_le _
end Go.Wk
