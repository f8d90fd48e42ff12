/-
  Rows that fit: searches, joins. No program is named here.
-/
import Derived.Test.YtceeelcijjkefaaGreatWkU
set_option linter.unusedVariables false
set_option linter.unusedSimpArgs false
namespace Go.Wk
open Rp (sz own)
theorem Py.to {P : Program} {n : Nat} {L : Env} {w : World} {o : Oper} {v v' : Value} (h : Py P n L w o v) (e : v = v') : Py P n L w o v' := e ▸ h
/-- Where the first one stands that p holds of; -1 where none does. -/
def firstOf {α : Type} (p : α → Bool) (xs : List α) : Int := match xs.findIdx? p with
  | some k => k
  | none => -1
theorem firstOf_at {α : Type} {p : α → Bool} {xs : List α} {d : α} {k : Nat} (hk : k < xs.length) (h : p (xs.getD k d) = true) (hn : ∀ i, i < k → p (xs.getD i d) = false) : firstOf p xs = k := by
  have : xs.findIdx? p = some k := by
    rw [List.findIdx?_eq_some_iff_getElem]
    refine ⟨hk, ?_, fun j hj => ?_⟩
    · simpa [List.getD, hk] using h
    · have := hn j hj
      have hj' : j < xs.length := by omega
      simpa [List.getD, hj'] using this
  simp [firstOf, this]
theorem firstOf_no {α : Type} {p : α → Bool} {xs : List α} {d : α} (hn : ∀ i, i < xs.length → p (xs.getD i d) = false) : firstOf p xs = -1 := by
  have : xs.findIdx? p = none := by
    rw [List.findIdx?_eq_none_iff]
    intro x hx
    obtain ⟨i, hi, rfl⟩ := List.getElem_of_mem hx
    have := hn i hi
    simpa [List.getD, hi] using this
  simp [firstOf, this]
theorem firstOf_any {α : Type} {p : α → Bool} {xs : List α} : decide (0 ≤ firstOf p xs) = xs.any p := by
  unfold firstOf
  cases h : xs.findIdx? p with
  | none =>
    rw [List.findIdx?_eq_none_iff] at h
    have : xs.any p = false := by simpa using h
    simp [this]
  | some k =>
    rw [List.findIdx?_eq_some_iff_getElem] at h
    obtain ⟨hk, hp, _⟩ := h
    have : xs.any p = true := List.any_eq_true.2 ⟨_, List.getElem_mem hk, hp⟩
    simp [this]
def not4 (b : List UInt8) : Bool := decide ((b.length : Int) ≠ 4)
/-- So many blocks, each whole. -/
def wholeL (m : Int) (xs : List (List UInt8)) : Bool := decide ((xs.length : Int) = m) && !xs.any not4
theorem wholeL_len {m : Int} {xs} (h : wholeL m xs = true) : (xs.length : Int) = m ∧ ∀ i, i < xs.length → (xs.getD i []).length = 4 := by
  simp only [wholeL, Bool.and_eq_true, decide_eq_true_eq, Bool.not_eq_true', List.any_eq_false] at h
  refine ⟨h.1, fun i hi => ?_⟩
  have := h.2 _ (List.getElem_mem hi)
  simp [not4] at this
  simp [List.getD, hi]
  omega
theorem wholeL_bad {m : Int} {xs : List (List UInt8)} {k : Nat} (hk : k < xs.length) (h : ¬ (xs.getD k []).length = 4) : wholeL m xs = false := by
  by_cases e : wholeL m xs = true
  · exact absurd ((wholeL_len e).2 k hk) h
  · simpa using e
theorem wholeL_all {m : Int} {xs : List (List UInt8)} (h : ∀ i, i < xs.length → (xs.getD i []).length = 4) : wholeL m xs = decide ((xs.length : Int) = m) := by
  have : xs.any not4 = false := by
    rw [List.any_eq_false]
    intro x hx
    obtain ⟨i, hi, rfl⟩ := List.getElem_of_mem hx
    have := h i hi
    simp [List.getD, hi] at this
    simp [not4, this]
  rw [wholeL, this]; simp
theorem wholeL_eq {m : Int} {xs : List (List UInt8)} : wholeL m xs = (decide ((xs.length : Int) = m) && !decide (0 ≤ firstOf not4 xs)) := by
  rw [wholeL, firstOf_any]
theorem flat_step {xs : List (List UInt8)} {k : Nat} (h : k < xs.length) : (xs.take k).flatten ++ xs.getD k [] = (xs.take (k + 1)).flatten := by
  rw [take_succ_getD (d := []) h, List.flatten_append]
  simp
theorem flat_len {xs : List (List UInt8)} : ∀ {k : Nat}, k ≤ xs.length → (xs.take k).flatten.length = sumN (lenB xs) k
  | 0, _ => by simp [sumN]
  | k + 1, h => by
    rw [← flat_step (by omega), List.length_append, flat_len (by omega)]
    rfl
theorem flat_all {xs : List (List UInt8)} : (xs.take xs.length).flatten = xs.flatten := by rw [List.take_length]
theorem flat_cnt {xs : List (List UInt8)} : xs.flatten.length = cntB xs := by
  rw [← flat_all, flat_len (Nat.le_refl _)]; rfl
theorem sumN_const {f : Nat → Nat} {m : Nat} : ∀ {k : Nat}, (∀ i, i < k → f i = m) → sumN f k = k * m
  | 0, _ => by simp [sumN]
  | k + 1, h => by
    show sumN f k + f k = _
    rw [sumN_const fun i hi => h i (by omega), h k (by omega), Nat.succ_mul]
theorem flat_len4 {xs : List (List UInt8)} {m : Nat} (h : ∀ i, i < xs.length → (xs.getD i []).length = m) : xs.flatten.length = xs.length * m := by
  rw [flat_cnt, cntB]
  exact sumN_const fun i hi => h i hi
theorem cut4 {xs : List (List UInt8)} {l k m : Nat} (hk : k ≤ xs.length) (h : ∀ i, i < xs.length → (xs.getD i []).length = m) : ∀ i, i < (cut xs l k).length → ((cut xs l k).getD i []).length = m := fun i hi => by
  rw [cut_len hk] at hi
  rw [cut_get (by omega)]
  exact h _ (by omega)
theorem cut_flat {xs : List (List UInt8)} {k m : Nat} (hk : k ≤ xs.length) (h : ∀ i, i < xs.length → (xs.getD i []).length = m) : (cut xs 0 k).flatten.length = k * m := by
  rw [flat_len4 (cut4 hk h), cut_len hk]; simp
theorem cnt_tot {xs : List (List UInt8)} {m : Nat} (h : totB xs ≤ m) : cntB xs ≤ m ∧ xs.length ≤ m := by
  have : totB xs = xs.length + cntB xs := rfl
  omega
theorem sum_ok {d s : Int} (h : (!rOK d s) = false) : I64ok (d + s) := by
  have := rOK_bd (not_false h)
  unfold I64ok; omega
theorem rok_bd {d s : Int} (h : (!rOK d s) = false) : 0 ≤ d ∧ d ≤ 1000 ∧ 0 ≤ s ∧ s ≤ 1000 := by
  have := rOK_bd (not_false h)
  omega
/-- What RowFits answers. -/
def rowFits (d s : Int) (xs : List (List UInt8)) : Bool := rOK d s && (wholeL (d + s) xs && decide (encG d.toNat (d.toNat + s.toNat) (cut xs 0 d.toNat).flatten = xs))
theorem rowFits_no {d s xs} (h : (!rOK d s || !wholeL (d + s) xs) = true) : rowFits d s xs = false := by
  unfold rowFits
  cases h1 : rOK d s <;> cases h2 : wholeL (d + s) xs <;> simp_all
theorem rowFits_yes {d s xs} (h : (!rOK d s || !wholeL (d + s) xs) = false) : rOK d s = true ∧ wholeL (d + s) xs = true ∧ rowFits d s xs = decide (encG d.toNat (d.toNat + s.toNat) (cut xs 0 d.toNat).flatten = xs) := by
  unfold rowFits
  cases h1 : rOK d s <;> cases h2 : wholeL (d + s) xs <;> simp_all
end Go.Wk
