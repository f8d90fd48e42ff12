/-
  Which blocks are there, and what a row's bytes are from them. No program is named here.
-/
import Derived.Test.YtceeelcijjkefaaGreatWlB
set_option linter.unusedVariables false
set_option linter.unusedSimpArgs false
namespace Go.Wk
open Rp (sz own)
/-! ### Views that grow, views made a list -/
section
variable {M : Nat → Prop} {w0 w w' : World} {Δ F : List Rsc} {β : Type} [Rp β]
theorem Sep.rowApp (h : Sep M w0 Δ F w) (j e : Nat) {vs : List View} {xss : List (List β)} {g} (hj : F[j]? = some (rows vs xss g)) {s a c} {y : List β} {fy} (he : F[e]? = some (Wk.seen s [.slice a y.length c] y fy)) (hl : vs.length = xss.length) :
    ∃ g', Sep M w0 Δ (F.set j (rows (vs ++ [⟨a, y.length, c⟩]) (xss ++ [y]) g')) w ∧ ∀ b ∈ g', b ∈ g ∨ b ∈ fy :=
  ⟨g ++ fy, h.fset j (rows_snoc (h.fs _ (List.mem_of_getElem? hj)) hl (h.seen e he)) fun b hb => (List.mem_append.1 hb).elim (h.ap _ (List.mem_of_getElem? hj) b) (h.ap _ (List.mem_of_getElem? he) b), fun b hb => List.mem_append.1 hb⟩
theorem Sep.noRows (h : Sep M w0 Δ F w) : Sep M w0 Δ (F ++ [rows ([] : List View) ([] : List (List β)) []]) w := h.look (r := rows [] [] []) rfl (by simp [rows])
theorem Sep.viewsIn (h : Sep M w0 Δ F w) (i j : Nat) {v : Value} {vs : List View} {xss : List (List β)} {f g} (hi : Δ[i]? = some (Wk.mine [v] vs f)) (hj : F[j]? = some (rows vs xss g)) (hl : vs.length = xss.length) :
    ∃ fp, Sep M w0 (Δ.set i gone) (F ++ [Wk.seen false [v] xss fp]) w ∧ ∀ b ∈ fp, b ∈ f ∨ b ∈ g := by
  obtain ⟨fp, ho, hs⟩ := own_views (h.mine i hi) (h.rowsAt j hj) hl
  have hm := List.mem_of_getElem? hi
  have h' := h.share i hi
  have h2 : Sep M w0 (Δ.set i gone) F w := h'.fto fun q hq => ⟨h'.fs q (List.mem_append_left _ hq), h'.ap q (List.mem_append_left _ hq)⟩
  refine ⟨fp, h2.look (r := Wk.seen false [v] xss fp) ho fun b hb hx => ?_, hs⟩
  rcases hs b hb with hb | hb
  · exact h'.ap (Wk.seen true [v] vs f) (List.mem_append_right _ (by simp)) b hb hx
  · exact h2.ap _ (List.mem_of_getElem? hj) b hb hx
end
/-! ### Which blocks are there -/
def haveTo (xs : List (List UInt8)) (n : Nat) : Nat → List Int
  | 0 => []
  | k + 1 => if 0 < (xs.getD k []).length ∧ (haveTo xs n k).length < n then haveTo xs n k ++ [(k : Int)] else haveTo xs n k
def thereTo (xs : List (List UInt8)) (n : Nat) : Nat → List (List UInt8)
  | 0 => []
  | k + 1 => if 0 < (xs.getD k []).length ∧ (haveTo xs n k).length < n then thereTo xs n k ++ [xs.getD k []] else thereTo xs n k
theorem have_yes {xs n k} (h : 0 < (xs.getD k []).length ∧ (haveTo xs n k).length < n) : haveTo xs n (k + 1) = haveTo xs n k ++ [(k : Int)] ∧ thereTo xs n (k + 1) = thereTo xs n k ++ [xs.getD k []] := by
  rw [haveTo, thereTo, if_pos h, if_pos h]; exact ⟨rfl, rfl⟩
theorem have_no {xs n k} (h : ¬ (0 < (xs.getD k []).length ∧ (haveTo xs n k).length < n)) : haveTo xs n (k + 1) = haveTo xs n k ∧ thereTo xs n (k + 1) = thereTo xs n k := by
  rw [haveTo, thereTo, if_neg h, if_neg h]; exact ⟨rfl, rfl⟩
theorem there_len {xs n} : ∀ {k}, (thereTo xs n k).length = (haveTo xs n k).length
  | 0 => rfl
  | k + 1 => by
    by_cases h : 0 < (xs.getD k []).length ∧ (haveTo xs n k).length < n
    · rw [(have_yes h).1, (have_yes h).2, List.length_append, List.length_append, there_len]; rfl
    · rw [(have_no h).1, (have_no h).2, there_len]
theorem have_le {xs n} : ∀ {k}, (haveTo xs n k).length ≤ n ∧ (haveTo xs n k).length ≤ k
  | 0 => ⟨Nat.zero_le _, Nat.le_refl _⟩
  | k + 1 => by
    have := have_le (xs := xs) (n := n) (k := k)
    by_cases h : 0 < (xs.getD k []).length ∧ (haveTo xs n k).length < n
    · rw [(have_yes h).1, List.length_append]; simp; omega
    · rw [(have_no h).1]; omega
theorem have_full {xs n k} (h : (haveTo xs n k).length = n) : ∀ m, k ≤ m → haveTo xs n m = haveTo xs n k ∧ thereTo xs n m = thereTo xs n k := by
  intro m hm
  induction m with
  | zero => have e : k = 0 := by omega
            rw [e]; exact ⟨rfl, rfl⟩
  | succ m ih =>
    by_cases e : k = m + 1
    · rw [e]; exact ⟨rfl, rfl⟩
    · have ih := ih (by omega)
      have hn := have_no (xs := xs) (n := n) (k := m) (by rw [ih.1]; omega)
      rw [hn.1, hn.2]; exact ih
theorem have_at {xs n} : ∀ {k} (i : Nat), i < (haveTo xs n k).length → 0 ≤ (haveTo xs n k).getD i 0 ∧ (haveTo xs n k).getD i 0 < k ∧ (0 < i → (haveTo xs n k).getD (i - 1) 0 < (haveTo xs n k).getD i 0) ∧
    0 < (xs.getD ((haveTo xs n k).getD i 0).toNat []).length ∧ (thereTo xs n k).getD i [] = xs.getD ((haveTo xs n k).getD i 0).toNat []
  | 0, i, hi => by simp [haveTo] at hi
  | k + 1, i, hi => by
    by_cases h : 0 < (xs.getD k []).length ∧ (haveTo xs n k).length < n
    · rw [(have_yes h).1, List.length_append] at hi
      rw [(have_yes h).1, (have_yes h).2]
      have tl := there_len (xs := xs) (n := n) (k := k)
      have g1 : ∀ {α : Type} {l : List α} {x d : α} {j : Nat}, j < l.length → (l ++ [x]).getD j d = l.getD j d := fun hj => by simp [List.getD, List.getElem?_append_left hj]
      have g2 : ∀ {α : Type} {l : List α} {x d : α}, (l ++ [x]).getD l.length d = x := by intros; simp [List.getD]
      by_cases hl : i < (haveTo xs n k).length
      · have ih := have_at (xs := xs) (n := n) (k := k) i hl
        rw [g1 hl, g1 (by omega), g1 (by omega)]
        exact ⟨ih.1, by omega, ih.2.2.1, ih.2.2.2⟩
      · obtain rfl : i = (haveTo xs n k).length := by simp at hi; omega
        rw [g2, ← tl, g2]
        refine ⟨by omega, by omega, fun hp => ?_, by simpa using h.1, by simp⟩
        rw [tl] at hp ⊢
        rw [g1 (by omega)]
        have ih := have_at (xs := xs) (n := n) (k := k) ((haveTo xs n k).length - 1) (by omega)
        exact ih.2.1
    · rw [(have_no h).1] at hi ⊢
      rw [(have_no h).2]
      have ih := have_at (xs := xs) (n := n) (k := k) i hi
      exact ⟨ih.1, by omega, ih.2.2⟩
theorem have_rises {xs n k} : rises (haveTo xs n k) ((k : Int) - 1) = true := rises_yes fun i hi => by
  have := have_at i hi
  simp only [riseAt, Bool.and_eq_true, Bool.or_eq_true, decide_eq_true_eq]
  omega
/-! ### What they tell -/
def haveL (xs : List (List UInt8)) (n : Nat) : List Int := haveTo xs n xs.length
def thereL (xs : List (List UInt8)) (n : Nat) : List (List UInt8) := thereTo xs n xs.length
def decOk (n : Nat) (xs : List (List UInt8)) : Bool := decide (n ≤ (haveTo xs n xs.length).length)
def decAt (n : Nat) (xs : List (List UInt8)) (p : Int) : List UInt8 := mixTo (thereTo xs n xs.length) (betw n (haveTo xs n xs.length) p 0) 4 (thereTo xs n xs.length).length
def decTo (n : Nat) (xs : List (List UInt8)) (k : Nat) : List UInt8 := ((List.range k).map fun i : Nat => decAt n xs (i : Int)).flatten
def decL (n : Nat) (xs : List (List UInt8)) : List UInt8 := if decOk n xs = true then decTo n xs n else []
def blkL (n : Nat) (xs : List (List UInt8)) (p : Int) : List UInt8 := if decOk n xs = true then decAt n xs p else []
theorem decTo_step {n xs k} : decTo n xs k ++ mixTo (thereTo xs n xs.length) (betw n (haveTo xs n xs.length) (k : Nat) 0) 4 (thereTo xs n xs.length).length = decTo n xs (k + 1) := by
  simp [decTo, List.range_succ, decAt]
theorem dec_no {n xs} (h : (haveTo xs n xs.length).length < n) : decOk n xs = false ∧ decL n xs = [] ∧ ∀ p, blkL n xs p = [] := by
  have : decOk n xs = false := by rw [decOk, decide_eq_false (by omega)]
  exact ⟨this, by rw [decL, this]; rfl, fun p => by rw [blkL, this]; rfl⟩
theorem dec_yes {n xs} (h : ¬ (haveTo xs n xs.length).length < n) : decOk n xs = true ∧ decL n xs = decTo n xs n ∧ ∀ p, blkL n xs p = decAt n xs p := by
  have : decOk n xs = true := by rw [decOk, decide_eq_true (by omega)]
  exact ⟨this, by rw [decL, if_pos this], fun p => by rw [blkL, if_pos this]⟩
/-- Each block is whole or not there. -/
def Part (xs : List (List UInt8)) : Prop := ∀ i, i < xs.length → (xs.getD i []).length = 4 ∨ (xs.getD i []).length = 0
theorem there4 {xs : List (List UInt8)} {n : Nat} (h : Part xs) : ∀ i, i < (thereTo xs n xs.length).length → ((thereTo xs n xs.length).getD i []).length = 4 := fun i hi => by
  have ha := have_at (xs := xs) (n := n) (k := xs.length) i (by rw [← there_len]; exact hi)
  rw [ha.2.2.2.2]
  have h1 := h ((haveTo xs n xs.length).getD i 0).toNat (by omega)
  omega
theorem decAt_len {xs : List (List UInt8)} {n p} (h : Part xs) : (decAt n xs p).length = 4 := mixTo_len (there4 h) (Nat.le_refl _)
theorem decTo_len {xs : List (List UInt8)} {n} (h : Part xs) : ∀ k, (decTo n xs k).length = k * 4
  | 0 => rfl
  | k + 1 => by
    rw [← decTo_step, List.length_append, decTo_len h k]
    have := decAt_len (n := n) (p := (k : Int)) h
    rw [decAt] at this
    omega
def bad40 (b : List UInt8) : Bool := decide ((b.length : Int) ≠ 4) && decide ((b.length : Int) ≠ 0)
/-- So many blocks, each whole or not there. -/
def partL (m : Int) (xs : List (List UInt8)) : Bool := decide ((xs.length : Int) = m) && !xs.any bad40
theorem partL_eq {m : Int} {xs : List (List UInt8)} : partL m xs = (decide ((xs.length : Int) = m) && !decide (0 ≤ firstOf bad40 xs)) := by
  rw [partL, firstOf_any]
theorem partL_len {m : Int} {xs} (h : partL m xs = true) : (xs.length : Int) = m ∧ Part xs := by
  simp only [partL, Bool.and_eq_true, decide_eq_true_eq, Bool.not_eq_true', List.any_eq_false] at h
  refine ⟨h.1, fun i hi => ?_⟩
  have := h.2 _ (List.getElem_mem hi)
  simp only [bad40, Bool.and_eq_true, decide_eq_true_eq] at this
  rw [show xs.getD i [] = xs[i] from by simp [List.getD, hi]]
  omega
theorem any_bad {xs : List (List UInt8)} {k : Nat} (hk : k < xs.length) (h : bad40 (xs.getD k []) = true) : xs.any bad40 = true := by
  rw [List.any_eq_true]
  exact ⟨xs[k], List.getElem_mem hk, by simpa [List.getD, hk] using h⟩
theorem any_good {xs : List (List UInt8)} (h : ∀ i, i < xs.length → bad40 (xs.getD i []) = false) : xs.any bad40 = false := by
  rw [List.any_eq_false]
  intro x hx
  obtain ⟨i, hi, rfl⟩ := List.getElem_of_mem hx
  have := h i hi
  simpa [List.getD, hi] using this
/-- The code of blocks of which some are there. -/
def asked (d s : Int) (xs : List (List UInt8)) : Int := if rOK d s = true then if partL (d + s) xs = true then 0 else 1 else 3
theorem asked_range {d s xs} (h : rOK d s = false) : asked d s xs = 3 := by rw [asked, if_neg (by simp [h])]
theorem asked_form {d s xs} (h : rOK d s = true) (h2 : partL (d + s) xs = false) : asked d s xs = 1 := by rw [asked, if_pos h, if_neg (by simp [h2])]
theorem asked_ok {d s xs} (h : rOK d s = true) (h2 : partL (d + s) xs = true) : asked d s xs = 0 := by rw [asked, if_pos h, if_pos h2]
theorem asked_zero {d s xs} (h : asked d s xs = 0) : rOK d s = true ∧ partL (d + s) xs = true := by
  unfold asked at h
  split at h
  · rename_i h1
    split at h
    · rename_i h2; exact ⟨h1, h2⟩
    · cases h
  · cases h
/-- What DecodeRow answers. -/
def decodeRow (d s : Int) (xs : List (List UInt8)) : BytesResult :=
  if rOK d s = true then if partL (d + s) xs = true then if decOk d.toNat xs = true then ⟨0, decTo d.toNat xs d.toNat⟩ else ⟨10, []⟩ else ⟨1, []⟩ else ⟨3, []⟩
theorem decodeRow_asked {d s xs} (h : asked d s xs ≠ 0) : decodeRow d s xs = ⟨asked d s xs, []⟩ := by
  unfold decodeRow asked at *
  split
  · rename_i h1
    rw [if_pos h1] at h
    split
    · rename_i h2
      rw [if_pos h2] at h
      exact absurd rfl h
    · rfl
  · rfl
theorem decodeRow_lost {d s xs} (h : asked d s xs = 0) (h2 : decOk d.toNat xs = false) : decodeRow d s xs = ⟨10, []⟩ := by
  obtain ⟨h3, h4⟩ := asked_zero h
  rw [decodeRow, if_pos h3, if_pos h4, if_neg (by simp [h2])]
theorem decodeRow_full {d s xs} (h : asked d s xs = 0) (h2 : decOk d.toNat xs = true) : decodeRow d s xs = ⟨0, decL d.toNat xs⟩ := by
  obtain ⟨h3, h4⟩ := asked_zero h
  rw [decodeRow, if_pos h3, if_pos h4, if_pos h2, decL, if_pos h2]
/-- What BlockOf answers. -/
def blockOf (d s : Int) (xs : List (List UInt8)) (p : Int) : BytesResult :=
  if asked d s xs = 0 then if ins p 0 (d + s - 1) = true then if decOk d.toNat xs = true then ⟨0, blkL d.toNat xs p⟩ else ⟨10, []⟩ else ⟨3, []⟩ else ⟨asked d s xs, []⟩
theorem blockOf_asked {d s xs p} (h : asked d s xs ≠ 0) : blockOf d s xs p = ⟨asked d s xs, []⟩ := by rw [blockOf, if_neg h]
theorem blockOf_bad {d s xs p} (h : asked d s xs = 0) (h3 : ins p 0 (d + s - 1) = false) : blockOf d s xs p = ⟨3, []⟩ := by rw [blockOf, if_pos h, if_neg (by simp [h3])]
theorem blockOf_lost {d s xs p} (h : asked d s xs = 0) (h3 : ins p 0 (d + s - 1) = true) (h2 : decOk d.toNat xs = false) : blockOf d s xs p = ⟨10, []⟩ := by rw [blockOf, if_pos h, if_pos h3, if_neg (by simp [h2])]
theorem blockOf_full {d s xs p} (h : asked d s xs = 0) (h3 : ins p 0 (d + s - 1) = true) (h2 : decOk d.toNat xs = true) : blockOf d s xs p = ⟨0, blkL d.toNat xs p⟩ := by rw [blockOf, if_pos h, if_pos h3, if_pos h2]
theorem decodeRow_len {d s xs} : (decodeRow d s xs).Bytes.length ≤ 100 := by
  unfold decodeRow
  split
  · rename_i h
    have hb := rOK_bd h
    split
    · rename_i h2
      split
      · show (decTo d.toNat xs d.toNat).length ≤ 100
        rw [decTo_len (partL_len h2).2]; omega
      · exact Nat.zero_le _
    · exact Nat.zero_le _
  · exact Nat.zero_le _
theorem blockOf_len {d s xs p} : (blockOf d s xs p).Bytes.length ≤ 100 := by
  unfold blockOf
  split
  · rename_i h
    split
    · split
      · rename_i h2
        show (blkL d.toNat xs p).length ≤ 100
        rw [blkL, if_pos h2, decAt_len (partL_len (asked_zero h).2).2]; omega
      · exact Nat.zero_le _
    · exact Nat.zero_le _
  · exact Nat.zero_le _
/-! ### All the ways -/
def candH : Nat → List (List Int)
  | 1 => [[0], [1], [2]]
  | 2 => [[0, 1], [0, 2], [0, 3], [1, 2], [1, 3], [2, 3]]
  | 3 => [[0, 1, 2], [0, 1, 3], [0, 1, 4], [0, 2, 3], [0, 2, 4], [0, 3, 4], [1, 2, 3], [1, 2, 4], [1, 3, 4], [2, 3, 4]]
  | _ => []
def xorN (f : Nat → UInt8) : Nat → UInt8
  | 0 => 0
  | k + 1 => xorN f k ^^^ f k
/-- Weights undo the code; weights of weights. -/
def wayOk (n : Nat) (hs : List Int) (W : Nat → List UInt8) : Bool :=
  (List.range (n + 2)).all fun x => decide ((W x).length = n) &&
    ((List.range n).all fun t => decide (xorN (fun j => mulG ((genG n (hs.getD j 0) 0).getD t 0) ((W x).getD j 0)) n = (genG n x 0).getD t 0)) &&
    ((List.range n).all fun j => decide (xorN (fun i => mulG ((W i).getD j 0) ((genG n x 0).getD i 0)) n = (W x).getD j 0))
end Go.Wk
