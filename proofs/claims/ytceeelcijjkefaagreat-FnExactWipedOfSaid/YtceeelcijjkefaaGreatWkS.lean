/-
  A row's blocks: what is coded, and that both ways come to the same. No program is named here.
-/
import Derived.Test.YtceeelcijjkefaaGreatWkL
import Derived.Test.YtceeelcijjkefaaGreatWkN
import Derived.Test.YtceeelcijjkefaaGreatWkR
set_option linter.unusedVariables false
set_option linter.unusedSimpArgs false
namespace Go.Wk
open Rp (sz own)
def encK (xs : List UInt8) (n : Nat) (k : Int) : List UInt8 := mixTo (chunks xs 4 n) (genG n k 0) 4 (chunks xs 4 n).length
/-- The first m blocks, each a sum. -/
def encG (n m : Nat) (xs : List UInt8) : List (List UInt8) := (List.range m).map fun k : Nat => encK xs n (k : Int)
/-- The chunks, and s sums behind them. -/
def encS (n s : Nat) (xs : List UInt8) : List (List UInt8) := chunks xs 4 n ++ (List.range s).map fun j : Nat => encK xs n ((n : Int) + (j : Int))
theorem encG_len {n m : Nat} {xs} : (encG n m xs).length = m := by simp [encG]
theorem encS_len {n m : Nat} {xs} : (encS n m xs).length = n + m := by simp [encS, chunks_len]
theorem encG_step {n m : Nat} {xs} : encG n m xs ++ [encK xs n m] = encG n (m + 1) xs := by simp [encG, List.range_succ]
theorem encS_zero {n : Nat} {xs} : encS n 0 xs = chunks xs 4 n := by simp [encS]
theorem encS_step {n j : Nat} {xs} : encS n j xs ++ [encK xs n ((n : Int) + j)] = encS n (j + 1) xs := by simp [encS, List.range_succ]
theorem chunks_step {α : Type} {xs : List α} {m i : Nat} : chunks xs m i ++ [cut xs (i * m) (i * m + m)] = chunks xs m (i + 1) := by simp [chunks, List.range_succ]
theorem chunks_all {α : Type} {xs : List α} {m n : Nat} (h : xs.length = n * m) : ∀ i, i < (chunks xs m n).length → ((chunks xs m n).getD i []).length = m := fun i hi => by
  rw [chunks_len] at hi
  rw [chunks_get hi, cut_len (by have := mul_step h hi; omega)]
  omega
theorem scaleG_one (xs : List UInt8) : scaleG xs 1 = xs := by simp [scaleG, mul_one_r]
theorem scaleG_zero (xs : List UInt8) : scaleG xs 0 = List.replicate xs.length 0 := by
  refine List.ext_getElem (by simp [scaleG]) fun i h1 h2 => ?_
  simp [scaleG, mul_zero_r]
theorem addG_get {xs ys : List UInt8} {i : Nat} (h : i < xs.length) (h2 : i < ys.length) : (addG xs ys).getD i 0 = xs.getD i 0 ^^^ ys.getD i 0 := by
  simp [addG, List.getD, List.getElem?_zipWith, h, h2]
theorem addG_zero_r {xs : List UInt8} {m : Nat} (h : xs.length = m) : addG xs (List.replicate m 0) = xs := by
  refine getD_ext (d := 0) (by rw [addG_len (by simp [h])]) fun k hk => ?_
  rw [addG_len (by simp [h])] at hk
  rw [addG_get hk (by simp; omega)]
  have : k < m := by omega
  simp [List.getD, List.getElem?_replicate, this]
theorem addG_zero_l {xs : List UInt8} {m : Nat} (h : xs.length = m) : addG (List.replicate m 0) xs = xs := by
  refine getD_ext (d := 0) (by rw [addG_len (by simp [h])]; simp [h]) fun k hk => ?_
  rw [addG_len (by simp [h])] at hk
  simp at hk
  rw [addG_get (by simpa using hk) (by omega)]
  simp [List.getD, List.getElem?_replicate, hk]
/-- Weights that are 1 at one place and 0 elsewhere. -/
theorem mix_unit {ls : List (List UInt8)} {cs : List UInt8} {n j : Nat} (h : ∀ i, i < ls.length → (ls.getD i []).length = n) (hc : ∀ i, i < ls.length → cs.getD i 0 = if i = j then 1 else 0) (hj : j < ls.length) :
    ∀ k, k ≤ ls.length → mixTo ls cs n k = if j < k then ls.getD j [] else List.replicate n 0
  | 0, _ => by simp [mixTo]
  | k + 1, hk => by
    have ih := mix_unit h hc hj k (by omega)
    rw [mixTo, ih, hc k (by omega)]
    by_cases e : k = j
    · subst e
      rw [if_neg (by omega), if_pos rfl, if_pos (by omega), scaleG_one, addG_zero_l (h k hj)]
    · rw [if_neg e, scaleG_zero, h k (by omega)]
      by_cases e2 : j < k
      · rw [if_pos e2, if_pos (by omega), addG_zero_r (h j hj)]
      · rw [if_neg e2, if_neg (by omega), addG_zero_r (by simp)]
theorem genG_get {n i : Nat} {p base : Int} (h : i < n) : (genG n p base).getD i 0 = genAt n p base i := by
  simp [genG, List.getD, h]
theorem encK_low {xs : List UInt8} {n j : Nat} (h : xs.length = n * 4) (hj : j < n) : encK xs n j = (chunks xs 4 n).getD j [] := by
  have hl : (chunks xs 4 n).length = n := chunks_len
  rw [encK, mix_unit (j := j) (chunks_all h) (fun i hi => ?_) (by omega) _ (Nat.le_refl _), if_pos (by omega)]
  rw [genG_get (by omega), genAt, if_neg (by omega)]
  by_cases e : i = j
  · subst e; rw [if_pos rfl, if_pos rfl]
  · rw [if_neg (by omega), if_neg e]
theorem encS_eq {n s : Nat} {xs : List UInt8} (h : xs.length = n * 4) : encS n s xs = encG n (n + s) xs := by
  refine List.ext_getElem (by rw [encS_len, encG_len]) fun k h1 h2 => ?_
  rw [encG_len] at h2
  simp only [encG, List.getElem_map, List.getElem_range]
  by_cases hk : k < n
  · rw [encK_low h hk]
    simp only [encS]
    rw [List.getElem_append_left (by rw [chunks_len]; exact hk)]
    simp [List.getD, chunks_len, hk]
  · simp only [encS]
    rw [List.getElem_append_right (by rw [chunks_len]; omega)]
    simp only [List.getElem_map, List.getElem_range, chunks_len]
    congr 1
    omega
theorem encG_lens {n m : Nat} {xs : List UInt8} (h : xs.length = n * 4) (k : Nat) (hk : k < m) : ((encG n m xs).getD k []).length = 4 := by
  have : (encG n m xs).getD k [] = encK xs n k := by simp [encG, List.getD, hk]
  rw [this, encK, mixTo_len (chunks_all h) (Nat.le_refl _)]
/-- What EncodeRow answers. -/
def encodeRow (d s : Int) (xs : List UInt8) : BlocksResult :=
  if rOK d s = true then if (xs.length : Int) = d * 4 then ⟨0, encG d.toNat (d.toNat + s.toNat) xs⟩ else ⟨1, []⟩ else ⟨3, []⟩
theorem encodeRow_range {d s xs} (h : rOK d s = false) : encodeRow d s xs = ⟨3, []⟩ := by rw [encodeRow, if_neg (by simp [h])]
theorem encodeRow_form {d s} {xs : List UInt8} (h : rOK d s = true) (h2 : ¬ (xs.length : Int) = d * 4) : encodeRow d s xs = ⟨1, []⟩ := by rw [encodeRow, if_pos h, if_neg h2]
theorem encodeRow_full {d s} {xs : List UInt8} (h : rOK d s = true) (h2 : (xs.length : Int) = d * 4) : encodeRow d s xs = ⟨0, encG d.toNat (d.toNat + s.toNat) xs⟩ := by rw [encodeRow, if_pos h, if_pos h2]
theorem encodeRow_ok {d s : Int} {xs : List UInt8} (h : (encodeRow d s xs).Code = 0) : rOK d s = true ∧ (xs.length : Int) = d * 4 := by
  unfold encodeRow at h
  split at h
  · split at h
    · exact ⟨by assumption, by assumption⟩
    · simp at h
  · simp at h
theorem rOK_bd {d s : Int} (h : rOK d s = true) : 1 ≤ d ∧ d ≤ 3 ∧ 0 ≤ s ∧ s ≤ 2 := by
  simp [rOK, ins] at h; omega
/-- An answer without blocks. -/
theorem blocks_nil {w w' : World} {c : Int} (h : I64ok c) : Res w w' [.int .i64 c, .slice none 0 0] (⟨c, []⟩ : BlocksResult) :=
  ⟨[], BlocksResult.own_mk (x := ⟨c, []⟩) (A1 := none) (C1 := 0) h (.inr (.inl ⟨rfl, rfl, rfl⟩)), .nil, by simp⟩
/-- What is held falls into parts. -/
theorem Sep.part {M w0 Δ F} {w : World} (h : Sep M w0 Δ F w) (i : Nat) {r : Rsc} (hi : Δ[i]? = some r) (rs : List Rsc) (hrs : ∀ q ∈ rs, q.φ w) (hb : blocks rs = r.fp) : Sep M w0 (Δ.set i gone ++ rs) F w := by
  have hx := not_mem_set hi h.nd
  have hsub : ∀ b, b ∈ blocks (Δ.set i gone) → b ∈ blocks Δ := fun b hb => by
    rcases blocks_set hi b hb with h | h
    · simp [gone] at h
    · exact h
  have hmem : ∀ b ∈ r.fp, b ∈ blocks Δ := fun b hb => mem_blocks.2 ⟨r, List.mem_of_getElem? hi, hb⟩
  refine ⟨h.ext, fun q hq => ?_, ?_, fun b hb' => ?_, h.fs, fun q hq b hbq hb' => ?_⟩
  · rcases List.mem_append.1 hq with hq | hq
    · rcases set_other (q := gone) hi h.nd q hq with rfl | ⟨hq, _⟩
      · trivial
      · exact h.rs q hq
    · exact hrs q hq
  · rw [blocks_append, hb]
    refine List.nodup_append.2 ⟨nodup_set hi h.nd (by simp [gone]) (by simp [gone]), h.nodup1 hi, fun x hx1 y hy e => ?_⟩
    subst e
    exact hx x hy hx1
  · rw [blocks_append, hb] at hb'
    rcases List.mem_append.1 hb' with hb' | hb'
    · exact h.new b (hsub b hb')
    · exact h.new b (hmem b hb')
  · rw [blocks_append, hb] at hb'
    rcases List.mem_append.1 hb' with hb' | hb'
    · exact h.ap q hq b hbq (hsub b hb')
    · exact h.ap q hq b hbq (hmem b hb')
theorem sumN_bound {f : Nat → Nat} {m : Nat} : ∀ {k : Nat}, (∀ i, i < k → f i ≤ m) → sumN f k ≤ k * m
  | 0, _ => by simp [sumN]
  | k + 1, h => by
    have h1 := sumN_bound (f := f) (m := m) (k := k) fun i hi => h i (by omega)
    have h2 := h k (by omega)
    show sumN f k + f k ≤ _
    rw [Nat.succ_mul]
    omega
theorem encG_cnt {n m : Nat} {xs : List UInt8} (h : xs.length = n * 4) : cntB (encG n m xs) ≤ m * 4 := by
  have := sumN_bound (f := lenB (encG n m xs)) (m := 4) (k := (encG n m xs).length) fun i hi => by
    rw [encG_len] at hi
    have := encG_lens h i hi
    simp only [lenB]
    omega
  rw [encG_len] at this
  unfold cntB
  rw [encG_len]
  exact this
theorem encodeRow_cnt {d s : Int} {xs : List UInt8} : cntB (encodeRow d s xs).Blocks ≤ 100 := by
  unfold encodeRow
  split
  · rename_i h
    have hb := rOK_bd h
    split
    · rename_i h2
      have := encG_cnt (n := d.toNat) (m := d.toNat + s.toNat) (xs := xs) (by omega)
      show cntB (encG _ _ _) ≤ _
      omega
    · show cntB [] ≤ 100
      simp [cntB, sumN]
  · show cntB [] ≤ 100
    simp [cntB, sumN]
end Go.Wk
