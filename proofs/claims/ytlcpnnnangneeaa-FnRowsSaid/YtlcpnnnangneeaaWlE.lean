/-
  Reading a row from its blocks undoes the code. No program is named here.
-/
import Derived.Test.YtlcpnnnangneeaaWlD
namespace Go.Wk
open Rp (sz own)
set_option maxRecDepth 100000 in
theorem tab_all : ([1, 2, 3].all fun n => (candH n).all (tabOk n)) = true := by decide +kernel
theorem cand_of {n s : Nat} {hs : List Int} (hn : 1 ≤ n ∧ n ≤ 3) (h2 : s ≤ 2) (hr : rises hs ((n : Int) + s - 1) = true) (hl : hs.length = n) : hs ∈ candH n := by
  rw [rises, List.all_eq_true] at hr
  have hr : ∀ i, i < hs.length → riseAt hs ((n : Int) + s - 1) i = true := fun i hi => hr i (by simpa using hi)
  simp only [riseAt, Bool.and_eq_true, Bool.or_eq_true, decide_eq_true_eq] at hr
  have hc : n = 1 ∨ n = 2 ∨ n = 3 := by omega
  rcases hc with rfl | rfl | rfl
  · match hs, hl with
    | [a], _ =>
      have h0 := hr 0 (by simp)
      simp only [List.getD_cons_zero] at h0
      have : a = 0 ∨ a = 1 ∨ a = 2 := by omega
      rcases this with rfl | rfl | rfl <;> simp [candH]
  · match hs, hl with
    | [a, b], _ =>
      have h0 := hr 0 (by simp)
      have h1 := hr 1 (by simp)
      simp only [List.getD_cons_zero, List.getD_cons_succ, Nat.sub_self, Nat.one_ne_zero, false_or] at h0 h1
      have ha : a = 0 ∨ a = 1 ∨ a = 2 := by omega
      have hb : b = 1 ∨ b = 2 ∨ b = 3 := by omega
      rcases ha with rfl | rfl | rfl <;> rcases hb with rfl | rfl | rfl <;> first | (exfalso; omega) | simp [candH]
  · match hs, hl with
    | [a, b, c], _ =>
      have h0 := hr 0 (by simp)
      have h1 := hr 1 (by simp)
      have h2 := hr 2 (by simp)
      simp only [List.getD_cons_zero, List.getD_cons_succ, Nat.sub_self, Nat.one_ne_zero, false_or, Nat.succ_ne_zero, show (2 : Nat) - 1 = 1 from rfl, (by decide : ¬ (2 : Nat) = 0)] at h0 h1 h2
      have ha : a = 0 ∨ a = 1 ∨ a = 2 := by omega
      have hb : b = 1 ∨ b = 2 ∨ b = 3 := by omega
      have hc : c = 2 ∨ c = 3 ∨ c = 4 := by omega
      rcases ha with rfl | rfl | rfl <;> rcases hb with rfl | rfl | rfl <;> rcases hc with rfl | rfl | rfl <;> first | (exfalso; omega) | simp [candH]
theorem tab_of {n : Nat} {hs : List Int} (hn : 1 ≤ n ∧ n ≤ 3) (h : hs ∈ candH n) : tabOk n hs = true := by
  have h1 := List.all_eq_true.1 tab_all n (by have hc : n = 1 ∨ n = 2 ∨ n = 3 := by omega
                                              rcases hc with rfl | rfl | rfl <;> simp)
  exact List.all_eq_true.1 h1 hs h
theorem way_at {n : Nat} {hs : List Int} (h : tabOk n hs = true) {x : Nat} (hx : x < n + 2) : betw n hs x 0 = wayW n hs x ∧ genG n x 0 = wayG n x := by
  have h1 := List.all_eq_true.1 h x (by simpa using hx)
  simp only [Bool.and_eq_true, decide_eq_true_eq] at h1
  have h2 := h1.1.1.1
  have key : ∀ e ∈ ways, e.ok ivL = true := List.all_eq_true.1 ways_ok
  cases he : ways.find? (fun e => decide (e.n = n) && decide (e.hs = hs) && decide (e.x = (x : Int))) with
  | none => exact absurd he h2
  | some e =>
    have e1 := List.find?_some he
    simp only [Bool.and_eq_true, decide_eq_true_eq] at e1
    obtain ⟨⟨e2, e3⟩, e4⟩ := e1
    have hm := List.mem_of_find?_eq_some he
    refine ⟨?_, ?_⟩
    · have := Way.fact (key e hm)
      rw [e2, e3, e4] at this
      rw [this, wayW, he]
    · cases hf : ways.find? (fun e => decide (e.n = n) && decide (e.x = (x : Int))) with
      | none =>
        have := List.find?_eq_none.1 hf e hm
        simp [e2, e4] at this
      | some f =>
        have f1 := List.find?_some hf
        simp only [Bool.and_eq_true, decide_eq_true_eq] at f1
        have hg := key f (List.mem_of_find?_eq_some hf)
        rw [ivL_eq] at hg
        unfold Way.ok at hg
        simp only [Bool.and_eq_true, decide_eq_true_eq] at hg
        have h9 := hg.1.1.1.1.1.1
        rw [f1.1, f1.2] at h9
        rw [wayG, hf]
        exact h9
section
variable {n s : Nat} {hs : List Int} {x : Int}
theorem way_len (hn : 1 ≤ n ∧ n ≤ 3) (h2 : s ≤ 2) (hr : rises hs ((n : Int) + s - 1) = true) (hl : hs.length = n) (hx : 0 ≤ x ∧ x < n + 2) : (betw n hs x 0).length = n := by
  obtain ⟨x, rfl⟩ : ∃ k : Nat, x = k := ⟨x.toNat, by omega⟩
  have ht := tab_of hn (cand_of hn h2 hr hl)
  have hx' : x < n + 2 := by omega
  have h1 := List.all_eq_true.1 ht x (by simpa using hx')
  simp only [Bool.and_eq_true, decide_eq_true_eq] at h1
  rw [(way_at ht hx').1]
  exact h1.1.1.2
theorem xorN_congr {f g : Nat → UInt8} : ∀ {k : Nat}, (∀ i, i < k → f i = g i) → xorN f k = xorN g k
  | 0, _ => rfl
  | k + 1, h => by rw [xorN, xorN, xorN_congr fun i hi => h i (by omega), h k (by omega)]
theorem way_undo (hn : 1 ≤ n ∧ n ≤ 3) (h2 : s ≤ 2) (hr : rises hs ((n : Int) + s - 1) = true) (hl : hs.length = n) (hx : 0 ≤ x ∧ x < n + 2) {t : Nat} (ht : t < n) :
    xorN (fun j => mulG ((genG n (hs.getD j 0) 0).getD t 0) ((betw n hs x 0).getD j 0)) n = (genG n x 0).getD t 0 := by
  obtain ⟨x, rfl⟩ : ∃ k : Nat, x = k := ⟨x.toNat, by omega⟩
  have hk := tab_of hn (cand_of hn h2 hr hl)
  have hx' : x < n + 2 := by omega
  have h1 := List.all_eq_true.1 hk x (by simpa using hx')
  simp only [Bool.and_eq_true, decide_eq_true_eq] at h1
  have h3 := List.all_eq_true.1 h1.1.2 t (by simpa using ht)
  simp only [decide_eq_true_eq] at h3
  rw [(way_at hk hx').1, (way_at hk hx').2, ← h3]
  refine xorN_congr fun j hj => ?_
  have hb := rises_get hr j (by omega)
  rw [← (way_at hk (x := (hs.getD j 0).toNat) (by omega)).2, Int.toNat_of_nonneg hb.1]
theorem way_two (hn : 1 ≤ n ∧ n ≤ 3) (h2 : s ≤ 2) (hr : rises hs ((n : Int) + s - 1) = true) (hl : hs.length = n) (hx : 0 ≤ x ∧ x < n + 2) {j : Nat} (hj : j < n) :
    xorN (fun i => mulG ((betw n hs (i : Nat) 0).getD j 0) ((genG n x 0).getD i 0)) n = (betw n hs x 0).getD j 0 := by
  obtain ⟨x, rfl⟩ : ∃ k : Nat, x = k := ⟨x.toNat, by omega⟩
  have hk := tab_of hn (cand_of hn h2 hr hl)
  have hx' : x < n + 2 := by omega
  have h1 := List.all_eq_true.1 hk x (by simpa using hx')
  simp only [Bool.and_eq_true, decide_eq_true_eq] at h1
  have h3 := List.all_eq_true.1 h1.2 j (by simpa using hj)
  simp only [decide_eq_true_eq] at h3
  rw [(way_at hk hx').1, (way_at hk hx').2, ← h3]
  exact xorN_congr fun i hi => by rw [(way_at hk (by omega)).1]
end
/-! ### Byte by byte -/
theorem addG_at : ∀ {a b : List UInt8}, a.length = b.length → ∀ p : Nat, (addG a b).getD p 0 = a.getD p 0 ^^^ b.getD p 0
  | [], [], _, p => by simp [addG]
  | x :: a, y :: b, h, 0 => by simp [addG]
  | x :: a, y :: b, h, p + 1 => by
    have := addG_at (a := a) (b := b) (by simpa using h) p
    simpa [addG] using this
theorem scaleG_at {a : List UInt8} {c : UInt8} (p : Nat) : (scaleG a c).getD p 0 = mulG (a.getD p 0) c := by
  unfold scaleG
  by_cases hp : p < a.length
  · simp [List.getD, hp]
  · have : mulG 0 c = 0 := by exact mul_zero_l c
    simp [List.getD, hp, this]
theorem mix_at {ls : List (List UInt8)} {cs : List UInt8} {n : Nat} (h : ∀ i, i < ls.length → (ls.getD i []).length = n) (p : Nat) : ∀ {k : Nat}, k ≤ ls.length → (mixTo ls cs n k).getD p 0 = xorN (fun j => mulG ((ls.getD j []).getD p 0) (cs.getD j 0)) k
  | 0, _ => by
    show (List.replicate n (0 : UInt8)).getD p 0 = 0
    by_cases hp : p < n <;> simp [List.getD, hp]
  | k + 1, hk => by
    rw [mixTo, addG_at (by rw [scaleG_len, mixTo_len h (by omega), h k (by omega)]), scaleG_at, mix_at h p (by omega)]
    rfl
theorem xorN_mul_l {f : Nat → UInt8} {c : UInt8} : ∀ {k : Nat}, mulG (xorN f k) c = xorN (fun i => mulG (f i) c) k
  | 0 => by show mulG 0 c = 0; exact mul_zero_l c
  | k + 1 => by rw [xorN, mul_xor_l, xorN_mul_l]; rfl
theorem xorN_mul_r {f : Nat → UInt8} {c : UInt8} {k : Nat} : mulG c (xorN f k) = xorN (fun i => mulG c (f i)) k := by
  rw [mul_comm, xorN_mul_l]
  exact xorN_congr fun i _ => mul_comm _ _
theorem xorN_xor {f g : Nat → UInt8} : ∀ {k : Nat}, xorN (fun i => f i ^^^ g i) k = xorN f k ^^^ xorN g k
  | 0 => by simp [xorN]
  | k + 1 => by
    rw [xorN, xorN, xorN, xorN_xor, UInt8.xor_assoc, UInt8.xor_assoc]
    congr 1
    rw [← UInt8.xor_assoc, UInt8.xor_comm (xorN g k), UInt8.xor_assoc]
theorem xorN_zero : ∀ {k : Nat}, xorN (fun _ => 0) k = 0
  | 0 => rfl
  | k + 1 => by rw [xorN, xorN_zero]; rfl
theorem xorN_swap {f : Nat → Nat → UInt8} {m : Nat} : ∀ {k : Nat}, xorN (fun i => xorN (fun j => f i j) m) k = xorN (fun j => xorN (fun i => f i j) k) m
  | 0 => by
    show (0 : UInt8) = xorN (fun _ => 0) m
    rw [xorN_zero]
  | k + 1 => by
    rw [xorN, xorN_swap]
    show _ = xorN (fun j => xorN (fun i => f i j) k ^^^ f k j) m
    rw [xorN_xor]
/-- Sums of sums. -/
theorem two_sums {a : Nat → UInt8} {b : Nat → Nat → UInt8} {c : Nat → UInt8} {n m : Nat} :
    xorN (fun i => mulG (xorN (fun j => mulG (a j) (b i j)) m) (c i)) n = xorN (fun j => mulG (a j) (xorN (fun i => mulG (b i j) (c i)) n)) m := by
  rw [xorN_congr (g := fun i => xorN (fun j => mulG (a j) (mulG (b i j) (c i))) m) fun i _ => ?_, xorN_swap]
  · exact xorN_congr fun j _ => xorN_mul_r.symm
  · rw [xorN_mul_l]
    exact xorN_congr fun j _ => mul_assoc _ _ _
/-! ### Blocks of what was read -/
theorem chunk_flat {ls : Nat → List UInt8} (h : ∀ i, (ls i).length = 4) : ∀ {n i : Nat}, i < n → (chunks (((List.range n).map ls).flatten) 4 n).getD i [] = ls i := by
  intro n i hi
  rw [chunks_get hi]
  have hl : ∀ k, (((List.range k).map ls).flatten).length = k * 4 := by
    intro k
    induction k with
    | zero => rfl
    | succ k ih => rw [List.range_succ, List.map_append, List.flatten_append, List.length_append, ih]; simp [h]; omega
  have hs : ((List.range n).map ls).flatten = ((List.range i).map ls).flatten ++ (ls i ++ ((List.range' (i + 1) (n - (i + 1))).map ls).flatten) := by
    have : List.range n = List.range i ++ (i :: List.range' (i + 1) (n - (i + 1))) := by
      rw [List.range_eq_range', List.range_eq_range', show List.range' 0 n = List.range' 0 (i + (n - i)) by congr 1; omega, ← List.range'_append_1, show n - i = (n - (i + 1)) + 1 by omega, List.range'_succ, Nat.zero_add]
    rw [this]; simp
  have hi4 := hl i
  unfold cut
  rw [hs, List.drop_append_of_le_length (by omega), List.drop_of_length_le (by omega), List.nil_append, List.take_append_of_le_length (by rw [h i]; omega), List.take_of_length_le (by rw [h i]; omega)]
section
variable {n s : Nat} {xs : List (List UInt8)}
theorem rises_have (hl : xs.length = n + s) : rises (haveTo xs n xs.length) ((n : Int) + s - 1) = true := by
  have := have_rises (xs := xs) (n := n) (k := xs.length)
  rwa [show ((xs.length : Nat) : Int) - 1 = (n : Int) + s - 1 by omega] at this
theorem dec_have (h : decOk n xs = true) : (haveTo xs n xs.length).length = n := by
  have := have_le (xs := xs) (n := n) (k := xs.length)
  simp only [decOk, decide_eq_true_eq] at h
  omega
/-- The code of what was read is what would be read there. -/
theorem enc_dec (hn : 1 ≤ n ∧ n ≤ 3) (h2 : s ≤ 2) (hl : xs.length = n + s) (h4 : Part xs) (hok : decOk n xs = true) {p : Nat} (hp : p < n + s) : (encG n (n + s) (decTo n xs n)).getD p [] = decAt n xs p := by
  have hh := dec_have hok
  have hr := rises_have hl
  have hth := there_len (xs := xs) (n := n) (k := xs.length)
  have ht4 := there4 (n := n) h4
  rw [encG_at hp]
  have dl := decTo_len (n := n) h4 n
  refine getD_ext (d := 0) ?_ fun q hq => ?_
  · rw [encK, mixTo_len (chunks_all dl) (Nat.le_refl _), decAt_len h4]
  · rw [encK, mix_at (chunks_all dl) q (Nat.le_refl _), chunks_len, decAt, mix_at ht4 q (Nat.le_refl _), hth, hh]
    rw [xorN_congr (g := fun i => mulG (xorN (fun j => mulG (((thereTo xs n xs.length).getD j []).getD q 0) ((betw n (haveTo xs n xs.length) (i : Nat) 0).getD j 0)) n) ((genG n p 0).getD i 0)) fun i hi => ?_, two_sums]
    · exact xorN_congr fun j hj => by rw [way_two hn h2 hr hh (by omega) hj]
    · have := chunk_flat (ls := fun i => decAt n xs (i : Nat)) (fun i => decAt_len h4) hi
      rw [show ((List.range n).map fun i : Nat => decAt n xs (i : Int)).flatten = decTo n xs n from rfl] at this
      rw [this, decAt, mix_at ht4 q (Nat.le_refl _), hth, hh]
end
end Go.Wk
namespace Go.Wk
theorem dec_lt {n xs} (h : decOk n xs = false) : (haveTo xs n xs.length).length < n := by
  simpa [decOk] using h
theorem dec_ge {n xs} (h : decOk n xs = true) : ¬ (haveTo xs n xs.length).length < n := by
  simp only [decOk, decide_eq_true_eq] at h; omega
theorem asked_bd {d s xs} : 0 ≤ asked d s xs ∧ asked d s xs ≤ 3 := by
  unfold asked
  split
  · split <;> omega
  · omega
theorem blk_at {n xs p} (h : decOk n xs = true) : blkL n xs p = decAt n xs p := (dec_yes (dec_ge h)).2.2 p
theorem dec_at {n xs} (h : decOk n xs = true) : decL n xs = decTo n xs n := (dec_yes (dec_ge h)).2.1
theorem have_end {xs : List (List UInt8)} {n k : Nat} (hk : k ≤ xs.length) (h : ¬ ((k : Int) < xs.length) ∨ ¬ (((haveTo xs n k).length : Int) < n)) :
    haveTo xs n xs.length = haveTo xs n k ∧ thereTo xs n xs.length = thereTo xs n k := by
  rcases h with h | h
  · rw [show k = xs.length by omega]; exact ⟨rfl, rfl⟩
  · have := have_le (xs := xs) (n := n) (k := k)
    exact have_full (by omega) _ hk
end Go.Wk
