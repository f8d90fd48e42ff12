/-
  Any so many blocks as there are data blocks tell a row. No program is named here.
-/
import Derived.Test.YtlcpnnnangneeaaWlE
namespace Go.Wk
open Rp (sz own)
theorem Sep.nilF {M : Nat → Prop} {w0 w : World} {Δ F : List Rsc} {β : Type} [Rp β] (h : Sep M w0 Δ F w) : Sep M w0 Δ (F ++ [Wk.seen false [.slice none 0 0] ([] : List β) []]) w :=
  h.look (r := Wk.seen false [.slice none 0 0] ([] : List β) []) (.inr (.inl ⟨rfl, rfl, rfl⟩)) (by simp [Wk.seen])
/-- How many of the first k are not there. -/
def nils (ys : List (List UInt8)) (k : Nat) : Nat := sumN (fun i => if (ys.getD i []).length = 0 then 1 else 0) k
theorem have_nils {ys : List (List UInt8)} {n : Nat} : ∀ k, (haveTo ys n k).length < n → (haveTo ys n k).length + nils ys k = k
  | 0, _ => rfl
  | k + 1, h => by
    have e : nils ys (k + 1) = nils ys k + if (ys.getD k []).length = 0 then 1 else 0 := rfl
    by_cases hc : 0 < (ys.getD k []).length ∧ (haveTo ys n k).length < n
    · rw [(have_yes hc).1, List.length_append] at h ⊢
      have ih := have_nils (ys := ys) (n := n) k hc.2
      rw [e, if_neg (by omega)]
      simp only [List.length_cons, List.length_nil] at h ⊢
      omega
    · rw [(have_no hc).1] at h ⊢
      have ih := have_nils (ys := ys) (n := n) k h
      rw [e, if_pos (by omega)]
      omega
theorem sumN_one {f g : Nat → Nat} {i : Nat} (h : ∀ j, j ≠ i → f j = g j) (h1 : f i ≤ 1) : ∀ k, sumN f k ≤ sumN g k + if i < k then 1 else 0
  | 0 => by simp [sumN]
  | k + 1 => by
    have ih := sumN_one h h1 k
    show sumN f k + f k ≤ sumN g k + g k + _
    by_cases e : k = i
    · subst e
      rw [if_neg (by omega)] at ih
      rw [if_pos (by omega)]
      omega
    · rw [h k e]
      by_cases hk : i < k
      · rw [if_pos hk] at ih; rw [if_pos (by omega)]; omega
      · rw [if_neg hk] at ih; rw [if_neg (by omega)]; omega
theorem nils_set {ys : List (List UInt8)} {i k : Nat} : nils (ys.set i []) k ≤ nils ys k + 1 := by
  have := sumN_one (f := fun j => if ((ys.set i []).getD j []).length = 0 then 1 else 0) (g := fun j => if (ys.getD j []).length = 0 then 1 else 0) (i := i)
    (fun j hj => by simp only [getD_set', if_neg (fun h : j = i ∧ i < ys.length => hj h.1)]) (by first | (dsimp only; split <;> omega) | (split <;> omega)) k
  unfold nils
  split at this <;> omega
theorem chunks_flat {xs : List UInt8} {m : Nat} : ∀ {k : Nat}, (chunks xs m k).flatten = xs.take (k * m)
  | 0 => by simp [chunks]
  | k + 1 => by
    rw [← chunks_step, List.flatten_append, chunks_flat, Nat.succ_mul, List.take_add]
    simp [cut]
section
variable {n s : Nat} {D : List UInt8}
/-- Some of a row's blocks. -/
def Some_ (n s : Nat) (D : List UInt8) (ys : List (List UInt8)) : Prop := ys.length = n + s ∧ ∀ i, i < n + s → ys.getD i [] = encK D n i ∨ ys.getD i [] = []
theorem encK_len (h : D.length = n * 4) {k : Int} : (encK D n k).length = 4 := by rw [encK, mixTo_len (chunks_all h) (Nat.le_refl _)]
theorem some_all : Some_ n s D (encG n (n + s) D) := ⟨encG_len, fun i hi => .inl (encG_at hi)⟩
theorem some_set {ys : List (List UInt8)} (h : Some_ n s D ys) {i : Nat} : Some_ n s D (ys.set i []) := by
  refine ⟨by rw [List.length_set]; exact h.1, fun j hj => ?_⟩
  rw [getD_set']
  split
  · exact .inr rfl
  · exact h.2 j hj
theorem some_part {ys : List (List UInt8)} (hl : D.length = n * 4) (h : Some_ n s D ys) : Part ys := fun i hi => by
  rcases h.2 i (by rw [← h.1]; exact hi) with e | e
  · rw [e, encK_len hl]; exact .inl rfl
  · rw [e]; exact .inr rfl
theorem some_ok {ys : List (List UInt8)} (h : Some_ n s D ys) (hn : nils ys (n + s) ≤ s) : decOk n ys = true := by
  rw [decOk, decide_eq_true_eq]
  have := have_nils (ys := ys) (n := n) ys.length
  rw [h.1] at this ⊢
  omega
theorem dec_enc {ys : List (List UInt8)} (hn : 1 ≤ n ∧ n ≤ 3) (h2 : s ≤ 2) (hl : D.length = n * 4) (h : Some_ n s D ys) (hok : decOk n ys = true) {p : Nat} (hp : p < n + s) : decAt n ys p = encK D n p := by
  have h4 := some_part hl h
  have hh := dec_have hok
  have hr := rises_have (n := n) (s := s) h.1
  have hth := there_len (xs := ys) (n := n) (k := ys.length)
  have ht4 := there4 (n := n) h4
  refine getD_ext (d := 0) (by rw [decAt_len h4, encK_len hl]) fun q hq => ?_
  rw [decAt, mix_at ht4 q (Nat.le_refl _), hth, hh, encK, mix_at (chunks_all hl) q (Nat.le_refl _), chunks_len]
  rw [xorN_congr (g := fun j => mulG (xorN (fun t => mulG (((chunks D 4 n).getD t []).getD q 0) ((genG n ((haveTo ys n ys.length).getD j 0) 0).getD t 0)) n) ((betw n (haveTo ys n ys.length) (p : Nat) 0).getD j 0)) fun j hj => ?_, two_sums]
  · exact xorN_congr fun t ht => by rw [way_undo hn h2 hr hh (by omega) ht]
  · have ha := have_at (xs := ys) (n := n) (k := ys.length) j (by omega)
    rw [ha.2.2.2.2]
    rcases h.2 ((haveTo ys n ys.length).getD j 0).toNat (by have := h.1; omega) with e | e
    · rw [e, encK, Int.toNat_of_nonneg ha.1, mix_at (chunks_all hl) q (Nat.le_refl _), chunks_len]
    · have := ha.2.2.2.1
      rw [e] at this
      exact absurd this (by simp)
theorem dec_all {ys : List (List UInt8)} (hn : 1 ≤ n ∧ n ≤ 3) (h2 : s ≤ 2) (hl : D.length = n * 4) (h : Some_ n s D ys) (hok : decOk n ys = true) : decTo n ys n = D := by
  have e : decTo n ys n = (chunks D 4 n).flatten := by
    rw [decTo, chunks]
    congr 1
    refine List.map_congr_left fun i hi => ?_
    have hi : i < n := by simpa using hi
    rw [dec_enc hn h2 hl h hok (by omega), encK_low hl hi, chunks_get hi]
  rw [e, chunks_flat, List.take_of_length_le (by omega)]
theorem cut_enc (hl : D.length = n * 4) : cut (encG n (n + s) D) 0 n = chunks D 4 n := by
  refine getD_ext (d := []) (by rw [cut_len (by rw [encG_len]; omega), chunks_len]; rfl) fun i hi => ?_
  rw [cut_len (by rw [encG_len]; omega)] at hi
  rw [cut_get (by omega), Nat.zero_add, encG_at (by omega), encK_low hl (by omega)]
end
section
variable {d s : Int} {D : List UInt8}
theorem rowFits_enc (h : rOK d s = true) (hl : (D.length : Int) = d * 4) : rowFits d s (encodeRow d s D).Blocks = true := by
  have hb := rOK_bd h
  rw [encodeRow_full h hl]
  have hl' : D.length = d.toNat * 4 := by omega
  have hw := encG_whole (n := d.toNat) (s := s.toNat) hl'
  rw [show ((d.toNat : Int) + (s.toNat : Int)) = d + s by omega] at hw
  show (rOK d s && (wholeL (d + s) (encG d.toNat (d.toNat + s.toNat) D) && decide (encG d.toNat (d.toNat + s.toNat) (cut (encG d.toNat (d.toNat + s.toNat) D) 0 d.toNat).flatten = encG d.toNat (d.toNat + s.toNat) D))) = true
  rw [h, hw, cut_enc hl', chunks_flat, List.take_of_length_le (by omega)]
  simp
variable {ys : List (List UInt8)}
theorem asked_some (h : rOK d s = true) (hl : (D.length : Int) = d * 4) (hy : Some_ d.toNat s.toNat D ys) : asked d s ys = 0 := by
  have hb := rOK_bd h
  refine asked_ok h ?_
  have h4 := some_part (s := s.toNat) (by omega : D.length = d.toNat * 4) hy
  have h1 := hy.1
  rw [partL, decide_eq_true (by omega), any_good fun i hi => ?_]
  · rfl
  · have := h4 i hi
    rw [bad40, ← Bool.not_eq_true, Bool.and_eq_true, decide_eq_true_eq, decide_eq_true_eq]
    omega
theorem rows_dec (h : rOK d s = true) (hl : (D.length : Int) = d * 4) (hy : Some_ d.toNat s.toNat D ys) (hn : nils ys (d.toNat + s.toNat) ≤ s.toNat) : decodeRow d s ys = ⟨0, D⟩ := by
  have hb := rOK_bd h
  have hok := some_ok hy hn
  rw [decodeRow_full (asked_some h hl hy) hok, dec_at hok, dec_all (s := s.toNat) (by omega) (by omega) (by omega) hy hok]
theorem rows_blk (h : rOK d s = true) (hl : (D.length : Int) = d * 4) (hy : Some_ d.toNat s.toNat D ys) (hn : nils ys (d.toNat + s.toNat) ≤ s.toNat) (i : Nat) (hi : (i : Int) < d + s) : (blockOf d s ys i).Bytes = (encodeRow d s D).Blocks.getD i [] := by
  have hb := rOK_bd h
  have hok := some_ok hy hn
  have hins : ins (i : Int) 0 (d + s - 1) = true := by simp only [ins, Bool.and_eq_true, decide_eq_true_eq]; omega
  rw [blockOf_full (asked_some h hl hy) hins hok, encodeRow_full h hl]
  show blkL d.toNat ys i = (encG d.toNat (d.toNat + s.toNat) D).getD i []
  rw [blk_at hok, dec_enc (s := s.toNat) (by omega) (by omega) (by omega) hy hok (by omega), encG_at (by omega)]
end
end Go.Wk
namespace Go.Wk
theorem nils_enc {n s : Nat} {D : List UInt8} (hl : D.length = n * 4) : nils (encG n (n + s) D) (n + s) = 0 := by
  have : ∀ k, k ≤ n + s → nils (encG n (n + s) D) k = 0 := by
    intro k
    induction k with
    | zero => intro _; rfl
    | succ k ih =>
      intro hk
      have e : nils (encG n (n + s) D) (k + 1) = nils (encG n (n + s) D) k + if ((encG n (n + s) D).getD k []).length = 0 then 1 else 0 := rfl
      rw [e, ih (by omega), encG_lens hl k (by omega)]
      rfl
  exact this _ (Nat.le_refl _)
end Go.Wk
