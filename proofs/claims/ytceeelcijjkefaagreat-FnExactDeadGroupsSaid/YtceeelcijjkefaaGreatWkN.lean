/-
  What a call may write in what it was given; marks. No program is named here.
-/
import Derived.Test.YtceeelcijjkefaaGreatWkL
set_option linter.unusedVariables false
set_option linter.unusedSimpArgs false
namespace Go.Wk
open Rp (sz own)
def u8Of (k : Int) : UInt8 := UInt8.ofNat (k % 256).toNat
theorem u8_wrap (k : Int) : IntKind.u8.wrap k = ((u8Of k).toNat : Int) := by
  unfold u8Of
  simp [IntKind.wrap, IntKind.bits, IntKind.signed]
  omega
theorem own_w8 {w : World} {k : Int} : own true w [.int .u8 (IntKind.u8.wrap k)] (u8Of k) [] := by
  rw [u8_wrap]; exact own_b8
def MarkB (xs : List UInt8) (k : Int) : Prop := ∀ i, i < xs.length → xs.getD i 0 = u8Of (k + i)
def MarkI (xs : List Int) (k : Int) : Prop := ∀ i, i < xs.length → xs.getD i 0 = k + i
/-- The blocks fp alone were changed; what was there is now x'. -/
def Mut {α : Type} [Rp α] (w w' : World) (fp : List Nat) (cs : List Value) (x' : α) : Prop :=
  Ext (· ∈ fp) w w' ∧ ∃ fp', own true w' cs x' fp' ∧ fp'.Nodup ∧ ∀ b ∈ fp', b ∈ fp ∨ w.heap.size ≤ b
section
variable {M : Nat → Prop} {w0 w w' : World} {Δ F : List Rsc} {α : Type} [Rp α]
theorem Sep.begin {cs : List Value} {x : α} {fp : List Nat} (h : own true w cs x fp) (hn : fp.Nodup) : Sep (· ∈ fp) w [Wk.mine cs x fp] [] w :=
  ⟨Ext.refl, by simpa [Wk.mine] using h, by simpa [blocks, Wk.mine] using hn, fun b hb => .inl (by simpa [blocks, Wk.mine] using hb), by simp, by simp⟩
theorem Sep.done {cs : List Value} {x : α} {fp fp' : List Nat} (h : Sep (· ∈ fp) w0 [Wk.mine cs x fp'] F w) : Mut w0 w fp cs x :=
  ⟨h.ext, fp', h.mine 0 rfl, by simpa [blocks, Wk.mine] using h.nd, fun b hb => h.new b (by simpa [blocks, Wk.mine] using hb)⟩
theorem Sep.mut (h : Sep M w0 Δ F w) (i : Nat) {cs cs'} {x x' : α} {fp} (hi : Δ[i]? = some (Wk.mine cs x fp)) (hm : Mut w w' fp cs' x') : ∃ fp', Sep M w0 (Δ.set i (Wk.mine cs' x' fp')) F w' := by
  obtain ⟨e, fp', h1, h2, h3⟩ := hm
  exact ⟨fp', h.set hi (q := Wk.mine cs' x' fp') e h1 h2 h3⟩
/-- An element alone, changed by a call. -/
theorem Sep.mutEl (h : Sep M w0 Δ F w) (i : Nat) {ad n cap} {xs : List α} {fp} (hi : Δ[i]? = some (Wk.mine [.slice ad n cap] xs fp)) (k : Nat) (hk : k < xs.length) :
    ∃ b o cs fk, ad = some ⟨b, o, none⟩ ∧ At w b (o + k * sz α) cs ∧ own true w cs xs[k] fk ∧ fk.Nodup ∧ (∀ b ∈ fk, b ∈ fp) ∧ ∀ w' x', Mut w w' fk cs x' → ∃ fp', Sep M w0 (Δ.set i (Wk.mine [.slice ad n cap] (xs.set k x') fp')) F w' := by
  have hnd := h.nodup1 hi
  obtain ⟨b, o, cur, T, f1, fk, f2, e1, e2, hb, hsz, hx, hback⟩ := own_zoom (h.mine i hi) k hk
  have hlt := Rp.lt (h.mine i hi)
  change fp.Nodup at hnd
  subst e2
  obtain ⟨n1, n2⟩ := List.nodup_cons.1 hnd
  rw [List.nodup_append, List.nodup_append] at n2
  obtain ⟨d1, ⟨d2, d3, d4⟩, d5⟩ := n2
  refine ⟨b, o, _, fk, e1, cells_at hb _ |> fun hat => hat, hx, d2, fun x hx => by simp [hx], fun w' x' hm => ?_⟩
  obtain ⟨e, fk', h1, h2, h3⟩ := hm
  have hbk : b ∉ fk := fun hm => n1 (by simp [hm])
  refine ⟨b :: (f1 ++ (fk' ++ f2)), h.set hi (q := Wk.mine [.slice ad n cap] (xs.set k x') (b :: (f1 ++ (fk' ++ f2)))) (e.mono fun b' _ hb' => by simp [Wk.mine, hb']) ?_ ?_ ?_⟩
  · refine hback w' cur x' fk' (e.heapM hbk hb) rfl (fun _ _ => rfl) (fun b' hb' => e.block b' (hlt b' (by simp [hb'])) fun hm => ?_) (fun b' hb' => e.block b' (hlt b' (by simp [hb'])) fun hm => ?_) h1
    · exact d5 b' hb' b' (by simp [hm]) rfl
    · exact d4 b' hm b' hb' rfl
  · have hfr : ∀ b' ∈ fk', ∀ g : List Nat, (∀ b ∈ g, b < w.heap.size) → (∀ b ∈ g, b ∉ fk) → b' ∉ g := fun b' hb' g hg hd hm => by
      rcases h3 b' hb' with h | h
      · exact hd b' hm h
      · have := hg b' hm; omega
    change (b :: (f1 ++ (fk' ++ f2))).Nodup
    have hb1 : b ∉ fk' := fun hm => hfr b hm [b] (fun x hx => by simp at hx; subst hx; exact hlt x (by simp)) (fun x hx => by simp at hx; subst hx; exact hbk) (by simp)
    have hf1 : ∀ p ∈ f1, p ∉ fk' := fun p hp hm => hfr p hm f1 (fun x hx => hlt x (by simp [hx])) (fun x hx hx2 => d5 x hx x (by simp [hx2]) rfl) hp
    have hf2 : ∀ p ∈ f2, p ∉ fk' := fun p hp hm => hfr p hm f2 (fun x hx => hlt x (by simp [hx])) (fun x hx hx2 => d4 x hx2 x hx rfl) hp
    refine List.nodup_cons.2 ⟨fun hm => ?_, List.nodup_append.2 ⟨d1, List.nodup_append.2 ⟨h2, d3, fun p hp q hq e => ?_⟩, fun p hp q hq e => ?_⟩⟩
    · simp only [List.mem_append, not_or] at hm n1
      rcases hm with hm | hm | hm
      · exact n1.1 hm
      · exact hb1 hm
      · exact n1.2.2 hm
    · subst e; exact hf2 p hq hp
    · subst e
      rcases List.mem_append.1 hq with hq | hq
      · exact hf1 p hp hq
      · exact d5 p hp p (by simp [hq]) rfl
  · intro b' hb'
    change b' ∈ b :: (f1 ++ (fk' ++ f2)) at hb'
    change b' ∈ b :: (f1 ++ (fk ++ f2)) ∨ _
    simp only [List.mem_cons, List.mem_append] at hb' ⊢
    rcases hb' with hb' | hb' | hb' | hb'
    · exact .inl (.inl hb')
    · exact .inl (.inr (.inl hb'))
    · rcases h3 b' hb' with hb' | hb'
      · exact .inl (.inr (.inr (.inl hb')))
      · exact .inr hb'
    · exact .inl (.inr (.inr (.inr hb')))
theorem Sep.mutSl {β : Type} [Rp β] (h : Sep M w0 Δ F w) (i : Nat) {ad n cap} {xs : List (List β)} {fp} (hi : Δ[i]? = some (Wk.mine [.slice ad n cap] xs fp)) (k : Nat) (hk : k < xs.length) :
    ∃ b o a c fk, ad = some ⟨b, o, none⟩ ∧ w.cell? ⟨b, o + k * 1, none⟩ = some (.slice a (xs.getD k []).length c) ∧ own true w [.slice a (xs.getD k []).length c] (xs.getD k []) fk ∧ fk.Nodup ∧ (∀ b ∈ fk, b ∈ fp) ∧
      ∀ w' x', Mut w w' fk [.slice a (xs.getD k []).length c] x' → ∃ fp', Sep M w0 (Δ.set i (Wk.mine [.slice ad n cap] (xs.set k x') fp')) F w' := by
  obtain ⟨b, o, cs, fk, h1, h2, h3, h4, h6, h5⟩ := h.mutEl i hi k hk
  rw [show xs.getD k [] = xs[k] from by simp [List.getD, hk]]
  obtain ⟨a, c, rfl⟩ := own_slice h3
  exact ⟨b, o, a, c, fk, h1, h2 0 _ rfl, h3, h4, h6, h5⟩
end
theorem sumN_congr {f g : Nat → Nat} : ∀ {k : Nat}, (∀ i, i < k → f i = g i) → sumN f k = sumN g k
  | 0, _ => rfl
  | k + 1, h => by
    show sumN f k + f k = sumN g k + g k
    rw [sumN_congr fun i hi => h i (by omega), h k (by omega)]
def lenB (xs : List (List UInt8)) (i : Nat) : Nat := (xs.getD i []).length
theorem lenB_eq {xs : List (List UInt8)} {i : Nat} : (xs.getD i []).length = lenB xs i := rfl
def cntB (xs : List (List UInt8)) : Nat := sumN (lenB xs) xs.length
def MarkBB (xs : List (List UInt8)) (k : Int) : Prop := ∀ j, j < xs.length → MarkB (xs.getD j []) (k + sumN (lenB xs) j)
theorem cntB_step {xs : List (List UInt8)} {i : Nat} (h : i < xs.length) : sumN (lenB xs) (i + 1) = sumN (lenB xs) i + (xs.getD i []).length ∧ sumN (lenB xs) (i + 1) ≤ cntB xs := ⟨rfl, sumN_le h⟩
theorem cntB_at {xs : List (List UInt8)} {i : Nat} (h : i ≤ xs.length) : sumN (lenB xs) i ≤ cntB xs := sumN_le h
theorem lenB_same {xs ys : List (List UInt8)} (h : ∀ j, (ys.getD j []).length = (xs.getD j []).length) : lenB ys = lenB xs := funext h
theorem cntB_same {xs ys : List (List UInt8)} (h : ∀ j, (ys.getD j []).length = (xs.getD j []).length) (hl : ys.length = xs.length) : cntB ys = cntB xs := by
  unfold cntB; rw [lenB_same h, hl]
theorem eqI {kd : IntKind} {a b : Int} (h : a = b) : some (Value.int kd a) = some (Value.int kd b) := by rw [h]
theorem getD_set {α : Type} {d y : α} {xs : List α} {k j : Nat} : (xs.set k y).getD j d = if j = k ∧ k < xs.length then y else xs.getD j d := by
  simp only [List.getD, List.getElem?_set]
  by_cases h1 : k = j
  · subst h1
    by_cases h2 : k < xs.length
    · simp [h2]
    · simp [h2]
  · rw [if_neg h1, if_neg (fun e => h1 e.1.symm)]
end Go.Wk
