/-
  What may only be read, by name; marks. No program is named here.
-/
import Derived.Test.YtceeelcijjkefaaGreatWkJ
set_option linter.unusedVariables false
set_option linter.unusedSimpArgs false
namespace Go.Wk
open Rp (sz own)
def Sees {α : Type} [Rp α] (w : World) (cs : List Value) (x : α) : Prop := ∃ f, own false w cs x f
theorem own_weak {α : Type} [Rp α] {s w cs} {x : α} {f} (h : own s w cs x f) : own false w cs x f := by
  cases s
  · exact h
  · exact Rp.weak h
theorem Sees.to {α : Type} [Rp α] {w w' : World} {cs} {x : α} (h : Sees w cs x) (e : Ext No w w') : Sees w' cs x := by
  obtain ⟨f, h⟩ := h
  exact ⟨f, Rp.st h fun b hb => e.block b (Rp.lt h b hb) id⟩
section
variable {M : Nat → Prop} {w0 w w' : World} {Δ F G : List Rsc} {α : Type} [Rp α]
theorem Sep.sees (h : Sep M w0 Δ F w) (i : Nat) {s cs fp} {x : α} (hi : F[i]? = some (Wk.seen s cs x fp)) : Sees w cs x := ⟨fp, own_weak (h.seen i hi)⟩
theorem Sep.msees (h : Sep M w0 Δ F w) (i : Nat) {cs fp} {x : α} (hi : Δ[i]? = some (Wk.mine cs x fp)) : Sees w cs x := ⟨fp, Rp.weak (h.mine i hi)⟩
theorem Sep.look {r : Rsc} (h : Sep M w0 Δ F w) (hr : r.φ w) (hd : ∀ b ∈ r.fp, b ∉ blocks Δ) : Sep M w0 Δ (F ++ [r]) w :=
  ⟨h.ext, h.rs, h.nd, h.new, fun p hp => by
    rcases List.mem_append.1 hp with hp | hp
    · exact h.fs p hp
    · simp at hp; subst hp; exact hr, fun p hp => by
    rcases List.mem_append.1 hp with hp | hp
    · exact h.ap p hp
    · simp at hp; subst hp; exact hd⟩
theorem Sep.look1 {β : Type} [Rp β] (h : Sep M w0 Δ F w) (i : Nat) {s cs fp} {x : α} (hi : F[i]? = some (Wk.seen s cs x fp)) {s' cs' f} {y : β} (ho : own s' w cs' y f) (hs : ∀ b ∈ f, b ∈ fp) :
    Sep M w0 Δ (F ++ [Wk.seen s' cs' y f]) w :=
  h.look (r := Wk.seen s' cs' y f) ho fun b hb => h.ap _ (List.mem_of_getElem? hi) b (hs b hb)
theorem Sep.fsub (h : Sep M w0 Δ (F ++ G) w) : Sep M w0 Δ F w :=
  ⟨h.ext, h.rs, h.nd, h.new, fun p hp => h.fs p (by simp [hp]), fun p hp => h.ap p (by simp [hp])⟩
theorem Sep.ftake (h : Sep M w0 Δ F w) (n : Nat) : Sep M w0 Δ (F.take n) w :=
  Sep.fsub (G := F.drop n) (by rw [List.take_append_drop]; exact h)
theorem Sep.dtake (h : Sep M w0 Δ F w) (n : Nat) : Sep M w0 (Δ.take n) F w := h.sub (List.take_sublist _ _)
theorem Sep.share (h : Sep M w0 Δ F w) (i : Nat) {cs fp} {x : α} (hi : Δ[i]? = some (Wk.mine cs x fp)) : Sep M w0 (Δ.set i gone) (F ++ [Wk.seen true cs x fp]) w := by
  have hm := List.mem_of_getElem? hi
  have hnm := not_mem_set hi h.nd
  have h' : Sep M w0 (Δ.set i gone) F w := by
    refine ⟨h.ext, fun p hp => ?_, nodup_set hi h.nd (by simp [gone]) (by simp [gone]), fun b hb => ?_, h.fs, fun p hp b hb hx => ?_⟩
    · rcases set_other hi h.nd p hp with rfl | ⟨hp, _⟩
      · trivial
      · exact h.rs p hp
    · rcases blocks_set hi b hb with hb | hb
      · simp [gone] at hb
      · exact h.new b hb
    · rcases blocks_set hi b hx with hx | hx
      · simp [gone] at hx
      · exact h.ap p hp b hb hx
  exact h'.look (r := Wk.seen true cs x fp) (h.mine i hi) hnm
end
theorem elem_sl {β : Type} [Rp β] {s w ad n cap} {xs : List (List β)} {fp} (h : own s w [.slice ad n cap] xs fp) (k : Nat) (hk : k < xs.length) :
    ∃ b o a c f, ad = some ⟨b, o, none⟩ ∧ w.cell? ⟨b, o + k * 1, none⟩ = some (.slice a (xs.getD k []).length c) ∧ own s w [.slice a (xs.getD k []).length c] (xs.getD k []) f ∧ ∀ b ∈ f, b ∈ fp := by
  obtain ⟨b, o, cs, f, h1, h2, h3, h4, _⟩ := own_elem h k hk
  rw [show xs.getD k [] = xs[k] from by simp [List.getD, hk]]
  obtain ⟨a, c, rfl⟩ := own_slice h3
  exact ⟨b, o, a, c, f, h1, h2 0 _ rfl, h3, h4⟩
theorem elem_i64 {s w ad n cap} {xs : List Int} {fp} (h : own s w [.slice ad n cap] xs fp) (k : Nat) (hk : k < xs.length) : I64ok (xs.getD k 0) := by
  obtain ⟨b, o, cs, f, _, _, h3, _⟩ := own_elem h k hk
  rw [show xs.getD k 0 = xs[k] from by simp [List.getD, hk]]
  exact (own_int h3).2.2
theorem sees_len {α : Type} [Rp α] {w ad n cap} {xs : List α} (h : Sees w [.slice ad n cap] xs) : xs.length ≤ maxLen := by
  obtain ⟨f, h⟩ := h
  exact own_len_le h
theorem sees_slice {α : Type} [Rp α] {w cs} {xs : List α} (h : Sees w cs xs) : ∃ ad cap, cs = [.slice ad xs.length cap] := by
  obtain ⟨f, h⟩ := h
  exact own_slice h
theorem sees_fst {α β : Type} [Rp α] [Rp β] {w cs} {x : α × β} (h : Sees w cs x) : Sees w (cs.take (sz α)) x.1 := by
  obtain ⟨f, f1, f2, _, h1, _⟩ := h
  exact ⟨f1, h1⟩
theorem sees_snd {α β : Type} [Rp α] [Rp β] {w cs} {x : α × β} (h : Sees w cs x) : Sees w (cs.drop (sz α)) x.2 := by
  obtain ⟨f, f1, f2, _, _, h2⟩ := h
  exact ⟨f2, h2⟩
/-- What x holds (number j) is laid as an element of number i. -/
theorem Sep.elset2 {α : Type} [Rp α] {M : Nat → Prop} {w0 w : World} {Δ F : List Rsc} (h : Sep M w0 Δ F w) (i j : Nat) {ad n cap} {xs : List α} {fp : List Nat} (hi : Δ[i]? = some (Wk.mine [.slice ad n cap] xs fp))
    {vs : List Value} {x : α} {fx : List Nat} (hj : Δ[j]? = some (Wk.mine vs x fx)) (hij : Nat.beq j i = false) (k : Nat) (hk : k < xs.length) :
    ∃ b o cur T fp', ad = some ⟨b, o, none⟩ ∧ w.heap[b]? = some (.cells cur T (0, 0)) ∧ o + k * sz α + sz α ≤ cur.size ∧
      Sep M w0 ((Δ.set j gone).set i (Wk.mine [.slice ad n cap] (xs.set k x) fp')) F (Wk.put w b (.cells (lay cur (o + k * sz α) vs) T (0, 0))) := by
  have hnd := h.nodup1 hi
  have hvs := h.mine j hj
  have hap := h.apart hi hj hij
  have hndx := h.nodup1 hj
  obtain ⟨b, o, cur, T, f1, fk, f2, e1, e2, hb, hsz, hx, hback⟩ := own_zoom (h.mine i hi) k hk
  refine ⟨b, o, cur, T, b :: (f1 ++ (fx ++ f2)), e1, hb, hsz, ?_⟩
  have hl := Rp.len hvs
  have hltx := Rp.lt hvs
  change fp.Nodup at hnd
  change fx.Nodup at hndx
  change ∀ b ∈ fx, b ∉ fp at hap
  subst e2
  obtain ⟨n1, n2⟩ := List.nodup_cons.1 hnd
  have hE : Ext (· = b) w (Wk.put w b (.cells (lay cur (o + k * sz α) vs) T (0, 0))) := Ext.refl.put (.inl rfl)
  have hlt := Rp.lt (h.mine i hi)
  have hk1 : (k + 1) * sz α = k * sz α + sz α := by rw [Nat.add_mul, Nat.one_mul]
  refine h.set2 hi hj hij (q := Wk.mine [.slice ad n cap] (xs.set k x) (b :: (f1 ++ (fx ++ f2)))) (hE.mono fun b' _ e => by subst e; simp [Wk.mine]) ?_ ?_ ?_
  · refine hback _ _ x fx (put_heap hb) (lay_size _ _ _) (fun j hj => lay_get _ _ _ _ (by rcases hj with hj | hj; exact .inl hj; exact .inr (by rw [hl, Nat.add_assoc, ← hk1]; exact hj))) (fun b' hb' => hE.block b' (hlt b' (by simp [hb'])) fun e => ?_) (fun b' hb' => hE.block b' (hlt b' (by simp [hb'])) fun e => ?_) ?_
    · subst e; exact n1 (by simp [hb'])
    · subst e; exact n1 (by simp [hb'])
    · have hst : own true (Wk.put w b (.cells (lay cur (o + k * sz α) vs) T (0, 0))) vs x fx := Rp.st hvs fun b' hb' => hE.block b' (hltx b' hb') fun e => by subst e; exact hap b' hb' (by simp)
      have hpt := lay_part vs cur (o + k * sz α) (by rw [hl]; omega)
      rw [hl] at hpt
      rw [hpt]
      exact hst
  · change (b :: (f1 ++ (fx ++ f2))).Nodup
    rw [List.nodup_append, List.nodup_append] at n2
    obtain ⟨d1, ⟨d2, d3, d4⟩, d5⟩ := n2
    refine List.nodup_cons.2 ⟨fun hm => ?_, List.nodup_append.2 ⟨d1, List.nodup_append.2 ⟨hndx, d3, fun p hp q hq e => ?_⟩, fun p hp q hq e => ?_⟩⟩
    · simp only [List.mem_append, not_or] at hm n1
      rcases hm with hm | hm | hm
      · exact n1.1 hm
      · exact hap b hm (by simp)
      · exact n1.2.2 hm
    · subst e; exact hap p hp (by simp [hq])
    · subst e
      rcases List.mem_append.1 hq with hq | hq
      · exact hap p hq (by simp [hp])
      · exact d5 p hp p (by simp [hq]) rfl
  · intro b' hb'
    change b' ∈ b :: (f1 ++ (fx ++ f2)) at hb'
    change b' ∈ b :: (f1 ++ (fk ++ f2)) ∨ b' ∈ fx ∨ _
    simp only [List.mem_cons, List.mem_append] at hb' ⊢
    rcases hb' with h | h | h | h
    · exact .inl (.inl h)
    · exact .inl (.inr (.inl h))
    · exact .inr (.inl h)
    · exact .inl (.inr (.inr (.inr h)))
section
variable {P : Program} {n : Nat} {ops : Array Oper} {Q : Post} {rest : List Oper} {L : Env} {ty : TypeId} {p : String} {af : Array Edge} {g : Option (Nat × Bool)}
variable {M : Nat → Prop} {w0 w : World} {Δ F : List Rsc} {α : Type} [Rp α]
/-- 'xs[k] = x', x with memory of its own. -/
theorem s_elst2 {t : TypeId} {x y : Operand} {b off : Nat} {v : Value} {ad : Option Addr} {len cap : Nat} {xs : List α} {fp fu : List Nat} {u : α} (hw : Wn ops n L ⟨none, .store t x y, ty, p, af, g⟩) (hs : ∀ w, (sizeOf t).run P w = .ok (sz α) w) (h1 : sz α = 1)
    (H : Sep M w0 Δ F w) (i j : Nat) (hi : Δ[i]? = some (mine [.slice ad len cap] xs fp)) (hj : Δ[j]? = some (mine [v] u fu)) (hij : Nat.beq j i = false) (q : Nat) (hq : q < xs.length) (hx : evL L x = some (.pointer (some ⟨b, off + q * sz α, none⟩))) (had : ad = some ⟨b, off, none⟩) (hy : evL L y = some v)
    (k : ∀ w' fp', Sep M w0 ((Δ.set j gone).set i (mine [.slice ad len cap] (xs.set q u) fp')) F w' → RL P n ops Q rest L w') :
    RL P n ops Q (⟨none, .store t x y, ty, p, af, g⟩ :: rest) L w := by
  obtain ⟨b', o', cur, T, fp', e1, hb, hsz, hk⟩ := H.elset2 i j hi hj hij q hq
  rw [had] at e1
  simp only [Option.some.injEq, Addr.mk.injEq, and_true] at e1
  obtain ⟨rfl, rfl⟩ := e1
  refine s_do hw rfl (pd_store (by rw [h1] at hs; exact hs) hx hy (Rp.one (H.mine j hj) v (by simp)) hb (by omega)) ?_
  exact k _ fp' hk
end
/-! ### Lists told by their elements -/
theorem getD_ext {α : Type} {d : α} {xs ys : List α} (hl : xs.length = ys.length) (h : ∀ k, k < xs.length → xs.getD k d = ys.getD k d) : xs = ys := by
  apply List.ext_getElem hl
  intro k h1 h2
  have := h k h1
  simpa [List.getD, h1, h2] using this
theorem take_succ_getD {α : Type} {d : α} {xs : List α} {k : Nat} (h : k < xs.length) : xs.take (k + 1) = xs.take k ++ [xs.getD k d] := by
  rw [List.take_succ_eq_append_getElem h]
  simp [List.getD, h]
/-- A copy, half done. -/
def cp {α : Type} (xs : List α) (k : Nat) (d : α) : List α := xs.take k ++ List.replicate (xs.length - k) d
theorem cp_len {α : Type} {xs : List α} {k : Nat} {d : α} (h : k ≤ xs.length) : (cp xs k d).length = xs.length := by
  unfold cp; simp; omega
theorem cp_zero {α : Type} {xs : List α} {d : α} : cp xs 0 d = List.replicate xs.length d := by simp [cp]
theorem cp_all {α : Type} {xs : List α} {d : α} : cp xs xs.length d = xs := by simp [cp]
theorem cp_set {α : Type} {xs : List α} {k : Nat} {d : α} (h : k < xs.length) : (cp xs k d).set k (xs.getD k d) = cp xs (k + 1) d := by
  unfold cp
  rw [take_succ_getD (d := d) h, List.set_append]
  have hl : (xs.take k).length = k := by simp; omega
  rw [if_neg (by omega), hl, Nat.sub_self, show xs.length - k = (xs.length - (k + 1)) + 1 from by omega, List.replicate_succ, List.set_cons_zero]
  simp
theorem own_addr {α : Type} [Rp α] {s w ad n cap} {xs : List α} {fp} (h : own s w [.slice ad n cap] xs fp) (k : Nat) (hk : k < xs.length) : ∃ b o, ad = some ⟨b, o, none⟩ := by
  obtain ⟨b, o, _, _, h1, _⟩ := own_elem h k hk
  exact ⟨b, o, h1⟩
def sumN (f : Nat → Nat) : Nat → Nat
  | 0 => 0
  | k + 1 => sumN f k + f k
theorem sumN_le {f : Nat → Nat} {j : Nat} : ∀ {k : Nat}, j ≤ k → sumN f j ≤ sumN f k
  | 0, h => by
    have : j = 0 := by omega
    subst this; exact Nat.le_refl _
  | k + 1, h => by
    rcases Nat.lt_or_ge k j with h1 | h1
    · have : j = k + 1 := by omega
      subst this; exact Nat.le_refl _
    · have := sumN_le (f := f) h1
      show _ ≤ sumN f k + f k
      omega
theorem sumN_get {f : Nat → Nat} {j k : Nat} (h : j < k) : f j ≤ sumN f k := by
  have := sumN_le (f := f) (Nat.succ_le_of_lt h)
  have e : sumN f (j + 1) = sumN f j + f j := rfl
  have : sumN f (j + 1) ≤ sumN f k := this
  omega
def totB (xs : List (List UInt8)) : Nat := xs.length + sumN (fun i => (xs.getD i []).length) xs.length
theorem totB_get {xs : List (List UInt8)} {m : Nat} (h : totB xs ≤ m) (k : Nat) (hk : k < xs.length) : (xs.getD k []).length ≤ m := by
  have := sumN_get (f := fun i => (xs.getD i []).length) hk
  unfold totB at h
  omega
theorem mem_getD {α : Type} {d x : α} {xs : List α} {k : Nat} (h : k < xs.length) (e : xs.getD k d = x) : x ∈ xs := by
  subst e
  simp [List.getD, h]
theorem not_mem_getD {α : Type} {d x : α} {xs : List α} (h : ∀ k, k < xs.length → xs.getD k d ≠ x) : ¬ x ∈ xs := fun hm => by
  obtain ⟨k, hk, e⟩ := List.getElem_of_mem hm
  exact h k hk (by simp [List.getD, hk, e])
/-- The place of the first, or -1. -/
def idxOf (xs : List Int) (x : Int) : Int := if x ∈ xs then (xs.idxOf x : Nat) else -1
theorem idxOf_no {xs : List Int} {x : Int} (h : ∀ k, k < xs.length → xs.getD k 0 ≠ x) : idxOf xs x = -1 := by
  unfold idxOf; rw [if_neg (not_mem_getD h)]
theorem idxOf_eq {xs : List Int} {x : Int} {k : Nat} (hk : k < xs.length) (e : xs.getD k 0 = x) (h : ∀ i, i < k → xs.getD i 0 ≠ x) : idxOf xs x = k := by
  unfold idxOf
  rw [if_pos (mem_getD hk e)]
  have hm := mem_getD hk e
  have h1 : xs.idxOf x < xs.length := List.idxOf_lt_length_iff.2 hm
  have h2 : xs[xs.idxOf x] = x := List.getElem_idxOf h1
  have h3 : ¬ xs.idxOf x < k := fun hlt => h _ hlt (by simp [List.getD, h1, h2])
  have h4 : ¬ k < xs.idxOf x := fun hlt => by
    have := List.not_of_lt_findIdx (p := (· == x)) (xs := xs) hlt
    simp [List.getD, hk] at e
    simp [e] at this
  omega
theorem idxOf_has {xs : List Int} {x : Int} : decide (0 ≤ idxOf xs x) = decide (x ∈ xs) := by
  unfold idxOf
  by_cases h : x ∈ xs
  · rw [if_pos h]; simp [h]
  · rw [if_neg h]; simp [h]
theorem u8_inj {a b : UInt8} : ((a.toNat : Int) = (b.toNat : Int)) ↔ a = b := by
  constructor
  · intro h
    exact UInt8.toNat_inj.1 (by omega)
  · intro h; rw [h]
end Go.Wk
