/-
  What the call itself has made, block by block, beside what it only reads. No program is named here.
-/
import Derived.Test.YtceeelcijjkefaaGreatWkC
set_option linter.unusedVariables false
set_option linter.unusedSimpArgs false
namespace Go.Wk
open Rp (sz own)
/-- Something in memory that stands in these blocks alone. -/
structure Rsc where
  fp : List Nat
  φ : World → Prop
  st : ∀ {w w' : World}, φ w → (∀ b ∈ fp, w'.heap[b]? = w.heap[b]?) → φ w'
  lt : ∀ {w : World}, φ w → ∀ b ∈ fp, b < w.heap.size
def box (b : Nat) (o : Obj) : Rsc := ⟨[b], fun w => w.heap[b]? = some o, fun h k => (k b (by simp)).trans h, fun h x hx => by
  simp at hx; subst hx; exact (Array.getElem?_eq_some_iff.1 h).1⟩
def mine {α : Type} [Rp α] (cs : List Value) (x : α) (fp : List Nat) : Rsc := ⟨fp, fun w => own true w cs x fp, fun h k => Rp.st h k, fun h => Rp.lt h⟩
def seen {α : Type} [Rp α] (s : Bool) (cs : List Value) (x : α) (fp : List Nat) : Rsc := ⟨fp, fun w => own s w cs x fp, fun h k => Rp.st h k, fun h => Rp.lt h⟩
def blocks : List Rsc → List Nat
  | [] => []
  | r :: Δ => r.fp ++ blocks Δ
theorem mem_blocks {b : Nat} : ∀ {Δ : List Rsc}, b ∈ blocks Δ ↔ ∃ r ∈ Δ, b ∈ r.fp
  | [] => by simp [blocks]
  | r :: Δ => by simp [blocks, mem_blocks (Δ := Δ)]
theorem blocks_append : ∀ (Δ Γ : List Rsc), blocks (Δ ++ Γ) = blocks Δ ++ blocks Γ
  | [], _ => rfl
  | r :: Δ, Γ => by simp [blocks, blocks_append Δ Γ]
/-- Since w0 the call has changed at most the blocks of M; Δ: what it alone holds; F: what it may read. -/
structure Sep (M : Nat → Prop) (w0 : World) (Δ F : List Rsc) (w : World) : Prop where
  ext : Ext M w0 w
  rs : ∀ r ∈ Δ, r.φ w
  nd : (blocks Δ).Nodup
  new : ∀ b ∈ blocks Δ, M b ∨ w0.heap.size ≤ b
  fs : ∀ r ∈ F, r.φ w
  ap : ∀ r ∈ F, ∀ b ∈ r.fp, b ∉ blocks Δ
section
variable {M : Nat → Prop} {w0 w w' : World} {Δ F Γ : List Rsc}
theorem Sep.start {w : World} {F : List Rsc} (hf : ∀ r ∈ F, r.φ w) : Sep No w [] F w :=
  ⟨Ext.refl, by simp, by simp [blocks], by simp [blocks], hf, by simp [blocks]⟩
theorem Sep.lt (h : Sep M w0 Δ F w) : ∀ b ∈ blocks Δ, b < w.heap.size := fun b hb => by
  obtain ⟨r, hr, hb⟩ := mem_blocks.1 hb
  exact r.lt (h.rs r hr) b hb
theorem Sep.r (h : Sep M w0 Δ F w) (i : Nat) {r : Rsc} (hi : Δ[i]? = some r) : r.φ w := h.rs r (List.mem_of_getElem? hi)
theorem Sep.box (h : Sep M w0 Δ F w) (i : Nat) {b o} (hi : Δ[i]? = some (box b o)) : w.heap[b]? = some o := h.r i hi
theorem Sep.mine {α : Type} [Rp α] (h : Sep M w0 Δ F w) (i : Nat) {cs fp} {x : α} (hi : Δ[i]? = some (mine cs x fp)) : own true w cs x fp := h.r i hi
theorem Sep.seen {α : Type} [Rp α] (h : Sep M w0 Δ F w) (i : Nat) {s cs fp} {x : α} (hi : F[i]? = some (seen s cs x fp)) : own s w cs x fp := h.fs _ (List.mem_of_getElem? hi)
/-- A step that touches nothing that is known. -/
theorem Sep.to (h : Sep M w0 Δ F w) (e : Ext No w w') : Sep M w0 Δ F w' :=
  ⟨h.ext.trans e.no, fun r hr => r.st (h.rs r hr) fun b hb => e.block b (r.lt (h.rs r hr) b hb) id, h.nd, h.new,
    fun r hr => r.st (h.fs r hr) fun b hb => e.block b (r.lt (h.fs r hr) b hb) id, h.ap⟩
theorem Sep.drawn (h : Sep M w0 Δ F w) (k : Nat) : Sep M w0 Δ F { w with drawn := k } := h.to (Ext.refl.drawn k)
theorem Sep.pre (h : Sep M w0 (Δ ++ Γ) F w) : Sep M w0 Δ F w := by
  have hn := h.nd
  rw [blocks_append] at hn
  refine ⟨h.ext, fun r hr => h.rs r (by simp [hr]), (List.nodup_append.1 hn).1, fun b hb => h.new b (by rw [blocks_append]; simp [hb]), h.fs, fun r hr b hb hx => h.ap r hr b hb (by rw [blocks_append]; simp [hx])⟩
theorem nodup_sub {Δ Γ : List Rsc} (hs : Γ.Sublist Δ) (h : (blocks Δ).Nodup) : (blocks Γ).Nodup := by
  have : (blocks Γ).Sublist (blocks Δ) := by
    induction hs with
    | slnil => exact .slnil
    | cons r _ ih => exact (ih (by unfold blocks at h; exact (List.nodup_append.1 h).2.1)).trans (List.sublist_append_right _ _)
    | cons_cons r _ ih => exact List.Sublist.append (.refl _) (ih (by unfold blocks at h; exact (List.nodup_append.1 h).2.1))
  exact h.sublist this
theorem Sep.sub (h : Sep M w0 Δ F w) (hs : Γ.Sublist Δ) : Sep M w0 Γ F w := by
  have hm : ∀ b ∈ blocks Γ, b ∈ blocks Δ := fun b hb => by
    obtain ⟨r, hr, hb⟩ := mem_blocks.1 hb
    exact mem_blocks.2 ⟨r, hs.subset hr, hb⟩
  exact ⟨h.ext, fun r hr => h.rs r (hs.subset hr), nodup_sub hs h.nd, fun b hb => h.new b (hm b hb), h.fs, fun r hr b hb hx => h.ap r hr b hb (hm b hx)⟩
/-- Something new is known. -/
theorem Sep.add (h : Sep M w0 Δ F w) (e : Ext No w w') {r : Rsc} (hr : r.φ w') (hn : r.fp.Nodup) (hf : ∀ b ∈ r.fp, w.heap.size ≤ b) : Sep M w0 (Δ ++ [r]) F w' := by
  have h' := h.to e
  have hlt := h.lt
  have hb : blocks (Δ ++ [r]) = blocks Δ ++ r.fp := by rw [blocks_append]; simp [blocks]
  refine ⟨h'.ext, fun q hq => ?_, ?_, fun b hb' => ?_, h'.fs, fun q hq b hb' hx => ?_⟩
  · rcases List.mem_append.1 hq with hq | hq
    · exact h'.rs q hq
    · simp at hq; subst hq; exact hr
  · rw [hb]
    refine List.nodup_append.2 ⟨h.nd, hn, fun x hx y hy e => ?_⟩
    subst e
    have := hlt x hx
    have := hf x hy
    omega
  · rw [hb] at hb'
    rcases List.mem_append.1 hb' with hb' | hb'
    · exact h.new b hb'
    · have := hf b hb'
      have := h.ext.size
      exact .inr (by omega)
  · rw [hb] at hx
    rcases List.mem_append.1 hx with hx | hx
    · exact h.ap q hq b hb' hx
    · have := hf b hx
      have := q.lt (h.fs q hq) b hb'
      omega
theorem Sep.alloc (h : Sep M w0 Δ F w) (o : Obj) : Sep M w0 (Δ ++ [Wk.box w.heap.size o]) F (w.alloc o) :=
  h.add (Ext.refl.alloc o) (r := Wk.box w.heap.size o) (heap_alloc_new w o) (by simp [Wk.box]) (by simp [Wk.box])
theorem blocks_set : ∀ {Δ : List Rsc} {i : Nat} {r q : Rsc}, Δ[i]? = some r → ∀ b, b ∈ blocks (Δ.set i q) → b ∈ q.fp ∨ b ∈ blocks Δ
  | [], i, r, q, h, b, hb => by simp at h
  | p :: Δ, 0, r, q, h, b, hb => by
    simp only [List.set_cons_zero, blocks, List.mem_append] at hb ⊢
    rcases hb with hb | hb
    · exact .inl hb
    · exact .inr (.inr hb)
  | p :: Δ, i + 1, r, q, h, b, hb => by
    simp only [List.set_cons_succ, blocks, List.mem_append] at hb ⊢
    rcases hb with hb | hb
    · exact .inr (.inl hb)
    · rcases blocks_set (by simpa using h) b hb with hb | hb
      · exact .inl hb
      · exact .inr (.inr hb)
theorem nodup_set : ∀ {Δ : List Rsc} {i : Nat} {r q : Rsc}, Δ[i]? = some r → (blocks Δ).Nodup → q.fp.Nodup → (∀ b ∈ q.fp, b ∈ blocks Δ → b ∈ r.fp) → (blocks (Δ.set i q)).Nodup
  | [], i, r, q, h, _, _, _ => by simp at h
  | p :: Δ, 0, r, q, h, hn, hq, hd => by
    simp only [List.getElem?_cons_zero, Option.some.injEq] at h
    subst h
    simp only [List.set_cons_zero, blocks] at hn ⊢
    obtain ⟨h1, h2, h3⟩ := List.nodup_append.1 hn
    refine List.nodup_append.2 ⟨hq, h2, fun x hx y hy e => ?_⟩
    subst e
    exact h3 x (hd x hx (by simp [blocks, hy])) x hy rfl
  | p :: Δ, i + 1, r, q, h, hn, hq, hd => by
    simp only [List.set_cons_succ, blocks] at hn ⊢
    obtain ⟨h1, h2, h3⟩ := List.nodup_append.1 hn
    have hi : Δ[i]? = some r := by simpa using h
    have hr : ∀ b ∈ r.fp, b ∈ blocks Δ := fun b hb => mem_blocks.2 ⟨r, List.mem_of_getElem? hi, hb⟩
    refine List.nodup_append.2 ⟨h1, nodup_set hi h2 hq fun b hb hb' => hd b hb (by simp [blocks, hb']), fun x hx y hy e => ?_⟩
    subst e
    rcases blocks_set hi x hy with hy | hy
    · exact h3 x hx x (hr x (hd x hy (by simp [blocks, hx]))) rfl
    · exact h3 x hx x hy rfl
theorem set_other {Δ : List Rsc} {i : Nat} {r q : Rsc} (hi : Δ[i]? = some r) (hn : (blocks Δ).Nodup) : ∀ p ∈ Δ.set i q, p = q ∨ (p ∈ Δ ∧ ∀ b ∈ p.fp, b ∉ r.fp) := by
  induction Δ generalizing i with
  | nil => simp at hi
  | cons a Δ ih =>
    intro p hp
    unfold blocks at hn
    obtain ⟨h1, h2, h3⟩ := List.nodup_append.1 hn
    cases i with
    | zero =>
      simp at hi; subst hi
      simp only [List.set_cons_zero, List.mem_cons] at hp
      rcases hp with rfl | hp
      · exact .inl rfl
      · exact .inr ⟨by simp [hp], fun b hb hb' => h3 b hb' b (mem_blocks.2 ⟨p, hp, hb⟩) rfl⟩
    | succ i =>
      have hi' : Δ[i]? = some r := by simpa using hi
      simp only [List.set_cons_succ, List.mem_cons] at hp
      rcases hp with rfl | hp
      · exact .inr ⟨by simp, fun b hb hb' => h3 b hb b (mem_blocks.2 ⟨r, List.mem_of_getElem? hi', hb'⟩) rfl⟩
      · rcases ih hi' h2 p hp with rfl | ⟨hp, hb⟩
        · exact .inl rfl
        · exact .inr ⟨by simp [hp], hb⟩
/-- One of the call's own things is changed. -/
theorem Sep.set (h : Sep M w0 Δ F w) {i : Nat} {r q : Rsc} (hi : Δ[i]? = some r) (e : Ext (· ∈ r.fp) w w') (hq : q.φ w') (hn : q.fp.Nodup) (hf : ∀ b ∈ q.fp, b ∈ r.fp ∨ w.heap.size ≤ b) :
    Sep M w0 (Δ.set i q) F w' := by
  have hr : ∀ b ∈ r.fp, b ∈ blocks Δ := fun b hb => mem_blocks.2 ⟨r, List.mem_of_getElem? hi, hb⟩
  have hlt := h.lt
  refine ⟨h.ext.step e fun b hb => h.new b (hr b hb), fun p hp => ?_, nodup_set hi h.nd hn fun b hb hb' => ?_, fun b hb => ?_, fun p hp => ?_, fun p hp b hb hx => ?_⟩
  · rcases set_other hi h.nd p hp with rfl | ⟨hp, hd⟩
    · exact hq
    · exact p.st (h.rs p hp) fun b hb => e.block b (p.lt (h.rs p hp) b hb) (hd b hb)
  · rcases hf b hb with hb | hb
    · exact hb
    · have := hlt b hb'; omega
  · rcases blocks_set hi b hb with hb | hb
    · rcases hf b hb with hb | hb
      · exact h.new b (hr b hb)
      · have := h.ext.size; exact .inr (by omega)
    · exact h.new b hb
  · exact p.st (h.fs p hp) fun b hb => e.block b (p.lt (h.fs p hp) b hb) fun hx => h.ap p hp b hb (hr b hx)
  · rcases blocks_set hi b hx with hx | hx
    · rcases hf b hx with hx | hx
      · exact h.ap p hp b hb (hr b hx)
      · have := p.lt (h.fs p hp) b hb; omega
    · exact h.ap p hp b hb hx
theorem Sep.put (h : Sep M w0 Δ F w) (i : Nat) {b o} (o' : Obj) (hi : Δ[i]? = some (Wk.box b o)) : Sep M w0 (Δ.set i (Wk.box b o')) F (put w b o') :=
  h.set hi (q := Wk.box b o') (Ext.refl.put (M := (· ∈ (Wk.box b o).fp)) (.inl (by simp [Wk.box]))) (put_heap (h.box i hi)) (by simp [Wk.box]) (by simp [Wk.box])
/-- Two of the call's own things become one. -/
theorem Sep.perm (h : Sep M w0 Δ F w) (hp : Δ.Perm Γ) : Sep M w0 Γ F w := by
  have hm : ∀ b, b ∈ blocks Γ → b ∈ blocks Δ := fun b hb => by
    obtain ⟨r, hr, hb⟩ := mem_blocks.1 hb
    exact mem_blocks.2 ⟨r, hp.mem_iff.2 hr, hb⟩
  have hb : (blocks Δ).Perm (blocks Γ) := by
    have : ∀ Δ : List Rsc, blocks Δ = Δ.flatMap (·.fp) := fun Δ => by
      induction Δ with
      | nil => rfl
      | cons r Δ ih => simp [blocks, ih]
    rw [this, this]
    exact hp.flatMap_right _
  exact ⟨h.ext, fun r hr => h.rs r (hp.mem_iff.2 hr), hb.nodup_iff.1 h.nd, fun b hx => h.new b (hm b hx), h.fs, fun r hr b hx hy => h.ap r hr b hx (hm b hy)⟩
end
/-- The results of a call: new, and nobody else's. -/
def Res {α : Type} [Rp α] (w w' : World) (cs : List Value) (x : α) : Prop := ∃ fp, own true w' cs x fp ∧ fp.Nodup ∧ ∀ b ∈ fp, w.heap.size ≤ b
theorem Sep.res {α : Type} [Rp α] {M w0 Δ F} {w w' : World} {cs : List Value} {x : α} (h : Sep M w0 Δ F w) (e : Ext No w w') (hr : Res w w' cs x) : ∃ fp, Sep M w0 (Δ ++ [Wk.mine cs x fp]) F w' := by
  obtain ⟨fp, h1, h2, h3⟩ := hr
  exact ⟨fp, h.add e (r := Wk.mine cs x fp) h1 h2 h3⟩
/-- What is handed back at the end. -/
theorem Sep.out {α : Type} [Rp α] {w0 Δ F} {w : World} {cs : List Value} {x : α} {fp} (h : Sep No w0 Δ F w) (i : Nat) (hi : Δ[i]? = some (Wk.mine cs x fp)) : Res w0 w cs x := by
  have hm := List.mem_of_getElem? hi
  refine ⟨fp, h.mine i hi, ?_, fun b hb => ?_⟩
  · have : [Wk.mine cs x fp].Sublist Δ := List.singleton_sublist.2 hm
    simpa [blocks, Wk.mine] using nodup_sub this h.nd
  · exact (h.new b (mem_blocks.2 ⟨_, hm, hb⟩)).resolve_left id
end Go.Wk
