/-
  What a value in memory stands for; what a call may have changed. No program is named here.
-/
import Derived.Test.YtceeelcijjkefaaGreatWkB
set_option linter.unusedVariables false
set_option linter.unusedSimpArgs false
namespace Go.Wk
/-! ### What may have changed -/
structure Ext (M : Nat → Prop) (w w' : World) : Prop where
  os : w'.os = w.os
  tape : w'.tape = w.tape
  output : w'.output = w.output
  size : w.heap.size ≤ w'.heap.size
  block : ∀ b, b < w.heap.size → ¬ M b → w'.heap[b]? = w.heap[b]?
def No : Nat → Prop := fun _ => False
theorem Ext.refl {M w} : Ext M w w := ⟨rfl, rfl, rfl, Nat.le_refl _, fun _ _ _ => rfl⟩
theorem Ext.drawn {M w w'} (h : Ext M w w') (k : Nat) : Ext M w { w' with drawn := k } := ⟨h.os, h.tape, h.output, h.size, h.block⟩
theorem Ext.trans {M w w1 w2} (h : Ext M w w1) (k : Ext M w1 w2) : Ext M w w2 :=
  ⟨k.os.trans h.os, k.tape.trans h.tape, k.output.trans h.output, Nat.le_trans h.size k.size, fun b hb hm => (k.block b (Nat.lt_of_lt_of_le hb h.size) hm).trans (h.block b hb hm)⟩
theorem Ext.mono {M M' : Nat → Prop} {w w'} (h : Ext M w w') (hm : ∀ b, b < w.heap.size → M b → M' b) : Ext M' w w' := ⟨h.os, h.tape, h.output, h.size, fun b hb hn => h.block b hb fun h' => hn (hm b hb h')⟩
theorem Ext.no {M w w'} (h : Ext No w w') : Ext M w w' := h.mono fun _ _ h => h.elim
/-- What is changed in a second step is new or may be changed. -/
theorem Ext.step {M M' : Nat → Prop} {w w1 w2} (h : Ext M w w1) (k : Ext M' w1 w2) (hm : ∀ b, M' b → M b ∨ w.heap.size ≤ b) : Ext M w w2 :=
  ⟨k.os.trans h.os, k.tape.trans h.tape, k.output.trans h.output, Nat.le_trans h.size k.size, fun b hb hn =>
    (k.block b (Nat.lt_of_lt_of_le hb h.size) fun h' => by rcases hm b h' with h' | h'; exact hn h'; omega).trans (h.block b hb hn)⟩
theorem Ext.alloc {M w w'} (h : Ext M w w') (o : Obj) : Ext M w (w'.alloc o) :=
  h.trans ⟨rfl, rfl, rfl, by simp, fun _ hk _ => heap_alloc_old w' o hk⟩
theorem Ext.put {M w w' b o} (h : Ext M w w') (hb : M b ∨ w.heap.size ≤ b) : Ext M w (put w' b o) :=
  h.step (M' := (· = b)) ⟨rfl, rfl, rfl, by simp [Wk.put], fun k _ hm => by
    simp only [Wk.put]; rw [Array.getElem?_setIfInBounds_ne (fun e => hm e.symm)]⟩ (fun k hk => by subst hk; exact hb)
theorem Ext.heap {w w' : World} (h : Ext No w w') {b : Nat} {o : Obj} (hb : w.heap[b]? = some o) : w'.heap[b]? = some o :=
  (h.block b (Array.getElem?_eq_some_iff.1 hb).1 (fun h => h)).trans hb
theorem Ext.heapM {M} {w w' : World} (h : Ext M w w') {b : Nat} {o : Obj} (hm : ¬ M b) (hb : w.heap[b]? = some o) : w'.heap[b]? = some o :=
  (h.block b (Array.getElem?_eq_some_iff.1 hb).1 hm).trans hb
theorem Ext.cell {w w' : World} (h : Ext No w w') {ad : Addr} {v : Value} (hc : w.cell? ad = some v) : w'.cell? ad = some v :=
  (World.cell?_of_block (h.block ad.block (World.block_lt_of_cell? w ad hc) (fun h => h))).trans hc
theorem Ext.at {w w' : World} (h : Ext No w w') {b o : Nat} {cs : List Value} (hc : At w b o cs) : At w' b o cs := fun j v hj => h.cell (hc j v hj)
/-! ### Data in memory -/
class Rp (α : Type) where
  sz : Nat
  pos : 0 < sz
  own : Bool → World → List Value → α → List Nat → Prop
  len : ∀ {s w cs x fp}, own s w cs x fp → cs.length = sz
  one : ∀ {s w cs x fp}, own s w cs x fp → ∀ v ∈ cs, v.oneCell' = true
  st : ∀ {s w w' cs x fp}, own s w cs x fp → (∀ b ∈ fp, w'.heap[b]? = w.heap[b]?) → own s w' cs x fp
  lt : ∀ {s w cs x fp}, own s w cs x fp → ∀ b ∈ fp, b < w.heap.size
  weak : ∀ {w cs x fp}, own true w cs x fp → own false w cs x fp
open Rp (sz own)
def I64ok (x : Int) : Prop := -9223372036854775808 ≤ x ∧ x ≤ 9223372036854775807
instance : Rp Int where
  sz := 1
  pos := by decide
  own _ _ cs x fp := cs = [.int .i64 x] ∧ fp = [] ∧ I64ok x
  len h := by rw [h.1]; rfl
  one h v hv := by rw [h.1] at hv; simp at hv; subst hv; rfl
  st h _ := h
  lt h b hb := by rw [h.2.1] at hb; simp at hb
  weak h := h
instance : Rp UInt8 where
  sz := 1
  pos := by decide
  own _ _ cs x fp := cs = [.int .u8 x.toNat] ∧ fp = []
  len h := by rw [h.1]; rfl
  one h v hv := by rw [h.1] at hv; simp at hv; subst hv; rfl
  st h _ := h
  lt h b hb := by rw [h.2] at hb; simp at hb
  weak h := h
instance : Rp Bool where
  sz := 1
  pos := by decide
  own _ _ cs x fp := cs = [.bool x] ∧ fp = []
  len h := by rw [h.1]; rfl
  one h v hv := by rw [h.1] at hv; simp at hv; subst hv; rfl
  st h _ := h
  lt h b hb := by rw [h.2] at hb; simp at hb
  weak h := h
/-- A string: its bytes. -/
structure Str where
  b : ByteArray
instance : Rp Str where
  sz := 1
  pos := by decide
  own _ _ cs x fp := cs = [.string x.b] ∧ fp = [] ∧ x.b.size ≤ maxLen
  len h := by rw [h.1]; rfl
  one h v hv := by rw [h.1] at hv; simp at hv; subst hv; rfl
  st h _ := h
  lt h b hb := by rw [h.2.1] at hb; simp at hb
  weak h := h
/-- Elements, one behind the other. -/
def ownL {α : Type} [Rp α] (s : Bool) (w : World) : List Value → List α → List Nat → Prop
  | _, [], fp => fp = []
  | cs, x :: xs, fp => ∃ f1 f2, fp = f1 ++ f2 ∧ own s w (cs.take (sz α)) x f1 ∧ ownL s w (cs.drop (sz α)) xs f2
section
variable {α : Type} [Rp α]
theorem ownL.st {s w w'} : ∀ {xs : List α} {cs fp}, ownL s w cs xs fp → (∀ b ∈ fp, w'.heap[b]? = w.heap[b]?) → ownL s w' cs xs fp
  | [], _, _, h, _ => h
  | x :: xs, cs, fp, ⟨f1, f2, e, h1, h2⟩, hb => by
    subst e
    exact ⟨f1, f2, rfl, Rp.st h1 fun b hb' => hb b (by simp [hb']), ownL.st h2 fun b hb' => hb b (by simp [hb'])⟩
theorem ownL.lt {s w} : ∀ {xs : List α} {cs fp}, ownL s w cs xs fp → ∀ b ∈ fp, b < w.heap.size
  | [], _, _, h, b, hb => by rw [show _ = _ from h] at hb; simp at hb
  | x :: xs, cs, fp, ⟨f1, f2, e, h1, h2⟩, b, hb => by
    subst e
    rcases List.mem_append.1 hb with hb | hb
    · exact Rp.lt h1 b hb
    · exact ownL.lt h2 b hb
theorem ownL.weak {w} : ∀ {xs : List α} {cs fp}, ownL true w cs xs fp → ownL false w cs xs fp
  | [], _, _, h => h
  | _ :: _, _, _, ⟨f1, f2, e, h1, h2⟩ => ⟨f1, f2, e, Rp.weak h1, ownL.weak h2⟩
theorem ownL.cells {s w} : ∀ {xs : List α} {cs fp}, ownL s w cs xs fp → xs.length * sz α ≤ cs.length
  | [], _, _, _ => by simp
  | _ :: _, _, _, ⟨_, _, _, h1, h2⟩ => by
    have := ownL.cells h2
    have h3 := Rp.len h1
    simp only [List.length_take, List.length_drop, List.length_cons] at *
    rw [Nat.add_mul]
    omega
theorem ownL.get {s w} : ∀ {xs : List α} {cs fp}, ownL s w cs xs fp → ∀ k (h : k < xs.length), ∃ f, own s w ((cs.drop (k * sz α)).take (sz α)) xs[k] f ∧ (∀ b ∈ f, b ∈ fp)
  | [], _, _, _, k, h => by simp at h
  | x :: xs, cs, fp, ⟨f1, f2, e, h1, h2⟩, 0, _ => ⟨f1, by simpa using h1, fun b hb => by subst e; simp [hb]⟩
  | x :: xs, cs, fp, ⟨f1, f2, e, h1, h2⟩, k + 1, h => by
    obtain ⟨f, hf, hs⟩ := ownL.get h2 k (by simpa using h)
    refine ⟨f, ?_, fun b hb => by subst e; simp [hs b hb]⟩
    rw [List.drop_drop] at hf
    rw [Nat.add_mul, Nat.one_mul, Nat.add_comm]
    simpa using hf
/-- The cells behind the elements do not count. -/
theorem ownL.congr {s w} : ∀ {xs : List α} {cs cs' fp}, ownL s w cs xs fp → cs'.take (xs.length * sz α) = cs.take (xs.length * sz α) → ownL s w cs' xs fp
  | [], _, _, _, h, _ => h
  | x :: xs, cs, cs', fp, ⟨f1, f2, e, h1, h2⟩, hc => by
    have hle : sz α ≤ (x :: xs).length * sz α := by rw [List.length_cons, Nat.add_mul]; omega
    have ht : cs'.take (sz α) = cs.take (sz α) := by
      have := congrArg (List.take (sz α)) hc
      rwa [List.take_take, List.take_take, Nat.min_eq_left hle] at this
    refine ⟨f1, f2, e, by rw [ht]; exact h1, ownL.congr h2 ?_⟩
    have := congrArg (List.drop (sz α)) hc
    rw [List.drop_take, List.drop_take] at this
    rwa [show (x :: xs).length * sz α - sz α = xs.length * sz α from by rw [List.length_cons, Nat.add_mul]; omega] at this
theorem ownL.snoc {s w} : ∀ {xs : List α} {cs fp f x c}, ownL s w cs xs fp → cs.length = xs.length * sz α → own s w c x f → ownL s w (cs ++ c) (xs ++ [x]) (fp ++ f)
  | [], cs, fp, f, x, c, h, hl, hx => by
    have : cs = [] := List.eq_nil_of_length_eq_zero (by simpa using hl)
    subst this
    have hfp : fp = [] := h
    subst hfp
    have hlen := Rp.len hx
    refine ⟨f, [], by simp, ?_, rfl⟩
    rw [List.nil_append, ← hlen, List.take_length]
    exact hx
  | y :: xs, cs, fp, f, x, c, ⟨f1, f2, e, h1, h2⟩, hl, hx => by
    have hle : sz α ≤ cs.length := by rw [hl, List.length_cons, Nat.add_mul]; omega
    subst e
    refine ⟨f1, f2 ++ f, by simp, ?_, ?_⟩
    · rw [List.take_append_of_le_length hle]; exact h1
    · rw [List.drop_append_of_le_length hle]
      exact ownL.snoc h2 (by rw [List.length_drop, hl, List.length_cons, Nat.add_mul]; omega) hx
/-- A slice's cell stands for these elements. -/
def ownS (s : Bool) (w : World) (cs : List Value) (xs : List α) (fp : List Nat) : Prop :=
  (s = false ∧ ∃ ad cap, cs = [.slice ad 0 cap] ∧ xs = [] ∧ fp = []) ∨ (cs = [.slice none 0 0] ∧ xs = [] ∧ fp = []) ∨
  ∃ b o cap cur T fr fs, cs = [.slice (some ⟨b, o, none⟩) xs.length cap] ∧ fp = b :: fs ∧ w.heap[b]? = some (.cells cur T fr) ∧ (s = true → fr = (0, 0)) ∧
    xs.length ≤ cap ∧ cap ≤ maxLen ∧ o + cap * sz α ≤ cur.size ∧ ownL s w (cur.toList.drop o) xs fs
instance : Rp (List α) where
  sz := 1
  pos := by decide
  own s w cs xs fp := ownS s w cs xs fp
  len h := by rcases h with ⟨_, _, _, rfl, _⟩ | ⟨rfl, _⟩ | ⟨_, _, _, _, _, _, _, rfl, _⟩ <;> rfl
  one h v hv := by rcases h with ⟨_, _, _, rfl, _⟩ | ⟨rfl, _⟩ | ⟨_, _, _, _, _, _, _, rfl, _⟩ <;> simp at hv <;> subst hv <;> rfl
  st h hb := by
    rcases h with h | h | ⟨b, o, cap, cur, T, fr, fs, h1, h2, h3, h4, h5, h6, h7, h8⟩
    · exact .inl h
    · exact .inr (.inl h)
    · subst h2
      exact .inr (.inr ⟨b, o, cap, cur, T, fr, fs, h1, rfl, (hb b (by simp)).trans h3, h4, h5, h6, h7, h8.st fun x hx => hb x (by simp [hx])⟩)
  lt h b' hb' := by
    rcases h with ⟨_, _, _, _, _, rfl⟩ | ⟨_, _, rfl⟩ | ⟨b, o, cap, cur, T, fr, fs, h1, h2, h3, h4, h5, h6, h7, h8⟩
    · simp at hb'
    · simp at hb'
    · subst h2
      rcases List.mem_cons.1 hb' with rfl | hb'
      · exact (Array.getElem?_eq_some_iff.1 h3).1
      · exact h8.lt _ hb'
  weak h := by
    rcases h with ⟨h, _⟩ | h | ⟨b, o, cap, cur, T, fr, fs, h1, h2, h3, h4, h5, h6, h7, h8⟩
    · cases h
    · exact .inr (.inl h)
    · exact .inr (.inr ⟨b, o, cap, cur, T, fr, fs, h1, h2, h3, (fun h => by cases h), h5, h6, h7, h8.weak⟩)
theorem own_slice {s w cs} {xs : List α} {fp} (h : own s w cs xs fp) : ∃ ad cap, cs = [.slice ad xs.length cap] := by
  rcases h with ⟨_, ad, cap, rfl, rfl, _⟩ | ⟨rfl, rfl, _⟩ | ⟨b, o, cap, _, _, _, _, rfl, _⟩
  · exact ⟨_, _, rfl⟩
  · exact ⟨_, _, rfl⟩
  · exact ⟨_, _, rfl⟩
/-- An element of a slice that may only be read. -/
theorem own_elem {s w ad n cap} {xs : List α} {fp} (h : own s w [.slice ad n cap] xs fp) (k : Nat) (hk : k < xs.length) :
    ∃ b o cs f, ad = some ⟨b, o, none⟩ ∧ At w b (o + k * sz α) cs ∧ own s w cs xs[k] f ∧ (∀ b ∈ f, b ∈ fp) ∧ b ∈ fp := by
  rcases h with ⟨_, _, _, _, rfl, _⟩ | ⟨_, rfl, _⟩ | ⟨b, o, cap', cur, T, fr, fs, h1, h2, h3, h4, h5, h6, h7, h8⟩
  · simp at hk
  · simp at hk
  · simp only [List.cons.injEq, Value.slice.injEq, and_true] at h1
    obtain ⟨h1, _, _⟩ := h1
    subst h1; subst h2
    obtain ⟨f, hf, hs⟩ := h8.get k hk
    refine ⟨b, o, _, f, rfl, ?_, hf, fun b hb => by simp [hs b hb], by simp⟩
    refine At.part h3 fun j v hj => ?_
    rw [List.getElem?_take] at hj
    split at hj
    · rw [List.getElem?_drop, List.getElem?_drop] at hj
      rw [← hj, Nat.add_assoc]
      simp
    · cases hj
theorem own_len_le {s w ad n cap} {xs : List α} {fp} (h : own s w [.slice ad n cap] xs fp) : xs.length ≤ maxLen := by
  rcases h with ⟨_, _, _, _, rfl, _⟩ | ⟨_, rfl, _⟩ | ⟨b, o, cap', cur, T, fr, fs, h1, h2, h3, h4, h5, h6, h7, h8⟩
  · simp
  · simp
  · omega
end
/-! Two types whose cell tells all. -/
theorem own_u8 {s w cs} {x : UInt8} {fp} (h : own s w cs x fp) : cs = [.int .u8 x.toNat] ∧ fp = [] := h
theorem own_int {s w cs} {x : Int} {fp} (h : own s w cs x fp) : cs = [.int .i64 x] ∧ fp = [] ∧ I64ok x := h
theorem elem_u8 {s w ad n cap} {xs : List UInt8} {fp} (h : own s w [.slice ad n cap] xs fp) (k : Nat) (hk : k < xs.length) :
    ∃ b o, ad = some ⟨b, o, none⟩ ∧ w.cell? ⟨b, o + k * 1, none⟩ = some (.int .u8 (xs.getD k 0).toNat) := by
  obtain ⟨b, o, cs, f, h1, h2, h3, _⟩ := own_elem h k hk
  rw [show xs.getD k 0 = xs[k] from by simp [List.getD, hk]]
  exact ⟨b, o, h1, h2 0 (.int .u8 (xs[k]).toNat) (by rw [h3.1]; rfl)⟩
theorem elem_int {s w ad n cap} {xs : List Int} {fp} (h : own s w [.slice ad n cap] xs fp) (k : Nat) (hk : k < xs.length) :
    ∃ b o, ad = some ⟨b, o, none⟩ ∧ w.cell? ⟨b, o + k * 1, none⟩ = some (.int .i64 (xs.getD k 0)) := by
  obtain ⟨b, o, cs, f, h1, h2, h3, _⟩ := own_elem h k hk
  rw [show xs.getD k 0 = xs[k] from by simp [List.getD, hk]]
  exact ⟨b, o, h1, h2 0 (.int .i64 xs[k]) (by rw [h3.1]; rfl)⟩
section
variable {P : Program} {n : Nat} {L : Env} {w : World} {d : Option Tmp} {ty : TypeId} {p : String} {af : Array Edge} {g : Option (Nat × Bool)}
/-- The address of an element. -/
theorem py_elz {st e : TypeId} {x ix : Operand} {ad : Option Addr} {b o len cap sz : Nat} {kd : IntKind} {z : Int} (hu : P.underlying st = some (.slice e)) (hs : ∀ w, (sizeOf e).run P w = .ok sz w)
    (hx : evL L x = some (.slice ad len cap)) (hi : evL L ix = some (.int kd z)) (had : ad = some ⟨b, o, none⟩) (k : Nat) (hz : z = k) (hk : k < len) :
    Py P n L w ⟨d, .indexAddr st x ix, ty, p, af, g⟩ (.pointer (some ⟨b, o + k * sz, none⟩)) := by
  subst had; subst hz; exact py_idx hu hs hx hi hk
theorem py_el {st e : TypeId} {x ix : Operand} {ad : Option Addr} {b o len cap k sz : Nat} {kd : IntKind} (hu : P.underlying st = some (.slice e)) (hs : ∀ w, (sizeOf e).run P w = .ok sz w)
    (hx : evL L x = some (.slice ad len cap)) (hi : evL L ix = some (.int kd k)) (had : ad = some ⟨b, o, none⟩) (hk : k < len) :
    Py P n L w ⟨d, .indexAddr st x ix, ty, p, af, g⟩ (.pointer (some ⟨b, o + k * sz, none⟩)) := by
  subst had; exact py_idx hu hs hx hi hk
end
end Go.Wk
