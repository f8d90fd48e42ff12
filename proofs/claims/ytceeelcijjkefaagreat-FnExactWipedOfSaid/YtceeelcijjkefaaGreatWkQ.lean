/-
  Parts of slices; the append of a whole slice; slices that share their elements' memory. No program is named here.
-/
import Derived.Test.YtceeelcijjkefaaGreatWkP
set_option linter.unusedVariables false
set_option linter.unusedSimpArgs false
namespace Go.Wk
open Rp (sz own)
/-! ### Parts of slices -/
def cut {α : Type} (xs : List α) (l h : Nat) : List α := (xs.drop l).take (h - l)
theorem cut_len {α : Type} {xs : List α} {l h : Nat} (hh : h ≤ xs.length) : (cut xs l h).length = h - l := by
  unfold cut; rw [List.length_take, List.length_drop]; omega
theorem cut_get {α : Type} {xs : List α} {l h i : Nat} {d : α} (hi : i < h - l) : (cut xs l h).getD i d = xs.getD (l + i) d := by
  unfold cut
  simp only [List.getD_eq_getElem?_getD]
  rw [List.getElem?_take, if_pos hi, List.getElem?_drop]
theorem ownL.weak' {α : Type} [Rp α] {s w cs} {xs : List α} {fp} (h : ownL s w cs xs fp) : ownL false w cs xs fp := by
  cases s
  · exact h
  · exact h.weak
theorem ownL.drop {α : Type} [Rp α] {s w} : ∀ (l : Nat) {xs : List α} {cs fp}, ownL s w cs xs fp → ∃ f, ownL s w (cs.drop (l * sz α)) (xs.drop l) f ∧ ∀ b ∈ f, b ∈ fp
  | 0, xs, cs, fp, h => ⟨fp, by simpa using h, fun _ h => h⟩
  | l + 1, [], cs, fp, h => ⟨[], by simp [ownL], by simp⟩
  | l + 1, x :: xs, cs, fp, ⟨f1, f2, e, h1, h2⟩ => by
    obtain ⟨f, hf, hs⟩ := ownL.drop l h2
    refine ⟨f, ?_, fun b hb => by subst e; simp [hs b hb]⟩
    rw [List.drop_drop] at hf
    rw [Nat.add_mul, Nat.one_mul, Nat.add_comm]
    simpa using hf
theorem ownL.take {α : Type} [Rp α] {s w} : ∀ (n : Nat) {xs : List α} {cs fp}, ownL s w cs xs fp → ∃ f, ownL s w cs (xs.take n) f ∧ ∀ b ∈ f, b ∈ fp
  | 0, xs, cs, fp, h => ⟨[], by simp [ownL], by simp⟩
  | n + 1, [], cs, fp, h => ⟨fp, by simpa using h, fun _ h => h⟩
  | n + 1, x :: xs, cs, fp, ⟨f1, f2, e, h1, h2⟩ => by
    obtain ⟨f, hf, hs⟩ := ownL.take n h2
    exact ⟨f1 ++ f, ⟨f1, f, rfl, h1, hf⟩, fun b hb => by subst e; rcases List.mem_append.1 hb with hb | hb; simp [hb]; simp [hs b hb]⟩
def slA (a : Option Addr) (l m s : Nat) : Option Addr := if m = l then a else a.map (·.add (l * s))
theorem own_cut {α : Type} [Rp α] {s w ad n cap} {xs : List α} {fp} (h : own s w [.slice ad n cap] xs fp) (l k m : Nat) (h1 : l ≤ k) (h2 : k ≤ xs.length) (h3 : k ≤ m) (h4 : m ≤ cap) :
    ∃ f, own false w [.slice (slA ad l m (sz α)) (k - l) (m - l)] (cut xs l k) f ∧ ∀ b ∈ f, b ∈ fp := by
  have nil : k - l = 0 → own false w [.slice (slA ad l m (sz α)) (k - l) (m - l)] (cut xs l k) [] := fun e => by
    have e2 : cut xs l k = [] := by unfold cut; rw [e]; simp
    rw [e, e2]
    exact .inl ⟨rfl, _, _, rfl, rfl, rfl⟩
  by_cases e : k - l = 0
  · exact ⟨[], nil e, by simp⟩
  rcases h with ⟨_, _, _, _, rfl, _⟩ | ⟨_, rfl, _⟩ | ⟨b, o, cap', cur, T, fr, fs, g1, g2, g3, g4, g5, g6, g7, g8⟩
  · simp at h2; omega
  · simp at h2; omega
  · simp only [List.cons.injEq, Value.slice.injEq, and_true] at g1
    obtain ⟨rfl, rfl, rfl⟩ := g1
    subst g2
    obtain ⟨f1, k1, s1⟩ := g8.drop l
    obtain ⟨f2, k2, s2⟩ := k1.take (k - l)
    have hl : (cut xs l k).length = k - l := cut_len h2
    refine ⟨b :: f2, .inr (.inr ⟨b, o + l * sz α, m - l, cur, T, fr, f2, ?_, rfl, g3, (fun h => by cases h), by omega, by omega, ?_, ?_⟩), fun x hx => ?_⟩
    · rw [hl, slA, if_neg (by omega)]
      simp [add_lit]
    · have : (l + (m - l)) * sz α ≤ cap * sz α := Nat.mul_le_mul_right _ (by omega)
      rw [Nat.add_mul] at this
      omega
    · rw [List.drop_drop] at k2; exact k2.weak'
    · rcases List.mem_cons.1 hx with rfl | hx
      · simp
      · simp [s1 _ (s2 _ hx)]
section
variable {P : Program} {n : Nat} {L : Env} {w : World} {d : Option Tmp} {ty : TypeId} {p : String} {af : Array Edge} {g : Option (Nat × Bool)}
theorem elem_of {t e : TypeId} (hu : P.underlying t = some (.slice e)) : P.underlying t = some (.slice (P.elem t)) ∧ P.elem t = e := by
  have : P.elem t = e := by simp [Program.elem, hu]
  exact ⟨by rw [this]; exact hu, this⟩
theorem py_slc {t e : TypeId} {x lo hi : Operand} {ad : Option Addr} {len cap s : Nat} {k1 k2 : IntKind} {l h : Int} (hu : P.underlying t = some (.slice e)) (hs : ∀ w, (sizeOf e).run P w = .ok s w)
    (hx : evL L x = some (.slice ad len cap)) (hl : evL L lo = some (.int k1 l)) (hh : evL L hi = some (.int k2 h)) (l' h' : Nat) (el : l = l') (eh : h = h') (h1 : l' ≤ h') (h2 : h' ≤ cap) :
    Py P n L w ⟨d, .slice t x (some lo) (some hi) none, ty, p, af, g⟩ (.slice (slA ad l' cap s) (h' - l') (cap - l')) := fun a ha => by
  obtain ⟨hu', he⟩ := elem_of hu
  have := run_slice_lh (P := P) w t ad len cap hu' k1 k2 l h (by omega) (by omega) (by omega)
  rw [he, hs] at this
  subst el; subst eh
  simp [execOp, ha.eval hx, ha.eval hl, ha.eval hh, run_sliceAt_slice w t _ _ _ _ hu', this, Result.andThen, sliced, slA]
theorem py_slcH {t e : TypeId} {x hi : Operand} {ad : Option Addr} {len cap s : Nat} {k2 : IntKind} {h : Int} (hu : P.underlying t = some (.slice e)) (hs : ∀ w, (sizeOf e).run P w = .ok s w)
    (hx : evL L x = some (.slice ad len cap)) (hh : evL L hi = some (.int k2 h)) (h' : Nat) (eh : h = h') (h2 : h' ≤ cap) :
    Py P n L w ⟨d, .slice t x none (some hi) none, ty, p, af, g⟩ (.slice (slA ad 0 cap s) (h' - 0) (cap - 0)) := fun a ha => by
  obtain ⟨hu', he⟩ := elem_of hu
  have := run_slice_h (P := P) w t ad len cap hu' k2 h (by omega) (by omega)
  rw [he, hs] at this
  subst eh
  simp [execOp, ha.eval hx, ha.eval hh, run_sliceAt_slice w t _ _ _ _ hu', this, Result.andThen, sliced, slA]
theorem py_slcL {t e : TypeId} {x lo : Operand} {ad : Option Addr} {len cap s : Nat} {k1 : IntKind} {l : Int} (hu : P.underlying t = some (.slice e)) (hs : ∀ w, (sizeOf e).run P w = .ok s w)
    (hx : evL L x = some (.slice ad len cap)) (hl : evL L lo = some (.int k1 l)) (l' : Nat) (el : l = l') (h1 : l' ≤ len) :
    Py P n L w ⟨d, .slice t x (some lo) none none, ty, p, af, g⟩ (.slice (slA ad l' cap s) (len - l') (cap - l')) := fun a ha => by
  obtain ⟨hu', he⟩ := elem_of hu
  have := run_slice_l (P := P) w t ad len cap hu' k1 l (by omega) (by omega)
  rw [he, hs] at this
  subst el
  simp [execOp, ha.eval hx, ha.eval hl, run_sliceAt_slice w t _ _ _ _ hu', this, Result.andThen, sliced, slA]
theorem py_slcM {t e : TypeId} {x lo hi mx : Operand} {ad : Option Addr} {len cap s : Nat} {k1 k2 k3 : IntKind} {l h m : Int} (hu : P.underlying t = some (.slice e)) (hs : ∀ w, (sizeOf e).run P w = .ok s w)
    (hx : evL L x = some (.slice ad len cap)) (hl : evL L lo = some (.int k1 l)) (hh : evL L hi = some (.int k2 h)) (hm : evL L mx = some (.int k3 m)) (l' h' m' : Nat) (el : l = l') (eh : h = h') (em : m = m') (h1 : l' ≤ h') (h2 : h' ≤ m') (h3 : m' ≤ cap) :
    Py P n L w ⟨d, .slice t x (some lo) (some hi) (some mx), ty, p, af, g⟩ (.slice (slA ad l' m' s) (h' - l') (m' - l')) := fun a ha => by
  obtain ⟨hu', he⟩ := elem_of hu
  have := run_slice_lhm (P := P) w t ad len cap hu' k1 k2 k3 l h m (by omega) (by omega) (by omega) (by omega)
  rw [he, hs] at this
  subst el; subst eh; subst em
  simp [execOp, ha.eval hx, ha.eval hl, ha.eval hh, ha.eval hm, run_sliceAt_slice w t _ _ _ _ hu', this, Result.andThen, sliced, slA]
end
/-! ### Elements without memory of their own -/
class Flat (α : Type) [Rp α] : Prop where
  flat : ∀ {s w cs f} {x : α}, own s w cs x f → f = [] ∧ ∀ s' w', own s' w' cs x []
instance : Flat UInt8 := ⟨fun h => ⟨h.2, fun _ _ => ⟨h.1, rfl⟩⟩⟩
instance : Flat Int := ⟨fun h => ⟨h.2.1, fun _ _ => ⟨h.1, rfl, h.2.2⟩⟩⟩
instance : Flat Bool := ⟨fun h => ⟨h.2, fun _ _ => ⟨h.1, rfl⟩⟩⟩
instance : Flat Str := ⟨fun h => ⟨h.2.1, fun _ _ => ⟨h.1, rfl, h.2.2⟩⟩⟩
theorem ownL.flat {α : Type} [Rp α] [Flat α] {s w} : ∀ {xs : List α} {cs f}, ownL s w cs xs f → f = [] ∧ ∀ s' w', ownL s' w' cs xs []
  | [], _, _, h => ⟨h, fun _ _ => rfl⟩
  | _ :: _, _, _, ⟨f1, f2, e, h1, h2⟩ => by
    obtain ⟨rfl, k1⟩ := Flat.flat h1
    obtain ⟨rfl, k2⟩ := h2.flat
    exact ⟨e, fun s' w' => ⟨[], [], rfl, k1 s' w', k2 s' w'⟩⟩
/-- A slice's elements, cell by cell. -/
theorem own_all {α : Type} [Rp α] {s w ad n cap} {xs : List α} {fp} (h : own s w [.slice ad n cap] xs fp) (h0 : 0 < xs.length) :
    ∃ b o cs f, ad = some ⟨b, o, none⟩ ∧ At w b o cs ∧ cs.length = xs.length * sz α ∧ ownL s w cs xs f ∧ (∀ x ∈ f, x ∈ fp) ∧ b ∈ fp := by
  rcases h with ⟨_, _, _, _, rfl, _⟩ | ⟨_, rfl, _⟩ | ⟨b, o, cap', cur, T, fr, fs, h1, h2, h3, h4, h5, h6, h7, h8⟩
  · simp at h0
  · simp at h0
  · simp only [List.cons.injEq, Value.slice.injEq, and_true] at h1
    obtain ⟨rfl, _, rfl⟩ := h1
    subst h2
    have hle : xs.length * sz α ≤ cap * sz α := Nat.mul_le_mul_right _ h5
    refine ⟨b, o, (cur.toList.drop o).take (xs.length * sz α), fs, rfl, cells_at h3 _, ?_, h8.congr (by rw [List.take_take, Nat.min_self]), fun x hx => by simp [hx], by simp⟩
    rw [List.length_take, List.length_drop]
    have : cur.toList.length = cur.size := by simp
    omega
theorem ownL.one' {α : Type} [Rp α] {s w} : ∀ {xs : List α} {cs f}, ownL s w cs xs f → cs.length = xs.length * sz α → ∀ v ∈ cs, v.oneCell' = true
  | [], cs, f, _, hl, v, hv => by have : cs = [] := List.eq_nil_of_length_eq_zero (by simpa using hl); subst this; simp at hv
  | x :: xs, cs, f, ⟨f1, f2, e, h1, h2⟩, hl, v, hv => by
    rcases mem_part (sz α) hv with hv | hv
    · exact Rp.one h1 v hv
    · exact h2.one' (by rw [List.length_drop, hl, List.length_cons, Nat.add_mul]; omega) v hv
section
variable {α : Type} [Rp α] {P : Program} {t ty e : TypeId} {z : Value} {bytes : Nat} {w : World}
theorem run_append0 {a a2 : Option Addr} {n c c2 : Nat} (ht : P.underlying t = some (.slice e)) (hT : Ty P e z (sz α) bytes) (hn : n ≤ c) :
    (Builtin.append_ #[t, t] ty #[.slice a n c, .slice a2 0 c2]).run P w = .ok (.slice a n c) w := by
  obtain ⟨i, hi1, hi2, hi3, hi4⟩ := hT.parts
  have hld : ∀ b : Addr, (loadCells b (0 * sz α)).run P w = .ok #[] w := fun b => by simp [loadCells, loadCellsFrom]
  cases a2 with
  | none => cases a <;> simp [Builtin.append_, run_underlying ht, sizeOf, typeInfo, hi1, hi3, Builtin.lenOf, hn, Builtin.firstCells, storeCells]
  | some b => cases a <;> simp [Builtin.append_, run_underlying ht, sizeOf, typeInfo, hi1, hi3, Builtin.lenOf, hn, Builtin.firstCells, loadCells, loadCellsFrom, storeCells]
theorem own_cap {ad n cap} {xs : List α} {fp} (h : own true w [.slice ad n cap] xs fp) : n = xs.length ∧ n ≤ cap := by
  rcases h with ⟨h, _⟩ | ⟨h1, rfl, _⟩ | ⟨b, o, cap', cur, T, fr, fs, h1, h2, h3, h4, h5, h6, h7, h8⟩
  · cases h
  · simp at h1; simp [h1]
  · simp only [List.cons.injEq, Value.slice.injEq, and_true] at h1
    obtain ⟨rfl, rfl, rfl⟩ := h1
    exact ⟨rfl, h5⟩
/-- 'append(out, ys...)', elements without memory of their own. -/
theorem run_appendF [Flat α] (ht : P.underlying t = some (.slice e)) (hT : Ty P e z (sz α) bytes) (hz : z.cells.size = sz α)
    {v : Value} {xs ys : List α} {fp fy : List Nat} (h : own true w [v] xs fp) {s ad n c2} (hy : own s w [.slice ad n c2] ys fy) (n1 : fp.Nodup)
    (h63 : xs.length + ys.length ≤ maxLen) (hb48 : (xs.length + ys.length) * bytes ≤ 140737488355328) :
    ∃ v' w' fp', (Builtin.append_ #[t, t] ty #[v, .slice ad n c2]).run P w = .ok v' w' ∧ own true w' [v'] (xs ++ ys) fp' ∧ Ext (· ∈ fp) w w' ∧
      (∀ b ∈ fp', b ∈ fp ∨ w.heap.size ≤ b) ∧ fp'.Nodup := by
  obtain rfl := own_n hy
  by_cases h0 : 0 < ys.length
  · obtain ⟨b, o, cs, f, rfl, hat, hl, hL, _, _⟩ := own_all hy h0
    obtain ⟨rfl, hL'⟩ := hL.flat
    obtain ⟨v', w', fp', k1, k2, k3, k4, k5⟩ := run_append (ty := ty) (c2 := c2) ht hT hz h hl rfl hat (hL.one' hl) (hL' true w) (by simp) n1 .nil h0 h63 hb48
    exact ⟨v', w', fp', k1, k2, k3, fun b hb => by rcases k4 b hb with h | h | h; exact .inl h; simp at h; exact .inr h, k5⟩
  · obtain rfl : ys = [] := List.eq_nil_of_length_eq_zero (by omega)
    obtain ⟨a0, c0, e0⟩ := own_slice h
    simp only [List.cons.injEq, and_true] at e0
    subst e0
    obtain ⟨_, hc⟩ := own_cap h
    exact ⟨_, _, fp, run_append0 ht hT hc, by simpa using h, Ext.refl, fun b hb => .inl hb, n1⟩
end
section
variable {P : Program} {n : Nat} {ops : Array Oper} {Q : Post} {L : Env} {w w0 : World} {M : Nat → Prop} {Δ F : List Rsc} {d : Tmp} {ty : TypeId} {p : String} {af : Array Edge} {g : Option (Nat × Bool)} {rest : List Oper} {α : Type} [Rp α] [Flat α]
/-- 'append(out, ys...)'. -/
theorem s_appF {x y : Operand} {t e : TypeId} {z : Value} {bytes : Nat} {v : Value} {xs ys : List α} {fp fy : List Nat} {s ad m c2} (hw : Wn ops n L ⟨some d, .call ⟨.builtin .append, #[x, y], #[t, t]⟩, ty, p, af, g⟩) (hn : Nat.blt d n = true)
    (ht : P.underlying t = some (.slice e)) (hT : Ty P e z (sz α) bytes) (hz : z.cells.size = sz α) (hx : evL L x = some v) (hy : evL L y = some (.slice ad m c2))
    (H : Sep M w0 Δ F w) (i : Nat) (hi : Δ[i]? = some (mine [v] xs fp)) (hu : own s w [.slice ad m c2] ys fy) (h63 : xs.length + ys.length ≤ maxLen) (hb48 : (xs.length + ys.length) * bytes ≤ 140737488355328)
    (k : ∀ v' w' fp', Sep M w0 (Δ.set i (mine [v'] (xs ++ ys) fp')) F w' → RL P n ops Q rest ((d, v') :: L) w') :
    RL P n ops Q (⟨some d, .call ⟨.builtin .append, #[x, y], #[t, t]⟩, ty, p, af, g⟩ :: rest) L w := by
  obtain ⟨v', w', fp', h1, h2, h3, h4, h5⟩ := run_appendF (ty := ty) ht hT hz (H.mine i hi) hu (H.nodup1 hi) h63 hb48
  exact s_new hw rfl hn (pn_app hx hy h1) (k _ _ _ (H.set hi (q := Wk.mine [v'] (xs ++ ys) fp') h3 h2 h5 h4))
end
section
variable {P : Program} {n : Nat} {ops : Array Oper} {Q : Post} {S : World → Prop} {L : Env} {w w0 : World} {M : Nat → Prop} {Δ F : List Rsc} {i : Nat} {d : Tmp} {ty : TypeId} {p : String} {af : Array Edge} {g : Option (Nat × Bool)} {rest : List (Nat × Bool)} {α : Type} [Rp α] [Flat α]
theorem d_appF {x y : Operand} {t e : TypeId} {z : Value} {bytes : Nat} {v : Value} {xs ys : List α} {fp fy : List Nat} {s ad m c2} (ho : ops.toList[i]? = some ⟨some d, .call ⟨.builtin .append, #[x, y], #[t, t]⟩, ty, p, af, g⟩) (hw : Wn ops n L ⟨some d, .call ⟨.builtin .append, #[x, y], #[t, t]⟩, ty, p, af, g⟩) (hn : Nat.blt d n = true)
    (ht : P.underlying t = some (.slice e)) (hT : Ty P e z (sz α) bytes) (hz : z.cells.size = sz α) (hx : evL L x = some v) (hy : evL L y = some (.slice ad m c2))
    (H : Sep M w0 Δ F w) (q : Nat) (hi : Δ[q]? = some (mine [v] xs fp)) (hu : own s w [.slice ad m c2] ys fy) (h63 : xs.length + ys.length ≤ maxLen) (hb48 : (xs.length + ys.length) * bytes ≤ 140737488355328)
    (hS : ∀ w', S w → Ext (· ∈ fp) w w' → S w')
    (k : ∀ v' w' fp', Sep M w0 (Δ.set q (mine [v'] (xs ++ ys) fp')) F w' → DL P n ops Q S rest ((d, v') :: L) w') :
    DL P n ops Q S ((i, false) :: rest) L w := by
  obtain ⟨v', w', fp', h1, h2, h3, h4, h5⟩ := run_appendF (ty := ty) ht hT hz (H.mine q hi) hu (H.nodup1 hi) h63 hb48
  exact d_new ho hw rfl hn (pn_app hx hy h1) (fun h _ => hS _ h h3) (k _ _ _ (H.set hi (q := Wk.mine [v'] (xs ++ ys) fp') h3 h2 h5 h4))
end
/-! ### Slices that share their elements' memory -/
/-- A slice's value, as it stands. -/
structure View where
  ad : Option Addr
  len : Nat
  cap : Nat
def View.val (v : View) : Value := .slice v.ad v.len v.cap
instance : Rp View where
  sz := 1
  pos := by decide
  own _ _ cs x fp := cs = [x.val] ∧ fp = []
  len h := by rw [h.1]; rfl
  one h v hv := by rw [h.1] at hv; simp at hv; subst hv; rfl
  st h _ := h
  lt h b hb := by rw [h.2] at hb; simp at hb
  weak h := h
instance : Flat View := ⟨fun h => ⟨h.2, fun _ _ => ⟨h.1, rfl⟩⟩⟩
/-- New memory since w, but not the caller's alone. -/
def ResS {α : Type} [Rp α] (w w' : World) (cs : List Value) (x : α) : Prop := ∃ fp, own false w' cs x fp ∧ ∀ b ∈ fp, w.heap.size ≤ b
theorem Res.weak {α : Type} [Rp α] {w w' cs} {x : α} (h : Res w w' cs x) : ResS w w' cs x := by
  obtain ⟨fp, h1, _, h2⟩ := h
  exact ⟨fp, Rp.weak h1, h2⟩
theorem ownL_views {β : Type} [Rp β] {s w} : ∀ {xss : List (List β)} {cs f}, ownL s w cs xss f → cs.length = xss.length → ∃ vs : List View, cs = vs.map View.val ∧ vs.length = xss.length
  | [], cs, f, _, hl => ⟨[], List.eq_nil_of_length_eq_zero (by simpa using hl), rfl⟩
  | x :: xss, cs, f, ⟨f1, f2, e, h1, h2⟩, hl => by
    obtain ⟨ad, cap, h3⟩ := own_slice h1
    obtain ⟨vs, h4, h5⟩ := ownL_views h2 (by rw [List.length_drop, hl, List.length_cons]; rfl)
    refine ⟨⟨ad, x.length, cap⟩ :: vs, ?_, by simp [h5]⟩
    rw [List.map_cons, ← h4, ← List.take_append_drop (sz (List β)) cs, h3]
    simp [View.val, sz]
theorem views_own {w : World} : ∀ {vs : List View} {s}, ownL s w (vs.map View.val) vs []
  | [], _ => rfl
  | v :: vs, s => ⟨[], [], rfl, ⟨by simp [sz], rfl⟩, by simpa [sz] using views_own (w := w) (vs := vs) (s := s)⟩
theorem ownL_viewsL {w} : ∀ {vs : List View} {s cs f}, ownL s w cs vs f → cs.take vs.length = vs.map View.val
  | [], _, _, _, _ => by simp
  | v :: vs, s, cs, f, ⟨f1, f2, e, h1, h2⟩ => by
    have h3 := ownL_viewsL h2
    have h4 : cs.take 1 = [v.val] := h1.1
    rw [List.length_cons, Nat.add_comm, List.take_add, h4, List.map_cons]
    exact congrArg (v.val :: ·) h3
/-- The elements' own memory, told of the views. -/
def rows {β : Type} [Rp β] (vs : List View) (xss : List (List β)) (g : List Nat) : Rsc := ⟨g, fun w => ownL false w (vs.map View.val) xss g, fun h k => h.st k, fun h => h.lt⟩
theorem own_views {β : Type} [Rp β] {w v} {vs : List View} {xss : List (List β)} {f g s} (h : own s w [v] vs f) (hr : ownL false w (vs.map View.val) xss g) (hl : vs.length = xss.length) : ∃ fp, own false w [v] xss fp ∧ ∀ b ∈ fp, b ∈ f ∨ b ∈ g := by
  rcases h with ⟨_, ad, cap, e1, rfl, rfl⟩ | ⟨e1, rfl, rfl⟩ | ⟨b, o, cap, cur, T, fr, fs, h1, h2, h3, h4, h5, h6, h7, h8⟩
  · obtain rfl : xss = [] := List.eq_nil_of_length_eq_zero (by simpa using hl.symm)
    exact ⟨[], .inl ⟨rfl, _, _, e1, rfl, rfl⟩, by simp⟩
  · obtain rfl : xss = [] := List.eq_nil_of_length_eq_zero (by simpa using hl.symm)
    exact ⟨[], .inr (.inl ⟨e1, rfl, rfl⟩), by simp⟩
  · subst h2
    refine ⟨b :: g, .inr (.inr ⟨b, o, cap, cur, T, fr, g, by rw [h1, hl], rfl, h3, (fun h => by cases h), by omega, h6, h7, ?_⟩), fun x hx => ?_⟩
    · refine hr.congr ?_
      have h9 := ownL_viewsL h8
      have e1 : xss.length * sz (List β) = vs.length := by rw [hl]; exact Nat.mul_one _
      rw [e1, h9, List.take_of_length_le (by simp)]
    · rcases List.mem_cons.1 hx with rfl | hx
      · simp
      · exact .inr hx
/-- Other things to be read. -/
theorem Sep.fto {M w0 Δ F F'} {w : World} (h : Sep M w0 Δ F w) (hf : ∀ r ∈ F', r.φ w ∧ ∀ b ∈ r.fp, b ∉ blocks Δ) : Sep M w0 Δ F' w :=
  ⟨h.ext, h.rs, h.nd, h.new, fun r hr => (hf r hr).1, fun r hr => (hf r hr).2⟩
theorem Sep.freshD {w0 Δ F} {w : World} (h : Sep No w0 Δ F w) (i : Nat) {r : Rsc} (hi : Δ[i]? = some r) : ∀ b ∈ r.fp, w0.heap.size ≤ b := fun b hb =>
  (h.new b (mem_blocks.2 ⟨r, List.mem_of_getElem? hi, hb⟩)).resolve_left id
/-- What a call has made, to be read. -/
theorem Sep.resS {α : Type} [Rp α] {M w0 Δ F} {w w' : World} {cs : List Value} {x : α} (h : Sep M w0 Δ F w) (e : Ext No w w') (hr : ResS w w' cs x) : ∃ fp, Sep M w0 Δ (F ++ [Wk.seen false cs x fp]) w' ∧ ∀ b ∈ fp, w.heap.size ≤ b := by
  obtain ⟨fp, h1, h2⟩ := hr
  exact ⟨fp, (h.to e).look (r := Wk.seen false cs x fp) h1 (fun b hb hb' => by have := h2 b hb; have := h.lt b hb'; omega), h2⟩
theorem own_le_cap {α : Type} [Rp α] {s w ad n cap} {xs : List α} {fp} (h : own s w [.slice ad n cap] xs fp) : xs.length ≤ cap := by
  rcases h with ⟨_, _, _, _, rfl, _⟩ | ⟨_, rfl, _⟩ | ⟨b, o, cap', cur, T, fr, fs, h1, h2, h3, h4, h5, h6, h7, h8⟩
  · exact Nat.zero_le _
  · exact Nat.zero_le _
  · simp only [List.cons.injEq, Value.slice.injEq, and_true] at h1
    obtain ⟨rfl, rfl, rfl⟩ := h1
    exact h5
theorem own_cutL {α : Type} [Rp α] {s w ad n cap} {xs : List α} {fp} (h : own s w [.slice ad n cap] xs fp) (l k m : Nat) (h1 : l ≤ k) (h2 : k ≤ xs.length) (h3 : k ≤ m) (h4 : m ≤ cap) :
    ∃ f, own false w [.slice (slA ad l m (sz α)) (cut xs l k).length (m - l)] (cut xs l k) f ∧ ∀ b ∈ f, b ∈ fp := by
  rw [cut_len h2]; exact own_cut h l k m h1 h2 h3 h4
section
variable {P : Program} {n : Nat} {L : Env} {w : World} {d : Option Tmp} {ty : TypeId} {p : String} {af : Array Edge} {g : Option (Nat × Bool)}
theorem py_slcN {t e : TypeId} {x lo hi : Operand} {ad : Option Addr} {len cap s : Nat} {k1 k2 : IntKind} {l h : Int} {m : Nat} (hu : P.underlying t = some (.slice e)) (hs : ∀ w, (sizeOf e).run P w = .ok s w)
    (hx : evL L x = some (.slice ad len cap)) (hl : evL L lo = some (.int k1 l)) (hh : evL L hi = some (.int k2 h)) (l' h' : Nat) (el : l = l') (eh : h = h') (h1 : l' ≤ h') (h2 : h' ≤ cap) (em : m = h' - l') :
    Py P n L w ⟨d, .slice t x (some lo) (some hi) none, ty, p, af, g⟩ (.slice (slA ad l' cap s) m (cap - l')) := by
  subst em; exact py_slc hu hs hx hl hh l' h' el eh h1 h2
theorem py_slcHN {t e : TypeId} {x hi : Operand} {ad : Option Addr} {len cap s : Nat} {k2 : IntKind} {h : Int} {m : Nat} (hu : P.underlying t = some (.slice e)) (hs : ∀ w, (sizeOf e).run P w = .ok s w)
    (hx : evL L x = some (.slice ad len cap)) (hh : evL L hi = some (.int k2 h)) (h' : Nat) (eh : h = h') (h2 : h' ≤ cap) (em : m = h' - 0) :
    Py P n L w ⟨d, .slice t x none (some hi) none, ty, p, af, g⟩ (.slice (slA ad 0 cap s) m (cap - 0)) := by
  rw [em]; exact py_slcH hu hs hx hh h' eh h2
theorem py_slcLN {t e : TypeId} {x lo : Operand} {ad : Option Addr} {len cap s : Nat} {k1 : IntKind} {l : Int} {m : Nat} (hu : P.underlying t = some (.slice e)) (hs : ∀ w, (sizeOf e).run P w = .ok s w)
    (hx : evL L x = some (.slice ad len cap)) (hl : evL L lo = some (.int k1 l)) (l' : Nat) (el : l = l') (h1 : l' ≤ len) (em : m = len - l') :
    Py P n L w ⟨d, .slice t x (some lo) none none, ty, p, af, g⟩ (.slice (slA ad l' cap s) m (cap - l')) := by
  subst em; exact py_slcL hu hs hx hl l' el h1
end
/-- What is read anew: a slice's copy shares what its elements point to. -/
theorem s_appV {P : Program} {n : Nat} {ops : Array Oper} {Q : Post} {L : Env} {w w0 : World} {M : Nat → Prop} {Δ F : List Rsc} {d : Tmp} {ty : TypeId} {p : String} {af : Array Edge} {g : Option (Nat × Bool)} {rest : List Oper} {β : Type} [Rp β]
    {x y : Operand} {t e : TypeId} {z : Value} {bytes : Nat} {v : Value} {vs : List View} {yss : List (List β)} {fp fy : List Nat} {s ad m c2} (hw : Wn ops n L ⟨some d, .call ⟨.builtin .append, #[x, y], #[t, t]⟩, ty, p, af, g⟩) (hn : Nat.blt d n = true)
    (ht : P.underlying t = some (.slice e)) (hT : Ty P e z 1 bytes) (hz : z.cells.size = 1) (hx : evL L x = some v) (hy : evL L y = some (.slice ad m c2))
    (H : Sep M w0 Δ F w) (i j : Nat) (hi : Δ[i]? = some (mine [v] vs fp)) (hj : F[j]? = some (seen s [.slice ad m c2] yss fy)) (h0 : 0 < yss.length) (h63 : vs.length + yss.length ≤ maxLen) (hb48 : (vs.length + yss.length) * bytes ≤ 140737488355328)
    (k : ∀ v' w' fp' us fg, us.length = yss.length → (∀ b ∈ fg, b ∈ fy) → Sep M w0 (Δ.set i (mine [v'] (vs ++ us) fp')) (F ++ [rows us yss fg]) w' → RL P n ops Q rest ((d, v') :: L) w') :
    RL P n ops Q (⟨some d, .call ⟨.builtin .append, #[x, y], #[t, t]⟩, ty, p, af, g⟩ :: rest) L w := by
  have hu := H.seen j hj
  obtain rfl := own_n hu
  obtain ⟨b, o, cs, f, rfl, hat, hl, hL, hs, hb⟩ := own_all hu h0
  obtain ⟨us, rfl, hlen⟩ := ownL_views hL (by rw [hl]; exact Nat.mul_one _)
  obtain ⟨v', w', fp', k1, k2, k3, k4, k5⟩ := run_append (α := View) (ty := ty) (c2 := c2) (m := yss.length) ht hT hz (H.mine i hi) (news := us.map View.val) (ys := us) (by simp [hlen, sz]) hlen.symm hat (by intro u hu; simp at hu; obtain ⟨a, _, rfl⟩ := hu; rfl) views_own (by simp) (H.nodup1 hi) .nil h0 h63 hb48
  have H' := H.set hi (q := Wk.mine [v'] (vs ++ us) fp') k3 k2 k5 fun b hb => by rcases k4 b hb with h | h | h; exact .inl h; simp at h; exact .inr h
  refine s_new hw rfl hn (pn_app hx hy k1) (k v' w' fp' us f hlen hs ?_)
  refine H'.look (r := rows us yss f) ?_ fun b hb => H'.ap _ (List.mem_of_getElem? hj) b (hs b hb)
  refine (hL.st (w' := w') fun b hb => k3.block b (hL.lt b hb) fun hm => H.ap _ (List.mem_of_getElem? hj) b (hs b hb) (mem_blocks.2 ⟨_, List.mem_of_getElem? hi, hm⟩)).weak'
/-- One row more. -/
theorem rows_snoc {β : Type} [Rp β] {w : World} {us : List View} {yss : List (List β)} {g : List Nat} (h : (rows us yss g).φ w) (hl : us.length = yss.length) {s a c f} {y : List β} (hy : own s w [.slice a y.length c] y f) :
    (rows (us ++ [⟨a, y.length, c⟩]) (yss ++ [y]) (g ++ f)).φ w := by
  show ownL false w ((us ++ [_]).map View.val) (yss ++ [y]) (g ++ f)
  rw [List.map_append]
  have h1 : ownL false w (us.map View.val) yss g := h
  refine h1.append ?_ (ownL.one ?_)
  · simp [hl, sz]
  · cases s
    · exact hy
    · exact Rp.weak hy
end Go.Wk
