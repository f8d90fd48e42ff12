/-
  What is new since a region began; solutions. No program is named here.
-/
import Derived.Test.YtceeelcijjkefaaGreatWkY
set_option linter.unusedVariables false
set_option linter.unusedSimpArgs false
namespace Go.Wk
open Rp (sz own)
theorem Sep.resN {α : Type} [Rp α] {M w0 Δ F} {w w' : World} {cs : List Value} {x : α} (h : Sep M w0 Δ F w) (e : Ext No w w') (hr : Res w w' cs x) : ∃ fp, Sep M w0 (Δ ++ [Wk.mine cs x fp]) F w' ∧ ∀ b ∈ fp, w.heap.size ≤ b := by
  obtain ⟨fp, h1, h2, h3⟩ := hr
  exact ⟨fp, h.add e (r := Wk.mine cs x fp) h1 h2 h3, h3⟩
section
variable {P : Program} {n : Nat} {ops : Array Oper} {Q : Post} {S : World → Prop} {L : Env} {w w0 wr : World} {M M' : Nat → Prop} {Δ F : List Rsc} {i : Nat} {d : Tmp} {ty : TypeId} {p : String} {af : Array Edge} {g : Option (Nat × Bool)} {rest : List (Nat × Bool)} {α : Type} [Rp α]
theorem d_S {l : List (Nat × Bool)} (h : S w → DL P n ops Q S l L w) (hl : l ≠ []) : DL P n ops Q S l L w := fun hs a ha hS => h (hS hl) hs a ha hS
theorem d_app1S {x y : Operand} {t e : TypeId} {z : Value} {bytes : Nat} {v : Value} {xs : List α} {fp : List Nat} {b2 c2 : Nat} {T} {cs : List Value} {u : α} (ho : ops.toList[i]? = some ⟨some d, .call ⟨.builtin .append, #[x, y], #[t, t]⟩, ty, p, af, g⟩) (hw : Wn ops n L ⟨some d, .call ⟨.builtin .append, #[x, y], #[t, t]⟩, ty, p, af, g⟩) (hn : Nat.blt d n = true)
    (ht : P.underlying t = some (.slice e)) (hT : Ty P e z (sz α) bytes) (hz : z.cells.size = sz α) (hx : evL L x = some v) (hy : evL L y = some (.slice (some ⟨b2, 0, none⟩) 1 c2))
    (H : Sep M w0 Δ F w) (q j : Nat) (hi : Δ[q]? = some (mine [v] xs fp)) (hj : Δ[j]? = some (box b2 (.cells cs.toArray T))) (hu : own true w cs u []) (h63 : xs.length + 1 ≤ maxLen) (hb48 : (xs.length + 1) * bytes ≤ 140737488355328)
    (hf : ∀ b ∈ fp, wr.heap.size ≤ b)
    (k : ∀ v' w' fp', (∀ b ∈ fp', b ∈ fp ∨ w.heap.size ≤ b) → Sep M w0 (Δ.set q (mine [v'] (xs ++ [u]) fp')) F w' → DL P n ops Q (Ext M' wr) rest ((d, v') :: L) w') :
    DL P n ops Q (Ext M' wr) ((i, false) :: rest) L w := by
  obtain ⟨v', w', fp', h1, h2, h3, h4, h5⟩ := run_append (ty := ty) ht hT hz (H.mine q hi) (ys := [u]) (c2 := c2) (m := 1) (by rw [Rp.len hu]; simp) rfl (At.whole (H.box j hj)) (Rp.one hu) (.one hu) (by simp) (H.nodup1 hi) .nil (by simp) h63 hb48
  have h6 : ∀ b ∈ fp', b ∈ fp ∨ w.heap.size ≤ b := fun b hb => by rcases h4 b hb with h | h | h; exact .inl h; simp at h; exact .inr h
  exact d_new ho hw rfl hn (pn_app hx hy h1) (fun h _ => h.step h3 fun b hb => .inr (hf b hb)) (k _ _ _ h6 (H.set hi (q := Wk.mine [v'] (xs ++ [u]) fp') h3 h2 h5 h6))
theorem d_appFS [Flat α] {x y : Operand} {t e : TypeId} {z : Value} {bytes : Nat} {v : Value} {xs ys : List α} {fp fy : List Nat} {s ad m c2} (ho : ops.toList[i]? = some ⟨some d, .call ⟨.builtin .append, #[x, y], #[t, t]⟩, ty, p, af, g⟩) (hw : Wn ops n L ⟨some d, .call ⟨.builtin .append, #[x, y], #[t, t]⟩, ty, p, af, g⟩) (hn : Nat.blt d n = true)
    (ht : P.underlying t = some (.slice e)) (hT : Ty P e z (sz α) bytes) (hz : z.cells.size = sz α) (hx : evL L x = some v) (hy : evL L y = some (.slice ad m c2))
    (H : Sep M w0 Δ F w) (q : Nat) (hi : Δ[q]? = some (mine [v] xs fp)) (hu : own s w [.slice ad m c2] ys fy) (h63 : xs.length + ys.length ≤ maxLen) (hb48 : (xs.length + ys.length) * bytes ≤ 140737488355328)
    (hf : ∀ b ∈ fp, wr.heap.size ≤ b)
    (k : ∀ v' w' fp', (∀ b ∈ fp', b ∈ fp ∨ w.heap.size ≤ b) → Sep M w0 (Δ.set q (mine [v'] (xs ++ ys) fp')) F w' → DL P n ops Q (Ext M' wr) rest ((d, v') :: L) w') :
    DL P n ops Q (Ext M' wr) ((i, false) :: rest) L w := by
  obtain ⟨v', w', fp', h1, h2, h3, h4, h5⟩ := run_appendF (ty := ty) ht hT hz (H.mine q hi) hu (H.nodup1 hi) h63 hb48
  exact d_new ho hw rfl hn (pn_app hx hy h1) (fun h _ => h.step h3 fun b hb => .inr (hf b hb)) (k _ _ _ h4 (H.set hi (q := Wk.mine [v'] (xs ++ ys) fp') h3 h2 h5 h4))
/-- 'xs[k] = x' at a region's end, x with memory of its own. -/
theorem d_elst2 {t : TypeId} {x y : Operand} {b off : Nat} {v : Value} {ad : Option Addr} {len cap : Nat} {xs : List α} {fp fu : List Nat} {u : α} (ho : ops.toList[i]? = some ⟨none, .store t x y, ty, p, af, g⟩) (hw : Wn ops n L ⟨none, .store t x y, ty, p, af, g⟩) (hs : ∀ w, (sizeOf t).run P w = .ok (sz α) w) (h1 : sz α = 1)
    (H : Sep M w0 Δ F w) (l j : Nat) (hi : Δ[l]? = some (mine [.slice ad len cap] xs fp)) (hj : Δ[j]? = some (mine [v] u fu)) (hij : Nat.beq j l = false) (q : Nat) (hq : q < xs.length) (hx : evL L x = some (.pointer (some ⟨b, off + q * sz α, none⟩))) (had : ad = some ⟨b, off, none⟩) (hy : evL L y = some v)
    (k : ∀ w' fp', Sep M w0 ((Δ.set j gone).set l (mine [.slice ad len cap] (xs.set q u) fp')) F w' → DL P n ops Q S [] L w') :
    DL P n ops Q S [(i, false)] L w := by
  obtain ⟨b', o', cur, T, fp', e1, hb, hsz, hk⟩ := H.elset2 l j hi hj hij q hq
  rw [had] at e1
  simp only [Option.some.injEq, Addr.mk.injEq, and_true] at e1
  obtain ⟨rfl, rfl⟩ := e1
  exact d_do ho hw rfl (pd_store (by rw [h1] at hs; exact hs) hx hy (Rp.one (H.mine j hj) v (by simp)) hb (by omega)) (fun _ hr => absurd rfl hr) (k _ fp' hk)
end
/-! ### Solutions -/
def augTo (m : Mat) (b : List UInt8) (k : Nat) : Mat := (List.range k).map fun i => m.getD i [] ++ [b.getD i 0]
def aug (m : Mat) (b : List UInt8) : Mat := augTo m b m.length
theorem augTo_len {m : Mat} {b k} : (augTo m b k).length = k := by simp [augTo]
theorem augTo_step {m : Mat} {b k} : augTo m b k ++ [m.getD k [] ++ [b.getD k 0]] = augTo m b (k + 1) := by simp [augTo, List.range_succ]
/-- The first k filled in, the others empty. -/
def augIn (m : Mat) (b : List UInt8) (k : Nat) : Mat := augTo m b k ++ List.replicate (m.length - k) []
theorem augIn_zero {m : Mat} {b} : augIn m b 0 = List.replicate m.length [] := by simp [augIn, augTo]
theorem augIn_all {m : Mat} {b} : augIn m b m.length = aug m b := by simp [augIn, aug]
theorem augIn_len {m : Mat} {b k} (h : k ≤ m.length) : (augIn m b k).length = m.length := by simp [augIn, augTo_len]; omega
theorem augIn_set {m : Mat} {b k} (h : k < m.length) : (augIn m b k).set k (m.getD k [] ++ [b.getD k 0]) = augIn m b (k + 1) := by
  rw [augIn, List.set_append_right _ _ (by rw [augTo_len]; exact Nat.le_refl _), augTo_len, Nat.sub_self, augIn, ← augTo_step]
  have : List.replicate (m.length - k) ([] : List UInt8) = [] :: List.replicate (m.length - (k + 1)) [] := by
    rw [show m.length - k = (m.length - (k + 1)) + 1 by omega]; rfl
  rw [this, List.set_cons_zero]; simp
theorem aug_rect {m : Mat} {b : List UInt8} {n : Nat} (h : Rect m n n) : Rect (aug m b) n (n + 1) := by
  obtain ⟨h1, h2⟩ := h
  refine ⟨by rw [aug, augTo_len]; exact h1, fun i hi => ?_⟩
  have : (aug m b).getD i [] = m.getD i [] ++ [b.getD i 0] := by simp [aug, augTo, List.getD, h1, hi]
  rw [this, List.length_append, h2 i hi]; rfl
def colTo (m : Mat) (c k : Nat) : List UInt8 := (List.range k).map fun i => entry m i c
theorem colTo_len {m : Mat} {c k} : (colTo m c k).length = k := by simp [colTo]
theorem colTo_step {m : Mat} {c k} : colTo m c k ++ [(m.getD k []).getD c 0] = colTo m c (k + 1) := by simp [colTo, List.range_succ, entry]
def solOk (m : Mat) (b : List UInt8) : Bool := decide (m.length ≤ (redM (aug m b) m.length).2)
def solL (m : Mat) (b : List UInt8) : List UInt8 := if solOk m b = true then colTo (redM (aug m b) m.length).1 m.length m.length else []
theorem sol_no {m : Mat} {b} (h : (redM (aug m b) m.length).2 < m.length) : solOk m b = false ∧ solL m b = [] := by
  have : solOk m b = false := by rw [solOk, decide_eq_false (by omega)]
  exact ⟨this, by rw [solL, this]; rfl⟩
theorem sol_yes {m : Mat} {b} (h : ¬ (redM (aug m b) m.length).2 < m.length) : solOk m b = true ∧ solL m b = colTo (redM (aug m b) m.length).1 m.length m.length := by
  have : solOk m b = true := by rw [solOk, decide_eq_true (by omega)]
  exact ⟨this, by rw [solL, if_pos this]⟩
theorem solL_len {m : Mat} {b} : (solL m b).length ≤ m.length := by
  unfold solL; split
  · rw [colTo_len]; exact Nat.le_refl _
  · exact Nat.zero_le _
end Go.Wk
