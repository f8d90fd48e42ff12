/-
  Regions that draw: what is new or laid anew in them. No program is named here.
-/
import Derived.Test.YtceeelcijjkefaaGreatWkO
set_option linter.unusedVariables false
set_option linter.unusedSimpArgs false
namespace Go.Wk
open Rp (sz own)
theorem Ext.cellM {M : Nat → Prop} {w w' : World} (h : Ext M w w') {ad : Addr} {v : Value} (hm : ¬ M ad.block) (hc : w.cell? ad = some v) : w'.cell? ad = some v :=
  (World.cell?_of_block (h.block ad.block (World.block_lt_of_cell? w ad hc) hm)).trans hc
theorem Sep.off {M w0 Δ F} {w : World} (h : Sep M w0 Δ F w) (i : Nat) {r q : Rsc} (hi : F[i]? = some r) (j : Nat) (hj : Δ[j]? = some q) {b : Nat} (hb : b ∈ r.fp) : b ∉ q.fp := fun hm =>
  h.ap r (List.mem_of_getElem? hi) b hb (mem_blocks.2 ⟨q, List.mem_of_getElem? hj, hm⟩)
theorem Sep.boff {M w0 Δ F} {w : World} (h : Sep M w0 Δ F w) (i : Nat) {b : Nat} {o : Obj} {q : Rsc} (hi : Δ[i]? = some (Wk.box b o)) (j : Nat) (hj : Δ[j]? = some q) (hij : Nat.beq i j = false) : b ∉ q.fp :=
  h.apart hj hi hij b (by simp [Wk.box])
theorem elem_u8m {s w ad n cap} {xs : List UInt8} {fp} (h : own s w [.slice ad n cap] xs fp) (k : Nat) (hk : k < xs.length) :
    ∃ b o, ad = some ⟨b, o, none⟩ ∧ w.cell? ⟨b, o + k * 1, none⟩ = some (.int .u8 (xs.getD k 0).toNat) ∧ b ∈ fp := by
  obtain ⟨b, o, cs, f, h1, h2, h3, _, h5⟩ := own_elem h k hk
  rw [show xs.getD k 0 = xs[k] from by simp [List.getD, hk]]
  exact ⟨b, o, h1, h2 0 (.int .u8 (xs[k]).toNat) (by rw [h3.1]; rfl), h5⟩
theorem elem_intm {s w ad n cap} {xs : List Int} {fp} (h : own s w [.slice ad n cap] xs fp) (k : Nat) (hk : k < xs.length) :
    ∃ b o, ad = some ⟨b, o, none⟩ ∧ w.cell? ⟨b, o + k * 1, none⟩ = some (.int .i64 (xs.getD k 0)) ∧ b ∈ fp := by
  obtain ⟨b, o, cs, f, h1, h2, h3, _, h5⟩ := own_elem h k hk
  rw [show xs.getD k 0 = xs[k] from by simp [List.getD, hk]]
  exact ⟨b, o, h1, h2 0 (.int .i64 xs[k]) (by rw [h3.1]; rfl), h5⟩
theorem elem_slm {β : Type} [Rp β] {s w ad n cap} {xs : List (List β)} {fp} (h : own s w [.slice ad n cap] xs fp) (k : Nat) (hk : k < xs.length) :
    ∃ b o a c f, ad = some ⟨b, o, none⟩ ∧ w.cell? ⟨b, o + k * 1, none⟩ = some (.slice a (xs.getD k []).length c) ∧ own s w [.slice a (xs.getD k []).length c] (xs.getD k []) f ∧ (∀ b ∈ f, b ∈ fp) ∧ b ∈ fp := by
  obtain ⟨b, o, cs, f, h1, h2, h3, h4, h5⟩ := own_elem h k hk
  rw [show xs.getD k [] = xs[k] from by simp [List.getD, hk]]
  obtain ⟨a, c, rfl⟩ := own_slice h3
  exact ⟨b, o, a, c, f, h1, h2 0 _ rfl, h3, h4, h5⟩
section
variable {P : Program} {n : Nat} {ops : Array Oper} {Q : Post} {L : Env} {w w0 : World} {M : Nat → Prop} {Δ F : List Rsc} {rest : List (Nat × Bool)} {i d : Nat} {ty : TypeId} {p : String} {af : Array Edge} {g : Option (Nat × Bool)} {S : World → Prop}
theorem d_alloc {o : Oper} {ob : Obj} {v : Nat → Value} (ho : ops.toList[i]? = some o) (hw : Wn ops n L o) (hd : o.dst = some d) (hn : Nat.blt d n = true) (hp : Pn P n L w o (v w.heap.size) (w.alloc ob)) (H : Sep M w0 Δ F w) (hS : ∀ w', S w → Ext No w w' → S w')
    (k : ∀ b w', Ext No w w' → w.heap.size ≤ b → Sep M w0 (Δ ++ [box b ob]) F w' → DL P n ops Q S rest ((d, v b) :: L) w') : DL P n ops Q S ((i, false) :: rest) L w :=
  d_new ho hw hd hn hp (fun h _ => hS _ h (Ext.refl.alloc _)) (k _ _ (Ext.refl.alloc _) (Nat.le_refl _) (H.alloc _))
theorem d_box {t : TypeId} {x : Operand} {v : Value} (ho : ops.toList[i]? = some ⟨some d, .box t x, ty, p, af, g⟩) (hw : Wn ops n L ⟨some d, .box t x, ty, p, af, g⟩) (hn : Nat.blt d n = true) (hx : evL L x = some v) (H : Sep M w0 Δ F w) (hS : ∀ w', S w → Ext No w w' → S w')
    (k : ∀ b w', Ext No w w' → w.heap.size ≤ b → Sep M w0 (Δ ++ [box b (.cells v.cells t)]) F w' → DL P n ops Q S rest ((d, .pointer (some ⟨b, 0, none⟩)) :: L) w') : DL P n ops Q S ((i, false) :: rest) L w :=
  d_alloc ho hw rfl hn (pn_box hx) H hS k
theorem d_lit1 {t e : TypeId} {x : Operand} {z v : Value} {size bytes : Nat} (ho : ops.toList[i]? = some ⟨some d, .buildSlice t 1 #[(0, x)], ty, p, af, g⟩) (hw : Wn ops n L ⟨some d, .buildSlice t 1 #[(0, x)], ty, p, af, g⟩) (hn : Nat.blt d n = true) (ht : P.underlying t = some (.slice e)) (hT : Ty P e z size bytes) (hs : Nat.blt 0 size = true)
    (hx : evL L x = some v) (h1 : v.cells.size = size) (hsmall : Nat.ble size 16777216 = true) (H : Sep M w0 Δ F w) (hS : ∀ w', S w → Ext No w w' → S w')
    (k : ∀ b w', Ext No w w' → w.heap.size ≤ b → Sep M w0 (Δ ++ [box b (.cells v.cells.toList.toArray e)]) F w' → DL P n ops Q S rest ((d, .slice (some ⟨b, 0, none⟩) 1 1) :: L) w') :
    DL P n ops Q S ((i, false) :: rest) L w := by
  have hp := pn_lit (n := n) (w := w) (ty := ty) (p := p) (af := af) (g := g) (d := some d) (parts := #[(0, x)]) (vs := [v]) (len := 1) ht hT (Nat.le_of_ble_eq_true hs) rfl (parts_one hx) (by simpa using h1) (by omega) (by have := Nat.le_of_ble_eq_true hsmall; omega)
  simp only [List.flatMap_cons, List.flatMap_nil, List.append_nil] at hp
  exact d_alloc (v := fun b => .slice (some ⟨b, 0, none⟩) 1 1) ho hw rfl hn hp H hS k
theorem d_lit0 {α : Type} [Rp α] {t e : TypeId} {z : Value} {size bytes : Nat} (ho : ops.toList[i]? = some ⟨some d, .buildSlice t 0 #[], ty, p, af, g⟩) (hw : Wn ops n L ⟨some d, .buildSlice t 0 #[], ty, p, af, g⟩) (hn : Nat.blt d n = true) (ht : P.underlying t = some (.slice e)) (hT : Ty P e z size bytes) (H : Sep M w0 Δ F w) (hS : ∀ w', S w → Ext No w w' → S w')
    (k : ∀ b w', Ext No w w' → w.heap.size ≤ b → Sep M w0 (Δ ++ [mine [.slice (some ⟨b, 0, none⟩) 0 0] ([] : List α) [b]]) F w' → DL P n ops Q S rest ((d, .slice (some ⟨b, 0, none⟩) 0 0) :: L) w') :
    DL P n ops Q S ((i, false) :: rest) L w :=
  d_new ho hw rfl hn (pn_lit0 ht hT) (fun h _ => hS _ h (Ext.refl.alloc _)) (k _ _ (Ext.refl.alloc _) (Nat.le_refl _) (H.add (Ext.refl.alloc _) (r := mine [.slice (some ⟨w.heap.size, 0, none⟩) 0 0] ([] : List α) [w.heap.size])
    (.inr (.inr ⟨w.heap.size, 0, 0, #[], e, (0, 0), [], rfl, rfl, heap_alloc_new _ _, fun _ => rfl, Nat.le_refl _, Nat.zero_le _, by simp, rfl⟩)) (by simp [mine]) (by simp [mine])))
section
variable {α : Type} [Rp α]
theorem d_make {t e : TypeId} {x : Operand} {z : Value} {bytes m : Nat} {y : α} (ho : ops.toList[i]? = some ⟨some d, .makeSlice t x x, ty, p, af, g⟩) (hw : Wn ops n L ⟨some d, .makeSlice t x x, ty, p, af, g⟩) (hn : Nat.blt d n = true) (ht : P.underlying t = some (.slice e)) (hT : Ty P e z (sz α) bytes) (hz : ∀ w, own true w z.cells.toList y [])
    (hx : evL L x = some (.int .i64 m)) (h48 : bytes * m ≤ 281474976710656) (h63 : m ≤ maxLen) (H : Sep M w0 Δ F w) (hS : ∀ w', S w → Ext No w w' → S w')
    (k : ∀ b w', Ext No w w' → w.heap.size ≤ b → Sep M w0 (Δ ++ [mine [.slice (some ⟨b, 0, none⟩) m m] (List.replicate m y) [b]]) F w' → DL P n ops Q S rest ((d, .slice (some ⟨b, 0, none⟩) m m) :: L) w') :
    DL P n ops Q S ((i, false) :: rest) L w :=
  d_new ho hw rfl hn (pn_make ht hT hx h48 h63) (fun h _ => hS _ h (Ext.refl.alloc _)) (k _ _ (Ext.refl.alloc _) (Nat.le_refl _) (H.made hz h63))
/-- 'out = append(out, x)' in a region that draws; S lets the blocks of out be changed. -/
theorem d_app1 {x y : Operand} {t e : TypeId} {z : Value} {bytes : Nat} {v : Value} {xs : List α} {fp : List Nat} {b2 c2 : Nat} {T} {cs : List Value} {u : α} (ho : ops.toList[i]? = some ⟨some d, .call ⟨.builtin .append, #[x, y], #[t, t]⟩, ty, p, af, g⟩) (hw : Wn ops n L ⟨some d, .call ⟨.builtin .append, #[x, y], #[t, t]⟩, ty, p, af, g⟩) (hn : Nat.blt d n = true)
    (ht : P.underlying t = some (.slice e)) (hT : Ty P e z (sz α) bytes) (hz : z.cells.size = sz α) (hx : evL L x = some v) (hy : evL L y = some (.slice (some ⟨b2, 0, none⟩) 1 c2))
    (H : Sep M w0 Δ F w) (q j : Nat) (hi : Δ[q]? = some (mine [v] xs fp)) (hj : Δ[j]? = some (box b2 (.cells cs.toArray T))) (hu : own true w cs u []) (h63 : xs.length + 1 ≤ maxLen) (hb48 : (xs.length + 1) * bytes ≤ 140737488355328)
    (hS : ∀ w', S w → Ext (· ∈ fp) w w' → S w')
    (k : ∀ v' w' fp', Sep M w0 (Δ.set q (mine [v'] (xs ++ [u]) fp')) F w' → DL P n ops Q S rest ((d, v') :: L) w') :
    DL P n ops Q S ((i, false) :: rest) L w := by
  obtain ⟨v', w', fp', h1, h2, h3, h4, h5⟩ := run_append (ty := ty) ht hT hz (H.mine q hi) (ys := [u]) (c2 := c2) (m := 1) (by rw [Rp.len hu]; simp) rfl (At.whole (H.box j hj)) (Rp.one hu) (.one hu) (by simp) (H.nodup1 hi) .nil (by simp) h63 hb48
  exact d_new ho hw rfl hn (pn_app hx hy h1) (fun h _ => hS _ h h3) (k _ _ _ (H.set hi (q := Wk.mine [v'] (xs ++ [u]) fp') h3 h2 h5 fun b hb => by rcases h4 b hb with h | h | h; exact .inl h; simp at h; exact .inr h))
theorem d_app2 {x y : Operand} {t e : TypeId} {z : Value} {bytes : Nat} {v : Value} {xs : List α} {fp : List Nat} {b2 c2 : Nat} {T} {cs : List Value} {u : α} {fu} (ho : ops.toList[i]? = some ⟨some d, .call ⟨.builtin .append, #[x, y], #[t, t]⟩, ty, p, af, g⟩) (hw : Wn ops n L ⟨some d, .call ⟨.builtin .append, #[x, y], #[t, t]⟩, ty, p, af, g⟩) (hn : Nat.blt d n = true)
    (ht : P.underlying t = some (.slice e)) (hT : Ty P e z (sz α) bytes) (hz : z.cells.size = sz α) (hx : evL L x = some v) (hy : evL L y = some (.slice (some ⟨b2, 0, none⟩) 1 c2))
    (H : Sep M w0 Δ F w) (l j q : Nat) (hi : Δ[l]? = some (mine [v] xs fp)) (hj : Δ[j]? = some (box b2 (.cells cs.toArray T))) (hq : Δ[q]? = some (mine cs u fu)) (hqi : Nat.beq q l = false) (h63 : xs.length + 1 ≤ maxLen) (hb48 : (xs.length + 1) * bytes ≤ 140737488355328)
    (hS : ∀ w', S w → Ext (· ∈ fp) w w' → S w')
    (k : ∀ v' w' fp', Sep M w0 ((Δ.set q gone).set l (mine [v'] (xs ++ [u]) fp')) F w' → DL P n ops Q S rest ((d, v') :: L) w') :
    DL P n ops Q S ((i, false) :: rest) L w := by
  have hy' := H.mine q hq
  obtain ⟨v', w', fp', h1, h2, h3, h4, h5⟩ := run_append (ty := ty) ht hT hz (H.mine l hi) (ys := [u]) (c2 := c2) (m := 1) (by rw [Rp.len hy']; simp) rfl (At.whole (H.box j hj)) (Rp.one hy') (.one hy') (H.apart hi hq hqi) (H.nodup1 hi) (H.nodup1 hq) (by simp) h63 hb48
  exact d_new ho hw rfl hn (pn_app hx hy h1) (fun h _ => hS _ h h3) (k _ _ _ (H.set2 hi hq hqi (q := Wk.mine [v'] (xs ++ [u]) fp') h3 h2 h5 h4))
/-- 'xs[k] = x' at a region's end. -/
theorem d_elst {t : TypeId} {x y : Operand} {b off : Nat} {v : Value} {ad : Option Addr} {len cap : Nat} {xs : List α} {fp : List Nat} {u : α} (ho : ops.toList[i]? = some ⟨none, .store t x y, ty, p, af, g⟩) (hw : Wn ops n L ⟨none, .store t x y, ty, p, af, g⟩) (hs : ∀ w, (sizeOf t).run P w = .ok (sz α) w) (h1 : sz α = 1)
    (H : Sep M w0 Δ F w) (j : Nat) (hi : Δ[j]? = some (mine [.slice ad len cap] xs fp)) (q : Nat) (hq : q < xs.length) (hx : evL L x = some (.pointer (some ⟨b, off + q * sz α, none⟩))) (had : ad = some ⟨b, off, none⟩) (hy : evL L y = some v) (hu : own true w [v] u [])
    (hS : ∀ w', S w → Ext (· = b) w w' → rest ≠ [] → S w')
    (k : ∀ w' fp', Ext (· = b) w w' → Sep M w0 (Δ.set j (mine [.slice ad len cap] (xs.set q u) fp')) F w' → DL P n ops Q S rest L w') :
    DL P n ops Q S ((i, false) :: rest) L w := by
  obtain ⟨b', o', cur, T, e1, hb, hsz, hk⟩ := H.elset j hi q hq
  rw [had] at e1
  simp only [Option.some.injEq, Addr.mk.injEq, and_true] at e1
  obtain ⟨rfl, rfl⟩ := e1
  obtain ⟨fp', h⟩ := hk [v] u hu
  refine d_do ho hw rfl (pd_store (by rw [h1] at hs; exact hs) hx hy (Rp.one hu v (by simp)) hb (by omega)) (fun hSw hr => hS _ hSw (Ext.refl.put (.inl rfl)) hr) ?_
  exact k _ fp' (Ext.refl.put (.inl rfl)) h
end
end
/-! ### Sums of lists -/
def scaleG (xs : List UInt8) (c : UInt8) : List UInt8 := xs.map fun x => mulG x c
theorem scaleG_len (xs : List UInt8) (c : UInt8) : (scaleG xs c).length = xs.length := by simp [scaleG]
theorem scaleG_step {xs : List UInt8} {c : UInt8} {k : Nat} (h : k < xs.length) : scaleG (xs.take k) c ++ [mulG (xs.getD k 0) c] = scaleG (xs.take (k + 1)) c := by
  rw [take_succ_getD (d := 0) h]; simp [scaleG]
def addG (xs ys : List UInt8) : List UInt8 := List.zipWith (· ^^^ ·) xs ys
theorem addG_len {xs ys : List UInt8} (h : xs.length ≤ ys.length) : (addG xs ys).length = xs.length := by
  unfold addG; simp; omega
theorem addG_step {xs ys : List UInt8} {k : Nat} (h : k < xs.length) (h2 : xs.length ≤ ys.length) : addG (xs.take k) (ys.take k) ++ [xs.getD k 0 ^^^ ys.getD k 0] = addG (xs.take (k + 1)) (ys.take (k + 1)) := by
  rw [take_succ_getD (d := 0) h, take_succ_getD (d := 0) (by omega : k < ys.length)]
  unfold addG
  rw [List.zipWith_append (by simp; omega)]
  rfl
theorem addG_take {xs ys : List UInt8} (h : xs.length ≤ ys.length) : addG xs (ys.take xs.length) = addG xs ys := by
  unfold addG
  apply List.ext_getElem?
  intro i
  rw [List.getElem?_zipWith, List.getElem?_zipWith, List.getElem?_take]
  by_cases hi : i < xs.length
  · rw [if_pos hi]
  · rw [List.getElem?_eq_none (by omega)]
/-- Half of a list summed to another one. -/
def putG (xs ys : List UInt8) (c : UInt8) (k : Nat) : List UInt8 := addG (xs.take k) (scaleG (ys.take k) c) ++ xs.drop k
theorem putG_zero {xs ys : List UInt8} {c : UInt8} : putG xs ys c 0 = xs := by simp [putG, addG]
theorem putG_all {xs ys : List UInt8} {c : UInt8} {k : Nat} (h : xs.length = k) (h2 : ys.length = k) : putG xs ys c k = addG xs (scaleG ys c) := by
  unfold putG
  rw [List.take_of_length_le (by omega), List.take_of_length_le (by omega), List.drop_eq_nil_of_le (by omega), List.append_nil]
theorem putG_len {xs ys : List UInt8} {c : UInt8} {k : Nat} (h : xs.length = ys.length) : (putG xs ys c k).length = xs.length := by
  unfold putG
  rw [List.length_append, addG_len (by simp [scaleG]; omega)]
  simp; omega
theorem putG_get {xs ys : List UInt8} {c : UInt8} {k : Nat} (h : xs.length = ys.length) (hk : k < xs.length) : (putG xs ys c k).getD k 0 = xs.getD k 0 := by
  have h1 : (addG (xs.take k) (scaleG (ys.take k) c)).length = k := by rw [addG_len (by simp [scaleG]; omega)]; simp; omega
  unfold putG
  simp only [List.getD]
  rw [List.getElem?_append_right (by omega), h1, List.getElem?_drop]
  simp
theorem putG_step {xs ys : List UInt8} {c : UInt8} {k : Nat} (h : xs.length = ys.length) (hk : k < xs.length) : (putG xs ys c k).set k (xs.getD k 0 ^^^ mulG (ys.getD k 0) c) = putG xs ys c (k + 1) := by
  have h1 : (addG (xs.take k) (scaleG (ys.take k) c)).length = k := by rw [addG_len (by simp [scaleG]; omega)]; simp; omega
  unfold putG
  rw [List.set_append, if_neg (by omega), h1, Nat.sub_self]
  have h2 : xs.drop k = xs.getD k 0 :: xs.drop (k + 1) := by rw [List.drop_eq_getElem_cons hk]; simp [List.getD, hk]
  have h3 : addG (xs.take (k + 1)) (scaleG (ys.take (k + 1)) c) = addG (xs.take k) (scaleG (ys.take k) c) ++ [xs.getD k 0 ^^^ mulG (ys.getD k 0) c] := by
    rw [take_succ_getD (d := 0) hk, ← scaleG_step (by omega)]
    unfold addG
    rw [List.zipWith_append (by simp [scaleG]; omega)]
    rfl
  rw [h2, h3, List.set_cons_zero]
  simp
/-- The sum of the first k lists, each scaled. -/
def mixTo (ls : List (List UInt8)) (cs : List UInt8) (n : Nat) : Nat → List UInt8
  | 0 => List.replicate n 0
  | k + 1 => addG (mixTo ls cs n k) (scaleG (ls.getD k []) (cs.getD k 0))
theorem mixTo_len {ls : List (List UInt8)} {cs : List UInt8} {n : Nat} (h : ∀ i, i < ls.length → (ls.getD i []).length = n) : ∀ {k : Nat}, k ≤ ls.length → (mixTo ls cs n k).length = n
  | 0, _ => by simp [mixTo]
  | k + 1, hk => by
    have h1 := mixTo_len (cs := cs) h (k := k) (by omega)
    have h2 := h k (by omega)
    rw [mixTo, addG_len (by rw [scaleG_len]; omega)]
    exact h1
theorem own_n {α : Type} [Rp α] {s w ad n cap} {xs : List α} {fp} (h : own s w [.slice ad n cap] xs fp) : n = xs.length := by
  obtain ⟨_, _, e⟩ := own_slice h
  simp at e
  exact e.2.1
/-- A list made place by place. -/
def fillG (g : Nat → UInt8) (n k : Nat) : List UInt8 := (List.range k).map g ++ List.replicate (n - k) 0
theorem fillG_zero {g : Nat → UInt8} {n : Nat} : fillG g n 0 = List.replicate n 0 := by simp [fillG]
theorem fillG_all {g : Nat → UInt8} {n : Nat} : fillG g n n = (List.range n).map g := by simp [fillG]
theorem fillG_len {g : Nat → UInt8} {n k : Nat} (h : k ≤ n) : (fillG g n k).length = n := by
  unfold fillG; simp; omega
theorem fillG_split {g : Nat → UInt8} {n k : Nat} (hk : k < n) : fillG g n k = (List.range k).map g ++ 0 :: List.replicate (n - (k + 1)) 0 := by
  unfold fillG
  rw [show n - k = (n - (k + 1)) + 1 from by omega, List.replicate_succ]
theorem fillG_next {g : Nat → UInt8} {n k : Nat} : fillG g n (k + 1) = (List.range k).map g ++ g k :: List.replicate (n - (k + 1)) 0 := by
  unfold fillG
  rw [List.range_succ]; simp
theorem fillG_set {g : Nat → UInt8} {n k : Nat} {x : UInt8} (hk : k < n) (hx : g k = x) : (fillG g n k).set k x = fillG g n (k + 1) := by
  rw [fillG_split hk, fillG_next, List.set_append, if_neg (by simp), hx]
  simp
theorem fillG_skip {g : Nat → UInt8} {n k : Nat} (hk : k < n) (hx : g k = 0) : fillG g n k = fillG g n (k + 1) := by
  rw [fillG_split hk, fillG_next, hx]
/-- The weights of a place. -/
def genAt (n : Nat) (p base : Int) (i : Nat) : UInt8 := if (n : Int) ≤ p then cauchy (base + p - n) i else if (i : Int) = p then 1 else 0
def genG (n : Nat) (p base : Int) : List UInt8 := (List.range n).map (genAt n p base)
theorem genG_len {n : Nat} {p base : Int} : (genG n p base).length = n := by simp [genG]
end Go.Wk
