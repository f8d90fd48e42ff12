/-
  The laws of an operation, told of what the call holds: each hands on a new world under a name of its own. No program is named here.
-/
import Derived.Test.YtceeelcijjkefaaGreatWkE
import Derived.Great.BuildSlice
import Derived.Laws.Tables
set_option linter.unusedVariables false
set_option linter.unusedSimpArgs false
namespace Go.Wk
open Rp (sz own)
theorem in64 {x : Int} (h : I64ok x) : IntKind.i64.wrap x = x := by
  obtain ⟨h1, h2⟩ := h
  exact IntWalk.i64_in _ ⟨by omega, by omega⟩
theorem in8 {x : Int} (h : 0 ≤ x ∧ x ≤ 255) : IntKind.u8.wrap x = x := by
  rw [IntKind.wrap_u8]; omega
section
variable {P : Program} {n : Nat} {ops : Array Oper} {Q : Post} {L : Env} {w w0 : World} {M : Nat → Prop} {Δ F : List Rsc} {rest : List Oper} {d : Nat} {ty : TypeId} {p : String} {af : Array Edge} {g : Option (Nat × Bool)}
/-- Any operation that makes a block. -/
theorem s_alloc {o : Oper} {ob : Obj} {v : Nat → Value} (hw : Wn ops n L o) (hd : o.dst = some d) (hn : Nat.blt d n = true) (hp : Pn P n L w o (v w.heap.size) (w.alloc ob)) (H : Sep M w0 Δ F w)
    (k : ∀ b w', Ext No w w' → w.heap.size ≤ b → Sep M w0 (Δ ++ [box b ob]) F w' → RL P n ops Q rest ((d, v b) :: L) w') : RL P n ops Q (o :: rest) L w :=
  s_new hw hd hn hp (k _ _ (Ext.refl.alloc ob) (Nat.le_refl _) (H.alloc ob))
theorem s_box {t : TypeId} {x : Operand} {v : Value} (hw : Wn ops n L ⟨some d, .box t x, ty, p, af, g⟩) (hn : Nat.blt d n = true) (hx : evL L x = some v) (H : Sep M w0 Δ F w)
    (k : ∀ b w', Ext No w w' → w.heap.size ≤ b → Sep M w0 (Δ ++ [box b (.cells v.cells t)]) F w' → RL P n ops Q rest ((d, .pointer (some ⟨b, 0, none⟩)) :: L) w') :
    RL P n ops Q (⟨some d, .box t x, ty, p, af, g⟩ :: rest) L w :=
  s_alloc (v := fun b => .pointer (some ⟨b, 0, none⟩)) hw rfl hn (pn_box hx) H k
theorem s_var {t : TypeId} {z : Value} (hw : Wn ops n L ⟨some d, .alloc t, ty, p, af, g⟩) (hn : Nat.blt d n = true) (hz : ∀ w, (zeroValue t).run P w = .ok z w) (H : Sep M w0 Δ F w)
    (k : ∀ b w', Ext No w w' → w.heap.size ≤ b → Sep M w0 (Δ ++ [box b (.cells z.cells t)]) F w' → RL P n ops Q rest ((d, .pointer (some ⟨b, 0, none⟩)) :: L) w') :
    RL P n ops Q (⟨some d, .alloc t, ty, p, af, g⟩ :: rest) L w :=
  s_alloc (v := fun b => .pointer (some ⟨b, 0, none⟩)) hw rfl hn (pn_alloc hz) H k
/-- A store into a box of the call's own. -/
theorem s_sto {t : TypeId} {x y : Operand} {b off : Nat} {cs : List Value} {T v} (hw : Wn ops n L ⟨none, .store t x y, ty, p, af, g⟩) (hs : ∀ w, (sizeOf t).run P w = .ok 1 w) (hx : evL L x = some (.pointer (some ⟨b, off, none⟩))) (hy : evL L y = some v) (h1 : v.oneCell' = true)
    (H : Sep M w0 Δ F w) (i : Nat) (hi : Δ[i]? = some (box b (.cells cs.toArray T))) (ho : Nat.blt off cs.length = true)
    (k : ∀ w', Ext (· = b) w w' → Sep M w0 (Δ.set i (box b (.cells (cs.set off v).toArray T))) F w' → RL P n ops Q rest L w') :
    RL P n ops Q (⟨none, .store t x y, ty, p, af, g⟩ :: rest) L w := by
  have h := k _ (Ext.refl.put (.inl rfl)) (H.put i _ hi)
  rw [← List.setIfInBounds_toArray] at h
  exact s_do hw rfl (pd_store hs hx hy h1 (H.box i hi) (by rw [List.size_toArray]; exact Nat.le_of_ble_eq_true ho)) h
/-- These cells laid over the list's from off on. -/
def layL (cs : List Value) (off : Nat) (vs : List Value) : List Value := cs.take off ++ vs ++ cs.drop (off + vs.length)
theorem lay_layL {cs vs : List Value} {off : Nat} (h : off + vs.length ≤ cs.length) : lay cs.toArray off vs = (layL cs off vs).toArray := by
  apply Array.toList_inj.1
  rw [lay_toList _ _ _ (by simpa using h)]
  simp [layL]
def allOne : List Value → Bool
  | [] => true
  | v :: vs => v.oneCell' && allOne vs
theorem allOne_spec : ∀ {vs : List Value}, allOne vs = true → ∀ v ∈ vs, v.oneCell' = true
  | [], _, v, hv => by simp at hv
  | u :: vs, h, v, hv => by
    unfold allOne at h
    simp only [Bool.and_eq_true] at h
    rcases List.mem_cons.1 hv with rfl | hv
    · exact h.1
    · exact allOne_spec h.2 v hv
theorem s_stoS {t : TypeId} {x y : Operand} {b off sz : Nat} {cs : List Value} {T} {vs : List Value} (hw : Wn ops n L ⟨none, .store t x y, ty, p, af, g⟩) (hs : ∀ w, (sizeOf t).run P w = .ok sz w) (hx : evL L x = some (.pointer (some ⟨b, off, none⟩))) (hy : evL L y = some (.agg vs.toArray))
    (hl : vs.length = sz) (h1 : allOne vs = true) (H : Sep M w0 Δ F w) (i : Nat) (hi : Δ[i]? = some (box b (.cells cs.toArray T))) (ho : Nat.ble (off + sz) cs.length = true)
    (k : ∀ w', Ext (· = b) w w' → Sep M w0 (Δ.set i (box b (.cells (layL cs off vs).toArray T))) F w' → RL P n ops Q rest L w') :
    RL P n ops Q (⟨none, .store t x y, ty, p, af, g⟩ :: rest) L w := by
  have ho' := Nat.le_of_ble_eq_true ho
  have h := k _ (Ext.refl.put (.inl rfl)) (H.put i _ hi)
  rw [← lay_layL (by rw [hl]; exact ho')] at h
  exact s_do hw rfl (pd_storeS hs hx hy hl (allOne_spec h1) (H.box i hi) (by simpa using ho')) h
section
variable {α : Type} [Rp α]
/-- make([]T, n) -/
theorem s_make {t e : TypeId} {x : Operand} {z : Value} {bytes m : Nat} {y : α} (hw : Wn ops n L ⟨some d, .makeSlice t x x, ty, p, af, g⟩) (hn : Nat.blt d n = true) (ht : P.underlying t = some (.slice e)) (hT : Ty P e z (sz α) bytes) (hz : ∀ w, own true w z.cells.toList y [])
    (hx : evL L x = some (.int .i64 m)) (h48 : bytes * m ≤ 281474976710656) (h63 : m ≤ maxLen) (H : Sep M w0 Δ F w)
    (k : ∀ b w', Ext No w w' → w.heap.size ≤ b → Sep M w0 (Δ ++ [mine [.slice (some ⟨b, 0, none⟩) m m] (List.replicate m y) [b]]) F w' → RL P n ops Q rest ((d, .slice (some ⟨b, 0, none⟩) m m) :: L) w') :
    RL P n ops Q (⟨some d, .makeSlice t x x, ty, p, af, g⟩ :: rest) L w :=
  s_new hw rfl hn (pn_make ht hT hx h48 h63) (k _ _ (Ext.refl.alloc _) (Nat.le_refl _) (H.made hz h63))
/-- 'out = append(out, x)', x without memory of its own; the one-element slice of x lies in box j. -/
theorem s_app1 {x y : Operand} {t e : TypeId} {z : Value} {bytes : Nat} {v : Value} {xs : List α} {fp : List Nat} {b2 c2 : Nat} {T} {cs : List Value} {u : α} (hw : Wn ops n L ⟨some d, .call ⟨.builtin .append, #[x, y], #[t, t]⟩, ty, p, af, g⟩) (hn : Nat.blt d n = true)
    (ht : P.underlying t = some (.slice e)) (hT : Ty P e z (sz α) bytes) (hz : z.cells.size = sz α) (hx : evL L x = some v) (hy : evL L y = some (.slice (some ⟨b2, 0, none⟩) 1 c2))
    (H : Sep M w0 Δ F w) (i j : Nat) (hi : Δ[i]? = some (mine [v] xs fp)) (hj : Δ[j]? = some (box b2 (.cells cs.toArray T))) (hu : own true w cs u []) (h63 : xs.length + 1 ≤ maxLen) (hb48 : (xs.length + 1) * bytes ≤ 140737488355328)
    (k : ∀ v' w' fp', Sep M w0 (Δ.set i (mine [v'] (xs ++ [u]) fp')) F w' → RL P n ops Q rest ((d, v') :: L) w') :
    RL P n ops Q (⟨some d, .call ⟨.builtin .append, #[x, y], #[t, t]⟩, ty, p, af, g⟩ :: rest) L w := by
  obtain ⟨v', w', fp', h1, h2⟩ := H.app1 i hi (ty := ty) ht hT hz (At.whole (H.box j hj)) hu h63 hb48
  exact s_new hw rfl hn (pn_app hx hy h1) (k _ _ _ h2)
/-- 'out = append(out, x)': what x holds (number q) is now the list's. -/
theorem s_app2 {x y : Operand} {t e : TypeId} {z : Value} {bytes : Nat} {v : Value} {xs : List α} {fp : List Nat} {b2 c2 : Nat} {T} {cs : List Value} {u : α} {fu} (hw : Wn ops n L ⟨some d, .call ⟨.builtin .append, #[x, y], #[t, t]⟩, ty, p, af, g⟩) (hn : Nat.blt d n = true)
    (ht : P.underlying t = some (.slice e)) (hT : Ty P e z (sz α) bytes) (hz : z.cells.size = sz α) (hx : evL L x = some v) (hy : evL L y = some (.slice (some ⟨b2, 0, none⟩) 1 c2))
    (H : Sep M w0 Δ F w) (i j q : Nat) (hi : Δ[i]? = some (mine [v] xs fp)) (hj : Δ[j]? = some (box b2 (.cells cs.toArray T))) (hq : Δ[q]? = some (mine cs u fu)) (hqi : Nat.beq q i = false) (h63 : xs.length + 1 ≤ maxLen) (hb48 : (xs.length + 1) * bytes ≤ 140737488355328)
    (k : ∀ v' w' fp', Sep M w0 ((Δ.set q gone).set i (mine [v'] (xs ++ [u]) fp')) F w' → RL P n ops Q rest ((d, v') :: L) w') :
    RL P n ops Q (⟨some d, .call ⟨.builtin .append, #[x, y], #[t, t]⟩, ty, p, af, g⟩ :: rest) L w := by
  obtain ⟨v', w', fp', h1, h2⟩ := H.app2 i q hi (ty := ty) ht hT hz hq hqi (At.whole (H.box j hj)) h63 hb48
  exact s_new hw rfl hn (pn_app hx hy h1) (k _ _ _ h2)
/-- 'xs[k] = x', x without memory of its own. -/
theorem s_elst {t : TypeId} {x y : Operand} {b off : Nat} {v : Value} {ad : Option Addr} {len cap : Nat} {xs : List α} {fp : List Nat} {u : α} (hw : Wn ops n L ⟨none, .store t x y, ty, p, af, g⟩) (hs : ∀ w, (sizeOf t).run P w = .ok (sz α) w) (h1 : sz α = 1)
    (H : Sep M w0 Δ F w) (i : Nat) (hi : Δ[i]? = some (mine [.slice ad len cap] xs fp)) (q : Nat) (hq : q < xs.length) (hx : evL L x = some (.pointer (some ⟨b, off + q * sz α, none⟩))) (had : ad = some ⟨b, off, none⟩) (hy : evL L y = some v) (hu : own true w [v] u [])
    (k : ∀ w' fp', Ext (· = b) w w' → Sep M w0 (Δ.set i (mine [.slice ad len cap] (xs.set q u) fp')) F w' → RL P n ops Q rest L w') :
    RL P n ops Q (⟨none, .store t x y, ty, p, af, g⟩ :: rest) L w := by
  obtain ⟨b', o', cur, T, e1, hb, hsz, hk⟩ := H.elset i hi q hq
  rw [had] at e1
  simp only [Option.some.injEq, Addr.mk.injEq, and_true] at e1
  obtain ⟨rfl, rfl⟩ := e1
  obtain ⟨fp', h⟩ := hk [v] u hu
  refine s_do hw rfl (pd_store (by rw [h1] at hs; exact hs) hx hy (Rp.one hu v (by simp)) hb (by omega)) ?_
  exact k _ fp' (Ext.refl.put (.inl rfl)) h
end
/-- A call whose value is known. -/
theorem s_callv {o : Oper} {f : FuncId} {args : Array Value} {x : Value} (hw : Wn ops n L o) (hd : o.dst = some d) (hn : Nat.blt d n = true) (hp : Pc P n L w o f args)
    (hc : Ret P f args w fun v w' => Ext No w w' ∧ v = x) (k : ∀ w', Ext No w w' → RL P n ops Q rest ((d, x) :: L) w') : RL P n ops Q (o :: rest) L w :=
  s_call hw hd hn hp hc fun _ w' h => by obtain ⟨h1, rfl⟩ := h; exact k w' h1
/-- A literal of a slice: one value behind the other. -/
theorem pn_lit {t e : TypeId} {z : Value} {size bytes len : Nat} {d : Option Tmp} {parts : Array (Nat × Operand)} {vs : List Value} (ht : P.underlying t = some (.slice e)) (hT : Ty P e z size bytes) (hs : 0 < size)
    (hl : vs.length = len) (hp : ∀ a, Good n a L → (parts.map fun (i, x) => (i, a.eval x)).toList = (vs.zipIdx 0).map fun x => (x.2, x.1)) (h1 : ∀ v ∈ vs, v.cells.size = size) (h0 : 0 < len) (hsmall : len * size ≤ 2 ^ 24) :
    Pn P n L w ⟨d, .buildSlice t len parts, ty, p, af, g⟩ (.slice (some ⟨w.heap.size, 0, none⟩) len len) (w.alloc (.cells (vs.flatMap fun v => v.cells.toList).toArray e)) := fun a ha => by
  obtain ⟨i, hi1, hi2, hi3, hi4⟩ := hT.parts
  have hne : ¬ len * i.size = 0 := by rw [hi3]; exact Nat.ne_of_gt (Nat.mul_pos h0 hs)
  have hr := run_buildSlice (P := P) w t e len (parts.map fun (i, x) => (i, a.eval x)) (vs.flatMap fun v => v.cells.toList).toArray i z ht hi1 hi2 (by rw [hi3]; omega) hne (by
    rw [hp a ha, hi3]
    exact Great.fill_whole hs vs _ h1 (by rw [hl]; simp))
  simp [execOp] at hr ⊢
  rw [hr]
  rfl
/-- Of one value. -/
theorem parts_one {x : Operand} {v : Value} (hx : evL L x = some v) : ∀ a, Good n a L → ((#[(0, x)] : Array (Nat × Operand)).map fun (i, x) => (i, a.eval x)).toList = (([v] : List Value).zipIdx 0).map fun x => (x.2, x.1) := fun a ha => by
  simp [ha.eval hx]
theorem s_lit1 {t e : TypeId} {x : Operand} {z v : Value} {size bytes : Nat} (hw : Wn ops n L ⟨some d, .buildSlice t 1 #[(0, x)], ty, p, af, g⟩) (hn : Nat.blt d n = true) (ht : P.underlying t = some (.slice e)) (hT : Ty P e z size bytes) (hs : Nat.blt 0 size = true)
    (hx : evL L x = some v) (h1 : v.cells.size = size) (hsmall : Nat.ble size 16777216 = true) (H : Sep M w0 Δ F w)
    (k : ∀ b w', Ext No w w' → w.heap.size ≤ b → Sep M w0 (Δ ++ [box b (.cells v.cells.toList.toArray e)]) F w' → RL P n ops Q rest ((d, .slice (some ⟨b, 0, none⟩) 1 1) :: L) w') :
    RL P n ops Q (⟨some d, .buildSlice t 1 #[(0, x)], ty, p, af, g⟩ :: rest) L w := by
  have hp := pn_lit (n := n) (w := w) (ty := ty) (p := p) (af := af) (g := g) (d := some d) (parts := #[(0, x)]) (vs := [v]) (len := 1) ht hT (Nat.le_of_ble_eq_true hs) rfl (parts_one hx) (by simpa using h1) (by omega) (by have := Nat.le_of_ble_eq_true hsmall; omega)
  simp only [List.flatMap_cons, List.flatMap_nil, List.append_nil] at hp
  exact s_alloc (v := fun b => .slice (some ⟨b, 0, none⟩) 1 1) hw rfl hn hp H k
theorem pn_lit0 {t e : TypeId} {z : Value} {size bytes : Nat} {d : Option Tmp} (ht : P.underlying t = some (.slice e)) (hT : Ty P e z size bytes) :
    Pn P n L w ⟨d, .buildSlice t 0 #[], ty, p, af, g⟩ (.slice (some ⟨w.heap.size, 0, none⟩) 0 0) (w.alloc (.cells #[] e)) := fun a ha => by
  obtain ⟨i, hi1, hi2, hi3, hi4⟩ := hT.parts
  simp [execOp, Instr.buildSlice, run_underlying ht, sizeOf, typeInfo, hi1, Instr.fill, newRow, newObj, Array.range_zero']
  rfl
theorem s_lit0 {α : Type} [Rp α] {t e : TypeId} {z : Value} {size bytes : Nat} (hw : Wn ops n L ⟨some d, .buildSlice t 0 #[], ty, p, af, g⟩) (hn : Nat.blt d n = true) (ht : P.underlying t = some (.slice e)) (hT : Ty P e z size bytes) (H : Sep M w0 Δ F w)
    (k : ∀ b w', Ext No w w' → w.heap.size ≤ b → Sep M w0 (Δ ++ [mine [.slice (some ⟨b, 0, none⟩) 0 0] ([] : List α) [b]]) F w' → RL P n ops Q rest ((d, .slice (some ⟨b, 0, none⟩) 0 0) :: L) w') :
    RL P n ops Q (⟨some d, .buildSlice t 0 #[], ty, p, af, g⟩ :: rest) L w :=
  s_new hw rfl hn (pn_lit0 ht hT) (k _ _ (Ext.refl.alloc _) (Nat.le_refl _) (H.add (Ext.refl.alloc _) (r := mine [.slice (some ⟨w.heap.size, 0, none⟩) 0 0] ([] : List α) [w.heap.size])
    (.inr (.inr ⟨w.heap.size, 0, 0, #[], e, (0, 0), [], rfl, rfl, heap_alloc_new _ _, fun _ => rfl, Nat.le_refl _, Nat.zero_le _, by simp, rfl⟩)) (by simp [mine]) (by simp [mine])))
theorem py_build {t : TypeId} {parts : Array (Nat × Operand)} {d : Option Tmp} {cells : Array Value} (hb : ∀ a, Good n a L → P.built t (parts.map fun (i, x) => (i, a.eval x)).toList = some cells) :
    Py P n L w ⟨d, .build t parts, ty, p, af, g⟩ (.agg cells) := fun a ha => by
  have hr := run_build (P := P) w t _ cells (hb a ha)
  simp [execOp] at hr ⊢
  rw [hr]
  rfl
end
end Go.Wk
