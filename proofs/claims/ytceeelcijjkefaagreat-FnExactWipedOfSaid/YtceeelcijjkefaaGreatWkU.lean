/-
  Calls of function values; strings of bytes; room made ahead. No program is named here.
-/
import Derived.Test.YtceeelcijjkefaaGreatWkS
import Derived.Laws.BytesArg
set_option linter.unusedVariables false
set_option linter.unusedSimpArgs false
namespace Go.Wk
open Rp (sz own)
section
variable {P : Program} {n : Nat} {L : Env} {w : World} {d : Option Tmp} {ty : TypeId} {p : String} {af : Array Edge} {g : Option (Nat × Bool)}
theorem pc_callv {f : FuncId} {fn : Func} {x : Operand} {xs : Array Operand} {ats : Array TypeId} {vs lb : List Value} (hx : evL L x = some (.func (.func f) #[] lb.toArray)) (hf : P.funcs[f]? = some fn) (hb : fn.body.isNone = false) (hnm : (fn.name == "runtime.NumGoroutine") = false)
    (hv : evLs L xs.toList = some vs) : Pc P n L w ⟨d, .call ⟨.value x, xs, ats⟩, ty, p, af, g⟩ f (vs ++ lb).toArray := fun a ha => by
  have hm : xs.map a.eval = vs.toArray := by
    have key : ∀ (l : List Operand) (vs : List Value), evLs L l = some vs → l.map a.eval = vs := by
      intro l
      induction l with
      | nil => intro vs h; simp [evLs] at h; simp [h]
      | cons x l ih =>
        intro vs h
        unfold evLs at h
        split at h
        · rename_i v us hv hus
          cases h
          simp [ha.eval hv, ih us hus]
        · cases h
    have := key _ _ hv
    apply Array.toList_inj.1
    simpa using this
  have hb' : ¬ fn.body = none := fun e => by rw [e] at hb; simp at hb
  have hnm' : ¬ fn.name = "runtime.NumGoroutine" := fun e => by rw [e] at hnm; simp at hnm
  simp [execOp, resolve, Deferred.ofValue, invoke, callFunc, hf, hb', hnm', hm, ha.eval hx]
theorem pc_callv0 {f : FuncId} {fn : Func} {x : Operand} {xs : Array Operand} {ats : Array TypeId} {vs : List Value} (hx : evL L x = some (.func (.func f) #[] #[])) (hf : P.funcs[f]? = some fn) (hb : fn.body.isNone = false) (hnm : (fn.name == "runtime.NumGoroutine") = false)
    (hv : evLs L xs.toList = some vs) : Pc P n L w ⟨d, .call ⟨.value x, xs, ats⟩, ty, p, af, g⟩ f vs.toArray := by
  have := pc_callv (n := n) (w := w) (d := d) (ty := ty) (p := p) (af := af) (g := g) (ats := ats) (lb := []) hx hf hb hnm hv
  rwa [List.append_nil] at this
/-! ### Strings of bytes -/
def strB (xs : List UInt8) : ByteArray := ⟨xs.toArray⟩
theorem strB_inj {xs ys : List UInt8} : strB xs = strB ys ↔ xs = ys := by
  constructor
  · intro h
    have : (strB xs).data.toList = (strB ys).data.toList := by rw [h]
    simpa [strB] using this
  · rintro rfl; rfl
theorem strB_size (xs : List UInt8) : (strB xs).size = xs.length := by simp [strB, ByteArray.size]
theorem strOf (xs : List UInt8) : strOfNums (xs.map fun x => (x.toNat : Int)) = strB xs := by
  simp only [strOfNums, strB, List.map_map]
  congr 2
  refine (List.map_congr_left (g := id) fun a _ => ?_).trans (List.map_id xs)
  simp
theorem run_b2s {src e dst : TypeId} (hs : P.underlying src = some (.slice e)) (he : P.underlying e = some (.int .u8)) (hd : P.underlying dst = some .string) {s ad n cap} {xs : List UInt8} {f} (h : own s w [.slice ad n cap] xs f) :
    (convert src dst (.slice ad n cap)).run P w = .ok (.string (strB xs)) w := by
  obtain rfl := own_n h
  cases ad with
  | none =>
    have : xs = [] := by
      by_cases h0 : 0 < xs.length
      · obtain ⟨_, _, _, _, e, _⟩ := own_all h h0; cases e
      · exact List.eq_nil_of_length_eq_zero (by omega)
    subst this
    rw [run_convert_bytes_nil w src e hs he _ _ dst hd]
    rfl
  | some a =>
    by_cases h0 : 0 < xs.length
    · obtain ⟨b, o, _, _, e1, _⟩ := own_all h h0
      cases e1
      rw [run_convert_bytes_arg w src e hs he b o xs.length cap (xs.map fun x => (x.toNat : Int)) (by simp) (fun i hi => ?_) dst hd, strOf]
      obtain ⟨b2, o2, e2, hc⟩ := elem_u8 h i hi
      cases e2
      rw [Nat.mul_one] at hc
      rw [hc]
      simp [List.getD, hi]
    · have : xs = [] := List.eq_nil_of_length_eq_zero (by omega)
      subst this
      rw [run_convert_bytes_string w src dst e _ _ cap hs he hd, run_bytesToString w _ _ cap [] (by simp [loadCells, loadCellsFrom])]
      rfl
theorem py_b2s {src e dst : TypeId} {x : Operand} {s ad m cap} {xs : List UInt8} {f} (hs : P.underlying src = some (.slice e)) (he : P.underlying e = some (.int .u8)) (hd : P.underlying dst = some .string) (hx : evL L x = some (.slice ad m cap))
    (h : own s w [.slice ad m cap] xs f) : Py P n L w ⟨d, .convert src dst x, ty, p, af, g⟩ (.string (strB xs)) := fun a ha => by
  simp [execOp, ha.eval hx, run_b2s hs he hd h]
/-! ### Room made ahead -/
theorem slA_zero {b o m s : Nat} : slA (some ⟨b, o, none⟩) 0 m s = some ⟨b, o, none⟩ := by
  unfold slA; split
  · rfl
  · simp [add_lit]
theorem py_slc0 {t e : TypeId} {x hi : Operand} {b o len cap s : Nat} {k2 : IntKind} {h : Int} (hu : P.underlying t = some (.slice e)) (hs : ∀ w, (sizeOf e).run P w = .ok s w)
    (hx : evL L x = some (.slice (some ⟨b, o, none⟩) len cap)) (hh : evL L hi = some (.int k2 h)) (h' : Nat) (eh : h = h') (h2 : h' ≤ cap) :
    Py P n L w ⟨d, .slice t x none (some hi) none, ty, p, af, g⟩ (.slice (some ⟨b, o, none⟩) h' cap) := by
  have := py_slcH (n := n) (w := w) (d := d) (ty := ty) (p := p) (af := af) (g := g) hu hs hx hh h' eh h2
  rwa [slA_zero] at this
theorem run_appmake {t u e : TypeId} {z : Value} {size bytes m : Nat} (ht : P.underlying t = some (.slice e)) (hu : P.underlying u = some (.int .i64)) (hT : Ty P e z size bytes) (hz : z.cells.size = size) (h0 : 0 < m * size) (h63 : m ≤ 4611686018427387904) (h48 : m * bytes ≤ 140737488355328) :
    (Builtin.append_ #[t, u] ty #[.slice none 0 0, .int .i64 m]).run P w =
      .ok (.slice (some ⟨w.heap.size, 0, none⟩) m (grownCap w m 0 e)) (w.drew.alloc (.cells (Builtin.zeroCells z.cells m ++ Builtin.zeroCells z.cells (grownCap w m 0 e - m)) e)) := by
  obtain ⟨i, hi1, hi2, hi3, hi4⟩ := hT.parts
  have hm0 : 0 < m := by
    cases m with
    | zero => simp at h0
    | succ k => omega
  have hn : m ≠ 0 := by omega
  have hs0 : size ≠ 0 := fun e => by subst e; simp at h0
  have h63' : ¬ (9223372036854775807 < (m : Int)) := by omega
  have hw := in64 (x := (m : Int)) ⟨by omega, by omega⟩
  have hneg : ¬ ((m : Int) < 0) := by omega
  have h48' : ¬ (281474976710656 < Builtin.nextslicecap m 0 * bytes) := by rw [nextslicecap_zero hm0]; omega
  have h48'' : ¬ (281474976710656 < (m : Int) * (bytes : Int)) := by
    have : ((m * bytes : Nat) : Int) = (m : Int) * bytes := Int.natCast_mul _ _
    omega
  simp [Builtin.append_, run_underlying ht, run_underlying hu, sizeOf, typeInfo, zeroValue, hi1, hi2, hi3, hi4, Builtin.lenOf, hn, hs0, hw, hneg, h63', h48', h48'', Question.forced, run_firstCells_none, newRow, grownCap, asInt, asIntOf]
  intro h; omega
end
section
variable {P : Program} {n : Nat} {ops : Array Oper} {Q : Post} {L : Env} {w w0 : World} {M : Nat → Prop} {Δ F : List Rsc} {d : Tmp} {ty : TypeId} {p : String} {af : Array Edge} {g : Option (Nat × Bool)} {rest : List Oper} {α : Type} [Rp α]
/-- 'append([]T(nil), make([]T, m)...)': to be cut to nothing: room ahead. -/
theorem s_room {x y : Operand} {t u e : TypeId} {z : Value} {bytes m : Nat} (hw : Wn ops n L ⟨some d, .call ⟨.builtin .append, #[x, y], #[t, u]⟩, ty, p, af, g⟩) (hn : Nat.blt d n = true)
    (ht : P.underlying t = some (.slice e)) (hu : P.underlying u = some (.int .i64)) (hT : Ty P e z (sz α) bytes) (hz : z.cells.size = sz α) (hx : evL L x = some (.slice none 0 0)) (hy : evL L y = some (.int .i64 m))
    (H : Sep M w0 Δ F w) (h0 : 0 < m) (h63 : m ≤ 4611686018427387904) (h48 : m * bytes ≤ 140737488355328)
    (k : ∀ b c w', m ≤ c → Sep M w0 (Δ ++ [mine [.slice (some ⟨b, 0, none⟩) 0 c] ([] : List α) [b]]) F w' → RL P n ops Q rest ((d, .slice (some ⟨b, 0, none⟩) m c) :: L) w') :
    RL P n ops Q (⟨some d, .call ⟨.builtin .append, #[x, y], #[t, u]⟩, ty, p, af, g⟩ :: rest) L w := by
  have hsz := Rp.pos (α := α)
  have hr := run_appmake (w := w) (ty := ty) ht hu hT hz (Nat.mul_pos h0 hsz) h63 h48
  have hge := grownCap_ge w m 0 e
  have hcm : grownCap w m 0 e ≤ maxLen := grownCap_le_maxLen w m 0 e (by unfold maxLen; omega)
  refine s_new hw rfl hn (pn_app hx hy hr) (k _ _ _ hge ?_)
  have e1 : Ext No w (w.drew.alloc (.cells (Builtin.zeroCells z.cells m ++ Builtin.zeroCells z.cells (grownCap w m 0 e - m)) e)) := (Ext.refl.drawn _).alloc _
  refine H.add e1 (r := Wk.mine [.slice (some ⟨w.heap.size, 0, none⟩) 0 (grownCap w m 0 e)] ([] : List α) [w.heap.size]) (.inr (.inr ⟨w.heap.size, 0, _, _, e, (0, 0), [], rfl, rfl, heap_alloc_new w.drew _, fun _ => rfl, Nat.zero_le _, hcm, ?_, rfl⟩)) (by simp [Wk.mine]) (by simp [Wk.mine])
  simp only [Array.size_append, size_zeroCells, hz, ← Nat.add_mul, Nat.zero_add]
  exact Nat.le_of_eq (by congr 1; omega)
end
end Go.Wk
