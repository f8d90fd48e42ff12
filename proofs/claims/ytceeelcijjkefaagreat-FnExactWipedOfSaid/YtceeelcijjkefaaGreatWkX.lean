/-
  Sums of rows; a box that a call changes; literals of numbers. No program is named here.
-/
import Derived.Test.YtceeelcijjkefaaGreatWkW
set_option linter.unusedVariables false
set_option linter.unusedSimpArgs false
namespace Go.Wk
open Rp (sz own)
/-! ### Sums of rows -/
theorem addG_assoc {a b c : List UInt8} : addG (addG a b) c = addG a (addG b c) := by
  unfold addG
  induction a generalizing b c with
  | nil => simp
  | cons x a ih => cases b <;> cases c <;> simp [ih, UInt8.xor_assoc]
theorem addG_four {a b c d : List UInt8} : addG (addG a b) (addG c d) = addG (addG a c) (addG b d) := by
  rw [addG_assoc, addG_assoc, ← addG_assoc (a := b), ← addG_assoc (a := c), addG_comm (xs := b) (ys := c)]
theorem scaleG_add {a b : List UInt8} {c : UInt8} : scaleG (addG a b) c = addG (scaleG a c) (scaleG b c) := by
  unfold scaleG addG
  induction a generalizing b with
  | nil => simp
  | cons x a ih => cases b <;> simp [ih, mul_xor_l]
theorem cut_add {xs ys : List UInt8} {l h : Nat} : cut (addG xs ys) l h = addG (cut xs l h) (cut ys l h) := by
  unfold cut addG; rw [List.drop_zipWith, List.take_zipWith]
theorem replicate_add {n : Nat} : addG (List.replicate n 0) (List.replicate n 0) = List.replicate n 0 := addG_zero_l (by simp)
theorem mixTo_add {ls ms ns : List (List UInt8)} {cs : List UInt8} {n : Nat} (h : ∀ i, ns.getD i [] = addG (ls.getD i []) (ms.getD i [])) : ∀ {k : Nat}, mixTo ns cs n k = addG (mixTo ls cs n k) (mixTo ms cs n k)
  | 0 => replicate_add.symm
  | k + 1 => by
    rw [mixTo, mixTo, mixTo, mixTo_add h, h k, scaleG_add, addG_four]
theorem addG_nil : addG [] [] = [] := rfl
theorem chunks_add {xs ys : List UInt8} {m q : Nat} (i : Nat) : (chunks (addG xs ys) m q).getD i [] = addG ((chunks xs m q).getD i []) ((chunks ys m q).getD i []) := by
  by_cases h : i < q
  · rw [chunks_get h, chunks_get h, chunks_get h, cut_add]
  · simp [chunks, List.getD, h, addG_nil]
theorem encK_add {xs ys : List UInt8} {n : Nat} {k : Int} : encK (addG xs ys) n k = addG (encK xs n k) (encK ys n k) := by
  unfold encK
  rw [chunks_len, chunks_len, chunks_len]
  exact mixTo_add chunks_add
theorem encG_at {n m : Nat} {xs : List UInt8} {i : Nat} (h : i < m) : (encG n m xs).getD i [] = encK xs n i := by simp [encG, List.getD, h]
theorem shift_enc {n m : Nat} {xs ys : List UInt8} : shiftL (encG n m ys) (encG n m xs) = encG n m (addG xs ys) := by
  unfold shiftL
  rw [encG_len]
  show _ = (List.range m).map _
  refine List.map_congr_left fun i hi => ?_
  have hi' : i < m := by simpa using hi
  rw [encG_at hi', encG_at hi', encK_add]
theorem encG_whole {n s : Nat} {xs : List UInt8} (h : xs.length = n * 4) : wholeL ((n : Int) + s) (encG n (n + s) xs) = true := by
  rw [wholeL_all fun i hi => encG_lens h i (by rw [encG_len] at hi; exact hi), encG_len]
  simp
theorem shiftRow_enc {d s : Int} {xs ys : List UInt8} (h : rOK d s = true) (hx : (xs.length : Int) = d * 4) (hy : ys.length = xs.length) :
    shiftRow d s (encodeRow d s xs).Blocks ys = encodeRow d s (addG xs ys) := by
  have hb := rOK_bd h
  rw [encodeRow_full h hx, encodeRow_full h (by rw [addG_len (by omega)]; exact hx)]
  have hw := encG_whole (n := d.toNat) (s := s.toNat) (xs := xs) (by omega)
  rw [show ((d.toNat : Int) + (s.toNat : Int)) = d + s by omega] at hw
  rw [shiftRow, if_pos h, if_pos ⟨hw, by omega⟩, shift_enc]
/-! ### Boxes that a call changes -/
def BoxTo (w w' : World) (b : Nat) (o : Obj) : Prop := Ext (· = b) w w' ∧ w'.heap[b]? = some o
section
variable {M : Nat → Prop} {w0 w w' : World} {Δ F : List Rsc}
theorem Sep.putBox (h : Sep M w0 Δ F w) (i : Nat) {b : Nat} {o o' : Obj} (hi : Δ[i]? = some (Wk.box b o)) (e : Ext (· = b) w w') (hb : w'.heap[b]? = some o') : Sep M w0 (Δ.set i (Wk.box b o')) F w' :=
  h.set hi (q := Wk.box b o') (e.mono fun x _ hx => by simp [Wk.box, hx]) hb (by simp [Wk.box]) fun x hx => .inl hx
theorem Sep.beginBox {b : Nat} {o : Obj} (hb : w.heap[b]? = some o) : Sep (· = b) w [Wk.box b o] [] w :=
  ⟨Ext.refl, by intro r hr; simp at hr; subst hr; exact hb, by simp [blocks, Wk.box], fun x hx => .inl (by simpa [blocks, Wk.box] using hx), by simp, by simp⟩
theorem Sep.newBox (h : Sep M w0 Δ F w) (e : Ext No w w') {b : Nat} {o : Obj} (hb : w'.heap[b]? = some o) (hf : w.heap.size ≤ b) : Sep M w0 (Δ ++ [Wk.box b o]) F w' :=
  h.add e (r := Wk.box b o) hb (by simp [Wk.box]) (by simpa [Wk.box] using hf)
theorem Sep.offb (h : Sep M w0 Δ F w) (j : Nat) {r : Rsc} (hj : F[j]? = some r) (i : Nat) {b : Nat} {o : Obj} (hi : Δ[i]? = some (Wk.box b o)) : ∀ x ∈ r.fp, x ≠ b := fun x hx e => by
  subst e
  exact h.ap r (List.mem_of_getElem? hj) x hx (mem_blocks.2 ⟨_, List.mem_of_getElem? hi, by simp [Wk.box]⟩)
theorem Sep.outB {α : Type} [Rp α] {b : Nat} {o : Obj} (h : Sep (· = b) w0 Δ F w) (j : Nat) (hj : Δ[j]? = some (Wk.box b o)) (i : Nat) {cs : List Value} {x : α} {fp : List Nat} (hi : Δ[i]? = some (Wk.mine cs x fp)) (hij : Nat.beq j i = false) : Res w0 w cs x := by
  refine ⟨fp, h.mine i hi, h.nodup1 hi, fun y hy => ?_⟩
  rcases h.new y (mem_blocks.2 ⟨_, List.mem_of_getElem? hi, hy⟩) with e | e
  · subst e
    exact absurd hy (h.apart hi hj hij y (by simp [Wk.box]))
  · exact e
end
/-- A box changed, and something new beside it. -/
theorem Sep.resBox {α : Type} [Rp α] {M : Nat → Prop} {w0 w w' : World} {Δ F : List Rsc} (h : Sep M w0 Δ F w) (i : Nat) {b : Nat} {o o' : Obj} (hi : Δ[i]? = some (Wk.box b o)) (e : Ext (· = b) w w') (hb : w'.heap[b]? = some o') {cs : List Value} {x : α} (hr : Res w w' cs x) :
    ∃ fp, Sep M w0 (Δ.set i (Wk.box b o') ++ [Wk.mine cs x fp]) F w' := by
  obtain ⟨fp, h1, h2, h3⟩ := hr
  have hp := h.putBox i hi e hb
  have hb' : b ∈ blocks (Δ.set i (Wk.box b o')) := mem_blocks.2 ⟨_, List.mem_of_getElem? (List.getElem?_set_self (List.getElem?_eq_some_iff.1 hi).1), by simp [Wk.box]⟩
  have hlt : ∀ x ∈ blocks (Δ.set i (Wk.box b o')), x < w.heap.size := fun x hx => by
    rcases blocks_set hi x hx with hx | hx
    · simp only [Wk.box, List.mem_singleton] at hx
      subst hx
      exact h.lt _ (mem_blocks.2 ⟨_, List.mem_of_getElem? hi, by simp [Wk.box]⟩)
    · exact h.lt x hx
  refine ⟨fp, hp.ext, fun r hr => ?_, ?_, fun x hx => ?_, hp.fs, fun r hr x hx hx2 => ?_⟩
  · rcases List.mem_append.1 hr with hr | hr
    · exact hp.rs r hr
    · simp at hr; subst hr; exact h1
  · rw [blocks_append]
    refine List.nodup_append.2 ⟨hp.nd, by simpa [blocks, Wk.mine] using h2, fun x hx y hy e => ?_⟩
    subst e
    have := hlt x hx
    have := h3 x (by simpa [blocks, Wk.mine] using hy)
    omega
  · rw [blocks_append] at hx
    rcases List.mem_append.1 hx with hx | hx
    · exact hp.new x hx
    · have := h3 x (by simpa [blocks, Wk.mine] using hx)
      have := h.ext.size
      exact .inr (by omega)
  · rw [blocks_append] at hx2
    rcases List.mem_append.1 hx2 with hx2 | hx2
    · exact hp.ap r hr x hx hx2
    · have h4 := h3 x (by simpa [blocks, Wk.mine] using hx2)
      have := r.lt (h.fs r hr) x hx
      omega
section
variable {P : Program} {n : Nat} {L : Env} {w : World} {d : Option Tmp} {ty : TypeId} {p : String} {af : Array Edge} {g : Option (Nat × Bool)}
theorem py_fld {s : TypeId} {fs : Array Field} {x : Operand} {i : Nat} {f : Field} {td : TypeDesc} {cs : Array Value} {v : Value} (hu : P.underlying s = some (.struct fs)) (hf : fs[i]? = some f) (ht : P.underlying f.type = some td) (h1 : single td = true)
    (hx : evL L x = some (.agg cs)) (hv : cs[f.offset]? = some v) : Py P n L w ⟨d, .field s x i, ty, p, af, g⟩ v := fun a ha => by
  simp [execOp, ha.eval hx, Instr.field, run_underlying hu, hf, part, asAgg, run_isAgg ht, h1, hv]
theorem py_fldS {s : TypeId} {fs : Array Field} {x : Operand} {i sz : Nat} {f : Field} {td : TypeDesc} {cs : Array Value} (hu : P.underlying s = some (.struct fs)) (hf : fs[i]? = some f) (ht : P.underlying f.type = some td) (hs : ∀ w, (sizeOf f.type).run P w = .ok sz w) (h1 : single td = false)
    (hx : evL L x = some (.agg cs)) : Py P n L w ⟨d, .field s x i, ty, p, af, g⟩ (.agg (cs.extract f.offset (f.offset + sz))) := fun a ha => by
  simp [execOp, ha.eval hx, Instr.field, run_underlying hu, hf, part, asAgg, run_isAgg ht, h1, hs]
theorem run_eql_slnil {t e : TypeId} {a : Option Addr} {m c : Nat} (hu : P.underlying t = some (.slice e)) : (binOp .eql t (.slice a m c) (.slice none 0 0)).run P w = .ok (.bool a.isNone) w := by
  have h : ∀ d, (Op.equalIn (d + 1) t (.slice a m c) (.slice none 0 0)).run P w = .ok a.isNone w := by
    intro d; cases a <;> simp [Op.equalIn, run_underlying hu]
  have h2 : (Op.equal t (.slice a m c) (.slice none 0 0)).run P w = .ok a.isNone w := h 9999
  simp only [binOp]
  simp [h2]
theorem py_slnil {t e : TypeId} {x y : Operand} {yt : TypeId} {a : Option Addr} {m c : Nat} (hu : P.underlying t = some (.slice e)) (hx : evL L x = some (.slice a m c)) (hy : evL L y = some (.slice none 0 0)) :
    Py P n L w ⟨d, .binOp .eql t x y yt, ty, p, af, g⟩ (.bool a.isNone) := fun a ha => by
  simp [execOp, ha.eval hx, ha.eval hy, eqGuard, run_eql_slnil hu]
end
theorem own_none {α : Type} [Rp α] {s w ad m c} {xs : List α} {f} (h : own s w [.slice ad m c] xs f) (ha : ad.isNone = true) : xs = [] := by
  by_cases h0 : 0 < xs.length
  · obtain ⟨b, o, _, _, e, _⟩ := own_all h h0
    subst e; simp at ha
  · exact List.eq_nil_of_length_eq_zero (by omega)
theorem bytes_out {w0 w : World} {F : List Rsc} {a : Option Addr} {n c : Nat} {qs : List UInt8} {f : List Nat} {k : Int} (h : Sep No w0 [mine [.slice a n c] qs f] F w) (hk : I64ok k) :
    n = qs.length ∧ Res w0 w [.int .i64 k, .slice a qs.length c] (⟨k, qs⟩ : BytesResult) := by
  have hn := own_n (h.mine 0 rfl)
  subst hn
  exact ⟨rfl, BytesResult.out (x := ⟨k, qs⟩) h hk⟩
theorem tdiv_bd {a b : Int} (h : 0 ≤ a) (hb : 0 < b) : 0 ≤ a.tdiv b ∧ a.tdiv b ≤ a := by
  rw [Int.tdiv_eq_ediv_of_nonneg h]
  exact ⟨Int.ediv_nonneg h (by omega), Int.ediv_le_self _ h⟩
theorem tmod_bd {a b : Int} (h : 0 ≤ a) (hb : 0 < b) : 0 ≤ a.tmod b ∧ a.tmod b < b := ⟨Int.tmod_nonneg _ h, Int.tmod_lt_of_pos _ hb⟩
/-! ### Literals of numbers -/
theorem own_ints {w : World} : ∀ {xs : List Int}, (∀ x ∈ xs, I64ok x) → ownL true w (xs.map (Value.int .i64)) xs []
  | [], _ => rfl
  | x :: xs, h => ⟨[], [], rfl, ⟨by simp [sz], rfl, h x (by simp)⟩, by simpa [sz] using own_ints (w := w) (xs := xs) fun y hy => h y (by simp [hy])⟩
section
variable {P : Program} {n : Nat} {ops : Array Oper} {Q : Post} {L : Env} {w w0 : World} {M : Nat → Prop} {Δ F : List Rsc} {rest : List Oper} {d : Nat} {ty : TypeId} {p : String} {af : Array Edge} {g : Option (Nat × Bool)}
theorem s_litI {t e : TypeId} {parts : Array (Nat × Operand)} {z : Value} {bytes : Nat} (xs : List Int) (hw : Wn ops n L ⟨some d, .buildSlice t xs.length parts, ty, p, af, g⟩) (hn : Nat.blt d n = true) (ht : P.underlying t = some (.slice e)) (hT : Ty P e z 1 bytes)
    (hix : parts.toList.map (·.1) = List.range xs.length) (hv : evLs L (parts.toList.map (·.2)) = some (xs.map (Value.int .i64))) (hk : ∀ x ∈ xs, I64ok x) (h0 : 0 < xs.length) (hl : xs.length ≤ 1000) (H : Sep M w0 Δ F w)
    (k : ∀ b w', Ext No w w' → w.heap.size ≤ b → Sep M w0 (Δ ++ [mine [.slice (some ⟨b, 0, none⟩) xs.length xs.length] xs [b]]) F w' → RL P n ops Q rest ((d, .slice (some ⟨b, 0, none⟩) xs.length xs.length) :: L) w') :
    RL P n ops Q (⟨some d, .buildSlice t xs.length parts, ty, p, af, g⟩ :: rest) L w := by
  have hparts : ∀ a, Good n a L → (parts.map fun (i, x) => (i, a.eval x)).toList = ((xs.map (Value.int .i64)).zipIdx 0).map fun x => (x.2, x.1) := fun a ha => by
    have key : ∀ (l : List (Nat × Operand)) (vs : List Value) (k : Nat), l.map (·.1) = List.range' k vs.length → evLs L (l.map (·.2)) = some vs → l.map (fun x => (x.1, a.eval x.2)) = (vs.zipIdx k).map fun x => (x.2, x.1) := by
      intro l
      induction l with
      | nil => intro vs k h1 h2; simp [evLs] at h2; subst h2; rfl
      | cons x l ih =>
        intro vs k h1 h2
        simp only [List.map_cons] at h1 h2 ⊢
        unfold evLs at h2
        split at h2
        · rename_i v us hv hus
          cases h2
          rw [List.length_cons, List.range'_succ] at h1
          simp only [List.cons.injEq] at h1
          rw [List.zipIdx_cons, List.map_cons, ← ih us (k + 1) h1.2 hus, ha.eval hv, h1.1]
        · cases h2
    rw [Array.toList_map]
    refine key parts.toList _ 0 ?_ hv
    rw [hix, List.length_map, List.range_eq_range']
  have hp := pn_lit (n := n) (w := w) (ty := ty) (p := p) (af := af) (g := g) (d := some d) (parts := parts) (vs := xs.map (Value.int .i64)) (len := xs.length) ht hT (by omega) (by simp) hparts (by intro v hv; simp at hv; obtain ⟨x, _, rfl⟩ := hv; rfl) h0 (by omega)
  refine s_new hw rfl hn hp (k _ _ (Ext.refl.alloc _) (Nat.le_refl _) ?_)
  refine H.add (Ext.refl.alloc _) (r := Wk.mine [.slice (some ⟨w.heap.size, 0, none⟩) xs.length xs.length] xs [w.heap.size]) (.inr (.inr ⟨w.heap.size, 0, _, _, e, (0, 0), [], rfl, rfl, heap_alloc_new w _, fun _ => rfl, Nat.le_refl _, by unfold maxLen; omega, ?_, ?_⟩)) (by simp [Wk.mine]) (by simp [Wk.mine])
  · have : ∀ l : List Int, (l.map (Value.int .i64)).flatMap (fun v => v.cells.toList) = l.map (Value.int .i64) := by
      intro l; induction l with
      | nil => rfl
      | cons x l ih => simp only [List.map_cons, List.flatMap_cons, ih]; rfl
    simp [this, sz]
  · have : ∀ l : List Int, (l.map (Value.int .i64)).flatMap (fun v => v.cells.toList) = l.map (Value.int .i64) := by
      intro l; induction l with
      | nil => rfl
      | cons x l ih => simp only [List.map_cons, List.flatMap_cons, ih]; rfl
    simp only [this, List.drop_zero]
    exact own_ints hk
end
end Go.Wk
