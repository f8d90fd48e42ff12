/-
  Operations that make memory: make, literals, append; stores into elements. No program is named here.
-/
import Derived.Test.YtceeelcijjkefaaGreatWkD
set_option linter.unusedVariables false
set_option linter.unusedSimpArgs false
namespace Go.Wk
open Rp (sz own)
/-- A type's row in the program's table: zero value, cells, bytes. -/
structure Ty (P : Program) (e : TypeId) (z : Value) (size bytes : Nat) : Prop where
  h : (P.info? e).map (fun i => (i.zero, i.size, i.bytes)) = some (some z, size, bytes)
theorem Ty.parts {P e z size bytes} (t : Ty P e z size bytes) : ∃ i, P.info? e = some i ∧ i.zero = some z ∧ i.size = size ∧ i.bytes = bytes := by
  have h := t.h
  cases hi : P.info? e with
  | none => rw [hi] at h; cases h
  | some i => rw [hi] at h; simp at h; exact ⟨i, rfl, h.1, h.2.1, h.2.2⟩
theorem Ty.size {P e z size bytes} (t : Ty P e z size bytes) (w : World) : (sizeOf e).run P w = .ok size w := by
  obtain ⟨i, h1, h2, h3, h4⟩ := t.parts
  simp [sizeOf, typeInfo, h1, h3]
theorem Ty.zero {P e z size bytes} (t : Ty P e z size bytes) (w : World) : (zeroValue e).run P w = .ok z w := by
  obtain ⟨i, h1, h2, h3, h4⟩ := t.parts
  simp [zeroValue, typeInfo, h1, h2]
section
variable {α : Type} [Rp α] {P : Program}
/-- A slice's value stands over these cells: block, offset, length, capacity. -/
theorem cells_at {w : World} {b o : Nat} {cur : Array Value} {T fr} (hb : w.heap[b]? = some (.cells cur T fr)) (m : Nat) : At w b o ((cur.toList.drop o).take m) := fun j v hj => by
  refine cell_at hb ?_
  rw [List.getElem?_take] at hj
  split at hj
  · rw [List.getElem?_drop] at hj; simpa using hj
  · cases hj
theorem addr_at {w : World} {b o : Nat} {cs : List Value} (h : At w b o cs) : ∀ j v, cs[j]? = some v → w.cell? ((⟨b, o, none⟩ : Addr).add j) = some v := fun j v hj => by
  rw [add_lit]; exact h j v hj
theorem lay_toList : ∀ (vs : List Value) (c : Array Value) (o : Nat), o + vs.length ≤ c.size → (lay c o vs).toList = c.toList.take o ++ vs ++ c.toList.drop (o + vs.length)
  | [], c, o, _ => by simp [lay]
  | v :: vs, c, o, h => by
    have ho : o < c.toList.length := by simp at h ⊢; omega
    rw [lay, lay_toList vs _ _ (by simp at h ⊢; omega)]
    simp only [Array.toList_setIfInBounds, List.length_cons]
    rw [List.set_eq_take_append_cons_drop, if_pos ho]
    have h1 : (c.toList.take o).length = o := by rw [List.length_take]; omega
    rw [List.take_append, List.drop_append, h1]
    simp only [Nat.add_sub_cancel_left, List.take_succ_cons, List.take_zero, show o + 1 + vs.length - o = vs.length + 1 from by omega, List.drop_succ_cons, List.drop_drop]
    rw [List.take_of_length_le (by rw [h1]; omega), List.drop_of_length_le (by rw [h1]; omega)]
    simp [Nat.add_assoc, Nat.add_comm 1]
theorem ownL.append {s : Bool} {w : World} : ∀ {xs : List α} {cs fx ds fy} {ys : List α}, ownL s w cs xs fx → cs.length = xs.length * sz α → ownL s w ds ys fy → ownL s w (cs ++ ds) (xs ++ ys) (fx ++ fy)
  | [], cs, fx, ds, fy, ys, hc, hlc, hy => by
    have : cs = [] := List.eq_nil_of_length_eq_zero (by simpa using hlc)
    subst this
    have hfx : fx = [] := hc
    subst hfx
    simpa using hy
  | x :: xs, cs, fx, ds, fy, ys, ⟨f1, f2, e1, hc1, hc2⟩, hlc, hy => by
    subst e1
    have hle : sz α ≤ cs.length := by rw [hlc, List.length_cons, Nat.add_mul]; omega
    refine ⟨f1, f2 ++ fy, by simp, ?_, ?_⟩
    · rw [List.take_append_of_le_length hle]; exact hc1
    · rw [List.drop_append_of_le_length hle]
      exact ownL.append hc2 (by rw [List.length_drop, hlc, List.length_cons, Nat.add_mul]; omega) hy
/-- An append behind what the call itself holds. -/
theorem run_append {w : World} {t ty e : TypeId} {z : Value} {bytes : Nat} (ht : P.underlying t = some (.slice e)) (hT : Ty P e z (sz α) bytes) (hz : z.cells.size = sz α)
    {v : Value} {xs ys : List α} {fp : List Nat} (h : own true w [v] xs fp) {b2 o2 m c2 : Nat} {news : List Value} (hl : news.length = m * sz α) (hm : m = ys.length) (hat : At w b2 o2 news)
    (h1 : ∀ u ∈ news, u.oneCell' = true) {fy : List Nat} (hy : ownL true w news ys fy) (hfy : ∀ b ∈ fy, b ∉ fp) (n1 : fp.Nodup) (n2 : fy.Nodup) (hm0 : 0 < m)
    (h63 : xs.length + m ≤ maxLen) (hb48 : (xs.length + m) * bytes ≤ 140737488355328) :
    ∃ v' w' fp', (Builtin.append_ #[t, t] ty #[v, .slice (some ⟨b2, o2, none⟩) m c2]).run P w = .ok v' w' ∧ own true w' [v'] (xs ++ ys) fp' ∧ Ext (· ∈ fp) w w' ∧
      (∀ b ∈ fp', b ∈ fp ∨ b ∈ fy ∨ w.heap.size ≤ b) ∧ fp'.Nodup := by
  obtain ⟨i, hi1, hi2, hi3, hi4⟩ := hT.parts
  have hsmall : xs.length + m ≤ 9223372036854775807 := by simp only [maxLen] at h63; omega
  have hsz := Rp.pos (α := α)
  subst hm
  -- a new row
  have grown : ∀ (old : Nat) (olds : List Value) (fs : List Nat), olds.length = xs.length * sz α → ownL true w olds xs fs → (∀ b ∈ fs, b ∈ fp) → fs.Nodup → ∀ w', w'= w.drew.alloc (.cells (olds.toArray ++ news.toArray ++ Builtin.zeroCells z.cells (grownCap w (xs.length + ys.length) old e - (xs.length + ys.length))) e) →
      ∃ fp', own true w' [.slice (some ⟨w.heap.size, 0, none⟩) (xs.length + ys.length) (grownCap w (xs.length + ys.length) old e)] (xs ++ ys) fp' ∧ Ext (· ∈ fp) w w' ∧
      (∀ b ∈ fp', b ∈ fp ∨ b ∈ fy ∨ w.heap.size ≤ b) ∧ fp'.Nodup := by
    intro old olds fs hlo hox hfs hnd w' hw'
    have hE : Ext No w w' := by subst hw'; exact (Ext.refl.drawn _).alloc _
    have hge := grownCap_ge w (xs.length + ys.length) old e
    have hcm : grownCap w (xs.length + ys.length) old e ≤ maxLen := grownCap_le_maxLen w (xs.length + ys.length) old e h63
    refine ⟨w.heap.size :: (fs ++ fy), .inr (.inr ⟨w.heap.size, 0, _, _, e, (0, 0), fs ++ fy, by simp, rfl, by subst hw'; exact heap_alloc_new w.drew _, fun _ => rfl, by simpa using hge, hcm, ?_, ?_⟩), hE.no, fun b hb => ?_, ?_⟩
    · simp only [Array.size_append, List.size_toArray, size_zeroCells, hz, hlo, hl, ← Nat.add_mul, Nat.zero_add]
      exact Nat.le_of_eq (by congr 1; omega)
    · have := (hox.append hlo hy).st (w' := w') fun b hb => hE.block b (by
        rcases List.mem_append.1 hb with hb | hb
        · exact hox.lt b hb
        · exact hy.lt b hb) id
      refine this.congr ?_
      have hlen : (xs ++ ys).length * sz α = (olds ++ news).length := by rw [List.length_append, List.length_append, Nat.add_mul, hlo, hl]
      rw [hlen]
      simp only [List.drop_zero, Array.toList_append]
      rw [List.take_length, List.take_left' rfl]
    · simp only [List.mem_cons, List.mem_append] at hb
      rcases hb with rfl | hb | hb
      · exact .inr (.inr (Nat.le_refl _))
      · exact .inl (hfs b hb)
      · exact .inr (.inl hb)
    · refine List.nodup_cons.2 ⟨fun hx => ?_, List.nodup_append.2 ⟨hnd, n2, fun x hx y hy' e' => ?_⟩⟩
      · rcases List.mem_append.1 hx with hx | hx
        · have := Rp.lt h _ (hfs _ hx); omega
        · have := hy.lt _ hx; omega
      · subst e'; exact hfy x hy' (hfs x hx)
  rcases h with ⟨hf, _⟩ | ⟨hv, rfl, rfl⟩ | ⟨b, o, cap, cur, T, fr, fs, hv, hfp, hb, hfr, hc, hcm, hcs, hown⟩
  · cases hf
  · simp at hv; subst hv
    have hr := run_append_nil (P := P) w t ty e i z ht hi1 hi2 ⟨b2, o2, none⟩ ys.length c2 news (by rw [hi3]; exact hl) (addr_at hat) hm0 (by simp at hsmall; omega) (by rw [hi4]; simp at hb48; omega)
    obtain ⟨fp', g1, g2, g3, g4⟩ := grown 0 [] [] (by simp) rfl (by simp) .nil _ rfl
    simp only [List.length_nil, Nat.zero_add, List.nil_append] at g1 g2 hr ⊢
    refine ⟨_, _, fp', hr, ?_, ?_, g3, g4⟩
    · simpa using g1
    · simpa using g2
  · simp at hv; subst hv
    have hfr' := hfr rfl
    subst hfr'
    have hcells := hown.cells
    have hxl : xs.length * sz α ≤ cap * sz α := Nat.mul_le_mul_right _ hc
    by_cases hroom : xs.length + ys.length ≤ cap
    · -- in place
      have hfit : o + xs.length * sz α + news.length ≤ cur.size := by
        have : (xs.length + ys.length) * sz α ≤ cap * sz α := Nat.mul_le_mul_right _ hroom
        rw [Nat.add_mul] at this
        rw [hl]; omega
      have hst := run_storeCells (P := P) news w (o + xs.length * sz α) 0 cur hb h1 (by simpa using hfit)
      have hld : (loadCells ⟨b2, o2, none⟩ (ys.length * sz α)).run P w = .ok news.toArray w := by
        have := run_loadCellsFrom (P := P) news b2 o2 0 #[] (by simpa using hat)
        rw [hl] at this
        simpa [loadCells] using this
      refine ⟨.slice (some ⟨b, o, none⟩) (xs.length + ys.length) cap, put w b (.cells (lay cur (o + xs.length * sz α) news) T (0, 0)), b :: (fs ++ fy), ?_, .inr (.inr ⟨b, o, cap, _, T, (0, 0), fs ++ fy, by simp, rfl, put_heap hb, fun _ => rfl, by simpa using hroom, hcm, by rw [lay_size]; exact hcs, ?_⟩), ?_, fun b' hb' => ?_, ?_⟩
      · simp [Builtin.append_, run_underlying ht, sizeOf, typeInfo, hi1, hi3, Builtin.lenOf, hroom, Builtin.firstCells, hld, add_lit]
        simp only [Nat.add_zero] at hst
        rw [hst]
        rfl
      · have hEp : Ext (· = b) w (put w b (.cells (lay cur (o + xs.length * sz α) news) T (0, 0))) := Ext.refl.put (.inl rfl)
        have hlo : ((cur.toList.drop o).take (xs.length * sz α)).length = xs.length * sz α := by
          rw [List.length_take, List.length_drop]
          have : cur.toList.length = cur.size := by simp
          omega
        have h2 := (hown.congr (cs' := (cur.toList.drop o).take (xs.length * sz α)) (by rw [List.take_take, Nat.min_self])).append hlo hy
        have h3 := h2.st (w' := put w b (.cells (lay cur (o + xs.length * sz α) news) T (0, 0))) fun b' hb' => hEp.block b' (h2.lt b' hb') fun e => by
          subst e; subst hfp
          rcases List.mem_append.1 hb' with hb' | hb'
          · exact (List.nodup_cons.1 n1).1 hb'
          · exact hfy b' hb' (by simp)
        refine h3.congr ?_
        have hlen : (xs ++ ys).length * sz α = ((cur.toList.drop o).take (xs.length * sz α) ++ news).length := by rw [List.length_append, List.length_append, Nat.add_mul, hlo, hl]
        rw [hlen, List.take_length, lay_toList _ _ _ hfit, List.append_assoc, List.drop_append]
        have h5 : (cur.toList.take (o + xs.length * sz α)).length = o + xs.length * sz α := by
          rw [List.length_take]
          have : cur.toList.length = cur.size := by simp
          omega
        rw [h5, List.drop_take, show o + xs.length * sz α - o = xs.length * sz α from by omega, show o - (o + xs.length * sz α) = 0 from by omega, List.drop_zero, ← List.append_assoc, List.take_left' rfl]
      · exact Ext.refl.put (.inl (by subst hfp; simp))
      · subst hfp
        simp only [List.mem_cons, List.mem_append] at hb' ⊢
        rcases hb' with rfl | hb' | hb'
        · exact .inl (.inl rfl)
        · exact .inl (.inr hb')
        · exact .inr (.inl hb')
      · subst hfp
        obtain ⟨n3, n4⟩ := List.nodup_cons.1 n1
        refine List.nodup_cons.2 ⟨fun hx => ?_, List.nodup_append.2 ⟨n4, n2, fun x hx y hy' e' => ?_⟩⟩
        · rcases List.mem_append.1 hx with hx | hx
          · exact n3 hx
          · exact hfy b hx (by simp)
        · subst e'; exact hfy x hy' (by simp [hx])
    · have hg : cap < xs.length + ys.length := by omega
      have holds := cells_at hb (o := o) (xs.length * sz α)
      have hlo : ((cur.toList.drop o).take (xs.length * sz α)).length = xs.length * sz α := by
        rw [List.length_take, List.length_drop]
        have : cur.toList.length = cur.size := by simp
        omega
      have hr := run_append_grow (P := P) w t ty e i z ht hi1 hi2 ⟨b, o, none⟩ xs.length cap _ (by rw [hi3]; exact hlo) (addr_at holds) ⟨b2, o2, none⟩ ys.length c2 news (by rw [hi3]; exact hl) (addr_at hat) hg (by omega) (by rw [hi4]; exact growslice_fits hg hb48)
      obtain ⟨fp', g1, g2, g3, g4⟩ := grown cap _ fs hlo (hown.congr (by rw [List.take_take, Nat.min_self])) (fun b hb => by subst hfp; simp [hb]) (by subst hfp; exact (List.nodup_cons.1 n1).2) _ rfl
      exact ⟨_, _, fp', hr, g1, g2, g3, g4⟩
/-- The elements of one value. -/
theorem ownL.one {s : Bool} {w : World} {cs : List Value} {x : α} {fp} (h : own s w cs x fp) : ownL s w cs [x] fp := by
  refine ⟨fp, [], by simp, ?_, rfl⟩
  rw [← Rp.len h, List.take_length]; exact h
end
/-! ### The same, told of what the call holds -/
def gone : Rsc := ⟨[], fun _ => True, fun _ _ => trivial, fun _ b hb => by simp at hb⟩
section
variable {M : Nat → Prop} {w0 w w' : World} {Δ F : List Rsc}
theorem not_mem_set : ∀ {Δ : List Rsc} {j : Nat} {p : Rsc}, Δ[j]? = some p → (blocks Δ).Nodup → ∀ b ∈ p.fp, b ∉ blocks (Δ.set j gone)
  | [], j, p, h, _, _, _ => by simp at h
  | a :: Δ, 0, p, h, hn, b, hb => by
    simp only [List.getElem?_cons_zero, Option.some.injEq] at h
    subst h
    simp only [List.set_cons_zero, blocks, gone, List.nil_append] at hn ⊢
    exact fun hx => (List.nodup_append.1 hn).2.2 b hb b hx rfl
  | a :: Δ, j + 1, p, h, hn, b, hb => by
    simp only [List.set_cons_succ, blocks] at hn ⊢
    obtain ⟨h1, h2, h3⟩ := List.nodup_append.1 hn
    have hj : Δ[j]? = some p := by simpa using h
    intro hx
    rcases List.mem_append.1 hx with hx | hx
    · exact h3 b hx b (mem_blocks.2 ⟨p, List.mem_of_getElem? hj, hb⟩) rfl
    · exact not_mem_set hj h2 b hb hx
/-- One thing goes into another one. -/
theorem Sep.set2 (h : Sep M w0 Δ F w) {i j : Nat} {r p q : Rsc} (hi : Δ[i]? = some r) (hj : Δ[j]? = some p) (hij : Nat.beq j i = false) (e : Ext (· ∈ r.fp) w w') (hq : q.φ w') (hn : q.fp.Nodup)
    (hf : ∀ b ∈ q.fp, b ∈ r.fp ∨ b ∈ p.fp ∨ w.heap.size ≤ b) : Sep M w0 ((Δ.set j gone).set i q) F w' := by
  have hne : j ≠ i := fun e => by subst e; simp at hij
  have hp : ∀ b ∈ p.fp, b ∈ blocks Δ := fun b hb => mem_blocks.2 ⟨p, List.mem_of_getElem? hj, hb⟩
  have hr : ∀ b ∈ r.fp, b ∈ blocks Δ := fun b hb => mem_blocks.2 ⟨r, List.mem_of_getElem? hi, hb⟩
  have hi' : (Δ.set j gone)[i]? = some r := by rw [List.getElem?_set_ne hne]; exact hi
  have hg : ∀ b ∈ blocks (Δ.set j gone), b ∈ blocks Δ := fun b hb => by
    rcases blocks_set hj b hb with hb | hb
    · simp [gone] at hb
    · exact hb
  have hnj : (blocks (Δ.set j gone)).Nodup := nodup_set hj h.nd (by simp [gone]) (by simp [gone])
  have hlt := h.lt
  have hnd : (blocks ((Δ.set j gone).set i q)).Nodup := nodup_set hi' hnj hn fun b hb hb' => by
    rcases hf b hb with hb | hb | hb
    · exact hb
    · exact absurd hb' (not_mem_set hj h.nd b hb)
    · have := hlt b (hg b hb'); omega
  have hall : ∀ b ∈ blocks ((Δ.set j gone).set i q), b ∈ blocks Δ ∨ w.heap.size ≤ b := fun b hb => by
    rcases blocks_set hi' b hb with hb | hb
    · rcases hf b hb with hb | hb | hb
      · exact .inl (hr b hb)
      · exact .inl (hp b hb)
      · exact .inr hb
    · exact .inl (hg b hb)
  refine ⟨h.ext.step e fun b hb => h.new b (hr b hb), fun x hx => ?_, hnd, fun b hb => ?_, fun x hx => ?_, fun x hx b hb hy => ?_⟩
  · rcases set_other hi' hnj x hx with rfl | ⟨hx, hd⟩
    · exact hq
    · rcases set_other hj h.nd x hx with rfl | ⟨hx, _⟩
      · trivial
      · exact x.st (h.rs x hx) fun b hb => e.block b (x.lt (h.rs x hx) b hb) (hd b hb)
  · rcases hall b hb with hb | hb
    · exact h.new b hb
    · have := h.ext.size; exact .inr (by omega)
  · exact x.st (h.fs x hx) fun b hb => e.block b (x.lt (h.fs x hx) b hb) fun hy => h.ap x hx b hb (hr b hy)
  · rcases hall b hy with hy | hy
    · exact h.ap x hx b hb hy
    · have := x.lt (h.fs x hx) b hb; omega
theorem Sep.nodup1 (h : Sep M w0 Δ F w) {i : Nat} {r : Rsc} (hi : Δ[i]? = some r) : r.fp.Nodup := by
  have : [r].Sublist Δ := List.singleton_sublist.2 (List.mem_of_getElem? hi)
  simpa [blocks] using nodup_sub this h.nd
theorem Sep.apart {i j : Nat} {r p : Rsc} (h : Sep M w0 Δ F w) (hi : Δ[i]? = some r) (hj : Δ[j]? = some p) (hij : Nat.beq j i = false) : ∀ b ∈ p.fp, b ∉ r.fp := fun b hb hr => by
  have hne : j ≠ i := fun e => by subst e; simp at hij
  have hi' : (Δ.set j gone)[i]? = some r := by rw [List.getElem?_set_ne hne]; exact hi
  exact not_mem_set hj h.nd b hb (mem_blocks.2 ⟨r, List.mem_of_getElem? hi', hr⟩)
variable {α : Type} [Rp α] {P : Program} {t ty e : TypeId} {z : Value} {bytes : Nat}
/-- 'out = append(out, x)', x without memory of its own. -/
theorem Sep.app1 (h : Sep M w0 Δ F w) (i : Nat) {v : Value} {xs : List α} {fp} (hi : Δ[i]? = some (Wk.mine [v] xs fp)) (ht : P.underlying t = some (.slice e)) (hT : Ty P e z (sz α) bytes) (hz : z.cells.size = sz α)
    {b2 c2 : Nat} {cs : List Value} {y : α} (hat : At w b2 0 cs) (hy : own true w cs y []) (h63 : xs.length + 1 ≤ maxLen) (hb48 : (xs.length + 1) * bytes ≤ 140737488355328) :
    ∃ v' w' fp', (Builtin.append_ #[t, t] ty #[v, .slice (some ⟨b2, 0, none⟩) 1 c2]).run P w = .ok v' w' ∧ Sep M w0 (Δ.set i (Wk.mine [v'] (xs ++ [y]) fp')) F w' := by
  obtain ⟨v', w', fp', h1, h2, h3, h4, h5⟩ := run_append (ty := ty) ht hT hz (h.mine i hi) (ys := [y]) (c2 := c2) (m := 1) (by rw [Rp.len hy]; simp) rfl hat (Rp.one hy) (.one hy) (by simp) (h.nodup1 hi) .nil (by omega) h63 hb48
  exact ⟨v', w', fp', h1, h.set hi (q := Wk.mine [v'] (xs ++ [y]) fp') h3 h2 h5 fun b hb => by rcases h4 b hb with h | h | h; exact .inl h; simp at h; exact .inr h⟩
/-- 'out = append(out, x)': what x holds is now the list's. -/
theorem Sep.app2 (h : Sep M w0 Δ F w) (i j : Nat) {v : Value} {xs : List α} {fp} (hi : Δ[i]? = some (Wk.mine [v] xs fp)) (ht : P.underlying t = some (.slice e)) (hT : Ty P e z (sz α) bytes) (hz : z.cells.size = sz α)
    {b2 c2 : Nat} {cs : List Value} {y : α} {fy} (hj : Δ[j]? = some (Wk.mine cs y fy)) (hij : Nat.beq j i = false) (hat : At w b2 0 cs) (h63 : xs.length + 1 ≤ maxLen) (hb48 : (xs.length + 1) * bytes ≤ 140737488355328) :
    ∃ v' w' fp', (Builtin.append_ #[t, t] ty #[v, .slice (some ⟨b2, 0, none⟩) 1 c2]).run P w = .ok v' w' ∧ Sep M w0 ((Δ.set j gone).set i (Wk.mine [v'] (xs ++ [y]) fp')) F w' := by
  have hy := h.mine j hj
  obtain ⟨v', w', fp', h1, h2, h3, h4, h5⟩ := run_append (ty := ty) ht hT hz (h.mine i hi) (ys := [y]) (c2 := c2) (m := 1) (by rw [Rp.len hy]; simp) rfl hat (Rp.one hy) (.one hy) (h.apart hi hj hij) (h.nodup1 hi) (h.nodup1 hj) (by omega) h63 hb48
  exact ⟨v', w', fp', h1, h.set2 hi hj hij (q := Wk.mine [v'] (xs ++ [y]) fp') h3 h2 h5 h4⟩
end
section
variable {P : Program} {n : Nat} {L : Env} {w w' : World} {d : Option Tmp} {ty : TypeId} {p : String} {af : Array Edge} {g : Option (Nat × Bool)}
theorem pn_app {x y : Operand} {t t2 : TypeId} {v u v' : Value} (hx : evL L x = some v) (hy : evL L y = some u) (hr : (Builtin.append_ #[t, t2] ty #[v, u]).run P w = .ok v' w') :
    Pn P n L w ⟨d, .call ⟨.builtin .append, #[x, y], #[t, t2]⟩, ty, p, af, g⟩ v' w' := fun a ha => by
  simp [execOp, resolve, invoke, builtin, ha.eval hx, ha.eval hy, hr]
/-- make([]T, n) -/
theorem pn_make {t e : TypeId} {x : Operand} {z : Value} {size bytes m : Nat} (ht : P.underlying t = some (.slice e)) (hT : Ty P e z size bytes) (hx : evL L x = some (.int .i64 m)) (h48 : bytes * m ≤ 281474976710656) (h63 : m ≤ maxLen) :
    Pn P n L w ⟨d, .makeSlice t x x, ty, p, af, g⟩ (.slice (some ⟨w.heap.size, 0, none⟩) m m) (w.alloc (.cells (madeCells z.cells (m * size)) e)) := fun a ha => by
  obtain ⟨i, hi1, hi2, hi3, hi4⟩ := hT.parts
  have h63' : (m : Int) ≤ 9223372036854775807 := by unfold maxLen at h63; omega
  have hb' : (i.bytes : Int) * (m : Int) ≤ 281474976710656 := by
    have h : ((i.bytes * m : Nat) : Int) ≤ 281474976710656 := by rw [hi4]; omega
    rwa [Int.natCast_mul] at h
  have hr := run_make (P := P) w t e i z ht hi1 hi2 .i64 .i64 m m (by omega) (Int.le_refl _) hb' h63'
  simp only [Int.toNat_natCast, hi3] at hr
  simp [execOp, ha.eval hx, hr]
section
variable {α : Type} [Rp α]
theorem ownL.of_get {s : Bool} {w : World} : ∀ {xs : List α} {cs : List Value}, (∀ k (h : k < xs.length), own s w ((cs.drop (k * sz α)).take (sz α)) xs[k] []) → ownL s w cs xs []
  | [], _, _ => rfl
  | x :: xs, cs, h => ⟨[], [], rfl, by have := h 0 (by simp); simp only [Nat.zero_mul, List.drop_zero, List.getElem_cons_zero] at this; exact this, ownL.of_get fun k hk => by
      have := h (k + 1) (by simpa using hk)
      rw [List.drop_drop]
      rw [Nat.add_mul, Nat.one_mul, Nat.add_comm] at this
      simpa using this⟩
theorem made_part (z : Array Value) (m k : Nat) (hk : k < m) : ((madeCells z (m * z.size)).toList.drop (k * z.size)).take z.size = z.toList := by
  have hle : (k + 1) * z.size ≤ m * z.size := Nat.mul_le_mul_right _ hk
  rw [Nat.add_mul, Nat.one_mul] at hle
  apply List.ext_getElem?
  intro j
  rw [List.getElem?_take]
  split
  · rename_i hj
    have h1 : k * z.size + j < m * z.size := by omega
    rw [List.getElem?_drop]
    have h2 : (k * z.size + j) % z.size = j := by rw [Nat.add_comm, Nat.add_mul_mod_self_right, Nat.mod_eq_of_lt hj]
    simp [madeCells, h1, h2, hj]
  · rename_i hj
    rw [List.getElem?_eq_none (by simpa using hj)]
/-- A slice that was just made. -/
theorem own_made {w : World} {z : Value} {x : α} {e : TypeId} {m : Nat} (hz : ∀ w, own true w z.cells.toList x []) (h63 : m ≤ maxLen) :
    own true (w.alloc (.cells (madeCells z.cells (m * sz α)) e)) [.slice (some ⟨w.heap.size, 0, none⟩) m m] (List.replicate m x) [w.heap.size] := by
  have hs : z.cells.size = sz α := by simpa using Rp.len (hz w)
  refine .inr (.inr ⟨w.heap.size, 0, m, _, e, (0, 0), [], by simp, rfl, heap_alloc_new _ _, fun _ => rfl, by simp, h63, by rw [size_madeCells]; simp, ?_⟩)
  rw [List.drop_zero]
  refine ownL.of_get fun k hk => ?_
  rw [List.getElem_replicate]
  have hk' : k < m := by simpa using hk
  rw [← hs, made_part z.cells m k hk']
  exact hz _
theorem Sep.made {M : Nat → Prop} {w0 w : World} {Δ F : List Rsc} (h : Sep M w0 Δ F w) {z : Value} {x : α} {e : TypeId} {m : Nat} (hz : ∀ w, own true w z.cells.toList x []) (h63 : m ≤ maxLen) :
    Sep M w0 (Δ ++ [Wk.mine [.slice (some ⟨w.heap.size, 0, none⟩) m m] (List.replicate m x) [w.heap.size]]) F (w.alloc (.cells (madeCells z.cells (m * sz α)) e)) :=
  h.add (Ext.refl.alloc _) (r := Wk.mine [.slice (some ⟨w.heap.size, 0, none⟩) m m] (List.replicate m x) [w.heap.size]) (own_made hz h63) (by simp [Wk.mine]) (by simp [Wk.mine])
/-- One element alone: it may be changed, and laid back. -/
theorem ownL.zoom {w : World} : ∀ {xs : List α} {cs : List Value} {fp : List Nat} {k : Nat}, ownL true w cs xs fp → ∀ hk : k < xs.length,
    ∃ f1 fk f2, fp = f1 ++ (fk ++ f2) ∧ own true w ((cs.drop (k * sz α)).take (sz α)) xs[k] fk ∧
      ∀ w' cs' x' fk', cs'.take (k * sz α) = cs.take (k * sz α) → cs'.drop ((k + 1) * sz α) = cs.drop ((k + 1) * sz α) → (∀ b ∈ f1, w'.heap[b]? = w.heap[b]?) → (∀ b ∈ f2, w'.heap[b]? = w.heap[b]?) →
        own true w' ((cs'.drop (k * sz α)).take (sz α)) x' fk' → ownL true w' cs' (xs.set k x') (f1 ++ (fk' ++ f2))
  | [], _, _, k, _, hk => by simp at hk
  | y :: xs, cs, fp, 0, ⟨f1, f2, e1, h1, h2⟩, _ => by
    refine ⟨[], f1, f2, by simpa using e1, by simpa using h1, fun w' cs' x' fk' _ hd _ hb hx => ?_⟩
    refine ⟨fk', f2, by simp, by simpa using hx, ?_⟩
    have : cs'.drop (sz α) = cs.drop (sz α) := by simpa using hd
    rw [this]
    exact h2.st hb
  | y :: xs, cs, fp, k + 1, ⟨f1, f2, e1, h1, h2⟩, hk => by
    obtain ⟨g1, gk, g2, e2, h3, h4⟩ := ownL.zoom (k := k) h2 (by simpa using hk)
    have hle : sz α ≤ (k + 1) * sz α := by rw [Nat.add_mul]; omega
    have hdd : ∀ l : List Value, (l.drop (sz α)).drop (k * sz α) = l.drop ((k + 1) * sz α) := fun l => by rw [List.drop_drop, Nat.add_mul, Nat.one_mul, Nat.add_comm]
    refine ⟨f1 ++ g1, gk, g2, by rw [e1, e2]; simp, by rw [hdd] at h3; simpa using h3, fun w' cs' x' fk' ht hd hb1 hb2 hx => ?_⟩
    refine ⟨f1, g1 ++ (fk' ++ g2), by simp, ?_, h4 w' (cs'.drop (sz α)) x' fk' ?_ ?_ (fun b hb => hb1 b (by simp [hb])) hb2 (by rw [hdd]; exact hx)⟩
    · have ht1 : cs'.take (sz α) = cs.take (sz α) := by
        have := congrArg (List.take (sz α)) ht
        rwa [List.take_take, List.take_take, Nat.min_eq_left hle] at this
      rw [ht1]
      exact Rp.st h1 fun b hb => hb1 b (by simp [hb])
    · have := congrArg (List.drop (sz α)) ht
      rw [List.drop_take, List.drop_take] at this
      rwa [show (k + 1) * sz α - sz α = k * sz α from by rw [Nat.add_mul]; omega] at this
    · rw [List.drop_drop, List.drop_drop]
      rwa [show (k + 1 + 1) * sz α = sz α + (k + 1) * sz α from by rw [Nat.add_mul (k + 1)]; omega] at hd
theorem own_zoom {w : World} {ad n cap} {xs : List α} {fp : List Nat} (h : own true w [.slice ad n cap] xs fp) (k : Nat) (hk : k < xs.length) :
    ∃ b o cur T f1 fk f2, ad = some ⟨b, o, none⟩ ∧ fp = b :: (f1 ++ (fk ++ f2)) ∧ w.heap[b]? = some (.cells cur T (0, 0)) ∧ o + k * sz α + sz α ≤ cur.size ∧
      own true w ((cur.toList.drop (o + k * sz α)).take (sz α)) xs[k] fk ∧
      ∀ w' cur' x' fk', w'.heap[b]? = some (.cells cur' T (0, 0)) → cur'.size = cur.size → (∀ j, j < o + k * sz α ∨ o + (k + 1) * sz α ≤ j → cur'[j]? = cur[j]?) → (∀ b ∈ f1, w'.heap[b]? = w.heap[b]?) → (∀ b ∈ f2, w'.heap[b]? = w.heap[b]?) →
        own true w' ((cur'.toList.drop (o + k * sz α)).take (sz α)) x' fk' → own true w' [.slice ad n cap] (xs.set k x') (b :: (f1 ++ (fk' ++ f2))) := by
  rcases h with ⟨hf, _⟩ | ⟨_, rfl, _⟩ | ⟨b, o, cap', cur, T, fr, fs, h1, h2, h3, h4, h5, h6, h7, h8⟩
  · cases hf
  · simp at hk
  · simp only [List.cons.injEq, Value.slice.injEq, and_true] at h1
    obtain ⟨h1, hn, hc⟩ := h1
    have hfr := h4 rfl
    subst h1; subst h2; subst hn; subst hc; subst hfr
    obtain ⟨f1, fk, f2, e1, h9, h10⟩ := h8.zoom hk
    have hle : (k + 1) * sz α ≤ cap * sz α := Nat.mul_le_mul_right _ (by omega)
    have hk1 : (k + 1) * sz α = k * sz α + sz α := by rw [Nat.add_mul, Nat.one_mul]
    refine ⟨b, o, cur, T, f1, fk, f2, rfl, by rw [e1], h3, by omega, by rw [List.drop_drop] at h9; exact h9, fun w' cur' x' fk' hb hsz hsame hb1 hb2 hx => ?_⟩
    refine .inr (.inr ⟨b, o, cap, cur', T, (0, 0), f1 ++ (fk' ++ f2), by simp, rfl, hb, fun _ => rfl, by simpa using h5, h6, by rw [hsz]; exact h7, ?_⟩)
    refine h10 w' _ x' fk' ?_ ?_ hb1 hb2 (by rw [List.drop_drop]; exact hx)
    · apply List.ext_getElem?
      intro j
      rw [List.getElem?_take, List.getElem?_take]
      split
      · rename_i hj
        rw [List.getElem?_drop, List.getElem?_drop]
        simpa using hsame (o + j) (.inl (by omega))
      · rfl
    · apply List.ext_getElem?
      intro j
      rw [List.drop_drop, List.drop_drop, List.getElem?_drop, List.getElem?_drop]
      simpa using hsame (o + (k + 1) * sz α + j) (.inr (by omega))
theorem lay_get : ∀ (vs : List Value) (c : Array Value) (o j : Nat), j < o ∨ o + vs.length ≤ j → (lay c o vs)[j]? = c[j]?
  | [], _, _, _, _ => rfl
  | v :: vs, c, o, j, h => by
    simp only [List.length_cons] at h
    rw [lay, lay_get vs _ _ _ (by omega), Array.getElem?_setIfInBounds_ne (by omega)]
theorem lay_part (vs : List Value) (c : Array Value) (o : Nat) (h : o + vs.length ≤ c.size) : ((lay c o vs).toList.drop o).take vs.length = vs := by
  have h5 : (c.toList.take o).length = o := by
    rw [List.length_take]
    have : c.toList.length = c.size := by simp
    omega
  rw [lay_toList _ _ _ h, List.append_assoc, List.drop_append, h5, List.drop_take]
  simp
/-- An element is laid anew. -/
theorem Sep.elset {M : Nat → Prop} {w0 w : World} {Δ F : List Rsc} (h : Sep M w0 Δ F w) (i : Nat) {ad n cap} {xs : List α} {fp : List Nat} (hi : Δ[i]? = some (Wk.mine [.slice ad n cap] xs fp)) (k : Nat) (hk : k < xs.length) :
    ∃ b o cur T, ad = some ⟨b, o, none⟩ ∧ w.heap[b]? = some (.cells cur T (0, 0)) ∧ o + k * sz α + sz α ≤ cur.size ∧
      ∀ vs x, own true w vs x [] → ∃ fp', Sep M w0 (Δ.set i (Wk.mine [.slice ad n cap] (xs.set k x) fp')) F (Wk.put w b (.cells (lay cur (o + k * sz α) vs) T (0, 0))) := by
  have hnd := h.nodup1 hi
  obtain ⟨b, o, cur, T, f1, fk, f2, e1, e2, hb, hsz, hx, hback⟩ := own_zoom (h.mine i hi) k hk
  refine ⟨b, o, cur, T, e1, hb, hsz, fun vs x hvs => ⟨b :: (f1 ++ ([] ++ f2)), ?_⟩⟩
  have hl := Rp.len hvs
  change fp.Nodup at hnd
  subst e2
  obtain ⟨n1, n2⟩ := List.nodup_cons.1 hnd
  have hE : Ext (· = b) w (Wk.put w b (.cells (lay cur (o + k * sz α) vs) T (0, 0))) := Ext.refl.put (.inl rfl)
  have hlt := Rp.lt (h.mine i hi)
  have hk1 : (k + 1) * sz α = k * sz α + sz α := by rw [Nat.add_mul, Nat.one_mul]
  refine h.set hi (q := Wk.mine [.slice ad n cap] (xs.set k x) (b :: (f1 ++ ([] ++ f2)))) (hE.mono fun b' _ e => by subst e; simp [Wk.mine]) ?_ ?_ ?_
  · refine hback _ _ x [] (put_heap hb) (lay_size _ _ _) (fun j hj => lay_get _ _ _ _ (by rcases hj with hj | hj; exact .inl hj; exact .inr (by rw [hl, Nat.add_assoc, ← hk1]; exact hj))) (fun b' hb' => hE.block b' (hlt b' (by simp [hb'])) fun e => ?_) (fun b' hb' => hE.block b' (hlt b' (by simp [hb'])) fun e => ?_) ?_
    · subst e; exact n1 (by simp [hb'])
    · subst e; exact n1 (by simp [hb'])
    · rw [← hl, lay_part _ _ _ (by rw [hl]; omega)]
      exact Rp.st hvs (by simp)
  · change (b :: (f1 ++ ([] ++ f2))).Nodup
    refine hnd.sublist ?_
    exact List.Sublist.cons_cons _ (List.Sublist.append (.refl _) (List.Sublist.append (List.nil_sublist _) (.refl _)))
  · intro b' hb'
    refine .inl ?_
    change b' ∈ b :: (f1 ++ ([] ++ f2)) at hb'
    change b' ∈ b :: (f1 ++ (fk ++ f2))
    simp only [List.mem_cons, List.mem_append, List.nil_append] at hb' ⊢
    rcases hb' with h | h | h
    · exact .inl h
    · exact .inr (.inl h)
    · exact .inr (.inr (.inr h))
end
end
end Go.Wk
