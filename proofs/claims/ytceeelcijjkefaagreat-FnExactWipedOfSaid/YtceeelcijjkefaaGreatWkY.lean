/-
  Rows that are steps: the plain law, and rows held by their views. No program is named here.
-/
import Derived.Test.YtceeelcijjkefaaGreatWkX
set_option linter.unusedVariables false
set_option linter.unusedSimpArgs false
namespace Go.Wk
open Rp (sz own)
/-! ### The plain law -/
abbrev Mat := List (List UInt8)
def entry (m : Mat) (i c : Nat) : UInt8 := (m.getD i []).getD c 0
/-- The first row from r on that is not 0 at c; the number of rows where there is none. -/
def pivAt (m : Mat) (c r : Nat) : Nat := r + (m.drop r).findIdx (fun row => row.getD c 0 != 0)
theorem getD_drop {α : Type} {xs : List α} {r j : Nat} {d : α} : (xs.drop r).getD j d = xs.getD (r + j) d := by
  simp [List.getD, List.getElem?_drop]
theorem pivAt_eq {m : Mat} {c r k : Nat} (h1 : r ≤ k) (h2 : k ≤ m.length) (h0 : ∀ j, r ≤ j → j < k → entry m j c = 0) (hk : k = m.length ∨ entry m k c ≠ 0) : pivAt m c r = k := by
  have hl : (m.drop r).length = m.length - r := List.length_drop
  have e : (m.drop r).findIdx (fun row => row.getD c 0 != 0) = k - r := by
    rcases hk with rfl | hk
    · rw [← hl, List.findIdx_eq_length]
      intro x hx
      obtain ⟨j, hj, rfl⟩ := List.getElem_of_mem hx
      have := h0 (r + j) (by omega) (by omega)
      rw [entry, ← getD_drop (d := [])] at this
      have e : m.getD (r + j) [] = m[r + j]'(by omega) := by simp [List.getD, show r + j < m.length by omega]
      rw [getD_drop, e] at this
      simpa using this
    · have hlt : k < m.length := Decidable.byContradiction fun h => hk (by
        have : m.getD k [] = [] := by simp [List.getD, List.getElem?_eq_none (Nat.le_of_not_lt h)]
        rw [entry, this]; rfl)
      have hlt' : k - r < (m.drop r).length := by omega
      rw [List.findIdx_eq hlt']
      refine ⟨?_, fun j hj => ?_⟩
      · rw [entry, show k = r + (k - r) by omega, ← getD_drop (d := [])] at hk
        have e : m.getD (r + (k - r)) [] = m[r + (k - r)]'(by omega) := by simp [List.getD, show r + (k - r) < m.length by omega]
        rw [getD_drop, e] at hk
        simpa using hk
      · have hj' : j < (m.drop r).length := by omega
        have := h0 (r + j) (by omega) (by omega)
        rw [entry, ← getD_drop (d := [])] at this
        have e : m.getD (r + j) [] = m[r + j]'(by omega) := by simp [List.getD, show r + j < m.length by omega]
        rw [getD_drop, e] at this
        simpa using this
  rw [pivAt, e]; omega
def swapM (m : Mat) (r a : Nat) : Mat := (m.set r (m.getD a [])).set a (m.getD r [])
def normM (m : Mat) (c r a : Nat) : Mat := (m.set a (m.getD r [])).set r (scaleG (m.getD a []) (invG (entry m a c)))
def elimTo (m : Mat) (c r k : Nat) : Mat := (List.range m.length).map fun i => if i < k ∧ i ≠ r then addG (m.getD i []) (scaleG (m.getD r []) (entry m i c)) else m.getD i []
def stepM (m : Mat) (c r : Nat) : Mat × Nat := if m.length ≤ pivAt m c r then (m, r) else (elimTo (normM m c r (pivAt m c r)) c r m.length, r + 1)
def redM (m : Mat) : Nat → Mat × Nat
  | 0 => (m, 0)
  | c + 1 => stepM (redM m c).1 c (redM m c).2
theorem getD_set' {α : Type} {xs : List α} {i j : Nat} {x d : α} : (xs.set i x).getD j d = if j = i ∧ i < xs.length then x else xs.getD j d := by
  simp only [List.getD_eq_getElem?_getD, List.getElem?_set]
  by_cases h : i = j
  · subst h
    by_cases h2 : i < xs.length
    · simp [h2]
    · simp [h2]
  · rw [if_neg h, if_neg (fun e => h e.1.symm)]
theorem swapM_len {m : Mat} {r a : Nat} : (swapM m r a).length = m.length := by simp [swapM]
theorem normM_len {m : Mat} {c r a : Nat} : (normM m c r a).length = m.length := by simp [normM]
theorem elimTo_len {m : Mat} {c r k : Nat} : (elimTo m c r k).length = m.length := by simp [elimTo]
theorem swapM_r {m : Mat} {r a : Nat} (hr : r < m.length) (ha : a < m.length) : (swapM m r a).getD r [] = m.getD a [] := by
  rw [swapM, getD_set', getD_set']
  by_cases h : r = a
  · subst h; simp [hr]
  · simp [h, hr]
theorem swap_norm {m : Mat} {c r a : Nat} : (swapM m r a).set r (scaleG (m.getD a []) (invG (entry m a c))) = normM m c r a := by
  rw [swapM, normM]
  by_cases h : r = a
  · subst h; simp
  · rw [List.set_comm _ _ h, List.set_set]
theorem elimTo_zero {m : Mat} {c r : Nat} : elimTo m c r 0 = m := by
  refine List.ext_getElem (by simp [elimTo]) fun i h1 h2 => ?_
  simp [elimTo, List.getD, h2]
theorem elimTo_get {m : Mat} {c r k i : Nat} (hi : i < m.length) : (elimTo m c r k).getD i [] = if i < k ∧ i ≠ r then addG (m.getD i []) (scaleG (m.getD r []) (entry m i c)) else m.getD i [] := by
  simp [elimTo, List.getD, hi]
theorem elimTo_at {m : Mat} {c r k : Nat} (hk : k < m.length) : (elimTo m c r k).getD k [] = m.getD k [] := by rw [elimTo_get hk, if_neg (by omega)]
theorem elimTo_r {m : Mat} {c r k : Nat} (hr : r < m.length) : (elimTo m c r k).getD r [] = m.getD r [] := by rw [elimTo_get hr, if_neg (by omega)]
theorem elimTo_set {m : Mat} {c r k : Nat} (hk : k < m.length) (hn : k ≠ r) {z : List UInt8} (hz : z = addG (m.getD k []) (scaleG (m.getD r []) (entry m k c))) : (elimTo m c r k).set k z = elimTo m c r (k + 1) := by
  refine List.ext_getElem (by simp [elimTo]) fun i h1 h2 => ?_
  rw [List.getElem_set]
  simp only [elimTo, List.getElem_map, List.getElem_range]
  by_cases e : k = i
  · subst e
    rw [if_pos rfl, if_pos ⟨by omega, hn⟩, hz]
  · rw [if_neg e]
    by_cases h3 : i < k ∧ i ≠ r
    · rw [if_pos h3, if_pos ⟨by omega, h3.2⟩]
    · rw [if_neg h3, if_neg (by omega)]
theorem elimTo_skip {m : Mat} {c r k : Nat} (hn : k = r ∨ elimTo m c r (k + 1) = elimTo m c r k) : elimTo m c r k = elimTo m c r (k + 1) := by
  rcases hn with rfl | h
  · refine List.ext_getElem (by simp [elimTo]) fun i h1 h2 => ?_
    simp only [elimTo, List.getElem_map, List.getElem_range]
    by_cases h3 : i < k ∧ i ≠ k
    · rw [if_pos h3, if_pos (by omega)]
    · rw [if_neg h3, if_neg (by omega)]
  · exact h.symm
/-- So many rows, each so long. -/
def Rect (m : Mat) (k l : Nat) : Prop := m.length = k ∧ ∀ i, i < k → (m.getD i []).length = l
theorem elimTo_zeroE {m : Mat} {c r k K l : Nat} (hR : Rect m K l) (hk : k < K) (hr : r < K) (h : entry m k c = 0) : elimTo m c r k = elimTo m c r (k + 1) := by
  obtain ⟨h1, h2⟩ := hR
  refine List.ext_getElem (by simp [elimTo]) fun i h3 h4 => ?_
  simp only [elimTo, List.getElem_map, List.getElem_range]
  by_cases h5 : i < k ∧ i ≠ r
  · rw [if_pos h5, if_pos ⟨by omega, h5.2⟩]
  · rw [if_neg h5]
    by_cases h6 : i < k + 1 ∧ i ≠ r
    · obtain rfl : i = k := by omega
      rw [if_pos h6, h, scaleG_zero, addG_zero_r]
      rw [h2 _ hk, h2 _ hr]
    · rw [if_neg h6]
theorem Rect.set {m : Mat} {K l i : Nat} {x : List UInt8} (h : Rect m K l) (hx : x.length = l) : Rect (m.set i x) K l := by
  refine ⟨by simpa using h.1, fun j hj => ?_⟩
  rw [getD_set']
  split
  · exact hx
  · exact h.2 j hj
theorem Rect.swap {m : Mat} {K l r a : Nat} (h : Rect m K l) (hr : r < K) (ha : a < K) : Rect (swapM m r a) K l := (h.set (h.2 a ha)).set (h.2 r hr)
theorem Rect.norm {m : Mat} {K l c r a : Nat} (h : Rect m K l) (hr : r < K) (ha : a < K) : Rect (normM m c r a) K l := (h.set (h.2 r hr)).set (by rw [scaleG_len]; exact h.2 a ha)
theorem Rect.elim {m : Mat} {K l c r k : Nat} (h : Rect m K l) (hr : r < K) : Rect (elimTo m c r k) K l := by
  refine ⟨by rw [elimTo_len]; exact h.1, fun i hi => ?_⟩
  rw [elimTo_get (by rw [h.1]; exact hi)]
  split
  · rw [addG_len (by rw [scaleG_len, h.2 i hi, h.2 r hr]; exact Nat.le_refl _)]; exact h.2 i hi
  · exact h.2 i hi
theorem pivAt_ge {m : Mat} {c r : Nat} : r ≤ pivAt m c r := Nat.le_add_right _ _
theorem Rect.step {m : Mat} {K l c r : Nat} (h : Rect m K l) (hr : r ≤ K) : Rect (stepM m c r).1 K l ∧ (stepM m c r).2 ≤ K := by
  unfold stepM
  split
  · exact ⟨h, hr⟩
  · rename_i hp
    have h1 := h.1
    have := pivAt_ge (m := m) (c := c) (r := r)
    exact ⟨(h.norm (by omega) (by omega)).elim (by omega), by show r + 1 ≤ K; omega⟩
theorem Rect.red {m : Mat} {K l : Nat} (h : Rect m K l) : ∀ n, Rect (redM m n).1 K l ∧ (redM m n).2 ≤ K
  | 0 => ⟨h, Nat.zero_le _⟩
  | n + 1 => (h.red n).1.step (h.red n).2
theorem red_full {m : Mat} {c : Nat} (h : (redM m c).2 = (redM m c).1.length) : ∀ n, c ≤ n → redM m n = redM m c := by
  intro n hn
  induction n with
  | zero => have e : c = 0 := by omega
            rw [e]
  | succ n ih =>
    by_cases e : c = n + 1
    · rw [e]
    · have ih := ih (by omega)
      show stepM (redM m n).1 n (redM m n).2 = _
      rw [ih, stepM, if_pos (by rw [← h]; exact pivAt_ge)]
/-! ### Rows held by their views -/
section
variable {β : Type} [Rp β]
theorem elem_view {w ad n cap} {vs : List View} {xss : List (List β)} {f g s} (h : own s w [.slice ad n cap] vs f) (hr : ownL false w (vs.map View.val) xss g) (hl : vs.length = xss.length) (k : Nat) (hk : k < xss.length) :
    ∃ b o a c fk, ad = some ⟨b, o, none⟩ ∧ w.cell? ⟨b, o + k * 1, none⟩ = some (.slice a (xss.getD k []).length c) ∧ own false w [.slice a (xss.getD k []).length c] (xss.getD k []) fk ∧ (∀ b ∈ fk, b ∈ g) ∧ b ∈ f := by
  obtain ⟨b, o, cs, fe, h1, h2, h3, _, h5⟩ := own_elem h k (by omega)
  obtain ⟨fk, h6, h7⟩ := hr.get k hk
  have e3 : cs = [(vs[k]'(by omega)).val] := h3.1
  have hkm : k < (vs.map View.val).length := by simp; omega
  have e : ((vs.map View.val).drop (k * sz (List β))).take (sz (List β)) = [(vs[k]'(by omega)).val] := by
    show ((vs.map View.val).drop (k * 1)).take 1 = _
    rw [Nat.mul_one, List.drop_eq_getElem_cons hkm, List.take_succ_cons, List.take_zero]
    simp
  rw [e] at h6
  obtain ⟨a, c, e2⟩ := own_slice h6
  rw [e2] at h6
  rw [show xss.getD k [] = xss[k] from by simp [List.getD, hk]]
  refine ⟨b, o, a, c, fk, h1, ?_, h6, h7, h5⟩
  have := h2 0 _ (by rw [e3, e2]; rfl)
  exact this
theorem rows_set {w : World} {vs : List View} {xss : List (List β)} {g : List Nat} (h : ownL false w (vs.map View.val) xss g) (hl : vs.length = xss.length) {u : View} {y : List β} {fy} (hy : own false w [u.val] y fy) :
    ∀ k, k < xss.length → ∃ g', ownL false w ((vs.set k u).map View.val) (xss.set k y) g' ∧ ∀ b ∈ g', b ∈ g ∨ b ∈ fy := by
  induction vs generalizing xss g with
  | nil => intro k hk; simp at hl; omega
  | cons v vs ih =>
    intro k hk
    cases xss with
    | nil => simp at hl
    | cons x xss =>
      obtain ⟨f1, f2, e, h1, h2⟩ := h
      subst e
      have h1' : own false w [v.val] x f1 := by simpa [sz] using h1
      have h2' : ownL false w (vs.map View.val) xss f2 := by simpa [sz] using h2
      cases k with
      | zero =>
        refine ⟨fy ++ f2, ⟨fy, f2, rfl, ?_, ?_⟩, fun b hb => ?_⟩
        · simpa [sz] using hy
        · simpa [sz] using h2'
        · rcases List.mem_append.1 hb with hb | hb
          · exact .inr hb
          · exact .inl (by simp [hb])
      | succ k =>
        obtain ⟨g', hg, hs⟩ := ih h2' (by simpa using hl) k (by simpa using hk)
        refine ⟨f1 ++ g', ⟨f1, g', rfl, ?_, ?_⟩, fun b hb => ?_⟩
        · simpa [sz] using h1'
        · simpa [sz] using hg
        · rcases List.mem_append.1 hb with hb | hb
          · exact .inl (by simp [hb])
          · rcases hs b hb with hb | hb
            · exact .inl (by simp [hb])
            · exact .inr hb
variable {M : Nat → Prop} {w0 w : World} {Δ F : List Rsc}
theorem Sep.rowsAt (h : Sep M w0 Δ F w) (j : Nat) {vs : List View} {xss : List (List β)} {g} (hj : F[j]? = some (rows vs xss g)) : ownL false w (vs.map View.val) xss g := h.fs _ (List.mem_of_getElem? hj)
theorem Sep.lookR (h : Sep M w0 Δ F w) (j : Nat) {vs : List View} {xss : List (List β)} {g} (hj : F[j]? = some (rows vs xss g)) {s cs f} {y : List β} (ho : own s w cs y f) (hs : ∀ b ∈ f, b ∈ g) : Sep M w0 Δ (F ++ [Wk.seen s cs y f]) w :=
  h.look (r := Wk.seen s cs y f) ho fun b hb => h.ap _ (List.mem_of_getElem? hj) b (hs b hb)
theorem Sep.fset (h : Sep M w0 Δ F w) (j : Nat) {r : Rsc} (hr : r.φ w) (hd : ∀ b ∈ r.fp, b ∉ blocks Δ) : Sep M w0 Δ (F.set j r) w :=
  h.fto fun q hq => by
    rcases List.mem_or_eq_of_mem_set hq with hq | rfl
    · exact ⟨h.fs q hq, h.ap q hq⟩
    · exact ⟨hr, hd⟩
theorem Sep.rowSet {s : Bool} (h : Sep M w0 Δ F w) (i j e : Nat) {ad n cap} {vs : List View} {xss : List (List β)} {f g} (hi : Δ[i]? = some (Wk.mine [.slice ad n cap] vs f)) (hj : F[j]? = some (rows vs xss g)) {a m c} {y : List β} {fy} (he : F[e]? = some (Wk.seen s [.slice a m c] y fy))
    (hl : vs.length = xss.length) (k : Nat) (hk : k < xss.length) :
    ∃ b o cur T, ad = some ⟨b, o, none⟩ ∧ w.heap[b]? = some (.cells cur T (0, 0)) ∧ o + k < cur.size ∧ b ∈ f ∧
      ∃ f' g', Sep M w0 (Δ.set i (Wk.mine [.slice ad n cap] (vs.set k ⟨a, m, c⟩) f')) (F.set j (rows (vs.set k ⟨a, m, c⟩) (xss.set k y) g')) (Wk.put w b (.cells (cur.setIfInBounds (o + k) (.slice a m c)) T (0, 0))) := by
  obtain ⟨b, o, cur, T, e1, hb, hsz, hs⟩ := h.elset i hi k (by omega)
  obtain ⟨b2, o2, _, _, e2, _, _, _, hbf⟩ := own_elem (h.mine i hi) k (by omega)
  rw [e1] at e2; cases e2
  have hs1 : (sz View) = 1 := rfl
  rw [hs1] at hsz hs
  obtain ⟨f', H⟩ := hs [.slice a m c] ⟨a, m, c⟩ ⟨rfl, rfl⟩
  have e3 : lay cur (o + k * 1) [.slice a m c] = cur.setIfInBounds (o + k) (.slice a m c) := by rw [Nat.mul_one]; rfl
  rw [e3] at H
  obtain ⟨g', hg, hgs⟩ := rows_set (u := ⟨a, m, c⟩) (H.rowsAt j hj) hl (own_weak (H.seen e he)) k hk
  refine ⟨b, o, cur, T, e1, hb, by omega, hbf, f', g', H.fset j hg fun x hx => ?_⟩
  rcases hgs x hx with hx | hx
  · exact H.ap _ (List.mem_of_getElem? hj) x hx
  · exact H.ap _ (List.mem_of_getElem? he) x hx
/-- A list of lists, parted into its views and the lists. -/
theorem Sep.parted (h : Sep M w0 Δ F w) (i : Nat) {ad n cap} {xss : List (List β)} {f} (hi : Δ[i]? = some (Wk.mine [.slice ad n cap] xss f)) :
    ∃ vs f' g, vs.length = xss.length ∧ Sep M w0 (Δ.set i (Wk.mine [.slice ad n cap] (vs : List View) f')) (F ++ [rows vs xss g]) w := by
  have hn := h.nodup1 hi
  have key : ∃ (vs : List View) (f' g : List Nat), vs.length = xss.length ∧ own true w [.slice ad n cap] vs f' ∧ ownL false w (vs.map View.val) xss g ∧ (∀ x ∈ f', x ∈ f) ∧ f'.Nodup ∧ (∀ x ∈ g, x ∈ f ∧ x ∉ f') := by
    rcases h.mine i hi with ⟨h1, _⟩ | ⟨h1, rfl, rfl⟩ | ⟨b, o, cap', cur, T, fr, fs, h1, h2, h3, h4, h5, h6, h7, h8⟩
    · cases h1
    · exact ⟨[], [], [], rfl, .inr (.inl ⟨h1, rfl, rfl⟩), rfl, by simp, .nil, by simp⟩
    · subst h2
      have hlen : ((cur.toList.drop o).take xss.length).length = xss.length := by
        have e : cur.toList.length = cur.size := by simp
        have : sz (List β) = 1 := rfl
        rw [this] at h7
        rw [List.length_take, List.length_drop]; omega
      have h9 : ownL true w ((cur.toList.drop o).take xss.length) xss fs := h8.congr (by show List.take (xss.length * 1) _ = List.take (xss.length * 1) _; rw [Nat.mul_one, List.take_take, Nat.min_self])
      obtain ⟨vs, e1, e2⟩ := ownL_views h9 hlen
      rw [e1] at h9
      have hb : b ∉ fs := (List.nodup_cons.1 hn).1
      refine ⟨vs, [b], fs, e2, .inr (.inr ⟨b, o, cap', cur, T, fr, [], by rw [h1, e2], rfl, h3, h4, by omega, h6, h7, ?_⟩), h9.weak', by simp, by simp, fun x hx => ⟨by simp [hx], by simp; exact fun e => hb (e ▸ hx)⟩⟩
      refine (views_own (w := w) (vs := vs) (s := true)).congr ?_
      show List.take (vs.length * 1) _ = List.take (vs.length * 1) _
      rw [Nat.mul_one, ← e1, e2, List.take_take, Nat.min_self]
  obtain ⟨vs, f', g, k1, k2, k3, k4, k5, k6⟩ := key
  have H := h.set hi (q := Wk.mine [.slice ad n cap] vs f') Ext.refl k2 k5 fun x hx => .inl (k4 x hx)
  refine ⟨vs, f', g, k1, H.look (r := rows vs xss g) k3 fun x hx hm => ?_⟩
  have hx' := k6 x hx
  obtain ⟨r, hr, hxr⟩ := mem_blocks.1 hm
  rcases set_other hi h.nd r hr with rfl | ⟨_, hr2⟩
  · exact hx'.2 hxr
  · exact hr2 x hxr hx'.1
end
section
variable {P : Program} {n : Nat} {ops : Array Oper} {Q : Post} {L : Env} {w w0 : World} {M : Nat → Prop} {Δ F : List Rsc} {d : Tmp} {ty : TypeId} {p : String} {af : Array Edge} {g : Option (Nat × Bool)} {rest : List Oper} {β : Type} [Rp β]
theorem s_rowset {t : TypeId} {x y : Operand} {b off : Nat} {ad : Option Addr} {len cap : Nat} {vs : List View} {xss : List (List β)} {f gg : List Nat} {s a m c} {z : List β} {fy} (hw : Wn ops n L ⟨none, .store t x y, ty, p, af, g⟩) (hs : ∀ w, (sizeOf t).run P w = .ok 1 w)
    (H : Sep M w0 Δ F w) (i j e : Nat) (hi : Δ[i]? = some (mine [.slice ad len cap] vs f)) (hj : F[j]? = some (rows vs xss gg)) (he : F[e]? = some (seen s [.slice a m c] z fy)) (hl : vs.length = xss.length) (k : Nat) (hk : k < xss.length)
    (hx : evL L x = some (.pointer (some ⟨b, off + k * 1, none⟩))) (had : ad = some ⟨b, off, none⟩) (hy : evL L y = some (.slice a m c))
    (kk : ∀ w' f' g', Sep M w0 (Δ.set i (mine [.slice ad len cap] (vs.set k ⟨a, m, c⟩) f')) (F.set j (rows (vs.set k ⟨a, m, c⟩) (xss.set k z) g')) w' → RL P n ops Q rest L w') :
    RL P n ops Q (⟨none, .store t x y, ty, p, af, g⟩ :: rest) L w := by
  obtain ⟨b', o', cur, T, e1, hb, hsz, _, f', g', h⟩ := H.rowSet i j e hi hj he hl k hk
  rw [had] at e1
  simp only [Option.some.injEq, Addr.mk.injEq, and_true] at e1
  obtain ⟨rfl, rfl⟩ := e1
  rw [Nat.mul_one] at hx
  exact s_do hw rfl (pd_store hs hx hy rfl hb hsz) (kk _ f' g' h)
end
section
variable {P : Program} {n : Nat} {ops : Array Oper} {Q : Post} {S : World → Prop} {L : Env} {w w0 : World} {M : Nat → Prop} {Δ F : List Rsc} {l : Nat} {d : Tmp} {ty : TypeId} {p : String} {af : Array Edge} {g : Option (Nat × Bool)} {rest : List (Nat × Bool)} {β : Type} [Rp β]
theorem d_rowset {t : TypeId} {x y : Operand} {b off : Nat} {ad : Option Addr} {len cap : Nat} {vs : List View} {xss : List (List β)} {f gg : List Nat} {s a m c} {z : List β} {fy} (ho : ops.toList[l]? = some ⟨none, .store t x y, ty, p, af, g⟩) (hw : Wn ops n L ⟨none, .store t x y, ty, p, af, g⟩) (hs : ∀ w, (sizeOf t).run P w = .ok 1 w)
    (H : Sep M w0 Δ F w) (i j e : Nat) (hi : Δ[i]? = some (mine [.slice ad len cap] vs f)) (hj : F[j]? = some (rows vs xss gg)) (he : F[e]? = some (seen s [.slice a m c] z fy)) (hl : vs.length = xss.length) (k : Nat) (hk : k < xss.length)
    (hx : evL L x = some (.pointer (some ⟨b, off + k * 1, none⟩))) (had : ad = some ⟨b, off, none⟩) (hy : evL L y = some (.slice a m c)) (hS : ∀ (b o : Nat) (cur : Array Value) (T : TypeId), ad = some ⟨b, o, none⟩ → w.heap[b]? = some (.cells cur T (0, 0)) → o + k < cur.size → S w → rest ≠ [] → S (put w b (.cells (cur.setIfInBounds (o + k) (.slice a m c)) T (0, 0))))
    (kk : ∀ w' f' g', Sep M w0 (Δ.set i (mine [.slice ad len cap] (vs.set k ⟨a, m, c⟩) f')) (F.set j (rows (vs.set k ⟨a, m, c⟩) (xss.set k z) g')) w' → DL P n ops Q S rest L w') :
    DL P n ops Q S ((l, false) :: rest) L w := by
  obtain ⟨b', o', cur, T, e1, hb, hsz, hbf, f', g', h⟩ := H.rowSet i j e hi hj he hl k hk
  rw [had] at e1
  simp only [Option.some.injEq, Addr.mk.injEq, and_true] at e1
  obtain ⟨rfl, rfl⟩ := e1
  rw [Nat.mul_one] at hx
  exact d_do ho hw rfl (pd_store hs hx hy rfl hb hsz) (fun hSw hr => hS _ _ cur T had hb hsz hSw hr) (kk _ f' g' h)
end
theorem swap_cell {w : World} {b o a r : Nat} {cur : Array Value} {T : TypeId} {v : Value} (hb : w.heap[b]? = some (.cells cur T (0, 0))) (hr : o + r < cur.size) (hc : w.cell? ⟨b, o + a * 1, none⟩ = some v) :
    (put w b (.cells (cur.setIfInBounds (o + r) v) T (0, 0))).cell? ⟨b, o + a * 1, none⟩ = some v := by
  rw [Nat.mul_one] at hc ⊢
  refine cell_at (put_heap hb) ?_
  have hc' : cur[o + a]? = some v := by simpa [World.cell?, hb] using hc
  by_cases e : r = a
  · subst e; simp [hr]
  · rw [Array.getElem?_setIfInBounds_ne (by omega)]; exact hc'
/-- A call that changes which rows a list has. -/
def RowsMut {β : Type} [Rp β] (w w' : World) (fp : List Nat) (V : Value) (K : Nat) (m : List (List β)) : Prop :=
  ∃ (vs : List View) (f g : List Nat), vs.length = K ∧ Ext (· ∈ fp) w w' ∧ own true w' [V] vs f ∧ f.Nodup ∧ (∀ b ∈ f, b ∈ fp ∨ w.heap.size ≤ b) ∧ ownL false w' (vs.map View.val) m g ∧ ∀ b ∈ g, b ∉ f
section
variable {β : Type} [Rp β] {M : Nat → Prop} {w0 w w' : World} {Δ F : List Rsc}
theorem Sep.rowsOut {w : World} {fp : List Nat} {V : Value} {vs : List View} {f g : List Nat} {m : List (List β)} {K : Nat} (h : Sep (· ∈ fp) w [Wk.mine [V] vs f] [rows vs m g] w') (hl : vs.length = K) : RowsMut w w' fp V K m :=
  ⟨vs, f, g, hl, h.ext, h.mine 0 rfl, h.nodup1 (i := 0) rfl, fun b hb => h.new b (by simpa [blocks, Wk.mine] using hb), h.rowsAt 0 rfl, fun b hb => h.off 0 rfl 0 rfl hb⟩
theorem Sep.beginRows {fp : List Nat} {V : Value} {vs : List View} {g : List Nat} {m : List (List β)} (o : own true w [V] vs fp) (nd : fp.Nodup) (hr : ownL false w (vs.map View.val) m g) (hd : ∀ b ∈ g, b ∉ fp) : Sep (· ∈ fp) w [Wk.mine [V] vs fp] [rows vs m g] w :=
  (Sep.begin o nd).look (r := rows vs m g) hr fun b hb hm => hd b hb (by simpa [blocks, Wk.mine] using hm)
theorem Sep.rowsMut (h : Sep M w0 Δ F w) (i : Nat) {V : Value} {vs : List View} {fp : List Nat} (hi : Δ[i]? = some (Wk.mine [V] vs fp)) (honly : ∀ b ∈ blocks Δ, b ∈ fp) {K : Nat} {m : List (List β)} (hm : RowsMut w w' fp V K m) :
    ∃ vs' f' g', vs'.length = K ∧ Sep M w0 (Δ.set i (Wk.mine [V] (vs' : List View) f')) (F ++ [rows vs' m g']) w' := by
  obtain ⟨vs', f', g', h1, h2, h3, h4, h5, h6, h7⟩ := hm
  have H := h.set hi (q := Wk.mine [V] vs' f') h2 h3 h4 h5
  refine ⟨vs', f', g', h1, H.look (r := rows vs' m g') h6 fun b hb hm => ?_⟩
  obtain ⟨r, hr, hbr⟩ := mem_blocks.1 hm
  rcases set_other hi h.nd r hr with rfl | ⟨hr1, hr2⟩
  · exact h7 b hb hbr
  · exact hr2 b hbr (honly b (mem_blocks.2 ⟨r, hr1, hbr⟩))
end
theorem step_none {m M : Mat} {c r : Nat} (h : redM m c = (M, r)) (hp : M.length ≤ pivAt M c r) : redM m (c + 1) = (M, r) := by
  show stepM (redM m c).1 c (redM m c).2 = _
  rw [h]
  exact if_pos hp
theorem step_some {m M : Mat} {c r j : Nat} (h : redM m c = (M, r)) (hp : pivAt M c r = j) (hj : j < M.length) : redM m (c + 1) = (elimTo (normM M c r j) c r M.length, r + 1) := by
  show stepM (redM m c).1 c (redM m c).2 = _
  rw [h]
  show stepM M c r = _
  rw [stepM, if_neg (by omega), hp]
theorem elim_ne {N : Mat} {c r i : Nat} {x : UInt8} (h : (decide ((i : Int) ≠ (r : Int)) && decide ((x.toNat : Int) ≠ 0)) = true) : i ≠ r := by
  simp only [Bool.and_eq_true, decide_eq_true_eq] at h; omega
theorem elim_next {N : Mat} {K l c r i : Nat} (hR : Rect N K l) (hi : i < K) (hr : r < K) (h : (decide ((i : Int) ≠ (r : Int)) && decide (((((elimTo N c r i).getD i []).getD c 0).toNat : Int) ≠ 0)) = false) :
    elimTo N c r i = elimTo N c r (i + 1) := by
  by_cases e : i = r
  · exact elimTo_skip (.inl e)
  · refine elimTo_zeroE hR hi hr ?_
    rw [elimTo_at (by rw [hR.1]; exact hi)] at h
    have e1 : decide ((i : Int) ≠ (r : Int)) = true := by simp; omega
    rw [e1, Bool.true_and, decide_eq_false_iff_not, Decidable.not_not] at h
    exact u8_zero h
theorem norm_of {M : Mat} {c r j : Nat} (hr : r < M.length) (hj : j < M.length) :
    ((M.set r (M.getD j [])).set j (M.getD r [])).set r (scaleG (((M.set r (M.getD j [])).set j (M.getD r [])).getD r []) (mulG 1 (invG ((((M.set r (M.getD j [])).set j (M.getD r [])).getD r []).getD c 0)))) = normM M c r j := by
  have e := swapM_r (m := M) hr hj
  rw [swapM] at e
  rw [e, mul_one_l]
  exact swap_norm
end Go.Wk
