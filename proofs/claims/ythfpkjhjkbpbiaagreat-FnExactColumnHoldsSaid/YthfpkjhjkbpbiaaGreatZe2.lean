/-
  Laws on walking, and the functions walked, each once: what this claim comes to.
-/
import Derived.Test.YthfpkjhjkbpbiaaGreatZe1
set_option linter.unusedVariables false
set_option linter.unusedSimpArgs false
namespace Go.Wk
open Rp (sz own)
def kLt (a b : Int × Int × Int) : Prop := a.1 < b.1 ∨ a.1 = b.1 ∧ (a.2.1 < b.2.1 ∨ a.2.1 = b.2.1 ∧ a.2.2 < b.2.2)
theorem kLin : LinO kLt where
  irr a h := by unfold kLt at h; omega
  tr a b c h k := by unfold kLt at h k ⊢; omega
  tot a b := by
    by_cases h : kLt a b
    · exact .inl h
    · by_cases k : kLt b a
      · exact .inr (.inr k)
      · refine .inr (.inl ?_)
        obtain ⟨a1, a2, a3⟩ := a
        obtain ⟨b1, b2, b3⟩ := b
        unfold kLt at h k
        dsimp only at h k
        rw [show a1 = b1 by omega, show a2 = b2 by omega, show a3 = b3 by omega]
def keyR (r : Rec) : Int × Int × Int := (r.Seq, r.Kind, r.Group)
def keyV (v : RecV) : Int × Int × Int := keyR v.r
def cmpI (a b : Int) : Int := if a < b then -1 else if b < a then 1 else 0
def cfR (x y : Rec) : Int := if cmpI x.Seq y.Seq ≠ 0 then cmpI x.Seq y.Seq else if cmpI x.Kind y.Kind ≠ 0 then cmpI x.Kind y.Kind else cmpI x.Group y.Group
theorem cf_lt {x y : Rec} : cfR x y < 0 ↔ kLt (keyR x) (keyR y) := by
  unfold cfR cmpI kLt keyR
  dsimp only
  repeat' split
  all_goals omega
section
variable {P : Program} {n : Nat} {ops : Array Oper} {Q : Post} {L : Env} {S : World → Prop} {w w0 : World} {M : Nat → Prop} {Δ F : List Rsc} {ty : TypeId} {p : String} {af : Array Edge} {g : Option (Nat × Bool)} {l : Nat} {rest : List (Nat × Bool)}
theorem d_elstV {t : TypeId} {x y : Operand} {b off : Nat} {ad : Option Addr} {len cap : Nat} {xs : List RecV} {fp : List Nat} {u : RecV} (ho : ops.toList[l]? = some ⟨none, .store t x y, ty, p, af, g⟩) (hw : Wn ops n L ⟨none, .store t x y, ty, p, af, g⟩) (hs : ∀ w, (sizeOf t).run P w = .ok 9 w)
    (H : Sep M w0 Δ F w) (i : Nat) (hi : Δ[i]? = some (Wk.mine [.slice ad len cap] xs fp)) (q : Nat) (hq : q < xs.length) (hx : evL L x = some (.pointer (some ⟨b, off + q * 9, none⟩))) (had : ad = some ⟨b, off, none⟩) (hy : evL L y = some (.agg u.cs.toArray)) (ok : u.r.Ok)
    (hS : ∀ w', S w → Ext (· = b) w w' → rest ≠ [] → S w')
    (k : ∀ w' fp', Sep M w0 (Δ.set i (Wk.mine [.slice ad len cap] (xs.set q u) fp')) F w' → DL P n ops Q S rest L w') :
    DL P n ops Q S ((l, false) :: rest) L w := by
  obtain ⟨b', o', cur, T, e1, hb, hsz, hk⟩ := H.elset i hi q hq
  rw [had] at e1
  simp only [Option.some.injEq, Addr.mk.injEq, and_true] at e1
  obtain ⟨rfl, rfl⟩ := e1
  obtain ⟨fp', h⟩ := hk u.cs u ⟨rfl, rfl, ok⟩
  exact d_do ho hw rfl (pd_storeS hs hx hy rfl RecV.one hb hsz) (fun hSw hr => hS _ hSw (Ext.refl.put (.inl rfl)) hr) (k _ fp' h)
end
end Go.Wk
namespace Go.Wk
section
variable {α : Type}
theorem seg_nil {l : List α} {a b : Nat} (h : b ≤ a) : seg l a b = [] := by
  unfold seg; apply List.eq_nil_of_length_eq_zero; rw [List.length_drop, List.length_take]; omega
end
section
variable {α : Type} [Inhabited α] {l l2 ws : List α} {a b i j : Nat}
theorem seg_ext {xs ys : List α} {a b : Nat} (h1 : b ≤ xs.length) (h2 : b ≤ ys.length) (h : ∀ j, a ≤ j → j < b → xs.getD j default = ys.getD j default) : seg xs a b = seg ys a b :=
  getD_ext (d := default) (by rw [seg_len h1, seg_len h2]) fun j hj => by
    rw [seg_len h1] at hj
    rw [seg_get (by omega), seg_get (by omega)]
    exact h _ (by omega) (by omega)
theorem seg_one {l : List α} {a : Nat} (h : a < l.length) : seg l a (a + 1) = [l.getD a default] := by
  apply getD_ext (d := default)
  · rw [seg_len (by omega)]; simp
  · intro j hj
    rw [seg_len (by omega)] at hj
    obtain rfl : j = 0 := by omega
    rw [seg_get (by omega)]; rfl
theorem seg_mem {l : List α} {a b : Nat} {x : α} (h2 : b ≤ l.length) (h : x ∈ seg l a b) : ∃ j, a ≤ j ∧ j < b ∧ l.getD j default = x := by
  obtain ⟨j, hj, e⟩ := List.getElem_of_mem h
  rw [seg_len h2] at hj
  refine ⟨a + j, by omega, by omega, ?_⟩
  rw [← seg_get (b := b) (by omega), getD_el (by rw [seg_len h2]; omega)]; exact e
theorem seg_in {l : List α} {a b j : Nat} (h2 : b ≤ l.length) (h : a ≤ j) (h3 : j < b) : l.getD j default ∈ seg l a b := by
  have e := seg_get (l := l) (a := a) (b := b) (j := j - a) (by omega)
  rw [show a + (j - a) = j by omega] at e
  rw [← e, getD_el (by rw [seg_len h2]; omega)]
  exact List.getElem_mem _
end
section
variable {ws l l2 : List RecV} {a b i j : Nat}
def SortSeg (ws l : List RecV) (a b : Nat) : Prop := l.length = ws.length ∧ (∀ q, q < a ∨ b ≤ q → l.getD q default = ws.getD q default) ∧ Stable kLt keyV (seg ws a b) (seg l a b)
def InsInv (ws l : List RecV) (a i j : Nat) : Prop := a ≤ j ∧ j ≤ i ∧ l.length = ws.length ∧ (∀ q, q < a ∨ i + 1 ≤ q → l.getD q default = ws.getD q default) ∧ Stable kLt keyV (seg ws a i) (seg l a j ++ seg l (j + 1) (i + 1)) ∧
  l.getD j default = ws.getD i default ∧ ∀ q, j < q → q ≤ i → kLt (keyV (ws.getD i default)) (keyV (l.getD q default))
theorem sort_start (h : a + 1 ≤ ws.length) : SortSeg ws ws a (a + 1) :=
  ⟨rfl, fun _ _ => rfl, by rw [seg_one (by omega)]; exact .cons (by simp) .nil, .refl⟩
theorem sort_none (h : b ≤ a) : SortSeg ws ws a b := ⟨rfl, fun _ _ => rfl, by rw [seg_nil h]; exact .nil, .refl⟩
theorem ins_start (h : SortSeg ws l a i) (h1 : a ≤ i) : InsInv ws l a i i := by
  obtain ⟨e1, e2, e3⟩ := h
  refine ⟨h1, Nat.le_refl _, e1, fun q hq => e2 q (by omega), ?_, e2 i (by omega), fun q h3 h4 => by omega⟩
  rw [seg_nil (Nat.le_refl (i + 1)), List.append_nil]; exact e3
theorem ins_step (h : InsInv ws l a i j) (h1 : a < j) (h2 : i < ws.length) (hc : cfR (l.getD j default).r (l.getD (j - 1) default).r < 0) :
    InsInv ws ((l.set j (l.getD (j - 1) default)).set (j - 1) (l.getD j default)) a i (j - 1) := by
  obtain ⟨e1, e2, e3, e4, e5, e6, e7⟩ := h
  have hg : ∀ q, ((l.set j (l.getD (j - 1) default)).set (j - 1) (l.getD j default)).getD q default = if q = j - 1 then l.getD j default else if q = j then l.getD (j - 1) default else l.getD q default := fun q => by
    rw [getD_set, getD_set, List.length_set]
    by_cases c1 : q = j - 1
    · rw [if_pos ⟨c1, by omega⟩, if_pos c1]
    · rw [if_neg (fun h => c1 h.1), if_neg c1]
      by_cases c2 : q = j
      · rw [if_pos ⟨c2, by omega⟩, if_pos c2]
      · rw [if_neg (fun h => c2 h.1), if_neg c2]
  have hlen : ((l.set j (l.getD (j - 1) default)).set (j - 1) (l.getD j default)).length = ws.length := by rw [List.length_set, List.length_set]; exact e3
  refine ⟨by omega, by omega, hlen, fun q hq => ?_, ?_, ?_, fun q h3 h4 => ?_⟩
  · rw [hg, if_neg (by omega), if_neg (by omega)]; exact e4 q hq
  · have s1 : seg ((l.set j (l.getD (j - 1) default)).set (j - 1) (l.getD j default)) a (j - 1) = seg l a (j - 1) := seg_ext (by omega) (by omega) fun q h3 h4 => by rw [hg, if_neg (by omega), if_neg (by omega)]
    have s2 : seg ((l.set j (l.getD (j - 1) default)).set (j - 1) (l.getD j default)) (j - 1 + 1) (i + 1) = seg l (j - 1) j ++ seg l (j + 1) (i + 1) := by
      rw [show j - 1 + 1 = j by omega, ← seg_app (b := j + 1) (by omega) (by omega), seg_one (by omega)]
      congr 1
      · have := seg_one (l := l) (a := j - 1) (by omega)
        rw [show j - 1 + 1 = j by omega] at this
        rw [this, hg, if_neg (by omega), if_pos rfl]
      · exact seg_ext (by omega) (by omega) fun q h3 h4 => by rw [hg, if_neg (by omega), if_neg (by omega)]
    rw [s1, s2, ← List.append_assoc, seg_app (by omega) (by omega)]; exact e5
  · rw [hg, if_pos rfl]; exact e6
  · rw [hg, if_neg (by omega)]
    by_cases c : q = j
    · rw [if_pos c]
      have := (cf_lt (x := (l.getD j default).r) (y := (l.getD (j - 1) default).r)).1 hc
      rw [e6] at this; exact this
    · rw [if_neg c]; exact e7 q (by omega) h4
theorem ins_end (h : InsInv ws l a i j) (h2 : i < ws.length) (hc : j = a ∨ ¬ cfR (l.getD j default).r (l.getD (j - 1) default).r < 0) : SortSeg ws l a (i + 1) := by
  obtain ⟨e1, e2, e3, e4, e5, e6, e7⟩ := h
  refine ⟨e3, e4, ?_⟩
  have sl : seg l a (i + 1) = seg l a j ++ l.getD j default :: seg l (j + 1) (i + 1) := by
    rw [← seg_app (b := j) (by omega) (by omega), ← seg_app (l := l) (a := j) (b := j + 1) (c := i + 1) (by omega) (by omega), seg_one (by omega)]; rfl
  have sw : seg ws a (i + 1) = seg ws a i ++ [ws.getD i default] := by rw [← seg_app (b := i) (by omega) (by omega), seg_one (by omega)]
  rw [sl, sw, e6]
  refine stable_insert kLin e5 (fun y hy => ?_) fun y hy => ?_
  · obtain ⟨q, h3, h4, rfl⟩ := seg_mem (by omega) hy
    exact e7 q (by omega) (by omega)
  · obtain ⟨q, h3, h4, rfl⟩ := seg_mem (by omega) hy
    rcases hc with hc | hc
    · omega
    · rw [cf_lt, e6] at hc
      change ¬ kLt (keyV (ws.getD i default)) (keyV (l.getD (j - 1) default)) at hc
      by_cases c : q = j - 1
      · rw [c]; exact hc
      · have ho : Ord kLt keyV (seg l a (j - 1) ++ seg l (j - 1) j) := by rw [seg_app (by omega) (by omega)]; exact e5.1.left
        have hle := ho.le _ (seg_in (l := l) (a := a) (b := j - 1) (j := q) (by omega) h3 (by omega)) _ (seg_in (l := l) (a := j - 1) (b := j) (j := j - 1) (by omega) (by omega) (by omega))
        intro hlt
        rcases kLin.tot (keyV (l.getD q default)) (keyV (l.getD (j - 1) default)) with c1 | c1 | c1
        · exact hc (kLin.tr _ _ _ hlt c1)
        · rw [c1] at hlt; exact hc hlt
        · exact hle c1
def InsO (ws l : List RecV) (a b i : Nat) : Prop := (b ≤ a ∧ l = ws) ∨ (a < b ∧ i ≤ b ∧ SortSeg ws l a i)
theorem insO_start (h : b ≤ ws.length) : InsO ws ws a b (a + 1) := by
  by_cases c : b ≤ a
  · exact .inl ⟨c, rfl⟩
  · exact .inr ⟨by omega, by omega, sort_start (by omega)⟩
theorem insO_get (h : InsO ws l a b i) (h1 : a < i) (h2 : i < b) : SortSeg ws l a i := by
  rcases h with ⟨h, _⟩ | ⟨_, _, h⟩
  · omega
  · exact h
theorem insO_next (h : SortSeg ws l a (i + 1)) (h1 : a < i) (h2 : i < b) : InsO ws l a b (i + 1) := .inr ⟨by omega, by omega, h⟩
theorem insO_end (h : InsO ws l a b i) (h2 : ¬ i < b) : SortSeg ws l a b := by
  rcases h with ⟨h, e⟩ | ⟨_, h1, h⟩
  · rw [e]; exact sort_none h
  · rwa [show b = i by omega]
end
end Go.Wk
namespace Go.Wk
def kAt (l : List RecV) (q : Nat) : Int × Int × Int := keyV (l.getD q default)
section
variable {ws l l2 l3 : List RecV} {a b m i j k s r p h mid e : Nat}
theorem ord_at (ho : Ord kLt keyV (seg ws a b)) (hb : b ≤ ws.length) {x y : Nat} (h1 : a ≤ x) (h2 : x < y) (h3 : y < b) : ¬ kLt (kAt ws y) (kAt ws x) := by
  have h4 : Ord kLt keyV (seg ws a y ++ seg ws y b) := by rw [seg_app (by omega) (by omega)]; exact ho
  exact h4.le _ (seg_in (by omega) h1 h2) _ (seg_in hb (Nat.le_refl _) h3)
theorem ord_of (hb : b ≤ ws.length) (hh : ∀ x y, a ≤ x → x < y → y < b → ¬ kLt (kAt ws y) (kAt ws x)) : Ord kLt keyV (seg ws a b) := by
  have key : ∀ n, ∀ a, b - a ≤ n → (∀ x y, a ≤ x → x < y → y < b → ¬ kLt (kAt ws y) (kAt ws x)) → Ord kLt keyV (seg ws a b) := by
    intro n
    induction n with
    | zero => intro a h1 _; rw [seg_nil (by omega)]; exact .nil
    | succ n ih =>
      intro a h1 h2
      by_cases c : a < b
      · rw [← seg_app (b := a + 1) (by omega) (by omega), seg_one (by omega)]
        refine .cons (fun y hy => ?_) (ih (a + 1) (by omega) fun x y q1 q2 q3 => h2 x y (by omega) q2 q3)
        obtain ⟨q, q1, q2, rfl⟩ := seg_mem hb hy
        exact h2 a q (Nat.le_refl _) (by omega) q2
      · rw [seg_nil (by omega)]; exact .nil
  exact key _ a (Nat.le_refl _) hh
theorem ord_sub (ho : Ord kLt keyV (seg ws a b)) (hb : b ≤ ws.length) {x y : Nat} (h1 : a ≤ x) (h2 : y ≤ b) : Ord kLt keyV (seg ws x y) :=
  ord_of (by omega) fun p q q1 q2 q3 => ord_at ho hb (by omega) q2 (by omega)
theorem k_le {x y z : Int × Int × Int} (h1 : ¬ kLt y x) (h2 : ¬ kLt z y) : ¬ kLt z x := fun h3 => by
  rcases kLin.tot x y with c | c | c
  · exact h2 (kLin.tr _ _ _ h3 c)
  · rw [← c] at h2; exact h2 h3
  · exact h1 c
theorem k_lt_le {x y z : Int × Int × Int} (h1 : kLt x y) (h2 : ¬ kLt z y) : kLt x z := by
  rcases kLin.tot y z with c | c | c
  · exact kLin.tr _ _ _ h1 c
  · rw [← c]; exact h1
  · exact absurd c h2
theorem k_le_lt {x y z : Int × Int × Int} (h1 : ¬ kLt y x) (h2 : kLt y z) : kLt x z := by
  rcases kLin.tot x y with c | c | c
  · exact kLin.tr _ _ _ c h2
  · rw [c]; exact h2
  · exact absurd c h1
def LoInv (ws : List RecV) (a m b i j : Nat) : Prop := m ≤ i ∧ i ≤ j ∧ j ≤ b ∧ (∀ q, m ≤ q → q < i → kLt (kAt ws q) (kAt ws a)) ∧ ∀ q, j ≤ q → q < b → ¬ kLt (kAt ws q) (kAt ws a)
theorem lo_start (h : m ≤ b) : LoInv ws a m b m b := ⟨Nat.le_refl _, h, Nat.le_refl _, fun q h1 h2 => by omega, fun q h1 h2 => by omega⟩
theorem lo_yes (hI : LoInv ws a m b i j) (hb : b ≤ ws.length) (ho : Ord kLt keyV (seg ws m b)) (h1 : i ≤ h) (h2 : h < j) (hc : cfR (ws.getD h default).r (ws.getD a default).r < 0) : LoInv ws a m b (h + 1) j := by
  obtain ⟨e1, e2, e3, e4, e5⟩ := hI
  have hc' : kLt (kAt ws h) (kAt ws a) := cf_lt.1 hc
  refine ⟨by omega, by omega, e3, fun q q1 q2 => ?_, e5⟩
  by_cases c : q = h
  · rw [c]; exact hc'
  · exact k_le_lt (ord_at ho hb q1 (by omega) (by omega)) hc'
theorem lo_no (hI : LoInv ws a m b i j) (hb : b ≤ ws.length) (ho : Ord kLt keyV (seg ws m b)) (h1 : i ≤ h) (h2 : h < j) (hc : ¬ cfR (ws.getD h default).r (ws.getD a default).r < 0) : LoInv ws a m b i h := by
  obtain ⟨e1, e2, e3, e4, e5⟩ := hI
  have hc' : ¬ kLt (kAt ws h) (kAt ws a) := fun x => hc (cf_lt.2 x)
  refine ⟨e1, h1, by omega, e4, fun q q1 q2 => ?_⟩
  by_cases c : q = h
  · rw [c]; exact hc'
  · exact k_le hc' (ord_at ho hb (by omega) (by omega) q2)
def UpInv (ws l : List RecV) (a k : Nat) : Prop := a ≤ k ∧ k < ws.length ∧ l.length = ws.length ∧ (∀ q, q < a ∨ k < q → l.getD q default = ws.getD q default) ∧ (∀ q, a ≤ q → q < k → l.getD q default = ws.getD (q + 1) default) ∧ l.getD k default = ws.getD a default
theorem up_start (h : a < ws.length) : UpInv ws ws a a := ⟨Nat.le_refl _, h, rfl, fun _ _ => rfl, fun q h1 h2 => by omega, rfl⟩
theorem up_step (hI : UpInv ws l a k) (hk : k + 1 < ws.length) : UpInv ws ((l.set k (l.getD (k + 1) default)).set (k + 1) (l.getD k default)) a (k + 1) := by
  obtain ⟨e1, e2, e3, e4, e5, e6⟩ := hI
  have hg : ∀ q, ((l.set k (l.getD (k + 1) default)).set (k + 1) (l.getD k default)).getD q default = if q = k + 1 then l.getD k default else if q = k then l.getD (k + 1) default else l.getD q default := fun q => by
    rw [getD_set, getD_set, List.length_set]
    by_cases c1 : q = k + 1
    · rw [if_pos ⟨c1, by omega⟩, if_pos c1]
    · rw [if_neg (fun h => c1 h.1), if_neg c1]
      by_cases c2 : q = k
      · rw [if_pos ⟨c2, by omega⟩, if_pos c2]
      · rw [if_neg (fun h => c2 h.1), if_neg c2]
  refine ⟨by omega, hk, by rw [List.length_set, List.length_set]; exact e3, fun q hq => ?_, fun q q1 q2 => ?_, by rw [hg, if_pos rfl]; exact e6⟩
  · rw [hg, if_neg (by omega), if_neg (by omega)]; exact e4 q (by omega)
  · rw [hg, if_neg (by omega)]
    by_cases c : q = k
    · rw [if_pos c, c]; exact e4 _ (by omega)
    · rw [if_neg c]; exact e5 q q1 (by omega)
theorem up_end (hI : UpInv ws l a k) (hL : LoInv ws a (a + 1) b (k + 1) (k + 1)) (hb : b ≤ ws.length) (ho : Ord kLt keyV (seg ws (a + 1) b)) : SortSeg ws l a b := by
  obtain ⟨e1, e2, e3, e4, e5, e6⟩ := hI
  obtain ⟨f1, f2, f3, f4, f5⟩ := hL
  have s1 : seg l a k = seg ws (a + 1) (k + 1) := getD_ext (d := default) (by rw [seg_len (by omega), seg_len (by omega)]; omega) fun q hq => by
    rw [seg_len (by omega)] at hq
    rw [seg_get (by omega), seg_get (by omega), e5 _ (by omega) (by omega)]
    congr 1; omega
  have s2 : seg l (k + 1) b = seg ws (k + 1) b := seg_ext (by omega) hb fun q q1 q2 => e4 q (by omega)
  have sl : seg l a b = seg ws (a + 1) (k + 1) ++ ws.getD a default :: seg ws (k + 1) b := by
    rw [← seg_app (b := k) (by omega) (by omega), ← seg_app (l := l) (a := k) (b := k + 1) (c := b) (by omega) (by omega), seg_one (by omega), s1, s2, e6]; rfl
  have sw : seg ws a b = [ws.getD a default] ++ (seg ws (a + 1) (k + 1) ++ seg ws (k + 1) b) := by
    rw [seg_app (by omega) (by omega), ← seg_app (l := ws) (a := a) (b := a + 1) (c := b) (by omega) (by omega), seg_one (by omega)]
  refine ⟨e3, fun q hq => e4 q (by omega), ?_, ?_⟩
  · rw [sl]
    refine (ord_sub ho hb (Nat.le_refl _) f3).app (.cons (fun y hy => ?_) (ord_sub ho hb (by omega) (Nat.le_refl _))) fun x hx y hy => ?_
    · obtain ⟨q, q1, q2, rfl⟩ := seg_mem hb hy
      exact f5 q q1 q2
    · obtain ⟨q, q1, q2, rfl⟩ := seg_mem (by omega) hx
      rcases List.mem_cons.1 hy with rfl | hy
      · exact fun hlt => kLin.irr _ (kLin.tr _ _ _ hlt (f4 q q1 q2))
      · obtain ⟨q', q3, q4, rfl⟩ := seg_mem hb hy
        exact ord_at ho hb q1 (by omega) q4
  · rw [sl, sw]
    have : sameK keyV ([ws.getD a default] ++ seg ws (a + 1) (k + 1)) (seg ws (a + 1) (k + 1) ++ [ws.getD a default]) := sameK.swap fun x hx y hy ee => by
      rw [List.mem_singleton] at hx
      subst hx
      obtain ⟨q, q1, q2, rfl⟩ := seg_mem (by omega) hy
      have := f4 q q1 q2
      unfold kAt at this
      rw [ee] at this
      exact kLin.irr _ this
    have h2 := this.app (sameK.refl (xs := seg ws (k + 1) b))
    rw [List.append_assoc, List.append_assoc] at h2
    exact h2
def HiInv (ws : List RecV) (a m i j : Nat) : Prop := a ≤ i ∧ i ≤ j ∧ j ≤ m ∧ (∀ q, a ≤ q → q < i → ¬ kLt (kAt ws m) (kAt ws q)) ∧ ∀ q, j ≤ q → q < m → kLt (kAt ws m) (kAt ws q)
theorem hi_start (h : a ≤ m) : HiInv ws a m a m := ⟨Nat.le_refl _, h, Nat.le_refl _, fun q h1 h2 => by omega, fun q h1 h2 => by omega⟩
theorem hi_yes (hI : HiInv ws a m i j) (hb : m ≤ ws.length) (ho : Ord kLt keyV (seg ws a m)) (h1 : i ≤ h) (h2 : h < j) (hc : ¬ cfR (ws.getD m default).r (ws.getD h default).r < 0) : HiInv ws a m (h + 1) j := by
  obtain ⟨e1, e2, e3, e4, e5⟩ := hI
  have hc' : ¬ kLt (kAt ws m) (kAt ws h) := fun x => hc (cf_lt.2 x)
  refine ⟨by omega, by omega, e3, fun q q1 q2 => ?_, e5⟩
  by_cases c : q = h
  · rw [c]; exact hc'
  · exact k_le (ord_at ho hb q1 (show q < h by omega) (by omega)) hc'
theorem hi_no (hI : HiInv ws a m i j) (hb : m ≤ ws.length) (ho : Ord kLt keyV (seg ws a m)) (h1 : i ≤ h) (h2 : h < j) (hc : cfR (ws.getD m default).r (ws.getD h default).r < 0) : HiInv ws a m i h := by
  obtain ⟨e1, e2, e3, e4, e5⟩ := hI
  have hc' : kLt (kAt ws m) (kAt ws h) := cf_lt.1 hc
  refine ⟨e1, h1, by omega, e4, fun q q1 q2 => ?_⟩
  by_cases c : q = h
  · rw [c]; exact hc'
  · exact k_lt_le hc' (ord_at ho hb (by omega) (show h < q by omega) q2)
def DnInv (ws l : List RecV) (a m i k : Nat) : Prop := i ≤ k ∧ InsInv ws l a m k ∧ ∀ q, q < k → l.getD q default = ws.getD q default
theorem dn_start (hH : HiInv ws a m i i) (ho : Ord kLt keyV (seg ws a m)) : DnInv ws ws a m i m :=
  ⟨hH.2.2.1, ins_start ⟨rfl, fun _ _ => rfl, ho, .refl⟩ (by have := hH.1; have := hH.2.2.1; omega), fun _ _ => rfl⟩
theorem dn_step (hI : DnInv ws l a m i k) (hH : HiInv ws a m i i) (h1 : i < k) (h2 : m < ws.length) : DnInv ws ((l.set k (l.getD (k - 1) default)).set (k - 1) (l.getD k default)) a m i (k - 1) := by
  obtain ⟨e1, e2, e3⟩ := hI
  have hk : k ≤ m := e2.2.1
  have hlen := e2.2.2.1
  have hai := hH.1
  have hc : cfR (l.getD k default).r (l.getD (k - 1) default).r < 0 := by
    rw [cf_lt, e2.2.2.2.2.2.1, e3 (k - 1) (by omega)]
    exact hH.2.2.2.2 (k - 1) (by omega) (by omega)
  refine ⟨by omega, ins_step e2 (by omega) h2 hc, fun q hq => ?_⟩
  rw [getD_set, getD_set, List.length_set, if_neg (by omega), if_neg (by omega)]
  exact e3 q (by omega)
theorem dn_end (hI : DnInv ws l a m i i) (hH : HiInv ws a m i i) (h2 : m < ws.length) : SortSeg ws l a (m + 1) := by
  obtain ⟨e1, e2, e3⟩ := hI
  refine ins_end e2 h2 ?_
  by_cases c : i = a
  · exact .inl c
  · refine .inr fun hc => ?_
    have h3 := e2.1
    rw [cf_lt, e2.2.2.2.2.2.1, e3 (i - 1) (by omega)] at hc
    exact hH.2.2.2.1 (i - 1) (by omega) (by omega) hc
end
end Go.Wk
namespace Go.Wk
section
variable {ws l l2 l3 : List RecV} {a b m s r p s0 r0 h e mid : Nat}
theorem sort_triv (h : Ord kLt keyV (seg ws a b)) : SortSeg ws ws a b := ⟨rfl, fun _ _ => rfl, h, .refl⟩
def MidInv (ws : List RecV) (p s0 r0 s r : Nat) : Prop := s0 ≤ s ∧ s ≤ r ∧ r ≤ r0 ∧ (∀ c, s0 ≤ c → c < s → ¬ kLt (kAt ws (p - c)) (kAt ws c)) ∧ ∀ c, r ≤ c → c < r0 → kLt (kAt ws (p - c)) (kAt ws c)
theorem mid_start (h : s0 ≤ r0) : MidInv ws p s0 r0 s0 r0 := ⟨Nat.le_refl _, h, Nat.le_refl _, fun q h1 h2 => by omega, fun q h1 h2 => by omega⟩
def MidOK (ws : List RecV) (a m b p s0 r0 : Nat) : Prop := a ≤ s0 ∧ r0 ≤ m ∧ m + r0 ≤ p + 1 ∧ p < b + s0 ∧ b ≤ ws.length ∧ Ord kLt keyV (seg ws a m) ∧ Ord kLt keyV (seg ws m b) ∧ m ≤ b
theorem mid_yes (hI : MidInv ws p s0 r0 s r) (hk : MidOK ws a m b p s0 r0) (h1 : s ≤ h) (h2 : h < r) (hc : ¬ cfR (ws.getD (p - h) default).r (ws.getD h default).r < 0) : MidInv ws p s0 r0 (h + 1) r := by
  obtain ⟨e1, e2, e3, e4, e5⟩ := hI
  obtain ⟨k1, k2, k3, k4, k5, k6, k7, k8⟩ := hk
  have hc' : ¬ kLt (kAt ws (p - h)) (kAt ws h) := fun x => hc (cf_lt.2 x)
  refine ⟨by omega, by omega, e3, fun c q1 q2 => ?_, e5⟩
  by_cases cc : c = h
  · rw [cc]; exact hc'
  · exact k_le (ord_at k6 (by omega) (by omega) (show c < h by omega) (by omega)) (k_le hc' (ord_at k7 k5 (by omega) (show p - h < p - c by omega) (by omega)))
theorem mid_no (hI : MidInv ws p s0 r0 s r) (hk : MidOK ws a m b p s0 r0) (h1 : s ≤ h) (h2 : h < r) (hc : cfR (ws.getD (p - h) default).r (ws.getD h default).r < 0) : MidInv ws p s0 r0 s h := by
  obtain ⟨e1, e2, e3, e4, e5⟩ := hI
  obtain ⟨k1, k2, k3, k4, k5, k6, k7, k8⟩ := hk
  have hc' : kLt (kAt ws (p - h)) (kAt ws h) := cf_lt.1 hc
  refine ⟨e1, h1, by omega, e4, fun c q1 q2 => ?_⟩
  by_cases cc : c = h
  · rw [cc]; exact hc'
  · exact k_le_lt (ord_at k7 k5 (by omega) (show p - c < p - h by omega) (by omega)) (k_lt_le hc' (ord_at k6 (by omega) (by omega) (show h < c by omega) (by omega)))
def SymL (ws l : List RecV) (a s mid e b : Nat) : Prop := l.length = ws.length ∧ (∀ q, q < a ∨ b ≤ q → l.getD q default = ws.getD q default) ∧ sameK keyV (seg ws a b) (seg l a b) ∧
  (∀ x, a ≤ x → x < mid → ∀ y, mid ≤ y → y < b → ¬ kLt (kAt l y) (kAt l x)) ∧ Ord kLt keyV (seg l a s) ∧ Ord kLt keyV (seg l s mid) ∧ Ord kLt keyV (seg l mid e) ∧ Ord kLt keyV (seg l e b)
theorem sym_turn (hI : MidInv ws p s0 r0 s s) (hk : MidOK ws a m b p s0 r0) (g1 : s0 = a ∨ p + 1 = b + s0) (g2 : r0 = m ∨ p + 1 = m + r0) (hmid : mid + m = p + 1) (he : e + s = p + 1) : SymL ws (rotL ws s m e) a s mid e b := by
  obtain ⟨e1, e2, e3, e4, e5⟩ := hI
  obtain ⟨k1, k2, k3, k4, k5, k6, k7, k8⟩ := hk
  have hs : s ≤ m := by omega
  have hme : m ≤ e := by omega
  have heb : e ≤ b := by omega
  have hmd : mid = s + (e - m) := by omega
  have hlen := rot_len (l := ws) hs hme (by omega)
  have hg : ∀ q, (rotL ws s m e).getD q default = ws.getD (if q < s then q else if q < mid then m + (q - s) else if q < e then s + (q - mid) else q) default := fun q => by
    rw [rot_get hs hme (by omega)]
    congr 1
    (repeat' split) <;> omega
  have kg : ∀ q, kAt (rotL ws s m e) q = kAt ws (if q < s then q else if q < mid then m + (q - s) else if q < e then s + (q - mid) else q) := fun q => congrArg keyV (hg q)
  have hx : ∀ x, a ≤ x → x < s → ∀ y, e ≤ y → y < b → ¬ kLt (kAt ws y) (kAt ws x) := fun x h1 h2 y h3 h4 => by
    by_cases c : s0 < s
    · have h5 := e4 (s - 1) (by omega) (by omega)
      rw [show p - (s - 1) = e by omega] at h5
      have h6 : ¬ kLt (kAt ws e) (kAt ws x) := by
        by_cases c2 : x = s - 1
        · rw [c2]; exact h5
        · exact k_le (ord_at k6 (by omega) h1 (show x < s - 1 by omega) (by omega)) h5
      by_cases c3 : y = e
      · rw [c3]; exact h6
      · exact k_le h6 (ord_at k7 k5 hme (show e < y by omega) h4)
    · rcases g1 with g1 | g1 <;> omega
  have hy : ∀ x, s ≤ x → x < m → ∀ y, m ≤ y → y < e → kLt (kAt ws y) (kAt ws x) := fun x h1 h2 y h3 h4 => by
    by_cases c : s < r0
    · have h5 := e5 s (Nat.le_refl _) c
      have h6 : kLt (kAt ws y) (kAt ws s) := by
        by_cases c2 : y = p - s
        · rw [c2]; exact h5
        · exact k_le_lt (ord_at k7 k5 h3 (show y < p - s by omega) (by omega)) h5
      by_cases c3 : x = s
      · rw [c3]; exact h6
      · exact k_lt_le h6 (ord_at k6 (by omega) (by omega) (show s < x by omega) h2)
    · rcases g2 with g2 | g2 <;> omega
  have s1 : seg (rotL ws s m e) a s = seg ws a s := seg_ext (by omega) (by omega) fun q q1 q2 => by rw [hg, if_pos (by omega)]
  have s2 : seg (rotL ws s m e) s mid = seg ws m e := getD_ext (d := default) (by rw [seg_len (by omega), seg_len (by omega)]; omega) fun q hq => by
    rw [seg_len (by omega)] at hq
    rw [seg_get (by omega), seg_get (by omega), hg, if_neg (by omega), if_pos (by omega)]; congr 1; omega
  have s3 : seg (rotL ws s m e) mid e = seg ws s m := getD_ext (d := default) (by rw [seg_len (by omega), seg_len (by omega)]; omega) fun q hq => by
    rw [seg_len (by omega)] at hq
    rw [seg_get (by omega), seg_get (by omega), hg, if_neg (by omega), if_neg (by omega), if_pos (by omega)]; congr 1; omega
  have s4 : seg (rotL ws s m e) e b = seg ws e b := seg_ext (by omega) (by omega) fun q q1 q2 => by rw [hg, if_neg (by omega), if_neg (by omega), if_neg (by omega)]
  refine ⟨hlen, fun q hq => ?_, ?_, fun x q1 q2 y q3 q4 => ?_, ?_, ?_, ?_, ?_⟩
  · rw [hg]
    by_cases c : q < s
    · rw [if_pos c]
    · rw [if_neg c, if_neg (by omega), if_neg (by omega)]
  · have t1 : seg (rotL ws s m e) a b = seg ws a s ++ ((seg ws m e ++ seg ws s m) ++ seg ws e b) := by
      rw [← seg_app (b := s) (by omega) (by omega), ← seg_app (l := rotL ws s m e) (a := s) (b := e) (c := b) (by omega) (by omega), ← seg_app (l := rotL ws s m e) (a := s) (b := mid) (c := e) (by omega) (by omega), s1, s2, s3, s4]
    have t2 : seg ws a b = seg ws a s ++ ((seg ws s m ++ seg ws m e) ++ seg ws e b) := by
      rw [seg_app (a := s) hs hme, seg_app (by omega) heb, seg_app (by omega) (by omega)]
    rw [t1, t2]
    refine sameK.refl.app ((sameK.swap fun x hx' y hy' ee => ?_).app .refl)
    obtain ⟨q, q1, q2, rfl⟩ := seg_mem (by omega) hx'
    obtain ⟨q', q3, q4, rfl⟩ := seg_mem (by omega) hy'
    have := hy q q1 q2 q' q3 q4
    unfold kAt at this
    rw [ee] at this
    exact kLin.irr _ this
  · rw [kg, kg, if_neg (show ¬ y < s by omega), if_neg (show ¬ y < mid by omega)]
    by_cases c1 : x < s
    · rw [if_pos c1]
      by_cases c2 : y < e
      · rw [if_pos c2]; exact ord_at k6 (by omega) q1 (by omega) (by omega)
      · rw [if_neg c2]; exact hx x q1 c1 y (by omega) q4
    · rw [if_neg c1, if_pos q2]
      by_cases c2 : y < e
      · rw [if_pos c2]
        exact fun hlt => kLin.irr _ (kLin.tr _ _ _ hlt (hy _ (by omega) (by omega) _ (by omega) (by omega)))
      · rw [if_neg c2]; exact ord_at k7 k5 (by omega) (by omega) q4
  · rw [s1]; exact ord_sub k6 (by omega) (Nat.le_refl _) hs
  · rw [s2]; exact ord_sub k7 k5 (Nat.le_refl _) heb
  · rw [s3]; exact ord_sub k6 (by omega) (by omega) (Nat.le_refl _)
  · rw [s4]; exact ord_sub k7 k5 hme (Nat.le_refl _)
theorem rot_none (h : s = m ∨ e = m) (hs : s ≤ m) (hm : m ≤ e) (he : e ≤ ws.length) : rotL ws s m e = ws :=
  getD_all (rot_len hs hm he) fun j => by
    rw [rot_get hs hm he]
    congr 1
    (repeat' split) <;> omega
theorem sym_done (hS : SymL ws l a s mid e b) (h1 : SortSeg l l2 a mid) (h2 : SortSeg l2 l3 mid b) (ha : a ≤ mid) (hm : mid ≤ b) (hb : b ≤ ws.length) : SortSeg ws l3 a b := by
  obtain ⟨e1, e2, e3, e4, _⟩ := hS
  obtain ⟨f1, f2, f3, f4⟩ := h1
  obtain ⟨g1, g2, g3, g4⟩ := h2
  have t1 : seg l3 a mid = seg l2 a mid := seg_ext (by omega) (by omega) fun q q1 q2 => g2 q (by omega)
  have t2 : seg l2 mid b = seg l mid b := seg_ext (by omega) (by omega) fun q q1 q2 => f2 q (by omega)
  rw [t2] at g4
  refine ⟨by omega, fun q hq => by rw [g2 q (by omega), f2 q (by omega), e2 q hq], ?_, ?_⟩
  · rw [← seg_app (b := mid) ha hm, t1]
    refine f3.app g3 fun x hx y hy => ?_
    obtain ⟨q, q1, q2, rfl⟩ := seg_mem (l := l) (by omega) (f4.mem hx)
    obtain ⟨q', q3, q4, rfl⟩ := seg_mem (l := l) (by omega) (g4.mem hy)
    exact e4 q q1 q2 q' q3 q4
  · refine e3.trans ?_
    rw [← seg_app (l := l) (b := mid) ha hm, ← seg_app (l := l3) (b := mid) ha hm, t1]
    exact f4.app g4
end
theorem sort_right {l l2 : List RecV} {a mid x y : Nat} (h : SortSeg l l2 a mid) (h1 : mid ≤ x) (h2 : y ≤ l.length) : seg l2 x y = seg l x y :=
  seg_ext (by have := h.1; omega) h2 fun q q1 _ => h.2.1 q (by omega)
section
variable {P : Program} {n : Nat} {L : Env} {w : World} {d : Option Tmp} {ty : TypeId} {p : String} {af : Array Edge} {g : Option (Nat × Bool)}
theorem py_shrU1 {xt yt : TypeId} {x y : Operand} {k1 k2 : IntKind} {m : Nat} (hx : evL L x = some (.int k1 (m : Nat))) (hy : evL L y = some (.int k2 1)) (hk : k1 = .u64) : Py P n L w ⟨d, .binOp .shr xt x y yt, ty, p, af, g⟩ (.int k1 ((m / 2 : Nat) : Int)) := by
  subst hk
  have h := py_shr (P := P) (n := n) (w := w) (d := d) (ty := ty) (p := p) (af := af) (g := g) (xt := xt) (yt := yt) hx hy (by omega)
  have e : (m : Int).fdiv (2 ^ min (1 : Int).toNat IntKind.u64.bits) = ((m / 2 : Nat) : Int) := by
    show (m : Int).fdiv (2 ^ 1) = _
    rw [Int.fdiv_eq_ediv_of_nonneg _ (by omega)]
    omega
  rw [e] at h
  exact h
end
end Go.Wk
namespace Go.Wk
open Go.Proofs Rp
set_option maxRecDepth 10000
theorem Tryz_slices_swapRangeCmpFunc_impl_Rec {w : World} {ws : List RecV} {A : Option Addr} {n C a b m : Nat} {fp : List Nat} {gf : FuncId} {gL : List Value} {xa xb xm : Int} (o : own true w [.slice A n C] ws fp) (nd : fp.Nodup) (ha : xa = (a : Nat)) (hb : xb = (b : Nat)) (hm : xm = (m : Nat)) (h1 : a + m ≤ b) (h2 : b + m ≤ ws.length) (h0 : 0 < ws.length) : Ret Tryz.prog 353 #[.slice A n C, .int .i64 xa, .int .i64 xb, .int .i64 xm, .func (.func gf) #[] gL.toArray] w fun v w' => (∃ ws', Mut w w' fp [.slice A n C] ws' ∧ ws' = swapR ws a b m) := by
 subst ha
 subst hb
 subst hm
 obtain rfl := own_n o
 obtain ⟨hb0, ho0, had0⟩ := own_addr o 0 (by omega)
 subst had0
 have wL := oL o
 refine ret_Q (vs := [.slice (some ⟨hb0, ho0, none⟩) ws.length C, .int .i64 (a : Nat), .int .i64 (b : Nat), .int .i64 (m : Nat), .func (.func gf) #[] gL.toArray]) Tryz.func353 rfl Tryz.ntmps353 rfl (fun Q hQ hN => ?_)
 have H0 := Sep.begin o nd
 refine W_sr (sA rfl rfl (s_nil (W_block (W_loop (γ := Nat × List Nat) (fun (i, f) => [(0, .slice (some ⟨hb0, ho0, none⟩) ws.length C), (1, .int .i64 a), (2, .int .i64 b), (3, .int .i64 m), (10, .int .i64 i)]) (fun (i, f) w' => Sep (· ∈ fp) w [mine [.slice (some ⟨hb0, ho0, none⟩) ws.length C] (swapR ws a b i) f] [] w' ∧ i ≤ m) (fun (i, f) => m - i) (0, fp) ⟨rfl, rfl, rfl, rfl, rfl, trivial⟩ ⟨H0, by omega⟩ (fun (i, f) w1 H1 => ?_)))))
 obtain ⟨H1, hi⟩ := H1
 refine W_seq (W_sr (sM rfl rfl (sM rfl rfl (sV rfl (py_lss rfl rfl) (s_nil (W_ifd rfl (fun c1 => ?_) (fun c1 => ?_)))))))
 ·refine W_skip (W_seq (W_block ?_))
  have sl := swapR_len (l := ws) (a := a) (b := b) (n := i)
  obtain ⟨eb1, eo1, ee1, ec1, eK1⟩ := H1.viewAt 0 rfl (a + i) (by omega)
  obtain ⟨eb2, eo2, ee2, ec2, eK2⟩ := H1.viewAt 0 rfl (b + i) (by omega)
  refine W_drw (S := fun _ => True) [(0, true), (1, true), (2, true), (3, true), (4, true), (5, true), (6, true), (7, true), (8, true), (9, true), (10, true), (11, true), (12, true), (14, true), (15, true), (16, true), (17, true), (18, true), (1006, false), (13, false), (19, false), (20, true), (21, false), (22, true), (23, false), (19, false), (13, false), (20, true), (21, false), (22, true), (23, false)] (by kernel_rfl) (by kernel_rfl) (by kernel_rfl) rfl (fun _ => trivial) (fun q1 => ?_)
  have H2 := H1.drawn q1
  refine dM rfl rfl rfl (dM rfl rfl rfl (dM rfl rfl rfl (dV rfl rfl (fun zw hx => py_add rfl rfl (in64 ⟨by omega, by omega⟩)) (dM rfl rfl rfl (dM rfl rfl rfl (dM rfl rfl rfl (dV rfl rfl (fun zw hx => py_add rfl rfl (in64 ⟨by omega, by omega⟩)) (dM rfl rfl rfl (dM rfl rfl rfl (dM rfl rfl rfl (dV rfl rfl (fun zw hx => py_add rfl rfl (in64 ⟨by omega, by omega⟩)) (dV rfl rfl (fun zw hx => py_elz tu30 ts68 rfl rfl ee2 (b + i) (by omega) (by omega)) (dM rfl rfl rfl (dM rfl rfl rfl (dM rfl rfl rfl (dV rfl rfl (fun zw hx => py_add rfl rfl (in64 ⟨by omega, by omega⟩)) (dV rfl rfl (fun zw hx => py_elz tu30 ts68 rfl rfl ee1 (a + i) (by omega) (by omega)) (d_fork (l1 := [(13, false), (19, false), (20, true), (21, false), (22, true), (23, false)]) (l2 := [(19, false), (13, false), (20, true), (21, false), (22, true), (23, false)]) rfl rfl rfl rfl ?_ ?_))))))))))))))))))
  ·refine d_end rfl (wn rfl) rfl rfl (py_loadS tu68 rfl ts68 rfl rfl ec2) (d_end rfl (wn rfl) rfl rfl (py_loadS tu68 rfl ts68 rfl rfl ec1) (dV rfl rfl (fun zw hx => py_elz tu30 ts68 rfl rfl rfl (a + i) (by omega) (by omega)) (d_elstV (u := ((swapR ws a b i).getD (b + i) default)) rfl (wn rfl) ts68 H2 0 rfl (a + i) (by omega) rfl rfl rfl eK2 (fun _ _ _ _ => trivial) (fun w2 fp1 H3 => ?_))))
   try dsimp only [lNA, lCA, lSZ, lSS] at H3
   refine dV rfl rfl (fun zw hx => py_elz tu30 ts68 rfl rfl rfl (b + i) (by omega) (by omega)) (d_elstV (u := ((swapR ws a b i).getD (a + i) default)) rfl (wn rfl) ts68 H3 0 rfl (b + i) (by rw [List.length_set]; omega) rfl rfl rfl eK1 (fun _ _ _ _ => trivial) (fun w3 fp2 H4 => ?_))
   try dsimp only [lNA, lCA, lSZ, lSS] at H4
   refine d_nil (W_reg (sM rfl rfl (sV rfl (py_add rfl rfl (in64 ⟨by omega, by omega⟩)) (sA rfl rfl (s_nil (⟨(i + 1, _), ⟨rfl, rfl, rfl, rfl, rfl, trivial⟩, ⟨H4, by omega⟩, by dsimp only; omega⟩))))))
  ·refine d_end rfl (wn rfl) rfl rfl (py_loadS tu68 rfl ts68 rfl rfl ec1) (d_end rfl (wn rfl) rfl rfl (py_loadS tu68 rfl ts68 rfl rfl ec2) (dV rfl rfl (fun zw hx => py_elz tu30 ts68 rfl rfl rfl (a + i) (by omega) (by omega)) (d_elstV (u := ((swapR ws a b i).getD (b + i) default)) rfl (wn rfl) ts68 H2 0 rfl (a + i) (by omega) rfl rfl rfl eK2 (fun _ _ _ _ => trivial) (fun w4 fp3 H5 => ?_))))
   try dsimp only [lNA, lCA, lSZ, lSS] at H5
   refine dV rfl rfl (fun zw hx => py_elz tu30 ts68 rfl rfl rfl (b + i) (by omega) (by omega)) (d_elstV (u := ((swapR ws a b i).getD (a + i) default)) rfl (wn rfl) ts68 H5 0 rfl (b + i) (by rw [List.length_set]; omega) rfl rfl rfl eK1 (fun _ _ _ _ => trivial) (fun w5 fp4 H6 => ?_))
   try dsimp only [lNA, lCA, lSZ, lSS] at H6
   refine d_nil (W_reg (sM rfl rfl (sV rfl (py_add rfl rfl (in64 ⟨by omega, by omega⟩)) (sA rfl rfl (s_nil (⟨(i + 1, _), ⟨rfl, rfl, rfl, rfl, rfl, trivial⟩, ⟨H6, by omega⟩, by dsimp only; omega⟩))))))
 ·refine W_exit (hN _ _ (fin0 Tryz.results353 ?_))
  obtain rfl : i = m := by omega
  exact ⟨_, H1.done, rfl⟩
theorem Tryz_slices_rotateCmpFunc_impl_Rec {w : World} {ws : List RecV} {A : Option Addr} {n C a m b : Nat} {fp : List Nat} {gf : FuncId} {gL : List Value} {xa xm xb : Int} (o : own true w [.slice A n C] ws fp) (nd : fp.Nodup) (ha : xa = (a : Nat)) (hm : xm = (m : Nat)) (hb : xb = (b : Nat)) (h1 : a < m) (h2 : m < b) (h3 : b ≤ ws.length) : Ret Tryz.prog 344 #[.slice A n C, .int .i64 xa, .int .i64 xm, .int .i64 xb, .func (.func gf) #[] gL.toArray] w fun v w' => (∃ ws', Mut w w' fp [.slice A n C] ws' ∧ ws' = rotL ws a m b) := by
 subst ha
 subst hm
 subst hb
 obtain rfl := own_n o
 obtain ⟨hb0, ho0, had0⟩ := own_addr o 0 (by omega)
 subst had0
 have wL := oL o
 refine ret_Q (vs := [.slice (some ⟨hb0, ho0, none⟩) ws.length C, .int .i64 (a : Nat), .int .i64 (m : Nat), .int .i64 (b : Nat), .func (.func gf) #[] gL.toArray]) Tryz.func344 rfl Tryz.ntmps344 rfl (fun Q hQ hN => ?_)
 have H0 := Sep.begin o nd
 refine W_sr (sM rfl rfl (sM rfl rfl (sV rfl (py_sub rfl rfl (in64 ⟨by omega, by omega⟩)) (sA rfl rfl (s_nil (W_sr (sM rfl rfl (sM rfl rfl (sV rfl (py_sub rfl rfl (in64 ⟨by omega, by omega⟩)) (sA rfl rfl (s_nil (W_seq (W_block (W_loop (γ := Nat × Nat × List RecV × List Nat) (fun (i, j, l, f) => [(0, .slice (some ⟨hb0, ho0, none⟩) ws.length C), (1, .int .i64 a), (2, .int .i64 m), (3, .int .i64 b), (4, .func (.func gf) #[] gL.toArray), (10, .int .i64 i), (11, .int .i64 j)]) (fun (i, j, l, f) w' => Sep (· ∈ fp) w [mine [.slice (some ⟨hb0, ho0, none⟩) ws.length C] l f] [] w' ∧ 1 ≤ i ∧ 1 ≤ j ∧ i ≤ m ∧ m + j ≤ ws.length ∧ l.length = ws.length ∧ rotL l (m - i) m (m + j) = rotL ws a m b) (fun (i, j, l, f) => i + j) (m - a, b - m, ws, fp) ⟨rfl, rfl, rfl, rfl, rfl, eqI (by omega), eqI (by omega), trivial⟩ ⟨H0, by omega, by omega, by omega, by omega, rfl, by rw [show m - (m - a) = a by omega, show m + (b - m) = b by omega]⟩ (fun (i, j, l, f) w1 H1 => ?_)))))))))))))))
 obtain ⟨H1, hi1, hj1, him, hmj, hll, hre⟩ := H1
 refine W_seq (W_sr (sM rfl rfl (sM rfl rfl (sV rfl (py_neq rfl rfl) (s_nil (W_ifd rfl (fun c1 => ?_) (fun c1 => ?_)))))))
 ·refine W_skip (W_block (W_sr (sM rfl rfl (sM rfl rfl (sV rfl (py_gtr rfl rfl) (s_nil (W_ifd rfl (fun c2 => ?_) (fun c2 => ?_))))))))
  ·refine W_sr (sM rfl rfl (sM rfl rfl (sM rfl rfl (sV rfl (py_sub rfl rfl (in64 ⟨by omega, by omega⟩)) (sM rfl rfl (sM rfl rfl (sM rfl rfl (s_call (wn rfl) rfl rfl (pc_call Tryz.func353 rfl Tryz_nm353 rfl) (Tryz_slices_swapRangeCmpFunc_impl_Rec (a := m - i) (b := m) (m := j) (H1.mine 0 rfl) (H1.nodup1 (i := 0) rfl) (by omega) (by omega) (by omega) (by omega) (by omega) (by omega)) (fun v1 w2 r1 => ?_)))))))))
   obtain ⟨x1, mm1, rfl⟩ := r1
   obtain ⟨fp1, H2⟩ := H1.mut 0 rfl mm1
   try dsimp only [lNA, lCA, lSZ, lSS] at H2
   refine s_nil (W_reg (sM rfl rfl (sM rfl rfl (sV rfl (py_sub rfl rfl (in64 ⟨by omega, by omega⟩)) (sA rfl rfl (s_nil (⟨(i - j, j, swapR l (m - i) m j, _), ⟨rfl, rfl, rfl, rfl, rfl, eqI (by omega), eqI (by omega), trivial⟩, ⟨H2, by omega, by omega, by omega, by omega, by rw [swapR_len]; exact hll, ?_⟩, by dsimp only; omega⟩)))))))
   rw [show m - (i - j) = m - i + j by omega, rot_left (by omega) (by omega) (by omega)]; exact hre
  ·refine W_sr (sM rfl rfl (sM rfl rfl (sM rfl rfl (sV rfl (py_sub rfl rfl (in64 ⟨by omega, by omega⟩)) (sM rfl rfl (sM rfl rfl (sV rfl (py_add rfl rfl (in64 ⟨by omega, by omega⟩)) (sM rfl rfl (sV rfl (py_sub rfl rfl (in64 ⟨by omega, by omega⟩)) (sM rfl rfl (sM rfl rfl (s_call (wn rfl) rfl rfl (pc_call Tryz.func353 rfl Tryz_nm353 rfl) (Tryz_slices_swapRangeCmpFunc_impl_Rec (a := m - i) (b := m + j - i) (m := i) (H1.mine 0 rfl) (H1.nodup1 (i := 0) rfl) (by omega) (by omega) (by omega) (by omega) (by omega) (by omega)) (fun v2 w3 r2 => ?_)))))))))))))
   obtain ⟨x2, mm2, rfl⟩ := r2
   obtain ⟨fp2, H3⟩ := H1.mut 0 rfl mm2
   try dsimp only [lNA, lCA, lSZ, lSS] at H3
   refine s_nil (W_reg (sM rfl rfl (sM rfl rfl (sV rfl (py_sub rfl rfl (in64 ⟨by omega, by omega⟩)) (sA rfl rfl (s_nil (⟨(i, j - i, swapR l (m - i) (m + j - i) i, _), ⟨rfl, rfl, rfl, rfl, rfl, eqI (by omega), eqI (by omega), trivial⟩, ⟨H3, by omega, by omega, by omega, by omega, by rw [swapR_len]; exact hll, ?_⟩, by dsimp only; omega⟩)))))))
   rw [show m + (j - i) = m + j - i by omega, rot_right (by omega) (by omega) (by omega)]; exact hre
 ·refine W_exit (W_reg (sM rfl rfl (sM rfl rfl (sM rfl rfl (sV rfl (py_sub rfl rfl (in64 ⟨by omega, by omega⟩)) (sM rfl rfl (sM rfl rfl (sM rfl rfl (s_call (wn rfl) rfl rfl (pc_call Tryz.func353 rfl Tryz_nm353 rfl) (Tryz_slices_swapRangeCmpFunc_impl_Rec (a := m - i) (b := m) (m := i) (H1.mine 0 rfl) (H1.nodup1 (i := 0) rfl) (by omega) (by omega) (by omega) (by omega) (by omega) (by omega)) (fun v3 w4 r3 => ?_))))))))))
  obtain ⟨x3, mm3, rfl⟩ := r3
  obtain ⟨fp3, H4⟩ := H1.mut 0 rfl mm3
  try dsimp only [lNA, lCA, lSZ, lSS] at H4
  refine s_nil (hN _ _ (fin0 Tryz.results344 ?_))
  obtain rfl : i = j := by omega
  exact ⟨_, H4.done, by rw [rot_end (by omega) (by omega)]; exact hre⟩
theorem Tryz_slices_insertionSortCmpFunc_impl_Rec {w : World} {ws : List RecV} {A : Option Addr} {n C a b : Nat} {fp : List Nat} {gf : FuncId} {gL : List Value} {gF : Func} {xa xb : Int} (o : own true w [.slice A n C] ws fp) (nd : fp.Nodup) (ha : xa = (a : Nat)) (hb : xb = (b : Nat)) (gH : Tryz.prog.funcs[gf]? = some gF) (gB : gF.body.isNone = false) (gN : NG gF) (gC : ∀ w1, Ext (· ∈ fp) w w1 → ∀ (x y : Rec) (A6 : Option Addr) (C6 : Nat) (A7 : Option Addr) (C7 : Nat) (A8 : Option Addr) (C8 : Nat) (B6 : Option Addr) (D6 : Nat) (B7 : Option Addr) (D7 : Nat) (B8 : Option Addr) (D8 : Nat), Ret Tryz.prog gf (([x.val A6 C6 A7 C7 A8 C8, y.val B6 D6 B7 D7 B8 D8] : List Value) ++ gL).toArray w1 fun v w' => Ext No w1 w' ∧ v = .int .i64 (cfR x y)) (h1 : a ≤ b) (h2 : b ≤ ws.length) (h0 : 0 < ws.length) (hL : ws.length ≤ 1000000) : Ret Tryz.prog 313 #[.slice A n C, .int .i64 xa, .int .i64 xb, .func (.func gf) #[] gL.toArray] w fun v w' => (∃ ws', Mut w w' fp [.slice A n C] ws' ∧ SortSeg ws ws' a b) := by
 subst ha
 subst hb
 obtain rfl := own_n o
 obtain ⟨hb0, ho0, had0⟩ := own_addr o 0 (by omega)
 subst had0
 have wL := oL o
 refine ret_Q (vs := [.slice (some ⟨hb0, ho0, none⟩) ws.length C, .int .i64 (a : Nat), .int .i64 (b : Nat), .func (.func gf) #[] gL.toArray]) Tryz.func313 rfl Tryz.ntmps313 rfl (fun Q hQ hN => ?_)
 have H0 := Sep.begin o nd
 refine W_sr (sM rfl rfl (sV rfl (py_add rfl rfl (in64 ⟨by omega, by omega⟩)) (sA rfl rfl (s_nil (W_block (W_loop (γ := Nat × List RecV × List Nat) (fun (i, l, f) => [(0, .slice (some ⟨hb0, ho0, none⟩) ws.length C), (1, .int .i64 a), (2, .int .i64 b), (3, .func (.func gf) #[] gL.toArray), (8, .int .i64 i)]) (fun (i, l, f) w' => Sep (· ∈ fp) w [mine [.slice (some ⟨hb0, ho0, none⟩) ws.length C] l f] [] w' ∧ a < i ∧ InsO ws l a b i) (fun (i, l, f) => b - i) (a + 1, ws, fp) ⟨rfl, rfl, rfl, rfl, eqI (by omega), trivial⟩ ⟨H0, by omega, insO_start h2⟩ (fun (i, l, f) w1 H1 => ?_)))))))
 obtain ⟨H1, hai, hO⟩ := H1
 refine W_seq (W_sr (sM rfl rfl (sM rfl rfl (sV rfl (py_lss rfl rfl) (s_nil (W_ifd rfl (fun c1 => ?_) (fun c1 => ?_)))))))
 ·refine W_skip (W_seq (W_block (W_seq ?_)))
  have hil : i < ws.length := by omega
  have hS := insO_get hO hai (by omega)
  refine W_reg (sM rfl rfl (sA rfl rfl (s_nil (W_block (W_loop (γ := Nat × List RecV × List Nat) (fun (j, l, f) => [(0, .slice (some ⟨hb0, ho0, none⟩) ws.length C), (1, .int .i64 a), (2, .int .i64 b), (3, .func (.func gf) #[] gL.toArray), (8, .int .i64 i), (9, .int .i64 j)]) (fun (j, l, f) w' => Sep (· ∈ fp) w [mine [.slice (some ⟨hb0, ho0, none⟩) ws.length C] l f] [] w' ∧ InsInv ws l a i j) (fun (j, l, f) => j) (i, l, f) ⟨rfl, rfl, rfl, rfl, rfl, rfl, trivial⟩ ⟨H1, ins_start hS (by omega)⟩ (fun (j, l, f) w2 H2 => ?_))))))
  obtain ⟨H2, hI⟩ := H2
  refine W_seq (W_seq ?_)
  have hjl := hI.2.1
  have hja := hI.1
  have hll := hI.2.2.1
  refine W_drw (S := Ext No _) [(0, true), (1, true), (2, true), (3, true), (4, true), (5, true), (6, true), (7, true), (8, true), (9, true), (10, true), (11, true), (12, true), (13, true), (14, false), (15, true), (16, false)] (by kernel_rfl) (by kernel_rfl) (by kernel_rfl) rfl (fun _ => Ext.refl.drawn _) (fun q1 => ?_)
  have H3 := H2.drawn q1
  refine dM rfl rfl rfl (dM rfl rfl rfl (dV rfl rfl (fun zw hx => py_gtr rfl rfl) (dM rfl rfl rfl (d_case (t := 21) rfl (fun hg1 => ?_) (fun hg1 => ?_)))))
  ·try simp only [decide_eq_true_eq] at hg1
   refine d_val rfl (wg rfl rfl rfl) rfl rfl (fun zw hx => py_move rfl) (d_val rfl (wg rfl rfl rfl) rfl rfl (fun zw hx => py_move rfl) (d_val rfl (wg rfl rfl rfl) rfl rfl (fun zw hx => py_move rfl) ?_))
   obtain ⟨eb1, eo1, ee1, ec1, eK1⟩ := H3.viewAt 0 rfl j (by omega)
   refine d_val rfl (wg rfl rfl rfl) rfl rfl (fun zw hx => py_elz tu30 ts68 rfl rfl ee1 j (by omega) (by omega)) (d_val rfl (wg rfl rfl rfl) rfl rfl (fun zw hx => py_loadS tu68 rfl ts68 rfl rfl (hx.at ec1)) (d_val rfl (wg rfl rfl rfl) rfl rfl (fun zw hx => py_move rfl) (d_val rfl (wg rfl rfl rfl) rfl rfl (fun zw hx => py_move rfl) (d_val rfl (wg rfl rfl rfl) rfl rfl (fun zw hx => py_sub rfl rfl (in64 ⟨by omega, by omega⟩)) ?_))))
   obtain ⟨eb2, eo2, ee2, ec2, eK2⟩ := H3.viewAt 0 rfl (j - 1) (by omega)
   refine d_val rfl (wg rfl rfl rfl) rfl rfl (fun zw hx => py_elz tu30 ts68 rfl rfl ee2 (j - 1) (by omega) (by omega)) (d_val rfl (wg rfl rfl rfl) rfl rfl (fun zw hx => py_loadS tu68 rfl ts68 rfl rfl (hx.at ec2)) (d_call rfl (wg rfl rfl rfl) rfl rfl (pc_callv (lb := gL) rfl gH gB gN rfl) (gC _ H3.ext (l.getD j default).r (l.getD (j - 1) default).r (l.getD j default).A6 (l.getD j default).C6 (l.getD j default).A7 (l.getD j default).C7 (l.getD j default).A8 (l.getD j default).C8 (l.getD (j - 1) default).A6 (l.getD (j - 1) default).C6 (l.getD (j - 1) default).A7 (l.getD (j - 1) default).C7 (l.getD (j - 1) default).A8 (l.getD (j - 1) default).C8) (fun hS _ _ r _ => hS.trans r.1.no) (fun v1 w3 r1 => ?_)))
   obtain ⟨e1, rfl⟩ := r1
   have H4 := H3.to e1
   refine d_val rfl (wg rfl rfl rfl) rfl rfl (fun zw hx => py_lss rfl rfl) (d_end rfl (wn rfl) rfl rfl (py_pickT rfl rfl) (d_nil (W_ifd rfl (fun c2 => ?_) (fun c2 => ?_))))
   ·refine W_skip (W_seq (W_block ?_))
    have hll := hI.2.2.1
    obtain ⟨eb3, eo3, ee3, ec3, eK3⟩ := H4.viewAt 0 rfl j (by omega)
    refine W_drw (S := fun _ => True) [(0, true), (1, true), (2, true), (3, true), (4, true), (5, true), (6, true), (7, true), (8, true), (10, true), (11, true), (12, true), (1006, false), (9, false), (13, false), (14, true), (15, false), (16, true), (17, false), (13, false), (9, false), (14, true), (15, false), (16, true), (17, false)] (by kernel_rfl) (by kernel_rfl) (by kernel_rfl) rfl (fun _ => trivial) (fun q2 => ?_)
    have H5 := H4.drawn q2
    refine dM rfl rfl rfl (dM rfl rfl rfl (dM rfl rfl rfl (dM rfl rfl rfl (dV rfl rfl (fun zw hx => py_sub rfl rfl (in64 ⟨by omega, by omega⟩)) (dM rfl rfl rfl (dM rfl rfl rfl (dV rfl rfl (fun zw hx => py_sub rfl rfl (in64 ⟨by omega, by omega⟩)) ?_)))))))
    obtain ⟨eb4, eo4, ee4, ec4, eK4⟩ := H5.viewAt 0 rfl (j - 1) (by omega)
    refine dV rfl rfl (fun zw hx => py_elz tu30 ts68 rfl rfl ee4 (j - 1) (by omega) (by omega)) (dM rfl rfl rfl (dM rfl rfl rfl (dV rfl rfl (fun zw hx => py_elz tu30 ts68 rfl rfl ee3 j (by omega) (by omega)) (d_fork (l1 := [(9, false), (13, false), (14, true), (15, false), (16, true), (17, false)]) (l2 := [(13, false), (9, false), (14, true), (15, false), (16, true), (17, false)]) rfl rfl rfl rfl ?_ ?_))))
    ·refine d_end rfl (wn rfl) rfl rfl (py_loadS tu68 rfl ts68 rfl rfl ec4) (d_end rfl (wn rfl) rfl rfl (py_loadS tu68 rfl ts68 rfl rfl ec3) (dV rfl rfl (fun zw hx => py_elz tu30 ts68 rfl rfl rfl (j) (by omega) (by omega)) (d_elstV (u := (l.getD (j - 1) default)) rfl (wn rfl) ts68 H5 0 rfl (j) (by omega) rfl rfl rfl eK4 (fun _ _ _ _ => trivial) (fun w4 fp1 H6 => ?_))))
     try dsimp only [lNA, lCA, lSZ, lSS] at H6
     refine dV rfl rfl (fun zw hx => py_elz tu30 ts68 rfl rfl rfl (j - 1) (by omega) (by omega)) (d_elstV (u := (l.getD j default)) rfl (wn rfl) ts68 H6 0 rfl (j - 1) (by rw [List.length_set]; omega) rfl rfl rfl eK3 (fun _ _ _ _ => trivial) (fun w5 fp2 H7 => ?_))
     try dsimp only [lNA, lCA, lSZ, lSS] at H7
     refine d_nil (W_reg (sM rfl rfl (sV rfl (py_sub rfl rfl (in64 ⟨by omega, by omega⟩)) (sA rfl rfl (s_nil (⟨(j - 1, _, _), ⟨rfl, rfl, rfl, rfl, rfl, eqI (by omega), trivial⟩, ⟨H7, ins_step hI (by omega) hil (by omega)⟩, by dsimp only; omega⟩))))))
    ·refine d_end rfl (wn rfl) rfl rfl (py_loadS tu68 rfl ts68 rfl rfl ec3) (d_end rfl (wn rfl) rfl rfl (py_loadS tu68 rfl ts68 rfl rfl ec4) (dV rfl rfl (fun zw hx => py_elz tu30 ts68 rfl rfl rfl (j) (by omega) (by omega)) (d_elstV (u := (l.getD (j - 1) default)) rfl (wn rfl) ts68 H5 0 rfl (j) (by omega) rfl rfl rfl eK4 (fun _ _ _ _ => trivial) (fun w6 fp3 H8 => ?_))))
     try dsimp only [lNA, lCA, lSZ, lSS] at H8
     refine dV rfl rfl (fun zw hx => py_elz tu30 ts68 rfl rfl rfl (j - 1) (by omega) (by omega)) (d_elstV (u := (l.getD j default)) rfl (wn rfl) ts68 H8 0 rfl (j - 1) (by rw [List.length_set]; omega) rfl rfl rfl eK3 (fun _ _ _ _ => trivial) (fun w7 fp4 H9 => ?_))
     try dsimp only [lNA, lCA, lSZ, lSS] at H9
     refine d_nil (W_reg (sM rfl rfl (sV rfl (py_sub rfl rfl (in64 ⟨by omega, by omega⟩)) (sA rfl rfl (s_nil (⟨(j - 1, _, _), ⟨rfl, rfl, rfl, rfl, rfl, eqI (by omega), trivial⟩, ⟨H9, ins_step hI (by omega) hil (by omega)⟩, by dsimp only; omega⟩))))))
   ·refine W_exit (W_reg (sM rfl rfl (sV rfl (py_add rfl rfl (in64 ⟨by omega, by omega⟩)) (sA rfl rfl (s_nil ?_)))))
    have hs := ins_end hI hil (.inr c2)
    refine ⟨(i + 1, l, _), ⟨rfl, rfl, rfl, rfl, rfl, trivial⟩, ⟨H4, by omega, insO_next hs hai (by omega)⟩, by dsimp only; omega⟩
  ·try simp only [decide_eq_false_iff_not] at hg1
   refine dKf rfl rfl rfl rfl (dKf rfl rfl rfl rfl (dKf rfl rfl rfl rfl (dKf rfl rfl rfl rfl (dKf rfl rfl rfl rfl (dKf rfl rfl rfl rfl (dKf rfl rfl rfl rfl (dKf rfl rfl rfl rfl (dKf rfl rfl rfl rfl (dKf rfl rfl rfl rfl (d_skipA rfl (wog (b := false) rfl rfl rfl) rfl rfl (dKf rfl rfl rfl rfl (d_end rfl (wn rfl) rfl rfl (py_pickF rfl rfl) (d_nil (W_iff rfl (W_exit (W_reg (sM rfl rfl (sV rfl (py_add rfl rfl (in64 ⟨by omega, by omega⟩)) (sA rfl rfl (s_nil ?_))))))))))))))))))))
   have hs := ins_end hI hil (.inl (by have := hI.1; omega))
   refine ⟨(i + 1, l, _), ⟨rfl, rfl, rfl, rfl, rfl, trivial⟩, ⟨H3, by omega, insO_next hs hai (by omega)⟩, by dsimp only; omega⟩
 ·refine W_exit (hN _ _ (fin0 Tryz.results313 ?_))
  exact ⟨_, H1.done, insO_end hO (by omega)⟩
def Tryz_SymOK (gf : FuncId) (gL : List Value) (N : Nat) : Prop := ∀ (w : World) (ws : List RecV) (A : Option Addr) (n C : Nat) (fp : List Nat) (a m b : Nat) (xa xm xb : Int), own true w [.slice A n C] ws fp → fp.Nodup → xa = (a : Nat) → xm = (m : Nat) → xb = (b : Nat) → (∀ w1, Ext (· ∈ fp) w w1 → ∀ (x y : Rec) (A6 : Option Addr) (C6 : Nat) (A7 : Option Addr) (C7 : Nat) (A8 : Option Addr) (C8 : Nat) (B6 : Option Addr) (D6 : Nat) (B7 : Option Addr) (D7 : Nat) (B8 : Option Addr) (D8 : Nat), Ret Tryz.prog gf (([x.val A6 C6 A7 C7 A8 C8, y.val B6 D6 B7 D7 B8 D8] : List Value) ++ gL).toArray w1 fun v w' => Ext No w1 w' ∧ v = .int .i64 (cfR x y)) → a < m → m < b → b ≤ ws.length → ws.length ≤ 1000000 → Ord kLt keyV (seg ws a m) → Ord kLt keyV (seg ws m b) → b - a ≤ N → Ret Tryz.prog 314 #[.slice A n C, .int .i64 xa, .int .i64 xm, .int .i64 xb, .func (.func gf) #[] gL.toArray] w fun v w' => ∃ ws', Mut w w' fp [.slice A n C] ws' ∧ SortSeg ws ws' a b
theorem Tryz_sym_step {w : World} {ws : List RecV} {A : Option Addr} {n C a m b : Nat} {fp : List Nat} {gf : FuncId} {gL : List Value} {gF : Func} {xa xm xb : Int} (o : own true w [.slice A n C] ws fp) (nd : fp.Nodup) (ha : xa = (a : Nat)) (hm : xm = (m : Nat)) (hb : xb = (b : Nat)) (gH : Tryz.prog.funcs[gf]? = some gF) (gB : gF.body.isNone = false) (gN : NG gF) (gC : ∀ w1, Ext (· ∈ fp) w w1 → ∀ (x y : Rec) (A6 : Option Addr) (C6 : Nat) (A7 : Option Addr) (C7 : Nat) (A8 : Option Addr) (C8 : Nat) (B6 : Option Addr) (D6 : Nat) (B7 : Option Addr) (D7 : Nat) (B8 : Option Addr) (D8 : Nat), Ret Tryz.prog gf (([x.val A6 C6 A7 C7 A8 C8, y.val B6 D6 B7 D7 B8 D8] : List Value) ++ gL).toArray w1 fun v w' => Ext No w1 w' ∧ v = .int .i64 (cfR x y)) (h1 : a < m) (h2 : m < b) (h3 : b ≤ ws.length) (hL : ws.length ≤ 1000000) (hA : Ord kLt keyV (seg ws a m)) (hB : Ord kLt keyV (seg ws m b)) {N : Nat} (hN : b - a ≤ N + 1) (IH : Tryz_SymOK gf gL N) : Ret Tryz.prog 314 #[.slice A n C, .int .i64 xa, .int .i64 xm, .int .i64 xb, .func (.func gf) #[] gL.toArray] w fun v w' => (∃ ws', Mut w w' fp [.slice A n C] ws' ∧ SortSeg ws ws' a b) := by
 subst ha
 subst hm
 subst hb
 obtain rfl := own_n o
 obtain ⟨hb0, ho0, had0⟩ := own_addr o 0 (by omega)
 subst had0
 have wL := oL o
 refine ret_Q (vs := [.slice (some ⟨hb0, ho0, none⟩) ws.length C, .int .i64 (a : Nat), .int .i64 (m : Nat), .int .i64 (b : Nat), .func (.func gf) #[] gL.toArray]) Tryz.func314 rfl Tryz.ntmps314 rfl (fun Q hQ hN => ?_)
 have H0 := Sep.begin o nd
 refine W_seq (W_sr (sM rfl rfl (sM rfl rfl (sV rfl (py_sub rfl rfl (in64 ⟨by omega, by omega⟩)) (sV rfl (py_eql rfl rfl) (s_nil (W_ifd rfl (fun c1 => ?_) (fun c1 => ?_))))))))
 ·refine W_sr (sM rfl rfl (sA rfl rfl (s_nil (W_sr (sM rfl rfl (sA rfl rfl (s_nil (W_seq (W_block (W_loop (γ := Nat × Nat × List Nat) (fun (i, j, f) => [(0, .slice (some ⟨hb0, ho0, none⟩) ws.length C), (1, .int .i64 a), (2, .int .i64 m), (3, .int .i64 b), (4, .func (.func gf) #[] gL.toArray), (10, .int .i64 i), (11, .int .i64 j)]) (fun (i, j, f) w' => Sep (· ∈ fp) w [mine [.slice (some ⟨hb0, ho0, none⟩) ws.length C] ws f] [] w' ∧ LoInv ws a m b i j) (fun (i, j, f) => j - i) (m, b, _) ⟨rfl, rfl, rfl, rfl, rfl, rfl, rfl, trivial⟩ ⟨H0, lo_start (by omega)⟩ (fun (i, j, f) w1 H1 => ?_)))))))))))
  obtain ⟨H1, hI⟩ := H1
  refine W_seq (W_sr (sM rfl rfl (sM rfl rfl (sV rfl (py_lss rfl rfl) (s_nil (W_ifd rfl (fun c2 => ?_) (fun c2 => ?_)))))))
  ·refine W_skip (W_block (W_seq ?_))
   have e1 := hI.1
   have e2 := hI.2.1
   have e3 := hI.2.2.1
   refine W_reg (sM rfl rfl (sM rfl rfl (sV rfl (py_add rfl rfl (in64 ⟨by omega, by omega⟩)) (sV rfl (py_conv tu3 tu237 rfl (inu64 (by omega))) (sV rfl (py_shrU1 (m := i + j) rfl rfl rfl) (sV rfl (py_conv tu237 tu3 rfl (in64 ⟨by omega, by omega⟩)) (sA rfl rfl (s_nil (W_seq ?_)))))))))
   have e1 := hI.1
   have e2 := hI.2.1
   have e3 := hI.2.2.1
   obtain ⟨eb1, eo1, ee1, ec1, eK1⟩ := H1.viewAt 0 rfl ((i + j) / 2) (by omega)
   obtain ⟨eb2, eo2, ee2, ec2, eK2⟩ := H1.viewAt 0 rfl a (by omega)
   refine W_drw (S := Ext No _) [(0, true), (1, true), (2, true), (3, true), (4, true), (5, true), (6, true), (7, true), (8, true), (9, false), (10, false)] (by kernel_rfl) (by kernel_rfl) (by kernel_rfl) rfl (fun _ => Ext.refl.drawn _) (fun q1 => ?_)
   have H2 := H1.drawn q1
   refine dM rfl rfl rfl (dM rfl rfl rfl (dM rfl rfl rfl (dV rfl rfl (fun zw hx => py_elz tu30 ts68 rfl rfl ee1 ((i + j) / 2) (by omega) (by omega)) (dV rfl rfl (fun zw hx => py_loadS tu68 rfl ts68 rfl rfl (hx.at ec1)) (dM rfl rfl rfl (dM rfl rfl rfl (dV rfl rfl (fun zw hx => py_elz tu30 ts68 rfl rfl ee2 a (by omega) (by omega)) (dV rfl rfl (fun zw hx => py_loadS tu68 rfl ts68 rfl rfl (hx.at ec2)) (d_call rfl (wn rfl) rfl rfl (pc_callv (lb := gL) rfl gH gB gN rfl) (gC _ H2.ext (ws.getD ((i + j) / 2) default).r (ws.getD a default).r (ws.getD ((i + j) / 2) default).A6 (ws.getD ((i + j) / 2) default).C6 (ws.getD ((i + j) / 2) default).A7 (ws.getD ((i + j) / 2) default).C7 (ws.getD ((i + j) / 2) default).A8 (ws.getD ((i + j) / 2) default).C8 (ws.getD a default).A6 (ws.getD a default).C6 (ws.getD a default).A7 (ws.getD a default).C7 (ws.getD a default).A8 (ws.getD a default).C8) (fun hS _ _ r _ => hS.trans r.1.no) (fun v1 w2 r1 => ?_))))))))))
   obtain ⟨e1, rfl⟩ := r1
   have H3 := H2.to e1
   refine d_end rfl (wn rfl) rfl rfl (py_lss rfl rfl) (d_nil (W_ifd rfl (fun c3 => ?_) (fun c3 => ?_)))
   ·refine W_reg (sM rfl rfl (sV rfl (py_add rfl rfl (in64 ⟨by omega, by omega⟩)) (sA rfl rfl (s_nil (⟨(((i + j) / 2) + 1, j, _), ⟨rfl, rfl, rfl, rfl, rfl, rfl, rfl, trivial⟩, ⟨H3, lo_yes hI h3 hB (by omega) (by omega) c3⟩, by dsimp only; omega⟩)))))
   ·refine W_reg (sM rfl rfl (sA rfl rfl (s_nil (⟨(i, ((i + j) / 2), _), ⟨rfl, rfl, rfl, rfl, rfl, rfl, rfl, trivial⟩, ⟨H3, lo_no hI h3 hB (by omega) (by omega) c3⟩, by dsimp only; omega⟩))))
  ·refine W_exit (W_seq (W_sr (sM rfl rfl (sA rfl rfl (s_nil (W_block ?_))))))
   have hLo := hI
   have e1 := hI.1
   have e2 := hI.2.1
   have e3 := hI.2.2.1
   refine W_loop (γ := Nat × List RecV × List Nat) (fun (k, l, f) => [(0, .slice (some ⟨hb0, ho0, none⟩) ws.length C), (1, .int .i64 a), (10, .int .i64 i), (13, .int .i64 k)]) (fun (k, l, f) w' => Sep (· ∈ fp) w [mine [.slice (some ⟨hb0, ho0, none⟩) ws.length C] l f] [] w' ∧ UpInv ws l a k ∧ k < i) (fun (k, l, f) => i - k) (a, ws, _) ⟨rfl, rfl, rfl, rfl, trivial⟩ ⟨H1, up_start (by omega), by omega⟩ (fun (k, l, f) w3 H4 => ?_)
   obtain ⟨H4, hU, hki⟩ := H4
   refine W_seq (W_seq ?_)
   skip
   refine W_reg (sM rfl rfl (sM rfl rfl (sV rfl (py_sub rfl rfl (in64 ⟨by omega, by omega⟩)) (sV rfl (py_lss rfl rfl) (s_nil (W_ifd rfl (fun c4 => ?_) (fun c4 => ?_)))))))
   ·refine W_skip (W_seq (W_block ?_))
    have hul := hU.2.2.1
    obtain ⟨eb3, eo3, ee3, ec3, eK3⟩ := H4.viewAt 0 rfl k (by omega)
    obtain ⟨eb4, eo4, ee4, ec4, eK4⟩ := H4.viewAt 0 rfl (k + 1) (by omega)
    refine W_drw (S := fun _ => True) [(0, true), (1, true), (2, true), (3, true), (4, true), (5, true), (6, true), (7, true), (8, true), (10, true), (11, true), (12, true), (1006, false), (9, false), (13, false), (14, true), (15, false), (16, true), (17, false), (13, false), (9, false), (14, true), (15, false), (16, true), (17, false)] (by kernel_rfl) (by kernel_rfl) (by kernel_rfl) rfl (fun _ => trivial) (fun q2 => ?_)
    have H5 := H4.drawn q2
    refine dM rfl rfl rfl (dM rfl rfl rfl (dM rfl rfl rfl (dM rfl rfl rfl (dV rfl rfl (fun zw hx => py_add rfl rfl (in64 ⟨by omega, by omega⟩)) (dM rfl rfl rfl (dM rfl rfl rfl (dV rfl rfl (fun zw hx => py_add rfl rfl (in64 ⟨by omega, by omega⟩)) (dV rfl rfl (fun zw hx => py_elz tu30 ts68 rfl rfl ee4 (k + 1) (by omega) (by omega)) (dM rfl rfl rfl (dM rfl rfl rfl (dV rfl rfl (fun zw hx => py_elz tu30 ts68 rfl rfl ee3 k (by omega) (by omega)) (d_fork (l1 := [(9, false), (13, false), (14, true), (15, false), (16, true), (17, false)]) (l2 := [(13, false), (9, false), (14, true), (15, false), (16, true), (17, false)]) rfl rfl rfl rfl ?_ ?_))))))))))))
    ·refine d_end rfl (wn rfl) rfl rfl (py_loadS tu68 rfl ts68 rfl rfl ec4) (d_end rfl (wn rfl) rfl rfl (py_loadS tu68 rfl ts68 rfl rfl ec3) (dV rfl rfl (fun zw hx => py_elz tu30 ts68 rfl rfl rfl (k) (by omega) (by omega)) (d_elstV (u := (l.getD (k + 1) default)) rfl (wn rfl) ts68 H5 0 rfl (k) (by omega) rfl rfl rfl eK4 (fun _ _ _ _ => trivial) (fun w4 fp1 H6 => ?_))))
     try dsimp only [lNA, lCA, lSZ, lSS] at H6
     refine dV rfl rfl (fun zw hx => py_elz tu30 ts68 rfl rfl rfl (k + 1) (by omega) (by omega)) (d_elstV (u := (l.getD k default)) rfl (wn rfl) ts68 H6 0 rfl (k + 1) (by rw [List.length_set]; omega) rfl rfl rfl eK3 (fun _ _ _ _ => trivial) (fun w5 fp2 H7 => ?_))
     try dsimp only [lNA, lCA, lSZ, lSS] at H7
     refine d_nil (W_reg (sM rfl rfl (sV rfl (py_add rfl rfl (in64 ⟨by omega, by omega⟩)) (sA rfl rfl (s_nil (⟨(k + 1, _, _), ⟨rfl, rfl, rfl, rfl, trivial⟩, ⟨H7, up_step hU (by omega), by omega⟩, by dsimp only; omega⟩))))))
    ·refine d_end rfl (wn rfl) rfl rfl (py_loadS tu68 rfl ts68 rfl rfl ec3) (d_end rfl (wn rfl) rfl rfl (py_loadS tu68 rfl ts68 rfl rfl ec4) (dV rfl rfl (fun zw hx => py_elz tu30 ts68 rfl rfl rfl (k) (by omega) (by omega)) (d_elstV (u := (l.getD (k + 1) default)) rfl (wn rfl) ts68 H5 0 rfl (k) (by omega) rfl rfl rfl eK4 (fun _ _ _ _ => trivial) (fun w6 fp3 H8 => ?_))))
     try dsimp only [lNA, lCA, lSZ, lSS] at H8
     refine dV rfl rfl (fun zw hx => py_elz tu30 ts68 rfl rfl rfl (k + 1) (by omega) (by omega)) (d_elstV (u := (l.getD k default)) rfl (wn rfl) ts68 H8 0 rfl (k + 1) (by rw [List.length_set]; omega) rfl rfl rfl eK3 (fun _ _ _ _ => trivial) (fun w7 fp4 H9 => ?_))
     try dsimp only [lNA, lCA, lSZ, lSS] at H9
     refine d_nil (W_reg (sM rfl rfl (sV rfl (py_add rfl rfl (in64 ⟨by omega, by omega⟩)) (sA rfl rfl (s_nil (⟨(k + 1, _, _), ⟨rfl, rfl, rfl, rfl, trivial⟩, ⟨H9, up_step hU (by omega), by omega⟩, by dsimp only; omega⟩))))))
   ·refine W_exit (W_ret (hQ _ _ (fin0 Tryz.results314 ?_)))
    obtain rfl : i = k + 1 := by omega
    obtain rfl : j = k + 1 := by omega
    obtain rfl : m = a + 1 := by omega
    exact ⟨_, H4.done, up_end hU hLo h3 hB⟩
 ·refine W_skip (W_seq (W_sr (sM rfl rfl (sM rfl rfl (sV rfl (py_sub rfl rfl (in64 ⟨by omega, by omega⟩)) (sV rfl (py_eql rfl rfl) (s_nil (W_ifd rfl (fun c5 => ?_) (fun c5 => ?_)))))))))
  ·refine W_sr (sM rfl rfl (sA rfl rfl (s_nil (W_sr (sM rfl rfl (sA rfl rfl (s_nil (W_seq (W_block (W_loop (γ := Nat × Nat × List Nat) (fun (i, j, f) => [(0, .slice (some ⟨hb0, ho0, none⟩) ws.length C), (1, .int .i64 a), (2, .int .i64 m), (3, .int .i64 b), (4, .func (.func gf) #[] gL.toArray), (14, .int .i64 i), (15, .int .i64 j)]) (fun (i, j, f) w' => Sep (· ∈ fp) w [mine [.slice (some ⟨hb0, ho0, none⟩) ws.length C] ws f] [] w' ∧ HiInv ws a m i j) (fun (i, j, f) => j - i) (a, m, _) ⟨rfl, rfl, rfl, rfl, rfl, rfl, rfl, trivial⟩ ⟨H0, hi_start (by omega)⟩ (fun (i, j, f) w8 H10 => ?_)))))))))))
   obtain ⟨H10, hI⟩ := H10
   refine W_seq (W_sr (sM rfl rfl (sM rfl rfl (sV rfl (py_lss rfl rfl) (s_nil (W_ifd rfl (fun c6 => ?_) (fun c6 => ?_)))))))
   ·refine W_skip (W_block (W_seq ?_))
    have e1 := hI.1
    have e2 := hI.2.1
    have e3 := hI.2.2.1
    refine W_reg (sM rfl rfl (sM rfl rfl (sV rfl (py_add rfl rfl (in64 ⟨by omega, by omega⟩)) (sV rfl (py_conv tu3 tu237 rfl (inu64 (by omega))) (sV rfl (py_shrU1 (m := i + j) rfl rfl rfl) (sV rfl (py_conv tu237 tu3 rfl (in64 ⟨by omega, by omega⟩)) (sA rfl rfl (s_nil (W_seq ?_)))))))))
    have e1 := hI.1
    have e2 := hI.2.1
    have e3 := hI.2.2.1
    obtain ⟨eb5, eo5, ee5, ec5, eK5⟩ := H10.viewAt 0 rfl m (by omega)
    obtain ⟨eb6, eo6, ee6, ec6, eK6⟩ := H10.viewAt 0 rfl ((i + j) / 2) (by omega)
    refine W_drw (S := Ext No _) [(0, true), (1, true), (2, true), (3, true), (4, true), (5, true), (6, true), (7, true), (8, true), (9, false), (10, true), (11, false)] (by kernel_rfl) (by kernel_rfl) (by kernel_rfl) rfl (fun _ => Ext.refl.drawn _) (fun q3 => ?_)
    have H11 := H10.drawn q3
    refine dM rfl rfl rfl (dM rfl rfl rfl (dM rfl rfl rfl (dV rfl rfl (fun zw hx => py_elz tu30 ts68 rfl rfl ee5 m (by omega) (by omega)) (dV rfl rfl (fun zw hx => py_loadS tu68 rfl ts68 rfl rfl (hx.at ec5)) (dM rfl rfl rfl (dM rfl rfl rfl (dV rfl rfl (fun zw hx => py_elz tu30 ts68 rfl rfl ee6 ((i + j) / 2) (by omega) (by omega)) (dV rfl rfl (fun zw hx => py_loadS tu68 rfl ts68 rfl rfl (hx.at ec6)) (d_call rfl (wn rfl) rfl rfl (pc_callv (lb := gL) rfl gH gB gN rfl) (gC _ H11.ext (ws.getD m default).r (ws.getD ((i + j) / 2) default).r (ws.getD m default).A6 (ws.getD m default).C6 (ws.getD m default).A7 (ws.getD m default).C7 (ws.getD m default).A8 (ws.getD m default).C8 (ws.getD ((i + j) / 2) default).A6 (ws.getD ((i + j) / 2) default).C6 (ws.getD ((i + j) / 2) default).A7 (ws.getD ((i + j) / 2) default).C7 (ws.getD ((i + j) / 2) default).A8 (ws.getD ((i + j) / 2) default).C8) (fun hS _ _ r _ => hS.trans r.1.no) (fun v2 w9 r2 => ?_))))))))))
    obtain ⟨e2, rfl⟩ := r2
    have H12 := H11.to e2
    refine dV rfl rfl (fun zw hx => py_lss rfl rfl) (d_end rfl (wn rfl) rfl rfl (py_notd rfl) (d_nil (W_ifd rfl (fun c7 => ?_) (fun c7 => ?_))))
    ·refine W_reg (sM rfl rfl (sV rfl (py_add rfl rfl (in64 ⟨by omega, by omega⟩)) (sA rfl rfl (s_nil (⟨(((i + j) / 2) + 1, j, _), ⟨rfl, rfl, rfl, rfl, rfl, rfl, rfl, trivial⟩, ⟨H12, hi_yes hI (by omega) hA (by omega) (by omega) c7⟩, by dsimp only; omega⟩)))))
    ·refine W_reg (sM rfl rfl (sA rfl rfl (s_nil (⟨(i, ((i + j) / 2), _), ⟨rfl, rfl, rfl, rfl, rfl, rfl, rfl, trivial⟩, ⟨H12, hi_no hI (by omega) hA (by omega) (by omega) (by omega)⟩, by dsimp only; omega⟩))))
   ·refine W_exit (W_seq (W_sr (sM rfl rfl (sA rfl rfl (s_nil (W_block ?_))))))
    have e1 := hI.1
    have e2 := hI.2.1
    have e3 := hI.2.2.1
    obtain rfl : i = j := by omega
    have hHi := hI
    refine W_loop (γ := Nat × List RecV × List Nat) (fun (k, l, f) => [(0, .slice (some ⟨hb0, ho0, none⟩) ws.length C), (2, .int .i64 m), (14, .int .i64 i), (17, .int .i64 k)]) (fun (k, l, f) w' => Sep (· ∈ fp) w [mine [.slice (some ⟨hb0, ho0, none⟩) ws.length C] l f] [] w' ∧ DnInv ws l a m i k) (fun (k, l, f) => k) (m, ws, _) ⟨rfl, rfl, rfl, rfl, trivial⟩ ⟨H10, dn_start hHi hA⟩ (fun (k, l, f) w10 H13 => ?_)
    obtain ⟨H13, hD⟩ := H13
    refine W_seq (W_sr (sM rfl rfl (sM rfl rfl (sV rfl (py_gtr rfl rfl) (s_nil (W_ifd rfl (fun c8 => ?_) (fun c8 => ?_)))))))
    ·refine W_skip (W_seq (W_block ?_))
     have hdl := hD.2.1.2.2.1
     have hdk := hD.2.1.2.1
     obtain ⟨eb7, eo7, ee7, ec7, eK7⟩ := H13.viewAt 0 rfl k (by omega)
     refine W_drw (S := fun _ => True) [(0, true), (1, true), (2, true), (3, true), (4, true), (5, true), (6, true), (7, true), (8, true), (10, true), (11, true), (12, true), (1006, false), (9, false), (13, false), (14, true), (15, false), (16, true), (17, false), (13, false), (9, false), (14, true), (15, false), (16, true), (17, false)] (by kernel_rfl) (by kernel_rfl) (by kernel_rfl) rfl (fun _ => trivial) (fun q4 => ?_)
     have H14 := H13.drawn q4
     refine dM rfl rfl rfl (dM rfl rfl rfl (dM rfl rfl rfl (dM rfl rfl rfl (dV rfl rfl (fun zw hx => py_sub rfl rfl (in64 ⟨by omega, by omega⟩)) (dM rfl rfl rfl (dM rfl rfl rfl (dV rfl rfl (fun zw hx => py_sub rfl rfl (in64 ⟨by omega, by omega⟩)) ?_)))))))
     obtain ⟨eb8, eo8, ee8, ec8, eK8⟩ := H14.viewAt 0 rfl (k - 1) (by omega)
     refine dV rfl rfl (fun zw hx => py_elz tu30 ts68 rfl rfl ee8 (k - 1) (by omega) (by omega)) (dM rfl rfl rfl (dM rfl rfl rfl (dV rfl rfl (fun zw hx => py_elz tu30 ts68 rfl rfl ee7 k (by omega) (by omega)) (d_fork (l1 := [(9, false), (13, false), (14, true), (15, false), (16, true), (17, false)]) (l2 := [(13, false), (9, false), (14, true), (15, false), (16, true), (17, false)]) rfl rfl rfl rfl ?_ ?_))))
     ·refine d_end rfl (wn rfl) rfl rfl (py_loadS tu68 rfl ts68 rfl rfl ec8) (d_end rfl (wn rfl) rfl rfl (py_loadS tu68 rfl ts68 rfl rfl ec7) (dV rfl rfl (fun zw hx => py_elz tu30 ts68 rfl rfl rfl (k) (by omega) (by omega)) (d_elstV (u := (l.getD (k - 1) default)) rfl (wn rfl) ts68 H14 0 rfl (k) (by omega) rfl rfl rfl eK8 (fun _ _ _ _ => trivial) (fun w11 fp5 H15 => ?_))))
      try dsimp only [lNA, lCA, lSZ, lSS] at H15
      refine dV rfl rfl (fun zw hx => py_elz tu30 ts68 rfl rfl rfl (k - 1) (by omega) (by omega)) (d_elstV (u := (l.getD k default)) rfl (wn rfl) ts68 H15 0 rfl (k - 1) (by rw [List.length_set]; omega) rfl rfl rfl eK7 (fun _ _ _ _ => trivial) (fun w12 fp6 H16 => ?_))
      try dsimp only [lNA, lCA, lSZ, lSS] at H16
      refine d_nil (W_reg (sM rfl rfl (sV rfl (py_sub rfl rfl (in64 ⟨by omega, by omega⟩)) (sA rfl rfl (s_nil (⟨(k - 1, _, _), ⟨rfl, rfl, rfl, eqI (by omega), trivial⟩, ⟨H16, dn_step hD hHi (by omega) (by omega)⟩, by dsimp only; omega⟩))))))
     ·refine d_end rfl (wn rfl) rfl rfl (py_loadS tu68 rfl ts68 rfl rfl ec7) (d_end rfl (wn rfl) rfl rfl (py_loadS tu68 rfl ts68 rfl rfl ec8) (dV rfl rfl (fun zw hx => py_elz tu30 ts68 rfl rfl rfl (k) (by omega) (by omega)) (d_elstV (u := (l.getD (k - 1) default)) rfl (wn rfl) ts68 H14 0 rfl (k) (by omega) rfl rfl rfl eK8 (fun _ _ _ _ => trivial) (fun w13 fp7 H17 => ?_))))
      try dsimp only [lNA, lCA, lSZ, lSS] at H17
      refine dV rfl rfl (fun zw hx => py_elz tu30 ts68 rfl rfl rfl (k - 1) (by omega) (by omega)) (d_elstV (u := (l.getD k default)) rfl (wn rfl) ts68 H17 0 rfl (k - 1) (by rw [List.length_set]; omega) rfl rfl rfl eK7 (fun _ _ _ _ => trivial) (fun w14 fp8 H18 => ?_))
      try dsimp only [lNA, lCA, lSZ, lSS] at H18
      refine d_nil (W_reg (sM rfl rfl (sV rfl (py_sub rfl rfl (in64 ⟨by omega, by omega⟩)) (sA rfl rfl (s_nil (⟨(k - 1, _, _), ⟨rfl, rfl, rfl, eqI (by omega), trivial⟩, ⟨H18, dn_step hD hHi (by omega) (by omega)⟩, by dsimp only; omega⟩))))))
    ·refine W_exit (W_ret (hQ _ _ (fin0 Tryz.results314 ?_)))
     have e9 := hD.1
     obtain rfl : k = i := by omega
     obtain rfl : b = m + 1 := by omega
     exact ⟨_, H13.done, dn_end hD hHi (by omega)⟩
  ·refine W_skip (W_sr (sM rfl rfl (sM rfl rfl (sV rfl (py_add rfl rfl (in64 ⟨by omega, by omega⟩)) (sV rfl (py_conv tu3 tu237 rfl (inu64 (by omega))) (sV rfl (py_shrU1 (m := a + b) rfl rfl rfl) (sV rfl (py_conv tu237 tu3 rfl (in64 ⟨by omega, by omega⟩)) (sA rfl rfl (s_nil (W_sr (sM rfl rfl (sM rfl rfl (sV rfl (py_add rfl rfl (in64 ⟨by omega, by omega⟩)) (sA rfl rfl (s_nil (W_sr (sA rfl rfl (sA rfl rfl (s_nil (W_cutS (γ := Nat × Nat) H0 [(1, _), (2, _), (3, _), (4, _), (18, _), (19, _)] ⟨rfl, rfl, rfl, rfl, rfl, rfl, trivial⟩ (fun (s, r) => [(0, .slice (some ⟨hb0, ho0, none⟩) ws.length C), (20, .int .i64 s), (21, .int .i64 r)]) (fun (s, r) => MidOK ws a m b (((a + b) / 2) + m - 1) s r ∧ (s = a ∨ (((a + b) / 2) + m - 1) + 1 = b + s) ∧ (r = m ∨ (((a + b) / 2) + m - 1) + 1 = m + r)) ?_ (fun (s, r) w15 H19 ⟨hMK, hG1, hG2⟩ => ?_)))))))))))))))))))))
   ·refine W_sr (sM rfl rfl (sM rfl rfl (sV rfl (py_gtr rfl rfl) (s_nil (W_ifd rfl (fun c9 => ?_) (fun c9 => ?_))))))
    ·refine W_sr (sM rfl rfl (sM rfl rfl (sV rfl (py_sub rfl rfl (in64 ⟨by omega, by omega⟩)) (sA rfl rfl (s_nil (W_reg (sM rfl rfl (sA rfl rfl (s_nil ?_)))))))))
     exact ⟨(((a + b) / 2) + m - b, ((a + b) / 2)), ⟨rfl, eqI (by omega), rfl, rfl, rfl, rfl, rfl, rfl, rfl, trivial⟩, H0, ⟨by omega, by omega, by omega, by omega, h3, hA, hB, by omega⟩, by omega, by omega⟩
    ·refine W_sr (sM rfl rfl (sA rfl rfl (s_nil (W_reg (sM rfl rfl (sA rfl rfl (s_nil ?_)))))))
     exact ⟨(a, m), ⟨rfl, rfl, rfl, rfl, rfl, rfl, rfl, rfl, rfl, trivial⟩, H0, ⟨by omega, by omega, by omega, by omega, h3, hA, hB, by omega⟩, by omega, by omega⟩
   ·dsimp only [lCA, lNA]
    refine W_sr (sM rfl rfl (sV rfl (py_sub rfl rfl (in64 ⟨by omega, by omega⟩)) (sA rfl rfl (s_nil (W_seq (W_block (W_loop (γ := Nat × Nat × List Nat) (fun (s2, r2, f) => [(0, .slice (some ⟨hb0, ho0, none⟩) ws.length C), (1, .int .i64 a), (2, .int .i64 m), (3, .int .i64 b), (4, .func (.func gf) #[] gL.toArray), (18, .int .i64 (((a + b) / 2) : Nat)), (19, .int .i64 (((a + b) / 2) + m : Nat)), (20, .int .i64 s2), (21, .int .i64 r2), (22, .int .i64 ((((a + b) / 2) + m - 1) : Nat))]) (fun (s2, r2, f) w' => Sep (· ∈ fp) w [mine [.slice (some ⟨hb0, ho0, none⟩) ws.length C] ws f] [] w' ∧ MidInv ws (((a + b) / 2) + m - 1) s r s2 r2) (fun (s2, r2, f) => r2 - s2) (s, r, _) ⟨rfl, rfl, rfl, rfl, rfl, rfl, rfl, rfl, rfl, eqI (by omega), trivial⟩ ⟨H19, mid_start (by rcases hMK with ⟨_, _, _, _, _⟩; omega)⟩ (fun (s2, r2, f) w16 H20 => ?_))))))))
    obtain ⟨H20, hI⟩ := H20
    refine W_seq (W_sr (sM rfl rfl (sM rfl rfl (sV rfl (py_lss rfl rfl) (s_nil (W_ifd rfl (fun c10 => ?_) (fun c10 => ?_)))))))
    ·refine W_skip (W_block (W_seq ?_))
     have e1 := hI.1
     have e2 := hI.2.1
     have e3 := hI.2.2.1
     obtain ⟨m1, m2, m3, m4, _, _, _, _⟩ := id hMK
     refine W_reg (sM rfl rfl (sM rfl rfl (sV rfl (py_add rfl rfl (in64 ⟨by omega, by omega⟩)) (sV rfl (py_conv tu3 tu237 rfl (inu64 (by omega))) (sV rfl (py_shrU1 (m := s2 + r2) rfl rfl rfl) (sV rfl (py_conv tu237 tu3 rfl (in64 ⟨by omega, by omega⟩)) (sA rfl rfl (s_nil (W_seq ?_)))))))))
     have e1 := hI.1
     have e2 := hI.2.1
     have e3 := hI.2.2.1
     obtain ⟨m1, m2, m3, m4, _, _, _, _⟩ := id hMK
     obtain ⟨eb9, eo9, ee9, ec9, eK9⟩ := H20.viewAt 0 rfl ((((a + b) / 2) + m - 1) - ((s2 + r2) / 2)) (by omega)
     obtain ⟨eb10, eo10, ee10, ec10, eK10⟩ := H20.viewAt 0 rfl ((s2 + r2) / 2) (by omega)
     refine W_drw (S := Ext No _) [(0, true), (1, true), (2, true), (3, true), (4, true), (5, true), (6, true), (7, true), (8, true), (9, true), (10, true), (11, false), (12, true), (13, false)] (by kernel_rfl) (by kernel_rfl) (by kernel_rfl) rfl (fun _ => Ext.refl.drawn _) (fun q5 => ?_)
     have H21 := H20.drawn q5
     refine dM rfl rfl rfl (dM rfl rfl rfl (dM rfl rfl rfl (dM rfl rfl rfl (dV rfl rfl (fun zw hx => py_sub rfl rfl (in64 ⟨by omega, by omega⟩)) (dV rfl rfl (fun zw hx => py_elz tu30 ts68 rfl rfl ee9 ((((a + b) / 2) + m - 1) - ((s2 + r2) / 2)) (by omega) (by omega)) (dV rfl rfl (fun zw hx => py_loadS tu68 rfl ts68 rfl rfl (hx.at ec9)) (dM rfl rfl rfl (dM rfl rfl rfl (dV rfl rfl (fun zw hx => py_elz tu30 ts68 rfl rfl ee10 ((s2 + r2) / 2) (by omega) (by omega)) (dV rfl rfl (fun zw hx => py_loadS tu68 rfl ts68 rfl rfl (hx.at ec10)) (d_call rfl (wn rfl) rfl rfl (pc_callv (lb := gL) rfl gH gB gN rfl) (gC _ H21.ext (ws.getD ((((a + b) / 2) + m - 1) - ((s2 + r2) / 2)) default).r (ws.getD ((s2 + r2) / 2) default).r (ws.getD ((((a + b) / 2) + m - 1) - ((s2 + r2) / 2)) default).A6 (ws.getD ((((a + b) / 2) + m - 1) - ((s2 + r2) / 2)) default).C6 (ws.getD ((((a + b) / 2) + m - 1) - ((s2 + r2) / 2)) default).A7 (ws.getD ((((a + b) / 2) + m - 1) - ((s2 + r2) / 2)) default).C7 (ws.getD ((((a + b) / 2) + m - 1) - ((s2 + r2) / 2)) default).A8 (ws.getD ((((a + b) / 2) + m - 1) - ((s2 + r2) / 2)) default).C8 (ws.getD ((s2 + r2) / 2) default).A6 (ws.getD ((s2 + r2) / 2) default).C6 (ws.getD ((s2 + r2) / 2) default).A7 (ws.getD ((s2 + r2) / 2) default).C7 (ws.getD ((s2 + r2) / 2) default).A8 (ws.getD ((s2 + r2) / 2) default).C8) (fun hS _ _ r _ => hS.trans r.1.no) (fun v3 w17 r3 => ?_))))))))))))
     obtain ⟨e3, rfl⟩ := r3
     have H22 := H21.to e3
     refine dV rfl rfl (fun zw hx => py_lss rfl rfl) (d_end rfl (wn rfl) rfl rfl (py_notd rfl) (d_nil (W_ifd rfl (fun c11 => ?_) (fun c11 => ?_))))
     ·refine W_reg (sM rfl rfl (sV rfl (py_add rfl rfl (in64 ⟨by omega, by omega⟩)) (sA rfl rfl (s_nil (⟨(((s2 + r2) / 2) + 1, r2, _), ⟨rfl, rfl, rfl, rfl, rfl, rfl, rfl, rfl, rfl, rfl, trivial⟩, ⟨H22, mid_yes hI hMK (by omega) (by omega) c11⟩, by dsimp only; omega⟩)))))
     ·refine W_reg (sM rfl rfl (sA rfl rfl (s_nil (⟨(s2, ((s2 + r2) / 2), _), ⟨rfl, rfl, rfl, rfl, rfl, rfl, rfl, rfl, rfl, rfl, trivial⟩, ⟨H22, mid_no hI hMK (by omega) (by omega) (by omega)⟩, by dsimp only; omega⟩))))
    ·refine W_exit (W_seq ?_)
     have e1 := hI.1
     have e2 := hI.2.1
     have e3 := hI.2.2.1
     obtain ⟨m1, m2, m3, m4, _, _, _, _⟩ := id hMK
     obtain rfl : s2 = r2 := by omega
     refine W_reg (sM rfl rfl (sM rfl rfl (sV rfl (py_sub rfl rfl (in64 ⟨by omega, by omega⟩)) (sA rfl rfl (s_nil (W_cut (γ := List Nat) (fun f => [(0, .slice (some ⟨hb0, ho0, none⟩) ws.length C), (1, .int .i64 a), (2, .int .i64 m), (3, .int .i64 b), (4, .func (.func gf) #[] gL.toArray), (18, .int .i64 (((a + b) / 2) : Nat)), (20, .int .i64 s2), (24, .int .i64 ((((a + b) / 2) + m - s2) : Nat))]) (fun f w' => Sep (· ∈ fp) w [mine [.slice (some ⟨hb0, ho0, none⟩) ws.length C] (rotL ws s2 m (((a + b) / 2) + m - s2)) f] [] w') ?_ (fun f w18 H23 => ?_)))))))
     ·refine W_sr (sM rfl rfl (sM rfl rfl (sV rfl (py_lss rfl rfl) (sM rfl rfl (s_case (t := 181) rfl (fun hg1 => ?_) (fun hg1 => ?_))))))
      ·try simp only [decide_eq_true_eq, decide_eq_false_iff_not] at hg1
       refine s_val (wg rfl rfl rfl) rfl rfl (py_move rfl) (s_val (wg rfl rfl rfl) rfl rfl (py_move rfl) (s_val (wg rfl rfl rfl) rfl rfl (py_lss rfl rfl) (sV rfl (py_pickT rfl rfl) (s_nil (W_ifd rfl (fun c12 => ?_) (fun c12 => ?_))))))
       ·refine W_reg (sM rfl rfl (sM rfl rfl (sM rfl rfl (sM rfl rfl (sM rfl rfl (s_call (wn rfl) rfl rfl (pc_call Tryz.func344 rfl Tryz_nm344 rfl) (Tryz_slices_rotateCmpFunc_impl_Rec (a := s2) (m := m) (b := (((a + b) / 2) + m - s2)) (H20.mine 0 rfl) (H20.nodup1 (i := 0) rfl) (by omega) (by omega) (by omega) (by omega) (by omega) (by omega)) (fun v4 w19 r4 => ?_)))))))
        obtain ⟨y1, mm1, rfl⟩ := r4
        obtain ⟨fp9, H24⟩ := H20.mut 0 rfl mm1
        try dsimp only [lNA, lCA, lSZ, lSS] at H24
        refine s_nil ?_
        exact ⟨_, ⟨rfl, rfl, rfl, rfl, rfl, rfl, rfl, eqI (by omega), trivial⟩, H24⟩
       ·refine W_skip ?_
        exact ⟨f, ⟨rfl, rfl, rfl, rfl, rfl, rfl, rfl, eqI (by omega), trivial⟩, by rw [rot_none (by omega) (by omega) (by omega) (by omega)]; exact H20⟩
      ·try simp only [decide_eq_true_eq, decide_eq_false_iff_not] at hg1
       refine sKf rfl rfl rfl (sKf rfl rfl rfl (sKf rfl rfl rfl (sV rfl (py_pickF rfl rfl) (s_nil (W_iff rfl (W_skip ?_))))))
       exact ⟨f, ⟨rfl, rfl, rfl, rfl, rfl, rfl, rfl, eqI (by omega), trivial⟩, by rw [rot_none (by omega) (by omega) (by omega) (by omega)]; exact H20⟩
     ·skip
      refine W_cut (γ := List RecV × List Nat) (fun (l2, f) => [(0, .slice (some ⟨hb0, ho0, none⟩) ws.length C), (1, .int .i64 a), (2, .int .i64 m), (3, .int .i64 b), (4, .func (.func gf) #[] gL.toArray), (18, .int .i64 (((a + b) / 2) : Nat)), (20, .int .i64 s2), (24, .int .i64 ((((a + b) / 2) + m - s2) : Nat))]) (fun (l2, f) w' => Sep (· ∈ fp) w [mine [.slice (some ⟨hb0, ho0, none⟩) ws.length C] l2 f] [] w' ∧ SortSeg (rotL ws s2 m (((a + b) / 2) + m - s2)) l2 a ((a + b) / 2)) ?_ (fun (l2, f) w20 H25 => ?_)
      ·refine W_seq ?_
       have hln := rot_len (l := ws) (x := s2) (y := m) (z := (((a + b) / 2) + m - s2)) (by omega) (by omega) (by omega)
       have hSy : SymL ws (rotL ws s2 m (((a + b) / 2) + m - s2)) a s2 ((a + b) / 2) (((a + b) / 2) + m - s2) b := sym_turn hI hMK hG1 hG2 (by omega) (by omega)
       obtain ⟨_, _, _, _, o1, o2, o3, o4⟩ := id hSy
       refine W_reg (sM rfl rfl (sM rfl rfl (sV rfl (py_lss rfl rfl) (sM rfl rfl (s_case (t := 195) rfl (fun hg2 => ?_) (fun hg2 => ?_))))))
       ·try simp only [decide_eq_true_eq, decide_eq_false_iff_not] at hg2
        refine s_val (wg rfl rfl rfl) rfl rfl (py_move rfl) (s_val (wg rfl rfl rfl) rfl rfl (py_move rfl) (s_val (wg rfl rfl rfl) rfl rfl (py_lss rfl rfl) (sV rfl (py_pickT rfl rfl) (s_nil (W_ifd rfl (fun c13 => ?_) (fun c13 => ?_))))))
        ·refine W_reg (sM rfl rfl (sM rfl rfl (sM rfl rfl (sM rfl rfl (sM rfl rfl (s_call (wn rfl) rfl rfl (pc_call Tryz.func314 rfl Tryz_nm314 rfl) (IH _ _ _ _ _ _ a s2 ((a + b) / 2) _ _ _ (H23.mine 0 rfl) (H23.nodup1 (i := 0) rfl) (by omega) (by omega) (by omega) (fun w1 e1 => gC w1 (H23.ext.step e1 fun b hb => H23.new b (H23.inB 0 rfl hb))) (by omega) (by omega) (by omega) (by omega) o1 o2 (by omega)) (fun v5 w21 r5 => ?_)))))))
         obtain ⟨y2, mm2, hs2⟩ := r5
         obtain ⟨fp10, H26⟩ := H23.mut 0 rfl mm2
         try dsimp only [lNA, lCA, lSZ, lSS] at H26
         refine s_nil ?_
         exact ⟨(y2, _), ⟨rfl, rfl, rfl, rfl, rfl, rfl, rfl, rfl, trivial⟩, H26, hs2⟩
        ·refine W_skip ?_
         obtain hq : s2 = ((a + b) / 2) := by omega
         have ho : Ord kLt keyV (seg (rotL ws s2 m (((a + b) / 2) + m - s2)) a ((a + b) / 2)) := Eq.mp (congrArg (fun z => Ord kLt keyV (seg (rotL ws s2 m (((a + b) / 2) + m - s2)) a z)) hq) o1
         exact ⟨((rotL ws s2 m (((a + b) / 2) + m - s2)), _), ⟨rfl, rfl, rfl, rfl, rfl, rfl, rfl, rfl, trivial⟩, H23, sort_triv ho⟩
       ·try simp only [decide_eq_true_eq, decide_eq_false_iff_not] at hg2
        refine sKf rfl rfl rfl (sKf rfl rfl rfl (sKf rfl rfl rfl (sV rfl (py_pickF rfl rfl) (s_nil (W_iff rfl (W_skip ?_))))))
        obtain hq : s2 = a := by omega
        have ho : Ord kLt keyV (seg (rotL ws s2 m (((a + b) / 2) + m - s2)) a ((a + b) / 2)) := Eq.mp (congrArg (fun z => Ord kLt keyV (seg (rotL ws s2 m (((a + b) / 2) + m - s2)) z ((a + b) / 2))) hq) o2
        exact ⟨((rotL ws s2 m (((a + b) / 2) + m - s2)), _), ⟨rfl, rfl, rfl, rfl, rfl, rfl, rfl, rfl, trivial⟩, H23, sort_triv ho⟩
      ·obtain ⟨H25, hs1⟩ := H25
       refine W_seq ?_
       have hln := rot_len (l := ws) (x := s2) (y := m) (z := (((a + b) / 2) + m - s2)) (by omega) (by omega) (by omega)
       have hSy : SymL ws (rotL ws s2 m (((a + b) / 2) + m - s2)) a s2 ((a + b) / 2) (((a + b) / 2) + m - s2) b := sym_turn hI hMK hG1 hG2 (by omega) (by omega)
       obtain ⟨_, _, _, _, o1, o2, o3, o4⟩ := id hSy
       have hl2 := hs1.1
       have p2 : Ord kLt keyV (seg l2 (((a + b) / 2) + m - s2) b) := by rw [sort_right hs1 (by omega) (by omega)]; exact o4
       have p1 : Ord kLt keyV (seg l2 ((a + b) / 2) (((a + b) / 2) + m - s2)) := by rw [sort_right hs1 (by omega) (by omega)]; exact o3
       refine W_reg (sM rfl rfl (sM rfl rfl (sV rfl (py_lss rfl rfl) (sM rfl rfl (s_case (t := 209) rfl (fun hg3 => ?_) (fun hg3 => ?_))))))
       ·try simp only [decide_eq_true_eq, decide_eq_false_iff_not] at hg3
        refine s_val (wg rfl rfl rfl) rfl rfl (py_move rfl) (s_val (wg rfl rfl rfl) rfl rfl (py_move rfl) (s_val (wg rfl rfl rfl) rfl rfl (py_lss rfl rfl) (sV rfl (py_pickT rfl rfl) (s_nil (W_ifd rfl (fun c14 => ?_) (fun c14 => ?_))))))
        ·refine W_reg (sM rfl rfl (sM rfl rfl (sM rfl rfl (sM rfl rfl (sM rfl rfl (s_call (wn rfl) rfl rfl (pc_call Tryz.func314 rfl Tryz_nm314 rfl) (IH _ _ _ _ _ _ ((a + b) / 2) (((a + b) / 2) + m - s2) b _ _ _ (H25.mine 0 rfl) (H25.nodup1 (i := 0) rfl) (by omega) (by omega) (by omega) (fun w1 e1 => gC w1 (H25.ext.step e1 fun b hb => H25.new b (H25.inB 0 rfl hb))) (by omega) (by omega) (by omega) (by omega) p1 p2 (by omega)) (fun v6 w22 r6 => ?_)))))))
         obtain ⟨y3, mm3, hs3⟩ := r6
         obtain ⟨fp11, H27⟩ := H25.mut 0 rfl mm3
         try dsimp only [lNA, lCA, lSZ, lSS] at H27
         refine s_nil (hN _ _ (fin0 Tryz.results314 ?_))
         exact ⟨_, H27.done, sym_done hSy hs1 hs3 (by omega) (by omega) h3⟩
        ·refine W_skip (hN _ _ (fin0 Tryz.results314 ?_))
         have hq : (((a + b) / 2) + m - s2) = b := by omega
         have ho : Ord kLt keyV (seg l2 ((a + b) / 2) b) := Eq.mp (congrArg (fun z => Ord kLt keyV (seg l2 ((a + b) / 2) z)) hq) p1
         exact ⟨_, H25.done, sym_done hSy hs1 (sort_triv ho) (by omega) (by omega) h3⟩
       ·try simp only [decide_eq_true_eq, decide_eq_false_iff_not] at hg3
        refine sKf rfl rfl rfl (sKf rfl rfl rfl (sKf rfl rfl rfl (sV rfl (py_pickF rfl rfl) (s_nil (W_iff rfl (W_skip (hN _ _ (fin0 Tryz.results314 ?_))))))))
        have hq : (((a + b) / 2) + m - s2) = ((a + b) / 2) := by omega
        have ho : Ord kLt keyV (seg l2 ((a + b) / 2) b) := Eq.mp (congrArg (fun z => Ord kLt keyV (seg l2 z b)) hq) p2
        exact ⟨_, H25.done, sym_done hSy hs1 (sort_triv ho) (by omega) (by omega) h3⟩
end Go.Wk
namespace Go.Wk
section
variable {ws l : List RecV} {a b bs c e x y : Nat}
theorem sort_same {l l' : List RecV} (h : SortSeg l l' a b) (hab : a ≤ b) (hb : b ≤ l.length) : sameK keyV l l' := by
  obtain ⟨h1, h2, h3⟩ := h
  have e1 : l = seg l 0 a ++ (seg l a b ++ seg l b l.length) := by
    rw [seg_app hab hb, seg_app (Nat.zero_le _) (by omega)]; unfold seg; rw [List.take_length, List.drop_zero]
  have e2 : l' = seg l 0 a ++ (seg l' a b ++ seg l b l.length) := by
    rw [seg_ext (by omega) (by omega) (fun j _ q => (h2 j (.inl q)).symm) (a := 0) (b := a) (xs := l) (ys := l'), seg_ext (Nat.le_refl _) (by omega) (fun j q _ => (h2 j (.inr q)).symm) (a := b) (b := l.length) (xs := l) (ys := l')]
    rw [seg_app hab (by omega), seg_app (Nat.zero_le _) (by omega)]; unfold seg; rw [← h1, List.take_length, List.drop_zero]
  intro k
  have := (sameK.app (sameK.refl (key := keyV) (xs := seg l 0 a)) (sameK.app h3.2 (sameK.refl (key := keyV) (xs := seg l b l.length)))) k
  rw [e2]; conv => rhs; rw [e1]
  exact this
theorem sort_keep {l l' : List RecV} (h : SortSeg l l' a b) (hx : y ≤ a ∨ b ≤ x) (hy : y ≤ l.length) : seg l' x y = seg l x y :=
  seg_ext (by have := h.1; omega) hy fun j q1 q2 => h.2.1 j (by omega)
def OrdAt (l : List RecV) (bs c : Nat) : Prop := Ord kLt keyV (seg l c (min (c + bs) l.length))
def Blocks (ws l : List RecV) (bs a : Nat) : Prop := l.length = ws.length ∧ sameK keyV ws l ∧ bs ∣ a ∧ a ≤ ws.length ∧ ∀ c, bs ∣ c → c < a → OrdAt l bs c
def AllB (ws l : List RecV) (bs : Nat) : Prop := l.length = ws.length ∧ sameK keyV ws l ∧ ∀ c, bs ∣ c → c < ws.length → OrdAt l bs c
theorem dvd_lt {bs c a : Nat} (h1 : bs ∣ c) (h2 : bs ∣ a) (h : c < a) : c + bs ≤ a := by
  obtain ⟨x, rfl⟩ := h1; obtain ⟨y, rfl⟩ := h2
  have : x < y := Nat.lt_of_mul_lt_mul_left h
  calc bs * x + bs = bs * (x + 1) := by rw [Nat.mul_add, Nat.mul_one]
    _ ≤ bs * y := Nat.mul_le_mul_left _ this
theorem bl_start : Blocks ws ws bs 0 := ⟨rfl, .refl, Nat.dvd_zero _, Nat.zero_le _, fun c _ h => by omega⟩
theorem bl_keep {l l' : List RecV} (hs : SortSeg l l' a b) (hc : c + bs ≤ a ∨ b ≤ c) (h : OrdAt l bs c) : OrdAt l' bs c := by
  unfold OrdAt at h ⊢
  rw [hs.1, sort_keep hs (by omega) (by omega)]; exact h
theorem bl_next {l l' : List RecV} (hI : Blocks ws l bs a) (h0 : 0 < bs) (h : a + bs ≤ ws.length) (hs : SortSeg l l' a (a + bs)) : Blocks ws l' bs (a + bs) := by
  obtain ⟨h1, h2, h3, h4, h5⟩ := hI
  have e := hs.1
  refine ⟨by omega, h2.trans (sort_same hs (by omega) (by omega)), Nat.dvd_add h3 (Nat.dvd_refl _), h, fun c q1 q2 => ?_⟩
  by_cases hc : c < a
  · exact bl_keep hs (.inl (dvd_lt q1 h3 hc)) (h5 c q1 hc)
  · have : c = a := by
      by_cases hca : c = a
      · exact hca
      · have := dvd_lt h3 q1 (by omega); omega
    subst this
    unfold OrdAt; rw [show min (c + bs) l'.length = c + bs by omega]; exact hs.2.2.1
theorem bl_last {l l' : List RecV} (hI : Blocks ws l bs a) (h : ws.length < a + bs) (hs : SortSeg l l' a ws.length) : AllB ws l' bs := by
  obtain ⟨h1, h2, h3, h4, h5⟩ := hI
  have e := hs.1
  refine ⟨by omega, h2.trans (sort_same hs (by omega) (by omega)), fun c q1 q2 => ?_⟩
  by_cases hc : c < a
  · exact bl_keep hs (.inl (dvd_lt q1 h3 hc)) (h5 c q1 hc)
  · have : c = a := by
      by_cases hca : c = a
      · exact hca
      · have := dvd_lt h3 q1 (by omega); omega
    subst this
    unfold OrdAt; rw [show min (c + bs) l'.length = ws.length by omega]; exact hs.2.2.1
def TwoB (ws l : List RecV) (bs a : Nat) : Prop := Blocks ws l (2 * bs) a ∧ ∀ c, bs ∣ c → a ≤ c → c < ws.length → OrdAt l bs c
theorem two_start (h : AllB ws l bs) : TwoB ws l bs 0 := ⟨⟨h.1, h.2.1, Nat.dvd_zero _, Nat.zero_le _, fun c _ q => by omega⟩, fun c q _ => h.2.2 c q⟩
theorem dvd_half {bs c : Nat} (h : 2 * bs ∣ c) : bs ∣ c := Nat.dvd_trans (Nat.dvd_mul_left _ _) h
theorem two_a (h : TwoB ws l bs a) (h1 : a + bs ≤ ws.length) (h0 : 0 < bs) : Ord kLt keyV (seg l a (a + bs)) := by
  have := h.2 a (dvd_half h.1.2.2.1) (Nat.le_refl _) (by omega)
  unfold OrdAt at this
  rwa [show min (a + bs) l.length = a + bs by have := h.1.1; omega] at this
theorem two_m (h : TwoB ws l bs a) (h1 : a + bs < ws.length) (he : e = min (a + bs + bs) ws.length) : Ord kLt keyV (seg l (a + bs) e) := by
  have := h.2 (a + bs) (Nat.dvd_add (dvd_half h.1.2.2.1) (Nat.dvd_refl _)) (by omega) h1
  unfold OrdAt at this
  rw [h.1.1] at this
  rw [he]; exact this
theorem two_next {l l' : List RecV} (hI : TwoB ws l bs a) (h0 : 0 < bs) (h : a + 2 * bs ≤ ws.length) (hs : SortSeg l l' a (a + 2 * bs)) : TwoB ws l' bs (a + 2 * bs) :=
  ⟨bl_next hI.1 (by omega) h hs, fun c q1 q2 q3 => bl_keep hs (.inr q2) (hI.2 c q1 (by omega) q3)⟩
theorem two_last {l l' : List RecV} (hI : TwoB ws l bs a) (h : ws.length < a + 2 * bs) (hs : SortSeg l l' a ws.length) : AllB ws l' (2 * bs) := bl_last hI.1 h hs
theorem two_skip (hI : TwoB ws l bs a) (h0 : 0 < bs) (h : ws.length ≤ a + bs) : AllB ws l (2 * bs) := by
  have e := hI.1.1
  refine two_last hI (by omega) ?_
  by_cases ha : a < ws.length
  · have := hI.2 a (dvd_half hI.1.2.2.1) (Nat.le_refl _) ha
    unfold OrdAt at this
    rw [show min (a + bs) l.length = ws.length by omega] at this
    exact sort_triv this
  · exact sort_none (by omega)
theorem all_end (h : AllB ws l bs) (h1 : ws.length ≤ bs) (h0 : 0 < ws.length) : SortSeg ws l 0 ws.length := by
  have := h.2.2 0 (Nat.dvd_zero _) h0
  unfold OrdAt at this
  rw [show min (0 + bs) l.length = ws.length by have := h.1; omega] at this
  refine ⟨h.1, fun q hq => ?_, this, ?_⟩
  · have h' := h.1
    rw [List.getD_eq_getElem?_getD, List.getD_eq_getElem?_getD, List.getElem?_eq_none (by omega), List.getElem?_eq_none (by omega)]
  · have e : ∀ (x : List RecV), x.length = ws.length → seg x 0 ws.length = x := fun x hx => by unfold seg; rw [← hx, List.take_length, List.drop_zero]
    rw [e l h.1, e ws rfl]; exact h.2.1
theorem sort_all (h : SortSeg ws l 0 ws.length) : Stable kLt keyV ws l := by
  have e : ∀ (x : List RecV), x.length = ws.length → seg x 0 ws.length = x := fun x hx => by unfold seg; rw [← hx, List.take_length, List.drop_zero]
  have := h.2.2; rw [e l h.1, e ws rfl] at this; exact this
end
end Go.Wk
namespace Go.Wk
open Go.Proofs Rp
set_option maxRecDepth 10000
theorem Tryz_sym_all {gf : FuncId} {gL : List Value} {gF : Func} (gH : Tryz.prog.funcs[gf]? = some gF) (gB : gF.body.isNone = false) (gN : NG gF) : ∀ N, Tryz_SymOK gf gL N
 | 0 => fun _ _ _ _ _ _ a m b _ _ _ _ _ _ _ _ _ h1 h2 _ _ _ _ h => absurd (Nat.lt_trans h1 h2) (by omega)
 | N + 1 => fun _ _ _ _ _ _ _ _ _ _ _ _ o nd ha hm hb gC h1 h2 h3 hL hA hB hN => Tryz_sym_step o nd ha hm hb gH gB gN gC h1 h2 h3 hL hA hB hN (Tryz_sym_all gH gB gN N)
theorem Tryz_slices_stableCmpFunc_impl_Rec {w : World} {ws : List RecV} {A : Option Addr} {n C m : Nat} {fp : List Nat} {gf : FuncId} {gL : List Value} {gF : Func} {xm : Int} (o : own true w [.slice A n C] ws fp) (nd : fp.Nodup) (hm : xm = (m : Nat)) (gH : Tryz.prog.funcs[gf]? = some gF) (gB : gF.body.isNone = false) (gN : NG gF) (gC : ∀ w1, Ext (· ∈ fp) w w1 → ∀ (x y : Rec) (A6 : Option Addr) (C6 : Nat) (A7 : Option Addr) (C7 : Nat) (A8 : Option Addr) (C8 : Nat) (B6 : Option Addr) (D6 : Nat) (B7 : Option Addr) (D7 : Nat) (B8 : Option Addr) (D8 : Nat), Ret Tryz.prog gf (([x.val A6 C6 A7 C7 A8 C8, y.val B6 D6 B7 D7 B8 D8] : List Value) ++ gL).toArray w1 fun v w' => Ext No w1 w' ∧ v = .int .i64 (cfR x y)) (hm2 : m = ws.length) (h0 : 0 < ws.length) (hL : ws.length ≤ 1000000) : Ret Tryz.prog 261 #[.slice A n C, .int .i64 xm, .func (.func gf) #[] gL.toArray] w fun v w' => (∃ ws', Mut w w' fp [.slice A n C] ws' ∧ SortSeg ws ws' 0 ws.length) := by
 subst hm
 obtain rfl := own_n o
 obtain ⟨hb0, ho0, had0⟩ := own_addr o 0 (by omega)
 subst had0
 have wL := oL o
 refine ret_Q (vs := [.slice (some ⟨hb0, ho0, none⟩) ws.length C, .int .i64 (m : Nat), .func (.func gf) #[] gL.toArray]) Tryz.func261 rfl Tryz.ntmps261 rfl (fun Q hQ hN => ?_)
 have H0 := Sep.begin o nd
 refine W_seq ?_
 subst hm2
 refine W_reg (sA rfl rfl (s_nil (W_sr (sM rfl rfl (sA rfl rfl (sA rfl rfl (s_nil (W_seq (W_block (W_loop (γ := Nat × List RecV × List Nat) (fun (a, l, f) => [(0, .slice (some ⟨hb0, ho0, none⟩) ws.length C), (1, .int .i64 ws.length), (2, .func (.func gf) #[] gL.toArray), (6, .int .i64 20), (7, .int .i64 a), (8, .int .i64 (a + 20 : Nat))]) (fun (a, l, f) w' => Sep (· ∈ fp) w [mine [.slice (some ⟨hb0, ho0, none⟩) ws.length C] l f] [] w' ∧ Blocks ws l 20 a) (fun (a, l, f) => ws.length - a) (0, ws, _) ⟨rfl, rfl, rfl, rfl, rfl, rfl, trivial⟩ ⟨H0, bl_start⟩ (fun (a, l, f) w1 H1 => ?_)))))))))))
 obtain ⟨H1, hB⟩ := H1
 refine W_seq (W_sr (sM rfl rfl (sM rfl rfl (sV rfl (py_leq rfl rfl) (s_nil (W_ifd rfl (fun c1 => ?_) (fun c1 => ?_)))))))
 ·refine W_skip (W_block (W_seq ?_))
  have hbl := hB.1
  have hba := hB.2.2.2.1
  refine W_reg (sM rfl rfl (sM rfl rfl (sM rfl rfl (sM rfl rfl (s_call (wn rfl) rfl rfl (pc_call Tryz.func313 rfl Tryz_nm313 rfl) (Tryz_slices_insertionSortCmpFunc_impl_Rec (a := a) (b := (a + 20)) (H1.mine 0 rfl) (H1.nodup1 (i := 0) rfl) (by omega) (by omega) gH gB gN (fun w1 e1 => gC w1 (H1.ext.step e1 fun b hb => H1.new b (H1.inB 0 rfl hb))) (by omega) (by omega) (by omega) (by omega)) (fun v1 w2 r1 => ?_))))))
  obtain ⟨y1, mm1, hs1⟩ := r1
  obtain ⟨fp1, H2⟩ := H1.mut 0 rfl mm1
  try dsimp only [lNA, lCA, lSZ, lSS] at H2
  refine s_nil (W_sr (sM rfl rfl (sA rfl rfl (s_nil (W_reg (sM rfl rfl (sM rfl rfl (sV rfl (py_add rfl rfl (in64 ⟨by omega, by omega⟩)) (sA rfl rfl (s_nil (⟨(a + 20, _, _), ⟨rfl, rfl, rfl, rfl, rfl, eqI (by omega), trivial⟩, ⟨H2, bl_next hB (by omega) (by omega) hs1⟩, by dsimp only; omega⟩)))))))))))
 ·refine W_exit (W_seq ?_)
  have hbl := hB.1
  have hba := hB.2.2.2.1
  refine W_reg (sM rfl rfl (sM rfl rfl (sM rfl rfl (sM rfl rfl (s_call (wn rfl) rfl rfl (pc_call Tryz.func313 rfl Tryz_nm313 rfl) (Tryz_slices_insertionSortCmpFunc_impl_Rec (a := a) (b := ws.length) (H1.mine 0 rfl) (H1.nodup1 (i := 0) rfl) (by omega) (by omega) gH gB gN (fun w1 e1 => gC w1 (H1.ext.step e1 fun b hb => H1.new b (H1.inB 0 rfl hb))) (by omega) (by omega) (by omega) (by omega)) (fun v2 w3 r2 => ?_))))))
  obtain ⟨y2, mm2, hs2⟩ := r2
  obtain ⟨fp2, H3⟩ := H1.mut 0 rfl mm2
  try dsimp only [lNA, lCA, lSZ, lSS] at H3
  refine s_nil (W_block (W_loop (γ := Nat × List RecV × List Nat) (fun (bs, l, f) => [(0, .slice (some ⟨hb0, ho0, none⟩) ws.length C), (1, .int .i64 ws.length), (2, .func (.func gf) #[] gL.toArray), (6, .int .i64 bs)]) (fun (bs, l, f) w' => Sep (· ∈ fp) w [mine [.slice (some ⟨hb0, ho0, none⟩) ws.length C] l f] [] w' ∧ AllB ws l bs ∧ 0 < bs) (fun (bs, l, f) => ws.length - bs) (20, _, _) ⟨rfl, rfl, rfl, rfl, trivial⟩ ⟨H3, bl_last hB (by omega) hs2, by omega⟩ (fun (bs, l, f) w4 H4 => ?_)))
  obtain ⟨H4, hA, h0b⟩ := H4
  refine W_seq (W_seq ?_)
  have hal := hA.1
  refine W_reg (sM rfl rfl (sM rfl rfl (sV rfl (py_lss rfl rfl) (s_nil (W_ifd rfl (fun c2 => ?_) (fun c2 => ?_))))))
  ·refine W_skip (W_block (W_sr (sM rfl rfl (sV rfl (py_mul rfl rfl (in64 ⟨by omega, by omega⟩)) (sA rfl rfl (sA rfl rfl (s_nil (W_seq (W_block (W_loop (γ := Nat × List RecV × List Nat) (fun (a, l, f) => [(0, .slice (some ⟨hb0, ho0, none⟩) ws.length C), (1, .int .i64 ws.length), (2, .func (.func gf) #[] gL.toArray), (6, .int .i64 bs), (7, .int .i64 a), (8, .int .i64 (a + 2 * bs : Nat))]) (fun (a, l, f) w' => Sep (· ∈ fp) w [mine [.slice (some ⟨hb0, ho0, none⟩) ws.length C] l f] [] w' ∧ TwoB ws l bs a ∧ 0 < bs ∧ bs < ws.length) (fun (a, l, f) => ws.length - a) (0, _, _) ⟨rfl, rfl, rfl, rfl, rfl, eqI (by omega), trivial⟩ ⟨H4, two_start hA, h0b, by omega⟩ (fun (a, l, f) w5 H5 => ?_)))))))))))
   obtain ⟨H5, hT, h0b, hbn⟩ := H5
   refine W_seq (W_seq ?_)
   have htl := hT.1.1
   have hta := hT.1.2.2.2.1
   refine W_reg (sM rfl rfl (sM rfl rfl (sV rfl (py_leq rfl rfl) (s_nil (W_ifd rfl (fun c3 => ?_) (fun c3 => ?_))))))
   ·refine W_skip (W_block (W_seq ?_))
    have htl := hT.1.1
    have hta := hT.1.2.2.2.1
    refine W_reg (sM rfl rfl (sM rfl rfl (sM rfl rfl (sM rfl rfl (sV rfl (py_add rfl rfl (in64 ⟨by omega, by omega⟩)) (sM rfl rfl (sM rfl rfl (s_call (wn rfl) rfl rfl (pc_call Tryz.func314 rfl Tryz_nm314 rfl) (Tryz_sym_all gH gB gN _ _ _ _ _ _ _ a (a + bs) (a + 2 * bs) _ _ _ (H5.mine 0 rfl) (H5.nodup1 (i := 0) rfl) (by omega) (by omega) (by omega) (fun w1 e1 => gC w1 (H5.ext.step e1 fun b hb => H5.new b (H5.inB 0 rfl hb))) (by omega) (by omega) (by omega) (by omega) (two_a hT (by omega) h0b) (two_m hT (by omega) (by omega)) (Nat.le_refl _)) (fun v3 w6 r3 => ?_)))))))))
    obtain ⟨y3, mm3, hs3⟩ := r3
    obtain ⟨fp3, H6⟩ := H5.mut 0 rfl mm3
    try dsimp only [lNA, lCA, lSZ, lSS] at H6
    refine s_nil (W_sr (sM rfl rfl (sA rfl rfl (s_nil (W_reg (sM rfl rfl (sM rfl rfl (sV rfl (py_mul rfl rfl (in64 ⟨by omega, by omega⟩)) (sV rfl (py_add rfl rfl (in64 ⟨by omega, by omega⟩)) (sA rfl rfl (s_nil (⟨(a + 2 * bs, _, _), ⟨rfl, rfl, rfl, rfl, rfl, eqI (by omega), trivial⟩, ⟨H6, two_next hT h0b (by omega) (show SortSeg l _ a (a + 2 * bs) from hs3), h0b, hbn⟩, by dsimp only; omega⟩))))))))))))
   ·refine W_exit (W_seq (W_seq ?_))
    have htl := hT.1.1
    have hta := hT.1.2.2.2.1
    refine W_reg (sM rfl rfl (sM rfl rfl (sV rfl (py_add rfl rfl (in64 ⟨by omega, by omega⟩)) (sA rfl rfl (s_nil (W_sr (sM rfl rfl (sM rfl rfl (sV rfl (py_lss rfl rfl) (s_nil (W_ifd rfl (fun c4 => ?_) (fun c4 => ?_))))))))))))
    ·have htl := hT.1.1
     have hta := hT.1.2.2.2.1
     refine W_reg (sM rfl rfl (sM rfl rfl (sM rfl rfl (sM rfl rfl (sM rfl rfl (s_call (wn rfl) rfl rfl (pc_call Tryz.func314 rfl Tryz_nm314 rfl) (Tryz_sym_all gH gB gN _ _ _ _ _ _ _ a (a + bs) ws.length _ _ _ (H5.mine 0 rfl) (H5.nodup1 (i := 0) rfl) (by omega) (by omega) (by omega) (fun w1 e1 => gC w1 (H5.ext.step e1 fun b hb => H5.new b (H5.inB 0 rfl hb))) (by omega) (by omega) (by omega) (by omega) (two_a hT (by omega) h0b) (two_m hT (by omega) (by omega)) (Nat.le_refl _)) (fun v4 w7 r4 => ?_)))))))
     obtain ⟨y4, mm4, hs4⟩ := r4
     obtain ⟨fp4, H7⟩ := H5.mut 0 rfl mm4
     try dsimp only [lNA, lCA, lSZ, lSS] at H7
     refine s_nil (W_reg (sM rfl rfl (sV rfl (py_mul rfl rfl (in64 ⟨by omega, by omega⟩)) (sA rfl rfl (s_nil (⟨(2 * bs, _, _), ⟨rfl, rfl, rfl, eqI (by omega), trivial⟩, ⟨H7, two_last hT (by omega) hs4, by omega⟩, by dsimp only; omega⟩))))))
    ·refine W_skip (W_reg (sM rfl rfl (sV rfl (py_mul rfl rfl (in64 ⟨by omega, by omega⟩)) (sA rfl rfl (s_nil (⟨(2 * bs, _, _), ⟨rfl, rfl, rfl, eqI (by omega), trivial⟩, ⟨H5, two_skip hT h0b (by omega), by omega⟩, by dsimp only; omega⟩))))))
  ·refine W_exit (hN _ _ (fin0 Tryz.results261 ?_))
   exact ⟨_, H4.done, all_end hA (by omega) h0⟩
end Go.Wk
namespace Go.Wk
open Go.Proofs Rp
set_option maxRecDepth 10000
theorem Tryz_impl_risesIn {w : World} {xs : List Int} {xsA : Option Addr} {xsC : Nat} {m : Int} (xsS : Sees w [.slice xsA xs.length xsC] xs) (hm : -1000 ≤ m ∧ m ≤ 1000000) : Ret Tryz.prog 279 #[.slice xsA xs.length xsC, .int .i64 m] w fun v w' => Ext No w w' ∧ (v = .bool (rises xs (m - 1))) := by
 have xsL := sL xsS
 obtain ⟨xsF, xsO⟩ := xsS
 refine ret_Q (vs := [.slice xsA xs.length xsC, .int .i64 m]) Tryz.func279 rfl Tryz.ntmps279 rfl (fun Q hQ hN => ?_)
 have H0 := Sep.start (w := w) (F := [seen false [.slice xsA xs.length xsC] xs xsF]) (all_cons xsO (by simp))
 refine W_sr (sA rfl rfl (s_nil (W_seq (W_sr (sM rfl rfl (sV rfl (py_len tu25 rfl) (sM rfl rfl (s_nil (W_block (W_loop (γ := Nat) (fun k => [(0, .slice xsA xs.length xsC), (1, .int .i64 m), (7, .slice xsA xs.length xsC), (8, .int .i64 xs.length), (9, .int .i64 k)]) (fun k w' => Sep No w [] [seen false [.slice xsA xs.length xsC] xs xsF] w' ∧ k ≤ xs.length ∧ (∀ i, i < k → riseAt xs (m - 1) i = true)) (fun k => xs.length - k) 0 ⟨rfl, rfl, rfl, rfl, rfl, trivial⟩ ⟨H0, by omega, fun i hi => by omega⟩ (fun k w1 H1 => ?_)))))))))))
 obtain ⟨H1, hk, he⟩ := H1
 refine W_sr (sV rfl (py_lss rfl rfl) (s_nil (W_seq (W_ifd rfl (fun c1 => ?_) (fun c1 => ?_)))))
 ·refine W_skip (W_seq (W_block (W_seq ?_)))
  obtain ⟨eb1, eo1, ee1, ec1⟩ := elem_int (H1.seen 0 rfl) k (by omega)
  have eI1 := elem_i64 (H1.seen 0 rfl) k (by omega)
  refine W_reg (sM rfl rfl (sV rfl (py_elz tu25 ts2 rfl rfl ee1 k (by omega) (by omega)) (sV rfl (py_load tu2 rfl rfl ec1) (sA rfl rfl (sA rfl rfl (s_nil (W_seq ?_)))))))
  obtain ⟨eb2, eo2, ee2, ec2⟩ := elem_int (H1.seen 0 rfl) (k - 1) (by omega)
  have eI2 := elem_i64 (H1.seen 0 rfl) (k - 1) (by omega)
  refine W_reg (sM rfl rfl (sM rfl rfl (sV rfl (py_sub rfl rfl (in64 ⟨by omega, by omega⟩)) (s_call (wn rfl) rfl rfl (pc_call Tryz.func147 rfl Tryz_nm147 rfl) Tryz_impl_inside (fun v1 w2 r1 => ?_)))))
  obtain ⟨e1, rfl⟩ := r1
  have H2 := H1.to e1
  refine sV rfl (py_not rfl) (sM rfl rfl (s_grp 11 (j := 5) (want := false) (t := 30) rfl rfl rfl rfl (fun hg1 kk1 => s_val (wgE rfl rfl rfl hg1) rfl rfl (py_move rfl) (s_val (wgE rfl rfl rfl hg1) rfl rfl (py_gtr rfl rfl) (s_val (wgE rfl rfl rfl hg1) rfl rfl (py_move rfl) (s_grp 7 (j := 8) (want := true) (t := 29) rfl rfl rfl rfl (fun hg2 kk2 => s_val (wgE rfl rfl rfl hg2) rfl rfl (py_move rfl) (s_val (wgE rfl rfl rfl hg2) rfl rfl (py_move rfl) (s_val (wgE rfl rfl rfl hg2) rfl rfl (py_sub rfl rfl (in64 ⟨by omega, by omega⟩)) (s_val (wgE rfl rfl rfl hg2) rfl rfl (py_elz tu25 ts2 rfl rfl ee2 (k - 1) (by first | omega | (simp only [Bool.or_eq_false_iff, Bool.and_eq_true, Bool.and_eq_false_iff, Bool.or_eq_true, Bool.not_eq_true', Bool.not_eq_false', decide_eq_true_eq, decide_eq_false_iff_not] at hg1 hg2; omega)) (by omega)) (s_val (wgE rfl rfl rfl hg2) rfl rfl (py_load tu2 rfl rfl (e1.cell ec2)) (s_val (wgE rfl rfl rfl hg2) rfl rfl (py_move rfl) (s_val (wgE rfl rfl rfl hg2) rfl rfl (py_geq rfl rfl) (kk2 _ _ (kx rfl (kx rfl (kx rfl (kx rfl (kx rfl (kx rfl (kx rfl k0))))))) rfl Ext.refl)))))))) (fun w4 e3 => s_val (wgE rfl rfl rfl hg1) rfl rfl (py_band rfl rfl) (kk1 _ _ (kx rfl (kx rfl (kx rfl (kx rfl (kx rfl k0))))) rfl (Ext.refl.trans e3))))))) (fun w3 e2 => ?_)))
  have H4 := H2.to e2
  refine sV rfl (py_bor rfl rfl) (s_nil (W_if rfl (fun c2 => ?_) (fun c2 => ?_)))
  ·refine W_sr (sA rfl rfl (s_nil (rT hQ Tryz.results279 rfl (⟨H4.ext, ?_⟩))))
   rw [rises_no k (by omega) (by
    simp [ins, -List.getD_eq_getElem?_getD] at c2
    simp [riseAt, -List.getD_eq_getElem?_getD]
    omega)]
  ·refine W_skip (W_reg (sV rfl (py_add rfl rfl (in64 ⟨by omega, by omega⟩)) (sM rfl rfl (s_nil (⟨k + 1, ⟨rfl, rfl, rfl, rfl, rfl, trivial⟩, ⟨H4, by omega, fun i hi => ?_⟩, by dsimp only; omega⟩)))))
   by_cases e : i = k
   ·subst e
    simp [ins, -List.getD_eq_getElem?_getD] at c2
    simp [riseAt, -List.getD_eq_getElem?_getD]
    omega
   ·exact he i (by omega)
 ·refine W_exit (W_sr (sA rfl rfl (s_nil (rT hQ Tryz.results279 rfl ?_))))
  exact ⟨H1.ext, by rw [rises_yes (fun i hi => he i (by omega))]⟩
theorem Tryz_spec_l2Rise {w : World} {xs : List Int} {xsA : Option Addr} {xsC : Nat} {m : Int} (xsS : Sees w [.slice xsA xs.length xsC] xs) (hm : -1000 ≤ m ∧ m ≤ 1000000) : Ret Tryz.prog 190 #[.slice xsA xs.length xsC, .int .i64 m] w fun v w' => Ext No w w' ∧ (v = .bool (rises xs m)) := by
 have xsL := sL xsS
 obtain ⟨xsF, xsO⟩ := xsS
 refine ret_Q (vs := [.slice xsA xs.length xsC, .int .i64 m]) Tryz.func190 rfl Tryz.ntmps190 rfl (fun Q hQ hN => ?_)
 have H0 := Sep.start (w := w) (F := [seen false [.slice xsA xs.length xsC] xs xsF]) (all_cons xsO (by simp))
 refine W_sr (sA rfl rfl (s_nil (W_seq (W_sr (sA rfl rfl (s_nil (W_block (W_loop (γ := Nat) (fun k => [(0, .slice xsA xs.length xsC), (1, .int .i64 m), (5, .int .i64 k)]) (fun k w' => Sep No w [] [seen false [.slice xsA xs.length xsC] xs xsF] w' ∧ k ≤ xs.length ∧ (∀ i, i < k → riseAt xs m i = true)) (fun k => xs.length - k) 0 ⟨rfl, rfl, rfl, trivial⟩ ⟨H0, by omega, fun i hi => by omega⟩ (fun k w1 H1 => ?_)))))))))
 obtain ⟨H1, hk, he⟩ := H1
 refine W_seq (W_sr (sM rfl rfl (sM rfl rfl (sV rfl (py_len tu25 rfl) (sV rfl (py_lss rfl rfl) (s_nil (W_ifd rfl (fun c1 => ?_) (fun c1 => ?_))))))))
 ·refine W_skip (W_seq (W_block (W_seq ?_)))
  obtain ⟨eb1, eo1, ee1, ec1⟩ := elem_int (H1.seen 0 rfl) k (by omega)
  have eI1 := elem_i64 (H1.seen 0 rfl) k (by omega)
  refine W_drw (S := Ext No _) [(0, true), (1, true), (2, true), (3, true), (4, true), (5, true), (6, true), (7, true), (8, true), (9, true), (10, true), (11, true), (12, true), (13, true), (14, true), (15, true), (16, true), (17, true), (18, true), (19, true), (20, true), (21, true), (22, true), (23, true), (24, true), (25, true), (26, true), (27, true), (28, false)] (by kernel_rfl) (by kernel_rfl) (by kernel_rfl) rfl (fun _ => Ext.refl.drawn _) (fun q1 => ?_)
  have H2 := H1.drawn q1
  refine dM rfl rfl rfl (dM rfl rfl rfl (dV rfl rfl (fun zw hx => py_elz tu25 ts2 rfl rfl ee1 k (by omega) (by omega)) (dV rfl rfl (fun zw hx => py_load tu2 rfl rfl (hx.cell ec1)) (dV rfl rfl (fun zw hx => py_lss rfl rfl) (dM rfl rfl rfl (d_case (t := 17) rfl (fun hg1 => ?_) (fun hg1 => ?_)))))))
  ·try simp only [decide_eq_true_eq, decide_eq_false_iff_not] at hg1
   refine dKt rfl rfl rfl rfl (dKt rfl rfl rfl rfl (dKt rfl rfl rfl rfl (dKt rfl rfl rfl rfl (dKt rfl rfl rfl rfl (dKt rfl rfl rfl rfl (dV rfl rfl (fun zw hx => py_pickT rfl rfl) (dM rfl rfl rfl (dKt rfl rfl rfl rfl (dKt rfl rfl rfl rfl (dKt rfl rfl rfl rfl (d_skip rfl (wou rfl rfl rfl) rfl rfl (d_skip rfl (wou rfl rfl rfl) rfl rfl (d_skip rfl (wou rfl rfl rfl) rfl rfl (d_skip rfl (wou rfl rfl rfl) rfl rfl (d_skip rfl (wou rfl rfl rfl) rfl rfl (d_skip rfl (wou rfl rfl rfl) rfl rfl (d_skip rfl (wou rfl rfl rfl) rfl rfl (d_skip rfl (wou rfl rfl rfl) rfl rfl (d_skip rfl (wou rfl rfl rfl) rfl rfl (d_skip rfl (wou rfl rfl rfl) rfl rfl (dKt rfl rfl rfl rfl (d_end rfl (wn rfl) rfl rfl (py_pickT rfl rfl) (d_nil (W_ift rfl (W_sr (sA rfl rfl (s_nil (rT hQ Tryz.results190 rfl (⟨H2.ext, ?_⟩)))))))))))))))))))))))))))))
   rw [rises_no k (by omega) (by
    simp [riseAt, -List.getD_eq_getElem?_getD]
    omega)]
  ·try simp only [decide_eq_true_eq, decide_eq_false_iff_not] at hg1
   refine d_val rfl (wg rfl rfl rfl) rfl rfl (fun zw hx => py_move rfl) (d_val rfl (wg rfl rfl rfl) rfl rfl (fun zw hx => py_move rfl) (d_val rfl (wg rfl rfl rfl) rfl rfl (fun zw hx => py_elz tu25 ts2 rfl rfl ee1 k (by omega) (by omega)) (d_val rfl (wg rfl rfl rfl) rfl rfl (fun zw hx => py_load tu2 rfl rfl (hx.cell ec1)) (d_val rfl (wg rfl rfl rfl) rfl rfl (fun zw hx => py_move rfl) (d_val rfl (wg rfl rfl rfl) rfl rfl (fun zw hx => py_gtr rfl rfl) (dV rfl rfl (fun zw hx => py_pickF rfl rfl) (dM rfl rfl rfl (d_case (t := 25) rfl (fun hg2 => ?_) (fun hg2 => ?_)))))))))
   ·try simp only [decide_eq_true_eq, decide_eq_false_iff_not] at hg2
    refine dKt rfl rfl rfl rfl (dKt rfl rfl rfl rfl (dKt rfl rfl rfl rfl (d_skip rfl (wou rfl rfl rfl) rfl rfl (d_skip rfl (wou rfl rfl rfl) rfl rfl (d_skip rfl (wou rfl rfl rfl) rfl rfl (d_skip rfl (wou rfl rfl rfl) rfl rfl (d_skip rfl (wou rfl rfl rfl) rfl rfl (d_skip rfl (wou rfl rfl rfl) rfl rfl (d_skip rfl (wou rfl rfl rfl) rfl rfl (d_skip rfl (wou rfl rfl rfl) rfl rfl (d_skip rfl (wou rfl rfl rfl) rfl rfl (d_skip rfl (wou rfl rfl rfl) rfl rfl (dKt rfl rfl rfl rfl (d_end rfl (wn rfl) rfl rfl (py_pickT rfl rfl) (d_nil (W_ift rfl (W_sr (sA rfl rfl (s_nil (rT hQ Tryz.results190 rfl (⟨H2.ext, ?_⟩)))))))))))))))))))))
    rw [rises_no k (by omega) (by
     simp [riseAt, -List.getD_eq_getElem?_getD]
     omega)]
   ·try simp only [decide_eq_true_eq, decide_eq_false_iff_not] at hg2
    refine d_val rfl (wg rfl rfl rfl) rfl rfl (fun zw hx => py_move rfl) (d_val rfl (wg rfl rfl rfl) rfl rfl (fun zw hx => py_gtr rfl rfl) (d_val rfl (wg rfl rfl rfl) rfl rfl (fun zw hx => py_move rfl) (d_case (t := 28) rfl (fun hg3 => ?_) (fun hg3 => ?_))))
    ·try simp only [decide_eq_true_eq, decide_eq_false_iff_not] at hg3
     refine d_val rfl (wg rfl rfl rfl) rfl rfl (fun zw hx => py_move rfl) (d_val rfl (wg rfl rfl rfl) rfl rfl (fun zw hx => py_move rfl) (d_val rfl (wg rfl rfl rfl) rfl rfl (fun zw hx => py_elz tu25 ts2 rfl rfl ee1 k (by omega) (by omega)) (d_val rfl (wg rfl rfl rfl) rfl rfl (fun zw hx => py_load tu2 rfl rfl (hx.cell ec1)) (d_val rfl (wg rfl rfl rfl) rfl rfl (fun zw hx => py_move rfl) (d_val rfl (wg rfl rfl rfl) rfl rfl (fun zw hx => py_move rfl) (d_val rfl (wg rfl rfl rfl) rfl rfl (fun zw hx => py_sub rfl rfl (in64 ⟨by omega, by omega⟩)) ?_))))))
     obtain ⟨eb2, eo2, ee2, ec2⟩ := elem_int (H2.seen 0 rfl) (k - 1) (by omega)
     have eI2 := elem_i64 (H2.seen 0 rfl) (k - 1) (by omega)
     refine d_val rfl (wg rfl rfl rfl) rfl rfl (fun zw hx => py_elz tu25 ts2 rfl rfl ee2 (k - 1) (by omega) (by omega)) (d_val rfl (wg rfl rfl rfl) rfl rfl (fun zw hx => py_load tu2 rfl rfl (hx.cell ec2)) (d_val rfl (wg rfl rfl rfl) rfl rfl (fun zw hx => py_leq rfl rfl) (d_val rfl (wg rfl rfl rfl) rfl rfl (fun zw hx => py_pickT rfl rfl) (d_end rfl (wn rfl) rfl rfl (py_pickF rfl rfl) (d_nil (W_ifd rfl (fun c2 => ?_) (fun c2 => ?_)))))))
     ·refine W_sr (sA rfl rfl (s_nil (rT hQ Tryz.results190 rfl (⟨H2.ext, ?_⟩))))
      rw [rises_no k (by omega) (by
       simp [riseAt, -List.getD_eq_getElem?_getD]
       omega)]
     ·refine W_skip (W_reg (sM rfl rfl (sV rfl (py_add rfl rfl (in64 ⟨by omega, by omega⟩)) (sA rfl rfl (s_nil (⟨k + 1, ⟨rfl, rfl, rfl, trivial⟩, ⟨H2, by omega, fun i hi => ?_⟩, by dsimp only; omega⟩))))))
      by_cases e : i = k
      ·subst e
       simp [riseAt, -List.getD_eq_getElem?_getD]
       omega
      ·exact he i (by omega)
    ·try simp only [decide_eq_true_eq, decide_eq_false_iff_not] at hg3
     refine dKf rfl rfl rfl rfl (dKf rfl rfl rfl rfl (dKf rfl rfl rfl rfl (dKf rfl rfl rfl rfl (dKf rfl rfl rfl rfl (dKf rfl rfl rfl rfl (dKf rfl rfl rfl rfl (dKf rfl rfl rfl rfl (dKf rfl rfl rfl rfl (dKf rfl rfl rfl rfl (d_val rfl (wg rfl rfl rfl) rfl rfl (fun zw hx => py_pickF rfl rfl) (d_end rfl (wn rfl) rfl rfl (py_pickF rfl rfl) (d_nil (W_iff rfl (W_skip (W_reg (sM rfl rfl (sV rfl (py_add rfl rfl (in64 ⟨by omega, by omega⟩)) (sA rfl rfl (s_nil (⟨k + 1, ⟨rfl, rfl, rfl, trivial⟩, ⟨H2, by omega, fun i hi => ?_⟩, by dsimp only; omega⟩))))))))))))))))))))
     by_cases e : i = k
     ·subst e
      simp [riseAt, -List.getD_eq_getElem?_getD]
      omega
     ·exact he i (by omega)
 ·refine W_exit (W_sr (sA rfl rfl (s_nil (rT hQ Tryz.results190 rfl ?_))))
  exact ⟨H1.ext, by rw [rises_yes (fun i hi => he i (by omega))]⟩
end Go.Wk
namespace Go.Wk
open Rp (sz own)
section
variable {M : Nat → Prop} {w0 w w' : World} {Δ F : List Rsc} {β : Type} [Rp β]
theorem Sep.rowApp (h : Sep M w0 Δ F w) (j e : Nat) {vs : List View} {xss : List (List β)} {g} (hj : F[j]? = some (rows vs xss g)) {s a c} {y : List β} {fy} (he : F[e]? = some (Wk.seen s [.slice a y.length c] y fy)) (hl : vs.length = xss.length) :
    ∃ g', Sep M w0 Δ (F.set j (rows (vs ++ [⟨a, y.length, c⟩]) (xss ++ [y]) g')) w ∧ ∀ b ∈ g', b ∈ g ∨ b ∈ fy :=
  ⟨g ++ fy, h.fset j (rows_snoc (h.fs _ (List.mem_of_getElem? hj)) hl (h.seen e he)) fun b hb => (List.mem_append.1 hb).elim (h.ap _ (List.mem_of_getElem? hj) b) (h.ap _ (List.mem_of_getElem? he) b), fun b hb => List.mem_append.1 hb⟩
theorem Sep.noRows (h : Sep M w0 Δ F w) : Sep M w0 Δ (F ++ [rows ([] : List View) ([] : List (List β)) []]) w := h.look (r := rows [] [] []) rfl (by simp [rows])
theorem Sep.viewsIn (h : Sep M w0 Δ F w) (i j : Nat) {v : Value} {vs : List View} {xss : List (List β)} {f g} (hi : Δ[i]? = some (Wk.mine [v] vs f)) (hj : F[j]? = some (rows vs xss g)) (hl : vs.length = xss.length) :
    ∃ fp, Sep M w0 (Δ.set i gone) (F ++ [Wk.seen false [v] xss fp]) w ∧ ∀ b ∈ fp, b ∈ f ∨ b ∈ g := by
  obtain ⟨fp, ho, hs⟩ := own_views (h.mine i hi) (h.rowsAt j hj) hl
  have hm := List.mem_of_getElem? hi
  have h' := h.share i hi
  have h2 : Sep M w0 (Δ.set i gone) F w := h'.fto fun q hq => ⟨h'.fs q (List.mem_append_left _ hq), h'.ap q (List.mem_append_left _ hq)⟩
  refine ⟨fp, h2.look (r := Wk.seen false [v] xss fp) ho fun b hb hx => ?_, hs⟩
  rcases hs b hb with hb | hb
  · exact h'.ap (Wk.seen true [v] vs f) (List.mem_append_right _ (by simp)) b hb hx
  · exact h2.ap _ (List.mem_of_getElem? hj) b hb hx
end
def haveTo (xs : List (List UInt8)) (n : Nat) : Nat → List Int
  | 0 => []
  | k + 1 => if 0 < (xs.getD k []).length ∧ (haveTo xs n k).length < n then haveTo xs n k ++ [(k : Int)] else haveTo xs n k
def thereTo (xs : List (List UInt8)) (n : Nat) : Nat → List (List UInt8)
  | 0 => []
  | k + 1 => if 0 < (xs.getD k []).length ∧ (haveTo xs n k).length < n then thereTo xs n k ++ [xs.getD k []] else thereTo xs n k
theorem have_yes {xs n k} (h : 0 < (xs.getD k []).length ∧ (haveTo xs n k).length < n) : haveTo xs n (k + 1) = haveTo xs n k ++ [(k : Int)] ∧ thereTo xs n (k + 1) = thereTo xs n k ++ [xs.getD k []] := by
  rw [haveTo, thereTo, if_pos h, if_pos h]; exact ⟨rfl, rfl⟩
theorem have_no {xs n k} (h : ¬ (0 < (xs.getD k []).length ∧ (haveTo xs n k).length < n)) : haveTo xs n (k + 1) = haveTo xs n k ∧ thereTo xs n (k + 1) = thereTo xs n k := by
  rw [haveTo, thereTo, if_neg h, if_neg h]; exact ⟨rfl, rfl⟩
theorem there_len {xs n} : ∀ {k}, (thereTo xs n k).length = (haveTo xs n k).length
  | 0 => rfl
  | k + 1 => by
    by_cases h : 0 < (xs.getD k []).length ∧ (haveTo xs n k).length < n
    · rw [(have_yes h).1, (have_yes h).2, List.length_append, List.length_append, there_len]; rfl
    · rw [(have_no h).1, (have_no h).2, there_len]
theorem have_le {xs n} : ∀ {k}, (haveTo xs n k).length ≤ n ∧ (haveTo xs n k).length ≤ k
  | 0 => ⟨Nat.zero_le _, Nat.le_refl _⟩
  | k + 1 => by
    have := have_le (xs := xs) (n := n) (k := k)
    by_cases h : 0 < (xs.getD k []).length ∧ (haveTo xs n k).length < n
    · rw [(have_yes h).1, List.length_append]; simp; omega
    · rw [(have_no h).1]; omega
theorem have_full {xs n k} (h : (haveTo xs n k).length = n) : ∀ m, k ≤ m → haveTo xs n m = haveTo xs n k ∧ thereTo xs n m = thereTo xs n k := by
  intro m hm
  induction m with
  | zero => have e : k = 0 := by omega
            rw [e]; exact ⟨rfl, rfl⟩
  | succ m ih =>
    by_cases e : k = m + 1
    · rw [e]; exact ⟨rfl, rfl⟩
    · have ih := ih (by omega)
      have hn := have_no (xs := xs) (n := n) (k := m) (by rw [ih.1]; omega)
      rw [hn.1, hn.2]; exact ih
theorem have_at {xs n} : ∀ {k} (i : Nat), i < (haveTo xs n k).length → 0 ≤ (haveTo xs n k).getD i 0 ∧ (haveTo xs n k).getD i 0 < k ∧ (0 < i → (haveTo xs n k).getD (i - 1) 0 < (haveTo xs n k).getD i 0) ∧
    0 < (xs.getD ((haveTo xs n k).getD i 0).toNat []).length ∧ (thereTo xs n k).getD i [] = xs.getD ((haveTo xs n k).getD i 0).toNat []
  | 0, i, hi => by simp [haveTo] at hi
  | k + 1, i, hi => by
    by_cases h : 0 < (xs.getD k []).length ∧ (haveTo xs n k).length < n
    · rw [(have_yes h).1, List.length_append] at hi
      rw [(have_yes h).1, (have_yes h).2]
      have tl := there_len (xs := xs) (n := n) (k := k)
      have g1 : ∀ {α : Type} {l : List α} {x d : α} {j : Nat}, j < l.length → (l ++ [x]).getD j d = l.getD j d := fun hj => by simp [List.getD, List.getElem?_append_left hj]
      have g2 : ∀ {α : Type} {l : List α} {x d : α}, (l ++ [x]).getD l.length d = x := by intros; simp [List.getD]
      by_cases hl : i < (haveTo xs n k).length
      · have ih := have_at (xs := xs) (n := n) (k := k) i hl
        rw [g1 hl, g1 (by omega), g1 (by omega)]
        exact ⟨ih.1, by omega, ih.2.2.1, ih.2.2.2⟩
      · obtain rfl : i = (haveTo xs n k).length := by simp at hi; omega
        rw [g2, ← tl, g2]
        refine ⟨by omega, by omega, fun hp => ?_, by simpa using h.1, by simp⟩
        rw [tl] at hp ⊢
        rw [g1 (by omega)]
        have ih := have_at (xs := xs) (n := n) (k := k) ((haveTo xs n k).length - 1) (by omega)
        exact ih.2.1
    · rw [(have_no h).1] at hi ⊢
      rw [(have_no h).2]
      have ih := have_at (xs := xs) (n := n) (k := k) i hi
      exact ⟨ih.1, by omega, ih.2.2⟩
theorem have_rises {xs n k} : rises (haveTo xs n k) ((k : Int) - 1) = true := rises_yes fun i hi => by
  have := have_at i hi
  simp only [riseAt, Bool.and_eq_true, Bool.or_eq_true, decide_eq_true_eq]
  omega
def decOk (n : Nat) (xs : List (List UInt8)) : Bool := decide (n ≤ (haveTo xs n xs.length).length)
def decAt (n : Nat) (xs : List (List UInt8)) (p : Int) : List UInt8 := mixTo (thereTo xs n xs.length) (betw n (haveTo xs n xs.length) p 0) 4 (thereTo xs n xs.length).length
def decTo (n : Nat) (xs : List (List UInt8)) (k : Nat) : List UInt8 := ((List.range k).map fun i : Nat => decAt n xs (i : Int)).flatten
def decL (n : Nat) (xs : List (List UInt8)) : List UInt8 := if decOk n xs = true then decTo n xs n else []
def blkL (n : Nat) (xs : List (List UInt8)) (p : Int) : List UInt8 := if decOk n xs = true then decAt n xs p else []
theorem decTo_step {n xs k} : decTo n xs k ++ mixTo (thereTo xs n xs.length) (betw n (haveTo xs n xs.length) (k : Nat) 0) 4 (thereTo xs n xs.length).length = decTo n xs (k + 1) := by
  simp [decTo, List.range_succ, decAt]
theorem dec_no {n xs} (h : (haveTo xs n xs.length).length < n) : decOk n xs = false ∧ decL n xs = [] ∧ ∀ p, blkL n xs p = [] := by
  have : decOk n xs = false := by rw [decOk, decide_eq_false (by omega)]
  exact ⟨this, by rw [decL, this]; rfl, fun p => by rw [blkL, this]; rfl⟩
theorem dec_yes {n xs} (h : ¬ (haveTo xs n xs.length).length < n) : decOk n xs = true ∧ decL n xs = decTo n xs n ∧ ∀ p, blkL n xs p = decAt n xs p := by
  have : decOk n xs = true := by rw [decOk, decide_eq_true (by omega)]
  exact ⟨this, by rw [decL, if_pos this], fun p => by rw [blkL, if_pos this]⟩
def Part (xs : List (List UInt8)) : Prop := ∀ i, i < xs.length → (xs.getD i []).length = 4 ∨ (xs.getD i []).length = 0
theorem there4 {xs : List (List UInt8)} {n : Nat} (h : Part xs) : ∀ i, i < (thereTo xs n xs.length).length → ((thereTo xs n xs.length).getD i []).length = 4 := fun i hi => by
  have ha := have_at (xs := xs) (n := n) (k := xs.length) i (by rw [← there_len]; exact hi)
  rw [ha.2.2.2.2]
  have h1 := h ((haveTo xs n xs.length).getD i 0).toNat (by omega)
  omega
theorem decAt_len {xs : List (List UInt8)} {n p} (h : Part xs) : (decAt n xs p).length = 4 := mixTo_len (there4 h) (Nat.le_refl _)
theorem decTo_len {xs : List (List UInt8)} {n} (h : Part xs) : ∀ k, (decTo n xs k).length = k * 4
  | 0 => rfl
  | k + 1 => by
    rw [← decTo_step, List.length_append, decTo_len h k]
    have := decAt_len (n := n) (p := (k : Int)) h
    rw [decAt] at this
    omega
def candH : Nat → List (List Int)
  | 1 => [[0], [1], [2]]
  | 2 => [[0, 1], [0, 2], [0, 3], [1, 2], [1, 3], [2, 3]]
  | 3 => [[0, 1, 2], [0, 1, 3], [0, 1, 4], [0, 2, 3], [0, 2, 4], [0, 3, 4], [1, 2, 3], [1, 2, 4], [1, 3, 4], [2, 3, 4]]
  | _ => []
def xorN (f : Nat → UInt8) : Nat → UInt8
  | 0 => 0
  | k + 1 => xorN f k ^^^ f k
end Go.Wk
namespace Go.Wk
open Go.Proofs Rp
set_option maxRecDepth 10000
theorem Tryz_IndexFunc_int64 {w : World} {xs : List Int} {xsA : Option Addr} {xsC : Nat} {gf : FuncId} {gL : List Value} {gF : Func} (xsS : Sees w [.slice xsA xs.length xsC] xs) {p : Int → Bool} (gH : Tryz.prog.funcs[gf]? = some gF) (gB : gF.body.isNone = false) (gN : NG gF) (gC : ∀ w1, Ext No w w1 → ∀ (i0 : Nat), i0 < xs.length → Ret Tryz.prog gf (([.int .i64 (xs.getD i0 0)] : List Value) ++ gL).toArray w1 fun v w' => Ext No w1 w' ∧ v = .bool (p (xs.getD i0 0))) : Ret Tryz.prog 328 #[.slice xsA xs.length xsC, .func (.func gf) #[] gL.toArray] w fun v w' => Ext No w w' ∧ (v = .int .i64 (firstOf p xs)) := by
 have xsL := sL xsS
 obtain ⟨xsF, xsO⟩ := xsS
 refine ret_Q (vs := [.slice xsA xs.length xsC, .func (.func gf) #[] gL.toArray]) Tryz.func328 rfl Tryz.ntmps328 rfl (fun Q hQ hN => ?_)
 have H0 := Sep.start (w := w) (F := [seen false [.slice xsA xs.length xsC] xs xsF]) (all_cons xsO (by simp))
 refine W_sr (sA rfl rfl (s_nil (W_seq (W_sr (sM rfl rfl (sV rfl (py_len tu25 rfl) (sM rfl rfl (s_nil (W_block (W_loopS (γ := Nat) H0 [(0, _), (1, _), (7, _)] ⟨rfl, rfl, rfl, trivial⟩ (fun k => [(8, .int .i64 k)]) (fun k => k ≤ xs.length ∧ (∀ i, i < k → p (xs.getD i 0) = false)) (fun k => xs.length - k) 0 ⟨rfl, trivial⟩ ⟨by omega, fun i hi => by omega⟩ (fun k w1 H1 ⟨hk, he⟩ => ?_)))))))))))
 dsimp only [lCA, lNA]
 refine W_sr (sV rfl (py_lss rfl rfl) (s_nil (W_seq (W_ifd rfl (fun c1 => ?_) (fun c1 => ?_)))))
 ·refine W_skip (W_seq (W_block (W_sr (sM rfl rfl (sA rfl rfl (s_nil (W_seq ?_)))))))
  obtain ⟨eb1, eo1, ee1, ec1⟩ := elem_int (H1.seen 0 rfl) k (by omega)
  have eI1 := elem_i64 (H1.seen 0 rfl) k (by omega)
  refine W_reg (sM rfl rfl (sM rfl rfl (sM rfl rfl (sV rfl (py_elz tu25 ts2 rfl rfl ee1 k (by omega) (by omega)) (sV rfl (py_load tu2 rfl rfl ec1) (s_call (wn rfl) rfl rfl (pc_callv (lb := gL) rfl gH gB gN rfl) (gC _ H1.ext k (by omega)) (fun v1 w2 r1 => ?_)))))))
  obtain ⟨e1, rfl⟩ := r1
  have H2 := H1.to e1
  refine s_nil (W_if rfl (fun c2 => ?_) (fun c2 => ?_))
  ·refine W_sr (sM rfl rfl (sA rfl rfl (s_nil (rT hQ Tryz.results328 rfl ?_))))
   exact ⟨H2.ext, congrArg (Value.int .i64) (firstOf_at (d := 0) (by omega) (by assumption) he).symm⟩
  ·refine W_skip (W_reg (sV rfl (py_add rfl rfl (in64 ⟨by omega, by omega⟩)) (sM rfl rfl (s_nil (⟨k + 1, ⟨rfl, rfl, rfl, rfl, trivial⟩, ⟨H2, by omega, fun i hi => ?_⟩, by dsimp only; omega⟩)))))
   by_cases e : i = k
   ·subst e
    assumption
   ·exact he i (by omega)
 ·refine W_exit (W_sr (sA rfl rfl (s_nil (rT hQ Tryz.results328 rfl ?_))))
  exact ⟨H1.ext, congrArg (Value.int .i64) (firstOf_no (d := 0) (fun i hi => he i (by omega))).symm⟩
theorem Tryz_ContainsFunc_int64 {w : World} {xs : List Int} {xsA : Option Addr} {xsC : Nat} {gf : FuncId} {gL : List Value} {gF : Func} (xsS : Sees w [.slice xsA xs.length xsC] xs) {p : Int → Bool} (gH : Tryz.prog.funcs[gf]? = some gF) (gB : gF.body.isNone = false) (gN : NG gF) (gC : ∀ w1, Ext No w w1 → ∀ (i0 : Nat), i0 < xs.length → Ret Tryz.prog gf (([.int .i64 (xs.getD i0 0)] : List Value) ++ gL).toArray w1 fun v w' => Ext No w1 w' ∧ v = .bool (p (xs.getD i0 0))) : Ret Tryz.prog 280 #[.slice xsA xs.length xsC, .func (.func gf) #[] gL.toArray] w fun v w' => Ext No w w' ∧ (v = .bool (xs.any p)) := by
 have xsL := sL xsS
 obtain ⟨xsF, xsO⟩ := xsS
 refine ret_Q (vs := [.slice xsA xs.length xsC, .func (.func gf) #[] gL.toArray]) Tryz.func280 rfl Tryz.ntmps280 rfl (fun Q hQ hN => ?_)
 have H0 := Sep.start (w := w) (F := [seen false [.slice xsA xs.length xsC] xs xsF]) (all_cons xsO (by simp))
 refine W_sr (sA rfl rfl (s_nil (W_sr (sM rfl rfl (sM rfl rfl (s_call (wn rfl) rfl rfl (pc_call Tryz.func328 rfl Tryz_nm328 rfl) (Tryz_IndexFunc_int64 (H0.sees 0 rfl) gH gB gN (fun w1 e1 => gC w1 (H0.ext.trans e1))) (fun v1 w1 r1 => ?_)))))))
 obtain ⟨e1, rfl⟩ := r1
 have H1 := H0.to e1
 refine sV rfl (py_geq rfl rfl) (sA rfl rfl (s_nil (rT hQ Tryz.results280 rfl ?_)))
 exact ⟨H1.ext, by rw [← firstOf_any]⟩
theorem Tryz_IndexFunc_Block {w : World} {xs : List Block} {xsA : Option Addr} {xsC : Nat} {gf : FuncId} {gL : List Value} {gF : Func} (xsS : Sees w [.slice xsA xs.length xsC] xs) {p : Block → Bool} (gH : Tryz.prog.funcs[gf]? = some gF) (gB : gF.body.isNone = false) (gN : NG gF) (gC : ∀ w1, Ext No w w1 → ∀ (i0 : Nat), i0 < xs.length → ∀ (A0_1 : Option Addr) (C0_1 : Nat) (_ : (xs.getD i0 default).Ok) (_ : Sees w1 [.slice A0_1 (xs.getD i0 default).Bytes.length C0_1] (xs.getD i0 default).Bytes), Ret Tryz.prog gf (([(xs.getD i0 default).val A0_1 C0_1] : List Value) ++ gL).toArray w1 fun v w' => Ext No w1 w' ∧ v = .bool (p (xs.getD i0 default))) : Ret Tryz.prog 308 #[.slice xsA xs.length xsC, .func (.func gf) #[] gL.toArray] w fun v w' => Ext No w w' ∧ (v = .int .i64 (firstOf p xs)) := by
 have xsL := sL xsS
 obtain ⟨xsF, xsO⟩ := xsS
 refine ret_Q (vs := [.slice xsA xs.length xsC, .func (.func gf) #[] gL.toArray]) Tryz.func308 rfl Tryz.ntmps308 rfl (fun Q hQ hN => ?_)
 have H0 := Sep.start (w := w) (F := [seen false [.slice xsA xs.length xsC] xs xsF]) (all_cons xsO (by simp))
 refine W_sr (sA rfl rfl (s_nil (W_seq (W_sr (sM rfl rfl (sV rfl (py_len tu178 rfl) (sM rfl rfl (s_nil (W_block (W_loopS (γ := Nat) H0 [(0, _), (1, _), (7, _)] ⟨rfl, rfl, rfl, trivial⟩ (fun k => [(8, .int .i64 k)]) (fun k => k ≤ xs.length ∧ (∀ i, i < k → p (xs.getD i default) = false)) (fun k => xs.length - k) 0 ⟨rfl, trivial⟩ ⟨by omega, fun i hi => by omega⟩ (fun k w1 H1 ⟨hk, he⟩ => ?_)))))))))))
 dsimp only [lCA, lNA]
 refine W_sr (sV rfl (py_lss rfl rfl) (s_nil (W_seq (W_ifd rfl (fun c1 => ?_) (fun c1 => ?_)))))
 ·refine W_skip (W_seq (W_block (W_sr (sM rfl rfl (sA rfl rfl (s_nil (W_seq ?_)))))))
  obtain ⟨eb1, eo1, es1, ef1, ee1, ec1, eO1, eH1, em1⟩ := elem_st (H1.seen 0 rfl) k (by omega)
  obtain ⟨ea1, ek1, eg1, rfl, eq1, eK1, eo2⟩ := own_Block eO1
  have eK1U := eK1
  unfold Block.Ok at eK1U
  try unfold I64ok at eK1U
  try unfold maxLen at eK1U
  have eP1 := H1.look1 0 rfl eo2 (fun b hb => eH1 b (by rw [eq1]; simp [hb]))
  have eL1 := oL eo2
  refine W_reg (sM rfl rfl (sM rfl rfl (sM rfl rfl (sV rfl (py_elz tu178 ts182 rfl rfl ee1 k (by omega) (by omega)) (sV rfl (py_loadS tu182 rfl ts182 rfl rfl ec1) (s_call (wn rfl) rfl rfl (pc_callv (lb := gL) rfl gH gB gN rfl) (gC _ eP1.ext k (by omega) _ _ (by assumption) (eP1.sees 1 rfl)) (fun v1 w2 r1 => ?_)))))))
  obtain ⟨e1, rfl⟩ := r1
  have H2 := eP1.to e1
  refine s_nil (W_if rfl (fun c2 => ?_) (fun c2 => ?_))
  ·refine W_sr (sM rfl rfl (sA rfl rfl (s_nil (rT hQ Tryz.results308 rfl ?_))))
   exact ⟨H2.ext, congrArg (Value.int .i64) (firstOf_at (d := default) (by omega) (by assumption) he).symm⟩
  ·refine W_skip (W_reg (sV rfl (py_add rfl rfl (in64 ⟨by omega, by omega⟩)) (sM rfl rfl (s_nil (⟨k + 1, ⟨rfl, rfl, rfl, rfl, trivial⟩, ⟨(H2.ftake 1), by omega, fun i hi => ?_⟩, by dsimp only; omega⟩)))))
   by_cases e : i = k
   ·subst e
    assumption
   ·exact he i (by omega)
 ·refine W_exit (W_sr (sA rfl rfl (s_nil (rT hQ Tryz.results308 rfl ?_))))
  exact ⟨H1.ext, congrArg (Value.int .i64) (firstOf_no (d := default) (fun i hi => he i (by omega))).symm⟩
theorem Tryz_ContainsFunc_Block {w : World} {xs : List Block} {xsA : Option Addr} {xsC : Nat} {gf : FuncId} {gL : List Value} {gF : Func} (xsS : Sees w [.slice xsA xs.length xsC] xs) {p : Block → Bool} (gH : Tryz.prog.funcs[gf]? = some gF) (gB : gF.body.isNone = false) (gN : NG gF) (gC : ∀ w1, Ext No w w1 → ∀ (i0 : Nat), i0 < xs.length → ∀ (A0_1 : Option Addr) (C0_1 : Nat) (_ : (xs.getD i0 default).Ok) (_ : Sees w1 [.slice A0_1 (xs.getD i0 default).Bytes.length C0_1] (xs.getD i0 default).Bytes), Ret Tryz.prog gf (([(xs.getD i0 default).val A0_1 C0_1] : List Value) ++ gL).toArray w1 fun v w' => Ext No w1 w' ∧ v = .bool (p (xs.getD i0 default))) : Ret Tryz.prog 240 #[.slice xsA xs.length xsC, .func (.func gf) #[] gL.toArray] w fun v w' => Ext No w w' ∧ (v = .bool (xs.any p)) := by
 have xsL := sL xsS
 obtain ⟨xsF, xsO⟩ := xsS
 refine ret_Q (vs := [.slice xsA xs.length xsC, .func (.func gf) #[] gL.toArray]) Tryz.func240 rfl Tryz.ntmps240 rfl (fun Q hQ hN => ?_)
 have H0 := Sep.start (w := w) (F := [seen false [.slice xsA xs.length xsC] xs xsF]) (all_cons xsO (by simp))
 refine W_sr (sA rfl rfl (s_nil (W_sr (sM rfl rfl (sM rfl rfl (s_call (wn rfl) rfl rfl (pc_call Tryz.func308 rfl Tryz_nm308 rfl) (Tryz_IndexFunc_Block (H0.sees 0 rfl) gH gB gN (fun w1 e1 => gC w1 (H0.ext.trans e1))) (fun v1 w1 r1 => ?_)))))))
 obtain ⟨e1, rfl⟩ := r1
 have H1 := H0.to e1
 refine sV rfl (py_geq rfl rfl) (sA rfl rfl (s_nil (rT hQ Tryz.results240 rfl ?_)))
 exact ⟨H1.ext, by rw [← firstOf_any]⟩
theorem Tryz_IndexFunc_Tape {w : World} {xs : List Tape} {xsA : Option Addr} {xsC : Nat} {gf : FuncId} {gL : List Value} {gF : Func} (xsS : Sees w [.slice xsA xs.length xsC] xs) {p : Tape → Bool} (gH : Tryz.prog.funcs[gf]? = some gF) (gB : gF.body.isNone = false) (gN : NG gF) (gC : ∀ w1, Ext No w w1 → ∀ (i0 : Nat), i0 < xs.length → ∀ (A0_1 : Option Addr) (C0_1 : Nat) (_ : (xs.getD i0 default).Ok) (_ : Sees w1 [.slice A0_1 (xs.getD i0 default).Recs.length C0_1] (xs.getD i0 default).Recs), Ret Tryz.prog gf (([(xs.getD i0 default).val A0_1 C0_1] : List Value) ++ gL).toArray w1 fun v w' => Ext No w1 w' ∧ v = .bool (p (xs.getD i0 default))) : Ret Tryz.prog 310 #[.slice xsA xs.length xsC, .func (.func gf) #[] gL.toArray] w fun v w' => Ext No w w' ∧ (v = .int .i64 (firstOf p xs)) := by
 have xsL := sL xsS
 obtain ⟨xsF, xsO⟩ := xsS
 refine ret_Q (vs := [.slice xsA xs.length xsC, .func (.func gf) #[] gL.toArray]) Tryz.func310 rfl Tryz.ntmps310 rfl (fun Q hQ hN => ?_)
 have H0 := Sep.start (w := w) (F := [seen false [.slice xsA xs.length xsC] xs xsF]) (all_cons xsO (by simp))
 refine W_sr (sA rfl rfl (s_nil (W_seq (W_sr (sM rfl rfl (sV rfl (py_len tu36 rfl) (sM rfl rfl (s_nil (W_block (W_loopS (γ := Nat) H0 [(0, _), (1, _), (7, _)] ⟨rfl, rfl, rfl, trivial⟩ (fun k => [(8, .int .i64 k)]) (fun k => k ≤ xs.length ∧ (∀ i, i < k → p (xs.getD i default) = false)) (fun k => xs.length - k) 0 ⟨rfl, trivial⟩ ⟨by omega, fun i hi => by omega⟩ (fun k w1 H1 ⟨hk, he⟩ => ?_)))))))))))
 dsimp only [lCA, lNA]
 refine W_sr (sV rfl (py_lss rfl rfl) (s_nil (W_seq (W_ifd rfl (fun c1 => ?_) (fun c1 => ?_)))))
 ·refine W_skip (W_seq (W_block (W_sr (sM rfl rfl (sA rfl rfl (s_nil (W_seq ?_)))))))
  obtain ⟨eb1, eo1, es1, ef1, ee1, ec1, eO1, eH1, em1⟩ := elem_st (H1.seen 0 rfl) k (by omega)
  obtain ⟨ea1, ek1, eg1, rfl, eq1, eK1, eo2⟩ := own_Tape eO1
  have eP1 := H1.look1 0 rfl eo2 (fun b hb => eH1 b (by rw [eq1]; simp [hb]))
  have eL1 := oL eo2
  refine W_reg (sM rfl rfl (sM rfl rfl (sM rfl rfl (sV rfl (py_elz tu36 ts139 rfl rfl ee1 k (by omega) (by omega)) (sV rfl (py_loadS tu139 rfl ts139 rfl rfl ec1) (s_call (wn rfl) rfl rfl (pc_callv (lb := gL) rfl gH gB gN rfl) (gC _ eP1.ext k (by omega) _ _ (by assumption) (eP1.sees 1 rfl)) (fun v1 w2 r1 => ?_)))))))
  obtain ⟨e1, rfl⟩ := r1
  have H2 := eP1.to e1
  refine s_nil (W_if rfl (fun c2 => ?_) (fun c2 => ?_))
  ·refine W_sr (sM rfl rfl (sA rfl rfl (s_nil (rT hQ Tryz.results310 rfl ?_))))
   exact ⟨H2.ext, congrArg (Value.int .i64) (firstOf_at (d := default) (by omega) (by assumption) he).symm⟩
  ·refine W_skip (W_reg (sV rfl (py_add rfl rfl (in64 ⟨by omega, by omega⟩)) (sM rfl rfl (s_nil (⟨k + 1, ⟨rfl, rfl, rfl, rfl, trivial⟩, ⟨(H2.ftake 1), by omega, fun i hi => ?_⟩, by dsimp only; omega⟩)))))
   by_cases e : i = k
   ·subst e
    assumption
   ·exact he i (by omega)
 ·refine W_exit (W_sr (sA rfl rfl (s_nil (rT hQ Tryz.results310 rfl ?_))))
  exact ⟨H1.ext, congrArg (Value.int .i64) (firstOf_no (d := default) (fun i hi => he i (by omega))).symm⟩
theorem Tryz_ContainsFunc_Tape {w : World} {xs : List Tape} {xsA : Option Addr} {xsC : Nat} {gf : FuncId} {gL : List Value} {gF : Func} (xsS : Sees w [.slice xsA xs.length xsC] xs) {p : Tape → Bool} (gH : Tryz.prog.funcs[gf]? = some gF) (gB : gF.body.isNone = false) (gN : NG gF) (gC : ∀ w1, Ext No w w1 → ∀ (i0 : Nat), i0 < xs.length → ∀ (A0_1 : Option Addr) (C0_1 : Nat) (_ : (xs.getD i0 default).Ok) (_ : Sees w1 [.slice A0_1 (xs.getD i0 default).Recs.length C0_1] (xs.getD i0 default).Recs), Ret Tryz.prog gf (([(xs.getD i0 default).val A0_1 C0_1] : List Value) ++ gL).toArray w1 fun v w' => Ext No w1 w' ∧ v = .bool (p (xs.getD i0 default))) : Ret Tryz.prog 244 #[.slice xsA xs.length xsC, .func (.func gf) #[] gL.toArray] w fun v w' => Ext No w w' ∧ (v = .bool (xs.any p)) := by
 have xsL := sL xsS
 obtain ⟨xsF, xsO⟩ := xsS
 refine ret_Q (vs := [.slice xsA xs.length xsC, .func (.func gf) #[] gL.toArray]) Tryz.func244 rfl Tryz.ntmps244 rfl (fun Q hQ hN => ?_)
 have H0 := Sep.start (w := w) (F := [seen false [.slice xsA xs.length xsC] xs xsF]) (all_cons xsO (by simp))
 refine W_sr (sA rfl rfl (s_nil (W_sr (sM rfl rfl (sM rfl rfl (s_call (wn rfl) rfl rfl (pc_call Tryz.func310 rfl Tryz_nm310 rfl) (Tryz_IndexFunc_Tape (H0.sees 0 rfl) gH gB gN (fun w1 e1 => gC w1 (H0.ext.trans e1))) (fun v1 w1 r1 => ?_)))))))
 obtain ⟨e1, rfl⟩ := r1
 have H1 := H0.to e1
 refine sV rfl (py_geq rfl rfl) (sA rfl rfl (s_nil (rT hQ Tryz.results244 rfl ?_)))
 exact ⟨H1.ext, by rw [← firstOf_any]⟩
theorem Tryz_IndexFunc_Rec {w : World} {xs : List Rec} {xsA : Option Addr} {xsC : Nat} {gf : FuncId} {gL : List Value} {gF : Func} (xsS : Sees w [.slice xsA xs.length xsC] xs) {p : Rec → Bool} (gH : Tryz.prog.funcs[gf]? = some gF) (gB : gF.body.isNone = false) (gN : NG gF) (gC : ∀ w1, Ext No w w1 → ∀ (i0 : Nat), i0 < xs.length → ∀ (A0_6 : Option Addr) (C0_6 : Nat) (A0_7 : Option Addr) (C0_7 : Nat) (A0_8 : Option Addr) (C0_8 : Nat) (_ : (xs.getD i0 default).Ok) (_ : Sees w1 [.slice A0_6 (xs.getD i0 default).Rows.length C0_6] (xs.getD i0 default).Rows) (_ : Sees w1 [.slice A0_7 (xs.getD i0 default).Data.length C0_7] (xs.getD i0 default).Data) (_ : Sees w1 [.slice A0_8 (xs.getD i0 default).Delta.length C0_8] (xs.getD i0 default).Delta), Ret Tryz.prog gf (([(xs.getD i0 default).val A0_6 C0_6 A0_7 C0_7 A0_8 C0_8] : List Value) ++ gL).toArray w1 fun v w' => Ext No w1 w' ∧ v = .bool (p (xs.getD i0 default))) : Ret Tryz.prog 182 #[.slice xsA xs.length xsC, .func (.func gf) #[] gL.toArray] w fun v w' => Ext No w w' ∧ (v = .int .i64 (firstOf p xs)) := by
 have xsL := sL xsS
 obtain ⟨xsF, xsO⟩ := xsS
 refine ret_Q (vs := [.slice xsA xs.length xsC, .func (.func gf) #[] gL.toArray]) Tryz.func182 rfl Tryz.ntmps182 rfl (fun Q hQ hN => ?_)
 have H0 := Sep.start (w := w) (F := [seen false [.slice xsA xs.length xsC] xs xsF]) (all_cons xsO (by simp))
 refine W_sr (sA rfl rfl (s_nil (W_seq (W_sr (sM rfl rfl (sV rfl (py_len tu30 rfl) (sM rfl rfl (s_nil (W_block (W_loopS (γ := Nat) H0 [(0, _), (1, _), (7, _)] ⟨rfl, rfl, rfl, trivial⟩ (fun k => [(8, .int .i64 k)]) (fun k => k ≤ xs.length ∧ (∀ i, i < k → p (xs.getD i default) = false)) (fun k => xs.length - k) 0 ⟨rfl, trivial⟩ ⟨by omega, fun i hi => by omega⟩ (fun k w1 H1 ⟨hk, he⟩ => ?_)))))))))))
 dsimp only [lCA, lNA]
 refine W_sr (sV rfl (py_lss rfl rfl) (s_nil (W_seq (W_ifd rfl (fun c1 => ?_) (fun c1 => ?_)))))
 ·refine W_skip (W_seq (W_block (W_sr (sM rfl rfl (sA rfl rfl (s_nil (W_seq ?_)))))))
  obtain ⟨eb1, eo1, es1, ef1, ee1, ec1, eO1, eH1, em1⟩ := elem_st (H1.seen 0 rfl) k (by omega)
  obtain ⟨ea1, ek1, ea2, ek2, ea3, ek3, eg1, eg2, eg3, rfl, eq1, eK1, eo2, eo3, eo4⟩ := own_Rec eO1
  have eK1U := eK1
  unfold Rec.Ok at eK1U
  try unfold I64ok at eK1U
  try unfold maxLen at eK1U
  have eP1 := H1.look1 0 rfl eo2 (fun b hb => eH1 b (by rw [eq1]; simp [hb]))
  have eL1 := oL eo2
  have eP2 := eP1.look1 0 rfl eo3 (fun b hb => eH1 b (by rw [eq1]; simp [hb]))
  have eL2 := oL eo3
  have eP3 := eP2.look1 0 rfl eo4 (fun b hb => eH1 b (by rw [eq1]; simp [hb]))
  have eL3 := oL eo4
  refine W_reg (sM rfl rfl (sM rfl rfl (sM rfl rfl (sV rfl (py_elz tu30 ts68 rfl rfl ee1 k (by omega) (by omega)) (sV rfl (py_loadS tu68 rfl ts68 rfl rfl ec1) (s_call (wn rfl) rfl rfl (pc_callv (lb := gL) rfl gH gB gN rfl) (gC _ eP3.ext k (by omega) _ _ _ _ _ _ (by assumption) (eP3.sees 1 rfl) (eP3.sees 2 rfl) (eP3.sees 3 rfl)) (fun v1 w2 r1 => ?_)))))))
  obtain ⟨e1, rfl⟩ := r1
  have H2 := eP3.to e1
  refine s_nil (W_if rfl (fun c2 => ?_) (fun c2 => ?_))
  ·refine W_sr (sM rfl rfl (sA rfl rfl (s_nil (rT hQ Tryz.results182 rfl ?_))))
   exact ⟨H2.ext, congrArg (Value.int .i64) (firstOf_at (d := default) (by omega) (by assumption) he).symm⟩
  ·refine W_skip (W_reg (sV rfl (py_add rfl rfl (in64 ⟨by omega, by omega⟩)) (sM rfl rfl (s_nil (⟨k + 1, ⟨rfl, rfl, rfl, rfl, trivial⟩, ⟨(H2.ftake 1), by omega, fun i hi => ?_⟩, by dsimp only; omega⟩)))))
   by_cases e : i = k
   ·subst e
    assumption
   ·exact he i (by omega)
 ·refine W_exit (W_sr (sA rfl rfl (s_nil (rT hQ Tryz.results182 rfl ?_))))
  exact ⟨H1.ext, congrArg (Value.int .i64) (firstOf_no (d := default) (fun i hi => he i (by omega))).symm⟩
theorem Tryz_ContainsFunc_Rec {w : World} {xs : List Rec} {xsA : Option Addr} {xsC : Nat} {gf : FuncId} {gL : List Value} {gF : Func} (xsS : Sees w [.slice xsA xs.length xsC] xs) {p : Rec → Bool} (gH : Tryz.prog.funcs[gf]? = some gF) (gB : gF.body.isNone = false) (gN : NG gF) (gC : ∀ w1, Ext No w w1 → ∀ (i0 : Nat), i0 < xs.length → ∀ (A0_6 : Option Addr) (C0_6 : Nat) (A0_7 : Option Addr) (C0_7 : Nat) (A0_8 : Option Addr) (C0_8 : Nat) (_ : (xs.getD i0 default).Ok) (_ : Sees w1 [.slice A0_6 (xs.getD i0 default).Rows.length C0_6] (xs.getD i0 default).Rows) (_ : Sees w1 [.slice A0_7 (xs.getD i0 default).Data.length C0_7] (xs.getD i0 default).Data) (_ : Sees w1 [.slice A0_8 (xs.getD i0 default).Delta.length C0_8] (xs.getD i0 default).Delta), Ret Tryz.prog gf (([(xs.getD i0 default).val A0_6 C0_6 A0_7 C0_7 A0_8 C0_8] : List Value) ++ gL).toArray w1 fun v w' => Ext No w1 w' ∧ v = .bool (p (xs.getD i0 default))) : Ret Tryz.prog 221 #[.slice xsA xs.length xsC, .func (.func gf) #[] gL.toArray] w fun v w' => Ext No w w' ∧ (v = .bool (xs.any p)) := by
 have xsL := sL xsS
 obtain ⟨xsF, xsO⟩ := xsS
 refine ret_Q (vs := [.slice xsA xs.length xsC, .func (.func gf) #[] gL.toArray]) Tryz.func221 rfl Tryz.ntmps221 rfl (fun Q hQ hN => ?_)
 have H0 := Sep.start (w := w) (F := [seen false [.slice xsA xs.length xsC] xs xsF]) (all_cons xsO (by simp))
 refine W_sr (sA rfl rfl (s_nil (W_sr (sM rfl rfl (sM rfl rfl (s_call (wn rfl) rfl rfl (pc_call Tryz.func182 rfl Tryz_nm182 rfl) (Tryz_IndexFunc_Rec (H0.sees 0 rfl) gH gB gN (fun w1 e1 => gC w1 (H0.ext.trans e1))) (fun v1 w1 r1 => ?_)))))))
 obtain ⟨e1, rfl⟩ := r1
 have H1 := H0.to e1
 refine sV rfl (py_geq rfl rfl) (sA rfl rfl (s_nil (rT hQ Tryz.results221 rfl ?_)))
 exact ⟨H1.ext, by rw [← firstOf_any]⟩
end Go.Wk
namespace Go.Wk
open Go.Proofs Rp
set_option maxRecDepth 10000
theorem Tryz_spec_l5Drives {w : World} {s : Shape} (hs : s.ok = true) : Ret Tryz.prog 232 #[s.v] w fun v w' => Ext No w w' ∧ (v = .int .i64 (s.Data + s.Spare)) := by
 have sbd := shape_bd hs
 refine ret_Q (vs := [s.v]) Tryz.func232 rfl Tryz.ntmps232 rfl (fun Q hQ hN => ?_)
 have H0 := Sep.start (w := w) (F := []) (by simp)
 refine W_sr (s_box (wn rfl) rfl rfl H0 (fun b1 w1 e1 g1 H1 => ?_))
 refine sA rfl rfl (s_nil (W_sr (sV rfl (py_field tu34 rfl ts2 rfl rfl) (sV rfl (py_load tu2 rfl rfl (cell_atL (H1.box 0 rfl) rfl)) (sV rfl (py_field tu34 rfl ts2 rfl rfl) (sV rfl (py_load tu2 rfl rfl (cell_atL (H1.box 0 rfl) rfl)) (sV rfl (py_add rfl rfl (in64 ⟨by omega, by omega⟩)) (sA rfl rfl (s_nil (rT hQ Tryz.results232 rfl ?_))))))))))
 exact ⟨H1.ext, rfl⟩
theorem Tryz_impl_Shape_drives {w : World} {s : Shape} (hs : s.ok = true) : Ret Tryz.prog 209 #[s.v] w fun v w' => Ext No w w' ∧ (v = .int .i64 (s.Data + s.Spare)) := by
 have sbd := shape_bd hs
 refine ret_Q (vs := [s.v]) Tryz.func209 rfl Tryz.ntmps209 rfl (fun Q hQ hN => ?_)
 have H0 := Sep.start (w := w) (F := []) (by simp)
 refine W_sr (s_box (wn rfl) rfl rfl H0 (fun b1 w1 e1 g1 H1 => ?_))
 refine sA rfl rfl (s_nil (W_sr (sV rfl (py_field tu34 rfl ts2 rfl rfl) (sV rfl (py_load tu2 rfl rfl (cell_atL (H1.box 0 rfl) rfl)) (sV rfl (py_field tu34 rfl ts2 rfl rfl) (sV rfl (py_load tu2 rfl rfl (cell_atL (H1.box 0 rfl) rfl)) (sV rfl (py_add rfl rfl (in64 ⟨by omega, by omega⟩)) (sA rfl rfl (s_nil (rT hQ Tryz.results209 rfl ?_))))))))))
 exact ⟨H1.ext, rfl⟩
theorem Tryz_spec_l4Wide {w : World} {s : Shape} (hs : s.ok = true) : Ret Tryz.prog 189 #[s.v] w fun v w' => Ext No w w' ∧ (v = .int .i64 (s.Data * 4)) := by
 have sbd := shape_bd hs
 refine ret_Q (vs := [s.v]) Tryz.func189 rfl Tryz.ntmps189 rfl (fun Q hQ hN => ?_)
 have H0 := Sep.start (w := w) (F := []) (by simp)
 refine W_sr (s_box (wn rfl) rfl rfl H0 (fun b1 w1 e1 g1 H1 => ?_))
 refine sA rfl rfl (s_nil (W_sr (sV rfl (py_field tu34 rfl ts2 rfl rfl) (sV rfl (py_load tu2 rfl rfl (cell_atL (H1.box 0 rfl) rfl)) (sV rfl (py_mul rfl rfl (in64 ⟨by omega, by omega⟩)) (sA rfl rfl (s_nil (rT hQ Tryz.results189 rfl ?_))))))))
 exact ⟨H1.ext, rfl⟩
theorem Tryz_impl_Shape_rowLength {w : World} {s : Shape} (hs : s.ok = true) : Ret Tryz.prog 203 #[s.v] w fun v w' => Ext No w w' ∧ (v = .int .i64 (s.Data * 4)) := by
 have sbd := shape_bd hs
 refine ret_Q (vs := [s.v]) Tryz.func203 rfl Tryz.ntmps203 rfl (fun Q hQ hN => ?_)
 have H0 := Sep.start (w := w) (F := []) (by simp)
 refine W_sr (s_box (wn rfl) rfl rfl H0 (fun b1 w1 e1 g1 H1 => ?_))
 refine sA rfl rfl (s_nil (W_sr (sV rfl (py_field tu34 rfl ts2 rfl rfl) (sV rfl (py_load tu2 rfl rfl (cell_atL (H1.box 0 rfl) rfl)) (sV rfl (py_mul rfl rfl (in64 ⟨by omega, by omega⟩)) (sA rfl rfl (s_nil (rT hQ Tryz.results203 rfl ?_))))))))
 exact ⟨H1.ext, rfl⟩
theorem Tryz_impl_Shape_isRow {w : World} {s : Shape} {x : Int} (hs : s.ok = true) : Ret Tryz.prog 72 #[s.v, .int .i64 x] w fun v w' => Ext No w w' ∧ (v = .bool (ins x 0 (s.Rows - 1))) := by
 have sbd := shape_bd hs
 refine ret_Q (vs := [s.v, .int .i64 x]) Tryz.func72 rfl Tryz.ntmps72 rfl (fun Q hQ hN => ?_)
 have H0 := Sep.start (w := w) (F := []) (by simp)
 refine W_sr (s_box (wn rfl) rfl rfl H0 (fun b1 w1 e1 g1 H1 => ?_))
 refine sA rfl rfl (s_nil (W_sr (sM rfl rfl (sV rfl (py_field tu34 rfl ts2 rfl rfl) (sV rfl (py_load tu2 rfl rfl (cell_atL (H1.box 0 rfl) rfl)) (sV rfl (py_sub rfl rfl (in64 ⟨by omega, by omega⟩)) (s_call (wn rfl) rfl rfl (pc_call Tryz.func147 rfl Tryz_nm147 rfl) Tryz_impl_inside (fun v1 w2 r1 => ?_))))))))
 obtain ⟨e2, rfl⟩ := r1
 have H2 := H1.to e2
 refine sA rfl rfl (s_nil (rT hQ Tryz.results72 rfl ?_))
 exact ⟨H2.ext, rfl⟩
theorem Tryz_impl_Shape_isData {w : World} {s : Shape} {x : Int} (hs : s.ok = true) : Ret Tryz.prog 120 #[s.v, .int .i64 x] w fun v w' => Ext No w w' ∧ (v = .bool (ins x 0 (s.Groups - 1))) := by
 have sbd := shape_bd hs
 refine ret_Q (vs := [s.v, .int .i64 x]) Tryz.func120 rfl Tryz.ntmps120 rfl (fun Q hQ hN => ?_)
 have H0 := Sep.start (w := w) (F := []) (by simp)
 refine W_sr (s_box (wn rfl) rfl rfl H0 (fun b1 w1 e1 g1 H1 => ?_))
 refine sA rfl rfl (s_nil (W_sr (sM rfl rfl (sV rfl (py_field tu34 rfl ts2 rfl rfl) (sV rfl (py_load tu2 rfl rfl (cell_atL (H1.box 0 rfl) rfl)) (sV rfl (py_sub rfl rfl (in64 ⟨by omega, by omega⟩)) (s_call (wn rfl) rfl rfl (pc_call Tryz.func147 rfl Tryz_nm147 rfl) Tryz_impl_inside (fun v1 w2 r1 => ?_))))))))
 obtain ⟨e2, rfl⟩ := r1
 have H2 := H1.to e2
 refine sA rfl rfl (s_nil (rT hQ Tryz.results120 rfl ?_))
 exact ⟨H2.ext, rfl⟩
theorem Tryz_impl_Shape_parts {w : World} {s : Shape} {len : Int} (hs : s.ok = true) (hL : I64ok len) : Ret Tryz.prog 278 #[s.v, .int .i64 len] w fun v w' => Ext No w w' ∧ (v = .tuple #[.int .i64 (partsN s len), .int .i64 (longOf s len)]) := by
 have sbd := shape_bd hs
 unfold I64ok at hL
 refine ret_Q (vs := [s.v, .int .i64 len]) Tryz.func278 rfl Tryz.ntmps278 rfl (fun Q hQ hN => ?_)
 have H0 := Sep.start (w := w) (F := []) (by simp)
 refine W_sr (s_box (wn rfl) rfl rfl H0 (fun b1 w1 e1 g1 H1 => ?_))
 refine sA rfl rfl (sA rfl rfl (s_nil (W_seq (W_sr (sM rfl rfl (sV rfl (py_lss rfl rfl) (s_nil (W_ifd rfl (fun c1 => ?_) (fun c1 => ?_)))))))))
 ·refine W_sr (sA rfl rfl (sA rfl rfl (s_nil (W_ret (hQ _ _ (fin2 Tryz.results278 rfl rfl ?_))))))
  obtain ⟨e1, e2⟩ := long_low (s := s) c1
  exact ⟨H1.ext, by rw [e1, e2]⟩
 ·refine W_skip (W_seq ?_)
  have hb := parts_bd (s := s) (len := len) (by omega) (by omega)
  refine W_reg (sM rfl rfl (sV rfl (py_sub rfl rfl (in64 ⟨by omega, by omega⟩)) (sV rfl (py_loadS tu34 rfl ts34 rfl rfl (At.whole (H1.box 0 rfl))) (s_call (wn rfl) rfl rfl (pc_call Tryz.func203 rfl Tryz_nm203 rfl) (Tryz_impl_Shape_rowLength (by assumption)) (fun v1 w2 r1 => ?_)))))
  obtain ⟨e2, rfl⟩ := r1
  have H2 := H1.to e2
  refine sV rfl (py_quo rfl rfl (by omega) (in64 ⟨by omega, by omega⟩)) (sV rfl (py_add rfl rfl (in64 ⟨by omega, by omega⟩)) (sA rfl rfl (s_nil (W_seq (W_sr (sM rfl rfl (sV rfl (py_gtr rfl rfl) (s_nil (W_ifd rfl (fun c2 => ?_) (fun c2 => ?_))))))))))
  ·refine W_sr (sA rfl rfl (sA rfl rfl (s_nil (W_ret (hQ _ _ (fin2 Tryz.results278 rfl rfl ?_))))))
   have hp := (parts_iff (s := s) (len := len) (by omega) (by omega)).1 (by omega)
   obtain ⟨e1, e2⟩ := long_high (s := s) c1 hp
   exact ⟨H2.ext, by rw [e1, e2]⟩
  ·refine W_skip (W_sr (sM rfl rfl (sA rfl rfl (sA rfl rfl (s_nil (W_ret (hQ _ _ (fin2 Tryz.results278 rfl rfl ?_))))))))
   have hp : ¬ 3 * (s.Data * 4) < len := fun h => absurd ((parts_iff (s := s) (len := len) (by omega) (by omega)).2 h) (by omega)
   obtain ⟨e1, e2⟩ := long_ok (s := s) c1 hp
   exact ⟨H2.ext, by rw [e1, e2]; rfl⟩
theorem Tryz_spec_l4Long {w : World} {s : Shape} {len : Int} (hs : s.ok = true) : Ret Tryz.prog 271 #[s.v, .int .i64 len] w fun v w' => Ext No w w' ∧ (v = .int .i64 (longOf s len)) := by
 have sbd := shape_bd hs
 refine ret_Q (vs := [s.v, .int .i64 len]) Tryz.func271 rfl Tryz.ntmps271 rfl (fun Q hQ hN => ?_)
 have H0 := Sep.start (w := w) (F := []) (by simp)
 refine W_sr (s_box (wn rfl) rfl rfl H0 (fun b1 w1 e1 g1 H1 => ?_))
 refine sA rfl rfl (s_nil (W_seq (W_sr (sM rfl rfl (sV rfl (py_lss rfl rfl) (s_nil (W_ifd rfl (fun c1 => ?_) (fun c1 => ?_))))))))
 ·refine W_sr (sA rfl rfl (s_nil (rT hQ Tryz.results271 rfl ?_)))
  exact ⟨H1.ext, by rw [(long_low (s := s) c1).1]⟩
 ·refine W_skip (W_seq (W_sr (sM rfl rfl (sV rfl (py_loadS tu34 rfl ts34 rfl rfl (At.whole (H1.box 0 rfl))) (s_call (wn rfl) rfl rfl (pc_call Tryz.func189 rfl Tryz_nm189 rfl) (Tryz_spec_l4Wide (by assumption)) (fun v1 w2 r1 => ?_))))))
  obtain ⟨e2, rfl⟩ := r1
  have H2 := H1.to e2
  refine sV rfl (py_mul rfl rfl (in64 ⟨by omega, by omega⟩)) (sV rfl (py_gtr rfl rfl) (s_nil (W_ifd rfl (fun c2 => ?_) (fun c2 => ?_))))
  ·refine W_sr (sA rfl rfl (s_nil (rT hQ Tryz.results271 rfl ?_)))
   exact ⟨H2.ext, by rw [(long_high (s := s) c1 (by omega)).1]⟩
  ·refine W_skip (W_sr (sA rfl rfl (s_nil (rT hQ Tryz.results271 rfl ?_))))
   exact ⟨H2.ext, by rw [(long_ok (s := s) c1 (by omega)).1]⟩
theorem Tryz_spec_l4Parts {w : World} {s : Shape} {len : Int} (hs : s.ok = true) (hL : 1 ≤ len ∧ len ≤ 1000) : Ret Tryz.prog 272 #[s.v, .int .i64 len] w fun v w' => Ext No w w' ∧ (v = .int .i64 (partsOf s len)) := by
 have sbd := shape_bd hs
 have hb := parts_bd (s := s) (len := len) (by omega) (by omega)
 have hq : (len + s.Data * 4 - 1).tdiv (s.Data * 4) = partsOf s len := parts_two (by omega) (by omega)
 unfold partsOf at hq
 refine ret_Q (vs := [s.v, .int .i64 len]) Tryz.func272 rfl Tryz.ntmps272 rfl (fun Q hQ hN => ?_)
 have H0 := Sep.start (w := w) (F := []) (by simp)
 refine W_sr (s_box (wn rfl) rfl rfl H0 (fun b1 w1 e1 g1 H1 => ?_))
 refine sA rfl rfl (s_nil (W_seq (W_drw (S := Ext No _) [(0, true), (1, true), (5, true), (2, false), (3, true), (4, true), (6, false), (7, true), (8, false)] (by kernel_rfl) (by kernel_rfl) (by kernel_rfl) rfl (fun _ => Ext.refl.drawn _) (fun q1 => ?_))))
 have H2 := H1.drawn q1
 refine dM rfl rfl rfl (dV rfl rfl (fun zw hx => py_loadS tu34 rfl ts34 rfl rfl (At.whole (hx.heap (H2.box 0 rfl)))) (dV rfl rfl (fun zw hx => py_loadS tu34 rfl ts34 rfl rfl (At.whole (hx.heap (H2.box 0 rfl)))) (d_call rfl (wn rfl) rfl rfl (pc_call Tryz.func189 rfl Tryz_nm189 rfl) (Tryz_spec_l4Wide (by assumption)) (fun hS _ _ r _ => hS.trans r.1.no) (fun v1 w2 r1 => ?_))))
 obtain ⟨e2, rfl⟩ := r1
 have H3 := H2.to e2
 refine dV rfl rfl (fun zw hx => py_add rfl rfl (in64 ⟨by omega, by omega⟩)) (dV rfl rfl (fun zw hx => py_sub rfl rfl (in64 ⟨by omega, by omega⟩)) (d_call rfl (wn rfl) rfl rfl (pc_call Tryz.func189 rfl Tryz_nm189 rfl) (Tryz_spec_l4Wide (by assumption)) (fun hS _ _ r _ => hS.trans r.1.no) (fun v2 w3 r2 => ?_)))
 obtain ⟨e3, rfl⟩ := r2
 have H4 := H3.to e3
 refine dV rfl rfl (fun zw hx => py_quo rfl rfl (by omega) (in64 ⟨by omega, by omega⟩)) (d_end rfl (wn rfl) rfl rfl (py_assign rfl) (d_nil (rT hQ Tryz.results272 rfl ?_)))
 exact ⟨H4.ext, by rw [parts_two (by omega) (by omega)]⟩
theorem Tryz_size_ListDrive {w : World} {xs : List (List Drive)} {xsA : Option Addr} {xsC : Nat} (xsS : Sees w [.slice xsA xs.length xsC] xs) : Ret Tryz.prog 237 #[.slice xsA xs.length xsC] w fun v w' => Ext No w w' ∧ (v = .int .i64 xs.length) := by
 have xsL := sL xsS
 obtain ⟨xsF, xsO⟩ := xsS
 refine ret_Q (vs := [.slice xsA xs.length xsC]) Tryz.func237 rfl Tryz.ntmps237 rfl (fun Q hQ hN => ?_)
 have H0 := Sep.start (w := w) (F := [seen false [.slice xsA xs.length xsC] xs xsF]) (all_cons xsO (by simp))
 refine W_sr (sA rfl rfl (s_nil (W_sr (sM rfl rfl (sV rfl (py_len tu35 rfl) (sA rfl rfl (s_nil (rT hQ Tryz.results237 rfl ?_))))))))
 exact ⟨H0.ext, rfl⟩
theorem Tryz_size_Drive {w : World} {xs : List Drive} {xsA : Option Addr} {xsC : Nat} (xsS : Sees w [.slice xsA xs.length xsC] xs) : Ret Tryz.prog 238 #[.slice xsA xs.length xsC] w fun v w' => Ext No w w' ∧ (v = .int .i64 xs.length) := by
 have xsL := sL xsS
 obtain ⟨xsF, xsO⟩ := xsS
 refine ret_Q (vs := [.slice xsA xs.length xsC]) Tryz.func238 rfl Tryz.ntmps238 rfl (fun Q hQ hN => ?_)
 have H0 := Sep.start (w := w) (F := [seen false [.slice xsA xs.length xsC] xs xsF]) (all_cons xsO (by simp))
 refine W_sr (sA rfl rfl (s_nil (W_sr (sM rfl rfl (sV rfl (py_len tu142 rfl) (sA rfl rfl (s_nil (rT hQ Tryz.results238 rfl ?_))))))))
 exact ⟨H0.ext, rfl⟩
theorem Tryz_size_Block {w : World} {xs : List Block} {xsA : Option Addr} {xsC : Nat} (xsS : Sees w [.slice xsA xs.length xsC] xs) : Ret Tryz.prog 239 #[.slice xsA xs.length xsC] w fun v w' => Ext No w w' ∧ (v = .int .i64 xs.length) := by
 have xsL := sL xsS
 obtain ⟨xsF, xsO⟩ := xsS
 refine ret_Q (vs := [.slice xsA xs.length xsC]) Tryz.func239 rfl Tryz.ntmps239 rfl (fun Q hQ hN => ?_)
 have H0 := Sep.start (w := w) (F := [seen false [.slice xsA xs.length xsC] xs xsF]) (all_cons xsO (by simp))
 refine W_sr (sA rfl rfl (s_nil (W_sr (sM rfl rfl (sV rfl (py_len tu178 rfl) (sA rfl rfl (s_nil (rT hQ Tryz.results239 rfl ?_))))))))
 exact ⟨H0.ext, rfl⟩
theorem Tryz_size_byte {w : World} {xs : List UInt8} {xsA : Option Addr} {xsC : Nat} (xsS : Sees w [.slice xsA xs.length xsC] xs) : Ret Tryz.prog 202 #[.slice xsA xs.length xsC] w fun v w' => Ext No w w' ∧ (v = .int .i64 xs.length) := by
 have xsL := sL xsS
 obtain ⟨xsF, xsO⟩ := xsS
 refine ret_Q (vs := [.slice xsA xs.length xsC]) Tryz.func202 rfl Tryz.ntmps202 rfl (fun Q hQ hN => ?_)
 have H0 := Sep.start (w := w) (F := [seen false [.slice xsA xs.length xsC] xs xsF]) (all_cons xsO (by simp))
 refine W_sr (sA rfl rfl (s_nil (W_sr (sM rfl rfl (sV rfl (py_len tu45 rfl) (sA rfl rfl (s_nil (rT hQ Tryz.results202 rfl ?_))))))))
 exact ⟨H0.ext, rfl⟩
theorem Tryz_size_int64 {w : World} {xs : List Int} {xsA : Option Addr} {xsC : Nat} (xsS : Sees w [.slice xsA xs.length xsC] xs) : Ret Tryz.prog 173 #[.slice xsA xs.length xsC] w fun v w' => Ext No w w' ∧ (v = .int .i64 xs.length) := by
 have xsL := sL xsS
 obtain ⟨xsF, xsO⟩ := xsS
 refine ret_Q (vs := [.slice xsA xs.length xsC]) Tryz.func173 rfl Tryz.ntmps173 rfl (fun Q hQ hN => ?_)
 have H0 := Sep.start (w := w) (F := [seen false [.slice xsA xs.length xsC] xs xsF]) (all_cons xsO (by simp))
 refine W_sr (sA rfl rfl (s_nil (W_sr (sM rfl rfl (sV rfl (py_len tu25 rfl) (sA rfl rfl (s_nil (rT hQ Tryz.results173 rfl ?_))))))))
 exact ⟨H0.ext, rfl⟩
theorem Tryz_bytesEq {w : World} {xs ys : List UInt8} {xsA ysA : Option Addr} {xsC ysC : Nat} (xsS : Sees w [.slice xsA xs.length xsC] xs) (ysS : Sees w [.slice ysA ys.length ysC] ys) : Ret Tryz.prog 181 #[.slice xsA xs.length xsC, .slice ysA ys.length ysC] w fun v w' => Ext No w w' ∧ (v = .bool (decide (xs = ys))) := by
 have xsL := sL xsS
 obtain ⟨xsF, xsO⟩ := xsS
 have ysL := sL ysS
 obtain ⟨ysF, ysO⟩ := ysS
 refine ret_Q (vs := [.slice xsA xs.length xsC, .slice ysA ys.length ysC]) Tryz.func181 rfl Tryz.ntmps181 rfl (fun Q hQ hN => ?_)
 have H0 := Sep.start (w := w) (F := [seen false [.slice xsA xs.length xsC] xs xsF, seen false [.slice ysA ys.length ysC] ys ysF]) (all_cons xsO (all_cons ysO (by simp)))
 refine W_sr (sA rfl rfl (s_nil (W_sr (sM rfl rfl (sV rfl (py_b2s tu45 tu5 tu9 rfl (H0.seen 0 rfl)) (sM rfl rfl (sV rfl (py_b2s tu45 tu5 tu9 rfl (H0.seen 1 rfl)) (sV rfl (py_seql rfl rfl) (sA rfl rfl (s_nil (rT hQ Tryz.results181 rfl ?_)))))))))))
 exact ⟨H0.ext, by simp [str_beq, strB_inj]⟩
theorem Tryz_slices_Equal_int64_int64 {w : World} {xs ys : List Int} {xsA ysA : Option Addr} {xsC ysC : Nat} (xsS : Sees w [.slice xsA xs.length xsC] xs) (ysS : Sees w [.slice ysA ys.length ysC] ys) : Ret Tryz.prog 282 #[.slice xsA xs.length xsC, .slice ysA ys.length ysC] w fun v w' => Ext No w w' ∧ (v = .bool (decide (xs = ys))) := by
 have xsL := sL xsS
 obtain ⟨xsF, xsO⟩ := xsS
 have ysL := sL ysS
 obtain ⟨ysF, ysO⟩ := ysS
 refine ret_Q (vs := [.slice xsA xs.length xsC, .slice ysA ys.length ysC]) Tryz.func282 rfl Tryz.ntmps282 rfl (fun Q hQ hN => ?_)
 have H0 := Sep.start (w := w) (F := [seen false [.slice xsA xs.length xsC] xs xsF, seen false [.slice ysA ys.length ysC] ys ysF]) (all_cons xsO (all_cons ysO (by simp)))
 refine W_sr (sA rfl rfl (s_nil (W_seq (W_sr (sM rfl rfl (sV rfl (py_len tu25 rfl) (sM rfl rfl (sV rfl (py_len tu25 rfl) (sV rfl (py_neq rfl rfl) (s_nil (W_ifd rfl (fun c1 => ?_) (fun c1 => ?_))))))))))))
 ·refine W_sr (sA rfl rfl (s_nil (rT hQ Tryz.results282 rfl (⟨H0.ext, ?_⟩))))
  rw [decide_eq_false (fun e => by subst e; exact c1 rfl)]
 ·refine W_skip (W_seq (W_sr (sM rfl rfl (sV rfl (py_len tu25 rfl) (sM rfl rfl (s_nil (W_block (W_loopS (γ := Nat) H0 [(0, _), (1, _), (12, _)] ⟨rfl, rfl, rfl, trivial⟩ (fun k => [(13, .int .i64 k)]) (fun k => k ≤ xs.length ∧ (∀ i, i < k → xs.getD i 0 = ys.getD i 0)) (fun k => xs.length - k) 0 ⟨rfl, trivial⟩ ⟨by omega, fun i hi => by omega⟩ (fun k w1 H1 ⟨hk, he⟩ => ?_)))))))))
  dsimp only [lCA, lNA]
  refine W_sr (sV rfl (py_lss rfl rfl) (s_nil (W_seq (W_ifd rfl (fun c2 => ?_) (fun c2 => ?_)))))
  ·refine W_skip (W_seq (W_block (W_sr (sM rfl rfl (sA rfl rfl (s_nil (W_seq ?_)))))))
   obtain ⟨eb1, eo1, ee1, ec1⟩ := elem_int (H1.seen 0 rfl) k (by omega)
   have eI1 := elem_i64 (H1.seen 0 rfl) k (by omega)
   obtain ⟨eb2, eo2, ee2, ec2⟩ := elem_int (H1.seen 1 rfl) k (by omega)
   have eI2 := elem_i64 (H1.seen 1 rfl) k (by omega)
   refine W_drw (S := Ext No _) [(0, true), (1, true), (2, true), (3, true), (4, true), (5, true), (6, true), (7, true), (8, false)] (by kernel_rfl) (by kernel_rfl) (by kernel_rfl) rfl (fun _ => Ext.refl.drawn _) (fun q1 => ?_)
   have H2 := H1.drawn q1
   refine dM rfl rfl rfl (dM rfl rfl rfl (dV rfl rfl (fun zw hx => py_elz tu25 ts2 rfl rfl ee1 k (by omega) (by omega)) (dV rfl rfl (fun zw hx => py_load tu2 rfl rfl (hx.cell ec1)) (dM rfl rfl rfl (dM rfl rfl rfl (dV rfl rfl (fun zw hx => py_elz tu25 ts2 rfl rfl ee2 k (by omega) (by omega)) (dV rfl rfl (fun zw hx => py_load tu2 rfl rfl (hx.cell ec2)) (d_end rfl (wn rfl) rfl rfl (py_neq rfl rfl) (d_nil (W_ifd rfl (fun c3 => ?_) (fun c3 => ?_)))))))))))
   ·refine W_sr (sA rfl rfl (s_nil (rT hQ Tryz.results282 rfl (⟨H2.ext, ?_⟩))))
    rw [decide_eq_false (fun e => by subst e; exact c3 rfl)]
   ·refine W_skip (W_reg (sV rfl (py_add rfl rfl (in64 ⟨by omega, by omega⟩)) (sM rfl rfl (s_nil (⟨k + 1, ⟨rfl, rfl, rfl, rfl, trivial⟩, ⟨H2, by omega, fun i hi => ?_⟩, by dsimp only; omega⟩)))))
    by_cases e : i = k
    ·subst e
     simpa using c3
    ·exact he i (by omega)
  ·refine W_exit (W_sr (sA rfl rfl (s_nil (rT hQ Tryz.results282 rfl (⟨H1.ext, ?_⟩)))))
   rw [decide_eq_true (getD_ext (d := 0) (by omega) fun i hi => he i (by omega))]
theorem Tryz_impl_itemFault {w : World} {s : Shape} {r : Rec} {rA6 rA7 rA8 : Option Addr} {rC6 rC7 rC8 : Nat} (rK : r.Ok) (rS6 : Sees w [.slice rA6 r.Rows.length rC6] r.Rows) (rS7 : Sees w [.slice rA7 r.Data.length rC7] r.Data) (rS8 : Sees w [.slice rA8 r.Delta.length rC8] r.Delta) (hs : s.ok = true) : Ret Tryz.prog 200 #[s.v, r.val rA6 rC6 rA7 rC7 rA8 rC8] w fun v w' => Ext No w w' ∧ (v = .int .i64 (itemF s r)) := by
 have rK2 := rK
 unfold Rec.Ok at rK2
 try unfold I64ok at rK2
 try unfold maxLen at rK2
 have rN2 : r.Name.size ≤ maxLen := by unfold maxLen; omega
 have rL6 := sL rS6
 obtain ⟨rF6, rO6⟩ := rS6
 have rL7 := sL rS7
 obtain ⟨rF7, rO7⟩ := rS7
 have rL8 := sL rS8
 obtain ⟨rF8, rO8⟩ := rS8
 have sbd := shape_bd hs
 refine ret_Q (vs := [s.v, r.val rA6 rC6 rA7 rC7 rA8 rC8]) Tryz.func200 rfl Tryz.ntmps200 rfl (fun Q hQ hN => ?_)
 have H0 := Sep.start (w := w) (F := [seen false [.slice rA6 r.Rows.length rC6] r.Rows rF6, seen false [.slice rA7 r.Data.length rC7] r.Data rF7, seen false [.slice rA8 r.Delta.length rC8] r.Delta rF8]) (all_cons rO6 (all_cons rO7 (all_cons rO8 (by simp))))
 refine W_sr (s_box (wn rfl) rfl rfl H0 (fun b1 w1 e1 g1 H1 => ?_))
 refine s_box (wn rfl) rfl rfl H1 (fun b2 w2 e2 g2 H2 => ?_)
 refine sA rfl rfl (s_nil (W_seq (W_sr (sV rfl (py_field tu68 rfl ts9 rfl rfl) (sV rfl (py_load tu9 rfl rfl (cell_atL (H2.box 1 rfl) rfl)) (s_call (wn rfl) rfl rfl (pc_call Tryz.func277 rfl Tryz_nm277 rfl) (Tryz_impl_NameFault (by assumption)) (fun v1 w3 r1 => ?_)))))))
 obtain ⟨e3, rfl⟩ := r1
 have H3 := H2.to e3
 refine sA rfl rfl (s_nil (W_sr (sM rfl rfl (sV rfl (py_neq rfl rfl) (s_nil (W_ifd rfl (fun c1 => ?_) (fun c1 => ?_)))))))
 ·refine W_sr (sM rfl rfl (sA rfl rfl (s_nil (rT hQ Tryz.results200 rfl ?_))))
  exact ⟨H3.ext, congrArg (Value.int .i64) (itemF_name (by omega)).symm⟩
 ·refine W_skip (W_seq (W_sr (sV rfl (py_field tu68 rfl ts2 rfl rfl) (sV rfl (py_load tu2 rfl rfl (cell_atL (H3.box 1 rfl) rfl)) (sV rfl (py_eql rfl rfl) (s_nil (W_ifd rfl (fun c2 => ?_) (fun c2 => ?_))))))))
  ·refine W_seq (W_sr (sV rfl (py_field tu68 rfl ts45 rfl rfl) (sV rfl (py_load tu45 rfl rfl (cell_atL (H3.box 1 rfl) rfl)) (sV rfl (py_len tu45 rfl) (sV rfl (py_gtr rfl rfl) (sM rfl rfl (s_grp 4 (j := 4) (want := false) (t := 29) rfl rfl rfl rfl (fun hg1 kk1 => s_val (wgE rfl rfl rfl hg1) rfl rfl (py_field tu68 rfl ts25 rfl rfl) (s_val (wgE rfl rfl rfl hg1) rfl rfl (py_load tu25 rfl rfl (cell_atL (H3.box 1 rfl) rfl)) (s_val (wgE rfl rfl rfl hg1) rfl rfl (py_len tu25 rfl) (s_val (wgE rfl rfl rfl hg1) rfl rfl (py_gtr rfl rfl) (kk1 _ _ (kx rfl (kx rfl (kx rfl (kx rfl k0)))) rfl Ext.refl))))) (fun w4 e4 => ?_))))))))
   have H4 := H3.to e4
   refine sV rfl (py_bor rfl rfl) (s_nil (W_if rfl (fun c3 => ?_) (fun c3 => ?_)))
   ·refine W_sr (sA rfl rfl (s_nil (rT hQ Tryz.results200 rfl ?_)))
    exact ⟨H4.ext, congrArg (Value.int .i64) (itemF_bad (by omega) (by rw [item_del (by omega)]; by_cases hd : r.Data = [] <;> by_cases he : r.Rows = [] <;> simp_all)).symm⟩
   ·refine W_skip (W_sr (sA rfl rfl (s_nil (rT hQ Tryz.results200 rfl ?_))))
    exact ⟨H4.ext, congrArg (Value.int .i64) (itemF_ok (by omega) (by rw [item_del (by omega)]; by_cases hd : r.Data = [] <;> by_cases he : r.Rows = [] <;> simp_all)).symm⟩
  ·refine W_skip (W_sr (sV rfl (py_loadS tu34 rfl ts34 rfl rfl (At.whole (H3.box 0 rfl))) (sV rfl (py_field tu68 rfl ts2 rfl rfl) (sV rfl (py_load tu2 rfl rfl (cell_atL (H3.box 1 rfl) rfl)) (s_call (wn rfl) rfl rfl (pc_call Tryz.func278 rfl Tryz_nm278 rfl) (Tryz_impl_Shape_parts (by assumption) (by unfold I64ok; omega)) (fun v2 w5 r2 => ?_))))))
   obtain ⟨e5, rfl⟩ := r2
   have H5 := H3.to e5
   refine sM rfl rfl (sV rfl (py_extr rfl rfl) (sV rfl (py_extr rfl rfl) (sA rfl rfl (sA rfl rfl (s_nil (W_seq (W_sr (sM rfl rfl (sV rfl (py_neq rfl rfl) (s_nil (W_ifd rfl (fun c4 => ?_) (fun c4 => ?_))))))))))))
   ·refine W_sr (sA rfl rfl (s_nil (rT hQ Tryz.results200 rfl ?_)))
    exact ⟨H5.ext, congrArg (Value.int .i64) (itemF_bad (by omega) (item_long (by omega) (by omega))).symm⟩
   ·refine W_skip (W_seq (W_drw (S := Ext No _) [(0, true), (1, true), (3, true), (4, true), (2, false), (5, true), (6, true), (7, true), (8, true), (9, true), (10, true), (11, true), (12, false)] (by kernel_rfl) (by kernel_rfl) (by kernel_rfl) rfl (fun _ => Ext.refl.drawn _) (fun q1 => ?_)))
    have H6 := H5.drawn q1
    refine dV rfl rfl (fun zw hx => py_field tu68 rfl ts45 rfl rfl) (dV rfl rfl (fun zw hx => py_load tu45 rfl rfl (cell_atL (hx.heap (H6.box 1 rfl)) rfl)) (dV rfl rfl (fun zw hx => py_field tu68 rfl ts2 rfl rfl) (dV rfl rfl (fun zw hx => py_load tu2 rfl rfl (cell_atL (hx.heap (H6.box 1 rfl)) rfl)) (d_call rfl (wn rfl) rfl rfl (pc_call Tryz.func202 rfl Tryz_nm202 rfl) (Tryz_size_byte (H6.sees 1 rfl)) (fun hS _ _ r _ => hS.trans r.1.no) (fun v3 w6 r3 => ?_)))))
    obtain ⟨e6, rfl⟩ := r3
    have H7 := H6.to e6
    refine dV rfl rfl (fun zw hx => py_eql rfl rfl) (dM rfl rfl rfl (d_case (t := 46) rfl (fun hg2 => ?_) (fun hg2 => ?_)))
    ·try simp only [decide_eq_true_eq, decide_eq_false_iff_not] at hg2
     refine d_val rfl (wg rfl rfl rfl) rfl rfl (fun zw hx => py_field tu68 rfl ts25 rfl rfl) (d_val rfl (wg rfl rfl rfl) rfl rfl (fun zw hx => py_load tu25 rfl rfl (cell_atL (hx.heap (H6.box 1 rfl)) rfl)) (d_val rfl (wg rfl rfl rfl) rfl rfl (fun zw hx => py_len tu25 rfl) (d_val rfl (wg rfl rfl rfl) rfl rfl (fun zw hx => py_eql rfl rfl) (dV rfl rfl (fun zw hx => py_pickT rfl rfl) (d_end rfl (wn rfl) rfl rfl (py_assign rfl) (d_nil (W_sr (sV rfl (py_field tu68 rfl ts45 rfl rfl) (sV rfl (py_load tu45 rfl rfl (cell_atL (H7.box 1 rfl) rfl)) (sV rfl (py_len tu45 rfl) (sV rfl (py_eql rfl rfl) (sM rfl rfl (s_grp 5 (j := 4) (want := true) (t := 61) rfl rfl rfl rfl (fun hg3 kk2 => s_val (wgE rfl rfl rfl hg3) rfl rfl (py_field tu68 rfl ts25 rfl rfl) (s_val (wgE rfl rfl rfl hg3) rfl rfl (py_load tu25 rfl rfl (cell_atL (H7.box 1 rfl) rfl)) (s_callv (wgE rfl rfl rfl hg3) rfl rfl (pc_call Tryz.func173 rfl Tryz_nm173 rfl) (Tryz_size_int64 (H7.sees 0 rfl)) (fun w8 e8 => s_val (wgE rfl rfl rfl hg3) rfl rfl (py_move rfl) (s_val (wgE rfl rfl rfl hg3) rfl rfl (py_eql rfl rfl) (kk2 _ _ (kx rfl (kx rfl (kx rfl (kx rfl (kx rfl k0))))) rfl (Ext.refl.trans e8))))))) (fun w7 e7 => ?_))))))))))))))
     have H8 := H7.to e7
     refine sV rfl (py_band rfl rfl) (sA rfl rfl (s_nil (W_seq (W_sr (sV rfl (py_field tu68 rfl ts25 rfl rfl) (sV rfl (py_load tu25 rfl rfl (cell_atL (H8.box 1 rfl) rfl)) (sV rfl (py_len tu25 rfl) (sM rfl rfl (s_nil (W_block (W_loopS (γ := Nat) H8 [(2, _), (3, _), (4, _), (8, _), (64, _), (65, _)] ⟨rfl, rfl, rfl, rfl, rfl, rfl, trivial⟩ (fun k => [(9, .bool (decide ((r.Data.length : Int) = 0) && decide ((r.Rows.length : Int) = partsOf s r.Length) && (List.range k).all (apartAt r.Rows (s.Rows - 1)))), (66, .int .i64 k)]) (fun k => k ≤ r.Rows.length ∧ True) (fun k => r.Rows.length - k) 0 ⟨eqB (by simp [partsN_ok (show longOf s r.Length = 0 by omega)]), rfl, trivial⟩ ⟨by omega, trivial⟩ (fun k w9 H9 ⟨hk, _⟩ => ?_))))))))))))
     dsimp only [lCA, lNA]
     refine W_sr (sV rfl (py_lss rfl rfl) (s_nil (W_seq (W_ifd rfl (fun c5 => ?_) (fun c5 => ?_)))))
     ·refine W_skip (W_seq (W_block (W_seq ?_)))
      obtain ⟨eb1, eo1, ee1, ec1⟩ := elem_int (H9.seen 0 rfl) k (by omega)
      have eI1 := elem_i64 (H9.seen 0 rfl) k (by omega)
      refine W_reg (sM rfl rfl (sV rfl (py_elz tu25 ts2 rfl rfl ee1 k (by omega) (by omega)) (sV rfl (py_load tu2 rfl rfl ec1) (sA rfl rfl (sA rfl rfl (s_nil (W_reg (sM rfl rfl (sM rfl rfl (s_case (t := 72) rfl (fun hg4 => ?_) (fun hg4 => ?_)))))))))))
      ·try simp only [decide_eq_true_eq, decide_eq_false_iff_not] at hg4
       refine s_val (wg rfl rfl rfl) rfl rfl (py_loadS tu34 rfl ts34 rfl rfl (At.whole (H9.box 0 rfl))) (s_val (wg rfl rfl rfl) rfl rfl (py_move rfl) (s_call (wg rfl rfl rfl) rfl rfl (pc_call Tryz.func72 rfl Tryz_nm72 rfl) (Tryz_impl_Shape_isRow (by assumption)) (fun v4 w10 r4 => ?_)))
       obtain ⟨e9, rfl⟩ := r4
       have H10 := H9.to e9
       refine sV rfl (py_pickT rfl rfl) (sM rfl rfl (s_case (t := 77) rfl (fun hg5 => ?_) (fun hg5 => ?_)))
       ·try simp only [decide_eq_true_eq, decide_eq_false_iff_not] at hg5
        refine s_val (wg rfl rfl rfl) rfl rfl (py_field tu68 rfl ts25 rfl rfl) (s_val (wg rfl rfl rfl) rfl rfl (py_load tu25 rfl rfl (cell_atL (H10.box 1 rfl) rfl)) (s_val (wg rfl rfl rfl) rfl rfl (py_move rfl) ?_))
        have sc1 := own_le_cap (H10.seen 0 rfl)
        obtain ⟨sf1, so1, ss1⟩ := own_cutL (H10.seen 0 rfl) (0) (k) _ (by omega) (by omega) (by omega) (Nat.le_refl _)
        have H11 := H10.look1 0 rfl so1 ss1
        have sl1 := cut_len (xs := r.Rows) (l := 0) (h := k) (by omega)
        refine s_val (wg rfl rfl rfl) rfl rfl (py_slcHN tu25 ts2 rfl rfl (k) (by omega) (by omega) sl1) ((s_val (wg rfl rfl rfl) rfl rfl (py_move rfl) (s_call (wg rfl rfl rfl) rfl rfl (pc_call Tryz.func243 rfl Tryz_nm243 rfl) (Tryz_slices_Contains_int64_int64 (H11.sees 3 rfl)) (fun v5 w11 r5 => ?_))))
        obtain ⟨e10, rfl⟩ := r5
        have H12 := H11.to e10
        refine s_val (wg rfl rfl rfl) rfl rfl (py_not rfl) (sV rfl (py_pickT rfl rfl) (sA rfl rfl (s_nil (W_reg (sV rfl (py_add rfl rfl (in64 ⟨by omega, by omega⟩)) (sM rfl rfl (s_nil (⟨k + 1, ⟨eqB (by simp only [all_step, apartAt, cut_take, ← Bool.and_assoc, hg4, hg5, Bool.true_and, Bool.false_and]), rfl, rfl, rfl, rfl, rfl, rfl, rfl, trivial⟩, ⟨(H12.ftake 3), by omega, trivial⟩, by dsimp only; omega⟩))))))))
       ·try simp only [decide_eq_true_eq, decide_eq_false_iff_not] at hg5
        refine sKf rfl rfl rfl (sKf rfl rfl rfl (sKf rfl rfl rfl (sKf rfl rfl rfl (sKf rfl rfl rfl (sKf rfl rfl rfl (sKf rfl rfl rfl (sV rfl (py_pickF rfl rfl) (sA rfl rfl (s_nil (W_reg (sV rfl (py_add rfl rfl (in64 ⟨by omega, by omega⟩)) (sM rfl rfl (s_nil (⟨k + 1, ⟨eqB (by simp only [all_step, apartAt, cut_take, ← Bool.and_assoc, hg4, hg5, Bool.true_and, Bool.false_and]), rfl, rfl, rfl, rfl, rfl, rfl, rfl, trivial⟩, ⟨H10, by omega, trivial⟩, by dsimp only; omega⟩))))))))))))))
      ·try simp only [decide_eq_true_eq, decide_eq_false_iff_not] at hg4
       refine sKf rfl rfl rfl (sKf rfl rfl rfl (sKf rfl rfl rfl (sV rfl (py_pickF rfl rfl) (sM rfl rfl (sKf rfl rfl rfl (sKf rfl rfl rfl (sKf rfl rfl rfl (sKf rfl rfl rfl (sKf rfl rfl rfl (sKf rfl rfl rfl (sKf rfl rfl rfl (sV rfl (py_pickF rfl rfl) (sA rfl rfl (s_nil (W_reg (sV rfl (py_add rfl rfl (in64 ⟨by omega, by omega⟩)) (sM rfl rfl (s_nil (⟨k + 1, ⟨eqB (by simp only [all_step, apartAt, cut_take, ← Bool.and_assoc, hg4, Bool.true_and, Bool.false_and]), rfl, rfl, rfl, rfl, rfl, rfl, rfl, trivial⟩, ⟨H9, by omega, trivial⟩, by dsimp only; omega⟩)))))))))))))))))))
     ·refine W_exit (W_seq (W_seq ?_))
      obtain rfl : k = r.Rows.length := by omega
      have io := item_ok (s := s) (r := r) (by omega) (by omega) (decide_eq_true hg2).symm rfl rfl rfl
      simp only [Bool.true_and, Bool.false_and, Bool.false_or] at io
      refine W_reg (sM rfl rfl (sV rfl (py_notd rfl) (sM rfl rfl (s_grp 2 (j := 2) (want := true) (t := 91) rfl rfl rfl rfl (fun hg6 kk3 => s_val (wgE rfl rfl rfl hg6) rfl rfl (py_move rfl) (s_val (wgE rfl rfl rfl hg6) rfl rfl (py_not rfl) (kk3 _ _ (kx rfl (kx rfl k0)) rfl Ext.refl))) (fun w12 e11 => ?_)))))
      have H13 := H9.to e11
      refine sV rfl (py_band rfl rfl) (s_nil (W_if rfl (fun c6 => ?_) (fun c6 => ?_)))
      ·refine W_sr (sA rfl rfl (s_nil (rT hQ Tryz.results200 rfl ?_)))
       exact ⟨H13.ext, congrArg (Value.int .i64) (itemF_bad (by omega) (by rw [← io]; exact not_true (by rw [Bool.not_or, ← decide_not]; exact c6))).symm⟩
      ·refine W_skip (W_sr (sA rfl rfl (s_nil (rT hQ Tryz.results200 rfl ?_))))
       exact ⟨H13.ext, congrArg (Value.int .i64) (itemF_ok (by omega) (by rw [← io]; exact not_false (by rw [Bool.not_or, ← decide_not]; exact c6))).symm⟩
    ·try simp only [decide_eq_true_eq, decide_eq_false_iff_not] at hg2
     refine dKf rfl rfl rfl rfl (dKf rfl rfl rfl rfl (dKf rfl rfl rfl rfl (dKf rfl rfl rfl rfl (dV rfl rfl (fun zw hx => py_pickF rfl rfl) (d_end rfl (wn rfl) rfl rfl (py_assign rfl) (d_nil (W_sr (sV rfl (py_field tu68 rfl ts45 rfl rfl) (sV rfl (py_load tu45 rfl rfl (cell_atL (H7.box 1 rfl) rfl)) (sV rfl (py_len tu45 rfl) (sV rfl (py_eql rfl rfl) (sM rfl rfl (s_grp 5 (j := 4) (want := true) (t := 61) rfl rfl rfl rfl (fun hg7 kk4 => s_val (wgE rfl rfl rfl hg7) rfl rfl (py_field tu68 rfl ts25 rfl rfl) (s_val (wgE rfl rfl rfl hg7) rfl rfl (py_load tu25 rfl rfl (cell_atL (H7.box 1 rfl) rfl)) (s_callv (wgE rfl rfl rfl hg7) rfl rfl (pc_call Tryz.func173 rfl Tryz_nm173 rfl) (Tryz_size_int64 (H7.sees 0 rfl)) (fun w14 e13 => s_val (wgE rfl rfl rfl hg7) rfl rfl (py_move rfl) (s_val (wgE rfl rfl rfl hg7) rfl rfl (py_eql rfl rfl) (kk4 _ _ (kx rfl (kx rfl (kx rfl (kx rfl (kx rfl k0))))) rfl (Ext.refl.trans e13))))))) (fun w13 e12 => ?_))))))))))))))
     have H14 := H7.to e12
     refine sV rfl (py_band rfl rfl) (sA rfl rfl (s_nil (W_seq (W_sr (sV rfl (py_field tu68 rfl ts25 rfl rfl) (sV rfl (py_load tu25 rfl rfl (cell_atL (H14.box 1 rfl) rfl)) (sV rfl (py_len tu25 rfl) (sM rfl rfl (s_nil (W_block (W_loopS (γ := Nat) H14 [(2, _), (3, _), (4, _), (8, _), (64, _), (65, _)] ⟨rfl, rfl, rfl, rfl, rfl, rfl, trivial⟩ (fun k => [(9, .bool (decide ((r.Data.length : Int) = 0) && decide ((r.Rows.length : Int) = partsOf s r.Length) && (List.range k).all (apartAt r.Rows (s.Rows - 1)))), (66, .int .i64 k)]) (fun k => k ≤ r.Rows.length ∧ True) (fun k => r.Rows.length - k) 0 ⟨eqB (by simp [partsN_ok (show longOf s r.Length = 0 by omega)]), rfl, trivial⟩ ⟨by omega, trivial⟩ (fun k w15 H15 ⟨hk, _⟩ => ?_))))))))))))
     dsimp only [lCA, lNA]
     refine W_sr (sV rfl (py_lss rfl rfl) (s_nil (W_seq (W_ifd rfl (fun c7 => ?_) (fun c7 => ?_)))))
     ·refine W_skip (W_seq (W_block (W_seq ?_)))
      obtain ⟨eb2, eo2, ee2, ec2⟩ := elem_int (H15.seen 0 rfl) k (by omega)
      have eI2 := elem_i64 (H15.seen 0 rfl) k (by omega)
      refine W_reg (sM rfl rfl (sV rfl (py_elz tu25 ts2 rfl rfl ee2 k (by omega) (by omega)) (sV rfl (py_load tu2 rfl rfl ec2) (sA rfl rfl (sA rfl rfl (s_nil (W_reg (sM rfl rfl (sM rfl rfl (s_case (t := 72) rfl (fun hg8 => ?_) (fun hg8 => ?_)))))))))))
      ·try simp only [decide_eq_true_eq, decide_eq_false_iff_not] at hg8
       refine s_val (wg rfl rfl rfl) rfl rfl (py_loadS tu34 rfl ts34 rfl rfl (At.whole (H15.box 0 rfl))) (s_val (wg rfl rfl rfl) rfl rfl (py_move rfl) (s_call (wg rfl rfl rfl) rfl rfl (pc_call Tryz.func72 rfl Tryz_nm72 rfl) (Tryz_impl_Shape_isRow (by assumption)) (fun v6 w16 r6 => ?_)))
       obtain ⟨e14, rfl⟩ := r6
       have H16 := H15.to e14
       refine sV rfl (py_pickT rfl rfl) (sM rfl rfl (s_case (t := 77) rfl (fun hg9 => ?_) (fun hg9 => ?_)))
       ·try simp only [decide_eq_true_eq, decide_eq_false_iff_not] at hg9
        refine s_val (wg rfl rfl rfl) rfl rfl (py_field tu68 rfl ts25 rfl rfl) (s_val (wg rfl rfl rfl) rfl rfl (py_load tu25 rfl rfl (cell_atL (H16.box 1 rfl) rfl)) (s_val (wg rfl rfl rfl) rfl rfl (py_move rfl) ?_))
        have sc2 := own_le_cap (H16.seen 0 rfl)
        obtain ⟨sf2, so2, ss2⟩ := own_cutL (H16.seen 0 rfl) (0) (k) _ (by omega) (by omega) (by omega) (Nat.le_refl _)
        have H17 := H16.look1 0 rfl so2 ss2
        have sl2 := cut_len (xs := r.Rows) (l := 0) (h := k) (by omega)
        refine s_val (wg rfl rfl rfl) rfl rfl (py_slcHN tu25 ts2 rfl rfl (k) (by omega) (by omega) sl2) ((s_val (wg rfl rfl rfl) rfl rfl (py_move rfl) (s_call (wg rfl rfl rfl) rfl rfl (pc_call Tryz.func243 rfl Tryz_nm243 rfl) (Tryz_slices_Contains_int64_int64 (H17.sees 3 rfl)) (fun v7 w17 r7 => ?_))))
        obtain ⟨e15, rfl⟩ := r7
        have H18 := H17.to e15
        refine s_val (wg rfl rfl rfl) rfl rfl (py_not rfl) (sV rfl (py_pickT rfl rfl) (sA rfl rfl (s_nil (W_reg (sV rfl (py_add rfl rfl (in64 ⟨by omega, by omega⟩)) (sM rfl rfl (s_nil (⟨k + 1, ⟨eqB (by simp only [all_step, apartAt, cut_take, ← Bool.and_assoc, hg8, hg9, Bool.true_and, Bool.false_and]), rfl, rfl, rfl, rfl, rfl, rfl, rfl, trivial⟩, ⟨(H18.ftake 3), by omega, trivial⟩, by dsimp only; omega⟩))))))))
       ·try simp only [decide_eq_true_eq, decide_eq_false_iff_not] at hg9
        refine sKf rfl rfl rfl (sKf rfl rfl rfl (sKf rfl rfl rfl (sKf rfl rfl rfl (sKf rfl rfl rfl (sKf rfl rfl rfl (sKf rfl rfl rfl (sV rfl (py_pickF rfl rfl) (sA rfl rfl (s_nil (W_reg (sV rfl (py_add rfl rfl (in64 ⟨by omega, by omega⟩)) (sM rfl rfl (s_nil (⟨k + 1, ⟨eqB (by simp only [all_step, apartAt, cut_take, ← Bool.and_assoc, hg8, hg9, Bool.true_and, Bool.false_and]), rfl, rfl, rfl, rfl, rfl, rfl, rfl, trivial⟩, ⟨H16, by omega, trivial⟩, by dsimp only; omega⟩))))))))))))))
      ·try simp only [decide_eq_true_eq, decide_eq_false_iff_not] at hg8
       refine sKf rfl rfl rfl (sKf rfl rfl rfl (sKf rfl rfl rfl (sV rfl (py_pickF rfl rfl) (sM rfl rfl (sKf rfl rfl rfl (sKf rfl rfl rfl (sKf rfl rfl rfl (sKf rfl rfl rfl (sKf rfl rfl rfl (sKf rfl rfl rfl (sKf rfl rfl rfl (sV rfl (py_pickF rfl rfl) (sA rfl rfl (s_nil (W_reg (sV rfl (py_add rfl rfl (in64 ⟨by omega, by omega⟩)) (sM rfl rfl (s_nil (⟨k + 1, ⟨eqB (by simp only [all_step, apartAt, cut_take, ← Bool.and_assoc, hg8, Bool.true_and, Bool.false_and]), rfl, rfl, rfl, rfl, rfl, rfl, rfl, trivial⟩, ⟨H15, by omega, trivial⟩, by dsimp only; omega⟩)))))))))))))))))))
     ·refine W_exit (W_seq (W_seq ?_))
      obtain rfl : k = r.Rows.length := by omega
      have io := item_ok (s := s) (r := r) (by omega) (by omega) (decide_eq_false hg2).symm rfl rfl rfl
      simp only [Bool.true_and, Bool.false_and, Bool.false_or] at io
      refine W_reg (sM rfl rfl (sV rfl (py_not rfl) (sM rfl rfl (s_val (wg rfl rfl rfl) rfl rfl (py_move rfl) (s_val (wg rfl rfl rfl) rfl rfl (py_not rfl) (sV rfl (py_pickT rfl rfl) (s_nil (W_if rfl (fun c8 => ?_) (fun c8 => ?_)))))))))
      ·refine W_sr (sA rfl rfl (s_nil (rT hQ Tryz.results200 rfl ?_)))
       exact ⟨H15.ext, congrArg (Value.int .i64) (itemF_bad (by omega) (by rw [← io]; exact not_true (id c8))).symm⟩
      ·refine W_skip (W_sr (sA rfl rfl (s_nil (rT hQ Tryz.results200 rfl ?_))))
       exact ⟨H15.ext, congrArg (Value.int .i64) (itemF_ok (by omega) (by rw [← io]; exact not_false (id c8))).symm⟩
theorem Tryz_spec_l5Weights {w : World} {s : Shape} {r : Rec} {rA6 rA7 rA8 : Option Addr} {rC6 rC7 rC8 : Nat} (rK : r.Ok) (rS6 : Sees w [.slice rA6 r.Rows.length rC6] r.Rows) (rS7 : Sees w [.slice rA7 r.Data.length rC7] r.Data) (rS8 : Sees w [.slice rA8 r.Delta.length rC8] r.Delta) (hs : s.ok = true) (hg : 0 ≤ r.Group ∧ r.Group < s.Groups + s.Column) (hr : ∀ i, i < r.Rows.length → 0 ≤ r.Rows.getD i 0 ∧ r.Rows.getD i 0 < s.Groups + s.Column) : Ret Tryz.prog 191 #[s.v, r.val rA6 rC6 rA7 rC7 rA8 rC8] w fun v w' => Ext No w w' ∧ (v = .bool (weightsOK s r)) := by
 have rK2 := rK
 unfold Rec.Ok at rK2
 try unfold I64ok at rK2
 try unfold maxLen at rK2
 have rN2 : r.Name.size ≤ maxLen := by unfold maxLen; omega
 have rL6 := sL rS6
 obtain ⟨rF6, rO6⟩ := rS6
 have rL7 := sL rS7
 obtain ⟨rF7, rO7⟩ := rS7
 have rL8 := sL rS8
 obtain ⟨rF8, rO8⟩ := rS8
 have sbd := shape_bd hs
 refine ret_Q (vs := [s.v, r.val rA6 rC6 rA7 rC7 rA8 rC8]) Tryz.func191 rfl Tryz.ntmps191 rfl (fun Q hQ hN => ?_)
 have H0 := Sep.start (w := w) (F := [seen false [.slice rA6 r.Rows.length rC6] r.Rows rF6, seen false [.slice rA7 r.Data.length rC7] r.Data rF7, seen false [.slice rA8 r.Delta.length rC8] r.Delta rF8]) (all_cons rO6 (all_cons rO7 (all_cons rO8 (by simp))))
 refine W_sr (s_box (wn rfl) rfl rfl H0 (fun b1 w1 e1 g1 H1 => ?_))
 refine s_box (wn rfl) rfl rfl H1 (fun b2 w2 e2 g2 H2 => ?_)
 refine sA rfl rfl (s_nil (W_seq (W_seq (W_drw (S := Ext No _) [(0, true), (1, true), (2, true), (3, true), (4, false), (5, true), (6, true), (7, true), (8, true), (9, true), (10, true), (11, true), (12, true), (13, true), (14, false)] (by kernel_rfl) (by kernel_rfl) (by kernel_rfl) rfl (fun _ => Ext.refl.drawn _) (fun q1 => ?_)))))
 have H3 := H2.drawn q1
 refine dV rfl rfl (fun zw hx => py_field tu68 rfl ts45 rfl rfl) (dV rfl rfl (fun zw hx => py_load tu45 rfl rfl (cell_atL (hx.heap (H3.box 1 rfl)) rfl)) (dV rfl rfl (fun zw hx => py_len tu45 rfl) (dV rfl rfl (fun zw hx => py_loadS tu34 rfl ts34 rfl rfl (At.whole (hx.heap (H3.box 0 rfl)))) (d_call rfl (wn rfl) rfl rfl (pc_call Tryz.func162 rfl Tryz_nm162 rfl) (Tryz_spec_l5All (by assumption)) (fun hS _ _ r _ => hS.trans r.1.no) (fun v1 w3 r1 => ?_)))))
 obtain ⟨e3, rfl⟩ := r1
 have H4 := H3.to e3
 refine dV rfl rfl (fun zw hx => py_neq rfl rfl) (dM rfl rfl rfl (d_case (t := 12) rfl (fun hg1 => ?_) (fun hg1 => ?_)))
 ·try simp only [decide_eq_true_eq, decide_eq_false_iff_not] at hg1
  refine dKt rfl rfl rfl rfl (dKt rfl rfl rfl rfl (dKt rfl rfl rfl rfl (dKt rfl rfl rfl rfl (dKt rfl rfl rfl rfl (dKt rfl rfl rfl rfl (dKt rfl rfl rfl rfl (d_end rfl (wn rfl) rfl rfl (py_pickT rfl rfl) (d_nil (W_ift rfl (W_sr (sA rfl rfl (s_nil (rT hQ Tryz.results191 rfl ?_)))))))))))))
  exact ⟨H4.ext, congrArg Value.bool ((weight_bad (by omega)).symm)⟩
 ·try simp only [decide_eq_true_eq, decide_eq_false_iff_not] at hg1
  refine d_val rfl (wg rfl rfl rfl) rfl rfl (fun zw hx => py_field tu68 rfl ts45 rfl rfl) (d_val rfl (wg rfl rfl rfl) rfl rfl (fun zw hx => py_load tu45 rfl rfl (cell_atL (hx.heap (H3.box 1 rfl)) rfl)) (d_val rfl (wg rfl rfl rfl) rfl rfl (fun zw hx => py_field tu68 rfl ts2 rfl rfl) (d_val rfl (wg rfl rfl rfl) rfl rfl (fun zw hx => py_load tu2 rfl rfl (cell_atL (hx.heap (H3.box 1 rfl)) rfl)) ?_)))
  obtain ⟨eb1, eo1, ee1, ec1⟩ := elem_u8 (H3.seen 2 rfl) r.Group.toNat (by omega)
  refine d_val rfl (wg rfl rfl rfl) rfl rfl (fun zw hx => py_elz tu45 ts5 rfl rfl ee1 r.Group.toNat (by omega) (by omega)) (d_val rfl (wg rfl rfl rfl) rfl rfl (fun zw hx => py_load tu5 rfl rfl (hx.cell ec1)) (d_val rfl (wg rfl rfl rfl) rfl rfl (fun zw hx => py_neq rfl rfl) (d_end rfl (wn rfl) rfl rfl (py_pickF rfl rfl) (d_nil (W_ifd rfl (fun c1 => ?_) (fun c1 => ?_))))))
  ·refine W_sr (sA rfl rfl (s_nil (rT hQ Tryz.results191 rfl ?_)))
   exact ⟨H4.ext, congrArg Value.bool ((weight_grp (by omega)).symm)⟩
  ·refine W_skip (W_seq (W_sr (sA rfl rfl (s_nil (W_block (W_loopS (γ := Nat) H4 [(3, _)] ⟨rfl, trivial⟩ (fun k => [(5, .int .i64 k)]) (fun k => k ≤ r.Rows.length ∧ (∀ i, i < k → ¬ ((r.Delta.getD (r.Rows.getD i 0).toNat 0).toNat : Int) = 0)) (fun k => r.Rows.length - k) 0 ⟨rfl, trivial⟩ ⟨by omega, fun i hi => by omega⟩ (fun k w4 H5 ⟨hk, he⟩ => ?_)))))))
   dsimp only [lCA, lNA]
   refine W_seq (W_sr (sM rfl rfl (sV rfl (py_field tu68 rfl ts25 rfl rfl) (sV rfl (py_load tu25 rfl rfl (cell_atL (H5.box 1 rfl) rfl)) (sV rfl (py_len tu25 rfl) (sV rfl (py_lss rfl rfl) (s_nil (W_ifd rfl (fun c2 => ?_) (fun c2 => ?_)))))))))
   ·refine W_skip (W_seq (W_block (W_seq ?_)))
    have hrk := hr k (by omega)
    obtain ⟨eb2, eo2, ee2, ec2⟩ := elem_int (H5.seen 0 rfl) k (by omega)
    have eI1 := elem_i64 (H5.seen 0 rfl) k (by omega)
    obtain ⟨eb3, eo3, ee3, ec3⟩ := elem_u8 (H5.seen 2 rfl) (r.Rows.getD k 0).toNat (by omega)
    refine W_drw (S := Ext No _) [(0, true), (1, true), (2, true), (3, true), (4, true), (5, true), (6, true), (7, true), (8, true), (9, false)] (by kernel_rfl) (by kernel_rfl) (by kernel_rfl) rfl (fun _ => Ext.refl.drawn _) (fun q2 => ?_)
    have H6 := H5.drawn q2
    refine dV rfl rfl (fun zw hx => py_field tu68 rfl ts45 rfl rfl) (dV rfl rfl (fun zw hx => py_load tu45 rfl rfl (cell_atL (hx.heap (H6.box 1 rfl)) rfl)) (dV rfl rfl (fun zw hx => py_field tu68 rfl ts25 rfl rfl) (dV rfl rfl (fun zw hx => py_load tu25 rfl rfl (cell_atL (hx.heap (H6.box 1 rfl)) rfl)) (dM rfl rfl rfl (dV rfl rfl (fun zw hx => py_elz tu25 ts2 rfl rfl ee2 k (by omega) (by omega)) (dV rfl rfl (fun zw hx => py_load tu2 rfl rfl (hx.cell ec2)) (dV rfl rfl (fun zw hx => py_elz tu45 ts5 rfl rfl ee3 (r.Rows.getD k 0).toNat (by omega) (by omega)) (dV rfl rfl (fun zw hx => py_load tu5 rfl rfl (hx.cell ec3)) (d_end rfl (wn rfl) rfl rfl (py_eql rfl rfl) (d_nil (W_ifd rfl (fun c3 => ?_) (fun c3 => ?_))))))))))))
    ·refine W_sr (sA rfl rfl (s_nil (rT hQ Tryz.results191 rfl ?_)))
     exact ⟨H6.ext, congrArg Value.bool ((weight_row k (by omega) c3).symm)⟩
    ·refine W_skip (W_reg (sM rfl rfl (sV rfl (py_add rfl rfl (in64 ⟨by omega, by omega⟩)) (sA rfl rfl (s_nil (⟨k + 1, ⟨rfl, rfl, trivial⟩, ⟨H6, by omega, fun i hi => ?_⟩, by dsimp only; omega⟩))))))
     by_cases e : i = k
     ·subst e
      assumption
     ·exact he i (by omega)
   ·refine W_exit (W_sr (sA rfl rfl (s_nil (rT hQ Tryz.results191 rfl ?_))))
    exact ⟨H5.ext, congrArg Value.bool ((weight_ok (by omega) (by omega) (fun i hi => he i (by omega))).symm)⟩
theorem Tryz_spec_l5Empty {w : World} {r : Rec} {rA6 rA7 rA8 : Option Addr} {rC6 rC7 rC8 : Nat} (rK : r.Ok) (rS6 : Sees w [.slice rA6 r.Rows.length rC6] r.Rows) (rS7 : Sees w [.slice rA7 r.Data.length rC7] r.Data) (rS8 : Sees w [.slice rA8 r.Delta.length rC8] r.Delta) : Ret Tryz.prog 192 #[r.val rA6 rC6 rA7 rC7 rA8 rC8] w fun v w' => Ext No w w' ∧ (v = .bool (emptyR r)) := by
 have rK2 := rK
 unfold Rec.Ok at rK2
 try unfold I64ok at rK2
 try unfold maxLen at rK2
 have rN2 : r.Name.size ≤ maxLen := by unfold maxLen; omega
 have rL6 := sL rS6
 obtain ⟨rF6, rO6⟩ := rS6
 have rL7 := sL rS7
 obtain ⟨rF7, rO7⟩ := rS7
 have rL8 := sL rS8
 obtain ⟨rF8, rO8⟩ := rS8
 refine ret_Q (vs := [r.val rA6 rC6 rA7 rC7 rA8 rC8]) Tryz.func192 rfl Tryz.ntmps192 rfl (fun Q hQ hN => ?_)
 have H0 := Sep.start (w := w) (F := [seen false [.slice rA6 r.Rows.length rC6] r.Rows rF6, seen false [.slice rA7 r.Data.length rC7] r.Data rF7, seen false [.slice rA8 r.Delta.length rC8] r.Delta rF8]) (all_cons rO6 (all_cons rO7 (all_cons rO8 (by simp))))
 refine W_sr (s_box (wn rfl) rfl rfl H0 (fun b1 w1 e1 g1 H1 => ?_))
 refine sA rfl rfl (s_nil (W_sr (sV rfl (py_field tu68 rfl ts9 rfl rfl) (sV rfl (py_load tu9 rfl rfl (cell_atL (H1.box 0 rfl) rfl)) (sV rfl (py_seql rfl rfl) (sM rfl rfl (s_grp 3 (j := 3) (want := true) (t := 9) rfl rfl rfl rfl (fun hg1 kk1 => s_val (wgE rfl rfl rfl hg1) rfl rfl (py_field tu68 rfl ts2 rfl rfl) (s_val (wgE rfl rfl rfl hg1) rfl rfl (py_load tu2 rfl rfl (cell_atL (H1.box 0 rfl) rfl)) (s_val (wgE rfl rfl rfl hg1) rfl rfl (py_eql rfl rfl) (kk1 _ _ (kx rfl (kx rfl (kx rfl k0))) rfl Ext.refl)))) (fun w2 e2 => ?_))))))))
 have H2 := H1.to e2
 refine sV rfl (py_band rfl rfl) (sM rfl rfl (s_grp 3 (j := 8) (want := true) (t := 14) rfl rfl rfl rfl (fun hg2 kk2 => s_val (wgE rfl rfl rfl hg2) rfl rfl (py_field tu68 rfl ts2 rfl rfl) (s_val (wgE rfl rfl rfl hg2) rfl rfl (py_load tu2 rfl rfl (cell_atL (H2.box 0 rfl) rfl)) (s_val (wgE rfl rfl rfl hg2) rfl rfl (py_eql rfl rfl) (kk2 _ _ (kx rfl (kx rfl (kx rfl k0))) rfl Ext.refl)))) (fun w3 e3 => ?_)))
 have H3 := H2.to e3
 refine sV rfl (py_band rfl rfl) (sM rfl rfl (s_grp 3 (j := 13) (want := true) (t := 19) rfl rfl rfl rfl (fun hg3 kk3 => s_val (wgE rfl rfl rfl hg3) rfl rfl (py_field tu68 rfl ts2 rfl rfl) (s_val (wgE rfl rfl rfl hg3) rfl rfl (py_load tu2 rfl rfl (cell_atL (H3.box 0 rfl) rfl)) (s_val (wgE rfl rfl rfl hg3) rfl rfl (py_eql rfl rfl) (kk3 _ _ (kx rfl (kx rfl (kx rfl k0))) rfl Ext.refl)))) (fun w4 e4 => ?_)))
 have H4 := H3.to e4
 refine sV rfl (py_band rfl rfl) (sM rfl rfl (s_grp 4 (j := 18) (want := true) (t := 25) rfl rfl rfl rfl (fun hg4 kk4 => s_val (wgE rfl rfl rfl hg4) rfl rfl (py_field tu68 rfl ts25 rfl rfl) (s_val (wgE rfl rfl rfl hg4) rfl rfl (py_load tu25 rfl rfl (cell_atL (H4.box 0 rfl) rfl)) (s_val (wgE rfl rfl rfl hg4) rfl rfl (py_len tu25 rfl) (s_val (wgE rfl rfl rfl hg4) rfl rfl (py_eql rfl rfl) (kk4 _ _ (kx rfl (kx rfl (kx rfl (kx rfl k0)))) rfl Ext.refl))))) (fun w5 e5 => ?_)))
 have H5 := H4.to e5
 refine sV rfl (py_band rfl rfl) (sM rfl rfl (s_grp 4 (j := 24) (want := true) (t := 31) rfl rfl rfl rfl (fun hg5 kk5 => s_val (wgE rfl rfl rfl hg5) rfl rfl (py_field tu68 rfl ts45 rfl rfl) (s_val (wgE rfl rfl rfl hg5) rfl rfl (py_load tu45 rfl rfl (cell_atL (H5.box 0 rfl) rfl)) (s_val (wgE rfl rfl rfl hg5) rfl rfl (py_len tu45 rfl) (s_val (wgE rfl rfl rfl hg5) rfl rfl (py_eql rfl rfl) (kk5 _ _ (kx rfl (kx rfl (kx rfl (kx rfl k0)))) rfl Ext.refl))))) (fun w6 e6 => ?_)))
 have H6 := H5.to e6
 refine sV rfl (py_band rfl rfl) (sM rfl rfl (s_grp 4 (j := 30) (want := true) (t := 37) rfl rfl rfl rfl (fun hg6 kk6 => s_val (wgE rfl rfl rfl hg6) rfl rfl (py_field tu68 rfl ts45 rfl rfl) (s_val (wgE rfl rfl rfl hg6) rfl rfl (py_load tu45 rfl rfl (cell_atL (H6.box 0 rfl) rfl)) (s_val (wgE rfl rfl rfl hg6) rfl rfl (py_len tu45 rfl) (s_val (wgE rfl rfl rfl hg6) rfl rfl (py_eql rfl rfl) (kk6 _ _ (kx rfl (kx rfl (kx rfl (kx rfl k0)))) rfl Ext.refl))))) (fun w7 e7 => ?_)))
 have H7 := H6.to e7
 refine sV rfl (py_band rfl rfl) (sA rfl rfl (s_nil (rT hQ Tryz.results192 rfl ?_)))
 exact ⟨H7.ext, congrArg Value.bool (by simp only [emptyR, noName, str_beq, Bool.and_assoc]; simp)⟩
theorem Tryz_spec_l5Apart {w : World} {xs : List Int} {xsA : Option Addr} {xsC : Nat} {m : Int} (xsS : Sees w [.slice xsA xs.length xsC] xs) : Ret Tryz.prog 161 #[.slice xsA xs.length xsC, .int .i64 m] w fun v w' => Ext No w w' ∧ (v = .bool (apartL xs m)) := by
 have xsL := sL xsS
 obtain ⟨xsF, xsO⟩ := xsS
 refine ret_Q (vs := [.slice xsA xs.length xsC, .int .i64 m]) Tryz.func161 rfl Tryz.ntmps161 rfl (fun Q hQ hN => ?_)
 have H0 := Sep.start (w := w) (F := [seen false [.slice xsA xs.length xsC] xs xsF]) (all_cons xsO (by simp))
 refine W_sr (sA rfl rfl (s_nil (W_seq (W_sr (sA rfl rfl (s_nil (W_block (W_loopS (γ := Nat) H0 [(0, _), (1, _)] ⟨rfl, rfl, trivial⟩ (fun k => [(5, .int .i64 k)]) (fun k => k ≤ xs.length ∧ (∀ i, i < k → apartAt xs m i = true)) (fun k => xs.length - k) 0 ⟨rfl, trivial⟩ ⟨by omega, fun i hi => by omega⟩ (fun k w1 H1 ⟨hk, he⟩ => ?_)))))))))
 dsimp only [lCA, lNA]
 refine W_seq (W_sr (sM rfl rfl (sM rfl rfl (sV rfl (py_len tu25 rfl) (sV rfl (py_lss rfl rfl) (s_nil (W_ifd rfl (fun c1 => ?_) (fun c1 => ?_))))))))
 ·refine W_skip (W_seq (W_block (W_seq ?_)))
  obtain ⟨eb1, eo1, ee1, ec1⟩ := elem_int (H1.seen 0 rfl) k (by omega)
  have eI1 := elem_i64 (H1.seen 0 rfl) k (by omega)
  refine W_drw (S := Ext No _) [(0, true), (1, true), (2, true), (3, true), (4, true), (5, false), (6, true), (7, true), (8, true), (9, true), (10, true), (11, true), (12, true), (13, true), (14, true), (15, false), (16, false)] (by kernel_rfl) (by kernel_rfl) (by kernel_rfl) rfl (fun _ => Ext.refl.drawn _) (fun q1 => ?_)
  have H2 := H1.drawn q1
  refine dM rfl rfl rfl (dM rfl rfl rfl (dV rfl rfl (fun zw hx => py_elz tu25 ts2 rfl rfl ee1 k (by omega) (by omega)) (dV rfl rfl (fun zw hx => py_load tu2 rfl rfl (hx.cell ec1)) (dM rfl rfl rfl (d_call rfl (wn rfl) rfl rfl (pc_call Tryz.func97 rfl Tryz_nm97 rfl) Tryz_spec_l1In (fun hS _ _ r _ => hS.trans r.1.no) (fun v1 w2 r1 => ?_))))))
  obtain ⟨e1, rfl⟩ := r1
  have H3 := H2.to e1
  refine dV rfl rfl (fun zw hx => py_not rfl) (dM rfl rfl rfl (d_case (t := 19) rfl (fun hg1 => ?_) (fun hg1 => ?_)))
  ·try simp only [decide_eq_true_eq, decide_eq_false_iff_not] at hg1
   refine dKt rfl rfl rfl rfl (dKt rfl rfl rfl rfl (dKt rfl rfl rfl rfl (dKt rfl rfl rfl rfl (dKt rfl rfl rfl rfl (dKt rfl rfl rfl rfl (dKt rfl rfl rfl rfl (d_skipA rfl (wog (b := true) rfl rfl rfl) rfl rfl (d_end rfl (wn rfl) rfl rfl (py_pickT rfl rfl) (d_nil (W_ift rfl (W_sr (sA rfl rfl (s_nil (rT hQ Tryz.results161 rfl ?_))))))))))))))
   exact ⟨H3.ext, congrArg Value.bool ((all_no k (by omega) (by simp only [apartAt, cut_take] at *; simp_all)).symm)⟩
  ·try simp only [decide_eq_true_eq, decide_eq_false_iff_not] at hg1
   refine d_val rfl (wg rfl rfl rfl) rfl rfl (fun zw hx => py_move rfl) (d_val rfl (wg rfl rfl rfl) rfl rfl (fun zw hx => py_move rfl) ?_)
   have sc1 := own_le_cap (H3.seen 0 rfl)
   obtain ⟨sf1, so1, ss1⟩ := own_cutL (H3.seen 0 rfl) (0) (k) _ (by omega) (by omega) (by omega) (Nat.le_refl _)
   have H4 := H3.look1 0 rfl so1 ss1
   have sl1 := cut_len (xs := xs) (l := 0) (h := k) (by omega)
   refine d_val rfl (wg rfl rfl rfl) rfl rfl (fun zw hx => py_slcHN tu25 ts2 rfl rfl (k) (by omega) (by omega) sl1) (d_val rfl (wg rfl rfl rfl) rfl rfl (fun zw hx => py_move rfl) (d_val rfl (wg rfl rfl rfl) rfl rfl (fun zw hx => py_move rfl) (d_val rfl (wg rfl rfl rfl) rfl rfl (fun zw hx => py_elz tu25 ts2 rfl rfl ee1 k (by omega) (by omega)) (d_val rfl (wg rfl rfl rfl) rfl rfl (fun zw hx => py_load tu2 rfl rfl (hx.cell ec1)) (d_call rfl (wg rfl rfl rfl) rfl rfl (pc_call Tryz.func156 rfl Tryz_nm156 rfl) (Tryz_spec_l1Has (H4.sees 1 rfl)) (fun hS _ _ r _ => hS.trans r.1.no) (fun v2 w3 r2 => ?_))))))
   obtain ⟨e2, rfl⟩ := r2
   have H5 := H4.to e2
   refine d_end rfl (wn rfl) rfl rfl (py_pickF rfl rfl) (d_nil (W_if rfl (fun c2 => ?_) (fun c2 => ?_)))
   ·refine W_sr (sA rfl rfl (s_nil (rT hQ Tryz.results161 rfl ?_)))
    exact ⟨H5.ext, congrArg Value.bool ((all_no k (by omega) (by simp only [apartAt, cut_take] at *; simp_all)).symm)⟩
   ·refine W_skip (W_reg (sM rfl rfl (sV rfl (py_add rfl rfl (in64 ⟨by omega, by omega⟩)) (sA rfl rfl (s_nil (⟨k + 1, ⟨rfl, rfl, rfl, trivial⟩, ⟨(H5.ftake 1), by omega, fun i hi => ?_⟩, by dsimp only; omega⟩))))))
    by_cases e : i = k
    ·subst e
     simp only [apartAt, cut_take] at *; simp_all
    ·exact he i (by omega)
 ·refine W_exit (W_sr (sA rfl rfl (s_nil (rT hQ Tryz.results161 rfl ?_))))
  exact ⟨H1.ext, congrArg Value.bool ((all_yes fun i hi => he i (by omega)).symm)⟩
theorem Tryz_spec_l5Item {w : World} {s : Shape} {r : Rec} {rA6 rA7 rA8 : Option Addr} {rC6 rC7 rC8 : Nat} (rK : r.Ok) (rS6 : Sees w [.slice rA6 r.Rows.length rC6] r.Rows) (rS7 : Sees w [.slice rA7 r.Data.length rC7] r.Data) (rS8 : Sees w [.slice rA8 r.Delta.length rC8] r.Delta) (hs : s.ok = true) : Ret Tryz.prog 188 #[s.v, r.val rA6 rC6 rA7 rC7 rA8 rC8] w fun v w' => Ext No w w' ∧ (v = .bool (itemOK s r)) := by
 have rK2 := rK
 unfold Rec.Ok at rK2
 try unfold I64ok at rK2
 try unfold maxLen at rK2
 have rN2 : r.Name.size ≤ maxLen := by unfold maxLen; omega
 have rL6 := sL rS6
 obtain ⟨rF6, rO6⟩ := rS6
 have rL7 := sL rS7
 obtain ⟨rF7, rO7⟩ := rS7
 have rL8 := sL rS8
 obtain ⟨rF8, rO8⟩ := rS8
 have sbd := shape_bd hs
 refine ret_Q (vs := [s.v, r.val rA6 rC6 rA7 rC7 rA8 rC8]) Tryz.func188 rfl Tryz.ntmps188 rfl (fun Q hQ hN => ?_)
 have H0 := Sep.start (w := w) (F := [seen false [.slice rA6 r.Rows.length rC6] r.Rows rF6, seen false [.slice rA7 r.Data.length rC7] r.Data rF7, seen false [.slice rA8 r.Delta.length rC8] r.Delta rF8]) (all_cons rO6 (all_cons rO7 (all_cons rO8 (by simp))))
 refine W_sr (s_box (wn rfl) rfl rfl H0 (fun b1 w1 e1 g1 H1 => ?_))
 refine s_box (wn rfl) rfl rfl H1 (fun b2 w2 e2 g2 H2 => ?_)
 refine sA rfl rfl (s_nil (W_seq (W_sr (sV rfl (py_field tu68 rfl ts2 rfl rfl) (sV rfl (py_load tu2 rfl rfl (cell_atL (H2.box 1 rfl) rfl)) (sV rfl (py_eql rfl rfl) (s_nil (W_ifd rfl (fun c1 => ?_) (fun c1 => ?_)))))))))
 ·refine W_sr (sV rfl (py_field tu68 rfl ts45 rfl rfl) (sV rfl (py_load tu45 rfl rfl (cell_atL (H2.box 1 rfl) rfl)) (sV rfl (py_len tu45 rfl) (sV rfl (py_eql rfl rfl) (sM rfl rfl (s_grp 4 (j := 4) (want := true) (t := 16) rfl rfl rfl rfl (fun hg1 kk1 => s_val (wgE rfl rfl rfl hg1) rfl rfl (py_field tu68 rfl ts25 rfl rfl) (s_val (wgE rfl rfl rfl hg1) rfl rfl (py_load tu25 rfl rfl (cell_atL (H2.box 1 rfl) rfl)) (s_val (wgE rfl rfl rfl hg1) rfl rfl (py_len tu25 rfl) (s_val (wgE rfl rfl rfl hg1) rfl rfl (py_eql rfl rfl) (kk1 _ _ (kx rfl (kx rfl (kx rfl (kx rfl k0)))) rfl Ext.refl))))) (fun w3 e3 => ?_)))))))
  have H3 := H2.to e3
  refine sV rfl (py_band rfl rfl) (sA rfl rfl (s_nil (rT hQ Tryz.results188 rfl ?_)))
  exact ⟨H3.ext, congrArg Value.bool (by rw [item_del (by omega)]; simp)⟩
 ·refine W_skip (W_seq (W_sr (sV rfl (py_loadS tu34 rfl ts34 rfl rfl (At.whole (H2.box 0 rfl))) (sV rfl (py_field tu68 rfl ts2 rfl rfl) (sV rfl (py_load tu2 rfl rfl (cell_atL (H2.box 1 rfl) rfl)) (s_call (wn rfl) rfl rfl (pc_call Tryz.func271 rfl Tryz_nm271 rfl) (Tryz_spec_l4Long (by assumption)) (fun v1 w4 r1 => ?_)))))))
  obtain ⟨e4, rfl⟩ := r1
  have H4 := H2.to e4
  refine sV rfl (py_neq rfl rfl) (s_nil (W_ifd rfl (fun c2 => ?_) (fun c2 => ?_)))
  ·refine W_sr (sA rfl rfl (s_nil (rT hQ Tryz.results188 rfl ?_)))
   exact ⟨H4.ext, congrArg Value.bool ((item_long (by omega) (by omega)).symm)⟩
  ·refine W_skip (W_seq (W_sr (sV rfl (py_field tu68 rfl ts45 rfl rfl) (sV rfl (py_load tu45 rfl rfl (cell_atL (H4.box 1 rfl) rfl)) (sV rfl (py_len tu45 rfl) (sV rfl (py_gtr rfl rfl) (s_nil (W_ifd rfl (fun c3 => ?_) (fun c3 => ?_)))))))))
   ·refine W_sr (sV rfl (py_field tu68 rfl ts45 rfl rfl) (sV rfl (py_load tu45 rfl rfl (cell_atL (H4.box 1 rfl) rfl)) (sV rfl (py_len tu45 rfl) (sV rfl (py_field tu68 rfl ts2 rfl rfl) (sV rfl (py_load tu2 rfl rfl (cell_atL (H4.box 1 rfl) rfl)) (sV rfl (py_eql rfl rfl) (sM rfl rfl (s_grp 4 (j := 6) (want := true) (t := 37) rfl rfl rfl rfl (fun hg2 kk2 => s_val (wgE rfl rfl rfl hg2) rfl rfl (py_field tu68 rfl ts25 rfl rfl) (s_val (wgE rfl rfl rfl hg2) rfl rfl (py_load tu25 rfl rfl (cell_atL (H4.box 1 rfl) rfl)) (s_val (wgE rfl rfl rfl hg2) rfl rfl (py_len tu25 rfl) (s_val (wgE rfl rfl rfl hg2) rfl rfl (py_eql rfl rfl) (kk2 _ _ (kx rfl (kx rfl (kx rfl (kx rfl k0)))) rfl Ext.refl))))) (fun w5 e5 => ?_)))))))))
    have H5 := H4.to e5
    refine sV rfl (py_band rfl rfl) (sA rfl rfl (s_nil (rT hQ Tryz.results188 rfl ?_)))
    exact ⟨H5.ext, congrArg Value.bool (by rw [item_long0 (by omega) (by omega), if_pos (by omega)]; simp)⟩
   ·refine W_skip (W_seq ?_)
    have hz := long_zero (s := s) (len := r.Length) (by omega)
    refine W_drw (S := Ext No _) [(0, true), (1, true), (2, true), (3, true), (4, true), (5, true), (6, false), (7, true), (8, true), (9, true), (10, true), (11, true), (12, true), (13, true), (14, false), (15, true), (16, false)] (by kernel_rfl) (by kernel_rfl) (by kernel_rfl) rfl (fun _ => Ext.refl.drawn _) (fun q1 => ?_)
    have H6 := H4.drawn q1
    refine dV rfl rfl (fun zw hx => py_field tu68 rfl ts25 rfl rfl) (dV rfl rfl (fun zw hx => py_load tu25 rfl rfl (cell_atL (hx.heap (H6.box 1 rfl)) rfl)) (dV rfl rfl (fun zw hx => py_len tu25 rfl) (dV rfl rfl (fun zw hx => py_loadS tu34 rfl ts34 rfl rfl (At.whole (hx.heap (H6.box 0 rfl)))) (dV rfl rfl (fun zw hx => py_field tu68 rfl ts2 rfl rfl) (dV rfl rfl (fun zw hx => py_load tu2 rfl rfl (cell_atL (hx.heap (H6.box 1 rfl)) rfl)) (d_call rfl (wn rfl) rfl rfl (pc_call Tryz.func272 rfl Tryz_nm272 rfl) (Tryz_spec_l4Parts (by assumption) (by omega)) (fun hS _ _ r _ => hS.trans r.1.no) (fun v2 w6 r2 => ?_)))))))
    obtain ⟨e6, rfl⟩ := r2
    have H7 := H6.to e6
    refine dV rfl rfl (fun zw hx => py_eql rfl rfl) (dM rfl rfl rfl (d_case (t := 47) rfl (fun hg3 => ?_) (fun hg3 => ?_)))
    ·try simp only [decide_eq_true_eq, decide_eq_false_iff_not] at hg3
     refine d_val rfl (wg rfl rfl rfl) rfl rfl (fun zw hx => py_field tu68 rfl ts25 rfl rfl) (d_val rfl (wg rfl rfl rfl) rfl rfl (fun zw hx => py_load tu25 rfl rfl (cell_atL (hx.heap (H6.box 1 rfl)) rfl)) (d_val rfl (wg rfl rfl rfl) rfl rfl (fun zw hx => py_field tu34 rfl ts2 rfl rfl) (d_val rfl (wg rfl rfl rfl) rfl rfl (fun zw hx => py_load tu2 rfl rfl (cell_atL (hx.heap (H6.box 0 rfl)) rfl)) (d_val rfl (wg rfl rfl rfl) rfl rfl (fun zw hx => py_sub rfl rfl (in64 ⟨by omega, by omega⟩)) (d_call rfl (wg rfl rfl rfl) rfl rfl (pc_call Tryz.func161 rfl Tryz_nm161 rfl) (Tryz_spec_l5Apart (H7.sees 0 rfl)) (fun hS _ _ r _ => hS.trans r.1.no) (fun v3 w7 r3 => ?_))))))
     obtain ⟨e7, rfl⟩ := r3
     have H8 := H7.to e7
     refine dV rfl rfl (fun zw hx => py_pickT rfl rfl) (d_end rfl (wn rfl) rfl rfl (py_assign rfl) (d_nil (rT hQ Tryz.results188 rfl ?_)))
     exact ⟨H8.ext, congrArg Value.bool (by rw [item_long0 (by omega) (by omega), if_neg (by omega)]; simp_all)⟩
    ·try simp only [decide_eq_true_eq, decide_eq_false_iff_not] at hg3
     refine dKf rfl rfl rfl rfl (dKf rfl rfl rfl rfl (dKf rfl rfl rfl rfl (dKf rfl rfl rfl rfl (dKf rfl rfl rfl rfl (d_skipA rfl (wog (b := false) rfl rfl rfl) rfl rfl (dV rfl rfl (fun zw hx => py_pickF rfl rfl) (d_end rfl (wn rfl) rfl rfl (py_assign rfl) (d_nil (rT hQ Tryz.results188 rfl ?_)))))))))
     exact ⟨H7.ext, congrArg Value.bool (by rw [item_long0 (by omega) (by omega), if_neg (by omega)]; simp_all)⟩
theorem Tryz_impl_shareFault_1 {w : World} {x : Int} {rb rC6 rC7 rC8 : Nat} {r : Rec} {rA6 rA7 rA8 : Option Addr} (rB : w.heap[rb]? = some (.cells [.int .i64 r.Kind, .int .i64 r.Seq, .string r.Name, .int .i64 r.Length, .int .i64 r.Group, .int .i64 r.Row, .slice rA6 r.Rows.length rC6, .slice rA7 r.Data.length rC7, .slice rA8 r.Delta.length rC8].toArray 68)) (rK : r.Ok) (rS6 : Sees w [.slice rA6 r.Rows.length rC6] r.Rows) (rS7 : Sees w [.slice rA7 r.Data.length rC7] r.Data) (rS8 : Sees w [.slice rA8 r.Delta.length rC8] r.Delta) (hx : 0 ≤ x ∧ x < r.Delta.length) : Ret Tryz.prog 281 #[.int .i64 x, .pointer (some ⟨rb, 0, none⟩)] w fun v w' => Ext No w w' ∧ (v = .bool (decide (((r.Delta.getD (x).toNat 0).toNat : Int) = 0))) := by
 have rK2 := rK
 unfold Rec.Ok at rK2
 try unfold I64ok at rK2
 try unfold maxLen at rK2
 have rN2 : r.Name.size ≤ maxLen := by unfold maxLen; omega
 have rL6 := sL rS6
 obtain ⟨rF6, rO6⟩ := rS6
 have rL7 := sL rS7
 obtain ⟨rF7, rO7⟩ := rS7
 have rL8 := sL rS8
 obtain ⟨rF8, rO8⟩ := rS8
 refine ret_Q (vs := [.int .i64 x, .pointer (some ⟨rb, 0, none⟩)]) Tryz.func281 rfl Tryz.ntmps281 rfl (fun Q hQ hN => ?_)
 have H0 := Sep.start (w := w) (F := [box rb (.cells [.int .i64 r.Kind, .int .i64 r.Seq, .string r.Name, .int .i64 r.Length, .int .i64 r.Group, .int .i64 r.Row, .slice rA6 r.Rows.length rC6, .slice rA7 r.Data.length rC7, .slice rA8 r.Delta.length rC8].toArray 68), seen false [.slice rA6 r.Rows.length rC6] r.Rows rF6, seen false [.slice rA7 r.Data.length rC7] r.Data rF7, seen false [.slice rA8 r.Delta.length rC8] r.Delta rF8]) (all_cons (by exact rB) (all_cons rO6 (all_cons rO7 (all_cons rO8 (by simp)))))
 refine W_sr (sA rfl rfl (s_nil (W_seq ?_)))
 obtain ⟨eb1, eo1, ee1, ec1⟩ := elem_u8 (H0.seen 3 rfl) x.toNat (by omega)
 refine W_reg (sV rfl (py_field tu68 rfl ts45 rfl rfl) (sV rfl (py_load tu45 rfl rfl (cell_atL (H0.fbox 0 rfl) rfl)) (sM rfl rfl (sV rfl (py_elz tu45 ts5 rfl rfl ee1 x.toNat (by omega) (by omega)) (sV rfl (py_load tu5 rfl rfl ec1) (sV rfl (py_eql rfl rfl) (sA rfl rfl (s_nil (rT hQ Tryz.results281 rfl ?_)))))))))
 exact ⟨H0.ext, rfl⟩
theorem Tryz_impl_shareFault {w : World} {s : Shape} {r : Rec} {rA6 rA7 rA8 : Option Addr} {rC6 rC7 rC8 : Nat} (rK : r.Ok) (rS6 : Sees w [.slice rA6 r.Rows.length rC6] r.Rows) (rS7 : Sees w [.slice rA7 r.Data.length rC7] r.Data) (rS8 : Sees w [.slice rA8 r.Delta.length rC8] r.Delta) (hs : s.ok = true) : Ret Tryz.prog 201 #[s.v, r.val rA6 rC6 rA7 rC7 rA8 rC8] w fun v w' => Ext No w w' ∧ (v = .int .i64 (if shareOK s r = true then 0 else 3)) := by
 have rK2 := rK
 unfold Rec.Ok at rK2
 try unfold I64ok at rK2
 try unfold maxLen at rK2
 have rN2 : r.Name.size ≤ maxLen := by unfold maxLen; omega
 have rL6 := sL rS6
 obtain ⟨rF6, rO6⟩ := rS6
 have rL7 := sL rS7
 obtain ⟨rF7, rO7⟩ := rS7
 have rL8 := sL rS8
 obtain ⟨rF8, rO8⟩ := rS8
 have sbd := shape_bd hs
 refine ret_Q (vs := [s.v, r.val rA6 rC6 rA7 rC7 rA8 rC8]) Tryz.func201 rfl Tryz.ntmps201 rfl (fun Q hQ hN => ?_)
 have H0 := Sep.start (w := w) (F := [seen false [.slice rA6 r.Rows.length rC6] r.Rows rF6, seen false [.slice rA7 r.Data.length rC7] r.Data rF7, seen false [.slice rA8 r.Delta.length rC8] r.Delta rF8]) (all_cons rO6 (all_cons rO7 (all_cons rO8 (by simp))))
 refine W_sr (s_box (wn rfl) rfl rfl H0 (fun b1 w1 e1 g1 H1 => ?_))
 refine s_box (wn rfl) rfl rfl H1 (fun b2 w2 e2 g2 H2 => ?_)
 refine sA rfl rfl (s_nil (W_seq (W_drw (S := Ext No _) [(0, true), (1, true), (2, true), (3, false), (4, true), (5, true), (6, true), (7, true), (8, false), (9, true), (10, true), (11, true), (12, true), (13, true), (14, false), (15, false), (16, true), (17, true), (18, true), (19, true), (21, true), (20, false), (22, false), (23, true), (24, true), (25, true), (26, true), (27, true), (29, true), (28, false), (30, false), (31, true), (32, true), (33, false)] (by kernel_rfl) (by kernel_rfl) (by kernel_rfl) rfl (fun _ => Ext.refl.drawn _) (fun q1 => ?_))))
 have H3 := H2.drawn q1
 refine dV rfl rfl (fun zw hx => py_loadS tu34 rfl ts34 rfl rfl (At.whole (hx.heap (H3.box 0 rfl)))) (dV rfl rfl (fun zw hx => py_field tu68 rfl ts2 rfl rfl) (dV rfl rfl (fun zw hx => py_load tu2 rfl rfl (cell_atL (hx.heap (H3.box 1 rfl)) rfl)) (d_call rfl (wn rfl) rfl rfl (pc_call Tryz.func71 rfl Tryz_nm71 rfl) (Tryz_impl_Shape_isGroup (by assumption)) (fun hS _ _ r _ => hS.trans r.1.no) (fun v1 w3 r1 => ?_))))
 obtain ⟨e3, rfl⟩ := r1
 have H4 := H3.to e3
 refine dM rfl rfl rfl (d_case (t := 10) rfl (fun hg1 => ?_) (fun hg1 => ?_))
 ·try simp only [decide_eq_true_eq, decide_eq_false_iff_not] at hg1
  refine d_val rfl (wg rfl rfl rfl) rfl rfl (fun zw hx => py_loadS tu34 rfl ts34 rfl rfl (At.whole (hx.heap (H3.box 0 rfl)))) (d_val rfl (wg rfl rfl rfl) rfl rfl (fun zw hx => py_field tu68 rfl ts2 rfl rfl) (d_val rfl (wg rfl rfl rfl) rfl rfl (fun zw hx => py_load tu2 rfl rfl (cell_atL (hx.heap (H3.box 1 rfl)) rfl)) (d_call rfl (wg rfl rfl rfl) rfl rfl (pc_call Tryz.func72 rfl Tryz_nm72 rfl) (Tryz_impl_Shape_isRow (by assumption)) (fun hS _ _ r _ => hS.trans r.1.no) (fun v2 w4 r2 => ?_))))
  obtain ⟨e4, rfl⟩ := r2
  have H5 := H4.to e4
  refine dV rfl rfl (fun zw hx => py_pickT rfl rfl) (dM rfl rfl rfl (d_case (t := 16) rfl (fun hg2 => ?_) (fun hg2 => ?_)))
  ·try simp only [decide_eq_true_eq, decide_eq_false_iff_not] at hg2
   refine d_val rfl (wg rfl rfl rfl) rfl rfl (fun zw hx => py_field tu68 rfl ts25 rfl rfl) (d_val rfl (wg rfl rfl rfl) rfl rfl (fun zw hx => py_load tu25 rfl rfl (cell_atL (hx.heap (H3.box 1 rfl)) rfl)) (d_val rfl (wg rfl rfl rfl) rfl rfl (fun zw hx => py_loadS tu34 rfl ts34 rfl rfl (At.whole (hx.heap (H3.box 0 rfl)))) (d_call rfl (wg rfl rfl rfl) rfl rfl (pc_call Tryz.func100 rfl Tryz_nm100 rfl) (Tryz_impl_Shape_all (by assumption)) (fun hS _ _ r _ => hS.trans r.1.no) (fun v3 w5 r3 => ?_))))
   obtain ⟨e5, rfl⟩ := r3
   have H6 := H5.to e5
   refine d_call rfl (wg rfl rfl rfl) rfl rfl (pc_call Tryz.func279 rfl Tryz_nm279 rfl) (Tryz_impl_risesIn (H6.sees 0 rfl) (by omega)) (fun hS _ _ r _ => hS.trans r.1.no) (fun v4 w6 r4 => ?_)
   obtain ⟨e6, rfl⟩ := r4
   have H7 := H6.to e6
   refine dV rfl rfl (fun zw hx => py_pickT rfl rfl) (dM rfl rfl rfl (d_case (t := 23) rfl (fun hg3 => ?_) (fun hg3 => ?_)))
   ·try simp only [decide_eq_true_eq, decide_eq_false_iff_not] at hg3
    refine d_val rfl (wg rfl rfl rfl) rfl rfl (fun zw hx => py_field tu68 rfl ts45 rfl rfl) (d_val rfl (wg rfl rfl rfl) rfl rfl (fun zw hx => py_load tu45 rfl rfl (cell_atL (hx.heap (H3.box 1 rfl)) rfl)) (d_val rfl (wg rfl rfl rfl) rfl rfl (fun zw hx => py_loadS tu34 rfl ts34 rfl rfl (At.whole (hx.heap (H3.box 0 rfl)))) (d_call rfl (wg rfl rfl rfl) rfl rfl (pc_call Tryz.func202 rfl Tryz_nm202 rfl) (Tryz_size_byte (H7.sees 1 rfl)) (fun hS _ _ r _ => hS.trans r.1.no) (fun v5 w7 r5 => ?_))))
    obtain ⟨e7, rfl⟩ := r5
    have H8 := H7.to e7
    refine d_call rfl (wg rfl rfl rfl) rfl rfl (pc_call Tryz.func203 rfl Tryz_nm203 rfl) (Tryz_impl_Shape_rowLength (by assumption)) (fun hS _ _ r _ => hS.trans r.1.no) (fun v6 w8 r6 => ?_)
    obtain ⟨e8, rfl⟩ := r6
    have H9 := H8.to e8
    refine d_val rfl (wg rfl rfl rfl) rfl rfl (fun zw hx => py_eql rfl rfl) (dV rfl rfl (fun zw hx => py_pickT rfl rfl) (dM rfl rfl rfl (d_case (t := 31) rfl (fun hg4 => ?_) (fun hg4 => ?_))))
    ·try simp only [decide_eq_true_eq, decide_eq_false_iff_not] at hg4
     refine d_val rfl (wg rfl rfl rfl) rfl rfl (fun zw hx => py_field tu68 rfl ts45 rfl rfl) (d_val rfl (wg rfl rfl rfl) rfl rfl (fun zw hx => py_load tu45 rfl rfl (cell_atL (hx.heap (H3.box 1 rfl)) rfl)) (d_val rfl (wg rfl rfl rfl) rfl rfl (fun zw hx => py_loadS tu34 rfl ts34 rfl rfl (At.whole (hx.heap (H3.box 0 rfl)))) (d_call rfl (wg rfl rfl rfl) rfl rfl (pc_call Tryz.func202 rfl Tryz_nm202 rfl) (Tryz_size_byte (H9.sees 2 rfl)) (fun hS _ _ r _ => hS.trans r.1.no) (fun v7 w9 r7 => ?_))))
     obtain ⟨e9, rfl⟩ := r7
     have H10 := H9.to e9
     refine d_call rfl (wg rfl rfl rfl) rfl rfl (pc_call Tryz.func100 rfl Tryz_nm100 rfl) (Tryz_impl_Shape_all (by assumption)) (fun hS _ _ r _ => hS.trans r.1.no) (fun v8 w10 r8 => ?_)
     obtain ⟨e10, rfl⟩ := r8
     have H11 := H10.to e10
     refine d_val rfl (wg rfl rfl rfl) rfl rfl (fun zw hx => py_eql rfl rfl) (dV rfl rfl (fun zw hx => py_pickT rfl rfl) (d_end rfl (wn rfl) rfl rfl (py_assign rfl) (d_nil (W_seq (W_seq ?_)))))
     try have hgb := ins_iff.1 hg1
     refine W_reg (sM rfl rfl (sV rfl (py_notd rfl) (sM rfl rfl (s_case (t := 41) rfl (fun hg5 => ?_) (fun hg5 => ?_)))))
     ·try simp only [decide_eq_true_eq, decide_eq_false_iff_not] at hg5
      refine sKt rfl rfl rfl (sKt rfl rfl rfl (sKt rfl rfl rfl (sKt rfl rfl rfl (sKt rfl rfl rfl (sKt rfl rfl rfl (sKt rfl rfl rfl (sV rfl (py_pickT rfl rfl) (s_nil (W_ift rfl (W_sr (sA rfl rfl (s_nil (rT hQ Tryz.results201 rfl ?_)))))))))))))
      exact ⟨H11.ext, congrArg (Value.int .i64) (if_neg (by simp [shareOK, weightsOK, -List.getD_eq_getElem?_getD, hg1, hg2, hg3, hg4, hg5])).symm⟩
     ·try simp only [decide_eq_true_eq, decide_eq_false_iff_not] at hg5
      refine s_val (wg rfl rfl rfl) rfl rfl (py_field tu68 rfl ts45 rfl rfl) (s_val (wg rfl rfl rfl) rfl rfl (py_load tu45 rfl rfl (cell_atL (H11.box 1 rfl) rfl)) (s_val (wg rfl rfl rfl) rfl rfl (py_field tu68 rfl ts2 rfl rfl) (s_val (wg rfl rfl rfl) rfl rfl (py_load tu2 rfl rfl (cell_atL (H11.box 1 rfl) rfl)) ?_)))
      obtain ⟨eb1, eo1, ee1, ec1⟩ := elem_u8 (H11.seen 2 rfl) r.Group.toNat (by omega)
      refine s_val (wg rfl rfl rfl) rfl rfl (py_elz tu45 ts5 rfl rfl ee1 r.Group.toNat (by omega) (by omega)) (s_val (wg rfl rfl rfl) rfl rfl (py_load tu5 rfl rfl ec1) (s_val (wg rfl rfl rfl) rfl rfl (py_neq rfl rfl) (sV rfl (py_pickF rfl rfl) (s_nil (W_ifd rfl (fun c1 => ?_) (fun c1 => ?_))))))
      ·refine W_sr (sA rfl rfl (s_nil (rT hQ Tryz.results201 rfl ?_)))
       exact ⟨H11.ext, congrArg (Value.int .i64) (if_neg (by simp [shareOK, weight_grp c1])).symm⟩
      ·refine W_skip (W_seq (W_seq ?_))
       have hL : (r.Delta.length : Int) = s.Groups + s.Column := by omega
       have hR : ∀ i, i < r.Rows.length → 0 ≤ r.Rows.getD i 0 ∧ r.Rows.getD i 0 < r.Delta.length := fun i hi => by have := rises_get hg3 i hi; omega
       refine W_reg (sV rfl (py_field tu68 rfl ts25 rfl rfl) (sV rfl (py_load tu25 rfl rfl (cell_atL (H11.box 1 rfl) rfl)) (sV rfl (py_func rfl) (s_call (wn rfl) rfl rfl (pc_call Tryz.func280 rfl Tryz_nm280 rfl) (Tryz_ContainsFunc_int64 (H11.sees 0 rfl) (p := (fun k => decide (((r.Delta.getD (k).toNat 0).toNat : Int) = 0))) Tryz.func281 rfl Tryz_nm281 (fun w1 e1 i0 hi0 => Tryz_impl_shareFault_1 ((H11.to e1).box 1 rfl) (by assumption) ((H11.to e1).sees 0 rfl) ((H11.to e1).sees 1 rfl) ((H11.to e1).sees 2 rfl) (hR i0 hi0))) (fun v9 w11 r9 => ?_)))))
       obtain ⟨e11, rfl⟩ := r9
       have H12 := H11.to e11
       refine s_nil (W_if rfl (fun c2 => ?_) (fun c2 => ?_))
       ·refine W_sr (sA rfl rfl (s_nil (rT hQ Tryz.results201 rfl ?_)))
        exact ⟨H12.ext, congrArg (Value.int .i64) (if_neg (by simp [shareOK, weight_any (by assumption)])).symm⟩
       ·refine W_skip (W_sr (sA rfl rfl (s_nil (rT hQ Tryz.results201 rfl ?_))))
        exact ⟨H12.ext, congrArg (Value.int .i64) (if_pos (by rw [shareOK, weight_none hL (by omega) (by assumption)]; simp [hg1, hg2, hg3, hg4, hg5])).symm⟩
    ·try simp only [decide_eq_true_eq, decide_eq_false_iff_not] at hg4
     refine dKf rfl rfl rfl rfl (dKf rfl rfl rfl rfl (dKf rfl rfl rfl rfl (d_skipA rfl (wog (b := false) rfl rfl rfl) rfl rfl (d_skipA rfl (wog (b := false) rfl rfl rfl) rfl rfl (dKf rfl rfl rfl rfl (dV rfl rfl (fun zw hx => py_pickF rfl rfl) (d_end rfl (wn rfl) rfl rfl (py_assign rfl) (d_nil (W_seq (W_seq ?_))))))))))
     try have hgb := ins_iff.1 hg1
     refine W_reg (sM rfl rfl (sV rfl (py_not rfl) (sM rfl rfl (sKt rfl rfl rfl (sKt rfl rfl rfl (sKt rfl rfl rfl (sKt rfl rfl rfl (sKt rfl rfl rfl (sKt rfl rfl rfl (sKt rfl rfl rfl (sV rfl (py_pickT rfl rfl) (s_nil (W_ift rfl (W_sr (sA rfl rfl (s_nil (rT hQ Tryz.results201 rfl ?_)))))))))))))))))
     exact ⟨H9.ext, congrArg (Value.int .i64) (if_neg (by simp [shareOK, weightsOK, -List.getD_eq_getElem?_getD, hg1, hg2, hg3, hg4])).symm⟩
   ·try simp only [decide_eq_true_eq, decide_eq_false_iff_not] at hg3
    refine dKf rfl rfl rfl rfl (dKf rfl rfl rfl rfl (dKf rfl rfl rfl rfl (d_skipA rfl (wog (b := false) rfl rfl rfl) rfl rfl (d_skipA rfl (wog (b := false) rfl rfl rfl) rfl rfl (dKf rfl rfl rfl rfl (dV rfl rfl (fun zw hx => py_pickF rfl rfl) (dM rfl rfl rfl (dKf rfl rfl rfl rfl (dKf rfl rfl rfl rfl (dKf rfl rfl rfl rfl (d_skipA rfl (wog (b := false) rfl rfl rfl) rfl rfl (d_skipA rfl (wog (b := false) rfl rfl rfl) rfl rfl (dKf rfl rfl rfl rfl (dV rfl rfl (fun zw hx => py_pickF rfl rfl) (d_end rfl (wn rfl) rfl rfl (py_assign rfl) (d_nil (W_seq (W_seq ?_))))))))))))))))))
    try have hgb := ins_iff.1 hg1
    refine W_reg (sM rfl rfl (sV rfl (py_not rfl) (sM rfl rfl (sKt rfl rfl rfl (sKt rfl rfl rfl (sKt rfl rfl rfl (sKt rfl rfl rfl (sKt rfl rfl rfl (sKt rfl rfl rfl (sKt rfl rfl rfl (sV rfl (py_pickT rfl rfl) (s_nil (W_ift rfl (W_sr (sA rfl rfl (s_nil (rT hQ Tryz.results201 rfl ?_)))))))))))))))))
    exact ⟨H7.ext, congrArg (Value.int .i64) (if_neg (by simp [shareOK, weightsOK, -List.getD_eq_getElem?_getD, hg1, hg2, hg3])).symm⟩
  ·try simp only [decide_eq_true_eq, decide_eq_false_iff_not] at hg2
   refine dKf rfl rfl rfl rfl (dKf rfl rfl rfl rfl (dKf rfl rfl rfl rfl (d_skipA rfl (wog (b := false) rfl rfl rfl) rfl rfl (d_skipA rfl (wog (b := false) rfl rfl rfl) rfl rfl (dV rfl rfl (fun zw hx => py_pickF rfl rfl) (dM rfl rfl rfl (dKf rfl rfl rfl rfl (dKf rfl rfl rfl rfl (dKf rfl rfl rfl rfl (d_skipA rfl (wog (b := false) rfl rfl rfl) rfl rfl (d_skipA rfl (wog (b := false) rfl rfl rfl) rfl rfl (dKf rfl rfl rfl rfl (dV rfl rfl (fun zw hx => py_pickF rfl rfl) (dM rfl rfl rfl (dKf rfl rfl rfl rfl (dKf rfl rfl rfl rfl (dKf rfl rfl rfl rfl (d_skipA rfl (wog (b := false) rfl rfl rfl) rfl rfl (d_skipA rfl (wog (b := false) rfl rfl rfl) rfl rfl (dKf rfl rfl rfl rfl (dV rfl rfl (fun zw hx => py_pickF rfl rfl) (d_end rfl (wn rfl) rfl rfl (py_assign rfl) (d_nil (W_seq (W_seq ?_)))))))))))))))))))))))))
   try have hgb := ins_iff.1 hg1
   refine W_reg (sM rfl rfl (sV rfl (py_not rfl) (sM rfl rfl (sKt rfl rfl rfl (sKt rfl rfl rfl (sKt rfl rfl rfl (sKt rfl rfl rfl (sKt rfl rfl rfl (sKt rfl rfl rfl (sKt rfl rfl rfl (sV rfl (py_pickT rfl rfl) (s_nil (W_ift rfl (W_sr (sA rfl rfl (s_nil (rT hQ Tryz.results201 rfl ?_)))))))))))))))))
   exact ⟨H5.ext, congrArg (Value.int .i64) (if_neg (by simp [shareOK, weightsOK, -List.getD_eq_getElem?_getD, hg1, hg2])).symm⟩
 ·try simp only [decide_eq_true_eq, decide_eq_false_iff_not] at hg1
  refine dKf rfl rfl rfl rfl (dKf rfl rfl rfl rfl (dKf rfl rfl rfl rfl (d_skipA rfl (wog (b := false) rfl rfl rfl) rfl rfl (dV rfl rfl (fun zw hx => py_pickF rfl rfl) (dM rfl rfl rfl (dKf rfl rfl rfl rfl (dKf rfl rfl rfl rfl (dKf rfl rfl rfl rfl (d_skipA rfl (wog (b := false) rfl rfl rfl) rfl rfl (d_skipA rfl (wog (b := false) rfl rfl rfl) rfl rfl (dV rfl rfl (fun zw hx => py_pickF rfl rfl) (dM rfl rfl rfl (dKf rfl rfl rfl rfl (dKf rfl rfl rfl rfl (dKf rfl rfl rfl rfl (d_skipA rfl (wog (b := false) rfl rfl rfl) rfl rfl (d_skipA rfl (wog (b := false) rfl rfl rfl) rfl rfl (dKf rfl rfl rfl rfl (dV rfl rfl (fun zw hx => py_pickF rfl rfl) (dM rfl rfl rfl (dKf rfl rfl rfl rfl (dKf rfl rfl rfl rfl (dKf rfl rfl rfl rfl (d_skipA rfl (wog (b := false) rfl rfl rfl) rfl rfl (d_skipA rfl (wog (b := false) rfl rfl rfl) rfl rfl (dKf rfl rfl rfl rfl (dV rfl rfl (fun zw hx => py_pickF rfl rfl) (d_end rfl (wn rfl) rfl rfl (py_assign rfl) (d_nil (W_seq (W_seq ?_)))))))))))))))))))))))))))))))
  try have hgb := ins_iff.1 hg1
  refine W_reg (sM rfl rfl (sV rfl (py_not rfl) (sM rfl rfl (sKt rfl rfl rfl (sKt rfl rfl rfl (sKt rfl rfl rfl (sKt rfl rfl rfl (sKt rfl rfl rfl (sKt rfl rfl rfl (sKt rfl rfl rfl (sV rfl (py_pickT rfl rfl) (s_nil (W_ift rfl (W_sr (sA rfl rfl (s_nil (rT hQ Tryz.results201 rfl ?_)))))))))))))))))
  exact ⟨H4.ext, congrArg (Value.int .i64) (if_neg (by simp [shareOK, weightsOK, -List.getD_eq_getElem?_getD, hg1])).symm⟩
set_option maxHeartbeats 1000000 in
theorem Tryz_impl_Rec_bare {w : World} {r : Rec} {rA6 rA7 rA8 : Option Addr} {rC6 rC7 rC8 : Nat} (rK : r.Ok) (rS6 : Sees w [.slice rA6 r.Rows.length rC6] r.Rows) (rS7 : Sees w [.slice rA7 r.Data.length rC7] r.Data) (rS8 : Sees w [.slice rA8 r.Delta.length rC8] r.Delta) : Ret Tryz.prog 205 #[r.val rA6 rC6 rA7 rC7 rA8 rC8] w fun v w' => Ext No w w' ∧ (∃ A6 C6 A7 C7 A8 C8, v = (recOf r).val A6 C6 A7 C7 A8 C8 ∧ Sees w' [.slice A6 (recOf r).Rows.length C6] (recOf r).Rows ∧ Sees w' [.slice A7 (recOf r).Data.length C7] (recOf r).Data ∧ Sees w' [.slice A8 (recOf r).Delta.length C8] (recOf r).Delta) := by
 have rK2 := rK
 unfold Rec.Ok at rK2
 try unfold I64ok at rK2
 try unfold maxLen at rK2
 have rN2 : r.Name.size ≤ maxLen := by unfold maxLen; omega
 have rL6 := sL rS6
 obtain ⟨rF6, rO6⟩ := rS6
 have rL7 := sL rS7
 obtain ⟨rF7, rO7⟩ := rS7
 have rL8 := sL rS8
 obtain ⟨rF8, rO8⟩ := rS8
 refine ret_Q (vs := [r.val rA6 rC6 rA7 rC7 rA8 rC8]) Tryz.func205 rfl Tryz.ntmps205 rfl (fun Q hQ hN => ?_)
 have H0 := Sep.start (w := w) (F := [seen false [.slice rA6 r.Rows.length rC6] r.Rows rF6, seen false [.slice rA7 r.Data.length rC7] r.Data rF7, seen false [.slice rA8 r.Delta.length rC8] r.Delta rF8]) (all_cons rO6 (all_cons rO7 (all_cons rO8 (by simp))))
 refine W_sr (s_box (wn rfl) rfl rfl H0 (fun b1 w1 e1 g1 H1 => ?_))
 refine s_var (wn rfl) rfl Tryz.zeroValue68 H1 (fun b2 w2 e2 g2 H2 => ?_)
 refine s_nil (W_sr (sV rfl (py_field tu68 rfl ts2 rfl rfl) (sV rfl (py_load tu2 rfl rfl (cell_atL (H2.box 0 rfl) rfl)) (sV rfl (py_field tu68 rfl ts2 rfl rfl) (sV rfl (py_load tu2 rfl rfl (cell_atL (H2.box 0 rfl) rfl)) (sV rfl (py_buildS Tryz_pl68 rfl rfl) (s_var (wn rfl) rfl Tryz.zeroValue68 H2 (fun b3 w3 e3 g3 H3 => ?_))))))))
 refine s_stoS (wn rfl) ts68 rfl rfl rfl rfl H3 2 rfl rfl (fun w4 e4 H4 => ?_)
 dsimp only [lNA, lCA, lSZ, lSS, layL] at H4
 refine s_nil (W_seq (W_sr (sV rfl (py_field tu68 rfl ts2 rfl rfl) (sV rfl (py_load tu2 rfl rfl (cell_atL (H4.box 0 rfl) rfl)) (s_nil (W_block (W_sr (sV rfl (py_eql rfl rfl) (sA rfl rfl (s_nil (W_ifd rfl (fun c1 => ?_) (fun c1 => ?_))))))))))))
 ·refine W_drw (S := Ext (· ∈ [b3]) _) [(0, true), (1, true), (2, true), (3, true), (4, true), (5, true), (6, true), (7, true), (8, true), (9, false), (10, true), (11, false), (12, true), (13, false), (14, true), (15, false)] (by kernel_rfl) (by kernel_rfl) (by kernel_rfl) rfl (fun _ => Ext.refl.drawn _) (fun q1 => ?_)
  have H5 := H4.drawn q1
  refine dV rfl rfl (fun zw hx => py_field tu68 rfl ts9 rfl rfl) (dV rfl rfl (fun zw hx => py_load tu9 rfl rfl (cell_atL (hx.heapM (H5.boff 0 rfl 2 rfl rfl) (H5.box 0 rfl)) rfl)) (dV rfl rfl (fun zw hx => py_field tu68 rfl ts2 rfl rfl) (dV rfl rfl (fun zw hx => py_load tu2 rfl rfl (cell_atL (hx.heapM (H5.boff 0 rfl 2 rfl rfl) (H5.box 0 rfl)) rfl)) (dV rfl rfl (fun zw hx => py_field tu68 rfl ts45 rfl rfl) (dV rfl rfl (fun zw hx => py_load tu45 rfl rfl (cell_atL (hx.heapM (H5.boff 0 rfl 2 rfl rfl) (H5.box 0 rfl)) rfl)) (dV rfl rfl (fun zw hx => py_field tu68 rfl ts25 rfl rfl) (dV rfl rfl (fun zw hx => py_load tu25 rfl rfl (cell_atL (hx.heapM (H5.boff 0 rfl 2 rfl rfl) (H5.box 0 rfl)) rfl)) (dV rfl rfl (fun zw hx => py_field tu68 rfl ts9 rfl rfl) (d_sto rfl (wn rfl) ts9 rfl rfl rfl H5 2 rfl rfl (fun _ h e _ => h.trans (e.mono fun _ _ q => by simp [q])) (fun w5 e5 H6 => ?_))))))))))
  dsimp only [lNA, lCA, lSZ, lSS, layL] at H6
  refine dV rfl rfl (fun zw hx => py_field tu68 rfl ts2 rfl rfl) (d_sto rfl (wn rfl) ts2 rfl rfl rfl H6 2 rfl rfl (fun _ h e _ => h.trans (e.mono fun _ _ q => by simp [q])) (fun w6 e6 H7 => ?_))
  dsimp only [lNA, lCA, lSZ, lSS, layL] at H7
  refine dV rfl rfl (fun zw hx => py_field tu68 rfl ts45 rfl rfl) (d_sto rfl (wn rfl) ts45 rfl rfl rfl H7 2 rfl rfl (fun _ h e _ => h.trans (e.mono fun _ _ q => by simp [q])) (fun w7 e7 H8 => ?_))
  dsimp only [lNA, lCA, lSZ, lSS, layL] at H8
  refine dV rfl rfl (fun zw hx => py_field tu68 rfl ts25 rfl rfl) (d_sto rfl (wn rfl) ts25 rfl rfl rfl H8 2 rfl rfl (fun _ h e _ => h.trans (e.mono fun _ _ q => by simp [q])) (fun w8 e8 H9 => ?_))
  dsimp only [lNA, lCA, lSZ, lSS, layL] at H9
  refine d_nil (W_sr (sV rfl (py_loadS tu68 rfl ts68 rfl rfl (At.whole (H9.box 2 rfl))) (s_stoS (wn rfl) ts68 rfl rfl rfl rfl H9 1 rfl rfl (fun w9 e9 H10 => ?_))))
  dsimp only [lNA, lCA, lSZ, lSS, layL] at H10
  refine s_nil (W_ret (hQ _ _ (finC Tryz.results205 rfl (run_loadVarS tu68 rfl ts68 rfl (At.whole (H10.box 1 rfl))) ?_)))
  have eR : recOf r = _ := recOf_0 c1
  refine ⟨H10.ext, ?_⟩
  rw [eR]
  exact ⟨_, _, _, _, _, _, rfl, (H10.sees 0 rfl), (H10.sees 1 rfl), ⟨[], .inr (.inl ⟨rfl, rfl, rfl⟩)⟩⟩
 ·refine W_sr (sV rfl (py_eql rfl rfl) (sA rfl rfl (s_nil (W_ifd rfl (fun c2 => ?_) (fun c2 => ?_)))))
  ·refine W_drw (S := Ext (· ∈ [b3]) _) [(0, true), (1, true), (2, true), (3, true), (4, true), (5, true), (6, true), (7, true), (8, true), (9, false), (10, true), (11, false), (12, true), (13, false), (14, true), (15, false)] (by kernel_rfl) (by kernel_rfl) (by kernel_rfl) rfl (fun _ => Ext.refl.drawn _) (fun q2 => ?_)
   have H11 := H4.drawn q2
   refine dV rfl rfl (fun zw hx => py_field tu68 rfl ts2 rfl rfl) (dV rfl rfl (fun zw hx => py_load tu2 rfl rfl (cell_atL (hx.heapM (H11.boff 0 rfl 2 rfl rfl) (H11.box 0 rfl)) rfl)) (dV rfl rfl (fun zw hx => py_field tu68 rfl ts2 rfl rfl) (dV rfl rfl (fun zw hx => py_load tu2 rfl rfl (cell_atL (hx.heapM (H11.boff 0 rfl 2 rfl rfl) (H11.box 0 rfl)) rfl)) (dV rfl rfl (fun zw hx => py_field tu68 rfl ts45 rfl rfl) (dV rfl rfl (fun zw hx => py_load tu45 rfl rfl (cell_atL (hx.heapM (H11.boff 0 rfl 2 rfl rfl) (H11.box 0 rfl)) rfl)) (dV rfl rfl (fun zw hx => py_field tu68 rfl ts45 rfl rfl) (dV rfl rfl (fun zw hx => py_load tu45 rfl rfl (cell_atL (hx.heapM (H11.boff 0 rfl 2 rfl rfl) (H11.box 0 rfl)) rfl)) (dV rfl rfl (fun zw hx => py_field tu68 rfl ts2 rfl rfl) (d_sto rfl (wn rfl) ts2 rfl rfl rfl H11 2 rfl rfl (fun _ h e _ => h.trans (e.mono fun _ _ q => by simp [q])) (fun w10 e10 H12 => ?_))))))))))
   dsimp only [lNA, lCA, lSZ, lSS, layL] at H12
   refine dV rfl rfl (fun zw hx => py_field tu68 rfl ts2 rfl rfl) (d_sto rfl (wn rfl) ts2 rfl rfl rfl H12 2 rfl rfl (fun _ h e _ => h.trans (e.mono fun _ _ q => by simp [q])) (fun w11 e11 H13 => ?_))
   dsimp only [lNA, lCA, lSZ, lSS, layL] at H13
   refine dV rfl rfl (fun zw hx => py_field tu68 rfl ts45 rfl rfl) (d_sto rfl (wn rfl) ts45 rfl rfl rfl H13 2 rfl rfl (fun _ h e _ => h.trans (e.mono fun _ _ q => by simp [q])) (fun w12 e12 H14 => ?_))
   dsimp only [lNA, lCA, lSZ, lSS, layL] at H14
   refine dV rfl rfl (fun zw hx => py_field tu68 rfl ts45 rfl rfl) (d_sto rfl (wn rfl) ts45 rfl rfl rfl H14 2 rfl rfl (fun _ h e _ => h.trans (e.mono fun _ _ q => by simp [q])) (fun w13 e13 H15 => ?_))
   dsimp only [lNA, lCA, lSZ, lSS, layL] at H15
   refine d_nil (W_sr (sV rfl (py_loadS tu68 rfl ts68 rfl rfl (At.whole (H15.box 2 rfl))) (s_stoS (wn rfl) ts68 rfl rfl rfl rfl H15 1 rfl rfl (fun w14 e14 H16 => ?_))))
   dsimp only [lNA, lCA, lSZ, lSS, layL] at H16
   refine s_nil (W_ret (hQ _ _ (finC Tryz.results205 rfl (run_loadVarS tu68 rfl ts68 rfl (At.whole (H16.box 1 rfl))) ?_)))
   have eR : recOf r = _ := recOf_1 c1 c2
   refine ⟨H16.ext, ?_⟩
   rw [eR]
   exact ⟨_, _, _, _, _, _, rfl, ⟨[], .inr (.inl ⟨rfl, rfl, rfl⟩)⟩, (H16.sees 1 rfl), (H16.sees 2 rfl)⟩
  ·refine W_sr (sV rfl (py_eql rfl rfl) (sA rfl rfl (s_nil (W_ifd rfl (fun c3 => ?_) (fun c3 => ?_)))))
   ·refine W_reg (sV rfl (py_field tu68 rfl ts2 rfl rfl) (sV rfl (py_load tu2 rfl rfl (cell_atL (H4.box 0 rfl) rfl)) (sV rfl (py_field tu68 rfl ts2 rfl rfl) (s_sto (wn rfl) ts2 rfl rfl rfl H4 2 rfl rfl (fun w15 e15 H17 => ?_)))))
    dsimp only [lNA, lCA, lSZ, lSS, layL] at H17
    refine s_nil (W_sr (sV rfl (py_loadS tu68 rfl ts68 rfl rfl (At.whole (H17.box 2 rfl))) (s_stoS (wn rfl) ts68 rfl rfl rfl rfl H17 1 rfl rfl (fun w16 e16 H18 => ?_))))
    dsimp only [lNA, lCA, lSZ, lSS, layL] at H18
    refine s_nil (W_ret (hQ _ _ (finC Tryz.results205 rfl (run_loadVarS tu68 rfl ts68 rfl (At.whole (H18.box 1 rfl))) ?_)))
    have eR : recOf r = _ := recOf_2 c1 c2 c3
    refine ⟨H18.ext, ?_⟩
    rw [eR]
    exact ⟨_, _, _, _, _, _, rfl, ⟨[], .inr (.inl ⟨rfl, rfl, rfl⟩)⟩, ⟨[], .inr (.inl ⟨rfl, rfl, rfl⟩)⟩, ⟨[], .inr (.inl ⟨rfl, rfl, rfl⟩)⟩⟩
   ·refine W_sr (sV rfl (py_eql rfl rfl) (sA rfl rfl (s_nil (W_ifd rfl (fun c4 => ?_) (fun c4 => ?_)))))
    ·refine W_drw (S := Ext (· ∈ [b3]) _) [(0, true), (1, true), (2, true), (3, true), (4, true), (5, true), (6, true), (7, true), (8, true), (9, true), (10, true), (11, false), (12, true), (13, false), (14, true), (15, false), (16, true), (17, false), (18, true), (19, false)] (by kernel_rfl) (by kernel_rfl) (by kernel_rfl) rfl (fun _ => Ext.refl.drawn _) (fun q3 => ?_)
     have H19 := H4.drawn q3
     refine dV rfl rfl (fun zw hx => py_field tu68 rfl ts2 rfl rfl) (dV rfl rfl (fun zw hx => py_load tu2 rfl rfl (cell_atL (hx.heapM (H19.boff 0 rfl 2 rfl rfl) (H19.box 0 rfl)) rfl)) (dV rfl rfl (fun zw hx => py_field tu68 rfl ts2 rfl rfl) (dV rfl rfl (fun zw hx => py_load tu2 rfl rfl (cell_atL (hx.heapM (H19.boff 0 rfl 2 rfl rfl) (H19.box 0 rfl)) rfl)) (dV rfl rfl (fun zw hx => py_field tu68 rfl ts25 rfl rfl) (dV rfl rfl (fun zw hx => py_load tu25 rfl rfl (cell_atL (hx.heapM (H19.boff 0 rfl 2 rfl rfl) (H19.box 0 rfl)) rfl)) (dV rfl rfl (fun zw hx => py_field tu68 rfl ts45 rfl rfl) (dV rfl rfl (fun zw hx => py_load tu45 rfl rfl (cell_atL (hx.heapM (H19.boff 0 rfl 2 rfl rfl) (H19.box 0 rfl)) rfl)) (dV rfl rfl (fun zw hx => py_field tu68 rfl ts45 rfl rfl) (dV rfl rfl (fun zw hx => py_load tu45 rfl rfl (cell_atL (hx.heapM (H19.boff 0 rfl 2 rfl rfl) (H19.box 0 rfl)) rfl)) (dV rfl rfl (fun zw hx => py_field tu68 rfl ts2 rfl rfl) (d_sto rfl (wn rfl) ts2 rfl rfl rfl H19 2 rfl rfl (fun _ h e _ => h.trans (e.mono fun _ _ q => by simp [q])) (fun w17 e17 H20 => ?_))))))))))))
     dsimp only [lNA, lCA, lSZ, lSS, layL] at H20
     refine dV rfl rfl (fun zw hx => py_field tu68 rfl ts2 rfl rfl) (d_sto rfl (wn rfl) ts2 rfl rfl rfl H20 2 rfl rfl (fun _ h e _ => h.trans (e.mono fun _ _ q => by simp [q])) (fun w18 e18 H21 => ?_))
     dsimp only [lNA, lCA, lSZ, lSS, layL] at H21
     refine dV rfl rfl (fun zw hx => py_field tu68 rfl ts25 rfl rfl) (d_sto rfl (wn rfl) ts25 rfl rfl rfl H21 2 rfl rfl (fun _ h e _ => h.trans (e.mono fun _ _ q => by simp [q])) (fun w19 e19 H22 => ?_))
     dsimp only [lNA, lCA, lSZ, lSS, layL] at H22
     refine dV rfl rfl (fun zw hx => py_field tu68 rfl ts45 rfl rfl) (d_sto rfl (wn rfl) ts45 rfl rfl rfl H22 2 rfl rfl (fun _ h e _ => h.trans (e.mono fun _ _ q => by simp [q])) (fun w20 e20 H23 => ?_))
     dsimp only [lNA, lCA, lSZ, lSS, layL] at H23
     refine dV rfl rfl (fun zw hx => py_field tu68 rfl ts45 rfl rfl) (d_sto rfl (wn rfl) ts45 rfl rfl rfl H23 2 rfl rfl (fun _ h e _ => h.trans (e.mono fun _ _ q => by simp [q])) (fun w21 e21 H24 => ?_))
     dsimp only [lNA, lCA, lSZ, lSS, layL] at H24
     refine d_nil (W_sr (sV rfl (py_loadS tu68 rfl ts68 rfl rfl (At.whole (H24.box 2 rfl))) (s_stoS (wn rfl) ts68 rfl rfl rfl rfl H24 1 rfl rfl (fun w22 e22 H25 => ?_))))
     dsimp only [lNA, lCA, lSZ, lSS, layL] at H25
     refine s_nil (W_ret (hQ _ _ (finC Tryz.results205 rfl (run_loadVarS tu68 rfl ts68 rfl (At.whole (H25.box 1 rfl))) ?_)))
     have eR : recOf r = _ := recOf_3 c1 c2 c3 c4
     refine ⟨H25.ext, ?_⟩
     rw [eR]
     exact ⟨_, _, _, _, _, _, rfl, (H25.sees 0 rfl), (H25.sees 1 rfl), (H25.sees 2 rfl)⟩
    ·refine W_skip (W_sr (sV rfl (py_loadS tu68 rfl ts68 rfl rfl (At.whole (H4.box 2 rfl))) (s_stoS (wn rfl) ts68 rfl rfl rfl rfl H4 1 rfl rfl (fun w23 e23 H26 => ?_))))
     dsimp only [lNA, lCA, lSZ, lSS, layL] at H26
     refine s_nil (W_ret (hQ _ _ (finC Tryz.results205 rfl (run_loadVarS tu68 rfl ts68 rfl (At.whole (H26.box 1 rfl))) ?_)))
     have eR : recOf r = _ := recOf_4 c1 c2 c3 c4
     refine ⟨H26.ext, ?_⟩
     rw [eR]
     exact ⟨_, _, _, _, _, _, rfl, ⟨[], .inr (.inl ⟨rfl, rfl, rfl⟩)⟩, ⟨[], .inr (.inl ⟨rfl, rfl, rfl⟩)⟩, ⟨[], .inr (.inl ⟨rfl, rfl, rfl⟩)⟩⟩
theorem Tryz_impl_sameRec {w : World} {a b : Rec} {aA6 aA7 aA8 bA6 bA7 bA8 : Option Addr} {aC6 aC7 aC8 bC6 bC7 bC8 : Nat} (aK : a.Ok) (aS6 : Sees w [.slice aA6 a.Rows.length aC6] a.Rows) (aS7 : Sees w [.slice aA7 a.Data.length aC7] a.Data) (aS8 : Sees w [.slice aA8 a.Delta.length aC8] a.Delta) (bK : b.Ok) (bS6 : Sees w [.slice bA6 b.Rows.length bC6] b.Rows) (bS7 : Sees w [.slice bA7 b.Data.length bC7] b.Data) (bS8 : Sees w [.slice bA8 b.Delta.length bC8] b.Delta) : Ret Tryz.prog 204 #[a.val aA6 aC6 aA7 aC7 aA8 aC8, b.val bA6 bC6 bA7 bC7 bA8 bC8] w fun v w' => Ext No w w' ∧ (v = .bool (decide (a = b))) := by
 have aK2 := aK
 unfold Rec.Ok at aK2
 try unfold I64ok at aK2
 try unfold maxLen at aK2
 have aN2 : a.Name.size ≤ maxLen := by unfold maxLen; omega
 have aL6 := sL aS6
 obtain ⟨aF6, aO6⟩ := aS6
 have aL7 := sL aS7
 obtain ⟨aF7, aO7⟩ := aS7
 have aL8 := sL aS8
 obtain ⟨aF8, aO8⟩ := aS8
 have bK2 := bK
 unfold Rec.Ok at bK2
 try unfold I64ok at bK2
 try unfold maxLen at bK2
 have bN2 : b.Name.size ≤ maxLen := by unfold maxLen; omega
 have bL6 := sL bS6
 obtain ⟨bF6, bO6⟩ := bS6
 have bL7 := sL bS7
 obtain ⟨bF7, bO7⟩ := bS7
 have bL8 := sL bS8
 obtain ⟨bF8, bO8⟩ := bS8
 refine ret_Q (vs := [a.val aA6 aC6 aA7 aC7 aA8 aC8, b.val bA6 bC6 bA7 bC7 bA8 bC8]) Tryz.func204 rfl Tryz.ntmps204 rfl (fun Q hQ hN => ?_)
 have H0 := Sep.start (w := w) (F := [seen false [.slice aA6 a.Rows.length aC6] a.Rows aF6, seen false [.slice aA7 a.Data.length aC7] a.Data aF7, seen false [.slice aA8 a.Delta.length aC8] a.Delta aF8, seen false [.slice bA6 b.Rows.length bC6] b.Rows bF6, seen false [.slice bA7 b.Data.length bC7] b.Data bF7, seen false [.slice bA8 b.Delta.length bC8] b.Delta bF8]) (all_cons aO6 (all_cons aO7 (all_cons aO8 (all_cons bO6 (all_cons bO7 (all_cons bO8 (by simp)))))))
 refine W_sr (s_box (wn rfl) rfl rfl H0 (fun b1 w1 e1 g1 H1 => ?_))
 refine s_box (wn rfl) rfl rfl H1 (fun b2 w2 e2 g2 H2 => ?_)
 refine sA rfl rfl (s_nil (W_sr (sV rfl (py_field tu68 rfl ts2 rfl rfl) (sV rfl (py_load tu2 rfl rfl (cell_atL (H2.box 0 rfl) rfl)) (sV rfl (py_field tu68 rfl ts2 rfl rfl) (sV rfl (py_load tu2 rfl rfl (cell_atL (H2.box 1 rfl) rfl)) (sV rfl (py_eql rfl rfl) (sM rfl rfl (s_grp 5 (j := 5) (want := true) (t := 15) rfl rfl rfl rfl (fun hg1 kk1 => s_val (wgE rfl rfl rfl hg1) rfl rfl (py_field tu68 rfl ts2 rfl rfl) (s_val (wgE rfl rfl rfl hg1) rfl rfl (py_load tu2 rfl rfl (cell_atL (H2.box 0 rfl) rfl)) (s_val (wgE rfl rfl rfl hg1) rfl rfl (py_field tu68 rfl ts2 rfl rfl) (s_val (wgE rfl rfl rfl hg1) rfl rfl (py_load tu2 rfl rfl (cell_atL (H2.box 1 rfl) rfl)) (s_val (wgE rfl rfl rfl hg1) rfl rfl (py_eql rfl rfl) (kk1 _ _ (kx rfl (kx rfl (kx rfl (kx rfl (kx rfl k0))))) rfl Ext.refl)))))) (fun w3 e3 => ?_))))))))))
 have H3 := H2.to e3
 refine sV rfl (py_band rfl rfl) (sM rfl rfl (s_grp 5 (j := 12) (want := true) (t := 22) rfl rfl rfl rfl (fun hg2 kk2 => s_val (wgE rfl rfl rfl hg2) rfl rfl (py_field tu68 rfl ts9 rfl rfl) (s_val (wgE rfl rfl rfl hg2) rfl rfl (py_load tu9 rfl rfl (cell_atL (H3.box 0 rfl) rfl)) (s_val (wgE rfl rfl rfl hg2) rfl rfl (py_field tu68 rfl ts9 rfl rfl) (s_val (wgE rfl rfl rfl hg2) rfl rfl (py_load tu9 rfl rfl (cell_atL (H3.box 1 rfl) rfl)) (s_val (wgE rfl rfl rfl hg2) rfl rfl (py_seql rfl rfl) (kk2 _ _ (kx rfl (kx rfl (kx rfl (kx rfl (kx rfl k0))))) rfl Ext.refl)))))) (fun w4 e4 => ?_)))
 have H4 := H3.to e4
 refine sV rfl (py_band rfl rfl) (sM rfl rfl (s_grp 5 (j := 19) (want := true) (t := 29) rfl rfl rfl rfl (fun hg3 kk3 => s_val (wgE rfl rfl rfl hg3) rfl rfl (py_field tu68 rfl ts2 rfl rfl) (s_val (wgE rfl rfl rfl hg3) rfl rfl (py_load tu2 rfl rfl (cell_atL (H4.box 0 rfl) rfl)) (s_val (wgE rfl rfl rfl hg3) rfl rfl (py_field tu68 rfl ts2 rfl rfl) (s_val (wgE rfl rfl rfl hg3) rfl rfl (py_load tu2 rfl rfl (cell_atL (H4.box 1 rfl) rfl)) (s_val (wgE rfl rfl rfl hg3) rfl rfl (py_eql rfl rfl) (kk3 _ _ (kx rfl (kx rfl (kx rfl (kx rfl (kx rfl k0))))) rfl Ext.refl)))))) (fun w5 e5 => ?_)))
 have H5 := H4.to e5
 refine sV rfl (py_band rfl rfl) (sM rfl rfl (s_grp 5 (j := 26) (want := true) (t := 36) rfl rfl rfl rfl (fun hg4 kk4 => s_val (wgE rfl rfl rfl hg4) rfl rfl (py_field tu68 rfl ts2 rfl rfl) (s_val (wgE rfl rfl rfl hg4) rfl rfl (py_load tu2 rfl rfl (cell_atL (H5.box 0 rfl) rfl)) (s_val (wgE rfl rfl rfl hg4) rfl rfl (py_field tu68 rfl ts2 rfl rfl) (s_val (wgE rfl rfl rfl hg4) rfl rfl (py_load tu2 rfl rfl (cell_atL (H5.box 1 rfl) rfl)) (s_val (wgE rfl rfl rfl hg4) rfl rfl (py_eql rfl rfl) (kk4 _ _ (kx rfl (kx rfl (kx rfl (kx rfl (kx rfl k0))))) rfl Ext.refl)))))) (fun w6 e6 => ?_)))
 have H6 := H5.to e6
 refine sV rfl (py_band rfl rfl) (sM rfl rfl (s_grp 5 (j := 33) (want := true) (t := 43) rfl rfl rfl rfl (fun hg5 kk5 => s_val (wgE rfl rfl rfl hg5) rfl rfl (py_field tu68 rfl ts2 rfl rfl) (s_val (wgE rfl rfl rfl hg5) rfl rfl (py_load tu2 rfl rfl (cell_atL (H6.box 0 rfl) rfl)) (s_val (wgE rfl rfl rfl hg5) rfl rfl (py_field tu68 rfl ts2 rfl rfl) (s_val (wgE rfl rfl rfl hg5) rfl rfl (py_load tu2 rfl rfl (cell_atL (H6.box 1 rfl) rfl)) (s_val (wgE rfl rfl rfl hg5) rfl rfl (py_eql rfl rfl) (kk5 _ _ (kx rfl (kx rfl (kx rfl (kx rfl (kx rfl k0))))) rfl Ext.refl)))))) (fun w7 e7 => ?_)))
 have H7 := H6.to e7
 refine sV rfl (py_band rfl rfl) (sM rfl rfl (s_grp 5 (j := 40) (want := true) (t := 50) rfl rfl rfl rfl (fun hg6 kk6 => s_val (wgE rfl rfl rfl hg6) rfl rfl (py_field tu68 rfl ts25 rfl rfl) (s_val (wgE rfl rfl rfl hg6) rfl rfl (py_load tu25 rfl rfl (cell_atL (H7.box 0 rfl) rfl)) (s_val (wgE rfl rfl rfl hg6) rfl rfl (py_field tu68 rfl ts25 rfl rfl) (s_val (wgE rfl rfl rfl hg6) rfl rfl (py_load tu25 rfl rfl (cell_atL (H7.box 1 rfl) rfl)) (s_callv (wgE rfl rfl rfl hg6) rfl rfl (pc_call Tryz.func282 rfl Tryz_nm282 rfl) (Tryz_slices_Equal_int64_int64 (H7.sees 0 rfl) (H7.sees 3 rfl)) (fun w9 e9 => kk6 _ _ (kx rfl (kx rfl (kx rfl (kx rfl (kx rfl k0))))) rfl (Ext.refl.trans e9))))))) (fun w8 e8 => ?_)))
 have H8 := H7.to e8
 refine sV rfl (py_band rfl rfl) (sM rfl rfl (s_grp 5 (j := 47) (want := true) (t := 57) rfl rfl rfl rfl (fun hg7 kk7 => s_val (wgE rfl rfl rfl hg7) rfl rfl (py_field tu68 rfl ts45 rfl rfl) (s_val (wgE rfl rfl rfl hg7) rfl rfl (py_load tu45 rfl rfl (cell_atL (H8.box 0 rfl) rfl)) (s_val (wgE rfl rfl rfl hg7) rfl rfl (py_field tu68 rfl ts45 rfl rfl) (s_val (wgE rfl rfl rfl hg7) rfl rfl (py_load tu45 rfl rfl (cell_atL (H8.box 1 rfl) rfl)) (s_callv (wgE rfl rfl rfl hg7) rfl rfl (pc_call Tryz.func181 rfl Tryz_nm181 rfl) (Tryz_bytesEq (H8.sees 1 rfl) (H8.sees 4 rfl)) (fun w11 e11 => kk7 _ _ (kx rfl (kx rfl (kx rfl (kx rfl (kx rfl k0))))) rfl (Ext.refl.trans e11))))))) (fun w10 e10 => ?_)))
 have H9 := H8.to e10
 refine sV rfl (py_band rfl rfl) (sM rfl rfl (s_grp 5 (j := 54) (want := true) (t := 64) rfl rfl rfl rfl (fun hg8 kk8 => s_val (wgE rfl rfl rfl hg8) rfl rfl (py_field tu68 rfl ts45 rfl rfl) (s_val (wgE rfl rfl rfl hg8) rfl rfl (py_load tu45 rfl rfl (cell_atL (H9.box 0 rfl) rfl)) (s_val (wgE rfl rfl rfl hg8) rfl rfl (py_field tu68 rfl ts45 rfl rfl) (s_val (wgE rfl rfl rfl hg8) rfl rfl (py_load tu45 rfl rfl (cell_atL (H9.box 1 rfl) rfl)) (s_callv (wgE rfl rfl rfl hg8) rfl rfl (pc_call Tryz.func181 rfl Tryz_nm181 rfl) (Tryz_bytesEq (H9.sees 2 rfl) (H9.sees 5 rfl)) (fun w13 e13 => kk8 _ _ (kx rfl (kx rfl (kx rfl (kx rfl (kx rfl k0))))) rfl (Ext.refl.trans e13))))))) (fun w12 e12 => ?_)))
 have H10 := H9.to e12
 refine sV rfl (py_band rfl rfl) (sA rfl rfl (s_nil (rT hQ Tryz.results204 rfl ?_)))
 exact ⟨H10.ext, congrArg Value.bool (by rw [← same_rec]; simp only [Bool.and_assoc])⟩
set_option maxHeartbeats 1000000 in
theorem Tryz_impl_recFault {w : World} {s : Shape} {r : Rec} {rA6 rA7 rA8 : Option Addr} {rC6 rC7 rC8 : Nat} (rK : r.Ok) (rS6 : Sees w [.slice rA6 r.Rows.length rC6] r.Rows) (rS7 : Sees w [.slice rA7 r.Data.length rC7] r.Data) (rS8 : Sees w [.slice rA8 r.Delta.length rC8] r.Delta) (hs : s.ok = true) : Ret Tryz.prog 119 #[s.v, r.val rA6 rC6 rA7 rC7 rA8 rC8] w fun v w' => Ext No w w' ∧ (v = .int .i64 (recF s r)) := by
 have rK2 := rK
 unfold Rec.Ok at rK2
 try unfold I64ok at rK2
 try unfold maxLen at rK2
 have rN2 : r.Name.size ≤ maxLen := by unfold maxLen; omega
 have rL6 := sL rS6
 obtain ⟨rF6, rO6⟩ := rS6
 have rL7 := sL rS7
 obtain ⟨rF7, rO7⟩ := rS7
 have rL8 := sL rS8
 obtain ⟨rF8, rO8⟩ := rS8
 have sbd := shape_bd hs
 refine ret_Q (vs := [s.v, r.val rA6 rC6 rA7 rC7 rA8 rC8]) Tryz.func119 rfl Tryz.ntmps119 rfl (fun Q hQ hN => ?_)
 have H0 := Sep.start (w := w) (F := [seen false [.slice rA6 r.Rows.length rC6] r.Rows rF6, seen false [.slice rA7 r.Data.length rC7] r.Data rF7, seen false [.slice rA8 r.Delta.length rC8] r.Delta rF8]) (all_cons rO6 (all_cons rO7 (all_cons rO8 (by simp))))
 refine W_sr (s_box (wn rfl) rfl rfl H0 (fun b1 w1 e1 g1 H1 => ?_))
 refine s_box (wn rfl) rfl rfl H1 (fun b2 w2 e2 g2 H2 => ?_)
 refine sA rfl rfl (s_nil (W_sr (sA rfl rfl (s_nil (W_cutS (γ := Unit) H2 [(3, _)] ⟨rfl, trivial⟩ (fun _ => [(5, .int .i64 (kindF s r))]) (fun _ => ins r.Kind 1 4 = true ∧ ins r.Seq 1 1000000000 = true) ?_ (fun _ w3 H3 ⟨hK, hS⟩ => ?_))))))
 ·refine W_block (W_sr (sV rfl (py_field tu68 rfl ts2 rfl rfl) (sV rfl (py_load tu2 rfl rfl (cell_atL (H2.box 1 rfl) rfl)) (s_call (wn rfl) rfl rfl (pc_call Tryz.func147 rfl Tryz_nm147 rfl) Tryz_impl_inside (fun v1 w4 r1 => ?_)))))
  obtain ⟨e3, rfl⟩ := r1
  have H4 := H2.to e3
  refine sV rfl (py_not rfl) (sA rfl rfl (s_nil (W_if rfl (fun c1 => ?_) (fun c1 => ?_))))
  ·refine W_sr (sA rfl rfl (s_nil (rT hQ Tryz.results119 rfl ?_)))
   exact ⟨H4.ext, congrArg (Value.int .i64) (recF_kind (not_true c1)).symm⟩
  ·refine W_sr (sV rfl (py_field tu68 rfl ts2 rfl rfl) (sV rfl (py_load tu2 rfl rfl (cell_atL (H4.box 1 rfl) rfl)) (s_call (wn rfl) rfl rfl (pc_call Tryz.func147 rfl Tryz_nm147 rfl) Tryz_impl_inside (fun v2 w5 r2 => ?_))))
   obtain ⟨e4, rfl⟩ := r2
   have H5 := H4.to e4
   refine sV rfl (py_not rfl) (sA rfl rfl (s_nil (W_if rfl (fun c2 => ?_) (fun c2 => ?_))))
   ·refine W_sr (sA rfl rfl (s_nil (rT hQ Tryz.results119 rfl ?_)))
    exact ⟨H5.ext, congrArg (Value.int .i64) (recF_seq (not_false c1) (not_true c2)).symm⟩
   ·refine W_sr (sV rfl (py_field tu68 rfl ts2 rfl rfl) (sV rfl (py_load tu2 rfl rfl (cell_atL (H5.box 1 rfl) rfl)) (sV rfl (py_eql rfl rfl) (sA rfl rfl (s_nil (W_ifd rfl (fun c3 => ?_) (fun c3 => ?_)))))))
    ·refine W_reg (sV rfl (py_loadS tu34 rfl ts34 rfl rfl (At.whole (H5.box 0 rfl))) (sV rfl (py_loadS tu68 rfl ts68 rfl rfl (At.whole (H5.box 1 rfl))) (s_call (wn rfl) rfl rfl (pc_call Tryz.func200 rfl Tryz_nm200 rfl) (Tryz_impl_itemFault (by assumption) (H5.sees 0 rfl) (H5.sees 1 rfl) (H5.sees 2 rfl) (by assumption)) (fun v3 w6 r3 => ?_))))
     obtain ⟨e5, rfl⟩ := r3
     have H6 := H5.to e5
     refine sA rfl rfl (s_nil ?_)
     have hk1 := ins_iff.1 (not_false c1)
     exact ⟨(), ⟨eqI (kindF_item c3).symm, rfl, trivial⟩, H6, not_false c1, not_false c2⟩
    ·refine W_sr (sV rfl (py_field tu68 rfl ts2 rfl rfl) (sV rfl (py_load tu2 rfl rfl (cell_atL (H5.box 1 rfl) rfl)) (sV rfl (py_eql rfl rfl) (sA rfl rfl (s_nil (W_ifd rfl (fun c4 => ?_) (fun c4 => ?_)))))))
     ·refine W_reg (sV rfl (py_loadS tu34 rfl ts34 rfl rfl (At.whole (H5.box 0 rfl))) (sV rfl (py_loadS tu68 rfl ts68 rfl rfl (At.whole (H5.box 1 rfl))) (s_call (wn rfl) rfl rfl (pc_call Tryz.func201 rfl Tryz_nm201 rfl) (Tryz_impl_shareFault (by assumption) (H5.sees 0 rfl) (H5.sees 1 rfl) (H5.sees 2 rfl) (by assumption)) (fun v4 w7 r4 => ?_))))
      obtain ⟨e6, rfl⟩ := r4
      have H7 := H5.to e6
      refine sA rfl rfl (s_nil ?_)
      have hk1 := ins_iff.1 (not_false c1)
      exact ⟨(), ⟨eqI (kindF_share (by omega)).symm, rfl, trivial⟩, H7, not_false c1, not_false c2⟩
     ·refine W_sr (sV rfl (py_field tu68 rfl ts2 rfl rfl) (sV rfl (py_load tu2 rfl rfl (cell_atL (H5.box 1 rfl) rfl)) (sV rfl (py_eql rfl rfl) (sA rfl rfl (s_nil (W_ifd rfl (fun c5 => ?_) (fun c5 => ?_)))))))
      ·refine W_sr (sV rfl (py_loadS tu34 rfl ts34 rfl rfl (At.whole (H5.box 0 rfl))) (sV rfl (py_field tu68 rfl ts2 rfl rfl) (sV rfl (py_load tu2 rfl rfl (cell_atL (H5.box 1 rfl) rfl)) (s_call (wn rfl) rfl rfl (pc_call Tryz.func71 rfl Tryz_nm71 rfl) (Tryz_impl_Shape_isGroup (by assumption)) (fun v5 w8 r5 => ?_)))))
       obtain ⟨e7, rfl⟩ := r5
       have H8 := H5.to e7
       refine sV rfl (py_not rfl) (s_nil (W_if rfl (fun c6 => ?_) (fun c6 => ?_)))
       ·refine W_reg (sA rfl rfl (s_nil ?_))
        have hk1 := ins_iff.1 (not_false c1)
        exact ⟨(), ⟨eqI (kindF_done_no (by omega) (not_true c6)).symm, rfl, trivial⟩, H8, not_false c1, not_false c2⟩
       ·refine W_skip ?_
        have hk1 := ins_iff.1 (not_false c1)
        exact ⟨(), ⟨eqI (kindF_done_ok (by omega) (not_false c6)).symm, rfl, trivial⟩, H8, not_false c1, not_false c2⟩
      ·refine W_seq (W_drw (S := Ext No _) [(0, true), (1, true), (2, true), (3, false), (4, true), (5, true), (6, true), (7, true), (8, true), (9, false), (10, true), (11, true), (12, true), (13, true), (14, true), (16, true), (15, false), (17, false), (18, true), (19, true), (20, true), (21, true), (22, true), (24, true), (23, false), (25, false), (26, true), (27, true), (28, false)] (by kernel_rfl) (by kernel_rfl) (by kernel_rfl) rfl (fun _ => Ext.refl.drawn _) (fun q1 => ?_))
       have H9 := H5.drawn q1
       refine dV rfl rfl (fun zw hx => py_loadS tu34 rfl ts34 rfl rfl (At.whole (hx.heap (H9.box 0 rfl)))) (dV rfl rfl (fun zw hx => py_field tu68 rfl ts2 rfl rfl) (dV rfl rfl (fun zw hx => py_load tu2 rfl rfl (cell_atL (hx.heap (H9.box 1 rfl)) rfl)) (d_call rfl (wn rfl) rfl rfl (pc_call Tryz.func120 rfl Tryz_nm120 rfl) (Tryz_impl_Shape_isData (by assumption)) (fun hS _ _ r _ => hS.trans r.1.no) (fun v6 w9 r6 => ?_))))
       obtain ⟨e8, rfl⟩ := r6
       have H10 := H9.to e8
       refine dV rfl rfl (fun zw hx => py_not rfl) (dM rfl rfl rfl (d_case (t := 45) rfl (fun hg1 => ?_) (fun hg1 => ?_)))
       ·try simp only [decide_eq_true_eq, decide_eq_false_iff_not] at hg1
        refine dKt rfl rfl rfl rfl (dKt rfl rfl rfl rfl (dKt rfl rfl rfl rfl (d_skipA rfl (wog (b := true) rfl rfl rfl) rfl rfl (dKt rfl rfl rfl rfl (dV rfl rfl (fun zw hx => py_pickT rfl rfl) (dM rfl rfl rfl (dKt rfl rfl rfl rfl (dKt rfl rfl rfl rfl (dKt rfl rfl rfl rfl (d_skipA rfl (wog (b := true) rfl rfl rfl) rfl rfl (d_skipA rfl (wog (b := true) rfl rfl rfl) rfl rfl (dKt rfl rfl rfl rfl (dV rfl rfl (fun zw hx => py_pickT rfl rfl) (dM rfl rfl rfl (dKt rfl rfl rfl rfl (dKt rfl rfl rfl rfl (dKt rfl rfl rfl rfl (d_skipA rfl (wog (b := true) rfl rfl rfl) rfl rfl (d_skipA rfl (wog (b := true) rfl rfl rfl) rfl rfl (dKt rfl rfl rfl rfl (dV rfl rfl (fun zw hx => py_pickT rfl rfl) (d_end rfl (wn rfl) rfl rfl (py_assign rfl) (d_nil (W_ift rfl (W_reg (sA rfl rfl (s_nil ?_)))))))))))))))))))))))))))
        have hk1 := ins_iff.1 (not_false c1)
        exact ⟨(), ⟨eqI (kindF_move_no (by omega) (by simp_all [moveOK])).symm, rfl, trivial⟩, H10, not_false c1, not_false c2⟩
       ·try simp only [decide_eq_true_eq, decide_eq_false_iff_not] at hg1
        refine d_val rfl (wg rfl rfl rfl) rfl rfl (fun zw hx => py_loadS tu34 rfl ts34 rfl rfl (At.whole (hx.heap (H9.box 0 rfl)))) (d_val rfl (wg rfl rfl rfl) rfl rfl (fun zw hx => py_field tu68 rfl ts2 rfl rfl) (d_val rfl (wg rfl rfl rfl) rfl rfl (fun zw hx => py_load tu2 rfl rfl (cell_atL (hx.heap (H9.box 1 rfl)) rfl)) (d_call rfl (wg rfl rfl rfl) rfl rfl (pc_call Tryz.func72 rfl Tryz_nm72 rfl) (Tryz_impl_Shape_isRow (by assumption)) (fun hS _ _ r _ => hS.trans r.1.no) (fun v7 w10 r7 => ?_))))
        obtain ⟨e9, rfl⟩ := r7
        have H11 := H10.to e9
        refine d_val rfl (wg rfl rfl rfl) rfl rfl (fun zw hx => py_not rfl) (dV rfl rfl (fun zw hx => py_pickF rfl rfl) (dM rfl rfl rfl (d_case (t := 52) rfl (fun hg2 => ?_) (fun hg2 => ?_))))
        ·try simp only [decide_eq_true_eq, decide_eq_false_iff_not] at hg2
         refine dKt rfl rfl rfl rfl (dKt rfl rfl rfl rfl (dKt rfl rfl rfl rfl (d_skipA rfl (wog (b := true) rfl rfl rfl) rfl rfl (d_skipA rfl (wog (b := true) rfl rfl rfl) rfl rfl (dKt rfl rfl rfl rfl (dV rfl rfl (fun zw hx => py_pickT rfl rfl) (dM rfl rfl rfl (dKt rfl rfl rfl rfl (dKt rfl rfl rfl rfl (dKt rfl rfl rfl rfl (d_skipA rfl (wog (b := true) rfl rfl rfl) rfl rfl (d_skipA rfl (wog (b := true) rfl rfl rfl) rfl rfl (dKt rfl rfl rfl rfl (dV rfl rfl (fun zw hx => py_pickT rfl rfl) (d_end rfl (wn rfl) rfl rfl (py_assign rfl) (d_nil (W_ift rfl (W_reg (sA rfl rfl (s_nil ?_))))))))))))))))))))
         have hk1 := ins_iff.1 (not_false c1)
         exact ⟨(), ⟨eqI (kindF_move_no (by omega) (by simp_all [moveOK])).symm, rfl, trivial⟩, H11, not_false c1, not_false c2⟩
        ·try simp only [decide_eq_true_eq, decide_eq_false_iff_not] at hg2
         refine d_val rfl (wg rfl rfl rfl) rfl rfl (fun zw hx => py_field tu68 rfl ts45 rfl rfl) (d_val rfl (wg rfl rfl rfl) rfl rfl (fun zw hx => py_load tu45 rfl rfl (cell_atL (hx.heap (H9.box 1 rfl)) rfl)) (d_val rfl (wg rfl rfl rfl) rfl rfl (fun zw hx => py_loadS tu34 rfl ts34 rfl rfl (At.whole (hx.heap (H9.box 0 rfl)))) (d_call rfl (wg rfl rfl rfl) rfl rfl (pc_call Tryz.func202 rfl Tryz_nm202 rfl) (Tryz_size_byte (H11.sees 1 rfl)) (fun hS _ _ r _ => hS.trans r.1.no) (fun v8 w11 r8 => ?_))))
         obtain ⟨e10, rfl⟩ := r8
         have H12 := H11.to e10
         refine d_call rfl (wg rfl rfl rfl) rfl rfl (pc_call Tryz.func203 rfl Tryz_nm203 rfl) (Tryz_impl_Shape_rowLength (by assumption)) (fun hS _ _ r _ => hS.trans r.1.no) (fun v9 w12 r9 => ?_)
         obtain ⟨e11, rfl⟩ := r9
         have H13 := H12.to e11
         refine d_val rfl (wg rfl rfl rfl) rfl rfl (fun zw hx => py_neq rfl rfl) (dV rfl rfl (fun zw hx => py_pickF rfl rfl) (dM rfl rfl rfl (d_case (t := 60) rfl (fun hg3 => ?_) (fun hg3 => ?_))))
         ·try simp only [decide_eq_true_eq, decide_eq_false_iff_not] at hg3
          refine dKt rfl rfl rfl rfl (dKt rfl rfl rfl rfl (dKt rfl rfl rfl rfl (d_skipA rfl (wog (b := true) rfl rfl rfl) rfl rfl (d_skipA rfl (wog (b := true) rfl rfl rfl) rfl rfl (dKt rfl rfl rfl rfl (dV rfl rfl (fun zw hx => py_pickT rfl rfl) (d_end rfl (wn rfl) rfl rfl (py_assign rfl) (d_nil (W_ift rfl (W_reg (sA rfl rfl (s_nil ?_))))))))))))
          have hk1 := ins_iff.1 (not_false c1)
          exact ⟨(), ⟨eqI (kindF_move_no (by omega) (by simp_all [moveOK])).symm, rfl, trivial⟩, H13, not_false c1, not_false c2⟩
         ·try simp only [decide_eq_true_eq, decide_eq_false_iff_not] at hg3
          refine d_val rfl (wg rfl rfl rfl) rfl rfl (fun zw hx => py_field tu68 rfl ts45 rfl rfl) (d_val rfl (wg rfl rfl rfl) rfl rfl (fun zw hx => py_load tu45 rfl rfl (cell_atL (hx.heap (H9.box 1 rfl)) rfl)) (d_val rfl (wg rfl rfl rfl) rfl rfl (fun zw hx => py_loadS tu34 rfl ts34 rfl rfl (At.whole (hx.heap (H9.box 0 rfl)))) (d_call rfl (wg rfl rfl rfl) rfl rfl (pc_call Tryz.func202 rfl Tryz_nm202 rfl) (Tryz_size_byte (H13.sees 2 rfl)) (fun hS _ _ r _ => hS.trans r.1.no) (fun v10 w13 r10 => ?_))))
          obtain ⟨e12, rfl⟩ := r10
          have H14 := H13.to e12
          refine d_call rfl (wg rfl rfl rfl) rfl rfl (pc_call Tryz.func203 rfl Tryz_nm203 rfl) (Tryz_impl_Shape_rowLength (by assumption)) (fun hS _ _ r _ => hS.trans r.1.no) (fun v11 w14 r11 => ?_)
          obtain ⟨e13, rfl⟩ := r11
          have H15 := H14.to e13
          refine d_val rfl (wg rfl rfl rfl) rfl rfl (fun zw hx => py_neq rfl rfl) (dV rfl rfl (fun zw hx => py_pickF rfl rfl) (d_end rfl (wn rfl) rfl rfl (py_assign rfl) (d_nil (W_ifd rfl (fun c7 => ?_) (fun c7 => ?_)))))
          ·refine W_reg (sA rfl rfl (s_nil ?_))
           have hk1 := ins_iff.1 (not_false c1)
           exact ⟨(), ⟨eqI (kindF_move_no (by omega) (by simp_all [moveOK])).symm, rfl, trivial⟩, H15, not_false c1, not_false c2⟩
          ·refine W_skip ?_
           have hk1 := ins_iff.1 (not_false c1)
           exact ⟨(), ⟨eqI (kindF_move_ok (by omega) (by simp_all [moveOK])).symm, rfl, trivial⟩, H15, not_false c1, not_false c2⟩
 ·dsimp only [lCA, lNA]
  refine W_seq (W_seq (W_drw (S := Ext No _) [(0, true), (1, true), (2, true), (3, true), (4, true), (5, false), (6, false), (7, true), (8, false)] (by kernel_rfl) (by kernel_rfl) (by kernel_rfl) rfl (fun _ => Ext.refl.drawn _) (fun q2 => ?_)))
  have H16 := H3.drawn q2
  refine dM rfl rfl rfl (dV rfl rfl (fun zw hx => py_eql rfl rfl) (dM rfl rfl rfl (d_case (t := 70) rfl (fun hg4 => ?_) (fun hg4 => ?_))))
  ·try simp only [decide_eq_true_eq, decide_eq_false_iff_not] at hg4
   refine d_val rfl (wg rfl rfl rfl) rfl rfl (fun zw hx => py_loadS tu68 rfl ts68 rfl rfl (At.whole (hx.heap (H16.box 1 rfl)))) (d_val rfl (wg rfl rfl rfl) rfl rfl (fun zw hx => py_loadS tu68 rfl ts68 rfl rfl (At.whole (hx.heap (H16.box 1 rfl)))) (d_call rfl (wg rfl rfl rfl) rfl rfl (pc_call Tryz.func205 rfl Tryz_nm205 rfl) (Tryz_impl_Rec_bare (by assumption) (H16.sees 0 rfl) (H16.sees 1 rfl) (H16.sees 2 rfl)) (fun hS _ _ r _ => hS.trans r.1.no) (fun v12 w15 r12 => ?_)))
   obtain ⟨e14, bA1, bA2, bA3, bA4, bA5, bA6, rfl, bS1, bS2, bS3⟩ := r12
   have H17 := H16.to e14
   refine d_call rfl (wg rfl rfl rfl) rfl rfl (pc_call Tryz.func204 rfl Tryz_nm204 rfl) (Tryz_impl_sameRec (by assumption) (H17.sees 0 rfl) (H17.sees 1 rfl) (H17.sees 2 rfl) (recOf_ok (by assumption)) bS1 bS2 bS3) (fun hS _ _ r _ => hS.trans r.1.no) (fun v13 w16 r13 => ?_)
   obtain ⟨e15, rfl⟩ := r13
   have H18 := H17.to e15
   refine d_val rfl (wg rfl rfl rfl) rfl rfl (fun zw hx => py_not rfl) (d_end rfl (wn rfl) rfl rfl (py_pickT rfl rfl) (d_nil (W_if rfl (fun c8 => ?_) (fun c8 => ?_))))
   ·refine W_reg (sA rfl rfl (s_nil (W_sr (sM rfl rfl (sA rfl rfl (s_nil (rT hQ Tryz.results119 rfl ?_)))))))
    exact ⟨H18.ext, congrArg (Value.int .i64) ((recF_form hK hS (by omega) (by rw [← recOf_same (ins_iff.1 hK)]; exact not_true c8)).trans rfl).symm⟩
   ·refine W_skip (W_sr (sM rfl rfl (sA rfl rfl (s_nil (rT hQ Tryz.results119 rfl ?_)))))
    exact ⟨H18.ext, congrArg (Value.int .i64) ((recF_ok hK hS (by omega) (by rw [← recOf_same (ins_iff.1 hK)]; exact not_false c8)).trans (by omega)).symm⟩
  ·try simp only [decide_eq_true_eq, decide_eq_false_iff_not] at hg4
   refine dKf rfl rfl rfl rfl (dKf rfl rfl rfl rfl (d_skipA rfl (wog (b := false) rfl rfl rfl) rfl rfl (d_skipA rfl (wog (b := false) rfl rfl rfl) rfl rfl (dKf rfl rfl rfl rfl (d_end rfl (wn rfl) rfl rfl (py_pickF rfl rfl) (d_nil (W_iff rfl (W_skip (W_sr (sM rfl rfl (sA rfl rfl (s_nil (rT hQ Tryz.results119 rfl ?_)))))))))))))
   exact ⟨H16.ext, congrArg (Value.int .i64) (recF_bad hK hS (by omega)).symm⟩
end Go.Wk
namespace Go.Wk
open Rp (sz own)
def RdV (w : World) (ft : List Nat) (vs : List RecV) : Prop := ∀ v ∈ vs, ∃ f, own false w v.cs v.r f ∧ ∀ b ∈ f, b ∈ ft
section
variable {w w' : World} {ft f : List Nat} {vs us : List RecV}
theorem RdV.to (h : RdV w ft vs) (e : Ext No w w') : RdV w' ft vs := fun v hv => by
  obtain ⟨f, h1, h2⟩ := h v hv
  exact ⟨f, Rp.st h1 fun b hb => e.block b (Rp.lt h1 b hb) id, h2⟩
theorem RdV.sub (h : RdV w ft vs) (hs : ∀ v ∈ us, v ∈ vs) : RdV w ft us := fun v hv => h v (hs v hv)
theorem RdV.nil : RdV w ft [] := fun v hv => by simp at hv
theorem RdV.app (h : RdV w ft vs) (k : RdV w ft us) : RdV w ft (vs ++ us) := fun v hv => by
  rcases List.mem_append.1 hv with hv | hv
  · exact h v hv
  · exact k v hv
theorem RdV.at {k : Nat} (h : RdV w ft vs) (hk : k < vs.length) : RdV w ft [vs.getD k default] := fun v hv => by
  rw [List.mem_singleton] at hv
  rw [hv, getD_el hk]
  exact h _ (List.getElem_mem _)
theorem ownL_ofVF : ∀ {vs : List RecV} {cs f0}, ownL false w cs vs f0 → RdV w ft vs → ∃ f, ownL false w cs (vs.map RecV.r) f ∧ ∀ b ∈ f, b ∈ ft
  | [], _, _, h, _ => ⟨[], rfl, by simp⟩
  | v :: vs, cs, f0, ⟨g1, g2, e0, ⟨e1, eg, ok⟩, h2⟩, hr => by
    obtain ⟨f1, k1, k2⟩ := hr v (by simp)
    obtain ⟨f2, r1, r2⟩ := ownL_ofVF h2 (hr.sub fun x hx => by simp [hx])
    refine ⟨f1 ++ f2, ⟨f1, f2, rfl, ?_, r1⟩, fun b hb => ?_⟩
    · rw [show cs.take (sz Rec) = v.cs from e1]; exact k1
    · rcases List.mem_append.1 hb with hb | hb
      · exact k2 b hb
      · exact r2 b hb
theorem own_ofVF {s : Bool} {ad n cap} {f0} (h : own s w [.slice ad n cap] vs f0) (hr : RdV w ft vs) : ∃ f, own false w [.slice ad n cap] (vs.map RecV.r) f ∧ ∀ b ∈ f, b ∈ f0 ∨ b ∈ ft := by
  have el : (vs.map RecV.r).length = vs.length := List.length_map _
  rcases own_weak h with ⟨hf, A, C, e, rfl, rfl⟩ | ⟨e, rfl, rfl⟩ | ⟨b, o, cap', cur, T, fr, fs, h1, h2, h3, h4, h5, h6, h7, h8⟩
  · exact ⟨[], .inl ⟨rfl, A, C, e, rfl, rfl⟩, by simp⟩
  · exact ⟨[], .inr (.inl ⟨e, rfl, rfl⟩), by simp⟩
  · obtain ⟨f1, k1, k2⟩ := ownL_ofVF h8 hr
    refine ⟨b :: f1, .inr (.inr ⟨b, o, cap', cur, T, fr, f1, by rw [el]; exact h1, rfl, h3, h4, by rw [el]; exact h5, h6, h7, k1⟩), fun x hx => ?_⟩
    rcases List.mem_cons.1 hx with rfl | hx
    · left; rw [h2]; simp
    · exact .inr (k2 x hx)
end
theorem ord_map {vs : List RecV} (h : Ord kLt keyV vs) : Ord kLt keyR (vs.map RecV.r) := by
  induction h with
  | nil => exact .nil
  | cons h1 h2 ih => exact .cons (fun y hy => by obtain ⟨v, hv, rfl⟩ := List.mem_map.1 hy; exact h1 v hv) ih
theorem same_map {vs us : List RecV} (h : sameK keyV vs us) : sameK keyR (vs.map RecV.r) (us.map RecV.r) := fun k => by
  rw [List.filter_map, List.filter_map]
  exact congrArg (List.map RecV.r) (h k)
theorem stable_map {vs us : List RecV} (h : Stable kLt keyV vs us) : Stable kLt keyR (vs.map RecV.r) (us.map RecV.r) := ⟨ord_map h.1, same_map h.2⟩
theorem ord_cut {ys : List Rec} (x : Rec) (h : Ord kLt keyR ys) : ∃ A B, ys = A ++ B ∧ (∀ y ∈ B, kLt (keyR x) (keyR y)) ∧ ∀ y ∈ A, ¬ kLt (keyR x) (keyR y) := by
  induction h with
  | nil => exact ⟨[], [], rfl, by simp, by simp⟩
  | cons h1 h2 ih =>
    rename_i y l
    by_cases c : kLt (keyR x) (keyR y)
    · refine ⟨[], y :: l, rfl, fun z hz => ?_, by simp⟩
      rcases List.mem_cons.1 hz with rfl | hz
      · exact c
      · exact k_lt_le c (h1 z hz)
    · obtain ⟨A, B, e, hB, hA⟩ := ih
      refine ⟨y :: A, B, by rw [e]; rfl, hB, fun z hz => ?_⟩
      rcases List.mem_cons.1 hz with rfl | hz
      · exact c
      · exact hA z hz
theorem stable_snoc (xs : List Rec) (x : Rec) (h : ∃ ys, Stable kLt keyR xs ys) : ∃ ys, Stable kLt keyR (xs ++ [x]) ys := by
  obtain ⟨ys, hy⟩ := h
  obtain ⟨A, B, rfl, hB, hA⟩ := ord_cut x hy.1
  exact ⟨_, stable_insert kLin hy hB hA⟩
theorem stable_ex (xs : List Rec) : ∃ ys, Stable kLt keyR xs ys := by
  have : ∀ (n : Nat), ∃ ys, Stable kLt keyR (xs.take n) ys := fun n => by
    induction n with
    | zero => exact ⟨[], by simp; exact ⟨.nil, .refl⟩⟩
    | succ n ih =>
      by_cases hn : n < xs.length
      · rw [List.take_add_one, List.getElem?_eq_getElem hn]; exact stable_snoc _ _ ih
      · rw [List.take_of_length_le (by omega)] at ih ⊢; exact ih
  have := this xs.length
  rwa [List.take_length] at this
noncomputable def srtR (xs : List Rec) : List Rec := (stable_ex xs).choose
theorem srtR_eq {xs ys : List Rec} (h : Stable kLt keyR xs ys) : ys = srtR xs := stable_unique kLin h (stable_ex xs).choose_spec
noncomputable def ddR (out : List Rec) (r : Rec) : List Rec := if r ∈ out then out else out ++ [r]
noncomputable def allR (z : Wld) (k : Nat) : List Rec := ((z.Tapes.take k).map Tape.Recs).flatten
noncomputable def dds (rs : List Rec) : List Rec := rs.foldl ddR []
noncomputable def cntL (z : Wld) : List Rec := srtR (dds (allR z z.Tapes.length))
noncomputable def cntTo (z : Wld) (k j : Nat) : List Rec := dds (allR z k ++ (z.Tapes.getD k default).Recs.take j)
theorem cntTo_zero {z : Wld} : cntTo z 0 0 = [] := by simp [cntTo, allR, dds]
theorem cntTo_next {z : Wld} {k j : Nat} (h : j < (z.Tapes.getD k default).Recs.length) : cntTo z k (j + 1) = ddR (cntTo z k j) ((z.Tapes.getD k default).Recs.getD j default) := by
  unfold cntTo dds
  rw [List.take_add_one, List.getElem?_eq_getElem h, getD_el h, ← List.append_assoc, List.foldl_append]
  rfl
theorem cntTo_tape {z : Wld} {k : Nat} (h : k < z.Tapes.length) : cntTo z k (z.Tapes.getD k default).Recs.length = cntTo z (k + 1) 0 := by
  unfold cntTo allR
  rw [List.take_length, List.take_add_one, List.getElem?_eq_getElem h, getD_el h, List.take_zero, List.append_nil, List.map_append, List.flatten_append]
  simp only [Option.toList_some, List.map_cons, List.map_nil, List.flatten_cons, List.flatten_nil, List.append_nil]
theorem cntTo_all {z : Wld} {ys : List Rec} (h : Stable kLt keyR (cntTo z z.Tapes.length 0) ys) : ys = cntL z := by
  unfold cntL
  rw [← srtR_eq]
  unfold cntTo at h
  simpa using h
theorem dd_yes {out : List Rec} {r : Rec} (h : r ∈ out) : ddR out r = out := if_pos h
theorem dd_no {out : List Rec} {r : Rec} (h : ¬ r ∈ out) : ddR out r = out ++ [r] := if_neg h
theorem stable_mem {xs ys : List Rec} (h : Stable kLt keyR xs ys) (r : Rec) : r ∈ ys ↔ r ∈ xs := ⟨fun q => h.2.mem q, fun q => h.2.symm.mem q⟩
theorem cntTo_len {z : Wld} : ∀ {k j : Nat}, (cntTo z k j).length ≤ (allR z k).length + j := by
  intro k j
  have key : ∀ (rs out : List Rec), (rs.foldl ddR out).length ≤ out.length + rs.length := by
    intro rs
    induction rs with
    | nil => intro out; simp
    | cons r rs ih =>
      intro out
      have := ih (ddR out r)
      have h2 : (ddR out r).length ≤ out.length + 1 := by unfold ddR; split <;> simp
      simp only [List.foldl_cons, List.length_cons]
      omega
  have := key (allR z k ++ (z.Tapes.getD k default).Recs.take j) []
  unfold cntTo dds
  simp only [List.length_nil, List.length_append, List.length_take] at this
  omega
def orI : List Int → Int
  | [] => 0
  | x :: xs => if x = 0 then orI xs else x
theorem or_yes : ∀ {xs : List Int} {k : Nat}, k < xs.length → (∀ i, i < k → xs.getD i 0 = 0) → xs.getD k 0 ≠ 0 → orI xs = xs.getD k 0
  | [], k, h, _, _ => by simp at h
  | x :: xs, 0, _, _, h2 => if_neg h2
  | x :: xs, k + 1, h, h1, h2 => by
    have h0 : x = 0 := h1 0 (by omega)
    show (if x = 0 then orI xs else x) = _
    rw [if_pos h0, or_yes (k := k) (by simpa using h) (fun i hi => h1 (i + 1) (by omega)) h2]
    rfl
theorem or_no : ∀ {xs : List Int}, (∀ i, i < xs.length → xs.getD i 0 = 0) → orI xs = 0
  | [], _ => rfl
  | x :: xs, h => by
    have h0 : x = 0 := h 0 (by simp)
    show (if x = 0 then orI xs else x) = _
    rw [if_pos h0]
    exact or_no fun i hi => h (i + 1) (by simpa using hi)
theorem or_cf {x y : Rec} : orI [cmpI x.Seq y.Seq, cmpI x.Kind y.Kind, cmpI x.Group y.Group] = cfR x y := by
  unfold cfR orI orI orI orI
  by_cases a : cmpI x.Seq y.Seq = 0 <;> by_cases b : cmpI x.Kind y.Kind = 0 <;> by_cases c : cmpI x.Group y.Group = 0 <;> simp [a, b, c]
end Go.Wk
namespace Go.Wk
open Rp (sz own)
section
variable {xs : List Rec} {g row : Int} {p : Rec → Bool}
theorem anyR_yes {k : Nat} (h : k < xs.length) (e : p (xs.getD k default) = true) : xs.any p = true := by
  rw [getD_el h] at e
  exact List.any_eq_true.2 ⟨_, List.getElem_mem _, e⟩
theorem anyR_none (h : ∀ i, i < xs.length → p (xs.getD i default) = false) : xs.any p = false := by
  rw [List.any_eq_false]
  intro x hx
  obtain ⟨i, hi, e⟩ := List.getElem_of_mem hx
  have := h i hi
  rw [getD_el hi, e] at this
  simp [this]
end
end Go.Wk
namespace Go.Wk
open Rp (sz own)
section
variable {w w' w0 : World} {ft f : List Nat} {vs us : List RecV} {M : Nat → Prop} {Δ F : List Rsc}
theorem RdV.back (h : RdV w' ft vs) (e : Ext No w w') (hl : ∀ b ∈ ft, b < w.heap.size) : RdV w ft vs := fun v hv => by
  obtain ⟨f, h1, h2⟩ := h v hv
  exact ⟨f, Rp.st h1 fun b hb => (e.block b (hl b (h2 b hb)) id).symm, h2⟩
def InF {α : Type} [Rp α] (w : World) (ft : List Nat) (cs : List Value) (x : α) : Prop := ∃ f, own false w cs x f ∧ ∀ b ∈ f, b ∈ ft
theorem InF.back {α : Type} [Rp α] {cs : List Value} {x : α} (h : InF w' ft cs x) (e : Ext No w w') (hl : ∀ b ∈ ft, b < w.heap.size) : InF w ft cs x := by
  obtain ⟨f, h1, h2⟩ := h
  exact ⟨f, Rp.st h1 fun b hb => (e.block b (hl b (h2 b hb)) id).symm, h2⟩
theorem InF.val {v : RecV} {x : Rec} (h : InF w ft v.cs v.r) (e : v.r = x) : InF w ft (RecV.mk x v.A6 v.C6 v.A7 v.C7 v.A8 v.C8).cs x := by subst e; exact h
theorem InF.rdv {v : RecV} (h : InF w ft v.cs v.r) : RdV w ft [v] := fun u hu => by
  rw [List.mem_singleton] at hu; subst hu; exact h
theorem Mut.none {α : Type} [Rp α] {cs : List Value} {x : α} {fp : List Nat} (e : Ext No w w') (h : own true w cs x fp) (hn : fp.Nodup) : Mut w w' fp cs x :=
  ⟨e.no, fp, Rp.st h fun b hb => e.block b (Rp.lt h b hb) id, hn, fun b hb => .inl hb⟩
theorem stable_nil : Stable kLt keyV ([] : List RecV) [] := ⟨.nil, .refl⟩
theorem RdV.stable (h : RdV w ft vs) (hs : Stable kLt keyV vs us) : RdV w ft us := h.sub fun v hv => hs.2.mem hv
theorem RdV.snoc {v : RecV} (h : RdV w ft vs) (hv : InF w ft v.cs v.r) : RdV w ft (vs ++ [v]) := h.app hv.rdv
theorem RdV.list {s : Bool} {ad n cap} {f0 : List Nat} (hr : RdV w ft vs) (h : own s w [.slice ad n cap] vs f0) : Sees w [.slice ad n cap] (vs.map RecV.r) := by
  obtain ⟨f, h1, _⟩ := own_ofVF h hr
  exact ⟨f, h1⟩
end
theorem cmpI_bd {a b : Int} : -1 ≤ cmpI a b ∧ cmpI a b ≤ 1 := by unfold cmpI; split <;> (try split) <;> omega
instance (a b : Int × Int × Int) : Decidable (kLt a b) := by unfold kLt; infer_instance
instance : Flat RecV where
  flat h := ⟨h.2.1, fun _ _ => ⟨h.1, rfl, h.2.2⟩⟩
theorem any_eq {xs : List Rec} {r : Rec} : xs.any (fun x => decide (x = r)) = decide (r ∈ xs) := by
  rw [Bool.eq_iff_iff]; simp
theorem mem_yes {xs : List Rec} {r : Rec} {k : Nat} (h : k < xs.length) (e : xs.getD k default = r) : true = decide (r ∈ xs) := by
  rw [eq_comm, decide_eq_true_eq, ← e, getD_el h]; exact List.getElem_mem _
theorem mem_no {xs : List Rec} {r : Rec} (h : ∀ i, i < xs.length → decide (xs.getD i default = r) = false) : false = decide (r ∈ xs) := by
  rw [eq_comm, decide_eq_false_iff_not]
  intro hm
  obtain ⟨i, hi, e⟩ := List.getElem_of_mem hm
  have := h i hi
  rw [decide_eq_false_iff_not, getD_el hi] at this
  exact this e
theorem map_getD {vs : List RecV} {rs : List Rec} (e : vs.map RecV.r = rs) {k : Nat} (hk : k < vs.length) : (vs.getD k default).r = rs.getD k default := by
  rw [← e, getD_el hk]; simp [List.getD, hk]
theorem cnt_end {z : Wld} {vs us : List RecV} (hm : vs.map RecV.r = cntTo z z.Tapes.length 0) (hs : Stable kLt keyV vs us) : us.map RecV.r = cntL z :=
  cntTo_all (by rw [← hm]; exact stable_map hs)
theorem allR_len {z : Wld} {B : Nat} (h : ∀ k, (z.Tapes.getD k default).Recs.length ≤ B) : ∀ k, k ≤ z.Tapes.length → (allR z k).length ≤ k * B
  | 0, _ => by simp [allR]
  | k + 1, hk => by
    have ih := allR_len h k (by omega)
    have h1 := h k
    unfold allR at ih ⊢
    rw [List.take_add_one, List.getElem?_eq_getElem (by omega), List.map_append, List.flatten_append, List.length_append]
    simp only [Option.toList_some, List.map_cons, List.map_nil, List.flatten_cons, List.flatten_nil, List.append_nil]
    rw [← getD_el (by omega) (d := default)]
    rw [Nat.add_mul]; omega
theorem cntTo_bd {z : Wld} (hT : z.Tapes.length = 2) (h : ∀ k, (z.Tapes.getD k default).Recs.length ≤ 200000) {k j : Nat} (hk : k ≤ 2) (hj : j ≤ 200000) : (cntTo z k j).length ≤ 600000 := by
  have h1 := cntTo_len (z := z) (k := k) (j := j)
  have h2 := allR_len h k (by omega)
  omega
theorem cntL_bd {z : Wld} (hT : z.Tapes.length = 2) (h : ∀ k, (z.Tapes.getD k default).Recs.length ≤ 200000) : (cntL z).length ≤ 600000 := by
  have h1 := cntTo_bd hT h (k := 2) (j := 0) (by omega) (by omega)
  have h2 : Stable kLt keyR (cntTo z z.Tapes.length 0) (cntL z) := by
    unfold cntL cntTo
    simp only [List.take_zero, List.append_nil]
    exact (stable_ex _).choose_spec
  have := h2.2.len
  rw [hT] at this
  omega
theorem recs_bd {z : Wld} (h : worldF z = 0) : ∀ k, (z.Tapes.getD k default).Recs.length ≤ 200000 := fun k => by
  have hT := (worldF_ok h).2.2.2.1
  obtain ⟨h1, h2⟩ := recs_le h
  by_cases e : k < 2
  · have : k = 0 ∨ k = 1 := by omega
    rcases this with rfl | rfl <;> omega
  · have : z.Tapes.getD k default = default := by simp [List.getD, List.getElem?_eq_none (show z.Tapes.length ≤ k by omega)]
    rw [this]; exact Nat.zero_le _
end Go.Wk
namespace Go.Wk
section
variable {vs : List RecV} {r : Rec} {a : Nat}
theorem ordR_at {rs : List Rec} (h : Ord kLt keyR rs) : ∀ {i q : Nat}, i ≤ q → q < rs.length → ¬ kLt (keyR (rs.getD q default)) (keyR (rs.getD i default)) := by
  induction h with
  | nil => intro i q _ h; simp at h
  | cons h1 h2 ih =>
    rename_i y l
    intro i q hiq hq
    cases i with
    | zero =>
      cases q with
      | zero => exact kLin.irr _
      | succ q =>
        have hq' : q < l.length := by simpa using hq
        show ¬ kLt (keyR (l.getD q default)) (keyR y)
        rw [getD_el hq']
        exact h1 _ (List.getElem_mem _)
    | succ i =>
      cases q with
      | zero => omega
      | succ q => exact ih (by omega) (by simpa using hq)
theorem ins_lo {rs : List Rec} (ho : Ord kLt keyR rs) (ha : a ≤ rs.length) (h : a = 0 ∨ ¬ kLt (keyR r) (keyR (rs.getD (a - 1) default))) : ∀ y ∈ rs.take a, ¬ kLt (keyR r) (keyR y) := by
  intro y hy
  obtain ⟨i, hi, e⟩ := List.getElem_of_mem hy
  rw [List.length_take] at hi
  rw [List.getElem_take] at e
  rcases h with h | h
  · omega
  · intro hlt
    have h2 := ordR_at ho (i := i) (q := a - 1) (by omega) (by omega)
    rw [getD_el (by omega : i < rs.length), e] at h2
    exact h (k_lt_le hlt h2)
theorem ins_hi {rs : List Rec} (hB : ∀ i, a ≤ i → i < rs.length → kLt (keyR r) (keyR (rs.getD i default))) : ∀ y ∈ rs.drop a, kLt (keyR r) (keyR y) := by
  intro y hy
  obtain ⟨i, hi, e⟩ := List.getElem_of_mem hy
  rw [List.length_drop] at hi
  rw [List.getElem_drop] at e
  have := hB (a + i) (by omega) (by omega)
  rwa [getD_el (by omega), e] at this
theorem ins_new {xs rs : List Rec} (h : Stable kLt keyR xs rs) (ha : a ≤ rs.length) (h1 : a = 0 ∨ ¬ kLt (keyR r) (keyR (rs.getD (a - 1) default))) (hB : ∀ i, a ≤ i → i < rs.length → kLt (keyR r) (keyR (rs.getD i default))) :
    Stable kLt keyR (xs ++ [r]) (rs.take a ++ r :: rs.drop a) :=
  stable_insert kLin (by rw [List.take_append_drop]; exact h) (ins_hi hB) (ins_lo h.1 ha h1)
theorem cut_map {l h : Nat} : (cut vs l h).map RecV.r = cut (vs.map RecV.r) l h := by unfold cut; rw [List.map_take, List.map_drop]
theorem ins_list {v : RecV} (e : v.r = r) (ha : a ≤ vs.length) : (cut vs 0 a ++ [v] ++ cut vs a vs.length).map RecV.r = (vs.map RecV.r).take a ++ r :: (vs.map RecV.r).drop a := by
  rw [List.map_append, List.map_append, cut_map, cut_map]
  unfold cut
  rw [List.drop_zero, Nat.sub_zero, List.take_of_length_le (by simp : ((vs.map RecV.r).drop a).length ≤ vs.length - a)]
  simp [e]
theorem cut_sub {l h : Nat} : ∀ v ∈ cut vs l h, v ∈ vs := fun v hv => by
  unfold cut at hv
  exact List.mem_of_mem_drop (List.mem_of_mem_take hv)
end
end Go.Wk
namespace Go.Wk
open Rp (sz own)
section
variable {P : Program} {n : Nat} {ops : Array Oper} {Q : Post} {L : Env} {w w0 : World} {M : Nat → Prop} {Δ F : List Rsc} {d : Tmp} {ty : TypeId} {p : String} {af : Array Edge} {g : Option (Nat × Bool)}
theorem d_litI {l : Nat} {rl : List (Nat × Bool)} {S : World → Prop} {t e : TypeId} {parts : Array (Nat × Operand)} {z : Value} {bytes : Nat} (xs : List Int) (ho : ops.toList[l]? = some ⟨some d, .buildSlice t xs.length parts, ty, p, af, g⟩) (hw : Wn ops n L ⟨some d, .buildSlice t xs.length parts, ty, p, af, g⟩) (hn : Nat.blt d n = true) (ht : P.underlying t = some (.slice e)) (hT : Ty P e z 1 bytes)
    (hix : parts.toList.map (·.1) = List.range xs.length) (hv : evLs L (parts.toList.map (·.2)) = some (xs.map (Value.int .i64))) (hk : ∀ x ∈ xs, I64ok x) (h0 : 0 < xs.length) (hl : xs.length ≤ 1000) (H : Sep M w0 Δ F w) (hS : ∀ w', S w → Ext No w w' → S w')
    (k : ∀ b w', Ext No w w' → w.heap.size ≤ b → Sep M w0 (Δ ++ [mine [.slice (some ⟨b, 0, none⟩) xs.length xs.length] xs [b]]) F w' → DL P n ops Q S rl ((d, .slice (some ⟨b, 0, none⟩) xs.length xs.length) :: L) w') :
    DL P n ops Q S ((l, false) :: rl) L w := by
  have hparts : ∀ a, Good n a L → (parts.map fun (i, x) => (i, a.eval x)).toList = ((xs.map (Value.int .i64)).zipIdx 0).map fun x => (x.2, x.1) := fun a ha => by
    have key : ∀ (l : List (Nat × Operand)) (vs : List Value) (k : Nat), l.map (·.1) = List.range' k vs.length → evLs L (l.map (·.2)) = some vs → l.map (fun x => (x.1, a.eval x.2)) = (vs.zipIdx k).map fun x => (x.2, x.1) := by
      intro l
      induction l with
      | nil => intro vs k h1 h2; simp [evLs] at h2; subst h2; rfl
      | cons x l ih =>
        intro vs k h1 h2
        simp only [List.map_cons] at h1 h2 ⊢
        unfold evLs at h2
        split at h2
        · rename_i v us hv hus
          cases h2
          rw [List.length_cons, List.range'_succ] at h1
          simp only [List.cons.injEq] at h1
          rw [List.zipIdx_cons, List.map_cons, ← ih us (k + 1) h1.2 hus, ha.eval hv, h1.1]
        · cases h2
    rw [Array.toList_map]
    refine key parts.toList _ 0 ?_ hv
    rw [hix, List.length_map, List.range_eq_range']
  have hp := pn_lit (n := n) (w := w) (ty := ty) (p := p) (af := af) (g := g) (d := some d) (parts := parts) (vs := xs.map (Value.int .i64)) (len := xs.length) ht hT (by omega) (by simp) hparts (by intro v hv; simp at hv; obtain ⟨x, _, rfl⟩ := hv; rfl) h0 (by omega)
  refine d_new ho hw rfl hn hp (fun h _ => hS _ h (Ext.refl.alloc _)) (k _ _ (Ext.refl.alloc _) (Nat.le_refl _) ?_)
  refine H.add (Ext.refl.alloc _) (r := Wk.mine [.slice (some ⟨w.heap.size, 0, none⟩) xs.length xs.length] xs [w.heap.size]) (.inr (.inr ⟨w.heap.size, 0, _, _, e, (0, 0), [], rfl, rfl, heap_alloc_new w _, fun _ => rfl, Nat.le_refl _, by unfold maxLen; omega, ?_, ?_⟩)) (by simp [Wk.mine]) (by simp [Wk.mine])
  · have : ∀ l : List Int, (l.map (Value.int .i64)).flatMap (fun v => v.cells.toList) = l.map (Value.int .i64) := by
      intro l; induction l with
      | nil => rfl
      | cons x l ih => simp only [List.map_cons, List.flatMap_cons, ih]; rfl
    simp [this, sz]
  · have : ∀ l : List Int, (l.map (Value.int .i64)).flatMap (fun v => v.cells.toList) = l.map (Value.int .i64) := by
      intro l; induction l with
      | nil => rfl
      | cons x l ih => simp only [List.map_cons, List.flatMap_cons, ih]; rfl
    simp only [this, List.drop_zero]
    exact own_ints hk
end
end Go.Wk
