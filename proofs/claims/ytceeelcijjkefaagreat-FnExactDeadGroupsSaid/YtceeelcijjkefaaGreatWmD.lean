/-
  An element of a list looked at closely, changed in place and given back; things joined and split. No program is named here.
-/
import Derived.Test.YtceeelcijjkefaaGreatWmC
set_option linter.unusedVariables false
set_option linter.unusedSimpArgs false
namespace Go.Wk
open Rp (sz own)
/-- Two things as one. -/
def cat (r q : Rsc) : Rsc := ⟨r.fp ++ q.fp, fun w => r.φ w ∧ q.φ w, fun h k => ⟨r.st h.1 fun b hb => k b (by simp [hb]), q.st h.2 fun b hb => k b (by simp [hb])⟩, fun h b hb => (List.mem_append.1 hb).elim (r.lt h.1 b) (q.lt h.2 b)⟩
section
variable {M : Nat → Prop} {w0 w w' : World} {Δ F : List Rsc}
theorem Sep.join2 (h : Sep M w0 Δ F w) (i j : Nat) {r q : Rsc} (hi : Δ[i]? = some r) (hj : Δ[j]? = some q) (hij : Nat.beq j i = false) : Sep M w0 ((Δ.set j gone).set i (cat r q)) F w :=
  h.set2 hi hj hij Ext.refl (q := cat r q) ⟨h.r i hi, h.r j hj⟩ (List.nodup_append.2 ⟨h.nodup1 hi, h.nodup1 hj, fun a ha b hb e => by subst e; exact h.apart hi hj hij a hb ha⟩)
    fun b hb => (List.mem_append.1 hb).elim .inl fun h => .inr (.inl h)
theorem Sep.conv (h : Sep M w0 Δ F w) (i : Nat) {r : Rsc} (q : Rsc) (hi : Δ[i]? = some r) (hq : q.φ w) (hfp : ∀ b ∈ q.fp, b ∈ r.fp) (hn : q.fp.Nodup) : Sep M w0 (Δ.set i q) F w :=
  h.set hi Ext.refl hq hn fun b hb => .inl (hfp b hb)
theorem Sep.split2 (h : Sep M w0 Δ F w) (i j : Nat) {r : Rsc} (a b : Rsc) (hi : Δ[i]? = some r) (hj : Δ[j]? = some gone) (hij : Nat.beq j i = false) (ha : a.φ w) (hb : b.φ w) (hfp : a.fp ++ b.fp = r.fp) : Sep M w0 ((Δ.set i a).set j b) F w := by
  have hne : j ≠ i := fun e => by subst e; simp at hij
  have hil : i < Δ.length := (List.getElem?_eq_some_iff.1 hi).1
  have hjl : j < Δ.length := (List.getElem?_eq_some_iff.1 hj).1
  have H := h.part i hi [a, b] (all_cons ha (all_cons hb (by simp))) (by simpa [blocks] using hfp)
  have hj' : (Δ.set i a)[j]? = some gone := by rw [List.getElem?_set_ne (Ne.symm hne)]; exact hj
  have p1 : (Δ.set i gone ++ [a, b]).Perm (Δ.set i a ++ [gone, b]) := set_swap hil
  have p2 : (Δ.set i a ++ [gone, b]).Perm (Δ.set i a ++ [b, gone]) := (List.Perm.swap _ _ _).append_left _
  have p3 : (Δ.set i a ++ [b, gone]).Perm ((Δ.set i a).set j b ++ [gone, gone]) := by
    have := set_swap (Δ := Δ.set i a) (i := j) (a := gone) (b := b) (t := [gone]) (by simpa using hjl)
    rwa [set_getD hj'] at this
  exact (H.perm (p1.trans (p2.trans p3))).sub (List.sublist_append_left _ _)
theorem Sep.partLast {A : List Rsc} {r : Rsc} (h : Sep M w0 (A ++ [r]) F w) (rs : List Rsc) (hrs : ∀ q ∈ rs, q.φ w) (hb : blocks rs = r.fp) : Sep M w0 (A ++ gone :: rs) F w := by
  have H := h.part A.length (r := r) (by simp) rs hrs hb
  rw [show (A ++ [r]).set A.length gone = A ++ [gone] by simp] at H
  simpa using H
/-- A list of which one element is out; ck: its cells as they are. -/
def hol {α : Type} [Rp α] (ad : Option Addr) (n cap : Nat) (xs : List α) (k b off : Nat) (T : TypeId) (ck : List Value) (f1 f2 : List Nat) : Rsc :=
  ⟨b :: (f1 ++ f2), fun w => ∃ cur : Array Value, w.heap[b]? = some (.cells cur T (0, 0)) ∧ off + sz α ≤ cur.size ∧ (cur.toList.drop off).take (sz α) = ck ∧ (∀ x ∈ b :: (f1 ++ f2), x < w.heap.size) ∧
    ∀ w' cur' x' fk', w'.heap[b]? = some (.cells cur' T (0, 0)) → cur'.size = cur.size → (∀ j, j < off ∨ off + sz α ≤ j → cur'[j]? = cur[j]?) → (∀ b ∈ f1, w'.heap[b]? = w.heap[b]?) → (∀ b ∈ f2, w'.heap[b]? = w.heap[b]?) →
        own true w' ((cur'.toList.drop off).take (sz α)) x' fk' → own true w' [.slice ad n cap] (xs.set k x') (b :: (f1 ++ (fk' ++ f2))),
   fun h e => by
      obtain ⟨cur, h1, h2, h3, h4, h5⟩ := h
      refine ⟨cur, (e b (by simp)).trans h1, h2, h3, fun x hx => ?_, fun w' cur' x' fk' q1 q2 q3 q4 q5 q6 => h5 w' cur' x' fk' q1 q2 q3 (fun b hb => (q4 b hb).trans (e b (by simp [hb]))) (fun b hb => (q5 b hb).trans (e b (by simp [hb]))) q6⟩
      have h7 := h4 x hx
      have h8 := e x hx
      rw [Array.getElem?_eq_getElem h7] at h8
      exact (Array.getElem?_eq_some_iff.1 h8).1,
   fun h => by obtain ⟨_, _, _, _, h, _⟩ := h; exact h⟩
variable {α : Type} [Rp α]
theorem Sep.focus {d : α} (h : Sep M w0 Δ F w) (i : Nat) {ad n cap} {xs : List α} {fp} (hi : Δ[i]? = some (Wk.mine [.slice ad n cap] xs fp)) (k : Nat) (hk : k < xs.length) :
    ∃ b o T ck f1 f2 fk, ad = some ⟨b, o, none⟩ ∧ own true w ck (xs.getD k d) fk ∧ Sep M w0 (Δ.set i (hol ad n cap xs k b (o + k * sz α) T ck f1 f2) ++ [Wk.mine ck (xs.getD k d) fk]) F w := by
  have hnd := h.nodup1 hi
  obtain ⟨b, o, cur, T, f1, fk, f2, e1, e2, hb, hsz, hx, hback⟩ := own_zoom (h.mine i hi) k hk
  have hlt := Rp.lt (h.mine i hi)
  have hk1 : (k + 1) * sz α = k * sz α + sz α := by rw [Nat.add_mul, Nat.one_mul]
  change fp.Nodup at hnd
  subst e2
  obtain ⟨n1, n2⟩ := List.nodup_cons.1 hnd
  rw [List.nodup_append, List.nodup_append] at n2
  obtain ⟨d1, ⟨d2, d3, d4⟩, d5⟩ := n2
  have hmem : ∀ x, x ∈ (b :: (f1 ++ f2)) ++ fk ↔ x ∈ b :: (f1 ++ (fk ++ f2)) := fun x => by
    simp only [List.cons_append, List.mem_cons, List.mem_append]
    constructor
    · rintro (h | (h | h) | h)
      · exact .inl h
      · exact .inr (.inl h)
      · exact .inr (.inr (.inr h))
      · exact .inr (.inr (.inl h))
    · rintro (h | h | h | h)
      · exact .inl h
      · exact .inr (.inl (.inl h))
      · exact .inr (.inr h)
      · exact .inr (.inl (.inr h))
  have H1 := h.set hi (q := reord (Wk.mine [.slice ad n cap] xs (b :: (f1 ++ (fk ++ f2)))) ((b :: (f1 ++ f2)) ++ fk) hmem) Ext.refl (h.mine i hi)
    (by
      change ((b :: (f1 ++ f2)) ++ fk).Nodup
      refine List.nodup_append.2 ⟨List.nodup_cons.2 ⟨fun hm => n1 (by rcases List.mem_append.1 hm with hm | hm <;> simp [hm]), List.nodup_append.2 ⟨d1, d3, fun p hp q hq e => d5 p hp q (by simp [hq]) e⟩⟩, d2, fun p hp q hq e => ?_⟩
      subst e
      rcases List.mem_cons.1 hp with rfl | hp
      · exact n1 (by simp [hq])
      · rcases List.mem_append.1 hp with hp | hp
        · exact d5 p hp p (by simp [hq]) rfl
        · exact d4 p hq p hp rfl)
    (fun x hx => .inl ((hmem x).1 hx))
  have hil : i < Δ.length := (List.getElem?_eq_some_iff.1 hi).1
  have ek : xs.getD k d = xs[k] := by simp [List.getD, hk]
  refine ⟨b, o, T, _, f1, f2, fk, e1, by rw [ek]; exact hx, ?_⟩
  have H2 := H1.part i (r := reord (Wk.mine [.slice ad n cap] xs (b :: (f1 ++ (fk ++ f2)))) ((b :: (f1 ++ f2)) ++ fk) hmem) (by rw [List.getElem?_set_self hil]) [hol ad n cap xs k b (o + k * sz α) T ((cur.toList.drop (o + k * sz α)).take (sz α)) f1 f2, Wk.mine ((cur.toList.drop (o + k * sz α)).take (sz α)) (xs.getD k d) fk] ?_ ?_
  · rw [List.set_set] at H2
    exact (H2.perm (set_swap hil)).sub ((List.Sublist.refl _).append (.cons _ (.refl _)))
  · refine all_cons ⟨cur, hb, hsz, rfl, fun x hx => hlt x ((hmem x).1 (by simp only [List.mem_append]; exact .inl hx)), fun w' cur' x' fk' q1 q2 q3 q4 q5 q6 => hback w' cur' x' fk' q1 q2 (fun j hj => q3 j (by rw [hk1] at hj; omega)) q4 q5 q6⟩ (all_cons ?_ (by simp))
    rw [ek]; exact hx
  · simp [blocks, hol, Wk.mine, reord]
variable {ad : Option Addr} {n cap k b off : Nat} {xs : List α} {T : TypeId} {ck : List Value} {f1 f2 : List Nat}
theorem Sep.holAt (h : Sep M w0 Δ F w) (i : Nat) (hi : Δ[i]? = some (hol ad n cap xs k b off T ck f1 f2)) : At w b off ck := by
  obtain ⟨cur, h1, h2, h3, _⟩ := h.r i hi
  rw [← h3]
  exact cells_at h1 _
theorem Sep.hset (h : Sep M w0 Δ F w) (i : Nat) (hi : Δ[i]? = some (hol ad n cap xs k b off T ck f1 f2)) (j : Nat) (hj : j < ck.length) (v : Value) :
    ∃ cur : Array Value, w.heap[b]? = some (.cells cur T (0, 0)) ∧ off + j < cur.size ∧ Sep M w0 (Δ.set i (hol ad n cap xs k b off T (ck.set j v) f1 f2)) F (Wk.put w b (.cells (cur.setIfInBounds (off + j) v) T (0, 0))) := by
  obtain ⟨cur, h1, h2, h3, h4, h5⟩ : (hol ad n cap xs k b off T ck f1 f2).φ w := h.r i hi
  have hnd := h.nodup1 hi
  change (b :: (f1 ++ f2)).Nodup at hnd
  obtain ⟨n1, _⟩ := List.nodup_cons.1 hnd
  have hjs : j < sz α := by
    have := congrArg List.length h3
    rw [List.length_take, List.length_drop] at this; omega
  have hE : Ext (· = b) w (Wk.put w b (.cells (cur.setIfInBounds (off + j) v) T (0, 0))) := Ext.refl.put (.inl rfl)
  refine ⟨cur, h1, by omega, h.set hi (q := hol ad n cap xs k b off T (ck.set j v) f1 f2) (hE.mono fun b' _ e => by subst e; simp [hol]) ?_ hnd (fun b hb => .inl hb)⟩
  refine ⟨cur.setIfInBounds (off + j) v, put_heap h1, by simpa using h2, ?_, fun x hx => by have := h4 x hx; have := hE.size; omega, fun w' cur' x' fk' q1 q2 q3 q4 q5 q6 => ?_⟩
  · rw [Array.toList_setIfInBounds, List.drop_set, if_neg (by omega), List.take_set, h3, Nat.add_sub_cancel_left]
  · refine h5 w' cur' x' fk' q1 (by simpa using q2) (fun l hl => ?_) (fun b' hb' => ?_) (fun b' hb' => ?_) q6
    · rw [q3 l hl, Array.getElem?_setIfInBounds_ne (by omega)]
    · rw [q4 b' hb']; exact hE.block b' (h4 b' (by simp [hb'])) fun e => n1 (by subst e; simp [hb'])
    · rw [q5 b' hb']; exact hE.block b' (h4 b' (by simp [hb'])) fun e => n1 (by subst e; simp [hb'])
theorem Sep.fill (h : Sep M w0 Δ F w) (i j : Nat) {fk} {x : α} (hi : Δ[i]? = some (hol ad n cap xs k b off T ck f1 f2)) (hj : Δ[j]? = some (Wk.mine ck x fk)) (hij : Nat.beq j i = false) :
    ∃ fp', Sep M w0 ((Δ.set j gone).set i (Wk.mine [.slice ad n cap] (xs.set k x) fp')) F w := by
  obtain ⟨cur, h1, h2, h3, h4, h5⟩ : (hol ad n cap xs k b off T ck f1 f2).φ w := h.r i hi
  have hx := h.mine j hj
  have hnd := h.nodup1 hi
  change (b :: (f1 ++ f2)).Nodup at hnd
  have hnk := h.nodup1 hj
  change fk.Nodup at hnk
  have hap : ∀ x ∈ fk, x ∉ b :: (f1 ++ f2) := fun x hx hm => h.apart (i := i) (j := j) hi hj hij x hx hm
  obtain ⟨n1, n2⟩ := List.nodup_cons.1 hnd
  obtain ⟨d1, d2, d3⟩ := List.nodup_append.1 n2
  have hbk : b ∉ fk := fun hm => hap b hm (by simp)
  refine ⟨b :: (f1 ++ (fk ++ f2)), h.set2 hi hj hij (q := Wk.mine [.slice ad n cap] (xs.set k x) (b :: (f1 ++ (fk ++ f2)))) Ext.refl ?_ ?_ ?_⟩
  · exact h5 w cur x fk h1 rfl (fun _ _ => rfl) (fun _ _ => rfl) (fun _ _ => rfl) (by rw [h3]; exact hx)
  · change (b :: (f1 ++ (fk ++ f2))).Nodup
    refine List.nodup_cons.2 ⟨fun hm => ?_, List.nodup_append.2 ⟨d1, List.nodup_append.2 ⟨hnk, d2, fun p hp q hq e => ?_⟩, fun p hp q hq e => ?_⟩⟩
    · simp only [List.mem_append, not_or] at hm n1
      rcases hm with hm | hm | hm
      · exact n1.1 hm
      · exact hbk hm
      · exact n1.2 hm
    · subst e; exact hap p hp (by simp [hq])
    · subst e
      rcases List.mem_append.1 hq with hq | hq
      · exact hap p hq (by simp [hp])
      · exact d3 p hp p hq rfl
  · intro x hx
    change x ∈ b :: (f1 ++ (fk ++ f2)) at hx
    simp only [List.mem_cons, List.mem_append] at hx
    rcases hx with h | h | h | h
    · exact .inl (by simp [hol, h])
    · exact .inl (by simp [hol, h])
    · exact .inr (.inl h)
    · exact .inl (by simp [hol, h])
/-- A list in a list. -/
theorem Sep.focusL {β : Type} [Rp β] (h : Sep M w0 Δ F w) (i : Nat) {ad n cap} {xs : List (List β)} {fp} (hi : Δ[i]? = some (Wk.mine [.slice ad n cap] xs fp)) (k : Nat) (hk : k < xs.length) :
    ∃ b o T f1 f2 a c fk, ad = some ⟨b, o, none⟩ ∧ Sep M w0 (Δ.set i (hol ad n cap xs k b (o + k * 1) T [.slice a (xs.getD k []).length c] f1 f2) ++ [Wk.mine [.slice a (xs.getD k []).length c] (xs.getD k []) fk]) F w := by
  obtain ⟨b, o, T, ck, f1, f2, fk, e, hx, H⟩ := h.focus (d := ([] : List β)) i hi k hk
  obtain ⟨a, c, rfl⟩ := own_slice hx
  exact ⟨b, o, T, f1, f2, a, c, fk, e, H⟩
end
section
variable {P : Program} {n : Nat} {ops : Array Oper} {Q : Post} {L : Env} {w w0 : World} {M : Nat → Prop} {Δ F : List Rsc} {d : Tmp} {ty : TypeId} {p : String} {af : Array Edge} {g : Option (Nat × Bool)} {α : Type} [Rp α]
theorem s_hsto {rest : List Oper} {t : TypeId} {x y : Operand} {ad : Option Addr} {m cap k b off : Nat} {xs : List α} {T : TypeId} {ck : List Value} {f1 f2 : List Nat} {v : Value} (hw : Wn ops n L ⟨none, .store t x y, ty, p, af, g⟩) (hs : ∀ w, (sizeOf t).run P w = .ok 1 w)
    (H : Sep M w0 Δ F w) (i j : Nat) (hi : Δ[i]? = some (hol ad m cap xs k b off T ck f1 f2)) (hj : Nat.blt j ck.length = true) (hx : evL L x = some (.pointer (some ⟨b, off + j, none⟩))) (hy : evL L y = some v) (h1 : v.oneCell' = true)
    (kk : ∀ w', Sep M w0 (Δ.set i (hol ad m cap xs k b off T (ck.set j v) f1 f2)) F w' → RL P n ops Q rest L w') : RL P n ops Q (⟨none, .store t x y, ty, p, af, g⟩ :: rest) L w := by
  obtain ⟨cur, hb, hlt, H'⟩ := H.hset i hi j (Nat.le_of_ble_eq_true hj) v
  exact s_do hw rfl (pd_store hs hx hy h1 hb hlt) (kk _ H')
end
end Go.Wk
namespace Go.Wk
section
variable {P : Program} {n : Nat} {c : Code} {Q : Post} {L : Env} {w w0 : World} {M : Nat → Prop} {Δ F : List Rsc}
/-- A loop that makes a list grow; the list is in cell q of a box. -/
theorem W_loopB {α : Type} [Rp α] {γ : Type} {v0 : Value} {fp0 : List Nat} {b T} {cs : List Value} (f : γ → List α) (g0 : γ) (H : Sep M w0 Δ F w) (i j q : Nat) (hi : Δ[i]? = some (mine [v0] (f g0) fp0)) (hj : Δ[j]? = some (box b (.cells cs.toArray T))) (hq : cs[q]? = some v0) (hij : Nat.beq j i = false)
    (E2 : Env) (h2 : sub L E2) (E : γ → Env) (I : γ → Prop) (μ : γ → Nat) (hs : sub L (E g0)) (h0 : I g0)
    (round : ∀ g v fp w, Sep M w0 ((Δ.set i (mine [v] (f g) fp)).set j (box b (.cells (cs.set q v).toArray T))) F w → I g → W P n c (again (fun x : γ × Value × List Nat => E x.1 ++ E2) (fun x w' => Sep M w0 ((Δ.set i (mine [x.2.1] (f x.1) x.2.2)).set j (box b (.cells (cs.set q x.2.1).toArray T))) F w' ∧ I x.1) (fun x => μ x.1) (g, v, fp) Q) (E g ++ E2) w) : W P n (.loop c) Q L w := by
  have hne : i ≠ j := fun e => by subst e; simp at hij
  have e0 : (Δ.set i (mine [v0] (f g0) fp0)).set j (box b (.cells (cs.set q v0).toArray T)) = Δ := by
    have ec : cs.set q v0 = cs := by
      apply List.ext_getElem?
      intro l
      rw [List.getElem?_set]
      split
      · rename_i e; subst e
        obtain ⟨hl, _⟩ := List.getElem?_eq_some_iff.1 hq
        rw [if_pos hl, hq]
      · rfl
    rw [set_getD hi, ec, set_getD hj]
  exact W_loop (fun x : γ × Value × List Nat => E x.1 ++ E2) (fun x w' => Sep M w0 ((Δ.set i (mine [x.2.1] (f x.1) x.2.2)).set j (box b (.cells (cs.set q x.2.1).toArray T))) F w' ∧ I x.1) (fun x => μ x.1) (g0, v0, fp0) (sub_append hs h2) ⟨by rw [e0]; exact H, h0⟩ fun x w h => round x.1 x.2.1 x.2.2 w h.1 h.2
theorem Sep.nilD {α : Type} [Rp α] (h : Sep M w0 Δ F w) : Sep M w0 (Δ ++ [Wk.mine [.slice none 0 0] ([] : List α) []]) F w :=
  h.add Ext.refl (r := Wk.mine [.slice none 0 0] ([] : List α) []) (.inr (.inl ⟨rfl, rfl, rfl⟩)) (by simp [Wk.mine]) (by simp [Wk.mine])
end
end Go.Wk
