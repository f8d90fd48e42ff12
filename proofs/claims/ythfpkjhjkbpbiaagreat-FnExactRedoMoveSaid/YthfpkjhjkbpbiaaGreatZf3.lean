/-
  Laws on walking, and the functions walked, each once: what this claim comes to.
-/
import Derived.Test.YthfpkjhjkbpbiaaGreatZf2
set_option linter.unusedVariables false
set_option linter.unusedSimpArgs false
namespace Go.Wk
open Rp (sz own)
def cat (r q : Rsc) : Rsc := ⟨r.fp ++ q.fp, fun w => r.φ w ∧ q.φ w, fun h k => ⟨r.st h.1 fun b hb => k b (by simp [hb]), q.st h.2 fun b hb => k b (by simp [hb])⟩, fun h b hb => (List.mem_append.1 hb).elim (r.lt h.1 b) (q.lt h.2 b)⟩
section
variable {M : Nat → Prop} {w0 w w' : World} {Δ F : List Rsc}
theorem Sep.join2 (h : Sep M w0 Δ F w) (i j : Nat) {r q : Rsc} (hi : Δ[i]? = some r) (hj : Δ[j]? = some q) (hij : Nat.beq j i = false) : Sep M w0 ((Δ.set j gone).set i (cat r q)) F w :=
  h.set2 hi hj hij Ext.refl (q := cat r q) ⟨h.r i hi, h.r j hj⟩ (List.nodup_append.2 ⟨h.nodup1 hi, h.nodup1 hj, fun a ha b hb e => by subst e; exact h.apart hi hj hij a hb ha⟩)
    fun b hb => (List.mem_append.1 hb).elim .inl fun h => .inr (.inl h)
theorem Sep.conv (h : Sep M w0 Δ F w) (i : Nat) {r : Rsc} (q : Rsc) (hi : Δ[i]? = some r) (hq : q.φ w) (hfp : ∀ b ∈ q.fp, b ∈ r.fp) (hn : q.fp.Nodup) : Sep M w0 (Δ.set i q) F w :=
  h.set hi Ext.refl hq hn fun b hb => .inl (hfp b hb)
theorem Sep.partLast {A : List Rsc} {r : Rsc} (h : Sep M w0 (A ++ [r]) F w) (rs : List Rsc) (hrs : ∀ q ∈ rs, q.φ w) (hb : blocks rs = r.fp) : Sep M w0 (A ++ gone :: rs) F w := by
  have H := h.part A.length (r := r) (by simp) rs hrs hb
  rw [show (A ++ [r]).set A.length gone = A ++ [gone] by simp] at H
  simpa using H
def hol {α : Type} [Rp α] (ad : Option Addr) (n cap : Nat) (xs : List α) (k b off : Nat) (T : TypeId) (ck : List Value) (f1 f2 : List Nat) : Rsc :=
  ⟨b :: (f1 ++ f2), fun w => ∃ cur : Array Value, w.heap[b]? = some (.cells cur T (0, 0)) ∧ off + sz α ≤ cur.size ∧ (cur.toList.drop off).take (sz α) = ck ∧ (∀ x ∈ b :: (f1 ++ f2), x < w.heap.size) ∧
    ∀ w' cur' x' fk', w'.heap[b]? = some (.cells cur' T (0, 0)) → cur'.size = cur.size → (∀ j, j < off ∨ off + sz α ≤ j → cur'[j]? = cur[j]?) → (∀ b ∈ f1, w'.heap[b]? = w.heap[b]?) → (∀ b ∈ f2, w'.heap[b]? = w.heap[b]?) →
        own true w' ((cur'.toList.drop off).take (sz α)) x' fk' → own true w' [.slice ad n cap] (xs.set k x') (b :: (f1 ++ (fk' ++ f2))),
   fun h e => by
      obtain ⟨cur, h1, h2, h3, h4, h5⟩ := h
      refine ⟨cur, (e b (by simp)).trans h1, h2, h3, fun x hx => ?_, fun w' cur' x' fk' q1 q2 q3 q4 q5 q6 => h5 w' cur' x' fk' q1 q2 q3 (fun b hb => (q4 b hb).trans (e b (by simp [hb]))) (fun b hb => (q5 b hb).trans (e b (by simp [hb]))) q6⟩
      have h7 := h4 x hx
      have h8 := e x hx
      rw [Array.getElem?_eq_getElem h7] at h8
      exact (Array.getElem?_eq_some_iff.1 h8).1,
   fun h => by obtain ⟨_, _, _, _, h, _⟩ := h; exact h⟩
variable {α : Type} [Rp α]
theorem Sep.focus {d : α} (h : Sep M w0 Δ F w) (i : Nat) {ad n cap} {xs : List α} {fp} (hi : Δ[i]? = some (Wk.mine [.slice ad n cap] xs fp)) (k : Nat) (hk : k < xs.length) :
    ∃ b o T ck f1 f2 fk, ad = some ⟨b, o, none⟩ ∧ own true w ck (xs.getD k d) fk ∧ Sep M w0 (Δ.set i (hol ad n cap xs k b (o + k * sz α) T ck f1 f2) ++ [Wk.mine ck (xs.getD k d) fk]) F w := by
  have hnd := h.nodup1 hi
  obtain ⟨b, o, cur, T, f1, fk, f2, e1, e2, hb, hsz, hx, hback⟩ := own_zoom (h.mine i hi) k hk
  have hlt := Rp.lt (h.mine i hi)
  have hk1 : (k + 1) * sz α = k * sz α + sz α := by rw [Nat.add_mul, Nat.one_mul]
  change fp.Nodup at hnd
  subst e2
  obtain ⟨n1, n2⟩ := List.nodup_cons.1 hnd
  rw [List.nodup_append, List.nodup_append] at n2
  obtain ⟨d1, ⟨d2, d3, d4⟩, d5⟩ := n2
  have hmem : ∀ x, x ∈ (b :: (f1 ++ f2)) ++ fk ↔ x ∈ b :: (f1 ++ (fk ++ f2)) := fun x => by
    simp only [List.cons_append, List.mem_cons, List.mem_append]
    constructor
    · rintro (h | (h | h) | h)
      · exact .inl h
      · exact .inr (.inl h)
      · exact .inr (.inr (.inr h))
      · exact .inr (.inr (.inl h))
    · rintro (h | h | h | h)
      · exact .inl h
      · exact .inr (.inl (.inl h))
      · exact .inr (.inr h)
      · exact .inr (.inl (.inr h))
  have H1 := h.set hi (q := reord (Wk.mine [.slice ad n cap] xs (b :: (f1 ++ (fk ++ f2)))) ((b :: (f1 ++ f2)) ++ fk) hmem) Ext.refl (h.mine i hi)
    (by
      change ((b :: (f1 ++ f2)) ++ fk).Nodup
      refine List.nodup_append.2 ⟨List.nodup_cons.2 ⟨fun hm => n1 (by rcases List.mem_append.1 hm with hm | hm <;> simp [hm]), List.nodup_append.2 ⟨d1, d3, fun p hp q hq e => d5 p hp q (by simp [hq]) e⟩⟩, d2, fun p hp q hq e => ?_⟩
      subst e
      rcases List.mem_cons.1 hp with rfl | hp
      · exact n1 (by simp [hq])
      · rcases List.mem_append.1 hp with hp | hp
        · exact d5 p hp p (by simp [hq]) rfl
        · exact d4 p hq p hp rfl)
    (fun x hx => .inl ((hmem x).1 hx))
  have hil : i < Δ.length := (List.getElem?_eq_some_iff.1 hi).1
  have ek : xs.getD k d = xs[k] := by simp [List.getD, hk]
  refine ⟨b, o, T, _, f1, f2, fk, e1, by rw [ek]; exact hx, ?_⟩
  have H2 := H1.part i (r := reord (Wk.mine [.slice ad n cap] xs (b :: (f1 ++ (fk ++ f2)))) ((b :: (f1 ++ f2)) ++ fk) hmem) (by rw [List.getElem?_set_self hil]) [hol ad n cap xs k b (o + k * sz α) T ((cur.toList.drop (o + k * sz α)).take (sz α)) f1 f2, Wk.mine ((cur.toList.drop (o + k * sz α)).take (sz α)) (xs.getD k d) fk] ?_ ?_
  · rw [List.set_set] at H2
    exact (H2.perm (set_swap hil)).sub ((List.Sublist.refl _).append (.cons _ (.refl _)))
  · refine all_cons ⟨cur, hb, hsz, rfl, fun x hx => hlt x ((hmem x).1 (by simp only [List.mem_append]; exact .inl hx)), fun w' cur' x' fk' q1 q2 q3 q4 q5 q6 => hback w' cur' x' fk' q1 q2 (fun j hj => q3 j (by rw [hk1] at hj; omega)) q4 q5 q6⟩ (all_cons ?_ (by simp))
    rw [ek]; exact hx
  · simp [blocks, hol, Wk.mine, reord]
variable {ad : Option Addr} {n cap k b off : Nat} {xs : List α} {T : TypeId} {ck : List Value} {f1 f2 : List Nat}
theorem Sep.holAt (h : Sep M w0 Δ F w) (i : Nat) (hi : Δ[i]? = some (hol ad n cap xs k b off T ck f1 f2)) : At w b off ck := by
  obtain ⟨cur, h1, h2, h3, _⟩ := h.r i hi
  rw [← h3]
  exact cells_at h1 _
theorem Sep.hset (h : Sep M w0 Δ F w) (i : Nat) (hi : Δ[i]? = some (hol ad n cap xs k b off T ck f1 f2)) (j : Nat) (hj : j < ck.length) (v : Value) :
    ∃ cur : Array Value, w.heap[b]? = some (.cells cur T (0, 0)) ∧ off + j < cur.size ∧ Sep M w0 (Δ.set i (hol ad n cap xs k b off T (ck.set j v) f1 f2)) F (Wk.put w b (.cells (cur.setIfInBounds (off + j) v) T (0, 0))) := by
  obtain ⟨cur, h1, h2, h3, h4, h5⟩ : (hol ad n cap xs k b off T ck f1 f2).φ w := h.r i hi
  have hnd := h.nodup1 hi
  change (b :: (f1 ++ f2)).Nodup at hnd
  obtain ⟨n1, _⟩ := List.nodup_cons.1 hnd
  have hjs : j < sz α := by
    have := congrArg List.length h3
    rw [List.length_take, List.length_drop] at this; omega
  have hE : Ext (· = b) w (Wk.put w b (.cells (cur.setIfInBounds (off + j) v) T (0, 0))) := Ext.refl.put (.inl rfl)
  refine ⟨cur, h1, by omega, h.set hi (q := hol ad n cap xs k b off T (ck.set j v) f1 f2) (hE.mono fun b' _ e => by subst e; simp [hol]) ?_ hnd (fun b hb => .inl hb)⟩
  refine ⟨cur.setIfInBounds (off + j) v, put_heap h1, by simpa using h2, ?_, fun x hx => by have := h4 x hx; have := hE.size; omega, fun w' cur' x' fk' q1 q2 q3 q4 q5 q6 => ?_⟩
  · rw [Array.toList_setIfInBounds, List.drop_set, if_neg (by omega), List.take_set, h3, Nat.add_sub_cancel_left]
  · refine h5 w' cur' x' fk' q1 (by simpa using q2) (fun l hl => ?_) (fun b' hb' => ?_) (fun b' hb' => ?_) q6
    · rw [q3 l hl, Array.getElem?_setIfInBounds_ne (by omega)]
    · rw [q4 b' hb']; exact hE.block b' (h4 b' (by simp [hb'])) fun e => n1 (by subst e; simp [hb'])
    · rw [q5 b' hb']; exact hE.block b' (h4 b' (by simp [hb'])) fun e => n1 (by subst e; simp [hb'])
theorem Sep.fill (h : Sep M w0 Δ F w) (i j : Nat) {fk} {x : α} (hi : Δ[i]? = some (hol ad n cap xs k b off T ck f1 f2)) (hj : Δ[j]? = some (Wk.mine ck x fk)) (hij : Nat.beq j i = false) :
    ∃ fp', Sep M w0 ((Δ.set j gone).set i (Wk.mine [.slice ad n cap] (xs.set k x) fp')) F w := by
  obtain ⟨cur, h1, h2, h3, h4, h5⟩ : (hol ad n cap xs k b off T ck f1 f2).φ w := h.r i hi
  have hx := h.mine j hj
  have hnd := h.nodup1 hi
  change (b :: (f1 ++ f2)).Nodup at hnd
  have hnk := h.nodup1 hj
  change fk.Nodup at hnk
  have hap : ∀ x ∈ fk, x ∉ b :: (f1 ++ f2) := fun x hx hm => h.apart (i := i) (j := j) hi hj hij x hx hm
  obtain ⟨n1, n2⟩ := List.nodup_cons.1 hnd
  obtain ⟨d1, d2, d3⟩ := List.nodup_append.1 n2
  have hbk : b ∉ fk := fun hm => hap b hm (by simp)
  refine ⟨b :: (f1 ++ (fk ++ f2)), h.set2 hi hj hij (q := Wk.mine [.slice ad n cap] (xs.set k x) (b :: (f1 ++ (fk ++ f2)))) Ext.refl ?_ ?_ ?_⟩
  · exact h5 w cur x fk h1 rfl (fun _ _ => rfl) (fun _ _ => rfl) (fun _ _ => rfl) (by rw [h3]; exact hx)
  · change (b :: (f1 ++ (fk ++ f2))).Nodup
    refine List.nodup_cons.2 ⟨fun hm => ?_, List.nodup_append.2 ⟨d1, List.nodup_append.2 ⟨hnk, d2, fun p hp q hq e => ?_⟩, fun p hp q hq e => ?_⟩⟩
    · simp only [List.mem_append, not_or] at hm n1
      rcases hm with hm | hm | hm
      · exact n1.1 hm
      · exact hbk hm
      · exact n1.2 hm
    · subst e; exact hap p hp (by simp [hq])
    · subst e
      rcases List.mem_append.1 hq with hq | hq
      · exact hap p hq (by simp [hp])
      · exact d3 p hp p hq rfl
  · intro x hx
    change x ∈ b :: (f1 ++ (fk ++ f2)) at hx
    simp only [List.mem_cons, List.mem_append] at hx
    rcases hx with h | h | h | h
    · exact .inl (by simp [hol, h])
    · exact .inl (by simp [hol, h])
    · exact .inr (.inl h)
    · exact .inl (by simp [hol, h])
theorem Sep.focusL {β : Type} [Rp β] (h : Sep M w0 Δ F w) (i : Nat) {ad n cap} {xs : List (List β)} {fp} (hi : Δ[i]? = some (Wk.mine [.slice ad n cap] xs fp)) (k : Nat) (hk : k < xs.length) :
    ∃ b o T f1 f2 a c fk, ad = some ⟨b, o, none⟩ ∧ Sep M w0 (Δ.set i (hol ad n cap xs k b (o + k * 1) T [.slice a (xs.getD k []).length c] f1 f2) ++ [Wk.mine [.slice a (xs.getD k []).length c] (xs.getD k []) fk]) F w := by
  obtain ⟨b, o, T, ck, f1, f2, fk, e, hx, H⟩ := h.focus (d := ([] : List β)) i hi k hk
  obtain ⟨a, c, rfl⟩ := own_slice hx
  exact ⟨b, o, T, f1, f2, a, c, fk, e, H⟩
end
section
variable {P : Program} {n : Nat} {ops : Array Oper} {Q : Post} {L : Env} {w w0 : World} {M : Nat → Prop} {Δ F : List Rsc} {d : Tmp} {ty : TypeId} {p : String} {af : Array Edge} {g : Option (Nat × Bool)} {α : Type} [Rp α]
theorem s_hsto {rest : List Oper} {t : TypeId} {x y : Operand} {ad : Option Addr} {m cap k b off : Nat} {xs : List α} {T : TypeId} {ck : List Value} {f1 f2 : List Nat} {v : Value} (hw : Wn ops n L ⟨none, .store t x y, ty, p, af, g⟩) (hs : ∀ w, (sizeOf t).run P w = .ok 1 w)
    (H : Sep M w0 Δ F w) (i j : Nat) (hi : Δ[i]? = some (hol ad m cap xs k b off T ck f1 f2)) (hj : Nat.blt j ck.length = true) (hx : evL L x = some (.pointer (some ⟨b, off + j, none⟩))) (hy : evL L y = some v) (h1 : v.oneCell' = true)
    (kk : ∀ w', Sep M w0 (Δ.set i (hol ad m cap xs k b off T (ck.set j v) f1 f2)) F w' → RL P n ops Q rest L w') : RL P n ops Q (⟨none, .store t x y, ty, p, af, g⟩ :: rest) L w := by
  obtain ⟨cur, hb, hlt, H'⟩ := H.hset i hi j (Nat.le_of_ble_eq_true hj) v
  exact s_do hw rfl (pd_store hs hx hy h1 hb hlt) (kk _ H')
end
end Go.Wk
namespace Go.Wk
section
variable {P : Program} {n : Nat} {c : Code} {Q : Post} {L : Env} {w w0 : World} {M : Nat → Prop} {Δ F : List Rsc}
theorem W_loopB {α : Type} [Rp α] {γ : Type} {v0 : Value} {fp0 : List Nat} {b T} {cs : List Value} (f : γ → List α) (g0 : γ) (H : Sep M w0 Δ F w) (i j q : Nat) (hi : Δ[i]? = some (mine [v0] (f g0) fp0)) (hj : Δ[j]? = some (box b (.cells cs.toArray T))) (hq : cs[q]? = some v0) (hij : Nat.beq j i = false)
  (E2 : Env) (h2 : sub L E2) (E : γ → Env) (I : γ → Prop) (μ : γ → Nat) (hs : sub L (E g0)) (h0 : I g0)
  (round : ∀ g v fp w, Sep M w0 ((Δ.set i (mine [v] (f g) fp)).set j (box b (.cells (cs.set q v).toArray T))) F w → I g → W P n c (again (fun x : γ × Value × List Nat => E x.1 ++ E2) (fun x w' => Sep M w0 ((Δ.set i (mine [x.2.1] (f x.1) x.2.2)).set j (box b (.cells (cs.set q x.2.1).toArray T))) F w' ∧ I x.1) (fun x => μ x.1) (g, v, fp) Q) (E g ++ E2) w) : W P n (.loop c) Q L w := by
 have hne : i ≠ j := fun e => by subst e; simp at hij
 have e0 : (Δ.set i (mine [v0] (f g0) fp0)).set j (box b (.cells (cs.set q v0).toArray T)) = Δ := by
  have ec : cs.set q v0 = cs := by
   apply List.ext_getElem?
   intro l
   rw [List.getElem?_set]
   split
   ·rename_i e; subst e
    obtain ⟨hl, _⟩ := List.getElem?_eq_some_iff.1 hq
    rw [if_pos hl, hq]
   ·rfl
  rw [set_getD hi, ec, set_getD hj]
 exact W_loop (fun x : γ × Value × List Nat => E x.1 ++ E2) (fun x w' => Sep M w0 ((Δ.set i (mine [x.2.1] (f x.1) x.2.2)).set j (box b (.cells (cs.set q x.2.1).toArray T))) F w' ∧ I x.1) (fun x => μ x.1) (g0, v0, fp0) (sub_append hs h2) ⟨by rw [e0]; exact H, h0⟩ fun x w h => round x.1 x.2.1 x.2.2 w h.1 h.2
theorem Sep.nilW {α : Type} [Rp α] (h : Sep M w0 Δ F w) : Sep M w0 (Δ ++ [Wk.mine [.slice none 0 0] ([] : List α) []]) F w :=
  h.add Ext.refl (r := Wk.mine [.slice none 0 0] ([] : List α) []) (.inr (.inl ⟨rfl, rfl, rfl⟩)) (by simp [Wk.mine]) (by simp [Wk.mine])
end
end Go.Wk
namespace Go.Wk
open Rp (sz own)
theorem Block.focus {M : Nat → Prop} {w0 w : World} {Δ F : List Rsc} (h : Sep M w0 Δ F w) (i : Nat) {ad n cap} {xs : List Block} {fp} (hi : Δ[i]? = some (mine [.slice ad n cap] xs fp)) (k : Nat) (hk : k < xs.length) : ∃ b o Ty f1 f2 A1 C1 g1, ad = some ⟨b, o, none⟩ ∧ (xs.getD k default).Ok ∧ Sep M w0 (Δ.set i (hol ad n cap xs k b (o + k * sz Block) Ty [.int .i64 (xs.getD k default).Stamp, .slice A1 (xs.getD k default).Bytes.length C1] f1 f2) ++ [gone, mine [.slice A1 (xs.getD k default).Bytes.length C1] (xs.getD k default).Bytes g1]) F w := by
  obtain ⟨b, o, Ty, ck, f1, f2, fk, e, hx, H⟩ := h.focus (d := default) i hi k hk
  obtain ⟨A1, C1, g1, rfl, ef, ok, o1⟩ := own_Block hx
  have H2 := H.partLast [mine [.slice A1 (xs.getD k default).Bytes.length C1] (xs.getD k default).Bytes g1] (all_cons o1 (by simp)) (by simp [blocks, mine, ef])
  exact ⟨b, o, Ty, f1, f2, A1, C1, g1, e, ok, H2⟩
theorem Block.fill {M : Nat → Prop} {w0 w : World} {Δ F : List Rsc} (h : Sep M w0 Δ F w) (i j1 : Nat) {ad n cap k b off Ty f1 f2} {xs : List Block} {s0 : Int} {A1 C1 m1} {y1 : List UInt8} {g1} (hi : Δ[i]? = some (hol ad n cap xs k b off Ty [.int .i64 s0, .slice A1 m1 C1] f1 f2)) (h1 : Δ[j1]? = some (mine [.slice A1 m1 C1] y1 g1)) (d1 : Nat.beq j1 i = false)  (ok : (⟨s0, y1⟩ : Block).Ok) : ∃ fp', Sep M w0 ((Δ.set j1 gone).set i (mine [.slice ad n cap] (xs.set k (⟨s0, y1⟩ : Block)) fp')) F w := by
  have o1 := h.mine j1 h1
  obtain rfl := own_n o1
  have n1 : j1 ≠ i := fun e => by subst e; simp at d1
  have H := h.conv j1 (mine [.int .i64 s0, .slice A1 y1.length C1] (⟨s0, y1⟩ : Block) (g1)) h1 (Block.own_mk ok o1) (fun b hb => hb) (show (mine [.slice A1 y1.length C1] y1 g1).fp.Nodup from h.nodup1 h1)
  obtain ⟨fp', H2⟩ := H.fill i j1 (by rw [List.getElem?_set_ne n1]; exact hi) (by rw [List.getElem?_set_self (List.getElem?_eq_some_iff.1 h1).1]) d1
  rw [List.set_set] at H2
  exact ⟨fp', H2⟩
theorem Drive.focus {M : Nat → Prop} {w0 w : World} {Δ F : List Rsc} (h : Sep M w0 Δ F w) (i : Nat) {ad n cap} {xs : List Drive} {fp} (hi : Δ[i]? = some (mine [.slice ad n cap] xs fp)) (k : Nat) (hk : k < xs.length) : ∃ b o Ty f1 f2 A1 C1 g1, ad = some ⟨b, o, none⟩ ∧ (xs.getD k default).Ok ∧ Sep M w0 (Δ.set i (hol ad n cap xs k b (o + k * sz Drive) Ty [.bool (xs.getD k default).Wiped, .slice A1 (xs.getD k default).Blocks.length C1] f1 f2) ++ [gone, mine [.slice A1 (xs.getD k default).Blocks.length C1] (xs.getD k default).Blocks g1]) F w := by
  obtain ⟨b, o, Ty, ck, f1, f2, fk, e, hx, H⟩ := h.focus (d := default) i hi k hk
  obtain ⟨A1, C1, g1, rfl, ef, ok, o1⟩ := own_Drive hx
  have H2 := H.partLast [mine [.slice A1 (xs.getD k default).Blocks.length C1] (xs.getD k default).Blocks g1] (all_cons o1 (by simp)) (by simp [blocks, mine, ef])
  exact ⟨b, o, Ty, f1, f2, A1, C1, g1, e, ok, H2⟩
theorem Drive.fill {M : Nat → Prop} {w0 w : World} {Δ F : List Rsc} (h : Sep M w0 Δ F w) (i j1 : Nat) {ad n cap k b off Ty f1 f2} {xs : List Drive} {s0 : Bool} {A1 C1 m1} {y1 : List Block} {g1} (hi : Δ[i]? = some (hol ad n cap xs k b off Ty [.bool s0, .slice A1 m1 C1] f1 f2)) (h1 : Δ[j1]? = some (mine [.slice A1 m1 C1] y1 g1)) (d1 : Nat.beq j1 i = false)  (ok : (⟨s0, y1⟩ : Drive).Ok) : ∃ fp', Sep M w0 ((Δ.set j1 gone).set i (mine [.slice ad n cap] (xs.set k (⟨s0, y1⟩ : Drive)) fp')) F w := by
  have o1 := h.mine j1 h1
  obtain rfl := own_n o1
  have n1 : j1 ≠ i := fun e => by subst e; simp at d1
  have H := h.conv j1 (mine [.bool s0, .slice A1 y1.length C1] (⟨s0, y1⟩ : Drive) (g1)) h1 (Drive.own_mk ok o1) (fun b hb => hb) (show (mine [.slice A1 y1.length C1] y1 g1).fp.Nodup from h.nodup1 h1)
  obtain ⟨fp', H2⟩ := H.fill i j1 (by rw [List.getElem?_set_ne n1]; exact hi) (by rw [List.getElem?_set_self (List.getElem?_eq_some_iff.1 h1).1]) d1
  rw [List.set_set] at H2
  exact ⟨fp', H2⟩
theorem Tape.focus {M : Nat → Prop} {w0 w : World} {Δ F : List Rsc} (h : Sep M w0 Δ F w) (i : Nat) {ad n cap} {xs : List Tape} {fp} (hi : Δ[i]? = some (mine [.slice ad n cap] xs fp)) (k : Nat) (hk : k < xs.length) : ∃ b o Ty f1 f2 A1 C1 g1, ad = some ⟨b, o, none⟩ ∧ (xs.getD k default).Ok ∧ Sep M w0 (Δ.set i (hol ad n cap xs k b (o + k * sz Tape) Ty [.bool (xs.getD k default).Wiped, .slice A1 (xs.getD k default).Recs.length C1] f1 f2) ++ [gone, mine [.slice A1 (xs.getD k default).Recs.length C1] (xs.getD k default).Recs g1]) F w := by
  obtain ⟨b, o, Ty, ck, f1, f2, fk, e, hx, H⟩ := h.focus (d := default) i hi k hk
  obtain ⟨A1, C1, g1, rfl, ef, ok, o1⟩ := own_Tape hx
  have H2 := H.partLast [mine [.slice A1 (xs.getD k default).Recs.length C1] (xs.getD k default).Recs g1] (all_cons o1 (by simp)) (by simp [blocks, mine, ef])
  exact ⟨b, o, Ty, f1, f2, A1, C1, g1, e, ok, H2⟩
theorem Tape.fill {M : Nat → Prop} {w0 w : World} {Δ F : List Rsc} (h : Sep M w0 Δ F w) (i j1 : Nat) {ad n cap k b off Ty f1 f2} {xs : List Tape} {s0 : Bool} {A1 C1 m1} {y1 : List Rec} {g1} (hi : Δ[i]? = some (hol ad n cap xs k b off Ty [.bool s0, .slice A1 m1 C1] f1 f2)) (h1 : Δ[j1]? = some (mine [.slice A1 m1 C1] y1 g1)) (d1 : Nat.beq j1 i = false)  (ok : (⟨s0, y1⟩ : Tape).Ok) : ∃ fp', Sep M w0 ((Δ.set j1 gone).set i (mine [.slice ad n cap] (xs.set k (⟨s0, y1⟩ : Tape)) fp')) F w := by
  have o1 := h.mine j1 h1
  obtain rfl := own_n o1
  have n1 : j1 ≠ i := fun e => by subst e; simp at d1
  have H := h.conv j1 (mine [.bool s0, .slice A1 y1.length C1] (⟨s0, y1⟩ : Tape) (g1)) h1 (Tape.own_mk ok o1) (fun b hb => hb) (show (mine [.slice A1 y1.length C1] y1 g1).fp.Nodup from h.nodup1 h1)
  obtain ⟨fp', H2⟩ := H.fill i j1 (by rw [List.getElem?_set_ne n1]; exact hi) (by rw [List.getElem?_set_self (List.getElem?_eq_some_iff.1 h1).1]) d1
  rw [List.set_set] at H2
  exact ⟨fp', H2⟩
theorem Rec.focus {M : Nat → Prop} {w0 w : World} {Δ F : List Rsc} (h : Sep M w0 Δ F w) (i : Nat) {ad n cap} {xs : List Rec} {fp} (hi : Δ[i]? = some (mine [.slice ad n cap] xs fp)) (k : Nat) (hk : k < xs.length) : ∃ b o Ty f1 f2 A6 C6 A7 C7 A8 C8 g6 g7 g8, ad = some ⟨b, o, none⟩ ∧ (xs.getD k default).Ok ∧ Sep M w0 (Δ.set i (hol ad n cap xs k b (o + k * sz Rec) Ty [.int .i64 (xs.getD k default).Kind, .int .i64 (xs.getD k default).Seq, .string (xs.getD k default).Name, .int .i64 (xs.getD k default).Length, .int .i64 (xs.getD k default).Group, .int .i64 (xs.getD k default).Row, .slice A6 (xs.getD k default).Rows.length C6, .slice A7 (xs.getD k default).Data.length C7, .slice A8 (xs.getD k default).Delta.length C8] f1 f2) ++ [gone, mine [.slice A6 (xs.getD k default).Rows.length C6] (xs.getD k default).Rows g6, mine [.slice A7 (xs.getD k default).Data.length C7] (xs.getD k default).Data g7, mine [.slice A8 (xs.getD k default).Delta.length C8] (xs.getD k default).Delta g8]) F w := by
  obtain ⟨b, o, Ty, ck, f1, f2, fk, e, hx, H⟩ := h.focus (d := default) i hi k hk
  obtain ⟨A6, C6, A7, C7, A8, C8, g6, g7, g8, rfl, ef, ok, o6, o7, o8⟩ := own_Rec hx
  have H2 := H.partLast [mine [.slice A6 (xs.getD k default).Rows.length C6] (xs.getD k default).Rows g6, mine [.slice A7 (xs.getD k default).Data.length C7] (xs.getD k default).Data g7, mine [.slice A8 (xs.getD k default).Delta.length C8] (xs.getD k default).Delta g8] (all_cons o6 (all_cons o7 (all_cons o8 (by simp)))) (by simp [blocks, mine, ef])
  exact ⟨b, o, Ty, f1, f2, A6, C6, A7, C7, A8, C8, g6, g7, g8, e, ok, H2⟩
theorem Rec.fill {M : Nat → Prop} {w0 w : World} {Δ F : List Rsc} (h : Sep M w0 Δ F w) (i j6 j7 j8 : Nat) {ad n cap k b off Ty f1 f2} {xs : List Rec} {s0 : Int} {s1 : Int} {s2 : ByteArray} {s3 : Int} {s4 : Int} {s5 : Int} {A6 C6 m6} {y6 : List Int} {g6} {A7 C7 m7} {y7 : List UInt8} {g7} {A8 C8 m8} {y8 : List UInt8} {g8} (hi : Δ[i]? = some (hol ad n cap xs k b off Ty [.int .i64 s0, .int .i64 s1, .string s2, .int .i64 s3, .int .i64 s4, .int .i64 s5, .slice A6 m6 C6, .slice A7 m7 C7, .slice A8 m8 C8] f1 f2)) (h6 : Δ[j6]? = some (mine [.slice A6 m6 C6] y6 g6)) (h7 : Δ[j7]? = some (mine [.slice A7 m7 C7] y7 g7)) (h8 : Δ[j8]? = some (mine [.slice A8 m8 C8] y8 g8)) (d6 : Nat.beq j6 i = false) (d7 : Nat.beq j7 i = false) (d8 : Nat.beq j8 i = false) (e7_6 : Nat.beq j7 j6 = false) (e8_6 : Nat.beq j8 j6 = false) (e8_7 : Nat.beq j8 j7 = false) (ok : (⟨s0, s1, s2, s3, s4, s5, y6, y7, y8⟩ : Rec).Ok) : ∃ fp', Sep M w0 ((((Δ.set j7 gone).set j8 gone).set j6 gone).set i (mine [.slice ad n cap] (xs.set k (⟨s0, s1, s2, s3, s4, s5, y6, y7, y8⟩ : Rec)) fp')) F w := by
  have o6 := h.mine j6 h6
  obtain rfl := own_n o6
  have n6 : j6 ≠ i := fun e => by subst e; simp at d6
  have o7 := h.mine j7 h7
  obtain rfl := own_n o7
  have n7 : j7 ≠ i := fun e => by subst e; simp at d7
  have o8 := h.mine j8 h8
  obtain rfl := own_n o8
  have n8 : j8 ≠ i := fun e => by subst e; simp at d8
  have q1 : j7 ≠ j6 := fun e => by subst e; simp at e7_6
  have q2 : j8 ≠ j6 := fun e => by subst e; simp at e8_6
  have q3 : j8 ≠ j7 := fun e => by subst e; simp at e8_7
  have l6 := (List.getElem?_eq_some_iff.1 h6).1
  have H1 := h.join2 j6 j7 h6 h7 e7_6
  have H2 := H1.join2 j6 j8 (by rw [List.getElem?_set_self (by simpa using l6)]) (by rw [List.getElem?_set_ne (Ne.symm q2), List.getElem?_set_ne (Ne.symm q3)]; exact h8) e8_6
  rw [List.set_comm _ _ (Ne.symm q2), List.set_set] at H2
  have sq : (((Δ.set j7 gone).set j8 gone).set j6 (cat (cat (mine [.slice A6 y6.length C6] y6 g6) (mine [.slice A7 y7.length C7] y7 g7)) (mine [.slice A8 y8.length C8] y8 g8)))[j6]? = some (cat (cat (mine [.slice A6 y6.length C6] y6 g6) (mine [.slice A7 y7.length C7] y7 g7)) (mine [.slice A8 y8.length C8] y8 g8)) := by rw [List.getElem?_set_self (by simpa using l6)]
  have nd := H2.nodup1 sq
  have H := H2.conv j6 (mine [.int .i64 s0, .int .i64 s1, .string s2, .int .i64 s3, .int .i64 s4, .int .i64 s5, .slice A6 y6.length C6, .slice A7 y7.length C7, .slice A8 y8.length C8] (⟨s0, s1, s2, s3, s4, s5, y6, y7, y8⟩ : Rec) (g6 ++ (g7 ++ (g8)))) sq (Rec.own_mk ok o6 o7 o8) (fun b hb => by simpa [cat, mine] using hb) (by simpa [cat, mine] using nd)
  rw [List.set_set] at H
  obtain ⟨fp', H3⟩ := H.fill i j6 (by rw [List.getElem?_set_ne n6, List.getElem?_set_ne n8, List.getElem?_set_ne n7]; exact hi) (by rw [List.getElem?_set_self (by simpa using l6)]) d6
  rw [List.set_set] at H3
  exact ⟨fp', H3⟩
end Go.Wk
namespace Go.Wk
open Rp (sz own)
def digits : Nat → Nat → ByteArray → ByteArray
  | 0, _, out => out
  | f + 1, k, out => if k = 0 then out else digits f (k / 10) (strB [UInt8.ofNat (48 + k % 10)] ++ out)
def mText (k : Int) : ByteArray := if k ≤ 0 then ⟨#[109, 48]⟩ else ⟨#[109]⟩ ++ digits 30 k.toNat ⟨#[]⟩
section
variable {α : Type} [Inhabited α]
def MkL (P : α → Int → Prop) (c : α → Nat) (xs : List α) (k : Int) : Prop := ∀ i, i < xs.length → P (xs.getD i default) (k + sumN (fun i => c (xs.getD i default)) i)
def MkInv (P : α → Int → Prop) (c : α → Nat) (xs : List α) (k : Int) (i : Nat) (ys : List α) : Prop :=
  i ≤ xs.length ∧ ys.length = xs.length ∧ (∀ j, c (ys.getD j default) = c (xs.getD j default)) ∧ (∀ j, j < i → P (ys.getD j default) (k + sumN (fun i => c (xs.getD i default)) j)) ∧ (∀ j, i ≤ j → ys.getD j default = xs.getD j default)
variable {P : α → Int → Prop} {c : α → Nat} {xs ys : List α} {k : Int} {i : Nat} {e : α}
theorem mk_begin : MkInv P c xs k 0 xs := ⟨Nat.zero_le _, rfl, fun _ => rfl, fun j hj => by omega, fun _ _ => rfl⟩
theorem mk_step (h : MkInv P c xs k i ys) (hi : i < xs.length) (hc : c e = c (xs.getD i default)) (hP : P e (k + sumN (fun i => c (xs.getD i default)) i)) : MkInv P c xs k (i + 1) (ys.set i e) := by
  obtain ⟨h1, h2, h3, h4, h5⟩ := h
  refine ⟨by omega, by rw [List.length_set]; exact h2, fun j => ?_, fun j hj => ?_, fun j hj => ?_⟩
  · rw [getD_set]
    split
    · rename_i h; rw [hc, h.1]
    · exact h3 j
  · rw [getD_set]
    split
    · rename_i h; rw [h.1]; exact hP
    · rename_i h; exact h4 j (by omega)
  · rw [getD_set, if_neg (by omega)]; exact h5 j (by omega)
theorem mk_end (h : MkInv P c xs k xs.length ys) : ys.length = xs.length ∧ mkL c ys = mkL c xs ∧ MkL P c ys k := by
  obtain ⟨h1, h2, h3, h4, h5⟩ := h
  have e : (fun i => c (ys.getD i default)) = fun i => c (xs.getD i default) := funext h3
  refine ⟨h2, by unfold mkL; rw [e, h2], fun i hi => ?_⟩
  rw [e]; exact h4 i (by omega)
theorem mk_at (h : MkInv P c xs k i ys) : ys.getD i default = xs.getD i default := h.2.2.2.2 i (Nat.le_refl _)
theorem mkL_at (h : i < xs.length) : sumN (fun i => c (xs.getD i default)) (i + 1) = sumN (fun i => c (xs.getD i default)) i + c (xs.getD i default) ∧ sumN (fun i => c (xs.getD i default)) (i + 1) ≤ mkL c xs := ⟨rfl, sumN_le h⟩
end
def MkBlock (b : Block) (k : Int) : Prop := b.Stamp = k ∧ MarkB b.Bytes (k + 1)
def MkDrive (d : Drive) (k : Int) : Prop := d.Wiped = decide (k.tmod 3 = 0) ∧ MkL MkBlock mkBlock d.Blocks (k + 1)
def MkRec (r : Rec) (k : Int) : Prop := r.Kind = k ∧ r.Seq = k + 1 ∧ r.Name = mText (k + 2) ∧ r.Length = k + 3 ∧ r.Group = k + 4 ∧ r.Row = k + 5 ∧ MarkI r.Rows (k + 6) ∧ MarkB r.Data (k + 6 + r.Rows.length) ∧ MarkB r.Delta (k + 6 + r.Rows.length + r.Data.length)
def MkTape (t : Tape) (k : Int) : Prop := t.Wiped = decide (k.tmod 3 = 0) ∧ MkL MkRec mkRec t.Recs (k + 1)
def MkWld (z : Wld) (k : Int) : Prop := MkL (MkL MkDrive mkDrive) (mkL mkDrive) z.Groups k ∧ MarkI z.On (k + mkL (mkL mkDrive) z.Groups) ∧ MkL MkTape mkTape z.Tapes (k + mkL (mkL mkDrive) z.Groups + z.On.length)
end Go.Wk
namespace Go.Wk
theorem eqStr {a b : ByteArray} (h : a = b) : some (Value.string a) = some (Value.string b) := by rw [h]
theorem digits_zero : ∀ f out, digits f 0 out = out
  | 0, _ => rfl
  | _ + 1, _ => by rw [digits, if_pos rfl]
theorem digits_step {f m : Nat} {out : ByteArray} (h : 0 < m) : digits (f + 1) m out = digits f (m / 10) (strB [UInt8.ofNat (48 + m % 10)] ++ out) := by rw [digits, if_neg (by omega)]
end Go.Wk
namespace Go.Wk
section
variable {M : Nat → Prop} {w0 w : World} {Δ F : List Rsc} {α : Type} [Rp α]
theorem Sep.litW (h : Sep M w0 Δ F w) (i : Nat) {b : Nat} {T : TypeId} {v : Value} {u : α} (hi : Δ[i]? = some (Wk.box b (.cells [v].toArray T))) (h0 : Rp.own true w [v] u []) : Sep M w0 (Δ.set i (Wk.mine [.slice (some ⟨b, 0, none⟩) 1 1] [u] [b])) F w :=
  h.conv i (Wk.mine [.slice (some ⟨b, 0, none⟩) 1 1] [u] [b]) hi (.inr (.inr ⟨b, 0, 1, [v].toArray, T, (0, 0), [], by simp, by simp, h.box i hi, fun _ => rfl, by simp, by simp [maxLen], by have := Rp.len h0; simp at this; simp [← this], by
    have hl := Rp.len h0
    refine ⟨[], [], rfl, ?_, rfl⟩
    have e : Rp.sz α = 1 := by simpa using hl.symm
    rw [e]; exact h0⟩)) (fun b hb => hb) (by simp [Wk.mine])
end
end Go.Wk
namespace Go.Wk
theorem digits_bd {k : Int} (h : k ≤ 4611686018427388904) : k.toNat < 10 ^ 30 := Nat.lt_of_le_of_lt (show k.toNat ≤ 4611686018427388904 by omega) (by decide)
theorem dig_eq {m : Nat} : strB [u8Of (48 + (m : Int).tmod 10)] = strB [UInt8.ofNat (48 + m % 10)] := by
  have e : ((48 + (m : Int).tmod 10) % 256).toNat = 48 + m % 10 := by
    rw [Int.tmod_eq_emod_of_nonneg (by omega)]; omega
  unfold u8Of; rw [e]
end Go.Wk
namespace Go.Wk
section
open Rp (own sz)
variable {w w' : World} {x : Wld} {A9 A10 A11 : Option Addr} {C9 C10 C11 : Nat} {fp : List Nat}
theorem Wld.mkOut {F : List Rsc} {y9 : List (List Drive)} {y10 : List Int} {y11 : List Tape} {f9 f10 f11 : List Nat} {k : Int} (ok : x.Ok) (h : Sep (· ∈ fp) w [gone, mine [.slice A9 x.Groups.length C9] y9 f9, mine [.slice A10 x.On.length C10] y10 f10, mine [.slice A11 x.Tapes.length C11] y11 f11] F w')
    (h9 : y9.length = x.Groups.length ∧ mkL (mkL mkDrive) y9 = mkL (mkL mkDrive) x.Groups ∧ MkL (MkL MkDrive mkDrive) (mkL mkDrive) y9 k) (l10 : y10.length = x.On.length) (h10 : MarkI y10 (k + mkL (mkL mkDrive) x.Groups))
    (h11 : y11.length = x.Tapes.length ∧ mkL mkTape y11 = mkL mkTape x.Tapes ∧ MkL MkTape mkTape y11 (k + mkL (mkL mkDrive) x.Groups + x.On.length)) :
    ∃ x' : Wld, Mut w w' fp [.int .i64 x.Shape.Groups, .int .i64 x.Shape.Column, .int .i64 x.Shape.Data, .int .i64 x.Shape.Spare, .int .i64 x.Shape.Rows, .int .i64 x.Shape.Cap, .int .i64 x.Shape.Batch, .int .i64 x.Shape.Queue, .int .i64 x.Shape.Stage, .slice A9 x.Groups.length C9, .slice A10 x.On.length C10, .slice A11 x.Tapes.length C11, .int .i64 x.Writes, .int .i64 x.Stop, .bool x.Down] x' ∧
      (x'.Groups.length = x.Groups.length ∧ x'.On.length = x.On.length ∧ x'.Tapes.length = x.Tapes.length ∧ mkWld x' = mkWld x ∧ MkWld x' k ∧ x'.Shape = x.Shape ∧ x'.Writes = x.Writes ∧ x'.Stop = x.Stop ∧ x'.Down = x.Down) :=
  ⟨_, Wld.mutOut ok h h9.1 l10 h11.1, h9.1, l10, h11.1, by unfold mkWld; dsimp only; rw [h9.2.1, l10, h11.2.1], ⟨h9.2.2, by dsimp only; rw [h9.2.1]; exact h10, by dsimp only; rw [h9.2.1, l10]; exact h11.2.2⟩, rfl, rfl, rfl, rfl⟩
end
end Go.Wk
namespace Go.Wk
open Go.Proofs Rp
set_option maxRecDepth 10000
theorem Tryz_laws_markBlockS {w : World} {xs : List Block} {xsA : Option Addr} {xsC : Nat} {k : Int} {fp : List Nat} (o : own true w [.slice xsA xs.length xsC] xs fp) (nd : fp.Nodup) (hk : 0 ≤ k ∧ k + mkL mkBlock xs ≤ 4611686018427387904) : Ret Tryz.prog 253 #[.slice xsA xs.length xsC, .int .i64 k] w fun v w' => (v = .int .i64 (k + mkL mkBlock xs) ∧ ∃ xs', Mut w w' fp [.slice xsA xs.length xsC] xs' ∧ (xs'.length = xs.length ∧ mkL mkBlock xs' = mkL mkBlock xs ∧ MkL MkBlock mkBlock xs' k)) := by
 have len := oL o
 refine ret_Q (vs := [.slice xsA xs.length xsC, .int .i64 k]) Tryz.func253 rfl Tryz.ntmps253 rfl (fun Q hQ hN => ?_)
 have H0 := Sep.begin o nd
 refine W_sr (sA rfl rfl (s_nil (W_seq (W_sr (sA rfl rfl (s_nil (W_block (W_loop (γ := Nat × List Block × List Nat) (fun (i, ys, f) => [(0, .slice xsA xs.length xsC), (1, .int .i64 (k + sumN (fun i => mkBlock (xs.getD i default)) i)), (5, .int .i64 i)]) (fun (i, ys, f) w' => Sep (· ∈ fp) w [mine [.slice xsA xs.length xsC] ys f] [] w' ∧ MkInv MkBlock mkBlock xs k i ys ∧ True) (fun (i, ys, f) => xs.length - i) (0, xs, fp) ⟨rfl, eqI (by simp [sumN]), rfl, trivial⟩ ⟨H0, mk_begin, trivial⟩ (fun (i, ys, f) w1 H1 => ?_)))))))))
 obtain ⟨H1, hI, _⟩ := H1
 refine W_seq (W_seq ?_)
 have hiB := hI.1
 have hys := hI.2.1
 refine W_reg (sM rfl rfl (sM rfl rfl (sV rfl (py_len tu178 rfl) (sV rfl (py_lss rfl rfl) (s_nil (W_ifd rfl (fun c1 => ?_) (fun c1 => ?_)))))))
 ·refine W_skip (W_seq (W_block (W_seq ?_)))
  have hiL : i < xs.length := by omega
  have hat := mk_at hI
  obtain ⟨sg, sl⟩ := mkL_at (c := mkBlock) hiL
  have hci : mkBlock (ys.getD i default) = mkBlock (xs.getD i default) := hI.2.2.1 i
  have hcu : mkBlock (ys.getD i default) = 1 + (ys.getD i default).Bytes.length := rfl
  obtain ⟨eb1, eo1, eT1, eF1, eG1, ea1, ek1, eg1, ee1, eK1, eH1⟩ := Block.focus H1 0 rfl i (by omega)
  have eK1U := eK1
  unfold Block.Ok at eK1U
  try unfold I64ok at eK1U
  try unfold maxLen at eK1U
  try dsimp only [lNA, lCA, lSZ, lSS] at eH1
  refine W_reg (sM rfl rfl (sM rfl rfl (sM rfl rfl (sV rfl (py_elz tu178 ts182 rfl rfl ee1 i (by omega) (by omega)) (sV rfl (py_field tu182 rfl ts2 rfl rfl) (s_hsto (wn rfl) ts2 eH1 0 0 rfl rfl rfl rfl rfl (fun w2 H2 => ?_)))))))
  dsimp only [lNA, lCA, lSZ, lSS, layL] at H2
  refine s_nil (W_sr (sM rfl rfl (sV rfl (py_add rfl rfl (in64 ⟨by omega, by omega⟩)) (sA rfl rfl (s_nil (W_reg (sM rfl rfl (sM rfl rfl (sV rfl (py_elz tu178 ts182 rfl rfl ee1 i (by omega) (by omega)) (sV rfl (py_field tu182 rfl ts45 rfl rfl) (sV rfl (py_load tu45 rfl rfl (at_cell (H2.holAt 0 rfl) 1 rfl)) (sM rfl rfl (s_call (wn rfl) rfl rfl (pc_call Tryz.func88 rfl Tryz_nm88 rfl) (Tryz_laws_markByteS (H2.mine 2 rfl) (H2.nodup1 (i := 2) rfl) (by constructor <;> omega)) (fun v1 w3 r1 => ?_))))))))))))))
  obtain ⟨rfl, mx1, mm1, ml1, mk1⟩ := r1
  obtain ⟨fp1, H3⟩ := H2.mut 2 rfl mm1
  try dsimp only [lNA, lCA, lSZ, lSS] at H3
  refine sA rfl rfl (s_nil (W_reg (sM rfl rfl (sV rfl (py_add rfl rfl (in64 ⟨by omega, by omega⟩)) (sA rfl rfl (s_nil ?_))))))
  have okz : (⟨(k + sumN (fun i => mkBlock (xs.getD i default)) i), mx1⟩ : Block).Ok := by unfold Block.Ok I64ok; dsimp only; omega
  obtain ⟨fp2, H4⟩ := Block.fill H3 0 2 rfl rfl rfl okz
  try dsimp only [lNA, lCA, lSZ, lSS] at H4
  refine ⟨(i + 1, _, _), ⟨rfl, eqI (by omega), rfl, trivial⟩, ⟨(H4.dtake 1), mk_step hI hiL (by rw [← hci]; unfold mkBlock; dsimp only; omega) ⟨rfl, mk1⟩, trivial⟩, by dsimp only; omega⟩
 ·refine W_exit (W_sr (sM rfl rfl (sA rfl rfl (s_nil (rT hQ Tryz.results253 rfl ?_)))))
  obtain rfl : i = xs.length := by omega
  exact ⟨rfl, _, H1.done, mk_end hI⟩
theorem Tryz_laws_markDriveS {w : World} {xs : List Drive} {xsA : Option Addr} {xsC : Nat} {k : Int} {fp : List Nat} (o : own true w [.slice xsA xs.length xsC] xs fp) (nd : fp.Nodup) (hk : 0 ≤ k ∧ k + mkL mkDrive xs ≤ 4611686018427387904) : Ret Tryz.prog 154 #[.slice xsA xs.length xsC, .int .i64 k] w fun v w' => (v = .int .i64 (k + mkL mkDrive xs) ∧ ∃ xs', Mut w w' fp [.slice xsA xs.length xsC] xs' ∧ (xs'.length = xs.length ∧ mkL mkDrive xs' = mkL mkDrive xs ∧ MkL MkDrive mkDrive xs' k)) := by
 have len := oL o
 refine ret_Q (vs := [.slice xsA xs.length xsC, .int .i64 k]) Tryz.func154 rfl Tryz.ntmps154 rfl (fun Q hQ hN => ?_)
 have H0 := Sep.begin o nd
 refine W_sr (sA rfl rfl (s_nil (W_seq (W_sr (sA rfl rfl (s_nil (W_block (W_loop (γ := Nat × List Drive × List Nat) (fun (i, ys, f) => [(0, .slice xsA xs.length xsC), (1, .int .i64 (k + sumN (fun i => mkDrive (xs.getD i default)) i)), (5, .int .i64 i)]) (fun (i, ys, f) w' => Sep (· ∈ fp) w [mine [.slice xsA xs.length xsC] ys f] [] w' ∧ MkInv MkDrive mkDrive xs k i ys ∧ True) (fun (i, ys, f) => xs.length - i) (0, xs, fp) ⟨rfl, eqI (by simp [sumN]), rfl, trivial⟩ ⟨H0, mk_begin, trivial⟩ (fun (i, ys, f) w1 H1 => ?_)))))))))
 obtain ⟨H1, hI, _⟩ := H1
 refine W_seq (W_seq ?_)
 have hiB := hI.1
 have hys := hI.2.1
 refine W_reg (sM rfl rfl (sM rfl rfl (sV rfl (py_len tu142 rfl) (sV rfl (py_lss rfl rfl) (s_nil (W_ifd rfl (fun c1 => ?_) (fun c1 => ?_)))))))
 ·refine W_skip (W_seq (W_block (W_seq ?_)))
  have hiL : i < xs.length := by omega
  have hat := mk_at hI
  obtain ⟨sg, sl⟩ := mkL_at (c := mkDrive) hiL
  have hci : mkDrive (ys.getD i default) = mkDrive (xs.getD i default) := hI.2.2.1 i
  have hcu : mkDrive (ys.getD i default) = 1 + mkL mkBlock (ys.getD i default).Blocks := rfl
  obtain ⟨eb1, eo1, eT1, eF1, eG1, ea1, ek1, eg1, ee1, eK1, eH1⟩ := Drive.focus H1 0 rfl i (by omega)
  have eK1U := eK1
  unfold Drive.Ok at eK1U
  try unfold I64ok at eK1U
  try unfold maxLen at eK1U
  try dsimp only [lNA, lCA, lSZ, lSS] at eH1
  refine W_reg (sM rfl rfl (sM rfl rfl (sM rfl rfl (sV rfl (py_rem rfl rfl (by omega)) (sV rfl (py_eql rfl rfl) (sV rfl (py_elz tu142 ts180 rfl rfl ee1 i (by omega) (by omega)) (sV rfl (py_field tu180 rfl ts4 rfl rfl) (s_hsto (wn rfl) ts4 eH1 0 0 rfl rfl rfl rfl rfl (fun w2 H2 => ?_)))))))))
  dsimp only [lNA, lCA, lSZ, lSS, layL] at H2
  refine s_nil (W_sr (sM rfl rfl (sV rfl (py_add rfl rfl (in64 ⟨by omega, by omega⟩)) (sA rfl rfl (s_nil (W_reg (sM rfl rfl (sM rfl rfl (sV rfl (py_elz tu142 ts180 rfl rfl ee1 i (by omega) (by omega)) (sV rfl (py_field tu180 rfl ts178 rfl rfl) (sV rfl (py_load tu178 rfl rfl (at_cell (H2.holAt 0 rfl) 1 rfl)) (sM rfl rfl (s_call (wn rfl) rfl rfl (pc_call Tryz.func253 rfl Tryz_nm253 rfl) (Tryz_laws_markBlockS (H2.mine 2 rfl) (H2.nodup1 (i := 2) rfl) (by constructor <;> omega)) (fun v1 w3 r1 => ?_))))))))))))))
  obtain ⟨rfl, mx1, mm1, ml1⟩ := r1
  obtain ⟨fp1, H3⟩ := H2.mut 2 rfl mm1
  try dsimp only [lNA, lCA, lSZ, lSS] at H3
  refine sA rfl rfl (s_nil (W_reg (sM rfl rfl (sV rfl (py_add rfl rfl (in64 ⟨by omega, by omega⟩)) (sA rfl rfl (s_nil ?_))))))
  have okz : (⟨decide ((k + sumN (fun i => mkDrive (xs.getD i default)) i).tmod 3 = 0), mx1⟩ : Drive).Ok := trivial
  obtain ⟨fp2, H4⟩ := Drive.fill H3 0 2 rfl rfl rfl okz
  try dsimp only [lNA, lCA, lSZ, lSS] at H4
  refine ⟨(i + 1, _, _), ⟨rfl, eqI (by omega), rfl, trivial⟩, ⟨(H4.dtake 1), mk_step hI hiL (by rw [← hci]; unfold mkDrive; dsimp only; rw [ml1.2.1]) ⟨rfl, ml1.2.2⟩, trivial⟩, by dsimp only; omega⟩
 ·refine W_exit (W_sr (sM rfl rfl (sA rfl rfl (s_nil (rT hQ Tryz.results154 rfl ?_)))))
  obtain rfl : i = xs.length := by omega
  exact ⟨rfl, _, H1.done, mk_end hI⟩
theorem Tryz_laws_markDriveSS {w : World} {xs : List (List Drive)} {xsA : Option Addr} {xsC : Nat} {k : Int} {fp : List Nat} (o : own true w [.slice xsA xs.length xsC] xs fp) (nd : fp.Nodup) (hk : 0 ≤ k ∧ k + mkL (mkL mkDrive) xs ≤ 4611686018427387904) : Ret Tryz.prog 80 #[.slice xsA xs.length xsC, .int .i64 k] w fun v w' => (v = .int .i64 (k + mkL (mkL mkDrive) xs) ∧ ∃ xs', Mut w w' fp [.slice xsA xs.length xsC] xs' ∧ (xs'.length = xs.length ∧ mkL (mkL mkDrive) xs' = mkL (mkL mkDrive) xs ∧ MkL (MkL MkDrive mkDrive) (mkL mkDrive) xs' k)) := by
 have len := oL o
 refine ret_Q (vs := [.slice xsA xs.length xsC, .int .i64 k]) Tryz.func80 rfl Tryz.ntmps80 rfl (fun Q hQ hN => ?_)
 have H0 := Sep.begin o nd
 refine W_sr (sA rfl rfl (s_nil (W_seq (W_sr (sA rfl rfl (s_nil (W_block (W_loop (γ := Nat × List (List Drive) × List Nat) (fun (i, ys, f) => [(0, .slice xsA xs.length xsC), (1, .int .i64 (k + sumN (fun i => (mkL mkDrive) (xs.getD i default)) i)), (5, .int .i64 i)]) (fun (i, ys, f) w' => Sep (· ∈ fp) w [mine [.slice xsA xs.length xsC] ys f] [] w' ∧ MkInv (MkL MkDrive mkDrive) (mkL mkDrive) xs k i ys ∧ True) (fun (i, ys, f) => xs.length - i) (0, xs, fp) ⟨rfl, eqI (by simp [sumN]), rfl, trivial⟩ ⟨H0, mk_begin, trivial⟩ (fun (i, ys, f) w1 H1 => ?_)))))))))
 obtain ⟨H1, hI, _⟩ := H1
 refine W_seq (W_seq ?_)
 have hiB := hI.1
 have hys := hI.2.1
 refine W_reg (sM rfl rfl (sM rfl rfl (sV rfl (py_len tu35 rfl) (sV rfl (py_lss rfl rfl) (s_nil (W_ifd rfl (fun c1 => ?_) (fun c1 => ?_)))))))
 ·refine W_skip (W_seq (W_block ?_))
  have hiL : i < xs.length := by omega
  have hat := mk_at hI
  obtain ⟨sg, sl⟩ := mkL_at (c := (mkL mkDrive)) hiL
  have hci : (mkL mkDrive) (ys.getD i default) = (mkL mkDrive) (xs.getD i default) := hI.2.2.1 i
  have hcu : mkL mkDrive (ys.getD i default) = mkL mkDrive (ys.getD i []) := rfl
  obtain ⟨eb1, eo1, eT1, eF1, eG1, ea1, ek1, eg1, ee1, eH1⟩ := H1.focusL 0 rfl i (by omega)
  try dsimp only [lNA, lCA, lSZ, lSS] at eH1
  refine W_reg (sM rfl rfl (sM rfl rfl (sV rfl (py_elz tu35 ts142 rfl rfl ee1 i (by omega) (by omega)) (sV rfl (py_load tu142 rfl rfl (at_cell (eH1.holAt 0 rfl) 0 rfl)) (sM rfl rfl (s_call (wn rfl) rfl rfl (pc_call Tryz.func154 rfl Tryz_nm154 rfl) (Tryz_laws_markDriveS (eH1.mine 1 rfl) (eH1.nodup1 (i := 1) rfl) (by constructor <;> omega)) (fun v1 w2 r1 => ?_)))))))
  obtain ⟨rfl, mx1, mm1, ml1⟩ := r1
  obtain ⟨fp1, H2⟩ := eH1.mut 1 rfl mm1
  try dsimp only [lNA, lCA, lSZ, lSS] at H2
  refine sA rfl rfl (s_nil (W_reg (sM rfl rfl (sV rfl (py_add rfl rfl (in64 ⟨by omega, by omega⟩)) (sA rfl rfl (s_nil ?_))))))
  obtain ⟨fp2, H3⟩ := H2.fill 0 1 rfl rfl rfl
  try dsimp only [lNA, lCA, lSZ, lSS] at H3
  refine ⟨(i + 1, _, _), ⟨rfl, eqI (by omega), rfl, trivial⟩, ⟨(H3.dtake 1), mk_step hI hiL (by rw [← hci]; exact ml1.2.1) ml1.2.2, trivial⟩, by dsimp only; omega⟩
 ·refine W_exit (W_sr (sM rfl rfl (sA rfl rfl (s_nil (rT hQ Tryz.results80 rfl ?_)))))
  obtain rfl : i = xs.length := by omega
  exact ⟨rfl, _, H1.done, mk_end hI⟩
theorem Tryz_laws_markText {w : World} {k : Int} (hk : -1000 ≤ k ∧ k ≤ 4611686018427388904) : Ret Tryz.prog 155 #[.int .i64 k] w fun v w' => Ext No w w' ∧ (v = .string (mText k) ∧ (mText k).size ≤ maxLen) := by
 refine ret_Q (vs := [.int .i64 k]) Tryz.func155 rfl Tryz.ntmps155 rfl (fun Q hQ hN => ?_)
 have H0 := Sep.start (w := w) (F := []) (by simp)
 refine W_sr (sA rfl rfl (s_nil (W_seq (W_sr (sM rfl rfl (sV rfl (py_leq rfl rfl) (s_nil (W_ifd rfl (fun c1 => ?_) (fun c1 => ?_)))))))))
 ·refine W_sr (sA rfl rfl (s_nil (rT hQ Tryz.results155 rfl ?_)))
  exact ⟨H0.ext, by rw [mText, if_pos (by omega)], by rw [mText, if_pos (by omega)]; exact Nat.le_of_ble_eq_true rfl⟩
 ·refine W_skip (W_sr (sA rfl rfl (s_nil (W_seq (W_block (W_loopS (γ := Nat × Nat × ByteArray) H0 [(2, _)] ⟨rfl, trivial⟩ (fun (f, m, out) => [(0, .int .i64 (m : Nat)), (3, .string out)]) (fun (f, m, out) => (m : Int) ≤ k ∧ m < 10 ^ f ∧ out.size + f ≤ 30 ∧ digits 30 k.toNat ⟨#[]⟩ = digits f m out) (fun (f, m, out) => m) (30, k.toNat, ⟨#[]⟩) ⟨eqI (by omega), rfl, trivial⟩ ⟨by omega, digits_bd (by omega), by decide, rfl⟩ (fun (f, m, out) w1 H1 ⟨hm, hf, ho, hd⟩ => ?_)))))))
  dsimp only [lCA, lNA]
  refine W_seq (W_sr (sM rfl rfl (sV rfl (py_gtr rfl rfl) (s_nil (W_ifd rfl (fun c2 => ?_) (fun c2 => ?_))))))
  ·refine W_skip (W_block (W_seq ?_))
   have hb := tmod_bd (a := (m : Int)) (b := 10) (by omega) (by omega)
   refine W_reg (sM rfl rfl (sV rfl (py_rem rfl rfl (by omega)) (sV rfl (py_add rfl rfl (in64 ⟨by omega, by omega⟩)) (sV rfl (py_conv8 tu3 tu5 rfl) (s_lit1 (wn rfl) rfl tu45 Tryz_ty5 rfl rfl rfl rfl H1 (fun b1 w2 e1 g1 H2 => ?_))))))
   have H3 := H2.litW 0 rfl (own_b8 (x := u8Of (48 + (m : Int).tmod 10)))
   try dsimp only [lNA, lCA, lSZ, lSS] at H3
   refine sV rfl (py_b2s tu45 tu5 tu9 rfl (H3.mine 0 rfl)) ((sM rfl rfl (sV rfl (py_sadd rfl rfl (by rw [strB_size]; simp only [List.length_cons, List.length_nil]; omega)) (sA rfl rfl (s_nil ?_)))))
   have hb2 := tdiv_bd (a := (m : Int)) (b := 10) (by omega) (by omega)
   refine W_reg (sM rfl rfl (sV rfl (py_quo rfl rfl (by omega) (in64 ⟨by omega, by omega⟩)) (sA rfl rfl (s_nil ?_))))
   rcases f with _ | f
   ·simp at hf; omega
   ·refine ⟨(f, m / 10, strB [UInt8.ofNat (48 + m % 10)] ++ out), ⟨eqI (by rw [Int.tdiv_eq_ediv_of_nonneg (by omega)]; dsimp only; omega), eqStr (by rw [dig_eq]), rfl, trivial⟩, ⟨(H3.dtake 0), by dsimp only; omega, by rw [Nat.pow_succ] at hf; dsimp only; omega, by dsimp only; rw [ByteArray.size_append, strB_size]; simp only [List.length_cons, List.length_nil]; omega, hd.trans (digits_step (by omega))⟩, by dsimp only; omega⟩
  ·refine W_exit (W_seq ?_)
   have h1z : (⟨#[109]⟩ : ByteArray).size = 1 := rfl
   refine W_reg (sM rfl rfl (sV rfl (py_sadd rfl rfl (by omega)) (sA rfl rfl (s_nil (rT hQ Tryz.results155 rfl ?_)))))
   obtain rfl : m = 0 := by omega
   have hq : mText k = ⟨#[109]⟩ ++ out := by rw [mText, if_neg (by omega), hd, digits_zero]
   exact ⟨H1.ext, by rw [hq], by rw [hq, ByteArray.size_append]; unfold maxLen; omega⟩
theorem Tryz_laws_markRecS {w : World} {xs : List Rec} {xsA : Option Addr} {xsC : Nat} {k : Int} {fp : List Nat} (o : own true w [.slice xsA xs.length xsC] xs fp) (nd : fp.Nodup) (hk : 0 ≤ k ∧ k + mkL mkRec xs ≤ 4611686018427387904) : Ret Tryz.prog 83 #[.slice xsA xs.length xsC, .int .i64 k] w fun v w' => (v = .int .i64 (k + mkL mkRec xs) ∧ ∃ xs', Mut w w' fp [.slice xsA xs.length xsC] xs' ∧ (xs'.length = xs.length ∧ mkL mkRec xs' = mkL mkRec xs ∧ MkL MkRec mkRec xs' k)) := by
 have len := oL o
 refine ret_Q (vs := [.slice xsA xs.length xsC, .int .i64 k]) Tryz.func83 rfl Tryz.ntmps83 rfl (fun Q hQ hN => ?_)
 have H0 := Sep.begin o nd
 refine W_sr (sA rfl rfl (s_nil (W_seq (W_sr (sA rfl rfl (s_nil (W_block (W_loop (γ := Nat × List Rec × List Nat) (fun (i, ys, f) => [(0, .slice xsA xs.length xsC), (1, .int .i64 (k + sumN (fun i => mkRec (xs.getD i default)) i)), (5, .int .i64 i)]) (fun (i, ys, f) w' => Sep (· ∈ fp) w [mine [.slice xsA xs.length xsC] ys f] [] w' ∧ MkInv MkRec mkRec xs k i ys ∧ True) (fun (i, ys, f) => xs.length - i) (0, xs, fp) ⟨rfl, eqI (by simp [sumN]), rfl, trivial⟩ ⟨H0, mk_begin, trivial⟩ (fun (i, ys, f) w1 H1 => ?_)))))))))
 obtain ⟨H1, hI, _⟩ := H1
 refine W_seq (W_seq ?_)
 have hiB := hI.1
 have hys := hI.2.1
 refine W_reg (sM rfl rfl (sM rfl rfl (sV rfl (py_len tu30 rfl) (sV rfl (py_lss rfl rfl) (s_nil (W_ifd rfl (fun c1 => ?_) (fun c1 => ?_)))))))
 ·refine W_skip (W_seq (W_block (W_seq ?_)))
  have hiL : i < xs.length := by omega
  have hat := mk_at hI
  obtain ⟨sg, sl⟩ := mkL_at (c := mkRec) hiL
  have hci : mkRec (ys.getD i default) = mkRec (xs.getD i default) := hI.2.2.1 i
  have hcu : mkRec (ys.getD i default) = 6 + (ys.getD i default).Rows.length + (ys.getD i default).Data.length + (ys.getD i default).Delta.length := rfl
  obtain ⟨eb1, eo1, eT1, eF1, eG1, ea1, ek1, ea2, ek2, ea3, ek3, eg1, eg2, eg3, ee1, eK1, eH1⟩ := Rec.focus H1 0 rfl i (by omega)
  have eK1U := eK1
  unfold Rec.Ok at eK1U
  try unfold I64ok at eK1U
  try unfold maxLen at eK1U
  try dsimp only [lNA, lCA, lSZ, lSS] at eH1
  refine W_reg (sM rfl rfl (sM rfl rfl (sM rfl rfl (sV rfl (py_elz tu30 ts68 rfl rfl ee1 i (by omega) (by omega)) (sV rfl (py_field tu68 rfl ts2 rfl rfl) (s_hsto (wn rfl) ts2 eH1 0 0 rfl rfl rfl rfl rfl (fun w2 H2 => ?_)))))))
  dsimp only [lNA, lCA, lSZ, lSS, layL] at H2
  refine s_nil (W_sr (sM rfl rfl (sV rfl (py_add rfl rfl (in64 ⟨by omega, by omega⟩)) (sA rfl rfl (s_nil (W_sr (sM rfl rfl (sM rfl rfl (sM rfl rfl (sV rfl (py_elz tu30 ts68 rfl rfl ee1 i (by omega) (by omega)) (sV rfl (py_field tu68 rfl ts2 rfl rfl) (s_hsto (wn rfl) ts2 H2 0 1 rfl rfl rfl rfl rfl (fun w3 H3 => ?_)))))))))))))
  dsimp only [lNA, lCA, lSZ, lSS, layL] at H3
  refine s_nil (W_sr (sM rfl rfl (sV rfl (py_add rfl rfl (in64 ⟨by omega, by omega⟩)) (sA rfl rfl (s_nil (W_sr (sM rfl rfl (sM rfl rfl (sM rfl rfl (s_call (wn rfl) rfl rfl (pc_call Tryz.func155 rfl Tryz_nm155 rfl) (Tryz_laws_markText (by omega)) (fun v1 w4 r1 => ?_)))))))))))
  obtain ⟨e3, rfl, mt1⟩ := r1
  have H4 := H3.to e3
  refine sV rfl (py_elz tu30 ts68 rfl rfl ee1 i (by omega) (by omega)) (sV rfl (py_field tu68 rfl ts9 rfl rfl) (s_hsto (wn rfl) ts9 H4 0 2 rfl rfl rfl rfl rfl (fun w5 H5 => ?_)))
  dsimp only [lNA, lCA, lSZ, lSS, layL] at H5
  refine s_nil (W_sr (sM rfl rfl (sV rfl (py_add rfl rfl (in64 ⟨by omega, by omega⟩)) (sA rfl rfl (s_nil (W_sr (sM rfl rfl (sM rfl rfl (sM rfl rfl (sV rfl (py_elz tu30 ts68 rfl rfl ee1 i (by omega) (by omega)) (sV rfl (py_field tu68 rfl ts2 rfl rfl) (s_hsto (wn rfl) ts2 H5 0 3 rfl rfl rfl rfl rfl (fun w6 H6 => ?_)))))))))))))
  dsimp only [lNA, lCA, lSZ, lSS, layL] at H6
  refine s_nil (W_sr (sM rfl rfl (sV rfl (py_add rfl rfl (in64 ⟨by omega, by omega⟩)) (sA rfl rfl (s_nil (W_sr (sM rfl rfl (sM rfl rfl (sM rfl rfl (sV rfl (py_elz tu30 ts68 rfl rfl ee1 i (by omega) (by omega)) (sV rfl (py_field tu68 rfl ts2 rfl rfl) (s_hsto (wn rfl) ts2 H6 0 4 rfl rfl rfl rfl rfl (fun w7 H7 => ?_)))))))))))))
  dsimp only [lNA, lCA, lSZ, lSS, layL] at H7
  refine s_nil (W_sr (sM rfl rfl (sV rfl (py_add rfl rfl (in64 ⟨by omega, by omega⟩)) (sA rfl rfl (s_nil (W_sr (sM rfl rfl (sM rfl rfl (sM rfl rfl (sV rfl (py_elz tu30 ts68 rfl rfl ee1 i (by omega) (by omega)) (sV rfl (py_field tu68 rfl ts2 rfl rfl) (s_hsto (wn rfl) ts2 H7 0 5 rfl rfl rfl rfl rfl (fun w8 H8 => ?_)))))))))))))
  dsimp only [lNA, lCA, lSZ, lSS, layL] at H8
  refine s_nil (W_sr (sM rfl rfl (sV rfl (py_add rfl rfl (in64 ⟨by omega, by omega⟩)) (sA rfl rfl (s_nil (W_sr (sM rfl rfl (sM rfl rfl (sV rfl (py_elz tu30 ts68 rfl rfl ee1 i (by omega) (by omega)) (sV rfl (py_field tu68 rfl ts25 rfl rfl) (sV rfl (py_load tu25 rfl rfl (at_cell (H8.holAt 0 rfl) 6 rfl)) (sM rfl rfl (s_call (wn rfl) rfl rfl (pc_call Tryz.func81 rfl Tryz_nm81 rfl) (Tryz_laws_markInt64S (H8.mine 2 rfl) (H8.nodup1 (i := 2) rfl) (by constructor <;> omega)) (fun v2 w9 r2 => ?_))))))))))))))
  obtain ⟨rfl, mx1, mm1, ml1, mk1⟩ := r2
  obtain ⟨fp1, H9⟩ := H8.mut 2 rfl mm1
  try dsimp only [lNA, lCA, lSZ, lSS] at H9
  refine sA rfl rfl (s_nil (W_sr (sM rfl rfl (sM rfl rfl (sV rfl (py_elz tu30 ts68 rfl rfl ee1 i (by omega) (by omega)) (sV rfl (py_field tu68 rfl ts45 rfl rfl) (sV rfl (py_load tu45 rfl rfl (at_cell (H9.holAt 0 rfl) 7 rfl)) (sM rfl rfl (s_call (wn rfl) rfl rfl (pc_call Tryz.func88 rfl Tryz_nm88 rfl) (Tryz_laws_markByteS (H9.mine 3 rfl) (H9.nodup1 (i := 3) rfl) (by constructor <;> omega)) (fun v3 w10 r3 => ?_))))))))))
  obtain ⟨rfl, mx2, mm2, ml2, mk2⟩ := r3
  obtain ⟨fp2, H10⟩ := H9.mut 3 rfl mm2
  try dsimp only [lNA, lCA, lSZ, lSS] at H10
  refine sA rfl rfl (s_nil (W_reg (sM rfl rfl (sM rfl rfl (sV rfl (py_elz tu30 ts68 rfl rfl ee1 i (by omega) (by omega)) (sV rfl (py_field tu68 rfl ts45 rfl rfl) (sV rfl (py_load tu45 rfl rfl (at_cell (H10.holAt 0 rfl) 8 rfl)) (sM rfl rfl (s_call (wn rfl) rfl rfl (pc_call Tryz.func88 rfl Tryz_nm88 rfl) (Tryz_laws_markByteS (H10.mine 4 rfl) (H10.nodup1 (i := 4) rfl) (by constructor <;> omega)) (fun v4 w11 r4 => ?_))))))))))
  obtain ⟨rfl, mx3, mm3, ml3, mk3⟩ := r4
  obtain ⟨fp3, H11⟩ := H10.mut 4 rfl mm3
  try dsimp only [lNA, lCA, lSZ, lSS] at H11
  refine sA rfl rfl (s_nil (W_reg (sM rfl rfl (sV rfl (py_add rfl rfl (in64 ⟨by omega, by omega⟩)) (sA rfl rfl (s_nil ?_))))))
  have okz : (⟨(k + sumN (fun i => mkRec (xs.getD i default)) i), (k + sumN (fun i => mkRec (xs.getD i default)) i) + 1, mText ((k + sumN (fun i => mkRec (xs.getD i default)) i) + 1 + 1), (k + sumN (fun i => mkRec (xs.getD i default)) i) + 1 + 1 + 1, (k + sumN (fun i => mkRec (xs.getD i default)) i) + 1 + 1 + 1 + 1, (k + sumN (fun i => mkRec (xs.getD i default)) i) + 1 + 1 + 1 + 1 + 1, mx1, mx2, mx3⟩ : Rec).Ok := by unfold Rec.Ok I64ok; dsimp only; omega
  obtain ⟨fp4, H12⟩ := Rec.fill H11 0 2 3 4 rfl rfl rfl rfl rfl rfl rfl rfl rfl rfl okz
  try dsimp only [lNA, lCA, lSZ, lSS] at H12
  refine ⟨(i + 1, _, _), ⟨rfl, eqI (by omega), rfl, trivial⟩, ⟨(H12.dtake 1), mk_step hI hiL (by rw [← hci]; unfold mkRec; dsimp only; omega) (by
   refine ⟨rfl, rfl, ?_, by dsimp only; omega, by dsimp only; omega, by dsimp only; omega, ?_, ?_, ?_⟩
   ·dsimp only; congr 1; omega
   ·have := mk1; dsimp only; rwa [show (k + sumN (fun i => mkRec (xs.getD i default)) i) + 1 + 1 + 1 + 1 + 1 + 1 = (k + sumN (fun i => mkRec (xs.getD i default)) i) + 6 by omega] at this
   ·have := mk2; dsimp only; rwa [show (k + sumN (fun i => mkRec (xs.getD i default)) i) + 1 + 1 + 1 + 1 + 1 + 1 + ((ys.getD i default).Rows.length : Int) = (k + sumN (fun i => mkRec (xs.getD i default)) i) + 6 + mx1.length by omega] at this
   ·have := mk3; dsimp only; rwa [show (k + sumN (fun i => mkRec (xs.getD i default)) i) + 1 + 1 + 1 + 1 + 1 + 1 + ((ys.getD i default).Rows.length : Int) + ((ys.getD i default).Data.length : Int) = (k + sumN (fun i => mkRec (xs.getD i default)) i) + 6 + mx1.length + mx2.length by omega] at this), trivial⟩, by dsimp only; omega⟩
 ·refine W_exit (W_sr (sM rfl rfl (sA rfl rfl (s_nil (rT hQ Tryz.results83 rfl ?_)))))
  obtain rfl : i = xs.length := by omega
  exact ⟨rfl, _, H1.done, mk_end hI⟩
theorem Tryz_laws_markTapeS {w : World} {xs : List Tape} {xsA : Option Addr} {xsC : Nat} {k : Int} {fp : List Nat} (o : own true w [.slice xsA xs.length xsC] xs fp) (nd : fp.Nodup) (hk : 0 ≤ k ∧ k + mkL mkTape xs ≤ 4611686018427387904) : Ret Tryz.prog 82 #[.slice xsA xs.length xsC, .int .i64 k] w fun v w' => (v = .int .i64 (k + mkL mkTape xs) ∧ ∃ xs', Mut w w' fp [.slice xsA xs.length xsC] xs' ∧ (xs'.length = xs.length ∧ mkL mkTape xs' = mkL mkTape xs ∧ MkL MkTape mkTape xs' k)) := by
 have len := oL o
 refine ret_Q (vs := [.slice xsA xs.length xsC, .int .i64 k]) Tryz.func82 rfl Tryz.ntmps82 rfl (fun Q hQ hN => ?_)
 have H0 := Sep.begin o nd
 refine W_sr (sA rfl rfl (s_nil (W_seq (W_sr (sA rfl rfl (s_nil (W_block (W_loop (γ := Nat × List Tape × List Nat) (fun (i, ys, f) => [(0, .slice xsA xs.length xsC), (1, .int .i64 (k + sumN (fun i => mkTape (xs.getD i default)) i)), (5, .int .i64 i)]) (fun (i, ys, f) w' => Sep (· ∈ fp) w [mine [.slice xsA xs.length xsC] ys f] [] w' ∧ MkInv MkTape mkTape xs k i ys ∧ True) (fun (i, ys, f) => xs.length - i) (0, xs, fp) ⟨rfl, eqI (by simp [sumN]), rfl, trivial⟩ ⟨H0, mk_begin, trivial⟩ (fun (i, ys, f) w1 H1 => ?_)))))))))
 obtain ⟨H1, hI, _⟩ := H1
 refine W_seq (W_seq ?_)
 have hiB := hI.1
 have hys := hI.2.1
 refine W_reg (sM rfl rfl (sM rfl rfl (sV rfl (py_len tu36 rfl) (sV rfl (py_lss rfl rfl) (s_nil (W_ifd rfl (fun c1 => ?_) (fun c1 => ?_)))))))
 ·refine W_skip (W_seq (W_block (W_seq ?_)))
  have hiL : i < xs.length := by omega
  have hat := mk_at hI
  obtain ⟨sg, sl⟩ := mkL_at (c := mkTape) hiL
  have hci : mkTape (ys.getD i default) = mkTape (xs.getD i default) := hI.2.2.1 i
  have hcu : mkTape (ys.getD i default) = 1 + mkL mkRec (ys.getD i default).Recs := rfl
  obtain ⟨eb1, eo1, eT1, eF1, eG1, ea1, ek1, eg1, ee1, eK1, eH1⟩ := Tape.focus H1 0 rfl i (by omega)
  have eK1U := eK1
  unfold Tape.Ok at eK1U
  try unfold I64ok at eK1U
  try unfold maxLen at eK1U
  try dsimp only [lNA, lCA, lSZ, lSS] at eH1
  refine W_reg (sM rfl rfl (sM rfl rfl (sM rfl rfl (sV rfl (py_rem rfl rfl (by omega)) (sV rfl (py_eql rfl rfl) (sV rfl (py_elz tu36 ts139 rfl rfl ee1 i (by omega) (by omega)) (sV rfl (py_field tu139 rfl ts4 rfl rfl) (s_hsto (wn rfl) ts4 eH1 0 0 rfl rfl rfl rfl rfl (fun w2 H2 => ?_)))))))))
  dsimp only [lNA, lCA, lSZ, lSS, layL] at H2
  refine s_nil (W_sr (sM rfl rfl (sV rfl (py_add rfl rfl (in64 ⟨by omega, by omega⟩)) (sA rfl rfl (s_nil (W_reg (sM rfl rfl (sM rfl rfl (sV rfl (py_elz tu36 ts139 rfl rfl ee1 i (by omega) (by omega)) (sV rfl (py_field tu139 rfl ts30 rfl rfl) (sV rfl (py_load tu30 rfl rfl (at_cell (H2.holAt 0 rfl) 1 rfl)) (sM rfl rfl (s_call (wn rfl) rfl rfl (pc_call Tryz.func83 rfl Tryz_nm83 rfl) (Tryz_laws_markRecS (H2.mine 2 rfl) (H2.nodup1 (i := 2) rfl) (by constructor <;> omega)) (fun v1 w3 r1 => ?_))))))))))))))
  obtain ⟨rfl, mx1, mm1, ml1⟩ := r1
  obtain ⟨fp1, H3⟩ := H2.mut 2 rfl mm1
  try dsimp only [lNA, lCA, lSZ, lSS] at H3
  refine sA rfl rfl (s_nil (W_reg (sM rfl rfl (sV rfl (py_add rfl rfl (in64 ⟨by omega, by omega⟩)) (sA rfl rfl (s_nil ?_))))))
  have okz : (⟨decide ((k + sumN (fun i => mkTape (xs.getD i default)) i).tmod 3 = 0), mx1⟩ : Tape).Ok := trivial
  obtain ⟨fp2, H4⟩ := Tape.fill H3 0 2 rfl rfl rfl okz
  try dsimp only [lNA, lCA, lSZ, lSS] at H4
  refine ⟨(i + 1, _, _), ⟨rfl, eqI (by omega), rfl, trivial⟩, ⟨(H4.dtake 1), mk_step hI hiL (by rw [← hci]; unfold mkTape; dsimp only; rw [ml1.2.1]) ⟨rfl, ml1.2.2⟩, trivial⟩, by dsimp only; omega⟩
 ·refine W_exit (W_sr (sM rfl rfl (sA rfl rfl (s_nil (rT hQ Tryz.results82 rfl ?_)))))
  obtain rfl : i = xs.length := by omega
  exact ⟨rfl, _, H1.done, mk_end hI⟩
end Go.Wk
namespace Go.Wk
open Go.Proofs Rp
set_option maxRecDepth 10000
theorem Tryz_laws_markWorld {w : World} {x : Wld} {xA9 xA10 xA11 : Option Addr} {xC9 xC10 xC11 : Nat} {k : Int} {fp : List Nat} (xK : x.Ok) (o : own true w [.int .i64 x.Shape.Groups, .int .i64 x.Shape.Column, .int .i64 x.Shape.Data, .int .i64 x.Shape.Spare, .int .i64 x.Shape.Rows, .int .i64 x.Shape.Cap, .int .i64 x.Shape.Batch, .int .i64 x.Shape.Queue, .int .i64 x.Shape.Stage, .slice xA9 x.Groups.length xC9, .slice xA10 x.On.length xC10, .slice xA11 x.Tapes.length xC11, .int .i64 x.Writes, .int .i64 x.Stop, .bool x.Down] x fp) (nd : fp.Nodup) (hk : 0 ≤ k ∧ k + mkWld x ≤ 4611686018427387904) : Ret Tryz.prog 21 #[x.val xA9 xC9 xA10 xC10 xA11 xC11, .int .i64 k] w fun v w' => (v = .int .i64 (k + mkWld x) ∧ ∃ x' : Wld, Mut w w' fp [.int .i64 x.Shape.Groups, .int .i64 x.Shape.Column, .int .i64 x.Shape.Data, .int .i64 x.Shape.Spare, .int .i64 x.Shape.Rows, .int .i64 x.Shape.Cap, .int .i64 x.Shape.Batch, .int .i64 x.Shape.Queue, .int .i64 x.Shape.Stage, .slice xA9 x.Groups.length xC9, .slice xA10 x.On.length xC10, .slice xA11 x.Tapes.length xC11, .int .i64 x.Writes, .int .i64 x.Stop, .bool x.Down] x' ∧ (x'.Groups.length = x.Groups.length ∧ x'.On.length = x.On.length ∧ x'.Tapes.length = x.Tapes.length ∧ mkWld x' = mkWld x ∧ MkWld x' k ∧ x'.Shape = x.Shape ∧ x'.Writes = x.Writes ∧ x'.Stop = x.Stop ∧ x'.Down = x.Down)) := by
 unfold mkWld at hk
 refine ret_Q (vs := [x.val xA9 xC9 xA10 xC10 xA11 xC11, .int .i64 k]) Tryz.func21 rfl Tryz.ntmps21 rfl (fun Q hQ hN => ?_)
 obtain ⟨f9, f10, f11, ef, ok, o9, o10, o11⟩ := own_WldC o
 have H0 := (Sep.begin o nd).part 0 rfl [mine [.slice xA9 x.Groups.length xC9] x.Groups f9, mine [.slice xA10 x.On.length xC10] x.On f10, mine [.slice xA11 x.Tapes.length xC11] x.Tapes f11] (all_cons o9 (all_cons o10 (all_cons o11 (by simp)))) (by simp [blocks, mine, ef])
 try dsimp only [lNA, lCA, lSZ, lSS] at H0
 refine W_sr (s_box (wn rfl) rfl rfl H0 (fun b1 w1 e1 g1 H1 => ?_))
 refine sA rfl rfl (s_nil (W_sr (sV rfl (py_field tu38 rfl ts35 rfl rfl) (sV rfl (py_load tu35 rfl rfl (cell_atL (H1.box 4 rfl) rfl)) (sM rfl rfl (s_call (wn rfl) rfl rfl (pc_call Tryz.func80 rfl Tryz_nm80 rfl) (Tryz_laws_markDriveSS (H1.mine 1 rfl) (H1.nodup1 (i := 1) rfl) (by constructor <;> omega)) (fun v1 w2 r1 => ?_)))))))
 obtain ⟨rfl, mx1, mm1, ml1⟩ := r1
 obtain ⟨fp1, H2⟩ := H1.mut 1 rfl mm1
 try dsimp only [lNA, lCA, lSZ, lSS] at H2
 refine sA rfl rfl (s_nil (W_sr (sV rfl (py_field tu38 rfl ts25 rfl rfl) (sV rfl (py_load tu25 rfl rfl (cell_atL (H2.box 4 rfl) rfl)) (sM rfl rfl (s_call (wn rfl) rfl rfl (pc_call Tryz.func81 rfl Tryz_nm81 rfl) (Tryz_laws_markInt64S (H2.mine 2 rfl) (H2.nodup1 (i := 2) rfl) (by constructor <;> omega)) (fun v2 w3 r2 => ?_)))))))
 obtain ⟨rfl, mx2, mm2, ml2, mk1⟩ := r2
 obtain ⟨fp2, H3⟩ := H2.mut 2 rfl mm2
 try dsimp only [lNA, lCA, lSZ, lSS] at H3
 refine sA rfl rfl (s_nil (W_sr (sV rfl (py_field tu38 rfl ts36 rfl rfl) (sV rfl (py_load tu36 rfl rfl (cell_atL (H3.box 4 rfl) rfl)) (sM rfl rfl (s_call (wn rfl) rfl rfl (pc_call Tryz.func82 rfl Tryz_nm82 rfl) (Tryz_laws_markTapeS (H3.mine 3 rfl) (H3.nodup1 (i := 3) rfl) (by constructor <;> omega)) (fun v3 w4 r3 => ?_)))))))
 obtain ⟨rfl, mx3, mm3, ml3⟩ := r3
 obtain ⟨fp3, H4⟩ := H3.mut 3 rfl mm3
 try dsimp only [lNA, lCA, lSZ, lSS] at H4
 refine sA rfl rfl (s_nil (W_sr (sM rfl rfl (sA rfl rfl (s_nil (rT hQ Tryz.results21 rfl ?_))))))
 exact ⟨congrArg (Value.int .i64) (by unfold mkWld; omega), Wld.mkOut ok (H4.dtake 4) ml1 ml2 mk1 ml3⟩
end Go.Wk
namespace Go.Wk
theorem getD_el {α : Type} {l : List α} {d : α} {i : Nat} (h : i < l.length) : l.getD i d = l[i] := by simp [List.getD, h]
end Go.Wk
namespace Go.Wk
open Rp (sz own)
def OwnW (w : World) (b : Nat) (T : TypeId) (z : Wld) (fp : List Nat) : Prop :=
  ∃ A9 C9 A10 C10 A11 C11 f9 f10 f11, w.heap[b]? = some (.cells [.int .i64 z.Shape.Groups, .int .i64 z.Shape.Column, .int .i64 z.Shape.Data, .int .i64 z.Shape.Spare, .int .i64 z.Shape.Rows, .int .i64 z.Shape.Cap, .int .i64 z.Shape.Batch, .int .i64 z.Shape.Queue, .int .i64 z.Shape.Stage, .slice A9 z.Groups.length C9, .slice A10 z.On.length C10, .slice A11 z.Tapes.length C11, .int .i64 z.Writes, .int .i64 z.Stop, .bool z.Down].toArray T) ∧ own true w [.slice A9 z.Groups.length C9] z.Groups f9 ∧ own true w [.slice A10 z.On.length C10] z.On f10 ∧ own true w [.slice A11 z.Tapes.length C11] z.Tapes f11 ∧ z.Ok ∧ fp = b :: (f9 ++ (f10 ++ f11))
theorem OwnW.st {w w' : World} {b T z fp} (h : OwnW w b T z fp) (k : ∀ x ∈ fp, w'.heap[x]? = w.heap[x]?) : OwnW w' b T z fp := by
  obtain ⟨A9, C9, A10, C10, A11, C11, f9, f10, f11, h1, h2, h3, h4, h5, h6⟩ := h
  subst h6
  exact ⟨A9, C9, A10, C10, A11, C11, f9, f10, f11, (k b (by simp)).trans h1, Rp.st h2 fun x hx => k x (by simp [hx]), Rp.st h3 fun x hx => k x (by simp [hx]), Rp.st h4 fun x hx => k x (by simp [hx]), h5, rfl⟩
theorem OwnW.lt {w : World} {b T z fp} (h : OwnW w b T z fp) : ∀ x ∈ fp, x < w.heap.size := by
  obtain ⟨A9, C9, A10, C10, A11, C11, f9, f10, f11, h1, h2, h3, h4, h5, h6⟩ := h
  subst h6
  intro x hx
  simp only [List.mem_cons, List.mem_append] at hx
  rcases hx with rfl | hx | hx | hx
  · exact (Array.getElem?_eq_some_iff.1 h1).1
  · exact Rp.lt h2 x hx
  · exact Rp.lt h3 x hx
  · exact Rp.lt h4 x hx
def wldR (b : Nat) (T : TypeId) (z : Wld) (fp : List Nat) : Rsc := ⟨fp, fun w => OwnW w b T z fp, fun h k => h.st k, fun h => h.lt⟩
def MutW (w w' : World) (fp : List Nat) (b : Nat) (T : TypeId) (z : Wld) : Prop :=
  Ext (· ∈ fp) w w' ∧ ∃ fp', OwnW w' b T z fp' ∧ fp'.Nodup ∧ ∀ x ∈ fp', x ∈ fp ∨ w.heap.size ≤ x
section
variable {M : Nat → Prop} {w0 w w' : World} {Δ F : List Rsc} {b : Nat} {T : TypeId} {z z' : Wld} {fp : List Nat}
theorem Sep.beginW (h : OwnW w b T z fp) (hn : fp.Nodup) : Sep (· ∈ fp) w [wldR b T z fp] [] w :=
  ⟨Ext.refl, by simpa [wldR] using h, by simpa [blocks, wldR] using hn, fun b hb => .inl (by simpa [blocks, wldR] using hb), by simp, by simp⟩
theorem Sep.seeF {α : Type} [Rp α] (h : Sep M w0 [wldR b T z fp] F w) {cs : List Value} {x : α} {f} (hx : own false w cs x f) (hd : ∀ b ∈ f, b ∉ fp) : Sep M w0 [wldR b T z fp] (F ++ [Wk.seen false cs x f]) w :=
  h.look (r := Wk.seen false cs x f) hx fun b hb hm => hd b hb (by simpa [blocks, wldR] using hm)
theorem Sep.wldAt (h : Sep M w0 Δ F w) (i : Nat) (hi : Δ[i]? = some (wldR b T z fp)) : OwnW w b T z fp := h.r i hi
theorem Sep.doneW {Δ' : List Rsc} {fp0 : List Nat} (h : Sep (· ∈ fp0) w0 (wldR b T z fp :: Δ') F w) : MutW w0 w fp0 b T z :=
  ⟨h.ext, fp, h.r 0 rfl, h.nodup1 (i := 0) rfl, fun x hx => h.new x (by simp [blocks, wldR, hx])⟩
theorem Sep.mutW (h : Sep M w0 Δ F w) (i : Nat) (hi : Δ[i]? = some (wldR b T z fp)) (m : MutW w w' fp b T z') : ∃ fp', Sep M w0 (Δ.set i (wldR b T z' fp')) F w' := by
  obtain ⟨e, fp', h1, h2, h3⟩ := m
  exact ⟨fp', h.set hi (q := wldR b T z' fp') e h1 h2 h3⟩
theorem Sep.openW (h : Sep M w0 Δ F w) (i : Nat) (hi : Δ[i]? = some (wldR b T z fp)) :
    ∃ A9 C9 A10 C10 A11 C11 f9 f10 f11, z.Ok ∧ Sep M w0 (Δ.set i (Wk.box b (.cells [.int .i64 z.Shape.Groups, .int .i64 z.Shape.Column, .int .i64 z.Shape.Data, .int .i64 z.Shape.Spare, .int .i64 z.Shape.Rows, .int .i64 z.Shape.Cap, .int .i64 z.Shape.Batch, .int .i64 z.Shape.Queue, .int .i64 z.Shape.Stage, .slice A9 z.Groups.length C9, .slice A10 z.On.length C10, .slice A11 z.Tapes.length C11, .int .i64 z.Writes, .int .i64 z.Stop, .bool z.Down].toArray T)) ++ [gone, Wk.mine [.slice A9 z.Groups.length C9] z.Groups f9, Wk.mine [.slice A10 z.On.length C10] z.On f10, Wk.mine [.slice A11 z.Tapes.length C11] z.Tapes f11]) F w := by
  obtain ⟨A9, C9, A10, C10, A11, C11, f9, f10, f11, h1, h2, h3, h4, h5, h6⟩ : OwnW w b T z fp := h.r i hi
  have hil : i < Δ.length := (List.getElem?_eq_some_iff.1 hi).1
  have p1 : (Wk.box b (.cells [.int .i64 z.Shape.Groups, .int .i64 z.Shape.Column, .int .i64 z.Shape.Data, .int .i64 z.Shape.Spare, .int .i64 z.Shape.Rows, .int .i64 z.Shape.Cap, .int .i64 z.Shape.Batch, .int .i64 z.Shape.Queue, .int .i64 z.Shape.Stage, .slice A9 z.Groups.length C9, .slice A10 z.On.length C10, .slice A11 z.Tapes.length C11, .int .i64 z.Writes, .int .i64 z.Stop, .bool z.Down].toArray T)).φ w := h1
  have H2 := h.part i hi [Wk.box b (.cells [.int .i64 z.Shape.Groups, .int .i64 z.Shape.Column, .int .i64 z.Shape.Data, .int .i64 z.Shape.Spare, .int .i64 z.Shape.Rows, .int .i64 z.Shape.Cap, .int .i64 z.Shape.Batch, .int .i64 z.Shape.Queue, .int .i64 z.Shape.Stage, .slice A9 z.Groups.length C9, .slice A10 z.On.length C10, .slice A11 z.Tapes.length C11, .int .i64 z.Writes, .int .i64 z.Stop, .bool z.Down].toArray T), Wk.mine [.slice A9 z.Groups.length C9] z.Groups f9, Wk.mine [.slice A10 z.On.length C10] z.On f10, Wk.mine [.slice A11 z.Tapes.length C11] z.Tapes f11] (all_cons p1 (all_cons h2 (all_cons h3 (all_cons h4 (by simp))))) (by simp [blocks, Wk.mine, Wk.box, wldR, h6])
  exact ⟨A9, C9, A10, C10, A11, C11, f9, f10, f11, h5, H2.perm (set_swap hil)⟩
theorem Sep.closeW (h : Sep M w0 Δ F w) (i j9 j10 j11 : Nat) (z : Wld) {A9 C9 A10 C10 A11 C11 f9 f10 f11 n9 n10 n11} (hi : Δ[i]? = some (Wk.box b (.cells [.int .i64 z.Shape.Groups, .int .i64 z.Shape.Column, .int .i64 z.Shape.Data, .int .i64 z.Shape.Spare, .int .i64 z.Shape.Rows, .int .i64 z.Shape.Cap, .int .i64 z.Shape.Batch, .int .i64 z.Shape.Queue, .int .i64 z.Shape.Stage, .slice A9 n9 C9, .slice A10 n10 C10, .slice A11 n11 C11, .int .i64 z.Writes, .int .i64 z.Stop, .bool z.Down].toArray T))) (h9 : Δ[j9]? = some (Wk.mine [.slice A9 n9 C9] z.Groups f9)) (h10 : Δ[j10]? = some (Wk.mine [.slice A10 n10 C10] z.On f10)) (h11 : Δ[j11]? = some (Wk.mine [.slice A11 n11 C11] z.Tapes f11))
    (d1 : Nat.beq j9 i = false) (d2 : Nat.beq j10 i = false) (d3 : Nat.beq j11 i = false) (d4 : Nat.beq j10 j9 = false) (d5 : Nat.beq j11 j9 = false) (d6 : Nat.beq j11 j10 = false) (ok : z.Ok) :
    ∃ fp, Sep M w0 ((((Δ.set j11 gone).set j10 gone).set j9 gone).set i (wldR b T z fp)) F w := by
  obtain rfl := own_n (h.mine j9 h9)
  obtain rfl := own_n (h.mine j10 h10)
  obtain rfl := own_n (h.mine j11 h11)
  have n1 : j9 ≠ i := fun e => by subst e; simp at d1
  have n2 : j10 ≠ i := fun e => by subst e; simp at d2
  have n3 : j11 ≠ i := fun e => by subst e; simp at d3
  have n4 : j10 ≠ j9 := fun e => by subst e; simp at d4
  have n5 : j11 ≠ j9 := fun e => by subst e; simp at d5
  have n6 : j11 ≠ j10 := fun e => by subst e; simp at d6
  have g : ∀ {L : List Rsc} {k : Nat} {a r : Rsc}, L[k]? = some r → (L.set k a)[k]? = some a := fun h => List.getElem?_set_self (List.getElem?_eq_some_iff.1 h).1
  have H1 := h.join2 j10 j11 h10 h11 d6
  have a10 : ((Δ.set j11 gone).set j10 (cat (Wk.mine [.slice A10 z.On.length C10] z.On f10) (Wk.mine [.slice A11 z.Tapes.length C11] z.Tapes f11)))[j10]? = some (cat (Wk.mine [.slice A10 z.On.length C10] z.On f10) (Wk.mine [.slice A11 z.Tapes.length C11] z.Tapes f11)) := g (r := Wk.mine [.slice A10 z.On.length C10] z.On f10) (by rw [List.getElem?_set_ne n6]; exact h10)
  have a9 : ((Δ.set j11 gone).set j10 (cat (Wk.mine [.slice A10 z.On.length C10] z.On f10) (Wk.mine [.slice A11 z.Tapes.length C11] z.Tapes f11)))[j9]? = some (Wk.mine [.slice A9 z.Groups.length C9] z.Groups f9) := by rw [List.getElem?_set_ne n4, List.getElem?_set_ne n5]; exact h9
  have H2 := H1.join2 j9 j10 a9 a10 d4
  rw [List.set_set] at H2
  have ai : ((((Δ.set j11 gone).set j10 gone).set j9 (cat (Wk.mine [.slice A9 z.Groups.length C9] z.Groups f9) (cat (Wk.mine [.slice A10 z.On.length C10] z.On f10) (Wk.mine [.slice A11 z.Tapes.length C11] z.Tapes f11)))))[i]? = some (Wk.box b (.cells [.int .i64 z.Shape.Groups, .int .i64 z.Shape.Column, .int .i64 z.Shape.Data, .int .i64 z.Shape.Spare, .int .i64 z.Shape.Rows, .int .i64 z.Shape.Cap, .int .i64 z.Shape.Batch, .int .i64 z.Shape.Queue, .int .i64 z.Shape.Stage, .slice A9 z.Groups.length C9, .slice A10 z.On.length C10, .slice A11 z.Tapes.length C11, .int .i64 z.Writes, .int .i64 z.Stop, .bool z.Down].toArray T)) := by rw [List.getElem?_set_ne n1, List.getElem?_set_ne n2, List.getElem?_set_ne n3]; exact hi
  have b9 : ((((Δ.set j11 gone).set j10 gone).set j9 (cat (Wk.mine [.slice A9 z.Groups.length C9] z.Groups f9) (cat (Wk.mine [.slice A10 z.On.length C10] z.On f10) (Wk.mine [.slice A11 z.Tapes.length C11] z.Tapes f11)))))[j9]? = some (cat (Wk.mine [.slice A9 z.Groups.length C9] z.Groups f9) (cat (Wk.mine [.slice A10 z.On.length C10] z.On f10) (Wk.mine [.slice A11 z.Tapes.length C11] z.Tapes f11))) := g (r := Wk.mine [.slice A9 z.Groups.length C9] z.Groups f9) (by rw [List.getElem?_set_ne n4, List.getElem?_set_ne n5]; exact h9)
  have H3 := H2.join2 i j9 ai b9 d1
  rw [List.set_set] at H3
  obtain ⟨q1, q2, q3, q4⟩ : (cat (Wk.box b (.cells [.int .i64 z.Shape.Groups, .int .i64 z.Shape.Column, .int .i64 z.Shape.Data, .int .i64 z.Shape.Spare, .int .i64 z.Shape.Rows, .int .i64 z.Shape.Cap, .int .i64 z.Shape.Batch, .int .i64 z.Shape.Queue, .int .i64 z.Shape.Stage, .slice A9 z.Groups.length C9, .slice A10 z.On.length C10, .slice A11 z.Tapes.length C11, .int .i64 z.Writes, .int .i64 z.Stop, .bool z.Down].toArray T)) (cat (Wk.mine [.slice A9 z.Groups.length C9] z.Groups f9) (cat (Wk.mine [.slice A10 z.On.length C10] z.On f10) (Wk.mine [.slice A11 z.Tapes.length C11] z.Tapes f11)))).φ w := H3.r i (g (r := Wk.box b (.cells [.int .i64 z.Shape.Groups, .int .i64 z.Shape.Column, .int .i64 z.Shape.Data, .int .i64 z.Shape.Spare, .int .i64 z.Shape.Rows, .int .i64 z.Shape.Cap, .int .i64 z.Shape.Batch, .int .i64 z.Shape.Queue, .int .i64 z.Shape.Stage, .slice A9 z.Groups.length C9, .slice A10 z.On.length C10, .slice A11 z.Tapes.length C11, .int .i64 z.Writes, .int .i64 z.Stop, .bool z.Down].toArray T)) (by rw [List.getElem?_set_ne n1, List.getElem?_set_ne n2, List.getElem?_set_ne n3]; exact hi))
  have hg := g (a := cat (Wk.box b (.cells [.int .i64 z.Shape.Groups, .int .i64 z.Shape.Column, .int .i64 z.Shape.Data, .int .i64 z.Shape.Spare, .int .i64 z.Shape.Rows, .int .i64 z.Shape.Cap, .int .i64 z.Shape.Batch, .int .i64 z.Shape.Queue, .int .i64 z.Shape.Stage, .slice A9 z.Groups.length C9, .slice A10 z.On.length C10, .slice A11 z.Tapes.length C11, .int .i64 z.Writes, .int .i64 z.Stop, .bool z.Down].toArray T)) (cat (Wk.mine [.slice A9 z.Groups.length C9] z.Groups f9) (cat (Wk.mine [.slice A10 z.On.length C10] z.On f10) (Wk.mine [.slice A11 z.Tapes.length C11] z.Tapes f11)))) (r := Wk.box b (.cells [.int .i64 z.Shape.Groups, .int .i64 z.Shape.Column, .int .i64 z.Shape.Data, .int .i64 z.Shape.Spare, .int .i64 z.Shape.Rows, .int .i64 z.Shape.Cap, .int .i64 z.Shape.Batch, .int .i64 z.Shape.Queue, .int .i64 z.Shape.Stage, .slice A9 z.Groups.length C9, .slice A10 z.On.length C10, .slice A11 z.Tapes.length C11, .int .i64 z.Writes, .int .i64 z.Stop, .bool z.Down].toArray T)) (L := ((Δ.set j11 gone).set j10 gone).set j9 gone) (k := i) (by rw [List.getElem?_set_ne n1, List.getElem?_set_ne n2, List.getElem?_set_ne n3]; exact hi)
  have hn := H3.nodup1 hg
  have H4 := H3.conv i (wldR b T z (b :: (f9 ++ (f10 ++ f11)))) hg ⟨A9, C9, A10, C10, A11, C11, f9, f10, f11, q1, q2, q3, q4, ok, rfl⟩ (fun x hx => hx) hn
  rw [List.set_set] at H4
  exact ⟨_, H4⟩
end
section
variable {M : Nat → Prop} {w0 w w1 w2 : World} {Δ F : List Rsc}
theorem Sep.inB (_ : Sep M w0 Δ F w) (i : Nat) {r : Rsc} (hi : Δ[i]? = some r) {b : Nat} (hb : b ∈ r.fp) : b ∈ blocks Δ := mem_blocks.2 ⟨r, List.mem_of_getElem? hi, hb⟩
end
end Go.Wk
namespace Go.Wk
open Rp (sz own)
def noPower (z : Wld) : Bool := decide (z.Stop ≠ -1) && decide (z.Stop ≤ z.Writes)
def cutW (z : Wld) : Wld := ⟨z.Shape, z.Groups, [], z.Tapes, z.Writes, z.Stop, true⟩
def tickW (z : Wld) : Wld := ⟨z.Shape, z.Groups, z.On, z.Tapes, z.Writes + 1, z.Stop, z.Down⟩
def rawW (z : Wld) (y : Wld) : Wld := if noPower z = true then cutW z else tickW y
theorem rawW_no {z y : Wld} (h : noPower z = true) : rawW z y = cutW z := if_pos h
theorem rawW_yes {z y : Wld} (h : noPower z = false) : rawW z y = tickW y := if_neg (by simp [h])
def noWld : Wld := ⟨⟨0, 0, 0, 0, 0, 0, 0, 0, 0⟩, [], [], [], 0, 0, false⟩
theorem sumN_mono {f g : Nat → Nat} (h : ∀ i, f i ≤ g i) : ∀ k, sumN f k ≤ sumN g k
  | 0 => Nat.le_refl _
  | k + 1 => Nat.add_le_add (sumN_mono h k) (h k)
theorem sumN_plus {f g : Nat → Nat} : ∀ k, sumN (fun i => f i + g i) k = sumN f k + sumN g k
  | 0 => rfl
  | k + 1 => by
    show sumN (fun i => f i + g i) k + (f k + g k) = sumN f k + f k + (sumN g k + g k)
    rw [sumN_plus k]; omega
theorem sumN_one {i c : Nat} : ∀ k, sumN (fun j => if j = i then c else 0) k = if i < k then c else 0
  | 0 => rfl
  | k + 1 => by
    show sumN (fun j => if j = i then c else 0) k + (if k = i then c else 0) = _
    rw [sumN_one k]
    by_cases h : k = i
    · subst h; rw [if_neg (by omega), if_pos rfl, if_pos (by omega)]; omega
    · rw [if_neg h]
      by_cases h2 : i < k
      · rw [if_pos h2, if_pos (by omega)]; omega
      · rw [if_neg h2, if_neg (by omega)]
theorem mk_cut {z : Wld} : mkWld (cutW z) ≤ mkWld z := by
  unfold mkWld cutW; dsimp only; simp
end Go.Wk
namespace Go.Wk
open Rp (sz own)
theorem take_step {α : Type} {xs : List α} {k : Nat} {d : α} (h : k < xs.length) : xs.take k ++ [xs.getD k d] = xs.take (k + 1) := by
  rw [getD_el h]; exact List.take_append_getElem h
theorem worldF_rng {w : Wld} (h : worldF w = 0) : 0 ≤ w.Writes ∧ w.Writes ≤ 1000000000 ∧ -1 ≤ w.Stop ∧ w.Stop ≤ 1000000000 := by
  unfold worldF at h
  split at h
  · rename_i h1; exact absurd h h1
  · split at h
    · split at h
      · rename_i h1; exact absurd h h1
      · split at h
        · rename_i h1
          simp only [Bool.and_eq_true, ins_iff] at h1
          omega
        · omega
    · omega
theorem Sep.asSt {α β : Type} [Rp α] [Rp β] {M : Nat → Prop} {w0 w : World} {Δ F : List Rsc} (h : Sep M w0 Δ F w) (i : Nat) {cs cs' : List Value} {x : α} (y : β) {fp : List Nat} (hi : Δ[i]? = some (Wk.mine cs x fp)) (hq : own true w cs' y fp) : Sep M w0 (Δ.set i (Wk.mine cs' y fp)) F w :=
  have hn := h.nodup1 hi
  h.conv i (Wk.mine cs' y fp) hi hq (fun b hb => hb) hn
section
variable {w w' : World} {fp f : List Nat} {F : List Rsc} {y : WldResult} {x : Wld} {A10 A11 A12 : Option Addr} {C10 C11 C12 : Nat}
theorem WldResult.mutW (ok : y.Ok) (h : Sep (· ∈ fp) w [Wk.mine [.int .i64 y.Wd.Shape.Groups, .int .i64 y.Wd.Shape.Column, .int .i64 y.Wd.Shape.Data, .int .i64 y.Wd.Shape.Spare, .int .i64 y.Wd.Shape.Rows, .int .i64 y.Wd.Shape.Cap, .int .i64 y.Wd.Shape.Batch, .int .i64 y.Wd.Shape.Queue, .int .i64 y.Wd.Shape.Stage, .slice A10 y.Wd.Groups.length C10, .slice A11 y.Wd.On.length C11, .slice A12 y.Wd.Tapes.length C12, .int .i64 y.Wd.Writes, .int .i64 y.Wd.Stop, .bool y.Wd.Down] x f] F w') :
    Mut w w' fp [.int .i64 y.Code, .int .i64 y.Wd.Shape.Groups, .int .i64 y.Wd.Shape.Column, .int .i64 y.Wd.Shape.Data, .int .i64 y.Wd.Shape.Spare, .int .i64 y.Wd.Shape.Rows, .int .i64 y.Wd.Shape.Cap, .int .i64 y.Wd.Shape.Batch, .int .i64 y.Wd.Shape.Queue, .int .i64 y.Wd.Shape.Stage, .slice A10 y.Wd.Groups.length C10, .slice A11 y.Wd.On.length C11, .slice A12 y.Wd.Tapes.length C12, .int .i64 y.Wd.Writes, .int .i64 y.Wd.Stop, .bool y.Wd.Down] (⟨y.Code, x⟩ : WldResult) := by
  obtain ⟨B9, D9, B10, D10, B11, D11, g9, g10, g11, e, ef, ok', o9, o10, o11⟩ := own_Wld (h.mine 0 rfl)
  refine ⟨h.ext, f, ?_, h.nodup1 (i := 0) rfl, fun b hb => h.new b (by simpa [blocks, Wk.mine] using hb)⟩
  have hh := WldResult.own_mk (x := (⟨y.Code, x⟩ : WldResult)) ⟨ok.1, ok'⟩ o9 o10 o11
  have e2 := congrArg (fun l => Value.int .i64 y.Code :: l) e
  dsimp only at e2 hh
  rw [e2, ef]
  exact hh
end
section
variable {P : Program} {n : Nat} {ops : Array Oper} {Q : Post} {L : Env} {S : World → Prop} {w w0 : World} {M : Nat → Prop} {Δ F : List Rsc} {ty : TypeId} {p : String} {af : Array Edge} {g : Option (Nat × Bool)} {i : Nat} {rest : List (Nat × Bool)}
theorem d_stoS {t : TypeId} {x y : Operand} {b off sz : Nat} {cs : List Value} {T} {vs : List Value} (ho : ops.toList[i]? = some ⟨none, .store t x y, ty, p, af, g⟩) (hw : Wn ops n L ⟨none, .store t x y, ty, p, af, g⟩) (hs : ∀ w, (sizeOf t).run P w = .ok sz w) (hx : evL L x = some (.pointer (some ⟨b, off, none⟩))) (hy : evL L y = some (.agg vs.toArray))
    (hl : vs.length = sz) (h1 : allOne vs = true) (H : Sep M w0 Δ F w) (j : Nat) (hi : Δ[j]? = some (Wk.box b (.cells cs.toArray T))) (hf : Nat.ble (off + sz) cs.length = true) (hS : ∀ w', S w → Ext (· = b) w w' → rest ≠ [] → S w')
    (k : ∀ w', Ext (· = b) w w' → Sep M w0 (Δ.set j (Wk.box b (.cells (layL cs off vs).toArray T))) F w' → DL P n ops Q S rest L w') :
    DL P n ops Q S ((i, false) :: rest) L w := by
  have hf' := Nat.le_of_ble_eq_true hf
  have h := k _ (Ext.refl.put (.inl rfl)) (H.put j _ hi)
  rw [← lay_layL (by rw [hl]; exact hf')] at h
  exact d_do ho hw rfl (pd_storeS hs hx hy hl (allOne_spec h1) (H.box j hi) (by simpa using hf')) (fun hSw hr => hS _ hSw (Ext.refl.put (.inl rfl)) hr) h
end
end Go.Wk
namespace Go.Wk
open Rp (sz own)
section
variable {M : Nat → Prop} {w0 w w1 w2 : World} {Δ F : List Rsc} {b : Nat} {T : TypeId} {z : Wld} {fp fp1 : List Nat}
theorem Sep.boxFar (h : Sep M w0 Δ F w) (i j : Nat) {c : Nat} {o : Obj} (hi : Δ[i]? = some (wldR b T z fp)) (hj : Δ[j]? = some (Wk.box c o)) (hij : Nat.beq j i = false) (s1 : ∀ x ∈ fp1, x ∈ fp ∨ w.heap.size ≤ x) (e1 : Ext (· ∈ fp) w w1) :
    w1.heap[c]? = some o ∧ c ∉ fp1 := by
  have hb : w.heap[c]? = some o := h.r j hj
  have hn : c ∉ fp := h.apart (i := i) (j := j) hi hj hij c (by simp [Wk.box])
  exact ⟨e1.heapM hn hb, fun hm => (s1 c hm).elim hn fun hg => by have := (Array.getElem?_eq_some_iff.1 hb).1; omega⟩
theorem Sep.seeFar {α : Type} [Rp α] (h : Sep M w0 Δ F w) (i j : Nat) {s : Bool} {cs : List Value} {x : α} {f : List Nat} (hi : Δ[i]? = some (wldR b T z fp)) (hj : F[j]? = some (Wk.seen s cs x f)) (s1 : ∀ x ∈ fp1, x ∈ fp ∨ w.heap.size ≤ x) (e1 : Ext (· ∈ fp) w w1) :
    own false w1 cs x f ∧ ∀ b ∈ f, b ∉ fp1 := by
  have hx : own s w cs x f := h.fs _ (List.mem_of_getElem? hj)
  have hn : ∀ b ∈ f, b ∉ fp := fun b hb hm => h.ap _ (List.mem_of_getElem? hj) b hb (h.inB i hi hm)
  have hl := Rp.lt hx
  exact ⟨own_weak (Rp.st hx fun b hb => e1.block b (hl b hb) (hn b hb)), fun b hb hm => (s1 b hm).elim (hn b hb) fun hg => by have := hl b hb; omega⟩
theorem Sep.boxF (h : Sep M w0 [wldR b T z fp] F w) {c : Nat} {o : Obj} (hb : w.heap[c]? = some o) (hd : c ∉ fp) : Sep M w0 [wldR b T z fp] (F ++ [Wk.box c o]) w :=
  h.look (r := Wk.box c o) hb fun x hx hm => by
    rw [show x = c by simpa [Wk.box] using hx] at hm
    exact hd (by simpa [blocks, wldR] using hm)
def Sep.S2 {M : Nat → Prop} {w0 w : World} {Δ F : List Rsc} (_ : Sep M w0 Δ F w) (i j : Nat) : World → Prop := Ext (fun b => b ∈ (Δ.getD i gone).fp ∨ b ∈ (Δ.getD j gone).fp) w
theorem getD_some {r d : Rsc} {i : Nat} (h : Δ[i]? = some r) : Δ.getD i d = r := by simp [List.getD, h]
theorem Sep.s2Call (h : Sep M w0 Δ F w) {i j : Nat} (hS : h.S2 i j w1) (e : Ext No w1 w2) : h.S2 i j w2 := Ext.trans hS e.no
theorem Sep.s2FBox (h : Sep M w0 Δ F w) {i j : Nat} (hx : h.S2 i j w1) (k : Nat) {c : Nat} {o : Obj} (hk : F[k]? = some (Wk.box c o)) {ri rj : Rsc} (hi : Δ[i]? = some ri) (hj : Δ[j]? = some rj) : w1.heap[c]? = some o :=
  Ext.heapM hx (fun hm => h.ap _ (List.mem_of_getElem? hk) c (by simp [Wk.box]) (by
    rcases hm with hm | hm
    · rw [getD_some hi] at hm; exact h.inB i hi hm
    · rw [getD_some hj] at hm; exact h.inB j hj hm)) (h.fs _ (List.mem_of_getElem? hk))
theorem Sep.s2Box (h : Sep M w0 Δ F w) {i j : Nat} (hx : h.S2 i j w1) (k : Nat) {c : Nat} {o : Obj} (hk : Δ[k]? = some (Wk.box c o)) {ri rj : Rsc} (hi : Δ[i]? = some ri) (hj : Δ[j]? = some rj) (d1 : Nat.beq k i = false) (d2 : Nat.beq k j = false) : w1.heap[c]? = some o :=
  Ext.heapM hx (fun hm => by
    rcases hm with hm | hm
    · rw [getD_some hi] at hm; exact h.apart (i := i) (j := k) hi hk d1 c (by simp [Wk.box]) hm
    · rw [getD_some hj] at hm; exact h.apart (i := j) (j := k) hj hk d2 c (by simp [Wk.box]) hm) (h.r k hk)
end
theorem cutW_ok {z : Wld} (h : z.Ok) : (cutW z).Ok := h
theorem tickW_ok {z : Wld} (h : z.Ok) (h2 : z.Writes ≤ 2000000000) : (tickW z).Ok := by
  refine ⟨h.1, ?_, h.2.2⟩
  have h3 := h.2.1
  show I64ok (z.Writes + 1)
  unfold I64ok at h3 ⊢; omega
theorem noPower_yes {z : Wld} (h : ¬ z.Stop = -1) (h2 : z.Writes ≥ z.Stop) : noPower z = true := by
  unfold noPower; simp only [Bool.and_eq_true, decide_eq_true_eq]; exact ⟨h, h2⟩
theorem noPower_no {z : Wld} (h : z.Stop = -1 ∨ ¬ z.Writes ≥ z.Stop) : noPower z = false := by
  unfold noPower; simp only [Bool.and_eq_false_iff, decide_eq_false_iff_not]
  rcases h with h | h
  · exact .inl (by simp [h])
  · exact .inr (by omega)
end Go.Wk
namespace Go.Wk
open Rp (sz own)
theorem world_fault {z : Wld} (h : worldF z = 0) : z.Shape.fault = 0 := by
  unfold worldF at h
  split at h
  · rename_i h1; exact absurd h h1
  · rename_i h1; omega
theorem noWld_ok : noWld.Ok := by unfold Wld.Ok Shape.Ok I64ok noWld; dsimp only; omega
theorem wld_nil {w w' : World} {c : Int} (h : I64ok c) : Res w w' [.int .i64 c, .int .i64 0, .int .i64 0, .int .i64 0, .int .i64 0, .int .i64 0, .int .i64 0, .int .i64 0, .int .i64 0, .int .i64 0, .slice none 0 0, .slice none 0 0, .slice none 0 0, .int .i64 0, .int .i64 0, .bool false] (⟨c, noWld⟩ : WldResult) :=
  ⟨_, WldResult.own_mk (x := ⟨c, noWld⟩) ⟨h, noWld_ok⟩ (.inr (.inl ⟨rfl, rfl, rfl⟩)) (.inr (.inl ⟨rfl, rfl, rfl⟩)) (.inr (.inl ⟨rfl, rfl, rfl⟩)), List.nodup_nil, by simp⟩
theorem wr_see {s : Bool} {w : World} {c s0 s1 s2 s3 s4 s5 s6 s7 s8 wr sp : Int} {dn : Bool} {A10 A11 A12 : Option Addr} {n10 C10 n11 C11 n12 C12 : Nat} {x : WldResult} {fp : List Nat} (h : own s w [.int .i64 c, .int .i64 s0, .int .i64 s1, .int .i64 s2, .int .i64 s3, .int .i64 s4, .int .i64 s5, .int .i64 s6, .int .i64 s7, .int .i64 s8, .slice A10 n10 C10, .slice A11 n11 C11, .slice A12 n12 C12, .int .i64 wr, .int .i64 sp, .bool dn] x fp) :
    Sees w [.slice A10 n10 C10] x.Wd.Groups ∧ Sees w [.slice A11 n11 C11] x.Wd.On ∧ Sees w [.slice A12 n12 C12] x.Wd.Tapes := by
  obtain ⟨B10, D10, B11, D11, B12, D12, g10, g11, g12, e, ef, ok', o10, o11, o12⟩ := own_WldResult h
  simp only [List.cons.injEq, Value.slice.injEq, Value.int.injEq, Value.bool.injEq, and_true, true_and] at e
  obtain ⟨_, _, _, _, _, _, _, _, _, _, ⟨rfl, rfl, rfl⟩, ⟨rfl, rfl, rfl⟩, ⟨rfl, rfl, rfl⟩, _, _, _⟩ := e
  exact ⟨⟨_, own_weak o10⟩, ⟨_, own_weak o11⟩, ⟨_, own_weak o12⟩⟩
section
variable {P : Program} {n : Nat} {ops : Array Oper} {Q : Post} {L : Env} {S : World → Prop} {w w0 : World} {M : Nat → Prop} {Δ F : List Rsc} {d : Nat} {ty : TypeId} {p : String} {af : Array Edge} {g : Option (Nat × Bool)} {i : Nat} {rest : List (Nat × Bool)}
theorem d_var {t : TypeId} {z : Value} (ho : ops.toList[i]? = some ⟨some d, .alloc t, ty, p, af, g⟩) (hw : Wn ops n L ⟨some d, .alloc t, ty, p, af, g⟩) (hn : Nat.blt d n = true) (hz : ∀ w, (zeroValue t).run P w = .ok z w) (H : Sep M w0 Δ F w) (hS : ∀ w', S w → Ext No w w' → S w')
    (k : ∀ b w', Ext No w w' → w.heap.size ≤ b → Sep M w0 (Δ ++ [box b (.cells z.cells t)]) F w' → DL P n ops Q S rest ((d, .pointer (some ⟨b, 0, none⟩)) :: L) w') : DL P n ops Q S ((i, false) :: rest) L w :=
  d_alloc (v := fun b => .pointer (some ⟨b, 0, none⟩)) ho hw rfl hn (pn_alloc hz) H hS k
end
end Go.Wk
namespace Go.Wk
open Go.Proofs Rp
set_option maxRecDepth 10000
theorem Tryz_laws_heldBlockS {w : World} {xs : List Block} {xsA : Option Addr} {xsC : Nat} {k : Int} (xsS : Sees w [.slice xsA xs.length xsC] xs) (hk : 0 ≤ k ∧ k + mkL mkBlock xs ≤ 4611686018427387904) (hm : MkL MkBlock mkBlock xs k) : Ret Tryz.prog 335 #[.slice xsA xs.length xsC, .int .i64 k] w fun v w' => Ext No w w' ∧ (v = .int .i64 (k + mkL mkBlock xs)) := by
 have xsL := sL xsS
 obtain ⟨xsF, xsO⟩ := xsS
 refine ret_Q (vs := [.slice xsA xs.length xsC, .int .i64 k]) Tryz.func335 rfl Tryz.ntmps335 rfl (fun Q hQ hN => ?_)
 have H0 := Sep.start (w := w) (F := [seen false [.slice xsA xs.length xsC] xs xsF]) (all_cons xsO (by simp))
 refine W_sr (sA rfl rfl (s_nil (W_seq (W_sr (sA rfl rfl (s_nil (W_block (W_loopS (γ := Nat) H0 [(0, _)] ⟨rfl, trivial⟩ (fun i => [(1, .int .i64 (k + sumN (fun i => mkBlock (xs.getD i default)) i)), (5, .int .i64 i)]) (fun i => i ≤ xs.length ∧ True) (fun i => xs.length - i) 0 ⟨eqI (by simp [sumN]), rfl, trivial⟩ ⟨by omega, trivial⟩ (fun i w1 H1 ⟨hi, _⟩ => ?_)))))))))
 dsimp only [lCA, lNA]
 refine W_seq (W_sr (sM rfl rfl (sM rfl rfl (sV rfl (py_len tu178 rfl) (sV rfl (py_lss rfl rfl) (s_nil (W_ifd rfl (fun c1 => ?_) (fun c1 => ?_))))))))
 ·refine W_skip (W_seq (W_block (W_seq (W_seq ?_))))
  have hmi := hm i (by omega)
  obtain ⟨sg, sl⟩ := mkL_at (c := mkBlock) (xs := xs) (i := i) (by omega)
  have hcu : mkBlock (xs.getD i default) = 1 + (xs.getD i default).Bytes.length := rfl
  obtain ⟨hm1, hm2⟩ := hmi
  obtain ⟨eb1, eo1, es1, ef1, ee1, ec1, eO1, eH1, em1⟩ := elem_st (H1.seen 0 rfl) i (by omega)
  obtain ⟨ea1, ek1, eg1, rfl, eq1, eK1, eo2⟩ := own_Block eO1
  have eK1U := eK1
  unfold Block.Ok at eK1U
  try unfold I64ok at eK1U
  try unfold maxLen at eK1U
  have eP1 := H1.look1 0 rfl eo2 (fun b hb => eH1 b (by rw [eq1]; simp [hb]))
  have eL1 := oL eo2
  refine W_reg (sM rfl rfl (sM rfl rfl (sV rfl (py_elz tu178 ts182 rfl rfl ee1 i (by omega) (by omega)) (sV rfl (py_field tu182 rfl ts2 rfl rfl) (sV rfl (py_load tu2 rfl rfl (at_cell ec1 0 rfl)) (sM rfl rfl (sV rfl (py_neq rfl rfl) (s_nil (W_ifd rfl (fun c2 => ?_) (fun c2 => ?_))))))))))
  ·exact absurd hm1 c2
  ·refine W_skip (W_sr (sM rfl rfl (sV rfl (py_add rfl rfl (in64 ⟨by omega, by omega⟩)) (sA rfl rfl (s_nil (W_seq ?_))))))
   obtain ⟨eb2, eo3, es2, ef2, ee2, ec2, eO2, eH2, em2⟩ := elem_st (eP1.seen 0 rfl) i (by omega)
   obtain ⟨ea2, ek2, eg2, rfl, eq2, eK2, eo4⟩ := own_Block eO2
   have eK2U := eK2
   unfold Block.Ok at eK2U
   try unfold I64ok at eK2U
   try unfold maxLen at eK2U
   have eP2 := eP1.look1 0 rfl eo4 (fun b hb => eH2 b (by rw [eq2]; simp [hb]))
   have eL2 := oL eo4
   refine W_reg (sM rfl rfl (sM rfl rfl (sV rfl (py_elz tu178 ts182 rfl rfl ee2 i (by omega) (by omega)) (sV rfl (py_field tu182 rfl ts45 rfl rfl) (sV rfl (py_load tu45 rfl rfl (at_cell ec2 1 rfl)) (sM rfl rfl (s_call (wn rfl) rfl rfl (pc_call Tryz.func89 rfl Tryz_nm89 rfl) (Tryz_laws_heldByteS (eP2.sees 2 rfl) (by constructor <;> omega) (by assumption)) (fun v1 w2 r1 => ?_))))))))
   obtain ⟨e1, rfl⟩ := r1
   have H2 := eP2.to e1
   refine sA rfl rfl (s_nil (W_sr (sM rfl rfl (sV rfl (py_lss rfl rfl) (s_nil (W_ifd rfl (fun c3 => ?_) (fun c3 => ?_)))))))
   ·exact absurd c3 (by omega)
   ·refine W_skip (W_reg (sM rfl rfl (sV rfl (py_add rfl rfl (in64 ⟨by omega, by omega⟩)) (sA rfl rfl (s_nil (⟨i + 1, ⟨eqI (by omega), rfl, rfl, trivial⟩, ⟨(H2.ftake 1), by omega, trivial⟩, by dsimp only; omega⟩))))))
 ·refine W_exit (W_sr (sM rfl rfl (sA rfl rfl (s_nil (rT hQ Tryz.results335 rfl ?_)))))
  obtain rfl : i = xs.length := by omega
  exact ⟨H1.ext, rfl⟩
theorem Tryz_laws_heldDriveS {w : World} {xs : List Drive} {xsA : Option Addr} {xsC : Nat} {k : Int} (xsS : Sees w [.slice xsA xs.length xsC] xs) (hk : 0 ≤ k ∧ k + mkL mkDrive xs ≤ 4611686018427387904) (hm : MkL MkDrive mkDrive xs k) : Ret Tryz.prog 292 #[.slice xsA xs.length xsC, .int .i64 k] w fun v w' => Ext No w w' ∧ (v = .int .i64 (k + mkL mkDrive xs)) := by
 have xsL := sL xsS
 obtain ⟨xsF, xsO⟩ := xsS
 refine ret_Q (vs := [.slice xsA xs.length xsC, .int .i64 k]) Tryz.func292 rfl Tryz.ntmps292 rfl (fun Q hQ hN => ?_)
 have H0 := Sep.start (w := w) (F := [seen false [.slice xsA xs.length xsC] xs xsF]) (all_cons xsO (by simp))
 refine W_sr (sA rfl rfl (s_nil (W_seq (W_sr (sA rfl rfl (s_nil (W_block (W_loopS (γ := Nat) H0 [(0, _)] ⟨rfl, trivial⟩ (fun i => [(1, .int .i64 (k + sumN (fun i => mkDrive (xs.getD i default)) i)), (5, .int .i64 i)]) (fun i => i ≤ xs.length ∧ True) (fun i => xs.length - i) 0 ⟨eqI (by simp [sumN]), rfl, trivial⟩ ⟨by omega, trivial⟩ (fun i w1 H1 ⟨hi, _⟩ => ?_)))))))))
 dsimp only [lCA, lNA]
 refine W_seq (W_sr (sM rfl rfl (sM rfl rfl (sV rfl (py_len tu142 rfl) (sV rfl (py_lss rfl rfl) (s_nil (W_ifd rfl (fun c1 => ?_) (fun c1 => ?_))))))))
 ·refine W_skip (W_seq (W_block (W_seq (W_seq ?_))))
  have hmi := hm i (by omega)
  obtain ⟨sg, sl⟩ := mkL_at (c := mkDrive) (xs := xs) (i := i) (by omega)
  have hcu : mkDrive (xs.getD i default) = 1 + mkL mkBlock (xs.getD i default).Blocks := rfl
  obtain ⟨hm1, hm2⟩ := hmi
  obtain ⟨eb1, eo1, es1, ef1, ee1, ec1, eO1, eH1, em1⟩ := elem_st (H1.seen 0 rfl) i (by omega)
  obtain ⟨ea1, ek1, eg1, rfl, eq1, eK1, eo2⟩ := own_Drive eO1
  have eP1 := H1.look1 0 rfl eo2 (fun b hb => eH1 b (by rw [eq1]; simp [hb]))
  have eL1 := oL eo2
  refine W_reg (sM rfl rfl (sM rfl rfl (sV rfl (py_elz tu142 ts180 rfl rfl ee1 i (by omega) (by omega)) (sV rfl (py_field tu180 rfl ts4 rfl rfl) (sV rfl (py_load tu4 rfl rfl (at_cell ec1 0 rfl)) (sM rfl rfl (sV rfl (py_rem rfl rfl (by omega)) (sV rfl (py_eql rfl rfl) (sV rfl (py_bneq tu4 rfl rfl) (s_nil (W_if rfl (fun c2 => ?_) (fun c2 => ?_))))))))))))
  ·exfalso; rw [hm1] at c2; simp at c2
  ·refine W_skip (W_sr (sM rfl rfl (sV rfl (py_add rfl rfl (in64 ⟨by omega, by omega⟩)) (sA rfl rfl (s_nil (W_seq ?_))))))
   obtain ⟨eb2, eo3, es2, ef2, ee2, ec2, eO2, eH2, em2⟩ := elem_st (eP1.seen 0 rfl) i (by omega)
   obtain ⟨ea2, ek2, eg2, rfl, eq2, eK2, eo4⟩ := own_Drive eO2
   have eP2 := eP1.look1 0 rfl eo4 (fun b hb => eH2 b (by rw [eq2]; simp [hb]))
   have eL2 := oL eo4
   refine W_reg (sM rfl rfl (sM rfl rfl (sV rfl (py_elz tu142 ts180 rfl rfl ee2 i (by omega) (by omega)) (sV rfl (py_field tu180 rfl ts178 rfl rfl) (sV rfl (py_load tu178 rfl rfl (at_cell ec2 1 rfl)) (sM rfl rfl (s_call (wn rfl) rfl rfl (pc_call Tryz.func335 rfl Tryz_nm335 rfl) (Tryz_laws_heldBlockS (eP2.sees 2 rfl) (by constructor <;> omega) (by assumption)) (fun v1 w2 r1 => ?_))))))))
   obtain ⟨e1, rfl⟩ := r1
   have H2 := eP2.to e1
   refine sA rfl rfl (s_nil (W_sr (sM rfl rfl (sV rfl (py_lss rfl rfl) (s_nil (W_ifd rfl (fun c3 => ?_) (fun c3 => ?_)))))))
   ·exact absurd c3 (by omega)
   ·refine W_skip (W_reg (sM rfl rfl (sV rfl (py_add rfl rfl (in64 ⟨by omega, by omega⟩)) (sA rfl rfl (s_nil (⟨i + 1, ⟨eqI (by omega), rfl, rfl, trivial⟩, ⟨(H2.ftake 1), by omega, trivial⟩, by dsimp only; omega⟩))))))
 ·refine W_exit (W_sr (sM rfl rfl (sA rfl rfl (s_nil (rT hQ Tryz.results292 rfl ?_)))))
  obtain rfl : i = xs.length := by omega
  exact ⟨H1.ext, rfl⟩
theorem Tryz_laws_heldDriveSS {w : World} {xs : List (List Drive)} {xsA : Option Addr} {xsC : Nat} {k : Int} (xsS : Sees w [.slice xsA xs.length xsC] xs) (hk : 0 ≤ k ∧ k + mkL (mkL mkDrive) xs ≤ 4611686018427387904) (hm : MkL (MkL MkDrive mkDrive) (mkL mkDrive) xs k) : Ret Tryz.prog 212 #[.slice xsA xs.length xsC, .int .i64 k] w fun v w' => Ext No w w' ∧ (v = .int .i64 (k + mkL (mkL mkDrive) xs)) := by
 have xsL := sL xsS
 obtain ⟨xsF, xsO⟩ := xsS
 refine ret_Q (vs := [.slice xsA xs.length xsC, .int .i64 k]) Tryz.func212 rfl Tryz.ntmps212 rfl (fun Q hQ hN => ?_)
 have H0 := Sep.start (w := w) (F := [seen false [.slice xsA xs.length xsC] xs xsF]) (all_cons xsO (by simp))
 refine W_sr (sA rfl rfl (s_nil (W_seq (W_sr (sA rfl rfl (s_nil (W_block (W_loopS (γ := Nat) H0 [(0, _)] ⟨rfl, trivial⟩ (fun i => [(1, .int .i64 (k + sumN (fun i => (mkL mkDrive) (xs.getD i default)) i)), (5, .int .i64 i)]) (fun i => i ≤ xs.length ∧ True) (fun i => xs.length - i) 0 ⟨eqI (by simp [sumN]), rfl, trivial⟩ ⟨by omega, trivial⟩ (fun i w1 H1 ⟨hi, _⟩ => ?_)))))))))
 dsimp only [lCA, lNA]
 refine W_seq (W_sr (sM rfl rfl (sM rfl rfl (sV rfl (py_len tu35 rfl) (sV rfl (py_lss rfl rfl) (s_nil (W_ifd rfl (fun c1 => ?_) (fun c1 => ?_))))))))
 ·refine W_skip (W_seq (W_block (W_seq ?_)))
  have hmi := hm i (by omega)
  obtain ⟨sg, sl⟩ := mkL_at (c := (mkL mkDrive)) (xs := xs) (i := i) (by omega)
  have hcu : mkL mkDrive (xs.getD i default) = mkL mkDrive (xs.getD i []) := rfl
  have hm2 : MkL MkDrive mkDrive (xs.getD i []) ((k + sumN (fun i => (mkL mkDrive) (xs.getD i default)) i)) := hmi
  obtain ⟨eb1, eo1, ea1, ek1, ef1, ee1, ec1, eO1, eH1⟩ := elem_sl (H1.seen 0 rfl) i (by omega)
  have eP1 := H1.look1 0 rfl eO1 eH1
  refine W_reg (sM rfl rfl (sM rfl rfl (sV rfl (py_elz tu35 ts142 rfl rfl ee1 i (by omega) (by omega)) (sV rfl (py_load tu142 rfl rfl ec1) (sM rfl rfl (s_call (wn rfl) rfl rfl (pc_call Tryz.func292 rfl Tryz_nm292 rfl) (Tryz_laws_heldDriveS (eP1.sees 1 rfl) (by constructor <;> omega) (by assumption)) (fun v1 w2 r1 => ?_)))))))
  obtain ⟨e1, rfl⟩ := r1
  have H2 := eP1.to e1
  refine sA rfl rfl (s_nil (W_sr (sM rfl rfl (sV rfl (py_lss rfl rfl) (s_nil (W_ifd rfl (fun c2 => ?_) (fun c2 => ?_)))))))
  ·exact absurd c2 (by omega)
  ·refine W_skip (W_reg (sM rfl rfl (sV rfl (py_add rfl rfl (in64 ⟨by omega, by omega⟩)) (sA rfl rfl (s_nil (⟨i + 1, ⟨eqI (by omega), rfl, rfl, trivial⟩, ⟨(H2.ftake 1), by omega, trivial⟩, by dsimp only; omega⟩))))))
 ·refine W_exit (W_sr (sM rfl rfl (sA rfl rfl (s_nil (rT hQ Tryz.results212 rfl ?_)))))
  obtain rfl : i = xs.length := by omega
  exact ⟨H1.ext, rfl⟩
set_option maxHeartbeats 1000000 in
theorem Tryz_laws_heldRecS {w : World} {xs : List Rec} {xsA : Option Addr} {xsC : Nat} {k : Int} (xsS : Sees w [.slice xsA xs.length xsC] xs) (hk : 0 ≤ k ∧ k + mkL mkRec xs ≤ 4611686018427387904) (hm : MkL MkRec mkRec xs k) : Ret Tryz.prog 84 #[.slice xsA xs.length xsC, .int .i64 k] w fun v w' => Ext No w w' ∧ (v = .int .i64 (k + mkL mkRec xs)) := by
 have xsL := sL xsS
 obtain ⟨xsF, xsO⟩ := xsS
 refine ret_Q (vs := [.slice xsA xs.length xsC, .int .i64 k]) Tryz.func84 rfl Tryz.ntmps84 rfl (fun Q hQ hN => ?_)
 have H0 := Sep.start (w := w) (F := [seen false [.slice xsA xs.length xsC] xs xsF]) (all_cons xsO (by simp))
 refine W_sr (sA rfl rfl (s_nil (W_seq (W_sr (sA rfl rfl (s_nil (W_block (W_loopS (γ := Nat) H0 [(0, _)] ⟨rfl, trivial⟩ (fun i => [(1, .int .i64 (k + sumN (fun i => mkRec (xs.getD i default)) i)), (5, .int .i64 i)]) (fun i => i ≤ xs.length ∧ True) (fun i => xs.length - i) 0 ⟨eqI (by simp [sumN]), rfl, trivial⟩ ⟨by omega, trivial⟩ (fun i w1 H1 ⟨hi, _⟩ => ?_)))))))))
 dsimp only [lCA, lNA]
 refine W_seq (W_sr (sM rfl rfl (sM rfl rfl (sV rfl (py_len tu30 rfl) (sV rfl (py_lss rfl rfl) (s_nil (W_ifd rfl (fun c1 => ?_) (fun c1 => ?_))))))))
 ·refine W_skip (W_seq (W_block (W_seq (W_seq ?_))))
  have hmi := hm i (by omega)
  obtain ⟨sg, sl⟩ := mkL_at (c := mkRec) (xs := xs) (i := i) (by omega)
  have hcu : mkRec (xs.getD i default) = 6 + (xs.getD i default).Rows.length + (xs.getD i default).Data.length + (xs.getD i default).Delta.length := rfl
  obtain ⟨m1, m2, m3, m4, m5, m6, m7, m8, m9⟩ := hmi
  have n3 : (xs.getD i default).Name = mText ((k + sumN (fun i => mkRec (xs.getD i default)) i) + 1 + 1) := by rw [m3]; congr 1; omega
  have n7 : MarkI (xs.getD i default).Rows ((k + sumN (fun i => mkRec (xs.getD i default)) i) + 1 + 1 + 1 + 1 + 1 + 1) := by rwa [show (k + sumN (fun i => mkRec (xs.getD i default)) i) + 1 + 1 + 1 + 1 + 1 + 1 = (k + sumN (fun i => mkRec (xs.getD i default)) i) + 6 by omega]
  have n8 : MarkB (xs.getD i default).Data ((k + sumN (fun i => mkRec (xs.getD i default)) i) + 1 + 1 + 1 + 1 + 1 + 1 + (xs.getD i default).Rows.length) := by rwa [show (k + sumN (fun i => mkRec (xs.getD i default)) i) + 1 + 1 + 1 + 1 + 1 + 1 = (k + sumN (fun i => mkRec (xs.getD i default)) i) + 6 by omega]
  have n9 : MarkB (xs.getD i default).Delta ((k + sumN (fun i => mkRec (xs.getD i default)) i) + 1 + 1 + 1 + 1 + 1 + 1 + (xs.getD i default).Rows.length + (xs.getD i default).Data.length) := by rwa [show (k + sumN (fun i => mkRec (xs.getD i default)) i) + 1 + 1 + 1 + 1 + 1 + 1 = (k + sumN (fun i => mkRec (xs.getD i default)) i) + 6 by omega]
  obtain ⟨eb1, eo1, es1, ef1, ee1, ec1, eO1, eH1, em1⟩ := elem_st (H1.seen 0 rfl) i (by omega)
  obtain ⟨ea1, ek1, ea2, ek2, ea3, ek3, eg1, eg2, eg3, rfl, eq1, eK1, eo2, eo3, eo4⟩ := own_Rec eO1
  have eK1U := eK1
  unfold Rec.Ok at eK1U
  try unfold I64ok at eK1U
  try unfold maxLen at eK1U
  refine W_reg (sM rfl rfl (sM rfl rfl (sV rfl (py_elz tu30 ts68 rfl rfl ee1 i (by omega) (by omega)) (sV rfl (py_field tu68 rfl ts2 rfl rfl) (sV rfl (py_load tu2 rfl rfl (at_cell ec1 0 rfl)) (sM rfl rfl (sV rfl (py_neq rfl rfl) (s_nil (W_ifd rfl (fun c2 => ?_) (fun c2 => ?_))))))))))
  ·exact absurd c2 (by omega)
  ·refine W_skip (W_sr (sM rfl rfl (sV rfl (py_add rfl rfl (in64 ⟨by omega, by omega⟩)) (sA rfl rfl (s_nil (W_seq (W_seq ?_)))))))
   obtain ⟨eb2, eo5, es2, ef2, ee2, ec2, eO2, eH2, em2⟩ := elem_st (H1.seen 0 rfl) i (by omega)
   obtain ⟨ea4, ek4, ea5, ek5, ea6, ek6, eg4, eg5, eg6, rfl, eq2, eK2, eo6, eo7, eo8⟩ := own_Rec eO2
   have eK2U := eK2
   unfold Rec.Ok at eK2U
   try unfold I64ok at eK2U
   try unfold maxLen at eK2U
   refine W_reg (sM rfl rfl (sM rfl rfl (sV rfl (py_elz tu30 ts68 rfl rfl ee2 i (by omega) (by omega)) (sV rfl (py_field tu68 rfl ts2 rfl rfl) (sV rfl (py_load tu2 rfl rfl (at_cell ec2 1 rfl)) (sM rfl rfl (sV rfl (py_neq rfl rfl) (s_nil (W_ifd rfl (fun c3 => ?_) (fun c3 => ?_))))))))))
   ·exact absurd c3 (by omega)
   ·refine W_skip (W_sr (sM rfl rfl (sV rfl (py_add rfl rfl (in64 ⟨by omega, by omega⟩)) (sA rfl rfl (s_nil (W_seq (W_seq ?_)))))))
    obtain ⟨eb3, eo9, es3, ef3, ee3, ec3, eO3, eH3, em3⟩ := elem_st (H1.seen 0 rfl) i (by omega)
    obtain ⟨ea7, ek7, ea8, ek8, ea9, ek9, eg7, eg8, eg9, rfl, eq3, eK3, eo10, eo11, eo12⟩ := own_Rec eO3
    have eK3U := eK3
    unfold Rec.Ok at eK3U
    try unfold I64ok at eK3U
    try unfold maxLen at eK3U
    refine W_drw (S := Ext No _) [(0, true), (1, true), (2, true), (3, true), (4, true), (5, true), (6, false), (7, false)] (by kernel_rfl) (by kernel_rfl) (by kernel_rfl) rfl (fun _ => Ext.refl.drawn _) (fun q1 => ?_)
    have H2 := H1.drawn q1
    refine dM rfl rfl rfl (dM rfl rfl rfl (dV rfl rfl (fun zw hx => py_elz tu30 ts68 rfl rfl ee3 i (by omega) (by omega)) (dV rfl rfl (fun zw hx => py_field tu68 rfl ts9 rfl rfl) (dV rfl rfl (fun zw hx => py_load tu9 rfl rfl (at_cell (hx.at ec3) 2 rfl)) (dM rfl rfl rfl (d_call rfl (wn rfl) rfl rfl (pc_call Tryz.func155 rfl Tryz_nm155 rfl) (Tryz_laws_markText (by omega)) (fun hS _ _ r _ => hS.trans r.1.no) (fun v1 w2 r1 => ?_)))))))
    obtain ⟨e1, rfl, mt1⟩ := r1
    have H3 := H2.to e1
    refine d_end rfl (wn rfl) rfl rfl (py_sneq rfl rfl) (d_nil (W_if rfl (fun c4 => ?_) (fun c4 => ?_)))
    ·exfalso; rw [n3] at c4; simp at c4
    ·refine W_skip (W_sr (sM rfl rfl (sV rfl (py_add rfl rfl (in64 ⟨by omega, by omega⟩)) (sA rfl rfl (s_nil (W_seq (W_seq ?_)))))))
     obtain ⟨eb4, eo13, es4, ef4, ee4, ec4, eO4, eH4, em4⟩ := elem_st (H3.seen 0 rfl) i (by omega)
     obtain ⟨ea10, ek10, ea11, ek11, ea12, ek12, eg10, eg11, eg12, rfl, eq4, eK4, eo14, eo15, eo16⟩ := own_Rec eO4
     have eK4U := eK4
     unfold Rec.Ok at eK4U
     try unfold I64ok at eK4U
     try unfold maxLen at eK4U
     refine W_reg (sM rfl rfl (sM rfl rfl (sV rfl (py_elz tu30 ts68 rfl rfl ee4 i (by omega) (by omega)) (sV rfl (py_field tu68 rfl ts2 rfl rfl) (sV rfl (py_load tu2 rfl rfl (at_cell ec4 3 rfl)) (sM rfl rfl (sV rfl (py_neq rfl rfl) (s_nil (W_ifd rfl (fun c5 => ?_) (fun c5 => ?_))))))))))
     ·exact absurd c5 (by omega)
     ·refine W_skip (W_sr (sM rfl rfl (sV rfl (py_add rfl rfl (in64 ⟨by omega, by omega⟩)) (sA rfl rfl (s_nil (W_seq (W_seq ?_)))))))
      obtain ⟨eb5, eo17, es5, ef5, ee5, ec5, eO5, eH5, em5⟩ := elem_st (H3.seen 0 rfl) i (by omega)
      obtain ⟨ea13, ek13, ea14, ek14, ea15, ek15, eg13, eg14, eg15, rfl, eq5, eK5, eo18, eo19, eo20⟩ := own_Rec eO5
      have eK5U := eK5
      unfold Rec.Ok at eK5U
      try unfold I64ok at eK5U
      try unfold maxLen at eK5U
      refine W_reg (sM rfl rfl (sM rfl rfl (sV rfl (py_elz tu30 ts68 rfl rfl ee5 i (by omega) (by omega)) (sV rfl (py_field tu68 rfl ts2 rfl rfl) (sV rfl (py_load tu2 rfl rfl (at_cell ec5 4 rfl)) (sM rfl rfl (sV rfl (py_neq rfl rfl) (s_nil (W_ifd rfl (fun c6 => ?_) (fun c6 => ?_))))))))))
      ·exact absurd c6 (by omega)
      ·refine W_skip (W_sr (sM rfl rfl (sV rfl (py_add rfl rfl (in64 ⟨by omega, by omega⟩)) (sA rfl rfl (s_nil (W_seq (W_seq ?_)))))))
       obtain ⟨eb6, eo21, es6, ef6, ee6, ec6, eO6, eH6, em6⟩ := elem_st (H3.seen 0 rfl) i (by omega)
       obtain ⟨ea16, ek16, ea17, ek17, ea18, ek18, eg16, eg17, eg18, rfl, eq6, eK6, eo22, eo23, eo24⟩ := own_Rec eO6
       have eK6U := eK6
       unfold Rec.Ok at eK6U
       try unfold I64ok at eK6U
       try unfold maxLen at eK6U
       refine W_reg (sM rfl rfl (sM rfl rfl (sV rfl (py_elz tu30 ts68 rfl rfl ee6 i (by omega) (by omega)) (sV rfl (py_field tu68 rfl ts2 rfl rfl) (sV rfl (py_load tu2 rfl rfl (at_cell ec6 5 rfl)) (sM rfl rfl (sV rfl (py_neq rfl rfl) (s_nil (W_ifd rfl (fun c7 => ?_) (fun c7 => ?_))))))))))
       ·exact absurd c7 (by omega)
       ·refine W_skip (W_sr (sM rfl rfl (sV rfl (py_add rfl rfl (in64 ⟨by omega, by omega⟩)) (sA rfl rfl (s_nil (W_seq ?_))))))
        obtain ⟨eb7, eo25, es7, ef7, ee7, ec7, eO7, eH7, em7⟩ := elem_st (H3.seen 0 rfl) i (by omega)
        obtain ⟨ea19, ek19, ea20, ek20, ea21, ek21, eg19, eg20, eg21, rfl, eq7, eK7, eo26, eo27, eo28⟩ := own_Rec eO7
        have eK7U := eK7
        unfold Rec.Ok at eK7U
        try unfold I64ok at eK7U
        try unfold maxLen at eK7U
        have eP1 := H3.look1 0 rfl eo26 (fun b hb => eH7 b (by rw [eq7]; simp [hb]))
        have eL1 := oL eo26
        refine W_reg (sM rfl rfl (sM rfl rfl (sV rfl (py_elz tu30 ts68 rfl rfl ee7 i (by omega) (by omega)) (sV rfl (py_field tu68 rfl ts25 rfl rfl) (sV rfl (py_load tu25 rfl rfl (at_cell ec7 6 rfl)) (sM rfl rfl (s_call (wn rfl) rfl rfl (pc_call Tryz.func92 rfl Tryz_nm92 rfl) (Tryz_laws_heldInt64S (eP1.sees 1 rfl) (by constructor <;> omega) (by assumption)) (fun v2 w3 r2 => ?_))))))))
        obtain ⟨e2, rfl⟩ := r2
        have H4 := eP1.to e2
        refine sA rfl rfl (s_nil (W_seq (W_sr (sM rfl rfl (sV rfl (py_lss rfl rfl) (s_nil (W_ifd rfl (fun c8 => ?_) (fun c8 => ?_))))))))
        ·exact absurd c8 (by omega)
        ·refine W_skip (W_seq ?_)
         obtain ⟨eb8, eo29, es8, ef8, ee8, ec8, eO8, eH8, em8⟩ := elem_st (H4.seen 0 rfl) i (by omega)
         obtain ⟨ea22, ek22, ea23, ek23, ea24, ek24, eg22, eg23, eg24, rfl, eq8, eK8, eo30, eo31, eo32⟩ := own_Rec eO8
         have eK8U := eK8
         unfold Rec.Ok at eK8U
         try unfold I64ok at eK8U
         try unfold maxLen at eK8U
         have eP2 := H4.look1 0 rfl eo31 (fun b hb => eH8 b (by rw [eq8]; simp [hb]))
         have eL2 := oL eo31
         refine W_reg (sM rfl rfl (sM rfl rfl (sV rfl (py_elz tu30 ts68 rfl rfl ee8 i (by omega) (by omega)) (sV rfl (py_field tu68 rfl ts45 rfl rfl) (sV rfl (py_load tu45 rfl rfl (at_cell ec8 7 rfl)) (sM rfl rfl (s_call (wn rfl) rfl rfl (pc_call Tryz.func89 rfl Tryz_nm89 rfl) (Tryz_laws_heldByteS (eP2.sees 2 rfl) (by constructor <;> omega) (by assumption)) (fun v3 w4 r3 => ?_))))))))
         obtain ⟨e3, rfl⟩ := r3
         have H5 := eP2.to e3
         refine sA rfl rfl (s_nil (W_seq (W_sr (sM rfl rfl (sV rfl (py_lss rfl rfl) (s_nil (W_ifd rfl (fun c9 => ?_) (fun c9 => ?_))))))))
         ·exact absurd c9 (by omega)
         ·refine W_skip (W_seq ?_)
          obtain ⟨eb9, eo33, es9, ef9, ee9, ec9, eO9, eH9, em9⟩ := elem_st (H5.seen 0 rfl) i (by omega)
          obtain ⟨ea25, ek25, ea26, ek26, ea27, ek27, eg25, eg26, eg27, rfl, eq9, eK9, eo34, eo35, eo36⟩ := own_Rec eO9
          have eK9U := eK9
          unfold Rec.Ok at eK9U
          try unfold I64ok at eK9U
          try unfold maxLen at eK9U
          have eP3 := H5.look1 0 rfl eo36 (fun b hb => eH9 b (by rw [eq9]; simp [hb]))
          have eL3 := oL eo36
          refine W_reg (sM rfl rfl (sM rfl rfl (sV rfl (py_elz tu30 ts68 rfl rfl ee9 i (by omega) (by omega)) (sV rfl (py_field tu68 rfl ts45 rfl rfl) (sV rfl (py_load tu45 rfl rfl (at_cell ec9 8 rfl)) (sM rfl rfl (s_call (wn rfl) rfl rfl (pc_call Tryz.func89 rfl Tryz_nm89 rfl) (Tryz_laws_heldByteS (eP3.sees 3 rfl) (by constructor <;> omega) (by assumption)) (fun v4 w5 r4 => ?_))))))))
          obtain ⟨e4, rfl⟩ := r4
          have H6 := eP3.to e4
          refine sA rfl rfl (s_nil (W_sr (sM rfl rfl (sV rfl (py_lss rfl rfl) (s_nil (W_ifd rfl (fun c10 => ?_) (fun c10 => ?_)))))))
          ·exact absurd c10 (by omega)
          ·refine W_skip (W_reg (sM rfl rfl (sV rfl (py_add rfl rfl (in64 ⟨by omega, by omega⟩)) (sA rfl rfl (s_nil (⟨i + 1, ⟨eqI (by omega), rfl, rfl, trivial⟩, ⟨(H6.ftake 1), by omega, trivial⟩, by dsimp only; omega⟩))))))
 ·refine W_exit (W_sr (sM rfl rfl (sA rfl rfl (s_nil (rT hQ Tryz.results84 rfl ?_)))))
  obtain rfl : i = xs.length := by omega
  exact ⟨H1.ext, rfl⟩
theorem Tryz_laws_heldTapeS {w : World} {xs : List Tape} {xsA : Option Addr} {xsC : Nat} {k : Int} (xsS : Sees w [.slice xsA xs.length xsC] xs) (hk : 0 ≤ k ∧ k + mkL mkTape xs ≤ 4611686018427387904) (hm : MkL MkTape mkTape xs k) : Ret Tryz.prog 213 #[.slice xsA xs.length xsC, .int .i64 k] w fun v w' => Ext No w w' ∧ (v = .int .i64 (k + mkL mkTape xs)) := by
 have xsL := sL xsS
 obtain ⟨xsF, xsO⟩ := xsS
 refine ret_Q (vs := [.slice xsA xs.length xsC, .int .i64 k]) Tryz.func213 rfl Tryz.ntmps213 rfl (fun Q hQ hN => ?_)
 have H0 := Sep.start (w := w) (F := [seen false [.slice xsA xs.length xsC] xs xsF]) (all_cons xsO (by simp))
 refine W_sr (sA rfl rfl (s_nil (W_seq (W_sr (sA rfl rfl (s_nil (W_block (W_loopS (γ := Nat) H0 [(0, _)] ⟨rfl, trivial⟩ (fun i => [(1, .int .i64 (k + sumN (fun i => mkTape (xs.getD i default)) i)), (5, .int .i64 i)]) (fun i => i ≤ xs.length ∧ True) (fun i => xs.length - i) 0 ⟨eqI (by simp [sumN]), rfl, trivial⟩ ⟨by omega, trivial⟩ (fun i w1 H1 ⟨hi, _⟩ => ?_)))))))))
 dsimp only [lCA, lNA]
 refine W_seq (W_sr (sM rfl rfl (sM rfl rfl (sV rfl (py_len tu36 rfl) (sV rfl (py_lss rfl rfl) (s_nil (W_ifd rfl (fun c1 => ?_) (fun c1 => ?_))))))))
 ·refine W_skip (W_seq (W_block (W_seq (W_seq ?_))))
  have hmi := hm i (by omega)
  obtain ⟨sg, sl⟩ := mkL_at (c := mkTape) (xs := xs) (i := i) (by omega)
  have hcu : mkTape (xs.getD i default) = 1 + mkL mkRec (xs.getD i default).Recs := rfl
  obtain ⟨hm1, hm2⟩ := hmi
  obtain ⟨eb1, eo1, es1, ef1, ee1, ec1, eO1, eH1, em1⟩ := elem_st (H1.seen 0 rfl) i (by omega)
  obtain ⟨ea1, ek1, eg1, rfl, eq1, eK1, eo2⟩ := own_Tape eO1
  have eP1 := H1.look1 0 rfl eo2 (fun b hb => eH1 b (by rw [eq1]; simp [hb]))
  have eL1 := oL eo2
  refine W_reg (sM rfl rfl (sM rfl rfl (sV rfl (py_elz tu36 ts139 rfl rfl ee1 i (by omega) (by omega)) (sV rfl (py_field tu139 rfl ts4 rfl rfl) (sV rfl (py_load tu4 rfl rfl (at_cell ec1 0 rfl)) (sM rfl rfl (sV rfl (py_rem rfl rfl (by omega)) (sV rfl (py_eql rfl rfl) (sV rfl (py_bneq tu4 rfl rfl) (s_nil (W_if rfl (fun c2 => ?_) (fun c2 => ?_))))))))))))
  ·exfalso; rw [hm1] at c2; simp at c2
  ·refine W_skip (W_sr (sM rfl rfl (sV rfl (py_add rfl rfl (in64 ⟨by omega, by omega⟩)) (sA rfl rfl (s_nil (W_seq ?_))))))
   obtain ⟨eb2, eo3, es2, ef2, ee2, ec2, eO2, eH2, em2⟩ := elem_st (eP1.seen 0 rfl) i (by omega)
   obtain ⟨ea2, ek2, eg2, rfl, eq2, eK2, eo4⟩ := own_Tape eO2
   have eP2 := eP1.look1 0 rfl eo4 (fun b hb => eH2 b (by rw [eq2]; simp [hb]))
   have eL2 := oL eo4
   refine W_reg (sM rfl rfl (sM rfl rfl (sV rfl (py_elz tu36 ts139 rfl rfl ee2 i (by omega) (by omega)) (sV rfl (py_field tu139 rfl ts30 rfl rfl) (sV rfl (py_load tu30 rfl rfl (at_cell ec2 1 rfl)) (sM rfl rfl (s_call (wn rfl) rfl rfl (pc_call Tryz.func84 rfl Tryz_nm84 rfl) (Tryz_laws_heldRecS (eP2.sees 2 rfl) (by constructor <;> omega) (by assumption)) (fun v1 w2 r1 => ?_))))))))
   obtain ⟨e1, rfl⟩ := r1
   have H2 := eP2.to e1
   refine sA rfl rfl (s_nil (W_sr (sM rfl rfl (sV rfl (py_lss rfl rfl) (s_nil (W_ifd rfl (fun c3 => ?_) (fun c3 => ?_)))))))
   ·exact absurd c3 (by omega)
   ·refine W_skip (W_reg (sM rfl rfl (sV rfl (py_add rfl rfl (in64 ⟨by omega, by omega⟩)) (sA rfl rfl (s_nil (⟨i + 1, ⟨eqI (by omega), rfl, rfl, trivial⟩, ⟨(H2.ftake 1), by omega, trivial⟩, by dsimp only; omega⟩))))))
 ·refine W_exit (W_sr (sM rfl rfl (sA rfl rfl (s_nil (rT hQ Tryz.results213 rfl ?_)))))
  obtain rfl : i = xs.length := by omega
  exact ⟨H1.ext, rfl⟩
theorem Tryz_laws_heldWorld {w : World} {x : Wld} {s0 s1 s2 s3 s4 s5 s6 s7 s8 wr sp k : Int} {dn : Bool} {A9 A10 A11 : Option Addr} {n9 C9 n10 C10 n11 C11 : Nat} (e9 : Sees w [.slice A9 n9 C9] x.Groups) (e10 : Sees w [.slice A10 n10 C10] x.On) (e11 : Sees w [.slice A11 n11 C11] x.Tapes) (hk : 0 ≤ k ∧ k + mkWld x ≤ 4611686018427387904) (hm : MkWld x k) : Ret Tryz.prog 124 #[.agg #[.int .i64 s0, .int .i64 s1, .int .i64 s2, .int .i64 s3, .int .i64 s4, .int .i64 s5, .int .i64 s6, .int .i64 s7, .int .i64 s8, .slice A9 n9 C9, .slice A10 n10 C10, .slice A11 n11 C11, .int .i64 wr, .int .i64 sp, .bool dn], .int .i64 k] w fun v w' => Ext No w w' ∧ (v = .int .i64 (k + mkWld x)) := by
 obtain ⟨f9, o9⟩ := e9
 obtain rfl := own_n o9
 obtain ⟨f10, o10⟩ := e10
 obtain rfl := own_n o10
 obtain ⟨f11, o11⟩ := e11
 obtain rfl := own_n o11
 have hcu : mkWld x = mkL (mkL mkDrive) x.Groups + x.On.length + mkL mkTape x.Tapes := rfl
 obtain ⟨m1, m2, m3⟩ := hm
 refine ret_Q (vs := [.agg #[.int .i64 s0, .int .i64 s1, .int .i64 s2, .int .i64 s3, .int .i64 s4, .int .i64 s5, .int .i64 s6, .int .i64 s7, .int .i64 s8, .slice A9 x.Groups.length C9, .slice A10 x.On.length C10, .slice A11 x.Tapes.length C11, .int .i64 wr, .int .i64 sp, .bool dn], .int .i64 k]) Tryz.func124 rfl Tryz.ntmps124 rfl (fun Q hQ hN => ?_)
 have H0 := Sep.start (w := w) (F := [seen false [.slice A9 x.Groups.length C9] x.Groups f9, seen false [.slice A10 x.On.length C10] x.On f10, seen false [.slice A11 x.Tapes.length C11] x.Tapes f11]) (all_cons o9 (all_cons o10 (all_cons o11 (by simp))))
 refine W_sr (s_box (wn rfl) rfl rfl H0 (fun b1 w1 e1 g1 H1 => ?_))
 refine sA rfl rfl (s_nil (W_sr (sV rfl (py_field tu38 rfl ts35 rfl rfl) (sV rfl (py_load tu35 rfl rfl (cell_atL (H1.box 0 rfl) rfl)) (sM rfl rfl (s_call (wn rfl) rfl rfl (pc_call Tryz.func212 rfl Tryz_nm212 rfl) (Tryz_laws_heldDriveSS (H1.sees 0 rfl) (by constructor <;> omega) (by assumption)) (fun v1 w2 r1 => ?_)))))))
 obtain ⟨e2, rfl⟩ := r1
 have H2 := H1.to e2
 refine sA rfl rfl (s_nil (W_seq (W_sr (sM rfl rfl (sV rfl (py_lss rfl rfl) (s_nil (W_ifd rfl (fun c1 => ?_) (fun c1 => ?_))))))))
 ·exact absurd c1 (by omega)
 ·refine W_skip (W_sr (sV rfl (py_field tu38 rfl ts25 rfl rfl) (sV rfl (py_load tu25 rfl rfl (cell_atL (H2.box 0 rfl) rfl)) (sM rfl rfl (s_call (wn rfl) rfl rfl (pc_call Tryz.func92 rfl Tryz_nm92 rfl) (Tryz_laws_heldInt64S (H2.sees 1 rfl) (by constructor <;> omega) (by assumption)) (fun v2 w3 r2 => ?_))))))
  obtain ⟨e3, rfl⟩ := r2
  have H3 := H2.to e3
  refine sA rfl rfl (s_nil (W_seq (W_sr (sM rfl rfl (sV rfl (py_lss rfl rfl) (s_nil (W_ifd rfl (fun c2 => ?_) (fun c2 => ?_))))))))
  ·exact absurd c2 (by omega)
  ·refine W_skip (W_sr (sV rfl (py_field tu38 rfl ts36 rfl rfl) (sV rfl (py_load tu36 rfl rfl (cell_atL (H3.box 0 rfl) rfl)) (sM rfl rfl (s_call (wn rfl) rfl rfl (pc_call Tryz.func213 rfl Tryz_nm213 rfl) (Tryz_laws_heldTapeS (H3.sees 2 rfl) (by constructor <;> omega) (by assumption)) (fun v3 w4 r3 => ?_))))))
   obtain ⟨e4, rfl⟩ := r3
   have H4 := H3.to e4
   refine sA rfl rfl (s_nil (W_seq (W_sr (sM rfl rfl (sV rfl (py_lss rfl rfl) (s_nil (W_ifd rfl (fun c3 => ?_) (fun c3 => ?_))))))))
   ·exact absurd c3 (by omega)
   ·refine W_skip (W_sr (sM rfl rfl (sA rfl rfl (s_nil (rT hQ Tryz.results124 rfl ?_)))))
    exact ⟨H4.ext, congrArg (Value.int .i64) (by omega)⟩
theorem Tryz_laws_heldWorldResult {w : World} {x : Wld} {c s0 s1 s2 s3 s4 s5 s6 s7 s8 wr sp k : Int} {dn : Bool} {A9 A10 A11 : Option Addr} {n9 C9 n10 C10 n11 C11 : Nat} (e9 : Sees w [.slice A9 n9 C9] x.Groups) (e10 : Sees w [.slice A10 n10 C10] x.On) (e11 : Sees w [.slice A11 n11 C11] x.Tapes) (hk : 0 ≤ k ∧ k + mkWld x ≤ 4611686018427387904) (hm : MkWld x k) : Ret Tryz.prog 50 #[.agg #[.int .i64 c, .int .i64 s0, .int .i64 s1, .int .i64 s2, .int .i64 s3, .int .i64 s4, .int .i64 s5, .int .i64 s6, .int .i64 s7, .int .i64 s8, .slice A9 n9 C9, .slice A10 n10 C10, .slice A11 n11 C11, .int .i64 wr, .int .i64 sp, .bool dn], .int .i64 k] w fun v w' => Ext No w w' ∧ (v = .int .i64 (k + mkWld x)) := by
 obtain ⟨f9, o9⟩ := e9
 obtain rfl := own_n o9
 obtain ⟨f10, o10⟩ := e10
 obtain rfl := own_n o10
 obtain ⟨f11, o11⟩ := e11
 obtain rfl := own_n o11
 skip
 refine ret_Q (vs := [.agg #[.int .i64 c, .int .i64 s0, .int .i64 s1, .int .i64 s2, .int .i64 s3, .int .i64 s4, .int .i64 s5, .int .i64 s6, .int .i64 s7, .int .i64 s8, .slice A9 x.Groups.length C9, .slice A10 x.On.length C10, .slice A11 x.Tapes.length C11, .int .i64 wr, .int .i64 sp, .bool dn], .int .i64 k]) Tryz.func50 rfl Tryz.ntmps50 rfl (fun Q hQ hN => ?_)
 have H0 := Sep.start (w := w) (F := [seen false [.slice A9 x.Groups.length C9] x.Groups f9, seen false [.slice A10 x.On.length C10] x.On f10, seen false [.slice A11 x.Tapes.length C11] x.Tapes f11]) (all_cons o9 (all_cons o10 (all_cons o11 (by simp))))
 refine W_sr (s_box (wn rfl) rfl rfl H0 (fun b1 w1 e1 g1 H1 => ?_))
 refine sA rfl rfl (s_nil (W_sr (sV rfl (py_field tu66 rfl ts38 rfl rfl) (sV rfl (py_loadS tu38 rfl ts38 rfl rfl (At.sub (H1.box 0 rfl) 15)) (sM rfl rfl (s_call (wn rfl) rfl rfl (pc_call Tryz.func124 rfl Tryz_nm124 rfl) (Tryz_laws_heldWorld (H1.sees 0 rfl) (H1.sees 1 rfl) (H1.sees 2 rfl) (by constructor <;> omega) (by assumption)) (fun v1 w2 r1 => ?_)))))))
 obtain ⟨e2, rfl⟩ := r1
 have H2 := H1.to e2
 refine sA rfl rfl (s_nil (W_seq (W_sr (sM rfl rfl (sV rfl (py_lss rfl rfl) (s_nil (W_ifd rfl (fun c1 => ?_) (fun c1 => ?_))))))))
 ·exact absurd c1 (by omega)
 ·refine W_skip (W_sr (sM rfl rfl (sA rfl rfl (s_nil (rT hQ Tryz.results50 rfl ?_)))))
  exact ⟨H2.ext, rfl⟩
theorem Tryz_laws_markRec {w : World} {x : Rec} {xA6 xA7 xA8 : Option Addr} {xC6 xC7 xC8 : Nat} {k : Int} {fp : List Nat} (xK : x.Ok) (o : own true w [.int .i64 x.Kind, .int .i64 x.Seq, .string x.Name, .int .i64 x.Length, .int .i64 x.Group, .int .i64 x.Row, .slice xA6 x.Rows.length xC6, .slice xA7 x.Data.length xC7, .slice xA8 x.Delta.length xC8] x fp) (nd : fp.Nodup) (hk : 0 ≤ k ∧ k + x.Rows.length + x.Data.length + x.Delta.length ≤ 4611686018427387904) : Ret Tryz.prog 48 #[x.val xA6 xC6 xA7 xC7 xA8 xC8, .int .i64 k] w fun v w' => (v = .int .i64 (k + x.Rows.length + x.Data.length + x.Delta.length) ∧ ∃ x' : Rec, Mut w w' fp [.int .i64 x.Kind, .int .i64 x.Seq, .string x.Name, .int .i64 x.Length, .int .i64 x.Group, .int .i64 x.Row, .slice xA6 x.Rows.length xC6, .slice xA7 x.Data.length xC7, .slice xA8 x.Delta.length xC8] x' ∧ True) := by
 refine ret_Q (vs := [x.val xA6 xC6 xA7 xC7 xA8 xC8, .int .i64 k]) Tryz.func48 rfl Tryz.ntmps48 rfl (fun Q hQ hN => ?_)
 obtain ⟨f6, f7, f8, ef, ok, o6, o7, o8⟩ := own_RecC o
 have H0 := (Sep.begin o nd).part 0 rfl [mine [.slice xA6 x.Rows.length xC6] x.Rows f6, mine [.slice xA7 x.Data.length xC7] x.Data f7, mine [.slice xA8 x.Delta.length xC8] x.Delta f8] (all_cons o6 (all_cons o7 (all_cons o8 (by simp)))) (by simp [blocks, mine, ef])
 try dsimp only [lNA, lCA, lSZ, lSS] at H0
 refine W_sr (s_box (wn rfl) rfl rfl H0 (fun b1 w1 e1 g1 H1 => ?_))
 refine sA rfl rfl (s_nil (W_sr (sV rfl (py_field tu68 rfl ts25 rfl rfl) (sV rfl (py_load tu25 rfl rfl (cell_atL (H1.box 4 rfl) rfl)) (sM rfl rfl (s_call (wn rfl) rfl rfl (pc_call Tryz.func81 rfl Tryz_nm81 rfl) (Tryz_laws_markInt64S (H1.mine 1 rfl) (H1.nodup1 (i := 1) rfl) (by constructor <;> omega)) (fun v1 w2 r1 => ?_)))))))
 obtain ⟨rfl, mx1, mm1, ml1, mk1⟩ := r1
 obtain ⟨fp1, H2⟩ := H1.mut 1 rfl mm1
 try dsimp only [lNA, lCA, lSZ, lSS] at H2
 refine sA rfl rfl (s_nil (W_sr (sV rfl (py_field tu68 rfl ts45 rfl rfl) (sV rfl (py_load tu45 rfl rfl (cell_atL (H2.box 4 rfl) rfl)) (sM rfl rfl (s_call (wn rfl) rfl rfl (pc_call Tryz.func88 rfl Tryz_nm88 rfl) (Tryz_laws_markByteS (H2.mine 2 rfl) (H2.nodup1 (i := 2) rfl) (by constructor <;> omega)) (fun v2 w3 r2 => ?_)))))))
 obtain ⟨rfl, mx2, mm2, ml2, mk2⟩ := r2
 obtain ⟨fp2, H3⟩ := H2.mut 2 rfl mm2
 try dsimp only [lNA, lCA, lSZ, lSS] at H3
 refine sA rfl rfl (s_nil (W_sr (sV rfl (py_field tu68 rfl ts45 rfl rfl) (sV rfl (py_load tu45 rfl rfl (cell_atL (H3.box 4 rfl) rfl)) (sM rfl rfl (s_call (wn rfl) rfl rfl (pc_call Tryz.func88 rfl Tryz_nm88 rfl) (Tryz_laws_markByteS (H3.mine 3 rfl) (H3.nodup1 (i := 3) rfl) (by constructor <;> omega)) (fun v3 w4 r3 => ?_)))))))
 obtain ⟨rfl, mx3, mm3, ml3, mk3⟩ := r3
 obtain ⟨fp3, H4⟩ := H3.mut 3 rfl mm3
 try dsimp only [lNA, lCA, lSZ, lSS] at H4
 refine sA rfl rfl (s_nil (W_sr (sM rfl rfl (sA rfl rfl (s_nil (rT hQ Tryz.results48 rfl ?_))))))
 exact ⟨rfl, _, Rec.mutOut ok (H4.dtake 4) ml1 ml2 ml3, trivial⟩
theorem Tryz_laws_markWorldResult {w : World} {y : WldResult} {yA10 yA11 yA12 : Option Addr} {yC10 yC11 yC12 : Nat} {k : Int} {fp : List Nat} (o : own true w [.int .i64 y.Code, .int .i64 y.Wd.Shape.Groups, .int .i64 y.Wd.Shape.Column, .int .i64 y.Wd.Shape.Data, .int .i64 y.Wd.Shape.Spare, .int .i64 y.Wd.Shape.Rows, .int .i64 y.Wd.Shape.Cap, .int .i64 y.Wd.Shape.Batch, .int .i64 y.Wd.Shape.Queue, .int .i64 y.Wd.Shape.Stage, .slice yA10 y.Wd.Groups.length yC10, .slice yA11 y.Wd.On.length yC11, .slice yA12 y.Wd.Tapes.length yC12, .int .i64 y.Wd.Writes, .int .i64 y.Wd.Stop, .bool y.Wd.Down] y fp) (nd : fp.Nodup) (hk : 0 ≤ k ∧ k + mkWld y.Wd ≤ 4611686018427387904) : Ret Tryz.prog 49 #[y.val yA10 yC10 yA11 yC11 yA12 yC12, .int .i64 k] w fun v w' => (v = .int .i64 (k + mkWld y.Wd) ∧ ∃ x' : Wld, Mut w w' fp [.int .i64 y.Code, .int .i64 y.Wd.Shape.Groups, .int .i64 y.Wd.Shape.Column, .int .i64 y.Wd.Shape.Data, .int .i64 y.Wd.Shape.Spare, .int .i64 y.Wd.Shape.Rows, .int .i64 y.Wd.Shape.Cap, .int .i64 y.Wd.Shape.Batch, .int .i64 y.Wd.Shape.Queue, .int .i64 y.Wd.Shape.Stage, .slice yA10 y.Wd.Groups.length yC10, .slice yA11 y.Wd.On.length yC11, .slice yA12 y.Wd.Tapes.length yC12, .int .i64 y.Wd.Writes, .int .i64 y.Wd.Stop, .bool y.Wd.Down] (⟨y.Code, x'⟩ : WldResult) ∧ (x'.Groups.length = y.Wd.Groups.length ∧ x'.On.length = y.Wd.On.length ∧ x'.Tapes.length = y.Wd.Tapes.length ∧ mkWld x' = mkWld y.Wd ∧ MkWld x' k ∧ x'.Shape = y.Wd.Shape ∧ x'.Writes = y.Wd.Writes ∧ x'.Stop = y.Wd.Stop ∧ x'.Down = y.Wd.Down)) := by
 refine ret_Q (vs := [y.val yA10 yC10 yA11 yC11 yA12 yC12, .int .i64 k]) Tryz.func49 rfl Tryz.ntmps49 rfl (fun Q hQ hN => ?_)
 obtain ⟨f10, f11, f12, ef, ok, o10, o11, o12⟩ := own_WldResultC o
 have H0 := (Sep.begin o nd).conv 0 (mine [.int .i64 y.Wd.Shape.Groups, .int .i64 y.Wd.Shape.Column, .int .i64 y.Wd.Shape.Data, .int .i64 y.Wd.Shape.Spare, .int .i64 y.Wd.Shape.Rows, .int .i64 y.Wd.Shape.Cap, .int .i64 y.Wd.Shape.Batch, .int .i64 y.Wd.Shape.Queue, .int .i64 y.Wd.Shape.Stage, .slice yA10 y.Wd.Groups.length yC10, .slice yA11 y.Wd.On.length yC11, .slice yA12 y.Wd.Tapes.length yC12, .int .i64 y.Wd.Writes, .int .i64 y.Wd.Stop, .bool y.Wd.Down] y.Wd (f10 ++ (f11 ++ f12))) rfl (Wld.own_mk ok.2 o10 o11 o12) (fun b hb => by rw [ef]; exact hb) (by rw [← ef]; exact nd)
 try dsimp only [lNA, lCA, lSZ, lSS] at H0
 have okW := ok.2
 refine W_sr (s_box (wn rfl) rfl rfl H0 (fun b1 w1 e1 g1 H1 => ?_))
 refine sA rfl rfl (s_nil (W_sr (sV rfl (py_field tu66 rfl ts38 rfl rfl) (sV rfl (py_loadS tu38 rfl ts38 rfl rfl (At.sub (H1.box 1 rfl) 15)) (sM rfl rfl (s_call (wn rfl) rfl rfl (pc_call Tryz.func21 rfl Tryz_nm21 rfl) (Tryz_laws_markWorld (by assumption) (H1.mine 0 rfl) (H1.nodup1 (i := 0) rfl) (by constructor <;> omega)) (fun v1 w2 r1 => ?_)))))))
 obtain ⟨rfl, mx1, mm1, ml1⟩ := r1
 obtain ⟨fp1, H2⟩ := H1.mut 0 rfl mm1
 try dsimp only [lNA, lCA, lSZ, lSS] at H2
 refine sA rfl rfl (s_nil (W_sr (sM rfl rfl (sA rfl rfl (s_nil (rT hQ Tryz.results49 rfl ?_))))))
 exact ⟨rfl, mx1, WldResult.mutW ok (H2.dtake 1), ml1⟩
theorem Tryz_laws_eqWorldResult {w : World} {a : WldResult} {aA10 aA11 aA12 : Option Addr} {aC10 aC11 aC12 : Nat} {b : WldResult} {bA10 bA11 bA12 : Option Addr} {bC10 bC11 bC12 : Nat} (aK : a.Ok) (aS10 : Sees w [.slice aA10 a.Wd.Groups.length aC10] a.Wd.Groups) (aS11 : Sees w [.slice aA11 a.Wd.On.length aC11] a.Wd.On) (aS12 : Sees w [.slice aA12 a.Wd.Tapes.length aC12] a.Wd.Tapes) (bK : b.Ok) (bS10 : Sees w [.slice bA10 b.Wd.Groups.length bC10] b.Wd.Groups) (bS11 : Sees w [.slice bA11 b.Wd.On.length bC11] b.Wd.On) (bS12 : Sees w [.slice bA12 b.Wd.Tapes.length bC12] b.Wd.Tapes) : Ret Tryz.prog 46 #[a.val aA10 aC10 aA11 aC11 aA12 aC12, b.val bA10 bC10 bA11 bC11 bA12 bC12] w fun v w' => Ext No w w' ∧ (v = .bool (decide (a = b))) := by
 have aK2 := aK
 unfold WldResult.Ok Wld.Ok Shape.Ok at aK2
 try unfold I64ok at aK2
 try unfold maxLen at aK2
 have aL10 := sL aS10
 obtain ⟨aF10, aO10⟩ := aS10
 have aL11 := sL aS11
 obtain ⟨aF11, aO11⟩ := aS11
 have aL12 := sL aS12
 obtain ⟨aF12, aO12⟩ := aS12
 have bK2 := bK
 unfold WldResult.Ok Wld.Ok Shape.Ok at bK2
 try unfold I64ok at bK2
 try unfold maxLen at bK2
 have bL10 := sL bS10
 obtain ⟨bF10, bO10⟩ := bS10
 have bL11 := sL bS11
 obtain ⟨bF11, bO11⟩ := bS11
 have bL12 := sL bS12
 obtain ⟨bF12, bO12⟩ := bS12
 have aK3 := aK.2
 have bK3 := bK.2
 refine ret_Q (vs := [a.val aA10 aC10 aA11 aC11 aA12 aC12, b.val bA10 bC10 bA11 bC11 bA12 bC12]) Tryz.func46 rfl Tryz.ntmps46 rfl (fun Q hQ hN => ?_)
 have H0 := Sep.start (w := w) (F := [seen false [.slice aA10 a.Wd.Groups.length aC10] a.Wd.Groups aF10, seen false [.slice aA11 a.Wd.On.length aC11] a.Wd.On aF11, seen false [.slice aA12 a.Wd.Tapes.length aC12] a.Wd.Tapes aF12, seen false [.slice bA10 b.Wd.Groups.length bC10] b.Wd.Groups bF10, seen false [.slice bA11 b.Wd.On.length bC11] b.Wd.On bF11, seen false [.slice bA12 b.Wd.Tapes.length bC12] b.Wd.Tapes bF12]) (all_cons aO10 (all_cons aO11 (all_cons aO12 (all_cons bO10 (all_cons bO11 (all_cons bO12 (by simp)))))))
 refine W_sr (s_box (wn rfl) rfl rfl H0 (fun b1 w1 e1 g1 H1 => ?_))
 refine s_box (wn rfl) rfl rfl H1 (fun b2 w2 e2 g2 H2 => ?_)
 refine sA rfl rfl (s_nil (W_seq (W_sr (sV rfl (py_field tu66 rfl ts2 rfl rfl) (sV rfl (py_load tu2 rfl rfl (cell_atL (H2.box 0 rfl) rfl)) (sV rfl (py_field tu66 rfl ts2 rfl rfl) (sV rfl (py_load tu2 rfl rfl (cell_atL (H2.box 1 rfl) rfl)) (sV rfl (py_neq rfl rfl) (s_nil (W_ifd rfl (fun c1 => ?_) (fun c1 => ?_)))))))))))
 ·refine W_sr (sA rfl rfl (s_nil (rT hQ Tryz.results46 rfl (⟨H2.ext, ?_⟩))))
  rw [decide_eq_false (fun e => by subst e; first | exact c1 rfl | simp at c1)]
 ·refine W_skip (W_seq (W_sr (sV rfl (py_field tu66 rfl ts38 rfl rfl) (sV rfl (py_loadS tu38 rfl ts38 rfl rfl (At.sub (H2.box 0 rfl) 15)) (sV rfl (py_field tu66 rfl ts38 rfl rfl) (sV rfl (py_loadS tu38 rfl ts38 rfl rfl (At.sub (H2.box 1 rfl) 15)) (s_call (wn rfl) rfl rfl (pc_call Tryz.func20 rfl Tryz_nm20 rfl) (Tryz_laws_eqWorld (by assumption) (H2.sees 0 rfl) (H2.sees 1 rfl) (H2.sees 2 rfl) (by assumption) (H2.sees 3 rfl) (H2.sees 4 rfl) (H2.sees 5 rfl)) (fun v1 w3 r1 => ?_))))))))
  obtain ⟨e3, rfl⟩ := r1
  have H3 := H2.to e3
  refine sV rfl (py_not rfl) (s_nil (W_if rfl (fun c2 => ?_) (fun c2 => ?_)))
  ·refine W_sr (sA rfl rfl (s_nil (rT hQ Tryz.results46 rfl (⟨H3.ext, ?_⟩))))
   rw [decide_eq_false (fun e => by subst e; first | exact c2 rfl | simp at c2)]
  ·refine W_skip (W_sr (sA rfl rfl (s_nil (rT hQ Tryz.results46 rfl (⟨H3.ext, ?_⟩)))))
   rw [decide_eq_true]
   cases a; cases b; simp_all
end Go.Wk
namespace Go.Wk
open Go.Proofs Rp
set_option maxRecDepth 10000
theorem Tryz_clone_i {w : World} {xs : List Int} {xsA : Option Addr} {xsC : Nat} (xsS : Sees w [.slice xsA xs.length xsC] xs) (hl : xs.length ≤ 100000000) : Ret Tryz.prog 150 #[.slice xsA xs.length xsC] w fun v w' => Ext No w w' ∧ (Res w w' [v] xs) := by
 have xsL := sL xsS
 obtain ⟨xsF, xsO⟩ := xsS
 refine ret_Q (vs := [.slice xsA xs.length xsC]) Tryz.func150 rfl Tryz.ntmps150 rfl (fun Q hQ hN => ?_)
 have H0 := Sep.start (w := w) (F := [seen false [.slice xsA xs.length xsC] xs xsF]) (all_cons xsO (by simp))
 refine W_sr (sA rfl rfl (s_nil (W_seq (W_sr (sM rfl rfl (sV rfl (py_slnil tu25 rfl rfl) (s_nil (W_if rfl (fun c1 => ?_) (fun c1 => ?_)))))))))
 ·refine W_sr (sA rfl rfl (s_nil (rT hQ Tryz.results150 rfl ?_)))
  have e : xs = [] := own_none xsO c1
  exact ⟨H0.ext, e ▸ ⟨[], .inr (.inl ⟨rfl, rfl, rfl⟩), .nil, by simp⟩⟩
 ·refine W_skip (W_sr (s_lit0 (α := Int) (wn rfl) rfl tu25 Tryz_ty2 H0 (fun b1 w1 e1 g1 H1 => ?_)))
  refine sM rfl rfl (s_appF (wn rfl) rfl tu25 Tryz_ty2 rfl rfl rfl H1 0 rfl (H1.seen 0 rfl) (by (try simp only [List.length_nil]); unfold maxLen; omega) (by (try simp only [List.length_nil]); omega) (fun v1 w2 fp1 H2 => ?_))
  refine sA rfl rfl (s_nil (rT hQ Tryz.results150 rfl ?_))
  exact ⟨H2.ext, by
   have h := H2.out 0 rfl
   rwa [List.nil_append] at h⟩
theorem Tryz_clone_b {w : World} {xs : List UInt8} {xsA : Option Addr} {xsC : Nat} (xsS : Sees w [.slice xsA xs.length xsC] xs) (hl : xs.length ≤ 100000000) : Ret Tryz.prog 151 #[.slice xsA xs.length xsC] w fun v w' => Ext No w w' ∧ (Res w w' [v] xs) := by
 have xsL := sL xsS
 obtain ⟨xsF, xsO⟩ := xsS
 refine ret_Q (vs := [.slice xsA xs.length xsC]) Tryz.func151 rfl Tryz.ntmps151 rfl (fun Q hQ hN => ?_)
 have H0 := Sep.start (w := w) (F := [seen false [.slice xsA xs.length xsC] xs xsF]) (all_cons xsO (by simp))
 refine W_sr (sA rfl rfl (s_nil (W_seq (W_sr (sM rfl rfl (sV rfl (py_slnil tu45 rfl rfl) (s_nil (W_if rfl (fun c1 => ?_) (fun c1 => ?_)))))))))
 ·refine W_sr (sA rfl rfl (s_nil (rT hQ Tryz.results151 rfl ?_)))
  have e : xs = [] := own_none xsO c1
  exact ⟨H0.ext, e ▸ ⟨[], .inr (.inl ⟨rfl, rfl, rfl⟩), .nil, by simp⟩⟩
 ·refine W_skip (W_sr (s_lit0 (α := UInt8) (wn rfl) rfl tu45 Tryz_ty5 H0 (fun b1 w1 e1 g1 H1 => ?_)))
  refine sM rfl rfl (s_appF (wn rfl) rfl tu45 Tryz_ty5 rfl rfl rfl H1 0 rfl (H1.seen 0 rfl) (by (try simp only [List.length_nil]); unfold maxLen; omega) (by (try simp only [List.length_nil]); omega) (fun v1 w2 fp1 H2 => ?_))
  refine sA rfl rfl (s_nil (rT hQ Tryz.results151 rfl ?_))
  exact ⟨H2.ext, by
   have h := H2.out 0 rfl
   rwa [List.nil_append] at h⟩
theorem Tryz_impl_cloneRec {w : World} {r : Rec} {rA6 rA7 rA8 : Option Addr} {rC6 rC7 rC8 : Nat} (rK : r.Ok) (rS6 : Sees w [.slice rA6 r.Rows.length rC6] r.Rows) (rS7 : Sees w [.slice rA7 r.Data.length rC7] r.Data) (rS8 : Sees w [.slice rA8 r.Delta.length rC8] r.Delta) (hb : szRec r ≤ 1048576) : Ret Tryz.prog 74 #[r.val rA6 rC6 rA7 rC7 rA8 rC8] w fun v w' => Ext No w w' ∧ (∃ A6 C6 A7 C7 A8 C8, v = r.val A6 C6 A7 C7 A8 C8 ∧ Res w w' [.int .i64 r.Kind, .int .i64 r.Seq, .string r.Name, .int .i64 r.Length, .int .i64 r.Group, .int .i64 r.Row, .slice A6 r.Rows.length C6, .slice A7 r.Data.length C7, .slice A8 r.Delta.length C8] r) := by
 have rK2 := rK
 unfold Rec.Ok at rK2
 try unfold I64ok at rK2
 try unfold maxLen at rK2
 have rN2 : r.Name.size ≤ maxLen := by unfold maxLen; omega
 have rL6 := sL rS6
 obtain ⟨rF6, rO6⟩ := rS6
 have rL7 := sL rS7
 obtain ⟨rF7, rO7⟩ := rS7
 have rL8 := sL rS8
 obtain ⟨rF8, rO8⟩ := rS8
 unfold szRec at hb
 refine ret_Q (vs := [r.val rA6 rC6 rA7 rC7 rA8 rC8]) Tryz.func74 rfl Tryz.ntmps74 rfl (fun Q hQ hN => ?_)
 have H0 := Sep.start (w := w) (F := [seen false [.slice rA6 r.Rows.length rC6] r.Rows rF6, seen false [.slice rA7 r.Data.length rC7] r.Data rF7, seen false [.slice rA8 r.Delta.length rC8] r.Delta rF8]) (all_cons rO6 (all_cons rO7 (all_cons rO8 (by simp))))
 refine W_sr (s_box (wn rfl) rfl rfl H0 (fun b1 w1 e1 g1 H1 => ?_))
 refine s_var (wn rfl) rfl Tryz.zeroValue68 H1 (fun b2 w2 e2 g2 H2 => ?_)
 refine s_nil (W_seq (W_drw (S := Ext (· ∈ [b1]) _) [(0, true), (3, true), (6, true), (1089, false), (1, false), (1032, false), (2, false), (1020, false), (4, false), (1009, false), (5, false), (7, false), (9, true), (8, false), (10, false), (11, true), (12, false), (13, true), (14, false), (7, false), (9, true), (5, false), (8, false), (10, false), (11, true), (12, false), (13, true), (14, false), (7, false), (4, false), (9, true), (5, false), (8, false), (10, false), (11, true), (12, false), (13, true), (14, false), (1032, false), (4, false), (1020, false), (2, false), (1009, false), (5, false), (7, false), (9, true), (8, false), (10, false), (11, true), (12, false), (13, true), (14, false), (7, false), (9, true), (5, false), (8, false), (10, false), (11, true), (12, false), (13, true), (14, false), (7, false), (2, false), (9, true), (5, false), (8, false), (10, false), (11, true), (12, false), (13, true), (14, false), (7, false), (1010, false), (2, false), (4, false), (9, true), (5, false), (8, false), (10, false), (11, true), (12, false), (13, true), (14, false), (4, false), (2, false), (9, true), (5, false), (8, false), (10, false), (11, true), (12, false), (13, true), (14, false), (1045, false), (4, false), (1032, false), (1, false), (1020, false), (2, false), (1009, false), (5, false), (7, false), (9, true), (8, false), (10, false), (11, true), (12, false), (13, true), (14, false), (7, false), (9, true), (5, false), (8, false), (10, false), (11, true), (12, false), (13, true), (14, false), (7, false), (2, false), (9, true), (5, false), (8, false), (10, false), (11, true), (12, false), (13, true), (14, false), (7, false), (1, false), (2, false), (9, true), (5, false), (8, false), (10, false), (11, true), (12, false), (13, true), (14, false), (7, false), (1022, false), (1, false), (1010, false), (2, false), (4, false), (9, true), (5, false), (8, false), (10, false), (11, true), (12, false), (13, true), (14, false), (4, false), (2, false), (9, true), (5, false), (8, false), (10, false), (11, true), (12, false), (13, true), (14, false), (4, false), (1, false), (2, false), (9, true), (5, false), (8, false), (10, false), (11, true), (12, false), (13, true), (14, false)] (by kernel_rfl) (by kernel_rfl) (by kernel_rfl) rfl (fun _ => Ext.refl.drawn _) (fun q1 => ?_)))
 have H3 := H2.drawn q1
 refine dV rfl rfl (fun zw hx => py_field tu68 rfl ts25 rfl rfl) (dV rfl rfl (fun zw hx => py_field tu68 rfl ts45 rfl rfl) (dV rfl rfl (fun zw hx => py_field tu68 rfl ts45 rfl rfl) (d_fork (l1 := [(1, false), (1032, false), (2, false), (1020, false), (4, false), (1009, false), (5, false), (7, false), (9, true), (8, false), (10, false), (11, true), (12, false), (13, true), (14, false), (7, false), (9, true), (5, false), (8, false), (10, false), (11, true), (12, false), (13, true), (14, false), (7, false), (4, false), (9, true), (5, false), (8, false), (10, false), (11, true), (12, false), (13, true), (14, false), (1032, false), (4, false), (1020, false), (2, false), (1009, false), (5, false), (7, false), (9, true), (8, false), (10, false), (11, true), (12, false), (13, true), (14, false), (7, false), (9, true), (5, false), (8, false), (10, false), (11, true), (12, false), (13, true), (14, false), (7, false), (2, false), (9, true), (5, false), (8, false), (10, false), (11, true), (12, false), (13, true), (14, false), (7, false), (1010, false), (2, false), (4, false), (9, true), (5, false), (8, false), (10, false), (11, true), (12, false), (13, true), (14, false), (4, false), (2, false), (9, true), (5, false), (8, false), (10, false), (11, true), (12, false), (13, true), (14, false)]) (l2 := [(1045, false), (4, false), (1032, false), (1, false), (1020, false), (2, false), (1009, false), (5, false), (7, false), (9, true), (8, false), (10, false), (11, true), (12, false), (13, true), (14, false), (7, false), (9, true), (5, false), (8, false), (10, false), (11, true), (12, false), (13, true), (14, false), (7, false), (2, false), (9, true), (5, false), (8, false), (10, false), (11, true), (12, false), (13, true), (14, false), (7, false), (1, false), (2, false), (9, true), (5, false), (8, false), (10, false), (11, true), (12, false), (13, true), (14, false), (7, false), (1022, false), (1, false), (1010, false), (2, false), (4, false), (9, true), (5, false), (8, false), (10, false), (11, true), (12, false), (13, true), (14, false), (4, false), (2, false), (9, true), (5, false), (8, false), (10, false), (11, true), (12, false), (13, true), (14, false), (4, false), (1, false), (2, false), (9, true), (5, false), (8, false), (10, false), (11, true), (12, false), (13, true), (14, false)]) rfl rfl rfl rfl ?_ ?_)))
 ·refine d_end rfl (wn rfl) rfl rfl (py_load tu25 rfl rfl (cell_atL (H3.box 0 rfl) rfl)) (d_fork (l1 := [(2, false), (1020, false), (4, false), (1009, false), (5, false), (7, false), (9, true), (8, false), (10, false), (11, true), (12, false), (13, true), (14, false), (7, false), (9, true), (5, false), (8, false), (10, false), (11, true), (12, false), (13, true), (14, false), (7, false), (4, false), (9, true), (5, false), (8, false), (10, false), (11, true), (12, false), (13, true), (14, false)]) (l2 := [(1032, false), (4, false), (1020, false), (2, false), (1009, false), (5, false), (7, false), (9, true), (8, false), (10, false), (11, true), (12, false), (13, true), (14, false), (7, false), (9, true), (5, false), (8, false), (10, false), (11, true), (12, false), (13, true), (14, false), (7, false), (2, false), (9, true), (5, false), (8, false), (10, false), (11, true), (12, false), (13, true), (14, false), (7, false), (1010, false), (2, false), (4, false), (9, true), (5, false), (8, false), (10, false), (11, true), (12, false), (13, true), (14, false), (4, false), (2, false), (9, true), (5, false), (8, false), (10, false), (11, true), (12, false), (13, true), (14, false)]) rfl rfl rfl rfl ?_ ?_)
  ·refine d_call rfl (wn rfl) rfl rfl (pc_call Tryz.func150 rfl Tryz_nm150 rfl) (Tryz_clone_i (H3.sees 0 rfl) (by omega)) (fun hS _ _ r _ => hS.trans r.1.no) (fun v1 w3 r1 => ?_)
   obtain ⟨e3, r1⟩ := r1
   obtain ⟨fp1, H4⟩ := H3.res e3 r1
   obtain ⟨a1, k1, q2⟩ := own_slice (H4.mine 2 rfl)
   cases q2
   refine d_fork (l1 := [(4, false), (1009, false), (5, false), (7, false), (9, true), (8, false), (10, false), (11, true), (12, false), (13, true), (14, false), (7, false), (9, true), (5, false), (8, false), (10, false), (11, true), (12, false), (13, true), (14, false)]) (l2 := [(7, false), (4, false), (9, true), (5, false), (8, false), (10, false), (11, true), (12, false), (13, true), (14, false)]) rfl rfl rfl rfl ?_ ?_
   ·refine d_end rfl (wn rfl) rfl rfl (py_load tu45 rfl rfl (cell_atL (H4.box 0 rfl) rfl)) (d_fork (l1 := [(5, false), (7, false), (9, true), (8, false), (10, false), (11, true), (12, false), (13, true), (14, false)]) (l2 := [(7, false), (9, true), (5, false), (8, false), (10, false), (11, true), (12, false), (13, true), (14, false)]) rfl rfl rfl rfl ?_ ?_)
    ·refine d_call rfl (wn rfl) rfl rfl (pc_call Tryz.func151 rfl Tryz_nm151 rfl) (Tryz_clone_b (H4.sees 1 rfl) (by omega)) (fun hS _ _ r _ => hS.trans r.1.no) (fun v2 w4 r2 => ?_)
     obtain ⟨e4, r2⟩ := r2
     obtain ⟨fp2, H5⟩ := H4.res e4 r2
     obtain ⟨a2, k2, q3⟩ := own_slice (H5.mine 3 rfl)
     cases q3
     refine d_end rfl (wn rfl) rfl rfl (py_load tu45 rfl rfl (cell_atL (H5.box 0 rfl) rfl)) (dV rfl rfl (fun zw hx => py_field tu68 rfl ts25 rfl rfl) (d_call rfl (wn rfl) rfl rfl (pc_call Tryz.func151 rfl Tryz_nm151 rfl) (Tryz_clone_b (H5.sees 2 rfl) (by omega)) (fun hS _ _ r _ => hS.trans r.1.no) (fun v3 w5 r3 => ?_)))
     obtain ⟨e5, r3⟩ := r3
     obtain ⟨fp3, H6⟩ := H5.res e5 r3
     obtain ⟨a3, k3, q4⟩ := own_slice (H6.mine 4 rfl)
     cases q4
     refine d_sto rfl (wn rfl) ts25 rfl rfl rfl H6 0 rfl rfl (fun _ h e _ => h.trans (e.mono fun _ _ q => by simp [q])) (fun w6 e6 H7 => ?_)
     dsimp only [lNA, lCA, lSZ, lSS, layL] at H7
     refine dV rfl rfl (fun zw hx => py_field tu68 rfl ts45 rfl rfl) (d_sto rfl (wn rfl) ts45 rfl rfl rfl H7 0 rfl rfl (fun _ h e _ => h.trans (e.mono fun _ _ q => by simp [q])) (fun w7 e7 H8 => ?_))
     dsimp only [lNA, lCA, lSZ, lSS, layL] at H8
     refine dV rfl rfl (fun zw hx => py_field tu68 rfl ts45 rfl rfl) (d_sto rfl (wn rfl) ts45 rfl rfl rfl H8 0 rfl rfl (fun _ h e _ => h.trans (e.mono fun _ _ q => by simp [q])) (fun w8 e8 H9 => ?_))
     dsimp only [lNA, lCA, lSZ, lSS, layL] at H9
     refine d_nil (W_sr (sV rfl (py_loadS tu68 rfl ts68 rfl rfl (At.whole (H9.box 0 rfl))) (s_stoS (wn rfl) ts68 rfl rfl rfl rfl H9 1 rfl rfl (fun w9 e9 H10 => ?_))))
     dsimp only [lNA, lCA, lSZ, lSS, layL] at H10
     refine s_nil (W_ret (hQ _ _ (finC Tryz.results74 rfl (run_loadVarS tu68 rfl ts68 rfl (At.whole (H10.box 1 rfl))) ?_)))
     exact ⟨H10.ext, _, _, _, _, _, _, rfl, Rec.out (H10.sub (.cons _ (.cons _ (.cons_cons _ (.cons_cons _ (.cons_cons _ List.Sublist.slnil)))))) (by assumption)⟩
    ·refine d_end rfl (wn rfl) rfl rfl (py_load tu45 rfl rfl (cell_atL (H4.box 0 rfl) rfl)) (dV rfl rfl (fun zw hx => py_field tu68 rfl ts25 rfl rfl) (d_call rfl (wn rfl) rfl rfl (pc_call Tryz.func151 rfl Tryz_nm151 rfl) (Tryz_clone_b (H4.sees 1 rfl) (by omega)) (fun hS _ _ r _ => hS.trans r.1.no) (fun v4 w10 r4 => ?_)))
     obtain ⟨e10, r4⟩ := r4
     obtain ⟨fp4, H11⟩ := H4.res e10 r4
     obtain ⟨a4, k4, q5⟩ := own_slice (H11.mine 3 rfl)
     cases q5
     refine d_call rfl (wn rfl) rfl rfl (pc_call Tryz.func151 rfl Tryz_nm151 rfl) (Tryz_clone_b (H11.sees 2 rfl) (by omega)) (fun hS _ _ r _ => hS.trans r.1.no) (fun v5 w11 r5 => ?_)
     obtain ⟨e11, r5⟩ := r5
     obtain ⟨fp5, H12⟩ := H11.res e11 r5
     obtain ⟨a5, k5, q6⟩ := own_slice (H12.mine 4 rfl)
     cases q6
     refine d_sto rfl (wn rfl) ts25 rfl rfl rfl H12 0 rfl rfl (fun _ h e _ => h.trans (e.mono fun _ _ q => by simp [q])) (fun w12 e12 H13 => ?_)
     dsimp only [lNA, lCA, lSZ, lSS, layL] at H13
     refine dV rfl rfl (fun zw hx => py_field tu68 rfl ts45 rfl rfl) (d_sto rfl (wn rfl) ts45 rfl rfl rfl H13 0 rfl rfl (fun _ h e _ => h.trans (e.mono fun _ _ q => by simp [q])) (fun w13 e13 H14 => ?_))
     dsimp only [lNA, lCA, lSZ, lSS, layL] at H14
     refine dV rfl rfl (fun zw hx => py_field tu68 rfl ts45 rfl rfl) (d_sto rfl (wn rfl) ts45 rfl rfl rfl H14 0 rfl rfl (fun _ h e _ => h.trans (e.mono fun _ _ q => by simp [q])) (fun w14 e14 H15 => ?_))
     dsimp only [lNA, lCA, lSZ, lSS, layL] at H15
     refine d_nil (W_sr (sV rfl (py_loadS tu68 rfl ts68 rfl rfl (At.whole (H15.box 0 rfl))) (s_stoS (wn rfl) ts68 rfl rfl rfl rfl H15 1 rfl rfl (fun w15 e15 H16 => ?_))))
     dsimp only [lNA, lCA, lSZ, lSS, layL] at H16
     refine s_nil (W_ret (hQ _ _ (finC Tryz.results74 rfl (run_loadVarS tu68 rfl ts68 rfl (At.whole (H16.box 1 rfl))) ?_)))
     exact ⟨H16.ext, _, _, _, _, _, _, rfl, Rec.out (H16.sub (.cons _ (.cons _ (.cons_cons _ (.cons_cons _ (.cons_cons _ List.Sublist.slnil)))))) (by assumption)⟩
   ·refine d_end rfl (wn rfl) rfl rfl (py_load tu45 rfl rfl (cell_atL (H4.box 0 rfl) rfl)) (d_end rfl (wn rfl) rfl rfl (py_load tu45 rfl rfl (cell_atL (H4.box 0 rfl) rfl)) (dV rfl rfl (fun zw hx => py_field tu68 rfl ts25 rfl rfl) (d_call rfl (wn rfl) rfl rfl (pc_call Tryz.func151 rfl Tryz_nm151 rfl) (Tryz_clone_b (H4.sees 1 rfl) (by omega)) (fun hS _ _ r _ => hS.trans r.1.no) (fun v6 w16 r6 => ?_))))
    obtain ⟨e16, r6⟩ := r6
    obtain ⟨fp6, H17⟩ := H4.res e16 r6
    obtain ⟨a6, k6, q7⟩ := own_slice (H17.mine 3 rfl)
    cases q7
    refine d_call rfl (wn rfl) rfl rfl (pc_call Tryz.func151 rfl Tryz_nm151 rfl) (Tryz_clone_b (H17.sees 2 rfl) (by omega)) (fun hS _ _ r _ => hS.trans r.1.no) (fun v7 w17 r7 => ?_)
    obtain ⟨e17, r7⟩ := r7
    obtain ⟨fp7, H18⟩ := H17.res e17 r7
    obtain ⟨a7, k7, q8⟩ := own_slice (H18.mine 4 rfl)
    cases q8
    refine d_sto rfl (wn rfl) ts25 rfl rfl rfl H18 0 rfl rfl (fun _ h e _ => h.trans (e.mono fun _ _ q => by simp [q])) (fun w18 e18 H19 => ?_)
    dsimp only [lNA, lCA, lSZ, lSS, layL] at H19
    refine dV rfl rfl (fun zw hx => py_field tu68 rfl ts45 rfl rfl) (d_sto rfl (wn rfl) ts45 rfl rfl rfl H19 0 rfl rfl (fun _ h e _ => h.trans (e.mono fun _ _ q => by simp [q])) (fun w19 e19 H20 => ?_))
    dsimp only [lNA, lCA, lSZ, lSS, layL] at H20
    refine dV rfl rfl (fun zw hx => py_field tu68 rfl ts45 rfl rfl) (d_sto rfl (wn rfl) ts45 rfl rfl rfl H20 0 rfl rfl (fun _ h e _ => h.trans (e.mono fun _ _ q => by simp [q])) (fun w20 e20 H21 => ?_))
    dsimp only [lNA, lCA, lSZ, lSS, layL] at H21
    refine d_nil (W_sr (sV rfl (py_loadS tu68 rfl ts68 rfl rfl (At.whole (H21.box 0 rfl))) (s_stoS (wn rfl) ts68 rfl rfl rfl rfl H21 1 rfl rfl (fun w21 e21 H22 => ?_))))
    dsimp only [lNA, lCA, lSZ, lSS, layL] at H22
    refine s_nil (W_ret (hQ _ _ (finC Tryz.results74 rfl (run_loadVarS tu68 rfl ts68 rfl (At.whole (H22.box 1 rfl))) ?_)))
    exact ⟨H22.ext, _, _, _, _, _, _, rfl, Rec.out (H22.sub (.cons _ (.cons _ (.cons_cons _ (.cons_cons _ (.cons_cons _ List.Sublist.slnil)))))) (by assumption)⟩
  refine d_fork (l1 := [(4, false), (1020, false), (2, false), (1009, false), (5, false), (7, false), (9, true), (8, false), (10, false), (11, true), (12, false), (13, true), (14, false), (7, false), (9, true), (5, false), (8, false), (10, false), (11, true), (12, false), (13, true), (14, false), (7, false), (2, false), (9, true), (5, false), (8, false), (10, false), (11, true), (12, false), (13, true), (14, false)]) (l2 := [(7, false), (1010, false), (2, false), (4, false), (9, true), (5, false), (8, false), (10, false), (11, true), (12, false), (13, true), (14, false), (4, false), (2, false), (9, true), (5, false), (8, false), (10, false), (11, true), (12, false), (13, true), (14, false)]) rfl rfl rfl rfl ?_ ?_
  ·refine d_end rfl (wn rfl) rfl rfl (py_load tu45 rfl rfl (cell_atL (H3.box 0 rfl) rfl)) (d_fork (l1 := [(2, false), (1009, false), (5, false), (7, false), (9, true), (8, false), (10, false), (11, true), (12, false), (13, true), (14, false), (7, false), (9, true), (5, false), (8, false), (10, false), (11, true), (12, false), (13, true), (14, false)]) (l2 := [(7, false), (2, false), (9, true), (5, false), (8, false), (10, false), (11, true), (12, false), (13, true), (14, false)]) rfl rfl rfl rfl ?_ ?_)
   ·refine d_call rfl (wn rfl) rfl rfl (pc_call Tryz.func150 rfl Tryz_nm150 rfl) (Tryz_clone_i (H3.sees 0 rfl) (by omega)) (fun hS _ _ r _ => hS.trans r.1.no) (fun v8 w22 r8 => ?_)
    obtain ⟨e22, r8⟩ := r8
    obtain ⟨fp8, H23⟩ := H3.res e22 r8
    obtain ⟨a8, k8, q9⟩ := own_slice (H23.mine 2 rfl)
    cases q9
    refine d_fork (l1 := [(5, false), (7, false), (9, true), (8, false), (10, false), (11, true), (12, false), (13, true), (14, false)]) (l2 := [(7, false), (9, true), (5, false), (8, false), (10, false), (11, true), (12, false), (13, true), (14, false)]) rfl rfl rfl rfl ?_ ?_
    ·refine d_call rfl (wn rfl) rfl rfl (pc_call Tryz.func151 rfl Tryz_nm151 rfl) (Tryz_clone_b (H23.sees 1 rfl) (by omega)) (fun hS _ _ r _ => hS.trans r.1.no) (fun v9 w23 r9 => ?_)
     obtain ⟨e23, r9⟩ := r9
     obtain ⟨fp9, H24⟩ := H23.res e23 r9
     obtain ⟨a9, k9, q10⟩ := own_slice (H24.mine 3 rfl)
     cases q10
     refine d_end rfl (wn rfl) rfl rfl (py_load tu45 rfl rfl (cell_atL (H24.box 0 rfl) rfl)) (dV rfl rfl (fun zw hx => py_field tu68 rfl ts25 rfl rfl) (d_call rfl (wn rfl) rfl rfl (pc_call Tryz.func151 rfl Tryz_nm151 rfl) (Tryz_clone_b (H24.sees 2 rfl) (by omega)) (fun hS _ _ r _ => hS.trans r.1.no) (fun v10 w24 r10 => ?_)))
     obtain ⟨e24, r10⟩ := r10
     obtain ⟨fp10, H25⟩ := H24.res e24 r10
     obtain ⟨a10, k10, q11⟩ := own_slice (H25.mine 4 rfl)
     cases q11
     refine d_sto rfl (wn rfl) ts25 rfl rfl rfl H25 0 rfl rfl (fun _ h e _ => h.trans (e.mono fun _ _ q => by simp [q])) (fun w25 e25 H26 => ?_)
     dsimp only [lNA, lCA, lSZ, lSS, layL] at H26
     refine dV rfl rfl (fun zw hx => py_field tu68 rfl ts45 rfl rfl) (d_sto rfl (wn rfl) ts45 rfl rfl rfl H26 0 rfl rfl (fun _ h e _ => h.trans (e.mono fun _ _ q => by simp [q])) (fun w26 e26 H27 => ?_))
     dsimp only [lNA, lCA, lSZ, lSS, layL] at H27
     refine dV rfl rfl (fun zw hx => py_field tu68 rfl ts45 rfl rfl) (d_sto rfl (wn rfl) ts45 rfl rfl rfl H27 0 rfl rfl (fun _ h e _ => h.trans (e.mono fun _ _ q => by simp [q])) (fun w27 e27 H28 => ?_))
     dsimp only [lNA, lCA, lSZ, lSS, layL] at H28
     refine d_nil (W_sr (sV rfl (py_loadS tu68 rfl ts68 rfl rfl (At.whole (H28.box 0 rfl))) (s_stoS (wn rfl) ts68 rfl rfl rfl rfl H28 1 rfl rfl (fun w28 e28 H29 => ?_))))
     dsimp only [lNA, lCA, lSZ, lSS, layL] at H29
     refine s_nil (W_ret (hQ _ _ (finC Tryz.results74 rfl (run_loadVarS tu68 rfl ts68 rfl (At.whole (H29.box 1 rfl))) ?_)))
     exact ⟨H29.ext, _, _, _, _, _, _, rfl, Rec.out (H29.sub (.cons _ (.cons _ (.cons_cons _ (.cons_cons _ (.cons_cons _ List.Sublist.slnil)))))) (by assumption)⟩
    ·refine d_end rfl (wn rfl) rfl rfl (py_load tu45 rfl rfl (cell_atL (H23.box 0 rfl) rfl)) (dV rfl rfl (fun zw hx => py_field tu68 rfl ts25 rfl rfl) (d_call rfl (wn rfl) rfl rfl (pc_call Tryz.func151 rfl Tryz_nm151 rfl) (Tryz_clone_b (H23.sees 1 rfl) (by omega)) (fun hS _ _ r _ => hS.trans r.1.no) (fun v11 w29 r11 => ?_)))
     obtain ⟨e29, r11⟩ := r11
     obtain ⟨fp11, H30⟩ := H23.res e29 r11
     obtain ⟨a11, k11, q12⟩ := own_slice (H30.mine 3 rfl)
     cases q12
     refine d_call rfl (wn rfl) rfl rfl (pc_call Tryz.func151 rfl Tryz_nm151 rfl) (Tryz_clone_b (H30.sees 2 rfl) (by omega)) (fun hS _ _ r _ => hS.trans r.1.no) (fun v12 w30 r12 => ?_)
     obtain ⟨e30, r12⟩ := r12
     obtain ⟨fp12, H31⟩ := H30.res e30 r12
     obtain ⟨a12, k12, q13⟩ := own_slice (H31.mine 4 rfl)
     cases q13
     refine d_sto rfl (wn rfl) ts25 rfl rfl rfl H31 0 rfl rfl (fun _ h e _ => h.trans (e.mono fun _ _ q => by simp [q])) (fun w31 e31 H32 => ?_)
     dsimp only [lNA, lCA, lSZ, lSS, layL] at H32
     refine dV rfl rfl (fun zw hx => py_field tu68 rfl ts45 rfl rfl) (d_sto rfl (wn rfl) ts45 rfl rfl rfl H32 0 rfl rfl (fun _ h e _ => h.trans (e.mono fun _ _ q => by simp [q])) (fun w32 e32 H33 => ?_))
     dsimp only [lNA, lCA, lSZ, lSS, layL] at H33
     refine dV rfl rfl (fun zw hx => py_field tu68 rfl ts45 rfl rfl) (d_sto rfl (wn rfl) ts45 rfl rfl rfl H33 0 rfl rfl (fun _ h e _ => h.trans (e.mono fun _ _ q => by simp [q])) (fun w33 e33 H34 => ?_))
     dsimp only [lNA, lCA, lSZ, lSS, layL] at H34
     refine d_nil (W_sr (sV rfl (py_loadS tu68 rfl ts68 rfl rfl (At.whole (H34.box 0 rfl))) (s_stoS (wn rfl) ts68 rfl rfl rfl rfl H34 1 rfl rfl (fun w34 e34 H35 => ?_))))
     dsimp only [lNA, lCA, lSZ, lSS, layL] at H35
     refine s_nil (W_ret (hQ _ _ (finC Tryz.results74 rfl (run_loadVarS tu68 rfl ts68 rfl (At.whole (H35.box 1 rfl))) ?_)))
     exact ⟨H35.ext, _, _, _, _, _, _, rfl, Rec.out (H35.sub (.cons _ (.cons _ (.cons_cons _ (.cons_cons _ (.cons_cons _ List.Sublist.slnil)))))) (by assumption)⟩
   ·refine d_end rfl (wn rfl) rfl rfl (py_load tu45 rfl rfl (cell_atL (H3.box 0 rfl) rfl)) (d_call rfl (wn rfl) rfl rfl (pc_call Tryz.func150 rfl Tryz_nm150 rfl) (Tryz_clone_i (H3.sees 0 rfl) (by omega)) (fun hS _ _ r _ => hS.trans r.1.no) (fun v13 w35 r13 => ?_))
    obtain ⟨e35, r13⟩ := r13
    obtain ⟨fp13, H36⟩ := H3.res e35 r13
    obtain ⟨a13, k13, q14⟩ := own_slice (H36.mine 2 rfl)
    cases q14
    refine dV rfl rfl (fun zw hx => py_field tu68 rfl ts25 rfl rfl) (d_call rfl (wn rfl) rfl rfl (pc_call Tryz.func151 rfl Tryz_nm151 rfl) (Tryz_clone_b (H36.sees 1 rfl) (by omega)) (fun hS _ _ r _ => hS.trans r.1.no) (fun v14 w36 r14 => ?_))
    obtain ⟨e36, r14⟩ := r14
    obtain ⟨fp14, H37⟩ := H36.res e36 r14
    obtain ⟨a14, k14, q15⟩ := own_slice (H37.mine 3 rfl)
    cases q15
    refine d_call rfl (wn rfl) rfl rfl (pc_call Tryz.func151 rfl Tryz_nm151 rfl) (Tryz_clone_b (H37.sees 2 rfl) (by omega)) (fun hS _ _ r _ => hS.trans r.1.no) (fun v15 w37 r15 => ?_)
    obtain ⟨e37, r15⟩ := r15
    obtain ⟨fp15, H38⟩ := H37.res e37 r15
    obtain ⟨a15, k15, q16⟩ := own_slice (H38.mine 4 rfl)
    cases q16
    refine d_sto rfl (wn rfl) ts25 rfl rfl rfl H38 0 rfl rfl (fun _ h e _ => h.trans (e.mono fun _ _ q => by simp [q])) (fun w38 e38 H39 => ?_)
    dsimp only [lNA, lCA, lSZ, lSS, layL] at H39
    refine dV rfl rfl (fun zw hx => py_field tu68 rfl ts45 rfl rfl) (d_sto rfl (wn rfl) ts45 rfl rfl rfl H39 0 rfl rfl (fun _ h e _ => h.trans (e.mono fun _ _ q => by simp [q])) (fun w39 e39 H40 => ?_))
    dsimp only [lNA, lCA, lSZ, lSS, layL] at H40
    refine dV rfl rfl (fun zw hx => py_field tu68 rfl ts45 rfl rfl) (d_sto rfl (wn rfl) ts45 rfl rfl rfl H40 0 rfl rfl (fun _ h e _ => h.trans (e.mono fun _ _ q => by simp [q])) (fun w40 e40 H41 => ?_))
    dsimp only [lNA, lCA, lSZ, lSS, layL] at H41
    refine d_nil (W_sr (sV rfl (py_loadS tu68 rfl ts68 rfl rfl (At.whole (H41.box 0 rfl))) (s_stoS (wn rfl) ts68 rfl rfl rfl rfl H41 1 rfl rfl (fun w41 e41 H42 => ?_))))
    dsimp only [lNA, lCA, lSZ, lSS, layL] at H42
    refine s_nil (W_ret (hQ _ _ (finC Tryz.results74 rfl (run_loadVarS tu68 rfl ts68 rfl (At.whole (H42.box 1 rfl))) ?_)))
    exact ⟨H42.ext, _, _, _, _, _, _, rfl, Rec.out (H42.sub (.cons _ (.cons _ (.cons_cons _ (.cons_cons _ (.cons_cons _ List.Sublist.slnil)))))) (by assumption)⟩
  ·refine d_end rfl (wn rfl) rfl rfl (py_load tu45 rfl rfl (cell_atL (H3.box 0 rfl) rfl)) (d_fork (l1 := [(2, false), (4, false), (9, true), (5, false), (8, false), (10, false), (11, true), (12, false), (13, true), (14, false)]) (l2 := [(4, false), (2, false), (9, true), (5, false), (8, false), (10, false), (11, true), (12, false), (13, true), (14, false)]) rfl rfl rfl rfl ?_ ?_)
   ·refine d_call rfl (wn rfl) rfl rfl (pc_call Tryz.func150 rfl Tryz_nm150 rfl) (Tryz_clone_i (H3.sees 0 rfl) (by omega)) (fun hS _ _ r _ => hS.trans r.1.no) (fun v16 w42 r16 => ?_)
    obtain ⟨e42, r16⟩ := r16
    obtain ⟨fp16, H43⟩ := H3.res e42 r16
    obtain ⟨a16, k16, q17⟩ := own_slice (H43.mine 2 rfl)
    cases q17
    refine d_end rfl (wn rfl) rfl rfl (py_load tu45 rfl rfl (cell_atL (H43.box 0 rfl) rfl)) (dV rfl rfl (fun zw hx => py_field tu68 rfl ts25 rfl rfl) (d_call rfl (wn rfl) rfl rfl (pc_call Tryz.func151 rfl Tryz_nm151 rfl) (Tryz_clone_b (H43.sees 1 rfl) (by omega)) (fun hS _ _ r _ => hS.trans r.1.no) (fun v17 w43 r17 => ?_)))
    obtain ⟨e43, r17⟩ := r17
    obtain ⟨fp17, H44⟩ := H43.res e43 r17
    obtain ⟨a17, k17, q18⟩ := own_slice (H44.mine 3 rfl)
    cases q18
    refine d_call rfl (wn rfl) rfl rfl (pc_call Tryz.func151 rfl Tryz_nm151 rfl) (Tryz_clone_b (H44.sees 2 rfl) (by omega)) (fun hS _ _ r _ => hS.trans r.1.no) (fun v18 w44 r18 => ?_)
    obtain ⟨e44, r18⟩ := r18
    obtain ⟨fp18, H45⟩ := H44.res e44 r18
    obtain ⟨a18, k18, q19⟩ := own_slice (H45.mine 4 rfl)
    cases q19
    refine d_sto rfl (wn rfl) ts25 rfl rfl rfl H45 0 rfl rfl (fun _ h e _ => h.trans (e.mono fun _ _ q => by simp [q])) (fun w45 e45 H46 => ?_)
    dsimp only [lNA, lCA, lSZ, lSS, layL] at H46
    refine dV rfl rfl (fun zw hx => py_field tu68 rfl ts45 rfl rfl) (d_sto rfl (wn rfl) ts45 rfl rfl rfl H46 0 rfl rfl (fun _ h e _ => h.trans (e.mono fun _ _ q => by simp [q])) (fun w46 e46 H47 => ?_))
    dsimp only [lNA, lCA, lSZ, lSS, layL] at H47
    refine dV rfl rfl (fun zw hx => py_field tu68 rfl ts45 rfl rfl) (d_sto rfl (wn rfl) ts45 rfl rfl rfl H47 0 rfl rfl (fun _ h e _ => h.trans (e.mono fun _ _ q => by simp [q])) (fun w47 e47 H48 => ?_))
    dsimp only [lNA, lCA, lSZ, lSS, layL] at H48
    refine d_nil (W_sr (sV rfl (py_loadS tu68 rfl ts68 rfl rfl (At.whole (H48.box 0 rfl))) (s_stoS (wn rfl) ts68 rfl rfl rfl rfl H48 1 rfl rfl (fun w48 e48 H49 => ?_))))
    dsimp only [lNA, lCA, lSZ, lSS, layL] at H49
    refine s_nil (W_ret (hQ _ _ (finC Tryz.results74 rfl (run_loadVarS tu68 rfl ts68 rfl (At.whole (H49.box 1 rfl))) ?_)))
    exact ⟨H49.ext, _, _, _, _, _, _, rfl, Rec.out (H49.sub (.cons _ (.cons _ (.cons_cons _ (.cons_cons _ (.cons_cons _ List.Sublist.slnil)))))) (by assumption)⟩
   ·refine d_end rfl (wn rfl) rfl rfl (py_load tu45 rfl rfl (cell_atL (H3.box 0 rfl) rfl)) (d_call rfl (wn rfl) rfl rfl (pc_call Tryz.func150 rfl Tryz_nm150 rfl) (Tryz_clone_i (H3.sees 0 rfl) (by omega)) (fun hS _ _ r _ => hS.trans r.1.no) (fun v19 w49 r19 => ?_))
    obtain ⟨e49, r19⟩ := r19
    obtain ⟨fp19, H50⟩ := H3.res e49 r19
    obtain ⟨a19, k19, q20⟩ := own_slice (H50.mine 2 rfl)
    cases q20
    refine dV rfl rfl (fun zw hx => py_field tu68 rfl ts25 rfl rfl) (d_call rfl (wn rfl) rfl rfl (pc_call Tryz.func151 rfl Tryz_nm151 rfl) (Tryz_clone_b (H50.sees 1 rfl) (by omega)) (fun hS _ _ r _ => hS.trans r.1.no) (fun v20 w50 r20 => ?_))
    obtain ⟨e50, r20⟩ := r20
    obtain ⟨fp20, H51⟩ := H50.res e50 r20
    obtain ⟨a20, k20, q21⟩ := own_slice (H51.mine 3 rfl)
    cases q21
    refine d_call rfl (wn rfl) rfl rfl (pc_call Tryz.func151 rfl Tryz_nm151 rfl) (Tryz_clone_b (H51.sees 2 rfl) (by omega)) (fun hS _ _ r _ => hS.trans r.1.no) (fun v21 w51 r21 => ?_)
    obtain ⟨e51, r21⟩ := r21
    obtain ⟨fp21, H52⟩ := H51.res e51 r21
    obtain ⟨a21, k21, q22⟩ := own_slice (H52.mine 4 rfl)
    cases q22
    refine d_sto rfl (wn rfl) ts25 rfl rfl rfl H52 0 rfl rfl (fun _ h e _ => h.trans (e.mono fun _ _ q => by simp [q])) (fun w52 e52 H53 => ?_)
    dsimp only [lNA, lCA, lSZ, lSS, layL] at H53
    refine dV rfl rfl (fun zw hx => py_field tu68 rfl ts45 rfl rfl) (d_sto rfl (wn rfl) ts45 rfl rfl rfl H53 0 rfl rfl (fun _ h e _ => h.trans (e.mono fun _ _ q => by simp [q])) (fun w53 e53 H54 => ?_))
    dsimp only [lNA, lCA, lSZ, lSS, layL] at H54
    refine dV rfl rfl (fun zw hx => py_field tu68 rfl ts45 rfl rfl) (d_sto rfl (wn rfl) ts45 rfl rfl rfl H54 0 rfl rfl (fun _ h e _ => h.trans (e.mono fun _ _ q => by simp [q])) (fun w54 e54 H55 => ?_))
    dsimp only [lNA, lCA, lSZ, lSS, layL] at H55
    refine d_nil (W_sr (sV rfl (py_loadS tu68 rfl ts68 rfl rfl (At.whole (H55.box 0 rfl))) (s_stoS (wn rfl) ts68 rfl rfl rfl rfl H55 1 rfl rfl (fun w55 e55 H56 => ?_))))
    dsimp only [lNA, lCA, lSZ, lSS, layL] at H56
    refine s_nil (W_ret (hQ _ _ (finC Tryz.results74 rfl (run_loadVarS tu68 rfl ts68 rfl (At.whole (H56.box 1 rfl))) ?_)))
    exact ⟨H56.ext, _, _, _, _, _, _, rfl, Rec.out (H56.sub (.cons _ (.cons _ (.cons_cons _ (.cons_cons _ (.cons_cons _ List.Sublist.slnil)))))) (by assumption)⟩
 refine d_fork (l1 := [(4, false), (1032, false), (1, false), (1020, false), (2, false), (1009, false), (5, false), (7, false), (9, true), (8, false), (10, false), (11, true), (12, false), (13, true), (14, false), (7, false), (9, true), (5, false), (8, false), (10, false), (11, true), (12, false), (13, true), (14, false), (7, false), (2, false), (9, true), (5, false), (8, false), (10, false), (11, true), (12, false), (13, true), (14, false), (7, false), (1, false), (2, false), (9, true), (5, false), (8, false), (10, false), (11, true), (12, false), (13, true), (14, false)]) (l2 := [(7, false), (1022, false), (1, false), (1010, false), (2, false), (4, false), (9, true), (5, false), (8, false), (10, false), (11, true), (12, false), (13, true), (14, false), (4, false), (2, false), (9, true), (5, false), (8, false), (10, false), (11, true), (12, false), (13, true), (14, false), (4, false), (1, false), (2, false), (9, true), (5, false), (8, false), (10, false), (11, true), (12, false), (13, true), (14, false)]) rfl rfl rfl rfl ?_ ?_
 ·refine d_end rfl (wn rfl) rfl rfl (py_load tu45 rfl rfl (cell_atL (H3.box 0 rfl) rfl)) (d_fork (l1 := [(1, false), (1020, false), (2, false), (1009, false), (5, false), (7, false), (9, true), (8, false), (10, false), (11, true), (12, false), (13, true), (14, false), (7, false), (9, true), (5, false), (8, false), (10, false), (11, true), (12, false), (13, true), (14, false), (7, false), (2, false), (9, true), (5, false), (8, false), (10, false), (11, true), (12, false), (13, true), (14, false)]) (l2 := [(7, false), (1, false), (2, false), (9, true), (5, false), (8, false), (10, false), (11, true), (12, false), (13, true), (14, false)]) rfl rfl rfl rfl ?_ ?_)
  ·refine d_end rfl (wn rfl) rfl rfl (py_load tu25 rfl rfl (cell_atL (H3.box 0 rfl) rfl)) (d_fork (l1 := [(2, false), (1009, false), (5, false), (7, false), (9, true), (8, false), (10, false), (11, true), (12, false), (13, true), (14, false), (7, false), (9, true), (5, false), (8, false), (10, false), (11, true), (12, false), (13, true), (14, false)]) (l2 := [(7, false), (2, false), (9, true), (5, false), (8, false), (10, false), (11, true), (12, false), (13, true), (14, false)]) rfl rfl rfl rfl ?_ ?_)
   ·refine d_call rfl (wn rfl) rfl rfl (pc_call Tryz.func150 rfl Tryz_nm150 rfl) (Tryz_clone_i (H3.sees 0 rfl) (by omega)) (fun hS _ _ r _ => hS.trans r.1.no) (fun v22 w56 r22 => ?_)
    obtain ⟨e56, r22⟩ := r22
    obtain ⟨fp22, H57⟩ := H3.res e56 r22
    obtain ⟨a22, k22, q23⟩ := own_slice (H57.mine 2 rfl)
    cases q23
    refine d_fork (l1 := [(5, false), (7, false), (9, true), (8, false), (10, false), (11, true), (12, false), (13, true), (14, false)]) (l2 := [(7, false), (9, true), (5, false), (8, false), (10, false), (11, true), (12, false), (13, true), (14, false)]) rfl rfl rfl rfl ?_ ?_
    ·refine d_call rfl (wn rfl) rfl rfl (pc_call Tryz.func151 rfl Tryz_nm151 rfl) (Tryz_clone_b (H57.sees 1 rfl) (by omega)) (fun hS _ _ r _ => hS.trans r.1.no) (fun v23 w57 r23 => ?_)
     obtain ⟨e57, r23⟩ := r23
     obtain ⟨fp23, H58⟩ := H57.res e57 r23
     obtain ⟨a23, k23, q24⟩ := own_slice (H58.mine 3 rfl)
     cases q24
     refine d_end rfl (wn rfl) rfl rfl (py_load tu45 rfl rfl (cell_atL (H58.box 0 rfl) rfl)) (dV rfl rfl (fun zw hx => py_field tu68 rfl ts25 rfl rfl) (d_call rfl (wn rfl) rfl rfl (pc_call Tryz.func151 rfl Tryz_nm151 rfl) (Tryz_clone_b (H58.sees 2 rfl) (by omega)) (fun hS _ _ r _ => hS.trans r.1.no) (fun v24 w58 r24 => ?_)))
     obtain ⟨e58, r24⟩ := r24
     obtain ⟨fp24, H59⟩ := H58.res e58 r24
     obtain ⟨a24, k24, q25⟩ := own_slice (H59.mine 4 rfl)
     cases q25
     refine d_sto rfl (wn rfl) ts25 rfl rfl rfl H59 0 rfl rfl (fun _ h e _ => h.trans (e.mono fun _ _ q => by simp [q])) (fun w59 e59 H60 => ?_)
     dsimp only [lNA, lCA, lSZ, lSS, layL] at H60
     refine dV rfl rfl (fun zw hx => py_field tu68 rfl ts45 rfl rfl) (d_sto rfl (wn rfl) ts45 rfl rfl rfl H60 0 rfl rfl (fun _ h e _ => h.trans (e.mono fun _ _ q => by simp [q])) (fun w60 e60 H61 => ?_))
     dsimp only [lNA, lCA, lSZ, lSS, layL] at H61
     refine dV rfl rfl (fun zw hx => py_field tu68 rfl ts45 rfl rfl) (d_sto rfl (wn rfl) ts45 rfl rfl rfl H61 0 rfl rfl (fun _ h e _ => h.trans (e.mono fun _ _ q => by simp [q])) (fun w61 e61 H62 => ?_))
     dsimp only [lNA, lCA, lSZ, lSS, layL] at H62
     refine d_nil (W_sr (sV rfl (py_loadS tu68 rfl ts68 rfl rfl (At.whole (H62.box 0 rfl))) (s_stoS (wn rfl) ts68 rfl rfl rfl rfl H62 1 rfl rfl (fun w62 e62 H63 => ?_))))
     dsimp only [lNA, lCA, lSZ, lSS, layL] at H63
     refine s_nil (W_ret (hQ _ _ (finC Tryz.results74 rfl (run_loadVarS tu68 rfl ts68 rfl (At.whole (H63.box 1 rfl))) ?_)))
     exact ⟨H63.ext, _, _, _, _, _, _, rfl, Rec.out (H63.sub (.cons _ (.cons _ (.cons_cons _ (.cons_cons _ (.cons_cons _ List.Sublist.slnil)))))) (by assumption)⟩
    ·refine d_end rfl (wn rfl) rfl rfl (py_load tu45 rfl rfl (cell_atL (H57.box 0 rfl) rfl)) (dV rfl rfl (fun zw hx => py_field tu68 rfl ts25 rfl rfl) (d_call rfl (wn rfl) rfl rfl (pc_call Tryz.func151 rfl Tryz_nm151 rfl) (Tryz_clone_b (H57.sees 1 rfl) (by omega)) (fun hS _ _ r _ => hS.trans r.1.no) (fun v25 w63 r25 => ?_)))
     obtain ⟨e63, r25⟩ := r25
     obtain ⟨fp25, H64⟩ := H57.res e63 r25
     obtain ⟨a25, k25, q26⟩ := own_slice (H64.mine 3 rfl)
     cases q26
     refine d_call rfl (wn rfl) rfl rfl (pc_call Tryz.func151 rfl Tryz_nm151 rfl) (Tryz_clone_b (H64.sees 2 rfl) (by omega)) (fun hS _ _ r _ => hS.trans r.1.no) (fun v26 w64 r26 => ?_)
     obtain ⟨e64, r26⟩ := r26
     obtain ⟨fp26, H65⟩ := H64.res e64 r26
     obtain ⟨a26, k26, q27⟩ := own_slice (H65.mine 4 rfl)
     cases q27
     refine d_sto rfl (wn rfl) ts25 rfl rfl rfl H65 0 rfl rfl (fun _ h e _ => h.trans (e.mono fun _ _ q => by simp [q])) (fun w65 e65 H66 => ?_)
     dsimp only [lNA, lCA, lSZ, lSS, layL] at H66
     refine dV rfl rfl (fun zw hx => py_field tu68 rfl ts45 rfl rfl) (d_sto rfl (wn rfl) ts45 rfl rfl rfl H66 0 rfl rfl (fun _ h e _ => h.trans (e.mono fun _ _ q => by simp [q])) (fun w66 e66 H67 => ?_))
     dsimp only [lNA, lCA, lSZ, lSS, layL] at H67
     refine dV rfl rfl (fun zw hx => py_field tu68 rfl ts45 rfl rfl) (d_sto rfl (wn rfl) ts45 rfl rfl rfl H67 0 rfl rfl (fun _ h e _ => h.trans (e.mono fun _ _ q => by simp [q])) (fun w67 e67 H68 => ?_))
     dsimp only [lNA, lCA, lSZ, lSS, layL] at H68
     refine d_nil (W_sr (sV rfl (py_loadS tu68 rfl ts68 rfl rfl (At.whole (H68.box 0 rfl))) (s_stoS (wn rfl) ts68 rfl rfl rfl rfl H68 1 rfl rfl (fun w68 e68 H69 => ?_))))
     dsimp only [lNA, lCA, lSZ, lSS, layL] at H69
     refine s_nil (W_ret (hQ _ _ (finC Tryz.results74 rfl (run_loadVarS tu68 rfl ts68 rfl (At.whole (H69.box 1 rfl))) ?_)))
     exact ⟨H69.ext, _, _, _, _, _, _, rfl, Rec.out (H69.sub (.cons _ (.cons _ (.cons_cons _ (.cons_cons _ (.cons_cons _ List.Sublist.slnil)))))) (by assumption)⟩
   ·refine d_end rfl (wn rfl) rfl rfl (py_load tu45 rfl rfl (cell_atL (H3.box 0 rfl) rfl)) (d_call rfl (wn rfl) rfl rfl (pc_call Tryz.func150 rfl Tryz_nm150 rfl) (Tryz_clone_i (H3.sees 0 rfl) (by omega)) (fun hS _ _ r _ => hS.trans r.1.no) (fun v27 w69 r27 => ?_))
    obtain ⟨e69, r27⟩ := r27
    obtain ⟨fp27, H70⟩ := H3.res e69 r27
    obtain ⟨a27, k27, q28⟩ := own_slice (H70.mine 2 rfl)
    cases q28
    refine dV rfl rfl (fun zw hx => py_field tu68 rfl ts25 rfl rfl) (d_call rfl (wn rfl) rfl rfl (pc_call Tryz.func151 rfl Tryz_nm151 rfl) (Tryz_clone_b (H70.sees 1 rfl) (by omega)) (fun hS _ _ r _ => hS.trans r.1.no) (fun v28 w70 r28 => ?_))
    obtain ⟨e70, r28⟩ := r28
    obtain ⟨fp28, H71⟩ := H70.res e70 r28
    obtain ⟨a28, k28, q29⟩ := own_slice (H71.mine 3 rfl)
    cases q29
    refine d_call rfl (wn rfl) rfl rfl (pc_call Tryz.func151 rfl Tryz_nm151 rfl) (Tryz_clone_b (H71.sees 2 rfl) (by omega)) (fun hS _ _ r _ => hS.trans r.1.no) (fun v29 w71 r29 => ?_)
    obtain ⟨e71, r29⟩ := r29
    obtain ⟨fp29, H72⟩ := H71.res e71 r29
    obtain ⟨a29, k29, q30⟩ := own_slice (H72.mine 4 rfl)
    cases q30
    refine d_sto rfl (wn rfl) ts25 rfl rfl rfl H72 0 rfl rfl (fun _ h e _ => h.trans (e.mono fun _ _ q => by simp [q])) (fun w72 e72 H73 => ?_)
    dsimp only [lNA, lCA, lSZ, lSS, layL] at H73
    refine dV rfl rfl (fun zw hx => py_field tu68 rfl ts45 rfl rfl) (d_sto rfl (wn rfl) ts45 rfl rfl rfl H73 0 rfl rfl (fun _ h e _ => h.trans (e.mono fun _ _ q => by simp [q])) (fun w73 e73 H74 => ?_))
    dsimp only [lNA, lCA, lSZ, lSS, layL] at H74
    refine dV rfl rfl (fun zw hx => py_field tu68 rfl ts45 rfl rfl) (d_sto rfl (wn rfl) ts45 rfl rfl rfl H74 0 rfl rfl (fun _ h e _ => h.trans (e.mono fun _ _ q => by simp [q])) (fun w74 e74 H75 => ?_))
    dsimp only [lNA, lCA, lSZ, lSS, layL] at H75
    refine d_nil (W_sr (sV rfl (py_loadS tu68 rfl ts68 rfl rfl (At.whole (H75.box 0 rfl))) (s_stoS (wn rfl) ts68 rfl rfl rfl rfl H75 1 rfl rfl (fun w75 e75 H76 => ?_))))
    dsimp only [lNA, lCA, lSZ, lSS, layL] at H76
    refine s_nil (W_ret (hQ _ _ (finC Tryz.results74 rfl (run_loadVarS tu68 rfl ts68 rfl (At.whole (H76.box 1 rfl))) ?_)))
    exact ⟨H76.ext, _, _, _, _, _, _, rfl, Rec.out (H76.sub (.cons _ (.cons _ (.cons_cons _ (.cons_cons _ (.cons_cons _ List.Sublist.slnil)))))) (by assumption)⟩
  ·refine d_end rfl (wn rfl) rfl rfl (py_load tu45 rfl rfl (cell_atL (H3.box 0 rfl) rfl)) (d_end rfl (wn rfl) rfl rfl (py_load tu25 rfl rfl (cell_atL (H3.box 0 rfl) rfl)) (d_call rfl (wn rfl) rfl rfl (pc_call Tryz.func150 rfl Tryz_nm150 rfl) (Tryz_clone_i (H3.sees 0 rfl) (by omega)) (fun hS _ _ r _ => hS.trans r.1.no) (fun v30 w76 r30 => ?_)))
   obtain ⟨e76, r30⟩ := r30
   obtain ⟨fp30, H77⟩ := H3.res e76 r30
   obtain ⟨a30, k30, q31⟩ := own_slice (H77.mine 2 rfl)
   cases q31
   refine dV rfl rfl (fun zw hx => py_field tu68 rfl ts25 rfl rfl) (d_call rfl (wn rfl) rfl rfl (pc_call Tryz.func151 rfl Tryz_nm151 rfl) (Tryz_clone_b (H77.sees 1 rfl) (by omega)) (fun hS _ _ r _ => hS.trans r.1.no) (fun v31 w77 r31 => ?_))
   obtain ⟨e77, r31⟩ := r31
   obtain ⟨fp31, H78⟩ := H77.res e77 r31
   obtain ⟨a31, k31, q32⟩ := own_slice (H78.mine 3 rfl)
   cases q32
   refine d_call rfl (wn rfl) rfl rfl (pc_call Tryz.func151 rfl Tryz_nm151 rfl) (Tryz_clone_b (H78.sees 2 rfl) (by omega)) (fun hS _ _ r _ => hS.trans r.1.no) (fun v32 w78 r32 => ?_)
   obtain ⟨e78, r32⟩ := r32
   obtain ⟨fp32, H79⟩ := H78.res e78 r32
   obtain ⟨a32, k32, q33⟩ := own_slice (H79.mine 4 rfl)
   cases q33
   refine d_sto rfl (wn rfl) ts25 rfl rfl rfl H79 0 rfl rfl (fun _ h e _ => h.trans (e.mono fun _ _ q => by simp [q])) (fun w79 e79 H80 => ?_)
   dsimp only [lNA, lCA, lSZ, lSS, layL] at H80
   refine dV rfl rfl (fun zw hx => py_field tu68 rfl ts45 rfl rfl) (d_sto rfl (wn rfl) ts45 rfl rfl rfl H80 0 rfl rfl (fun _ h e _ => h.trans (e.mono fun _ _ q => by simp [q])) (fun w80 e80 H81 => ?_))
   dsimp only [lNA, lCA, lSZ, lSS, layL] at H81
   refine dV rfl rfl (fun zw hx => py_field tu68 rfl ts45 rfl rfl) (d_sto rfl (wn rfl) ts45 rfl rfl rfl H81 0 rfl rfl (fun _ h e _ => h.trans (e.mono fun _ _ q => by simp [q])) (fun w81 e81 H82 => ?_))
   dsimp only [lNA, lCA, lSZ, lSS, layL] at H82
   refine d_nil (W_sr (sV rfl (py_loadS tu68 rfl ts68 rfl rfl (At.whole (H82.box 0 rfl))) (s_stoS (wn rfl) ts68 rfl rfl rfl rfl H82 1 rfl rfl (fun w82 e82 H83 => ?_))))
   dsimp only [lNA, lCA, lSZ, lSS, layL] at H83
   refine s_nil (W_ret (hQ _ _ (finC Tryz.results74 rfl (run_loadVarS tu68 rfl ts68 rfl (At.whole (H83.box 1 rfl))) ?_)))
   exact ⟨H83.ext, _, _, _, _, _, _, rfl, Rec.out (H83.sub (.cons _ (.cons _ (.cons_cons _ (.cons_cons _ (.cons_cons _ List.Sublist.slnil)))))) (by assumption)⟩
 ·refine d_end rfl (wn rfl) rfl rfl (py_load tu45 rfl rfl (cell_atL (H3.box 0 rfl) rfl)) (d_fork (l1 := [(1, false), (1010, false), (2, false), (4, false), (9, true), (5, false), (8, false), (10, false), (11, true), (12, false), (13, true), (14, false), (4, false), (2, false), (9, true), (5, false), (8, false), (10, false), (11, true), (12, false), (13, true), (14, false)]) (l2 := [(4, false), (1, false), (2, false), (9, true), (5, false), (8, false), (10, false), (11, true), (12, false), (13, true), (14, false)]) rfl rfl rfl rfl ?_ ?_)
  ·refine d_end rfl (wn rfl) rfl rfl (py_load tu25 rfl rfl (cell_atL (H3.box 0 rfl) rfl)) (d_fork (l1 := [(2, false), (4, false), (9, true), (5, false), (8, false), (10, false), (11, true), (12, false), (13, true), (14, false)]) (l2 := [(4, false), (2, false), (9, true), (5, false), (8, false), (10, false), (11, true), (12, false), (13, true), (14, false)]) rfl rfl rfl rfl ?_ ?_)
   ·refine d_call rfl (wn rfl) rfl rfl (pc_call Tryz.func150 rfl Tryz_nm150 rfl) (Tryz_clone_i (H3.sees 0 rfl) (by omega)) (fun hS _ _ r _ => hS.trans r.1.no) (fun v33 w83 r33 => ?_)
    obtain ⟨e83, r33⟩ := r33
    obtain ⟨fp33, H84⟩ := H3.res e83 r33
    obtain ⟨a33, k33, q34⟩ := own_slice (H84.mine 2 rfl)
    cases q34
    refine d_end rfl (wn rfl) rfl rfl (py_load tu45 rfl rfl (cell_atL (H84.box 0 rfl) rfl)) (dV rfl rfl (fun zw hx => py_field tu68 rfl ts25 rfl rfl) (d_call rfl (wn rfl) rfl rfl (pc_call Tryz.func151 rfl Tryz_nm151 rfl) (Tryz_clone_b (H84.sees 1 rfl) (by omega)) (fun hS _ _ r _ => hS.trans r.1.no) (fun v34 w84 r34 => ?_)))
    obtain ⟨e84, r34⟩ := r34
    obtain ⟨fp34, H85⟩ := H84.res e84 r34
    obtain ⟨a34, k34, q35⟩ := own_slice (H85.mine 3 rfl)
    cases q35
    refine d_call rfl (wn rfl) rfl rfl (pc_call Tryz.func151 rfl Tryz_nm151 rfl) (Tryz_clone_b (H85.sees 2 rfl) (by omega)) (fun hS _ _ r _ => hS.trans r.1.no) (fun v35 w85 r35 => ?_)
    obtain ⟨e85, r35⟩ := r35
    obtain ⟨fp35, H86⟩ := H85.res e85 r35
    obtain ⟨a35, k35, q36⟩ := own_slice (H86.mine 4 rfl)
    cases q36
    refine d_sto rfl (wn rfl) ts25 rfl rfl rfl H86 0 rfl rfl (fun _ h e _ => h.trans (e.mono fun _ _ q => by simp [q])) (fun w86 e86 H87 => ?_)
    dsimp only [lNA, lCA, lSZ, lSS, layL] at H87
    refine dV rfl rfl (fun zw hx => py_field tu68 rfl ts45 rfl rfl) (d_sto rfl (wn rfl) ts45 rfl rfl rfl H87 0 rfl rfl (fun _ h e _ => h.trans (e.mono fun _ _ q => by simp [q])) (fun w87 e87 H88 => ?_))
    dsimp only [lNA, lCA, lSZ, lSS, layL] at H88
    refine dV rfl rfl (fun zw hx => py_field tu68 rfl ts45 rfl rfl) (d_sto rfl (wn rfl) ts45 rfl rfl rfl H88 0 rfl rfl (fun _ h e _ => h.trans (e.mono fun _ _ q => by simp [q])) (fun w88 e88 H89 => ?_))
    dsimp only [lNA, lCA, lSZ, lSS, layL] at H89
    refine d_nil (W_sr (sV rfl (py_loadS tu68 rfl ts68 rfl rfl (At.whole (H89.box 0 rfl))) (s_stoS (wn rfl) ts68 rfl rfl rfl rfl H89 1 rfl rfl (fun w89 e89 H90 => ?_))))
    dsimp only [lNA, lCA, lSZ, lSS, layL] at H90
    refine s_nil (W_ret (hQ _ _ (finC Tryz.results74 rfl (run_loadVarS tu68 rfl ts68 rfl (At.whole (H90.box 1 rfl))) ?_)))
    exact ⟨H90.ext, _, _, _, _, _, _, rfl, Rec.out (H90.sub (.cons _ (.cons _ (.cons_cons _ (.cons_cons _ (.cons_cons _ List.Sublist.slnil)))))) (by assumption)⟩
   ·refine d_end rfl (wn rfl) rfl rfl (py_load tu45 rfl rfl (cell_atL (H3.box 0 rfl) rfl)) (d_call rfl (wn rfl) rfl rfl (pc_call Tryz.func150 rfl Tryz_nm150 rfl) (Tryz_clone_i (H3.sees 0 rfl) (by omega)) (fun hS _ _ r _ => hS.trans r.1.no) (fun v36 w90 r36 => ?_))
    obtain ⟨e90, r36⟩ := r36
    obtain ⟨fp36, H91⟩ := H3.res e90 r36
    obtain ⟨a36, k36, q37⟩ := own_slice (H91.mine 2 rfl)
    cases q37
    refine dV rfl rfl (fun zw hx => py_field tu68 rfl ts25 rfl rfl) (d_call rfl (wn rfl) rfl rfl (pc_call Tryz.func151 rfl Tryz_nm151 rfl) (Tryz_clone_b (H91.sees 1 rfl) (by omega)) (fun hS _ _ r _ => hS.trans r.1.no) (fun v37 w91 r37 => ?_))
    obtain ⟨e91, r37⟩ := r37
    obtain ⟨fp37, H92⟩ := H91.res e91 r37
    obtain ⟨a37, k37, q38⟩ := own_slice (H92.mine 3 rfl)
    cases q38
    refine d_call rfl (wn rfl) rfl rfl (pc_call Tryz.func151 rfl Tryz_nm151 rfl) (Tryz_clone_b (H92.sees 2 rfl) (by omega)) (fun hS _ _ r _ => hS.trans r.1.no) (fun v38 w92 r38 => ?_)
    obtain ⟨e92, r38⟩ := r38
    obtain ⟨fp38, H93⟩ := H92.res e92 r38
    obtain ⟨a38, k38, q39⟩ := own_slice (H93.mine 4 rfl)
    cases q39
    refine d_sto rfl (wn rfl) ts25 rfl rfl rfl H93 0 rfl rfl (fun _ h e _ => h.trans (e.mono fun _ _ q => by simp [q])) (fun w93 e93 H94 => ?_)
    dsimp only [lNA, lCA, lSZ, lSS, layL] at H94
    refine dV rfl rfl (fun zw hx => py_field tu68 rfl ts45 rfl rfl) (d_sto rfl (wn rfl) ts45 rfl rfl rfl H94 0 rfl rfl (fun _ h e _ => h.trans (e.mono fun _ _ q => by simp [q])) (fun w94 e94 H95 => ?_))
    dsimp only [lNA, lCA, lSZ, lSS, layL] at H95
    refine dV rfl rfl (fun zw hx => py_field tu68 rfl ts45 rfl rfl) (d_sto rfl (wn rfl) ts45 rfl rfl rfl H95 0 rfl rfl (fun _ h e _ => h.trans (e.mono fun _ _ q => by simp [q])) (fun w95 e95 H96 => ?_))
    dsimp only [lNA, lCA, lSZ, lSS, layL] at H96
    refine d_nil (W_sr (sV rfl (py_loadS tu68 rfl ts68 rfl rfl (At.whole (H96.box 0 rfl))) (s_stoS (wn rfl) ts68 rfl rfl rfl rfl H96 1 rfl rfl (fun w96 e96 H97 => ?_))))
    dsimp only [lNA, lCA, lSZ, lSS, layL] at H97
    refine s_nil (W_ret (hQ _ _ (finC Tryz.results74 rfl (run_loadVarS tu68 rfl ts68 rfl (At.whole (H97.box 1 rfl))) ?_)))
    exact ⟨H97.ext, _, _, _, _, _, _, rfl, Rec.out (H97.sub (.cons _ (.cons _ (.cons_cons _ (.cons_cons _ (.cons_cons _ List.Sublist.slnil)))))) (by assumption)⟩
  ·refine d_end rfl (wn rfl) rfl rfl (py_load tu45 rfl rfl (cell_atL (H3.box 0 rfl) rfl)) (d_end rfl (wn rfl) rfl rfl (py_load tu25 rfl rfl (cell_atL (H3.box 0 rfl) rfl)) (d_call rfl (wn rfl) rfl rfl (pc_call Tryz.func150 rfl Tryz_nm150 rfl) (Tryz_clone_i (H3.sees 0 rfl) (by omega)) (fun hS _ _ r _ => hS.trans r.1.no) (fun v39 w97 r39 => ?_)))
   obtain ⟨e97, r39⟩ := r39
   obtain ⟨fp39, H98⟩ := H3.res e97 r39
   obtain ⟨a39, k39, q40⟩ := own_slice (H98.mine 2 rfl)
   cases q40
   refine dV rfl rfl (fun zw hx => py_field tu68 rfl ts25 rfl rfl) (d_call rfl (wn rfl) rfl rfl (pc_call Tryz.func151 rfl Tryz_nm151 rfl) (Tryz_clone_b (H98.sees 1 rfl) (by omega)) (fun hS _ _ r _ => hS.trans r.1.no) (fun v40 w98 r40 => ?_))
   obtain ⟨e98, r40⟩ := r40
   obtain ⟨fp40, H99⟩ := H98.res e98 r40
   obtain ⟨a40, k40, q41⟩ := own_slice (H99.mine 3 rfl)
   cases q41
   refine d_call rfl (wn rfl) rfl rfl (pc_call Tryz.func151 rfl Tryz_nm151 rfl) (Tryz_clone_b (H99.sees 2 rfl) (by omega)) (fun hS _ _ r _ => hS.trans r.1.no) (fun v41 w99 r41 => ?_)
   obtain ⟨e99, r41⟩ := r41
   obtain ⟨fp41, H100⟩ := H99.res e99 r41
   obtain ⟨a41, k41, q42⟩ := own_slice (H100.mine 4 rfl)
   cases q42
   refine d_sto rfl (wn rfl) ts25 rfl rfl rfl H100 0 rfl rfl (fun _ h e _ => h.trans (e.mono fun _ _ q => by simp [q])) (fun w100 e100 H101 => ?_)
   dsimp only [lNA, lCA, lSZ, lSS, layL] at H101
   refine dV rfl rfl (fun zw hx => py_field tu68 rfl ts45 rfl rfl) (d_sto rfl (wn rfl) ts45 rfl rfl rfl H101 0 rfl rfl (fun _ h e _ => h.trans (e.mono fun _ _ q => by simp [q])) (fun w101 e101 H102 => ?_))
   dsimp only [lNA, lCA, lSZ, lSS, layL] at H102
   refine dV rfl rfl (fun zw hx => py_field tu68 rfl ts45 rfl rfl) (d_sto rfl (wn rfl) ts45 rfl rfl rfl H102 0 rfl rfl (fun _ h e _ => h.trans (e.mono fun _ _ q => by simp [q])) (fun w102 e102 H103 => ?_))
   dsimp only [lNA, lCA, lSZ, lSS, layL] at H103
   refine d_nil (W_sr (sV rfl (py_loadS tu68 rfl ts68 rfl rfl (At.whole (H103.box 0 rfl))) (s_stoS (wn rfl) ts68 rfl rfl rfl rfl H103 1 rfl rfl (fun w103 e103 H104 => ?_))))
   dsimp only [lNA, lCA, lSZ, lSS, layL] at H104
   refine s_nil (W_ret (hQ _ _ (finC Tryz.results74 rfl (run_loadVarS tu68 rfl ts68 rfl (At.whole (H104.box 1 rfl))) ?_)))
   exact ⟨H104.ext, _, _, _, _, _, _, rfl, Rec.out (H104.sub (.cons _ (.cons _ (.cons_cons _ (.cons_cons _ (.cons_cons _ List.Sublist.slnil)))))) (by assumption)⟩
theorem Tryz_spec_l5CopyRec {w : World} {r : Rec} {rA6 rA7 rA8 : Option Addr} {rC6 rC7 rC8 : Nat} (rK : r.Ok) (rS6 : Sees w [.slice rA6 r.Rows.length rC6] r.Rows) (rS7 : Sees w [.slice rA7 r.Data.length rC7] r.Data) (rS8 : Sees w [.slice rA8 r.Delta.length rC8] r.Delta) (hb : szRec r ≤ 1048576) : Ret Tryz.prog 65 #[r.val rA6 rC6 rA7 rC7 rA8 rC8] w fun v w' => Ext No w w' ∧ (∃ A6 C6 A7 C7 A8 C8, v = r.val A6 C6 A7 C7 A8 C8 ∧ Res w w' [.int .i64 r.Kind, .int .i64 r.Seq, .string r.Name, .int .i64 r.Length, .int .i64 r.Group, .int .i64 r.Row, .slice A6 r.Rows.length C6, .slice A7 r.Data.length C7, .slice A8 r.Delta.length C8] r) := by
 have rK2 := rK
 unfold Rec.Ok at rK2
 try unfold I64ok at rK2
 try unfold maxLen at rK2
 have rN2 : r.Name.size ≤ maxLen := by unfold maxLen; omega
 have rL6 := sL rS6
 obtain ⟨rF6, rO6⟩ := rS6
 have rL7 := sL rS7
 obtain ⟨rF7, rO7⟩ := rS7
 have rL8 := sL rS8
 obtain ⟨rF8, rO8⟩ := rS8
 unfold szRec at hb
 refine ret_Q (vs := [r.val rA6 rC6 rA7 rC7 rA8 rC8]) Tryz.func65 rfl Tryz.ntmps65 rfl (fun Q hQ hN => ?_)
 have H0 := Sep.start (w := w) (F := [seen false [.slice rA6 r.Rows.length rC6] r.Rows rF6, seen false [.slice rA7 r.Data.length rC7] r.Data rF7, seen false [.slice rA8 r.Delta.length rC8] r.Delta rF8]) (all_cons rO6 (all_cons rO7 (all_cons rO8 (by simp))))
 refine W_sr (s_box (wn rfl) rfl rfl H0 (fun b1 w1 e1 g1 H1 => ?_))
 refine s_var (wn rfl) rfl Tryz.zeroValue68 H1 (fun b2 w2 e2 g2 H2 => ?_)
 refine s_nil (W_sr (s_lit0 (α := Int) (wn rfl) rfl tu25 Tryz_ty2 H2 (fun b3 w3 e3 g3 H3 => ?_)))
 refine sV rfl (py_field tu68 rfl ts25 rfl rfl) (sV rfl (py_load tu25 rfl rfl (cell_atL (H3.box 0 rfl) rfl)) (s_appF (wn rfl) rfl tu25 Tryz_ty2 rfl rfl rfl H3 2 rfl (H3.seen 0 rfl) (by (try simp only [List.length_nil]); unfold maxLen; omega) (by (try simp only [List.length_nil]); omega) (fun v1 w4 fp1 H4 => ?_)))
 refine sV rfl (py_field tu68 rfl ts25 rfl rfl) ?_
 obtain ⟨a1, k1, q1⟩ := own_slice (H4.mine 2 rfl)
 cases q1
 refine s_sto (wn rfl) ts25 rfl rfl rfl H4 0 rfl rfl (fun w5 e4 H5 => ?_)
 dsimp only [lNA, lCA, lSZ, lSS, layL] at H5
 refine s_nil (W_sr (s_lit0 (α := UInt8) (wn rfl) rfl tu45 Tryz_ty5 H5 (fun b4 w6 e5 g4 H6 => ?_)))
 refine sV rfl (py_field tu68 rfl ts45 rfl rfl) (sV rfl (py_load tu45 rfl rfl (cell_atL (H6.box 0 rfl) rfl)) (s_appF (wn rfl) rfl tu45 Tryz_ty5 rfl rfl rfl H6 3 rfl (H6.seen 1 rfl) (by (try simp only [List.length_nil]); unfold maxLen; omega) (by (try simp only [List.length_nil]); omega) (fun v2 w7 fp2 H7 => ?_)))
 refine sV rfl (py_field tu68 rfl ts45 rfl rfl) ?_
 obtain ⟨a2, k2, q2⟩ := own_slice (H7.mine 3 rfl)
 cases q2
 refine s_sto (wn rfl) ts45 rfl rfl rfl H7 0 rfl rfl (fun w8 e6 H8 => ?_)
 dsimp only [lNA, lCA, lSZ, lSS, layL] at H8
 refine s_nil (W_sr (s_lit0 (α := UInt8) (wn rfl) rfl tu45 Tryz_ty5 H8 (fun b5 w9 e7 g5 H9 => ?_)))
 refine sV rfl (py_field tu68 rfl ts45 rfl rfl) (sV rfl (py_load tu45 rfl rfl (cell_atL (H9.box 0 rfl) rfl)) (s_appF (wn rfl) rfl tu45 Tryz_ty5 rfl rfl rfl H9 4 rfl (H9.seen 2 rfl) (by (try simp only [List.length_nil]); unfold maxLen; omega) (by (try simp only [List.length_nil]); omega) (fun v3 w10 fp3 H10 => ?_)))
 refine sV rfl (py_field tu68 rfl ts45 rfl rfl) ?_
 obtain ⟨a3, k3, q3⟩ := own_slice (H10.mine 4 rfl)
 cases q3
 refine s_sto (wn rfl) ts45 rfl rfl rfl H10 0 rfl rfl (fun w11 e8 H11 => ?_)
 dsimp only [lNA, lCA, lSZ, lSS, layL] at H11
 refine s_nil (W_sr (sV rfl (py_loadS tu68 rfl ts68 rfl rfl (At.whole (H11.box 0 rfl))) (s_stoS (wn rfl) ts68 rfl rfl rfl rfl H11 1 rfl rfl (fun w12 e9 H12 => ?_))))
 dsimp only [lNA, lCA, lSZ, lSS, layL] at H12
 refine s_nil (W_ret (hQ _ _ (finC Tryz.results65 rfl (run_loadVarS tu68 rfl ts68 rfl (At.whole (H12.box 1 rfl))) ?_)))
 exact ⟨H12.ext, _, _, _, _, _, _, rfl, Rec.out (H12.sub (.cons _ (.cons _ (.cons_cons _ (.cons_cons _ (.cons_cons _ List.Sublist.slnil)))))) (by assumption)⟩
theorem Tryz_impl_cloneRecs {w : World} {xs : List Rec} {xsA : Option Addr} {xsC : Nat} (xsS : Sees w [.slice xsA xs.length xsC] xs) (hl : szL szRec xs ≤ 1048576) : Ret Tryz.prog 108 #[.slice xsA xs.length xsC] w fun v w' => Ext No w w' ∧ (Res w w' [v] xs) := by
 have xsL := sL xsS
 obtain ⟨xsF, xsO⟩ := xsS
 have hl0 : xs.length ≤ 1048576 := by unfold szL at hl; omega
 refine ret_Q (vs := [.slice xsA xs.length xsC]) Tryz.func108 rfl Tryz.ntmps108 rfl (fun Q hQ hN => ?_)
 have H0 := Sep.start (w := w) (F := [seen false [.slice xsA xs.length xsC] xs xsF]) (all_cons xsO (by simp))
 refine W_sr (sA rfl rfl (s_nil (W_sr (s_lit0 (α := Rec) (wn rfl) rfl tu30 Tryz_ty68 H0 (fun b1 w1 e1 g1 H1 => ?_)))))
 refine sA rfl rfl (s_nil (W_seq (W_sr (sM rfl rfl (sV rfl (py_len tu30 rfl) (sM rfl rfl (s_nil (W_block (W_loopA (α := Rec) (γ := Nat) (fun k => xs.take k) 0 H1 0 rfl 3 rfl [(2, _), (7, _), (8, _)] ⟨rfl, rfl, rfl, trivial⟩ (fun k => [(9, .int .i64 k)]) (fun k => k ≤ xs.length ∧ True) (fun k => xs.length - k) ⟨rfl, trivial⟩ ⟨by omega, trivial⟩ (fun k vA1 fA1 w2 H2 ⟨hk, _⟩ => ?_))))))))))
 dsimp only [lCA, lNA, lSZ, lSS] at H2 ⊢
 refine W_sr (sV rfl (py_lss rfl rfl) (s_nil (W_seq (W_ifd rfl (fun c1 => ?_) (fun c1 => ?_)))))
 ·refine W_skip (W_seq (W_block (W_seq ?_)))
  obtain ⟨hg, hg2⟩ := szL_get hl k (by omega)
  have tl := List.length_take (i := k) (l := xs)
  obtain ⟨eb1, eo1, es1, ef1, ee1, ec1, eO1, eH1, em1⟩ := elem_st (H2.seen 0 rfl) k (by omega)
  obtain ⟨ea1, ek1, ea2, ek2, ea3, ek3, eg1, eg2, eg3, rfl, eq1, eK1, eo2, eo3, eo4⟩ := own_Rec eO1
  have eK1U := eK1
  unfold Rec.Ok at eK1U
  try unfold I64ok at eK1U
  try unfold maxLen at eK1U
  have eP1 := H2.look1 0 rfl eo2 (fun b hb => eH1 b (by rw [eq1]; simp [hb]))
  have eL1 := oL eo2
  have eP2 := eP1.look1 0 rfl eo3 (fun b hb => eH1 b (by rw [eq1]; simp [hb]))
  have eL2 := oL eo3
  have eP3 := eP2.look1 0 rfl eo4 (fun b hb => eH1 b (by rw [eq1]; simp [hb]))
  have eL3 := oL eo4
  refine W_reg (sV rfl (py_elz tu30 ts68 rfl rfl ee1 k (by omega) (by omega)) (sV rfl (py_loadS tu68 rfl ts68 rfl rfl ec1) (s_var (wn rfl) rfl Tryz.zeroValue68 eP3 (fun b2 w3 e2 g2 H3 => ?_))))
  refine s_stoS (wn rfl) ts68 rfl rfl rfl rfl H3 1 rfl rfl (fun w4 e3 H4 => ?_)
  dsimp only [lNA, lCA, lSZ, lSS, layL] at H4
  refine s_nil (W_reg (sM rfl rfl (sV rfl (py_loadS tu68 rfl ts68 rfl rfl (At.whole (H4.box 1 rfl))) (s_call (wn rfl) rfl rfl (pc_call Tryz.func74 rfl Tryz_nm74 rfl) (Tryz_impl_cloneRec (by assumption) (H4.sees 1 rfl) (H4.sees 2 rfl) (H4.sees 3 rfl) (by first | assumption | omega)) (fun v1 w5 r1 => ?_)))))
  obtain ⟨e4, sa1, sk1, sa2, sk2, sa3, sk3, rfl, r1⟩ := r1
  obtain ⟨fp1, H5⟩ := H4.res e4 r1
  refine s_lit1 (wn rfl) rfl tu30 Tryz_ty68 rfl rfl rfl rfl H5 (fun b3 w6 e5 g3 H6 => ?_)
  refine s_app2 (wn rfl) rfl tu30 Tryz_ty68 rfl rfl rfl H6 0 3 2 rfl rfl rfl rfl (by unfold maxLen; omega) (by omega) (fun v2 w7 fp2 H7 => ?_)
  refine sA rfl rfl (s_nil (W_reg (sV rfl (py_add rfl rfl (in64 ⟨by omega, by omega⟩)) (sM rfl rfl (s_nil ?_)))))
  exact ⟨(k + 1, _, _), ⟨rfl, rfl, rfl, rfl, rfl, trivial⟩, ⟨by dsimp only; rw [← take_step (xs := xs) (d := default) (by omega)]; exact ((H7.ftake 1).dtake 1), by omega, trivial⟩, by dsimp only; omega⟩
 ·refine W_exit (W_seq ?_)
  obtain rfl : k = xs.length := by omega
  rw [List.take_length] at H2
  refine W_reg (sM rfl rfl (sA rfl rfl (s_nil (rT hQ Tryz.results108 rfl ?_))))
  exact ⟨H2.ext, H2.out 0 rfl⟩
theorem Tryz_spec_l5CopyRecs {w : World} {xs : List Rec} {xsA : Option Addr} {xsC : Nat} (xsS : Sees w [.slice xsA xs.length xsC] xs) (hl : szL szRec xs ≤ 1048576) : Ret Tryz.prog 94 #[.slice xsA xs.length xsC] w fun v w' => Ext No w w' ∧ (Res w w' [v] xs) := by
 have xsL := sL xsS
 obtain ⟨xsF, xsO⟩ := xsS
 have hl0 : xs.length ≤ 1048576 := by unfold szL at hl; omega
 refine ret_Q (vs := [.slice xsA xs.length xsC]) Tryz.func94 rfl Tryz.ntmps94 rfl (fun Q hQ hN => ?_)
 have H0 := Sep.start (w := w) (F := [seen false [.slice xsA xs.length xsC] xs xsF]) (all_cons xsO (by simp))
 refine W_sr (sA rfl rfl (s_nil (W_sr (s_lit0 (α := Rec) (wn rfl) rfl tu30 Tryz_ty68 H0 (fun b1 w1 e1 g1 H1 => ?_)))))
 refine sA rfl rfl (s_nil (W_seq (W_sr (sA rfl rfl (s_nil (W_block (W_loopA (α := Rec) (γ := Nat) (fun k => xs.take k) 0 H1 0 rfl 3 rfl [(0, _), (2, _)] ⟨rfl, rfl, trivial⟩ (fun k => [(4, .int .i64 k)]) (fun k => k ≤ xs.length ∧ True) (fun k => xs.length - k) ⟨rfl, trivial⟩ ⟨by omega, trivial⟩ (fun k vA1 fA1 w2 H2 ⟨hk, _⟩ => ?_))))))))
 dsimp only [lCA, lNA, lSZ, lSS] at H2 ⊢
 refine W_seq (W_sr (sM rfl rfl (sM rfl rfl (sV rfl (py_len tu30 rfl) (sV rfl (py_lss rfl rfl) (s_nil (W_ifd rfl (fun c1 => ?_) (fun c1 => ?_))))))))
 ·refine W_skip (W_seq (W_block ?_))
  obtain ⟨hg, hg2⟩ := szL_get hl k (by omega)
  have tl := List.length_take (i := k) (l := xs)
  obtain ⟨eb1, eo1, es1, ef1, ee1, ec1, eO1, eH1, em1⟩ := elem_st (H2.seen 0 rfl) k (by omega)
  obtain ⟨ea1, ek1, ea2, ek2, ea3, ek3, eg1, eg2, eg3, rfl, eq1, eK1, eo2, eo3, eo4⟩ := own_Rec eO1
  have eK1U := eK1
  unfold Rec.Ok at eK1U
  try unfold I64ok at eK1U
  try unfold maxLen at eK1U
  have eP1 := H2.look1 0 rfl eo2 (fun b hb => eH1 b (by rw [eq1]; simp [hb]))
  have eL1 := oL eo2
  have eP2 := eP1.look1 0 rfl eo3 (fun b hb => eH1 b (by rw [eq1]; simp [hb]))
  have eL2 := oL eo3
  have eP3 := eP2.look1 0 rfl eo4 (fun b hb => eH1 b (by rw [eq1]; simp [hb]))
  have eL3 := oL eo4
  refine W_reg (sM rfl rfl (sM rfl rfl (sM rfl rfl (sV rfl (py_elz tu30 ts68 rfl rfl ee1 k (by omega) (by omega)) (sV rfl (py_loadS tu68 rfl ts68 rfl rfl ec1) (s_call (wn rfl) rfl rfl (pc_call Tryz.func65 rfl Tryz_nm65 rfl) (Tryz_spec_l5CopyRec (by assumption) (eP3.sees 1 rfl) (eP3.sees 2 rfl) (eP3.sees 3 rfl) (by first | assumption | omega)) (fun v1 w3 r1 => ?_)))))))
  obtain ⟨e2, sa1, sk1, sa2, sk2, sa3, sk3, rfl, r1⟩ := r1
  obtain ⟨fp1, H3⟩ := eP3.res e2 r1
  refine s_lit1 (wn rfl) rfl tu30 Tryz_ty68 rfl rfl rfl rfl H3 (fun b2 w4 e3 g2 H4 => ?_)
  refine s_app2 (wn rfl) rfl tu30 Tryz_ty68 rfl rfl rfl H4 0 2 1 rfl rfl rfl rfl (by unfold maxLen; omega) (by omega) (fun v2 w5 fp2 H5 => ?_)
  refine sA rfl rfl (s_nil (W_reg (sM rfl rfl (sV rfl (py_add rfl rfl (in64 ⟨by omega, by omega⟩)) (sA rfl rfl (s_nil ?_))))))
  exact ⟨(k + 1, _, _), ⟨rfl, rfl, rfl, rfl, trivial⟩, ⟨by dsimp only; rw [← take_step (xs := xs) (d := default) (by omega)]; exact ((H5.ftake 1).dtake 1), by omega, trivial⟩, by dsimp only; omega⟩
 ·refine W_exit (W_seq ?_)
  obtain rfl : k = xs.length := by omega
  rw [List.take_length] at H2
  refine W_reg (sM rfl rfl (sA rfl rfl (s_nil (rT hQ Tryz.results94 rfl ?_))))
  exact ⟨H2.ext, H2.out 0 rfl⟩
theorem Tryz_spec_l5CopyBlock {w : World} {x : Block} {xA1 : Option Addr} {xC1 : Nat} (xK : x.Ok) (xS1 : Sees w [.slice xA1 x.Bytes.length xC1] x.Bytes) (hb : szBlock x ≤ 1048576) : Ret Tryz.prog 193 #[x.val xA1 xC1] w fun v w' => Ext No w w' ∧ (∃ A1 C1, v = x.val A1 C1 ∧ Res w w' [.int .i64 x.Stamp, .slice A1 x.Bytes.length C1] x) := by
 have xK2 := xK
 unfold Block.Ok at xK2
 try unfold I64ok at xK2
 try unfold maxLen at xK2
 have xL1 := sL xS1
 obtain ⟨xF1, xO1⟩ := xS1
 unfold szBlock at hb
 refine ret_Q (vs := [x.val xA1 xC1]) Tryz.func193 rfl Tryz.ntmps193 rfl (fun Q hQ hN => ?_)
 have H0 := Sep.start (w := w) (F := [seen false [.slice xA1 x.Bytes.length xC1] x.Bytes xF1]) (all_cons xO1 (by simp))
 refine W_sr (s_box (wn rfl) rfl rfl H0 (fun b1 w1 e1 g1 H1 => ?_))
 refine s_var (wn rfl) rfl Tryz.zeroValue182 H1 (fun b2 w2 e2 g2 H2 => ?_)
 refine s_nil (W_seq (W_drw (S := Ext No _) [(0, true), (1, true), (3, true), (4, true), (2, false), (5, false), (6, true), (7, false)] (by kernel_rfl) (by kernel_rfl) (by kernel_rfl) rfl (fun _ => Ext.refl.drawn _) (fun q1 => ?_)))
 have H3 := H2.drawn q1
 refine dV rfl rfl (fun zw hx => py_field tu182 rfl ts2 rfl rfl) (dV rfl rfl (fun zw hx => py_load tu2 rfl rfl (cell_atL (hx.heap (H3.box 0 rfl)) rfl)) (dV rfl rfl (fun zw hx => py_field tu182 rfl ts45 rfl rfl) (dV rfl rfl (fun zw hx => py_load tu45 rfl rfl (cell_atL (hx.heap (H3.box 0 rfl)) rfl)) (d_S (fun hs1 => ?_) (by simp)))))
 refine d_lit0 (α := UInt8) rfl (wn rfl) rfl tu45 Tryz_ty5 H3 (fun _ h e => h.trans e.no) (fun b3 w3 e3 g3 H4 => ?_)
 refine d_S (fun hs2 => ?_) (by simp)
 refine d_appFS rfl (wn rfl) rfl tu45 Tryz_ty5 rfl rfl rfl H4 2 rfl (H4.seen 0 rfl) (by (try simp only [List.length_nil]); unfold maxLen; omega) (by (try simp only [List.length_nil]); omega) (fun b hb => by simp only [List.mem_singleton] at hb; rw [hb]; exact Nat.le_trans hs1.size g3) (fun v1 w4 fp1 sb1 H5 => ?_)
 try dsimp only [lNA, lCA, lSZ, lSS] at H5
 obtain ⟨a1, k1, q2⟩ := own_slice (H5.mine 2 rfl)
 cases q2
 refine dV rfl rfl (fun zw hx => py_buildS Tryz_pl182 rfl rfl) (d_stoS rfl (wn rfl) ts182 rfl rfl rfl rfl H5 1 rfl rfl (fun _ _ _ hr => absurd rfl hr) (fun w5 e4 H6 => ?_))
 dsimp only [lNA, lCA, lSZ, lSS, layL] at H6
 refine d_nil (W_ret (hQ _ _ (finC Tryz.results193 rfl (run_loadVarS tu182 rfl ts182 rfl (At.whole (H6.box 1 rfl))) ?_)))
 exact ⟨H6.ext, _, _, rfl, Block.out (H6.sub (.cons _ (.cons _ (.cons_cons _ List.Sublist.slnil)))) (by assumption)⟩
theorem Tryz_impl_cloneDrive {w : World} {x : Drive} {xA1 : Option Addr} {xC1 : Nat} (xK : x.Ok) (xS1 : Sees w [.slice xA1 x.Blocks.length xC1] x.Blocks) (hb : szDrive x ≤ 1048576) : Ret Tryz.prog 206 #[x.val xA1 xC1] w fun v w' => Ext No w w' ∧ (∃ A1 C1, v = x.val A1 C1 ∧ Res w w' [.bool x.Wiped, .slice A1 x.Blocks.length C1] x) := by
 have xK2 := xK
 unfold Drive.Ok at xK2
 try unfold I64ok at xK2
 try unfold maxLen at xK2
 have xL1 := sL xS1
 obtain ⟨xF1, xO1⟩ := xS1
 unfold szDrive at hb
 have hl0 : x.Blocks.length ≤ 1048576 := by unfold szL at hb; omega
 refine ret_Q (vs := [x.val xA1 xC1]) Tryz.func206 rfl Tryz.ntmps206 rfl (fun Q hQ hN => ?_)
 have H0 := Sep.start (w := w) (F := [seen false [.slice xA1 x.Blocks.length xC1] x.Blocks xF1]) (all_cons xO1 (by simp))
 refine W_sr (s_box (wn rfl) rfl rfl H0 (fun b1 w1 e1 g1 H1 => ?_))
 refine s_var (wn rfl) rfl Tryz.zeroValue180 H1 (fun b2 w2 e2 g2 H2 => ?_)
 refine s_nil (W_sr (sV rfl (py_field tu180 rfl ts4 rfl rfl) (sV rfl (py_load tu4 rfl rfl (cell_atL (H2.box 0 rfl) rfl)) (sV rfl (py_buildS Tryz_pl180 rfl rfl) (s_var (wn rfl) rfl Tryz.zeroValue180 H2 (fun b3 w3 e3 g3 H3 => ?_))))))
 refine s_stoS (wn rfl) ts180 rfl rfl rfl rfl H3 2 rfl rfl (fun w4 e4 H4 => ?_)
 dsimp only [lNA, lCA, lSZ, lSS, layL] at H4
 refine s_nil (W_seq (W_sr (sV rfl (py_field tu180 rfl ts178 rfl rfl) (sV rfl (py_load tu178 rfl rfl (cell_atL (H4.box 0 rfl) rfl)) (sV rfl (py_len tu178 rfl) (sM rfl rfl (s_nil (W_block ?_))))))))
 have H6 := H4.nilW (α := Block)
 try dsimp only [lNA, lCA, lSZ, lSS] at H6
 refine W_loopB (α := Block) (γ := Nat) (fun k => x.Blocks.take k) 0 H6 3 2 1 rfl rfl rfl rfl [(2, _), (3, _), (10, _), (11, _)] ⟨rfl, rfl, rfl, rfl, trivial⟩ (fun k => [(12, .int .i64 k)]) (fun k => k ≤ x.Blocks.length ∧ True) (fun k => x.Blocks.length - k) ⟨rfl, trivial⟩ ⟨by omega, trivial⟩ (fun k vA1 fA1 w5 H5 ⟨hk, _⟩ => ?_)
 dsimp only [lCA, lNA, lSZ, lSS] at H5 ⊢
 refine W_sr (sV rfl (py_lss rfl rfl) (s_nil (W_seq (W_ifd rfl (fun c1 => ?_) (fun c1 => ?_)))))
 ·refine W_skip (W_seq (W_block (W_seq ?_)))
  obtain ⟨hg, hg2⟩ := szL_get hb k (by omega)
  unfold szBlock at hg
  have tl := List.length_take (i := k) (l := x.Blocks)
  obtain ⟨eb1, eo1, es1, ef1, ee1, ec1, eO1, eH1, em1⟩ := elem_st (H5.seen 0 rfl) k (by omega)
  obtain ⟨ea1, ek1, eg1, rfl, eq1, eK1, eo2⟩ := own_Block eO1
  have eK1U := eK1
  unfold Block.Ok at eK1U
  try unfold I64ok at eK1U
  try unfold maxLen at eK1U
  have eP1 := H5.look1 0 rfl eo2 (fun b hb => eH1 b (by rw [eq1]; simp [hb]))
  have eL1 := oL eo2
  refine W_reg (sV rfl (py_elz tu178 ts182 rfl rfl ee1 k (by omega) (by omega)) (sV rfl (py_loadS tu182 rfl ts182 rfl rfl ec1) (s_var (wn rfl) rfl Tryz.zeroValue182 eP1 (fun b4 w6 e5 g4 H7 => ?_))))
  refine s_stoS (wn rfl) ts182 rfl rfl rfl rfl H7 4 rfl rfl (fun w7 e6 H8 => ?_)
  dsimp only [lNA, lCA, lSZ, lSS, layL] at H8
  refine s_nil (W_drw (S := Ext (· ∈ fA1) _) [(0, true), (1, true), (2, true), (3, true), (4, true), (5, true), (6, false), (7, true), (8, false), (9, false), (10, true), (11, false)] (by kernel_rfl) (by kernel_rfl) (by kernel_rfl) rfl (fun _ => Ext.refl.drawn _) (fun q1 => ?_))
  have H9 := H8.drawn q1
  refine dV rfl rfl (fun zw hx => py_field tu180 rfl ts178 rfl rfl) (dV rfl rfl (fun zw hx => py_load tu178 rfl rfl (cell_atL (hx.heapM (H9.boff 2 rfl 3 rfl rfl) (H9.box 2 rfl)) rfl)) (dV rfl rfl (fun zw hx => py_field tu182 rfl ts2 rfl rfl) (dV rfl rfl (fun zw hx => py_load tu2 rfl rfl (cell_atL (hx.heapM (H9.boff 4 rfl 3 rfl rfl) (H9.box 4 rfl)) rfl)) (dV rfl rfl (fun zw hx => py_field tu182 rfl ts45 rfl rfl) (dV rfl rfl (fun zw hx => py_load tu45 rfl rfl (cell_atL (hx.heapM (H9.boff 4 rfl 3 rfl rfl) (H9.box 4 rfl)) rfl)) (d_call rfl (wn rfl) rfl rfl (pc_call Tryz.func151 rfl Tryz_nm151 rfl) (Tryz_clone_b (H9.sees 1 rfl) (by omega)) (fun hS _ _ r _ => hS.trans r.1.no) (fun v1 w8 r1 => ?_)))))))
  obtain ⟨e7, r1⟩ := r1
  obtain ⟨fp1, H10⟩ := H9.res e7 r1
  obtain ⟨a1, k1, q2⟩ := own_slice (H10.mine 5 rfl)
  cases q2
  refine dV rfl rfl (fun zw hx => py_buildS Tryz_pl182 rfl rfl) (d_lit1 rfl (wn rfl) rfl tu178 Tryz_ty182 rfl rfl rfl rfl H10 (fun _ h e => h.trans e.no) (fun b5 w9 e8 g5 H11 => ?_))
  have H12 := H11.asSt 5 ((x.Blocks.getD k default) : Block) rfl (Block.own_mk (x := (x.Blocks.getD k default)) (by assumption) (H11.mine 5 rfl))
  try dsimp only [lNA, lCA, lSZ, lSS] at H12
  refine d_app2 rfl (wn rfl) rfl tu178 Tryz_ty182 rfl rfl rfl H12 3 6 5 rfl rfl rfl rfl (by unfold maxLen; omega) (by omega) (fun _ h e => h.trans e) (fun v2 w10 fp2 H13 => ?_)
  refine dV rfl rfl (fun zw hx => py_field tu180 rfl ts178 rfl rfl) ?_
  obtain ⟨a2, k2, q3⟩ := own_slice (H13.mine 3 rfl)
  cases q3
  refine d_sto rfl (wn rfl) ts178 rfl rfl rfl H13 2 rfl rfl (fun _ _ _ hr => absurd rfl hr) (fun w11 e9 H14 => ?_)
  dsimp only [lNA, lCA, lSZ, lSS, layL] at H14
  refine d_nil (W_reg (sV rfl (py_add rfl rfl (in64 ⟨by omega, by omega⟩)) (sM rfl rfl (s_nil ?_))))
  exact ⟨(k + 1, _, _), ⟨rfl, rfl, rfl, rfl, rfl, trivial⟩, ⟨by dsimp only; rw [← take_step (xs := x.Blocks) (d := default) (by omega)]; exact ((H14.ftake 1).dtake 4), by omega, trivial⟩, by dsimp only; omega⟩
 ·refine W_exit (W_seq ?_)
  obtain rfl : k = x.Blocks.length := by omega
  rw [List.take_length] at H5
  refine W_reg (sV rfl (py_loadS tu180 rfl ts180 rfl rfl (At.whole (H5.box 2 rfl))) ?_)
  obtain ⟨a3, k3, q4⟩ := own_slice (H5.mine 3 rfl)
  cases q4
  refine s_stoS (wn rfl) ts180 rfl rfl rfl rfl H5 1 rfl rfl (fun w12 e10 H15 => ?_)
  dsimp only [lNA, lCA, lSZ, lSS, layL] at H15
  refine s_nil (W_ret (hQ _ _ (finC Tryz.results206 rfl (run_loadVarS tu180 rfl ts180 rfl (At.whole (H15.box 1 rfl))) ?_)))
  exact ⟨H15.ext, _, _, rfl, Drive.out (H15.sub (.cons _ (.cons _ (.cons _ (.cons_cons _ List.Sublist.slnil))))) (by assumption)⟩
theorem Tryz_impl_cloneWorld {w : World} {z : Wld} {zA9 zA10 zA11 : Option Addr} {zC9 zC10 zC11 : Nat} (zK : z.Ok) (zS9 : Sees w [.slice zA9 z.Groups.length zC9] z.Groups) (zS10 : Sees w [.slice zA10 z.On.length zC10] z.On) (zS11 : Sees w [.slice zA11 z.Tapes.length zC11] z.Tapes) (hb : szWld z ≤ 1048576) : Ret Tryz.prog 121 #[z.val zA9 zC9 zA10 zC10 zA11 zC11] w fun v w' => Ext No w w' ∧ (∃ A9 C9 A10 C10 A11 C11, v = z.val A9 C9 A10 C10 A11 C11 ∧ Res w w' [.int .i64 z.Shape.Groups, .int .i64 z.Shape.Column, .int .i64 z.Shape.Data, .int .i64 z.Shape.Spare, .int .i64 z.Shape.Rows, .int .i64 z.Shape.Cap, .int .i64 z.Shape.Batch, .int .i64 z.Shape.Queue, .int .i64 z.Shape.Stage, .slice A9 z.Groups.length C9, .slice A10 z.On.length C10, .slice A11 z.Tapes.length C11, .int .i64 z.Writes, .int .i64 z.Stop, .bool z.Down] z) := by
 have zK2 := zK
 unfold Wld.Ok Shape.Ok at zK2
 try unfold I64ok at zK2
 try unfold maxLen at zK2
 have zL9 := sL zS9
 obtain ⟨zF9, zO9⟩ := zS9
 have zL10 := sL zS10
 obtain ⟨zF10, zO10⟩ := zS10
 have zL11 := sL zS11
 obtain ⟨zF11, zO11⟩ := zS11
 have hcu : szWld z = szL (szL szDrive) z.Groups + z.On.length + szL szTape z.Tapes := rfl
 have hg0 : szL (szL szDrive) z.Groups ≤ 1048576 := by omega
 have ht0 : szL szTape z.Tapes ≤ 1048576 := by omega
 have hgl : z.Groups.length ≤ 1048576 := by unfold szL at hg0; omega
 have htl : z.Tapes.length ≤ 1048576 := by unfold szL at ht0; omega
 refine ret_Q (vs := [z.val zA9 zC9 zA10 zC10 zA11 zC11]) Tryz.func121 rfl Tryz.ntmps121 rfl (fun Q hQ hN => ?_)
 have H0 := Sep.start (w := w) (F := [seen false [.slice zA9 z.Groups.length zC9] z.Groups zF9, seen false [.slice zA10 z.On.length zC10] z.On zF10, seen false [.slice zA11 z.Tapes.length zC11] z.Tapes zF11]) (all_cons zO9 (all_cons zO10 (all_cons zO11 (by simp))))
 refine W_sr (s_box (wn rfl) rfl rfl H0 (fun b1 w1 e1 g1 H1 => ?_))
 refine s_var (wn rfl) rfl Tryz.zeroValue38 H1 (fun b2 w2 e2 g2 H2 => ?_)
 refine s_nil (W_sr (sV rfl (py_loadS tu38 rfl ts38 rfl rfl (At.whole (H2.box 0 rfl))) (s_var (wn rfl) rfl Tryz.zeroValue38 H2 (fun b3 w3 e3 g3 H3 => ?_))))
 refine s_stoS (wn rfl) ts38 rfl rfl rfl rfl H3 2 rfl rfl (fun w4 e4 H4 => ?_)
 dsimp only [lNA, lCA, lSZ, lSS, layL] at H4
 refine s_nil (W_sr (sV rfl (py_field tu38 rfl ts25 rfl rfl) (sV rfl (py_load tu25 rfl rfl (cell_atL (H4.box 0 rfl) rfl)) (s_call (wn rfl) rfl rfl (pc_call Tryz.func150 rfl Tryz_nm150 rfl) (Tryz_clone_i (H4.sees 1 rfl) (by omega)) (fun v1 w5 r1 => ?_)))))
 obtain ⟨e5, r1⟩ := r1
 obtain ⟨fp1, H5⟩ := H4.res e5 r1
 obtain ⟨a1, k1, q1⟩ := own_slice (H5.mine 3 rfl)
 cases q1
 refine sV rfl (py_field tu38 rfl ts35 rfl rfl) (s_sto (wn rfl) ts35 rfl rfl rfl H5 2 rfl rfl (fun w6 e6 H6 => ?_))
 dsimp only [lNA, lCA, lSZ, lSS, layL] at H6
 refine sV rfl (py_field tu38 rfl ts25 rfl rfl) (s_sto (wn rfl) ts25 rfl rfl rfl H6 2 rfl rfl (fun w7 e7 H7 => ?_))
 dsimp only [lNA, lCA, lSZ, lSS, layL] at H7
 refine sV rfl (py_field tu38 rfl ts36 rfl rfl) (s_sto (wn rfl) ts36 rfl rfl rfl H7 2 rfl rfl (fun w8 e8 H8 => ?_))
 dsimp only [lNA, lCA, lSZ, lSS, layL] at H8
 refine s_nil (W_seq (W_sr (sV rfl (py_field tu38 rfl ts35 rfl rfl) (sV rfl (py_load tu35 rfl rfl (cell_atL (H8.box 0 rfl) rfl)) (sV rfl (py_len tu35 rfl) (sM rfl rfl (s_nil (W_block ?_))))))))
 have H10 := H8.nilW (α := (List Drive))
 try dsimp only [lNA, lCA, lSZ, lSS] at H10
 refine W_loopB (α := (List Drive)) (γ := Nat) (fun k => z.Groups.take k) 0 H10 4 2 9 rfl rfl rfl rfl [(1, _), (2, _), (3, _), (19, _), (20, _)] ⟨rfl, rfl, rfl, rfl, rfl, trivial⟩ (fun k => [(21, .int .i64 k)]) (fun k => k ≤ z.Groups.length ∧ True) (fun k => z.Groups.length - k) ⟨rfl, trivial⟩ ⟨by omega, trivial⟩ (fun k vA1 fA1 w9 H9 ⟨hk, _⟩ => ?_)
 dsimp only [lCA, lNA, lSZ, lSS] at H9 ⊢
 refine W_sr (sV rfl (py_lss rfl rfl) (s_nil (W_seq (W_ifd rfl (fun c1 => ?_) (fun c1 => ?_)))))
 ·refine W_skip (W_seq (W_block (W_seq ?_)))
  have hgk : szL szDrive (z.Groups.getD k []) ≤ 1048576 := (szL_get hg0 k (by omega)).1
  have hgkl : (z.Groups.getD k []).length ≤ 1048576 := by unfold szL at hgk; omega
  have tlg := List.length_take (i := k) (l := z.Groups)
  obtain ⟨eb1, eo1, ea1, ek1, ef1, ee1, ec1, eO1, eH1⟩ := elem_sl (H9.seen 0 rfl) k (by omega)
  have eP1 := H9.look1 0 rfl eO1 eH1
  refine W_reg (sV rfl (py_elz tu35 ts142 rfl rfl ee1 k (by omega) (by omega)) (sV rfl (py_load tu142 rfl rfl ec1) (sA rfl rfl (s_nil (W_sr (s_lit0 (α := Drive) (wn rfl) rfl tu142 Tryz_ty180 eP1 (fun b4 w10 e9 g4 H11 => ?_)))))))
  refine sA rfl rfl (s_nil (W_seq (W_sr (sM rfl rfl (sV rfl (py_len tu142 rfl) (sM rfl rfl (s_nil (W_block (W_loopA (α := Drive) (γ := Nat) (fun m2 => (z.Groups.getD k []).take m2) 0 H11 5 rfl 6 rfl [(1, _), (2, _), (3, _), (19, _), (20, _), (21, _), (26, _), (27, _)] ⟨rfl, rfl, rfl, rfl, rfl, rfl, rfl, rfl, trivial⟩ (fun m2 => [(28, .int .i64 m2)]) (fun m2 => m2 ≤ (z.Groups.getD k []).length ∧ True) (fun m2 => (z.Groups.getD k []).length - m2) ⟨rfl, trivial⟩ ⟨by omega, trivial⟩ (fun m2 vA2 fA2 w11 H12 ⟨hm2, _⟩ => ?_))))))))))
  dsimp only [lCA, lNA, lSZ, lSS] at H12 ⊢
  refine W_sr (sV rfl (py_lss rfl rfl) (s_nil (W_seq (W_ifd rfl (fun c2 => ?_) (fun c2 => ?_)))))
  ·refine W_skip (W_seq (W_block (W_seq ?_)))
   have hdk : szDrive ((z.Groups.getD k []).getD m2 default) ≤ 1048576 := (szL_get hgk m2 (by omega)).1
   have tld := List.length_take (i := m2) (l := (z.Groups.getD k []))
   obtain ⟨eb2, eo2, es1, ef2, ee2, ec2, eO2, eH2, em1⟩ := elem_st (H12.seen 3 rfl) m2 (by omega)
   obtain ⟨ea2, ek2, eg1, rfl, eq1, eK1, eo3⟩ := own_Drive eO2
   have eP2 := H12.look1 3 rfl eo3 (fun b hb => eH2 b (by rw [eq1]; simp [hb]))
   have eL1 := oL eo3
   refine W_reg (sV rfl (py_elz tu142 ts180 rfl rfl ee2 m2 (by omega) (by omega)) (sV rfl (py_loadS tu180 rfl ts180 rfl rfl ec2) (s_var (wn rfl) rfl Tryz.zeroValue180 eP2 (fun b5 w12 e10 g5 H13 => ?_))))
   refine s_stoS (wn rfl) ts180 rfl rfl rfl rfl H13 6 rfl rfl (fun w13 e11 H14 => ?_)
   dsimp only [lNA, lCA, lSZ, lSS, layL] at H14
   refine s_nil (W_reg (sM rfl rfl (sV rfl (py_loadS tu180 rfl ts180 rfl rfl (At.whole (H14.box 6 rfl))) (s_call (wn rfl) rfl rfl (pc_call Tryz.func206 rfl Tryz_nm206 rfl) (Tryz_impl_cloneDrive (by assumption) (H14.sees 4 rfl) (by first | assumption | omega)) (fun v2 w14 r2 => ?_)))))
   obtain ⟨e12, sa1, sk1, rfl, r2⟩ := r2
   obtain ⟨fp2, H15⟩ := H14.res e12 r2
   refine s_lit1 (wn rfl) rfl tu142 Tryz_ty180 rfl rfl rfl rfl H15 (fun b6 w15 e13 g6 H16 => ?_)
   refine s_app2 (wn rfl) rfl tu142 Tryz_ty180 rfl rfl rfl H16 5 8 7 rfl rfl rfl rfl (by unfold maxLen; omega) (by omega) (fun v3 w16 fp3 H17 => ?_)
   refine sA rfl rfl (s_nil (W_reg (sV rfl (py_add rfl rfl (in64 ⟨by omega, by omega⟩)) (sM rfl rfl (s_nil ?_)))))
   exact ⟨(m2 + 1, _, _), ⟨rfl, rfl, rfl, rfl, rfl, rfl, rfl, rfl, rfl, rfl, trivial⟩, ⟨by dsimp only; rw [← take_step (xs := (z.Groups.getD k [])) (d := default) (by omega)]; exact ((H17.ftake 4).dtake 6), by omega, trivial⟩, by dsimp only; omega⟩
  ·refine W_exit ?_
   obtain rfl : m2 = (z.Groups.getD k []).length := by omega
   rw [List.take_length] at H12
   refine W_reg (sV rfl (py_field tu38 rfl ts35 rfl rfl) (sV rfl (py_load tu35 rfl rfl (cell_atL (H12.box 2 rfl) rfl)) (sM rfl rfl ?_)))
   obtain ⟨a2, k2, q2⟩ := own_slice (H12.mine 5 rfl)
   cases q2
   refine s_lit1 (wn rfl) rfl tu35 Tryz_ty142 rfl rfl rfl rfl H12 (fun b7 w17 e14 g7 H18 => ?_)
   refine s_app2 (wn rfl) rfl tu35 Tryz_ty142 rfl rfl rfl H18 4 6 5 rfl rfl rfl rfl (by unfold maxLen; omega) (by omega) (fun v4 w18 fp4 H19 => ?_)
   refine sV rfl (py_field tu38 rfl ts35 rfl rfl) ?_
   obtain ⟨a3, k3, q3⟩ := own_slice (H19.mine 4 rfl)
   cases q3
   refine s_sto (wn rfl) ts35 rfl rfl rfl H19 2 rfl rfl (fun w19 e15 H20 => ?_)
   dsimp only [lNA, lCA, lSZ, lSS, layL] at H20
   refine s_nil (W_reg (sV rfl (py_add rfl rfl (in64 ⟨by omega, by omega⟩)) (sM rfl rfl (s_nil ?_))))
   exact ⟨(k + 1, _, _), ⟨rfl, rfl, rfl, rfl, rfl, rfl, trivial⟩, ⟨by dsimp only; rw [← take_step (xs := z.Groups) (d := []) (by omega)]; exact ((H20.ftake 3).dtake 5), by omega, trivial⟩, by dsimp only; omega⟩
 ·refine W_exit (W_seq (W_seq ?_))
  obtain rfl : k = z.Groups.length := by omega
  rw [List.take_length] at H9
  refine W_reg (sV rfl (py_field tu38 rfl ts36 rfl rfl) (sV rfl (py_load tu36 rfl rfl (cell_atL (H9.box 0 rfl) rfl)) (sV rfl (py_len tu36 rfl) (sM rfl rfl (s_nil (W_block ?_))))))
  have H22 := H9.nilW (α := Tape)
  try dsimp only [lNA, lCA, lSZ, lSS] at H22
  refine W_loopB (α := Tape) (γ := Nat) (fun k => z.Tapes.take k) 0 H22 5 2 11 rfl rfl rfl rfl [(2, _), (3, _), (46, _), (47, _)] ⟨rfl, rfl, rfl, rfl, trivial⟩ (fun k => [(48, .int .i64 k)]) (fun k => k ≤ z.Tapes.length ∧ True) (fun k => z.Tapes.length - k) ⟨rfl, trivial⟩ ⟨by omega, trivial⟩ (fun k vA3 fA3 w20 H21 ⟨hk, _⟩ => ?_)
  dsimp only [lCA, lNA, lSZ, lSS] at H21 ⊢
  refine W_sr (sV rfl (py_lss rfl rfl) (s_nil (W_seq (W_ifd rfl (fun c3 => ?_) (fun c3 => ?_)))))
  ·refine W_skip (W_seq (W_block (W_seq ?_)))
   have htk : szTape (z.Tapes.getD k default) ≤ 1048576 := (szL_get ht0 k (by omega)).1
   unfold szTape at htk
   have tlt := List.length_take (i := k) (l := z.Tapes)
   obtain ⟨eb3, eo4, es2, ef3, ee3, ec3, eO3, eH3, em2⟩ := elem_st (H21.seen 2 rfl) k (by omega)
   obtain ⟨ea3, ek3, eg2, rfl, eq2, eK2, eo5⟩ := own_Tape eO3
   have eP3 := H21.look1 2 rfl eo5 (fun b hb => eH3 b (by rw [eq2]; simp [hb]))
   have eL2 := oL eo5
   refine W_reg (sV rfl (py_elz tu36 ts139 rfl rfl ee3 k (by omega) (by omega)) (sV rfl (py_loadS tu139 rfl ts139 rfl rfl ec3) (s_var (wn rfl) rfl Tryz.zeroValue139 eP3 (fun b8 w21 e16 g8 H23 => ?_))))
   refine s_stoS (wn rfl) ts139 rfl rfl rfl rfl H23 6 rfl rfl (fun w22 e17 H24 => ?_)
   dsimp only [lNA, lCA, lSZ, lSS, layL] at H24
   refine s_nil (W_drw (S := Ext (· ∈ fA3) _) [(0, true), (1, true), (2, true), (3, true), (4, true), (5, true), (6, false), (7, true), (8, false), (9, false), (10, true), (11, false)] (by kernel_rfl) (by kernel_rfl) (by kernel_rfl) rfl (fun _ => Ext.refl.drawn _) (fun q4 => ?_))
   have H25 := H24.drawn q4
   refine dV rfl rfl (fun zw hx => py_field tu38 rfl ts36 rfl rfl) (dV rfl rfl (fun zw hx => py_load tu36 rfl rfl (cell_atL (hx.heapM (H25.boff 2 rfl 5 rfl rfl) (H25.box 2 rfl)) rfl)) (dV rfl rfl (fun zw hx => py_field tu139 rfl ts4 rfl rfl) (dV rfl rfl (fun zw hx => py_load tu4 rfl rfl (cell_atL (hx.heapM (H25.boff 6 rfl 5 rfl rfl) (H25.box 6 rfl)) rfl)) (dV rfl rfl (fun zw hx => py_field tu139 rfl ts30 rfl rfl) (dV rfl rfl (fun zw hx => py_load tu30 rfl rfl (cell_atL (hx.heapM (H25.boff 6 rfl 5 rfl rfl) (H25.box 6 rfl)) rfl)) (d_call rfl (wn rfl) rfl rfl (pc_call Tryz.func108 rfl Tryz_nm108 rfl) (Tryz_impl_cloneRecs (H25.sees 3 rfl) (by first | assumption | omega)) (fun hS _ _ r _ => hS.trans r.1.no) (fun v5 w23 r3 => ?_)))))))
   obtain ⟨e18, r3⟩ := r3
   obtain ⟨fp5, H26⟩ := H25.res e18 r3
   obtain ⟨a4, k4, q5⟩ := own_slice (H26.mine 7 rfl)
   cases q5
   refine dV rfl rfl (fun zw hx => py_buildS Tryz_pl139 rfl rfl) (d_lit1 rfl (wn rfl) rfl tu36 Tryz_ty139 rfl rfl rfl rfl H26 (fun _ h e => h.trans e.no) (fun b9 w24 e19 g9 H27 => ?_))
   have H28 := H27.asSt 7 ((z.Tapes.getD k default) : Tape) rfl (Tape.own_mk (x := (z.Tapes.getD k default)) (by assumption) (H27.mine 7 rfl))
   try dsimp only [lNA, lCA, lSZ, lSS] at H28
   refine d_app2 rfl (wn rfl) rfl tu36 Tryz_ty139 rfl rfl rfl H28 5 8 7 rfl rfl rfl rfl (by unfold maxLen; omega) (by omega) (fun _ h e => h.trans e) (fun v6 w25 fp6 H29 => ?_)
   refine dV rfl rfl (fun zw hx => py_field tu38 rfl ts36 rfl rfl) ?_
   obtain ⟨a5, k5, q6⟩ := own_slice (H29.mine 5 rfl)
   cases q6
   refine d_sto rfl (wn rfl) ts36 rfl rfl rfl H29 2 rfl rfl (fun _ _ _ hr => absurd rfl hr) (fun w26 e20 H30 => ?_)
   dsimp only [lNA, lCA, lSZ, lSS, layL] at H30
   refine d_nil (W_reg (sV rfl (py_add rfl rfl (in64 ⟨by omega, by omega⟩)) (sM rfl rfl (s_nil ?_))))
   exact ⟨(k + 1, _, _), ⟨rfl, rfl, rfl, rfl, rfl, trivial⟩, ⟨by dsimp only; rw [← take_step (xs := z.Tapes) (d := default) (by omega)]; exact ((H30.ftake 3).dtake 6), by omega, trivial⟩, by dsimp only; omega⟩
  ·refine W_exit (W_seq ?_)
   obtain rfl : k = z.Tapes.length := by omega
   rw [List.take_length] at H21
   refine W_reg (sV rfl (py_loadS tu38 rfl ts38 rfl rfl (At.whole (H21.box 2 rfl))) ?_)
   obtain ⟨a6, k6, q7⟩ := own_slice (H21.mine 4 rfl)
   cases q7
   obtain ⟨a7, k7, q8⟩ := own_slice (H21.mine 5 rfl)
   cases q8
   refine s_stoS (wn rfl) ts38 rfl rfl rfl rfl H21 1 rfl rfl (fun w27 e21 H31 => ?_)
   dsimp only [lNA, lCA, lSZ, lSS, layL] at H31
   refine s_nil (W_ret (hQ _ _ (finC Tryz.results121 rfl (run_loadVarS tu38 rfl ts38 rfl (At.whole (H31.box 1 rfl))) ?_)))
   exact ⟨H31.ext, _, _, _, _, _, _, rfl, Wld.out ((H31.sub (.cons _ (.cons _ (.cons _ (.cons_cons _ (.cons_cons _ (.cons_cons _ List.Sublist.slnil))))))).perm (.swap _ _ _)) (by assumption)⟩
theorem Tryz_spec_l5Copy {w : World} {z : Wld} {zA9 zA10 zA11 : Option Addr} {zC9 zC10 zC11 : Nat} (zK : z.Ok) (zS9 : Sees w [.slice zA9 z.Groups.length zC9] z.Groups) (zS10 : Sees w [.slice zA10 z.On.length zC10] z.On) (zS11 : Sees w [.slice zA11 z.Tapes.length zC11] z.Tapes) (hb : szWld z ≤ 1048576) : Ret Tryz.prog 113 #[z.val zA9 zC9 zA10 zC10 zA11 zC11] w fun v w' => Ext No w w' ∧ (∃ A9 C9 A10 C10 A11 C11, v = z.val A9 C9 A10 C10 A11 C11 ∧ Res w w' [.int .i64 z.Shape.Groups, .int .i64 z.Shape.Column, .int .i64 z.Shape.Data, .int .i64 z.Shape.Spare, .int .i64 z.Shape.Rows, .int .i64 z.Shape.Cap, .int .i64 z.Shape.Batch, .int .i64 z.Shape.Queue, .int .i64 z.Shape.Stage, .slice A9 z.Groups.length C9, .slice A10 z.On.length C10, .slice A11 z.Tapes.length C11, .int .i64 z.Writes, .int .i64 z.Stop, .bool z.Down] z) := by
 have zK2 := zK
 unfold Wld.Ok Shape.Ok at zK2
 try unfold I64ok at zK2
 try unfold maxLen at zK2
 have zL9 := sL zS9
 obtain ⟨zF9, zO9⟩ := zS9
 have zL10 := sL zS10
 obtain ⟨zF10, zO10⟩ := zS10
 have zL11 := sL zS11
 obtain ⟨zF11, zO11⟩ := zS11
 have hcu : szWld z = szL (szL szDrive) z.Groups + z.On.length + szL szTape z.Tapes := rfl
 have hg0 : szL (szL szDrive) z.Groups ≤ 1048576 := by omega
 have ht0 : szL szTape z.Tapes ≤ 1048576 := by omega
 have hgl : z.Groups.length ≤ 1048576 := by unfold szL at hg0; omega
 have htl : z.Tapes.length ≤ 1048576 := by unfold szL at ht0; omega
 refine ret_Q (vs := [z.val zA9 zC9 zA10 zC10 zA11 zC11]) Tryz.func113 rfl Tryz.ntmps113 rfl (fun Q hQ hN => ?_)
 have H0 := Sep.start (w := w) (F := [seen false [.slice zA9 z.Groups.length zC9] z.Groups zF9, seen false [.slice zA10 z.On.length zC10] z.On zF10, seen false [.slice zA11 z.Tapes.length zC11] z.Tapes zF11]) (all_cons zO9 (all_cons zO10 (all_cons zO11 (by simp))))
 refine W_sr (s_box (wn rfl) rfl rfl H0 (fun b1 w1 e1 g1 H1 => ?_))
 refine s_var (wn rfl) rfl Tryz.zeroValue38 H1 (fun b2 w2 e2 g2 H2 => ?_)
 refine s_nil (W_sr (sV rfl (py_loadS tu38 rfl ts38 rfl rfl (At.whole (H2.box 0 rfl))) (s_var (wn rfl) rfl Tryz.zeroValue38 H2 (fun b3 w3 e3 g3 H3 => ?_))))
 refine s_stoS (wn rfl) ts38 rfl rfl rfl rfl H3 2 rfl rfl (fun w4 e4 H4 => ?_)
 dsimp only [lNA, lCA, lSZ, lSS, layL] at H4
 refine s_nil (W_sr (sV rfl (py_field tu38 rfl ts35 rfl rfl) (s_sto (wn rfl) ts35 rfl rfl rfl H4 2 rfl rfl (fun w5 e5 H5 => ?_))))
 dsimp only [lNA, lCA, lSZ, lSS, layL] at H5
 refine s_nil (W_seq (W_sr (sA rfl rfl (s_nil (W_block ?_)))))
 have H7 := H5.nilW (α := (List Drive))
 try dsimp only [lNA, lCA, lSZ, lSS] at H7
 refine W_loopB (α := (List Drive)) (γ := Nat) (fun k => z.Groups.take k) 0 H7 3 2 9 rfl rfl rfl rfl [(1, _), (2, _), (3, _)] ⟨rfl, rfl, rfl, trivial⟩ (fun k => [(4, .int .i64 k)]) (fun k => k ≤ z.Groups.length ∧ True) (fun k => z.Groups.length - k) ⟨rfl, trivial⟩ ⟨by omega, trivial⟩ (fun k vA1 fA1 w6 H6 ⟨hk, _⟩ => ?_)
 dsimp only [lCA, lNA, lSZ, lSS] at H6 ⊢
 refine W_seq (W_sr (sM rfl rfl (sV rfl (py_field tu38 rfl ts35 rfl rfl) (sV rfl (py_load tu35 rfl rfl (cell_atL (H6.box 0 rfl) rfl)) (sV rfl (py_len tu35 rfl) (sV rfl (py_lss rfl rfl) (s_nil (W_ifd rfl (fun c1 => ?_) (fun c1 => ?_)))))))))
 ·refine W_skip (W_seq (W_block (W_seq ?_)))
  have hgk : szL szDrive (z.Groups.getD k []) ≤ 1048576 := (szL_get hg0 k (by omega)).1
  have hgkl : (z.Groups.getD k []).length ≤ 1048576 := by unfold szL at hgk; omega
  have tlg := List.length_take (i := k) (l := z.Groups)
  refine W_reg (s_lit0 (α := Drive) (wn rfl) rfl tu142 Tryz_ty180 H6 (fun b4 w7 e6 g4 H8 => ?_))
  refine sA rfl rfl (s_nil (W_seq (W_sr (sA rfl rfl (s_nil (W_block (W_loopA (α := Drive) (γ := Nat) (fun m2 => (z.Groups.getD k []).take m2) 0 H8 4 rfl 5 rfl [(1, _), (2, _), (3, _), (4, _)] ⟨rfl, rfl, rfl, rfl, trivial⟩ (fun m2 => [(6, .int .i64 m2)]) (fun m2 => m2 ≤ (z.Groups.getD k []).length ∧ True) (fun m2 => (z.Groups.getD k []).length - m2) ⟨rfl, trivial⟩ ⟨by omega, trivial⟩ (fun m2 vA2 fA2 w8 H9 ⟨hm2, _⟩ => ?_))))))))
  dsimp only [lCA, lNA, lSZ, lSS] at H9 ⊢
  refine W_seq (W_seq ?_)
  obtain ⟨eb1, eo1, ea1, ek1, ef1, ee1, ec1, eO1, eH1⟩ := elem_sl (H9.seen 0 rfl) k (by omega)
  have eP1 := H9.look1 0 rfl eO1 eH1
  refine W_reg (sM rfl rfl (sV rfl (py_field tu38 rfl ts35 rfl rfl) (sV rfl (py_load tu35 rfl rfl (cell_atL (eP1.box 0 rfl) rfl)) (sM rfl rfl (sV rfl (py_elz tu35 ts142 rfl rfl ee1 k (by omega) (by omega)) (sV rfl (py_load tu142 rfl rfl ec1) (sV rfl (py_len tu142 rfl) (sV rfl (py_lss rfl rfl) (s_nil (W_ifd rfl (fun c2 => ?_) (fun c2 => ?_)))))))))))
  ·refine W_skip (W_seq (W_block (W_seq ?_)))
   have hdk : szDrive ((z.Groups.getD k []).getD m2 default) ≤ 1048576 := (szL_get hgk m2 (by omega)).1
   have tld := List.length_take (i := m2) (l := (z.Groups.getD k []))
   obtain ⟨eb2, eo2, ea2, ek2, ef2, ee2, ec2, eO2, eH2⟩ := elem_sl (eP1.seen 0 rfl) k (by omega)
   have eP2 := eP1.look1 0 rfl eO2 eH2
   obtain ⟨eb3, eo3, es1, ef3, ee3, ec3, eO3, eH3, em1⟩ := elem_st (eP2.seen 4 rfl) m2 (by omega)
   obtain ⟨ea3, ek3, eg1, rfl, eq1, eK1, eo4⟩ := own_Drive eO3
   have eP3 := eP2.look1 4 rfl eo4 (fun b hb => eH3 b (by rw [eq1]; simp [hb]))
   have eL1 := oL eo4
   refine W_reg (sV rfl (py_field tu38 rfl ts35 rfl rfl) (sV rfl (py_load tu35 rfl rfl (cell_atL (eP3.box 0 rfl) rfl)) (sM rfl rfl (sV rfl (py_elz tu35 ts142 rfl rfl ee2 k (by omega) (by omega)) (sV rfl (py_load tu142 rfl rfl ec2) (sM rfl rfl (sV rfl (py_elz tu142 ts180 rfl rfl ee3 m2 (by omega) (by omega)) (sV rfl (py_field tu180 rfl ts4 rfl rfl) (sV rfl (py_load tu4 rfl rfl (at_cell ec3 0 rfl)) (sV rfl (py_buildS Tryz_pl180 rfl rfl) (s_var (wn rfl) rfl Tryz.zeroValue180 eP3 (fun b5 w9 e7 g5 H10 => ?_))))))))))))
   refine s_stoS (wn rfl) ts180 rfl rfl rfl rfl H10 5 rfl rfl (fun w10 e8 H11 => ?_)
   dsimp only [lNA, lCA, lSZ, lSS, layL] at H11
   refine s_nil (W_seq (W_sr (sA rfl rfl (s_nil (W_block ?_)))))
   have H13 := H11.nilW (α := Block)
   try dsimp only [lNA, lCA, lSZ, lSS] at H13
   refine W_loopB (α := Block) (γ := Nat) (fun m3 => ((z.Groups.getD k []).getD m2 default).Blocks.take m3) 0 H13 6 5 1 rfl rfl rfl rfl [(1, _), (2, _), (3, _), (4, _), (5, _), (6, _), (7, _)] ⟨rfl, rfl, rfl, rfl, rfl, rfl, rfl, trivial⟩ (fun m3 => [(8, .int .i64 m3)]) (fun m3 => m3 ≤ ((z.Groups.getD k []).getD m2 default).Blocks.length ∧ True) (fun m3 => ((z.Groups.getD k []).getD m2 default).Blocks.length - m3) ⟨rfl, trivial⟩ ⟨by omega, trivial⟩ (fun m3 vA3 fA3 w11 H12 ⟨hm3, _⟩ => ?_)
   dsimp only [lCA, lNA, lSZ, lSS] at H12 ⊢
   refine W_seq (W_seq ?_)
   skip
   obtain ⟨eb4, eo5, ea4, ek4, ef4, ee4, ec4, eO4, eH4⟩ := elem_sl (H12.seen 0 rfl) k (by omega)
   have eP4 := H12.look1 0 rfl eO4 eH4
   obtain ⟨eb5, eo6, es2, ef5, ee5, ec5, eO5, eH5, em2⟩ := elem_st (eP4.seen 6 rfl) m2 (by omega)
   obtain ⟨ea5, ek5, eg2, rfl, eq2, eK2, eo7⟩ := own_Drive eO5
   have eP5 := eP4.look1 6 rfl eo7 (fun b hb => eH5 b (by rw [eq2]; simp [hb]))
   have eL2 := oL eo7
   refine W_reg (sM rfl rfl (sV rfl (py_field tu38 rfl ts35 rfl rfl) (sV rfl (py_load tu35 rfl rfl (cell_atL (eP5.box 0 rfl) rfl)) (sM rfl rfl (sV rfl (py_elz tu35 ts142 rfl rfl ee4 k (by omega) (by omega)) (sV rfl (py_load tu142 rfl rfl ec4) (sM rfl rfl (sV rfl (py_elz tu142 ts180 rfl rfl ee5 m2 (by omega) (by omega)) (sV rfl (py_field tu180 rfl ts178 rfl rfl) (sV rfl (py_load tu178 rfl rfl (at_cell ec5 1 rfl)) (sV rfl (py_len tu178 rfl) (sV rfl (py_lss rfl rfl) (s_nil (W_ifd rfl (fun c3 => ?_) (fun c3 => ?_)))))))))))))))
   ·refine W_skip (W_seq (W_block ?_))
    have hbl : ((z.Groups.getD k []).getD m2 default).Blocks.length ≤ 1048576 := by unfold szDrive szL at hdk; omega
    have hbk : szBlock (((z.Groups.getD k []).getD m2 default).Blocks.getD m3 default) ≤ 1048576 := (szL_get (by unfold szDrive at hdk; exact hdk) m3 (by omega)).1
    have tlb := List.length_take (i := m3) (l := ((z.Groups.getD k []).getD m2 default).Blocks)
    obtain ⟨eb6, eo8, ea6, ek6, ef6, ee6, ec6, eO6, eH6, em3⟩ := elem_slm (eP5.seen 0 rfl) k (by omega)
    have eP6 := eP5.look1 0 rfl eO6 eH6
    obtain ⟨eb7, eo9, es3, ef7, ee7, ec7, eO7, eH7, em4⟩ := elem_st (eP6.seen 8 rfl) m2 (by omega)
    obtain ⟨ea7, ek7, eg3, rfl, eq3, eK3, eo10⟩ := own_Drive eO7
    have eP7 := eP6.look1 8 rfl eo10 (fun b hb => eH7 b (by rw [eq3]; simp [hb]))
    have eL3 := oL eo10
    obtain ⟨eb8, eo11, es4, ef8, ee8, ec8, eO8, eH8, em5⟩ := elem_st (eP7.seen 9 rfl) m3 (by omega)
    obtain ⟨ea8, ek8, eg4, rfl, eq4, eK4, eo12⟩ := own_Block eO8
    have eK4U := eK4
    unfold Block.Ok at eK4U
    try unfold I64ok at eK4U
    try unfold maxLen at eK4U
    have eP8 := eP7.look1 9 rfl eo12 (fun b hb => eH8 b (by rw [eq4]; simp [hb]))
    have eL4 := oL eo12
    refine W_drw (S := Ext (· ∈ fA3) _) [(0, true), (1, true), (2, true), (3, true), (4, true), (5, true), (6, true), (7, true), (8, true), (9, true), (10, true), (11, true), (12, true), (13, true), (14, false), (15, false), (16, false), (17, true), (18, false)] (by kernel_rfl) (by kernel_rfl) (by kernel_rfl) rfl (fun _ => Ext.refl.drawn _) (fun q1 => ?_)
    have H14 := eP8.drawn q1
    refine dV rfl rfl (fun zw hx => py_field tu180 rfl ts178 rfl rfl) (dV rfl rfl (fun zw hx => py_load tu178 rfl rfl (cell_atL (hx.heapM (H14.boff 5 rfl 6 rfl rfl) (H14.box 5 rfl)) rfl)) (dV rfl rfl (fun zw hx => py_field tu38 rfl ts35 rfl rfl) (dV rfl rfl (fun zw hx => py_load tu35 rfl rfl (cell_atL (hx.heapM (H14.boff 0 rfl 6 rfl rfl) (H14.box 0 rfl)) rfl)) (dM rfl rfl rfl (dV rfl rfl (fun zw hx => py_elz tu35 ts142 rfl rfl ee6 k (by omega) (by omega)) (dV rfl rfl (fun zw hx => py_load tu142 rfl rfl (hx.cellM (H14.off 0 rfl 6 rfl em3) ec6)) (dM rfl rfl rfl (dV rfl rfl (fun zw hx => py_elz tu142 ts180 rfl rfl ee7 m2 (by omega) (by omega)) (dV rfl rfl (fun zw hx => py_field tu180 rfl ts178 rfl rfl) (dV rfl rfl (fun zw hx => py_load tu178 rfl rfl (at_cell (hx.atM (H14.off 8 rfl 6 rfl em4) ec7) 1 rfl)) (dM rfl rfl rfl (dV rfl rfl (fun zw hx => py_elz tu178 ts182 rfl rfl ee8 m3 (by omega) (by omega)) (dV rfl rfl (fun zw hx => py_loadS tu182 rfl ts182 rfl rfl (hx.atM (H14.off 9 rfl 6 rfl em5) ec8)) (d_call rfl (wn rfl) rfl rfl (pc_call Tryz.func193 rfl Tryz_nm193 rfl) (Tryz_spec_l5CopyBlock (by assumption) (H14.sees 10 rfl) (by first | assumption | omega)) (fun hS _ _ r _ => hS.trans r.1.no) (fun v1 w12 r1 => ?_)))))))))))))))
    obtain ⟨e9, sa1, sk1, rfl, r1⟩ := r1
    obtain ⟨fp1, H15⟩ := H14.res e9 r1
    refine d_lit1 rfl (wn rfl) rfl tu178 Tryz_ty182 rfl rfl rfl rfl H15 (fun _ h e => h.trans e.no) (fun b6 w13 e10 g6 H16 => ?_)
    refine d_app2 rfl (wn rfl) rfl tu178 Tryz_ty182 rfl rfl rfl H16 6 8 7 rfl rfl rfl rfl (by unfold maxLen; omega) (by omega) (fun _ h e => h.trans e) (fun v2 w14 fp2 H17 => ?_)
    refine dV rfl rfl (fun zw hx => py_field tu180 rfl ts178 rfl rfl) ?_
    obtain ⟨a1, k1, q2⟩ := own_slice (H17.mine 6 rfl)
    cases q2
    refine d_sto rfl (wn rfl) ts178 rfl rfl rfl H17 5 rfl rfl (fun _ _ _ hr => absurd rfl hr) (fun w15 e11 H18 => ?_)
    dsimp only [lNA, lCA, lSZ, lSS, layL] at H18
    refine d_nil (W_reg (sM rfl rfl (sV rfl (py_add rfl rfl (in64 ⟨by omega, by omega⟩)) (sA rfl rfl (s_nil ?_)))))
    exact ⟨(m3 + 1, _, _), ⟨rfl, rfl, rfl, rfl, rfl, rfl, rfl, rfl, trivial⟩, ⟨by dsimp only; rw [← take_step (xs := ((z.Groups.getD k []).getD m2 default).Blocks) (d := default) (by omega)]; exact ((H18.ftake 6).dtake 7), by omega, trivial⟩, by dsimp only; omega⟩
   ·refine W_exit ?_
    obtain rfl : m3 = ((z.Groups.getD k []).getD m2 default).Blocks.length := by omega
    rw [List.take_length] at eP5
    refine W_reg (sM rfl rfl (sV rfl (py_loadS tu180 rfl ts180 rfl rfl (At.whole (eP5.box 5 rfl))) (s_lit1 (wn rfl) rfl tu142 Tryz_ty180 rfl rfl rfl rfl eP5 (fun b7 w16 e12 g7 H19 => ?_))))
    obtain ⟨a2, k2, q3⟩ := own_slice (H19.mine 6 rfl)
    cases q3
    have H20 := H19.asSt 6 (((z.Groups.getD k []).getD m2 default) : Drive) rfl (Drive.own_mk (x := ((z.Groups.getD k []).getD m2 default)) (by assumption) (H19.mine 6 rfl))
    try dsimp only [lNA, lCA, lSZ, lSS] at H20
    refine s_app2 (wn rfl) rfl tu142 Tryz_ty180 rfl rfl rfl H20 4 7 6 rfl rfl rfl rfl (by unfold maxLen; omega) (by omega) (fun v3 w17 fp3 H21 => ?_)
    refine sA rfl rfl (s_nil (W_reg (sM rfl rfl (sV rfl (py_add rfl rfl (in64 ⟨by omega, by omega⟩)) (sA rfl rfl (s_nil ?_))))))
    exact ⟨(m2 + 1, _, _), ⟨rfl, rfl, rfl, rfl, rfl, rfl, trivial⟩, ⟨by dsimp only; rw [← take_step (xs := (z.Groups.getD k [])) (d := default) (by omega)]; exact ((H21.ftake 3).dtake 5), by omega, trivial⟩, by dsimp only; omega⟩
  ·refine W_exit ?_
   obtain rfl : m2 = (z.Groups.getD k []).length := by omega
   rw [List.take_length] at eP1
   refine W_reg (sV rfl (py_field tu38 rfl ts35 rfl rfl) (sV rfl (py_load tu35 rfl rfl (cell_atL (eP1.box 2 rfl) rfl)) (sM rfl rfl ?_)))
   obtain ⟨a3, k3, q4⟩ := own_slice (eP1.mine 4 rfl)
   cases q4
   refine s_lit1 (wn rfl) rfl tu35 Tryz_ty142 rfl rfl rfl rfl eP1 (fun b8 w18 e13 g8 H22 => ?_)
   refine s_app2 (wn rfl) rfl tu35 Tryz_ty142 rfl rfl rfl H22 3 5 4 rfl rfl rfl rfl (by unfold maxLen; omega) (by omega) (fun v4 w19 fp4 H23 => ?_)
   refine sV rfl (py_field tu38 rfl ts35 rfl rfl) ?_
   obtain ⟨a4, k4, q5⟩ := own_slice (H23.mine 3 rfl)
   cases q5
   refine s_sto (wn rfl) ts35 rfl rfl rfl H23 2 rfl rfl (fun w20 e14 H24 => ?_)
   dsimp only [lNA, lCA, lSZ, lSS, layL] at H24
   refine s_nil (W_reg (sM rfl rfl (sV rfl (py_add rfl rfl (in64 ⟨by omega, by omega⟩)) (sA rfl rfl (s_nil ?_)))))
   exact ⟨(k + 1, _, _), ⟨rfl, rfl, rfl, rfl, trivial⟩, ⟨by dsimp only; rw [← take_step (xs := z.Groups) (d := []) (by omega)]; exact ((H24.ftake 3).dtake 4), by omega, trivial⟩, by dsimp only; omega⟩
 ·refine W_exit (W_seq ?_)
  obtain rfl : k = z.Groups.length := by omega
  rw [List.take_length] at H6
  refine W_reg (s_lit0 (α := Int) (wn rfl) rfl tu25 Tryz_ty2 H6 (fun b9 w21 e15 g9 H25 => ?_))
  refine sV rfl (py_field tu38 rfl ts25 rfl rfl) (sV rfl (py_load tu25 rfl rfl (cell_atL (H25.box 0 rfl) rfl)) (s_appF (wn rfl) rfl tu25 Tryz_ty2 rfl rfl rfl H25 4 rfl (H25.seen 1 rfl) (by (try simp only [List.length_nil]); unfold maxLen; omega) (by (try simp only [List.length_nil]); omega) (fun v5 w22 fp5 H26 => ?_)))
  refine sV rfl (py_field tu38 rfl ts25 rfl rfl) ?_
  obtain ⟨a5, k5, q6⟩ := own_slice (H26.mine 4 rfl)
  cases q6
  refine s_sto (wn rfl) ts25 rfl rfl rfl H26 2 rfl rfl (fun w23 e16 H27 => ?_)
  dsimp only [lNA, lCA, lSZ, lSS, layL] at H27
  refine s_nil (W_sr (sV rfl (py_field tu38 rfl ts36 rfl rfl) (s_sto (wn rfl) ts36 rfl rfl rfl H27 2 rfl rfl (fun w24 e17 H28 => ?_))))
  dsimp only [lNA, lCA, lSZ, lSS, layL] at H28
  refine s_nil (W_seq (W_sr (sA rfl rfl (s_nil (W_block ?_)))))
  have H30 := H28.nilW (α := Tape)
  try dsimp only [lNA, lCA, lSZ, lSS] at H30
  refine W_loopB (α := Tape) (γ := Nat) (fun k => z.Tapes.take k) 0 H30 5 2 11 rfl rfl rfl rfl [(1, _), (2, _), (3, _)] ⟨rfl, rfl, rfl, trivial⟩ (fun k => [(9, .int .i64 k)]) (fun k => k ≤ z.Tapes.length ∧ True) (fun k => z.Tapes.length - k) ⟨rfl, trivial⟩ ⟨by omega, trivial⟩ (fun k vA4 fA4 w25 H29 ⟨hk, _⟩ => ?_)
  dsimp only [lCA, lNA, lSZ, lSS] at H29 ⊢
  refine W_seq (W_sr (sM rfl rfl (sV rfl (py_field tu38 rfl ts36 rfl rfl) (sV rfl (py_load tu36 rfl rfl (cell_atL (H29.box 0 rfl) rfl)) (sV rfl (py_len tu36 rfl) (sV rfl (py_lss rfl rfl) (s_nil (W_ifd rfl (fun c4 => ?_) (fun c4 => ?_)))))))))
  ·refine W_skip (W_seq (W_block ?_))
   have htk : szTape (z.Tapes.getD k default) ≤ 1048576 := (szL_get ht0 k (by omega)).1
   unfold szTape at htk
   have tlt := List.length_take (i := k) (l := z.Tapes)
   obtain ⟨eb9, eo13, es5, ef9, ee9, ec9, eO9, eH9, em6⟩ := elem_st (H29.seen 2 rfl) k (by omega)
   obtain ⟨ea9, ek9, eg5, rfl, eq5, eK5, eo14⟩ := own_Tape eO9
   have eP9 := H29.look1 2 rfl eo14 (fun b hb => eH9 b (by rw [eq5]; simp [hb]))
   have eL5 := oL eo14
   refine W_drw (S := Ext (· ∈ fA4) _) [(0, true), (1, true), (2, true), (3, true), (4, true), (5, true), (6, true), (7, true), (8, true), (9, true), (10, true), (11, true), (12, true), (13, true), (14, false), (15, true), (16, false), (17, false), (18, true), (19, false)] (by kernel_rfl) (by kernel_rfl) (by kernel_rfl) rfl (fun _ => Ext.refl.drawn _) (fun q7 => ?_)
   have H31 := eP9.drawn q7
   refine dV rfl rfl (fun zw hx => py_field tu38 rfl ts36 rfl rfl) (dV rfl rfl (fun zw hx => py_load tu36 rfl rfl (cell_atL (hx.heapM (H31.boff 2 rfl 5 rfl rfl) (H31.box 2 rfl)) rfl)) (dV rfl rfl (fun zw hx => py_field tu38 rfl ts36 rfl rfl) (dV rfl rfl (fun zw hx => py_load tu36 rfl rfl (cell_atL (hx.heapM (H31.boff 0 rfl 5 rfl rfl) (H31.box 0 rfl)) rfl)) (dM rfl rfl rfl (dV rfl rfl (fun zw hx => py_elz tu36 ts139 rfl rfl ee9 k (by omega) (by omega)) (dV rfl rfl (fun zw hx => py_field tu139 rfl ts4 rfl rfl) (dV rfl rfl (fun zw hx => py_load tu4 rfl rfl (at_cell (hx.atM (H31.off 2 rfl 5 rfl em6) ec9) 0 rfl)) (dV rfl rfl (fun zw hx => py_field tu38 rfl ts36 rfl rfl) (dV rfl rfl (fun zw hx => py_load tu36 rfl rfl (cell_atL (hx.heapM (H31.boff 0 rfl 5 rfl rfl) (H31.box 0 rfl)) rfl)) (dM rfl rfl rfl (dV rfl rfl (fun zw hx => py_elz tu36 ts139 rfl rfl ee9 k (by omega) (by omega)) (dV rfl rfl (fun zw hx => py_field tu139 rfl ts30 rfl rfl) (dV rfl rfl (fun zw hx => py_load tu30 rfl rfl (at_cell (hx.atM (H31.off 2 rfl 5 rfl em6) ec9) 1 rfl)) (d_call rfl (wn rfl) rfl rfl (pc_call Tryz.func94 rfl Tryz_nm94 rfl) (Tryz_spec_l5CopyRecs (H31.sees 3 rfl) (by first | assumption | omega)) (fun hS _ _ r _ => hS.trans r.1.no) (fun v6 w26 r2 => ?_)))))))))))))))
   obtain ⟨e18, r2⟩ := r2
   obtain ⟨fp6, H32⟩ := H31.res e18 r2
   obtain ⟨a6, k6, q8⟩ := own_slice (H32.mine 6 rfl)
   cases q8
   refine dV rfl rfl (fun zw hx => py_buildS Tryz_pl139 rfl rfl) (d_lit1 rfl (wn rfl) rfl tu36 Tryz_ty139 rfl rfl rfl rfl H32 (fun _ h e => h.trans e.no) (fun b10 w27 e19 g10 H33 => ?_))
   have H34 := H33.asSt 6 ((z.Tapes.getD k default) : Tape) rfl (Tape.own_mk (x := (z.Tapes.getD k default)) (by assumption) (H33.mine 6 rfl))
   try dsimp only [lNA, lCA, lSZ, lSS] at H34
   refine d_app2 rfl (wn rfl) rfl tu36 Tryz_ty139 rfl rfl rfl H34 5 7 6 rfl rfl rfl rfl (by unfold maxLen; omega) (by omega) (fun _ h e => h.trans e) (fun v7 w28 fp7 H35 => ?_)
   refine dV rfl rfl (fun zw hx => py_field tu38 rfl ts36 rfl rfl) ?_
   obtain ⟨a7, k7, q9⟩ := own_slice (H35.mine 5 rfl)
   cases q9
   refine d_sto rfl (wn rfl) ts36 rfl rfl rfl H35 2 rfl rfl (fun _ _ _ hr => absurd rfl hr) (fun w29 e20 H36 => ?_)
   dsimp only [lNA, lCA, lSZ, lSS, layL] at H36
   refine d_nil (W_reg (sM rfl rfl (sV rfl (py_add rfl rfl (in64 ⟨by omega, by omega⟩)) (sA rfl rfl (s_nil ?_)))))
   exact ⟨(k + 1, _, _), ⟨rfl, rfl, rfl, rfl, trivial⟩, ⟨by dsimp only; rw [← take_step (xs := z.Tapes) (d := default) (by omega)]; exact ((H36.ftake 3).dtake 6), by omega, trivial⟩, by dsimp only; omega⟩
  ·refine W_exit (W_seq ?_)
   obtain rfl : k = z.Tapes.length := by omega
   rw [List.take_length] at H29
   refine W_reg (sV rfl (py_loadS tu38 rfl ts38 rfl rfl (At.whole (H29.box 2 rfl))) ?_)
   obtain ⟨a8, k8, q10⟩ := own_slice (H29.mine 3 rfl)
   cases q10
   obtain ⟨a9, k9, q11⟩ := own_slice (H29.mine 5 rfl)
   cases q11
   refine s_stoS (wn rfl) ts38 rfl rfl rfl rfl H29 1 rfl rfl (fun w30 e21 H37 => ?_)
   dsimp only [lNA, lCA, lSZ, lSS, layL] at H37
   refine s_nil (W_ret (hQ _ _ (finC Tryz.results113 rfl (run_loadVarS tu38 rfl ts38 rfl (At.whole (H37.box 1 rfl))) ?_)))
   exact ⟨H37.ext, _, _, _, _, _, _, rfl, Wld.out (H37.sub (.cons _ (.cons _ (.cons _ (.cons_cons _ (.cons_cons _ (.cons_cons _ List.Sublist.slnil))))))) (by assumption)⟩
end Go.Wk
namespace Go.Wk
open Go.Proofs Rp
set_option maxRecDepth 10000
theorem Tryz_impl_World_cut {w : World} {z : Wld} {zb : Nat} {fp : List Nat} (o : OwnW w zb 38 z fp) (nd : fp.Nodup) : Ret Tryz.prog 334 #[.pointer (some ⟨zb, 0, none⟩)] w fun v w' => (MutW w w' fp zb 38 (cutW z)) := by
 refine ret_Q (vs := [.pointer (some ⟨zb, 0, none⟩)]) Tryz.func334 rfl Tryz.ntmps334 rfl (fun Q hQ hN => ?_)
 have H0 := Sep.beginW o nd
 obtain ⟨wA1, wC1, wA2, wC2, wA3, wC3, wf1, wf2, wf3, wok1, H1⟩ := H0.openW 0 rfl
 try dsimp only [lNA, lCA, lSZ, lSS] at H1
 have wok1U := wok1
 unfold Wld.Ok Shape.Ok I64ok at wok1U
 have wL1 := oL (H1.mine 2 rfl)
 have wL2 := oL (H1.mine 3 rfl)
 have wL3 := oL (H1.mine 4 rfl)
 refine W_reg (sM rfl rfl (sM rfl rfl (sV rfl (py_nil rfl) (sV rfl (py_field tu38 rfl ts4 rfl rfl) (s_sto (wn rfl) ts4 rfl rfl rfl H1 0 rfl rfl (fun w1 e1 H2 => ?_))))))
 dsimp only [lNA, lCA, lSZ, lSS, layL] at H2
 refine sV rfl (py_nil rfl) (sV rfl (py_field tu38 rfl ts25 rfl rfl) (s_sto (wn rfl) ts25 rfl rfl rfl H2 0 rfl rfl (fun w2 e2 H3 => ?_)))
 dsimp only [lNA, lCA, lSZ, lSS, layL] at H3
 refine s_nil (hN _ _ (fin0 Tryz.results334 ?_))
 have H4 := H3.nilW (α := Int)
 try dsimp only [lNA, lCA, lSZ, lSS] at H4
 obtain ⟨fp1, H5⟩ := H4.closeW 0 2 5 4 (cutW z) rfl rfl rfl rfl rfl rfl rfl rfl rfl rfl (cutW_ok wok1)
 try dsimp only [lNA, lCA, lSZ, lSS] at H5
 have hz := H5.doneW
 exact hz
theorem Tryz_impl_World_raw {w : World} {z y : Wld} {zb : Nat} {fp : List Nat} {dof : FuncId} {doL : List Value} {doF : Func} (o : OwnW w zb 38 z fp) (nd : fp.Nodup) (doH : Tryz.prog.funcs[dof]? = some doF) (doB : doF.body.isNone = false) (doN : NG doF) (doC : ∀ w1 fp1, OwnW w1 zb 38 z fp1 → fp1.Nodup → (∀ x ∈ fp1, x ∈ fp ∨ w.heap.size ≤ x) → Ext (· ∈ fp) w w1 → Ret Tryz.prog dof doL.toArray w1 fun v w' => MutW w1 w' fp1 zb 38 y) (hy : y.Writes ≤ 2000000000) : Ret Tryz.prog 290 #[.pointer (some ⟨zb, 0, none⟩), .func (.func dof) #[] doL.toArray] w fun v w' => (v = .bool (!noPower z) ∧ MutW w w' fp zb 38 (rawW z y)) := by
 refine ret_Q (vs := [.pointer (some ⟨zb, 0, none⟩), .func (.func dof) #[] doL.toArray]) Tryz.func290 rfl Tryz.ntmps290 rfl (fun Q hQ hN => ?_)
 have H0 := Sep.beginW o nd
 refine W_sr (sA rfl rfl (s_nil (W_seq (W_seq ?_))))
 obtain ⟨wA1, wC1, wA2, wC2, wA3, wC3, wf1, wf2, wf3, wok1, H1⟩ := H0.openW 0 rfl
 try dsimp only [lNA, lCA, lSZ, lSS] at H1
 have wok1U := wok1
 unfold Wld.Ok Shape.Ok I64ok at wok1U
 have wL1 := oL (H1.mine 2 rfl)
 have wL2 := oL (H1.mine 3 rfl)
 have wL3 := oL (H1.mine 4 rfl)
 refine W_drw (S := Ext No _) [(0, true), (1, true), (2, true), (3, true), (4, true), (5, true), (6, true), (7, true), (8, true), (9, true), (10, true), (11, true), (12, true), (13, true), (14, true), (15, false)] (by kernel_rfl) (by kernel_rfl) (by kernel_rfl) rfl (fun _ => Ext.refl.drawn _) (fun q1 => ?_)
 have H2 := H1.drawn q1
 refine dM rfl rfl rfl (dV rfl rfl (fun zw hx => py_nil rfl) (dV rfl rfl (fun zw hx => py_field tu38 rfl ts2 rfl rfl) (dV rfl rfl (fun zw hx => py_load tu2 rfl rfl (cell_atL (hx.heap (H2.box 0 rfl)) rfl)) (dV rfl rfl (fun zw hx => py_neq rfl rfl) (dM rfl rfl rfl (d_case (t := 10) rfl (fun hg1 => ?_) (fun hg1 => ?_)))))))
 ·try simp only [decide_eq_true_eq, decide_eq_false_iff_not] at hg1
  refine d_val rfl (wg rfl rfl rfl) rfl rfl (fun zw hx => py_move rfl) (d_val rfl (wg rfl rfl rfl) rfl rfl (fun zw hx => py_nil rfl) (d_val rfl (wg rfl rfl rfl) rfl rfl (fun zw hx => py_field tu38 rfl ts2 rfl rfl) (d_val rfl (wg rfl rfl rfl) rfl rfl (fun zw hx => py_load tu2 rfl rfl (cell_atL (hx.heap (H2.box 0 rfl)) rfl)) (d_val rfl (wg rfl rfl rfl) rfl rfl (fun zw hx => py_move rfl) (d_val rfl (wg rfl rfl rfl) rfl rfl (fun zw hx => py_nil rfl) (d_val rfl (wg rfl rfl rfl) rfl rfl (fun zw hx => py_field tu38 rfl ts2 rfl rfl) (d_val rfl (wg rfl rfl rfl) rfl rfl (fun zw hx => py_load tu2 rfl rfl (cell_atL (hx.heap (H2.box 0 rfl)) rfl)) (d_val rfl (wg rfl rfl rfl) rfl rfl (fun zw hx => py_geq rfl rfl) (d_end rfl (wn rfl) rfl rfl (py_pickT rfl rfl) (d_nil (W_ifd rfl (fun c1 => ?_) (fun c1 => ?_))))))))))))
  ·refine W_seq ?_
   have hnp : noPower z = true := noPower_yes (by omega) (by omega)
   refine W_reg (sM rfl rfl ?_)
   obtain ⟨fp1, H3⟩ := H2.closeW 0 2 3 4 z rfl rfl rfl rfl rfl rfl rfl rfl rfl rfl wok1
   try dsimp only [lNA, lCA, lSZ, lSS] at H3
   refine s_call (wn rfl) rfl rfl (pc_call Tryz.func334 rfl Tryz_nm334 rfl) (Tryz_impl_World_cut (H3.wldAt 0 rfl) (H3.nodup1 (i := 0) rfl)) (fun v1 w1 r1 => ?_)
   have mm1 := r1
   obtain ⟨fp2, H4⟩ := H3.mutW 0 rfl mm1
   try dsimp only [lNA, lCA, lSZ, lSS] at H4
   refine s_nil (W_sr (sA rfl rfl (s_nil (rT hQ Tryz.results290 rfl ?_))))
   have hz := H4.doneW
   rw [← rawW_no (y := y) hnp] at hz
   exact ⟨(by rw [hnp]; rfl), hz⟩
  ·refine W_skip (W_seq ?_)
   have hnp : noPower z = false := noPower_no (.inr (by omega))
   refine W_reg (sM rfl rfl ?_)
   obtain ⟨fp3, H5⟩ := H2.closeW 0 2 3 4 z rfl rfl rfl rfl rfl rfl rfl rfl rfl rfl wok1
   try dsimp only [lNA, lCA, lSZ, lSS] at H5
   refine s_call (wn rfl) rfl rfl (pc_callv (lb := doL) rfl doH doB doN rfl) (doC _ _ (H5.wldAt 0 rfl) (H5.nodup1 (i := 0) rfl) (fun x hx => H5.new x (H5.inB 0 rfl hx)) H5.ext) (fun v2 w2 r2 => ?_)
   obtain ⟨fp4, H6⟩ := H5.mutW 0 rfl r2
   try dsimp only [lNA, lCA, lSZ, lSS] at H6
   refine s_nil (W_seq ?_)
   obtain ⟨wA4, wC4, wA5, wC5, wA6, wC6, wf4, wf5, wf6, wok2, H7⟩ := H6.openW 0 rfl
   try dsimp only [lNA, lCA, lSZ, lSS] at H7
   have wok2U := wok2
   unfold Wld.Ok Shape.Ok I64ok at wok2U
   have wL4 := oL (H7.mine 6 rfl)
   have wL5 := oL (H7.mine 7 rfl)
   have wL6 := oL (H7.mine 8 rfl)
   refine W_reg (sM rfl rfl (sV rfl (py_nil rfl) (sV rfl (py_field tu38 rfl ts2 rfl rfl) (sV rfl (py_load tu2 rfl rfl (cell_atL (H7.box 0 rfl) rfl)) (sV rfl (py_add rfl rfl (in64 ⟨by omega, by omega⟩)) (sV rfl (py_nil rfl) (sV rfl (py_field tu38 rfl ts2 rfl rfl) (s_sto (wn rfl) ts2 rfl rfl rfl H7 0 rfl rfl (fun w3 e2 H8 => ?_)))))))))
   dsimp only [lNA, lCA, lSZ, lSS, layL] at H8
   refine s_nil (W_sr (sA rfl rfl (s_nil (rT hQ Tryz.results290 rfl ?_))))
   obtain ⟨fp5, H9⟩ := H8.closeW 0 6 7 8 (tickW y) rfl rfl rfl rfl rfl rfl rfl rfl rfl rfl (tickW_ok wok2 hy)
   try dsimp only [lNA, lCA, lSZ, lSS] at H9
   have hz := H9.doneW
   rw [← rawW_yes hnp] at hz
   exact ⟨(by rw [hnp]; rfl), hz⟩
 ·try simp only [decide_eq_true_eq, decide_eq_false_iff_not] at hg1
  refine dKf rfl rfl rfl rfl (dKf rfl rfl rfl rfl (dKf rfl rfl rfl rfl (dKf rfl rfl rfl rfl (dKf rfl rfl rfl rfl (dKf rfl rfl rfl rfl (dKf rfl rfl rfl rfl (dKf rfl rfl rfl rfl (dKf rfl rfl rfl rfl (d_end rfl (wn rfl) rfl rfl (py_pickF rfl rfl) (d_nil (W_iff rfl (W_skip (W_seq ?_)))))))))))))
  have hnp : noPower z = false := noPower_no (.inl (by omega))
  refine W_reg (sM rfl rfl ?_)
  obtain ⟨fp6, H10⟩ := H2.closeW 0 2 3 4 z rfl rfl rfl rfl rfl rfl rfl rfl rfl rfl wok1
  try dsimp only [lNA, lCA, lSZ, lSS] at H10
  refine s_call (wn rfl) rfl rfl (pc_callv (lb := doL) rfl doH doB doN rfl) (doC _ _ (H10.wldAt 0 rfl) (H10.nodup1 (i := 0) rfl) (fun x hx => H10.new x (H10.inB 0 rfl hx)) H10.ext) (fun v3 w4 r3 => ?_)
  obtain ⟨fp7, H11⟩ := H10.mutW 0 rfl r3
  try dsimp only [lNA, lCA, lSZ, lSS] at H11
  refine s_nil (W_seq ?_)
  obtain ⟨wA7, wC7, wA8, wC8, wA9, wC9, wf7, wf8, wf9, wok3, H12⟩ := H11.openW 0 rfl
  try dsimp only [lNA, lCA, lSZ, lSS] at H12
  have wok3U := wok3
  unfold Wld.Ok Shape.Ok I64ok at wok3U
  have wL7 := oL (H12.mine 6 rfl)
  have wL8 := oL (H12.mine 7 rfl)
  have wL9 := oL (H12.mine 8 rfl)
  refine W_reg (sM rfl rfl (sV rfl (py_nil rfl) (sV rfl (py_field tu38 rfl ts2 rfl rfl) (sV rfl (py_load tu2 rfl rfl (cell_atL (H12.box 0 rfl) rfl)) (sV rfl (py_add rfl rfl (in64 ⟨by omega, by omega⟩)) (sV rfl (py_nil rfl) (sV rfl (py_field tu38 rfl ts2 rfl rfl) (s_sto (wn rfl) ts2 rfl rfl rfl H12 0 rfl rfl (fun w5 e3 H13 => ?_)))))))))
  dsimp only [lNA, lCA, lSZ, lSS, layL] at H13
  refine s_nil (W_sr (sA rfl rfl (s_nil (rT hQ Tryz.results290 rfl ?_))))
  obtain ⟨fp8, H14⟩ := H13.closeW 0 6 7 8 (tickW y) rfl rfl rfl rfl rfl rfl rfl rfl rfl rfl (tickW_ok wok3 hy)
  try dsimp only [lNA, lCA, lSZ, lSS] at H14
  have hz := H14.doneW
  rw [← rawW_yes hnp] at hz
  exact ⟨(by rw [hnp]; rfl), hz⟩
theorem Tryz_impl_changed_yes {w : World} {x : Wld} {xA9 xA10 xA11 : Option Addr} {xC9 xC10 xC11 : Nat} {c : Int} (xK : x.Ok) (xS9 : Sees w [.slice xA9 x.Groups.length xC9] x.Groups) (xS10 : Sees w [.slice xA10 x.On.length xC10] x.On) (xS11 : Sees w [.slice xA11 x.Tapes.length xC11] x.Tapes) (hc : c = 0 ∨ c = 9) : Ret Tryz.prog 123 #[x.val xA9 xC9 xA10 xC10 xA11 xC11, .int .i64 c] w fun v w' => Ext No w w' ∧ (v = (⟨c, x⟩ : WldResult).val xA9 xC9 xA10 xC10 xA11 xC11) := by
 have xK2 := xK
 unfold Wld.Ok Shape.Ok at xK2
 try unfold I64ok at xK2
 try unfold maxLen at xK2
 have xL9 := sL xS9
 obtain ⟨xF9, xO9⟩ := xS9
 have xL10 := sL xS10
 obtain ⟨xF10, xO10⟩ := xS10
 have xL11 := sL xS11
 obtain ⟨xF11, xO11⟩ := xS11
 refine ret_Q (vs := [x.val xA9 xC9 xA10 xC10 xA11 xC11, .int .i64 c]) Tryz.func123 rfl Tryz.ntmps123 rfl (fun Q hQ hN => ?_)
 have H0 := Sep.start (w := w) (F := [seen false [.slice xA9 x.Groups.length xC9] x.Groups xF9, seen false [.slice xA10 x.On.length xC10] x.On xF10, seen false [.slice xA11 x.Tapes.length xC11] x.Tapes xF11]) (all_cons xO9 (all_cons xO10 (all_cons xO11 (by simp))))
 refine W_sr (s_box (wn rfl) rfl rfl H0 (fun b1 w1 e1 g1 H1 => ?_))
 refine s_var (wn rfl) rfl Tryz.zeroValue66 H1 (fun b2 w2 e2 g2 H2 => ?_)
 refine s_nil (W_seq (W_sr (sM rfl rfl (sV rfl (py_neq rfl rfl) (sM rfl rfl (s_case (t := 7) rfl (fun hg1 => ?_) (fun hg1 => ?_)))))))
 ·try simp only [decide_eq_true_eq, decide_eq_false_iff_not] at hg1
  refine s_val (wg rfl rfl rfl) rfl rfl (py_move rfl) (s_val (wg rfl rfl rfl) rfl rfl (py_neq rfl rfl) (sV rfl (py_pickT rfl rfl) (s_nil (W_ifd rfl (fun c1 => ?_) (fun c1 => ?_)))))
  ·exfalso; simp_all
  ·refine W_skip (W_sr (sM rfl rfl (sV rfl (py_loadS tu38 rfl ts38 rfl rfl (At.whole (H2.box 0 rfl))) (sV rfl (py_buildS Tryz_pl66 rfl rfl) (s_stoS (wn rfl) ts66 rfl rfl rfl rfl H2 1 rfl rfl (fun w3 e3 H3 => ?_))))))
   dsimp only [lNA, lCA, lSZ, lSS, layL] at H3
   refine s_nil (W_ret (hQ _ _ (finC Tryz.results123 rfl (run_loadVarS tu66 rfl ts66 rfl (At.whole (H3.box 1 rfl))) ?_)))
   exact ⟨H3.ext, rfl⟩
 ·try simp only [decide_eq_true_eq, decide_eq_false_iff_not] at hg1
  refine sKf rfl rfl rfl (sKf rfl rfl rfl (sV rfl (py_pickF rfl rfl) (s_nil (W_iff rfl (W_skip (W_sr (sM rfl rfl (sV rfl (py_loadS tu38 rfl ts38 rfl rfl (At.whole (H2.box 0 rfl))) (sV rfl (py_buildS Tryz_pl66 rfl rfl) (s_stoS (wn rfl) ts66 rfl rfl rfl rfl H2 1 rfl rfl (fun w4 e4 H4 => ?_)))))))))))
  dsimp only [lNA, lCA, lSZ, lSS, layL] at H4
  refine s_nil (W_ret (hQ _ _ (finC Tryz.results123 rfl (run_loadVarS tu66 rfl ts66 rfl (At.whole (H4.box 1 rfl))) ?_)))
  exact ⟨H4.ext, rfl⟩
theorem Tryz_spec_l7Told {w : World} {x : Wld} {xA9 xA10 xA11 : Option Addr} {xC9 xC10 xC11 : Nat} {d : Bool} (xK : x.Ok) (xS9 : Sees w [.slice xA9 x.Groups.length xC9] x.Groups) (xS10 : Sees w [.slice xA10 x.On.length xC10] x.On) (xS11 : Sees w [.slice xA11 x.Tapes.length xC11] x.Tapes) : Ret Tryz.prog 115 #[x.val xA9 xC9 xA10 xC10 xA11 xC11, .bool d] w fun v w' => Ext No w w' ∧ (v = (⟨if d = true then 0 else 9, x⟩ : WldResult).val xA9 xC9 xA10 xC10 xA11 xC11) := by
 have xK2 := xK
 unfold Wld.Ok Shape.Ok at xK2
 try unfold I64ok at xK2
 try unfold maxLen at xK2
 have xL9 := sL xS9
 obtain ⟨xF9, xO9⟩ := xS9
 have xL10 := sL xS10
 obtain ⟨xF10, xO10⟩ := xS10
 have xL11 := sL xS11
 obtain ⟨xF11, xO11⟩ := xS11
 refine ret_Q (vs := [x.val xA9 xC9 xA10 xC10 xA11 xC11, .bool d]) Tryz.func115 rfl Tryz.ntmps115 rfl (fun Q hQ hN => ?_)
 have H0 := Sep.start (w := w) (F := [seen false [.slice xA9 x.Groups.length xC9] x.Groups xF9, seen false [.slice xA10 x.On.length xC10] x.On xF10, seen false [.slice xA11 x.Tapes.length xC11] x.Tapes xF11]) (all_cons xO9 (all_cons xO10 (all_cons xO11 (by simp))))
 refine W_sr (s_box (wn rfl) rfl rfl H0 (fun b1 w1 e1 g1 H1 => ?_))
 refine s_var (wn rfl) rfl Tryz.zeroValue66 H1 (fun b2 w2 e2 g2 H2 => ?_)
 refine s_nil (W_seq (W_sr (sM rfl rfl (sV rfl (py_not rfl) (s_nil (W_if rfl (fun c1 => ?_) (fun c1 => ?_)))))))
 ·refine W_sr (sV rfl (py_loadS tu38 rfl ts38 rfl rfl (At.whole (H2.box 0 rfl))) (sV rfl (py_buildS Tryz_pl66 rfl rfl) (s_stoS (wn rfl) ts66 rfl rfl rfl rfl H2 1 rfl rfl (fun w3 e3 H3 => ?_))))
  dsimp only [lNA, lCA, lSZ, lSS, layL] at H3
  refine s_nil (W_ret (hQ _ _ (finC Tryz.results115 rfl (run_loadVarS tu66 rfl ts66 rfl (At.whole (H3.box 1 rfl))) ?_)))
  exact ⟨H3.ext, by cases d; (· rfl); (· exact absurd c1 (by simp))⟩
 ·refine W_skip (W_sr (sV rfl (py_loadS tu38 rfl ts38 rfl rfl (At.whole (H2.box 0 rfl))) (sV rfl (py_buildS Tryz_pl66 rfl rfl) (s_stoS (wn rfl) ts66 rfl rfl rfl rfl H2 1 rfl rfl (fun w4 e4 H4 => ?_)))))
  dsimp only [lNA, lCA, lSZ, lSS, layL] at H4
  refine s_nil (W_ret (hQ _ _ (finC Tryz.results115 rfl (run_loadVarS tu66 rfl ts66 rfl (At.whole (H4.box 1 rfl))) ?_)))
  exact ⟨H4.ext, by cases d; (· exact absurd c1 (by simp)); (· rfl)⟩
theorem Tryz_spec_l5Raw {w : World} {z : Wld} {zb : Nat} {fp : List Nat} (o : OwnW w zb 38 z fp) (nd : fp.Nodup) (hd : z.Down = false) (hw : z.Writes ≤ 2000000000) : Ret Tryz.prog 198 #[.pointer (some ⟨zb, 0, none⟩)] w fun v w' => (v = .bool (!noPower z) ∧ MutW w w' fp zb 38 (rawW z z)) := by
 refine ret_Q (vs := [.pointer (some ⟨zb, 0, none⟩)]) Tryz.func198 rfl Tryz.ntmps198 rfl (fun Q hQ hN => ?_)
 have H0 := Sep.beginW o nd
 refine W_sr (sA rfl rfl (s_nil (W_seq (W_seq ?_))))
 obtain ⟨wA1, wC1, wA2, wC2, wA3, wC3, wf1, wf2, wf3, wok1, H1⟩ := H0.openW 0 rfl
 try dsimp only [lNA, lCA, lSZ, lSS] at H1
 have wok1U := wok1
 unfold Wld.Ok Shape.Ok I64ok at wok1U
 have wL1 := oL (H1.mine 2 rfl)
 have wL2 := oL (H1.mine 3 rfl)
 have wL3 := oL (H1.mine 4 rfl)
 refine W_reg (sM rfl rfl (sV rfl (py_nil rfl) (sV rfl (py_field tu38 rfl ts4 rfl rfl) (sV rfl (py_load tu4 rfl rfl (cell_atL (H1.box 0 rfl) rfl)) (s_nil (W_if rfl (fun c1 => ?_) (fun c1 => ?_)))))))
 ·exfalso; simp_all
 ·refine W_skip (W_seq (W_seq (W_drw (S := Ext No _) [(0, true), (1, true), (2, true), (3, true), (4, true), (5, true), (6, true), (7, true), (8, true), (9, true), (10, true), (11, true), (12, true), (13, true), (14, true), (15, false)] (by kernel_rfl) (by kernel_rfl) (by kernel_rfl) rfl (fun _ => Ext.refl.drawn _) (fun q1 => ?_))))
  have H2 := H1.drawn q1
  refine dM rfl rfl rfl (dV rfl rfl (fun zw hx => py_nil rfl) (dV rfl rfl (fun zw hx => py_field tu38 rfl ts2 rfl rfl) (dV rfl rfl (fun zw hx => py_load tu2 rfl rfl (cell_atL (hx.heap (H2.box 0 rfl)) rfl)) (dV rfl rfl (fun zw hx => py_neq rfl rfl) (dM rfl rfl rfl (d_case (t := 12) rfl (fun hg1 => ?_) (fun hg1 => ?_)))))))
  ·try simp only [decide_eq_true_eq, decide_eq_false_iff_not] at hg1
   refine d_val rfl (wg rfl rfl rfl) rfl rfl (fun zw hx => py_move rfl) (d_val rfl (wg rfl rfl rfl) rfl rfl (fun zw hx => py_nil rfl) (d_val rfl (wg rfl rfl rfl) rfl rfl (fun zw hx => py_field tu38 rfl ts2 rfl rfl) (d_val rfl (wg rfl rfl rfl) rfl rfl (fun zw hx => py_load tu2 rfl rfl (cell_atL (hx.heap (H2.box 0 rfl)) rfl)) (d_val rfl (wg rfl rfl rfl) rfl rfl (fun zw hx => py_move rfl) (d_val rfl (wg rfl rfl rfl) rfl rfl (fun zw hx => py_nil rfl) (d_val rfl (wg rfl rfl rfl) rfl rfl (fun zw hx => py_field tu38 rfl ts2 rfl rfl) (d_val rfl (wg rfl rfl rfl) rfl rfl (fun zw hx => py_load tu2 rfl rfl (cell_atL (hx.heap (H2.box 0 rfl)) rfl)) (d_val rfl (wg rfl rfl rfl) rfl rfl (fun zw hx => py_geq rfl rfl) (d_end rfl (wn rfl) rfl rfl (py_pickT rfl rfl) (d_nil (W_ifd rfl (fun c2 => ?_) (fun c2 => ?_))))))))))))
   ·refine W_seq ?_
    have hnp : noPower z = true := noPower_yes (by omega) (by omega)
    refine W_reg (sM rfl rfl (sV rfl (py_nil rfl) (sV rfl (py_field tu38 rfl ts4 rfl rfl) (s_sto (wn rfl) ts4 rfl rfl rfl H2 0 rfl rfl (fun w1 e1 H3 => ?_)))))
    dsimp only [lNA, lCA, lSZ, lSS, layL] at H3
    refine s_nil (W_sr (sM rfl rfl (sV rfl (py_nil rfl) (sV rfl (py_field tu38 rfl ts25 rfl rfl) (s_sto (wn rfl) ts25 rfl rfl rfl H3 0 rfl rfl (fun w2 e2 H4 => ?_))))))
    dsimp only [lNA, lCA, lSZ, lSS, layL] at H4
    refine s_nil (W_sr (sA rfl rfl (s_nil (rT hQ Tryz.results198 rfl ?_))))
    have H5 := H4.nilW (α := Int)
    try dsimp only [lNA, lCA, lSZ, lSS] at H5
    obtain ⟨fp1, H6⟩ := H5.closeW 0 2 5 4 (cutW z) rfl rfl rfl rfl rfl rfl rfl rfl rfl rfl (cutW_ok wok1)
    try dsimp only [lNA, lCA, lSZ, lSS] at H6
    have hz := H6.doneW
    rw [← rawW_no (y := z) hnp] at hz
    exact ⟨(by rw [hnp]; rfl), hz⟩
   ·refine W_skip (W_seq ?_)
    have hnp : noPower z = false := noPower_no (.inr (by omega))
    refine W_reg (sM rfl rfl (sM rfl rfl (sV rfl (py_nil rfl) (sV rfl (py_field tu38 rfl ts2 rfl rfl) (sV rfl (py_load tu2 rfl rfl (cell_atL (H2.box 0 rfl) rfl)) (sV rfl (py_add rfl rfl (in64 ⟨by omega, by omega⟩)) (sV rfl (py_nil rfl) (sV rfl (py_field tu38 rfl ts2 rfl rfl) (s_sto (wn rfl) ts2 rfl rfl rfl H2 0 rfl rfl (fun w3 e3 H7 => ?_))))))))))
    dsimp only [lNA, lCA, lSZ, lSS, layL] at H7
    refine s_nil (W_sr (sA rfl rfl (s_nil (rT hQ Tryz.results198 rfl ?_))))
    obtain ⟨fp2, H8⟩ := H7.closeW 0 2 3 4 (tickW z) rfl rfl rfl rfl rfl rfl rfl rfl rfl rfl (tickW_ok wok1 hw)
    try dsimp only [lNA, lCA, lSZ, lSS] at H8
    have hz := H8.doneW
    rw [← rawW_yes hnp] at hz
    exact ⟨(by rw [hnp]; rfl), hz⟩
  ·try simp only [decide_eq_true_eq, decide_eq_false_iff_not] at hg1
   refine dKf rfl rfl rfl rfl (dKf rfl rfl rfl rfl (dKf rfl rfl rfl rfl (dKf rfl rfl rfl rfl (dKf rfl rfl rfl rfl (dKf rfl rfl rfl rfl (dKf rfl rfl rfl rfl (dKf rfl rfl rfl rfl (dKf rfl rfl rfl rfl (d_end rfl (wn rfl) rfl rfl (py_pickF rfl rfl) (d_nil (W_iff rfl (W_skip (W_seq ?_)))))))))))))
   have hnp : noPower z = false := noPower_no (.inl (by omega))
   refine W_reg (sM rfl rfl (sM rfl rfl (sV rfl (py_nil rfl) (sV rfl (py_field tu38 rfl ts2 rfl rfl) (sV rfl (py_load tu2 rfl rfl (cell_atL (H2.box 0 rfl) rfl)) (sV rfl (py_add rfl rfl (in64 ⟨by omega, by omega⟩)) (sV rfl (py_nil rfl) (sV rfl (py_field tu38 rfl ts2 rfl rfl) (s_sto (wn rfl) ts2 rfl rfl rfl H2 0 rfl rfl (fun w4 e4 H9 => ?_))))))))))
   dsimp only [lNA, lCA, lSZ, lSS, layL] at H9
   refine s_nil (W_sr (sA rfl rfl (s_nil (rT hQ Tryz.results198 rfl ?_))))
   obtain ⟨fp3, H10⟩ := H9.closeW 0 2 3 4 (tickW z) rfl rfl rfl rfl rfl rfl rfl rfl rfl rfl (tickW_ok wok1 hw)
   try dsimp only [lNA, lCA, lSZ, lSS] at H10
   have hz := H10.doneW
   rw [← rawW_yes hnp] at hz
   exact ⟨(by rw [hnp]; rfl), hz⟩
end Go.Wk
namespace Go.Wk
open Rp (sz own)
structure RecV where
  r : Rec
  A6 : Option Addr
  C6 : Nat
  A7 : Option Addr
  C7 : Nat
  A8 : Option Addr
  C8 : Nat
def RecV.cs (v : RecV) : List Value := [.int .i64 v.r.Kind, .int .i64 v.r.Seq, .string v.r.Name, .int .i64 v.r.Length, .int .i64 v.r.Group, .int .i64 v.r.Row, .slice v.A6 v.r.Rows.length v.C6, .slice v.A7 v.r.Data.length v.C7, .slice v.A8 v.r.Delta.length v.C8]
instance : Inhabited RecV := ⟨⟨default, none, 0, none, 0, none, 0⟩⟩
theorem RecV.one {v : RecV} : ∀ x ∈ v.cs, x.oneCell' = true := by
  intro x hx
  simp only [RecV.cs, List.mem_cons, List.not_mem_nil, or_false] at hx
  rcases hx with rfl | rfl | rfl | rfl | rfl | rfl | rfl | rfl | rfl <;> rfl
instance : Rp RecV where
  sz := 9
  pos := by decide
  own _ _ cs v fp := cs = v.cs ∧ fp = [] ∧ v.r.Ok
  len h := by rw [h.1]; rfl
  one h v hv := by rw [h.1] at hv; exact RecV.one v hv
  st h _ := h
  lt h b hb := by rw [h.2.1] at hb; simp at hb
  weak h := h
end Go.Wk
namespace Go.Wk
structure LinO {K : Type} (lt : K → K → Prop) : Prop where
  irr : ∀ a, ¬ lt a a
  tr : ∀ a b c, lt a b → lt b c → lt a c
  tot : ∀ a b, lt a b ∨ a = b ∨ lt b a
section
variable {α K : Type} {lt : K → K → Prop} {key : α → K}
inductive Ord (lt : K → K → Prop) (key : α → K) : List α → Prop
  | nil : Ord lt key []
  | cons {x xs} : (∀ y ∈ xs, ¬ lt (key y) (key x)) → Ord lt key xs → Ord lt key (x :: xs)
end
section
variable {α K : Type} [DecidableEq K] {lt : K → K → Prop} {key : α → K}
def sameK (key : α → K) (xs ys : List α) : Prop := ∀ k, (ys.filter fun x => decide (key x = k)) = xs.filter fun x => decide (key x = k)
end
end Go.Wk
namespace Go.Wk
open Rp (sz own)
section
variable {α : Type}
def seg (l : List α) (a b : Nat) : List α := (l.take b).drop a
end
end Go.Wk
namespace Go.Wk
open Rp (sz own)
def kLt (a b : Int × Int × Int) : Prop := a.1 < b.1 ∨ a.1 = b.1 ∧ (a.2.1 < b.2.1 ∨ a.2.1 = b.2.1 ∧ a.2.2 < b.2.2)
def keyR (r : Rec) : Int × Int × Int := (r.Seq, r.Kind, r.Group)
def keyV (v : RecV) : Int × Int × Int := keyR v.r
end Go.Wk
namespace Go.Wk
section
variable {ws l : List RecV} {a b bs c e x y : Nat}
def OrdAt (l : List RecV) (bs c : Nat) : Prop := Ord kLt keyV (seg l c (min (c + bs) l.length))
def Blocks (ws l : List RecV) (bs a : Nat) : Prop := l.length = ws.length ∧ sameK keyV ws l ∧ bs ∣ a ∧ a ≤ ws.length ∧ ∀ c, bs ∣ c → c < a → OrdAt l bs c
end
end Go.Wk
namespace Go.Wk
open Rp (sz own)
def RdV (w : World) (ft : List Nat) (vs : List RecV) : Prop := ∀ v ∈ vs, ∃ f, own false w v.cs v.r f ∧ ∀ b ∈ f, b ∈ ft
section
variable {w w' : World} {ft f : List Nat} {vs us : List RecV}
theorem RdV.at {k : Nat} (h : RdV w ft vs) (hk : k < vs.length) : RdV w ft [vs.getD k default] := fun v hv => by
  rw [List.mem_singleton] at hv
  rw [hv, getD_el hk]
  exact h _ (List.getElem_mem _)
end
end Go.Wk
namespace Go.Wk
open Rp (sz own)
section
variable {w w' w0 : World} {ft f : List Nat} {vs us : List RecV} {M : Nat → Prop} {Δ F : List Rsc}
def InF {α : Type} [Rp α] (w : World) (ft : List Nat) (cs : List Value) (x : α) : Prop := ∃ f, own false w cs x f ∧ ∀ b ∈ f, b ∈ ft
theorem InF.val {v : RecV} {x : Rec} (h : InF w ft v.cs v.r) (e : v.r = x) : InF w ft (RecV.mk x v.A6 v.C6 v.A7 v.C7 v.A8 v.C8).cs x := by subst e; exact h
theorem Mut.none {α : Type} [Rp α] {cs : List Value} {x : α} {fp : List Nat} (e : Ext No w w') (h : own true w cs x fp) (hn : fp.Nodup) : Mut w w' fp cs x :=
  ⟨e.no, fp, Rp.st h fun b hb => e.block b (Rp.lt h b hb) id, hn, fun b hb => .inl hb⟩
end
instance (a b : Int × Int × Int) : Decidable (kLt a b) := by unfold kLt; infer_instance
instance : Flat RecV where
  flat h := ⟨h.2.1, fun _ _ => ⟨h.1, rfl, h.2.2⟩⟩
end Go.Wk

namespace Go.Wk
open Rp (sz own)
section
variable {α : Type} [Inhabited α] {f : α → Nat} {xs : List α} {y : α} {i : Nat}
theorem mkL_set2 (h : i < xs.length) : mkL f (xs.set i y) + f (xs.getD i default) = mkL f xs + f y := by
  unfold mkL
  rw [List.length_set]
  have e1 : sumN (fun j => f ((xs.set i y).getD j default) + (if j = i then f (xs.getD i default) else 0)) xs.length = sumN (fun j => f (xs.getD j default) + (if j = i then f y else 0)) xs.length :=
    sumN_congr fun j hj => by
      rw [getD_set]
      by_cases e : j = i
      · subst e; rw [if_pos ⟨rfl, h⟩, if_pos rfl, if_pos rfl]; omega
      · rw [if_neg (fun q => e q.1), if_neg e, if_neg e]
  rw [sumN_plus, sumN_plus, sumN_one, sumN_one, if_pos h, if_pos h] at e1
  exact e1
end
end Go.Wk

namespace Go.Wk
open Rp (sz own)
section
variable {α K : Type} {lt : K → K → Prop} {key : α → K}
theorem Ord.at [Inhabited α] {xs : List α} (h : Ord lt key xs) : ∀ {i j : Nat}, i < j → j < xs.length → ¬ lt (key (xs.getD j default)) (key (xs.getD i default)) := by
  induction h with
  | nil => intro i j _ h; simp at h
  | cons h1 h2 ih =>
    intro i j hij hj
    obtain ⟨j, rfl⟩ : ∃ k, j = k + 1 := ⟨j - 1, by omega⟩
    rw [List.length_cons] at hj
    rcases Nat.eq_zero_or_pos i with e | e
    · subst e
      rw [List.getD_cons_succ, List.getD_cons_zero, getD_el (by omega)]
      exact h1 _ (List.getElem_mem _)
    · obtain ⟨i, rfl⟩ : ∃ k, i = k + 1 := ⟨i - 1, by omega⟩
      rw [List.getD_cons_succ, List.getD_cons_succ]
      exact ih (by omega) (by omega)
end
end Go.Wk
namespace Go.Wk
structure Way where
  n : Nat
  hs : List Int
  x : Int
  g : List UInt8
  m : Mat
  steps : List (Mat × Nat)
  w : List UInt8
end Go.Wk
namespace Go.Wk
open Rp (sz own)
section
variable {M : Nat → Prop} {w0 w : World} {Δ F : List Rsc}
theorem Sep.packB (h : Sep M w0 Δ F w) (j : Nat) {a : Option Addr} {n c : Nat} {bs : List UInt8} {f : List Nat} (q : Int) (hj : Δ[j]? = some (Wk.mine [.slice a n c] bs f)) (hq : I64ok q) :
    Sep M w0 (Δ.set j (Wk.mine [.int .i64 q, .slice a n c] (⟨q, bs⟩ : Block) f)) F w := by
  have ho := h.mine j hj
  obtain rfl := own_n ho
  have hn : f.Nodup := h.nodup1 hj
  exact h.set hj (q := Wk.mine [.int .i64 q, .slice a bs.length c] (⟨q, bs⟩ : Block) f) Ext.refl (Block.own_mk (x := ⟨q, bs⟩) hq ho) hn (fun b hb => .inl hb)
end
def drvAt (z : Wld) (g i : Nat) : Drive := (z.Groups.getD g []).getD i default
def blkT (g i row : Nat) (b : Block) (z : Wld) : Wld :=
  ⟨z.Shape, z.Groups.set g ((z.Groups.getD g []).set i ⟨(drvAt z g i).Wiped, (drvAt z g i).Blocks.set row b⟩), z.On, z.Tapes, z.Writes, z.Stop, z.Down⟩
def blkW (g i row : Nat) (b : Block) (z : Wld) : Wld := rawW z (blkT g i row b z)
section
variable {z : Wld} {g i row : Nat} {b : Block}
theorem blkT_ok (h : z.Ok) : (blkT g i row b z).Ok := h
end
end Go.Wk
namespace Go.Wk
open Go.Proofs Rp
set_option maxRecDepth 10000
theorem Tryz_impl_World_writeBlock_1 {w : World} {z : Wld} {zb i b1 b2 b3 b4 b5 : Nat} {g row : Int} {fp xF : List Nat} {x : Block} {xA : Option Addr} {xC : Nat} (o : OwnW w zb 38 z fp) (nd : fp.Nodup) (h1 : w.heap[b1]? = some (.cells [.int .i64 x.Stamp, .slice xA x.Bytes.length xC].toArray 182)) (d1 : b1 ∉ fp) (h2 : w.heap[b2]? = some (.cells [.pointer (some ⟨zb, 0, none⟩)].toArray 82)) (d2 : b2 ∉ fp) (h3 : w.heap[b3]? = some (.cells [.int .i64 g].toArray 2)) (d3 : b3 ∉ fp) (h4 : w.heap[b4]? = some (.cells [.int .i64 (i : Nat)].toArray 2)) (d4 : b4 ∉ fp) (h5 : w.heap[b5]? = some (.cells [.int .i64 row].toArray 2)) (d5 : b5 ∉ fp) (xO : own false w [.slice xA x.Bytes.length xC] x.Bytes xF) (xD : ∀ b ∈ xF, b ∉ fp) (xK : x.Ok) (hg : 0 ≤ g ∧ g.toNat < z.Groups.length) (hi : i < (z.Groups.getD g.toNat []).length) (hr : 0 ≤ row ∧ row.toNat < ((z.Groups.getD g.toNat []).getD i default).Blocks.length) (hl : x.Bytes.length ≤ 1000000) : Ret Tryz.prog 291 #[.pointer (some ⟨b1, 0, none⟩), .pointer (some ⟨b2, 0, none⟩), .pointer (some ⟨b3, 0, none⟩), .pointer (some ⟨b4, 0, none⟩), .pointer (some ⟨b5, 0, none⟩)] w fun v w' => (MutW w w' fp zb 38 (blkT g.toNat i row.toNat x z)) := by
 have xLe := oL xO
 refine ret_Q (vs := [.pointer (some ⟨b1, 0, none⟩), .pointer (some ⟨b2, 0, none⟩), .pointer (some ⟨b3, 0, none⟩), .pointer (some ⟨b4, 0, none⟩), .pointer (some ⟨b5, 0, none⟩)]) Tryz.func291 rfl Tryz.ntmps291 rfl (fun Q hQ hN => ?_)
 have H0 := ((((((Sep.beginW o nd).boxF h1 d1).boxF h2 d2).boxF h3 d3).boxF h4 d4).boxF h5 d5).seeF xO xD
 try dsimp only [lNA, lCA, lSZ, lSS] at H0
 obtain ⟨wA1, wC1, wA2, wC2, wA3, wC3, wf1, wf2, wf3, wok1, H1⟩ := H0.openW 0 rfl
 try dsimp only [lNA, lCA, lSZ, lSS] at H1
 have wok1U := wok1
 unfold Wld.Ok Shape.Ok I64ok at wok1U
 have wL1 := oL (H1.mine 2 rfl)
 have wL2 := oL (H1.mine 3 rfl)
 have wL3 := oL (H1.mine 4 rfl)
 obtain ⟨eb1, eo1, eT1, eF1, eG1, ea1, ek1, eg1, ee1, eH1⟩ := H1.focusL 2 rfl g.toNat (by omega)
 try dsimp only [lNA, lCA, lSZ, lSS] at eH1
 obtain ⟨eb2, eo2, eT2, eF2, eG2, ea2, ek2, eg2, ee2, eK1, eH2⟩ := Drive.focus eH1 5 rfl i (by omega)
 have eK1U := eK1
 unfold Drive.Ok at eK1U
 try unfold I64ok at eK1U
 try unfold maxLen at eK1U
 try dsimp only [lNA, lCA, lSZ, lSS] at eH2
 obtain ⟨eb3, eo3, ee3⟩ := own_addr (eH2.mine 7 rfl) row.toNat (by omega)
 refine W_drw (S := eH2.S2 2 5) [(0, true), (1, true), (2, true), (3, true), (4, true), (5, true), (7, true), (11, true), (12, true), (13, true), (14, true), (15, true), (1014, false), (6, false), (8, true), (9, true), (1005, false), (10, false), (16, false), (17, true), (18, true), (19, false), (16, false), (17, true), (10, false), (18, true), (19, false), (16, false), (17, true), (6, false), (8, true), (9, true), (10, false), (18, true), (19, false)] (by kernel_rfl) (by kernel_rfl) (by kernel_rfl) rfl (fun _ => show eH2.S2 2 5 _ from Ext.refl.drawn _) (fun q1 => ?_)
 have H2 := eH2.drawn q1
 refine dV rfl rfl (fun zw hx => py_load tu82 rfl rfl (cell_atL (eH2.s2FBox hx 1 rfl rfl rfl) rfl)) (dV rfl rfl (fun zw hx => py_nil rfl) (dV rfl rfl (fun zw hx => py_field tu38 rfl ts35 rfl rfl) (dV rfl rfl (fun zw hx => py_load tu35 rfl rfl (cell_atL (eH2.s2Box hx 0 rfl rfl rfl rfl rfl) rfl)) (dV rfl rfl (fun zw hx => py_load tu2 rfl rfl (cell_atL (eH2.s2FBox hx 2 rfl rfl rfl) rfl)) (dV rfl rfl (fun zw hx => py_elz tu35 ts142 rfl rfl ee1 g.toNat (by omega) (by omega)) (dV rfl rfl (fun zw hx => py_load tu2 rfl rfl (cell_atL (eH2.s2FBox hx 3 rfl rfl rfl) rfl)) (dV rfl rfl (fun zw hx => py_load tu2 rfl rfl (cell_atL (eH2.s2FBox hx 4 rfl rfl rfl) rfl)) (dV rfl rfl (fun zw hx => py_field tu182 rfl ts2 rfl rfl) (dV rfl rfl (fun zw hx => py_load tu2 rfl rfl (cell_atL (eH2.s2FBox hx 0 rfl rfl rfl) rfl)) (dV rfl rfl (fun zw hx => py_field tu182 rfl ts45 rfl rfl) (dV rfl rfl (fun zw hx => py_load tu45 rfl rfl (cell_atL (eH2.s2FBox hx 0 rfl rfl rfl) rfl)) (d_fork (l1 := [(6, false), (8, true), (9, true), (1005, false), (10, false), (16, false), (17, true), (18, true), (19, false), (16, false), (17, true), (10, false), (18, true), (19, false)]) (l2 := [(16, false), (17, true), (6, false), (8, true), (9, true), (10, false), (18, true), (19, false)]) rfl rfl rfl rfl ?_ ?_))))))))))))
 ·refine d_end rfl (wn rfl) rfl rfl (py_load tu142 rfl rfl (at_cell (H2.holAt 2 rfl) 0 rfl)) (dV rfl rfl (fun zw hx => py_elz tu142 ts180 rfl rfl ee2 i (by omega) (by omega)) (dV rfl rfl (fun zw hx => py_field tu180 rfl ts178 rfl rfl) (d_fork (l1 := [(10, false), (16, false), (17, true), (18, true), (19, false)]) (l2 := [(16, false), (17, true), (10, false), (18, true), (19, false)]) rfl rfl rfl rfl ?_ ?_)))
  ·refine d_end rfl (wn rfl) rfl rfl (py_load tu178 rfl rfl (at_cell (H2.holAt 5 rfl) 1 rfl)) (d_call rfl (wn rfl) rfl rfl (pc_call Tryz.func151 rfl Tryz_nm151 rfl) (Tryz_clone_b (H2.sees 5 rfl) (by omega)) (fun hS _ _ r _ => eH2.s2Call hS r.1) (fun v1 w1 r1 => ?_))
   obtain ⟨e1, r1⟩ := r1
   obtain ⟨fp1, H3⟩ := H2.res e1 r1
   obtain ⟨a1, k1, q2⟩ := own_slice (H3.mine 8 rfl)
   cases q2
   refine dV rfl rfl (fun zw hx => py_buildS Tryz_pl182 rfl rfl) (dV rfl rfl (fun zw hx => py_elz tu178 ts182 rfl rfl ee3 row.toNat (by omega) (by omega)) ?_)
   have H5 := H3.packB 8 x.Stamp rfl xK
   try dsimp only [lNA, lCA, lSZ, lSS] at H5
   refine d_elst2S rfl (wn rfl) ts182 H5 7 8 rfl rfl rfl row.toNat (by omega) rfl ee3 rfl (fun w2 fp2 H4 => ?_)
   try dsimp only [lNA, lCA, lSZ, lSS] at H4
   refine d_nil (hN _ _ (fin0 Tryz.results291 ?_))
   obtain ⟨fp3, H6⟩ := Drive.fill H4 5 7 rfl rfl rfl trivial
   try dsimp only [lNA, lCA, lSZ, lSS] at H6
   obtain ⟨fp4, H7⟩ := H6.fill 2 5 rfl rfl rfl
   try dsimp only [lNA, lCA, lSZ, lSS] at H7
   obtain ⟨fp5, H8⟩ := H7.closeW 0 2 3 4 (blkT g.toNat i row.toNat x z) rfl rfl rfl rfl rfl rfl rfl rfl rfl rfl (blkT_ok wok1)
   try dsimp only [lNA, lCA, lSZ, lSS] at H8
   exact H8.doneW
  ·refine d_call rfl (wn rfl) rfl rfl (pc_call Tryz.func151 rfl Tryz_nm151 rfl) (Tryz_clone_b (H2.sees 5 rfl) (by omega)) (fun hS _ _ r _ => eH2.s2Call hS r.1) (fun v2 w3 r2 => ?_)
   obtain ⟨e3, r2⟩ := r2
   obtain ⟨fp6, H9⟩ := H2.res e3 r2
   obtain ⟨a2, k2, q3⟩ := own_slice (H9.mine 8 rfl)
   cases q3
   refine dV rfl rfl (fun zw hx => py_buildS Tryz_pl182 rfl rfl) (d_end rfl (wn rfl) rfl rfl (py_load tu178 rfl rfl (at_cell (H9.holAt 5 rfl) 1 rfl)) (dV rfl rfl (fun zw hx => py_elz tu178 ts182 rfl rfl ee3 row.toNat (by omega) (by omega)) ?_))
   have H11 := H9.packB 8 x.Stamp rfl xK
   try dsimp only [lNA, lCA, lSZ, lSS] at H11
   refine d_elst2S rfl (wn rfl) ts182 H11 7 8 rfl rfl rfl row.toNat (by omega) rfl ee3 rfl (fun w4 fp7 H10 => ?_)
   try dsimp only [lNA, lCA, lSZ, lSS] at H10
   refine d_nil (hN _ _ (fin0 Tryz.results291 ?_))
   obtain ⟨fp8, H12⟩ := Drive.fill H10 5 7 rfl rfl rfl trivial
   try dsimp only [lNA, lCA, lSZ, lSS] at H12
   obtain ⟨fp9, H13⟩ := H12.fill 2 5 rfl rfl rfl
   try dsimp only [lNA, lCA, lSZ, lSS] at H13
   obtain ⟨fp10, H14⟩ := H13.closeW 0 2 3 4 (blkT g.toNat i row.toNat x z) rfl rfl rfl rfl rfl rfl rfl rfl rfl rfl (blkT_ok wok1)
   try dsimp only [lNA, lCA, lSZ, lSS] at H14
   exact H14.doneW
 ·refine d_call rfl (wn rfl) rfl rfl (pc_call Tryz.func151 rfl Tryz_nm151 rfl) (Tryz_clone_b (H2.sees 5 rfl) (by omega)) (fun hS _ _ r _ => eH2.s2Call hS r.1) (fun v3 w5 r3 => ?_)
  obtain ⟨e5, r3⟩ := r3
  obtain ⟨fp11, H15⟩ := H2.res e5 r3
  obtain ⟨a3, k3, q4⟩ := own_slice (H15.mine 8 rfl)
  cases q4
  refine dV rfl rfl (fun zw hx => py_buildS Tryz_pl182 rfl rfl) (d_end rfl (wn rfl) rfl rfl (py_load tu142 rfl rfl (at_cell (H15.holAt 2 rfl) 0 rfl)) (dV rfl rfl (fun zw hx => py_elz tu142 ts180 rfl rfl ee2 i (by omega) (by omega)) (dV rfl rfl (fun zw hx => py_field tu180 rfl ts178 rfl rfl) (d_end rfl (wn rfl) rfl rfl (py_load tu178 rfl rfl (at_cell (H15.holAt 5 rfl) 1 rfl)) (dV rfl rfl (fun zw hx => py_elz tu178 ts182 rfl rfl ee3 row.toNat (by omega) (by omega)) ?_)))))
  have H17 := H15.packB 8 x.Stamp rfl xK
  try dsimp only [lNA, lCA, lSZ, lSS] at H17
  refine d_elst2S rfl (wn rfl) ts182 H17 7 8 rfl rfl rfl row.toNat (by omega) rfl ee3 rfl (fun w6 fp12 H16 => ?_)
  try dsimp only [lNA, lCA, lSZ, lSS] at H16
  refine d_nil (hN _ _ (fin0 Tryz.results291 ?_))
  obtain ⟨fp13, H18⟩ := Drive.fill H16 5 7 rfl rfl rfl trivial
  try dsimp only [lNA, lCA, lSZ, lSS] at H18
  obtain ⟨fp14, H19⟩ := H18.fill 2 5 rfl rfl rfl
  try dsimp only [lNA, lCA, lSZ, lSS] at H19
  obtain ⟨fp15, H20⟩ := H19.closeW 0 2 3 4 (blkT g.toNat i row.toNat x z) rfl rfl rfl rfl rfl rfl rfl rfl rfl rfl (blkT_ok wok1)
  try dsimp only [lNA, lCA, lSZ, lSS] at H20
  exact H20.doneW
theorem Tryz_impl_World_writeBlock {w : World} {z : Wld} {zb i : Nat} {fp : List Nat} {g row : Int} {x : Block} {xA1 : Option Addr} {xC1 : Nat} {xF1 : List Nat} (o : OwnW w zb 38 z fp) (nd : fp.Nodup) (xK : x.Ok) (xO1 : own false w [.slice xA1 x.Bytes.length xC1] x.Bytes xF1) (xD1 : ∀ b ∈ xF1, b ∉ fp) (hg : 0 ≤ g ∧ g.toNat < z.Groups.length) (hi : i < (z.Groups.getD g.toNat []).length) (hr : 0 ≤ row ∧ row.toNat < ((z.Groups.getD g.toNat []).getD i default).Blocks.length) (hl : x.Bytes.length ≤ 1000000) (hw : z.Writes ≤ 2000000000) : Ret Tryz.prog 211 #[.pointer (some ⟨zb, 0, none⟩), .int .i64 g, .int .i64 i, .int .i64 row, x.val xA1 xC1] w fun v w' => (v = .bool (!noPower z) ∧ MutW w w' fp zb 38 (blkW g.toNat i row.toNat x z)) := by
 have xK2 := xK
 unfold Block.Ok at xK2
 try unfold I64ok at xK2
 try unfold maxLen at xK2
 have xL1 := oL xO1
 refine ret_Q (vs := [.pointer (some ⟨zb, 0, none⟩), .int .i64 g, .int .i64 i, .int .i64 row, x.val xA1 xC1]) Tryz.func211 rfl Tryz.ntmps211 rfl (fun Q hQ hN => ?_)
 have H0 := (Sep.beginW o nd).seeF (xO1) xD1
 try dsimp only [lNA, lCA, lSZ, lSS] at H0
 refine W_sr (s_box (wn rfl) rfl rfl H0 (fun b1 w1 e1 g1 H1 => ?_))
 refine s_box (wn rfl) rfl rfl H1 (fun b2 w2 e2 g2 H2 => ?_)
 refine s_box (wn rfl) rfl rfl H2 (fun b3 w3 e3 g3 H3 => ?_)
 refine s_box (wn rfl) rfl rfl H3 (fun b4 w4 e4 g4 H4 => ?_)
 refine s_box (wn rfl) rfl rfl H4 (fun b5 w5 e5 g5 H5 => ?_)
 refine sA rfl rfl (s_nil (W_sr (sV rfl (py_load tu82 rfl rfl (cell_atL (H5.box 1 rfl) rfl)) (sV rfl (py_func rfl) (s_call (wn rfl) rfl rfl (pc_call Tryz.func290 rfl Tryz_nm290 rfl) (Tryz_impl_World_raw (H5.wldAt 0 rfl) (H5.nodup1 (i := 0) rfl) (y := blkT g.toNat i row.toNat x z) Tryz.func291 rfl Tryz_nm291 (fun w1 fp1 o1 n1 s1 e1 => Tryz_impl_World_writeBlock_1 o1 n1 (H5.boxFar 0 5 rfl rfl rfl s1 e1).1 (H5.boxFar 0 5 rfl rfl rfl s1 e1).2 (H5.boxFar 0 1 rfl rfl rfl s1 e1).1 (H5.boxFar 0 1 rfl rfl rfl s1 e1).2 (H5.boxFar 0 2 rfl rfl rfl s1 e1).1 (H5.boxFar 0 2 rfl rfl rfl s1 e1).2 (H5.boxFar 0 3 rfl rfl rfl s1 e1).1 (H5.boxFar 0 3 rfl rfl rfl s1 e1).2 (H5.boxFar 0 4 rfl rfl rfl s1 e1).1 (H5.boxFar 0 4 rfl rfl rfl s1 e1).2 (H5.seeFar 0 0 rfl rfl s1 e1).1 (H5.seeFar 0 0 rfl rfl s1 e1).2 xK hg hi hr hl) (by first | assumption | omega)) (fun v1 w6 r1 => ?_))))))
 obtain ⟨rfl, mm1⟩ := r1
 obtain ⟨fp1, H6⟩ := H5.mutW 0 rfl mm1
 try dsimp only [lNA, lCA, lSZ, lSS] at H6
 refine sA rfl rfl (s_nil (rT hQ Tryz.results211 rfl ?_))
 exact ⟨rfl, H6.doneW⟩
end Go.Wk
