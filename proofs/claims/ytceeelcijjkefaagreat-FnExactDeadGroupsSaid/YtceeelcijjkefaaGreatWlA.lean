/-
  An element taken out of a list and put back. No program is named here.
-/
import Derived.Test.YtceeelcijjkefaaGreatWkZ
set_option linter.unusedVariables false
set_option linter.unusedSimpArgs false
namespace Go.Wk
open Rp (sz own)
/-- A list of which element k is out. -/
def hole {β : Type} [Rp β] (b o k : Nat) (cur : Array Value) (T : TypeId) (ad : Option Addr) (n cap : Nat) (xss : List (List β)) (f1 f2 : List Nat) : Rsc :=
  ⟨b :: (f1 ++ f2), fun w => w.heap[b]? = some (.cells cur T (0, 0)) ∧ (∀ x ∈ b :: (f1 ++ f2), x < w.heap.size) ∧
    ∀ w' cur' x' fk', w'.heap[b]? = some (.cells cur' T (0, 0)) → cur'.size = cur.size → (∀ j, j < o + k ∨ o + (k + 1) ≤ j → cur'[j]? = cur[j]?) → (∀ b ∈ f1, w'.heap[b]? = w.heap[b]?) → (∀ b ∈ f2, w'.heap[b]? = w.heap[b]?) →
        own true w' ((cur'.toList.drop (o + k)).take 1) x' fk' → own true w' [.slice ad n cap] (xss.set k x') (b :: (f1 ++ (fk' ++ f2))),
   fun h e => ⟨(e b (by simp)).trans h.1, fun x hx => by
      have h1 := h.2.1 x hx
      have h2 := e x hx
      rw [Array.getElem?_eq_getElem h1] at h2
      exact (Array.getElem?_eq_some_iff.1 h2).1, fun w' cur' x' fk' h1 h2 h3 h4 h5 h6 => h.2.2 w' cur' x' fk' h1 h2 h3 (fun b hb => (h4 b hb).trans (e b (by simp [hb]))) (fun b hb => (h5 b hb).trans (e b (by simp [hb]))) h6⟩,
   fun h => h.2.1⟩
def reord (r : Rsc) (fp : List Nat) (h : ∀ b, b ∈ fp ↔ b ∈ r.fp) : Rsc := ⟨fp, r.φ, fun a e => r.st a fun b hb => e b ((h b).2 hb), fun a b hb => r.lt a b ((h b).1 hb)⟩
section
variable {M : Nat → Prop} {w0 w w' : World} {Δ F : List Rsc} {β : Type} [Rp β]
theorem set_swap {a b : Rsc} {t : List Rsc} : ∀ {Δ : List Rsc} {i : Nat}, i < Δ.length → (Δ.set i a ++ b :: t).Perm (Δ.set i b ++ a :: t)
  | [], _, h => by simp at h
  | x :: Δ, 0, _ => by
    show (a :: (Δ ++ b :: t)).Perm (b :: (Δ ++ a :: t))
    exact (List.perm_middle.cons a).trans ((List.Perm.swap _ _ _).trans (List.perm_middle.symm.cons b))
  | x :: Δ, i + 1, h => (set_swap (Δ := Δ) (i := i) (by simpa using h)).cons x
theorem Sep.unhook (h : Sep M w0 Δ F w) (i : Nat) {ad n cap} {xss : List (List β)} {fp} (hi : Δ[i]? = some (Wk.mine [.slice ad n cap] xss fp)) (k : Nat) (hk : k < xss.length) :
    ∃ b o cur T f1 f2 fk a c, ad = some ⟨b, o, none⟩ ∧ o + k < cur.size ∧ w.cell? ⟨b, o + k * 1, none⟩ = some (.slice a (xss.getD k []).length c) ∧ b ∉ fk ∧ Sep M w0 (Δ.set i (hole b o k cur T ad n cap xss f1 f2) ++ [Wk.mine [.slice a (xss.getD k []).length c] (xss.getD k []) fk]) F w := by
  have hnd := h.nodup1 hi
  obtain ⟨b, o, cur, T, f1, fk, f2, e1, e2, hb, hsz, hx, hback⟩ := own_zoom (h.mine i hi) k hk
  have hs1 : sz (List β) = 1 := rfl
  rw [hs1, Nat.mul_one] at hsz hx
  have hlt := Rp.lt (h.mine i hi)
  change fp.Nodup at hnd
  subst e2
  have hnd0 := hnd
  obtain ⟨n1, n2⟩ := List.nodup_cons.1 hnd
  rw [List.nodup_append, List.nodup_append] at n2
  obtain ⟨d1, ⟨d2, d3, d4⟩, d5⟩ := n2
  have hmem : ∀ x, x ∈ (b :: (f1 ++ f2)) ++ fk ↔ x ∈ b :: (f1 ++ (fk ++ f2)) := fun x => by
    simp only [List.cons_append, List.mem_cons, List.mem_append]
    constructor
    · rintro (h | (h | h) | h)
      · exact .inl h
      · exact .inr (.inl h)
      · exact .inr (.inr (.inr h))
      · exact .inr (.inr (.inl h))
    · rintro (h | h | h | h)
      · exact .inl h
      · exact .inr (.inl (.inl h))
      · exact .inr (.inr h)
      · exact .inr (.inl (.inr h))
  have H1 := h.set hi (q := reord (Wk.mine [.slice ad n cap] xss (b :: (f1 ++ (fk ++ f2)))) ((b :: (f1 ++ f2)) ++ fk) hmem) Ext.refl (h.mine i hi)
    (by
      change ((b :: (f1 ++ f2)) ++ fk).Nodup
      refine List.nodup_append.2 ⟨List.nodup_cons.2 ⟨fun hm => n1 (by rcases List.mem_append.1 hm with hm | hm <;> simp [hm]), List.nodup_append.2 ⟨d1, d3, fun p hp q hq e => d5 p hp q (by simp [hq]) e⟩⟩, d2, fun p hp q hq e => ?_⟩
      subst e
      rcases List.mem_cons.1 hp with rfl | hp
      · exact n1 (by simp [hq])
      · rcases List.mem_append.1 hp with hp | hp
        · exact d5 p hp p (by simp [hq]) rfl
        · exact d4 p hq p hp rfl)
    (fun x hx => .inl ((hmem x).1 hx))
  have hsz1 : ((cur.toList.drop (o + k)).take 1).length = 1 := by
    have e : cur.toList.length = cur.size := by simp
    rw [List.length_take, List.length_drop]; omega
  obtain ⟨v, ev⟩ := List.length_eq_one_iff.1 hsz1
  have hx2 := hx
  rw [ev] at hx2
  obtain ⟨a, c, e3⟩ := own_slice hx2
  have ek : xss.getD k [] = xss[k] := by simp [List.getD, hk]
  have hcell : cur[o + k]? = some v := by
    have : (cur.toList.drop (o + k))[0]? = some v := by
      have : ((cur.toList.drop (o + k)).take 1)[0]? = some v := by rw [ev]; rfl
      simpa [List.getElem?_take] using this
    simpa using this
  rw [e3] at hx2
  have hil : i < Δ.length := (List.getElem?_eq_some_iff.1 hi).1
  refine ⟨b, o, cur, T, f1, f2, fk, a, c, e1, by omega, ?_, fun hm => n1 (by simp [hm]), ?_⟩
  · rw [Nat.mul_one, ek, ← (List.cons.inj e3).1]
    exact cell_at hb hcell
  · have H2 := H1.part i (r := reord (Wk.mine [.slice ad n cap] xss (b :: (f1 ++ (fk ++ f2)))) ((b :: (f1 ++ f2)) ++ fk) hmem) (by rw [List.getElem?_set_self hil]) [hole b o k cur T ad n cap xss f1 f2, Wk.mine [.slice a (xss.getD k []).length c] (xss.getD k []) fk] ?_ ?_
    · rw [List.set_set] at H2
      exact (H2.perm (set_swap hil)).sub ((List.Sublist.refl _).append (.cons _ (.refl _)))
    · refine all_cons ⟨hb, fun x hx => hlt x ((hmem x).1 (by simp only [List.mem_append]; exact .inl hx)), fun w' cur' x' fk' q1 q2 q3 q4 q5 q6 => hback w' cur' x' fk' q1 q2 (fun j hj => q3 j (by rw [hs1] at hj; omega)) q4 q5 (by rw [hs1, Nat.mul_one]; exact q6)⟩ (all_cons ?_ (by simp))
      rw [ek]; exact hx2
    · simp [blocks, hole, Wk.mine, reord]
theorem Sep.hook (h : Sep M w0 Δ F w) (i j : Nat) {b o k cur T ad n cap} {xss : List (List β)} {f1 f2 v fk} {x : List β} (hi : Δ[i]? = some (hole b o k cur T ad n cap xss f1 f2)) (hj : Δ[j]? = some (Wk.mine [v] x fk)) (hij : Nat.beq j i = false) (hk : o + k < cur.size) :
    Sep M w0 ((Δ.set j gone).set i (Wk.mine [.slice ad n cap] (xss.set k x) (b :: (f1 ++ (fk ++ f2))))) F (Wk.put w b (.cells (cur.setIfInBounds (o + k) v) T (0, 0))) := by
  have hne : j ≠ i := fun e => by subst e; simp at hij
  obtain ⟨hb, hlt, hback⟩ : (hole b o k cur T ad n cap xss f1 f2).φ w := h.rs _ (List.mem_of_getElem? hi)
  have hx := h.mine j hj
  have hnd := h.nodup1 hi
  change (b :: (f1 ++ f2)).Nodup at hnd
  have hnk := h.nodup1 hj
  change fk.Nodup at hnk
  have hap : ∀ x ∈ fk, x ∉ b :: (f1 ++ f2) := fun x hx hm => h.apart (i := i) (j := j) hi hj hij x hx hm
  obtain ⟨n1, n2⟩ := List.nodup_cons.1 hnd
  obtain ⟨d1, d2, d3⟩ := List.nodup_append.1 n2
  have hE : Ext (· = b) w (Wk.put w b (.cells (cur.setIfInBounds (o + k) v) T (0, 0))) := Ext.refl.put (.inl rfl)
  have hbk : b ∉ fk := fun hm => hap b hm (by simp)
  refine h.set2 hi hj hij (q := Wk.mine [.slice ad n cap] (xss.set k x) (b :: (f1 ++ (fk ++ f2)))) (hE.mono fun b' _ e => by subst e; simp [hole]) ?_ ?_ ?_
  · refine hback _ _ x fk (put_heap hb) (by simp) (fun j hj => Array.getElem?_setIfInBounds_ne (by omega)) (fun b' hb' => hE.block b' (hlt b' (by simp [hb'])) fun e => ?_) (fun b' hb' => hE.block b' (hlt b' (by simp [hb'])) fun e => ?_) ?_
    · subst e; exact n1 (by simp [hb'])
    · subst e; exact n1 (by simp [hb'])
    · have e : ((cur.setIfInBounds (o + k) v).toList.drop (o + k)).take 1 = [v] := by
        have := lay_part [v] cur (o + k) (by show o + k + 1 ≤ cur.size; omega)
        exact this
      rw [e]
      exact Rp.st hx fun b' hb' => hE.block b' (Rp.lt hx b' hb') fun e => by subst e; exact hbk hb'
  · change (b :: (f1 ++ (fk ++ f2))).Nodup
    refine List.nodup_cons.2 ⟨fun hm => ?_, List.nodup_append.2 ⟨d1, List.nodup_append.2 ⟨hnk, d2, fun p hp q hq e => ?_⟩, fun p hp q hq e => ?_⟩⟩
    · simp only [List.mem_append, not_or] at hm n1
      rcases hm with hm | hm | hm
      · exact n1.1 hm
      · exact hbk hm
      · exact n1.2 hm
    · subst e; exact hap p hp (by simp [hq])
    · subst e
      rcases List.mem_append.1 hq with hq | hq
      · exact hap p hq (by simp [hp])
      · exact d3 p hp p hq rfl
  · intro x hx
    change x ∈ b :: (f1 ++ (fk ++ f2)) at hx
    simp only [List.mem_cons, List.mem_append] at hx
    rcases hx with h | h | h | h
    · exact .inl (by simp [hole, h])
    · exact .inl (by simp [hole, h])
    · exact .inr (.inl h)
    · exact .inl (by simp [hole, h])
end
section
variable {P : Program} {n : Nat} {ops : Array Oper} {Q : Post} {L : Env} {w w0 : World} {M : Nat → Prop} {Δ F : List Rsc} {d : Tmp} {ty : TypeId} {p : String} {af : Array Edge} {g : Option (Nat × Bool)} {β : Type} [Rp β]
theorem s_hook {rest : List Oper} {t : TypeId} {x y : Operand} {b o k : Nat} {cur T} {ad : Option Addr} {len cap : Nat} {xss : List (List β)} {f1 f2 fk : List Nat} {v : Value} {z : List β} (hw : Wn ops n L ⟨none, .store t x y, ty, p, af, g⟩) (hs : ∀ w, (sizeOf t).run P w = .ok 1 w)
    (H : Sep M w0 Δ F w) (i j : Nat) (hi : Δ[i]? = some (hole b o k cur T ad len cap xss f1 f2)) (hj : Δ[j]? = some (mine [v] z fk)) (hij : Nat.beq j i = false) (hk : o + k < cur.size)
    (hx : evL L x = some (.pointer (some ⟨b, o + k * 1, none⟩))) (hy : evL L y = some v)
    (kk : ∀ w' fp', Sep M w0 ((Δ.set j gone).set i (mine [.slice ad len cap] (xss.set k z) fp')) F w' → RL P n ops Q rest L w') :
    RL P n ops Q (⟨none, .store t x y, ty, p, af, g⟩ :: rest) L w := by
  obtain ⟨hb, _, _⟩ : (hole b o k cur T ad len cap xss f1 f2).φ w := H.rs _ (List.mem_of_getElem? hi)
  rw [Nat.mul_one] at hx
  exact s_do hw rfl (pd_store hs hx hy (Rp.one (H.mine j hj) v (by simp)) hb hk) (kk _ _ (H.hook i j hi hj hij hk))
theorem d_hook {S : World → Prop} {l : Nat} {t : TypeId} {x y : Operand} {b o k : Nat} {cur T} {ad : Option Addr} {len cap : Nat} {xss : List (List β)} {f1 f2 fk : List Nat} {v : Value} {z : List β} (ho : ops.toList[l]? = some ⟨none, .store t x y, ty, p, af, g⟩) (hw : Wn ops n L ⟨none, .store t x y, ty, p, af, g⟩) (hs : ∀ w, (sizeOf t).run P w = .ok 1 w)
    (H : Sep M w0 Δ F w) (i j : Nat) (hi : Δ[i]? = some (hole b o k cur T ad len cap xss f1 f2)) (hj : Δ[j]? = some (mine [v] z fk)) (hij : Nat.beq j i = false) (hk : o + k < cur.size)
    (hx : evL L x = some (.pointer (some ⟨b, o + k * 1, none⟩))) (hy : evL L y = some v)
    (kk : ∀ w' fp', Sep M w0 ((Δ.set j gone).set i (mine [.slice ad len cap] (xss.set k z) fp')) F w' → DL P n ops Q S [] L w') :
    DL P n ops Q S [(l, false)] L w := by
  obtain ⟨hb, _, _⟩ : (hole b o k cur T ad len cap xss f1 f2).φ w := H.rs _ (List.mem_of_getElem? hi)
  rw [Nat.mul_one] at hx
  exact d_do ho hw rfl (pd_store hs hx hy (Rp.one (H.mine j hj) v (by simp)) hb hk) (fun _ hr => absurd rfl hr) (kk _ _ (H.hook i j hi hj hij hk))
end
/-! ### Weights between blocks -/
def trF (g : Nat → List UInt8) (n j i : Nat) : Mat := (List.range n).map fun x => (List.range (if x < i then j + 1 else j)).map fun t => (g t).getD x 0
theorem trF_len {g n j i} : (trF g n j i).length = n := by simp [trF]
theorem trF_get {g n j i x} (h : x < n) : (trF g n j i).getD x [] = (List.range (if x < i then j + 1 else j)).map fun t => (g t).getD x 0 := by simp [trF, List.getD, h]
theorem trF_zero {g n} : trF g n 0 0 = List.replicate n [] := by
  refine List.ext_getElem (by simp [trF]) fun i h1 h2 => ?_
  simp [trF]
theorem trF_step {g n j i} (h : i < n) : (trF g n j i).set i ((trF g n j i).getD i [] ++ [(g j).getD i 0]) = trF g n j (i + 1) := by
  refine List.ext_getElem (by simp [trF]) fun x h1 h2 => ?_
  rw [List.getElem_set]
  simp only [trF, List.getElem_map, List.getElem_range]
  by_cases e : i = x
  · subst e
    have e := trF_get (g := g) (j := j) (i := i) h
    rw [if_neg (by omega)] at e
    rw [if_pos rfl, if_pos (by omega), List.range_succ, List.map_append]
    exact congrArg (· ++ _) e
  · rw [if_neg e]
    by_cases h3 : x < i
    · rw [if_pos h3, if_pos (by omega)]
    · rw [if_neg h3, if_neg (by omega)]
theorem trF_next {g n j} : trF g n j n = trF g n (j + 1) 0 := by
  refine List.ext_getElem (by simp [trF]) fun x h1 h2 => ?_
  have : x < n := by simpa [trF] using h1
  simp [trF, this]
theorem trF_rect {g n m} : Rect (trF g n m 0) n m := ⟨trF_len, fun i hi => by rw [trF_get hi]; simp⟩
def hv (n : Nat) (have_ : List Int) (base : Int) (t : Nat) : List UInt8 := genG n (have_.getD t 0) base
def betwM (n : Nat) (have_ : List Int) (base : Int) : Mat := trF (hv n have_ base) n n 0
def betw (n : Nat) (have_ : List Int) (want base : Int) : List UInt8 := solL (betwM n have_ base) (genG n want base)
theorem betwM_len {n h b} : (betwM n h b).length = n := trF_len
theorem betwM_rect {n h b} : Rect (betwM n h b) (betwM n h b).length (betwM n h b).length := by rw [betwM_len]; exact trF_rect
theorem betw_len {n h x b} : (betw n h x b).length ≤ n := by
  have := solL_len (m := betwM n h b) (b := genG n x b)
  rw [betwM_len] at this
  exact this
end Go.Wk
namespace Go.Wk
theorem wou {n : Nat} {ops : Array Oper} {L : Env} {o : Oper} {j t b} (h : o.guard = some (j, b)) (hd : dstOf ops j = some t) (hb : look L t = some undef) : Wo ops n L o := fun a hg => by
  have hy : yielded ops a.tmps j = none := by
    have h := hg.cov t _ hb
    have hd' : (ops[j]?).bind (·.dst) = some t := by simpa [dstOf] using hd
    simp only [yielded, hd', Option.bind_some]
    simp only [Array.getD_eq_getD_getElem?] at h
    cases ht : a.tmps[t]? with
    | none => rfl
    | some v => rw [ht] at h; simp at h; subst h; rfl
  simp [Region.wanted, h, hy]
/-! ### Numbers that rise -/
def riseAt (xs : List Int) (m : Int) (i : Nat) : Bool := decide (0 ≤ xs.getD i 0) && decide (xs.getD i 0 ≤ m) && (decide (i = 0) || decide (xs.getD (i - 1) 0 < xs.getD i 0))
def rises (xs : List Int) (m : Int) : Bool := (List.range xs.length).all (riseAt xs m)
theorem rises_yes {xs m} (h : ∀ i, i < xs.length → riseAt xs m i = true) : rises xs m = true := by
  rw [rises, List.all_eq_true]
  exact fun i hi => h i (by simpa using hi)
theorem rises_no {xs m} (i : Nat) (hi : i < xs.length) (h : riseAt xs m i = false) : rises xs m = false := by
  cases hr : rises xs m with
  | false => rfl
  | true =>
    rw [rises, List.all_eq_true] at hr
    rw [hr i (by simpa using hi)] at h
    cases h
theorem rises_get {xs m} (h : rises xs m = true) (i : Nat) (hi : i < xs.length) : 0 ≤ xs.getD i 0 ∧ xs.getD i 0 ≤ m := by
  rw [rises, List.all_eq_true] at h
  have := h i (by simpa using hi)
  simp only [riseAt, Bool.and_eq_true, decide_eq_true_eq] at this
  exact this.1
end Go.Wk
