/-
  '&&' and '||': operations under a guard, group by group. No program is named here.
-/
import Derived.Test.YtceeelcijjkefaaGreatWkF
set_option linter.unusedVariables false
set_option linter.unusedSimpArgs false
namespace Go.Wk
/-- v where the guard says so. -/
def gv (e want : Bool) (v : Value) : Value := if e = want then v else undef
section
variable {P : Program} {n : Nat} {ops : Array Oper} {Q : Post} {L : Env} {w : World} {S : World → Prop}
theorem wgE {o : Oper} {j t b e} (h : o.guard = some (j, b)) (hd : dstOf ops j = some t) (hb : look L t = some (.bool e)) (he : e = b) : Wn ops n L o := by
  subst he; exact wg h hd hb
theorem py_bor {c y : Operand} {e b : Bool} {d : Option Tmp} {ty : TypeId} {p : String} {af : Array Edge} {g : Option (Nat × Bool)} (hc : evL L c = some (.bool e)) (hy : evL L y = some (gv e false (.bool b))) :
    Py P n L w ⟨d, .pick c (.const (.bool true)) y, ty, p, af, g⟩ (.bool (e || b)) := by
  cases e
  · exact py_pickF hc hy
  · exact py_pickT hc rfl
theorem py_band {c y : Operand} {e b : Bool} {d : Option Tmp} {ty : TypeId} {p : String} {af : Array Edge} {g : Option (Nat × Bool)} (hc : evL L c = some (.bool e)) (hy : evL L y = some (gv e true (.bool b))) :
    Py P n L w ⟨d, .pick c y (.const (.bool false)), ty, p, af, g⟩ (.bool (e && b)) := by
  cases e
  · exact py_pickF hc rfl
  · exact py_pickT hc hy
def fresh (d : Nat) : Env → Bool
  | [] => true
  | p :: L => !(Nat.beq p.1 d) && fresh d L
theorem fresh_look {d : Nat} : ∀ {L : Env}, fresh d L = true → look L d = none
  | [], _ => rfl
  | (u, x) :: L, h => by
    unfold fresh at h
    simp only [Bool.and_eq_true] at h
    unfold look
    cases hb : Nat.beq u d with
    | true => rw [hb] at h; simp at h
    | false => exact fresh_look h.2
theorem wo_undef {o : Oper} {j t b} (h : o.guard = some (j, b)) (hd : dstOf ops j = some t) (hu : look L t = some undef) : Wo ops n L o := fun a hg => by
  have h1 := hg.cov t _ hu
  have hd' : (ops[j]?).bind (·.dst) = some t := by simpa [dstOf] using hd
  have hy : yielded ops a.tmps j = none := by
    simp only [yielded, hd', Option.bind_some]
    simp only [Array.getD_eq_getD_getElem?] at h1
    cases ht : a.tmps[t]? with
    | none => rfl
    | some v => rw [ht] at h1; simp at h1; subst h1; rfl
  simp [Region.wanted, h, hy]
theorem wo_ne {o : Oper} {j t b e} (h : o.guard = some (j, b)) (hd : dstOf ops j = some t) (hb : look L t = some (.bool e)) (he : e ≠ b) : Wo ops n L o := fun a hg => by
  simp [Region.wanted, h, yields_of hg hd hb, he]
/-- All of these wait for one guard (some of them for another that waits for it), and their slots are not known yet. -/
def skG (ops : Array Oper) (n : Nat) (L : Env) (j : Nat) (want : Bool) : List Nat → List Oper → Bool
  | _, [] => true
  | D, o :: l => (match o.guard with
      | some (j', b) => (Nat.beq j' j && (b == want)) || (match dstOf ops j' with | some t => D.contains t | none => false)
      | none => false) && (match o.dst with
      | some d => fresh d L && Nat.blt d n && skG ops n L j want (d :: D) l
      | none => skG ops n L j want D l)
/-- What was known is known. -/
def keeps (L' L : Env) : Prop := ∀ t v, look L t = some v → look L' t = some v
theorem k0 : keeps L L := fun _ _ h => h
theorem kx {L' : Env} {d v} (hf : fresh d L = true) (h : keeps L' L) : keeps ((d, v) :: L') L := fun t u ht => by
  unfold look
  cases hb : Nat.beq d t with
  | true =>
    have : d = t := Nat.eq_of_beq_eq_true hb
    subst this
    rw [fresh_look hf] at ht; cases ht
  | false => exact h t u ht
theorem skG_skip {j tg t : Nat} {want e : Bool} (hd : dstOf ops j = some tg) (he : e ≠ want) {rest : List Oper} (hb : look L tg = some (.bool e)) (k : ∀ L', look L' t = some undef → keeps L' L → RL P n ops Q rest L' w) :
    ∀ (l : List Oper) (D : List Nat) (L' : Env), skG ops n L j want D l = true → (∀ d ∈ D, look L' d = some undef) → keeps L' L → (t ∈ D ∨ (l.any fun o => match o.dst with | some d => Nat.beq d t | none => false) = true) → RL P n ops Q (l ++ rest) L' w
  | [], D, L', _, hD, hs, ht => k L' (hD t (ht.resolve_right (by simp))) hs
  | o :: l, D, L', hc, hD, hs, ht => by
    unfold skG at hc
    simp only [Bool.and_eq_true] at hc
    obtain ⟨hg, hc⟩ := hc
    have hw : Wo ops n L' o := by
      cases hgu : o.guard with
      | none => rw [hgu] at hg; cases hg
      | some q =>
        obtain ⟨j', b⟩ := q
        rw [hgu] at hg
        simp only [Bool.or_eq_true, Bool.and_eq_true] at hg
        rcases hg with ⟨h1, h2⟩ | h1
        · have : j' = j := Nat.eq_of_beq_eq_true h1
          subst this
          have hbw : b = want := by simpa using h2
          subst hbw
          exact wo_ne hgu hd (hs _ _ hb) he
        · cases hdo : dstOf ops j' with
          | none => rw [hdo] at h1; cases h1
          | some t => rw [hdo] at h1; exact wo_undef hgu hdo (hD t (by simpa using h1))
    cases hdst : o.dst with
    | none =>
      rw [hdst] at hc
      refine s_skip0 hw hdst (skG_skip hd he hb k l D L' hc hD hs ?_)
      simpa [hdst] using ht
    | some d =>
      rw [hdst] at hc
      simp only [Bool.and_eq_true] at hc
      refine s_skip hw hdst hc.1.2 (skG_skip hd he hb k l (d :: D) _ hc.2 (fun x hx => ?_) (kx hc.1.1 hs) ?_)
      · unfold look
        cases hb' : Nat.beq d x with
        | true => rfl
        | false =>
          rcases List.mem_cons.1 hx with rfl | hx
          · simp at hb'
          · exact hD x hx
      · rcases ht with ht | ht
        · exact .inl (by simp [ht])
        · simp only [List.any_cons, hdst, Bool.or_eq_true] at ht
          rcases ht with ht | ht
          · exact .inl (by rw [Nat.eq_of_beq_eq_true ht]; simp)
          · exact .inr ht
theorem look_cons_keeps {t : Nat} {v : Value} {M : Env} (hs : keeps M L) (ht : look M t = some v) : keeps M ((t, v) :: L) := fun u x h => by
  unfold look at h
  cases hb : Nat.beq t u with
  | true =>
    have : t = u := Nat.eq_of_beq_eq_true hb
    subst this
    rw [hb] at h; cases h; exact ht
  | false => rw [hb] at h; exact hs u x h
/-- A group under a guard: carried out or passed over as a whole; what it leaves is one slot. -/
theorem s_grp {l : List Oper} (m : Nat) {j tg t : Nat} {want e : Bool} {v : Value} (hd : dstOf ops j = some tg) (hb : look L tg = some (.bool e)) (hc : skG ops n L j want [] (l.take m) = true)
    (hD : ((l.take m).any fun o => match o.dst with | some d => Nat.beq d t | none => false) = true)
    (h1 : e = want → (∀ L' w', keeps L' L → look L' t = some v → Ext No w w' → RL P n ops Q (l.drop m) L' w') → RL P n ops Q l L w)
    (k : ∀ w', Ext No w w' → RL P n ops Q (l.drop m) ((t, gv e want v) :: L) w') : RL P n ops Q l L w := by
  by_cases he : e = want
  · refine h1 he fun L' w' hs ht hE a ha => k w' hE a ⟨ha.size, ha.defers, fun u x hu => ha.cov u x (look_cons_keeps hs ht u x ?_)⟩
    rwa [gv, if_pos he] at hu
  · have hk := k w Ext.refl
    rw [gv, if_neg he] at hk
    have := skG_skip (t := t) (rest := l.drop m) hd he hb (fun L' ht hs a ha => hk a ⟨ha.size, ha.defers, fun u x hu => ha.cov u x (look_cons_keeps hs ht u x hu)⟩) (l.take m) [] L hc (by simp) k0 (.inr hD)
    rwa [List.take_append_drop] at this
end
end Go.Wk
