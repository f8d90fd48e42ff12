/-
  The walk's own logic: a frame is known by a list of slots with their values; code is walked by one law an operation. No program is named here.
-/
import Derived.Tactics
import Derived.OrdersHeld
import Derived.WalkKit
set_option linter.unusedVariables false
set_option linter.unusedSimpArgs false
namespace Go.Wk
abbrev Env := List (Nat × Value)
def look : Env → Nat → Option Value
  | [], _ => none
  | (t, v) :: L, u => match Nat.beq t u with
    | true => some v
    | false => look L u
def evL (L : Env) : Operand → Option Value
  | .tmp t => look L t
  | .const v => some v
  | .func f => some (.func (.func f) #[] #[])
  | .global g => some (.pointer (some ⟨g, 0, none⟩))
/-- Each of the slots of the second list holds what it says in the first. -/
def sub (L : Env) : Env → Prop
  | [] => True
  | p :: M => look L p.1 = some p.2 ∧ sub L M
theorem sub_look {L : Env} : ∀ {M : Env}, sub L M → ∀ {t v}, look M t = some v → look L t = some v
  | [], _, _, _, h => by simp [look] at h
  | (u, x) :: M, ⟨h1, h2⟩, t, v, h => by
    unfold look at h
    split at h
    · rename_i hb
      have : u = t := Nat.eq_of_beq_eq_true hb
      cases h; subst this; exact h1
    · exact sub_look h2 h
structure Good (n : Nat) (a : Act) (L : Env) : Prop where
  size : a.tmps.size = n
  defers : a.defers = []
  cov : ∀ t v, look L t = some v → a.tmps.getD t undef = v
theorem Good.eval {n a L x v} (h : Good n a L) (hx : evL L x = some v) : a.eval x = v := by
  cases x with
  | tmp t => exact h.cov t v hx
  | const u => simpa [evL, Act.eval] using hx
  | func f => simpa [evL, Act.eval] using hx
  | global g => simpa [evL, Act.eval] using hx
theorem Good.put {n a L d v} (h : Good n a L) (hd : Nat.blt d n = true) : Good n (a.put (some d) v) ((d, v) :: L) := by
  have hd' : d < n := Nat.le_of_ble_eq_true hd
  refine ⟨by simp [Act.put, h.size], h.defers, fun t u ht => ?_⟩
  unfold look at ht
  simp only [Act.put, Array.getD_eq_getD_getElem?]
  split at ht
  · rename_i hb
    have : d = t := Nat.eq_of_beq_eq_true hb
    subst this
    cases ht
    simp [h.size, hd']
  · rename_i hb
    have hne : d ≠ t := fun e => by subst e; simp at hb
    rw [Array.getElem?_setIfInBounds_ne hne, ← Array.getD_eq_getD_getElem?]
    exact h.cov t u ht
theorem Good.weak {n a L M} (h : Good n a L) (hs : sub L M) : Good n a M :=
  ⟨h.size, h.defers, fun t v ht => h.cov t v (sub_look hs ht)⟩
abbrev Post := Exit → Env → World → Prop
def lift (n : Nat) (Q : Post) : Exit → Act → World → Prop
  | .panic _, _, _ => False
  | .outgrown, _, _ => False
  | e, a, w => ∃ L, Good n a L ∧ Q e L w
def W (P : Program) (n : Nat) (c : Code) (Q : Post) (L : Env) (w : World) : Prop :=
  ∀ a, Good n a L → c.wp P (lift n Q) a w
theorem W.mono {P n c Q Q' L w} (h : W P n c Q L w) (hq : ∀ e L w, Q e L w → Q' e L w) : W P n c Q' L w := fun a ha =>
  wp_mono (h a ha) fun e a w hh => by
    cases e <;> first | exact hh | (obtain ⟨L, hg, hq'⟩ := hh; exact ⟨L, hg, hq _ _ _ hq'⟩)
def thn (P : Program) (n : Nat) (c : Code) (Q : Post) : Post
  | .normal, L, w => W P n c Q L w
  | e, L, w => Q e L w
theorem W_seq {P n x y Q L w} (h : W P n x (thn P n y Q) L w) : W P n (.seq x y) Q L w := fun a ha => wp_seq <|
  wp_mono (h a ha) fun e a w hh => by
    cases e <;> first | exact hh | (obtain ⟨L, hg, hq⟩ := hh; first | exact hq a hg | exact ⟨L, hg, hq⟩)
theorem W_skip {P n Q L w} (h : Q .normal L w) : W P n .skip Q L w := fun _ ha => wp_skip ⟨L, ha, h⟩
theorem W_ret {P n Q L w} (h : Q .ret L w) : W P n .ret Q L w := fun _ ha => wp_ret ⟨L, ha, h⟩
theorem W_exit {P n Q L w id} (h : Q (.exit id) L w) : W P n (.exit id) Q L w := fun _ ha => wp_exit ⟨L, ha, h⟩
theorem W_if {P n c x y Q L w b} (hc : evL L c = some (.bool b)) (h1 : b = true → W P n x Q L w) (h2 : b = false → W P n y Q L w) :
    W P n (.cond c x y) Q L w := fun a ha => wp_cond_split (ha.eval hc) (fun h => h1 h a ha) (fun h => h2 h a ha)
theorem W_ifd {P n c x y Q L w p} [i : Decidable p] (hc : evL L c = some (.bool (@decide p i))) (h1 : p → W P n x Q L w) (h2 : ¬ p → W P n y Q L w) :
    W P n (.cond c x y) Q L w := W_if hc (fun h => h1 (of_decide_eq_true h)) (fun h => h2 (of_decide_eq_false h))
theorem W_ift {P n c x y Q L w} (hc : evL L c = some (.bool true)) (h1 : W P n x Q L w) : W P n (.cond c x y) Q L w :=
  W_if hc (fun _ => h1) (fun h => by cases h)
theorem W_iff {P n c x y Q L w} (hc : evL L c = some (.bool false)) (h1 : W P n y Q L w) : W P n (.cond c x y) Q L w :=
  W_if hc (fun h => by cases h) (fun _ => h1)
/-- Behind a block. -/
def blk (id : Nat) (Q : Post) : Post
  | .exit i, L, w => match Nat.beq i id with
    | true => Q .normal L w
    | false => Q (.exit i) L w
  | e, L, w => Q e L w
theorem W_block {P n id c Q L w} (h : W P n c (blk id Q) L w) : W P n (.block id c) Q L w := fun a ha => wp_block <|
  wp_mono (h a ha) fun e a w hh => by
    cases e with
    | exit i =>
      obtain ⟨L, hg, hq⟩ := hh
      simp only [blk] at hq
      simp only [Exit.inBlock]
      cases hb : Nat.beq i id with
      | true =>
        rw [hb] at hq
        rw [if_pos (Nat.eq_of_beq_eq_true hb)]
        exact ⟨L, hg, hq⟩
      | false =>
        rw [hb] at hq
        rw [if_neg (fun e => by subst e; simp at hb)]
        exact ⟨L, hg, hq⟩
    | _ => exact hh
/-- Behind a round that ends: some later state of the same kind, nearer to the end. -/
def again {γ : Type} (E : γ → Env) (I : γ → World → Prop) (μ : γ → Nat) (g : γ) (Q : Post) : Post
  | .normal, L', w' => ∃ g', sub L' (E g') ∧ I g' w' ∧ μ g' < μ g
  | e, L', w' => Q e L' w'
/-- Where ways meet. -/
def meets {γ : Type} (E : γ → Env) (I : γ → World → Prop) (Q : Post) : Post
  | .normal, L', w' => ∃ g, sub L' (E g) ∧ I g w'
  | e, L', w' => Q e L' w'
/-- A loop: a round is known by a ghost. -/
theorem W_loop {P n c Q L w} {γ : Type} (E : γ → Env) (I : γ → World → Prop) (μ : γ → Nat) (g0 : γ) (hs : sub L (E g0)) (h0 : I g0 w)
    (round : ∀ g w, I g w → W P n c (again E I μ g Q) (E g) w) : W P n (.loop c) Q L w := by
  have key : ∀ k g w, μ g = k → I g w → ∀ a, Good n a (E g) → ∀ (b : Frame) (kk : List Item) (cs : List Frame),
      ∃ e a' w', lift n Q e a' w' ∧ Arrives P (lone (b.at a (.code c :: .inLoop c :: kk)) cs w) b kk cs e a' w' := by
    intro k
    induction k using Nat.strongRecOn with
    | _ k ih =>
      intro g w hk hI a ha b kk cs
      obtain ⟨e, a₁, w₁, hq, harr⟩ := round g w hI a ha b (.inLoop c :: kk) cs
      cases e with
      | normal =>
        obtain ⟨L', hg', g', hs', hI', hlt⟩ := hq
        obtain ⟨e₂, a₂, w₂, hq₂, harr₂⟩ := ih (μ g') (hk ▸ hlt) g' w₁ rfl hI' a₁ (hg'.weak hs') b kk cs
        exact ⟨e₂, a₂, w₂, hq₂, .of_steps (Steps.trans harr (.one step_inLoop)) harr₂⟩
      | exit id => exact ⟨.exit id, a₁, w₁, hq, .pass (x := .inLoop c) rfl (fun _ _ => .inl (by simp)) harr⟩
      | goto l => exact ⟨.goto l, a₁, w₁, hq, .pass (x := .inLoop c) rfl (fun _ _ => .inl (by simp)) harr⟩
      | ret => exact ⟨.ret, a₁, w₁, hq, .pass (x := .inLoop c) rfl (fun _ _ => .inl (by simp)) harr⟩
      | panic ch => exact hq.elim
      | outgrown => exact hq.elim
  intro a ha b kk cs
  obtain ⟨e, a', w', hq, harr⟩ := key _ g0 w rfl h0 a (ha.weak hs) b kk cs
  exact ⟨e, a', w', hq, .of_steps (.one step_loop) harr⟩
/-- Ways meet again: from here on only the slots of E are known. -/
theorem W_cut {P n x y Q L w} {γ : Type} (E : γ → Env) (I : γ → World → Prop)
    (h : W P n x (meets E I Q) L w)
    (k : ∀ g w', I g w' → W P n y Q (E g) w') : W P n (.seq x y) Q L w :=
  W_seq (h.mono fun e L' w' hh => by
    cases e with
    | normal =>
      obtain ⟨g, hs, hI⟩ := hh
      exact fun a ha => k g w' hI a (ha.weak hs)
    | _ => exact hh)
theorem W_weak {P n c Q L M w} (hs : sub L M) (h : W P n c Q M w) : W P n c Q L w := fun a ha => h a (ha.weak hs)
/-! ### The call of a function -/
def Ret (P : Program) (f : FuncId) (args : Array Value) (w : World) (R : Value → World → Prop) : Prop :=
  Calls P f args w fun e w' => ∃ v, e = .returned v ∧ R v w'
theorem Ret.mono {P f args w R R'} (h : Ret P f args w R) (hr : ∀ v w', R v w' → R' v w') : Ret P f args w R' :=
  Calls.mono h fun _ _ ⟨v, he, hR⟩ => ⟨v, he, hr _ _ hR⟩
def argsL : Nat → List Value → Env
  | _, [] => []
  | k, v :: vs => (k, v) :: argsL (k + 1) vs
theorem look_argsL : ∀ (vs : List Value) (k t : Nat) (v : Value), look (argsL k vs) t = some v → ∃ j, t = k + j ∧ vs[j]? = some v
  | [], _, _, _, h => by simp [argsL, look] at h
  | u :: vs, k, t, v, h => by
    unfold argsL look at h
    split at h
    · rename_i hb
      have : k = t := Nat.eq_of_beq_eq_true hb
      cases h
      exact ⟨0, by omega, rfl⟩
    · obtain ⟨j, hj, hv⟩ := look_argsL vs (k + 1) t v h
      exact ⟨j + 1, by omega, by simpa using hv⟩
/-- What is to be shown at the end of the body. -/
def fin (P : Program) (fn : Func) (R : Value → World → Prop) : Post
  | .normal, L, w => ∀ n a, Good n a L → ∃ v, (results fn a.tmps).run P w = .ok v w ∧ R v w
  | .ret, L, w => ∀ n a, Good n a L → ∃ v, (results fn a.tmps).run P w = .ok v w ∧ R v w
  | _, _, _ => False
theorem Good.start {vs : List Value} {n m : Nat} (h : vs.toArray.size + m = n) : Good n { tmps := vs.toArray ++ Array.replicate m undef, defers := [] } (argsL 0 vs) := by
  refine ⟨by simpa using h, rfl, fun t v ht => ?_⟩
  obtain ⟨j, hj, hv⟩ := look_argsL vs 0 t v ht
  have hjt : j = t := by omega
  subst hjt
  have hlt : j < vs.length := (List.getElem?_eq_some_iff.1 hv).1
  simp only [Array.getD_eq_getD_getElem?]
  rw [Array.getElem?_append_left (by simpa using hlt)]
  simp [hv]
theorem ret_W {P f fn c n} {vs : List Value} {w R} (hf : P.funcs[f]? = some fn) (hb : fn.body = some c) (hn : fn.ntmps = n) (hl : Nat.ble vs.length n = true)
    (h : W P n c (fin P fn R) (argsL 0 vs) w) : Ret P f vs.toArray w R := by
  have hl' := Nat.le_of_ble_eq_true hl
  refine calls_of_wp hf hb ?_
  refine wp_mono (h _ (Good.start (by rw [hn]; simp; omega))) fun e a w hh => ?_
  cases e <;> first | exact hh.elim | skip
  all_goals (obtain ⟨L, hg, hq⟩ := hh; first | exact hq.elim | skip)
  all_goals (obtain ⟨v, hr, hR⟩ := hq n a hg; exact ⟨hg.defers, v, hr, v, rfl, hR⟩)
/-- The same, the end of the body under a name of its own. -/
theorem ret_Q {P f fn c n} {vs : List Value} {w R} (hf : P.funcs[f]? = some fn) (hb : fn.body = some c) (hn : fn.ntmps = n) (hl : Nat.ble vs.length n = true)
    (h : ∀ Q : Post, (∀ L w, fin P fn R .ret L w → Q .ret L w) → (∀ L w, fin P fn R .ret L w → Q .normal L w) → W P n c Q (argsL 0 vs) w) : Ret P f vs.toArray w R :=
  ret_W hf hb hn hl (h _ (fun _ _ h => h) (fun _ _ h => h))
section
variable {P : Program} {fn : Func} {R : Value → World → Prop} {L : Env} {w : World}
theorem fin_ret (h : fin P fn R .ret L w) : fin P fn R .normal L w := h
theorem fin0 (hr : fn.results = #[]) (h : R (.tuple #[]) w) : fin P fn R .ret L w := fun _ _ _ => ⟨_, results_none hr _ P w, h⟩
theorem fin1 {t v} (hr : fn.results = #[.tmp t]) (hv : look L t = some v) (h : R v w) : fin P fn R .ret L w := fun _ a hg =>
  ⟨v, by rw [results_tmp hr, hg.cov t v hv], h⟩
theorem fin2 {t u v x} (hr : fn.results = #[.tmp t, .tmp u]) (hv : look L t = some v) (hx : look L u = some x) (h : R (.tuple #[v, x]) w) : fin P fn R .ret L w := fun _ a hg =>
  ⟨_, by rw [results_tmp2 hr, hg.cov t v hv, hg.cov u x hx], h⟩
theorem fin3 {t u s v x y} (hr : fn.results = #[.tmp t, .tmp u, .tmp s]) (hv : look L t = some v) (hx : look L u = some x) (hy : look L s = some y) (h : R (.tuple #[v, x, y]) w) : fin P fn R .ret L w := fun _ a hg =>
  ⟨_, by have h1 := hg.cov t v hv; have h2 := hg.cov u x hx; have h3 := hg.cov s y hy; simp only [Array.getD_eq_getD_getElem?] at h1 h2 h3; simp [results, hr, h1, h2, h3], h⟩
/-- One result, in a box. -/
theorem finC {t ty x v} (hr : fn.results = #[.cell t ty]) (hv : look L t = some (.pointer (some x))) (hl : (loadVar ty x).run P w = .ok v w) (h : R v w) : fin P fn R .ret L w := fun _ a hg =>
  ⟨v, by have h1 := hg.cov t _ hv; simp only [Array.getD_eq_getD_getElem?] at h1; simp [results, hr, h1, asAddr, hl], h⟩
end
/-! ### Lists of operations -/
section
variable {P : Program} {n : Nat} {ops : Array Oper} {Q : Post} {L : Env} {w : World}
def RL (P : Program) (n : Nat) (ops : Array Oper) (Q : Post) (l : List Oper) (L : Env) (w : World) : Prop :=
  ∀ a, Good n a L → wpList P ops (lift n Q) l a w
/-- The operation leaves this value and does nothing else. -/
def Py (P : Program) (n : Nat) (L : Env) (w : World) (o : Oper) (v : Value) : Prop :=
  ∀ a, Good n a L → (execOp a.eval o).run P w = .ok (.value v) w
/-- It leaves this value in that world. -/
def Pn (P : Program) (n : Nat) (L : Env) (w : World) (o : Oper) (v : Value) (w' : World) : Prop :=
  ∀ a, Good n a L → (execOp a.eval o).run P w = .ok (.value v) w'
def Pd (P : Program) (n : Nat) (L : Env) (w : World) (o : Oper) (w' : World) : Prop :=
  ∀ a, Good n a L → (execOp a.eval o).run P w = .ok .skip w'
def Pc (P : Program) (n : Nat) (L : Env) (w : World) (o : Oper) (f : FuncId) (args : Array Value) : Prop :=
  ∀ a, Good n a L → (execOp a.eval o).run P w = .ok (.enter f args) w
/-- It is carried out. -/
def Wn (ops : Array Oper) (n : Nat) (L : Env) (o : Oper) : Prop :=
  ∀ a, Good n a L → Region.wanted o (yielded ops a.tmps) = true
def Wo (ops : Array Oper) (n : Nat) (L : Env) (o : Oper) : Prop :=
  ∀ a, Good n a L → Region.wanted o (yielded ops a.tmps) = false
theorem wn {o : Oper} (h : o.guard = none) : Wn ops n L o := fun _ _ => by simp [Region.wanted, h]
def dstOf (ops : Array Oper) (j : Nat) : Option Nat := (ops.toList[j]?).bind (·.dst)
theorem yields_of {a j t b} (hg : Good n a L) (hd : dstOf ops j = some t) (hb : look L t = some (.bool b)) : yielded ops a.tmps j = some b := by
  have h := hg.cov t _ hb
  have hd' : (ops[j]?).bind (·.dst) = some t := by simpa [dstOf] using hd
  simp only [yielded, hd', Option.bind_some]
  simp only [Array.getD_eq_getD_getElem?] at h
  cases ht : a.tmps[t]? with
  | none => rw [ht] at h; simp [undef] at h
  | some v => rw [ht] at h; simp at h; subst h; rfl
theorem wg {o : Oper} {j t b} (h : o.guard = some (j, b)) (hd : dstOf ops j = some t) (hb : look L t = some (.bool b)) : Wn ops n L o := fun _ hg => by
  simp [Region.wanted, h, yields_of hg hd hb]
theorem wog {o : Oper} {j t b} (h : o.guard = some (j, !b)) (hd : dstOf ops j = some t) (hb : look L t = some (.bool b)) : Wo ops n L o := fun _ hg => by
  simp [Region.wanted, h, yields_of hg hd hb]
theorem W_reg {id l} (h : RL P n l.toArray Q l L w) : W P n (.region id l.toArray false) Q L w := fun a ha => wp_region_lit (h a ha)
theorem s_nil (h : Q .normal L w) : RL P n ops Q [] L w := fun _ ha => wpList_nil ⟨L, ha, h⟩
theorem s_val {o rest d v} (hw : Wn ops n L o) (hd : o.dst = some d) (hn : Nat.blt d n = true) (hp : Py P n L w o v)
    (k : RL P n ops Q rest ((d, v) :: L) w) : RL P n ops Q (o :: rest) L w := fun a ha => wpList_step fun K hK => by
  rw [if_pos (hw a ha)]
  unfold Oper.wp
  rw [hp a ha, Oper.upon_value, hd]
  exact hK _ _ (k _ (ha.put hn))
theorem s_new {o rest d v w'} (hw : Wn ops n L o) (hd : o.dst = some d) (hn : Nat.blt d n = true) (hp : Pn P n L w o v w')
    (k : RL P n ops Q rest ((d, v) :: L) w') : RL P n ops Q (o :: rest) L w := fun a ha => wpList_step fun K hK => by
  rw [if_pos (hw a ha)]
  unfold Oper.wp
  rw [hp a ha, Oper.upon_value, hd]
  exact hK _ _ (k _ (ha.put hn))
theorem s_do {o rest w'} (hw : Wn ops n L o) (hd : o.dst = none) (hp : Pd P n L w o w')
    (k : RL P n ops Q rest L w') : RL P n ops Q (o :: rest) L w := fun a ha => wpList_step fun K hK => by
  rw [if_pos (hw a ha)]
  unfold Oper.wp
  rw [hp a ha, Oper.upon_skip, hd]
  exact hK _ _ (k _ ha)
theorem s_skip {o rest d} (hw : Wo ops n L o) (hd : o.dst = some d) (hn : Nat.blt d n = true)
    (k : RL P n ops Q rest ((d, undef) :: L) w) : RL P n ops Q (o :: rest) L w := fun a ha => wpList_step fun K hK => by
  rw [if_neg (by rw [hw a ha]; simp), hd]
  exact hK _ _ (k _ (ha.put hn))
theorem s_skip0 {o rest} (hw : Wo ops n L o) (hd : o.dst = none)
    (k : RL P n ops Q rest L w) : RL P n ops Q (o :: rest) L w := fun a ha => wpList_step fun K hK => by
  rw [if_neg (by rw [hw a ha]; simp), hd]
  exact hK _ _ (k _ ha)
theorem s_call {o rest d f args R} (hw : Wn ops n L o) (hd : o.dst = some d) (hn : Nat.blt d n = true) (hp : Pc P n L w o f args)
    (hc : Ret P f args w R) (k : ∀ v w', R v w' → RL P n ops Q rest ((d, v) :: L) w') : RL P n ops Q (o :: rest) L w := fun a ha => wpList_step fun K hK => by
  rw [if_pos (hw a ha)]
  unfold Oper.wp
  rw [hp a ha, Oper.upon_enter, hd]
  refine Calls.mono hc fun e w' ⟨v, he, hR⟩ => ?_
  subst he
  exact hK _ _ (k v w' hR _ (ha.put hn))
theorem s_call0 {o rest f args R} (hw : Wn ops n L o) (hd : o.dst = none) (hp : Pc P n L w o f args)
    (hc : Ret P f args w R) (k : ∀ v w', R v w' → RL P n ops Q rest L w') : RL P n ops Q (o :: rest) L w := fun a ha => wpList_step fun K hK => by
  rw [if_pos (hw a ha)]
  unfold Oper.wp
  rw [hp a ha, Oper.upon_enter, hd]
  refine Calls.mono hc fun e w' ⟨v, he, hR⟩ => ?_
  subst he
  exact hK _ _ (k v w' hR _ ha)
/-- A Bool in a slot is taken apart. -/
theorem s_case {l t b} (hb : look L t = some (.bool b)) (h1 : b = true → RL P n ops Q l ((t, .bool true) :: L) w) (h2 : b = false → RL P n ops Q l ((t, .bool false) :: L) w) :
    RL P n ops Q l L w := fun a ha => by
  cases b
  · refine h2 rfl a ⟨ha.size, ha.defers, fun u v hu => ?_⟩
    unfold look at hu
    split at hu
    · rename_i hb'
      have : t = u := Nat.eq_of_beq_eq_true hb'
      cases hu; subst this; exact ha.cov _ _ hb
    · exact ha.cov u v hu
  · refine h1 rfl a ⟨ha.size, ha.defers, fun u v hu => ?_⟩
    unfold look at hu
    split at hu
    · rename_i hb'
      have : t = u := Nat.eq_of_beq_eq_true hb'
      cases hu; subst this; exact ha.cov _ _ hb
    · exact ha.cov u v hu
theorem s_weak {l M} (hs : sub L M) (h : RL P n ops Q l M w) : RL P n ops Q l L w := fun a ha => h a (ha.weak hs)
/-! A region that draws its order: one order serves, if what stands aside in it yields the same whenever it comes. -/
/-- Something is still to come. -/
def open_ (listed : Array Bool) : Prop := ∃ m, listed.getD m true = false
/-- Whatever order is drawn from here on; S holds as long as something is still to come. -/
def wpG (P : Program) (ops : Array Oper) (Q : Exit → Act → World → Prop) (S : World → Prop) : Nat → Array Bool → Act → World → Prop
  | 0, listed, a, w => Region.ready .any ops listed = [] ∧ Q .normal a w
  | k + 1, listed, a, w => (Region.ready .any ops listed = [] → Q .normal a w) ∧
    ∀ i ∈ Region.ready .any ops listed, wpOp P ops Q i (fun a' w' => (open_ (listed.setIfInBounds i true) → S w') ∧ wpG P ops Q S k (listed.setIfInBounds i true) a' w') a w
theorem wpG_any {P : Program} {ops : Array Oper} {Q : Exit → Act → World → Prop} {S : World → Prop} : ∀ (k : Nat) (listed : Array Bool) (a : Act) (w : World), wpG P ops Q S k listed a w → wpAny P .any ops Q k listed a w
  | 0, _, _, _, h => h
  | k + 1, _, _, _, h => ⟨h.1, fun i hi => wpOp_mono (fun a' w' h' => wpG_any k _ a' w' h'.2) (h.2 i hi)⟩
/-- Something that is still to come waits for number i. -/
def waits (ops : Array Oper) (listed : Array Bool) (i : Nat) : Bool :=
  (List.range ops.size).any fun m => !(Nat.beq m i) && !(listed.getD m true) && match ops[m]? with
    | some o => o.after.toList.any fun e => Region.binds .any e && Nat.beq e.on i
    | none => false
theorem waits_spec {ops : Array Oper} {listed : Array Bool} {i : Nat} (h : waits ops listed i = true) :
    ∃ m o, ops[m]? = some o ∧ m ≠ i ∧ listed.getD m true = false ∧ ∃ e ∈ o.after, Region.binds .any e = true ∧ e.on = i := by
  unfold waits at h
  rw [List.any_eq_true] at h
  obtain ⟨m, _, h⟩ := h
  simp only [Bool.and_eq_true] at h
  obtain ⟨⟨h1, h2⟩, h3⟩ := h
  cases ho : ops[m]? with
  | none => rw [ho] at h3; cases h3
  | some o =>
    rw [ho] at h3
    simp only [List.any_eq_true, Bool.and_eq_true] at h3
    obtain ⟨e, he, hb, hi⟩ := h3
    exact ⟨m, o, ho, fun e => by subst e; simp at h1, by simpa using h2, e, by simpa using he, hb, Nat.eq_of_beq_eq_true hi⟩
theorem wpG_take {P : Program} {ops : Array Oper} {Q : Exit → Act → World → Prop} {S : World → Prop} {i : Nat} {o : Oper} {v : Value} (hi : ops[i]? = some o) (hs : Region.noSelect ops = true)
    (hQ : ∀ c a w, Q (.panic c) (a.put o.dst v) w → Q (.panic c) a w) :
    ∀ (k : Nat) (listed : Array Bool) (a : Act) (w : World),
      (∀ j oj, ops[j]? = some oj → j ≠ i → listed.getD j true = false → (∀ e ∈ oj.after, Region.binds .any e = true → e.on ≠ i) → o.apart ops oj = true) →
      (∃ m om, ops[m]? = some om ∧ m ≠ i ∧ listed.getD m true = false ∧ ∃ e ∈ om.after, Region.binds .any e = true ∧ e.on = i) →
      i ∈ Region.ready .any ops listed → YieldsIf P ops S o v a → S w →
      wpG P ops Q S k (listed.setIfInBounds i true) (a.put o.dst v) w → wpG P ops Q S (k + 1) listed a w := by
  intro k
  have hsel := Region.noSelect_spec hs
  induction k with
  | zero =>
    intro listed a w _ _ hr hy hS H
    refine ⟨fun h => absurd hr (by rw [h]; simp), fun j hj => ?_⟩
    by_cases hne : j = i
    · subst hne; exact hy.wpOp hi hS ⟨fun _ => hS, H⟩
    · have := ready_mono hj hne
      rw [H.1] at this
      simp at this
  | succ k ih =>
    intro listed a w hfree hwait hr hy hS H
    refine ⟨fun h => absurd hr (by rw [h]; simp), fun j hj => ?_⟩
    by_cases hne : j = i
    · subst hne; exact hy.wpOp hi hS ⟨fun _ => hS, H⟩
    · obtain ⟨hun, oj, hoj, hall⟩ := mem_ready.1 hj
      have hnot : ∀ e ∈ oj.after, Region.binds .any e = true → e.on ≠ i := by
        intro e he hb heq
        have h1 := hall e he hb
        have h0 := (mem_ready.1 hr).1
        rw [heq] at h1
        by_cases hsz : i < listed.size
        · simp [hsz] at h0 h1
          rw [h0] at h1
          cases h1
        · simp [Array.getElem?_eq_none (Nat.le_of_not_lt hsz)] at h1
      obtain ⟨m, om, hm, hmi, hmu, e, he, heb, hei⟩ := hwait
      have hmj : m ≠ j := fun e' => by subst e'; rw [hoj] at hm; cases hm; exact hnot e he heb hei
      have hmu' : (listed.setIfInBounds j true).getD m true = false := by rw [getD_set_ne true (Ne.symm hmj)]; exact hmu
      have h2 := wpOp_putIf hoj (hfree j oj hoj hne hun hnot) (fun cs b => hsel i o cs b hi) (fun cs b => hsel j oj cs b hoj) hQ hy (H.2 j (ready_mono hj hne))
      refine wpOp_mono (fun a' w' h3 => ?_) h2
      obtain ⟨hy', hS', hG⟩ := h3
      have hSw : S w' := hS' ⟨m, by rw [getD_set_ne true (Ne.symm hmj), getD_set_ne true (Ne.symm hmi)]; exact hmu⟩
      refine ⟨fun _ => hSw, ih (listed.setIfInBounds j true) a' w' (fun q oq hq hqi hqu hqn => ?_) ⟨m, om, hm, hmi, hmu', e, he, heb, hei⟩ (ready_mono hr (Ne.symm hne)) hy' hSw ?_⟩
      · refine hfree q oq hq hqi ?_ hqn
        by_cases hjq : j = q
        · subst hjq; exact hun
        · rw [getD_set_ne true hjq] at hqu; exact hqu
      · rw [Array.setIfInBounds_comm _ _ hne]
        exact hG
/-- The heads of what may come: one path for each number. -/
def heads (N : Nat) (rec : List (Nat × Bool) → Array Bool → Bool) (listed : Array Bool) : List Nat → List (Nat × Bool) → Bool
  | [x], (i, p) :: r => Nat.beq i x && !p && Nat.blt i N && rec r (listed.setIfInBounds x true)
  | x :: y :: t, (k, p) :: r => !p && Nat.ble N k && (match r.take (k - 1000) with
      | (i, q) :: r1 => Nat.beq i x && !q && Nat.blt i N && rec r1 (listed.setIfInBounds x true)
      | [] => false) && heads N rec listed (y :: t) (r.drop (k - 1000))
  | _, _ => false
/-- The orders: a number with 'true' stands aside (it may come whenever it likes), one with 'false' is the only one that may come; 1000 + k forks: the next k are one road, the others another. -/
def chkN (ops : Array Oper) : Nat → List (Nat × Bool) → Array Bool → Bool
  | _, [], listed => (Region.ready .any ops listed).isEmpty && listed.all id
  | m + 1, (i, true) :: r, listed => Region.free .any ops listed i && (Region.ready .any ops listed).contains i && waits ops listed i && chkN ops m r (listed.setIfInBounds i true)
  | m + 1, (i, false) :: r, listed => heads ops.size (chkN ops m) listed (Region.ready .any ops listed) ((i, false) :: r)
  | _, _, _ => false
def DL (P : Program) (n : Nat) (ops : Array Oper) (Q : Post) (S : World → Prop) (l : List (Nat × Bool)) (L : Env) (w : World) : Prop :=
  Region.noSelect ops = true → ∀ a, Good n a L → (l ≠ [] → S w) → ∀ (m : Nat) (listed : Array Bool) (fuel : Nat), m ≤ fuel →
    (chkN ops m l listed = true → wpG P ops (lift n Q) S fuel listed a w) ∧
    (∀ av, heads ops.size (chkN ops m) listed av l = true → ∀ j ∈ av, wpOp P ops (lift n Q) j (fun a' w' => (open_ (listed.setIfInBounds j true) → S w') ∧ wpG P ops (lift n Q) S fuel (listed.setIfInBounds j true) a' w') a w)
theorem lift_panic {c d v w} {a : Act} (h : lift n Q (.panic c) (a.put d v) w) : lift n Q (.panic c) a w := h.elim
variable {S : World → Prop}
theorem W_drw {id : Nat} (l : List (Nat × Bool)) (hm : P.follows .mixedOrders = true) (hc : chkN ops ops.size l (Array.replicate ops.size false) = true) (hs : Region.noSelect ops = true) (_ : true = true)
    (hS : ∀ k, S { w with drawn := k }) (h : ∀ k, DL P n ops Q S l L { w with drawn := k }) : W P n (.region id ops true) Q L w := fun a ha =>
  wp_region_any hm (wpG_any _ _ _ _ ((h _ hs a ha (fun _ => hS _) ops.size _ ops.size (Nat.le_refl _)).1 hc))
theorem chk_nil {m listed} (hc : chkN ops m [] listed = true) : Region.ready .any ops listed = [] ∧ ¬ open_ listed := by
  have hc : ((Region.ready .any ops listed).isEmpty && listed.all id) = true := by cases m <;> exact hc
  simp only [Bool.and_eq_true] at hc
  refine ⟨by simpa using hc.1, fun ⟨m, hm⟩ => ?_⟩
  have h2 := hc.2
  rw [Array.all_eq_true_iff_forall_mem] at h2
  by_cases hlt : m < listed.size
  · have := h2 listed[m] (Array.getElem_mem hlt)
    simp [hlt] at hm
    simp [hm] at this
  · simp [Array.getElem?_eq_none (Nat.le_of_not_lt hlt)] at hm
theorem heads_nil {N rec listed av} (h : heads N rec listed av [] = true) : False := by
  unfold heads at h
  split at h <;> simp_all
theorem d_nil (h : Q .normal L w) : DL P n ops Q S [] L w := fun _ a ha hS m listed fuel _ => ⟨fun hc => by
  have h1 := (chk_nil hc).1
  cases fuel with
  | zero => exact ⟨h1, ⟨L, ha, h⟩⟩
  | succ k => exact ⟨fun _ => ⟨L, ha, h⟩, by rw [h1]; simp⟩, fun av hh => (heads_nil hh).elim⟩
private theorem heads_p {N rec listed av i r} (h : heads N rec listed av ((i, true) :: r) = true) : False := by
  unfold heads at h
  split at h <;> simp_all
private theorem d_first {i rest o d v} (hi : ops.toList[i]? = some o) (hd : o.dst = some d) (hn : Nat.blt d n = true) (hy : ∀ a, Good n a L → YieldsIf P ops S o v a)
    (k : DL P n ops Q S rest ((d, v) :: L) w) : DL P n ops Q S ((i, true) :: rest) L w := fun hs a ha hS m listed fuel hf => ⟨fun hc => by
  cases m with
  | zero => simp [chkN] at hc
  | succ m =>
    unfold chkN at hc
    simp only [Bool.and_eq_true] at hc
    obtain ⟨⟨⟨h1, h2⟩, h3⟩, h4⟩ := hc
    cases fuel with
    | zero => simp at hf
    | succ fuel =>
      have hi' : ops[i]? = some o := by simpa using hi
      refine wpG_take hi' hs (fun _ _ _ h => lift_panic h) fuel listed a w (Region.free_spec hi' h1) (waits_spec h3) (by simpa using h2) (hy a ha) (hS (by simp)) ?_
      rw [hd]
      exact (k hs _ (ha.put hn) (fun _ => hS (by simp)) m _ fuel (by omega)).1 h4, fun av hh => (heads_p hh).elim⟩
theorem d_val {i rest o d v} (hi : ops.toList[i]? = some o) (hw : Wn ops n L o) (hd : o.dst = some d) (hn : Nat.blt d n = true) (hp : ∀ x, S x → Py P n L x o v)
    (k : DL P n ops Q S rest ((d, v) :: L) w) : DL P n ops Q S ((i, true) :: rest) L w :=
  d_first hi hd hn (fun a ha => .inl ⟨hw a ha, fun x hx => hp x hx a ha⟩) k
theorem d_skip {i rest o d} (hi : ops.toList[i]? = some o) (hw : Wo ops n L o) (hd : o.dst = some d) (hn : Nat.blt d n = true)
    (k : DL P n ops Q S rest ((d, undef) :: L) w) : DL P n ops Q S ((i, true) :: rest) L w :=
  d_first hi hd hn (fun a ha => .inr ⟨hw a ha, rfl⟩) k
private theorem d_hd {i rest} (h : Region.noSelect ops = true → ∀ a, Good n a L → S w → ∀ (m : Nat) (listed : Array Bool) (fuel : Nat), m ≤ fuel → ∀ av, heads ops.size (chkN ops m) listed av ((i, false) :: rest) = true →
      ∀ j ∈ av, wpOp P ops (lift n Q) j (fun a' w' => (open_ (listed.setIfInBounds j true) → S w') ∧ wpG P ops (lift n Q) S fuel (listed.setIfInBounds j true) a' w') a w) :
    DL P n ops Q S ((i, false) :: rest) L w := fun hs a ha hS m listed fuel hf => ⟨fun hc => by
  cases m with
  | zero => simp [chkN] at hc
  | succ m =>
    unfold chkN at hc
    cases fuel with
    | zero => simp at hf
    | succ fuel =>
      refine ⟨fun e => ?_, h hs a ha (hS (by simp)) m listed fuel (by omega) _ hc⟩
      rw [e] at hc
      simp [heads] at hc, h hs a ha (hS (by simp)) m listed fuel hf⟩
private theorem d_one {i rest o} (hi : ops.toList[i]? = some o)
    (h : S w → ∀ a, Good n a L → ∀ K : Act → World → Prop, (∀ a' w' L', Good n a' L' → DL P n ops Q S rest L' w' → (rest ≠ [] → S w') → K a' w') →
      if Region.wanted o (yielded ops a.tmps) then o.wp P a w K (lift n Q) ∨ (o.asks P a w ∧ LetsOut (lift n Q)) else K (a.put o.dst undef) w) :
    DL P n ops Q S ((i, false) :: rest) L w := d_hd fun hs a ha hSw m listed fuel hf av hh j hj => by
  have hx : av = [i] ∧ chkN ops m rest (listed.setIfInBounds i true) = true := by
    unfold heads at hh
    split at hh
    · rename_i x i' p' r' e
      simp only [List.cons.injEq, Prod.mk.injEq] at e
      obtain ⟨⟨rfl, rfl⟩, rfl⟩ := e
      simp only [Bool.and_eq_true] at hh
      have hx : _ = x := Nat.eq_of_beq_eq_true hh.1.1.1
      subst hx
      exact ⟨rfl, hh.2⟩
    · rename_i k' p' r' e
      simp only [List.cons.injEq, Prod.mk.injEq] at e
      obtain ⟨⟨rfl, rfl⟩, rfl⟩ := e
      simp only [Bool.and_eq_true] at hh
      have hk := Nat.le_of_ble_eq_true hh.1.1.2
      have hlt : i < ops.size := by
        have h2 : ops[i]? = some o := by simpa using hi
        exact (Array.getElem?_eq_some_iff.1 h2).1
      omega
    · cases hh
  obtain ⟨rfl, h3⟩ := hx
  obtain rfl : j = i := by simpa using hj
  unfold wpOp
  have hi' : ops[j]? = some o := by simpa using hi
  simp only [hi']
  refine h hSw a ha _ fun a' w' L' hg' hk hS' => ⟨fun ho => ?_, (hk hs _ hg' hS' m _ fuel hf).1 h3⟩
  cases rest with
  | nil => exact absurd ho (chk_nil h3).2
  | cons x r => exact hS' (by simp)
/-- Two roads. -/
theorem d_fork {l l1 l2 : List (Nat × Bool)} (hN : Nat.ble ops.size 1000 = true) (e : l = (1000 + l1.length, false) :: (l1 ++ l2)) (hl1 : l1.isEmpty = false) (hl2 : l2.isEmpty = false) (h1 : DL P n ops Q S l1 L w) (h2 : DL P n ops Q S l2 L w) : DL P n ops Q S l L w := by
  subst e
  refine d_hd fun hs a ha hSw m listed fuel hf av hh j hj => ?_
  have hN := Nat.le_of_ble_eq_true hN
  unfold heads at hh
  split at hh
  · rename_i x i' p' r' e
    simp only [List.cons.injEq, Prod.mk.injEq] at e
    obtain ⟨⟨rfl, rfl⟩, rfl⟩ := e
    simp only [Bool.and_eq_true] at hh
    have := Eq.mp Nat.blt_eq hh.1.2
    omega
  · rename_i x y t k' p' r' e
    simp only [List.cons.injEq, Prod.mk.injEq] at e
    obtain ⟨⟨rfl, rfl⟩, rfl⟩ := e
    rw [Nat.add_sub_cancel_left, List.take_left, List.drop_left] at hh
    simp only [Bool.and_eq_true] at hh
    obtain ⟨⟨_, h3⟩, h4⟩ := hh
    rcases List.mem_cons.1 hj with rfl | hj
    · cases l1 with
      | nil => simp at hl1
      | cons hd r1 =>
        obtain ⟨i, q⟩ := hd
        refine (h1 hs a ha (fun _ => hSw) m listed fuel hf).2 [j] ?_ j (by simp)
        unfold heads
        exact h3
    · exact (h2 hs a ha (fun _ => hSw) m listed fuel hf).2 _ h4 j hj
  · cases hh
theorem d_new {i rest o d v w'} (hi : ops.toList[i]? = some o) (hw : Wn ops n L o) (hd : o.dst = some d) (hn : Nat.blt d n = true) (hp : Pn P n L w o v w') (hS : S w → rest ≠ [] → S w')
    (k : DL P n ops Q S rest ((d, v) :: L) w') : DL P n ops Q S ((i, false) :: rest) L w := d_one hi fun hSw a ha K hK => by
  rw [if_pos (hw a ha)]
  unfold Oper.wp
  rw [hp a ha, Oper.upon_value, hd]
  exact .inl (hK _ _ _ (ha.put hn) k (hS hSw))
theorem d_end {i rest o d v} (hi : ops.toList[i]? = some o) (hw : Wn ops n L o) (hd : o.dst = some d) (hn : Nat.blt d n = true) (hp : Py P n L w o v)
    (k : DL P n ops Q S rest ((d, v) :: L) w) : DL P n ops Q S ((i, false) :: rest) L w := d_new hi hw hd hn hp (fun h _ => h) k
theorem d_do {i rest o w'} (hi : ops.toList[i]? = some o) (hw : Wn ops n L o) (hd : o.dst = none) (hp : Pd P n L w o w') (hS : S w → rest ≠ [] → S w')
    (k : DL P n ops Q S rest L w') : DL P n ops Q S ((i, false) :: rest) L w := d_one hi fun hSw a ha K hK => by
  rw [if_pos (hw a ha)]
  unfold Oper.wp
  rw [hp a ha, Oper.upon_skip, hd]
  exact .inl (hK _ _ _ ha k (hS hSw))
theorem d_skipA {i rest o d} (hi : ops.toList[i]? = some o) (hw : Wo ops n L o) (hd : o.dst = some d) (hn : Nat.blt d n = true)
    (k : DL P n ops Q S rest ((d, undef) :: L) w) : DL P n ops Q S ((i, false) :: rest) L w := d_one hi fun hSw a ha K hK => by
  rw [if_neg (by rw [hw a ha]; simp), hd]
  exact hK _ _ _ (ha.put hn) k (fun _ => hSw)
theorem d_call {i rest o d f args R} (hi : ops.toList[i]? = some o) (hw : Wn ops n L o) (hd : o.dst = some d) (hn : Nat.blt d n = true) (hp : Pc P n L w o f args)
    (hc : Ret P f args w R) (hS : S w → ∀ v w', R v w' → rest ≠ [] → S w') (k : ∀ v w', R v w' → DL P n ops Q S rest ((d, v) :: L) w') : DL P n ops Q S ((i, false) :: rest) L w := d_one hi fun hSw a ha K hK => by
  rw [if_pos (hw a ha)]
  unfold Oper.wp
  rw [hp a ha, Oper.upon_enter, hd]
  refine .inl (Calls.mono hc fun e w' ⟨v, he, hR⟩ => ?_)
  subst he
  exact hK _ _ _ (ha.put hn) (k v w' hR) (hS hSw v w' hR)
theorem d_call0 {i rest o f args R} (hi : ops.toList[i]? = some o) (hw : Wn ops n L o) (hd : o.dst = none) (hp : Pc P n L w o f args)
    (hc : Ret P f args w R) (hS : S w → ∀ v w', R v w' → rest ≠ [] → S w') (k : ∀ v w', R v w' → DL P n ops Q S rest L w') : DL P n ops Q S ((i, false) :: rest) L w := d_one hi fun hSw a ha K hK => by
  rw [if_pos (hw a ha)]
  unfold Oper.wp
  rw [hp a ha, Oper.upon_enter, hd]
  refine .inl (Calls.mono hc fun e w' ⟨v, he, hR⟩ => ?_)
  subst he
  exact hK _ _ _ ha (k v w' hR) (hS hSw v w' hR)
theorem d_case {l t b} (hb : look L t = some (.bool b)) (h1 : b = true → DL P n ops Q S l ((t, .bool true) :: L) w) (h2 : b = false → DL P n ops Q S l ((t, .bool false) :: L) w) :
    DL P n ops Q S l L w := fun hs a ha => by
  have hg : Good n a ((t, .bool b) :: L) := ⟨ha.size, ha.defers, fun u v hu => by
    unfold look at hu
    split at hu
    · rename_i hb'
      have : t = u := Nat.eq_of_beq_eq_true hb'
      cases hu; subst this; exact ha.cov _ _ hb
    · exact ha.cov u v hu⟩
  cases b
  · exact h2 rfl hs a hg
  · exact h1 rfl hs a hg
end
end Go.Wk
