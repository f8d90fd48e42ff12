/-
  A range over a function: the rounds, the statement, a call of yield. No program is named here.
-/
import Derived.Test.YtceeelcijjkefaaGreatWkQ
import Derived.RangeFuncSeq
import Derived.RangeFuncLeaves
set_option linter.unusedVariables false
set_option linter.unusedSimpArgs false
namespace Go.Wk
open Rp (sz own)
/-- Whatever function, however deep; in a round, or in none. -/
def inF (ro : Option Nat) : Fence := { Fence.wide with round := ro }
def GoodD (ds : List Deferred) (n : Nat) (a : Act) (L : Env) : Prop := Good n { a with defers := [] } L ∧ a.defers = ds
theorem GoodD.put {ds n a L d v} (h : GoodD ds n a L) (hd : Nat.blt d n = true) : GoodD ds n (a.put (some d) v) ((d, v) :: L) :=
  ⟨by have := h.1.put hd (v := v); exact this, h.2⟩
theorem GoodD.weak {ds n a L M} (h : GoodD ds n a L) (hs : sub L M) : GoodD ds n a M := ⟨h.1.weak hs, h.2⟩
def liftD (ds : List Deferred) (n : Nat) (Q : Post) : Exit → Act → World → Prop
  | .panic _, _, _ => False
  | .outgrown, _, _ => False
  | e, a, w => ∃ L, GoodD ds n a L ∧ Q e L w
def WF (ro : Option Nat) (ds : List Deferred) (P : Program) (n : Nat) (c : Code) (Q : Post) (L : Env) (w : World) : Prop :=
  ∀ a, GoodD ds n a L → c.wpIn (inF ro) 3 P (liftD ds n Q) a w
def RF (ro : Option Nat) (ds : List Deferred) (P : Program) (n : Nat) (ops : Array Oper) (Q : Post) (l : List Oper) (L : Env) (w : World) : Prop :=
  ∀ a, GoodD ds n a L → wpListIn (inF ro) 3 P ops (liftD ds n Q) l a w
section
variable {ro : Option Nat} {ds : List Deferred} {P : Program} {n : Nat} {ops : Array Oper} {Q : Post} {L : Env} {w : World}
theorem WF_reg {id l} (h : RF ro ds P n l.toArray Q l L w) : WF ro ds P n (.region id l.toArray false) Q L w := fun a ha => wpIn_region_lit (h a ha)
theorem WF_ret (h : Q .ret L w) : WF ro ds P n .ret Q L w := fun _ ha => wpIn_ret ⟨L, ha, h⟩
theorem WF_skip (h : Q .normal L w) : WF ro ds P n .skip Q L w := fun _ ha => wpIn_skip ⟨L, ha, h⟩
def thnF (ro : Option Nat) (ds : List Deferred) (P : Program) (n : Nat) (c : Code) (Q : Post) : Post
  | .normal, L, w => WF ro ds P n c Q L w
  | e, L, w => Q e L w
theorem WF_seq {x y} (h : WF ro ds P n x (thnF ro ds P n y Q) L w) : WF ro ds P n (.seq x y) Q L w := fun a ha => wpIn_seq <|
  wpIn_mono (h a ha) fun e a w hh => by
    cases e <;> first | exact hh | (obtain ⟨L, hg, hq⟩ := hh; first | exact hq a hg | exact ⟨L, hg, hq⟩)
theorem WF_block {id c} (h : WF ro ds P n c (blk id Q) L w) : WF ro ds P n (.block id c) Q L w := fun a ha => wpIn_block <|
  wpIn_mono (h a ha) fun e a w hh => by
    cases e with
    | exit i =>
      obtain ⟨L, hg, hq⟩ := hh
      simp only [blk] at hq
      simp only [Exit.inBlock]
      cases hb : Nat.beq i id with
      | true =>
        rw [hb] at hq
        rw [if_pos (Nat.eq_of_beq_eq_true hb)]
        exact ⟨L, hg, hq⟩
      | false =>
        rw [hb] at hq
        rw [if_neg (fun e => by subst e; simp at hb)]
        exact ⟨L, hg, hq⟩
    | _ => exact hh
/-- What holds of a walk outside of rounds holds here. -/
theorem WF_of {c} (h : W P n c Q L w) : WF none [] P n c Q L w := fun a ha => by
  have ha' : Good n a L := by
    obtain ⟨h1, h2⟩ := ha
    cases a; simp only at h2; subst h2; exact h1
  refine wpIn_mono (F := Fence.wide) (wpIn_wide.2 (h a ha')) fun e a w hh => ?_
  cases e <;> first | exact hh | (obtain ⟨L, hg, hq⟩ := hh; exact ⟨L, ⟨by have := hg; cases a; have := this.defers; simp only at this; subst this; exact hg, hg.defers⟩, hq⟩)
theorem W_of {c} (h : WF none [] P n c Q L w) : W P n c Q L w := fun a ha => by
  refine (wpIn_wide (n := 3)).1 (wpIn_mono (F := Fence.wide) (h a ⟨by cases a; have := ha.defers; simp only at this; subst this; exact ha, ha.defers⟩) fun e a w hh => ?_)
  cases e <;> first | exact hh | (obtain ⟨L, ⟨hg, hd⟩, hq⟩ := hh; exact ⟨L, by cases a; simp only at hd; subst hd; exact hg, hq⟩)
theorem f_nil (h : Q .normal L w) : RF ro ds P n ops Q [] L w := fun _ ha => wpListIn_nil ⟨L, ha, h⟩
theorem f_op {o : Oper} {rest} {r : Result Next} (hw : Wn ops n L o) (hnd : ∀ c, o.op ≠ .defer c)
    (hr : ∀ a, Good n a L → (execOp a.eval o).run P w = r)
    (hk : ∀ a, GoodD ds n a L → ∀ K : Act → World → Prop, (∀ a w, wpListIn (inF ro) 3 P ops (liftD ds n Q) rest a w → K a w) → o.uponIn (inF ro) 3 P a K (liftD ds n Q) r) : RF ro ds P n ops Q (o :: rest) L w := fun a ha => wpListIn_step fun K hK => by
  have hwn : Region.wanted o (yielded ops a.tmps) = true := hw { a with defers := [] } ha.1
  rw [if_pos hwn]
  refine ⟨fun _ _ => trivial, ?_⟩
  rw [Oper.semAt_eq _ _ _ hnd]
  have := hr { a with defers := [] } ha.1
  rw [show (execOp a.eval o).run P w = r from this]
  exact hk a ha K hK
theorem f_val {o rest d v} (hw : Wn ops n L o) (hd : o.dst = some d) (hn : Nat.blt d n = true) (hp : Py P n L w o v)
    (k : RF ro ds P n ops Q rest ((d, v) :: L) w) (hnd : ∀ c, o.op ≠ .defer c := by intro c h; cases h) : RF ro ds P n ops Q (o :: rest) L w :=
  f_op hw hnd hp fun a ha K hK => by
    rw [Oper.uponIn_value, hd]
    exact hK _ _ (k _ (ha.put hn))
theorem f_new {o rest d v w'} (hw : Wn ops n L o) (hd : o.dst = some d) (hn : Nat.blt d n = true) (hp : Pn P n L w o v w')
    (k : RF ro ds P n ops Q rest ((d, v) :: L) w') (hnd : ∀ c, o.op ≠ .defer c := by intro c h; cases h) : RF ro ds P n ops Q (o :: rest) L w :=
  f_op hw hnd hp fun a ha K hK => by
    rw [Oper.uponIn_value, hd]
    exact hK _ _ (k _ (ha.put hn))
theorem f_do {o rest w'} (hw : Wn ops n L o) (hd : o.dst = none) (hp : Pd P n L w o w')
    (k : RF ro ds P n ops Q rest L w') (hnd : ∀ c, o.op ≠ .defer c := by intro c h; cases h) : RF ro ds P n ops Q (o :: rest) L w :=
  f_op hw hnd hp fun a ha K hK => by
    rw [Oper.uponIn_skip, hd]
    exact hK _ _ (k _ ha)
theorem f_call {o rest d f args R} (hw : Wn ops n L o) (hd : o.dst = some d) (hn : Nat.blt d n = true) (hp : Pc P n L w o f args)
    (hc : Ret P f args w R) (k : ∀ v w', R v w' → RF ro ds P n ops Q rest ((d, v) :: L) w') (hnd : ∀ c, o.op ≠ .defer c := by intro c h; cases h) (hro : ro = none := by rfl) : RF ro ds P n ops Q (o :: rest) L w := by
  subst hro
  exact f_op hw hnd hp fun a ha K hK => by
    rw [Oper.uponIn_enter]
    refine ⟨fun h => (by cases h), callsIn_wide.2 (Calls.mono hc fun e w' ⟨v, he, hR⟩ => ?_)⟩
    subst he
    show K (a.put o.dst v) w'
    rw [hd]
    exact hK _ _ (k v w' hR _ (ha.put hn))
/-- A call of yield. -/
theorem f_yield {rest : List Oper} {d : Tmp} {x y : Operand} {ats : Array TypeId} {ty : TypeId} {p : String} {af : Array Edge} {l : Nat} {u : Value} {R : Ending → World → Prop}
    (hx : evL L x = some (.func (.yield l) #[] #[])) (hy : evL L y = some u) (hn : Nat.blt d n = true)
    (hc : YieldAt (inF none) 2 P l #[u] w R) (k : ∀ e w', R e w' → ∃ v, e = .returned v ∧ RF none ds P n ops Q rest ((d, v) :: L) w') :
    RF none ds P n ops Q (⟨some d, .call ⟨.value x, #[y], ats⟩, ty, p, af, none⟩ :: rest) L w := by
  obtain ⟨fn, tmps, assign, body, hr, hR⟩ := hc
  refine f_op (wn rfl) (by intro c h; cases h) (r := .ok (.round l fn tmps assign body) w) (fun a ha => ?_) fun a ha K hK => ?_
  · simp [execOp, resolve, invoke, Deferred.ofValue, ha.eval hx, ha.eval hy, hr]
  · rw [Oper.uponIn_round]
    refine ⟨fun h => (by cases h), hR.mono fun e w' he => ?_⟩
    obtain ⟨v, rfl, hk⟩ := k e w' he
    exact hK _ _ (hk _ (ha.put hn))
end
/-! ### Rounds -/
/-- A loop's record, told by its state. -/
structure Recs (R : LoopState → Option Code → Loop) (fn : FuncId) (tmps : Array Value) (ps : Array Tmp) (assign body : Code) : Prop where
  st : ∀ s p, (R s p).state = s
  pe : ∀ s p, (R s p).pending = p
  up : ∀ s p s' p', { R s p with state := s', pending := p' } = R s' p'
  fn : ∀ s p, (R s p).fn = fn
  tmps : ∀ s p, (R s p).tmps = tmps
  ps : ∀ s p, (R s p).params = ps
  as : ∀ s p, (R s p).assign = assign
  bo : ∀ s p, (R s p).body = body
section
variable {P : Program} {n : Nat} {L : Env} {W : World} {R : LoopState → Option Code → Loop} {fn : FuncId} {tmps : Array Value} {assign body : Code} {t : Tmp} {l : Nat} {u : Value}
/-- A round whose body goes off its end. -/
theorem yield_at (hR : Recs R fn tmps #[t] assign body) (hg : Good n { tmps := tmps, defers := [] } L) (ht : Nat.blt t n = true) (hl : W.heap[l]? = some (.loop (R .ready none))) {L2 : Env} {B : World → Prop}
    (ha : WF (some l) [] P n assign (fun e L' W' => e = .normal ∧ W' = W ∧ sub L' L2) ((t, u) :: L) W)
    (hb : WF (some l) [] P n body (fun e L' W' => e = .normal ∧ W'.heap[l]? = some (.loop (R .busy none)) ∧ B W') L2 (put W l (.loop (R .busy none)))) :
    YieldAt (inF none) 2 P l #[u] W fun e W' => e = .returned (.bool true) ∧ ∃ W2, B W2 ∧ W2.heap[l]? = some (.loop (R .busy none)) ∧ W' = put W2 l (.loop (R .ready none)) := by
  have hy := run_yield (P := P) (args := #[u]) hl (by rw [hR.ps]; rfl)
  rw [hR.fn, hR.tmps, hR.ps, hR.as, hR.bo] at hy
  refine ⟨fn, _, assign, body, hy, ?_⟩
  have hg2 : GoodD [] n { tmps := ((#[t].zip #[u]).foldl (fun tmps (t, a) => tmps.setIfInBounds t a) tmps), defers := [] } ((t, u) :: L) := by
    refine ⟨?_, rfl⟩
    have := hg.put ht (v := u)
    simpa [Act.put] using this
  refine roundIn_of_wpIn (F := inF none) trivial ?_
  have key : assign.wpIn (inF (some l)) 3 P (liftD [] n (fun e L' W' => e = .normal ∧ W' = W ∧ sub L' L2)) { tmps := ((#[t].zip #[u]).foldl (fun tmps (t, a) => tmps.setIfInBounds t a) tmps), defers := [] } W := ha _ hg2
  have dn : ∀ {c : Code} {QQ : Exit → Act → World → Prop} {a : Act} {w : World}, c.wpIn (inF (some l)) 3 P QQ a w → c.wpIn ((inF none).inRound l) 2 P QQ a w := fun h b k cs h1 h2 h3 => h b k cs h1 h2 (fun d hd => by cases hd)
  refine dn (wpIn_mono key fun e a w hh => ?_)
  cases e with
  | normal =>
    obtain ⟨L', hg', _, rfl, hs⟩ := hh
    refine ⟨put w l (.loop (R .busy none)), ?_, dn (wpIn_mono (hb _ (hg'.weak hs)) fun e a w2 hh => ?_)⟩
    · have := run_beginRound (P := P) hl (hR.st _ _)
      rw [this]
      have e1 := hR.up .ready none .busy none
      have e2 : ({ R .ready none with state := .busy } : Loop) = R .busy none := by
        rw [← e1]
        have := hR.pe .ready none
        cases h : R .ready none; rw [h] at this; simp only at this; subst this; rfl
      rw [e2]; rfl
    · cases e with
      | normal =>
        obtain ⟨L3, _, _, hl2, hB⟩ := hh
        refine ⟨_, _, run_endRound (P := P) none hl2, rfl, w2, hB, hl2, ?_⟩
        show put w2 l _ = _
        congr 2
        exact hR.up .busy none .ready none
      | panic _ => exact hh
      | outgrown => exact hh
      | ret => obtain ⟨_, _, h, _⟩ := hh; cases h
      | exit _ => obtain ⟨_, _, h, _⟩ := hh; cases h
      | goto _ => obtain ⟨_, _, h, _⟩ := hh; cases h
  | panic _ => exact hh
  | outgrown => exact hh
  | ret => obtain ⟨_, _, h, _⟩ := hh; cases h
  | exit _ => obtain ⟨_, _, h, _⟩ := hh; cases h
  | goto _ => obtain ⟨_, _, h, _⟩ := hh; cases h
end
section
variable {P : Program} {n : Nat} {L : Env} {w : World} {Q : Exit → Act → World → Prop}
/-- The statement: an outermost loop whose rounds go on to the end. -/
theorem WF_range {g : Operand} {t : Tmp} {assign body : Code} {gf : FuncId} {gfn : Func} {lb : Array Value} {a : Act} {K : World → Prop} (ha : GoodD [] n a L) (hg : evL L g = some (.func (.func gf) #[] lb))
    (hf : P.funcs[gf]? = some gfn) (hb : gfn.body.isNone = false) (hnm : (gfn.name == "runtime.NumGoroutine") = false)
    (hc : ∀ (R : LoopState → Option Code → Loop) (fn : FuncId), Recs R fn a.tmps #[t] assign body →
      Ret P gf (#[.func (.yield (w.heap.size + 1)) #[] #[]] ++ lb) ((w.alloc (.deferred (some []))).alloc (.loop (R .ready none))) fun _ w2 =>
        w2.heap[w.heap.size + 1]? = some (.loop (R .ready none)) ∧ K (put w2 (w.heap.size + 1) (.loop (R .exhausted none))))
    (hQ : ∀ w3, K w3 → Q .normal { a with defers := [{ target := .collected w.heap.size, args := #[] }] } w3) :
    (Code.rangeFunc g #[t] assign body).wpIn (inF none) 3 P Q a w := by
  refine wpIn_rangeFunc ?_
  intro fn _
  let R : LoopState → Option Code → Loop := fun st pe => { state := st, pending := pe, fn, tmps := a.tmps, params := #[t], assign, body, defers := w.heap.size }
  have hR : Recs R fn a.tmps #[t] assign body := ⟨fun _ _ => rfl, fun _ _ => rfl, fun _ _ _ _ => rfl, fun _ _ => rfl, fun _ _ => rfl, fun _ _ => rfl, fun _ _ => rfl, fun _ _ => rfl⟩
  refine ⟨w.heap.size + 1, [{ target := .collected w.heap.size, args := #[] }], (w.alloc (.deferred (some []))).alloc (.loop (R .ready none)), { target := .fn (.func gf) lb, args := #[.func (.yield (w.heap.size + 1)) #[] #[]] },
    (w.alloc (.deferred (some []))).alloc (.loop (R .ready none)), gf, #[.func (.yield (w.heap.size + 1)) #[] #[]] ++ lb, (w.alloc (.deferred (some []))).alloc (.loop (R .ready none)), run_enterLoop_outer _ _ _ _ _, ?_, fun _ _ => trivial, ?_, fun h => (by cases h), ?_⟩
  · have : a.eval g = .func (.func gf) #[] lb := ha.1.eval hg
    simp [resolve, this, Deferred.ofValue]
    rfl
  · have hb' : ¬ gfn.body = none := fun e => by rw [e] at hb; simp at hb
    have hnm' : ¬ gfn.name = "runtime.NumGoroutine" := fun e => by rw [e] at hnm; simp at hnm
    simp [invoke, callFunc, hf, hb', hnm']
  · refine callsIn_wide.2 (Calls.mono (hc R fn hR) fun e w2 ⟨v, he, hl, hK⟩ => ?_)
    subst he
    refine ⟨none, _, by have := run_endLoop (P := P) hl (by rw [hR.st]; simp); exact this, ?_⟩
    rw [ha.2]
    exact hQ _ hK
end
section
variable {P : Program} {n : Nat} {L : Env} {w : World} {d : Option Tmp} {ty : TypeId} {p : String} {af : Array Edge} {g : Option (Nat × Bool)}
theorem py_min {x y : Operand} {ats : Array TypeId} {k k2 : IntKind} {i j : Int} (hx : evL L x = some (.int k i)) (hy : evL L y = some (.int k2 j)) :
    Py P n L w ⟨d, .call ⟨.builtin .min, #[x, y], ats⟩, ty, p, af, g⟩ (.int k (if j < i then j else i)) := fun a ha => by
  simp [execOp, resolve, invoke, builtin, ha.eval hx, ha.eval hy, run_min_int2]
theorem py_max {x y : Operand} {ats : Array TypeId} {k k2 : IntKind} {i j : Int} (hx : evL L x = some (.int k i)) (hy : evL L y = some (.int k2 j)) :
    Py P n L w ⟨d, .call ⟨.builtin .max, #[x, y], ats⟩, ty, p, af, g⟩ (.int k (if i < j then j else i)) := fun a ha => by
  simp [execOp, resolve, invoke, builtin, ha.eval hx, ha.eval hy, run_max_int2]
/-- A closure. -/
theorem py_func {f : FuncId} {xs : Array Operand} {vs : List Value} (hv : evLs L xs.toList = some vs) :
    Py P n L w ⟨d, .makeFunc (.func f) #[] xs, ty, p, af, g⟩ (.func (.func f) #[] vs.toArray) := fun a ha => by
  have hm : xs.map a.eval = vs.toArray := by
    have key : ∀ (l : List Operand) (vs : List Value), evLs L l = some vs → l.map a.eval = vs := by
      intro l
      induction l with
      | nil => intro vs h; simp [evLs] at h; simp [h]
      | cons x l ih =>
        intro vs h
        unfold evLs at h
        split at h
        · rename_i v us hv hus
          cases h
          simp [ha.eval hv, ih us hus]
        · cases h
    have := key _ _ hv
    apply Array.toList_inj.1
    simpa using this
  simp [execOp, Instr.makeFunc, hm]
end
/-- A function whose body ends behind one range over a function. -/
theorem ret_marks {P : Program} {f : FuncId} {fn : Func} {c : Code} {n : Nat} {vs : List Value} {w : World} {R : Value → World → Prop} (hf : P.funcs[f]? = some fn) (hb : fn.body = some c) (hn : fn.ntmps = n) (hl : Nat.ble vs.length n = true)
    (h : ∀ a, GoodD [] n a (argsL 0 vs) → c.wpIn (inF none) 3 P (fun e a w => (e = .normal ∨ e = .ret) ∧ ∃ D L, GoodD [{ target := .collected D, args := #[] }] n a L ∧ w.heap[D]? = some (.deferred (some [])) ∧ fin P fn R .ret L (put w D (.deferred none))) a w) :
    Ret P f vs.toArray w R := by
  have hl' := Nat.le_of_ble_eq_true hl
  refine callsIn_wide.1 (callsIn_of_wp_marks (n := 3) (F := Fence.wide) hf hb trivial ?_)
  refine wpIn_mono (F := Fence.wide) (h _ ⟨Good.start (by rw [hn]; simp; omega), rfl⟩) fun e a w hh => ?_
  obtain ⟨he, D, L, ⟨hg, hd⟩, hD, hfin⟩ := hh
  have key : LeavesInM Fence.wide 3 P fn a.tmps (fun e w' => ∃ v, e = .returned v ∧ R v w') a.defers .returning w := by
    rw [hd]
    obtain ⟨v, hv, hR⟩ := hfin _ _ hg
    exact ⟨by simp, .inl ⟨D, _, rfl, run_takeDeferred hD, ⟨_, hv, _, rfl, hR⟩⟩⟩
  rcases he with rfl | rfl <;> exact key
section
variable {ro : Option Nat} {ds : List Deferred} {P : Program} {n : Nat} {ops : Array Oper} {Q : Post} {L : Env} {w w0 : World} {M : Nat → Prop} {Δ F : List Rsc} {rest : List Oper} {d : Nat} {ty : TypeId} {p : String} {af : Array Edge} {g : Option (Nat × Bool)} {α : Type} [Rp α]
theorem f_box {t : TypeId} {x : Operand} {v : Value} (hw : Wn ops n L ⟨some d, .box t x, ty, p, af, g⟩) (hn : Nat.blt d n = true) (hx : evL L x = some v) (H : Sep M w0 Δ F w)
    (k : ∀ b w', Ext No w w' → w.heap.size ≤ b → Sep M w0 (Δ ++ [box b (.cells v.cells t)]) F w' → RF ro ds P n ops Q rest ((d, .pointer (some ⟨b, 0, none⟩)) :: L) w') :
    RF ro ds P n ops Q (⟨some d, .box t x, ty, p, af, g⟩ :: rest) L w :=
  f_new hw rfl hn (pn_box hx) (k _ _ (Ext.refl.alloc _) (Nat.le_refl _) (H.alloc _))
theorem f_lit1 {t e : TypeId} {x : Operand} {z v : Value} {size bytes : Nat} (hw : Wn ops n L ⟨some d, .buildSlice t 1 #[(0, x)], ty, p, af, g⟩) (hn : Nat.blt d n = true) (ht : P.underlying t = some (.slice e)) (hT : Ty P e z size bytes) (hs : Nat.blt 0 size = true)
    (hx : evL L x = some v) (h1 : v.cells.size = size) (hsmall : Nat.ble size 16777216 = true) (H : Sep M w0 Δ F w)
    (k : ∀ b w', Ext No w w' → w.heap.size ≤ b → Sep M w0 (Δ ++ [box b (.cells v.cells.toList.toArray e)]) F w' → RF ro ds P n ops Q rest ((d, .slice (some ⟨b, 0, none⟩) 1 1) :: L) w') :
    RF ro ds P n ops Q (⟨some d, .buildSlice t 1 #[(0, x)], ty, p, af, g⟩ :: rest) L w := by
  have hp := pn_lit (n := n) (w := w) (ty := ty) (p := p) (af := af) (g := g) (d := some d) (parts := #[(0, x)]) (vs := [v]) (len := 1) ht hT (Nat.le_of_ble_eq_true hs) rfl (parts_one hx) (by simpa using h1) (by omega) (by have := Nat.le_of_ble_eq_true hsmall; omega)
  simp only [List.flatMap_cons, List.flatMap_nil, List.append_nil] at hp
  exact f_new hw rfl hn hp (k _ _ (Ext.refl.alloc _) (Nat.le_refl _) (H.alloc _))
theorem f_app1 {x y : Operand} {t e : TypeId} {z : Value} {bytes : Nat} {v : Value} {xs : List α} {fp : List Nat} {b2 c2 : Nat} {T} {cs : List Value} {u : α} (hw : Wn ops n L ⟨some d, .call ⟨.builtin .append, #[x, y], #[t, t]⟩, ty, p, af, g⟩) (hn : Nat.blt d n = true)
    (ht : P.underlying t = some (.slice e)) (hT : Ty P e z (sz α) bytes) (hz : z.cells.size = sz α) (hx : evL L x = some v) (hy : evL L y = some (.slice (some ⟨b2, 0, none⟩) 1 c2))
    (H : Sep M w0 Δ F w) (i j : Nat) (hi : Δ[i]? = some (mine [v] xs fp)) (hj : Δ[j]? = some (box b2 (.cells cs.toArray T))) (hu : own true w cs u []) (h63 : xs.length + 1 ≤ maxLen) (hb48 : (xs.length + 1) * bytes ≤ 140737488355328)
    (k : ∀ v' w' fp', Sep M w0 (Δ.set i (mine [v'] (xs ++ [u]) fp')) F w' → RF ro ds P n ops Q rest ((d, v') :: L) w') :
    RF ro ds P n ops Q (⟨some d, .call ⟨.builtin .append, #[x, y], #[t, t]⟩, ty, p, af, g⟩ :: rest) L w := by
  obtain ⟨v', w', fp', h1, h2⟩ := H.app1 i hi (ty := ty) ht hT hz (At.whole (H.box j hj)) hu h63 hb48
  exact f_new hw rfl hn (pn_app hx hy h1) (k _ _ _ h2)
theorem f_sto {t : TypeId} {x y : Operand} {b off : Nat} {cs : List Value} {T v} (hw : Wn ops n L ⟨none, .store t x y, ty, p, af, g⟩) (hs : ∀ w, (sizeOf t).run P w = .ok 1 w) (hx : evL L x = some (.pointer (some ⟨b, off, none⟩))) (hy : evL L y = some v) (h1 : v.oneCell' = true)
    (H : Sep M w0 Δ F w) (i : Nat) (hi : Δ[i]? = some (box b (.cells cs.toArray T))) (ho : Nat.blt off cs.length = true)
    (k : ∀ w', Ext (· = b) w w' → Sep M w0 (Δ.set i (box b (.cells (cs.set off v).toArray T))) F w' → RF ro ds P n ops Q rest L w') :
    RF ro ds P n ops Q (⟨none, .store t x y, ty, p, af, g⟩ :: rest) L w := by
  have h := k _ (Ext.refl.put (.inl rfl)) (H.put i _ hi)
  rw [← List.setIfInBounds_toArray] at h
  exact f_do hw rfl (pd_store hs hx hy h1 (H.box i hi) (by rw [List.size_toArray]; exact Nat.le_of_ble_eq_true ho)) h
/-- One behind the other, the second by a law of its own. -/
theorem seqF {x y : Code} {Q : Exit → Act → World → Prop} {a : Act} {B : Env → World → Prop} (ha : GoodD ds n a L) (h : WF ro ds P n x (fun e L' w' => e = .normal ∧ B L' w') L w)
    (k : ∀ a' L' w', GoodD ds n a' L' → B L' w' → y.wpIn (inF ro) 3 P Q a' w') : (Code.seq x y).wpIn (inF ro) 3 P Q a w :=
  wpIn_seq (wpIn_mono (h a ha) fun e a' w' hh => by
    cases e with
    | normal => obtain ⟨L', hg, _, hB⟩ := hh; exact k a' L' w' hg hB
    | panic _ => exact hh.elim
    | outgrown => exact hh.elim
    | ret => obtain ⟨_, _, h, _⟩ := hh; cases h
    | exit _ => obtain ⟨_, _, h, _⟩ := hh; cases h
    | goto _ => obtain ⟨_, _, h, _⟩ := hh; cases h)
end
/-! ### Chunks -/
def chunkV (A : Option Addr) (m q : Nat) : List View := (List.range q).map fun i => ⟨slA A (i * m) (i * m + m) 1, m, m⟩
def chunks {α : Type} (xs : List α) (m q : Nat) : List (List α) := (List.range q).map fun i => cut xs (i * m) (i * m + m)
theorem chunkV_len {A m q} : (chunkV A m q).length = q := by simp [chunkV]
theorem chunks_len {α : Type} {xs : List α} {m q} : (chunks xs m q).length = q := by simp [chunks]
theorem chunkV_step {A m q i} (h : i < q) : (chunkV A m q).take i ++ [⟨slA A (i * m) (i * m + m) 1, m, m⟩] = (chunkV A m q).take (i + 1) := by
  rw [List.take_add_one]
  congr 1
  simp [chunkV, h]
theorem chunks_get {α : Type} {xs : List α} {m q i} (h : i < q) : (chunks xs m q).getD i [] = cut xs (i * m) (i * m + m) := by
  simp [chunks, List.getD, h]
theorem mul_step {i q m n : Nat} (hn : n = q * m) (h : i < q) : i * m + m ≤ n := by
  rw [hn, ← Nat.succ_mul]; exact Nat.mul_le_mul_right _ h
theorem own_chunks {s w n cap} {A : Option Addr} {xs : List UInt8} {fp} (h : own s w [.slice A n cap] xs fp) {m q : Nat} (hm : 1 ≤ m) (hn : xs.length = q * m) (hc : q * m ≤ cap) :
    ∃ f, ownL false w ((chunkV A m q).map View.val) (chunks xs m q) f ∧ ∀ b ∈ f, b ∈ fp := by
  have key : ∀ k, k ≤ q → ∃ f, ownL false w (((List.range k).map fun i => (⟨slA A (i * m) (i * m + m) 1, m, m⟩ : View)).map View.val) ((List.range k).map fun i => cut xs (i * m) (i * m + m)) f ∧ ∀ b ∈ f, b ∈ fp := by
    intro k
    induction k with
    | zero => intro _; exact ⟨[], by simp [ownL], by simp⟩
    | succ k ih =>
      intro hk
      obtain ⟨f, hf, hs⟩ := ih (by omega)
      have h1 := mul_step (m := m) rfl (show k < q by omega)
      obtain ⟨g, hg, ht⟩ := own_cut h (k * m) (k * m + m) (k * m + m) (by omega) (by omega) (Nat.le_refl _) (by omega)
      refine ⟨f ++ g, ?_, fun b hb => by rcases List.mem_append.1 hb with hb | hb; exact hs b hb; exact ht b hb⟩
      rw [List.range_succ, List.map_append, List.map_append, List.map_append]
      refine hf.append (by simp [sz]) (ownL.one ?_)
      have e : k * m + m - k * m = m := by omega
      rw [e] at hg
      exact hg
  exact key q (Nat.le_refl _)
/-! ### Structures built out of parts -/
structure Pl (P : Program) (t : TypeId) (zs : List Value) (pl : List (Nat × Nat)) : Prop where
  h : (match P.info? t, P.underlying t with
    | some it, some (.struct fields) => (it.zero, fields.toList.mapM (fun f => (P.info? f.type).map fun i => (f.offset, i.size)))
    | _, _ => (none, none)) = (some (.agg zs.toArray), some pl)
def fillL (pl : List (Nat × Nat)) : List Value → List (Nat × Value) → Option (List Value)
  | zs, [] => some zs
  | zs, (i, v) :: rest => match pl[i]? with
    | none => none
    | some (off, size) => match Nat.beq v.cells.toList.length size && Nat.ble (off + size) zs.length with
      | true => fillL pl (layL zs off v.cells.toList) rest
      | false => none
theorem foldl_lay : ∀ (vs : List Value) (zs : Array Value) (off k : Nat), (vs.zipIdx k).foldl (fun (cs : Array Value) (x : Value × Nat) => cs.setIfInBounds (off + x.2) x.1) zs = lay zs (off + k) vs
  | [], zs, off, k => rfl
  | v :: vs, zs, off, k => by
    rw [List.zipIdx_cons, List.foldl_cons, foldl_lay vs]
    show lay (zs.setIfInBounds (off + k) v) (off + (k + 1)) vs = lay (zs.setIfInBounds (off + k) v) (off + k + 1) vs
    rfl
theorem fill_fillL (pl : List (Nat × Nat)) : ∀ (parts : List (Nat × Value)) (zs cs : List Value), fillL pl zs parts = some cs → Instr.fill (pl.toArray[·]?) zs.toArray parts = some cs.toArray
  | [], zs, cs, h => by simp [fillL] at h; simp [Instr.fill, h]
  | (i, v) :: rest, zs, cs, h => by
    unfold fillL at h
    cases hp : pl[i]? with
    | none => simp [hp] at h
    | some q =>
      obtain ⟨off, size⟩ := q
      simp only [hp] at h
      split at h
      · rename_i hc
        simp only [Bool.and_eq_true] at hc
        have h1 := Nat.eq_of_beq_eq_true hc.1
        have h2 := Nat.le_of_ble_eq_true hc.2
        have h3 := fill_fillL pl rest _ _ h
        have h4 : v.cells.size = size := by simpa using h1
        unfold Instr.fill
        have hp' : pl.toArray[i]? = some (off, size) := by simpa using hp
        simp only [hp']
        rw [if_neg (by simp [h4]; omega)]
        have e : Array.foldl (fun (cs : Array Value) (x : Value × Nat) => cs.setIfInBounds (off + x.2) x.1) zs.toArray v.cells.zipIdx = (layL zs off v.cells.toList).toArray := by
          rw [← Array.foldl_toList, Array.toList_zipIdx]
          have := foldl_lay v.cells.toList zs.toArray off 0
          rw [this, Nat.add_zero]
          exact lay_layL (by rw [h1]; exact h2)
        rw [← h3, ← e]
      · cases h
section
variable {P : Program} {n : Nat} {L : Env} {w : World} {d : Option Tmp} {ty : TypeId} {p : String} {af : Array Edge} {g : Option (Nat × Bool)}
theorem py_buildS {t : TypeId} {parts : Array (Nat × Operand)} {zs vs cs : List Value} {pl : List (Nat × Nat)} (hp : Pl P t zs pl) (hv : evLs L (parts.toList.map (·.2)) = some vs)
    (hf : fillL pl zs ((parts.toList.map (·.1)).zip vs) = some cs) : Py P n L w ⟨d, .build t parts, ty, p, af, g⟩ (.agg cs.toArray) := py_build fun a ha => by
  have key : ∀ (l : List (Nat × Operand)) (vs : List Value), evLs L (l.map (·.2)) = some vs → l.map (fun x => (x.1, a.eval x.2)) = (l.map (·.1)).zip vs := by
    intro l
    induction l with
    | nil => intro vs h; rfl
    | cons x l ih =>
      intro vs h
      simp only [List.map_cons] at h ⊢
      unfold evLs at h
      split at h
      · rename_i v us hv hus
        cases h
        rw [List.zip_cons_cons, ← ih us hus, ha.eval hv]
      · cases h
  have e : (parts.map fun (i, x) => (i, a.eval x)).toList = (parts.toList.map (·.1)).zip vs := by
    rw [Array.toList_map]
    exact key _ _ hv
  rw [e]
  obtain ⟨hp⟩ := hp
  unfold Program.built
  cases hi : P.info? t with
  | none => simp [hi] at hp
  | some it =>
    cases hu : P.underlying t with
    | none => simp [hi, hu] at hp
    | some td =>
      cases td <;> simp only [hi, hu, Prod.mk.injEq, reduceCtorEq, false_and, and_false] at hp
      rename_i fields
      obtain ⟨h1, h2⟩ := hp
      simp only [h1, h2]
      exact fill_fillL _ _ _ _ hf
end
end Go.Wk
