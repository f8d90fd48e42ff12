/-
  Laws on walking, and the functions walked, each once: what this claim comes to.
-/
import Derived.Test.YtkjkoeocnnfilaaRows
import Derived.Tactics
import Derived.OrdersHeld
import Derived.WalkKit
import Derived.Great.BuildSlice
import Derived.Laws.Tables
import Derived.WideShapes
import Derived.Laws.Closers25b
import Derived.ProofKit
import Derived.OpenShut
import Derived.ShutString
import Derived.ChangeOld
import Derived.Below
import Derived.RangeFuncSeq
import Derived.RangeFuncLeaves
import Derived.Test.YtkjkoeocnnfilaaChecked
import Derived.Laws.BytesArg
import Derived.OrdersIn
set_option linter.unusedVariables false
set_option linter.unusedSimpArgs false
theorem ω {p : Prop} (h : p := by omega) : p := h
theorem η {p : Prop} (h : p := by assumption) : p := h
theorem ξ {p : Prop} (h : p := by first | assumption | omega) : p := h
theorem κ {p : Prop} (h : p := by kernel_rfl) : p := h
theorem σ {p : Prop} (h : p := by simp) : p := h
theorem θ {p : Prop} (h : p := by dsimp only; omega) : p := h
namespace Go.Wk
abbrev Env:=List (Nat × Value)
def look:Env→Nat→Option Value
  | [],_=>none
  | (t,v)::L,u=>match Nat.beq t u with
    | true=>some v
    | false=>look L u
def evL (L:Env):Operand→Option Value
  | .tmp t=>look L t
  | .const v=>some v
  | .func f=>some (.func (.func f) #[] #[])
  | .global g=>some (.pointer (some ⟨g,0,none⟩))
def sub (L:Env):Env→Prop
  | []=>True
  | p::M=>look L p.1=some p.2∧sub L M
theorem iq {L:Env}:∀ {M:Env},sub L M→∀ {t v},look M t=some v→look L t=some v
  | [],_,_,_,h=>by simp [look] at h
  | (u,x)::M,⟨h1,h2⟩,t,v,h=>by
    unfold look at h
    split at h
    · rename_i hb
      have:u=t:=Nat.eq_of_beq_eq_true hb
      cases h; subst this; exact h1
    · exact iq h2 h
structure Good (n:Nat) (a:Act) (L:Env):Prop where
  size:a.tmps.size=n
  defers:a.defers=[]
  cov:∀ t v,look L t=some v→a.tmps.getD t undef=v
theorem Good.eval {n a L x v} (h:Good n a L) (hx:evL L x=some v):a.eval x=v:=by
  cases x with
  | tmp t=>exact h.cov t v hx
  | const u=>simpa [evL,Act.eval] using hx
  | func f=>simpa [evL,Act.eval] using hx
  | global g=>simpa [evL,Act.eval] using hx
theorem Good.put {n a L d v} (h:Good n a L) (hd:Nat.blt d n=true):Good n (a.put (some d) v) ((d,v)::L):=by
  have hd':d<n:=Nat.le_of_ble_eq_true hd
  refine ⟨by simp [Act.put,h.size],h.defers,fun t u ht=>?_⟩
  unfold look at ht
  simp only [Act.put,Array.getD_eq_getD_getElem?]
  split at ht
  · rename_i hb
    have:d=t:=Nat.eq_of_beq_eq_true hb
    subst this
    cases ht
    simp [h.size,hd']
  · rename_i hb
    have hne:d≠t:=fun e=>by subst e; simp at hb
    rw [Array.getElem?_setIfInBounds_ne hne,← Array.getD_eq_getD_getElem?]
    exact h.cov t u ht
theorem Good.weak {n a L M} (h:Good n a L) (hs:sub L M):Good n a M:=
  ⟨h.size,h.defers,fun t v ht=>h.cov t v (iq hs ht)⟩
abbrev Post:=Exit→Env→World→Prop
def lift (n:Nat) (Q:Post):Exit→Act→World→Prop
  | .panic _,_,_=>False
  | .outgrown,_,_=>False
  | e,a,w=>∃ L,Good n a L∧Q e L w
def W (P:Program) (n:Nat) (c:Code) (Q:Post) (L:Env) (w:World):Prop:=
  ∀ a,Good n a L→c.wp P (lift n Q) a w
theorem W.mono {P n c Q Q' L w} (h:W P n c Q L w) (hq:∀ e L w,Q e L w→Q' e L w):W P n c Q' L w:=fun a ha=>
  wp_mono (h a ha) fun e a w hh=>by
    cases e<;>first | exact hh | (obtain ⟨L,hg,hq'⟩:=hh; exact ⟨L,hg,hq _ _ _ hq'⟩)
def thn (P:Program) (n:Nat) (c:Code) (Q:Post):Post
  | .normal,L,w=>W P n c Q L w
  | e,L,w=>Q e L w
theorem ah {P n x y Q L w} (h:W P n x (thn P n y Q) L w):W P n (.seq x y) Q L w:=fun a ha=>wp_seq <|
 wp_mono (h a ha) fun e a w hh=>by
  cases e<;>first | exact hh | (obtain ⟨L,hg,hq⟩:=hh; first | exact hq a hg | exact ⟨L,hg,hq⟩)
theorem aw {P n Q L w} (h:Q .normal L w):W P n .skip Q L w:=fun _ ha=>wp_skip ⟨L,ha,h⟩
theorem bh {P n Q L w} (h:Q .ret L w):W P n .ret Q L w:=fun _ ha=>wp_ret ⟨L,ha,h⟩
theorem bn {P n Q L w id} (h:Q (.exit id) L w):W P n (.exit id) Q L w:=fun _ ha=>wp_exit ⟨L,ha,h⟩
theorem cB {P n c x y Q L w b} (hc:evL L c=some (.bool b)) (h1:b=true→W P n x Q L w) (h2:b=false→W P n y Q L w) :
  W P n (.cond c x y) Q L w:=fun a ha=>wp_cond_split (ha.eval hc) (fun h=>h1 h a ha) (fun h=>h2 h a ha)
theorem aE {P n c x y Q L w p} [i:Decidable p] (hc:evL L c=some (.bool (@decide p i))) (h1:p→W P n x Q L w) (h2:¬ p→W P n y Q L w) :
  W P n (.cond c x y) Q L w:=cB hc (fun h=>h1 (of_decide_eq_true h)) (fun h=>h2 (of_decide_eq_false h))
theorem ng {P n c x y Q L w} (hc:evL L c=some (.bool true)) (h1:W P n x Q L w):W P n (.cond c x y) Q L w:=
 cB hc (fun _=>h1) (fun h=>by cases h)
theorem mU {P n c x y Q L w} (hc:evL L c=some (.bool false)) (h1:W P n y Q L w):W P n (.cond c x y) Q L w:=
 cB hc (fun h=>by cases h) (fun _=>h1)
def blk (id:Nat) (Q:Post):Post
  | .exit i,L,w=>match Nat.beq i id with
    | true=>Q .normal L w
    | false=>Q (.exit i) L w
  | e,L,w=>Q e L w
theorem aB {P n id c Q L w} (h:W P n c (blk id Q) L w):W P n (.block id c) Q L w:=fun a ha=>wp_block <|
 wp_mono (h a ha) fun e a w hh=>by
  cases e with
  | exit i=>
   obtain ⟨L,hg,hq⟩:=hh
   simp only [blk] at hq
   simp only [Exit.inBlock]
   cases hb:Nat.beq i id with
   | true=>
    rw [hb] at hq
    rw [if_pos (Nat.eq_of_beq_eq_true hb)]
    exact ⟨L,hg,hq⟩
   | false=>
    rw [hb] at hq
    rw [if_neg (fun e=>by subst e; simp at hb)]
    exact ⟨L,hg,hq⟩
  | _=>exact hh
def again {γ:Type}(E:γ→Env) (I:γ→World→Prop) (μ:γ→Nat) (g:γ) (Q:Post):Post
  | .normal,L',w'=>∃ g',sub L' (E g')∧I g' w'∧μ g'<μ g
  | e,L',w'=>Q e L' w'
def meets {γ:Type}(E:γ→Env) (I:γ→World→Prop) (Q:Post):Post
  | .normal,L',w'=>∃ g,sub L' (E g)∧I g w'
  | e,L',w'=>Q e L' w'
theorem cR {P n c Q L w} {γ:Type}(E:γ→Env) (I:γ→World→Prop) (μ:γ→Nat) (g0:γ) (hs:sub L (E g0)) (h0:I g0 w)
  (round:∀ g w,I g w→W P n c (again E I μ g Q) (E g) w):W P n (.loop c) Q L w:=by
 have key:∀ k g w,μ g=k→I g w→∀ a,Good n a (E g)→∀ (b:Frame) (kk:List Item) (cs:List Frame),
   ∃ e a' w',lift n Q e a' w'∧Arrives P (lone (b.at a (.code c :: .inLoop c::kk)) cs w) b kk cs e a' w':=by
  intro k
  induction k using Nat.strongRecOn with
  | _ k ih=>
   intro g w hk hI a ha b kk cs
   obtain ⟨e,a₁,w₁,hq,harr⟩:=round g w hI a ha b (.inLoop c::kk) cs
   cases e with
   | normal=>
    obtain ⟨L',hg',g',hs',hI',hlt⟩:=hq
    obtain ⟨e₂,a₂,w₂,hq₂,harr₂⟩:=ih (μ g') (hk ▸ hlt) g' w₁ rfl hI' a₁ (hg'.weak hs') b kk cs
    exact ⟨e₂,a₂,w₂,hq₂,.of_steps (Steps.trans harr (.one step_inLoop)) harr₂⟩
   | exit id=>exact ⟨.exit id,a₁,w₁,hq,.pass (x := .inLoop c) rfl (fun _ _ => .inl σ) harr⟩
   | goto l=>exact ⟨.goto l,a₁,w₁,hq,.pass (x := .inLoop c) rfl (fun _ _ => .inl σ) harr⟩
   | ret=>exact ⟨.ret,a₁,w₁,hq,.pass (x := .inLoop c) rfl (fun _ _ => .inl σ) harr⟩
   | panic ch=>exact hq.elim
   | outgrown=>exact hq.elim
 intro a ha b kk cs
 obtain ⟨e,a',w',hq,harr⟩:=key _ g0 w rfl h0 a (ha.weak hs) b kk cs
 exact ⟨e,a',w',hq,.of_steps (.one step_loop) harr⟩
theorem qh {P n x y Q L w} {γ:Type}(E:γ→Env) (I:γ→World→Prop)
  (h:W P n x (meets E I Q) L w)
  (k:∀ g w',I g w'→W P n y Q (E g) w'):W P n (.seq x y) Q L w:=
 ah (h.mono fun e L' w' hh=>by
  cases e with
  | normal=>
   obtain ⟨g,hs,hI⟩:=hh
   exact fun a ha=>k g w' hI a (ha.weak hs)
  | _=>exact hh)
def Ret (P:Program) (f:FuncId) (args:Array Value) (w:World) (R:Value→World→Prop):Prop:=
  Calls P f args w fun e w'=>∃ v,e = .returned v∧R v w'
theorem Ret.mono {P f args w R R'} (h:Ret P f args w R) (hr:∀ v w',R v w'→R' v w'):Ret P f args w R':=
  Calls.mono h fun _ _ ⟨v,he,hR⟩=>⟨v,he,hr _ _ hR⟩
def jh:Nat→List Value→Env
  | _,[]=>[]
  | k,v::vs=>(k,v)::jh (k+1) vs
theorem je:∀ (vs:List Value) (k t:Nat) (v:Value),look (jh k vs) t=some v→∃ j,t=k+j∧vs[j]? = some v
  | [],_,_,_,h=>by simp [jh,look] at h
  | u::vs,k,t,v,h=>by
    unfold jh look at h
    split at h
    · rename_i hb
      have:k=t:=Nat.eq_of_beq_eq_true hb
      cases h
      exact ⟨0,ω,rfl⟩
    · obtain ⟨j,hj,hv⟩:=je vs (k+1) t v h
      exact ⟨j+1,ω,by simpa using hv⟩
def fin (P:Program) (fn:Func) (R:Value→World→Prop):Post
  | .normal,L,w=>∀ n a,Good n a L→∃ v,(results fn a.tmps).run P w = .ok v w∧R v w
  | .ret,L,w=>∀ n a,Good n a L→∃ v,(results fn a.tmps).run P w = .ok v w∧R v w
  | _,_,_=>False
theorem Good.start {vs:List Value}{n m:Nat}(h:vs.toArray.size+m=n):Good n { tmps:=vs.toArray++Array.replicate m undef,defers:=[] } (jh 0 vs):=by
  refine ⟨by simpa using h,rfl,fun t v ht=>?_⟩
  obtain ⟨j,hj,hv⟩:=je vs 0 t v ht
  have hjt:j=t:=by omega
  subst hjt
  have hlt:j<vs.length:=(List.getElem?_eq_some_iff.1 hv).1
  simp only [Array.getD_eq_getD_getElem?]
  rw [Array.getElem?_append_left (by simpa using hlt)]
  simp [hv]
theorem qi {P f fn c n} {vs:List Value}{w R} (hf:P.funcs[f]? = some fn) (hb:fn.body=some c) (hn:fn.ntmps=n) (hl:Nat.ble vs.length n=true)
    (h:W P n c (fin P fn R) (jh 0 vs) w):Ret P f vs.toArray w R:=by
  have hl':=Nat.le_of_ble_eq_true hl
  refine calls_of_wp hf hb ?_
  refine wp_mono (h _ (Good.start (by rw [hn]; simp; omega))) fun e a w hh=>?_
  cases e<;>first | exact hh.elim | skip
  all_goals (obtain ⟨L,hg,hq⟩:=hh; first | exact hq.elim | skip)
  all_goals (obtain ⟨v,hr,hR⟩:=hq n a hg; exact ⟨hg.defers,v,hr,v,rfl,hR⟩)
theorem aO {P f fn c n} {vs:List Value}{w R} (hf:P.funcs[f]? = some fn) (hb:fn.body=some c) (hn:fn.ntmps=n) (hl:Nat.ble vs.length n=true)
    (h:∀ Q:Post,(∀ L w,fin P fn R .ret L w→Q .ret L w)→(∀ L w,fin P fn R .ret L w→Q .normal L w)→W P n c Q (jh 0 vs) w):Ret P f vs.toArray w R:=
  qi hf hb hn hl (h _ (fun _ _ h=>h) (fun _ _ h=>h))
section
variable {P:Program}{fn:Func}{R:Value→World→Prop}{L:Env}{w:World}
theorem pR (hr:fn.results = #[]) (h:R (.tuple #[]) w):fin P fn R .ret L w:=fun _ _ _=>⟨_,results_none hr _ P w,h⟩
theorem qv {t v} (hr:fn.results = #[.tmp t]) (hv:look L t=some v) (h:R v w):fin P fn R .ret L w:=fun _ a hg=>
  ⟨v,by rw [results_tmp hr,hg.cov t v hv],h⟩
theorem qj {t u v x} (hr:fn.results = #[.tmp t,.tmp u]) (hv:look L t=some v) (hx:look L u=some x) (h:R (.tuple #[v,x]) w):fin P fn R .ret L w:=fun _ a hg=>
  ⟨_,by rw [results_tmp2 hr,hg.cov t v hv,hg.cov u x hx],h⟩
theorem ca {t ty x v} (hr:fn.results = #[.cell t ty]) (hv:look L t=some (.pointer (some x))) (hl:(loadVar ty x).run P w = .ok v w) (h:R v w):fin P fn R .ret L w:=fun _ a hg=>
  ⟨v,by have h1:=hg.cov t _ hv; simp only [Array.getD_eq_getD_getElem?] at h1; simp [results,hr,h1,asAddr,hl],h⟩
end
section
variable {P:Program}{n:Nat}{ops:Array Oper}{Q:Post}{L:Env}{w:World}
def RL (P:Program) (n:Nat) (ops:Array Oper) (Q:Post) (l:List Oper) (L:Env) (w:World):Prop:=
  ∀ a,Good n a L→wpList P ops (lift n Q) l a w
def Py (P:Program) (n:Nat) (L:Env) (w:World) (o:Oper) (v:Value):Prop:=
  ∀ a,Good n a L→(execOp a.eval o).run P w = .ok (.value v) w
def Pn (P:Program) (n:Nat) (L:Env) (w:World) (o:Oper) (v:Value) (w':World):Prop:=
  ∀ a,Good n a L→(execOp a.eval o).run P w = .ok (.value v) w'
def Pd (P:Program) (n:Nat) (L:Env) (w:World) (o:Oper) (w':World):Prop:=
  ∀ a,Good n a L→(execOp a.eval o).run P w = .ok .skip w'
def Pc (P:Program) (n:Nat) (L:Env) (w:World) (o:Oper) (f:FuncId) (args:Array Value):Prop:=
  ∀ a,Good n a L→(execOp a.eval o).run P w = .ok (.enter f args) w
def Wn (ops:Array Oper) (n:Nat) (L:Env) (o:Oper):Prop:=
  ∀ a,Good n a L→Region.wanted o (yielded ops a.tmps)=true
def Wo (ops:Array Oper) (n:Nat) (L:Env) (o:Oper):Prop:=
  ∀ a,Good n a L→Region.wanted o (yielded ops a.tmps)=false
theorem wn {o:Oper}(h:o.guard=none):Wn ops n L o:=fun _ _=>by simp [Region.wanted,h]
def dO (ops:Array Oper) (j:Nat):Option Nat:=(ops.toList[j]?).bind (·.dst)
theorem gY {a j t b} (hg:Good n a L) (hd:dO ops j=some t) (hb:look L t=some (.bool b)):yielded ops a.tmps j=some b:=by
  have h:=hg.cov t _ hb
  have hd':(ops[j]?).bind (·.dst)=some t:=by simpa [dO] using hd
  simp only [yielded,hd',Option.bind_some]
  simp only [Array.getD_eq_getD_getElem?] at h
  cases ht:a.tmps[t]? with
  | none=>rw [ht] at h; simp [undef] at h
  | some v=>rw [ht] at h; simp at h; subst h; rfl
theorem wg {o:Oper}{j t b} (h:o.guard=some (j,b)) (hd:dO ops j=some t) (hb:look L t=some (.bool b)):Wn ops n L o:=fun _ hg=>by
  simp [Region.wanted,h,gY hg hd hb]
theorem wog {o:Oper}{j t b} (h:o.guard=some (j,!b)) (hd:dO ops j=some t) (hb:look L t=some (.bool b)):Wo ops n L o:=fun _ hg=>by
  simp [Region.wanted,h,gY hg hd hb]
theorem ay {id l} (h:RL P n l.toArray Q l L w):W P n (.region id l.toArray false) Q L w:=fun a ha=>wp_region_lit (h a ha)
theorem aa (h:Q .normal L w):RL P n ops Q [] L w:=fun _ ha=>wpList_nil ⟨L,ha,h⟩
theorem au {o rest d v} (hw:Wn ops n L o) (hd:o.dst=some d) (hn:Nat.blt d n=true) (hp:Py P n L w o v)
    (k:RL P n ops Q rest ((d,v)::L) w):RL P n ops Q (o::rest) L w:=fun a ha=>wpList_step fun K hK=>by
  rw [if_pos (hw a ha)]
  unfold Oper.wp
  rw [hp a ha,Oper.upon_value,hd]
  exact hK _ _ (k _ (ha.put hn))
theorem gy {o rest d v w'} (hw:Wn ops n L o) (hd:o.dst=some d) (hn:Nat.blt d n=true) (hp:Pn P n L w o v w')
    (k:RL P n ops Q rest ((d,v)::L) w'):RL P n ops Q (o::rest) L w:=fun a ha=>wpList_step fun K hK=>by
  rw [if_pos (hw a ha)]
  unfold Oper.wp
  rw [hp a ha,Oper.upon_value,hd]
  exact hK _ _ (k _ (ha.put hn))
theorem pE {o rest w'} (hw:Wn ops n L o) (hd:o.dst=none) (hp:Pd P n L w o w')
    (k:RL P n ops Q rest L w'):RL P n ops Q (o::rest) L w:=fun a ha=>wpList_step fun K hK=>by
  rw [if_pos (hw a ha)]
  unfold Oper.wp
  rw [hp a ha,Oper.upon_skip,hd]
  exact hK _ _ (k _ ha)
theorem jH {o rest d} (hw:Wo ops n L o) (hd:o.dst=some d) (hn:Nat.blt d n=true)
    (k:RL P n ops Q rest ((d,undef)::L) w):RL P n ops Q (o::rest) L w:=fun a ha=>wpList_step fun K hK=>by
  rw [if_neg (by rw [hw a ha]; simp),hd]
  exact hK _ _ (k _ (ha.put hn))
theorem o6 {o rest} (hw:Wo ops n L o) (hd:o.dst=none)
    (k:RL P n ops Q rest L w):RL P n ops Q (o::rest) L w:=fun a ha=>wpList_step fun K hK=>by
  rw [if_neg (by rw [hw a ha]; simp),hd]
  exact hK _ _ (k _ ha)
theorem dl {o rest d f args R} (hw:Wn ops n L o) (hd:o.dst=some d) (hn:Nat.blt d n=true) (hp:Pc P n L w o f args)
    (hc:Ret P f args w R) (k:∀ v w',R v w'→RL P n ops Q rest ((d,v)::L) w'):RL P n ops Q (o::rest) L w:=fun a ha=>wpList_step fun K hK=>by
  rw [if_pos (hw a ha)]
  unfold Oper.wp
  rw [hp a ha,Oper.upon_enter,hd]
  refine Calls.mono hc fun e w' ⟨v,he,hR⟩=>?_
  subst he
  exact hK _ _ (k v w' hR _ (ha.put hn))
theorem eK {l t b} (hb:look L t=some (.bool b)) (h1:b=true→RL P n ops Q l ((t,.bool true)::L) w) (h2:b=false→RL P n ops Q l ((t,.bool false)::L) w) :
    RL P n ops Q l L w:=fun a ha=>by
  cases b
  · refine h2 rfl a ⟨ha.size,ha.defers,fun u v hu=>?_⟩
    unfold look at hu
    split at hu
    · rename_i hb'
      have:t=u:=Nat.eq_of_beq_eq_true hb'
      cases hu; subst this; exact ha.cov _ _ hb
    · exact ha.cov u v hu
  · refine h1 rfl a ⟨ha.size,ha.defers,fun u v hu=>?_⟩
    unfold look at hu
    split at hu
    · rename_i hb'
      have:t=u:=Nat.eq_of_beq_eq_true hb'
      cases hu; subst this; exact ha.cov _ _ hb
    · exact ha.cov u v hu
def open_ (listed:Array Bool):Prop:=∃ m,listed.getD m true=false
def wpG (P:Program) (ops:Array Oper) (Q:Exit→Act→World→Prop) (S:World→Prop):Nat→Array Bool→Act→World→Prop
  | 0,listed,a,w=>Region.ready .any ops listed=[]∧Q .normal a w
  | k+1,listed,a,w=>(Region.ready .any ops listed=[]→Q .normal a w) ∧
    ∀ i∈Region.ready .any ops listed,wpOp P ops Q i (fun a' w'=>(open_ (listed.setIfInBounds i true)→S w')∧wpG P ops Q S k (listed.setIfInBounds i true) a' w') a w
theorem l5 {P:Program}{ops:Array Oper}{Q:Exit→Act→World→Prop}{S:World→Prop}:∀ (k:Nat) (listed:Array Bool) (a:Act) (w:World),wpG P ops Q S k listed a w→wpAny P .any ops Q k listed a w
  | 0,_,_,_,h=>h
  | k+1,_,_,_,h=>⟨h.1,fun i hi=>wpOp_mono (fun a' w' h'=>l5 k _ a' w' h'.2) (h.2 i hi)⟩
def waits (ops:Array Oper) (listed:Array Bool) (i:Nat):Bool:=
  (List.range ops.size).any fun m => !(Nat.beq m i) && !(listed.getD m true) && match ops[m]? with
    | some o=>o.after.toList.any fun e=>Region.binds .any e && Nat.beq e.on i
    | none=>false
theorem lA {ops:Array Oper}{listed:Array Bool}{i:Nat}(h:waits ops listed i=true) :
    ∃ m o,ops[m]? = some o∧m≠i∧listed.getD m true=false∧∃ e∈o.after,Region.binds .any e=true∧e.on=i:=by
  unfold waits at h
  rw [List.any_eq_true] at h
  obtain ⟨m,_,h⟩:=h
  simp only [Bool.and_eq_true] at h
  obtain ⟨⟨h1,h2⟩,h3⟩:=h
  cases ho:ops[m]? with
  | none=>rw [ho] at h3; cases h3
  | some o=>
    rw [ho] at h3
    simp only [List.any_eq_true,Bool.and_eq_true] at h3
    obtain ⟨e,he,hb,hi⟩:=h3
    exact ⟨m,o,ho,fun e=>by subst e; simp at h1,by simpa using h2,e,by simpa using he,hb,Nat.eq_of_beq_eq_true hi⟩
theorem m4 {P:Program}{ops:Array Oper}{Q:Exit→Act→World→Prop}{S:World→Prop}{i:Nat}{o:Oper}{v:Value}(hi:ops[i]? = some o) (hs:Region.noSelect ops=true)
    (hQ:∀ c a w,Q (.panic c) (a.put o.dst v) w→Q (.panic c) a w) :
    ∀ (k:Nat) (listed:Array Bool) (a:Act) (w:World),
      (∀ j oj,ops[j]? = some oj→j≠i→listed.getD j true=false→(∀ e∈oj.after,Region.binds .any e=true→e.on≠i)→o.apart ops oj=true) →
      (∃ m om,ops[m]? = some om∧m≠i∧listed.getD m true=false∧∃ e∈om.after,Region.binds .any e=true∧e.on=i) →
      i∈Region.ready .any ops listed→YieldsIf P ops S o v a→S w →
      wpG P ops Q S k (listed.setIfInBounds i true) (a.put o.dst v) w→wpG P ops Q S (k+1) listed a w:=by
  intro k
  have hsel:=Region.noSelect_spec hs
  induction k with
  | zero=>
    intro listed a w _ _ hr hy hS H
    refine ⟨fun h=>absurd hr (by rw [h]; simp),fun j hj=>?_⟩
    by_cases hne:j=i
    · subst hne; exact hy.wpOp hi hS ⟨fun _=>hS,H⟩
    · have:=ready_mono hj hne
      rw [H.1] at this
      simp at this
  | succ k ih=>
    intro listed a w hfree hwait hr hy hS H
    refine ⟨fun h=>absurd hr (by rw [h]; simp),fun j hj=>?_⟩
    by_cases hne:j=i
    · subst hne; exact hy.wpOp hi hS ⟨fun _=>hS,H⟩
    · obtain ⟨hun,oj,hoj,hall⟩:=mem_ready.1 hj
      have hnot:∀ e∈oj.after,Region.binds .any e=true→e.on≠i:=by
        intro e he hb heq
        have h1:=hall e he hb
        have h0:=(mem_ready.1 hr).1
        rw [heq] at h1
        by_cases hsz:i<listed.size
        · simp [hsz] at h0 h1
          rw [h0] at h1
          cases h1
        · simp [Array.getElem?_eq_none (Nat.le_of_not_lt hsz)] at h1
      obtain ⟨m,om,hm,hmi,hmu,e,he,heb,hei⟩:=hwait
      have hmj:m≠j:=fun e'=>by subst e'; rw [hoj] at hm; cases hm; exact hnot e he heb hei
      have hmu':(listed.setIfInBounds j true).getD m true=false:=by rw [getD_set_ne true (Ne.symm hmj)]; exact hmu
      have h2:=wpOp_putIf hoj (hfree j oj hoj hne hun hnot) (fun cs b=>hsel i o cs b hi) (fun cs b=>hsel j oj cs b hoj) hQ hy (H.2 j (ready_mono hj hne))
      refine wpOp_mono (fun a' w' h3=>?_) h2
      obtain ⟨hy',hS',hG⟩:=h3
      have hSw:S w':=hS' ⟨m,by rw [getD_set_ne true (Ne.symm hmj),getD_set_ne true (Ne.symm hmi)]; exact hmu⟩
      refine ⟨fun _=>hSw,ih (listed.setIfInBounds j true) a' w' (fun q oq hq hqi hqu hqn=>?_) ⟨m,om,hm,hmi,hmu',e,he,heb,hei⟩ (ready_mono hr (Ne.symm hne)) hy' hSw ?_⟩
      · refine hfree q oq hq hqi ?_ hqn
        by_cases hjq:j=q
        · subst hjq; exact hun
        · rw [getD_set_ne true hjq] at hqu; exact hqu
      · rw [Array.setIfInBounds_comm _ _ hne]
        exact hG
def heads (N:Nat) (rec:List (Nat × Bool)→Array Bool→Bool) (listed:Array Bool):List Nat→List (Nat × Bool)→Bool
  | [x],(i,p)::r=>Nat.beq i x && !p && Nat.blt i N && rec r (listed.setIfInBounds x true)
  | x :: y::t,(k,p)::r => !p && Nat.ble N k && (match r.take (k-1000) with
      | (i,q)::r1=>Nat.beq i x && !q && Nat.blt i N && rec r1 (listed.setIfInBounds x true)
      | []=>false) && heads N rec listed (y::t) (r.drop (k-1000))
  | _,_=>false
def fN (ops:Array Oper):Nat→List (Nat × Bool)→Array Bool→Bool
  | _,[],listed=>(Region.ready .any ops listed).isEmpty && listed.all id
  | m+1,(i,true)::r,listed=>Region.free .any ops listed i && (Region.ready .any ops listed).contains i && waits ops listed i && fN ops m r (listed.setIfInBounds i true)
  | m+1,(i,false)::r,listed=>heads ops.size (fN ops m) listed (Region.ready .any ops listed) ((i,false)::r)
  | _,_,_=>false
def DL (P:Program) (n:Nat) (ops:Array Oper) (Q:Post) (S:World→Prop) (l:List (Nat × Bool)) (L:Env) (w:World):Prop:=
  Region.noSelect ops=true→∀ a,Good n a L→(l≠[]→S w)→∀ (m:Nat) (listed:Array Bool) (fuel:Nat),m≤fuel →
    (fN ops m l listed=true→wpG P ops (lift n Q) S fuel listed a w) ∧
    (∀ av,heads ops.size (fN ops m) listed av l=true→∀ j∈av,wpOp P ops (lift n Q) j (fun a' w'=>(open_ (listed.setIfInBounds j true)→S w')∧wpG P ops (lift n Q) S fuel (listed.setIfInBounds j true) a' w') a w)
theorem lv {c d v w} {a:Act}(h:lift n Q (.panic c) (a.put d v) w):lift n Q (.panic c) a w:=h.elim
variable {S:World→Prop}
theorem bN {id:Nat}(l:List (Nat × Bool)) (hm:P.follows .mixedOrders=true) (hc:fN ops ops.size l (Array.replicate ops.size false)=true) (hs:Region.noSelect ops=true) (_:true=true)
  (hS:∀ k,S { w with drawn:=k }) (h:∀ k,DL P n ops Q S l L { w with drawn:=k }):W P n (.region id ops true) Q L w:=fun a ha=>
 wp_region_any hm (l5 _ _ _ _ ((h _ hs a ha (fun _=>hS _) ops.size _ ops.size (Nat.le_refl _)).1 hc))
theorem lX {m listed} (hc:fN ops m [] listed=true):Region.ready .any ops listed=[]∧¬ open_ listed:=by
  have hc:((Region.ready .any ops listed).isEmpty && listed.all id)=true:=by cases m<;>exact hc
  simp only [Bool.and_eq_true] at hc
  refine ⟨by simpa using hc.1,fun ⟨m,hm⟩=>?_⟩
  have h2:=hc.2
  rw [Array.all_eq_true_iff_forall_mem] at h2
  by_cases hlt:m<listed.size
  · have:=h2 listed[m] (Array.getElem_mem hlt)
    simp [hlt] at hm
    simp [hm] at this
  · simp [Array.getElem?_eq_none (Nat.le_of_not_lt hlt)] at hm
theorem mg {N rec listed av} (h:heads N rec listed av []=true):False:=by
  unfold heads at h
  split at h<;>simp_all
theorem bH (h:Q .normal L w):DL P n ops Q S [] L w:=fun _ a ha hS m listed fuel _=>⟨fun hc=>by
  have h1:=(lX hc).1
  cases fuel with
  | zero=>exact ⟨h1,⟨L,ha,h⟩⟩
  | succ k=>exact ⟨fun _=>⟨L,ha,h⟩,by rw [h1]; simp⟩,fun av hh=>(mg hh).elim⟩
private theorem pa {N rec listed av i r} (h:heads N rec listed av ((i,true)::r)=true):False:=by
  unfold heads at h
  split at h<;>simp_all
private theorem l3 {i rest o d v} (hi:ops.toList[i]? = some o) (hd:o.dst=some d) (hn:Nat.blt d n=true) (hy:∀ a,Good n a L→YieldsIf P ops S o v a)
    (k:DL P n ops Q S rest ((d,v)::L) w):DL P n ops Q S ((i,true)::rest) L w:=fun hs a ha hS m listed fuel hf=>⟨fun hc=>by
  cases m with
  | zero=>simp [fN] at hc
  | succ m=>
    unfold fN at hc
    simp only [Bool.and_eq_true] at hc
    obtain ⟨⟨⟨h1,h2⟩,h3⟩,h4⟩:=hc
    cases fuel with
    | zero=>simp at hf
    | succ fuel=>
      have hi':ops[i]? = some o:=by simpa using hi
      refine m4 hi' hs (fun _ _ _ h=>lv h) fuel listed a w (Region.free_spec hi' h1) (lA h3) (by simpa using h2) (hy a ha) (hS σ) ?_
      rw [hd]
      exact (k hs _ (ha.put hn) (fun _=>hS σ) m _ fuel ω).1 h4,fun av hh=>(pa hh).elim⟩
theorem cZ {i rest o d v} (hi:ops.toList[i]? = some o) (hw:Wn ops n L o) (hd:o.dst=some d) (hn:Nat.blt d n=true) (hp:∀ x,S x→Py P n L x o v)
    (k:DL P n ops Q S rest ((d,v)::L) w):DL P n ops Q S ((i,true)::rest) L w:=
  l3 hi hd hn (fun a ha => .inl ⟨hw a ha,fun x hx=>hp x hx a ha⟩) k
theorem lC {i rest o d} (hi:ops.toList[i]? = some o) (hw:Wo ops n L o) (hd:o.dst=some d) (hn:Nat.blt d n=true)
    (k:DL P n ops Q S rest ((d,undef)::L) w):DL P n ops Q S ((i,true)::rest) L w:=
  l3 hi hd hn (fun a ha => .inr ⟨hw a ha,rfl⟩) k
private theorem qd {i rest} (h:Region.noSelect ops=true→∀ a,Good n a L→S w→∀ (m:Nat) (listed:Array Bool) (fuel:Nat),m≤fuel→∀ av,heads ops.size (fN ops m) listed av ((i,false)::rest)=true →
      ∀ j∈av,wpOp P ops (lift n Q) j (fun a' w'=>(open_ (listed.setIfInBounds j true)→S w')∧wpG P ops (lift n Q) S fuel (listed.setIfInBounds j true) a' w') a w) :
    DL P n ops Q S ((i,false)::rest) L w:=fun hs a ha hS m listed fuel hf=>⟨fun hc=>by
  cases m with
  | zero=>simp [fN] at hc
  | succ m=>
    unfold fN at hc
    cases fuel with
    | zero=>simp at hf
    | succ fuel=>
      refine ⟨fun e=>?_,h hs a ha (hS σ) m listed fuel ω _ hc⟩
      rw [e] at hc
      simp [heads] at hc,h hs a ha (hS σ) m listed fuel hf⟩
private theorem lY {i rest o} (hi:ops.toList[i]? = some o)
    (h:S w→∀ a,Good n a L→∀ K:Act→World→Prop,(∀ a' w' L',Good n a' L'→DL P n ops Q S rest L' w'→(rest≠[]→S w')→K a' w') →
      if Region.wanted o (yielded ops a.tmps) then o.wp P a w K (lift n Q)∨(o.asks P a w∧LetsOut (lift n Q)) else K (a.put o.dst undef) w) :
    DL P n ops Q S ((i,false)::rest) L w:=qd fun hs a ha hSw m listed fuel hf av hh j hj=>by
  have hx:av=[i]∧fN ops m rest (listed.setIfInBounds i true)=true:=by
    unfold heads at hh
    split at hh
    · rename_i x i' p' r' e
      simp only [List.cons.injEq,Prod.mk.injEq] at e
      obtain ⟨⟨rfl,rfl⟩,rfl⟩:=e
      simp only [Bool.and_eq_true] at hh
      have hx:_=x:=Nat.eq_of_beq_eq_true hh.1.1.1
      subst hx
      exact ⟨rfl,hh.2⟩
    · rename_i k' p' r' e
      simp only [List.cons.injEq,Prod.mk.injEq] at e
      obtain ⟨⟨rfl,rfl⟩,rfl⟩:=e
      simp only [Bool.and_eq_true] at hh
      have hk:=Nat.le_of_ble_eq_true hh.1.1.2
      have hlt:i<ops.size:=by
        have h2:ops[i]? = some o:=by simpa using hi
        exact (Array.getElem?_eq_some_iff.1 h2).1
      omega
    · cases hh
  obtain ⟨rfl,h3⟩:=hx
  obtain rfl:j=i:=by simpa using hj
  unfold wpOp
  have hi':ops[j]? = some o:=by simpa using hi
  simp only [hi']
  refine h hSw a ha _ fun a' w' L' hg' hk hS'=>⟨fun ho=>?_,(hk hs _ hg' hS' m _ fuel hf).1 h3⟩
  cases rest with
  | nil=>exact absurd ho (lX h3).2
  | cons x r=>exact hS' σ
theorem pY {l l1 l2:List (Nat × Bool)}(hN:Nat.ble ops.size 1000=true) (e:l=(1000+l1.length,false)::(l1++l2)) (hl1:l1.isEmpty=false) (hl2:l2.isEmpty=false) (h1:DL P n ops Q S l1 L w) (h2:DL P n ops Q S l2 L w):DL P n ops Q S l L w:=by
  subst e
  refine qd fun hs a ha hSw m listed fuel hf av hh j hj=>?_
  have hN:=Nat.le_of_ble_eq_true hN
  unfold heads at hh
  split at hh
  · rename_i x i' p' r' e
    simp only [List.cons.injEq,Prod.mk.injEq] at e
    obtain ⟨⟨rfl,rfl⟩,rfl⟩:=e
    simp only [Bool.and_eq_true] at hh
    have:=Eq.mp Nat.blt_eq hh.1.2
    omega
  · rename_i x y t k' p' r' e
    simp only [List.cons.injEq,Prod.mk.injEq] at e
    obtain ⟨⟨rfl,rfl⟩,rfl⟩:=e
    rw [Nat.add_sub_cancel_left,List.take_left,List.drop_left] at hh
    simp only [Bool.and_eq_true] at hh
    obtain ⟨⟨_,h3⟩,h4⟩:=hh
    rcases List.mem_cons.1 hj with rfl | hj
    · cases l1 with
      | nil=>simp at hl1
      | cons hd r1=>
        obtain ⟨i,q⟩:=hd
        refine (h1 hs a ha (fun _=>hSw) m listed fuel hf).2 [j] ?_ j σ
        unfold heads
        exact h3
    · exact (h2 hs a ha (fun _=>hSw) m listed fuel hf).2 _ h4 j hj
  · cases hh
theorem iE {i rest o d v w'} (hi:ops.toList[i]? = some o) (hw:Wn ops n L o) (hd:o.dst=some d) (hn:Nat.blt d n=true) (hp:Pn P n L w o v w') (hS:S w→rest≠[]→S w')
    (k:DL P n ops Q S rest ((d,v)::L) w'):DL P n ops Q S ((i,false)::rest) L w:=lY hi fun hSw a ha K hK=>by
  rw [if_pos (hw a ha)]
  unfold Oper.wp
  rw [hp a ha,Oper.upon_value,hd]
  exact .inl (hK _ _ _ (ha.put hn) k (hS hSw))
theorem cP {i rest o d v} (hi:ops.toList[i]? = some o) (hw:Wn ops n L o) (hd:o.dst=some d) (hn:Nat.blt d n=true) (hp:Py P n L w o v)
    (k:DL P n ops Q S rest ((d,v)::L) w):DL P n ops Q S ((i,false)::rest) L w:=iE hi hw hd hn hp (fun h _=>h) k
theorem p1 {i rest o w'} (hi:ops.toList[i]? = some o) (hw:Wn ops n L o) (hd:o.dst=none) (hp:Pd P n L w o w') (hS:S w→rest≠[]→S w')
    (k:DL P n ops Q S rest L w'):DL P n ops Q S ((i,false)::rest) L w:=lY hi fun hSw a ha K hK=>by
  rw [if_pos (hw a ha)]
  unfold Oper.wp
  rw [hp a ha,Oper.upon_skip,hd]
  exact .inl (hK _ _ _ ha k (hS hSw))
theorem oW {i rest o d} (hi:ops.toList[i]? = some o) (hw:Wo ops n L o) (hd:o.dst=some d) (hn:Nat.blt d n=true)
    (k:DL P n ops Q S rest ((d,undef)::L) w):DL P n ops Q S ((i,false)::rest) L w:=lY hi fun hSw a ha K hK=>by
  rw [if_neg (by rw [hw a ha]; simp),hd]
  exact hK _ _ _ (ha.put hn) k (fun _=>hSw)
theorem bm {i rest o d f args R} (hi:ops.toList[i]? = some o) (hw:Wn ops n L o) (hd:o.dst=some d) (hn:Nat.blt d n=true) (hp:Pc P n L w o f args)
    (hc:Ret P f args w R) (hS:S w→∀ v w',R v w'→rest≠[]→S w') (k:∀ v w',R v w'→DL P n ops Q S rest ((d,v)::L) w'):DL P n ops Q S ((i,false)::rest) L w:=lY hi fun hSw a ha K hK=>by
  rw [if_pos (hw a ha)]
  unfold Oper.wp
  rw [hp a ha,Oper.upon_enter,hd]
  refine .inl (Calls.mono hc fun e w' ⟨v,he,hR⟩=>?_)
  subst he
  exact hK _ _ _ (ha.put hn) (k v w' hR) (hS hSw v w' hR)
theorem ly {l t b} (hb:look L t=some (.bool b)) (h1:b=true→DL P n ops Q S l ((t,.bool true)::L) w) (h2:b=false→DL P n ops Q S l ((t,.bool false)::L) w) :
    DL P n ops Q S l L w:=fun hs a ha=>by
  have hg:Good n a ((t,.bool b)::L):=⟨ha.size,ha.defers,fun u v hu=>by
    unfold look at hu
    split at hu
    · rename_i hb'
      have:t=u:=Nat.eq_of_beq_eq_true hb'
      cases hu; subst this; exact ha.cov _ _ hb
    · exact ha.cov u v hu⟩
  cases b
  · exact h2 rfl hs a hg
  · exact h1 rfl hs a hg
end
end Go.Wk
namespace Go.Wk
section
variable {P:Program}{n:Nat}{ops:Array Oper}{Q:Post}{L:Env}{w:World}{d:Tmp}{ty:TypeId}{p:String}{af:Array Edge}{op:Op}{v:Value}{S:World→Prop}{i:Nat}
theorem sV {rest:List Oper}(hn:Nat.blt d n=true) (hp:Py P n L w ⟨some d,op,ty,p,af,none⟩ v) (k:RL P n ops Q rest ((d,v)::L) w):RL P n ops Q (⟨some d,op,ty,p,af,none⟩::rest) L w:=au (wn rfl) rfl hn hp k
theorem dV {rest:List (Nat × Bool)}(hi:ops.toList[i]? = some ⟨some d,op,ty,p,af,none⟩) (hn:Nat.blt d n=true) (hp:∀ x,S x→Py P n L x ⟨some d,op,ty,p,af,none⟩ v) (k:DL P n ops Q S rest ((d,v)::L) w):DL P n ops Q S ((i,true)::rest) L w:=cZ hi (wn rfl) rfl hn hp k
theorem ab {id:Nat}{l:List Oper}{y:Code}(h:RL P n l.toArray (thn P n y Q) l L w):W P n (.seq (.region id l.toArray false) y) Q L w:=ah (ay h)
theorem sM {x:Operand}{rest:List Oper}(hn:Nat.blt d n=true) (h:evL L x=some v) (k:RL P n ops Q rest ((d,v)::L) w):RL P n ops Q (⟨some d,.move x,ty,p,af,none⟩::rest) L w:=sV hn (fun a ha=>by simp [execOp,ha.eval h]) k
theorem sA {x:Operand}{rest:List Oper}(hn:Nat.blt d n=true) (h:evL L x=some v) (k:RL P n ops Q rest ((d,v)::L) w):RL P n ops Q (⟨some d,.assign x,ty,p,af,none⟩::rest) L w:=sV hn (fun a ha=>by simp [execOp,ha.eval h]) k
theorem sZ {x:Operand}(hn:Nat.blt d n=true) (h:evL L x=some v) (k:Q .normal ((d,v)::L) w):RL P n ops Q [⟨some d,.assign x,ty,p,af,none⟩] L w:=sA hn h (aa k)
theorem dM {x:Operand}{rest:List (Nat × Bool)}(hi:ops.toList[i]? = some ⟨some d,.move x,ty,p,af,none⟩) (hn:Nat.blt d n=true) (h:evL L x=some v) (k:DL P n ops Q S rest ((d,v)::L) w):DL P n ops Q S ((i,true)::rest) L w:=dV hi hn (fun _ _ a ha=>by simp [execOp,ha.eval h]) k
theorem dKt {j t:Nat}{rest:List (Nat × Bool)}(hi:ops.toList[i]? = some ⟨some d,op,ty,p,af,some (j,false)⟩) (hd:dO ops j=some t) (hb:look L t=some (.bool true)) (hn:Nat.blt d n=true) (k:DL P n ops Q S rest ((d,undef)::L) w):DL P n ops Q S ((i,true)::rest) L w:=lC hi (wog (b:=true) rfl hd hb) rfl hn k
theorem dKf {j t:Nat}{rest:List (Nat × Bool)}(hi:ops.toList[i]? = some ⟨some d,op,ty,p,af,some (j,true)⟩) (hd:dO ops j=some t) (hb:look L t=some (.bool false)) (hn:Nat.blt d n=true) (k:DL P n ops Q S rest ((d,undef)::L) w):DL P n ops Q S ((i,true)::rest) L w:=lC hi (wog (b:=false) rfl hd hb) rfl hn k
theorem sKt {j t:Nat}{rest:List Oper}(hd:dO ops j=some t) (hb:look L t=some (.bool true)) (hn:Nat.blt d n=true) (k:RL P n ops Q rest ((d,undef)::L) w):RL P n ops Q (⟨some d,op,ty,p,af,some (j,false)⟩::rest) L w:=jH (wog (b:=true) rfl hd hb) rfl hn k
theorem sKf {j t:Nat}{rest:List Oper}(hd:dO ops j=some t) (hb:look L t=some (.bool false)) (hn:Nat.blt d n=true) (k:RL P n ops Q rest ((d,undef)::L) w):RL P n ops Q (⟨some d,op,ty,p,af,some (j,true)⟩::rest) L w:=jH (wog (b:=false) rfl hd hb) rfl hn k
theorem rT {fn:Func}{R:Value→World→Prop}{t:Nat}(hQ:∀ L w,fin P fn R .ret L w→Q .ret L w) (hr:fn.results = #[.tmp t]) (hv:look L t=some v) (h:R v w):W P n .ret Q L w:=bh (hQ _ _ (qv hr hv h))
theorem ae {o:Oper}(h:o.guard=none:=by exact rfl):Wn ops n L o:=wn h
abbrev NG (f:Func):Prop:=(f.name == "runtime.NumGoroutine")=false
theorem lNA {α:Type _}{xs:List α}:[]++xs=xs:=rfl
theorem lCA {α:Type _}{a:α}{xs ys:List α}:(a::xs)++ys=a::(xs++ys):=rfl
theorem lSZ {α:Type _}{a b:α}{xs:List α}:(a::xs).set 0 b=b::xs:=rfl
theorem lSS {α:Type _}{a b:α}{k:Nat}{xs:List α}:(a::xs).set (k+1) b=a::xs.set k b:=rfl
end
end Go.Wk
namespace Go.Wk
section
variable {P:Program}{n:Nat}{L:Env}{w:World}{d:Option Tmp}{ty:TypeId}{p:String}{af:Array Edge}{g:Option (Nat × Bool)}
theorem aW {x v} (hx:evL L x=some v):Py P n L w ⟨d,.move x,ty,p,af,g⟩ v:=fun a ha=>by simp [execOp,ha.eval hx]
theorem cv {x v} (hx:evL L x=some v):Py P n L w ⟨d,.assign x,ty,p,af,g⟩ v:=fun a ha=>by simp [execOp,ha.eval hx]
theorem bZ {c x y v} (hc:evL L c=some (.bool true)) (hx:evL L x=some v):Py P n L w ⟨d,.pick c x y,ty,p,af,g⟩ v:=fun a ha=>by
  simp [execOp,ha.eval hx,ha.eval hc,asBool]
theorem dQ {c x y v} (hc:evL L c=some (.bool false)) (hy:evL L y=some v):Py P n L w ⟨d,.pick c x y,ty,p,af,g⟩ v:=fun a ha=>by
  simp [execOp,ha.eval hy,ha.eval hc,asBool]
theorem bF {x b xt} (hx:evL L x=some (.bool b)):Py P n L w ⟨d,.unOp .not xt x,ty,p,af,g⟩ (.bool !b):=fun a ha=>by
  simp [execOp,ha.eval hx,Op.unary]
theorem jM {x xt q} [i:Decidable q] (hx:evL L x=some (.bool (@decide q i))):Py P n L w ⟨d,.unOp .not xt x,ty,p,af,g⟩ (.bool (decide (¬ q))):=fun a ha=>by
  simp [execOp,ha.eval hx,Op.unary]
section ints
variable {k:IntKind}{x y:Operand}{i j:Int}{xt yt:TypeId}
theorem aY (hx:evL L x=some (.int k i)) (hy:evL L y=some (.int k j)) (h:k.wrap (i+j)=i+j):Py P n L w ⟨d,.binOp .add xt x y yt,ty,p,af,g⟩ (.int k (i+j)):=fun a ha=>by
  simp [execOp,ha.eval hx,ha.eval hy,eqGuard,binOp,Op.intArith,h]
theorem cL (hx:evL L x=some (.int k i)) (hy:evL L y=some (.int k j)) (h:k.wrap (i-j)=i-j):Py P n L w ⟨d,.binOp .sub xt x y yt,ty,p,af,g⟩ (.int k (i-j)):=fun a ha=>by
  simp [execOp,ha.eval hx,ha.eval hy,eqGuard,binOp,Op.intArith,h]
theorem jO (hx:evL L x=some (.int k i)) (hy:evL L y=some (.int k j)) (h:k.wrap (i*j)=i*j):Py P n L w ⟨d,.binOp .mul xt x y yt,ty,p,af,g⟩ (.int k (i*j)):=fun a ha=>by
  simp [execOp,ha.eval hx,ha.eval hy,eqGuard,binOp,Op.intArith,h]
theorem p5 (hx:evL L x=some (.int k i)) (hy:evL L y=some (.int k j)) (h0:j≠0) (h:k.wrap (i.tdiv j)=i.tdiv j):Py P n L w ⟨d,.binOp .quo xt x y yt,ty,p,af,g⟩ (.int k (i.tdiv j)):=fun a ha=>by
  simp [execOp,ha.eval hx,ha.eval hy,eqGuard,binOp,Op.intDiv,h,h0]
theorem f8 (hx:evL L x=some (.int k i)) (hy:evL L y=some (.int k j)) (h0:j≠0):Py P n L w ⟨d,.binOp .rem xt x y yt,ty,p,af,g⟩ (.int k (i.tmod j)):=fun a ha=>by
  simp [execOp,ha.eval hx,ha.eval hy,eqGuard,binOp,Op.intDiv,h0]
theorem cV (hx:evL L x=some (.int k i)) (hy:evL L y=some (.int k j)):Py P n L w ⟨d,.binOp .eql xt x y yt,ty,p,af,g⟩ (.bool (decide (i=j))):=fun a ha=>by
  simp [execOp,ha.eval hx,ha.eval hy,eqGuard,binOp,Op.intCmp]
  rfl
theorem es (hx:evL L x=some (.int k i)) (hy:evL L y=some (.int k j)):Py P n L w ⟨d,.binOp .neq xt x y yt,ty,p,af,g⟩ (.bool (decide (i≠j))):=fun a ha=>by
  simp [execOp,ha.eval hx,ha.eval hy,eqGuard,binOp,Op.intCmp,bne,BEq.beq]
theorem bk (hx:evL L x=some (.int k i)) (hy:evL L y=some (.int k j)):Py P n L w ⟨d,.binOp .lss xt x y yt,ty,p,af,g⟩ (.bool (decide (i<j))):=fun a ha=>by
  simp [execOp,ha.eval hx,ha.eval hy,eqGuard,binOp,Op.intCmp]
theorem jT (hx:evL L x=some (.int k i)) (hy:evL L y=some (.int k j)):Py P n L w ⟨d,.binOp .leq xt x y yt,ty,p,af,g⟩ (.bool (decide (i≤j))):=fun a ha=>by
  simp [execOp,ha.eval hx,ha.eval hy,eqGuard,binOp,Op.intCmp]
theorem dg (hx:evL L x=some (.int k i)) (hy:evL L y=some (.int k j)):Py P n L w ⟨d,.binOp .gtr xt x y yt,ty,p,af,g⟩ (.bool (decide (j<i))):=fun a ha=>by
  simp [execOp,ha.eval hx,ha.eval hy,eqGuard,binOp,Op.intCmp]
theorem hC (hx:evL L x=some (.int k i)) (hy:evL L y=some (.int k j)):Py P n L w ⟨d,.binOp .geq xt x y yt,ty,p,af,g⟩ (.bool (decide (j≤i))):=fun a ha=>by
  simp [execOp,ha.eval hx,ha.eval hy,eqGuard,binOp,Op.intCmp]
theorem io {k2:IntKind}{src dst:TypeId}{td} (hs:P.underlying src=some td) (hd:P.underlying dst=some (.int k2)) (hx:evL L x=some (.int k i)) (h:k2.wrap i=i) :
    Py P n L w ⟨d,.convert src dst x,ty,p,af,g⟩ (.int k2 i):=fun a ha=>by
  simp [execOp,ha.eval hx,convert,run_underlying hs,run_underlying hd,Conv.intToInt,h]
theorem oH {k2:IntKind}{src dst:TypeId}{td} (hs:P.underlying src=some td) (hd:P.underlying dst=some (.int k2)) (hx:evL L x=some (.int k i)) :
    Py P n L w ⟨d,.convert src dst x,ty,p,af,g⟩ (.int k2 (k2.wrap i)):=fun a ha=>by
  simp [execOp,ha.eval hx,convert,run_underlying hs,run_underlying hd,Conv.intToInt]
end ints
section strs
variable {x y:Operand}{s t:ByteArray}{xt yt:TypeId}
theorem l6 (hx:evL L x=some (.string s)) (hy:evL L y=some (.string t)):Py P n L w ⟨d,.binOp .neq xt x y yt,ty,p,af,g⟩ (.bool (!(s.toList == t.toList))):=fun a ha=>by
  simp [execOp,ha.eval hx,ha.eval hy,eqGuard,binOp,Op.stringOp]
theorem eY {at0:TypeId}(hu:P.underlying at0=some .string) (hx:evL L x=some (.string s)) :
    Py P n L w ⟨d,.call ⟨.builtin .len,#[x],#[at0]⟩,ty,p,af,g⟩ (.int .i64 s.size):=fun a ha=>by
  simp [execOp,resolve,invoke,builtin,Builtin.len_,ha.eval hx,run_underlying hu,goInt]
def _root_.Go.Wk.gB (s:ByteArray) (k:Nat):UInt8:=if h:k<s.size then s[k] else 0
theorem cI {at0:TypeId}{ix:Operand}{kd:IntKind}{z:Int}(hu:P.underlying at0=some .string) (hx:evL L x=some (.string s)) (hi:evL L ix=some (.int kd z)) (k:Nat) (hz:z=k) (hk:k<s.size) :
    Py P n L w ⟨d,.index at0 x ix,ty,p,af,g⟩ (.int .u8 (gB s k).toNat):=fun a ha=>by
  subst hz
  have h0:(0:Int)≤(k:Int):=by omega
  have h2:s[k]? = some (s[k]'hk):=by simp [hk]
  have h3:gB s k=s[k]'hk:=by simp [gB,hk]
  simp [execOp,ha.eval hx,ha.eval hi,Instr.index,asIntOf,run_underlying hu,h2,h3]
end strs
section bools
variable {x y:Operand}{b c:Bool}{xt yt:TypeId}
end bools
theorem aN {at0:TypeId}{x:Operand}{e:TypeId}{ad:Option Addr}{len cap:Nat}(hu:P.underlying at0=some (.slice e)) (hx:evL L x=some (.slice ad len cap)) :
    Py P n L w ⟨d,.call ⟨.builtin .len,#[x],#[at0]⟩,ty,p,af,g⟩ (.int .i64 len):=fun a ha=>by
  simp [execOp,resolve,invoke,builtin,Builtin.len_,ha.eval hx,run_underlying hu,goInt]
theorem nX {at0:TypeId}{x:Operand}{e:TypeId}{ad:Option Addr}{len cap:Nat}(hu:P.underlying at0=some (.slice e)) (hx:evL L x=some (.slice ad len cap)) :
    Py P n L w ⟨d,.call ⟨.builtin .cap,#[x],#[at0]⟩,ty,p,af,g⟩ (.int .i64 cap):=fun a ha=>by
  simp [execOp,resolve,invoke,builtin,Builtin.cap_,ha.eval hx,run_underlying hu,goInt]
theorem dJ (b o m:Nat):(⟨b,o,none⟩:Addr).add m=⟨b,o+m,none⟩:=by
  unfold Addr.add; split<;>simp_all
theorem pK {st e:TypeId}{x ix:Operand}{b o len cap k sz:Nat}{kd:IntKind}(hu:P.underlying st=some (.slice e)) (hs:∀ w,(sizeOf e).run P w = .ok sz w)
    (hx:evL L x=some (.slice (some ⟨b,o,none⟩) len cap)) (hi:evL L ix=some (.int kd k)) (hk:k<len) :
    Py P n L w ⟨d,.indexAddr st x ix,ty,p,af,g⟩ (.pointer (some ⟨b,o+k*sz,none⟩)):=fun a ha=>by
  simp [execOp,ha.eval hx,ha.eval hi,Instr.indexAt,asIntOf,run_underlying hu,hs,hk,dJ]
theorem ao {s:TypeId}{fs:Array Field}{x:Operand}{b o i sz off:Nat}{f:Field}(hu:P.underlying s=some (.struct fs)) (hf:fs[i]? = some f) (hs:∀ w,(sizeOf f.type).run P w = .ok (sz+1) w)
    (hx:evL L x=some (.pointer (some ⟨b,o,none⟩))) (ho:o+f.offset=off):Py P n L w ⟨d,.fieldAddr s x i,ty,p,af,g⟩ (.pointer (some ⟨b,off,none⟩)):=fun a ha=>by
  subst ho
  simp [execOp,ha.eval hx,Instr.fieldAt,Instr.sureAddr,run_underlying hu,hf,fieldPlace,hs,dJ]
theorem ex {x:Operand}{ad:Addr}(hx:evL L x=some (.pointer (some ad))):Py P n L w ⟨d,.nilCheck x,ty,p,af,g⟩ (.pointer (some ad)):=fun a ha=>by
  simp [execOp,ha.eval hx]
theorem pc {x:Operand}{vs:Array Value}{i v} (hx:evL L x=some (.tuple vs)) (hv:vs[i]? = some v):Py P n L w ⟨d,.extract x i,ty,p,af,g⟩ v:=fun a ha=>by
  simp [execOp,ha.eval hx,Instr.extract,hv]
def single:TypeDesc→Bool
  | .struct _ | .array _ _=>false
  | _=>true
theorem fH {t td} (hu:P.underlying t=some td) (w:World):(isAgg t).run P w = .ok (!single td) w:=by
  cases td<;>simp [isAgg,run_underlying hu,single]
theorem mr {ad:Addr}{v} (hc:w.cell? ad=some v):(load ad).run P w = .ok v w:=by
  simp [load,Sem.run,hc]
theorem jP {t td} {ad:Addr}{v} (hu:P.underlying t=some td) (h1:single td=true) (hc:w.cell? ad=some v):(loadVar t ad).run P w = .ok v w:=by
  simp [loadVar,fH hu,h1,load,Sem.run,hc]
theorem aq {t td} {x:Operand}{ad:Addr}{v} (hu:P.underlying t=some td) (h1:single td=true) (hx:evL L x=some (.pointer (some ad))) (hc:w.cell? ad=some v) :
    Py P n L w ⟨d,.load t x,ty,p,af,g⟩ v:=fun a ha=>by
  simp [execOp,ha.eval hx,Instr.loadAt,Instr.sureAddr,jP hu h1 hc]
theorem fJ {b o:Nat}{c:Array Value}{T fr v} (hb:w.heap[b]? = some (.cells c T fr)) (hv:c[o]? = some v):w.cell? ⟨b,o,none⟩=some v:=by
  simp [World.cell?,hb,hv]
theorem az {b o:Nat}{cs:List Value}{T fr v} (hb:w.heap[b]? = some (.cells cs.toArray T fr)) (hv:cs[o]? = some v):w.cell? ⟨b,o,none⟩=some v:=
  fJ hb (by simpa using hv)
def At (w:World) (b o:Nat) (cs:List Value):Prop:=∀ j v,cs[j]? = some v→w.cell? ⟨b,o+j,none⟩=some v
theorem du:∀ (cs:List Value) (b o i:Nat) (acc:Array Value),At w b (o+i) cs→(loadCellsFrom ⟨b,o,none⟩ i cs.length acc).run P w = .ok (acc++cs.toArray) w
  | [],b,o,i,acc,_=>by simp [loadCellsFrom]
  | v::cs,b,o,i,acc,h=>by
    have h0:w.cell? ⟨b,o+i,none⟩=some v:=by simpa using h 0 v rfl
    have ih:=du cs b o (i+1) (acc.push v) (fun j u hj=>by
      have:=h (j+1) u (by simpa using hj)
      rwa [show o+(i+1)+j=o+i+(j+1) from by omega])
    simp [loadCellsFrom,dJ,mr h0,ih]
theorem ar {t td} {b o:Nat}{cs:List Value}{sz} (hu:P.underlying t=some td) (h1:single td=false) (hs:∀ w,(sizeOf t).run P w = .ok sz w) (hl:cs.length=sz) (hc:At w b o cs) :
    (loadVar t ⟨b,o,none⟩).run P w = .ok (.agg cs.toArray) w:=by
  have:=du (P:=P) cs b o 0 #[] (by simpa using hc)
  subst hl
  simp [loadVar,fH hu,h1,hs,loadCells,this]
theorem ai {t td} {x:Operand}{b o:Nat}{cs:List Value}{sz} (hu:P.underlying t=some td) (h1:single td=false) (hs:∀ w,(sizeOf t).run P w = .ok sz w) (hx:evL L x=some (.pointer (some ⟨b,o,none⟩)))
    (hl:cs.length=sz) (hc:At w b o cs):Py P n L w ⟨d,.load t x,ty,p,af,g⟩ (.agg cs.toArray):=fun a ha=>by
  simp [execOp,ha.eval hx,Instr.loadAt,Instr.sureAddr,ar hu h1 hs hl hc]
theorem At.whole {b:Nat}{cs:List Value}{T fr} (hb:w.heap[b]? = some (.cells cs.toArray T fr)):At w b 0 cs:=fun j v hj=>
  fJ hb (by simpa using hj)
theorem At.sub {b o:Nat}{cs:List Value}{T fr} (hb:w.heap[b]? = some (.cells cs.toArray T fr)) (m:Nat):At w b o ((cs.drop o).take m):=fun j v hj=>by
  refine az hb ?_
  rw [List.getElem?_take] at hj
  split at hj
  · rwa [List.getElem?_drop] at hj
  · cases hj
theorem At.part {b o:Nat}{c:Array Value}{T fr} {cs:List Value}(hb:w.heap[b]? = some (.cells c T fr)) (h:∀ j v,cs[j]? = some v→c[o+j]? = some v):At w b o cs:=fun j v hj=>
  fJ hb (h j v hj)
theorem jC {ad:Addr}{v u:Value}(h1:v.oneCell'=true) (hc:w.cell? ad=some u) (hf:w.frozen? ad=false):(store ad v).run P w = .ok () (w.setCell ad v):=by
  cases v<;>first | (simp [Value.oneCell'] at h1; done) | simp [store,Sem.run,hc,hf]
theorem jx {b o:Nat}{c:Array Value}{T} (hb:w.heap[b]? = some (.cells c T (0,0))):w.frozen? ⟨b,o,none⟩=false:=by
  simp [World.frozen?,hb]
theorem kA {v:Value}(h1:v.oneCell'=true):v.cells = #[v]:=by
  cases v<;>first | rfl | (simp [Value.oneCell'] at h1; done)
def put (w:World) (b:Nat) (o:Obj):World:={ w with heap:=w.heap.setIfInBounds b o }
theorem hU {b o:Nat}{c:Array Value}{T fr v} (hb:w.heap[b]? = some (.cells c T fr)):w.setCell ⟨b,o,none⟩ v=put w b (.cells (c.setIfInBounds o v) T fr):=by
  have hlt:=(Array.getElem?_eq_some_iff.1 hb).1
  simp only [World.setCell,put]
  congr 1
  apply Array.ext σ
  intro i h1 h2
  have hi:i<w.heap.size:=by simpa using h1
  have hbv:=(Array.getElem?_eq_some_iff.1 hb).2
  rw [Array.getElem_modify,Array.getElem_setIfInBounds (by simpa using hi)]
  by_cases hbi:b=i
  · subst hbi; simp [hbv]
  · simp [hbi]
theorem iS {t} {x y:Operand}{b o:Nat}{c:Array Value}{T v} (hs:∀ w,(sizeOf t).run P w = .ok 1 w) (hx:evL L x=some (.pointer (some ⟨b,o,none⟩))) (hy:evL L y=some v) (h1:v.oneCell'=true)
    (hb:w.heap[b]? = some (.cells c T (0,0))) (ho:o<c.size):Pd P n L w ⟨d,.store t x y,ty,p,af,g⟩ (put w b (.cells (c.setIfInBounds o v) T (0,0))):=fun a ha=>by
  have hst:=jC (P:=P) (v:=v) h1 (fJ hb (o:=o) (Array.getElem?_eq_getElem ho)) (jx hb)
  rw [hU hb] at hst
  simp [execOp,ha.eval hx,ha.eval hy,Instr.storeAt,Instr.sureAddr,storeVar,kA h1,hs,storeCells,dJ,hst]
theorem eS {b:Nat}{o o':Obj}(hb:w.heap[b]? = some o'):(put w b o).heap[b]? = some o:=by
  have hlt:=(Array.getElem?_eq_some_iff.1 hb).1
  simp [put,hlt]
theorem nj {b:Nat}{o:Obj}(hb:w.heap[b]? = some o):put w b o=w:=by
  have hv:=(Array.getElem?_eq_some_iff.1 hb).2
  have:w.heap.setIfInBounds b o=w.heap:=by
    apply Array.ext σ
    intro i h1 h2
    rw [Array.getElem_setIfInBounds (by simpa using h2)]
    split
    · rename_i e; subst e; exact hv.symm
    · rfl
  simp [put,this]
theorem pi {b:Nat}{o o':Obj}:put (put w b o) b o'=put w b o':=by simp [put]
def lay (c:Array Value) (o:Nat):List Value→Array Value
  | []=>c
  | v::vs=>lay (c.setIfInBounds o v) (o+1) vs
theorem gD:∀ (vs:List Value) (c:Array Value) (o:Nat),(lay c o vs).size=c.size
  | [],_,_=>rfl
  | v::vs,c,o=>by simp [lay,gD vs]
theorem dy {b:Nat}{T}:∀ (vs:List Value) (w:World) (o i:Nat) (c:Array Value),w.heap[b]? = some (.cells c T (0,0))→(∀ v∈vs,v.oneCell'=true)→o+i+vs.length≤c.size →
    (storeCells ⟨b,o,none⟩ vs i).run P w = .ok () (put w b (.cells (lay c (o+i) vs) T (0,0)))
  | [],w,o,i,c,hb,_,_=>by
    have:put w b (.cells (lay c (o+i) []) T (0,0))=w:=nj hb
    simp [storeCells,this]
  | v::vs,w,o,i,c,hb,h1,hl=>by
    have hst:=jC (P:=P) (v:=v) (h1 v σ) (fJ hb (o:=o+i) (Array.getElem?_eq_getElem (by simp at hl; omega))) (jx hb)
    rw [hU hb] at hst
    have ih:=dy vs (put w b (.cells (c.setIfInBounds (o+i) v) T (0,0))) o (i+1) (c.setIfInBounds (o+i) v) (eS hb) (fun u hu=>h1 u (by simp [hu])) (by simp at hl ⊢; omega)
    rw [pi] at ih
    simp [storeCells,dJ,hst,ih,lay,Nat.add_assoc]
theorem gW {t} {x y:Operand}{b o:Nat}{c:Array Value}{T} {vs:List Value}{sz} (hs:∀ w,(sizeOf t).run P w = .ok sz w) (hx:evL L x=some (.pointer (some ⟨b,o,none⟩))) (hy:evL L y=some (.agg vs.toArray))
    (hl:vs.length=sz) (h1:∀ v∈vs,v.oneCell'=true) (hb:w.heap[b]? = some (.cells c T (0,0))) (ho:o+sz≤c.size) :
    Pd P n L w ⟨d,.store t x y,ty,p,af,g⟩ (put w b (.cells (lay c o vs) T (0,0))):=fun a ha=>by
  subst hl
  have hst:=dy (P:=P) vs w o 0 c hb h1 (by simpa using ho)
  simp [execOp,ha.eval hx,ha.eval hy,Instr.storeAt,Instr.sureAddr,storeVar,Value.cells,hs,hst]
theorem p3 {t} {x:Operand}{v} (hx:evL L x=some v):Pn P n L w ⟨d,.box t x,ty,p,af,g⟩ (.pointer (some ⟨w.heap.size,0,none⟩)) (w.alloc (.cells v.cells t)):=fun a ha=>by
  simp [execOp,ha.eval hx,Instr.box,newVar,newRow,newObj]
  rfl
theorem kX {t} {z:Value}(hz:∀ w,(zeroValue t).run P w = .ok z w):Pn P n L w ⟨d,.alloc t,ty,p,af,g⟩ (.pointer (some ⟨w.heap.size,0,none⟩)) (w.alloc (.cells z.cells t)):=fun a ha=>by
  simp [execOp,Instr.alloc,newVar,newRow,newObj,hz]
  rfl
def di (L:Env):List Operand→Option (List Value)
  | []=>some []
  | x::xs=>match evL L x,di L xs with
    | some v,some vs=>some (v::vs)
    | _,_=>none
theorem aG {f:FuncId}{fn:Func}{xs:Array Operand}{ats:Array TypeId}{vs:List Value}(hf:P.funcs[f]? = some fn) (hb:fn.body.isNone=false) (hnm:(fn.name == "runtime.NumGoroutine")=false)
    (hv:di L xs.toList=some vs):Pc P n L w ⟨d,.call ⟨.value (.func f),xs,ats⟩,ty,p,af,g⟩ f vs.toArray:=fun a ha=>by
  have hm:xs.map a.eval=vs.toArray:=by
    have key:∀ (l:List Operand) (vs:List Value),di L l=some vs→l.map a.eval=vs:=by
      intro l
      induction l with
      | nil=>intro vs h; simp [di] at h; simp [h]
      | cons x l ih=>
        intro vs h
        unfold di at h
        split at h
        · rename_i v us hv hus
          cases h
          simp [ha.eval hv,ih us hus]
        · cases h
    have:=key _ _ hv
    apply Array.toList_inj.1
    simpa using this
  have hb':¬ fn.body=none:=fun e=>by rw [e] at hb; simp at hb
  have hnm':¬ fn.name = "runtime.NumGoroutine" := fun e=>by rw [e] at hnm; simp at hnm
  simp [execOp,resolve,Deferred.ofValue,invoke,callFunc,hf,hb',hnm',hm,Act.eval]
end
end Go.Wk
namespace Go.Wk
structure Ext (M:Nat→Prop) (w w':World):Prop where
  os:w'.os=w.os
  tape:w'.tape=w.tape
  output:w'.output=w.output
  size:w.heap.size≤w'.heap.size
  block:∀ b,b<w.heap.size→¬ M b→w'.heap[b]? = w.heap[b]?
def No:Nat→Prop:=fun _=>False
theorem Ext.refl {M w}:Ext M w w:=⟨rfl,rfl,rfl,Nat.le_refl _,fun _ _ _=>rfl⟩
theorem Ext.drawn {M w w'} (h:Ext M w w') (k:Nat):Ext M w { w' with drawn:=k }:=⟨h.os,h.tape,h.output,h.size,h.block⟩
theorem Ext.trans {M w w1 w2} (h:Ext M w w1) (k:Ext M w1 w2):Ext M w w2:=
  ⟨k.os.trans h.os,k.tape.trans h.tape,k.output.trans h.output,Nat.le_trans h.size k.size,fun b hb hm=>(k.block b (Nat.lt_of_lt_of_le hb h.size) hm).trans (h.block b hb hm)⟩
theorem Ext.mono {M M':Nat→Prop}{w w'} (h:Ext M w w') (hm:∀ b,b<w.heap.size→M b→M' b):Ext M' w w':=⟨h.os,h.tape,h.output,h.size,fun b hb hn=>h.block b hb fun h'=>hn (hm b hb h')⟩
theorem Ext.no {M w w'} (h:Ext No w w'):Ext M w w':=h.mono fun _ _ h=>h.elim
theorem Ext.step {M M':Nat→Prop}{w w1 w2} (h:Ext M w w1) (k:Ext M' w1 w2) (hm:∀ b,M' b→M b∨w.heap.size≤b):Ext M w w2:=
  ⟨k.os.trans h.os,k.tape.trans h.tape,k.output.trans h.output,Nat.le_trans h.size k.size,fun b hb hn=>
    (k.block b (Nat.lt_of_lt_of_le hb h.size) fun h'=>by rcases hm b h' with h' | h'; exact hn h'; omega).trans (h.block b hb hn)⟩
theorem Ext.alloc {M w w'} (h:Ext M w w') (o:Obj):Ext M w (w'.alloc o):=
  h.trans ⟨rfl,rfl,rfl,σ,fun _ hk _=>heap_alloc_old w' o hk⟩
theorem Ext.put {M w w' b o} (h:Ext M w w') (hb:M b∨w.heap.size≤b):Ext M w (put w' b o):=
  h.step (M':=(· = b)) ⟨rfl,rfl,rfl,by simp [Wk.put],fun k _ hm=>by
    simp only [Wk.put]; rw [Array.getElem?_setIfInBounds_ne (fun e=>hm e.symm)]⟩ (fun k hk=>by subst hk; exact hb)
theorem Ext.heap {w w':World}(h:Ext No w w') {b:Nat}{o:Obj}(hb:w.heap[b]? = some o):w'.heap[b]? = some o:=
  (h.block b (Array.getElem?_eq_some_iff.1 hb).1 (fun h=>h)).trans hb
theorem Ext.heapM {M} {w w':World}(h:Ext M w w') {b:Nat}{o:Obj}(hm:¬ M b) (hb:w.heap[b]? = some o):w'.heap[b]? = some o:=
  (h.block b (Array.getElem?_eq_some_iff.1 hb).1 hm).trans hb
theorem Ext.cell {w w':World}(h:Ext No w w') {ad:Addr}{v:Value}(hc:w.cell? ad=some v):w'.cell? ad=some v:=
  (World.cell?_of_block (h.block ad.block (World.block_lt_of_cell? w ad hc) (fun h=>h))).trans hc
theorem Ext.at {w w':World}(h:Ext No w w') {b o:Nat}{cs:List Value}(hc:At w b o cs):At w' b o cs:=fun j v hj=>h.cell (hc j v hj)
class Rp (α:Type) where
  sz:Nat
  pos:0<sz
  own:Bool→World→List Value→α→List Nat→Prop
  len:∀ {s w cs x fp},own s w cs x fp→cs.length=sz
  one:∀ {s w cs x fp},own s w cs x fp→∀ v∈cs,v.oneCell'=true
  st:∀ {s w w' cs x fp},own s w cs x fp→(∀ b∈fp,w'.heap[b]? = w.heap[b]?)→own s w' cs x fp
  lt:∀ {s w cs x fp},own s w cs x fp→∀ b∈fp,b<w.heap.size
  weak:∀ {w cs x fp},own true w cs x fp→own false w cs x fp
open Rp (sz own)
def I64ok (x:Int):Prop := -9223372036854775808≤x∧x≤9223372036854775807
instance:Rp Int where
  sz:=1
  pos:=by decide
  own _ _ cs x fp:=cs=[.int .i64 x]∧fp=[]∧I64ok x
  len h:=by rw [h.1]; rfl
  one h v hv:=by rw [h.1] at hv; simp at hv; subst hv; rfl
  st h _:=h
  lt h b hb:=by rw [h.2.1] at hb; simp at hb
  weak h:=h
instance:Rp UInt8 where
  sz:=1
  pos:=by decide
  own _ _ cs x fp:=cs=[.int .u8 x.toNat]∧fp=[]
  len h:=by rw [h.1]; rfl
  one h v hv:=by rw [h.1] at hv; simp at hv; subst hv; rfl
  st h _:=h
  lt h b hb:=by rw [h.2] at hb; simp at hb
  weak h:=h
instance:Rp Bool where
  sz:=1
  pos:=by decide
  own _ _ cs x fp:=cs=[.bool x]∧fp=[]
  len h:=by rw [h.1]; rfl
  one h v hv:=by rw [h.1] at hv; simp at hv; subst hv; rfl
  st h _:=h
  lt h b hb:=by rw [h.2] at hb; simp at hb
  weak h:=h
structure Str where
  b:ByteArray
instance:Rp Str where
  sz:=1
  pos:=by decide
  own _ _ cs x fp:=cs=[.string x.b]∧fp=[]∧x.b.size≤maxLen
  len h:=by rw [h.1]; rfl
  one h v hv:=by rw [h.1] at hv; simp at hv; subst hv; rfl
  st h _:=h
  lt h b hb:=by rw [h.2.1] at hb; simp at hb
  weak h:=h
def bC {α:Type}[Rp α] (s:Bool) (w:World):List Value→List α→List Nat→Prop
  | _,[],fp=>fp=[]
  | cs,x::xs,fp=>∃ f1 f2,fp=f1++f2∧own s w (cs.take (sz α)) x f1∧bC s w (cs.drop (sz α)) xs f2
section
variable {α:Type}[Rp α]
theorem bC.st {s w w'}:∀ {xs:List α}{cs fp},bC s w cs xs fp→(∀ b∈fp,w'.heap[b]? = w.heap[b]?)→bC s w' cs xs fp
  | [],_,_,h,_=>h
  | x::xs,cs,fp,⟨f1,f2,e,h1,h2⟩,hb=>by
    subst e
    exact ⟨f1,f2,rfl,Rp.st h1 fun b hb'=>hb b (by simp [hb']),bC.st h2 fun b hb'=>hb b (by simp [hb'])⟩
theorem bC.lt {s w}:∀ {xs:List α}{cs fp},bC s w cs xs fp→∀ b∈fp,b<w.heap.size
  | [],_,_,h,b,hb=>by rw [show _=_ from h] at hb; simp at hb
  | x::xs,cs,fp,⟨f1,f2,e,h1,h2⟩,b,hb=>by
    subst e
    rcases List.mem_append.1 hb with hb | hb
    · exact Rp.lt h1 b hb
    · exact bC.lt h2 b hb
theorem bC.weak {w}:∀ {xs:List α}{cs fp},bC true w cs xs fp→bC false w cs xs fp
  | [],_,_,h=>h
  | _::_,_,_,⟨f1,f2,e,h1,h2⟩=>⟨f1,f2,e,Rp.weak h1,bC.weak h2⟩
theorem bC.cells {s w}:∀ {xs:List α}{cs fp},bC s w cs xs fp→xs.length*sz α≤cs.length
  | [],_,_,_=>by simp
  | _::_,_,_,⟨_,_,_,h1,h2⟩=>by
    have:=bC.cells h2
    have h3:=Rp.len h1
    simp only [List.length_take,List.length_drop,List.length_cons] at *
    rw [Nat.add_mul]
    omega
theorem bC.get {s w}:∀ {xs:List α}{cs fp},bC s w cs xs fp→∀ k (h:k<xs.length),∃ f,own s w ((cs.drop (k*sz α)).take (sz α)) xs[k] f∧(∀ b∈f,b∈fp)
  | [],_,_,_,k,h=>by simp at h
  | x::xs,cs,fp,⟨f1,f2,e,h1,h2⟩,0,_=>⟨f1,by simpa using h1,fun b hb=>by subst e; simp [hb]⟩
  | x::xs,cs,fp,⟨f1,f2,e,h1,h2⟩,k+1,h=>by
    obtain ⟨f,hf,hs⟩:=bC.get h2 k (by simpa using h)
    refine ⟨f,?_,fun b hb=>by subst e; simp [hs b hb]⟩
    rw [List.drop_drop] at hf
    rw [Nat.add_mul,Nat.one_mul,Nat.add_comm]
    simpa using hf
theorem bC.congr {s w}:∀ {xs:List α}{cs cs' fp},bC s w cs xs fp→cs'.take (xs.length*sz α)=cs.take (xs.length*sz α)→bC s w cs' xs fp
  | [],_,_,_,h,_=>h
  | x::xs,cs,cs',fp,⟨f1,f2,e,h1,h2⟩,hc=>by
    have hle:sz α≤(x::xs).length*sz α:=by rw [List.length_cons,Nat.add_mul]; omega
    have ht:cs'.take (sz α)=cs.take (sz α):=by
      have:=congrArg (List.take (sz α)) hc
      rwa [List.take_take,List.take_take,Nat.min_eq_left hle] at this
    refine ⟨f1,f2,e,by rw [ht]; exact h1,bC.congr h2 ?_⟩
    have:=congrArg (List.drop (sz α)) hc
    rw [List.drop_take,List.drop_take] at this
    rwa [show (x::xs).length*sz α-sz α=xs.length*sz α from by rw [List.length_cons,Nat.add_mul]; omega] at this
def qH (s:Bool) (w:World) (cs:List Value) (xs:List α) (fp:List Nat):Prop:=
  (s=false∧∃ ad cap,cs=[.slice ad 0 cap]∧xs=[]∧fp=[])∨(cs=[.slice none 0 0]∧xs=[]∧fp=[]) ∨
  ∃ b o cap cur T fr fs,cs=[.slice (some ⟨b,o,none⟩) xs.length cap]∧fp=b::fs∧w.heap[b]? = some (.cells cur T fr)∧(s=true→fr=(0,0)) ∧
    xs.length≤cap∧cap≤maxLen∧o+cap*sz α≤cur.size∧bC s w (cur.toList.drop o) xs fs
instance:Rp (List α) where
  sz:=1
  pos:=by decide
  own s w cs xs fp:=qH s w cs xs fp
  len h:=by rcases h with ⟨_,_,_,rfl,_⟩ | ⟨rfl,_⟩ | ⟨_,_,_,_,_,_,_,rfl,_⟩<;>rfl
  one h v hv:=by rcases h with ⟨_,_,_,rfl,_⟩ | ⟨rfl,_⟩ | ⟨_,_,_,_,_,_,_,rfl,_⟩<;>simp at hv<;>subst hv<;>rfl
  st h hb:=by
    rcases h with h | h | ⟨b,o,cap,cur,T,fr,fs,h1,h2,h3,h4,h5,h6,h7,h8⟩
    · exact .inl h
    · exact .inr (.inl h)
    · subst h2
      exact .inr (.inr ⟨b,o,cap,cur,T,fr,fs,h1,rfl,(hb b σ).trans h3,h4,h5,h6,h7,h8.st fun x hx=>hb x (by simp [hx])⟩)
  lt h b' hb':=by
    rcases h with ⟨_,_,_,_,_,rfl⟩ | ⟨_,_,rfl⟩ | ⟨b,o,cap,cur,T,fr,fs,h1,h2,h3,h4,h5,h6,h7,h8⟩
    · simp at hb'
    · simp at hb'
    · subst h2
      rcases List.mem_cons.1 hb' with rfl | hb'
      · exact (Array.getElem?_eq_some_iff.1 h3).1
      · exact h8.lt _ hb'
  weak h:=by
    rcases h with ⟨h,_⟩ | h | ⟨b,o,cap,cur,T,fr,fs,h1,h2,h3,h4,h5,h6,h7,h8⟩
    · cases h
    · exact .inr (.inl h)
    · exact .inr (.inr ⟨b,o,cap,cur,T,fr,fs,h1,h2,h3,(fun h=>by cases h),h5,h6,h7,h8.weak⟩)
theorem aD {s w cs} {xs:List α}{fp} (h:own s w cs xs fp):∃ ad cap,cs=[.slice ad xs.length cap]:=by
  rcases h with ⟨_,ad,cap,rfl,rfl,_⟩ | ⟨rfl,rfl,_⟩ | ⟨b,o,cap,_,_,_,_,rfl,_⟩
  · exact ⟨_,_,rfl⟩
  · exact ⟨_,_,rfl⟩
  · exact ⟨_,_,rfl⟩
theorem dS {s w ad n cap} {xs:List α}{fp} (h:own s w [.slice ad n cap] xs fp) (k:Nat) (hk:k<xs.length) :
    ∃ b o cs f,ad=some ⟨b,o,none⟩∧At w b (o+k*sz α) cs∧own s w cs xs[k] f∧(∀ b∈f,b∈fp)∧b∈fp:=by
  rcases h with ⟨_,_,_,_,rfl,_⟩ | ⟨_,rfl,_⟩ | ⟨b,o,cap',cur,T,fr,fs,h1,h2,h3,h4,h5,h6,h7,h8⟩
  · simp at hk
  · simp at hk
  · simp only [List.cons.injEq,Value.slice.injEq,and_true] at h1
    obtain ⟨h1,_,_⟩:=h1
    subst h1; subst h2
    obtain ⟨f,hf,hs⟩:=h8.get k hk
    refine ⟨b,o,_,f,rfl,?_,hf,fun b hb=>by simp [hs b hb],σ⟩
    refine At.part h3 fun j v hj=>?_
    rw [List.getElem?_take] at hj
    split at hj
    · rw [List.getElem?_drop,List.getElem?_drop] at hj
      rw [← hj,Nat.add_assoc]
      simp
    · cases hj
theorem ja {s w ad n cap} {xs:List α}{fp} (h:own s w [.slice ad n cap] xs fp):xs.length≤maxLen:=by
  rcases h with ⟨_,_,_,_,rfl,_⟩ | ⟨_,rfl,_⟩ | ⟨b,o,cap',cur,T,fr,fs,h1,h2,h3,h4,h5,h6,h7,h8⟩
  · simp
  · simp
  · omega
end
theorem dt {s w cs} {x:Int}{fp} (h:own s w cs x fp):cs=[.int .i64 x]∧fp=[]∧I64ok x:=h
theorem ic {s w ad n cap} {xs:List UInt8}{fp} (h:own s w [.slice ad n cap] xs fp) (k:Nat) (hk:k<xs.length) :
    ∃ b o,ad=some ⟨b,o,none⟩∧w.cell? ⟨b,o+k*1,none⟩=some (.int .u8 (xs.getD k 0).toNat):=by
  obtain ⟨b,o,cs,f,h1,h2,h3,_⟩:=dS h k hk
  rw [show xs.getD k 0=xs[k] from by simp [List.getD,hk]]
  exact ⟨b,o,h1,h2 0 (.int .u8 (xs[k]).toNat) (by rw [h3.1]; rfl)⟩
theorem kp {s w ad n cap} {xs:List Int}{fp} (h:own s w [.slice ad n cap] xs fp) (k:Nat) (hk:k<xs.length) :
    ∃ b o,ad=some ⟨b,o,none⟩∧w.cell? ⟨b,o+k*1,none⟩=some (.int .i64 (xs.getD k 0)):=by
  obtain ⟨b,o,cs,f,h1,h2,h3,_⟩:=dS h k hk
  rw [show xs.getD k 0=xs[k] from by simp [List.getD,hk]]
  exact ⟨b,o,h1,h2 0 (.int .i64 xs[k]) (by rw [h3.1]; rfl)⟩
section
variable {P:Program}{n:Nat}{L:Env}{w:World}{d:Option Tmp}{ty:TypeId}{p:String}{af:Array Edge}{g:Option (Nat × Bool)}
theorem aQ {st e:TypeId}{x ix:Operand}{ad:Option Addr}{b o len cap sz:Nat}{kd:IntKind}{z:Int}(hu:P.underlying st=some (.slice e)) (hs:∀ w,(sizeOf e).run P w = .ok sz w)
    (hx:evL L x=some (.slice ad len cap)) (hi:evL L ix=some (.int kd z)) (had:ad=some ⟨b,o,none⟩) (k:Nat) (hz:z=k) (hk:k<len) :
    Py P n L w ⟨d,.indexAddr st x ix,ty,p,af,g⟩ (.pointer (some ⟨b,o+k*sz,none⟩)):=by
  subst had; subst hz; exact pK hu hs hx hi hk
end
end Go.Wk
namespace Go.Wk
open Rp (sz own)
structure Rsc where
  fp:List Nat
  φ:World→Prop
  st:∀ {w w':World},φ w→(∀ b∈fp,w'.heap[b]? = w.heap[b]?)→φ w'
  lt:∀ {w:World},φ w→∀ b∈fp,b<w.heap.size
def box (b:Nat) (o:Obj):Rsc:=⟨[b],fun w=>w.heap[b]? = some o,fun h k=>(k b σ).trans h,fun h x hx=>by
  simp at hx; subst hx; exact (Array.getElem?_eq_some_iff.1 h).1⟩
def mine {α:Type}[Rp α] (cs:List Value) (x:α) (fp:List Nat):Rsc:=⟨fp,fun w=>own true w cs x fp,fun h k=>Rp.st h k,fun h=>Rp.lt h⟩
def seen {α:Type}[Rp α] (s:Bool) (cs:List Value) (x:α) (fp:List Nat):Rsc:=⟨fp,fun w=>own s w cs x fp,fun h k=>Rp.st h k,fun h=>Rp.lt h⟩
def blocks:List Rsc→List Nat
  | []=>[]
  | r::Δ=>r.fp++blocks Δ
theorem aZ {b:Nat}:∀ {Δ:List Rsc},b∈blocks Δ↔∃ r∈Δ,b∈r.fp
  | []=>by simp [blocks]
  | r::Δ=>by simp [blocks,aZ (Δ:=Δ)]
theorem cb:∀ (Δ Γ:List Rsc),blocks (Δ++Γ)=blocks Δ++blocks Γ
  | [],_=>rfl
  | r::Δ,Γ=>by simp [blocks,cb Δ Γ]
structure Sep (M:Nat→Prop) (w0:World) (Δ F:List Rsc) (w:World):Prop where
  ext:Ext M w0 w
  rs:∀ r∈Δ,r.φ w
  nd:(blocks Δ).Nodup
  new:∀ b∈blocks Δ,M b∨w0.heap.size≤b
  fs:∀ r∈F,r.φ w
  ap:∀ r∈F,∀ b∈r.fp,b ∉ blocks Δ
section
variable {M:Nat→Prop}{w0 w w':World}{Δ F Γ:List Rsc}
theorem Sep.start {w:World}{F:List Rsc}(hf:∀ r∈F,r.φ w):Sep No w [] F w:=
  ⟨Ext.refl,σ,by simp [blocks],by simp [blocks],hf,by simp [blocks]⟩
theorem Sep.lt (h:Sep M w0 Δ F w):∀ b∈blocks Δ,b<w.heap.size:=fun b hb=>by
  obtain ⟨r,hr,hb⟩:=aZ.1 hb
  exact r.lt (h.rs r hr) b hb
theorem Sep.r (h:Sep M w0 Δ F w) (i:Nat) {r:Rsc}(hi:Δ[i]? = some r):r.φ w:=h.rs r (List.mem_of_getElem? hi)
theorem Sep.box (h:Sep M w0 Δ F w) (i:Nat) {b o} (hi:Δ[i]? = some (box b o)):w.heap[b]? = some o:=h.r i hi
theorem Sep.mine {α:Type}[Rp α] (h:Sep M w0 Δ F w) (i:Nat) {cs fp} {x:α}(hi:Δ[i]? = some (mine cs x fp)):own true w cs x fp:=h.r i hi
theorem Sep.seen {α:Type}[Rp α] (h:Sep M w0 Δ F w) (i:Nat) {s cs fp} {x:α}(hi:F[i]? = some (seen s cs x fp)):own s w cs x fp:=h.fs _ (List.mem_of_getElem? hi)
theorem Sep.to (h:Sep M w0 Δ F w) (e:Ext No w w'):Sep M w0 Δ F w':=
  ⟨h.ext.trans e.no,fun r hr=>r.st (h.rs r hr) fun b hb=>e.block b (r.lt (h.rs r hr) b hb) id,h.nd,h.new,
    fun r hr=>r.st (h.fs r hr) fun b hb=>e.block b (r.lt (h.fs r hr) b hb) id,h.ap⟩
theorem Sep.drawn (h:Sep M w0 Δ F w) (k:Nat):Sep M w0 Δ F { w with drawn:=k }:=h.to (Ext.refl.drawn k)
theorem gM {Δ Γ:List Rsc}(hs:Γ.Sublist Δ) (h:(blocks Δ).Nodup):(blocks Γ).Nodup:=by
  have:(blocks Γ).Sublist (blocks Δ):=by
    induction hs with
    | slnil=>exact .slnil
    | cons r _ ih=>exact (ih (by unfold blocks at h; exact (List.nodup_append.1 h).2.1)).trans (List.sublist_append_right _ _)
    | cons_cons r _ ih=>exact List.Sublist.append (.refl _) (ih (by unfold blocks at h; exact (List.nodup_append.1 h).2.1))
  exact h.sublist this
theorem Sep.sub (h:Sep M w0 Δ F w) (hs:Γ.Sublist Δ):Sep M w0 Γ F w:=by
  have hm:∀ b∈blocks Γ,b∈blocks Δ:=fun b hb=>by
    obtain ⟨r,hr,hb⟩:=aZ.1 hb
    exact aZ.2 ⟨r,hs.subset hr,hb⟩
  exact ⟨h.ext,fun r hr=>h.rs r (hs.subset hr),gM hs h.nd,fun b hb=>h.new b (hm b hb),h.fs,fun r hr b hb hx=>h.ap r hr b hb (hm b hx)⟩
theorem Sep.add (h:Sep M w0 Δ F w) (e:Ext No w w') {r:Rsc}(hr:r.φ w') (hn:r.fp.Nodup) (hf:∀ b∈r.fp,w.heap.size≤b):Sep M w0 (Δ++[r]) F w':=by
  have h':=h.to e
  have hlt:=h.lt
  have hb:blocks (Δ++[r])=blocks Δ++r.fp:=by rw [cb]; simp [blocks]
  refine ⟨h'.ext,fun q hq=>?_,?_,fun b hb'=>?_,h'.fs,fun q hq b hb' hx=>?_⟩
  · rcases List.mem_append.1 hq with hq | hq
    · exact h'.rs q hq
    · simp at hq; subst hq; exact hr
  · rw [hb]
    refine List.nodup_append.2 ⟨h.nd,hn,fun x hx y hy e=>?_⟩
    subst e
    have:=hlt x hx
    have:=hf x hy
    omega
  · rw [hb] at hb'
    rcases List.mem_append.1 hb' with hb' | hb'
    · exact h.new b hb'
    · have:=hf b hb'
      have:=h.ext.size
      exact .inr ω
  · rw [hb] at hx
    rcases List.mem_append.1 hx with hx | hx
    · exact h.ap q hq b hb' hx
    · have:=hf b hx
      have:=q.lt (h.fs q hq) b hb'
      omega
theorem Sep.alloc (h:Sep M w0 Δ F w) (o:Obj):Sep M w0 (Δ++[Wk.box w.heap.size o]) F (w.alloc o):=
  h.add (Ext.refl.alloc o) (r:=Wk.box w.heap.size o) (heap_alloc_new w o) (by simp [Wk.box]) (by simp [Wk.box])
theorem bX:∀ {Δ:List Rsc}{i:Nat}{r q:Rsc},Δ[i]? = some r→∀ b,b∈blocks (Δ.set i q)→b∈q.fp∨b∈blocks Δ
  | [],i,r,q,h,b,hb=>by simp at h
  | p::Δ,0,r,q,h,b,hb=>by
    simp only [List.set_cons_zero,blocks,List.mem_append] at hb ⊢
    rcases hb with hb | hb
    · exact .inl hb
    · exact .inr (.inr hb)
  | p::Δ,i+1,r,q,h,b,hb=>by
    simp only [List.set_cons_succ,blocks,List.mem_append] at hb ⊢
    rcases hb with hb | hb
    · exact .inr (.inl hb)
    · rcases bX (by simpa using h) b hb with hb | hb
      · exact .inl hb
      · exact .inr (.inr hb)
theorem dG:∀ {Δ:List Rsc}{i:Nat}{r q:Rsc},Δ[i]? = some r→(blocks Δ).Nodup→q.fp.Nodup→(∀ b∈q.fp,b∈blocks Δ→b∈r.fp)→(blocks (Δ.set i q)).Nodup
  | [],i,r,q,h,_,_,_=>by simp at h
  | p::Δ,0,r,q,h,hn,hq,hd=>by
    simp only [List.getElem?_cons_zero,Option.some.injEq] at h
    subst h
    simp only [List.set_cons_zero,blocks] at hn ⊢
    obtain ⟨h1,h2,h3⟩:=List.nodup_append.1 hn
    refine List.nodup_append.2 ⟨hq,h2,fun x hx y hy e=>?_⟩
    subst e
    exact h3 x (hd x hx (by simp [blocks,hy])) x hy rfl
  | p::Δ,i+1,r,q,h,hn,hq,hd=>by
    simp only [List.set_cons_succ,blocks] at hn ⊢
    obtain ⟨h1,h2,h3⟩:=List.nodup_append.1 hn
    have hi:Δ[i]? = some r:=by simpa using h
    have hr:∀ b∈r.fp,b∈blocks Δ:=fun b hb=>aZ.2 ⟨r,List.mem_of_getElem? hi,hb⟩
    refine List.nodup_append.2 ⟨h1,dG hi h2 hq fun b hb hb'=>hd b hb (by simp [blocks,hb']),fun x hx y hy e=>?_⟩
    subst e
    rcases bX hi x hy with hy | hy
    · exact h3 x hx x (hr x (hd x hy (by simp [blocks,hx]))) rfl
    · exact h3 x hx x hy rfl
theorem ep {Δ:List Rsc}{i:Nat}{r q:Rsc}(hi:Δ[i]? = some r) (hn:(blocks Δ).Nodup):∀ p∈Δ.set i q,p=q∨(p∈Δ∧∀ b∈p.fp,b ∉ r.fp):=by
  induction Δ generalizing i with
  | nil=>simp at hi
  | cons a Δ ih=>
    intro p hp
    unfold blocks at hn
    obtain ⟨h1,h2,h3⟩:=List.nodup_append.1 hn
    cases i with
    | zero=>
      simp at hi; subst hi
      simp only [List.set_cons_zero,List.mem_cons] at hp
      rcases hp with rfl | hp
      · exact .inl rfl
      · exact .inr ⟨by simp [hp],fun b hb hb'=>h3 b hb' b (aZ.2 ⟨p,hp,hb⟩) rfl⟩
    | succ i=>
      have hi':Δ[i]? = some r:=by simpa using hi
      simp only [List.set_cons_succ,List.mem_cons] at hp
      rcases hp with rfl | hp
      · exact .inr ⟨σ,fun b hb hb'=>h3 b hb b (aZ.2 ⟨r,List.mem_of_getElem? hi',hb'⟩) rfl⟩
      · rcases ih hi' h2 p hp with rfl | ⟨hp,hb⟩
        · exact .inl rfl
        · exact .inr ⟨by simp [hp],hb⟩
theorem Sep.set (h:Sep M w0 Δ F w) {i:Nat}{r q:Rsc}(hi:Δ[i]? = some r) (e:Ext (· ∈ r.fp) w w') (hq:q.φ w') (hn:q.fp.Nodup) (hf:∀ b∈q.fp,b∈r.fp∨w.heap.size≤b) :
    Sep M w0 (Δ.set i q) F w':=by
  have hr:∀ b∈r.fp,b∈blocks Δ:=fun b hb=>aZ.2 ⟨r,List.mem_of_getElem? hi,hb⟩
  have hlt:=h.lt
  refine ⟨h.ext.step e fun b hb=>h.new b (hr b hb),fun p hp=>?_,dG hi h.nd hn fun b hb hb'=>?_,fun b hb=>?_,fun p hp=>?_,fun p hp b hb hx=>?_⟩
  · rcases ep hi h.nd p hp with rfl | ⟨hp,hd⟩
    · exact hq
    · exact p.st (h.rs p hp) fun b hb=>e.block b (p.lt (h.rs p hp) b hb) (hd b hb)
  · rcases hf b hb with hb | hb
    · exact hb
    · have:=hlt b hb'; omega
  · rcases bX hi b hb with hb | hb
    · rcases hf b hb with hb | hb
      · exact h.new b (hr b hb)
      · have:=h.ext.size; exact .inr ω
    · exact h.new b hb
  · exact p.st (h.fs p hp) fun b hb=>e.block b (p.lt (h.fs p hp) b hb) fun hx=>h.ap p hp b hb (hr b hx)
  · rcases bX hi b hx with hx | hx
    · rcases hf b hx with hx | hx
      · exact h.ap p hp b hb (hr b hx)
      · have:=p.lt (h.fs p hp) b hb; omega
    · exact h.ap p hp b hb hx
theorem Sep.put (h:Sep M w0 Δ F w) (i:Nat) {b o} (o':Obj) (hi:Δ[i]? = some (Wk.box b o)):Sep M w0 (Δ.set i (Wk.box b o')) F (put w b o'):=
  h.set hi (q:=Wk.box b o') (Ext.refl.put (M:=(· ∈ (Wk.box b o).fp)) (.inl (by simp [Wk.box]))) (eS (h.box i hi)) (by simp [Wk.box]) (by simp [Wk.box])
theorem Sep.perm (h:Sep M w0 Δ F w) (hp:Δ.Perm Γ):Sep M w0 Γ F w:=by
  have hm:∀ b,b∈blocks Γ→b∈blocks Δ:=fun b hb=>by
    obtain ⟨r,hr,hb⟩:=aZ.1 hb
    exact aZ.2 ⟨r,hp.mem_iff.2 hr,hb⟩
  have hb:(blocks Δ).Perm (blocks Γ):=by
    have:∀ Δ:List Rsc,blocks Δ=Δ.flatMap (·.fp):=fun Δ=>by
      induction Δ with
      | nil=>rfl
      | cons r Δ ih=>simp [blocks,ih]
    rw [this,this]
    exact hp.flatMap_right _
  exact ⟨h.ext,fun r hr=>h.rs r (hp.mem_iff.2 hr),hb.nodup_iff.1 h.nd,fun b hx=>h.new b (hm b hx),h.fs,fun r hr b hx hy=>h.ap r hr b hx (hm b hy)⟩
end
def Res {α:Type}[Rp α] (w w':World) (cs:List Value) (x:α):Prop:=∃ fp,own true w' cs x fp∧fp.Nodup∧∀ b∈fp,w.heap.size≤b
theorem Sep.res {α:Type}[Rp α] {M w0 Δ F} {w w':World}{cs:List Value}{x:α}(h:Sep M w0 Δ F w) (e:Ext No w w') (hr:Res w w' cs x):∃ fp,Sep M w0 (Δ++[Wk.mine cs x fp]) F w':=by
  obtain ⟨fp,h1,h2,h3⟩:=hr
  exact ⟨fp,h.add e (r:=Wk.mine cs x fp) h1 h2 h3⟩
theorem Sep.out {α:Type}[Rp α] {w0 Δ F} {w:World}{cs:List Value}{x:α}{fp} (h:Sep No w0 Δ F w) (i:Nat) (hi:Δ[i]? = some (Wk.mine cs x fp)):Res w0 w cs x:=by
  have hm:=List.mem_of_getElem? hi
  refine ⟨fp,h.mine i hi,?_,fun b hb=>?_⟩
  · have:[Wk.mine cs x fp].Sublist Δ:=List.singleton_sublist.2 hm
    simpa [blocks,Wk.mine] using gM this h.nd
  · exact (h.new b (aZ.2 ⟨_,hm,hb⟩)).resolve_left id
end Go.Wk
namespace Go.Wk
section
variable {w:World}{F:List Rsc}
theorem ak {α:Type}[Rp α] {s:Bool}{cs:List Value}{x:α}{fp:List Nat}(h:Rp.own s w cs x fp) (k:∀ r∈F,r.φ w):∀ r∈seen s cs x fp::F,r.φ w:=fun r hr=>(List.mem_cons.1 hr).elim (fun e=>e ▸ h) (k r)
theorem cy {b:Nat}{o:Obj}(h:w.heap[b]? = some o) (k:∀ r∈F,r.φ w):∀ r∈box b o::F,r.φ w:=fun r hr=>(List.mem_cons.1 hr).elim (fun e=>e ▸ h) (k r)
theorem aL:∀ r∈([]:List Rsc),r.φ w:=fun _ h=>nomatch h
end
end Go.Wk
namespace Go.Wk
open Rp (sz own)
structure Ty (P:Program) (e:TypeId) (z:Value) (size bytes:Nat):Prop where
  h:(P.info? e).map (fun i=>(i.zero,i.size,i.bytes))=some (some z,size,bytes)
theorem Ty.parts {P e z size bytes} (t:Ty P e z size bytes):∃ i,P.info? e=some i∧i.zero=some z∧i.size=size∧i.bytes=bytes:=by
  have h:=t.h
  cases hi:P.info? e with
  | none=>rw [hi] at h; cases h
  | some i=>rw [hi] at h; simp at h; exact ⟨i,rfl,h.1,h.2.1,h.2.2⟩
theorem Ty.size {P e z size bytes} (t:Ty P e z size bytes) (w:World):(sizeOf e).run P w = .ok size w:=by
  obtain ⟨i,h1,h2,h3,h4⟩:=t.parts
  simp [sizeOf,typeInfo,h1,h3]
section
variable {α:Type}[Rp α] {P:Program}
theorem iD {w:World}{b o:Nat}{cur:Array Value}{T fr} (hb:w.heap[b]? = some (.cells cur T fr)) (m:Nat):At w b o ((cur.toList.drop o).take m):=fun j v hj=>by
  refine fJ hb ?_
  rw [List.getElem?_take] at hj
  split at hj
  · rw [List.getElem?_drop] at hj; simpa using hj
  · cases hj
theorem jR {w:World}{b o:Nat}{cs:List Value}(h:At w b o cs):∀ j v,cs[j]? = some v→w.cell? ((⟨b,o,none⟩:Addr).add j)=some v:=fun j v hj=>by
  rw [dJ]; exact h j v hj
theorem fc:∀ (vs:List Value) (c:Array Value) (o:Nat),o+vs.length≤c.size→(lay c o vs).toList=c.toList.take o++vs++c.toList.drop (o+vs.length)
  | [],c,o,_=>by simp [lay]
  | v::vs,c,o,h=>by
    have ho:o<c.toList.length:=by simp at h ⊢; omega
    rw [lay,fc vs _ _ (by simp at h ⊢; omega)]
    simp only [Array.toList_setIfInBounds,List.length_cons]
    rw [List.set_eq_take_append_cons_drop,if_pos ho]
    have h1:(c.toList.take o).length=o:=by rw [List.length_take]; omega
    rw [List.take_append,List.drop_append,h1]
    simp only [Nat.add_sub_cancel_left,List.take_succ_cons,List.take_zero,show o+1+vs.length-o=vs.length+1 from by omega,List.drop_succ_cons,List.drop_drop]
    rw [List.take_of_length_le (by rw [h1]; omega),List.drop_of_length_le (by rw [h1]; omega)]
    simp [Nat.add_assoc,Nat.add_comm 1]
theorem bC.append {s:Bool}{w:World}:∀ {xs:List α}{cs fx ds fy} {ys:List α},bC s w cs xs fx→cs.length=xs.length*sz α→bC s w ds ys fy→bC s w (cs++ds) (xs++ys) (fx++fy)
  | [],cs,fx,ds,fy,ys,hc,hlc,hy=>by
    have:cs=[]:=List.eq_nil_of_length_eq_zero (by simpa using hlc)
    subst this
    have hfx:fx=[]:=hc
    subst hfx
    simpa using hy
  | x::xs,cs,fx,ds,fy,ys,⟨f1,f2,e1,hc1,hc2⟩,hlc,hy=>by
    subst e1
    have hle:sz α≤cs.length:=by rw [hlc,List.length_cons,Nat.add_mul]; omega
    refine ⟨f1,f2++fy,σ,?_,?_⟩
    · rw [List.take_append_of_le_length hle]; exact hc1
    · rw [List.drop_append_of_le_length hle]
      exact bC.append hc2 (by rw [List.length_drop,hlc,List.length_cons,Nat.add_mul]; omega) hy
theorem ey {w:World}{t ty e:TypeId}{z:Value}{bytes:Nat}(ht:P.underlying t=some (.slice e)) (hT:Ty P e z (sz α) bytes) (hz:z.cells.size=sz α)
    {v:Value}{xs ys:List α}{fp:List Nat}(h:own true w [v] xs fp) {b2 o2 m c2:Nat}{news:List Value}(hl:news.length=m*sz α) (hm:m=ys.length) (hat:At w b2 o2 news)
    (h1:∀ u∈news,u.oneCell'=true) {fy:List Nat}(hy:bC true w news ys fy) (hfy:∀ b∈fy,b ∉ fp) (n1:fp.Nodup) (n2:fy.Nodup) (hm0:0<m)
    (h63:xs.length+m≤maxLen) (hb48:(xs.length+m)*bytes≤140737488355328) :
    ∃ v' w' fp',(Builtin.append_ #[t,t] ty #[v,.slice (some ⟨b2,o2,none⟩) m c2]).run P w = .ok v' w'∧own true w' [v'] (xs++ys) fp'∧Ext (· ∈ fp) w w' ∧
      (∀ b∈fp',b∈fp∨b∈fy∨w.heap.size≤b)∧fp'.Nodup:=by
  obtain ⟨i,hi1,hi2,hi3,hi4⟩:=hT.parts
  have hsmall:xs.length+m≤9223372036854775807:=by simp only [maxLen] at h63; omega
  have hsz:=Rp.pos (α:=α)
  subst hm
  have grown:∀ (old:Nat) (olds:List Value) (fs:List Nat),olds.length=xs.length*sz α→bC true w olds xs fs→(∀ b∈fs,b∈fp)→fs.Nodup→∀ w',w'= w.drew.alloc (.cells (olds.toArray++news.toArray++Builtin.zeroCells z.cells (grownCap w (xs.length+ys.length) old e-(xs.length+ys.length))) e) →
      ∃ fp',own true w' [.slice (some ⟨w.heap.size,0,none⟩) (xs.length+ys.length) (grownCap w (xs.length+ys.length) old e)] (xs++ys) fp'∧Ext (· ∈ fp) w w' ∧
      (∀ b∈fp',b∈fp∨b∈fy∨w.heap.size≤b)∧fp'.Nodup:=by
    intro old olds fs hlo hox hfs hnd w' hw'
    have hE:Ext No w w':=by subst hw'; exact (Ext.refl.drawn _).alloc _
    have hge:=grownCap_ge w (xs.length+ys.length) old e
    have hcm:grownCap w (xs.length+ys.length) old e≤maxLen:=grownCap_le_maxLen w (xs.length+ys.length) old e h63
    refine ⟨w.heap.size::(fs++fy),.inr (.inr ⟨w.heap.size,0,_,_,e,(0,0),fs++fy,σ,rfl,by subst hw'; exact heap_alloc_new w.drew _,fun _=>rfl,by simpa using hge,hcm,?_,?_⟩),hE.no,fun b hb=>?_,?_⟩
    · simp only [Array.size_append,List.size_toArray,size_zeroCells,hz,hlo,hl,← Nat.add_mul,Nat.zero_add]
      exact Nat.le_of_eq (by congr 1; omega)
    · have:=(hox.append hlo hy).st (w':=w') fun b hb=>hE.block b (by
        rcases List.mem_append.1 hb with hb | hb
        · exact hox.lt b hb
        · exact hy.lt b hb) id
      refine this.congr ?_
      have hlen:(xs++ys).length*sz α=(olds++news).length:=by rw [List.length_append,List.length_append,Nat.add_mul,hlo,hl]
      rw [hlen]
      simp only [List.drop_zero,Array.toList_append]
      rw [List.take_length,List.take_left' rfl]
    · simp only [List.mem_cons,List.mem_append] at hb
      rcases hb with rfl | hb | hb
      · exact .inr (.inr (Nat.le_refl _))
      · exact .inl (hfs b hb)
      · exact .inr (.inl hb)
    · refine List.nodup_cons.2 ⟨fun hx=>?_,List.nodup_append.2 ⟨hnd,n2,fun x hx y hy' e'=>?_⟩⟩
      · rcases List.mem_append.1 hx with hx | hx
        · have:=Rp.lt h _ (hfs _ hx); omega
        · have:=hy.lt _ hx; omega
      · subst e'; exact hfy x hy' (hfs x hx)
  rcases h with ⟨hf,_⟩ | ⟨hv,rfl,rfl⟩ | ⟨b,o,cap,cur,T,fr,fs,hv,hfp,hb,hfr,hc,hcm,hcs,hown⟩
  · cases hf
  · simp at hv; subst hv
    have hr:=run_append_nil (P:=P) w t ty e i z ht hi1 hi2 ⟨b2,o2,none⟩ ys.length c2 news (by rw [hi3]; exact hl) (jR hat) hm0 (by simp at hsmall; omega) (by rw [hi4]; simp at hb48; omega)
    obtain ⟨fp',g1,g2,g3,g4⟩:=grown 0 [] [] σ rfl σ .nil _ rfl
    simp only [List.length_nil,Nat.zero_add,List.nil_append] at g1 g2 hr ⊢
    refine ⟨_,_,fp',hr,?_,?_,g3,g4⟩
    · simpa using g1
    · simpa using g2
  · simp at hv; subst hv
    have hfr':=hfr rfl
    subst hfr'
    have hcells:=hown.cells
    have hxl:xs.length*sz α≤cap*sz α:=Nat.mul_le_mul_right _ hc
    by_cases hroom:xs.length+ys.length≤cap
    ·
      have hfit:o+xs.length*sz α+news.length≤cur.size:=by
        have:(xs.length+ys.length)*sz α≤cap*sz α:=Nat.mul_le_mul_right _ hroom
        rw [Nat.add_mul] at this
        rw [hl]; omega
      have hst:=dy (P:=P) news w (o+xs.length*sz α) 0 cur hb h1 (by simpa using hfit)
      have hld:(loadCells ⟨b2,o2,none⟩ (ys.length*sz α)).run P w = .ok news.toArray w:=by
        have:=du (P:=P) news b2 o2 0 #[] (by simpa using hat)
        rw [hl] at this
        simpa [loadCells] using this
      refine ⟨.slice (some ⟨b,o,none⟩) (xs.length+ys.length) cap,put w b (.cells (lay cur (o+xs.length*sz α) news) T (0,0)),b::(fs++fy),?_,.inr (.inr ⟨b,o,cap,_,T,(0,0),fs++fy,σ,rfl,eS hb,fun _=>rfl,by simpa using hroom,hcm,by rw [gD]; exact hcs,?_⟩),?_,fun b' hb'=>?_,?_⟩
      · simp [Builtin.append_,run_underlying ht,sizeOf,typeInfo,hi1,hi3,Builtin.lenOf,hroom,Builtin.firstCells,hld,dJ]
        simp only [Nat.add_zero] at hst
        rw [hst]
        rfl
      · have hEp:Ext (· = b) w (put w b (.cells (lay cur (o+xs.length*sz α) news) T (0,0))):=Ext.refl.put (.inl rfl)
        have hlo:((cur.toList.drop o).take (xs.length*sz α)).length=xs.length*sz α:=by
          rw [List.length_take,List.length_drop]
          have:cur.toList.length=cur.size:=by simp
          omega
        have h2:=(hown.congr (cs':=(cur.toList.drop o).take (xs.length*sz α)) (by rw [List.take_take,Nat.min_self])).append hlo hy
        have h3:=h2.st (w':=put w b (.cells (lay cur (o+xs.length*sz α) news) T (0,0))) fun b' hb'=>hEp.block b' (h2.lt b' hb') fun e=>by
          subst e; subst hfp
          rcases List.mem_append.1 hb' with hb' | hb'
          · exact (List.nodup_cons.1 n1).1 hb'
          · exact hfy b' hb' σ
        refine h3.congr ?_
        have hlen:(xs++ys).length*sz α=((cur.toList.drop o).take (xs.length*sz α)++news).length:=by rw [List.length_append,List.length_append,Nat.add_mul,hlo,hl]
        rw [hlen,List.take_length,fc _ _ _ hfit,List.append_assoc,List.drop_append]
        have h5:(cur.toList.take (o+xs.length*sz α)).length=o+xs.length*sz α:=by
          rw [List.length_take]
          have:cur.toList.length=cur.size:=by simp
          omega
        rw [h5,List.drop_take,show o+xs.length*sz α-o=xs.length*sz α from by omega,show o-(o+xs.length*sz α)=0 from by omega,List.drop_zero,← List.append_assoc,List.take_left' rfl]
      · exact Ext.refl.put (.inl (by subst hfp; simp))
      · subst hfp
        simp only [List.mem_cons,List.mem_append] at hb' ⊢
        rcases hb' with rfl | hb' | hb'
        · exact .inl (.inl rfl)
        · exact .inl (.inr hb')
        · exact .inr (.inl hb')
      · subst hfp
        obtain ⟨n3,n4⟩:=List.nodup_cons.1 n1
        refine List.nodup_cons.2 ⟨fun hx=>?_,List.nodup_append.2 ⟨n4,n2,fun x hx y hy' e'=>?_⟩⟩
        · rcases List.mem_append.1 hx with hx | hx
          · exact n3 hx
          · exact hfy b hx σ
        · subst e'; exact hfy x hy' (by simp [hx])
    · have hg:cap<xs.length+ys.length:=by omega
      have holds:=iD hb (o:=o) (xs.length*sz α)
      have hlo:((cur.toList.drop o).take (xs.length*sz α)).length=xs.length*sz α:=by
        rw [List.length_take,List.length_drop]
        have:cur.toList.length=cur.size:=by simp
        omega
      have hr:=run_append_grow (P:=P) w t ty e i z ht hi1 hi2 ⟨b,o,none⟩ xs.length cap _ (by rw [hi3]; exact hlo) (jR holds) ⟨b2,o2,none⟩ ys.length c2 news (by rw [hi3]; exact hl) (jR hat) hg ω (by rw [hi4]; exact growslice_fits hg hb48)
      obtain ⟨fp',g1,g2,g3,g4⟩:=grown cap _ fs hlo (hown.congr (by rw [List.take_take,Nat.min_self])) (fun b hb=>by subst hfp; simp [hb]) (by subst hfp; exact (List.nodup_cons.1 n1).2) _ rfl
      exact ⟨_,_,fp',hr,g1,g2,g3,g4⟩
theorem bC.one {s:Bool}{w:World}{cs:List Value}{x:α}{fp} (h:own s w cs x fp):bC s w cs [x] fp:=by
  refine ⟨fp,[],σ,?_,rfl⟩
  rw [← Rp.len h,List.take_length]; exact h
end
def gone:Rsc:=⟨[],fun _=>True,fun _ _=>trivial,fun _ b hb=>by simp at hb⟩
section
variable {M:Nat→Prop}{w0 w w':World}{Δ F:List Rsc}
theorem dp:∀ {Δ:List Rsc}{j:Nat}{p:Rsc},Δ[j]? = some p→(blocks Δ).Nodup→∀ b∈p.fp,b ∉ blocks (Δ.set j gone)
  | [],j,p,h,_,_,_=>by simp at h
  | a::Δ,0,p,h,hn,b,hb=>by
    simp only [List.getElem?_cons_zero,Option.some.injEq] at h
    subst h
    simp only [List.set_cons_zero,blocks,gone,List.nil_append] at hn ⊢
    exact fun hx=>(List.nodup_append.1 hn).2.2 b hb b hx rfl
  | a::Δ,j+1,p,h,hn,b,hb=>by
    simp only [List.set_cons_succ,blocks] at hn ⊢
    obtain ⟨h1,h2,h3⟩:=List.nodup_append.1 hn
    have hj:Δ[j]? = some p:=by simpa using h
    intro hx
    rcases List.mem_append.1 hx with hx | hx
    · exact h3 b hx b (aZ.2 ⟨p,List.mem_of_getElem? hj,hb⟩) rfl
    · exact dp hj h2 b hb hx
theorem Sep.set2 (h:Sep M w0 Δ F w) {i j:Nat}{r p q:Rsc}(hi:Δ[i]? = some r) (hj:Δ[j]? = some p) (hij:Nat.beq j i=false) (e:Ext (· ∈ r.fp) w w') (hq:q.φ w') (hn:q.fp.Nodup)
    (hf:∀ b∈q.fp,b∈r.fp∨b∈p.fp∨w.heap.size≤b):Sep M w0 ((Δ.set j gone).set i q) F w':=by
  have hne:j≠i:=fun e=>by subst e; simp at hij
  have hp:∀ b∈p.fp,b∈blocks Δ:=fun b hb=>aZ.2 ⟨p,List.mem_of_getElem? hj,hb⟩
  have hr:∀ b∈r.fp,b∈blocks Δ:=fun b hb=>aZ.2 ⟨r,List.mem_of_getElem? hi,hb⟩
  have hi':(Δ.set j gone)[i]? = some r:=by rw [List.getElem?_set_ne hne]; exact hi
  have hg:∀ b∈blocks (Δ.set j gone),b∈blocks Δ:=fun b hb=>by
    rcases bX hj b hb with hb | hb
    · simp [gone] at hb
    · exact hb
  have hnj:(blocks (Δ.set j gone)).Nodup:=dG hj h.nd (by simp [gone]) (by simp [gone])
  have hlt:=h.lt
  have hnd:(blocks ((Δ.set j gone).set i q)).Nodup:=dG hi' hnj hn fun b hb hb'=>by
    rcases hf b hb with hb | hb | hb
    · exact hb
    · exact absurd hb' (dp hj h.nd b hb)
    · have:=hlt b (hg b hb'); omega
  have hall:∀ b∈blocks ((Δ.set j gone).set i q),b∈blocks Δ∨w.heap.size≤b:=fun b hb=>by
    rcases bX hi' b hb with hb | hb
    · rcases hf b hb with hb | hb | hb
      · exact .inl (hr b hb)
      · exact .inl (hp b hb)
      · exact .inr hb
    · exact .inl (hg b hb)
  refine ⟨h.ext.step e fun b hb=>h.new b (hr b hb),fun x hx=>?_,hnd,fun b hb=>?_,fun x hx=>?_,fun x hx b hb hy=>?_⟩
  · rcases ep hi' hnj x hx with rfl | ⟨hx,hd⟩
    · exact hq
    · rcases ep hj h.nd x hx with rfl | ⟨hx,_⟩
      · trivial
      · exact x.st (h.rs x hx) fun b hb=>e.block b (x.lt (h.rs x hx) b hb) (hd b hb)
  · rcases hall b hb with hb | hb
    · exact h.new b hb
    · have:=h.ext.size; exact .inr ω
  · exact x.st (h.fs x hx) fun b hb=>e.block b (x.lt (h.fs x hx) b hb) fun hy=>h.ap x hx b hb (hr b hy)
  · rcases hall b hy with hy | hy
    · exact h.ap x hx b hb hy
    · have:=x.lt (h.fs x hx) b hb; omega
theorem Sep.nodup1 (h:Sep M w0 Δ F w) {i:Nat}{r:Rsc}(hi:Δ[i]? = some r):r.fp.Nodup:=by
  have:[r].Sublist Δ:=List.singleton_sublist.2 (List.mem_of_getElem? hi)
  simpa [blocks] using gM this h.nd
theorem Sep.apart {i j:Nat}{r p:Rsc}(h:Sep M w0 Δ F w) (hi:Δ[i]? = some r) (hj:Δ[j]? = some p) (hij:Nat.beq j i=false):∀ b∈p.fp,b ∉ r.fp:=fun b hb hr=>by
  have hne:j≠i:=fun e=>by subst e; simp at hij
  have hi':(Δ.set j gone)[i]? = some r:=by rw [List.getElem?_set_ne hne]; exact hi
  exact dp hj h.nd b hb (aZ.2 ⟨r,List.mem_of_getElem? hi',hr⟩)
variable {α:Type}[Rp α] {P:Program}{t ty e:TypeId}{z:Value}{bytes:Nat}
theorem Sep.app1 (h:Sep M w0 Δ F w) (i:Nat) {v:Value}{xs:List α}{fp} (hi:Δ[i]? = some (Wk.mine [v] xs fp)) (ht:P.underlying t=some (.slice e)) (hT:Ty P e z (sz α) bytes) (hz:z.cells.size=sz α)
    {b2 c2:Nat}{cs:List Value}{y:α}(hat:At w b2 0 cs) (hy:own true w cs y []) (h63:xs.length+1≤maxLen) (hb48:(xs.length+1)*bytes≤140737488355328) :
    ∃ v' w' fp',(Builtin.append_ #[t,t] ty #[v,.slice (some ⟨b2,0,none⟩) 1 c2]).run P w = .ok v' w'∧Sep M w0 (Δ.set i (Wk.mine [v'] (xs++[y]) fp')) F w':=by
  obtain ⟨v',w',fp',h1,h2,h3,h4,h5⟩:=ey (ty:=ty) ht hT hz (h.mine i hi) (ys:=[y]) (c2:=c2) (m:=1) (by rw [Rp.len hy]; simp) rfl hat (Rp.one hy) (.one hy) σ (h.nodup1 hi) .nil ω h63 hb48
  exact ⟨v',w',fp',h1,h.set hi (q:=Wk.mine [v'] (xs++[y]) fp') h3 h2 h5 fun b hb=>by rcases h4 b hb with h | h | h; exact .inl h; simp at h; exact .inr h⟩
theorem Sep.app2 (h:Sep M w0 Δ F w) (i j:Nat) {v:Value}{xs:List α}{fp} (hi:Δ[i]? = some (Wk.mine [v] xs fp)) (ht:P.underlying t=some (.slice e)) (hT:Ty P e z (sz α) bytes) (hz:z.cells.size=sz α)
    {b2 c2:Nat}{cs:List Value}{y:α}{fy} (hj:Δ[j]? = some (Wk.mine cs y fy)) (hij:Nat.beq j i=false) (hat:At w b2 0 cs) (h63:xs.length+1≤maxLen) (hb48:(xs.length+1)*bytes≤140737488355328) :
    ∃ v' w' fp',(Builtin.append_ #[t,t] ty #[v,.slice (some ⟨b2,0,none⟩) 1 c2]).run P w = .ok v' w'∧Sep M w0 ((Δ.set j gone).set i (Wk.mine [v'] (xs++[y]) fp')) F w':=by
  have hy:=h.mine j hj
  obtain ⟨v',w',fp',h1,h2,h3,h4,h5⟩:=ey (ty:=ty) ht hT hz (h.mine i hi) (ys:=[y]) (c2:=c2) (m:=1) (by rw [Rp.len hy]; simp) rfl hat (Rp.one hy) (.one hy) (h.apart hi hj hij) (h.nodup1 hi) (h.nodup1 hj) ω h63 hb48
  exact ⟨v',w',fp',h1,h.set2 hi hj hij (q:=Wk.mine [v'] (xs++[y]) fp') h3 h2 h5 h4⟩
end
section
variable {P:Program}{n:Nat}{L:Env}{w w':World}{d:Option Tmp}{ty:TypeId}{p:String}{af:Array Edge}{g:Option (Nat × Bool)}
theorem fX {x y:Operand}{t t2:TypeId}{v u v':Value}(hx:evL L x=some v) (hy:evL L y=some u) (hr:(Builtin.append_ #[t,t2] ty #[v,u]).run P w = .ok v' w') :
    Pn P n L w ⟨d,.call ⟨.builtin .append,#[x,y],#[t,t2]⟩,ty,p,af,g⟩ v' w':=fun a ha=>by
  simp [execOp,resolve,invoke,builtin,ha.eval hx,ha.eval hy,hr]
theorem oN {t e:TypeId}{x:Operand}{z:Value}{size bytes m:Nat}(ht:P.underlying t=some (.slice e)) (hT:Ty P e z size bytes) (hx:evL L x=some (.int .i64 m)) (h48:bytes*m≤281474976710656) (h63:m≤maxLen) :
    Pn P n L w ⟨d,.makeSlice t x x,ty,p,af,g⟩ (.slice (some ⟨w.heap.size,0,none⟩) m m) (w.alloc (.cells (madeCells z.cells (m*size)) e)):=fun a ha=>by
  obtain ⟨i,hi1,hi2,hi3,hi4⟩:=hT.parts
  have h63':(m:Int)≤9223372036854775807:=by unfold maxLen at h63; omega
  have hb':(i.bytes:Int)*(m:Int)≤281474976710656:=by
    have h:((i.bytes*m:Nat):Int)≤281474976710656:=by rw [hi4]; omega
    rwa [Int.natCast_mul] at h
  have hr:=run_make (P:=P) w t e i z ht hi1 hi2 .i64 .i64 m m ω (Int.le_refl _) hb' h63'
  simp only [Int.toNat_natCast,hi3] at hr
  simp [execOp,ha.eval hx,hr]
section
variable {α:Type}[Rp α]
theorem bC.of_get {s:Bool}{w:World}:∀ {xs:List α}{cs:List Value},(∀ k (h:k<xs.length),own s w ((cs.drop (k*sz α)).take (sz α)) xs[k] [])→bC s w cs xs []
  | [],_,_=>rfl
  | x :: xs,cs,h=>⟨[],[],rfl,by have:=h 0 σ; simp only [Nat.zero_mul,List.drop_zero,List.getElem_cons_zero] at this; exact this,bC.of_get fun k hk=>by
      have:=h (k+1) (by simpa using hk)
      rw [List.drop_drop]
      rw [Nat.add_mul,Nat.one_mul,Nat.add_comm] at this
      simpa using this⟩
theorem mv (z:Array Value) (m k:Nat) (hk:k<m):((madeCells z (m*z.size)).toList.drop (k*z.size)).take z.size=z.toList:=by
  have hle:(k+1)*z.size≤m*z.size:=Nat.mul_le_mul_right _ hk
  rw [Nat.add_mul,Nat.one_mul] at hle
  apply List.ext_getElem?
  intro j
  rw [List.getElem?_take]
  split
  · rename_i hj
    have h1:k*z.size+j<m*z.size:=by omega
    rw [List.getElem?_drop]
    have h2:(k*z.size+j) % z.size=j:=by rw [Nat.add_comm,Nat.add_mul_mod_self_right,Nat.mod_eq_of_lt hj]
    simp [madeCells,h1,h2,hj]
  · rename_i hj
    rw [List.getElem?_eq_none (by simpa using hj)]
theorem nI {w:World}{z:Value}{x:α}{e:TypeId}{m:Nat}(hz:∀ w,own true w z.cells.toList x []) (h63:m≤maxLen) :
    own true (w.alloc (.cells (madeCells z.cells (m*sz α)) e)) [.slice (some ⟨w.heap.size,0,none⟩) m m] (List.replicate m x) [w.heap.size]:=by
  have hs:z.cells.size=sz α:=by simpa using Rp.len (hz w)
  refine .inr (.inr ⟨w.heap.size,0,m,_,e,(0,0),[],σ,rfl,heap_alloc_new _ _,fun _=>rfl,σ,h63,by rw [size_madeCells]; simp,?_⟩)
  rw [List.drop_zero]
  refine bC.of_get fun k hk=>?_
  rw [List.getElem_replicate]
  have hk':k<m:=by simpa using hk
  rw [← hs,mv z.cells m k hk']
  exact hz _
theorem Sep.made {M:Nat→Prop}{w0 w:World}{Δ F:List Rsc}(h:Sep M w0 Δ F w) {z:Value}{x:α}{e:TypeId}{m:Nat}(hz:∀ w,own true w z.cells.toList x []) (h63:m≤maxLen) :
    Sep M w0 (Δ++[Wk.mine [.slice (some ⟨w.heap.size,0,none⟩) m m] (List.replicate m x) [w.heap.size]]) F (w.alloc (.cells (madeCells z.cells (m*sz α)) e)):=
  h.add (Ext.refl.alloc _) (r:=Wk.mine [.slice (some ⟨w.heap.size,0,none⟩) m m] (List.replicate m x) [w.heap.size]) (nI hz h63) (by simp [Wk.mine]) (by simp [Wk.mine])
theorem bC.zoom {w:World}:∀ {xs:List α}{cs:List Value}{fp:List Nat}{k:Nat},bC true w cs xs fp→∀ hk:k<xs.length,
    ∃ f1 fk f2,fp=f1++(fk++f2)∧own true w ((cs.drop (k*sz α)).take (sz α)) xs[k] fk ∧
      ∀ w' cs' x' fk',cs'.take (k*sz α)=cs.take (k*sz α)→cs'.drop ((k+1)*sz α)=cs.drop ((k+1)*sz α)→(∀ b∈f1,w'.heap[b]? = w.heap[b]?)→(∀ b∈f2,w'.heap[b]? = w.heap[b]?) →
        own true w' ((cs'.drop (k*sz α)).take (sz α)) x' fk'→bC true w' cs' (xs.set k x') (f1++(fk'++f2))
  | [],_,_,k,_,hk=>by simp at hk
  | y::xs,cs,fp,0,⟨f1,f2,e1,h1,h2⟩,_=>by
    refine ⟨[],f1,f2,by simpa using e1,by simpa using h1,fun w' cs' x' fk' _ hd _ hb hx=>?_⟩
    refine ⟨fk',f2,σ,by simpa using hx,?_⟩
    have:cs'.drop (sz α)=cs.drop (sz α):=by simpa using hd
    rw [this]
    exact h2.st hb
  | y::xs,cs,fp,k+1,⟨f1,f2,e1,h1,h2⟩,hk=>by
    obtain ⟨g1,gk,g2,e2,h3,h4⟩:=bC.zoom (k:=k) h2 (by simpa using hk)
    have hle:sz α≤(k+1)*sz α:=by rw [Nat.add_mul]; omega
    have hdd:∀ l:List Value,(l.drop (sz α)).drop (k*sz α)=l.drop ((k+1)*sz α):=fun l=>by rw [List.drop_drop,Nat.add_mul,Nat.one_mul,Nat.add_comm]
    refine ⟨f1++g1,gk,g2,by rw [e1,e2]; simp,by rw [hdd] at h3; simpa using h3,fun w' cs' x' fk' ht hd hb1 hb2 hx=>?_⟩
    refine ⟨f1,g1++(fk'++g2),σ,?_,h4 w' (cs'.drop (sz α)) x' fk' ?_ ?_ (fun b hb=>hb1 b (by simp [hb])) hb2 (by rw [hdd]; exact hx)⟩
    · have ht1:cs'.take (sz α)=cs.take (sz α):=by
        have:=congrArg (List.take (sz α)) ht
        rwa [List.take_take,List.take_take,Nat.min_eq_left hle] at this
      rw [ht1]
      exact Rp.st h1 fun b hb=>hb1 b (by simp [hb])
    · have:=congrArg (List.drop (sz α)) ht
      rw [List.drop_take,List.drop_take] at this
      rwa [show (k+1)*sz α-sz α=k*sz α from by rw [Nat.add_mul]; omega] at this
    · rw [List.drop_drop,List.drop_drop]
      rwa [show (k+1+1)*sz α=sz α+(k+1)*sz α from by rw [Nat.add_mul (k+1)]; omega] at hd
theorem kD {w:World}{ad n cap} {xs:List α}{fp:List Nat}(h:own true w [.slice ad n cap] xs fp) (k:Nat) (hk:k<xs.length) :
    ∃ b o cur T f1 fk f2,ad=some ⟨b,o,none⟩∧fp=b::(f1++(fk++f2))∧w.heap[b]? = some (.cells cur T (0,0))∧o+k*sz α+sz α≤cur.size ∧
      own true w ((cur.toList.drop (o+k*sz α)).take (sz α)) xs[k] fk ∧
      ∀ w' cur' x' fk',w'.heap[b]? = some (.cells cur' T (0,0))→cur'.size=cur.size→(∀ j,j<o+k*sz α∨o+(k+1)*sz α≤j→cur'[j]? = cur[j]?)→(∀ b∈f1,w'.heap[b]? = w.heap[b]?)→(∀ b∈f2,w'.heap[b]? = w.heap[b]?) →
        own true w' ((cur'.toList.drop (o+k*sz α)).take (sz α)) x' fk'→own true w' [.slice ad n cap] (xs.set k x') (b::(f1++(fk'++f2))):=by
  rcases h with ⟨hf,_⟩ | ⟨_,rfl,_⟩ | ⟨b,o,cap',cur,T,fr,fs,h1,h2,h3,h4,h5,h6,h7,h8⟩
  · cases hf
  · simp at hk
  · simp only [List.cons.injEq,Value.slice.injEq,and_true] at h1
    obtain ⟨h1,hn,hc⟩:=h1
    have hfr:=h4 rfl
    subst h1; subst h2; subst hn; subst hc; subst hfr
    obtain ⟨f1,fk,f2,e1,h9,h10⟩:=h8.zoom hk
    have hle:(k+1)*sz α≤cap*sz α:=Nat.mul_le_mul_right _ ω
    have hk1:(k+1)*sz α=k*sz α+sz α:=by rw [Nat.add_mul,Nat.one_mul]
    refine ⟨b,o,cur,T,f1,fk,f2,rfl,by rw [e1],h3,ω,by rw [List.drop_drop] at h9; exact h9,fun w' cur' x' fk' hb hsz hsame hb1 hb2 hx=>?_⟩
    refine .inr (.inr ⟨b,o,cap,cur',T,(0,0),f1++(fk'++f2),σ,rfl,hb,fun _=>rfl,by simpa using h5,h6,by rw [hsz]; exact h7,?_⟩)
    refine h10 w' _ x' fk' ?_ ?_ hb1 hb2 (by rw [List.drop_drop]; exact hx)
    · apply List.ext_getElem?
      intro j
      rw [List.getElem?_take,List.getElem?_take]
      split
      · rename_i hj
        rw [List.getElem?_drop,List.getElem?_drop]
        simpa using hsame (o+j) (.inl ω)
      · rfl
    · apply List.ext_getElem?
      intro j
      rw [List.drop_drop,List.drop_drop,List.getElem?_drop,List.getElem?_drop]
      simpa using hsame (o+(k+1)*sz α+j) (.inr ω)
theorem jN:∀ (vs:List Value) (c:Array Value) (o j:Nat),j<o∨o+vs.length≤j→(lay c o vs)[j]? = c[j]?
  | [],_,_,_,_=>rfl
  | v::vs,c,o,j,h=>by
    simp only [List.length_cons] at h
    rw [lay,jN vs _ _ _ ω,Array.getElem?_setIfInBounds_ne ω]
theorem mN (vs:List Value) (c:Array Value) (o:Nat) (h:o+vs.length≤c.size):((lay c o vs).toList.drop o).take vs.length=vs:=by
  have h5:(c.toList.take o).length=o:=by
    rw [List.length_take]
    have:c.toList.length=c.size:=by simp
    omega
  rw [fc _ _ _ h,List.append_assoc,List.drop_append,h5,List.drop_take]
  simp
theorem Sep.elset {M:Nat→Prop}{w0 w:World}{Δ F:List Rsc}(h:Sep M w0 Δ F w) (i:Nat) {ad n cap} {xs:List α}{fp:List Nat}(hi:Δ[i]? = some (Wk.mine [.slice ad n cap] xs fp)) (k:Nat) (hk:k<xs.length) :
    ∃ b o cur T,ad=some ⟨b,o,none⟩∧w.heap[b]? = some (.cells cur T (0,0))∧o+k*sz α+sz α≤cur.size ∧
      ∀ vs x,own true w vs x []→∃ fp',Sep M w0 (Δ.set i (Wk.mine [.slice ad n cap] (xs.set k x) fp')) F (Wk.put w b (.cells (lay cur (o+k*sz α) vs) T (0,0))):=by
  have hnd:=h.nodup1 hi
  obtain ⟨b,o,cur,T,f1,fk,f2,e1,e2,hb,hsz,hx,hback⟩:=kD (h.mine i hi) k hk
  refine ⟨b,o,cur,T,e1,hb,hsz,fun vs x hvs=>⟨b::(f1++([]++f2)),?_⟩⟩
  have hl:=Rp.len hvs
  change fp.Nodup at hnd
  subst e2
  obtain ⟨n1,n2⟩:=List.nodup_cons.1 hnd
  have hE:Ext (· = b) w (Wk.put w b (.cells (lay cur (o+k*sz α) vs) T (0,0))):=Ext.refl.put (.inl rfl)
  have hlt:=Rp.lt (h.mine i hi)
  have hk1:(k+1)*sz α=k*sz α+sz α:=by rw [Nat.add_mul,Nat.one_mul]
  refine h.set hi (q:=Wk.mine [.slice ad n cap] (xs.set k x) (b::(f1++([]++f2)))) (hE.mono fun b' _ e=>by subst e; simp [Wk.mine]) ?_ ?_ ?_
  · refine hback _ _ x [] (eS hb) (gD _ _ _) (fun j hj=>jN _ _ _ _ (by rcases hj with hj | hj; exact .inl hj; exact .inr (by rw [hl,Nat.add_assoc,← hk1]; exact hj))) (fun b' hb'=>hE.block b' (hlt b' (by simp [hb'])) fun e=>?_) (fun b' hb'=>hE.block b' (hlt b' (by simp [hb'])) fun e=>?_) ?_
    · subst e; exact n1 (by simp [hb'])
    · subst e; exact n1 (by simp [hb'])
    · rw [← hl,mN _ _ _ (by rw [hl]; omega)]
      exact Rp.st hvs σ
  · change (b::(f1++([]++f2))).Nodup
    refine hnd.sublist ?_
    exact List.Sublist.cons_cons _ (List.Sublist.append (.refl _) (List.Sublist.append (List.nil_sublist _) (.refl _)))
  · intro b' hb'
    refine .inl ?_
    change b'∈b::(f1++([]++f2)) at hb'
    change b'∈b::(f1++(fk++f2))
    simp only [List.mem_cons,List.mem_append,List.nil_append] at hb' ⊢
    rcases hb' with h | h | h
    · exact .inl h
    · exact .inr (.inl h)
    · exact .inr (.inr (.inr h))
end
end
end Go.Wk
namespace Go.Wk
open Rp (sz own)
theorem p8 {x:Int}(h:I64ok x):IntKind.i64.wrap x=x:=by
  obtain ⟨h1,h2⟩:=h
  exact IntWalk.i64_in _ ⟨ω,ω⟩
section
variable {P:Program}{n:Nat}{ops:Array Oper}{Q:Post}{L:Env}{w w0:World}{M:Nat→Prop}{Δ F:List Rsc}{rest:List Oper}{d:Nat}{ty:TypeId}{p:String}{af:Array Edge}{g:Option (Nat × Bool)}
theorem jU {o:Oper}{ob:Obj}{v:Nat→Value}(hw:Wn ops n L o) (hd:o.dst=some d) (hn:Nat.blt d n=true) (hp:Pn P n L w o (v w.heap.size) (w.alloc ob)) (H:Sep M w0 Δ F w)
    (k:∀ b w',Ext No w w'→w.heap.size≤b→Sep M w0 (Δ++[box b ob]) F w'→RL P n ops Q rest ((d,v b)::L) w'):RL P n ops Q (o::rest) L w:=
  gy hw hd hn hp (k _ _ (Ext.refl.alloc ob) (Nat.le_refl _) (H.alloc ob))
theorem bx {t:TypeId}{x:Operand}{v:Value}(hw:Wn ops n L ⟨some d,.box t x,ty,p,af,g⟩) (hn:Nat.blt d n=true) (hx:evL L x=some v) (H:Sep M w0 Δ F w)
    (k:∀ b w',Ext No w w'→w.heap.size≤b→Sep M w0 (Δ++[box b (.cells v.cells t)]) F w'→RL P n ops Q rest ((d,.pointer (some ⟨b,0,none⟩))::L) w') :
    RL P n ops Q (⟨some d,.box t x,ty,p,af,g⟩::rest) L w:=
  jU (v:=fun b => .pointer (some ⟨b,0,none⟩)) hw rfl hn (p3 hx) H k
theorem bu {t:TypeId}{z:Value}(hw:Wn ops n L ⟨some d,.alloc t,ty,p,af,g⟩) (hn:Nat.blt d n=true) (hz:∀ w,(zeroValue t).run P w = .ok z w) (H:Sep M w0 Δ F w)
    (k:∀ b w',Ext No w w'→w.heap.size≤b→Sep M w0 (Δ++[box b (.cells z.cells t)]) F w'→RL P n ops Q rest ((d,.pointer (some ⟨b,0,none⟩))::L) w') :
    RL P n ops Q (⟨some d,.alloc t,ty,p,af,g⟩::rest) L w:=
  jU (v:=fun b => .pointer (some ⟨b,0,none⟩)) hw rfl hn (kX hz) H k
theorem bw {t:TypeId}{x y:Operand}{b off:Nat}{cs:List Value}{T v} (hw:Wn ops n L ⟨none,.store t x y,ty,p,af,g⟩) (hs:∀ w,(sizeOf t).run P w = .ok 1 w) (hx:evL L x=some (.pointer (some ⟨b,off,none⟩))) (hy:evL L y=some v) (h1:v.oneCell'=true)
    (H:Sep M w0 Δ F w) (i:Nat) (hi:Δ[i]? = some (box b (.cells cs.toArray T))) (ho:Nat.blt off cs.length=true)
    (k:∀ w',Ext (· = b) w w'→Sep M w0 (Δ.set i (box b (.cells (cs.set off v).toArray T))) F w'→RL P n ops Q rest L w') :
    RL P n ops Q (⟨none,.store t x y,ty,p,af,g⟩::rest) L w:=by
  have h:=k _ (Ext.refl.put (.inl rfl)) (H.put i _ hi)
  rw [← List.setIfInBounds_toArray] at h
  exact pE hw rfl (iS hs hx hy h1 (H.box i hi) (by rw [List.size_toArray]; exact Nat.le_of_ble_eq_true ho)) h
def aJ (cs:List Value) (off:Nat) (vs:List Value):List Value:=cs.take off++vs++cs.drop (off+vs.length)
theorem iB {cs vs:List Value}{off:Nat}(h:off+vs.length≤cs.length):lay cs.toArray off vs=(aJ cs off vs).toArray:=by
  apply Array.toList_inj.1
  rw [fc _ _ _ (by simpa using h)]
  simp [aJ]
def iH:List Value→Bool
  | []=>true
  | v::vs=>v.oneCell' && iH vs
theorem eH:∀ {vs:List Value},iH vs=true→∀ v∈vs,v.oneCell'=true
  | [],_,v,hv=>by simp at hv
  | u::vs,h,v,hv=>by
    unfold iH at h
    simp only [Bool.and_eq_true] at h
    rcases List.mem_cons.1 hv with rfl | hv
    · exact h.1
    · exact eH h.2 v hv
theorem aH {t:TypeId}{x y:Operand}{b off sz:Nat}{cs:List Value}{T} {vs:List Value}(hw:Wn ops n L ⟨none,.store t x y,ty,p,af,g⟩) (hs:∀ w,(sizeOf t).run P w = .ok sz w) (hx:evL L x=some (.pointer (some ⟨b,off,none⟩))) (hy:evL L y=some (.agg vs.toArray))
    (hl:vs.length=sz) (h1:iH vs=true) (H:Sep M w0 Δ F w) (i:Nat) (hi:Δ[i]? = some (box b (.cells cs.toArray T))) (ho:Nat.ble (off+sz) cs.length=true)
    (k:∀ w',Ext (· = b) w w'→Sep M w0 (Δ.set i (box b (.cells (aJ cs off vs).toArray T))) F w'→RL P n ops Q rest L w') :
    RL P n ops Q (⟨none,.store t x y,ty,p,af,g⟩::rest) L w:=by
  have ho':=Nat.le_of_ble_eq_true ho
  have h:=k _ (Ext.refl.put (.inl rfl)) (H.put i _ hi)
  rw [← iB (by rw [hl]; exact ho')] at h
  exact pE hw rfl (gW hs hx hy hl (eH h1) (H.box i hi) (by simpa using ho')) h
section
variable {α:Type}[Rp α]
theorem ol {t e:TypeId}{x:Operand}{z:Value}{bytes m:Nat}{y:α}(hw:Wn ops n L ⟨some d,.makeSlice t x x,ty,p,af,g⟩) (hn:Nat.blt d n=true) (ht:P.underlying t=some (.slice e)) (hT:Ty P e z (sz α) bytes) (hz:∀ w,own true w z.cells.toList y [])
    (hx:evL L x=some (.int .i64 m)) (h48:bytes*m≤281474976710656) (h63:m≤maxLen) (H:Sep M w0 Δ F w)
    (k:∀ b w',Ext No w w'→w.heap.size≤b→Sep M w0 (Δ++[mine [.slice (some ⟨b,0,none⟩) m m] (List.replicate m y) [b]]) F w'→RL P n ops Q rest ((d,.slice (some ⟨b,0,none⟩) m m)::L) w') :
    RL P n ops Q (⟨some d,.makeSlice t x x,ty,p,af,g⟩::rest) L w:=
  gy hw rfl hn (oN ht hT hx h48 h63) (k _ _ (Ext.refl.alloc _) (Nat.le_refl _) (H.made hz h63))
theorem gS {x y:Operand}{t e:TypeId}{z:Value}{bytes:Nat}{v:Value}{xs:List α}{fp:List Nat}{b2 c2:Nat}{T} {cs:List Value}{u:α}(hw:Wn ops n L ⟨some d,.call ⟨.builtin .append,#[x,y],#[t,t]⟩,ty,p,af,g⟩) (hn:Nat.blt d n=true)
    (ht:P.underlying t=some (.slice e)) (hT:Ty P e z (sz α) bytes) (hz:z.cells.size=sz α) (hx:evL L x=some v) (hy:evL L y=some (.slice (some ⟨b2,0,none⟩) 1 c2))
    (H:Sep M w0 Δ F w) (i j:Nat) (hi:Δ[i]? = some (mine [v] xs fp)) (hj:Δ[j]? = some (box b2 (.cells cs.toArray T))) (hu:own true w cs u []) (h63:xs.length+1≤maxLen) (hb48:(xs.length+1)*bytes≤140737488355328)
    (k:∀ v' w' fp',Sep M w0 (Δ.set i (mine [v'] (xs++[u]) fp')) F w'→RL P n ops Q rest ((d,v')::L) w') :
    RL P n ops Q (⟨some d,.call ⟨.builtin .append,#[x,y],#[t,t]⟩,ty,p,af,g⟩::rest) L w:=by
  obtain ⟨v',w',fp',h1,h2⟩:=H.app1 i hi (ty:=ty) ht hT hz (At.whole (H.box j hj)) hu h63 hb48
  exact gy hw rfl hn (fX hx hy h1) (k _ _ _ h2)
theorem lu {x y:Operand}{t e:TypeId}{z:Value}{bytes:Nat}{v:Value}{xs:List α}{fp:List Nat}{b2 c2:Nat}{T} {cs:List Value}{u:α}{fu} (hw:Wn ops n L ⟨some d,.call ⟨.builtin .append,#[x,y],#[t,t]⟩,ty,p,af,g⟩) (hn:Nat.blt d n=true)
    (ht:P.underlying t=some (.slice e)) (hT:Ty P e z (sz α) bytes) (hz:z.cells.size=sz α) (hx:evL L x=some v) (hy:evL L y=some (.slice (some ⟨b2,0,none⟩) 1 c2))
    (H:Sep M w0 Δ F w) (i j q:Nat) (hi:Δ[i]? = some (mine [v] xs fp)) (hj:Δ[j]? = some (box b2 (.cells cs.toArray T))) (hq:Δ[q]? = some (mine cs u fu)) (hqi:Nat.beq q i=false) (h63:xs.length+1≤maxLen) (hb48:(xs.length+1)*bytes≤140737488355328)
    (k:∀ v' w' fp',Sep M w0 ((Δ.set q gone).set i (mine [v'] (xs++[u]) fp')) F w'→RL P n ops Q rest ((d,v')::L) w') :
    RL P n ops Q (⟨some d,.call ⟨.builtin .append,#[x,y],#[t,t]⟩,ty,p,af,g⟩::rest) L w:=by
  obtain ⟨v',w',fp',h1,h2⟩:=H.app2 i q hi (ty:=ty) ht hT hz hq hqi (At.whole (H.box j hj)) h63 hb48
  exact gy hw rfl hn (fX hx hy h1) (k _ _ _ h2)
end
theorem bP {o:Oper}{f:FuncId}{args:Array Value}{x:Value}(hw:Wn ops n L o) (hd:o.dst=some d) (hn:Nat.blt d n=true) (hp:Pc P n L w o f args)
    (hc:Ret P f args w fun v w'=>Ext No w w'∧v=x) (k:∀ w',Ext No w w'→RL P n ops Q rest ((d,x)::L) w'):RL P n ops Q (o::rest) L w:=
  dl hw hd hn hp hc fun _ w' h=>by obtain ⟨h1,rfl⟩:=h; exact k w' h1
theorem iZ {t e:TypeId}{z:Value}{size bytes len:Nat}{d:Option Tmp}{parts:Array (Nat × Operand)}{vs:List Value}(ht:P.underlying t=some (.slice e)) (hT:Ty P e z size bytes) (hs:0<size)
    (hl:vs.length=len) (hp:∀ a,Good n a L→(parts.map fun (i,x)=>(i,a.eval x)).toList=(vs.zipIdx 0).map fun x=>(x.2,x.1)) (h1:∀ v∈vs,v.cells.size=size) (h0:0<len) (hsmall:len*size≤2^24) :
    Pn P n L w ⟨d,.buildSlice t len parts,ty,p,af,g⟩ (.slice (some ⟨w.heap.size,0,none⟩) len len) (w.alloc (.cells (vs.flatMap fun v=>v.cells.toList).toArray e)):=fun a ha=>by
  obtain ⟨i,hi1,hi2,hi3,hi4⟩:=hT.parts
  have hne:¬ len*i.size=0:=by rw [hi3]; exact Nat.ne_of_gt (Nat.mul_pos h0 hs)
  have hr:=run_buildSlice (P:=P) w t e len (parts.map fun (i,x)=>(i,a.eval x)) (vs.flatMap fun v=>v.cells.toList).toArray i z ht hi1 hi2 (by rw [hi3]; omega) hne (by
    rw [hp a ha,hi3]
    exact Great.fill_whole hs vs _ h1 (by rw [hl]; simp))
  simp [execOp] at hr ⊢
  rw [hr]
  rfl
theorem jz {x:Operand}{v:Value}(hx:evL L x=some v):∀ a,Good n a L→((#[(0,x)]:Array (Nat × Operand)).map fun (i,x)=>(i,a.eval x)).toList=(([v]:List Value).zipIdx 0).map fun x=>(x.2,x.1):=fun a ha=>by
  simp [ha.eval hx]
theorem fa {t e:TypeId}{x:Operand}{z v:Value}{size bytes:Nat}(hw:Wn ops n L ⟨some d,.buildSlice t 1 #[(0,x)],ty,p,af,g⟩) (hn:Nat.blt d n=true) (ht:P.underlying t=some (.slice e)) (hT:Ty P e z size bytes) (hs:Nat.blt 0 size=true)
    (hx:evL L x=some v) (h1:v.cells.size=size) (hsmall:Nat.ble size 16777216=true) (H:Sep M w0 Δ F w)
    (k:∀ b w',Ext No w w'→w.heap.size≤b→Sep M w0 (Δ++[box b (.cells v.cells.toList.toArray e)]) F w'→RL P n ops Q rest ((d,.slice (some ⟨b,0,none⟩) 1 1)::L) w') :
    RL P n ops Q (⟨some d,.buildSlice t 1 #[(0,x)],ty,p,af,g⟩::rest) L w:=by
  have hp:=iZ (n:=n) (w:=w) (ty:=ty) (p:=p) (af:=af) (g:=g) (d:=some d) (parts := #[(0,x)]) (vs:=[v]) (len:=1) ht hT (Nat.le_of_ble_eq_true hs) rfl (jz hx) (by simpa using h1) ω (by have:=Nat.le_of_ble_eq_true hsmall; omega)
  simp only [List.flatMap_cons,List.flatMap_nil,List.append_nil] at hp
  exact jU (v:=fun b => .slice (some ⟨b,0,none⟩) 1 1) hw rfl hn hp H k
theorem ma {t e:TypeId}{z:Value}{size bytes:Nat}{d:Option Tmp}(ht:P.underlying t=some (.slice e)) (hT:Ty P e z size bytes) :
    Pn P n L w ⟨d,.buildSlice t 0 #[],ty,p,af,g⟩ (.slice (some ⟨w.heap.size,0,none⟩) 0 0) (w.alloc (.cells #[] e)):=fun a ha=>by
  obtain ⟨i,hi1,hi2,hi3,hi4⟩:=hT.parts
  simp [execOp,Instr.buildSlice,run_underlying ht,sizeOf,typeInfo,hi1,Instr.fill,newRow,newObj,Array.range_zero']
  rfl
theorem fb {α:Type}[Rp α] {t e:TypeId}{z:Value}{size bytes:Nat}(hw:Wn ops n L ⟨some d,.buildSlice t 0 #[],ty,p,af,g⟩) (hn:Nat.blt d n=true) (ht:P.underlying t=some (.slice e)) (hT:Ty P e z size bytes) (H:Sep M w0 Δ F w)
    (k:∀ b w',Ext No w w'→w.heap.size≤b→Sep M w0 (Δ++[mine [.slice (some ⟨b,0,none⟩) 0 0] ([]:List α) [b]]) F w'→RL P n ops Q rest ((d,.slice (some ⟨b,0,none⟩) 0 0)::L) w') :
    RL P n ops Q (⟨some d,.buildSlice t 0 #[],ty,p,af,g⟩::rest) L w:=
  gy hw rfl hn (ma ht hT) (k _ _ (Ext.refl.alloc _) (Nat.le_refl _) (H.add (Ext.refl.alloc _) (r:=mine [.slice (some ⟨w.heap.size,0,none⟩) 0 0] ([]:List α) [w.heap.size])
    (.inr (.inr ⟨w.heap.size,0,0,#[],e,(0,0),[],rfl,rfl,heap_alloc_new _ _,fun _=>rfl,Nat.le_refl _,Nat.zero_le _,σ,rfl⟩)) (by simp [mine]) (by simp [mine])))
theorem n9 {t:TypeId}{parts:Array (Nat × Operand)}{d:Option Tmp}{cells:Array Value}(hb:∀ a,Good n a L→P.built t (parts.map fun (i,x)=>(i,a.eval x)).toList=some cells) :
    Py P n L w ⟨d,.build t parts,ty,p,af,g⟩ (.agg cells):=fun a ha=>by
  have hr:=run_build (P:=P) w t _ cells (hb a ha)
  simp [execOp] at hr ⊢
  rw [hr]
  rfl
end
end Go.Wk
namespace Go.Wk
theorem Z {α:Sort _}{a:α}:a=a:=rfl
def oQ:List Nat→List (Nat × Bool)
 | []=>[]
 | x::xs=>(x / 2,x % 2 == 1)::oQ xs
theorem iO {x:Int}(h1 : -9223372036854775808≤x:=by omega) (h2:x≤9223372036854775807:=by omega):IntKind.i64.wrap x=x:=p8 ⟨h1,h2⟩
/-- A plain operation,carried out: what it leaves,or nothing is known. -/
def evB (L:Env):Op→Option Value
 | .move x=>evL L x
 | .assign x=>evL L x
 | .nilCheck x=>match evL L x with
  | some (.pointer (some a))=>some (.pointer (some a))
  | _=>none
 | .extract x i=>match evL L x with
  | some (.tuple vs)=>vs[i]?
  | _=>none
 | .binOp b _ x y _=>match evL L x with
  | some (.int k i)=>match evL L y with
   | some (.int k2 j)=>match decide (k=k2) with
    | true=>match b with
     | .eql=>some (.bool (decide (i=j)))
     | .neq=>some (.bool (decide (i≠j)))
     | .lss=>some (.bool (decide (i<j)))
     | .leq=>some (.bool (decide (i≤j)))
     | .gtr=>some (.bool (decide (j<i)))
     | .geq=>some (.bool (decide (j≤i)))
     | _=>none
    | false=>none
   | _=>none
  | _=>none
 | _=>none
theorem nU {P:Program}{n:Nat}{L:Env}{w:World}{op:Op}{v:Value}{d:Option Tmp}{ty:TypeId}{p:String}{af:Array Edge}{g:Option (Nat × Bool)}(h:evB L op=some v):Py P n L w ⟨d,op,ty,p,af,g⟩ v:=by
  unfold evB at h
  repeat' split at h
  all_goals (try (have ek:=of_decide_eq_true (by assumption:decide (_=(_:IntKind))=true); subst ek))
  all_goals first
    | exact aW h
    | exact cv h
    | (cases h; exact ex η)
    | (exact pc η h)
    | (cases h; exact cV η η)
    | (cases h; exact es η η)
    | (cases h; exact bk η η)
    | (cases h; exact jT η η)
    | (cases h; exact dg η η)
    | (cases h; exact hC η η)
    | cases h
/-- Whether a guard says that it is left out. -/
def evG (ops:Array Oper) (L:Env) (j:Nat) (b:Bool):Bool:=match dO ops j with
 | some t=>match look L t with
  | some (.bool c)=>match b,c with
   | true,false=>true
   | false,true=>true
   | _,_=>false
  | _=>false
 | none=>false
theorem lF {n:Nat}{ops:Array Oper}{L:Env}{j:Nat}{b:Bool}{o:Oper}(hg:o.guard=some (j,b)) (h:evG ops L j b=true):Wo ops n L o:=by
  unfold evG at h
  repeat' split at h
  all_goals first
    | (exact wog (b:=false) hg η η)
    | (exact wog (b:=true) hg η η)
    | cases h
def evS (n:Nat) (ops:Array Oper):Nat→List Oper→Env→Option (List Oper × Env)
 | 0,l,L=>some (l,L)
 | k+1,⟨some d,op,_,_,_,g⟩::l,L=>match Nat.blt d n with
  | true=>match g with
   | none=>match evB L op with
    | some v=>evS n ops k l ((d,v)::L)
    | none=>none
   | some (j,b)=>match evG ops L j b with
    | true=>evS n ops k l ((d,undef)::L)
    | false=>none
  | false=>none
 | _+1,_,_=>none
theorem sR {P:Program}{n:Nat}{ops:Array Oper}{Q:Post}{w:World}:∀ (k:Nat) {l l':List Oper}{L L':Env},evS n ops k l L=some (l',L')→RL P n ops Q l' L' w→RL P n ops Q l L w
 | 0,_,_,_,_,h,kk=>by cases h; exact kk
 | k+1,[],_,_,_,h,_=>by cases h
 | k+1,⟨none,_,_,_,_,_⟩::_,_,_,_,h,_=>by cases h
 | k+1,⟨some d,op,ty,p,af,g⟩::l,l',L,L',h,kk=>by
  unfold evS at h
  repeat' split at h
  all_goals first
   | (cases h; done)
   | exact au (wn rfl) rfl η (nU η) (sR k h kk)
   | exact jH (lF rfl η) rfl η (sR k h kk)
def evD (n:Nat) (ops:Array Oper):Nat→List (Nat × Bool)→Env→Option (List (Nat × Bool) × Env)
 | 0,l,L=>some (l,L)
 | k+1,(i,a)::l,L=>match ops.toList[i]? with
  | some ⟨some d,op,_,_,_,g⟩=>match Nat.blt d n with
   | true=>match g with
    | none=>match a with
     | true=>match evB L op with
      | some v=>evD n ops k l ((d,v)::L)
      | none=>none
     | false=>none
    | some (j,b)=>match evG ops L j b with
     | true=>evD n ops k l ((d,undef)::L)
     | false=>none
   | false=>none
  | _=>none
 | _+1,[],_=>none
theorem dR {P:Program}{n:Nat}{ops:Array Oper}{Q:Post}{S:World→Prop}{w:World}:∀ (k:Nat) {l l':List (Nat × Bool)}{L L':Env},evD n ops k l L=some (l',L')→DL P n ops Q S l' L' w→DL P n ops Q S l L w
 | 0,_,_,_,_,h,kk=>by cases h; exact kk
 | k+1,[],_,_,_,h,_=>by cases h
 | k+1,(i,a)::l,l',L,L',h,kk=>by
  unfold evD at h
  repeat' split at h
  all_goals first
   | (cases h; done)
   | exact cZ η (wn rfl) rfl η (fun x _=>nU η) (dR k h kk)
   | (cases a; (exact oW η (lF rfl η) rfl η (dR k h kk)); (exact lC η (lF rfl η) rfl η (dR k h kk)))
end Go.Wk
namespace Go.Wk
section
variable {P:Program}{n:Nat}{ops:Array Oper}{Q:Post}{L:Env}{w w0 w1:World}{M N:Nat→Prop}{Δ F:List Rsc}{d:Nat}{o:Oper}{f:FuncId}{fn:Func}{args:Array Value}{u v:Value}{R:Value→World→Prop}{rest:List Oper}{rest2:List (Nat × Bool)}{S:World→Prop}{i:Nat}{ty:TypeId}{p:String}{af:Array Edge}{xs:Array Operand}{ats:Array TypeId}{vs:List Value}{x:Operand}
theorem sC (hf:P.funcs[f]? = some fn) (hm:(fn.name == "runtime.NumGoroutine")=false) (hb:(Nat.blt d n,fn.body.isNone,di L xs.toList)=(true,false,some vs)) (hc:Ret P f vs.toArray w R)
  (k:∀ v w',R v w'→RL P n ops Q rest ((d,v)::L) w'):RL P n ops Q (⟨some d,.call ⟨.value (.func f),xs,ats⟩,ty,p,af,none⟩::rest) L w:=by
 simp only [Prod.mk.injEq] at hb
 exact dl (wn rfl) rfl hb.1 (aG hf hb.2.1 hm hb.2.2) hc k
theorem sE (hf:P.funcs[f]? = some fn) (hm:(fn.name == "runtime.NumGoroutine")=false) (hb:(Nat.blt d n,fn.body.isNone,di L xs.toList)=(true,false,some vs)) (hc:Ret P f vs.toArray w fun v w'=>Ext No w w'∧v=u) (H:Sep M w0 Δ F w)
  (k:∀ w',Ext No w w'→Sep M w0 Δ F w'→RL P n ops Q rest ((d,u)::L) w'):RL P n ops Q (⟨some d,.call ⟨.value (.func f),xs,ats⟩,ty,p,af,none⟩::rest) L w:=
 sC hf hm hb hc fun _ w' r=>by obtain ⟨e,rfl⟩:=r; exact k w' e (H.to e)
theorem dC (hf:P.funcs[f]? = some fn) (hm:(fn.name == "runtime.NumGoroutine")=false) (hb:(ops.toList[i]?,Nat.blt d n,fn.body.isNone,di L xs.toList)=(some ⟨some d,.call ⟨.value (.func f),xs,ats⟩,ty,p,af,none⟩,true,false,some vs)) (hc:Ret P f vs.toArray w fun v w'=>Ext No w w'∧R v w')
  (k:∀ v w',Ext No w w'∧R v w'→DL P n ops Q (Ext N w1) rest2 ((d,v)::L) w'):DL P n ops Q (Ext N w1) ((i,false)::rest2) L w:=by
 simp only [Prod.mk.injEq] at hb
 exact bm hb.1 (wn rfl) rfl hb.2.1 (aG hf hb.2.2.1 hm hb.2.2.2) hc (fun hS _ _ r _=>hS.trans r.1.no) k
theorem sF {s:TypeId}{fs:Array Field}{b o i sz off:Nat}{f:Field}(hu:P.underlying s=some (.struct fs)) (h:(Nat.blt d n,fs[i]?,evL L x,o+f.offset)=(true,some f,some (.pointer (some ⟨b,o,none⟩)),off)) (hs:∀ w,(sizeOf f.type).run P w = .ok (sz+1) w)
  (k:RL P n ops Q rest ((d,.pointer (some ⟨b,off,none⟩))::L) w):RL P n ops Q (⟨some d,.fieldAddr s x i,ty,p,af,none⟩::rest) L w:=by
 simp only [Prod.mk.injEq] at h
 exact au (wn rfl) rfl h.1 (ao hu h.2.1 hs h.2.2.1 h.2.2.2) k
theorem sLd {t td} {b o:Nat}{cs:List Value}{T fr} (hu:P.underlying t=some td) (hb:w.heap[b]? = some (.cells cs.toArray T fr)) (h:(Nat.blt d n,single td,evL L x,cs[o]?)=(true,true,some (.pointer (some ⟨b,o,none⟩)),some v))
  (k:RL P n ops Q rest ((d,v)::L) w):RL P n ops Q (⟨some d,.load t x,ty,p,af,none⟩::rest) L w:=by
 simp only [Prod.mk.injEq] at h
 exact au (wn rfl) rfl h.1 (aq hu h.2.1 h.2.2.1 (az hb h.2.2.2)) k
theorem rN {t:Nat}(hQ:∀ L w,fin P fn R .ret L w→Q .ret L w) (hr:fn.results = #[.tmp t]) (hv:look L t=some v) (h:R v w):RL P n ops (thn P n .ret Q) [] L w:=aa (rT hQ hr hv h)
theorem rA (hQ:∀ L w,fin P fn R .ret L w→Q .ret L w) (hr:fn.results = #[.tmp d]) (h1:(Nat.blt d n,evL L x)=(true,some v)) (h:R v w):RL P n ops (thn P n .ret Q) [⟨some d,.assign x,ty,p,af,none⟩] L w:=by
 simp only [Prod.mk.injEq] at h1
 exact sA h1.1 h1.2 (rN hQ hr (by simp [look]) h)
theorem dF (hc:(Nat.ble ops.size 1000,Nat.ble 1000 i,Nat.ble (i-1000) rest2.length,(rest2.take (i-1000)).isEmpty,(rest2.drop (i-1000)).isEmpty)=(true,true,true,false,false)) (h1:DL P n ops Q S (rest2.take (i-1000)) L w) (h2:DL P n ops Q S (rest2.drop (i-1000)) L w):DL P n ops Q S ((i,false)::rest2) L w:=by
 simp only [Prod.mk.injEq] at hc
 have h3:=Nat.le_of_ble_eq_true hc.2.1
 have h4:=Nat.le_of_ble_eq_true hc.2.2.1
 refine pY (l1:=rest2.take (i-1000)) (l2:=rest2.drop (i-1000)) hc.1 ?_ hc.2.2.2.1 hc.2.2.2.2 h1 h2
 rw [List.take_append_drop,List.length_take,Nat.min_eq_left h4,Nat.add_sub_cancel' h3]
end
end Go.Wk

namespace Go.Wk
def gv (e want:Bool) (v:Value):Value:=if e=want then v else undef
section
variable {P:Program}{n:Nat}{ops:Array Oper}{Q:Post}{L:Env}{w:World}{S:World→Prop}
theorem wgE {o:Oper}{j t b e} (h:o.guard=some (j,b)) (hd:dO ops j=some t) (hb:look L t=some (.bool e)) (he:e=b):Wn ops n L o:=by
  subst he; exact wg h hd hb
theorem cg {c y:Operand}{e b:Bool}{d:Option Tmp}{ty:TypeId}{p:String}{af:Array Edge}{g:Option (Nat × Bool)}(hc:evL L c=some (.bool e)) (hy:evL L y=some (gv e false (.bool b))) :
    Py P n L w ⟨d,.pick c (.const (.bool true)) y,ty,p,af,g⟩ (.bool (e || b)):=by
  cases e
  · exact dQ hc hy
  · exact bZ hc rfl
theorem b0 {c y:Operand}{e b:Bool}{d:Option Tmp}{ty:TypeId}{p:String}{af:Array Edge}{g:Option (Nat × Bool)}(hc:evL L c=some (.bool e)) (hy:evL L y=some (gv e true (.bool b))) :
    Py P n L w ⟨d,.pick c y (.const (.bool false)),ty,p,af,g⟩ (.bool (e && b)):=by
  cases e
  · exact dQ hc rfl
  · exact bZ hc hy
def fresh (d:Nat):Env→Bool
  | []=>true
  | p::L => !(Nat.beq p.1 d) && fresh d L
theorem iT {d:Nat}:∀ {L:Env},fresh d L=true→look L d=none
  | [],_=>rfl
  | (u,x)::L,h=>by
    unfold fresh at h
    simp only [Bool.and_eq_true] at h
    unfold look
    cases hb:Nat.beq u d with
    | true=>rw [hb] at h; simp at h
    | false=>exact iT h.2
theorem nJ {o:Oper}{j t b} (h:o.guard=some (j,b)) (hd:dO ops j=some t) (hu:look L t=some undef):Wo ops n L o:=fun a hg=>by
  have h1:=hg.cov t _ hu
  have hd':(ops[j]?).bind (·.dst)=some t:=by simpa [dO] using hd
  have hy:yielded ops a.tmps j=none:=by
    simp only [yielded,hd',Option.bind_some]
    simp only [Array.getD_eq_getD_getElem?] at h1
    cases ht:a.tmps[t]? with
    | none=>rfl
    | some v=>rw [ht] at h1; simp at h1; subst h1; rfl
  simp [Region.wanted,h,hy]
theorem qm {o:Oper}{j t b e} (h:o.guard=some (j,b)) (hd:dO ops j=some t) (hb:look L t=some (.bool e)) (he:e≠b):Wo ops n L o:=fun a hg=>by
  simp [Region.wanted,h,gY hg hd hb,he]
def skG (ops:Array Oper) (n:Nat) (L:Env) (j:Nat) (want:Bool):List Nat→List Oper→Bool
  | _,[]=>true
  | D,o::l=>(match o.guard with
      | some (j',b)=>(Nat.beq j' j && (b == want)) || (match dO ops j' with | some t=>D.contains t | none=>false)
      | none=>false) && (match o.dst with
      | some d=>fresh d L && Nat.blt d n && skG ops n L j want (d::D) l
      | none=>skG ops n L j want D l)
def keeps (L' L:Env):Prop:=∀ t v,look L t=some v→look L' t=some v
theorem k0:keeps L L:=fun _ _ h=>h
theorem kx {L':Env}{d v} (hf:fresh d L=true) (h:keeps L' L):keeps ((d,v)::L') L:=fun t u ht=>by
  unfold look
  cases hb:Nat.beq d t with
  | true=>
    have:d=t:=Nat.eq_of_beq_eq_true hb
    subst this
    rw [iT hf] at ht; cases ht
  | false=>exact h t u ht
theorem iV {j tg t:Nat}{want e:Bool}(hd:dO ops j=some tg) (he:e≠want) {rest:List Oper}(hb:look L tg=some (.bool e)) (k:∀ L',look L' t=some undef→keeps L' L→RL P n ops Q rest L' w) :
    ∀ (l:List Oper) (D:List Nat) (L':Env),skG ops n L j want D l=true→(∀ d∈D,look L' d=some undef)→keeps L' L→(t∈D∨(l.any fun o=>match o.dst with | some d=>Nat.beq d t | none=>false)=true)→RL P n ops Q (l++rest) L' w
  | [],D,L',_,hD,hs,ht=>k L' (hD t (ht.resolve_right σ)) hs
  | o::l,D,L',hc,hD,hs,ht=>by
    unfold skG at hc
    simp only [Bool.and_eq_true] at hc
    obtain ⟨hg,hc⟩:=hc
    have hw:Wo ops n L' o:=by
      cases hgu:o.guard with
      | none=>rw [hgu] at hg; cases hg
      | some q=>
        obtain ⟨j',b⟩:=q
        rw [hgu] at hg
        simp only [Bool.or_eq_true,Bool.and_eq_true] at hg
        rcases hg with ⟨h1,h2⟩ | h1
        · have:j'=j:=Nat.eq_of_beq_eq_true h1
          subst this
          have hbw:b=want:=by simpa using h2
          subst hbw
          exact qm hgu hd (hs _ _ hb) he
        · cases hdo:dO ops j' with
          | none=>rw [hdo] at h1; cases h1
          | some t=>rw [hdo] at h1; exact nJ hgu hdo (hD t (by simpa using h1))
    cases hdst:o.dst with
    | none=>
      rw [hdst] at hc
      refine o6 hw hdst (iV hd he hb k l D L' hc hD hs ?_)
      simpa [hdst] using ht
    | some d=>
      rw [hdst] at hc
      simp only [Bool.and_eq_true] at hc
      refine jH hw hdst hc.1.2 (iV hd he hb k l (d::D) _ hc.2 (fun x hx=>?_) (kx hc.1.1 hs) ?_)
      · unfold look
        cases hb':Nat.beq d x with
        | true=>rfl
        | false=>
          rcases List.mem_cons.1 hx with rfl | hx
          · simp at hb'
          · exact hD x hx
      · rcases ht with ht | ht
        · exact .inl (by simp [ht])
        · simp only [List.any_cons,hdst,Bool.or_eq_true] at ht
          rcases ht with ht | ht
          · exact .inl (by rw [Nat.eq_of_beq_eq_true ht]; simp)
          · exact .inr ht
theorem fg {t:Nat}{v:Value}{M:Env}(hs:keeps M L) (ht:look M t=some v):keeps M ((t,v)::L):=fun u x h=>by
  unfold look at h
  cases hb:Nat.beq t u with
  | true=>
    have:t=u:=Nat.eq_of_beq_eq_true hb
    subst this
    rw [hb] at h; cases h; exact ht
  | false=>rw [hb] at h; exact hs u x h
theorem bG {l:List Oper}(m:Nat) {j tg t:Nat}{want e:Bool}{v:Value}(hd:dO ops j=some tg) (hb:look L tg=some (.bool e)) (hc:skG ops n L j want [] (l.take m)=true)
    (hD:((l.take m).any fun o=>match o.dst with | some d=>Nat.beq d t | none=>false)=true)
    (h1:e=want→(∀ L' w',keeps L' L→look L' t=some v→Ext No w w'→RL P n ops Q (l.drop m) L' w')→RL P n ops Q l L w)
    (k:∀ w',Ext No w w'→RL P n ops Q (l.drop m) ((t,gv e want v)::L) w'):RL P n ops Q l L w:=by
  by_cases he:e=want
  · refine h1 he fun L' w' hs ht hE a ha=>k w' hE a ⟨ha.size,ha.defers,fun u x hu=>ha.cov u x (fg hs ht u x ?_)⟩
    rwa [gv,if_pos he] at hu
  · have hk:=k w Ext.refl
    rw [gv,if_neg he] at hk
    have:=iV (t:=t) (rest:=l.drop m) hd he hb (fun L' ht hs a ha=>hk a ⟨ha.size,ha.defers,fun u x hu=>ha.cov u x (fg hs ht u x hu)⟩) (l.take m) [] L hc σ k0 (.inr hD)
    rwa [List.take_append_drop] at this
end
end Go.Wk
namespace Go.Wk
open Rp (sz own)
theorem am {α:Type}{p:α→Prop}{a:α}{l:List α}(h:p a) (k:∀ x∈l,p x):∀ x∈a::l,p x:=fun x hx=>by
  rcases List.mem_cons.1 hx with rfl | hx
  · exact h
  · exact k x hx
theorem pT {α:Type}[Rp α]:∀ w,own true w (Value.slice none 0 0).cells.toList ([]:List α) []:=fun _ => .inr (.inl ⟨rfl,rfl,rfl⟩)
theorem pN {w:World}{x:UInt8}:own true w [.int .u8 x.toNat] x []:=⟨rfl,rfl⟩
theorem lw {w:World}{x:Int}(h:I64ok x):own true w [.int .i64 x] x []:=⟨rfl,rfl,h⟩
def ins (v lo hi:Int):Bool:=decide (lo≤v) && decide (v≤hi)
theorem dN {v lo hi:Int}:ins v lo hi=true↔lo≤v∧v≤hi:=by simp [ins]
theorem ov {v lo hi:Int}:ins v lo hi=false↔¬ (lo≤v∧v≤hi):=by rw [← dN]; simp
structure Shape where
  Groups:Int
  Column:Int
  Data:Int
  Spare:Int
  Rows:Int
  Cap:Int
  Batch:Int
  Queue:Int
  Stage:Int
def Shape.v (s:Shape):Value := .agg #[.int .i64 s.Groups,.int .i64 s.Column,.int .i64 s.Data,.int .i64 s.Spare,.int .i64 s.Rows,.int .i64 s.Cap,.int .i64 s.Batch,.int .i64 s.Queue,.int .i64 s.Stage]
def cOK (g c:Int):Bool:=ins g 1 4 && ins c 0 2
def rOK (d s:Int):Bool:=ins d 1 3 && ins s 0 2
def Shape.ok (s:Shape):Bool:=cOK s.Groups s.Column && rOK s.Data s.Spare && ins s.Rows 1 6 && ins s.Cap 1 6 && ins s.Batch 1 4 && ins s.Queue 1 6 && ins s.Stage 0 400
def Shape.fault (s:Shape):Int:=if s.ok then 0 else 3
theorem Shape.no {s:Shape}(h:(!s.ok)=true):Value.int .i64 3 = .int .i64 s.fault:=by
  unfold Shape.fault; cases hs:s.ok<;>simp_all
theorem Shape.yes {s:Shape}(h:(!s.ok)=false):Value.int .i64 0 = .int .i64 s.fault:=by
  unfold Shape.fault; cases hs:s.ok<;>simp_all
theorem not_true {b:Bool}(h:(!b)=true):b=false:=by cases b<;>simp_all
theorem not_false {b:Bool}(h:(!b)=false):b=true:=by cases b<;>simp_all
end Go.Wk
namespace Go.Wk
open Rp (sz own)
def lm (i:Nat) (c:UInt8):Bool:=(decide (97≤(c.toNat:Int)) && decide ((c.toNat:Int)≤122)) || (!(decide (i=0)) && (decide (48≤(c.toNat:Int)) && decide ((c.toNat:Int)≤57)))
def kV (b:ByteArray):Nat→Bool
  | 0=>true
  | k+1=>kV b k && lm k (gB b k)
theorem lq {b:ByteArray}:∀ {n:Nat},kV b n=true→∀ k,k<n→lm k (gB b k)=true
  | 0,_,k,hk=>by omega
  | n+1,h,k,hk=>by
    unfold kV at h
    simp only [Bool.and_eq_true] at h
    by_cases e:k=n
    · subst e; exact h.2
    · exact lq h.1 k ω
def eu (b:ByteArray):Bool:=decide (1≤b.size) && decide (b.size≤8) && kV b b.size
def bV (b:ByteArray):Int:=if eu b then 0 else 5
theorem ik {b:ByteArray}(h:eu b=false):Value.int .i64 5 = .int .i64 (bV b):=by simp [bV,h]
theorem kE {b:ByteArray}(h:eu b=true):Value.int .i64 0 = .int .i64 (bV b):=by simp [bV,h]
theorem f7 {b:ByteArray}(k:Nat) (hk:k<b.size) (h:lm k (gB b k)=false):eu b=false:=by
  cases hn:eu b with
  | false=>rfl
  | true=>
    unfold eu at hn
    simp only [Bool.and_eq_true] at hn
    rw [lq hn.2 k hk] at h
    cases h
def fU (b:ByteArray):Nat→Int
  | 0=>0
  | k+1=>fU b k+((gB b k).toNat:Int)
theorem eU {b:ByteArray}:∀ k,0≤fU b k∧fU b k≤255*k
  | 0=>by simp [fU]
  | k+1=>by
    have:=eU (b:=b) k
    have:=(gB b k).toNat_lt
    unfold fU
    omega
def d7 (s:Shape) (b:ByteArray):Int:=(fU b b.size).tmod s.Groups
theorem gE {b:ByteArray}(h:bV b=0):1≤b.size∧b.size≤8:=by
  unfold bV at h
  split at h
  · rename_i hn
    unfold eu at hn
    simp only [Bool.and_eq_true,decide_eq_true_eq] at hn
    omega
  · omega
theorem cY {s:Shape}(h:s.fault=0):s.ok=true:=by
  unfold Shape.fault at h
  split at h
  · assumption
  · omega
structure Ticket where
  Id:Int
  Kind:Int
  Name:ByteArray
  Group:Int
def Ticket.v (t:Ticket):Value := .agg #[.int .i64 t.Id,.int .i64 t.Kind,.string t.Name,.int .i64 t.Group]
def aC (s:Shape) (t:Ticket):Int:=
  if ins t.Id 1 1000000000=false then 3
  else if t.Kind=1 then (if bV t.Name≠0 then bV t.Name else if t.Group≠d7 s t.Name then 1 else 0)
  else if t.Kind=2 then (if ins t.Group 0 (s.Groups+s.Column-1)=false then 3 else if t.Name.size≠0 then 1 else 0)
  else 5
def TicketFault (s:Shape) (t:Ticket):Int:=if s.fault≠0 then s.fault else aC s t
theorem bY {s:Shape}(h:s.ok=true):1≤s.Groups∧s.Groups≤4∧0≤s.Column∧s.Column≤2∧1≤s.Data∧s.Data≤3∧0≤s.Spare∧s.Spare≤2∧1≤s.Rows∧s.Rows≤6∧1≤s.Cap∧s.Cap≤6∧1≤s.Batch∧s.Batch≤4∧1≤s.Queue∧s.Queue≤6∧0≤s.Stage∧s.Stage≤400:=by
  unfold Shape.ok cOK rOK at h
  simp only [Bool.and_eq_true,dN] at h
  omega
theorem oY {a b:ByteArray}:a.toList=b.toList↔a=b:=by
  rw [ByteArray.toList_eq,ByteArray.toList_eq]
  exact ⟨fun h=>WideShapes.bytes_inj h,fun h=>by rw [h]⟩
theorem lZ {a b:ByteArray}:(a.toList == b.toList)=decide (a=b):=by
  rw [Bool.eq_iff_iff]
  simp [oY]
theorem jn {b:ByteArray}:b=ByteArray.mk #[]↔b.size=0:=by
  obtain ⟨⟨l⟩⟩:=b
  cases l with
  | nil=>simp [ByteArray.size]
  | cons x l=>simp [ByteArray.size]
end Go.Wk
namespace Go.Wk
open Rp (sz own)
open Go.ChangeShapes Go.WideShapes Go.ChangeAt Go.RowKit
theorem ln {cs:List Value}{v:Value}(n:Nat) (h:v∈cs):v∈cs.take n∨v∈cs.drop n:=by
  rw [← List.take_append_drop n cs] at h
  exact List.mem_append.1 h
instance {α β:Type}[Rp α] [Rp β]:Rp (α × β) where
  sz:=sz α+sz β
  pos:=by have:=Rp.pos (α:=α); omega
  own s w cs x fp:=∃ f1 f2,fp=f1++f2∧own s w (cs.take (sz α)) x.1 f1∧own s w (cs.drop (sz α)) x.2 f2
  len h:=by
    obtain ⟨f1,f2,_,h1,h2⟩:=h
    have a:=Rp.len h1
    have b:=Rp.len h2
    have:=Rp.pos (α:=α)
    have:=Rp.pos (α:=β)
    simp only [List.length_take,List.length_drop] at a b
    omega
  one h v hv:=by
    obtain ⟨f1,f2,_,h1,h2⟩:=h
    rcases ln (sz α) hv with hv | hv
    · exact Rp.one h1 v hv
    · exact Rp.one h2 v hv
  st h hb:=by
    obtain ⟨f1,f2,rfl,h1,h2⟩:=h
    exact ⟨f1,f2,rfl,Rp.st h1 fun b hb'=>hb b (by simp [hb']),Rp.st h2 fun b hb'=>hb b (by simp [hb'])⟩
  lt h b hb:=by
    obtain ⟨f1,f2,rfl,h1,h2⟩:=h
    rcases List.mem_append.1 hb with hb | hb
    · exact Rp.lt h1 b hb
    · exact Rp.lt h2 b hb
  weak h:=by
    obtain ⟨f1,f2,rfl,h1,h2⟩:=h
    exact ⟨f1,f2,rfl,Rp.weak h1,Rp.weak h2⟩
abbrev Rp.via {α β:Type}[Rp β] (f:α→β):Rp α where
  sz:=sz β
  pos:=Rp.pos (α:=β)
  own s w cs x fp:=own s w cs (f x) fp
  len h:=Rp.len h
  one h:=Rp.one h
  st h:=Rp.st h
  lt h:=Rp.lt h
  weak h:=Rp.weak h
def Opens (P:Program) (t:TypeId) (α:Type) [Rp α]:Prop:=
  ∀ (H:Type) (enc:TypeId × Value→H) (w:World) (fuel:Nat) (cs:List Value) (x:DataW H × List MemPlace),
    DataW.trod enc P w 0 (fun _=>true) true fuel t cs=some x→∃ (a:α) (fp:List Nat),own false w cs a fp
section
variable {P:Program}{t e:TypeId}
theorem oe (ht:P.underlying t=some (.int .u8)):Opens P t UInt8:=fun H enc w fuel cs x h=>by
  obtain ⟨n,rfl,_,hw⟩:=DataW.trod_int ht h
  simp [Lit.wf,IntKind.has,IntKind.min,IntKind.max,IntKind.bits,IntKind.signed] at hw
  refine ⟨UInt8.ofNat n.toNat,[],?_,rfl⟩
  have:n=((UInt8.ofNat n.toNat).toNat:Int):=by simp; omega
  rw [← this]
theorem lr (b o n:Nat):Addr.add ⟨b,o,none⟩ n=⟨b,o+n,none⟩:=by
  unfold Addr.add
  split
  · rename_i h; subst h; rfl
  · rfl
theorem ls {w:World}{a:Addr}{n:Nat}{cs:List Value}(hn:0<n) (h:w.cells? 0 a n=some cs):a.spot=none:=by
  obtain ⟨_,hl,hc⟩:=World.cells?_some h
  have:=hc 0 hn
  cases hs:cs[0]? with
  | none=>rw [List.getElem?_eq_none_iff] at hs; omega
  | some v=>
    rw [hs] at this
    have h2:(a.add 0)=a:=by simp [Addr.add]
    rw [h2] at this
    exact World.cell?_spot this
theorem jB {w:World}{b o n:Nat}{cs:List Value}(hn:0<n) (h:w.cells? 0 ⟨b,o,none⟩ n=some cs) :
    ∃ cur T fr,w.heap[b]? = some (.cells cur T fr)∧o+n≤cur.size∧(cur.toList.drop o).take n=cs:=by
  obtain ⟨_,hl,hc⟩:=World.cells?_some h
  simp only [lr] at hc
  have hcell:∀ i,i<n→∃ v,cs[i]? = some v∧w.cell? ⟨b,o+i,none⟩=some v:=fun i hi=>by
    have hlt:i<cs.length:=by omega
    exact ⟨cs[i],σ,by have:=hc i hi; rw [List.getElem?_eq_getElem hlt] at this; exact this⟩
  obtain ⟨v0,_,hv0⟩:=hcell 0 hn
  unfold World.cell? at hv0
  split at hv0
  case h_2=>cases hv0
  case h_1 cur T fr hb=>
    have hget:∀ i,i<n→cur[o+i]? = cs[i]? := fun i hi=>by
      obtain ⟨v,hv,hw⟩:=hcell i hi
      unfold World.cell? at hw
      simp only [hb] at hw
      rw [hv]
      simpa using hw
    refine ⟨cur,T,fr,hb,?_,?_⟩
    · have:=hget (n-1) ω
      rw [List.getElem?_eq_getElem ω] at this
      have:=(Array.getElem?_eq_some_iff.1 this).1
      omega
    · apply List.ext_getElem?
      intro i
      rw [List.getElem?_take]
      split
      · rename_i hi
        rw [List.getElem?_drop,Array.getElem?_toList]
        exact hget i hi
      · rw [List.getElem?_eq_none ω]
theorem l8 {α:Type}[Rp α] {w:World}:∀ (n:Nat) (cs:List Value),(∀ k,k<n→∃ (a:α) (fp:List Nat),own false w ((cs.drop (k*sz α)).take (sz α)) a fp) →
    ∃ (xs:List α) (fp:List Nat),xs.length=n∧bC false w cs xs fp
  | 0,_,_=>⟨[],[],rfl,rfl⟩
  | n+1,cs,h=>by
    obtain ⟨a,f1,h1⟩:=h 0 ω
    obtain ⟨xs,f2,hl,h2⟩:=l8 n (cs.drop (sz α)) fun k hk=>by
      obtain ⟨a,fp,h⟩:=h (k+1) ω
      refine ⟨a,fp,?_⟩
      rw [List.drop_drop]
      rwa [show sz α+k*sz α=(k+1)*sz α from by rw [Nat.add_mul]; omega]
    exact ⟨a::xs,f1++f2,by simp [hl],f1,f2,rfl,by simpa using h1,h2⟩
theorem lH {α:Type}[Rp α] (ht:P.underlying t=some (.slice e)) (hz:P.cellsOf e=sz α) (ho:Opens P e α):Opens P t (List α):=fun H enc w fuel cs x h=>by
  rcases DataW.trod_slice ht h with ⟨rfl,_⟩ | ⟨a,len,cap,elems,rest,n,_,rfl,rfl,hb,hl,hm,hlen,hel,hsp,hns⟩
  · exact ⟨[],[],.inr (.inl ⟨rfl,rfl,rfl⟩)⟩
  rcases Nat.eq_zero_or_pos len with h0 | h0
  · subst h0
    exact ⟨[],[],.inl ⟨rfl,_,_,rfl,rfl,rfl⟩⟩
  rw [hz] at hel hsp
  have hpos:=Rp.pos (α:=α)
  obtain ⟨hrl,hre⟩:=hsp rfl
  have hs0:a.spot=none:=by
    have h1:=hel 0 h0
    rw [List.getElem?_eq_getElem ω,Option.bind_eq_some_iff] at h1
    obtain ⟨c,h1,_⟩:=h1
    rw [show (a.add (0*sz α))=a from by simp [Addr.add]] at h1
    exact ls hpos h1
  obtain ⟨b,o,sp⟩:=a
  subst hs0
  simp only [lr] at hel hre
  have all:∀ i,i<cap→∃ (c:List Value) (y:DataW H × List MemPlace),w.cells? 0 ⟨b,o+i*sz α,none⟩ (sz α)=some c∧DataW.trod enc P w 0 (fun _=>true) true n e c=some y:=fun i hi=>by
    have:∃ y,(w.cells? 0 ⟨b,o+i*sz α,none⟩ (sz α)).bind (DataW.trod enc P w 0 (fun _=>true) true n e)=some y:=by
      by_cases hi':i<len
      · exact ⟨elems[i]'(by omega),(hel i hi').trans (List.getElem?_eq_getElem _)⟩
      · have:=hre (i-len) ω
        rw [show len+(i-len)=i from by omega] at this
        exact ⟨rest[i-len]'(by omega),this.trans (List.getElem?_eq_getElem _)⟩
    obtain ⟨y,hy⟩:=this
    rw [Option.bind_eq_some_iff] at hy
    obtain ⟨c,h1,h2⟩:=hy
    exact ⟨c,y,h1,h2⟩
  obtain ⟨c0,_,hc0,_⟩:=all 0 ω
  obtain ⟨cur,T,fr,hbk,_,_⟩:=jB hpos hc0
  have each:∀ i,i<cap→∃ (c:List Value) (y:DataW H × List MemPlace),o+i*sz α+sz α≤cur.size∧(cur.toList.drop (o+i*sz α)).take (sz α)=c∧DataW.trod enc P w 0 (fun _=>true) true n e c=some y:=fun i hi=>by
    obtain ⟨c,y,h1,h2⟩:=all i hi
    obtain ⟨cur',T',fr',hbk',h3,h4⟩:=jB hpos h1
    rw [hbk] at hbk'
    simp only [Option.some.injEq,Obj.cells.injEq] at hbk'
    obtain ⟨rfl,_⟩:=hbk'
    exact ⟨c,y,h3,h4,h2⟩
  obtain ⟨xs,fs,hxl,hxs⟩:=l8 (α:=α) (w:=w) len (cur.toList.drop o) fun k hk=>by
    obtain ⟨c,y,_,h2,h3⟩:=each k ω
    obtain ⟨a,fp,ha⟩:=ho H enc w n c y h3
    refine ⟨a,fp,?_⟩
    rw [List.drop_drop,h2]
    exact ha
  refine ⟨xs,b::fs,.inr (.inr ⟨b,o,cap,cur,T,fr,fs,by rw [hxl],rfl,hbk,(fun h=>by cases h),ω,hm,?_,hxs⟩)⟩
  obtain ⟨_,_,h1,_⟩:=each (cap-1) ω
  have:cap*sz α=(cap-1)*sz α+sz α:=by
    rw [← Nat.succ_mul,Nat.succ_eq_add_one,Nat.sub_add_cancel ω]
  omega
theorem ne {α:Type}[Rp α] (o:Opens P t α) {H:Type}{enc:TypeId × Value→H}{w:World}{v:Value}{d:DataW H}{ps:List MemPlace}
    (hd:DataW.Trod enc P w 0 (fun _=>true) true t v d ps):∃ (a:α) (fp:List Nat),own false w v.cells.toList a fp:=by
  obtain ⟨fuel,hf⟩:=hd
  exact o H enc w fuel _ _ hf
end
theorem Ext.below {w w':World}(h:Ext No w w'):Below w.heap.size w w':=⟨h.os,h.tape,h.output,h.size,fun k hk=>h.block k hk (fun h=>h)⟩
instance:Rp Ticket:=Rp.via fun x=>(x.Id,x.Kind,Str.mk x.Name,x.Group)
theorem cJ {α β:Type}[Rp α] [Rp β] {s w cs} {a:α}{b:β}{fp} (h:own s w cs (a,b) fp):∃ c1 c2 f1 f2,cs=c1++c2∧fp=f1++f2∧own s w c1 a f1∧own s w c2 b f2:=by
  obtain ⟨f1,f2,e,h1,h2⟩:=h
  exact ⟨_,_,f1,f2,(List.take_append_drop _ _).symm,e,h1,h2⟩
def Shape.Ok (x:Shape):Prop:=I64ok x.Groups∧I64ok x.Column∧I64ok x.Data∧I64ok x.Spare∧I64ok x.Rows∧I64ok x.Cap∧I64ok x.Batch∧I64ok x.Queue∧I64ok x.Stage
def Ticket.Ok (x:Ticket):Prop:=I64ok x.Id∧I64ok x.Kind∧I64ok x.Group∧x.Name.size≤maxLen
end Go.Wk
namespace Go.Wk
open Rp (sz own)
def Sees {α:Type}[Rp α] (w:World) (cs:List Value) (x:α):Prop:=∃ f,own false w cs x f
theorem ac {α:Type}[Rp α] {s w cs} {x:α}{f} (h:own s w cs x f):own false w cs x f:=by
  cases s
  · exact h
  · exact Rp.weak h
section
variable {M:Nat→Prop}{w0 w w':World}{Δ F G:List Rsc}{α:Type}[Rp α]
theorem Sep.sees (h:Sep M w0 Δ F w) (i:Nat) {s cs fp} {x:α}(hi:F[i]? = some (Wk.seen s cs x fp)):Sees w cs x:=⟨fp,ac (h.seen i hi)⟩
theorem Sep.msees (h:Sep M w0 Δ F w) (i:Nat) {cs fp} {x:α}(hi:Δ[i]? = some (Wk.mine cs x fp)):Sees w cs x:=⟨fp,Rp.weak (h.mine i hi)⟩
theorem Sep.look {r:Rsc}(h:Sep M w0 Δ F w) (hr:r.φ w) (hd:∀ b∈r.fp,b ∉ blocks Δ):Sep M w0 Δ (F++[r]) w:=
  ⟨h.ext,h.rs,h.nd,h.new,fun p hp=>by
    rcases List.mem_append.1 hp with hp | hp
    · exact h.fs p hp
    · simp at hp; subst hp; exact hr,fun p hp=>by
    rcases List.mem_append.1 hp with hp | hp
    · exact h.ap p hp
    · simp at hp; subst hp; exact hd⟩
theorem Sep.look1 {β:Type}[Rp β] (h:Sep M w0 Δ F w) (i:Nat) {s cs fp} {x:α}(hi:F[i]? = some (Wk.seen s cs x fp)) {s' cs' f} {y:β}(ho:own s' w cs' y f) (hs:∀ b∈f,b∈fp) :
    Sep M w0 Δ (F++[Wk.seen s' cs' y f]) w:=
  h.look (r:=Wk.seen s' cs' y f) ho fun b hb=>h.ap _ (List.mem_of_getElem? hi) b (hs b hb)
theorem Sep.fsub (h:Sep M w0 Δ (F++G) w):Sep M w0 Δ F w:=
  ⟨h.ext,h.rs,h.nd,h.new,fun p hp=>h.fs p (by simp [hp]),fun p hp=>h.ap p (by simp [hp])⟩
theorem Sep.ftake (h:Sep M w0 Δ F w) (n:Nat):Sep M w0 Δ (F.take n) w:=
  Sep.fsub (G:=F.drop n) (by rw [List.take_append_drop]; exact h)
theorem Sep.dtake (h:Sep M w0 Δ F w) (n:Nat):Sep M w0 (Δ.take n) F w:=h.sub (List.take_sublist _ _)
theorem Sep.share (h:Sep M w0 Δ F w) (i:Nat) {cs fp} {x:α}(hi:Δ[i]? = some (Wk.mine cs x fp)):Sep M w0 (Δ.set i gone) (F++[Wk.seen true cs x fp]) w:=by
  have hm:=List.mem_of_getElem? hi
  have hnm:=dp hi h.nd
  have h':Sep M w0 (Δ.set i gone) F w:=by
    refine ⟨h.ext,fun p hp=>?_,dG hi h.nd (by simp [gone]) (by simp [gone]),fun b hb=>?_,h.fs,fun p hp b hb hx=>?_⟩
    · rcases ep hi h.nd p hp with rfl | ⟨hp,_⟩
      · trivial
      · exact h.rs p hp
    · rcases bX hi b hb with hb | hb
      · simp [gone] at hb
      · exact h.new b hb
    · rcases bX hi b hx with hx | hx
      · simp [gone] at hx
      · exact h.ap p hp b hb hx
  exact h'.look (r:=Wk.seen true cs x fp) (h.mine i hi) hnm
end
theorem df {β:Type}[Rp β] {s w ad n cap} {xs:List (List β)}{fp} (h:own s w [.slice ad n cap] xs fp) (k:Nat) (hk:k<xs.length) :
    ∃ b o a c f,ad=some ⟨b,o,none⟩∧w.cell? ⟨b,o+k*1,none⟩=some (.slice a (xs.getD k []).length c)∧own s w [.slice a (xs.getD k []).length c] (xs.getD k []) f∧∀ b∈f,b∈fp:=by
  obtain ⟨b,o,cs,f,h1,h2,h3,h4,_⟩:=dS h k hk
  rw [show xs.getD k []=xs[k] from by simp [List.getD,hk]]
  obtain ⟨a,c,rfl⟩:=aD h3
  exact ⟨b,o,a,c,f,h1,h2 0 _ rfl,h3,h4⟩
theorem n5 {s w ad n cap} {xs:List Int}{fp} (h:own s w [.slice ad n cap] xs fp) (k:Nat) (hk:k<xs.length):I64ok (xs.getD k 0):=by
  obtain ⟨b,o,cs,f,_,_,h3,_⟩:=dS h k hk
  rw [show xs.getD k 0=xs[k] from by simp [List.getD,hk]]
  exact (dt h3).2.2
theorem nO {α:Type}[Rp α] {w ad n cap} {xs:List α}(h:Sees w [.slice ad n cap] xs):xs.length≤maxLen:=by
  obtain ⟨f,h⟩:=h
  exact ja h
theorem mY {α:Type}{d:α}{xs ys:List α}(hl:xs.length=ys.length) (h:∀ k,k<xs.length→xs.getD k d=ys.getD k d):xs=ys:=by
  apply List.ext_getElem hl
  intro k h1 h2
  have:=h k h1
  simpa [List.getD,h1,h2] using this
theorem nW {α:Type}[Rp α] {s w ad n cap} {xs:List α}{fp} (h:own s w [.slice ad n cap] xs fp) (k:Nat) (hk:k<xs.length):∃ b o,ad=some ⟨b,o,none⟩:=by
  obtain ⟨b,o,_,_,h1,_⟩:=dS h k hk
  exact ⟨b,o,h1⟩
def qr (f:Nat→Nat):Nat→Nat
  | 0=>0
  | k+1=>qr f k+f k
theorem iv {α:Type}{d x:α}{xs:List α}{k:Nat}(h:k<xs.length) (e:xs.getD k d=x):x∈xs:=by
  subst e
  simp [List.getD,h]
theorem jK {α:Type}{d x:α}{xs:List α}(h:∀ k,k<xs.length→xs.getD k d≠x):¬ x∈xs:=fun hm=>by
  obtain ⟨k,hk,e⟩:=List.getElem_of_mem hm
  exact h k hk (by simp [List.getD,hk,e])
def idxOf (xs:List Int) (x:Int):Int:=if x∈xs then (xs.idxOf x:Nat) else -1
theorem og {xs:List Int}{x:Int}(h:∀ k,k<xs.length→xs.getD k 0≠x):idxOf xs x = -1:=by
  unfold idxOf; rw [if_neg (jK h)]
theorem nD {xs:List Int}{x:Int}{k:Nat}(hk:k<xs.length) (e:xs.getD k 0=x) (h:∀ i,i<k→xs.getD i 0≠x):idxOf xs x=k:=by
  unfold idxOf
  rw [if_pos (iv hk e)]
  have hm:=iv hk e
  have h1:xs.idxOf x<xs.length:=List.idxOf_lt_length_iff.2 hm
  have h2:xs[xs.idxOf x]=x:=List.getElem_idxOf h1
  have h3:¬ xs.idxOf x<k:=fun hlt=>h _ hlt (by simp [List.getD,h1,h2])
  have h4:¬ k<xs.idxOf x:=fun hlt=>by
    have:=List.not_of_lt_findIdx (p:=(· == x)) (xs:=xs) hlt
    simp [List.getD,hk] at e
    simp [e] at this
  omega
theorem mn {xs:List Int}{x:Int}:decide (0≤idxOf xs x)=decide (x∈xs):=by
  unfold idxOf
  by_cases h:x∈xs
  · rw [if_pos h]; simp [h]
  · rw [if_neg h]; simp [h]
theorem pG {a b:UInt8}:((a.toNat:Int)=(b.toNat:Int))↔a=b:=by
  constructor
  · intro h
    exact UInt8.toNat_inj.1 ω
  · intro h; rw [h]
end Go.Wk
namespace Go.Wk
section
theorem oL {α:Type}[Rp α] {s w ad n cap} {xs:List α}{fp} (h:Rp.own s w [.slice ad n cap] xs fp):xs.length≤2^63-1:=ja h
theorem sL {α:Type}[Rp α] {w ad n cap} {xs:List α}(h:Sees w [.slice ad n cap] xs):xs.length≤2^63-1:=nO h
end
end Go.Wk
namespace Go.Wk
open Rp (sz own)
theorem dd {α β:Type}[Rp α] [Rp β] {s w c1 c2} {a:α}{b:β}{f1 f2} (h1:own s w c1 a f1) (h2:own s w c2 b f2):own s w (c1++c2) (a,b) (f1++f2):=by
  have hl:=Rp.len h1
  refine ⟨f1,f2,rfl,?_,?_⟩
  · rw [← hl,List.take_left]; exact h1
  · rw [← hl,List.drop_left]; exact h2
theorem dL {s w} {x:Int}(h:I64ok x):own s w [.int .i64 x] x []:=⟨rfl,rfl,h⟩
theorem oP {s w} {x:ByteArray}(h:x.size≤maxLen):own s w [.string x] (Str.mk x) []:=⟨rfl,rfl,h⟩
theorem gT {α:Type}[Rp α] {s w cs} {x:α}{f g} (h:own s w cs x f) (e:f=g):own s w cs x g:=e ▸ h
structure Rec where
  Kind:Int
  Seq:Int
  Name:ByteArray
  Length:Int
  Group:Int
  Row:Int
  Rows:List Int
  Data:List UInt8
  Delta:List UInt8
instance:Rp Rec:=Rp.via fun x=>(x.Kind,x.Seq,Str.mk x.Name,x.Length,x.Group,x.Row,x.Rows,x.Data,x.Delta)
instance:Inhabited Rec:=⟨⟨0,0,⟨#[]⟩,0,0,0,[],[],[]⟩⟩
def Rec.Ok (x:Rec):Prop:=I64ok x.Kind∧I64ok x.Seq∧x.Name.size≤maxLen∧I64ok x.Length∧I64ok x.Group∧I64ok x.Row
structure Answer where
  Id:Int
  Code:Int
  Turn:Int
  Bytes:List UInt8
instance:Rp Answer:=Rp.via fun x=>(x.Id,x.Code,x.Turn,x.Bytes)
noncomputable instance:DecidableEq Answer:=fun _ _=>Classical.propDecidable _
instance:Inhabited Answer:=⟨⟨0,0,0,[]⟩⟩
def Answer.Ok (x:Answer):Prop:=I64ok x.Id∧I64ok x.Code∧I64ok x.Turn
theorem cp {s w cs} {x:Answer}{fp} (h:own s w cs x fp):∃ (A3:Option Addr) (C3:Nat) (f3:List Nat) ,cs=[.int .i64 x.Id,.int .i64 x.Code,.int .i64 x.Turn,.slice A3 x.Bytes.length C3]∧fp=f3∧x.Ok∧own s w [.slice A3 x.Bytes.length C3] x.Bytes f3:=by
  obtain ⟨_,_,_,_,rfl,e0,h0,k0⟩:=cJ h
  obtain ⟨rfl,rfl,i0⟩:=dt h0
  obtain ⟨_,_,_,_,rfl,e1,h1,k1⟩:=cJ k0
  obtain ⟨rfl,rfl,i1⟩:=dt h1
  obtain ⟨_,_,_,_,rfl,e2,h2,k2⟩:=cJ k1
  obtain ⟨rfl,rfl,i2⟩:=dt h2
  obtain ⟨A3,C3,rfl⟩:=aD k2
  exact ⟨A3,C3,_,rfl,by subst_vars; simp,⟨i0,i1,i2⟩,k2⟩
theorem Answer.own_mk {s:Bool}{w:World}{x:Answer}{A3:Option Addr}{C3:Nat}{f3:List Nat}(ok:x.Ok) (o3:own s w [.slice A3 x.Bytes.length C3] x.Bytes f3):own s w [.int .i64 x.Id,.int .i64 x.Code,.int .i64 x.Turn,.slice A3 x.Bytes.length C3] x (f3):=by
  obtain ⟨i0,i1,i2⟩:=ok
  have h:own s w _ (x.Id,x.Code,x.Turn,x.Bytes) _:=(dd (dL i0) (dd (dL i1) (dd (dL i2) o3)))
  refine gT h ?_
  simp
structure Desk where
  Queues:List (List Ticket)
  Aside:List Ticket
  Answers:List Answer
  Turn:Int
  Next:Int
instance:Rp Desk:=Rp.via fun x=>(x.Queues,x.Aside,x.Answers,x.Turn,x.Next)
def Desk.val (x:Desk) (A0:Option Addr) (C0:Nat) (A1:Option Addr) (C1:Nat) (A2:Option Addr) (C2:Nat):Value := .agg #[.slice A0 x.Queues.length C0,.slice A1 x.Aside.length C1,.slice A2 x.Answers.length C2,.int .i64 x.Turn,.int .i64 x.Next]
def Desk.Ok (x:Desk):Prop:=I64ok x.Turn∧I64ok x.Next
theorem br {s w cs} {x:Desk}{fp} (h:own s w cs x fp):∃ (A0:Option Addr) (C0:Nat) (A1:Option Addr) (C1:Nat) (A2:Option Addr) (C2:Nat) (f0:List Nat) (f1:List Nat) (f2:List Nat) ,cs=[.slice A0 x.Queues.length C0,.slice A1 x.Aside.length C1,.slice A2 x.Answers.length C2,.int .i64 x.Turn,.int .i64 x.Next]∧fp=f0++(f1++(f2))∧x.Ok∧own s w [.slice A0 x.Queues.length C0] x.Queues f0∧own s w [.slice A1 x.Aside.length C1] x.Aside f1∧own s w [.slice A2 x.Answers.length C2] x.Answers f2:=by
  obtain ⟨_,_,_,_,rfl,e0,h0,k0⟩:=cJ h
  obtain ⟨A0,C0,rfl⟩:=aD h0
  obtain ⟨_,_,_,_,rfl,e1,h1,k1⟩:=cJ k0
  obtain ⟨A1,C1,rfl⟩:=aD h1
  obtain ⟨_,_,_,_,rfl,e2,h2,k2⟩:=cJ k1
  obtain ⟨A2,C2,rfl⟩:=aD h2
  obtain ⟨_,_,_,_,rfl,e3,h3,k3⟩:=cJ k2
  obtain ⟨rfl,rfl,i3⟩:=dt h3
  obtain ⟨rfl,rfl,i4⟩:=dt k3
  exact ⟨A0,C0,A1,C1,A2,C2,_,_,_,rfl,by subst_vars; simp,⟨i3,i4⟩,h0,h1,h2⟩
theorem eq {s w A0 C0 A1 C1 A2 C2} {x:Desk}{fp} (h:own s w [.slice A0 x.Queues.length C0,.slice A1 x.Aside.length C1,.slice A2 x.Answers.length C2,.int .i64 x.Turn,.int .i64 x.Next] x fp):∃ (f0:List Nat) (f1:List Nat) (f2:List Nat),fp=f0++(f1++(f2))∧x.Ok∧own s w [.slice A0 x.Queues.length C0] x.Queues f0∧own s w [.slice A1 x.Aside.length C1] x.Aside f1∧own s w [.slice A2 x.Answers.length C2] x.Answers f2:=by
  obtain ⟨_,_,_,_,_,_,f0,f1,f2,e,ef,ok,o0,o1,o2⟩:=br h
  simp only [List.cons.injEq,Value.slice.injEq,and_true,true_and] at e
  obtain ⟨⟨rfl,rfl⟩,⟨rfl,rfl⟩,⟨rfl,rfl⟩⟩:=e
  exact ⟨f0,f1,f2,ef,ok,o0,o1,o2⟩
theorem Desk.own_mk {s:Bool}{w:World}{x:Desk}{A0:Option Addr}{C0:Nat}{A1:Option Addr}{C1:Nat}{A2:Option Addr}{C2:Nat}{f0:List Nat}{f1:List Nat}{f2:List Nat}(ok:x.Ok) (o0:own s w [.slice A0 x.Queues.length C0] x.Queues f0) (o1:own s w [.slice A1 x.Aside.length C1] x.Aside f1) (o2:own s w [.slice A2 x.Answers.length C2] x.Answers f2):own s w [.slice A0 x.Queues.length C0,.slice A1 x.Aside.length C1,.slice A2 x.Answers.length C2,.int .i64 x.Turn,.int .i64 x.Next] x (f0++(f1++(f2))):=by
  obtain ⟨i3,i4⟩:=ok
  have h:own s w _ (x.Queues,x.Aside,x.Answers,x.Turn,x.Next) _:=(dd o0 (dd o1 (dd o2 (dd (dL i3) (dL i4)))))
  refine gT h ?_
  simp
theorem Desk.out {w0 w:World}{F:List Rsc}{x:Desk}{A0:Option Addr}{C0:Nat}{A1:Option Addr}{C1:Nat}{A2:Option Addr}{C2:Nat}{f0:List Nat}{f1:List Nat}{f2:List Nat}(h:Sep No w0 [mine [.slice A0 x.Queues.length C0] x.Queues f0,mine [.slice A1 x.Aside.length C1] x.Aside f1,mine [.slice A2 x.Answers.length C2] x.Answers f2] F w) (ok:x.Ok):Res w0 w [.slice A0 x.Queues.length C0,.slice A1 x.Aside.length C1,.slice A2 x.Answers.length C2,.int .i64 x.Turn,.int .i64 x.Next] x:=
  ⟨_,Desk.own_mk ok (h.mine 0 rfl) (h.mine 1 rfl) (h.mine 2 rfl),by have:=h.nd; simpa [blocks,mine] using this,fun b hb=>(h.new b (by simpa [blocks,mine] using hb)).resolve_left id⟩
structure DeskResult where
  Code:Int
  Desk:Desk
instance:Rp DeskResult:=Rp.via fun x=>(x.Code,x.Desk)
def DeskResult.val (x:DeskResult) (A1:Option Addr) (C1:Nat) (A2:Option Addr) (C2:Nat) (A3:Option Addr) (C3:Nat):Value := .agg #[.int .i64 x.Code,.slice A1 x.Desk.Queues.length C1,.slice A2 x.Desk.Aside.length C2,.slice A3 x.Desk.Answers.length C3,.int .i64 x.Desk.Turn,.int .i64 x.Desk.Next]
def DeskResult.Ok (x:DeskResult):Prop:=I64ok x.Code∧x.Desk.Ok
theorem iY {s w cs} {x:DeskResult}{fp} (h:own s w cs x fp):∃ (A1:Option Addr) (C1:Nat) (A2:Option Addr) (C2:Nat) (A3:Option Addr) (C3:Nat) (f1:List Nat) (f2:List Nat) (f3:List Nat) ,cs=[.int .i64 x.Code,.slice A1 x.Desk.Queues.length C1,.slice A2 x.Desk.Aside.length C2,.slice A3 x.Desk.Answers.length C3,.int .i64 x.Desk.Turn,.int .i64 x.Desk.Next]∧fp=f1++(f2++(f3))∧x.Ok∧own s w [.slice A1 x.Desk.Queues.length C1] x.Desk.Queues f1∧own s w [.slice A2 x.Desk.Aside.length C2] x.Desk.Aside f2∧own s w [.slice A3 x.Desk.Answers.length C3] x.Desk.Answers f3:=by
  obtain ⟨_,_,_,_,rfl,e0,h0,k0⟩:=cJ h
  obtain ⟨rfl,rfl,i0⟩:=dt h0
  obtain ⟨A1,C1,A2,C2,A3,C3,g1,g2,g3,rfl,rfl,i1,o1,o2,o3⟩:=br k0
  exact ⟨A1,C1,A2,C2,A3,C3,g1,g2,g3,rfl,by subst_vars; simp,⟨i0,i1⟩,o1,o2,o3⟩
theorem bW {s w A1 C1 A2 C2 A3 C3} {x:DeskResult}{fp} (h:own s w [.int .i64 x.Code,.slice A1 x.Desk.Queues.length C1,.slice A2 x.Desk.Aside.length C2,.slice A3 x.Desk.Answers.length C3,.int .i64 x.Desk.Turn,.int .i64 x.Desk.Next] x fp):∃ (f1:List Nat) (f2:List Nat) (f3:List Nat),fp=f1++(f2++(f3))∧x.Ok∧own s w [.slice A1 x.Desk.Queues.length C1] x.Desk.Queues f1∧own s w [.slice A2 x.Desk.Aside.length C2] x.Desk.Aside f2∧own s w [.slice A3 x.Desk.Answers.length C3] x.Desk.Answers f3:=by
  obtain ⟨_,_,_,_,_,_,f1,f2,f3,e,ef,ok,o1,o2,o3⟩:=iY h
  simp only [List.cons.injEq,Value.slice.injEq,and_true,true_and] at e
  obtain ⟨⟨rfl,rfl⟩,⟨rfl,rfl⟩,⟨rfl,rfl⟩⟩:=e
  exact ⟨f1,f2,f3,ef,ok,o1,o2,o3⟩
theorem DeskResult.own_mk {s:Bool}{w:World}{x:DeskResult}{A1:Option Addr}{C1:Nat}{A2:Option Addr}{C2:Nat}{A3:Option Addr}{C3:Nat}{f1:List Nat}{f2:List Nat}{f3:List Nat}(ok:x.Ok) (o1:own s w [.slice A1 x.Desk.Queues.length C1] x.Desk.Queues f1) (o2:own s w [.slice A2 x.Desk.Aside.length C2] x.Desk.Aside f2) (o3:own s w [.slice A3 x.Desk.Answers.length C3] x.Desk.Answers f3):own s w [.int .i64 x.Code,.slice A1 x.Desk.Queues.length C1,.slice A2 x.Desk.Aside.length C2,.slice A3 x.Desk.Answers.length C3,.int .i64 x.Desk.Turn,.int .i64 x.Desk.Next] x (f1++(f2++(f3))):=by
  obtain ⟨i0,i1⟩:=ok
  have h:own s w _ (x.Code,x.Desk) _:=(dd (dL i0) (Desk.own_mk (x:=x.Desk) i1 o1 o2 o3))
  refine gT h ?_
  simp
theorem DeskResult.out {w0 w:World}{F:List Rsc}{x:DeskResult}{A1:Option Addr}{C1:Nat}{A2:Option Addr}{C2:Nat}{A3:Option Addr}{C3:Nat}{f1:List Nat}{f2:List Nat}{f3:List Nat}(h:Sep No w0 [mine [.slice A1 x.Desk.Queues.length C1] x.Desk.Queues f1,mine [.slice A2 x.Desk.Aside.length C2] x.Desk.Aside f2,mine [.slice A3 x.Desk.Answers.length C3] x.Desk.Answers f3] F w) (ok:x.Ok):Res w0 w [.int .i64 x.Code,.slice A1 x.Desk.Queues.length C1,.slice A2 x.Desk.Aside.length C2,.slice A3 x.Desk.Answers.length C3,.int .i64 x.Desk.Turn,.int .i64 x.Desk.Next] x:=
  ⟨_,DeskResult.own_mk ok (h.mine 0 rfl) (h.mine 1 rfl) (h.mine 2 rfl),by have:=h.nd; simpa [blocks,mine] using this,fun b hb=>(h.new b (by simpa [blocks,mine] using hb)).resolve_left id⟩
end Go.Wk
namespace Go.Wk
open Rp (sz own)
def mG (k:Int):UInt8:=UInt8.ofNat (k % 256).toNat
theorem o7 (k:Int):IntKind.u8.wrap k=((mG k).toNat:Int):=by
  unfold mG
  simp [IntKind.wrap,IntKind.bits,IntKind.signed]
  omega
def Mut {α:Type}[Rp α] (w w':World) (fp:List Nat) (cs:List Value) (x':α):Prop:=
  Ext (· ∈ fp) w w'∧∃ fp',own true w' cs x' fp'∧fp'.Nodup∧∀ b∈fp',b∈fp∨w.heap.size≤b
section
variable {M:Nat→Prop}{w0 w w':World}{Δ F:List Rsc}{α:Type}[Rp α]
theorem Sep.begin {cs:List Value}{x:α}{fp:List Nat}(h:own true w cs x fp) (hn:fp.Nodup):Sep (· ∈ fp) w [Wk.mine cs x fp] [] w:=
  ⟨Ext.refl,by simpa [Wk.mine] using h,by simpa [blocks,Wk.mine] using hn,fun b hb => .inl (by simpa [blocks,Wk.mine] using hb),σ,σ⟩
theorem Sep.done {cs:List Value}{x:α}{fp fp':List Nat}(h:Sep (· ∈ fp) w0 [Wk.mine cs x fp'] F w):Mut w0 w fp cs x:=
  ⟨h.ext,fp',h.mine 0 rfl,by simpa [blocks,Wk.mine] using h.nd,fun b hb=>h.new b (by simpa [blocks,Wk.mine] using hb)⟩
theorem Sep.mut (h:Sep M w0 Δ F w) (i:Nat) {cs cs'} {x x':α}{fp} (hi:Δ[i]? = some (Wk.mine cs x fp)) (hm:Mut w w' fp cs' x'):∃ fp',Sep M w0 (Δ.set i (Wk.mine cs' x' fp')) F w':=by
  obtain ⟨e,fp',h1,h2,h3⟩:=hm
  exact ⟨fp',h.set hi (q:=Wk.mine cs' x' fp') e h1 h2 h3⟩
end
theorem eqI {kd:IntKind}{a b:Int}(h:a=b):some (Value.int kd a)=some (Value.int kd b):=by rw [h]
theorem m8 {α:Type}{d y:α}{xs:List α}{k j:Nat}:(xs.set k y).getD j d=if j=k∧k<xs.length then y else xs.getD j d:=by
  simp only [List.getD,List.getElem?_set]
  by_cases h1:k=j
  · subst h1
    by_cases h2:k<xs.length
    · simp [h2]
    · simp [h2]
  · rw [if_neg h1,if_neg (fun e=>h1 e.1.symm)]
end Go.Wk
namespace Go.Wk
def qx (a:UInt8) (k:Nat):UInt8:=UInt8.ofNat (a.toNat / 2^k)
def qb (a:UInt8) (k:Nat):UInt8:=UInt8.ofNat (a.toNat*2^k)
section
variable {P:Program}{n:Nat}{L:Env}{w:World}{d:Option Tmp}{ty:TypeId}{p:String}{af:Array Edge}{g:Option (Nat × Bool)}{x y:Operand}{xt yt:TypeId}
theorem m7 {k:IntKind}{i:Int}{src dst:TypeId}{td} (hs:P.underlying src=some td) (hd:P.underlying dst=some (.int .u8)) (hx:evL L x=some (.int k i)) :
    Py P n L w ⟨d,.convert src dst x,ty,p,af,g⟩ (.int .u8 (mG i).toNat):=by
  have h:=oH (P:=P) (n:=n) (w:=w) (d:=d) (ty:=ty) (p:=p) (af:=af) (g:=g) hs hd hx
  rwa [o7] at h
end
def xt (a:UInt8):UInt8:=if a &&& 128=0 then qb a 1 else qb a 1 ^^^ 29
def qe:Nat→UInt8→UInt8→UInt8→UInt8
  | 0,_,_,o=>o
  | n+1,a,b,o=>qe n (xt a) (qx b 1) (if b &&& 1=1 then o ^^^ a else o)
def qG (a b:UInt8):UInt8:=qe 8 a b 0
def pw (a:UInt8):Nat→UInt8
  | 0=>1
  | n+1=>qG (pw a n) a
def qE (a:UInt8):UInt8:=pw a 254
def cauchy (j i:Int):UInt8:=qE (mG (128+j) ^^^ mG i)
end Go.Wk
namespace Go.Wk
open Rp (sz own)
theorem Ext.cellM {M:Nat→Prop}{w w':World}(h:Ext M w w') {ad:Addr}{v:Value}(hm:¬ M ad.block) (hc:w.cell? ad=some v):w'.cell? ad=some v:=
  (World.cell?_of_block (h.block ad.block (World.block_lt_of_cell? w ad hc) hm)).trans hc
theorem Sep.off {M w0 Δ F} {w:World}(h:Sep M w0 Δ F w) (i:Nat) {r q:Rsc}(hi:F[i]? = some r) (j:Nat) (hj:Δ[j]? = some q) {b:Nat}(hb:b∈r.fp):b ∉ q.fp:=fun hm=>
  h.ap r (List.mem_of_getElem? hi) b hb (aZ.2 ⟨q,List.mem_of_getElem? hj,hm⟩)
theorem Sep.boff {M w0 Δ F} {w:World}(h:Sep M w0 Δ F w) (i:Nat) {b:Nat}{o:Obj}{q:Rsc}(hi:Δ[i]? = some (Wk.box b o)) (j:Nat) (hj:Δ[j]? = some q) (hij:Nat.beq i j=false):b ∉ q.fp:=
  h.apart hj hi hij b (by simp [Wk.box])
theorem oc {β:Type}[Rp β] {s w ad n cap} {xs:List (List β)}{fp} (h:own s w [.slice ad n cap] xs fp) (k:Nat) (hk:k<xs.length) :
    ∃ b o a c f,ad=some ⟨b,o,none⟩∧w.cell? ⟨b,o+k*1,none⟩=some (.slice a (xs.getD k []).length c)∧own s w [.slice a (xs.getD k []).length c] (xs.getD k []) f∧(∀ b∈f,b∈fp)∧b∈fp:=by
  obtain ⟨b,o,cs,f,h1,h2,h3,h4,h5⟩:=dS h k hk
  rw [show xs.getD k []=xs[k] from by simp [List.getD,hk]]
  obtain ⟨a,c,rfl⟩:=aD h3
  exact ⟨b,o,a,c,f,h1,h2 0 _ rfl,h3,h4,h5⟩
section
variable {P:Program}{n:Nat}{ops:Array Oper}{Q:Post}{L:Env}{w w0:World}{M:Nat→Prop}{Δ F:List Rsc}{rest:List (Nat × Bool)}{i d:Nat}{ty:TypeId}{p:String}{af:Array Edge}{g:Option (Nat × Bool)}{S:World→Prop}
theorem md {o:Oper}{ob:Obj}{v:Nat→Value}(ho:ops.toList[i]? = some o) (hw:Wn ops n L o) (hd:o.dst=some d) (hn:Nat.blt d n=true) (hp:Pn P n L w o (v w.heap.size) (w.alloc ob)) (H:Sep M w0 Δ F w) (hS:∀ w',S w→Ext No w w'→S w')
    (k:∀ b w',Ext No w w'→w.heap.size≤b→Sep M w0 (Δ++[box b ob]) F w'→DL P n ops Q S rest ((d,v b)::L) w'):DL P n ops Q S ((i,false)::rest) L w:=
  iE ho hw hd hn hp (fun h _=>hS _ h (Ext.refl.alloc _)) (k _ _ (Ext.refl.alloc _) (Nat.le_refl _) (H.alloc _))
theorem fd {t e:TypeId}{x:Operand}{z v:Value}{size bytes:Nat}(ho:ops.toList[i]? = some ⟨some d,.buildSlice t 1 #[(0,x)],ty,p,af,g⟩) (hw:Wn ops n L ⟨some d,.buildSlice t 1 #[(0,x)],ty,p,af,g⟩) (hn:Nat.blt d n=true) (ht:P.underlying t=some (.slice e)) (hT:Ty P e z size bytes) (hs:Nat.blt 0 size=true)
    (hx:evL L x=some v) (h1:v.cells.size=size) (hsmall:Nat.ble size 16777216=true) (H:Sep M w0 Δ F w) (hS:∀ w',S w→Ext No w w'→S w')
    (k:∀ b w',Ext No w w'→w.heap.size≤b→Sep M w0 (Δ++[box b (.cells v.cells.toList.toArray e)]) F w'→DL P n ops Q S rest ((d,.slice (some ⟨b,0,none⟩) 1 1)::L) w') :
    DL P n ops Q S ((i,false)::rest) L w:=by
  have hp:=iZ (n:=n) (w:=w) (ty:=ty) (p:=p) (af:=af) (g:=g) (d:=some d) (parts := #[(0,x)]) (vs:=[v]) (len:=1) ht hT (Nat.le_of_ble_eq_true hs) rfl (jz hx) (by simpa using h1) ω (by have:=Nat.le_of_ble_eq_true hsmall; omega)
  simp only [List.flatMap_cons,List.flatMap_nil,List.append_nil] at hp
  exact md (v:=fun b => .slice (some ⟨b,0,none⟩) 1 1) ho hw rfl hn hp H hS k
theorem nw {α:Type}[Rp α] {t e:TypeId}{z:Value}{size bytes:Nat}(ho:ops.toList[i]? = some ⟨some d,.buildSlice t 0 #[],ty,p,af,g⟩) (hw:Wn ops n L ⟨some d,.buildSlice t 0 #[],ty,p,af,g⟩) (hn:Nat.blt d n=true) (ht:P.underlying t=some (.slice e)) (hT:Ty P e z size bytes) (H:Sep M w0 Δ F w) (hS:∀ w',S w→Ext No w w'→S w')
    (k:∀ b w',Ext No w w'→w.heap.size≤b→Sep M w0 (Δ++[mine [.slice (some ⟨b,0,none⟩) 0 0] ([]:List α) [b]]) F w'→DL P n ops Q S rest ((d,.slice (some ⟨b,0,none⟩) 0 0)::L) w') :
    DL P n ops Q S ((i,false)::rest) L w:=
  iE ho hw rfl hn (ma ht hT) (fun h _=>hS _ h (Ext.refl.alloc _)) (k _ _ (Ext.refl.alloc _) (Nat.le_refl _) (H.add (Ext.refl.alloc _) (r:=mine [.slice (some ⟨w.heap.size,0,none⟩) 0 0] ([]:List α) [w.heap.size])
    (.inr (.inr ⟨w.heap.size,0,0,#[],e,(0,0),[],rfl,rfl,heap_alloc_new _ _,fun _=>rfl,Nat.le_refl _,Nat.zero_le _,σ,rfl⟩)) (by simp [mine]) (by simp [mine])))
section
variable {α:Type}[Rp α]
theorem lz {x y:Operand}{t e:TypeId}{z:Value}{bytes:Nat}{v:Value}{xs:List α}{fp:List Nat}{b2 c2:Nat}{T} {cs:List Value}{u:α}(ho:ops.toList[i]? = some ⟨some d,.call ⟨.builtin .append,#[x,y],#[t,t]⟩,ty,p,af,g⟩) (hw:Wn ops n L ⟨some d,.call ⟨.builtin .append,#[x,y],#[t,t]⟩,ty,p,af,g⟩) (hn:Nat.blt d n=true)
    (ht:P.underlying t=some (.slice e)) (hT:Ty P e z (sz α) bytes) (hz:z.cells.size=sz α) (hx:evL L x=some v) (hy:evL L y=some (.slice (some ⟨b2,0,none⟩) 1 c2))
    (H:Sep M w0 Δ F w) (q j:Nat) (hi:Δ[q]? = some (mine [v] xs fp)) (hj:Δ[j]? = some (box b2 (.cells cs.toArray T))) (hu:own true w cs u []) (h63:xs.length+1≤maxLen) (hb48:(xs.length+1)*bytes≤140737488355328)
    (hS:∀ w',S w→Ext (· ∈ fp) w w'→S w')
    (k:∀ v' w' fp',Sep M w0 (Δ.set q (mine [v'] (xs++[u]) fp')) F w'→DL P n ops Q S rest ((d,v')::L) w') :
    DL P n ops Q S ((i,false)::rest) L w:=by
  obtain ⟨v',w',fp',h1,h2,h3,h4,h5⟩:=ey (ty:=ty) ht hT hz (H.mine q hi) (ys:=[u]) (c2:=c2) (m:=1) (by rw [Rp.len hu]; simp) rfl (At.whole (H.box j hj)) (Rp.one hu) (.one hu) σ (H.nodup1 hi) .nil σ h63 hb48
  exact iE ho hw rfl hn (fX hx hy h1) (fun h _=>hS _ h h3) (k _ _ _ (H.set hi (q:=Wk.mine [v'] (xs++[u]) fp') h3 h2 h5 fun b hb=>by rcases h4 b hb with h | h | h; exact .inl h; simp at h; exact .inr h))
theorem gZ {x y:Operand}{t e:TypeId}{z:Value}{bytes:Nat}{v:Value}{xs:List α}{fp:List Nat}{b2 c2:Nat}{T} {cs:List Value}{u:α}{fu} (ho:ops.toList[i]? = some ⟨some d,.call ⟨.builtin .append,#[x,y],#[t,t]⟩,ty,p,af,g⟩) (hw:Wn ops n L ⟨some d,.call ⟨.builtin .append,#[x,y],#[t,t]⟩,ty,p,af,g⟩) (hn:Nat.blt d n=true)
    (ht:P.underlying t=some (.slice e)) (hT:Ty P e z (sz α) bytes) (hz:z.cells.size=sz α) (hx:evL L x=some v) (hy:evL L y=some (.slice (some ⟨b2,0,none⟩) 1 c2))
    (H:Sep M w0 Δ F w) (l j q:Nat) (hi:Δ[l]? = some (mine [v] xs fp)) (hj:Δ[j]? = some (box b2 (.cells cs.toArray T))) (hq:Δ[q]? = some (mine cs u fu)) (hqi:Nat.beq q l=false) (h63:xs.length+1≤maxLen) (hb48:(xs.length+1)*bytes≤140737488355328)
    (hS:∀ w',S w→Ext (· ∈ fp) w w'→S w')
    (k:∀ v' w' fp',Sep M w0 ((Δ.set q gone).set l (mine [v'] (xs++[u]) fp')) F w'→DL P n ops Q S rest ((d,v')::L) w') :
    DL P n ops Q S ((i,false)::rest) L w:=by
  have hy':=H.mine q hq
  obtain ⟨v',w',fp',h1,h2,h3,h4,h5⟩:=ey (ty:=ty) ht hT hz (H.mine l hi) (ys:=[u]) (c2:=c2) (m:=1) (by rw [Rp.len hy']; simp) rfl (At.whole (H.box j hj)) (Rp.one hy') (.one hy') (H.apart hi hq hqi) (H.nodup1 hi) (H.nodup1 hq) σ h63 hb48
  exact iE ho hw rfl hn (fX hx hy h1) (fun h _=>hS _ h h3) (k _ _ _ (H.set2 hi hq hqi (q:=Wk.mine [v'] (xs++[u]) fp') h3 h2 h5 h4))
end
end
theorem la {α:Type}[Rp α] {s w ad n cap} {xs:List α}{fp} (h:own s w [.slice ad n cap] xs fp):n=xs.length:=by
  obtain ⟨_,_,e⟩:=aD h
  simp at e
  exact e.2.1
def qk (n:Nat) (p base:Int) (i:Nat):UInt8:=if (n:Int)≤p then cauchy (base+p-n) i else if (i:Int)=p then 1 else 0
def qD (n:Nat) (p base:Int):List UInt8:=(List.range n).map (qk n p base)
end Go.Wk
namespace Go.Wk
open Rp (sz own)
def cut {α:Type}(xs:List α) (l h:Nat):List α:=(xs.drop l).take (h-l)
theorem ie {α:Type}{xs:List α}{l h:Nat}(hh:h≤xs.length):(cut xs l h).length=h-l:=by
  unfold cut; rw [List.length_take,List.length_drop]; omega
theorem bC.weak' {α:Type}[Rp α] {s w cs} {xs:List α}{fp} (h:bC s w cs xs fp):bC false w cs xs fp:=by
  cases s
  · exact h
  · exact h.weak
theorem bC.drop {α:Type}[Rp α] {s w}:∀ (l:Nat) {xs:List α}{cs fp},bC s w cs xs fp→∃ f,bC s w (cs.drop (l*sz α)) (xs.drop l) f∧∀ b∈f,b∈fp
  | 0,xs,cs,fp,h=>⟨fp,by simpa using h,fun _ h=>h⟩
  | l+1,[],cs,fp,h=>⟨[],by simp [bC],σ⟩
  | l+1,x::xs,cs,fp,⟨f1,f2,e,h1,h2⟩=>by
    obtain ⟨f,hf,hs⟩:=bC.drop l h2
    refine ⟨f,?_,fun b hb=>by subst e; simp [hs b hb]⟩
    rw [List.drop_drop] at hf
    rw [Nat.add_mul,Nat.one_mul,Nat.add_comm]
    simpa using hf
theorem bC.take {α:Type}[Rp α] {s w}:∀ (n:Nat) {xs:List α}{cs fp},bC s w cs xs fp→∃ f,bC s w cs (xs.take n) f∧∀ b∈f,b∈fp
  | 0,xs,cs,fp,h=>⟨[],by simp [bC],σ⟩
  | n+1,[],cs,fp,h=>⟨fp,by simpa using h,fun _ h=>h⟩
  | n+1,x::xs,cs,fp,⟨f1,f2,e,h1,h2⟩=>by
    obtain ⟨f,hf,hs⟩:=bC.take n h2
    exact ⟨f1++f,⟨f1,f,rfl,h1,hf⟩,fun b hb=>by subst e; rcases List.mem_append.1 hb with hb | hb; simp [hb]; simp [hs b hb]⟩
def slA (a:Option Addr) (l m s:Nat):Option Addr:=if m=l then a else a.map (·.add (l*s))
theorem pj {α:Type}[Rp α] {s w ad n cap} {xs:List α}{fp} (h:own s w [.slice ad n cap] xs fp) (l k m:Nat) (h1:l≤k) (h2:k≤xs.length) (h3:k≤m) (h4:m≤cap) :
    ∃ f,own false w [.slice (slA ad l m (sz α)) (k-l) (m-l)] (cut xs l k) f∧∀ b∈f,b∈fp:=by
  have nil:k-l=0→own false w [.slice (slA ad l m (sz α)) (k-l) (m-l)] (cut xs l k) []:=fun e=>by
    have e2:cut xs l k=[]:=by unfold cut; rw [e]; simp
    rw [e,e2]
    exact .inl ⟨rfl,_,_,rfl,rfl,rfl⟩
  by_cases e:k-l=0
  · exact ⟨[],nil e,σ⟩
  rcases h with ⟨_,_,_,_,rfl,_⟩ | ⟨_,rfl,_⟩ | ⟨b,o,cap',cur,T,fr,fs,g1,g2,g3,g4,g5,g6,g7,g8⟩
  · simp at h2; omega
  · simp at h2; omega
  · simp only [List.cons.injEq,Value.slice.injEq,and_true] at g1
    obtain ⟨rfl,rfl,rfl⟩:=g1
    subst g2
    obtain ⟨f1,k1,s1⟩:=g8.drop l
    obtain ⟨f2,k2,s2⟩:=k1.take (k-l)
    have hl:(cut xs l k).length=k-l:=ie h2
    refine ⟨b::f2,.inr (.inr ⟨b,o+l*sz α,m-l,cur,T,fr,f2,?_,rfl,g3,(fun h=>by cases h),ω,ω,?_,?_⟩),fun x hx=>?_⟩
    · rw [hl,slA,if_neg ω]
      simp [dJ]
    · have:(l+(m-l))*sz α≤cap*sz α:=Nat.mul_le_mul_right _ ω
      rw [Nat.add_mul] at this
      omega
    · rw [List.drop_drop] at k2; exact k2.weak'
    · rcases List.mem_cons.1 hx with rfl | hx
      · simp
      · simp [s1 _ (s2 _ hx)]
section
variable {P:Program}{n:Nat}{L:Env}{w:World}{d:Option Tmp}{ty:TypeId}{p:String}{af:Array Edge}{g:Option (Nat × Bool)}
theorem l7 {t e:TypeId}(hu:P.underlying t=some (.slice e)):P.underlying t=some (.slice (P.elem t))∧P.elem t=e:=by
  have:P.elem t=e:=by simp [Program.elem,hu]
  exact ⟨by rw [this]; exact hu,this⟩
theorem jD {t e:TypeId}{x hi:Operand}{ad:Option Addr}{len cap s:Nat}{k2:IntKind}{h:Int}(hu:P.underlying t=some (.slice e)) (hs:∀ w,(sizeOf e).run P w = .ok s w)
    (hx:evL L x=some (.slice ad len cap)) (hh:evL L hi=some (.int k2 h)) (h':Nat) (eh:h=h') (h2:h'≤cap) :
    Py P n L w ⟨d,.slice t x none (some hi) none,ty,p,af,g⟩ (.slice (slA ad 0 cap s) (h'-0) (cap-0)):=fun a ha=>by
  obtain ⟨hu',he⟩:=l7 hu
  have:=run_slice_h (P:=P) w t ad len cap hu' k2 h ω ω
  rw [he,hs] at this
  subst eh
  simp [execOp,ha.eval hx,ha.eval hh,run_sliceAt_slice w t _ _ _ _ hu',this,Result.andThen,sliced,slA]
theorem lQ {t e:TypeId}{x lo:Operand}{ad:Option Addr}{len cap s:Nat}{k1:IntKind}{l:Int}(hu:P.underlying t=some (.slice e)) (hs:∀ w,(sizeOf e).run P w = .ok s w)
    (hx:evL L x=some (.slice ad len cap)) (hl:evL L lo=some (.int k1 l)) (l':Nat) (el:l=l') (h1:l'≤len) :
    Py P n L w ⟨d,.slice t x (some lo) none none,ty,p,af,g⟩ (.slice (slA ad l' cap s) (len-l') (cap-l')):=fun a ha=>by
  obtain ⟨hu',he⟩:=l7 hu
  have:=run_slice_l (P:=P) w t ad len cap hu' k1 l ω ω
  rw [he,hs] at this
  subst el
  simp [execOp,ha.eval hx,ha.eval hl,run_sliceAt_slice w t _ _ _ _ hu',this,Result.andThen,sliced,slA]
end
class Flat (α:Type) [Rp α]:Prop where
  flat:∀ {s w cs f} {x:α},own s w cs x f→f=[]∧∀ s' w',own s' w' cs x []
instance:Flat UInt8:=⟨fun h=>⟨h.2,fun _ _=>⟨h.1,rfl⟩⟩⟩
theorem bC.flat {α:Type}[Rp α] [Flat α] {s w}:∀ {xs:List α}{cs f},bC s w cs xs f→f=[]∧∀ s' w',bC s' w' cs xs []
  | [],_,_,h=>⟨h,fun _ _=>rfl⟩
  | _::_,_,_,⟨f1,f2,e,h1,h2⟩=>by
    obtain ⟨rfl,k1⟩:=Flat.flat h1
    obtain ⟨rfl,k2⟩:=h2.flat
    exact ⟨e,fun s' w'=>⟨[],[],rfl,k1 s' w',k2 s' w'⟩⟩
theorem mc {α:Type}[Rp α] {s w ad n cap} {xs:List α}{fp} (h:own s w [.slice ad n cap] xs fp) (h0:0<xs.length) :
    ∃ b o cs f,ad=some ⟨b,o,none⟩∧At w b o cs∧cs.length=xs.length*sz α∧bC s w cs xs f∧(∀ x∈f,x∈fp)∧b∈fp:=by
  rcases h with ⟨_,_,_,_,rfl,_⟩ | ⟨_,rfl,_⟩ | ⟨b,o,cap',cur,T,fr,fs,h1,h2,h3,h4,h5,h6,h7,h8⟩
  · simp at h0
  · simp at h0
  · simp only [List.cons.injEq,Value.slice.injEq,and_true] at h1
    obtain ⟨rfl,_,rfl⟩:=h1
    subst h2
    have hle:xs.length*sz α≤cap*sz α:=Nat.mul_le_mul_right _ h5
    refine ⟨b,o,(cur.toList.drop o).take (xs.length*sz α),fs,rfl,iD h3 _,?_,h8.congr (by rw [List.take_take,Nat.min_self]),fun x hx=>by simp [hx],σ⟩
    rw [List.length_take,List.length_drop]
    have:cur.toList.length=cur.size:=by simp
    omega
theorem bC.one' {α:Type}[Rp α] {s w}:∀ {xs:List α}{cs f},bC s w cs xs f→cs.length=xs.length*sz α→∀ v∈cs,v.oneCell'=true
  | [],cs,f,_,hl,v,hv=>by have:cs=[]:=List.eq_nil_of_length_eq_zero (by simpa using hl); subst this; simp at hv
  | x::xs,cs,f,⟨f1,f2,e,h1,h2⟩,hl,v,hv=>by
    rcases ln (sz α) hv with hv | hv
    · exact Rp.one h1 v hv
    · exact h2.one' (by rw [List.length_drop,hl,List.length_cons,Nat.add_mul]; omega) v hv
section
variable {α:Type}[Rp α] {P:Program}{t ty e:TypeId}{z:Value}{bytes:Nat}{w:World}
theorem lf {a a2:Option Addr}{n c c2:Nat}(ht:P.underlying t=some (.slice e)) (hT:Ty P e z (sz α) bytes) (hn:n≤c) :
    (Builtin.append_ #[t,t] ty #[.slice a n c,.slice a2 0 c2]).run P w = .ok (.slice a n c) w:=by
  obtain ⟨i,hi1,hi2,hi3,hi4⟩:=hT.parts
  have hld:∀ b:Addr,(loadCells b (0*sz α)).run P w = .ok #[] w:=fun b=>by simp [loadCells,loadCellsFrom]
  cases a2 with
  | none=>cases a<;>simp [Builtin.append_,run_underlying ht,sizeOf,typeInfo,hi1,hi3,Builtin.lenOf,hn,Builtin.firstCells,storeCells]
  | some b=>cases a<;>simp [Builtin.append_,run_underlying ht,sizeOf,typeInfo,hi1,hi3,Builtin.lenOf,hn,Builtin.firstCells,loadCells,loadCellsFrom,storeCells]
theorem oK {ad n cap} {xs:List α}{fp} (h:own true w [.slice ad n cap] xs fp):n=xs.length∧n≤cap:=by
  rcases h with ⟨h,_⟩ | ⟨h1,rfl,_⟩ | ⟨b,o,cap',cur,T,fr,fs,h1,h2,h3,h4,h5,h6,h7,h8⟩
  · cases h
  · simp at h1; simp [h1]
  · simp only [List.cons.injEq,Value.slice.injEq,and_true] at h1
    obtain ⟨rfl,rfl,rfl⟩:=h1
    exact ⟨rfl,h5⟩
theorem hX [Flat α] (ht:P.underlying t=some (.slice e)) (hT:Ty P e z (sz α) bytes) (hz:z.cells.size=sz α)
    {v:Value}{xs ys:List α}{fp fy:List Nat}(h:own true w [v] xs fp) {s ad n c2} (hy:own s w [.slice ad n c2] ys fy) (n1:fp.Nodup)
    (h63:xs.length+ys.length≤maxLen) (hb48:(xs.length+ys.length)*bytes≤140737488355328) :
    ∃ v' w' fp',(Builtin.append_ #[t,t] ty #[v,.slice ad n c2]).run P w = .ok v' w'∧own true w' [v'] (xs++ys) fp'∧Ext (· ∈ fp) w w' ∧
      (∀ b∈fp',b∈fp∨w.heap.size≤b)∧fp'.Nodup:=by
  obtain rfl:=la hy
  by_cases h0:0<ys.length
  · obtain ⟨b,o,cs,f,rfl,hat,hl,hL,_,_⟩:=mc hy h0
    obtain ⟨rfl,hL'⟩:=hL.flat
    obtain ⟨v',w',fp',k1,k2,k3,k4,k5⟩:=ey (ty:=ty) (c2:=c2) ht hT hz h hl rfl hat (hL.one' hl) (hL' true w) σ n1 .nil h0 h63 hb48
    exact ⟨v',w',fp',k1,k2,k3,fun b hb=>by rcases k4 b hb with h | h | h; exact .inl h; simp at h; exact .inr h,k5⟩
  · obtain rfl:ys=[]:=List.eq_nil_of_length_eq_zero ω
    obtain ⟨a0,c0,e0⟩:=aD h
    simp only [List.cons.injEq,and_true] at e0
    subst e0
    obtain ⟨_,hc⟩:=oK h
    exact ⟨_,_,fp,lf ht hT hc,by simpa using h,Ext.refl,fun b hb => .inl hb,n1⟩
end
section
variable {P:Program}{n:Nat}{ops:Array Oper}{Q:Post}{L:Env}{w w0:World}{M:Nat→Prop}{Δ F:List Rsc}{d:Tmp}{ty:TypeId}{p:String}{af:Array Edge}{g:Option (Nat × Bool)}{rest:List Oper}{α:Type}[Rp α] [Flat α]
theorem gh {x y:Operand}{t e:TypeId}{z:Value}{bytes:Nat}{v:Value}{xs ys:List α}{fp fy:List Nat}{s ad m c2} (hw:Wn ops n L ⟨some d,.call ⟨.builtin .append,#[x,y],#[t,t]⟩,ty,p,af,g⟩) (hn:Nat.blt d n=true)
    (ht:P.underlying t=some (.slice e)) (hT:Ty P e z (sz α) bytes) (hz:z.cells.size=sz α) (hx:evL L x=some v) (hy:evL L y=some (.slice ad m c2))
    (H:Sep M w0 Δ F w) (i:Nat) (hi:Δ[i]? = some (mine [v] xs fp)) (hu:own s w [.slice ad m c2] ys fy) (h63:xs.length+ys.length≤maxLen) (hb48:(xs.length+ys.length)*bytes≤140737488355328)
    (k:∀ v' w' fp',Sep M w0 (Δ.set i (mine [v'] (xs++ys) fp')) F w'→RL P n ops Q rest ((d,v')::L) w') :
    RL P n ops Q (⟨some d,.call ⟨.builtin .append,#[x,y],#[t,t]⟩,ty,p,af,g⟩::rest) L w:=by
  obtain ⟨v',w',fp',h1,h2,h3,h4,h5⟩:=hX (ty:=ty) ht hT hz (H.mine i hi) hu (H.nodup1 hi) h63 hb48
  exact gy hw rfl hn (fX hx hy h1) (k _ _ _ (H.set hi (q:=Wk.mine [v'] (xs++ys) fp') h3 h2 h5 h4))
end
def ResS {α:Type}[Rp α] (w w':World) (cs:List Value) (x:α):Prop:=∃ fp,own false w' cs x fp∧∀ b∈fp,w.heap.size≤b
theorem Sep.freshD {w0 Δ F} {w:World}(h:Sep No w0 Δ F w) (i:Nat) {r:Rsc}(hi:Δ[i]? = some r):∀ b∈r.fp,w0.heap.size≤b:=fun b hb=>
  (h.new b (aZ.2 ⟨r,List.mem_of_getElem? hi,hb⟩)).resolve_left id
theorem Sep.resS {α:Type}[Rp α] {M w0 Δ F} {w w':World}{cs:List Value}{x:α}(h:Sep M w0 Δ F w) (e:Ext No w w') (hr:ResS w w' cs x):∃ fp,Sep M w0 Δ (F++[Wk.seen false cs x fp]) w'∧∀ b∈fp,w.heap.size≤b:=by
  obtain ⟨fp,h1,h2⟩:=hr
  exact ⟨fp,(h.to e).look (r:=Wk.seen false cs x fp) h1 (fun b hb hb'=>by have:=h2 b hb; have:=h.lt b hb'; omega),h2⟩
theorem fW {α:Type}[Rp α] {s w ad n cap} {xs:List α}{fp} (h:own s w [.slice ad n cap] xs fp):xs.length≤cap:=by
  rcases h with ⟨_,_,_,_,rfl,_⟩ | ⟨_,rfl,_⟩ | ⟨b,o,cap',cur,T,fr,fs,h1,h2,h3,h4,h5,h6,h7,h8⟩
  · exact Nat.zero_le _
  · exact Nat.zero_le _
  · simp only [List.cons.injEq,Value.slice.injEq,and_true] at h1
    obtain ⟨rfl,rfl,rfl⟩:=h1
    exact h5
theorem kM {α:Type}[Rp α] {s w ad n cap} {xs:List α}{fp} (h:own s w [.slice ad n cap] xs fp) (l k m:Nat) (h1:l≤k) (h2:k≤xs.length) (h3:k≤m) (h4:m≤cap) :
    ∃ f,own false w [.slice (slA ad l m (sz α)) (cut xs l k).length (m-l)] (cut xs l k) f∧∀ b∈f,b∈fp:=by
  rw [ie h2]; exact pj h l k m h1 h2 h3 h4
section
variable {P:Program}{n:Nat}{L:Env}{w:World}{d:Option Tmp}{ty:TypeId}{p:String}{af:Array Edge}{g:Option (Nat × Bool)}
theorem kZ {t e:TypeId}{x hi:Operand}{ad:Option Addr}{len cap s:Nat}{k2:IntKind}{h:Int}{m:Nat}(hu:P.underlying t=some (.slice e)) (hs:∀ w,(sizeOf e).run P w = .ok s w)
    (hx:evL L x=some (.slice ad len cap)) (hh:evL L hi=some (.int k2 h)) (h':Nat) (eh:h=h') (h2:h'≤cap) (em:m=h'-0) :
    Py P n L w ⟨d,.slice t x none (some hi) none,ty,p,af,g⟩ (.slice (slA ad 0 cap s) m (cap-0)):=by
  rw [em]; exact jD hu hs hx hh h' eh h2
theorem iK {t e:TypeId}{x lo:Operand}{ad:Option Addr}{len cap s:Nat}{k1:IntKind}{l:Int}{m:Nat}(hu:P.underlying t=some (.slice e)) (hs:∀ w,(sizeOf e).run P w = .ok s w)
    (hx:evL L x=some (.slice ad len cap)) (hl:evL L lo=some (.int k1 l)) (l':Nat) (el:l=l') (h1:l'≤len) (em:m=len-l') :
    Py P n L w ⟨d,.slice t x (some lo) none none,ty,p,af,g⟩ (.slice (slA ad l' cap s) m (cap-l')):=by
  subst em; exact lQ hu hs hx hl l' el h1
end
end Go.Wk
namespace Go.Wk
open Rp (sz own)
structure Recs (R:LoopState→Option Code→Loop) (fn:FuncId) (tmps:Array Value) (ps:Array Tmp) (assign body:Code):Prop where
  st:∀ s p,(R s p).state=s
  pe:∀ s p,(R s p).pending=p
  up:∀ s p s' p',{ R s p with state:=s',pending:=p' }=R s' p'
  fn:∀ s p,(R s p).fn=fn
  tmps:∀ s p,(R s p).tmps=tmps
  ps:∀ s p,(R s p).params=ps
  asg:∀ s p,(R s p).assign=assign
  bo:∀ s p,(R s p).body=body
section
variable {P:Program}{n:Nat}{L:Env}{w:World}{d:Option Tmp}{ty:TypeId}{p:String}{af:Array Edge}{g:Option (Nat × Bool)}
theorem im {f:FuncId}{xs:Array Operand}{vs:List Value}(hv:di L xs.toList=some vs) :
    Py P n L w ⟨d,.makeFunc (.func f) #[] xs,ty,p,af,g⟩ (.func (.func f) #[] vs.toArray):=fun a ha=>by
  have hm:xs.map a.eval=vs.toArray:=by
    have key:∀ (l:List Operand) (vs:List Value),di L l=some vs→l.map a.eval=vs:=by
      intro l
      induction l with
      | nil=>intro vs h; simp [di] at h; simp [h]
      | cons x l ih=>
        intro vs h
        unfold di at h
        split at h
        · rename_i v us hv hus
          cases h
          simp [ha.eval hv,ih us hus]
        · cases h
    have:=key _ _ hv
    apply Array.toList_inj.1
    simpa using this
  simp [execOp,Instr.makeFunc,hm]
end
structure Pl (P:Program) (t:TypeId) (zs:List Value) (pl:List (Nat × Nat)):Prop where
  h : (match P.info? t,P.underlying t with
    | some it,some (.struct fields)=>(it.zero,fields.toList.mapM (fun f=>(P.info? f.type).map fun i=>(f.offset,i.size)))
    | _,_=>(none,none))=(some (.agg zs.toArray),some pl)
def kT (pl:List (Nat × Nat)):List Value→List (Nat × Value)→Option (List Value)
  | zs,[]=>some zs
  | zs,(i,v)::rest=>match pl[i]? with
    | none=>none
    | some (off,size)=>match Nat.beq v.cells.toList.length size && Nat.ble (off+size) zs.length with
      | true=>kT pl (aJ zs off v.cells.toList) rest
      | false=>none
theorem js:∀ (vs:List Value) (zs:Array Value) (off k:Nat),(vs.zipIdx k).foldl (fun (cs:Array Value) (x:Value × Nat)=>cs.setIfInBounds (off+x.2) x.1) zs=lay zs (off+k) vs
  | [],zs,off,k=>rfl
  | v::vs,zs,off,k=>by
    rw [List.zipIdx_cons,List.foldl_cons,js vs]
    show lay (zs.setIfInBounds (off+k) v) (off+(k+1)) vs=lay (zs.setIfInBounds (off+k) v) (off+k+1) vs
    rfl
theorem jj (pl:List (Nat × Nat)):∀ (parts:List (Nat × Value)) (zs cs:List Value),kT pl zs parts=some cs→Instr.fill (pl.toArray[·]?) zs.toArray parts=some cs.toArray
  | [],zs,cs,h=>by simp [kT] at h; simp [Instr.fill,h]
  | (i,v)::rest,zs,cs,h=>by
    unfold kT at h
    cases hp:pl[i]? with
    | none=>simp [hp] at h
    | some q=>
      obtain ⟨off,size⟩:=q
      simp only [hp] at h
      split at h
      · rename_i hc
        simp only [Bool.and_eq_true] at hc
        have h1:=Nat.eq_of_beq_eq_true hc.1
        have h2:=Nat.le_of_ble_eq_true hc.2
        have h3:=jj pl rest _ _ h
        have h4:v.cells.size=size:=by simpa using h1
        unfold Instr.fill
        have hp':pl.toArray[i]? = some (off,size):=by simpa using hp
        simp only [hp']
        rw [if_neg (by simp [h4]; omega)]
        have e:Array.foldl (fun (cs:Array Value) (x:Value × Nat)=>cs.setIfInBounds (off+x.2) x.1) zs.toArray v.cells.zipIdx=(aJ zs off v.cells.toList).toArray:=by
          rw [← Array.foldl_toList,Array.toList_zipIdx]
          have:=js v.cells.toList zs.toArray off 0
          rw [this,Nat.add_zero]
          exact iB (by rw [h1]; exact h2)
        rw [← h3,← e]
      · cases h
section
variable {P:Program}{n:Nat}{L:Env}{w:World}{d:Option Tmp}{ty:TypeId}{p:String}{af:Array Edge}{g:Option (Nat × Bool)}
theorem aP {t:TypeId}{parts:Array (Nat × Operand)}{zs vs cs:List Value}{pl:List (Nat × Nat)}(hp:Pl P t zs pl) (hv:di L (parts.toList.map (·.2))=some vs)
    (hf:kT pl zs ((parts.toList.map (·.1)).zip vs)=some cs):Py P n L w ⟨d,.build t parts,ty,p,af,g⟩ (.agg cs.toArray):=n9 fun a ha=>by
  have key:∀ (l:List (Nat × Operand)) (vs:List Value),di L (l.map (·.2))=some vs→l.map (fun x=>(x.1,a.eval x.2))=(l.map (·.1)).zip vs:=by
    intro l
    induction l with
    | nil=>intro vs h; rfl
    | cons x l ih=>
      intro vs h
      simp only [List.map_cons] at h ⊢
      unfold di at h
      split at h
      · rename_i v us hv hus
        cases h
        rw [List.zip_cons_cons,← ih us hus,ha.eval hv]
      · cases h
  have e:(parts.map fun (i,x)=>(i,a.eval x)).toList=(parts.toList.map (·.1)).zip vs:=by
    rw [Array.toList_map]
    exact key _ _ hv
  rw [e]
  obtain ⟨hp⟩:=hp
  unfold Program.built
  cases hi:P.info? t with
  | none=>simp [hi] at hp
  | some it=>
    cases hu:P.underlying t with
    | none=>simp [hi,hu] at hp
    | some td=>
      cases td<;>simp only [hi,hu,Prod.mk.injEq,reduceCtorEq,false_and,and_false] at hp
      rename_i fields
      obtain ⟨h1,h2⟩:=hp
      simp only [h1,h2]
      exact jj _ _ _ _ hf
end
end Go.Wk
namespace Go.Wk
open Go.Proofs
theorem aA:Ty Try.prog 2 (.int .i64 0) 1 8:=⟨κ⟩
theorem en:Ty Try.prog 5 (.int .u8 0) 1 1:=⟨κ⟩
theorem me:Ty Try.prog 9 (.string ⟨#[]⟩) 1 16:=⟨κ⟩
theorem eC:Ty Try.prog 27 (.slice none 0 0) 1 24:=⟨κ⟩
theorem bp:Ty Try.prog 38 (.agg #[.int .i64 0,.int .i64 0,.string ⟨#[]⟩,.int .i64 0]) 4 40:=⟨κ⟩
theorem cw:Ty Try.prog 43 (.agg #[.int .i64 0,.int .i64 0,.int .i64 0,.slice none 0 0]) 4 48:=⟨κ⟩
theorem n6:Pl Try.prog 25 [.int .i64 0,.int .i64 0,.int .i64 0,.int .i64 0,.int .i64 0,.int .i64 0,.int .i64 0,.int .i64 0,.int .i64 0] [(0,1),(1,1),(2,1),(3,1),(4,1),(5,1),(6,1),(7,1),(8,1)]:=⟨κ⟩
theorem iR:Pl Try.prog 30 [.slice none 0 0,.slice none 0 0,.slice none 0 0,.int .i64 0,.int .i64 0] [(0,1),(1,1),(2,1),(3,1),(4,1)]:=⟨κ⟩
theorem bL:Pl Try.prog 34 [.int .i64 0,.slice none 0 0,.slice none 0 0,.slice none 0 0,.int .i64 0,.int .i64 0] [(0,1),(1,5)]:=⟨κ⟩
theorem ke:Pl Try.prog 38 [.int .i64 0,.int .i64 0,.string ⟨#[]⟩,.int .i64 0] [(0,1),(1,1),(2,1),(3,1)]:=⟨κ⟩
theorem iI:Pl Try.prog 43 [.int .i64 0,.int .i64 0,.int .i64 0,.slice none 0 0] [(0,1),(1,1),(2,1),(3,1)]:=⟨κ⟩
theorem gp:Pl Try.prog 45 [.int .i64 0,.int .i64 0,.int .i64 0,.int .i64 0,.slice none 0 0] [(0,1),(1,4)]:=⟨κ⟩
theorem of:Pl Try.prog 78 [.slice none 0 0,.int .i64 0] [(0,1),(1,1)]:=⟨κ⟩
theorem oV:NG Try.f5:=by decide
theorem ig:NG Try.f9:=by decide
theorem kW:NG Try.f11:=by decide
theorem mO:NG Try.f12:=by decide
theorem km:NG Try.f13:=by decide
theorem np:NG Try.f14:=by decide
theorem kG:NG Try.f15:=by decide
theorem mP:NG Try.f16:=by decide
theorem oy:NG Try.f17:=by decide
theorem ny:NG Try.f18:=by decide
theorem iy:NG Try.f19:=by decide
theorem lk:NG Try.f20:=by decide
theorem lj:NG Try.f21:=by decide
theorem kQ:NG Try.f24:=by decide
theorem kU:NG Try.f25:=by decide
theorem kB:NG Try.f26:=by decide
theorem oa:NG Try.f28:=by decide
theorem mL:NG Try.f29:=by decide
theorem mX:NG Try.f31:=by decide
theorem nc:NG Try.f32:=by decide
theorem ou:NG Try.f33:=by decide
theorem aK:NG Try.f34:=by decide
theorem gu:NG Try.f35:=by decide
theorem bi:NG Try.f36:=by decide
theorem bR:NG Try.f37:=by decide
theorem ow:NG Try.f38:=by decide
theorem bQ:NG Try.f39:=by decide
theorem jd:NG Try.f40:=by decide
theorem eQ:NG Try.f41:=by decide
theorem iA:NG Try.f42:=by decide
theorem kf:NG Try.f43:=by decide
theorem kh:NG Try.f44:=by decide
theorem nP:NG Try.f45:=by decide
theorem eW:NG Try.f46:=by decide
theorem mZ:NG Try.f47:=by decide
theorem na:NG Try.f48:=by decide
theorem oB:NG Try.f49:=by decide
theorem iw:NG Try.f50:=by decide
theorem iN:NG Try.f51:=by decide
theorem ez:NG Try.f52:=by decide
theorem kz:NG Try.f53:=by decide
theorem gt:NG Try.f54:=by decide
theorem gn:NG Try.f55:=by decide
theorem nT:NG Try.f56:=by decide
theorem nq:NG Try.f57:=by decide
theorem nu:NG Try.f58:=by decide
theorem oz:NG Try.f59:=by decide
theorem kn:NG Try.f60:=by decide
theorem oG:NG Try.f61:=by decide
theorem kc:NG Try.f62:=by decide
theorem nn:NG Try.f63:=by decide
theorem nV:NG Try.f64:=by decide
theorem ns:NG Try.f65:=by decide
theorem mR:NG Try.f66:=by decide
theorem kR:NG Try.f67:=by decide
theorem nK:NG Try.f69:=by decide
theorem gz:NG Try.f70:=by decide
theorem nk:NG Try.f71:=by decide
theorem oi:NG Try.f72:=by decide
theorem kj:NG Try.f73:=by decide
theorem kv:NG Try.f74:=by decide
theorem kP:NG Try.f75:=by decide
theorem i7:NG Try.f76:=by decide
theorem ki:NG Try.f77:=by decide
theorem ox:NG Try.f78:=by decide
theorem m9:NG Try.f79:=by decide
theorem oF:NG Try.f80:=by decide
theorem mT:NG Try.f81:=by decide
theorem nh:NG Try.f82:=by decide
theorem nz:NG Try.f83:=by decide
theorem nA:NG Try.f84:=by decide
theorem kw:NG Try.f85:=by decide
theorem lh:NG Try.f86:=by decide
theorem m5:NG Try.f87:=by decide
theorem ld:NG Try.f88:=by decide
theorem mW:NG Try.f89:=by decide
theorem m0:NG Try.f90:=by decide
theorem mM:NG Try.f91:=by decide
end Go.Wk
namespace Go.Wk
open Go.Proofs
theorem pB:type_of% @Try.sizeOf100 := @Try.sizeOf100
theorem ts2:type_of% @Try.sizeOf2 := @Try.sizeOf2
theorem fh:type_of% @Try.sizeOf22 := @Try.sizeOf22
theorem bc:type_of% @Try.sizeOf25 := @Try.sizeOf25
theorem ce:type_of% @Try.sizeOf26 := @Try.sizeOf26
theorem bT:type_of% @Try.sizeOf27 := @Try.sizeOf27
theorem cj:type_of% @Try.sizeOf28 := @Try.sizeOf28
theorem bt:type_of% @Try.sizeOf30 := @Try.sizeOf30
theorem cz:type_of% @Try.sizeOf34 := @Try.sizeOf34
theorem bj:type_of% @Try.sizeOf38 := @Try.sizeOf38
theorem dq:type_of% @Try.sizeOf43 := @Try.sizeOf43
theorem i8:type_of% @Try.sizeOf45 := @Try.sizeOf45
theorem ts5:type_of% @Try.sizeOf5 := @Try.sizeOf5
theorem ts9:type_of% @Try.sizeOf9 := @Try.sizeOf9
theorem aM:type_of% @Try.underlying100 := @Try.underlying100
theorem lR:type_of% @Try.underlying105 := @Try.underlying105
theorem tu2:type_of% @Try.underlying2 := @Try.underlying2
theorem cX:type_of% @Try.underlying22 := @Try.underlying22
theorem aT:type_of% @Try.underlying25 := @Try.underlying25
theorem bg:type_of% @Try.underlying26 := @Try.underlying26
theorem aU:type_of% @Try.underlying27 := @Try.underlying27
theorem bE:type_of% @Try.underlying28 := @Try.underlying28
theorem tu3:type_of% @Try.underlying3 := @Try.underlying3
theorem aI:type_of% @Try.underlying30 := @Try.underlying30
theorem cS:type_of% @Try.underlying34 := @Try.underlying34
theorem bf:type_of% @Try.underlying38 := @Try.underlying38
theorem cK:type_of% @Try.underlying43 := @Try.underlying43
theorem jX:type_of% @Try.underlying45 := @Try.underlying45
theorem tu5:type_of% @Try.underlying5 := @Try.underlying5
theorem ms:type_of% @Try.underlying78 := @Try.underlying78
theorem tu9:type_of% @Try.underlying9 := @Try.underlying9
end Go.Wk
namespace Go.Wk
open Go.Proofs Rp Go.Proofs.Try
set_option maxRecDepth 10000
theorem ba {w:World}{v0 lo hi:Int}  : Ret Try.prog 39 #[.int .i64 v0,.int .i64 lo,.int .i64 hi] w fun v w'=>Ext No w w'∧(v = .bool (ins v0 lo hi)):=by
 refine aO Try.func39 Z Try.ntmps39 Z (fun Q hQ hN=>?_);have H0:=Sep.start (w:=w) (F:=[]) σ;refine ab (sA Z Z (aa (ab (sR 4 Z (bG 3 (j:=3) (want:=true) (t:=13) Z Z Z Z (fun hg1 kk1=>au (wgE Z Z Z hg1) Z Z (aW Z) (au (wgE Z Z Z hg1) Z Z (aW Z) (au (wgE Z Z Z hg1) Z Z (jT Z Z) (kk1 _ _ (kx Z (kx Z (kx Z k0))) Z Ext.refl)))) (fun w1 e1=>?_))))));have H1:=H0.to e1;refine sV Z (b0 Z Z) (rA hQ Try.results39 Z ?_);exact ⟨H1.ext,Z⟩
theorem aR {w:World}{v0 lo hi:Int}  : Ret Try.prog 37 #[.int .i64 v0,.int .i64 lo,.int .i64 hi] w fun v w'=>Ext No w w'∧(v = .bool (ins v0 lo hi)):=by
 refine aO Try.func37 Z Try.ntmps37 Z (fun Q hQ hN=>?_);have H0:=Sep.start (w:=w) (F:=[]) σ;refine ab (sA Z Z (aa (ab (sR 4 Z (bG 3 (j:=3) (want:=true) (t:=13) Z Z Z Z (fun hg1 kk1=>au (wgE Z Z Z hg1) Z Z (aW Z) (au (wgE Z Z Z hg1) Z Z (aW Z) (au (wgE Z Z Z hg1) Z Z (jT Z Z) (kk1 _ _ (kx Z (kx Z (kx Z k0))) Z Ext.refl)))) (fun w1 e1=>?_))))));have H1:=H0.to e1;refine sV Z (b0 Z Z) (rA hQ Try.results37 Z ?_);exact ⟨H1.ext,Z⟩
theorem gU {w:World}{x y:Int}  : Ret Try.prog 48 #[.int .i64 x,.int .i64 y] w fun v w'=>Ext No w w'∧(v = .bool (cOK x y)):=by
 refine aO Try.func48 Z Try.ntmps48 Z (fun Q hQ hN=>?_);have H0:=Sep.start (w:=w) (F:=[]) σ;refine ab (sA Z Z (aa (ab (sM Z Z (sE Try.func39 bQ Z ba H0 (fun w1 e1 H1=>sM Z Z (bG 2 (j:=2) (want:=true) (t:=9) Z Z Z Z (fun hg1 kk1=>au (wgE Z Z Z hg1) Z Z (aW Z) (bP (wgE Z Z Z hg1) Z Z (aG Try.func39 Z bQ Z) ba (fun w3 e3=>kk1 _ _ (kx Z (kx Z k0)) Z (Ext.refl.trans e3)))) (fun w2 e2=>?_))))))));have H2:=H1.to e2;refine sV Z (b0 Z Z) (rA hQ Try.results48 Z ?_);exact ⟨H2.ext,Z⟩
theorem gX {w:World}{x y:Int}  : Ret Try.prog 49 #[.int .i64 x,.int .i64 y] w fun v w'=>Ext No w w'∧(v = .bool (rOK x y)):=by
 refine aO Try.func49 Z Try.ntmps49 Z (fun Q hQ hN=>?_);have H0:=Sep.start (w:=w) (F:=[]) σ;refine ab (sA Z Z (aa (ab (sM Z Z (sE Try.func39 bQ Z ba H0 (fun w1 e1 H1=>sM Z Z (bG 2 (j:=2) (want:=true) (t:=9) Z Z Z Z (fun hg1 kk1=>au (wgE Z Z Z hg1) Z Z (aW Z) (bP (wgE Z Z Z hg1) Z Z (aG Try.func39 Z bQ Z) ba (fun w3 e3=>kk1 _ _ (kx Z (kx Z k0)) Z (Ext.refl.trans e3)))) (fun w2 e2=>?_))))))));have H2:=H1.to e2;refine sV Z (b0 Z Z) (rA hQ Try.results49 Z ?_);exact ⟨H2.ext,Z⟩
theorem cW {w:World}{s:Shape}  : Ret Try.prog 19 #[s.v] w fun v w'=>Ext No w w'∧(v = .int .i64 s.fault):=by
 refine aO Try.func19 Z Try.ntmps19 Z (fun Q hQ hN=>?_);have H0:=Sep.start (w:=w) (F:=[]) σ;refine ab (bx ae Z Z H0 (fun b1 w1 e1 g1 H1=>sA Z Z (aa (ah (ab (sF aT Z ts2 (sLd tu2 (H1.box 0 Z) Z (sF aT Z ts2 (sLd tu2 (H1.box 0 Z) Z (sE Try.func48 na Z gU H1 (fun w2 e2 H2=>sV Z (bF Z) (sM Z Z (bG 6 (j:=6) (want:=false) (t:=15) Z Z Z Z (fun hg1 kk1=>au (wgE Z Z Z hg1) Z Z (ao aT Z ts2 Z Z) (au (wgE Z Z Z hg1) Z Z (aq tu2 Z Z (az (H2.box 0 Z) Z)) (au (wgE Z Z Z hg1) Z Z (ao aT Z ts2 Z Z) (au (wgE Z Z Z hg1) Z Z (aq tu2 Z Z (az (H2.box 0 Z) Z)) (bP (wgE Z Z Z hg1) Z Z (aG Try.func49 Z oB Z) gX (fun w4 e4=>au (wgE Z Z Z hg1) Z Z (bF Z) (kk1 _ _ (kx Z (kx Z (kx Z (kx Z (kx Z (kx Z k0)))))) Z (Ext.refl.trans e4)))))))) (fun w3 e3=>?_))))))))))))));have H3:=H2.to e3;refine sV Z (cg Z Z) (sM Z Z (bG 4 (j:=14) (want:=false) (t:=21) Z Z Z Z (fun hg2 kk2=>au (wgE Z Z Z hg2) Z Z (ao aT Z ts2 Z Z) (au (wgE Z Z Z hg2) Z Z (aq tu2 Z Z (az (H3.box 0 Z) Z)) (bP (wgE Z Z Z hg2) Z Z (aG Try.func39 Z bQ Z) ba (fun w6 e6=>au (wgE Z Z Z hg2) Z Z (bF Z) (kk2 _ _ (kx Z (kx Z (kx Z (kx Z k0)))) Z (Ext.refl.trans e6)))))) (fun w5 e5=>?_)));have H4:=H3.to e5;refine sV Z (cg Z Z) (sM Z Z (bG 4 (j:=20) (want:=false) (t:=27) Z Z Z Z (fun hg3 kk3=>au (wgE Z Z Z hg3) Z Z (ao aT Z ts2 Z Z) (au (wgE Z Z Z hg3) Z Z (aq tu2 Z Z (az (H4.box 0 Z) Z)) (bP (wgE Z Z Z hg3) Z Z (aG Try.func39 Z bQ Z) ba (fun w8 e8=>au (wgE Z Z Z hg3) Z Z (bF Z) (kk3 _ _ (kx Z (kx Z (kx Z (kx Z k0)))) Z (Ext.refl.trans e8)))))) (fun w7 e7=>?_)));have H5:=H4.to e7;refine sV Z (cg Z Z) (sM Z Z (bG 4 (j:=26) (want:=false) (t:=33) Z Z Z Z (fun hg4 kk4=>au (wgE Z Z Z hg4) Z Z (ao aT Z ts2 Z Z) (au (wgE Z Z Z hg4) Z Z (aq tu2 Z Z (az (H5.box 0 Z) Z)) (bP (wgE Z Z Z hg4) Z Z (aG Try.func39 Z bQ Z) ba (fun w10 e10=>au (wgE Z Z Z hg4) Z Z (bF Z) (kk4 _ _ (kx Z (kx Z (kx Z (kx Z k0)))) Z (Ext.refl.trans e10)))))) (fun w9 e9=>?_)));have H6:=H5.to e9;refine sV Z (cg Z Z) (sM Z Z (bG 4 (j:=32) (want:=false) (t:=39) Z Z Z Z (fun hg5 kk5=>au (wgE Z Z Z hg5) Z Z (ao aT Z ts2 Z Z) (au (wgE Z Z Z hg5) Z Z (aq tu2 Z Z (az (H6.box 0 Z) Z)) (bP (wgE Z Z Z hg5) Z Z (aG Try.func39 Z bQ Z) ba (fun w12 e12=>au (wgE Z Z Z hg5) Z Z (bF Z) (kk5 _ _ (kx Z (kx Z (kx Z (kx Z k0)))) Z (Ext.refl.trans e12)))))) (fun w11 e11=>?_)));have H7:=H6.to e11;refine sV Z (cg Z Z) (sM Z Z (bG 4 (j:=38) (want:=false) (t:=45) Z Z Z Z (fun hg6 kk6=>au (wgE Z Z Z hg6) Z Z (ao aT Z ts2 Z Z) (au (wgE Z Z Z hg6) Z Z (aq tu2 Z Z (az (H7.box 0 Z) Z)) (bP (wgE Z Z Z hg6) Z Z (aG Try.func39 Z bQ Z) ba (fun w14 e14=>au (wgE Z Z Z hg6) Z Z (bF Z) (kk6 _ _ (kx Z (kx Z (kx Z (kx Z k0)))) Z (Ext.refl.trans e14)))))) (fun w13 e13=>?_)));have H8:=H7.to e13;refine sV Z (cg Z Z) (aa (cB Z (fun c1=>?_) (fun c1=>?_)))
 ·refine ab (rA hQ Try.results19 Z ?_);exact ⟨H8.ext,Shape.no (by simpa only [Shape.ok,Bool.not_and] using c1)⟩
 ·refine aw (ab (rA hQ Try.results19 Z ?_));exact ⟨H8.ext,Shape.yes (by simpa only [Shape.ok,Bool.not_and] using c1)⟩
theorem fT {w:World}{s:Shape}  : Ret Try.prog 28 #[s.v] w fun v w'=>Ext No w w'∧(v = .int .i64 s.fault):=by
 refine aO Try.func28 Z Try.ntmps28 Z (fun Q hQ hN=>?_);have H0:=Sep.start (w:=w) (F:=[]) σ;refine ab (bx ae Z Z H0 (fun b1 w1 e1 g1 H1=>sA Z Z (aa (ab (sF aT Z ts2 (sLd tu2 (H1.box 0 Z) Z (sE Try.func37 bR Z aR H1 (fun w2 e2 H2=>sM Z Z (bG 3 (j:=3) (want:=true) (t:=10) Z Z Z Z (fun hg1 kk1=>au (wgE Z Z Z hg1) Z Z (ao aT Z ts2 Z Z) (au (wgE Z Z Z hg1) Z Z (aq tu2 Z Z (az (H2.box 0 Z) Z)) (bP (wgE Z Z Z hg1) Z Z (aG Try.func37 Z bR Z) aR (fun w4 e4=>kk1 _ _ (kx Z (kx Z (kx Z k0))) Z (Ext.refl.trans e4))))) (fun w3 e3=>?_))))))))));have H3:=H2.to e3;refine sV Z (b0 Z Z) (sM Z Z (bG 3 (j:=8) (want:=true) (t:=15) Z Z Z Z (fun hg2 kk2=>au (wgE Z Z Z hg2) Z Z (ao aT Z ts2 Z Z) (au (wgE Z Z Z hg2) Z Z (aq tu2 Z Z (az (H3.box 0 Z) Z)) (bP (wgE Z Z Z hg2) Z Z (aG Try.func37 Z bR Z) aR (fun w6 e6=>kk2 _ _ (kx Z (kx Z (kx Z k0))) Z (Ext.refl.trans e6))))) (fun w5 e5=>?_)));have H4:=H3.to e5;refine sV Z (b0 Z Z) (sM Z Z (bG 3 (j:=13) (want:=true) (t:=20) Z Z Z Z (fun hg3 kk3=>au (wgE Z Z Z hg3) Z Z (ao aT Z ts2 Z Z) (au (wgE Z Z Z hg3) Z Z (aq tu2 Z Z (az (H4.box 0 Z) Z)) (bP (wgE Z Z Z hg3) Z Z (aG Try.func37 Z bR Z) aR (fun w8 e8=>kk3 _ _ (kx Z (kx Z (kx Z k0))) Z (Ext.refl.trans e8))))) (fun w7 e7=>?_)));have H5:=H4.to e7;refine sV Z (b0 Z Z) (sA Z Z (aa (ab (sR 2 Z (bG 3 (j:=1) (want:=true) (t:=26) Z Z Z Z (fun hg4 kk4=>au (wgE Z Z Z hg4) Z Z (ao aT Z ts2 Z Z) (au (wgE Z Z Z hg4) Z Z (aq tu2 Z Z (az (H5.box 0 Z) Z)) (bP (wgE Z Z Z hg4) Z Z (aG Try.func37 Z bR Z) aR (fun w10 e10=>kk4 _ _ (kx Z (kx Z (kx Z k0))) Z (Ext.refl.trans e10))))) (fun w9 e9=>?_))))));have H6:=H5.to e9;refine sV Z (b0 Z Z) (sM Z Z (bG 3 (j:=6) (want:=true) (t:=31) Z Z Z Z (fun hg5 kk5=>au (wgE Z Z Z hg5) Z Z (ao aT Z ts2 Z Z) (au (wgE Z Z Z hg5) Z Z (aq tu2 Z Z (az (H6.box 0 Z) Z)) (bP (wgE Z Z Z hg5) Z Z (aG Try.func37 Z bR Z) aR (fun w12 e12=>kk5 _ _ (kx Z (kx Z (kx Z k0))) Z (Ext.refl.trans e12))))) (fun w11 e11=>?_)));have H7:=H6.to e11;refine sV Z (b0 Z Z) (sM Z Z (bG 3 (j:=11) (want:=true) (t:=36) Z Z Z Z (fun hg6 kk6=>au (wgE Z Z Z hg6) Z Z (ao aT Z ts2 Z Z) (au (wgE Z Z Z hg6) Z Z (aq tu2 Z Z (az (H7.box 0 Z) Z)) (bP (wgE Z Z Z hg6) Z Z (aG Try.func37 Z bR Z) aR (fun w14 e14=>kk6 _ _ (kx Z (kx Z (kx Z k0))) Z (Ext.refl.trans e14))))) (fun w13 e13=>?_)));have H8:=H7.to e13;refine sV Z (b0 Z Z) (sM Z Z (bG 3 (j:=16) (want:=true) (t:=41) Z Z Z Z (fun hg7 kk7=>au (wgE Z Z Z hg7) Z Z (ao aT Z ts2 Z Z) (au (wgE Z Z Z hg7) Z Z (aq tu2 Z Z (az (H8.box 0 Z) Z)) (bP (wgE Z Z Z hg7) Z Z (aG Try.func37 Z bR Z) aR (fun w16 e16=>kk7 _ _ (kx Z (kx Z (kx Z k0))) Z (Ext.refl.trans e16))))) (fun w15 e15=>?_)));have H9:=H8.to e15;refine sV Z (b0 Z Z) (sA Z Z (aa (ah (ab (sM Z Z (sV Z (bF Z) (sM Z Z (bG 4 (j:=2) (want:=false) (t:=49) Z Z Z Z (fun hg8 kk8=>au (wgE Z Z Z hg8) Z Z (ao aT Z ts2 Z Z) (au (wgE Z Z Z hg8) Z Z (aq tu2 Z Z (az (H9.box 0 Z) Z)) (bP (wgE Z Z Z hg8) Z Z (aG Try.func37 Z bR Z) aR (fun w18 e18=>au (wgE Z Z Z hg8) Z Z (bF Z) (kk8 _ _ (kx Z (kx Z (kx Z (kx Z k0)))) Z (Ext.refl.trans e18)))))) (fun w17 e17=>?_)))))))));have H10:=H9.to e17;refine sV Z (cg Z Z) (aa (cB Z (fun c1=>?_) (fun c1=>?_)))
 ·refine ab (rA hQ Try.results28 Z ?_);exact ⟨H10.ext,Shape.no (by simpa only [Shape.ok,cOK,rOK,Bool.not_and,Bool.or_assoc] using c1)⟩
 ·refine aw (ab (rA hQ Try.results28 Z ?_));exact ⟨H10.ext,Shape.yes (by simpa only [Shape.ok,cOK,rOK,Bool.not_and,Bool.or_assoc] using c1)⟩
end Go.Wk
namespace Go.Wk
open Go.Proofs Rp Go.Proofs.Try
set_option maxRecDepth 10000
theorem gl {w:World}{b:ByteArray}(hb:b.size≤maxLen):Ret Try.prog 83 #[.string b] w fun v w'=>Ext No w w'∧(v = .int .i64 (bV b)):=by
 unfold maxLen at hb;refine aO Try.func83 Z Try.ntmps83 Z (fun Q hQ hN=>?_);have H0:=Sep.start (w:=w) (F:=[]) σ;refine ab (sA Z Z (aa (ah (ab (sM Z Z (sV Z (eY tu9 Z) (sR 2 Z (bG 3 (j:=3) (want:=false) (t:=10) Z Z Z Z (fun hg1 kk1=>au (wgE Z Z Z hg1) Z Z (aW Z) (au (wgE Z Z Z hg1) Z Z (eY tu9 Z) (au (wgE Z Z Z hg1) Z Z (dg Z Z) (kk1 _ _ (kx Z (kx Z (kx Z k0))) Z Ext.refl)))) (fun w1 e1=>?_)))))))));have H1:=H0.to e1;refine sV Z (cg Z Z) (sM Z Z (bG 3 (j:=8) (want:=false) (t:=15) Z Z Z Z (fun hg2 kk2=>au (wgE Z Z Z hg2) Z Z (aW Z) (au (wgE Z Z Z hg2) Z Z (cI tu9 Z Z 0 ω (by first | omega | (simp only [Bool.or_eq_false_iff,Bool.and_eq_true,Bool.and_eq_false_iff,Bool.or_eq_true,Bool.not_eq_true',Bool.not_eq_false',decide_eq_true_eq,decide_eq_false_iff_not] at hg2; omega))) (au (wgE Z Z Z hg2) Z Z (bk Z Z) (kk2 _ _ (kx Z (kx Z (kx Z k0))) Z Ext.refl)))) (fun w2 e2=>?_)));have H2:=H1.to e2;refine sV Z (cg Z Z) (sM Z Z (bG 3 (j:=13) (want:=false) (t:=20) Z Z Z Z (fun hg3 kk3=>au (wgE Z Z Z hg3) Z Z (aW Z) (au (wgE Z Z Z hg3) Z Z (cI tu9 Z Z 0 ω (by first | omega | (simp only [Bool.or_eq_false_iff,Bool.and_eq_true,Bool.and_eq_false_iff,Bool.or_eq_true,Bool.not_eq_true',Bool.not_eq_false',decide_eq_true_eq,decide_eq_false_iff_not] at hg3; omega))) (au (wgE Z Z Z hg3) Z Z (dg Z Z) (kk3 _ _ (kx Z (kx Z (kx Z k0))) Z Ext.refl)))) (fun w3 e3=>?_)));have H3:=H2.to e3;refine sV Z (cg Z Z) (aa (cB Z (fun c1=>?_) (fun c1=>?_)))
 ·refine ab (sA Z Z (aa (rT hQ Try.results83 Z (⟨H3.ext,ik ?_⟩))))
  by_cases hs:1≤b.size∧b.size≤8
  ·refine f7 0 ω ?_;simp only [lm,Bool.or_eq_true,Bool.or_eq_false_iff,Bool.and_eq_true,Bool.and_eq_false_iff,decide_eq_true_eq,decide_eq_false_iff_not] at c1 ⊢;simp
   omega
  ·simp [eu]; omega
 ·refine aw (ah (ab (sA Z Z (aa (aB ?_)))));simp only [Bool.or_eq_true,Bool.or_eq_false_iff,Bool.and_eq_true,Bool.and_eq_false_iff,decide_eq_true_eq,decide_eq_false_iff_not] at c1;refine cR (γ:=Nat) (fun k=>[(0,.string b),(3,.int .i64 k)]) (fun k w'=>Sep No w [] [] w'∧k≤b.size∧kV b k=true) (fun k=>b.size-k) 0 ⟨Z,Z,trivial⟩ ⟨H3,ω,Z⟩ (fun k w4 H4=>?_);obtain ⟨H4,hk,hok⟩:=H4;refine ah (ab (sR 2 Z (sV Z (eY tu9 Z) (sV Z (bk Z Z) (aa (aE Z (fun c2=>?_) (fun c2=>?_)))))))
  ·refine aw (ah (aB (ab (sR 2 Z (sV Z (cI tu9 Z Z k ω ω) (sR 2 Z (bG 4 (j:=4) (want:=false) (t:=36) Z Z Z Z (fun hg4 kk4=>au (wgE Z Z Z hg4) Z Z (aW Z) (au (wgE Z Z Z hg4) Z Z (aW Z) (au (wgE Z Z Z hg4) Z Z (cI tu9 Z Z k ω (by first | omega | (simp only [Bool.or_eq_false_iff,Bool.and_eq_true,Bool.and_eq_false_iff,Bool.or_eq_true,Bool.not_eq_true',Bool.not_eq_false',decide_eq_true_eq,decide_eq_false_iff_not] at hg4; omega))) (au (wgE Z Z Z hg4) Z Z (dg Z Z) (kk4 _ _ (kx Z (kx Z (kx Z (kx Z k0)))) Z Ext.refl))))) (fun w5 e4=>?_))))))));have H5:=H4.to e4;refine sV Z (cg Z Z) (sM Z Z (bG 10 (j:=10) (want:=true) (t:=48) Z Z Z Z (fun hg5 kk5=>au (wgE Z Z Z hg5) Z Z (aW Z) (au (wgE Z Z Z hg5) Z Z (aW Z) (au (wgE Z Z Z hg5) Z Z (cI tu9 Z Z k ω (by first | omega | (simp only [Bool.or_eq_false_iff,Bool.and_eq_true,Bool.and_eq_false_iff,Bool.or_eq_true,Bool.not_eq_true',Bool.not_eq_false',decide_eq_true_eq,decide_eq_false_iff_not] at hg5; omega))) (au (wgE Z Z Z hg5) Z Z (bk Z Z) (au (wgE Z Z Z hg5) Z Z (aW Z) (bG 4 (j:=15) (want:=false) (t:=47) Z Z Z Z (fun hg6 kk6=>au (wgE Z Z Z hg6) Z Z (aW Z) (au (wgE Z Z Z hg6) Z Z (aW Z) (au (wgE Z Z Z hg6) Z Z (cI tu9 Z Z k ω (by first | omega | (simp only [Bool.or_eq_false_iff,Bool.and_eq_true,Bool.and_eq_false_iff,Bool.or_eq_true,Bool.not_eq_true',Bool.not_eq_false',decide_eq_true_eq,decide_eq_false_iff_not] at hg5 hg6; omega))) (au (wgE Z Z Z hg6) Z Z (dg Z Z) (kk6 _ _ (kx Z (kx Z (kx Z (kx Z k0)))) Z Ext.refl))))) (fun w7 e6=>au (wgE Z Z Z hg5) Z Z (cg Z Z) (kk5 _ _ (kx Z (kx Z (kx Z (kx Z (kx Z (kx Z (kx Z k0))))))) Z (Ext.refl.trans e6))))))))) (fun w6 e5=>?_)));have H7:=H5.to e5;refine sV Z (b0 Z Z) (aa (cB Z (fun c3=>?_) (fun c3=>?_)))
   ·refine ab (sA Z Z (aa (rT hQ Try.results83 Z (⟨H7.ext,ik (f7 k ω ?_)⟩))));simp only [lm,Bool.or_eq_true,Bool.or_eq_false_iff,Bool.and_eq_true,Bool.and_eq_false_iff,decide_eq_true_eq,decide_eq_false_iff_not] at c3 ⊢
    omega
   ·refine aw (ay (sM Z Z (sV Z (aY Z Z iO) (sA Z Z (aa (⟨k+1,⟨Z,Z,trivial⟩,⟨H7,ω,?_⟩,θ⟩))))));rw [kV,hok,Bool.true_and];simp only [lm,Bool.or_eq_true,Bool.or_eq_false_iff,Bool.and_eq_true,Bool.and_eq_false_iff,decide_eq_true_eq,decide_eq_false_iff_not] at c3 ⊢;simp only [Bool.not_eq_true',decide_eq_false_iff_not]
    by_cases h0:k=0
    ·subst h0; omega
    ·omega
  ·refine bn (ab (sA Z Z (aa (rT hQ Try.results83 Z (⟨H4.ext,kE ?_⟩)))));obtain rfl:k=b.size:=by omega
   simp only [eu,hok,Bool.and_true,Bool.or_eq_true,Bool.or_eq_false_iff,Bool.and_eq_true,Bool.and_eq_false_iff,decide_eq_true_eq,decide_eq_false_iff_not]
   omega
theorem ga {w:World}{b:ByteArray}(hb:b.size≤maxLen):Ret Try.prog 79 #[.string b] w fun v w'=>Ext No w w'∧(v = .int .i64 (bV b)):=by
 unfold maxLen at hb;refine aO Try.func79 Z Try.ntmps79 Z (fun Q hQ hN=>?_);have H0:=Sep.start (w:=w) (F:=[]) σ;refine ab (sA Z Z (aa (ah (ab (sM Z Z (sV Z (eY tu9 Z) (sM Z Z (aa (aB (cR (γ:=Nat) (fun k=>[(0,.string b),(6,.int .i64 b.size),(7,.int .i64 k)]) (fun k w'=>Sep No w [] [] w'∧k≤b.size∧kV b k=true) (fun k=>b.size-k) 0 ⟨Z,Z,Z,trivial⟩ ⟨H0,ω,Z⟩ (fun k w1 H1=>?_)))))))))));obtain ⟨H1,hk,hok⟩:=H1;refine ab (sV Z (bk Z Z) (aa (ah (aE Z (fun c1=>?_) (fun c1=>?_)))))
 ·refine aw (ah (aB (ab (sR 2 Z (aa (ab (sR 2 Z (sV Z (cI tu9 Z Z k ω ω) (sR 2 Z (bG 4 (j:=4) (want:=true) (t:=18) Z Z Z Z (fun hg1 kk1=>au (wgE Z Z Z hg1) Z Z (aW Z) (au (wgE Z Z Z hg1) Z Z (aW Z) (au (wgE Z Z Z hg1) Z Z (cI tu9 Z Z k ω (by first | omega | (simp only [Bool.or_eq_false_iff,Bool.and_eq_true,Bool.and_eq_false_iff,Bool.or_eq_true,Bool.not_eq_true',Bool.not_eq_false',decide_eq_true_eq,decide_eq_false_iff_not] at hg1; omega))) (au (wgE Z Z Z hg1) Z Z (jT Z Z) (kk1 _ _ (kx Z (kx Z (kx Z (kx Z k0)))) Z Ext.refl))))) (fun w2 e1=>?_)))))))))));have H2:=H1.to e1;refine sV Z (b0 Z Z) (sA Z Z (aa (ab (sM Z Z (sV Z (bF Z) (sM Z Z (bG 14 (j:=2) (want:=true) (t:=36) Z Z Z Z (fun hg2 kk2=>au (wgE Z Z Z hg2) Z Z (aW Z) (au (wgE Z Z Z hg2) Z Z (cV Z Z) (au (wgE Z Z Z hg2) Z Z (aW Z) (bG 4 (j:=5) (want:=false) (t:=29) Z Z Z Z (fun hg3 kk3=>au (wgE Z Z Z hg3) Z Z (aW Z) (au (wgE Z Z Z hg3) Z Z (aW Z) (au (wgE Z Z Z hg3) Z Z (cI tu9 Z Z k ω (by first | omega | (simp only [Bool.or_eq_false_iff,Bool.and_eq_true,Bool.and_eq_false_iff,Bool.or_eq_true,Bool.not_eq_true',Bool.not_eq_false',decide_eq_true_eq,decide_eq_false_iff_not] at hg2 hg3; omega))) (au (wgE Z Z Z hg3) Z Z (bk Z Z) (kk3 _ _ (kx Z (kx Z (kx Z (kx Z k0)))) Z Ext.refl))))) (fun w4 e3=>au (wgE Z Z Z hg2) Z Z (cg Z Z) (au (wgE Z Z Z hg2) Z Z (aW Z) (bG 4 (j:=11) (want:=false) (t:=35) Z Z Z Z (fun hg4 kk4=>au (wgE Z Z Z hg4) Z Z (aW Z) (au (wgE Z Z Z hg4) Z Z (aW Z) (au (wgE Z Z Z hg4) Z Z (cI tu9 Z Z k ω (by first | omega | (simp only [Bool.or_eq_false_iff,Bool.and_eq_true,Bool.and_eq_false_iff,Bool.or_eq_true,Bool.not_eq_true',Bool.not_eq_false',decide_eq_true_eq,decide_eq_false_iff_not] at hg2 hg4; omega))) (au (wgE Z Z Z hg4) Z Z (dg Z Z) (kk4 _ _ (kx Z (kx Z (kx Z (kx Z k0)))) Z Ext.refl))))) (fun w5 e4=>au (wgE Z Z Z hg2) Z Z (cg Z Z) (kk2 _ _ (kx Z (kx Z (kx Z (kx Z (kx Z (kx Z (kx Z (kx Z k0)))))))) Z ((Ext.refl.trans e3).trans e4)))))))))) (fun w3 e2=>?_))))))));have H5:=H2.to e2;refine sV Z (b0 Z Z) (aa (cB Z (fun c2=>?_) (fun c2=>?_)))
  ·refine ab (sA Z Z (aa (rT hQ Try.results79 Z (⟨H5.ext,ik (f7 k ω ?_)⟩))));simp only [lm,Bool.or_eq_true,Bool.or_eq_false_iff,Bool.and_eq_true,Bool.and_eq_false_iff,decide_eq_true_eq,decide_eq_false_iff_not,Bool.not_eq_true',Bool.not_eq_false'] at c2 ⊢
   omega
  ·refine aw (ay (sV Z (aY Z Z iO) (sM Z Z (aa (⟨k+1,⟨Z,Z,Z,trivial⟩,⟨H5,ω,?_⟩,θ⟩)))));rw [kV,hok,Bool.true_and];simp only [lm,Bool.or_eq_true,Bool.or_eq_false_iff,Bool.and_eq_true,Bool.and_eq_false_iff,decide_eq_true_eq,decide_eq_false_iff_not,Bool.not_eq_true',Bool.not_eq_false'] at c2 ⊢
   omega
 ·refine bn (ah (ab (sM Z Z (sV Z (eY tu9 Z) (sE Try.func37 bR Z aR H1 (fun w6 e5 H6=>sV Z (bF Z) (aa (cB Z (fun c3=>?_) (fun c3=>?_)))))))))
  ·refine ab (sA Z Z (aa (rT hQ Try.results79 Z (⟨H6.ext,ik ?_⟩))));have c4:=not_true c3;rw [ov] at c4;simp [eu]
   omega
  ·refine aw (ab (sA Z Z (aa (rT hQ Try.results79 Z (⟨H6.ext,kE ?_⟩)))));have c4:=not_false c3;rw [dN] at c4;obtain rfl:k=b.size:=by omega
   simp only [eu,hok,Bool.and_true,Bool.or_eq_true,Bool.or_eq_false_iff,Bool.and_eq_true,Bool.and_eq_false_iff,decide_eq_true_eq,decide_eq_false_iff_not]
   omega
theorem dX {w:World}{s:Shape}{b:ByteArray}(hb:b.size≤1000) (hg:s.Groups≠0):Ret Try.prog 51 #[s.v,.string b] w fun v w'=>Ext No w w'∧(v = .int .i64 (d7 s b)):=by
 refine aO Try.func51 Z Try.ntmps51 Z (fun Q hQ hN=>?_);have H0:=Sep.start (w:=w) (F:=[]) σ;refine ab (bx ae Z Z H0 (fun b1 w1 e1 g1 H1=>sA Z Z (aa (ab (sA Z Z (aa (ah (ab (sA Z Z (aa (aB ?_)))))))))));have sb:=eU (b:=b) 0;refine cR (γ:=Nat) (fun k=>[(1,.string b),(2,.pointer (some ⟨b1,0,none⟩)),(5,.int .i64 (fU b k)),(6,.int .i64 k)]) (fun k w'=>Sep No w [box b1 (.cells (Shape.v s).cells 25)] [] w'∧k≤b.size) (fun k=>b.size-k) 0 ⟨Z,Z,Z,Z,trivial⟩ ⟨H1,ω⟩ (fun k w2 H2=>?_);obtain ⟨H2,hk⟩:=H2;refine ah (ab (sR 2 Z (sV Z (eY tu9 Z) (sV Z (bk Z Z) (aa (aE Z (fun c1=>?_) (fun c1=>?_)))))))
 ·refine aw (ah (aB ?_));have sb:=eU (b:=b) k;have gb:=(gB b k).toNat_lt;refine ay (sR 3 Z (sV Z (cI tu9 Z Z k ω ω) (sV Z (io tu5 tu2 Z iO) (sV Z (aY Z Z iO) (sA Z Z (aa (ay (sM Z Z (sV Z (aY Z Z iO) (sA Z Z (aa (⟨k+1,⟨Z,Z,Z,Z,trivial⟩,⟨H2,ω⟩,θ⟩))))))))))))
 ·refine bn (ah ?_);obtain rfl:k=b.size:=by omega
  refine ay (sM Z Z (sF aT Z ts2 (sLd tu2 (H2.box 0 Z) Z (sV Z (f8 Z Z ω) (rA hQ Try.results51 Z ?_)))));exact ⟨H2.ext,Z⟩
theorem fL {w:World}{s:Shape}{b:ByteArray}(hb:b.size≤1000) (hg:s.Groups≠0):Ret Try.prog 80 #[s.v,.string b] w fun v w'=>Ext No w w'∧(v = .int .i64 (d7 s b)):=by
 refine aO Try.func80 Z Try.ntmps80 Z (fun Q hQ hN=>?_);have H0:=Sep.start (w:=w) (F:=[]) σ;refine ab (bx ae Z Z H0 (fun b1 w1 e1 g1 H1=>sA Z Z (aa (ab (sA Z Z (aa (ah (ab (sM Z Z (sV Z (eY tu9 Z) (sM Z Z (aa (aB (cR (γ:=Nat) (fun k=>[(1,.string b),(2,.pointer (some ⟨b1,0,none⟩)),(5,.int .i64 (fU b k)),(8,.int .i64 b.size),(9,.int .i64 k)]) (fun k w'=>Sep No w [box b1 (.cells (Shape.v s).cells 25)] [] w'∧k≤b.size) (fun k=>b.size-k) 0 ⟨Z,Z,Z,Z,Z,trivial⟩ ⟨H1,ω⟩ (fun k w2 H2=>?_)))))))))))))));obtain ⟨H2,hk⟩:=H2;refine ab (sV Z (bk Z Z) (aa (ah (aE Z (fun c1=>?_) (fun c1=>?_)))))
 ·refine aw (ah (aB (ab (sR 2 Z (aa ?_)))));have sb:=eU (b:=b) k;have gb:=(gB b k).toNat_lt;refine ay (sR 3 Z (sV Z (cI tu9 Z Z k ω ω) (sV Z (io tu5 tu2 Z iO) (sV Z (aY Z Z iO) (sA Z Z (aa (ay (sV Z (aY Z Z iO) (sM Z Z (aa (⟨k+1,⟨Z,Z,Z,Z,Z,trivial⟩,⟨H2,ω⟩,θ⟩)))))))))))
 ·refine bn (ah ?_);obtain rfl:k=b.size:=by omega
  refine ay (sM Z Z (sF aT Z ts2 (sLd tu2 (H2.box 0 Z) Z (sV Z (f8 Z Z ω) (rA hQ Try.results80 Z ?_)))));exact ⟨H2.ext,Z⟩
theorem cu {w:World}{s:Shape}(hs:s.ok=true):Ret Try.prog 52 #[s.v] w fun v w'=>Ext No w w'∧(v = .int .i64 (s.Groups+s.Column)):=by
 have sbd:=bY hs;refine aO Try.func52 Z Try.ntmps52 Z (fun Q hQ hN=>?_);have H0:=Sep.start (w:=w) (F:=[]) σ;refine ab (bx ae Z Z H0 (fun b1 w1 e1 g1 H1=>sA Z Z (aa (ab (sF aT Z ts2 (sLd tu2 (H1.box 0 Z) Z (sF aT Z ts2 (sLd tu2 (H1.box 0 Z) Z (sV Z (aY Z Z iO) (rA hQ Try.results52 Z ?_))))))))));exact ⟨H1.ext,Z⟩
theorem ew {w:World}{s:Shape}(hs:s.ok=true):Ret Try.prog 62 #[s.v] w fun v w'=>Ext No w w'∧(v = .int .i64 (s.Groups+s.Column)):=by
 have sbd:=bY hs;refine aO Try.func62 Z Try.ntmps62 Z (fun Q hQ hN=>?_);have H0:=Sep.start (w:=w) (F:=[]) σ;refine ab (bx ae Z Z H0 (fun b1 w1 e1 g1 H1=>sA Z Z (aa (ab (sF aT Z ts2 (sLd tu2 (H1.box 0 Z) Z (sF aT Z ts2 (sLd tu2 (H1.box 0 Z) Z (sV Z (aY Z Z iO) (rA hQ Try.results62 Z ?_))))))))));exact ⟨H1.ext,Z⟩
theorem eX {w:World}{s:Shape}{x:Int}(hs:s.ok=true):Ret Try.prog 78 #[s.v,.int .i64 x] w fun v w'=>Ext No w w'∧(v = .bool (ins x 0 (s.Groups+s.Column-1))):=by
 have sbd:=bY hs;refine aO Try.func78 Z Try.ntmps78 Z (fun Q hQ hN=>?_);have H0:=Sep.start (w:=w) (F:=[]) σ;refine ab (bx ae Z Z H0 (fun b1 w1 e1 g1 H1=>sA Z Z (aa (ab (sM Z Z (sV Z (ai aT Z bc Z Z (At.whole (H1.box 0 Z))) (sE Try.func62 kc Z (ew η) H1 (fun w2 e2 H2=>sV Z (cL Z Z iO) (sE Try.func37 bR Z aR H2 (fun w3 e3 H3=>rA hQ Try.results78 Z ?_))))))))));exact ⟨H3.ext,Z⟩
theorem dP {w:World}{s:Shape}{t:Ticket}(hb:t.Name.size≤maxLen):Ret Try.prog 60 #[s.v,t.v] w fun v w'=>Ext No w w'∧(v = .int .i64 (TicketFault s t)):=by
 refine aO Try.func60 Z Try.ntmps60 Z (fun Q hQ hN=>?_);have H0:=Sep.start (w:=w) (F:=[]) σ;refine ab (bx ae Z Z H0 (fun b1 w1 e1 g1 H1=>bx ae Z Z H1 (fun b2 w2 e2 g2 H2=>sA Z Z (aa (ah (ab (sV Z (ai aT Z bc Z Z (At.whole (H2.box 0 Z))) (sE Try.func19 iy Z cW H2 (fun w3 e3 H3=>sA Z Z (aa (ab (sR 2 Z (aa (aE Z (fun c1=>?_) (fun c1=>?_)))))))))))))))
 ·refine ab (sR 2 Z (aa (rT hQ Try.results60 Z (⟨H3.ext,congrArg (Value.int .i64) ?_⟩))));unfold TicketFault;rw [if_pos c1]
 ·refine aw (ah (ah ?_));have hs:=cY (s:=s) ω;have sbd:=bY hs;refine ay (sF bf Z ts2 (sLd tu2 (H3.box 1 Z) Z (sE Try.func39 bQ Z ba H3 (fun w4 e4 H4=>sV Z (bF Z) (aa (cB Z (fun c2=>?_) (fun c2=>?_)))))))
  ·refine ab (sA Z Z (aa (rT hQ Try.results60 Z (⟨H4.ext,congrArg (Value.int .i64) ?_⟩))));unfold TicketFault aC;rw [if_neg c1,if_pos (not_true c2)]
  ·refine aw (ah (ab (sF bf Z ts2 (sLd tu2 (H4.box 1 Z) Z (aa (aB (ab (sR 2 Z (aa (aE Z (fun c3=>?_) (fun c3=>?_)))))))))))
   ·refine ah (ab (sF bf Z ts9 (sLd tu9 (H4.box 1 Z) Z (sE Try.func83 nz Z (gl η) H4 (fun w5 e5 H5=>sA Z Z (aa (ab (sR 2 Z (aa (aE Z (fun c4=>?_) (fun c4=>?_)))))))))))
    ·refine ab (sR 2 Z (aa (rT hQ Try.results60 Z (⟨H5.ext,congrArg (Value.int .i64) ?_⟩))));unfold TicketFault aC;rw [if_neg c1,if_neg (by rw [not_false c2]; simp),if_pos c3,if_pos c4]
    ·refine aw (ah ?_);have nb:=gE (b:=t.Name) ω;refine bN (S:=Ext No _) (oQ [1,3,5,7,9,10,12]) κ κ κ Z (fun _=>Ext.refl.drawn _) (fun q1=>?_);have H6:=H5.drawn q1;refine dV Z Z (fun zw hx=>ao bf Z ts2 Z Z) (dV Z Z (fun zw hx=>aq tu2 Z Z (az (hx.heap (H6.box 1 Z)) Z)) (dV Z Z (fun zw hx=>ai aT Z bc Z Z (At.whole (hx.heap (H6.box 0 Z)))) (dV Z Z (fun zw hx=>ao bf Z ts9 Z Z) (dV Z Z (fun zw hx=>aq tu9 Z Z (az (hx.heap (H6.box 1 Z)) Z)) (dC Try.func51 iN Z (dX ω ω) (fun v4 w6 r4=>?_))))));obtain ⟨e6,rfl⟩:=r4;have H7:=H6.to e6;refine cP Z ae Z Z (es Z Z) (bH (aE Z (fun c5=>?_) (fun c5=>?_)))
     ·refine ab (sA Z Z (aa (rT hQ Try.results60 Z (⟨H7.ext,congrArg (Value.int .i64) ?_⟩))));unfold TicketFault aC;rw [if_neg c1,if_neg (by rw [not_false c2]; simp),if_pos c3,if_neg c4,if_pos c5]
     ·refine aw (ab (sA Z Z (aa (rT hQ Try.results60 Z (⟨H7.ext,congrArg (Value.int .i64) ?_⟩)))));unfold TicketFault aC;rw [if_neg c1,if_neg (by rw [not_false c2]; simp),if_pos c3,if_neg c4,if_neg c5]
   ·refine ab (sR 2 Z (aa (aE Z (fun c6=>?_) (fun c6=>?_))))
    ·refine ah (ah (bN (S:=Ext No _) (oQ [1,3,5,6,9,10,12]) κ κ κ Z (fun _=>Ext.refl.drawn _) (fun q2=>?_)));have H8:=H4.drawn q2;refine dV Z Z (fun zw hx=>ao bf Z ts2 Z Z) (dV Z Z (fun zw hx=>aq tu2 Z Z (az (hx.heap (H8.box 1 Z)) Z)) (dV Z Z (fun zw hx=>ai aT Z bc Z Z (At.whole (hx.heap (H8.box 0 Z)))) (dC Try.func52 ez Z (cu η) (fun v5 w7 r5=>?_))));obtain ⟨e7,rfl⟩:=r5;have H9:=H8.to e7;refine dV Z Z (fun zw hx=>cL Z Z iO) (dC Try.func39 bQ Z ba (fun v6 w8 r6=>?_));obtain ⟨e8,rfl⟩:=r6;have H10:=H9.to e8;refine cP Z ae Z Z (bF Z) (bH (cB Z (fun c7=>?_) (fun c7=>?_)))
     ·refine ab (sA Z Z (aa (rT hQ Try.results60 Z (⟨H10.ext,congrArg (Value.int .i64) ?_⟩))));unfold TicketFault aC;rw [if_neg c1,if_neg (by rw [not_false c2]; simp),if_neg c3,if_pos c6,if_pos (not_true c7)]
     ·refine aw (ab (sF bf Z ts9 (sLd tu9 (H10.box 1 Z) Z (sV Z (l6 Z Z) (aa (cB Z (fun c8=>?_) (fun c8=>?_)))))))
      ·refine ab (sA Z Z (aa (rT hQ Try.results60 Z (⟨H10.ext,congrArg (Value.int .i64) ?_⟩))));unfold TicketFault aC;rw [lZ] at c8;rw [if_neg c1,if_neg (by rw [not_false c2]; simp),if_neg c3,if_pos c6,if_neg (by rw [not_false c7]; simp),if_pos (fun e=>by simp [jn.2 e] at c8)]
      ·refine aw (ab (sA Z Z (aa (rT hQ Try.results60 Z (⟨H10.ext,congrArg (Value.int .i64) ?_⟩)))));unfold TicketFault aC;rw [lZ] at c8;rw [if_neg c1,if_neg (by rw [not_false c2]; simp),if_neg c3,if_pos c6,if_neg (by rw [not_false c7]; simp),if_neg (fun e=>e (jn.1 (by simpa using c8)))]
    ·refine ab (sA Z Z (aa (rT hQ Try.results60 Z (⟨H4.ext,congrArg (Value.int .i64) ?_⟩))));unfold TicketFault aC;rw [if_neg c1,if_neg (by rw [not_false c2]; simp),if_neg c3,if_neg c6]
theorem fF {w:World}{s:Shape}{t:Ticket}(hs:s.ok=true) (hb:t.Name.size≤maxLen):Ret Try.prog 56 #[s.v,t.v] w fun v w'=>Ext No w w'∧(v = .int .i64 (aC s t)):=by
 have sbd:=bY hs;refine aO Try.func56 Z Try.ntmps56 Z (fun Q hQ hN=>?_);have H0:=Sep.start (w:=w) (F:=[]) σ;refine ab (bx ae Z Z H0 (fun b1 w1 e1 g1 H1=>bx ae Z Z H1 (fun b2 w2 e2 g2 H2=>sA Z Z (aa (ah (aB (ab (sF bf Z ts2 (sLd tu2 (H2.box 1 Z) Z (sE Try.func37 bR Z aR H2 (fun w3 e3 H3=>sV Z (bF Z) (sA Z Z (aa (cB Z (fun c1=>?_) (fun c1=>?_)))))))))))))))
 ·refine ab (sA Z Z (aa (rT hQ Try.results56 Z (⟨H3.ext,congrArg (Value.int .i64) ?_⟩))));unfold aC
  clear hQ hN
  by_cases h1:t.Kind=1<;>by_cases h2:t.Kind=2<;>simp_all [toList_nil_iff_emptyBytes]
 ·refine ab (sF bf Z ts2 (sLd tu2 (H3.box 1 Z) Z (sR 2 Z (bG 3 (j:=3) (want:=true) (t:=18) Z Z Z Z (fun hg1 kk1=>au (wgE Z Z Z hg1) Z Z (ao bf Z ts2 Z Z) (au (wgE Z Z Z hg1) Z Z (aq tu2 Z Z (az (H3.box 1 Z) Z)) (au (wgE Z Z Z hg1) Z Z (es Z Z) (kk1 _ _ (kx Z (kx Z (kx Z k0))) Z Ext.refl)))) (fun w4 e4=>?_)))));have H4:=H3.to e4;refine sV Z (b0 Z Z) (sA Z Z (aa (cB Z (fun c2=>?_) (fun c2=>?_))))
  ·refine ab (sA Z Z (aa (rT hQ Try.results56 Z (⟨H4.ext,congrArg (Value.int .i64) ?_⟩))));unfold aC
   clear hQ hN
   by_cases h1:t.Kind=1<;>by_cases h2:t.Kind=2<;>simp_all [toList_nil_iff_emptyBytes]
  ·refine ab (sF bf Z ts2 (sLd tu2 (H4.box 1 Z) Z (sR 2 Z (bG 5 (j:=3) (want:=true) (t:=29) Z Z Z Z (fun hg2 kk2=>au (wgE Z Z Z hg2) Z Z (ai aT Z bc Z Z (At.whole (H4.box 0 Z))) (au (wgE Z Z Z hg2) Z Z (ao bf Z ts2 Z Z) (au (wgE Z Z Z hg2) Z Z (aq tu2 Z Z (az (H4.box 1 Z) Z)) (bP (wgE Z Z Z hg2) Z Z (aG Try.func78 Z ox Z) (eX η) (fun w6 e6=>au (wgE Z Z Z hg2) Z Z (bF Z) (kk2 _ _ (kx Z (kx Z (kx Z (kx Z (kx Z k0))))) Z (Ext.refl.trans e6))))))) (fun w5 e5=>?_)))));have H5:=H4.to e5;refine sV Z (b0 Z Z) (sA Z Z (aa (cB Z (fun c3=>?_) (fun c3=>?_))))
   ·refine ab (sA Z Z (aa (rT hQ Try.results56 Z (⟨H5.ext,congrArg (Value.int .i64) ?_⟩))));unfold aC
    clear hQ hN
    by_cases h1:t.Kind=1<;>by_cases h2:t.Kind=2<;>simp_all [toList_nil_iff_emptyBytes]
   ·refine ab (sF bf Z ts2 (sLd tu2 (H5.box 1 Z) Z (sR 2 Z (bG 3 (j:=3) (want:=true) (t:=38) Z Z Z Z (fun hg3 kk3=>au (wgE Z Z Z hg3) Z Z (ao bf Z ts9 Z Z) (au (wgE Z Z Z hg3) Z Z (aq tu9 Z Z (az (H5.box 1 Z) Z)) (au (wgE Z Z Z hg3) Z Z (l6 Z Z) (kk3 _ _ (kx Z (kx Z (kx Z k0))) Z Ext.refl)))) (fun w7 e7=>?_)))));have H6:=H5.to e7;refine sV Z (b0 Z Z) (sA Z Z (aa (cB Z (fun c4=>?_) (fun c4=>?_))))
    ·refine ab (sA Z Z (aa (rT hQ Try.results56 Z (⟨H6.ext,congrArg (Value.int .i64) ?_⟩))));unfold aC
     clear hQ hN
     by_cases h1:t.Kind=1<;>by_cases h2:t.Kind=2<;>simp_all [toList_nil_iff_emptyBytes]
    ·refine ab (sF bf Z ts2 (sLd tu2 (H6.box 1 Z) Z (sR 2 Z (aa (aE Z (fun c5=>?_) (fun c5=>?_))))))
     ·refine ab (sA Z Z (aa (rT hQ Try.results56 Z (⟨H6.ext,congrArg (Value.int .i64) ?_⟩))));unfold aC
      clear hQ hN
      by_cases h1:t.Kind=1<;>by_cases h2:t.Kind=2<;>simp_all [toList_nil_iff_emptyBytes]
     ·refine aw (ah (ab (sF bf Z ts9 (sLd tu9 (H6.box 1 Z) Z (sE Try.func79 m9 Z (ga η) H6 (fun w8 e8 H7=>sA Z Z (aa (ab (sR 2 Z (aa (aE Z (fun c6=>?_) (fun c6=>?_))))))))))))
      ·refine ab (sR 2 Z (aa (rT hQ Try.results56 Z (⟨H7.ext,congrArg (Value.int .i64) ?_⟩))));unfold aC
       clear hQ hN
       by_cases h1:t.Kind=1<;>by_cases h2:t.Kind=2<;>simp_all [toList_nil_iff_emptyBytes]
      ·refine aw (ah (ah ?_));have nb:=gE (b:=t.Name) ω;refine bN (S:=Ext No _) (oQ [1,3,5,7,9,10,12]) κ κ κ Z (fun _=>Ext.refl.drawn _) (fun q1=>?_);have H8:=H7.drawn q1;refine dV Z Z (fun zw hx=>ao bf Z ts2 Z Z) (dV Z Z (fun zw hx=>aq tu2 Z Z (az (hx.heap (H8.box 1 Z)) Z)) (dV Z Z (fun zw hx=>ai aT Z bc Z Z (At.whole (hx.heap (H8.box 0 Z)))) (dV Z Z (fun zw hx=>ao bf Z ts9 Z Z) (dV Z Z (fun zw hx=>aq tu9 Z Z (az (hx.heap (H8.box 1 Z)) Z)) (dC Try.func80 oF Z (fL ω ω) (fun v3 w9 r3=>?_))))));obtain ⟨e9,rfl⟩:=r3;have H9:=H8.to e9;refine cP Z ae Z Z (es Z Z) (bH (aE Z (fun c7=>?_) (fun c7=>?_)))
       ·refine ab (sA Z Z (aa (rT hQ Try.results56 Z (⟨H9.ext,congrArg (Value.int .i64) ?_⟩))));unfold aC
        clear hQ hN
        by_cases h1:t.Kind=1<;>by_cases h2:t.Kind=2<;>simp_all [toList_nil_iff_emptyBytes]
       ·refine aw (ab (sA Z Z (aa (rT hQ Try.results56 Z (⟨H9.ext,congrArg (Value.int .i64) ?_⟩)))));unfold aC
        clear hQ hN
        by_cases h1:t.Kind=1<;>by_cases h2:t.Kind=2<;>simp_all [toList_nil_iff_emptyBytes]
end Go.Wk
namespace Go.Wk
open Go.Proofs Rp Go.Proofs.Try
set_option maxRecDepth 10000
theorem d8 {w:World}{xs:List Int}{xsA:Option Addr}{xsC:Nat}{x:Int}(xsS:Sees w [.slice xsA xs.length xsC] xs):Ret Try.prog 90 #[.slice xsA xs.length xsC,.int .i64 x] w fun v w'=>Ext No w w'∧(v = .int .i64 (idxOf xs x)):=by
 have xsL:=sL xsS;obtain ⟨xsF,xsO⟩:=xsS;refine aO Try.func90 Z Try.ntmps90 Z (fun Q hQ hN=>?_);have H0:=Sep.start (ak xsO aL);refine ab (sA Z Z (aa (ah (ab (sM Z Z (sV Z (aN aM Z) (sM Z Z (aa (aB (cR (γ:=Nat) (fun k=>[(0,.slice xsA xs.length xsC),(1,.int .i64 x),(7,.int .i64 xs.length),(8,.int .i64 k)]) (fun k w'=>Sep No w [] [seen false [.slice xsA xs.length xsC] xs xsF] w'∧k≤xs.length∧(∀ i,i<k→xs.getD i 0≠x)) (fun k=>xs.length-k) 0 ⟨Z,Z,Z,Z,trivial⟩ ⟨H0,ω,fun i hi=>by omega⟩ (fun k w1 H1=>?_)))))))))));obtain ⟨H1,hk,he⟩:=H1;refine ab (sV Z (bk Z Z) (aa (ah (aE Z (fun c1=>?_) (fun c1=>?_)))))
 ·refine aw (ah (aB (ab (sR 2 Z (aa (ah ?_))))));obtain ⟨eb1,eo1,ee1,ec1⟩:=kp (H1.seen 0 Z) k ω;have eI1:=n5 (H1.seen 0 Z) k ω;refine ay (sR 3 Z (sV Z (aQ aM ts2 Z Z ee1 k ω ω) (sV Z (aq tu2 Z Z ec1) (sV Z (cV Z Z) (aa (aE Z (fun c2=>?_) (fun c2=>?_)))))))
  ·refine ab (sR 2 Z (rN hQ Try.results90 Z ?_));exact ⟨H1.ext,congrArg (Value.int .i64) (nD ω c2.symm he).symm⟩
  ·refine aw (ay (sV Z (aY Z Z iO) (sM Z Z (aa (⟨k+1,⟨Z,Z,Z,Z,trivial⟩,⟨H1,ω,fun i hi=>?_⟩,θ⟩)))))
   by_cases e:i=k
   ·subst e; omega
   ·exact he i ω
 ·refine bn (ab (rA hQ Try.results90 Z ?_));exact ⟨H1.ext,congrArg (Value.int .i64) (og fun i hi=>he i ω).symm⟩
theorem cq {w:World}{xs:List Int}{xsA:Option Addr}{xsC:Nat}{x:Int}(xsS:Sees w [.slice xsA xs.length xsC] xs):Ret Try.prog 86 #[.slice xsA xs.length xsC,.int .i64 x] w fun v w'=>Ext No w w'∧(v = .bool (decide (x∈xs))):=by
 have xsL:=sL xsS;obtain ⟨xsF,xsO⟩:=xsS;refine aO Try.func86 Z Try.ntmps86 Z (fun Q hQ hN=>?_);have H0:=Sep.start (ak xsO aL);refine ab (sA Z Z (aa (ab (sR 2 Z (sE Try.func90 m0 Z (d8 (H0.sees 0 Z)) H0 (fun w1 e1 H1=>sR 2 Z (rN hQ Try.results86 Z ?_)))))));exact ⟨H1.ext,by rw [mn]⟩
end Go.Wk
namespace Go.Wk
open Rp (sz own)
theorem Sep.part {M w0 Δ F} {w:World}(h:Sep M w0 Δ F w) (i:Nat) {r:Rsc}(hi:Δ[i]? = some r) (rs:List Rsc) (hrs:∀ q∈rs,q.φ w) (hb:blocks rs=r.fp):Sep M w0 (Δ.set i gone++rs) F w:=by
  have hx:=dp hi h.nd
  have hsub:∀ b,b∈blocks (Δ.set i gone)→b∈blocks Δ:=fun b hb=>by
    rcases bX hi b hb with h | h
    · simp [gone] at h
    · exact h
  have hmem:∀ b∈r.fp,b∈blocks Δ:=fun b hb=>aZ.2 ⟨r,List.mem_of_getElem? hi,hb⟩
  refine ⟨h.ext,fun q hq=>?_,?_,fun b hb'=>?_,h.fs,fun q hq b hbq hb'=>?_⟩
  · rcases List.mem_append.1 hq with hq | hq
    · rcases ep (q:=gone) hi h.nd q hq with rfl | ⟨hq,_⟩
      · trivial
      · exact h.rs q hq
    · exact hrs q hq
  · rw [cb,hb]
    refine List.nodup_append.2 ⟨dG hi h.nd (by simp [gone]) (by simp [gone]),h.nodup1 hi,fun x hx1 y hy e=>?_⟩
    subst e
    exact hx x hy hx1
  · rw [cb,hb] at hb'
    rcases List.mem_append.1 hb' with hb' | hb'
    · exact h.new b (hsub b hb')
    · exact h.new b (hmem b hb')
  · rw [cb,hb] at hb'
    rcases List.mem_append.1 hb' with hb' | hb'
    · exact h.ap q hq b hbq (hsub b hb')
    · exact h.ap q hq b hbq (hmem b hb')
end Go.Wk
namespace Go.Wk
open Rp (sz own)
section
variable {P:Program}{n:Nat}{L:Env}{w:World}{d:Option Tmp}{ty:TypeId}{p:String}{af:Array Edge}{g:Option (Nat × Bool)}
theorem fw {f:FuncId}{fn:Func}{x:Operand}{xs:Array Operand}{ats:Array TypeId}{vs lb:List Value}(hx:evL L x=some (.func (.func f) #[] lb.toArray)) (hf:P.funcs[f]? = some fn) (hb:fn.body.isNone=false) (hnm:(fn.name == "runtime.NumGoroutine")=false)
    (hv:di L xs.toList=some vs):Pc P n L w ⟨d,.call ⟨.value x,xs,ats⟩,ty,p,af,g⟩ f (vs++lb).toArray:=fun a ha=>by
  have hm:xs.map a.eval=vs.toArray:=by
    have key:∀ (l:List Operand) (vs:List Value),di L l=some vs→l.map a.eval=vs:=by
      intro l
      induction l with
      | nil=>intro vs h; simp [di] at h; simp [h]
      | cons x l ih=>
        intro vs h
        unfold di at h
        split at h
        · rename_i v us hv hus
          cases h
          simp [ha.eval hv,ih us hus]
        · cases h
    have:=key _ _ hv
    apply Array.toList_inj.1
    simpa using this
  have hb':¬ fn.body=none:=fun e=>by rw [e] at hb; simp at hb
  have hnm':¬ fn.name = "runtime.NumGoroutine" := fun e=>by rw [e] at hnm; simp at hnm
  simp [execOp,resolve,Deferred.ofValue,invoke,callFunc,hf,hb',hnm',hm,ha.eval hx]
theorem mK {b o m s:Nat}:slA (some ⟨b,o,none⟩) 0 m s=some ⟨b,o,none⟩:=by
  unfold slA; split
  · rfl
  · simp [dJ]
theorem lU {t e:TypeId}{x hi:Operand}{b o len cap s:Nat}{k2:IntKind}{h:Int}(hu:P.underlying t=some (.slice e)) (hs:∀ w,(sizeOf e).run P w = .ok s w)
    (hx:evL L x=some (.slice (some ⟨b,o,none⟩) len cap)) (hh:evL L hi=some (.int k2 h)) (h':Nat) (eh:h=h') (h2:h'≤cap) :
    Py P n L w ⟨d,.slice t x none (some hi) none,ty,p,af,g⟩ (.slice (some ⟨b,o,none⟩) h' cap):=by
  have:=jD (n:=n) (w:=w) (d:=d) (ty:=ty) (p:=p) (af:=af) (g:=g) hu hs hx hh h' eh h2
  rwa [mK] at this
theorem ko {t u e:TypeId}{z:Value}{size bytes m:Nat}(ht:P.underlying t=some (.slice e)) (hu:P.underlying u=some (.int .i64)) (hT:Ty P e z size bytes) (hz:z.cells.size=size) (h0:0<m*size) (h63:m≤4611686018427387904) (h48:m*bytes≤140737488355328) :
    (Builtin.append_ #[t,u] ty #[.slice none 0 0,.int .i64 m]).run P w =
      .ok (.slice (some ⟨w.heap.size,0,none⟩) m (grownCap w m 0 e)) (w.drew.alloc (.cells (Builtin.zeroCells z.cells m++Builtin.zeroCells z.cells (grownCap w m 0 e-m)) e)):=by
  obtain ⟨i,hi1,hi2,hi3,hi4⟩:=hT.parts
  have hm0:0<m:=by
    cases m with
    | zero=>simp at h0
    | succ k=>omega
  have hn:m≠0:=by omega
  have hs0:size≠0:=fun e=>by subst e; simp at h0
  have h63':¬ (9223372036854775807<(m:Int)):=by omega
  have hw:=p8 (x:=(m:Int)) ⟨ω,ω⟩
  have hneg:¬ ((m:Int)<0):=by omega
  have h48':¬ (281474976710656<Builtin.nextslicecap m 0*bytes):=by rw [nextslicecap_zero hm0]; omega
  have h48'':¬ (281474976710656<(m:Int)*(bytes:Int)):=by
    have:((m*bytes:Nat):Int)=(m:Int)*bytes:=Int.natCast_mul _ _
    omega
  simp [Builtin.append_,run_underlying ht,run_underlying hu,sizeOf,typeInfo,zeroValue,hi1,hi2,hi3,hi4,Builtin.lenOf,hn,hs0,hw,hneg,h63',h48',h48'',Question.forced,run_firstCells_none,newRow,grownCap,asInt,asIntOf]
  intro h; omega
end
section
variable {P:Program}{n:Nat}{ops:Array Oper}{Q:Post}{L:Env}{w w0:World}{M:Nat→Prop}{Δ F:List Rsc}{d:Tmp}{ty:TypeId}{p:String}{af:Array Edge}{g:Option (Nat × Bool)}{rest:List Oper}{α:Type}[Rp α]
theorem p4 {x y:Operand}{t u e:TypeId}{z:Value}{bytes m:Nat}(hw:Wn ops n L ⟨some d,.call ⟨.builtin .append,#[x,y],#[t,u]⟩,ty,p,af,g⟩) (hn:Nat.blt d n=true)
    (ht:P.underlying t=some (.slice e)) (hu:P.underlying u=some (.int .i64)) (hT:Ty P e z (sz α) bytes) (hz:z.cells.size=sz α) (hx:evL L x=some (.slice none 0 0)) (hy:evL L y=some (.int .i64 m))
    (H:Sep M w0 Δ F w) (h0:0<m) (h63:m≤4611686018427387904) (h48:m*bytes≤140737488355328)
    (k:∀ b c w',m≤c→Sep M w0 (Δ++[mine [.slice (some ⟨b,0,none⟩) 0 c] ([]:List α) [b]]) F w'→RL P n ops Q rest ((d,.slice (some ⟨b,0,none⟩) m c)::L) w') :
    RL P n ops Q (⟨some d,.call ⟨.builtin .append,#[x,y],#[t,u]⟩,ty,p,af,g⟩::rest) L w:=by
  have hsz:=Rp.pos (α:=α)
  have hr:=ko (w:=w) (ty:=ty) ht hu hT hz (Nat.mul_pos h0 hsz) h63 h48
  have hge:=grownCap_ge w m 0 e
  have hcm:grownCap w m 0 e≤maxLen:=grownCap_le_maxLen w m 0 e (by unfold maxLen; omega)
  refine gy hw rfl hn (fX hx hy hr) (k _ _ _ hge ?_)
  have e1:Ext No w (w.drew.alloc (.cells (Builtin.zeroCells z.cells m++Builtin.zeroCells z.cells (grownCap w m 0 e-m)) e)):=(Ext.refl.drawn _).alloc _
  refine H.add e1 (r:=Wk.mine [.slice (some ⟨w.heap.size,0,none⟩) 0 (grownCap w m 0 e)] ([]:List α) [w.heap.size]) (.inr (.inr ⟨w.heap.size,0,_,_,e,(0,0),[],rfl,rfl,heap_alloc_new w.drew _,fun _=>rfl,Nat.zero_le _,hcm,?_,rfl⟩)) (by simp [Wk.mine]) (by simp [Wk.mine])
  simp only [Array.size_append,size_zeroCells,hz,← Nat.add_mul,Nat.zero_add]
  exact Nat.le_of_eq (by congr 1; omega)
end
end Go.Wk
namespace Go.Wk
open Rp (sz own)
theorem Py.to {P:Program}{n:Nat}{L:Env}{w:World}{o:Oper}{v v':Value}(h:Py P n L w o v) (e:v=v'):Py P n L w o v':=e ▸ h
def cD {α:Type}(p:α→Bool) (xs:List α):Int:=match xs.findIdx? p with
  | some k=>k
  | none => -1
theorem f6 {α:Type}{p:α→Bool}{xs:List α}{d:α}{k:Nat}(hk:k<xs.length) (h:p (xs.getD k d)=true) (hn:∀ i,i<k→p (xs.getD i d)=false):cD p xs=k:=by
  have:xs.findIdx? p=some k:=by
    rw [List.findIdx?_eq_some_iff_getElem]
    refine ⟨hk,?_,fun j hj=>?_⟩
    · simpa [List.getD,hk] using h
    · have:=hn j hj
      have hj':j<xs.length:=by omega
      simpa [List.getD,hj'] using this
  simp [cD,this]
theorem gj {α:Type}{p:α→Bool}{xs:List α}{d:α}(hn:∀ i,i<xs.length→p (xs.getD i d)=false):cD p xs = -1:=by
  have:xs.findIdx? p=none:=by
    rw [List.findIdx?_eq_none_iff]
    intro x hx
    obtain ⟨i,hi,rfl⟩:=List.getElem_of_mem hx
    have:=hn i hi
    simpa [List.getD,hi] using this
  simp [cD,this]
theorem dU {α:Type}{p:α→Bool}{xs:List α}:decide (0≤cD p xs)=xs.any p:=by
  unfold cD
  cases h:xs.findIdx? p with
  | none=>
    rw [List.findIdx?_eq_none_iff] at h
    have:xs.any p=false:=by simpa using h
    simp [this]
  | some k=>
    rw [List.findIdx?_eq_some_iff_getElem] at h
    obtain ⟨hk,hp,_⟩:=h
    have:xs.any p=true:=List.any_eq_true.2 ⟨_,List.getElem_mem hk,hp⟩
    simp [this]
end Go.Wk
namespace Go.Wk
open Rp (sz own)
section
variable {P:Program}{n:Nat}{ops:Array Oper}{Q:Post}{S:World→Prop}{L:Env}{w w0:World}{M:Nat→Prop}{Δ F:List Rsc}{i:Nat}{d:Tmp}{ty:TypeId}{p:String}{af:Array Edge}{g:Option (Nat × Bool)}{rest:List (Nat × Bool)}
theorem i5 {t:TypeId}{x y:Operand}{b off:Nat}{cs:List Value}{T v} (ho:ops.toList[i]? = some ⟨none,.store t x y,ty,p,af,g⟩) (hw:Wn ops n L ⟨none,.store t x y,ty,p,af,g⟩) (hs:∀ w,(sizeOf t).run P w = .ok 1 w) (hx:evL L x=some (.pointer (some ⟨b,off,none⟩))) (hy:evL L y=some v) (h1:v.oneCell'=true)
    (H:Sep M w0 Δ F w) (j:Nat) (hi:Δ[j]? = some (box b (.cells cs.toArray T))) (hf:Nat.blt off cs.length=true) (hS:∀ w',S w→Ext (· = b) w w'→rest≠[]→S w')
    (k:∀ w',Ext (· = b) w w'→Sep M w0 (Δ.set j (box b (.cells (cs.set off v).toArray T))) F w'→DL P n ops Q S rest L w') :
    DL P n ops Q S ((i,false)::rest) L w:=by
  have h:=k _ (Ext.refl.put (.inl rfl)) (H.put j _ hi)
  rw [← List.setIfInBounds_toArray] at h
  exact p1 ho hw rfl (iS hs hx hy h1 (H.box j hi) (by rw [List.size_toArray]; exact Nat.le_of_ble_eq_true hf)) (fun hSw hr=>hS _ hSw (Ext.refl.put (.inl rfl)) hr) h
end
end Go.Wk
namespace Go.Wk
open Rp (sz own)
def BoxTo (w w':World) (b:Nat) (o:Obj):Prop:=Ext (· = b) w w'∧w'.heap[b]? = some o
section
variable {M:Nat→Prop}{w0 w w':World}{Δ F:List Rsc}
theorem Sep.putBox (h:Sep M w0 Δ F w) (i:Nat) {b:Nat}{o o':Obj}(hi:Δ[i]? = some (Wk.box b o)) (e:Ext (· = b) w w') (hb:w'.heap[b]? = some o'):Sep M w0 (Δ.set i (Wk.box b o')) F w':=
  h.set hi (q:=Wk.box b o') (e.mono fun x _ hx=>by simp [Wk.box,hx]) hb (by simp [Wk.box]) fun x hx => .inl hx
theorem Sep.beginBox {b:Nat}{o:Obj}(hb:w.heap[b]? = some o):Sep (· = b) w [Wk.box b o] [] w:=
  ⟨Ext.refl,by intro r hr; simp at hr; subst hr; exact hb,by simp [blocks,Wk.box],fun x hx => .inl (by simpa [blocks,Wk.box] using hx),σ,σ⟩
theorem Sep.newBox (h:Sep M w0 Δ F w) (e:Ext No w w') {b:Nat}{o:Obj}(hb:w'.heap[b]? = some o) (hf:w.heap.size≤b):Sep M w0 (Δ++[Wk.box b o]) F w':=
  h.add e (r:=Wk.box b o) hb (by simp [Wk.box]) (by simpa [Wk.box] using hf)
theorem Sep.offb (h:Sep M w0 Δ F w) (j:Nat) {r:Rsc}(hj:F[j]? = some r) (i:Nat) {b:Nat}{o:Obj}(hi:Δ[i]? = some (Wk.box b o)):∀ x∈r.fp,x≠b:=fun x hx e=>by
  subst e
  exact h.ap r (List.mem_of_getElem? hj) x hx (aZ.2 ⟨_,List.mem_of_getElem? hi,by simp [Wk.box]⟩)
theorem Sep.outB {α:Type}[Rp α] {b:Nat}{o:Obj}(h:Sep (· = b) w0 Δ F w) (j:Nat) (hj:Δ[j]? = some (Wk.box b o)) (i:Nat) {cs:List Value}{x:α}{fp:List Nat}(hi:Δ[i]? = some (Wk.mine cs x fp)) (hij:Nat.beq j i=false):Res w0 w cs x:=by
  refine ⟨fp,h.mine i hi,h.nodup1 hi,fun y hy=>?_⟩
  rcases h.new y (aZ.2 ⟨_,List.mem_of_getElem? hi,hy⟩) with e | e
  · subst e
    exact absurd hy (h.apart hi hj hij y (by simp [Wk.box]))
  · exact e
end
theorem Sep.resBox {α:Type}[Rp α] {M:Nat→Prop}{w0 w w':World}{Δ F:List Rsc}(h:Sep M w0 Δ F w) (i:Nat) {b:Nat}{o o':Obj}(hi:Δ[i]? = some (Wk.box b o)) (e:Ext (· = b) w w') (hb:w'.heap[b]? = some o') {cs:List Value}{x:α}(hr:Res w w' cs x) :
    ∃ fp,Sep M w0 (Δ.set i (Wk.box b o')++[Wk.mine cs x fp]) F w':=by
  obtain ⟨fp,h1,h2,h3⟩:=hr
  have hp:=h.putBox i hi e hb
  have hb':b∈blocks (Δ.set i (Wk.box b o')):=aZ.2 ⟨_,List.mem_of_getElem? (List.getElem?_set_self (List.getElem?_eq_some_iff.1 hi).1),by simp [Wk.box]⟩
  have hlt:∀ x∈blocks (Δ.set i (Wk.box b o')),x<w.heap.size:=fun x hx=>by
    rcases bX hi x hx with hx | hx
    · simp only [Wk.box,List.mem_singleton] at hx
      subst hx
      exact h.lt _ (aZ.2 ⟨_,List.mem_of_getElem? hi,by simp [Wk.box]⟩)
    · exact h.lt x hx
  refine ⟨fp,hp.ext,fun r hr=>?_,?_,fun x hx=>?_,hp.fs,fun r hr x hx hx2=>?_⟩
  · rcases List.mem_append.1 hr with hr | hr
    · exact hp.rs r hr
    · simp at hr; subst hr; exact h1
  · rw [cb]
    refine List.nodup_append.2 ⟨hp.nd,by simpa [blocks,Wk.mine] using h2,fun x hx y hy e=>?_⟩
    subst e
    have:=hlt x hx
    have:=h3 x (by simpa [blocks,Wk.mine] using hy)
    omega
  · rw [cb] at hx
    rcases List.mem_append.1 hx with hx | hx
    · exact hp.new x hx
    · have:=h3 x (by simpa [blocks,Wk.mine] using hx)
      have:=h.ext.size
      exact .inr ω
  · rw [cb] at hx2
    rcases List.mem_append.1 hx2 with hx2 | hx2
    · exact hp.ap r hr x hx hx2
    · have h4:=h3 x (by simpa [blocks,Wk.mine] using hx2)
      have:=r.lt (h.fs r hr) x hx
      omega
section
variable {P:Program}{n:Nat}{L:Env}{w:World}{d:Option Tmp}{ty:TypeId}{p:String}{af:Array Edge}{g:Option (Nat × Bool)}
theorem jV {s:TypeId}{fs:Array Field}{x:Operand}{i:Nat}{f:Field}{td:TypeDesc}{cs:Array Value}{v:Value}(hu:P.underlying s=some (.struct fs)) (hf:fs[i]? = some f) (ht:P.underlying f.type=some td) (h1:single td=true)
    (hx:evL L x=some (.agg cs)) (hv:cs[f.offset]? = some v):Py P n L w ⟨d,.field s x i,ty,p,af,g⟩ v:=fun a ha=>by
  simp [execOp,ha.eval hx,Instr.field,run_underlying hu,hf,part,asAgg,fH ht,h1,hv]
theorem go {s:TypeId}{fs:Array Field}{x:Operand}{i sz:Nat}{f:Field}{td:TypeDesc}{cs:Array Value}(hu:P.underlying s=some (.struct fs)) (hf:fs[i]? = some f) (ht:P.underlying f.type=some td) (hs:∀ w,(sizeOf f.type).run P w = .ok sz w) (h1:single td=false)
    (hx:evL L x=some (.agg cs)):Py P n L w ⟨d,.field s x i,ty,p,af,g⟩ (.agg (cs.extract f.offset (f.offset+sz))):=fun a ha=>by
  simp [execOp,ha.eval hx,Instr.field,run_underlying hu,hf,part,asAgg,fH ht,h1,hs]
theorem jk {t e:TypeId}{a:Option Addr}{m c:Nat}(hu:P.underlying t=some (.slice e)):(binOp .eql t (.slice a m c) (.slice none 0 0)).run P w = .ok (.bool a.isNone) w:=by
  have h:∀ d,(Op.equalIn (d+1) t (.slice a m c) (.slice none 0 0)).run P w = .ok a.isNone w:=by
    intro d; cases a<;>simp [Op.equalIn,run_underlying hu]
  have h2:(Op.equal t (.slice a m c) (.slice none 0 0)).run P w = .ok a.isNone w:=h 9999
  simp only [binOp]
  simp [h2]
theorem le {t e:TypeId}{x y:Operand}{yt:TypeId}{a:Option Addr}{m c:Nat}(hu:P.underlying t=some (.slice e)) (hx:evL L x=some (.slice a m c)) (hy:evL L y=some (.slice none 0 0)) :
    Py P n L w ⟨d,.binOp .eql t x y yt,ty,p,af,g⟩ (.bool a.isNone):=fun a ha=>by
  simp [execOp,ha.eval hx,ha.eval hy,eqGuard,jk hu]
end
theorem kr {α:Type}[Rp α] {s w ad m c} {xs:List α}{f} (h:own s w [.slice ad m c] xs f) (ha:ad.isNone=true):xs=[]:=by
  by_cases h0:0<xs.length
  · obtain ⟨b,o,_,_,e,_⟩:=mc h h0
    subst e; simp at ha
  · exact List.eq_nil_of_length_eq_zero ω
theorem pb {a b:Int}(h:0≤a) (hb:0<b):0≤a.tdiv b∧a.tdiv b≤a:=by
  rw [Int.tdiv_eq_ediv_of_nonneg h]
  exact ⟨Int.ediv_nonneg h ω,Int.ediv_le_self _ h⟩
theorem gx {a b:Int}(h:0≤a) (hb:0<b):0≤a.tmod b∧a.tmod b<b:=⟨Int.tmod_nonneg _ h,Int.tmod_lt_of_pos _ hb⟩
theorem iL {w:World}:∀ {xs:List Int},(∀ x∈xs,I64ok x)→bC true w (xs.map (Value.int .i64)) xs []
  | [],_=>rfl
  | x::xs,h=>⟨[],[],rfl,⟨by simp [sz],rfl,h x σ⟩,by simpa [sz] using iL (w:=w) (xs:=xs) fun y hy=>h y (by simp [hy])⟩
section
variable {P:Program}{n:Nat}{ops:Array Oper}{Q:Post}{L:Env}{w w0:World}{M:Nat→Prop}{Δ F:List Rsc}{rest:List Oper}{d:Nat}{ty:TypeId}{p:String}{af:Array Edge}{g:Option (Nat × Bool)}
theorem bB {t e:TypeId}{parts:Array (Nat × Operand)}{z:Value}{bytes:Nat}(xs:List Int) (hw:Wn ops n L ⟨some d,.buildSlice t xs.length parts,ty,p,af,g⟩) (hn:Nat.blt d n=true) (ht:P.underlying t=some (.slice e)) (hT:Ty P e z 1 bytes)
    (hix:parts.toList.map (·.1)=List.range xs.length) (hv:di L (parts.toList.map (·.2))=some (xs.map (Value.int .i64))) (hk:∀ x∈xs,I64ok x) (h0:0<xs.length) (hl:xs.length≤1000) (H:Sep M w0 Δ F w)
    (k:∀ b w',Ext No w w'→w.heap.size≤b→Sep M w0 (Δ++[mine [.slice (some ⟨b,0,none⟩) xs.length xs.length] xs [b]]) F w'→RL P n ops Q rest ((d,.slice (some ⟨b,0,none⟩) xs.length xs.length)::L) w') :
    RL P n ops Q (⟨some d,.buildSlice t xs.length parts,ty,p,af,g⟩::rest) L w:=by
  have hparts:∀ a,Good n a L→(parts.map fun (i,x)=>(i,a.eval x)).toList=((xs.map (Value.int .i64)).zipIdx 0).map fun x=>(x.2,x.1):=fun a ha=>by
    have key:∀ (l:List (Nat × Operand)) (vs:List Value) (k:Nat),l.map (·.1)=List.range' k vs.length→di L (l.map (·.2))=some vs→l.map (fun x=>(x.1,a.eval x.2))=(vs.zipIdx k).map fun x=>(x.2,x.1):=by
      intro l
      induction l with
      | nil=>intro vs k h1 h2; simp [di] at h2; subst h2; rfl
      | cons x l ih=>
        intro vs k h1 h2
        simp only [List.map_cons] at h1 h2 ⊢
        unfold di at h2
        split at h2
        · rename_i v us hv hus
          cases h2
          rw [List.length_cons,List.range'_succ] at h1
          simp only [List.cons.injEq] at h1
          rw [List.zipIdx_cons,List.map_cons,← ih us (k+1) h1.2 hus,ha.eval hv,h1.1]
        · cases h2
    rw [Array.toList_map]
    refine key parts.toList _ 0 ?_ hv
    rw [hix,List.length_map,List.range_eq_range']
  have hp:=iZ (n:=n) (w:=w) (ty:=ty) (p:=p) (af:=af) (g:=g) (d:=some d) (parts:=parts) (vs:=xs.map (Value.int .i64)) (len:=xs.length) ht hT ω σ hparts (by intro v hv; simp at hv; obtain ⟨x,_,rfl⟩:=hv; rfl) h0 ω
  refine gy hw rfl hn hp (k _ _ (Ext.refl.alloc _) (Nat.le_refl _) ?_)
  refine H.add (Ext.refl.alloc _) (r:=Wk.mine [.slice (some ⟨w.heap.size,0,none⟩) xs.length xs.length] xs [w.heap.size]) (.inr (.inr ⟨w.heap.size,0,_,_,e,(0,0),[],rfl,rfl,heap_alloc_new w _,fun _=>rfl,Nat.le_refl _,by unfold maxLen; omega,?_,?_⟩)) (by simp [Wk.mine]) (by simp [Wk.mine])
  · have:∀ l:List Int,(l.map (Value.int .i64)).flatMap (fun v=>v.cells.toList)=l.map (Value.int .i64):=by
      intro l; induction l with
      | nil=>rfl
      | cons x l ih=>simp only [List.map_cons,List.flatMap_cons,ih]; rfl
    simp [this,sz]
  · have:∀ l:List Int,(l.map (Value.int .i64)).flatMap (fun v=>v.cells.toList)=l.map (Value.int .i64):=by
      intro l; induction l with
      | nil=>rfl
      | cons x l ih=>simp only [List.map_cons,List.flatMap_cons,ih]; rfl
    simp only [this,List.drop_zero]
    exact iL hk
end
end Go.Wk
namespace Go.Wk
open Rp (sz own)
def aS (s:Shape):DeskResult:=
  if s.fault=0 then ⟨0,⟨List.replicate (s.Groups+s.Column).toNat [],[],[],0,1⟩⟩ else ⟨s.fault,⟨[],[],[],0,0⟩⟩
theorem jb {s:Shape}{n:Nat}(h:s.fault=0) (hn:s.Groups+s.Column=n):aS s=⟨0,⟨List.replicate n [],[],[],0,1⟩⟩:=by
  rw [aS,if_pos h,hn]; rfl
theorem lB {s:Shape}(h:s.fault≠0):aS s=⟨s.fault,⟨[],[],[],0,0⟩⟩:=by rw [aS,if_neg h]
theorem Sep.nilD {α:Type}[Rp α] {M w0 Δ F} {w:World}(h:Sep M w0 Δ F w):Sep M w0 (Δ++[Wk.mine [.slice none 0 0] ([]:List α) []]) F w:=
  h.add Ext.refl (r:=Wk.mine [.slice none 0 0] ([]:List α) []) (.inr (.inl ⟨rfl,rfl,rfl⟩)) .nil (by simp [Wk.mine])
theorem m6 (s:Shape):I64ok s.fault:=by
  unfold Shape.fault I64ok; split<;>omega
theorem mF {w0 w:World}{F:List Rsc}{a:Option Addr}{n c:Nat}{qs:List (List Ticket)}{f:List Nat}{k t m:Int}(h:Sep No w0 [mine [.slice a n c] qs f] F w) (hk:I64ok k∧I64ok t∧I64ok m) (hn:n=qs.length) :
    Res w0 w [.int .i64 k,.slice a qs.length c,.slice none 0 0,.slice none 0 0,.int .i64 t,.int .i64 m] (⟨k,⟨qs,[],[],t,m⟩⟩:DeskResult):=by
  subst hn
  exact DeskResult.out (x:=⟨k,⟨qs,[],[],t,m⟩⟩) ((h.nilD (α:=Ticket)).nilD (α:=Answer)) ⟨hk.1,hk.2.1,hk.2.2⟩
end Go.Wk
