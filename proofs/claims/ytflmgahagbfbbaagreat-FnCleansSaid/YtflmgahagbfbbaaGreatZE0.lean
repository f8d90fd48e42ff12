/-
  Laws on walking, and the functions walked, each once: what this claim comes to.
-/
import Derived.Test.YtflmgahagbfbbaaGreatRows
import Derived.Tactics
import Derived.OrdersHeld
import Derived.WalkKit
import Derived.Great.BuildSlice
import Derived.Laws.Tables
import Derived.WideShapes
import Derived.Laws.Closers25b
import Derived.ProofKit
import Derived.OpenShut
import Derived.ShutString
import Derived.ChangeOld
import Derived.Below
import Derived.RangeFuncSeq
import Derived.RangeFuncLeaves
import Derived.Test.YtflmgahagbfbbaaGreatChecked
import Derived.Laws.BytesArg
import Derived.OrdersIn
import Derived.Maps.RangeRun
import Derived.Lib.Bytealg
import Derived.Shelf.SlSortCmp.NoneTotal
import Derived.Shelf.Small.Strs
set_option linter.unusedVariables false
set_option linter.unusedSimpArgs false
theorem ω {p : Prop} (h : p := by omega) : p := h
theorem η {p : Prop} (h : p := by assumption) : p := h
theorem ξ {p : Prop} (h : p := by first | assumption | omega) : p := h
theorem κ {p : Prop} (h : p := by kernel_rfl) : p := h
theorem σ {p : Prop} (h : p := by simp) : p := h
theorem θ {p : Prop} (h : p := by dsimp only; omega) : p := h
namespace Go.Wk
abbrev Env:=List (Nat × Value)
def look:Env→Nat→Option Value
  | [],_=>none
  | (t,v)::L,u=>match Nat.beq t u with
    | true=>some v
    | false=>look L u
def evL (L:Env):Operand→Option Value
  | .tmp t=>look L t
  | .const v=>some v
  | .func f=>some (.func (.func f) #[] #[])
  | .global g=>some (.pointer (some ⟨g,0,none⟩))
def sub (L:Env):Env→Prop
  | []=>True
  | p::M=>look L p.1=some p.2∧sub L M
theorem uG {L:Env}:∀ {M:Env},sub L M→∀ {t v},look M t=some v→look L t=some v
  | [],_,_,_,h=>by simp [look] at h
  | (u,x)::M,⟨h1,h2⟩,t,v,h=>by
    unfold look at h
    split at h
    · rename_i hb
      have:u=t:=Nat.eq_of_beq_eq_true hb
      cases h; subst this; exact h1
    · exact uG h2 h
structure Good (n:Nat) (a:Act) (L:Env):Prop where
  size:a.tmps.size=n
  defers:a.defers=[]
  cov:∀ t v,look L t=some v→a.tmps.getD t undef=v
theorem Good.eval {n a L x v} (h:Good n a L) (hx:evL L x=some v):a.eval x=v:=by
  cases x with
  | tmp t=>exact h.cov t v hx
  | const u=>simpa [evL,Act.eval] using hx
  | func f=>simpa [evL,Act.eval] using hx
  | global g=>simpa [evL,Act.eval] using hx
theorem Good.put {n a L d v} (h:Good n a L) (hd:Nat.blt d n=true):Good n (a.put (some d) v) ((d,v)::L):=by
  have hd':d<n:=Nat.le_of_ble_eq_true hd
  refine ⟨by simp [Act.put,h.size],h.defers,fun t u ht=>?_⟩
  unfold look at ht
  simp only [Act.put,Array.getD_eq_getD_getElem?]
  split at ht
  · rename_i hb
    have:d=t:=Nat.eq_of_beq_eq_true hb
    subst this
    cases ht
    simp [h.size,hd']
  · rename_i hb
    have hne:d≠t:=fun e=>by subst e; simp at hb
    rw [Array.getElem?_setIfInBounds_ne hne,← Array.getD_eq_getD_getElem?]
    exact h.cov t u ht
theorem Good.weak {n a L M} (h:Good n a L) (hs:sub L M):Good n a M:=
  ⟨h.size,h.defers,fun t v ht=>h.cov t v (uG hs ht)⟩
abbrev Post:=Exit→Env→World→Prop
def lift (n:Nat) (Q:Post):Exit→Act→World→Prop
  | .panic _,_,_=>False
  | .outgrown,_,_=>False
  | e,a,w=>∃ L,Good n a L∧Q e L w
def W (P:Program) (n:Nat) (c:Code) (Q:Post) (L:Env) (w:World):Prop:=
  ∀ a,Good n a L→c.wp P (lift n Q) a w
theorem W.mono {P n c Q Q' L w} (h:W P n c Q L w) (hq:∀ e L w,Q e L w→Q' e L w):W P n c Q' L w:=fun a ha=>
  wp_mono (h a ha) fun e a w hh=>by
    cases e<;>first | exact hh | (obtain ⟨L,hg,hq'⟩:=hh; exact ⟨L,hg,hq _ _ _ hq'⟩)
def thn (P:Program) (n:Nat) (c:Code) (Q:Post):Post
  | .normal,L,w=>W P n c Q L w
  | e,L,w=>Q e L w
theorem ae {P n x y Q L w} (h:W P n x (thn P n y Q) L w):W P n (.seq x y) Q L w:=fun a ha=>wp_seq <|
 wp_mono (h a ha) fun e a w hh=>by
  cases e<;>first | exact hh | (obtain ⟨L,hg,hq⟩:=hh; first | exact hq a hg | exact ⟨L,hg,hq⟩)
theorem ao {P n Q L w} (h:Q .normal L w):W P n .skip Q L w:=fun _ ha=>wp_skip ⟨L,ha,h⟩
theorem bw {P n Q L w} (h:Q .ret L w):W P n .ret Q L w:=fun _ ha=>wp_ret ⟨L,ha,h⟩
theorem aX {P n Q L w id} (h:Q (.exit id) L w):W P n (.exit id) Q L w:=fun _ ha=>wp_exit ⟨L,ha,h⟩
theorem cg {P n c x y Q L w b} (hc:evL L c=some (.bool b)) (h1:b=true→W P n x Q L w) (h2:b=false→W P n y Q L w) :
  W P n (.cond c x y) Q L w:=fun a ha=>wp_cond_split (ha.eval hc) (fun h=>h1 h a ha) (fun h=>h2 h a ha)
theorem az {P n c x y Q L w p} [i:Decidable p] (hc:evL L c=some (.bool (@decide p i))) (h1:p→W P n x Q L w) (h2:¬ p→W P n y Q L w) :
  W P n (.cond c x y) Q L w:=cg hc (fun h=>h1 (of_decide_eq_true h)) (fun h=>h2 (of_decide_eq_false h))
theorem dz {P n c x y Q L w} (hc:evL L c=some (.bool true)) (h1:W P n x Q L w):W P n (.cond c x y) Q L w:=
 cg hc (fun _=>h1) (fun h=>by cases h)
theorem eJ {P n c x y Q L w} (hc:evL L c=some (.bool false)) (h1:W P n y Q L w):W P n (.cond c x y) Q L w:=
 cg hc (fun h=>by cases h) (fun _=>h1)
def blk (id:Nat) (Q:Post):Post
  | .exit i,L,w=>match Nat.beq i id with
    | true=>Q .normal L w
    | false=>Q (.exit i) L w
  | e,L,w=>Q e L w
theorem ar {P n id c Q L w} (h:W P n c (blk id Q) L w):W P n (.block id c) Q L w:=fun a ha=>wp_block <|
 wp_mono (h a ha) fun e a w hh=>by
  cases e with
  | exit i=>
   obtain ⟨L,hg,hq⟩:=hh
   simp only [blk] at hq
   simp only [Exit.inBlock]
   cases hb:Nat.beq i id with
   | true=>
    rw [hb] at hq
    rw [if_pos (Nat.eq_of_beq_eq_true hb)]
    exact ⟨L,hg,hq⟩
   | false=>
    rw [hb] at hq
    rw [if_neg (fun e=>by subst e; simp at hb)]
    exact ⟨L,hg,hq⟩
  | _=>exact hh
def again {γ:Type}(E:γ→Env) (I:γ→World→Prop) (μ:γ→Nat) (g:γ) (Q:Post):Post
  | .normal,L',w'=>∃ g',sub L' (E g')∧I g' w'∧μ g'<μ g
  | e,L',w'=>Q e L' w'
def meets {γ:Type}(E:γ→Env) (I:γ→World→Prop) (Q:Post):Post
  | .normal,L',w'=>∃ g,sub L' (E g)∧I g w'
  | e,L',w'=>Q e L' w'
theorem cm {P n c Q L w} {γ:Type}(E:γ→Env) (I:γ→World→Prop) (μ:γ→Nat) (g0:γ) (hs:sub L (E g0)) (h0:I g0 w)
  (round:∀ g w,I g w→W P n c (again E I μ g Q) (E g) w):W P n (.loop c) Q L w:=by
 have key:∀ k g w,μ g=k→I g w→∀ a,Good n a (E g)→∀ (b:Frame) (kk:List Item) (cs:List Frame),
   ∃ e a' w',lift n Q e a' w'∧Arrives P (lone (b.at a (.code c :: .inLoop c::kk)) cs w) b kk cs e a' w':=by
  intro k
  induction k using Nat.strongRecOn with
  | _ k ih=>
   intro g w hk hI a ha b kk cs
   obtain ⟨e,a₁,w₁,hq,harr⟩:=round g w hI a ha b (.inLoop c::kk) cs
   cases e with
   | normal=>
    obtain ⟨L',hg',g',hs',hI',hlt⟩:=hq
    obtain ⟨e₂,a₂,w₂,hq₂,harr₂⟩:=ih (μ g') (hk ▸ hlt) g' w₁ rfl hI' a₁ (hg'.weak hs') b kk cs
    exact ⟨e₂,a₂,w₂,hq₂,.of_steps (Steps.trans harr (.one step_inLoop)) harr₂⟩
   | exit id=>exact ⟨.exit id,a₁,w₁,hq,.pass (x := .inLoop c) rfl (fun _ _ => .inl σ) harr⟩
   | goto l=>exact ⟨.goto l,a₁,w₁,hq,.pass (x := .inLoop c) rfl (fun _ _ => .inl σ) harr⟩
   | ret=>exact ⟨.ret,a₁,w₁,hq,.pass (x := .inLoop c) rfl (fun _ _ => .inl σ) harr⟩
   | panic ch=>exact hq.elim
   | outgrown=>exact hq.elim
 intro a ha b kk cs
 obtain ⟨e,a',w',hq,harr⟩:=key _ g0 w rfl h0 a (ha.weak hs) b kk cs
 exact ⟨e,a',w',hq,.of_steps (.one step_loop) harr⟩
theorem mn {P n x y Q L w} {γ:Type}(E:γ→Env) (I:γ→World→Prop)
  (h:W P n x (meets E I Q) L w)
  (k:∀ g w',I g w'→W P n y Q (E g) w'):W P n (.seq x y) Q L w:=
 ae (h.mono fun e L' w' hh=>by
  cases e with
  | normal=>
   obtain ⟨g,hs,hI⟩:=hh
   exact fun a ha=>k g w' hI a (ha.weak hs)
  | _=>exact hh)
def Ret (P:Program) (f:FuncId) (args:Array Value) (w:World) (R:Value→World→Prop):Prop:=
  Calls P f args w fun e w'=>∃ v,e = .returned v∧R v w'
theorem Ret.mono {P f args w R R'} (h:Ret P f args w R) (hr:∀ v w',R v w'→R' v w'):Ret P f args w R':=
  Calls.mono h fun _ _ ⟨v,he,hR⟩=>⟨v,he,hr _ _ hR⟩
def qi:Nat→List Value→Env
  | _,[]=>[]
  | k,v::vs=>(k,v)::qi (k+1) vs
theorem ql:∀ (vs:List Value) (k t:Nat) (v:Value),look (qi k vs) t=some v→∃ j,t=k+j∧vs[j]? = some v
  | [],_,_,_,h=>by simp [qi,look] at h
  | u::vs,k,t,v,h=>by
    unfold qi look at h
    split at h
    · rename_i hb
      have:k=t:=Nat.eq_of_beq_eq_true hb
      cases h
      exact ⟨0,ω,rfl⟩
    · obtain ⟨j,hj,hv⟩:=ql vs (k+1) t v h
      exact ⟨j+1,ω,by simpa using hv⟩
def fin (P:Program) (fn:Func) (R:Value→World→Prop):Post
  | .normal,L,w=>∀ n a,Good n a L→∃ v,(results fn a.tmps).run P w = .ok v w∧R v w
  | .ret,L,w=>∀ n a,Good n a L→∃ v,(results fn a.tmps).run P w = .ok v w∧R v w
  | _,_,_=>False
theorem Good.start {vs:List Value}{n m:Nat}(h:vs.toArray.size+m=n):Good n { tmps:=vs.toArray++Array.replicate m undef,defers:=[] } (qi 0 vs):=by
  refine ⟨by simpa using h,rfl,fun t v ht=>?_⟩
  obtain ⟨j,hj,hv⟩:=ql vs 0 t v ht
  have hjt:j=t:=by omega
  subst hjt
  have hlt:j<vs.length:=(List.getElem?_eq_some_iff.1 hv).1
  simp only [Array.getD_eq_getD_getElem?]
  rw [Array.getElem?_append_left (by simpa using hlt)]
  simp [hv]
theorem CS {P f fn c n} {vs:List Value}{w R} (hf:P.funcs[f]? = some fn) (hb:fn.body=some c) (hn:fn.ntmps=n) (hl:Nat.ble vs.length n=true)
    (h:W P n c (fin P fn R) (qi 0 vs) w):Ret P f vs.toArray w R:=by
  have hl':=Nat.le_of_ble_eq_true hl
  refine calls_of_wp hf hb ?_
  refine wp_mono (h _ (Good.start (by rw [hn]; simp; omega))) fun e a w hh=>?_
  cases e<;>first | exact hh.elim | skip
  all_goals (obtain ⟨L,hg,hq⟩:=hh; first | exact hq.elim | skip)
  all_goals (obtain ⟨v,hr,hR⟩:=hq n a hg; exact ⟨hg.defers,v,hr,v,rfl,hR⟩)
theorem aR {P f fn c n} {vs:List Value}{w R} (hf:P.funcs[f]? = some fn) (hb:fn.body=some c) (hn:fn.ntmps=n) (hl:Nat.ble vs.length n=true)
    (h:∀ Q:Post,(∀ L w,fin P fn R .ret L w→Q .ret L w)→(∀ L w,fin P fn R .ret L w→Q .normal L w)→W P n c Q (qi 0 vs) w):Ret P f vs.toArray w R:=
  CS hf hb hn hl (h _ (fun _ _ h=>h) (fun _ _ h=>h))
section
variable {P:Program}{fn:Func}{R:Value→World→Prop}{L:Env}{w:World}
theorem mP (hr:fn.results = #[]) (h:R (.tuple #[]) w):fin P fn R .ret L w:=fun _ _ _=>⟨_,results_none hr _ P w,h⟩
theorem DD {t v} (hr:fn.results = #[.tmp t]) (hv:look L t=some v) (h:R v w):fin P fn R .ret L w:=fun _ a hg=>
  ⟨v,by rw [results_tmp hr,hg.cov t v hv],h⟩
theorem wH {t u v x} (hr:fn.results = #[.tmp t,.tmp u]) (hv:look L t=some v) (hx:look L u=some x) (h:R (.tuple #[v,x]) w):fin P fn R .ret L w:=fun _ a hg=>
  ⟨_,by rw [results_tmp2 hr,hg.cov t v hv,hg.cov u x hx],h⟩
theorem cp {t ty x v} (hr:fn.results = #[.cell t ty]) (hv:look L t=some (.pointer (some x))) (hl:(loadVar ty x).run P w = .ok v w) (h:R v w):fin P fn R .ret L w:=fun _ a hg=>
  ⟨v,by have h1:=hg.cov t _ hv; simp only [Array.getD_eq_getD_getElem?] at h1; simp [results,hr,h1,asAddr,hl],h⟩
end
section
variable {P:Program}{n:Nat}{ops:Array Oper}{Q:Post}{L:Env}{w:World}
def RL (P:Program) (n:Nat) (ops:Array Oper) (Q:Post) (l:List Oper) (L:Env) (w:World):Prop:=
  ∀ a,Good n a L→wpList P ops (lift n Q) l a w
def Py (P:Program) (n:Nat) (L:Env) (w:World) (o:Oper) (v:Value):Prop:=
  ∀ a,Good n a L→(execOp a.eval o).run P w = .ok (.value v) w
def Pn (P:Program) (n:Nat) (L:Env) (w:World) (o:Oper) (v:Value) (w':World):Prop:=
  ∀ a,Good n a L→(execOp a.eval o).run P w = .ok (.value v) w'
def Pd (P:Program) (n:Nat) (L:Env) (w:World) (o:Oper) (w':World):Prop:=
  ∀ a,Good n a L→(execOp a.eval o).run P w = .ok .skip w'
def Pc (P:Program) (n:Nat) (L:Env) (w:World) (o:Oper) (f:FuncId) (args:Array Value):Prop:=
  ∀ a,Good n a L→(execOp a.eval o).run P w = .ok (.enter f args) w
def Wn (ops:Array Oper) (n:Nat) (L:Env) (o:Oper):Prop:=
  ∀ a,Good n a L→Region.wanted o (yielded ops a.tmps)=true
def Wo (ops:Array Oper) (n:Nat) (L:Env) (o:Oper):Prop:=
  ∀ a,Good n a L→Region.wanted o (yielded ops a.tmps)=false
theorem wn {o:Oper}(h:o.guard=none):Wn ops n L o:=fun _ _=>by simp [Region.wanted,h]
def gh (ops:Array Oper) (j:Nat):Option Nat:=(ops.toList[j]?).bind (·.dst)
theorem oy {a j t b} (hg:Good n a L) (hd:gh ops j=some t) (hb:look L t=some (.bool b)):yielded ops a.tmps j=some b:=by
  have h:=hg.cov t _ hb
  have hd':(ops[j]?).bind (·.dst)=some t:=by simpa [gh] using hd
  simp only [yielded,hd',Option.bind_some]
  simp only [Array.getD_eq_getD_getElem?] at h
  cases ht:a.tmps[t]? with
  | none=>rw [ht] at h; simp [undef] at h
  | some v=>rw [ht] at h; simp at h; subst h; rfl
theorem wg {o:Oper}{j t b} (h:o.guard=some (j,b)) (hd:gh ops j=some t) (hb:look L t=some (.bool b)):Wn ops n L o:=fun _ hg=>by
  simp [Region.wanted,h,oy hg hd hb]
theorem wog {o:Oper}{j t b} (h:o.guard=some (j,!b)) (hd:gh ops j=some t) (hb:look L t=some (.bool b)):Wo ops n L o:=fun _ hg=>by
  simp [Region.wanted,h,oy hg hd hb]
theorem an {id l} (h:RL P n l.toArray Q l L w):W P n (.region id l.toArray false) Q L w:=fun a ha=>wp_region_lit (h a ha)
theorem aa (h:Q .normal L w):RL P n ops Q [] L w:=fun _ ha=>wpList_nil ⟨L,ha,h⟩
theorem am {o rest d v} (hw:Wn ops n L o) (hd:o.dst=some d) (hn:Nat.blt d n=true) (hp:Py P n L w o v)
    (k:RL P n ops Q rest ((d,v)::L) w):RL P n ops Q (o::rest) L w:=fun a ha=>wpList_step fun K hK=>by
  rw [if_pos (hw a ha)]
  unfold Oper.wp
  rw [hp a ha,Oper.upon_value,hd]
  exact hK _ _ (k _ (ha.put hn))
theorem mq {o rest d v w'} (hw:Wn ops n L o) (hd:o.dst=some d) (hn:Nat.blt d n=true) (hp:Pn P n L w o v w')
    (k:RL P n ops Q rest ((d,v)::L) w'):RL P n ops Q (o::rest) L w:=fun a ha=>wpList_step fun K hK=>by
  rw [if_pos (hw a ha)]
  unfold Oper.wp
  rw [hp a ha,Oper.upon_value,hd]
  exact hK _ _ (k _ (ha.put hn))
theorem we {o rest w'} (hw:Wn ops n L o) (hd:o.dst=none) (hp:Pd P n L w o w')
    (k:RL P n ops Q rest L w'):RL P n ops Q (o::rest) L w:=fun a ha=>wpList_step fun K hK=>by
  rw [if_pos (hw a ha)]
  unfold Oper.wp
  rw [hp a ha,Oper.upon_skip,hd]
  exact hK _ _ (k _ ha)
theorem tv {o rest d} (hw:Wo ops n L o) (hd:o.dst=some d) (hn:Nat.blt d n=true)
    (k:RL P n ops Q rest ((d,undef)::L) w):RL P n ops Q (o::rest) L w:=fun a ha=>wpList_step fun K hK=>by
  rw [if_neg (by rw [hw a ha]; simp),hd]
  exact hK _ _ (k _ (ha.put hn))
theorem BO {o rest} (hw:Wo ops n L o) (hd:o.dst=none)
    (k:RL P n ops Q rest L w):RL P n ops Q (o::rest) L w:=fun a ha=>wpList_step fun K hK=>by
  rw [if_neg (by rw [hw a ha]; simp),hd]
  exact hK _ _ (k _ ha)
theorem cY {o rest d f args R} (hw:Wn ops n L o) (hd:o.dst=some d) (hn:Nat.blt d n=true) (hp:Pc P n L w o f args)
    (hc:Ret P f args w R) (k:∀ v w',R v w'→RL P n ops Q rest ((d,v)::L) w'):RL P n ops Q (o::rest) L w:=fun a ha=>wpList_step fun K hK=>by
  rw [if_pos (hw a ha)]
  unfold Oper.wp
  rw [hp a ha,Oper.upon_enter,hd]
  refine Calls.mono hc fun e w' ⟨v,he,hR⟩=>?_
  subst he
  exact hK _ _ (k v w' hR _ (ha.put hn))
theorem cx {l t b} (hb:look L t=some (.bool b)) (h1:b=true→RL P n ops Q l ((t,.bool true)::L) w) (h2:b=false→RL P n ops Q l ((t,.bool false)::L) w) :
    RL P n ops Q l L w:=fun a ha=>by
  cases b
  · refine h2 rfl a ⟨ha.size,ha.defers,fun u v hu=>?_⟩
    unfold look at hu
    split at hu
    · rename_i hb'
      have:t=u:=Nat.eq_of_beq_eq_true hb'
      cases hu; subst this; exact ha.cov _ _ hb
    · exact ha.cov u v hu
  · refine h1 rfl a ⟨ha.size,ha.defers,fun u v hu=>?_⟩
    unfold look at hu
    split at hu
    · rename_i hb'
      have:t=u:=Nat.eq_of_beq_eq_true hb'
      cases hu; subst this; exact ha.cov _ _ hb
    · exact ha.cov u v hu
def open_ (listed:Array Bool):Prop:=∃ m,listed.getD m true=false
def wpG (P:Program) (ops:Array Oper) (Q:Exit→Act→World→Prop) (S:World→Prop):Nat→Array Bool→Act→World→Prop
  | 0,listed,a,w=>Region.ready .any ops listed=[]∧Q .normal a w
  | k+1,listed,a,w=>(Region.ready .any ops listed=[]→Q .normal a w) ∧
    ∀ i∈Region.ready .any ops listed,wpOp P ops Q i (fun a' w'=>(open_ (listed.setIfInBounds i true)→S w')∧wpG P ops Q S k (listed.setIfInBounds i true) a' w') a w
theorem x4 {P:Program}{ops:Array Oper}{Q:Exit→Act→World→Prop}{S:World→Prop}:∀ (k:Nat) (listed:Array Bool) (a:Act) (w:World),wpG P ops Q S k listed a w→wpAny P .any ops Q k listed a w
  | 0,_,_,_,h=>h
  | k+1,_,_,_,h=>⟨h.1,fun i hi=>wpOp_mono (fun a' w' h'=>x4 k _ a' w' h'.2) (h.2 i hi)⟩
def waits (ops:Array Oper) (listed:Array Bool) (i:Nat):Bool:=
  (List.range ops.size).any fun m => !(Nat.beq m i) && !(listed.getD m true) && match ops[m]? with
    | some o=>o.after.toList.any fun e=>Region.binds .any e && Nat.beq e.on i
    | none=>false
theorem wU {ops:Array Oper}{listed:Array Bool}{i:Nat}(h:waits ops listed i=true) :
    ∃ m o,ops[m]? = some o∧m≠i∧listed.getD m true=false∧∃ e∈o.after,Region.binds .any e=true∧e.on=i:=by
  unfold waits at h
  rw [List.any_eq_true] at h
  obtain ⟨m,_,h⟩:=h
  simp only [Bool.and_eq_true] at h
  obtain ⟨⟨h1,h2⟩,h3⟩:=h
  cases ho:ops[m]? with
  | none=>rw [ho] at h3; cases h3
  | some o=>
    rw [ho] at h3
    simp only [List.any_eq_true,Bool.and_eq_true] at h3
    obtain ⟨e,he,hb,hi⟩:=h3
    exact ⟨m,o,ho,fun e=>by subst e; simp at h1,by simpa using h2,e,by simpa using he,hb,Nat.eq_of_beq_eq_true hi⟩
theorem z8 {P:Program}{ops:Array Oper}{Q:Exit→Act→World→Prop}{S:World→Prop}{i:Nat}{o:Oper}{v:Value}(hi:ops[i]? = some o) (hs:Region.noSelect ops=true)
    (hQ:∀ c a w,Q (.panic c) (a.put o.dst v) w→Q (.panic c) a w) :
    ∀ (k:Nat) (listed:Array Bool) (a:Act) (w:World),
      (∀ j oj,ops[j]? = some oj→j≠i→listed.getD j true=false→(∀ e∈oj.after,Region.binds .any e=true→e.on≠i)→o.apart ops oj=true) →
      (∃ m om,ops[m]? = some om∧m≠i∧listed.getD m true=false∧∃ e∈om.after,Region.binds .any e=true∧e.on=i) →
      i∈Region.ready .any ops listed→YieldsIf P ops S o v a→S w →
      wpG P ops Q S k (listed.setIfInBounds i true) (a.put o.dst v) w→wpG P ops Q S (k+1) listed a w:=by
  intro k
  have hsel:=Region.noSelect_spec hs
  induction k with
  | zero=>
    intro listed a w _ _ hr hy hS H
    refine ⟨fun h=>absurd hr (by rw [h]; simp),fun j hj=>?_⟩
    by_cases hne:j=i
    · subst hne; exact hy.wpOp hi hS ⟨fun _=>hS,H⟩
    · have:=ready_mono hj hne
      rw [H.1] at this
      simp at this
  | succ k ih=>
    intro listed a w hfree hwait hr hy hS H
    refine ⟨fun h=>absurd hr (by rw [h]; simp),fun j hj=>?_⟩
    by_cases hne:j=i
    · subst hne; exact hy.wpOp hi hS ⟨fun _=>hS,H⟩
    · obtain ⟨hun,oj,hoj,hall⟩:=mem_ready.1 hj
      have hnot:∀ e∈oj.after,Region.binds .any e=true→e.on≠i:=by
        intro e he hb heq
        have h1:=hall e he hb
        have h0:=(mem_ready.1 hr).1
        rw [heq] at h1
        by_cases hsz:i<listed.size
        · simp [hsz] at h0 h1
          rw [h0] at h1
          cases h1
        · simp [Array.getElem?_eq_none (Nat.le_of_not_lt hsz)] at h1
      obtain ⟨m,om,hm,hmi,hmu,e,he,heb,hei⟩:=hwait
      have hmj:m≠j:=fun e'=>by subst e'; rw [hoj] at hm; cases hm; exact hnot e he heb hei
      have hmu':(listed.setIfInBounds j true).getD m true=false:=by rw [getD_set_ne true (Ne.symm hmj)]; exact hmu
      have h2:=wpOp_putIf hoj (hfree j oj hoj hne hun hnot) (fun cs b=>hsel i o cs b hi) (fun cs b=>hsel j oj cs b hoj) hQ hy (H.2 j (ready_mono hj hne))
      refine wpOp_mono (fun a' w' h3=>?_) h2
      obtain ⟨hy',hS',hG⟩:=h3
      have hSw:S w':=hS' ⟨m,by rw [getD_set_ne true (Ne.symm hmj),getD_set_ne true (Ne.symm hmi)]; exact hmu⟩
      refine ⟨fun _=>hSw,ih (listed.setIfInBounds j true) a' w' (fun q oq hq hqi hqu hqn=>?_) ⟨m,om,hm,hmi,hmu',e,he,heb,hei⟩ (ready_mono hr (Ne.symm hne)) hy' hSw ?_⟩
      · refine hfree q oq hq hqi ?_ hqn
        by_cases hjq:j=q
        · subst hjq; exact hun
        · rw [getD_set_ne true hjq] at hqu; exact hqu
      · rw [Array.setIfInBounds_comm _ _ hne]
        exact hG
def heads (N:Nat) (rec:List (Nat × Bool)→Array Bool→Bool) (listed:Array Bool):List Nat→List (Nat × Bool)→Bool
  | [x],(i,p)::r=>Nat.beq i x && !p && Nat.blt i N && rec r (listed.setIfInBounds x true)
  | x :: y::t,(k,p)::r => !p && Nat.ble N k && (match r.take (k-1000) with
      | (i,q)::r1=>Nat.beq i x && !q && Nat.blt i N && rec r1 (listed.setIfInBounds x true)
      | []=>false) && heads N rec listed (y::t) (r.drop (k-1000))
  | _,_=>false
def po (ops:Array Oper):Nat→List (Nat × Bool)→Array Bool→Bool
  | _,[],listed=>(Region.ready .any ops listed).isEmpty && listed.all id
  | m+1,(i,true)::r,listed=>Region.free .any ops listed i && (Region.ready .any ops listed).contains i && waits ops listed i && po ops m r (listed.setIfInBounds i true)
  | m+1,(i,false)::r,listed=>heads ops.size (po ops m) listed (Region.ready .any ops listed) ((i,false)::r)
  | _,_,_=>false
def DL (P:Program) (n:Nat) (ops:Array Oper) (Q:Post) (S:World→Prop) (l:List (Nat × Bool)) (L:Env) (w:World):Prop:=
  Region.noSelect ops=true→∀ a,Good n a L→(l≠[]→S w)→∀ (m:Nat) (listed:Array Bool) (fuel:Nat),m≤fuel →
    (po ops m l listed=true→wpG P ops (lift n Q) S fuel listed a w) ∧
    (∀ av,heads ops.size (po ops m) listed av l=true→∀ j∈av,wpOp P ops (lift n Q) j (fun a' w'=>(open_ (listed.setIfInBounds j true)→S w')∧wpG P ops (lift n Q) S fuel (listed.setIfInBounds j true) a' w') a w)
theorem vV {c d v w} {a:Act}(h:lift n Q (.panic c) (a.put d v) w):lift n Q (.panic c) a w:=h.elim
variable {S:World→Prop}
theorem bx {id:Nat}(l:List (Nat × Bool)) (hm:P.follows .mixedOrders=true) (hc:po ops ops.size l (Array.replicate ops.size false)=true) (hs:Region.noSelect ops=true) (_:true=true)
  (hS:∀ k,S { w with drawn:=k }) (h:∀ k,DL P n ops Q S l L { w with drawn:=k }):W P n (.region id ops true) Q L w:=fun a ha=>
 wp_region_any hm (x4 _ _ _ _ ((h _ hs a ha (fun _=>hS _) ops.size _ ops.size (Nat.le_refl _)).1 hc))
theorem xv {m listed} (hc:po ops m [] listed=true):Region.ready .any ops listed=[]∧¬ open_ listed:=by
  have hc:((Region.ready .any ops listed).isEmpty && listed.all id)=true:=by cases m<;>exact hc
  simp only [Bool.and_eq_true] at hc
  refine ⟨by simpa using hc.1,fun ⟨m,hm⟩=>?_⟩
  have h2:=hc.2
  rw [Array.all_eq_true_iff_forall_mem] at h2
  by_cases hlt:m<listed.size
  · have:=h2 listed[m] (Array.getElem_mem hlt)
    simp [hlt] at hm
    simp [hm] at this
  · simp [Array.getElem?_eq_none (Nat.le_of_not_lt hlt)] at hm
theorem yz {N rec listed av} (h:heads N rec listed av []=true):False:=by
  unfold heads at h
  split at h<;>simp_all
theorem aW (h:Q .normal L w):DL P n ops Q S [] L w:=fun _ a ha hS m listed fuel _=>⟨fun hc=>by
  have h1:=(xv hc).1
  cases fuel with
  | zero=>exact ⟨h1,⟨L,ha,h⟩⟩
  | succ k=>exact ⟨fun _=>⟨L,ha,h⟩,by rw [h1]; simp⟩,fun av hh=>(yz hh).elim⟩
private theorem Bq {N rec listed av i r} (h:heads N rec listed av ((i,true)::r)=true):False:=by
  unfold heads at h
  split at h<;>simp_all
private theorem xD {i rest o d v} (hi:ops.toList[i]? = some o) (hd:o.dst=some d) (hn:Nat.blt d n=true) (hy:∀ a,Good n a L→YieldsIf P ops S o v a)
    (k:DL P n ops Q S rest ((d,v)::L) w):DL P n ops Q S ((i,true)::rest) L w:=fun hs a ha hS m listed fuel hf=>⟨fun hc=>by
  cases m with
  | zero=>simp [po] at hc
  | succ m=>
    unfold po at hc
    simp only [Bool.and_eq_true] at hc
    obtain ⟨⟨⟨h1,h2⟩,h3⟩,h4⟩:=hc
    cases fuel with
    | zero=>simp at hf
    | succ fuel=>
      have hi':ops[i]? = some o:=by simpa using hi
      refine z8 hi' hs (fun _ _ _ h=>vV h) fuel listed a w (Region.free_spec hi' h1) (wU h3) (by simpa using h2) (hy a ha) (hS σ) ?_
      rw [hd]
      exact (k hs _ (ha.put hn) (fun _=>hS σ) m _ fuel ω).1 h4,fun av hh=>(Bq hh).elim⟩
theorem ay {i rest o d v} (hi:ops.toList[i]? = some o) (hw:Wn ops n L o) (hd:o.dst=some d) (hn:Nat.blt d n=true) (hp:∀ x,S x→Py P n L x o v)
    (k:DL P n ops Q S rest ((d,v)::L) w):DL P n ops Q S ((i,true)::rest) L w:=
  xD hi hd hn (fun a ha => .inl ⟨hw a ha,fun x hx=>hp x hx a ha⟩) k
theorem cb {i rest o d} (hi:ops.toList[i]? = some o) (hw:Wo ops n L o) (hd:o.dst=some d) (hn:Nat.blt d n=true)
    (k:DL P n ops Q S rest ((d,undef)::L) w):DL P n ops Q S ((i,true)::rest) L w:=
  xD hi hd hn (fun a ha => .inr ⟨hw a ha,rfl⟩) k
private theorem CU {i rest} (h:Region.noSelect ops=true→∀ a,Good n a L→S w→∀ (m:Nat) (listed:Array Bool) (fuel:Nat),m≤fuel→∀ av,heads ops.size (po ops m) listed av ((i,false)::rest)=true →
      ∀ j∈av,wpOp P ops (lift n Q) j (fun a' w'=>(open_ (listed.setIfInBounds j true)→S w')∧wpG P ops (lift n Q) S fuel (listed.setIfInBounds j true) a' w') a w) :
    DL P n ops Q S ((i,false)::rest) L w:=fun hs a ha hS m listed fuel hf=>⟨fun hc=>by
  cases m with
  | zero=>simp [po] at hc
  | succ m=>
    unfold po at hc
    cases fuel with
    | zero=>simp at hf
    | succ fuel=>
      refine ⟨fun e=>?_,h hs a ha (hS σ) m listed fuel ω _ hc⟩
      rw [e] at hc
      simp [heads] at hc,h hs a ha (hS σ) m listed fuel hf⟩
private theorem xJ {i rest o} (hi:ops.toList[i]? = some o)
    (h:S w→∀ a,Good n a L→∀ K:Act→World→Prop,(∀ a' w' L',Good n a' L'→DL P n ops Q S rest L' w'→(rest≠[]→S w')→K a' w') →
      if Region.wanted o (yielded ops a.tmps) then o.wp P a w K (lift n Q)∨(o.asks P a w∧LetsOut (lift n Q)) else K (a.put o.dst undef) w) :
    DL P n ops Q S ((i,false)::rest) L w:=CU fun hs a ha hSw m listed fuel hf av hh j hj=>by
  have hx:av=[i]∧po ops m rest (listed.setIfInBounds i true)=true:=by
    unfold heads at hh
    split at hh
    · rename_i x i' p' r' e
      simp only [List.cons.injEq,Prod.mk.injEq] at e
      obtain ⟨⟨rfl,rfl⟩,rfl⟩:=e
      simp only [Bool.and_eq_true] at hh
      have hx:_=x:=Nat.eq_of_beq_eq_true hh.1.1.1
      subst hx
      exact ⟨rfl,hh.2⟩
    · rename_i k' p' r' e
      simp only [List.cons.injEq,Prod.mk.injEq] at e
      obtain ⟨⟨rfl,rfl⟩,rfl⟩:=e
      simp only [Bool.and_eq_true] at hh
      have hk:=Nat.le_of_ble_eq_true hh.1.1.2
      have hlt:i<ops.size:=by
        have h2:ops[i]? = some o:=by simpa using hi
        exact (Array.getElem?_eq_some_iff.1 h2).1
      omega
    · cases hh
  obtain ⟨rfl,h3⟩:=hx
  obtain rfl:j=i:=by simpa using hj
  unfold wpOp
  have hi':ops[j]? = some o:=by simpa using hi
  simp only [hi']
  refine h hSw a ha _ fun a' w' L' hg' hk hS'=>⟨fun ho=>?_,(hk hs _ hg' hS' m _ fuel hf).1 h3⟩
  cases rest with
  | nil=>exact absurd ho (xv h3).2
  | cons x r=>exact hS' σ
theorem Cs {l l1 l2:List (Nat × Bool)}(hN:Nat.ble ops.size 1000=true) (e:l=(1000+l1.length,false)::(l1++l2)) (hl1:l1.isEmpty=false) (hl2:l2.isEmpty=false) (h1:DL P n ops Q S l1 L w) (h2:DL P n ops Q S l2 L w):DL P n ops Q S l L w:=by
  subst e
  refine CU fun hs a ha hSw m listed fuel hf av hh j hj=>?_
  have hN:=Nat.le_of_ble_eq_true hN
  unfold heads at hh
  split at hh
  · rename_i x i' p' r' e
    simp only [List.cons.injEq,Prod.mk.injEq] at e
    obtain ⟨⟨rfl,rfl⟩,rfl⟩:=e
    simp only [Bool.and_eq_true] at hh
    have:=Eq.mp Nat.blt_eq hh.1.2
    omega
  · rename_i x y t k' p' r' e
    simp only [List.cons.injEq,Prod.mk.injEq] at e
    obtain ⟨⟨rfl,rfl⟩,rfl⟩:=e
    rw [Nat.add_sub_cancel_left,List.take_left,List.drop_left] at hh
    simp only [Bool.and_eq_true] at hh
    obtain ⟨⟨_,h3⟩,h4⟩:=hh
    rcases List.mem_cons.1 hj with rfl | hj
    · cases l1 with
      | nil=>simp at hl1
      | cons hd r1=>
        obtain ⟨i,q⟩:=hd
        refine (h1 hs a ha (fun _=>hSw) m listed fuel hf).2 [j] ?_ j σ
        unfold heads
        exact h3
    · exact (h2 hs a ha (fun _=>hSw) m listed fuel hf).2 _ h4 j hj
  · cases hh
theorem mo {i rest o d v w'} (hi:ops.toList[i]? = some o) (hw:Wn ops n L o) (hd:o.dst=some d) (hn:Nat.blt d n=true) (hp:Pn P n L w o v w') (hS:S w→rest≠[]→S w')
    (k:DL P n ops Q S rest ((d,v)::L) w'):DL P n ops Q S ((i,false)::rest) L w:=xJ hi fun hSw a ha K hK=>by
  rw [if_pos (hw a ha)]
  unfold Oper.wp
  rw [hp a ha,Oper.upon_value,hd]
  exact .inl (hK _ _ _ (ha.put hn) k (hS hSw))
theorem aU {i rest o d v} (hi:ops.toList[i]? = some o) (hw:Wn ops n L o) (hd:o.dst=some d) (hn:Nat.blt d n=true) (hp:Py P n L w o v)
    (k:DL P n ops Q S rest ((d,v)::L) w):DL P n ops Q S ((i,false)::rest) L w:=mo hi hw hd hn hp (fun h _=>h) k
theorem x9 {i rest o w'} (hi:ops.toList[i]? = some o) (hw:Wn ops n L o) (hd:o.dst=none) (hp:Pd P n L w o w') (hS:S w→rest≠[]→S w')
    (k:DL P n ops Q S rest L w'):DL P n ops Q S ((i,false)::rest) L w:=xJ hi fun hSw a ha K hK=>by
  rw [if_pos (hw a ha)]
  unfold Oper.wp
  rw [hp a ha,Oper.upon_skip,hd]
  exact .inl (hK _ _ _ ha k (hS hSw))
theorem Bv {i rest o d} (hi:ops.toList[i]? = some o) (hw:Wo ops n L o) (hd:o.dst=some d) (hn:Nat.blt d n=true)
    (k:DL P n ops Q S rest ((d,undef)::L) w):DL P n ops Q S ((i,false)::rest) L w:=xJ hi fun hSw a ha K hK=>by
  rw [if_neg (by rw [hw a ha]; simp),hd]
  exact hK _ _ _ (ha.put hn) k (fun _=>hSw)
theorem bD {i rest o d f args R} (hi:ops.toList[i]? = some o) (hw:Wn ops n L o) (hd:o.dst=some d) (hn:Nat.blt d n=true) (hp:Pc P n L w o f args)
    (hc:Ret P f args w R) (hS:S w→∀ v w',R v w'→rest≠[]→S w') (k:∀ v w',R v w'→DL P n ops Q S rest ((d,v)::L) w'):DL P n ops Q S ((i,false)::rest) L w:=xJ hi fun hSw a ha K hK=>by
  rw [if_pos (hw a ha)]
  unfold Oper.wp
  rw [hp a ha,Oper.upon_enter,hd]
  refine .inl (Calls.mono hc fun e w' ⟨v,he,hR⟩=>?_)
  subst he
  exact hK _ _ _ (ha.put hn) (k v w' hR) (hS hSw v w' hR)
theorem bY {l t b} (hb:look L t=some (.bool b)) (h1:b=true→DL P n ops Q S l ((t,.bool true)::L) w) (h2:b=false→DL P n ops Q S l ((t,.bool false)::L) w) :
    DL P n ops Q S l L w:=fun hs a ha=>by
  have hg:Good n a ((t,.bool b)::L):=⟨ha.size,ha.defers,fun u v hu=>by
    unfold look at hu
    split at hu
    · rename_i hb'
      have:t=u:=Nat.eq_of_beq_eq_true hb'
      cases hu; subst this; exact ha.cov _ _ hb
    · exact ha.cov u v hu⟩
  cases b
  · exact h2 rfl hs a hg
  · exact h1 rfl hs a hg
end
end Go.Wk
namespace Go.Wk
section
variable {P:Program}{n:Nat}{ops:Array Oper}{Q:Post}{L:Env}{w:World}{d:Tmp}{ty:TypeId}{p:String}{af:Array Edge}{op:Op}{v:Value}{S:World→Prop}{i:Nat}
theorem sV {rest:List Oper}(hn:Nat.blt d n=true) (hp:Py P n L w ⟨some d,op,ty,p,af,none⟩ v) (k:RL P n ops Q rest ((d,v)::L) w):RL P n ops Q (⟨some d,op,ty,p,af,none⟩::rest) L w:=am (wn rfl) rfl hn hp k
theorem dV {rest:List (Nat × Bool)}(hi:ops.toList[i]? = some ⟨some d,op,ty,p,af,none⟩) (hn:Nat.blt d n=true) (hp:∀ x,S x→Py P n L x ⟨some d,op,ty,p,af,none⟩ v) (k:DL P n ops Q S rest ((d,v)::L) w):DL P n ops Q S ((i,true)::rest) L w:=ay hi (wn rfl) rfl hn hp k
theorem ah {id:Nat}{l:List Oper}{y:Code}(h:RL P n l.toArray (thn P n y Q) l L w):W P n (.seq (.region id l.toArray false) y) Q L w:=ae (an h)
theorem sM {x:Operand}{rest:List Oper}(hn:Nat.blt d n=true) (h:evL L x=some v) (k:RL P n ops Q rest ((d,v)::L) w):RL P n ops Q (⟨some d,.move x,ty,p,af,none⟩::rest) L w:=sV hn (fun a ha=>by simp [execOp,ha.eval h]) k
theorem sA {x:Operand}{rest:List Oper}(hn:Nat.blt d n=true) (h:evL L x=some v) (k:RL P n ops Q rest ((d,v)::L) w):RL P n ops Q (⟨some d,.assign x,ty,p,af,none⟩::rest) L w:=sV hn (fun a ha=>by simp [execOp,ha.eval h]) k
theorem sZ {x:Operand}(hn:Nat.blt d n=true) (h:evL L x=some v) (k:Q .normal ((d,v)::L) w):RL P n ops Q [⟨some d,.assign x,ty,p,af,none⟩] L w:=sA hn h (aa k)
theorem dM {x:Operand}{rest:List (Nat × Bool)}(hi:ops.toList[i]? = some ⟨some d,.move x,ty,p,af,none⟩) (hn:Nat.blt d n=true) (h:evL L x=some v) (k:DL P n ops Q S rest ((d,v)::L) w):DL P n ops Q S ((i,true)::rest) L w:=dV hi hn (fun _ _ a ha=>by simp [execOp,ha.eval h]) k
theorem dKt {j t:Nat}{rest:List (Nat × Bool)}(hi:ops.toList[i]? = some ⟨some d,op,ty,p,af,some (j,false)⟩) (hd:gh ops j=some t) (hb:look L t=some (.bool true)) (hn:Nat.blt d n=true) (k:DL P n ops Q S rest ((d,undef)::L) w):DL P n ops Q S ((i,true)::rest) L w:=cb hi (wog (b:=true) rfl hd hb) rfl hn k
theorem dKf {j t:Nat}{rest:List (Nat × Bool)}(hi:ops.toList[i]? = some ⟨some d,op,ty,p,af,some (j,true)⟩) (hd:gh ops j=some t) (hb:look L t=some (.bool false)) (hn:Nat.blt d n=true) (k:DL P n ops Q S rest ((d,undef)::L) w):DL P n ops Q S ((i,true)::rest) L w:=cb hi (wog (b:=false) rfl hd hb) rfl hn k
theorem sKt {j t:Nat}{rest:List Oper}(hd:gh ops j=some t) (hb:look L t=some (.bool true)) (hn:Nat.blt d n=true) (k:RL P n ops Q rest ((d,undef)::L) w):RL P n ops Q (⟨some d,op,ty,p,af,some (j,false)⟩::rest) L w:=tv (wog (b:=true) rfl hd hb) rfl hn k
theorem sKf {j t:Nat}{rest:List Oper}(hd:gh ops j=some t) (hb:look L t=some (.bool false)) (hn:Nat.blt d n=true) (k:RL P n ops Q rest ((d,undef)::L) w):RL P n ops Q (⟨some d,op,ty,p,af,some (j,true)⟩::rest) L w:=tv (wog (b:=false) rfl hd hb) rfl hn k
theorem rT {fn:Func}{R:Value→World→Prop}{t:Nat}(hQ:∀ L w,fin P fn R .ret L w→Q .ret L w) (hr:fn.results = #[.tmp t]) (hv:look L t=some v) (h:R v w):W P n .ret Q L w:=bw (hQ _ _ (DD hr hv h))
theorem ak {o:Oper}(h:o.guard=none:=by exact rfl):Wn ops n L o:=wn h
abbrev NG (f:Func):Prop:=(f.name == "runtime.NumGoroutine")=false
theorem lNA {α:Type _}{xs:List α}:[]++xs=xs:=rfl
theorem lCA {α:Type _}{a:α}{xs ys:List α}:(a::xs)++ys=a::(xs++ys):=rfl
theorem lSZ {α:Type _}{a b:α}{xs:List α}:(a::xs).set 0 b=b::xs:=rfl
theorem lSS {α:Type _}{a b:α}{k:Nat}{xs:List α}:(a::xs).set (k+1) b=a::xs.set k b:=rfl
end
end Go.Wk
namespace Go.Wk
section
variable {P:Program}{n:Nat}{L:Env}{w:World}{d:Option Tmp}{ty:TypeId}{p:String}{af:Array Edge}{g:Option (Nat × Bool)}
theorem aF {x v} (hx:evL L x=some v):Py P n L w ⟨d,.move x,ty,p,af,g⟩ v:=fun a ha=>by simp [execOp,ha.eval hx]
theorem bl {x v} (hx:evL L x=some v):Py P n L w ⟨d,.assign x,ty,p,af,g⟩ v:=fun a ha=>by simp [execOp,ha.eval hx]
theorem aG {c x y v} (hc:evL L c=some (.bool true)) (hx:evL L x=some v):Py P n L w ⟨d,.pick c x y,ty,p,af,g⟩ v:=fun a ha=>by
  simp [execOp,ha.eval hx,ha.eval hc,asBool]
theorem aJ {c x y v} (hc:evL L c=some (.bool false)) (hy:evL L y=some v):Py P n L w ⟨d,.pick c x y,ty,p,af,g⟩ v:=fun a ha=>by
  simp [execOp,ha.eval hy,ha.eval hc,asBool]
theorem bf {x b xt} (hx:evL L x=some (.bool b)):Py P n L w ⟨d,.unOp .not xt x,ty,p,af,g⟩ (.bool !b):=fun a ha=>by
  simp [execOp,ha.eval hx,Op.unary]
theorem jq {x xt q} [i:Decidable q] (hx:evL L x=some (.bool (@decide q i))):Py P n L w ⟨d,.unOp .not xt x,ty,p,af,g⟩ (.bool (decide (¬ q))):=fun a ha=>by
  simp [execOp,ha.eval hx,Op.unary]
section ints
variable {k:IntKind}{x y:Operand}{i j:Int}{xt yt:TypeId}
theorem aC (hx:evL L x=some (.int k i)) (hy:evL L y=some (.int k j)) (h:k.wrap (i+j)=i+j):Py P n L w ⟨d,.binOp .add xt x y yt,ty,p,af,g⟩ (.int k (i+j)):=fun a ha=>by
  simp [execOp,ha.eval hx,ha.eval hy,eqGuard,binOp,Op.intArith,h]
theorem bJ (hx:evL L x=some (.int k i)) (hy:evL L y=some (.int k j)) (h:k.wrap (i-j)=i-j):Py P n L w ⟨d,.binOp .sub xt x y yt,ty,p,af,g⟩ (.int k (i-j)):=fun a ha=>by
  simp [execOp,ha.eval hx,ha.eval hy,eqGuard,binOp,Op.intArith,h]
theorem iN (hx:evL L x=some (.int k i)) (hy:evL L y=some (.int k j)) (h:k.wrap (i*j)=i*j):Py P n L w ⟨d,.binOp .mul xt x y yt,ty,p,af,g⟩ (.int k (i*j)):=fun a ha=>by
  simp [execOp,ha.eval hx,ha.eval hy,eqGuard,binOp,Op.intArith,h]
theorem BN (hx:evL L x=some (.int k i)) (hy:evL L y=some (.int k j)):Py P n L w ⟨d,.binOp .add xt x y yt,ty,p,af,g⟩ (.int k (k.wrap (i+j))):=fun a ha=>by
  simp [execOp,ha.eval hx,ha.eval hy,eqGuard,binOp,Op.intArith]
theorem wV (hx:evL L x=some (.int k i)) (hy:evL L y=some (.int k j)) (h0:j≠0) (h:k.wrap (i.tdiv j)=i.tdiv j):Py P n L w ⟨d,.binOp .quo xt x y yt,ty,p,af,g⟩ (.int k (i.tdiv j)):=fun a ha=>by
  simp [execOp,ha.eval hx,ha.eval hy,eqGuard,binOp,Op.intDiv,h,h0]
theorem qz (hx:evL L x=some (.int k i)) (hy:evL L y=some (.int k j)) (h0:j≠0):Py P n L w ⟨d,.binOp .rem xt x y yt,ty,p,af,g⟩ (.int k (i.tmod j)):=fun a ha=>by
  simp [execOp,ha.eval hx,ha.eval hy,eqGuard,binOp,Op.intDiv,h0]
theorem bH (hx:evL L x=some (.int k i)) (hy:evL L y=some (.int k j)):Py P n L w ⟨d,.binOp .eql xt x y yt,ty,p,af,g⟩ (.bool (decide (i=j))):=fun a ha=>by
  simp [execOp,ha.eval hx,ha.eval hy,eqGuard,binOp,Op.intCmp]
  rfl
theorem cn (hx:evL L x=some (.int k i)) (hy:evL L y=some (.int k j)):Py P n L w ⟨d,.binOp .neq xt x y yt,ty,p,af,g⟩ (.bool (decide (i≠j))):=fun a ha=>by
  simp [execOp,ha.eval hx,ha.eval hy,eqGuard,binOp,Op.intCmp,bne,BEq.beq]
theorem ba (hx:evL L x=some (.int k i)) (hy:evL L y=some (.int k j)):Py P n L w ⟨d,.binOp .lss xt x y yt,ty,p,af,g⟩ (.bool (decide (i<j))):=fun a ha=>by
  simp [execOp,ha.eval hx,ha.eval hy,eqGuard,binOp,Op.intCmp]
theorem ot (hx:evL L x=some (.int k i)) (hy:evL L y=some (.int k j)):Py P n L w ⟨d,.binOp .leq xt x y yt,ty,p,af,g⟩ (.bool (decide (i≤j))):=fun a ha=>by
  simp [execOp,ha.eval hx,ha.eval hy,eqGuard,binOp,Op.intCmp]
theorem dG (hx:evL L x=some (.int k i)) (hy:evL L y=some (.int k j)):Py P n L w ⟨d,.binOp .gtr xt x y yt,ty,p,af,g⟩ (.bool (decide (j<i))):=fun a ha=>by
  simp [execOp,ha.eval hx,ha.eval hy,eqGuard,binOp,Op.intCmp]
theorem mD (hx:evL L x=some (.int k i)) (hy:evL L y=some (.int k j)):Py P n L w ⟨d,.binOp .geq xt x y yt,ty,p,af,g⟩ (.bool (decide (j≤i))):=fun a ha=>by
  simp [execOp,ha.eval hx,ha.eval hy,eqGuard,binOp,Op.intCmp]
theorem CE {k2:IntKind}(hx:evL L x=some (.int k i)) (hy:evL L y=some (.int k2 j)) (h0:0≤j):Py P n L w ⟨d,.binOp .shr xt x y yt,ty,p,af,g⟩ (.int k (i.fdiv (2^min j.toNat k.bits))):=fun a ha=>by
  simp [execOp,ha.eval hx,ha.eval hy,eqGuard,binOp,Op.shift,show ¬ j<0 from by omega]
theorem hJ {k2:IntKind}{src dst:TypeId}{td} (hs:P.underlying src=some td) (hd:P.underlying dst=some (.int k2)) (hx:evL L x=some (.int k i)) (h:k2.wrap i=i) :
    Py P n L w ⟨d,.convert src dst x,ty,p,af,g⟩ (.int k2 i):=fun a ha=>by
  simp [execOp,ha.eval hx,convert,run_underlying hs,run_underlying hd,Conv.intToInt,h]
theorem zx {k2:IntKind}{src dst:TypeId}{td} (hs:P.underlying src=some td) (hd:P.underlying dst=some (.int k2)) (hx:evL L x=some (.int k i)) :
    Py P n L w ⟨d,.convert src dst x,ty,p,af,g⟩ (.int k2 (k2.wrap i)):=fun a ha=>by
  simp [execOp,ha.eval hx,convert,run_underlying hs,run_underlying hd,Conv.intToInt]
end ints
section strs
variable {x y:Operand}{s t:ByteArray}{xt yt:TypeId}
theorem lJ (hx:evL L x=some (.string s)) (hy:evL L y=some (.string t)):Py P n L w ⟨d,.binOp .eql xt x y yt,ty,p,af,g⟩ (.bool (s.toList == t.toList)):=fun a ha=>by
  simp [execOp,ha.eval hx,ha.eval hy,eqGuard,binOp,Op.stringOp]
theorem np {at0:TypeId}(hu:P.underlying at0=some .string) (hx:evL L x=some (.string s)) :
    Py P n L w ⟨d,.call ⟨.builtin .len,#[x],#[at0]⟩,ty,p,af,g⟩ (.int .i64 s.size):=fun a ha=>by
  simp [execOp,resolve,invoke,builtin,Builtin.len_,ha.eval hx,run_underlying hu,goInt]
def _root_.Go.Wk.gB (s:ByteArray) (k:Nat):UInt8:=if h:k<s.size then s[k] else 0
theorem fi {at0:TypeId}{ix:Operand}{kd:IntKind}{z:Int}(hu:P.underlying at0=some .string) (hx:evL L x=some (.string s)) (hi:evL L ix=some (.int kd z)) (k:Nat) (hz:z=k) (hk:k<s.size) :
    Py P n L w ⟨d,.index at0 x ix,ty,p,af,g⟩ (.int .u8 (gB s k).toNat):=fun a ha=>by
  subst hz
  have h0:(0:Int)≤(k:Int):=by omega
  have h2:s[k]? = some (s[k]'hk):=by simp [hk]
  have h3:gB s k=s[k]'hk:=by simp [gB,hk]
  simp [execOp,ha.eval hx,ha.eval hi,Instr.index,asIntOf,run_underlying hu,h2,h3]
end strs
section bools
variable {x y:Operand}{b c:Bool}{xt yt:TypeId}
end bools
theorem aN {at0:TypeId}{x:Operand}{e:TypeId}{ad:Option Addr}{len cap:Nat}(hu:P.underlying at0=some (.slice e)) (hx:evL L x=some (.slice ad len cap)) :
    Py P n L w ⟨d,.call ⟨.builtin .len,#[x],#[at0]⟩,ty,p,af,g⟩ (.int .i64 len):=fun a ha=>by
  simp [execOp,resolve,invoke,builtin,Builtin.len_,ha.eval hx,run_underlying hu,goInt]
theorem gZ (b o m:Nat):(⟨b,o,none⟩:Addr).add m=⟨b,o+m,none⟩:=by
  unfold Addr.add; split<;>simp_all
theorem CI {st e:TypeId}{x ix:Operand}{b o len cap k sz:Nat}{kd:IntKind}(hu:P.underlying st=some (.slice e)) (hs:∀ w,(sizeOf e).run P w = .ok sz w)
    (hx:evL L x=some (.slice (some ⟨b,o,none⟩) len cap)) (hi:evL L ix=some (.int kd k)) (hk:k<len) :
    Py P n L w ⟨d,.indexAddr st x ix,ty,p,af,g⟩ (.pointer (some ⟨b,o+k*sz,none⟩)):=fun a ha=>by
  simp [execOp,ha.eval hx,ha.eval hi,Instr.indexAt,asIntOf,run_underlying hu,hs,hk,gZ]
theorem ab {s:TypeId}{fs:Array Field}{x:Operand}{b o i sz off:Nat}{f:Field}(hu:P.underlying s=some (.struct fs)) (hf:fs[i]? = some f) (hs:∀ w,(sizeOf f.type).run P w = .ok (sz+1) w)
    (hx:evL L x=some (.pointer (some ⟨b,o,none⟩))) (ho:o+f.offset=off):Py P n L w ⟨d,.fieldAddr s x i,ty,p,af,g⟩ (.pointer (some ⟨b,off,none⟩)):=fun a ha=>by
  subst ho
  simp [execOp,ha.eval hx,Instr.fieldAt,Instr.sureAddr,run_underlying hu,hf,fieldPlace,hs,gZ]
theorem gg {x:Operand}{ad:Addr}(hx:evL L x=some (.pointer (some ad))):Py P n L w ⟨d,.nilCheck x,ty,p,af,g⟩ (.pointer (some ad)):=fun a ha=>by
  simp [execOp,ha.eval hx]
theorem pB {x:Operand}{vs:Array Value}{i v} (hx:evL L x=some (.tuple vs)) (hv:vs[i]? = some v):Py P n L w ⟨d,.extract x i,ty,p,af,g⟩ v:=fun a ha=>by
  simp [execOp,ha.eval hx,Instr.extract,hv]
def single:TypeDesc→Bool
  | .struct _ | .array _ _=>false
  | _=>true
theorem lT {t td} (hu:P.underlying t=some td) (w:World):(isAgg t).run P w = .ok (!single td) w:=by
  cases td<;>simp [isAgg,run_underlying hu,single]
theorem yv {ad:Addr}{v} (hc:w.cell? ad=some v):(load ad).run P w = .ok v w:=by
  simp [load,Sem.run,hc]
theorem te {t td} {ad:Addr}{v} (hu:P.underlying t=some td) (h1:single td=true) (hc:w.cell? ad=some v):(loadVar t ad).run P w = .ok v w:=by
  simp [loadVar,lT hu,h1,load,Sem.run,hc]
theorem ac {t td} {x:Operand}{ad:Addr}{v} (hu:P.underlying t=some td) (h1:single td=true) (hx:evL L x=some (.pointer (some ad))) (hc:w.cell? ad=some v) :
    Py P n L w ⟨d,.load t x,ty,p,af,g⟩ v:=fun a ha=>by
  simp [execOp,ha.eval hx,Instr.loadAt,Instr.sureAddr,te hu h1 hc]
theorem lW {b o:Nat}{c:Array Value}{T fr v} (hb:w.heap[b]? = some (.cells c T fr)) (hv:c[o]? = some v):w.cell? ⟨b,o,none⟩=some v:=by
  simp [World.cell?,hb,hv]
theorem aj {b o:Nat}{cs:List Value}{T fr v} (hb:w.heap[b]? = some (.cells cs.toArray T fr)) (hv:cs[o]? = some v):w.cell? ⟨b,o,none⟩=some v:=
  lW hb (by simpa using hv)
def At (w:World) (b o:Nat) (cs:List Value):Prop:=∀ j v,cs[j]? = some v→w.cell? ⟨b,o+j,none⟩=some v
theorem fZ:∀ (cs:List Value) (b o i:Nat) (acc:Array Value),At w b (o+i) cs→(loadCellsFrom ⟨b,o,none⟩ i cs.length acc).run P w = .ok (acc++cs.toArray) w
  | [],b,o,i,acc,_=>by simp [loadCellsFrom]
  | v::cs,b,o,i,acc,h=>by
    have h0:w.cell? ⟨b,o+i,none⟩=some v:=by simpa using h 0 v rfl
    have ih:=fZ cs b o (i+1) (acc.push v) (fun j u hj=>by
      have:=h (j+1) u (by simpa using hj)
      rwa [show o+(i+1)+j=o+i+(j+1) from by omega])
    simp [loadCellsFrom,gZ,yv h0,ih]
theorem aA {t td} {b o:Nat}{cs:List Value}{sz} (hu:P.underlying t=some td) (h1:single td=false) (hs:∀ w,(sizeOf t).run P w = .ok sz w) (hl:cs.length=sz) (hc:At w b o cs) :
    (loadVar t ⟨b,o,none⟩).run P w = .ok (.agg cs.toArray) w:=by
  have:=fZ (P:=P) cs b o 0 #[] (by simpa using hc)
  subst hl
  simp [loadVar,lT hu,h1,hs,loadCells,this]
theorem al {t td} {x:Operand}{b o:Nat}{cs:List Value}{sz} (hu:P.underlying t=some td) (h1:single td=false) (hs:∀ w,(sizeOf t).run P w = .ok sz w) (hx:evL L x=some (.pointer (some ⟨b,o,none⟩)))
    (hl:cs.length=sz) (hc:At w b o cs):Py P n L w ⟨d,.load t x,ty,p,af,g⟩ (.agg cs.toArray):=fun a ha=>by
  simp [execOp,ha.eval hx,Instr.loadAt,Instr.sureAddr,aA hu h1 hs hl hc]
theorem At.whole {b:Nat}{cs:List Value}{T fr} (hb:w.heap[b]? = some (.cells cs.toArray T fr)):At w b 0 cs:=fun j v hj=>
  lW hb (by simpa using hj)
theorem At.sub {b o:Nat}{cs:List Value}{T fr} (hb:w.heap[b]? = some (.cells cs.toArray T fr)) (m:Nat):At w b o ((cs.drop o).take m):=fun j v hj=>by
  refine aj hb ?_
  rw [List.getElem?_take] at hj
  split at hj
  · rwa [List.getElem?_drop] at hj
  · cases hj
theorem At.part {b o:Nat}{c:Array Value}{T fr} {cs:List Value}(hb:w.heap[b]? = some (.cells c T fr)) (h:∀ j v,cs[j]? = some v→c[o+j]? = some v):At w b o cs:=fun j v hj=>
  lW hb (h j v hj)
theorem rX {ad:Addr}{v u:Value}(h1:v.oneCell'=true) (hc:w.cell? ad=some u) (hf:w.frozen? ad=false):(store ad v).run P w = .ok () (w.setCell ad v):=by
  cases v<;>first | (simp [Value.oneCell'] at h1; done) | simp [store,Sem.run,hc,hf]
theorem oz {b o:Nat}{c:Array Value}{T} (hb:w.heap[b]? = some (.cells c T (0,0))):w.frozen? ⟨b,o,none⟩=false:=by
  simp [World.frozen?,hb]
theorem uj {v:Value}(h1:v.oneCell'=true):v.cells = #[v]:=by
  cases v<;>first | rfl | (simp [Value.oneCell'] at h1; done)
def put (w:World) (b:Nat) (o:Obj):World:={ w with heap:=w.heap.setIfInBounds b o }
theorem pg {b o:Nat}{c:Array Value}{T fr v} (hb:w.heap[b]? = some (.cells c T fr)):w.setCell ⟨b,o,none⟩ v=put w b (.cells (c.setIfInBounds o v) T fr):=by
  have hlt:=(Array.getElem?_eq_some_iff.1 hb).1
  simp only [World.setCell,put]
  congr 1
  apply Array.ext σ
  intro i h1 h2
  have hi:i<w.heap.size:=by simpa using h1
  have hbv:=(Array.getElem?_eq_some_iff.1 hb).2
  rw [Array.getElem_modify,Array.getElem_setIfInBounds (by simpa using hi)]
  by_cases hbi:b=i
  · subst hbi; simp [hbv]
  · simp [hbi]
theorem jX {t} {x y:Operand}{b o:Nat}{c:Array Value}{T v} (hs:∀ w,(sizeOf t).run P w = .ok 1 w) (hx:evL L x=some (.pointer (some ⟨b,o,none⟩))) (hy:evL L y=some v) (h1:v.oneCell'=true)
    (hb:w.heap[b]? = some (.cells c T (0,0))) (ho:o<c.size):Pd P n L w ⟨d,.store t x y,ty,p,af,g⟩ (put w b (.cells (c.setIfInBounds o v) T (0,0))):=fun a ha=>by
  have hst:=rX (P:=P) (v:=v) h1 (lW hb (o:=o) (Array.getElem?_eq_getElem ho)) (oz hb)
  rw [pg hb] at hst
  simp [execOp,ha.eval hx,ha.eval hy,Instr.storeAt,Instr.sureAddr,storeVar,uj h1,hs,storeCells,gZ,hst]
theorem iX {b:Nat}{o o':Obj}(hb:w.heap[b]? = some o'):(put w b o).heap[b]? = some o:=by
  have hlt:=(Array.getElem?_eq_some_iff.1 hb).1
  simp [put,hlt]
theorem zq {b:Nat}{o:Obj}(hb:w.heap[b]? = some o):put w b o=w:=by
  have hv:=(Array.getElem?_eq_some_iff.1 hb).2
  have:w.heap.setIfInBounds b o=w.heap:=by
    apply Array.ext σ
    intro i h1 h2
    rw [Array.getElem_setIfInBounds (by simpa using h2)]
    split
    · rename_i e; subst e; exact hv.symm
    · rfl
  simp [put,this]
theorem BU {b:Nat}{o o':Obj}:put (put w b o) b o'=put w b o':=by simp [put]
def lay (c:Array Value) (o:Nat):List Value→Array Value
  | []=>c
  | v::vs=>lay (c.setIfInBounds o v) (o+1) vs
theorem lw:∀ (vs:List Value) (c:Array Value) (o:Nat),(lay c o vs).size=c.size
  | [],_,_=>rfl
  | v::vs,c,o=>by simp [lay,lw vs]
theorem gq {b:Nat}{T}:∀ (vs:List Value) (w:World) (o i:Nat) (c:Array Value),w.heap[b]? = some (.cells c T (0,0))→(∀ v∈vs,v.oneCell'=true)→o+i+vs.length≤c.size →
    (storeCells ⟨b,o,none⟩ vs i).run P w = .ok () (put w b (.cells (lay c (o+i) vs) T (0,0)))
  | [],w,o,i,c,hb,_,_=>by
    have:put w b (.cells (lay c (o+i) []) T (0,0))=w:=zq hb
    simp [storeCells,this]
  | v::vs,w,o,i,c,hb,h1,hl=>by
    have hst:=rX (P:=P) (v:=v) (h1 v σ) (lW hb (o:=o+i) (Array.getElem?_eq_getElem (by simp at hl; omega))) (oz hb)
    rw [pg hb] at hst
    have ih:=gq vs (put w b (.cells (c.setIfInBounds (o+i) v) T (0,0))) o (i+1) (c.setIfInBounds (o+i) v) (iX hb) (fun u hu=>h1 u (by simp [hu])) (by simp at hl ⊢; omega)
    rw [BU] at ih
    simp [storeCells,gZ,hst,ih,lay,Nat.add_assoc]
theorem iE {t} {x y:Operand}{b o:Nat}{c:Array Value}{T} {vs:List Value}{sz} (hs:∀ w,(sizeOf t).run P w = .ok sz w) (hx:evL L x=some (.pointer (some ⟨b,o,none⟩))) (hy:evL L y=some (.agg vs.toArray))
    (hl:vs.length=sz) (h1:∀ v∈vs,v.oneCell'=true) (hb:w.heap[b]? = some (.cells c T (0,0))) (ho:o+sz≤c.size) :
    Pd P n L w ⟨d,.store t x y,ty,p,af,g⟩ (put w b (.cells (lay c o vs) T (0,0))):=fun a ha=>by
  subst hl
  have hst:=gq (P:=P) vs w o 0 c hb h1 (by simpa using ho)
  simp [execOp,ha.eval hx,ha.eval hy,Instr.storeAt,Instr.sureAddr,storeVar,Value.cells,hs,hst]
theorem Cq {t} {x:Operand}{v} (hx:evL L x=some v):Pn P n L w ⟨d,.box t x,ty,p,af,g⟩ (.pointer (some ⟨w.heap.size,0,none⟩)) (w.alloc (.cells v.cells t)):=fun a ha=>by
  simp [execOp,ha.eval hx,Instr.box,newVar,newRow,newObj]
  rfl
theorem uv {t} {z:Value}(hz:∀ w,(zeroValue t).run P w = .ok z w):Pn P n L w ⟨d,.alloc t,ty,p,af,g⟩ (.pointer (some ⟨w.heap.size,0,none⟩)) (w.alloc (.cells z.cells t)):=fun a ha=>by
  simp [execOp,Instr.alloc,newVar,newRow,newObj,hz]
  rfl
def fM (L:Env):List Operand→Option (List Value)
  | []=>some []
  | x::xs=>match evL L x,fM L xs with
    | some v,some vs=>some (v::vs)
    | _,_=>none
theorem aP {f:FuncId}{fn:Func}{xs:Array Operand}{ats:Array TypeId}{vs:List Value}(hf:P.funcs[f]? = some fn) (hb:fn.body.isNone=false) (hnm:(fn.name == "runtime.NumGoroutine")=false)
    (hv:fM L xs.toList=some vs):Pc P n L w ⟨d,.call ⟨.value (.func f),xs,ats⟩,ty,p,af,g⟩ f vs.toArray:=fun a ha=>by
  have hm:xs.map a.eval=vs.toArray:=by
    have key:∀ (l:List Operand) (vs:List Value),fM L l=some vs→l.map a.eval=vs:=by
      intro l
      induction l with
      | nil=>intro vs h; simp [fM] at h; simp [h]
      | cons x l ih=>
        intro vs h
        unfold fM at h
        split at h
        · rename_i v us hv hus
          cases h
          simp [ha.eval hv,ih us hus]
        · cases h
    have:=key _ _ hv
    apply Array.toList_inj.1
    simpa using this
  have hb':¬ fn.body=none:=fun e=>by rw [e] at hb; simp at hb
  have hnm':¬ fn.name = "runtime.NumGoroutine" := fun e=>by rw [e] at hnm; simp at hnm
  simp [execOp,resolve,Deferred.ofValue,invoke,callFunc,hf,hb',hnm',hm,Act.eval]
end
end Go.Wk
namespace Go.Wk
structure Ext (M:Nat→Prop) (w w':World):Prop where
  os:w'.os=w.os
  tape:w'.tape=w.tape
  output:w'.output=w.output
  size:w.heap.size≤w'.heap.size
  block:∀ b,b<w.heap.size→¬ M b→w'.heap[b]? = w.heap[b]?
def No:Nat→Prop:=fun _=>False
theorem Ext.refl {M w}:Ext M w w:=⟨rfl,rfl,rfl,Nat.le_refl _,fun _ _ _=>rfl⟩
theorem Ext.drawn {M w w'} (h:Ext M w w') (k:Nat):Ext M w { w' with drawn:=k }:=⟨h.os,h.tape,h.output,h.size,h.block⟩
theorem Ext.trans {M w w1 w2} (h:Ext M w w1) (k:Ext M w1 w2):Ext M w w2:=
  ⟨k.os.trans h.os,k.tape.trans h.tape,k.output.trans h.output,Nat.le_trans h.size k.size,fun b hb hm=>(k.block b (Nat.lt_of_lt_of_le hb h.size) hm).trans (h.block b hb hm)⟩
theorem Ext.mono {M M':Nat→Prop}{w w'} (h:Ext M w w') (hm:∀ b,b<w.heap.size→M b→M' b):Ext M' w w':=⟨h.os,h.tape,h.output,h.size,fun b hb hn=>h.block b hb fun h'=>hn (hm b hb h')⟩
theorem Ext.no {M w w'} (h:Ext No w w'):Ext M w w':=h.mono fun _ _ h=>h.elim
theorem Ext.step {M M':Nat→Prop}{w w1 w2} (h:Ext M w w1) (k:Ext M' w1 w2) (hm:∀ b,M' b→M b∨w.heap.size≤b):Ext M w w2:=
  ⟨k.os.trans h.os,k.tape.trans h.tape,k.output.trans h.output,Nat.le_trans h.size k.size,fun b hb hn=>
    (k.block b (Nat.lt_of_lt_of_le hb h.size) fun h'=>by rcases hm b h' with h' | h'; exact hn h'; omega).trans (h.block b hb hn)⟩
theorem Ext.alloc {M w w'} (h:Ext M w w') (o:Obj):Ext M w (w'.alloc o):=
  h.trans ⟨rfl,rfl,rfl,σ,fun _ hk _=>heap_alloc_old w' o hk⟩
theorem Ext.put {M w w' b o} (h:Ext M w w') (hb:M b∨w.heap.size≤b):Ext M w (put w' b o):=
  h.step (M':=(· = b)) ⟨rfl,rfl,rfl,by simp [Wk.put],fun k _ hm=>by
    simp only [Wk.put]; rw [Array.getElem?_setIfInBounds_ne (fun e=>hm e.symm)]⟩ (fun k hk=>by subst hk; exact hb)
theorem Ext.heap {w w':World}(h:Ext No w w') {b:Nat}{o:Obj}(hb:w.heap[b]? = some o):w'.heap[b]? = some o:=
  (h.block b (Array.getElem?_eq_some_iff.1 hb).1 (fun h=>h)).trans hb
theorem Ext.heapM {M} {w w':World}(h:Ext M w w') {b:Nat}{o:Obj}(hm:¬ M b) (hb:w.heap[b]? = some o):w'.heap[b]? = some o:=
  (h.block b (Array.getElem?_eq_some_iff.1 hb).1 hm).trans hb
theorem Ext.cell {w w':World}(h:Ext No w w') {ad:Addr}{v:Value}(hc:w.cell? ad=some v):w'.cell? ad=some v:=
  (World.cell?_of_block (h.block ad.block (World.block_lt_of_cell? w ad hc) (fun h=>h))).trans hc
theorem Ext.at {w w':World}(h:Ext No w w') {b o:Nat}{cs:List Value}(hc:At w b o cs):At w' b o cs:=fun j v hj=>h.cell (hc j v hj)
class Rp (α:Type) where
  sz:Nat
  pos:0<sz
  own:Bool→World→List Value→α→List Nat→Prop
  len:∀ {s w cs x fp},own s w cs x fp→cs.length=sz
  one:∀ {s w cs x fp},own s w cs x fp→∀ v∈cs,v.oneCell'=true
  st:∀ {s w w' cs x fp},own s w cs x fp→(∀ b∈fp,w'.heap[b]? = w.heap[b]?)→own s w' cs x fp
  lt:∀ {s w cs x fp},own s w cs x fp→∀ b∈fp,b<w.heap.size
  weak:∀ {w cs x fp},own true w cs x fp→own false w cs x fp
open Rp (sz own)
def I64ok (x:Int):Prop := -9223372036854775808≤x∧x≤9223372036854775807
instance:Rp Int where
  sz:=1
  pos:=by decide
  own _ _ cs x fp:=cs=[.int .i64 x]∧fp=[]∧I64ok x
  len h:=by rw [h.1]; rfl
  one h v hv:=by rw [h.1] at hv; simp at hv; subst hv; rfl
  st h _:=h
  lt h b hb:=by rw [h.2.1] at hb; simp at hb
  weak h:=h
instance:Rp UInt8 where
  sz:=1
  pos:=by decide
  own _ _ cs x fp:=cs=[.int .u8 x.toNat]∧fp=[]
  len h:=by rw [h.1]; rfl
  one h v hv:=by rw [h.1] at hv; simp at hv; subst hv; rfl
  st h _:=h
  lt h b hb:=by rw [h.2] at hb; simp at hb
  weak h:=h
instance:Rp Bool where
  sz:=1
  pos:=by decide
  own _ _ cs x fp:=cs=[.bool x]∧fp=[]
  len h:=by rw [h.1]; rfl
  one h v hv:=by rw [h.1] at hv; simp at hv; subst hv; rfl
  st h _:=h
  lt h b hb:=by rw [h.2] at hb; simp at hb
  weak h:=h
structure Str where
  b:ByteArray
instance:Rp Str where
  sz:=1
  pos:=by decide
  own _ _ cs x fp:=cs=[.string x.b]∧fp=[]∧x.b.size≤maxLen
  len h:=by rw [h.1]; rfl
  one h v hv:=by rw [h.1] at hv; simp at hv; subst hv; rfl
  st h _:=h
  lt h b hb:=by rw [h.2.1] at hb; simp at hb
  weak h:=h
def cj {α:Type}[Rp α] (s:Bool) (w:World):List Value→List α→List Nat→Prop
  | _,[],fp=>fp=[]
  | cs,x::xs,fp=>∃ f1 f2,fp=f1++f2∧own s w (cs.take (sz α)) x f1∧cj s w (cs.drop (sz α)) xs f2
section
variable {α:Type}[Rp α]
theorem cj.st {s w w'}:∀ {xs:List α}{cs fp},cj s w cs xs fp→(∀ b∈fp,w'.heap[b]? = w.heap[b]?)→cj s w' cs xs fp
  | [],_,_,h,_=>h
  | x::xs,cs,fp,⟨f1,f2,e,h1,h2⟩,hb=>by
    subst e
    exact ⟨f1,f2,rfl,Rp.st h1 fun b hb'=>hb b (by simp [hb']),cj.st h2 fun b hb'=>hb b (by simp [hb'])⟩
theorem cj.lt {s w}:∀ {xs:List α}{cs fp},cj s w cs xs fp→∀ b∈fp,b<w.heap.size
  | [],_,_,h,b,hb=>by rw [show _=_ from h] at hb; simp at hb
  | x::xs,cs,fp,⟨f1,f2,e,h1,h2⟩,b,hb=>by
    subst e
    rcases List.mem_append.1 hb with hb | hb
    · exact Rp.lt h1 b hb
    · exact cj.lt h2 b hb
theorem cj.weak {w}:∀ {xs:List α}{cs fp},cj true w cs xs fp→cj false w cs xs fp
  | [],_,_,h=>h
  | _::_,_,_,⟨f1,f2,e,h1,h2⟩=>⟨f1,f2,e,Rp.weak h1,cj.weak h2⟩
theorem cj.cells {s w}:∀ {xs:List α}{cs fp},cj s w cs xs fp→xs.length*sz α≤cs.length
  | [],_,_,_=>by simp
  | _::_,_,_,⟨_,_,_,h1,h2⟩=>by
    have:=cj.cells h2
    have h3:=Rp.len h1
    simp only [List.length_take,List.length_drop,List.length_cons] at *
    rw [Nat.add_mul]
    omega
theorem cj.get {s w}:∀ {xs:List α}{cs fp},cj s w cs xs fp→∀ k (h:k<xs.length),∃ f,own s w ((cs.drop (k*sz α)).take (sz α)) xs[k] f∧(∀ b∈f,b∈fp)
  | [],_,_,_,k,h=>by simp at h
  | x::xs,cs,fp,⟨f1,f2,e,h1,h2⟩,0,_=>⟨f1,by simpa using h1,fun b hb=>by subst e; simp [hb]⟩
  | x::xs,cs,fp,⟨f1,f2,e,h1,h2⟩,k+1,h=>by
    obtain ⟨f,hf,hs⟩:=cj.get h2 k (by simpa using h)
    refine ⟨f,?_,fun b hb=>by subst e; simp [hs b hb]⟩
    rw [List.drop_drop] at hf
    rw [Nat.add_mul,Nat.one_mul,Nat.add_comm]
    simpa using hf
theorem cj.congr {s w}:∀ {xs:List α}{cs cs' fp},cj s w cs xs fp→cs'.take (xs.length*sz α)=cs.take (xs.length*sz α)→cj s w cs' xs fp
  | [],_,_,_,h,_=>h
  | x::xs,cs,cs',fp,⟨f1,f2,e,h1,h2⟩,hc=>by
    have hle:sz α≤(x::xs).length*sz α:=by rw [List.length_cons,Nat.add_mul]; omega
    have ht:cs'.take (sz α)=cs.take (sz α):=by
      have:=congrArg (List.take (sz α)) hc
      rwa [List.take_take,List.take_take,Nat.min_eq_left hle] at this
    refine ⟨f1,f2,e,by rw [ht]; exact h1,cj.congr h2 ?_⟩
    have:=congrArg (List.drop (sz α)) hc
    rw [List.drop_take,List.drop_take] at this
    rwa [show (x::xs).length*sz α-sz α=xs.length*sz α from by rw [List.length_cons,Nat.add_mul]; omega] at this
def DG (s:Bool) (w:World) (cs:List Value) (xs:List α) (fp:List Nat):Prop:=
  (s=false∧∃ ad cap,cs=[.slice ad 0 cap]∧xs=[]∧fp=[])∨(cs=[.slice none 0 0]∧xs=[]∧fp=[]) ∨
  ∃ b o cap cur T fr fs,cs=[.slice (some ⟨b,o,none⟩) xs.length cap]∧fp=b::fs∧w.heap[b]? = some (.cells cur T fr)∧(s=true→fr=(0,0)) ∧
    xs.length≤cap∧cap≤maxLen∧o+cap*sz α≤cur.size∧cj s w (cur.toList.drop o) xs fs
instance:Rp (List α) where
  sz:=1
  pos:=by decide
  own s w cs xs fp:=DG s w cs xs fp
  len h:=by rcases h with ⟨_,_,_,rfl,_⟩ | ⟨rfl,_⟩ | ⟨_,_,_,_,_,_,_,rfl,_⟩<;>rfl
  one h v hv:=by rcases h with ⟨_,_,_,rfl,_⟩ | ⟨rfl,_⟩ | ⟨_,_,_,_,_,_,_,rfl,_⟩<;>simp at hv<;>subst hv<;>rfl
  st h hb:=by
    rcases h with h | h | ⟨b,o,cap,cur,T,fr,fs,h1,h2,h3,h4,h5,h6,h7,h8⟩
    · exact .inl h
    · exact .inr (.inl h)
    · subst h2
      exact .inr (.inr ⟨b,o,cap,cur,T,fr,fs,h1,rfl,(hb b σ).trans h3,h4,h5,h6,h7,h8.st fun x hx=>hb x (by simp [hx])⟩)
  lt h b' hb':=by
    rcases h with ⟨_,_,_,_,_,rfl⟩ | ⟨_,_,rfl⟩ | ⟨b,o,cap,cur,T,fr,fs,h1,h2,h3,h4,h5,h6,h7,h8⟩
    · simp at hb'
    · simp at hb'
    · subst h2
      rcases List.mem_cons.1 hb' with rfl | hb'
      · exact (Array.getElem?_eq_some_iff.1 h3).1
      · exact h8.lt _ hb'
  weak h:=by
    rcases h with ⟨h,_⟩ | h | ⟨b,o,cap,cur,T,fr,fs,h1,h2,h3,h4,h5,h6,h7,h8⟩
    · cases h
    · exact .inr (.inl h)
    · exact .inr (.inr ⟨b,o,cap,cur,T,fr,fs,h1,h2,h3,(fun h=>by cases h),h5,h6,h7,h8.weak⟩)
theorem ax {s w cs} {xs:List α}{fp} (h:own s w cs xs fp):∃ ad cap,cs=[.slice ad xs.length cap]:=by
  rcases h with ⟨_,ad,cap,rfl,rfl,_⟩ | ⟨rfl,rfl,_⟩ | ⟨b,o,cap,_,_,_,_,rfl,_⟩
  · exact ⟨_,_,rfl⟩
  · exact ⟨_,_,rfl⟩
  · exact ⟨_,_,rfl⟩
theorem d9 {s w ad n cap} {xs:List α}{fp} (h:own s w [.slice ad n cap] xs fp) (k:Nat) (hk:k<xs.length) :
    ∃ b o cs f,ad=some ⟨b,o,none⟩∧At w b (o+k*sz α) cs∧own s w cs xs[k] f∧(∀ b∈f,b∈fp)∧b∈fp:=by
  rcases h with ⟨_,_,_,_,rfl,_⟩ | ⟨_,rfl,_⟩ | ⟨b,o,cap',cur,T,fr,fs,h1,h2,h3,h4,h5,h6,h7,h8⟩
  · simp at hk
  · simp at hk
  · simp only [List.cons.injEq,Value.slice.injEq,and_true] at h1
    obtain ⟨h1,_,_⟩:=h1
    subst h1; subst h2
    obtain ⟨f,hf,hs⟩:=h8.get k hk
    refine ⟨b,o,_,f,rfl,?_,hf,fun b hb=>by simp [hs b hb],σ⟩
    refine At.part h3 fun j v hj=>?_
    rw [List.getElem?_take] at hj
    split at hj
    · rw [List.getElem?_drop,List.getElem?_drop] at hj
      rw [← hj,Nat.add_assoc]
      simp
    · cases hj
theorem qH {s w ad n cap} {xs:List α}{fp} (h:own s w [.slice ad n cap] xs fp):xs.length≤maxLen:=by
  rcases h with ⟨_,_,_,_,rfl,_⟩ | ⟨_,rfl,_⟩ | ⟨b,o,cap',cur,T,fr,fs,h1,h2,h3,h4,h5,h6,h7,h8⟩
  · simp
  · simp
  · omega
end
theorem db {s w cs} {x:Int}{fp} (h:own s w cs x fp):cs=[.int .i64 x]∧fp=[]∧I64ok x:=h
theorem iv {s w ad n cap} {xs:List UInt8}{fp} (h:own s w [.slice ad n cap] xs fp) (k:Nat) (hk:k<xs.length) :
    ∃ b o,ad=some ⟨b,o,none⟩∧w.cell? ⟨b,o+k*1,none⟩=some (.int .u8 (xs.getD k 0).toNat):=by
  obtain ⟨b,o,cs,f,h1,h2,h3,_⟩:=d9 h k hk
  rw [show xs.getD k 0=xs[k] from by simp [List.getD,hk]]
  exact ⟨b,o,h1,h2 0 (.int .u8 (xs[k]).toNat) (by rw [h3.1]; rfl)⟩
theorem df {s w ad n cap} {xs:List Int}{fp} (h:own s w [.slice ad n cap] xs fp) (k:Nat) (hk:k<xs.length) :
    ∃ b o,ad=some ⟨b,o,none⟩∧w.cell? ⟨b,o+k*1,none⟩=some (.int .i64 (xs.getD k 0)):=by
  obtain ⟨b,o,cs,f,h1,h2,h3,_⟩:=d9 h k hk
  rw [show xs.getD k 0=xs[k] from by simp [List.getD,hk]]
  exact ⟨b,o,h1,h2 0 (.int .i64 xs[k]) (by rw [h3.1]; rfl)⟩
section
variable {P:Program}{n:Nat}{L:Env}{w:World}{d:Option Tmp}{ty:TypeId}{p:String}{af:Array Edge}{g:Option (Nat × Bool)}
theorem aB {st e:TypeId}{x ix:Operand}{ad:Option Addr}{b o len cap sz:Nat}{kd:IntKind}{z:Int}(hu:P.underlying st=some (.slice e)) (hs:∀ w,(sizeOf e).run P w = .ok sz w)
    (hx:evL L x=some (.slice ad len cap)) (hi:evL L ix=some (.int kd z)) (had:ad=some ⟨b,o,none⟩) (k:Nat) (hz:z=k) (hk:k<len) :
    Py P n L w ⟨d,.indexAddr st x ix,ty,p,af,g⟩ (.pointer (some ⟨b,o+k*sz,none⟩)):=by
  subst had; subst hz; exact CI hu hs hx hi hk
end
end Go.Wk
namespace Go.Wk
open Rp (sz own)
structure Rsc where
  fp:List Nat
  φ:World→Prop
  st:∀ {w w':World},φ w→(∀ b∈fp,w'.heap[b]? = w.heap[b]?)→φ w'
  lt:∀ {w:World},φ w→∀ b∈fp,b<w.heap.size
def box (b:Nat) (o:Obj):Rsc:=⟨[b],fun w=>w.heap[b]? = some o,fun h k=>(k b σ).trans h,fun h x hx=>by
  simp at hx; subst hx; exact (Array.getElem?_eq_some_iff.1 h).1⟩
def mine {α:Type}[Rp α] (cs:List Value) (x:α) (fp:List Nat):Rsc:=⟨fp,fun w=>own true w cs x fp,fun h k=>Rp.st h k,fun h=>Rp.lt h⟩
def seen {α:Type}[Rp α] (s:Bool) (cs:List Value) (x:α) (fp:List Nat):Rsc:=⟨fp,fun w=>own s w cs x fp,fun h k=>Rp.st h k,fun h=>Rp.lt h⟩
def blocks:List Rsc→List Nat
  | []=>[]
  | r::Δ=>r.fp++blocks Δ
theorem bm {b:Nat}:∀ {Δ:List Rsc},b∈blocks Δ↔∃ r∈Δ,b∈r.fp
  | []=>by simp [blocks]
  | r::Δ=>by simp [blocks,bm (Δ:=Δ)]
theorem bZ:∀ (Δ Γ:List Rsc),blocks (Δ++Γ)=blocks Δ++blocks Γ
  | [],_=>rfl
  | r::Δ,Γ=>by simp [blocks,bZ Δ Γ]
structure Sep (M:Nat→Prop) (w0:World) (Δ F:List Rsc) (w:World):Prop where
  ext:Ext M w0 w
  rs:∀ r∈Δ,r.φ w
  nd:(blocks Δ).Nodup
  new:∀ b∈blocks Δ,M b∨w0.heap.size≤b
  fs:∀ r∈F,r.φ w
  ap:∀ r∈F,∀ b∈r.fp,b ∉ blocks Δ
section
variable {M:Nat→Prop}{w0 w w':World}{Δ F Γ:List Rsc}
theorem Sep.start {w:World}{F:List Rsc}(hf:∀ r∈F,r.φ w):Sep No w [] F w:=
  ⟨Ext.refl,σ,by simp [blocks],by simp [blocks],hf,by simp [blocks]⟩
theorem Sep.lt (h:Sep M w0 Δ F w):∀ b∈blocks Δ,b<w.heap.size:=fun b hb=>by
  obtain ⟨r,hr,hb⟩:=bm.1 hb
  exact r.lt (h.rs r hr) b hb
theorem Sep.r (h:Sep M w0 Δ F w) (i:Nat) {r:Rsc}(hi:Δ[i]? = some r):r.φ w:=h.rs r (List.mem_of_getElem? hi)
theorem Sep.box (h:Sep M w0 Δ F w) (i:Nat) {b o} (hi:Δ[i]? = some (box b o)):w.heap[b]? = some o:=h.r i hi
theorem Sep.mine {α:Type}[Rp α] (h:Sep M w0 Δ F w) (i:Nat) {cs fp} {x:α}(hi:Δ[i]? = some (mine cs x fp)):own true w cs x fp:=h.r i hi
theorem Sep.seen {α:Type}[Rp α] (h:Sep M w0 Δ F w) (i:Nat) {s cs fp} {x:α}(hi:F[i]? = some (seen s cs x fp)):own s w cs x fp:=h.fs _ (List.mem_of_getElem? hi)
theorem Sep.to (h:Sep M w0 Δ F w) (e:Ext No w w'):Sep M w0 Δ F w':=
  ⟨h.ext.trans e.no,fun r hr=>r.st (h.rs r hr) fun b hb=>e.block b (r.lt (h.rs r hr) b hb) id,h.nd,h.new,
    fun r hr=>r.st (h.fs r hr) fun b hb=>e.block b (r.lt (h.fs r hr) b hb) id,h.ap⟩
theorem Sep.drawn (h:Sep M w0 Δ F w) (k:Nat):Sep M w0 Δ F { w with drawn:=k }:=h.to (Ext.refl.drawn k)
theorem nZ {Δ Γ:List Rsc}(hs:Γ.Sublist Δ) (h:(blocks Δ).Nodup):(blocks Γ).Nodup:=by
  have:(blocks Γ).Sublist (blocks Δ):=by
    induction hs with
    | slnil=>exact .slnil
    | cons r _ ih=>exact (ih (by unfold blocks at h; exact (List.nodup_append.1 h).2.1)).trans (List.sublist_append_right _ _)
    | cons_cons r _ ih=>exact List.Sublist.append (.refl _) (ih (by unfold blocks at h; exact (List.nodup_append.1 h).2.1))
  exact h.sublist this
theorem Sep.sub (h:Sep M w0 Δ F w) (hs:Γ.Sublist Δ):Sep M w0 Γ F w:=by
  have hm:∀ b∈blocks Γ,b∈blocks Δ:=fun b hb=>by
    obtain ⟨r,hr,hb⟩:=bm.1 hb
    exact bm.2 ⟨r,hs.subset hr,hb⟩
  exact ⟨h.ext,fun r hr=>h.rs r (hs.subset hr),nZ hs h.nd,fun b hb=>h.new b (hm b hb),h.fs,fun r hr b hb hx=>h.ap r hr b hb (hm b hx)⟩
theorem Sep.add (h:Sep M w0 Δ F w) (e:Ext No w w') {r:Rsc}(hr:r.φ w') (hn:r.fp.Nodup) (hf:∀ b∈r.fp,w.heap.size≤b):Sep M w0 (Δ++[r]) F w':=by
  have h':=h.to e
  have hlt:=h.lt
  have hb:blocks (Δ++[r])=blocks Δ++r.fp:=by rw [bZ]; simp [blocks]
  refine ⟨h'.ext,fun q hq=>?_,?_,fun b hb'=>?_,h'.fs,fun q hq b hb' hx=>?_⟩
  · rcases List.mem_append.1 hq with hq | hq
    · exact h'.rs q hq
    · simp at hq; subst hq; exact hr
  · rw [hb]
    refine List.nodup_append.2 ⟨h.nd,hn,fun x hx y hy e=>?_⟩
    subst e
    have:=hlt x hx
    have:=hf x hy
    omega
  · rw [hb] at hb'
    rcases List.mem_append.1 hb' with hb' | hb'
    · exact h.new b hb'
    · have:=hf b hb'
      have:=h.ext.size
      exact .inr ω
  · rw [hb] at hx
    rcases List.mem_append.1 hx with hx | hx
    · exact h.ap q hq b hb' hx
    · have:=hf b hx
      have:=q.lt (h.fs q hq) b hb'
      omega
theorem Sep.alloc (h:Sep M w0 Δ F w) (o:Obj):Sep M w0 (Δ++[Wk.box w.heap.size o]) F (w.alloc o):=
  h.add (Ext.refl.alloc o) (r:=Wk.box w.heap.size o) (heap_alloc_new w o) (by simp [Wk.box]) (by simp [Wk.box])
theorem dA:∀ {Δ:List Rsc}{i:Nat}{r q:Rsc},Δ[i]? = some r→∀ b,b∈blocks (Δ.set i q)→b∈q.fp∨b∈blocks Δ
  | [],i,r,q,h,b,hb=>by simp at h
  | p::Δ,0,r,q,h,b,hb=>by
    simp only [List.set_cons_zero,blocks,List.mem_append] at hb ⊢
    rcases hb with hb | hb
    · exact .inl hb
    · exact .inr (.inr hb)
  | p::Δ,i+1,r,q,h,b,hb=>by
    simp only [List.set_cons_succ,blocks,List.mem_append] at hb ⊢
    rcases hb with hb | hb
    · exact .inr (.inl hb)
    · rcases dA (by simpa using h) b hb with hb | hb
      · exact .inl hb
      · exact .inr (.inr hb)
theorem iG:∀ {Δ:List Rsc}{i:Nat}{r q:Rsc},Δ[i]? = some r→(blocks Δ).Nodup→q.fp.Nodup→(∀ b∈q.fp,b∈blocks Δ→b∈r.fp)→(blocks (Δ.set i q)).Nodup
  | [],i,r,q,h,_,_,_=>by simp at h
  | p::Δ,0,r,q,h,hn,hq,hd=>by
    simp only [List.getElem?_cons_zero,Option.some.injEq] at h
    subst h
    simp only [List.set_cons_zero,blocks] at hn ⊢
    obtain ⟨h1,h2,h3⟩:=List.nodup_append.1 hn
    refine List.nodup_append.2 ⟨hq,h2,fun x hx y hy e=>?_⟩
    subst e
    exact h3 x (hd x hx (by simp [blocks,hy])) x hy rfl
  | p::Δ,i+1,r,q,h,hn,hq,hd=>by
    simp only [List.set_cons_succ,blocks] at hn ⊢
    obtain ⟨h1,h2,h3⟩:=List.nodup_append.1 hn
    have hi:Δ[i]? = some r:=by simpa using h
    have hr:∀ b∈r.fp,b∈blocks Δ:=fun b hb=>bm.2 ⟨r,List.mem_of_getElem? hi,hb⟩
    refine List.nodup_append.2 ⟨h1,iG hi h2 hq fun b hb hb'=>hd b hb (by simp [blocks,hb']),fun x hx y hy e=>?_⟩
    subst e
    rcases dA hi x hy with hy | hy
    · exact h3 x hx x (hr x (hd x hy (by simp [blocks,hx]))) rfl
    · exact h3 x hx x hy rfl
theorem jU {Δ:List Rsc}{i:Nat}{r q:Rsc}(hi:Δ[i]? = some r) (hn:(blocks Δ).Nodup):∀ p∈Δ.set i q,p=q∨(p∈Δ∧∀ b∈p.fp,b ∉ r.fp):=by
  induction Δ generalizing i with
  | nil=>simp at hi
  | cons a Δ ih=>
    intro p hp
    unfold blocks at hn
    obtain ⟨h1,h2,h3⟩:=List.nodup_append.1 hn
    cases i with
    | zero=>
      simp at hi; subst hi
      simp only [List.set_cons_zero,List.mem_cons] at hp
      rcases hp with rfl | hp
      · exact .inl rfl
      · exact .inr ⟨by simp [hp],fun b hb hb'=>h3 b hb' b (bm.2 ⟨p,hp,hb⟩) rfl⟩
    | succ i=>
      have hi':Δ[i]? = some r:=by simpa using hi
      simp only [List.set_cons_succ,List.mem_cons] at hp
      rcases hp with rfl | hp
      · exact .inr ⟨σ,fun b hb hb'=>h3 b hb b (bm.2 ⟨r,List.mem_of_getElem? hi',hb'⟩) rfl⟩
      · rcases ih hi' h2 p hp with rfl | ⟨hp,hb⟩
        · exact .inl rfl
        · exact .inr ⟨by simp [hp],hb⟩
theorem Sep.set (h:Sep M w0 Δ F w) {i:Nat}{r q:Rsc}(hi:Δ[i]? = some r) (e:Ext (· ∈ r.fp) w w') (hq:q.φ w') (hn:q.fp.Nodup) (hf:∀ b∈q.fp,b∈r.fp∨w.heap.size≤b) :
    Sep M w0 (Δ.set i q) F w':=by
  have hr:∀ b∈r.fp,b∈blocks Δ:=fun b hb=>bm.2 ⟨r,List.mem_of_getElem? hi,hb⟩
  have hlt:=h.lt
  refine ⟨h.ext.step e fun b hb=>h.new b (hr b hb),fun p hp=>?_,iG hi h.nd hn fun b hb hb'=>?_,fun b hb=>?_,fun p hp=>?_,fun p hp b hb hx=>?_⟩
  · rcases jU hi h.nd p hp with rfl | ⟨hp,hd⟩
    · exact hq
    · exact p.st (h.rs p hp) fun b hb=>e.block b (p.lt (h.rs p hp) b hb) (hd b hb)
  · rcases hf b hb with hb | hb
    · exact hb
    · have:=hlt b hb'; omega
  · rcases dA hi b hb with hb | hb
    · rcases hf b hb with hb | hb
      · exact h.new b (hr b hb)
      · have:=h.ext.size; exact .inr ω
    · exact h.new b hb
  · exact p.st (h.fs p hp) fun b hb=>e.block b (p.lt (h.fs p hp) b hb) fun hx=>h.ap p hp b hb (hr b hx)
  · rcases dA hi b hx with hx | hx
    · rcases hf b hx with hx | hx
      · exact h.ap p hp b hb (hr b hx)
      · have:=p.lt (h.fs p hp) b hb; omega
    · exact h.ap p hp b hb hx
theorem Sep.put (h:Sep M w0 Δ F w) (i:Nat) {b o} (o':Obj) (hi:Δ[i]? = some (Wk.box b o)):Sep M w0 (Δ.set i (Wk.box b o')) F (put w b o'):=
  h.set hi (q:=Wk.box b o') (Ext.refl.put (M:=(· ∈ (Wk.box b o).fp)) (.inl (by simp [Wk.box]))) (iX (h.box i hi)) (by simp [Wk.box]) (by simp [Wk.box])
theorem Sep.perm (h:Sep M w0 Δ F w) (hp:Δ.Perm Γ):Sep M w0 Γ F w:=by
  have hm:∀ b,b∈blocks Γ→b∈blocks Δ:=fun b hb=>by
    obtain ⟨r,hr,hb⟩:=bm.1 hb
    exact bm.2 ⟨r,hp.mem_iff.2 hr,hb⟩
  have hb:(blocks Δ).Perm (blocks Γ):=by
    have:∀ Δ:List Rsc,blocks Δ=Δ.flatMap (·.fp):=fun Δ=>by
      induction Δ with
      | nil=>rfl
      | cons r Δ ih=>simp [blocks,ih]
    rw [this,this]
    exact hp.flatMap_right _
  exact ⟨h.ext,fun r hr=>h.rs r (hp.mem_iff.2 hr),hb.nodup_iff.1 h.nd,fun b hx=>h.new b (hm b hx),h.fs,fun r hr b hx hy=>h.ap r hr b hx (hm b hy)⟩
end
def Res {α:Type}[Rp α] (w w':World) (cs:List Value) (x:α):Prop:=∃ fp,own true w' cs x fp∧fp.Nodup∧∀ b∈fp,w.heap.size≤b
theorem Sep.res {α:Type}[Rp α] {M w0 Δ F} {w w':World}{cs:List Value}{x:α}(h:Sep M w0 Δ F w) (e:Ext No w w') (hr:Res w w' cs x):∃ fp,Sep M w0 (Δ++[Wk.mine cs x fp]) F w':=by
  obtain ⟨fp,h1,h2,h3⟩:=hr
  exact ⟨fp,h.add e (r:=Wk.mine cs x fp) h1 h2 h3⟩
theorem Sep.out {α:Type}[Rp α] {w0 Δ F} {w:World}{cs:List Value}{x:α}{fp} (h:Sep No w0 Δ F w) (i:Nat) (hi:Δ[i]? = some (Wk.mine cs x fp)):Res w0 w cs x:=by
  have hm:=List.mem_of_getElem? hi
  refine ⟨fp,h.mine i hi,?_,fun b hb=>?_⟩
  · have:[Wk.mine cs x fp].Sublist Δ:=List.singleton_sublist.2 hm
    simpa [blocks,Wk.mine] using nZ this h.nd
  · exact (h.new b (bm.2 ⟨_,hm,hb⟩)).resolve_left id
end Go.Wk
namespace Go.Wk
section
variable {w:World}{F:List Rsc}
theorem ag {α:Type}[Rp α] {s:Bool}{cs:List Value}{x:α}{fp:List Nat}(h:Rp.own s w cs x fp) (k:∀ r∈F,r.φ w):∀ r∈seen s cs x fp::F,r.φ w:=fun r hr=>(List.mem_cons.1 hr).elim (fun e=>e ▸ h) (k r)
theorem cf {b:Nat}{o:Obj}(h:w.heap[b]? = some o) (k:∀ r∈F,r.φ w):∀ r∈box b o::F,r.φ w:=fun r hr=>(List.mem_cons.1 hr).elim (fun e=>e ▸ h) (k r)
theorem aD:∀ r∈([]:List Rsc),r.φ w:=fun _ h=>by cases h
end
end Go.Wk
namespace Go.Wk
open Rp (sz own)
structure Ty (P:Program) (e:TypeId) (z:Value) (size bytes:Nat):Prop where
  h:(P.info? e).map (fun i=>(i.zero,i.size,i.bytes))=some (some z,size,bytes)
theorem Ty.parts {P e z size bytes} (t:Ty P e z size bytes):∃ i,P.info? e=some i∧i.zero=some z∧i.size=size∧i.bytes=bytes:=by
  have h:=t.h
  cases hi:P.info? e with
  | none=>rw [hi] at h; cases h
  | some i=>rw [hi] at h; simp at h; exact ⟨i,rfl,h.1,h.2.1,h.2.2⟩
theorem Ty.size {P e z size bytes} (t:Ty P e z size bytes) (w:World):(sizeOf e).run P w = .ok size w:=by
  obtain ⟨i,h1,h2,h3,h4⟩:=t.parts
  simp [sizeOf,typeInfo,h1,h3]
section
variable {α:Type}[Rp α] {P:Program}
theorem qO {w:World}{b o:Nat}{cur:Array Value}{T fr} (hb:w.heap[b]? = some (.cells cur T fr)) (m:Nat):At w b o ((cur.toList.drop o).take m):=fun j v hj=>by
  refine lW hb ?_
  rw [List.getElem?_take] at hj
  split at hj
  · rw [List.getElem?_drop] at hj; simpa using hj
  · cases hj
theorem tC {w:World}{b o:Nat}{cs:List Value}(h:At w b o cs):∀ j v,cs[j]? = some v→w.cell? ((⟨b,o,none⟩:Addr).add j)=some v:=fun j v hj=>by
  rw [gZ]; exact h j v hj
theorem kD:∀ (vs:List Value) (c:Array Value) (o:Nat),o+vs.length≤c.size→(lay c o vs).toList=c.toList.take o++vs++c.toList.drop (o+vs.length)
  | [],c,o,_=>by simp [lay]
  | v::vs,c,o,h=>by
    have ho:o<c.toList.length:=by simp at h ⊢; omega
    rw [lay,kD vs _ _ (by simp at h ⊢; omega)]
    simp only [Array.toList_setIfInBounds,List.length_cons]
    rw [List.set_eq_take_append_cons_drop,if_pos ho]
    have h1:(c.toList.take o).length=o:=by rw [List.length_take]; omega
    rw [List.take_append,List.drop_append,h1]
    simp only [Nat.add_sub_cancel_left,List.take_succ_cons,List.take_zero,show o+1+vs.length-o=vs.length+1 from by omega,List.drop_succ_cons,List.drop_drop]
    rw [List.take_of_length_le (by rw [h1]; omega),List.drop_of_length_le (by rw [h1]; omega)]
    simp [Nat.add_assoc,Nat.add_comm 1]
theorem cj.append {s:Bool}{w:World}:∀ {xs:List α}{cs fx ds fy} {ys:List α},cj s w cs xs fx→cs.length=xs.length*sz α→cj s w ds ys fy→cj s w (cs++ds) (xs++ys) (fx++fy)
  | [],cs,fx,ds,fy,ys,hc,hlc,hy=>by
    have:cs=[]:=List.eq_nil_of_length_eq_zero (by simpa using hlc)
    subst this
    have hfx:fx=[]:=hc
    subst hfx
    simpa using hy
  | x::xs,cs,fx,ds,fy,ys,⟨f1,f2,e1,hc1,hc2⟩,hlc,hy=>by
    subst e1
    have hle:sz α≤cs.length:=by rw [hlc,List.length_cons,Nat.add_mul]; omega
    refine ⟨f1,f2++fy,σ,?_,?_⟩
    · rw [List.take_append_of_le_length hle]; exact hc1
    · rw [List.drop_append_of_le_length hle]
      exact cj.append hc2 (by rw [List.length_drop,hlc,List.length_cons,Nat.add_mul]; omega) hy
theorem gK {w:World}{t ty e:TypeId}{z:Value}{bytes:Nat}(ht:P.underlying t=some (.slice e)) (hT:Ty P e z (sz α) bytes) (hz:z.cells.size=sz α)
    {v:Value}{xs ys:List α}{fp:List Nat}(h:own true w [v] xs fp) {b2 o2 m c2:Nat}{news:List Value}(hl:news.length=m*sz α) (hm:m=ys.length) (hat:At w b2 o2 news)
    (h1:∀ u∈news,u.oneCell'=true) {fy:List Nat}(hy:cj true w news ys fy) (hfy:∀ b∈fy,b ∉ fp) (n1:fp.Nodup) (n2:fy.Nodup) (hm0:0<m)
    (h63:xs.length+m≤maxLen) (hb48:(xs.length+m)*bytes≤140737488355328) :
    ∃ v' w' fp',(Builtin.append_ #[t,t] ty #[v,.slice (some ⟨b2,o2,none⟩) m c2]).run P w = .ok v' w'∧own true w' [v'] (xs++ys) fp'∧Ext (· ∈ fp) w w' ∧
      (∀ b∈fp',b∈fp∨b∈fy∨w.heap.size≤b)∧fp'.Nodup:=by
  obtain ⟨i,hi1,hi2,hi3,hi4⟩:=hT.parts
  have hsmall:xs.length+m≤9223372036854775807:=by simp only [maxLen] at h63; omega
  have hsz:=Rp.pos (α:=α)
  subst hm
  have grown:∀ (old:Nat) (olds:List Value) (fs:List Nat),olds.length=xs.length*sz α→cj true w olds xs fs→(∀ b∈fs,b∈fp)→fs.Nodup→∀ w',w'= w.drew.alloc (.cells (olds.toArray++news.toArray++Builtin.zeroCells z.cells (grownCap w (xs.length+ys.length) old e-(xs.length+ys.length))) e) →
      ∃ fp',own true w' [.slice (some ⟨w.heap.size,0,none⟩) (xs.length+ys.length) (grownCap w (xs.length+ys.length) old e)] (xs++ys) fp'∧Ext (· ∈ fp) w w' ∧
      (∀ b∈fp',b∈fp∨b∈fy∨w.heap.size≤b)∧fp'.Nodup:=by
    intro old olds fs hlo hox hfs hnd w' hw'
    have hE:Ext No w w':=by subst hw'; exact (Ext.refl.drawn _).alloc _
    have hge:=grownCap_ge w (xs.length+ys.length) old e
    have hcm:grownCap w (xs.length+ys.length) old e≤maxLen:=grownCap_le_maxLen w (xs.length+ys.length) old e h63
    refine ⟨w.heap.size::(fs++fy),.inr (.inr ⟨w.heap.size,0,_,_,e,(0,0),fs++fy,σ,rfl,by subst hw'; exact heap_alloc_new w.drew _,fun _=>rfl,by simpa using hge,hcm,?_,?_⟩),hE.no,fun b hb=>?_,?_⟩
    · simp only [Array.size_append,List.size_toArray,size_zeroCells,hz,hlo,hl,← Nat.add_mul,Nat.zero_add]
      exact Nat.le_of_eq (by congr 1; omega)
    · have:=(hox.append hlo hy).st (w':=w') fun b hb=>hE.block b (by
        rcases List.mem_append.1 hb with hb | hb
        · exact hox.lt b hb
        · exact hy.lt b hb) id
      refine this.congr ?_
      have hlen:(xs++ys).length*sz α=(olds++news).length:=by rw [List.length_append,List.length_append,Nat.add_mul,hlo,hl]
      rw [hlen]
      simp only [List.drop_zero,Array.toList_append]
      rw [List.take_length,List.take_left' rfl]
    · simp only [List.mem_cons,List.mem_append] at hb
      rcases hb with rfl | hb | hb
      · exact .inr (.inr (Nat.le_refl _))
      · exact .inl (hfs b hb)
      · exact .inr (.inl hb)
    · refine List.nodup_cons.2 ⟨fun hx=>?_,List.nodup_append.2 ⟨hnd,n2,fun x hx y hy' e'=>?_⟩⟩
      · rcases List.mem_append.1 hx with hx | hx
        · have:=Rp.lt h _ (hfs _ hx); omega
        · have:=hy.lt _ hx; omega
      · subst e'; exact hfy x hy' (hfs x hx)
  rcases h with ⟨hf,_⟩ | ⟨hv,rfl,rfl⟩ | ⟨b,o,cap,cur,T,fr,fs,hv,hfp,hb,hfr,hc,hcm,hcs,hown⟩
  · cases hf
  · simp at hv; subst hv
    have hr:=run_append_nil (P:=P) w t ty e i z ht hi1 hi2 ⟨b2,o2,none⟩ ys.length c2 news (by rw [hi3]; exact hl) (tC hat) hm0 (by simp at hsmall; omega) (by rw [hi4]; simp at hb48; omega)
    obtain ⟨fp',g1,g2,g3,g4⟩:=grown 0 [] [] σ rfl σ .nil _ rfl
    simp only [List.length_nil,Nat.zero_add,List.nil_append] at g1 g2 hr ⊢
    refine ⟨_,_,fp',hr,?_,?_,g3,g4⟩
    · simpa using g1
    · simpa using g2
  · simp at hv; subst hv
    have hfr':=hfr rfl
    subst hfr'
    have hcells:=hown.cells
    have hxl:xs.length*sz α≤cap*sz α:=Nat.mul_le_mul_right _ hc
    by_cases hroom:xs.length+ys.length≤cap
    ·
      have hfit:o+xs.length*sz α+news.length≤cur.size:=by
        have:(xs.length+ys.length)*sz α≤cap*sz α:=Nat.mul_le_mul_right _ hroom
        rw [Nat.add_mul] at this
        rw [hl]; omega
      have hst:=gq (P:=P) news w (o+xs.length*sz α) 0 cur hb h1 (by simpa using hfit)
      have hld:(loadCells ⟨b2,o2,none⟩ (ys.length*sz α)).run P w = .ok news.toArray w:=by
        have:=fZ (P:=P) news b2 o2 0 #[] (by simpa using hat)
        rw [hl] at this
        simpa [loadCells] using this
      refine ⟨.slice (some ⟨b,o,none⟩) (xs.length+ys.length) cap,put w b (.cells (lay cur (o+xs.length*sz α) news) T (0,0)),b::(fs++fy),?_,.inr (.inr ⟨b,o,cap,_,T,(0,0),fs++fy,σ,rfl,iX hb,fun _=>rfl,by simpa using hroom,hcm,by rw [lw]; exact hcs,?_⟩),?_,fun b' hb'=>?_,?_⟩
      · simp [Builtin.append_,run_underlying ht,sizeOf,typeInfo,hi1,hi3,Builtin.lenOf,hroom,Builtin.firstCells,hld,gZ]
        simp only [Nat.add_zero] at hst
        rw [hst]
        rfl
      · have hEp:Ext (· = b) w (put w b (.cells (lay cur (o+xs.length*sz α) news) T (0,0))):=Ext.refl.put (.inl rfl)
        have hlo:((cur.toList.drop o).take (xs.length*sz α)).length=xs.length*sz α:=by
          rw [List.length_take,List.length_drop]
          have:cur.toList.length=cur.size:=by simp
          omega
        have h2:=(hown.congr (cs':=(cur.toList.drop o).take (xs.length*sz α)) (by rw [List.take_take,Nat.min_self])).append hlo hy
        have h3:=h2.st (w':=put w b (.cells (lay cur (o+xs.length*sz α) news) T (0,0))) fun b' hb'=>hEp.block b' (h2.lt b' hb') fun e=>by
          subst e; subst hfp
          rcases List.mem_append.1 hb' with hb' | hb'
          · exact (List.nodup_cons.1 n1).1 hb'
          · exact hfy b' hb' σ
        refine h3.congr ?_
        have hlen:(xs++ys).length*sz α=((cur.toList.drop o).take (xs.length*sz α)++news).length:=by rw [List.length_append,List.length_append,Nat.add_mul,hlo,hl]
        rw [hlen,List.take_length,kD _ _ _ hfit,List.append_assoc,List.drop_append]
        have h5:(cur.toList.take (o+xs.length*sz α)).length=o+xs.length*sz α:=by
          rw [List.length_take]
          have:cur.toList.length=cur.size:=by simp
          omega
        rw [h5,List.drop_take,show o+xs.length*sz α-o=xs.length*sz α from by omega,show o-(o+xs.length*sz α)=0 from by omega,List.drop_zero,← List.append_assoc,List.take_left' rfl]
      · exact Ext.refl.put (.inl (by subst hfp; simp))
      · subst hfp
        simp only [List.mem_cons,List.mem_append] at hb' ⊢
        rcases hb' with rfl | hb' | hb'
        · exact .inl (.inl rfl)
        · exact .inl (.inr hb')
        · exact .inr (.inl hb')
      · subst hfp
        obtain ⟨n3,n4⟩:=List.nodup_cons.1 n1
        refine List.nodup_cons.2 ⟨fun hx=>?_,List.nodup_append.2 ⟨n4,n2,fun x hx y hy' e'=>?_⟩⟩
        · rcases List.mem_append.1 hx with hx | hx
          · exact n3 hx
          · exact hfy b hx σ
        · subst e'; exact hfy x hy' (by simp [hx])
    · have hg:cap<xs.length+ys.length:=by omega
      have holds:=qO hb (o:=o) (xs.length*sz α)
      have hlo:((cur.toList.drop o).take (xs.length*sz α)).length=xs.length*sz α:=by
        rw [List.length_take,List.length_drop]
        have:cur.toList.length=cur.size:=by simp
        omega
      have hr:=run_append_grow (P:=P) w t ty e i z ht hi1 hi2 ⟨b,o,none⟩ xs.length cap _ (by rw [hi3]; exact hlo) (tC holds) ⟨b2,o2,none⟩ ys.length c2 news (by rw [hi3]; exact hl) (tC hat) hg ω (by rw [hi4]; exact growslice_fits hg hb48)
      obtain ⟨fp',g1,g2,g3,g4⟩:=grown cap _ fs hlo (hown.congr (by rw [List.take_take,Nat.min_self])) (fun b hb=>by subst hfp; simp [hb]) (by subst hfp; exact (List.nodup_cons.1 n1).2) _ rfl
      exact ⟨_,_,fp',hr,g1,g2,g3,g4⟩
theorem cj.one {s:Bool}{w:World}{cs:List Value}{x:α}{fp} (h:own s w cs x fp):cj s w cs [x] fp:=by
  refine ⟨fp,[],σ,?_,rfl⟩
  rw [← Rp.len h,List.take_length]; exact h
end
def gone:Rsc:=⟨[],fun _=>True,fun _ _=>trivial,fun _ b hb=>by simp at hb⟩
section
variable {M:Nat→Prop}{w0 w w':World}{Δ F:List Rsc}
theorem ic:∀ {Δ:List Rsc}{j:Nat}{p:Rsc},Δ[j]? = some p→(blocks Δ).Nodup→∀ b∈p.fp,b ∉ blocks (Δ.set j gone)
  | [],j,p,h,_,_,_=>by simp at h
  | a::Δ,0,p,h,hn,b,hb=>by
    simp only [List.getElem?_cons_zero,Option.some.injEq] at h
    subst h
    simp only [List.set_cons_zero,blocks,gone,List.nil_append] at hn ⊢
    exact fun hx=>(List.nodup_append.1 hn).2.2 b hb b hx rfl
  | a::Δ,j+1,p,h,hn,b,hb=>by
    simp only [List.set_cons_succ,blocks] at hn ⊢
    obtain ⟨h1,h2,h3⟩:=List.nodup_append.1 hn
    have hj:Δ[j]? = some p:=by simpa using h
    intro hx
    rcases List.mem_append.1 hx with hx | hx
    · exact h3 b hx b (bm.2 ⟨p,List.mem_of_getElem? hj,hb⟩) rfl
    · exact ic hj h2 b hb hx
theorem Sep.set2 (h:Sep M w0 Δ F w) {i j:Nat}{r p q:Rsc}(hi:Δ[i]? = some r) (hj:Δ[j]? = some p) (hij:Nat.beq j i=false) (e:Ext (· ∈ r.fp) w w') (hq:q.φ w') (hn:q.fp.Nodup)
    (hf:∀ b∈q.fp,b∈r.fp∨b∈p.fp∨w.heap.size≤b):Sep M w0 ((Δ.set j gone).set i q) F w':=by
  have hne:j≠i:=fun e=>by subst e; simp at hij
  have hp:∀ b∈p.fp,b∈blocks Δ:=fun b hb=>bm.2 ⟨p,List.mem_of_getElem? hj,hb⟩
  have hr:∀ b∈r.fp,b∈blocks Δ:=fun b hb=>bm.2 ⟨r,List.mem_of_getElem? hi,hb⟩
  have hi':(Δ.set j gone)[i]? = some r:=by rw [List.getElem?_set_ne hne]; exact hi
  have hg:∀ b∈blocks (Δ.set j gone),b∈blocks Δ:=fun b hb=>by
    rcases dA hj b hb with hb | hb
    · simp [gone] at hb
    · exact hb
  have hnj:(blocks (Δ.set j gone)).Nodup:=iG hj h.nd (by simp [gone]) (by simp [gone])
  have hlt:=h.lt
  have hnd:(blocks ((Δ.set j gone).set i q)).Nodup:=iG hi' hnj hn fun b hb hb'=>by
    rcases hf b hb with hb | hb | hb
    · exact hb
    · exact absurd hb' (ic hj h.nd b hb)
    · have:=hlt b (hg b hb'); omega
  have hall:∀ b∈blocks ((Δ.set j gone).set i q),b∈blocks Δ∨w.heap.size≤b:=fun b hb=>by
    rcases dA hi' b hb with hb | hb
    · rcases hf b hb with hb | hb | hb
      · exact .inl (hr b hb)
      · exact .inl (hp b hb)
      · exact .inr hb
    · exact .inl (hg b hb)
  refine ⟨h.ext.step e fun b hb=>h.new b (hr b hb),fun x hx=>?_,hnd,fun b hb=>?_,fun x hx=>?_,fun x hx b hb hy=>?_⟩
  · rcases jU hi' hnj x hx with rfl | ⟨hx,hd⟩
    · exact hq
    · rcases jU hj h.nd x hx with rfl | ⟨hx,_⟩
      · trivial
      · exact x.st (h.rs x hx) fun b hb=>e.block b (x.lt (h.rs x hx) b hb) (hd b hb)
  · rcases hall b hb with hb | hb
    · exact h.new b hb
    · have:=h.ext.size; exact .inr ω
  · exact x.st (h.fs x hx) fun b hb=>e.block b (x.lt (h.fs x hx) b hb) fun hy=>h.ap x hx b hb (hr b hy)
  · rcases hall b hy with hy | hy
    · exact h.ap x hx b hb hy
    · have:=x.lt (h.fs x hx) b hb; omega
theorem Sep.nodup1 (h:Sep M w0 Δ F w) {i:Nat}{r:Rsc}(hi:Δ[i]? = some r):r.fp.Nodup:=by
  have:[r].Sublist Δ:=List.singleton_sublist.2 (List.mem_of_getElem? hi)
  simpa [blocks] using nZ this h.nd
theorem Sep.apart {i j:Nat}{r p:Rsc}(h:Sep M w0 Δ F w) (hi:Δ[i]? = some r) (hj:Δ[j]? = some p) (hij:Nat.beq j i=false):∀ b∈p.fp,b ∉ r.fp:=fun b hb hr=>by
  have hne:j≠i:=fun e=>by subst e; simp at hij
  have hi':(Δ.set j gone)[i]? = some r:=by rw [List.getElem?_set_ne hne]; exact hi
  exact ic hj h.nd b hb (bm.2 ⟨r,List.mem_of_getElem? hi',hr⟩)
variable {α:Type}[Rp α] {P:Program}{t ty e:TypeId}{z:Value}{bytes:Nat}
theorem Sep.app1 (h:Sep M w0 Δ F w) (i:Nat) {v:Value}{xs:List α}{fp} (hi:Δ[i]? = some (Wk.mine [v] xs fp)) (ht:P.underlying t=some (.slice e)) (hT:Ty P e z (sz α) bytes) (hz:z.cells.size=sz α)
    {b2 c2:Nat}{cs:List Value}{y:α}(hat:At w b2 0 cs) (hy:own true w cs y []) (h63:xs.length+1≤maxLen) (hb48:(xs.length+1)*bytes≤140737488355328) :
    ∃ v' w' fp',(Builtin.append_ #[t,t] ty #[v,.slice (some ⟨b2,0,none⟩) 1 c2]).run P w = .ok v' w'∧Sep M w0 (Δ.set i (Wk.mine [v'] (xs++[y]) fp')) F w':=by
  obtain ⟨v',w',fp',h1,h2,h3,h4,h5⟩:=gK (ty:=ty) ht hT hz (h.mine i hi) (ys:=[y]) (c2:=c2) (m:=1) (by rw [Rp.len hy]; simp) rfl hat (Rp.one hy) (.one hy) σ (h.nodup1 hi) .nil ω h63 hb48
  exact ⟨v',w',fp',h1,h.set hi (q:=Wk.mine [v'] (xs++[y]) fp') h3 h2 h5 fun b hb=>by rcases h4 b hb with h | h | h; exact .inl h; simp at h; exact .inr h⟩
theorem Sep.app2 (h:Sep M w0 Δ F w) (i j:Nat) {v:Value}{xs:List α}{fp} (hi:Δ[i]? = some (Wk.mine [v] xs fp)) (ht:P.underlying t=some (.slice e)) (hT:Ty P e z (sz α) bytes) (hz:z.cells.size=sz α)
    {b2 c2:Nat}{cs:List Value}{y:α}{fy} (hj:Δ[j]? = some (Wk.mine cs y fy)) (hij:Nat.beq j i=false) (hat:At w b2 0 cs) (h63:xs.length+1≤maxLen) (hb48:(xs.length+1)*bytes≤140737488355328) :
    ∃ v' w' fp',(Builtin.append_ #[t,t] ty #[v,.slice (some ⟨b2,0,none⟩) 1 c2]).run P w = .ok v' w'∧Sep M w0 ((Δ.set j gone).set i (Wk.mine [v'] (xs++[y]) fp')) F w':=by
  have hy:=h.mine j hj
  obtain ⟨v',w',fp',h1,h2,h3,h4,h5⟩:=gK (ty:=ty) ht hT hz (h.mine i hi) (ys:=[y]) (c2:=c2) (m:=1) (by rw [Rp.len hy]; simp) rfl hat (Rp.one hy) (.one hy) (h.apart hi hj hij) (h.nodup1 hi) (h.nodup1 hj) ω h63 hb48
  exact ⟨v',w',fp',h1,h.set2 hi hj hij (q:=Wk.mine [v'] (xs++[y]) fp') h3 h2 h5 h4⟩
end
section
variable {P:Program}{n:Nat}{L:Env}{w w':World}{d:Option Tmp}{ty:TypeId}{p:String}{af:Array Edge}{g:Option (Nat × Bool)}
theorem lE {x y:Operand}{t t2:TypeId}{v u v':Value}(hx:evL L x=some v) (hy:evL L y=some u) (hr:(Builtin.append_ #[t,t2] ty #[v,u]).run P w = .ok v' w') :
    Pn P n L w ⟨d,.call ⟨.builtin .append,#[x,y],#[t,t2]⟩,ty,p,af,g⟩ v' w':=fun a ha=>by
  simp [execOp,resolve,invoke,builtin,ha.eval hx,ha.eval hy,hr]
theorem xy {t e:TypeId}{x:Operand}{z:Value}{size bytes m:Nat}(ht:P.underlying t=some (.slice e)) (hT:Ty P e z size bytes) (hx:evL L x=some (.int .i64 m)) (h48:bytes*m≤281474976710656) (h63:m≤maxLen) :
    Pn P n L w ⟨d,.makeSlice t x x,ty,p,af,g⟩ (.slice (some ⟨w.heap.size,0,none⟩) m m) (w.alloc (.cells (madeCells z.cells (m*size)) e)):=fun a ha=>by
  obtain ⟨i,hi1,hi2,hi3,hi4⟩:=hT.parts
  have h63':(m:Int)≤9223372036854775807:=by unfold maxLen at h63; omega
  have hb':(i.bytes:Int)*(m:Int)≤281474976710656:=by
    have h:((i.bytes*m:Nat):Int)≤281474976710656:=by rw [hi4]; omega
    rwa [Int.natCast_mul] at h
  have hr:=run_make (P:=P) w t e i z ht hi1 hi2 .i64 .i64 m m ω (Int.le_refl _) hb' h63'
  simp only [Int.toNat_natCast,hi3] at hr
  simp [execOp,ha.eval hx,hr]
section
variable {α:Type}[Rp α]
theorem cj.of_get {s:Bool}{w:World}:∀ {xs:List α}{cs:List Value},(∀ k (h:k<xs.length),own s w ((cs.drop (k*sz α)).take (sz α)) xs[k] [])→cj s w cs xs []
  | [],_,_=>rfl
  | x :: xs,cs,h=>⟨[],[],rfl,by have:=h 0 σ; simp only [Nat.zero_mul,List.drop_zero,List.getElem_cons_zero] at this; exact this,cj.of_get fun k hk=>by
      have:=h (k+1) (by simpa using hk)
      rw [List.drop_drop]
      rw [Nat.add_mul,Nat.one_mul,Nat.add_comm] at this
      simpa using this⟩
theorem yV (z:Array Value) (m k:Nat) (hk:k<m):((madeCells z (m*z.size)).toList.drop (k*z.size)).take z.size=z.toList:=by
  have hle:(k+1)*z.size≤m*z.size:=Nat.mul_le_mul_right _ hk
  rw [Nat.add_mul,Nat.one_mul] at hle
  apply List.ext_getElem?
  intro j
  rw [List.getElem?_take]
  split
  · rename_i hj
    have h1:k*z.size+j<m*z.size:=by omega
    rw [List.getElem?_drop]
    have h2:(k*z.size+j) % z.size=j:=by rw [Nat.add_comm,Nat.add_mul_mod_self_right,Nat.mod_eq_of_lt hj]
    simp [madeCells,h1,h2,hj]
  · rename_i hj
    rw [List.getElem?_eq_none (by simpa using hj)]
theorem zH {w:World}{z:Value}{x:α}{e:TypeId}{m:Nat}(hz:∀ w,own true w z.cells.toList x []) (h63:m≤maxLen) :
    own true (w.alloc (.cells (madeCells z.cells (m*sz α)) e)) [.slice (some ⟨w.heap.size,0,none⟩) m m] (List.replicate m x) [w.heap.size]:=by
  have hs:z.cells.size=sz α:=by simpa using Rp.len (hz w)
  refine .inr (.inr ⟨w.heap.size,0,m,_,e,(0,0),[],σ,rfl,heap_alloc_new _ _,fun _=>rfl,σ,h63,by rw [size_madeCells]; simp,?_⟩)
  rw [List.drop_zero]
  refine cj.of_get fun k hk=>?_
  rw [List.getElem_replicate]
  have hk':k<m:=by simpa using hk
  rw [← hs,yV z.cells m k hk']
  exact hz _
theorem Sep.made {M:Nat→Prop}{w0 w:World}{Δ F:List Rsc}(h:Sep M w0 Δ F w) {z:Value}{x:α}{e:TypeId}{m:Nat}(hz:∀ w,own true w z.cells.toList x []) (h63:m≤maxLen) :
    Sep M w0 (Δ++[Wk.mine [.slice (some ⟨w.heap.size,0,none⟩) m m] (List.replicate m x) [w.heap.size]]) F (w.alloc (.cells (madeCells z.cells (m*sz α)) e)):=
  h.add (Ext.refl.alloc _) (r:=Wk.mine [.slice (some ⟨w.heap.size,0,none⟩) m m] (List.replicate m x) [w.heap.size]) (zH hz h63) (by simp [Wk.mine]) (by simp [Wk.mine])
theorem cj.zoom {w:World}:∀ {xs:List α}{cs:List Value}{fp:List Nat}{k:Nat},cj true w cs xs fp→∀ hk:k<xs.length,
    ∃ f1 fk f2,fp=f1++(fk++f2)∧own true w ((cs.drop (k*sz α)).take (sz α)) xs[k] fk ∧
      ∀ w' cs' x' fk',cs'.take (k*sz α)=cs.take (k*sz α)→cs'.drop ((k+1)*sz α)=cs.drop ((k+1)*sz α)→(∀ b∈f1,w'.heap[b]? = w.heap[b]?)→(∀ b∈f2,w'.heap[b]? = w.heap[b]?) →
        own true w' ((cs'.drop (k*sz α)).take (sz α)) x' fk'→cj true w' cs' (xs.set k x') (f1++(fk'++f2))
  | [],_,_,k,_,hk=>by simp at hk
  | y::xs,cs,fp,0,⟨f1,f2,e1,h1,h2⟩,_=>by
    refine ⟨[],f1,f2,by simpa using e1,by simpa using h1,fun w' cs' x' fk' _ hd _ hb hx=>?_⟩
    refine ⟨fk',f2,σ,by simpa using hx,?_⟩
    have:cs'.drop (sz α)=cs.drop (sz α):=by simpa using hd
    rw [this]
    exact h2.st hb
  | y::xs,cs,fp,k+1,⟨f1,f2,e1,h1,h2⟩,hk=>by
    obtain ⟨g1,gk,g2,e2,h3,h4⟩:=cj.zoom (k:=k) h2 (by simpa using hk)
    have hle:sz α≤(k+1)*sz α:=by rw [Nat.add_mul]; omega
    have hdd:∀ l:List Value,(l.drop (sz α)).drop (k*sz α)=l.drop ((k+1)*sz α):=fun l=>by rw [List.drop_drop,Nat.add_mul,Nat.one_mul,Nat.add_comm]
    refine ⟨f1++g1,gk,g2,by rw [e1,e2]; simp,by rw [hdd] at h3; simpa using h3,fun w' cs' x' fk' ht hd hb1 hb2 hx=>?_⟩
    refine ⟨f1,g1++(fk'++g2),σ,?_,h4 w' (cs'.drop (sz α)) x' fk' ?_ ?_ (fun b hb=>hb1 b (by simp [hb])) hb2 (by rw [hdd]; exact hx)⟩
    · have ht1:cs'.take (sz α)=cs.take (sz α):=by
        have:=congrArg (List.take (sz α)) ht
        rwa [List.take_take,List.take_take,Nat.min_eq_left hle] at this
      rw [ht1]
      exact Rp.st h1 fun b hb=>hb1 b (by simp [hb])
    · have:=congrArg (List.drop (sz α)) ht
      rw [List.drop_take,List.drop_take] at this
      rwa [show (k+1)*sz α-sz α=k*sz α from by rw [Nat.add_mul]; omega] at this
    · rw [List.drop_drop,List.drop_drop]
      rwa [show (k+1+1)*sz α=sz α+(k+1)*sz α from by rw [Nat.add_mul (k+1)]; omega] at hd
theorem qC {w:World}{ad n cap} {xs:List α}{fp:List Nat}(h:own true w [.slice ad n cap] xs fp) (k:Nat) (hk:k<xs.length) :
    ∃ b o cur T f1 fk f2,ad=some ⟨b,o,none⟩∧fp=b::(f1++(fk++f2))∧w.heap[b]? = some (.cells cur T (0,0))∧o+k*sz α+sz α≤cur.size ∧
      own true w ((cur.toList.drop (o+k*sz α)).take (sz α)) xs[k] fk ∧
      ∀ w' cur' x' fk',w'.heap[b]? = some (.cells cur' T (0,0))→cur'.size=cur.size→(∀ j,j<o+k*sz α∨o+(k+1)*sz α≤j→cur'[j]? = cur[j]?)→(∀ b∈f1,w'.heap[b]? = w.heap[b]?)→(∀ b∈f2,w'.heap[b]? = w.heap[b]?) →
        own true w' ((cur'.toList.drop (o+k*sz α)).take (sz α)) x' fk'→own true w' [.slice ad n cap] (xs.set k x') (b::(f1++(fk'++f2))):=by
  rcases h with ⟨hf,_⟩ | ⟨_,rfl,_⟩ | ⟨b,o,cap',cur,T,fr,fs,h1,h2,h3,h4,h5,h6,h7,h8⟩
  · cases hf
  · simp at hk
  · simp only [List.cons.injEq,Value.slice.injEq,and_true] at h1
    obtain ⟨h1,hn,hc⟩:=h1
    have hfr:=h4 rfl
    subst h1; subst h2; subst hn; subst hc; subst hfr
    obtain ⟨f1,fk,f2,e1,h9,h10⟩:=h8.zoom hk
    have hle:(k+1)*sz α≤cap*sz α:=Nat.mul_le_mul_right _ ω
    have hk1:(k+1)*sz α=k*sz α+sz α:=by rw [Nat.add_mul,Nat.one_mul]
    refine ⟨b,o,cur,T,f1,fk,f2,rfl,by rw [e1],h3,ω,by rw [List.drop_drop] at h9; exact h9,fun w' cur' x' fk' hb hsz hsame hb1 hb2 hx=>?_⟩
    refine .inr (.inr ⟨b,o,cap,cur',T,(0,0),f1++(fk'++f2),σ,rfl,hb,fun _=>rfl,by simpa using h5,h6,by rw [hsz]; exact h7,?_⟩)
    refine h10 w' _ x' fk' ?_ ?_ hb1 hb2 (by rw [List.drop_drop]; exact hx)
    · apply List.ext_getElem?
      intro j
      rw [List.getElem?_take,List.getElem?_take]
      split
      · rename_i hj
        rw [List.getElem?_drop,List.getElem?_drop]
        simpa using hsame (o+j) (.inl ω)
      · rfl
    · apply List.ext_getElem?
      intro j
      rw [List.drop_drop,List.drop_drop,List.getElem?_drop,List.getElem?_drop]
      simpa using hsame (o+(k+1)*sz α+j) (.inr ω)
theorem pA:∀ (vs:List Value) (c:Array Value) (o j:Nat),j<o∨o+vs.length≤j→(lay c o vs)[j]? = c[j]?
  | [],_,_,_,_=>rfl
  | v::vs,c,o,j,h=>by
    simp only [List.length_cons] at h
    rw [lay,pA vs _ _ _ ω,Array.getElem?_setIfInBounds_ne ω]
theorem uk (vs:List Value) (c:Array Value) (o:Nat) (h:o+vs.length≤c.size):((lay c o vs).toList.drop o).take vs.length=vs:=by
  have h5:(c.toList.take o).length=o:=by
    rw [List.length_take]
    have:c.toList.length=c.size:=by simp
    omega
  rw [kD _ _ _ h,List.append_assoc,List.drop_append,h5,List.drop_take]
  simp
theorem Sep.elset {M:Nat→Prop}{w0 w:World}{Δ F:List Rsc}(h:Sep M w0 Δ F w) (i:Nat) {ad n cap} {xs:List α}{fp:List Nat}(hi:Δ[i]? = some (Wk.mine [.slice ad n cap] xs fp)) (k:Nat) (hk:k<xs.length) :
    ∃ b o cur T,ad=some ⟨b,o,none⟩∧w.heap[b]? = some (.cells cur T (0,0))∧o+k*sz α+sz α≤cur.size ∧
      ∀ vs x,own true w vs x []→∃ fp',Sep M w0 (Δ.set i (Wk.mine [.slice ad n cap] (xs.set k x) fp')) F (Wk.put w b (.cells (lay cur (o+k*sz α) vs) T (0,0))):=by
  have hnd:=h.nodup1 hi
  obtain ⟨b,o,cur,T,f1,fk,f2,e1,e2,hb,hsz,hx,hback⟩:=qC (h.mine i hi) k hk
  refine ⟨b,o,cur,T,e1,hb,hsz,fun vs x hvs=>⟨b::(f1++([]++f2)),?_⟩⟩
  have hl:=Rp.len hvs
  change fp.Nodup at hnd
  subst e2
  obtain ⟨n1,n2⟩:=List.nodup_cons.1 hnd
  have hE:Ext (· = b) w (Wk.put w b (.cells (lay cur (o+k*sz α) vs) T (0,0))):=Ext.refl.put (.inl rfl)
  have hlt:=Rp.lt (h.mine i hi)
  have hk1:(k+1)*sz α=k*sz α+sz α:=by rw [Nat.add_mul,Nat.one_mul]
  refine h.set hi (q:=Wk.mine [.slice ad n cap] (xs.set k x) (b::(f1++([]++f2)))) (hE.mono fun b' _ e=>by subst e; simp [Wk.mine]) ?_ ?_ ?_
  · refine hback _ _ x [] (iX hb) (lw _ _ _) (fun j hj=>pA _ _ _ _ (by rcases hj with hj | hj; exact .inl hj; exact .inr (by rw [hl,Nat.add_assoc,← hk1]; exact hj))) (fun b' hb'=>hE.block b' (hlt b' (by simp [hb'])) fun e=>?_) (fun b' hb'=>hE.block b' (hlt b' (by simp [hb'])) fun e=>?_) ?_
    · subst e; exact n1 (by simp [hb'])
    · subst e; exact n1 (by simp [hb'])
    · rw [← hl,uk _ _ _ (by rw [hl]; omega)]
      exact Rp.st hvs σ
  · change (b::(f1++([]++f2))).Nodup
    refine hnd.sublist ?_
    exact List.Sublist.cons_cons _ (List.Sublist.append (.refl _) (List.Sublist.append (List.nil_sublist _) (.refl _)))
  · intro b' hb'
    refine .inl ?_
    change b'∈b::(f1++([]++f2)) at hb'
    change b'∈b::(f1++(fk++f2))
    simp only [List.mem_cons,List.mem_append,List.nil_append] at hb' ⊢
    rcases hb' with h | h | h
    · exact .inl h
    · exact .inr (.inl h)
    · exact .inr (.inr (.inr h))
end
end
end Go.Wk
namespace Go.Wk
open Rp (sz own)
theorem DF {x:Int}(h:I64ok x):IntKind.i64.wrap x=x:=by
  obtain ⟨h1,h2⟩:=h
  exact IntWalk.i64_in _ ⟨ω,ω⟩
section
variable {P:Program}{n:Nat}{ops:Array Oper}{Q:Post}{L:Env}{w w0:World}{M:Nat→Prop}{Δ F:List Rsc}{rest:List Oper}{d:Nat}{ty:TypeId}{p:String}{af:Array Edge}{g:Option (Nat × Bool)}
theorem nk {o:Oper}{ob:Obj}{v:Nat→Value}(hw:Wn ops n L o) (hd:o.dst=some d) (hn:Nat.blt d n=true) (hp:Pn P n L w o (v w.heap.size) (w.alloc ob)) (H:Sep M w0 Δ F w)
    (k:∀ b w',Ext No w w'→w.heap.size≤b→Sep M w0 (Δ++[box b ob]) F w'→RL P n ops Q rest ((d,v b)::L) w'):RL P n ops Q (o::rest) L w:=
  mq hw hd hn hp (k _ _ (Ext.refl.alloc ob) (Nat.le_refl _) (H.alloc ob))
theorem bp {t:TypeId}{x:Operand}{v:Value}(hw:Wn ops n L ⟨some d,.box t x,ty,p,af,g⟩) (hn:Nat.blt d n=true) (hx:evL L x=some v) (H:Sep M w0 Δ F w)
    (k:∀ b w',Ext No w w'→w.heap.size≤b→Sep M w0 (Δ++[box b (.cells v.cells t)]) F w'→RL P n ops Q rest ((d,.pointer (some ⟨b,0,none⟩))::L) w') :
    RL P n ops Q (⟨some d,.box t x,ty,p,af,g⟩::rest) L w:=
  nk (v:=fun b => .pointer (some ⟨b,0,none⟩)) hw rfl hn (Cq hx) H k
theorem bT {t:TypeId}{z:Value}(hw:Wn ops n L ⟨some d,.alloc t,ty,p,af,g⟩) (hn:Nat.blt d n=true) (hz:∀ w,(zeroValue t).run P w = .ok z w) (H:Sep M w0 Δ F w)
    (k:∀ b w',Ext No w w'→w.heap.size≤b→Sep M w0 (Δ++[box b (.cells z.cells t)]) F w'→RL P n ops Q rest ((d,.pointer (some ⟨b,0,none⟩))::L) w') :
    RL P n ops Q (⟨some d,.alloc t,ty,p,af,g⟩::rest) L w:=
  nk (v:=fun b => .pointer (some ⟨b,0,none⟩)) hw rfl hn (uv hz) H k
theorem bE {t:TypeId}{x y:Operand}{b off:Nat}{cs:List Value}{T v} (hw:Wn ops n L ⟨none,.store t x y,ty,p,af,g⟩) (hs:∀ w,(sizeOf t).run P w = .ok 1 w) (hx:evL L x=some (.pointer (some ⟨b,off,none⟩))) (hy:evL L y=some v) (h1:v.oneCell'=true)
    (H:Sep M w0 Δ F w) (i:Nat) (hi:Δ[i]? = some (box b (.cells cs.toArray T))) (ho:Nat.blt off cs.length=true)
    (k:∀ w',Ext (· = b) w w'→Sep M w0 (Δ.set i (box b (.cells (cs.set off v).toArray T))) F w'→RL P n ops Q rest L w') :
    RL P n ops Q (⟨none,.store t x y,ty,p,af,g⟩::rest) L w:=by
  have h:=k _ (Ext.refl.put (.inl rfl)) (H.put i _ hi)
  rw [← List.setIfInBounds_toArray] at h
  exact we hw rfl (jX hs hx hy h1 (H.box i hi) (by rw [List.size_toArray]; exact Nat.le_of_ble_eq_true ho)) h
def aL (cs:List Value) (off:Nat) (vs:List Value):List Value:=cs.take off++vs++cs.drop (off+vs.length)
theorem qr {cs vs:List Value}{off:Nat}(h:off+vs.length≤cs.length):lay cs.toArray off vs=(aL cs off vs).toArray:=by
  apply Array.toList_inj.1
  rw [kD _ _ _ (by simpa using h)]
  simp [aL]
def qt:List Value→Bool
  | []=>true
  | v::vs=>v.oneCell' && qt vs
theorem ig:∀ {vs:List Value},qt vs=true→∀ v∈vs,v.oneCell'=true
  | [],_,v,hv=>by simp at hv
  | u::vs,h,v,hv=>by
    unfold qt at h
    simp only [Bool.and_eq_true] at h
    rcases List.mem_cons.1 hv with rfl | hv
    · exact h.1
    · exact ig h.2 v hv
theorem aT {t:TypeId}{x y:Operand}{b off sz:Nat}{cs:List Value}{T} {vs:List Value}(hw:Wn ops n L ⟨none,.store t x y,ty,p,af,g⟩) (hs:∀ w,(sizeOf t).run P w = .ok sz w) (hx:evL L x=some (.pointer (some ⟨b,off,none⟩))) (hy:evL L y=some (.agg vs.toArray))
    (hl:vs.length=sz) (h1:qt vs=true) (H:Sep M w0 Δ F w) (i:Nat) (hi:Δ[i]? = some (box b (.cells cs.toArray T))) (ho:Nat.ble (off+sz) cs.length=true)
    (k:∀ w',Ext (· = b) w w'→Sep M w0 (Δ.set i (box b (.cells (aL cs off vs).toArray T))) F w'→RL P n ops Q rest L w') :
    RL P n ops Q (⟨none,.store t x y,ty,p,af,g⟩::rest) L w:=by
  have ho':=Nat.le_of_ble_eq_true ho
  have h:=k _ (Ext.refl.put (.inl rfl)) (H.put i _ hi)
  rw [← qr (by rw [hl]; exact ho')] at h
  exact we hw rfl (iE hs hx hy hl (ig h1) (H.box i hi) (by simpa using ho')) h
section
variable {α:Type}[Rp α]
theorem vF {t e:TypeId}{x:Operand}{z:Value}{bytes m:Nat}{y:α}(hw:Wn ops n L ⟨some d,.makeSlice t x x,ty,p,af,g⟩) (hn:Nat.blt d n=true) (ht:P.underlying t=some (.slice e)) (hT:Ty P e z (sz α) bytes) (hz:∀ w,own true w z.cells.toList y [])
    (hx:evL L x=some (.int .i64 m)) (h48:bytes*m≤281474976710656) (h63:m≤maxLen) (H:Sep M w0 Δ F w)
    (k:∀ b w',Ext No w w'→w.heap.size≤b→Sep M w0 (Δ++[mine [.slice (some ⟨b,0,none⟩) m m] (List.replicate m y) [b]]) F w'→RL P n ops Q rest ((d,.slice (some ⟨b,0,none⟩) m m)::L) w') :
    RL P n ops Q (⟨some d,.makeSlice t x x,ty,p,af,g⟩::rest) L w:=
  mq hw rfl hn (xy ht hT hx h48 h63) (k _ _ (Ext.refl.alloc _) (Nat.le_refl _) (H.made hz h63))
theorem im {x y:Operand}{t e:TypeId}{z:Value}{bytes:Nat}{v:Value}{xs:List α}{fp:List Nat}{b2 c2:Nat}{T} {cs:List Value}{u:α}(hw:Wn ops n L ⟨some d,.call ⟨.builtin .append,#[x,y],#[t,t]⟩,ty,p,af,g⟩) (hn:Nat.blt d n=true)
    (ht:P.underlying t=some (.slice e)) (hT:Ty P e z (sz α) bytes) (hz:z.cells.size=sz α) (hx:evL L x=some v) (hy:evL L y=some (.slice (some ⟨b2,0,none⟩) 1 c2))
    (H:Sep M w0 Δ F w) (i j:Nat) (hi:Δ[i]? = some (mine [v] xs fp)) (hj:Δ[j]? = some (box b2 (.cells cs.toArray T))) (hu:own true w cs u []) (h63:xs.length+1≤maxLen) (hb48:(xs.length+1)*bytes≤140737488355328)
    (k:∀ v' w' fp',Sep M w0 (Δ.set i (mine [v'] (xs++[u]) fp')) F w'→RL P n ops Q rest ((d,v')::L) w') :
    RL P n ops Q (⟨some d,.call ⟨.builtin .append,#[x,y],#[t,t]⟩,ty,p,af,g⟩::rest) L w:=by
  obtain ⟨v',w',fp',h1,h2⟩:=H.app1 i hi (ty:=ty) ht hT hz (At.whole (H.box j hj)) hu h63 hb48
  exact mq hw rfl hn (lE hx hy h1) (k _ _ _ h2)
theorem jd {x y:Operand}{t e:TypeId}{z:Value}{bytes:Nat}{v:Value}{xs:List α}{fp:List Nat}{b2 c2:Nat}{T} {cs:List Value}{u:α}{fu} (hw:Wn ops n L ⟨some d,.call ⟨.builtin .append,#[x,y],#[t,t]⟩,ty,p,af,g⟩) (hn:Nat.blt d n=true)
    (ht:P.underlying t=some (.slice e)) (hT:Ty P e z (sz α) bytes) (hz:z.cells.size=sz α) (hx:evL L x=some v) (hy:evL L y=some (.slice (some ⟨b2,0,none⟩) 1 c2))
    (H:Sep M w0 Δ F w) (i j q:Nat) (hi:Δ[i]? = some (mine [v] xs fp)) (hj:Δ[j]? = some (box b2 (.cells cs.toArray T))) (hq:Δ[q]? = some (mine cs u fu)) (hqi:Nat.beq q i=false) (h63:xs.length+1≤maxLen) (hb48:(xs.length+1)*bytes≤140737488355328)
    (k:∀ v' w' fp',Sep M w0 ((Δ.set q gone).set i (mine [v'] (xs++[u]) fp')) F w'→RL P n ops Q rest ((d,v')::L) w') :
    RL P n ops Q (⟨some d,.call ⟨.builtin .append,#[x,y],#[t,t]⟩,ty,p,af,g⟩::rest) L w:=by
  obtain ⟨v',w',fp',h1,h2⟩:=H.app2 i q hi (ty:=ty) ht hT hz hq hqi (At.whole (H.box j hj)) h63 hb48
  exact mq hw rfl hn (lE hx hy h1) (k _ _ _ h2)
theorem Cw {t:TypeId}{x y:Operand}{b off:Nat}{v:Value}{ad:Option Addr}{len cap:Nat}{xs:List α}{fp:List Nat}{u:α}(hw:Wn ops n L ⟨none,.store t x y,ty,p,af,g⟩) (hs:∀ w,(sizeOf t).run P w = .ok (sz α) w) (h1:sz α=1)
    (H:Sep M w0 Δ F w) (i:Nat) (hi:Δ[i]? = some (mine [.slice ad len cap] xs fp)) (q:Nat) (hq:q<xs.length) (hx:evL L x=some (.pointer (some ⟨b,off+q*sz α,none⟩))) (had:ad=some ⟨b,off,none⟩) (hy:evL L y=some v) (hu:own true w [v] u [])
    (k:∀ w' fp',Ext (· = b) w w'→Sep M w0 (Δ.set i (mine [.slice ad len cap] (xs.set q u) fp')) F w'→RL P n ops Q rest L w') :
    RL P n ops Q (⟨none,.store t x y,ty,p,af,g⟩::rest) L w:=by
  obtain ⟨b',o',cur,T,e1,hb,hsz,hk⟩:=H.elset i hi q hq
  rw [had] at e1
  simp only [Option.some.injEq,Addr.mk.injEq,and_true] at e1
  obtain ⟨rfl,rfl⟩:=e1
  obtain ⟨fp',h⟩:=hk [v] u hu
  refine we hw rfl (jX (by rw [h1] at hs; exact hs) hx hy (Rp.one hu v σ) hb ω) ?_
  exact k _ fp' (Ext.refl.put (.inl rfl)) h
end
theorem cI {o:Oper}{f:FuncId}{args:Array Value}{x:Value}(hw:Wn ops n L o) (hd:o.dst=some d) (hn:Nat.blt d n=true) (hp:Pc P n L w o f args)
    (hc:Ret P f args w fun v w'=>Ext No w w'∧v=x) (k:∀ w',Ext No w w'→RL P n ops Q rest ((d,x)::L) w'):RL P n ops Q (o::rest) L w:=
  cY hw hd hn hp hc fun _ w' h=>by obtain ⟨h1,rfl⟩:=h; exact k w' h1
theorem qM {t e:TypeId}{z:Value}{size bytes len:Nat}{d:Option Tmp}{parts:Array (Nat × Operand)}{vs:List Value}(ht:P.underlying t=some (.slice e)) (hT:Ty P e z size bytes) (hs:0<size)
    (hl:vs.length=len) (hp:∀ a,Good n a L→(parts.map fun (i,x)=>(i,a.eval x)).toList=(vs.zipIdx 0).map fun x=>(x.2,x.1)) (h1:∀ v∈vs,v.cells.size=size) (h0:0<len) (hsmall:len*size≤2^24) :
    Pn P n L w ⟨d,.buildSlice t len parts,ty,p,af,g⟩ (.slice (some ⟨w.heap.size,0,none⟩) len len) (w.alloc (.cells (vs.flatMap fun v=>v.cells.toList).toArray e)):=fun a ha=>by
  obtain ⟨i,hi1,hi2,hi3,hi4⟩:=hT.parts
  have hne:¬ len*i.size=0:=by rw [hi3]; exact Nat.ne_of_gt (Nat.mul_pos h0 hs)
  have hr:=run_buildSlice (P:=P) w t e len (parts.map fun (i,x)=>(i,a.eval x)) (vs.flatMap fun v=>v.cells.toList).toArray i z ht hi1 hi2 (by rw [hi3]; omega) hne (by
    rw [hp a ha,hi3]
    exact Great.fill_whole hs vs _ h1 (by rw [hl]; simp))
  simp [execOp] at hr ⊢
  rw [hr]
  rfl
theorem ru {x:Operand}{v:Value}(hx:evL L x=some v):∀ a,Good n a L→((#[(0,x)]:Array (Nat × Operand)).map fun (i,x)=>(i,a.eval x)).toList=(([v]:List Value).zipIdx 0).map fun x=>(x.2,x.1):=fun a ha=>by
  simp [ha.eval hx]
theorem dL {t e:TypeId}{x:Operand}{z v:Value}{size bytes:Nat}(hw:Wn ops n L ⟨some d,.buildSlice t 1 #[(0,x)],ty,p,af,g⟩) (hn:Nat.blt d n=true) (ht:P.underlying t=some (.slice e)) (hT:Ty P e z size bytes) (hs:Nat.blt 0 size=true)
    (hx:evL L x=some v) (h1:v.cells.size=size) (hsmall:Nat.ble size 16777216=true) (H:Sep M w0 Δ F w)
    (k:∀ b w',Ext No w w'→w.heap.size≤b→Sep M w0 (Δ++[box b (.cells v.cells.toList.toArray e)]) F w'→RL P n ops Q rest ((d,.slice (some ⟨b,0,none⟩) 1 1)::L) w') :
    RL P n ops Q (⟨some d,.buildSlice t 1 #[(0,x)],ty,p,af,g⟩::rest) L w:=by
  have hp:=qM (n:=n) (w:=w) (ty:=ty) (p:=p) (af:=af) (g:=g) (d:=some d) (parts := #[(0,x)]) (vs:=[v]) (len:=1) ht hT (Nat.le_of_ble_eq_true hs) rfl (ru hx) (by simpa using h1) ω (by have:=Nat.le_of_ble_eq_true hsmall; omega)
  simp only [List.flatMap_cons,List.flatMap_nil,List.append_nil] at hp
  exact nk (v:=fun b => .slice (some ⟨b,0,none⟩) 1 1) hw rfl hn hp H k
theorem xB {t e:TypeId}{z:Value}{size bytes:Nat}{d:Option Tmp}(ht:P.underlying t=some (.slice e)) (hT:Ty P e z size bytes) :
    Pn P n L w ⟨d,.buildSlice t 0 #[],ty,p,af,g⟩ (.slice (some ⟨w.heap.size,0,none⟩) 0 0) (w.alloc (.cells #[] e)):=fun a ha=>by
  obtain ⟨i,hi1,hi2,hi3,hi4⟩:=hT.parts
  simp [execOp,Instr.buildSlice,run_underlying ht,sizeOf,typeInfo,hi1,Instr.fill,newRow,newObj,Array.range_zero']
  rfl
theorem dU {α:Type}[Rp α] {t e:TypeId}{z:Value}{size bytes:Nat}(hw:Wn ops n L ⟨some d,.buildSlice t 0 #[],ty,p,af,g⟩) (hn:Nat.blt d n=true) (ht:P.underlying t=some (.slice e)) (hT:Ty P e z size bytes) (H:Sep M w0 Δ F w)
    (k:∀ b w',Ext No w w'→w.heap.size≤b→Sep M w0 (Δ++[mine [.slice (some ⟨b,0,none⟩) 0 0] ([]:List α) [b]]) F w'→RL P n ops Q rest ((d,.slice (some ⟨b,0,none⟩) 0 0)::L) w') :
    RL P n ops Q (⟨some d,.buildSlice t 0 #[],ty,p,af,g⟩::rest) L w:=
  mq hw rfl hn (xB ht hT) (k _ _ (Ext.refl.alloc _) (Nat.le_refl _) (H.add (Ext.refl.alloc _) (r:=mine [.slice (some ⟨w.heap.size,0,none⟩) 0 0] ([]:List α) [w.heap.size])
    (.inr (.inr ⟨w.heap.size,0,0,#[],e,(0,0),[],rfl,rfl,heap_alloc_new _ _,fun _=>rfl,Nat.le_refl _,Nat.zero_le _,σ,rfl⟩)) (by simp [mine]) (by simp [mine])))
theorem zF {t:TypeId}{parts:Array (Nat × Operand)}{d:Option Tmp}{cells:Array Value}(hb:∀ a,Good n a L→P.built t (parts.map fun (i,x)=>(i,a.eval x)).toList=some cells) :
    Py P n L w ⟨d,.build t parts,ty,p,af,g⟩ (.agg cells):=fun a ha=>by
  have hr:=run_build (P:=P) w t _ cells (hb a ha)
  simp [execOp] at hr ⊢
  rw [hr]
  rfl
end
end Go.Wk
namespace Go.Wk
theorem Z {α:Sort _}{a:α}:a=a:=rfl
def oQ:List Nat→List (Nat × Bool)
 | []=>[]
 | x::xs=>(x / 2,x % 2 == 1)::oQ xs
theorem iO {x:Int}(h1 : -9223372036854775808≤x:=by omega) (h2:x≤9223372036854775807:=by omega):IntKind.i64.wrap x=x:=DF ⟨h1,h2⟩
/-- A plain operation,carried out: what it leaves,or nothing is known. -/
def evB (L:Env):Op→Option Value
 | .move x=>evL L x
 | .assign x=>evL L x
 | .nilCheck x=>match evL L x with
  | some (.pointer (some a))=>some (.pointer (some a))
  | _=>none
 | .extract x i=>match evL L x with
  | some (.tuple vs)=>vs[i]?
  | _=>none
 | .binOp b _ x y _=>match evL L x with
  | some (.int k i)=>match evL L y with
   | some (.int k2 j)=>match decide (k=k2) with
    | true=>match b with
     | .eql=>some (.bool (decide (i=j)))
     | .neq=>some (.bool (decide (i≠j)))
     | .lss=>some (.bool (decide (i<j)))
     | .leq=>some (.bool (decide (i≤j)))
     | .gtr=>some (.bool (decide (j<i)))
     | .geq=>some (.bool (decide (j≤i)))
     | _=>none
    | false=>none
   | _=>none
  | _=>none
 | _=>none
theorem zU {P:Program}{n:Nat}{L:Env}{w:World}{op:Op}{v:Value}{d:Option Tmp}{ty:TypeId}{p:String}{af:Array Edge}{g:Option (Nat × Bool)}(h:evB L op=some v):Py P n L w ⟨d,op,ty,p,af,g⟩ v:=by
  unfold evB at h
  repeat' split at h
  all_goals (try (have ek:=of_decide_eq_true (by assumption:decide (_=(_:IntKind))=true); subst ek))
  all_goals first
    | exact aF h
    | exact bl h
    | (cases h; exact gg η)
    | (exact pB η h)
    | (cases h; exact bH η η)
    | (cases h; exact cn η η)
    | (cases h; exact ba η η)
    | (cases h; exact ot η η)
    | (cases h; exact dG η η)
    | (cases h; exact mD η η)
    | cases h
/-- Whether a guard says that it is left out. -/
def evG (ops:Array Oper) (L:Env) (j:Nat) (b:Bool):Bool:=match gh ops j with
 | some t=>match look L t with
  | some (.bool c)=>match b,c with
   | true,false=>true
   | false,true=>true
   | _,_=>false
  | _=>false
 | none=>false
theorem wD {n:Nat}{ops:Array Oper}{L:Env}{j:Nat}{b:Bool}{o:Oper}(hg:o.guard=some (j,b)) (h:evG ops L j b=true):Wo ops n L o:=by
  unfold evG at h
  repeat' split at h
  all_goals first
    | (exact wog (b:=false) hg η η)
    | (exact wog (b:=true) hg η η)
    | cases h
def evS (n:Nat) (ops:Array Oper):Nat→List Oper→Env→Option (List Oper × Env)
 | 0,l,L=>some (l,L)
 | k+1,⟨some d,op,_,_,_,g⟩::l,L=>match Nat.blt d n with
  | true=>match g with
   | none=>match evB L op with
    | some v=>evS n ops k l ((d,v)::L)
    | none=>none
   | some (j,b)=>match evG ops L j b with
    | true=>evS n ops k l ((d,undef)::L)
    | false=>none
  | false=>none
 | _+1,_,_=>none
theorem sR {P:Program}{n:Nat}{ops:Array Oper}{Q:Post}{w:World}:∀ (k:Nat) {l l':List Oper}{L L':Env},evS n ops k l L=some (l',L')→RL P n ops Q l' L' w→RL P n ops Q l L w
 | 0,_,_,_,_,h,kk=>by cases h; exact kk
 | k+1,[],_,_,_,h,_=>by cases h
 | k+1,⟨none,_,_,_,_,_⟩::_,_,_,_,h,_=>by cases h
 | k+1,⟨some d,op,ty,p,af,g⟩::l,l',L,L',h,kk=>by
  unfold evS at h
  repeat' split at h
  all_goals first
   | (cases h; done)
   | exact am (wn rfl) rfl η (zU η) (sR k h kk)
   | exact tv (wD rfl η) rfl η (sR k h kk)
def evD (n:Nat) (ops:Array Oper):Nat→List (Nat × Bool)→Env→Option (List (Nat × Bool) × Env)
 | 0,l,L=>some (l,L)
 | k+1,(i,a)::l,L=>match ops.toList[i]? with
  | some ⟨some d,op,_,_,_,g⟩=>match Nat.blt d n with
   | true=>match g with
    | none=>match a with
     | true=>match evB L op with
      | some v=>evD n ops k l ((d,v)::L)
      | none=>none
     | false=>none
    | some (j,b)=>match evG ops L j b with
     | true=>evD n ops k l ((d,undef)::L)
     | false=>none
   | false=>none
  | _=>none
 | _+1,[],_=>none
theorem dR {P:Program}{n:Nat}{ops:Array Oper}{Q:Post}{S:World→Prop}{w:World}:∀ (k:Nat) {l l':List (Nat × Bool)}{L L':Env},evD n ops k l L=some (l',L')→DL P n ops Q S l' L' w→DL P n ops Q S l L w
 | 0,_,_,_,_,h,kk=>by cases h; exact kk
 | k+1,[],_,_,_,h,_=>by cases h
 | k+1,(i,a)::l,l',L,L',h,kk=>by
  unfold evD at h
  repeat' split at h
  all_goals first
   | (cases h; done)
   | exact ay η (wn rfl) rfl η (fun x _=>zU η) (dR k h kk)
   | (cases a; (exact Bv η (wD rfl η) rfl η (dR k h kk)); (exact cb η (wD rfl η) rfl η (dR k h kk)))
end Go.Wk
namespace Go.Wk
section
variable {P:Program}{n:Nat}{ops:Array Oper}{Q:Post}{L:Env}{w w0 w1:World}{M N:Nat→Prop}{Δ F:List Rsc}{d:Nat}{o:Oper}{f:FuncId}{fn:Func}{args:Array Value}{u v:Value}{R:Value→World→Prop}{rest:List Oper}{rest2:List (Nat × Bool)}{S:World→Prop}{i:Nat}{ty:TypeId}{p:String}{af:Array Edge}{xs:Array Operand}{ats:Array TypeId}{vs:List Value}{x:Operand}
theorem sC (hf:P.funcs[f]? = some fn) (hm:(fn.name == "runtime.NumGoroutine")=false) (hb:(Nat.blt d n,fn.body.isNone,fM L xs.toList)=(true,false,some vs)) (hc:Ret P f vs.toArray w R)
  (k:∀ v w',R v w'→RL P n ops Q rest ((d,v)::L) w'):RL P n ops Q (⟨some d,.call ⟨.value (.func f),xs,ats⟩,ty,p,af,none⟩::rest) L w:=by
 simp only [Prod.mk.injEq] at hb
 exact cY (wn rfl) rfl hb.1 (aP hf hb.2.1 hm hb.2.2) hc k
theorem sE (hf:P.funcs[f]? = some fn) (hm:(fn.name == "runtime.NumGoroutine")=false) (hb:(Nat.blt d n,fn.body.isNone,fM L xs.toList)=(true,false,some vs)) (hc:Ret P f vs.toArray w fun v w'=>Ext No w w'∧v=u) (H:Sep M w0 Δ F w)
  (k:∀ w',Ext No w w'→Sep M w0 Δ F w'→RL P n ops Q rest ((d,u)::L) w'):RL P n ops Q (⟨some d,.call ⟨.value (.func f),xs,ats⟩,ty,p,af,none⟩::rest) L w:=
 sC hf hm hb hc fun _ w' r=>by obtain ⟨e,rfl⟩:=r; exact k w' e (H.to e)
theorem dC (hf:P.funcs[f]? = some fn) (hm:(fn.name == "runtime.NumGoroutine")=false) (hb:(ops.toList[i]?,Nat.blt d n,fn.body.isNone,fM L xs.toList)=(some ⟨some d,.call ⟨.value (.func f),xs,ats⟩,ty,p,af,none⟩,true,false,some vs)) (hc:Ret P f vs.toArray w fun v w'=>Ext No w w'∧R v w')
  (k:∀ v w',Ext No w w'∧R v w'→DL P n ops Q (Ext N w1) rest2 ((d,v)::L) w'):DL P n ops Q (Ext N w1) ((i,false)::rest2) L w:=by
 simp only [Prod.mk.injEq] at hb
 exact bD hb.1 (wn rfl) rfl hb.2.1 (aP hf hb.2.2.1 hm hb.2.2.2) hc (fun hS _ _ r _=>hS.trans r.1.no) k
theorem sF {s:TypeId}{fs:Array Field}{b o i sz off:Nat}{f:Field}(hu:P.underlying s=some (.struct fs)) (h:(Nat.blt d n,fs[i]?,evL L x,o+f.offset)=(true,some f,some (.pointer (some ⟨b,o,none⟩)),off)) (hs:∀ w,(sizeOf f.type).run P w = .ok (sz+1) w)
  (k:RL P n ops Q rest ((d,.pointer (some ⟨b,off,none⟩))::L) w):RL P n ops Q (⟨some d,.fieldAddr s x i,ty,p,af,none⟩::rest) L w:=by
 simp only [Prod.mk.injEq] at h
 exact am (wn rfl) rfl h.1 (ab hu h.2.1 hs h.2.2.1 h.2.2.2) k
theorem sLd {t td} {b o:Nat}{cs:List Value}{T fr} (hu:P.underlying t=some td) (hb:w.heap[b]? = some (.cells cs.toArray T fr)) (h:(Nat.blt d n,single td,evL L x,cs[o]?)=(true,true,some (.pointer (some ⟨b,o,none⟩)),some v))
  (k:RL P n ops Q rest ((d,v)::L) w):RL P n ops Q (⟨some d,.load t x,ty,p,af,none⟩::rest) L w:=by
 simp only [Prod.mk.injEq] at h
 exact am (wn rfl) rfl h.1 (ac hu h.2.1 h.2.2.1 (aj hb h.2.2.2)) k
theorem rN {t:Nat}(hQ:∀ L w,fin P fn R .ret L w→Q .ret L w) (hr:fn.results = #[.tmp t]) (hv:look L t=some v) (h:R v w):RL P n ops (thn P n .ret Q) [] L w:=aa (rT hQ hr hv h)
theorem rA (hQ:∀ L w,fin P fn R .ret L w→Q .ret L w) (hr:fn.results = #[.tmp d]) (h1:(Nat.blt d n,evL L x)=(true,some v)) (h:R v w):RL P n ops (thn P n .ret Q) [⟨some d,.assign x,ty,p,af,none⟩] L w:=by
 simp only [Prod.mk.injEq] at h1
 exact sA h1.1 h1.2 (rN hQ hr (by simp [look]) h)
theorem dF (hc:(Nat.ble ops.size 1000,Nat.ble 1000 i,Nat.ble (i-1000) rest2.length,(rest2.take (i-1000)).isEmpty,(rest2.drop (i-1000)).isEmpty)=(true,true,true,false,false)) (h1:DL P n ops Q S (rest2.take (i-1000)) L w) (h2:DL P n ops Q S (rest2.drop (i-1000)) L w):DL P n ops Q S ((i,false)::rest2) L w:=by
 simp only [Prod.mk.injEq] at hc
 have h3:=Nat.le_of_ble_eq_true hc.2.1
 have h4:=Nat.le_of_ble_eq_true hc.2.2.1
 refine Cs (l1:=rest2.take (i-1000)) (l2:=rest2.drop (i-1000)) hc.1 ?_ hc.2.2.2.1 hc.2.2.2.2 h1 h2
 rw [List.take_append_drop,List.length_take,Nat.min_eq_left h4,Nat.add_sub_cancel' h3]
end
end Go.Wk

namespace Go.Wk
def gv (e want:Bool) (v:Value):Value:=if e=want then v else undef
section
variable {P:Program}{n:Nat}{ops:Array Oper}{Q:Post}{L:Env}{w:World}{S:World→Prop}
theorem wgE {o:Oper}{j t b e} (h:o.guard=some (j,b)) (hd:gh ops j=some t) (hb:look L t=some (.bool e)) (he:e=b):Wn ops n L o:=by
  subst he; exact wg h hd hb
theorem eq {c y:Operand}{e b:Bool}{d:Option Tmp}{ty:TypeId}{p:String}{af:Array Edge}{g:Option (Nat × Bool)}(hc:evL L c=some (.bool e)) (hy:evL L y=some (gv e false (.bool b))) :
    Py P n L w ⟨d,.pick c (.const (.bool true)) y,ty,p,af,g⟩ (.bool (e || b)):=by
  cases e
  · exact aJ hc hy
  · exact aG hc rfl
theorem bc {c y:Operand}{e b:Bool}{d:Option Tmp}{ty:TypeId}{p:String}{af:Array Edge}{g:Option (Nat × Bool)}(hc:evL L c=some (.bool e)) (hy:evL L y=some (gv e true (.bool b))) :
    Py P n L w ⟨d,.pick c y (.const (.bool false)),ty,p,af,g⟩ (.bool (e && b)):=by
  cases e
  · exact aJ hc rfl
  · exact aG hc hy
def fresh (d:Nat):Env→Bool
  | []=>true
  | p::L => !(Nat.beq p.1 d) && fresh d L
theorem pK {d:Nat}:∀ {L:Env},fresh d L=true→look L d=none
  | [],_=>rfl
  | (u,x)::L,h=>by
    unfold fresh at h
    simp only [Bool.and_eq_true] at h
    unfold look
    cases hb:Nat.beq u d with
    | true=>rw [hb] at h; simp at h
    | false=>exact pK h.2
theorem AI {o:Oper}{j t b} (h:o.guard=some (j,b)) (hd:gh ops j=some t) (hu:look L t=some undef):Wo ops n L o:=fun a hg=>by
  have h1:=hg.cov t _ hu
  have hd':(ops[j]?).bind (·.dst)=some t:=by simpa [gh] using hd
  have hy:yielded ops a.tmps j=none:=by
    simp only [yielded,hd',Option.bind_some]
    simp only [Array.getD_eq_getD_getElem?] at h1
    cases ht:a.tmps[t]? with
    | none=>rfl
    | some v=>rw [ht] at h1; simp at h1; subst h1; rfl
  simp [Region.wanted,h,hy]
theorem Dm {o:Oper}{j t b e} (h:o.guard=some (j,b)) (hd:gh ops j=some t) (hb:look L t=some (.bool e)) (he:e≠b):Wo ops n L o:=fun a hg=>by
  simp [Region.wanted,h,oy hg hd hb,he]
def skG (ops:Array Oper) (n:Nat) (L:Env) (j:Nat) (want:Bool):List Nat→List Oper→Bool
  | _,[]=>true
  | D,o::l=>(match o.guard with
      | some (j',b)=>(Nat.beq j' j && (b == want)) || (match gh ops j' with | some t=>D.contains t | none=>false)
      | none=>false) && (match o.dst with
      | some d=>fresh d L && Nat.blt d n && skG ops n L j want (d::D) l
      | none=>skG ops n L j want D l)
def keeps (L' L:Env):Prop:=∀ t v,look L t=some v→look L' t=some v
theorem k0:keeps L L:=fun _ _ h=>h
theorem kx {L':Env}{d v} (hf:fresh d L=true) (h:keeps L' L):keeps ((d,v)::L') L:=fun t u ht=>by
  unfold look
  cases hb:Nat.beq d t with
  | true=>
    have:d=t:=Nat.eq_of_beq_eq_true hb
    subst this
    rw [pK hf] at ht; cases ht
  | false=>exact h t u ht
theorem qL {j tg t:Nat}{want e:Bool}(hd:gh ops j=some tg) (he:e≠want) {rest:List Oper}(hb:look L tg=some (.bool e)) (k:∀ L',look L' t=some undef→keeps L' L→RL P n ops Q rest L' w) :
    ∀ (l:List Oper) (D:List Nat) (L':Env),skG ops n L j want D l=true→(∀ d∈D,look L' d=some undef)→keeps L' L→(t∈D∨(l.any fun o=>match o.dst with | some d=>Nat.beq d t | none=>false)=true)→RL P n ops Q (l++rest) L' w
  | [],D,L',_,hD,hs,ht=>k L' (hD t (ht.resolve_right σ)) hs
  | o::l,D,L',hc,hD,hs,ht=>by
    unfold skG at hc
    simp only [Bool.and_eq_true] at hc
    obtain ⟨hg,hc⟩:=hc
    have hw:Wo ops n L' o:=by
      cases hgu:o.guard with
      | none=>rw [hgu] at hg; cases hg
      | some q=>
        obtain ⟨j',b⟩:=q
        rw [hgu] at hg
        simp only [Bool.or_eq_true,Bool.and_eq_true] at hg
        rcases hg with ⟨h1,h2⟩ | h1
        · have:j'=j:=Nat.eq_of_beq_eq_true h1
          subst this
          have hbw:b=want:=by simpa using h2
          subst hbw
          exact Dm hgu hd (hs _ _ hb) he
        · cases hdo:gh ops j' with
          | none=>rw [hdo] at h1; cases h1
          | some t=>rw [hdo] at h1; exact AI hgu hdo (hD t (by simpa using h1))
    cases hdst:o.dst with
    | none=>
      rw [hdst] at hc
      refine BO hw hdst (qL hd he hb k l D L' hc hD hs ?_)
      simpa [hdst] using ht
    | some d=>
      rw [hdst] at hc
      simp only [Bool.and_eq_true] at hc
      refine tv hw hdst hc.1.2 (qL hd he hb k l (d::D) _ hc.2 (fun x hx=>?_) (kx hc.1.1 hs) ?_)
      · unfold look
        cases hb':Nat.beq d x with
        | true=>rfl
        | false=>
          rcases List.mem_cons.1 hx with rfl | hx
          · simp at hb'
          · exact hD x hx
      · rcases ht with ht | ht
        · exact .inl (by simp [ht])
        · simp only [List.any_cons,hdst,Bool.or_eq_true] at ht
          rcases ht with ht | ht
          · exact .inl (by rw [Nat.eq_of_beq_eq_true ht]; simp)
          · exact .inr ht
theorem kX {t:Nat}{v:Value}{M:Env}(hs:keeps M L) (ht:look M t=some v):keeps M ((t,v)::L):=fun u x h=>by
  unfold look at h
  cases hb:Nat.beq t u with
  | true=>
    have:t=u:=Nat.eq_of_beq_eq_true hb
    subst this
    rw [hb] at h; cases h; exact ht
  | false=>rw [hb] at h; exact hs u x h
theorem bv {l:List Oper}(m:Nat) {j tg t:Nat}{want e:Bool}{v:Value}(hd:gh ops j=some tg) (hb:look L tg=some (.bool e)) (hc:skG ops n L j want [] (l.take m)=true)
    (hD:((l.take m).any fun o=>match o.dst with | some d=>Nat.beq d t | none=>false)=true)
    (h1:e=want→(∀ L' w',keeps L' L→look L' t=some v→Ext No w w'→RL P n ops Q (l.drop m) L' w')→RL P n ops Q l L w)
    (k:∀ w',Ext No w w'→RL P n ops Q (l.drop m) ((t,gv e want v)::L) w'):RL P n ops Q l L w:=by
  by_cases he:e=want
  · refine h1 he fun L' w' hs ht hE a ha=>k w' hE a ⟨ha.size,ha.defers,fun u x hu=>ha.cov u x (kX hs ht u x ?_)⟩
    rwa [gv,if_pos he] at hu
  · have hk:=k w Ext.refl
    rw [gv,if_neg he] at hk
    have:=qL (t:=t) (rest:=l.drop m) hd he hb (fun L' ht hs a ha=>hk a ⟨ha.size,ha.defers,fun u x hu=>ha.cov u x (kX hs ht u x hu)⟩) (l.take m) [] L hc σ k0 (.inr hD)
    rwa [List.take_append_drop] at this
end
end Go.Wk
namespace Go.Wk
open Rp (sz own)
theorem aI {α:Type}{p:α→Prop}{a:α}{l:List α}(h:p a) (k:∀ x∈l,p x):∀ x∈a::l,p x:=fun x hx=>by
  rcases List.mem_cons.1 hx with rfl | hx
  · exact h
  · exact k x hx
theorem AC:∀ w,own true w (Value.int .u8 0).cells.toList (0:UInt8) []:=fun _=>⟨rfl,rfl⟩
theorem Cn:∀ w,own true w (Value.bool false).cells.toList false []:=fun _=>⟨rfl,rfl⟩
theorem wm {w:World}{x:UInt8}:own true w [.int .u8 x.toNat] x []:=⟨rfl,rfl⟩
def ins (v lo hi:Int):Bool:=decide (lo≤v) && decide (v≤hi)
theorem cq {v lo hi:Int}:ins v lo hi=true↔lo≤v∧v≤hi:=by simp [ins]
theorem CB {v lo hi:Int}:ins v lo hi=false↔¬ (lo≤v∧v≤hi):=by rw [← cq]; simp
structure Shape where
  Groups:Int
  Column:Int
  Data:Int
  Spare:Int
  Rows:Int
  Cap:Int
  Batch:Int
  Queue:Int
  Stage:Int
def Shape.v (s:Shape):Value := .agg #[.int .i64 s.Groups,.int .i64 s.Column,.int .i64 s.Data,.int .i64 s.Spare,.int .i64 s.Rows,.int .i64 s.Cap,.int .i64 s.Batch,.int .i64 s.Queue,.int .i64 s.Stage]
def cOK (g c:Int):Bool:=ins g 1 4 && ins c 0 2
def rOK (d s:Int):Bool:=ins d 1 3 && ins s 0 2
def Shape.ok (s:Shape):Bool:=cOK s.Groups s.Column && rOK s.Data s.Spare && ins s.Rows 1 6 && ins s.Cap 1 6 && ins s.Batch 1 4 && ins s.Queue 1 6 && ins s.Stage 0 400
def Shape.fault (s:Shape):Int:=if s.ok then 0 else 3
theorem Shape.no {s:Shape}(h:(!s.ok)=true):Value.int .i64 3 = .int .i64 s.fault:=by
  unfold Shape.fault; cases hs:s.ok<;>simp_all
theorem Shape.yes {s:Shape}(h:(!s.ok)=false):Value.int .i64 0 = .int .i64 s.fault:=by
  unfold Shape.fault; cases hs:s.ok<;>simp_all
theorem not_true {b:Bool}(h:(!b)=true):b=false:=by cases b<;>simp_all
theorem not_false {b:Bool}(h:(!b)=false):b=true:=by cases b<;>simp_all
end Go.Wk
namespace Go.Wk
open Rp (sz own)
def ud (i:Nat) (c:UInt8):Bool:=(decide (97≤(c.toNat:Int)) && decide ((c.toNat:Int)≤122)) || (!(decide (i=0)) && (decide (48≤(c.toNat:Int)) && decide ((c.toNat:Int)≤57)))
def t8 (b:ByteArray):Nat→Bool
  | 0=>true
  | k+1=>t8 b k && ud k (gB b k)
theorem uB {b:ByteArray}:∀ {n:Nat},t8 b n=true→∀ k,k<n→ud k (gB b k)=true
  | 0,_,k,hk=>by omega
  | n+1,h,k,hk=>by
    unfold t8 at h
    simp only [Bool.and_eq_true] at h
    by_cases e:k=n
    · subst e; exact h.2
    · exact uB h.1 k ω
def jt (b:ByteArray):Bool:=decide (1≤b.size) && decide (b.size≤8) && t8 b b.size
def cT (b:ByteArray):Int:=if jt b then 0 else 5
theorem px {b:ByteArray}(h:jt b=false):Value.int .i64 5 = .int .i64 (cT b):=by simp [cT,h]
theorem uD {b:ByteArray}(h:jt b=true):Value.int .i64 0 = .int .i64 (cT b):=by simp [cT,h]
theorem mv {b:ByteArray}(k:Nat) (hk:k<b.size) (h:ud k (gB b k)=false):jt b=false:=by
  cases hn:jt b with
  | false=>rfl
  | true=>
    unfold jt at hn
    simp only [Bool.and_eq_true] at hn
    rw [uB hn.2 k hk] at h
    cases h
theorem fo {s:Shape}(h:s.fault=0):s.ok=true:=by
  unfold Shape.fault at h
  split at h
  · assumption
  · omega
structure Ticket where
  Id:Int
  Kind:Int
  Name:ByteArray
  Group:Int
def Ticket.v (t:Ticket):Value := .agg #[.int .i64 t.Id,.int .i64 t.Kind,.string t.Name,.int .i64 t.Group]
theorem bg {s:Shape}(h:s.ok=true):1≤s.Groups∧s.Groups≤4∧0≤s.Column∧s.Column≤2∧1≤s.Data∧s.Data≤3∧0≤s.Spare∧s.Spare≤2∧1≤s.Rows∧s.Rows≤6∧1≤s.Cap∧s.Cap≤6∧1≤s.Batch∧s.Batch≤4∧1≤s.Queue∧s.Queue≤6∧0≤s.Stage∧s.Stage≤400:=by
  unfold Shape.ok cOK rOK at h
  simp only [Bool.and_eq_true,cq] at h
  omega
theorem sJ {a b:ByteArray}:a.toList=b.toList↔a=b:=by
  rw [ByteArray.toList_eq,ByteArray.toList_eq]
  exact ⟨fun h=>WideShapes.bytes_inj h,fun h=>by rw [h]⟩
theorem tw {a b:ByteArray}:(a.toList == b.toList)=decide (a=b):=by
  rw [Bool.eq_iff_iff]
  simp [sJ]
end Go.Wk
namespace Go.Wk
open Rp (sz own)
open Go.ChangeShapes Go.WideShapes Go.ChangeAt Go.RowKit
theorem t6 {cs:List Value}{v:Value}(n:Nat) (h:v∈cs):v∈cs.take n∨v∈cs.drop n:=by
  rw [← List.take_append_drop n cs] at h
  exact List.mem_append.1 h
instance {α β:Type}[Rp α] [Rp β]:Rp (α × β) where
  sz:=sz α+sz β
  pos:=by have:=Rp.pos (α:=α); omega
  own s w cs x fp:=∃ f1 f2,fp=f1++f2∧own s w (cs.take (sz α)) x.1 f1∧own s w (cs.drop (sz α)) x.2 f2
  len h:=by
    obtain ⟨f1,f2,_,h1,h2⟩:=h
    have a:=Rp.len h1
    have b:=Rp.len h2
    have:=Rp.pos (α:=α)
    have:=Rp.pos (α:=β)
    simp only [List.length_take,List.length_drop] at a b
    omega
  one h v hv:=by
    obtain ⟨f1,f2,_,h1,h2⟩:=h
    rcases t6 (sz α) hv with hv | hv
    · exact Rp.one h1 v hv
    · exact Rp.one h2 v hv
  st h hb:=by
    obtain ⟨f1,f2,rfl,h1,h2⟩:=h
    exact ⟨f1,f2,rfl,Rp.st h1 fun b hb'=>hb b (by simp [hb']),Rp.st h2 fun b hb'=>hb b (by simp [hb'])⟩
  lt h b hb:=by
    obtain ⟨f1,f2,rfl,h1,h2⟩:=h
    rcases List.mem_append.1 hb with hb | hb
    · exact Rp.lt h1 b hb
    · exact Rp.lt h2 b hb
  weak h:=by
    obtain ⟨f1,f2,rfl,h1,h2⟩:=h
    exact ⟨f1,f2,rfl,Rp.weak h1,Rp.weak h2⟩
abbrev Rp.via {α β:Type}[Rp β] (f:α→β):Rp α where
  sz:=sz β
  pos:=Rp.pos (α:=β)
  own s w cs x fp:=own s w cs (f x) fp
  len h:=Rp.len h
  one h:=Rp.one h
  st h:=Rp.st h
  lt h:=Rp.lt h
  weak h:=Rp.weak h
def Opens (P:Program) (t:TypeId) (α:Type) [Rp α]:Prop:=
  ∀ (H:Type) (enc:TypeId × Value→H) (w:World) (fuel:Nat) (cs:List Value) (x:DataW H × List MemPlace),
    DataW.trod enc P w 0 (fun _=>true) true fuel t cs=some x→∃ (a:α) (fp:List Nat),own false w cs a fp
section
variable {P:Program}{t e:TypeId}
theorem AZ (ht:P.underlying t=some (.int .u8)):Opens P t UInt8:=fun H enc w fuel cs x h=>by
  obtain ⟨n,rfl,_,hw⟩:=DataW.trod_int ht h
  simp [Lit.wf,IntKind.has,IntKind.min,IntKind.max,IntKind.bits,IntKind.signed] at hw
  refine ⟨UInt8.ofNat n.toNat,[],?_,rfl⟩
  have:n=((UInt8.ofNat n.toNat).toNat:Int):=by simp; omega
  rw [← this]
theorem uo (b o n:Nat):Addr.add ⟨b,o,none⟩ n=⟨b,o+n,none⟩:=by
  unfold Addr.add
  split
  · rename_i h; subst h; rfl
  · rfl
theorem vb {w:World}{a:Addr}{n:Nat}{cs:List Value}(hn:0<n) (h:w.cells? 0 a n=some cs):a.spot=none:=by
  obtain ⟨_,hl,hc⟩:=World.cells?_some h
  have:=hc 0 hn
  cases hs:cs[0]? with
  | none=>rw [List.getElem?_eq_none_iff] at hs; omega
  | some v=>
    rw [hs] at this
    have h2:(a.add 0)=a:=by simp [Addr.add]
    rw [h2] at this
    exact World.cell?_spot this
theorem sD {w:World}{b o n:Nat}{cs:List Value}(hn:0<n) (h:w.cells? 0 ⟨b,o,none⟩ n=some cs) :
    ∃ cur T fr,w.heap[b]? = some (.cells cur T fr)∧o+n≤cur.size∧(cur.toList.drop o).take n=cs:=by
  obtain ⟨_,hl,hc⟩:=World.cells?_some h
  simp only [uo] at hc
  have hcell:∀ i,i<n→∃ v,cs[i]? = some v∧w.cell? ⟨b,o+i,none⟩=some v:=fun i hi=>by
    have hlt:i<cs.length:=by omega
    exact ⟨cs[i],σ,by have:=hc i hi; rw [List.getElem?_eq_getElem hlt] at this; exact this⟩
  obtain ⟨v0,_,hv0⟩:=hcell 0 hn
  unfold World.cell? at hv0
  split at hv0
  case h_2=>cases hv0
  case h_1 cur T fr hb=>
    have hget:∀ i,i<n→cur[o+i]? = cs[i]? := fun i hi=>by
      obtain ⟨v,hv,hw⟩:=hcell i hi
      unfold World.cell? at hw
      simp only [hb] at hw
      rw [hv]
      simpa using hw
    refine ⟨cur,T,fr,hb,?_,?_⟩
    · have:=hget (n-1) ω
      rw [List.getElem?_eq_getElem ω] at this
      have:=(Array.getElem?_eq_some_iff.1 this).1
      omega
    · apply List.ext_getElem?
      intro i
      rw [List.getElem?_take]
      split
      · rename_i hi
        rw [List.getElem?_drop,Array.getElem?_toList]
        exact hget i hi
      · rw [List.getElem?_eq_none ω]
theorem xp {α:Type}[Rp α] {w:World}:∀ (n:Nat) (cs:List Value),(∀ k,k<n→∃ (a:α) (fp:List Nat),own false w ((cs.drop (k*sz α)).take (sz α)) a fp) →
    ∃ (xs:List α) (fp:List Nat),xs.length=n∧cj false w cs xs fp
  | 0,_,_=>⟨[],[],rfl,rfl⟩
  | n+1,cs,h=>by
    obtain ⟨a,f1,h1⟩:=h 0 ω
    obtain ⟨xs,f2,hl,h2⟩:=xp n (cs.drop (sz α)) fun k hk=>by
      obtain ⟨a,fp,h⟩:=h (k+1) ω
      refine ⟨a,fp,?_⟩
      rw [List.drop_drop]
      rwa [show sz α+k*sz α=(k+1)*sz α from by rw [Nat.add_mul]; omega]
    exact ⟨a::xs,f1++f2,by simp [hl],f1,f2,rfl,by simpa using h1,h2⟩
theorem vm {α:Type}[Rp α] (ht:P.underlying t=some (.slice e)) (hz:P.cellsOf e=sz α) (ho:Opens P e α):Opens P t (List α):=fun H enc w fuel cs x h=>by
  rcases DataW.trod_slice ht h with ⟨rfl,_⟩ | ⟨a,len,cap,elems,rest,n,_,rfl,rfl,hb,hl,hm,hlen,hel,hsp,hns⟩
  · exact ⟨[],[],.inr (.inl ⟨rfl,rfl,rfl⟩)⟩
  rcases Nat.eq_zero_or_pos len with h0 | h0
  · subst h0
    exact ⟨[],[],.inl ⟨rfl,_,_,rfl,rfl,rfl⟩⟩
  rw [hz] at hel hsp
  have hpos:=Rp.pos (α:=α)
  obtain ⟨hrl,hre⟩:=hsp rfl
  have hs0:a.spot=none:=by
    have h1:=hel 0 h0
    rw [List.getElem?_eq_getElem ω,Option.bind_eq_some_iff] at h1
    obtain ⟨c,h1,_⟩:=h1
    rw [show (a.add (0*sz α))=a from by simp [Addr.add]] at h1
    exact vb hpos h1
  obtain ⟨b,o,sp⟩:=a
  subst hs0
  simp only [uo] at hel hre
  have all:∀ i,i<cap→∃ (c:List Value) (y:DataW H × List MemPlace),w.cells? 0 ⟨b,o+i*sz α,none⟩ (sz α)=some c∧DataW.trod enc P w 0 (fun _=>true) true n e c=some y:=fun i hi=>by
    have:∃ y,(w.cells? 0 ⟨b,o+i*sz α,none⟩ (sz α)).bind (DataW.trod enc P w 0 (fun _=>true) true n e)=some y:=by
      by_cases hi':i<len
      · exact ⟨elems[i]'(by omega),(hel i hi').trans (List.getElem?_eq_getElem _)⟩
      · have:=hre (i-len) ω
        rw [show len+(i-len)=i from by omega] at this
        exact ⟨rest[i-len]'(by omega),this.trans (List.getElem?_eq_getElem _)⟩
    obtain ⟨y,hy⟩:=this
    rw [Option.bind_eq_some_iff] at hy
    obtain ⟨c,h1,h2⟩:=hy
    exact ⟨c,y,h1,h2⟩
  obtain ⟨c0,_,hc0,_⟩:=all 0 ω
  obtain ⟨cur,T,fr,hbk,_,_⟩:=sD hpos hc0
  have each:∀ i,i<cap→∃ (c:List Value) (y:DataW H × List MemPlace),o+i*sz α+sz α≤cur.size∧(cur.toList.drop (o+i*sz α)).take (sz α)=c∧DataW.trod enc P w 0 (fun _=>true) true n e c=some y:=fun i hi=>by
    obtain ⟨c,y,h1,h2⟩:=all i hi
    obtain ⟨cur',T',fr',hbk',h3,h4⟩:=sD hpos h1
    rw [hbk] at hbk'
    simp only [Option.some.injEq,Obj.cells.injEq] at hbk'
    obtain ⟨rfl,_⟩:=hbk'
    exact ⟨c,y,h3,h4,h2⟩
  obtain ⟨xs,fs,hxl,hxs⟩:=xp (α:=α) (w:=w) len (cur.toList.drop o) fun k hk=>by
    obtain ⟨c,y,_,h2,h3⟩:=each k ω
    obtain ⟨a,fp,ha⟩:=ho H enc w n c y h3
    refine ⟨a,fp,?_⟩
    rw [List.drop_drop,h2]
    exact ha
  refine ⟨xs,b::fs,.inr (.inr ⟨b,o,cap,cur,T,fr,fs,by rw [hxl],rfl,hbk,(fun h=>by cases h),ω,hm,?_,hxs⟩)⟩
  obtain ⟨_,_,h1,_⟩:=each (cap-1) ω
  have:cap*sz α=(cap-1)*sz α+sz α:=by
    rw [← Nat.succ_mul,Nat.succ_eq_add_one,Nat.sub_add_cancel ω]
  omega
theorem Ak {α:Type}[Rp α] (o:Opens P t α) {H:Type}{enc:TypeId × Value→H}{w:World}{v:Value}{d:DataW H}{ps:List MemPlace}
    (hd:DataW.Trod enc P w 0 (fun _=>true) true t v d ps):∃ (a:α) (fp:List Nat),own false w v.cells.toList a fp:=by
  obtain ⟨fuel,hf⟩:=hd
  exact o H enc w fuel _ _ hf
end
theorem Ext.below {w w':World}(h:Ext No w w'):Below w.heap.size w w':=⟨h.os,h.tape,h.output,h.size,fun k hk=>h.block k hk (fun h=>h)⟩
instance:Rp Shape:=Rp.via fun x=>(x.Groups,x.Column,x.Data,x.Spare,x.Rows,x.Cap,x.Batch,x.Queue,x.Stage)
theorem bR {α β:Type}[Rp α] [Rp β] {s w cs} {a:α}{b:β}{fp} (h:own s w cs (a,b) fp):∃ c1 c2 f1 f2,cs=c1++c2∧fp=f1++f2∧own s w c1 a f1∧own s w c2 b f2:=by
  obtain ⟨f1,f2,e,h1,h2⟩:=h
  exact ⟨_,_,f1,f2,(List.take_append_drop _ _).symm,e,h1,h2⟩
def Shape.Ok (x:Shape):Prop:=I64ok x.Groups∧I64ok x.Column∧I64ok x.Data∧I64ok x.Spare∧I64ok x.Rows∧I64ok x.Cap∧I64ok x.Batch∧I64ok x.Queue∧I64ok x.Stage
end Go.Wk
namespace Go.Wk
open Rp (sz own)
def Sees {α:Type}[Rp α] (w:World) (cs:List Value) (x:α):Prop:=∃ f,own false w cs x f
theorem aq {α:Type}[Rp α] {s w cs} {x:α}{f} (h:own s w cs x f):own false w cs x f:=by
  cases s
  · exact h
  · exact Rp.weak h
section
variable {M:Nat→Prop}{w0 w w':World}{Δ F G:List Rsc}{α:Type}[Rp α]
theorem Sep.sees (h:Sep M w0 Δ F w) (i:Nat) {s cs fp} {x:α}(hi:F[i]? = some (Wk.seen s cs x fp)):Sees w cs x:=⟨fp,aq (h.seen i hi)⟩
theorem Sep.msees (h:Sep M w0 Δ F w) (i:Nat) {cs fp} {x:α}(hi:Δ[i]? = some (Wk.mine cs x fp)):Sees w cs x:=⟨fp,Rp.weak (h.mine i hi)⟩
theorem Sep.look {r:Rsc}(h:Sep M w0 Δ F w) (hr:r.φ w) (hd:∀ b∈r.fp,b ∉ blocks Δ):Sep M w0 Δ (F++[r]) w:=
  ⟨h.ext,h.rs,h.nd,h.new,fun p hp=>by
    rcases List.mem_append.1 hp with hp | hp
    · exact h.fs p hp
    · simp at hp; subst hp; exact hr,fun p hp=>by
    rcases List.mem_append.1 hp with hp | hp
    · exact h.ap p hp
    · simp at hp; subst hp; exact hd⟩
theorem Sep.look1 {β:Type}[Rp β] (h:Sep M w0 Δ F w) (i:Nat) {s cs fp} {x:α}(hi:F[i]? = some (Wk.seen s cs x fp)) {s' cs' f} {y:β}(ho:own s' w cs' y f) (hs:∀ b∈f,b∈fp) :
    Sep M w0 Δ (F++[Wk.seen s' cs' y f]) w:=
  h.look (r:=Wk.seen s' cs' y f) ho fun b hb=>h.ap _ (List.mem_of_getElem? hi) b (hs b hb)
theorem Sep.fsub (h:Sep M w0 Δ (F++G) w):Sep M w0 Δ F w:=
  ⟨h.ext,h.rs,h.nd,h.new,fun p hp=>h.fs p (by simp [hp]),fun p hp=>h.ap p (by simp [hp])⟩
theorem Sep.ftake (h:Sep M w0 Δ F w) (n:Nat):Sep M w0 Δ (F.take n) w:=
  Sep.fsub (G:=F.drop n) (by rw [List.take_append_drop]; exact h)
theorem Sep.dtake (h:Sep M w0 Δ F w) (n:Nat):Sep M w0 (Δ.take n) F w:=h.sub (List.take_sublist _ _)
theorem Sep.share (h:Sep M w0 Δ F w) (i:Nat) {cs fp} {x:α}(hi:Δ[i]? = some (Wk.mine cs x fp)):Sep M w0 (Δ.set i gone) (F++[Wk.seen true cs x fp]) w:=by
  have hm:=List.mem_of_getElem? hi
  have hnm:=ic hi h.nd
  have h':Sep M w0 (Δ.set i gone) F w:=by
    refine ⟨h.ext,fun p hp=>?_,iG hi h.nd (by simp [gone]) (by simp [gone]),fun b hb=>?_,h.fs,fun p hp b hb hx=>?_⟩
    · rcases jU hi h.nd p hp with rfl | ⟨hp,_⟩
      · trivial
      · exact h.rs p hp
    · rcases dA hi b hb with hb | hb
      · simp [gone] at hb
      · exact h.new b hb
    · rcases dA hi b hx with hx | hx
      · simp [gone] at hx
      · exact h.ap p hp b hb hx
  exact h'.look (r:=Wk.seen true cs x fp) (h.mine i hi) hnm
end
theorem jk {β:Type}[Rp β] {s w ad n cap} {xs:List (List β)}{fp} (h:own s w [.slice ad n cap] xs fp) (k:Nat) (hk:k<xs.length) :
    ∃ b o a c f,ad=some ⟨b,o,none⟩∧w.cell? ⟨b,o+k*1,none⟩=some (.slice a (xs.getD k []).length c)∧own s w [.slice a (xs.getD k []).length c] (xs.getD k []) f∧∀ b∈f,b∈fp:=by
  obtain ⟨b,o,cs,f,h1,h2,h3,h4,_⟩:=d9 h k hk
  rw [show xs.getD k []=xs[k] from by simp [List.getD,hk]]
  obtain ⟨a,c,rfl⟩:=ax h3
  exact ⟨b,o,a,c,f,h1,h2 0 _ rfl,h3,h4⟩
theorem dr {s w ad n cap} {xs:List Int}{fp} (h:own s w [.slice ad n cap] xs fp) (k:Nat) (hk:k<xs.length):I64ok (xs.getD k 0):=by
  obtain ⟨b,o,cs,f,_,_,h3,_⟩:=d9 h k hk
  rw [show xs.getD k 0=xs[k] from by simp [List.getD,hk]]
  exact (db h3).2.2
theorem AF {α:Type}[Rp α] {w ad n cap} {xs:List α}(h:Sees w [.slice ad n cap] xs):xs.length≤maxLen:=by
  obtain ⟨f,h⟩:=h
  exact qH h
theorem Sep.elset2 {α:Type}[Rp α] {M:Nat→Prop}{w0 w:World}{Δ F:List Rsc}(h:Sep M w0 Δ F w) (i j:Nat) {ad n cap} {xs:List α}{fp:List Nat}(hi:Δ[i]? = some (Wk.mine [.slice ad n cap] xs fp))
    {vs:List Value}{x:α}{fx:List Nat}(hj:Δ[j]? = some (Wk.mine vs x fx)) (hij:Nat.beq j i=false) (k:Nat) (hk:k<xs.length) :
    ∃ b o cur T fp',ad=some ⟨b,o,none⟩∧w.heap[b]? = some (.cells cur T (0,0))∧o+k*sz α+sz α≤cur.size ∧
      Sep M w0 ((Δ.set j gone).set i (Wk.mine [.slice ad n cap] (xs.set k x) fp')) F (Wk.put w b (.cells (lay cur (o+k*sz α) vs) T (0,0))):=by
  have hnd:=h.nodup1 hi
  have hvs:=h.mine j hj
  have hap:=h.apart hi hj hij
  have hndx:=h.nodup1 hj
  obtain ⟨b,o,cur,T,f1,fk,f2,e1,e2,hb,hsz,hx,hback⟩:=qC (h.mine i hi) k hk
  refine ⟨b,o,cur,T,b::(f1++(fx++f2)),e1,hb,hsz,?_⟩
  have hl:=Rp.len hvs
  have hltx:=Rp.lt hvs
  change fp.Nodup at hnd
  change fx.Nodup at hndx
  change ∀ b∈fx,b ∉ fp at hap
  subst e2
  obtain ⟨n1,n2⟩:=List.nodup_cons.1 hnd
  have hE:Ext (· = b) w (Wk.put w b (.cells (lay cur (o+k*sz α) vs) T (0,0))):=Ext.refl.put (.inl rfl)
  have hlt:=Rp.lt (h.mine i hi)
  have hk1:(k+1)*sz α=k*sz α+sz α:=by rw [Nat.add_mul,Nat.one_mul]
  refine h.set2 hi hj hij (q:=Wk.mine [.slice ad n cap] (xs.set k x) (b::(f1++(fx++f2)))) (hE.mono fun b' _ e=>by subst e; simp [Wk.mine]) ?_ ?_ ?_
  · refine hback _ _ x fx (iX hb) (lw _ _ _) (fun j hj=>pA _ _ _ _ (by rcases hj with hj | hj; exact .inl hj; exact .inr (by rw [hl,Nat.add_assoc,← hk1]; exact hj))) (fun b' hb'=>hE.block b' (hlt b' (by simp [hb'])) fun e=>?_) (fun b' hb'=>hE.block b' (hlt b' (by simp [hb'])) fun e=>?_) ?_
    · subst e; exact n1 (by simp [hb'])
    · subst e; exact n1 (by simp [hb'])
    · have hst:own true (Wk.put w b (.cells (lay cur (o+k*sz α) vs) T (0,0))) vs x fx:=Rp.st hvs fun b' hb'=>hE.block b' (hltx b' hb') fun e=>by subst e; exact hap b' hb' σ
      have hpt:=uk vs cur (o+k*sz α) (by rw [hl]; omega)
      rw [hl] at hpt
      rw [hpt]
      exact hst
  · change (b::(f1++(fx++f2))).Nodup
    rw [List.nodup_append,List.nodup_append] at n2
    obtain ⟨d1,⟨d2,d3,d4⟩,d5⟩:=n2
    refine List.nodup_cons.2 ⟨fun hm=>?_,List.nodup_append.2 ⟨d1,List.nodup_append.2 ⟨hndx,d3,fun p hp q hq e=>?_⟩,fun p hp q hq e=>?_⟩⟩
    · simp only [List.mem_append,not_or] at hm n1
      rcases hm with hm | hm | hm
      · exact n1.1 hm
      · exact hap b hm σ
      · exact n1.2.2 hm
    · subst e; exact hap p hp (by simp [hq])
    · subst e
      rcases List.mem_append.1 hq with hq | hq
      · exact hap p hq (by simp [hp])
      · exact d5 p hp p (by simp [hq]) rfl
  · intro b' hb'
    change b'∈b::(f1++(fx++f2)) at hb'
    change b'∈b::(f1++(fk++f2))∨b'∈fx∨_
    simp only [List.mem_cons,List.mem_append] at hb' ⊢
    rcases hb' with h | h | h | h
    · exact .inl (.inl h)
    · exact .inl (.inr (.inl h))
    · exact .inr (.inl h)
    · exact .inl (.inr (.inr (.inr h)))
theorem gm {α:Type}{d:α}{xs ys:List α}(hl:xs.length=ys.length) (h:∀ k,k<xs.length→xs.getD k d=ys.getD k d):xs=ys:=by
  apply List.ext_getElem hl
  intro k h1 h2
  have:=h k h1
  simpa [List.getD,h1,h2] using this
theorem ez {α:Type}[Rp α] {s w ad n cap} {xs:List α}{fp} (h:own s w [.slice ad n cap] xs fp) (k:Nat) (hk:k<xs.length):∃ b o,ad=some ⟨b,o,none⟩:=by
  obtain ⟨b,o,_,_,h1,_⟩:=d9 h k hk
  exact ⟨b,o,h1⟩
def gu (f:Nat→Nat):Nat→Nat
  | 0=>0
  | k+1=>gu f k+f k
theorem xE {f:Nat→Nat}{j:Nat}:∀ {k:Nat},j≤k→gu f j≤gu f k
  | 0,h=>by
    have:j=0:=by omega
    subst this; exact Nat.le_refl _
  | k+1,h=>by
    rcases Nat.lt_or_ge k j with h1 | h1
    · have:j=k+1:=by omega
      subst this; exact Nat.le_refl _
    · have:=xE (f:=f) h1
      show _≤gu f k+f k
      omega
theorem nR {α:Type}{d x:α}{xs:List α}{k:Nat}(h:k<xs.length) (e:xs.getD k d=x):x∈xs:=by
  subst e
  simp [List.getD,h]
theorem nE {α:Type}{d x:α}{xs:List α}(h:∀ k,k<xs.length→xs.getD k d≠x):¬ x∈xs:=fun hm=>by
  obtain ⟨k,hk,e⟩:=List.getElem_of_mem hm
  exact h k hk (by simp [List.getD,hk,e])
def idxOf (xs:List Int) (x:Int):Int:=if x∈xs then (xs.idxOf x:Nat) else -1
theorem Ab {xs:List Int}{x:Int}(h:∀ k,k<xs.length→xs.getD k 0≠x):idxOf xs x = -1:=by
  unfold idxOf; rw [if_neg (nE h)]
theorem zr {xs:List Int}{x:Int}{k:Nat}(hk:k<xs.length) (e:xs.getD k 0=x) (h:∀ i,i<k→xs.getD i 0≠x):idxOf xs x=k:=by
  unfold idxOf
  rw [if_pos (nR hk e)]
  have hm:=nR hk e
  have h1:xs.idxOf x<xs.length:=List.idxOf_lt_length_iff.2 hm
  have h2:xs[xs.idxOf x]=x:=List.getElem_idxOf h1
  have h3:¬ xs.idxOf x<k:=fun hlt=>h _ hlt (by simp [List.getD,h1,h2])
  have h4:¬ k<xs.idxOf x:=fun hlt=>by
    have:=List.not_of_lt_findIdx (p:=(· == x)) (xs:=xs) hlt
    simp [List.getD,hk] at e
    simp [e] at this
  omega
theorem yn {xs:List Int}{x:Int}:decide (0≤idxOf xs x)=decide (x∈xs):=by
  unfold idxOf
  by_cases h:x∈xs
  · rw [if_pos h]; simp [h]
  · rw [if_neg h]; simp [h]
theorem CH {a b:UInt8}:((a.toNat:Int)=(b.toNat:Int))↔a=b:=by
  constructor
  · intro h
    exact UInt8.toNat_inj.1 ω
  · intro h; rw [h]
end Go.Wk
namespace Go.Wk
section
theorem oL {α:Type}[Rp α] {s w ad n cap} {xs:List α}{fp} (h:Rp.own s w [.slice ad n cap] xs fp):xs.length≤2^63-1:=qH h
theorem sL {α:Type}[Rp α] {w ad n cap} {xs:List α}(h:Sees w [.slice ad n cap] xs):xs.length≤2^63-1:=AF h
end
end Go.Wk
namespace Go.Wk
open Rp (sz own)
theorem ca {α β:Type}[Rp α] [Rp β] {s w c1 c2} {a:α}{b:β}{f1 f2} (h1:own s w c1 a f1) (h2:own s w c2 b f2):own s w (c1++c2) (a,b) (f1++f2):=by
  have hl:=Rp.len h1
  refine ⟨f1,f2,rfl,?_,?_⟩
  · rw [← hl,List.take_left]; exact h1
  · rw [← hl,List.drop_left]; exact h2
theorem dp {s w} {x:Int}(h:I64ok x):own s w [.int .i64 x] x []:=⟨rfl,rfl,h⟩
theorem BD {s w} {x:ByteArray}(h:x.size≤maxLen):own s w [.string x] (Str.mk x) []:=⟨rfl,rfl,h⟩
theorem nH {s w} {x:Bool}:own s w [.bool x] x []:=⟨rfl,rfl⟩
theorem gj {α:Type}[Rp α] {s w cs} {x:α}{f g} (h:own s w cs x f) (e:f=g):own s w cs x g:=e ▸ h
structure Rec where
  Kind:Int
  Seq:Int
  Name:ByteArray
  Length:Int
  Group:Int
  Row:Int
  Rows:List Int
  Data:List UInt8
  Delta:List UInt8
instance:Rp Rec:=Rp.via fun x=>(x.Kind,x.Seq,Str.mk x.Name,x.Length,x.Group,x.Row,x.Rows,x.Data,x.Delta)
noncomputable instance:DecidableEq Rec:=fun _ _=>Classical.propDecidable _
instance:Inhabited Rec:=⟨⟨0,0,⟨#[]⟩,0,0,0,[],[],[]⟩⟩
def Rec.val (x:Rec) (A6:Option Addr) (C6:Nat) (A7:Option Addr) (C7:Nat) (A8:Option Addr) (C8:Nat):Value := .agg #[.int .i64 x.Kind,.int .i64 x.Seq,.string x.Name,.int .i64 x.Length,.int .i64 x.Group,.int .i64 x.Row,.slice A6 x.Rows.length C6,.slice A7 x.Data.length C7,.slice A8 x.Delta.length C8]
def Rec.Ok (x:Rec):Prop:=I64ok x.Kind∧I64ok x.Seq∧x.Name.size≤maxLen∧I64ok x.Length∧I64ok x.Group∧I64ok x.Row
theorem bQ {s w cs} {x:Rec}{fp} (h:own s w cs x fp):∃ (A6:Option Addr) (C6:Nat) (A7:Option Addr) (C7:Nat) (A8:Option Addr) (C8:Nat) (f6:List Nat) (f7:List Nat) (f8:List Nat) ,cs=[.int .i64 x.Kind,.int .i64 x.Seq,.string x.Name,.int .i64 x.Length,.int .i64 x.Group,.int .i64 x.Row,.slice A6 x.Rows.length C6,.slice A7 x.Data.length C7,.slice A8 x.Delta.length C8]∧fp=f6++(f7++(f8))∧x.Ok∧own s w [.slice A6 x.Rows.length C6] x.Rows f6∧own s w [.slice A7 x.Data.length C7] x.Data f7∧own s w [.slice A8 x.Delta.length C8] x.Delta f8:=by
  obtain ⟨_,_,_,_,rfl,e0,h0,k0⟩:=bR h
  obtain ⟨rfl,rfl,i0⟩:=db h0
  obtain ⟨_,_,_,_,rfl,e1,h1,k1⟩:=bR k0
  obtain ⟨rfl,rfl,i1⟩:=db h1
  obtain ⟨_,_,_,_,rfl,e2,h2,k2⟩:=bR k1
  obtain ⟨rfl,rfl,i2⟩:=h2
  obtain ⟨_,_,_,_,rfl,e3,h3,k3⟩:=bR k2
  obtain ⟨rfl,rfl,i3⟩:=db h3
  obtain ⟨_,_,_,_,rfl,e4,h4,k4⟩:=bR k3
  obtain ⟨rfl,rfl,i4⟩:=db h4
  obtain ⟨_,_,_,_,rfl,e5,h5,k5⟩:=bR k4
  obtain ⟨rfl,rfl,i5⟩:=db h5
  obtain ⟨_,_,_,_,rfl,e6,h6,k6⟩:=bR k5
  obtain ⟨A6,C6,rfl⟩:=ax h6
  obtain ⟨_,_,_,_,rfl,e7,h7,k7⟩:=bR k6
  obtain ⟨A7,C7,rfl⟩:=ax h7
  obtain ⟨A8,C8,rfl⟩:=ax k7
  exact ⟨A6,C6,A7,C7,A8,C8,_,_,_,rfl,by subst_vars; simp,⟨i0,i1,i2,i3,i4,i5⟩,h6,h7,k7⟩
theorem pP {s w A6 C6 A7 C7 A8 C8} {x:Rec}{fp} (h:own s w [.int .i64 x.Kind,.int .i64 x.Seq,.string x.Name,.int .i64 x.Length,.int .i64 x.Group,.int .i64 x.Row,.slice A6 x.Rows.length C6,.slice A7 x.Data.length C7,.slice A8 x.Delta.length C8] x fp):∃ (f6:List Nat) (f7:List Nat) (f8:List Nat),fp=f6++(f7++(f8))∧x.Ok∧own s w [.slice A6 x.Rows.length C6] x.Rows f6∧own s w [.slice A7 x.Data.length C7] x.Data f7∧own s w [.slice A8 x.Delta.length C8] x.Delta f8:=by
  obtain ⟨_,_,_,_,_,_,f6,f7,f8,e,ef,ok,o6,o7,o8⟩:=bQ h
  simp only [List.cons.injEq,Value.slice.injEq,and_true,true_and] at e
  obtain ⟨⟨rfl,rfl⟩,⟨rfl,rfl⟩,⟨rfl,rfl⟩⟩:=e
  exact ⟨f6,f7,f8,ef,ok,o6,o7,o8⟩
theorem Rec.own_mk {s:Bool}{w:World}{x:Rec}{A6:Option Addr}{C6:Nat}{A7:Option Addr}{C7:Nat}{A8:Option Addr}{C8:Nat}{f6:List Nat}{f7:List Nat}{f8:List Nat}(ok:x.Ok) (o6:own s w [.slice A6 x.Rows.length C6] x.Rows f6) (o7:own s w [.slice A7 x.Data.length C7] x.Data f7) (o8:own s w [.slice A8 x.Delta.length C8] x.Delta f8):own s w [.int .i64 x.Kind,.int .i64 x.Seq,.string x.Name,.int .i64 x.Length,.int .i64 x.Group,.int .i64 x.Row,.slice A6 x.Rows.length C6,.slice A7 x.Data.length C7,.slice A8 x.Delta.length C8] x (f6++(f7++(f8))):=by
  obtain ⟨i0,i1,i2,i3,i4,i5⟩:=ok
  have h:own s w _ (x.Kind,x.Seq,Str.mk x.Name,x.Length,x.Group,x.Row,x.Rows,x.Data,x.Delta) _:=(ca (dp i0) (ca (dp i1) (ca (BD i2) (ca (dp i3) (ca (dp i4) (ca (dp i5) (ca o6 (ca o7 o8))))))))
  refine gj h ?_
  simp
theorem Rec.out {w0 w:World}{F:List Rsc}{x:Rec}{A6:Option Addr}{C6:Nat}{A7:Option Addr}{C7:Nat}{A8:Option Addr}{C8:Nat}{f6:List Nat}{f7:List Nat}{f8:List Nat}(h:Sep No w0 [mine [.slice A6 x.Rows.length C6] x.Rows f6,mine [.slice A7 x.Data.length C7] x.Data f7,mine [.slice A8 x.Delta.length C8] x.Delta f8] F w) (ok:x.Ok):Res w0 w [.int .i64 x.Kind,.int .i64 x.Seq,.string x.Name,.int .i64 x.Length,.int .i64 x.Group,.int .i64 x.Row,.slice A6 x.Rows.length C6,.slice A7 x.Data.length C7,.slice A8 x.Delta.length C8] x:=
  ⟨_,Rec.own_mk ok (h.mine 0 rfl) (h.mine 1 rfl) (h.mine 2 rfl),by have:=h.nd; simpa [blocks,mine] using this,fun b hb=>(h.new b (by simpa [blocks,mine] using hb)).resolve_left id⟩
end Go.Wk
namespace Go.Wk
open Rp (sz own)
def zp (k:Int):UInt8:=UInt8.ofNat (k % 256).toNat
theorem BI (k:Int):IntKind.u8.wrap k=((zp k).toNat:Int):=by
  unfold zp
  simp [IntKind.wrap,IntKind.bits,IntKind.signed]
  omega
def Mut {α:Type}[Rp α] (w w':World) (fp:List Nat) (cs:List Value) (x':α):Prop:=
  Ext (· ∈ fp) w w'∧∃ fp',own true w' cs x' fp'∧fp'.Nodup∧∀ b∈fp',b∈fp∨w.heap.size≤b
section
variable {M:Nat→Prop}{w0 w w':World}{Δ F:List Rsc}{α:Type}[Rp α]
theorem Sep.begin {cs:List Value}{x:α}{fp:List Nat}(h:own true w cs x fp) (hn:fp.Nodup):Sep (· ∈ fp) w [Wk.mine cs x fp] [] w:=
  ⟨Ext.refl,by simpa [Wk.mine] using h,by simpa [blocks,Wk.mine] using hn,fun b hb => .inl (by simpa [blocks,Wk.mine] using hb),σ,σ⟩
theorem Sep.done {cs:List Value}{x:α}{fp fp':List Nat}(h:Sep (· ∈ fp) w0 [Wk.mine cs x fp'] F w):Mut w0 w fp cs x:=
  ⟨h.ext,fp',h.mine 0 rfl,by simpa [blocks,Wk.mine] using h.nd,fun b hb=>h.new b (by simpa [blocks,Wk.mine] using hb)⟩
theorem Sep.mut (h:Sep M w0 Δ F w) (i:Nat) {cs cs'} {x x':α}{fp} (hi:Δ[i]? = some (Wk.mine cs x fp)) (hm:Mut w w' fp cs' x'):∃ fp',Sep M w0 (Δ.set i (Wk.mine cs' x' fp')) F w':=by
  obtain ⟨e,fp',h1,h2,h3⟩:=hm
  exact ⟨fp',h.set hi (q:=Wk.mine cs' x' fp') e h1 h2 h3⟩
end
theorem mA {f g:Nat→Nat}:∀ {k:Nat},(∀ i,i<k→f i=g i)→gu f k=gu g k
  | 0,_=>rfl
  | k+1,h=>by
    show gu f k+f k=gu g k+g k
    rw [mA fun i hi=>h i ω,h k ω]
theorem eqI {kd:IntKind}{a b:Int}(h:a=b):some (Value.int kd a)=some (Value.int kd b):=by rw [h]
theorem eL {α:Type}{d y:α}{xs:List α}{k j:Nat}:(xs.set k y).getD j d=if j=k∧k<xs.length then y else xs.getD j d:=by
  simp only [List.getD,List.getElem?_set]
  by_cases h1:k=j
  · subst h1
    by_cases h2:k<xs.length
    · simp [h2]
    · simp [h2]
  · rw [if_neg h1,if_neg (fun e=>h1 e.1.symm)]
end Go.Wk
namespace Go.Wk
def DA (a:UInt8) (k:Nat):UInt8:=UInt8.ofNat (a.toNat / 2^k)
def Dr (a:UInt8) (k:Nat):UInt8:=UInt8.ofNat (a.toNat*2^k)
section
variable {P:Program}{n:Nat}{L:Env}{w:World}{d:Option Tmp}{ty:TypeId}{p:String}{af:Array Edge}{g:Option (Nat × Bool)}{x y:Operand}{xt yt:TypeId}
theorem uF {k:IntKind}{i:Int}{src dst:TypeId}{td} (hs:P.underlying src=some td) (hd:P.underlying dst=some (.int .u8)) (hx:evL L x=some (.int k i)) :
    Py P n L w ⟨d,.convert src dst x,ty,p,af,g⟩ (.int .u8 (zp i).toNat):=by
  have h:=zx (P:=P) (n:=n) (w:=w) (d:=d) (ty:=ty) (p:=p) (af:=af) (g:=g) hs hd hx
  rwa [BI] at h
end
def xt (a:UInt8):UInt8:=if a &&& 128=0 then Dr a 1 else Dr a 1 ^^^ 29
def Ds:Nat→UInt8→UInt8→UInt8→UInt8
  | 0,_,_,o=>o
  | n+1,a,b,o=>Ds n (xt a) (DA b 1) (if b &&& 1=1 then o ^^^ a else o)
def DC (a b:UInt8):UInt8:=Ds 8 a b 0
def pw (a:UInt8):Nat→UInt8
  | 0=>1
  | n+1=>DC (pw a n) a
def DE (a:UInt8):UInt8:=pw a 254
theorem xW {x:Int}(h:0≤x∧x≤9223372036854775807):IntKind.u64.wrap x=x:=by
  simp [IntKind.wrap,IntKind.bits,IntKind.signed]; omega
def cauchy (j i:Int):UInt8:=DE (zp (128+j) ^^^ zp i)
end Go.Wk
namespace Go.Wk
open Rp (sz own)
theorem Ext.cellM {M:Nat→Prop}{w w':World}(h:Ext M w w') {ad:Addr}{v:Value}(hm:¬ M ad.block) (hc:w.cell? ad=some v):w'.cell? ad=some v:=
  (World.cell?_of_block (h.block ad.block (World.block_lt_of_cell? w ad hc) hm)).trans hc
theorem Sep.off {M w0 Δ F} {w:World}(h:Sep M w0 Δ F w) (i:Nat) {r q:Rsc}(hi:F[i]? = some r) (j:Nat) (hj:Δ[j]? = some q) {b:Nat}(hb:b∈r.fp):b ∉ q.fp:=fun hm=>
  h.ap r (List.mem_of_getElem? hi) b hb (bm.2 ⟨q,List.mem_of_getElem? hj,hm⟩)
theorem Sep.boff {M w0 Δ F} {w:World}(h:Sep M w0 Δ F w) (i:Nat) {b:Nat}{o:Obj}{q:Rsc}(hi:Δ[i]? = some (Wk.box b o)) (j:Nat) (hj:Δ[j]? = some q) (hij:Nat.beq i j=false):b ∉ q.fp:=
  h.apart hj hi hij b (by simp [Wk.box])
theorem zV {s w ad n cap} {xs:List UInt8}{fp} (h:own s w [.slice ad n cap] xs fp) (k:Nat) (hk:k<xs.length) :
    ∃ b o,ad=some ⟨b,o,none⟩∧w.cell? ⟨b,o+k*1,none⟩=some (.int .u8 (xs.getD k 0).toNat)∧b∈fp:=by
  obtain ⟨b,o,cs,f,h1,h2,h3,_,h5⟩:=d9 h k hk
  rw [show xs.getD k 0=xs[k] from by simp [List.getD,hk]]
  exact ⟨b,o,h1,h2 0 (.int .u8 (xs[k]).toNat) (by rw [h3.1]; rfl),h5⟩
theorem AA {β:Type}[Rp β] {s w ad n cap} {xs:List (List β)}{fp} (h:own s w [.slice ad n cap] xs fp) (k:Nat) (hk:k<xs.length) :
    ∃ b o a c f,ad=some ⟨b,o,none⟩∧w.cell? ⟨b,o+k*1,none⟩=some (.slice a (xs.getD k []).length c)∧own s w [.slice a (xs.getD k []).length c] (xs.getD k []) f∧(∀ b∈f,b∈fp)∧b∈fp:=by
  obtain ⟨b,o,cs,f,h1,h2,h3,h4,h5⟩:=d9 h k hk
  rw [show xs.getD k []=xs[k] from by simp [List.getD,hk]]
  obtain ⟨a,c,rfl⟩:=ax h3
  exact ⟨b,o,a,c,f,h1,h2 0 _ rfl,h3,h4,h5⟩
section
variable {P:Program}{n:Nat}{ops:Array Oper}{Q:Post}{L:Env}{w w0:World}{M:Nat→Prop}{Δ F:List Rsc}{rest:List (Nat × Bool)}{i d:Nat}{ty:TypeId}{p:String}{af:Array Edge}{g:Option (Nat × Bool)}{S:World→Prop}
theorem xT {o:Oper}{ob:Obj}{v:Nat→Value}(ho:ops.toList[i]? = some o) (hw:Wn ops n L o) (hd:o.dst=some d) (hn:Nat.blt d n=true) (hp:Pn P n L w o (v w.heap.size) (w.alloc ob)) (H:Sep M w0 Δ F w) (hS:∀ w',S w→Ext No w w'→S w')
    (k:∀ b w',Ext No w w'→w.heap.size≤b→Sep M w0 (Δ++[box b ob]) F w'→DL P n ops Q S rest ((d,v b)::L) w'):DL P n ops Q S ((i,false)::rest) L w:=
  mo ho hw hd hn hp (fun h _=>hS _ h (Ext.refl.alloc _)) (k _ _ (Ext.refl.alloc _) (Nat.le_refl _) (H.alloc _))
theorem ff {t e:TypeId}{x:Operand}{z v:Value}{size bytes:Nat}(ho:ops.toList[i]? = some ⟨some d,.buildSlice t 1 #[(0,x)],ty,p,af,g⟩) (hw:Wn ops n L ⟨some d,.buildSlice t 1 #[(0,x)],ty,p,af,g⟩) (hn:Nat.blt d n=true) (ht:P.underlying t=some (.slice e)) (hT:Ty P e z size bytes) (hs:Nat.blt 0 size=true)
    (hx:evL L x=some v) (h1:v.cells.size=size) (hsmall:Nat.ble size 16777216=true) (H:Sep M w0 Δ F w) (hS:∀ w',S w→Ext No w w'→S w')
    (k:∀ b w',Ext No w w'→w.heap.size≤b→Sep M w0 (Δ++[box b (.cells v.cells.toList.toArray e)]) F w'→DL P n ops Q S rest ((d,.slice (some ⟨b,0,none⟩) 1 1)::L) w') :
    DL P n ops Q S ((i,false)::rest) L w:=by
  have hp:=qM (n:=n) (w:=w) (ty:=ty) (p:=p) (af:=af) (g:=g) (d:=some d) (parts := #[(0,x)]) (vs:=[v]) (len:=1) ht hT (Nat.le_of_ble_eq_true hs) rfl (ru hx) (by simpa using h1) ω (by have:=Nat.le_of_ble_eq_true hsmall; omega)
  simp only [List.flatMap_cons,List.flatMap_nil,List.append_nil] at hp
  exact xT (v:=fun b => .slice (some ⟨b,0,none⟩) 1 1) ho hw rfl hn hp H hS k
theorem pV {α:Type}[Rp α] {t e:TypeId}{z:Value}{size bytes:Nat}(ho:ops.toList[i]? = some ⟨some d,.buildSlice t 0 #[],ty,p,af,g⟩) (hw:Wn ops n L ⟨some d,.buildSlice t 0 #[],ty,p,af,g⟩) (hn:Nat.blt d n=true) (ht:P.underlying t=some (.slice e)) (hT:Ty P e z size bytes) (H:Sep M w0 Δ F w) (hS:∀ w',S w→Ext No w w'→S w')
    (k:∀ b w',Ext No w w'→w.heap.size≤b→Sep M w0 (Δ++[mine [.slice (some ⟨b,0,none⟩) 0 0] ([]:List α) [b]]) F w'→DL P n ops Q S rest ((d,.slice (some ⟨b,0,none⟩) 0 0)::L) w') :
    DL P n ops Q S ((i,false)::rest) L w:=
  mo ho hw rfl hn (xB ht hT) (fun h _=>hS _ h (Ext.refl.alloc _)) (k _ _ (Ext.refl.alloc _) (Nat.le_refl _) (H.add (Ext.refl.alloc _) (r:=mine [.slice (some ⟨w.heap.size,0,none⟩) 0 0] ([]:List α) [w.heap.size])
    (.inr (.inr ⟨w.heap.size,0,0,#[],e,(0,0),[],rfl,rfl,heap_alloc_new _ _,fun _=>rfl,Nat.le_refl _,Nat.zero_le _,σ,rfl⟩)) (by simp [mine]) (by simp [mine])))
section
variable {α:Type}[Rp α]
theorem Cr {t e:TypeId}{x:Operand}{z:Value}{bytes m:Nat}{y:α}(ho:ops.toList[i]? = some ⟨some d,.makeSlice t x x,ty,p,af,g⟩) (hw:Wn ops n L ⟨some d,.makeSlice t x x,ty,p,af,g⟩) (hn:Nat.blt d n=true) (ht:P.underlying t=some (.slice e)) (hT:Ty P e z (sz α) bytes) (hz:∀ w,own true w z.cells.toList y [])
    (hx:evL L x=some (.int .i64 m)) (h48:bytes*m≤281474976710656) (h63:m≤maxLen) (H:Sep M w0 Δ F w) (hS:∀ w',S w→Ext No w w'→S w')
    (k:∀ b w',Ext No w w'→w.heap.size≤b→Sep M w0 (Δ++[mine [.slice (some ⟨b,0,none⟩) m m] (List.replicate m y) [b]]) F w'→DL P n ops Q S rest ((d,.slice (some ⟨b,0,none⟩) m m)::L) w') :
    DL P n ops Q S ((i,false)::rest) L w:=
  mo ho hw rfl hn (xy ht hT hx h48 h63) (fun h _=>hS _ h (Ext.refl.alloc _)) (k _ _ (Ext.refl.alloc _) (Nat.le_refl _) (H.made hz h63))
theorem ra {x y:Operand}{t e:TypeId}{z:Value}{bytes:Nat}{v:Value}{xs:List α}{fp:List Nat}{b2 c2:Nat}{T} {cs:List Value}{u:α}(ho:ops.toList[i]? = some ⟨some d,.call ⟨.builtin .append,#[x,y],#[t,t]⟩,ty,p,af,g⟩) (hw:Wn ops n L ⟨some d,.call ⟨.builtin .append,#[x,y],#[t,t]⟩,ty,p,af,g⟩) (hn:Nat.blt d n=true)
    (ht:P.underlying t=some (.slice e)) (hT:Ty P e z (sz α) bytes) (hz:z.cells.size=sz α) (hx:evL L x=some v) (hy:evL L y=some (.slice (some ⟨b2,0,none⟩) 1 c2))
    (H:Sep M w0 Δ F w) (q j:Nat) (hi:Δ[q]? = some (mine [v] xs fp)) (hj:Δ[j]? = some (box b2 (.cells cs.toArray T))) (hu:own true w cs u []) (h63:xs.length+1≤maxLen) (hb48:(xs.length+1)*bytes≤140737488355328)
    (hS:∀ w',S w→Ext (· ∈ fp) w w'→S w')
    (k:∀ v' w' fp',Sep M w0 (Δ.set q (mine [v'] (xs++[u]) fp')) F w'→DL P n ops Q S rest ((d,v')::L) w') :
    DL P n ops Q S ((i,false)::rest) L w:=by
  obtain ⟨v',w',fp',h1,h2,h3,h4,h5⟩:=gK (ty:=ty) ht hT hz (H.mine q hi) (ys:=[u]) (c2:=c2) (m:=1) (by rw [Rp.len hu]; simp) rfl (At.whole (H.box j hj)) (Rp.one hu) (.one hu) σ (H.nodup1 hi) .nil σ h63 hb48
  exact mo ho hw rfl hn (lE hx hy h1) (fun h _=>hS _ h h3) (k _ _ _ (H.set hi (q:=Wk.mine [v'] (xs++[u]) fp') h3 h2 h5 fun b hb=>by rcases h4 b hb with h | h | h; exact .inl h; simp at h; exact .inr h))
theorem rf {x y:Operand}{t e:TypeId}{z:Value}{bytes:Nat}{v:Value}{xs:List α}{fp:List Nat}{b2 c2:Nat}{T} {cs:List Value}{u:α}{fu} (ho:ops.toList[i]? = some ⟨some d,.call ⟨.builtin .append,#[x,y],#[t,t]⟩,ty,p,af,g⟩) (hw:Wn ops n L ⟨some d,.call ⟨.builtin .append,#[x,y],#[t,t]⟩,ty,p,af,g⟩) (hn:Nat.blt d n=true)
    (ht:P.underlying t=some (.slice e)) (hT:Ty P e z (sz α) bytes) (hz:z.cells.size=sz α) (hx:evL L x=some v) (hy:evL L y=some (.slice (some ⟨b2,0,none⟩) 1 c2))
    (H:Sep M w0 Δ F w) (l j q:Nat) (hi:Δ[l]? = some (mine [v] xs fp)) (hj:Δ[j]? = some (box b2 (.cells cs.toArray T))) (hq:Δ[q]? = some (mine cs u fu)) (hqi:Nat.beq q l=false) (h63:xs.length+1≤maxLen) (hb48:(xs.length+1)*bytes≤140737488355328)
    (hS:∀ w',S w→Ext (· ∈ fp) w w'→S w')
    (k:∀ v' w' fp',Sep M w0 ((Δ.set q gone).set l (mine [v'] (xs++[u]) fp')) F w'→DL P n ops Q S rest ((d,v')::L) w') :
    DL P n ops Q S ((i,false)::rest) L w:=by
  have hy':=H.mine q hq
  obtain ⟨v',w',fp',h1,h2,h3,h4,h5⟩:=gK (ty:=ty) ht hT hz (H.mine l hi) (ys:=[u]) (c2:=c2) (m:=1) (by rw [Rp.len hy']; simp) rfl (At.whole (H.box j hj)) (Rp.one hy') (.one hy') (H.apart hi hq hqi) (H.nodup1 hi) (H.nodup1 hq) σ h63 hb48
  exact mo ho hw rfl hn (lE hx hy h1) (fun h _=>hS _ h h3) (k _ _ _ (H.set2 hi hq hqi (q:=Wk.mine [v'] (xs++[u]) fp') h3 h2 h5 h4))
theorem CJ {t:TypeId}{x y:Operand}{b off:Nat}{v:Value}{ad:Option Addr}{len cap:Nat}{xs:List α}{fp:List Nat}{u:α}(ho:ops.toList[i]? = some ⟨none,.store t x y,ty,p,af,g⟩) (hw:Wn ops n L ⟨none,.store t x y,ty,p,af,g⟩) (hs:∀ w,(sizeOf t).run P w = .ok (sz α) w) (h1:sz α=1)
    (H:Sep M w0 Δ F w) (j:Nat) (hi:Δ[j]? = some (mine [.slice ad len cap] xs fp)) (q:Nat) (hq:q<xs.length) (hx:evL L x=some (.pointer (some ⟨b,off+q*sz α,none⟩))) (had:ad=some ⟨b,off,none⟩) (hy:evL L y=some v) (hu:own true w [v] u [])
    (hS:∀ w',S w→Ext (· = b) w w'→rest≠[]→S w')
    (k:∀ w' fp',Ext (· = b) w w'→Sep M w0 (Δ.set j (mine [.slice ad len cap] (xs.set q u) fp')) F w'→DL P n ops Q S rest L w') :
    DL P n ops Q S ((i,false)::rest) L w:=by
  obtain ⟨b',o',cur,T,e1,hb,hsz,hk⟩:=H.elset j hi q hq
  rw [had] at e1
  simp only [Option.some.injEq,Addr.mk.injEq,and_true] at e1
  obtain ⟨rfl,rfl⟩:=e1
  obtain ⟨fp',h⟩:=hk [v] u hu
  refine x9 ho hw rfl (jX (by rw [h1] at hs; exact hs) hx hy (Rp.one hu v σ) hb ω) (fun hSw hr=>hS _ hSw (Ext.refl.put (.inl rfl)) hr) ?_
  exact k _ fp' (Ext.refl.put (.inl rfl)) h
end
end
theorem dI {α:Type}[Rp α] {s w ad n cap} {xs:List α}{fp} (h:own s w [.slice ad n cap] xs fp):n=xs.length:=by
  obtain ⟨_,_,e⟩:=ax h
  simp at e
  exact e.2.1
def C3 (n:Nat) (p base:Int) (i:Nat):UInt8:=if (n:Int)≤p then cauchy (base+p-n) i else if (i:Int)=p then 1 else 0
def DB (n:Nat) (p base:Int):List UInt8:=(List.range n).map (C3 n p base)
end Go.Wk
namespace Go.Wk
open Rp (sz own)
def cut {α:Type}(xs:List α) (l h:Nat):List α:=(xs.drop l).take (h-l)
theorem fA {α:Type}{xs:List α}{l h:Nat}(hh:h≤xs.length):(cut xs l h).length=h-l:=by
  unfold cut; rw [List.length_take,List.length_drop]; omega
theorem cj.weak' {α:Type}[Rp α] {s w cs} {xs:List α}{fp} (h:cj s w cs xs fp):cj false w cs xs fp:=by
  cases s
  · exact h
  · exact h.weak
theorem cj.drop {α:Type}[Rp α] {s w}:∀ (l:Nat) {xs:List α}{cs fp},cj s w cs xs fp→∃ f,cj s w (cs.drop (l*sz α)) (xs.drop l) f∧∀ b∈f,b∈fp
  | 0,xs,cs,fp,h=>⟨fp,by simpa using h,fun _ h=>h⟩
  | l+1,[],cs,fp,h=>⟨[],by simp [cj],σ⟩
  | l+1,x::xs,cs,fp,⟨f1,f2,e,h1,h2⟩=>by
    obtain ⟨f,hf,hs⟩:=cj.drop l h2
    refine ⟨f,?_,fun b hb=>by subst e; simp [hs b hb]⟩
    rw [List.drop_drop] at hf
    rw [Nat.add_mul,Nat.one_mul,Nat.add_comm]
    simpa using hf
theorem cj.take {α:Type}[Rp α] {s w}:∀ (n:Nat) {xs:List α}{cs fp},cj s w cs xs fp→∃ f,cj s w cs (xs.take n) f∧∀ b∈f,b∈fp
  | 0,xs,cs,fp,h=>⟨[],by simp [cj],σ⟩
  | n+1,[],cs,fp,h=>⟨fp,by simpa using h,fun _ h=>h⟩
  | n+1,x::xs,cs,fp,⟨f1,f2,e,h1,h2⟩=>by
    obtain ⟨f,hf,hs⟩:=cj.take n h2
    exact ⟨f1++f,⟨f1,f,rfl,h1,hf⟩,fun b hb=>by subst e; rcases List.mem_append.1 hb with hb | hb; simp [hb]; simp [hs b hb]⟩
def slA (a:Option Addr) (l m s:Nat):Option Addr:=if m=l then a else a.map (·.add (l*s))
theorem BM {α:Type}[Rp α] {s w ad n cap} {xs:List α}{fp} (h:own s w [.slice ad n cap] xs fp) (l k m:Nat) (h1:l≤k) (h2:k≤xs.length) (h3:k≤m) (h4:m≤cap) :
    ∃ f,own false w [.slice (slA ad l m (sz α)) (k-l) (m-l)] (cut xs l k) f∧∀ b∈f,b∈fp:=by
  have nil:k-l=0→own false w [.slice (slA ad l m (sz α)) (k-l) (m-l)] (cut xs l k) []:=fun e=>by
    have e2:cut xs l k=[]:=by unfold cut; rw [e]; simp
    rw [e,e2]
    exact .inl ⟨rfl,_,_,rfl,rfl,rfl⟩
  by_cases e:k-l=0
  · exact ⟨[],nil e,σ⟩
  rcases h with ⟨_,_,_,_,rfl,_⟩ | ⟨_,rfl,_⟩ | ⟨b,o,cap',cur,T,fr,fs,g1,g2,g3,g4,g5,g6,g7,g8⟩
  · simp at h2; omega
  · simp at h2; omega
  · simp only [List.cons.injEq,Value.slice.injEq,and_true] at g1
    obtain ⟨rfl,rfl,rfl⟩:=g1
    subst g2
    obtain ⟨f1,k1,s1⟩:=g8.drop l
    obtain ⟨f2,k2,s2⟩:=k1.take (k-l)
    have hl:(cut xs l k).length=k-l:=fA h2
    refine ⟨b::f2,.inr (.inr ⟨b,o+l*sz α,m-l,cur,T,fr,f2,?_,rfl,g3,(fun h=>by cases h),ω,ω,?_,?_⟩),fun x hx=>?_⟩
    · rw [hl,slA,if_neg ω]
      simp [gZ]
    · have:(l+(m-l))*sz α≤cap*sz α:=Nat.mul_le_mul_right _ ω
      rw [Nat.add_mul] at this
      omega
    · rw [List.drop_drop] at k2; exact k2.weak'
    · rcases List.mem_cons.1 hx with rfl | hx
      · simp
      · simp [s1 _ (s2 _ hx)]
section
variable {P:Program}{n:Nat}{L:Env}{w:World}{d:Option Tmp}{ty:TypeId}{p:String}{af:Array Edge}{g:Option (Nat × Bool)}
theorem xV {t e:TypeId}(hu:P.underlying t=some (.slice e)):P.underlying t=some (.slice (P.elem t))∧P.elem t=e:=by
  have:P.elem t=e:=by simp [Program.elem,hu]
  exact ⟨by rw [this]; exact hu,this⟩
theorem xO {t e:TypeId}{x hi:Operand}{ad:Option Addr}{len cap s:Nat}{k2:IntKind}{h:Int}(hu:P.underlying t=some (.slice e)) (hs:∀ w,(sizeOf e).run P w = .ok s w)
    (hx:evL L x=some (.slice ad len cap)) (hh:evL L hi=some (.int k2 h)) (h':Nat) (eh:h=h') (h2:h'≤cap) :
    Py P n L w ⟨d,.slice t x none (some hi) none,ty,p,af,g⟩ (.slice (slA ad 0 cap s) (h'-0) (cap-0)):=fun a ha=>by
  obtain ⟨hu',he⟩:=xV hu
  have:=run_slice_h (P:=P) w t ad len cap hu' k2 h ω ω
  rw [he,hs] at this
  subst eh
  simp [execOp,ha.eval hx,ha.eval hh,run_sliceAt_slice w t _ _ _ _ hu',this,Result.andThen,sliced,slA]
theorem sX {t e:TypeId}{x lo:Operand}{ad:Option Addr}{len cap s:Nat}{k1:IntKind}{l:Int}(hu:P.underlying t=some (.slice e)) (hs:∀ w,(sizeOf e).run P w = .ok s w)
    (hx:evL L x=some (.slice ad len cap)) (hl:evL L lo=some (.int k1 l)) (l':Nat) (el:l=l') (h1:l'≤len) :
    Py P n L w ⟨d,.slice t x (some lo) none none,ty,p,af,g⟩ (.slice (slA ad l' cap s) (len-l') (cap-l')):=fun a ha=>by
  obtain ⟨hu',he⟩:=xV hu
  have:=run_slice_l (P:=P) w t ad len cap hu' k1 l ω ω
  rw [he,hs] at this
  subst el
  simp [execOp,ha.eval hx,ha.eval hl,run_sliceAt_slice w t _ _ _ _ hu',this,Result.andThen,sliced,slA]
end
class Flat (α:Type) [Rp α]:Prop where
  flat:∀ {s w cs f} {x:α},own s w cs x f→f=[]∧∀ s' w',own s' w' cs x []
instance:Flat UInt8:=⟨fun h=>⟨h.2,fun _ _=>⟨h.1,rfl⟩⟩⟩
instance:Flat Int:=⟨fun h=>⟨h.2.1,fun _ _=>⟨h.1,rfl,h.2.2⟩⟩⟩
theorem cj.flat {α:Type}[Rp α] [Flat α] {s w}:∀ {xs:List α}{cs f},cj s w cs xs f→f=[]∧∀ s' w',cj s' w' cs xs []
  | [],_,_,h=>⟨h,fun _ _=>rfl⟩
  | _::_,_,_,⟨f1,f2,e,h1,h2⟩=>by
    obtain ⟨rfl,k1⟩:=Flat.flat h1
    obtain ⟨rfl,k2⟩:=h2.flat
    exact ⟨e,fun s' w'=>⟨[],[],rfl,k1 s' w',k2 s' w'⟩⟩
theorem pz {α:Type}[Rp α] {s w ad n cap} {xs:List α}{fp} (h:own s w [.slice ad n cap] xs fp) (h0:0<xs.length) :
    ∃ b o cs f,ad=some ⟨b,o,none⟩∧At w b o cs∧cs.length=xs.length*sz α∧cj s w cs xs f∧(∀ x∈f,x∈fp)∧b∈fp:=by
  rcases h with ⟨_,_,_,_,rfl,_⟩ | ⟨_,rfl,_⟩ | ⟨b,o,cap',cur,T,fr,fs,h1,h2,h3,h4,h5,h6,h7,h8⟩
  · simp at h0
  · simp at h0
  · simp only [List.cons.injEq,Value.slice.injEq,and_true] at h1
    obtain ⟨rfl,_,rfl⟩:=h1
    subst h2
    have hle:xs.length*sz α≤cap*sz α:=Nat.mul_le_mul_right _ h5
    refine ⟨b,o,(cur.toList.drop o).take (xs.length*sz α),fs,rfl,qO h3 _,?_,h8.congr (by rw [List.take_take,Nat.min_self]),fun x hx=>by simp [hx],σ⟩
    rw [List.length_take,List.length_drop]
    have:cur.toList.length=cur.size:=by simp
    omega
theorem cj.one' {α:Type}[Rp α] {s w}:∀ {xs:List α}{cs f},cj s w cs xs f→cs.length=xs.length*sz α→∀ v∈cs,v.oneCell'=true
  | [],cs,f,_,hl,v,hv=>by have:cs=[]:=List.eq_nil_of_length_eq_zero (by simpa using hl); subst this; simp at hv
  | x::xs,cs,f,⟨f1,f2,e,h1,h2⟩,hl,v,hv=>by
    rcases t6 (sz α) hv with hv | hv
    · exact Rp.one h1 v hv
    · exact h2.one' (by rw [List.length_drop,hl,List.length_cons,Nat.add_mul]; omega) v hv
section
variable {α:Type}[Rp α] {P:Program}{t ty e:TypeId}{z:Value}{bytes:Nat}{w:World}
theorem tM {a a2:Option Addr}{n c c2:Nat}(ht:P.underlying t=some (.slice e)) (hT:Ty P e z (sz α) bytes) (hn:n≤c) :
    (Builtin.append_ #[t,t] ty #[.slice a n c,.slice a2 0 c2]).run P w = .ok (.slice a n c) w:=by
  obtain ⟨i,hi1,hi2,hi3,hi4⟩:=hT.parts
  have hld:∀ b:Addr,(loadCells b (0*sz α)).run P w = .ok #[] w:=fun b=>by simp [loadCells,loadCellsFrom]
  cases a2 with
  | none=>cases a<;>simp [Builtin.append_,run_underlying ht,sizeOf,typeInfo,hi1,hi3,Builtin.lenOf,hn,Builtin.firstCells,storeCells]
  | some b=>cases a<;>simp [Builtin.append_,run_underlying ht,sizeOf,typeInfo,hi1,hi3,Builtin.lenOf,hn,Builtin.firstCells,loadCells,loadCellsFrom,storeCells]
theorem BA {ad n cap} {xs:List α}{fp} (h:own true w [.slice ad n cap] xs fp):n=xs.length∧n≤cap:=by
  rcases h with ⟨h,_⟩ | ⟨h1,rfl,_⟩ | ⟨b,o,cap',cur,T,fr,fs,h1,h2,h3,h4,h5,h6,h7,h8⟩
  · cases h
  · simp at h1; simp [h1]
  · simp only [List.cons.injEq,Value.slice.injEq,and_true] at h1
    obtain ⟨rfl,rfl,rfl⟩:=h1
    exact ⟨rfl,h5⟩
theorem lD [Flat α] (ht:P.underlying t=some (.slice e)) (hT:Ty P e z (sz α) bytes) (hz:z.cells.size=sz α)
    {v:Value}{xs ys:List α}{fp fy:List Nat}(h:own true w [v] xs fp) {s ad n c2} (hy:own s w [.slice ad n c2] ys fy) (n1:fp.Nodup)
    (h63:xs.length+ys.length≤maxLen) (hb48:(xs.length+ys.length)*bytes≤140737488355328) :
    ∃ v' w' fp',(Builtin.append_ #[t,t] ty #[v,.slice ad n c2]).run P w = .ok v' w'∧own true w' [v'] (xs++ys) fp'∧Ext (· ∈ fp) w w' ∧
      (∀ b∈fp',b∈fp∨w.heap.size≤b)∧fp'.Nodup:=by
  obtain rfl:=dI hy
  by_cases h0:0<ys.length
  · obtain ⟨b,o,cs,f,rfl,hat,hl,hL,_,_⟩:=pz hy h0
    obtain ⟨rfl,hL'⟩:=hL.flat
    obtain ⟨v',w',fp',k1,k2,k3,k4,k5⟩:=gK (ty:=ty) (c2:=c2) ht hT hz h hl rfl hat (hL.one' hl) (hL' true w) σ n1 .nil h0 h63 hb48
    exact ⟨v',w',fp',k1,k2,k3,fun b hb=>by rcases k4 b hb with h | h | h; exact .inl h; simp at h; exact .inr h,k5⟩
  · obtain rfl:ys=[]:=List.eq_nil_of_length_eq_zero ω
    obtain ⟨a0,c0,e0⟩:=ax h
    simp only [List.cons.injEq,and_true] at e0
    subst e0
    obtain ⟨_,hc⟩:=BA h
    exact ⟨_,_,fp,tM ht hT hc,by simpa using h,Ext.refl,fun b hb => .inl hb,n1⟩
end
section
variable {P:Program}{n:Nat}{ops:Array Oper}{Q:Post}{L:Env}{w w0:World}{M:Nat→Prop}{Δ F:List Rsc}{d:Tmp}{ty:TypeId}{p:String}{af:Array Edge}{g:Option (Nat × Bool)}{rest:List Oper}{α:Type}[Rp α] [Flat α]
theorem kK {x y:Operand}{t e:TypeId}{z:Value}{bytes:Nat}{v:Value}{xs ys:List α}{fp fy:List Nat}{s ad m c2} (hw:Wn ops n L ⟨some d,.call ⟨.builtin .append,#[x,y],#[t,t]⟩,ty,p,af,g⟩) (hn:Nat.blt d n=true)
    (ht:P.underlying t=some (.slice e)) (hT:Ty P e z (sz α) bytes) (hz:z.cells.size=sz α) (hx:evL L x=some v) (hy:evL L y=some (.slice ad m c2))
    (H:Sep M w0 Δ F w) (i:Nat) (hi:Δ[i]? = some (mine [v] xs fp)) (hu:own s w [.slice ad m c2] ys fy) (h63:xs.length+ys.length≤maxLen) (hb48:(xs.length+ys.length)*bytes≤140737488355328)
    (k:∀ v' w' fp',Sep M w0 (Δ.set i (mine [v'] (xs++ys) fp')) F w'→RL P n ops Q rest ((d,v')::L) w') :
    RL P n ops Q (⟨some d,.call ⟨.builtin .append,#[x,y],#[t,t]⟩,ty,p,af,g⟩::rest) L w:=by
  obtain ⟨v',w',fp',h1,h2,h3,h4,h5⟩:=lD (ty:=ty) ht hT hz (H.mine i hi) hu (H.nodup1 hi) h63 hb48
  exact mq hw rfl hn (lE hx hy h1) (k _ _ _ (H.set hi (q:=Wk.mine [v'] (xs++ys) fp') h3 h2 h5 h4))
end
section
variable {P:Program}{n:Nat}{ops:Array Oper}{Q:Post}{S:World→Prop}{L:Env}{w w0:World}{M:Nat→Prop}{Δ F:List Rsc}{i:Nat}{d:Tmp}{ty:TypeId}{p:String}{af:Array Edge}{g:Option (Nat × Bool)}{rest:List (Nat × Bool)}{α:Type}[Rp α] [Flat α]
theorem A2 {x y:Operand}{t e:TypeId}{z:Value}{bytes:Nat}{v:Value}{xs ys:List α}{fp fy:List Nat}{s ad m c2} (ho:ops.toList[i]? = some ⟨some d,.call ⟨.builtin .append,#[x,y],#[t,t]⟩,ty,p,af,g⟩) (hw:Wn ops n L ⟨some d,.call ⟨.builtin .append,#[x,y],#[t,t]⟩,ty,p,af,g⟩) (hn:Nat.blt d n=true)
    (ht:P.underlying t=some (.slice e)) (hT:Ty P e z (sz α) bytes) (hz:z.cells.size=sz α) (hx:evL L x=some v) (hy:evL L y=some (.slice ad m c2))
    (H:Sep M w0 Δ F w) (q:Nat) (hi:Δ[q]? = some (mine [v] xs fp)) (hu:own s w [.slice ad m c2] ys fy) (h63:xs.length+ys.length≤maxLen) (hb48:(xs.length+ys.length)*bytes≤140737488355328)
    (hS:∀ w',S w→Ext (· ∈ fp) w w'→S w')
    (k:∀ v' w' fp',Sep M w0 (Δ.set q (mine [v'] (xs++ys) fp')) F w'→DL P n ops Q S rest ((d,v')::L) w') :
    DL P n ops Q S ((i,false)::rest) L w:=by
  obtain ⟨v',w',fp',h1,h2,h3,h4,h5⟩:=lD (ty:=ty) ht hT hz (H.mine q hi) hu (H.nodup1 hi) h63 hb48
  exact mo ho hw rfl hn (lE hx hy h1) (fun h _=>hS _ h h3) (k _ _ _ (H.set hi (q:=Wk.mine [v'] (xs++ys) fp') h3 h2 h5 h4))
end
def ResS {α:Type}[Rp α] (w w':World) (cs:List Value) (x:α):Prop:=∃ fp,own false w' cs x fp∧∀ b∈fp,w.heap.size≤b
theorem Sep.freshD {w0 Δ F} {w:World}(h:Sep No w0 Δ F w) (i:Nat) {r:Rsc}(hi:Δ[i]? = some r):∀ b∈r.fp,w0.heap.size≤b:=fun b hb=>
  (h.new b (bm.2 ⟨r,List.mem_of_getElem? hi,hb⟩)).resolve_left id
theorem Sep.resS {α:Type}[Rp α] {M w0 Δ F} {w w':World}{cs:List Value}{x:α}(h:Sep M w0 Δ F w) (e:Ext No w w') (hr:ResS w w' cs x):∃ fp,Sep M w0 Δ (F++[Wk.seen false cs x fp]) w'∧∀ b∈fp,w.heap.size≤b:=by
  obtain ⟨fp,h1,h2⟩:=hr
  exact ⟨fp,(h.to e).look (r:=Wk.seen false cs x fp) h1 (fun b hb hb'=>by have:=h2 b hb; have:=h.lt b hb'; omega),h2⟩
theorem dg {α:Type}[Rp α] {s w ad n cap} {xs:List α}{fp} (h:own s w [.slice ad n cap] xs fp):xs.length≤cap:=by
  rcases h with ⟨_,_,_,_,rfl,_⟩ | ⟨_,rfl,_⟩ | ⟨b,o,cap',cur,T,fr,fs,h1,h2,h3,h4,h5,h6,h7,h8⟩
  · exact Nat.zero_le _
  · exact Nat.zero_le _
  · simp only [List.cons.injEq,Value.slice.injEq,and_true] at h1
    obtain ⟨rfl,rfl,rfl⟩:=h1
    exact h5
theorem fj {α:Type}[Rp α] {s w ad n cap} {xs:List α}{fp} (h:own s w [.slice ad n cap] xs fp) (l k m:Nat) (h1:l≤k) (h2:k≤xs.length) (h3:k≤m) (h4:m≤cap) :
    ∃ f,own false w [.slice (slA ad l m (sz α)) (cut xs l k).length (m-l)] (cut xs l k) f∧∀ b∈f,b∈fp:=by
  rw [fA h2]; exact BM h l k m h1 h2 h3 h4
section
variable {P:Program}{n:Nat}{L:Env}{w:World}{d:Option Tmp}{ty:TypeId}{p:String}{af:Array Edge}{g:Option (Nat × Bool)}
theorem hX {t e:TypeId}{x hi:Operand}{ad:Option Addr}{len cap s:Nat}{k2:IntKind}{h:Int}{m:Nat}(hu:P.underlying t=some (.slice e)) (hs:∀ w,(sizeOf e).run P w = .ok s w)
    (hx:evL L x=some (.slice ad len cap)) (hh:evL L hi=some (.int k2 h)) (h':Nat) (eh:h=h') (h2:h'≤cap) (em:m=h'-0) :
    Py P n L w ⟨d,.slice t x none (some hi) none,ty,p,af,g⟩ (.slice (slA ad 0 cap s) m (cap-0)):=by
  rw [em]; exact xO hu hs hx hh h' eh h2
theorem nQ {t e:TypeId}{x lo:Operand}{ad:Option Addr}{len cap s:Nat}{k1:IntKind}{l:Int}{m:Nat}(hu:P.underlying t=some (.slice e)) (hs:∀ w,(sizeOf e).run P w = .ok s w)
    (hx:evL L x=some (.slice ad len cap)) (hl:evL L lo=some (.int k1 l)) (l':Nat) (el:l=l') (h1:l'≤len) (em:m=len-l') :
    Py P n L w ⟨d,.slice t x (some lo) none none,ty,p,af,g⟩ (.slice (slA ad l' cap s) m (cap-l')):=by
  subst em; exact sX hu hs hx hl l' el h1
end
end Go.Wk
namespace Go.Wk
open Rp (sz own)
structure Recs (R:LoopState→Option Code→Loop) (fn:FuncId) (tmps:Array Value) (ps:Array Tmp) (assign body:Code):Prop where
  st:∀ s p,(R s p).state=s
  pe:∀ s p,(R s p).pending=p
  up:∀ s p s' p',{ R s p with state:=s',pending:=p' }=R s' p'
  fn:∀ s p,(R s p).fn=fn
  tmps:∀ s p,(R s p).tmps=tmps
  ps:∀ s p,(R s p).params=ps
  asg:∀ s p,(R s p).assign=assign
  bo:∀ s p,(R s p).body=body
section
variable {P:Program}{n:Nat}{L:Env}{w:World}{d:Option Tmp}{ty:TypeId}{p:String}{af:Array Edge}{g:Option (Nat × Bool)}
theorem gY {f:FuncId}{xs:Array Operand}{vs:List Value}(hv:fM L xs.toList=some vs) :
    Py P n L w ⟨d,.makeFunc (.func f) #[] xs,ty,p,af,g⟩ (.func (.func f) #[] vs.toArray):=fun a ha=>by
  have hm:xs.map a.eval=vs.toArray:=by
    have key:∀ (l:List Operand) (vs:List Value),fM L l=some vs→l.map a.eval=vs:=by
      intro l
      induction l with
      | nil=>intro vs h; simp [fM] at h; simp [h]
      | cons x l ih=>
        intro vs h
        unfold fM at h
        split at h
        · rename_i v us hv hus
          cases h
          simp [ha.eval hv,ih us hus]
        · cases h
    have:=key _ _ hv
    apply Array.toList_inj.1
    simpa using this
  simp [execOp,Instr.makeFunc,hm]
end
structure Pl (P:Program) (t:TypeId) (zs:List Value) (pl:List (Nat × Nat)):Prop where
  h : (match P.info? t,P.underlying t with
    | some it,some (.struct fields)=>(it.zero,fields.toList.mapM (fun f=>(P.info? f.type).map fun i=>(f.offset,i.size)))
    | _,_=>(none,none))=(some (.agg zs.toArray),some pl)
def uI (pl:List (Nat × Nat)):List Value→List (Nat × Value)→Option (List Value)
  | zs,[]=>some zs
  | zs,(i,v)::rest=>match pl[i]? with
    | none=>none
    | some (off,size)=>match Nat.beq v.cells.toList.length size && Nat.ble (off+size) zs.length with
      | true=>uI pl (aL zs off v.cells.toList) rest
      | false=>none
theorem rJ:∀ (vs:List Value) (zs:Array Value) (off k:Nat),(vs.zipIdx k).foldl (fun (cs:Array Value) (x:Value × Nat)=>cs.setIfInBounds (off+x.2) x.1) zs=lay zs (off+k) vs
  | [],zs,off,k=>rfl
  | v::vs,zs,off,k=>by
    rw [List.zipIdx_cons,List.foldl_cons,rJ vs]
    show lay (zs.setIfInBounds (off+k) v) (off+(k+1)) vs=lay (zs.setIfInBounds (off+k) v) (off+k+1) vs
    rfl
theorem qZ (pl:List (Nat × Nat)):∀ (parts:List (Nat × Value)) (zs cs:List Value),uI pl zs parts=some cs→Instr.fill (pl.toArray[·]?) zs.toArray parts=some cs.toArray
  | [],zs,cs,h=>by simp [uI] at h; simp [Instr.fill,h]
  | (i,v)::rest,zs,cs,h=>by
    unfold uI at h
    cases hp:pl[i]? with
    | none=>simp [hp] at h
    | some q=>
      obtain ⟨off,size⟩:=q
      simp only [hp] at h
      split at h
      · rename_i hc
        simp only [Bool.and_eq_true] at hc
        have h1:=Nat.eq_of_beq_eq_true hc.1
        have h2:=Nat.le_of_ble_eq_true hc.2
        have h3:=qZ pl rest _ _ h
        have h4:v.cells.size=size:=by simpa using h1
        unfold Instr.fill
        have hp':pl.toArray[i]? = some (off,size):=by simpa using hp
        simp only [hp']
        rw [if_neg (by simp [h4]; omega)]
        have e:Array.foldl (fun (cs:Array Value) (x:Value × Nat)=>cs.setIfInBounds (off+x.2) x.1) zs.toArray v.cells.zipIdx=(aL zs off v.cells.toList).toArray:=by
          rw [← Array.foldl_toList,Array.toList_zipIdx]
          have:=rJ v.cells.toList zs.toArray off 0
          rw [this,Nat.add_zero]
          exact qr (by rw [h1]; exact h2)
        rw [← h3,← e]
      · cases h
section
variable {P:Program}{n:Nat}{L:Env}{w:World}{d:Option Tmp}{ty:TypeId}{p:String}{af:Array Edge}{g:Option (Nat × Bool)}
theorem bn {t:TypeId}{parts:Array (Nat × Operand)}{zs vs cs:List Value}{pl:List (Nat × Nat)}(hp:Pl P t zs pl) (hv:fM L (parts.toList.map (·.2))=some vs)
    (hf:uI pl zs ((parts.toList.map (·.1)).zip vs)=some cs):Py P n L w ⟨d,.build t parts,ty,p,af,g⟩ (.agg cs.toArray):=zF fun a ha=>by
  have key:∀ (l:List (Nat × Operand)) (vs:List Value),fM L (l.map (·.2))=some vs→l.map (fun x=>(x.1,a.eval x.2))=(l.map (·.1)).zip vs:=by
    intro l
    induction l with
    | nil=>intro vs h; rfl
    | cons x l ih=>
      intro vs h
      simp only [List.map_cons] at h ⊢
      unfold fM at h
      split at h
      · rename_i v us hv hus
        cases h
        rw [List.zip_cons_cons,← ih us hus,ha.eval hv]
      · cases h
  have e:(parts.map fun (i,x)=>(i,a.eval x)).toList=(parts.toList.map (·.1)).zip vs:=by
    rw [Array.toList_map]
    exact key _ _ hv
  rw [e]
  obtain ⟨hp⟩:=hp
  unfold Program.built
  cases hi:P.info? t with
  | none=>simp [hi] at hp
  | some it=>
    cases hu:P.underlying t with
    | none=>simp [hi,hu] at hp
    | some td=>
      cases td<;>simp only [hi,hu,Prod.mk.injEq,reduceCtorEq,false_and,and_false] at hp
      rename_i fields
      obtain ⟨h1,h2⟩:=hp
      simp only [h1,h2]
      exact qZ _ _ _ _ hf
end
end Go.Wk
namespace Go.Wk
open Go.Proofs
theorem bh:Ty Tryz.prog 2 (.int .i64 0) 1 8:=⟨κ⟩
theorem Ap:Ty Tryz.prog 3 (.int .i64 0) 1 8:=⟨κ⟩
theorem zZ:Ty Tryz.prog 4 (.bool false) 1 1:=⟨κ⟩
theorem dK:Ty Tryz.prog 5 (.int .u8 0) 1 1:=⟨κ⟩
theorem tZ:Ty Tryz.prog 9 (.string ⟨#[]⟩) 1 16:=⟨κ⟩
theorem aM:Ty Tryz.prog 47 (.agg #[.int .i64 0,.int .i64 0,.string ⟨#[]⟩,.int .i64 0,.int .i64 0,.int .i64 0,.slice none 0 0,.slice none 0 0,.slice none 0 0]) 9 128:=⟨κ⟩
theorem fP:Ty Tryz.prog 51 (.slice none 0 0) 1 24:=⟨κ⟩
theorem dw:Ty Tryz.prog 54 (.agg #[.bool false,.slice none 0 0]) 2 32:=⟨κ⟩
theorem iI:Ty Tryz.prog 56 (.agg #[.int .i64 0,.slice none 0 0]) 2 32:=⟨κ⟩
theorem gI:Ty Tryz.prog 123 (.agg #[.bool false,.slice none 0 0]) 2 32:=⟨κ⟩
theorem yu:Pl Tryz.prog 30 [.int .i64 0,.int .i64 0,.int .i64 0,.int .i64 0,.int .i64 0,.int .i64 0,.int .i64 0,.int .i64 0,.int .i64 0] [(0,1),(1,1),(2,1),(3,1),(4,1),(5,1),(6,1),(7,1),(8,1)]:=⟨κ⟩
theorem rE:Pl Tryz.prog 34 [.int .i64 0,.int .i64 0,.int .i64 0,.int .i64 0,.int .i64 0,.int .i64 0,.int .i64 0,.int .i64 0,.int .i64 0,.slice none 0 0,.slice none 0 0,.slice none 0 0,.int .i64 0,.int .i64 0,.bool false] [(0,9),(9,1),(10,1),(11,1),(12,1),(13,1),(14,1)]:=⟨κ⟩
theorem eZ:Pl Tryz.prog 36 [.int .i64 0,.int .i64 0,.int .i64 0,.int .i64 0,.int .i64 0,.int .i64 0,.int .i64 0,.int .i64 0,.int .i64 0,.int .i64 0,.slice none 0 0,.slice none 0 0,.slice none 0 0,.int .i64 0,.int .i64 0,.bool false] [(0,1),(1,15)]:=⟨κ⟩
theorem iH:Pl Tryz.prog 47 [.int .i64 0,.int .i64 0,.string ⟨#[]⟩,.int .i64 0,.int .i64 0,.int .i64 0,.slice none 0 0,.slice none 0 0,.slice none 0 0] [(0,1),(1,1),(2,1),(3,1),(4,1),(5,1),(6,1),(7,1),(8,1)]:=⟨κ⟩
theorem jJ:Pl Tryz.prog 54 [.bool false,.slice none 0 0] [(0,1),(1,1)]:=⟨κ⟩
theorem lZ:Pl Tryz.prog 56 [.int .i64 0,.slice none 0 0] [(0,1),(1,1)]:=⟨κ⟩
theorem gz:Pl Tryz.prog 63 [.int .i64 0,.slice none 0 0] [(0,1),(1,1)]:=⟨κ⟩
theorem rC:Pl Tryz.prog 69 [.int .i64 0,.int .i64 0] [(0,1),(1,1)]:=⟨κ⟩
theorem mz:Pl Tryz.prog 123 [.bool false,.slice none 0 0] [(0,1),(1,1)]:=⟨κ⟩
theorem ve:Pl Tryz.prog 136 [.slice none 0 0,.int .i64 0] [(0,1),(1,1)]:=⟨κ⟩
theorem yR:NG Tryz.f17:=by decide
theorem yd:NG Tryz.f27:=by decide
theorem sy:NG Tryz.f28:=by decide
theorem jV:NG Tryz.f29:=by decide
theorem yI:NG Tryz.f30:=by decide
theorem yK:NG Tryz.f31:=by decide
theorem ym:NG Tryz.f32:=by decide
theorem se:NG Tryz.f33:=by decide
theorem ry:NG Tryz.f34:=by decide
theorem rv:NG Tryz.f35:=by decide
theorem rO:NG Tryz.f36:=by decide
theorem zf:NG Tryz.f40:=by decide
theorem yY:NG Tryz.f41:=by decide
theorem yX:NG Tryz.f48:=by decide
theorem yT:NG Tryz.f49:=by decide
theorem yU:NG Tryz.f51:=by decide
theorem zg:NG Tryz.f60:=by decide
theorem zd:NG Tryz.f61:=by decide
theorem sf:NG Tryz.f62:=by decide
theorem ox:NG Tryz.f63:=by decide
theorem bB:NG Tryz.f64:=by decide
theorem gG:NG Tryz.f65:=by decide
theorem gJ:NG Tryz.f66:=by decide
theorem dl:NG Tryz.f67:=by decide
theorem rz:NG Tryz.f68:=by decide
theorem yq:NG Tryz.f70:=by decide
theorem rU:NG Tryz.f71:=by decide
theorem lN:NG Tryz.f74:=by decide
theorem x7:NG Tryz.f76:=by decide
theorem cy:NG Tryz.f77:=by decide
theorem l5:NG Tryz.f78:=by decide
theorem oB:NG Tryz.f80:=by decide
theorem jM:NG Tryz.f82:=by decide
theorem jS:NG Tryz.f84:=by decide
theorem yC:NG Tryz.f85:=by decide
theorem yN:NG Tryz.f86:=by decide
theorem yM:NG Tryz.f87:=by decide
theorem yJ:NG Tryz.f88:=by decide
theorem x6:NG Tryz.f89:=by decide
theorem yw:NG Tryz.f90:=by decide
theorem yQ:NG Tryz.f91:=by decide
theorem yE:NG Tryz.f92:=by decide
theorem yG:NG Tryz.f93:=by decide
theorem od:NG Tryz.f94:=by decide
theorem oh:NG Tryz.f97:=by decide
theorem yf:NG Tryz.f98:=by decide
theorem yp:NG Tryz.f99:=by decide
theorem dB:NG Tryz.f104:=by decide
theorem wW:NG Tryz.f105:=by decide
theorem vt:NG Tryz.f114:=by decide
theorem vK:NG Tryz.f115:=by decide
theorem cu:NG Tryz.f116:=by decide
theorem qd:NG Tryz.f117:=by decide
theorem bu:NG Tryz.f118:=by decide
theorem wB:NG Tryz.f119:=by decide
theorem uX:NG Tryz.f120:=by decide
theorem bX:NG Tryz.f121:=by decide
theorem wA:NG Tryz.f122:=by decide
theorem pY:NG Tryz.f123:=by decide
theorem vH:NG Tryz.f124:=by decide
theorem wS:NG Tryz.f125:=by decide
theorem uY:NG Tryz.f126:=by decide
theorem kC:NG Tryz.f127:=by decide
theorem iJ:NG Tryz.f128:=by decide
theorem kh:NG Tryz.f129:=by decide
theorem wu:NG Tryz.f130:=by decide
theorem uT:NG Tryz.f134:=by decide
theorem xd:NG Tryz.f138:=by decide
theorem wo:NG Tryz.f139:=by decide
theorem xl:NG Tryz.f140:=by decide
theorem vB:NG Tryz.f141:=by decide
theorem kB:NG Tryz.f142:=by decide
theorem vw:NG Tryz.f147:=by decide
theorem iU:NG Tryz.f148:=by decide
theorem mW:NG Tryz.f149:=by decide
theorem qP:NG Tryz.f150:=by decide
theorem qn:NG Tryz.f151:=by decide
theorem wl:NG Tryz.f153:=by decide
theorem va:NG Tryz.f154:=by decide
theorem wO:NG Tryz.f155:=by decide
theorem wc:NG Tryz.f156:=by decide
theorem mK:NG Tryz.f157:=by decide
theorem xj:NG Tryz.f158:=by decide
theorem vn:NG Tryz.f159:=by decide
theorem wC:NG Tryz.f160:=by decide
theorem wZ:NG Tryz.f161:=by decide
theorem vl:NG Tryz.f162:=by decide
theorem u3:NG Tryz.f163:=by decide
theorem qh:NG Tryz.f164:=by decide
theorem vd:NG Tryz.f165:=by decide
theorem wz:NG Tryz.f166:=by decide
theorem vE:NG Tryz.f167:=by decide
theorem gQ:NG Tryz.f168:=by decide
theorem wN:NG Tryz.f169:=by decide
theorem vC:NG Tryz.f170:=by decide
theorem u4:NG Tryz.f171:=by decide
theorem wb:NG Tryz.f172:=by decide
theorem gU:NG Tryz.f173:=by decide
theorem vq:NG Tryz.f174:=by decide
theorem uV:NG Tryz.f177:=by decide
theorem vJ:NG Tryz.f178:=by decide
theorem kG:NG Tryz.f179:=by decide
theorem vc:NG Tryz.f180:=by decide
theorem pJ:NG Tryz.f181:=by decide
theorem u6:NG Tryz.f184:=by decide
theorem qg:NG Tryz.f185:=by decide
theorem xo:NG Tryz.f186:=by decide
theorem vX:NG Tryz.f187:=by decide
theorem bA:NG Tryz.f190:=by decide
theorem u0:NG Tryz.f191:=by decide
theorem vY:NG Tryz.f200:=by decide
theorem mG:NG Tryz.f201:=by decide
theorem wE:NG Tryz.f202:=by decide
theorem vU:NG Tryz.f203:=by decide
theorem ww:NG Tryz.f204:=by decide
theorem xk:NG Tryz.f205:=by decide
theorem vj:NG Tryz.f206:=by decide
theorem mY:NG Tryz.f216:=by decide
theorem wq:NG Tryz.f217:=by decide
theorem vz:NG Tryz.f218:=by decide
theorem vg:NG Tryz.f223:=by decide
theorem mM:NG Tryz.f224:=by decide
theorem wj:NG Tryz.f225:=by decide
theorem pT:NG Tryz.f226:=by decide
theorem pX:NG Tryz.f227:=by decide
theorem vp:NG Tryz.f228:=by decide
theorem vW:NG Tryz.f229:=by decide
theorem uZ:NG Tryz.f230:=by decide
theorem p7:NG Tryz.f231:=by decide
theorem qG:NG Tryz.f232:=by decide
theorem vi:NG Tryz.f233:=by decide
theorem vG:NG Tryz.f234:=by decide
theorem vI:NG Tryz.f235:=by decide
theorem vy:NG Tryz.f236:=by decide
theorem xi:NG Tryz.f240:=by decide
theorem xe:NG Tryz.f243:=by decide
theorem vM:NG Tryz.f246:=by decide
theorem vN:NG Tryz.f251:=by decide
theorem mQ:NG Tryz.f252:=by decide
theorem u9:NG Tryz.f253:=by decide
theorem wy:NG Tryz.f254:=by decide
theorem mU:NG Tryz.f261:=by decide
theorem ky:NG Tryz.f262:=by decide
theorem wv:NG Tryz.f263:=by decide
theorem wh:NG Tryz.f264:=by decide
theorem wR:NG Tryz.f265:=by decide
theorem wx:NG Tryz.f266:=by decide
theorem wa:NG Tryz.f267:=by decide
theorem vD:NG Tryz.f268:=by decide
theorem vQ:NG Tryz.f269:=by decide
theorem wI:NG Tryz.f270:=by decide
theorem vT:NG Tryz.f283:=by decide
theorem qI:NG Tryz.f284:=by decide
theorem wJ:NG Tryz.f289:=by decide
theorem wG:NG Tryz.f291:=by decide
theorem qe:NG Tryz.f292:=by decide
theorem mR:NG Tryz.f298:=by decide
end Go.Wk
namespace Go.Wk
open Rp (sz own)
theorem Sep.part {M w0 Δ F} {w:World}(h:Sep M w0 Δ F w) (i:Nat) {r:Rsc}(hi:Δ[i]? = some r) (rs:List Rsc) (hrs:∀ q∈rs,q.φ w) (hb:blocks rs=r.fp):Sep M w0 (Δ.set i gone++rs) F w:=by
  have hx:=ic hi h.nd
  have hsub:∀ b,b∈blocks (Δ.set i gone)→b∈blocks Δ:=fun b hb=>by
    rcases dA hi b hb with h | h
    · simp [gone] at h
    · exact h
  have hmem:∀ b∈r.fp,b∈blocks Δ:=fun b hb=>bm.2 ⟨r,List.mem_of_getElem? hi,hb⟩
  refine ⟨h.ext,fun q hq=>?_,?_,fun b hb'=>?_,h.fs,fun q hq b hbq hb'=>?_⟩
  · rcases List.mem_append.1 hq with hq | hq
    · rcases jU (q:=gone) hi h.nd q hq with rfl | ⟨hq,_⟩
      · trivial
      · exact h.rs q hq
    · exact hrs q hq
  · rw [bZ,hb]
    refine List.nodup_append.2 ⟨iG hi h.nd (by simp [gone]) (by simp [gone]),h.nodup1 hi,fun x hx1 y hy e=>?_⟩
    subst e
    exact hx x hy hx1
  · rw [bZ,hb] at hb'
    rcases List.mem_append.1 hb' with hb' | hb'
    · exact h.new b (hsub b hb')
    · exact h.new b (hmem b hb')
  · rw [bZ,hb] at hb'
    rcases List.mem_append.1 hb' with hb' | hb'
    · exact h.ap q hq b hbq (hsub b hb')
    · exact h.ap q hq b hbq (hmem b hb')
end Go.Wk
namespace Go.Wk
open Rp (sz own)
section
variable {P:Program}{n:Nat}{L:Env}{w:World}{d:Option Tmp}{ty:TypeId}{p:String}{af:Array Edge}{g:Option (Nat × Bool)}
theorem eK {f:FuncId}{fn:Func}{x:Operand}{xs:Array Operand}{ats:Array TypeId}{vs lb:List Value}(hx:evL L x=some (.func (.func f) #[] lb.toArray)) (hf:P.funcs[f]? = some fn) (hb:fn.body.isNone=false) (hnm:(fn.name == "runtime.NumGoroutine")=false)
    (hv:fM L xs.toList=some vs):Pc P n L w ⟨d,.call ⟨.value x,xs,ats⟩,ty,p,af,g⟩ f (vs++lb).toArray:=fun a ha=>by
  have hm:xs.map a.eval=vs.toArray:=by
    have key:∀ (l:List Operand) (vs:List Value),fM L l=some vs→l.map a.eval=vs:=by
      intro l
      induction l with
      | nil=>intro vs h; simp [fM] at h; simp [h]
      | cons x l ih=>
        intro vs h
        unfold fM at h
        split at h
        · rename_i v us hv hus
          cases h
          simp [ha.eval hv,ih us hus]
        · cases h
    have:=key _ _ hv
    apply Array.toList_inj.1
    simpa using this
  have hb':¬ fn.body=none:=fun e=>by rw [e] at hb; simp at hb
  have hnm':¬ fn.name = "runtime.NumGoroutine" := fun e=>by rw [e] at hnm; simp at hnm
  simp [execOp,resolve,Deferred.ofValue,invoke,callFunc,hf,hb',hnm',hm,ha.eval hx]
def strB (xs:List UInt8):ByteArray:=⟨xs.toArray⟩
theorem AD {xs ys:List UInt8}:strB xs=strB ys↔xs=ys:=by
  constructor
  · intro h
    have:(strB xs).data.toList=(strB ys).data.toList:=by rw [h]
    simpa [strB] using this
  · rintro rfl; rfl
theorem CQ (xs:List UInt8):strOfNums (xs.map fun x=>(x.toNat:Int))=strB xs:=by
  simp only [strOfNums,strB,List.map_map]
  congr 2
  refine (List.map_congr_left (g:=id) fun a _=>?_).trans (List.map_id xs)
  simp
theorem Cc {src e dst:TypeId}(hs:P.underlying src=some (.slice e)) (he:P.underlying e=some (.int .u8)) (hd:P.underlying dst=some .string) {s ad n cap} {xs:List UInt8}{f} (h:own s w [.slice ad n cap] xs f) :
    (convert src dst (.slice ad n cap)).run P w = .ok (.string (strB xs)) w:=by
  obtain rfl:=dI h
  cases ad with
  | none=>
    have:xs=[]:=by
      by_cases h0:0<xs.length
      · obtain ⟨_,_,_,_,e,_⟩:=pz h h0; cases e
      · exact List.eq_nil_of_length_eq_zero ω
    subst this
    rw [run_convert_bytes_nil w src e hs he _ _ dst hd]
    rfl
  | some a=>
    by_cases h0:0<xs.length
    · obtain ⟨b,o,_,_,e1,_⟩:=pz h h0
      cases e1
      rw [run_convert_bytes_arg w src e hs he b o xs.length cap (xs.map fun x=>(x.toNat:Int)) σ (fun i hi=>?_) dst hd,CQ]
      obtain ⟨b2,o2,e2,hc⟩:=iv h i hi
      cases e2
      rw [Nat.mul_one] at hc
      rw [hc]
      simp [List.getD,hi]
    · have:xs=[]:=List.eq_nil_of_length_eq_zero ω
      subst this
      rw [run_convert_bytes_string w src dst e _ _ cap hs he hd,run_bytesToString w _ _ cap [] (by simp [loadCells,loadCellsFrom])]
      rfl
theorem zQ {src e dst:TypeId}{x:Operand}{s ad m cap} {xs:List UInt8}{f} (hs:P.underlying src=some (.slice e)) (he:P.underlying e=some (.int .u8)) (hd:P.underlying dst=some .string) (hx:evL L x=some (.slice ad m cap))
    (h:own s w [.slice ad m cap] xs f):Py P n L w ⟨d,.convert src dst x,ty,p,af,g⟩ (.string (strB xs)):=fun a ha=>by
  simp [execOp,ha.eval hx,Cc hs he hd h]
theorem A5 {b o m s:Nat}:slA (some ⟨b,o,none⟩) 0 m s=some ⟨b,o,none⟩:=by
  unfold slA; split
  · rfl
  · simp [gZ]
theorem xZ {t e:TypeId}{x hi:Operand}{b o len cap s:Nat}{k2:IntKind}{h:Int}(hu:P.underlying t=some (.slice e)) (hs:∀ w,(sizeOf e).run P w = .ok s w)
    (hx:evL L x=some (.slice (some ⟨b,o,none⟩) len cap)) (hh:evL L hi=some (.int k2 h)) (h':Nat) (eh:h=h') (h2:h'≤cap) :
    Py P n L w ⟨d,.slice t x none (some hi) none,ty,p,af,g⟩ (.slice (some ⟨b,o,none⟩) h' cap):=by
  have:=xO (n:=n) (w:=w) (d:=d) (ty:=ty) (p:=p) (af:=af) (g:=g) hu hs hx hh h' eh h2
  rwa [A5] at this
end
end Go.Wk
namespace Go.Wk
open Rp (sz own)
def ew {α:Type}(p:α→Bool) (xs:List α):Int:=match xs.findIdx? p with
  | some k=>k
  | none => -1
theorem ki {α:Type}{p:α→Bool}{xs:List α}{d:α}{k:Nat}(hk:k<xs.length) (h:p (xs.getD k d)=true) (hn:∀ i,i<k→p (xs.getD i d)=false):ew p xs=k:=by
  have:xs.findIdx? p=some k:=by
    rw [List.findIdx?_eq_some_iff_getElem]
    refine ⟨hk,?_,fun j hj=>?_⟩
    · simpa [List.getD,hk] using h
    · have:=hn j hj
      have hj':j<xs.length:=by omega
      simpa [List.getD,hj'] using this
  simp [ew,this]
theorem kr {α:Type}{p:α→Bool}{xs:List α}{d:α}(hn:∀ i,i<xs.length→p (xs.getD i d)=false):ew p xs = -1:=by
  have:xs.findIdx? p=none:=by
    rw [List.findIdx?_eq_none_iff]
    intro x hx
    obtain ⟨i,hi,rfl⟩:=List.getElem_of_mem hx
    have:=hn i hi
    simpa [List.getD,hi] using this
  simp [ew,this]
theorem js {α:Type}{p:α→Bool}{xs:List α}:decide (0≤ew p xs)=xs.any p:=by
  unfold ew
  cases h:xs.findIdx? p with
  | none=>
    rw [List.findIdx?_eq_none_iff] at h
    have:xs.any p=false:=by simpa using h
    simp [this]
  | some k=>
    rw [List.findIdx?_eq_some_iff_getElem] at h
    obtain ⟨hk,hp,_⟩:=h
    have:xs.any p=true:=List.any_eq_true.2 ⟨_,List.getElem_mem hk,hp⟩
    simp [this]
end Go.Wk
namespace Go.Wk
open Rp (sz own)
section
variable {P:Program}{n:Nat}{ops:Array Oper}{Q:Post}{S:World→Prop}{L:Env}{w w0:World}{M:Nat→Prop}{Δ F:List Rsc}{i:Nat}{d:Tmp}{ty:TypeId}{p:String}{af:Array Edge}{g:Option (Nat × Bool)}{rest:List (Nat × Bool)}
theorem bU {t:TypeId}{x y:Operand}{b off:Nat}{cs:List Value}{T v} (ho:ops.toList[i]? = some ⟨none,.store t x y,ty,p,af,g⟩) (hw:Wn ops n L ⟨none,.store t x y,ty,p,af,g⟩) (hs:∀ w,(sizeOf t).run P w = .ok 1 w) (hx:evL L x=some (.pointer (some ⟨b,off,none⟩))) (hy:evL L y=some v) (h1:v.oneCell'=true)
    (H:Sep M w0 Δ F w) (j:Nat) (hi:Δ[j]? = some (box b (.cells cs.toArray T))) (hf:Nat.blt off cs.length=true) (hS:∀ w',S w→Ext (· = b) w w'→rest≠[]→S w')
    (k:∀ w',Ext (· = b) w w'→Sep M w0 (Δ.set j (box b (.cells (cs.set off v).toArray T))) F w'→DL P n ops Q S rest L w') :
    DL P n ops Q S ((i,false)::rest) L w:=by
  have h:=k _ (Ext.refl.put (.inl rfl)) (H.put j _ hi)
  rw [← List.setIfInBounds_toArray] at h
  exact x9 ho hw rfl (jX hs hx hy h1 (H.box j hi) (by rw [List.size_toArray]; exact Nat.le_of_ble_eq_true hf)) (fun hSw hr=>hS _ hSw (Ext.refl.put (.inl rfl)) hr) h
end
end Go.Wk
namespace Go.Wk
open Rp (sz own)
def BoxTo (w w':World) (b:Nat) (o:Obj):Prop:=Ext (· = b) w w'∧w'.heap[b]? = some o
section
variable {M:Nat→Prop}{w0 w w':World}{Δ F:List Rsc}
theorem Sep.putBox (h:Sep M w0 Δ F w) (i:Nat) {b:Nat}{o o':Obj}(hi:Δ[i]? = some (Wk.box b o)) (e:Ext (· = b) w w') (hb:w'.heap[b]? = some o'):Sep M w0 (Δ.set i (Wk.box b o')) F w':=
  h.set hi (q:=Wk.box b o') (e.mono fun x _ hx=>by simp [Wk.box,hx]) hb (by simp [Wk.box]) fun x hx => .inl hx
theorem Sep.beginBox {b:Nat}{o:Obj}(hb:w.heap[b]? = some o):Sep (· = b) w [Wk.box b o] [] w:=
  ⟨Ext.refl,by intro r hr; simp at hr; subst hr; exact hb,by simp [blocks,Wk.box],fun x hx => .inl (by simpa [blocks,Wk.box] using hx),σ,σ⟩
theorem Sep.newBox (h:Sep M w0 Δ F w) (e:Ext No w w') {b:Nat}{o:Obj}(hb:w'.heap[b]? = some o) (hf:w.heap.size≤b):Sep M w0 (Δ++[Wk.box b o]) F w':=
  h.add e (r:=Wk.box b o) hb (by simp [Wk.box]) (by simpa [Wk.box] using hf)
theorem Sep.offb (h:Sep M w0 Δ F w) (j:Nat) {r:Rsc}(hj:F[j]? = some r) (i:Nat) {b:Nat}{o:Obj}(hi:Δ[i]? = some (Wk.box b o)):∀ x∈r.fp,x≠b:=fun x hx e=>by
  subst e
  exact h.ap r (List.mem_of_getElem? hj) x hx (bm.2 ⟨_,List.mem_of_getElem? hi,by simp [Wk.box]⟩)
theorem Sep.outB {α:Type}[Rp α] {b:Nat}{o:Obj}(h:Sep (· = b) w0 Δ F w) (j:Nat) (hj:Δ[j]? = some (Wk.box b o)) (i:Nat) {cs:List Value}{x:α}{fp:List Nat}(hi:Δ[i]? = some (Wk.mine cs x fp)) (hij:Nat.beq j i=false):Res w0 w cs x:=by
  refine ⟨fp,h.mine i hi,h.nodup1 hi,fun y hy=>?_⟩
  rcases h.new y (bm.2 ⟨_,List.mem_of_getElem? hi,hy⟩) with e | e
  · subst e
    exact absurd hy (h.apart hi hj hij y (by simp [Wk.box]))
  · exact e
end
theorem Sep.resBox {α:Type}[Rp α] {M:Nat→Prop}{w0 w w':World}{Δ F:List Rsc}(h:Sep M w0 Δ F w) (i:Nat) {b:Nat}{o o':Obj}(hi:Δ[i]? = some (Wk.box b o)) (e:Ext (· = b) w w') (hb:w'.heap[b]? = some o') {cs:List Value}{x:α}(hr:Res w w' cs x) :
    ∃ fp,Sep M w0 (Δ.set i (Wk.box b o')++[Wk.mine cs x fp]) F w':=by
  obtain ⟨fp,h1,h2,h3⟩:=hr
  have hp:=h.putBox i hi e hb
  have hb':b∈blocks (Δ.set i (Wk.box b o')):=bm.2 ⟨_,List.mem_of_getElem? (List.getElem?_set_self (List.getElem?_eq_some_iff.1 hi).1),by simp [Wk.box]⟩
  have hlt:∀ x∈blocks (Δ.set i (Wk.box b o')),x<w.heap.size:=fun x hx=>by
    rcases dA hi x hx with hx | hx
    · simp only [Wk.box,List.mem_singleton] at hx
      subst hx
      exact h.lt _ (bm.2 ⟨_,List.mem_of_getElem? hi,by simp [Wk.box]⟩)
    · exact h.lt x hx
  refine ⟨fp,hp.ext,fun r hr=>?_,?_,fun x hx=>?_,hp.fs,fun r hr x hx hx2=>?_⟩
  · rcases List.mem_append.1 hr with hr | hr
    · exact hp.rs r hr
    · simp at hr; subst hr; exact h1
  · rw [bZ]
    refine List.nodup_append.2 ⟨hp.nd,by simpa [blocks,Wk.mine] using h2,fun x hx y hy e=>?_⟩
    subst e
    have:=hlt x hx
    have:=h3 x (by simpa [blocks,Wk.mine] using hy)
    omega
  · rw [bZ] at hx
    rcases List.mem_append.1 hx with hx | hx
    · exact hp.new x hx
    · have:=h3 x (by simpa [blocks,Wk.mine] using hx)
      have:=h.ext.size
      exact .inr ω
  · rw [bZ] at hx2
    rcases List.mem_append.1 hx2 with hx2 | hx2
    · exact hp.ap r hr x hx hx2
    · have h4:=h3 x (by simpa [blocks,Wk.mine] using hx2)
      have:=r.lt (h.fs r hr) x hx
      omega
section
variable {P:Program}{n:Nat}{L:Env}{w:World}{d:Option Tmp}{ty:TypeId}{p:String}{af:Array Edge}{g:Option (Nat × Bool)}
theorem kM {s:TypeId}{fs:Array Field}{x:Operand}{i:Nat}{f:Field}{td:TypeDesc}{cs:Array Value}{v:Value}(hu:P.underlying s=some (.struct fs)) (hf:fs[i]? = some f) (ht:P.underlying f.type=some td) (h1:single td=true)
    (hx:evL L x=some (.agg cs)) (hv:cs[f.offset]? = some v):Py P n L w ⟨d,.field s x i,ty,p,af,g⟩ v:=fun a ha=>by
  simp [execOp,ha.eval hx,Instr.field,run_underlying hu,hf,part,asAgg,lT ht,h1,hv]
theorem Bl {s:TypeId}{fs:Array Field}{x:Operand}{i sz:Nat}{f:Field}{td:TypeDesc}{cs:Array Value}(hu:P.underlying s=some (.struct fs)) (hf:fs[i]? = some f) (ht:P.underlying f.type=some td) (hs:∀ w,(sizeOf f.type).run P w = .ok sz w) (h1:single td=false)
    (hx:evL L x=some (.agg cs)):Py P n L w ⟨d,.field s x i,ty,p,af,g⟩ (.agg (cs.extract f.offset (f.offset+sz))):=fun a ha=>by
  simp [execOp,ha.eval hx,Instr.field,run_underlying hu,hf,part,asAgg,lT ht,h1,hs]
theorem rp {t e:TypeId}{a:Option Addr}{m c:Nat}(hu:P.underlying t=some (.slice e)):(binOp .eql t (.slice a m c) (.slice none 0 0)).run P w = .ok (.bool a.isNone) w:=by
  have h:∀ d,(Op.equalIn (d+1) t (.slice a m c) (.slice none 0 0)).run P w = .ok a.isNone w:=by
    intro d; cases a<;>simp [Op.equalIn,run_underlying hu]
  have h2:(Op.equal t (.slice a m c) (.slice none 0 0)).run P w = .ok a.isNone w:=h 9999
  simp only [binOp]
  simp [h2]
theorem p4 {t e:TypeId}{x y:Operand}{yt:TypeId}{a:Option Addr}{m c:Nat}(hu:P.underlying t=some (.slice e)) (hx:evL L x=some (.slice a m c)) (hy:evL L y=some (.slice none 0 0)) :
    Py P n L w ⟨d,.binOp .eql t x y yt,ty,p,af,g⟩ (.bool a.isNone):=fun a ha=>by
  simp [execOp,ha.eval hx,ha.eval hy,eqGuard,rp hu]
end
theorem rg {α:Type}[Rp α] {s w ad m c} {xs:List α}{f} (h:own s w [.slice ad m c] xs f) (ha:ad.isNone=true):xs=[]:=by
  by_cases h0:0<xs.length
  · obtain ⟨b,o,_,_,e,_⟩:=pz h h0
    subst e; simp at ha
  · exact List.eq_nil_of_length_eq_zero ω
theorem B5 {a b:Int}(h:0≤a) (hb:0<b):0≤a.tdiv b∧a.tdiv b≤a:=by
  rw [Int.tdiv_eq_ediv_of_nonneg h]
  exact ⟨Int.ediv_nonneg h ω,Int.ediv_le_self _ h⟩
theorem nq {a b:Int}(h:0≤a) (hb:0<b):0≤a.tmod b∧a.tmod b<b:=⟨Int.tmod_nonneg _ h,Int.tmod_lt_of_pos _ hb⟩
theorem qF {w:World}:∀ {xs:List Int},(∀ x∈xs,I64ok x)→cj true w (xs.map (Value.int .i64)) xs []
  | [],_=>rfl
  | x::xs,h=>⟨[],[],rfl,⟨by simp [sz],rfl,h x σ⟩,by simpa [sz] using qF (w:=w) (xs:=xs) fun y hy=>h y (by simp [hy])⟩
section
variable {P:Program}{n:Nat}{ops:Array Oper}{Q:Post}{L:Env}{w w0:World}{M:Nat→Prop}{Δ F:List Rsc}{rest:List Oper}{d:Nat}{ty:TypeId}{p:String}{af:Array Edge}{g:Option (Nat × Bool)}
theorem cB {t e:TypeId}{parts:Array (Nat × Operand)}{z:Value}{bytes:Nat}(xs:List Int) (hw:Wn ops n L ⟨some d,.buildSlice t xs.length parts,ty,p,af,g⟩) (hn:Nat.blt d n=true) (ht:P.underlying t=some (.slice e)) (hT:Ty P e z 1 bytes)
    (hix:parts.toList.map (·.1)=List.range xs.length) (hv:fM L (parts.toList.map (·.2))=some (xs.map (Value.int .i64))) (hk:∀ x∈xs,I64ok x) (h0:0<xs.length) (hl:xs.length≤1000) (H:Sep M w0 Δ F w)
    (k:∀ b w',Ext No w w'→w.heap.size≤b→Sep M w0 (Δ++[mine [.slice (some ⟨b,0,none⟩) xs.length xs.length] xs [b]]) F w'→RL P n ops Q rest ((d,.slice (some ⟨b,0,none⟩) xs.length xs.length)::L) w') :
    RL P n ops Q (⟨some d,.buildSlice t xs.length parts,ty,p,af,g⟩::rest) L w:=by
  have hparts:∀ a,Good n a L→(parts.map fun (i,x)=>(i,a.eval x)).toList=((xs.map (Value.int .i64)).zipIdx 0).map fun x=>(x.2,x.1):=fun a ha=>by
    have key:∀ (l:List (Nat × Operand)) (vs:List Value) (k:Nat),l.map (·.1)=List.range' k vs.length→fM L (l.map (·.2))=some vs→l.map (fun x=>(x.1,a.eval x.2))=(vs.zipIdx k).map fun x=>(x.2,x.1):=by
      intro l
      induction l with
      | nil=>intro vs k h1 h2; simp [fM] at h2; subst h2; rfl
      | cons x l ih=>
        intro vs k h1 h2
        simp only [List.map_cons] at h1 h2 ⊢
        unfold fM at h2
        split at h2
        · rename_i v us hv hus
          cases h2
          rw [List.length_cons,List.range'_succ] at h1
          simp only [List.cons.injEq] at h1
          rw [List.zipIdx_cons,List.map_cons,← ih us (k+1) h1.2 hus,ha.eval hv,h1.1]
        · cases h2
    rw [Array.toList_map]
    refine key parts.toList _ 0 ?_ hv
    rw [hix,List.length_map,List.range_eq_range']
  have hp:=qM (n:=n) (w:=w) (ty:=ty) (p:=p) (af:=af) (g:=g) (d:=some d) (parts:=parts) (vs:=xs.map (Value.int .i64)) (len:=xs.length) ht hT ω σ hparts (by intro v hv; simp at hv; obtain ⟨x,_,rfl⟩:=hv; rfl) h0 ω
  refine mq hw rfl hn hp (k _ _ (Ext.refl.alloc _) (Nat.le_refl _) ?_)
  refine H.add (Ext.refl.alloc _) (r:=Wk.mine [.slice (some ⟨w.heap.size,0,none⟩) xs.length xs.length] xs [w.heap.size]) (.inr (.inr ⟨w.heap.size,0,_,_,e,(0,0),[],rfl,rfl,heap_alloc_new w _,fun _=>rfl,Nat.le_refl _,by unfold maxLen; omega,?_,?_⟩)) (by simp [Wk.mine]) (by simp [Wk.mine])
  · have:∀ l:List Int,(l.map (Value.int .i64)).flatMap (fun v=>v.cells.toList)=l.map (Value.int .i64):=by
      intro l; induction l with
      | nil=>rfl
      | cons x l ih=>simp only [List.map_cons,List.flatMap_cons,ih]; rfl
    simp [this,sz]
  · have:∀ l:List Int,(l.map (Value.int .i64)).flatMap (fun v=>v.cells.toList)=l.map (Value.int .i64):=by
      intro l; induction l with
      | nil=>rfl
      | cons x l ih=>simp only [List.map_cons,List.flatMap_cons,ih]; rfl
    simp only [this,List.drop_zero]
    exact qF hk
end
end Go.Wk
namespace Go.Wk
open Rp (sz own)
abbrev Mat:=List (List UInt8)
end Go.Wk
namespace Go.Wk
open Rp (sz own)
section
variable {P:Program}{n:Nat}{ops:Array Oper}{Q:Post}{S:World→Prop}{L:Env}{w w0 wr:World}{M M':Nat→Prop}{Δ F:List Rsc}{i:Nat}{d:Tmp}{ty:TypeId}{p:String}{af:Array Edge}{g:Option (Nat × Bool)}{rest:List (Nat × Bool)}{α:Type}[Rp α]
theorem d_S {l:List (Nat × Bool)}(h:S w→DL P n ops Q S l L w) (hl:l≠[]):DL P n ops Q S l L w:=fun hs a ha hS=>h (hS hl) hs a ha hS
theorem lK {x y:Operand}{t e:TypeId}{z:Value}{bytes:Nat}{v:Value}{xs:List α}{fp:List Nat}{b2 c2:Nat}{T} {cs:List Value}{u:α}(ho:ops.toList[i]? = some ⟨some d,.call ⟨.builtin .append,#[x,y],#[t,t]⟩,ty,p,af,g⟩) (hw:Wn ops n L ⟨some d,.call ⟨.builtin .append,#[x,y],#[t,t]⟩,ty,p,af,g⟩) (hn:Nat.blt d n=true)
    (ht:P.underlying t=some (.slice e)) (hT:Ty P e z (sz α) bytes) (hz:z.cells.size=sz α) (hx:evL L x=some v) (hy:evL L y=some (.slice (some ⟨b2,0,none⟩) 1 c2))
    (H:Sep M w0 Δ F w) (q j:Nat) (hi:Δ[q]? = some (mine [v] xs fp)) (hj:Δ[j]? = some (box b2 (.cells cs.toArray T))) (hu:own true w cs u []) (h63:xs.length+1≤maxLen) (hb48:(xs.length+1)*bytes≤140737488355328)
    (hf:∀ b∈fp,wr.heap.size≤b)
    (k:∀ v' w' fp',(∀ b∈fp',b∈fp∨w.heap.size≤b)→Sep M w0 (Δ.set q (mine [v'] (xs++[u]) fp')) F w'→DL P n ops Q (Ext M' wr) rest ((d,v')::L) w') :
    DL P n ops Q (Ext M' wr) ((i,false)::rest) L w:=by
  obtain ⟨v',w',fp',h1,h2,h3,h4,h5⟩:=gK (ty:=ty) ht hT hz (H.mine q hi) (ys:=[u]) (c2:=c2) (m:=1) (by rw [Rp.len hu]; simp) rfl (At.whole (H.box j hj)) (Rp.one hu) (.one hu) σ (H.nodup1 hi) .nil σ h63 hb48
  have h6:∀ b∈fp',b∈fp∨w.heap.size≤b:=fun b hb=>by rcases h4 b hb with h | h | h; exact .inl h; simp at h; exact .inr h
  exact mo ho hw rfl hn (lE hx hy h1) (fun h _=>h.step h3 fun b hb => .inr (hf b hb)) (k _ _ _ h6 (H.set hi (q:=Wk.mine [v'] (xs++[u]) fp') h3 h2 h5 h6))
theorem fa [Flat α] {x y:Operand}{t e:TypeId}{z:Value}{bytes:Nat}{v:Value}{xs ys:List α}{fp fy:List Nat}{s ad m c2} (ho:ops.toList[i]? = some ⟨some d,.call ⟨.builtin .append,#[x,y],#[t,t]⟩,ty,p,af,g⟩) (hw:Wn ops n L ⟨some d,.call ⟨.builtin .append,#[x,y],#[t,t]⟩,ty,p,af,g⟩) (hn:Nat.blt d n=true)
    (ht:P.underlying t=some (.slice e)) (hT:Ty P e z (sz α) bytes) (hz:z.cells.size=sz α) (hx:evL L x=some v) (hy:evL L y=some (.slice ad m c2))
    (H:Sep M w0 Δ F w) (q:Nat) (hi:Δ[q]? = some (mine [v] xs fp)) (hu:own s w [.slice ad m c2] ys fy) (h63:xs.length+ys.length≤maxLen) (hb48:(xs.length+ys.length)*bytes≤140737488355328)
    (hf:∀ b∈fp,wr.heap.size≤b)
    (k:∀ v' w' fp',(∀ b∈fp',b∈fp∨w.heap.size≤b)→Sep M w0 (Δ.set q (mine [v'] (xs++ys) fp')) F w'→DL P n ops Q (Ext M' wr) rest ((d,v')::L) w') :
    DL P n ops Q (Ext M' wr) ((i,false)::rest) L w:=by
  obtain ⟨v',w',fp',h1,h2,h3,h4,h5⟩:=lD (ty:=ty) ht hT hz (H.mine q hi) hu (H.nodup1 hi) h63 hb48
  exact mo ho hw rfl hn (lE hx hy h1) (fun h _=>h.step h3 fun b hb => .inr (hf b hb)) (k _ _ _ h4 (H.set hi (q:=Wk.mine [v'] (xs++ys) fp') h3 h2 h5 h4))
end
end Go.Wk
namespace Go.Wk
open Rp (sz own)
def reord (r:Rsc) (fp:List Nat) (h:∀ b,b∈fp↔b∈r.fp):Rsc:=⟨fp,r.φ,fun a e=>r.st a fun b hb=>e b ((h b).2 hb),fun a b hb=>r.lt a b ((h b).1 hb)⟩
section
variable {M:Nat→Prop}{w0 w w':World}{Δ F:List Rsc}{β:Type}[Rp β]
theorem iL {a b:Rsc}{t:List Rsc}:∀ {Δ:List Rsc}{i:Nat},i<Δ.length→(Δ.set i a++b::t).Perm (Δ.set i b++a::t)
  | [],_,h=>by simp at h
  | x::Δ,0,_=>by
    show (a::(Δ++b::t)).Perm (b::(Δ++a::t))
    exact (List.perm_middle.cons a).trans ((List.Perm.swap _ _ _).trans (List.perm_middle.symm.cons b))
  | x::Δ,i+1,h=>(iL (Δ:=Δ) (i:=i) (by simpa using h)).cons x
end
def hv (n:Nat) (have_:List Int) (base:Int) (t:Nat):List UInt8:=DB n (have_.getD t 0) base
end Go.Wk
namespace Go.Wk
theorem wou {n:Nat}{ops:Array Oper}{L:Env}{o:Oper}{j t b} (h:o.guard=some (j,b)) (hd:gh ops j=some t) (hb:look L t=some undef):Wo ops n L o:=fun a hg=>by
  have hy:yielded ops a.tmps j=none:=by
    have h:=hg.cov t _ hb
    have hd':(ops[j]?).bind (·.dst)=some t:=by simpa [gh] using hd
    simp only [yielded,hd',Option.bind_some]
    simp only [Array.getD_eq_getD_getElem?] at h
    cases ht:a.tmps[t]? with
    | none=>rfl
    | some v=>rw [ht] at h; simp at h; subst h; rfl
  simp [Region.wanted,h,hy]
def gM (xs:List Int) (m:Int) (i:Nat):Bool:=decide (0≤xs.getD i 0) && decide (xs.getD i 0≤m) && (decide (i=0) || decide (xs.getD (i-1) 0<xs.getD i 0))
def rises (xs:List Int) (m:Int):Bool:=(List.range xs.length).all (gM xs m)
theorem rS {xs m} (h:∀ i,i<xs.length→gM xs m i=true):rises xs m=true:=by
  rw [rises,List.all_eq_true]
  exact fun i hi=>h i (by simpa using hi)
theorem nj {xs m} (i:Nat) (hi:i<xs.length) (h:gM xs m i=false):rises xs m=false:=by
  cases hr:rises xs m with
  | false=>rfl
  | true=>
    rw [rises,List.all_eq_true] at hr
    rw [hr i (by simpa using hi)] at h
    cases h
theorem rI {xs m} (h:rises xs m=true) (i:Nat) (hi:i<xs.length):0≤xs.getD i 0∧xs.getD i 0≤m:=by
  rw [rises,List.all_eq_true] at h
  have:=h i (by simpa using hi)
  simp only [gM,Bool.and_eq_true,decide_eq_true_eq] at this
  exact this.1
end Go.Wk
namespace Go.Wk
open Rp (sz own)
theorem rY {s w cs} {x:Shape}{fp} (h:own s w cs x fp):cs=[.int .i64 x.Groups,.int .i64 x.Column,.int .i64 x.Data,.int .i64 x.Spare,.int .i64 x.Rows,.int .i64 x.Cap,.int .i64 x.Batch,.int .i64 x.Queue,.int .i64 x.Stage]∧fp=[]∧x.Ok:=by
  obtain ⟨_,_,_,_,rfl,e0,h0,k0⟩:=bR h
  obtain ⟨rfl,rfl,i0⟩:=db h0
  obtain ⟨_,_,_,_,rfl,e1,h1,k1⟩:=bR k0
  obtain ⟨rfl,rfl,i1⟩:=db h1
  obtain ⟨_,_,_,_,rfl,e2,h2,k2⟩:=bR k1
  obtain ⟨rfl,rfl,i2⟩:=db h2
  obtain ⟨_,_,_,_,rfl,e3,h3,k3⟩:=bR k2
  obtain ⟨rfl,rfl,i3⟩:=db h3
  obtain ⟨_,_,_,_,rfl,e4,h4,k4⟩:=bR k3
  obtain ⟨rfl,rfl,i4⟩:=db h4
  obtain ⟨_,_,_,_,rfl,e5,h5,k5⟩:=bR k4
  obtain ⟨rfl,rfl,i5⟩:=db h5
  obtain ⟨_,_,_,_,rfl,e6,h6,k6⟩:=bR k5
  obtain ⟨rfl,rfl,i6⟩:=db h6
  obtain ⟨_,_,_,_,rfl,e7,h7,k7⟩:=bR k6
  obtain ⟨rfl,rfl,i7⟩:=db h7
  obtain ⟨rfl,rfl,i8⟩:=db k7
  exact ⟨rfl,by subst_vars; simp,⟨i0,i1,i2,i3,i4,i5,i6,i7,i8⟩⟩
theorem Shape.own_mk {s:Bool}{w:World}{x:Shape}(ok:x.Ok):own s w [.int .i64 x.Groups,.int .i64 x.Column,.int .i64 x.Data,.int .i64 x.Spare,.int .i64 x.Rows,.int .i64 x.Cap,.int .i64 x.Batch,.int .i64 x.Queue,.int .i64 x.Stage] x ([]):=by
  obtain ⟨i0,i1,i2,i3,i4,i5,i6,i7,i8⟩:=ok
  have h:own s w _ (x.Groups,x.Column,x.Data,x.Spare,x.Rows,x.Cap,x.Batch,x.Queue,x.Stage) _:=(ca (dp i0) (ca (dp i1) (ca (dp i2) (ca (dp i3) (ca (dp i4) (ca (dp i5) (ca (dp i6) (ca (dp i7) (dp i8)))))))))
  refine gj h ?_
  simp
theorem AR {w:World}:own true w [.int .i64 0,.int .i64 0,.string ⟨#[]⟩,.int .i64 0,.int .i64 0,.int .i64 0,.slice none 0 0,.slice none 0 0,.slice none 0 0] (default:Rec) []:=gj (Rec.own_mk (s:=true) (x:=(default:Rec)) ⟨(show I64ok 0 by unfold I64ok; omega),(show I64ok 0 by unfold I64ok; omega),(show (0:Nat)≤maxLen from Nat.zero_le _),(show I64ok 0 by unfold I64ok; omega),(show I64ok 0 by unfold I64ok; omega),(show I64ok 0 by unfold I64ok; omega)⟩ (.inr (.inl ⟨rfl,rfl,rfl⟩)) (.inr (.inl ⟨rfl,rfl,rfl⟩)) (.inr (.inl ⟨rfl,rfl,rfl⟩))) (by first | rfl | simp)
structure Block where
  Stamp:Int
  Bytes:List UInt8
instance:Rp Block:=Rp.via fun x=>(x.Stamp,x.Bytes)
instance:Inhabited Block:=⟨⟨0,[]⟩⟩
def Block.val (x:Block) (A1:Option Addr) (C1:Nat):Value := .agg #[.int .i64 x.Stamp,.slice A1 x.Bytes.length C1]
def Block.Ok (x:Block):Prop:=I64ok x.Stamp
theorem jP {s w cs} {x:Block}{fp} (h:own s w cs x fp):∃ (A1:Option Addr) (C1:Nat) (f1:List Nat) ,cs=[.int .i64 x.Stamp,.slice A1 x.Bytes.length C1]∧fp=f1∧x.Ok∧own s w [.slice A1 x.Bytes.length C1] x.Bytes f1:=by
  obtain ⟨_,_,_,_,rfl,e0,h0,k0⟩:=bR h
  obtain ⟨rfl,rfl,i0⟩:=db h0
  obtain ⟨A1,C1,rfl⟩:=ax k0
  exact ⟨A1,C1,_,rfl,by subst_vars; simp,i0,k0⟩
theorem Block.own_mk {s:Bool}{w:World}{x:Block}{A1:Option Addr}{C1:Nat}{f1:List Nat}(ok:x.Ok) (o1:own s w [.slice A1 x.Bytes.length C1] x.Bytes f1):own s w [.int .i64 x.Stamp,.slice A1 x.Bytes.length C1] x (f1):=by
  have i0:=ok
  have h:own s w _ (x.Stamp,x.Bytes) _:=(ca (dp i0) o1)
  refine gj h ?_
  simp
theorem Block.out {w0 w:World}{F:List Rsc}{x:Block}{A1:Option Addr}{C1:Nat}{f1:List Nat}(h:Sep No w0 [mine [.slice A1 x.Bytes.length C1] x.Bytes f1] F w) (ok:x.Ok):Res w0 w [.int .i64 x.Stamp,.slice A1 x.Bytes.length C1] x:=
  ⟨_,Block.own_mk ok (h.mine 0 rfl),by have:=h.nd; simpa [blocks,mine] using this,fun b hb=>(h.new b (by simpa [blocks,mine] using hb)).resolve_left id⟩
structure Drive where
  Wiped:Bool
  Blocks:List Block
instance:Rp Drive:=Rp.via fun x=>(x.Wiped,x.Blocks)
instance:Inhabited Drive:=⟨⟨false,[]⟩⟩
def Drive.val (x:Drive) (A1:Option Addr) (C1:Nat):Value := .agg #[.bool x.Wiped,.slice A1 x.Blocks.length C1]
def Drive.Ok (x:Drive):Prop:=True
theorem gD {s w cs} {x:Drive}{fp} (h:own s w cs x fp):∃ (A1:Option Addr) (C1:Nat) (f1:List Nat) ,cs=[.bool x.Wiped,.slice A1 x.Blocks.length C1]∧fp=f1∧x.Ok∧own s w [.slice A1 x.Blocks.length C1] x.Blocks f1:=by
  obtain ⟨_,_,_,_,rfl,e0,h0,k0⟩:=bR h
  obtain ⟨rfl,rfl⟩:=h0
  obtain ⟨A1,C1,rfl⟩:=ax k0
  exact ⟨A1,C1,_,rfl,by subst_vars; simp,trivial,k0⟩
theorem Drive.own_mk {s:Bool}{w:World}{x:Drive}{A1:Option Addr}{C1:Nat}{f1:List Nat}(ok:x.Ok) (o1:own s w [.slice A1 x.Blocks.length C1] x.Blocks f1):own s w [.bool x.Wiped,.slice A1 x.Blocks.length C1] x (f1):=by
  have h:own s w _ (x.Wiped,x.Blocks) _:=(ca nH o1)
  refine gj h ?_
  simp
theorem Drive.out {w0 w:World}{F:List Rsc}{x:Drive}{A1:Option Addr}{C1:Nat}{f1:List Nat}(h:Sep No w0 [mine [.slice A1 x.Blocks.length C1] x.Blocks f1] F w) (ok:x.Ok):Res w0 w [.bool x.Wiped,.slice A1 x.Blocks.length C1] x:=
  ⟨_,Drive.own_mk ok (h.mine 0 rfl),by have:=h.nd; simpa [blocks,mine] using this,fun b hb=>(h.new b (by simpa [blocks,mine] using hb)).resolve_left id⟩
theorem u5 {w:World}:own true w [.bool false,.slice none 0 0] (default:Drive) []:=gj (Drive.own_mk (s:=true) (x:=(default:Drive)) trivial (.inr (.inl ⟨rfl,rfl,rfl⟩))) (by first | rfl | simp)
structure Tape where
  Wiped:Bool
  Recs:List Rec
instance:Rp Tape:=Rp.via fun x=>(x.Wiped,x.Recs)
instance:Inhabited Tape:=⟨⟨false,[]⟩⟩
def Tape.val (x:Tape) (A1:Option Addr) (C1:Nat):Value := .agg #[.bool x.Wiped,.slice A1 x.Recs.length C1]
def Tape.Ok (x:Tape):Prop:=True
theorem cU {s w cs} {x:Tape}{fp} (h:own s w cs x fp):∃ (A1:Option Addr) (C1:Nat) (f1:List Nat) ,cs=[.bool x.Wiped,.slice A1 x.Recs.length C1]∧fp=f1∧x.Ok∧own s w [.slice A1 x.Recs.length C1] x.Recs f1:=by
  obtain ⟨_,_,_,_,rfl,e0,h0,k0⟩:=bR h
  obtain ⟨rfl,rfl⟩:=h0
  obtain ⟨A1,C1,rfl⟩:=ax k0
  exact ⟨A1,C1,_,rfl,by subst_vars; simp,trivial,k0⟩
theorem Tape.own_mk {s:Bool}{w:World}{x:Tape}{A1:Option Addr}{C1:Nat}{f1:List Nat}(ok:x.Ok) (o1:own s w [.slice A1 x.Recs.length C1] x.Recs f1):own s w [.bool x.Wiped,.slice A1 x.Recs.length C1] x (f1):=by
  have h:own s w _ (x.Wiped,x.Recs) _:=(ca nH o1)
  refine gj h ?_
  simp
theorem rZ {w:World}:own true w [.bool false,.slice none 0 0] (default:Tape) []:=gj (Tape.own_mk (s:=true) (x:=(default:Tape)) trivial (.inr (.inl ⟨rfl,rfl,rfl⟩))) (by first | rfl | simp)
structure Wld where
  Shape:Shape
  Groups:List (List Drive)
  On:List Int
  Tapes:List Tape
  Writes:Int
  Stop:Int
  Down:Bool
instance:Rp Wld:=Rp.via fun x=>(x.Shape,x.Groups,x.On,x.Tapes,x.Writes,x.Stop,x.Down)
def Wld.val (x:Wld) (A9:Option Addr) (C9:Nat) (A10:Option Addr) (C10:Nat) (A11:Option Addr) (C11:Nat):Value := .agg #[.int .i64 x.Shape.Groups,.int .i64 x.Shape.Column,.int .i64 x.Shape.Data,.int .i64 x.Shape.Spare,.int .i64 x.Shape.Rows,.int .i64 x.Shape.Cap,.int .i64 x.Shape.Batch,.int .i64 x.Shape.Queue,.int .i64 x.Shape.Stage,.slice A9 x.Groups.length C9,.slice A10 x.On.length C10,.slice A11 x.Tapes.length C11,.int .i64 x.Writes,.int .i64 x.Stop,.bool x.Down]
def Wld.Ok (x:Wld):Prop:=x.Shape.Ok∧I64ok x.Writes∧I64ok x.Stop
theorem xx {s w cs} {x:Wld}{fp} (h:own s w cs x fp):∃ (A9:Option Addr) (C9:Nat) (A10:Option Addr) (C10:Nat) (A11:Option Addr) (C11:Nat) (f9:List Nat) (f10:List Nat) (f11:List Nat) ,cs=[.int .i64 x.Shape.Groups,.int .i64 x.Shape.Column,.int .i64 x.Shape.Data,.int .i64 x.Shape.Spare,.int .i64 x.Shape.Rows,.int .i64 x.Shape.Cap,.int .i64 x.Shape.Batch,.int .i64 x.Shape.Queue,.int .i64 x.Shape.Stage,.slice A9 x.Groups.length C9,.slice A10 x.On.length C10,.slice A11 x.Tapes.length C11,.int .i64 x.Writes,.int .i64 x.Stop,.bool x.Down]∧fp=f9++(f10++(f11))∧x.Ok∧own s w [.slice A9 x.Groups.length C9] x.Groups f9∧own s w [.slice A10 x.On.length C10] x.On f10∧own s w [.slice A11 x.Tapes.length C11] x.Tapes f11:=by
  obtain ⟨_,_,_,_,rfl,e0,h0,k0⟩:=bR h
  obtain ⟨rfl,rfl,i0⟩:=rY h0
  obtain ⟨_,_,_,_,rfl,e1,h1,k1⟩:=bR k0
  obtain ⟨A9,C9,rfl⟩:=ax h1
  obtain ⟨_,_,_,_,rfl,e2,h2,k2⟩:=bR k1
  obtain ⟨A10,C10,rfl⟩:=ax h2
  obtain ⟨_,_,_,_,rfl,e3,h3,k3⟩:=bR k2
  obtain ⟨A11,C11,rfl⟩:=ax h3
  obtain ⟨_,_,_,_,rfl,e4,h4,k4⟩:=bR k3
  obtain ⟨rfl,rfl,i4⟩:=db h4
  obtain ⟨_,_,_,_,rfl,e5,h5,k5⟩:=bR k4
  obtain ⟨rfl,rfl,i5⟩:=db h5
  obtain ⟨rfl,rfl⟩:=k5
  exact ⟨A9,C9,A10,C10,A11,C11,_,_,_,rfl,by subst_vars; simp,⟨i0,i4,i5⟩,h1,h2,h3⟩
theorem tU {s w A9 C9 A10 C10 A11 C11} {x:Wld}{fp} (h:own s w [.int .i64 x.Shape.Groups,.int .i64 x.Shape.Column,.int .i64 x.Shape.Data,.int .i64 x.Shape.Spare,.int .i64 x.Shape.Rows,.int .i64 x.Shape.Cap,.int .i64 x.Shape.Batch,.int .i64 x.Shape.Queue,.int .i64 x.Shape.Stage,.slice A9 x.Groups.length C9,.slice A10 x.On.length C10,.slice A11 x.Tapes.length C11,.int .i64 x.Writes,.int .i64 x.Stop,.bool x.Down] x fp):∃ (f9:List Nat) (f10:List Nat) (f11:List Nat),fp=f9++(f10++(f11))∧x.Ok∧own s w [.slice A9 x.Groups.length C9] x.Groups f9∧own s w [.slice A10 x.On.length C10] x.On f10∧own s w [.slice A11 x.Tapes.length C11] x.Tapes f11:=by
  obtain ⟨_,_,_,_,_,_,f9,f10,f11,e,ef,ok,o9,o10,o11⟩:=xx h
  simp only [List.cons.injEq,Value.slice.injEq,and_true,true_and] at e
  obtain ⟨⟨rfl,rfl⟩,⟨rfl,rfl⟩,⟨rfl,rfl⟩⟩:=e
  exact ⟨f9,f10,f11,ef,ok,o9,o10,o11⟩
theorem Wld.own_mk {s:Bool}{w:World}{x:Wld}{A9:Option Addr}{C9:Nat}{A10:Option Addr}{C10:Nat}{A11:Option Addr}{C11:Nat}{f9:List Nat}{f10:List Nat}{f11:List Nat}(ok:x.Ok) (o9:own s w [.slice A9 x.Groups.length C9] x.Groups f9) (o10:own s w [.slice A10 x.On.length C10] x.On f10) (o11:own s w [.slice A11 x.Tapes.length C11] x.Tapes f11):own s w [.int .i64 x.Shape.Groups,.int .i64 x.Shape.Column,.int .i64 x.Shape.Data,.int .i64 x.Shape.Spare,.int .i64 x.Shape.Rows,.int .i64 x.Shape.Cap,.int .i64 x.Shape.Batch,.int .i64 x.Shape.Queue,.int .i64 x.Shape.Stage,.slice A9 x.Groups.length C9,.slice A10 x.On.length C10,.slice A11 x.Tapes.length C11,.int .i64 x.Writes,.int .i64 x.Stop,.bool x.Down] x (f9++(f10++(f11))):=by
  obtain ⟨i0,i4,i5⟩:=ok
  have h:own s w _ (x.Shape,x.Groups,x.On,x.Tapes,x.Writes,x.Stop,x.Down) _:=(ca (Shape.own_mk (x:=x.Shape) i0) (ca o9 (ca o10 (ca o11 (ca (dp i4) (ca (dp i5) nH))))))
  refine gj h ?_
  simp
theorem Wld.out {w0 w:World}{F:List Rsc}{x:Wld}{A9:Option Addr}{C9:Nat}{A10:Option Addr}{C10:Nat}{A11:Option Addr}{C11:Nat}{f9:List Nat}{f10:List Nat}{f11:List Nat}(h:Sep No w0 [mine [.slice A9 x.Groups.length C9] x.Groups f9,mine [.slice A10 x.On.length C10] x.On f10,mine [.slice A11 x.Tapes.length C11] x.Tapes f11] F w) (ok:x.Ok):Res w0 w [.int .i64 x.Shape.Groups,.int .i64 x.Shape.Column,.int .i64 x.Shape.Data,.int .i64 x.Shape.Spare,.int .i64 x.Shape.Rows,.int .i64 x.Shape.Cap,.int .i64 x.Shape.Batch,.int .i64 x.Shape.Queue,.int .i64 x.Shape.Stage,.slice A9 x.Groups.length C9,.slice A10 x.On.length C10,.slice A11 x.Tapes.length C11,.int .i64 x.Writes,.int .i64 x.Stop,.bool x.Down] x:=
  ⟨_,Wld.own_mk ok (h.mine 0 rfl) (h.mine 1 rfl) (h.mine 2 rfl),by have:=h.nd; simpa [blocks,mine] using this,fun b hb=>(h.new b (by simpa [blocks,mine] using hb)).resolve_left id⟩
structure WldResult where
  Code:Int
  Wd:Wld
instance:Rp WldResult:=Rp.via fun x=>(x.Code,x.Wd)
def WldResult.val (x:WldResult) (A10:Option Addr) (C10:Nat) (A11:Option Addr) (C11:Nat) (A12:Option Addr) (C12:Nat):Value := .agg #[.int .i64 x.Code,.int .i64 x.Wd.Shape.Groups,.int .i64 x.Wd.Shape.Column,.int .i64 x.Wd.Shape.Data,.int .i64 x.Wd.Shape.Spare,.int .i64 x.Wd.Shape.Rows,.int .i64 x.Wd.Shape.Cap,.int .i64 x.Wd.Shape.Batch,.int .i64 x.Wd.Shape.Queue,.int .i64 x.Wd.Shape.Stage,.slice A10 x.Wd.Groups.length C10,.slice A11 x.Wd.On.length C11,.slice A12 x.Wd.Tapes.length C12,.int .i64 x.Wd.Writes,.int .i64 x.Wd.Stop,.bool x.Wd.Down]
def WldResult.Ok (x:WldResult):Prop:=I64ok x.Code∧x.Wd.Ok
theorem rn {s w cs} {x:WldResult}{fp} (h:own s w cs x fp):∃ (A10:Option Addr) (C10:Nat) (A11:Option Addr) (C11:Nat) (A12:Option Addr) (C12:Nat) (f10:List Nat) (f11:List Nat) (f12:List Nat) ,cs=[.int .i64 x.Code,.int .i64 x.Wd.Shape.Groups,.int .i64 x.Wd.Shape.Column,.int .i64 x.Wd.Shape.Data,.int .i64 x.Wd.Shape.Spare,.int .i64 x.Wd.Shape.Rows,.int .i64 x.Wd.Shape.Cap,.int .i64 x.Wd.Shape.Batch,.int .i64 x.Wd.Shape.Queue,.int .i64 x.Wd.Shape.Stage,.slice A10 x.Wd.Groups.length C10,.slice A11 x.Wd.On.length C11,.slice A12 x.Wd.Tapes.length C12,.int .i64 x.Wd.Writes,.int .i64 x.Wd.Stop,.bool x.Wd.Down]∧fp=f10++(f11++(f12))∧x.Ok∧own s w [.slice A10 x.Wd.Groups.length C10] x.Wd.Groups f10∧own s w [.slice A11 x.Wd.On.length C11] x.Wd.On f11∧own s w [.slice A12 x.Wd.Tapes.length C12] x.Wd.Tapes f12:=by
  obtain ⟨_,_,_,_,rfl,e0,h0,k0⟩:=bR h
  obtain ⟨rfl,rfl,i0⟩:=db h0
  obtain ⟨A10,C10,A11,C11,A12,C12,g10,g11,g12,rfl,rfl,i1,o10,o11,o12⟩:=xx k0
  exact ⟨A10,C10,A11,C11,A12,C12,_,_,_,rfl,by subst_vars; simp,⟨i0,i1⟩,o10,o11,o12⟩
theorem iM {s w A10 C10 A11 C11 A12 C12} {x:WldResult}{fp} (h:own s w [.int .i64 x.Code,.int .i64 x.Wd.Shape.Groups,.int .i64 x.Wd.Shape.Column,.int .i64 x.Wd.Shape.Data,.int .i64 x.Wd.Shape.Spare,.int .i64 x.Wd.Shape.Rows,.int .i64 x.Wd.Shape.Cap,.int .i64 x.Wd.Shape.Batch,.int .i64 x.Wd.Shape.Queue,.int .i64 x.Wd.Shape.Stage,.slice A10 x.Wd.Groups.length C10,.slice A11 x.Wd.On.length C11,.slice A12 x.Wd.Tapes.length C12,.int .i64 x.Wd.Writes,.int .i64 x.Wd.Stop,.bool x.Wd.Down] x fp):∃ (f10:List Nat) (f11:List Nat) (f12:List Nat),fp=f10++(f11++(f12))∧x.Ok∧own s w [.slice A10 x.Wd.Groups.length C10] x.Wd.Groups f10∧own s w [.slice A11 x.Wd.On.length C11] x.Wd.On f11∧own s w [.slice A12 x.Wd.Tapes.length C12] x.Wd.Tapes f12:=by
  obtain ⟨_,_,_,_,_,_,f10,f11,f12,e,ef,ok,o10,o11,o12⟩:=rn h
  simp only [List.cons.injEq,Value.slice.injEq,and_true,true_and] at e
  obtain ⟨⟨rfl,rfl⟩,⟨rfl,rfl⟩,⟨rfl,rfl⟩⟩:=e
  exact ⟨f10,f11,f12,ef,ok,o10,o11,o12⟩
theorem WldResult.own_mk {s:Bool}{w:World}{x:WldResult}{A10:Option Addr}{C10:Nat}{A11:Option Addr}{C11:Nat}{A12:Option Addr}{C12:Nat}{f10:List Nat}{f11:List Nat}{f12:List Nat}(ok:x.Ok) (o10:own s w [.slice A10 x.Wd.Groups.length C10] x.Wd.Groups f10) (o11:own s w [.slice A11 x.Wd.On.length C11] x.Wd.On f11) (o12:own s w [.slice A12 x.Wd.Tapes.length C12] x.Wd.Tapes f12):own s w [.int .i64 x.Code,.int .i64 x.Wd.Shape.Groups,.int .i64 x.Wd.Shape.Column,.int .i64 x.Wd.Shape.Data,.int .i64 x.Wd.Shape.Spare,.int .i64 x.Wd.Shape.Rows,.int .i64 x.Wd.Shape.Cap,.int .i64 x.Wd.Shape.Batch,.int .i64 x.Wd.Shape.Queue,.int .i64 x.Wd.Shape.Stage,.slice A10 x.Wd.Groups.length C10,.slice A11 x.Wd.On.length C11,.slice A12 x.Wd.Tapes.length C12,.int .i64 x.Wd.Writes,.int .i64 x.Wd.Stop,.bool x.Wd.Down] x (f10++(f11++(f12))):=by
  obtain ⟨i0,i1⟩:=ok
  have h:own s w _ (x.Code,x.Wd) _:=(ca (dp i0) (Wld.own_mk (x:=x.Wd) i1 o10 o11 o12))
  refine gj h ?_
  simp
theorem WldResult.out {w0 w:World}{F:List Rsc}{x:WldResult}{A10:Option Addr}{C10:Nat}{A11:Option Addr}{C11:Nat}{A12:Option Addr}{C12:Nat}{f10:List Nat}{f11:List Nat}{f12:List Nat}(h:Sep No w0 [mine [.slice A10 x.Wd.Groups.length C10] x.Wd.Groups f10,mine [.slice A11 x.Wd.On.length C11] x.Wd.On f11,mine [.slice A12 x.Wd.Tapes.length C12] x.Wd.Tapes f12] F w) (ok:x.Ok):Res w0 w [.int .i64 x.Code,.int .i64 x.Wd.Shape.Groups,.int .i64 x.Wd.Shape.Column,.int .i64 x.Wd.Shape.Data,.int .i64 x.Wd.Shape.Spare,.int .i64 x.Wd.Shape.Rows,.int .i64 x.Wd.Shape.Cap,.int .i64 x.Wd.Shape.Batch,.int .i64 x.Wd.Shape.Queue,.int .i64 x.Wd.Shape.Stage,.slice A10 x.Wd.Groups.length C10,.slice A11 x.Wd.On.length C11,.slice A12 x.Wd.Tapes.length C12,.int .i64 x.Wd.Writes,.int .i64 x.Wd.Stop,.bool x.Wd.Down] x:=
  ⟨_,WldResult.own_mk ok (h.mine 0 rfl) (h.mine 1 rfl) (h.mine 2 rfl),by have:=h.nd; simpa [blocks,mine] using this,fun b hb=>(h.new b (by simpa [blocks,mine] using hb)).resolve_left id⟩
structure IntResult where
  Code:Int
  Val:Int
def IntResult.val (x:IntResult):Value := .agg #[.int .i64 x.Code,.int .i64 x.Val]
structure RecsResult where
  Code:Int
  Recs:List Rec
instance:Rp RecsResult:=Rp.via fun x=>(x.Code,x.Recs)
def RecsResult.val (x:RecsResult) (A1:Option Addr) (C1:Nat):Value := .agg #[.int .i64 x.Code,.slice A1 x.Recs.length C1]
def RecsResult.Ok (x:RecsResult):Prop:=I64ok x.Code
theorem p6 {s w cs} {x:RecsResult}{fp} (h:own s w cs x fp):∃ (A1:Option Addr) (C1:Nat) (f1:List Nat) ,cs=[.int .i64 x.Code,.slice A1 x.Recs.length C1]∧fp=f1∧x.Ok∧own s w [.slice A1 x.Recs.length C1] x.Recs f1:=by
  obtain ⟨_,_,_,_,rfl,e0,h0,k0⟩:=bR h
  obtain ⟨rfl,rfl,i0⟩:=db h0
  obtain ⟨A1,C1,rfl⟩:=ax k0
  exact ⟨A1,C1,_,rfl,by subst_vars; simp,i0,k0⟩
theorem dX {s w A1 C1} {x:RecsResult}{fp} (h:own s w [.int .i64 x.Code,.slice A1 x.Recs.length C1] x fp):∃ (f1:List Nat),fp=f1∧x.Ok∧own s w [.slice A1 x.Recs.length C1] x.Recs f1:=by
  obtain ⟨_,_,f1,e,ef,ok,o1⟩:=p6 h
  simp only [List.cons.injEq,Value.slice.injEq,and_true,true_and] at e
  obtain ⟨rfl,rfl⟩:=e
  exact ⟨f1,ef,ok,o1⟩
theorem RecsResult.own_mk {s:Bool}{w:World}{x:RecsResult}{A1:Option Addr}{C1:Nat}{f1:List Nat}(ok:x.Ok) (o1:own s w [.slice A1 x.Recs.length C1] x.Recs f1):own s w [.int .i64 x.Code,.slice A1 x.Recs.length C1] x (f1):=by
  have i0:=ok
  have h:own s w _ (x.Code,x.Recs) _:=(ca (dp i0) o1)
  refine gj h ?_
  simp
theorem RecsResult.out {w0 w:World}{F:List Rsc}{x:RecsResult}{A1:Option Addr}{C1:Nat}{f1:List Nat}(h:Sep No w0 [mine [.slice A1 x.Recs.length C1] x.Recs f1] F w) (ok:x.Ok):Res w0 w [.int .i64 x.Code,.slice A1 x.Recs.length C1] x:=
  ⟨_,RecsResult.own_mk ok (h.mine 0 rfl),by have:=h.nd; simpa [blocks,mine] using this,fun b hb=>(h.new b (by simpa [blocks,mine] using hb)).resolve_left id⟩
end Go.Wk
namespace Go.Wk
open Rp (sz own)
theorem Sep.fbox {M:Nat→Prop}{w0 w:World}{Δ F:List Rsc}(h:Sep M w0 Δ F w) (j:Nat) {b:Nat}{o:Obj}(hj:F[j]? = some (Wk.box b o)):w.heap[b]? = some o:=h.fs _ (List.mem_of_getElem? hj)
theorem Sep.foff {M:Nat→Prop}{w0 w:World}{Δ F:List Rsc}(h:Sep M w0 Δ F w) (j:Nat) {b:Nat}{o:Obj}(hj:F[j]? = some (Wk.box b o)) (i:Nat) {r:Rsc}{fp:List Nat}(hi:Δ[i]? = some r) (hf:r.fp=fp):b ∉ fp:=fun hm=>
  h.ap _ (List.mem_of_getElem? hj) b (by simp [Wk.box]) (bm.2 ⟨r,List.mem_of_getElem? hi,hf ▸ hm⟩)
theorem Ext.atM {M:Nat→Prop}{w w':World}(h:Ext M w w') {b o:Nat}{cs:List Value}(hm:¬ M b) (hc:At w b o cs):At w' b o cs:=fun j v hj=>h.cellM hm (hc j v hj)
theorem bG {α:Type}[Rp α] [Inhabited α] {s w ad n cap} {xs:List α}{fp} (h:own s w [.slice ad n cap] xs fp) (k:Nat) (hk:k<xs.length) :
    ∃ b o cs f,ad=some ⟨b,o,none⟩∧At w b (o+k*sz α) cs∧own s w cs (xs.getD k default) f∧(∀ b∈f,b∈fp)∧b∈fp:=by
  obtain ⟨b,o,cs,f,h1,h2,h3,h4,h5⟩:=d9 h k hk
  rw [show xs.getD k default=xs[k] from by simp [List.getD,hk]]
  exact ⟨b,o,cs,f,h1,h2,h3,h4,h5⟩
section
variable {P:Program}{n:Nat}{ops:Array Oper}{Q:Post}{L:Env}{ty:TypeId}{p:String}{af:Array Edge}{g:Option (Nat × Bool)}{M:Nat→Prop}{w0 w:World}{Δ F:List Rsc}{α:Type}[Rp α]
theorem zO {rest:List Oper}{t:TypeId}{x y:Operand}{b off:Nat}{vs:List Value}{ad:Option Addr}{len cap:Nat}{xs:List α}{fp fu:List Nat}{u:α}(hw:Wn ops n L ⟨none,.store t x y,ty,p,af,g⟩) (hs:∀ w,(sizeOf t).run P w = .ok (sz α) w)
    (H:Sep M w0 Δ F w) (i j:Nat) (hi:Δ[i]? = some (mine [.slice ad len cap] xs fp)) (hj:Δ[j]? = some (mine vs u fu)) (hij:Nat.beq j i=false) (q:Nat) (hq:q<xs.length) (hx:evL L x=some (.pointer (some ⟨b,off+q*sz α,none⟩))) (had:ad=some ⟨b,off,none⟩) (hy:evL L y=some (.agg vs.toArray))
    (k:∀ w' fp',Sep M w0 ((Δ.set j gone).set i (mine [.slice ad len cap] (xs.set q u) fp')) F w'→RL P n ops Q rest L w') :
    RL P n ops Q (⟨none,.store t x y,ty,p,af,g⟩::rest) L w:=by
  obtain ⟨b',o',cur,T,fp',e1,hb,hsz,hk⟩:=H.elset2 i j hi hj hij q hq
  rw [had] at e1
  simp only [Option.some.injEq,Addr.mk.injEq,and_true] at e1
  obtain ⟨rfl,rfl⟩:=e1
  have hm:=H.mine j hj
  exact we hw rfl (iE hs hx hy (Rp.len hm) (Rp.one hm) hb hsz) (k _ fp' hk)
theorem qA {S:World→Prop}{l:Nat}{t:TypeId}{x y:Operand}{b off:Nat}{vs:List Value}{ad:Option Addr}{len cap:Nat}{xs:List α}{fp fu:List Nat}{u:α}(ho:ops.toList[l]? = some ⟨none,.store t x y,ty,p,af,g⟩) (hw:Wn ops n L ⟨none,.store t x y,ty,p,af,g⟩) (hs:∀ w,(sizeOf t).run P w = .ok (sz α) w)
    (H:Sep M w0 Δ F w) (i j:Nat) (hi:Δ[i]? = some (mine [.slice ad len cap] xs fp)) (hj:Δ[j]? = some (mine vs u fu)) (hij:Nat.beq j i=false) (q:Nat) (hq:q<xs.length) (hx:evL L x=some (.pointer (some ⟨b,off+q*sz α,none⟩))) (had:ad=some ⟨b,off,none⟩) (hy:evL L y=some (.agg vs.toArray))
    (k:∀ w' fp',Sep M w0 ((Δ.set j gone).set i (mine [.slice ad len cap] (xs.set q u) fp')) F w'→DL P n ops Q S [] L w') :
    DL P n ops Q S [(l,false)] L w:=by
  obtain ⟨b',o',cur,T,fp',e1,hb,hsz,hk⟩:=H.elset2 i j hi hj hij q hq
  rw [had] at e1
  simp only [Option.some.injEq,Addr.mk.injEq,and_true] at e1
  obtain ⟨rfl,rfl⟩:=e1
  have hm:=H.mine j hj
  exact x9 ho hw rfl (iE hs hx hy (Rp.len hm) (Rp.one hm) hb hsz) (fun _ hr=>absurd rfl hr) (k _ fp' hk)
end
def szL {α:Type}[Inhabited α] (f:α→Nat) (xs:List α):Nat:=xs.length+gu (fun i=>f (xs.getD i default)) xs.length
theorem fB {α:Type}[Inhabited α] {f:α→Nat}{xs:List α}{m:Nat}(h:szL f xs≤m) (k:Nat) (hk:k<xs.length):f (xs.getD k default)≤m∧xs.length≤m:=by
  have:gu (fun i=>f (xs.getD i default)) (k+1)≤gu (fun i=>f (xs.getD i default)) xs.length:=xE ω
  have h2:gu (fun i=>f (xs.getD i default)) (k+1)=gu (fun i=>f (xs.getD i default)) k+f (xs.getD k default):=rfl
  unfold szL at h
  omega
def jI (x:Rec):Nat:=x.Name.size+x.Rows.length+x.Data.length+x.Delta.length
def ni (x:Block):Nat:=x.Bytes.length
def eO (x:Drive):Nat:=szL ni x.Blocks
def ir (x:Tape):Nat:=szL jI x.Recs
def fY (x:Wld):Nat:=szL (szL eO) x.Groups+x.On.length+szL ir x.Tapes
def mkL {α:Type}[Inhabited α] (f:α→Nat) (xs:List α):Nat:=gu (fun i=>f (xs.getD i default)) xs.length
def Cm (x:Rec):Nat:=6+x.Rows.length+x.Data.length+x.Delta.length
def BP (x:Block):Nat:=1+x.Bytes.length
def BB (x:Drive):Nat:=1+mkL BP x.Blocks
def pQ (x:Tape):Nat:=1+mkL Cm x.Recs
def mr (x:Wld):Nat:=mkL (mkL BB) x.Groups+x.On.length+mkL pQ x.Tapes
end Go.Wk
namespace Go.Wk
open Rp (sz own)
def apartAt (xs:List Int) (m:Int) (i:Nat):Bool:=ins (xs.getD i 0) 0 m && !decide (xs.getD i 0∈xs.take i)
def apartL (xs:List Int) (m:Int):Bool:=(List.range xs.length).all (apartAt xs m)
theorem iw {n:Nat}{p:Nat→Bool}(h:∀ i,i<n→p i=true):(List.range n).all p=true:=by
  rw [List.all_eq_true]; exact fun i hi=>h i (by simpa using hi)
theorem pE {n:Nat}{p:Nat→Bool}(h:(List.range n).all p=true) (i:Nat) (hi:i<n):p i=true:=by
  rw [List.all_eq_true] at h; exact h i (by simpa using hi)
theorem kw {n:Nat}{p:Nat→Bool}(i:Nat) (hi:i<n) (h:p i=false):(List.range n).all p=false:=by
  cases hr:(List.range n).all p with
  | false=>rfl
  | true=>rw [pE hr i hi] at h; cases h
def fc (s:Shape) (len:Int):Int:=(len-1).tdiv (s.Data*4)+1
def ep (s:Shape) (len:Int):Int:=if len<1 then 6 else if 3*(s.Data*4)<len then 2 else 0
def gA (s:Shape) (r:Rec):Bool:=
  if r.Length = -1 then decide (r.Data.length=0) && decide (r.Rows.length=0)
  else decide (ep s r.Length=0) && if 0<r.Data.length then decide ((r.Data.length:Int)=r.Length) && decide (r.Rows.length=0) else decide ((r.Rows.length:Int)=fc s r.Length) && apartL r.Rows (s.Rows-1)
def weightsOK (s:Shape) (r:Rec):Bool:=
  decide ((r.Delta.length:Int)=s.Groups+s.Column) && decide (((r.Delta.getD r.Group.toNat 0).toNat:Int)=0) && (List.range r.Rows.length).all fun i=>decide (¬ ((r.Delta.getD (r.Rows.getD i 0).toNat 0).toNat:Int)=0)
def dN (s:Shape) (r:Rec):Bool:=
  ins r.Group 0 (s.Groups+s.Column-1) && ins r.Row 0 (s.Rows-1) && rises r.Rows (s.Groups+s.Column-1) && decide ((r.Data.length:Int)=s.Data*4) && weightsOK s r
def gc (s:Shape) (r:Rec):Bool:=ins r.Group 0 (s.Groups-1) && ins r.Row 0 (s.Rows-1) && decide ((r.Data.length:Int)=s.Data*4) && decide ((r.Delta.length:Int)=s.Data*4)
def noName (r:Rec):Bool:=decide (r.Name=⟨#[]⟩)
def bareOK (r:Rec):Bool:=
  if r.Kind=1 then decide (r.Group=0) && decide (r.Row=0) && decide (r.Delta.length=0)
  else if r.Kind=2 then noName r && decide (r.Length=0) && decide (r.Rows.length=0)
  else if r.Kind=3 then noName r && decide (r.Length=0) && decide (r.Row=0) && decide (r.Rows.length=0) && decide (r.Data.length=0) && decide (r.Delta.length=0)
  else noName r && decide (r.Length=0)
def fe (s:Shape) (r:Rec):Int:=
  if r.Kind=1 then if cT r.Name≠0 then cT r.Name else if gA s r then 0 else 3
  else if r.Kind=2 then if gc s r then 0 else 3
  else if r.Kind=3 then if ins r.Group 0 (s.Groups+s.Column-1) then 0 else 3
  else if dN s r then 0 else 3
def fL (s:Shape) (r:Rec):Int:=
  if ins r.Kind 1 4 then if ins r.Seq 1 1000000000 then if fe s r≠0 then fe s r else if bareOK r then 0 else 1 else 3 else 5
def en (b:Block):Bool:=ins b.Stamp 0 1000000000 && decide (b.Bytes.length=4)
def eu (s:Shape) (d:Drive):Bool:=decide ((d.Blocks.length:Int)=s.Rows) && (List.range d.Blocks.length).all fun i=>en (d.Blocks.getD i default)
def fD (s:Shape) (g:List Drive):Bool:=decide ((g.length:Int)=s.Data+s.Spare) && (List.range g.length).all fun i=>eu s (g.getD i default)
def cE (w:Wld):Bool:=decide ((w.Groups.length:Int)=w.Shape.Groups+w.Shape.Column) && (List.range w.Groups.length).all fun i=>fD w.Shape (w.Groups.getD i [])
def n0 (w:Wld):Bool:=apartL w.On (w.Shape.Groups+w.Shape.Column-1) && decide ((w.On.length:Int)≤w.Shape.Cap) && (decide (w.On.length=0) || !w.Down)
def dJ (s:Shape) (rs:List Rec):Nat→Int
  | 0=>0
  | k+1=>if dJ s rs k≠0 then dJ s rs k else fL s (rs.getD k default)
def dv (s:Shape) (ts:List Tape):Nat→Int
  | 0=>0
  | k+1=>if dv s ts k≠0 then dv s ts k else dJ s (ts.getD k default).Recs (ts.getD k default).Recs.length
def cr (t:Tape):Bool:=decide ((200:Int)<t.Recs.length)
def cQ (t:Tape):Bool:=t.Wiped && decide ((0:Int)<t.Recs.length)
def dT (w:Wld):Int:=
  if w.Tapes.any cr then 2 else if dv w.Shape w.Tapes w.Tapes.length≠0 then dv w.Shape w.Tapes w.Tapes.length else if w.Tapes.any cQ then 1 else 0
def bF (w:Wld):Int:=
  if w.Shape.fault≠0 then w.Shape.fault
  else if cE w && n0 w && decide (w.Tapes.length=2) then if dT w≠0 then dT w else if ins w.Writes 0 1000000000 && ins w.Stop (-1) 1000000000 then 0 else 3
  else 1
end Go.Wk
