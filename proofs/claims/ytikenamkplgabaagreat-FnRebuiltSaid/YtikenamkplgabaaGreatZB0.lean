/-
  Laws on walking, and the functions walked, each once: what this claim comes to.
-/
import Derived.Test.YtikenamkplgabaaGreatRows
import Derived.Tactics
import Derived.OrdersHeld
import Derived.WalkKit
import Derived.Great.BuildSlice
import Derived.Laws.Tables
import Derived.WideShapes
import Derived.Laws.Closers25b
import Derived.ProofKit
import Derived.OpenShut
import Derived.ShutString
import Derived.ChangeOld
import Derived.Below
import Derived.RangeFuncSeq
import Derived.RangeFuncLeaves
import Derived.Test.YtikenamkplgabaaGreatChecked
import Derived.Laws.BytesArg
import Derived.OrdersIn
set_option linter.unusedVariables false
set_option linter.unusedSimpArgs false
theorem ω {p : Prop} (h : p := by omega) : p := h
theorem η {p : Prop} (h : p := by assumption) : p := h
theorem ξ {p : Prop} (h : p := by first | assumption | omega) : p := h
theorem κ {p : Prop} (h : p := by kernel_rfl) : p := h
theorem σ {p : Prop} (h : p := by simp) : p := h
theorem θ {p : Prop} (h : p := by dsimp only; omega) : p := h
namespace Go.Wk
abbrev Env:=List (Nat × Value)
def look:Env→Nat→Option Value
  | [],_=>none
  | (t,v)::L,u=>match Nat.beq t u with
    | true=>some v
    | false=>look L u
def evL (L:Env):Operand→Option Value
  | .tmp t=>look L t
  | .const v=>some v
  | .func f=>some (.func (.func f) #[] #[])
  | .global g=>some (.pointer (some ⟨g,0,none⟩))
def sub (L:Env):Env→Prop
  | []=>True
  | p::M=>look L p.1=some p.2∧sub L M
theorem wV {L:Env}:∀ {M:Env},sub L M→∀ {t v},look M t=some v→look L t=some v
  | [],_,_,_,h=>by simp [look] at h
  | (u,x)::M,⟨h1,h2⟩,t,v,h=>by
    unfold look at h
    split at h
    · rename_i hb
      have:u=t:=Nat.eq_of_beq_eq_true hb
      cases h; subst this; exact h1
    · exact wV h2 h
structure Good (n:Nat) (a:Act) (L:Env):Prop where
  size:a.tmps.size=n
  defers:a.defers=[]
  cov:∀ t v,look L t=some v→a.tmps.getD t undef=v
theorem Good.eval {n a L x v} (h:Good n a L) (hx:evL L x=some v):a.eval x=v:=by
  cases x with
  | tmp t=>exact h.cov t v hx
  | const u=>simpa [evL,Act.eval] using hx
  | func f=>simpa [evL,Act.eval] using hx
  | global g=>simpa [evL,Act.eval] using hx
theorem Good.put {n a L d v} (h:Good n a L) (hd:Nat.blt d n=true):Good n (a.put (some d) v) ((d,v)::L):=by
  have hd':d<n:=Nat.le_of_ble_eq_true hd
  refine ⟨by simp [Act.put,h.size],h.defers,fun t u ht=>?_⟩
  unfold look at ht
  simp only [Act.put,Array.getD_eq_getD_getElem?]
  split at ht
  · rename_i hb
    have:d=t:=Nat.eq_of_beq_eq_true hb
    subst this
    cases ht
    simp [h.size,hd']
  · rename_i hb
    have hne:d≠t:=fun e=>by subst e; simp at hb
    rw [Array.getElem?_setIfInBounds_ne hne,← Array.getD_eq_getD_getElem?]
    exact h.cov t u ht
theorem Good.weak {n a L M} (h:Good n a L) (hs:sub L M):Good n a M:=
  ⟨h.size,h.defers,fun t v ht=>h.cov t v (wV hs ht)⟩
abbrev Post:=Exit→Env→World→Prop
def lift (n:Nat) (Q:Post):Exit→Act→World→Prop
  | .panic _,_,_=>False
  | .outgrown,_,_=>False
  | e,a,w=>∃ L,Good n a L∧Q e L w
def W (P:Program) (n:Nat) (c:Code) (Q:Post) (L:Env) (w:World):Prop:=
  ∀ a,Good n a L→c.wp P (lift n Q) a w
theorem W.mono {P n c Q Q' L w} (h:W P n c Q L w) (hq:∀ e L w,Q e L w→Q' e L w):W P n c Q' L w:=fun a ha=>
  wp_mono (h a ha) fun e a w hh=>by
    cases e<;>first | exact hh | (obtain ⟨L,hg,hq'⟩:=hh; exact ⟨L,hg,hq _ _ _ hq'⟩)
def thn (P:Program) (n:Nat) (c:Code) (Q:Post):Post
  | .normal,L,w=>W P n c Q L w
  | e,L,w=>Q e L w
theorem ae {P n x y Q L w} (h:W P n x (thn P n y Q) L w):W P n (.seq x y) Q L w:=fun a ha=>wp_seq <|
 wp_mono (h a ha) fun e a w hh=>by
  cases e<;>first | exact hh | (obtain ⟨L,hg,hq⟩:=hh; first | exact hq a hg | exact ⟨L,hg,hq⟩)
theorem au {P n Q L w} (h:Q .normal L w):W P n .skip Q L w:=fun _ ha=>wp_skip ⟨L,ha,h⟩
theorem bc {P n Q L w} (h:Q .ret L w):W P n .ret Q L w:=fun _ ha=>wp_ret ⟨L,ha,h⟩
theorem aT {P n Q L w id} (h:Q (.exit id) L w):W P n (.exit id) Q L w:=fun _ ha=>wp_exit ⟨L,ha,h⟩
theorem cx {P n c x y Q L w b} (hc:evL L c=some (.bool b)) (h1:b=true→W P n x Q L w) (h2:b=false→W P n y Q L w) :
  W P n (.cond c x y) Q L w:=fun a ha=>wp_cond_split (ha.eval hc) (fun h=>h1 h a ha) (fun h=>h2 h a ha)
theorem aC {P n c x y Q L w p} [i:Decidable p] (hc:evL L c=some (.bool (@decide p i))) (h1:p→W P n x Q L w) (h2:¬ p→W P n y Q L w) :
  W P n (.cond c x y) Q L w:=cx hc (fun h=>h1 (of_decide_eq_true h)) (fun h=>h2 (of_decide_eq_false h))
theorem jR {P n c x y Q L w} (hc:evL L c=some (.bool true)) (h1:W P n x Q L w):W P n (.cond c x y) Q L w:=
 cx hc (fun _=>h1) (fun h=>by cases h)
theorem md {P n c x y Q L w} (hc:evL L c=some (.bool false)) (h1:W P n y Q L w):W P n (.cond c x y) Q L w:=
 cx hc (fun h=>by cases h) (fun _=>h1)
def blk (id:Nat) (Q:Post):Post
  | .exit i,L,w=>match Nat.beq i id with
    | true=>Q .normal L w
    | false=>Q (.exit i) L w
  | e,L,w=>Q e L w
theorem ax {P n id c Q L w} (h:W P n c (blk id Q) L w):W P n (.block id c) Q L w:=fun a ha=>wp_block <|
 wp_mono (h a ha) fun e a w hh=>by
  cases e with
  | exit i=>
   obtain ⟨L,hg,hq⟩:=hh
   simp only [blk] at hq
   simp only [Exit.inBlock]
   cases hb:Nat.beq i id with
   | true=>
    rw [hb] at hq
    rw [if_pos (Nat.eq_of_beq_eq_true hb)]
    exact ⟨L,hg,hq⟩
   | false=>
    rw [hb] at hq
    rw [if_neg (fun e=>by subst e; simp at hb)]
    exact ⟨L,hg,hq⟩
  | _=>exact hh
def again {γ:Type}(E:γ→Env) (I:γ→World→Prop) (μ:γ→Nat) (g:γ) (Q:Post):Post
  | .normal,L',w'=>∃ g',sub L' (E g')∧I g' w'∧μ g'<μ g
  | e,L',w'=>Q e L' w'
def meets {γ:Type}(E:γ→Env) (I:γ→World→Prop) (Q:Post):Post
  | .normal,L',w'=>∃ g,sub L' (E g)∧I g w'
  | e,L',w'=>Q e L' w'
theorem bP {P n c Q L w} {γ:Type}(E:γ→Env) (I:γ→World→Prop) (μ:γ→Nat) (g0:γ) (hs:sub L (E g0)) (h0:I g0 w)
  (round:∀ g w,I g w→W P n c (again E I μ g Q) (E g) w):W P n (.loop c) Q L w:=by
 have key:∀ k g w,μ g=k→I g w→∀ a,Good n a (E g)→∀ (b:Frame) (kk:List Item) (cs:List Frame),
   ∃ e a' w',lift n Q e a' w'∧Arrives P (lone (b.at a (.code c :: .inLoop c::kk)) cs w) b kk cs e a' w':=by
  intro k
  induction k using Nat.strongRecOn with
  | _ k ih=>
   intro g w hk hI a ha b kk cs
   obtain ⟨e,a₁,w₁,hq,harr⟩:=round g w hI a ha b (.inLoop c::kk) cs
   cases e with
   | normal=>
    obtain ⟨L',hg',g',hs',hI',hlt⟩:=hq
    obtain ⟨e₂,a₂,w₂,hq₂,harr₂⟩:=ih (μ g') (hk ▸ hlt) g' w₁ rfl hI' a₁ (hg'.weak hs') b kk cs
    exact ⟨e₂,a₂,w₂,hq₂,.of_steps (Steps.trans harr (.one step_inLoop)) harr₂⟩
   | exit id=>exact ⟨.exit id,a₁,w₁,hq,.pass (x := .inLoop c) rfl (fun _ _ => .inl σ) harr⟩
   | goto l=>exact ⟨.goto l,a₁,w₁,hq,.pass (x := .inLoop c) rfl (fun _ _ => .inl σ) harr⟩
   | ret=>exact ⟨.ret,a₁,w₁,hq,.pass (x := .inLoop c) rfl (fun _ _ => .inl σ) harr⟩
   | panic ch=>exact hq.elim
   | outgrown=>exact hq.elim
 intro a ha b kk cs
 obtain ⟨e,a',w',hq,harr⟩:=key _ g0 w rfl h0 a (ha.weak hs) b kk cs
 exact ⟨e,a',w',hq,.of_steps (.one step_loop) harr⟩
theorem D3 {P n x y Q L w} {γ:Type}(E:γ→Env) (I:γ→World→Prop)
  (h:W P n x (meets E I Q) L w)
  (k:∀ g w',I g w'→W P n y Q (E g) w'):W P n (.seq x y) Q L w:=
 ae (h.mono fun e L' w' hh=>by
  cases e with
  | normal=>
   obtain ⟨g,hs,hI⟩:=hh
   exact fun a ha=>k g w' hI a (ha.weak hs)
  | _=>exact hh)
theorem GW {P n c Q L M w} (hs:sub L M) (h:W P n c Q M w):W P n c Q L w:=fun a ha=>h a (ha.weak hs)
def Ret (P:Program) (f:FuncId) (args:Array Value) (w:World) (R:Value→World→Prop):Prop:=
  Calls P f args w fun e w'=>∃ v,e = .returned v∧R v w'
theorem Ret.mono {P f args w R R'} (h:Ret P f args w R) (hr:∀ v w',R v w'→R' v w'):Ret P f args w R':=
  Calls.mono h fun _ _ ⟨v,he,hR⟩=>⟨v,he,hr _ _ hR⟩
def nQ:Nat→List Value→Env
  | _,[]=>[]
  | k,v::vs=>(k,v)::nQ (k+1) vs
theorem tI:∀ (vs:List Value) (k t:Nat) (v:Value),look (nQ k vs) t=some v→∃ j,t=k+j∧vs[j]? = some v
  | [],_,_,_,h=>by simp [nQ,look] at h
  | u::vs,k,t,v,h=>by
    unfold nQ look at h
    split at h
    · rename_i hb
      have:k=t:=Nat.eq_of_beq_eq_true hb
      cases h
      exact ⟨0,ω,rfl⟩
    · obtain ⟨j,hj,hv⟩:=tI vs (k+1) t v h
      exact ⟨j+1,ω,by simpa using hv⟩
def fin (P:Program) (fn:Func) (R:Value→World→Prop):Post
  | .normal,L,w=>∀ n a,Good n a L→∃ v,(results fn a.tmps).run P w = .ok v w∧R v w
  | .ret,L,w=>∀ n a,Good n a L→∃ v,(results fn a.tmps).run P w = .ok v w∧R v w
  | _,_,_=>False
theorem Good.start {vs:List Value}{n m:Nat}(h:vs.toArray.size+m=n):Good n { tmps:=vs.toArray++Array.replicate m undef,defers:=[] } (nQ 0 vs):=by
  refine ⟨by simpa using h,rfl,fun t v ht=>?_⟩
  obtain ⟨j,hj,hv⟩:=tI vs 0 t v ht
  have hjt:j=t:=by omega
  subst hjt
  have hlt:j<vs.length:=(List.getElem?_eq_some_iff.1 hv).1
  simp only [Array.getD_eq_getD_getElem?]
  rw [Array.getElem?_append_left (by simpa using hlt)]
  simp [hv]
theorem Ht {P f fn c n} {vs:List Value}{w R} (hf:P.funcs[f]? = some fn) (hb:fn.body=some c) (hn:fn.ntmps=n) (hl:Nat.ble vs.length n=true)
    (h:W P n c (fin P fn R) (nQ 0 vs) w):Ret P f vs.toArray w R:=by
  have hl':=Nat.le_of_ble_eq_true hl
  refine calls_of_wp hf hb ?_
  refine wp_mono (h _ (Good.start (by rw [hn]; simp; omega))) fun e a w hh=>?_
  cases e<;>first | exact hh.elim | skip
  all_goals (obtain ⟨L,hg,hq⟩:=hh; first | exact hq.elim | skip)
  all_goals (obtain ⟨v,hr,hR⟩:=hq n a hg; exact ⟨hg.defers,v,hr,v,rfl,hR⟩)
theorem aH {P f fn c n} {vs:List Value}{w R} (hf:P.funcs[f]? = some fn) (hb:fn.body=some c) (hn:fn.ntmps=n) (hl:Nat.ble vs.length n=true)
    (h:∀ Q:Post,(∀ L w,fin P fn R .ret L w→Q .ret L w)→(∀ L w,fin P fn R .ret L w→Q .normal L w)→W P n c Q (nQ 0 vs) w):Ret P f vs.toArray w R:=
  Ht hf hb hn hl (h _ (fun _ _ h=>h) (fun _ _ h=>h))
section
variable {P:Program}{fn:Func}{R:Value→World→Prop}{L:Env}{w:World}
theorem jo (hr:fn.results = #[]) (h:R (.tuple #[]) w):fin P fn R .ret L w:=fun _ _ _=>⟨_,results_none hr _ P w,h⟩
theorem Hp {t v} (hr:fn.results = #[.tmp t]) (hv:look L t=some v) (h:R v w):fin P fn R .ret L w:=fun _ a hg=>
  ⟨v,by rw [results_tmp hr,hg.cov t v hv],h⟩
theorem qB {t u v x} (hr:fn.results = #[.tmp t,.tmp u]) (hv:look L t=some v) (hx:look L u=some x) (h:R (.tuple #[v,x]) w):fin P fn R .ret L w:=fun _ a hg=>
  ⟨_,by rw [results_tmp2 hr,hg.cov t v hv,hg.cov u x hx],h⟩
theorem cp {t ty x v} (hr:fn.results = #[.cell t ty]) (hv:look L t=some (.pointer (some x))) (hl:(loadVar ty x).run P w = .ok v w) (h:R v w):fin P fn R .ret L w:=fun _ a hg=>
  ⟨v,by have h1:=hg.cov t _ hv; simp only [Array.getD_eq_getD_getElem?] at h1; simp [results,hr,h1,asAddr,hl],h⟩
end
section
variable {P:Program}{n:Nat}{ops:Array Oper}{Q:Post}{L:Env}{w:World}
def RL (P:Program) (n:Nat) (ops:Array Oper) (Q:Post) (l:List Oper) (L:Env) (w:World):Prop:=
  ∀ a,Good n a L→wpList P ops (lift n Q) l a w
def Py (P:Program) (n:Nat) (L:Env) (w:World) (o:Oper) (v:Value):Prop:=
  ∀ a,Good n a L→(execOp a.eval o).run P w = .ok (.value v) w
def Pn (P:Program) (n:Nat) (L:Env) (w:World) (o:Oper) (v:Value) (w':World):Prop:=
  ∀ a,Good n a L→(execOp a.eval o).run P w = .ok (.value v) w'
def Pd (P:Program) (n:Nat) (L:Env) (w:World) (o:Oper) (w':World):Prop:=
  ∀ a,Good n a L→(execOp a.eval o).run P w = .ok .skip w'
def Pc (P:Program) (n:Nat) (L:Env) (w:World) (o:Oper) (f:FuncId) (args:Array Value):Prop:=
  ∀ a,Good n a L→(execOp a.eval o).run P w = .ok (.enter f args) w
def Wn (ops:Array Oper) (n:Nat) (L:Env) (o:Oper):Prop:=
  ∀ a,Good n a L→Region.wanted o (yielded ops a.tmps)=true
def Wo (ops:Array Oper) (n:Nat) (L:Env) (o:Oper):Prop:=
  ∀ a,Good n a L→Region.wanted o (yielded ops a.tmps)=false
theorem wn {o:Oper}(h:o.guard=none):Wn ops n L o:=fun _ _=>by simp [Region.wanted,h]
def iu (ops:Array Oper) (j:Nat):Option Nat:=(ops.toList[j]?).bind (·.dst)
theorem qw {a j t b} (hg:Good n a L) (hd:iu ops j=some t) (hb:look L t=some (.bool b)):yielded ops a.tmps j=some b:=by
  have h:=hg.cov t _ hb
  have hd':(ops[j]?).bind (·.dst)=some t:=by simpa [iu] using hd
  simp only [yielded,hd',Option.bind_some]
  simp only [Array.getD_eq_getD_getElem?] at h
  cases ht:a.tmps[t]? with
  | none=>rw [ht] at h; simp [undef] at h
  | some v=>rw [ht] at h; simp at h; subst h; rfl
theorem wg {o:Oper}{j t b} (h:o.guard=some (j,b)) (hd:iu ops j=some t) (hb:look L t=some (.bool b)):Wn ops n L o:=fun _ hg=>by
  simp [Region.wanted,h,qw hg hd hb]
theorem wog {o:Oper}{j t b} (h:o.guard=some (j,!b)) (hd:iu ops j=some t) (hb:look L t=some (.bool b)):Wo ops n L o:=fun _ hg=>by
  simp [Region.wanted,h,qw hg hd hb]
theorem am {id l} (h:RL P n l.toArray Q l L w):W P n (.region id l.toArray false) Q L w:=fun a ha=>wp_region_lit (h a ha)
theorem aa (h:Q .normal L w):RL P n ops Q [] L w:=fun _ ha=>wpList_nil ⟨L,ha,h⟩
theorem ao {o rest d v} (hw:Wn ops n L o) (hd:o.dst=some d) (hn:Nat.blt d n=true) (hp:Py P n L w o v)
    (k:RL P n ops Q rest ((d,v)::L) w):RL P n ops Q (o::rest) L w:=fun a ha=>wpList_step fun K hK=>by
  rw [if_pos (hw a ha)]
  unfold Oper.wp
  rw [hp a ha,Oper.upon_value,hd]
  exact hK _ _ (k _ (ha.put hn))
theorem sc {o rest d v w'} (hw:Wn ops n L o) (hd:o.dst=some d) (hn:Nat.blt d n=true) (hp:Pn P n L w o v w')
    (k:RL P n ops Q rest ((d,v)::L) w'):RL P n ops Q (o::rest) L w:=fun a ha=>wpList_step fun K hK=>by
  rw [if_pos (hw a ha)]
  unfold Oper.wp
  rw [hp a ha,Oper.upon_value,hd]
  exact hK _ _ (k _ (ha.put hn))
theorem E9 {o rest w'} (hw:Wn ops n L o) (hd:o.dst=none) (hp:Pd P n L w o w')
    (k:RL P n ops Q rest L w'):RL P n ops Q (o::rest) L w:=fun a ha=>wpList_step fun K hK=>by
  rw [if_pos (hw a ha)]
  unfold Oper.wp
  rw [hp a ha,Oper.upon_skip,hd]
  exact hK _ _ (k _ ha)
theorem wo {o rest d} (hw:Wo ops n L o) (hd:o.dst=some d) (hn:Nat.blt d n=true)
    (k:RL P n ops Q rest ((d,undef)::L) w):RL P n ops Q (o::rest) L w:=fun a ha=>wpList_step fun K hK=>by
  rw [if_neg (by rw [hw a ha]; simp),hd]
  exact hK _ _ (k _ (ha.put hn))
theorem Fz {o rest} (hw:Wo ops n L o) (hd:o.dst=none)
    (k:RL P n ops Q rest L w):RL P n ops Q (o::rest) L w:=fun a ha=>wpList_step fun K hK=>by
  rw [if_neg (by rw [hw a ha]; simp),hd]
  exact hK _ _ (k _ ha)
theorem dW {o rest d f args R} (hw:Wn ops n L o) (hd:o.dst=some d) (hn:Nat.blt d n=true) (hp:Pc P n L w o f args)
    (hc:Ret P f args w R) (k:∀ v w',R v w'→RL P n ops Q rest ((d,v)::L) w'):RL P n ops Q (o::rest) L w:=fun a ha=>wpList_step fun K hK=>by
  rw [if_pos (hw a ha)]
  unfold Oper.wp
  rw [hp a ha,Oper.upon_enter,hd]
  refine Calls.mono hc fun e w' ⟨v,he,hR⟩=>?_
  subst he
  exact hK _ _ (k v w' hR _ (ha.put hn))
theorem eA {l t b} (hb:look L t=some (.bool b)) (h1:b=true→RL P n ops Q l ((t,.bool true)::L) w) (h2:b=false→RL P n ops Q l ((t,.bool false)::L) w) :
    RL P n ops Q l L w:=fun a ha=>by
  cases b
  · refine h2 rfl a ⟨ha.size,ha.defers,fun u v hu=>?_⟩
    unfold look at hu
    split at hu
    · rename_i hb'
      have:t=u:=Nat.eq_of_beq_eq_true hb'
      cases hu; subst this; exact ha.cov _ _ hb
    · exact ha.cov u v hu
  · refine h1 rfl a ⟨ha.size,ha.defers,fun u v hu=>?_⟩
    unfold look at hu
    split at hu
    · rename_i hb'
      have:t=u:=Nat.eq_of_beq_eq_true hb'
      cases hu; subst this; exact ha.cov _ _ hb
    · exact ha.cov u v hu
def open_ (listed:Array Bool):Prop:=∃ m,listed.getD m true=false
def wpG (P:Program) (ops:Array Oper) (Q:Exit→Act→World→Prop) (S:World→Prop):Nat→Array Bool→Act→World→Prop
  | 0,listed,a,w=>Region.ready .any ops listed=[]∧Q .normal a w
  | k+1,listed,a,w=>(Region.ready .any ops listed=[]→Q .normal a w) ∧
    ∀ i∈Region.ready .any ops listed,wpOp P ops Q i (fun a' w'=>(open_ (listed.setIfInBounds i true)→S w')∧wpG P ops Q S k (listed.setIfInBounds i true) a' w') a w
theorem vZ {P:Program}{ops:Array Oper}{Q:Exit→Act→World→Prop}{S:World→Prop}:∀ (k:Nat) (listed:Array Bool) (a:Act) (w:World),wpG P ops Q S k listed a w→wpAny P .any ops Q k listed a w
  | 0,_,_,_,h=>h
  | k+1,_,_,_,h=>⟨h.1,fun i hi=>wpOp_mono (fun a' w' h'=>vZ k _ a' w' h'.2) (h.2 i hi)⟩
def waits (ops:Array Oper) (listed:Array Bool) (i:Nat):Bool:=
  (List.range ops.size).any fun m => !(Nat.beq m i) && !(listed.getD m true) && match ops[m]? with
    | some o=>o.after.toList.any fun e=>Region.binds .any e && Nat.beq e.on i
    | none=>false
theorem zt {ops:Array Oper}{listed:Array Bool}{i:Nat}(h:waits ops listed i=true) :
    ∃ m o,ops[m]? = some o∧m≠i∧listed.getD m true=false∧∃ e∈o.after,Region.binds .any e=true∧e.on=i:=by
  unfold waits at h
  rw [List.any_eq_true] at h
  obtain ⟨m,_,h⟩:=h
  simp only [Bool.and_eq_true] at h
  obtain ⟨⟨h1,h2⟩,h3⟩:=h
  cases ho:ops[m]? with
  | none=>rw [ho] at h3; cases h3
  | some o=>
    rw [ho] at h3
    simp only [List.any_eq_true,Bool.and_eq_true] at h3
    obtain ⟨e,he,hb,hi⟩:=h3
    exact ⟨m,o,ho,fun e=>by subst e; simp at h1,by simpa using h2,e,by simpa using he,hb,Nat.eq_of_beq_eq_true hi⟩
theorem Dp {P:Program}{ops:Array Oper}{Q:Exit→Act→World→Prop}{S:World→Prop}{i:Nat}{o:Oper}{v:Value}(hi:ops[i]? = some o) (hs:Region.noSelect ops=true)
    (hQ:∀ c a w,Q (.panic c) (a.put o.dst v) w→Q (.panic c) a w) :
    ∀ (k:Nat) (listed:Array Bool) (a:Act) (w:World),
      (∀ j oj,ops[j]? = some oj→j≠i→listed.getD j true=false→(∀ e∈oj.after,Region.binds .any e=true→e.on≠i)→o.apart ops oj=true) →
      (∃ m om,ops[m]? = some om∧m≠i∧listed.getD m true=false∧∃ e∈om.after,Region.binds .any e=true∧e.on=i) →
      i∈Region.ready .any ops listed→YieldsIf P ops S o v a→S w →
      wpG P ops Q S k (listed.setIfInBounds i true) (a.put o.dst v) w→wpG P ops Q S (k+1) listed a w:=by
  intro k
  have hsel:=Region.noSelect_spec hs
  induction k with
  | zero=>
    intro listed a w _ _ hr hy hS H
    refine ⟨fun h=>absurd hr (by rw [h]; simp),fun j hj=>?_⟩
    by_cases hne:j=i
    · subst hne; exact hy.wpOp hi hS ⟨fun _=>hS,H⟩
    · have:=ready_mono hj hne
      rw [H.1] at this
      simp at this
  | succ k ih=>
    intro listed a w hfree hwait hr hy hS H
    refine ⟨fun h=>absurd hr (by rw [h]; simp),fun j hj=>?_⟩
    by_cases hne:j=i
    · subst hne; exact hy.wpOp hi hS ⟨fun _=>hS,H⟩
    · obtain ⟨hun,oj,hoj,hall⟩:=mem_ready.1 hj
      have hnot:∀ e∈oj.after,Region.binds .any e=true→e.on≠i:=by
        intro e he hb heq
        have h1:=hall e he hb
        have h0:=(mem_ready.1 hr).1
        rw [heq] at h1
        by_cases hsz:i<listed.size
        · simp [hsz] at h0 h1
          rw [h0] at h1
          cases h1
        · simp [Array.getElem?_eq_none (Nat.le_of_not_lt hsz)] at h1
      obtain ⟨m,om,hm,hmi,hmu,e,he,heb,hei⟩:=hwait
      have hmj:m≠j:=fun e'=>by subst e'; rw [hoj] at hm; cases hm; exact hnot e he heb hei
      have hmu':(listed.setIfInBounds j true).getD m true=false:=by rw [getD_set_ne true (Ne.symm hmj)]; exact hmu
      have h2:=wpOp_putIf hoj (hfree j oj hoj hne hun hnot) (fun cs b=>hsel i o cs b hi) (fun cs b=>hsel j oj cs b hoj) hQ hy (H.2 j (ready_mono hj hne))
      refine wpOp_mono (fun a' w' h3=>?_) h2
      obtain ⟨hy',hS',hG⟩:=h3
      have hSw:S w':=hS' ⟨m,by rw [getD_set_ne true (Ne.symm hmj),getD_set_ne true (Ne.symm hmi)]; exact hmu⟩
      refine ⟨fun _=>hSw,ih (listed.setIfInBounds j true) a' w' (fun q oq hq hqi hqu hqn=>?_) ⟨m,om,hm,hmi,hmu',e,he,heb,hei⟩ (ready_mono hr (Ne.symm hne)) hy' hSw ?_⟩
      · refine hfree q oq hq hqi ?_ hqn
        by_cases hjq:j=q
        · subst hjq; exact hun
        · rw [getD_set_ne true hjq] at hqu; exact hqu
      · rw [Array.setIfInBounds_comm _ _ hne]
        exact hG
def heads (N:Nat) (rec:List (Nat × Bool)→Array Bool→Bool) (listed:Array Bool):List Nat→List (Nat × Bool)→Bool
  | [x],(i,p)::r=>Nat.beq i x && !p && Nat.blt i N && rec r (listed.setIfInBounds x true)
  | x :: y::t,(k,p)::r => !p && Nat.ble N k && (match r.take (k-1000) with
      | (i,q)::r1=>Nat.beq i x && !q && Nat.blt i N && rec r1 (listed.setIfInBounds x true)
      | []=>false) && heads N rec listed (y::t) (r.drop (k-1000))
  | _,_=>false
def qk (ops:Array Oper):Nat→List (Nat × Bool)→Array Bool→Bool
  | _,[],listed=>(Region.ready .any ops listed).isEmpty && listed.all id
  | m+1,(i,true)::r,listed=>Region.free .any ops listed i && (Region.ready .any ops listed).contains i && waits ops listed i && qk ops m r (listed.setIfInBounds i true)
  | m+1,(i,false)::r,listed=>heads ops.size (qk ops m) listed (Region.ready .any ops listed) ((i,false)::r)
  | _,_,_=>false
def DL (P:Program) (n:Nat) (ops:Array Oper) (Q:Post) (S:World→Prop) (l:List (Nat × Bool)) (L:Env) (w:World):Prop:=
  Region.noSelect ops=true→∀ a,Good n a L→(l≠[]→S w)→∀ (m:Nat) (listed:Array Bool) (fuel:Nat),m≤fuel →
    (qk ops m l listed=true→wpG P ops (lift n Q) S fuel listed a w) ∧
    (∀ av,heads ops.size (qk ops m) listed av l=true→∀ j∈av,wpOp P ops (lift n Q) j (fun a' w'=>(open_ (listed.setIfInBounds j true)→S w')∧wpG P ops (lift n Q) S fuel (listed.setIfInBounds j true) a' w') a w)
theorem Ay {c d v w} {a:Act}(h:lift n Q (.panic c) (a.put d v) w):lift n Q (.panic c) a w:=h.elim
variable {S:World→Prop}
theorem cb {id:Nat}(l:List (Nat × Bool)) (hm:P.follows .mixedOrders=true) (hc:qk ops ops.size l (Array.replicate ops.size false)=true) (hs:Region.noSelect ops=true) (_:true=true)
  (hS:∀ k,S { w with drawn:=k }) (h:∀ k,DL P n ops Q S l L { w with drawn:=k }):W P n (.region id ops true) Q L w:=fun a ha=>
 wp_region_any hm (vZ _ _ _ _ ((h _ hs a ha (fun _=>hS _) ops.size _ ops.size (Nat.le_refl _)).1 hc))
theorem Bk {m listed} (hc:qk ops m [] listed=true):Region.ready .any ops listed=[]∧¬ open_ listed:=by
  have hc:((Region.ready .any ops listed).isEmpty && listed.all id)=true:=by cases m<;>exact hc
  simp only [Bool.and_eq_true] at hc
  refine ⟨by simpa using hc.1,fun ⟨m,hm⟩=>?_⟩
  have h2:=hc.2
  rw [Array.all_eq_true_iff_forall_mem] at h2
  by_cases hlt:m<listed.size
  · have:=h2 listed[m] (Array.getElem_mem hlt)
    simp [hlt] at hm
    simp [hm] at this
  · simp [Array.getElem?_eq_none (Nat.le_of_not_lt hlt)] at hm
theorem B0 {N rec listed av} (h:heads N rec listed av []=true):False:=by
  unfold heads at h
  split at h<;>simp_all
theorem bb (h:Q .normal L w):DL P n ops Q S [] L w:=fun _ a ha hS m listed fuel _=>⟨fun hc=>by
  have h1:=(Bk hc).1
  cases fuel with
  | zero=>exact ⟨h1,⟨L,ha,h⟩⟩
  | succ k=>exact ⟨fun _=>⟨L,ha,h⟩,by rw [h1]; simp⟩,fun av hh=>(B0 hh).elim⟩
private theorem Fp {N rec listed av i r} (h:heads N rec listed av ((i,true)::r)=true):False:=by
  unfold heads at h
  split at h<;>simp_all
private theorem AE {i rest o d v} (hi:ops.toList[i]? = some o) (hd:o.dst=some d) (hn:Nat.blt d n=true) (hy:∀ a,Good n a L→YieldsIf P ops S o v a)
    (k:DL P n ops Q S rest ((d,v)::L) w):DL P n ops Q S ((i,true)::rest) L w:=fun hs a ha hS m listed fuel hf=>⟨fun hc=>by
  cases m with
  | zero=>simp [qk] at hc
  | succ m=>
    unfold qk at hc
    simp only [Bool.and_eq_true] at hc
    obtain ⟨⟨⟨h1,h2⟩,h3⟩,h4⟩:=hc
    cases fuel with
    | zero=>simp at hf
    | succ fuel=>
      have hi':ops[i]? = some o:=by simpa using hi
      refine Dp hi' hs (fun _ _ _ h=>Ay h) fuel listed a w (Region.free_spec hi' h1) (zt h3) (by simpa using h2) (hy a ha) (hS σ) ?_
      rw [hd]
      exact (k hs _ (ha.put hn) (fun _=>hS σ) m _ fuel ω).1 h4,fun av hh=>(Fp hh).elim⟩
theorem bp {i rest o d v} (hi:ops.toList[i]? = some o) (hw:Wn ops n L o) (hd:o.dst=some d) (hn:Nat.blt d n=true) (hp:∀ x,S x→Py P n L x o v)
    (k:DL P n ops Q S rest ((d,v)::L) w):DL P n ops Q S ((i,true)::rest) L w:=
  AE hi hd hn (fun a ha => .inl ⟨hw a ha,fun x hx=>hp x hx a ha⟩) k
theorem qj {i rest o d} (hi:ops.toList[i]? = some o) (hw:Wo ops n L o) (hd:o.dst=some d) (hn:Nat.blt d n=true)
    (k:DL P n ops Q S rest ((d,undef)::L) w):DL P n ops Q S ((i,true)::rest) L w:=
  AE hi hd hn (fun a ha => .inr ⟨hw a ha,rfl⟩) k
private theorem HH {i rest} (h:Region.noSelect ops=true→∀ a,Good n a L→S w→∀ (m:Nat) (listed:Array Bool) (fuel:Nat),m≤fuel→∀ av,heads ops.size (qk ops m) listed av ((i,false)::rest)=true →
      ∀ j∈av,wpOp P ops (lift n Q) j (fun a' w'=>(open_ (listed.setIfInBounds j true)→S w')∧wpG P ops (lift n Q) S fuel (listed.setIfInBounds j true) a' w') a w) :
    DL P n ops Q S ((i,false)::rest) L w:=fun hs a ha hS m listed fuel hf=>⟨fun hc=>by
  cases m with
  | zero=>simp [qk] at hc
  | succ m=>
    unfold qk at hc
    cases fuel with
    | zero=>simp at hf
    | succ fuel=>
      refine ⟨fun e=>?_,h hs a ha (hS σ) m listed fuel ω _ hc⟩
      rw [e] at hc
      simp [heads] at hc,h hs a ha (hS σ) m listed fuel hf⟩
private theorem BB {i rest o} (hi:ops.toList[i]? = some o)
    (h:S w→∀ a,Good n a L→∀ K:Act→World→Prop,(∀ a' w' L',Good n a' L'→DL P n ops Q S rest L' w'→(rest≠[]→S w')→K a' w') →
      if Region.wanted o (yielded ops a.tmps) then o.wp P a w K (lift n Q)∨(o.asks P a w∧LetsOut (lift n Q)) else K (a.put o.dst undef) w) :
    DL P n ops Q S ((i,false)::rest) L w:=HH fun hs a ha hSw m listed fuel hf av hh j hj=>by
  have hx:av=[i]∧qk ops m rest (listed.setIfInBounds i true)=true:=by
    unfold heads at hh
    split at hh
    · rename_i x i' p' r' e
      simp only [List.cons.injEq,Prod.mk.injEq] at e
      obtain ⟨⟨rfl,rfl⟩,rfl⟩:=e
      simp only [Bool.and_eq_true] at hh
      have hx:_=x:=Nat.eq_of_beq_eq_true hh.1.1.1
      subst hx
      exact ⟨rfl,hh.2⟩
    · rename_i k' p' r' e
      simp only [List.cons.injEq,Prod.mk.injEq] at e
      obtain ⟨⟨rfl,rfl⟩,rfl⟩:=e
      simp only [Bool.and_eq_true] at hh
      have hk:=Nat.le_of_ble_eq_true hh.1.1.2
      have hlt:i<ops.size:=by
        have h2:ops[i]? = some o:=by simpa using hi
        exact (Array.getElem?_eq_some_iff.1 h2).1
      omega
    · cases hh
  obtain ⟨rfl,h3⟩:=hx
  obtain rfl:j=i:=by simpa using hj
  unfold wpOp
  have hi':ops[j]? = some o:=by simpa using hi
  simp only [hi']
  refine h hSw a ha _ fun a' w' L' hg' hk hS'=>⟨fun ho=>?_,(hk hs _ hg' hS' m _ fuel hf).1 h3⟩
  cases rest with
  | nil=>exact absurd ho (Bk h3).2
  | cons x r=>exact hS' σ
theorem Ha {l l1 l2:List (Nat × Bool)}(hN:Nat.ble ops.size 1000=true) (e:l=(1000+l1.length,false)::(l1++l2)) (hl1:l1.isEmpty=false) (hl2:l2.isEmpty=false) (h1:DL P n ops Q S l1 L w) (h2:DL P n ops Q S l2 L w):DL P n ops Q S l L w:=by
  subst e
  refine HH fun hs a ha hSw m listed fuel hf av hh j hj=>?_
  have hN:=Nat.le_of_ble_eq_true hN
  unfold heads at hh
  split at hh
  · rename_i x i' p' r' e
    simp only [List.cons.injEq,Prod.mk.injEq] at e
    obtain ⟨⟨rfl,rfl⟩,rfl⟩:=e
    simp only [Bool.and_eq_true] at hh
    have:=Eq.mp Nat.blt_eq hh.1.2
    omega
  · rename_i x y t k' p' r' e
    simp only [List.cons.injEq,Prod.mk.injEq] at e
    obtain ⟨⟨rfl,rfl⟩,rfl⟩:=e
    rw [Nat.add_sub_cancel_left,List.take_left,List.drop_left] at hh
    simp only [Bool.and_eq_true] at hh
    obtain ⟨⟨_,h3⟩,h4⟩:=hh
    rcases List.mem_cons.1 hj with rfl | hj
    · cases l1 with
      | nil=>simp at hl1
      | cons hd r1=>
        obtain ⟨i,q⟩:=hd
        refine (h1 hs a ha (fun _=>hSw) m listed fuel hf).2 [j] ?_ j σ
        unfold heads
        exact h3
    · exact (h2 hs a ha (fun _=>hSw) m listed fuel hf).2 _ h4 j hj
  · cases hh
theorem uv {i rest o d v w'} (hi:ops.toList[i]? = some o) (hw:Wn ops n L o) (hd:o.dst=some d) (hn:Nat.blt d n=true) (hp:Pn P n L w o v w') (hS:S w→rest≠[]→S w')
    (k:DL P n ops Q S rest ((d,v)::L) w'):DL P n ops Q S ((i,false)::rest) L w:=BB hi fun hSw a ha K hK=>by
  rw [if_pos (hw a ha)]
  unfold Oper.wp
  rw [hp a ha,Oper.upon_value,hd]
  exact .inl (hK _ _ _ (ha.put hn) k (hS hSw))
theorem aW {i rest o d v} (hi:ops.toList[i]? = some o) (hw:Wn ops n L o) (hd:o.dst=some d) (hn:Nat.blt d n=true) (hp:Py P n L w o v)
    (k:DL P n ops Q S rest ((d,v)::L) w):DL P n ops Q S ((i,false)::rest) L w:=uv hi hw hd hn hp (fun h _=>h) k
theorem x7 {i rest o w'} (hi:ops.toList[i]? = some o) (hw:Wn ops n L o) (hd:o.dst=none) (hp:Pd P n L w o w') (hS:S w→rest≠[]→S w')
    (k:DL P n ops Q S rest L w'):DL P n ops Q S ((i,false)::rest) L w:=BB hi fun hSw a ha K hK=>by
  rw [if_pos (hw a ha)]
  unfold Oper.wp
  rw [hp a ha,Oper.upon_skip,hd]
  exact .inl (hK _ _ _ ha k (hS hSw))
theorem Fl {i rest o d} (hi:ops.toList[i]? = some o) (hw:Wo ops n L o) (hd:o.dst=some d) (hn:Nat.blt d n=true)
    (k:DL P n ops Q S rest ((d,undef)::L) w):DL P n ops Q S ((i,false)::rest) L w:=BB hi fun hSw a ha K hK=>by
  rw [if_neg (by rw [hw a ha]; simp),hd]
  exact hK _ _ _ (ha.put hn) k (fun _=>hSw)
theorem dh {i rest o d f args R} (hi:ops.toList[i]? = some o) (hw:Wn ops n L o) (hd:o.dst=some d) (hn:Nat.blt d n=true) (hp:Pc P n L w o f args)
    (hc:Ret P f args w R) (hS:S w→∀ v w',R v w'→rest≠[]→S w') (k:∀ v w',R v w'→DL P n ops Q S rest ((d,v)::L) w'):DL P n ops Q S ((i,false)::rest) L w:=BB hi fun hSw a ha K hK=>by
  rw [if_pos (hw a ha)]
  unfold Oper.wp
  rw [hp a ha,Oper.upon_enter,hd]
  refine .inl (Calls.mono hc fun e w' ⟨v,he,hR⟩=>?_)
  subst he
  exact hK _ _ _ (ha.put hn) (k v w' hR) (hS hSw v w' hR)
theorem fY {l t b} (hb:look L t=some (.bool b)) (h1:b=true→DL P n ops Q S l ((t,.bool true)::L) w) (h2:b=false→DL P n ops Q S l ((t,.bool false)::L) w) :
    DL P n ops Q S l L w:=fun hs a ha=>by
  have hg:Good n a ((t,.bool b)::L):=⟨ha.size,ha.defers,fun u v hu=>by
    unfold look at hu
    split at hu
    · rename_i hb'
      have:t=u:=Nat.eq_of_beq_eq_true hb'
      cases hu; subst this; exact ha.cov _ _ hb
    · exact ha.cov u v hu⟩
  cases b
  · exact h2 rfl hs a hg
  · exact h1 rfl hs a hg
end
end Go.Wk
namespace Go.Wk
section
variable {P:Program}{n:Nat}{ops:Array Oper}{Q:Post}{L:Env}{w:World}{d:Tmp}{ty:TypeId}{p:String}{af:Array Edge}{op:Op}{v:Value}{S:World→Prop}{i:Nat}
theorem sV {rest:List Oper}(hn:Nat.blt d n=true) (hp:Py P n L w ⟨some d,op,ty,p,af,none⟩ v) (k:RL P n ops Q rest ((d,v)::L) w):RL P n ops Q (⟨some d,op,ty,p,af,none⟩::rest) L w:=ao (wn rfl) rfl hn hp k
theorem dV {rest:List (Nat × Bool)}(hi:ops.toList[i]? = some ⟨some d,op,ty,p,af,none⟩) (hn:Nat.blt d n=true) (hp:∀ x,S x→Py P n L x ⟨some d,op,ty,p,af,none⟩ v) (k:DL P n ops Q S rest ((d,v)::L) w):DL P n ops Q S ((i,true)::rest) L w:=bp hi (wn rfl) rfl hn hp k
theorem ac {id:Nat}{l:List Oper}{y:Code}(h:RL P n l.toArray (thn P n y Q) l L w):W P n (.seq (.region id l.toArray false) y) Q L w:=ae (am h)
theorem sM {x:Operand}{rest:List Oper}(hn:Nat.blt d n=true) (h:evL L x=some v) (k:RL P n ops Q rest ((d,v)::L) w):RL P n ops Q (⟨some d,.move x,ty,p,af,none⟩::rest) L w:=sV hn (fun a ha=>by simp [execOp,ha.eval h]) k
theorem sA {x:Operand}{rest:List Oper}(hn:Nat.blt d n=true) (h:evL L x=some v) (k:RL P n ops Q rest ((d,v)::L) w):RL P n ops Q (⟨some d,.assign x,ty,p,af,none⟩::rest) L w:=sV hn (fun a ha=>by simp [execOp,ha.eval h]) k
theorem sZ {x:Operand}(hn:Nat.blt d n=true) (h:evL L x=some v) (k:Q .normal ((d,v)::L) w):RL P n ops Q [⟨some d,.assign x,ty,p,af,none⟩] L w:=sA hn h (aa k)
theorem dM {x:Operand}{rest:List (Nat × Bool)}(hi:ops.toList[i]? = some ⟨some d,.move x,ty,p,af,none⟩) (hn:Nat.blt d n=true) (h:evL L x=some v) (k:DL P n ops Q S rest ((d,v)::L) w):DL P n ops Q S ((i,true)::rest) L w:=dV hi hn (fun _ _ a ha=>by simp [execOp,ha.eval h]) k
theorem dKt {j t:Nat}{rest:List (Nat × Bool)}(hi:ops.toList[i]? = some ⟨some d,op,ty,p,af,some (j,false)⟩) (hd:iu ops j=some t) (hb:look L t=some (.bool true)) (hn:Nat.blt d n=true) (k:DL P n ops Q S rest ((d,undef)::L) w):DL P n ops Q S ((i,true)::rest) L w:=qj hi (wog (b:=true) rfl hd hb) rfl hn k
theorem dKf {j t:Nat}{rest:List (Nat × Bool)}(hi:ops.toList[i]? = some ⟨some d,op,ty,p,af,some (j,true)⟩) (hd:iu ops j=some t) (hb:look L t=some (.bool false)) (hn:Nat.blt d n=true) (k:DL P n ops Q S rest ((d,undef)::L) w):DL P n ops Q S ((i,true)::rest) L w:=qj hi (wog (b:=false) rfl hd hb) rfl hn k
theorem sKt {j t:Nat}{rest:List Oper}(hd:iu ops j=some t) (hb:look L t=some (.bool true)) (hn:Nat.blt d n=true) (k:RL P n ops Q rest ((d,undef)::L) w):RL P n ops Q (⟨some d,op,ty,p,af,some (j,false)⟩::rest) L w:=wo (wog (b:=true) rfl hd hb) rfl hn k
theorem sKf {j t:Nat}{rest:List Oper}(hd:iu ops j=some t) (hb:look L t=some (.bool false)) (hn:Nat.blt d n=true) (k:RL P n ops Q rest ((d,undef)::L) w):RL P n ops Q (⟨some d,op,ty,p,af,some (j,true)⟩::rest) L w:=wo (wog (b:=false) rfl hd hb) rfl hn k
theorem rT {fn:Func}{R:Value→World→Prop}{t:Nat}(hQ:∀ L w,fin P fn R .ret L w→Q .ret L w) (hr:fn.results = #[.tmp t]) (hv:look L t=some v) (h:R v w):W P n .ret Q L w:=bc (hQ _ _ (Hp hr hv h))
theorem ah {o:Oper}(h:o.guard=none:=by exact rfl):Wn ops n L o:=wn h
abbrev NG (f:Func):Prop:=(f.name == "runtime.NumGoroutine")=false
theorem lNA {α:Type _}{xs:List α}:[]++xs=xs:=rfl
theorem lCA {α:Type _}{a:α}{xs ys:List α}:(a::xs)++ys=a::(xs++ys):=rfl
theorem lSZ {α:Type _}{a b:α}{xs:List α}:(a::xs).set 0 b=b::xs:=rfl
theorem lSS {α:Type _}{a b:α}{k:Nat}{xs:List α}:(a::xs).set (k+1) b=a::xs.set k b:=rfl
end
end Go.Wk
namespace Go.Wk
section
variable {P:Program}{n:Nat}{L:Env}{w:World}{d:Option Tmp}{ty:TypeId}{p:String}{af:Array Edge}{g:Option (Nat × Bool)}
theorem aL {x v} (hx:evL L x=some v):Py P n L w ⟨d,.move x,ty,p,af,g⟩ v:=fun a ha=>by simp [execOp,ha.eval hx]
theorem bg {x v} (hx:evL L x=some v):Py P n L w ⟨d,.assign x,ty,p,af,g⟩ v:=fun a ha=>by simp [execOp,ha.eval hx]
theorem aY {c x y v} (hc:evL L c=some (.bool true)) (hx:evL L x=some v):Py P n L w ⟨d,.pick c x y,ty,p,af,g⟩ v:=fun a ha=>by
  simp [execOp,ha.eval hx,ha.eval hc,asBool]
theorem bm {c x y v} (hc:evL L c=some (.bool false)) (hy:evL L y=some v):Py P n L w ⟨d,.pick c x y,ty,p,af,g⟩ v:=fun a ha=>by
  simp [execOp,ha.eval hy,ha.eval hc,asBool]
theorem bh {x b xt} (hx:evL L x=some (.bool b)):Py P n L w ⟨d,.unOp .not xt x,ty,p,af,g⟩ (.bool !b):=fun a ha=>by
  simp [execOp,ha.eval hx,Op.unary]
theorem rO {x xt q} [i:Decidable q] (hx:evL L x=some (.bool (@decide q i))):Py P n L w ⟨d,.unOp .not xt x,ty,p,af,g⟩ (.bool (decide (¬ q))):=fun a ha=>by
  simp [execOp,ha.eval hx,Op.unary]
section ints
variable {k:IntKind}{x y:Operand}{i j:Int}{xt yt:TypeId}
theorem aE (hx:evL L x=some (.int k i)) (hy:evL L y=some (.int k j)) (h:k.wrap (i+j)=i+j):Py P n L w ⟨d,.binOp .add xt x y yt,ty,p,af,g⟩ (.int k (i+j)):=fun a ha=>by
  simp [execOp,ha.eval hx,ha.eval hy,eqGuard,binOp,Op.intArith,h]
theorem ci (hx:evL L x=some (.int k i)) (hy:evL L y=some (.int k j)) (h:k.wrap (i-j)=i-j):Py P n L w ⟨d,.binOp .sub xt x y yt,ty,p,af,g⟩ (.int k (i-j)):=fun a ha=>by
  simp [execOp,ha.eval hx,ha.eval hy,eqGuard,binOp,Op.intArith,h]
theorem iG (hx:evL L x=some (.int k i)) (hy:evL L y=some (.int k j)) (h:k.wrap (i*j)=i*j):Py P n L w ⟨d,.binOp .mul xt x y yt,ty,p,af,g⟩ (.int k (i*j)):=fun a ha=>by
  simp [execOp,ha.eval hx,ha.eval hy,eqGuard,binOp,Op.intArith,h]
theorem Al (hx:evL L x=some (.int k i)) (hy:evL L y=some (.int k j)) (h0:j≠0) (h:k.wrap (i.tdiv j)=i.tdiv j):Py P n L w ⟨d,.binOp .quo xt x y yt,ty,p,af,g⟩ (.int k (i.tdiv j)):=fun a ha=>by
  simp [execOp,ha.eval hx,ha.eval hy,eqGuard,binOp,Op.intDiv,h,h0]
theorem kR (hx:evL L x=some (.int k i)) (hy:evL L y=some (.int k j)) (h0:j≠0):Py P n L w ⟨d,.binOp .rem xt x y yt,ty,p,af,g⟩ (.int k (i.tmod j)):=fun a ha=>by
  simp [execOp,ha.eval hx,ha.eval hy,eqGuard,binOp,Op.intDiv,h0]
theorem cT (hx:evL L x=some (.int k i)) (hy:evL L y=some (.int k j)):Py P n L w ⟨d,.binOp .eql xt x y yt,ty,p,af,g⟩ (.bool (decide (i=j))):=fun a ha=>by
  simp [execOp,ha.eval hx,ha.eval hy,eqGuard,binOp,Op.intCmp]
  rfl
theorem ez (hx:evL L x=some (.int k i)) (hy:evL L y=some (.int k j)):Py P n L w ⟨d,.binOp .neq xt x y yt,ty,p,af,g⟩ (.bool (decide (i≠j))):=fun a ha=>by
  simp [execOp,ha.eval hx,ha.eval hy,eqGuard,binOp,Op.intCmp,bne,BEq.beq]
theorem aX (hx:evL L x=some (.int k i)) (hy:evL L y=some (.int k j)):Py P n L w ⟨d,.binOp .lss xt x y yt,ty,p,af,g⟩ (.bool (decide (i<j))):=fun a ha=>by
  simp [execOp,ha.eval hx,ha.eval hy,eqGuard,binOp,Op.intCmp]
theorem we (hx:evL L x=some (.int k i)) (hy:evL L y=some (.int k j)):Py P n L w ⟨d,.binOp .leq xt x y yt,ty,p,af,g⟩ (.bool (decide (i≤j))):=fun a ha=>by
  simp [execOp,ha.eval hx,ha.eval hy,eqGuard,binOp,Op.intCmp]
theorem mu (hx:evL L x=some (.int k i)) (hy:evL L y=some (.int k j)):Py P n L w ⟨d,.binOp .gtr xt x y yt,ty,p,af,g⟩ (.bool (decide (j<i))):=fun a ha=>by
  simp [execOp,ha.eval hx,ha.eval hy,eqGuard,binOp,Op.intCmp]
theorem sS (hx:evL L x=some (.int k i)) (hy:evL L y=some (.int k j)):Py P n L w ⟨d,.binOp .geq xt x y yt,ty,p,af,g⟩ (.bool (decide (j≤i))):=fun a ha=>by
  simp [execOp,ha.eval hx,ha.eval hy,eqGuard,binOp,Op.intCmp]
theorem G4 (hx:evL L x=some (.int k i)) (hy:evL L y=some (.int k j)):Py P n L w ⟨d,.binOp .xor xt x y yt,ty,p,af,g⟩ (.int k (k.wrap (BitVec.ofInt k.bits i ^^^ BitVec.ofInt k.bits j).toNat)):=fun a ha=>by
  simp [execOp,ha.eval hx,ha.eval hy,eqGuard,binOp,Op.intBits]
theorem Dw (hx:evL L x=some (.int k i)) (hy:evL L y=some (.int k j)):Py P n L w ⟨d,.binOp .and xt x y yt,ty,p,af,g⟩ (.int k (k.wrap (BitVec.ofInt k.bits i &&& BitVec.ofInt k.bits j).toNat)):=fun a ha=>by
  simp [execOp,ha.eval hx,ha.eval hy,eqGuard,binOp,Op.intBits]
theorem G9 {k2:IntKind}(hx:evL L x=some (.int k i)) (hy:evL L y=some (.int k2 j)) (h0:0≤j):Py P n L w ⟨d,.binOp .shl xt x y yt,ty,p,af,g⟩ (.int k (k.wrap (i*2^min j.toNat k.bits))):=fun a ha=>by
  simp [execOp,ha.eval hx,ha.eval hy,eqGuard,binOp,Op.shift,show ¬ j<0 from by omega]
theorem y6 {k2:IntKind}(hx:evL L x=some (.int k i)) (hy:evL L y=some (.int k2 j)) (h0:0≤j):Py P n L w ⟨d,.binOp .shr xt x y yt,ty,p,af,g⟩ (.int k (i.fdiv (2^min j.toNat k.bits))):=fun a ha=>by
  simp [execOp,ha.eval hx,ha.eval hy,eqGuard,binOp,Op.shift,show ¬ j<0 from by omega]
theorem gp {k2:IntKind}{src dst:TypeId}{td} (hs:P.underlying src=some td) (hd:P.underlying dst=some (.int k2)) (hx:evL L x=some (.int k i)) (h:k2.wrap i=i) :
    Py P n L w ⟨d,.convert src dst x,ty,p,af,g⟩ (.int k2 i):=fun a ha=>by
  simp [execOp,ha.eval hx,convert,run_underlying hs,run_underlying hd,Conv.intToInt,h]
theorem DO {k2:IntKind}{src dst:TypeId}{td} (hs:P.underlying src=some td) (hd:P.underlying dst=some (.int k2)) (hx:evL L x=some (.int k i)) :
    Py P n L w ⟨d,.convert src dst x,ty,p,af,g⟩ (.int k2 (k2.wrap i)):=fun a ha=>by
  simp [execOp,ha.eval hx,convert,run_underlying hs,run_underlying hd,Conv.intToInt]
end ints
section strs
variable {x y:Operand}{s t:ByteArray}{xt yt:TypeId}
theorem A5 (hx:evL L x=some (.string s)) (hy:evL L y=some (.string t)):Py P n L w ⟨d,.binOp .eql xt x y yt,ty,p,af,g⟩ (.bool (s.toList == t.toList)):=fun a ha=>by
  simp [execOp,ha.eval hx,ha.eval hy,eqGuard,binOp,Op.stringOp]
theorem Bu {at0:TypeId}(hu:P.underlying at0=some .string) (hx:evL L x=some (.string s)) :
    Py P n L w ⟨d,.call ⟨.builtin .len,#[x],#[at0]⟩,ty,p,af,g⟩ (.int .i64 s.size):=fun a ha=>by
  simp [execOp,resolve,invoke,builtin,Builtin.len_,ha.eval hx,run_underlying hu,goInt]
def _root_.Go.Wk.gB (s:ByteArray) (k:Nat):UInt8:=if h:k<s.size then s[k] else 0
theorem pb {at0:TypeId}{ix:Operand}{kd:IntKind}{z:Int}(hu:P.underlying at0=some .string) (hx:evL L x=some (.string s)) (hi:evL L ix=some (.int kd z)) (k:Nat) (hz:z=k) (hk:k<s.size) :
    Py P n L w ⟨d,.index at0 x ix,ty,p,af,g⟩ (.int .u8 (gB s k).toNat):=fun a ha=>by
  subst hz
  have h0:(0:Int)≤(k:Int):=by omega
  have h2:s[k]? = some (s[k]'hk):=by simp [hk]
  have h3:gB s k=s[k]'hk:=by simp [gB,hk]
  simp [execOp,ha.eval hx,ha.eval hi,Instr.index,asIntOf,run_underlying hu,h2,h3]
end strs
section bools
variable {x y:Operand}{b c:Bool}{xt yt:TypeId}
end bools
theorem aS {at0:TypeId}{x:Operand}{e:TypeId}{ad:Option Addr}{len cap:Nat}(hu:P.underlying at0=some (.slice e)) (hx:evL L x=some (.slice ad len cap)) :
    Py P n L w ⟨d,.call ⟨.builtin .len,#[x],#[at0]⟩,ty,p,af,g⟩ (.int .i64 len):=fun a ha=>by
  simp [execOp,resolve,invoke,builtin,Builtin.len_,ha.eval hx,run_underlying hu,goInt]
theorem kB (b o m:Nat):(⟨b,o,none⟩:Addr).add m=⟨b,o+m,none⟩:=by
  unfold Addr.add; split<;>simp_all
theorem GP {st e:TypeId}{x ix:Operand}{b o len cap k sz:Nat}{kd:IntKind}(hu:P.underlying st=some (.slice e)) (hs:∀ w,(sizeOf e).run P w = .ok sz w)
    (hx:evL L x=some (.slice (some ⟨b,o,none⟩) len cap)) (hi:evL L ix=some (.int kd k)) (hk:k<len) :
    Py P n L w ⟨d,.indexAddr st x ix,ty,p,af,g⟩ (.pointer (some ⟨b,o+k*sz,none⟩)):=fun a ha=>by
  simp [execOp,ha.eval hx,ha.eval hi,Instr.indexAt,asIntOf,run_underlying hu,hs,hk,kB]
theorem ag {s:TypeId}{fs:Array Field}{x:Operand}{b o i sz off:Nat}{f:Field}(hu:P.underlying s=some (.struct fs)) (hf:fs[i]? = some f) (hs:∀ w,(sizeOf f.type).run P w = .ok (sz+1) w)
    (hx:evL L x=some (.pointer (some ⟨b,o,none⟩))) (ho:o+f.offset=off):Py P n L w ⟨d,.fieldAddr s x i,ty,p,af,g⟩ (.pointer (some ⟨b,off,none⟩)):=fun a ha=>by
  subst ho
  simp [execOp,ha.eval hx,Instr.fieldAt,Instr.sureAddr,run_underlying hu,hf,fieldPlace,hs,kB]
theorem fH {x:Operand}{ad:Addr}(hx:evL L x=some (.pointer (some ad))):Py P n L w ⟨d,.nilCheck x,ty,p,af,g⟩ (.pointer (some ad)):=fun a ha=>by
  simp [execOp,ha.eval hx]
theorem Ga {x:Operand}{vs:Array Value}{i v} (hx:evL L x=some (.tuple vs)) (hv:vs[i]? = some v):Py P n L w ⟨d,.extract x i,ty,p,af,g⟩ v:=fun a ha=>by
  simp [execOp,ha.eval hx,Instr.extract,hv]
def single:TypeDesc→Bool
  | .struct _ | .array _ _=>false
  | _=>true
theorem nv {t td} (hu:P.underlying t=some td) (w:World):(isAgg t).run P w = .ok (!single td) w:=by
  cases td<;>simp [isAgg,run_underlying hu,single]
theorem CS {ad:Addr}{v} (hc:w.cell? ad=some v):(load ad).run P w = .ok v w:=by
  simp [load,Sem.run,hc]
theorem lS {t td} {ad:Addr}{v} (hu:P.underlying t=some td) (h1:single td=true) (hc:w.cell? ad=some v):(loadVar t ad).run P w = .ok v w:=by
  simp [loadVar,nv hu,h1,load,Sem.run,hc]
theorem aj {t td} {x:Operand}{ad:Addr}{v} (hu:P.underlying t=some td) (h1:single td=true) (hx:evL L x=some (.pointer (some ad))) (hc:w.cell? ad=some v) :
    Py P n L w ⟨d,.load t x,ty,p,af,g⟩ v:=fun a ha=>by
  simp [execOp,ha.eval hx,Instr.loadAt,Instr.sureAddr,lS hu h1 hc]
theorem kr {b o:Nat}{c:Array Value}{T fr v} (hb:w.heap[b]? = some (.cells c T fr)) (hv:c[o]? = some v):w.cell? ⟨b,o,none⟩=some v:=by
  simp [World.cell?,hb,hv]
theorem al {b o:Nat}{cs:List Value}{T fr v} (hb:w.heap[b]? = some (.cells cs.toArray T fr)) (hv:cs[o]? = some v):w.cell? ⟨b,o,none⟩=some v:=
  kr hb (by simpa using hv)
def At (w:World) (b o:Nat) (cs:List Value):Prop:=∀ j v,cs[j]? = some v→w.cell? ⟨b,o+j,none⟩=some v
theorem hP:∀ (cs:List Value) (b o i:Nat) (acc:Array Value),At w b (o+i) cs→(loadCellsFrom ⟨b,o,none⟩ i cs.length acc).run P w = .ok (acc++cs.toArray) w
  | [],b,o,i,acc,_=>by simp [loadCellsFrom]
  | v::cs,b,o,i,acc,h=>by
    have h0:w.cell? ⟨b,o+i,none⟩=some v:=by simpa using h 0 v rfl
    have ih:=hP cs b o (i+1) (acc.push v) (fun j u hj=>by
      have:=h (j+1) u (by simpa using hj)
      rwa [show o+(i+1)+j=o+i+(j+1) from by omega])
    simp [loadCellsFrom,kB,CS h0,ih]
theorem ay {t td} {b o:Nat}{cs:List Value}{sz} (hu:P.underlying t=some td) (h1:single td=false) (hs:∀ w,(sizeOf t).run P w = .ok sz w) (hl:cs.length=sz) (hc:At w b o cs) :
    (loadVar t ⟨b,o,none⟩).run P w = .ok (.agg cs.toArray) w:=by
  have:=hP (P:=P) cs b o 0 #[] (by simpa using hc)
  subst hl
  simp [loadVar,nv hu,h1,hs,loadCells,this]
theorem ak {t td} {x:Operand}{b o:Nat}{cs:List Value}{sz} (hu:P.underlying t=some td) (h1:single td=false) (hs:∀ w,(sizeOf t).run P w = .ok sz w) (hx:evL L x=some (.pointer (some ⟨b,o,none⟩)))
    (hl:cs.length=sz) (hc:At w b o cs):Py P n L w ⟨d,.load t x,ty,p,af,g⟩ (.agg cs.toArray):=fun a ha=>by
  simp [execOp,ha.eval hx,Instr.loadAt,Instr.sureAddr,ay hu h1 hs hl hc]
theorem At.whole {b:Nat}{cs:List Value}{T fr} (hb:w.heap[b]? = some (.cells cs.toArray T fr)):At w b 0 cs:=fun j v hj=>
  kr hb (by simpa using hj)
theorem At.sub {b o:Nat}{cs:List Value}{T fr} (hb:w.heap[b]? = some (.cells cs.toArray T fr)) (m:Nat):At w b o ((cs.drop o).take m):=fun j v hj=>by
  refine al hb ?_
  rw [List.getElem?_take] at hj
  split at hj
  · rwa [List.getElem?_drop] at hj
  · cases hj
theorem At.part {b o:Nat}{c:Array Value}{T fr} {cs:List Value}(hb:w.heap[b]? = some (.cells c T fr)) (h:∀ j v,cs[j]? = some v→c[o+j]? = some v):At w b o cs:=fun j v hj=>
  kr hb (h j v hj)
theorem uz {ad:Addr}{v u:Value}(h1:v.oneCell'=true) (hc:w.cell? ad=some u) (hf:w.frozen? ad=false):(store ad v).run P w = .ok () (w.setCell ad v):=by
  cases v<;>first | (simp [Value.oneCell'] at h1; done) | simp [store,Sem.run,hc,hf]
theorem uD {b o:Nat}{c:Array Value}{T} (hb:w.heap[b]? = some (.cells c T (0,0))):w.frozen? ⟨b,o,none⟩=false:=by
  simp [World.frozen?,hb]
theorem yc {v:Value}(h1:v.oneCell'=true):v.cells = #[v]:=by
  cases v<;>first | rfl | (simp [Value.oneCell'] at h1; done)
def put (w:World) (b:Nat) (o:Obj):World:={ w with heap:=w.heap.setIfInBounds b o }
theorem qT {b o:Nat}{c:Array Value}{T fr v} (hb:w.heap[b]? = some (.cells c T fr)):w.setCell ⟨b,o,none⟩ v=put w b (.cells (c.setIfInBounds o v) T fr):=by
  have hlt:=(Array.getElem?_eq_some_iff.1 hb).1
  simp only [World.setCell,put]
  congr 1
  apply Array.ext σ
  intro i h1 h2
  have hi:i<w.heap.size:=by simpa using h1
  have hbv:=(Array.getElem?_eq_some_iff.1 hb).2
  rw [Array.getElem_modify,Array.getElem_setIfInBounds (by simpa using hi)]
  by_cases hbi:b=i
  · subst hbi; simp [hbv]
  · simp [hbi]
theorem ge {t} {x y:Operand}{b o:Nat}{c:Array Value}{T v} (hs:∀ w,(sizeOf t).run P w = .ok 1 w) (hx:evL L x=some (.pointer (some ⟨b,o,none⟩))) (hy:evL L y=some v) (h1:v.oneCell'=true)
    (hb:w.heap[b]? = some (.cells c T (0,0))) (ho:o<c.size):Pd P n L w ⟨d,.store t x y,ty,p,af,g⟩ (put w b (.cells (c.setIfInBounds o v) T (0,0))):=fun a ha=>by
  have hst:=uz (P:=P) (v:=v) h1 (kr hb (o:=o) (Array.getElem?_eq_getElem ho)) (uD hb)
  rw [qT hb] at hst
  simp [execOp,ha.eval hx,ha.eval hy,Instr.storeAt,Instr.sureAddr,storeVar,yc h1,hs,storeCells,kB,hst]
theorem jc {b:Nat}{o o':Obj}(hb:w.heap[b]? = some o'):(put w b o).heap[b]? = some o:=by
  have hlt:=(Array.getElem?_eq_some_iff.1 hb).1
  simp [put,hlt]
theorem E7 {b:Nat}{o:Obj}(hb:w.heap[b]? = some o):put w b o=w:=by
  have hv:=(Array.getElem?_eq_some_iff.1 hb).2
  have:w.heap.setIfInBounds b o=w.heap:=by
    apply Array.ext σ
    intro i h1 h2
    rw [Array.getElem_setIfInBounds (by simpa using h2)]
    split
    · rename_i e; subst e; exact hv.symm
    · rfl
  simp [put,this]
theorem Fh {b:Nat}{o o':Obj}:put (put w b o) b o'=put w b o':=by simp [put]
def lay (c:Array Value) (o:Nat):List Value→Array Value
  | []=>c
  | v::vs=>lay (c.setIfInBounds o v) (o+1) vs
theorem pc:∀ (vs:List Value) (c:Array Value) (o:Nat),(lay c o vs).size=c.size
  | [],_,_=>rfl
  | v::vs,c,o=>by simp [lay,pc vs]
theorem jO {b:Nat}{T}:∀ (vs:List Value) (w:World) (o i:Nat) (c:Array Value),w.heap[b]? = some (.cells c T (0,0))→(∀ v∈vs,v.oneCell'=true)→o+i+vs.length≤c.size →
    (storeCells ⟨b,o,none⟩ vs i).run P w = .ok () (put w b (.cells (lay c (o+i) vs) T (0,0)))
  | [],w,o,i,c,hb,_,_=>by
    have:put w b (.cells (lay c (o+i) []) T (0,0))=w:=E7 hb
    simp [storeCells,this]
  | v::vs,w,o,i,c,hb,h1,hl=>by
    have hst:=uz (P:=P) (v:=v) (h1 v σ) (kr hb (o:=o+i) (Array.getElem?_eq_getElem (by simp at hl; omega))) (uD hb)
    rw [qT hb] at hst
    have ih:=jO vs (put w b (.cells (c.setIfInBounds (o+i) v) T (0,0))) o (i+1) (c.setIfInBounds (o+i) v) (jc hb) (fun u hu=>h1 u (by simp [hu])) (by simp at hl ⊢; omega)
    rw [Fh] at ih
    simp [storeCells,kB,hst,ih,lay,Nat.add_assoc]
theorem lw {t} {x y:Operand}{b o:Nat}{c:Array Value}{T} {vs:List Value}{sz} (hs:∀ w,(sizeOf t).run P w = .ok sz w) (hx:evL L x=some (.pointer (some ⟨b,o,none⟩))) (hy:evL L y=some (.agg vs.toArray))
    (hl:vs.length=sz) (h1:∀ v∈vs,v.oneCell'=true) (hb:w.heap[b]? = some (.cells c T (0,0))) (ho:o+sz≤c.size) :
    Pd P n L w ⟨d,.store t x y,ty,p,af,g⟩ (put w b (.cells (lay c o vs) T (0,0))):=fun a ha=>by
  subst hl
  have hst:=jO (P:=P) vs w o 0 c hb h1 (by simpa using ho)
  simp [execOp,ha.eval hx,ha.eval hy,Instr.storeAt,Instr.sureAddr,storeVar,Value.cells,hs,hst]
theorem D5 {t} {x:Operand}{v} (hx:evL L x=some v):Pn P n L w ⟨d,.box t x,ty,p,af,g⟩ (.pointer (some ⟨w.heap.size,0,none⟩)) (w.alloc (.cells v.cells t)):=fun a ha=>by
  simp [execOp,ha.eval hx,Instr.box,newVar,newRow,newObj]
  rfl
theorem xp {t} {z:Value}(hz:∀ w,(zeroValue t).run P w = .ok z w):Pn P n L w ⟨d,.alloc t,ty,p,af,g⟩ (.pointer (some ⟨w.heap.size,0,none⟩)) (w.alloc (.cells z.cells t)):=fun a ha=>by
  simp [execOp,Instr.alloc,newVar,newRow,newObj,hz]
  rfl
def iQ (L:Env):List Operand→Option (List Value)
  | []=>some []
  | x::xs=>match evL L x,iQ L xs with
    | some v,some vs=>some (v::vs)
    | _,_=>none
theorem aR {f:FuncId}{fn:Func}{xs:Array Operand}{ats:Array TypeId}{vs:List Value}(hf:P.funcs[f]? = some fn) (hb:fn.body.isNone=false) (hnm:(fn.name == "runtime.NumGoroutine")=false)
    (hv:iQ L xs.toList=some vs):Pc P n L w ⟨d,.call ⟨.value (.func f),xs,ats⟩,ty,p,af,g⟩ f vs.toArray:=fun a ha=>by
  have hm:xs.map a.eval=vs.toArray:=by
    have key:∀ (l:List Operand) (vs:List Value),iQ L l=some vs→l.map a.eval=vs:=by
      intro l
      induction l with
      | nil=>intro vs h; simp [iQ] at h; simp [h]
      | cons x l ih=>
        intro vs h
        unfold iQ at h
        split at h
        · rename_i v us hv hus
          cases h
          simp [ha.eval hv,ih us hus]
        · cases h
    have:=key _ _ hv
    apply Array.toList_inj.1
    simpa using this
  have hb':¬ fn.body=none:=fun e=>by rw [e] at hb; simp at hb
  have hnm':¬ fn.name = "runtime.NumGoroutine" := fun e=>by rw [e] at hnm; simp at hnm
  simp [execOp,resolve,Deferred.ofValue,invoke,callFunc,hf,hb',hnm',hm,Act.eval]
end
end Go.Wk
namespace Go.Wk
structure Ext (M:Nat→Prop) (w w':World):Prop where
  os:w'.os=w.os
  tape:w'.tape=w.tape
  output:w'.output=w.output
  size:w.heap.size≤w'.heap.size
  block:∀ b,b<w.heap.size→¬ M b→w'.heap[b]? = w.heap[b]?
def No:Nat→Prop:=fun _=>False
theorem Ext.refl {M w}:Ext M w w:=⟨rfl,rfl,rfl,Nat.le_refl _,fun _ _ _=>rfl⟩
theorem Ext.drawn {M w w'} (h:Ext M w w') (k:Nat):Ext M w { w' with drawn:=k }:=⟨h.os,h.tape,h.output,h.size,h.block⟩
theorem Ext.trans {M w w1 w2} (h:Ext M w w1) (k:Ext M w1 w2):Ext M w w2:=
  ⟨k.os.trans h.os,k.tape.trans h.tape,k.output.trans h.output,Nat.le_trans h.size k.size,fun b hb hm=>(k.block b (Nat.lt_of_lt_of_le hb h.size) hm).trans (h.block b hb hm)⟩
theorem Ext.mono {M M':Nat→Prop}{w w'} (h:Ext M w w') (hm:∀ b,b<w.heap.size→M b→M' b):Ext M' w w':=⟨h.os,h.tape,h.output,h.size,fun b hb hn=>h.block b hb fun h'=>hn (hm b hb h')⟩
theorem Ext.no {M w w'} (h:Ext No w w'):Ext M w w':=h.mono fun _ _ h=>h.elim
theorem Ext.step {M M':Nat→Prop}{w w1 w2} (h:Ext M w w1) (k:Ext M' w1 w2) (hm:∀ b,M' b→M b∨w.heap.size≤b):Ext M w w2:=
  ⟨k.os.trans h.os,k.tape.trans h.tape,k.output.trans h.output,Nat.le_trans h.size k.size,fun b hb hn=>
    (k.block b (Nat.lt_of_lt_of_le hb h.size) fun h'=>by rcases hm b h' with h' | h'; exact hn h'; omega).trans (h.block b hb hn)⟩
theorem Ext.alloc {M w w'} (h:Ext M w w') (o:Obj):Ext M w (w'.alloc o):=
  h.trans ⟨rfl,rfl,rfl,σ,fun _ hk _=>heap_alloc_old w' o hk⟩
theorem Ext.put {M w w' b o} (h:Ext M w w') (hb:M b∨w.heap.size≤b):Ext M w (put w' b o):=
  h.step (M':=(· = b)) ⟨rfl,rfl,rfl,by simp [Wk.put],fun k _ hm=>by
    simp only [Wk.put]; rw [Array.getElem?_setIfInBounds_ne (fun e=>hm e.symm)]⟩ (fun k hk=>by subst hk; exact hb)
theorem Ext.heap {w w':World}(h:Ext No w w') {b:Nat}{o:Obj}(hb:w.heap[b]? = some o):w'.heap[b]? = some o:=
  (h.block b (Array.getElem?_eq_some_iff.1 hb).1 (fun h=>h)).trans hb
theorem Ext.heapM {M} {w w':World}(h:Ext M w w') {b:Nat}{o:Obj}(hm:¬ M b) (hb:w.heap[b]? = some o):w'.heap[b]? = some o:=
  (h.block b (Array.getElem?_eq_some_iff.1 hb).1 hm).trans hb
theorem Ext.cell {w w':World}(h:Ext No w w') {ad:Addr}{v:Value}(hc:w.cell? ad=some v):w'.cell? ad=some v:=
  (World.cell?_of_block (h.block ad.block (World.block_lt_of_cell? w ad hc) (fun h=>h))).trans hc
theorem Ext.at {w w':World}(h:Ext No w w') {b o:Nat}{cs:List Value}(hc:At w b o cs):At w' b o cs:=fun j v hj=>h.cell (hc j v hj)
class Rp (α:Type) where
  sz:Nat
  pos:0<sz
  own:Bool→World→List Value→α→List Nat→Prop
  len:∀ {s w cs x fp},own s w cs x fp→cs.length=sz
  one:∀ {s w cs x fp},own s w cs x fp→∀ v∈cs,v.oneCell'=true
  st:∀ {s w w' cs x fp},own s w cs x fp→(∀ b∈fp,w'.heap[b]? = w.heap[b]?)→own s w' cs x fp
  lt:∀ {s w cs x fp},own s w cs x fp→∀ b∈fp,b<w.heap.size
  weak:∀ {w cs x fp},own true w cs x fp→own false w cs x fp
open Rp (sz own)
def I64ok (x:Int):Prop := -9223372036854775808≤x∧x≤9223372036854775807
instance:Rp Int where
  sz:=1
  pos:=by decide
  own _ _ cs x fp:=cs=[.int .i64 x]∧fp=[]∧I64ok x
  len h:=by rw [h.1]; rfl
  one h v hv:=by rw [h.1] at hv; simp at hv; subst hv; rfl
  st h _:=h
  lt h b hb:=by rw [h.2.1] at hb; simp at hb
  weak h:=h
instance:Rp UInt8 where
  sz:=1
  pos:=by decide
  own _ _ cs x fp:=cs=[.int .u8 x.toNat]∧fp=[]
  len h:=by rw [h.1]; rfl
  one h v hv:=by rw [h.1] at hv; simp at hv; subst hv; rfl
  st h _:=h
  lt h b hb:=by rw [h.2] at hb; simp at hb
  weak h:=h
instance:Rp Bool where
  sz:=1
  pos:=by decide
  own _ _ cs x fp:=cs=[.bool x]∧fp=[]
  len h:=by rw [h.1]; rfl
  one h v hv:=by rw [h.1] at hv; simp at hv; subst hv; rfl
  st h _:=h
  lt h b hb:=by rw [h.2] at hb; simp at hb
  weak h:=h
structure Str where
  b:ByteArray
instance:Rp Str where
  sz:=1
  pos:=by decide
  own _ _ cs x fp:=cs=[.string x.b]∧fp=[]∧x.b.size≤maxLen
  len h:=by rw [h.1]; rfl
  one h v hv:=by rw [h.1] at hv; simp at hv; subst hv; rfl
  st h _:=h
  lt h b hb:=by rw [h.2.1] at hb; simp at hb
  weak h:=h
def bY {α:Type}[Rp α] (s:Bool) (w:World):List Value→List α→List Nat→Prop
  | _,[],fp=>fp=[]
  | cs,x::xs,fp=>∃ f1 f2,fp=f1++f2∧own s w (cs.take (sz α)) x f1∧bY s w (cs.drop (sz α)) xs f2
section
variable {α:Type}[Rp α]
theorem bY.st {s w w'}:∀ {xs:List α}{cs fp},bY s w cs xs fp→(∀ b∈fp,w'.heap[b]? = w.heap[b]?)→bY s w' cs xs fp
  | [],_,_,h,_=>h
  | x::xs,cs,fp,⟨f1,f2,e,h1,h2⟩,hb=>by
    subst e
    exact ⟨f1,f2,rfl,Rp.st h1 fun b hb'=>hb b (by simp [hb']),bY.st h2 fun b hb'=>hb b (by simp [hb'])⟩
theorem bY.lt {s w}:∀ {xs:List α}{cs fp},bY s w cs xs fp→∀ b∈fp,b<w.heap.size
  | [],_,_,h,b,hb=>by rw [show _=_ from h] at hb; simp at hb
  | x::xs,cs,fp,⟨f1,f2,e,h1,h2⟩,b,hb=>by
    subst e
    rcases List.mem_append.1 hb with hb | hb
    · exact Rp.lt h1 b hb
    · exact bY.lt h2 b hb
theorem bY.weak {w}:∀ {xs:List α}{cs fp},bY true w cs xs fp→bY false w cs xs fp
  | [],_,_,h=>h
  | _::_,_,_,⟨f1,f2,e,h1,h2⟩=>⟨f1,f2,e,Rp.weak h1,bY.weak h2⟩
theorem bY.cells {s w}:∀ {xs:List α}{cs fp},bY s w cs xs fp→xs.length*sz α≤cs.length
  | [],_,_,_=>by simp
  | _::_,_,_,⟨_,_,_,h1,h2⟩=>by
    have:=bY.cells h2
    have h3:=Rp.len h1
    simp only [List.length_take,List.length_drop,List.length_cons] at *
    rw [Nat.add_mul]
    omega
theorem bY.get {s w}:∀ {xs:List α}{cs fp},bY s w cs xs fp→∀ k (h:k<xs.length),∃ f,own s w ((cs.drop (k*sz α)).take (sz α)) xs[k] f∧(∀ b∈f,b∈fp)
  | [],_,_,_,k,h=>by simp at h
  | x::xs,cs,fp,⟨f1,f2,e,h1,h2⟩,0,_=>⟨f1,by simpa using h1,fun b hb=>by subst e; simp [hb]⟩
  | x::xs,cs,fp,⟨f1,f2,e,h1,h2⟩,k+1,h=>by
    obtain ⟨f,hf,hs⟩:=bY.get h2 k (by simpa using h)
    refine ⟨f,?_,fun b hb=>by subst e; simp [hs b hb]⟩
    rw [List.drop_drop] at hf
    rw [Nat.add_mul,Nat.one_mul,Nat.add_comm]
    simpa using hf
theorem bY.congr {s w}:∀ {xs:List α}{cs cs' fp},bY s w cs xs fp→cs'.take (xs.length*sz α)=cs.take (xs.length*sz α)→bY s w cs' xs fp
  | [],_,_,_,h,_=>h
  | x::xs,cs,cs',fp,⟨f1,f2,e,h1,h2⟩,hc=>by
    have hle:sz α≤(x::xs).length*sz α:=by rw [List.length_cons,Nat.add_mul]; omega
    have ht:cs'.take (sz α)=cs.take (sz α):=by
      have:=congrArg (List.take (sz α)) hc
      rwa [List.take_take,List.take_take,Nat.min_eq_left hle] at this
    refine ⟨f1,f2,e,by rw [ht]; exact h1,bY.congr h2 ?_⟩
    have:=congrArg (List.drop (sz α)) hc
    rw [List.drop_take,List.drop_take] at this
    rwa [show (x::xs).length*sz α-sz α=xs.length*sz α from by rw [List.length_cons,Nat.add_mul]; omega] at this
def Ia (s:Bool) (w:World) (cs:List Value) (xs:List α) (fp:List Nat):Prop:=
  (s=false∧∃ ad cap,cs=[.slice ad 0 cap]∧xs=[]∧fp=[])∨(cs=[.slice none 0 0]∧xs=[]∧fp=[]) ∨
  ∃ b o cap cur T fr fs,cs=[.slice (some ⟨b,o,none⟩) xs.length cap]∧fp=b::fs∧w.heap[b]? = some (.cells cur T fr)∧(s=true→fr=(0,0)) ∧
    xs.length≤cap∧cap≤maxLen∧o+cap*sz α≤cur.size∧bY s w (cur.toList.drop o) xs fs
instance:Rp (List α) where
  sz:=1
  pos:=by decide
  own s w cs xs fp:=Ia s w cs xs fp
  len h:=by rcases h with ⟨_,_,_,rfl,_⟩ | ⟨rfl,_⟩ | ⟨_,_,_,_,_,_,_,rfl,_⟩<;>rfl
  one h v hv:=by rcases h with ⟨_,_,_,rfl,_⟩ | ⟨rfl,_⟩ | ⟨_,_,_,_,_,_,_,rfl,_⟩<;>simp at hv<;>subst hv<;>rfl
  st h hb:=by
    rcases h with h | h | ⟨b,o,cap,cur,T,fr,fs,h1,h2,h3,h4,h5,h6,h7,h8⟩
    · exact .inl h
    · exact .inr (.inl h)
    · subst h2
      exact .inr (.inr ⟨b,o,cap,cur,T,fr,fs,h1,rfl,(hb b σ).trans h3,h4,h5,h6,h7,h8.st fun x hx=>hb x (by simp [hx])⟩)
  lt h b' hb':=by
    rcases h with ⟨_,_,_,_,_,rfl⟩ | ⟨_,_,rfl⟩ | ⟨b,o,cap,cur,T,fr,fs,h1,h2,h3,h4,h5,h6,h7,h8⟩
    · simp at hb'
    · simp at hb'
    · subst h2
      rcases List.mem_cons.1 hb' with rfl | hb'
      · exact (Array.getElem?_eq_some_iff.1 h3).1
      · exact h8.lt _ hb'
  weak h:=by
    rcases h with ⟨h,_⟩ | h | ⟨b,o,cap,cur,T,fr,fs,h1,h2,h3,h4,h5,h6,h7,h8⟩
    · cases h
    · exact .inr (.inl h)
    · exact .inr (.inr ⟨b,o,cap,cur,T,fr,fs,h1,h2,h3,(fun h=>by cases h),h5,h6,h7,h8.weak⟩)
theorem an {s w cs} {xs:List α}{fp} (h:own s w cs xs fp):∃ ad cap,cs=[.slice ad xs.length cap]:=by
  rcases h with ⟨_,ad,cap,rfl,rfl,_⟩ | ⟨rfl,rfl,_⟩ | ⟨b,o,cap,_,_,_,_,rfl,_⟩
  · exact ⟨_,_,rfl⟩
  · exact ⟨_,_,rfl⟩
  · exact ⟨_,_,rfl⟩
theorem ij {s w ad n cap} {xs:List α}{fp} (h:own s w [.slice ad n cap] xs fp) (k:Nat) (hk:k<xs.length) :
    ∃ b o cs f,ad=some ⟨b,o,none⟩∧At w b (o+k*sz α) cs∧own s w cs xs[k] f∧(∀ b∈f,b∈fp)∧b∈fp:=by
  rcases h with ⟨_,_,_,_,rfl,_⟩ | ⟨_,rfl,_⟩ | ⟨b,o,cap',cur,T,fr,fs,h1,h2,h3,h4,h5,h6,h7,h8⟩
  · simp at hk
  · simp at hk
  · simp only [List.cons.injEq,Value.slice.injEq,and_true] at h1
    obtain ⟨h1,_,_⟩:=h1
    subst h1; subst h2
    obtain ⟨f,hf,hs⟩:=h8.get k hk
    refine ⟨b,o,_,f,rfl,?_,hf,fun b hb=>by simp [hs b hb],σ⟩
    refine At.part h3 fun j v hj=>?_
    rw [List.getElem?_take] at hj
    split at hj
    · rw [List.getElem?_drop,List.getElem?_drop] at hj
      rw [← hj,Nat.add_assoc]
      simp
    · cases hj
theorem jN {s w ad n cap} {xs:List α}{fp} (h:own s w [.slice ad n cap] xs fp):xs.length≤maxLen:=by
  rcases h with ⟨_,_,_,_,rfl,_⟩ | ⟨_,rfl,_⟩ | ⟨b,o,cap',cur,T,fr,fs,h1,h2,h3,h4,h5,h6,h7,h8⟩
  · simp
  · simp
  · omega
end
theorem dG {s w cs} {x:Int}{fp} (h:own s w cs x fp):cs=[.int .i64 x]∧fp=[]∧I64ok x:=h
theorem di {s w ad n cap} {xs:List UInt8}{fp} (h:own s w [.slice ad n cap] xs fp) (k:Nat) (hk:k<xs.length) :
    ∃ b o,ad=some ⟨b,o,none⟩∧w.cell? ⟨b,o+k*1,none⟩=some (.int .u8 (xs.getD k 0).toNat):=by
  obtain ⟨b,o,cs,f,h1,h2,h3,_⟩:=ij h k hk
  rw [show xs.getD k 0=xs[k] from by simp [List.getD,hk]]
  exact ⟨b,o,h1,h2 0 (.int .u8 (xs[k]).toNat) (by rw [h3.1]; rfl)⟩
theorem ew {s w ad n cap} {xs:List Int}{fp} (h:own s w [.slice ad n cap] xs fp) (k:Nat) (hk:k<xs.length) :
    ∃ b o,ad=some ⟨b,o,none⟩∧w.cell? ⟨b,o+k*1,none⟩=some (.int .i64 (xs.getD k 0)):=by
  obtain ⟨b,o,cs,f,h1,h2,h3,_⟩:=ij h k hk
  rw [show xs.getD k 0=xs[k] from by simp [List.getD,hk]]
  exact ⟨b,o,h1,h2 0 (.int .i64 xs[k]) (by rw [h3.1]; rfl)⟩
section
variable {P:Program}{n:Nat}{L:Env}{w:World}{d:Option Tmp}{ty:TypeId}{p:String}{af:Array Edge}{g:Option (Nat × Bool)}
theorem aB {st e:TypeId}{x ix:Operand}{ad:Option Addr}{b o len cap sz:Nat}{kd:IntKind}{z:Int}(hu:P.underlying st=some (.slice e)) (hs:∀ w,(sizeOf e).run P w = .ok sz w)
    (hx:evL L x=some (.slice ad len cap)) (hi:evL L ix=some (.int kd z)) (had:ad=some ⟨b,o,none⟩) (k:Nat) (hz:z=k) (hk:k<len) :
    Py P n L w ⟨d,.indexAddr st x ix,ty,p,af,g⟩ (.pointer (some ⟨b,o+k*sz,none⟩)):=by
  subst had; subst hz; exact GP hu hs hx hi hk
end
end Go.Wk
namespace Go.Wk
open Rp (sz own)
structure Rsc where
  fp:List Nat
  φ:World→Prop
  st:∀ {w w':World},φ w→(∀ b∈fp,w'.heap[b]? = w.heap[b]?)→φ w'
  lt:∀ {w:World},φ w→∀ b∈fp,b<w.heap.size
def box (b:Nat) (o:Obj):Rsc:=⟨[b],fun w=>w.heap[b]? = some o,fun h k=>(k b σ).trans h,fun h x hx=>by
  simp at hx; subst hx; exact (Array.getElem?_eq_some_iff.1 h).1⟩
def mine {α:Type}[Rp α] (cs:List Value) (x:α) (fp:List Nat):Rsc:=⟨fp,fun w=>own true w cs x fp,fun h k=>Rp.st h k,fun h=>Rp.lt h⟩
def seen {α:Type}[Rp α] (s:Bool) (cs:List Value) (x:α) (fp:List Nat):Rsc:=⟨fp,fun w=>own s w cs x fp,fun h k=>Rp.st h k,fun h=>Rp.lt h⟩
def blocks:List Rsc→List Nat
  | []=>[]
  | r::Δ=>r.fp++blocks Δ
theorem bJ {b:Nat}:∀ {Δ:List Rsc},b∈blocks Δ↔∃ r∈Δ,b∈r.fp
  | []=>by simp [blocks]
  | r::Δ=>by simp [blocks,bJ (Δ:=Δ)]
theorem gm:∀ (Δ Γ:List Rsc),blocks (Δ++Γ)=blocks Δ++blocks Γ
  | [],_=>rfl
  | r::Δ,Γ=>by simp [blocks,gm Δ Γ]
structure Sep (M:Nat→Prop) (w0:World) (Δ F:List Rsc) (w:World):Prop where
  ext:Ext M w0 w
  rs:∀ r∈Δ,r.φ w
  nd:(blocks Δ).Nodup
  new:∀ b∈blocks Δ,M b∨w0.heap.size≤b
  fs:∀ r∈F,r.φ w
  ap:∀ r∈F,∀ b∈r.fp,b ∉ blocks Δ
section
variable {M:Nat→Prop}{w0 w w':World}{Δ F Γ:List Rsc}
theorem Sep.start {w:World}{F:List Rsc}(hf:∀ r∈F,r.φ w):Sep No w [] F w:=
  ⟨Ext.refl,σ,by simp [blocks],by simp [blocks],hf,by simp [blocks]⟩
theorem Sep.lt (h:Sep M w0 Δ F w):∀ b∈blocks Δ,b<w.heap.size:=fun b hb=>by
  obtain ⟨r,hr,hb⟩:=bJ.1 hb
  exact r.lt (h.rs r hr) b hb
theorem Sep.r (h:Sep M w0 Δ F w) (i:Nat) {r:Rsc}(hi:Δ[i]? = some r):r.φ w:=h.rs r (List.mem_of_getElem? hi)
theorem Sep.box (h:Sep M w0 Δ F w) (i:Nat) {b o} (hi:Δ[i]? = some (box b o)):w.heap[b]? = some o:=h.r i hi
theorem Sep.mine {α:Type}[Rp α] (h:Sep M w0 Δ F w) (i:Nat) {cs fp} {x:α}(hi:Δ[i]? = some (mine cs x fp)):own true w cs x fp:=h.r i hi
theorem Sep.seen {α:Type}[Rp α] (h:Sep M w0 Δ F w) (i:Nat) {s cs fp} {x:α}(hi:F[i]? = some (seen s cs x fp)):own s w cs x fp:=h.fs _ (List.mem_of_getElem? hi)
theorem Sep.to (h:Sep M w0 Δ F w) (e:Ext No w w'):Sep M w0 Δ F w':=
  ⟨h.ext.trans e.no,fun r hr=>r.st (h.rs r hr) fun b hb=>e.block b (r.lt (h.rs r hr) b hb) id,h.nd,h.new,
    fun r hr=>r.st (h.fs r hr) fun b hb=>e.block b (r.lt (h.fs r hr) b hb) id,h.ap⟩
theorem Sep.drawn (h:Sep M w0 Δ F w) (k:Nat):Sep M w0 Δ F { w with drawn:=k }:=h.to (Ext.refl.drawn k)
theorem pY {Δ Γ:List Rsc}(hs:Γ.Sublist Δ) (h:(blocks Δ).Nodup):(blocks Γ).Nodup:=by
  have:(blocks Γ).Sublist (blocks Δ):=by
    induction hs with
    | slnil=>exact .slnil
    | cons r _ ih=>exact (ih (by unfold blocks at h; exact (List.nodup_append.1 h).2.1)).trans (List.sublist_append_right _ _)
    | cons_cons r _ ih=>exact List.Sublist.append (.refl _) (ih (by unfold blocks at h; exact (List.nodup_append.1 h).2.1))
  exact h.sublist this
theorem Sep.sub (h:Sep M w0 Δ F w) (hs:Γ.Sublist Δ):Sep M w0 Γ F w:=by
  have hm:∀ b∈blocks Γ,b∈blocks Δ:=fun b hb=>by
    obtain ⟨r,hr,hb⟩:=bJ.1 hb
    exact bJ.2 ⟨r,hs.subset hr,hb⟩
  exact ⟨h.ext,fun r hr=>h.rs r (hs.subset hr),pY hs h.nd,fun b hb=>h.new b (hm b hb),h.fs,fun r hr b hb hx=>h.ap r hr b hb (hm b hx)⟩
theorem Sep.add (h:Sep M w0 Δ F w) (e:Ext No w w') {r:Rsc}(hr:r.φ w') (hn:r.fp.Nodup) (hf:∀ b∈r.fp,w.heap.size≤b):Sep M w0 (Δ++[r]) F w':=by
  have h':=h.to e
  have hlt:=h.lt
  have hb:blocks (Δ++[r])=blocks Δ++r.fp:=by rw [gm]; simp [blocks]
  refine ⟨h'.ext,fun q hq=>?_,?_,fun b hb'=>?_,h'.fs,fun q hq b hb' hx=>?_⟩
  · rcases List.mem_append.1 hq with hq | hq
    · exact h'.rs q hq
    · simp at hq; subst hq; exact hr
  · rw [hb]
    refine List.nodup_append.2 ⟨h.nd,hn,fun x hx y hy e=>?_⟩
    subst e
    have:=hlt x hx
    have:=hf x hy
    omega
  · rw [hb] at hb'
    rcases List.mem_append.1 hb' with hb' | hb'
    · exact h.new b hb'
    · have:=hf b hb'
      have:=h.ext.size
      exact .inr ω
  · rw [hb] at hx
    rcases List.mem_append.1 hx with hx | hx
    · exact h.ap q hq b hb' hx
    · have:=hf b hx
      have:=q.lt (h.fs q hq) b hb'
      omega
theorem Sep.alloc (h:Sep M w0 Δ F w) (o:Obj):Sep M w0 (Δ++[Wk.box w.heap.size o]) F (w.alloc o):=
  h.add (Ext.refl.alloc o) (r:=Wk.box w.heap.size o) (heap_alloc_new w o) (by simp [Wk.box]) (by simp [Wk.box])
theorem eX:∀ {Δ:List Rsc}{i:Nat}{r q:Rsc},Δ[i]? = some r→∀ b,b∈blocks (Δ.set i q)→b∈q.fp∨b∈blocks Δ
  | [],i,r,q,h,b,hb=>by simp at h
  | p::Δ,0,r,q,h,b,hb=>by
    simp only [List.set_cons_zero,blocks,List.mem_append] at hb ⊢
    rcases hb with hb | hb
    · exact .inl hb
    · exact .inr (.inr hb)
  | p::Δ,i+1,r,q,h,b,hb=>by
    simp only [List.set_cons_succ,blocks,List.mem_append] at hb ⊢
    rcases hb with hb | hb
    · exact .inr (.inl hb)
    · rcases eX (by simpa using h) b hb with hb | hb
      · exact .inl hb
      · exact .inr (.inr hb)
theorem jJ:∀ {Δ:List Rsc}{i:Nat}{r q:Rsc},Δ[i]? = some r→(blocks Δ).Nodup→q.fp.Nodup→(∀ b∈q.fp,b∈blocks Δ→b∈r.fp)→(blocks (Δ.set i q)).Nodup
  | [],i,r,q,h,_,_,_=>by simp at h
  | p::Δ,0,r,q,h,hn,hq,hd=>by
    simp only [List.getElem?_cons_zero,Option.some.injEq] at h
    subst h
    simp only [List.set_cons_zero,blocks] at hn ⊢
    obtain ⟨h1,h2,h3⟩:=List.nodup_append.1 hn
    refine List.nodup_append.2 ⟨hq,h2,fun x hx y hy e=>?_⟩
    subst e
    exact h3 x (hd x hx (by simp [blocks,hy])) x hy rfl
  | p::Δ,i+1,r,q,h,hn,hq,hd=>by
    simp only [List.set_cons_succ,blocks] at hn ⊢
    obtain ⟨h1,h2,h3⟩:=List.nodup_append.1 hn
    have hi:Δ[i]? = some r:=by simpa using h
    have hr:∀ b∈r.fp,b∈blocks Δ:=fun b hb=>bJ.2 ⟨r,List.mem_of_getElem? hi,hb⟩
    refine List.nodup_append.2 ⟨h1,jJ hi h2 hq fun b hb hb'=>hd b hb (by simp [blocks,hb']),fun x hx y hy e=>?_⟩
    subst e
    rcases eX hi x hy with hy | hy
    · exact h3 x hx x (hr x (hd x hy (by simp [blocks,hx]))) rfl
    · exact h3 x hx x hy rfl
theorem iD {Δ:List Rsc}{i:Nat}{r q:Rsc}(hi:Δ[i]? = some r) (hn:(blocks Δ).Nodup):∀ p∈Δ.set i q,p=q∨(p∈Δ∧∀ b∈p.fp,b ∉ r.fp):=by
  induction Δ generalizing i with
  | nil=>simp at hi
  | cons a Δ ih=>
    intro p hp
    unfold blocks at hn
    obtain ⟨h1,h2,h3⟩:=List.nodup_append.1 hn
    cases i with
    | zero=>
      simp at hi; subst hi
      simp only [List.set_cons_zero,List.mem_cons] at hp
      rcases hp with rfl | hp
      · exact .inl rfl
      · exact .inr ⟨by simp [hp],fun b hb hb'=>h3 b hb' b (bJ.2 ⟨p,hp,hb⟩) rfl⟩
    | succ i=>
      have hi':Δ[i]? = some r:=by simpa using hi
      simp only [List.set_cons_succ,List.mem_cons] at hp
      rcases hp with rfl | hp
      · exact .inr ⟨σ,fun b hb hb'=>h3 b hb b (bJ.2 ⟨r,List.mem_of_getElem? hi',hb'⟩) rfl⟩
      · rcases ih hi' h2 p hp with rfl | ⟨hp,hb⟩
        · exact .inl rfl
        · exact .inr ⟨by simp [hp],hb⟩
theorem Sep.set (h:Sep M w0 Δ F w) {i:Nat}{r q:Rsc}(hi:Δ[i]? = some r) (e:Ext (· ∈ r.fp) w w') (hq:q.φ w') (hn:q.fp.Nodup) (hf:∀ b∈q.fp,b∈r.fp∨w.heap.size≤b) :
    Sep M w0 (Δ.set i q) F w':=by
  have hr:∀ b∈r.fp,b∈blocks Δ:=fun b hb=>bJ.2 ⟨r,List.mem_of_getElem? hi,hb⟩
  have hlt:=h.lt
  refine ⟨h.ext.step e fun b hb=>h.new b (hr b hb),fun p hp=>?_,jJ hi h.nd hn fun b hb hb'=>?_,fun b hb=>?_,fun p hp=>?_,fun p hp b hb hx=>?_⟩
  · rcases iD hi h.nd p hp with rfl | ⟨hp,hd⟩
    · exact hq
    · exact p.st (h.rs p hp) fun b hb=>e.block b (p.lt (h.rs p hp) b hb) (hd b hb)
  · rcases hf b hb with hb | hb
    · exact hb
    · have:=hlt b hb'; omega
  · rcases eX hi b hb with hb | hb
    · rcases hf b hb with hb | hb
      · exact h.new b (hr b hb)
      · have:=h.ext.size; exact .inr ω
    · exact h.new b hb
  · exact p.st (h.fs p hp) fun b hb=>e.block b (p.lt (h.fs p hp) b hb) fun hx=>h.ap p hp b hb (hr b hx)
  · rcases eX hi b hx with hx | hx
    · rcases hf b hx with hx | hx
      · exact h.ap p hp b hb (hr b hx)
      · have:=p.lt (h.fs p hp) b hb; omega
    · exact h.ap p hp b hb hx
theorem Sep.put (h:Sep M w0 Δ F w) (i:Nat) {b o} (o':Obj) (hi:Δ[i]? = some (Wk.box b o)):Sep M w0 (Δ.set i (Wk.box b o')) F (put w b o'):=
  h.set hi (q:=Wk.box b o') (Ext.refl.put (M:=(· ∈ (Wk.box b o).fp)) (.inl (by simp [Wk.box]))) (jc (h.box i hi)) (by simp [Wk.box]) (by simp [Wk.box])
theorem Sep.perm (h:Sep M w0 Δ F w) (hp:Δ.Perm Γ):Sep M w0 Γ F w:=by
  have hm:∀ b,b∈blocks Γ→b∈blocks Δ:=fun b hb=>by
    obtain ⟨r,hr,hb⟩:=bJ.1 hb
    exact bJ.2 ⟨r,hp.mem_iff.2 hr,hb⟩
  have hb:(blocks Δ).Perm (blocks Γ):=by
    have:∀ Δ:List Rsc,blocks Δ=Δ.flatMap (·.fp):=fun Δ=>by
      induction Δ with
      | nil=>rfl
      | cons r Δ ih=>simp [blocks,ih]
    rw [this,this]
    exact hp.flatMap_right _
  exact ⟨h.ext,fun r hr=>h.rs r (hp.mem_iff.2 hr),hb.nodup_iff.1 h.nd,fun b hx=>h.new b (hm b hx),h.fs,fun r hr b hx hy=>h.ap r hr b hx (hm b hy)⟩
end
def Res {α:Type}[Rp α] (w w':World) (cs:List Value) (x:α):Prop:=∃ fp,own true w' cs x fp∧fp.Nodup∧∀ b∈fp,w.heap.size≤b
theorem Sep.res {α:Type}[Rp α] {M w0 Δ F} {w w':World}{cs:List Value}{x:α}(h:Sep M w0 Δ F w) (e:Ext No w w') (hr:Res w w' cs x):∃ fp,Sep M w0 (Δ++[Wk.mine cs x fp]) F w':=by
  obtain ⟨fp,h1,h2,h3⟩:=hr
  exact ⟨fp,h.add e (r:=Wk.mine cs x fp) h1 h2 h3⟩
theorem Sep.out {α:Type}[Rp α] {w0 Δ F} {w:World}{cs:List Value}{x:α}{fp} (h:Sep No w0 Δ F w) (i:Nat) (hi:Δ[i]? = some (Wk.mine cs x fp)):Res w0 w cs x:=by
  have hm:=List.mem_of_getElem? hi
  refine ⟨fp,h.mine i hi,?_,fun b hb=>?_⟩
  · have:[Wk.mine cs x fp].Sublist Δ:=List.singleton_sublist.2 hm
    simpa [blocks,Wk.mine] using pY this h.nd
  · exact (h.new b (bJ.2 ⟨_,hm,hb⟩)).resolve_left id
end Go.Wk
namespace Go.Wk
section
variable {w:World}{F:List Rsc}
theorem ab {α:Type}[Rp α] {s:Bool}{cs:List Value}{x:α}{fp:List Nat}(h:Rp.own s w cs x fp) (k:∀ r∈F,r.φ w):∀ r∈seen s cs x fp::F,r.φ w:=fun r hr=>(List.mem_cons.1 hr).elim (fun e=>e ▸ h) (k r)
theorem bX {b:Nat}{o:Obj}(h:w.heap[b]? = some o) (k:∀ r∈F,r.φ w):∀ r∈box b o::F,r.φ w:=fun r hr=>(List.mem_cons.1 hr).elim (fun e=>e ▸ h) (k r)
theorem aA:∀ r∈([]:List Rsc),r.φ w:=fun _ h=>by cases h
end
end Go.Wk
namespace Go.Wk
open Rp (sz own)
structure Ty (P:Program) (e:TypeId) (z:Value) (size bytes:Nat):Prop where
  h:(P.info? e).map (fun i=>(i.zero,i.size,i.bytes))=some (some z,size,bytes)
theorem Ty.parts {P e z size bytes} (t:Ty P e z size bytes):∃ i,P.info? e=some i∧i.zero=some z∧i.size=size∧i.bytes=bytes:=by
  have h:=t.h
  cases hi:P.info? e with
  | none=>rw [hi] at h; cases h
  | some i=>rw [hi] at h; simp at h; exact ⟨i,rfl,h.1,h.2.1,h.2.2⟩
theorem Ty.size {P e z size bytes} (t:Ty P e z size bytes) (w:World):(sizeOf e).run P w = .ok size w:=by
  obtain ⟨i,h1,h2,h3,h4⟩:=t.parts
  simp [sizeOf,typeInfo,h1,h3]
section
variable {α:Type}[Rp α] {P:Program}
theorem tM {w:World}{b o:Nat}{cur:Array Value}{T fr} (hb:w.heap[b]? = some (.cells cur T fr)) (m:Nat):At w b o ((cur.toList.drop o).take m):=fun j v hj=>by
  refine kr hb ?_
  rw [List.getElem?_take] at hj
  split at hj
  · rw [List.getElem?_drop] at hj; simpa using hj
  · cases hj
theorem vE {w:World}{b o:Nat}{cs:List Value}(h:At w b o cs):∀ j v,cs[j]? = some v→w.cell? ((⟨b,o,none⟩:Addr).add j)=some v:=fun j v hj=>by
  rw [kB]; exact h j v hj
theorem l8:∀ (vs:List Value) (c:Array Value) (o:Nat),o+vs.length≤c.size→(lay c o vs).toList=c.toList.take o++vs++c.toList.drop (o+vs.length)
  | [],c,o,_=>by simp [lay]
  | v::vs,c,o,h=>by
    have ho:o<c.toList.length:=by simp at h ⊢; omega
    rw [lay,l8 vs _ _ (by simp at h ⊢; omega)]
    simp only [Array.toList_setIfInBounds,List.length_cons]
    rw [List.set_eq_take_append_cons_drop,if_pos ho]
    have h1:(c.toList.take o).length=o:=by rw [List.length_take]; omega
    rw [List.take_append,List.drop_append,h1]
    simp only [Nat.add_sub_cancel_left,List.take_succ_cons,List.take_zero,show o+1+vs.length-o=vs.length+1 from by omega,List.drop_succ_cons,List.drop_drop]
    rw [List.take_of_length_le (by rw [h1]; omega),List.drop_of_length_le (by rw [h1]; omega)]
    simp [Nat.add_assoc,Nat.add_comm 1]
theorem bY.append {s:Bool}{w:World}:∀ {xs:List α}{cs fx ds fy} {ys:List α},bY s w cs xs fx→cs.length=xs.length*sz α→bY s w ds ys fy→bY s w (cs++ds) (xs++ys) (fx++fy)
  | [],cs,fx,ds,fy,ys,hc,hlc,hy=>by
    have:cs=[]:=List.eq_nil_of_length_eq_zero (by simpa using hlc)
    subst this
    have hfx:fx=[]:=hc
    subst hfx
    simpa using hy
  | x::xs,cs,fx,ds,fy,ys,⟨f1,f2,e1,hc1,hc2⟩,hlc,hy=>by
    subst e1
    have hle:sz α≤cs.length:=by rw [hlc,List.length_cons,Nat.add_mul]; omega
    refine ⟨f1,f2++fy,σ,?_,?_⟩
    · rw [List.take_append_of_le_length hle]; exact hc1
    · rw [List.drop_append_of_le_length hle]
      exact bY.append hc2 (by rw [List.length_drop,hlc,List.length_cons,Nat.add_mul]; omega) hy
theorem jU {w:World}{t ty e:TypeId}{z:Value}{bytes:Nat}(ht:P.underlying t=some (.slice e)) (hT:Ty P e z (sz α) bytes) (hz:z.cells.size=sz α)
    {v:Value}{xs ys:List α}{fp:List Nat}(h:own true w [v] xs fp) {b2 o2 m c2:Nat}{news:List Value}(hl:news.length=m*sz α) (hm:m=ys.length) (hat:At w b2 o2 news)
    (h1:∀ u∈news,u.oneCell'=true) {fy:List Nat}(hy:bY true w news ys fy) (hfy:∀ b∈fy,b ∉ fp) (n1:fp.Nodup) (n2:fy.Nodup) (hm0:0<m)
    (h63:xs.length+m≤maxLen) (hb48:(xs.length+m)*bytes≤140737488355328) :
    ∃ v' w' fp',(Builtin.append_ #[t,t] ty #[v,.slice (some ⟨b2,o2,none⟩) m c2]).run P w = .ok v' w'∧own true w' [v'] (xs++ys) fp'∧Ext (· ∈ fp) w w' ∧
      (∀ b∈fp',b∈fp∨b∈fy∨w.heap.size≤b)∧fp'.Nodup:=by
  obtain ⟨i,hi1,hi2,hi3,hi4⟩:=hT.parts
  have hsmall:xs.length+m≤9223372036854775807:=by simp only [maxLen] at h63; omega
  have hsz:=Rp.pos (α:=α)
  subst hm
  have grown:∀ (old:Nat) (olds:List Value) (fs:List Nat),olds.length=xs.length*sz α→bY true w olds xs fs→(∀ b∈fs,b∈fp)→fs.Nodup→∀ w',w'= w.drew.alloc (.cells (olds.toArray++news.toArray++Builtin.zeroCells z.cells (grownCap w (xs.length+ys.length) old e-(xs.length+ys.length))) e) →
      ∃ fp',own true w' [.slice (some ⟨w.heap.size,0,none⟩) (xs.length+ys.length) (grownCap w (xs.length+ys.length) old e)] (xs++ys) fp'∧Ext (· ∈ fp) w w' ∧
      (∀ b∈fp',b∈fp∨b∈fy∨w.heap.size≤b)∧fp'.Nodup:=by
    intro old olds fs hlo hox hfs hnd w' hw'
    have hE:Ext No w w':=by subst hw'; exact (Ext.refl.drawn _).alloc _
    have hge:=grownCap_ge w (xs.length+ys.length) old e
    have hcm:grownCap w (xs.length+ys.length) old e≤maxLen:=grownCap_le_maxLen w (xs.length+ys.length) old e h63
    refine ⟨w.heap.size::(fs++fy),.inr (.inr ⟨w.heap.size,0,_,_,e,(0,0),fs++fy,σ,rfl,by subst hw'; exact heap_alloc_new w.drew _,fun _=>rfl,by simpa using hge,hcm,?_,?_⟩),hE.no,fun b hb=>?_,?_⟩
    · simp only [Array.size_append,List.size_toArray,size_zeroCells,hz,hlo,hl,← Nat.add_mul,Nat.zero_add]
      exact Nat.le_of_eq (by congr 1; omega)
    · have:=(hox.append hlo hy).st (w':=w') fun b hb=>hE.block b (by
        rcases List.mem_append.1 hb with hb | hb
        · exact hox.lt b hb
        · exact hy.lt b hb) id
      refine this.congr ?_
      have hlen:(xs++ys).length*sz α=(olds++news).length:=by rw [List.length_append,List.length_append,Nat.add_mul,hlo,hl]
      rw [hlen]
      simp only [List.drop_zero,Array.toList_append]
      rw [List.take_length,List.take_left' rfl]
    · simp only [List.mem_cons,List.mem_append] at hb
      rcases hb with rfl | hb | hb
      · exact .inr (.inr (Nat.le_refl _))
      · exact .inl (hfs b hb)
      · exact .inr (.inl hb)
    · refine List.nodup_cons.2 ⟨fun hx=>?_,List.nodup_append.2 ⟨hnd,n2,fun x hx y hy' e'=>?_⟩⟩
      · rcases List.mem_append.1 hx with hx | hx
        · have:=Rp.lt h _ (hfs _ hx); omega
        · have:=hy.lt _ hx; omega
      · subst e'; exact hfy x hy' (hfs x hx)
  rcases h with ⟨hf,_⟩ | ⟨hv,rfl,rfl⟩ | ⟨b,o,cap,cur,T,fr,fs,hv,hfp,hb,hfr,hc,hcm,hcs,hown⟩
  · cases hf
  · simp at hv; subst hv
    have hr:=run_append_nil (P:=P) w t ty e i z ht hi1 hi2 ⟨b2,o2,none⟩ ys.length c2 news (by rw [hi3]; exact hl) (vE hat) hm0 (by simp at hsmall; omega) (by rw [hi4]; simp at hb48; omega)
    obtain ⟨fp',g1,g2,g3,g4⟩:=grown 0 [] [] σ rfl σ .nil _ rfl
    simp only [List.length_nil,Nat.zero_add,List.nil_append] at g1 g2 hr ⊢
    refine ⟨_,_,fp',hr,?_,?_,g3,g4⟩
    · simpa using g1
    · simpa using g2
  · simp at hv; subst hv
    have hfr':=hfr rfl
    subst hfr'
    have hcells:=hown.cells
    have hxl:xs.length*sz α≤cap*sz α:=Nat.mul_le_mul_right _ hc
    by_cases hroom:xs.length+ys.length≤cap
    ·
      have hfit:o+xs.length*sz α+news.length≤cur.size:=by
        have:(xs.length+ys.length)*sz α≤cap*sz α:=Nat.mul_le_mul_right _ hroom
        rw [Nat.add_mul] at this
        rw [hl]; omega
      have hst:=jO (P:=P) news w (o+xs.length*sz α) 0 cur hb h1 (by simpa using hfit)
      have hld:(loadCells ⟨b2,o2,none⟩ (ys.length*sz α)).run P w = .ok news.toArray w:=by
        have:=hP (P:=P) news b2 o2 0 #[] (by simpa using hat)
        rw [hl] at this
        simpa [loadCells] using this
      refine ⟨.slice (some ⟨b,o,none⟩) (xs.length+ys.length) cap,put w b (.cells (lay cur (o+xs.length*sz α) news) T (0,0)),b::(fs++fy),?_,.inr (.inr ⟨b,o,cap,_,T,(0,0),fs++fy,σ,rfl,jc hb,fun _=>rfl,by simpa using hroom,hcm,by rw [pc]; exact hcs,?_⟩),?_,fun b' hb'=>?_,?_⟩
      · simp [Builtin.append_,run_underlying ht,sizeOf,typeInfo,hi1,hi3,Builtin.lenOf,hroom,Builtin.firstCells,hld,kB]
        simp only [Nat.add_zero] at hst
        rw [hst]
        rfl
      · have hEp:Ext (· = b) w (put w b (.cells (lay cur (o+xs.length*sz α) news) T (0,0))):=Ext.refl.put (.inl rfl)
        have hlo:((cur.toList.drop o).take (xs.length*sz α)).length=xs.length*sz α:=by
          rw [List.length_take,List.length_drop]
          have:cur.toList.length=cur.size:=by simp
          omega
        have h2:=(hown.congr (cs':=(cur.toList.drop o).take (xs.length*sz α)) (by rw [List.take_take,Nat.min_self])).append hlo hy
        have h3:=h2.st (w':=put w b (.cells (lay cur (o+xs.length*sz α) news) T (0,0))) fun b' hb'=>hEp.block b' (h2.lt b' hb') fun e=>by
          subst e; subst hfp
          rcases List.mem_append.1 hb' with hb' | hb'
          · exact (List.nodup_cons.1 n1).1 hb'
          · exact hfy b' hb' σ
        refine h3.congr ?_
        have hlen:(xs++ys).length*sz α=((cur.toList.drop o).take (xs.length*sz α)++news).length:=by rw [List.length_append,List.length_append,Nat.add_mul,hlo,hl]
        rw [hlen,List.take_length,l8 _ _ _ hfit,List.append_assoc,List.drop_append]
        have h5:(cur.toList.take (o+xs.length*sz α)).length=o+xs.length*sz α:=by
          rw [List.length_take]
          have:cur.toList.length=cur.size:=by simp
          omega
        rw [h5,List.drop_take,show o+xs.length*sz α-o=xs.length*sz α from by omega,show o-(o+xs.length*sz α)=0 from by omega,List.drop_zero,← List.append_assoc,List.take_left' rfl]
      · exact Ext.refl.put (.inl (by subst hfp; simp))
      · subst hfp
        simp only [List.mem_cons,List.mem_append] at hb' ⊢
        rcases hb' with rfl | hb' | hb'
        · exact .inl (.inl rfl)
        · exact .inl (.inr hb')
        · exact .inr (.inl hb')
      · subst hfp
        obtain ⟨n3,n4⟩:=List.nodup_cons.1 n1
        refine List.nodup_cons.2 ⟨fun hx=>?_,List.nodup_append.2 ⟨n4,n2,fun x hx y hy' e'=>?_⟩⟩
        · rcases List.mem_append.1 hx with hx | hx
          · exact n3 hx
          · exact hfy b hx σ
        · subst e'; exact hfy x hy' (by simp [hx])
    · have hg:cap<xs.length+ys.length:=by omega
      have holds:=tM hb (o:=o) (xs.length*sz α)
      have hlo:((cur.toList.drop o).take (xs.length*sz α)).length=xs.length*sz α:=by
        rw [List.length_take,List.length_drop]
        have:cur.toList.length=cur.size:=by simp
        omega
      have hr:=run_append_grow (P:=P) w t ty e i z ht hi1 hi2 ⟨b,o,none⟩ xs.length cap _ (by rw [hi3]; exact hlo) (vE holds) ⟨b2,o2,none⟩ ys.length c2 news (by rw [hi3]; exact hl) (vE hat) hg ω (by rw [hi4]; exact growslice_fits hg hb48)
      obtain ⟨fp',g1,g2,g3,g4⟩:=grown cap _ fs hlo (hown.congr (by rw [List.take_take,Nat.min_self])) (fun b hb=>by subst hfp; simp [hb]) (by subst hfp; exact (List.nodup_cons.1 n1).2) _ rfl
      exact ⟨_,_,fp',hr,g1,g2,g3,g4⟩
theorem bY.one {s:Bool}{w:World}{cs:List Value}{x:α}{fp} (h:own s w cs x fp):bY s w cs [x] fp:=by
  refine ⟨fp,[],σ,?_,rfl⟩
  rw [← Rp.len h,List.take_length]; exact h
end
def gone:Rsc:=⟨[],fun _=>True,fun _ _=>trivial,fun _ b hb=>by simp at hb⟩
section
variable {M:Nat→Prop}{w0 w w':World}{Δ F:List Rsc}
theorem iX:∀ {Δ:List Rsc}{j:Nat}{p:Rsc},Δ[j]? = some p→(blocks Δ).Nodup→∀ b∈p.fp,b ∉ blocks (Δ.set j gone)
  | [],j,p,h,_,_,_=>by simp at h
  | a::Δ,0,p,h,hn,b,hb=>by
    simp only [List.getElem?_cons_zero,Option.some.injEq] at h
    subst h
    simp only [List.set_cons_zero,blocks,gone,List.nil_append] at hn ⊢
    exact fun hx=>(List.nodup_append.1 hn).2.2 b hb b hx rfl
  | a::Δ,j+1,p,h,hn,b,hb=>by
    simp only [List.set_cons_succ,blocks] at hn ⊢
    obtain ⟨h1,h2,h3⟩:=List.nodup_append.1 hn
    have hj:Δ[j]? = some p:=by simpa using h
    intro hx
    rcases List.mem_append.1 hx with hx | hx
    · exact h3 b hx b (bJ.2 ⟨p,List.mem_of_getElem? hj,hb⟩) rfl
    · exact iX hj h2 b hb hx
theorem Sep.set2 (h:Sep M w0 Δ F w) {i j:Nat}{r p q:Rsc}(hi:Δ[i]? = some r) (hj:Δ[j]? = some p) (hij:Nat.beq j i=false) (e:Ext (· ∈ r.fp) w w') (hq:q.φ w') (hn:q.fp.Nodup)
    (hf:∀ b∈q.fp,b∈r.fp∨b∈p.fp∨w.heap.size≤b):Sep M w0 ((Δ.set j gone).set i q) F w':=by
  have hne:j≠i:=fun e=>by subst e; simp at hij
  have hp:∀ b∈p.fp,b∈blocks Δ:=fun b hb=>bJ.2 ⟨p,List.mem_of_getElem? hj,hb⟩
  have hr:∀ b∈r.fp,b∈blocks Δ:=fun b hb=>bJ.2 ⟨r,List.mem_of_getElem? hi,hb⟩
  have hi':(Δ.set j gone)[i]? = some r:=by rw [List.getElem?_set_ne hne]; exact hi
  have hg:∀ b∈blocks (Δ.set j gone),b∈blocks Δ:=fun b hb=>by
    rcases eX hj b hb with hb | hb
    · simp [gone] at hb
    · exact hb
  have hnj:(blocks (Δ.set j gone)).Nodup:=jJ hj h.nd (by simp [gone]) (by simp [gone])
  have hlt:=h.lt
  have hnd:(blocks ((Δ.set j gone).set i q)).Nodup:=jJ hi' hnj hn fun b hb hb'=>by
    rcases hf b hb with hb | hb | hb
    · exact hb
    · exact absurd hb' (iX hj h.nd b hb)
    · have:=hlt b (hg b hb'); omega
  have hall:∀ b∈blocks ((Δ.set j gone).set i q),b∈blocks Δ∨w.heap.size≤b:=fun b hb=>by
    rcases eX hi' b hb with hb | hb
    · rcases hf b hb with hb | hb | hb
      · exact .inl (hr b hb)
      · exact .inl (hp b hb)
      · exact .inr hb
    · exact .inl (hg b hb)
  refine ⟨h.ext.step e fun b hb=>h.new b (hr b hb),fun x hx=>?_,hnd,fun b hb=>?_,fun x hx=>?_,fun x hx b hb hy=>?_⟩
  · rcases iD hi' hnj x hx with rfl | ⟨hx,hd⟩
    · exact hq
    · rcases iD hj h.nd x hx with rfl | ⟨hx,_⟩
      · trivial
      · exact x.st (h.rs x hx) fun b hb=>e.block b (x.lt (h.rs x hx) b hb) (hd b hb)
  · rcases hall b hb with hb | hb
    · exact h.new b hb
    · have:=h.ext.size; exact .inr ω
  · exact x.st (h.fs x hx) fun b hb=>e.block b (x.lt (h.fs x hx) b hb) fun hy=>h.ap x hx b hb (hr b hy)
  · rcases hall b hy with hy | hy
    · exact h.ap x hx b hb hy
    · have:=x.lt (h.fs x hx) b hb; omega
theorem Sep.nodup1 (h:Sep M w0 Δ F w) {i:Nat}{r:Rsc}(hi:Δ[i]? = some r):r.fp.Nodup:=by
  have:[r].Sublist Δ:=List.singleton_sublist.2 (List.mem_of_getElem? hi)
  simpa [blocks] using pY this h.nd
theorem Sep.apart {i j:Nat}{r p:Rsc}(h:Sep M w0 Δ F w) (hi:Δ[i]? = some r) (hj:Δ[j]? = some p) (hij:Nat.beq j i=false):∀ b∈p.fp,b ∉ r.fp:=fun b hb hr=>by
  have hne:j≠i:=fun e=>by subst e; simp at hij
  have hi':(Δ.set j gone)[i]? = some r:=by rw [List.getElem?_set_ne hne]; exact hi
  exact iX hj h.nd b hb (bJ.2 ⟨r,List.mem_of_getElem? hi',hr⟩)
variable {α:Type}[Rp α] {P:Program}{t ty e:TypeId}{z:Value}{bytes:Nat}
theorem Sep.app1 (h:Sep M w0 Δ F w) (i:Nat) {v:Value}{xs:List α}{fp} (hi:Δ[i]? = some (Wk.mine [v] xs fp)) (ht:P.underlying t=some (.slice e)) (hT:Ty P e z (sz α) bytes) (hz:z.cells.size=sz α)
    {b2 c2:Nat}{cs:List Value}{y:α}(hat:At w b2 0 cs) (hy:own true w cs y []) (h63:xs.length+1≤maxLen) (hb48:(xs.length+1)*bytes≤140737488355328) :
    ∃ v' w' fp',(Builtin.append_ #[t,t] ty #[v,.slice (some ⟨b2,0,none⟩) 1 c2]).run P w = .ok v' w'∧Sep M w0 (Δ.set i (Wk.mine [v'] (xs++[y]) fp')) F w':=by
  obtain ⟨v',w',fp',h1,h2,h3,h4,h5⟩:=jU (ty:=ty) ht hT hz (h.mine i hi) (ys:=[y]) (c2:=c2) (m:=1) (by rw [Rp.len hy]; simp) rfl hat (Rp.one hy) (.one hy) σ (h.nodup1 hi) .nil ω h63 hb48
  exact ⟨v',w',fp',h1,h.set hi (q:=Wk.mine [v'] (xs++[y]) fp') h3 h2 h5 fun b hb=>by rcases h4 b hb with h | h | h; exact .inl h; simp at h; exact .inr h⟩
theorem Sep.app2 (h:Sep M w0 Δ F w) (i j:Nat) {v:Value}{xs:List α}{fp} (hi:Δ[i]? = some (Wk.mine [v] xs fp)) (ht:P.underlying t=some (.slice e)) (hT:Ty P e z (sz α) bytes) (hz:z.cells.size=sz α)
    {b2 c2:Nat}{cs:List Value}{y:α}{fy} (hj:Δ[j]? = some (Wk.mine cs y fy)) (hij:Nat.beq j i=false) (hat:At w b2 0 cs) (h63:xs.length+1≤maxLen) (hb48:(xs.length+1)*bytes≤140737488355328) :
    ∃ v' w' fp',(Builtin.append_ #[t,t] ty #[v,.slice (some ⟨b2,0,none⟩) 1 c2]).run P w = .ok v' w'∧Sep M w0 ((Δ.set j gone).set i (Wk.mine [v'] (xs++[y]) fp')) F w':=by
  have hy:=h.mine j hj
  obtain ⟨v',w',fp',h1,h2,h3,h4,h5⟩:=jU (ty:=ty) ht hT hz (h.mine i hi) (ys:=[y]) (c2:=c2) (m:=1) (by rw [Rp.len hy]; simp) rfl hat (Rp.one hy) (.one hy) (h.apart hi hj hij) (h.nodup1 hi) (h.nodup1 hj) ω h63 hb48
  exact ⟨v',w',fp',h1,h.set2 hi hj hij (q:=Wk.mine [v'] (xs++[y]) fp') h3 h2 h5 h4⟩
end
section
variable {P:Program}{n:Nat}{L:Env}{w w':World}{d:Option Tmp}{ty:TypeId}{p:String}{af:Array Edge}{g:Option (Nat × Bool)}
theorem qy {x y:Operand}{t t2:TypeId}{v u v':Value}(hx:evL L x=some v) (hy:evL L y=some u) (hr:(Builtin.append_ #[t,t2] ty #[v,u]).run P w = .ok v' w') :
    Pn P n L w ⟨d,.call ⟨.builtin .append,#[x,y],#[t,t2]⟩,ty,p,af,g⟩ v' w':=fun a ha=>by
  simp [execOp,resolve,invoke,builtin,ha.eval hx,ha.eval hy,hr]
theorem Bj {t e:TypeId}{x:Operand}{z:Value}{size bytes m:Nat}(ht:P.underlying t=some (.slice e)) (hT:Ty P e z size bytes) (hx:evL L x=some (.int .i64 m)) (h48:bytes*m≤281474976710656) (h63:m≤maxLen) :
    Pn P n L w ⟨d,.makeSlice t x x,ty,p,af,g⟩ (.slice (some ⟨w.heap.size,0,none⟩) m m) (w.alloc (.cells (madeCells z.cells (m*size)) e)):=fun a ha=>by
  obtain ⟨i,hi1,hi2,hi3,hi4⟩:=hT.parts
  have h63':(m:Int)≤9223372036854775807:=by unfold maxLen at h63; omega
  have hb':(i.bytes:Int)*(m:Int)≤281474976710656:=by
    have h:((i.bytes*m:Nat):Int)≤281474976710656:=by rw [hi4]; omega
    rwa [Int.natCast_mul] at h
  have hr:=run_make (P:=P) w t e i z ht hi1 hi2 .i64 .i64 m m ω (Int.le_refl _) hb' h63'
  simp only [Int.toNat_natCast,hi3] at hr
  simp [execOp,ha.eval hx,hr]
section
variable {α:Type}[Rp α]
theorem bY.of_get {s:Bool}{w:World}:∀ {xs:List α}{cs:List Value},(∀ k (h:k<xs.length),own s w ((cs.drop (k*sz α)).take (sz α)) xs[k] [])→bY s w cs xs []
  | [],_,_=>rfl
  | x :: xs,cs,h=>⟨[],[],rfl,by have:=h 0 σ; simp only [Nat.zero_mul,List.drop_zero,List.getElem_cons_zero] at this; exact this,bY.of_get fun k hk=>by
      have:=h (k+1) (by simpa using hk)
      rw [List.drop_drop]
      rw [Nat.add_mul,Nat.one_mul,Nat.add_comm] at this
      simpa using this⟩
theorem BI (z:Array Value) (m k:Nat) (hk:k<m):((madeCells z (m*z.size)).toList.drop (k*z.size)).take z.size=z.toList:=by
  have hle:(k+1)*z.size≤m*z.size:=Nat.mul_le_mul_right _ hk
  rw [Nat.add_mul,Nat.one_mul] at hle
  apply List.ext_getElem?
  intro j
  rw [List.getElem?_take]
  split
  · rename_i hj
    have h1:k*z.size+j<m*z.size:=by omega
    rw [List.getElem?_drop]
    have h2:(k*z.size+j) % z.size=j:=by rw [Nat.add_comm,Nat.add_mul_mod_self_right,Nat.mod_eq_of_lt hj]
    simp [madeCells,h1,h2,hj]
  · rename_i hj
    rw [List.getElem?_eq_none (by simpa using hj)]
theorem EG {w:World}{z:Value}{x:α}{e:TypeId}{m:Nat}(hz:∀ w,own true w z.cells.toList x []) (h63:m≤maxLen) :
    own true (w.alloc (.cells (madeCells z.cells (m*sz α)) e)) [.slice (some ⟨w.heap.size,0,none⟩) m m] (List.replicate m x) [w.heap.size]:=by
  have hs:z.cells.size=sz α:=by simpa using Rp.len (hz w)
  refine .inr (.inr ⟨w.heap.size,0,m,_,e,(0,0),[],σ,rfl,heap_alloc_new _ _,fun _=>rfl,σ,h63,by rw [size_madeCells]; simp,?_⟩)
  rw [List.drop_zero]
  refine bY.of_get fun k hk=>?_
  rw [List.getElem_replicate]
  have hk':k<m:=by simpa using hk
  rw [← hs,BI z.cells m k hk']
  exact hz _
theorem Sep.made {M:Nat→Prop}{w0 w:World}{Δ F:List Rsc}(h:Sep M w0 Δ F w) {z:Value}{x:α}{e:TypeId}{m:Nat}(hz:∀ w,own true w z.cells.toList x []) (h63:m≤maxLen) :
    Sep M w0 (Δ++[Wk.mine [.slice (some ⟨w.heap.size,0,none⟩) m m] (List.replicate m x) [w.heap.size]]) F (w.alloc (.cells (madeCells z.cells (m*sz α)) e)):=
  h.add (Ext.refl.alloc _) (r:=Wk.mine [.slice (some ⟨w.heap.size,0,none⟩) m m] (List.replicate m x) [w.heap.size]) (EG hz h63) (by simp [Wk.mine]) (by simp [Wk.mine])
theorem bY.zoom {w:World}:∀ {xs:List α}{cs:List Value}{fp:List Nat}{k:Nat},bY true w cs xs fp→∀ hk:k<xs.length,
    ∃ f1 fk f2,fp=f1++(fk++f2)∧own true w ((cs.drop (k*sz α)).take (sz α)) xs[k] fk ∧
      ∀ w' cs' x' fk',cs'.take (k*sz α)=cs.take (k*sz α)→cs'.drop ((k+1)*sz α)=cs.drop ((k+1)*sz α)→(∀ b∈f1,w'.heap[b]? = w.heap[b]?)→(∀ b∈f2,w'.heap[b]? = w.heap[b]?) →
        own true w' ((cs'.drop (k*sz α)).take (sz α)) x' fk'→bY true w' cs' (xs.set k x') (f1++(fk'++f2))
  | [],_,_,k,_,hk=>by simp at hk
  | y::xs,cs,fp,0,⟨f1,f2,e1,h1,h2⟩,_=>by
    refine ⟨[],f1,f2,by simpa using e1,by simpa using h1,fun w' cs' x' fk' _ hd _ hb hx=>?_⟩
    refine ⟨fk',f2,σ,by simpa using hx,?_⟩
    have:cs'.drop (sz α)=cs.drop (sz α):=by simpa using hd
    rw [this]
    exact h2.st hb
  | y::xs,cs,fp,k+1,⟨f1,f2,e1,h1,h2⟩,hk=>by
    obtain ⟨g1,gk,g2,e2,h3,h4⟩:=bY.zoom (k:=k) h2 (by simpa using hk)
    have hle:sz α≤(k+1)*sz α:=by rw [Nat.add_mul]; omega
    have hdd:∀ l:List Value,(l.drop (sz α)).drop (k*sz α)=l.drop ((k+1)*sz α):=fun l=>by rw [List.drop_drop,Nat.add_mul,Nat.one_mul,Nat.add_comm]
    refine ⟨f1++g1,gk,g2,by rw [e1,e2]; simp,by rw [hdd] at h3; simpa using h3,fun w' cs' x' fk' ht hd hb1 hb2 hx=>?_⟩
    refine ⟨f1,g1++(fk'++g2),σ,?_,h4 w' (cs'.drop (sz α)) x' fk' ?_ ?_ (fun b hb=>hb1 b (by simp [hb])) hb2 (by rw [hdd]; exact hx)⟩
    · have ht1:cs'.take (sz α)=cs.take (sz α):=by
        have:=congrArg (List.take (sz α)) ht
        rwa [List.take_take,List.take_take,Nat.min_eq_left hle] at this
      rw [ht1]
      exact Rp.st h1 fun b hb=>hb1 b (by simp [hb])
    · have:=congrArg (List.drop (sz α)) ht
      rw [List.drop_take,List.drop_take] at this
      rwa [show (k+1)*sz α-sz α=k*sz α from by rw [Nat.add_mul]; omega] at this
    · rw [List.drop_drop,List.drop_drop]
      rwa [show (k+1+1)*sz α=sz α+(k+1)*sz α from by rw [Nat.add_mul (k+1)]; omega] at hd
theorem pt {w:World}{ad n cap} {xs:List α}{fp:List Nat}(h:own true w [.slice ad n cap] xs fp) (k:Nat) (hk:k<xs.length) :
    ∃ b o cur T f1 fk f2,ad=some ⟨b,o,none⟩∧fp=b::(f1++(fk++f2))∧w.heap[b]? = some (.cells cur T (0,0))∧o+k*sz α+sz α≤cur.size ∧
      own true w ((cur.toList.drop (o+k*sz α)).take (sz α)) xs[k] fk ∧
      ∀ w' cur' x' fk',w'.heap[b]? = some (.cells cur' T (0,0))→cur'.size=cur.size→(∀ j,j<o+k*sz α∨o+(k+1)*sz α≤j→cur'[j]? = cur[j]?)→(∀ b∈f1,w'.heap[b]? = w.heap[b]?)→(∀ b∈f2,w'.heap[b]? = w.heap[b]?) →
        own true w' ((cur'.toList.drop (o+k*sz α)).take (sz α)) x' fk'→own true w' [.slice ad n cap] (xs.set k x') (b::(f1++(fk'++f2))):=by
  rcases h with ⟨hf,_⟩ | ⟨_,rfl,_⟩ | ⟨b,o,cap',cur,T,fr,fs,h1,h2,h3,h4,h5,h6,h7,h8⟩
  · cases hf
  · simp at hk
  · simp only [List.cons.injEq,Value.slice.injEq,and_true] at h1
    obtain ⟨h1,hn,hc⟩:=h1
    have hfr:=h4 rfl
    subst h1; subst h2; subst hn; subst hc; subst hfr
    obtain ⟨f1,fk,f2,e1,h9,h10⟩:=h8.zoom hk
    have hle:(k+1)*sz α≤cap*sz α:=Nat.mul_le_mul_right _ ω
    have hk1:(k+1)*sz α=k*sz α+sz α:=by rw [Nat.add_mul,Nat.one_mul]
    refine ⟨b,o,cur,T,f1,fk,f2,rfl,by rw [e1],h3,ω,by rw [List.drop_drop] at h9; exact h9,fun w' cur' x' fk' hb hsz hsame hb1 hb2 hx=>?_⟩
    refine .inr (.inr ⟨b,o,cap,cur',T,(0,0),f1++(fk'++f2),σ,rfl,hb,fun _=>rfl,by simpa using h5,h6,by rw [hsz]; exact h7,?_⟩)
    refine h10 w' _ x' fk' ?_ ?_ hb1 hb2 (by rw [List.drop_drop]; exact hx)
    · apply List.ext_getElem?
      intro j
      rw [List.getElem?_take,List.getElem?_take]
      split
      · rename_i hj
        rw [List.getElem?_drop,List.getElem?_drop]
        simpa using hsame (o+j) (.inl ω)
      · rfl
    · apply List.ext_getElem?
      intro j
      rw [List.drop_drop,List.drop_drop,List.getElem?_drop,List.getElem?_drop]
      simpa using hsame (o+(k+1)*sz α+j) (.inr ω)
theorem wk:∀ (vs:List Value) (c:Array Value) (o j:Nat),j<o∨o+vs.length≤j→(lay c o vs)[j]? = c[j]?
  | [],_,_,_,_=>rfl
  | v::vs,c,o,j,h=>by
    simp only [List.length_cons] at h
    rw [lay,wk vs _ _ _ ω,Array.getElem?_setIfInBounds_ne ω]
theorem tG (vs:List Value) (c:Array Value) (o:Nat) (h:o+vs.length≤c.size):((lay c o vs).toList.drop o).take vs.length=vs:=by
  have h5:(c.toList.take o).length=o:=by
    rw [List.length_take]
    have:c.toList.length=c.size:=by simp
    omega
  rw [l8 _ _ _ h,List.append_assoc,List.drop_append,h5,List.drop_take]
  simp
theorem Sep.elset {M:Nat→Prop}{w0 w:World}{Δ F:List Rsc}(h:Sep M w0 Δ F w) (i:Nat) {ad n cap} {xs:List α}{fp:List Nat}(hi:Δ[i]? = some (Wk.mine [.slice ad n cap] xs fp)) (k:Nat) (hk:k<xs.length) :
    ∃ b o cur T,ad=some ⟨b,o,none⟩∧w.heap[b]? = some (.cells cur T (0,0))∧o+k*sz α+sz α≤cur.size ∧
      ∀ vs x,own true w vs x []→∃ fp',Sep M w0 (Δ.set i (Wk.mine [.slice ad n cap] (xs.set k x) fp')) F (Wk.put w b (.cells (lay cur (o+k*sz α) vs) T (0,0))):=by
  have hnd:=h.nodup1 hi
  obtain ⟨b,o,cur,T,f1,fk,f2,e1,e2,hb,hsz,hx,hback⟩:=pt (h.mine i hi) k hk
  refine ⟨b,o,cur,T,e1,hb,hsz,fun vs x hvs=>⟨b::(f1++([]++f2)),?_⟩⟩
  have hl:=Rp.len hvs
  change fp.Nodup at hnd
  subst e2
  obtain ⟨n1,n2⟩:=List.nodup_cons.1 hnd
  have hE:Ext (· = b) w (Wk.put w b (.cells (lay cur (o+k*sz α) vs) T (0,0))):=Ext.refl.put (.inl rfl)
  have hlt:=Rp.lt (h.mine i hi)
  have hk1:(k+1)*sz α=k*sz α+sz α:=by rw [Nat.add_mul,Nat.one_mul]
  refine h.set hi (q:=Wk.mine [.slice ad n cap] (xs.set k x) (b::(f1++([]++f2)))) (hE.mono fun b' _ e=>by subst e; simp [Wk.mine]) ?_ ?_ ?_
  · refine hback _ _ x [] (jc hb) (pc _ _ _) (fun j hj=>wk _ _ _ _ (by rcases hj with hj | hj; exact .inl hj; exact .inr (by rw [hl,Nat.add_assoc,← hk1]; exact hj))) (fun b' hb'=>hE.block b' (hlt b' (by simp [hb'])) fun e=>?_) (fun b' hb'=>hE.block b' (hlt b' (by simp [hb'])) fun e=>?_) ?_
    · subst e; exact n1 (by simp [hb'])
    · subst e; exact n1 (by simp [hb'])
    · rw [← hl,tG _ _ _ (by rw [hl]; omega)]
      exact Rp.st hvs σ
  · change (b::(f1++([]++f2))).Nodup
    refine hnd.sublist ?_
    exact List.Sublist.cons_cons _ (List.Sublist.append (.refl _) (List.Sublist.append (List.nil_sublist _) (.refl _)))
  · intro b' hb'
    refine .inl ?_
    change b'∈b::(f1++([]++f2)) at hb'
    change b'∈b::(f1++(fk++f2))
    simp only [List.mem_cons,List.mem_append,List.nil_append] at hb' ⊢
    rcases hb' with h | h | h
    · exact .inl h
    · exact .inr (.inl h)
    · exact .inr (.inr (.inr h))
end
end
end Go.Wk
namespace Go.Wk
open Rp (sz own)
theorem Ib {x:Int}(h:I64ok x):IntKind.i64.wrap x=x:=by
  obtain ⟨h1,h2⟩:=h
  exact IntWalk.i64_in _ ⟨ω,ω⟩
section
variable {P:Program}{n:Nat}{ops:Array Oper}{Q:Post}{L:Env}{w w0:World}{M:Nat→Prop}{Δ F:List Rsc}{rest:List Oper}{d:Nat}{ty:TypeId}{p:String}{af:Array Edge}{g:Option (Nat × Bool)}
theorem vG {o:Oper}{ob:Obj}{v:Nat→Value}(hw:Wn ops n L o) (hd:o.dst=some d) (hn:Nat.blt d n=true) (hp:Pn P n L w o (v w.heap.size) (w.alloc ob)) (H:Sep M w0 Δ F w)
    (k:∀ b w',Ext No w w'→w.heap.size≤b→Sep M w0 (Δ++[box b ob]) F w'→RL P n ops Q rest ((d,v b)::L) w'):RL P n ops Q (o::rest) L w:=
  sc hw hd hn hp (k _ _ (Ext.refl.alloc ob) (Nat.le_refl _) (H.alloc ob))
theorem bu {t:TypeId}{x:Operand}{v:Value}(hw:Wn ops n L ⟨some d,.box t x,ty,p,af,g⟩) (hn:Nat.blt d n=true) (hx:evL L x=some v) (H:Sep M w0 Δ F w)
    (k:∀ b w',Ext No w w'→w.heap.size≤b→Sep M w0 (Δ++[box b (.cells v.cells t)]) F w'→RL P n ops Q rest ((d,.pointer (some ⟨b,0,none⟩))::L) w') :
    RL P n ops Q (⟨some d,.box t x,ty,p,af,g⟩::rest) L w:=
  vG (v:=fun b => .pointer (some ⟨b,0,none⟩)) hw rfl hn (D5 hx) H k
theorem bB {t:TypeId}{z:Value}(hw:Wn ops n L ⟨some d,.alloc t,ty,p,af,g⟩) (hn:Nat.blt d n=true) (hz:∀ w,(zeroValue t).run P w = .ok z w) (H:Sep M w0 Δ F w)
    (k:∀ b w',Ext No w w'→w.heap.size≤b→Sep M w0 (Δ++[box b (.cells z.cells t)]) F w'→RL P n ops Q rest ((d,.pointer (some ⟨b,0,none⟩))::L) w') :
    RL P n ops Q (⟨some d,.alloc t,ty,p,af,g⟩::rest) L w:=
  vG (v:=fun b => .pointer (some ⟨b,0,none⟩)) hw rfl hn (xp hz) H k
theorem fm {t:TypeId}{x y:Operand}{b off:Nat}{cs:List Value}{T v} (hw:Wn ops n L ⟨none,.store t x y,ty,p,af,g⟩) (hs:∀ w,(sizeOf t).run P w = .ok 1 w) (hx:evL L x=some (.pointer (some ⟨b,off,none⟩))) (hy:evL L y=some v) (h1:v.oneCell'=true)
    (H:Sep M w0 Δ F w) (i:Nat) (hi:Δ[i]? = some (box b (.cells cs.toArray T))) (ho:Nat.blt off cs.length=true)
    (k:∀ w',Ext (· = b) w w'→Sep M w0 (Δ.set i (box b (.cells (cs.set off v).toArray T))) F w'→RL P n ops Q rest L w') :
    RL P n ops Q (⟨none,.store t x y,ty,p,af,g⟩::rest) L w:=by
  have h:=k _ (Ext.refl.put (.inl rfl)) (H.put i _ hi)
  rw [← List.setIfInBounds_toArray] at h
  exact E9 hw rfl (ge hs hx hy h1 (H.box i hi) (by rw [List.size_toArray]; exact Nat.le_of_ble_eq_true ho)) h
def aI (cs:List Value) (off:Nat) (vs:List Value):List Value:=cs.take off++vs++cs.drop (off+vs.length)
theorem pK {cs vs:List Value}{off:Nat}(h:off+vs.length≤cs.length):lay cs.toArray off vs=(aI cs off vs).toArray:=by
  apply Array.toList_inj.1
  rw [l8 _ _ _ (by simpa using h)]
  simp [aI]
def qi:List Value→Bool
  | []=>true
  | v::vs=>v.oneCell' && qi vs
theorem km:∀ {vs:List Value},qi vs=true→∀ v∈vs,v.oneCell'=true
  | [],_,v,hv=>by simp at hv
  | u::vs,h,v,hv=>by
    unfold qi at h
    simp only [Bool.and_eq_true] at h
    rcases List.mem_cons.1 hv with rfl | hv
    · exact h.1
    · exact km h.2 v hv
theorem aF {t:TypeId}{x y:Operand}{b off sz:Nat}{cs:List Value}{T} {vs:List Value}(hw:Wn ops n L ⟨none,.store t x y,ty,p,af,g⟩) (hs:∀ w,(sizeOf t).run P w = .ok sz w) (hx:evL L x=some (.pointer (some ⟨b,off,none⟩))) (hy:evL L y=some (.agg vs.toArray))
    (hl:vs.length=sz) (h1:qi vs=true) (H:Sep M w0 Δ F w) (i:Nat) (hi:Δ[i]? = some (box b (.cells cs.toArray T))) (ho:Nat.ble (off+sz) cs.length=true)
    (k:∀ w',Ext (· = b) w w'→Sep M w0 (Δ.set i (box b (.cells (aI cs off vs).toArray T))) F w'→RL P n ops Q rest L w') :
    RL P n ops Q (⟨none,.store t x y,ty,p,af,g⟩::rest) L w:=by
  have ho':=Nat.le_of_ble_eq_true ho
  have h:=k _ (Ext.refl.put (.inl rfl)) (H.put i _ hi)
  rw [← pK (by rw [hl]; exact ho')] at h
  exact E9 hw rfl (lw hs hx hy hl (km h1) (H.box i hi) (by simpa using ho')) h
section
variable {α:Type}[Rp α]
theorem qD {t e:TypeId}{x:Operand}{z:Value}{bytes m:Nat}{y:α}(hw:Wn ops n L ⟨some d,.makeSlice t x x,ty,p,af,g⟩) (hn:Nat.blt d n=true) (ht:P.underlying t=some (.slice e)) (hT:Ty P e z (sz α) bytes) (hz:∀ w,own true w z.cells.toList y [])
    (hx:evL L x=some (.int .i64 m)) (h48:bytes*m≤281474976710656) (h63:m≤maxLen) (H:Sep M w0 Δ F w)
    (k:∀ b w',Ext No w w'→w.heap.size≤b→Sep M w0 (Δ++[mine [.slice (some ⟨b,0,none⟩) m m] (List.replicate m y) [b]]) F w'→RL P n ops Q rest ((d,.slice (some ⟨b,0,none⟩) m m)::L) w') :
    RL P n ops Q (⟨some d,.makeSlice t x x,ty,p,af,g⟩::rest) L w:=
  sc hw rfl hn (Bj ht hT hx h48 h63) (k _ _ (Ext.refl.alloc _) (Nat.le_refl _) (H.made hz h63))
theorem jq {x y:Operand}{t e:TypeId}{z:Value}{bytes:Nat}{v:Value}{xs:List α}{fp:List Nat}{b2 c2:Nat}{T} {cs:List Value}{u:α}(hw:Wn ops n L ⟨some d,.call ⟨.builtin .append,#[x,y],#[t,t]⟩,ty,p,af,g⟩) (hn:Nat.blt d n=true)
    (ht:P.underlying t=some (.slice e)) (hT:Ty P e z (sz α) bytes) (hz:z.cells.size=sz α) (hx:evL L x=some v) (hy:evL L y=some (.slice (some ⟨b2,0,none⟩) 1 c2))
    (H:Sep M w0 Δ F w) (i j:Nat) (hi:Δ[i]? = some (mine [v] xs fp)) (hj:Δ[j]? = some (box b2 (.cells cs.toArray T))) (hu:own true w cs u []) (h63:xs.length+1≤maxLen) (hb48:(xs.length+1)*bytes≤140737488355328)
    (k:∀ v' w' fp',Sep M w0 (Δ.set i (mine [v'] (xs++[u]) fp')) F w'→RL P n ops Q rest ((d,v')::L) w') :
    RL P n ops Q (⟨some d,.call ⟨.builtin .append,#[x,y],#[t,t]⟩,ty,p,af,g⟩::rest) L w:=by
  obtain ⟨v',w',fp',h1,h2⟩:=H.app1 i hi (ty:=ty) ht hT hz (At.whole (H.box j hj)) hu h63 hb48
  exact sc hw rfl hn (qy hx hy h1) (k _ _ _ h2)
theorem ma {x y:Operand}{t e:TypeId}{z:Value}{bytes:Nat}{v:Value}{xs:List α}{fp:List Nat}{b2 c2:Nat}{T} {cs:List Value}{u:α}{fu} (hw:Wn ops n L ⟨some d,.call ⟨.builtin .append,#[x,y],#[t,t]⟩,ty,p,af,g⟩) (hn:Nat.blt d n=true)
    (ht:P.underlying t=some (.slice e)) (hT:Ty P e z (sz α) bytes) (hz:z.cells.size=sz α) (hx:evL L x=some v) (hy:evL L y=some (.slice (some ⟨b2,0,none⟩) 1 c2))
    (H:Sep M w0 Δ F w) (i j q:Nat) (hi:Δ[i]? = some (mine [v] xs fp)) (hj:Δ[j]? = some (box b2 (.cells cs.toArray T))) (hq:Δ[q]? = some (mine cs u fu)) (hqi:Nat.beq q i=false) (h63:xs.length+1≤maxLen) (hb48:(xs.length+1)*bytes≤140737488355328)
    (k:∀ v' w' fp',Sep M w0 ((Δ.set q gone).set i (mine [v'] (xs++[u]) fp')) F w'→RL P n ops Q rest ((d,v')::L) w') :
    RL P n ops Q (⟨some d,.call ⟨.builtin .append,#[x,y],#[t,t]⟩,ty,p,af,g⟩::rest) L w:=by
  obtain ⟨v',w',fp',h1,h2⟩:=H.app2 i q hi (ty:=ty) ht hT hz hq hqi (At.whole (H.box j hj)) h63 hb48
  exact sc hw rfl hn (qy hx hy h1) (k _ _ _ h2)
theorem C5 {t:TypeId}{x y:Operand}{b off:Nat}{v:Value}{ad:Option Addr}{len cap:Nat}{xs:List α}{fp:List Nat}{u:α}(hw:Wn ops n L ⟨none,.store t x y,ty,p,af,g⟩) (hs:∀ w,(sizeOf t).run P w = .ok (sz α) w) (h1:sz α=1)
    (H:Sep M w0 Δ F w) (i:Nat) (hi:Δ[i]? = some (mine [.slice ad len cap] xs fp)) (q:Nat) (hq:q<xs.length) (hx:evL L x=some (.pointer (some ⟨b,off+q*sz α,none⟩))) (had:ad=some ⟨b,off,none⟩) (hy:evL L y=some v) (hu:own true w [v] u [])
    (k:∀ w' fp',Ext (· = b) w w'→Sep M w0 (Δ.set i (mine [.slice ad len cap] (xs.set q u) fp')) F w'→RL P n ops Q rest L w') :
    RL P n ops Q (⟨none,.store t x y,ty,p,af,g⟩::rest) L w:=by
  obtain ⟨b',o',cur,T,e1,hb,hsz,hk⟩:=H.elset i hi q hq
  rw [had] at e1
  simp only [Option.some.injEq,Addr.mk.injEq,and_true] at e1
  obtain ⟨rfl,rfl⟩:=e1
  obtain ⟨fp',h⟩:=hk [v] u hu
  refine E9 hw rfl (ge (by rw [h1] at hs; exact hs) hx hy (Rp.one hu v σ) hb ω) ?_
  exact k _ fp' (Ext.refl.put (.inl rfl)) h
end
theorem cj {o:Oper}{f:FuncId}{args:Array Value}{x:Value}(hw:Wn ops n L o) (hd:o.dst=some d) (hn:Nat.blt d n=true) (hp:Pc P n L w o f args)
    (hc:Ret P f args w fun v w'=>Ext No w w'∧v=x) (k:∀ w',Ext No w w'→RL P n ops Q rest ((d,x)::L) w'):RL P n ops Q (o::rest) L w:=
  dW hw hd hn hp hc fun _ w' h=>by obtain ⟨h1,rfl⟩:=h; exact k w' h1
theorem sX {t e:TypeId}{z:Value}{size bytes len:Nat}{d:Option Tmp}{parts:Array (Nat × Operand)}{vs:List Value}(ht:P.underlying t=some (.slice e)) (hT:Ty P e z size bytes) (hs:0<size)
    (hl:vs.length=len) (hp:∀ a,Good n a L→(parts.map fun (i,x)=>(i,a.eval x)).toList=(vs.zipIdx 0).map fun x=>(x.2,x.1)) (h1:∀ v∈vs,v.cells.size=size) (h0:0<len) (hsmall:len*size≤2^24) :
    Pn P n L w ⟨d,.buildSlice t len parts,ty,p,af,g⟩ (.slice (some ⟨w.heap.size,0,none⟩) len len) (w.alloc (.cells (vs.flatMap fun v=>v.cells.toList).toArray e)):=fun a ha=>by
  obtain ⟨i,hi1,hi2,hi3,hi4⟩:=hT.parts
  have hne:¬ len*i.size=0:=by rw [hi3]; exact Nat.ne_of_gt (Nat.mul_pos h0 hs)
  have hr:=run_buildSlice (P:=P) w t e len (parts.map fun (i,x)=>(i,a.eval x)) (vs.flatMap fun v=>v.cells.toList).toArray i z ht hi1 hi2 (by rw [hi3]; omega) hne (by
    rw [hp a ha,hi3]
    exact Great.fill_whole hs vs _ h1 (by rw [hl]; simp))
  simp [execOp] at hr ⊢
  rw [hr]
  rfl
theorem qz {x:Operand}{v:Value}(hx:evL L x=some v):∀ a,Good n a L→((#[(0,x)]:Array (Nat × Operand)).map fun (i,x)=>(i,a.eval x)).toList=(([v]:List Value).zipIdx 0).map fun x=>(x.2,x.1):=fun a ha=>by
  simp [ha.eval hx]
theorem eB {t e:TypeId}{x:Operand}{z v:Value}{size bytes:Nat}(hw:Wn ops n L ⟨some d,.buildSlice t 1 #[(0,x)],ty,p,af,g⟩) (hn:Nat.blt d n=true) (ht:P.underlying t=some (.slice e)) (hT:Ty P e z size bytes) (hs:Nat.blt 0 size=true)
    (hx:evL L x=some v) (h1:v.cells.size=size) (hsmall:Nat.ble size 16777216=true) (H:Sep M w0 Δ F w)
    (k:∀ b w',Ext No w w'→w.heap.size≤b→Sep M w0 (Δ++[box b (.cells v.cells.toList.toArray e)]) F w'→RL P n ops Q rest ((d,.slice (some ⟨b,0,none⟩) 1 1)::L) w') :
    RL P n ops Q (⟨some d,.buildSlice t 1 #[(0,x)],ty,p,af,g⟩::rest) L w:=by
  have hp:=sX (n:=n) (w:=w) (ty:=ty) (p:=p) (af:=af) (g:=g) (d:=some d) (parts := #[(0,x)]) (vs:=[v]) (len:=1) ht hT (Nat.le_of_ble_eq_true hs) rfl (qz hx) (by simpa using h1) ω (by have:=Nat.le_of_ble_eq_true hsmall; omega)
  simp only [List.flatMap_cons,List.flatMap_nil,List.append_nil] at hp
  exact vG (v:=fun b => .slice (some ⟨b,0,none⟩) 1 1) hw rfl hn hp H k
theorem F6 {t e:TypeId}{z:Value}{size bytes:Nat}{d:Option Tmp}(ht:P.underlying t=some (.slice e)) (hT:Ty P e z size bytes) :
    Pn P n L w ⟨d,.buildSlice t 0 #[],ty,p,af,g⟩ (.slice (some ⟨w.heap.size,0,none⟩) 0 0) (w.alloc (.cells #[] e)):=fun a ha=>by
  obtain ⟨i,hi1,hi2,hi3,hi4⟩:=hT.parts
  simp [execOp,Instr.buildSlice,run_underlying ht,sizeOf,typeInfo,hi1,Instr.fill,newRow,newObj,Array.range_zero']
  rfl
theorem eZ {α:Type}[Rp α] {t e:TypeId}{z:Value}{size bytes:Nat}(hw:Wn ops n L ⟨some d,.buildSlice t 0 #[],ty,p,af,g⟩) (hn:Nat.blt d n=true) (ht:P.underlying t=some (.slice e)) (hT:Ty P e z size bytes) (H:Sep M w0 Δ F w)
    (k:∀ b w',Ext No w w'→w.heap.size≤b→Sep M w0 (Δ++[mine [.slice (some ⟨b,0,none⟩) 0 0] ([]:List α) [b]]) F w'→RL P n ops Q rest ((d,.slice (some ⟨b,0,none⟩) 0 0)::L) w') :
    RL P n ops Q (⟨some d,.buildSlice t 0 #[],ty,p,af,g⟩::rest) L w:=
  sc hw rfl hn (F6 ht hT) (k _ _ (Ext.refl.alloc _) (Nat.le_refl _) (H.add (Ext.refl.alloc _) (r:=mine [.slice (some ⟨w.heap.size,0,none⟩) 0 0] ([]:List α) [w.heap.size])
    (.inr (.inr ⟨w.heap.size,0,0,#[],e,(0,0),[],rfl,rfl,heap_alloc_new _ _,fun _=>rfl,Nat.le_refl _,Nat.zero_le _,σ,rfl⟩)) (by simp [mine]) (by simp [mine])))
theorem Dj {t:TypeId}{parts:Array (Nat × Operand)}{d:Option Tmp}{cells:Array Value}(hb:∀ a,Good n a L→P.built t (parts.map fun (i,x)=>(i,a.eval x)).toList=some cells) :
    Py P n L w ⟨d,.build t parts,ty,p,af,g⟩ (.agg cells):=fun a ha=>by
  have hr:=run_build (P:=P) w t _ cells (hb a ha)
  simp [execOp] at hr ⊢
  rw [hr]
  rfl
end
end Go.Wk
namespace Go.Wk
theorem Z {α:Sort _}{a:α}:a=a:=rfl
def oQ:List Nat→List (Nat × Bool)
 | []=>[]
 | x::xs=>(x / 2,x % 2 == 1)::oQ xs
theorem iO {x:Int}(h1 : -9223372036854775808≤x:=by omega) (h2:x≤9223372036854775807:=by omega):IntKind.i64.wrap x=x:=Ib ⟨h1,h2⟩
/-- A plain operation,carried out: what it leaves,or nothing is known. -/
def evB (L:Env):Op→Option Value
 | .move x=>evL L x
 | .assign x=>evL L x
 | .nilCheck x=>match evL L x with
  | some (.pointer (some a))=>some (.pointer (some a))
  | _=>none
 | .extract x i=>match evL L x with
  | some (.tuple vs)=>vs[i]?
  | _=>none
 | .binOp b _ x y _=>match evL L x with
  | some (.int k i)=>match evL L y with
   | some (.int k2 j)=>match decide (k=k2) with
    | true=>match b with
     | .eql=>some (.bool (decide (i=j)))
     | .neq=>some (.bool (decide (i≠j)))
     | .lss=>some (.bool (decide (i<j)))
     | .leq=>some (.bool (decide (i≤j)))
     | .gtr=>some (.bool (decide (j<i)))
     | .geq=>some (.bool (decide (j≤i)))
     | _=>none
    | false=>none
   | _=>none
  | _=>none
 | _=>none
theorem Ec {P:Program}{n:Nat}{L:Env}{w:World}{op:Op}{v:Value}{d:Option Tmp}{ty:TypeId}{p:String}{af:Array Edge}{g:Option (Nat × Bool)}(h:evB L op=some v):Py P n L w ⟨d,op,ty,p,af,g⟩ v:=by
  unfold evB at h
  repeat' split at h
  all_goals (try (have ek:=of_decide_eq_true (by assumption:decide (_=(_:IntKind))=true); subst ek))
  all_goals first
    | exact aL h
    | exact bg h
    | (cases h; exact fH η)
    | (exact Ga η h)
    | (cases h; exact cT η η)
    | (cases h; exact ez η η)
    | (cases h; exact aX η η)
    | (cases h; exact we η η)
    | (cases h; exact mu η η)
    | (cases h; exact sS η η)
    | cases h
/-- Whether a guard says that it is left out. -/
def evG (ops:Array Oper) (L:Env) (j:Nat) (b:Bool):Bool:=match iu ops j with
 | some t=>match look L t with
  | some (.bool c)=>match b,c with
   | true,false=>true
   | false,true=>true
   | _,_=>false
  | _=>false
 | none=>false
theorem yy {n:Nat}{ops:Array Oper}{L:Env}{j:Nat}{b:Bool}{o:Oper}(hg:o.guard=some (j,b)) (h:evG ops L j b=true):Wo ops n L o:=by
  unfold evG at h
  repeat' split at h
  all_goals first
    | (exact wog (b:=false) hg η η)
    | (exact wog (b:=true) hg η η)
    | cases h
def evS (n:Nat) (ops:Array Oper):Nat→List Oper→Env→Option (List Oper × Env)
 | 0,l,L=>some (l,L)
 | k+1,⟨some d,op,_,_,_,g⟩::l,L=>match Nat.blt d n with
  | true=>match g with
   | none=>match evB L op with
    | some v=>evS n ops k l ((d,v)::L)
    | none=>none
   | some (j,b)=>match evG ops L j b with
    | true=>evS n ops k l ((d,undef)::L)
    | false=>none
  | false=>none
 | _+1,_,_=>none
theorem sR {P:Program}{n:Nat}{ops:Array Oper}{Q:Post}{w:World}:∀ (k:Nat) {l l':List Oper}{L L':Env},evS n ops k l L=some (l',L')→RL P n ops Q l' L' w→RL P n ops Q l L w
 | 0,_,_,_,_,h,kk=>by cases h; exact kk
 | k+1,[],_,_,_,h,_=>by cases h
 | k+1,⟨none,_,_,_,_,_⟩::_,_,_,_,h,_=>by cases h
 | k+1,⟨some d,op,ty,p,af,g⟩::l,l',L,L',h,kk=>by
  unfold evS at h
  repeat' split at h
  all_goals first
   | (cases h; done)
   | exact ao (wn rfl) rfl η (Ec η) (sR k h kk)
   | exact wo (yy rfl η) rfl η (sR k h kk)
def evD (n:Nat) (ops:Array Oper):Nat→List (Nat × Bool)→Env→Option (List (Nat × Bool) × Env)
 | 0,l,L=>some (l,L)
 | k+1,(i,a)::l,L=>match ops.toList[i]? with
  | some ⟨some d,op,_,_,_,g⟩=>match Nat.blt d n with
   | true=>match g with
    | none=>match a with
     | true=>match evB L op with
      | some v=>evD n ops k l ((d,v)::L)
      | none=>none
     | false=>none
    | some (j,b)=>match evG ops L j b with
     | true=>evD n ops k l ((d,undef)::L)
     | false=>none
   | false=>none
  | _=>none
 | _+1,[],_=>none
theorem dR {P:Program}{n:Nat}{ops:Array Oper}{Q:Post}{S:World→Prop}{w:World}:∀ (k:Nat) {l l':List (Nat × Bool)}{L L':Env},evD n ops k l L=some (l',L')→DL P n ops Q S l' L' w→DL P n ops Q S l L w
 | 0,_,_,_,_,h,kk=>by cases h; exact kk
 | k+1,[],_,_,_,h,_=>by cases h
 | k+1,(i,a)::l,l',L,L',h,kk=>by
  unfold evD at h
  repeat' split at h
  all_goals first
   | (cases h; done)
   | exact bp η (wn rfl) rfl η (fun x _=>Ec η) (dR k h kk)
   | (cases a; (exact Fl η (yy rfl η) rfl η (dR k h kk)); (exact qj η (yy rfl η) rfl η (dR k h kk)))
end Go.Wk
namespace Go.Wk
section
variable {P:Program}{n:Nat}{ops:Array Oper}{Q:Post}{L:Env}{w w0 w1:World}{M N:Nat→Prop}{Δ F:List Rsc}{d:Nat}{o:Oper}{f:FuncId}{fn:Func}{args:Array Value}{u v:Value}{R:Value→World→Prop}{rest:List Oper}{rest2:List (Nat × Bool)}{S:World→Prop}{i:Nat}{ty:TypeId}{p:String}{af:Array Edge}{xs:Array Operand}{ats:Array TypeId}{vs:List Value}{x:Operand}
theorem sC (hf:P.funcs[f]? = some fn) (hm:(fn.name == "runtime.NumGoroutine")=false) (hb:(Nat.blt d n,fn.body.isNone,iQ L xs.toList)=(true,false,some vs)) (hc:Ret P f vs.toArray w R)
  (k:∀ v w',R v w'→RL P n ops Q rest ((d,v)::L) w'):RL P n ops Q (⟨some d,.call ⟨.value (.func f),xs,ats⟩,ty,p,af,none⟩::rest) L w:=by
 simp only [Prod.mk.injEq] at hb
 exact dW (wn rfl) rfl hb.1 (aR hf hb.2.1 hm hb.2.2) hc k
theorem sE (hf:P.funcs[f]? = some fn) (hm:(fn.name == "runtime.NumGoroutine")=false) (hb:(Nat.blt d n,fn.body.isNone,iQ L xs.toList)=(true,false,some vs)) (hc:Ret P f vs.toArray w fun v w'=>Ext No w w'∧v=u) (H:Sep M w0 Δ F w)
  (k:∀ w',Ext No w w'→Sep M w0 Δ F w'→RL P n ops Q rest ((d,u)::L) w'):RL P n ops Q (⟨some d,.call ⟨.value (.func f),xs,ats⟩,ty,p,af,none⟩::rest) L w:=
 sC hf hm hb hc fun _ w' r=>by obtain ⟨e,rfl⟩:=r; exact k w' e (H.to e)
theorem dC (hf:P.funcs[f]? = some fn) (hm:(fn.name == "runtime.NumGoroutine")=false) (hb:(ops.toList[i]?,Nat.blt d n,fn.body.isNone,iQ L xs.toList)=(some ⟨some d,.call ⟨.value (.func f),xs,ats⟩,ty,p,af,none⟩,true,false,some vs)) (hc:Ret P f vs.toArray w fun v w'=>Ext No w w'∧R v w')
  (k:∀ v w',Ext No w w'∧R v w'→DL P n ops Q (Ext N w1) rest2 ((d,v)::L) w'):DL P n ops Q (Ext N w1) ((i,false)::rest2) L w:=by
 simp only [Prod.mk.injEq] at hb
 exact dh hb.1 (wn rfl) rfl hb.2.1 (aR hf hb.2.2.1 hm hb.2.2.2) hc (fun hS _ _ r _=>hS.trans r.1.no) k
theorem sF {s:TypeId}{fs:Array Field}{b o i sz off:Nat}{f:Field}(hu:P.underlying s=some (.struct fs)) (h:(Nat.blt d n,fs[i]?,evL L x,o+f.offset)=(true,some f,some (.pointer (some ⟨b,o,none⟩)),off)) (hs:∀ w,(sizeOf f.type).run P w = .ok (sz+1) w)
  (k:RL P n ops Q rest ((d,.pointer (some ⟨b,off,none⟩))::L) w):RL P n ops Q (⟨some d,.fieldAddr s x i,ty,p,af,none⟩::rest) L w:=by
 simp only [Prod.mk.injEq] at h
 exact ao (wn rfl) rfl h.1 (ag hu h.2.1 hs h.2.2.1 h.2.2.2) k
theorem sLd {t td} {b o:Nat}{cs:List Value}{T fr} (hu:P.underlying t=some td) (hb:w.heap[b]? = some (.cells cs.toArray T fr)) (h:(Nat.blt d n,single td,evL L x,cs[o]?)=(true,true,some (.pointer (some ⟨b,o,none⟩)),some v))
  (k:RL P n ops Q rest ((d,v)::L) w):RL P n ops Q (⟨some d,.load t x,ty,p,af,none⟩::rest) L w:=by
 simp only [Prod.mk.injEq] at h
 exact ao (wn rfl) rfl h.1 (aj hu h.2.1 h.2.2.1 (al hb h.2.2.2)) k
theorem rN {t:Nat}(hQ:∀ L w,fin P fn R .ret L w→Q .ret L w) (hr:fn.results = #[.tmp t]) (hv:look L t=some v) (h:R v w):RL P n ops (thn P n .ret Q) [] L w:=aa (rT hQ hr hv h)
theorem rA (hQ:∀ L w,fin P fn R .ret L w→Q .ret L w) (hr:fn.results = #[.tmp d]) (h1:(Nat.blt d n,evL L x)=(true,some v)) (h:R v w):RL P n ops (thn P n .ret Q) [⟨some d,.assign x,ty,p,af,none⟩] L w:=by
 simp only [Prod.mk.injEq] at h1
 exact sA h1.1 h1.2 (rN hQ hr (by simp [look]) h)
theorem dF (hc:(Nat.ble ops.size 1000,Nat.ble 1000 i,Nat.ble (i-1000) rest2.length,(rest2.take (i-1000)).isEmpty,(rest2.drop (i-1000)).isEmpty)=(true,true,true,false,false)) (h1:DL P n ops Q S (rest2.take (i-1000)) L w) (h2:DL P n ops Q S (rest2.drop (i-1000)) L w):DL P n ops Q S ((i,false)::rest2) L w:=by
 simp only [Prod.mk.injEq] at hc
 have h3:=Nat.le_of_ble_eq_true hc.2.1
 have h4:=Nat.le_of_ble_eq_true hc.2.2.1
 refine Ha (l1:=rest2.take (i-1000)) (l2:=rest2.drop (i-1000)) hc.1 ?_ hc.2.2.2.1 hc.2.2.2.2 h1 h2
 rw [List.take_append_drop,List.length_take,Nat.min_eq_left h4,Nat.add_sub_cancel' h3]
end
end Go.Wk

namespace Go.Wk
def gv (e want:Bool) (v:Value):Value:=if e=want then v else undef
section
variable {P:Program}{n:Nat}{ops:Array Oper}{Q:Post}{L:Env}{w:World}{S:World→Prop}
theorem wgE {o:Oper}{j t b e} (h:o.guard=some (j,b)) (hd:iu ops j=some t) (hb:look L t=some (.bool e)) (he:e=b):Wn ops n L o:=by
  subst he; exact wg h hd hb
theorem fJ {c y:Operand}{e b:Bool}{d:Option Tmp}{ty:TypeId}{p:String}{af:Array Edge}{g:Option (Nat × Bool)}(hc:evL L c=some (.bool e)) (hy:evL L y=some (gv e false (.bool b))) :
    Py P n L w ⟨d,.pick c (.const (.bool true)) y,ty,p,af,g⟩ (.bool (e || b)):=by
  cases e
  · exact bm hc hy
  · exact aY hc rfl
theorem bz {c y:Operand}{e b:Bool}{d:Option Tmp}{ty:TypeId}{p:String}{af:Array Edge}{g:Option (Nat × Bool)}(hc:evL L c=some (.bool e)) (hy:evL L y=some (gv e true (.bool b))) :
    Py P n L w ⟨d,.pick c y (.const (.bool false)),ty,p,af,g⟩ (.bool (e && b)):=by
  cases e
  · exact bm hc rfl
  · exact aY hc hy
def fresh (d:Nat):Env→Bool
  | []=>true
  | p::L => !(Nat.beq p.1 d) && fresh d L
theorem tQ {d:Nat}:∀ {L:Env},fresh d L=true→look L d=none
  | [],_=>rfl
  | (u,x)::L,h=>by
    unfold fresh at h
    simp only [Bool.and_eq_true] at h
    unfold look
    cases hb:Nat.beq u d with
    | true=>rw [hb] at h; simp at h
    | false=>exact tQ h.2
theorem ER {o:Oper}{j t b} (h:o.guard=some (j,b)) (hd:iu ops j=some t) (hu:look L t=some undef):Wo ops n L o:=fun a hg=>by
  have h1:=hg.cov t _ hu
  have hd':(ops[j]?).bind (·.dst)=some t:=by simpa [iu] using hd
  have hy:yielded ops a.tmps j=none:=by
    simp only [yielded,hd',Option.bind_some]
    simp only [Array.getD_eq_getD_getElem?] at h1
    cases ht:a.tmps[t]? with
    | none=>rfl
    | some v=>rw [ht] at h1; simp at h1; subst h1; rfl
  simp [Region.wanted,h,hy]
theorem Hr {o:Oper}{j t b e} (h:o.guard=some (j,b)) (hd:iu ops j=some t) (hb:look L t=some (.bool e)) (he:e≠b):Wo ops n L o:=fun a hg=>by
  simp [Region.wanted,h,qw hg hd hb,he]
def skG (ops:Array Oper) (n:Nat) (L:Env) (j:Nat) (want:Bool):List Nat→List Oper→Bool
  | _,[]=>true
  | D,o::l=>(match o.guard with
      | some (j',b)=>(Nat.beq j' j && (b == want)) || (match iu ops j' with | some t=>D.contains t | none=>false)
      | none=>false) && (match o.dst with
      | some d=>fresh d L && Nat.blt d n && skG ops n L j want (d::D) l
      | none=>skG ops n L j want D l)
def keeps (L' L:Env):Prop:=∀ t v,look L t=some v→look L' t=some v
theorem k0:keeps L L:=fun _ _ h=>h
theorem kx {L':Env}{d v} (hf:fresh d L=true) (h:keeps L' L):keeps ((d,v)::L') L:=fun t u ht=>by
  unfold look
  cases hb:Nat.beq d t with
  | true=>
    have:d=t:=Nat.eq_of_beq_eq_true hb
    subst this
    rw [tQ hf] at ht; cases ht
  | false=>exact h t u ht
theorem sm {j tg t:Nat}{want e:Bool}(hd:iu ops j=some tg) (he:e≠want) {rest:List Oper}(hb:look L tg=some (.bool e)) (k:∀ L',look L' t=some undef→keeps L' L→RL P n ops Q rest L' w) :
    ∀ (l:List Oper) (D:List Nat) (L':Env),skG ops n L j want D l=true→(∀ d∈D,look L' d=some undef)→keeps L' L→(t∈D∨(l.any fun o=>match o.dst with | some d=>Nat.beq d t | none=>false)=true)→RL P n ops Q (l++rest) L' w
  | [],D,L',_,hD,hs,ht=>k L' (hD t (ht.resolve_right σ)) hs
  | o::l,D,L',hc,hD,hs,ht=>by
    unfold skG at hc
    simp only [Bool.and_eq_true] at hc
    obtain ⟨hg,hc⟩:=hc
    have hw:Wo ops n L' o:=by
      cases hgu:o.guard with
      | none=>rw [hgu] at hg; cases hg
      | some q=>
        obtain ⟨j',b⟩:=q
        rw [hgu] at hg
        simp only [Bool.or_eq_true,Bool.and_eq_true] at hg
        rcases hg with ⟨h1,h2⟩ | h1
        · have:j'=j:=Nat.eq_of_beq_eq_true h1
          subst this
          have hbw:b=want:=by simpa using h2
          subst hbw
          exact Hr hgu hd (hs _ _ hb) he
        · cases hdo:iu ops j' with
          | none=>rw [hdo] at h1; cases h1
          | some t=>rw [hdo] at h1; exact ER hgu hdo (hD t (by simpa using h1))
    cases hdst:o.dst with
    | none=>
      rw [hdst] at hc
      refine Fz hw hdst (sm hd he hb k l D L' hc hD hs ?_)
      simpa [hdst] using ht
    | some d=>
      rw [hdst] at hc
      simp only [Bool.and_eq_true] at hc
      refine wo hw hdst hc.1.2 (sm hd he hb k l (d::D) _ hc.2 (fun x hx=>?_) (kx hc.1.1 hs) ?_)
      · unfold look
        cases hb':Nat.beq d x with
        | true=>rfl
        | false=>
          rcases List.mem_cons.1 hx with rfl | hx
          · simp at hb'
          · exact hD x hx
      · rcases ht with ht | ht
        · exact .inl (by simp [ht])
        · simp only [List.any_cons,hdst,Bool.or_eq_true] at ht
          rcases ht with ht | ht
          · exact .inl (by rw [Nat.eq_of_beq_eq_true ht]; simp)
          · exact .inr ht
theorem me {t:Nat}{v:Value}{M:Env}(hs:keeps M L) (ht:look M t=some v):keeps M ((t,v)::L):=fun u x h=>by
  unfold look at h
  cases hb:Nat.beq t u with
  | true=>
    have:t=u:=Nat.eq_of_beq_eq_true hb
    subst this
    rw [hb] at h; cases h; exact ht
  | false=>rw [hb] at h; exact hs u x h
theorem bR {l:List Oper}(m:Nat) {j tg t:Nat}{want e:Bool}{v:Value}(hd:iu ops j=some tg) (hb:look L tg=some (.bool e)) (hc:skG ops n L j want [] (l.take m)=true)
    (hD:((l.take m).any fun o=>match o.dst with | some d=>Nat.beq d t | none=>false)=true)
    (h1:e=want→(∀ L' w',keeps L' L→look L' t=some v→Ext No w w'→RL P n ops Q (l.drop m) L' w')→RL P n ops Q l L w)
    (k:∀ w',Ext No w w'→RL P n ops Q (l.drop m) ((t,gv e want v)::L) w'):RL P n ops Q l L w:=by
  by_cases he:e=want
  · refine h1 he fun L' w' hs ht hE a ha=>k w' hE a ⟨ha.size,ha.defers,fun u x hu=>ha.cov u x (me hs ht u x ?_)⟩
    rwa [gv,if_pos he] at hu
  · have hk:=k w Ext.refl
    rw [gv,if_neg he] at hk
    have:=sm (t:=t) (rest:=l.drop m) hd he hb (fun L' ht hs a ha=>hk a ⟨ha.size,ha.defers,fun u x hu=>ha.cov u x (me hs ht u x hu)⟩) (l.take m) [] L hc σ k0 (.inr hD)
    rwa [List.take_append_drop] at this
end
end Go.Wk
namespace Go.Wk
open Rp (sz own)
theorem all_cons {α:Type}{p:α→Prop}{a:α}{l:List α}(h:p a) (k:∀ x∈l,p x):∀ x∈a::l,p x:=fun x hx=>by
  rcases List.mem_cons.1 hx with rfl | hx
  · exact h
  · exact k x hx
theorem vX:∀ w,own true w (Value.int .u8 0).cells.toList (0:UInt8) []:=fun _=>⟨rfl,rfl⟩
theorem Ei {α:Type}[Rp α]:∀ w,own true w (Value.slice none 0 0).cells.toList ([]:List α) []:=fun _ => .inr (.inl ⟨rfl,rfl,rfl⟩)
theorem mv {w:World}{x:UInt8}:own true w [.int .u8 x.toNat] x []:=⟨rfl,rfl⟩
theorem tP {w:World}{x:Int}(h:I64ok x):own true w [.int .i64 x] x []:=⟨rfl,rfl,h⟩
def ins (v lo hi:Int):Bool:=decide (lo≤v) && decide (v≤hi)
theorem aJ {v lo hi:Int}:ins v lo hi=true↔lo≤v∧v≤hi:=by simp [ins]
theorem G8 {v lo hi:Int}:ins v lo hi=false↔¬ (lo≤v∧v≤hi):=by rw [← aJ]; simp
structure Shape where
  Groups:Int
  Column:Int
  Data:Int
  Spare:Int
  Rows:Int
  Cap:Int
  Batch:Int
  Queue:Int
  Stage:Int
def Shape.v (s:Shape):Value := .agg #[.int .i64 s.Groups,.int .i64 s.Column,.int .i64 s.Data,.int .i64 s.Spare,.int .i64 s.Rows,.int .i64 s.Cap,.int .i64 s.Batch,.int .i64 s.Queue,.int .i64 s.Stage]
def cOK (g c:Int):Bool:=ins g 1 4 && ins c 0 2
def rOK (d s:Int):Bool:=ins d 1 3 && ins s 0 2
def Shape.ok (s:Shape):Bool:=cOK s.Groups s.Column && rOK s.Data s.Spare && ins s.Rows 1 6 && ins s.Cap 1 6 && ins s.Batch 1 4 && ins s.Queue 1 6 && ins s.Stage 0 400
def Shape.fault (s:Shape):Int:=if s.ok then 0 else 3
theorem Shape.no {s:Shape}(h:(!s.ok)=true):Value.int .i64 3 = .int .i64 s.fault:=by
  unfold Shape.fault; cases hs:s.ok<;>simp_all
theorem Shape.yes {s:Shape}(h:(!s.ok)=false):Value.int .i64 0 = .int .i64 s.fault:=by
  unfold Shape.fault; cases hs:s.ok<;>simp_all
theorem fI {b:Bool}(h:(!b)=true):b=false:=by cases b<;>simp_all
theorem aU {b:Bool}(h:(!b)=false):b=true:=by cases b<;>simp_all
end Go.Wk
namespace Go.Wk
open Rp (sz own)
def Fd (i:Nat) (c:UInt8):Bool:=(decide (97≤(c.toNat:Int)) && decide ((c.toNat:Int)≤122)) || (!(decide (i=0)) && (decide (48≤(c.toNat:Int)) && decide ((c.toNat:Int)≤57)))
def BO (b:ByteArray):Nat→Bool
  | 0=>true
  | k+1=>BO b k && Fd k (gB b k)
theorem wD {b:ByteArray}:∀ {n:Nat},BO b n=true→∀ k,k<n→Fd k (gB b k)=true
  | 0,_,k,hk=>by omega
  | n+1,h,k,hk=>by
    unfold BO at h
    simp only [Bool.and_eq_true] at h
    by_cases e:k=n
    · subst e; exact h.2
    · exact wD h.1 k ω
def m7 (b:ByteArray):Bool:=decide (1≤b.size) && decide (b.size≤8) && BO b b.size
def db (b:ByteArray):Int:=if m7 b then 0 else 5
theorem AN {b:ByteArray}(h:m7 b=false):Value.int .i64 5 = .int .i64 (db b):=by simp [db,h]
theorem Ez {b:ByteArray}(h:m7 b=true):Value.int .i64 0 = .int .i64 (db b):=by simp [db,h]
theorem Aq {b:ByteArray}(k:Nat) (hk:k<b.size) (h:Fd k (gB b k)=false):m7 b=false:=by
  cases hn:m7 b with
  | false=>rfl
  | true=>
    unfold m7 at hn
    simp only [Bool.and_eq_true] at hn
    rw [wD hn.2 k hk] at h
    cases h
theorem iR {s:Shape}(h:s.fault=0):s.ok=true:=by
  unfold Shape.fault at h
  split at h
  · assumption
  · omega
structure Ticket where
  Id:Int
  Kind:Int
  Name:ByteArray
  Group:Int
def Ticket.v (t:Ticket):Value := .agg #[.int .i64 t.Id,.int .i64 t.Kind,.string t.Name,.int .i64 t.Group]
theorem aG {s:Shape}(h:s.ok=true):1≤s.Groups∧s.Groups≤4∧0≤s.Column∧s.Column≤2∧1≤s.Data∧s.Data≤3∧0≤s.Spare∧s.Spare≤2∧1≤s.Rows∧s.Rows≤6∧1≤s.Cap∧s.Cap≤6∧1≤s.Batch∧s.Batch≤4∧1≤s.Queue∧s.Queue≤6∧0≤s.Stage∧s.Stage≤400:=by
  unfold Shape.ok cOK rOK at h
  simp only [Bool.and_eq_true,aJ] at h
  omega
theorem FI {a b:ByteArray}:a.toList=b.toList↔a=b:=by
  rw [ByteArray.toList_eq,ByteArray.toList_eq]
  exact ⟨fun h=>WideShapes.bytes_inj h,fun h=>by rw [h]⟩
theorem AQ {a b:ByteArray}:(a.toList == b.toList)=decide (a=b):=by
  rw [Bool.eq_iff_iff]
  simp [FI]
end Go.Wk
namespace Go.Wk
open Rp (sz own)
open Go.ChangeShapes Go.WideShapes Go.ChangeAt Go.RowKit
theorem wx {cs:List Value}{v:Value}(n:Nat) (h:v∈cs):v∈cs.take n∨v∈cs.drop n:=by
  rw [← List.take_append_drop n cs] at h
  exact List.mem_append.1 h
instance {α β:Type}[Rp α] [Rp β]:Rp (α × β) where
  sz:=sz α+sz β
  pos:=by have:=Rp.pos (α:=α); omega
  own s w cs x fp:=∃ f1 f2,fp=f1++f2∧own s w (cs.take (sz α)) x.1 f1∧own s w (cs.drop (sz α)) x.2 f2
  len h:=by
    obtain ⟨f1,f2,_,h1,h2⟩:=h
    have a:=Rp.len h1
    have b:=Rp.len h2
    have:=Rp.pos (α:=α)
    have:=Rp.pos (α:=β)
    simp only [List.length_take,List.length_drop] at a b
    omega
  one h v hv:=by
    obtain ⟨f1,f2,_,h1,h2⟩:=h
    rcases wx (sz α) hv with hv | hv
    · exact Rp.one h1 v hv
    · exact Rp.one h2 v hv
  st h hb:=by
    obtain ⟨f1,f2,rfl,h1,h2⟩:=h
    exact ⟨f1,f2,rfl,Rp.st h1 fun b hb'=>hb b (by simp [hb']),Rp.st h2 fun b hb'=>hb b (by simp [hb'])⟩
  lt h b hb:=by
    obtain ⟨f1,f2,rfl,h1,h2⟩:=h
    rcases List.mem_append.1 hb with hb | hb
    · exact Rp.lt h1 b hb
    · exact Rp.lt h2 b hb
  weak h:=by
    obtain ⟨f1,f2,rfl,h1,h2⟩:=h
    exact ⟨f1,f2,rfl,Rp.weak h1,Rp.weak h2⟩
abbrev Rp.via {α β:Type}[Rp β] (f:α→β):Rp α where
  sz:=sz β
  pos:=Rp.pos (α:=β)
  own s w cs x fp:=own s w cs (f x) fp
  len h:=Rp.len h
  one h:=Rp.one h
  st h:=Rp.st h
  lt h:=Rp.lt h
  weak h:=Rp.weak h
def Opens (P:Program) (t:TypeId) (α:Type) [Rp α]:Prop:=
  ∀ (H:Type) (enc:TypeId × Value→H) (w:World) (fuel:Nat) (cs:List Value) (x:DataW H × List MemPlace),
    DataW.trod enc P w 0 (fun _=>true) true fuel t cs=some x→∃ (a:α) (fp:List Nat),own false w cs a fp
section
variable {P:Program}{t e:TypeId}
theorem EW (ht:P.underlying t=some (.int .u8)):Opens P t UInt8:=fun H enc w fuel cs x h=>by
  obtain ⟨n,rfl,_,hw⟩:=DataW.trod_int ht h
  simp [Lit.wf,IntKind.has,IntKind.min,IntKind.max,IntKind.bits,IntKind.signed] at hw
  refine ⟨UInt8.ofNat n.toNat,[],?_,rfl⟩
  have:n=((UInt8.ofNat n.toNat).toNat:Int):=by simp; omega
  rw [← this]
theorem xk (b o n:Nat):Addr.add ⟨b,o,none⟩ n=⟨b,o+n,none⟩:=by
  unfold Addr.add
  split
  · rename_i h; subst h; rfl
  · rfl
theorem yW {w:World}{a:Addr}{n:Nat}{cs:List Value}(hn:0<n) (h:w.cells? 0 a n=some cs):a.spot=none:=by
  obtain ⟨_,hl,hc⟩:=World.cells?_some h
  have:=hc 0 hn
  cases hs:cs[0]? with
  | none=>rw [List.getElem?_eq_none_iff] at hs; omega
  | some v=>
    rw [hs] at this
    have h2:(a.add 0)=a:=by simp [Addr.add]
    rw [h2] at this
    exact World.cell?_spot this
theorem uU {w:World}{b o n:Nat}{cs:List Value}(hn:0<n) (h:w.cells? 0 ⟨b,o,none⟩ n=some cs) :
    ∃ cur T fr,w.heap[b]? = some (.cells cur T fr)∧o+n≤cur.size∧(cur.toList.drop o).take n=cs:=by
  obtain ⟨_,hl,hc⟩:=World.cells?_some h
  simp only [xk] at hc
  have hcell:∀ i,i<n→∃ v,cs[i]? = some v∧w.cell? ⟨b,o+i,none⟩=some v:=fun i hi=>by
    have hlt:i<cs.length:=by omega
    exact ⟨cs[i],σ,by have:=hc i hi; rw [List.getElem?_eq_getElem hlt] at this; exact this⟩
  obtain ⟨v0,_,hv0⟩:=hcell 0 hn
  unfold World.cell? at hv0
  split at hv0
  case h_2=>cases hv0
  case h_1 cur T fr hb=>
    have hget:∀ i,i<n→cur[o+i]? = cs[i]? := fun i hi=>by
      obtain ⟨v,hv,hw⟩:=hcell i hi
      unfold World.cell? at hw
      simp only [hb] at hw
      rw [hv]
      simpa using hw
    refine ⟨cur,T,fr,hb,?_,?_⟩
    · have:=hget (n-1) ω
      rw [List.getElem?_eq_getElem ω] at this
      have:=(Array.getElem?_eq_some_iff.1 this).1
      omega
    · apply List.ext_getElem?
      intro i
      rw [List.getElem?_take]
      split
      · rename_i hi
        rw [List.getElem?_drop,Array.getElem?_toList]
        exact hget i hi
      · rw [List.getElem?_eq_none ω]
theorem Bc {α:Type}[Rp α] {w:World}:∀ (n:Nat) (cs:List Value),(∀ k,k<n→∃ (a:α) (fp:List Nat),own false w ((cs.drop (k*sz α)).take (sz α)) a fp) →
    ∃ (xs:List α) (fp:List Nat),xs.length=n∧bY false w cs xs fp
  | 0,_,_=>⟨[],[],rfl,rfl⟩
  | n+1,cs,h=>by
    obtain ⟨a,f1,h1⟩:=h 0 ω
    obtain ⟨xs,f2,hl,h2⟩:=Bc n (cs.drop (sz α)) fun k hk=>by
      obtain ⟨a,fp,h⟩:=h (k+1) ω
      refine ⟨a,fp,?_⟩
      rw [List.drop_drop]
      rwa [show sz α+k*sz α=(k+1)*sz α from by rw [Nat.add_mul]; omega]
    exact ⟨a::xs,f1++f2,by simp [hl],f1,f2,rfl,by simpa using h1,h2⟩
theorem zJ {α:Type}[Rp α] (ht:P.underlying t=some (.slice e)) (hz:P.cellsOf e=sz α) (ho:Opens P e α):Opens P t (List α):=fun H enc w fuel cs x h=>by
  rcases DataW.trod_slice ht h with ⟨rfl,_⟩ | ⟨a,len,cap,elems,rest,n,_,rfl,rfl,hb,hl,hm,hlen,hel,hsp,hns⟩
  · exact ⟨[],[],.inr (.inl ⟨rfl,rfl,rfl⟩)⟩
  rcases Nat.eq_zero_or_pos len with h0 | h0
  · subst h0
    exact ⟨[],[],.inl ⟨rfl,_,_,rfl,rfl,rfl⟩⟩
  rw [hz] at hel hsp
  have hpos:=Rp.pos (α:=α)
  obtain ⟨hrl,hre⟩:=hsp rfl
  have hs0:a.spot=none:=by
    have h1:=hel 0 h0
    rw [List.getElem?_eq_getElem ω,Option.bind_eq_some_iff] at h1
    obtain ⟨c,h1,_⟩:=h1
    rw [show (a.add (0*sz α))=a from by simp [Addr.add]] at h1
    exact yW hpos h1
  obtain ⟨b,o,sp⟩:=a
  subst hs0
  simp only [xk] at hel hre
  have all:∀ i,i<cap→∃ (c:List Value) (y:DataW H × List MemPlace),w.cells? 0 ⟨b,o+i*sz α,none⟩ (sz α)=some c∧DataW.trod enc P w 0 (fun _=>true) true n e c=some y:=fun i hi=>by
    have:∃ y,(w.cells? 0 ⟨b,o+i*sz α,none⟩ (sz α)).bind (DataW.trod enc P w 0 (fun _=>true) true n e)=some y:=by
      by_cases hi':i<len
      · exact ⟨elems[i]'(by omega),(hel i hi').trans (List.getElem?_eq_getElem _)⟩
      · have:=hre (i-len) ω
        rw [show len+(i-len)=i from by omega] at this
        exact ⟨rest[i-len]'(by omega),this.trans (List.getElem?_eq_getElem _)⟩
    obtain ⟨y,hy⟩:=this
    rw [Option.bind_eq_some_iff] at hy
    obtain ⟨c,h1,h2⟩:=hy
    exact ⟨c,y,h1,h2⟩
  obtain ⟨c0,_,hc0,_⟩:=all 0 ω
  obtain ⟨cur,T,fr,hbk,_,_⟩:=uU hpos hc0
  have each:∀ i,i<cap→∃ (c:List Value) (y:DataW H × List MemPlace),o+i*sz α+sz α≤cur.size∧(cur.toList.drop (o+i*sz α)).take (sz α)=c∧DataW.trod enc P w 0 (fun _=>true) true n e c=some y:=fun i hi=>by
    obtain ⟨c,y,h1,h2⟩:=all i hi
    obtain ⟨cur',T',fr',hbk',h3,h4⟩:=uU hpos h1
    rw [hbk] at hbk'
    simp only [Option.some.injEq,Obj.cells.injEq] at hbk'
    obtain ⟨rfl,_⟩:=hbk'
    exact ⟨c,y,h3,h4,h2⟩
  obtain ⟨xs,fs,hxl,hxs⟩:=Bc (α:=α) (w:=w) len (cur.toList.drop o) fun k hk=>by
    obtain ⟨c,y,_,h2,h3⟩:=each k ω
    obtain ⟨a,fp,ha⟩:=ho H enc w n c y h3
    refine ⟨a,fp,?_⟩
    rw [List.drop_drop,h2]
    exact ha
  refine ⟨xs,b::fs,.inr (.inr ⟨b,o,cap,cur,T,fr,fs,by rw [hxl],rfl,hbk,(fun h=>by cases h),ω,hm,?_,hxs⟩)⟩
  obtain ⟨_,_,h1,_⟩:=each (cap-1) ω
  have:cap*sz α=(cap-1)*sz α+sz α:=by
    rw [← Nat.succ_mul,Nat.succ_eq_add_one,Nat.sub_add_cancel ω]
  omega
theorem EE {α:Type}[Rp α] (o:Opens P t α) {H:Type}{enc:TypeId × Value→H}{w:World}{v:Value}{d:DataW H}{ps:List MemPlace}
    (hd:DataW.Trod enc P w 0 (fun _=>true) true t v d ps):∃ (a:α) (fp:List Nat),own false w v.cells.toList a fp:=by
  obtain ⟨fuel,hf⟩:=hd
  exact o H enc w fuel _ _ hf
end
theorem Ext.below {w w':World}(h:Ext No w w'):Below w.heap.size w w':=⟨h.os,h.tape,h.output,h.size,fun k hk=>h.block k hk (fun h=>h)⟩
instance:Rp Shape:=Rp.via fun x=>(x.Groups,x.Column,x.Data,x.Spare,x.Rows,x.Cap,x.Batch,x.Queue,x.Stage)
theorem b0 {α β:Type}[Rp α] [Rp β] {s w cs} {a:α}{b:β}{fp} (h:own s w cs (a,b) fp):∃ c1 c2 f1 f2,cs=c1++c2∧fp=f1++f2∧own s w c1 a f1∧own s w c2 b f2:=by
  obtain ⟨f1,f2,e,h1,h2⟩:=h
  exact ⟨_,_,f1,f2,(List.take_append_drop _ _).symm,e,h1,h2⟩
def Shape.Ok (x:Shape):Prop:=I64ok x.Groups∧I64ok x.Column∧I64ok x.Data∧I64ok x.Spare∧I64ok x.Rows∧I64ok x.Cap∧I64ok x.Batch∧I64ok x.Queue∧I64ok x.Stage
end Go.Wk
namespace Go.Wk
open Rp (sz own)
def Sees {α:Type}[Rp α] (w:World) (cs:List Value) (x:α):Prop:=∃ f,own false w cs x f
theorem az {α:Type}[Rp α] {s w cs} {x:α}{f} (h:own s w cs x f):own false w cs x f:=by
  cases s
  · exact h
  · exact Rp.weak h
section
variable {M:Nat→Prop}{w0 w w':World}{Δ F G:List Rsc}{α:Type}[Rp α]
theorem Sep.sees (h:Sep M w0 Δ F w) (i:Nat) {s cs fp} {x:α}(hi:F[i]? = some (Wk.seen s cs x fp)):Sees w cs x:=⟨fp,az (h.seen i hi)⟩
theorem Sep.msees (h:Sep M w0 Δ F w) (i:Nat) {cs fp} {x:α}(hi:Δ[i]? = some (Wk.mine cs x fp)):Sees w cs x:=⟨fp,Rp.weak (h.mine i hi)⟩
theorem Sep.look {r:Rsc}(h:Sep M w0 Δ F w) (hr:r.φ w) (hd:∀ b∈r.fp,b ∉ blocks Δ):Sep M w0 Δ (F++[r]) w:=
  ⟨h.ext,h.rs,h.nd,h.new,fun p hp=>by
    rcases List.mem_append.1 hp with hp | hp
    · exact h.fs p hp
    · simp at hp; subst hp; exact hr,fun p hp=>by
    rcases List.mem_append.1 hp with hp | hp
    · exact h.ap p hp
    · simp at hp; subst hp; exact hd⟩
theorem Sep.look1 {β:Type}[Rp β] (h:Sep M w0 Δ F w) (i:Nat) {s cs fp} {x:α}(hi:F[i]? = some (Wk.seen s cs x fp)) {s' cs' f} {y:β}(ho:own s' w cs' y f) (hs:∀ b∈f,b∈fp) :
    Sep M w0 Δ (F++[Wk.seen s' cs' y f]) w:=
  h.look (r:=Wk.seen s' cs' y f) ho fun b hb=>h.ap _ (List.mem_of_getElem? hi) b (hs b hb)
theorem Sep.fsub (h:Sep M w0 Δ (F++G) w):Sep M w0 Δ F w:=
  ⟨h.ext,h.rs,h.nd,h.new,fun p hp=>h.fs p (by simp [hp]),fun p hp=>h.ap p (by simp [hp])⟩
theorem Sep.ftake (h:Sep M w0 Δ F w) (n:Nat):Sep M w0 Δ (F.take n) w:=
  Sep.fsub (G:=F.drop n) (by rw [List.take_append_drop]; exact h)
theorem Sep.dtake (h:Sep M w0 Δ F w) (n:Nat):Sep M w0 (Δ.take n) F w:=h.sub (List.take_sublist _ _)
theorem Sep.share (h:Sep M w0 Δ F w) (i:Nat) {cs fp} {x:α}(hi:Δ[i]? = some (Wk.mine cs x fp)):Sep M w0 (Δ.set i gone) (F++[Wk.seen true cs x fp]) w:=by
  have hm:=List.mem_of_getElem? hi
  have hnm:=iX hi h.nd
  have h':Sep M w0 (Δ.set i gone) F w:=by
    refine ⟨h.ext,fun p hp=>?_,jJ hi h.nd (by simp [gone]) (by simp [gone]),fun b hb=>?_,h.fs,fun p hp b hb hx=>?_⟩
    · rcases iD hi h.nd p hp with rfl | ⟨hp,_⟩
      · trivial
      · exact h.rs p hp
    · rcases eX hi b hb with hb | hb
      · simp [gone] at hb
      · exact h.new b hb
    · rcases eX hi b hx with hx | hx
      · simp [gone] at hx
      · exact h.ap p hp b hb hx
  exact h'.look (r:=Wk.seen true cs x fp) (h.mine i hi) hnm
end
theorem fo {β:Type}[Rp β] {s w ad n cap} {xs:List (List β)}{fp} (h:own s w [.slice ad n cap] xs fp) (k:Nat) (hk:k<xs.length) :
    ∃ b o a c f,ad=some ⟨b,o,none⟩∧w.cell? ⟨b,o+k*1,none⟩=some (.slice a (xs.getD k []).length c)∧own s w [.slice a (xs.getD k []).length c] (xs.getD k []) f∧∀ b∈f,b∈fp:=by
  obtain ⟨b,o,cs,f,h1,h2,h3,h4,_⟩:=ij h k hk
  rw [show xs.getD k []=xs[k] from by simp [List.getD,hk]]
  obtain ⟨a,c,rfl⟩:=an h3
  exact ⟨b,o,a,c,f,h1,h2 0 _ rfl,h3,h4⟩
theorem eJ {s w ad n cap} {xs:List Int}{fp} (h:own s w [.slice ad n cap] xs fp) (k:Nat) (hk:k<xs.length):I64ok (xs.getD k 0):=by
  obtain ⟨b,o,cs,f,_,_,h3,_⟩:=ij h k hk
  rw [show xs.getD k 0=xs[k] from by simp [List.getD,hk]]
  exact (dG h3).2.2
theorem Em {α:Type}[Rp α] {w ad n cap} {xs:List α}(h:Sees w [.slice ad n cap] xs):xs.length≤maxLen:=by
  obtain ⟨f,h⟩:=h
  exact jN h
theorem Sep.elset2 {α:Type}[Rp α] {M:Nat→Prop}{w0 w:World}{Δ F:List Rsc}(h:Sep M w0 Δ F w) (i j:Nat) {ad n cap} {xs:List α}{fp:List Nat}(hi:Δ[i]? = some (Wk.mine [.slice ad n cap] xs fp))
    {vs:List Value}{x:α}{fx:List Nat}(hj:Δ[j]? = some (Wk.mine vs x fx)) (hij:Nat.beq j i=false) (k:Nat) (hk:k<xs.length) :
    ∃ b o cur T fp',ad=some ⟨b,o,none⟩∧w.heap[b]? = some (.cells cur T (0,0))∧o+k*sz α+sz α≤cur.size ∧
      Sep M w0 ((Δ.set j gone).set i (Wk.mine [.slice ad n cap] (xs.set k x) fp')) F (Wk.put w b (.cells (lay cur (o+k*sz α) vs) T (0,0))):=by
  have hnd:=h.nodup1 hi
  have hvs:=h.mine j hj
  have hap:=h.apart hi hj hij
  have hndx:=h.nodup1 hj
  obtain ⟨b,o,cur,T,f1,fk,f2,e1,e2,hb,hsz,hx,hback⟩:=pt (h.mine i hi) k hk
  refine ⟨b,o,cur,T,b::(f1++(fx++f2)),e1,hb,hsz,?_⟩
  have hl:=Rp.len hvs
  have hltx:=Rp.lt hvs
  change fp.Nodup at hnd
  change fx.Nodup at hndx
  change ∀ b∈fx,b ∉ fp at hap
  subst e2
  obtain ⟨n1,n2⟩:=List.nodup_cons.1 hnd
  have hE:Ext (· = b) w (Wk.put w b (.cells (lay cur (o+k*sz α) vs) T (0,0))):=Ext.refl.put (.inl rfl)
  have hlt:=Rp.lt (h.mine i hi)
  have hk1:(k+1)*sz α=k*sz α+sz α:=by rw [Nat.add_mul,Nat.one_mul]
  refine h.set2 hi hj hij (q:=Wk.mine [.slice ad n cap] (xs.set k x) (b::(f1++(fx++f2)))) (hE.mono fun b' _ e=>by subst e; simp [Wk.mine]) ?_ ?_ ?_
  · refine hback _ _ x fx (jc hb) (pc _ _ _) (fun j hj=>wk _ _ _ _ (by rcases hj with hj | hj; exact .inl hj; exact .inr (by rw [hl,Nat.add_assoc,← hk1]; exact hj))) (fun b' hb'=>hE.block b' (hlt b' (by simp [hb'])) fun e=>?_) (fun b' hb'=>hE.block b' (hlt b' (by simp [hb'])) fun e=>?_) ?_
    · subst e; exact n1 (by simp [hb'])
    · subst e; exact n1 (by simp [hb'])
    · have hst:own true (Wk.put w b (.cells (lay cur (o+k*sz α) vs) T (0,0))) vs x fx:=Rp.st hvs fun b' hb'=>hE.block b' (hltx b' hb') fun e=>by subst e; exact hap b' hb' σ
      have hpt:=tG vs cur (o+k*sz α) (by rw [hl]; omega)
      rw [hl] at hpt
      rw [hpt]
      exact hst
  · change (b::(f1++(fx++f2))).Nodup
    rw [List.nodup_append,List.nodup_append] at n2
    obtain ⟨d1,⟨d2,d3,d4⟩,d5⟩:=n2
    refine List.nodup_cons.2 ⟨fun hm=>?_,List.nodup_append.2 ⟨d1,List.nodup_append.2 ⟨hndx,d3,fun p hp q hq e=>?_⟩,fun p hp q hq e=>?_⟩⟩
    · simp only [List.mem_append,not_or] at hm n1
      rcases hm with hm | hm | hm
      · exact n1.1 hm
      · exact hap b hm σ
      · exact n1.2.2 hm
    · subst e; exact hap p hp (by simp [hq])
    · subst e
      rcases List.mem_append.1 hq with hq | hq
      · exact hap p hq (by simp [hp])
      · exact d5 p hp p (by simp [hq]) rfl
  · intro b' hb'
    change b'∈b::(f1++(fx++f2)) at hb'
    change b'∈b::(f1++(fk++f2))∨b'∈fx∨_
    simp only [List.mem_cons,List.mem_append] at hb' ⊢
    rcases hb' with h | h | h | h
    · exact .inl (.inl h)
    · exact .inl (.inr (.inl h))
    · exact .inr (.inl h)
    · exact .inl (.inr (.inr (.inr h)))
theorem fw {α:Type}{d:α}{xs ys:List α}(hl:xs.length=ys.length) (h:∀ k,k<xs.length→xs.getD k d=ys.getD k d):xs=ys:=by
  apply List.ext_getElem hl
  intro k h1 h2
  have:=h k h1
  simpa [List.getD,h1,h2] using this
theorem ms {α:Type}{d:α}{xs:List α}{k:Nat}(h:k<xs.length):xs.take (k+1)=xs.take k++[xs.getD k d]:=by
  rw [List.take_succ_eq_append_getElem h]
  simp [List.getD,h]
theorem ic {α:Type}[Rp α] {s w ad n cap} {xs:List α}{fp} (h:own s w [.slice ad n cap] xs fp) (k:Nat) (hk:k<xs.length):∃ b o,ad=some ⟨b,o,none⟩:=by
  obtain ⟨b,o,_,_,h1,_⟩:=ij h k hk
  exact ⟨b,o,h1⟩
def gZ (f:Nat→Nat):Nat→Nat
  | 0=>0
  | k+1=>gZ f k+f k
theorem Bm {f:Nat→Nat}{j:Nat}:∀ {k:Nat},j≤k→gZ f j≤gZ f k
  | 0,h=>by
    have:j=0:=by omega
    subst this; exact Nat.le_refl _
  | k+1,h=>by
    rcases Nat.lt_or_ge k j with h1 | h1
    · have:j=k+1:=by omega
      subst this; exact Nat.le_refl _
    · have:=Bm (f:=f) h1
      show _≤gZ f k+f k
      omega
theorem tw {α:Type}{d x:α}{xs:List α}{k:Nat}(h:k<xs.length) (e:xs.getD k d=x):x∈xs:=by
  subst e
  simp [List.getD,h]
theorem vz {α:Type}{d x:α}{xs:List α}(h:∀ k,k<xs.length→xs.getD k d≠x):¬ x∈xs:=fun hm=>by
  obtain ⟨k,hk,e⟩:=List.getElem_of_mem hm
  exact h k hk (by simp [List.getD,hk,e])
def idxOf (xs:List Int) (x:Int):Int:=if x∈xs then (xs.idxOf x:Nat) else -1
theorem DP {xs:List Int}{x:Int}(h:∀ k,k<xs.length→xs.getD k 0≠x):idxOf xs x = -1:=by
  unfold idxOf; rw [if_neg (vz h)]
theorem Dm {xs:List Int}{x:Int}{k:Nat}(hk:k<xs.length) (e:xs.getD k 0=x) (h:∀ i,i<k→xs.getD i 0≠x):idxOf xs x=k:=by
  unfold idxOf
  rw [if_pos (tw hk e)]
  have hm:=tw hk e
  have h1:xs.idxOf x<xs.length:=List.idxOf_lt_length_iff.2 hm
  have h2:xs[xs.idxOf x]=x:=List.getElem_idxOf h1
  have h3:¬ xs.idxOf x<k:=fun hlt=>h _ hlt (by simp [List.getD,h1,h2])
  have h4:¬ k<xs.idxOf x:=fun hlt=>by
    have:=List.not_of_lt_findIdx (p:=(· == x)) (xs:=xs) hlt
    simp [List.getD,hk] at e
    simp [e] at this
  omega
theorem B4 {xs:List Int}{x:Int}:decide (0≤idxOf xs x)=decide (x∈xs):=by
  unfold idxOf
  by_cases h:x∈xs
  · rw [if_pos h]; simp [h]
  · rw [if_neg h]; simp [h]
theorem lO {a b:UInt8}:((a.toNat:Int)=(b.toNat:Int))↔a=b:=by
  constructor
  · intro h
    exact UInt8.toNat_inj.1 ω
  · intro h; rw [h]
end Go.Wk
namespace Go.Wk
section
theorem oL {α:Type}[Rp α] {s w ad n cap} {xs:List α}{fp} (h:Rp.own s w [.slice ad n cap] xs fp):xs.length≤2^63-1:=jN h
theorem sL {α:Type}[Rp α] {w ad n cap} {xs:List α}(h:Sees w [.slice ad n cap] xs):xs.length≤2^63-1:=Em h
end
end Go.Wk
namespace Go.Wk
open Rp (sz own)
theorem cr {α β:Type}[Rp α] [Rp β] {s w c1 c2} {a:α}{b:β}{f1 f2} (h1:own s w c1 a f1) (h2:own s w c2 b f2):own s w (c1++c2) (a,b) (f1++f2):=by
  have hl:=Rp.len h1
  refine ⟨f1,f2,rfl,?_,?_⟩
  · rw [← hl,List.take_left]; exact h1
  · rw [← hl,List.drop_left]; exact h2
theorem dE {s w} {x:Int}(h:I64ok x):own s w [.int .i64 x] x []:=⟨rfl,rfl,h⟩
theorem Gs {s w} {x:ByteArray}(h:x.size≤maxLen):own s w [.string x] (Str.mk x) []:=⟨rfl,rfl,h⟩
theorem vu {s w} {x:Bool}:own s w [.bool x] x []:=⟨rfl,rfl⟩
theorem jm {α:Type}[Rp α] {s w cs} {x:α}{f g} (h:own s w cs x f) (e:f=g):own s w cs x g:=e ▸ h
structure Rec where
  Kind:Int
  Seq:Int
  Name:ByteArray
  Length:Int
  Group:Int
  Row:Int
  Rows:List Int
  Data:List UInt8
  Delta:List UInt8
instance:Rp Rec:=Rp.via fun x=>(x.Kind,x.Seq,Str.mk x.Name,x.Length,x.Group,x.Row,x.Rows,x.Data,x.Delta)
noncomputable instance:DecidableEq Rec:=fun _ _=>Classical.propDecidable _
instance:Inhabited Rec:=⟨⟨0,0,⟨#[]⟩,0,0,0,[],[],[]⟩⟩
def Rec.val (x:Rec) (A6:Option Addr) (C6:Nat) (A7:Option Addr) (C7:Nat) (A8:Option Addr) (C8:Nat):Value := .agg #[.int .i64 x.Kind,.int .i64 x.Seq,.string x.Name,.int .i64 x.Length,.int .i64 x.Group,.int .i64 x.Row,.slice A6 x.Rows.length C6,.slice A7 x.Data.length C7,.slice A8 x.Delta.length C8]
def Rec.Ok (x:Rec):Prop:=I64ok x.Kind∧I64ok x.Seq∧x.Name.size≤maxLen∧I64ok x.Length∧I64ok x.Group∧I64ok x.Row
theorem l5 {s w cs} {x:Rec}{fp} (h:own s w cs x fp):∃ (A6:Option Addr) (C6:Nat) (A7:Option Addr) (C7:Nat) (A8:Option Addr) (C8:Nat) (f6:List Nat) (f7:List Nat) (f8:List Nat) ,cs=[.int .i64 x.Kind,.int .i64 x.Seq,.string x.Name,.int .i64 x.Length,.int .i64 x.Group,.int .i64 x.Row,.slice A6 x.Rows.length C6,.slice A7 x.Data.length C7,.slice A8 x.Delta.length C8]∧fp=f6++(f7++(f8))∧x.Ok∧own s w [.slice A6 x.Rows.length C6] x.Rows f6∧own s w [.slice A7 x.Data.length C7] x.Data f7∧own s w [.slice A8 x.Delta.length C8] x.Delta f8:=by
  obtain ⟨_,_,_,_,rfl,e0,h0,k0⟩:=b0 h
  obtain ⟨rfl,rfl,i0⟩:=dG h0
  obtain ⟨_,_,_,_,rfl,e1,h1,k1⟩:=b0 k0
  obtain ⟨rfl,rfl,i1⟩:=dG h1
  obtain ⟨_,_,_,_,rfl,e2,h2,k2⟩:=b0 k1
  obtain ⟨rfl,rfl,i2⟩:=h2
  obtain ⟨_,_,_,_,rfl,e3,h3,k3⟩:=b0 k2
  obtain ⟨rfl,rfl,i3⟩:=dG h3
  obtain ⟨_,_,_,_,rfl,e4,h4,k4⟩:=b0 k3
  obtain ⟨rfl,rfl,i4⟩:=dG h4
  obtain ⟨_,_,_,_,rfl,e5,h5,k5⟩:=b0 k4
  obtain ⟨rfl,rfl,i5⟩:=dG h5
  obtain ⟨_,_,_,_,rfl,e6,h6,k6⟩:=b0 k5
  obtain ⟨A6,C6,rfl⟩:=an h6
  obtain ⟨_,_,_,_,rfl,e7,h7,k7⟩:=b0 k6
  obtain ⟨A7,C7,rfl⟩:=an h7
  obtain ⟨A8,C8,rfl⟩:=an k7
  exact ⟨A6,C6,A7,C7,A8,C8,_,_,_,rfl,by subst_vars; simp,⟨i0,i1,i2,i3,i4,i5⟩,h6,h7,k7⟩
theorem wX {s w A6 C6 A7 C7 A8 C8} {x:Rec}{fp} (h:own s w [.int .i64 x.Kind,.int .i64 x.Seq,.string x.Name,.int .i64 x.Length,.int .i64 x.Group,.int .i64 x.Row,.slice A6 x.Rows.length C6,.slice A7 x.Data.length C7,.slice A8 x.Delta.length C8] x fp):∃ (f6:List Nat) (f7:List Nat) (f8:List Nat),fp=f6++(f7++(f8))∧x.Ok∧own s w [.slice A6 x.Rows.length C6] x.Rows f6∧own s w [.slice A7 x.Data.length C7] x.Data f7∧own s w [.slice A8 x.Delta.length C8] x.Delta f8:=by
  obtain ⟨_,_,_,_,_,_,f6,f7,f8,e,ef,ok,o6,o7,o8⟩:=l5 h
  simp only [List.cons.injEq,Value.slice.injEq,and_true,true_and] at e
  obtain ⟨⟨rfl,rfl⟩,⟨rfl,rfl⟩,⟨rfl,rfl⟩⟩:=e
  exact ⟨f6,f7,f8,ef,ok,o6,o7,o8⟩
theorem Rec.own_mk {s:Bool}{w:World}{x:Rec}{A6:Option Addr}{C6:Nat}{A7:Option Addr}{C7:Nat}{A8:Option Addr}{C8:Nat}{f6:List Nat}{f7:List Nat}{f8:List Nat}(ok:x.Ok) (o6:own s w [.slice A6 x.Rows.length C6] x.Rows f6) (o7:own s w [.slice A7 x.Data.length C7] x.Data f7) (o8:own s w [.slice A8 x.Delta.length C8] x.Delta f8):own s w [.int .i64 x.Kind,.int .i64 x.Seq,.string x.Name,.int .i64 x.Length,.int .i64 x.Group,.int .i64 x.Row,.slice A6 x.Rows.length C6,.slice A7 x.Data.length C7,.slice A8 x.Delta.length C8] x (f6++(f7++(f8))):=by
  obtain ⟨i0,i1,i2,i3,i4,i5⟩:=ok
  have h:own s w _ (x.Kind,x.Seq,Str.mk x.Name,x.Length,x.Group,x.Row,x.Rows,x.Data,x.Delta) _:=(cr (dE i0) (cr (dE i1) (cr (Gs i2) (cr (dE i3) (cr (dE i4) (cr (dE i5) (cr o6 (cr o7 o8))))))))
  refine jm h ?_
  simp
theorem Rec.out {w0 w:World}{F:List Rsc}{x:Rec}{A6:Option Addr}{C6:Nat}{A7:Option Addr}{C7:Nat}{A8:Option Addr}{C8:Nat}{f6:List Nat}{f7:List Nat}{f8:List Nat}(h:Sep No w0 [mine [.slice A6 x.Rows.length C6] x.Rows f6,mine [.slice A7 x.Data.length C7] x.Data f7,mine [.slice A8 x.Delta.length C8] x.Delta f8] F w) (ok:x.Ok):Res w0 w [.int .i64 x.Kind,.int .i64 x.Seq,.string x.Name,.int .i64 x.Length,.int .i64 x.Group,.int .i64 x.Row,.slice A6 x.Rows.length C6,.slice A7 x.Data.length C7,.slice A8 x.Delta.length C8] x:=
  ⟨_,Rec.own_mk ok (h.mine 0 rfl) (h.mine 1 rfl) (h.mine 2 rfl),by have:=h.nd; simpa [blocks,mine] using this,fun b hb=>(h.new b (by simpa [blocks,mine] using hb)).resolve_left id⟩
structure BytesResult where
  Code:Int
  Bytes:List UInt8
instance:Rp BytesResult:=Rp.via fun x=>(x.Code,x.Bytes)
def BytesResult.val (x:BytesResult) (A1:Option Addr) (C1:Nat):Value := .agg #[.int .i64 x.Code,.slice A1 x.Bytes.length C1]
def BytesResult.Ok (x:BytesResult):Prop:=I64ok x.Code
theorem rF {s w cs} {x:BytesResult}{fp} (h:own s w cs x fp):∃ (A1:Option Addr) (C1:Nat) (f1:List Nat) ,cs=[.int .i64 x.Code,.slice A1 x.Bytes.length C1]∧fp=f1∧x.Ok∧own s w [.slice A1 x.Bytes.length C1] x.Bytes f1:=by
  obtain ⟨_,_,_,_,rfl,e0,h0,k0⟩:=b0 h
  obtain ⟨rfl,rfl,i0⟩:=dG h0
  obtain ⟨A1,C1,rfl⟩:=an k0
  exact ⟨A1,C1,_,rfl,by subst_vars; simp,i0,k0⟩
theorem qb {s w A1 C1} {x:BytesResult}{fp} (h:own s w [.int .i64 x.Code,.slice A1 x.Bytes.length C1] x fp):∃ (f1:List Nat),fp=f1∧x.Ok∧own s w [.slice A1 x.Bytes.length C1] x.Bytes f1:=by
  obtain ⟨_,_,f1,e,ef,ok,o1⟩:=rF h
  simp only [List.cons.injEq,Value.slice.injEq,and_true,true_and] at e
  obtain ⟨rfl,rfl⟩:=e
  exact ⟨f1,ef,ok,o1⟩
theorem BytesResult.own_mk {s:Bool}{w:World}{x:BytesResult}{A1:Option Addr}{C1:Nat}{f1:List Nat}(ok:x.Ok) (o1:own s w [.slice A1 x.Bytes.length C1] x.Bytes f1):own s w [.int .i64 x.Code,.slice A1 x.Bytes.length C1] x (f1):=by
  have i0:=ok
  have h:own s w _ (x.Code,x.Bytes) _:=(cr (dE i0) o1)
  refine jm h ?_
  simp
theorem BytesResult.out {w0 w:World}{F:List Rsc}{x:BytesResult}{A1:Option Addr}{C1:Nat}{f1:List Nat}(h:Sep No w0 [mine [.slice A1 x.Bytes.length C1] x.Bytes f1] F w) (ok:x.Ok):Res w0 w [.int .i64 x.Code,.slice A1 x.Bytes.length C1] x:=
  ⟨_,BytesResult.own_mk ok (h.mine 0 rfl),by have:=h.nd; simpa [blocks,mine] using this,fun b hb=>(h.new b (by simpa [blocks,mine] using hb)).resolve_left id⟩
end Go.Wk
namespace Go.Wk
open Rp (sz own)
def zn (k:Int):UInt8:=UInt8.ofNat (k % 256).toNat
theorem FL (k:Int):IntKind.u8.wrap k=((zn k).toNat:Int):=by
  unfold zn
  simp [IntKind.wrap,IntKind.bits,IntKind.signed]
  omega
def Mut {α:Type}[Rp α] (w w':World) (fp:List Nat) (cs:List Value) (x':α):Prop:=
  Ext (· ∈ fp) w w'∧∃ fp',own true w' cs x' fp'∧fp'.Nodup∧∀ b∈fp',b∈fp∨w.heap.size≤b
section
variable {M:Nat→Prop}{w0 w w':World}{Δ F:List Rsc}{α:Type}[Rp α]
theorem Sep.begin {cs:List Value}{x:α}{fp:List Nat}(h:own true w cs x fp) (hn:fp.Nodup):Sep (· ∈ fp) w [Wk.mine cs x fp] [] w:=
  ⟨Ext.refl,by simpa [Wk.mine] using h,by simpa [blocks,Wk.mine] using hn,fun b hb => .inl (by simpa [blocks,Wk.mine] using hb),σ,σ⟩
theorem Sep.done {cs:List Value}{x:α}{fp fp':List Nat}(h:Sep (· ∈ fp) w0 [Wk.mine cs x fp'] F w):Mut w0 w fp cs x:=
  ⟨h.ext,fp',h.mine 0 rfl,by simpa [blocks,Wk.mine] using h.nd,fun b hb=>h.new b (by simpa [blocks,Wk.mine] using hb)⟩
theorem Sep.mut (h:Sep M w0 Δ F w) (i:Nat) {cs cs'} {x x':α}{fp} (hi:Δ[i]? = some (Wk.mine cs x fp)) (hm:Mut w w' fp cs' x'):∃ fp',Sep M w0 (Δ.set i (Wk.mine cs' x' fp')) F w':=by
  obtain ⟨e,fp',h1,h2,h3⟩:=hm
  exact ⟨fp',h.set hi (q:=Wk.mine cs' x' fp') e h1 h2 h3⟩
end
theorem oB {f g:Nat→Nat}:∀ {k:Nat},(∀ i,i<k→f i=g i)→gZ f k=gZ g k
  | 0,_=>rfl
  | k+1,h=>by
    show gZ f k+f k=gZ g k+g k
    rw [oB fun i hi=>h i ω,h k ω]
theorem eqI {kd:IntKind}{a b:Int}(h:a=b):some (Value.int kd a)=some (Value.int kd b):=by rw [h]
theorem bM {α:Type}{d y:α}{xs:List α}{k j:Nat}:(xs.set k y).getD j d=if j=k∧k<xs.length then y else xs.getD j d:=by
  simp only [List.getD,List.getElem?_set]
  by_cases h1:k=j
  · subst h1
    by_cases h2:k<xs.length
    · simp [h2]
    · simp [h2]
  · rw [if_neg h1,if_neg (fun e=>h1 e.1.symm)]
end Go.Wk
namespace Go.Wk
def kQ (a:UInt8) (k:Nat):UInt8:=UInt8.ofNat (a.toNat / 2^k)
def ub (a:UInt8) (k:Nat):UInt8:=UInt8.ofNat (a.toNat*2^k)
theorem iI {a:UInt8}{k:Nat}:(kQ a k).toNat=a.toNat / 2^k:=by
  unfold kQ
  have:=a.toNat_lt
  have h:a.toNat / 2^k≤a.toNat:=Nat.div_le_self _ _
  simp; omega
theorem GC {i:Nat}(h:i<256):IntKind.u8.wrap (i:Int)=i:=by
  simp [IntKind.wrap,IntKind.bits,IntKind.signed]; omega
theorem GS {i:Nat}(h:i<9223372036854775808):IntKind.i64.wrap (i:Int)=i:=by
  simp [IntKind.wrap,IntKind.bits,IntKind.signed]; omega
theorem bv8 {a:UInt8}:BitVec.ofInt 8 (a.toNat:Int)=a.toBitVec:=by
  apply BitVec.eq_of_toNat_eq
  have:=a.toNat_lt
  simp [BitVec.toNat_ofInt]
section
variable {P:Program}{n:Nat}{L:Env}{w:World}{d:Option Tmp}{ty:TypeId}{p:String}{af:Array Edge}{g:Option (Nat × Bool)}{x y:Operand}{xt yt:TypeId}
theorem nu {a b:UInt8}(hx:evL L x=some (.int .u8 a.toNat)) (hy:evL L y=some (.int .u8 b.toNat)):Py P n L w ⟨d,.binOp .xor xt x y yt,ty,p,af,g⟩ (.int .u8 (a ^^^ b).toNat):=by
  have h:=G4 (P:=P) (n:=n) (w:=w) (d:=d) (ty:=ty) (p:=p) (af:=af) (g:=g) (xt:=xt) (yt:=yt) hx hy
  rwa [show IntKind.u8.bits=8 from rfl,bv8,bv8,GC (BitVec.isLt _)] at h
theorem wb {a b:UInt8}(hx:evL L x=some (.int .u8 a.toNat)) (hy:evL L y=some (.int .u8 b.toNat)):Py P n L w ⟨d,.binOp .and xt x y yt,ty,p,af,g⟩ (.int .u8 (a &&& b).toNat):=by
  have h:=Dw (P:=P) (n:=n) (w:=w) (d:=d) (ty:=ty) (p:=p) (af:=af) (g:=g) (xt:=xt) (yt:=yt) hx hy
  rwa [show IntKind.u8.bits=8 from rfl,bv8,bv8,GC (BitVec.isLt _)] at h
theorem rU {a:UInt8}{k:Nat}{k2:IntKind}(hx:evL L x=some (.int .u8 a.toNat)) (hy:evL L y=some (.int k2 k)):Py P n L w ⟨d,.binOp .shr xt x y yt,ty,p,af,g⟩ (.int .u8 (kQ a k).toNat):=by
  have h:=y6 (P:=P) (n:=n) (w:=w) (d:=d) (ty:=ty) (p:=p) (af:=af) (g:=g) (xt:=xt) (yt:=yt) hx hy ω
  have e:((a.toNat:Int).fdiv (2^min ((k:Int).toNat) IntKind.u8.bits))=((kQ a k).toNat:Int):=by
    rw [iI,Int.toNat_natCast,show IntKind.u8.bits=8 from rfl,Int.fdiv_eq_ediv_of_nonneg _ (by exact Int.pow_nonneg ω)]
    have hlt:=a.toNat_lt
    rcases Nat.lt_or_ge k 8 with h8 | h8
    · rw [Nat.min_eq_left ω]; norm_cast
    · rw [Nat.min_eq_right h8]
      have h1:a.toNat / 2^k=0:=Nat.div_eq_of_lt (Nat.lt_of_lt_of_le hlt (Nat.pow_le_pow_right ω h8))
      rw [h1]; norm_cast
      exact Nat.div_eq_of_lt hlt
  rwa [e] at h
theorem rR {a:UInt8}{k:Nat}{k2:IntKind}(hk:k≤8) (hx:evL L x=some (.int .u8 a.toNat)) (hy:evL L y=some (.int k2 k)):Py P n L w ⟨d,.binOp .shl xt x y yt,ty,p,af,g⟩ (.int .u8 (ub a k).toNat):=by
  have h:=G9 (P:=P) (n:=n) (w:=w) (d:=d) (ty:=ty) (p:=p) (af:=af) (g:=g) (xt:=xt) (yt:=yt) hx hy ω
  have e:IntKind.u8.wrap ((a.toNat:Int)*2^min ((k:Int).toNat) IntKind.u8.bits)=((ub a k).toNat:Int):=by
    rw [Int.toNat_natCast,show IntKind.u8.bits=8 from rfl,Nat.min_eq_left hk]
    unfold ub
    have:((a.toNat:Int)*2^k)=((a.toNat*2^k:Nat):Int):=by norm_cast
    rw [this]
    simp [IntKind.wrap,IntKind.bits,IntKind.signed]
  rwa [e] at h
theorem mT {k:IntKind}{i:Int}{src dst:TypeId}{td} (hs:P.underlying src=some td) (hd:P.underlying dst=some (.int .u8)) (hx:evL L x=some (.int k i)) :
    Py P n L w ⟨d,.convert src dst x,ty,p,af,g⟩ (.int .u8 (zn i).toNat):=by
  have h:=DO (P:=P) (n:=n) (w:=w) (d:=d) (ty:=ty) (p:=p) (af:=af) (g:=g) hs hd hx
  rwa [FL] at h
end
theorem pn {a:UInt8}(h:(a.toNat:Int)=0):a=0:=(lO (b:=0)).1 h
def xt (a:UInt8):UInt8:=if a &&& 128=0 then ub a 1 else ub a 1 ^^^ 29
def jT:Nat→UInt8→UInt8→UInt8→UInt8
  | 0,_,_,o=>o
  | n+1,a,b,o=>jT n (xt a) (kQ b 1) (if b &&& 1=1 then o ^^^ a else o)
def bW (a b:UInt8):UInt8:=jT 8 a b 0
theorem u4:∀ (n:Nat) (x y o:UInt8),y.toNat<2^n→jT (n+1) x y o=jT n x y o
  | 0,x,y,o,h=>by
    have:y=0:=UInt8.toNat_inj.1 (by simp at h; simp [h])
    subst this
    rfl
  | n+1,x,y,o,h=>by
    show jT (n+1) (xt x) (kQ y 1) _=jT n (xt x) (kQ y 1) _
    exact u4 n _ _ _ (by rw [iI]; rw [Nat.pow_succ] at h; omega)
theorem uL:∀ (n:Nat) (x o:UInt8),jT n x 0 o=o
  | 0,_,_=>rfl
  | n+1,x,o=>by
    show jT n (xt x) (kQ 0 1) (if (0:UInt8) &&& 1=1 then o ^^^ x else o)=o
    rw [show kQ 0 1=0 from rfl,uL n]; rfl
theorem lP (x y o:UInt8):jT 8 x y o=jT 8 (xt x) (kQ y 1) (if y &&& 1=1 then o ^^^ x else o):=by
  rw [← u4 8 x y o (by have:=y.toNat_lt; omega)]; rfl
theorem pZ {p:UInt8→Bool}(h:(List.range 256).all (fun n=>p (UInt8.ofNat n))=true) (a:UInt8):p a=true:=by
  have:=List.all_eq_true.1 h a.toNat (List.mem_range.2 a.toNat_lt)
  simpa using this
theorem EA (a:UInt8):a &&& 128=0∨a &&& 128=128:=by
  have:=pZ (p:=fun a=>(a &&& 128 == 0) || (a &&& 128 == 128)) (by decide +kernel) a
  simpa using this
theorem Hq (a:UInt8):a &&& 1=0∨a &&& 1=1:=by
  have:=pZ (p:=fun a=>(a &&& 1 == 0) || (a &&& 1 == 1)) (by decide +kernel) a
  simpa using this
theorem AO (a b c:UInt8):(a ^^^ b) &&& c=(a &&& c) ^^^ (b &&& c):=by
  apply UInt8.eq_of_toBitVec_eq
  ext i
  simp only [UInt8.toBitVec_and,UInt8.toBitVec_xor,BitVec.getElem_and,BitVec.getElem_xor]
  cases a.toBitVec[i]<;>cases b.toBitVec[i]<;>cases c.toBitVec[i]<;>rfl
theorem shl1 (a:UInt8):ub a 1=a <<< 1:=by
  have:=pZ (p:=fun a=>ub a 1 == a <<< 1) (by decide +kernel) a
  simpa using this
theorem shr1 (a:UInt8):kQ a 1=a >>> 1:=by
  have:=pZ (p:=fun a=>kQ a 1 == a >>> 1) (by decide +kernel) a
  simpa using this
theorem Fb (a b:UInt8):ub (a ^^^ b) 1=ub a 1 ^^^ ub b 1:=by
  rw [shl1,shl1,shl1]
  exact UInt8.shiftLeft_xor
theorem EH (a b:UInt8):kQ (a ^^^ b) 1=kQ a 1 ^^^ kQ b 1:=by
  rw [shr1,shr1,shr1]
  exact UInt8.shiftRight_xor
theorem G3 (a b c d:UInt8):(a ^^^ b) ^^^ (c ^^^ d)=(a ^^^ c) ^^^ (b ^^^ d):=by
  rw [UInt8.xor_assoc,UInt8.xor_assoc]
  congr 1
  rw [← UInt8.xor_assoc,← UInt8.xor_assoc,UInt8.xor_comm b c]
theorem G1 (a b:UInt8):xt (a ^^^ b)=xt a ^^^ xt b:=by
  unfold xt
  rw [AO,Fb]
  rcases EA a with h | h<;>rcases EA b with h2 | h2<;>rw [h,h2]
  · rfl
  · rw [if_neg (by decide),if_pos rfl,if_neg (by decide),UInt8.xor_assoc]
  · rw [if_neg (by decide),if_neg (by decide),if_pos rfl,UInt8.xor_assoc,UInt8.xor_assoc,UInt8.xor_comm _ 29]
  · rw [if_pos (by decide),if_neg (by decide),if_neg (by decide),G3]; simp
theorem uk:∀ (n:Nat) (x x' y o o':UInt8),jT n (x ^^^ x') y (o ^^^ o')=jT n x y o ^^^ jT n x' y o'
  | 0,_,_,_,_,_=>rfl
  | n+1,x,x',y,o,o'=>by
    show jT n (xt (x ^^^ x')) (kQ y 1) (if y &&& 1=1 then (o ^^^ o') ^^^ (x ^^^ x') else o ^^^ o')=jT n (xt x) (kQ y 1) _ ^^^ jT n (xt x') (kQ y 1) _
    rw [G1,← uk n]
    split
    · rw [G3]
    · rfl
theorem tW:∀ (n:Nat) (x y y' o o':UInt8),jT n x (y ^^^ y') (o ^^^ o')=jT n x y o ^^^ jT n x y' o'
  | 0,_,_,_,_,_=>rfl
  | n+1,x,y,y',o,o'=>by
    show jT n (xt x) (kQ (y ^^^ y') 1) (if (y ^^^ y') &&& 1=1 then (o ^^^ o') ^^^ x else o ^^^ o')=jT n (xt x) (kQ y 1) _ ^^^ jT n (xt x) (kQ y' 1) _
    rw [EH,← tW n,AO]
    congr 1
    rcases Hq y with h | h<;>rcases Hq y' with h2 | h2<;>rw [h,h2]
    · rfl
    · rw [if_pos (by decide),if_neg (by decide),if_pos rfl,UInt8.xor_assoc]
    · rw [if_pos (by decide),if_pos rfl,if_neg (by decide),UInt8.xor_assoc,UInt8.xor_assoc,UInt8.xor_comm o' x]
    · rw [if_neg (by decide),if_pos rfl,if_pos rfl,G3]; simp
theorem fN (x x' y:UInt8):bW (x ^^^ x') y=bW x y ^^^ bW x' y:=uk 8 x x' y 0 0
theorem gO (x y y':UInt8):bW x (y ^^^ y')=bW x y ^^^ bW x y':=tW 8 x y y' 0 0
theorem t0 {p:UInt8→Prop}(h0:p 0) (hb:∀ k,k<8→p (UInt8.ofNat (2^k))) (hx:∀ a b,p a→p b→p (a ^^^ b)) (a:UInt8):p a:=by
  have key:∀ k,k≤8→p (UInt8.ofNat (a.toNat % 2^k)):=by
    intro k hk
    induction k with
    | zero=>simpa [Nat.mod_one] using h0
    | succ k ih=>
      have ih:=ih ω
      have hs:UInt8.ofNat (a.toNat % 2^(k+1))=UInt8.ofNat (a.toNat % 2^k) ^^^ (if a.toNat.testBit k then UInt8.ofNat (2^k) else 0):=by
        have:=pZ (p:=fun a=>(List.range 8).all fun k=>UInt8.ofNat (a.toNat % 2^(k+1)) == UInt8.ofNat (a.toNat % 2^k) ^^^ (if a.toNat.testBit k then UInt8.ofNat (2^k) else 0)) (by decide +kernel) a
        have:=List.all_eq_true.1 this k (List.mem_range.2 ω)
        simpa using this
      rw [hs]
      refine hx _ _ ih ?_
      split
      · exact hb k ω
      · exact h0
  have:=key 8 (Nat.le_refl _)
  have hlt:=a.toNat_lt
  rw [Nat.mod_eq_of_lt hlt] at this
  simpa using this
theorem fb (y:UInt8):bW 0 y=0:=by
  have:=fN 0 0 y
  simpa using this
theorem fB (x:UInt8):bW x 0=0:=by
  have:=gO x 0 0
  simpa using this
theorem oZ (a b:UInt8):bW a b=bW b a:=by
  revert b
  refine t0 (p:=fun a=>∀ b,bW a b=bW b a) (fun b=>by rw [fb,fB]) (fun k hk=>?_) (fun a a' h h' b=>by rw [fN,gO,h,h']) a
  refine t0 (p:=fun b=>bW (UInt8.ofNat (2^k)) b=bW b (UInt8.ofNat (2^k))) (by rw [fb,fB]) (fun j hj=>?_) (fun b b' h h'=>by rw [fN,gO,h,h'])
  have:(List.range 8).all (fun k=>(List.range 8).all fun j=>bW (UInt8.ofNat (2^k)) (UInt8.ofNat (2^j)) == bW (UInt8.ofNat (2^j)) (UInt8.ofNat (2^k)))=true:=by decide +kernel
  simpa using List.all_eq_true.1 (List.all_eq_true.1 this k (List.mem_range.2 hk)) j (List.mem_range.2 hj)
theorem qg (a b c:UInt8):bW (bW a b) c=bW a (bW b c):=by
  revert b c
  refine t0 (p:=fun a=>∀ b c,bW (bW a b) c=bW a (bW b c)) (fun b c=>by rw [fb,fb,fb]) (fun k hk=>?_) (fun a a' h h' b c=>by rw [fN,fN,fN,h,h']) a
  refine t0 (p:=fun b=>∀ c,bW (bW (UInt8.ofNat (2^k)) b) c=bW (UInt8.ofNat (2^k)) (bW b c)) (fun c=>by rw [fB,fb,fB]) (fun j hj=>?_) (fun b b' h h' c=>by rw [gO,fN,fN,gO,h,h'])
  refine t0 (p:=fun c=>bW (bW (UInt8.ofNat (2^k)) (UInt8.ofNat (2^j))) c=bW (UInt8.ofNat (2^k)) (bW (UInt8.ofNat (2^j)) c)) (by rw [fB,fB,fB]) (fun i hi=>?_) (fun c c' h h'=>by rw [gO,gO,gO,h,h'])
  have:(List.range 8).all (fun k=>(List.range 8).all fun j=>(List.range 8).all fun i=>bW (bW (UInt8.ofNat (2^k)) (UInt8.ofNat (2^j))) (UInt8.ofNat (2^i)) == bW (UInt8.ofNat (2^k)) (bW (UInt8.ofNat (2^j)) (UInt8.ofNat (2^i))))=true:=by decide +kernel
  simpa using List.all_eq_true.1 (List.all_eq_true.1 (List.all_eq_true.1 this k (List.mem_range.2 hk)) j (List.mem_range.2 hj)) i (List.mem_range.2 hi)
theorem qC (a:UInt8):bW a 1=a:=by
  have:=pZ (p:=fun a=>bW a 1 == a) (by decide +kernel) a
  simpa using this
theorem np (a:UInt8):bW 1 a=a:=by rw [oZ,qC]
def pw (a:UInt8):Nat→UInt8
  | 0=>1
  | n+1=>bW (pw a n) a
theorem Du (a:UInt8):∀ n,pw (bW a a) n=pw a (2*n)
  | 0=>rfl
  | n+1=>by
    show bW (pw (bW a a) n) (bW a a)=bW (bW (pw a (2*n)) a) a
    rw [Du a n,qg]
def tm (a:UInt8):UInt8:=pw a 254
theorem AR {x:Int}(h:0≤x∧x≤9223372036854775807):IntKind.u64.wrap x=x:=by
  simp [IntKind.wrap,IntKind.bits,IntKind.signed]; omega
theorem Fo (o a:UInt8) (n:Nat):bW o (pw a (n+1))=bW (bW o a) (pw a n):=by
  show bW o (bW (pw a n) a)=_
  rw [oZ (pw a n) a,← qg]
theorem Fu (o x:UInt8) {m:Nat}(h:m % 2≠1):bW o (pw x m)=bW o (pw (bW x x) (m / 2)):=by
  rw [Du,show 2*(m / 2)=m from by omega]
theorem Hf (o x:UInt8) {m:Nat}(h:m % 2=1):bW o (pw x m)=bW (bW o x) (pw (bW x x) (m / 2)):=by
  rw [Du,← Fo,show 2*(m / 2)+1=m from by omega]
def cauchy (j i:Int):UInt8:=tm (zn (128+j) ^^^ zn i)
section
variable {P:Program}{n:Nat}{L:Env}{w:World}{d:Option Tmp}{ty:TypeId}{p:String}{af:Array Edge}{g:Option (Nat × Bool)}{x y:Operand}{xt yt:TypeId}
theorem Ds {m:Nat}(hm:m<9223372036854775808) (hx:evL L x=some (.int .i64 m)) (hy:evL L y=some (.int .i64 1)):Py P n L w ⟨d,.binOp .and xt x y yt,ty,p,af,g⟩ (.int .i64 ((m % 2:Nat):Int)):=by
  have h:=Dw (P:=P) (n:=n) (w:=w) (d:=d) (ty:=ty) (p:=p) (af:=af) (g:=g) (xt:=xt) (yt:=yt) hx hy
  have e:(BitVec.ofInt 64 (m:Int) &&& BitVec.ofInt 64 1).toNat=m % 2:=by
    rw [BitVec.toNat_and,BitVec.toNat_ofInt,show (BitVec.ofInt 64 1).toNat=1 from rfl,Nat.and_one_is_mod]
    omega
  rwa [show IntKind.i64.bits=64 from rfl,e,GS ω] at h
theorem wK {m:Nat}{k2:IntKind}(hx:evL L x=some (.int .i64 m)) (hy:evL L y=some (.int k2 1)):Py P n L w ⟨d,.binOp .shr xt x y yt,ty,p,af,g⟩ (.int .i64 ((m / 2:Nat):Int)):=by
  have h:=y6 (P:=P) (n:=n) (w:=w) (d:=d) (ty:=ty) (p:=p) (af:=af) (g:=g) (xt:=xt) (yt:=yt) hx hy ω
  have e:((m:Int).fdiv (2^min ((1:Int).toNat) IntKind.i64.bits))=((m / 2:Nat):Int):=by
    rw [show (2:Int)^min ((1:Int).toNat) IntKind.i64.bits=2 from rfl,Int.fdiv_eq_ediv_of_nonneg _ ω]
    norm_cast
  rwa [e] at h
end
end Go.Wk
namespace Go.Wk
open Rp (sz own)
theorem Ext.cellM {M:Nat→Prop}{w w':World}(h:Ext M w w') {ad:Addr}{v:Value}(hm:¬ M ad.block) (hc:w.cell? ad=some v):w'.cell? ad=some v:=
  (World.cell?_of_block (h.block ad.block (World.block_lt_of_cell? w ad hc) hm)).trans hc
theorem Sep.off {M w0 Δ F} {w:World}(h:Sep M w0 Δ F w) (i:Nat) {r q:Rsc}(hi:F[i]? = some r) (j:Nat) (hj:Δ[j]? = some q) {b:Nat}(hb:b∈r.fp):b ∉ q.fp:=fun hm=>
  h.ap r (List.mem_of_getElem? hi) b hb (bJ.2 ⟨q,List.mem_of_getElem? hj,hm⟩)
theorem Sep.boff {M w0 Δ F} {w:World}(h:Sep M w0 Δ F w) (i:Nat) {b:Nat}{o:Obj}{q:Rsc}(hi:Δ[i]? = some (Wk.box b o)) (j:Nat) (hj:Δ[j]? = some q) (hij:Nat.beq i j=false):b ∉ q.fp:=
  h.apart hj hi hij b (by simp [Wk.box])
section
variable {P:Program}{n:Nat}{ops:Array Oper}{Q:Post}{L:Env}{w w0:World}{M:Nat→Prop}{Δ F:List Rsc}{rest:List (Nat × Bool)}{i d:Nat}{ty:TypeId}{p:String}{af:Array Edge}{g:Option (Nat × Bool)}{S:World→Prop}
theorem AH {o:Oper}{ob:Obj}{v:Nat→Value}(ho:ops.toList[i]? = some o) (hw:Wn ops n L o) (hd:o.dst=some d) (hn:Nat.blt d n=true) (hp:Pn P n L w o (v w.heap.size) (w.alloc ob)) (H:Sep M w0 Δ F w) (hS:∀ w',S w→Ext No w w'→S w')
    (k:∀ b w',Ext No w w'→w.heap.size≤b→Sep M w0 (Δ++[box b ob]) F w'→DL P n ops Q S rest ((d,v b)::L) w'):DL P n ops Q S ((i,false)::rest) L w:=
  uv ho hw hd hn hp (fun h _=>hS _ h (Ext.refl.alloc _)) (k _ _ (Ext.refl.alloc _) (Nat.le_refl _) (H.alloc _))
theorem n7 {t e:TypeId}{x:Operand}{z v:Value}{size bytes:Nat}(ho:ops.toList[i]? = some ⟨some d,.buildSlice t 1 #[(0,x)],ty,p,af,g⟩) (hw:Wn ops n L ⟨some d,.buildSlice t 1 #[(0,x)],ty,p,af,g⟩) (hn:Nat.blt d n=true) (ht:P.underlying t=some (.slice e)) (hT:Ty P e z size bytes) (hs:Nat.blt 0 size=true)
    (hx:evL L x=some v) (h1:v.cells.size=size) (hsmall:Nat.ble size 16777216=true) (H:Sep M w0 Δ F w) (hS:∀ w',S w→Ext No w w'→S w')
    (k:∀ b w',Ext No w w'→w.heap.size≤b→Sep M w0 (Δ++[box b (.cells v.cells.toList.toArray e)]) F w'→DL P n ops Q S rest ((d,.slice (some ⟨b,0,none⟩) 1 1)::L) w') :
    DL P n ops Q S ((i,false)::rest) L w:=by
  have hp:=sX (n:=n) (w:=w) (ty:=ty) (p:=p) (af:=af) (g:=g) (d:=some d) (parts := #[(0,x)]) (vs:=[v]) (len:=1) ht hT (Nat.le_of_ble_eq_true hs) rfl (qz hx) (by simpa using h1) ω (by have:=Nat.le_of_ble_eq_true hsmall; omega)
  simp only [List.flatMap_cons,List.flatMap_nil,List.append_nil] at hp
  exact AH (v:=fun b => .slice (some ⟨b,0,none⟩) 1 1) ho hw rfl hn hp H hS k
section
variable {α:Type}[Rp α]
theorem Hj {t e:TypeId}{x:Operand}{z:Value}{bytes m:Nat}{y:α}(ho:ops.toList[i]? = some ⟨some d,.makeSlice t x x,ty,p,af,g⟩) (hw:Wn ops n L ⟨some d,.makeSlice t x x,ty,p,af,g⟩) (hn:Nat.blt d n=true) (ht:P.underlying t=some (.slice e)) (hT:Ty P e z (sz α) bytes) (hz:∀ w,own true w z.cells.toList y [])
    (hx:evL L x=some (.int .i64 m)) (h48:bytes*m≤281474976710656) (h63:m≤maxLen) (H:Sep M w0 Δ F w) (hS:∀ w',S w→Ext No w w'→S w')
    (k:∀ b w',Ext No w w'→w.heap.size≤b→Sep M w0 (Δ++[mine [.slice (some ⟨b,0,none⟩) m m] (List.replicate m y) [b]]) F w'→DL P n ops Q S rest ((d,.slice (some ⟨b,0,none⟩) m m)::L) w') :
    DL P n ops Q S ((i,false)::rest) L w:=
  uv ho hw rfl hn (Bj ht hT hx h48 h63) (fun h _=>hS _ h (Ext.refl.alloc _)) (k _ _ (Ext.refl.alloc _) (Nat.le_refl _) (H.made hz h63))
theorem t4 {x y:Operand}{t e:TypeId}{z:Value}{bytes:Nat}{v:Value}{xs:List α}{fp:List Nat}{b2 c2:Nat}{T} {cs:List Value}{u:α}{fu} (ho:ops.toList[i]? = some ⟨some d,.call ⟨.builtin .append,#[x,y],#[t,t]⟩,ty,p,af,g⟩) (hw:Wn ops n L ⟨some d,.call ⟨.builtin .append,#[x,y],#[t,t]⟩,ty,p,af,g⟩) (hn:Nat.blt d n=true)
    (ht:P.underlying t=some (.slice e)) (hT:Ty P e z (sz α) bytes) (hz:z.cells.size=sz α) (hx:evL L x=some v) (hy:evL L y=some (.slice (some ⟨b2,0,none⟩) 1 c2))
    (H:Sep M w0 Δ F w) (l j q:Nat) (hi:Δ[l]? = some (mine [v] xs fp)) (hj:Δ[j]? = some (box b2 (.cells cs.toArray T))) (hq:Δ[q]? = some (mine cs u fu)) (hqi:Nat.beq q l=false) (h63:xs.length+1≤maxLen) (hb48:(xs.length+1)*bytes≤140737488355328)
    (hS:∀ w',S w→Ext (· ∈ fp) w w'→S w')
    (k:∀ v' w' fp',Sep M w0 ((Δ.set q gone).set l (mine [v'] (xs++[u]) fp')) F w'→DL P n ops Q S rest ((d,v')::L) w') :
    DL P n ops Q S ((i,false)::rest) L w:=by
  have hy':=H.mine q hq
  obtain ⟨v',w',fp',h1,h2,h3,h4,h5⟩:=jU (ty:=ty) ht hT hz (H.mine l hi) (ys:=[u]) (c2:=c2) (m:=1) (by rw [Rp.len hy']; simp) rfl (At.whole (H.box j hj)) (Rp.one hy') (.one hy') (H.apart hi hq hqi) (H.nodup1 hi) (H.nodup1 hq) σ h63 hb48
  exact uv ho hw rfl hn (qy hx hy h1) (fun h _=>hS _ h h3) (k _ _ _ (H.set2 hi hq hqi (q:=Wk.mine [v'] (xs++[u]) fp') h3 h2 h5 h4))
theorem Hn {t:TypeId}{x y:Operand}{b off:Nat}{v:Value}{ad:Option Addr}{len cap:Nat}{xs:List α}{fp:List Nat}{u:α}(ho:ops.toList[i]? = some ⟨none,.store t x y,ty,p,af,g⟩) (hw:Wn ops n L ⟨none,.store t x y,ty,p,af,g⟩) (hs:∀ w,(sizeOf t).run P w = .ok (sz α) w) (h1:sz α=1)
    (H:Sep M w0 Δ F w) (j:Nat) (hi:Δ[j]? = some (mine [.slice ad len cap] xs fp)) (q:Nat) (hq:q<xs.length) (hx:evL L x=some (.pointer (some ⟨b,off+q*sz α,none⟩))) (had:ad=some ⟨b,off,none⟩) (hy:evL L y=some v) (hu:own true w [v] u [])
    (hS:∀ w',S w→Ext (· = b) w w'→rest≠[]→S w')
    (k:∀ w' fp',Ext (· = b) w w'→Sep M w0 (Δ.set j (mine [.slice ad len cap] (xs.set q u) fp')) F w'→DL P n ops Q S rest L w') :
    DL P n ops Q S ((i,false)::rest) L w:=by
  obtain ⟨b',o',cur,T,e1,hb,hsz,hk⟩:=H.elset j hi q hq
  rw [had] at e1
  simp only [Option.some.injEq,Addr.mk.injEq,and_true] at e1
  obtain ⟨rfl,rfl⟩:=e1
  obtain ⟨fp',h⟩:=hk [v] u hu
  refine x7 ho hw rfl (ge (by rw [h1] at hs; exact hs) hx hy (Rp.one hu v σ) hb ω) (fun hSw hr=>hS _ hSw (Ext.refl.put (.inl rfl)) hr) ?_
  exact k _ fp' (Ext.refl.put (.inl rfl)) h
end
end
def bV (xs:List UInt8) (c:UInt8):List UInt8:=xs.map fun x=>bW x c
theorem ex (xs:List UInt8) (c:UInt8):(bV xs c).length=xs.length:=by simp [bV]
theorem xP {xs:List UInt8}{c:UInt8}{k:Nat}(h:k<xs.length):bV (xs.take k) c++[bW (xs.getD k 0) c]=bV (xs.take (k+1)) c:=by
  rw [ms (d:=0) h]; simp [bV]
def eO (xs ys:List UInt8):List UInt8:=List.zipWith (· ^^^ ·) xs ys
theorem d9 {xs ys:List UInt8}(h:xs.length≤ys.length):(eO xs ys).length=xs.length:=by
  unfold eO; simp; omega
def ry (xs ys:List UInt8) (c:UInt8) (k:Nat):List UInt8:=eO (xs.take k) (bV (ys.take k) c)++xs.drop k
theorem C0 {xs ys:List UInt8}{c:UInt8}:ry xs ys c 0=xs:=by simp [ry,eO]
theorem Ej {xs ys:List UInt8}{c:UInt8}{k:Nat}(h:xs.length=k) (h2:ys.length=k):ry xs ys c k=eO xs (bV ys c):=by
  unfold ry
  rw [List.take_of_length_le ω,List.take_of_length_le ω,List.drop_eq_nil_of_le ω,List.append_nil]
theorem tZ {xs ys:List UInt8}{c:UInt8}{k:Nat}(h:xs.length=ys.length):(ry xs ys c k).length=xs.length:=by
  unfold ry
  rw [List.length_append,d9 (by simp [bV]; omega)]
  simp; omega
theorem DC {xs ys:List UInt8}{c:UInt8}{k:Nat}(h:xs.length=ys.length) (hk:k<xs.length):(ry xs ys c k).getD k 0=xs.getD k 0:=by
  have h1:(eO (xs.take k) (bV (ys.take k) c)).length=k:=by rw [d9 (by simp [bV]; omega)]; simp; omega
  unfold ry
  simp only [List.getD]
  rw [List.getElem?_append_right ω,h1,List.getElem?_drop]
  simp
theorem CE {xs ys:List UInt8}{c:UInt8}{k:Nat}(h:xs.length=ys.length) (hk:k<xs.length):(ry xs ys c k).set k (xs.getD k 0 ^^^ bW (ys.getD k 0) c)=ry xs ys c (k+1):=by
  have h1:(eO (xs.take k) (bV (ys.take k) c)).length=k:=by rw [d9 (by simp [bV]; omega)]; simp; omega
  unfold ry
  rw [List.set_append,if_neg ω,h1,Nat.sub_self]
  have h2:xs.drop k=xs.getD k 0::xs.drop (k+1):=by rw [List.drop_eq_getElem_cons hk]; simp [List.getD,hk]
  have h3:eO (xs.take (k+1)) (bV (ys.take (k+1)) c)=eO (xs.take k) (bV (ys.take k) c)++[xs.getD k 0 ^^^ bW (ys.getD k 0) c]:=by
    rw [ms (d:=0) hk,← xP ω]
    unfold eO
    rw [List.zipWith_append (by simp [bV]; omega)]
    rfl
  rw [h2,h3,List.set_cons_zero]
  simp
def i9 (ls:List (List UInt8)) (cs:List UInt8) (n:Nat):Nat→List UInt8
  | 0=>List.replicate n 0
  | k+1=>eO (i9 ls cs n k) (bV (ls.getD k []) (cs.getD k 0))
theorem iH {ls:List (List UInt8)}{cs:List UInt8}{n:Nat}(h:∀ i,i<ls.length→(ls.getD i []).length=n):∀ {k:Nat},k≤ls.length→(i9 ls cs n k).length=n
  | 0,_=>by simp [i9]
  | k+1,hk=>by
    have h1:=iH (cs:=cs) h (k:=k) ω
    have h2:=h k ω
    rw [i9,d9 (by rw [ex]; omega)]
    exact h1
theorem fD {α:Type}[Rp α] {s w ad n cap} {xs:List α}{fp} (h:own s w [.slice ad n cap] xs fp):n=xs.length:=by
  obtain ⟨_,_,e⟩:=an h
  simp at e
  exact e.2.1
def jQ (g:Nat→UInt8) (n k:Nat):List UInt8:=(List.range k).map g++List.replicate (n-k) 0
theorem zU {g:Nat→UInt8}{n:Nat}:jQ g n 0=List.replicate n 0:=by simp [jQ]
theorem B2 {g:Nat→UInt8}{n:Nat}:jQ g n n=(List.range n).map g:=by simp [jQ]
theorem nj {g:Nat→UInt8}{n k:Nat}(h:k≤n):(jQ g n k).length=n:=by
  unfold jQ; simp; omega
theorem qR {g:Nat→UInt8}{n k:Nat}(hk:k<n):jQ g n k=(List.range k).map g++0::List.replicate (n-(k+1)) 0:=by
  unfold jQ
  rw [show n-k=(n-(k+1))+1 from by omega,List.replicate_succ]
theorem tD {g:Nat→UInt8}{n k:Nat}:jQ g n (k+1)=(List.range k).map g++g k::List.replicate (n-(k+1)) 0:=by
  unfold jQ
  rw [List.range_succ]; simp
theorem u9 {g:Nat→UInt8}{n k:Nat}{x:UInt8}(hk:k<n) (hx:g k=x):(jQ g n k).set k x=jQ g n (k+1):=by
  rw [qR hk,tD,List.set_append,if_neg σ,hx]
  simp
theorem Ae {g:Nat→UInt8}{n k:Nat}(hk:k<n) (hx:g k=0):jQ g n k=jQ g n (k+1):=by
  rw [qR hk,tD,hx]
def genAt (n:Nat) (p base:Int) (i:Nat):UInt8:=if (n:Int)≤p then cauchy (base+p-n) i else if (i:Int)=p then 1 else 0
def ke (n:Nat) (p base:Int):List UInt8:=(List.range n).map (genAt n p base)
theorem rZ {n:Nat}{p base:Int}:(ke n p base).length=n:=by simp [ke]
end Go.Wk
namespace Go.Wk
open Rp (sz own)
def cut {α:Type}(xs:List α) (l h:Nat):List α:=(xs.drop l).take (h-l)
theorem nz {α:Type}{xs:List α}{l h:Nat}(hh:h≤xs.length):(cut xs l h).length=h-l:=by
  unfold cut; rw [List.length_take,List.length_drop]; omega
theorem bY.weak' {α:Type}[Rp α] {s w cs} {xs:List α}{fp} (h:bY s w cs xs fp):bY false w cs xs fp:=by
  cases s
  · exact h
  · exact h.weak
theorem bY.drop {α:Type}[Rp α] {s w}:∀ (l:Nat) {xs:List α}{cs fp},bY s w cs xs fp→∃ f,bY s w (cs.drop (l*sz α)) (xs.drop l) f∧∀ b∈f,b∈fp
  | 0,xs,cs,fp,h=>⟨fp,by simpa using h,fun _ h=>h⟩
  | l+1,[],cs,fp,h=>⟨[],by simp [bY],σ⟩
  | l+1,x::xs,cs,fp,⟨f1,f2,e,h1,h2⟩=>by
    obtain ⟨f,hf,hs⟩:=bY.drop l h2
    refine ⟨f,?_,fun b hb=>by subst e; simp [hs b hb]⟩
    rw [List.drop_drop] at hf
    rw [Nat.add_mul,Nat.one_mul,Nat.add_comm]
    simpa using hf
theorem bY.take {α:Type}[Rp α] {s w}:∀ (n:Nat) {xs:List α}{cs fp},bY s w cs xs fp→∃ f,bY s w cs (xs.take n) f∧∀ b∈f,b∈fp
  | 0,xs,cs,fp,h=>⟨[],by simp [bY],σ⟩
  | n+1,[],cs,fp,h=>⟨fp,by simpa using h,fun _ h=>h⟩
  | n+1,x::xs,cs,fp,⟨f1,f2,e,h1,h2⟩=>by
    obtain ⟨f,hf,hs⟩:=bY.take n h2
    exact ⟨f1++f,⟨f1,f,rfl,h1,hf⟩,fun b hb=>by subst e; rcases List.mem_append.1 hb with hb | hb; simp [hb]; simp [hs b hb]⟩
def slA (a:Option Addr) (l m s:Nat):Option Addr:=if m=l then a else a.map (·.add (l*s))
theorem AX {α:Type}[Rp α] {s w ad n cap} {xs:List α}{fp} (h:own s w [.slice ad n cap] xs fp) (l k m:Nat) (h1:l≤k) (h2:k≤xs.length) (h3:k≤m) (h4:m≤cap) :
    ∃ f,own false w [.slice (slA ad l m (sz α)) (k-l) (m-l)] (cut xs l k) f∧∀ b∈f,b∈fp:=by
  have nil:k-l=0→own false w [.slice (slA ad l m (sz α)) (k-l) (m-l)] (cut xs l k) []:=fun e=>by
    have e2:cut xs l k=[]:=by unfold cut; rw [e]; simp
    rw [e,e2]
    exact .inl ⟨rfl,_,_,rfl,rfl,rfl⟩
  by_cases e:k-l=0
  · exact ⟨[],nil e,σ⟩
  rcases h with ⟨_,_,_,_,rfl,_⟩ | ⟨_,rfl,_⟩ | ⟨b,o,cap',cur,T,fr,fs,g1,g2,g3,g4,g5,g6,g7,g8⟩
  · simp at h2; omega
  · simp at h2; omega
  · simp only [List.cons.injEq,Value.slice.injEq,and_true] at g1
    obtain ⟨rfl,rfl,rfl⟩:=g1
    subst g2
    obtain ⟨f1,k1,s1⟩:=g8.drop l
    obtain ⟨f2,k2,s2⟩:=k1.take (k-l)
    have hl:(cut xs l k).length=k-l:=nz h2
    refine ⟨b::f2,.inr (.inr ⟨b,o+l*sz α,m-l,cur,T,fr,f2,?_,rfl,g3,(fun h=>by cases h),ω,ω,?_,?_⟩),fun x hx=>?_⟩
    · rw [hl,slA,if_neg ω]
      simp [kB]
    · have:(l+(m-l))*sz α≤cap*sz α:=Nat.mul_le_mul_right _ ω
      rw [Nat.add_mul] at this
      omega
    · rw [List.drop_drop] at k2; exact k2.weak'
    · rcases List.mem_cons.1 hx with rfl | hx
      · simp
      · simp [s1 _ (s2 _ hx)]
section
variable {P:Program}{n:Nat}{L:Env}{w:World}{d:Option Tmp}{ty:TypeId}{p:String}{af:Array Edge}{g:Option (Nat × Bool)}
theorem vK {t e:TypeId}(hu:P.underlying t=some (.slice e)):P.underlying t=some (.slice (P.elem t))∧P.elem t=e:=by
  have:P.elem t=e:=by simp [Program.elem,hu]
  exact ⟨by rw [this]; exact hu,this⟩
theorem FT {t e:TypeId}{x hi:Operand}{ad:Option Addr}{len cap s:Nat}{k2:IntKind}{h:Int}(hu:P.underlying t=some (.slice e)) (hs:∀ w,(sizeOf e).run P w = .ok s w)
    (hx:evL L x=some (.slice ad len cap)) (hh:evL L hi=some (.int k2 h)) (h':Nat) (eh:h=h') (h2:h'≤cap) :
    Py P n L w ⟨d,.slice t x none (some hi) none,ty,p,af,g⟩ (.slice (slA ad 0 cap s) (h'-0) (cap-0)):=fun a ha=>by
  obtain ⟨hu',he⟩:=vK hu
  have:=run_slice_h (P:=P) w t ad len cap hu' k2 h ω ω
  rw [he,hs] at this
  subst eh
  simp [execOp,ha.eval hx,ha.eval hh,run_sliceAt_slice w t _ _ _ _ hu',this,Result.andThen,sliced,slA]
theorem Gn {t e:TypeId}{x lo:Operand}{ad:Option Addr}{len cap s:Nat}{k1:IntKind}{l:Int}(hu:P.underlying t=some (.slice e)) (hs:∀ w,(sizeOf e).run P w = .ok s w)
    (hx:evL L x=some (.slice ad len cap)) (hl:evL L lo=some (.int k1 l)) (l':Nat) (el:l=l') (h1:l'≤len) :
    Py P n L w ⟨d,.slice t x (some lo) none none,ty,p,af,g⟩ (.slice (slA ad l' cap s) (len-l') (cap-l')):=fun a ha=>by
  obtain ⟨hu',he⟩:=vK hu
  have:=run_slice_l (P:=P) w t ad len cap hu' k1 l ω ω
  rw [he,hs] at this
  subst el
  simp [execOp,ha.eval hx,ha.eval hl,run_sliceAt_slice w t _ _ _ _ hu',this,Result.andThen,sliced,slA]
theorem FM {t e:TypeId}{x lo hi mx:Operand}{ad:Option Addr}{len cap s:Nat}{k1 k2 k3:IntKind}{l h m:Int}(hu:P.underlying t=some (.slice e)) (hs:∀ w,(sizeOf e).run P w = .ok s w)
    (hx:evL L x=some (.slice ad len cap)) (hl:evL L lo=some (.int k1 l)) (hh:evL L hi=some (.int k2 h)) (hm:evL L mx=some (.int k3 m)) (l' h' m':Nat) (el:l=l') (eh:h=h') (em:m=m') (h1:l'≤h') (h2:h'≤m') (h3:m'≤cap) :
    Py P n L w ⟨d,.slice t x (some lo) (some hi) (some mx),ty,p,af,g⟩ (.slice (slA ad l' m' s) (h'-l') (m'-l')):=fun a ha=>by
  obtain ⟨hu',he⟩:=vK hu
  have:=run_slice_lhm (P:=P) w t ad len cap hu' k1 k2 k3 l h m ω ω ω ω
  rw [he,hs] at this
  subst el; subst eh; subst em
  simp [execOp,ha.eval hx,ha.eval hl,ha.eval hh,ha.eval hm,run_sliceAt_slice w t _ _ _ _ hu',this,Result.andThen,sliced,slA]
end
class Flat (α:Type) [Rp α]:Prop where
  flat:∀ {s w cs f} {x:α},own s w cs x f→f=[]∧∀ s' w',own s' w' cs x []
instance:Flat UInt8:=⟨fun h=>⟨h.2,fun _ _=>⟨h.1,rfl⟩⟩⟩
instance:Flat Int:=⟨fun h=>⟨h.2.1,fun _ _=>⟨h.1,rfl,h.2.2⟩⟩⟩
theorem bY.flat {α:Type}[Rp α] [Flat α] {s w}:∀ {xs:List α}{cs f},bY s w cs xs f→f=[]∧∀ s' w',bY s' w' cs xs []
  | [],_,_,h=>⟨h,fun _ _=>rfl⟩
  | _::_,_,_,⟨f1,f2,e,h1,h2⟩=>by
    obtain ⟨rfl,k1⟩:=Flat.flat h1
    obtain ⟨rfl,k2⟩:=h2.flat
    exact ⟨e,fun s' w'=>⟨[],[],rfl,k1 s' w',k2 s' w'⟩⟩
theorem rP {α:Type}[Rp α] {s w ad n cap} {xs:List α}{fp} (h:own s w [.slice ad n cap] xs fp) (h0:0<xs.length) :
    ∃ b o cs f,ad=some ⟨b,o,none⟩∧At w b o cs∧cs.length=xs.length*sz α∧bY s w cs xs f∧(∀ x∈f,x∈fp)∧b∈fp:=by
  rcases h with ⟨_,_,_,_,rfl,_⟩ | ⟨_,rfl,_⟩ | ⟨b,o,cap',cur,T,fr,fs,h1,h2,h3,h4,h5,h6,h7,h8⟩
  · simp at h0
  · simp at h0
  · simp only [List.cons.injEq,Value.slice.injEq,and_true] at h1
    obtain ⟨rfl,_,rfl⟩:=h1
    subst h2
    have hle:xs.length*sz α≤cap*sz α:=Nat.mul_le_mul_right _ h5
    refine ⟨b,o,(cur.toList.drop o).take (xs.length*sz α),fs,rfl,tM h3 _,?_,h8.congr (by rw [List.take_take,Nat.min_self]),fun x hx=>by simp [hx],σ⟩
    rw [List.length_take,List.length_drop]
    have:cur.toList.length=cur.size:=by simp
    omega
theorem bY.one' {α:Type}[Rp α] {s w}:∀ {xs:List α}{cs f},bY s w cs xs f→cs.length=xs.length*sz α→∀ v∈cs,v.oneCell'=true
  | [],cs,f,_,hl,v,hv=>by have:cs=[]:=List.eq_nil_of_length_eq_zero (by simpa using hl); subst this; simp at hv
  | x::xs,cs,f,⟨f1,f2,e,h1,h2⟩,hl,v,hv=>by
    rcases wx (sz α) hv with hv | hv
    · exact Rp.one h1 v hv
    · exact h2.one' (by rw [List.length_drop,hl,List.length_cons,Nat.add_mul]; omega) v hv
section
variable {α:Type}[Rp α] {P:Program}{t ty e:TypeId}{z:Value}{bytes:Nat}{w:World}
theorem yb {a a2:Option Addr}{n c c2:Nat}(ht:P.underlying t=some (.slice e)) (hT:Ty P e z (sz α) bytes) (hn:n≤c) :
    (Builtin.append_ #[t,t] ty #[.slice a n c,.slice a2 0 c2]).run P w = .ok (.slice a n c) w:=by
  obtain ⟨i,hi1,hi2,hi3,hi4⟩:=hT.parts
  have hld:∀ b:Addr,(loadCells b (0*sz α)).run P w = .ok #[] w:=fun b=>by simp [loadCells,loadCellsFrom]
  cases a2 with
  | none=>cases a<;>simp [Builtin.append_,run_underlying ht,sizeOf,typeInfo,hi1,hi3,Builtin.lenOf,hn,Builtin.firstCells,storeCells]
  | some b=>cases a<;>simp [Builtin.append_,run_underlying ht,sizeOf,typeInfo,hi1,hi3,Builtin.lenOf,hn,Builtin.firstCells,loadCells,loadCellsFrom,storeCells]
theorem Gh {ad n cap} {xs:List α}{fp} (h:own true w [.slice ad n cap] xs fp):n=xs.length∧n≤cap:=by
  rcases h with ⟨h,_⟩ | ⟨h1,rfl,_⟩ | ⟨b,o,cap',cur,T,fr,fs,h1,h2,h3,h4,h5,h6,h7,h8⟩
  · cases h
  · simp at h1; simp [h1]
  · simp only [List.cons.injEq,Value.slice.injEq,and_true] at h1
    obtain ⟨rfl,rfl,rfl⟩:=h1
    exact ⟨rfl,h5⟩
theorem xx [Flat α] (ht:P.underlying t=some (.slice e)) (hT:Ty P e z (sz α) bytes) (hz:z.cells.size=sz α)
    {v:Value}{xs ys:List α}{fp fy:List Nat}(h:own true w [v] xs fp) {s ad n c2} (hy:own s w [.slice ad n c2] ys fy) (n1:fp.Nodup)
    (h63:xs.length+ys.length≤maxLen) (hb48:(xs.length+ys.length)*bytes≤140737488355328) :
    ∃ v' w' fp',(Builtin.append_ #[t,t] ty #[v,.slice ad n c2]).run P w = .ok v' w'∧own true w' [v'] (xs++ys) fp'∧Ext (· ∈ fp) w w' ∧
      (∀ b∈fp',b∈fp∨w.heap.size≤b)∧fp'.Nodup:=by
  obtain rfl:=fD hy
  by_cases h0:0<ys.length
  · obtain ⟨b,o,cs,f,rfl,hat,hl,hL,_,_⟩:=rP hy h0
    obtain ⟨rfl,hL'⟩:=hL.flat
    obtain ⟨v',w',fp',k1,k2,k3,k4,k5⟩:=jU (ty:=ty) (c2:=c2) ht hT hz h hl rfl hat (hL.one' hl) (hL' true w) σ n1 .nil h0 h63 hb48
    exact ⟨v',w',fp',k1,k2,k3,fun b hb=>by rcases k4 b hb with h | h | h; exact .inl h; simp at h; exact .inr h,k5⟩
  · obtain rfl:ys=[]:=List.eq_nil_of_length_eq_zero ω
    obtain ⟨a0,c0,e0⟩:=an h
    simp only [List.cons.injEq,and_true] at e0
    subst e0
    obtain ⟨_,hc⟩:=Gh h
    exact ⟨_,_,fp,yb ht hT hc,by simpa using h,Ext.refl,fun b hb => .inl hb,n1⟩
end
section
variable {P:Program}{n:Nat}{ops:Array Oper}{Q:Post}{L:Env}{w w0:World}{M:Nat→Prop}{Δ F:List Rsc}{d:Tmp}{ty:TypeId}{p:String}{af:Array Edge}{g:Option (Nat × Bool)}{rest:List Oper}{α:Type}[Rp α] [Flat α]
theorem vA {x y:Operand}{t e:TypeId}{z:Value}{bytes:Nat}{v:Value}{xs ys:List α}{fp fy:List Nat}{s ad m c2} (hw:Wn ops n L ⟨some d,.call ⟨.builtin .append,#[x,y],#[t,t]⟩,ty,p,af,g⟩) (hn:Nat.blt d n=true)
    (ht:P.underlying t=some (.slice e)) (hT:Ty P e z (sz α) bytes) (hz:z.cells.size=sz α) (hx:evL L x=some v) (hy:evL L y=some (.slice ad m c2))
    (H:Sep M w0 Δ F w) (i:Nat) (hi:Δ[i]? = some (mine [v] xs fp)) (hu:own s w [.slice ad m c2] ys fy) (h63:xs.length+ys.length≤maxLen) (hb48:(xs.length+ys.length)*bytes≤140737488355328)
    (k:∀ v' w' fp',Sep M w0 (Δ.set i (mine [v'] (xs++ys) fp')) F w'→RL P n ops Q rest ((d,v')::L) w') :
    RL P n ops Q (⟨some d,.call ⟨.builtin .append,#[x,y],#[t,t]⟩,ty,p,af,g⟩::rest) L w:=by
  obtain ⟨v',w',fp',h1,h2,h3,h4,h5⟩:=xx (ty:=ty) ht hT hz (H.mine i hi) hu (H.nodup1 hi) h63 hb48
  exact sc hw rfl hn (qy hx hy h1) (k _ _ _ (H.set hi (q:=Wk.mine [v'] (xs++ys) fp') h3 h2 h5 h4))
end
structure View where
  ad:Option Addr
  len:Nat
  cap:Nat
def View.val (v:View):Value := .slice v.ad v.len v.cap
instance:Rp View where
  sz:=1
  pos:=by decide
  own _ _ cs x fp:=cs=[x.val]∧fp=[]
  len h:=by rw [h.1]; rfl
  one h v hv:=by rw [h.1] at hv; simp at hv; subst hv; rfl
  st h _:=h
  lt h b hb:=by rw [h.2] at hb; simp at hb
  weak h:=h
theorem tk {β:Type}[Rp β] {s w}:∀ {xss:List (List β)}{cs f},bY s w cs xss f→cs.length=xss.length→∃ vs:List View,cs=vs.map View.val∧vs.length=xss.length
  | [],cs,f,_,hl=>⟨[],List.eq_nil_of_length_eq_zero (by simpa using hl),rfl⟩
  | x::xss,cs,f,⟨f1,f2,e,h1,h2⟩,hl=>by
    obtain ⟨ad,cap,h3⟩:=an h1
    obtain ⟨vs,h4,h5⟩:=tk h2 (by rw [List.length_drop,hl,List.length_cons]; rfl)
    refine ⟨⟨ad,x.length,cap⟩::vs,?_,by simp [h5]⟩
    rw [List.map_cons,← h4,← List.take_append_drop (sz (List β)) cs,h3]
    simp [View.val,sz]
theorem ui {w:World}:∀ {vs:List View}{s},bY s w (vs.map View.val) vs []
  | [],_=>rfl
  | v::vs,s=>⟨[],[],rfl,⟨by simp [sz],rfl⟩,by simpa [sz] using ui (w:=w) (vs:=vs) (s:=s)⟩
theorem rh {w}:∀ {vs:List View}{s cs f},bY s w cs vs f→cs.take vs.length=vs.map View.val
  | [],_,_,_,_=>by simp
  | v::vs,s,cs,f,⟨f1,f2,e,h1,h2⟩=>by
    have h3:=rh h2
    have h4:cs.take 1=[v.val]:=h1.1
    rw [List.length_cons,Nat.add_comm,List.take_add,h4,List.map_cons]
    exact congrArg (v.val :: ·) h3
def rows {β:Type}[Rp β] (vs:List View) (xss:List (List β)) (g:List Nat):Rsc:=⟨g,fun w=>bY false w (vs.map View.val) xss g,fun h k=>h.st k,fun h=>h.lt⟩
theorem uP {β:Type}[Rp β] {w v} {vs:List View}{xss:List (List β)}{f g s} (h:own s w [v] vs f) (hr:bY false w (vs.map View.val) xss g) (hl:vs.length=xss.length):∃ fp,own false w [v] xss fp∧∀ b∈fp,b∈f∨b∈g:=by
  rcases h with ⟨_,ad,cap,e1,rfl,rfl⟩ | ⟨e1,rfl,rfl⟩ | ⟨b,o,cap,cur,T,fr,fs,h1,h2,h3,h4,h5,h6,h7,h8⟩
  · obtain rfl:xss=[]:=List.eq_nil_of_length_eq_zero (by simpa using hl.symm)
    exact ⟨[],.inl ⟨rfl,_,_,e1,rfl,rfl⟩,σ⟩
  · obtain rfl:xss=[]:=List.eq_nil_of_length_eq_zero (by simpa using hl.symm)
    exact ⟨[],.inr (.inl ⟨e1,rfl,rfl⟩),σ⟩
  · subst h2
    refine ⟨b::g,.inr (.inr ⟨b,o,cap,cur,T,fr,g,by rw [h1,hl],rfl,h3,(fun h=>by cases h),ω,h6,h7,?_⟩),fun x hx=>?_⟩
    · refine hr.congr ?_
      have h9:=rh h8
      have e1:xss.length*sz (List β)=vs.length:=by rw [hl]; exact Nat.mul_one _
      rw [e1,h9,List.take_of_length_le σ]
    · rcases List.mem_cons.1 hx with rfl | hx
      · simp
      · exact .inr hx
theorem Sep.fto {M w0 Δ F F'} {w:World}(h:Sep M w0 Δ F w) (hf:∀ r∈F',r.φ w∧∀ b∈r.fp,b ∉ blocks Δ):Sep M w0 Δ F' w:=
  ⟨h.ext,h.rs,h.nd,h.new,fun r hr=>(hf r hr).1,fun r hr=>(hf r hr).2⟩
theorem Sep.freshD {w0 Δ F} {w:World}(h:Sep No w0 Δ F w) (i:Nat) {r:Rsc}(hi:Δ[i]? = some r):∀ b∈r.fp,w0.heap.size≤b:=fun b hb=>
  (h.new b (bJ.2 ⟨r,List.mem_of_getElem? hi,hb⟩)).resolve_left id
theorem lA {α:Type}[Rp α] {s w ad n cap} {xs:List α}{fp} (h:own s w [.slice ad n cap] xs fp):xs.length≤cap:=by
  rcases h with ⟨_,_,_,_,rfl,_⟩ | ⟨_,rfl,_⟩ | ⟨b,o,cap',cur,T,fr,fs,h1,h2,h3,h4,h5,h6,h7,h8⟩
  · exact Nat.zero_le _
  · exact Nat.zero_le _
  · simp only [List.cons.injEq,Value.slice.injEq,and_true] at h1
    obtain ⟨rfl,rfl,rfl⟩:=h1
    exact h5
theorem tX {α:Type}[Rp α] {s w ad n cap} {xs:List α}{fp} (h:own s w [.slice ad n cap] xs fp) (l k m:Nat) (h1:l≤k) (h2:k≤xs.length) (h3:k≤m) (h4:m≤cap) :
    ∃ f,own false w [.slice (slA ad l m (sz α)) (cut xs l k).length (m-l)] (cut xs l k) f∧∀ b∈f,b∈fp:=by
  rw [nz h2]; exact AX h l k m h1 h2 h3 h4
section
variable {P:Program}{n:Nat}{L:Env}{w:World}{d:Option Tmp}{ty:TypeId}{p:String}{af:Array Edge}{g:Option (Nat × Bool)}
theorem tj {t e:TypeId}{x hi:Operand}{ad:Option Addr}{len cap s:Nat}{k2:IntKind}{h:Int}{m:Nat}(hu:P.underlying t=some (.slice e)) (hs:∀ w,(sizeOf e).run P w = .ok s w)
    (hx:evL L x=some (.slice ad len cap)) (hh:evL L hi=some (.int k2 h)) (h':Nat) (eh:h=h') (h2:h'≤cap) (em:m=h'-0) :
    Py P n L w ⟨d,.slice t x none (some hi) none,ty,p,af,g⟩ (.slice (slA ad 0 cap s) m (cap-0)):=by
  rw [em]; exact FT hu hs hx hh h' eh h2
end
theorem BR {β:Type}[Rp β] {w:World}{us:List View}{yss:List (List β)}{g:List Nat}(h:(rows us yss g).φ w) (hl:us.length=yss.length) {s a c f} {y:List β}(hy:own s w [.slice a y.length c] y f) :
    (rows (us++[⟨a,y.length,c⟩]) (yss++[y]) (g++f)).φ w:=by
  show bY false w ((us++[_]).map View.val) (yss++[y]) (g++f)
  rw [List.map_append]
  have h1:bY false w (us.map View.val) yss g:=h
  refine h1.append ?_ (bY.one ?_)
  · simp [hl,sz]
  · cases s
    · exact hy
    · exact Rp.weak hy
end Go.Wk
namespace Go.Wk
open Rp (sz own)
def inF (ro:Option Nat):Fence:={ Fence.wide with round:=ro }
def GoodD (ds:List Deferred) (n:Nat) (a:Act) (L:Env):Prop:=Good n { a with defers:=[] } L∧a.defers=ds
theorem GoodD.put {ds n a L d v} (h:GoodD ds n a L) (hd:Nat.blt d n=true):GoodD ds n (a.put (some d) v) ((d,v)::L):=
  ⟨by have:=h.1.put hd (v:=v); exact this,h.2⟩
theorem GoodD.weak {ds n a L M} (h:GoodD ds n a L) (hs:sub L M):GoodD ds n a M:=⟨h.1.weak hs,h.2⟩
def s7 (ds:List Deferred) (n:Nat) (Q:Post):Exit→Act→World→Prop
  | .panic _,_,_=>False
  | .outgrown,_,_=>False
  | e,a,w=>∃ L,GoodD ds n a L∧Q e L w
def WF (ro:Option Nat) (ds:List Deferred) (P:Program) (n:Nat) (c:Code) (Q:Post) (L:Env) (w:World):Prop:=
  ∀ a,GoodD ds n a L→c.wpIn (inF ro) 3 P (s7 ds n Q) a w
def RF (ro:Option Nat) (ds:List Deferred) (P:Program) (n:Nat) (ops:Array Oper) (Q:Post) (l:List Oper) (L:Env) (w:World):Prop:=
  ∀ a,GoodD ds n a L→wpListIn (inF ro) 3 P ops (s7 ds n Q) l a w
section
variable {ro:Option Nat}{ds:List Deferred}{P:Program}{n:Nat}{ops:Array Oper}{Q:Post}{L:Env}{w:World}
theorem m5 {id l} (h:RF ro ds P n l.toArray Q l L w):WF ro ds P n (.region id l.toArray false) Q L w:=fun a ha=>wpIn_region_lit (h a ha)
theorem GU (h:Q .ret L w):WF ro ds P n .ret Q L w:=fun _ ha=>wpIn_ret ⟨L,ha,h⟩
theorem FJ (h:Q .normal L w):WF ro ds P n .skip Q L w:=fun _ ha=>wpIn_skip ⟨L,ha,h⟩
def HO (ro:Option Nat) (ds:List Deferred) (P:Program) (n:Nat) (c:Code) (Q:Post):Post
  | .normal,L,w=>WF ro ds P n c Q L w
  | e,L,w=>Q e L w
theorem Ab {x y} (h:WF ro ds P n x (HO ro ds P n y Q) L w):WF ro ds P n (.seq x y) Q L w:=fun a ha=>wpIn_seq <|
  wpIn_mono (h a ha) fun e a w hh=>by
    cases e<;>first | exact hh | (obtain ⟨L,hg,hq⟩:=hh; first | exact hq a hg | exact ⟨L,hg,hq⟩)
theorem xe {id c} (h:WF ro ds P n c (blk id Q) L w):WF ro ds P n (.block id c) Q L w:=fun a ha=>wpIn_block <|
  wpIn_mono (h a ha) fun e a w hh=>by
    cases e with
    | exit i=>
      obtain ⟨L,hg,hq⟩:=hh
      simp only [blk] at hq
      simp only [Exit.inBlock]
      cases hb:Nat.beq i id with
      | true=>
        rw [hb] at hq
        rw [if_pos (Nat.eq_of_beq_eq_true hb)]
        exact ⟨L,hg,hq⟩
      | false=>
        rw [hb] at hq
        rw [if_neg (fun e=>by subst e; simp at hb)]
        exact ⟨L,hg,hq⟩
    | _=>exact hh
theorem Hx {c} (h:WF none [] P n c Q L w):W P n c Q L w:=fun a ha=>by
 refine (wpIn_wide (n:=3)).1 (wpIn_mono (F:=Fence.wide) (h a ⟨by cases a; have:=ha.defers; simp only at this; subst this; exact ha,ha.defers⟩) fun e a w hh=>?_)
 cases e<;>first | exact hh | (obtain ⟨L,⟨hg,hd⟩,hq⟩:=hh; exact ⟨L,by cases a; simp only at hd; subst hd; exact hg,hq⟩)
theorem pJ (h:Q .normal L w):RF ro ds P n ops Q [] L w:=fun _ ha=>wpListIn_nil ⟨L,ha,h⟩
theorem Ea {o:Oper}{rest} {r:Result Next}(hw:Wn ops n L o) (hnd:∀ c,o.op ≠ .defer c)
    (hr:∀ a,Good n a L→(execOp a.eval o).run P w=r)
    (hk:∀ a,GoodD ds n a L→∀ K:Act→World→Prop,(∀ a w,wpListIn (inF ro) 3 P ops (s7 ds n Q) rest a w→K a w)→o.uponIn (inF ro) 3 P a K (s7 ds n Q) r):RF ro ds P n ops Q (o::rest) L w:=fun a ha=>wpListIn_step fun K hK=>by
  have hwn:Region.wanted o (yielded ops a.tmps)=true:=hw { a with defers:=[] } ha.1
  rw [if_pos hwn]
  refine ⟨fun _ _=>trivial,?_⟩
  rw [Oper.semAt_eq _ _ _ hnd]
  have:=hr { a with defers:=[] } ha.1
  rw [show (execOp a.eval o).run P w=r from this]
  exact hk a ha K hK
theorem eK {o rest d v} (hw:Wn ops n L o) (hd:o.dst=some d) (hn:Nat.blt d n=true) (hp:Py P n L w o v)
    (k:RF ro ds P n ops Q rest ((d,v)::L) w) (hnd:∀ c,o.op ≠ .defer c:=by intro c h; cases h):RF ro ds P n ops Q (o::rest) L w:=
  Ea hw hnd hp fun a ha K hK=>by
    rw [Oper.uponIn_value,hd]
    exact hK _ _ (k _ (ha.put hn))
theorem Eb {o rest d v w'} (hw:Wn ops n L o) (hd:o.dst=some d) (hn:Nat.blt d n=true) (hp:Pn P n L w o v w')
    (k:RF ro ds P n ops Q rest ((d,v)::L) w') (hnd:∀ c,o.op ≠ .defer c:=by intro c h; cases h):RF ro ds P n ops Q (o::rest) L w:=
  Ea hw hnd hp fun a ha K hK=>by
    rw [Oper.uponIn_value,hd]
    exact hK _ _ (k _ (ha.put hn))
theorem HD {o rest w'} (hw:Wn ops n L o) (hd:o.dst=none) (hp:Pd P n L w o w')
    (k:RF ro ds P n ops Q rest L w') (hnd:∀ c,o.op ≠ .defer c:=by intro c h; cases h):RF ro ds P n ops Q (o::rest) L w:=
  Ea hw hnd hp fun a ha K hK=>by
    rw [Oper.uponIn_skip,hd]
    exact hK _ _ (k _ ha)
theorem Ge {rest:List Oper}{d:Tmp}{x y:Operand}{ats:Array TypeId}{ty:TypeId}{p:String}{af:Array Edge}{l:Nat}{u:Value}{R:Ending→World→Prop}
    (hx:evL L x=some (.func (.yield l) #[] #[])) (hy:evL L y=some u) (hn:Nat.blt d n=true)
    (hc:YieldAt (inF none) 2 P l #[u] w R) (k:∀ e w',R e w'→∃ v,e = .returned v∧RF none ds P n ops Q rest ((d,v)::L) w') :
    RF none ds P n ops Q (⟨some d,.call ⟨.value x,#[y],ats⟩,ty,p,af,none⟩::rest) L w:=by
  obtain ⟨fn,tmps,assign,body,hr,hR⟩:=hc
  refine Ea ah (by intro c h; cases h) (r := .ok (.round l fn tmps assign body) w) (fun a ha=>?_) fun a ha K hK=>?_
  · simp [execOp,resolve,invoke,Deferred.ofValue,ha.eval hx,ha.eval hy,hr]
  · rw [Oper.uponIn_round]
    refine ⟨fun h=>(by cases h),hR.mono fun e w' he=>?_⟩
    obtain ⟨v,rfl,hk⟩:=k e w' he
    exact hK _ _ (hk _ (ha.put hn))
end
structure Recs (R:LoopState→Option Code→Loop) (fn:FuncId) (tmps:Array Value) (ps:Array Tmp) (assign body:Code):Prop where
  st:∀ s p,(R s p).state=s
  pe:∀ s p,(R s p).pending=p
  up:∀ s p s' p',{ R s p with state:=s',pending:=p' }=R s' p'
  fn:∀ s p,(R s p).fn=fn
  tmps:∀ s p,(R s p).tmps=tmps
  ps:∀ s p,(R s p).params=ps
  asg:∀ s p,(R s p).assign=assign
  bo:∀ s p,(R s p).body=body
section
variable {P:Program}{n:Nat}{L:Env}{W:World}{R:LoopState→Option Code→Loop}{fn:FuncId}{tmps:Array Value}{assign body:Code}{t:Tmp}{l:Nat}{u:Value}
theorem EJ (hR:Recs R fn tmps #[t] assign body) (hg:Good n { tmps:=tmps,defers:=[] } L) (ht:Nat.blt t n=true) (hl:W.heap[l]? = some (.loop (R .ready none))) {L2:Env}{B:World→Prop}
    (ha:WF (some l) [] P n assign (fun e L' W'=>e = .normal∧W'=W∧sub L' L2) ((t,u)::L) W)
    (hb:WF (some l) [] P n body (fun e L' W'=>e = .normal∧W'.heap[l]? = some (.loop (R .busy none))∧B W') L2 (put W l (.loop (R .busy none)))) :
    YieldAt (inF none) 2 P l #[u] W fun e W'=>e = .returned (.bool true)∧∃ W2,B W2∧W2.heap[l]? = some (.loop (R .busy none))∧W'=put W2 l (.loop (R .ready none)):=by
  have hy:=run_yield (P:=P) (args := #[u]) hl (by rw [hR.ps]; rfl)
  rw [hR.fn,hR.tmps,hR.ps,hR.asg,hR.bo] at hy
  refine ⟨fn,_,assign,body,hy,?_⟩
  have hg2:GoodD [] n { tmps:=((#[t].zip #[u]).foldl (fun tmps (t,a)=>tmps.setIfInBounds t a) tmps),defers:=[] } ((t,u)::L):=by
    refine ⟨?_,rfl⟩
    have:=hg.put ht (v:=u)
    simpa [Act.put] using this
  refine roundIn_of_wpIn (F:=inF none) trivial ?_
  have key:assign.wpIn (inF (some l)) 3 P (s7 [] n (fun e L' W'=>e = .normal∧W'=W∧sub L' L2)) { tmps:=((#[t].zip #[u]).foldl (fun tmps (t,a)=>tmps.setIfInBounds t a) tmps),defers:=[] } W:=ha _ hg2
  have dn:∀ {c:Code}{QQ:Exit→Act→World→Prop}{a:Act}{w:World},c.wpIn (inF (some l)) 3 P QQ a w→c.wpIn ((inF none).inRound l) 2 P QQ a w:=fun h b k cs h1 h2 h3=>h b k cs h1 h2 (fun d hd=>by cases hd)
  refine dn (wpIn_mono key fun e a w hh=>?_)
  cases e with
  | normal=>
    obtain ⟨L',hg',_,rfl,hs⟩:=hh
    refine ⟨put w l (.loop (R .busy none)),?_,dn (wpIn_mono (hb _ (hg'.weak hs)) fun e a w2 hh=>?_)⟩
    · have:=run_beginRound (P:=P) hl (hR.st _ _)
      rw [this]
      have e1:=hR.up .ready none .busy none
      have e2:({ R .ready none with state := .busy }:Loop)=R .busy none:=by
        rw [← e1]
        have:=hR.pe .ready none
        cases h:R .ready none; rw [h] at this; simp only at this; subst this; rfl
      rw [e2]; rfl
    · cases e with
      | normal=>
        obtain ⟨L3,_,_,hl2,hB⟩:=hh
        refine ⟨_,_,run_endRound (P:=P) none hl2,rfl,w2,hB,hl2,?_⟩
        show put w2 l _=_
        congr 2
        exact hR.up .busy none .ready none
      | panic _=>exact hh
      | outgrown=>exact hh
      | ret=>obtain ⟨_,_,h,_⟩:=hh; cases h
      | exit _=>obtain ⟨_,_,h,_⟩:=hh; cases h
      | goto _=>obtain ⟨_,_,h,_⟩:=hh; cases h
  | panic _=>exact hh
  | outgrown=>exact hh
  | ret=>obtain ⟨_,_,h,_⟩:=hh; cases h
  | exit _=>obtain ⟨_,_,h,_⟩:=hh; cases h
  | goto _=>obtain ⟨_,_,h,_⟩:=hh; cases h
end
section
variable {P:Program}{n:Nat}{L:Env}{w:World}{Q:Exit→Act→World→Prop}
theorem Fc {g:Operand}{t:Tmp}{assign body:Code}{gf:FuncId}{gfn:Func}{lb:Array Value}{a:Act}{K:World→Prop}(ha:GoodD [] n a L) (hg:evL L g=some (.func (.func gf) #[] lb))
    (hf:P.funcs[gf]? = some gfn) (hb:gfn.body.isNone=false) (hnm:(gfn.name == "runtime.NumGoroutine")=false)
    (hc:∀ (R:LoopState→Option Code→Loop) (fn:FuncId),Recs R fn a.tmps #[t] assign body →
      Ret P gf (#[.func (.yield (w.heap.size+1)) #[] #[]]++lb) ((w.alloc (.deferred (some []))).alloc (.loop (R .ready none))) fun _ w2=>
        w2.heap[w.heap.size+1]? = some (.loop (R .ready none))∧K (put w2 (w.heap.size+1) (.loop (R .exhausted none))))
    (hQ:∀ w3,K w3→Q .normal { a with defers:=[{ target := .collected w.heap.size,args := #[] }] } w3) :
    (Code.rangeFunc g #[t] assign body).wpIn (inF none) 3 P Q a w:=by
  refine wpIn_rangeFunc ?_
  intro fn _
  let R:LoopState→Option Code→Loop:=fun st pe=>{ state:=st,pending:=pe,fn,tmps:=a.tmps,params := #[t],assign,body,defers:=w.heap.size }
  have hR:Recs R fn a.tmps #[t] assign body:=⟨fun _ _=>rfl,fun _ _=>rfl,fun _ _ _ _=>rfl,fun _ _=>rfl,fun _ _=>rfl,fun _ _=>rfl,fun _ _=>rfl,fun _ _=>rfl⟩
  refine ⟨w.heap.size+1,[{ target := .collected w.heap.size,args := #[] }],(w.alloc (.deferred (some []))).alloc (.loop (R .ready none)),{ target := .fn (.func gf) lb,args := #[.func (.yield (w.heap.size+1)) #[] #[]] },
    (w.alloc (.deferred (some []))).alloc (.loop (R .ready none)),gf,#[.func (.yield (w.heap.size+1)) #[] #[]]++lb,(w.alloc (.deferred (some []))).alloc (.loop (R .ready none)),run_enterLoop_outer _ _ _ _ _,?_,fun _ _=>trivial,?_,fun h=>(by cases h),?_⟩
  · have:a.eval g = .func (.func gf) #[] lb:=ha.1.eval hg
    simp [resolve,this,Deferred.ofValue]
    rfl
  · have hb':¬ gfn.body=none:=fun e=>by rw [e] at hb; simp at hb
    have hnm':¬ gfn.name = "runtime.NumGoroutine" := fun e=>by rw [e] at hnm; simp at hnm
    simp [invoke,callFunc,hf,hb',hnm']
  · refine callsIn_wide.2 (Calls.mono (hc R fn hR) fun e w2 ⟨v,he,hl,hK⟩=>?_)
    subst he
    refine ⟨none,_,by have:=run_endLoop (P:=P) hl (by rw [hR.st]; simp); exact this,?_⟩
    rw [ha.2]
    exact hQ _ hK
end
section
variable {P:Program}{n:Nat}{L:Env}{w:World}{d:Option Tmp}{ty:TypeId}{p:String}{af:Array Edge}{g:Option (Nat × Bool)}
theorem GE {x y:Operand}{ats:Array TypeId}{k k2:IntKind}{i j:Int}(hx:evL L x=some (.int k i)) (hy:evL L y=some (.int k2 j)) :
    Py P n L w ⟨d,.call ⟨.builtin .min,#[x,y],ats⟩,ty,p,af,g⟩ (.int k (if j<i then j else i)):=fun a ha=>by
  simp [execOp,resolve,invoke,builtin,ha.eval hx,ha.eval hy,run_min_int2]
theorem DB {x y:Operand}{ats:Array TypeId}{k k2:IntKind}{i j:Int}(hx:evL L x=some (.int k i)) (hy:evL L y=some (.int k2 j)) :
    Py P n L w ⟨d,.call ⟨.builtin .max,#[x,y],ats⟩,ty,p,af,g⟩ (.int k (if i<j then j else i)):=fun a ha=>by
  simp [execOp,resolve,invoke,builtin,ha.eval hx,ha.eval hy,run_max_int2]
theorem kl {f:FuncId}{xs:Array Operand}{vs:List Value}(hv:iQ L xs.toList=some vs) :
    Py P n L w ⟨d,.makeFunc (.func f) #[] xs,ty,p,af,g⟩ (.func (.func f) #[] vs.toArray):=fun a ha=>by
  have hm:xs.map a.eval=vs.toArray:=by
    have key:∀ (l:List Operand) (vs:List Value),iQ L l=some vs→l.map a.eval=vs:=by
      intro l
      induction l with
      | nil=>intro vs h; simp [iQ] at h; simp [h]
      | cons x l ih=>
        intro vs h
        unfold iQ at h
        split at h
        · rename_i v us hv hus
          cases h
          simp [ha.eval hv,ih us hus]
        · cases h
    have:=key _ _ hv
    apply Array.toList_inj.1
    simpa using this
  simp [execOp,Instr.makeFunc,hm]
end
theorem uQ {P:Program}{f:FuncId}{fn:Func}{c:Code}{n:Nat}{vs:List Value}{w:World}{R:Value→World→Prop}(hf:P.funcs[f]? = some fn) (hb:fn.body=some c) (hn:fn.ntmps=n) (hl:Nat.ble vs.length n=true)
    (h:∀ a,GoodD [] n a (nQ 0 vs)→c.wpIn (inF none) 3 P (fun e a w=>(e = .normal∨e = .ret)∧∃ D L,GoodD [{ target := .collected D,args := #[] }] n a L∧w.heap[D]? = some (.deferred (some []))∧fin P fn R .ret L (put w D (.deferred none))) a w) :
    Ret P f vs.toArray w R:=by
  have hl':=Nat.le_of_ble_eq_true hl
  refine callsIn_wide.1 (callsIn_of_wp_marks (n:=3) (F:=Fence.wide) hf hb trivial ?_)
  refine wpIn_mono (F:=Fence.wide) (h _ ⟨Good.start (by rw [hn]; simp; omega),rfl⟩) fun e a w hh=>?_
  obtain ⟨he,D,L,⟨hg,hd⟩,hD,hfin⟩:=hh
  have key:LeavesInM Fence.wide 3 P fn a.tmps (fun e w'=>∃ v,e = .returned v∧R v w') a.defers .returning w:=by
    rw [hd]
    obtain ⟨v,hv,hR⟩:=hfin _ _ hg
    exact ⟨σ,.inl ⟨D,_,rfl,run_takeDeferred hD,⟨_,hv,_,rfl,hR⟩⟩⟩
  rcases he with rfl | rfl<;>exact key
section
variable {ro:Option Nat}{ds:List Deferred}{P:Program}{n:Nat}{ops:Array Oper}{Q:Post}{L:Env}{w w0:World}{M:Nat→Prop}{Δ F:List Rsc}{rest:List Oper}{d:Nat}{ty:TypeId}{p:String}{af:Array Edge}{g:Option (Nat × Bool)}{α:Type}[Rp α]
theorem Hw {t:TypeId}{x:Operand}{v:Value}(hw:Wn ops n L ⟨some d,.box t x,ty,p,af,g⟩) (hn:Nat.blt d n=true) (hx:evL L x=some v) (H:Sep M w0 Δ F w)
    (k:∀ b w',Ext No w w'→w.heap.size≤b→Sep M w0 (Δ++[box b (.cells v.cells t)]) F w'→RF ro ds P n ops Q rest ((d,.pointer (some ⟨b,0,none⟩))::L) w') :
    RF ro ds P n ops Q (⟨some d,.box t x,ty,p,af,g⟩::rest) L w:=
  Eb hw rfl hn (D5 hx) (k _ _ (Ext.refl.alloc _) (Nat.le_refl _) (H.alloc _))
theorem G7 {t e:TypeId}{x:Operand}{z v:Value}{size bytes:Nat}(hw:Wn ops n L ⟨some d,.buildSlice t 1 #[(0,x)],ty,p,af,g⟩) (hn:Nat.blt d n=true) (ht:P.underlying t=some (.slice e)) (hT:Ty P e z size bytes) (hs:Nat.blt 0 size=true)
    (hx:evL L x=some v) (h1:v.cells.size=size) (hsmall:Nat.ble size 16777216=true) (H:Sep M w0 Δ F w)
    (k:∀ b w',Ext No w w'→w.heap.size≤b→Sep M w0 (Δ++[box b (.cells v.cells.toList.toArray e)]) F w'→RF ro ds P n ops Q rest ((d,.slice (some ⟨b,0,none⟩) 1 1)::L) w') :
    RF ro ds P n ops Q (⟨some d,.buildSlice t 1 #[(0,x)],ty,p,af,g⟩::rest) L w:=by
  have hp:=sX (n:=n) (w:=w) (ty:=ty) (p:=p) (af:=af) (g:=g) (d:=some d) (parts := #[(0,x)]) (vs:=[v]) (len:=1) ht hT (Nat.le_of_ble_eq_true hs) rfl (qz hx) (by simpa using h1) ω (by have:=Nat.le_of_ble_eq_true hsmall; omega)
  simp only [List.flatMap_cons,List.flatMap_nil,List.append_nil] at hp
  exact Eb hw rfl hn hp (k _ _ (Ext.refl.alloc _) (Nat.le_refl _) (H.alloc _))
theorem GY {x y:Operand}{t e:TypeId}{z:Value}{bytes:Nat}{v:Value}{xs:List α}{fp:List Nat}{b2 c2:Nat}{T} {cs:List Value}{u:α}(hw:Wn ops n L ⟨some d,.call ⟨.builtin .append,#[x,y],#[t,t]⟩,ty,p,af,g⟩) (hn:Nat.blt d n=true)
    (ht:P.underlying t=some (.slice e)) (hT:Ty P e z (sz α) bytes) (hz:z.cells.size=sz α) (hx:evL L x=some v) (hy:evL L y=some (.slice (some ⟨b2,0,none⟩) 1 c2))
    (H:Sep M w0 Δ F w) (i j:Nat) (hi:Δ[i]? = some (mine [v] xs fp)) (hj:Δ[j]? = some (box b2 (.cells cs.toArray T))) (hu:own true w cs u []) (h63:xs.length+1≤maxLen) (hb48:(xs.length+1)*bytes≤140737488355328)
    (k:∀ v' w' fp',Sep M w0 (Δ.set i (mine [v'] (xs++[u]) fp')) F w'→RF ro ds P n ops Q rest ((d,v')::L) w') :
    RF ro ds P n ops Q (⟨some d,.call ⟨.builtin .append,#[x,y],#[t,t]⟩,ty,p,af,g⟩::rest) L w:=by
  obtain ⟨v',w',fp',h1,h2⟩:=H.app1 i hi (ty:=ty) ht hT hz (At.whole (H.box j hj)) hu h63 hb48
  exact Eb hw rfl hn (qy hx hy h1) (k _ _ _ h2)
theorem Gz {t:TypeId}{x y:Operand}{b off:Nat}{cs:List Value}{T v} (hw:Wn ops n L ⟨none,.store t x y,ty,p,af,g⟩) (hs:∀ w,(sizeOf t).run P w = .ok 1 w) (hx:evL L x=some (.pointer (some ⟨b,off,none⟩))) (hy:evL L y=some v) (h1:v.oneCell'=true)
    (H:Sep M w0 Δ F w) (i:Nat) (hi:Δ[i]? = some (box b (.cells cs.toArray T))) (ho:Nat.blt off cs.length=true)
    (k:∀ w',Ext (· = b) w w'→Sep M w0 (Δ.set i (box b (.cells (cs.set off v).toArray T))) F w'→RF ro ds P n ops Q rest L w') :
    RF ro ds P n ops Q (⟨none,.store t x y,ty,p,af,g⟩::rest) L w:=by
  have h:=k _ (Ext.refl.put (.inl rfl)) (H.put i _ hi)
  rw [← List.setIfInBounds_toArray] at h
  exact HD hw rfl (ge hs hx hy h1 (H.box i hi) (by rw [List.size_toArray]; exact Nat.le_of_ble_eq_true ho)) h
theorem z4 {x y:Code}{Q:Exit→Act→World→Prop}{a:Act}{B:Env→World→Prop}(ha:GoodD ds n a L) (h:WF ro ds P n x (fun e L' w'=>e = .normal∧B L' w') L w)
    (k:∀ a' L' w',GoodD ds n a' L'→B L' w'→y.wpIn (inF ro) 3 P Q a' w'):(Code.seq x y).wpIn (inF ro) 3 P Q a w:=
  wpIn_seq (wpIn_mono (h a ha) fun e a' w' hh=>by
    cases e with
    | normal=>obtain ⟨L',hg,_,hB⟩:=hh; exact k a' L' w' hg hB
    | panic _=>exact hh.elim
    | outgrown=>exact hh.elim
    | ret=>obtain ⟨_,_,h,_⟩:=hh; cases h
    | exit _=>obtain ⟨_,_,h,_⟩:=hh; cases h
    | goto _=>obtain ⟨_,_,h,_⟩:=hh; cases h)
end
def iF (A:Option Addr) (m q:Nat):List View:=(List.range q).map fun i=>⟨slA A (i*m) (i*m+m) 1,m,m⟩
def chunks {α:Type}(xs:List α) (m q:Nat):List (List α):=(List.range q).map fun i=>cut xs (i*m) (i*m+m)
theorem oI {A m q}:(iF A m q).length=q:=by simp [iF]
theorem gx {α:Type}{xs:List α}{m q}:(chunks xs m q).length=q:=by simp [chunks]
theorem wG {A m q i} (h:i<q):(iF A m q).take i++[⟨slA A (i*m) (i*m+m) 1,m,m⟩]=(iF A m q).take (i+1):=by
  rw [List.take_add_one]
  congr 1
  simp [iF,h]
theorem oH {α:Type}{xs:List α}{m q i} (h:i<q):(chunks xs m q).getD i []=cut xs (i*m) (i*m+m):=by
  simp [chunks,List.getD,h]
theorem mU {i q m n:Nat}(hn:n=q*m) (h:i<q):i*m+m≤n:=by
  rw [hn,← Nat.succ_mul]; exact Nat.mul_le_mul_right _ h
theorem yn {s w n cap} {A:Option Addr}{xs:List UInt8}{fp} (h:own s w [.slice A n cap] xs fp) {m q:Nat}(hm:1≤m) (hn:xs.length=q*m) (hc:q*m≤cap) :
    ∃ f,bY false w ((iF A m q).map View.val) (chunks xs m q) f∧∀ b∈f,b∈fp:=by
  have key:∀ k,k≤q→∃ f,bY false w (((List.range k).map fun i=>(⟨slA A (i*m) (i*m+m) 1,m,m⟩:View)).map View.val) ((List.range k).map fun i=>cut xs (i*m) (i*m+m)) f∧∀ b∈f,b∈fp:=by
    intro k
    induction k with
    | zero=>intro _; exact ⟨[],by simp [bY],σ⟩
    | succ k ih=>
      intro hk
      obtain ⟨f,hf,hs⟩:=ih ω
      have h1:=mU (m:=m) rfl (show k<q by omega)
      obtain ⟨g,hg,ht⟩:=AX h (k*m) (k*m+m) (k*m+m) ω ω (Nat.le_refl _) ω
      refine ⟨f++g,?_,fun b hb=>by rcases List.mem_append.1 hb with hb | hb; exact hs b hb; exact ht b hb⟩
      rw [List.range_succ,List.map_append,List.map_append,List.map_append]
      refine hf.append (by simp [sz]) (bY.one ?_)
      have e:k*m+m-k*m=m:=by omega
      rw [e] at hg
      exact hg
  exact key q (Nat.le_refl _)
structure Pl (P:Program) (t:TypeId) (zs:List Value) (pl:List (Nat × Nat)):Prop where
  h : (match P.info? t,P.underlying t with
    | some it,some (.struct fields)=>(it.zero,fields.toList.mapM (fun f=>(P.info? f.type).map fun i=>(f.offset,i.size)))
    | _,_=>(none,none))=(some (.agg zs.toArray),some pl)
def xf (pl:List (Nat × Nat)):List Value→List (Nat × Value)→Option (List Value)
  | zs,[]=>some zs
  | zs,(i,v)::rest=>match pl[i]? with
    | none=>none
    | some (off,size)=>match Nat.beq v.cells.toList.length size && Nat.ble (off+size) zs.length with
      | true=>xf pl (aI zs off v.cells.toList) rest
      | false=>none
theorem u3:∀ (vs:List Value) (zs:Array Value) (off k:Nat),(vs.zipIdx k).foldl (fun (cs:Array Value) (x:Value × Nat)=>cs.setIfInBounds (off+x.2) x.1) zs=lay zs (off+k) vs
  | [],zs,off,k=>rfl
  | v::vs,zs,off,k=>by
    rw [List.zipIdx_cons,List.foldl_cons,u3 vs]
    show lay (zs.setIfInBounds (off+k) v) (off+(k+1)) vs=lay (zs.setIfInBounds (off+k) v) (off+k+1) vs
    rfl
theorem sU (pl:List (Nat × Nat)):∀ (parts:List (Nat × Value)) (zs cs:List Value),xf pl zs parts=some cs→Instr.fill (pl.toArray[·]?) zs.toArray parts=some cs.toArray
  | [],zs,cs,h=>by simp [xf] at h; simp [Instr.fill,h]
  | (i,v)::rest,zs,cs,h=>by
    unfold xf at h
    cases hp:pl[i]? with
    | none=>simp [hp] at h
    | some q=>
      obtain ⟨off,size⟩:=q
      simp only [hp] at h
      split at h
      · rename_i hc
        simp only [Bool.and_eq_true] at hc
        have h1:=Nat.eq_of_beq_eq_true hc.1
        have h2:=Nat.le_of_ble_eq_true hc.2
        have h3:=sU pl rest _ _ h
        have h4:v.cells.size=size:=by simpa using h1
        unfold Instr.fill
        have hp':pl.toArray[i]? = some (off,size):=by simpa using hp
        simp only [hp']
        rw [if_neg (by simp [h4]; omega)]
        have e:Array.foldl (fun (cs:Array Value) (x:Value × Nat)=>cs.setIfInBounds (off+x.2) x.1) zs.toArray v.cells.zipIdx=(aI zs off v.cells.toList).toArray:=by
          rw [← Array.foldl_toList,Array.toList_zipIdx]
          have:=u3 v.cells.toList zs.toArray off 0
          rw [this,Nat.add_zero]
          exact pK (by rw [h1]; exact h2)
        rw [← h3,← e]
      · cases h
section
variable {P:Program}{n:Nat}{L:Env}{w:World}{d:Option Tmp}{ty:TypeId}{p:String}{af:Array Edge}{g:Option (Nat × Bool)}
theorem aP {t:TypeId}{parts:Array (Nat × Operand)}{zs vs cs:List Value}{pl:List (Nat × Nat)}(hp:Pl P t zs pl) (hv:iQ L (parts.toList.map (·.2))=some vs)
    (hf:xf pl zs ((parts.toList.map (·.1)).zip vs)=some cs):Py P n L w ⟨d,.build t parts,ty,p,af,g⟩ (.agg cs.toArray):=Dj fun a ha=>by
  have key:∀ (l:List (Nat × Operand)) (vs:List Value),iQ L (l.map (·.2))=some vs→l.map (fun x=>(x.1,a.eval x.2))=(l.map (·.1)).zip vs:=by
    intro l
    induction l with
    | nil=>intro vs h; rfl
    | cons x l ih=>
      intro vs h
      simp only [List.map_cons] at h ⊢
      unfold iQ at h
      split at h
      · rename_i v us hv hus
        cases h
        rw [List.zip_cons_cons,← ih us hus,ha.eval hv]
      · cases h
  have e:(parts.map fun (i,x)=>(i,a.eval x)).toList=(parts.toList.map (·.1)).zip vs:=by
    rw [Array.toList_map]
    exact key _ _ hv
  rw [e]
  obtain ⟨hp⟩:=hp
  unfold Program.built
  cases hi:P.info? t with
  | none=>simp [hi] at hp
  | some it=>
    cases hu:P.underlying t with
    | none=>simp [hi,hu] at hp
    | some td=>
      cases td<;>simp only [hi,hu,Prod.mk.injEq,reduceCtorEq,false_and,and_false] at hp
      rename_i fields
      obtain ⟨h1,h2⟩:=hp
      simp only [h1,h2]
      exact sU _ _ _ _ hf
end
end Go.Wk
namespace Go.Wk
open Go.Proofs
theorem bG:Ty Tryz.prog 2 (.int .i64 0) 1 8:=⟨κ⟩
theorem Dr:Ty Tryz.prog 3 (.int .i64 0) 1 8:=⟨κ⟩
theorem cE:Ty Tryz.prog 5 (.int .u8 0) 1 1:=⟨κ⟩
theorem dd:Ty Tryz.prog 22 (.slice none 0 0) 1 24:=⟨κ⟩
theorem dm:Ty Tryz.prog 59 (.agg #[.int .i64 0,.int .i64 0,.string ⟨#[]⟩,.int .i64 0,.int .i64 0,.int .i64 0,.slice none 0 0,.slice none 0 0,.slice none 0 0]) 9 128:=⟨κ⟩
theorem jD:Ty Tryz.prog 68 (.slice none 0 0) 1 24:=⟨κ⟩
theorem fL:Ty Tryz.prog 72 (.agg #[.bool false,.slice none 0 0]) 2 32:=⟨κ⟩
theorem oP:Ty Tryz.prog 116 (.agg #[.int .i64 0,.slice none 0 0]) 2 32:=⟨κ⟩
theorem lW:Ty Tryz.prog 121 (.agg #[.bool false,.slice none 0 0]) 2 32:=⟨κ⟩
theorem CX:Pl Tryz.prog 25 [.int .i64 0,.int .i64 0,.int .i64 0,.int .i64 0,.int .i64 0,.int .i64 0,.int .i64 0,.int .i64 0,.int .i64 0] [(0,1),(1,1),(2,1),(3,1),(4,1),(5,1),(6,1),(7,1),(8,1)]:=⟨κ⟩
theorem uT:Pl Tryz.prog 31 [.int .i64 0,.int .i64 0,.int .i64 0,.int .i64 0,.int .i64 0,.int .i64 0,.int .i64 0,.int .i64 0,.int .i64 0,.slice none 0 0,.slice none 0 0,.slice none 0 0,.int .i64 0,.int .i64 0,.bool false] [(0,9),(9,1),(10,1),(11,1),(12,1),(13,1),(14,1)]:=⟨κ⟩
theorem ce:Pl Tryz.prog 33 [.int .i64 0,.int .i64 0,.int .i64 0,.int .i64 0,.int .i64 0,.int .i64 0,.int .i64 0,.int .i64 0,.int .i64 0,.int .i64 0,.slice none 0 0,.slice none 0 0,.slice none 0 0,.int .i64 0,.int .i64 0,.bool false] [(0,1),(1,15)]:=⟨κ⟩
theorem jI:Pl Tryz.prog 44 [.int .i64 0,.slice none 0 0] [(0,1),(1,1)]:=⟨κ⟩
theorem qr:Pl Tryz.prog 54 [.int .i64 0,.slice none 0 0] [(0,1),(1,1)]:=⟨κ⟩
theorem gU:Pl Tryz.prog 59 [.int .i64 0,.int .i64 0,.string ⟨#[]⟩,.int .i64 0,.int .i64 0,.int .i64 0,.slice none 0 0,.slice none 0 0,.slice none 0 0] [(0,1),(1,1),(2,1),(3,1),(4,1),(5,1),(6,1),(7,1),(8,1)]:=⟨κ⟩
theorem nt:Pl Tryz.prog 72 [.bool false,.slice none 0 0] [(0,1),(1,1)]:=⟨κ⟩
theorem zO:Pl Tryz.prog 114 [.slice none 0 0,.int .i64 0] [(0,1),(1,1)]:=⟨κ⟩
theorem gz:Pl Tryz.prog 116 [.int .i64 0,.slice none 0 0] [(0,1),(1,1)]:=⟨κ⟩
theorem yS:Pl Tryz.prog 121 [.bool false,.slice none 0 0] [(0,1),(1,1)]:=⟨κ⟩
theorem Ah:Pl Tryz.prog 148 [.int .i64 0,.int .i64 0] [(0,1),(1,1)]:=⟨κ⟩
theorem E1:NG Tryz.f6:=by decide
theorem Dz:NG Tryz.f7:=by decide
theorem Db:NG Tryz.f8:=by decide
theorem EN:NG Tryz.f9:=by decide
theorem Cj:NG Tryz.f14:=by decide
theorem CQ:NG Tryz.f18:=by decide
theorem nx:NG Tryz.f20:=by decide
theorem CT:NG Tryz.f21:=by decide
theorem BX:NG Tryz.f22:=by decide
theorem Cl:NG Tryz.f23:=by decide
theorem uR:NG Tryz.f24:=by decide
theorem Cm:NG Tryz.f25:=by decide
theorem BQ:NG Tryz.f26:=by decide
theorem CP:NG Tryz.f33:=by decide
theorem B9:NG Tryz.f34:=by decide
theorem u0:NG Tryz.f35:=by decide
theorem jK:NG Tryz.f36:=by decide
theorem jF:NG Tryz.f37:=by decide
theorem qv:NG Tryz.f38:=by decide
theorem Cp:NG Tryz.f39:=by decide
theorem CA:NG Tryz.f40:=by decide
theorem fQ:NG Tryz.f41:=by decide
theorem cI:NG Tryz.f45:=by decide
theorem uB:NG Tryz.f46:=by decide
theorem fR:NG Tryz.f48:=by decide
theorem jG:NG Tryz.f50:=by decide
theorem CH:NG Tryz.f55:=by decide
theorem jH:NG Tryz.f57:=by decide
theorem fM:NG Tryz.f58:=by decide
theorem nA:NG Tryz.f59:=by decide
theorem iK:NG Tryz.f60:=by decide
theorem bd:NG Tryz.f62:=by decide
theorem uM:NG Tryz.f63:=by decide
theorem nh:NG Tryz.f65:=by decide
theorem li:NG Tryz.f66:=by decide
theorem B1:NG Tryz.f68:=by decide
theorem nf:NG Tryz.f69:=by decide
theorem iC:NG Tryz.f71:=by decide
theorem iM:NG Tryz.f72:=by decide
theorem jA:NG Tryz.f73:=by decide
theorem uj:NG Tryz.f74:=by decide
theorem CZ:NG Tryz.f75:=by decide
theorem ng:NG Tryz.f76:=by decide
theorem CK:NG Tryz.f77:=by decide
theorem qJ:NG Tryz.f78:=by decide
theorem BC:NG Tryz.f79:=by decide
theorem jE:NG Tryz.f80:=by decide
theorem lk:NG Tryz.f81:=by decide
theorem C3:NG Tryz.f82:=by decide
theorem CC:NG Tryz.f83:=by decide
theorem vk:NG Tryz.f91:=by decide
theorem BV:NG Tryz.f92:=by decide
theorem cq:NG Tryz.f93:=by decide
theorem dH:NG Tryz.f103:=by decide
theorem yQ:NG Tryz.f104:=by decide
theorem yV:NG Tryz.f105:=by decide
theorem jV:NG Tryz.f115:=by decide
theorem z9:NG Tryz.f117:=by decide
theorem yo:NG Tryz.f121:=by decide
theorem lE:NG Tryz.f122:=by decide
theorem zr:NG Tryz.f124:=by decide
theorem As:NG Tryz.f125:=by decide
theorem yr:NG Tryz.f126:=by decide
theorem z7:NG Tryz.f127:=by decide
theorem oO:NG Tryz.f128:=by decide
theorem tL:NG Tryz.f129:=by decide
theorem yY:NG Tryz.f130:=by decide
theorem yT:NG Tryz.f131:=by decide
theorem nY:NG Tryz.f132:=by decide
theorem Ax:NG Tryz.f133:=by decide
theorem oe:NG Tryz.f134:=by decide
theorem zH:NG Tryz.f135:=by decide
theorem iJ:NG Tryz.f136:=by decide
theorem jM:NG Tryz.f137:=by decide
theorem ss:NG Tryz.f138:=by decide
theorem of:NG Tryz.f139:=by decide
theorem z2:NG Tryz.f140:=by decide
theorem yH:NG Tryz.f141:=by decide
theorem zW:NG Tryz.f142:=by decide
theorem t3:NG Tryz.f143:=by decide
theorem za:NG Tryz.f144:=by decide
theorem Ap:NG Tryz.f145:=by decide
theorem ox:NG Tryz.f146:=by decide
theorem oJ:NG Tryz.f150:=by decide
theorem sv:NG Tryz.f156:=by decide
theorem sr:NG Tryz.f158:=by decide
theorem lz:NG Tryz.f173:=by decide
theorem yZ:NG Tryz.f181:=by decide
theorem sx:NG Tryz.f182:=by decide
theorem ov:NG Tryz.f189:=by decide
theorem yz:NG Tryz.f190:=by decide
theorem zf:NG Tryz.f191:=by decide
theorem AA:NG Tryz.f192:=by decide
theorem yU:NG Tryz.f193:=by decide
theorem yq:NG Tryz.f194:=by decide
theorem Aj:NG Tryz.f195:=by decide
theorem yp:NG Tryz.f196:=by decide
theorem tE:NG Tryz.f197:=by decide
theorem zN:NG Tryz.f198:=by decide
theorem yj:NG Tryz.f199:=by decide
theorem ti:NG Tryz.f200:=by decide
theorem tn:NG Tryz.f201:=by decide
theorem Aa:NG Tryz.f202:=by decide
theorem oo:NG Tryz.f203:=by decide
theorem zI:NG Tryz.f204:=by decide
theorem An:NG Tryz.f205:=by decide
theorem Ai:NG Tryz.f206:=by decide
theorem z8:NG Tryz.f207:=by decide
theorem oC:NG Tryz.f208:=by decide
theorem zx:NG Tryz.f209:=by decide
theorem ym:NG Tryz.f210:=by decide
theorem Ad:NG Tryz.f211:=by decide
theorem yu:NG Tryz.f212:=by decide
theorem yL:NG Tryz.f213:=by decide
theorem sf:NG Tryz.f214:=by decide
theorem zE:NG Tryz.f215:=by decide
theorem nX:NG Tryz.f216:=by decide
theorem zl:NG Tryz.f217:=by decide
theorem yl:NG Tryz.f220:=by decide
theorem zS:NG Tryz.f221:=by decide
theorem yG:NG Tryz.f249:=by decide
theorem zA:NG Tryz.f250:=by decide
theorem zz:NG Tryz.f251:=by decide
theorem y5:NG Tryz.f252:=by decide
theorem tO:NG Tryz.f255:=by decide
theorem Av:NG Tryz.f256:=by decide
theorem Ac:NG Tryz.f257:=by decide
theorem AC:NG Tryz.f258:=by decide
theorem y9:NG Tryz.f259:=by decide
theorem zy:NG Tryz.f260:=by decide
theorem yJ:NG Tryz.f261:=by decide
theorem zV:NG Tryz.f262:=by decide
theorem yB:NG Tryz.f263:=by decide
theorem oF:NG Tryz.f264:=by decide
theorem jY:NG Tryz.f265:=by decide
theorem zX:NG Tryz.f266:=by decide
theorem sQ:NG Tryz.f267:=by decide
theorem zC:NG Tryz.f271:=by decide
theorem yx:NG Tryz.f296:=by decide
theorem sj:NG Tryz.f297:=by decide
theorem oD:NG Tryz.f298:=by decide
theorem zD:NG Tryz.f307:=by decide
theorem yO:NG Tryz.f308:=by decide
theorem l7:NG Tryz.f319:=by decide
theorem yK:NG Tryz.f327:=by decide
theorem oV:NG Tryz.f330:=by decide
end Go.Wk
namespace Go.Wk
open Go.Proofs
theorem gc:type_of% @Tryz.sizeOf116 := @Tryz.sizeOf116
theorem jS:type_of% @Tryz.sizeOf119 := @Tryz.sizeOf119
theorem kp:type_of% @Tryz.sizeOf121 := @Tryz.sizeOf121
theorem tF:type_of% @Tryz.sizeOf148 := @Tryz.sizeOf148
theorem ts2:type_of% @Tryz.sizeOf2 := @Tryz.sizeOf2
theorem bf:type_of% @Tryz.sizeOf22 := @Tryz.sizeOf22
theorem bk:type_of% @Tryz.sizeOf25 := @Tryz.sizeOf25
theorem kh:type_of% @Tryz.sizeOf27 := @Tryz.sizeOf27
theorem cG:type_of% @Tryz.sizeOf28 := @Tryz.sizeOf28
theorem pm:type_of% @Tryz.sizeOf29 := @Tryz.sizeOf29
theorem ts3:type_of% @Tryz.sizeOf3 := @Tryz.sizeOf3
theorem cy:type_of% @Tryz.sizeOf31 := @Tryz.sizeOf31
theorem cW:type_of% @Tryz.sizeOf33 := @Tryz.sizeOf33
theorem ts4:type_of% @Tryz.sizeOf4 := @Tryz.sizeOf4
theorem rC:type_of% @Tryz.sizeOf44 := @Tryz.sizeOf44
theorem ts5:type_of% @Tryz.sizeOf5 := @Tryz.sizeOf5
theorem Cv:type_of% @Tryz.sizeOf54 := @Tryz.sizeOf54
theorem HX:type_of% @Tryz.sizeOf57 := @Tryz.sizeOf57
theorem aO:type_of% @Tryz.sizeOf59 := @Tryz.sizeOf59
theorem ud:type_of% @Tryz.sizeOf68 := @Tryz.sizeOf68
theorem rH:type_of% @Tryz.sizeOf69 := @Tryz.sizeOf69
theorem gD:type_of% @Tryz.sizeOf72 := @Tryz.sizeOf72
theorem ts9:type_of% @Tryz.sizeOf9 := @Tryz.sizeOf9
theorem ut:type_of% @Tryz.underlying114 := @Tryz.underlying114
theorem jh:type_of% @Tryz.underlying116 := @Tryz.underlying116
theorem br:type_of% @Tryz.underlying119 := @Tryz.underlying119
theorem gK:type_of% @Tryz.underlying121 := @Tryz.underlying121
theorem js:type_of% @Tryz.underlying148 := @Tryz.underlying148
theorem tu2:type_of% @Tryz.underlying2 := @Tryz.underlying2
theorem qQ:type_of% @Tryz.underlying213 := @Tryz.underlying213
theorem aZ:type_of% @Tryz.underlying22 := @Tryz.underlying22
theorem bi:type_of% @Tryz.underlying25 := @Tryz.underlying25
theorem E3:type_of% @Tryz.underlying261 := @Tryz.underlying261
theorem fW:type_of% @Tryz.underlying27 := @Tryz.underlying27
theorem bH:type_of% @Tryz.underlying28 := @Tryz.underlying28
theorem jk:type_of% @Tryz.underlying29 := @Tryz.underlying29
theorem tu3:type_of% @Tryz.underlying3 := @Tryz.underlying3
theorem be:type_of% @Tryz.underlying31 := @Tryz.underlying31
theorem eI:type_of% @Tryz.underlying33 := @Tryz.underlying33
theorem tu4:type_of% @Tryz.underlying4 := @Tryz.underlying4
theorem z6:type_of% @Tryz.underlying44 := @Tryz.underlying44
theorem tu5:type_of% @Tryz.underlying5 := @Tryz.underlying5
theorem Fv:type_of% @Tryz.underlying54 := @Tryz.underlying54
theorem dj:type_of% @Tryz.underlying57 := @Tryz.underlying57
theorem aD:type_of% @Tryz.underlying59 := @Tryz.underlying59
theorem fl:type_of% @Tryz.underlying68 := @Tryz.underlying68
theorem iy:type_of% @Tryz.underlying69 := @Tryz.underlying69
theorem iz:type_of% @Tryz.underlying72 := @Tryz.underlying72
theorem xN:type_of% @Tryz.underlying86 := @Tryz.underlying86
theorem tu9:type_of% @Tryz.underlying9 := @Tryz.underlying9
end Go.Wk
namespace Go.Wk
open Go.Proofs Rp Go.Proofs.Tryz
set_option maxRecDepth 10000
theorem cY {w:World}{v0 lo hi:Int}  : Ret Tryz.prog 41 #[.int .i64 v0,.int .i64 lo,.int .i64 hi] w fun v w'=>Ext No w w'∧(v = .bool (ins v0 lo hi)):=by
 refine aH func41 Z ntmps41 Z (fun Q hQ hN=>?_);have H0:=Sep.start (w:=w) (F:=[]) σ;refine ac (sA Z Z (aa (ac (sR 4 Z (bR 3 (j:=3) (want:=true) (t:=13) Z Z Z Z (fun hg1 kk1=>ao (wgE Z Z Z hg1) Z Z (aL Z) (ao (wgE Z Z Z hg1) Z Z (aL Z) (ao (wgE Z Z Z hg1) Z Z (we Z Z) (kk1 _ _ (kx Z (kx Z (kx Z k0))) Z Ext.refl)))) (fun w1 e1=>?_))))));have H1:=H0.to e1;refine sV Z (bz Z Z) (rA hQ results41 Z ?_);exact ⟨H1.ext,Z⟩
theorem ba {w:World}{v0 lo hi:Int}  : Ret Tryz.prog 93 #[.int .i64 v0,.int .i64 lo,.int .i64 hi] w fun v w'=>Ext No w w'∧(v = .bool (ins v0 lo hi)):=by
 refine aH func93 Z ntmps93 Z (fun Q hQ hN=>?_);have H0:=Sep.start (w:=w) (F:=[]) σ;refine ac (sA Z Z (aa (ac (sR 4 Z (bR 3 (j:=3) (want:=true) (t:=13) Z Z Z Z (fun hg1 kk1=>ao (wgE Z Z Z hg1) Z Z (aL Z) (ao (wgE Z Z Z hg1) Z Z (aL Z) (ao (wgE Z Z Z hg1) Z Z (we Z Z) (kk1 _ _ (kx Z (kx Z (kx Z k0))) Z Ext.refl)))) (fun w1 e1=>?_))))));have H1:=H0.to e1;refine sV Z (bz Z Z) (rA hQ results93 Z ?_);exact ⟨H1.ext,Z⟩
theorem pu {w:World}{x y:Int}  : Ret Tryz.prog 39 #[.int .i64 x,.int .i64 y] w fun v w'=>Ext No w w'∧(v = .bool (cOK x y)):=by
 refine aH func39 Z ntmps39 Z (fun Q hQ hN=>?_);have H0:=Sep.start (w:=w) (F:=[]) σ;refine ac (sA Z Z (aa (ac (sM Z Z (sE func41 fQ Z cY H0 (fun w1 e1 H1=>sM Z Z (bR 2 (j:=2) (want:=true) (t:=9) Z Z Z Z (fun hg1 kk1=>ao (wgE Z Z Z hg1) Z Z (aL Z) (cj (wgE Z Z Z hg1) Z Z (aR func41 Z fQ Z) cY (fun w3 e3=>kk1 _ _ (kx Z (kx Z k0)) Z (Ext.refl.trans e3)))) (fun w2 e2=>?_))))))));have H2:=H1.to e2;refine sV Z (bz Z Z) (rA hQ results39 Z ?_);exact ⟨H2.ext,Z⟩
theorem pS {w:World}{x y:Int}  : Ret Tryz.prog 40 #[.int .i64 x,.int .i64 y] w fun v w'=>Ext No w w'∧(v = .bool (rOK x y)):=by
 refine aH func40 Z ntmps40 Z (fun Q hQ hN=>?_);have H0:=Sep.start (w:=w) (F:=[]) σ;refine ac (sA Z Z (aa (ac (sM Z Z (sE func41 fQ Z cY H0 (fun w1 e1 H1=>sM Z Z (bR 2 (j:=2) (want:=true) (t:=9) Z Z Z Z (fun hg1 kk1=>ao (wgE Z Z Z hg1) Z Z (aL Z) (cj (wgE Z Z Z hg1) Z Z (aR func41 Z fQ Z) cY (fun w3 e3=>kk1 _ _ (kx Z (kx Z k0)) Z (Ext.refl.trans e3)))) (fun w2 e2=>?_))))))));have H2:=H1.to e2;refine sV Z (bz Z Z) (rA hQ results40 Z ?_);exact ⟨H2.ext,Z⟩
theorem mt {w:World}{s:Shape}  : Ret Tryz.prog 9 #[s.v] w fun v w'=>Ext No w w'∧(v = .int .i64 s.fault):=by
 refine aH func9 Z ntmps9 Z (fun Q hQ hN=>?_);have H0:=Sep.start (w:=w) (F:=[]) σ;refine ac (bu ah Z Z H0 (fun b1 w1 e1 g1 H1=>sA Z Z (aa (ae (ac (sF bi Z ts2 (sLd tu2 (H1.box 0 Z) Z (sF bi Z ts2 (sLd tu2 (H1.box 0 Z) Z (sE func39 Cp Z pu H1 (fun w2 e2 H2=>sV Z (bh Z) (sM Z Z (bR 6 (j:=6) (want:=false) (t:=15) Z Z Z Z (fun hg1 kk1=>ao (wgE Z Z Z hg1) Z Z (ag bi Z ts2 Z Z) (ao (wgE Z Z Z hg1) Z Z (aj tu2 Z Z (al (H2.box 0 Z) Z)) (ao (wgE Z Z Z hg1) Z Z (ag bi Z ts2 Z Z) (ao (wgE Z Z Z hg1) Z Z (aj tu2 Z Z (al (H2.box 0 Z) Z)) (cj (wgE Z Z Z hg1) Z Z (aR func40 Z CA Z) pS (fun w4 e4=>ao (wgE Z Z Z hg1) Z Z (bh Z) (kk1 _ _ (kx Z (kx Z (kx Z (kx Z (kx Z (kx Z k0)))))) Z (Ext.refl.trans e4)))))))) (fun w3 e3=>?_))))))))))))));have H3:=H2.to e3;refine sV Z (fJ Z Z) (sM Z Z (bR 4 (j:=14) (want:=false) (t:=21) Z Z Z Z (fun hg2 kk2=>ao (wgE Z Z Z hg2) Z Z (ag bi Z ts2 Z Z) (ao (wgE Z Z Z hg2) Z Z (aj tu2 Z Z (al (H3.box 0 Z) Z)) (cj (wgE Z Z Z hg2) Z Z (aR func41 Z fQ Z) cY (fun w6 e6=>ao (wgE Z Z Z hg2) Z Z (bh Z) (kk2 _ _ (kx Z (kx Z (kx Z (kx Z k0)))) Z (Ext.refl.trans e6)))))) (fun w5 e5=>?_)));have H4:=H3.to e5;refine sV Z (fJ Z Z) (sM Z Z (bR 4 (j:=20) (want:=false) (t:=27) Z Z Z Z (fun hg3 kk3=>ao (wgE Z Z Z hg3) Z Z (ag bi Z ts2 Z Z) (ao (wgE Z Z Z hg3) Z Z (aj tu2 Z Z (al (H4.box 0 Z) Z)) (cj (wgE Z Z Z hg3) Z Z (aR func41 Z fQ Z) cY (fun w8 e8=>ao (wgE Z Z Z hg3) Z Z (bh Z) (kk3 _ _ (kx Z (kx Z (kx Z (kx Z k0)))) Z (Ext.refl.trans e8)))))) (fun w7 e7=>?_)));have H5:=H4.to e7;refine sV Z (fJ Z Z) (sM Z Z (bR 4 (j:=26) (want:=false) (t:=33) Z Z Z Z (fun hg4 kk4=>ao (wgE Z Z Z hg4) Z Z (ag bi Z ts2 Z Z) (ao (wgE Z Z Z hg4) Z Z (aj tu2 Z Z (al (H5.box 0 Z) Z)) (cj (wgE Z Z Z hg4) Z Z (aR func41 Z fQ Z) cY (fun w10 e10=>ao (wgE Z Z Z hg4) Z Z (bh Z) (kk4 _ _ (kx Z (kx Z (kx Z (kx Z k0)))) Z (Ext.refl.trans e10)))))) (fun w9 e9=>?_)));have H6:=H5.to e9;refine sV Z (fJ Z Z) (sM Z Z (bR 4 (j:=32) (want:=false) (t:=39) Z Z Z Z (fun hg5 kk5=>ao (wgE Z Z Z hg5) Z Z (ag bi Z ts2 Z Z) (ao (wgE Z Z Z hg5) Z Z (aj tu2 Z Z (al (H6.box 0 Z) Z)) (cj (wgE Z Z Z hg5) Z Z (aR func41 Z fQ Z) cY (fun w12 e12=>ao (wgE Z Z Z hg5) Z Z (bh Z) (kk5 _ _ (kx Z (kx Z (kx Z (kx Z k0)))) Z (Ext.refl.trans e12)))))) (fun w11 e11=>?_)));have H7:=H6.to e11;refine sV Z (fJ Z Z) (sM Z Z (bR 4 (j:=38) (want:=false) (t:=45) Z Z Z Z (fun hg6 kk6=>ao (wgE Z Z Z hg6) Z Z (ag bi Z ts2 Z Z) (ao (wgE Z Z Z hg6) Z Z (aj tu2 Z Z (al (H7.box 0 Z) Z)) (cj (wgE Z Z Z hg6) Z Z (aR func41 Z fQ Z) cY (fun w14 e14=>ao (wgE Z Z Z hg6) Z Z (bh Z) (kk6 _ _ (kx Z (kx Z (kx Z (kx Z k0)))) Z (Ext.refl.trans e14)))))) (fun w13 e13=>?_)));have H8:=H7.to e13;refine sV Z (fJ Z Z) (aa (cx Z (fun c1=>?_) (fun c1=>?_)))
 ·refine ac (rA hQ results9 Z ?_);exact ⟨H8.ext,Shape.no (by simpa only [Shape.ok,Bool.not_and] using c1)⟩
 ·refine au (ac (rA hQ results9 Z ?_));exact ⟨H8.ext,Shape.yes (by simpa only [Shape.ok,Bool.not_and] using c1)⟩
theorem ji {w:World}{s:Shape}  : Ret Tryz.prog 35 #[s.v] w fun v w'=>Ext No w w'∧(v = .int .i64 s.fault):=by
 refine aH func35 Z ntmps35 Z (fun Q hQ hN=>?_);have H0:=Sep.start (w:=w) (F:=[]) σ;refine ac (bu ah Z Z H0 (fun b1 w1 e1 g1 H1=>sA Z Z (aa (ac (sF bi Z ts2 (sLd tu2 (H1.box 0 Z) Z (sE func93 cq Z ba H1 (fun w2 e2 H2=>sM Z Z (bR 3 (j:=3) (want:=true) (t:=10) Z Z Z Z (fun hg1 kk1=>ao (wgE Z Z Z hg1) Z Z (ag bi Z ts2 Z Z) (ao (wgE Z Z Z hg1) Z Z (aj tu2 Z Z (al (H2.box 0 Z) Z)) (cj (wgE Z Z Z hg1) Z Z (aR func93 Z cq Z) ba (fun w4 e4=>kk1 _ _ (kx Z (kx Z (kx Z k0))) Z (Ext.refl.trans e4))))) (fun w3 e3=>?_))))))))));have H3:=H2.to e3;refine sV Z (bz Z Z) (sM Z Z (bR 3 (j:=8) (want:=true) (t:=15) Z Z Z Z (fun hg2 kk2=>ao (wgE Z Z Z hg2) Z Z (ag bi Z ts2 Z Z) (ao (wgE Z Z Z hg2) Z Z (aj tu2 Z Z (al (H3.box 0 Z) Z)) (cj (wgE Z Z Z hg2) Z Z (aR func93 Z cq Z) ba (fun w6 e6=>kk2 _ _ (kx Z (kx Z (kx Z k0))) Z (Ext.refl.trans e6))))) (fun w5 e5=>?_)));have H4:=H3.to e5;refine sV Z (bz Z Z) (sM Z Z (bR 3 (j:=13) (want:=true) (t:=20) Z Z Z Z (fun hg3 kk3=>ao (wgE Z Z Z hg3) Z Z (ag bi Z ts2 Z Z) (ao (wgE Z Z Z hg3) Z Z (aj tu2 Z Z (al (H4.box 0 Z) Z)) (cj (wgE Z Z Z hg3) Z Z (aR func93 Z cq Z) ba (fun w8 e8=>kk3 _ _ (kx Z (kx Z (kx Z k0))) Z (Ext.refl.trans e8))))) (fun w7 e7=>?_)));have H5:=H4.to e7;refine sV Z (bz Z Z) (sA Z Z (aa (ac (sR 2 Z (bR 3 (j:=1) (want:=true) (t:=26) Z Z Z Z (fun hg4 kk4=>ao (wgE Z Z Z hg4) Z Z (ag bi Z ts2 Z Z) (ao (wgE Z Z Z hg4) Z Z (aj tu2 Z Z (al (H5.box 0 Z) Z)) (cj (wgE Z Z Z hg4) Z Z (aR func93 Z cq Z) ba (fun w10 e10=>kk4 _ _ (kx Z (kx Z (kx Z k0))) Z (Ext.refl.trans e10))))) (fun w9 e9=>?_))))));have H6:=H5.to e9;refine sV Z (bz Z Z) (sM Z Z (bR 3 (j:=6) (want:=true) (t:=31) Z Z Z Z (fun hg5 kk5=>ao (wgE Z Z Z hg5) Z Z (ag bi Z ts2 Z Z) (ao (wgE Z Z Z hg5) Z Z (aj tu2 Z Z (al (H6.box 0 Z) Z)) (cj (wgE Z Z Z hg5) Z Z (aR func93 Z cq Z) ba (fun w12 e12=>kk5 _ _ (kx Z (kx Z (kx Z k0))) Z (Ext.refl.trans e12))))) (fun w11 e11=>?_)));have H7:=H6.to e11;refine sV Z (bz Z Z) (sM Z Z (bR 3 (j:=11) (want:=true) (t:=36) Z Z Z Z (fun hg6 kk6=>ao (wgE Z Z Z hg6) Z Z (ag bi Z ts2 Z Z) (ao (wgE Z Z Z hg6) Z Z (aj tu2 Z Z (al (H7.box 0 Z) Z)) (cj (wgE Z Z Z hg6) Z Z (aR func93 Z cq Z) ba (fun w14 e14=>kk6 _ _ (kx Z (kx Z (kx Z k0))) Z (Ext.refl.trans e14))))) (fun w13 e13=>?_)));have H8:=H7.to e13;refine sV Z (bz Z Z) (sM Z Z (bR 3 (j:=16) (want:=true) (t:=41) Z Z Z Z (fun hg7 kk7=>ao (wgE Z Z Z hg7) Z Z (ag bi Z ts2 Z Z) (ao (wgE Z Z Z hg7) Z Z (aj tu2 Z Z (al (H8.box 0 Z) Z)) (cj (wgE Z Z Z hg7) Z Z (aR func93 Z cq Z) ba (fun w16 e16=>kk7 _ _ (kx Z (kx Z (kx Z k0))) Z (Ext.refl.trans e16))))) (fun w15 e15=>?_)));have H9:=H8.to e15;refine sV Z (bz Z Z) (sA Z Z (aa (ae (ac (sM Z Z (sV Z (bh Z) (sM Z Z (bR 4 (j:=2) (want:=false) (t:=49) Z Z Z Z (fun hg8 kk8=>ao (wgE Z Z Z hg8) Z Z (ag bi Z ts2 Z Z) (ao (wgE Z Z Z hg8) Z Z (aj tu2 Z Z (al (H9.box 0 Z) Z)) (cj (wgE Z Z Z hg8) Z Z (aR func93 Z cq Z) ba (fun w18 e18=>ao (wgE Z Z Z hg8) Z Z (bh Z) (kk8 _ _ (kx Z (kx Z (kx Z (kx Z k0)))) Z (Ext.refl.trans e18)))))) (fun w17 e17=>?_)))))))));have H10:=H9.to e17;refine sV Z (fJ Z Z) (aa (cx Z (fun c1=>?_) (fun c1=>?_)))
 ·refine ac (rA hQ results35 Z ?_);exact ⟨H10.ext,Shape.no (by simpa only [Shape.ok,cOK,rOK,Bool.not_and,Bool.or_assoc] using c1)⟩
 ·refine au (ac (rA hQ results35 Z ?_));exact ⟨H10.ext,Shape.yes (by simpa only [Shape.ok,cOK,rOK,Bool.not_and,Bool.or_assoc] using c1)⟩
end Go.Wk
namespace Go.Wk
open Go.Proofs Rp Go.Proofs.Tryz
set_option maxRecDepth 10000
theorem jf {w:World}{xs:List Int}{xsA:Option Addr}{xsC:Nat}{x:Int}(xsS:Sees w [.slice xsA xs.length xsC] xs):Ret Tryz.prog 181 #[.slice xsA xs.length xsC,.int .i64 x] w fun v w'=>Ext No w w'∧(v = .int .i64 (idxOf xs x)):=by
 have xsL:=sL xsS;obtain ⟨xsF,xsO⟩:=xsS;refine aH func181 Z ntmps181 Z (fun Q hQ hN=>?_);have H0:=Sep.start (ab xsO aA);refine ac (sA Z Z (aa (ae (ac (sM Z Z (sV Z (aS bH Z) (sM Z Z (aa (ax (bP (γ:=Nat) (fun k=>[(0,.slice xsA xs.length xsC),(1,.int .i64 x),(7,.int .i64 xs.length),(8,.int .i64 k)]) (fun k w'=>Sep No w [] [seen false [.slice xsA xs.length xsC] xs xsF] w'∧k≤xs.length∧(∀ i,i<k→xs.getD i 0≠x)) (fun k=>xs.length-k) 0 ⟨Z,Z,Z,Z,trivial⟩ ⟨H0,ω,fun i hi=>by omega⟩ (fun k w1 H1=>?_)))))))))));obtain ⟨H1,hk,he⟩:=H1;refine ac (sV Z (aX Z Z) (aa (ae (aC Z (fun c1=>?_) (fun c1=>?_)))))
 ·refine au (ae (ax (ac (sR 2 Z (aa (ae ?_))))));obtain ⟨eb1,eo1,ee1,ec1⟩:=ew (H1.seen 0 Z) k ω;have eI1:=eJ (H1.seen 0 Z) k ω;refine am (sR 3 Z (sV Z (aB bH ts2 Z Z ee1 k ω ω) (sV Z (aj tu2 Z Z ec1) (sV Z (cT Z Z) (aa (aC Z (fun c2=>?_) (fun c2=>?_)))))))
  ·refine ac (sR 2 Z (rN hQ results181 Z ?_));exact ⟨H1.ext,congrArg (Value.int .i64) (Dm ω c2.symm he).symm⟩
  ·refine au (am (sV Z (aE Z Z iO) (sM Z Z (aa (⟨k+1,⟨Z,Z,Z,Z,trivial⟩,⟨H1,ω,fun i hi=>?_⟩,θ⟩)))))
   by_cases e:i=k
   ·subst e; omega
   ·exact he i ω
 ·refine aT (ac (rA hQ results181 Z ?_));exact ⟨H1.ext,congrArg (Value.int .i64) (DP fun i hi=>he i ω).symm⟩
theorem bT {w:World}{xs:List Int}{xsA:Option Addr}{xsC:Nat}{x:Int}(xsS:Sees w [.slice xsA xs.length xsC] xs):Ret Tryz.prog 115 #[.slice xsA xs.length xsC,.int .i64 x] w fun v w'=>Ext No w w'∧(v = .bool (decide (x∈xs))):=by
 have xsL:=sL xsS;obtain ⟨xsF,xsO⟩:=xsS;refine aH func115 Z ntmps115 Z (fun Q hQ hN=>?_);have H0:=Sep.start (ab xsO aA);refine ac (sA Z Z (aa (ac (sR 2 Z (sE func181 yZ Z (jf (H0.sees 0 Z)) H0 (fun w1 e1 H1=>sR 2 Z (rN hQ results115 Z ?_)))))));exact ⟨H1.ext,by rw [B4]⟩
end Go.Wk
