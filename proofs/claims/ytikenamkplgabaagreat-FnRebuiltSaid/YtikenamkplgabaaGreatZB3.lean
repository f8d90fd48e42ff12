/-
  Laws on walking, and the functions walked, each once: what this claim comes to.
-/
import Derived.Test.YtikenamkplgabaaGreatZB2
set_option linter.unusedVariables false
set_option linter.unusedSimpArgs false
namespace Go.Wk
open Rp (sz own)
def nodef (l:List Oper):Bool:=l.all fun o=>match o.op with
  | .defer _=>false
  | _=>true
theorem wY {l:List Oper}(h:nodef l=true) {o:Oper}(ho:o∈l):∀ c,o.op ≠ .defer c:=by
  have:=List.all_eq_true.1 h o ho
  intro c e
  rw [e] at this
  cases this
section
variable {ro:Option Nat}{P:Program}{n m:Nat}{ops:Array Oper}{L:Env}{w:World}
theorem Fk {row:String}{args:Array Value}{R:Value→World→Prop}(h:Rows P row args w R):RowsIn (inF ro) m P row args w R:=
  fun c cs _=>let ⟨v,w',r,s⟩:=h c cs; ⟨v,w',r,stepsIn_wide.2 s⟩
theorem GA {o:Oper}(hd:∀ c,o.op ≠ .defer c) {a:Act}{K:Act→World→Prop}{QQ:Exit→Act→World→Prop}(h:o.wp P a w K QQ):o.wpIn (inF ro) m P a w K QQ:=by
  refine ⟨fun _ _=>trivial,?_⟩
  rw [Oper.semAt_eq _ _ _ hd]
  unfold Oper.wp at h
  generalize (execOp a.eval o).run P w=r at *
  cases r with
  | ok x w'=>
    cases x with
    | enter f args=>exact ⟨fun h=>(by cases h),callsIn_wide.2 h⟩
    | row r args=>exact ⟨fun h=>(by cases h),Fk h⟩
    | _=>first | exact h | exact h.elim
  | halt x w'=>cases x<;>exact h
theorem De {Q:Post}:¬ LetsOut (lift n Q):=fun ⟨_,_,h⟩=>h
theorem vT {Q:Post}:∀ {l:List Oper},nodef l=true→∀ {a:Act}{w:World},wpList P ops (lift n Q) l a w→wpListIn (inF ro) m P ops (lift n Q) l a w
  | [],_,_,_,h=>h
  | o::l,hd,a,w,h=>by
    have hl:nodef l=true:=by unfold nodef at hd ⊢; simp only [List.all_cons,Bool.and_eq_true] at hd; exact hd.2
    unfold wpListIn
    unfold wpList at h
    split
    · next hw=>
      rw [if_pos hw] at h
      rcases h with h | h
      · exact GA (wY hd σ) (Oper.wp_mono (fun a w=>vT hl) h)
      · exact absurd h.2 De
    · next hw=>
      rw [if_neg hw] at h
      exact ⟨fun _ _=>trivial,vT hl h⟩
theorem vO {Q:Post}(hd:nodef ops.toList=true):∀ (k:Nat) (listed:Array Bool) (a:Act) (w:World),wpAny P .any ops (lift n Q) k listed a w→wpAnyIn (inF ro) m P .any ops (lift n Q) k listed a w
  | 0,_,_,_,h=>h
  | k+1,listed,a,w,h=>⟨h.1,fun i hi=>by
    have h2:=h.2 i hi
    unfold wpOp at h2
    unfold wpOpIn
    split
    · next ho=>rw [ho] at h2; exact vO hd k _ _ _ h2
    · next o ho=>
      simp only [ho] at h2
      split
      · next hw=>
        rw [if_pos hw] at h2
        rcases h2 with h2 | h2
        · exact GA (wY hd (Array.mem_toList_iff.2 (Array.mem_of_getElem? ho))) (Oper.wp_mono (fun a w=>vO hd k _ a w) h2)
        · exact absurd h2.2 De
      · next hw=>rw [if_neg hw] at h2; exact ⟨fun _ _=>trivial,vO hd k _ _ _ h2⟩⟩
theorem Bb {Q:Post}{e:Exit}{a:Act}(h:lift n Q e a w):s7 [] n Q e a w:=by
  cases e<;>first | exact h | (obtain ⟨L,hg,hq⟩:=h; exact ⟨L,⟨by have:=hg; cases a; have:=this.defers; simp only at this; subst this; exact hg,hg.defers⟩,hq⟩)
theorem AV {a:Act}(h:GoodD [] n a L):Good n a L:=by
  obtain ⟨h1,h2⟩:=h
  cases a; simp only at h2; subst h2; exact h1
theorem nn {Q:Post}{id:Nat}{l:List Oper}(hd:nodef l=true) (h:RL P n l.toArray Q l L w):WF ro [] P n (.region id l.toArray false) Q L w:=fun a ha=>
  wpIn_mono (wpIn_region_lit (vT hd (h a (AV ha)))) fun _ _ _ h=>Bb h
theorem FP {Q:Post}{S:World→Prop}{id:Nat}(l:List (Nat × Bool)) (hd:nodef ops.toList=true) (hm:P.follows .mixedOrders=true) (hc:qk ops ops.size l (Array.replicate ops.size false)=true) (hs:Region.noSelect ops=true)
    (hS:∀ k,S { w with drawn:=k }) (h:∀ k,DL P n ops Q S l L { w with drawn:=k }):WF ro [] P n (.region id ops true) Q L w:=fun a ha=>
  wpIn_mono (wpIn_region_any hm (vO hd _ _ _ _ (vZ _ _ _ _ ((h _ hs a (AV ha) (fun _=>hS _) ops.size _ ops.size (Nat.le_refl _)).1 hc)))) fun _ _ _ h=>Bb h
theorem GoodD.eval {ds:List Deferred}{a:Act}{x:Operand}{v:Value}(h:GoodD ds n a L) (hx:evL L x=some v):a.eval x=v:=by
  have:=h.1.eval hx
  exact this
theorem Hu {ds:List Deferred}{Q:Post}{c:Operand}{x y:Code}{b:Bool}(hc:evL L c=some (.bool b)) (h1:b=true→WF ro ds P n x Q L w) (h2:b=false→WF ro ds P n y Q L w) :
    WF ro ds P n (.cond c x y) Q L w:=fun a ha=>wpIn_cond_split (ha.eval hc) (fun h=>h1 h a ha) (fun h=>h2 h a ha)
theorem Gm {ds:List Deferred}{Q:Post}{M:Env}{c:Code}(hs:sub L M) (h:WF ro ds P n c Q M w):WF ro ds P n c Q L w:=fun a ha=>h a (ha.weak hs)
theorem Dc {ds:List Deferred}{Q:Post}{rest:List Oper}{d:Tmp}{x y1 y2:Operand}{ats:Array TypeId}{ty:TypeId}{p:String}{af:Array Edge}{l:Nat}{u1 u2:Value}{R:Ending→World→Prop}
    (hx:evL L x=some (.func (.yield l) #[] #[])) (hy1:evL L y1=some u1) (hy2:evL L y2=some u2) (hn:Nat.blt d n=true)
    (hc:YieldAt (inF none) 2 P l #[u1,u2] w R) (k:∀ e w',R e w'→∃ v,e = .returned v∧RF none ds P n ops Q rest ((d,v)::L) w') :
    RF none ds P n ops Q (⟨some d,.call ⟨.value x,#[y1,y2],ats⟩,ty,p,af,none⟩::rest) L w:=by
  obtain ⟨fn,tmps,assign,body,hr,hR⟩:=hc
  refine Ea ah (by intro c h; cases h) (r := .ok (.round l fn tmps assign body) w) (fun a ha=>?_) fun a ha K hK=>?_
  · simp [execOp,resolve,invoke,Deferred.ofValue,ha.eval hx,ha.eval hy1,ha.eval hy2,hr]
  · rw [Oper.uponIn_round]
    refine ⟨fun h=>(by cases h),hR.mono fun e w' he=>?_⟩
    obtain ⟨v,rfl,hk⟩:=k e w' he
    exact hK _ _ (hk _ (ha.put hn))
end
theorem qo {P:Program}{fn:Func}{R:Value→World→Prop}{L:Env}{w:World}{t u y:Nat}{uy:TypeId}{x:Addr}{v v2 v3:Value}(hr:fn.results = #[.tmp t,.cell u uy,.tmp y]) (hv:look L t=some v)
    (hl2:(loadVar uy x).run P w = .ok v2 w) (hu:look L u=some (.pointer (some x))) (hy:look L y=some v3) (h:R (.tuple #[v,v2,v3]) w):fin P fn R .ret L w:=fun _ a hg=>
  ⟨_,by have h1:=hg.cov t _ hv; have h2:=hg.cov u _ hu; have h3:=hg.cov y _ hy; simp only [Array.getD_eq_getD_getElem?] at h1 h2 h3; simp [results,hr,h1,h2,h3,asAddr,hl2],h⟩
theorem GQ {ro:Option Nat}{ds:List Deferred}{P:Program}{n:Nat}{ops:Array Oper}{Q:Post}{L:Env}{w w0:World}{M:Nat→Prop}{Δ F:List Rsc}{rest:List Oper}{ty:TypeId}{p:String}{af:Array Edge}{g:Option (Nat × Bool)}{t:TypeId}{x y:Operand}{b off sz:Nat}{cs:List Value}{T} {vs:List Value}(hw:Wn ops n L ⟨none,.store t x y,ty,p,af,g⟩) (hs:∀ w,(sizeOf t).run P w = .ok sz w) (hx:evL L x=some (.pointer (some ⟨b,off,none⟩))) (hy:evL L y=some (.agg vs.toArray))
    (hl:vs.length=sz) (h1:qi vs=true) (H:Sep M w0 Δ F w) (i:Nat) (hi:Δ[i]? = some (box b (.cells cs.toArray T))) (ho:Nat.ble (off+sz) cs.length=true)
    (k:∀ w',Ext (· = b) w w'→Sep M w0 (Δ.set i (box b (.cells (aI cs off vs).toArray T))) F w'→RF ro ds P n ops Q rest L w') :
    RF ro ds P n ops Q (⟨none,.store t x y,ty,p,af,g⟩::rest) L w:=by
  have ho':=Nat.le_of_ble_eq_true ho
  have h:=k _ (Ext.refl.put (.inl rfl)) (H.put i _ hi)
  rw [← pK (by rw [hl]; exact ho')] at h
  exact HD hw rfl (lw hs hx hy hl (km h1) (H.box i hi) (by simpa using ho')) h
theorem GD {P:Program}{fn:Func}{R:Value→World→Prop}{L:Env}{w:World}{t u:Nat}{ty uy:TypeId}{x y:Addr}{v v2:Value}(hr:fn.results = #[.cell t ty,.cell u uy]) (hv:look L t=some (.pointer (some x))) (hl:(loadVar ty x).run P w = .ok v w)
    (hu:look L u=some (.pointer (some y))) (hl2:(loadVar uy y).run P w = .ok v2 w) (h:R (.tuple #[v,v2]) w):fin P fn R .ret L w:=fun _ a hg=>
  ⟨_,by have h1:=hg.cov t _ hv; have h2:=hg.cov u _ hu; simp only [Array.getD_eq_getD_getElem?] at h1 h2; simp [results,hr,h1,h2,asAddr,hl,hl2],h⟩
section
variable {P:Program}{n:Nat}{L:Env}{W:World}{R:LoopState→Option Code→Loop}{fn:FuncId}{tmps:Array Value}{assign body:Code}{t1 t2:Tmp}{l:Nat}{u1 u2:Value}
theorem CL (hR:Recs R fn tmps #[t1,t2] assign body) (hg:Good n { tmps:=tmps,defers:=[] } L) (ht1:Nat.blt t1 n=true) (ht2:Nat.blt t2 n=true) (hl:W.heap[l]? = some (.loop (R .ready none))) {A:Env→World→Prop}{B C:World→Prop}
    (ha:WF (some l) [] P n assign (fun e L' W'=>e = .normal∧W'.heap[l]? = some (.loop (R .ready none))∧A L' W') ((t2,u2)::(t1,u1)::L) W)
    (hb:∀ L' W',A L' W'→WF (some l) [] P n body (fun e L' W'=>W'.heap[l]? = some (.loop (R .busy none))∧(e = .normal∧B W'∨e = .ret∧C W')) L' (put W' l (.loop (R .busy none)))) :
    YieldAt (inF none) 2 P l #[u1,u2] W fun e W'=>∃ W2,W2.heap[l]? = some (.loop (R .busy none))∧(e = .returned (.bool true)∧B W2∧W'=put W2 l (.loop (R .ready none))∨e = .returned (.bool false)∧C W2∧W'=put W2 l (.loop (R .done (some .ret)))):=by
  have hy:=run_yield (P:=P) (args := #[u1,u2]) hl (by rw [hR.ps]; rfl)
  rw [hR.fn,hR.tmps,hR.ps,hR.asg,hR.bo] at hy
  refine ⟨fn,_,assign,body,hy,?_⟩
  have hg2:GoodD [] n { tmps:=((#[t1,t2].zip #[u1,u2]).foldl (fun tmps (t,a)=>tmps.setIfInBounds t a) tmps),defers:=[] } ((t2,u2)::(t1,u1)::L):=by
    refine ⟨?_,rfl⟩
    have:=(hg.put ht1 (v:=u1)).put ht2 (v:=u2)
    simpa [Act.put] using this
  refine roundIn_of_wpIn (F:=inF none) trivial ?_
  have key:assign.wpIn (inF (some l)) 3 P (s7 [] n (fun e L' W'=>e = .normal∧W'.heap[l]? = some (.loop (R .ready none))∧A L' W')) { tmps:=((#[t1,t2].zip #[u1,u2]).foldl (fun tmps (t,a)=>tmps.setIfInBounds t a) tmps),defers:=[] } W:=ha _ hg2
  have dn:∀ {c:Code}{QQ:Exit→Act→World→Prop}{a:Act}{w:World},c.wpIn (inF (some l)) 3 P QQ a w→c.wpIn ((inF none).inRound l) 2 P QQ a w:=fun h b k cs h1 h2 h3=>h b k cs h1 h2 (fun d hd=>by cases hd)
  refine dn (wpIn_mono key fun e a w hh=>?_)
  cases e with
  | normal=>
    obtain ⟨L',hg',_,hl1,hA⟩:=hh
    refine ⟨put w l (.loop (R .busy none)),?_,dn (wpIn_mono (hb _ _ hA _ hg') fun e a w2 hh=>?_)⟩
    · have:=run_beginRound (P:=P) hl1 (hR.st _ _)
      rw [this]
      have e1:=hR.up .ready none .busy none
      have e2:({ R .ready none with state := .busy }:Loop)=R .busy none:=by
        rw [← e1]
        have:=hR.pe .ready none
        cases h:R .ready none; rw [h] at this; simp only at this; subst this; rfl
      rw [e2]; rfl
    · cases e with
      | normal=>
        obtain ⟨L3,_,hl2,hB⟩:=hh
        rcases hB with ⟨_,hB⟩ | ⟨hf,_⟩
        · refine ⟨_,_,run_endRound (P:=P) none hl2,w2,hl2,.inl ⟨rfl,hB,?_⟩⟩
          show put w2 l _=_
          congr 2
          exact hR.up .busy none .ready none
        · cases hf
      | ret=>
        obtain ⟨L3,_,hl2,hB⟩:=hh
        rcases hB with ⟨hf,_⟩ | ⟨_,hC⟩
        · cases hf
        · refine ⟨_,_,run_endRound (P:=P) (some .ret) hl2,w2,hl2,.inr ⟨rfl,hC,?_⟩⟩
          show put w2 l _=_
          congr 2
          exact hR.up .busy none .done (some .ret)
      | panic _=>exact hh
      | outgrown=>exact hh
      | exit _=>obtain ⟨_,_,_,h | h⟩:=hh<;>cases h.1
      | goto _=>obtain ⟨_,_,_,h | h⟩:=hh<;>cases h.1
  | panic _=>exact hh
  | outgrown=>exact hh
  | ret=>obtain ⟨_,_,h,_⟩:=hh; cases h
  | exit _=>obtain ⟨_,_,h,_⟩:=hh; cases h
  | goto _=>obtain ⟨_,_,h,_⟩:=hh; cases h
end
section
variable {P:Program}{n:Nat}{L:Env}{w:World}{Q:Exit→Act→World→Prop}
theorem BJ {g:Operand}{ps:Array Tmp}{assign body:Code}{gf:FuncId}{gfn:Func}{lb:Array Value}{a:Act}{K K2:World→Prop}(ha:GoodD [] n a L) (hg:evL L g=some (.func (.func gf) #[] lb))
    (hf:P.funcs[gf]? = some gfn) (hb:gfn.body.isNone=false) (hnm:(gfn.name == "runtime.NumGoroutine")=false)
    (hc:∀ (R:LoopState→Option Code→Loop) (fn:FuncId),Recs R fn a.tmps ps assign body →
      Ret P gf (#[.func (.yield (w.heap.size+1)) #[] #[]]++lb) ((w.alloc (.deferred (some []))).alloc (.loop (R .ready none))) fun _ w2=>
        (w2.heap[w.heap.size+1]? = some (.loop (R .ready none))∧K (put w2 (w.heap.size+1) (.loop (R .exhausted none)))) ∨
        (w2.heap[w.heap.size+1]? = some (.loop (R .done (some .ret)))∧K2 (put w2 (w.heap.size+1) (.loop (R .exhausted (some .ret))))))
    (hQ:∀ w3,K w3→Q .normal { a with defers:=[{ target := .collected w.heap.size,args := #[] }] } w3) (hQ2:∀ w3,K2 w3→Q .ret { a with defers:=[{ target := .collected w.heap.size,args := #[] }] } w3) :
    (Code.rangeFunc g ps assign body).wpIn (inF none) 3 P Q a w:=by
  refine wpIn_rangeFunc ?_
  intro fn _
  let R:LoopState→Option Code→Loop:=fun st pe=>{ state:=st,pending:=pe,fn,tmps:=a.tmps,params:=ps,assign,body,defers:=w.heap.size }
  have hR:Recs R fn a.tmps ps assign body:=⟨fun _ _=>rfl,fun _ _=>rfl,fun _ _ _ _=>rfl,fun _ _=>rfl,fun _ _=>rfl,fun _ _=>rfl,fun _ _=>rfl,fun _ _=>rfl⟩
  refine ⟨w.heap.size+1,[{ target := .collected w.heap.size,args := #[] }],(w.alloc (.deferred (some []))).alloc (.loop (R .ready none)),{ target := .fn (.func gf) lb,args := #[.func (.yield (w.heap.size+1)) #[] #[]] },
    (w.alloc (.deferred (some []))).alloc (.loop (R .ready none)),gf,#[.func (.yield (w.heap.size+1)) #[] #[]]++lb,(w.alloc (.deferred (some []))).alloc (.loop (R .ready none)),run_enterLoop_outer _ _ _ _ _,?_,fun _ _=>trivial,?_,fun h=>(by cases h),?_⟩
  · have:a.eval g = .func (.func gf) #[] lb:=ha.1.eval hg
    simp [resolve,this,Deferred.ofValue]
    rfl
  · have hb':¬ gfn.body=none:=fun e=>by rw [e] at hb; simp at hb
    have hnm':¬ gfn.name = "runtime.NumGoroutine" := fun e=>by rw [e] at hnm; simp at hnm
    simp [invoke,callFunc,hf,hb',hnm']
  · refine callsIn_wide.2 (Calls.mono (hc R fn hR) fun e w2 ⟨v,he,hK⟩=>?_)
    subst he
    rcases hK with ⟨hl,hK⟩ | ⟨hl,hK⟩
    · refine ⟨none,_,by have:=run_endLoop (P:=P) hl (by rw [hR.st]; simp); exact this,?_⟩
      rw [ha.2]
      exact hQ _ hK
    · refine ⟨some .ret,_,by have:=run_endLoop (P:=P) hl (by rw [hR.st]; simp); exact this,?_⟩
      rw [ha.2]
      exact wpIn_ret (hQ2 _ hK)
end
end Go.Wk
namespace Go.Wk
open Rp (sz own)
section
variable {z:Wld}{r:Rec}{g row:Int}
theorem EU {r:Rec}:∀ {rs out:List Rec},r∈rs.foldl ddR out→r∈out∨r∈rs
  | [],_,h => .inl h
  | x::rs,out,h=>by
    rcases EU (rs:=rs) h with h | h
    · unfold ddR at h
      split at h
      · exact .inl h
      · rcases List.mem_append.1 h with h | h
        · exact .inl h
        · exact .inr (by rw [List.mem_singleton] at h; simp [h])
    · exact .inr (List.mem_cons_of_mem _ h)
theorem s5:Stable kLt ka (dds (allR z z.Tapes.length)) (eE z):=(nr _).choose_spec
theorem A2 (h:r∈eE z):∃ k j,k<z.Tapes.length∧j<(z.Tapes.getD k default).Recs.length∧(z.Tapes.getD k default).Recs.getD j default=r:=by
  have h1:r∈dds (allR z z.Tapes.length):=s5.2.mem h
  rcases EU h1 with h2 | h2
  · cases h2
  · unfold allR at h2
    rw [List.take_length] at h2
    obtain ⟨l,hl,hr⟩:=List.mem_flatten.1 h2
    obtain ⟨t,ht,rfl⟩:=List.mem_map.1 hl
    obtain ⟨k,hk,e⟩:=List.getElem_of_mem ht
    obtain ⟨j,hj,e2⟩:=List.getElem_of_mem hr
    have e3:z.Tapes.getD k default=t:=by rw [bI hk]; exact e
    exact ⟨k,j,hk,by rw [e3]; exact hj,by rw [e3,bI hj]; exact e2⟩
theorem GT (h:r∈eE z):ff r≤eC z:=by
  obtain ⟨k,j,hk,hj,e⟩:=A2 h
  have h1:=(l0 (f:=mD) (Nat.le_refl _) k hk).1
  have h2:=(l0 (f:=ff) (Nat.le_refl _) j hj).1
  rw [e] at h2
  have h3:mD (z.Tapes.getD k default)=szL ff (z.Tapes.getD k default).Recs:=rfl
  unfold eC
  omega
theorem AK (h:0≤gw z g row):opR z g row∈eE z:=by
  have hb:=DG (p:=shP g row) (rs:=eE z)
  unfold opR
  rw [if_pos h,bI (by unfold gw at *; omega)]
  exact List.getElem_mem _
theorem yA:ff (opR z g row)≤eC z:=by
  by_cases h:0≤gw z g row
  · exact GT (AK h)
  · unfold opR; rw [if_neg h]; exact Nat.zero_le _
noncomputable def kT (z:Wld) (g row:Int):List UInt8:=if cR z g row=0 then (opR z g row).Data else []
noncomputable def l4 (z:Wld) (g row:Int):Rec:=if cR z g row=0 then opR z g row else default
theorem lX (h:cR z g row=0):kT z g row=(opR z g row).Data:=if_pos h
theorem gP (h:cR z g row≠0):kT z g row=[]:=if_neg h
theorem oR (h:cR z g row=0):l4 z g row=opR z g row:=if_pos h
theorem gS (h:cR z g row≠0):l4 z g row=default:=if_neg h
end
end Go.Wk
namespace Go.Wk
open Rp (sz own)
section
variable {z:Wld}{r:Rec}{g row:Int}{k j:Nat}
theorem Bh (h:ju z g row=true):0≤gw z g row:=by
  unfold ju at h; simp only [Bool.and_eq_true,decide_eq_true_eq] at h; exact h.1
theorem Bw (h:ju z g row=true):(opR z g row).Kind=4∧(opR z g row).Group=g∧(opR z g row).Row=row:=by
  have h1:=Bh h
  unfold opR; rw [if_pos h1]
  exact wH (sN h1)
theorem yM {s:Shape}(h:recF s r=0) (hk:r.Kind=4):fP s r=true:=by
  have hi:ins r.Kind 1 4=true:=by rw [hk]; rfl
  unfold recF at h
  rw [if_pos hi] at h
  split at h
  · split at h
    · next c=>exact absurd h c
    · next c=>
      have c2:eD s r=0:=by omega
      rw [qS hk] at c2
      split at c2
      · next e=>exact e
      · cases c2
  · cases h
end
end Go.Wk

namespace Go.Wk
open Rp (sz own)
section
variable {α:Type}[Inhabited α] {f:α→Nat}{xs:List α}{y:α}{i:Nat}
theorem kZ (h:i<xs.length):mkL f (xs.set i y)+f (xs.getD i default)=mkL f xs+f y:=by
  unfold mkL
  rw [List.length_set]
  have e1:gZ (fun j=>f ((xs.set i y).getD j default)+(if j=i then f (xs.getD i default) else 0)) xs.length=gZ (fun j=>f (xs.getD j default)+(if j=i then f y else 0)) xs.length:=
    oB fun j hj=>by
      rw [bM]
      by_cases e:j=i
      · subst e; rw [if_pos ⟨rfl,h⟩,if_pos rfl,if_pos rfl]; omega
      · rw [if_neg (fun q=>e q.1),if_neg e,if_neg e]
  rw [pX,pX,tA,tA,if_pos h,if_pos h] at e1
  exact e1
end
def cU (s g:Int):Rec:=⟨3,s,⟨#[]⟩,0,g,0,[],[],[]⟩
def jW (z:Wld) (r:Rec):Int:=if fa z=true then 2 else if px z r=true then 0 else 9
def du (z:Wld) (r:Rec):Wld:=if fa z=true then z else nK z r
section
variable {z:Wld}{r:Rec}{rs:List Rec}{t:Nat}
theorem vL:jW z r=0∨jW z r=2∨jW z r=9:=by
  unfold jW; split
  · exact .inr (.inl rfl)
  · split
    · exact .inl rfl
    · exact .inr (.inr rfl)
theorem uo (h:fa z=true):jW z r=2∧du z r=z:=⟨if_pos h,if_pos h⟩
theorem te (h:fa z=false):jW z r=(if px z r=true then 0 else 9)∧du z r=nK z r:=⟨if_neg (by simp [h]),if_neg (by simp [h])⟩
theorem Bo {i:Nat}(h:i<rs.length):rs.drop i=rs.getD i default::rs.drop (i+1):=by
  rw [bI h]; exact List.drop_eq_getElem_cons h
theorem Bg (h:t<z.Tapes.length):dk (jj t r z)≤dk z+xo r:=by
  unfold jj kD; split
  · have:=vD (z:=z); omega
  · have h1:=kZ (f:=tS) (xs:=z.Tapes) (i:=t) (y:=⟨false,(z.Tapes.getD t default).Recs++[r]⟩) h
    have h3:tS ⟨false,(z.Tapes.getD t default).Recs++[r]⟩=tS (z.Tapes.getD t default)+xo r:=by
      unfold tS; dsimp only; rw [DA]; omega
    unfold dk hX sG; dsimp only; omega
theorem Fr (h:z.Tapes.length=2):dk (nK z r)≤dk z+2*xo r:=by
  unfold nK; split
  · have:=vD (z:=z); omega
  · have h1:=Bg (t:=0) (r:=r) (z:=z) ω
    have h2:=Bg (t:=1) (r:=r) (z:=jj 0 r z) (by rw [lN]; omega)
    omega
theorem y0:(nK z r).Tapes.length=z.Tapes.length:=by
  unfold nK; split
  · rfl
  · rw [lN,lN]
theorem xj:z.Writes≤(nK z r).Writes∧(nK z r).Writes≤z.Writes+2:=by
  unfold nK; split
  · show z.Writes≤z.Writes∧z.Writes≤z.Writes+2; omega
  · have h1:=mr (t:=0) (r:=r) (z:=z)
    have h2:=mr (t:=1) (r:=r) (z:=jj 0 r z)
    omega
theorem xG {s g:Int}(h1:I64ok s) (h2:I64ok g):(cU s g).Ok:=by
  have h0:I64ok 0:=by unfold I64ok; omega
  exact ⟨by show I64ok 3; unfold I64ok; omega,h1,by show (0:Nat)≤maxLen; exact Nat.zero_le _,h0,h2,h0⟩
theorem si (hT:z.Tapes.length=2):(du z r).Tapes.length=2∧(du z r).Writes≤z.Writes+2∧z.Writes≤(du z r).Writes∧dk (du z r)≤dk z+2*xo r:=by
  unfold du; split
  · exact ⟨hT,ω,ω,ω⟩
  · have h1:=xj (z:=z) (r:=r)
    exact ⟨by rw [y0,hT],ω,ω,Fr hT⟩
end
end Go.Wk
namespace Go.Wk
theorem xT {s g:Int}:ff (cU s g)=0:=rfl
end Go.Wk
namespace Go.Wk
open Rp (sz own)
def Eu (xs:List Rec):Int:=(xs.getD (xs.length-1) default).Seq
section
variable {α K:Type}{lt:K→K→Prop}{key:α→K}
theorem Ord.at [Inhabited α] {xs:List α}(h:Ord lt key xs):∀ {i j:Nat},i<j→j<xs.length→¬ lt (key (xs.getD j default)) (key (xs.getD i default)):=by
  induction h with
  | nil=>intro i j _ h; simp at h
  | cons h1 h2 ih=>
    intro i j hij hj
    obtain ⟨j,rfl⟩:∃ k,j=k+1:=⟨j-1,ω⟩
    rw [List.length_cons] at hj
    rcases Nat.eq_zero_or_pos i with e | e
    · subst e
      rw [List.getD_cons_succ,List.getD_cons_zero,bI ω]
      exact h1 _ (List.getElem_mem _)
    · obtain ⟨i,rfl⟩:∃ k,i=k+1:=⟨i-1,ω⟩
      rw [List.getD_cons_succ,List.getD_cons_succ]
      exact ih ω ω
end
end Go.Wk
namespace Go.Wk
def ivT:List (UInt8 × UInt8):=[(1,1),(23,102),(27,128),(29,131),(84,129),(128,27),(129,84),(130,161),(131,29),(143,245),(161,130),(225,63),(239,106)]
set_option maxRecDepth 100000 in
theorem Hi:(ivT.all fun e=>decide (tm e.1=e.2))=true:=by decide +kernel
def ivL (p:UInt8):UInt8:=match ivT.find? (fun e=>decide (e.1=p)) with
  | some e=>e.2
  | none=>tm p
theorem DN:ivL=tm:=by
  funext p
  unfold ivL
  split
  · rename_i e he
    have h1:=List.find?_some he
    have h2:=List.mem_of_find?_eq_some he
    have h3:=List.all_eq_true.1 Hi e h2
    simp only [decide_eq_true_eq] at h1 h3
    rw [← h1,h3]
  · rfl
def HM (iv:UInt8→UInt8) (m:Mat) (c r a:Nat):Mat:=(m.set a (m.getD r [])).set r (bV (m.getD a []) (iv (entry m a c)))
def Gy (iv:UInt8→UInt8) (m:Mat) (c r:Nat):Mat × Nat:=if m.length≤mI m c r then (m,r) else (cK (HM iv m c r (mI m c r)) c r m.length,r+1)
def xJ (iv:UInt8→UInt8) (m:Mat):Nat→Mat × Nat
  | 0=>(m,0)
  | c+1=>Gy iv (xJ iv m c).1 c (xJ iv m c).2
theorem AI (m:Mat):∀ n,xJ tm m n=redM m n
  | 0=>rfl
  | n+1=>by rw [xJ,redM,AI m n]; rfl
def wm (iv:UInt8→UInt8):Nat→Mat × Nat→List (Mat × Nat)→Bool
  | _,_,[]=>true
  | c,m,x::t=>decide (Gy iv m.1 c m.2=x) && wm iv (c+1) x t
theorem xH {iv:UInt8→UInt8}{A:Mat}:∀ {l:List (Mat × Nat)}{c:Nat}{m:Mat × Nat},xJ iv A c=m→wm iv c m l=true→xJ iv A (c+l.length)=l.getLastD m
  | [],_,_,h,_=>h
  | x::t,c,m,h,hc=>by
    unfold wm at hc
    simp only [Bool.and_eq_true,decide_eq_true_eq] at hc
    have h2:xJ iv A (c+1)=x:=by rw [xJ,h]; exact hc.1
    have:=xH (l:=t) (c:=c+1) h2 hc.2
    rw [show c+(x::t).length=c+1+t.length by simp; omega,this]
    cases t<;>rfl
def Hd (iv:UInt8→UInt8) (n:Nat) (p:Int) (i:Nat):UInt8:=if (n:Int)≤p then iv (zn (128+(0+p-n)) ^^^ zn i) else if (i:Int)=p then 1 else 0
def HG (iv:UInt8→UInt8) (n:Nat) (p:Int):List UInt8:=(List.range n).map (Hd iv n p)
structure Way where
  n:Nat
  hs:List Int
  x:Int
  g:List UInt8
  m:Mat
  steps:List (Mat × Nat)
  w:List UInt8
def Way.ok (iv:UInt8→UInt8) (e:Way):Bool:=
  decide (HG iv e.n e.x=e.g) && decide (trF (fun t=>HG iv e.n (e.hs.getD t 0)) e.n e.n 0=e.m) && wm iv 0 (aug e.m e.g,0) e.steps && decide (e.steps.length=e.n) && decide (e.m.length=e.n) &&
    decide (e.n≤(e.steps.getLastD (aug e.m e.g,0)).2) && decide (pF (e.steps.getLastD (aug e.m e.g,0)).1 e.n e.n=e.w)
theorem Way.fact {e:Way}(h:e.ok ivL=true):betw e.n e.hs e.x 0=e.w:=by
  rw [DN] at h
  unfold Way.ok at h
  simp only [Bool.and_eq_true,decide_eq_true_eq] at h
  obtain ⟨⟨⟨⟨⟨⟨h1,h2⟩,h3⟩,h4⟩,h5⟩,h6⟩,h7⟩:=h
  have hc:=xH (A:=aug e.m e.g) (c:=0) rfl h3
  rw [Nat.zero_add,h4,AI] at hc
  have e1:s9 e.n e.hs 0=e.m:=h2
  have e2:ke e.n e.x 0=e.g:=h1
  rw [betw,e1,e2]
  have h8:¬ (redM (aug e.m e.g) e.m.length).2<e.m.length:=by
    rw [h5,hc]; exact Nat.not_lt.2 h6
  rw [(A0 h8).2,h5,hc]
  exact h7
def ways:List Way:=[
  ⟨1,[0],0,[1],[[1]],[([[1,1]],1)],[1]⟩,
  ⟨1,[0],1,[27],[[1]],[([[1,27]],1)],[27]⟩,
  ⟨1,[0],2,[84],[[1]],[([[1,84]],1)],[84]⟩,
  ⟨1,[1],0,[1],[[27]],[([[1,128]],1)],[128]⟩,
  ⟨1,[1],1,[27],[[27]],[([[1,1]],1)],[1]⟩,
  ⟨1,[1],2,[84],[[27]],[([[1,85]],1)],[85]⟩,
  ⟨1,[2],0,[1],[[84]],[([[1,129]],1)],[129]⟩,
  ⟨1,[2],1,[27],[[84]],[([[1,26]],1)],[26]⟩,
  ⟨1,[2],2,[84],[[84]],[([[1,1]],1)],[1]⟩,
  ⟨2,[0,1],0,[1,0],[[1,0],[0,1]],[([[1,0,1],[0,1,0]],1),([[1,0,1],[0,1,0]],2)],[1,0]⟩,
  ⟨2,[0,1],1,[0,1],[[1,0],[0,1]],[([[1,0,0],[0,1,1]],1),([[1,0,0],[0,1,1]],2)],[0,1]⟩,
  ⟨2,[0,1],2,[27,84],[[1,0],[0,1]],[([[1,0,27],[0,1,84]],1),([[1,0,27],[0,1,84]],2)],[27,84]⟩,
  ⟨2,[0,1],3,[84,27],[[1,0],[0,1]],[([[1,0,84],[0,1,27]],1),([[1,0,84],[0,1,27]],2)],[84,27]⟩,
  ⟨2,[0,2],0,[1,0],[[1,27],[0,84]],[([[1,27,1],[0,84,0]],1),([[1,0,1],[0,1,0]],2)],[1,0]⟩,
  ⟨2,[0,2],1,[0,1],[[1,27],[0,84]],[([[1,27,0],[0,84,1]],1),([[1,0,26],[0,1,129]],2)],[26,129]⟩,
  ⟨2,[0,2],2,[27,84],[[1,27],[0,84]],[([[1,27,27],[0,84,84]],1),([[1,0,0],[0,1,1]],2)],[0,1]⟩,
  ⟨2,[0,2],3,[84,27],[[1,27],[0,84]],[([[1,27,84],[0,84,27]],1),([[1,0,23],[0,1,26]],2)],[23,26]⟩,
  ⟨2,[0,3],0,[1,0],[[1,84],[0,27]],[([[1,84,1],[0,27,0]],1),([[1,0,1],[0,1,0]],2)],[1,0]⟩,
  ⟨2,[0,3],1,[0,1],[[1,84],[0,27]],[([[1,84,0],[0,27,1]],1),([[1,0,85],[0,1,128]],2)],[85,128]⟩,
  ⟨2,[0,3],2,[27,84],[[1,84],[0,27]],[([[1,84,27],[0,27,84]],1),([[1,0,143],[0,1,85]],2)],[143,85]⟩,
  ⟨2,[0,3],3,[84,27],[[1,84],[0,27]],[([[1,84,84],[0,27,27]],1),([[1,0,0],[0,1,1]],2)],[0,1]⟩,
  ⟨2,[1,2],0,[1,0],[[0,27],[1,84]],[([[1,84,0],[0,27,1]],1),([[1,0,85],[0,1,128]],2)],[85,128]⟩,
  ⟨2,[1,2],1,[0,1],[[0,27],[1,84]],[([[1,84,1],[0,27,0]],1),([[1,0,1],[0,1,0]],2)],[1,0]⟩,
  ⟨2,[1,2],2,[27,84],[[0,27],[1,84]],[([[1,84,84],[0,27,27]],1),([[1,0,0],[0,1,1]],2)],[0,1]⟩,
  ⟨2,[1,2],3,[84,27],[[0,27],[1,84]],[([[1,84,27],[0,27,84]],1),([[1,0,143],[0,1,85]],2)],[143,85]⟩,
  ⟨2,[1,3],0,[1,0],[[0,84],[1,27]],[([[1,27,0],[0,84,1]],1),([[1,0,26],[0,1,129]],2)],[26,129]⟩,
  ⟨2,[1,3],1,[0,1],[[0,84],[1,27]],[([[1,27,1],[0,84,0]],1),([[1,0,1],[0,1,0]],2)],[1,0]⟩,
  ⟨2,[1,3],2,[27,84],[[0,84],[1,27]],[([[1,27,84],[0,84,27]],1),([[1,0,23],[0,1,26]],2)],[23,26]⟩,
  ⟨2,[1,3],3,[84,27],[[0,84],[1,27]],[([[1,27,27],[0,84,84]],1),([[1,0,0],[0,1,1]],2)],[0,1]⟩,
  ⟨2,[2,3],0,[1,0],[[27,84],[84,27]],[([[1,85,128],[0,143,85]],1),([[1,0,245],[0,1,102]],2)],[245,102]⟩,
  ⟨2,[2,3],1,[0,1],[[27,84],[84,27]],[([[1,85,0],[0,143,1]],1),([[1,0,102],[0,1,245]],2)],[102,245]⟩,
  ⟨2,[2,3],2,[27,84],[[27,84],[84,27]],[([[1,85,1],[0,143,0]],1),([[1,0,1],[0,1,0]],2)],[1,0]⟩,
  ⟨2,[2,3],3,[84,27],[[27,84],[84,27]],[([[1,85,85],[0,143,143]],1),([[1,0,0],[0,1,1]],2)],[0,1]⟩,
  ⟨3,[0,1,2],0,[1,0,0],[[1,0,0],[0,1,0],[0,0,1]],[([[1,0,0,1],[0,1,0,0],[0,0,1,0]],1),([[1,0,0,1],[0,1,0,0],[0,0,1,0]],2),([[1,0,0,1],[0,1,0,0],[0,0,1,0]],3)],[1,0,0]⟩,
  ⟨3,[0,1,2],1,[0,1,0],[[1,0,0],[0,1,0],[0,0,1]],[([[1,0,0,0],[0,1,0,1],[0,0,1,0]],1),([[1,0,0,0],[0,1,0,1],[0,0,1,0]],2),([[1,0,0,0],[0,1,0,1],[0,0,1,0]],3)],[0,1,0]⟩,
  ⟨3,[0,1,2],2,[0,0,1],[[1,0,0],[0,1,0],[0,0,1]],[([[1,0,0,0],[0,1,0,0],[0,0,1,1]],1),([[1,0,0,0],[0,1,0,0],[0,0,1,1]],2),([[1,0,0,0],[0,1,0,0],[0,0,1,1]],3)],[0,0,1]⟩,
  ⟨3,[0,1,2],3,[27,84,161],[[1,0,0],[0,1,0],[0,0,1]],[([[1,0,0,27],[0,1,0,84],[0,0,1,161]],1),([[1,0,0,27],[0,1,0,84],[0,0,1,161]],2),([[1,0,0,27],[0,1,0,84],[0,0,1,161]],3)],[27,84,161]⟩,
  ⟨3,[0,1,2],4,[84,27,29],[[1,0,0],[0,1,0],[0,0,1]],[([[1,0,0,84],[0,1,0,27],[0,0,1,29]],1),([[1,0,0,84],[0,1,0,27],[0,0,1,29]],2),([[1,0,0,84],[0,1,0,27],[0,0,1,29]],3)],[84,27,29]⟩,
  ⟨3,[0,1,3],0,[1,0,0],[[1,0,27],[0,1,84],[0,0,161]],[([[1,0,27,1],[0,1,84,0],[0,0,161,0]],1),([[1,0,27,1],[0,1,84,0],[0,0,161,0]],2),([[1,0,0,1],[0,1,0,0],[0,0,1,0]],3)],[1,0,0]⟩,
  ⟨3,[0,1,3],1,[0,1,0],[[1,0,27],[0,1,84],[0,0,161]],[([[1,0,27,0],[0,1,84,1],[0,0,161,0]],1),([[1,0,27,0],[0,1,84,1],[0,0,161,0]],2),([[1,0,0,0],[0,1,0,1],[0,0,1,0]],3)],[0,1,0]⟩,
  ⟨3,[0,1,3],2,[0,0,1],[[1,0,27],[0,1,84],[0,0,161]],[([[1,0,27,0],[0,1,84,0],[0,0,161,1]],1),([[1,0,27,0],[0,1,84,0],[0,0,161,1]],2),([[1,0,0,55],[0,1,0,253],[0,0,1,130]],3)],[55,253,130]⟩,
  ⟨3,[0,1,3],3,[27,84,161],[[1,0,27],[0,1,84],[0,0,161]],[([[1,0,27,27],[0,1,84,84],[0,0,161,161]],1),([[1,0,27,27],[0,1,84,84],[0,0,161,161]],2),([[1,0,0,0],[0,1,0,0],[0,0,1,1]],3)],[0,0,1]⟩,
  ⟨3,[0,1,3],4,[84,27,29],[[1,0,27],[0,1,84],[0,0,161]],[([[1,0,27,84],[0,1,84,27],[0,0,161,29]],1),([[1,0,27,84],[0,1,84,27],[0,0,161,29]],2),([[1,0,0,77],[0,1,0,229],[0,0,1,28]],3)],[77,229,28]⟩,
  ⟨3,[0,1,4],0,[1,0,0],[[1,0,84],[0,1,27],[0,0,29]],[([[1,0,84,1],[0,1,27,0],[0,0,29,0]],1),([[1,0,84,1],[0,1,27,0],[0,0,29,0]],2),([[1,0,0,1],[0,1,0,0],[0,0,1,0]],3)],[1,0,0]⟩,
  ⟨3,[0,1,4],1,[0,1,0],[[1,0,84],[0,1,27],[0,0,29]],[([[1,0,84,0],[0,1,27,1],[0,0,29,0]],1),([[1,0,84,0],[0,1,27,1],[0,0,29,0]],2),([[1,0,0,0],[0,1,0,1],[0,0,1,0]],3)],[0,1,0]⟩,
  ⟨3,[0,1,4],2,[0,0,1],[[1,0,84],[0,1,27],[0,0,29]],[([[1,0,84,0],[0,1,27,0],[0,0,29,1]],1),([[1,0,84,0],[0,1,27,0],[0,0,29,1]],2),([[1,0,0,169],[0,1,0,44],[0,0,1,131]],3)],[169,44,131]⟩,
  ⟨3,[0,1,4],3,[27,84,161],[[1,0,84],[0,1,27],[0,0,29]],[([[1,0,84,27],[0,1,27,84],[0,0,29,161]],1),([[1,0,84,27],[0,1,27,84],[0,0,29,161]],2),([[1,0,0,28],[0,1,0,18],[0,0,1,160]],3)],[28,18,160]⟩,
  ⟨3,[0,1,4],4,[84,27,29],[[1,0,84],[0,1,27],[0,0,29]],[([[1,0,84,84],[0,1,27,27],[0,0,29,29]],1),([[1,0,84,84],[0,1,27,27],[0,0,29,29]],2),([[1,0,0,0],[0,1,0,0],[0,0,1,1]],3)],[0,0,1]⟩,
  ⟨3,[0,2,3],0,[1,0,0],[[1,0,27],[0,0,84],[0,1,161]],[([[1,0,27,1],[0,0,84,0],[0,1,161,0]],1),([[1,0,27,1],[0,1,161,0],[0,0,84,0]],2),([[1,0,0,1],[0,1,0,0],[0,0,1,0]],3)],[1,0,0]⟩,
  ⟨3,[0,2,3],1,[0,1,0],[[1,0,27],[0,0,84],[0,1,161]],[([[1,0,27,0],[0,0,84,1],[0,1,161,0]],1),([[1,0,27,0],[0,1,161,0],[0,0,84,1]],2),([[1,0,0,26],[0,1,0,255],[0,0,1,129]],3)],[26,255,129]⟩,
  ⟨3,[0,2,3],2,[0,0,1],[[1,0,27],[0,0,84],[0,1,161]],[([[1,0,27,0],[0,0,84,0],[0,1,161,1]],1),([[1,0,27,0],[0,1,161,1],[0,0,84,0]],2),([[1,0,0,0],[0,1,0,1],[0,0,1,0]],3)],[0,1,0]⟩,
  ⟨3,[0,2,3],3,[27,84,161],[[1,0,27],[0,0,84],[0,1,161]],[([[1,0,27,27],[0,0,84,84],[0,1,161,161]],1),([[1,0,27,27],[0,1,161,161],[0,0,84,84]],2),([[1,0,0,0],[0,1,0,0],[0,0,1,1]],3)],[0,0,1]⟩,
  ⟨3,[0,2,3],4,[84,27,29],[[1,0,27],[0,0,84],[0,1,161]],[([[1,0,27,84],[0,0,84,27],[0,1,161,29]],1),([[1,0,27,84],[0,1,161,29],[0,0,84,27]],2),([[1,0,0,23],[0,1,0,225],[0,0,1,26]],3)],[23,225,26]⟩,
  ⟨3,[0,2,4],0,[1,0,0],[[1,0,84],[0,0,27],[0,1,29]],[([[1,0,84,1],[0,0,27,0],[0,1,29,0]],1),([[1,0,84,1],[0,1,29,0],[0,0,27,0]],2),([[1,0,0,1],[0,1,0,0],[0,0,1,0]],3)],[1,0,0]⟩,
  ⟨3,[0,2,4],1,[0,1,0],[[1,0,84],[0,0,27],[0,1,29]],[([[1,0,84,0],[0,0,27,1],[0,1,29,0]],1),([[1,0,84,0],[0,1,29,0],[0,0,27,1]],2),([[1,0,0,85],[0,1,0,38],[0,0,1,128]],3)],[85,38,128]⟩,
  ⟨3,[0,2,4],2,[0,0,1],[[1,0,84],[0,0,27],[0,1,29]],[([[1,0,84,0],[0,0,27,0],[0,1,29,1]],1),([[1,0,84,0],[0,1,29,1],[0,0,27,0]],2),([[1,0,0,0],[0,1,0,1],[0,0,1,0]],3)],[0,1,0]⟩,
  ⟨3,[0,2,4],3,[27,84,161],[[1,0,84],[0,0,27],[0,1,29]],[([[1,0,84,27],[0,0,27,84],[0,1,29,161]],1),([[1,0,84,27],[0,1,29,161],[0,0,27,84]],2),([[1,0,0,143],[0,1,0,22],[0,0,1,85]],3)],[143,22,85]⟩,
  ⟨3,[0,2,4],4,[84,27,29],[[1,0,84],[0,0,27],[0,1,29]],[([[1,0,84,84],[0,0,27,27],[0,1,29,29]],1),([[1,0,84,84],[0,1,29,29],[0,0,27,27]],2),([[1,0,0,0],[0,1,0,0],[0,0,1,1]],3)],[0,0,1]⟩,
  ⟨3,[0,3,4],0,[1,0,0],[[1,27,84],[0,84,27],[0,161,29]],[([[1,27,84,1],[0,84,27,0],[0,161,29,0]],1),([[1,0,23,1],[0,1,26,0],[0,0,225,0]],2),([[1,0,0,1],[0,1,0,0],[0,0,1,0]],3)],[1,0,0]⟩,
  ⟨3,[0,3,4],1,[0,1,0],[[1,27,84],[0,84,27],[0,161,29]],[([[1,27,84,0],[0,84,27,1],[0,161,29,0]],1),([[1,0,23,26],[0,1,26,129],[0,0,225,255]],2),([[1,0,0,245],[0,1,0,192],[0,0,1,177]],3)],[245,192,177]⟩,
  ⟨3,[0,3,4],2,[0,0,1],[[1,27,84],[0,84,27],[0,161,29]],[([[1,27,84,0],[0,84,27,0],[0,161,29,1]],1),([[1,0,23,0],[0,1,26,0],[0,0,225,1]],2),([[1,0,0,106],[0,1,0,76],[0,0,1,63]],3)],[106,76,63]⟩,
  ⟨3,[0,3,4],3,[27,84,161],[[1,27,84],[0,84,27],[0,161,29]],[([[1,27,84,27],[0,84,27,84],[0,161,29,161]],1),([[1,0,23,0],[0,1,26,1],[0,0,225,0]],2),([[1,0,0,0],[0,1,0,1],[0,0,1,0]],3)],[0,1,0]⟩,
  ⟨3,[0,3,4],4,[84,27,29],[[1,27,84],[0,84,27],[0,161,29]],[([[1,27,84,84],[0,84,27,27],[0,161,29,29]],1),([[1,0,23,23],[0,1,26,26],[0,0,225,225]],2),([[1,0,0,0],[0,1,0,0],[0,0,1,1]],3)],[0,0,1]⟩,
  ⟨3,[1,2,3],0,[1,0,0],[[0,0,27],[1,0,84],[0,1,161]],[([[1,0,84,0],[0,0,27,1],[0,1,161,0]],1),([[1,0,84,0],[0,1,161,0],[0,0,27,1]],2),([[1,0,0,85],[0,1,0,94],[0,0,1,128]],3)],[85,94,128]⟩,
  ⟨3,[1,2,3],1,[0,1,0],[[0,0,27],[1,0,84],[0,1,161]],[([[1,0,84,1],[0,0,27,0],[0,1,161,0]],1),([[1,0,84,1],[0,1,161,0],[0,0,27,0]],2),([[1,0,0,1],[0,1,0,0],[0,0,1,0]],3)],[1,0,0]⟩,
  ⟨3,[1,2,3],2,[0,0,1],[[0,0,27],[1,0,84],[0,1,161]],[([[1,0,84,0],[0,0,27,0],[0,1,161,1]],1),([[1,0,84,0],[0,1,161,1],[0,0,27,0]],2),([[1,0,0,0],[0,1,0,1],[0,0,1,0]],3)],[0,1,0]⟩,
  ⟨3,[1,2,3],3,[27,84,161],[[0,0,27],[1,0,84],[0,1,161]],[([[1,0,84,84],[0,0,27,27],[0,1,161,161]],1),([[1,0,84,84],[0,1,161,161],[0,0,27,27]],2),([[1,0,0,0],[0,1,0,0],[0,0,1,1]],3)],[0,0,1]⟩,
  ⟨3,[1,2,3],4,[84,27,29],[[0,0,27],[1,0,84],[0,1,161]],[([[1,0,84,27],[0,0,27,84],[0,1,161,29]],1),([[1,0,84,27],[0,1,161,29],[0,0,27,84]],2),([[1,0,0,143],[0,1,0,239],[0,0,1,85]],3)],[143,239,85]⟩,
  ⟨3,[1,2,4],0,[1,0,0],[[0,0,84],[1,0,27],[0,1,29]],[([[1,0,27,0],[0,0,84,1],[0,1,29,0]],1),([[1,0,27,0],[0,1,29,0],[0,0,84,1]],2),([[1,0,0,26],[0,1,0,59],[0,0,1,129]],3)],[26,59,129]⟩,
  ⟨3,[1,2,4],1,[0,1,0],[[0,0,84],[1,0,27],[0,1,29]],[([[1,0,27,1],[0,0,84,0],[0,1,29,0]],1),([[1,0,27,1],[0,1,29,0],[0,0,84,0]],2),([[1,0,0,1],[0,1,0,0],[0,0,1,0]],3)],[1,0,0]⟩,
  ⟨3,[1,2,4],2,[0,0,1],[[0,0,84],[1,0,27],[0,1,29]],[([[1,0,27,0],[0,0,84,0],[0,1,29,1]],1),([[1,0,27,0],[0,1,29,1],[0,0,84,0]],2),([[1,0,0,0],[0,1,0,1],[0,0,1,0]],3)],[0,1,0]⟩,
  ⟨3,[1,2,4],3,[27,84,161],[[0,0,84],[1,0,27],[0,1,29]],[([[1,0,27,84],[0,0,84,27],[0,1,29,161]],1),([[1,0,27,84],[0,1,29,161],[0,0,84,27]],2),([[1,0,0,23],[0,1,0,190],[0,0,1,26]],3)],[23,190,26]⟩,
  ⟨3,[1,2,4],4,[84,27,29],[[0,0,84],[1,0,27],[0,1,29]],[([[1,0,27,27],[0,0,84,84],[0,1,29,29]],1),([[1,0,27,27],[0,1,29,29],[0,0,84,84]],2),([[1,0,0,0],[0,1,0,0],[0,0,1,1]],3)],[0,0,1]⟩,
  ⟨3,[1,3,4],0,[1,0,0],[[0,27,84],[1,84,27],[0,161,29]],[([[1,84,27,0],[0,27,84,1],[0,161,29,0]],1),([[1,0,143,85],[0,1,85,128],[0,0,239,94]],2),([[1,0,0,143],[0,1,0,160],[0,0,1,103]],3)],[143,160,103]⟩,
  ⟨3,[1,3,4],1,[0,1,0],[[0,27,84],[1,84,27],[0,161,29]],[([[1,84,27,1],[0,27,84,0],[0,161,29,0]],1),([[1,0,143,1],[0,1,85,0],[0,0,239,0]],2),([[1,0,0,1],[0,1,0,0],[0,0,1,0]],3)],[1,0,0]⟩,
  ⟨3,[1,3,4],2,[0,0,1],[[0,27,84],[1,84,27],[0,161,29]],[([[1,84,27,0],[0,27,84,0],[0,161,29,1]],1),([[1,0,143,0],[0,1,85,0],[0,0,239,1]],2),([[1,0,0,95],[0,1,0,174],[0,0,1,106]],3)],[95,174,106]⟩,
  ⟨3,[1,3,4],3,[27,84,161],[[0,27,84],[1,84,27],[0,161,29]],[([[1,84,27,84],[0,27,84,27],[0,161,29,161]],1),([[1,0,143,0],[0,1,85,1],[0,0,239,0]],2),([[1,0,0,0],[0,1,0,1],[0,0,1,0]],3)],[0,1,0]⟩,
  ⟨3,[1,3,4],4,[84,27,29],[[0,27,84],[1,84,27],[0,161,29]],[([[1,84,27,27],[0,27,84,84],[0,161,29,29]],1),([[1,0,143,143],[0,1,85,85],[0,0,239,239]],2),([[1,0,0,0],[0,1,0,0],[0,0,1,1]],3)],[0,0,1]⟩,
  ⟨3,[2,3,4],0,[1,0,0],[[0,27,84],[0,84,27],[1,161,29]],[([[1,161,29,0],[0,84,27,0],[0,27,84,1]],1),([[1,0,225,0],[0,1,26,0],[0,0,23,1]],2),([[1,0,0,239],[0,1,0,245],[0,0,1,102]],3)],[239,245,102]⟩,
  ⟨3,[2,3,4],1,[0,1,0],[[0,27,84],[0,84,27],[1,161,29]],[([[1,161,29,0],[0,84,27,1],[0,27,84,0]],1),([[1,0,225,255],[0,1,26,129],[0,0,23,26]],2),([[1,0,0,65],[0,1,0,102],[0,0,1,245]],3)],[65,102,245]⟩,
  ⟨3,[2,3,4],2,[0,0,1],[[0,27,84],[0,84,27],[1,161,29]],[([[1,161,29,1],[0,84,27,0],[0,27,84,0]],1),([[1,0,225,1],[0,1,26,0],[0,0,23,0]],2),([[1,0,0,1],[0,1,0,0],[0,0,1,0]],3)],[1,0,0]⟩,
  ⟨3,[2,3,4],3,[27,84,161],[[0,27,84],[0,84,27],[1,161,29]],[([[1,161,29,161],[0,84,27,84],[0,27,84,27]],1),([[1,0,225,0],[0,1,26,1],[0,0,23,0]],2),([[1,0,0,0],[0,1,0,1],[0,0,1,0]],3)],[0,1,0]⟩,
  ⟨3,[2,3,4],4,[84,27,29],[[0,27,84],[0,84,27],[1,161,29]],[([[1,161,29,29],[0,84,27,27],[0,27,84,84]],1),([[1,0,225,225],[0,1,26,26],[0,0,23,23]],2),([[1,0,0,0],[0,1,0,0],[0,0,1,1]],3)],[0,0,1]⟩]
set_option maxRecDepth 100000 in
theorem FR:(ways.all fun e=>e.ok ivL)=true:=by decide +kernel
def wayW (n:Nat) (hs:List Int) (x:Nat):List UInt8:=match ways.find? (fun e=>decide (e.n=n) && decide (e.hs=hs) && decide (e.x=(x:Int))) with
  | some e=>e.w
  | none=>[]
def Dx (n:Nat) (x:Nat):List UInt8:=match ways.find? (fun e=>decide (e.n=n) && decide (e.x=(x:Int))) with
  | some e=>e.g
  | none=>[]
def Eo (n:Nat) (hs:List Int):Bool:=
  (List.range (n+2)).all fun x=>decide (ways.find? (fun e=>decide (e.n=n) && decide (e.hs=hs) && decide (e.x=(x:Int)))≠none) && decide ((wayW n hs x).length=n) &&
    ((List.range n).all fun t=>decide (xorN (fun j=>bW ((Dx n (hs.getD j 0).toNat).getD t 0) ((wayW n hs x).getD j 0)) n=(Dx n x).getD t 0)) &&
    ((List.range n).all fun j=>decide (xorN (fun i=>bW ((wayW n hs i).getD j 0) ((Dx n x).getD i 0)) n=(wayW n hs x).getD j 0))
end Go.Wk
namespace Go.Wk
open Rp (sz own)
set_option maxRecDepth 100000 in
theorem FO:([1,2,3].all fun n=>(vq n).all (Eo n))=true:=by decide +kernel
theorem AZ {n s:Nat}{hs:List Int}(hn:1≤n∧n≤3) (h2:s≤2) (hr:rises hs ((n:Int)+s-1)=true) (hl:hs.length=n):hs∈vq n:=by
  rw [rises,List.all_eq_true] at hr
  have hr:∀ i,i<hs.length→kF hs ((n:Int)+s-1) i=true:=fun i hi=>hr i (by simpa using hi)
  simp only [kF,Bool.and_eq_true,Bool.or_eq_true,decide_eq_true_eq] at hr
  have hc:n=1∨n=2∨n=3:=by omega
  rcases hc with rfl | rfl | rfl
  · match hs,hl with
    | [a],_=>
      have h0:=hr 0 σ
      simp only [List.getD_cons_zero] at h0
      have:a=0∨a=1∨a=2:=by omega
      rcases this with rfl | rfl | rfl<;>simp [vq]
  · match hs,hl with
    | [a,b],_=>
      have h0:=hr 0 σ
      have h1:=hr 1 σ
      simp only [List.getD_cons_zero,List.getD_cons_succ,Nat.sub_self,Nat.one_ne_zero,false_or] at h0 h1
      have ha:a=0∨a=1∨a=2:=by omega
      have hb:b=1∨b=2∨b=3:=by omega
      rcases ha with rfl | rfl | rfl<;>rcases hb with rfl | rfl | rfl<;>first | (exfalso; omega) | simp [vq]
  · match hs,hl with
    | [a,b,c],_=>
      have h0:=hr 0 σ
      have h1:=hr 1 σ
      have h2:=hr 2 σ
      simp only [List.getD_cons_zero,List.getD_cons_succ,Nat.sub_self,Nat.one_ne_zero,false_or,Nat.succ_ne_zero,show (2:Nat)-1=1 from rfl,(by decide:¬ (2:Nat)=0)] at h0 h1 h2
      have ha:a=0∨a=1∨a=2:=by omega
      have hb:b=1∨b=2∨b=3:=by omega
      have hc:c=2∨c=3∨c=4:=by omega
      rcases ha with rfl | rfl | rfl<;>rcases hb with rfl | rfl | rfl<;>rcases hc with rfl | rfl | rfl<;>first | (exfalso; omega) | simp [vq]
theorem Ex {n:Nat}{hs:List Int}(hn:1≤n∧n≤3) (h:hs∈vq n):Eo n hs=true:=by
  have h1:=List.all_eq_true.1 FO n (by have hc:n=1∨n=2∨n=3:=(by omega); rcases hc with rfl | rfl | rfl<;>simp)
  exact List.all_eq_true.1 h1 hs h
theorem wd {n:Nat}{hs:List Int}(h:Eo n hs=true) {x:Nat}(hx:x<n+2):betw n hs x 0=wayW n hs x∧ke n x 0=Dx n x:=by
  have h1:=List.all_eq_true.1 h x (by simpa using hx)
  simp only [Bool.and_eq_true,decide_eq_true_eq] at h1
  have h2:=h1.1.1.1
  have key:∀ e∈ways,e.ok ivL=true:=List.all_eq_true.1 FR
  cases he:ways.find? (fun e=>decide (e.n=n) && decide (e.hs=hs) && decide (e.x=(x:Int))) with
  | none=>exact absurd he h2
  | some e=>
    have e1:=List.find?_some he
    simp only [Bool.and_eq_true,decide_eq_true_eq] at e1
    obtain ⟨⟨e2,e3⟩,e4⟩:=e1
    have hm:=List.mem_of_find?_eq_some he
    refine ⟨?_,?_⟩
    · have:=Way.fact (key e hm)
      rw [e2,e3,e4] at this
      rw [this,wayW,he]
    · cases hf:ways.find? (fun e=>decide (e.n=n) && decide (e.x=(x:Int))) with
      | none=>
        have:=List.find?_eq_none.1 hf e hm
        simp [e2,e4] at this
      | some f=>
        have f1:=List.find?_some hf
        simp only [Bool.and_eq_true,decide_eq_true_eq] at f1
        have hg:=key f (List.mem_of_find?_eq_some hf)
        rw [DN] at hg
        unfold Way.ok at hg
        simp only [Bool.and_eq_true,decide_eq_true_eq] at hg
        have h9:=hg.1.1.1.1.1.1
        rw [f1.1,f1.2] at h9
        rw [Dx,hf]
        exact h9
section
variable {n s:Nat}{hs:List Int}{x:Int}
theorem Gl (hn:1≤n∧n≤3) (h2:s≤2) (hr:rises hs ((n:Int)+s-1)=true) (hl:hs.length=n) (hx:0≤x∧x<n+2):(betw n hs x 0).length=n:=by
  obtain ⟨x,rfl⟩:∃ k:Nat,x=k:=⟨x.toNat,ω⟩
  have ht:=Ex hn (AZ hn h2 hr hl)
  have hx':x<n+2:=by omega
  have h1:=List.all_eq_true.1 ht x (by simpa using hx')
  simp only [Bool.and_eq_true,decide_eq_true_eq] at h1
  rw [(wd ht hx').1]
  exact h1.1.1.2
theorem fz {f g:Nat→UInt8}:∀ {k:Nat},(∀ i,i<k→f i=g i)→xorN f k=xorN g k
  | 0,_=>rfl
  | k+1,h=>by rw [xorN,xorN,fz fun i hi=>h i ω,h k ω]
theorem ET (hn:1≤n∧n≤3) (h2:s≤2) (hr:rises hs ((n:Int)+s-1)=true) (hl:hs.length=n) (hx:0≤x∧x<n+2) {t:Nat}(ht:t<n) :
    xorN (fun j=>bW ((ke n (hs.getD j 0) 0).getD t 0) ((betw n hs x 0).getD j 0)) n=(ke n x 0).getD t 0:=by
  obtain ⟨x,rfl⟩:∃ k:Nat,x=k:=⟨x.toNat,ω⟩
  have hk:=Ex hn (AZ hn h2 hr hl)
  have hx':x<n+2:=by omega
  have h1:=List.all_eq_true.1 hk x (by simpa using hx')
  simp only [Bool.and_eq_true,decide_eq_true_eq] at h1
  have h3:=List.all_eq_true.1 h1.1.2 t (by simpa using ht)
  simp only [decide_eq_true_eq] at h3
  rw [(wd hk hx').1,(wd hk hx').2,← h3]
  refine fz fun j hj=>?_
  have hb:=uY hr j ω
  rw [← (wd hk (x:=(hs.getD j 0).toNat) ω).2,Int.toNat_of_nonneg hb.1]
end
theorem AW:∀ {a b:List UInt8},a.length=b.length→∀ p:Nat,(eO a b).getD p 0=a.getD p 0 ^^^ b.getD p 0
  | [],[],_,p=>by simp [eO]
  | x::a,y::b,h,0=>by simp [eO]
  | x::a,y::b,h,p+1=>by
    have:=AW (a:=a) (b:=b) (by simpa using h) p
    simpa [eO] using this
theorem CN {a:List UInt8}{c:UInt8}(p:Nat):(bV a c).getD p 0=bW (a.getD p 0) c:=by
  unfold bV
  by_cases hp:p<a.length
  · simp [List.getD,hp]
  · have:bW 0 c=0:=by exact fb c
    simp [List.getD,hp,this]
theorem vW {ls:List (List UInt8)}{cs:List UInt8}{n:Nat}(h:∀ i,i<ls.length→(ls.getD i []).length=n) (p:Nat):∀ {k:Nat},k≤ls.length→(i9 ls cs n k).getD p 0=xorN (fun j=>bW ((ls.getD j []).getD p 0) (cs.getD j 0)) k
  | 0,_=>by
    show (List.replicate n (0:UInt8)).getD p 0=0
    by_cases hp:p<n<;>simp [List.getD,hp]
  | k+1,hk=>by
    rw [i9,AW (by rw [ex,iH h ω,h k ω]),CN,vW h p ω]
    rfl
theorem oU {f:Nat→UInt8}{c:UInt8}:∀ {k:Nat},bW (xorN f k) c=xorN (fun i=>bW (f i) c) k
  | 0=>by show bW 0 c=0; exact fb c
  | k+1=>by rw [xorN,fN,oU]; rfl
theorem zR {f:Nat→UInt8}{c:UInt8}{k:Nat}:bW c (xorN f k)=xorN (fun i=>bW c (f i)) k:=by
  rw [oZ,oU]
  exact fz fun i _=>oZ _ _
theorem wT {f g:Nat→UInt8}:∀ {k:Nat},xorN (fun i=>f i ^^^ g i) k=xorN f k ^^^ xorN g k
  | 0=>by simp [xorN]
  | k+1=>by
    rw [xorN,xorN,xorN,wT,UInt8.xor_assoc,UInt8.xor_assoc]
    congr 1
    rw [← UInt8.xor_assoc,UInt8.xor_comm (xorN g k),UInt8.xor_assoc]
theorem vh:∀ {k:Nat},xorN (fun _=>0) k=0
  | 0=>rfl
  | k+1=>by rw [xorN,vh]; rfl
theorem ux {f:Nat→Nat→UInt8}{m:Nat}:∀ {k:Nat},xorN (fun i=>xorN (fun j=>f i j) m) k=xorN (fun j=>xorN (fun i=>f i j) k) m
  | 0=>by
    show (0:UInt8)=xorN (fun _=>0) m
    rw [vh]
  | k+1=>by
    rw [xorN,ux]
    show _=xorN (fun j=>xorN (fun i=>f i j) k ^^^ f k j) m
    rw [wT]
theorem Eh {a:Nat→UInt8}{b:Nat→Nat→UInt8}{c:Nat→UInt8}{n m:Nat} :
    xorN (fun i=>bW (xorN (fun j=>bW (a j) (b i j)) m) (c i)) n=xorN (fun j=>bW (a j) (xorN (fun i=>bW (b i j) (c i)) n)) m:=by
  rw [fz (g:=fun i=>xorN (fun j=>bW (a j) (bW (b i j) (c i))) m) fun i _=>?_,ux]
  · exact fz fun j _=>zR.symm
  · rw [oU]
    exact fz fun j _=>qg _ _ _
section
variable {n s:Nat}{xs:List (List UInt8)}
theorem y8 (hl:xs.length=n+s):rises (bt xs n xs.length) ((n:Int)+s-1)=true:=by
  have:=sB (xs:=xs) (n:=n) (k:=xs.length)
  rwa [show ((xs.length:Nat):Int)-1=(n:Int)+s-1 by omega] at this
theorem Dq (h:gb n xs=true):(bt xs n xs.length).length=n:=by
  have:=pL (xs:=xs) (n:=n) (k:=xs.length)
  simp only [gb,decide_eq_true_eq] at h
  omega
end
end Go.Wk
namespace Go.Wk
theorem GN {n xs} (h:gb n xs=true):¬ (bt xs n xs.length).length<n:=by
  simp only [gb,decide_eq_true_eq] at h; omega
theorem GR {n xs} (h:gb n xs=true):sn n xs=mM n xs n:=(AL (GN h)).2.1
end Go.Wk
namespace Go.Wk
open Rp (sz own)
theorem Sep.nilF {M:Nat→Prop}{w0 w:World}{Δ F:List Rsc}{β:Type}[Rp β] (h:Sep M w0 Δ F w):Sep M w0 Δ (F++[Wk.seen false [.slice none 0 0] ([]:List β) []]) w:=
  h.look (r:=Wk.seen false [.slice none 0 0] ([]:List β) []) (.inr (.inl ⟨rfl,rfl,rfl⟩)) (by simp [Wk.seen])
def nils (ys:List (List UInt8)) (k:Nat):Nat:=gZ (fun i=>if (ys.getD i []).length=0 then 1 else 0) k
theorem qH {ys:List (List UInt8)}{n:Nat}:∀ k,(bt ys n k).length<n→(bt ys n k).length+nils ys k=k
  | 0,_=>rfl
  | k+1,h=>by
    have e:nils ys (k+1)=nils ys k+if (ys.getD k []).length=0 then 1 else 0:=rfl
    by_cases hc:0<(ys.getD k []).length∧(bt ys n k).length<n
    · rw [(ie hc).1,List.length_append] at h ⊢
      have ih:=qH (ys:=ys) (n:=n) k hc.2
      rw [e,if_neg ω]
      simp only [List.length_cons,List.length_nil] at h ⊢
      omega
    · rw [(iS hc).1] at h ⊢
      have ih:=qH (ys:=ys) (n:=n) k h
      rw [e,if_pos ω]
      omega
theorem qO {xs:List UInt8}{m:Nat}:∀ {k:Nat},(chunks xs m k).flatten=xs.take (k*m)
  | 0=>by simp [chunks]
  | k+1=>by
    rw [← xn,List.flatten_append,qO,Nat.succ_mul,List.take_add]
    simp [cut]
section
variable {n s:Nat}{D:List UInt8}
def Some_ (n s:Nat) (D:List UInt8) (ys:List (List UInt8)):Prop:=ys.length=n+s∧∀ i,i<n+s→ys.getD i []=encK D n i∨ys.getD i []=[]
theorem sO (h:D.length=n*4) {k:Int}:(encK D n k).length=4:=by rw [encK,iH (iP h) (Nat.le_refl _)]
theorem BG {ys:List (List UInt8)}(hl:D.length=n*4) (h:Some_ n s D ys):Part ys:=fun i hi=>by
  rcases h.2 i (by rw [← h.1]; exact hi) with e | e
  · rw [e,sO hl]; exact .inl rfl
  · rw [e]; exact .inr rfl
theorem Fn {ys:List (List UInt8)}(h:Some_ n s D ys) (hn:nils ys (n+s)≤s):gb n ys=true:=by
  rw [gb,decide_eq_true_eq]
  have:=qH (ys:=ys) (n:=n) ys.length
  rw [h.1] at this ⊢
  omega
theorem Fy {ys:List (List UInt8)}(hn:1≤n∧n≤3) (h2:s≤2) (hl:D.length=n*4) (h:Some_ n s D ys) (hok:gb n ys=true) {p:Nat}(hp:p<n+s):qU n ys p=encK D n p:=by
  have h4:=BG hl h
  have hh:=Dq hok
  have hr:=y8 (n:=n) (s:=s) h.1
  have hth:=iL (xs:=ys) (n:=n) (k:=ys.length)
  have ht4:=yI (n:=n) h4
  refine fw (d:=0) (by rw [uI h4,sO hl]) fun q hq=>?_
  rw [qU,vW ht4 q (Nat.le_refl _),hth,hh,encK,vW (iP hl) q (Nat.le_refl _),gx]
  rw [fz (g:=fun j=>bW (xorN (fun t=>bW (((chunks D 4 n).getD t []).getD q 0) ((ke n ((bt ys n ys.length).getD j 0) 0).getD t 0)) n) ((betw n (bt ys n ys.length) (p:Nat) 0).getD j 0)) fun j hj=>?_,Eh]
  · exact fz fun t ht=>by rw [ET hn h2 hr hh ω ht]
  · have ha:=lV (xs:=ys) (n:=n) (k:=ys.length) j ω
    rw [ha.2.2.2.2]
    rcases h.2 ((bt ys n ys.length).getD j 0).toNat (by have:=h.1; omega) with e | e
    · rw [e,encK,Int.toNat_of_nonneg ha.1,vW (iP hl) q (Nat.le_refl _),gx]
    · have:=ha.2.2.2.1
      rw [e] at this
      exact absurd this σ
theorem FW {ys:List (List UInt8)}(hn:1≤n∧n≤3) (h2:s≤2) (hl:D.length=n*4) (h:Some_ n s D ys) (hok:gb n ys=true):mM n ys n=D:=by
  have e:mM n ys n=(chunks D 4 n).flatten:=by
    rw [mM,chunks]
    congr 1
    refine List.map_congr_left fun i hi=>?_
    have hi:i<n:=by simpa using hi
    rw [Fy hn h2 hl h hok ω,Ep hl hi,oH hi]
  rw [e,qO,List.take_of_length_le ω]
end
end Go.Wk

namespace Go.Wk
open Rp (sz own)
section
variable {M:Nat→Prop}{w0 w w':World}{Δ F:List Rsc}
theorem Sep.lookS {α β:Type}[Rp α] [Rp β] (h:Sep M w0 Δ F w) (e:Ext No w w') (j:Nat) {s cs fp0} {y:β}(hj:F[j]? = some (Wk.seen s cs y fp0)) {v:List Value}{x:α}{fp} (o:own false w' v x fp) (hfp:∀ b∈fp,b∈fp0∨w.heap.size≤b) :
    Sep M w0 Δ (F++[Wk.seen false v x fp]) w':=
  (h.to e).look (r:=Wk.seen false v x fp) o fun b hb hm=>(hfp b hb).elim (fun hb=>h.ap _ (List.mem_of_getElem? hj) b hb hm) fun hb=>by have:=h.lt b hm; omega
end
section
variable {P:Program}{n:Nat}{c:Code}{Q:Post}{L:Env}{w w0:World}{M:Nat→Prop}{Δ F:List Rsc}
theorem FB {β:Type}[Rp β] {γ:Type}{v0:Value}{fp0:List Nat}(f:γ→List (List β)) (g0:γ) (H:Sep M w0 Δ F w) (i:Nat) (hi:Δ[i]? = some (mine [v0] ([]:List View) fp0)) (j:Nat) (hj:F[j]? = some (rows ([]:List View) ([]:List (List β)) [])) (hf:f g0=[]) (t:Nat) (ht:look L t=some v0)
  (G:List Nat→Prop) (hG:G []) (E2:Env) (h2:sub L E2) (E:γ→Env) (I:γ→Prop) (μ:γ→Nat) (hs:sub L (E g0)) (h0:I g0)
  (round:∀ g v fp vs gg w,Sep M w0 (Δ.set i (mine [v] vs fp)) (F.set j (rows vs (f g) gg)) w→vs.length=(f g).length→G gg→I g →
   W P n c (again (fun x:γ × Value × List Nat × List View × List Nat=>(t,x.2.1)::(E x.1++E2)) (fun x w'=>Sep M w0 (Δ.set i (mine [x.2.1] x.2.2.2.1 x.2.2.1)) (F.set j (rows x.2.2.2.1 (f x.1) x.2.2.2.2)) w'∧x.2.2.2.1.length=(f x.1).length∧G x.2.2.2.2∧I x.1) (fun x=>μ x.1) (g,v,fp,vs,gg) Q) ((t,v)::(E g++E2)) w):W P n (.loop c) Q L w:=
 bP (fun x:γ × Value × List Nat × List View × List Nat=>(t,x.2.1)::(E x.1++E2)) (fun x w'=>Sep M w0 (Δ.set i (mine [x.2.1] x.2.2.2.1 x.2.2.1)) (F.set j (rows x.2.2.2.1 (f x.1) x.2.2.2.2)) w'∧x.2.2.2.1.length=(f x.1).length∧G x.2.2.2.2∧I x.1) (fun x=>μ x.1) (g0,v0,fp0,[],[])
  ⟨ht,iE hs h2⟩ ⟨by rw [lu hi,hf,lu hj]; exact H,by simp [hf],hG,h0⟩ fun x w h=>round x.1 x.2.1 x.2.2.1 x.2.2.2.1 x.2.2.2.2 w h.1 h.2.1 h.2.2.1 h.2.2.2
end
def blkAt (G:List Drive) (row i:Nat):List UInt8:=if (G.getD i default).Wiped=true then [] else ((G.getD i default).Blocks.getD row default).Bytes
def ia (G:List Drive) (row k:Nat):List (List UInt8):=(List.range k).map (blkAt G row)
def je (z:Wld) (g row:Int):List (List UInt8):=ia (z.Groups.getD g.toNat []) row.toNat (z.Groups.getD g.toNat []).length
section
variable {G:List Drive}{row k:Nat}
theorem pV:(ia G row k).length=k:=by simp [ia]
theorem Cq (h:(G.getD k default).Wiped=true):ia G row (k+1)=ia G row k++[[]]:=by simp only [ia,List.range_succ,List.map_append,List.map_cons,List.map_nil]; rw [blkAt,if_pos h]
theorem DS (h:(G.getD k default).Wiped=false):ia G row (k+1)=ia G row k++[((G.getD k default).Blocks.getD row default).Bytes]:=by
  simp only [ia,List.range_succ,List.map_append,List.map_cons,List.map_nil]; rw [blkAt,if_neg (by rw [h]; simp)]
theorem pD {i:Nat}(h:i<k):(ia G row k).getD i []=blkAt G row i:=by simp [ia,List.getD,h]
def rm (xs:List (List UInt8)):Nat→Nat
  | 0=>0
  | k+1=>if 0<(xs.getD k []).length then rm xs k+1 else rm xs k
theorem wP {xs:List (List UInt8)}{n:Nat}:∀ k,(bt xs n k).length=min n (rm xs k)
  | 0=>by simp [bt,rm]
  | k+1=>by
    have ih:=wP (xs:=xs) (n:=n) k
    rw [rm]
    by_cases h:0<(xs.getD k []).length
    · rw [if_pos h]
      by_cases h2:(bt xs n k).length<n
      · rw [(ie ⟨h,h2⟩).1,List.length_append]; simp; omega
      · rw [(iS ω).1]; omega
    · rw [if_neg h,(iS ω).1]; exact ih
theorem uW {m:Nat}(h:∀ i,i<m→(G.getD i default).Wiped=false→0<((G.getD i default).Blocks.getD row default).Bytes.length):∀ k,k≤m→rm (ia G row m) k+(wipedTo G k).length=k
  | 0,_=>rfl
  | k+1,hk=>by
    have ih:=uW h k ω
    rw [rm,pD ω]
    by_cases hw:(G.getD k default).Wiped=true
    · rw [kY hw,blkAt,if_pos hw,if_neg σ,List.length_append]; simp; omega
    · have hw':(G.getD k default).Wiped=false:=by simpa using hw
      rw [lm hw',blkAt,if_neg hw,if_pos (h k ω hw')]; omega
end
section
variable {z:Wld}{g row:Int}
theorem x0 (hs:z.Shape.ok=true) (hG:aN z=true) (hg:ins g 0 (z.Shape.Groups+z.Shape.Column-1)=true) (hr:ins row 0 (z.Shape.Rows-1)=true) :
    (je z g row).length=z.Shape.Data.toNat+z.Shape.Spare.toNat∧Part (je z g row)∧gb z.Shape.Data.toNat (je z g row) = !cQ z g:=by
  have hsd:=aG hs
  have hgg:=cw hG
  have hgi:=aJ.1 hg
  have hri:=aJ.1 hr
  obtain ⟨hl,hd⟩:=hgg.2 g.toNat ω
  have hb:∀ i,i<(z.Groups.getD g.toNat []).length→(((z.Groups.getD g.toNat []).getD i default).Blocks.getD row.toNat default).Bytes.length=4:=fun i hi=>by
    obtain ⟨h1,h2⟩:=hd i hi
    exact (eU (h2 row.toNat ω)).2.2
  have hlen:(je z g row).length=(z.Groups.getD g.toNat []).length:=pV
  refine ⟨ω,fun i hi=>?_,?_⟩
  · rw [hlen] at hi
    unfold je
    rw [pD hi,blkAt]
    split
    · exact .inr rfl
    · exact .inl (hb i hi)
  · have hc:=uW (G:=z.Groups.getD g.toNat []) (row:=row.toNat) (m:=(z.Groups.getD g.toNat []).length) (fun i hi _=>by rw [hb i hi]; omega) (z.Groups.getD g.toNat []).length (Nat.le_refl _)
    have hh:=wP (xs:=je z g row) (n:=z.Shape.Data.toNat) (je z g row).length
    rw [hlen] at hh
    unfold gb cQ aM
    rw [hlen,hh]
    change rm (je z g row) _+_=_ at hc
    rw [← decide_not]
    exact decide_eq_decide.2 ω
def jb (z:Wld) (g row:Int):List UInt8:=sn z.Shape.Data.toNat (je z g row)
def dU (z:Wld) (g row:Int):BytesResult:=if dp z g row≠0 then ⟨dp z g row,[]⟩ else if cQ z g=true then ⟨10,[]⟩ else ⟨0,jb z g row⟩
theorem pB (h:dp z g row≠0):dU z g row=⟨dp z g row,[]⟩:=by rw [dU,if_pos h]
theorem xz (h:upF z≠0):dU z g row=⟨upF z,[]⟩:=by
  have e:dp z g row=upF z:=by rw [dp,if_pos h]
  rw [pB (by rw [e]; exact h),e]
theorem wt (h:upF z=0) (h2:p5 z g row≠0):dU z g row=⟨p5 z g row,[]⟩:=by
  have e:dp z g row=p5 z g row:=by rw [dp,if_neg ω]
  rw [pB (by rw [e]; exact h2),e]
theorem nO (h:dp z g row=0) (h2:cQ z g=true):dU z g row=⟨10,[]⟩:=by rw [dU,if_neg ω,if_pos h2]
theorem mo (h:dp z g row=0) (h2:cQ z g=false):dU z g row=⟨0,jb z g row⟩:=by rw [dU,if_neg ω,if_neg (by rw [h2]; simp)]
end
end Go.Wk
namespace Go.Wk
section
variable {z:Wld}{g row most:Int}{xs:List UInt8}
def jz (z:Wld) (g row:Int) (xs:List UInt8) (most:Int):Int:=
  if upF z≠0 then upF z else if ins g 0 most=true∧ins row 0 (z.Shape.Rows-1)=true then
    if (xs.length:Int)=z.Shape.Data*4 then if g∈z.On then if cQ z g=true then 10 else 0 else 8 else 1 else 3
theorem rL (h:upF z≠0):jz z g row xs most=upF z:=by rw [jz,if_pos h]
theorem x8 (h:upF z=0) (h2:¬ (ins g 0 most=true∧ins row 0 (z.Shape.Rows-1)=true)):jz z g row xs most=3:=by rw [jz,if_neg ω,if_neg h2]
theorem wN (h:upF z=0) (h2:ins g 0 most=true∧ins row 0 (z.Shape.Rows-1)=true) (h3:(xs.length:Int)≠z.Shape.Data*4):jz z g row xs most=1:=by rw [jz,if_neg ω,if_pos h2,if_neg h3]
theorem Br (h:upF z=0) (h2:ins g 0 most=true∧ins row 0 (z.Shape.Rows-1)=true) (h3:(xs.length:Int)=z.Shape.Data*4):jz z g row xs most=if g∈z.On then if cQ z g=true then 10 else 0 else 8:=by rw [jz,if_neg ω,if_pos h2,if_pos h3]
theorem AG (h:jz z g row xs most=0):upF z=0∧ins g 0 most=true∧ins row 0 (z.Shape.Rows-1)=true∧(xs.length:Int)=z.Shape.Data*4∧g∈z.On∧cQ z g=false:=by
  unfold jz at h
  split at h
  · omega
  · split at h
    · next h2=>
      split at h
      · split at h
        · split at h
          · omega
          · next h5=>exact ⟨ω,h2.1,h2.2,η,η,by simpa using h5⟩
        · omega
      · omega
    · omega
theorem rM:0≤jz z g row xs most∧jz z g row xs most≤10:=by
  have:=qG (z:=z)
  unfold jz
  repeat' split
  all_goals omega
def liveF (z:Wld) (g:Int):Int:=if groupF z g=0 then if cQ z g=true then 10 else 0 else groupF z g
theorem lg (hs:z.Shape.ok=true) (hG:aN z=true) (hg:ins g 0 (z.Shape.Groups+z.Shape.Column-1)=true) (hr:ins row 0 (z.Shape.Rows-1)=true) (hd:cQ z g=false):((jb z g row).length:Int)=z.Shape.Data*4:=by
  have sbd:=aG hs
  obtain ⟨_,hp,hd2⟩:=x0 hs hG hg hr
  have hk:gb z.Shape.Data.toNat (je z g row)=true:=by rw [hd2,hd]; rfl
  unfold jb sn
  rw [if_pos hk,qd hp]
  omega
end
end Go.Wk
namespace Go.Wk
section
variable {z:Wld}{g:Int}{i d:Nat}
def AD (z:Wld) (g:Int) (i:Nat):List (List UInt8):=ki z.Shape.Data.toNat (z.Shape.Data.toNat+z.Shape.Spare.toNat) (jb z g i)
def xw (z:Wld) (g:Int) (i d:Nat):Bool:=
  ((z.Groups.getD g.toNat []).getD d default).Wiped || decide ((((z.Groups.getD g.toNat []).getD d default).Blocks.getD i default).Bytes=(AD z g i).getD d [])
def mV (z:Wld) (g:Int):Bool := !cQ z g && decide (∀ i,i<z.Shape.Rows.toNat→∀ d,d<(z.Groups.getD g.toNat []).length→xw z g i d=true)
theorem x5 (h:cQ z g=true):mV z g=false:=by rw [mV,h]; rfl
theorem Cd (hi:i<z.Shape.Rows.toNat) (hd:d<(z.Groups.getD g.toNat []).length) (h:xw z g i d=false):mV z g=false:=by
  rw [mV,decide_eq_false (fun a=>by have:=a i hi d hd; rw [h] at this; cases this)]
  simp
theorem tH (h0:cQ z g=false) (h:∀ i,i<z.Shape.Rows.toNat→∀ d,d<(z.Groups.getD g.toNat []).length→xw z g i d=true):mV z g=true:=by
  rw [mV,h0,decide_eq_true h]; rfl
theorem Dh (hd:d<(z.Groups.getD g.toNat []).length) (h4:((z.Groups.getD g.toNat []).getD d default).Wiped=false→(((z.Groups.getD g.toNat []).getD d default).Blocks.getD i default).Bytes.length=4) :
    xw z g i d = !(decide (0<((je z g i).getD d []).length) && !decide ((je z g i).getD d []=(AD z g i).getD d [])):=by
  unfold xw je
  rw [pD hd,blkAt,Int.toNat_natCast]
  cases hw:((z.Groups.getD g.toNat []).getD d default).Wiped
  · have h0:=h4 hw
    generalize (((z.Groups.getD g.toNat []).getD d default).Blocks.getD i default).Bytes=B at h0 ⊢
    have h1:B≠[]:=by intro e; rw [e] at h0; cases h0
    simp [h1]
  · simp
def tY (z:Wld) (g:Int):Bool:=decide (cz z=0) && ins g 0 (z.Shape.Groups+z.Shape.Column-1) && mV z g
end
end Go.Wk
namespace Go.Wk
open Rp (sz own)
section
variable {M:Nat→Prop}{w0 w:World}{Δ F:List Rsc}
theorem Sep.packB (h:Sep M w0 Δ F w) (j:Nat) {a:Option Addr}{n c:Nat}{bs:List UInt8}{f:List Nat}(q:Int) (hj:Δ[j]? = some (Wk.mine [.slice a n c] bs f)) (hq:I64ok q) :
    Sep M w0 (Δ.set j (Wk.mine [.int .i64 q,.slice a n c] (⟨q,bs⟩:Block) f)) F w:=by
  have ho:=h.mine j hj
  obtain rfl:=fD ho
  have hn:f.Nodup:=h.nodup1 hj
  exact h.set hj (q:=Wk.mine [.int .i64 q,.slice a bs.length c] (⟨q,bs⟩:Block) f) Ext.refl (Block.own_mk (x:=⟨q,bs⟩) hq ho) hn (fun b hb => .inl hb)
end
def aV (z:Wld) (g i:Nat):Drive:=(z.Groups.getD g []).getD i default
def jx (g i row:Nat) (b:Block) (z:Wld):Wld:=
  ⟨z.Shape,z.Groups.set g ((z.Groups.getD g []).set i ⟨(aV z g i).Wiped,(aV z g i).Blocks.set row b⟩),z.On,z.Tapes,z.Writes,z.Stop,z.Down⟩
def dT (g i row:Nat) (b:Block) (z:Wld):Wld:=kD z (jx g i row b z)
section
variable {z:Wld}{g i row:Nat}{b:Block}
theorem kz (h:z.Ok):(jx g i row b z).Ok:=h
end
end Go.Wk
namespace Go.Wk
open Go.Proofs Rp Go.Proofs.Tryz
set_option maxRecDepth 10000
theorem jn {w:World}{z:Wld}{zb i b1 b2 b3 b4 b5:Nat}{g row:Int}{fp xF:List Nat}{x:Block}{xA:Option Addr}{xC:Nat}(o:OwnW w zb 31 z fp) (nd:fp.Nodup) (h1:w.heap[b1]? = some (.cells [.int .i64 x.Stamp,.slice xA x.Bytes.length xC].toArray 116)) (d1:b1 ∉ fp) (h2:w.heap[b2]? = some (.cells [.pointer (some ⟨zb,0,none⟩)].toArray 86)) (d2:b2 ∉ fp) (h3:w.heap[b3]? = some (.cells [.int .i64 g].toArray 2)) (d3:b3 ∉ fp) (h4:w.heap[b4]? = some (.cells [.int .i64 (i:Nat)].toArray 2)) (d4:b4 ∉ fp) (h5:w.heap[b5]? = some (.cells [.int .i64 row].toArray 2)) (d5:b5 ∉ fp) (xO:own false w [.slice xA x.Bytes.length xC] x.Bytes xF) (xD:∀ b∈xF,b ∉ fp) (xK:x.Ok) (hg:0≤g∧g.toNat<z.Groups.length) (hi:i<(z.Groups.getD g.toNat []).length) (hr:0≤row∧row.toNat<((z.Groups.getD g.toNat []).getD i default).Blocks.length) (hl:x.Bytes.length≤1000000):Ret Tryz.prog 204 #[.pointer (some ⟨b1,0,none⟩),.pointer (some ⟨b2,0,none⟩),.pointer (some ⟨b3,0,none⟩),.pointer (some ⟨b4,0,none⟩),.pointer (some ⟨b5,0,none⟩)] w fun v w'=>(MutW w w' fp zb 31 (jx g.toNat i row.toNat x z)):=by
 have xLe:=oL xO;refine aH func204 Z ntmps204 Z (fun Q hQ hN=>?_);have H0:=((((((Sep.beginW o nd).boxF h1 d1).boxF h2 d2).boxF h3 d3).boxF h4 d4).boxF h5 d5).seeF xO xD
 try dsimp only[lNA,lCA,lSZ,lSS] at H0
 obtain ⟨wA1,wC1,wA2,wC2,wA3,wC3,wf1,wf2,wf3,wok1,H1⟩:=H0.openW 0 Z
 try dsimp only[lNA,lCA,lSZ,lSS] at H1
 have wok1U:=wok1;unfold Wld.Ok Shape.Ok I64ok at wok1U;have wL1:=oL (H1.mine 2 Z);have wL2:=oL (H1.mine 3 Z);have wL3:=oL (H1.mine 4 Z);obtain ⟨eb1,eo1,eT1,eF1,eG1,ea1,ek1,eg1,ee1,eH1⟩:=H1.focusL 2 Z g.toNat ω
 try dsimp only[lNA,lCA,lSZ,lSS] at eH1
 obtain ⟨eb2,eo2,eT2,eF2,eG2,ea2,ek2,eg2,ee2,eK1,eH2⟩:=Drive.focus eH1 5 Z i ω;have eK1U:=eK1;unfold Drive.Ok at eK1U
 try unfold I64ok at eK1U
 try unfold maxLen at eK1U
 try dsimp only[lNA,lCA,lSZ,lSS] at eH2
 obtain ⟨eb3,eo3,ee3⟩:=ic (eH2.mine 7 Z) row.toNat ω;refine cb (S:=eH2.S2 2 5) (oQ [1,3,5,7,9,11,15,23,25,27,29,31,2028,12,17,19,2010,20,32,35,37,38,32,35,20,37,38,32,35,12,17,19,20,37,38]) κ κ κ Z (fun _=>show eH2.S2 2 5 _ from Ext.refl.drawn _) (fun q1=>?_);have H2:=eH2.drawn q1;refine dV Z Z (fun zw hx=>aj xN Z Z (al (eH2.s2FBox hx 1 Z Z Z) Z)) (dV Z Z (fun zw hx=>fH Z) (dV Z Z (fun zw hx=>ag be Z kh Z Z) (dV Z Z (fun zw hx=>aj fW Z Z (al (eH2.s2Box hx 0 Z Z Z Z Z) Z)) (dV Z Z (fun zw hx=>aj tu2 Z Z (al (eH2.s2FBox hx 2 Z Z Z) Z)) (dV Z Z (fun zw hx=>aB fW ud Z Z ee1 g.toNat ω ω) (dV Z Z (fun zw hx=>aj tu2 Z Z (al (eH2.s2FBox hx 3 Z Z Z) Z)) (dV Z Z (fun zw hx=>aj tu2 Z Z (al (eH2.s2FBox hx 4 Z Z Z) Z)) (dV Z Z (fun zw hx=>ag jh Z ts2 Z Z) (dV Z Z (fun zw hx=>aj tu2 Z Z (al (eH2.s2FBox hx 0 Z Z Z) Z)) (dV Z Z (fun zw hx=>ag jh Z bf Z Z) (dV Z Z (fun zw hx=>aj aZ Z Z (al (eH2.s2FBox hx 0 Z Z Z) Z)) (dF Z ?_ ?_))))))))))))
 ·refine aW Z ah Z Z (aj fl Z Z (eu (H2.holAt 2 Z) 0 Z)) (dV Z Z (fun zw hx=>aB fl gD Z Z ee2 i ω ω) (dV Z Z (fun zw hx=>ag iz Z rH Z Z) (dF Z ?_ ?_)))
  ·refine aW Z ah Z Z (aj iy Z Z (eu (H2.holAt 5 Z) 1 Z)) (dh Z ah Z Z (aR func62 Z bd Z) (aQ (H2.sees 5 Z) ω) (fun hS _ _ r _=>eH2.s2Call hS r.1) (fun v1 w1 r1=>?_));obtain ⟨e1,r1⟩:=r1;obtain ⟨fp1,H3⟩:=H2.res e1 r1;obtain ⟨a1,k1,q2⟩:=an (H3.mine 8 Z);cases q2;refine dV Z Z (fun zw hx=>aP gz Z Z) (dV Z Z (fun zw hx=>aB iy gc Z Z ee3 row.toNat ω ω) ?_);have H5:=H3.packB 8 x.Stamp Z xK
   try dsimp only[lNA,lCA,lSZ,lSS] at H5
   refine pv Z ah gc H5 7 8 Z Z Z row.toNat ω Z ee3 Z (fun w2 fp2 H4=>?_)
   try dsimp only[lNA,lCA,lSZ,lSS] at H4
   refine bb (hN _ _ (jo results204 ?_));obtain ⟨fp3,H6⟩:=Drive.fill H4 5 7 Z Z Z trivial
   try dsimp only[lNA,lCA,lSZ,lSS] at H6
   obtain ⟨fp4,H7⟩:=H6.fill 2 5 Z Z Z
   try dsimp only[lNA,lCA,lSZ,lSS] at H7
   obtain ⟨fp5,H8⟩:=H7.closeW 0 2 3 4 (jx g.toNat i row.toNat x z) Z Z Z Z Z Z Z Z Z Z (kz wok1)
   try dsimp only[lNA,lCA,lSZ,lSS] at H8
   exact H8.doneW
  ·refine dh Z ah Z Z (aR func62 Z bd Z) (aQ (H2.sees 5 Z) ω) (fun hS _ _ r _=>eH2.s2Call hS r.1) (fun v2 w3 r2=>?_);obtain ⟨e3,r2⟩:=r2;obtain ⟨fp6,H9⟩:=H2.res e3 r2;obtain ⟨a2,k2,q3⟩:=an (H9.mine 8 Z);cases q3;refine dV Z Z (fun zw hx=>aP gz Z Z) (aW Z ah Z Z (aj iy Z Z (eu (H9.holAt 5 Z) 1 Z)) (dV Z Z (fun zw hx=>aB iy gc Z Z ee3 row.toNat ω ω) ?_));have H11:=H9.packB 8 x.Stamp Z xK
   try dsimp only[lNA,lCA,lSZ,lSS] at H11
   refine pv Z ah gc H11 7 8 Z Z Z row.toNat ω Z ee3 Z (fun w4 fp7 H10=>?_)
   try dsimp only[lNA,lCA,lSZ,lSS] at H10
   refine bb (hN _ _ (jo results204 ?_));obtain ⟨fp8,H12⟩:=Drive.fill H10 5 7 Z Z Z trivial
   try dsimp only[lNA,lCA,lSZ,lSS] at H12
   obtain ⟨fp9,H13⟩:=H12.fill 2 5 Z Z Z
   try dsimp only[lNA,lCA,lSZ,lSS] at H13
   obtain ⟨fp10,H14⟩:=H13.closeW 0 2 3 4 (jx g.toNat i row.toNat x z) Z Z Z Z Z Z Z Z Z Z (kz wok1)
   try dsimp only[lNA,lCA,lSZ,lSS] at H14
   exact H14.doneW
 ·refine dh Z ah Z Z (aR func62 Z bd Z) (aQ (H2.sees 5 Z) ω) (fun hS _ _ r _=>eH2.s2Call hS r.1) (fun v3 w5 r3=>?_);obtain ⟨e5,r3⟩:=r3;obtain ⟨fp11,H15⟩:=H2.res e5 r3;obtain ⟨a3,k3,q4⟩:=an (H15.mine 8 Z);cases q4;refine dV Z Z (fun zw hx=>aP gz Z Z) (aW Z ah Z Z (aj fl Z Z (eu (H15.holAt 2 Z) 0 Z)) (dV Z Z (fun zw hx=>aB fl gD Z Z ee2 i ω ω) (dV Z Z (fun zw hx=>ag iz Z rH Z Z) (aW Z ah Z Z (aj iy Z Z (eu (H15.holAt 5 Z) 1 Z)) (dV Z Z (fun zw hx=>aB iy gc Z Z ee3 row.toNat ω ω) ?_)))));have H17:=H15.packB 8 x.Stamp Z xK
  try dsimp only[lNA,lCA,lSZ,lSS] at H17
  refine pv Z ah gc H17 7 8 Z Z Z row.toNat ω Z ee3 Z (fun w6 fp12 H16=>?_)
  try dsimp only[lNA,lCA,lSZ,lSS] at H16
  refine bb (hN _ _ (jo results204 ?_));obtain ⟨fp13,H18⟩:=Drive.fill H16 5 7 Z Z Z trivial
  try dsimp only[lNA,lCA,lSZ,lSS] at H18
  obtain ⟨fp14,H19⟩:=H18.fill 2 5 Z Z Z
  try dsimp only[lNA,lCA,lSZ,lSS] at H19
  obtain ⟨fp15,H20⟩:=H19.closeW 0 2 3 4 (jx g.toNat i row.toNat x z) Z Z Z Z Z Z Z Z Z Z (kz wok1)
  try dsimp only[lNA,lCA,lSZ,lSS] at H20
  exact H20.doneW
theorem dS {w:World}{z:Wld}{zb i:Nat}{fp:List Nat}{g row:Int}{x:Block}{xA1:Option Addr}{xC1:Nat}{xF1:List Nat}(o:OwnW w zb 31 z fp) (nd:fp.Nodup) (xK:x.Ok) (xO1:own false w [.slice xA1 x.Bytes.length xC1] x.Bytes xF1) (xD1:∀ b∈xF1,b ∉ fp) (hg:0≤g∧g.toNat<z.Groups.length) (hi:i<(z.Groups.getD g.toNat []).length) (hr:0≤row∧row.toNat<((z.Groups.getD g.toNat []).getD i default).Blocks.length) (hl:x.Bytes.length≤1000000) (hw:z.Writes≤2000000000):Ret Tryz.prog 134 #[.pointer (some ⟨zb,0,none⟩),.int .i64 g,.int .i64 i,.int .i64 row,x.val xA1 xC1] w fun v w'=>(v = .bool (!bv z)∧MutW w w' fp zb 31 (dT g.toNat i row.toNat x z)):=by
 have xK2:=xK;unfold Block.Ok at xK2
 try unfold I64ok at xK2
 try unfold maxLen at xK2
 have xL1:=oL xO1;refine aH func134 Z ntmps134 Z (fun Q hQ hN=>?_);have H0:=(Sep.beginW o nd).seeF (xO1) xD1
 try dsimp only[lNA,lCA,lSZ,lSS] at H0
 refine ac (bu ah Z Z H0 (fun b1 w1 e1 g1 H1=>bu ah Z Z H1 (fun b2 w2 e2 g2 H2=>bu ah Z Z H2 (fun b3 w3 e3 g3 H3=>bu ah Z Z H3 (fun b4 w4 e4 g4 H4=>bu ah Z Z H4 (fun b5 w5 e5 g5 H5=>sA Z Z (aa (ac (sLd xN (H5.box 1 Z) Z (sV Z (kl Z) (sC func203 oo Z (ga (H5.wldAt 0 Z) (H5.nodup1 (i:=0) Z) (y:=jx g.toNat i row.toNat x z) func204 Z zI (fun w1 fp1 o1 n1 s1 e1=>jn o1 n1 (H5.boxFar 0 5 Z Z Z s1 e1).1 (H5.boxFar 0 5 Z Z Z s1 e1).2 (H5.boxFar 0 1 Z Z Z s1 e1).1 (H5.boxFar 0 1 Z Z Z s1 e1).2 (H5.boxFar 0 2 Z Z Z s1 e1).1 (H5.boxFar 0 2 Z Z Z s1 e1).2 (H5.boxFar 0 3 Z Z Z s1 e1).1 (H5.boxFar 0 3 Z Z Z s1 e1).2 (H5.boxFar 0 4 Z Z Z s1 e1).1 (H5.boxFar 0 4 Z Z Z s1 e1).2 (H5.seeFar 0 0 Z Z s1 e1).1 (H5.seeFar 0 0 Z Z s1 e1).2 xK hg hi hr hl) ξ) (fun v1 w6 r1=>?_))))))))))));obtain ⟨rfl,mm1⟩:=r1;obtain ⟨fp1,H6⟩:=H5.mutW 0 Z mm1
 try dsimp only[lNA,lCA,lSZ,lSS] at H6
 refine rA hQ results134 Z ?_;exact ⟨Z,H6.doneW⟩
end Go.Wk
namespace Go.Wk
open Go.Proofs Rp Go.Proofs.Tryz
set_option maxRecDepth 10000
theorem cB {w:World}{ws:List RecV}{A:Option Addr}{n C a b m:Nat}{fp:List Nat}{gf:FuncId}{gL:List Value}{xa xb xm:Int}(o:own true w [.slice A n C] ws fp) (nd:fp.Nodup) (ha:xa=(a:Nat)) (hb:xb=(b:Nat)) (hm:xm=(m:Nat)) (h1:a+m≤b) (h2:b+m≤ws.length) (h0:0<ws.length):Ret Tryz.prog 330 #[.slice A n C,.int .i64 xa,.int .i64 xb,.int .i64 xm,.func (.func gf) #[] gL.toArray] w fun v w'=>(∃ ws',Mut w w' fp [.slice A n C] ws'∧ws'=iA ws a b m):=by
 subst ha;subst hb;subst hm;obtain rfl:=fD o;obtain ⟨hb0,ho0,had0⟩:=ic o 0 ω;subst had0;have wL:=oL o;refine aH func330 Z ntmps330 Z (fun Q hQ hN=>?_);have H0:=Sep.begin o nd;refine ac (sA Z Z (aa (ax (bP (γ:=Nat × List Nat) (fun (i,f)=>[(0,.slice (some ⟨hb0,ho0,none⟩) ws.length C),(1,.int .i64 a),(2,.int .i64 b),(3,.int .i64 m),(10,.int .i64 i)]) (fun (i,f) w'=>Sep (· ∈ fp) w [mine [.slice (some ⟨hb0,ho0,none⟩) ws.length C] (iA ws a b i) f] [] w'∧i≤m) (fun (i,f)=>m-i) (0,fp) ⟨Z,Z,Z,Z,Z,trivial⟩ ⟨H0,ω⟩ (fun (i,f) w1 H1=>?_)))));obtain ⟨H1,hi⟩:=H1;refine ae (ac (sR 3 Z (aa (aC Z (fun c1=>?_) (fun c1=>?_)))))
 ·refine au (ae (ax ?_));have sl:=dZ (l:=ws) (a:=a) (b:=b) (n:=i);obtain ⟨eb1,eo1,ee1,ec1,eK1⟩:=H1.viewAt 0 Z (a+i) ω;obtain ⟨eb2,eo2,ee2,ec2,eK2⟩:=H1.viewAt 0 Z (b+i) ω;refine cb (S:=fun _=>True) (oQ [1,3,5,7,9,11,13,15,17,19,21,23,25,29,31,33,35,37,2012,26,38,41,42,45,46,38,26,41,42,45,46]) κ κ κ Z (fun _=>trivial) (fun q1=>?_);have H2:=H1.drawn q1;refine dR 3 Z (dV Z Z (fun zw hx=>aE Z Z iO) (dR 3 Z (dV Z Z (fun zw hx=>aE Z Z iO) (dR 3 Z (dV Z Z (fun zw hx=>aE Z Z iO) (dV Z Z (fun zw hx=>aB br aO Z Z ee2 (b+i) ω ω) (dR 3 Z (dV Z Z (fun zw hx=>aE Z Z iO) (dV Z Z (fun zw hx=>aB br aO Z Z ee1 (a+i) ω ω) (dF Z ?_ ?_))))))))))
  ·refine aW Z ah Z Z (ak aD Z aO Z Z ec2) (aW Z ah Z Z (ak aD Z aO Z Z ec1) (dV Z Z (fun zw hx=>aB br aO Z Z Z (a+i) ω ω) (eF (u:=((iA ws a b i).getD (b+i) default)) Z ah aO H2 0 Z (a+i) ω Z Z Z eK2 (fun _ _ _ _=>trivial) (fun w2 fp1 H3=>?_))))
   try dsimp only[lNA,lCA,lSZ,lSS] at H3
   refine dV Z Z (fun zw hx=>aB br aO Z Z Z (b+i) ω ω) (eF (u:=((iA ws a b i).getD (a+i) default)) Z ah aO H3 0 Z (b+i) (by rw [List.length_set]; omega) Z Z Z eK1 (fun _ _ _ _=>trivial) (fun w3 fp2 H4=>?_))
   try dsimp only[lNA,lCA,lSZ,lSS] at H4
   refine bb (am (sM Z Z (sV Z (aE Z Z iO) (sA Z Z (aa (⟨(i+1,_),⟨Z,Z,Z,Z,Z,trivial⟩,⟨H4,ω⟩,θ⟩))))))
  ·refine aW Z ah Z Z (ak aD Z aO Z Z ec1) (aW Z ah Z Z (ak aD Z aO Z Z ec2) (dV Z Z (fun zw hx=>aB br aO Z Z Z (a+i) ω ω) (eF (u:=((iA ws a b i).getD (b+i) default)) Z ah aO H2 0 Z (a+i) ω Z Z Z eK2 (fun _ _ _ _=>trivial) (fun w4 fp3 H5=>?_))))
   try dsimp only[lNA,lCA,lSZ,lSS] at H5
   refine dV Z Z (fun zw hx=>aB br aO Z Z Z (b+i) ω ω) (eF (u:=((iA ws a b i).getD (a+i) default)) Z ah aO H5 0 Z (b+i) (by rw [List.length_set]; omega) Z Z Z eK1 (fun _ _ _ _=>trivial) (fun w5 fp4 H6=>?_))
   try dsimp only[lNA,lCA,lSZ,lSS] at H6
   refine bb (am (sM Z Z (sV Z (aE Z Z iO) (sA Z Z (aa (⟨(i+1,_),⟨Z,Z,Z,Z,Z,trivial⟩,⟨H6,ω⟩,θ⟩))))))
 ·refine aT (hN _ _ (jo results330 ?_));obtain rfl:i=m:=by omega
  exact ⟨_,H1.done,Z⟩
theorem gG {w:World}{ws:List RecV}{A:Option Addr}{n C a m b:Nat}{fp:List Nat}{gf:FuncId}{gL:List Value}{xa xm xb:Int}(o:own true w [.slice A n C] ws fp) (nd:fp.Nodup) (ha:xa=(a:Nat)) (hm:xm=(m:Nat)) (hb:xb=(b:Nat)) (h1:a<m) (h2:m<b) (h3:b≤ws.length):Ret Tryz.prog 327 #[.slice A n C,.int .i64 xa,.int .i64 xm,.int .i64 xb,.func (.func gf) #[] gL.toArray] w fun v w'=>(∃ ws',Mut w w' fp [.slice A n C] ws'∧ws'=fZ ws a m b):=by
 subst ha;subst hm;subst hb;obtain rfl:=fD o;obtain ⟨hb0,ho0,had0⟩:=ic o 0 ω;subst had0;have wL:=oL o;refine aH func327 Z ntmps327 Z (fun Q hQ hN=>?_);have H0:=Sep.begin o nd;refine ac (sR 2 Z (sV Z (ci Z Z iO) (sA Z Z (aa (ac (sR 2 Z (sV Z (ci Z Z iO) (sA Z Z (aa (ae (ax (bP (γ:=Nat × Nat × List RecV × List Nat) (fun (i,j,l,f)=>[(0,.slice (some ⟨hb0,ho0,none⟩) ws.length C),(1,.int .i64 a),(2,.int .i64 m),(3,.int .i64 b),(4,.func (.func gf) #[] gL.toArray),(10,.int .i64 i),(11,.int .i64 j)]) (fun (i,j,l,f) w'=>Sep (· ∈ fp) w [mine [.slice (some ⟨hb0,ho0,none⟩) ws.length C] l f] [] w'∧1≤i∧1≤j∧i≤m∧m+j≤ws.length∧l.length=ws.length∧fZ l (m-i) m (m+j)=fZ ws a m b) (fun (i,j,l,f)=>i+j) (m-a,b-m,ws,fp) ⟨Z,Z,Z,Z,Z,eqI ω,eqI ω,trivial⟩ ⟨H0,ω,ω,ω,ω,Z,by rw [show m-(m-a)=a by omega,show m+(b-m)=b by omega]⟩ (fun (i,j,l,f) w1 H1=>?_)))))))))))));obtain ⟨H1,hi1,hj1,him,hmj,hll,hre⟩:=H1;refine ae (ac (sR 3 Z (aa (aC Z (fun c1=>?_) (fun c1=>?_)))))
 ·refine au (ax (ac (sR 3 Z (aa (aC Z (fun c2=>?_) (fun c2=>?_))))))
  ·refine ac (sR 3 Z (sV Z (ci Z Z iO) (sR 3 Z (sC func330 oV Z (cB (a:=m-i) (b:=m) (m:=j) (H1.mine 0 Z) (H1.nodup1 (i:=0) Z) ω ω ω ω ω ω) (fun v1 w2 r1=>?_)))));obtain ⟨x1,mm1,rfl⟩:=r1;obtain ⟨fp1,H2⟩:=H1.mut 0 Z mm1
   try dsimp only[lNA,lCA,lSZ,lSS] at H2
   refine aa (am (sR 2 Z (sV Z (ci Z Z iO) (sA Z Z (aa (⟨(i-j,j,iA l (m-i) m j,_),⟨Z,Z,Z,Z,Z,eqI ω,eqI ω,trivial⟩,⟨H2,ω,ω,ω,ω,by rw [dZ]; exact hll,?_⟩,θ⟩))))));rw [show m-(i-j)=m-i+j by omega,D0 ω ω ω]; exact hre
  ·refine ac (sR 3 Z (sV Z (ci Z Z iO) (sR 2 Z (sV Z (aE Z Z iO) (sM Z Z (sV Z (ci Z Z iO) (sR 2 Z (sC func330 oV Z (cB (a:=m-i) (b:=m+j-i) (m:=i) (H1.mine 0 Z) (H1.nodup1 (i:=0) Z) ω ω ω ω ω ω) (fun v2 w3 r2=>?_)))))))));obtain ⟨x2,mm2,rfl⟩:=r2;obtain ⟨fp2,H3⟩:=H1.mut 0 Z mm2
   try dsimp only[lNA,lCA,lSZ,lSS] at H3
   refine aa (am (sR 2 Z (sV Z (ci Z Z iO) (sA Z Z (aa (⟨(i,j-i,iA l (m-i) (m+j-i) i,_),⟨Z,Z,Z,Z,Z,eqI ω,eqI ω,trivial⟩,⟨H3,ω,ω,ω,ω,by rw [dZ]; exact hll,?_⟩,θ⟩))))));rw [show m+(j-i)=m+j-i by omega,Cb ω ω ω]; exact hre
 ·refine aT (am (sR 3 Z (sV Z (ci Z Z iO) (sR 3 Z (sC func330 oV Z (cB (a:=m-i) (b:=m) (m:=i) (H1.mine 0 Z) (H1.nodup1 (i:=0) Z) ω ω ω ω ω ω) (fun v3 w4 r3=>?_))))));obtain ⟨x3,mm3,rfl⟩:=r3;obtain ⟨fp3,H4⟩:=H1.mut 0 Z mm3
  try dsimp only[lNA,lCA,lSZ,lSS] at H4
  refine aa (hN _ _ (jo results327 ?_));obtain rfl:i=j:=by omega
  exact ⟨_,H4.done,by rw [zFS ω ω]; exact hre⟩
theorem df {w:World}{ws:List RecV}{A:Option Addr}{n C a b:Nat}{fp:List Nat}{gf:FuncId}{gL:List Value}{gF:Func}{xa xb:Int}(o:own true w [.slice A n C] ws fp) (nd:fp.Nodup) (ha:xa=(a:Nat)) (hb:xb=(b:Nat)) (gH:Tryz.prog.funcs[gf]? = some gF) (gB:gF.body.isNone=false) (gN:NG gF) (gC:∀ w1,Ext (· ∈ fp) w w1→∀ (x y:Rec) (A6:Option Addr) (C6:Nat) (A7:Option Addr) (C7:Nat) (A8:Option Addr) (C8:Nat) (B6:Option Addr) (D6:Nat) (B7:Option Addr) (D7:Nat) (B8:Option Addr) (D8:Nat),Ret Tryz.prog gf (([x.val A6 C6 A7 C7 A8 C8,y.val B6 D6 B7 D7 B8 D8]:List Value)++gL).toArray w1 fun v w'=>Ext No w1 w'∧v = .int .i64 (cfR x y)) (h1:a≤b) (h2:b≤ws.length) (h0:0<ws.length) (hL:ws.length≤1000000):Ret Tryz.prog 298 #[.slice A n C,.int .i64 xa,.int .i64 xb,.func (.func gf) #[] gL.toArray] w fun v w'=>(∃ ws',Mut w w' fp [.slice A n C] ws'∧SortSeg ws ws' a b):=by
 subst ha;subst hb;obtain rfl:=fD o;obtain ⟨hb0,ho0,had0⟩:=ic o 0 ω;subst had0;have wL:=oL o;refine aH func298 Z ntmps298 Z (fun Q hQ hN=>?_);have H0:=Sep.begin o nd;refine ac (sM Z Z (sV Z (aE Z Z iO) (sA Z Z (aa (ax (bP (γ:=Nat × List RecV × List Nat) (fun (i,l,f)=>[(0,.slice (some ⟨hb0,ho0,none⟩) ws.length C),(1,.int .i64 a),(2,.int .i64 b),(3,.func (.func gf) #[] gL.toArray),(8,.int .i64 i)]) (fun (i,l,f) w'=>Sep (· ∈ fp) w [mine [.slice (some ⟨hb0,ho0,none⟩) ws.length C] l f] [] w'∧a<i∧InsO ws l a b i) (fun (i,l,f)=>b-i) (a+1,ws,fp) ⟨Z,Z,Z,Z,eqI ω,trivial⟩ ⟨H0,ω,zm h2⟩ (fun (i,l,f) w1 H1=>?_)))))));obtain ⟨H1,hai,hO⟩:=H1;refine ae (ac (sR 3 Z (aa (aC Z (fun c1=>?_) (fun c1=>?_)))))
 ·refine au (ae (ax (ae ?_)));have hil:i<ws.length:=by omega
  have hS:=Ed hO hai ω;refine am (sR 2 Z (aa (ax (bP (γ:=Nat × List RecV × List Nat) (fun (j,l,f)=>[(0,.slice (some ⟨hb0,ho0,none⟩) ws.length C),(1,.int .i64 a),(2,.int .i64 b),(3,.func (.func gf) #[] gL.toArray),(8,.int .i64 i),(9,.int .i64 j)]) (fun (j,l,f) w'=>Sep (· ∈ fp) w [mine [.slice (some ⟨hb0,ho0,none⟩) ws.length C] l f] [] w'∧InsInv ws l a i j) (fun (j,l,f)=>j) (i,l,f) ⟨Z,Z,Z,Z,Z,Z,trivial⟩ ⟨H1,u7 hS ω⟩ (fun (j,l,f) w2 H2=>?_)))));obtain ⟨H2,hI⟩:=H2;refine ae (ae ?_);have hjl:=hI.2.1;have hja:=hI.1;have hll:=hI.2.2.1;refine cb (S:=Ext No _) (oQ [1,3,5,7,9,11,13,15,17,19,21,23,25,27,28,31,32]) κ κ κ Z (fun _=>Ext.refl.drawn _) (fun q1=>?_);have H3:=H2.drawn q1;refine dR 4 Z (fY (t:=21) Z (fun hg1=>?_) (fun hg1=>?_))
  ·try simp only [decide_eq_true_eq] at hg1
   refine bp Z (wg Z Z Z) Z Z (fun zw hx=>aL Z) (bp Z (wg Z Z Z) Z Z (fun zw hx=>aL Z) (bp Z (wg Z Z Z) Z Z (fun zw hx=>aL Z) ?_));obtain ⟨eb1,eo1,ee1,ec1,eK1⟩:=H3.viewAt 0 Z j ω;refine bp Z (wg Z Z Z) Z Z (fun zw hx=>aB br aO Z Z ee1 j ω ω) (bp Z (wg Z Z Z) Z Z (fun zw hx=>ak aD Z aO Z Z (hx.at ec1)) (bp Z (wg Z Z Z) Z Z (fun zw hx=>aL Z) (bp Z (wg Z Z Z) Z Z (fun zw hx=>aL Z) (bp Z (wg Z Z Z) Z Z (fun zw hx=>ci Z Z iO) ?_))));obtain ⟨eb2,eo2,ee2,ec2,eK2⟩:=H3.viewAt 0 Z (j-1) ω;refine bp Z (wg Z Z Z) Z Z (fun zw hx=>aB br aO Z Z ee2 (j-1) ω ω) (bp Z (wg Z Z Z) Z Z (fun zw hx=>ak aD Z aO Z Z (hx.at ec2)) (dh Z (wg Z Z Z) Z Z (gh (lb:=gL) Z gH gB gN Z) (gC _ H3.ext (l.getD j default).r (l.getD (j-1) default).r (l.getD j default).A6 (l.getD j default).C6 (l.getD j default).A7 (l.getD j default).C7 (l.getD j default).A8 (l.getD j default).C8 (l.getD (j-1) default).A6 (l.getD (j-1) default).C6 (l.getD (j-1) default).A7 (l.getD (j-1) default).C7 (l.getD (j-1) default).A8 (l.getD (j-1) default).C8) (fun hS _ _ r _=>hS.trans r.1.no) (fun v1 w3 r1=>?_)));obtain ⟨e1,rfl⟩:=r1;have H4:=H3.to e1;refine bp Z (wg Z Z Z) Z Z (fun zw hx=>aX Z Z) (aW Z ah Z Z (aY Z Z) (bb (aC Z (fun c2=>?_) (fun c2=>?_))))
   ·refine au (ae (ax ?_));have hll:=hI.2.2.1;obtain ⟨eb3,eo3,ee3,ec3,eK3⟩:=H4.viewAt 0 Z j ω;refine cb (S:=fun _=>True) (oQ [1,3,5,7,9,11,13,15,17,21,23,25,2012,18,26,29,30,33,34,26,18,29,30,33,34]) κ κ κ Z (fun _=>trivial) (fun q2=>?_);have H5:=H4.drawn q2;refine dR 4 Z (dV Z Z (fun zw hx=>ci Z Z iO) (dR 2 Z (dV Z Z (fun zw hx=>ci Z Z iO) ?_)));obtain ⟨eb4,eo4,ee4,ec4,eK4⟩:=H5.viewAt 0 Z (j-1) ω;refine dV Z Z (fun zw hx=>aB br aO Z Z ee4 (j-1) ω ω) (dR 2 Z (dV Z Z (fun zw hx=>aB br aO Z Z ee3 j ω ω) (dF Z ?_ ?_)))
    ·refine aW Z ah Z Z (ak aD Z aO Z Z ec4) (aW Z ah Z Z (ak aD Z aO Z Z ec3) (dV Z Z (fun zw hx=>aB br aO Z Z Z (j) ω ω) (eF (u:=(l.getD (j-1) default)) Z ah aO H5 0 Z (j) ω Z Z Z eK4 (fun _ _ _ _=>trivial) (fun w4 fp1 H6=>?_))))
     try dsimp only[lNA,lCA,lSZ,lSS] at H6
     refine dV Z Z (fun zw hx=>aB br aO Z Z Z (j-1) ω ω) (eF (u:=(l.getD j default)) Z ah aO H6 0 Z (j-1) (by rw [List.length_set]; omega) Z Z Z eK3 (fun _ _ _ _=>trivial) (fun w5 fp2 H7=>?_))
     try dsimp only[lNA,lCA,lSZ,lSS] at H7
     refine bb (am (sM Z Z (sV Z (ci Z Z iO) (sA Z Z (aa (⟨(j-1,_,_),⟨Z,Z,Z,Z,Z,eqI ω,trivial⟩,⟨H7,tu hI ω hil ω⟩,θ⟩))))))
    ·refine aW Z ah Z Z (ak aD Z aO Z Z ec3) (aW Z ah Z Z (ak aD Z aO Z Z ec4) (dV Z Z (fun zw hx=>aB br aO Z Z Z (j) ω ω) (eF (u:=(l.getD (j-1) default)) Z ah aO H5 0 Z (j) ω Z Z Z eK4 (fun _ _ _ _=>trivial) (fun w6 fp3 H8=>?_))))
     try dsimp only[lNA,lCA,lSZ,lSS] at H8
     refine dV Z Z (fun zw hx=>aB br aO Z Z Z (j-1) ω ω) (eF (u:=(l.getD j default)) Z ah aO H8 0 Z (j-1) (by rw [List.length_set]; omega) Z Z Z eK3 (fun _ _ _ _=>trivial) (fun w7 fp4 H9=>?_))
     try dsimp only[lNA,lCA,lSZ,lSS] at H9
     refine bb (am (sM Z Z (sV Z (ci Z Z iO) (sA Z Z (aa (⟨(j-1,_,_),⟨Z,Z,Z,Z,Z,eqI ω,trivial⟩,⟨H9,tu hI ω hil ω⟩,θ⟩))))))
   ·refine aT (am (sM Z Z (sV Z (aE Z Z iO) (sA Z Z (aa ?_)))));have hs:=vI hI hil (.inr c2);refine ⟨(i+1,l,_),⟨Z,Z,Z,Z,Z,trivial⟩,⟨H4,ω,uq hs hai ω⟩,θ⟩
  ·try simp only [decide_eq_false_iff_not] at hg1
   refine dR 12 Z (aW Z ah Z Z (bm Z Z) (bb (md Z (aT (am (sM Z Z (sV Z (aE Z Z iO) (sA Z Z (aa ?_)))))))));have hs:=vI hI hil (.inl (by have:=hI.1; omega));refine ⟨(i+1,l,_),⟨Z,Z,Z,Z,Z,trivial⟩,⟨H3,ω,uq hs hai ω⟩,θ⟩
 ·refine aT (hN _ _ (jo results298 ?_));exact ⟨_,H1.done,EY hO ω⟩
def tt (gf:FuncId) (gL:List Value) (N:Nat):Prop:=∀ (w:World) (ws:List RecV) (A:Option Addr) (n C:Nat) (fp:List Nat) (a m b:Nat) (xa xm xb:Int),own true w [.slice A n C] ws fp→fp.Nodup→xa=(a:Nat)→xm=(m:Nat)→xb=(b:Nat)→(∀ w1,Ext (· ∈ fp) w w1→∀ (x y:Rec) (A6:Option Addr) (C6:Nat) (A7:Option Addr) (C7:Nat) (A8:Option Addr) (C8:Nat) (B6:Option Addr) (D6:Nat) (B7:Option Addr) (D7:Nat) (B8:Option Addr) (D8:Nat),Ret Tryz.prog gf (([x.val A6 C6 A7 C7 A8 C8,y.val B6 D6 B7 D7 B8 D8]:List Value)++gL).toArray w1 fun v w'=>Ext No w1 w'∧v = .int .i64 (cfR x y))→a<m→m<b→b≤ws.length→ws.length≤1000000→Ord kLt cS (seg ws a m)→Ord kLt cS (seg ws m b)→b-a≤N→Ret Tryz.prog 319 #[.slice A n C,.int .i64 xa,.int .i64 xm,.int .i64 xb,.func (.func gf) #[] gL.toArray] w fun v w'=>∃ ws',Mut w w' fp [.slice A n C] ws'∧SortSeg ws ws' a b
theorem t6 {w:World}{ws:List RecV}{A:Option Addr}{n C a m b:Nat}{fp:List Nat}{gf:FuncId}{gL:List Value}{gF:Func}{xa xm xb:Int}(o:own true w [.slice A n C] ws fp) (nd:fp.Nodup) (ha:xa=(a:Nat)) (hm:xm=(m:Nat)) (hb:xb=(b:Nat)) (gH:Tryz.prog.funcs[gf]? = some gF) (gB:gF.body.isNone=false) (gN:NG gF) (gC:∀ w1,Ext (· ∈ fp) w w1→∀ (x y:Rec) (A6:Option Addr) (C6:Nat) (A7:Option Addr) (C7:Nat) (A8:Option Addr) (C8:Nat) (B6:Option Addr) (D6:Nat) (B7:Option Addr) (D7:Nat) (B8:Option Addr) (D8:Nat),Ret Tryz.prog gf (([x.val A6 C6 A7 C7 A8 C8,y.val B6 D6 B7 D7 B8 D8]:List Value)++gL).toArray w1 fun v w'=>Ext No w1 w'∧v = .int .i64 (cfR x y)) (h1:a<m) (h2:m<b) (h3:b≤ws.length) (hL:ws.length≤1000000) (hA:Ord kLt cS (seg ws a m)) (hB:Ord kLt cS (seg ws m b)) {N:Nat}(hN:b-a≤N+1) (IH:tt gf gL N):Ret Tryz.prog 319 #[.slice A n C,.int .i64 xa,.int .i64 xm,.int .i64 xb,.func (.func gf) #[] gL.toArray] w fun v w'=>(∃ ws',Mut w w' fp [.slice A n C] ws'∧SortSeg ws ws' a b):=by
 subst ha;subst hm;subst hb;obtain rfl:=fD o;obtain ⟨hb0,ho0,had0⟩:=ic o 0 ω;subst had0;have wL:=oL o;refine aH func319 Z ntmps319 Z (fun Q hQ hN=>?_);have H0:=Sep.begin o nd;refine ae (ac (sR 2 Z (sV Z (ci Z Z iO) (sV Z (cT Z Z) (aa (aC Z (fun c1=>?_) (fun c1=>?_)))))))
 ·refine ac (sR 2 Z (aa (ac (sR 2 Z (aa (ae (ax (bP (γ:=Nat × Nat × List Nat) (fun (i,j,f)=>[(0,.slice (some ⟨hb0,ho0,none⟩) ws.length C),(1,.int .i64 a),(2,.int .i64 m),(3,.int .i64 b),(4,.func (.func gf) #[] gL.toArray),(10,.int .i64 i),(11,.int .i64 j)]) (fun (i,j,f) w'=>Sep (· ∈ fp) w [mine [.slice (some ⟨hb0,ho0,none⟩) ws.length C] ws f] [] w'∧LoInv ws a m b i j) (fun (i,j,f)=>j-i) (m,b,_) ⟨Z,Z,Z,Z,Z,Z,Z,trivial⟩ ⟨H0,EI ω⟩ (fun (i,j,f) w1 H1=>?_)))))))));obtain ⟨H1,hI⟩:=H1;refine ae (ac (sR 3 Z (aa (aC Z (fun c2=>?_) (fun c2=>?_)))))
  ·refine au (ax (ae ?_));have e1:=hI.1;have e2:=hI.2.1;have e3:=hI.2.2.1;refine am (sR 2 Z (sV Z (aE Z Z iO) (sV Z (gp tu3 qQ Z (AR ω)) (sV Z (pz (m:=i+j) Z Z Z) (sV Z (gp qQ tu3 Z iO) (sA Z Z (aa (ae ?_))))))));have e1:=hI.1;have e2:=hI.2.1;have e3:=hI.2.2.1;obtain ⟨eb1,eo1,ee1,ec1,eK1⟩:=H1.viewAt 0 Z ((i+j) / 2) ω;obtain ⟨eb2,eo2,ee2,ec2,eK2⟩:=H1.viewAt 0 Z a ω;refine cb (S:=Ext No _) (oQ [1,3,5,7,9,11,13,15,17,18,20]) κ κ κ Z (fun _=>Ext.refl.drawn _) (fun q1=>?_);have H2:=H1.drawn q1;refine dR 3 Z (dV Z Z (fun zw hx=>aB br aO Z Z ee1 ((i+j) / 2) ω ω) (dV Z Z (fun zw hx=>ak aD Z aO Z Z (hx.at ec1)) (dR 2 Z (dV Z Z (fun zw hx=>aB br aO Z Z ee2 a ω ω) (dV Z Z (fun zw hx=>ak aD Z aO Z Z (hx.at ec2)) (dh Z ah Z Z (gh (lb:=gL) Z gH gB gN Z) (gC _ H2.ext (ws.getD ((i+j) / 2) default).r (ws.getD a default).r (ws.getD ((i+j) / 2) default).A6 (ws.getD ((i+j) / 2) default).C6 (ws.getD ((i+j) / 2) default).A7 (ws.getD ((i+j) / 2) default).C7 (ws.getD ((i+j) / 2) default).A8 (ws.getD ((i+j) / 2) default).C8 (ws.getD a default).A6 (ws.getD a default).C6 (ws.getD a default).A7 (ws.getD a default).C7 (ws.getD a default).A8 (ws.getD a default).C8) (fun hS _ _ r _=>hS.trans r.1.no) (fun v1 w2 r1=>?_)))))));obtain ⟨e1,rfl⟩:=r1;have H3:=H2.to e1;refine aW Z ah Z Z (aX Z Z) (bb (aC Z (fun c3=>?_) (fun c3=>?_)))
   ·refine am (sM Z Z (sV Z (aE Z Z iO) (sA Z Z (aa (⟨(((i+j) / 2)+1,j,_),⟨Z,Z,Z,Z,Z,Z,Z,trivial⟩,⟨H3,GH hI h3 hB ω ω c3⟩,θ⟩)))))
   ·refine am (sR 2 Z (aa (⟨(i,((i+j) / 2),_),⟨Z,Z,Z,Z,Z,Z,Z,trivial⟩,⟨H3,HE hI h3 hB ω ω c3⟩,θ⟩)))
  ·refine aT (ae (ac (sR 2 Z (aa (ax ?_)))));have hLo:=hI;have e1:=hI.1;have e2:=hI.2.1;have e3:=hI.2.2.1;refine bP (γ:=Nat × List RecV × List Nat) (fun (k,l,f)=>[(0,.slice (some ⟨hb0,ho0,none⟩) ws.length C),(1,.int .i64 a),(10,.int .i64 i),(13,.int .i64 k)]) (fun (k,l,f) w'=>Sep (· ∈ fp) w [mine [.slice (some ⟨hb0,ho0,none⟩) ws.length C] l f] [] w'∧UpInv ws l a k∧k<i) (fun (k,l,f)=>i-k) (a,ws,_) ⟨Z,Z,Z,Z,trivial⟩ ⟨H1,Do ω,ω⟩ (fun (k,l,f) w3 H4=>?_);obtain ⟨H4,hU,hki⟩:=H4;refine ae (ae ?_)
   skip
   refine am (sR 2 Z (sV Z (ci Z Z iO) (sV Z (aX Z Z) (aa (aC Z (fun c4=>?_) (fun c4=>?_))))))
   ·refine au (ae (ax ?_));have hul:=hU.2.2.1;obtain ⟨eb3,eo3,ee3,ec3,eK3⟩:=H4.viewAt 0 Z k ω;obtain ⟨eb4,eo4,ee4,ec4,eK4⟩:=H4.viewAt 0 Z (k+1) ω;refine cb (S:=fun _=>True) (oQ [1,3,5,7,9,11,13,15,17,21,23,25,2012,18,26,29,30,33,34,26,18,29,30,33,34]) κ κ κ Z (fun _=>trivial) (fun q2=>?_);have H5:=H4.drawn q2;refine dR 4 Z (dV Z Z (fun zw hx=>aE Z Z iO) (dR 2 Z (dV Z Z (fun zw hx=>aE Z Z iO) (dV Z Z (fun zw hx=>aB br aO Z Z ee4 (k+1) ω ω) (dR 2 Z (dV Z Z (fun zw hx=>aB br aO Z Z ee3 k ω ω) (dF Z ?_ ?_)))))))
    ·refine aW Z ah Z Z (ak aD Z aO Z Z ec4) (aW Z ah Z Z (ak aD Z aO Z Z ec3) (dV Z Z (fun zw hx=>aB br aO Z Z Z (k) ω ω) (eF (u:=(l.getD (k+1) default)) Z ah aO H5 0 Z (k) ω Z Z Z eK4 (fun _ _ _ _=>trivial) (fun w4 fp1 H6=>?_))))
     try dsimp only[lNA,lCA,lSZ,lSS] at H6
     refine dV Z Z (fun zw hx=>aB br aO Z Z Z (k+1) ω ω) (eF (u:=(l.getD k default)) Z ah aO H6 0 Z (k+1) (by rw [List.length_set]; omega) Z Z Z eK3 (fun _ _ _ _=>trivial) (fun w5 fp2 H7=>?_))
     try dsimp only[lNA,lCA,lSZ,lSS] at H7
     refine bb (am (sM Z Z (sV Z (aE Z Z iO) (sA Z Z (aa (⟨(k+1,_,_),⟨Z,Z,Z,Z,trivial⟩,⟨H7,Bz hU ω,ω⟩,θ⟩))))))
    ·refine aW Z ah Z Z (ak aD Z aO Z Z ec3) (aW Z ah Z Z (ak aD Z aO Z Z ec4) (dV Z Z (fun zw hx=>aB br aO Z Z Z (k) ω ω) (eF (u:=(l.getD (k+1) default)) Z ah aO H5 0 Z (k) ω Z Z Z eK4 (fun _ _ _ _=>trivial) (fun w6 fp3 H8=>?_))))
     try dsimp only[lNA,lCA,lSZ,lSS] at H8
     refine dV Z Z (fun zw hx=>aB br aO Z Z Z (k+1) ω ω) (eF (u:=(l.getD k default)) Z ah aO H8 0 Z (k+1) (by rw [List.length_set]; omega) Z Z Z eK3 (fun _ _ _ _=>trivial) (fun w7 fp4 H9=>?_))
     try dsimp only[lNA,lCA,lSZ,lSS] at H9
     refine bb (am (sM Z Z (sV Z (aE Z Z iO) (sA Z Z (aa (⟨(k+1,_,_),⟨Z,Z,Z,Z,trivial⟩,⟨H9,Bz hU ω,ω⟩,θ⟩))))))
   ·refine aT (bc (hQ _ _ (jo results319 ?_)));obtain rfl:i=k+1:=by omega
    obtain rfl:j=k+1:=by omega
    obtain rfl:m=a+1:=by omega
    exact ⟨_,H4.done,Hc hU hLo h3 hB⟩
 ·refine au (ae (ac (sR 2 Z (sV Z (ci Z Z iO) (sV Z (cT Z Z) (aa (aC Z (fun c5=>?_) (fun c5=>?_))))))))
  ·refine ac (sR 2 Z (aa (ac (sR 2 Z (aa (ae (ax (bP (γ:=Nat × Nat × List Nat) (fun (i,j,f)=>[(0,.slice (some ⟨hb0,ho0,none⟩) ws.length C),(1,.int .i64 a),(2,.int .i64 m),(3,.int .i64 b),(4,.func (.func gf) #[] gL.toArray),(14,.int .i64 i),(15,.int .i64 j)]) (fun (i,j,f) w'=>Sep (· ∈ fp) w [mine [.slice (some ⟨hb0,ho0,none⟩) ws.length C] ws f] [] w'∧HiInv ws a m i j) (fun (i,j,f)=>j-i) (a,m,_) ⟨Z,Z,Z,Z,Z,Z,Z,trivial⟩ ⟨H0,EF ω⟩ (fun (i,j,f) w8 H10=>?_)))))))));obtain ⟨H10,hI⟩:=H10;refine ae (ac (sR 3 Z (aa (aC Z (fun c6=>?_) (fun c6=>?_)))))
   ·refine au (ax (ae ?_));have e1:=hI.1;have e2:=hI.2.1;have e3:=hI.2.2.1;refine am (sR 2 Z (sV Z (aE Z Z iO) (sV Z (gp tu3 qQ Z (AR ω)) (sV Z (pz (m:=i+j) Z Z Z) (sV Z (gp qQ tu3 Z iO) (sA Z Z (aa (ae ?_))))))));have e1:=hI.1;have e2:=hI.2.1;have e3:=hI.2.2.1;obtain ⟨eb5,eo5,ee5,ec5,eK5⟩:=H10.viewAt 0 Z m ω;obtain ⟨eb6,eo6,ee6,ec6,eK6⟩:=H10.viewAt 0 Z ((i+j) / 2) ω;refine cb (S:=Ext No _) (oQ [1,3,5,7,9,11,13,15,17,18,21,22]) κ κ κ Z (fun _=>Ext.refl.drawn _) (fun q3=>?_);have H11:=H10.drawn q3;refine dR 3 Z (dV Z Z (fun zw hx=>aB br aO Z Z ee5 m ω ω) (dV Z Z (fun zw hx=>ak aD Z aO Z Z (hx.at ec5)) (dR 2 Z (dV Z Z (fun zw hx=>aB br aO Z Z ee6 ((i+j) / 2) ω ω) (dV Z Z (fun zw hx=>ak aD Z aO Z Z (hx.at ec6)) (dh Z ah Z Z (gh (lb:=gL) Z gH gB gN Z) (gC _ H11.ext (ws.getD m default).r (ws.getD ((i+j) / 2) default).r (ws.getD m default).A6 (ws.getD m default).C6 (ws.getD m default).A7 (ws.getD m default).C7 (ws.getD m default).A8 (ws.getD m default).C8 (ws.getD ((i+j) / 2) default).A6 (ws.getD ((i+j) / 2) default).C6 (ws.getD ((i+j) / 2) default).A7 (ws.getD ((i+j) / 2) default).C7 (ws.getD ((i+j) / 2) default).A8 (ws.getD ((i+j) / 2) default).C8) (fun hS _ _ r _=>hS.trans r.1.no) (fun v2 w9 r2=>?_)))))));obtain ⟨e2,rfl⟩:=r2;have H12:=H11.to e2;refine dV Z Z (fun zw hx=>aX Z Z) (aW Z ah Z Z (rO Z) (bb (aC Z (fun c7=>?_) (fun c7=>?_))))
    ·refine am (sM Z Z (sV Z (aE Z Z iO) (sA Z Z (aa (⟨(((i+j) / 2)+1,j,_),⟨Z,Z,Z,Z,Z,Z,Z,trivial⟩,⟨H12,G6 hI ω hA ω ω c7⟩,θ⟩)))))
    ·refine am (sR 2 Z (aa (⟨(i,((i+j) / 2),_),⟨Z,Z,Z,Z,Z,Z,Z,trivial⟩,⟨H12,Hs hI ω hA ω ω ω⟩,θ⟩)))
   ·refine aT (ae (ac (sR 2 Z (aa (ax ?_)))));have e1:=hI.1;have e2:=hI.2.1;have e3:=hI.2.2.1;obtain rfl:i=j:=by omega
    have hHi:=hI;refine bP (γ:=Nat × List RecV × List Nat) (fun (k,l,f)=>[(0,.slice (some ⟨hb0,ho0,none⟩) ws.length C),(2,.int .i64 m),(14,.int .i64 i),(17,.int .i64 k)]) (fun (k,l,f) w'=>Sep (· ∈ fp) w [mine [.slice (some ⟨hb0,ho0,none⟩) ws.length C] l f] [] w'∧DnInv ws l a m i k) (fun (k,l,f)=>k) (m,ws,_) ⟨Z,Z,Z,Z,trivial⟩ ⟨H10,EC hHi hA⟩ (fun (k,l,f) w10 H13=>?_);obtain ⟨H13,hD⟩:=H13;refine ae (ac (sR 3 Z (aa (aC Z (fun c8=>?_) (fun c8=>?_)))))
    ·refine au (ae (ax ?_));have hdl:=hD.2.1.2.2.1;have hdk:=hD.2.1.2.1;obtain ⟨eb7,eo7,ee7,ec7,eK7⟩:=H13.viewAt 0 Z k ω;refine cb (S:=fun _=>True) (oQ [1,3,5,7,9,11,13,15,17,21,23,25,2012,18,26,29,30,33,34,26,18,29,30,33,34]) κ κ κ Z (fun _=>trivial) (fun q4=>?_);have H14:=H13.drawn q4;refine dR 4 Z (dV Z Z (fun zw hx=>ci Z Z iO) (dR 2 Z (dV Z Z (fun zw hx=>ci Z Z iO) ?_)));obtain ⟨eb8,eo8,ee8,ec8,eK8⟩:=H14.viewAt 0 Z (k-1) ω;refine dV Z Z (fun zw hx=>aB br aO Z Z ee8 (k-1) ω ω) (dR 2 Z (dV Z Z (fun zw hx=>aB br aO Z Z ee7 k ω ω) (dF Z ?_ ?_)))
     ·refine aW Z ah Z Z (ak aD Z aO Z Z ec8) (aW Z ah Z Z (ak aD Z aO Z Z ec7) (dV Z Z (fun zw hx=>aB br aO Z Z Z (k) ω ω) (eF (u:=(l.getD (k-1) default)) Z ah aO H14 0 Z (k) ω Z Z Z eK8 (fun _ _ _ _=>trivial) (fun w11 fp5 H15=>?_))))
      try dsimp only[lNA,lCA,lSZ,lSS] at H15
      refine dV Z Z (fun zw hx=>aB br aO Z Z Z (k-1) ω ω) (eF (u:=(l.getD k default)) Z ah aO H15 0 Z (k-1) (by rw [List.length_set]; omega) Z Z Z eK7 (fun _ _ _ _=>trivial) (fun w12 fp6 H16=>?_))
      try dsimp only[lNA,lCA,lSZ,lSS] at H16
      refine bb (am (sM Z Z (sV Z (ci Z Z iO) (sA Z Z (aa (⟨(k-1,_,_),⟨Z,Z,Z,eqI ω,trivial⟩,⟨H16,Ba hD hHi ω ω⟩,θ⟩))))))
     ·refine aW Z ah Z Z (ak aD Z aO Z Z ec7) (aW Z ah Z Z (ak aD Z aO Z Z ec8) (dV Z Z (fun zw hx=>aB br aO Z Z Z (k) ω ω) (eF (u:=(l.getD (k-1) default)) Z ah aO H14 0 Z (k) ω Z Z Z eK8 (fun _ _ _ _=>trivial) (fun w13 fp7 H17=>?_))))
      try dsimp only[lNA,lCA,lSZ,lSS] at H17
      refine dV Z Z (fun zw hx=>aB br aO Z Z Z (k-1) ω ω) (eF (u:=(l.getD k default)) Z ah aO H17 0 Z (k-1) (by rw [List.length_set]; omega) Z Z Z eK7 (fun _ _ _ _=>trivial) (fun w14 fp8 H18=>?_))
      try dsimp only[lNA,lCA,lSZ,lSS] at H18
      refine bb (am (sM Z Z (sV Z (ci Z Z iO) (sA Z Z (aa (⟨(k-1,_,_),⟨Z,Z,Z,eqI ω,trivial⟩,⟨H18,Ba hD hHi ω ω⟩,θ⟩))))))
    ·refine aT (bc (hQ _ _ (jo results319 ?_)));have e9:=hD.1;obtain rfl:k=i:=by omega
     obtain rfl:b=m+1:=by omega
     exact ⟨_,H13.done,GO hD hHi ω⟩
  ·refine au (ac (sR 2 Z (sV Z (aE Z Z iO) (sV Z (gp tu3 qQ Z (AR ω)) (sV Z (pz (m:=a+b) Z Z Z) (sV Z (gp qQ tu3 Z iO) (sA Z Z (aa (ac (sR 2 Z (sV Z (aE Z Z iO) (sA Z Z (aa (ac (sR 2 Z (aa (vU (γ:=Nat × Nat) H0 [(1,_),(2,_),(3,_),(4,_),(18,_),(19,_)] ⟨Z,Z,Z,Z,Z,Z,trivial⟩ (fun (s,r)=>[(0,.slice (some ⟨hb0,ho0,none⟩) ws.length C),(20,.int .i64 s),(21,.int .i64 r)]) (fun (s,r)=>MidOK ws a m b (((a+b) / 2)+m-1) s r∧(s=a∨(((a+b) / 2)+m-1)+1=b+s)∧(r=m∨(((a+b) / 2)+m-1)+1=m+r)) ?_ (fun (s,r) w15 H19 ⟨hMK,hG1,hG2⟩=>?_))))))))))))))))))
   ·refine ac (sR 3 Z (aa (aC Z (fun c9=>?_) (fun c9=>?_))))
    ·refine ac (sR 2 Z (sV Z (ci Z Z iO) (sA Z Z (aa (am (sR 2 Z (aa ?_)))))));exact ⟨(((a+b) / 2)+m-b,((a+b) / 2)),⟨Z,eqI ω,Z,Z,Z,Z,Z,Z,Z,trivial⟩,H0,⟨ω,ω,ω,ω,h3,hA,hB,ω⟩,ω,ω⟩
    ·refine ac (sR 2 Z (aa (am (sR 2 Z (aa ?_)))));exact ⟨(a,m),⟨Z,Z,Z,Z,Z,Z,Z,Z,Z,trivial⟩,H0,⟨ω,ω,ω,ω,h3,hA,hB,ω⟩,ω,ω⟩
   ·dsimp only[lCA,lNA];refine ac (sM Z Z (sV Z (ci Z Z iO) (sA Z Z (aa (ae (ax (bP (γ:=Nat × Nat × List Nat) (fun (s2,r2,f)=>[(0,.slice (some ⟨hb0,ho0,none⟩) ws.length C),(1,.int .i64 a),(2,.int .i64 m),(3,.int .i64 b),(4,.func (.func gf) #[] gL.toArray),(18,.int .i64 (((a+b) / 2):Nat)),(19,.int .i64 (((a+b) / 2)+m:Nat)),(20,.int .i64 s2),(21,.int .i64 r2),(22,.int .i64 ((((a+b) / 2)+m-1):Nat))]) (fun (s2,r2,f) w'=>Sep (· ∈ fp) w [mine [.slice (some ⟨hb0,ho0,none⟩) ws.length C] ws f] [] w'∧MidInv ws (((a+b) / 2)+m-1) s r s2 r2) (fun (s2,r2,f)=>r2-s2) (s,r,_) ⟨Z,Z,Z,Z,Z,Z,Z,Z,Z,eqI ω,trivial⟩ ⟨H19,Cg (by rcases hMK with ⟨_,_,_,_,_⟩; omega)⟩ (fun (s2,r2,f) w16 H20=>?_))))))));obtain ⟨H20,hI⟩:=H20;refine ae (ac (sR 3 Z (aa (aC Z (fun c10=>?_) (fun c10=>?_)))))
    ·refine au (ax (ae ?_));have e1:=hI.1;have e2:=hI.2.1;have e3:=hI.2.2.1;obtain ⟨m1,m2,m3,m4,_,_,_,_⟩:=id hMK;refine am (sR 2 Z (sV Z (aE Z Z iO) (sV Z (gp tu3 qQ Z (AR ω)) (sV Z (pz (m:=s2+r2) Z Z Z) (sV Z (gp qQ tu3 Z iO) (sA Z Z (aa (ae ?_))))))));have e1:=hI.1;have e2:=hI.2.1;have e3:=hI.2.2.1;obtain ⟨m1,m2,m3,m4,_,_,_,_⟩:=id hMK;obtain ⟨eb9,eo9,ee9,ec9,eK9⟩:=H20.viewAt 0 Z ((((a+b) / 2)+m-1)-((s2+r2) / 2)) ω;obtain ⟨eb10,eo10,ee10,ec10,eK10⟩:=H20.viewAt 0 Z ((s2+r2) / 2) ω;refine cb (S:=Ext No _) (oQ [1,3,5,7,9,11,13,15,17,19,21,22,25,26]) κ κ κ Z (fun _=>Ext.refl.drawn _) (fun q5=>?_);have H21:=H20.drawn q5;refine dR 4 Z (dV Z Z (fun zw hx=>ci Z Z iO) (dV Z Z (fun zw hx=>aB br aO Z Z ee9 ((((a+b) / 2)+m-1)-((s2+r2) / 2)) ω ω) (dV Z Z (fun zw hx=>ak aD Z aO Z Z (hx.at ec9)) (dR 2 Z (dV Z Z (fun zw hx=>aB br aO Z Z ee10 ((s2+r2) / 2) ω ω) (dV Z Z (fun zw hx=>ak aD Z aO Z Z (hx.at ec10)) (dh Z ah Z Z (gh (lb:=gL) Z gH gB gN Z) (gC _ H21.ext (ws.getD ((((a+b) / 2)+m-1)-((s2+r2) / 2)) default).r (ws.getD ((s2+r2) / 2) default).r (ws.getD ((((a+b) / 2)+m-1)-((s2+r2) / 2)) default).A6 (ws.getD ((((a+b) / 2)+m-1)-((s2+r2) / 2)) default).C6 (ws.getD ((((a+b) / 2)+m-1)-((s2+r2) / 2)) default).A7 (ws.getD ((((a+b) / 2)+m-1)-((s2+r2) / 2)) default).C7 (ws.getD ((((a+b) / 2)+m-1)-((s2+r2) / 2)) default).A8 (ws.getD ((((a+b) / 2)+m-1)-((s2+r2) / 2)) default).C8 (ws.getD ((s2+r2) / 2) default).A6 (ws.getD ((s2+r2) / 2) default).C6 (ws.getD ((s2+r2) / 2) default).A7 (ws.getD ((s2+r2) / 2) default).C7 (ws.getD ((s2+r2) / 2) default).A8 (ws.getD ((s2+r2) / 2) default).C8) (fun hS _ _ r _=>hS.trans r.1.no) (fun v3 w17 r3=>?_))))))));obtain ⟨e3,rfl⟩:=r3;have H22:=H21.to e3;refine dV Z Z (fun zw hx=>aX Z Z) (aW Z ah Z Z (rO Z) (bb (aC Z (fun c11=>?_) (fun c11=>?_))))
     ·refine am (sM Z Z (sV Z (aE Z Z iO) (sA Z Z (aa (⟨(((s2+r2) / 2)+1,r2,_),⟨Z,Z,Z,Z,Z,Z,Z,Z,Z,Z,trivial⟩,⟨H22,Gk hI hMK ω ω c11⟩,θ⟩)))))
     ·refine am (sR 2 Z (aa (⟨(s2,((s2+r2) / 2),_),⟨Z,Z,Z,Z,Z,Z,Z,Z,Z,Z,trivial⟩,⟨H22,Hl hI hMK ω ω ω⟩,θ⟩)))
    ·refine aT (ae ?_);have e1:=hI.1;have e2:=hI.2.1;have e3:=hI.2.2.1;obtain ⟨m1,m2,m3,m4,_,_,_,_⟩:=id hMK;obtain rfl:s2=r2:=by omega
     refine am (sR 2 Z (sV Z (ci Z Z iO) (sA Z Z (aa (D3 (γ:=List Nat) (fun f=>[(0,.slice (some ⟨hb0,ho0,none⟩) ws.length C),(1,.int .i64 a),(2,.int .i64 m),(3,.int .i64 b),(4,.func (.func gf) #[] gL.toArray),(18,.int .i64 (((a+b) / 2):Nat)),(20,.int .i64 s2),(24,.int .i64 ((((a+b) / 2)+m-s2):Nat))]) (fun f w'=>Sep (· ∈ fp) w [mine [.slice (some ⟨hb0,ho0,none⟩) ws.length C] (fZ ws s2 m (((a+b) / 2)+m-s2)) f] [] w') ?_ (fun f w18 H23=>?_))))))
     ·refine ac (sR 4 Z (eA (t:=181) Z (fun hg1=>?_) (fun hg1=>?_)))
      ·try simp only [decide_eq_true_eq,decide_eq_false_iff_not] at hg1
       refine ao (wg Z Z Z) Z Z (aL Z) (ao (wg Z Z Z) Z Z (aL Z) (ao (wg Z Z Z) Z Z (aX Z Z) (sV Z (aY Z Z) (aa (aC Z (fun c12=>?_) (fun c12=>?_))))))
       ·refine am (sR 5 Z (sC func327 yK Z (gG (a:=s2) (m:=m) (b:=(((a+b) / 2)+m-s2)) (H20.mine 0 Z) (H20.nodup1 (i:=0) Z) ω ω ω ω ω ω) (fun v4 w19 r4=>?_)));obtain ⟨y1,mm1,rfl⟩:=r4;obtain ⟨fp9,H24⟩:=H20.mut 0 Z mm1
        try dsimp only[lNA,lCA,lSZ,lSS] at H24
        refine aa ?_;exact ⟨_,⟨Z,Z,Z,Z,Z,Z,Z,eqI ω,trivial⟩,H24⟩
       ·refine au ?_;exact ⟨f,⟨Z,Z,Z,Z,Z,Z,Z,eqI ω,trivial⟩,by rw [wI ω ω ω ω]; exact H20⟩
      ·try simp only [decide_eq_true_eq,decide_eq_false_iff_not] at hg1
       refine sR 3 Z (sV Z (bm Z Z) (aa (md Z (au ?_))));exact ⟨f,⟨Z,Z,Z,Z,Z,Z,Z,eqI ω,trivial⟩,by rw [wI ω ω ω ω]; exact H20⟩
     ·skip
      refine D3 (γ:=List RecV × List Nat) (fun (l2,f)=>[(0,.slice (some ⟨hb0,ho0,none⟩) ws.length C),(1,.int .i64 a),(2,.int .i64 m),(3,.int .i64 b),(4,.func (.func gf) #[] gL.toArray),(18,.int .i64 (((a+b) / 2):Nat)),(20,.int .i64 s2),(24,.int .i64 ((((a+b) / 2)+m-s2):Nat))]) (fun (l2,f) w'=>Sep (· ∈ fp) w [mine [.slice (some ⟨hb0,ho0,none⟩) ws.length C] l2 f] [] w'∧SortSeg (fZ ws s2 m (((a+b) / 2)+m-s2)) l2 a ((a+b) / 2)) ?_ (fun (l2,f) w20 H25=>?_)
      ·refine ae ?_;have hln:=jw (l:=ws) (x:=s2) (y:=m) (z:=(((a+b) / 2)+m-s2)) ω ω ω;have hSy:SymL ws (fZ ws s2 m (((a+b) / 2)+m-s2)) a s2 ((a+b) / 2) (((a+b) / 2)+m-s2) b:=xg hI hMK hG1 hG2 ω ω;obtain ⟨_,_,_,_,o1,o2,o3,o4⟩:=id hSy;refine am (sR 4 Z (eA (t:=195) Z (fun hg2=>?_) (fun hg2=>?_)))
       ·try simp only [decide_eq_true_eq,decide_eq_false_iff_not] at hg2
        refine ao (wg Z Z Z) Z Z (aL Z) (ao (wg Z Z Z) Z Z (aL Z) (ao (wg Z Z Z) Z Z (aX Z Z) (sV Z (aY Z Z) (aa (aC Z (fun c13=>?_) (fun c13=>?_))))))
        ·refine am (sR 5 Z (sC func319 l7 Z (IH _ _ _ _ _ _ a s2 ((a+b) / 2) _ _ _ (H23.mine 0 Z) (H23.nodup1 (i:=0) Z) ω ω ω (fun w1 e1=>gC w1 (H23.ext.step e1 fun b hb=>H23.new b (H23.inB 0 Z hb))) ω ω ω ω o1 o2 ω) (fun v5 w21 r5=>?_)));obtain ⟨y2,mm2,hs2⟩:=r5;obtain ⟨fp10,H26⟩:=H23.mut 0 Z mm2
         try dsimp only[lNA,lCA,lSZ,lSS] at H26
         refine aa ?_;exact ⟨(y2,_),⟨Z,Z,Z,Z,Z,Z,Z,Z,trivial⟩,H26,hs2⟩
        ·refine au ?_;obtain hq:s2=((a+b) / 2):=by omega
         have ho:Ord kLt cS (seg (fZ ws s2 m (((a+b) / 2)+m-s2)) a ((a+b) / 2)):=Eq.mp (congrArg (fun z=>Ord kLt cS (seg (fZ ws s2 m (((a+b) / 2)+m-s2)) a z)) hq) o1;exact ⟨((fZ ws s2 m (((a+b) / 2)+m-s2)),_),⟨Z,Z,Z,Z,Z,Z,Z,Z,trivial⟩,H23,lq ho⟩
       ·try simp only [decide_eq_true_eq,decide_eq_false_iff_not] at hg2
        refine sR 3 Z (sV Z (bm Z Z) (aa (md Z (au ?_))));obtain hq:s2=a:=by omega
        have ho:Ord kLt cS (seg (fZ ws s2 m (((a+b) / 2)+m-s2)) a ((a+b) / 2)):=Eq.mp (congrArg (fun z=>Ord kLt cS (seg (fZ ws s2 m (((a+b) / 2)+m-s2)) z ((a+b) / 2))) hq) o2;exact ⟨((fZ ws s2 m (((a+b) / 2)+m-s2)),_),⟨Z,Z,Z,Z,Z,Z,Z,Z,trivial⟩,H23,lq ho⟩
      ·obtain ⟨H25,hs1⟩:=H25;refine ae ?_;have hln:=jw (l:=ws) (x:=s2) (y:=m) (z:=(((a+b) / 2)+m-s2)) ω ω ω;have hSy:SymL ws (fZ ws s2 m (((a+b) / 2)+m-s2)) a s2 ((a+b) / 2) (((a+b) / 2)+m-s2) b:=xg hI hMK hG1 hG2 ω ω;obtain ⟨_,_,_,_,o1,o2,o3,o4⟩:=id hSy;have hl2:=hs1.1;have p2:Ord kLt cS (seg l2 (((a+b) / 2)+m-s2) b):=by rw [sI hs1 ω ω]; exact o4
       have p1:Ord kLt cS (seg l2 ((a+b) / 2) (((a+b) / 2)+m-s2)):=by rw [sI hs1 ω ω]; exact o3
       refine am (sR 4 Z (eA (t:=209) Z (fun hg3=>?_) (fun hg3=>?_)))
       ·try simp only [decide_eq_true_eq,decide_eq_false_iff_not] at hg3
        refine ao (wg Z Z Z) Z Z (aL Z) (ao (wg Z Z Z) Z Z (aL Z) (ao (wg Z Z Z) Z Z (aX Z Z) (sV Z (aY Z Z) (aa (aC Z (fun c14=>?_) (fun c14=>?_))))))
        ·refine am (sR 5 Z (sC func319 l7 Z (IH _ _ _ _ _ _ ((a+b) / 2) (((a+b) / 2)+m-s2) b _ _ _ (H25.mine 0 Z) (H25.nodup1 (i:=0) Z) ω ω ω (fun w1 e1=>gC w1 (H25.ext.step e1 fun b hb=>H25.new b (H25.inB 0 Z hb))) ω ω ω ω p1 p2 ω) (fun v6 w22 r6=>?_)));obtain ⟨y3,mm3,hs3⟩:=r6;obtain ⟨fp11,H27⟩:=H25.mut 0 Z mm3
         try dsimp only[lNA,lCA,lSZ,lSS] at H27
         refine aa (hN _ _ (jo results319 ?_));exact ⟨_,H27.done,sP hSy hs1 hs3 ω ω h3⟩
        ·refine au (hN _ _ (jo results319 ?_));have hq:(((a+b) / 2)+m-s2)=b:=by omega
         have ho:Ord kLt cS (seg l2 ((a+b) / 2) b):=Eq.mp (congrArg (fun z=>Ord kLt cS (seg l2 ((a+b) / 2) z)) hq) p1;exact ⟨_,H25.done,sP hSy hs1 (lq ho) ω ω h3⟩
       ·try simp only [decide_eq_true_eq,decide_eq_false_iff_not] at hg3
        refine sR 3 Z (sV Z (bm Z Z) (aa (md Z (au (hN _ _ (jo results319 ?_))))));have hq:(((a+b) / 2)+m-s2)=((a+b) / 2):=by omega
        have ho:Ord kLt cS (seg l2 ((a+b) / 2) b):=Eq.mp (congrArg (fun z=>Ord kLt cS (seg l2 z b)) hq) p2;exact ⟨_,H25.done,sP hSy hs1 (lq ho) ω ω h3⟩
end Go.Wk
namespace Go.Wk
open Go.Proofs Rp Go.Proofs.Tryz
set_option maxRecDepth 10000
theorem lI {gf:FuncId}{gL:List Value}{gF:Func}(gH:Tryz.prog.funcs[gf]? = some gF) (gB:gF.body.isNone=false) (gN:NG gF):∀ N,tt gf gL N
 | 0=>fun _ _ _ _ _ _ a m b _ _ _ _ _ _ _ _ _ h1 h2 _ _ _ _ h=>absurd (Nat.lt_trans h1 h2) ω
 | N+1=>fun _ _ _ _ _ _ _ _ _ _ _ _ o nd ha hm hb gC h1 h2 h3 hL hA hB hN=>t6 o nd ha hm hb gH gB gN gC h1 h2 h3 hL hA hB hN (lI gH gB gN N)
theorem gA {w:World}{ws:List RecV}{A:Option Addr}{n C m:Nat}{fp:List Nat}{gf:FuncId}{gL:List Value}{gF:Func}{xm:Int}(o:own true w [.slice A n C] ws fp) (nd:fp.Nodup) (hm:xm=(m:Nat)) (gH:Tryz.prog.funcs[gf]? = some gF) (gB:gF.body.isNone=false) (gN:NG gF) (gC:∀ w1,Ext (· ∈ fp) w w1→∀ (x y:Rec) (A6:Option Addr) (C6:Nat) (A7:Option Addr) (C7:Nat) (A8:Option Addr) (C8:Nat) (B6:Option Addr) (D6:Nat) (B7:Option Addr) (D7:Nat) (B8:Option Addr) (D8:Nat),Ret Tryz.prog gf (([x.val A6 C6 A7 C7 A8 C8,y.val B6 D6 B7 D7 B8 D8]:List Value)++gL).toArray w1 fun v w'=>Ext No w1 w'∧v = .int .i64 (cfR x y)) (hm2:m=ws.length) (h0:0<ws.length) (hL:ws.length≤1000000):Ret Tryz.prog 297 #[.slice A n C,.int .i64 xm,.func (.func gf) #[] gL.toArray] w fun v w'=>(∃ ws',Mut w w' fp [.slice A n C] ws'∧SortSeg ws ws' 0 ws.length):=by
 subst hm;obtain rfl:=fD o;obtain ⟨hb0,ho0,had0⟩:=ic o 0 ω;subst had0;have wL:=oL o;refine aH func297 Z ntmps297 Z (fun Q hQ hN=>?_);have H0:=Sep.begin o nd;refine ae ?_;subst hm2;refine am (sA Z Z (aa (ac (sR 3 Z (aa (ae (ax (bP (γ:=Nat × List RecV × List Nat) (fun (a,l,f)=>[(0,.slice (some ⟨hb0,ho0,none⟩) ws.length C),(1,.int .i64 ws.length),(2,.func (.func gf) #[] gL.toArray),(6,.int .i64 20),(7,.int .i64 a),(8,.int .i64 (a+20:Nat))]) (fun (a,l,f) w'=>Sep (· ∈ fp) w [mine [.slice (some ⟨hb0,ho0,none⟩) ws.length C] l f] [] w'∧Blocks ws l 20 a) (fun (a,l,f)=>ws.length-a) (0,ws,_) ⟨Z,Z,Z,Z,Z,Z,trivial⟩ ⟨H0,DU⟩ (fun (a,l,f) w1 H1=>?_)))))))));obtain ⟨H1,hB⟩:=H1;refine ae (ac (sR 3 Z (aa (aC Z (fun c1=>?_) (fun c1=>?_)))))
 ·refine au (ax (ae ?_));have hbl:=hB.1;have hba:=hB.2.2.2.1;refine am (sR 4 Z (sC func298 oD Z (df (a:=a) (b:=(a+20)) (H1.mine 0 Z) (H1.nodup1 (i:=0) Z) ω ω gH gB gN (fun w1 e1=>gC w1 (H1.ext.step e1 fun b hb=>H1.new b (H1.inB 0 Z hb))) ω ω ω ω) (fun v1 w2 r1=>?_)));obtain ⟨y1,mm1,hs1⟩:=r1;obtain ⟨fp1,H2⟩:=H1.mut 0 Z mm1
  try dsimp only[lNA,lCA,lSZ,lSS] at H2
  refine aa (ac (sR 2 Z (aa (am (sR 2 Z (sV Z (aE Z Z iO) (sA Z Z (aa (⟨(a+20,_,_),⟨Z,Z,Z,Z,Z,eqI ω,trivial⟩,⟨H2,AU hB ω ω hs1⟩,θ⟩)))))))))
 ·refine aT (ae ?_);have hbl:=hB.1;have hba:=hB.2.2.2.1;refine am (sR 4 Z (sC func298 oD Z (df (a:=a) (b:=ws.length) (H1.mine 0 Z) (H1.nodup1 (i:=0) Z) ω ω gH gB gN (fun w1 e1=>gC w1 (H1.ext.step e1 fun b hb=>H1.new b (H1.inB 0 Z hb))) ω ω ω ω) (fun v2 w3 r2=>?_)));obtain ⟨y2,mm2,hs2⟩:=r2;obtain ⟨fp2,H3⟩:=H1.mut 0 Z mm2
  try dsimp only[lNA,lCA,lSZ,lSS] at H3
  refine aa (ax (bP (γ:=Nat × List RecV × List Nat) (fun (bs,l,f)=>[(0,.slice (some ⟨hb0,ho0,none⟩) ws.length C),(1,.int .i64 ws.length),(2,.func (.func gf) #[] gL.toArray),(6,.int .i64 bs)]) (fun (bs,l,f) w'=>Sep (· ∈ fp) w [mine [.slice (some ⟨hb0,ho0,none⟩) ws.length C] l f] [] w'∧AllB ws l bs∧0<bs) (fun (bs,l,f)=>ws.length-bs) (20,_,_) ⟨Z,Z,Z,Z,trivial⟩ ⟨H3,Bf hB ω hs2,ω⟩ (fun (bs,l,f) w4 H4=>?_)));obtain ⟨H4,hA,h0b⟩:=H4;refine ae (ae ?_);have hal:=hA.1;refine am (sR 3 Z (aa (aC Z (fun c2=>?_) (fun c2=>?_))))
  ·refine au (ax (ac (sM Z Z (sV Z (iG Z Z iO) (sR 2 Z (aa (ae (ax (bP (γ:=Nat × List RecV × List Nat) (fun (a,l,f)=>[(0,.slice (some ⟨hb0,ho0,none⟩) ws.length C),(1,.int .i64 ws.length),(2,.func (.func gf) #[] gL.toArray),(6,.int .i64 bs),(7,.int .i64 a),(8,.int .i64 (a+2*bs:Nat))]) (fun (a,l,f) w'=>Sep (· ∈ fp) w [mine [.slice (some ⟨hb0,ho0,none⟩) ws.length C] l f] [] w'∧TwoB ws l bs a∧0<bs∧bs<ws.length) (fun (a,l,f)=>ws.length-a) (0,_,_) ⟨Z,Z,Z,Z,Z,eqI ω,trivial⟩ ⟨H4,CD hA,h0b,ω⟩ (fun (a,l,f) w5 H5=>?_))))))))));obtain ⟨H5,hT,h0b,hbn⟩:=H5;refine ae (ae ?_);have htl:=hT.1.1;have hta:=hT.1.2.2.2.1;refine am (sR 3 Z (aa (aC Z (fun c3=>?_) (fun c3=>?_))))
   ·refine au (ax (ae ?_));have htl:=hT.1.1;have hta:=hT.1.2.2.2.1;refine am (sR 4 Z (sV Z (aE Z Z iO) (sR 2 Z (sC func319 l7 Z (lI gH gB gN _ _ _ _ _ _ _ a (a+bs) (a+2*bs) _ _ _ (H5.mine 0 Z) (H5.nodup1 (i:=0) Z) ω ω ω (fun w1 e1=>gC w1 (H5.ext.step e1 fun b hb=>H5.new b (H5.inB 0 Z hb))) ω ω ω ω (GB hT ω h0b) (Gw hT ω ω) (Nat.le_refl _)) (fun v3 w6 r3=>?_)))));obtain ⟨y3,mm3,hs3⟩:=r3;obtain ⟨fp3,H6⟩:=H5.mut 0 Z mm3
    try dsimp only[lNA,lCA,lSZ,lSS] at H6
    refine aa (ac (sR 2 Z (aa (am (sR 2 Z (sV Z (iG Z Z iO) (sV Z (aE Z Z iO) (sA Z Z (aa (⟨(a+2*bs,_,_),⟨Z,Z,Z,Z,Z,eqI ω,trivial⟩,⟨H6,Dg hT h0b ω (show SortSeg l _ a (a+2*bs) from hs3),h0b,hbn⟩,θ⟩))))))))))
   ·refine aT (ae (ae ?_));have htl:=hT.1.1;have hta:=hT.1.2.2.2.1;refine am (sR 2 Z (sV Z (aE Z Z iO) (sA Z Z (aa (ac (sR 3 Z (aa (aC Z (fun c4=>?_) (fun c4=>?_)))))))))
    ·have htl:=hT.1.1;have hta:=hT.1.2.2.2.1;refine am (sR 5 Z (sC func319 l7 Z (lI gH gB gN _ _ _ _ _ _ _ a (a+bs) ws.length _ _ _ (H5.mine 0 Z) (H5.nodup1 (i:=0) Z) ω ω ω (fun w1 e1=>gC w1 (H5.ext.step e1 fun b hb=>H5.new b (H5.inB 0 Z hb))) ω ω ω ω (GB hT ω h0b) (Gw hT ω ω) (Nat.le_refl _)) (fun v4 w7 r4=>?_)));obtain ⟨y4,mm4,hs4⟩:=r4;obtain ⟨fp4,H7⟩:=H5.mut 0 Z mm4
     try dsimp only[lNA,lCA,lSZ,lSS] at H7
     refine aa (am (sM Z Z (sV Z (iG Z Z iO) (sA Z Z (aa (⟨(2*bs,_,_),⟨Z,Z,Z,eqI ω,trivial⟩,⟨H7,wE hT ω hs4,ω⟩,θ⟩))))))
    ·refine au (am (sM Z Z (sV Z (iG Z Z iO) (sA Z Z (aa (⟨(2*bs,_,_),⟨Z,Z,Z,eqI ω,trivial⟩,⟨H5,Di hT h0b ω,ω⟩,θ⟩))))))
  ·refine aT (hN _ _ (jo results297 ?_));exact ⟨_,H4.done,Gj hA ω h0⟩
end Go.Wk
namespace Go.Wk
open Go.Proofs Rp Go.Proofs.Tryz
set_option maxRecDepth 10000
theorem BT {w:World}{A:Option Addr}{C:Nat}{gf:FuncId}{gL:List Value}  : Ret Tryz.prog 298 #[.slice A 0 C,.int .i64 (0:Nat),.int .i64 (0:Nat),.func (.func gf) #[] gL.toArray] w fun v w'=>Ext No w w'∧(True):=by
 refine aH func298 Z ntmps298 Z (fun Q hQ hN=>?_);have H0:=Sep.start (w:=w) (F:=[]) σ;refine ac (sM Z Z (sV Z (aE Z Z iO) (sA Z Z (aa (ax (dJ (γ:=Unit) H0 [(0,_),(1,_),(2,_),(3,_)] ⟨Z,Z,Z,Z,trivial⟩ (fun _=>[(8,.int .i64 (1:Nat))]) (fun _=>True∧True) (fun _=>0) () ⟨Z,trivial⟩ ⟨trivial,trivial⟩ (fun _ w1 H1 ⟨_,_⟩=>?_)))))));dsimp only[lCA,lNA];refine ae (ac (sR 3 Z (aa (aC Z (fun c1=>?_) (fun c1=>?_)))))
 ·exfalso
  omega
 ·refine aT (hN _ _ (jo results298 ?_));exact ⟨H1.ext,trivial⟩
theorem yP {w:World}{A:Option Addr}{C:Nat}{gf:FuncId}{gL:List Value}  : Ret Tryz.prog 297 #[.slice A 0 C,.int .i64 (0:Nat),.func (.func gf) #[] gL.toArray] w fun v w'=>Ext No w w'∧(True):=by
 refine aH func297 Z ntmps297 Z (fun Q hQ hN=>?_);have H0:=Sep.start (w:=w) (F:=[]) σ;refine ac (sA Z Z (aa (ac (sR 3 Z (aa (ae (ax (dJ (γ:=Unit) H0 [(0,_),(1,_),(2,_),(6,_)] ⟨Z,Z,Z,Z,trivial⟩ (fun _=>[(7,.int .i64 (0:Nat)),(8,.int .i64 (20:Nat))]) (fun _=>True∧True) (fun _=>0) () ⟨Z,Z,trivial⟩ ⟨trivial,trivial⟩ (fun _ w1 H1 ⟨_,_⟩=>?_)))))))));dsimp only[lCA,lNA];refine ae (ac (sR 3 Z (aa (aC Z (fun c1=>?_) (fun c1=>?_)))))
 ·exfalso
  omega
 ·refine aT (ac (sR 4 Z (sC func298 oD Z (BT) (fun v1 w2 r1=>?_))));have H2:=H1.to r1.1;refine aa (ax (dJ (γ:=Unit) H2 [(0,_),(1,_),(2,_)] ⟨Z,Z,Z,trivial⟩ (fun _=>[(6,.int .i64 (20:Nat))]) (fun _=>True∧True) (fun _=>0) () ⟨Z,trivial⟩ ⟨trivial,trivial⟩ (fun _ w3 H3 ⟨_,_⟩=>?_)));dsimp only[lCA,lNA];refine ae (ac (sR 3 Z (aa (aC Z (fun c2=>?_) (fun c2=>?_)))))
  ·exfalso
   omega
  ·refine aT (hN _ _ (jo results297 ?_));exact ⟨H3.ext,trivial⟩
theorem jd {w:World}{x:Int}  : Ret Tryz.prog 255 #[.int .i64 x] w fun v w'=>Ext No w w'∧(v = .bool false):=by
 refine aH func255 Z ntmps255 Z (fun Q hQ hN=>?_);have H0:=Sep.start (w:=w) (F:=[]) σ;refine ac (sA Z Z (aa (ac (sR 4 Z (rN hQ results255 Z ?_)))));exact ⟨H0.ext,congrArg Value.bool σ⟩
theorem eL {w:World}{ws:List RecV}{A:Option Addr}{n C:Nat}{fp:List Nat}{gf:FuncId}{gL:List Value}{gF:Func}  (o:own true w [.slice A n C] ws fp) (nd:fp.Nodup)  (gH:Tryz.prog.funcs[gf]? = some gF) (gB:gF.body.isNone=false) (gN:NG gF) (gC:∀ w1,Ext (· ∈ fp) w w1→∀ (x y:Rec) (A6:Option Addr) (C6:Nat) (A7:Option Addr) (C7:Nat) (A8:Option Addr) (C8:Nat) (B6:Option Addr) (D6:Nat) (B7:Option Addr) (D7:Nat) (B8:Option Addr) (D8:Nat),Ret Tryz.prog gf (([x.val A6 C6 A7 C7 A8 C8,y.val B6 D6 B7 D7 B8 D8]:List Value)++gL).toArray w1 fun v w'=>Ext No w1 w'∧v = .int .i64 (cfR x y)) (h0:0<ws.length) (hL:ws.length≤1000000):Ret Tryz.prog 250 #[.slice A n C,.func (.func gf) #[] gL.toArray] w fun v w'=>(∃ ws',Mut w w' fp [.slice A n C] ws'∧Stable kLt cS ws ws'):=by
 obtain rfl:=fD o;obtain ⟨hb0,ho0,had0⟩:=ic o 0 ω;subst had0;have wL:=oL o;refine aH func250 Z ntmps250 Z (fun Q hQ hN=>?_);have H0:=Sep.begin o nd;refine am (sR 2 Z (sV Z (aS br Z) (sM Z Z (sC func297 sj Z (gA (m:=ws.length) (H0.mine 0 Z) (H0.nodup1 (i:=0) Z) Z gH gB gN (fun w1 e1=>gC w1 (H0.ext.step e1 fun b hb=>H0.new b (H0.inB 0 Z hb))) Z h0 hL) (fun v1 w1 r1=>?_)))));obtain ⟨y1,mm1,hs1⟩:=r1;obtain ⟨fp1,H1⟩:=H0.mut 0 Z mm1
 try dsimp only[lNA,lCA,lSZ,lSS] at H1
 refine aa (hN _ _ (jo results250 ?_));exact ⟨_,H1.done,Ek hs1⟩
theorem BE {w:World}{A:Option Addr}{C:Nat}{gf:FuncId}{gL:List Value}  : Ret Tryz.prog 250 #[.slice A 0 C,.func (.func gf) #[] gL.toArray] w fun v w'=>Ext No w w'∧(True):=by
 refine aH func250 Z ntmps250 Z (fun Q hQ hN=>?_);have H0:=Sep.start (w:=w) (F:=[]) σ;refine am (sR 2 Z (sV Z (aS br Z) (sM Z Z (sC func297 sj Z (yP) (fun v1 w1 r1=>?_)))));have H1:=H0.to r1.1;refine aa (hN _ _ (jo results250 ?_));exact ⟨H1.ext,trivial⟩
theorem DF {w:World}{ws:List RecV}{A:Option Addr}{n C:Nat}{fp:List Nat}{gf:FuncId}{gL:List Value}{gF:Func}  (o:own true w [.slice A n C] ws fp) (nd:fp.Nodup)  (gH:Tryz.prog.funcs[gf]? = some gF) (gB:gF.body.isNone=false) (gN:NG gF) (gC:∀ w1,Ext (· ∈ fp) w w1→∀ (x y:Rec) (A6:Option Addr) (C6:Nat) (A7:Option Addr) (C7:Nat) (A8:Option Addr) (C8:Nat) (B6:Option Addr) (D6:Nat) (B7:Option Addr) (D7:Nat) (B8:Option Addr) (D8:Nat),Ret Tryz.prog gf (([x.val A6 C6 A7 C7 A8 C8,y.val B6 D6 B7 D7 B8 D8]:List Value)++gL).toArray w1 fun v w'=>Ext No w1 w'∧v = .int .i64 (cfR x y)) (hL:ws.length≤1000000):Ret Tryz.prog 250 #[.slice A n C,.func (.func gf) #[] gL.toArray] w fun v w'=>∃ ws',Mut w w' fp [.slice A n C] ws'∧Stable kLt cS ws ws':=by
 rcases Nat.eq_zero_or_pos ws.length with e | e
 ·obtain rfl:=List.eq_nil_of_length_eq_zero e;obtain rfl:=fD o;exact Ret.mono BE fun v w' h=>⟨[],.none h.1 o nd,yf⟩
 ·exact eL o nd gH gB gN gC e hL
theorem eW {w:World}{x y:Int}  : Ret Tryz.prog 189 #[.int .i64 x,.int .i64 y] w fun v w'=>Ext No w w'∧(v = .int .i64 (jl x y)):=by
 refine aH func189 Z ntmps189 Z (fun Q hQ hN=>?_);have H0:=Sep.start (w:=w) (F:=[]) σ;refine ac (sA Z Z (aa (ac (sM Z Z (sE func255 tO Z jd H0 (fun w1 e1 H1=>sA Z Z (aa (ac (sM Z Z (sE func255 tO Z jd H1 (fun w2 e2 H2=>sA Z Z (aa (ae (ac (sM Z Z (aa (cx Z (fun c1=>?_) (fun c1=>?_))))))))))))))))))
 ·refine ae (ac (sM Z Z (aa (cx Z (fun c2=>?_) (fun c2=>?_)))))
  ·refine ac (rA hQ results189 Z ?_);exact ⟨H2.ext,congrArg (Value.int .i64) (by unfold jl; split<;>(try split)<;>simp_all<;>omega)⟩
  ·refine au (ac (rA hQ results189 Z ?_));exact ⟨H2.ext,congrArg (Value.int .i64) (by unfold jl; split<;>(try split)<;>simp_all<;>omega)⟩
 ·refine au (ae (ac (sM Z Z (aa (cx Z (fun c3=>?_) (fun c3=>?_))))))
  ·refine ac (rA hQ results189 Z ?_);exact ⟨H2.ext,congrArg (Value.int .i64) (by unfold jl; split<;>(try split)<;>simp_all<;>omega)⟩
  ·refine au (ae (ac (sR 3 Z (aa (aC Z (fun c4=>?_) (fun c4=>?_))))))
   ·refine ac (rA hQ results189 Z ?_);exact ⟨H2.ext,congrArg (Value.int .i64) (by unfold jl; split<;>(try split)<;>simp_all<;>omega)⟩
   ·refine au (ae (ac (sR 3 Z (aa (aC Z (fun c5=>?_) (fun c5=>?_))))))
    ·refine ac (rA hQ results189 Z ?_);exact ⟨H2.ext,congrArg (Value.int .i64) (by unfold jl; split<;>(try split)<;>simp_all<;>omega)⟩
    ·refine au (ac (rA hQ results189 Z ?_));exact ⟨H2.ext,congrArg (Value.int .i64) (by unfold jl; split<;>(try split)<;>simp_all<;>omega)⟩
theorem rE {w:World}{xs:List Int}{xsA:Option Addr}{xsC:Nat}(xsS:Sees w [.slice xsA xs.length xsC] xs):Ret Tryz.prog 252 #[.slice xsA xs.length xsC] w fun v w'=>Ext No w w'∧(v = .int .i64 (orI xs)):=by
 have xsL:=sL xsS;obtain ⟨xsF,xsO⟩:=xsS;refine aH func252 Z ntmps252 Z (fun Q hQ hN=>?_);have H0:=Sep.start (ab xsO aA);refine ac (sA Z Z (aa (ac (sA Z Z (aa (ae (ac (sM Z Z (sV Z (aS E3 Z) (sM Z Z (aa (ax (dJ (γ:=Nat) H0 [(3,_),(6,_),(7,_)] ⟨Z,Z,Z,trivial⟩ (fun k=>[(8,.int .i64 k)]) (fun k=>k≤xs.length∧(∀ i,i<k→xs.getD i 0=0)) (fun k=>xs.length-k) 0 ⟨Z,trivial⟩ ⟨ω,fun i hi=>by omega⟩ (fun k w1 H1 ⟨hk,he⟩=>?_))))))))))))));dsimp only[lCA,lNA];refine ac (sV Z (aX Z Z) (aa (ae (aC Z (fun c1=>?_) (fun c1=>?_)))))
 ·refine au (ae (ax (ae ?_)));obtain ⟨eb1,eo1,ee1,ec1⟩:=ew (H1.seen 0 Z) k ω;have eI1:=eJ (H1.seen 0 Z) k ω;refine am (sV Z (aB E3 ts3 Z Z ee1 k ω ω) (sV Z (aj tu3 Z Z ec1) (sA Z Z (aa (ac (sR 3 Z (aa (aC Z (fun c2=>?_) (fun c2=>?_)))))))))
  ·refine ac (sR 2 Z (rN hQ results252 Z ?_));exact ⟨H1.ext,congrArg (Value.int .i64) (Dk (k:=k) ω he c2).symm⟩
  ·refine au (am (sV Z (aE Z Z iO) (sM Z Z (aa (⟨k+1,⟨Z,Z,Z,Z,trivial⟩,⟨H1,ω,fun i hi=>?_⟩,θ⟩)))))
   by_cases e:i=k
   ·subst e
    omega
   ·exact he i ω
 ·refine aT (ac (sR 2 Z (rN hQ results252 Z ?_)));exact ⟨H1.ext,congrArg (Value.int .i64) (Gx (fun i hi=>he i ω)).symm⟩
theorem kj {w:World}{x y:Rec}{xA6 xA7 xA8 yA6 yA7 yA8:Option Addr}{xC6 xC7 xC8 yC6 yC7 yC8:Nat}  : Ret Tryz.prog 251 #[x.val xA6 xC6 xA7 xC7 xA8 xC8,y.val yA6 yC6 yA7 yC7 yA8 yC8] w fun v w'=>Ext No w w'∧(v = .int .i64 (cfR x y)):=by
 have b1:=wv (a:=x.Seq) (b:=y.Seq);have b2:=wv (a:=x.Kind) (b:=y.Kind);have b3:=wv (a:=x.Group) (b:=y.Group);refine aH func251 Z ntmps251 Z (fun Q hQ hN=>?_);have H0:=Sep.start (w:=w) (F:=[]) σ;refine ac (bu ah Z Z H0 (fun b1 w1 e1 g1 H1=>bu ah Z Z H1 (fun b2 w2 e2 g2 H2=>sA Z Z (aa (ae (cb (S:=Ext No _) (oQ [1,3,5,7,11,13,15,17,21,23,25,27,8,18,28,30,32,34]) κ κ κ Z (fun _=>Ext.refl.drawn _) (fun q1=>?_)))))));have H3:=H2.drawn q1;refine dV Z Z (fun zw hx=>ag aD Z ts2 Z Z) (dV Z Z (fun zw hx=>aj tu2 Z Z (al (hx.heap (H3.box 0 Z)) Z)) (dV Z Z (fun zw hx=>ag aD Z ts2 Z Z) (dV Z Z (fun zw hx=>aj tu2 Z Z (al (hx.heap (H3.box 1 Z)) Z)) (dV Z Z (fun zw hx=>ag aD Z ts2 Z Z) (dV Z Z (fun zw hx=>aj tu2 Z Z (al (hx.heap (H3.box 0 Z)) Z)) (dV Z Z (fun zw hx=>ag aD Z ts2 Z Z) (dV Z Z (fun zw hx=>aj tu2 Z Z (al (hx.heap (H3.box 1 Z)) Z)) (dV Z Z (fun zw hx=>ag aD Z ts2 Z Z) (dV Z Z (fun zw hx=>aj tu2 Z Z (al (hx.heap (H3.box 0 Z)) Z)) (dV Z Z (fun zw hx=>ag aD Z ts2 Z Z) (dV Z Z (fun zw hx=>aj tu2 Z Z (al (hx.heap (H3.box 1 Z)) Z)) (dC func189 ov Z eW (fun v1 w3 r1=>?_)))))))))))));obtain ⟨e3,rfl⟩:=r1;have H4:=H3.to e3;refine dC func189 ov Z eW (fun v2 w4 r2=>?_);obtain ⟨e4,rfl⟩:=r2;have H5:=H4.to e4;refine dC func189 ov Z eW (fun v3 w5 r3=>?_);obtain ⟨e5,rfl⟩:=r3;have H6:=H5.to e5;refine GV ([jl x.Seq y.Seq,jl x.Kind y.Kind,jl x.Group y.Group]) Z ah Z E3 Dr Z Z (by intro x hx; unfold I64ok; simp only [List.mem_cons,List.not_mem_nil,or_false] at hx; omega) σ σ H6 (fun _ h e=>h.trans e.no) (fun b3 w6 e6 g3 H7=>dC func252 y5 Z (rE (H7.msees 2 Z)) (fun v4 w7 r4=>?_));obtain ⟨e7,rfl⟩:=r4;have H8:=H7.to e7;refine aW Z ah Z Z (bg Z) (bb (rT hQ results251 Z ?_));exact ⟨H8.ext,congrArg (Value.int .i64) HL⟩
theorem rI {w:World}{x r:Rec}{xA6 xA7 xA8 rA6 rA7 rA8:Option Addr}{xC6 xC7 xC8 rb rC6 rC7 rC8:Nat}(xK:x.Ok) (xS6:Sees w [.slice xA6 x.Rows.length xC6] x.Rows) (xS7:Sees w [.slice xA7 x.Data.length xC7] x.Data) (xS8:Sees w [.slice xA8 x.Delta.length xC8] x.Delta) (rB:w.heap[rb]? = some (.cells [.int .i64 r.Kind,.int .i64 r.Seq,.string r.Name,.int .i64 r.Length,.int .i64 r.Group,.int .i64 r.Row,.slice rA6 r.Rows.length rC6,.slice rA7 r.Data.length rC7,.slice rA8 r.Delta.length rC8].toArray 59)) (rK:r.Ok) (rS6:Sees w [.slice rA6 r.Rows.length rC6] r.Rows) (rS7:Sees w [.slice rA7 r.Data.length rC7] r.Data) (rS8:Sees w [.slice rA8 r.Delta.length rC8] r.Delta):Ret Tryz.prog 296 #[x.val xA6 xC6 xA7 xC7 xA8 xC8,.pointer (some ⟨rb,0,none⟩)] w fun v w'=>Ext No w w'∧(v = .bool (decide (x=r))):=by
 have xK2:=xK;unfold Rec.Ok at xK2
 try unfold I64ok at xK2
 try unfold maxLen at xK2
 have xN2:x.Name.size≤maxLen:=by unfold maxLen; omega
 have xL6:=sL xS6;obtain ⟨xF6,xO6⟩:=xS6;have xL7:=sL xS7;obtain ⟨xF7,xO7⟩:=xS7;have xL8:=sL xS8;obtain ⟨xF8,xO8⟩:=xS8;have rK2:=rK;unfold Rec.Ok at rK2
 try unfold I64ok at rK2
 try unfold maxLen at rK2
 have rN2:r.Name.size≤maxLen:=by unfold maxLen; omega
 have rL6:=sL rS6;obtain ⟨rF6,rO6⟩:=rS6;have rL7:=sL rS7;obtain ⟨rF7,rO7⟩:=rS7;have rL8:=sL rS8;obtain ⟨rF8,rO8⟩:=rS8;refine aH func296 Z ntmps296 Z (fun Q hQ hN=>?_);have H0:=Sep.start (ab xO6 (ab xO7 (ab xO8 (bX rB (ab rO6 (ab rO7 (ab rO8 aA)))))));refine ac (bu ah Z Z H0 (fun b1 w1 e1 g1 H1=>sA Z Z (aa (ac (sV Z (ak aD Z aO Z Z (At.whole (H1.box 0 Z))) (sV Z (ak aD Z aO Z Z (At.whole (H1.fbox 3 Z))) (sE func143 t3 Z (kA η (H1.sees 0 Z) (H1.sees 1 Z) (H1.sees 2 Z) η (H1.sees 4 Z) (H1.sees 5 Z) (H1.sees 6 Z)) H1 (fun w2 e2 H2=>rA hQ results296 Z ?_))))))));exact ⟨H2.ext,Z⟩
theorem t8 {w:World}{xs:List Rec}{xsA rA6 rA7 rA8:Option Addr}{xsC rC6 rC7 rC8:Nat}{r:Rec}(xsS:Sees w [.slice xsA xs.length xsC] xs) (rK:r.Ok) (rS6:Sees w [.slice rA6 r.Rows.length rC6] r.Rows) (rS7:Sees w [.slice rA7 r.Data.length rC7] r.Data) (rS8:Sees w [.slice rA8 r.Delta.length rC8] r.Delta):Ret Tryz.prog 249 #[.slice xsA xs.length xsC,r.val rA6 rC6 rA7 rC7 rA8 rC8] w fun v w'=>Ext No w w'∧(v = .bool (decide (r∈xs))):=by
 have xsL:=sL xsS;obtain ⟨xsF,xsO⟩:=xsS;have rK2:=rK;unfold Rec.Ok at rK2
 try unfold I64ok at rK2
 try unfold maxLen at rK2
 have rN2:r.Name.size≤maxLen:=by unfold maxLen; omega
 have rL6:=sL rS6;obtain ⟨rF6,rO6⟩:=rS6;have rL7:=sL rS7;obtain ⟨rF7,rO7⟩:=rS7;have rL8:=sL rS8;obtain ⟨rF8,rO8⟩:=rS8;refine aH func249 Z ntmps249 Z (fun Q hQ hN=>?_);have H0:=Sep.start (ab xsO (ab rO6 (ab rO7 (ab rO8 aA))));refine ac (bu ah Z Z H0 (fun b1 w1 e1 g1 H1=>sA Z Z (aa (ac (sM Z Z (sV Z (kl Z) (sE func267 sQ Z (iB (H1.sees 0 Z) (p:=(fun x=>decide (x=r))) func296 Z yx (fun w1 e1 i0 hi0 _ _ _ _ _ _ K0 o0_6 o0_7 o0_8=>rI K0 o0_6 o0_7 o0_8 ((H1.to e1).box 0 Z) η ((H1.to e1).sees 1 Z) ((H1.to e1).sees 2 Z) ((H1.to e1).sees 3 Z))) H1 (fun w2 e2 H2=>rA hQ results249 Z ?_))))))));exact ⟨H2.ext,congrArg Value.bool Hk⟩
theorem gM {w:World}{zb zC9 zC10 zC11:Nat}{z:Wld}{zA9 zA10 zA11:Option Addr}{zF9 zF10 zF11:List Nat}(zB:w.heap[zb]? = some (.cells [.int .i64 z.Shape.Groups,.int .i64 z.Shape.Column,.int .i64 z.Shape.Data,.int .i64 z.Shape.Spare,.int .i64 z.Shape.Rows,.int .i64 z.Shape.Cap,.int .i64 z.Shape.Batch,.int .i64 z.Shape.Queue,.int .i64 z.Shape.Stage,.slice zA9 z.Groups.length zC9,.slice zA10 z.On.length zC10,.slice zA11 z.Tapes.length zC11,.int .i64 z.Writes,.int .i64 z.Stop,.bool z.Down].toArray 31)) (zK:z.Ok) (zO9:own false w [.slice zA9 z.Groups.length zC9] z.Groups zF9) (zO10:own false w [.slice zA10 z.On.length zC10] z.On zF10) (zO11:own false w [.slice zA11 z.Tapes.length zC11] z.Tapes zF11) (hT:z.Tapes.length=2) (hrl:∀ k,(z.Tapes.getD k default).Recs.length≤200000):Ret Tryz.prog 182 #[.pointer (some ⟨zb,0,none⟩)] w fun v w'=>Ext No w w'∧(∃ vs,Res w w' [v] vs∧RdV w' zF11 vs∧vs.map RecV.r=eE z):=by
 have zK2:=zK;unfold Wld.Ok Shape.Ok at zK2
 try unfold I64ok at zK2
 try unfold maxLen at zK2
 have zL9:=oL zO9;have zL10:=oL zO10;have zL11:=oL zO11;refine aH func182 Z ntmps182 Z (fun Q hQ hN=>?_);have H0:=Sep.start (bX zB (ab zO9 (ab zO10 (ab zO11 aA))));refine ac (sA Z Z (aa (ac (eZ (α:=RecV) ah Z br dm H0 (fun b1 w1 e1 g1 H1=>sA Z Z (aa (ae (ac (sR 2 Z (sF be Z pm (sLd jk (H1.fbox 0 Z) Z (sV Z (aS jk Z) (sM Z Z (aa (ax (iT (α:=RecV) (γ:=Nat × List RecV) (fun (k,vs)=>vs) (0,[]) H1 0 Z 3 Z [(2,_),(12,_),(13,_)] ⟨Z,Z,Z,trivial⟩ (fun (k,vs)=>[(14,.int .i64 k)]) (fun (k,vs)=>k≤z.Tapes.length∧RdV w zF11 vs∧vs.map RecV.r=gT z k 0) (fun (k,vs)=>z.Tapes.length-k) ⟨Z,trivial⟩ ⟨by (try dsimp only); omega,RdV.nil,by (try dsimp only); rw [yF]; rfl⟩ (fun (k,vs) vA1 fA1 w2 H2 ⟨hk,hR,hM⟩=>?_)))))))))))))))));dsimp only[lCA,lNA,lSZ,lSS] at H2 ⊢;refine ac (sV Z (aX Z Z) (aa (ae (aC Z (fun c1=>?_) (fun c1=>?_)))))
 ·refine au (ae (ax (ae ?_)));obtain ⟨eb1,eo1,es1,ef1,ee1,ec1,eO1,eH1,em1⟩:=dr (H2.seen 3 Z) k ω;obtain ⟨ea1,ek1,eg1,rfl,eq1,eK1,eo2⟩:=jZ eO1;have eP1:=H2.look1 3 Z eo2 (fun b hb=>eH1 b (by rw [eq1]; simp [hb]));have eL1:=oL eo2;refine am (sV Z (aB jk kp Z Z ee1 k ω ω) (sV Z (ak gK Z kp Z Z ec1) (bB ah Z zeroValue121 eP1 (fun b2 w3 e2 g2 H3=>aF ah kp Z Z Z Z H3 1 Z Z (fun w4 e3 H4=>?_)))));dsimp only[lNA,lCA,lSZ,lSS,aI] at H4;refine aa (ac (sF gK Z jS (sLd br (H4.box 1 Z) Z (sV Z (aS br Z) (sM Z Z (aa (ax (iT (α:=RecV) (γ:=Nat × List RecV) (fun (j,vs2)=>vs2) (0,vs) H4 0 Z 3 Z [(2,_),(12,_),(13,_),(14,_),(19,_),(20,_)] ⟨Z,Z,Z,Z,Z,Z,trivial⟩ (fun (j,vs2)=>[(21,.int .i64 j)]) (fun (j,vs2)=>j≤(z.Tapes.getD k default).Recs.length∧RdV w zF11 vs2∧vs2.map RecV.r=gT z k j) (fun (j,vs2)=>(z.Tapes.getD k default).Recs.length-j) ⟨Z,trivial⟩ ⟨by (try dsimp only); omega,hR,hM⟩ (fun (j,vs2) vA2 fA2 w5 H5 ⟨hj,hR2,hM2⟩=>?_)))))))));dsimp only[lCA,lNA,lSZ,lSS] at H5 ⊢;refine ac (sV Z (aX Z Z) (aa (ae (aC Z (fun c2=>?_) (fun c2=>?_)))))
  ·refine au (ae (ax (ae ?_)));obtain ⟨eb2,eo3,es2,ef2,ee2,ec2,eO2,eH2,em2⟩:=dr (H5.seen 4 Z) j ω;obtain ⟨ea2,ek2,ea3,ek3,ea4,ek4,eg2,eg3,eg4,rfl,eq2,eK2,eo4,eo5,eo6⟩:=l5 eO2;have eK2U:=eK2;unfold Rec.Ok at eK2U
   try unfold I64ok at eK2U
   try unfold maxLen at eK2U
   have eP2:=H5.look1 4 Z eo4 (fun b hb=>eH2 b (by rw [eq2]; simp [hb]));have eL2:=oL eo4;have eP3:=eP2.look1 4 Z eo5 (fun b hb=>eH2 b (by rw [eq2]; simp [hb]));have eL3:=oL eo5;have eP4:=eP3.look1 4 Z eo6 (fun b hb=>eH2 b (by rw [eq2]; simp [hb]));have eL4:=oL eo6;refine am (sV Z (aB br aO Z Z ee2 j ω ω) (sV Z (ak aD Z aO Z Z ec2) (bB ah Z zeroValue59 eP4 (fun b3 w6 e4 g3 H6=>aF ah aO Z Z Z Z H6 2 Z Z (fun w7 e5 H7=>?_)))));dsimp only[lNA,lCA,lSZ,lSS,aI] at H7;refine aa (ae ?_);obtain ⟨oa,ok2,oq⟩:=an (H7.mine 0 Z);cases oq;have hE:=(InF.back (ft:=zF11) (cs:=((RecV.mk ((z.Tapes.getD k default).Recs.getD j default) ea2 ek2 ea3 ek3 ea4 ek4)).cs) (x:=((z.Tapes.getD k default).Recs.getD j default)) ⟨_,eO2,(fun b hb=>(fun b hb=>eH1 b (by rw [eq1]; simp [hb])) b (eH2 b hb))⟩ eP4.ext (Rp.lt zO11));have hvl:vs2.length=(gT z k j).length:=by rw [← hM2,List.length_map]
   have hcb:=s8 hT hrl (k:=k) (j:=j) ω (by have:=hrl k; omega);refine am (sM Z Z (sV Z (ak aD Z aO Z Z (At.whole (H7.box 2 Z))) (sE func249 yG Z (by have lc:=t8 (xs:=vs2.map RecV.r) (r:=((z.Tapes.getD k default).Recs.getD j default)) (by rw [List.length_map]; exact (hR2.to H7.ext).list (H7.mine 0 Z)) η (H7.sees 5 Z) (H7.sees 6 Z) (H7.sees 7 Z); rw [List.length_map] at lc; exact lc) H7 (fun w8 e6 H8=>sV Z (bh Z) (aa (cx Z (fun c3=>?_) (fun c3=>?_)))))))
   ·refine am (sM Z Z (sV Z (ak aD Z aO Z Z (At.whole (H8.box 2 Z))) (eB ah Z br dm Z Z Z Z H8 (fun b4 w9 e7 g4 H9=>jq ah Z br dm Z Z Z H9 0 3 Z Z (D4 (v:=(RecV.mk ((z.Tapes.getD k default).Recs.getD j default) ea2 ek2 ea3 ek3 ea4 ek4)) η) (by unfold maxLen; omega) ω (fun v2 w10 fp1 H10=>sA Z Z (aa (am (sV Z (aE Z Z iO) (sM Z Z (aa ?_))))))))));exact ⟨((j+1,vs2++[(RecV.mk ((z.Tapes.getD k default).Recs.getD j default) ea2 ek2 ea3 ek3 ea4 ek4)]),_,_),⟨Z,Z,Z,Z,Z,Z,Z,Z,trivial⟩,⟨((H10.ftake 5).dtake 2),by (try dsimp only); omega,hR2.snoc hE,by (try dsimp only); rw [List.map_append,hM2,so ω,HI (by rw [← hM2]; simpa using c3)]; rfl⟩,θ⟩
   ·refine au (am (sV Z (aE Z Z iO) (sM Z Z (aa ?_))));exact ⟨((j+1,vs2),_,_),⟨Z,Z,Z,Z,Z,Z,Z,Z,trivial⟩,⟨((H8.ftake 5).dtake 2),by (try dsimp only); omega,hR2,by (try dsimp only); rw [hM2,so ω,GX (by rw [← hM2]; simpa using c3)]⟩,θ⟩
  ·refine aT (am (sV Z (aE Z Z iO) (sM Z Z (aa ?_))));obtain rfl:j=(z.Tapes.getD k default).Recs.length:=by omega
   exact ⟨((k+1,vs2),_,_),⟨Z,Z,Z,Z,Z,trivial⟩,⟨((H5.ftake 4).dtake 1),by (try dsimp only); omega,hR2,by (try dsimp only); rw [hM2,Aw ω]⟩,θ⟩
 ·refine aT (ae ?_);obtain rfl:k=z.Tapes.length:=by omega
  have hvl:vs.length=(gT z z.Tapes.length 0).length:=by rw [← hM,List.length_map]
  have hcb:=s8 hT hrl (k:=z.Tapes.length) (j:=0) ω ω;refine am (sM Z Z ?_);obtain ⟨oa,ok2,oq⟩:=an (H2.mine 0 Z);cases oq;refine sC func250 zA Z (DF (ws:=vs) (gL:=[]) (H2.mine 0 Z) (H2.nodup1 (i:=0) Z) func251 Z zz (fun w1 e1 x y a6 c6 a7 c7 a8 c8 b6 d6 b7 d7 b8 d8=>kj) ω) (fun v3 w11 r2=>?_);obtain ⟨us,mm1,hS⟩:=r2;obtain ⟨fp2,H11⟩:=H2.mut 0 Z mm1
  try dsimp only[lNA,lCA,lSZ,lSS] at H11
  refine aa (ac (sR 2 Z (rN hQ results182 Z ?_)));exact ⟨H11.ext,us,H11.out 0 Z,(hR.stable hS).to H11.ext,F2 hM hS⟩
end Go.Wk
namespace Go.Wk
open Go.Proofs Rp Go.Proofs.Tryz
set_option maxRecDepth 10000
theorem ll {w:World}{x r:Rec}{xA6 xA7 xA8 rA6 rA7 rA8:Option Addr}{xC6 xC7 xC8 rb rC6 rC7 rC8:Nat}(xK:x.Ok) (xS6:Sees w [.slice xA6 x.Rows.length xC6] x.Rows) (xS7:Sees w [.slice xA7 x.Data.length xC7] x.Data) (xS8:Sees w [.slice xA8 x.Delta.length xC8] x.Delta) (rB:w.heap[rb]? = some (.cells [.int .i64 r.Kind,.int .i64 r.Seq,.string r.Name,.int .i64 r.Length,.int .i64 r.Group,.int .i64 r.Row,.slice rA6 r.Rows.length rC6,.slice rA7 r.Data.length rC7,.slice rA8 r.Delta.length rC8].toArray 59)) (rK:r.Ok) (rS6:Sees w [.slice rA6 r.Rows.length rC6] r.Rows) (rS7:Sees w [.slice rA7 r.Data.length rC7] r.Data) (rS8:Sees w [.slice rA8 r.Delta.length rC8] r.Delta):Ret Tryz.prog 271 #[x.val xA6 xC6 xA7 xC7 xA8 xC8,.pointer (some ⟨rb,0,none⟩)] w fun v w'=>Ext No w w'∧(v = .bool (spS r x)):=by
 have xK2:=xK;unfold Rec.Ok at xK2
 try unfold I64ok at xK2
 try unfold maxLen at xK2
 have xN2:x.Name.size≤maxLen:=by unfold maxLen; omega
 have xL6:=sL xS6;obtain ⟨xF6,xO6⟩:=xS6;have xL7:=sL xS7;obtain ⟨xF7,xO7⟩:=xS7;have xL8:=sL xS8;obtain ⟨xF8,xO8⟩:=xS8;have rK2:=rK;unfold Rec.Ok at rK2
 try unfold I64ok at rK2
 try unfold maxLen at rK2
 have rN2:r.Name.size≤maxLen:=by unfold maxLen; omega
 have rL6:=sL rS6;obtain ⟨rF6,rO6⟩:=rS6;have rL7:=sL rS7;obtain ⟨rF7,rO7⟩:=rS7;have rL8:=sL rS8;obtain ⟨rF8,rO8⟩:=rS8;refine aH func271 Z ntmps271 Z (fun Q hQ hN=>?_);have H0:=Sep.start (ab xO6 (ab xO7 (ab xO8 (bX rB (ab rO6 (ab rO7 (ab rO8 aA)))))));refine ac (bu ah Z Z H0 (fun b1 w1 e1 g1 H1=>sA Z Z (aa (ac (sF aD Z ts2 (sLd tu2 (H1.box 0 Z) Z (sR 2 Z (bR 5 (j:=3) (want:=true) (t:=12) Z Z Z Z (fun hg1 kk1=>ao (wgE Z Z Z hg1) Z Z (ag aD Z ts2 Z Z) (ao (wgE Z Z Z hg1) Z Z (aj tu2 Z Z (al (H1.box 0 Z) Z)) (ao (wgE Z Z Z hg1) Z Z (ag aD Z ts2 Z Z) (ao (wgE Z Z Z hg1) Z Z (aj tu2 Z Z (al (H1.fbox 3 Z) Z)) (ao (wgE Z Z Z hg1) Z Z (cT Z Z) (kk1 _ _ (kx Z (kx Z (kx Z (kx Z (kx Z k0))))) Z Ext.refl)))))) (fun w2 e2=>?_)))))))));have H2:=H1.to e2;refine sV Z (bz Z Z) (sM Z Z (bR 24 (j:=10) (want:=false) (t:=38) Z Z Z Z (fun hg2 kk2=>ao (wgE Z Z Z hg2) Z Z (ag aD Z ts2 Z Z) (ao (wgE Z Z Z hg2) Z Z (aj tu2 Z Z (al (H2.box 0 Z) Z)) (ao (wgE Z Z Z hg2) Z Z (cT Z Z) (ao (wgE Z Z Z hg2) Z Z (aL Z) (bR 5 (j:=14) (want:=true) (t:=23) Z Z Z Z (fun hg3 kk3=>ao (wgE Z Z Z hg3) Z Z (ag aD Z ts2 Z Z) (ao (wgE Z Z Z hg3) Z Z (aj tu2 Z Z (al (H2.box 0 Z) Z)) (ao (wgE Z Z Z hg3) Z Z (ag aD Z ts2 Z Z) (ao (wgE Z Z Z hg3) Z Z (aj tu2 Z Z (al (H2.fbox 3 Z) Z)) (ao (wgE Z Z Z hg3) Z Z (cT Z Z) (kk3 _ _ (kx Z (kx Z (kx Z (kx Z (kx Z k0))))) Z Ext.refl)))))) (fun w4 e4=>ao (wgE Z Z Z hg2) Z Z (bz Z Z) (ao (wgE Z Z Z hg2) Z Z (aL Z) (bR 5 (j:=21) (want:=true) (t:=30) Z Z Z Z (fun hg4 kk4=>ao (wgE Z Z Z hg4) Z Z (ag aD Z ts2 Z Z) (ao (wgE Z Z Z hg4) Z Z (aj tu2 Z Z (al ((H2.to e4).box 0 Z) Z)) (ao (wgE Z Z Z hg4) Z Z (ag aD Z ts2 Z Z) (ao (wgE Z Z Z hg4) Z Z (aj tu2 Z Z (al ((H2.to e4).fbox 3 Z) Z)) (ao (wgE Z Z Z hg4) Z Z (cT Z Z) (kk4 _ _ (kx Z (kx Z (kx Z (kx Z (kx Z k0))))) Z Ext.refl)))))) (fun w5 e5=>ao (wgE Z Z Z hg2) Z Z (bz Z Z) (ao (wgE Z Z Z hg2) Z Z (aL Z) (bR 5 (j:=28) (want:=true) (t:=37) Z Z Z Z (fun hg5 kk5=>ao (wgE Z Z Z hg5) Z Z (ag aD Z ts2 Z Z) (ao (wgE Z Z Z hg5) Z Z (aj tu2 Z Z (al (((H2.to e4).to e5).box 0 Z) Z)) (ao (wgE Z Z Z hg5) Z Z (ag aD Z ts2 Z Z) (ao (wgE Z Z Z hg5) Z Z (aj tu2 Z Z (al (((H2.to e4).to e5).fbox 3 Z) Z)) (ao (wgE Z Z Z hg5) Z Z (mu Z Z) (kk5 _ _ (kx Z (kx Z (kx Z (kx Z (kx Z k0))))) Z Ext.refl)))))) (fun w6 e6=>ao (wgE Z Z Z hg2) Z Z (bz Z Z) (kk2 _ _ (kx Z (kx Z (kx Z (kx Z (kx Z (kx Z (kx Z (kx Z (kx Z (kx Z (kx Z (kx Z k0)))))))))))) Z (((Ext.refl.trans e4).trans e5).trans e6)))))))))))))) (fun w3 e3=>?_)));have H6:=H2.to e3;refine sV Z (fJ Z Z) (rA hQ results271 Z ?_);exact ⟨H6.ext,congrArg Value.bool (by unfold spS; simp only [Bool.and_assoc])⟩
theorem mm {w:World}{zp xsA:Option Addr}{xs:List Rec}{xsC a:Nat}(xsS:Sees w [.slice xsA xs.length xsC] xs) (ha:a<xs.length) (hk4:(xs.getD a default).Kind=4):Ret Tryz.prog 221 #[.pointer zp,.slice xsA xs.length xsC,.int .i64 a] w fun v w'=>Ext No w w'∧(v = .bool (xs.any (spS (xs.getD a default)))):=by
 have xsL:=sL xsS;obtain ⟨xsF,xsO⟩:=xsS;refine aH func221 Z ntmps221 Z (fun Q hQ hN=>?_);have H0:=Sep.start (ab xsO aA);refine ac (sA Z Z (aa (ae ?_)));obtain ⟨eb1,eo1,es1,ef1,ee1,ec1,eO1,eH1,em1⟩:=dr (H0.seen 0 Z) a ω;obtain ⟨ea1,ek1,ea2,ek2,ea3,ek3,eg1,eg2,eg3,rfl,eq1,eK1,eo2,eo3,eo4⟩:=l5 eO1;have eK1U:=eK1;unfold Rec.Ok at eK1U
 try unfold I64ok at eK1U
 try unfold maxLen at eK1U
 have eP1:=H0.look1 0 Z eo2 (fun b hb=>eH1 b (by rw [eq1]; simp [hb]));have eL1:=oL eo2;have eP2:=eP1.look1 0 Z eo3 (fun b hb=>eH1 b (by rw [eq1]; simp [hb]));have eL2:=oL eo3;have eP3:=eP2.look1 0 Z eo4 (fun b hb=>eH1 b (by rw [eq1]; simp [hb]));have eL3:=oL eo4;refine am (sR 2 Z (sV Z (aB br aO Z Z ee1 a ω ω) (sV Z (ak aD Z aO Z Z ec1) (bB ah Z zeroValue59 eP3 (fun b1 w1 e1 g1 H1=>aF ah aO Z Z Z Z H1 0 Z Z (fun w2 e2 H2=>?_))))));dsimp only[lNA,lCA,lSZ,lSS,aI] at H2;refine aa (ae (ac (sF aD Z ts2 (sLd tu2 (H2.box 0 Z) Z (aa (ax (ac (sR 2 Z (aa (aC Z (fun c1=>?_) (fun c1=>?_)))))))))))
 ·exact absurd c1 ω
 ·refine ac (sR 2 Z (aa (aC Z (fun c2=>?_) (fun c2=>?_))))
  ·exact absurd c2 ω
  ·refine ac (sR 2 Z (aa (aC Z (fun c3=>?_) (fun c3=>?_))))
   ·exact absurd c3 ω
   ·refine au (ac (sM Z Z (sV Z (kl Z) (sE func267 sQ Z (iB (H2.sees 0 Z) (p:=(spS (xs.getD a default))) func271 Z zC (fun w1 e1 i0 hi0 _ _ _ _ _ _ K0 o0_6 o0_7 o0_8=>ll K0 o0_6 o0_7 o0_8 ((H2.to e1).box 0 Z) η ((H2.to e1).sees 1 Z) ((H2.to e1).sees 2 Z) ((H2.to e1).sees 3 Z))) H2 (fun w3 e3 H3=>rA hQ results221 Z ?_)))));exact ⟨H3.ext,Z⟩
end Go.Wk
namespace Go.Wk
open Go.Proofs Rp Go.Proofs.Tryz
set_option maxRecDepth 10000
theorem ug {w:World}{A:Option Addr}{n C:Nat}:Ret Tryz.prog 220 #[.slice A n C] w fun v w'=>Ext No w w'∧∃ b,w.heap.size≤b∧v = .func (.func 266) #[] #[.pointer (some ⟨b,0,none⟩)]∧w'.heap[b]? = some (.cells [.slice A n C].toArray 119):=by
 refine aH func220 Z ntmps220 Z (fun Q hQ hN=>?_);have H0:=Sep.start (w:=w) (F:=[]) σ;refine ac (bu ah Z Z H0 (fun b1 w1 e1 g1 H1=>?_));dsimp only[lNA,lCA] at H1;refine sA Z Z (aa (ac (sV Z (kl Z) (rA hQ results220 Z ?_))));exact ⟨H1.ext,b1,g1,Z,H1.box 0 Z⟩
theorem x4 {w:World}{l b1 n C:Nat}{A:Option Addr}{val:Nat→List Value}{J:Nat→World→Prop}{K:World→Prop}(hn:n≤1000000)
  (hb:∀ i W,J i W→W.heap[b1]? = some (.cells [.slice A n C].toArray 119))
  (hc:∀ i W,J (i+1) W→i<n→∃ b o,A=some ⟨b,o,none⟩∧At W b (o+i*9) (val i))
  (hY:∀ i W,J (i+1) W→i<n→YieldAt (inF none) 2 Tryz.prog l #[.int .i64 (i:Nat),.agg (val i).toArray] W fun e W'=>e = .returned (.bool true)∧J i W'∨e = .returned (.bool false)∧K W') (hv:∀ i,(val i).length=9) (h0:J n w) :
  Ret Tryz.prog 266 #[.func (.yield l) #[] #[],.pointer (some ⟨b1,0,none⟩)] w fun _ w'=>J 0 w'∨K w':=by
 refine aH func266 Z ntmps266 Z (fun Q hQ hN=>ac (sLd br (hb _ _ h0) Z (sV Z (aS br Z) (sV Z (ci Z Z iO) (sA Z Z (aa (ax (bP (γ:=Nat) (fun i=>[(0,.func (.yield l) #[] #[]),(1,.pointer (some ⟨b1,0,none⟩)),(3,.int .i64 ((i:Int)-1))]) (fun i w'=>i≤n∧J i w') (fun i=>i) n ⟨Z,Z,Z,trivial⟩ ⟨Nat.le_refl _,h0⟩ (fun i w1 hI=>?_)))))))));obtain ⟨hi,hJ⟩:=hI;refine ae (ac (sR 2 Z (aa (aC Z (fun c1=>?_) (fun c1=>?_)))))
 ·obtain ⟨j,rfl⟩:∃ j,i=j+1:=⟨i-1,ω⟩;have ej:((j+1:Nat):Int)-1=(j:Nat):=by omega
  rw [ej];obtain ⟨b,o,hA,hat⟩:=hc j w1 hJ ω;refine au (ae (ax (ae (Hx (m5 (eK ah Z Z (aL Z) (eK ah Z Z (aL Z) (eK ah Z Z (aj br Z Z (al (hb _ _ hJ) Z)) (eK ah Z Z (aL Z) (eK ah Z Z (aB br aO Z Z hA j Z ω) (eK ah Z Z (ak aD Z aO Z (hv j) hat) (Dc Z Z Z Z (hY j _ hJ ω) (fun e w2 he=>?_)))))))))))))
  rcases he with ⟨rfl,hJ2⟩ | ⟨rfl,hK⟩
  ·refine ⟨_,Z,?_⟩;refine eK ah Z Z (bh Z) (pJ (md Z (au (am (sM Z Z (sV Z (ci Z Z iO) (sA Z Z (aa ?_))))))));exact ⟨j,⟨Z,Z,Z,trivial⟩,⟨ω,hJ2⟩,θ⟩
  ·refine ⟨_,Z,?_⟩;refine eK ah Z Z (bh Z) (pJ (jR Z (bc (hQ _ _ (jo results266 ?_)))));exact .inr hK
 ·obtain rfl:i=0:=by omega
  refine aT (hN _ _ (jo results266 ?_));exact .inl hJ
theorem dX {w:World}{zb zC9 zC10 zC11:Nat}{z:Wld}{zA9 zA10 zA11:Option Addr}{zF9 zF10 zF11:List Nat}{g row:Int}(zB:w.heap[zb]? = some (.cells [.int .i64 z.Shape.Groups,.int .i64 z.Shape.Column,.int .i64 z.Shape.Data,.int .i64 z.Shape.Spare,.int .i64 z.Shape.Rows,.int .i64 z.Shape.Cap,.int .i64 z.Shape.Batch,.int .i64 z.Shape.Queue,.int .i64 z.Shape.Stage,.slice zA9 z.Groups.length zC9,.slice zA10 z.On.length zC10,.slice zA11 z.Tapes.length zC11,.int .i64 z.Writes,.int .i64 z.Stop,.bool z.Down].toArray 31)) (zK:z.Ok) (zO9:own false w [.slice zA9 z.Groups.length zC9] z.Groups zF9) (zO10:own false w [.slice zA10 z.On.length zC10] z.On zF10) (zO11:own false w [.slice zA11 z.Tapes.length zC11] z.Tapes zF11) (hT:z.Tapes.length=2) (hrl:∀ k,(z.Tapes.getD k default).Recs.length≤200000):Ret Tryz.prog 150 #[.pointer (some ⟨zb,0,none⟩),.int .i64 g,.int .i64 row] w fun v w'=>Ext No w w'∧(∃ A6 C6 A7 C7 A8 C8,v = .tuple #[(opR z g row).val A6 C6 A7 C7 A8 C8,.bool (ju z g row)]∧InF w' zF11 (RecV.mk (opR z g row) A6 C6 A7 C7 A8 C8).cs (opR z g row)):=by
 have zK2:=zK;unfold Wld.Ok Shape.Ok at zK2
 try unfold I64ok at zK2
 try unfold maxLen at zK2
 have zL9:=oL zO9;have zL10:=oL zO10;have zL11:=oL zO11;refine uQ (vs:=[.pointer (some ⟨zb,0,none⟩),.int .i64 g,.int .i64 row]) func150 Z ntmps150 Z (fun a ha=>?_);have H0:=Sep.start (bX zB (ab zO9 (ab zO10 (ab zO11 aA))));refine z4 (L:=nQ 0 _) (B:=fun L' w'=>∃ b1 b2 b3 b4 b5,sub L' [(3,.pointer (some ⟨b1,0,none⟩)),(4,.pointer (some ⟨b2,0,none⟩)),(5,.pointer (some ⟨b3,0,none⟩)),(6,.pointer (some ⟨b4,0,none⟩)),(7,.pointer (some ⟨b5,0,none⟩))]∧Sep No w [box b1 (.cells [.pointer (some ⟨zb,0,none⟩)].toArray 86),box b2 (.cells [.int .i64 g].toArray 2),box b3 (.cells [.int .i64 row].toArray 2),box b4 (.cells [.int .i64 0,.int .i64 0,.string ⟨#[]⟩,.int .i64 0,.int .i64 0,.int .i64 0,.slice none 0 0,.slice none 0 0,.slice none 0 0].toArray 59),box b5 (.cells [.bool false].toArray 4)] [box zb (.cells [.int .i64 z.Shape.Groups,.int .i64 z.Shape.Column,.int .i64 z.Shape.Data,.int .i64 z.Shape.Spare,.int .i64 z.Shape.Rows,.int .i64 z.Shape.Cap,.int .i64 z.Shape.Batch,.int .i64 z.Shape.Queue,.int .i64 z.Shape.Stage,.slice zA9 z.Groups.length zC9,.slice zA10 z.On.length zC10,.slice zA11 z.Tapes.length zC11,.int .i64 z.Writes,.int .i64 z.Stop,.bool z.Down].toArray 31),seen false [.slice zA9 z.Groups.length zC9] z.Groups zF9,seen false [.slice zA10 z.On.length zC10] z.On zF10,seen false [.slice zA11 z.Tapes.length zC11] z.Tapes zF11] w') ha ?_ (fun a1 L1 w1 ha1 hB=>?_)
 ·refine nn Z (bu ah Z Z H0 (fun b11 w11 e1 g1 H11=>bu ah Z Z H11 (fun b12 w12 e2 g2 H12=>bu ah Z Z H12 (fun b13 w13 e3 g3 H13=>bB ah Z zeroValue59 H13 (fun b14 w14 e4 g4 H14=>bB ah Z zeroValue4 H14 (fun b15 w15 e5 g5 H15=>aa ?_))))));exact ⟨Z,_,_,_,_,_,⟨Z,Z,Z,Z,Z,trivial⟩,H15⟩
 obtain ⟨b1,b2,b3,b4,b5,hs1,H1⟩:=hB;replace ha1:=ha1.weak hs1;refine z4 (B:=fun L' w'=>∃ b6 vs sa sk fp,sub L' [(3,.pointer (some ⟨b1,0,none⟩)),(4,.pointer (some ⟨b2,0,none⟩)),(5,.pointer (some ⟨b3,0,none⟩)),(6,.pointer (some ⟨b4,0,none⟩)),(7,.pointer (some ⟨b5,0,none⟩)),(8,.pointer (some ⟨b6,0,none⟩))]∧Sep No w [box b1 (.cells [.pointer (some ⟨zb,0,none⟩)].toArray 86),box b2 (.cells [.int .i64 g].toArray 2),box b3 (.cells [.int .i64 row].toArray 2),box b4 (.cells [.int .i64 0,.int .i64 0,.string ⟨#[]⟩,.int .i64 0,.int .i64 0,.int .i64 0,.slice none 0 0,.slice none 0 0,.slice none 0 0].toArray 59),box b5 (.cells [.bool false].toArray 4),mine [.slice sa vs.length sk] vs fp,box b6 (.cells [.slice sa vs.length sk].toArray 119)] [box zb (.cells [.int .i64 z.Shape.Groups,.int .i64 z.Shape.Column,.int .i64 z.Shape.Data,.int .i64 z.Shape.Spare,.int .i64 z.Shape.Rows,.int .i64 z.Shape.Cap,.int .i64 z.Shape.Batch,.int .i64 z.Shape.Queue,.int .i64 z.Shape.Stage,.slice zA9 z.Groups.length zC9,.slice zA10 z.On.length zC10,.slice zA11 z.Tapes.length zC11,.int .i64 z.Writes,.int .i64 z.Stop,.bool z.Down].toArray 31),seen false [.slice zA9 z.Groups.length zC9] z.Groups zF9,seen false [.slice zA10 z.On.length zC10] z.On zF10,seen false [.slice zA11 z.Tapes.length zC11] z.Tapes zF11] w'∧RdV w zF11 vs∧vs.map RecV.r=eE z) ha1 ?_ (fun a2 L2 w2 ha2 hB=>?_)
 ·refine nn Z (sLd xN (H1.box 0 Z) Z (sC func182 sx Z (gM (H1.fbox 0 Z) η (az (H1.seen 1 Z)) (az (H1.seen 2 Z)) (az (H1.seen 3 Z)) ξ ξ) (fun v1 w11 r1=>?_)));obtain ⟨e1,vs1,r1,hR1,hM1⟩:=r1;obtain ⟨fp1,H11⟩:=H1.res e1 r1;obtain ⟨sa1,sk1,sq1⟩:=an (H11.mine 5 Z);cases sq1;have hl1:vs1.length=(eE z).length:=by rw [← hM1,List.length_map]
  have hb1:=vC (z:=z) ξ η;have hRw1:RdV w zF11 vs1:=hR1.back H11.ext (Rp.lt zO11);refine bB ah Z zeroValue119 H11 (fun b11 w12 e2 g1 H12=>fm ah jS Z Z Z H12 6 Z Z (fun w13 e3 H13=>?_));dsimp only[lNA,lCA,lSZ,lSS,aI] at H13;refine aa ?_;exact ⟨Z,_,_,_,_,_,⟨Z,Z,Z,Z,Z,Z,trivial⟩,H13,hRw1,hM1⟩
 obtain ⟨b6,vs,sa,sk,fp,hs2,H2,hR,hM⟩:=hB;replace ha2:=ha2.weak hs2;have hl:vs.length=(eE z).length:=by rw [← hM,List.length_map]
 have hcb:=vC (z:=z) η η;refine wpIn_seq (z4 (B:=fun L' w'=>∃ b7,sub L' [(14,.func (.func 266) #[] #[.pointer (some ⟨b7,0,none⟩)]),(3,.pointer (some ⟨b1,0,none⟩)),(4,.pointer (some ⟨b2,0,none⟩)),(5,.pointer (some ⟨b3,0,none⟩)),(6,.pointer (some ⟨b4,0,none⟩)),(7,.pointer (some ⟨b5,0,none⟩)),(8,.pointer (some ⟨b6,0,none⟩))]∧Sep No w [box b1 (.cells [.pointer (some ⟨zb,0,none⟩)].toArray 86),box b2 (.cells [.int .i64 g].toArray 2),box b3 (.cells [.int .i64 row].toArray 2),box b4 (.cells [.int .i64 0,.int .i64 0,.string ⟨#[]⟩,.int .i64 0,.int .i64 0,.int .i64 0,.slice none 0 0,.slice none 0 0,.slice none 0 0].toArray 59),box b5 (.cells [.bool false].toArray 4),mine [.slice sa vs.length sk] vs fp,box b6 (.cells [.slice sa vs.length sk].toArray 119),box b7 (.cells [.slice sa vs.length sk].toArray 119)] [box zb (.cells [.int .i64 z.Shape.Groups,.int .i64 z.Shape.Column,.int .i64 z.Shape.Data,.int .i64 z.Shape.Spare,.int .i64 z.Shape.Rows,.int .i64 z.Shape.Cap,.int .i64 z.Shape.Batch,.int .i64 z.Shape.Queue,.int .i64 z.Shape.Stage,.slice zA9 z.Groups.length zC9,.slice zA10 z.On.length zC10,.slice zA11 z.Tapes.length zC11,.int .i64 z.Writes,.int .i64 z.Stop,.bool z.Down].toArray 31),seen false [.slice zA9 z.Groups.length zC9] z.Groups zF9,seen false [.slice zA10 z.On.length zC10] z.On zF10,seen false [.slice zA11 z.Tapes.length zC11] z.Tapes zF11] w') ha2 ?_ (fun a3 L3 w3 ha3 hB=>?_))
 ·refine nn Z (sLd br (H2.box 6 Z) Z (sC func220 yl Z ug (fun v9 w9 r9=>?_)));obtain ⟨e9,b7,g7,rfl,h7⟩:=r9;have H9:=H2.add e9 (r:=box b7 (.cells [.slice sa vs.length sk].toArray 119)) (by exact h7) (by simp [Wk.box]) (by simpa [Wk.box] using g7);refine aa ?_;exact ⟨Z,b7,⟨Z,Z,Z,Z,Z,Z,Z,trivial⟩,H9⟩
 obtain ⟨b7,hs3,H3⟩:=hB;replace ha3:=ha3.weak hs3;refine wpIn_block (BJ ha3 (lb := #[.pointer (some ⟨b7,0,none⟩)]) Z func266 Z zX (K:=fun W=>∃ o,Sep No w [box b1 (.cells [.pointer (some ⟨zb,0,none⟩)].toArray 86),box b2 (.cells [.int .i64 g].toArray 2),box b3 (.cells [.int .i64 row].toArray 2),box b4 (.cells [.int .i64 0,.int .i64 0,.string ⟨#[]⟩,.int .i64 0,.int .i64 0,.int .i64 0,.slice none 0 0,.slice none 0 0,.slice none 0 0].toArray 59),box b5 (.cells [.bool false].toArray 4),mine [.slice sa vs.length sk] vs fp,box b6 (.cells [.slice sa vs.length sk].toArray 119),box b7 (.cells [.slice sa vs.length sk].toArray 119),box w3.heap.size (.deferred (some [])),box (w3.heap.size+1) o] [box zb (.cells [.int .i64 z.Shape.Groups,.int .i64 z.Shape.Column,.int .i64 z.Shape.Data,.int .i64 z.Shape.Spare,.int .i64 z.Shape.Rows,.int .i64 z.Shape.Cap,.int .i64 z.Shape.Batch,.int .i64 z.Shape.Queue,.int .i64 z.Shape.Stage,.slice zA9 z.Groups.length zC9,.slice zA10 z.On.length zC10,.slice zA11 z.Tapes.length zC11,.int .i64 z.Writes,.int .i64 z.Stop,.bool z.Down].toArray 31),seen false [.slice zA9 z.Groups.length zC9] z.Groups zF9,seen false [.slice zA10 z.On.length zC10] z.On zF10,seen false [.slice zA11 z.Tapes.length zC11] z.Tapes zF11] W∧(∀ j,j<vs.length→shP g row (vs.getD j default).r=false)) (K2:=fun W=>∃ o i,Sep No w [box b1 (.cells [.pointer (some ⟨zb,0,none⟩)].toArray 86),box b2 (.cells [.int .i64 g].toArray 2),box b3 (.cells [.int .i64 row].toArray 2),box b4 (.cells [.int .i64 (vs.getD i default).r.Kind,.int .i64 (vs.getD i default).r.Seq,.string (vs.getD i default).r.Name,.int .i64 (vs.getD i default).r.Length,.int .i64 (vs.getD i default).r.Group,.int .i64 (vs.getD i default).r.Row,.slice (vs.getD i default).A6 (vs.getD i default).r.Rows.length (vs.getD i default).C6,.slice (vs.getD i default).A7 (vs.getD i default).r.Data.length (vs.getD i default).C7,.slice (vs.getD i default).A8 (vs.getD i default).r.Delta.length (vs.getD i default).C8].toArray 59),box b5 (.cells [.bool (!((eE z).any (spS ((eE z).getD i default))))].toArray 4),mine [.slice sa vs.length sk] vs fp,box b6 (.cells [.slice sa vs.length sk].toArray 119),box b7 (.cells [.slice sa vs.length sk].toArray 119),box w3.heap.size (.deferred (some [])),box (w3.heap.size+1) o] [box zb (.cells [.int .i64 z.Shape.Groups,.int .i64 z.Shape.Column,.int .i64 z.Shape.Data,.int .i64 z.Shape.Spare,.int .i64 z.Shape.Rows,.int .i64 z.Shape.Cap,.int .i64 z.Shape.Batch,.int .i64 z.Shape.Queue,.int .i64 z.Shape.Stage,.slice zA9 z.Groups.length zC9,.slice zA10 z.On.length zC10,.slice zA11 z.Tapes.length zC11,.int .i64 z.Writes,.int .i64 z.Stop,.bool z.Down].toArray 31),seen false [.slice zA9 z.Groups.length zC9] z.Groups zF9,seen false [.slice zA10 z.On.length zC10] z.On zF10,seen false [.slice zA11 z.Tapes.length zC11] z.Tapes zF11] W∧i<vs.length∧shP g row (vs.getD i default).r=true∧(∀ j,i<j→j<vs.length→shP g row (vs.getD j default).r=false)) (fun R fn hR2=>?_) (fun W hK=>?_) (fun W hK=>?_))
 ·have e1:(w3.alloc (.deferred (some []))).heap.size=w3.heap.size+1:=by simp
  have HA:=(H3.alloc (.deferred (some []))).alloc (.loop (R .ready none));rw [e1] at HA
  try dsimp only[lNA,lCA,lSZ,lSS] at HA
  refine Ret.mono (x4 (A:=sa) (n:=vs.length) (C:=sk) (b1:=b7) (val:=fun i=>[.int .i64 (vs.getD i default).r.Kind,.int .i64 (vs.getD i default).r.Seq,.string (vs.getD i default).r.Name,.int .i64 (vs.getD i default).r.Length,.int .i64 (vs.getD i default).r.Group,.int .i64 (vs.getD i default).r.Row,.slice (vs.getD i default).A6 (vs.getD i default).r.Rows.length (vs.getD i default).C6,.slice (vs.getD i default).A7 (vs.getD i default).r.Data.length (vs.getD i default).C7,.slice (vs.getD i default).A8 (vs.getD i default).r.Delta.length (vs.getD i default).C8]) (J:=fun i W=>Sep No w [box b1 (.cells [.pointer (some ⟨zb,0,none⟩)].toArray 86),box b2 (.cells [.int .i64 g].toArray 2),box b3 (.cells [.int .i64 row].toArray 2),box b4 (.cells [.int .i64 0,.int .i64 0,.string ⟨#[]⟩,.int .i64 0,.int .i64 0,.int .i64 0,.slice none 0 0,.slice none 0 0,.slice none 0 0].toArray 59),box b5 (.cells [.bool false].toArray 4),mine [.slice sa vs.length sk] vs fp,box b6 (.cells [.slice sa vs.length sk].toArray 119),box b7 (.cells [.slice sa vs.length sk].toArray 119),box w3.heap.size (.deferred (some [])),box (w3.heap.size+1) (.loop (R .ready none))] [box zb (.cells [.int .i64 z.Shape.Groups,.int .i64 z.Shape.Column,.int .i64 z.Shape.Data,.int .i64 z.Shape.Spare,.int .i64 z.Shape.Rows,.int .i64 z.Shape.Cap,.int .i64 z.Shape.Batch,.int .i64 z.Shape.Queue,.int .i64 z.Shape.Stage,.slice zA9 z.Groups.length zC9,.slice zA10 z.On.length zC10,.slice zA11 z.Tapes.length zC11,.int .i64 z.Writes,.int .i64 z.Stop,.bool z.Down].toArray 31),seen false [.slice zA9 z.Groups.length zC9] z.Groups zF9,seen false [.slice zA10 z.On.length zC10] z.On zF10,seen false [.slice zA11 z.Tapes.length zC11] z.Tapes zF11] W∧∀ j,i≤j→j<vs.length→shP g row (vs.getD j default).r=false) (K:=fun W=>∃ i,Sep No w [box b1 (.cells [.pointer (some ⟨zb,0,none⟩)].toArray 86),box b2 (.cells [.int .i64 g].toArray 2),box b3 (.cells [.int .i64 row].toArray 2),box b4 (.cells [.int .i64 (vs.getD i default).r.Kind,.int .i64 (vs.getD i default).r.Seq,.string (vs.getD i default).r.Name,.int .i64 (vs.getD i default).r.Length,.int .i64 (vs.getD i default).r.Group,.int .i64 (vs.getD i default).r.Row,.slice (vs.getD i default).A6 (vs.getD i default).r.Rows.length (vs.getD i default).C6,.slice (vs.getD i default).A7 (vs.getD i default).r.Data.length (vs.getD i default).C7,.slice (vs.getD i default).A8 (vs.getD i default).r.Delta.length (vs.getD i default).C8].toArray 59),box b5 (.cells [.bool (!((eE z).any (spS ((eE z).getD i default))))].toArray 4),mine [.slice sa vs.length sk] vs fp,box b6 (.cells [.slice sa vs.length sk].toArray 119),box b7 (.cells [.slice sa vs.length sk].toArray 119),box w3.heap.size (.deferred (some [])),box (w3.heap.size+1) (.loop (R .done (some .ret)))] [box zb (.cells [.int .i64 z.Shape.Groups,.int .i64 z.Shape.Column,.int .i64 z.Shape.Data,.int .i64 z.Shape.Spare,.int .i64 z.Shape.Rows,.int .i64 z.Shape.Cap,.int .i64 z.Shape.Batch,.int .i64 z.Shape.Queue,.int .i64 z.Shape.Stage,.slice zA9 z.Groups.length zC9,.slice zA10 z.On.length zC10,.slice zA11 z.Tapes.length zC11,.int .i64 z.Writes,.int .i64 z.Stop,.bool z.Down].toArray 31),seen false [.slice zA9 z.Groups.length zC9] z.Groups zF9,seen false [.slice zA10 z.On.length zC10] z.On zF10,seen false [.slice zA11 z.Tapes.length zC11] z.Tapes zF11] W∧i<vs.length∧shP g row (vs.getD i default).r=true∧(∀ j,i<j→j<vs.length→shP g row (vs.getD j default).r=false)) ω ?_ ?_ ?_ (fun _=>Z) ⟨HA,fun j h1 h2=>by omega⟩) ?_
  ·rintro i W ⟨H,_⟩
   exact H.box 7 Z
  ·rintro i W ⟨H,_⟩ hi
   obtain ⟨b,o,h1,h2,_⟩:=H.viewAt 5 Z i hi;exact ⟨b,o,h1,h2⟩
  ·rintro i W ⟨HJ,hJ⟩ hi
   have hvo:=hR.okAt hi;have hy:=CL (P:=Tryz.prog) (u1 := .int .i64 (i:Nat)) (u2 := .agg [.int .i64 (vs.getD i default).r.Kind,.int .i64 (vs.getD i default).r.Seq,.string (vs.getD i default).r.Name,.int .i64 (vs.getD i default).r.Length,.int .i64 (vs.getD i default).r.Group,.int .i64 (vs.getD i default).r.Row,.slice (vs.getD i default).A6 (vs.getD i default).r.Rows.length (vs.getD i default).C6,.slice (vs.getD i default).A7 (vs.getD i default).r.Data.length (vs.getD i default).C7,.slice (vs.getD i default).A8 (vs.getD i default).r.Delta.length (vs.getD i default).C8].toArray) hR2 ha3.1 Z Z (HJ.box 9 Z)
    (A:=fun L' W'=>∃ b10,sub L' [(9,.int .i64 (i:Nat)),(10,.pointer (some ⟨b10,0,none⟩)),(3,.pointer (some ⟨b1,0,none⟩)),(4,.pointer (some ⟨b2,0,none⟩)),(5,.pointer (some ⟨b3,0,none⟩)),(6,.pointer (some ⟨b4,0,none⟩)),(7,.pointer (some ⟨b5,0,none⟩)),(8,.pointer (some ⟨b6,0,none⟩))]∧Sep No w [box b1 (.cells [.pointer (some ⟨zb,0,none⟩)].toArray 86),box b2 (.cells [.int .i64 g].toArray 2),box b3 (.cells [.int .i64 row].toArray 2),box b4 (.cells [.int .i64 0,.int .i64 0,.string ⟨#[]⟩,.int .i64 0,.int .i64 0,.int .i64 0,.slice none 0 0,.slice none 0 0,.slice none 0 0].toArray 59),box b5 (.cells [.bool false].toArray 4),mine [.slice sa vs.length sk] vs fp,box b6 (.cells [.slice sa vs.length sk].toArray 119),box b7 (.cells [.slice sa vs.length sk].toArray 119),box w3.heap.size (.deferred (some [])),box (w3.heap.size+1) (.loop (R .ready none)),box b10 (.cells [.int .i64 (vs.getD i default).r.Kind,.int .i64 (vs.getD i default).r.Seq,.string (vs.getD i default).r.Name,.int .i64 (vs.getD i default).r.Length,.int .i64 (vs.getD i default).r.Group,.int .i64 (vs.getD i default).r.Row,.slice (vs.getD i default).A6 (vs.getD i default).r.Rows.length (vs.getD i default).C6,.slice (vs.getD i default).A7 (vs.getD i default).r.Data.length (vs.getD i default).C7,.slice (vs.getD i default).A8 (vs.getD i default).r.Delta.length (vs.getD i default).C8].toArray 59)] [box zb (.cells [.int .i64 z.Shape.Groups,.int .i64 z.Shape.Column,.int .i64 z.Shape.Data,.int .i64 z.Shape.Spare,.int .i64 z.Shape.Rows,.int .i64 z.Shape.Cap,.int .i64 z.Shape.Batch,.int .i64 z.Shape.Queue,.int .i64 z.Shape.Stage,.slice zA9 z.Groups.length zC9,.slice zA10 z.On.length zC10,.slice zA11 z.Tapes.length zC11,.int .i64 z.Writes,.int .i64 z.Stop,.bool z.Down].toArray 31),seen false [.slice zA9 z.Groups.length zC9] z.Groups zF9,seen false [.slice zA10 z.On.length zC10] z.On zF10,seen false [.slice zA11 z.Tapes.length zC11] z.Tapes zF11] W')
    (B:=fun W2=>Sep No w [box b1 (.cells [.pointer (some ⟨zb,0,none⟩)].toArray 86),box b2 (.cells [.int .i64 g].toArray 2),box b3 (.cells [.int .i64 row].toArray 2),box b4 (.cells [.int .i64 0,.int .i64 0,.string ⟨#[]⟩,.int .i64 0,.int .i64 0,.int .i64 0,.slice none 0 0,.slice none 0 0,.slice none 0 0].toArray 59),box b5 (.cells [.bool false].toArray 4),mine [.slice sa vs.length sk] vs fp,box b6 (.cells [.slice sa vs.length sk].toArray 119),box b7 (.cells [.slice sa vs.length sk].toArray 119),box w3.heap.size (.deferred (some [])),box (w3.heap.size+1) (.loop (R .busy none))] [box zb (.cells [.int .i64 z.Shape.Groups,.int .i64 z.Shape.Column,.int .i64 z.Shape.Data,.int .i64 z.Shape.Spare,.int .i64 z.Shape.Rows,.int .i64 z.Shape.Cap,.int .i64 z.Shape.Batch,.int .i64 z.Shape.Queue,.int .i64 z.Shape.Stage,.slice zA9 z.Groups.length zC9,.slice zA10 z.On.length zC10,.slice zA11 z.Tapes.length zC11,.int .i64 z.Writes,.int .i64 z.Stop,.bool z.Down].toArray 31),seen false [.slice zA9 z.Groups.length zC9] z.Groups zF9,seen false [.slice zA10 z.On.length zC10] z.On zF10,seen false [.slice zA11 z.Tapes.length zC11] z.Tapes zF11] W2∧shP g row (vs.getD i default).r=false)
    (C:=fun W2=>Sep No w [box b1 (.cells [.pointer (some ⟨zb,0,none⟩)].toArray 86),box b2 (.cells [.int .i64 g].toArray 2),box b3 (.cells [.int .i64 row].toArray 2),box b4 (.cells [.int .i64 (vs.getD i default).r.Kind,.int .i64 (vs.getD i default).r.Seq,.string (vs.getD i default).r.Name,.int .i64 (vs.getD i default).r.Length,.int .i64 (vs.getD i default).r.Group,.int .i64 (vs.getD i default).r.Row,.slice (vs.getD i default).A6 (vs.getD i default).r.Rows.length (vs.getD i default).C6,.slice (vs.getD i default).A7 (vs.getD i default).r.Data.length (vs.getD i default).C7,.slice (vs.getD i default).A8 (vs.getD i default).r.Delta.length (vs.getD i default).C8].toArray 59),box b5 (.cells [.bool (!((eE z).any (spS ((eE z).getD i default))))].toArray 4),mine [.slice sa vs.length sk] vs fp,box b6 (.cells [.slice sa vs.length sk].toArray 119),box b7 (.cells [.slice sa vs.length sk].toArray 119),box w3.heap.size (.deferred (some [])),box (w3.heap.size+1) (.loop (R .busy none))] [box zb (.cells [.int .i64 z.Shape.Groups,.int .i64 z.Shape.Column,.int .i64 z.Shape.Data,.int .i64 z.Shape.Spare,.int .i64 z.Shape.Rows,.int .i64 z.Shape.Cap,.int .i64 z.Shape.Batch,.int .i64 z.Shape.Queue,.int .i64 z.Shape.Stage,.slice zA9 z.Groups.length zC9,.slice zA10 z.On.length zC10,.slice zA11 z.Tapes.length zC11,.int .i64 z.Writes,.int .i64 z.Stop,.bool z.Down].toArray 31),seen false [.slice zA9 z.Groups.length zC9] z.Groups zF9,seen false [.slice zA10 z.On.length zC10] z.On zF10,seen false [.slice zA11 z.Tapes.length zC11] z.Tapes zF11] W2∧shP g row (vs.getD i default).r=true)
    (by
     refine Ab (nn Z (sA Z Z (aa (nn Z (bB ah Z zeroValue59 HJ (fun b21 w21 e1 g1 H21=>aF ah aO Z Z Z Z H21 10 Z Z (fun w22 e2 H22=>?_)))))));dsimp only[lNA,lCA,lSZ,lSS,aI] at H22;refine aa ?_
     exact ⟨Z,H22.box 9 Z,_,⟨Z,Z,Z,Z,Z,Z,Z,Z,trivial⟩,H22⟩)
    (by
     rintro L' W' ⟨b10,hs,HQ⟩
     have HB:=HQ.put 9 (.loop (R .busy none)) Z
     try dsimp only[lNA,lCA,lSZ,lSS] at HB
     refine Gm hs (xe (Ab (nn Z (sF aD Z ts2 (sLd tu2 (HB.box 10 Z) Z (sR 2 Z (bR 4 (j:=3) (want:=true) (t:=24) Z Z Z Z (fun hg1 kk1=>ao (wgE Z Z Z hg1) Z Z (ag aD Z ts2 Z Z) (ao (wgE Z Z Z hg1) Z Z (aj tu2 Z Z (al (HB.box 10 Z) Z)) (ao (wgE Z Z Z hg1) Z Z (aj tu2 Z Z (al (HB.box 1 Z) Z)) (ao (wgE Z Z Z hg1) Z Z (cT Z Z) (kk1 _ _ (kx Z (kx Z (kx Z (kx Z k0)))) Z Ext.refl))))) (fun w41 e1=>?_))))))));have H41:=HB.to e1;refine sV Z (bz Z Z) (sM Z Z (bR 4 (j:=9) (want:=true) (t:=30) Z Z Z Z (fun hg2 kk2=>ao (wgE Z Z Z hg2) Z Z (ag aD Z ts2 Z Z) (ao (wgE Z Z Z hg2) Z Z (aj tu2 Z Z (al (H41.box 10 Z) Z)) (ao (wgE Z Z Z hg2) Z Z (aj tu2 Z Z (al (H41.box 2 Z) Z)) (ao (wgE Z Z Z hg2) Z Z (cT Z Z) (kk2 _ _ (kx Z (kx Z (kx Z (kx Z k0)))) Z Ext.refl))))) (fun w42 e2=>?_)));have H42:=H41.to e2;refine sV Z (bz Z Z) (aa (Hu Z (fun c1=>?_) (fun c1=>?_)))
     ·have hsp:shP g row (vs.getD i default).r=true:=by simpa [shP,Bool.and_assoc] using c1
      have hk4:=(wH hsp).1;refine Ab (FP (S:=Ext (· ∈ [b4]) _) (oQ [1,3,5,7,8,11,12,14]) Z κ κ κ (fun _=>Ext.refl.drawn _) (fun q1=>?_));have H43:=H42.drawn q1;refine dV Z Z (fun zw hx=>ak aD Z aO Z Z (At.whole (hx.heapM (H43.boff 10 Z 3 Z Z) (H43.box 10 Z)))) (dV Z Z (fun zw hx=>aj xN Z Z (al (hx.heapM (H43.boff 0 Z 3 Z Z) (H43.box 0 Z)) Z)) (dV Z Z (fun zw hx=>aj br Z Z (al (hx.heapM (H43.boff 6 Z 3 Z Z) (H43.box 6 Z)) Z)) (dM Z Z Z ?_)));have lc:=mm (zp:=some ⟨zb,0,none⟩) (xs:=vs.map RecV.r) (a:=i) (by rw [List.length_map]; exact (hR.to H43.ext).list (H43.mine 5 Z)) (by rw [List.length_map]; exact hi) (by rw [← jX Z hi]; exact hk4);rw [List.length_map,hM] at lc;refine dC func221 zS Z lc (fun v1 w43 r1=>?_);obtain ⟨e3,rfl⟩:=r1;have H44:=H43.to e3;refine dV Z Z (fun zw hx=>bh Z) (qe Z ah aO Z Z Z Z H44 3 Z Z (fun _ h e _=>h.trans (e.mono fun _ _ q=>by simp [q])) (fun w44 e4 H45=>?_));dsimp only[lNA,lCA,lSZ,lSS,aI] at H45;refine bQ Z ah ts4 Z Z Z H45 4 Z Z (fun _ _ _ hr=>absurd Z hr) (fun w45 e5 H46=>?_);dsimp only[lNA,lCA,lSZ,lSS,aI] at H46;refine bb (GU ?_);exact ⟨H46.box 9 Z,.inr ⟨Z,H46.dtake 10,hsp⟩⟩
     ·have hsp:shP g row (vs.getD i default).r=false:=by simpa [shP,Bool.and_assoc] using c1
      refine FJ ?_
      exact ⟨H42.box 9 Z,.inl ⟨Z,H42.dtake 10,hsp⟩⟩)
   obtain ⟨f1,t1,s1,o1,r1,k1⟩:=hy;refine ⟨f1,t1,s1,o1,r1,k1.mono fun e W' he=>?_⟩;obtain ⟨W2,_,⟨he,⟨H4,h4⟩,rfl⟩ | ⟨he,⟨H4,h4⟩,rfl⟩⟩:=he
   ·refine .inl ⟨he,H4.put 9 (.loop (R .ready none)) Z,fun j h1 h2=>?_⟩
    by_cases e:j=i
    ·subst e; exact h4
    ·exact hJ j ω h2
   ·exact .inr ⟨he,i,H4.put 9 (.loop (R .done (some .ret))) Z,hi,h4,fun j h1 h2=>hJ j ω h2⟩
  ·rintro _ W2 (⟨H,h⟩ | ⟨i,H,h1,h2,h3⟩)
   ·exact .inl ⟨H.box 9 Z,_,H.put 9 (.loop (R .exhausted none)) Z,fun j hj=>h j (Nat.zero_le _) hj⟩
   ·exact .inr ⟨H.box 9 Z,_,i,H.put 9 (.loop (R .exhausted (some .ret))) Z,h1,h2,h3⟩
 ·obtain ⟨o,HK,hn⟩:=hK
  show Code.wpIn _ _ _ _ _ _ _
  have ha5:GoodD [{ target := .collected w3.heap.size,args := #[] }] 39 { a3 with defers:=[{ target := .collected w3.heap.size,args := #[] }] } [(3,.pointer (some ⟨b1,0,none⟩)),(4,.pointer (some ⟨b2,0,none⟩)),(5,.pointer (some ⟨b3,0,none⟩)),(6,.pointer (some ⟨b4,0,none⟩)),(7,.pointer (some ⟨b5,0,none⟩))]:=
   ⟨by have:=ha3.1; exact this.weak ⟨rfl,rfl,rfl,rfl,rfl,trivial⟩,rfl⟩
  refine z4 (B:=fun L' w'=>sub L' [(3,.pointer (some ⟨b1,0,none⟩)),(4,.pointer (some ⟨b2,0,none⟩)),(5,.pointer (some ⟨b3,0,none⟩)),(6,.pointer (some ⟨b4,0,none⟩)),(7,.pointer (some ⟨b5,0,none⟩))]∧Sep No w [box b1 (.cells [.pointer (some ⟨zb,0,none⟩)].toArray 86),box b2 (.cells [.int .i64 g].toArray 2),box b3 (.cells [.int .i64 row].toArray 2),box b4 (.cells [.int .i64 0,.int .i64 0,.string ⟨#[]⟩,.int .i64 0,.int .i64 0,.int .i64 0,.slice none 0 0,.slice none 0 0,.slice none 0 0].toArray 59),box b5 (.cells [.bool false].toArray 4),mine [.slice sa vs.length sk] vs fp,box b6 (.cells [.slice sa vs.length sk].toArray 119),box b7 (.cells [.slice sa vs.length sk].toArray 119),box w3.heap.size (.deferred (some [])),box (w3.heap.size+1) o] [box zb (.cells [.int .i64 z.Shape.Groups,.int .i64 z.Shape.Column,.int .i64 z.Shape.Data,.int .i64 z.Shape.Spare,.int .i64 z.Shape.Rows,.int .i64 z.Shape.Cap,.int .i64 z.Shape.Batch,.int .i64 z.Shape.Queue,.int .i64 z.Shape.Stage,.slice zA9 z.Groups.length zC9,.slice zA10 z.On.length zC10,.slice zA11 z.Tapes.length zC11,.int .i64 z.Writes,.int .i64 z.Stop,.bool z.Down].toArray 31),seen false [.slice zA9 z.Groups.length zC9] z.Groups zF9,seen false [.slice zA10 z.On.length zC10] z.On zF10,seen false [.slice zA11 z.Tapes.length zC11] z.Tapes zF11] w') ha5 ?_ (fun a6 L6 w6 ha6 hB=>?_)
  ·refine m5 (eK ah Z Z (aP gU Z Z) (GQ ah aO Z Z Z Z HK 3 Z Z (fun w7 _ H7=>?_)));dsimp only[lNA,lCA,lSZ,lSS,aI] at H7;refine Gz ah ts4 Z Z Z H7 4 Z Z (fun w8 _ H8=>?_)
   try dsimp only[lNA,lCA,lSZ,lSS] at H8
   exact pJ ⟨Z,⟨Z,Z,Z,Z,Z,trivial⟩,H8⟩
  obtain ⟨hs6,H6⟩:=hB;refine wpIn_ret ?_;have HF:=H6.put 8 (.deferred none) Z
  try dsimp only[lNA,lCA,lSZ,lSS] at HF
  refine ⟨.inr Z,w3.heap.size,[(3,.pointer (some ⟨b1,0,none⟩)),(4,.pointer (some ⟨b2,0,none⟩)),(5,.pointer (some ⟨b3,0,none⟩)),(6,.pointer (some ⟨b4,0,none⟩)),(7,.pointer (some ⟨b5,0,none⟩))],ha6.weak hs6,H6.box 8 Z,GD results150 Z (ay aD Z aO Z (At.whole (HF.box 3 Z))) Z (lS tu4 Z (al (HF.box 4 Z) Z)) ?_⟩;have hq:gw z g row = -1:=sW fun j hj=>by rw [← jX hM ω]; exact hn j ω
  refine ⟨HF.ext,none,0,none,0,none,0,?_,?_⟩
  ·rw [EK hq,F5 hq]; rfl
  ·rw [EK hq]; exact my
 ·obtain ⟨o,i,HK,hi,h4,h5⟩:=hK;have HF:=HK.put 8 (.deferred none) Z
  try dsimp only[lNA,lCA,lSZ,lSS] at HF
  refine ⟨.inr Z,w3.heap.size,[(3,.pointer (some ⟨b1,0,none⟩)),(4,.pointer (some ⟨b2,0,none⟩)),(5,.pointer (some ⟨b3,0,none⟩)),(6,.pointer (some ⟨b4,0,none⟩)),(7,.pointer (some ⟨b5,0,none⟩))],⟨by have:=ha3.1; exact this.weak ⟨Z,Z,Z,Z,Z,trivial⟩,Z⟩,HK.box 8 Z,GD results150 Z (ay aD Z aO Z (At.whole (HF.box 3 Z))) Z (lS tu4 Z (al (HF.box 4 Z) Z)) ?_⟩;have hq:gw z g row=(i:Nat):=ES ω (by rw [← jX hM hi]; exact h4) fun j h1 h2=>by rw [← jX hM ω]; exact h5 j h1 ω
  have hr:(vs.getD i default).r=opR z g row:=by rw [GJ hq]; exact jX hM hi
  refine ⟨HF.ext,(vs.getD i default).A6,(vs.getD i default).C6,(vs.getD i default).A7,(vs.getD i default).C7,(vs.getD i default).A8,(vs.getD i default).C8,?_,?_⟩
  ·rw [FC ω,← hr,jX hM hi]; rfl
  ·exact ((hR.inAt hi).val hr).to HF.ext
end Go.Wk
namespace Go.Wk
open Go.Proofs Rp Go.Proofs.Tryz
set_option maxRecDepth 10000
theorem ja {w:World}{r:Rec}{rA6 rA7 rA8:Option Addr}{rC6 rC7 rC8:Nat}(rK:r.Ok) (rS6:Sees w [.slice rA6 r.Rows.length rC6] r.Rows) (rS7:Sees w [.slice rA7 r.Data.length rC7] r.Data) (rS8:Sees w [.slice rA8 r.Delta.length rC8] r.Delta):Ret Tryz.prog 158 #[r.val rA6 rC6 rA7 rC7 rA8 rC8] w fun v w'=>Ext No w w'∧(v = .bool (fA r)):=by
 have rK2:=rK;unfold Rec.Ok at rK2
 try unfold I64ok at rK2
 try unfold maxLen at rK2
 have rN2:r.Name.size≤maxLen:=by unfold maxLen; omega
 have rL6:=sL rS6;obtain ⟨rF6,rO6⟩:=rS6;have rL7:=sL rS7;obtain ⟨rF7,rO7⟩:=rS7;have rL8:=sL rS8;obtain ⟨rF8,rO8⟩:=rS8;refine aH func158 Z ntmps158 Z (fun Q hQ hN=>?_);have H0:=Sep.start (ab rO6 (ab rO7 (ab rO8 aA)));refine ac (bu ah Z Z H0 (fun b1 w1 e1 g1 H1=>sA Z Z (aa (ae (ac (sF aD Z bf (sLd aZ (H1.box 0 Z) Z (sV Z (aS aZ Z) (sM Z Z (aa (ax (bP (γ:=Nat) (fun k=>[(1,.pointer (some ⟨b1,0,none⟩)),(6,.slice rA8 r.Delta.length rC8),(7,.int .i64 r.Delta.length),(8,.int .i64 k)]) (fun k w'=>Sep No w [box b1 (.cells (r.val rA6 rC6 rA7 rC7 rA8 rC8).cells 59)] [seen false [.slice rA6 r.Rows.length rC6] r.Rows rF6,seen false [.slice rA7 r.Data.length rC7] r.Data rF7,seen false [.slice rA8 r.Delta.length rC8] r.Delta rF8] w'∧k≤r.Delta.length∧(∀ i,i<k→nc r i=true)) (fun k=>r.Delta.length-k) 0 ⟨Z,Z,Z,Z,trivial⟩ ⟨H1,ω,fun i hi=>by omega⟩ (fun k w2 H2=>?_)))))))))))));obtain ⟨H2,hk,he⟩:=H2;refine ac (sV Z (aX Z Z) (aa (ae (aC Z (fun c1=>?_) (fun c1=>?_)))))
 ·refine au (ae (ax (ae ?_)));obtain ⟨eb1,eo1,ee1,ec1⟩:=di (H2.seen 2 Z) k ω;refine am (sM Z Z (sV Z (aB aZ ts5 Z Z ee1 k ω ω) (sV Z (aj tu5 Z Z ec1) (sR 2 Z (aa (ac (sR 3 Z (bR 5 (j:=2) (want:=true) (t:=20) Z Z Z Z (fun hg1 kk1=>ao (wgE Z Z Z hg1) Z Z (ag aD Z cG Z Z) (ao (wgE Z Z Z hg1) Z Z (aj bH Z Z (al (H2.box 0 Z) Z)) (ao (wgE Z Z Z hg1) Z Z (aL Z) (cj (wgE Z Z Z hg1) Z Z (aR func115 Z jV Z) (bT (H2.sees 0 Z)) (fun w4 e3=>ao (wgE Z Z Z hg1) Z Z (bh Z) (kk1 _ _ (kx Z (kx Z (kx Z (kx Z (kx Z k0))))) Z (Ext.refl.trans e3))))))) (fun w3 e2=>?_)))))))));have H3:=H2.to e2;refine sV Z (bz Z Z) (aa (cx Z (fun c2=>?_) (fun c2=>?_)))
  ·refine ac (rA hQ results158 Z ?_);exact ⟨H3.ext,by rw [CB (k:=k) ω (by rw [wU,c2]; rfl)]⟩
  ·refine au (am (sV Z (aE Z Z iO) (sM Z Z (aa (⟨k+1,⟨Z,Z,Z,Z,trivial⟩,⟨H3,ω,fun i hi=>?_⟩,θ⟩)))))
   by_cases e:i=k
   ·subst e; rw [wU,c2]; rfl
   ·exact he i ω
 ·refine aT (ac (sF aD Z ts2 (sLd tu2 (H2.box 0 Z) Z (sR 2 Z (rN hQ results158 Z ?_)))));exact ⟨H2.ext,by rw [BF (fun i hi=>he i ω)]⟩
end Go.Wk
namespace Go.Wk
open Go.Proofs Rp Go.Proofs.Tryz
set_option maxRecDepth 10000
theorem kb {w:World}{zb zC9 zC10 zC11:Nat}{z:Wld}{zA9 zA10 zA11:Option Addr}{zF9 zF10 zF11:List Nat}{g row:Int}(zB:w.heap[zb]? = some (.cells [.int .i64 z.Shape.Groups,.int .i64 z.Shape.Column,.int .i64 z.Shape.Data,.int .i64 z.Shape.Spare,.int .i64 z.Shape.Rows,.int .i64 z.Shape.Cap,.int .i64 z.Shape.Batch,.int .i64 z.Shape.Queue,.int .i64 z.Shape.Stage,.slice zA9 z.Groups.length zC9,.slice zA10 z.On.length zC10,.slice zA11 z.Tapes.length zC11,.int .i64 z.Writes,.int .i64 z.Stop,.bool z.Down].toArray 31)) (zK:z.Ok) (zO9:own false w [.slice zA9 z.Groups.length zC9] z.Groups zF9) (zO10:own false w [.slice zA10 z.On.length zC10] z.On zF10) (zO11:own false w [.slice zA11 z.Tapes.length zC11] z.Tapes zF11) (hT:z.Tapes.length=2) (hrl:∀ k,(z.Tapes.getD k default).Recs.length≤200000) (hb:eC z≤1048576):Ret Tryz.prog 91 #[.pointer (some ⟨zb,0,none⟩),.int .i64 g,.int .i64 row] w fun v w'=>Ext No w w'∧(∃ A C A6 C6 A7 C7 A8 C8,v = .tuple #[.slice A (kT z g row).length C,(l4 z g row).val A6 C6 A7 C7 A8 C8,.int .i64 (cR z g row)]∧Res w w' [.slice A (kT z g row).length C] (kT z g row)∧InF w' zF11 (RecV.mk (l4 z g row) A6 C6 A7 C7 A8 C8).cs (l4 z g row)):=by
 have zK2:=zK;unfold Wld.Ok Shape.Ok at zK2
 try unfold I64ok at zK2
 try unfold maxLen at zK2
 have zL9:=oL zO9;have zL10:=oL zO10;have zL11:=oL zO11;have hsz:=yA (z:=z) (g:=g) (row:=row);have hszu:(opR z g row).Data.length≤ff (opR z g row):=by unfold ff; omega
 refine aH func91 Z ntmps91 Z (fun Q hQ hN=>?_);have H0:=Sep.start (bX zB (ab zO9 (ab zO10 (ab zO11 aA))));refine ac (sA Z Z (bB ah Z zeroValue59 H0 (fun b1 w1 e1 g1 H1=>sA Z Z (aa (ac (sR 3 Z (sC func150 oJ Z (dX (H1.fbox 0 Z) η (az (H1.seen 1 Z)) (az (H1.seen 2 Z)) (az (H1.seen 3 Z)) ξ ξ) (fun v1 w2 r1=>?_))))))));obtain ⟨e2,pA1,pA2,pA3,pA4,pA5,pA6,rfl,hI1⟩:=r1;have H2:=H1.to e2;obtain ⟨pf1,pf2,pf3,pok1,pl1,pl2,pl3,H3⟩:=H2.recF 3 Z hI1;unfold maxLen at pl1 pl2 pl3
 try dsimp only[lNA,lCA,lSZ,lSS] at H3
 refine sR 3 Z (bB ah Z zeroValue59 H3 (fun b2 w3 e3 g2 H4=>aF ah aO Z Z Z Z H4 1 Z Z (fun w4 e4 H5=>?_)));dsimp only[lNA,lCA,lSZ,lSS,aI] at H5;refine sA Z Z (aa (ae (ax (ac (sM Z Z (sV Z (bh Z) (sA Z Z (aa (cx Z (fun c1=>?_) (fun c1=>?_))))))))))
 ·refine ac (sV Z (aP gU Z Z) (sA Z Z (aF ah aO Z Z Z Z H5 0 Z Z (fun w5 e5 H6=>?_))));dsimp only[lNA,lCA,lSZ,lSS,aI] at H6;refine sA Z Z (aa (bc (hQ _ _ (qo results91 Z (ay aD Z aO Z (At.whole (H6.box 0 Z))) Z Z (⟨H6.ext,none,0,none,0,none,0,none,0,?_,?_,?_⟩)))))
  ·rw [gP (dO (by simpa using c1) ▸ by omega),gS (dO (by simpa using c1) ▸ by omega),dO (by simpa using c1)]; rfl
  ·rw [gP (dO (by simpa using c1) ▸ by omega)]; exact ⟨[],.inr (.inl ⟨rfl,rfl,rfl⟩),.nil,σ⟩
  ·rw [gS (dO (by simpa using c1) ▸ by omega)]; exact my
 ·refine ac (sV Z (ak aD Z aO Z Z (At.whole (H5.box 1 Z))) (sE func158 sr Z (ja η (H5.sees 4 Z) (H5.sees 5 Z) (H5.sees 6 Z)) H5 (fun w6 e6 H7=>sV Z (bh Z) (sA Z Z (aa (cx Z (fun c2=>?_) (fun c2=>?_)))))))
  ·refine ac (sV Z (aP gU Z Z) (sA Z Z (aF ah aO Z Z Z Z H7 0 Z Z (fun w7 e7 H8=>?_))));dsimp only[lNA,lCA,lSZ,lSS,aI] at H8;refine sA Z Z (aa (bc (hQ _ _ (qo results91 Z (ay aD Z aO Z (At.whole (H8.box 0 Z))) Z Z ?_))));have hcz:cR z g row=6:=qP (by simpa using c1) (by simpa using c2);refine ⟨H8.ext,none,0,none,0,none,0,none,0,?_,?_,?_⟩
   ·rw [gP ω,gS ω,hcz]; rfl
   ·rw [gP ω]; exact ⟨[],.inr (.inl ⟨rfl,rfl,rfl⟩),.nil,σ⟩
   ·rw [gS ω]; exact my
  ·refine au (ae (cb (S:=Ext (· ∈ [b1]) _) (oQ [1,3,7,4,9,10,12]) κ κ κ Z (fun _=>Ext.refl.drawn _) (fun q1=>?_)));have H9:=H7.drawn q1;refine dV Z Z (fun zw hx=>ag aD Z bf Z Z) (dV Z Z (fun zw hx=>aj aZ Z Z (al (hx.heapM (H9.boff 1 Z 0 Z Z) (H9.box 1 Z)) Z)) (dV Z Z (fun zw hx=>ak aD Z aO Z Z (At.whole (hx.heapM (H9.boff 1 Z 0 Z Z) (H9.box 1 Z)))) (dC func62 bd Z (aQ (H9.sees 5 Z) ω) (fun v3 w8 r3=>?_))));obtain ⟨e8,r3⟩:=r3;obtain ⟨fp1,H10⟩:=H9.res e8 r3;obtain ⟨a1,k1,q2⟩:=an (H10.mine 2 Z);cases q2;refine dV Z Z (fun zw hx=>bg Z) (qe Z ah aO Z Z Z Z H10 0 Z Z (fun _ h e _=>h.trans (e.mono fun _ _ q=>by simp [q])) (fun w9 e9 H11=>?_));dsimp only[lNA,lCA,lSZ,lSS,aI] at H11;refine aW Z ah Z Z (bg Z) (bb (bc (hQ _ _ (qo results91 Z (ay aD Z aO Z (At.whole (H11.box 0 Z))) Z Z ?_))));have hcz:cR z g row=0:=tc (by simpa using c1) (by simpa using c2);rw [lX hcz,oR hcz,hcz];exact ⟨H11.ext,_,_,pA1,pA2,pA3,pA4,pA5,pA6,Z,H11.out 2 Z,(hI1.back H2.ext (Rp.lt zO11)).to H11.ext⟩
theorem kG {w:World}{zb zC9 zC10 zC11:Nat}{z:Wld}{zA9 zA10 zA11:Option Addr}{zF9 zF10 zF11:List Nat}{g:Int}(zB:w.heap[zb]? = some (.cells [.int .i64 z.Shape.Groups,.int .i64 z.Shape.Column,.int .i64 z.Shape.Data,.int .i64 z.Shape.Spare,.int .i64 z.Shape.Rows,.int .i64 z.Shape.Cap,.int .i64 z.Shape.Batch,.int .i64 z.Shape.Queue,.int .i64 z.Shape.Stage,.slice zA9 z.Groups.length zC9,.slice zA10 z.On.length zC10,.slice zA11 z.Tapes.length zC11,.int .i64 z.Writes,.int .i64 z.Stop,.bool z.Down].toArray 31)) (zK:z.Ok) (zO9:own false w [.slice zA9 z.Groups.length zC9] z.Groups zF9) (zO10:own false w [.slice zA10 z.On.length zC10] z.On zF10) (zO11:own false w [.slice zA11 z.Tapes.length zC11] z.Tapes zF11) (hs:z.Shape.ok=true) (hG:aN z=true) (hg:ins g 0 (z.Shape.Groups+z.Shape.Column-1)=true) (hT:z.Tapes.length=2) (hrl:∀ k,(z.Tapes.getD k default).Recs.length≤200000) (hb:eC z≤1048576):Ret Tryz.prog 131 #[.pointer (some ⟨zb,0,none⟩),.int .i64 g] w fun v w'=>Ext No w w'∧(Res w w' [v] (bZ z g z.Shape.Rows.toNat)):=by
 have zK2:=zK;unfold Wld.Ok Shape.Ok at zK2
 try unfold I64ok at zK2
 try unfold maxLen at zK2
 have zL9:=oL zO9;have zL10:=oL zO10;have zL11:=oL zO11;have sbd:=aG hs;refine aH func131 Z ntmps131 Z (fun Q hQ hN=>?_);have H0:=Sep.start (bX zB (ab zO9 (ab zO10 (ab zO11 aA))));refine ac (sA Z Z (aa (ac (eZ (α:=Int) ah Z bH bG H0 (fun b1 w1 e1 g1 H1=>sA Z Z (aa (ae (ac (sR 2 Z (sF be Z bk (sF bi Z ts2 (sLd tu2 (H1.fbox 0 Z) Z (sM Z Z (aa (ax (iT (α:=Int) (γ:=Nat) (fun k=>(bZ z g k)) 0 H1 0 Z 5 Z [(0,_),(1,_),(4,_),(15,_)] ⟨Z,Z,Z,Z,trivial⟩ (fun k=>[(16,.int .i64 k)]) (fun k=>k≤z.Shape.Rows.toNat∧True) (fun k=>z.Shape.Rows.toNat-k) ⟨Z,trivial⟩ ⟨ω,trivial⟩ (fun k vA1 fA1 w2 H2 ⟨hk,_⟩=>?_)))))))))))))))));dsimp only[lCA,lNA,lSZ,lSS] at H2 ⊢;refine ac (sV Z (aX Z Z) (aa (ae (aC Z (fun c1=>?_) (fun c1=>?_)))))
 ·refine au (ae (ax (ac (sR 2 Z (aa (ac (sR 3 Z (sC func91 vk Z (kb (H2.fbox 0 Z) η (az (H2.seen 1 Z)) (az (H2.seen 2 Z)) (az (H2.seen 3 Z)) ξ ξ ξ) (fun v1 w3 r1=>?_)))))))));obtain ⟨e2,pA1,pA2,pA3,pA4,pA5,pA6,pA7,pA8,rfl,r1,hI1⟩:=r1;obtain ⟨fp1,H3⟩:=H2.res e2 r1;refine sR 4 Z (bB ah Z zeroValue59 H3 (fun b2 w4 e3 g2 H4=>sA Z Z (aF ah aO Z Z Z Z H4 2 Z Z (fun w5 e4 H5=>?_))));dsimp only[lNA,lCA,lSZ,lSS,aI] at H5;refine sA Z Z (aa (ac (sR 2 Z (sE func80 jE Z (cV (H5.fbox 0 Z) η (H5.sees 1 Z) (H5.sees 2 Z) (H5.sees 3 Z) η η η) H5 (fun w6 e5 H6=>sM Z Z (bR 2 (j:=3) (want:=true) (t:=32) Z Z Z Z (fun hg1 kk1=>ao (wgE Z Z Z hg1) Z Z (aL Z) (ao (wgE Z Z Z hg1) Z Z (ez Z Z) (kk1 _ _ (kx Z (kx Z k0)) Z Ext.refl))) (fun w7 e6=>?_)))))));have H7:=H6.to e6;refine sV Z (bz Z Z) (aa (cx Z (fun c2=>?_) (fun c2=>?_)))
  ·have ul:=qV (z:=z) (g:=g) k;refine am (sR 2 Z (eB ah Z bH bG Z Z Z Z H7 (fun b3 w8 e7 g3 H8=>jq ah Z bH bG Z Z Z H8 0 3 Z Z (tP (by first | assumption | (unfold I64ok; omega))) (by unfold maxLen; omega) ω (fun v3 w9 fp2 H9=>sA Z Z (aa (am (sV Z (aE Z Z iO) (sM Z Z (aa ?_)))))))));rw [← xv (by revert c2; simp; intro h _; exact h) (by revert c2; simp)] at H9;exact ⟨(k+1,_,_),⟨Z,Z,Z,Z,Z,Z,trivial⟩,⟨(H9.dtake 1),ω,trivial⟩,θ⟩
  ·refine au (am (sV Z (aE Z Z iO) (sM Z Z (aa ?_))));rw [← zF (by revert c2; cases cQ z g<;>simp)] at H7;exact ⟨(k+1,_,_),⟨Z,Z,Z,Z,Z,Z,trivial⟩,⟨(H7.dtake 1),ω,trivial⟩,θ⟩
 ·refine aT (ac (sR 2 Z (rN hQ results131 Z ?_)));obtain rfl:k=z.Shape.Rows.toNat:=by omega
  exact ⟨H2.ext,H2.out 0 Z⟩
end Go.Wk
namespace Go.Wk
open Go.Proofs Rp Go.Proofs.Tryz
set_option maxRecDepth 10000
theorem kW {w:World}{xs:List UInt8}{xsA:Option Addr}{xsC:Nat}{c:UInt8}(xsS:Sees w [.slice xsA xs.length xsC] xs) (hl:xs.length≤100000):Ret Tryz.prog 214 #[.slice xsA xs.length xsC,.int .u8 c.toNat] w fun v w'=>Ext No w w'∧(Res w w' [v] (bV xs c)):=by
 have xsL:=sL xsS;obtain ⟨xsF,xsO⟩:=xsS;refine aH func214 Z ntmps214 Z (fun Q hQ hN=>?_);have H0:=Sep.start (ab xsO aA);refine ac (sA Z Z (aa (ac (sM Z Z (sV Z (aS aZ Z) (qD ah Z aZ cE vX Z ω (by unfold maxLen; omega) H0 (fun b1 w1 e1 g1 H1=>sA Z Z (aa (ae ?_)))))))));have rl:(List.replicate xs.length (0:UInt8)).length=xs.length:=List.length_replicate;refine am (sR 3 Z (sC func216 nX Z (kL (H1.mine 0 Z) (H1.nodup1 (i:=0) Z) (az (H1.seen 0 Z)) (fun b hb=>H1.off 0 Z 0 Z hb) ξ) (fun v1 w2 r1=>?_)));obtain ⟨fp1,H2⟩:=H1.mut 0 Z r1;refine aa (ac (sR 2 Z (rN hQ results214 Z ?_)))
 exact ⟨H2.ext,by
  have h:=H2.out 0 Z
  rwa [qN (ex xs c)] at h⟩
theorem qu {w:World}{K l n:Nat}{m:Mat}{vs0:List View}{VA:Option Addr}{VC:Nat}{fp g0:List Nat}(o:own true w [.slice VA K VC] vs0 fp) (nd:fp.Nodup) (hr0:bY false w (vs0.map View.val) m g0) (hd:∀ b∈g0,b ∉ fp) (vl0:vs0.length=K) (hR0:Rect m K l) (hn:n<l∧l≤1000∧1≤K∧K≤1000):Ret Tryz.prog 307 #[.slice VA K VC,.int .i64 n] w fun v w'=>(v = .int .i64 ((redM m n).2:Nat)∧RowsMut w w' fp (.slice VA K VC) K (redM m n).1):=by
 refine aH func307 Z ntmps307 Z (fun Q hQ hN=>?_);have H0:=Sep.beginRows o nd hr0 hd;refine ac (sA Z Z (aa (ac (sA Z Z (aa (ae (ac (sA Z Z (aa (ax (bP (γ:=Nat × Mat × Nat × List View × List Nat × List Nat) (fun (c,M,r,vs,f,g)=>[(0,.slice VA K VC),(1,.int .i64 n),(5,.int .i64 r),(6,.int .i64 c)]) (fun (c,M,r,vs,f,g) w'=>Sep (· ∈ fp) w [mine [.slice VA K VC] vs f] [rows vs M g] w'∧c≤n∧redM m c=(M,r)∧Rect M K l∧r≤K∧vs.length=K) (fun (c,M,r,vs,f,g)=>n-c) (0,m,0,_,_,_) ⟨Z,Z,Z,Z,trivial⟩ ⟨H0,ω,Z,hR0,ω,vl0⟩ (fun (c,M,r,vs,f,g) w1 H1=>?_))))))))))));obtain ⟨H1,hc,hred,hR,hrK,vl⟩:=H1;refine ae (ac (sR 3 Z (aa (aC Z (fun c1=>?_) (fun c1=>?_)))))
 ·refine au (ae (ax (ac (sA Z Z (aa (ae (ae ?_)))))));have xl:=hR.1;refine am (sR 2 Z (aa (ax (bP (γ:=Nat) (fun j=>[(0,.slice VA K VC),(1,.int .i64 n),(5,.int .i64 r),(6,.int .i64 c),(7,.int .i64 (-1)),(8,.int .i64 j)]) (fun j w'=>Sep (· ∈ fp) w _ _ w'∧r≤j∧j≤K∧∀ i,r≤i→i<j→entry M i c=0) (fun j=>K-j) r ⟨Z,Z,Z,Z,Z,Z,trivial⟩ ⟨H1,ω,ω,fun i h1 h2=>by omega⟩ (fun j w2 H2=>?_)))));obtain ⟨H2,hj1,hj2,hnz⟩:=H2;refine ae (ac (sR 2 Z (sV Z (aS dj Z) (sV Z (aX Z Z) (aa (aC Z (fun c2=>?_) (fun c2=>?_)))))))
  ·refine au (ae (ax (ae ?_)));have e1:=hR.2 j ω;obtain ⟨eb1,eo1,ea1,ek1,ef1,ee1,ec1,eO1,eH1,em1⟩:=gI (H2.mine 0 Z) (H2.rowsAt 0 Z) (by first | omega | (simp only [List.length_set]; omega)) j (by first | omega | (simp only [List.length_set]; omega));have eP1:=H2.lookR 0 Z eO1 eH1;obtain ⟨eb2,eo2,ee2,ec2⟩:=di (eP1.seen 1 Z) c ω;refine am (sR 2 Z (sV Z (aB dj bf Z Z ee1 j ω ω) (sV Z (aj aZ Z Z ec1) (sM Z Z (sV Z (aB aZ ts5 Z Z ee2 c ω ω) (sV Z (aj tu5 Z Z ec2) (sV Z (ez Z Z) (aa (aC Z (fun c3=>?_) (fun c3=>?_))))))))))
   ·refine ac (sR 2 Z (aa (aT (ae (ae ?_)))));have hpv:mI M c r=j:=xE ω ω hnz (.inr (fun e=>c3 (by rw [entry] at e; rw [e]; rfl)));refine am (sR 2 Z (aa (aC Z (fun c4=>?_) (fun c4=>?_))))
    ·exact absurd c4 ω
    ·refine au (ae ?_);obtain ⟨eb3,eo3,ea2,ek2,ef2,ee3,ec3,eO2,eH2,em2⟩:=gI (eP1.mine 0 Z) (eP1.rowsAt 0 Z) (by first | omega | (simp only [List.length_set]; omega)) j (by first | omega | (simp only [List.length_set]; omega));have eP2:=eP1.lookR 0 Z eO2 eH2;obtain ⟨eb4,eo4,ea3,ek3,ef3,ee4,ec4,eO3,eH3,em3⟩:=gI (eP2.mine 0 Z) (eP2.rowsAt 0 Z) (by first | omega | (simp only [List.length_set]; omega)) r (by first | omega | (simp only [List.length_set]; omega));have eP3:=eP2.lookR 0 Z eO3 eH3;refine cb (S:=fun zw=>zw.cell? ⟨eb3,eo3+j*1,none⟩=some (.slice ea2 (M.getD j []).length ek2)) (oQ [1,3,5,7,9,11,13,17,19,21,15,22,24,26,28,30]) κ κ κ Z (fun _=>ec3) (fun q1=>?_);have H3:=eP3.drawn q1;refine dR 6 Z (dV Z Z (fun zw hx=>aB dj bf Z Z ee3 j ω ω) (dR 2 Z (dV Z Z (fun zw hx=>aB dj bf Z Z ee4 r ω ω) (dV Z Z (fun zw hx=>aj aZ Z Z hx) (aW Z ah Z Z (aj aZ Z Z ec4) (aW Z ah Z Z (aB dj bf Z Z ee4 r ω ω) (pR Z ah bf H3 0 0 2 Z Z Z (by first | omega | (simp only [List.length_set]; omega)) r (by first | omega | (simp only [List.length_set]; omega)) Z ee4 Z (fun b o cur T e1 hb hs hc _=>by   rw [ee3] at e1;   cases e1;   exact CF hb hs hc) (fun w3 fp1 gp1 H4=>?_))))))))
     try dsimp only[lNA,lCA,lSZ,lSS] at H4
     refine aW Z ah Z Z (aB dj bf Z Z ee3 j ω ω) (pR Z ah bf H4 0 0 3 Z Z Z (by first | omega | (simp only [List.length_set]; omega)) j (by first | omega | (simp only [List.length_set]; omega)) Z ee3 Z (fun _ _ _ _ _ _ _ _ hr=>absurd Z hr) (fun w4 fp2 gp2 H5=>?_))
     try dsimp only[lNA,lCA,lSZ,lSS] at H5
     refine bb (ae ?_);have hsR:=hR.swap (r:=r) (a:=j) ω ω;have e2:(((M.set r (M.getD j [])).set j (M.getD r [])).getD r []).length=l:=hsR.2 r ω;obtain ⟨eb5,eo5,ea4,ek4,ef4,ee5,ec5,eO4,eH4,em4⟩:=gI (H5.mine 0 Z) (H5.rowsAt 0 Z) (by first | omega | (simp only [List.length_set]; omega)) r (by first | omega | (simp only [List.length_set]; omega));have eP4:=H5.lookR 0 Z eO4 eH4;obtain ⟨eb6,eo6,ee6,ec6⟩:=di (eP4.seen 4 Z) c ω;refine cb (S:=Ext No _) (oQ [1,3,5,7,9,11,13,15,17,19,21,23,25,26,28,31,32]) κ κ κ Z (fun _=>Ext.refl.drawn _) (fun q2=>?_);have H6:=eP4.drawn q2;refine dR 4 Z (dV Z Z (fun zw hx=>aB dj bf Z Z ee5 r ω ω) (dV Z Z (fun zw hx=>aj aZ Z Z (hx.cell ec5)) (dR 2 Z (dV Z Z (fun zw hx=>aB dj bf Z Z ee5 r ω ω) (dV Z Z (fun zw hx=>aj aZ Z Z (hx.cell ec5)) (dM Z Z Z (dV Z Z (fun zw hx=>aB aZ ts5 Z Z ee6 c ω ω) (dV Z Z (fun zw hx=>aj tu5 Z Z (hx.cell ec6)) (dC func264 oF Z (kE (a:=1)) (fun v1 w5 r1=>?_))))))))));obtain ⟨e3,rfl⟩:=r1;have H7:=H6.to e3;refine dC func214 sf Z (kW (H7.sees 4 Z) ω) (fun v2 w6 r2=>?_);obtain ⟨e4,r2⟩:=r2;obtain ⟨fp3,H8⟩:=H7.res e4 r2;obtain ⟨a1,k1,q3⟩:=an (H8.mine 1 Z);cases q3;refine dV Z Z (fun zw hx=>aB dj bf Z Z ee5 r ω ω) ?_;have H10:=H8.share 1 Z
     try dsimp only[lNA,lCA,lSZ,lSS] at H10
     refine pR Z ah bf H10 0 0 5 Z Z Z (by first | omega | (simp only [List.length_set]; omega)) r (by first | omega | (simp only [List.length_set]; omega)) Z ee5 Z (fun _ _ _ _ _ _ _ _ hr=>absurd Z hr) (fun w7 fp4 gp3 H9=>?_)
     try dsimp only[lNA,lCA,lSZ,lSS] at H9
     refine bb (ae (ae ?_));have HN:=H9;rw [F3 ω ω] at HN;refine am (sM Z Z (sV Z (aS dj Z) (sM Z Z (aa (ax (bP (γ:=Nat × List View × List Nat × List Nat) (fun (i,vs2,f2,g2)=>[(0,.slice VA K VC),(1,.int .i64 n),(5,.int .i64 r),(6,.int .i64 c),(63,.slice VA K VC),(64,.int .i64 K),(65,.int .i64 i)]) (fun (i,vs2,f2,g2) w'=>Sep (· ∈ fp) w [mine [.slice VA K VC] vs2 f2] [rows vs2 (cK (rp M c r j) c r i) g2] w'∧i≤K∧vs2.length=K) (fun (i,vs2,f2,g2)=>K-i) (0,_,_,_) ⟨Z,Z,Z,Z,Z,Z,Z,trivial⟩ ⟨by rw [xZ]; exact ((HN.ftake 1).dtake 1),ω,by simp only [List.length_set]; omega⟩ (fun (i,vs2,f2,g2) w8 H11=>?_)))))));obtain ⟨H11,hi,vl2⟩:=H11;refine ac (sV Z (aX Z Z) (aa (ae (aC Z (fun c5=>?_) (fun c5=>?_)))))
     ·refine au (ae (ax (ac (sR 2 Z (aa (ae ?_))))));have nR:=hR.norm (c:=c) (r:=r) (a:=j) ω ω;have eR:=nR.elim (c:=c) (r:=r) (k:=i) ω;have xl2:=eR.1;have e3:=eR.2 i ω;have e4:=eR.2 r ω;obtain ⟨eb7,eo7,ea5,ek5,ef5,ee7,ec7,eO5,eH5,em5⟩:=gI (H11.mine 0 Z) (H11.rowsAt 0 Z) (by first | omega | (simp only [List.length_set]; omega)) i (by first | omega | (simp only [List.length_set]; omega));have eP5:=H11.lookR 0 Z eO5 eH5;obtain ⟨eb8,eo8,ee8,ec8⟩:=di (eP5.seen 1 Z) c ω;refine am (sR 4 Z (bR 8 (j:=3) (want:=true) (t:=79) Z Z Z Z (fun hg1 kk1=>ao (wgE Z Z Z hg1) Z Z (aL Z) (ao (wgE Z Z Z hg1) Z Z (aL Z) (ao (wgE Z Z Z hg1) Z Z (aB dj bf Z Z ee7 i (by first | omega | (simp only [Bool.or_eq_false_iff,Bool.and_eq_true,Bool.and_eq_false_iff,Bool.or_eq_true,Bool.not_eq_true',Bool.not_eq_false',decide_eq_true_eq,decide_eq_false_iff_not] at hg1; omega)) ω) (ao (wgE Z Z Z hg1) Z Z (aj aZ Z Z ec7) (ao (wgE Z Z Z hg1) Z Z (aL Z) (ao (wgE Z Z Z hg1) Z Z (aB aZ ts5 Z Z ee8 c (by first | omega | (simp only [Bool.or_eq_false_iff,Bool.and_eq_true,Bool.and_eq_false_iff,Bool.or_eq_true,Bool.not_eq_true',Bool.not_eq_false',decide_eq_true_eq,decide_eq_false_iff_not] at hg1; omega)) ω) (ao (wgE Z Z Z hg1) Z Z (aj tu5 Z Z ec8) (ao (wgE Z Z Z hg1) Z Z (ez Z Z) (kk1 _ _ (kx Z (kx Z (kx Z (kx Z (kx Z (kx Z (kx Z (kx Z k0)))))))) Z Ext.refl))))))))) (fun w9 e6=>?_)));have H12:=eP5.to e6;refine sV Z (bz Z Z) (aa (cx Z (fun c6=>?_) (fun c6=>?_)))
      ·obtain ⟨eb9,eo9,ea6,ek6,ef6,ee9,ec9,eO6,eH6,em6⟩:=gI (H12.mine 0 Z) (H12.rowsAt 0 Z) (by first | omega | (simp only [List.length_set]; omega)) i (by first | omega | (simp only [List.length_set]; omega));have eP6:=H12.lookR 0 Z eO6 eH6;obtain ⟨eb10,eo10,ea7,ek7,ef7,ee10,ec10,eO7,eH7,em7⟩:=gI (eP6.mine 0 Z) (eP6.rowsAt 0 Z) (by first | omega | (simp only [List.length_set]; omega)) r (by first | omega | (simp only [List.length_set]; omega));have eP7:=eP6.lookR 0 Z eO7 eH7;obtain ⟨eb11,eo11,ee11,ec11⟩:=di (eP7.seen 2 Z) c ω;refine cb (S:=Ext No _) (oQ [1,3,5,7,9,11,13,15,17,19,21,23,25,27,29,31,33,34,37,38]) κ κ κ Z (fun _=>Ext.refl.drawn _) (fun q4=>?_);have H13:=eP7.drawn q4;refine dR 4 Z (dV Z Z (fun zw hx=>aB dj bf Z Z ee9 i ω ω) (dV Z Z (fun zw hx=>aj aZ Z Z (hx.cell ec9)) (dR 2 Z (dV Z Z (fun zw hx=>aB dj bf Z Z ee10 r ω ω) (dV Z Z (fun zw hx=>aj aZ Z Z (hx.cell ec10)) (dR 2 Z (dV Z Z (fun zw hx=>aB dj bf Z Z ee9 i ω ω) (dV Z Z (fun zw hx=>aj aZ Z Z (hx.cell ec9)) (dM Z Z Z (dV Z Z (fun zw hx=>aB aZ ts5 Z Z ee11 c ω ω) (dV Z Z (fun zw hx=>aj tu5 Z Z (hx.cell ec11)) (dC func146 ox Z (kP (H13.sees 2 Z) (H13.sees 3 Z) ξ) (fun v3 w10 r3=>?_)))))))))))));obtain ⟨e7,r3⟩:=r3;obtain ⟨fp5,H14⟩:=H13.res e7 r3;obtain ⟨a2,k2,q5⟩:=an (H14.mine 1 Z);cases q5;refine dV Z Z (fun zw hx=>aB dj bf Z Z ee9 i ω ω) ?_;have H16:=H14.share 1 Z
       try dsimp only[lNA,lCA,lSZ,lSS] at H16
       refine pR Z ah bf H16 0 0 4 Z Z Z (by first | omega | (simp only [List.length_set]; omega)) i (by first | omega | (simp only [List.length_set]; omega)) Z ee9 Z (fun _ _ _ _ _ _ _ _ hr=>absurd Z hr) (fun w11 fp6 gp4 H15=>?_)
       try dsimp only[lNA,lCA,lSZ,lSS] at H15
       refine bb (am (sV Z (aE Z Z iO) (sM Z Z (aa ?_))));have hz:=((H15.ftake 1).dtake 1);rw [z3 (by rw [nR.1]; omega) (Ff (N:=[[]]) (c:=c) c6) (by rw [uJ (by rw [nR.1]; omega),Dv (by rw [nR.1]; omega)]; rfl)] at hz;refine ⟨(i+1,_,_,_),⟨Z,Z,Z,Z,Z,Z,Z,trivial⟩,⟨hz,ω,by simp only [List.length_set]; omega⟩,θ⟩
      ·refine au (am (sV Z (aE Z Z iO) (sM Z Z (aa ?_))));have hz:=(H12.ftake 1);rw [BH nR ω ω c6] at hz;refine ⟨(i+1,_,_,_),⟨Z,Z,Z,Z,Z,Z,Z,trivial⟩,⟨hz,ω,vl2⟩,θ⟩
     ·refine aT (am (sM Z Z (sV Z (aE Z Z iO) (sA Z Z (aa (am (sM Z Z (sV Z (aE Z Z iO) (sA Z Z (aa ?_))))))))));have hz:=H11;rw [show i=K by omega] at hz;refine ⟨(c+1,cK (rp M c r j) c r K,r+1,_,_,_),⟨Z,Z,Z,Z,trivial⟩,⟨hz,ω,(Ch hred hpv ω).trans (by rw [xl]),(hR.norm ω ω).elim ω,ω,vl2⟩,θ⟩
   ·refine au (am (sM Z Z (sV Z (aE Z Z iO) (sA Z Z (aa (⟨j+1,⟨Z,Z,Z,Z,Z,Z,trivial⟩,⟨(eP1.ftake 1),ω,ω,fun i h1 h2=>?_⟩,θ⟩))))))
    by_cases e:i=j
    ·subst e; show (M.getD i []).getD c 0=0; exact pn ω
    ·exact hnz i h1 ω
  ·refine aT (ae (ae ?_));have hpv:mI M c r=M.length:=xE ω (Nat.le_refl _) (fun i h1 h2=>hnz i h1 ω) (.inl Z);refine am (sR 2 Z (aa (aC Z (fun c7=>?_) (fun c7=>?_))))
   ·refine aT (am (sM Z Z (sV Z (aE Z Z iO) (sA Z Z (aa (⟨(c+1,M,r,_,_,_),⟨Z,Z,Z,Z,trivial⟩,⟨H2,ω,BY hred (Nat.le_of_eq hpv.symm),hR,hrK,vl⟩,θ⟩))))))
   ·exact absurd ω c7
 ·refine aT (ac (sR 2 Z (rN hQ results307 Z ?_)));have hz:=H1.rowsOut vl;have e9:redM m n=(M,r):=by
   obtain rfl:c=n:=by omega
   exact hred
  rw [e9];exact ⟨Z,hz⟩
theorem rv {w:World}{m:List (List UInt8)}{mA bA:Option Addr}{mN mC bN bC:Nat}{b:List UInt8}(mS:Sees w [.slice mA mN mC] m) (bS:Sees w [.slice bA bN bC] b) (hR:Rect m m.length m.length) (hb:b.length=m.length) (hml:1≤m.length∧m.length≤100):Ret Tryz.prog 263 #[.slice mA mN mC,.slice bA bN bC] w fun v w'=>Ext No w w'∧(∃ A C,v = .tuple #[.slice A (yd m b).length C,.bool (rg m b)]∧Res w w' [.slice A (yd m b).length C] (yd m b)):=by
 obtain ⟨mF,mO⟩:=mS;obtain rfl:=fD mO;have mL:=sL ⟨_,mO⟩;obtain ⟨bF,bO⟩:=bS;obtain rfl:=fD bO;have bL:=sL ⟨_,bO⟩;refine aH func263 Z ntmps263 Z (fun Q hQ hN=>?_);have H0:=Sep.start (ab mO (ab bO aA));refine ac (sR 2 Z (aa (ac (sM Z Z (sV Z (aS dj Z) (qD ah Z dj dd (Ei (α:=UInt8)) Z ω (by unfold maxLen; omega) H0 (fun b1 w1 e1 g1 H1=>sA Z Z (aa (ae (ac (sM Z Z (sV Z (aS dj Z) (sM Z Z (aa (ax (bP (γ:=Nat × List Nat) (fun (k,f)=>[(0,.slice mA m.length mC),(1,.slice bA b.length bC),(6,.slice (some ⟨b1,0,none⟩) m.length m.length),(15,.slice mA m.length mC),(16,.int .i64 m.length),(17,.int .i64 k)]) (fun (k,f) w'=>Sep No w [mine [.slice (some ⟨b1,0,none⟩) m.length m.length] (augIn m b k) f] [seen false [.slice mA m.length mC] m mF,seen false [.slice bA b.length bC] b bF] w'∧k≤m.length) (fun (k,f)=>m.length-k) (0,_) ⟨Z,Z,Z,Z,Z,Z,trivial⟩ ⟨by rw [yg]; exact H1,ω⟩ (fun (k,f) w2 H2=>?_)))))))))))))))));obtain ⟨H2,hk⟩:=H2;refine ac (sV Z (aX Z Z) (aa (ae (aC Z (fun c1=>?_) (fun c1=>?_)))))
 ·refine au (ae (ax (ae ?_)));obtain ⟨eb1,eo1,ea1,ek1,ef1,ee1,ec1,eO1,eH1⟩:=fo (H2.seen 0 Z) k ω;have eP1:=H2.look1 0 Z eO1 eH1;refine am (sM Z Z (sV Z (aB dj bf Z Z ee1 k ω ω) (sV Z (aj aZ Z Z ec1) (sR 2 Z (aa ?_)))));have e3:=hR.2 k ω;obtain ⟨eb2,eo2,ee2,ec2⟩:=di (eP1.seen 1 Z) k ω;obtain ⟨eb3,eo3,ee3⟩:=ic (eP1.mine 0 Z) k (by rw [qE ω]; omega);refine cb (S:=Ext No _) [(0,true),(1,true),(2,true),(4,true),(5,true),(6,true),(7,true),(1005,false),(3,false),(8,false),(9,false),(10,true),(11,false),(8,false),(3,false),(9,false),(10,true),(11,false)] κ κ κ Z (fun _=>Ext.refl.drawn _) (fun q1=>?_);have H3:=eP1.drawn q1;refine dR 5 Z (dV Z Z (fun zw hx=>aB aZ ts5 Z Z ee2 k ω ω) (dV Z Z (fun zw hx=>aj tu5 Z Z (hx.cell ec2)) (dF Z ?_ ?_)))
  ·refine d_S (fun hs1=>?_) σ;refine dC func62 bd Z (dL (H3.sees 2 Z) ω) (fun v1 w3 r1=>?_);obtain ⟨e2,r1⟩:=r1;obtain ⟨fp1,H4,fr1⟩:=H3.resN e2 r1;obtain ⟨a1,k1,q2⟩:=an (H4.mine 1 Z);cases q2;refine n7 Z ah Z aZ cE Z Z Z Z H4 (fun _ h e=>h.trans e.no) (fun b2 w4 e3 g2 H5=>d_S (fun hs2=>?_) σ);refine A4 Z ah Z aZ cE Z Z Z H5 1 2 Z Z mv (by (try simp only [List.length_nil]); unfold maxLen; omega) (by (try simp only [List.length_nil]); omega) (fun b hb=>Nat.le_trans hs1.size (fr1 b hb)) (fun v2 w5 fp2 sb1 H6=>?_)
   try dsimp only[lNA,lCA,lSZ,lSS] at H6
   refine dV Z Z (fun zw hx=>aB dj bf Z Z ee3 k ω ω) (Bx Z ah bf Z H6 0 1 Z Z Z k (by rw [qE ω]; omega) Z ee3 Z (fun w6 fp3 H7=>bb (am (sV Z (aE Z Z iO) (sM Z Z (aa ?_))))));have hz:=((H7.ftake 2).dtake 1);rw [vb ω] at hz;refine ⟨(k+1,_),⟨Z,Z,Z,Z,Z,Z,trivial⟩,⟨hz,ω⟩,θ⟩
  ·refine n7 Z ah Z aZ cE Z Z Z Z H3 (fun _ h e=>h.trans e.no) (fun b3 w7 e5 g3 H8=>d_S (fun hs3=>?_) σ);refine dC func62 bd Z (dL (H8.sees 2 Z) ω) (fun v3 w8 r2=>?_);obtain ⟨e6,r2⟩:=r2;obtain ⟨fp4,H9,fr2⟩:=H8.resN e6 r2;obtain ⟨a2,k2,q3⟩:=an (H9.mine 2 Z);cases q3;refine d_S (fun hs4=>?_) σ;refine A4 Z ah Z aZ cE Z Z Z H9 2 1 Z Z mv (by (try simp only [List.length_nil]); unfold maxLen; omega) (by (try simp only [List.length_nil]); omega) (fun b hb=>Nat.le_trans hs3.size (fr2 b hb)) (fun v4 w9 fp5 sb2 H10=>?_)
   try dsimp only[lNA,lCA,lSZ,lSS] at H10
   refine dV Z Z (fun zw hx=>aB dj bf Z Z ee3 k ω ω) (Bx Z ah bf Z H10 0 2 Z Z Z k (by rw [qE ω]; omega) Z ee3 Z (fun w10 fp6 H11=>bb (am (sV Z (aE Z Z iO) (sM Z Z (aa ?_))))));have hz:=((H11.ftake 2).dtake 1);rw [vb ω] at hz;refine ⟨(k+1,_),⟨Z,Z,Z,Z,Z,Z,trivial⟩,⟨hz,ω⟩,θ⟩
 ·refine aT (ae (ae ?_));obtain rfl:k=m.length:=by omega
  obtain ⟨vs,f2,g2,vl,HP⟩:=H2.parted 0 Z
  try dsimp only[lNA,lCA,lSZ,lSS] at HP
  rw [um] at HP;rw [um] at vl;have hRa:=ED (b:=b) hR;have hRM:=(hRa.red m.length).1;have hM1:=hRM.1;have vl1:vs.length=m.length:=vl.trans hRa.1;refine am (sR 2 Z (sV Z (aS dj Z) (sC func307 zD Z (qu (HP.mine 0 Z) (HP.nodup1 (i:=0) Z) (HP.rowsAt 2 Z) (fun b hb=>HP.off 2 Z 0 Z hb) ξ η ω) (fun v5 w11 r3=>?_))));obtain ⟨rfl,rm1⟩:=r3;obtain ⟨rv1,rf1,rg1,rl1,H12⟩:=HP.rowsMut 0 Z (by simp [blocks,mine,gone]) rm1
  try dsimp only[lNA,lCA,lSZ,lSS] at H12
  refine sM Z Z (sV Z (aS dj Z) (sV Z (aX Z Z) (aa (aC Z (fun c2=>?_) (fun c2=>?_)))))
  ·refine ac (sR 2 Z (aa (bc (hQ _ _ (qB results263 Z Z ?_)))));obtain ⟨e1,e2⟩:=Hh (m:=m) (b:=b) ω;exact ⟨H12.ext,none,0,(by rw [e1,e2]; rfl),(by rw [e2]; exact ⟨[],.inr (.inl ⟨Z,Z,Z⟩),.nil,σ⟩)⟩
  ·refine au (ac (eZ (α:=UInt8) ah Z aZ cE H12 (fun b4 w12 e9 g4 H13=>sA Z Z (aa (ae (ac (sM Z Z (sV Z (aS dj Z) (sM Z Z (aa (ax (bP (γ:=Nat × Value × List Nat) (fun (k,vo,f)=>[(0,.slice mA m.length mC),(9,vo),(42,.slice (some ⟨b1,0,none⟩) m.length m.length),(43,.int .i64 m.length),(44,.int .i64 k)]) (fun (k,vo,f) w'=>Sep No w [mine [.slice (some ⟨b1,0,none⟩) m.length m.length] rv1 rf1,mine [vo] (pF (redM (aug m b) m.length).1 m.length k) f] _ w'∧k≤m.length) (fun (k,vo,f)=>m.length-k) (0,_,_) ⟨Z,Z,Z,Z,Z,trivial⟩ ⟨H13.sub (.cons_cons _ (.cons_cons _ List.Sublist.slnil)),ω⟩ (fun (k,vo,f) w13 H14=>?_)))))))))))));obtain ⟨H14,hk⟩:=H14;refine ac (sV Z (aX Z Z) (aa (ae (aC Z (fun c3=>?_) (fun c3=>?_)))))
   ·refine au (ae (ax (ae ?_)));obtain ⟨eb4,eo4,ea2,ek2,ef2,ee4,ec4,eO2,eH2,em1⟩:=gI (H14.mine 0 Z) (H14.rowsAt 3 Z) (by first | omega | (simp only [List.length_set]; omega)) k (by first | omega | (simp only [List.length_set]; omega));have eP2:=H14.lookR 3 Z eO2 eH2;refine am (sV Z (aB dj bf Z Z ee4 k ω ω) (sV Z (aj aZ Z Z ec4) (sA Z Z (aa ?_))));have e5:=hRM.2 k ω;have ctl:=CU (m:=(redM (aug m b) m.length).1) (c:=m.length) (k:=k);obtain ⟨eb5,eo5,ee5,ec5⟩:=di (eP2.seen 4 Z) m.length ω;refine am (sR 3 Z (sV Z (aS dj Z) (sV Z (aB aZ ts5 Z Z ee5 m.length ω ω) (sV Z (aj tu5 Z Z ec5) (eB ah Z aZ cE Z Z Z Z eP2 (fun b5 w14 e10 g5 H15=>jq ah Z aZ cE Z Z Z H15 1 2 Z Z mv (by unfold maxLen; omega) ω (fun v6 w15 fp7 H16=>sA Z Z (aa (am (sV Z (aE Z Z iO) (sM Z Z (aa ?_))))))))))));have hz:=H16.ftake 4 |>.sub (.cons_cons _ (.cons_cons _ (.cons _ List.Sublist.slnil)))
    rw [zP] at hz;refine ⟨(k+1,_,_),⟨Z,Z,Z,Z,Z,trivial⟩,⟨hz,ω⟩,θ⟩
   ·refine aT (ac (sR 3 Z (aa (bc (hQ _ _ (qB results263 Z Z ?_))))));obtain rfl:k=m.length:=by omega
    obtain ⟨e1,e2⟩:=A0 (m:=m) (b:=b) ω;obtain ⟨qa,qc,qq⟩:=an (H14.mine 1 Z);cases qq;exact ⟨H14.ext,qa,qc,(by rw [e1,e2]),(by rw [e2]; exact H14.out 1 Z)⟩
theorem kc {w:World}{n hsC:Nat}{s p:Int}{hs:List Int}{hsA:Option Addr}(hsS:Sees w [.slice hsA hs.length hsC] hs) (hn:1≤n∧n≤100) (hl:hs.length=n) (hr:∀ i,i<n→0≤hs.getD i 0∧hs.getD i 0≤500) (hp:0≤p∧p≤500):Ret Tryz.prog 209 #[.agg #[.int .i64 n,.int .i64 s],.slice hsA hs.length hsC,.int .i64 p] w fun v w'=>Ext No w w'∧(Res w w' [v] (betw n hs p 0)):=by
 obtain ⟨hsF,hsO⟩:=hsS;refine aH func209 Z ntmps209 Z (fun Q hQ hN=>?_);have H0:=Sep.start (ab hsO aA);refine ac (bu ah Z Z H0 (fun b1 w1 e1 g1 H1=>sA Z Z (aa (ac (sF js Z ts2 (sLd tu2 (H1.box 0 Z) Z (qD ah Z dj dd (Ei (α:=UInt8)) Z ω (by unfold maxLen; omega) H1 (fun b2 w2 e2 g2 H2=>sA Z Z (aa (ae (ac (sM Z Z (sV Z (aS bH Z) (sM Z Z (aa (ax (bP (γ:=Nat × List Nat) (fun (j,f)=>[(2,.int .i64 p),(3,.pointer (some ⟨b1,0,none⟩)),(7,.slice (some ⟨b2,0,none⟩) n n),(17,.slice hsA hs.length hsC),(18,.int .i64 hs.length),(19,.int .i64 j)]) (fun (j,f) w'=>Sep No w [box b1 (.cells #[.int .i64 n,.int .i64 s] 148),mine [.slice (some ⟨b2,0,none⟩) n n] (trF (hv n hs 0) n j 0) f] [seen false [.slice hsA hs.length hsC] hs hsF] w'∧j≤n) (fun (j,f)=>n-j) (0,_) ⟨Z,Z,Z,Z,Z,Z,trivial⟩ ⟨by rw [Er]; exact H2,ω⟩ (fun (j,f) w3 H3=>?_))))))))))))))))));obtain ⟨H3,hj0⟩:=H3;refine ac (sV Z (aX Z Z) (aa (ae (aC Z (fun c1=>?_) (fun c1=>?_)))))
 ·refine au (ae (ax (ae ?_)));obtain ⟨eb1,eo1,ee1,ec1⟩:=ew (H3.seen 0 Z) j ω;have eI1:=eJ (H3.seen 0 Z) j ω;refine am (sV Z (aB bH ts2 Z Z ee1 j ω ω) (sV Z (aj tu2 Z Z ec1) (sA Z Z (aa (ae ?_)))));have hj:=hr j ω;have gl:(ke n (hs.getD j 0) 0).length=n:=rZ;refine am (sV Z (ak js Z tF Z Z (At.whole (H3.box 0 Z))) (sM Z Z (sC func208 oC Z (dY ω) (fun v1 w4 r1=>?_))));obtain ⟨e3,r1⟩:=r1;obtain ⟨fp1,H4⟩:=H3.res e3 r1;obtain ⟨a1,k1,q1⟩:=an (H4.mine 2 Z);cases q1;refine sV Z (aS aZ Z) (sM Z Z (aa (ax (bP (γ:=Nat × List Nat) (fun (i,f2)=>[(2,.int .i64 p),(3,.pointer (some ⟨b1,0,none⟩)),(7,.slice (some ⟨b2,0,none⟩) n n),(17,.slice hsA hs.length hsC),(18,.int .i64 hs.length),(19,.int .i64 j),(25,.slice a1 (ke n (hs.getD j 0) 0).length k1),(26,.int .i64 (ke n (hs.getD j 0) 0).length),(27,.int .i64 i)]) (fun (i,f2) w'=>Sep No w [box b1 (.cells #[.int .i64 n,.int .i64 s] 148),mine [.slice (some ⟨b2,0,none⟩) n n] (trF (hv n hs 0) n j i) f2,mine [.slice a1 (ke n (hs.getD j 0) 0).length k1] (ke n (hs.getD j 0) 0) fp1] [seen false [.slice hsA hs.length hsC] hs hsF] w'∧i≤n) (fun (i,f2)=>n-i) (0,_) ⟨Z,Z,Z,Z,Z,Z,Z,Z,Z,trivial⟩ ⟨H4,ω⟩ (fun (i,f2) w5 H5=>?_)))));obtain ⟨H5,hi⟩:=H5;refine ac (sV Z (aX Z Z) (aa (ae (aC Z (fun c2=>?_) (fun c2=>?_)))))
  ·refine au (ae (ax (ae ?_)));obtain ⟨eb2,eo2,ee2,ec2⟩:=di (H5.mine 2 Z) i ω;refine am (sM Z Z (sV Z (aB aZ ts5 Z Z ee2 i ω ω) (sV Z (aj tu5 Z Z ec2) (sR 2 Z (aa ?_)))));have e6:((trF (hv n hs 0) n j i).getD i []).length=j:=by rw [vY ω]; simp
   obtain ⟨eb3,eo3,eB1,eS1,eF1,eG1,ef1,ea1,ek1,ee3,eN1,ec3,nbef1,eH1⟩:=H5.unhook 1 Z i (by rw [vF]; omega)
   try dsimp only[lNA,lCA,lSZ,lSS] at eH1
   refine am (sR 4 Z (sV Z (aB dj bf Z Z ee3 i ω ω) (sV Z (aj aZ Z Z ec3) (sM Z Z (eB ah Z aZ cE Z Z Z Z eH1 (fun b3 w6 e4 g3 H6=>jq ah Z aZ cE Z Z Z H6 3 4 Z Z mv (by unfold maxLen; omega) ω (fun v2 w7 fp2 H7=>sV Z (aB dj bf Z Z ee3 i ω ω) (GK ah bf H7 1 3 Z Z Z eN1 Z Z (fun w8 fp3 H8=>?_)))))))))
   try dsimp only[lNA,lCA,lSZ,lSS] at H8
   refine aa (am (sV Z (aE Z Z iO) (sM Z Z (aa ?_))));have hz:=(H8.dtake 3);rw [show (ke n (hs.getD j 0) 0).getD i 0=(hv n hs 0 j).getD i 0 from rfl,DI ω] at hz;refine ⟨(i+1,_),⟨Z,Z,Z,Z,Z,Z,Z,Z,Z,trivial⟩,⟨hz,ω⟩,θ⟩
  ·refine aT (am (sV Z (aE Z Z iO) (sM Z Z (aa ?_))));have ei:i=n:=by omega
   have hz:=(H5.dtake 2);rw [ei,EO] at hz;refine ⟨(j+1,_),⟨Z,Z,Z,Z,Z,Z,trivial⟩,⟨hz,ω⟩,θ⟩
 ·refine aT (ae ?_);have ej:j=n:=by omega
  have HB:=H3;rw [ej,show trF (hv n hs 0) n n 0=s9 n hs 0 from rfl] at HB;have hRm:=yw (n:=n) (h:=hs) (b:=0);have bl:=vc (n:=n) (h:=hs) (b:=0);have gl2:(ke n p 0).length=n:=rZ;refine am (sM Z Z (sV Z (ak js Z tF Z Z (At.whole (HB.box 0 Z))) (sM Z Z (sC func208 oC Z (dY ω) (fun v3 w9 r2=>?_)))));obtain ⟨e6,r2⟩:=r2;obtain ⟨fp4,H9⟩:=HB.res e6 r2;obtain ⟨a2,k2,q2⟩:=an (H9.mine 2 Z);cases q2;refine sC func263 yB Z (rv (H9.msees 1 Z) (H9.msees 2 Z) η ξ ω) (fun v4 w10 r3=>?_);obtain ⟨e7,sa1,sk1,rfl,r3⟩:=r3;obtain ⟨fp5,H10⟩:=H9.res e7 r3;refine sR 5 Z (aa (ac (sR 2 Z (rN hQ results209 Z ?_))));exact ⟨H10.ext,H10.out 3 Z⟩
end Go.Wk
namespace Go.Wk
open Go.Proofs Rp Go.Proofs.Tryz
set_option maxRecDepth 10000
theorem iZ {w:World}{xs:List Int}{xsA:Option Addr}{xsC:Nat}(xsS:Sees w [.slice xsA xs.length xsC] xs):Ret Tryz.prog 60 #[.slice xsA xs.length xsC] w fun v w'=>Ext No w w'∧(v = .int .i64 xs.length):=by
 have xsL:=sL xsS;obtain ⟨xsF,xsO⟩:=xsS;refine aH func60 Z ntmps60 Z (fun Q hQ hN=>?_);have H0:=Sep.start (ab xsO aA);refine ac (sA Z Z (aa (ac (sM Z Z (sV Z (aS bH Z) (rA hQ results60 Z ?_))))));exact ⟨H0.ext,Z⟩
end Go.Wk
namespace Go.Wk
open Go.Proofs Rp Go.Proofs.Tryz
set_option maxRecDepth 10000
theorem kM {w:World}{n s:Nat}{xs:List (List UInt8)}{xsA:Option Addr}{xsC:Nat}(hn:1≤n∧n≤3∧s≤2) (hl:xs.length=n+s) (h4:Part xs) (xsS:Sees w [.slice xsA xs.length xsC] xs):Ret Tryz.prog 140 #[.agg #[.int .i64 n,.int .i64 s],.slice xsA xs.length xsC] w fun v w'=>Ext No w w'∧(∃ A C,v = .tuple #[.slice A (sn n xs).length C,.bool (gb n xs)]∧Res w w' [.slice A (sn n xs).length C] (sn n xs)):=by
 have xsL:=sL xsS;obtain ⟨xsF,xsO⟩:=xsS;refine aH func140 Z ntmps140 Z (fun Q hQ hN=>?_);have H0:=Sep.start (ab xsO aA);refine ac (bu ah Z Z H0 (fun b1 w1 e1 g1 H1=>sR 2 Z (aa (ac (eZ (α:=Int) ah Z bH bG H1 (fun b2 w2 e2 g2 H2=>eZ (α:=View) ah Z dj dd H2 (fun b3 w3 e3 g3 H3=>sR 2 Z (aa (ae (ae ?_))))))))));have HR:=H3.noRows (β:=UInt8)
 try dsimp only[lNA,lCA,lSZ,lSS] at HR
 refine am (sM Z Z (sV Z (aS dj Z) (sM Z Z (aa (ax (bP (γ:=Nat × Value × List Nat × Value × List View × List Nat × List Nat) (fun (k,vo,f,vp,vs,f2,g)=>[(2,.pointer (some ⟨b1,0,none⟩)),(6,vo),(7,vp),(14,.slice xsA xs.length xsC),(15,.int .i64 xs.length),(16,.int .i64 k)]) (fun (k,vo,f,vp,vs,f2,g) w'=>Sep No w [box b1 (.cells #[.int .i64 n,.int .i64 s] 148),mine [vo] (bt xs n k) f,mine [vp] vs f2] [seen false [.slice xsA xs.length xsC] xs xsF,rows vs (thereTo xs n k) g] w'∧k≤xs.length∧vs.length=(thereTo xs n k).length) (fun (k,vo,f,vp,vs,f2,g)=>xs.length-k) (0,_,_,_,_,_,_) ⟨Z,Z,Z,Z,Z,Z,trivial⟩ ⟨HR,ω,Z⟩ (fun (k,vo,f,vp,vs,f2,g) w4 H4=>?_)))))));obtain ⟨H4,hk,vl⟩:=H4;refine ac (sV Z (aX Z Z) (aa (ae (aC Z (fun c1=>?_) (fun c1=>?_)))))
 ·refine au (ae (ax (ae ?_)));obtain ⟨eb1,eo1,ea1,ek1,ef1,ee1,ec1,eO1,eH1⟩:=fo (H4.seen 0 Z) k ω;have eP1:=H4.look1 0 Z eO1 eH1;refine am (sM Z Z (sV Z (aB dj bf Z Z ee1 k ω ω) (sV Z (aj aZ Z Z ec1) (sR 2 Z (aa (ae (cb (S:=Ext No _) (oQ [1,3,5,7,9,13,15,10,17,18]) κ κ κ Z (fun _=>Ext.refl.drawn _) (fun q1=>?_))))))));have H5:=eP1.drawn q1;refine dM Z Z Z (dV Z Z (fun zw hx=>aS aZ Z) (dR 2 Z (fY (t:=24) Z (fun hg1=>?_) (fun hg1=>?_))))
  ·try simp only [decide_eq_true_eq,decide_eq_false_iff_not] at hg1
   refine bp Z (wg Z Z Z) Z Z (fun zw hx=>aL Z) (bp Z (wg Z Z Z) Z Z (fun zw hx=>ag js Z ts2 Z Z) (bp Z (wg Z Z Z) Z Z (fun zw hx=>aj tu2 Z Z (al (hx.heap (H5.box 0 Z)) Z)) ?_));obtain ⟨a1,k1,q2⟩:=an (H5.mine 1 Z);cases q2;refine dh Z (wg Z Z Z) Z Z (aR func60 Z iK Z) (iZ (H5.msees 1 Z)) (fun hS _ _ r _=>hS.trans r.1.no) (fun v1 w5 r1=>?_);obtain ⟨e4,rfl⟩:=r1;have H6:=H5.to e4;refine bp Z (wg Z Z Z) Z Z (fun zw hx=>aX Z Z) (aW Z ah Z Z (aY Z Z) (bb (aC Z (fun c2=>?_) (fun c2=>?_))))
   ·have tl:=iL (xs:=xs) (n:=n) (k:=k);have hl9:=pL (xs:=xs) (n:=n) (k:=k);refine am (sR 2 Z (eB ah Z bH bG Z Z Z Z H6 (fun b4 w6 e5 g4 H7=>jq ah Z bH bG Z Z Z H7 1 3 Z Z (tP (by first | assumption | (unfold I64ok; omega))) (by unfold maxLen; omega) ω (fun v2 w7 fp1 H8=>sR 2 Z (eB ah Z dj dd Z Z Z Z H8 (fun b5 w8 e6 g5 H9=>jq (α:=View) (u:=⟨_,_,_⟩) ah Z dj dd Z Z Z H9 2 4 Z Z ⟨Z,Z⟩ (by unfold maxLen; omega) ω (fun v3 w9 fp2 H10=>?_)))))))
    try dsimp only[lNA,lCA,lSZ,lSS] at H10
    obtain ⟨rg1,H11,rh1⟩:=H10.rowApp 1 2 Z Z ξ
    try dsimp only[lNA,lCA,lSZ,lSS] at H11
    refine sR 2 Z (aa (am (sV Z (aE Z Z iO) (sM Z Z (aa ?_)))));have hy:=ie (xs:=xs) (n:=n) (k:=k) ⟨ω,ω⟩;have hz:=((H11.ftake 2).dtake 3);rw [← hy.1,← hy.2] at hz;refine ⟨(k+1,_,_,_,_,_,_),⟨Z,Z,Z,Z,Z,Z,trivial⟩,⟨hz,ω,(by rw [hy.2,List.length_append,List.length_append]; simp only [List.length_cons,List.length_nil]; omega)⟩,θ⟩
   ·refine au (am (sV Z (aE Z Z iO) (sM Z Z (aa ?_))));have hy:=iS (xs:=xs) (n:=n) (k:=k) ω;have hz:=(H6.ftake 2);refine ⟨(k+1,_,_,_,_,_,_),⟨Z,Z,Z,Z,Z,Z,trivial⟩,⟨(by rw [hy.1,hy.2]; exact hz),ω,(by rw [hy.2]; exact vl)⟩,θ⟩
  ·try simp only [decide_eq_true_eq,decide_eq_false_iff_not] at hg1
   refine dR 5 Z (aW Z ah Z Z (bm Z Z) (bb (md Z (au (am (sV Z (aE Z Z iO) (sM Z Z (aa ?_))))))));have hy:=iS (xs:=xs) (n:=n) (k:=k) ω;have hz:=(H5.ftake 2);refine ⟨(k+1,_,_,_,_,_,_),⟨Z,Z,Z,Z,Z,Z,trivial⟩,⟨(by rw [hy.1,hy.2]; exact hz),ω,(by rw [hy.2]; exact vl)⟩,θ⟩
 ·refine aT (ae (ae ?_));obtain rfl:k=xs.length:=by omega
  have hl8:=pL (xs:=xs) (n:=n) (k:=xs.length);refine cb (S:=Ext No _) (oQ [1,5,7,2,8]) κ κ κ Z (fun _=>Ext.refl.drawn _) (fun q3=>?_);have H12:=H4.drawn q3;refine dM Z Z Z (dV Z Z (fun zw hx=>ag js Z ts2 Z Z) (dV Z Z (fun zw hx=>aj tu2 Z Z (al (hx.heap (H12.box 0 Z)) Z)) ?_));obtain ⟨a2,k2,q4⟩:=an (H12.mine 1 Z);cases q4;refine dC func60 iK Z (iZ (H12.msees 1 Z)) (fun v4 w10 r2=>?_);obtain ⟨e7,rfl⟩:=r2;have H13:=H12.to e7;refine aW Z ah Z Z (aX Z Z) (bb (aC Z (fun c3=>?_) (fun c3=>?_)))
  ·refine ac (sR 2 Z (aa (bc (hQ _ _ (qB results140 Z Z ?_)))));obtain ⟨e1,e2,_⟩:=GF (xs:=xs) (n:=n) ω;exact ⟨H13.ext,none,0,(by rw [e1,e2]; rfl),(by rw [e2]; exact ⟨[],.inr (.inl ⟨Z,Z,Z⟩),.nil,σ⟩)⟩
  ·refine au (ae ?_);have tl:=iL (xs:=xs) (n:=n) (k:=xs.length);have hl9:=pL (xs:=xs) (n:=n) (k:=xs.length);obtain ⟨pA,pC,pq⟩:=an (H13.mine 2 Z);rw [vl] at pq;cases pq;obtain ⟨tf,HV,_⟩:=H13.viewsIn 2 1 Z Z vl
   try dsimp only[lNA,lCA,lSZ,lSS] at HV
   have hh:(bt xs n xs.length).length=n:=by omega
   have hth:(thereTo xs n xs.length).length=n:=by omega
   have ht4:=yI (n:=n) h4;have hra:∀ i,i<n→0≤(bt xs n xs.length).getD i 0∧(bt xs n xs.length).getD i 0≤500:=fun i hi=>by have:=lV (xs:=xs) (n:=n) (k:=xs.length) i ω; omega
   have hrz:rises (bt xs n xs.length) ((n:Int)+s-1)=true:=by have:=sB (xs:=xs) (n:=n) (k:=xs.length); rwa [show ((xs.length:Nat):Int)-1=(n:Int)+s-1 by omega] at this
   refine am (eZ (α:=UInt8) ah Z aZ cE HV (fun b6 w11 e8 g6 H14=>sA Z Z (aa (ae (ac (sF js Z ts2 (sLd tu2 (H14.box 0 Z) Z (sM Z Z (aa (ax (bP (γ:=Nat × Value × List Nat) (fun (i,vo,f3)=>[(2,.pointer (some ⟨b1,0,none⟩)),(6,.slice a2 (bt xs n xs.length).length k2),(7,.slice pA (thereTo xs n xs.length).length pC),(10,vo),(47,.int .i64 n),(48,.int .i64 i)]) (fun (i,vo,f3) w'=>Sep No w [box b1 (.cells #[.int .i64 n,.int .i64 s] 148),mine [.slice a2 (bt xs n xs.length).length k2] (bt xs n xs.length) f,gone,mine [vo] (mM n xs i) f3] _ w'∧i≤n) (fun (i,vo,f3)=>n-i) (0,_,_) ⟨Z,Z,Z,Z,Z,Z,trivial⟩ ⟨H14,ω⟩ (fun (i,vo,f3) w12 H15=>?_))))))))))));obtain ⟨H15,hi⟩:=H15;refine ac (sV Z (aX Z Z) (aa (ae (aC Z (fun c4=>?_) (fun c4=>?_)))))
   ·refine au (ae (ax (ac (sR 2 Z (aa ?_)))));have bl:=Gl (n:=n) (s:=s) (hs:=(bt xs n xs.length)) (x:=(i:Int)) ω ω hrz ω ω;have ml:=iH (cs:=betw n (bt xs n xs.length) i 0) ht4 (k:=(thereTo xs n xs.length).length) (Nat.le_refl _);have dl:=qd (n:=n) h4 i;refine am (sR 2 Z (sV Z (ak js Z tF Z Z (At.whole (H15.box 0 Z))) (sR 2 Z (sC func209 zx Z (kc (H15.msees 1 Z) ω ξ η ξ) (fun v5 w13 r3=>?_)))));obtain ⟨e9,r3⟩:=r3;obtain ⟨fp3,H16⟩:=H15.res e9 r3;obtain ⟨a3,k3,q5⟩:=an (H16.mine 4 Z);cases q5;refine sC func156 sv Z (mf (H16.sees 2 Z) (H16.msees 4 Z) ω ω η ω) (fun v6 w14 r4=>?_);obtain ⟨e10,r4⟩:=r4;obtain ⟨fp4,H17⟩:=H16.res e10 r4;obtain ⟨a4,k4,q6⟩:=an (H17.mine 5 Z);cases q6;refine vA ah Z aZ cE Z Z Z H17 3 Z (H17.mine 5 Z) (by (try simp only [List.length_nil]); unfold maxLen; omega) (by (try simp only [List.length_nil]); omega) (fun v7 w15 fp5 H18=>sA Z Z (aa (am (sV Z (aE Z Z iO) (sM Z Z (aa ?_))))));have hz:=(H18.dtake 4);rw [tU] at hz;refine ⟨(i+1,_,_),⟨Z,Z,Z,Z,Z,Z,trivial⟩,⟨hz,ω⟩,θ⟩
   ·refine aT (ac (sR 3 Z (aa (bc (hQ _ _ (qB results140 Z Z ?_))))));obtain rfl:n=i:=by omega
    obtain ⟨e1,e2,_⟩:=AL (xs:=xs) (n:=n) ω;obtain ⟨qa,qc,qq⟩:=an (H15.mine 3 Z);cases qq;exact ⟨H15.ext,qa,qc,(by rw [e1,e2]),(by rw [e2]; exact H15.out 3 Z)⟩
end Go.Wk
namespace Go.Wk
open Go.Proofs Rp Go.Proofs.Tryz
set_option maxRecDepth 10000
theorem dc {w:World}{s:Shape}(hs:s.ok=true):Ret Tryz.prog 136 #[s.v] w fun v w'=>Ext No w w'∧(v = .agg #[.int .i64 (s.Data.toNat:Nat),.int .i64 (s.Spare.toNat:Nat)]):=by
 have sbd:=aG hs;refine aH func136 Z ntmps136 Z (fun Q hQ hN=>?_);have H0:=Sep.start (w:=w) (F:=[]) σ;refine ac (bu ah Z Z H0 (fun b1 w1 e1 g1 H1=>bB ah Z zeroValue148 H1 (fun b2 w2 e2 g2 H2=>aa (ac (sF bi Z ts2 (sLd tu2 (H2.box 0 Z) Z (sF bi Z ts2 (sLd tu2 (H2.box 0 Z) Z (sV Z (aP Ah Z Z) (aF ah tF Z Z Z Z H2 1 Z Z (fun w3 e3 H3=>?_)))))))))));dsimp only[lNA,lCA,lSZ,lSS,aI] at H3;refine aa (bc (hQ _ _ (cp results136 Z (ay js Z tF Z (At.whole (H3.box 1 Z))) (⟨H3.ext,?_⟩))));rw [Int.toNat_of_nonneg ω,Int.toNat_of_nonneg ω]
 rfl
theorem ii {w:World}{zb zC9 zC10 zC11:Nat}{z:Wld}{zA9 zA10 zA11:Option Addr}{zF9 zF10 zF11:List Nat}{g row:Int}(zB:w.heap[zb]? = some (.cells [.int .i64 z.Shape.Groups,.int .i64 z.Shape.Column,.int .i64 z.Shape.Data,.int .i64 z.Shape.Spare,.int .i64 z.Shape.Rows,.int .i64 z.Shape.Cap,.int .i64 z.Shape.Batch,.int .i64 z.Shape.Queue,.int .i64 z.Shape.Stage,.slice zA9 z.Groups.length zC9,.slice zA10 z.On.length zC10,.slice zA11 z.Tapes.length zC11,.int .i64 z.Writes,.int .i64 z.Stop,.bool z.Down].toArray 31)) (zK:z.Ok) (zO9:own false w [.slice zA9 z.Groups.length zC9] z.Groups zF9) (zO10:own false w [.slice zA10 z.On.length zC10] z.On zF10) (zO11:own false w [.slice zA11 z.Tapes.length zC11] z.Tapes zF11) (hs:z.Shape.ok=true) (hG:aN z=true) (hg:ins g 0 (z.Shape.Groups+z.Shape.Column-1)=true) (hr:ins row 0 (z.Shape.Rows-1)=true):Ret Tryz.prog 138 #[.pointer (some ⟨zb,0,none⟩),.int .i64 g,.int .i64 row] w fun v w'=>Ext No w w'∧(∃ fp,own false w' [v] (je z g row) fp∧∀ b∈fp,b∈zF9∨w.heap.size≤b):=by
 have zK2:=zK;unfold Wld.Ok Shape.Ok at zK2
 try unfold I64ok at zK2
 try unfold maxLen at zK2
 have zL9:=oL zO9;have zL10:=oL zO10;have zL11:=oL zO11;have sbd:=aG hs;have hgg:=cw hG;have hgl:=hgg.1;have hgi:=aJ.1 hg;obtain ⟨hdl,hdd⟩:=hgg.2 g.toNat ω;have hri:=aJ.1 hr;refine aH func138 Z ntmps138 Z (fun Q hQ hN=>?_);have H0:=Sep.start (bX zB (ab zO9 (ab zO10 (ab zO11 aA))));refine ac (sA Z Z (aa (ac (eZ (α:=View) ah Z dj dd H0 (fun b1 w1 e1 g1 H1=>sA Z Z (aa (ae (ae ?_))))))));obtain ⟨eb1,eo1,ea1,ek1,ef1,ee1,ec1,eO1,eH1⟩:=fo (H1.seen 1 Z) g.toNat ω;have eP1:=H1.look1 1 Z eO1 eH1;refine am (sR 2 Z (sF be Z kh (sLd fW (eP1.fbox 0 Z) Z (sM Z Z (sV Z (aB fW ud Z Z ee1 g.toNat ω ω) (sV Z (aj fl Z Z ec1) (sV Z (aS fl Z) (sM Z Z (aa (ax ?_))))))))));have H3:=eP1.noRows (β:=UInt8)
 try dsimp only[lNA,lCA,lSZ,lSS] at H3
 refine FB (β:=UInt8) (γ:=Nat) (fun k=>ia (z.Groups.getD g.toNat []) row.toNat k) 0 H3 0 Z 5 Z Z 7 Z (fun gg=>∀ b∈gg,b∈zF9) σ [(2,_),(6,_),(17,_),(18,_)] ⟨Z,Z,Z,Z,trivial⟩ (fun k=>[(19,.int .i64 k)]) (fun k=>k≤(z.Groups.getD g.toNat []).length∧True) (fun k=>(z.Groups.getD g.toNat []).length-k) ⟨Z,trivial⟩ ⟨ω,trivial⟩ (fun k vA1 fA1 vs1 gA1 w2 H2 vl vg ⟨hk,_⟩=>?_);dsimp only[lCA,lNA,lSZ,lSS] at H2 ⊢;refine ac (sV Z (aX Z Z) (aa (ae (aC Z (fun c1=>?_) (fun c1=>?_)))))
 ·refine au (ae (ax (ae ?_)));obtain ⟨eb2,eo2,es1,ef2,ee2,ec2,eO2,eH2,em1⟩:=dr (H2.seen 4 Z) k ω;obtain ⟨ea2,ek2,eg1,rfl,eq1,eK1,eo3⟩:=jB eO2;have eP2:=H2.look1 4 Z eo3 (fun b hb=>eH2 b (by rw [eq1]; simp [hb]));have eL1:=oL eo3;refine am (sV Z (aB fl gD Z Z ee2 k ω ω) (sV Z (ak iz Z gD Z Z ec2) (bB ah Z zeroValue72 eP2 (fun b2 w3 e2 g2 H4=>aF ah gD Z Z Z Z H4 1 Z Z (fun w4 e3 H5=>?_)))));dsimp only[lNA,lCA,lSZ,lSS,aI] at H5;refine aa (ac (sF iz Z ts4 (sLd tu4 (H5.box 1 Z) Z (aa (cx Z (fun c2=>?_) (fun c2=>?_))))))
  ·have bl:=pV (G:=(z.Groups.getD g.toNat [])) (row:=row.toNat) (k:=k);refine am (sM Z Z (eB ah Z dj dd Z Z Z Z H5 (fun b3 w5 e4 g3 H6=>?_)));have H8:=H6.nilF (β:=UInt8)
   try dsimp only[lNA,lCA,lSZ,lSS] at H8
   refine jq (α:=View) (u:=⟨_,_,_⟩) ah Z dj dd Z Z Z H8 0 2 Z Z ⟨Z,Z⟩ (by unfold maxLen; omega) ω (fun v1 w6 fp1 H7=>?_)
   try dsimp only[lNA,lCA,lSZ,lSS] at H7
   obtain ⟨rg1,H9,rh1⟩:=H7.rowApp (y:=([]:List UInt8)) 5 7 Z Z ξ
   try dsimp only[lNA,lCA,lSZ,lSS] at H9
   refine sA Z Z (aa (am (sV Z (aE Z Z iO) (sM Z Z (aa ?_)))));have bq:=Cq (row:=row.toNat) c2;rw [← bq] at H9;exact ⟨(k+1,_,_,_,_),⟨Z,Z,Z,Z,Z,Z,trivial⟩,⟨((H9.ftake 6).dtake 1),by rw [bq,List.length_append,List.length_append,vl]; rfl,(fun b hb=>(rh1 b hb).elim (vg b) (fun h=>absurd h σ)),ω,trivial⟩,θ⟩
  ·have bl:=pV (G:=(z.Groups.getD g.toNat [])) (row:=row.toNat) (k:=k);have hbl:=hdd k ω;obtain ⟨eb3,eo4,es2,ef3,ee3,ec3,eO3,eH3,em2⟩:=dr (H5.seen 6 Z) row.toNat ω;obtain ⟨ea3,ek3,eg2,rfl,eq2,eK2,eo5⟩:=kV eO3;have eK2U:=eK2;unfold Block.Ok at eK2U
   try unfold I64ok at eK2U
   try unfold maxLen at eK2U
   have eP3:=H5.look1 6 Z eo5 (fun b hb=>eH3 b (by rw [eq2]; simp [hb]));have eL2:=oL eo5;refine am (sM Z Z (sF iz Z rH (sLd iy (eP3.box 1 Z) Z (sM Z Z (sV Z (aB iy gc Z Z ee3 row.toNat ω ω) (sF jh Z bf (sV Z (aj aZ Z Z (eu ec3 1 Z)) (eB ah Z dj dd Z Z Z Z eP3 (fun b4 w7 e5 g4 H10=>jq (α:=View) (u:=⟨_,_,_⟩) ah Z dj dd Z Z Z H10 0 2 Z Z ⟨Z,Z⟩ (by unfold maxLen; omega) ω (fun v2 w8 fp2 H11=>?_))))))))))
   try dsimp only[lNA,lCA,lSZ,lSS] at H11
   obtain ⟨rg2,H12,rh2⟩:=H11.rowApp 5 7 Z Z ξ
   try dsimp only[lNA,lCA,lSZ,lSS] at H12
   refine sA Z Z (aa (am (sV Z (aE Z Z iO) (sM Z Z (aa ?_)))));have bq:=DS (row:=row.toNat) c2;rw [← bq] at H12;exact ⟨(k+1,_,_,_,_),⟨Z,Z,Z,Z,Z,Z,trivial⟩,⟨((H12.ftake 6).dtake 1),by rw [bq,List.length_append,List.length_append,vl]; rfl,(fun b hb=>(rh2 b hb).elim (vg b) (fun h=>eH1 _ (eH2 _ (by rw [eq1]; exact eH3 _ (by rw [eq2]; exact h))))),ω,trivial⟩,θ⟩
 ·refine aT (ac (sR 2 Z (rN hQ results138 Z ?_)));obtain rfl:k=(z.Groups.getD g.toNat []).length:=by omega
  obtain ⟨fpV,HV,hfV⟩:=H2.viewsIn 0 5 Z Z vl;exact ⟨H2.ext,fpV,(HV.seen 6 Z),fun b hb=>(hfV b hb).elim (fun h => .inr (H2.freshD 0 Z b h)) (fun h => .inl (vg b h))⟩
theorem cJ {w:World}{zb zC9 zC10 zC11:Nat}{z:Wld}{zA9 zA10 zA11:Option Addr}{zF9 zF10 zF11:List Nat}{g row:Int}(zB:w.heap[zb]? = some (.cells [.int .i64 z.Shape.Groups,.int .i64 z.Shape.Column,.int .i64 z.Shape.Data,.int .i64 z.Shape.Spare,.int .i64 z.Shape.Rows,.int .i64 z.Shape.Cap,.int .i64 z.Shape.Batch,.int .i64 z.Shape.Queue,.int .i64 z.Shape.Stage,.slice zA9 z.Groups.length zC9,.slice zA10 z.On.length zC10,.slice zA11 z.Tapes.length zC11,.int .i64 z.Writes,.int .i64 z.Stop,.bool z.Down].toArray 31)) (zK:z.Ok) (zO9:own false w [.slice zA9 z.Groups.length zC9] z.Groups zF9) (zO10:own false w [.slice zA10 z.On.length zC10] z.On zF10) (zO11:own false w [.slice zA11 z.Tapes.length zC11] z.Tapes zF11) (hs:z.Shape.ok=true) (hG:aN z=true) (hg:ins g 0 (z.Shape.Groups+z.Shape.Column-1)=true) (hr:ins row 0 (z.Shape.Rows-1)=true):Ret Tryz.prog 81 #[.pointer (some ⟨zb,0,none⟩),.int .i64 g,.int .i64 row] w fun v w'=>Ext No w w'∧(Res w w' [v] (jb z g row)):=by
 have zK2:=zK;unfold Wld.Ok Shape.Ok at zK2
 try unfold I64ok at zK2
 try unfold maxLen at zK2
 have zL9:=oL zO9;have zL10:=oL zO10;have zL11:=oL zO11;have sbd:=aG hs;have hgg:=cw hG;have hgl:=hgg.1;have hgi:=aJ.1 hg;obtain ⟨hdl,hdd⟩:=hgg.2 g.toNat ω;have hri:=aJ.1 hr;obtain ⟨pl,pp,pd⟩:=x0 (row:=row) hs hG hg hr;refine aH func81 Z ntmps81 Z (fun Q hQ hN=>?_);have H0:=Sep.start (bX zB (ab zO9 (ab zO10 (ab zO11 aA))));refine ac (sA Z Z (aa (ac (sR 2 Z (sF be Z bk (sV Z (ak bi Z bk Z Z (At.sub (H0.fbox 0 Z) 9)) (sE func136 iJ Z (dc η) H0 (fun w1 e1 H1=>sR 3 Z (sC func138 ss Z (ii (H1.fbox 0 Z) η (az (H1.seen 1 Z)) (az (H1.seen 2 Z)) (az (H1.seen 3 Z)) η η η η) (fun v2 w2 r2=>?_))))))))));obtain ⟨e2,fpS1,oS1,hS1⟩:=r2;have H2:=H1.lookS e2 1 Z oS1 hS1;obtain ⟨a1,k1,q1⟩:=an (H2.seen 4 Z);cases q1;refine sC func140 z2 Z (kM (n:=z.Shape.Data.toNat) (s:=z.Shape.Spare.toNat) ω pl pp (H2.sees 4 Z)) (fun v3 w3 r3=>?_);obtain ⟨e3,sa1,sk1,rfl,r3⟩:=r3;obtain ⟨fp1,H3⟩:=H2.res e3 r3;refine sR 5 Z (aa (ac (sR 2 Z (rN hQ results81 Z ?_))));exact ⟨H3.ext,H3.out 0 Z⟩
theorem ol {w:World}{z:Wld}{zA9 zA10 zA11:Option Addr}{zC9 zC10 zC11:Nat}{g row:Int}(zK:z.Ok) (zS9:Sees w [.slice zA9 z.Groups.length zC9] z.Groups) (zS10:Sees w [.slice zA10 z.On.length zC10] z.On) (zS11:Sees w [.slice zA11 z.Tapes.length zC11] z.Tapes):Ret Tryz.prog 26 #[z.val zA9 zC9 zA10 zC10 zA11 zC11,.int .i64 g,.int .i64 row] w fun v w'=>Ext No w w'∧(∃ A1 C1,v=(dU z g row).val A1 C1∧Res w w' [.int .i64 (dU z g row).Code,.slice A1 (dU z g row).Bytes.length C1] (dU z g row)):=by
 have zK2:=zK;unfold Wld.Ok Shape.Ok at zK2
 try unfold I64ok at zK2
 try unfold maxLen at zK2
 have zL9:=sL zS9;obtain ⟨zF9,zO9⟩:=zS9;have zL10:=sL zS10;obtain ⟨zF10,zO10⟩:=zS10;have zL11:=sL zS11;obtain ⟨zF11,zO11⟩:=zS11;refine aH func26 Z ntmps26 Z (fun Q hQ hN=>?_);have H0:=Sep.start (ab zO9 (ab zO10 (ab zO11 aA)));refine ac (bu ah Z Z H0 (fun b1 w1 e1 g1 H1=>bB ah Z zeroValue44 H1 (fun b2 w2 e2 g2 H2=>aa (ac (sV Z (ak be Z cy Z Z (At.whole (H2.box 0 Z))) (sE func57 jH Z (dB η (H2.sees 0 Z) (H2.sees 1 Z) (H2.sees 2 Z)) H2 (fun w3 e3 H3=>sA Z Z (aa (ae (ac (sR 2 Z (aa (aC Z (fun c1=>?_) (fun c1=>?_))))))))))))))
 ·have hs:=(bx (hZ (w:=z) ω).1).1;refine am (sR 2 Z (sE func79 BC Z (kC (H3.box 0 Z) η (H3.sees 0 Z) (H3.sees 1 Z) (H3.sees 2 Z) η) H3 (fun w4 e4 H4=>sA Z Z (aa (ae (ax (ac (sR 3 Z (aa (aC Z (fun c2=>?_) (fun c2=>?_)))))))))))
  ·refine ac (sM Z Z (sV Z (aP jI Z Z) (aF ah rC Z Z Z Z H4 1 Z Z (fun w5 e5 H5=>?_))));dsimp only[lNA,lCA,lSZ,lSS,aI] at H5;refine aa (bc (hQ _ _ (cp results26 Z (ay z6 Z rC Z (At.whole (H5.box 1 Z))) ?_)));rw [wt ω ω];exact ⟨H5.ext,none,0,Z,ne (by unfold I64ok; have:=AF (z:=z) (g:=g) (row:=row); dsimp only; omega)⟩
  ·refine ae ?_;have hwr:dp z g row=0:=(od (z:=z) (g:=g) (row:=row) ω ω);obtain ⟨hs,hG,hg,hr,hon⟩:=jC hwr;refine am (sM Z Z (sE func80 jE Z (cV (H4.box 0 Z) η (H4.sees 0 Z) (H4.sees 1 Z) (H4.sees 2 Z) η η η) H4 (fun w6 e6 H6=>sA Z Z (aa (cx Z (fun c3=>?_) (fun c3=>?_))))))
   ·refine ac (sV Z (aP jI Z Z) (aF ah rC Z Z Z Z H6 1 Z Z (fun w7 e7 H7=>?_)));dsimp only[lNA,lCA,lSZ,lSS,aI] at H7;refine aa (bc (hQ _ _ (cp results26 Z (ay z6 Z rC Z (At.whole (H7.box 1 Z))) ?_)));rw [nO hwr (by simp_all)];exact ⟨H7.ext,none,0,Z,ne (by unfold I64ok; dsimp only; omega)⟩
   ·refine au (ac (sR 2 Z (sC func81 lk Z (cJ (H6.box 0 Z) η (az (H6.seen 0 Z)) (az (H6.seen 1 Z)) (az (H6.seen 2 Z)) η η η η) (fun v4 w8 r4=>?_))));obtain ⟨e8,r4⟩:=r4;obtain ⟨fp1,H8⟩:=H6.res e8 r4;obtain ⟨a1,k1,q1⟩:=an (H8.mine 2 Z);cases q1;refine sV Z (aP jI Z Z) (aF ah rC Z Z Z Z H8 1 Z Z (fun w9 e9 H9=>?_));dsimp only[lNA,lCA,lSZ,lSS,aI] at H9;refine aa (bc (hQ _ _ (cp results26 Z (ay z6 Z rC Z (At.whole (H9.box 1 Z))) ?_)));rw [mo hwr (by simp_all)];exact ⟨H9.ext,_,_,Z,BytesResult.out (x:=⟨0,jb z g row⟩) (H9.sub (.cons _ (.cons _ (.cons_cons _ List.Sublist.slnil)))) (by show I64ok 0; unfold I64ok; omega)⟩
 ·refine au (ae (ax (ac (sR 3 Z (aa (aC Z (fun c4=>?_) (fun c4=>?_)))))))
  ·refine ac (sM Z Z (sV Z (aP jI Z Z) (aF ah rC Z Z Z Z H3 1 Z Z (fun w10 e10 H10=>?_))));dsimp only[lNA,lCA,lSZ,lSS,aI] at H10;refine aa (bc (hQ _ _ (cp results26 Z (ay z6 Z rC Z (At.whole (H10.box 1 Z))) ?_)));rw [xz ω];exact ⟨H10.ext,none,0,Z,ne (by unfold I64ok; have:=qG (z:=z); dsimp only; omega)⟩
  ·refine ae ?_;have hwr:dp z g row=0:=(od (z:=z) (g:=g) (row:=row) ω ω);obtain ⟨hs,hG,hg,hr,hon⟩:=jC hwr;refine am (sM Z Z (sE func80 jE Z (cV (H3.box 0 Z) η (H3.sees 0 Z) (H3.sees 1 Z) (H3.sees 2 Z) η η η) H3 (fun w11 e11 H11=>sA Z Z (aa (cx Z (fun c5=>?_) (fun c5=>?_))))))
   ·refine ac (sV Z (aP jI Z Z) (aF ah rC Z Z Z Z H11 1 Z Z (fun w12 e12 H12=>?_)));dsimp only[lNA,lCA,lSZ,lSS,aI] at H12;refine aa (bc (hQ _ _ (cp results26 Z (ay z6 Z rC Z (At.whole (H12.box 1 Z))) ?_)));rw [nO hwr (by simp_all)];exact ⟨H12.ext,none,0,Z,ne (by unfold I64ok; dsimp only; omega)⟩
   ·refine au (ac (sR 2 Z (sC func81 lk Z (cJ (H11.box 0 Z) η (az (H11.seen 0 Z)) (az (H11.seen 1 Z)) (az (H11.seen 2 Z)) η η η η) (fun v6 w13 r6=>?_))));obtain ⟨e13,r6⟩:=r6;obtain ⟨fp2,H13⟩:=H11.res e13 r6;obtain ⟨a2,k2,q2⟩:=an (H13.mine 2 Z);cases q2;refine sV Z (aP jI Z Z) (aF ah rC Z Z Z Z H13 1 Z Z (fun w14 e14 H14=>?_));dsimp only[lNA,lCA,lSZ,lSS,aI] at H14;refine aa (bc (hQ _ _ (cp results26 Z (ay z6 Z rC Z (At.whole (H14.box 1 Z))) ?_)));rw [mo hwr (by simp_all)];exact ⟨H14.ext,_,_,Z,BytesResult.out (x:=⟨0,jb z g row⟩) (H14.sub (.cons _ (.cons _ (.cons_cons _ List.Sublist.slnil)))) (by show I64ok 0; unfold I64ok; omega)⟩
end Go.Wk
namespace Go.Wk
open Go.Proofs Rp Go.Proofs.Tryz
set_option maxRecDepth 10000
theorem fU {w:World}{zb zC9 zC10 zC11:Nat}{z:Wld}{zA9 zA10 zA11:Option Addr}{g:Int}(zB:w.heap[zb]? = some (.cells [.int .i64 z.Shape.Groups,.int .i64 z.Shape.Column,.int .i64 z.Shape.Data,.int .i64 z.Shape.Spare,.int .i64 z.Shape.Rows,.int .i64 z.Shape.Cap,.int .i64 z.Shape.Batch,.int .i64 z.Shape.Queue,.int .i64 z.Shape.Stage,.slice zA9 z.Groups.length zC9,.slice zA10 z.On.length zC10,.slice zA11 z.Tapes.length zC11,.int .i64 z.Writes,.int .i64 z.Stop,.bool z.Down].toArray 31)) (zK:z.Ok) (zS9:Sees w [.slice zA9 z.Groups.length zC9] z.Groups) (zS10:Sees w [.slice zA10 z.On.length zC10] z.On) (zS11:Sees w [.slice zA11 z.Tapes.length zC11] z.Tapes) (hs:z.Shape.ok=true) (hG:aN z=true):Ret Tryz.prog 63 #[.pointer (some ⟨zb,0,none⟩),.int .i64 g] w fun v w'=>Ext No w w'∧(v = .int .i64 (liveF z g)):=by
 have zK2:=zK;unfold Wld.Ok Shape.Ok at zK2
 try unfold I64ok at zK2
 try unfold maxLen at zK2
 have zL9:=sL zS9;obtain ⟨zF9,zO9⟩:=zS9;have zL10:=sL zS10;obtain ⟨zF10,zO10⟩:=zS10;have zL11:=sL zS11;obtain ⟨zF11,zO11⟩:=zS11;have sbd:=aG hs;refine aH func63 Z ntmps63 Z (fun Q hQ hN=>?_);have H0:=Sep.start (bX zB (ab zO9 (ab zO10 (ab zO11 aA))));refine ac (sA Z Z (aa (ac (sR 2 Z (sE func66 li Z (cu (H0.fbox 0 Z) η (H0.sees 1 Z) (H0.sees 2 Z) (H0.sees 3 Z) η) H0 (fun w1 e1 H1=>sA Z Z (aa (ae (ae ?_)))))))));have hgz:=fun h=>(qW (z:=z) (g:=g) h).1
 refine am (sR 3 Z (bR 3 (j:=2) (want:=true) (t:=14) Z Z Z Z (fun hg1 kk1=>ao (wgE Z Z Z hg1) Z Z (aL Z) (ao (wgE Z Z Z hg1) Z Z (aL Z) (cj (wgE Z Z Z hg1) Z Z (aR func80 Z jE Z) (cV (H1.fbox 0 Z) η (H1.sees 1 Z) (H1.sees 2 Z) (H1.sees 3 Z) (by first | assumption | exact hgz (by simp_all)) (by first | assumption | exact hgz (by simp_all)) (by first | assumption | exact hgz (by simp_all))) (fun w3 e3=>kk1 _ _ (kx Z (kx Z (kx Z k0))) Z (Ext.refl.trans e3))))) (fun w2 e2=>?_)));have H2:=H1.to e2;refine sV Z (bz Z Z) (aa (cx Z (fun c1=>?_) (fun c1=>?_)))
 ·refine am (sA Z Z (aa (ac (sR 2 Z (rN hQ results63 Z ?_)))));exact ⟨H2.ext,congrArg (Value.int .i64) (by unfold liveF; (repeat' split)<;>first | rfl | omega | simp_all)⟩
 ·refine au (ac (sR 2 Z (rN hQ results63 Z ?_)));exact ⟨H2.ext,congrArg (Value.int .i64) (by unfold liveF; (repeat' split)<;>first | rfl | omega | simp_all)⟩
theorem nJ {w:World}{zb zC9 zC10 zC11 xsC:Nat}{z:Wld}{zA9 zA10 zA11 xsA:Option Addr}{zF9 zF10 zF11:List Nat}{g row:Int}{xs:List UInt8}(zB:w.heap[zb]? = some (.cells [.int .i64 z.Shape.Groups,.int .i64 z.Shape.Column,.int .i64 z.Shape.Data,.int .i64 z.Shape.Spare,.int .i64 z.Shape.Rows,.int .i64 z.Shape.Cap,.int .i64 z.Shape.Batch,.int .i64 z.Shape.Queue,.int .i64 z.Shape.Stage,.slice zA9 z.Groups.length zC9,.slice zA10 z.On.length zC10,.slice zA11 z.Tapes.length zC11,.int .i64 z.Writes,.int .i64 z.Stop,.bool z.Down].toArray 31)) (zK:z.Ok) (zO9:own false w [.slice zA9 z.Groups.length zC9] z.Groups zF9) (zO10:own false w [.slice zA10 z.On.length zC10] z.On zF10) (zO11:own false w [.slice zA11 z.Tapes.length zC11] z.Tapes zF11) (xsS:Sees w [.slice xsA xs.length xsC] xs) (hs:z.Shape.ok=true) (hG:aN z=true) (hg:ins g 0 (z.Shape.Groups+z.Shape.Column-1)=true) (hr:ins row 0 (z.Shape.Rows-1)=true) (hd:cQ z g=false) (hx:(xs.length:Int)=z.Shape.Data*4):Ret Tryz.prog 127 #[.pointer (some ⟨zb,0,none⟩),.int .i64 g,.int .i64 row,.slice xsA xs.length xsC] w fun v w'=>Ext No w w'∧(Res w w' [v] (eO (jb z g row) xs)):=by
 have zK2:=zK;unfold Wld.Ok Shape.Ok at zK2
 try unfold I64ok at zK2
 try unfold maxLen at zK2
 have zL9:=oL zO9;have zL10:=oL zO10;have zL11:=oL zO11;have xsL:=sL xsS;obtain ⟨xsF,xsO⟩:=xsS;have sbd:=aG hs;have rl:=lg hs hG hg hr hd;refine aH func127 Z ntmps127 Z (fun Q hQ hN=>?_);have H0:=Sep.start (bX zB (ab zO9 (ab zO10 (ab zO11 (ab xsO aA)))));refine ac (sA Z Z (aa (ac (sR 3 Z (sC func81 lk Z (cJ (H0.fbox 0 Z) η (az (H0.seen 1 Z)) (az (H0.seen 2 Z)) (az (H0.seen 3 Z)) η η η η) (fun v1 w1 r1=>?_))))));obtain ⟨e1,r1⟩:=r1;obtain ⟨fp1,H1⟩:=H0.res e1 r1;obtain ⟨a1,k1,q1⟩:=an (H1.mine 0 Z);cases q1;refine sM Z Z (sC func146 ox Z (kP (H1.msees 0 Z) (H1.sees 4 Z) ξ (c:=1)) (fun v2 w2 r2=>?_));obtain ⟨e2,r2⟩:=r2;obtain ⟨fp2,H2⟩:=H1.res e2 r2;obtain ⟨a2,k2,q2⟩:=an (H2.mine 1 Z);cases q2;refine rA hQ results127 Z ?_;have ho:=H2.out 1 Z;rw [mc] at ho ⊢;exact ⟨H2.ext,ho⟩
end Go.Wk
