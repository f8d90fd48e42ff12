/-
  Laws on walking, and the functions walked, each once: what this claim comes to.
-/
import Derived.Test.YtikenamkplgabaaGreatZC2
set_option linter.unusedVariables false
set_option linter.unusedSimpArgs false
namespace Go.Wk
open Rp (sz own)
def nodef (l:List Oper):Bool:=l.all fun o=>match o.op with
  | .defer _=>false
  | _=>true
theorem yq {l:List Oper}(h:nodef l=true) {o:Oper}(ho:o∈l):∀ c,o.op ≠ .defer c:=by
  have:=List.all_eq_true.1 h o ho
  intro c e
  rw [e] at this
  cases this
section
variable {ro:Option Nat}{P:Program}{n m:Nat}{ops:Array Oper}{L:Env}{w:World}
theorem Hx {row:String}{args:Array Value}{R:Value→World→Prop}(h:Rows P row args w R):RowsIn (inF ro) m P row args w R:=
  fun c cs _=>let ⟨v,w',r,s⟩:=h c cs; ⟨v,w',r,stepsIn_wide.2 s⟩
theorem Jq {o:Oper}(hd:∀ c,o.op ≠ .defer c) {a:Act}{K:Act→World→Prop}{QQ:Exit→Act→World→Prop}(h:o.wp P a w K QQ):o.wpIn (inF ro) m P a w K QQ:=by
  refine ⟨fun _ _=>trivial,?_⟩
  rw [Oper.semAt_eq _ _ _ hd]
  unfold Oper.wp at h
  generalize (execOp a.eval o).run P w=r at *
  cases r with
  | ok x w'=>
    cases x with
    | enter f args=>exact ⟨fun h=>(by cases h),callsIn_wide.2 h⟩
    | row r args=>exact ⟨fun h=>(by cases h),Hx h⟩
    | _=>first | exact h | exact h.elim
  | halt x w'=>cases x<;>exact h
theorem Fg {Q:Post}:¬ LetsOut (lift n Q):=fun ⟨_,_,h⟩=>h
theorem wT {Q:Post}:∀ {l:List Oper},nodef l=true→∀ {a:Act}{w:World},wpList P ops (lift n Q) l a w→wpListIn (inF ro) m P ops (lift n Q) l a w
  | [],_,_,_,h=>h
  | o::l,hd,a,w,h=>by
    have hl:nodef l=true:=by unfold nodef at hd ⊢; simp only [List.all_cons,Bool.and_eq_true] at hd; exact hd.2
    unfold wpListIn
    unfold wpList at h
    split
    · next hw=>
      rw [if_pos hw] at h
      rcases h with h | h
      · exact Jq (yq hd σ) (Oper.wp_mono (fun a w=>wT hl) h)
      · exact absurd h.2 Fg
    · next hw=>
      rw [if_neg hw] at h
      exact ⟨fun _ _=>trivial,wT hl h⟩
theorem xx {Q:Post}(hd:nodef ops.toList=true):∀ (k:Nat) (listed:Array Bool) (a:Act) (w:World),wpAny P .any ops (lift n Q) k listed a w→wpAnyIn (inF ro) m P .any ops (lift n Q) k listed a w
  | 0,_,_,_,h=>h
  | k+1,listed,a,w,h=>⟨h.1,fun i hi=>by
    have h2:=h.2 i hi
    unfold wpOp at h2
    unfold wpOpIn
    split
    · next ho=>rw [ho] at h2; exact xx hd k _ _ _ h2
    · next o ho=>
      simp only [ho] at h2
      split
      · next hw=>
        rw [if_pos hw] at h2
        rcases h2 with h2 | h2
        · exact Jq (yq hd (Array.mem_toList_iff.2 (Array.mem_of_getElem? ho))) (Oper.wp_mono (fun a w=>xx hd k _ a w) h2)
        · exact absurd h2.2 Fg
      · next hw=>rw [if_neg hw] at h2; exact ⟨fun _ _=>trivial,xx hd k _ _ _ h2⟩⟩
theorem Db {Q:Post}{e:Exit}{a:Act}(h:lift n Q e a w):ut [] n Q e a w:=by
  cases e<;>first | exact h | (obtain ⟨L,hg,hq⟩:=h; exact ⟨L,⟨by have:=hg; cases a; have:=this.defers; simp only at this; subst this; exact hg,hg.defers⟩,hq⟩)
theorem CI {a:Act}(h:GoodD [] n a L):Good n a L:=by
  obtain ⟨h1,h2⟩:=h
  cases a; simp only at h2; subst h2; exact h1
theorem ou {Q:Post}{id:Nat}{l:List Oper}(hd:nodef l=true) (h:RL P n l.toArray Q l L w):WF ro [] P n (.region id l.toArray false) Q L w:=fun a ha=>
  wpIn_mono (wpIn_region_lit (wT hd (h a (CI ha)))) fun _ _ _ h=>Db h
theorem HO {Q:Post}{S:World→Prop}{id:Nat}(l:List (Nat × Bool)) (hd:nodef ops.toList=true) (hm:P.follows .mixedOrders=true) (hc:qI ops ops.size l (Array.replicate ops.size false)=true) (hs:Region.noSelect ops=true)
    (hS:∀ k,S { w with drawn:=k }) (h:∀ k,DL P n ops Q S l L { w with drawn:=k }):WF ro [] P n (.region id ops true) Q L w:=fun a ha=>
  wpIn_mono (wpIn_region_any hm (xx hd _ _ _ _ (xd _ _ _ _ ((h _ hs a (CI ha) (fun _=>hS _) ops.size _ ops.size (Nat.le_refl _)).1 hc)))) fun _ _ _ h=>Db h
theorem GoodD.eval {ds:List Deferred}{a:Act}{x:Operand}{v:Value}(h:GoodD ds n a L) (hx:evL L x=some v):a.eval x=v:=by
  have:=h.1.eval hx
  exact this
theorem Km {ds:List Deferred}{Q:Post}{c:Operand}{x y:Code}{b:Bool}(hc:evL L c=some (.bool b)) (h1:b=true→WF ro ds P n x Q L w) (h2:b=false→WF ro ds P n y Q L w) :
    WF ro ds P n (.cond c x y) Q L w:=fun a ha=>wpIn_cond_split (ha.eval hc) (fun h=>h1 h a ha) (fun h=>h2 h a ha)
theorem ID {ds:List Deferred}{Q:Post}{M:Env}{c:Code}(hs:sub L M) (h:WF ro ds P n c Q M w):WF ro ds P n c Q L w:=fun a ha=>h a (ha.weak hs)
theorem G2 {ds:List Deferred}{Q:Post}{rest:List Oper}{d:Tmp}{x y1 y2:Operand}{ats:Array TypeId}{ty:TypeId}{p:String}{af:Array Edge}{l:Nat}{u1 u2:Value}{R:Ending→World→Prop}
    (hx:evL L x=some (.func (.yield l) #[] #[])) (hy1:evL L y1=some u1) (hy2:evL L y2=some u2) (hn:Nat.blt d n=true)
    (hc:YieldAt (inF none) 2 P l #[u1,u2] w R) (k:∀ e w',R e w'→∃ v,e = .returned v∧RF none ds P n ops Q rest ((d,v)::L) w') :
    RF none ds P n ops Q (⟨some d,.call ⟨.value x,#[y1,y2],ats⟩,ty,p,af,none⟩::rest) L w:=by
  obtain ⟨fn,tmps,assign,body,hr,hR⟩:=hc
  refine Hs ah (by intro c h; cases h) (r := .ok (.round l fn tmps assign body) w) (fun a ha=>?_) fun a ha K hK=>?_
  · simp [execOp,resolve,invoke,Deferred.ofValue,ha.eval hx,ha.eval hy1,ha.eval hy2,hr]
  · rw [Oper.uponIn_round]
    refine ⟨fun h=>(by cases h),hR.mono fun e w' he=>?_⟩
    obtain ⟨v,rfl,hk⟩:=k e w' he
    exact hK _ _ (hk _ (ha.put hn))
end
theorem Bq {P:Program}{fn:Func}{R:Value→World→Prop}{L:Env}{w:World}{t u y:Nat}{uy:TypeId}{x:Addr}{v v2 v3:Value}(hr:fn.results = #[.tmp t,.cell u uy,.tmp y]) (hv:look L t=some v)
    (hl2:(loadVar uy x).run P w = .ok v2 w) (hu:look L u=some (.pointer (some x))) (hy:look L y=some v3) (h:R (.tuple #[v,v2,v3]) w):fin P fn R .ret L w:=fun _ a hg=>
  ⟨_,by have h1:=hg.cov t _ hv; have h2:=hg.cov u _ hu; have h3:=hg.cov y _ hy; simp only [Array.getD_eq_getD_getElem?] at h1 h2 h3; simp [results,hr,h1,h2,h3,asAddr,hl2],h⟩
theorem J3 {ro:Option Nat}{ds:List Deferred}{P:Program}{n:Nat}{ops:Array Oper}{Q:Post}{L:Env}{w w0:World}{M:Nat→Prop}{Δ F:List Rsc}{rest:List Oper}{ty:TypeId}{p:String}{af:Array Edge}{g:Option (Nat × Bool)}{t:TypeId}{x y:Operand}{b off sz:Nat}{cs:List Value}{T} {vs:List Value}(hw:Wn ops n L ⟨none,.store t x y,ty,p,af,g⟩) (hs:∀ w,(sizeOf t).run P w = .ok sz w) (hx:evL L x=some (.pointer (some ⟨b,off,none⟩))) (hy:evL L y=some (.agg vs.toArray))
    (hl:vs.length=sz) (h1:qD vs=true) (H:Sep M w0 Δ F w) (i:Nat) (hi:Δ[i]? = some (box b (.cells cs.toArray T))) (ho:Nat.ble (off+sz) cs.length=true)
    (k:∀ w',Ext (· = b) w w'→Sep M w0 (Δ.set i (box b (.cells (aI cs off vs).toArray T))) F w'→RF ro ds P n ops Q rest L w') :
    RF ro ds P n ops Q (⟨none,.store t x y,ty,p,af,g⟩::rest) L w:=by
  have ho':=Nat.le_of_ble_eq_true ho
  have h:=k _ (Ext.refl.put (.inl rfl)) (H.put i _ hi)
  rw [← pS (by rw [hl]; exact ho')] at h
  exact KC hw rfl (lM hs hx hy hl (jv h1) (H.box i hi) (by simpa using ho')) h
theorem Jv {P:Program}{fn:Func}{R:Value→World→Prop}{L:Env}{w:World}{t u:Nat}{ty uy:TypeId}{x y:Addr}{v v2:Value}(hr:fn.results = #[.cell t ty,.cell u uy]) (hv:look L t=some (.pointer (some x))) (hl:(loadVar ty x).run P w = .ok v w)
    (hu:look L u=some (.pointer (some y))) (hl2:(loadVar uy y).run P w = .ok v2 w) (h:R (.tuple #[v,v2]) w):fin P fn R .ret L w:=fun _ a hg=>
  ⟨_,by have h1:=hg.cov t _ hv; have h2:=hg.cov u _ hu; simp only [Array.getD_eq_getD_getElem?] at h1 h2; simp [results,hr,h1,h2,asAddr,hl,hl2],h⟩
section
variable {P:Program}{n:Nat}{L:Env}{W:World}{R:LoopState→Option Code→Loop}{fn:FuncId}{tmps:Array Value}{assign body:Code}{t1 t2:Tmp}{l:Nat}{u1 u2:Value}
theorem Ej (hR:Recs R fn tmps #[t1,t2] assign body) (hg:Good n { tmps:=tmps,defers:=[] } L) (ht1:Nat.blt t1 n=true) (ht2:Nat.blt t2 n=true) (hl:W.heap[l]? = some (.loop (R .ready none))) {A:Env→World→Prop}{B C:World→Prop}
    (ha:WF (some l) [] P n assign (fun e L' W'=>e = .normal∧W'.heap[l]? = some (.loop (R .ready none))∧A L' W') ((t2,u2)::(t1,u1)::L) W)
    (hb:∀ L' W',A L' W'→WF (some l) [] P n body (fun e L' W'=>W'.heap[l]? = some (.loop (R .busy none))∧(e = .normal∧B W'∨e = .ret∧C W')) L' (put W' l (.loop (R .busy none)))) :
    YieldAt (inF none) 2 P l #[u1,u2] W fun e W'=>∃ W2,W2.heap[l]? = some (.loop (R .busy none))∧(e = .returned (.bool true)∧B W2∧W'=put W2 l (.loop (R .ready none))∨e = .returned (.bool false)∧C W2∧W'=put W2 l (.loop (R .done (some .ret)))):=by
  have hy:=run_yield (P:=P) (args := #[u1,u2]) hl (by rw [hR.ps]; rfl)
  rw [hR.fn,hR.tmps,hR.ps,hR.asg,hR.bo] at hy
  refine ⟨fn,_,assign,body,hy,?_⟩
  have hg2:GoodD [] n { tmps:=((#[t1,t2].zip #[u1,u2]).foldl (fun tmps (t,a)=>tmps.setIfInBounds t a) tmps),defers:=[] } ((t2,u2)::(t1,u1)::L):=by
    refine ⟨?_,rfl⟩
    have:=(hg.put ht1 (v:=u1)).put ht2 (v:=u2)
    simpa [Act.put] using this
  refine roundIn_of_wpIn (F:=inF none) trivial ?_
  have key:assign.wpIn (inF (some l)) 3 P (ut [] n (fun e L' W'=>e = .normal∧W'.heap[l]? = some (.loop (R .ready none))∧A L' W')) { tmps:=((#[t1,t2].zip #[u1,u2]).foldl (fun tmps (t,a)=>tmps.setIfInBounds t a) tmps),defers:=[] } W:=ha _ hg2
  have dn:∀ {c:Code}{QQ:Exit→Act→World→Prop}{a:Act}{w:World},c.wpIn (inF (some l)) 3 P QQ a w→c.wpIn ((inF none).inRound l) 2 P QQ a w:=fun h b k cs h1 h2 h3=>h b k cs h1 h2 (fun d hd=>by cases hd)
  refine dn (wpIn_mono key fun e a w hh=>?_)
  cases e with
  | normal=>
    obtain ⟨L',hg',_,hl1,hA⟩:=hh
    refine ⟨put w l (.loop (R .busy none)),?_,dn (wpIn_mono (hb _ _ hA _ hg') fun e a w2 hh=>?_)⟩
    · have:=run_beginRound (P:=P) hl1 (hR.st _ _)
      rw [this]
      have e1:=hR.up .ready none .busy none
      have e2:({ R .ready none with state := .busy }:Loop)=R .busy none:=by
        rw [← e1]
        have:=hR.pe .ready none
        cases h:R .ready none; rw [h] at this; simp only at this; subst this; rfl
      rw [e2]; rfl
    · cases e with
      | normal=>
        obtain ⟨L3,_,hl2,hB⟩:=hh
        rcases hB with ⟨_,hB⟩ | ⟨hf,_⟩
        · refine ⟨_,_,run_endRound (P:=P) none hl2,w2,hl2,.inl ⟨rfl,hB,?_⟩⟩
          show put w2 l _=_
          congr 2
          exact hR.up .busy none .ready none
        · cases hf
      | ret=>
        obtain ⟨L3,_,hl2,hB⟩:=hh
        rcases hB with ⟨hf,_⟩ | ⟨_,hC⟩
        · cases hf
        · refine ⟨_,_,run_endRound (P:=P) (some .ret) hl2,w2,hl2,.inr ⟨rfl,hC,?_⟩⟩
          show put w2 l _=_
          congr 2
          exact hR.up .busy none .done (some .ret)
      | panic _=>exact hh
      | outgrown=>exact hh
      | exit _=>obtain ⟨_,_,_,h | h⟩:=hh<;>cases h.1
      | goto _=>obtain ⟨_,_,_,h | h⟩:=hh<;>cases h.1
  | panic _=>exact hh
  | outgrown=>exact hh
  | ret=>obtain ⟨_,_,h,_⟩:=hh; cases h
  | exit _=>obtain ⟨_,_,h,_⟩:=hh; cases h
  | goto _=>obtain ⟨_,_,h,_⟩:=hh; cases h
end
section
variable {P:Program}{n:Nat}{L:Env}{w:World}{Q:Exit→Act→World→Prop}
theorem Eg {g:Operand}{ps:Array Tmp}{assign body:Code}{gf:FuncId}{gfn:Func}{lb:Array Value}{a:Act}{K K2:World→Prop}(ha:GoodD [] n a L) (hg:evL L g=some (.func (.func gf) #[] lb))
    (hf:P.funcs[gf]? = some gfn) (hb:gfn.body.isNone=false) (hnm:(gfn.name == "runtime.NumGoroutine")=false)
    (hc:∀ (R:LoopState→Option Code→Loop) (fn:FuncId),Recs R fn a.tmps ps assign body →
      Ret P gf (#[.func (.yield (w.heap.size+1)) #[] #[]]++lb) ((w.alloc (.deferred (some []))).alloc (.loop (R .ready none))) fun _ w2=>
        (w2.heap[w.heap.size+1]? = some (.loop (R .ready none))∧K (put w2 (w.heap.size+1) (.loop (R .exhausted none)))) ∨
        (w2.heap[w.heap.size+1]? = some (.loop (R .done (some .ret)))∧K2 (put w2 (w.heap.size+1) (.loop (R .exhausted (some .ret))))))
    (hQ:∀ w3,K w3→Q .normal { a with defers:=[{ target := .collected w.heap.size,args := #[] }] } w3) (hQ2:∀ w3,K2 w3→Q .ret { a with defers:=[{ target := .collected w.heap.size,args := #[] }] } w3) :
    (Code.rangeFunc g ps assign body).wpIn (inF none) 3 P Q a w:=by
  refine wpIn_rangeFunc ?_
  intro fn _
  let R:LoopState→Option Code→Loop:=fun st pe=>{ state:=st,pending:=pe,fn,tmps:=a.tmps,params:=ps,assign,body,defers:=w.heap.size }
  have hR:Recs R fn a.tmps ps assign body:=⟨fun _ _=>rfl,fun _ _=>rfl,fun _ _ _ _=>rfl,fun _ _=>rfl,fun _ _=>rfl,fun _ _=>rfl,fun _ _=>rfl,fun _ _=>rfl⟩
  refine ⟨w.heap.size+1,[{ target := .collected w.heap.size,args := #[] }],(w.alloc (.deferred (some []))).alloc (.loop (R .ready none)),{ target := .fn (.func gf) lb,args := #[.func (.yield (w.heap.size+1)) #[] #[]] },
    (w.alloc (.deferred (some []))).alloc (.loop (R .ready none)),gf,#[.func (.yield (w.heap.size+1)) #[] #[]]++lb,(w.alloc (.deferred (some []))).alloc (.loop (R .ready none)),run_enterLoop_outer _ _ _ _ _,?_,fun _ _=>trivial,?_,fun h=>(by cases h),?_⟩
  · have:a.eval g = .func (.func gf) #[] lb:=ha.1.eval hg
    simp [resolve,this,Deferred.ofValue]
    rfl
  · have hb':¬ gfn.body=none:=fun e=>by rw [e] at hb; simp at hb
    have hnm':¬ gfn.name = "runtime.NumGoroutine" := fun e=>by rw [e] at hnm; simp at hnm
    simp [invoke,callFunc,hf,hb',hnm']
  · refine callsIn_wide.2 (Calls.mono (hc R fn hR) fun e w2 ⟨v,he,hK⟩=>?_)
    subst he
    rcases hK with ⟨hl,hK⟩ | ⟨hl,hK⟩
    · refine ⟨none,_,by have:=run_endLoop (P:=P) hl (by rw [hR.st]; simp); exact this,?_⟩
      rw [ha.2]
      exact hQ _ hK
    · refine ⟨some .ret,_,by have:=run_endLoop (P:=P) hl (by rw [hR.st]; simp); exact this,?_⟩
      rw [ha.2]
      exact wpIn_ret (hQ2 _ hK)
end
end Go.Wk
namespace Go.Wk
open Rp (sz own)
section
variable {z:Wld}{r:Rec}{g row:Int}
theorem FA {r:Rec}:∀ {rs out:List Rec},r∈rs.foldl ddR out→r∈out∨r∈rs
  | [],_,h => .inl h
  | x::rs,out,h=>by
    rcases FA (rs:=rs) h with h | h
    · unfold ddR at h
      split at h
      · exact .inl h
      · rcases List.mem_append.1 h with h | h
        · exact .inl h
        · exact .inr (by rw [List.mem_singleton] at h; simp [h])
    · exact .inr (List.mem_cons_of_mem _ h)
theorem AE:Stable kLt jY (dds (allR z z.Tapes.length)) (fB z):=(n0 _).choose_spec
theorem C4 (h:r∈fB z):∃ k j,k<z.Tapes.length∧j<(z.Tapes.getD k default).Recs.length∧(z.Tapes.getD k default).Recs.getD j default=r:=by
  have h1:r∈dds (allR z z.Tapes.length):=AE.2.mem h
  rcases FA h1 with h2 | h2
  · cases h2
  · unfold allR at h2
    rw [List.take_length] at h2
    obtain ⟨l,hl,hr⟩:=List.mem_flatten.1 h2
    obtain ⟨t,ht,rfl⟩:=List.mem_map.1 hl
    obtain ⟨k,hk,e⟩:=List.getElem_of_mem ht
    obtain ⟨j,hj,e2⟩:=List.getElem_of_mem hr
    have e3:z.Tapes.getD k default=t:=by rw [bh hk]; exact e
    exact ⟨k,j,hk,by rw [e3]; exact hj,by rw [e3,bh hj]; exact e2⟩
theorem Kb (h:r∈fB z):fX r≤ez z:=by
  obtain ⟨k,j,hk,hj,e⟩:=C4 h
  have h1:=(mc (f:=nr) (Nat.le_refl _) k hk).1
  have h2:=(mc (f:=fX) (Nat.le_refl _) j hj).1
  rw [e] at h2
  have h3:nr (z.Tapes.getD k default)=szL fX (z.Tapes.getD k default).Recs:=rfl
  unfold ez
  omega
theorem CU (h:0≤fH z g row):opR z g row∈fB z:=by
  have hb:=Hc (p:=shP g row) (rs:=fB z)
  unfold opR
  rw [if_pos h,bh (by unfold fH at *; omega)]
  exact List.getElem_mem _
theorem Fe:fX (opR z g row)≤ez z:=by
  by_cases h:0≤fH z g row
  · exact Kb (CU h)
  · unfold opR; rw [if_neg h]; exact Nat.zero_le _
theorem EO:0≤ep z g row∧ep z g row≤6:=by
  unfold ep
  repeat' split
  all_goals omega
noncomputable def nn (z:Wld) (g row:Int):List UInt8:=if ep z g row=0 then (opR z g row).Data else []
noncomputable def tj (z:Wld) (g row:Int):Rec:=if ep z g row=0 then opR z g row else default
theorem zL (h:ep z g row=0):nn z g row=(opR z g row).Data:=if_pos h
theorem nQ (h:ep z g row≠0):nn z g row=[]:=if_neg h
theorem zM (h:ep z g row=0):tj z g row=opR z g row:=if_pos h
theorem of (h:ep z g row≠0):tj z g row=default:=if_neg h
theorem Fl (h:jW z g row=0):iX z g row=⟨ep z g row,nn z g row⟩:=by
  unfold nn iX ep
  rw [if_pos h]
  repeat' split
  all_goals first | rfl | (exfalso; omega)
end
end Go.Wk
namespace Go.Wk
open Rp (sz own)
section
variable {z:Wld}{r:Rec}{g row:Int}{k j:Nat}
theorem CM (h:gP z g row=true):0≤fH z g row:=by
  unfold gP at h; simp only [Bool.and_eq_true,decide_eq_true_eq] at h; exact h.1
theorem mh (h:gP z g row=true):(opR z g row).Kind=4∧(opR z g row).Group=g∧(opR z g row).Row=row:=by
  have h1:=CM h
  unfold opR; rw [if_pos h1]
  exact yb (tD h1)
theorem uh {s:Shape}(h:recF s r=0) (hk:r.Kind=4):dX s r=true:=by
  have hi:ins r.Kind 1 4=true:=by rw [hk]; rfl
  unfold recF at h
  rw [if_pos hi] at h
  split at h
  · split at h
    · next c=>exact absurd h c
    · next c=>
      have c2:eG s r=0:=by omega
      rw [kO hk] at c2
      split at c2
      · next e=>exact e
      · cases c2
  · cases h
end
end Go.Wk
namespace Go.Wk
section
variable {M:Nat→Prop}{w0 w:World}{Δ F:List Rsc}
theorem Sep.shareB (h:Sep M w0 Δ F w) (i:Nat) {b:Nat}{o:Obj}(hi:Δ[i]? = some (Wk.box b o)):Sep M w0 (Δ.set i gone) (F++[Wk.box b o]) w:=by
  have hnm:=fQ hi h.nd
  have h':Sep M w0 (Δ.set i gone) F w:=by
    refine ⟨h.ext,fun p hp=>?_,ic hi h.nd (by simp [gone]) (by simp [gone]),fun b hb=>?_,h.fs,fun p hp b hb hx=>?_⟩
    · rcases gp hi h.nd p hp with rfl | ⟨hp,_⟩
      · trivial
      · exact h.rs p hp
    · rcases dw hi b hb with hb | hb
      · simp [gone] at hb
      · exact h.new b hb
    · rcases dw hi b hx with hx | hx
      · simp [gone] at hx
      · exact h.ap p hp b hb hx
  exact h'.look (r:=Wk.box b o) (h.box i hi) hnm
end
end Go.Wk
namespace Go.Wk
open Rp (sz own)
section
variable {α:Type}[Inhabited α] {f:α→Nat}{xs:List α}{y:α}{i:Nat}
theorem G4 (h:i<xs.length):mkL f (xs.set i y)+f (xs.getD i default)=mkL f xs+f y:=by
  unfold mkL
  rw [List.length_set]
  have e1:iy (fun j=>f ((xs.set i y).getD j default)+(if j=i then f (xs.getD i default) else 0)) xs.length=iy (fun j=>f (xs.getD j default)+(if j=i then f y else 0)) xs.length:=
    oU fun j hj=>by
      rw [cm]
      by_cases e:j=i
      · subst e; rw [if_pos ⟨rfl,h⟩,if_pos rfl,if_pos rfl]; omega
      · rw [if_neg (fun q=>e q.1),if_neg e,if_neg e]
  rw [qV,qV,tH,tH,if_pos h,if_pos h] at e1
  exact e1
end
def oz (z:Wld) (r:Rec):Int:=if eL z=true then 2 else if lk z r=true then 0 else 9
def layZ (z:Wld) (r:Rec):Wld:=if eL z=true then z else lN z r
section
variable {z:Wld}{r:Rec}{rs:List Rec}{t:Nat}
theorem HG:oz z r=0∨oz z r=2∨oz z r=9:=by
  unfold oz; split
  · exact .inr (.inl rfl)
  · split
    · exact .inl rfl
    · exact .inr (.inr rfl)
theorem u7 (h:eL z=true):oz z r=2∧layZ z r=z:=⟨if_pos h,if_pos h⟩
theorem mT (h:eL z=false):oz z r=(if lk z r=true then 0 else 9)∧layZ z r=lN z r:=⟨if_neg (by simp [h]),if_neg (by simp [h])⟩
theorem u9 (h:oz z r=0):eL z=false∧lk z r=true:=by
  unfold oz at h
  split at h
  · cases h
  · next c=>
    split at h
    · next d=>exact ⟨by simpa using c,d⟩
    · cases h
theorem CE (h:t<z.Tapes.length):kM (eY t r z)≤kM z+oJ r:=by
  unfold eY mn; split
  · have:=Gy (z:=z); omega
  · have h1:=G4 (f:=t0) (xs:=z.Tapes) (i:=t) (y:=⟨false,(z.Tapes.getD t default).Recs++[r]⟩) h
    have h3:t0 ⟨false,(z.Tapes.getD t default).Recs++[r]⟩=t0 (z.Tapes.getD t default)+oJ r:=by
      unfold t0; dsimp only; rw [FL]; omega
    unfold kM kJ layT; dsimp only; omega
theorem IJ (h:z.Tapes.length=2):kM (lN z r)≤kM z+2*oJ r:=by
  unfold lN; split
  · have:=Gy (z:=z); omega
  · have h1:=CE (t:=0) (r:=r) (z:=z) ω
    have h2:=CE (t:=1) (r:=r) (z:=eY 0 r z) (by rw [iY]; omega)
    omega
theorem zZ:(lN z r).Tapes.length=z.Tapes.length:=by
  unfold lN; split
  · rfl
  · rw [iY,iY]
theorem x6:z.Writes≤(lN z r).Writes∧(lN z r).Writes≤z.Writes+2:=by
  unfold lN; split
  · show z.Writes≤z.Writes∧z.Writes≤z.Writes+2; omega
  · have h1:=kP (t:=0) (r:=r) (z:=z)
    have h2:=kP (t:=1) (r:=r) (z:=eY 0 r z)
    omega
theorem EI (h:lk z r=true):(lN z r).Down=z.Down:=by
  unfold lk at h
  simp only [Bool.and_eq_true,Bool.not_eq_true'] at h
  rw [(qj h.1).1,vM h.2,vM h.1]
theorem He (h:z.Ok) (h2:z.Writes≤1500000000):(lN z r).Ok:=by
  unfold lN; split
  · exact wA h
  · have:=kP (t:=0) (r:=r) (z:=z)
    exact Dh (Dh h ω) ω
theorem zT (hT:z.Tapes.length=2):(layZ z r).Tapes.length=2∧(layZ z r).Writes≤z.Writes+2∧z.Writes≤(layZ z r).Writes∧kM (layZ z r)≤kM z+2*oJ r:=by
  unfold layZ; split
  · exact ⟨hT,ω,ω,ω⟩
  · have h1:=x6 (z:=z) (r:=r)
    exact ⟨by rw [zZ,hT],ω,ω,IJ hT⟩
theorem I8 (h:z.Ok) (h2:z.Writes≤1500000000):(layZ z r).Ok:=by
  unfold layZ; split
  · exact h
  · exact He h h2
end
end Go.Wk

namespace Go.Wk
open Rp (sz own)
def DH (xs:List Rec):Int:=(xs.getD (xs.length-1) default).Seq
section
variable {α K:Type}{lt:K→K→Prop}{key:α→K}
theorem Ord.at [Inhabited α] {xs:List α}(h:Ord lt key xs):∀ {i j:Nat},i<j→j<xs.length→¬ lt (key (xs.getD j default)) (key (xs.getD i default)):=by
  induction h with
  | nil=>intro i j _ h; simp at h
  | cons h1 h2 ih=>
    intro i j hij hj
    obtain ⟨j,rfl⟩:∃ k,j=k+1:=⟨j-1,ω⟩
    rw [List.length_cons] at hj
    rcases Nat.eq_zero_or_pos i with e | e
    · subst e
      rw [List.getD_cons_succ,List.getD_cons_zero,bh ω]
      exact h1 _ (List.getElem_mem _)
    · obtain ⟨i,rfl⟩:∃ k,i=k+1:=⟨i-1,ω⟩
      rw [List.getD_cons_succ,List.getD_cons_succ]
      exact ih ω ω
end
end Go.Wk
namespace Go.Wk
def ivT:List (UInt8 × UInt8):=[(1,1),(23,102),(27,128),(29,131),(84,129),(128,27),(129,84),(130,161),(131,29),(143,245),(161,130),(225,63),(239,106)]
set_option maxRecDepth 100000 in
theorem Kd:(ivT.all fun e=>decide (qg e.1=e.2))=true:=by decide +kernel
def ivL (p:UInt8):UInt8:=match ivT.find? (fun e=>decide (e.1=p)) with
  | some e=>e.2
  | none=>qg p
theorem GI:ivL=qg:=by
  funext p
  unfold ivL
  split
  · rename_i e he
    have h1:=List.find?_some he
    have h2:=List.mem_of_find?_eq_some he
    have h3:=List.all_eq_true.1 Kd e h2
    simp only [decide_eq_true_eq] at h1 h3
    rw [← h1,h3]
  · rfl
def KK (iv:UInt8→UInt8) (m:Mat) (c r a:Nat):Mat:=(m.set a (m.getD r [])).set r (bD (m.getD a []) (iv (entry m a c)))
def Jr (iv:UInt8→UInt8) (m:Mat) (c r:Nat):Mat × Nat:=if m.length≤ni m c r then (m,r) else (cT (KK iv m c r (ni m c r)) c r m.length,r+1)
def ye (iv:UInt8→UInt8) (m:Mat):Nat→Mat × Nat
  | 0=>(m,0)
  | c+1=>Jr iv (ye iv m c).1 c (ye iv m c).2
theorem xk (m:Mat):∀ n,ye qg m n=redM m n
  | 0=>rfl
  | n+1=>by rw [ye,redM,xk m n]; rfl
def tI (iv:UInt8→UInt8):Nat→Mat × Nat→List (Mat × Nat)→Bool
  | _,_,[]=>true
  | c,m,x::t=>decide (Jr iv m.1 c m.2=x) && tI iv (c+1) x t
theorem ue {iv:UInt8→UInt8}{A:Mat}:∀ {l:List (Mat × Nat)}{c:Nat}{m:Mat × Nat},ye iv A c=m→tI iv c m l=true→ye iv A (c+l.length)=l.getLastD m
  | [],_,_,h,_=>h
  | x::t,c,m,h,hc=>by
    unfold tI at hc
    simp only [Bool.and_eq_true,decide_eq_true_eq] at hc
    have h2:ye iv A (c+1)=x:=by rw [ye,h]; exact hc.1
    have:=ue (l:=t) (c:=c+1) h2 hc.2
    rw [show c+(x::t).length=c+1+t.length by simp; omega,this]
    cases t<;>rfl
def J4 (iv:UInt8→UInt8) (n:Nat) (p:Int) (i:Nat):UInt8:=if (n:Int)≤p then iv (xj (128+(0+p-n)) ^^^ xj i) else if (i:Int)=p then 1 else 0
def Kn (iv:UInt8→UInt8) (n:Nat) (p:Int):List UInt8:=(List.range n).map (J4 iv n p)
structure Way where
  n:Nat
  hs:List Int
  x:Int
  g:List UInt8
  m:Mat
  steps:List (Mat × Nat)
  w:List UInt8
def Way.ok (iv:UInt8→UInt8) (e:Way):Bool:=
  decide (Kn iv e.n e.x=e.g) && decide (trF (fun t=>Kn iv e.n (e.hs.getD t 0)) e.n e.n 0=e.m) && tI iv 0 (aug e.m e.g,0) e.steps && decide (e.steps.length=e.n) && decide (e.m.length=e.n) &&
    decide (e.n≤(e.steps.getLastD (aug e.m e.g,0)).2) && decide (oH (e.steps.getLastD (aug e.m e.g,0)).1 e.n e.n=e.w)
theorem Way.fact {e:Way}(h:e.ok ivL=true):betw e.n e.hs e.x 0=e.w:=by
  rw [GI] at h
  unfold Way.ok at h
  simp only [Bool.and_eq_true,decide_eq_true_eq] at h
  obtain ⟨⟨⟨⟨⟨⟨h1,h2⟩,h3⟩,h4⟩,h5⟩,h6⟩,h7⟩:=h
  have hc:=ue (A:=aug e.m e.g) (c:=0) rfl h3
  rw [Nat.zero_add,h4,xk] at hc
  have e1:oP e.n e.hs 0=e.m:=h2
  have e2:ew e.n e.x 0=e.g:=h1
  rw [betw,e1,e2]
  have h8:¬ (redM (aug e.m e.g) e.m.length).2<e.m.length:=by
    rw [h5,hc]; exact Nat.not_lt.2 h6
  rw [(wW h8).2,h5,hc]
  exact h7
def ways:List Way:=[
  ⟨1,[0],0,[1],[[1]],[([[1,1]],1)],[1]⟩,
  ⟨1,[0],1,[27],[[1]],[([[1,27]],1)],[27]⟩,
  ⟨1,[0],2,[84],[[1]],[([[1,84]],1)],[84]⟩,
  ⟨1,[1],0,[1],[[27]],[([[1,128]],1)],[128]⟩,
  ⟨1,[1],1,[27],[[27]],[([[1,1]],1)],[1]⟩,
  ⟨1,[1],2,[84],[[27]],[([[1,85]],1)],[85]⟩,
  ⟨1,[2],0,[1],[[84]],[([[1,129]],1)],[129]⟩,
  ⟨1,[2],1,[27],[[84]],[([[1,26]],1)],[26]⟩,
  ⟨1,[2],2,[84],[[84]],[([[1,1]],1)],[1]⟩,
  ⟨2,[0,1],0,[1,0],[[1,0],[0,1]],[([[1,0,1],[0,1,0]],1),([[1,0,1],[0,1,0]],2)],[1,0]⟩,
  ⟨2,[0,1],1,[0,1],[[1,0],[0,1]],[([[1,0,0],[0,1,1]],1),([[1,0,0],[0,1,1]],2)],[0,1]⟩,
  ⟨2,[0,1],2,[27,84],[[1,0],[0,1]],[([[1,0,27],[0,1,84]],1),([[1,0,27],[0,1,84]],2)],[27,84]⟩,
  ⟨2,[0,1],3,[84,27],[[1,0],[0,1]],[([[1,0,84],[0,1,27]],1),([[1,0,84],[0,1,27]],2)],[84,27]⟩,
  ⟨2,[0,2],0,[1,0],[[1,27],[0,84]],[([[1,27,1],[0,84,0]],1),([[1,0,1],[0,1,0]],2)],[1,0]⟩,
  ⟨2,[0,2],1,[0,1],[[1,27],[0,84]],[([[1,27,0],[0,84,1]],1),([[1,0,26],[0,1,129]],2)],[26,129]⟩,
  ⟨2,[0,2],2,[27,84],[[1,27],[0,84]],[([[1,27,27],[0,84,84]],1),([[1,0,0],[0,1,1]],2)],[0,1]⟩,
  ⟨2,[0,2],3,[84,27],[[1,27],[0,84]],[([[1,27,84],[0,84,27]],1),([[1,0,23],[0,1,26]],2)],[23,26]⟩,
  ⟨2,[0,3],0,[1,0],[[1,84],[0,27]],[([[1,84,1],[0,27,0]],1),([[1,0,1],[0,1,0]],2)],[1,0]⟩,
  ⟨2,[0,3],1,[0,1],[[1,84],[0,27]],[([[1,84,0],[0,27,1]],1),([[1,0,85],[0,1,128]],2)],[85,128]⟩,
  ⟨2,[0,3],2,[27,84],[[1,84],[0,27]],[([[1,84,27],[0,27,84]],1),([[1,0,143],[0,1,85]],2)],[143,85]⟩,
  ⟨2,[0,3],3,[84,27],[[1,84],[0,27]],[([[1,84,84],[0,27,27]],1),([[1,0,0],[0,1,1]],2)],[0,1]⟩,
  ⟨2,[1,2],0,[1,0],[[0,27],[1,84]],[([[1,84,0],[0,27,1]],1),([[1,0,85],[0,1,128]],2)],[85,128]⟩,
  ⟨2,[1,2],1,[0,1],[[0,27],[1,84]],[([[1,84,1],[0,27,0]],1),([[1,0,1],[0,1,0]],2)],[1,0]⟩,
  ⟨2,[1,2],2,[27,84],[[0,27],[1,84]],[([[1,84,84],[0,27,27]],1),([[1,0,0],[0,1,1]],2)],[0,1]⟩,
  ⟨2,[1,2],3,[84,27],[[0,27],[1,84]],[([[1,84,27],[0,27,84]],1),([[1,0,143],[0,1,85]],2)],[143,85]⟩,
  ⟨2,[1,3],0,[1,0],[[0,84],[1,27]],[([[1,27,0],[0,84,1]],1),([[1,0,26],[0,1,129]],2)],[26,129]⟩,
  ⟨2,[1,3],1,[0,1],[[0,84],[1,27]],[([[1,27,1],[0,84,0]],1),([[1,0,1],[0,1,0]],2)],[1,0]⟩,
  ⟨2,[1,3],2,[27,84],[[0,84],[1,27]],[([[1,27,84],[0,84,27]],1),([[1,0,23],[0,1,26]],2)],[23,26]⟩,
  ⟨2,[1,3],3,[84,27],[[0,84],[1,27]],[([[1,27,27],[0,84,84]],1),([[1,0,0],[0,1,1]],2)],[0,1]⟩,
  ⟨2,[2,3],0,[1,0],[[27,84],[84,27]],[([[1,85,128],[0,143,85]],1),([[1,0,245],[0,1,102]],2)],[245,102]⟩,
  ⟨2,[2,3],1,[0,1],[[27,84],[84,27]],[([[1,85,0],[0,143,1]],1),([[1,0,102],[0,1,245]],2)],[102,245]⟩,
  ⟨2,[2,3],2,[27,84],[[27,84],[84,27]],[([[1,85,1],[0,143,0]],1),([[1,0,1],[0,1,0]],2)],[1,0]⟩,
  ⟨2,[2,3],3,[84,27],[[27,84],[84,27]],[([[1,85,85],[0,143,143]],1),([[1,0,0],[0,1,1]],2)],[0,1]⟩,
  ⟨3,[0,1,2],0,[1,0,0],[[1,0,0],[0,1,0],[0,0,1]],[([[1,0,0,1],[0,1,0,0],[0,0,1,0]],1),([[1,0,0,1],[0,1,0,0],[0,0,1,0]],2),([[1,0,0,1],[0,1,0,0],[0,0,1,0]],3)],[1,0,0]⟩,
  ⟨3,[0,1,2],1,[0,1,0],[[1,0,0],[0,1,0],[0,0,1]],[([[1,0,0,0],[0,1,0,1],[0,0,1,0]],1),([[1,0,0,0],[0,1,0,1],[0,0,1,0]],2),([[1,0,0,0],[0,1,0,1],[0,0,1,0]],3)],[0,1,0]⟩,
  ⟨3,[0,1,2],2,[0,0,1],[[1,0,0],[0,1,0],[0,0,1]],[([[1,0,0,0],[0,1,0,0],[0,0,1,1]],1),([[1,0,0,0],[0,1,0,0],[0,0,1,1]],2),([[1,0,0,0],[0,1,0,0],[0,0,1,1]],3)],[0,0,1]⟩,
  ⟨3,[0,1,2],3,[27,84,161],[[1,0,0],[0,1,0],[0,0,1]],[([[1,0,0,27],[0,1,0,84],[0,0,1,161]],1),([[1,0,0,27],[0,1,0,84],[0,0,1,161]],2),([[1,0,0,27],[0,1,0,84],[0,0,1,161]],3)],[27,84,161]⟩,
  ⟨3,[0,1,2],4,[84,27,29],[[1,0,0],[0,1,0],[0,0,1]],[([[1,0,0,84],[0,1,0,27],[0,0,1,29]],1),([[1,0,0,84],[0,1,0,27],[0,0,1,29]],2),([[1,0,0,84],[0,1,0,27],[0,0,1,29]],3)],[84,27,29]⟩,
  ⟨3,[0,1,3],0,[1,0,0],[[1,0,27],[0,1,84],[0,0,161]],[([[1,0,27,1],[0,1,84,0],[0,0,161,0]],1),([[1,0,27,1],[0,1,84,0],[0,0,161,0]],2),([[1,0,0,1],[0,1,0,0],[0,0,1,0]],3)],[1,0,0]⟩,
  ⟨3,[0,1,3],1,[0,1,0],[[1,0,27],[0,1,84],[0,0,161]],[([[1,0,27,0],[0,1,84,1],[0,0,161,0]],1),([[1,0,27,0],[0,1,84,1],[0,0,161,0]],2),([[1,0,0,0],[0,1,0,1],[0,0,1,0]],3)],[0,1,0]⟩,
  ⟨3,[0,1,3],2,[0,0,1],[[1,0,27],[0,1,84],[0,0,161]],[([[1,0,27,0],[0,1,84,0],[0,0,161,1]],1),([[1,0,27,0],[0,1,84,0],[0,0,161,1]],2),([[1,0,0,55],[0,1,0,253],[0,0,1,130]],3)],[55,253,130]⟩,
  ⟨3,[0,1,3],3,[27,84,161],[[1,0,27],[0,1,84],[0,0,161]],[([[1,0,27,27],[0,1,84,84],[0,0,161,161]],1),([[1,0,27,27],[0,1,84,84],[0,0,161,161]],2),([[1,0,0,0],[0,1,0,0],[0,0,1,1]],3)],[0,0,1]⟩,
  ⟨3,[0,1,3],4,[84,27,29],[[1,0,27],[0,1,84],[0,0,161]],[([[1,0,27,84],[0,1,84,27],[0,0,161,29]],1),([[1,0,27,84],[0,1,84,27],[0,0,161,29]],2),([[1,0,0,77],[0,1,0,229],[0,0,1,28]],3)],[77,229,28]⟩,
  ⟨3,[0,1,4],0,[1,0,0],[[1,0,84],[0,1,27],[0,0,29]],[([[1,0,84,1],[0,1,27,0],[0,0,29,0]],1),([[1,0,84,1],[0,1,27,0],[0,0,29,0]],2),([[1,0,0,1],[0,1,0,0],[0,0,1,0]],3)],[1,0,0]⟩,
  ⟨3,[0,1,4],1,[0,1,0],[[1,0,84],[0,1,27],[0,0,29]],[([[1,0,84,0],[0,1,27,1],[0,0,29,0]],1),([[1,0,84,0],[0,1,27,1],[0,0,29,0]],2),([[1,0,0,0],[0,1,0,1],[0,0,1,0]],3)],[0,1,0]⟩,
  ⟨3,[0,1,4],2,[0,0,1],[[1,0,84],[0,1,27],[0,0,29]],[([[1,0,84,0],[0,1,27,0],[0,0,29,1]],1),([[1,0,84,0],[0,1,27,0],[0,0,29,1]],2),([[1,0,0,169],[0,1,0,44],[0,0,1,131]],3)],[169,44,131]⟩,
  ⟨3,[0,1,4],3,[27,84,161],[[1,0,84],[0,1,27],[0,0,29]],[([[1,0,84,27],[0,1,27,84],[0,0,29,161]],1),([[1,0,84,27],[0,1,27,84],[0,0,29,161]],2),([[1,0,0,28],[0,1,0,18],[0,0,1,160]],3)],[28,18,160]⟩,
  ⟨3,[0,1,4],4,[84,27,29],[[1,0,84],[0,1,27],[0,0,29]],[([[1,0,84,84],[0,1,27,27],[0,0,29,29]],1),([[1,0,84,84],[0,1,27,27],[0,0,29,29]],2),([[1,0,0,0],[0,1,0,0],[0,0,1,1]],3)],[0,0,1]⟩,
  ⟨3,[0,2,3],0,[1,0,0],[[1,0,27],[0,0,84],[0,1,161]],[([[1,0,27,1],[0,0,84,0],[0,1,161,0]],1),([[1,0,27,1],[0,1,161,0],[0,0,84,0]],2),([[1,0,0,1],[0,1,0,0],[0,0,1,0]],3)],[1,0,0]⟩,
  ⟨3,[0,2,3],1,[0,1,0],[[1,0,27],[0,0,84],[0,1,161]],[([[1,0,27,0],[0,0,84,1],[0,1,161,0]],1),([[1,0,27,0],[0,1,161,0],[0,0,84,1]],2),([[1,0,0,26],[0,1,0,255],[0,0,1,129]],3)],[26,255,129]⟩,
  ⟨3,[0,2,3],2,[0,0,1],[[1,0,27],[0,0,84],[0,1,161]],[([[1,0,27,0],[0,0,84,0],[0,1,161,1]],1),([[1,0,27,0],[0,1,161,1],[0,0,84,0]],2),([[1,0,0,0],[0,1,0,1],[0,0,1,0]],3)],[0,1,0]⟩,
  ⟨3,[0,2,3],3,[27,84,161],[[1,0,27],[0,0,84],[0,1,161]],[([[1,0,27,27],[0,0,84,84],[0,1,161,161]],1),([[1,0,27,27],[0,1,161,161],[0,0,84,84]],2),([[1,0,0,0],[0,1,0,0],[0,0,1,1]],3)],[0,0,1]⟩,
  ⟨3,[0,2,3],4,[84,27,29],[[1,0,27],[0,0,84],[0,1,161]],[([[1,0,27,84],[0,0,84,27],[0,1,161,29]],1),([[1,0,27,84],[0,1,161,29],[0,0,84,27]],2),([[1,0,0,23],[0,1,0,225],[0,0,1,26]],3)],[23,225,26]⟩,
  ⟨3,[0,2,4],0,[1,0,0],[[1,0,84],[0,0,27],[0,1,29]],[([[1,0,84,1],[0,0,27,0],[0,1,29,0]],1),([[1,0,84,1],[0,1,29,0],[0,0,27,0]],2),([[1,0,0,1],[0,1,0,0],[0,0,1,0]],3)],[1,0,0]⟩,
  ⟨3,[0,2,4],1,[0,1,0],[[1,0,84],[0,0,27],[0,1,29]],[([[1,0,84,0],[0,0,27,1],[0,1,29,0]],1),([[1,0,84,0],[0,1,29,0],[0,0,27,1]],2),([[1,0,0,85],[0,1,0,38],[0,0,1,128]],3)],[85,38,128]⟩,
  ⟨3,[0,2,4],2,[0,0,1],[[1,0,84],[0,0,27],[0,1,29]],[([[1,0,84,0],[0,0,27,0],[0,1,29,1]],1),([[1,0,84,0],[0,1,29,1],[0,0,27,0]],2),([[1,0,0,0],[0,1,0,1],[0,0,1,0]],3)],[0,1,0]⟩,
  ⟨3,[0,2,4],3,[27,84,161],[[1,0,84],[0,0,27],[0,1,29]],[([[1,0,84,27],[0,0,27,84],[0,1,29,161]],1),([[1,0,84,27],[0,1,29,161],[0,0,27,84]],2),([[1,0,0,143],[0,1,0,22],[0,0,1,85]],3)],[143,22,85]⟩,
  ⟨3,[0,2,4],4,[84,27,29],[[1,0,84],[0,0,27],[0,1,29]],[([[1,0,84,84],[0,0,27,27],[0,1,29,29]],1),([[1,0,84,84],[0,1,29,29],[0,0,27,27]],2),([[1,0,0,0],[0,1,0,0],[0,0,1,1]],3)],[0,0,1]⟩,
  ⟨3,[0,3,4],0,[1,0,0],[[1,27,84],[0,84,27],[0,161,29]],[([[1,27,84,1],[0,84,27,0],[0,161,29,0]],1),([[1,0,23,1],[0,1,26,0],[0,0,225,0]],2),([[1,0,0,1],[0,1,0,0],[0,0,1,0]],3)],[1,0,0]⟩,
  ⟨3,[0,3,4],1,[0,1,0],[[1,27,84],[0,84,27],[0,161,29]],[([[1,27,84,0],[0,84,27,1],[0,161,29,0]],1),([[1,0,23,26],[0,1,26,129],[0,0,225,255]],2),([[1,0,0,245],[0,1,0,192],[0,0,1,177]],3)],[245,192,177]⟩,
  ⟨3,[0,3,4],2,[0,0,1],[[1,27,84],[0,84,27],[0,161,29]],[([[1,27,84,0],[0,84,27,0],[0,161,29,1]],1),([[1,0,23,0],[0,1,26,0],[0,0,225,1]],2),([[1,0,0,106],[0,1,0,76],[0,0,1,63]],3)],[106,76,63]⟩,
  ⟨3,[0,3,4],3,[27,84,161],[[1,27,84],[0,84,27],[0,161,29]],[([[1,27,84,27],[0,84,27,84],[0,161,29,161]],1),([[1,0,23,0],[0,1,26,1],[0,0,225,0]],2),([[1,0,0,0],[0,1,0,1],[0,0,1,0]],3)],[0,1,0]⟩,
  ⟨3,[0,3,4],4,[84,27,29],[[1,27,84],[0,84,27],[0,161,29]],[([[1,27,84,84],[0,84,27,27],[0,161,29,29]],1),([[1,0,23,23],[0,1,26,26],[0,0,225,225]],2),([[1,0,0,0],[0,1,0,0],[0,0,1,1]],3)],[0,0,1]⟩,
  ⟨3,[1,2,3],0,[1,0,0],[[0,0,27],[1,0,84],[0,1,161]],[([[1,0,84,0],[0,0,27,1],[0,1,161,0]],1),([[1,0,84,0],[0,1,161,0],[0,0,27,1]],2),([[1,0,0,85],[0,1,0,94],[0,0,1,128]],3)],[85,94,128]⟩,
  ⟨3,[1,2,3],1,[0,1,0],[[0,0,27],[1,0,84],[0,1,161]],[([[1,0,84,1],[0,0,27,0],[0,1,161,0]],1),([[1,0,84,1],[0,1,161,0],[0,0,27,0]],2),([[1,0,0,1],[0,1,0,0],[0,0,1,0]],3)],[1,0,0]⟩,
  ⟨3,[1,2,3],2,[0,0,1],[[0,0,27],[1,0,84],[0,1,161]],[([[1,0,84,0],[0,0,27,0],[0,1,161,1]],1),([[1,0,84,0],[0,1,161,1],[0,0,27,0]],2),([[1,0,0,0],[0,1,0,1],[0,0,1,0]],3)],[0,1,0]⟩,
  ⟨3,[1,2,3],3,[27,84,161],[[0,0,27],[1,0,84],[0,1,161]],[([[1,0,84,84],[0,0,27,27],[0,1,161,161]],1),([[1,0,84,84],[0,1,161,161],[0,0,27,27]],2),([[1,0,0,0],[0,1,0,0],[0,0,1,1]],3)],[0,0,1]⟩,
  ⟨3,[1,2,3],4,[84,27,29],[[0,0,27],[1,0,84],[0,1,161]],[([[1,0,84,27],[0,0,27,84],[0,1,161,29]],1),([[1,0,84,27],[0,1,161,29],[0,0,27,84]],2),([[1,0,0,143],[0,1,0,239],[0,0,1,85]],3)],[143,239,85]⟩,
  ⟨3,[1,2,4],0,[1,0,0],[[0,0,84],[1,0,27],[0,1,29]],[([[1,0,27,0],[0,0,84,1],[0,1,29,0]],1),([[1,0,27,0],[0,1,29,0],[0,0,84,1]],2),([[1,0,0,26],[0,1,0,59],[0,0,1,129]],3)],[26,59,129]⟩,
  ⟨3,[1,2,4],1,[0,1,0],[[0,0,84],[1,0,27],[0,1,29]],[([[1,0,27,1],[0,0,84,0],[0,1,29,0]],1),([[1,0,27,1],[0,1,29,0],[0,0,84,0]],2),([[1,0,0,1],[0,1,0,0],[0,0,1,0]],3)],[1,0,0]⟩,
  ⟨3,[1,2,4],2,[0,0,1],[[0,0,84],[1,0,27],[0,1,29]],[([[1,0,27,0],[0,0,84,0],[0,1,29,1]],1),([[1,0,27,0],[0,1,29,1],[0,0,84,0]],2),([[1,0,0,0],[0,1,0,1],[0,0,1,0]],3)],[0,1,0]⟩,
  ⟨3,[1,2,4],3,[27,84,161],[[0,0,84],[1,0,27],[0,1,29]],[([[1,0,27,84],[0,0,84,27],[0,1,29,161]],1),([[1,0,27,84],[0,1,29,161],[0,0,84,27]],2),([[1,0,0,23],[0,1,0,190],[0,0,1,26]],3)],[23,190,26]⟩,
  ⟨3,[1,2,4],4,[84,27,29],[[0,0,84],[1,0,27],[0,1,29]],[([[1,0,27,27],[0,0,84,84],[0,1,29,29]],1),([[1,0,27,27],[0,1,29,29],[0,0,84,84]],2),([[1,0,0,0],[0,1,0,0],[0,0,1,1]],3)],[0,0,1]⟩,
  ⟨3,[1,3,4],0,[1,0,0],[[0,27,84],[1,84,27],[0,161,29]],[([[1,84,27,0],[0,27,84,1],[0,161,29,0]],1),([[1,0,143,85],[0,1,85,128],[0,0,239,94]],2),([[1,0,0,143],[0,1,0,160],[0,0,1,103]],3)],[143,160,103]⟩,
  ⟨3,[1,3,4],1,[0,1,0],[[0,27,84],[1,84,27],[0,161,29]],[([[1,84,27,1],[0,27,84,0],[0,161,29,0]],1),([[1,0,143,1],[0,1,85,0],[0,0,239,0]],2),([[1,0,0,1],[0,1,0,0],[0,0,1,0]],3)],[1,0,0]⟩,
  ⟨3,[1,3,4],2,[0,0,1],[[0,27,84],[1,84,27],[0,161,29]],[([[1,84,27,0],[0,27,84,0],[0,161,29,1]],1),([[1,0,143,0],[0,1,85,0],[0,0,239,1]],2),([[1,0,0,95],[0,1,0,174],[0,0,1,106]],3)],[95,174,106]⟩,
  ⟨3,[1,3,4],3,[27,84,161],[[0,27,84],[1,84,27],[0,161,29]],[([[1,84,27,84],[0,27,84,27],[0,161,29,161]],1),([[1,0,143,0],[0,1,85,1],[0,0,239,0]],2),([[1,0,0,0],[0,1,0,1],[0,0,1,0]],3)],[0,1,0]⟩,
  ⟨3,[1,3,4],4,[84,27,29],[[0,27,84],[1,84,27],[0,161,29]],[([[1,84,27,27],[0,27,84,84],[0,161,29,29]],1),([[1,0,143,143],[0,1,85,85],[0,0,239,239]],2),([[1,0,0,0],[0,1,0,0],[0,0,1,1]],3)],[0,0,1]⟩,
  ⟨3,[2,3,4],0,[1,0,0],[[0,27,84],[0,84,27],[1,161,29]],[([[1,161,29,0],[0,84,27,0],[0,27,84,1]],1),([[1,0,225,0],[0,1,26,0],[0,0,23,1]],2),([[1,0,0,239],[0,1,0,245],[0,0,1,102]],3)],[239,245,102]⟩,
  ⟨3,[2,3,4],1,[0,1,0],[[0,27,84],[0,84,27],[1,161,29]],[([[1,161,29,0],[0,84,27,1],[0,27,84,0]],1),([[1,0,225,255],[0,1,26,129],[0,0,23,26]],2),([[1,0,0,65],[0,1,0,102],[0,0,1,245]],3)],[65,102,245]⟩,
  ⟨3,[2,3,4],2,[0,0,1],[[0,27,84],[0,84,27],[1,161,29]],[([[1,161,29,1],[0,84,27,0],[0,27,84,0]],1),([[1,0,225,1],[0,1,26,0],[0,0,23,0]],2),([[1,0,0,1],[0,1,0,0],[0,0,1,0]],3)],[1,0,0]⟩,
  ⟨3,[2,3,4],3,[27,84,161],[[0,27,84],[0,84,27],[1,161,29]],[([[1,161,29,161],[0,84,27,84],[0,27,84,27]],1),([[1,0,225,0],[0,1,26,1],[0,0,23,0]],2),([[1,0,0,0],[0,1,0,1],[0,0,1,0]],3)],[0,1,0]⟩,
  ⟨3,[2,3,4],4,[84,27,29],[[0,27,84],[0,84,27],[1,161,29]],[([[1,161,29,29],[0,84,27,27],[0,27,84,84]],1),([[1,0,225,225],[0,1,26,26],[0,0,23,23]],2),([[1,0,0,0],[0,1,0,0],[0,0,1,1]],3)],[0,0,1]⟩]
set_option maxRecDepth 100000 in
theorem Hw:(ways.all fun e=>e.ok ivL)=true:=by decide +kernel
def wayW (n:Nat) (hs:List Int) (x:Nat):List UInt8:=match ways.find? (fun e=>decide (e.n=n) && decide (e.hs=hs) && decide (e.x=(x:Int))) with
  | some e=>e.w
  | none=>[]
def Fv (n:Nat) (x:Nat):List UInt8:=match ways.find? (fun e=>decide (e.n=n) && decide (e.x=(x:Int))) with
  | some e=>e.g
  | none=>[]
def FV (n:Nat) (hs:List Int):Bool:=
  (List.range (n+2)).all fun x=>decide (ways.find? (fun e=>decide (e.n=n) && decide (e.hs=hs) && decide (e.x=(x:Int)))≠none) && decide ((wayW n hs x).length=n) &&
    ((List.range n).all fun t=>decide (xorN (fun j=>bT ((Fv n (hs.getD j 0).toNat).getD t 0) ((wayW n hs x).getD j 0)) n=(Fv n x).getD t 0)) &&
    ((List.range n).all fun j=>decide (xorN (fun i=>bT ((wayW n hs i).getD j 0) ((Fv n x).getD i 0)) n=(wayW n hs x).getD j 0))
end Go.Wk
namespace Go.Wk
open Rp (sz own)
set_option maxRecDepth 100000 in
theorem Ia:([1,2,3].all fun n=>(vK n).all (FV n))=true:=by decide +kernel
theorem Cz {n s:Nat}{hs:List Int}(hn:1≤n∧n≤3) (h2:s≤2) (hr:rises hs ((n:Int)+s-1)=true) (hl:hs.length=n):hs∈vK n:=by
  rw [rises,List.all_eq_true] at hr
  have hr:∀ i,i<hs.length→jG hs ((n:Int)+s-1) i=true:=fun i hi=>hr i (by simpa using hi)
  simp only [jG,Bool.and_eq_true,Bool.or_eq_true,decide_eq_true_eq] at hr
  have hc:n=1∨n=2∨n=3:=by omega
  rcases hc with rfl | rfl | rfl
  · match hs,hl with
    | [a],_=>
      have h0:=hr 0 σ
      simp only [List.getD_cons_zero] at h0
      have:a=0∨a=1∨a=2:=by omega
      rcases this with rfl | rfl | rfl<;>simp [vK]
  · match hs,hl with
    | [a,b],_=>
      have h0:=hr 0 σ
      have h1:=hr 1 σ
      simp only [List.getD_cons_zero,List.getD_cons_succ,Nat.sub_self,Nat.one_ne_zero,false_or] at h0 h1
      have ha:a=0∨a=1∨a=2:=by omega
      have hb:b=1∨b=2∨b=3:=by omega
      rcases ha with rfl | rfl | rfl<;>rcases hb with rfl | rfl | rfl<;>first | (exfalso; omega) | simp [vK]
  · match hs,hl with
    | [a,b,c],_=>
      have h0:=hr 0 σ
      have h1:=hr 1 σ
      have h2:=hr 2 σ
      simp only [List.getD_cons_zero,List.getD_cons_succ,Nat.sub_self,Nat.one_ne_zero,false_or,Nat.succ_ne_zero,show (2:Nat)-1=1 from rfl,(by decide:¬ (2:Nat)=0)] at h0 h1 h2
      have ha:a=0∨a=1∨a=2:=by omega
      have hb:b=1∨b=2∨b=3:=by omega
      have hc:c=2∨c=3∨c=4:=by omega
      rcases ha with rfl | rfl | rfl<;>rcases hb with rfl | rfl | rfl<;>rcases hc with rfl | rfl | rfl<;>first | (exfalso; omega) | simp [vK]
theorem Gi {n:Nat}{hs:List Int}(hn:1≤n∧n≤3) (h:hs∈vK n):FV n hs=true:=by
  have h1:=List.all_eq_true.1 Ia n (by have hc:n=1∨n=2∨n=3:=(by omega); rcases hc with rfl | rfl | rfl<;>simp)
  exact List.all_eq_true.1 h1 hs h
theorem wD {n:Nat}{hs:List Int}(h:FV n hs=true) {x:Nat}(hx:x<n+2):betw n hs x 0=wayW n hs x∧ew n x 0=Fv n x:=by
  have h1:=List.all_eq_true.1 h x (by simpa using hx)
  simp only [Bool.and_eq_true,decide_eq_true_eq] at h1
  have h2:=h1.1.1.1
  have key:∀ e∈ways,e.ok ivL=true:=List.all_eq_true.1 Hw
  cases he:ways.find? (fun e=>decide (e.n=n) && decide (e.hs=hs) && decide (e.x=(x:Int))) with
  | none=>exact absurd he h2
  | some e=>
    have e1:=List.find?_some he
    simp only [Bool.and_eq_true,decide_eq_true_eq] at e1
    obtain ⟨⟨e2,e3⟩,e4⟩:=e1
    have hm:=List.mem_of_find?_eq_some he
    refine ⟨?_,?_⟩
    · have:=Way.fact (key e hm)
      rw [e2,e3,e4] at this
      rw [this,wayW,he]
    · cases hf:ways.find? (fun e=>decide (e.n=n) && decide (e.x=(x:Int))) with
      | none=>
        have:=List.find?_eq_none.1 hf e hm
        simp [e2,e4] at this
      | some f=>
        have f1:=List.find?_some hf
        simp only [Bool.and_eq_true,decide_eq_true_eq] at f1
        have hg:=key f (List.mem_of_find?_eq_some hf)
        rw [GI] at hg
        unfold Way.ok at hg
        simp only [Bool.and_eq_true,decide_eq_true_eq] at hg
        have h9:=hg.1.1.1.1.1.1
        rw [f1.1,f1.2] at h9
        rw [Fv,hf]
        exact h9
section
variable {n s:Nat}{hs:List Int}{x:Int}
theorem HT (hn:1≤n∧n≤3) (h2:s≤2) (hr:rises hs ((n:Int)+s-1)=true) (hl:hs.length=n) (hx:0≤x∧x<n+2):(betw n hs x 0).length=n:=by
  obtain ⟨x,rfl⟩:∃ k:Nat,x=k:=⟨x.toNat,ω⟩
  have ht:=Gi hn (Cz hn h2 hr hl)
  have hx':x<n+2:=by omega
  have h1:=List.all_eq_true.1 ht x (by simpa using hx')
  simp only [Bool.and_eq_true,decide_eq_true_eq] at h1
  rw [(wD ht hx').1]
  exact h1.1.1.2
theorem dx {f g:Nat→UInt8}:∀ {k:Nat},(∀ i,i<k→f i=g i)→xorN f k=xorN g k
  | 0,_=>rfl
  | k+1,h=>by rw [xorN,xorN,dx fun i hi=>h i ω,h k ω]
theorem Gq (hn:1≤n∧n≤3) (h2:s≤2) (hr:rises hs ((n:Int)+s-1)=true) (hl:hs.length=n) (hx:0≤x∧x<n+2) {t:Nat}(ht:t<n) :
    xorN (fun j=>bT ((ew n (hs.getD j 0) 0).getD t 0) ((betw n hs x 0).getD j 0)) n=(ew n x 0).getD t 0:=by
  obtain ⟨x,rfl⟩:∃ k:Nat,x=k:=⟨x.toNat,ω⟩
  have hk:=Gi hn (Cz hn h2 hr hl)
  have hx':x<n+2:=by omega
  have h1:=List.all_eq_true.1 hk x (by simpa using hx')
  simp only [Bool.and_eq_true,decide_eq_true_eq] at h1
  have h3:=List.all_eq_true.1 h1.1.2 t (by simpa using ht)
  simp only [decide_eq_true_eq] at h3
  rw [(wD hk hx').1,(wD hk hx').2,← h3]
  refine dx fun j hj=>?_
  have hb:=lw hr j ω
  rw [← (wD hk (x:=(hs.getD j 0).toNat) ω).2,Int.toNat_of_nonneg hb.1]
end
theorem xq:∀ {a b:List UInt8},a.length=b.length→∀ p:Nat,(cP a b).getD p 0=a.getD p 0 ^^^ b.getD p 0
  | [],[],_,p=>by simp [cP]
  | x::a,y::b,h,0=>by simp [cP]
  | x::a,y::b,h,p+1=>by
    have:=xq (a:=a) (b:=b) (by simpa using h) p
    simpa [cP] using this
theorem wq {a:List UInt8}{c:UInt8}(p:Nat):(bD a c).getD p 0=bT (a.getD p 0) c:=by
  unfold bD
  by_cases hp:p<a.length
  · simp [List.getD,hp]
  · have:bT 0 c=0:=by exact fm c
    simp [List.getD,hp,this]
theorem s6 {ls:List (List UInt8)}{cs:List UInt8}{n:Nat}(h:∀ i,i<ls.length→(ls.getD i []).length=n) (p:Nat):∀ {k:Nat},k≤ls.length→(mixTo ls cs n k).getD p 0=xorN (fun j=>bT ((ls.getD j []).getD p 0) (cs.getD j 0)) k
  | 0,_=>by
    show (List.replicate n (0:UInt8)).getD p 0=0
    by_cases hp:p<n<;>simp [List.getD,hp]
  | k+1,hk=>by
    rw [mixTo,xq (by rw [cY,ii h ω,h k ω]),wq,s6 h p ω]
    rfl
theorem pi {f:Nat→UInt8}{c:UInt8}:∀ {k:Nat},bT (xorN f k) c=xorN (fun i=>bT (f i) c) k
  | 0=>by show bT 0 c=0; exact fm c
  | k+1=>by rw [xorN,fG,pi]; rfl
theorem An {f:Nat→UInt8}{c:UInt8}{k:Nat}:bT c (xorN f k)=xorN (fun i=>bT c (f i)) k:=by
  rw [qm,pi]
  exact dx fun i _=>qm _ _
theorem xV {f g:Nat→UInt8}:∀ {k:Nat},xorN (fun i=>f i ^^^ g i) k=xorN f k ^^^ xorN g k
  | 0=>by simp [xorN]
  | k+1=>by
    rw [xorN,xorN,xorN,xV,UInt8.xor_assoc,UInt8.xor_assoc]
    congr 1
    rw [← UInt8.xor_assoc,UInt8.xor_comm (xorN g k),UInt8.xor_assoc]
theorem nZ:∀ {k:Nat},xorN (fun _=>0) k=0
  | 0=>rfl
  | k+1=>by rw [xorN,nZ]; rfl
theorem vG {f:Nat→Nat→UInt8}{m:Nat}:∀ {k:Nat},xorN (fun i=>xorN (fun j=>f i j) m) k=xorN (fun j=>xorN (fun i=>f i j) k) m
  | 0=>by
    show (0:UInt8)=xorN (fun _=>0) m
    rw [nZ]
  | k+1=>by
    rw [xorN,vG]
    show _=xorN (fun j=>xorN (fun i=>f i j) k ^^^ f k j) m
    rw [xV]
theorem yX {a:Nat→UInt8}{b:Nat→Nat→UInt8}{c:Nat→UInt8}{n m:Nat} :
    xorN (fun i=>bT (xorN (fun j=>bT (a j) (b i j)) m) (c i)) n=xorN (fun j=>bT (a j) (xorN (fun i=>bT (b i j) (c i)) n)) m:=by
  rw [dx (g:=fun i=>xorN (fun j=>bT (a j) (bT (b i j) (c i))) m) fun i _=>?_,vG]
  · exact dx fun j _=>An.symm
  · rw [pi]
    exact dx fun j _=>qS _ _ _
section
variable {n s:Nat}{xs:List (List UInt8)}
theorem BN (hl:xs.length=n+s):rises (bz xs n xs.length) ((n:Int)+s-1)=true:=by
  have:=tJ (xs:=xs) (n:=n) (k:=xs.length)
  rwa [show ((xs.length:Nat):Int)-1=(n:Int)+s-1 by omega] at this
theorem F5 (h:gE n xs=true):(bz xs n xs.length).length=n:=by
  have:=p6 (xs:=xs) (n:=n) (k:=xs.length)
  simp only [gE,decide_eq_true_eq] at h
  omega
end
end Go.Wk
namespace Go.Wk
theorem Ke {n xs} (h:gE n xs=true):¬ (bz xs n xs.length).length<n:=by
  simp only [gE,decide_eq_true_eq] at h; omega
theorem JV {n xs} (h:gE n xs=true):ua n xs=nu n xs n:=(Ck (Ke h)).2.1
end Go.Wk
namespace Go.Wk
open Rp (sz own)
theorem Sep.nilF {M:Nat→Prop}{w0 w:World}{Δ F:List Rsc}{β:Type}[Rp β] (h:Sep M w0 Δ F w):Sep M w0 Δ (F++[Wk.seen false [.slice none 0 0] ([]:List β) []]) w:=
  h.look (r:=Wk.seen false [.slice none 0 0] ([]:List β) []) (.inr (.inl ⟨rfl,rfl,rfl⟩)) (by simp [Wk.seen])
def nils (ys:List (List UInt8)) (k:Nat):Nat:=iy (fun i=>if (ys.getD i []).length=0 then 1 else 0) k
theorem qA {ys:List (List UInt8)}{n:Nat}:∀ k,(bz ys n k).length<n→(bz ys n k).length+nils ys k=k
  | 0,_=>rfl
  | k+1,h=>by
    have e:nils ys (k+1)=nils ys k+if (ys.getD k []).length=0 then 1 else 0:=rfl
    by_cases hc:0<(ys.getD k []).length∧(bz ys n k).length<n
    · rw [(iF hc).1,List.length_append] at h ⊢
      have ih:=qA (ys:=ys) (n:=n) k hc.2
      rw [e,if_neg ω]
      simp only [List.length_cons,List.length_nil] at h ⊢
      omega
    · rw [(jl hc).1] at h ⊢
      have ih:=qA (ys:=ys) (n:=n) k h
      rw [e,if_pos ω]
      omega
theorem rJ {xs:List UInt8}{m:Nat}:∀ {k:Nat},(chunks xs m k).flatten=xs.take (k*m)
  | 0=>by simp [chunks]
  | k+1=>by
    rw [← yJ,List.flatten_append,rJ,Nat.succ_mul,List.take_add]
    simp [cut]
section
variable {n s:Nat}{D:List UInt8}
def Some_ (n s:Nat) (D:List UInt8) (ys:List (List UInt8)):Prop:=ys.length=n+s∧∀ i,i<n+s→ys.getD i []=encK D n i∨ys.getD i []=[]
theorem um (h:D.length=n*4) {k:Int}:(encK D n k).length=4:=by rw [encK,ii (iU h) (Nat.le_refl _)]
theorem DW {ys:List (List UInt8)}(hl:D.length=n*4) (h:Some_ n s D ys):Part ys:=fun i hi=>by
  rcases h.2 i (by rw [← h.1]; exact hi) with e | e
  · rw [e,um hl]; exact .inl rfl
  · rw [e]; exact .inr rfl
theorem Ie {ys:List (List UInt8)}(h:Some_ n s D ys) (hn:nils ys (n+s)≤s):gE n ys=true:=by
  rw [gE,decide_eq_true_eq]
  have:=qA (ys:=ys) (n:=n) ys.length
  rw [h.1] at this ⊢
  omega
theorem HH {ys:List (List UInt8)}(hn:1≤n∧n≤3) (h2:s≤2) (hl:D.length=n*4) (h:Some_ n s D ys) (hok:gE n ys=true) {p:Nat}(hp:p<n+s):rQ n ys p=encK D n p:=by
  have h4:=DW hl h
  have hh:=F5 hok
  have hr:=BN (n:=n) (s:=s) h.1
  have hth:=jc (xs:=ys) (n:=n) (k:=ys.length)
  have ht4:=Ad (n:=n) h4
  refine fC (d:=0) (by rw [vR h4,um hl]) fun q hq=>?_
  rw [rQ,s6 ht4 q (Nat.le_refl _),hth,hh,encK,s6 (iU hl) q (Nat.le_refl _),eE]
  rw [dx (g:=fun j=>bT (xorN (fun t=>bT (((chunks D 4 n).getD t []).getD q 0) ((ew n ((bz ys n ys.length).getD j 0) 0).getD t 0)) n) ((betw n (bz ys n ys.length) (p:Nat) 0).getD j 0)) fun j hj=>?_,yX]
  · exact dx fun t ht=>by rw [Gq hn h2 hr hh ω ht]
  · have ha:=mq (xs:=ys) (n:=n) (k:=ys.length) j ω
    rw [ha.2.2.2.2]
    rcases h.2 ((bz ys n ys.length).getD j 0).toNat (by have:=h.1; omega) with e | e
    · rw [e,encK,Int.toNat_of_nonneg ha.1,s6 (iU hl) q (Nat.le_refl _),eE]
    · have:=ha.2.2.2.1
      rw [e] at this
      exact absurd this σ
theorem I0 {ys:List (List UInt8)}(hn:1≤n∧n≤3) (h2:s≤2) (hl:D.length=n*4) (h:Some_ n s D ys) (hok:gE n ys=true):nu n ys n=D:=by
  have e:nu n ys n=(chunks D 4 n).flatten:=by
    rw [nu,chunks]
    congr 1
    refine List.map_congr_left fun i hi=>?_
    have hi:i<n:=by simpa using hi
    rw [HH hn h2 hl h hok ω,Hr hl hi,iZ hi]
  rw [e,rJ,List.take_of_length_le ω]
end
end Go.Wk

namespace Go.Wk
open Rp (sz own)
section
variable {M:Nat→Prop}{w0 w w':World}{Δ F:List Rsc}
theorem Sep.lookS {α β:Type}[Rp α] [Rp β] (h:Sep M w0 Δ F w) (e:Ext No w w') (j:Nat) {s cs fp0} {y:β}(hj:F[j]? = some (Wk.seen s cs y fp0)) {v:List Value}{x:α}{fp} (o:own false w' v x fp) (hfp:∀ b∈fp,b∈fp0∨w.heap.size≤b) :
    Sep M w0 Δ (F++[Wk.seen false v x fp]) w':=
  (h.to e).look (r:=Wk.seen false v x fp) o fun b hb hm=>(hfp b hb).elim (fun hb=>h.ap _ (List.mem_of_getElem? hj) b hb hm) fun hb=>by have:=h.lt b hm; omega
end
section
variable {P:Program}{n:Nat}{c:Code}{Q:Post}{L:Env}{w w0:World}{M:Nat→Prop}{Δ F:List Rsc}
theorem If {β:Type}[Rp β] {γ:Type}{v0:Value}{fp0:List Nat}(f:γ→List (List β)) (g0:γ) (H:Sep M w0 Δ F w) (i:Nat) (hi:Δ[i]? = some (mine [v0] ([]:List View) fp0)) (j:Nat) (hj:F[j]? = some (rows ([]:List View) ([]:List (List β)) [])) (hf:f g0=[]) (t:Nat) (ht:look L t=some v0)
  (G:List Nat→Prop) (hG:G []) (E2:Env) (h2:sub L E2) (E:γ→Env) (I:γ→Prop) (μ:γ→Nat) (hs:sub L (E g0)) (h0:I g0)
  (round:∀ g v fp vs gg w,Sep M w0 (Δ.set i (mine [v] vs fp)) (F.set j (rows vs (f g) gg)) w→vs.length=(f g).length→G gg→I g →
   W P n c (again (fun x:γ × Value × List Nat × List View × List Nat=>(t,x.2.1)::(E x.1++E2)) (fun x w'=>Sep M w0 (Δ.set i (mine [x.2.1] x.2.2.2.1 x.2.2.1)) (F.set j (rows x.2.2.2.1 (f x.1) x.2.2.2.2)) w'∧x.2.2.2.1.length=(f x.1).length∧G x.2.2.2.2∧I x.1) (fun x=>μ x.1) (g,v,fp,vs,gg) Q) ((t,v)::(E g++E2)) w):W P n (.loop c) Q L w:=
 bJ (fun x:γ × Value × List Nat × List View × List Nat=>(t,x.2.1)::(E x.1++E2)) (fun x w'=>Sep M w0 (Δ.set i (mine [x.2.1] x.2.2.2.1 x.2.2.1)) (F.set j (rows x.2.2.2.1 (f x.1) x.2.2.2.2)) w'∧x.2.2.2.1.length=(f x.1).length∧G x.2.2.2.2∧I x.1) (fun x=>μ x.1) (g0,v0,fp0,[],[])
  ⟨ht,gQ hs h2⟩ ⟨by rw [iz hi,hf,iz hj]; exact H,by simp [hf],hG,h0⟩ fun x w h=>round x.1 x.2.1 x.2.2.1 x.2.2.2.1 x.2.2.2.2 w h.1 h.2.1 h.2.2.1 h.2.2.2
end
def blkAt (G:List Drive) (row i:Nat):List UInt8:=if (G.getD i default).Wiped=true then [] else ((G.getD i default).Blocks.getD row default).Bytes
def ip (G:List Drive) (row k:Nat):List (List UInt8):=(List.range k).map (blkAt G row)
def lA (z:Wld) (g row:Int):List (List UInt8):=ip (z.Groups.getD g.toNat []) row.toNat (z.Groups.getD g.toNat []).length
section
variable {G:List Drive}{row k:Nat}
theorem so:(ip G row k).length=k:=by simp [ip]
theorem Dx (h:(G.getD k default).Wiped=true):ip G row (k+1)=ip G row k++[[]]:=by simp only [ip,List.range_succ,List.map_append,List.map_cons,List.map_nil]; rw [blkAt,if_pos h]
theorem Gr (h:(G.getD k default).Wiped=false):ip G row (k+1)=ip G row k++[((G.getD k default).Blocks.getD row default).Bytes]:=by
  simp only [ip,List.range_succ,List.map_append,List.map_cons,List.map_nil]; rw [blkAt,if_neg (by rw [h]; simp)]
theorem ss {i:Nat}(h:i<k):(ip G row k).getD i []=blkAt G row i:=by simp [ip,List.getD,h]
def ry (xs:List (List UInt8)):Nat→Nat
  | 0=>0
  | k+1=>if 0<(xs.getD k []).length then ry xs k+1 else ry xs k
theorem yE {xs:List (List UInt8)}{n:Nat}:∀ k,(bz xs n k).length=min n (ry xs k)
  | 0=>by simp [bz,ry]
  | k+1=>by
    have ih:=yE (xs:=xs) (n:=n) k
    rw [ry]
    by_cases h:0<(xs.getD k []).length
    · rw [if_pos h]
      by_cases h2:(bz xs n k).length<n
      · rw [(iF ⟨h,h2⟩).1,List.length_append]; simp; omega
      · rw [(jl ω).1]; omega
    · rw [if_neg h,(jl ω).1]; exact ih
theorem vb {m:Nat}(h:∀ i,i<m→(G.getD i default).Wiped=false→0<((G.getD i default).Blocks.getD row default).Bytes.length):∀ k,k≤m→ry (ip G row m) k+(eK G k).length=k
  | 0,_=>rfl
  | k+1,hk=>by
    have ih:=vb h k ω
    rw [ry,ss ω]
    by_cases hw:(G.getD k default).Wiped=true
    · rw [qE hw,blkAt,if_pos hw,if_neg σ,List.length_append]; simp; omega
    · have hw':(G.getD k default).Wiped=false:=by simpa using hw
      rw [pR hw',blkAt,if_neg hw,if_pos (h k ω hw')]; omega
end
section
variable {z:Wld}{g row:Int}
theorem y5 (hs:z.Shape.ok=true) (hG:aR z=true) (hg:ins g 0 (z.Shape.Groups+z.Shape.Column-1)=true) (hr:ins row 0 (z.Shape.Rows-1)=true) :
    (lA z g row).length=z.Shape.Data.toNat+z.Shape.Spare.toNat∧Part (lA z g row)∧gE z.Shape.Data.toNat (lA z g row) = !dI z g:=by
  have hsd:=aL hs
  have hgg:=dQ hG
  have hgi:=aN.1 hg
  have hri:=aN.1 hr
  obtain ⟨hl,hd⟩:=hgg.2 g.toNat ω
  have hb:∀ i,i<(z.Groups.getD g.toNat []).length→(((z.Groups.getD g.toNat []).getD i default).Blocks.getD row.toNat default).Bytes.length=4:=fun i hi=>by
    obtain ⟨h1,h2⟩:=hd i hi
    exact (kH (h2 row.toNat ω)).2.2
  have hlen:(lA z g row).length=(z.Groups.getD g.toNat []).length:=so
  refine ⟨ω,fun i hi=>?_,?_⟩
  · rw [hlen] at hi
    unfold lA
    rw [ss hi,blkAt]
    split
    · exact .inr rfl
    · exact .inl (hb i hi)
  · have hc:=vb (G:=z.Groups.getD g.toNat []) (row:=row.toNat) (m:=(z.Groups.getD g.toNat []).length) (fun i hi _=>by rw [hb i hi]; omega) (z.Groups.getD g.toNat []).length (Nat.le_refl _)
    have hh:=yE (xs:=lA z g row) (n:=z.Shape.Data.toNat) (lA z g row).length
    rw [hlen] at hh
    unfold gE dI kT
    rw [hlen,hh]
    change ry (lA z g row) _+_=_ at hc
    rw [← decide_not]
    exact decide_eq_decide.2 ω
def l4 (z:Wld) (g row:Int):List UInt8:=ua z.Shape.Data.toNat (lA z g row)
end
end Go.Wk
namespace Go.Wk
section
variable {z:Wld}{g row most:Int}{xs:List UInt8}
theorem yw (hs:z.Shape.ok=true) (hG:aR z=true) (hg:ins g 0 (z.Shape.Groups+z.Shape.Column-1)=true) (hr:ins row 0 (z.Shape.Rows-1)=true) (hd:dI z g=false):((l4 z g row).length:Int)=z.Shape.Data*4:=by
  have sbd:=aL hs
  obtain ⟨_,hp,hd2⟩:=y5 hs hG hg hr
  have hk:gE z.Shape.Data.toNat (lA z g row)=true:=by rw [hd2,hd]; rfl
  unfold l4 ua
  rw [if_pos hk,ra hp]
  omega
end
end Go.Wk
namespace Go.Wk
section
variable {z:Wld}{g:Int}{i d:Nat}
def Jt (z:Wld) (g:Int) (i:Nat):List (List UInt8):=pD z.Shape.Data.toNat (z.Shape.Data.toNat+z.Shape.Spare.toNat) (l4 z g i)
def JC (z:Wld) (g:Int) (i d:Nat):Bool:=
  ((z.Groups.getD g.toNat []).getD d default).Wiped || decide ((((z.Groups.getD g.toNat []).getD d default).Blocks.getD i default).Bytes=(Jt z g i).getD d [])
def zJ (z:Wld) (g:Int):Bool := !dI z g && decide (∀ i,i<z.Shape.Rows.toNat→∀ d,d<(z.Groups.getD g.toNat []).length→JC z g i d=true)
theorem Bd (h0:dI z g=false) (h:∀ i,i<z.Shape.Rows.toNat→∀ d,d<(z.Groups.getD g.toNat []).length→JC z g i d=true):zJ z g=true:=by
  rw [zJ,h0,decide_eq_true h]; rfl
def FO (z:Wld) (g:Int):Bool:=decide (cz z=0) && ins g 0 (z.Shape.Groups+z.Shape.Column-1) && zJ z g
end
end Go.Wk
namespace Go.Wk
open Rp (sz own)
def eD (xs:List (List UInt8)) (n m:Nat) (j:Nat):List (List UInt8):=(List.range j).map fun i:Nat=>mixTo xs (ew n ((n:Int)+i) 8) m xs.length
def yz (m:Nat) (x:List UInt8):Bool:=decide ((x.length:Int)≠m)
section
variable {xs rows:List (List UInt8)}{n s m j k:Nat}
theorem pE:(eD xs n m j).length=j:=by simp [eD]
theorem yT:eD xs n m j++[mixTo xs (ew n ((n:Int)+j) 8) m xs.length]=eD xs n m (j+1):=by
  unfold eD; rw [List.range_succ,List.map_append]; rfl
theorem As (h:k<j):(eD xs n m j).getD k []=mixTo xs (ew n ((n:Int)+k) 8) m xs.length:=by
  unfold eD; simp [List.getD,h]
theorem EQ (h:∀ i,i<xs.length→(xs.getD i []).length=m):xs.any (yz m)=false:=by
  rw [List.any_eq_false]
  intro x hx
  obtain ⟨i,hi,e⟩:=List.getElem_of_mem hx
  have:=h i hi
  rw [bh hi,e] at this
  unfold yz; simp [this]
end
end Go.Wk
namespace Go.Wk
open Rp (sz own)
section
variable {M:Nat→Prop}{w0 w:World}{Δ F:List Rsc}
theorem Sep.packB (h:Sep M w0 Δ F w) (j:Nat) {a:Option Addr}{n c:Nat}{bs:List UInt8}{f:List Nat}(q:Int) (hj:Δ[j]? = some (Wk.mine [.slice a n c] bs f)) (hq:I64ok q) :
    Sep M w0 (Δ.set j (Wk.mine [.int .i64 q,.slice a n c] (⟨q,bs⟩:Block) f)) F w:=by
  have ho:=h.mine j hj
  obtain rfl:=eS ho
  have hn:f.Nodup:=h.nodup1 hj
  exact h.set hj (q:=Wk.mine [.int .i64 q,.slice a bs.length c] (⟨q,bs⟩:Block) f) Ext.refl (Block.own_mk (x:=⟨q,bs⟩) hq ho) hn (fun b hb => .inl hb)
end
def bX (z:Wld) (g i:Nat):Drive:=(z.Groups.getD g []).getD i default
def lB (g i row:Nat) (b:Block) (z:Wld):Wld:=
  ⟨z.Shape,z.Groups.set g ((z.Groups.getD g []).set i ⟨(bX z g i).Wiped,(bX z g i).Blocks.set row b⟩),z.On,z.Tapes,z.Writes,z.Stop,z.Down⟩
def jX (g i row:Nat) (b:Block) (z:Wld):Wld:=mn z (lB g i row b z)
section
variable {z:Wld}{g i row:Nat}{b:Block}
theorem mu (h:z.Ok):(lB g i row b z).Ok:=h
end
end Go.Wk
namespace Go.Wk
open Go.Proofs Rp Go.Proofs.Tryz
set_option maxRecDepth 10000
theorem jC {w:World}{z:Wld}{zb i b1 b2 b3 b4 b5:Nat}{g row:Int}{fp xF:List Nat}{x:Block}{xA:Option Addr}{xC:Nat}(o:OwnW w zb 31 z fp) (nd:fp.Nodup) (h1:w.heap[b1]? = some (.cells [.int .i64 x.Stamp,.slice xA x.Bytes.length xC].toArray 116)) (d1:b1 ∉ fp) (h2:w.heap[b2]? = some (.cells [.pointer (some ⟨zb,0,none⟩)].toArray 86)) (d2:b2 ∉ fp) (h3:w.heap[b3]? = some (.cells [.int .i64 g].toArray 2)) (d3:b3 ∉ fp) (h4:w.heap[b4]? = some (.cells [.int .i64 (i:Nat)].toArray 2)) (d4:b4 ∉ fp) (h5:w.heap[b5]? = some (.cells [.int .i64 row].toArray 2)) (d5:b5 ∉ fp) (xO:own false w [.slice xA x.Bytes.length xC] x.Bytes xF) (xD:∀ b∈xF,b ∉ fp) (xK:x.Ok) (hg:0≤g∧g.toNat<z.Groups.length) (hi:i<(z.Groups.getD g.toNat []).length) (hr:0≤row∧row.toNat<((z.Groups.getD g.toNat []).getD i default).Blocks.length) (hl:x.Bytes.length≤1000000):Ret Tryz.prog 204 #[.pointer (some ⟨b1,0,none⟩),.pointer (some ⟨b2,0,none⟩),.pointer (some ⟨b3,0,none⟩),.pointer (some ⟨b4,0,none⟩),.pointer (some ⟨b5,0,none⟩)] w fun v w'=>(MutW w w' fp zb 31 (lB g.toNat i row.toNat x z)):=by
 have xLe:=oL xO;refine aH func204 Z ntmps204 Z (fun Q hQ hN=>?_);have H0:=((((((Sep.beginW o nd).boxF h1 d1).boxF h2 d2).boxF h3 d3).boxF h4 d4).boxF h5 d5).seeF xO xD
 try dsimp only[lNA,lCA,lSZ,lSS] at H0
 obtain ⟨wA1,wC1,wA2,wC2,wA3,wC3,wf1,wf2,wf3,wok1,H1⟩:=H0.openW 0 Z
 try dsimp only[lNA,lCA,lSZ,lSS] at H1
 have wok1U:=wok1;unfold Wld.Ok Shape.Ok I64ok at wok1U;have wL1:=oL (H1.mine 2 Z);have wL2:=oL (H1.mine 3 Z);have wL3:=oL (H1.mine 4 Z);obtain ⟨eb1,eo1,eT1,eF1,eG1,ea1,ek1,eg1,ee1,eH1⟩:=H1.focusL 2 Z g.toNat ω
 try dsimp only[lNA,lCA,lSZ,lSS] at eH1
 obtain ⟨eb2,eo2,eT2,eF2,eG2,ea2,ek2,eg2,ee2,eK1,eH2⟩:=Drive.focus eH1 5 Z i ω;have eK1U:=eK1;unfold Drive.Ok at eK1U
 try unfold I64ok at eK1U
 try unfold maxLen at eK1U
 try dsimp only[lNA,lCA,lSZ,lSS] at eH2
 obtain ⟨eb3,eo3,ee3⟩:=eB (eH2.mine 7 Z) row.toNat ω;refine cd (S:=eH2.S2 2 5) (oQ [1,3,5,7,9,11,15,23,25,27,29,31,2028,12,17,19,2010,20,32,35,37,38,32,35,20,37,38,32,35,12,17,19,20,37,38]) κ κ κ Z (fun _=>show eH2.S2 2 5 _ from Ext.refl.drawn _) (fun q1=>?_);have H2:=eH2.drawn q1;refine dV Z Z (fun zw hx=>aj uY Z Z (am (eH2.s2FBox hx 1 Z Z Z) Z)) (dV Z Z (fun zw hx=>fP Z) (dV Z Z (fun zw hx=>ag ba Z lz Z Z) (dV Z Z (fun zw hx=>aj iH Z Z (am (eH2.s2Box hx 0 Z Z Z Z Z) Z)) (dV Z Z (fun zw hx=>aj tu2 Z Z (am (eH2.s2FBox hx 2 Z Z Z) Z)) (dV Z Z (fun zw hx=>aB iH yy Z Z ee1 g.toNat ω ω) (dV Z Z (fun zw hx=>aj tu2 Z Z (am (eH2.s2FBox hx 3 Z Z Z) Z)) (dV Z Z (fun zw hx=>aj tu2 Z Z (am (eH2.s2FBox hx 4 Z Z Z) Z)) (dV Z Z (fun zw hx=>ag jM Z ts2 Z Z) (dV Z Z (fun zw hx=>aj tu2 Z Z (am (eH2.s2FBox hx 0 Z Z Z) Z)) (dV Z Z (fun zw hx=>ag jM Z aZ Z Z) (dV Z Z (fun zw hx=>aj aU Z Z (am (eH2.s2FBox hx 0 Z Z Z) Z)) (dF Z ?_ ?_))))))))))))
 ·refine aW Z ah Z Z (aj gI Z Z (fg (H2.holAt 2 Z) 0 Z)) (dV Z Z (fun zw hx=>aB gI i9 Z Z ee2 i ω ω) (dV Z Z (fun zw hx=>ag jZ Z ta Z Z) (dF Z ?_ ?_)))
  ·refine aW Z ah Z Z (aj js Z Z (fg (H2.holAt 5 Z) 1 Z)) (cS Z ah Z Z (aV func62 Z bj Z) (aQ (H2.sees 5 Z) ω) (fun hS _ _ r _=>eH2.s2Call hS r.1) (fun v1 w1 r1=>?_));obtain ⟨e1,r1⟩:=r1;obtain ⟨fp1,H3⟩:=H2.res e1 r1;obtain ⟨a1,k1,q2⟩:=ao (H3.mine 8 Z);cases q2;refine dV Z Z (fun zw hx=>aM iW Z Z) (dV Z Z (fun zw hx=>aB js gY Z Z ee3 row.toNat ω ω) ?_);have H5:=H3.packB 8 x.Stamp Z xK
   try dsimp only[lNA,lCA,lSZ,lSS] at H5
   refine pZ Z ah gY H5 7 8 Z Z Z row.toNat ω Z ee3 Z (fun w2 fp2 H4=>?_)
   try dsimp only[lNA,lCA,lSZ,lSS] at H4
   refine bb (hN _ _ (iL results204 ?_));obtain ⟨fp3,H6⟩:=Drive.fill H4 5 7 Z Z Z trivial
   try dsimp only[lNA,lCA,lSZ,lSS] at H6
   obtain ⟨fp4,H7⟩:=H6.fill 2 5 Z Z Z
   try dsimp only[lNA,lCA,lSZ,lSS] at H7
   obtain ⟨fp5,H8⟩:=H7.closeW 0 2 3 4 (lB g.toNat i row.toNat x z) Z Z Z Z Z Z Z Z Z Z (mu wok1)
   try dsimp only[lNA,lCA,lSZ,lSS] at H8
   exact H8.doneW
  ·refine cS Z ah Z Z (aV func62 Z bj Z) (aQ (H2.sees 5 Z) ω) (fun hS _ _ r _=>eH2.s2Call hS r.1) (fun v2 w3 r2=>?_);obtain ⟨e3,r2⟩:=r2;obtain ⟨fp6,H9⟩:=H2.res e3 r2;obtain ⟨a2,k2,q3⟩:=ao (H9.mine 8 Z);cases q3;refine dV Z Z (fun zw hx=>aM iW Z Z) (aW Z ah Z Z (aj js Z Z (fg (H9.holAt 5 Z) 1 Z)) (dV Z Z (fun zw hx=>aB js gY Z Z ee3 row.toNat ω ω) ?_));have H11:=H9.packB 8 x.Stamp Z xK
   try dsimp only[lNA,lCA,lSZ,lSS] at H11
   refine pZ Z ah gY H11 7 8 Z Z Z row.toNat ω Z ee3 Z (fun w4 fp7 H10=>?_)
   try dsimp only[lNA,lCA,lSZ,lSS] at H10
   refine bb (hN _ _ (iL results204 ?_));obtain ⟨fp8,H12⟩:=Drive.fill H10 5 7 Z Z Z trivial
   try dsimp only[lNA,lCA,lSZ,lSS] at H12
   obtain ⟨fp9,H13⟩:=H12.fill 2 5 Z Z Z
   try dsimp only[lNA,lCA,lSZ,lSS] at H13
   obtain ⟨fp10,H14⟩:=H13.closeW 0 2 3 4 (lB g.toNat i row.toNat x z) Z Z Z Z Z Z Z Z Z Z (mu wok1)
   try dsimp only[lNA,lCA,lSZ,lSS] at H14
   exact H14.doneW
 ·refine cS Z ah Z Z (aV func62 Z bj Z) (aQ (H2.sees 5 Z) ω) (fun hS _ _ r _=>eH2.s2Call hS r.1) (fun v3 w5 r3=>?_);obtain ⟨e5,r3⟩:=r3;obtain ⟨fp11,H15⟩:=H2.res e5 r3;obtain ⟨a3,k3,q4⟩:=ao (H15.mine 8 Z);cases q4;refine dV Z Z (fun zw hx=>aM iW Z Z) (aW Z ah Z Z (aj gI Z Z (fg (H15.holAt 2 Z) 0 Z)) (dV Z Z (fun zw hx=>aB gI i9 Z Z ee2 i ω ω) (dV Z Z (fun zw hx=>ag jZ Z ta Z Z) (aW Z ah Z Z (aj js Z Z (fg (H15.holAt 5 Z) 1 Z)) (dV Z Z (fun zw hx=>aB js gY Z Z ee3 row.toNat ω ω) ?_)))));have H17:=H15.packB 8 x.Stamp Z xK
  try dsimp only[lNA,lCA,lSZ,lSS] at H17
  refine pZ Z ah gY H17 7 8 Z Z Z row.toNat ω Z ee3 Z (fun w6 fp12 H16=>?_)
  try dsimp only[lNA,lCA,lSZ,lSS] at H16
  refine bb (hN _ _ (iL results204 ?_));obtain ⟨fp13,H18⟩:=Drive.fill H16 5 7 Z Z Z trivial
  try dsimp only[lNA,lCA,lSZ,lSS] at H18
  obtain ⟨fp14,H19⟩:=H18.fill 2 5 Z Z Z
  try dsimp only[lNA,lCA,lSZ,lSS] at H19
  obtain ⟨fp15,H20⟩:=H19.closeW 0 2 3 4 (lB g.toNat i row.toNat x z) Z Z Z Z Z Z Z Z Z Z (mu wok1)
  try dsimp only[lNA,lCA,lSZ,lSS] at H20
  exact H20.doneW
theorem fR {w:World}{z:Wld}{zb i:Nat}{fp:List Nat}{g row:Int}{x:Block}{xA1:Option Addr}{xC1:Nat}{xF1:List Nat}(o:OwnW w zb 31 z fp) (nd:fp.Nodup) (xK:x.Ok) (xO1:own false w [.slice xA1 x.Bytes.length xC1] x.Bytes xF1) (xD1:∀ b∈xF1,b ∉ fp) (hg:0≤g∧g.toNat<z.Groups.length) (hi:i<(z.Groups.getD g.toNat []).length) (hr:0≤row∧row.toNat<((z.Groups.getD g.toNat []).getD i default).Blocks.length) (hl:x.Bytes.length≤1000000) (hw:z.Writes≤2000000000):Ret Tryz.prog 134 #[.pointer (some ⟨zb,0,none⟩),.int .i64 g,.int .i64 i,.int .i64 row,x.val xA1 xC1] w fun v w'=>(v = .bool (!cj z)∧MutW w w' fp zb 31 (jX g.toNat i row.toNat x z)):=by
 have xK2:=xK;unfold Block.Ok at xK2
 try unfold I64ok at xK2
 try unfold maxLen at xK2
 have xL1:=oL xO1;refine aH func134 Z ntmps134 Z (fun Q hQ hN=>?_);have H0:=(Sep.beginW o nd).seeF (xO1) xD1
 try dsimp only[lNA,lCA,lSZ,lSS] at H0
 refine ab (bm ah Z Z H0 (fun b1 w1 e1 g1 H1=>bm ah Z Z H1 (fun b2 w2 e2 g2 H2=>bm ah Z Z H2 (fun b3 w3 e3 g3 H3=>bm ah Z Z H3 (fun b4 w4 e4 g4 H4=>bm ah Z Z H4 (fun b5 w5 e5 g5 H5=>sA Z Z (aa (ab (sLd uY (H5.box 1 Z) Z (sV Z (jh Z) (sC func203 uF Z (jN (H5.wldAt 0 Z) (H5.nodup1 (i:=0) Z) (y:=lB g.toNat i row.toNat x z) func204 Z zP (fun w1 fp1 o1 n1 s1 e1=>jC o1 n1 (H5.boxFar 0 5 Z Z Z s1 e1).1 (H5.boxFar 0 5 Z Z Z s1 e1).2 (H5.boxFar 0 1 Z Z Z s1 e1).1 (H5.boxFar 0 1 Z Z Z s1 e1).2 (H5.boxFar 0 2 Z Z Z s1 e1).1 (H5.boxFar 0 2 Z Z Z s1 e1).2 (H5.boxFar 0 3 Z Z Z s1 e1).1 (H5.boxFar 0 3 Z Z Z s1 e1).2 (H5.boxFar 0 4 Z Z Z s1 e1).1 (H5.boxFar 0 4 Z Z Z s1 e1).2 (H5.seeFar 0 0 Z Z s1 e1).1 (H5.seeFar 0 0 Z Z s1 e1).2 xK hg hi hr hl) ξ) (fun v1 w6 r1=>?_))))))))))));obtain ⟨rfl,mm1⟩:=r1;obtain ⟨fp1,H6⟩:=H5.mutW 0 Z mm1
 try dsimp only[lNA,lCA,lSZ,lSS] at H6
 refine rA hQ results134 Z ?_;exact ⟨Z,H6.doneW⟩
end Go.Wk
namespace Go.Wk
open Go.Proofs Rp Go.Proofs.Tryz
set_option maxRecDepth 10000
theorem cL {w:World}{ws:List RecV}{A:Option Addr}{n C a b m:Nat}{fp:List Nat}{gf:FuncId}{gL:List Value}{xa xb xm:Int}(o:own true w [.slice A n C] ws fp) (nd:fp.Nodup) (ha:xa=(a:Nat)) (hb:xb=(b:Nat)) (hm:xm=(m:Nat)) (h1:a+m≤b) (h2:b+m≤ws.length) (h0:0<ws.length):Ret Tryz.prog 330 #[.slice A n C,.int .i64 xa,.int .i64 xb,.int .i64 xm,.func (.func gf) #[] gL.toArray] w fun v w'=>(∃ ws',Mut w w' fp [.slice A n C] ws'∧ws'=iN ws a b m):=by
 subst ha;subst hb;subst hm;obtain rfl:=eS o;obtain ⟨hb0,ho0,had0⟩:=eB o 0 ω;subst had0;have wL:=oL o;refine aH func330 Z ntmps330 Z (fun Q hQ hN=>?_);have H0:=Sep.begin o nd;refine ab (sA Z Z (aa (ay (bJ (γ:=Nat × List Nat) (fun (i,f)=>[(0,.slice (some ⟨hb0,ho0,none⟩) ws.length C),(1,.int .i64 a),(2,.int .i64 b),(3,.int .i64 m),(10,.int .i64 i)]) (fun (i,f) w'=>Sep (· ∈ fp) w [mine [.slice (some ⟨hb0,ho0,none⟩) ws.length C] (iN ws a b i) f] [] w'∧i≤m) (fun (i,f)=>m-i) (0,fp) ⟨Z,Z,Z,Z,Z,trivial⟩ ⟨H0,ω⟩ (fun (i,f) w1 H1=>?_)))));obtain ⟨H1,hi⟩:=H1;refine ac (ab (sR 3 Z (aa (aD Z (fun c1=>?_) (fun c1=>?_)))))
 ·refine ax (ac (ay ?_));have sl:=ey (l:=ws) (a:=a) (b:=b) (n:=i);obtain ⟨eb1,eo1,ee1,ec1,eK1⟩:=H1.viewAt 0 Z (a+i) ω;obtain ⟨eb2,eo2,ee2,ec2,eK2⟩:=H1.viewAt 0 Z (b+i) ω;refine cd (S:=fun _=>True) (oQ [1,3,5,7,9,11,13,15,17,19,21,23,25,29,31,33,35,37,2012,26,38,41,42,45,46,38,26,41,42,45,46]) κ κ κ Z (fun _=>trivial) (fun q1=>?_);have H2:=H1.drawn q1;refine dR 3 Z (dV Z Z (fun zw hx=>aE Z Z iO) (dR 3 Z (dV Z Z (fun zw hx=>aE Z Z iO) (dR 3 Z (dV Z Z (fun zw hx=>aE Z Z iO) (dV Z Z (fun zw hx=>aB bB aO Z Z ee2 (b+i) ω ω) (dR 3 Z (dV Z Z (fun zw hx=>aE Z Z iO) (dV Z Z (fun zw hx=>aB bB aO Z Z ee1 (a+i) ω ω) (dF Z ?_ ?_))))))))))
  ·refine aW Z ah Z Z (ak aF Z aO Z Z ec2) (aW Z ah Z Z (ak aF Z aO Z Z ec1) (dV Z Z (fun zw hx=>aB bB aO Z Z Z (a+i) ω ω) (eI (u:=((iN ws a b i).getD (b+i) default)) Z ah aO H2 0 Z (a+i) ω Z Z Z eK2 (fun _ _ _ _=>trivial) (fun w2 fp1 H3=>?_))))
   try dsimp only[lNA,lCA,lSZ,lSS] at H3
   refine dV Z Z (fun zw hx=>aB bB aO Z Z Z (b+i) ω ω) (eI (u:=((iN ws a b i).getD (a+i) default)) Z ah aO H3 0 Z (b+i) (by rw [List.length_set]; omega) Z Z Z eK1 (fun _ _ _ _=>trivial) (fun w3 fp2 H4=>?_))
   try dsimp only[lNA,lCA,lSZ,lSS] at H4
   refine bb (an (sM Z Z (sV Z (aE Z Z iO) (sA Z Z (aa (⟨(i+1,_),⟨Z,Z,Z,Z,Z,trivial⟩,⟨H4,ω⟩,θ⟩))))))
  ·refine aW Z ah Z Z (ak aF Z aO Z Z ec1) (aW Z ah Z Z (ak aF Z aO Z Z ec2) (dV Z Z (fun zw hx=>aB bB aO Z Z Z (a+i) ω ω) (eI (u:=((iN ws a b i).getD (b+i) default)) Z ah aO H2 0 Z (a+i) ω Z Z Z eK2 (fun _ _ _ _=>trivial) (fun w4 fp3 H5=>?_))))
   try dsimp only[lNA,lCA,lSZ,lSS] at H5
   refine dV Z Z (fun zw hx=>aB bB aO Z Z Z (b+i) ω ω) (eI (u:=((iN ws a b i).getD (a+i) default)) Z ah aO H5 0 Z (b+i) (by rw [List.length_set]; omega) Z Z Z eK1 (fun _ _ _ _=>trivial) (fun w5 fp4 H6=>?_))
   try dsimp only[lNA,lCA,lSZ,lSS] at H6
   refine bb (an (sM Z Z (sV Z (aE Z Z iO) (sA Z Z (aa (⟨(i+1,_),⟨Z,Z,Z,Z,Z,trivial⟩,⟨H6,ω⟩,θ⟩))))))
 ·refine aP (hN _ _ (iL results330 ?_));obtain rfl:i=m:=by omega
  exact ⟨_,H1.done,Z⟩
theorem gV {w:World}{ws:List RecV}{A:Option Addr}{n C a m b:Nat}{fp:List Nat}{gf:FuncId}{gL:List Value}{xa xm xb:Int}(o:own true w [.slice A n C] ws fp) (nd:fp.Nodup) (ha:xa=(a:Nat)) (hm:xm=(m:Nat)) (hb:xb=(b:Nat)) (h1:a<m) (h2:m<b) (h3:b≤ws.length):Ret Tryz.prog 327 #[.slice A n C,.int .i64 xa,.int .i64 xm,.int .i64 xb,.func (.func gf) #[] gL.toArray] w fun v w'=>(∃ ws',Mut w w' fp [.slice A n C] ws'∧ws'=gy ws a m b):=by
 subst ha;subst hm;subst hb;obtain rfl:=eS o;obtain ⟨hb0,ho0,had0⟩:=eB o 0 ω;subst had0;have wL:=oL o;refine aH func327 Z ntmps327 Z (fun Q hQ hN=>?_);have H0:=Sep.begin o nd;refine ab (sR 2 Z (sV Z (bY Z Z iO) (sA Z Z (aa (ab (sR 2 Z (sV Z (bY Z Z iO) (sA Z Z (aa (ac (ay (bJ (γ:=Nat × Nat × List RecV × List Nat) (fun (i,j,l,f)=>[(0,.slice (some ⟨hb0,ho0,none⟩) ws.length C),(1,.int .i64 a),(2,.int .i64 m),(3,.int .i64 b),(4,.func (.func gf) #[] gL.toArray),(10,.int .i64 i),(11,.int .i64 j)]) (fun (i,j,l,f) w'=>Sep (· ∈ fp) w [mine [.slice (some ⟨hb0,ho0,none⟩) ws.length C] l f] [] w'∧1≤i∧1≤j∧i≤m∧m+j≤ws.length∧l.length=ws.length∧gy l (m-i) m (m+j)=gy ws a m b) (fun (i,j,l,f)=>i+j) (m-a,b-m,ws,fp) ⟨Z,Z,Z,Z,Z,eqI ω,eqI ω,trivial⟩ ⟨H0,ω,ω,ω,ω,Z,by rw [show m-(m-a)=a by omega,show m+(b-m)=b by omega]⟩ (fun (i,j,l,f) w1 H1=>?_)))))))))))));obtain ⟨H1,hi1,hj1,him,hmj,hll,hre⟩:=H1;refine ac (ab (sR 3 Z (aa (aD Z (fun c1=>?_) (fun c1=>?_)))))
 ·refine ax (ay (ab (sR 3 Z (aa (aD Z (fun c2=>?_) (fun c2=>?_))))))
  ·refine ab (sR 3 Z (sV Z (bY Z Z iO) (sR 3 Z (sC func330 pr Z (cL (a:=m-i) (b:=m) (m:=j) (H1.mine 0 Z) (H1.nodup1 (i:=0) Z) ω ω ω ω ω ω) (fun v1 w2 r1=>?_)))));obtain ⟨x1,mm1,rfl⟩:=r1;obtain ⟨fp1,H2⟩:=H1.mut 0 Z mm1
   try dsimp only[lNA,lCA,lSZ,lSS] at H2
   refine aa (an (sR 2 Z (sV Z (bY Z Z iO) (sA Z Z (aa (⟨(i-j,j,iN l (m-i) m j,_),⟨Z,Z,Z,Z,Z,eqI ω,eqI ω,trivial⟩,⟨H2,ω,ω,ω,ω,by rw [ey]; exact hll,?_⟩,θ⟩))))));rw [show m-(i-j)=m-i+j by omega,Gl ω ω ω]; exact hre
  ·refine ab (sR 3 Z (sV Z (bY Z Z iO) (sR 2 Z (sV Z (aE Z Z iO) (sM Z Z (sV Z (bY Z Z iO) (sR 2 Z (sC func330 pr Z (cL (a:=m-i) (b:=m+j-i) (m:=i) (H1.mine 0 Z) (H1.nodup1 (i:=0) Z) ω ω ω ω ω ω) (fun v2 w3 r2=>?_)))))))));obtain ⟨x2,mm2,rfl⟩:=r2;obtain ⟨fp2,H3⟩:=H1.mut 0 Z mm2
   try dsimp only[lNA,lCA,lSZ,lSS] at H3
   refine aa (an (sR 2 Z (sV Z (bY Z Z iO) (sA Z Z (aa (⟨(i,j-i,iN l (m-i) (m+j-i) i,_),⟨Z,Z,Z,Z,Z,eqI ω,eqI ω,trivial⟩,⟨H3,ω,ω,ω,ω,by rw [ey]; exact hll,?_⟩,θ⟩))))));rw [show m+(j-i)=m+j-i by omega,DS ω ω ω]; exact hre
 ·refine aP (an (sR 3 Z (sV Z (bY Z Z iO) (sR 3 Z (sC func330 pr Z (cL (a:=m-i) (b:=m) (m:=i) (H1.mine 0 Z) (H1.nodup1 (i:=0) Z) ω ω ω ω ω ω) (fun v3 w4 r3=>?_))))));obtain ⟨x3,mm3,rfl⟩:=r3;obtain ⟨fp3,H4⟩:=H1.mut 0 Z mm3
  try dsimp only[lNA,lCA,lSZ,lSS] at H4
  refine aa (hN _ _ (iL results327 ?_));obtain rfl:i=j:=by omega
  exact ⟨_,H4.done,by rw [IF ω ω]; exact hre⟩
theorem dj {w:World}{ws:List RecV}{A:Option Addr}{n C a b:Nat}{fp:List Nat}{gf:FuncId}{gL:List Value}{gF:Func}{xa xb:Int}(o:own true w [.slice A n C] ws fp) (nd:fp.Nodup) (ha:xa=(a:Nat)) (hb:xb=(b:Nat)) (gH:Tryz.prog.funcs[gf]? = some gF) (gB:gF.body.isNone=false) (gN:NG gF) (gC:∀ w1,Ext (· ∈ fp) w w1→∀ (x y:Rec) (A6:Option Addr) (C6:Nat) (A7:Option Addr) (C7:Nat) (A8:Option Addr) (C8:Nat) (B6:Option Addr) (D6:Nat) (B7:Option Addr) (D7:Nat) (B8:Option Addr) (D8:Nat),Ret Tryz.prog gf (([x.val A6 C6 A7 C7 A8 C8,y.val B6 D6 B7 D7 B8 D8]:List Value)++gL).toArray w1 fun v w'=>Ext No w1 w'∧v = .int .i64 (cfR x y)) (h1:a≤b) (h2:b≤ws.length) (h0:0<ws.length) (hL:ws.length≤1000000):Ret Tryz.prog 298 #[.slice A n C,.int .i64 xa,.int .i64 xb,.func (.func gf) #[] gL.toArray] w fun v w'=>(∃ ws',Mut w w' fp [.slice A n C] ws'∧SortSeg ws ws' a b):=by
 subst ha;subst hb;obtain rfl:=eS o;obtain ⟨hb0,ho0,had0⟩:=eB o 0 ω;subst had0;have wL:=oL o;refine aH func298 Z ntmps298 Z (fun Q hQ hN=>?_);have H0:=Sep.begin o nd;refine ab (sM Z Z (sV Z (aE Z Z iO) (sA Z Z (aa (ay (bJ (γ:=Nat × List RecV × List Nat) (fun (i,l,f)=>[(0,.slice (some ⟨hb0,ho0,none⟩) ws.length C),(1,.int .i64 a),(2,.int .i64 b),(3,.func (.func gf) #[] gL.toArray),(8,.int .i64 i)]) (fun (i,l,f) w'=>Sep (· ∈ fp) w [mine [.slice (some ⟨hb0,ho0,none⟩) ws.length C] l f] [] w'∧a<i∧InsO ws l a b i) (fun (i,l,f)=>b-i) (a+1,ws,fp) ⟨Z,Z,Z,Z,eqI ω,trivial⟩ ⟨H0,ω,AF h2⟩ (fun (i,l,f) w1 H1=>?_)))))));obtain ⟨H1,hai,hO⟩:=H1;refine ac (ab (sR 3 Z (aa (aD Z (fun c1=>?_) (fun c1=>?_)))))
 ·refine ax (ac (ay (ac ?_)));have hil:i<ws.length:=by omega
  have hS:=F9 hO hai ω;refine an (sR 2 Z (aa (ay (bJ (γ:=Nat × List RecV × List Nat) (fun (j,l,f)=>[(0,.slice (some ⟨hb0,ho0,none⟩) ws.length C),(1,.int .i64 a),(2,.int .i64 b),(3,.func (.func gf) #[] gL.toArray),(8,.int .i64 i),(9,.int .i64 j)]) (fun (j,l,f) w'=>Sep (· ∈ fp) w [mine [.slice (some ⟨hb0,ho0,none⟩) ws.length C] l f] [] w'∧InsInv ws l a i j) (fun (j,l,f)=>j) (i,l,f) ⟨Z,Z,Z,Z,Z,Z,trivial⟩ ⟨H1,vy hS ω⟩ (fun (j,l,f) w2 H2=>?_)))));obtain ⟨H2,hI⟩:=H2;refine ac (ac ?_);have hjl:=hI.2.1;have hja:=hI.1;have hll:=hI.2.2.1;refine cd (S:=Ext No _) (oQ [1,3,5,7,9,11,13,15,17,19,21,23,25,27,28,31,32]) κ κ κ Z (fun _=>Ext.refl.drawn _) (fun q1=>?_);have H3:=H2.drawn q1;refine dR 4 Z (eu (t:=21) Z (fun hg1=>?_) (fun hg1=>?_))
  ·try simp only [decide_eq_true_eq] at hg1
   refine aT Z (wg Z Z Z) Z Z (fun zw hx=>aJ Z) (aT Z (wg Z Z Z) Z Z (fun zw hx=>aJ Z) (aT Z (wg Z Z Z) Z Z (fun zw hx=>aJ Z) ?_));obtain ⟨eb1,eo1,ee1,ec1,eK1⟩:=H3.viewAt 0 Z j ω;refine aT Z (wg Z Z Z) Z Z (fun zw hx=>aB bB aO Z Z ee1 j ω ω) (aT Z (wg Z Z Z) Z Z (fun zw hx=>ak aF Z aO Z Z (hx.at ec1)) (aT Z (wg Z Z Z) Z Z (fun zw hx=>aJ Z) (aT Z (wg Z Z Z) Z Z (fun zw hx=>aJ Z) (aT Z (wg Z Z Z) Z Z (fun zw hx=>bY Z Z iO) ?_))));obtain ⟨eb2,eo2,ee2,ec2,eK2⟩:=H3.viewAt 0 Z (j-1) ω;refine aT Z (wg Z Z Z) Z Z (fun zw hx=>aB bB aO Z Z ee2 (j-1) ω ω) (aT Z (wg Z Z Z) Z Z (fun zw hx=>ak aF Z aO Z Z (hx.at ec2)) (cS Z (wg Z Z Z) Z Z (eT (lb:=gL) Z gH gB gN Z) (gC _ H3.ext (l.getD j default).r (l.getD (j-1) default).r (l.getD j default).A6 (l.getD j default).C6 (l.getD j default).A7 (l.getD j default).C7 (l.getD j default).A8 (l.getD j default).C8 (l.getD (j-1) default).A6 (l.getD (j-1) default).C6 (l.getD (j-1) default).A7 (l.getD (j-1) default).C7 (l.getD (j-1) default).A8 (l.getD (j-1) default).C8) (fun hS _ _ r _=>hS.trans r.1.no) (fun v1 w3 r1=>?_)));obtain ⟨e1,rfl⟩:=r1;have H4:=H3.to e1;refine aT Z (wg Z Z Z) Z Z (fun zw hx=>aY Z Z) (aW Z ah Z Z (bd Z Z) (bb (aD Z (fun c2=>?_) (fun c2=>?_))))
   ·refine ax (ac (ay ?_));have hll:=hI.2.2.1;obtain ⟨eb3,eo3,ee3,ec3,eK3⟩:=H4.viewAt 0 Z j ω;refine cd (S:=fun _=>True) (oQ [1,3,5,7,9,11,13,15,17,21,23,25,2012,18,26,29,30,33,34,26,18,29,30,33,34]) κ κ κ Z (fun _=>trivial) (fun q2=>?_);have H5:=H4.drawn q2;refine dR 4 Z (dV Z Z (fun zw hx=>bY Z Z iO) (dR 2 Z (dV Z Z (fun zw hx=>bY Z Z iO) ?_)));obtain ⟨eb4,eo4,ee4,ec4,eK4⟩:=H5.viewAt 0 Z (j-1) ω;refine dV Z Z (fun zw hx=>aB bB aO Z Z ee4 (j-1) ω ω) (dR 2 Z (dV Z Z (fun zw hx=>aB bB aO Z Z ee3 j ω ω) (dF Z ?_ ?_)))
    ·refine aW Z ah Z Z (ak aF Z aO Z Z ec4) (aW Z ah Z Z (ak aF Z aO Z Z ec3) (dV Z Z (fun zw hx=>aB bB aO Z Z Z (j) ω ω) (eI (u:=(l.getD (j-1) default)) Z ah aO H5 0 Z (j) ω Z Z Z eK4 (fun _ _ _ _=>trivial) (fun w4 fp1 H6=>?_))))
     try dsimp only[lNA,lCA,lSZ,lSS] at H6
     refine dV Z Z (fun zw hx=>aB bB aO Z Z Z (j-1) ω ω) (eI (u:=(l.getD j default)) Z ah aO H6 0 Z (j-1) (by rw [List.length_set]; omega) Z Z Z eK3 (fun _ _ _ _=>trivial) (fun w5 fp2 H7=>?_))
     try dsimp only[lNA,lCA,lSZ,lSS] at H7
     refine bb (an (sM Z Z (sV Z (bY Z Z iO) (sA Z Z (aa (⟨(j-1,_,_),⟨Z,Z,Z,Z,Z,eqI ω,trivial⟩,⟨H7,uH hI ω hil ω⟩,θ⟩))))))
    ·refine aW Z ah Z Z (ak aF Z aO Z Z ec3) (aW Z ah Z Z (ak aF Z aO Z Z ec4) (dV Z Z (fun zw hx=>aB bB aO Z Z Z (j) ω ω) (eI (u:=(l.getD (j-1) default)) Z ah aO H5 0 Z (j) ω Z Z Z eK4 (fun _ _ _ _=>trivial) (fun w6 fp3 H8=>?_))))
     try dsimp only[lNA,lCA,lSZ,lSS] at H8
     refine dV Z Z (fun zw hx=>aB bB aO Z Z Z (j-1) ω ω) (eI (u:=(l.getD j default)) Z ah aO H8 0 Z (j-1) (by rw [List.length_set]; omega) Z Z Z eK3 (fun _ _ _ _=>trivial) (fun w7 fp4 H9=>?_))
     try dsimp only[lNA,lCA,lSZ,lSS] at H9
     refine bb (an (sM Z Z (sV Z (bY Z Z iO) (sA Z Z (aa (⟨(j-1,_,_),⟨Z,Z,Z,Z,Z,eqI ω,trivial⟩,⟨H9,uH hI ω hil ω⟩,θ⟩))))))
   ·refine aP (an (sM Z Z (sV Z (aE Z Z iO) (sA Z Z (aa ?_)))));have hs:=wG hI hil (.inr c2);refine ⟨(i+1,l,_),⟨Z,Z,Z,Z,Z,trivial⟩,⟨H4,ω,vI hs hai ω⟩,θ⟩
  ·try simp only [decide_eq_false_iff_not] at hg1
   refine dR 12 Z (aW Z ah Z Z (bi Z Z) (bb (kt Z (aP (an (sM Z Z (sV Z (aE Z Z iO) (sA Z Z (aa ?_)))))))));have hs:=wG hI hil (.inl (by have:=hI.1; omega));refine ⟨(i+1,l,_),⟨Z,Z,Z,Z,Z,trivial⟩,⟨H3,ω,vI hs hai ω⟩,θ⟩
 ·refine aP (hN _ _ (iL results298 ?_));exact ⟨_,H1.done,Hh hO ω⟩
def tN (gf:FuncId) (gL:List Value) (N:Nat):Prop:=∀ (w:World) (ws:List RecV) (A:Option Addr) (n C:Nat) (fp:List Nat) (a m b:Nat) (xa xm xb:Int),own true w [.slice A n C] ws fp→fp.Nodup→xa=(a:Nat)→xm=(m:Nat)→xb=(b:Nat)→(∀ w1,Ext (· ∈ fp) w w1→∀ (x y:Rec) (A6:Option Addr) (C6:Nat) (A7:Option Addr) (C7:Nat) (A8:Option Addr) (C8:Nat) (B6:Option Addr) (D6:Nat) (B7:Option Addr) (D7:Nat) (B8:Option Addr) (D8:Nat),Ret Tryz.prog gf (([x.val A6 C6 A7 C7 A8 C8,y.val B6 D6 B7 D7 B8 D8]:List Value)++gL).toArray w1 fun v w'=>Ext No w1 w'∧v = .int .i64 (cfR x y))→a<m→m<b→b≤ws.length→ws.length≤1000000→Ord kLt cW (seg ws a m)→Ord kLt cW (seg ws m b)→b-a≤N→Ret Tryz.prog 319 #[.slice A n C,.int .i64 xa,.int .i64 xm,.int .i64 xb,.func (.func gf) #[] gL.toArray] w fun v w'=>∃ ws',Mut w w' fp [.slice A n C] ws'∧SortSeg ws ws' a b
theorem uW {w:World}{ws:List RecV}{A:Option Addr}{n C a m b:Nat}{fp:List Nat}{gf:FuncId}{gL:List Value}{gF:Func}{xa xm xb:Int}(o:own true w [.slice A n C] ws fp) (nd:fp.Nodup) (ha:xa=(a:Nat)) (hm:xm=(m:Nat)) (hb:xb=(b:Nat)) (gH:Tryz.prog.funcs[gf]? = some gF) (gB:gF.body.isNone=false) (gN:NG gF) (gC:∀ w1,Ext (· ∈ fp) w w1→∀ (x y:Rec) (A6:Option Addr) (C6:Nat) (A7:Option Addr) (C7:Nat) (A8:Option Addr) (C8:Nat) (B6:Option Addr) (D6:Nat) (B7:Option Addr) (D7:Nat) (B8:Option Addr) (D8:Nat),Ret Tryz.prog gf (([x.val A6 C6 A7 C7 A8 C8,y.val B6 D6 B7 D7 B8 D8]:List Value)++gL).toArray w1 fun v w'=>Ext No w1 w'∧v = .int .i64 (cfR x y)) (h1:a<m) (h2:m<b) (h3:b≤ws.length) (hL:ws.length≤1000000) (hA:Ord kLt cW (seg ws a m)) (hB:Ord kLt cW (seg ws m b)) {N:Nat}(hN:b-a≤N+1) (IH:tN gf gL N):Ret Tryz.prog 319 #[.slice A n C,.int .i64 xa,.int .i64 xm,.int .i64 xb,.func (.func gf) #[] gL.toArray] w fun v w'=>(∃ ws',Mut w w' fp [.slice A n C] ws'∧SortSeg ws ws' a b):=by
 subst ha;subst hm;subst hb;obtain rfl:=eS o;obtain ⟨hb0,ho0,had0⟩:=eB o 0 ω;subst had0;have wL:=oL o;refine aH func319 Z ntmps319 Z (fun Q hQ hN=>?_);have H0:=Sep.begin o nd;refine ac (ab (sR 2 Z (sV Z (bY Z Z iO) (sV Z (cX Z Z) (aa (aD Z (fun c1=>?_) (fun c1=>?_)))))))
 ·refine ab (sR 2 Z (aa (ab (sR 2 Z (aa (ac (ay (bJ (γ:=Nat × Nat × List Nat) (fun (i,j,f)=>[(0,.slice (some ⟨hb0,ho0,none⟩) ws.length C),(1,.int .i64 a),(2,.int .i64 m),(3,.int .i64 b),(4,.func (.func gf) #[] gL.toArray),(10,.int .i64 i),(11,.int .i64 j)]) (fun (i,j,f) w'=>Sep (· ∈ fp) w [mine [.slice (some ⟨hb0,ho0,none⟩) ws.length C] ws f] [] w'∧LoInv ws a m b i j) (fun (i,j,f)=>j-i) (m,b,_) ⟨Z,Z,Z,Z,Z,Z,Z,trivial⟩ ⟨H0,GH ω⟩ (fun (i,j,f) w1 H1=>?_)))))))));obtain ⟨H1,hI⟩:=H1;refine ac (ab (sR 3 Z (aa (aD Z (fun c2=>?_) (fun c2=>?_)))))
  ·refine ax (ay (ac ?_));have e1:=hI.1;have e2:=hI.2.1;have e3:=hI.2.2.1;refine an (sR 2 Z (sV Z (aE Z Z iO) (sV Z (fK tu3 pO Z (zo ω)) (sV Z (qi (m:=i+j) Z Z Z) (sV Z (fK pO tu3 Z iO) (sA Z Z (aa (ac ?_))))))));have e1:=hI.1;have e2:=hI.2.1;have e3:=hI.2.2.1;obtain ⟨eb1,eo1,ee1,ec1,eK1⟩:=H1.viewAt 0 Z ((i+j) / 2) ω;obtain ⟨eb2,eo2,ee2,ec2,eK2⟩:=H1.viewAt 0 Z a ω;refine cd (S:=Ext No _) (oQ [1,3,5,7,9,11,13,15,17,18,20]) κ κ κ Z (fun _=>Ext.refl.drawn _) (fun q1=>?_);have H2:=H1.drawn q1;refine dR 3 Z (dV Z Z (fun zw hx=>aB bB aO Z Z ee1 ((i+j) / 2) ω ω) (dV Z Z (fun zw hx=>ak aF Z aO Z Z (hx.at ec1)) (dR 2 Z (dV Z Z (fun zw hx=>aB bB aO Z Z ee2 a ω ω) (dV Z Z (fun zw hx=>ak aF Z aO Z Z (hx.at ec2)) (cS Z ah Z Z (eT (lb:=gL) Z gH gB gN Z) (gC _ H2.ext (ws.getD ((i+j) / 2) default).r (ws.getD a default).r (ws.getD ((i+j) / 2) default).A6 (ws.getD ((i+j) / 2) default).C6 (ws.getD ((i+j) / 2) default).A7 (ws.getD ((i+j) / 2) default).C7 (ws.getD ((i+j) / 2) default).A8 (ws.getD ((i+j) / 2) default).C8 (ws.getD a default).A6 (ws.getD a default).C6 (ws.getD a default).A7 (ws.getD a default).C7 (ws.getD a default).A8 (ws.getD a default).C8) (fun hS _ _ r _=>hS.trans r.1.no) (fun v1 w2 r1=>?_)))))));obtain ⟨e1,rfl⟩:=r1;have H3:=H2.to e1;refine aW Z ah Z Z (aY Z Z) (bb (aD Z (fun c3=>?_) (fun c3=>?_)))
   ·refine an (sM Z Z (sV Z (aE Z Z iO) (sA Z Z (aa (⟨(((i+j) / 2)+1,j,_),⟨Z,Z,Z,Z,Z,Z,Z,trivial⟩,⟨H3,J1 hI h3 hB ω ω c3⟩,θ⟩)))))
   ·refine an (sR 2 Z (aa (⟨(i,((i+j) / 2),_),⟨Z,Z,Z,Z,Z,Z,Z,trivial⟩,⟨H3,KF hI h3 hB ω ω c3⟩,θ⟩)))
  ·refine aP (ac (ab (sR 2 Z (aa (ay ?_)))));have hLo:=hI;have e1:=hI.1;have e2:=hI.2.1;have e3:=hI.2.2.1;refine bJ (γ:=Nat × List RecV × List Nat) (fun (k,l,f)=>[(0,.slice (some ⟨hb0,ho0,none⟩) ws.length C),(1,.int .i64 a),(10,.int .i64 i),(13,.int .i64 k)]) (fun (k,l,f) w'=>Sep (· ∈ fp) w [mine [.slice (some ⟨hb0,ho0,none⟩) ws.length C] l f] [] w'∧UpInv ws l a k∧k<i) (fun (k,l,f)=>i-k) (a,ws,_) ⟨Z,Z,Z,Z,trivial⟩ ⟨H1,FN ω,ω⟩ (fun (k,l,f) w3 H4=>?_);obtain ⟨H4,hU,hki⟩:=H4;refine ac (ac ?_)
   skip
   refine an (sR 2 Z (sV Z (bY Z Z iO) (sV Z (aY Z Z) (aa (aD Z (fun c4=>?_) (fun c4=>?_))))))
   ·refine ax (ac (ay ?_));have hul:=hU.2.2.1;obtain ⟨eb3,eo3,ee3,ec3,eK3⟩:=H4.viewAt 0 Z k ω;obtain ⟨eb4,eo4,ee4,ec4,eK4⟩:=H4.viewAt 0 Z (k+1) ω;refine cd (S:=fun _=>True) (oQ [1,3,5,7,9,11,13,15,17,21,23,25,2012,18,26,29,30,33,34,26,18,29,30,33,34]) κ κ κ Z (fun _=>trivial) (fun q2=>?_);have H5:=H4.drawn q2;refine dR 4 Z (dV Z Z (fun zw hx=>aE Z Z iO) (dR 2 Z (dV Z Z (fun zw hx=>aE Z Z iO) (dV Z Z (fun zw hx=>aB bB aO Z Z ee4 (k+1) ω ω) (dR 2 Z (dV Z Z (fun zw hx=>aB bB aO Z Z ee3 k ω ω) (dF Z ?_ ?_)))))))
    ·refine aW Z ah Z Z (ak aF Z aO Z Z ec4) (aW Z ah Z Z (ak aF Z aO Z Z ec3) (dV Z Z (fun zw hx=>aB bB aO Z Z Z (k) ω ω) (eI (u:=(l.getD (k+1) default)) Z ah aO H5 0 Z (k) ω Z Z Z eK4 (fun _ _ _ _=>trivial) (fun w4 fp1 H6=>?_))))
     try dsimp only[lNA,lCA,lSZ,lSS] at H6
     refine dV Z Z (fun zw hx=>aB bB aO Z Z Z (k+1) ω ω) (eI (u:=(l.getD k default)) Z ah aO H6 0 Z (k+1) (by rw [List.length_set]; omega) Z Z Z eK3 (fun _ _ _ _=>trivial) (fun w5 fp2 H7=>?_))
     try dsimp only[lNA,lCA,lSZ,lSS] at H7
     refine bb (an (sM Z Z (sV Z (aE Z Z iO) (sA Z Z (aa (⟨(k+1,_,_),⟨Z,Z,Z,Z,trivial⟩,⟨H7,Cy hU ω,ω⟩,θ⟩))))))
    ·refine aW Z ah Z Z (ak aF Z aO Z Z ec3) (aW Z ah Z Z (ak aF Z aO Z Z ec4) (dV Z Z (fun zw hx=>aB bB aO Z Z Z (k) ω ω) (eI (u:=(l.getD (k+1) default)) Z ah aO H5 0 Z (k) ω Z Z Z eK4 (fun _ _ _ _=>trivial) (fun w6 fp3 H8=>?_))))
     try dsimp only[lNA,lCA,lSZ,lSS] at H8
     refine dV Z Z (fun zw hx=>aB bB aO Z Z Z (k+1) ω ω) (eI (u:=(l.getD k default)) Z ah aO H8 0 Z (k+1) (by rw [List.length_set]; omega) Z Z Z eK3 (fun _ _ _ _=>trivial) (fun w7 fp4 H9=>?_))
     try dsimp only[lNA,lCA,lSZ,lSS] at H9
     refine bb (an (sM Z Z (sV Z (aE Z Z iO) (sA Z Z (aa (⟨(k+1,_,_),⟨Z,Z,Z,Z,trivial⟩,⟨H9,Cy hU ω,ω⟩,θ⟩))))))
   ·refine aP (bc (hQ _ _ (iL results319 ?_)));obtain rfl:i=k+1:=by omega
    obtain rfl:j=k+1:=by omega
    obtain rfl:m=a+1:=by omega
    exact ⟨_,H4.done,J2 hU hLo h3 hB⟩
 ·refine ax (ac (ab (sR 2 Z (sV Z (bY Z Z iO) (sV Z (cX Z Z) (aa (aD Z (fun c5=>?_) (fun c5=>?_))))))))
  ·refine ab (sR 2 Z (aa (ab (sR 2 Z (aa (ac (ay (bJ (γ:=Nat × Nat × List Nat) (fun (i,j,f)=>[(0,.slice (some ⟨hb0,ho0,none⟩) ws.length C),(1,.int .i64 a),(2,.int .i64 m),(3,.int .i64 b),(4,.func (.func gf) #[] gL.toArray),(14,.int .i64 i),(15,.int .i64 j)]) (fun (i,j,f) w'=>Sep (· ∈ fp) w [mine [.slice (some ⟨hb0,ho0,none⟩) ws.length C] ws f] [] w'∧HiInv ws a m i j) (fun (i,j,f)=>j-i) (a,m,_) ⟨Z,Z,Z,Z,Z,Z,Z,trivial⟩ ⟨H0,GY ω⟩ (fun (i,j,f) w8 H10=>?_)))))))));obtain ⟨H10,hI⟩:=H10;refine ac (ab (sR 3 Z (aa (aD Z (fun c6=>?_) (fun c6=>?_)))))
   ·refine ax (ay (ac ?_));have e1:=hI.1;have e2:=hI.2.1;have e3:=hI.2.2.1;refine an (sR 2 Z (sV Z (aE Z Z iO) (sV Z (fK tu3 pO Z (zo ω)) (sV Z (qi (m:=i+j) Z Z Z) (sV Z (fK pO tu3 Z iO) (sA Z Z (aa (ac ?_))))))));have e1:=hI.1;have e2:=hI.2.1;have e3:=hI.2.2.1;obtain ⟨eb5,eo5,ee5,ec5,eK5⟩:=H10.viewAt 0 Z m ω;obtain ⟨eb6,eo6,ee6,ec6,eK6⟩:=H10.viewAt 0 Z ((i+j) / 2) ω;refine cd (S:=Ext No _) (oQ [1,3,5,7,9,11,13,15,17,18,21,22]) κ κ κ Z (fun _=>Ext.refl.drawn _) (fun q3=>?_);have H11:=H10.drawn q3;refine dR 3 Z (dV Z Z (fun zw hx=>aB bB aO Z Z ee5 m ω ω) (dV Z Z (fun zw hx=>ak aF Z aO Z Z (hx.at ec5)) (dR 2 Z (dV Z Z (fun zw hx=>aB bB aO Z Z ee6 ((i+j) / 2) ω ω) (dV Z Z (fun zw hx=>ak aF Z aO Z Z (hx.at ec6)) (cS Z ah Z Z (eT (lb:=gL) Z gH gB gN Z) (gC _ H11.ext (ws.getD m default).r (ws.getD ((i+j) / 2) default).r (ws.getD m default).A6 (ws.getD m default).C6 (ws.getD m default).A7 (ws.getD m default).C7 (ws.getD m default).A8 (ws.getD m default).C8 (ws.getD ((i+j) / 2) default).A6 (ws.getD ((i+j) / 2) default).C6 (ws.getD ((i+j) / 2) default).A7 (ws.getD ((i+j) / 2) default).C7 (ws.getD ((i+j) / 2) default).A8 (ws.getD ((i+j) / 2) default).C8) (fun hS _ _ r _=>hS.trans r.1.no) (fun v2 w9 r2=>?_)))))));obtain ⟨e2,rfl⟩:=r2;have H12:=H11.to e2;refine dV Z Z (fun zw hx=>aY Z Z) (aW Z ah Z Z (sr Z) (bb (aD Z (fun c7=>?_) (fun c7=>?_))))
    ·refine an (sM Z Z (sV Z (aE Z Z iO) (sA Z Z (aa (⟨(((i+j) / 2)+1,j,_),⟨Z,Z,Z,Z,Z,Z,Z,trivial⟩,⟨H12,JZ hI ω hA ω ω c7⟩,θ⟩)))))
    ·refine an (sR 2 Z (aa (⟨(i,((i+j) / 2),_),⟨Z,Z,Z,Z,Z,Z,Z,trivial⟩,⟨H12,Kt hI ω hA ω ω ω⟩,θ⟩)))
   ·refine aP (ac (ab (sR 2 Z (aa (ay ?_)))));have e1:=hI.1;have e2:=hI.2.1;have e3:=hI.2.2.1;obtain rfl:i=j:=by omega
    have hHi:=hI;refine bJ (γ:=Nat × List RecV × List Nat) (fun (k,l,f)=>[(0,.slice (some ⟨hb0,ho0,none⟩) ws.length C),(2,.int .i64 m),(14,.int .i64 i),(17,.int .i64 k)]) (fun (k,l,f) w'=>Sep (· ∈ fp) w [mine [.slice (some ⟨hb0,ho0,none⟩) ws.length C] l f] [] w'∧DnInv ws l a m i k) (fun (k,l,f)=>k) (m,ws,_) ⟨Z,Z,Z,Z,trivial⟩ ⟨H10,GA hHi hA⟩ (fun (k,l,f) w10 H13=>?_);obtain ⟨H13,hD⟩:=H13;refine ac (ab (sR 3 Z (aa (aD Z (fun c8=>?_) (fun c8=>?_)))))
    ·refine ax (ac (ay ?_));have hdl:=hD.2.1.2.2.1;have hdk:=hD.2.1.2.1;obtain ⟨eb7,eo7,ee7,ec7,eK7⟩:=H13.viewAt 0 Z k ω;refine cd (S:=fun _=>True) (oQ [1,3,5,7,9,11,13,15,17,21,23,25,2012,18,26,29,30,33,34,26,18,29,30,33,34]) κ κ κ Z (fun _=>trivial) (fun q4=>?_);have H14:=H13.drawn q4;refine dR 4 Z (dV Z Z (fun zw hx=>bY Z Z iO) (dR 2 Z (dV Z Z (fun zw hx=>bY Z Z iO) ?_)));obtain ⟨eb8,eo8,ee8,ec8,eK8⟩:=H14.viewAt 0 Z (k-1) ω;refine dV Z Z (fun zw hx=>aB bB aO Z Z ee8 (k-1) ω ω) (dR 2 Z (dV Z Z (fun zw hx=>aB bB aO Z Z ee7 k ω ω) (dF Z ?_ ?_)))
     ·refine aW Z ah Z Z (ak aF Z aO Z Z ec8) (aW Z ah Z Z (ak aF Z aO Z Z ec7) (dV Z Z (fun zw hx=>aB bB aO Z Z Z (k) ω ω) (eI (u:=(l.getD (k-1) default)) Z ah aO H14 0 Z (k) ω Z Z Z eK8 (fun _ _ _ _=>trivial) (fun w11 fp5 H15=>?_))))
      try dsimp only[lNA,lCA,lSZ,lSS] at H15
      refine dV Z Z (fun zw hx=>aB bB aO Z Z Z (k-1) ω ω) (eI (u:=(l.getD k default)) Z ah aO H15 0 Z (k-1) (by rw [List.length_set]; omega) Z Z Z eK7 (fun _ _ _ _=>trivial) (fun w12 fp6 H16=>?_))
      try dsimp only[lNA,lCA,lSZ,lSS] at H16
      refine bb (an (sM Z Z (sV Z (bY Z Z iO) (sA Z Z (aa (⟨(k-1,_,_),⟨Z,Z,Z,eqI ω,trivial⟩,⟨H16,CA hD hHi ω ω⟩,θ⟩))))))
     ·refine aW Z ah Z Z (ak aF Z aO Z Z ec7) (aW Z ah Z Z (ak aF Z aO Z Z ec8) (dV Z Z (fun zw hx=>aB bB aO Z Z Z (k) ω ω) (eI (u:=(l.getD (k-1) default)) Z ah aO H14 0 Z (k) ω Z Z Z eK8 (fun _ _ _ _=>trivial) (fun w13 fp7 H17=>?_))))
      try dsimp only[lNA,lCA,lSZ,lSS] at H17
      refine dV Z Z (fun zw hx=>aB bB aO Z Z Z (k-1) ω ω) (eI (u:=(l.getD k default)) Z ah aO H17 0 Z (k-1) (by rw [List.length_set]; omega) Z Z Z eK7 (fun _ _ _ _=>trivial) (fun w14 fp8 H18=>?_))
      try dsimp only[lNA,lCA,lSZ,lSS] at H18
      refine bb (an (sM Z Z (sV Z (bY Z Z iO) (sA Z Z (aa (⟨(k-1,_,_),⟨Z,Z,Z,eqI ω,trivial⟩,⟨H18,CA hD hHi ω ω⟩,θ⟩))))))
    ·refine aP (bc (hQ _ _ (iL results319 ?_)));have e9:=hD.1;obtain rfl:k=i:=by omega
     obtain rfl:b=m+1:=by omega
     exact ⟨_,H13.done,JH hD hHi ω⟩
  ·refine ax (ab (sR 2 Z (sV Z (aE Z Z iO) (sV Z (fK tu3 pO Z (zo ω)) (sV Z (qi (m:=a+b) Z Z Z) (sV Z (fK pO tu3 Z iO) (sA Z Z (aa (ab (sR 2 Z (sV Z (aE Z Z iO) (sA Z Z (aa (ab (sR 2 Z (aa (GP (γ:=Nat × Nat) H0 [(1,_),(2,_),(3,_),(4,_),(18,_),(19,_)] ⟨Z,Z,Z,Z,Z,Z,trivial⟩ (fun (s,r)=>[(0,.slice (some ⟨hb0,ho0,none⟩) ws.length C),(20,.int .i64 s),(21,.int .i64 r)]) (fun (s,r)=>MidOK ws a m b (((a+b) / 2)+m-1) s r∧(s=a∨(((a+b) / 2)+m-1)+1=b+s)∧(r=m∨(((a+b) / 2)+m-1)+1=m+r)) ?_ (fun (s,r) w15 H19 ⟨hMK,hG1,hG2⟩=>?_))))))))))))))))))
   ·refine ab (sR 3 Z (aa (aD Z (fun c9=>?_) (fun c9=>?_))))
    ·refine ab (sR 2 Z (sV Z (bY Z Z iO) (sA Z Z (aa (an (sR 2 Z (aa ?_)))))));exact ⟨(((a+b) / 2)+m-b,((a+b) / 2)),⟨Z,eqI ω,Z,Z,Z,Z,Z,Z,Z,trivial⟩,H0,⟨ω,ω,ω,ω,h3,hA,hB,ω⟩,ω,ω⟩
    ·refine ab (sR 2 Z (aa (an (sR 2 Z (aa ?_)))));exact ⟨(a,m),⟨Z,Z,Z,Z,Z,Z,Z,Z,Z,trivial⟩,H0,⟨ω,ω,ω,ω,h3,hA,hB,ω⟩,ω,ω⟩
   ·dsimp only[lCA,lNA];refine ab (sM Z Z (sV Z (bY Z Z iO) (sA Z Z (aa (ac (ay (bJ (γ:=Nat × Nat × List Nat) (fun (s2,r2,f)=>[(0,.slice (some ⟨hb0,ho0,none⟩) ws.length C),(1,.int .i64 a),(2,.int .i64 m),(3,.int .i64 b),(4,.func (.func gf) #[] gL.toArray),(18,.int .i64 (((a+b) / 2):Nat)),(19,.int .i64 (((a+b) / 2)+m:Nat)),(20,.int .i64 s2),(21,.int .i64 r2),(22,.int .i64 ((((a+b) / 2)+m-1):Nat))]) (fun (s2,r2,f) w'=>Sep (· ∈ fp) w [mine [.slice (some ⟨hb0,ho0,none⟩) ws.length C] ws f] [] w'∧MidInv ws (((a+b) / 2)+m-1) s r s2 r2) (fun (s2,r2,f)=>r2-s2) (s,r,_) ⟨Z,Z,Z,Z,Z,Z,Z,Z,Z,eqI ω,trivial⟩ ⟨H19,Ee (by rcases hMK with ⟨_,_,_,_,_⟩; omega)⟩ (fun (s2,r2,f) w16 H20=>?_))))))));obtain ⟨H20,hI⟩:=H20;refine ac (ab (sR 3 Z (aa (aD Z (fun c10=>?_) (fun c10=>?_)))))
    ·refine ax (ay (ac ?_));have e1:=hI.1;have e2:=hI.2.1;have e3:=hI.2.2.1;obtain ⟨m1,m2,m3,m4,_,_,_,_⟩:=id hMK;refine an (sR 2 Z (sV Z (aE Z Z iO) (sV Z (fK tu3 pO Z (zo ω)) (sV Z (qi (m:=s2+r2) Z Z Z) (sV Z (fK pO tu3 Z iO) (sA Z Z (aa (ac ?_))))))));have e1:=hI.1;have e2:=hI.2.1;have e3:=hI.2.2.1;obtain ⟨m1,m2,m3,m4,_,_,_,_⟩:=id hMK;obtain ⟨eb9,eo9,ee9,ec9,eK9⟩:=H20.viewAt 0 Z ((((a+b) / 2)+m-1)-((s2+r2) / 2)) ω;obtain ⟨eb10,eo10,ee10,ec10,eK10⟩:=H20.viewAt 0 Z ((s2+r2) / 2) ω;refine cd (S:=Ext No _) (oQ [1,3,5,7,9,11,13,15,17,19,21,22,25,26]) κ κ κ Z (fun _=>Ext.refl.drawn _) (fun q5=>?_);have H21:=H20.drawn q5;refine dR 4 Z (dV Z Z (fun zw hx=>bY Z Z iO) (dV Z Z (fun zw hx=>aB bB aO Z Z ee9 ((((a+b) / 2)+m-1)-((s2+r2) / 2)) ω ω) (dV Z Z (fun zw hx=>ak aF Z aO Z Z (hx.at ec9)) (dR 2 Z (dV Z Z (fun zw hx=>aB bB aO Z Z ee10 ((s2+r2) / 2) ω ω) (dV Z Z (fun zw hx=>ak aF Z aO Z Z (hx.at ec10)) (cS Z ah Z Z (eT (lb:=gL) Z gH gB gN Z) (gC _ H21.ext (ws.getD ((((a+b) / 2)+m-1)-((s2+r2) / 2)) default).r (ws.getD ((s2+r2) / 2) default).r (ws.getD ((((a+b) / 2)+m-1)-((s2+r2) / 2)) default).A6 (ws.getD ((((a+b) / 2)+m-1)-((s2+r2) / 2)) default).C6 (ws.getD ((((a+b) / 2)+m-1)-((s2+r2) / 2)) default).A7 (ws.getD ((((a+b) / 2)+m-1)-((s2+r2) / 2)) default).C7 (ws.getD ((((a+b) / 2)+m-1)-((s2+r2) / 2)) default).A8 (ws.getD ((((a+b) / 2)+m-1)-((s2+r2) / 2)) default).C8 (ws.getD ((s2+r2) / 2) default).A6 (ws.getD ((s2+r2) / 2) default).C6 (ws.getD ((s2+r2) / 2) default).A7 (ws.getD ((s2+r2) / 2) default).C7 (ws.getD ((s2+r2) / 2) default).A8 (ws.getD ((s2+r2) / 2) default).C8) (fun hS _ _ r _=>hS.trans r.1.no) (fun v3 w17 r3=>?_))))))));obtain ⟨e3,rfl⟩:=r3;have H22:=H21.to e3;refine dV Z Z (fun zw hx=>aY Z Z) (aW Z ah Z Z (sr Z) (bb (aD Z (fun c11=>?_) (fun c11=>?_))))
     ·refine an (sM Z Z (sV Z (aE Z Z iO) (sA Z Z (aa (⟨(((s2+r2) / 2)+1,r2,_),⟨Z,Z,Z,Z,Z,Z,Z,Z,Z,Z,trivial⟩,⟨H22,I3 hI hMK ω ω c11⟩,θ⟩)))))
     ·refine an (sR 2 Z (aa (⟨(s2,((s2+r2) / 2),_),⟨Z,Z,Z,Z,Z,Z,Z,Z,Z,Z,trivial⟩,⟨H22,Kk hI hMK ω ω ω⟩,θ⟩)))
    ·refine aP (ac ?_);have e1:=hI.1;have e2:=hI.2.1;have e3:=hI.2.2.1;obtain ⟨m1,m2,m3,m4,_,_,_,_⟩:=id hMK;obtain rfl:s2=r2:=by omega
     refine an (sR 2 Z (sV Z (bY Z Z iO) (sA Z Z (aa (FR (γ:=List Nat) (fun f=>[(0,.slice (some ⟨hb0,ho0,none⟩) ws.length C),(1,.int .i64 a),(2,.int .i64 m),(3,.int .i64 b),(4,.func (.func gf) #[] gL.toArray),(18,.int .i64 (((a+b) / 2):Nat)),(20,.int .i64 s2),(24,.int .i64 ((((a+b) / 2)+m-s2):Nat))]) (fun f w'=>Sep (· ∈ fp) w [mine [.slice (some ⟨hb0,ho0,none⟩) ws.length C] (gy ws s2 m (((a+b) / 2)+m-s2)) f] [] w') ?_ (fun f w18 H23=>?_))))))
     ·refine ab (sR 4 Z (gx (t:=181) Z (fun hg1=>?_) (fun hg1=>?_)))
      ·try simp only [decide_eq_true_eq,decide_eq_false_iff_not] at hg1
       refine au (wg Z Z Z) Z Z (aJ Z) (au (wg Z Z Z) Z Z (aJ Z) (au (wg Z Z Z) Z Z (aY Z Z) (sV Z (bd Z Z) (aa (aD Z (fun c12=>?_) (fun c12=>?_))))))
       ·refine an (sR 5 Z (sC func327 AU Z (gV (a:=s2) (m:=m) (b:=(((a+b) / 2)+m-s2)) (H20.mine 0 Z) (H20.nodup1 (i:=0) Z) ω ω ω ω ω ω) (fun v4 w19 r4=>?_)));obtain ⟨y1,mm1,rfl⟩:=r4;obtain ⟨fp9,H24⟩:=H20.mut 0 Z mm1
        try dsimp only[lNA,lCA,lSZ,lSS] at H24
        refine aa ?_;exact ⟨_,⟨Z,Z,Z,Z,Z,Z,Z,eqI ω,trivial⟩,H24⟩
       ·refine ax ?_;exact ⟨f,⟨Z,Z,Z,Z,Z,Z,Z,eqI ω,trivial⟩,by rw [yD ω ω ω ω]; exact H20⟩
      ·try simp only [decide_eq_true_eq,decide_eq_false_iff_not] at hg1
       refine sR 3 Z (sV Z (bi Z Z) (aa (kt Z (ax ?_))));exact ⟨f,⟨Z,Z,Z,Z,Z,Z,Z,eqI ω,trivial⟩,by rw [yD ω ω ω ω]; exact H20⟩
     ·skip
      refine FR (γ:=List RecV × List Nat) (fun (l2,f)=>[(0,.slice (some ⟨hb0,ho0,none⟩) ws.length C),(1,.int .i64 a),(2,.int .i64 m),(3,.int .i64 b),(4,.func (.func gf) #[] gL.toArray),(18,.int .i64 (((a+b) / 2):Nat)),(20,.int .i64 s2),(24,.int .i64 ((((a+b) / 2)+m-s2):Nat))]) (fun (l2,f) w'=>Sep (· ∈ fp) w [mine [.slice (some ⟨hb0,ho0,none⟩) ws.length C] l2 f] [] w'∧SortSeg (gy ws s2 m (((a+b) / 2)+m-s2)) l2 a ((a+b) / 2)) ?_ (fun (l2,f) w20 H25=>?_)
      ·refine ac ?_;have hln:=jV (l:=ws) (x:=s2) (y:=m) (z:=(((a+b) / 2)+m-s2)) ω ω ω;have hSy:SymL ws (gy ws s2 m (((a+b) / 2)+m-s2)) a s2 ((a+b) / 2) (((a+b) / 2)+m-s2) b:=yf hI hMK hG1 hG2 ω ω;obtain ⟨_,_,_,_,o1,o2,o3,o4⟩:=id hSy;refine an (sR 4 Z (gx (t:=195) Z (fun hg2=>?_) (fun hg2=>?_)))
       ·try simp only [decide_eq_true_eq,decide_eq_false_iff_not] at hg2
        refine au (wg Z Z Z) Z Z (aJ Z) (au (wg Z Z Z) Z Z (aJ Z) (au (wg Z Z Z) Z Z (aY Z Z) (sV Z (bd Z Z) (aa (aD Z (fun c13=>?_) (fun c13=>?_))))))
        ·refine an (sR 5 Z (sC func319 mf Z (IH _ _ _ _ _ _ a s2 ((a+b) / 2) _ _ _ (H23.mine 0 Z) (H23.nodup1 (i:=0) Z) ω ω ω (fun w1 e1=>gC w1 (H23.ext.step e1 fun b hb=>H23.new b (H23.inB 0 Z hb))) ω ω ω ω o1 o2 ω) (fun v5 w21 r5=>?_)));obtain ⟨y2,mm2,hs2⟩:=r5;obtain ⟨fp10,H26⟩:=H23.mut 0 Z mm2
         try dsimp only[lNA,lCA,lSZ,lSS] at H26
         refine aa ?_;exact ⟨(y2,_),⟨Z,Z,Z,Z,Z,Z,Z,Z,trivial⟩,H26,hs2⟩
        ·refine ax ?_;obtain hq:s2=((a+b) / 2):=by omega
         have ho:Ord kLt cW (seg (gy ws s2 m (((a+b) / 2)+m-s2)) a ((a+b) / 2)):=Eq.mp (congrArg (fun z=>Ord kLt cW (seg (gy ws s2 m (((a+b) / 2)+m-s2)) a z)) hq) o1;exact ⟨((gy ws s2 m (((a+b) / 2)+m-s2)),_),⟨Z,Z,Z,Z,Z,Z,Z,Z,trivial⟩,H23,lv ho⟩
       ·try simp only [decide_eq_true_eq,decide_eq_false_iff_not] at hg2
        refine sR 3 Z (sV Z (bi Z Z) (aa (kt Z (ax ?_))));obtain hq:s2=a:=by omega
        have ho:Ord kLt cW (seg (gy ws s2 m (((a+b) / 2)+m-s2)) a ((a+b) / 2)):=Eq.mp (congrArg (fun z=>Ord kLt cW (seg (gy ws s2 m (((a+b) / 2)+m-s2)) z ((a+b) / 2))) hq) o2;exact ⟨((gy ws s2 m (((a+b) / 2)+m-s2)),_),⟨Z,Z,Z,Z,Z,Z,Z,Z,trivial⟩,H23,lv ho⟩
      ·obtain ⟨H25,hs1⟩:=H25;refine ac ?_;have hln:=jV (l:=ws) (x:=s2) (y:=m) (z:=(((a+b) / 2)+m-s2)) ω ω ω;have hSy:SymL ws (gy ws s2 m (((a+b) / 2)+m-s2)) a s2 ((a+b) / 2) (((a+b) / 2)+m-s2) b:=yf hI hMK hG1 hG2 ω ω;obtain ⟨_,_,_,_,o1,o2,o3,o4⟩:=id hSy;have hl2:=hs1.1;have p2:Ord kLt cW (seg l2 (((a+b) / 2)+m-s2) b):=by rw [uw hs1 ω ω]; exact o4
       have p1:Ord kLt cW (seg l2 ((a+b) / 2) (((a+b) / 2)+m-s2)):=by rw [uw hs1 ω ω]; exact o3
       refine an (sR 4 Z (gx (t:=209) Z (fun hg3=>?_) (fun hg3=>?_)))
       ·try simp only [decide_eq_true_eq,decide_eq_false_iff_not] at hg3
        refine au (wg Z Z Z) Z Z (aJ Z) (au (wg Z Z Z) Z Z (aJ Z) (au (wg Z Z Z) Z Z (aY Z Z) (sV Z (bd Z Z) (aa (aD Z (fun c14=>?_) (fun c14=>?_))))))
        ·refine an (sR 5 Z (sC func319 mf Z (IH _ _ _ _ _ _ ((a+b) / 2) (((a+b) / 2)+m-s2) b _ _ _ (H25.mine 0 Z) (H25.nodup1 (i:=0) Z) ω ω ω (fun w1 e1=>gC w1 (H25.ext.step e1 fun b hb=>H25.new b (H25.inB 0 Z hb))) ω ω ω ω p1 p2 ω) (fun v6 w22 r6=>?_)));obtain ⟨y3,mm3,hs3⟩:=r6;obtain ⟨fp11,H27⟩:=H25.mut 0 Z mm3
         try dsimp only[lNA,lCA,lSZ,lSS] at H27
         refine aa (hN _ _ (iL results319 ?_));exact ⟨_,H27.done,tz hSy hs1 hs3 ω ω h3⟩
        ·refine ax (hN _ _ (iL results319 ?_));have hq:(((a+b) / 2)+m-s2)=b:=by omega
         have ho:Ord kLt cW (seg l2 ((a+b) / 2) b):=Eq.mp (congrArg (fun z=>Ord kLt cW (seg l2 ((a+b) / 2) z)) hq) p1;exact ⟨_,H25.done,tz hSy hs1 (lv ho) ω ω h3⟩
       ·try simp only [decide_eq_true_eq,decide_eq_false_iff_not] at hg3
        refine sR 3 Z (sV Z (bi Z Z) (aa (kt Z (ax (hN _ _ (iL results319 ?_))))));have hq:(((a+b) / 2)+m-s2)=((a+b) / 2):=by omega
        have ho:Ord kLt cW (seg l2 ((a+b) / 2) b):=Eq.mp (congrArg (fun z=>Ord kLt cW (seg l2 z b)) hq) p2;exact ⟨_,H25.done,tz hSy hs1 (lv ho) ω ω h3⟩
end Go.Wk
namespace Go.Wk
open Go.Proofs Rp Go.Proofs.Tryz
set_option maxRecDepth 10000
theorem l6 {gf:FuncId}{gL:List Value}{gF:Func}(gH:Tryz.prog.funcs[gf]? = some gF) (gB:gF.body.isNone=false) (gN:NG gF):∀ N,tN gf gL N
 | 0=>fun _ _ _ _ _ _ a m b _ _ _ _ _ _ _ _ _ h1 h2 _ _ _ _ h=>absurd (Nat.lt_trans h1 h2) ω
 | N+1=>fun _ _ _ _ _ _ _ _ _ _ _ _ o nd ha hm hb gC h1 h2 h3 hL hA hB hN=>uW o nd ha hm hb gH gB gN gC h1 h2 h3 hL hA hB hN (l6 gH gB gN N)
theorem gR {w:World}{ws:List RecV}{A:Option Addr}{n C m:Nat}{fp:List Nat}{gf:FuncId}{gL:List Value}{gF:Func}{xm:Int}(o:own true w [.slice A n C] ws fp) (nd:fp.Nodup) (hm:xm=(m:Nat)) (gH:Tryz.prog.funcs[gf]? = some gF) (gB:gF.body.isNone=false) (gN:NG gF) (gC:∀ w1,Ext (· ∈ fp) w w1→∀ (x y:Rec) (A6:Option Addr) (C6:Nat) (A7:Option Addr) (C7:Nat) (A8:Option Addr) (C8:Nat) (B6:Option Addr) (D6:Nat) (B7:Option Addr) (D7:Nat) (B8:Option Addr) (D8:Nat),Ret Tryz.prog gf (([x.val A6 C6 A7 C7 A8 C8,y.val B6 D6 B7 D7 B8 D8]:List Value)++gL).toArray w1 fun v w'=>Ext No w1 w'∧v = .int .i64 (cfR x y)) (hm2:m=ws.length) (h0:0<ws.length) (hL:ws.length≤1000000):Ret Tryz.prog 297 #[.slice A n C,.int .i64 xm,.func (.func gf) #[] gL.toArray] w fun v w'=>(∃ ws',Mut w w' fp [.slice A n C] ws'∧SortSeg ws ws' 0 ws.length):=by
 subst hm;obtain rfl:=eS o;obtain ⟨hb0,ho0,had0⟩:=eB o 0 ω;subst had0;have wL:=oL o;refine aH func297 Z ntmps297 Z (fun Q hQ hN=>?_);have H0:=Sep.begin o nd;refine ac ?_;subst hm2;refine an (sA Z Z (aa (ab (sR 3 Z (aa (ac (ay (bJ (γ:=Nat × List RecV × List Nat) (fun (a,l,f)=>[(0,.slice (some ⟨hb0,ho0,none⟩) ws.length C),(1,.int .i64 ws.length),(2,.func (.func gf) #[] gL.toArray),(6,.int .i64 20),(7,.int .i64 a),(8,.int .i64 (a+20:Nat))]) (fun (a,l,f) w'=>Sep (· ∈ fp) w [mine [.slice (some ⟨hb0,ho0,none⟩) ws.length C] l f] [] w'∧Blocks ws l 20 a) (fun (a,l,f)=>ws.length-a) (0,ws,_) ⟨Z,Z,Z,Z,Z,Z,trivial⟩ ⟨H0,FM⟩ (fun (a,l,f) w1 H1=>?_)))))))));obtain ⟨H1,hB⟩:=H1;refine ac (ab (sR 3 Z (aa (aD Z (fun c1=>?_) (fun c1=>?_)))))
 ·refine ax (ay (ac ?_));have hbl:=hB.1;have hba:=hB.2.2.2.1;refine an (sR 4 Z (sC func298 pH Z (dj (a:=a) (b:=(a+20)) (H1.mine 0 Z) (H1.nodup1 (i:=0) Z) ω ω gH gB gN (fun w1 e1=>gC w1 (H1.ext.step e1 fun b hb=>H1.new b (H1.inB 0 Z hb))) ω ω ω ω) (fun v1 w2 r1=>?_)));obtain ⟨y1,mm1,hs1⟩:=r1;obtain ⟨fp1,H2⟩:=H1.mut 0 Z mm1
  try dsimp only[lNA,lCA,lSZ,lSS] at H2
  refine aa (ab (sR 2 Z (aa (an (sR 2 Z (sV Z (aE Z Z iO) (sA Z Z (aa (⟨(a+20,_,_),⟨Z,Z,Z,Z,Z,eqI ω,trivial⟩,⟨H2,CK hB ω ω hs1⟩,θ⟩)))))))))
 ·refine aP (ac ?_);have hbl:=hB.1;have hba:=hB.2.2.2.1;refine an (sR 4 Z (sC func298 pH Z (dj (a:=a) (b:=ws.length) (H1.mine 0 Z) (H1.nodup1 (i:=0) Z) ω ω gH gB gN (fun w1 e1=>gC w1 (H1.ext.step e1 fun b hb=>H1.new b (H1.inB 0 Z hb))) ω ω ω ω) (fun v2 w3 r2=>?_)));obtain ⟨y2,mm2,hs2⟩:=r2;obtain ⟨fp2,H3⟩:=H1.mut 0 Z mm2
  try dsimp only[lNA,lCA,lSZ,lSS] at H3
  refine aa (ay (bJ (γ:=Nat × List RecV × List Nat) (fun (bs,l,f)=>[(0,.slice (some ⟨hb0,ho0,none⟩) ws.length C),(1,.int .i64 ws.length),(2,.func (.func gf) #[] gL.toArray),(6,.int .i64 bs)]) (fun (bs,l,f) w'=>Sep (· ∈ fp) w [mine [.slice (some ⟨hb0,ho0,none⟩) ws.length C] l f] [] w'∧AllB ws l bs∧0<bs) (fun (bs,l,f)=>ws.length-bs) (20,_,_) ⟨Z,Z,Z,Z,trivial⟩ ⟨H3,C3 hB ω hs2,ω⟩ (fun (bs,l,f) w4 H4=>?_)));obtain ⟨H4,hA,h0b⟩:=H4;refine ac (ac ?_);have hal:=hA.1;refine an (sR 3 Z (aa (aD Z (fun c2=>?_) (fun c2=>?_))))
  ·refine ax (ay (ab (sM Z Z (sV Z (gM Z Z iO) (sR 2 Z (aa (ac (ay (bJ (γ:=Nat × List RecV × List Nat) (fun (a,l,f)=>[(0,.slice (some ⟨hb0,ho0,none⟩) ws.length C),(1,.int .i64 ws.length),(2,.func (.func gf) #[] gL.toArray),(6,.int .i64 bs),(7,.int .i64 a),(8,.int .i64 (a+2*bs:Nat))]) (fun (a,l,f) w'=>Sep (· ∈ fp) w [mine [.slice (some ⟨hb0,ho0,none⟩) ws.length C] l f] [] w'∧TwoB ws l bs a∧0<bs∧bs<ws.length) (fun (a,l,f)=>ws.length-a) (0,_,_) ⟨Z,Z,Z,Z,Z,eqI ω,trivial⟩ ⟨H4,DV hA,h0b,ω⟩ (fun (a,l,f) w5 H5=>?_))))))))));obtain ⟨H5,hT,h0b,hbn⟩:=H5;refine ac (ac ?_);have htl:=hT.1.1;have hta:=hT.1.2.2.2.1;refine an (sR 3 Z (aa (aD Z (fun c3=>?_) (fun c3=>?_))))
   ·refine ax (ay (ac ?_));have htl:=hT.1.1;have hta:=hT.1.2.2.2.1;refine an (sR 4 Z (sV Z (aE Z Z iO) (sR 2 Z (sC func319 mf Z (l6 gH gB gN _ _ _ _ _ _ _ a (a+bs) (a+2*bs) _ _ _ (H5.mine 0 Z) (H5.nodup1 (i:=0) Z) ω ω ω (fun w1 e1=>gC w1 (H5.ext.step e1 fun b hb=>H5.new b (H5.inB 0 Z hb))) ω ω ω ω (Jm hT ω h0b) (Jk hT ω ω) (Nat.le_refl _)) (fun v3 w6 r3=>?_)))));obtain ⟨y3,mm3,hs3⟩:=r3;obtain ⟨fp3,H6⟩:=H5.mut 0 Z mm3
    try dsimp only[lNA,lCA,lSZ,lSS] at H6
    refine aa (ab (sR 2 Z (aa (an (sR 2 Z (sV Z (gM Z Z iO) (sV Z (aE Z Z iO) (sA Z Z (aa (⟨(a+2*bs,_,_),⟨Z,Z,Z,Z,Z,eqI ω,trivial⟩,⟨H6,Fd hT h0b ω (show SortSeg l _ a (a+2*bs) from hs3),h0b,hbn⟩,θ⟩))))))))))
   ·refine aP (ac (ac ?_));have htl:=hT.1.1;have hta:=hT.1.2.2.2.1;refine an (sR 2 Z (sV Z (aE Z Z iO) (sA Z Z (aa (ab (sR 3 Z (aa (aD Z (fun c4=>?_) (fun c4=>?_)))))))))
    ·have htl:=hT.1.1;have hta:=hT.1.2.2.2.1;refine an (sR 5 Z (sC func319 mf Z (l6 gH gB gN _ _ _ _ _ _ _ a (a+bs) ws.length _ _ _ (H5.mine 0 Z) (H5.nodup1 (i:=0) Z) ω ω ω (fun w1 e1=>gC w1 (H5.ext.step e1 fun b hb=>H5.new b (H5.inB 0 Z hb))) ω ω ω ω (Jm hT ω h0b) (Jk hT ω ω) (Nat.le_refl _)) (fun v4 w7 r4=>?_)));obtain ⟨y4,mm4,hs4⟩:=r4;obtain ⟨fp4,H7⟩:=H5.mut 0 Z mm4
     try dsimp only[lNA,lCA,lSZ,lSS] at H7
     refine aa (an (sM Z Z (sV Z (gM Z Z iO) (sA Z Z (aa (⟨(2*bs,_,_),⟨Z,Z,Z,eqI ω,trivial⟩,⟨H7,zu hT ω hs4,ω⟩,θ⟩))))))
    ·refine ax (an (sM Z Z (sV Z (gM Z Z iO) (sA Z Z (aa (⟨(2*bs,_,_),⟨Z,Z,Z,eqI ω,trivial⟩,⟨H5,Fc hT h0b ω,ω⟩,θ⟩))))))
  ·refine aP (hN _ _ (iL results297 ?_));exact ⟨_,H4.done,I5 hA ω h0⟩
end Go.Wk
namespace Go.Wk
open Go.Proofs Rp Go.Proofs.Tryz
set_option maxRecDepth 10000
theorem El {w:World}{A:Option Addr}{C:Nat}{gf:FuncId}{gL:List Value}  : Ret Tryz.prog 298 #[.slice A 0 C,.int .i64 (0:Nat),.int .i64 (0:Nat),.func (.func gf) #[] gL.toArray] w fun v w'=>Ext No w w'∧(True):=by
 refine aH func298 Z ntmps298 Z (fun Q hQ hN=>?_);have H0:=Sep.start (w:=w) (F:=[]) σ;refine ab (sM Z Z (sV Z (aE Z Z iO) (sA Z Z (aa (ay (dW (γ:=Unit) H0 [(0,_),(1,_),(2,_),(3,_)] ⟨Z,Z,Z,Z,trivial⟩ (fun _=>[(8,.int .i64 (1:Nat))]) (fun _=>True∧True) (fun _=>0) () ⟨Z,trivial⟩ ⟨trivial,trivial⟩ (fun _ w1 H1 ⟨_,_⟩=>?_)))))));dsimp only[lCA,lNA];refine ac (ab (sR 3 Z (aa (aD Z (fun c1=>?_) (fun c1=>?_)))))
 ·exfalso
  omega
 ·refine aP (hN _ _ (iL results298 ?_));exact ⟨H1.ext,trivial⟩
theorem z5 {w:World}{A:Option Addr}{C:Nat}{gf:FuncId}{gL:List Value}  : Ret Tryz.prog 297 #[.slice A 0 C,.int .i64 (0:Nat),.func (.func gf) #[] gL.toArray] w fun v w'=>Ext No w w'∧(True):=by
 refine aH func297 Z ntmps297 Z (fun Q hQ hN=>?_);have H0:=Sep.start (w:=w) (F:=[]) σ;refine ab (sA Z Z (aa (ab (sR 3 Z (aa (ac (ay (dW (γ:=Unit) H0 [(0,_),(1,_),(2,_),(6,_)] ⟨Z,Z,Z,Z,trivial⟩ (fun _=>[(7,.int .i64 (0:Nat)),(8,.int .i64 (20:Nat))]) (fun _=>True∧True) (fun _=>0) () ⟨Z,Z,trivial⟩ ⟨trivial,trivial⟩ (fun _ w1 H1 ⟨_,_⟩=>?_)))))))));dsimp only[lCA,lNA];refine ac (ab (sR 3 Z (aa (aD Z (fun c1=>?_) (fun c1=>?_)))))
 ·exfalso
  omega
 ·refine aP (ab (sR 4 Z (sC func298 pH Z (El) (fun v1 w2 r1=>?_))));have H2:=H1.to r1.1;refine aa (ay (dW (γ:=Unit) H2 [(0,_),(1,_),(2,_)] ⟨Z,Z,Z,trivial⟩ (fun _=>[(6,.int .i64 (20:Nat))]) (fun _=>True∧True) (fun _=>0) () ⟨Z,trivial⟩ ⟨trivial,trivial⟩ (fun _ w3 H3 ⟨_,_⟩=>?_)));dsimp only[lCA,lNA];refine ac (ab (sR 3 Z (aa (aD Z (fun c2=>?_) (fun c2=>?_)))))
  ·exfalso
   omega
  ·refine aP (hN _ _ (iL results297 ?_));exact ⟨H3.ext,trivial⟩
theorem eA {w:World}{x:Int}  : Ret Tryz.prog 255 #[.int .i64 x] w fun v w'=>Ext No w w'∧(v = .bool false):=by
 refine aH func255 Z ntmps255 Z (fun Q hQ hN=>?_);have H0:=Sep.start (w:=w) (F:=[]) σ;refine ab (sA Z Z (aa (ab (sR 4 Z (rN hQ results255 Z ?_)))));exact ⟨H0.ext,congrArg Value.bool σ⟩
theorem eX {w:World}{ws:List RecV}{A:Option Addr}{n C:Nat}{fp:List Nat}{gf:FuncId}{gL:List Value}{gF:Func}  (o:own true w [.slice A n C] ws fp) (nd:fp.Nodup)  (gH:Tryz.prog.funcs[gf]? = some gF) (gB:gF.body.isNone=false) (gN:NG gF) (gC:∀ w1,Ext (· ∈ fp) w w1→∀ (x y:Rec) (A6:Option Addr) (C6:Nat) (A7:Option Addr) (C7:Nat) (A8:Option Addr) (C8:Nat) (B6:Option Addr) (D6:Nat) (B7:Option Addr) (D7:Nat) (B8:Option Addr) (D8:Nat),Ret Tryz.prog gf (([x.val A6 C6 A7 C7 A8 C8,y.val B6 D6 B7 D7 B8 D8]:List Value)++gL).toArray w1 fun v w'=>Ext No w1 w'∧v = .int .i64 (cfR x y)) (h0:0<ws.length) (hL:ws.length≤1000000):Ret Tryz.prog 250 #[.slice A n C,.func (.func gf) #[] gL.toArray] w fun v w'=>(∃ ws',Mut w w' fp [.slice A n C] ws'∧Stable kLt cW ws ws'):=by
 obtain rfl:=eS o;obtain ⟨hb0,ho0,had0⟩:=eB o 0 ω;subst had0;have wL:=oL o;refine aH func250 Z ntmps250 Z (fun Q hQ hN=>?_);have H0:=Sep.begin o nd;refine an (sR 2 Z (sV Z (aS bB Z) (sM Z Z (sC func297 ug Z (gR (m:=ws.length) (H0.mine 0 Z) (H0.nodup1 (i:=0) Z) Z gH gB gN (fun w1 e1=>gC w1 (H0.ext.step e1 fun b hb=>H0.new b (H0.inB 0 Z hb))) Z h0 hL) (fun v1 w1 r1=>?_)))));obtain ⟨y1,mm1,hs1⟩:=r1;obtain ⟨fp1,H1⟩:=H0.mut 0 Z mm1
 try dsimp only[lNA,lCA,lSZ,lSS] at H1
 refine aa (hN _ _ (iL results250 ?_));exact ⟨_,H1.done,GX hs1⟩
theorem Et {w:World}{A:Option Addr}{C:Nat}{gf:FuncId}{gL:List Value}  : Ret Tryz.prog 250 #[.slice A 0 C,.func (.func gf) #[] gL.toArray] w fun v w'=>Ext No w w'∧(True):=by
 refine aH func250 Z ntmps250 Z (fun Q hQ hN=>?_);have H0:=Sep.start (w:=w) (F:=[]) σ;refine an (sR 2 Z (sV Z (aS bB Z) (sM Z Z (sC func297 ug Z (z5) (fun v1 w1 r1=>?_)))));have H1:=H0.to r1.1;refine aa (hN _ _ (iL results250 ?_));exact ⟨H1.ext,trivial⟩
theorem Fw {w:World}{ws:List RecV}{A:Option Addr}{n C:Nat}{fp:List Nat}{gf:FuncId}{gL:List Value}{gF:Func}  (o:own true w [.slice A n C] ws fp) (nd:fp.Nodup)  (gH:Tryz.prog.funcs[gf]? = some gF) (gB:gF.body.isNone=false) (gN:NG gF) (gC:∀ w1,Ext (· ∈ fp) w w1→∀ (x y:Rec) (A6:Option Addr) (C6:Nat) (A7:Option Addr) (C7:Nat) (A8:Option Addr) (C8:Nat) (B6:Option Addr) (D6:Nat) (B7:Option Addr) (D7:Nat) (B8:Option Addr) (D8:Nat),Ret Tryz.prog gf (([x.val A6 C6 A7 C7 A8 C8,y.val B6 D6 B7 D7 B8 D8]:List Value)++gL).toArray w1 fun v w'=>Ext No w1 w'∧v = .int .i64 (cfR x y)) (hL:ws.length≤1000000):Ret Tryz.prog 250 #[.slice A n C,.func (.func gf) #[] gL.toArray] w fun v w'=>∃ ws',Mut w w' fp [.slice A n C] ws'∧Stable kLt cW ws ws':=by
 rcases Nat.eq_zero_or_pos ws.length with e | e
 ·obtain rfl:=List.eq_nil_of_length_eq_zero e;obtain rfl:=eS o;exact Ret.mono Et fun v w' h=>⟨[],.none h.1 o nd,Ac⟩
 ·exact eX o nd gH gB gN gC e hL
theorem fo {w:World}{x y:Int}  : Ret Tryz.prog 189 #[.int .i64 x,.int .i64 y] w fun v w'=>Ext No w w'∧(v = .int .i64 (jE x y)):=by
 refine aH func189 Z ntmps189 Z (fun Q hQ hN=>?_);have H0:=Sep.start (w:=w) (F:=[]) σ;refine ab (sA Z Z (aa (ab (sM Z Z (sE func255 mo Z eA H0 (fun w1 e1 H1=>sA Z Z (aa (ab (sM Z Z (sE func255 mo Z eA H1 (fun w2 e2 H2=>sA Z Z (aa (ac (ab (sM Z Z (aa (cK Z (fun c1=>?_) (fun c1=>?_))))))))))))))))))
 ·refine ac (ab (sM Z Z (aa (cK Z (fun c2=>?_) (fun c2=>?_)))))
  ·refine ab (rA hQ results189 Z ?_);exact ⟨H2.ext,congrArg (Value.int .i64) (by unfold jE; split<;>(try split)<;>simp_all<;>omega)⟩
  ·refine ax (ab (rA hQ results189 Z ?_));exact ⟨H2.ext,congrArg (Value.int .i64) (by unfold jE; split<;>(try split)<;>simp_all<;>omega)⟩
 ·refine ax (ac (ab (sM Z Z (aa (cK Z (fun c3=>?_) (fun c3=>?_))))))
  ·refine ab (rA hQ results189 Z ?_);exact ⟨H2.ext,congrArg (Value.int .i64) (by unfold jE; split<;>(try split)<;>simp_all<;>omega)⟩
  ·refine ax (ac (ab (sR 3 Z (aa (aD Z (fun c4=>?_) (fun c4=>?_))))))
   ·refine ab (rA hQ results189 Z ?_);exact ⟨H2.ext,congrArg (Value.int .i64) (by unfold jE; split<;>(try split)<;>simp_all<;>omega)⟩
   ·refine ax (ac (ab (sR 3 Z (aa (aD Z (fun c5=>?_) (fun c5=>?_))))))
    ·refine ab (rA hQ results189 Z ?_);exact ⟨H2.ext,congrArg (Value.int .i64) (by unfold jE; split<;>(try split)<;>simp_all<;>omega)⟩
    ·refine ax (ab (rA hQ results189 Z ?_));exact ⟨H2.ext,congrArg (Value.int .i64) (by unfold jE; split<;>(try split)<;>simp_all<;>omega)⟩
theorem se {w:World}{xs:List Int}{xsA:Option Addr}{xsC:Nat}(xsS:Sees w [.slice xsA xs.length xsC] xs):Ret Tryz.prog 252 #[.slice xsA xs.length xsC] w fun v w'=>Ext No w w'∧(v = .int .i64 (orI xs)):=by
 have xsL:=sL xsS;obtain ⟨xsF,xsO⟩:=xsS;refine aH func252 Z ntmps252 Z (fun Q hQ hN=>?_);have H0:=Sep.start (ae xsO aA);refine ab (sA Z Z (aa (ab (sA Z Z (aa (ac (ab (sM Z Z (sV Z (aS zFS Z) (sM Z Z (aa (ay (dW (γ:=Nat) H0 [(3,_),(6,_),(7,_)] ⟨Z,Z,Z,trivial⟩ (fun k=>[(8,.int .i64 k)]) (fun k=>k≤xs.length∧(∀ i,i<k→xs.getD i 0=0)) (fun k=>xs.length-k) 0 ⟨Z,trivial⟩ ⟨ω,fun i hi=>by omega⟩ (fun k w1 H1 ⟨hk,he⟩=>?_))))))))))))));dsimp only[lCA,lNA];refine ab (sV Z (aY Z Z) (aa (ac (aD Z (fun c1=>?_) (fun c1=>?_)))))
 ·refine ax (ac (ay (ac ?_)));obtain ⟨eb1,eo1,ee1,ec1⟩:=dc (H1.seen 0 Z) k ω;have eI1:=dJ (H1.seen 0 Z) k ω;refine an (sV Z (aB zFS ts3 Z Z ee1 k ω ω) (sV Z (aj tu3 Z Z ec1) (sA Z Z (aa (ab (sR 3 Z (aa (aD Z (fun c2=>?_) (fun c2=>?_)))))))))
  ·refine ab (sR 2 Z (rN hQ results252 Z ?_));exact ⟨H1.ext,congrArg (Value.int .i64) (FB (k:=k) ω he c2).symm⟩
  ·refine ax (an (sV Z (aE Z Z iO) (sM Z Z (aa (⟨k+1,⟨Z,Z,Z,Z,trivial⟩,⟨H1,ω,fun i hi=>?_⟩,θ⟩)))))
   by_cases e:i=k
   ·subst e
    omega
   ·exact he i ω
 ·refine aP (ab (sR 2 Z (rN hQ results252 Z ?_)));exact ⟨H1.ext,congrArg (Value.int .i64) (Jp (fun i hi=>he i ω)).symm⟩
theorem kC {w:World}{x y:Rec}{xA6 xA7 xA8 yA6 yA7 yA8:Option Addr}{xC6 xC7 xC8 yC6 yC7 yC8:Nat}  : Ret Tryz.prog 251 #[x.val xA6 xC6 xA7 xC7 xA8 xC8,y.val yA6 yC6 yA7 yC7 yA8 yC8] w fun v w'=>Ext No w w'∧(v = .int .i64 (cfR x y)):=by
 have b1:=xw (a:=x.Seq) (b:=y.Seq);have b2:=xw (a:=x.Kind) (b:=y.Kind);have b3:=xw (a:=x.Group) (b:=y.Group);refine aH func251 Z ntmps251 Z (fun Q hQ hN=>?_);have H0:=Sep.start (w:=w) (F:=[]) σ;refine ab (bm ah Z Z H0 (fun b1 w1 e1 g1 H1=>bm ah Z Z H1 (fun b2 w2 e2 g2 H2=>sA Z Z (aa (ac (cd (S:=Ext No _) (oQ [1,3,5,7,11,13,15,17,21,23,25,27,8,18,28,30,32,34]) κ κ κ Z (fun _=>Ext.refl.drawn _) (fun q1=>?_)))))));have H3:=H2.drawn q1;refine dV Z Z (fun zw hx=>ag aF Z ts2 Z Z) (dV Z Z (fun zw hx=>aj tu2 Z Z (am (hx.heap (H3.box 0 Z)) Z)) (dV Z Z (fun zw hx=>ag aF Z ts2 Z Z) (dV Z Z (fun zw hx=>aj tu2 Z Z (am (hx.heap (H3.box 1 Z)) Z)) (dV Z Z (fun zw hx=>ag aF Z ts2 Z Z) (dV Z Z (fun zw hx=>aj tu2 Z Z (am (hx.heap (H3.box 0 Z)) Z)) (dV Z Z (fun zw hx=>ag aF Z ts2 Z Z) (dV Z Z (fun zw hx=>aj tu2 Z Z (am (hx.heap (H3.box 1 Z)) Z)) (dV Z Z (fun zw hx=>ag aF Z ts2 Z Z) (dV Z Z (fun zw hx=>aj tu2 Z Z (am (hx.heap (H3.box 0 Z)) Z)) (dV Z Z (fun zw hx=>ag aF Z ts2 Z Z) (dV Z Z (fun zw hx=>aj tu2 Z Z (am (hx.heap (H3.box 1 Z)) Z)) (dC func189 oX Z fo (fun v1 w3 r1=>?_)))))))))))));obtain ⟨e3,rfl⟩:=r1;have H4:=H3.to e3;refine dC func189 oX Z fo (fun v2 w4 r2=>?_);obtain ⟨e4,rfl⟩:=r2;have H5:=H4.to e4;refine dC func189 oX Z fo (fun v3 w5 r3=>?_);obtain ⟨e5,rfl⟩:=r3;have H6:=H5.to e5;refine JE ([jE x.Seq y.Seq,jE x.Kind y.Kind,jE x.Group y.Group]) Z ah Z zFS FW Z Z (by intro x hx; unfold I64ok; simp only [List.mem_cons,List.not_mem_nil,or_false] at hx; omega) σ σ H6 (fun _ h e=>h.trans e.no) (fun b3 w6 e6 g3 H7=>dC func252 Bc Z (se (H7.msees 2 Z)) (fun v4 w7 r4=>?_));obtain ⟨e7,rfl⟩:=r4;have H8:=H7.to e7;refine aW Z ah Z Z (bt Z) (bb (rT hQ results251 Z ?_));exact ⟨H8.ext,congrArg (Value.int .i64) Ky⟩
theorem sc {w:World}{x r:Rec}{xA6 xA7 xA8 rA6 rA7 rA8:Option Addr}{xC6 xC7 xC8 rb rC6 rC7 rC8:Nat}(xK:x.Ok) (xS6:Sees w [.slice xA6 x.Rows.length xC6] x.Rows) (xS7:Sees w [.slice xA7 x.Data.length xC7] x.Data) (xS8:Sees w [.slice xA8 x.Delta.length xC8] x.Delta) (rB:w.heap[rb]? = some (.cells [.int .i64 r.Kind,.int .i64 r.Seq,.string r.Name,.int .i64 r.Length,.int .i64 r.Group,.int .i64 r.Row,.slice rA6 r.Rows.length rC6,.slice rA7 r.Data.length rC7,.slice rA8 r.Delta.length rC8].toArray 59)) (rK:r.Ok) (rS6:Sees w [.slice rA6 r.Rows.length rC6] r.Rows) (rS7:Sees w [.slice rA7 r.Data.length rC7] r.Data) (rS8:Sees w [.slice rA8 r.Delta.length rC8] r.Delta):Ret Tryz.prog 296 #[x.val xA6 xC6 xA7 xC7 xA8 xC8,.pointer (some ⟨rb,0,none⟩)] w fun v w'=>Ext No w w'∧(v = .bool (decide (x=r))):=by
 have xK2:=xK;unfold Rec.Ok at xK2
 try unfold I64ok at xK2
 try unfold maxLen at xK2
 have xN2:x.Name.size≤maxLen:=by unfold maxLen; omega
 have xL6:=sL xS6;obtain ⟨xF6,xO6⟩:=xS6;have xL7:=sL xS7;obtain ⟨xF7,xO7⟩:=xS7;have xL8:=sL xS8;obtain ⟨xF8,xO8⟩:=xS8;have rK2:=rK;unfold Rec.Ok at rK2
 try unfold I64ok at rK2
 try unfold maxLen at rK2
 have rN2:r.Name.size≤maxLen:=by unfold maxLen; omega
 have rL6:=sL rS6;obtain ⟨rF6,rO6⟩:=rS6;have rL7:=sL rS7;obtain ⟨rF7,rO7⟩:=rS7;have rL8:=sL rS8;obtain ⟨rF8,rO8⟩:=rS8;refine aH func296 Z ntmps296 Z (fun Q hQ hN=>?_);have H0:=Sep.start (ae xO6 (ae xO7 (ae xO8 (cQ rB (ae rO6 (ae rO7 (ae rO8 aA)))))));refine ab (bm ah Z Z H0 (fun b1 w1 e1 g1 H1=>sA Z Z (aa (ab (sV Z (ak aF Z aO Z Z (At.whole (H1.box 0 Z))) (sV Z (ak aF Z aO Z Z (At.whole (H1.fbox 3 Z))) (sE func143 s8 Z (kI η (H1.sees 0 Z) (H1.sees 1 Z) (H1.sees 2 Z) η (H1.sees 4 Z) (H1.sees 5 Z) (H1.sees 6 Z)) H1 (fun w2 e2 H2=>rA hQ results296 Z ?_))))))));exact ⟨H2.ext,Z⟩
theorem uZ {w:World}{xs:List Rec}{xsA rA6 rA7 rA8:Option Addr}{xsC rC6 rC7 rC8:Nat}{r:Rec}(xsS:Sees w [.slice xsA xs.length xsC] xs) (rK:r.Ok) (rS6:Sees w [.slice rA6 r.Rows.length rC6] r.Rows) (rS7:Sees w [.slice rA7 r.Data.length rC7] r.Data) (rS8:Sees w [.slice rA8 r.Delta.length rC8] r.Delta):Ret Tryz.prog 249 #[.slice xsA xs.length xsC,r.val rA6 rC6 rA7 rC7 rA8 rC8] w fun v w'=>Ext No w w'∧(v = .bool (decide (r∈xs))):=by
 have xsL:=sL xsS;obtain ⟨xsF,xsO⟩:=xsS;have rK2:=rK;unfold Rec.Ok at rK2
 try unfold I64ok at rK2
 try unfold maxLen at rK2
 have rN2:r.Name.size≤maxLen:=by unfold maxLen; omega
 have rL6:=sL rS6;obtain ⟨rF6,rO6⟩:=rS6;have rL7:=sL rS7;obtain ⟨rF7,rO7⟩:=rS7;have rL8:=sL rS8;obtain ⟨rF8,rO8⟩:=rS8;refine aH func249 Z ntmps249 Z (fun Q hQ hN=>?_);have H0:=Sep.start (ae xsO (ae rO6 (ae rO7 (ae rO8 aA))));refine ab (bm ah Z Z H0 (fun b1 w1 e1 g1 H1=>sA Z Z (aa (ab (sM Z Z (sV Z (jh Z) (sE func267 tZ Z (iM (H1.sees 0 Z) (p:=(fun x=>decide (x=r))) func296 Z AP (fun w1 e1 i0 hi0 _ _ _ _ _ _ K0 o0_6 o0_7 o0_8=>sc K0 o0_6 o0_7 o0_8 ((H1.to e1).box 0 Z) η ((H1.to e1).sees 1 Z) ((H1.to e1).sees 2 Z) ((H1.to e1).sees 3 Z))) H1 (fun w2 e2 H2=>rA hQ results249 Z ?_))))))));exact ⟨H2.ext,congrArg Value.bool JP⟩
theorem gZ {w:World}{zb zC9 zC10 zC11:Nat}{z:Wld}{zA9 zA10 zA11:Option Addr}{zF9 zF10 zF11:List Nat}(zB:w.heap[zb]? = some (.cells [.int .i64 z.Shape.Groups,.int .i64 z.Shape.Column,.int .i64 z.Shape.Data,.int .i64 z.Shape.Spare,.int .i64 z.Shape.Rows,.int .i64 z.Shape.Cap,.int .i64 z.Shape.Batch,.int .i64 z.Shape.Queue,.int .i64 z.Shape.Stage,.slice zA9 z.Groups.length zC9,.slice zA10 z.On.length zC10,.slice zA11 z.Tapes.length zC11,.int .i64 z.Writes,.int .i64 z.Stop,.bool z.Down].toArray 31)) (zK:z.Ok) (zO9:own false w [.slice zA9 z.Groups.length zC9] z.Groups zF9) (zO10:own false w [.slice zA10 z.On.length zC10] z.On zF10) (zO11:own false w [.slice zA11 z.Tapes.length zC11] z.Tapes zF11) (hT:z.Tapes.length=2) (hrl:∀ k,(z.Tapes.getD k default).Recs.length≤200000):Ret Tryz.prog 182 #[.pointer (some ⟨zb,0,none⟩)] w fun v w'=>Ext No w w'∧(∃ vs,Res w w' [v] vs∧RdV w' zF11 vs∧vs.map RecV.r=fB z):=by
 have zK2:=zK;unfold Wld.Ok Shape.Ok at zK2
 try unfold I64ok at zK2
 try unfold maxLen at zK2
 have zL9:=oL zO9;have zL10:=oL zO10;have zL11:=oL zO11;refine aH func182 Z ntmps182 Z (fun Q hQ hN=>?_);have H0:=Sep.start (cQ zB (ae zO9 (ae zO10 (ae zO11 aA))));refine ab (sA Z Z (aa (ab (eO (α:=RecV) ah Z bB ex H0 (fun b1 w1 e1 g1 H1=>sA Z Z (aa (ac (ab (sR 2 Z (sF ba Z p9 (sLd jq (H1.fbox 0 Z) Z (sV Z (aS jq Z) (sM Z Z (aa (ay (jS (α:=RecV) (γ:=Nat × List RecV) (fun (k,vs)=>vs) (0,[]) H1 0 Z 3 Z [(2,_),(12,_),(13,_)] ⟨Z,Z,Z,trivial⟩ (fun (k,vs)=>[(14,.int .i64 k)]) (fun (k,vs)=>k≤z.Tapes.length∧RdV w zF11 vs∧vs.map RecV.r=gW z k 0) (fun (k,vs)=>z.Tapes.length-k) ⟨Z,trivial⟩ ⟨by (try dsimp only); omega,RdV.nil,by (try dsimp only); rw [Bw]; rfl⟩ (fun (k,vs) vA1 fA1 w2 H2 ⟨hk,hR,hM⟩=>?_)))))))))))))))));dsimp only[lCA,lNA,lSZ,lSS] at H2 ⊢;refine ab (sV Z (aY Z Z) (aa (ac (aD Z (fun c1=>?_) (fun c1=>?_)))))
 ·refine ax (ac (ay (ac ?_)));obtain ⟨eb1,eo1,es1,ef1,ee1,ec1,eO1,eH1,em1⟩:=dY (H2.seen 3 Z) k ω;obtain ⟨ea1,ek1,eg1,rfl,eq1,eK1,eo2⟩:=kv eO1;have eP1:=H2.look1 3 Z eo2 (fun b hb=>eH1 b (by rw [eq1]; simp [hb]));have eL1:=oL eo2;refine an (sV Z (aB jq kQ Z Z ee1 k ω ω) (sV Z (ak ib Z kQ Z Z ec1) (bH ah Z zeroValue121 eP1 (fun b2 w3 e2 g2 H3=>aG ah kQ Z Z Z Z H3 1 Z Z (fun w4 e3 H4=>?_)))));dsimp only[lNA,lCA,lSZ,lSS,aI] at H4;refine aa (ab (sF ib Z kw (sLd bB (H4.box 1 Z) Z (sV Z (aS bB Z) (sM Z Z (aa (ay (jS (α:=RecV) (γ:=Nat × List RecV) (fun (j,vs2)=>vs2) (0,vs) H4 0 Z 3 Z [(2,_),(12,_),(13,_),(14,_),(19,_),(20,_)] ⟨Z,Z,Z,Z,Z,Z,trivial⟩ (fun (j,vs2)=>[(21,.int .i64 j)]) (fun (j,vs2)=>j≤(z.Tapes.getD k default).Recs.length∧RdV w zF11 vs2∧vs2.map RecV.r=gW z k j) (fun (j,vs2)=>(z.Tapes.getD k default).Recs.length-j) ⟨Z,trivial⟩ ⟨by (try dsimp only); omega,hR,hM⟩ (fun (j,vs2) vA2 fA2 w5 H5 ⟨hj,hR2,hM2⟩=>?_)))))))));dsimp only[lCA,lNA,lSZ,lSS] at H5 ⊢;refine ab (sV Z (aY Z Z) (aa (ac (aD Z (fun c2=>?_) (fun c2=>?_)))))
  ·refine ax (ac (ay (ac ?_)));obtain ⟨eb2,eo3,es2,ef2,ee2,ec2,eO2,eH2,em2⟩:=dY (H5.seen 4 Z) j ω;obtain ⟨ea2,ek2,ea3,ek3,ea4,ek4,eg2,eg3,eg4,rfl,eq2,eK2,eo4,eo5,eo6⟩:=nX eO2;have eK2U:=eK2;unfold Rec.Ok at eK2U
   try unfold I64ok at eK2U
   try unfold maxLen at eK2U
   have eP2:=H5.look1 4 Z eo4 (fun b hb=>eH2 b (by rw [eq2]; simp [hb]));have eL2:=oL eo4;have eP3:=eP2.look1 4 Z eo5 (fun b hb=>eH2 b (by rw [eq2]; simp [hb]));have eL3:=oL eo5;have eP4:=eP3.look1 4 Z eo6 (fun b hb=>eH2 b (by rw [eq2]; simp [hb]));have eL4:=oL eo6;refine an (sV Z (aB bB aO Z Z ee2 j ω ω) (sV Z (ak aF Z aO Z Z ec2) (bH ah Z zeroValue59 eP4 (fun b3 w6 e4 g3 H6=>aG ah aO Z Z Z Z H6 2 Z Z (fun w7 e5 H7=>?_)))));dsimp only[lNA,lCA,lSZ,lSS,aI] at H7;refine aa (ac ?_);obtain ⟨oa,ok2,oq⟩:=ao (H7.mine 0 Z);cases oq;have hE:=(InF.back (ft:=zF11) (cs:=((RecV.mk ((z.Tapes.getD k default).Recs.getD j default) ea2 ek2 ea3 ek3 ea4 ek4)).cs) (x:=((z.Tapes.getD k default).Recs.getD j default)) ⟨_,eO2,(fun b hb=>(fun b hb=>eH1 b (by rw [eq1]; simp [hb])) b (eH2 b hb))⟩ eP4.ext (Rp.lt zO11));have hvl:vs2.length=(gW z k j).length:=by rw [← hM2,List.length_map]
   have hcb:=sS hT hrl (k:=k) (j:=j) ω (by have:=hrl k; omega);refine an (sM Z Z (sV Z (ak aF Z aO Z Z (At.whole (H7.box 2 Z))) (sE func249 Ap Z (by have lc:=uZ (xs:=vs2.map RecV.r) (r:=((z.Tapes.getD k default).Recs.getD j default)) (by rw [List.length_map]; exact (hR2.to H7.ext).list (H7.mine 0 Z)) η (H7.sees 5 Z) (H7.sees 6 Z) (H7.sees 7 Z); rw [List.length_map] at lc; exact lc) H7 (fun w8 e6 H8=>sV Z (bg Z) (aa (cK Z (fun c3=>?_) (fun c3=>?_)))))))
   ·refine an (sM Z Z (sV Z (ak aF Z aO Z Z (At.whole (H8.box 2 Z))) (dU ah Z bB ex Z Z Z Z H8 (fun b4 w9 e7 g4 H9=>ir ah Z bB ex Z Z Z H9 0 3 Z Z (Gz (v:=(RecV.mk ((z.Tapes.getD k default).Recs.getD j default) ea2 ek2 ea3 ek3 ea4 ek4)) η) (by unfold maxLen; omega) ω (fun v2 w10 fp1 H10=>sA Z Z (aa (an (sV Z (aE Z Z iO) (sM Z Z (aa ?_))))))))));exact ⟨((j+1,vs2++[(RecV.mk ((z.Tapes.getD k default).Recs.getD j default) ea2 ek2 ea3 ek3 ea4 ek4)]),_,_),⟨Z,Z,Z,Z,Z,Z,Z,Z,trivial⟩,⟨((H10.ftake 5).dtake 2),by (try dsimp only); omega,hR2.snoc hE,by (try dsimp only); rw [List.map_append,hM2,uK ω,CY (by rw [← hM2]; simpa using c3)]; rfl⟩,θ⟩
   ·refine ax (an (sV Z (aE Z Z iO) (sM Z Z (aa ?_))));exact ⟨((j+1,vs2),_,_),⟨Z,Z,Z,Z,Z,Z,Z,Z,trivial⟩,⟨((H8.ftake 5).dtake 2),by (try dsimp only); omega,hR2,by (try dsimp only); rw [hM2,uK ω,wR (by rw [← hM2]; simpa using c3)]⟩,θ⟩
  ·refine aP (an (sV Z (aE Z Z iO) (sM Z Z (aa ?_))));obtain rfl:j=(z.Tapes.getD k default).Recs.length:=by omega
   exact ⟨((k+1,vs2),_,_),⟨Z,Z,Z,Z,Z,trivial⟩,⟨((H5.ftake 4).dtake 1),by (try dsimp only); omega,hR2,by (try dsimp only); rw [hM2,Bh ω]⟩,θ⟩
 ·refine aP (ac ?_);obtain rfl:k=z.Tapes.length:=by omega
  have hvl:vs.length=(gW z z.Tapes.length 0).length:=by rw [← hM,List.length_map]
  have hcb:=sS hT hrl (k:=z.Tapes.length) (j:=0) ω ω;refine an (sM Z Z ?_);obtain ⟨oa,ok2,oq⟩:=ao (H2.mine 0 Z);cases oq;refine sC func250 Bj Z (Fw (ws:=vs) (gL:=[]) (H2.mine 0 Z) (H2.nodup1 (i:=0) Z) func251 Z Aj (fun w1 e1 x y a6 c6 a7 c7 a8 c8 b6 d6 b7 d7 b8 d8=>kC) ω) (fun v3 w11 r2=>?_);obtain ⟨us,mm1,hS⟩:=r2;obtain ⟨fp2,H11⟩:=H2.mut 0 Z mm1
  try dsimp only[lNA,lCA,lSZ,lSS] at H11
  refine aa (ab (sR 2 Z (rN hQ results182 Z ?_)));exact ⟨H11.ext,us,H11.out 0 Z,(hR.stable hS).to H11.ext,IZ hM hS⟩
end Go.Wk
namespace Go.Wk
open Go.Proofs Rp Go.Proofs.Tryz
set_option maxRecDepth 10000
theorem lI {w:World}{x r:Rec}{xA6 xA7 xA8 rA6 rA7 rA8:Option Addr}{xC6 xC7 xC8 rb rC6 rC7 rC8:Nat}(xK:x.Ok) (xS6:Sees w [.slice xA6 x.Rows.length xC6] x.Rows) (xS7:Sees w [.slice xA7 x.Data.length xC7] x.Data) (xS8:Sees w [.slice xA8 x.Delta.length xC8] x.Delta) (rB:w.heap[rb]? = some (.cells [.int .i64 r.Kind,.int .i64 r.Seq,.string r.Name,.int .i64 r.Length,.int .i64 r.Group,.int .i64 r.Row,.slice rA6 r.Rows.length rC6,.slice rA7 r.Data.length rC7,.slice rA8 r.Delta.length rC8].toArray 59)) (rK:r.Ok) (rS6:Sees w [.slice rA6 r.Rows.length rC6] r.Rows) (rS7:Sees w [.slice rA7 r.Data.length rC7] r.Data) (rS8:Sees w [.slice rA8 r.Delta.length rC8] r.Delta):Ret Tryz.prog 271 #[x.val xA6 xC6 xA7 xC7 xA8 xC8,.pointer (some ⟨rb,0,none⟩)] w fun v w'=>Ext No w w'∧(v = .bool (spS r x)):=by
 have xK2:=xK;unfold Rec.Ok at xK2
 try unfold I64ok at xK2
 try unfold maxLen at xK2
 have xN2:x.Name.size≤maxLen:=by unfold maxLen; omega
 have xL6:=sL xS6;obtain ⟨xF6,xO6⟩:=xS6;have xL7:=sL xS7;obtain ⟨xF7,xO7⟩:=xS7;have xL8:=sL xS8;obtain ⟨xF8,xO8⟩:=xS8;have rK2:=rK;unfold Rec.Ok at rK2
 try unfold I64ok at rK2
 try unfold maxLen at rK2
 have rN2:r.Name.size≤maxLen:=by unfold maxLen; omega
 have rL6:=sL rS6;obtain ⟨rF6,rO6⟩:=rS6;have rL7:=sL rS7;obtain ⟨rF7,rO7⟩:=rS7;have rL8:=sL rS8;obtain ⟨rF8,rO8⟩:=rS8;refine aH func271 Z ntmps271 Z (fun Q hQ hN=>?_);have H0:=Sep.start (ae xO6 (ae xO7 (ae xO8 (cQ rB (ae rO6 (ae rO7 (ae rO8 aA)))))));refine ab (bm ah Z Z H0 (fun b1 w1 e1 g1 H1=>sA Z Z (aa (ab (sF aF Z ts2 (sLd tu2 (H1.box 0 Z) Z (sR 2 Z (bU 5 (j:=3) (want:=true) (t:=12) Z Z Z Z (fun hg1 kk1=>au (wgE Z Z Z hg1) Z Z (ag aF Z ts2 Z Z) (au (wgE Z Z Z hg1) Z Z (aj tu2 Z Z (am (H1.box 0 Z) Z)) (au (wgE Z Z Z hg1) Z Z (ag aF Z ts2 Z Z) (au (wgE Z Z Z hg1) Z Z (aj tu2 Z Z (am (H1.fbox 3 Z) Z)) (au (wgE Z Z Z hg1) Z Z (cX Z Z) (kk1 _ _ (kx Z (kx Z (kx Z (kx Z (kx Z k0))))) Z Ext.refl)))))) (fun w2 e2=>?_)))))))));have H2:=H1.to e2;refine sV Z (bR Z Z) (sM Z Z (bU 24 (j:=10) (want:=false) (t:=38) Z Z Z Z (fun hg2 kk2=>au (wgE Z Z Z hg2) Z Z (ag aF Z ts2 Z Z) (au (wgE Z Z Z hg2) Z Z (aj tu2 Z Z (am (H2.box 0 Z) Z)) (au (wgE Z Z Z hg2) Z Z (cX Z Z) (au (wgE Z Z Z hg2) Z Z (aJ Z) (bU 5 (j:=14) (want:=true) (t:=23) Z Z Z Z (fun hg3 kk3=>au (wgE Z Z Z hg3) Z Z (ag aF Z ts2 Z Z) (au (wgE Z Z Z hg3) Z Z (aj tu2 Z Z (am (H2.box 0 Z) Z)) (au (wgE Z Z Z hg3) Z Z (ag aF Z ts2 Z Z) (au (wgE Z Z Z hg3) Z Z (aj tu2 Z Z (am (H2.fbox 3 Z) Z)) (au (wgE Z Z Z hg3) Z Z (cX Z Z) (kk3 _ _ (kx Z (kx Z (kx Z (kx Z (kx Z k0))))) Z Ext.refl)))))) (fun w4 e4=>au (wgE Z Z Z hg2) Z Z (bR Z Z) (au (wgE Z Z Z hg2) Z Z (aJ Z) (bU 5 (j:=21) (want:=true) (t:=30) Z Z Z Z (fun hg4 kk4=>au (wgE Z Z Z hg4) Z Z (ag aF Z ts2 Z Z) (au (wgE Z Z Z hg4) Z Z (aj tu2 Z Z (am ((H2.to e4).box 0 Z) Z)) (au (wgE Z Z Z hg4) Z Z (ag aF Z ts2 Z Z) (au (wgE Z Z Z hg4) Z Z (aj tu2 Z Z (am ((H2.to e4).fbox 3 Z) Z)) (au (wgE Z Z Z hg4) Z Z (cX Z Z) (kk4 _ _ (kx Z (kx Z (kx Z (kx Z (kx Z k0))))) Z Ext.refl)))))) (fun w5 e5=>au (wgE Z Z Z hg2) Z Z (bR Z Z) (au (wgE Z Z Z hg2) Z Z (aJ Z) (bU 5 (j:=28) (want:=true) (t:=37) Z Z Z Z (fun hg5 kk5=>au (wgE Z Z Z hg5) Z Z (ag aF Z ts2 Z Z) (au (wgE Z Z Z hg5) Z Z (aj tu2 Z Z (am (((H2.to e4).to e5).box 0 Z) Z)) (au (wgE Z Z Z hg5) Z Z (ag aF Z ts2 Z Z) (au (wgE Z Z Z hg5) Z Z (aj tu2 Z Z (am (((H2.to e4).to e5).fbox 3 Z) Z)) (au (wgE Z Z Z hg5) Z Z (mY Z Z) (kk5 _ _ (kx Z (kx Z (kx Z (kx Z (kx Z k0))))) Z Ext.refl)))))) (fun w6 e6=>au (wgE Z Z Z hg2) Z Z (bR Z Z) (kk2 _ _ (kx Z (kx Z (kx Z (kx Z (kx Z (kx Z (kx Z (kx Z (kx Z (kx Z (kx Z (kx Z k0)))))))))))) Z (((Ext.refl.trans e4).trans e5).trans e6)))))))))))))) (fun w3 e3=>?_)));have H6:=H2.to e3;refine sV Z (dO Z Z) (rA hQ results271 Z ?_);exact ⟨H6.ext,congrArg Value.bool (by unfold spS; simp only [Bool.and_assoc])⟩
theorem mH {w:World}{zp xsA:Option Addr}{xs:List Rec}{xsC a:Nat}(xsS:Sees w [.slice xsA xs.length xsC] xs) (ha:a<xs.length) (hk4:(xs.getD a default).Kind=4):Ret Tryz.prog 221 #[.pointer zp,.slice xsA xs.length xsC,.int .i64 a] w fun v w'=>Ext No w w'∧(v = .bool (xs.any (spS (xs.getD a default)))):=by
 have xsL:=sL xsS;obtain ⟨xsF,xsO⟩:=xsS;refine aH func221 Z ntmps221 Z (fun Q hQ hN=>?_);have H0:=Sep.start (ae xsO aA);refine ab (sA Z Z (aa (ac ?_)));obtain ⟨eb1,eo1,es1,ef1,ee1,ec1,eO1,eH1,em1⟩:=dY (H0.seen 0 Z) a ω;obtain ⟨ea1,ek1,ea2,ek2,ea3,ek3,eg1,eg2,eg3,rfl,eq1,eK1,eo2,eo3,eo4⟩:=nX eO1;have eK1U:=eK1;unfold Rec.Ok at eK1U
 try unfold I64ok at eK1U
 try unfold maxLen at eK1U
 have eP1:=H0.look1 0 Z eo2 (fun b hb=>eH1 b (by rw [eq1]; simp [hb]));have eL1:=oL eo2;have eP2:=eP1.look1 0 Z eo3 (fun b hb=>eH1 b (by rw [eq1]; simp [hb]));have eL2:=oL eo3;have eP3:=eP2.look1 0 Z eo4 (fun b hb=>eH1 b (by rw [eq1]; simp [hb]));have eL3:=oL eo4;refine an (sR 2 Z (sV Z (aB bB aO Z Z ee1 a ω ω) (sV Z (ak aF Z aO Z Z ec1) (bH ah Z zeroValue59 eP3 (fun b1 w1 e1 g1 H1=>aG ah aO Z Z Z Z H1 0 Z Z (fun w2 e2 H2=>?_))))));dsimp only[lNA,lCA,lSZ,lSS,aI] at H2;refine aa (ac (ab (sF aF Z ts2 (sLd tu2 (H2.box 0 Z) Z (aa (ay (ab (sR 2 Z (aa (aD Z (fun c1=>?_) (fun c1=>?_)))))))))))
 ·exact absurd c1 ω
 ·refine ab (sR 2 Z (aa (aD Z (fun c2=>?_) (fun c2=>?_))))
  ·exact absurd c2 ω
  ·refine ab (sR 2 Z (aa (aD Z (fun c3=>?_) (fun c3=>?_))))
   ·exact absurd c3 ω
   ·refine ax (ab (sM Z Z (sV Z (jh Z) (sE func267 tZ Z (iM (H2.sees 0 Z) (p:=(spS (xs.getD a default))) func271 Z Bl (fun w1 e1 i0 hi0 _ _ _ _ _ _ K0 o0_6 o0_7 o0_8=>lI K0 o0_6 o0_7 o0_8 ((H2.to e1).box 0 Z) η ((H2.to e1).sees 1 Z) ((H2.to e1).sees 2 Z) ((H2.to e1).sees 3 Z))) H2 (fun w3 e3 H3=>rA hQ results221 Z ?_)))));exact ⟨H3.ext,Z⟩
end Go.Wk
namespace Go.Wk
open Go.Proofs Rp Go.Proofs.Tryz
set_option maxRecDepth 10000
theorem uR {w:World}{A:Option Addr}{n C:Nat}:Ret Tryz.prog 220 #[.slice A n C] w fun v w'=>Ext No w w'∧∃ b,w.heap.size≤b∧v = .func (.func 266) #[] #[.pointer (some ⟨b,0,none⟩)]∧w'.heap[b]? = some (.cells [.slice A n C].toArray 119):=by
 refine aH func220 Z ntmps220 Z (fun Q hQ hN=>?_);have H0:=Sep.start (w:=w) (F:=[]) σ;refine ab (bm ah Z Z H0 (fun b1 w1 e1 g1 H1=>?_));dsimp only[lNA,lCA] at H1;refine sA Z Z (aa (ab (sV Z (jh Z) (rA hQ results220 Z ?_))));exact ⟨H1.ext,b1,g1,Z,H1.box 0 Z⟩
theorem yd {w:World}{l b1 n C:Nat}{A:Option Addr}{val:Nat→List Value}{J:Nat→World→Prop}{K:World→Prop}(hn:n≤1000000)
  (hb:∀ i W,J i W→W.heap[b1]? = some (.cells [.slice A n C].toArray 119))
  (hc:∀ i W,J (i+1) W→i<n→∃ b o,A=some ⟨b,o,none⟩∧At W b (o+i*9) (val i))
  (hY:∀ i W,J (i+1) W→i<n→YieldAt (inF none) 2 Tryz.prog l #[.int .i64 (i:Nat),.agg (val i).toArray] W fun e W'=>e = .returned (.bool true)∧J i W'∨e = .returned (.bool false)∧K W') (hv:∀ i,(val i).length=9) (h0:J n w) :
  Ret Tryz.prog 266 #[.func (.yield l) #[] #[],.pointer (some ⟨b1,0,none⟩)] w fun _ w'=>J 0 w'∨K w':=by
 refine aH func266 Z ntmps266 Z (fun Q hQ hN=>ab (sLd bB (hb _ _ h0) Z (sV Z (aS bB Z) (sV Z (bY Z Z iO) (sA Z Z (aa (ay (bJ (γ:=Nat) (fun i=>[(0,.func (.yield l) #[] #[]),(1,.pointer (some ⟨b1,0,none⟩)),(3,.int .i64 ((i:Int)-1))]) (fun i w'=>i≤n∧J i w') (fun i=>i) n ⟨Z,Z,Z,trivial⟩ ⟨Nat.le_refl _,h0⟩ (fun i w1 hI=>?_)))))))));obtain ⟨hi,hJ⟩:=hI;refine ac (ab (sR 2 Z (aa (aD Z (fun c1=>?_) (fun c1=>?_)))))
 ·obtain ⟨j,rfl⟩:∃ j,i=j+1:=⟨i-1,ω⟩;have ej:((j+1:Nat):Int)-1=(j:Nat):=by omega
  rw [ej];obtain ⟨b,o,hA,hat⟩:=hc j w1 hJ ω;refine ax (ac (ay (ac (Kp (mU (fa ah Z Z (aJ Z) (fa ah Z Z (aJ Z) (fa ah Z Z (aj bB Z Z (am (hb _ _ hJ) Z)) (fa ah Z Z (aJ Z) (fa ah Z Z (aB bB aO Z Z hA j Z ω) (fa ah Z Z (ak aF Z aO Z (hv j) hat) (G2 Z Z Z Z (hY j _ hJ ω) (fun e w2 he=>?_)))))))))))))
  rcases he with ⟨rfl,hJ2⟩ | ⟨rfl,hK⟩
  ·refine ⟨_,Z,?_⟩;refine fa ah Z Z (bg Z) (qr (kt Z (ax (an (sM Z Z (sV Z (bY Z Z iO) (sA Z Z (aa ?_))))))));exact ⟨j,⟨Z,Z,Z,trivial⟩,⟨ω,hJ2⟩,θ⟩
  ·refine ⟨_,Z,?_⟩;refine fa ah Z Z (bg Z) (qr (kl Z (bc (hQ _ _ (iL results266 ?_)))));exact .inr hK
 ·obtain rfl:i=0:=by omega
  refine aP (hN _ _ (iL results266 ?_));exact .inl hJ
theorem er {w:World}{zb zC9 zC10 zC11:Nat}{z:Wld}{zA9 zA10 zA11:Option Addr}{zF9 zF10 zF11:List Nat}{g row:Int}(zB:w.heap[zb]? = some (.cells [.int .i64 z.Shape.Groups,.int .i64 z.Shape.Column,.int .i64 z.Shape.Data,.int .i64 z.Shape.Spare,.int .i64 z.Shape.Rows,.int .i64 z.Shape.Cap,.int .i64 z.Shape.Batch,.int .i64 z.Shape.Queue,.int .i64 z.Shape.Stage,.slice zA9 z.Groups.length zC9,.slice zA10 z.On.length zC10,.slice zA11 z.Tapes.length zC11,.int .i64 z.Writes,.int .i64 z.Stop,.bool z.Down].toArray 31)) (zK:z.Ok) (zO9:own false w [.slice zA9 z.Groups.length zC9] z.Groups zF9) (zO10:own false w [.slice zA10 z.On.length zC10] z.On zF10) (zO11:own false w [.slice zA11 z.Tapes.length zC11] z.Tapes zF11) (hT:z.Tapes.length=2) (hrl:∀ k,(z.Tapes.getD k default).Recs.length≤200000):Ret Tryz.prog 150 #[.pointer (some ⟨zb,0,none⟩),.int .i64 g,.int .i64 row] w fun v w'=>Ext No w w'∧(∃ A6 C6 A7 C7 A8 C8,v = .tuple #[(opR z g row).val A6 C6 A7 C7 A8 C8,.bool (gP z g row)]∧InF w' zF11 (RecV.mk (opR z g row) A6 C6 A7 C7 A8 C8).cs (opR z g row)):=by
 have zK2:=zK;unfold Wld.Ok Shape.Ok at zK2
 try unfold I64ok at zK2
 try unfold maxLen at zK2
 have zL9:=oL zO9;have zL10:=oL zO10;have zL11:=oL zO11;refine vX (vs:=[.pointer (some ⟨zb,0,none⟩),.int .i64 g,.int .i64 row]) func150 Z ntmps150 Z (fun a ha=>?_);have H0:=Sep.start (cQ zB (ae zO9 (ae zO10 (ae zO11 aA))));refine Ar (L:=oR 0 _) (B:=fun L' w'=>∃ b1 b2 b3 b4 b5,sub L' [(3,.pointer (some ⟨b1,0,none⟩)),(4,.pointer (some ⟨b2,0,none⟩)),(5,.pointer (some ⟨b3,0,none⟩)),(6,.pointer (some ⟨b4,0,none⟩)),(7,.pointer (some ⟨b5,0,none⟩))]∧Sep No w [box b1 (.cells [.pointer (some ⟨zb,0,none⟩)].toArray 86),box b2 (.cells [.int .i64 g].toArray 2),box b3 (.cells [.int .i64 row].toArray 2),box b4 (.cells [.int .i64 0,.int .i64 0,.string ⟨#[]⟩,.int .i64 0,.int .i64 0,.int .i64 0,.slice none 0 0,.slice none 0 0,.slice none 0 0].toArray 59),box b5 (.cells [.bool false].toArray 4)] [box zb (.cells [.int .i64 z.Shape.Groups,.int .i64 z.Shape.Column,.int .i64 z.Shape.Data,.int .i64 z.Shape.Spare,.int .i64 z.Shape.Rows,.int .i64 z.Shape.Cap,.int .i64 z.Shape.Batch,.int .i64 z.Shape.Queue,.int .i64 z.Shape.Stage,.slice zA9 z.Groups.length zC9,.slice zA10 z.On.length zC10,.slice zA11 z.Tapes.length zC11,.int .i64 z.Writes,.int .i64 z.Stop,.bool z.Down].toArray 31),seen false [.slice zA9 z.Groups.length zC9] z.Groups zF9,seen false [.slice zA10 z.On.length zC10] z.On zF10,seen false [.slice zA11 z.Tapes.length zC11] z.Tapes zF11] w') ha ?_ (fun a1 L1 w1 ha1 hB=>?_)
 ·refine ou Z (bm ah Z Z H0 (fun b11 w11 e1 g1 H11=>bm ah Z Z H11 (fun b12 w12 e2 g2 H12=>bm ah Z Z H12 (fun b13 w13 e3 g3 H13=>bH ah Z zeroValue59 H13 (fun b14 w14 e4 g4 H14=>bH ah Z zeroValue4 H14 (fun b15 w15 e5 g5 H15=>aa ?_))))));exact ⟨Z,_,_,_,_,_,⟨Z,Z,Z,Z,Z,trivial⟩,H15⟩
 obtain ⟨b1,b2,b3,b4,b5,hs1,H1⟩:=hB;replace ha1:=ha1.weak hs1;refine Ar (B:=fun L' w'=>∃ b6 vs sa sk fp,sub L' [(3,.pointer (some ⟨b1,0,none⟩)),(4,.pointer (some ⟨b2,0,none⟩)),(5,.pointer (some ⟨b3,0,none⟩)),(6,.pointer (some ⟨b4,0,none⟩)),(7,.pointer (some ⟨b5,0,none⟩)),(8,.pointer (some ⟨b6,0,none⟩))]∧Sep No w [box b1 (.cells [.pointer (some ⟨zb,0,none⟩)].toArray 86),box b2 (.cells [.int .i64 g].toArray 2),box b3 (.cells [.int .i64 row].toArray 2),box b4 (.cells [.int .i64 0,.int .i64 0,.string ⟨#[]⟩,.int .i64 0,.int .i64 0,.int .i64 0,.slice none 0 0,.slice none 0 0,.slice none 0 0].toArray 59),box b5 (.cells [.bool false].toArray 4),mine [.slice sa vs.length sk] vs fp,box b6 (.cells [.slice sa vs.length sk].toArray 119)] [box zb (.cells [.int .i64 z.Shape.Groups,.int .i64 z.Shape.Column,.int .i64 z.Shape.Data,.int .i64 z.Shape.Spare,.int .i64 z.Shape.Rows,.int .i64 z.Shape.Cap,.int .i64 z.Shape.Batch,.int .i64 z.Shape.Queue,.int .i64 z.Shape.Stage,.slice zA9 z.Groups.length zC9,.slice zA10 z.On.length zC10,.slice zA11 z.Tapes.length zC11,.int .i64 z.Writes,.int .i64 z.Stop,.bool z.Down].toArray 31),seen false [.slice zA9 z.Groups.length zC9] z.Groups zF9,seen false [.slice zA10 z.On.length zC10] z.On zF10,seen false [.slice zA11 z.Tapes.length zC11] z.Tapes zF11] w'∧RdV w zF11 vs∧vs.map RecV.r=fB z) ha1 ?_ (fun a2 L2 w2 ha2 hB=>?_)
 ·refine ou Z (sLd uY (H1.box 0 Z) Z (sC func182 sY Z (gZ (H1.fbox 0 Z) η (aC (H1.seen 1 Z)) (aC (H1.seen 2 Z)) (aC (H1.seen 3 Z)) ξ ξ) (fun v1 w11 r1=>?_)));obtain ⟨e1,vs1,r1,hR1,hM1⟩:=r1;obtain ⟨fp1,H11⟩:=H1.res e1 r1;obtain ⟨sa1,sk1,sq1⟩:=ao (H11.mine 5 Z);cases sq1;have hl1:vs1.length=(fB z).length:=by rw [← hM1,List.length_map]
  have hb1:=wU (z:=z) ξ η;have hRw1:RdV w zF11 vs1:=hR1.back H11.ext (Rp.lt zO11);refine bH ah Z zeroValue119 H11 (fun b11 w12 e2 g1 H12=>eH ah kw Z Z Z H12 6 Z Z (fun w13 e3 H13=>?_));dsimp only[lNA,lCA,lSZ,lSS,aI] at H13;refine aa ?_;exact ⟨Z,_,_,_,_,_,⟨Z,Z,Z,Z,Z,Z,trivial⟩,H13,hRw1,hM1⟩
 obtain ⟨b6,vs,sa,sk,fp,hs2,H2,hR,hM⟩:=hB;replace ha2:=ha2.weak hs2;have hl:vs.length=(fB z).length:=by rw [← hM,List.length_map]
 have hcb:=wU (z:=z) η η;refine wpIn_seq (Ar (B:=fun L' w'=>∃ b7,sub L' [(14,.func (.func 266) #[] #[.pointer (some ⟨b7,0,none⟩)]),(3,.pointer (some ⟨b1,0,none⟩)),(4,.pointer (some ⟨b2,0,none⟩)),(5,.pointer (some ⟨b3,0,none⟩)),(6,.pointer (some ⟨b4,0,none⟩)),(7,.pointer (some ⟨b5,0,none⟩)),(8,.pointer (some ⟨b6,0,none⟩))]∧Sep No w [box b1 (.cells [.pointer (some ⟨zb,0,none⟩)].toArray 86),box b2 (.cells [.int .i64 g].toArray 2),box b3 (.cells [.int .i64 row].toArray 2),box b4 (.cells [.int .i64 0,.int .i64 0,.string ⟨#[]⟩,.int .i64 0,.int .i64 0,.int .i64 0,.slice none 0 0,.slice none 0 0,.slice none 0 0].toArray 59),box b5 (.cells [.bool false].toArray 4),mine [.slice sa vs.length sk] vs fp,box b6 (.cells [.slice sa vs.length sk].toArray 119),box b7 (.cells [.slice sa vs.length sk].toArray 119)] [box zb (.cells [.int .i64 z.Shape.Groups,.int .i64 z.Shape.Column,.int .i64 z.Shape.Data,.int .i64 z.Shape.Spare,.int .i64 z.Shape.Rows,.int .i64 z.Shape.Cap,.int .i64 z.Shape.Batch,.int .i64 z.Shape.Queue,.int .i64 z.Shape.Stage,.slice zA9 z.Groups.length zC9,.slice zA10 z.On.length zC10,.slice zA11 z.Tapes.length zC11,.int .i64 z.Writes,.int .i64 z.Stop,.bool z.Down].toArray 31),seen false [.slice zA9 z.Groups.length zC9] z.Groups zF9,seen false [.slice zA10 z.On.length zC10] z.On zF10,seen false [.slice zA11 z.Tapes.length zC11] z.Tapes zF11] w') ha2 ?_ (fun a3 L3 w3 ha3 hB=>?_))
 ·refine ou Z (sLd bB (H2.box 6 Z) Z (sC func220 AZ Z uR (fun v9 w9 r9=>?_)));obtain ⟨e9,b7,g7,rfl,h7⟩:=r9;have H9:=H2.add e9 (r:=box b7 (.cells [.slice sa vs.length sk].toArray 119)) (by exact h7) (by simp [Wk.box]) (by simpa [Wk.box] using g7);refine aa ?_;exact ⟨Z,b7,⟨Z,Z,Z,Z,Z,Z,Z,trivial⟩,H9⟩
 obtain ⟨b7,hs3,H3⟩:=hB;replace ha3:=ha3.weak hs3;refine wpIn_block (Eg ha3 (lb := #[.pointer (some ⟨b7,0,none⟩)]) Z func266 Z Cc (K:=fun W=>∃ o,Sep No w [box b1 (.cells [.pointer (some ⟨zb,0,none⟩)].toArray 86),box b2 (.cells [.int .i64 g].toArray 2),box b3 (.cells [.int .i64 row].toArray 2),box b4 (.cells [.int .i64 0,.int .i64 0,.string ⟨#[]⟩,.int .i64 0,.int .i64 0,.int .i64 0,.slice none 0 0,.slice none 0 0,.slice none 0 0].toArray 59),box b5 (.cells [.bool false].toArray 4),mine [.slice sa vs.length sk] vs fp,box b6 (.cells [.slice sa vs.length sk].toArray 119),box b7 (.cells [.slice sa vs.length sk].toArray 119),box w3.heap.size (.deferred (some [])),box (w3.heap.size+1) o] [box zb (.cells [.int .i64 z.Shape.Groups,.int .i64 z.Shape.Column,.int .i64 z.Shape.Data,.int .i64 z.Shape.Spare,.int .i64 z.Shape.Rows,.int .i64 z.Shape.Cap,.int .i64 z.Shape.Batch,.int .i64 z.Shape.Queue,.int .i64 z.Shape.Stage,.slice zA9 z.Groups.length zC9,.slice zA10 z.On.length zC10,.slice zA11 z.Tapes.length zC11,.int .i64 z.Writes,.int .i64 z.Stop,.bool z.Down].toArray 31),seen false [.slice zA9 z.Groups.length zC9] z.Groups zF9,seen false [.slice zA10 z.On.length zC10] z.On zF10,seen false [.slice zA11 z.Tapes.length zC11] z.Tapes zF11] W∧(∀ j,j<vs.length→shP g row (vs.getD j default).r=false)) (K2:=fun W=>∃ o i,Sep No w [box b1 (.cells [.pointer (some ⟨zb,0,none⟩)].toArray 86),box b2 (.cells [.int .i64 g].toArray 2),box b3 (.cells [.int .i64 row].toArray 2),box b4 (.cells [.int .i64 (vs.getD i default).r.Kind,.int .i64 (vs.getD i default).r.Seq,.string (vs.getD i default).r.Name,.int .i64 (vs.getD i default).r.Length,.int .i64 (vs.getD i default).r.Group,.int .i64 (vs.getD i default).r.Row,.slice (vs.getD i default).A6 (vs.getD i default).r.Rows.length (vs.getD i default).C6,.slice (vs.getD i default).A7 (vs.getD i default).r.Data.length (vs.getD i default).C7,.slice (vs.getD i default).A8 (vs.getD i default).r.Delta.length (vs.getD i default).C8].toArray 59),box b5 (.cells [.bool (!((fB z).any (spS ((fB z).getD i default))))].toArray 4),mine [.slice sa vs.length sk] vs fp,box b6 (.cells [.slice sa vs.length sk].toArray 119),box b7 (.cells [.slice sa vs.length sk].toArray 119),box w3.heap.size (.deferred (some [])),box (w3.heap.size+1) o] [box zb (.cells [.int .i64 z.Shape.Groups,.int .i64 z.Shape.Column,.int .i64 z.Shape.Data,.int .i64 z.Shape.Spare,.int .i64 z.Shape.Rows,.int .i64 z.Shape.Cap,.int .i64 z.Shape.Batch,.int .i64 z.Shape.Queue,.int .i64 z.Shape.Stage,.slice zA9 z.Groups.length zC9,.slice zA10 z.On.length zC10,.slice zA11 z.Tapes.length zC11,.int .i64 z.Writes,.int .i64 z.Stop,.bool z.Down].toArray 31),seen false [.slice zA9 z.Groups.length zC9] z.Groups zF9,seen false [.slice zA10 z.On.length zC10] z.On zF10,seen false [.slice zA11 z.Tapes.length zC11] z.Tapes zF11] W∧i<vs.length∧shP g row (vs.getD i default).r=true∧(∀ j,i<j→j<vs.length→shP g row (vs.getD j default).r=false)) (fun R fn hR2=>?_) (fun W hK=>?_) (fun W hK=>?_))
 ·have e1:(w3.alloc (.deferred (some []))).heap.size=w3.heap.size+1:=by simp
  have HA:=(H3.alloc (.deferred (some []))).alloc (.loop (R .ready none));rw [e1] at HA
  try dsimp only[lNA,lCA,lSZ,lSS] at HA
  refine Ret.mono (yd (A:=sa) (n:=vs.length) (C:=sk) (b1:=b7) (val:=fun i=>[.int .i64 (vs.getD i default).r.Kind,.int .i64 (vs.getD i default).r.Seq,.string (vs.getD i default).r.Name,.int .i64 (vs.getD i default).r.Length,.int .i64 (vs.getD i default).r.Group,.int .i64 (vs.getD i default).r.Row,.slice (vs.getD i default).A6 (vs.getD i default).r.Rows.length (vs.getD i default).C6,.slice (vs.getD i default).A7 (vs.getD i default).r.Data.length (vs.getD i default).C7,.slice (vs.getD i default).A8 (vs.getD i default).r.Delta.length (vs.getD i default).C8]) (J:=fun i W=>Sep No w [box b1 (.cells [.pointer (some ⟨zb,0,none⟩)].toArray 86),box b2 (.cells [.int .i64 g].toArray 2),box b3 (.cells [.int .i64 row].toArray 2),box b4 (.cells [.int .i64 0,.int .i64 0,.string ⟨#[]⟩,.int .i64 0,.int .i64 0,.int .i64 0,.slice none 0 0,.slice none 0 0,.slice none 0 0].toArray 59),box b5 (.cells [.bool false].toArray 4),mine [.slice sa vs.length sk] vs fp,box b6 (.cells [.slice sa vs.length sk].toArray 119),box b7 (.cells [.slice sa vs.length sk].toArray 119),box w3.heap.size (.deferred (some [])),box (w3.heap.size+1) (.loop (R .ready none))] [box zb (.cells [.int .i64 z.Shape.Groups,.int .i64 z.Shape.Column,.int .i64 z.Shape.Data,.int .i64 z.Shape.Spare,.int .i64 z.Shape.Rows,.int .i64 z.Shape.Cap,.int .i64 z.Shape.Batch,.int .i64 z.Shape.Queue,.int .i64 z.Shape.Stage,.slice zA9 z.Groups.length zC9,.slice zA10 z.On.length zC10,.slice zA11 z.Tapes.length zC11,.int .i64 z.Writes,.int .i64 z.Stop,.bool z.Down].toArray 31),seen false [.slice zA9 z.Groups.length zC9] z.Groups zF9,seen false [.slice zA10 z.On.length zC10] z.On zF10,seen false [.slice zA11 z.Tapes.length zC11] z.Tapes zF11] W∧∀ j,i≤j→j<vs.length→shP g row (vs.getD j default).r=false) (K:=fun W=>∃ i,Sep No w [box b1 (.cells [.pointer (some ⟨zb,0,none⟩)].toArray 86),box b2 (.cells [.int .i64 g].toArray 2),box b3 (.cells [.int .i64 row].toArray 2),box b4 (.cells [.int .i64 (vs.getD i default).r.Kind,.int .i64 (vs.getD i default).r.Seq,.string (vs.getD i default).r.Name,.int .i64 (vs.getD i default).r.Length,.int .i64 (vs.getD i default).r.Group,.int .i64 (vs.getD i default).r.Row,.slice (vs.getD i default).A6 (vs.getD i default).r.Rows.length (vs.getD i default).C6,.slice (vs.getD i default).A7 (vs.getD i default).r.Data.length (vs.getD i default).C7,.slice (vs.getD i default).A8 (vs.getD i default).r.Delta.length (vs.getD i default).C8].toArray 59),box b5 (.cells [.bool (!((fB z).any (spS ((fB z).getD i default))))].toArray 4),mine [.slice sa vs.length sk] vs fp,box b6 (.cells [.slice sa vs.length sk].toArray 119),box b7 (.cells [.slice sa vs.length sk].toArray 119),box w3.heap.size (.deferred (some [])),box (w3.heap.size+1) (.loop (R .done (some .ret)))] [box zb (.cells [.int .i64 z.Shape.Groups,.int .i64 z.Shape.Column,.int .i64 z.Shape.Data,.int .i64 z.Shape.Spare,.int .i64 z.Shape.Rows,.int .i64 z.Shape.Cap,.int .i64 z.Shape.Batch,.int .i64 z.Shape.Queue,.int .i64 z.Shape.Stage,.slice zA9 z.Groups.length zC9,.slice zA10 z.On.length zC10,.slice zA11 z.Tapes.length zC11,.int .i64 z.Writes,.int .i64 z.Stop,.bool z.Down].toArray 31),seen false [.slice zA9 z.Groups.length zC9] z.Groups zF9,seen false [.slice zA10 z.On.length zC10] z.On zF10,seen false [.slice zA11 z.Tapes.length zC11] z.Tapes zF11] W∧i<vs.length∧shP g row (vs.getD i default).r=true∧(∀ j,i<j→j<vs.length→shP g row (vs.getD j default).r=false)) ω ?_ ?_ ?_ (fun _=>Z) ⟨HA,fun j h1 h2=>by omega⟩) ?_
  ·rintro i W ⟨H,_⟩
   exact H.box 7 Z
  ·rintro i W ⟨H,_⟩ hi
   obtain ⟨b,o,h1,h2,_⟩:=H.viewAt 5 Z i hi;exact ⟨b,o,h1,h2⟩
  ·rintro i W ⟨HJ,hJ⟩ hi
   have hvo:=hR.okAt hi;have hy:=Ej (P:=Tryz.prog) (u1 := .int .i64 (i:Nat)) (u2 := .agg [.int .i64 (vs.getD i default).r.Kind,.int .i64 (vs.getD i default).r.Seq,.string (vs.getD i default).r.Name,.int .i64 (vs.getD i default).r.Length,.int .i64 (vs.getD i default).r.Group,.int .i64 (vs.getD i default).r.Row,.slice (vs.getD i default).A6 (vs.getD i default).r.Rows.length (vs.getD i default).C6,.slice (vs.getD i default).A7 (vs.getD i default).r.Data.length (vs.getD i default).C7,.slice (vs.getD i default).A8 (vs.getD i default).r.Delta.length (vs.getD i default).C8].toArray) hR2 ha3.1 Z Z (HJ.box 9 Z)
    (A:=fun L' W'=>∃ b10,sub L' [(9,.int .i64 (i:Nat)),(10,.pointer (some ⟨b10,0,none⟩)),(3,.pointer (some ⟨b1,0,none⟩)),(4,.pointer (some ⟨b2,0,none⟩)),(5,.pointer (some ⟨b3,0,none⟩)),(6,.pointer (some ⟨b4,0,none⟩)),(7,.pointer (some ⟨b5,0,none⟩)),(8,.pointer (some ⟨b6,0,none⟩))]∧Sep No w [box b1 (.cells [.pointer (some ⟨zb,0,none⟩)].toArray 86),box b2 (.cells [.int .i64 g].toArray 2),box b3 (.cells [.int .i64 row].toArray 2),box b4 (.cells [.int .i64 0,.int .i64 0,.string ⟨#[]⟩,.int .i64 0,.int .i64 0,.int .i64 0,.slice none 0 0,.slice none 0 0,.slice none 0 0].toArray 59),box b5 (.cells [.bool false].toArray 4),mine [.slice sa vs.length sk] vs fp,box b6 (.cells [.slice sa vs.length sk].toArray 119),box b7 (.cells [.slice sa vs.length sk].toArray 119),box w3.heap.size (.deferred (some [])),box (w3.heap.size+1) (.loop (R .ready none)),box b10 (.cells [.int .i64 (vs.getD i default).r.Kind,.int .i64 (vs.getD i default).r.Seq,.string (vs.getD i default).r.Name,.int .i64 (vs.getD i default).r.Length,.int .i64 (vs.getD i default).r.Group,.int .i64 (vs.getD i default).r.Row,.slice (vs.getD i default).A6 (vs.getD i default).r.Rows.length (vs.getD i default).C6,.slice (vs.getD i default).A7 (vs.getD i default).r.Data.length (vs.getD i default).C7,.slice (vs.getD i default).A8 (vs.getD i default).r.Delta.length (vs.getD i default).C8].toArray 59)] [box zb (.cells [.int .i64 z.Shape.Groups,.int .i64 z.Shape.Column,.int .i64 z.Shape.Data,.int .i64 z.Shape.Spare,.int .i64 z.Shape.Rows,.int .i64 z.Shape.Cap,.int .i64 z.Shape.Batch,.int .i64 z.Shape.Queue,.int .i64 z.Shape.Stage,.slice zA9 z.Groups.length zC9,.slice zA10 z.On.length zC10,.slice zA11 z.Tapes.length zC11,.int .i64 z.Writes,.int .i64 z.Stop,.bool z.Down].toArray 31),seen false [.slice zA9 z.Groups.length zC9] z.Groups zF9,seen false [.slice zA10 z.On.length zC10] z.On zF10,seen false [.slice zA11 z.Tapes.length zC11] z.Tapes zF11] W')
    (B:=fun W2=>Sep No w [box b1 (.cells [.pointer (some ⟨zb,0,none⟩)].toArray 86),box b2 (.cells [.int .i64 g].toArray 2),box b3 (.cells [.int .i64 row].toArray 2),box b4 (.cells [.int .i64 0,.int .i64 0,.string ⟨#[]⟩,.int .i64 0,.int .i64 0,.int .i64 0,.slice none 0 0,.slice none 0 0,.slice none 0 0].toArray 59),box b5 (.cells [.bool false].toArray 4),mine [.slice sa vs.length sk] vs fp,box b6 (.cells [.slice sa vs.length sk].toArray 119),box b7 (.cells [.slice sa vs.length sk].toArray 119),box w3.heap.size (.deferred (some [])),box (w3.heap.size+1) (.loop (R .busy none))] [box zb (.cells [.int .i64 z.Shape.Groups,.int .i64 z.Shape.Column,.int .i64 z.Shape.Data,.int .i64 z.Shape.Spare,.int .i64 z.Shape.Rows,.int .i64 z.Shape.Cap,.int .i64 z.Shape.Batch,.int .i64 z.Shape.Queue,.int .i64 z.Shape.Stage,.slice zA9 z.Groups.length zC9,.slice zA10 z.On.length zC10,.slice zA11 z.Tapes.length zC11,.int .i64 z.Writes,.int .i64 z.Stop,.bool z.Down].toArray 31),seen false [.slice zA9 z.Groups.length zC9] z.Groups zF9,seen false [.slice zA10 z.On.length zC10] z.On zF10,seen false [.slice zA11 z.Tapes.length zC11] z.Tapes zF11] W2∧shP g row (vs.getD i default).r=false)
    (C:=fun W2=>Sep No w [box b1 (.cells [.pointer (some ⟨zb,0,none⟩)].toArray 86),box b2 (.cells [.int .i64 g].toArray 2),box b3 (.cells [.int .i64 row].toArray 2),box b4 (.cells [.int .i64 (vs.getD i default).r.Kind,.int .i64 (vs.getD i default).r.Seq,.string (vs.getD i default).r.Name,.int .i64 (vs.getD i default).r.Length,.int .i64 (vs.getD i default).r.Group,.int .i64 (vs.getD i default).r.Row,.slice (vs.getD i default).A6 (vs.getD i default).r.Rows.length (vs.getD i default).C6,.slice (vs.getD i default).A7 (vs.getD i default).r.Data.length (vs.getD i default).C7,.slice (vs.getD i default).A8 (vs.getD i default).r.Delta.length (vs.getD i default).C8].toArray 59),box b5 (.cells [.bool (!((fB z).any (spS ((fB z).getD i default))))].toArray 4),mine [.slice sa vs.length sk] vs fp,box b6 (.cells [.slice sa vs.length sk].toArray 119),box b7 (.cells [.slice sa vs.length sk].toArray 119),box w3.heap.size (.deferred (some [])),box (w3.heap.size+1) (.loop (R .busy none))] [box zb (.cells [.int .i64 z.Shape.Groups,.int .i64 z.Shape.Column,.int .i64 z.Shape.Data,.int .i64 z.Shape.Spare,.int .i64 z.Shape.Rows,.int .i64 z.Shape.Cap,.int .i64 z.Shape.Batch,.int .i64 z.Shape.Queue,.int .i64 z.Shape.Stage,.slice zA9 z.Groups.length zC9,.slice zA10 z.On.length zC10,.slice zA11 z.Tapes.length zC11,.int .i64 z.Writes,.int .i64 z.Stop,.bool z.Down].toArray 31),seen false [.slice zA9 z.Groups.length zC9] z.Groups zF9,seen false [.slice zA10 z.On.length zC10] z.On zF10,seen false [.slice zA11 z.Tapes.length zC11] z.Tapes zF11] W2∧shP g row (vs.getD i default).r=true)
    (by
     refine zy (ou Z (sA Z Z (aa (ou Z (bH ah Z zeroValue59 HJ (fun b21 w21 e1 g1 H21=>aG ah aO Z Z Z Z H21 10 Z Z (fun w22 e2 H22=>?_)))))));dsimp only[lNA,lCA,lSZ,lSS,aI] at H22;refine aa ?_
     exact ⟨Z,H22.box 9 Z,_,⟨Z,Z,Z,Z,Z,Z,Z,Z,trivial⟩,H22⟩)
    (by
     rintro L' W' ⟨b10,hs,HQ⟩
     have HB:=HQ.put 9 (.loop (R .busy none)) Z
     try dsimp only[lNA,lCA,lSZ,lSS] at HB
     refine ID hs (y9 (zy (ou Z (sF aF Z ts2 (sLd tu2 (HB.box 10 Z) Z (sR 2 Z (bU 4 (j:=3) (want:=true) (t:=24) Z Z Z Z (fun hg1 kk1=>au (wgE Z Z Z hg1) Z Z (ag aF Z ts2 Z Z) (au (wgE Z Z Z hg1) Z Z (aj tu2 Z Z (am (HB.box 10 Z) Z)) (au (wgE Z Z Z hg1) Z Z (aj tu2 Z Z (am (HB.box 1 Z) Z)) (au (wgE Z Z Z hg1) Z Z (cX Z Z) (kk1 _ _ (kx Z (kx Z (kx Z (kx Z k0)))) Z Ext.refl))))) (fun w41 e1=>?_))))))));have H41:=HB.to e1;refine sV Z (bR Z Z) (sM Z Z (bU 4 (j:=9) (want:=true) (t:=30) Z Z Z Z (fun hg2 kk2=>au (wgE Z Z Z hg2) Z Z (ag aF Z ts2 Z Z) (au (wgE Z Z Z hg2) Z Z (aj tu2 Z Z (am (H41.box 10 Z) Z)) (au (wgE Z Z Z hg2) Z Z (aj tu2 Z Z (am (H41.box 2 Z) Z)) (au (wgE Z Z Z hg2) Z Z (cX Z Z) (kk2 _ _ (kx Z (kx Z (kx Z (kx Z k0)))) Z Ext.refl))))) (fun w42 e2=>?_)));have H42:=H41.to e2;refine sV Z (bR Z Z) (aa (Km Z (fun c1=>?_) (fun c1=>?_)))
     ·have hsp:shP g row (vs.getD i default).r=true:=by simpa [shP,Bool.and_assoc] using c1
      have hk4:=(yb hsp).1;refine zy (HO (S:=Ext (· ∈ [b4]) _) (oQ [1,3,5,7,8,11,12,14]) Z κ κ κ (fun _=>Ext.refl.drawn _) (fun q1=>?_));have H43:=H42.drawn q1;refine dV Z Z (fun zw hx=>ak aF Z aO Z Z (At.whole (hx.heapM (H43.boff 10 Z 3 Z Z) (H43.box 10 Z)))) (dV Z Z (fun zw hx=>aj uY Z Z (am (hx.heapM (H43.boff 0 Z 3 Z Z) (H43.box 0 Z)) Z)) (dV Z Z (fun zw hx=>aj bB Z Z (am (hx.heapM (H43.boff 6 Z 3 Z Z) (H43.box 6 Z)) Z)) (dM Z Z Z ?_)));have lc:=mH (zp:=some ⟨zb,0,none⟩) (xs:=vs.map RecV.r) (a:=i) (by rw [List.length_map]; exact (hR.to H43.ext).list (H43.mine 5 Z)) (by rw [List.length_map]; exact hi) (by rw [← km Z hi]; exact hk4);rw [List.length_map,hM] at lc;refine dC func221 AW Z lc (fun v1 w43 r1=>?_);obtain ⟨e3,rfl⟩:=r1;have H44:=H43.to e3;refine dV Z Z (fun zw hx=>bg Z) (tP Z ah aO Z Z Z Z H44 3 Z Z (fun _ h e _=>h.trans (e.mono fun _ _ q=>by simp [q])) (fun w44 e4 H45=>?_));dsimp only[lNA,lCA,lSZ,lSS,aI] at H45;refine bW Z ah ts4 Z Z Z H45 4 Z Z (fun _ _ _ hr=>absurd Z hr) (fun w45 e5 H46=>?_);dsimp only[lNA,lCA,lSZ,lSS,aI] at H46;refine bb (JT ?_);exact ⟨H46.box 9 Z,.inr ⟨Z,H46.dtake 10,hsp⟩⟩
     ·have hsp:shP g row (vs.getD i default).r=false:=by simpa [shP,Bool.and_assoc] using c1
      refine HM ?_
      exact ⟨H42.box 9 Z,.inl ⟨Z,H42.dtake 10,hsp⟩⟩)
   obtain ⟨f1,t1,s1,o1,r1,k1⟩:=hy;refine ⟨f1,t1,s1,o1,r1,k1.mono fun e W' he=>?_⟩;obtain ⟨W2,_,⟨he,⟨H4,h4⟩,rfl⟩ | ⟨he,⟨H4,h4⟩,rfl⟩⟩:=he
   ·refine .inl ⟨he,H4.put 9 (.loop (R .ready none)) Z,fun j h1 h2=>?_⟩
    by_cases e:j=i
    ·subst e; exact h4
    ·exact hJ j ω h2
   ·exact .inr ⟨he,i,H4.put 9 (.loop (R .done (some .ret))) Z,hi,h4,fun j h1 h2=>hJ j ω h2⟩
  ·rintro _ W2 (⟨H,h⟩ | ⟨i,H,h1,h2,h3⟩)
   ·exact .inl ⟨H.box 9 Z,_,H.put 9 (.loop (R .exhausted none)) Z,fun j hj=>h j (Nat.zero_le _) hj⟩
   ·exact .inr ⟨H.box 9 Z,_,i,H.put 9 (.loop (R .exhausted (some .ret))) Z,h1,h2,h3⟩
 ·obtain ⟨o,HK,hn⟩:=hK
  show Code.wpIn _ _ _ _ _ _ _
  have ha5:GoodD [{ target := .collected w3.heap.size,args := #[] }] 39 { a3 with defers:=[{ target := .collected w3.heap.size,args := #[] }] } [(3,.pointer (some ⟨b1,0,none⟩)),(4,.pointer (some ⟨b2,0,none⟩)),(5,.pointer (some ⟨b3,0,none⟩)),(6,.pointer (some ⟨b4,0,none⟩)),(7,.pointer (some ⟨b5,0,none⟩))]:=
   ⟨by have:=ha3.1; exact this.weak ⟨rfl,rfl,rfl,rfl,rfl,trivial⟩,rfl⟩
  refine Ar (B:=fun L' w'=>sub L' [(3,.pointer (some ⟨b1,0,none⟩)),(4,.pointer (some ⟨b2,0,none⟩)),(5,.pointer (some ⟨b3,0,none⟩)),(6,.pointer (some ⟨b4,0,none⟩)),(7,.pointer (some ⟨b5,0,none⟩))]∧Sep No w [box b1 (.cells [.pointer (some ⟨zb,0,none⟩)].toArray 86),box b2 (.cells [.int .i64 g].toArray 2),box b3 (.cells [.int .i64 row].toArray 2),box b4 (.cells [.int .i64 0,.int .i64 0,.string ⟨#[]⟩,.int .i64 0,.int .i64 0,.int .i64 0,.slice none 0 0,.slice none 0 0,.slice none 0 0].toArray 59),box b5 (.cells [.bool false].toArray 4),mine [.slice sa vs.length sk] vs fp,box b6 (.cells [.slice sa vs.length sk].toArray 119),box b7 (.cells [.slice sa vs.length sk].toArray 119),box w3.heap.size (.deferred (some [])),box (w3.heap.size+1) o] [box zb (.cells [.int .i64 z.Shape.Groups,.int .i64 z.Shape.Column,.int .i64 z.Shape.Data,.int .i64 z.Shape.Spare,.int .i64 z.Shape.Rows,.int .i64 z.Shape.Cap,.int .i64 z.Shape.Batch,.int .i64 z.Shape.Queue,.int .i64 z.Shape.Stage,.slice zA9 z.Groups.length zC9,.slice zA10 z.On.length zC10,.slice zA11 z.Tapes.length zC11,.int .i64 z.Writes,.int .i64 z.Stop,.bool z.Down].toArray 31),seen false [.slice zA9 z.Groups.length zC9] z.Groups zF9,seen false [.slice zA10 z.On.length zC10] z.On zF10,seen false [.slice zA11 z.Tapes.length zC11] z.Tapes zF11] w') ha5 ?_ (fun a6 L6 w6 ha6 hB=>?_)
  ·refine mU (fa ah Z Z (aM kh Z Z) (J3 ah aO Z Z Z Z HK 3 Z Z (fun w7 _ H7=>?_)));dsimp only[lNA,lCA,lSZ,lSS,aI] at H7;refine Jl ah ts4 Z Z Z H7 4 Z Z (fun w8 _ H8=>?_)
   try dsimp only[lNA,lCA,lSZ,lSS] at H8
   exact qr ⟨Z,⟨Z,Z,Z,Z,Z,trivial⟩,H8⟩
  obtain ⟨hs6,H6⟩:=hB;refine wpIn_ret ?_;have HF:=H6.put 8 (.deferred none) Z
  try dsimp only[lNA,lCA,lSZ,lSS] at HF
  refine ⟨.inr Z,w3.heap.size,[(3,.pointer (some ⟨b1,0,none⟩)),(4,.pointer (some ⟨b2,0,none⟩)),(5,.pointer (some ⟨b3,0,none⟩)),(6,.pointer (some ⟨b4,0,none⟩)),(7,.pointer (some ⟨b5,0,none⟩))],ha6.weak hs6,H6.box 8 Z,Jv results150 Z (az aF Z aO Z (At.whole (HF.box 3 Z))) Z (l0 tu4 Z (am (HF.box 4 Z) Z)) ?_⟩;have hq:fH z g row = -1:=pn fun j hj=>by rw [← km hM ω]; exact hn j ω
  refine ⟨HF.ext,none,0,none,0,none,0,?_,?_⟩
  ·rw [Gf hq,It hq]; rfl
  ·rw [Gf hq]; exact sW
 ·obtain ⟨o,i,HK,hi,h4,h5⟩:=hK;have HF:=HK.put 8 (.deferred none) Z
  try dsimp only[lNA,lCA,lSZ,lSS] at HF
  refine ⟨.inr Z,w3.heap.size,[(3,.pointer (some ⟨b1,0,none⟩)),(4,.pointer (some ⟨b2,0,none⟩)),(5,.pointer (some ⟨b3,0,none⟩)),(6,.pointer (some ⟨b4,0,none⟩)),(7,.pointer (some ⟨b5,0,none⟩))],⟨by have:=ha3.1; exact this.weak ⟨Z,Z,Z,Z,Z,trivial⟩,Z⟩,HK.box 8 Z,Jv results150 Z (az aF Z aO Z (At.whole (HF.box 3 Z))) Z (l0 tu4 Z (am (HF.box 4 Z) Z)) ?_⟩;have hq:fH z g row=(i:Nat):=FU ω (by rw [← km hM hi]; exact h4) fun j h1 h2=>by rw [← km hM ω]; exact h5 j h1 ω
  have hr:(vs.getD i default).r=opR z g row:=by rw [Fz hq]; exact km hM hi
  refine ⟨HF.ext,(vs.getD i default).A6,(vs.getD i default).C6,(vs.getD i default).A7,(vs.getD i default).C7,(vs.getD i default).A8,(vs.getD i default).C8,?_,?_⟩
  ·rw [Ib ω,← hr,km hM hi]; rfl
  ·exact ((hR.inAt hi).val hr).to HF.ext
end Go.Wk
namespace Go.Wk
open Go.Proofs Rp Go.Proofs.Tryz
set_option maxRecDepth 10000
theorem mW {w:World}{r:Rec}{rA6 rA7 rA8:Option Addr}{rC6 rC7 rC8:Nat}(rK:r.Ok) (rS6:Sees w [.slice rA6 r.Rows.length rC6] r.Rows) (rS7:Sees w [.slice rA7 r.Data.length rC7] r.Data) (rS8:Sees w [.slice rA8 r.Delta.length rC8] r.Delta):Ret Tryz.prog 158 #[r.val rA6 rC6 rA7 rC7 rA8 rC8] w fun v w'=>Ext No w w'∧(v = .bool (dT r)):=by
 have rK2:=rK;unfold Rec.Ok at rK2
 try unfold I64ok at rK2
 try unfold maxLen at rK2
 have rN2:r.Name.size≤maxLen:=by unfold maxLen; omega
 have rL6:=sL rS6;obtain ⟨rF6,rO6⟩:=rS6;have rL7:=sL rS7;obtain ⟨rF7,rO7⟩:=rS7;have rL8:=sL rS8;obtain ⟨rF8,rO8⟩:=rS8;refine aH func158 Z ntmps158 Z (fun Q hQ hN=>?_);have H0:=Sep.start (ae rO6 (ae rO7 (ae rO8 aA)));refine ab (bm ah Z Z H0 (fun b1 w1 e1 g1 H1=>sA Z Z (aa (ac (ab (sF aF Z aZ (sLd aU (H1.box 0 Z) Z (sV Z (aS aU Z) (sM Z Z (aa (ay (bJ (γ:=Nat) (fun k=>[(1,.pointer (some ⟨b1,0,none⟩)),(6,.slice rA8 r.Delta.length rC8),(7,.int .i64 r.Delta.length),(8,.int .i64 k)]) (fun k w'=>Sep No w [box b1 (.cells (r.val rA6 rC6 rA7 rC7 rA8 rC8).cells 59)] [seen false [.slice rA6 r.Rows.length rC6] r.Rows rF6,seen false [.slice rA7 r.Data.length rC7] r.Data rF7,seen false [.slice rA8 r.Delta.length rC8] r.Delta rF8] w'∧k≤r.Delta.length∧(∀ i,i<k→mg r i=true)) (fun k=>r.Delta.length-k) 0 ⟨Z,Z,Z,Z,trivial⟩ ⟨H1,ω,fun i hi=>by omega⟩ (fun k w2 H2=>?_)))))))))))));obtain ⟨H2,hk,he⟩:=H2;refine ab (sV Z (aY Z Z) (aa (ac (aD Z (fun c1=>?_) (fun c1=>?_)))))
 ·refine ax (ac (ay (ac ?_)));obtain ⟨eb1,eo1,ee1,ec1⟩:=cD (H2.seen 2 Z) k ω;refine an (sM Z Z (sV Z (aB aU ts5 Z Z ee1 k ω ω) (sV Z (aj tu5 Z Z ec1) (sR 2 Z (aa (ab (sR 3 Z (bU 5 (j:=2) (want:=true) (t:=20) Z Z Z Z (fun hg1 kk1=>au (wgE Z Z Z hg1) Z Z (ag aF Z cB Z Z) (au (wgE Z Z Z hg1) Z Z (aj bv Z Z (am (H2.box 0 Z) Z)) (au (wgE Z Z Z hg1) Z Z (aJ Z) (cw (wgE Z Z Z hg1) Z Z (aV func115 Z iQ Z) (bP (H2.sees 0 Z)) (fun w4 e3=>au (wgE Z Z Z hg1) Z Z (bg Z) (kk1 _ _ (kx Z (kx Z (kx Z (kx Z (kx Z k0))))) Z (Ext.refl.trans e3))))))) (fun w3 e2=>?_)))))))));have H3:=H2.to e2;refine sV Z (bR Z Z) (aa (cK Z (fun c2=>?_) (fun c2=>?_)))
  ·refine ab (rA hQ results158 Z ?_);exact ⟨H3.ext,by rw [Ep (k:=k) ω (by rw [xP,c2]; rfl)]⟩
  ·refine ax (an (sV Z (aE Z Z iO) (sM Z Z (aa (⟨k+1,⟨Z,Z,Z,Z,trivial⟩,⟨H3,ω,fun i hi=>?_⟩,θ⟩)))))
   by_cases e:i=k
   ·subst e; rw [xP,c2]; rfl
   ·exact he i ω
 ·refine aP (ab (sF aF Z ts2 (sLd tu2 (H2.box 0 Z) Z (sR 2 Z (rN hQ results158 Z ?_)))));exact ⟨H2.ext,by rw [Eo (fun i hi=>he i ω)]⟩
end Go.Wk
namespace Go.Wk
open Go.Proofs Rp Go.Proofs.Tryz
set_option maxRecDepth 10000
theorem ks {w:World}{zb zC9 zC10 zC11:Nat}{z:Wld}{zA9 zA10 zA11:Option Addr}{zF9 zF10 zF11:List Nat}{g row:Int}(zB:w.heap[zb]? = some (.cells [.int .i64 z.Shape.Groups,.int .i64 z.Shape.Column,.int .i64 z.Shape.Data,.int .i64 z.Shape.Spare,.int .i64 z.Shape.Rows,.int .i64 z.Shape.Cap,.int .i64 z.Shape.Batch,.int .i64 z.Shape.Queue,.int .i64 z.Shape.Stage,.slice zA9 z.Groups.length zC9,.slice zA10 z.On.length zC10,.slice zA11 z.Tapes.length zC11,.int .i64 z.Writes,.int .i64 z.Stop,.bool z.Down].toArray 31)) (zK:z.Ok) (zO9:own false w [.slice zA9 z.Groups.length zC9] z.Groups zF9) (zO10:own false w [.slice zA10 z.On.length zC10] z.On zF10) (zO11:own false w [.slice zA11 z.Tapes.length zC11] z.Tapes zF11) (hT:z.Tapes.length=2) (hrl:∀ k,(z.Tapes.getD k default).Recs.length≤200000) (hb:ez z≤1048576):Ret Tryz.prog 91 #[.pointer (some ⟨zb,0,none⟩),.int .i64 g,.int .i64 row] w fun v w'=>Ext No w w'∧(∃ A C A6 C6 A7 C7 A8 C8,v = .tuple #[.slice A (nn z g row).length C,(tj z g row).val A6 C6 A7 C7 A8 C8,.int .i64 (ep z g row)]∧Res w w' [.slice A (nn z g row).length C] (nn z g row)∧InF w' zF11 (RecV.mk (tj z g row) A6 C6 A7 C7 A8 C8).cs (tj z g row)):=by
 have zK2:=zK;unfold Wld.Ok Shape.Ok at zK2
 try unfold I64ok at zK2
 try unfold maxLen at zK2
 have zL9:=oL zO9;have zL10:=oL zO10;have zL11:=oL zO11;have hsz:=Fe (z:=z) (g:=g) (row:=row);have hszu:(opR z g row).Data.length≤fX (opR z g row):=by unfold fX; omega
 refine aH func91 Z ntmps91 Z (fun Q hQ hN=>?_);have H0:=Sep.start (cQ zB (ae zO9 (ae zO10 (ae zO11 aA))));refine ab (sA Z Z (bH ah Z zeroValue59 H0 (fun b1 w1 e1 g1 H1=>sA Z Z (aa (ab (sR 3 Z (sC func150 pK Z (er (H1.fbox 0 Z) η (aC (H1.seen 1 Z)) (aC (H1.seen 2 Z)) (aC (H1.seen 3 Z)) ξ ξ) (fun v1 w2 r1=>?_))))))));obtain ⟨e2,pA1,pA2,pA3,pA4,pA5,pA6,rfl,hI1⟩:=r1;have H2:=H1.to e2;obtain ⟨pf1,pf2,pf3,pok1,pl1,pl2,pl3,H3⟩:=H2.recF 3 Z hI1;unfold maxLen at pl1 pl2 pl3
 try dsimp only[lNA,lCA,lSZ,lSS] at H3
 refine sR 3 Z (bH ah Z zeroValue59 H3 (fun b2 w3 e3 g2 H4=>aG ah aO Z Z Z Z H4 1 Z Z (fun w4 e4 H5=>?_)));dsimp only[lNA,lCA,lSZ,lSS,aI] at H5;refine sA Z Z (aa (ac (ay (ab (sM Z Z (sV Z (bg Z) (sA Z Z (aa (cK Z (fun c1=>?_) (fun c1=>?_))))))))))
 ·refine ab (sV Z (aM kh Z Z) (sA Z Z (aG ah aO Z Z Z Z H5 0 Z Z (fun w5 e5 H6=>?_))));dsimp only[lNA,lCA,lSZ,lSS,aI] at H6;refine sA Z Z (aa (bc (hQ _ _ (Bq results91 Z (az aF Z aO Z (At.whole (H6.box 0 Z))) Z Z (⟨H6.ext,none,0,none,0,none,0,none,0,?_,?_,?_⟩)))))
  ·rw [nQ (ju (by simpa using c1) ▸ by omega),of (ju (by simpa using c1) ▸ by omega),ju (by simpa using c1)]; rfl
  ·rw [nQ (ju (by simpa using c1) ▸ by omega)]; exact ⟨[],.inr (.inl ⟨rfl,rfl,rfl⟩),.nil,σ⟩
  ·rw [of (ju (by simpa using c1) ▸ by omega)]; exact sW
 ·refine ab (sV Z (ak aF Z aO Z Z (At.whole (H5.box 1 Z))) (sE func158 A2 Z (mW η (H5.sees 4 Z) (H5.sees 5 Z) (H5.sees 6 Z)) H5 (fun w6 e6 H7=>sV Z (bg Z) (sA Z Z (aa (cK Z (fun c2=>?_) (fun c2=>?_)))))))
  ·refine ab (sV Z (aM kh Z Z) (sA Z Z (aG ah aO Z Z Z Z H7 0 Z Z (fun w7 e7 H8=>?_))));dsimp only[lNA,lCA,lSZ,lSS,aI] at H8;refine sA Z Z (aa (bc (hQ _ _ (Bq results91 Z (az aF Z aO Z (At.whole (H8.box 0 Z))) Z Z ?_))));have hcz:ep z g row=6:=y8 (by simpa using c1) (by simpa using c2);refine ⟨H8.ext,none,0,none,0,none,0,none,0,?_,?_,?_⟩
   ·rw [nQ ω,of ω,hcz]; rfl
   ·rw [nQ ω]; exact ⟨[],.inr (.inl ⟨rfl,rfl,rfl⟩),.nil,σ⟩
   ·rw [of ω]; exact sW
  ·refine ax (ac (cd (S:=Ext (· ∈ [b1]) _) (oQ [1,3,7,4,9,10,12]) κ κ κ Z (fun _=>Ext.refl.drawn _) (fun q1=>?_)));have H9:=H7.drawn q1;refine dV Z Z (fun zw hx=>ag aF Z aZ Z Z) (dV Z Z (fun zw hx=>aj aU Z Z (am (hx.heapM (H9.boff 1 Z 0 Z Z) (H9.box 1 Z)) Z)) (dV Z Z (fun zw hx=>ak aF Z aO Z Z (At.whole (hx.heapM (H9.boff 1 Z 0 Z Z) (H9.box 1 Z)))) (dC func62 bj Z (aQ (H9.sees 5 Z) ω) (fun v3 w8 r3=>?_))));obtain ⟨e8,r3⟩:=r3;obtain ⟨fp1,H10⟩:=H9.res e8 r3;obtain ⟨a1,k1,q2⟩:=ao (H10.mine 2 Z);cases q2;refine dV Z Z (fun zw hx=>bt Z) (tP Z ah aO Z Z Z Z H10 0 Z Z (fun _ h e _=>h.trans (e.mono fun _ _ q=>by simp [q])) (fun w9 e9 H11=>?_));dsimp only[lNA,lCA,lSZ,lSS,aI] at H11;refine aW Z ah Z Z (bt Z) (bb (bc (hQ _ _ (Bq results91 Z (az aF Z aO Z (At.whole (H11.box 0 Z))) Z Z ?_))));have hcz:ep z g row=0:=BA (by simpa using c1) (by simpa using c2);rw [zL hcz,zM hcz,hcz];exact ⟨H11.ext,_,_,pA1,pA2,pA3,pA4,pA5,pA6,Z,H11.out 2 Z,(hI1.back H2.ext (Rp.lt zO11)).to H11.ext⟩
theorem nB {w:World}{z:Wld}{zA9 zA10 zA11:Option Addr}{zC9 zC10 zC11:Nat}{g row:Int}(zK:z.Ok) (zS9:Sees w [.slice zA9 z.Groups.length zC9] z.Groups) (zS10:Sees w [.slice zA10 z.On.length zC10] z.On) (zS11:Sees w [.slice zA11 z.Tapes.length zC11] z.Tapes) (hb:ez z≤1048576):Ret Tryz.prog 32 #[z.val zA9 zC9 zA10 zC10 zA11 zC11,.int .i64 g,.int .i64 row] w fun v w'=>Ext No w w'∧(∃ A1 C1,v=(iX z g row).val A1 C1∧Res w w' [.int .i64 (iX z g row).Code,.slice A1 (iX z g row).Bytes.length C1] (iX z g row)):=by
 have zK2:=zK;unfold Wld.Ok Shape.Ok at zK2
 try unfold I64ok at zK2
 try unfold maxLen at zK2
 have zL9:=sL zS9;obtain ⟨zF9,zO9⟩:=zS9;have zL10:=sL zS10;obtain ⟨zF10,zO10⟩:=zS10;have zL11:=sL zS11;obtain ⟨zF11,zO11⟩:=zS11;refine aH func32 Z ntmps32 Z (fun Q hQ hN=>?_);have H0:=Sep.start (ae zO9 (ae zO10 (ae zO11 aA)));refine ab (bm ah Z Z H0 (fun b1 w1 e1 g1 H1=>bH ah Z zeroValue44 H1 (fun b2 w2 e2 g2 H2=>aa (ab (sV Z (ak ba Z bZ Z Z (At.whole (H2.box 0 Z))) (sE func69 qQ Z (fY η (H2.sees 0 Z) (H2.sees 1 Z) (H2.sees 2 Z)) H2 (fun w3 e3 H3=>sA Z Z (aa (ac (ay (ab (sR 3 Z (aa (aD Z (fun c1=>?_) (fun c1=>?_)))))))))))))))
 ·refine ab (sM Z Z (sV Z (aM qX Z Z) (aG ah BP Z Z Z Z H3 1 Z Z (fun w4 e4 H4=>?_))));dsimp only[lNA,lCA,lSZ,lSS,aI] at H4;refine aa (bc (hQ _ _ (cr results32 Z (az FF Z BP Z (At.whole (H4.box 1 Z))) ?_)));rw [vn (by rw [wv ω]; omega),wv ω];exact ⟨H4.ext,none,0,Z,vi (by unfold I64ok; have:=nU (z:=z); dsimp only; omega)⟩
 ·refine ac ?_;obtain ⟨hs,hG,hO⟩:=bx (w:=z) ω;refine an (sF ba Z br (sV Z (ak be Z br Z Z (At.sub (H3.box 0 Z) 9)) (sM Z Z (sE func58 fZ Z (bM η) H3 (fun w5 e5 H5=>sV Z (bg Z) (sM Z Z (bU 5 (j:=5) (want:=false) (t:=28) Z Z Z Z (fun hg1 kk1=>au (wgE Z Z Z hg1) Z Z (ag ba Z br Z Z) (au (wgE Z Z Z hg1) Z Z (ak be Z br Z Z (At.sub (H5.box 0 Z) 9)) (au (wgE Z Z Z hg1) Z Z (aJ Z) (cw (wgE Z Z Z hg1) Z Z (aV func71 Z ja Z) (cy η) (fun w7 e7=>au (wgE Z Z Z hg1) Z Z (bg Z) (kk1 _ _ (kx Z (kx Z (kx Z (kx Z (kx Z k0))))) Z (Ext.refl.trans e7))))))) (fun w6 e6=>?_))))))));have H6:=H5.to e6;refine sV Z (dO Z Z) (sA Z Z (aa (cK Z (fun c2=>?_) (fun c2=>?_))))
  ·refine ac ?_;have aq:jW z g row=3:=rd ω (by rw [fS hs]; revert c2; cases ins g 0 (z.Shape.Groups+z.Shape.Column-1)<;>cases ins row 0 (z.Shape.Rows-1)<;>simp);refine an (sV Z (aM qX Z Z) (aG ah BP Z Z Z Z H6 1 Z Z (fun w8 e8 H7=>?_)));dsimp only[lNA,lCA,lSZ,lSS,aI] at H7;refine aa (bc (hQ _ _ (cr results32 Z (az FF Z BP Z (At.whole (H7.box 1 Z))) ?_)));rw [vn (by rw [aq]; omega),aq];exact ⟨H7.ext,none,0,Z,vi (by unfold I64ok; have:=nU (z:=z); dsimp only; omega)⟩
  ·refine ax (ac ?_);have hw0:cz z=0:=by omega
   obtain ⟨hs,hG,hO⟩:=bx hw0;have hT:=(bx hw0).2.2.2.1;have hrl:=lZ hw0;have hpl:ne z.Shape g 0 row=true:=by rw [fS hs]; revert c2; simp
   have aq:jW z g row=0:=tk hw0 hpl;have hsz:=Fe (z:=z) (g:=g) (row:=row);have hwe:=Fl aq;refine an (sR 2 Z (sC func91 Dl Z (ks (H6.box 0 Z) η (aC (H6.seen 0 Z)) (aC (H6.seen 1 Z)) (aC (H6.seen 2 Z)) ξ ξ ξ) (fun v3 w9 r3=>?_)));obtain ⟨e9,pA1,pA2,pA3,pA4,pA5,pA6,pA7,pA8,rfl,r3,hI1⟩:=r3;obtain ⟨fp1,H8⟩:=H6.res e9 r3;refine sR 4 Z (bH ah Z zeroValue59 H8 (fun b3 w10 e10 g3 H9=>sA Z Z (aG ah aO Z Z Z Z H9 3 Z Z (fun w11 e11 H10=>?_))));dsimp only[lNA,lCA,lSZ,lSS,aI] at H10;refine sA Z Z (aa (ab (sR 2 Z (sV Z (aM qX Z Z) (aG ah BP Z Z Z Z H10 1 Z Z (fun w12 e12 H11=>?_))))));dsimp only[lNA,lCA,lSZ,lSS,aI] at H11;refine aa (bc (hQ _ _ (cr results32 Z (az FF Z BP Z (At.whole (H11.box 1 Z))) ?_)));rw [hwe];exact ⟨H11.ext,_,_,Z,BytesResult.out (x:=⟨ep z g row,nn z g row⟩) (H11.sub (.cons _ (.cons _ (.cons_cons _ (.cons _ List.Sublist.slnil))))) (by have:=EO (z:=z) (g:=g) (row:=row); show I64ok (ep z g row); unfold I64ok; omega)⟩
end Go.Wk
namespace Go.Wk
open Go.Proofs Rp Go.Proofs.Tryz
set_option maxRecDepth 10000
theorem lL {w:World}{xs:List UInt8}{xsA:Option Addr}{xsC:Nat}{c:UInt8}(xsS:Sees w [.slice xsA xs.length xsC] xs) (hl:xs.length≤100000):Ret Tryz.prog 214 #[.slice xsA xs.length xsC,.int .u8 c.toNat] w fun v w'=>Ext No w w'∧(Res w w' [v] (bD xs c)):=by
 have xsL:=sL xsS;obtain ⟨xsF,xsO⟩:=xsS;refine aH func214 Z ntmps214 Z (fun Q hQ hN=>?_);have H0:=Sep.start (ae xsO aA);refine ab (sA Z Z (aa (ab (sM Z Z (sV Z (aS aU Z) (mz ah Z aU cb ph Z ω (by unfold maxLen; omega) H0 (fun b1 w1 e1 g1 H1=>sA Z Z (aa (ac ?_)))))))));have rl:(List.replicate xs.length (0:UInt8)).length=xs.length:=List.length_replicate;refine an (sR 3 Z (sC func216 pj Z (kY (H1.mine 0 Z) (H1.nodup1 (i:=0) Z) (aC (H1.seen 0 Z)) (fun b hb=>H1.off 0 Z 0 Z hb) ξ) (fun v1 w2 r1=>?_)));obtain ⟨fp1,H2⟩:=H1.mut 0 Z r1;refine aa (ab (sR 2 Z (rN hQ results214 Z ?_)))
 exact ⟨H2.ext,by
  have h:=H2.out 0 Z
  rwa [nF (cY xs c)] at h⟩
theorem qO {w:World}{K l n:Nat}{m:Mat}{vs0:List View}{VA:Option Addr}{VC:Nat}{fp g0:List Nat}(o:own true w [.slice VA K VC] vs0 fp) (nd:fp.Nodup) (hr0:bV false w (vs0.map View.val) m g0) (hd:∀ b∈g0,b ∉ fp) (vl0:vs0.length=K) (hR0:Rect m K l) (hn:n<l∧l≤1000∧1≤K∧K≤1000):Ret Tryz.prog 307 #[.slice VA K VC,.int .i64 n] w fun v w'=>(v = .int .i64 ((redM m n).2:Nat)∧RowsMut w w' fp (.slice VA K VC) K (redM m n).1):=by
 refine aH func307 Z ntmps307 Z (fun Q hQ hN=>?_);have H0:=Sep.beginRows o nd hr0 hd;refine ab (sA Z Z (aa (ab (sA Z Z (aa (ac (ab (sA Z Z (aa (ay (bJ (γ:=Nat × Mat × Nat × List View × List Nat × List Nat) (fun (c,M,r,vs,f,g)=>[(0,.slice VA K VC),(1,.int .i64 n),(5,.int .i64 r),(6,.int .i64 c)]) (fun (c,M,r,vs,f,g) w'=>Sep (· ∈ fp) w [mine [.slice VA K VC] vs f] [rows vs M g] w'∧c≤n∧redM m c=(M,r)∧Rect M K l∧r≤K∧vs.length=K) (fun (c,M,r,vs,f,g)=>n-c) (0,m,0,_,_,_) ⟨Z,Z,Z,Z,trivial⟩ ⟨H0,ω,Z,hR0,ω,vl0⟩ (fun (c,M,r,vs,f,g) w1 H1=>?_))))))))))));obtain ⟨H1,hc,hred,hR,hrK,vl⟩:=H1;refine ac (ab (sR 3 Z (aa (aD Z (fun c1=>?_) (fun c1=>?_)))))
 ·refine ax (ac (ay (ab (sA Z Z (aa (ac (ac ?_)))))));have xl:=hR.1;refine an (sR 2 Z (aa (ay (bJ (γ:=Nat) (fun j=>[(0,.slice VA K VC),(1,.int .i64 n),(5,.int .i64 r),(6,.int .i64 c),(7,.int .i64 (-1)),(8,.int .i64 j)]) (fun j w'=>Sep (· ∈ fp) w _ _ w'∧r≤j∧j≤K∧∀ i,r≤i→i<j→entry M i c=0) (fun j=>K-j) r ⟨Z,Z,Z,Z,Z,Z,trivial⟩ ⟨H1,ω,ω,fun i h1 h2=>by omega⟩ (fun j w2 H2=>?_)))));obtain ⟨H2,hj1,hj2,hnz⟩:=H2;refine ac (ab (sR 2 Z (sV Z (aS cE Z) (sV Z (aY Z Z) (aa (aD Z (fun c2=>?_) (fun c2=>?_)))))))
  ·refine ax (ac (ay (ac ?_)));have e1:=hR.2 j ω;obtain ⟨eb1,eo1,ea1,ek1,ef1,ee1,ec1,eO1,eH1,em1⟩:=ia (H2.mine 0 Z) (H2.rowsAt 0 Z) (by first | omega | (simp only [List.length_set]; omega)) j (by first | omega | (simp only [List.length_set]; omega));have eP1:=H2.lookR 0 Z eO1 eH1;obtain ⟨eb2,eo2,ee2,ec2⟩:=cD (eP1.seen 1 Z) c ω;refine an (sR 2 Z (sV Z (aB cE aZ Z Z ee1 j ω ω) (sV Z (aj aU Z Z ec1) (sM Z Z (sV Z (aB aU ts5 Z Z ee2 c ω ω) (sV Z (aj tu5 Z Z ec2) (sV Z (es Z Z) (aa (aD Z (fun c3=>?_) (fun c3=>?_))))))))))
   ·refine ab (sR 2 Z (aa (aP (ac (ac ?_)))));have hpv:ni M c r=j:=yV ω ω hnz (.inr (fun e=>c3 (by rw [entry] at e; rw [e]; rfl)));refine an (sR 2 Z (aa (aD Z (fun c4=>?_) (fun c4=>?_))))
    ·exact absurd c4 ω
    ·refine ax (ac ?_);obtain ⟨eb3,eo3,ea2,ek2,ef2,ee3,ec3,eO2,eH2,em2⟩:=ia (eP1.mine 0 Z) (eP1.rowsAt 0 Z) (by first | omega | (simp only [List.length_set]; omega)) j (by first | omega | (simp only [List.length_set]; omega));have eP2:=eP1.lookR 0 Z eO2 eH2;obtain ⟨eb4,eo4,ea3,ek3,ef3,ee4,ec4,eO3,eH3,em3⟩:=ia (eP2.mine 0 Z) (eP2.rowsAt 0 Z) (by first | omega | (simp only [List.length_set]; omega)) r (by first | omega | (simp only [List.length_set]; omega));have eP3:=eP2.lookR 0 Z eO3 eH3;refine cd (S:=fun zw=>zw.cell? ⟨eb3,eo3+j*1,none⟩=some (.slice ea2 (M.getD j []).length ek2)) (oQ [1,3,5,7,9,11,13,17,19,21,15,22,24,26,28,30]) κ κ κ Z (fun _=>ec3) (fun q1=>?_);have H3:=eP3.drawn q1;refine dR 6 Z (dV Z Z (fun zw hx=>aB cE aZ Z Z ee3 j ω ω) (dR 2 Z (dV Z Z (fun zw hx=>aB cE aZ Z Z ee4 r ω ω) (dV Z Z (fun zw hx=>aj aU Z Z hx) (aW Z ah Z Z (aj aU Z Z ec4) (aW Z ah Z Z (aB cE aZ Z Z ee4 r ω ω) (qw Z ah aZ H3 0 0 2 Z Z Z (by first | omega | (simp only [List.length_set]; omega)) r (by first | omega | (simp only [List.length_set]; omega)) Z ee4 Z (fun b o cur T e1 hb hs hc _=>by   rw [ee3] at e1;   cases e1;   exact DE hb hs hc) (fun w3 fp1 gp1 H4=>?_))))))))
     try dsimp only[lNA,lCA,lSZ,lSS] at H4
     refine aW Z ah Z Z (aB cE aZ Z Z ee3 j ω ω) (qw Z ah aZ H4 0 0 3 Z Z Z (by first | omega | (simp only [List.length_set]; omega)) j (by first | omega | (simp only [List.length_set]; omega)) Z ee3 Z (fun _ _ _ _ _ _ _ _ hr=>absurd Z hr) (fun w4 fp2 gp2 H5=>?_))
     try dsimp only[lNA,lCA,lSZ,lSS] at H5
     refine bb (ac ?_);have hsR:=hR.swap (r:=r) (a:=j) ω ω;have e2:(((M.set r (M.getD j [])).set j (M.getD r [])).getD r []).length=l:=hsR.2 r ω;obtain ⟨eb5,eo5,ea4,ek4,ef4,ee5,ec5,eO4,eH4,em4⟩:=ia (H5.mine 0 Z) (H5.rowsAt 0 Z) (by first | omega | (simp only [List.length_set]; omega)) r (by first | omega | (simp only [List.length_set]; omega));have eP4:=H5.lookR 0 Z eO4 eH4;obtain ⟨eb6,eo6,ee6,ec6⟩:=cD (eP4.seen 4 Z) c ω;refine cd (S:=Ext No _) (oQ [1,3,5,7,9,11,13,15,17,19,21,23,25,26,28,31,32]) κ κ κ Z (fun _=>Ext.refl.drawn _) (fun q2=>?_);have H6:=eP4.drawn q2;refine dR 4 Z (dV Z Z (fun zw hx=>aB cE aZ Z Z ee5 r ω ω) (dV Z Z (fun zw hx=>aj aU Z Z (hx.cell ec5)) (dR 2 Z (dV Z Z (fun zw hx=>aB cE aZ Z Z ee5 r ω ω) (dV Z Z (fun zw hx=>aj aU Z Z (hx.cell ec5)) (dM Z Z Z (dV Z Z (fun zw hx=>aB aU ts5 Z Z ee6 c ω ω) (dV Z Z (fun zw hx=>aj tu5 Z Z (hx.cell ec6)) (dC func264 pb Z (kZ (a:=1)) (fun v1 w5 r1=>?_))))))))));obtain ⟨e3,rfl⟩:=r1;have H7:=H6.to e3;refine dC func214 s5 Z (lL (H7.sees 4 Z) ω) (fun v2 w6 r2=>?_);obtain ⟨e4,r2⟩:=r2;obtain ⟨fp3,H8⟩:=H7.res e4 r2;obtain ⟨a1,k1,q3⟩:=ao (H8.mine 1 Z);cases q3;refine dV Z Z (fun zw hx=>aB cE aZ Z Z ee5 r ω ω) ?_;have H10:=H8.share 1 Z
     try dsimp only[lNA,lCA,lSZ,lSS] at H10
     refine qw Z ah aZ H10 0 0 5 Z Z Z (by first | omega | (simp only [List.length_set]; omega)) r (by first | omega | (simp only [List.length_set]; omega)) Z ee5 Z (fun _ _ _ _ _ _ _ _ hr=>absurd Z hr) (fun w7 fp4 gp3 H9=>?_)
     try dsimp only[lNA,lCA,lSZ,lSS] at H9
     refine bb (ac (ac ?_));have HN:=H9;rw [I2 ω ω] at HN;refine an (sM Z Z (sV Z (aS cE Z) (sM Z Z (aa (ay (bJ (γ:=Nat × List View × List Nat × List Nat) (fun (i,vs2,f2,g2)=>[(0,.slice VA K VC),(1,.int .i64 n),(5,.int .i64 r),(6,.int .i64 c),(63,.slice VA K VC),(64,.int .i64 K),(65,.int .i64 i)]) (fun (i,vs2,f2,g2) w'=>Sep (· ∈ fp) w [mine [.slice VA K VC] vs2 f2] [rows vs2 (cT (rW M c r j) c r i) g2] w'∧i≤K∧vs2.length=K) (fun (i,vs2,f2,g2)=>K-i) (0,_,_,_) ⟨Z,Z,Z,Z,Z,Z,Z,trivial⟩ ⟨by rw [zg]; exact ((HN.ftake 1).dtake 1),ω,by simp only [List.length_set]; omega⟩ (fun (i,vs2,f2,g2) w8 H11=>?_)))))));obtain ⟨H11,hi,vl2⟩:=H11;refine ab (sV Z (aY Z Z) (aa (ac (aD Z (fun c5=>?_) (fun c5=>?_)))))
     ·refine ax (ac (ay (ab (sR 2 Z (aa (ac ?_))))));have nR:=hR.norm (c:=c) (r:=r) (a:=j) ω ω;have eR:=nR.elim (c:=c) (r:=r) (k:=i) ω;have xl2:=eR.1;have e3:=eR.2 i ω;have e4:=eR.2 r ω;obtain ⟨eb7,eo7,ea5,ek5,ef5,ee7,ec7,eO5,eH5,em5⟩:=ia (H11.mine 0 Z) (H11.rowsAt 0 Z) (by first | omega | (simp only [List.length_set]; omega)) i (by first | omega | (simp only [List.length_set]; omega));have eP5:=H11.lookR 0 Z eO5 eH5;obtain ⟨eb8,eo8,ee8,ec8⟩:=cD (eP5.seen 1 Z) c ω;refine an (sR 4 Z (bU 8 (j:=3) (want:=true) (t:=79) Z Z Z Z (fun hg1 kk1=>au (wgE Z Z Z hg1) Z Z (aJ Z) (au (wgE Z Z Z hg1) Z Z (aJ Z) (au (wgE Z Z Z hg1) Z Z (aB cE aZ Z Z ee7 i (by first | omega | (simp only [Bool.or_eq_false_iff,Bool.and_eq_true,Bool.and_eq_false_iff,Bool.or_eq_true,Bool.not_eq_true',Bool.not_eq_false',decide_eq_true_eq,decide_eq_false_iff_not] at hg1; omega)) ω) (au (wgE Z Z Z hg1) Z Z (aj aU Z Z ec7) (au (wgE Z Z Z hg1) Z Z (aJ Z) (au (wgE Z Z Z hg1) Z Z (aB aU ts5 Z Z ee8 c (by first | omega | (simp only [Bool.or_eq_false_iff,Bool.and_eq_true,Bool.and_eq_false_iff,Bool.or_eq_true,Bool.not_eq_true',Bool.not_eq_false',decide_eq_true_eq,decide_eq_false_iff_not] at hg1; omega)) ω) (au (wgE Z Z Z hg1) Z Z (aj tu5 Z Z ec8) (au (wgE Z Z Z hg1) Z Z (es Z Z) (kk1 _ _ (kx Z (kx Z (kx Z (kx Z (kx Z (kx Z (kx Z (kx Z k0)))))))) Z Ext.refl))))))))) (fun w9 e6=>?_)));have H12:=eP5.to e6;refine sV Z (bR Z Z) (aa (cK Z (fun c6=>?_) (fun c6=>?_)))
      ·obtain ⟨eb9,eo9,ea6,ek6,ef6,ee9,ec9,eO6,eH6,em6⟩:=ia (H12.mine 0 Z) (H12.rowsAt 0 Z) (by first | omega | (simp only [List.length_set]; omega)) i (by first | omega | (simp only [List.length_set]; omega));have eP6:=H12.lookR 0 Z eO6 eH6;obtain ⟨eb10,eo10,ea7,ek7,ef7,ee10,ec10,eO7,eH7,em7⟩:=ia (eP6.mine 0 Z) (eP6.rowsAt 0 Z) (by first | omega | (simp only [List.length_set]; omega)) r (by first | omega | (simp only [List.length_set]; omega));have eP7:=eP6.lookR 0 Z eO7 eH7;obtain ⟨eb11,eo11,ee11,ec11⟩:=cD (eP7.seen 2 Z) c ω;refine cd (S:=Ext No _) (oQ [1,3,5,7,9,11,13,15,17,19,21,23,25,27,29,31,33,34,37,38]) κ κ κ Z (fun _=>Ext.refl.drawn _) (fun q4=>?_);have H13:=eP7.drawn q4;refine dR 4 Z (dV Z Z (fun zw hx=>aB cE aZ Z Z ee9 i ω ω) (dV Z Z (fun zw hx=>aj aU Z Z (hx.cell ec9)) (dR 2 Z (dV Z Z (fun zw hx=>aB cE aZ Z Z ee10 r ω ω) (dV Z Z (fun zw hx=>aj aU Z Z (hx.cell ec10)) (dR 2 Z (dV Z Z (fun zw hx=>aB cE aZ Z Z ee9 i ω ω) (dV Z Z (fun zw hx=>aj aU Z Z (hx.cell ec9)) (dM Z Z Z (dV Z Z (fun zw hx=>aB aU ts5 Z Z ee11 c ω ω) (dV Z Z (fun zw hx=>aj tu5 Z Z (hx.cell ec11)) (dC func146 pL Z (kU (H13.sees 2 Z) (H13.sees 3 Z) ξ) (fun v3 w10 r3=>?_)))))))))))));obtain ⟨e7,r3⟩:=r3;obtain ⟨fp5,H14⟩:=H13.res e7 r3;obtain ⟨a2,k2,q5⟩:=ao (H14.mine 1 Z);cases q5;refine dV Z Z (fun zw hx=>aB cE aZ Z Z ee9 i ω ω) ?_;have H16:=H14.share 1 Z
       try dsimp only[lNA,lCA,lSZ,lSS] at H16
       refine qw Z ah aZ H16 0 0 4 Z Z Z (by first | omega | (simp only [List.length_set]; omega)) i (by first | omega | (simp only [List.length_set]; omega)) Z ee9 Z (fun _ _ _ _ _ _ _ _ hr=>absurd Z hr) (fun w11 fp6 gp4 H15=>?_)
       try dsimp only[lNA,lCA,lSZ,lSS] at H15
       refine bb (an (sV Z (aE Z Z iO) (sM Z Z (aa ?_))));have hz:=((H15.ftake 1).dtake 1);rw [BR (by rw [nR.1]; omega) (Ik (N:=[[]]) (c:=c) c6) (by rw [vu (by rw [nR.1]; omega),G5 (by rw [nR.1]; omega)]; rfl)] at hz;refine ⟨(i+1,_,_,_),⟨Z,Z,Z,Z,Z,Z,Z,trivial⟩,⟨hz,ω,by simp only [List.length_set]; omega⟩,θ⟩
      ·refine ax (an (sV Z (aE Z Z iO) (sM Z Z (aa ?_))));have hz:=(H12.ftake 1);rw [DK nR ω ω c6] at hz;refine ⟨(i+1,_,_,_),⟨Z,Z,Z,Z,Z,Z,Z,trivial⟩,⟨hz,ω,vl2⟩,θ⟩
     ·refine aP (an (sM Z Z (sV Z (aE Z Z iO) (sA Z Z (aa (an (sM Z Z (sV Z (aE Z Z iO) (sA Z Z (aa ?_))))))))));have hz:=H11;rw [show i=K by omega] at hz;refine ⟨(c+1,cT (rW M c r j) c r K,r+1,_,_,_),⟨Z,Z,Z,Z,trivial⟩,⟨hz,ω,(DB hred hpv ω).trans (by rw [xl]),(hR.norm ω ω).elim ω,ω,vl2⟩,θ⟩
   ·refine ax (an (sM Z Z (sV Z (aE Z Z iO) (sA Z Z (aa (⟨j+1,⟨Z,Z,Z,Z,Z,Z,trivial⟩,⟨(eP1.ftake 1),ω,ω,fun i h1 h2=>?_⟩,θ⟩))))))
    by_cases e:i=j
    ·subst e; show (M.getD i []).getD c 0=0; exact qd ω
    ·exact hnz i h1 ω
  ·refine aP (ac (ac ?_));have hpv:ni M c r=M.length:=yV ω (Nat.le_refl _) (fun i h1 h2=>hnz i h1 ω) (.inl Z);refine an (sR 2 Z (aa (aD Z (fun c7=>?_) (fun c7=>?_))))
   ·refine aP (an (sM Z Z (sV Z (aE Z Z iO) (sA Z Z (aa (⟨(c+1,M,r,_,_,_),⟨Z,Z,Z,Z,trivial⟩,⟨H2,ω,DY hred (Nat.le_of_eq hpv.symm),hR,hrK,vl⟩,θ⟩))))))
   ·exact absurd ω c7
 ·refine aP (ab (sR 2 Z (rN hQ results307 Z ?_)));have hz:=H1.rowsOut vl;have e9:redM m n=(M,r):=by
   obtain rfl:c=n:=by omega
   exact hred
  rw [e9];exact ⟨Z,hz⟩
theorem mG {w:World}{m:List (List UInt8)}{mA bA:Option Addr}{mN mC bN bC:Nat}{b:List UInt8}(mS:Sees w [.slice mA mN mC] m) (bS:Sees w [.slice bA bN bC] b) (hR:Rect m m.length m.length) (hb:b.length=m.length) (hml:1≤m.length∧m.length≤100):Ret Tryz.prog 263 #[.slice mA mN mC,.slice bA bN bC] w fun v w'=>Ext No w w'∧(∃ A C,v = .tuple #[.slice A (uU m b).length C,.bool (rM m b)]∧Res w w' [.slice A (uU m b).length C] (uU m b)):=by
 obtain ⟨mF,mO⟩:=mS;obtain rfl:=eS mO;have mL:=sL ⟨_,mO⟩;obtain ⟨bF,bO⟩:=bS;obtain rfl:=eS bO;have bL:=sL ⟨_,bO⟩;refine aH func263 Z ntmps263 Z (fun Q hQ hN=>?_);have H0:=Sep.start (ae mO (ae bO aA));refine ab (sR 2 Z (aa (ab (sM Z Z (sV Z (aS cE Z) (mz ah Z cE ce (BO (α:=UInt8)) Z ω (by unfold maxLen; omega) H0 (fun b1 w1 e1 g1 H1=>sA Z Z (aa (ac (ab (sM Z Z (sV Z (aS cE Z) (sM Z Z (aa (ay (bJ (γ:=Nat × List Nat) (fun (k,f)=>[(0,.slice mA m.length mC),(1,.slice bA b.length bC),(6,.slice (some ⟨b1,0,none⟩) m.length m.length),(15,.slice mA m.length mC),(16,.int .i64 m.length),(17,.int .i64 k)]) (fun (k,f) w'=>Sep No w [mine [.slice (some ⟨b1,0,none⟩) m.length m.length] (augIn m b k) f] [seen false [.slice mA m.length mC] m mF,seen false [.slice bA b.length bC] b bF] w'∧k≤m.length) (fun (k,f)=>m.length-k) (0,_) ⟨Z,Z,Z,Z,Z,Z,trivial⟩ ⟨by rw [BK]; exact H1,ω⟩ (fun (k,f) w2 H2=>?_)))))))))))))))));obtain ⟨H2,hk⟩:=H2;refine ab (sV Z (aY Z Z) (aa (ac (aD Z (fun c1=>?_) (fun c1=>?_)))))
 ·refine ax (ac (ay (ac ?_)));obtain ⟨eb1,eo1,ea1,ek1,ef1,ee1,ec1,eO1,eH1⟩:=fJ (H2.seen 0 Z) k ω;have eP1:=H2.look1 0 Z eO1 eH1;refine an (sM Z Z (sV Z (aB cE aZ Z Z ee1 k ω ω) (sV Z (aj aU Z Z ec1) (sR 2 Z (aa ?_)))));have e3:=hR.2 k ω;obtain ⟨eb2,eo2,ee2,ec2⟩:=cD (eP1.seen 1 Z) k ω;obtain ⟨eb3,eo3,ee3⟩:=eB (eP1.mine 0 Z) k (by rw [qW ω]; omega);refine cd (S:=Ext No _) [(0,true),(1,true),(2,true),(4,true),(5,true),(6,true),(7,true),(1005,false),(3,false),(8,false),(9,false),(10,true),(11,false),(8,false),(3,false),(9,false),(10,true),(11,false)] κ κ κ Z (fun _=>Ext.refl.drawn _) (fun q1=>?_);have H3:=eP1.drawn q1;refine dR 5 Z (dV Z Z (fun zw hx=>aB aU ts5 Z Z ee2 k ω ω) (dV Z Z (fun zw hx=>aj tu5 Z Z (hx.cell ec2)) (dF Z ?_ ?_)))
  ·refine d_S (fun hs1=>?_) σ;refine dC func62 bj Z (dL (H3.sees 2 Z) ω) (fun v1 w3 r1=>?_);obtain ⟨e2,r1⟩:=r1;obtain ⟨fp1,H4,fr1⟩:=H3.resN e2 r1;obtain ⟨a1,k1,q2⟩:=ao (H4.mine 1 Z);cases q2;refine nw Z ah Z aU cb Z Z Z Z H4 (fun _ h e=>h.trans e.no) (fun b2 w4 e3 g2 H5=>d_S (fun hs2=>?_) σ);refine Ce Z ah Z aU cb Z Z Z H5 1 2 Z Z jB (by (try simp only [List.length_nil]); unfold maxLen; omega) (by (try simp only [List.length_nil]); omega) (fun b hb=>Nat.le_trans hs1.size (fr1 b hb)) (fun v2 w5 fp2 sb1 H6=>?_)
   try dsimp only[lNA,lCA,lSZ,lSS] at H6
   refine dV Z Z (fun zw hx=>aB cE aZ Z Z ee3 k ω ω) (CJ Z ah aZ Z H6 0 1 Z Z Z k (by rw [qW ω]; omega) Z ee3 Z (fun w6 fp3 H7=>bb (an (sV Z (aE Z Z iO) (sM Z Z (aa ?_))))));have hz:=((H7.ftake 2).dtake 1);rw [wx ω] at hz;refine ⟨(k+1,_),⟨Z,Z,Z,Z,Z,Z,trivial⟩,⟨hz,ω⟩,θ⟩
  ·refine nw Z ah Z aU cb Z Z Z Z H3 (fun _ h e=>h.trans e.no) (fun b3 w7 e5 g3 H8=>d_S (fun hs3=>?_) σ);refine dC func62 bj Z (dL (H8.sees 2 Z) ω) (fun v3 w8 r2=>?_);obtain ⟨e6,r2⟩:=r2;obtain ⟨fp4,H9,fr2⟩:=H8.resN e6 r2;obtain ⟨a2,k2,q3⟩:=ao (H9.mine 2 Z);cases q3;refine d_S (fun hs4=>?_) σ;refine Ce Z ah Z aU cb Z Z Z H9 2 1 Z Z jB (by (try simp only [List.length_nil]); unfold maxLen; omega) (by (try simp only [List.length_nil]); omega) (fun b hb=>Nat.le_trans hs3.size (fr2 b hb)) (fun v4 w9 fp5 sb2 H10=>?_)
   try dsimp only[lNA,lCA,lSZ,lSS] at H10
   refine dV Z Z (fun zw hx=>aB cE aZ Z Z ee3 k ω ω) (CJ Z ah aZ Z H10 0 2 Z Z Z k (by rw [qW ω]; omega) Z ee3 Z (fun w10 fp6 H11=>bb (an (sV Z (aE Z Z iO) (sM Z Z (aa ?_))))));have hz:=((H11.ftake 2).dtake 1);rw [wx ω] at hz;refine ⟨(k+1,_),⟨Z,Z,Z,Z,Z,Z,trivial⟩,⟨hz,ω⟩,θ⟩
 ·refine aP (ac (ac ?_));obtain rfl:k=m.length:=by omega
  obtain ⟨vs,f2,g2,vl,HP⟩:=H2.parted 0 Z
  try dsimp only[lNA,lCA,lSZ,lSS] at HP
  rw [vq] at HP;rw [vq] at vl;have hRa:=G8 (b:=b) hR;have hRM:=(hRa.red m.length).1;have hM1:=hRM.1;have vl1:vs.length=m.length:=vl.trans hRa.1;refine an (sR 2 Z (sV Z (aS cE Z) (sC func307 Bi Z (qO (HP.mine 0 Z) (HP.nodup1 (i:=0) Z) (HP.rowsAt 2 Z) (fun b hb=>HP.off 2 Z 0 Z hb) ξ η ω) (fun v5 w11 r3=>?_))));obtain ⟨rfl,rm1⟩:=r3;obtain ⟨rv1,rf1,rg1,rl1,H12⟩:=HP.rowsMut 0 Z (by simp [blocks,mine,gone]) rm1
  try dsimp only[lNA,lCA,lSZ,lSS] at H12
  refine sM Z Z (sV Z (aS cE Z) (sV Z (aY Z Z) (aa (aD Z (fun c2=>?_) (fun c2=>?_)))))
  ·refine ab (sR 2 Z (aa (bc (hQ _ _ (rf results263 Z Z ?_)))));obtain ⟨e1,e2⟩:=JL (m:=m) (b:=b) ω;exact ⟨H12.ext,none,0,(by rw [e1,e2]; rfl),(by rw [e2]; exact ⟨[],.inr (.inl ⟨Z,Z,Z⟩),.nil,σ⟩)⟩
  ·refine ax (ab (eO (α:=UInt8) ah Z aU cb H12 (fun b4 w12 e9 g4 H13=>sA Z Z (aa (ac (ab (sM Z Z (sV Z (aS cE Z) (sM Z Z (aa (ay (bJ (γ:=Nat × Value × List Nat) (fun (k,vo,f)=>[(0,.slice mA m.length mC),(9,vo),(42,.slice (some ⟨b1,0,none⟩) m.length m.length),(43,.int .i64 m.length),(44,.int .i64 k)]) (fun (k,vo,f) w'=>Sep No w [mine [.slice (some ⟨b1,0,none⟩) m.length m.length] rv1 rf1,mine [vo] (oH (redM (aug m b) m.length).1 m.length k) f] _ w'∧k≤m.length) (fun (k,vo,f)=>m.length-k) (0,_,_) ⟨Z,Z,Z,Z,Z,trivial⟩ ⟨H13.sub (.cons_cons _ (.cons_cons _ List.Sublist.slnil)),ω⟩ (fun (k,vo,f) w13 H14=>?_)))))))))))));obtain ⟨H14,hk⟩:=H14;refine ab (sV Z (aY Z Z) (aa (ac (aD Z (fun c3=>?_) (fun c3=>?_)))))
   ·refine ax (ac (ay (ac ?_)));obtain ⟨eb4,eo4,ea2,ek2,ef2,ee4,ec4,eO2,eH2,em1⟩:=ia (H14.mine 0 Z) (H14.rowsAt 3 Z) (by first | omega | (simp only [List.length_set]; omega)) k (by first | omega | (simp only [List.length_set]; omega));have eP2:=H14.lookR 3 Z eO2 eH2;refine an (sV Z (aB cE aZ Z Z ee4 k ω ω) (sV Z (aj aU Z Z ec4) (sA Z Z (aa ?_))));have e5:=hRM.2 k ω;have ctl:=we (m:=(redM (aug m b) m.length).1) (c:=m.length) (k:=k);obtain ⟨eb5,eo5,ee5,ec5⟩:=cD (eP2.seen 4 Z) m.length ω;refine an (sR 3 Z (sV Z (aS cE Z) (sV Z (aB aU ts5 Z Z ee5 m.length ω ω) (sV Z (aj tu5 Z Z ec5) (dU ah Z aU cb Z Z Z Z eP2 (fun b5 w14 e10 g5 H15=>ir ah Z aU cb Z Z Z H15 1 2 Z Z jB (by unfold maxLen; omega) ω (fun v6 w15 fp7 H16=>sA Z Z (aa (an (sV Z (aE Z Z iO) (sM Z Z (aa ?_))))))))))));have hz:=H16.ftake 4 |>.sub (.cons_cons _ (.cons_cons _ (.cons _ List.Sublist.slnil)))
    rw [Ay] at hz;refine ⟨(k+1,_,_),⟨Z,Z,Z,Z,Z,trivial⟩,⟨hz,ω⟩,θ⟩
   ·refine aP (ab (sR 3 Z (aa (bc (hQ _ _ (rf results263 Z Z ?_))))));obtain rfl:k=m.length:=by omega
    obtain ⟨e1,e2⟩:=wW (m:=m) (b:=b) ω;obtain ⟨qa,qc,qq⟩:=ao (H14.mine 1 Z);cases qq;exact ⟨H14.ext,qa,qc,(by rw [e1,e2]),(by rw [e2]; exact H14.out 1 Z)⟩
theorem kF {w:World}{n hsC:Nat}{s p:Int}{hs:List Int}{hsA:Option Addr}(hsS:Sees w [.slice hsA hs.length hsC] hs) (hn:1≤n∧n≤100) (hl:hs.length=n) (hr:∀ i,i<n→0≤hs.getD i 0∧hs.getD i 0≤500) (hp:0≤p∧p≤500):Ret Tryz.prog 209 #[.agg #[.int .i64 n,.int .i64 s],.slice hsA hs.length hsC,.int .i64 p] w fun v w'=>Ext No w w'∧(Res w w' [v] (betw n hs p 0)):=by
 obtain ⟨hsF,hsO⟩:=hsS;refine aH func209 Z ntmps209 Z (fun Q hQ hN=>?_);have H0:=Sep.start (ae hsO aA);refine ab (bm ah Z Z H0 (fun b1 w1 e1 g1 H1=>sA Z Z (aa (ab (sF jO Z ts2 (sLd tu2 (H1.box 0 Z) Z (mz ah Z cE ce (BO (α:=UInt8)) Z ω (by unfold maxLen; omega) H1 (fun b2 w2 e2 g2 H2=>sA Z Z (aa (ac (ab (sM Z Z (sV Z (aS bv Z) (sM Z Z (aa (ay (bJ (γ:=Nat × List Nat) (fun (j,f)=>[(2,.int .i64 p),(3,.pointer (some ⟨b1,0,none⟩)),(7,.slice (some ⟨b2,0,none⟩) n n),(17,.slice hsA hs.length hsC),(18,.int .i64 hs.length),(19,.int .i64 j)]) (fun (j,f) w'=>Sep No w [box b1 (.cells #[.int .i64 n,.int .i64 s] 148),mine [.slice (some ⟨b2,0,none⟩) n n] (trF (hv n hs 0) n j 0) f] [seen false [.slice hsA hs.length hsC] hs hsF] w'∧j≤n) (fun (j,f)=>n-j) (0,_) ⟨Z,Z,Z,Z,Z,Z,trivial⟩ ⟨by rw [yj]; exact H2,ω⟩ (fun (j,f) w3 H3=>?_))))))))))))))))));obtain ⟨H3,hj0⟩:=H3;refine ab (sV Z (aY Z Z) (aa (ac (aD Z (fun c1=>?_) (fun c1=>?_)))))
 ·refine ax (ac (ay (ac ?_)));obtain ⟨eb1,eo1,ee1,ec1⟩:=dc (H3.seen 0 Z) j ω;have eI1:=dJ (H3.seen 0 Z) j ω;refine an (sV Z (aB bv ts2 Z Z ee1 j ω ω) (sV Z (aj tu2 Z Z ec1) (sA Z Z (aa (ac ?_)))));have hj:=hr j ω;have gl:(ew n (hs.getD j 0) 0).length=n:=ll;refine an (sV Z (ak jO Z tc Z Z (At.whole (H3.box 0 Z))) (sM Z Z (sC func208 pG Z (en ω) (fun v1 w4 r1=>?_))));obtain ⟨e3,r1⟩:=r1;obtain ⟨fp1,H4⟩:=H3.res e3 r1;obtain ⟨a1,k1,q1⟩:=ao (H4.mine 2 Z);cases q1;refine sV Z (aS aU Z) (sM Z Z (aa (ay (bJ (γ:=Nat × List Nat) (fun (i,f2)=>[(2,.int .i64 p),(3,.pointer (some ⟨b1,0,none⟩)),(7,.slice (some ⟨b2,0,none⟩) n n),(17,.slice hsA hs.length hsC),(18,.int .i64 hs.length),(19,.int .i64 j),(25,.slice a1 (ew n (hs.getD j 0) 0).length k1),(26,.int .i64 (ew n (hs.getD j 0) 0).length),(27,.int .i64 i)]) (fun (i,f2) w'=>Sep No w [box b1 (.cells #[.int .i64 n,.int .i64 s] 148),mine [.slice (some ⟨b2,0,none⟩) n n] (trF (hv n hs 0) n j i) f2,mine [.slice a1 (ew n (hs.getD j 0) 0).length k1] (ew n (hs.getD j 0) 0) fp1] [seen false [.slice hsA hs.length hsC] hs hsF] w'∧i≤n) (fun (i,f2)=>n-i) (0,_) ⟨Z,Z,Z,Z,Z,Z,Z,Z,Z,trivial⟩ ⟨H4,ω⟩ (fun (i,f2) w5 H5=>?_)))));obtain ⟨H5,hi⟩:=H5;refine ab (sV Z (aY Z Z) (aa (ac (aD Z (fun c2=>?_) (fun c2=>?_)))))
  ·refine ax (ac (ay (ac ?_)));obtain ⟨eb2,eo2,ee2,ec2⟩:=cD (H5.mine 2 Z) i ω;refine an (sM Z Z (sV Z (aB aU ts5 Z Z ee2 i ω ω) (sV Z (aj tu5 Z Z ec2) (sR 2 Z (aa ?_)))));have e6:((trF (hv n hs 0) n j i).getD i []).length=j:=by rw [sD ω]; simp
   obtain ⟨eb3,eo3,eB1,eS1,eF1,eG1,ef1,ea1,ek1,ee3,eN1,ec3,nbef1,eH1⟩:=H5.unhook 1 Z i (by rw [sJ]; omega)
   try dsimp only[lNA,lCA,lSZ,lSS] at eH1
   refine an (sR 4 Z (sV Z (aB cE aZ Z Z ee3 i ω ω) (sV Z (aj aU Z Z ec3) (sM Z Z (dU ah Z aU cb Z Z Z Z eH1 (fun b3 w6 e4 g3 H6=>ir ah Z aU cb Z Z Z H6 3 4 Z Z jB (by unfold maxLen; omega) ω (fun v2 w7 fp2 H7=>sV Z (aB cE aZ Z Z ee3 i ω ω) (Fi ah aZ H7 1 3 Z Z Z eN1 Z Z (fun w8 fp3 H8=>?_)))))))))
   try dsimp only[lNA,lCA,lSZ,lSS] at H8
   refine aa (an (sV Z (aE Z Z iO) (sM Z Z (aa ?_))));have hz:=(H8.dtake 3);rw [show (ew n (hs.getD j 0) 0).getD i 0=(hv n hs 0 j).getD i 0 from rfl,xW ω] at hz;refine ⟨(i+1,_),⟨Z,Z,Z,Z,Z,Z,Z,Z,Z,trivial⟩,⟨hz,ω⟩,θ⟩
  ·refine aP (an (sV Z (aE Z Z iO) (sM Z Z (aa ?_))));have ei:i=n:=by omega
   have hz:=(H5.dtake 2);rw [ei,yU] at hz;refine ⟨(j+1,_),⟨Z,Z,Z,Z,Z,Z,trivial⟩,⟨hz,ω⟩,θ⟩
 ·refine aP (ac ?_);have ej:j=n:=by omega
  have HB:=H3;rw [ej,show trF (hv n hs 0) n n 0=oP n hs 0 from rfl] at HB;have hRm:=tw (n:=n) (h:=hs) (b:=0);have bl:=oi (n:=n) (h:=hs) (b:=0);have gl2:(ew n p 0).length=n:=ll;refine an (sM Z Z (sV Z (ak jO Z tc Z Z (At.whole (HB.box 0 Z))) (sM Z Z (sC func208 pG Z (en ω) (fun v3 w9 r2=>?_)))));obtain ⟨e6,r2⟩:=r2;obtain ⟨fp4,H9⟩:=HB.res e6 r2;obtain ⟨a2,k2,q2⟩:=ao (H9.mine 2 Z);cases q2;refine sC func263 uA Z (mG (H9.msees 1 Z) (H9.msees 2 Z) η ξ ω) (fun v4 w10 r3=>?_);obtain ⟨e7,sa1,sk1,rfl,r3⟩:=r3;obtain ⟨fp5,H10⟩:=H9.res e7 r3;refine sR 5 Z (aa (ab (sR 2 Z (rN hQ results209 Z ?_))));exact ⟨H10.ext,H10.out 3 Z⟩
end Go.Wk
namespace Go.Wk
open Go.Proofs Rp Go.Proofs.Tryz
set_option maxRecDepth 10000
theorem jt {w:World}{xs:List Int}{xsA:Option Addr}{xsC:Nat}(xsS:Sees w [.slice xsA xs.length xsC] xs):Ret Tryz.prog 60 #[.slice xsA xs.length xsC] w fun v w'=>Ext No w w'∧(v = .int .i64 xs.length):=by
 have xsL:=sL xsS;obtain ⟨xsF,xsO⟩:=xsS;refine aH func60 Z ntmps60 Z (fun Q hQ hN=>?_);have H0:=Sep.start (ae xsO aA);refine ab (sA Z Z (aa (ab (sM Z Z (sV Z (aS bv Z) (rA hQ results60 Z ?_))))));exact ⟨H0.ext,Z⟩
end Go.Wk
namespace Go.Wk
open Go.Proofs Rp Go.Proofs.Tryz
set_option maxRecDepth 10000
theorem lh {w:World}{n s:Nat}{xs:List (List UInt8)}{xsA:Option Addr}{xsC:Nat}(hn:1≤n∧n≤3∧s≤2) (hl:xs.length=n+s) (h4:Part xs) (xsS:Sees w [.slice xsA xs.length xsC] xs):Ret Tryz.prog 140 #[.agg #[.int .i64 n,.int .i64 s],.slice xsA xs.length xsC] w fun v w'=>Ext No w w'∧(∃ A C,v = .tuple #[.slice A (ua n xs).length C,.bool (gE n xs)]∧Res w w' [.slice A (ua n xs).length C] (ua n xs)):=by
 have xsL:=sL xsS;obtain ⟨xsF,xsO⟩:=xsS;refine aH func140 Z ntmps140 Z (fun Q hQ hN=>?_);have H0:=Sep.start (ae xsO aA);refine ab (bm ah Z Z H0 (fun b1 w1 e1 g1 H1=>sR 2 Z (aa (ab (eO (α:=Int) ah Z bv bG H1 (fun b2 w2 e2 g2 H2=>eO (α:=View) ah Z cE ce H2 (fun b3 w3 e3 g3 H3=>sR 2 Z (aa (ac (ac ?_))))))))));have HR:=H3.noRows (β:=UInt8)
 try dsimp only[lNA,lCA,lSZ,lSS] at HR
 refine an (sM Z Z (sV Z (aS cE Z) (sM Z Z (aa (ay (bJ (γ:=Nat × Value × List Nat × Value × List View × List Nat × List Nat) (fun (k,vo,f,vp,vs,f2,g)=>[(2,.pointer (some ⟨b1,0,none⟩)),(6,vo),(7,vp),(14,.slice xsA xs.length xsC),(15,.int .i64 xs.length),(16,.int .i64 k)]) (fun (k,vo,f,vp,vs,f2,g) w'=>Sep No w [box b1 (.cells #[.int .i64 n,.int .i64 s] 148),mine [vo] (bz xs n k) f,mine [vp] vs f2] [seen false [.slice xsA xs.length xsC] xs xsF,rows vs (thereTo xs n k) g] w'∧k≤xs.length∧vs.length=(thereTo xs n k).length) (fun (k,vo,f,vp,vs,f2,g)=>xs.length-k) (0,_,_,_,_,_,_) ⟨Z,Z,Z,Z,Z,Z,trivial⟩ ⟨HR,ω,Z⟩ (fun (k,vo,f,vp,vs,f2,g) w4 H4=>?_)))))));obtain ⟨H4,hk,vl⟩:=H4;refine ab (sV Z (aY Z Z) (aa (ac (aD Z (fun c1=>?_) (fun c1=>?_)))))
 ·refine ax (ac (ay (ac ?_)));obtain ⟨eb1,eo1,ea1,ek1,ef1,ee1,ec1,eO1,eH1⟩:=fJ (H4.seen 0 Z) k ω;have eP1:=H4.look1 0 Z eO1 eH1;refine an (sM Z Z (sV Z (aB cE aZ Z Z ee1 k ω ω) (sV Z (aj aU Z Z ec1) (sR 2 Z (aa (ac (cd (S:=Ext No _) (oQ [1,3,5,7,9,13,15,10,17,18]) κ κ κ Z (fun _=>Ext.refl.drawn _) (fun q1=>?_))))))));have H5:=eP1.drawn q1;refine dM Z Z Z (dV Z Z (fun zw hx=>aS aU Z) (dR 2 Z (eu (t:=24) Z (fun hg1=>?_) (fun hg1=>?_))))
  ·try simp only [decide_eq_true_eq,decide_eq_false_iff_not] at hg1
   refine aT Z (wg Z Z Z) Z Z (fun zw hx=>aJ Z) (aT Z (wg Z Z Z) Z Z (fun zw hx=>ag jO Z ts2 Z Z) (aT Z (wg Z Z Z) Z Z (fun zw hx=>aj tu2 Z Z (am (hx.heap (H5.box 0 Z)) Z)) ?_));obtain ⟨a1,k1,q2⟩:=ao (H5.mine 1 Z);cases q2;refine cS Z (wg Z Z Z) Z Z (aV func60 Z fE Z) (jt (H5.msees 1 Z)) (fun hS _ _ r _=>hS.trans r.1.no) (fun v1 w5 r1=>?_);obtain ⟨e4,rfl⟩:=r1;have H6:=H5.to e4;refine aT Z (wg Z Z Z) Z Z (fun zw hx=>aY Z Z) (aW Z ah Z Z (bd Z Z) (bb (aD Z (fun c2=>?_) (fun c2=>?_))))
   ·have tl:=jc (xs:=xs) (n:=n) (k:=k);have hl9:=p6 (xs:=xs) (n:=n) (k:=k);refine an (sR 2 Z (dU ah Z bv bG Z Z Z Z H6 (fun b4 w6 e5 g4 H7=>ir ah Z bv bG Z Z Z H7 1 3 Z Z (ld (by first | assumption | (unfold I64ok; omega))) (by unfold maxLen; omega) ω (fun v2 w7 fp1 H8=>sR 2 Z (dU ah Z cE ce Z Z Z Z H8 (fun b5 w8 e6 g5 H9=>ir (α:=View) (u:=⟨_,_,_⟩) ah Z cE ce Z Z Z H9 2 4 Z Z ⟨Z,Z⟩ (by unfold maxLen; omega) ω (fun v3 w9 fp2 H10=>?_)))))))
    try dsimp only[lNA,lCA,lSZ,lSS] at H10
    obtain ⟨rg1,H11,rh1⟩:=H10.rowApp 1 2 Z Z ξ
    try dsimp only[lNA,lCA,lSZ,lSS] at H11
    refine sR 2 Z (aa (an (sV Z (aE Z Z iO) (sM Z Z (aa ?_)))));have hy:=iF (xs:=xs) (n:=n) (k:=k) ⟨ω,ω⟩;have hz:=((H11.ftake 2).dtake 3);rw [← hy.1,← hy.2] at hz;refine ⟨(k+1,_,_,_,_,_,_),⟨Z,Z,Z,Z,Z,Z,trivial⟩,⟨hz,ω,(by rw [hy.2,List.length_append,List.length_append]; simp only [List.length_cons,List.length_nil]; omega)⟩,θ⟩
   ·refine ax (an (sV Z (aE Z Z iO) (sM Z Z (aa ?_))));have hy:=jl (xs:=xs) (n:=n) (k:=k) ω;have hz:=(H6.ftake 2);refine ⟨(k+1,_,_,_,_,_,_),⟨Z,Z,Z,Z,Z,Z,trivial⟩,⟨(by rw [hy.1,hy.2]; exact hz),ω,(by rw [hy.2]; exact vl)⟩,θ⟩
  ·try simp only [decide_eq_true_eq,decide_eq_false_iff_not] at hg1
   refine dR 5 Z (aW Z ah Z Z (bi Z Z) (bb (kt Z (ax (an (sV Z (aE Z Z iO) (sM Z Z (aa ?_))))))));have hy:=jl (xs:=xs) (n:=n) (k:=k) ω;have hz:=(H5.ftake 2);refine ⟨(k+1,_,_,_,_,_,_),⟨Z,Z,Z,Z,Z,Z,trivial⟩,⟨(by rw [hy.1,hy.2]; exact hz),ω,(by rw [hy.2]; exact vl)⟩,θ⟩
 ·refine aP (ac (ac ?_));obtain rfl:k=xs.length:=by omega
  have hl8:=p6 (xs:=xs) (n:=n) (k:=xs.length);refine cd (S:=Ext No _) (oQ [1,5,7,2,8]) κ κ κ Z (fun _=>Ext.refl.drawn _) (fun q3=>?_);have H12:=H4.drawn q3;refine dM Z Z Z (dV Z Z (fun zw hx=>ag jO Z ts2 Z Z) (dV Z Z (fun zw hx=>aj tu2 Z Z (am (hx.heap (H12.box 0 Z)) Z)) ?_));obtain ⟨a2,k2,q4⟩:=ao (H12.mine 1 Z);cases q4;refine dC func60 fE Z (jt (H12.msees 1 Z)) (fun v4 w10 r2=>?_);obtain ⟨e7,rfl⟩:=r2;have H13:=H12.to e7;refine aW Z ah Z Z (aY Z Z) (bb (aD Z (fun c3=>?_) (fun c3=>?_)))
  ·refine ab (sR 2 Z (aa (bc (hQ _ _ (rf results140 Z Z ?_)))));obtain ⟨e1,e2,_⟩:=JQ (xs:=xs) (n:=n) ω;exact ⟨H13.ext,none,0,(by rw [e1,e2]; rfl),(by rw [e2]; exact ⟨[],.inr (.inl ⟨Z,Z,Z⟩),.nil,σ⟩)⟩
  ·refine ax (ac ?_);have tl:=jc (xs:=xs) (n:=n) (k:=xs.length);have hl9:=p6 (xs:=xs) (n:=n) (k:=xs.length);obtain ⟨pA,pC,pq⟩:=ao (H13.mine 2 Z);rw [vl] at pq;cases pq;obtain ⟨tf,HV,_⟩:=H13.viewsIn 2 1 Z Z vl
   try dsimp only[lNA,lCA,lSZ,lSS] at HV
   have hh:(bz xs n xs.length).length=n:=by omega
   have hth:(thereTo xs n xs.length).length=n:=by omega
   have ht4:=Ad (n:=n) h4;have hra:∀ i,i<n→0≤(bz xs n xs.length).getD i 0∧(bz xs n xs.length).getD i 0≤500:=fun i hi=>by have:=mq (xs:=xs) (n:=n) (k:=xs.length) i ω; omega
   have hrz:rises (bz xs n xs.length) ((n:Int)+s-1)=true:=by have:=tJ (xs:=xs) (n:=n) (k:=xs.length); rwa [show ((xs.length:Nat):Int)-1=(n:Int)+s-1 by omega] at this
   refine an (eO (α:=UInt8) ah Z aU cb HV (fun b6 w11 e8 g6 H14=>sA Z Z (aa (ac (ab (sF jO Z ts2 (sLd tu2 (H14.box 0 Z) Z (sM Z Z (aa (ay (bJ (γ:=Nat × Value × List Nat) (fun (i,vo,f3)=>[(2,.pointer (some ⟨b1,0,none⟩)),(6,.slice a2 (bz xs n xs.length).length k2),(7,.slice pA (thereTo xs n xs.length).length pC),(10,vo),(47,.int .i64 n),(48,.int .i64 i)]) (fun (i,vo,f3) w'=>Sep No w [box b1 (.cells #[.int .i64 n,.int .i64 s] 148),mine [.slice a2 (bz xs n xs.length).length k2] (bz xs n xs.length) f,gone,mine [vo] (nu n xs i) f3] _ w'∧i≤n) (fun (i,vo,f3)=>n-i) (0,_,_) ⟨Z,Z,Z,Z,Z,Z,trivial⟩ ⟨H14,ω⟩ (fun (i,vo,f3) w12 H15=>?_))))))))))));obtain ⟨H15,hi⟩:=H15;refine ab (sV Z (aY Z Z) (aa (ac (aD Z (fun c4=>?_) (fun c4=>?_)))))
   ·refine ax (ac (ay (ab (sR 2 Z (aa ?_)))));have bl:=HT (n:=n) (s:=s) (hs:=(bz xs n xs.length)) (x:=(i:Int)) ω ω hrz ω ω;have ml:=ii (cs:=betw n (bz xs n xs.length) i 0) ht4 (k:=(thereTo xs n xs.length).length) (Nat.le_refl _);have dl:=ra (n:=n) h4 i;refine an (sR 2 Z (sV Z (ak jO Z tc Z Z (At.whole (H15.box 0 Z))) (sR 2 Z (sC func209 BB Z (kF (H15.msees 1 Z) ω ξ η ξ) (fun v5 w13 r3=>?_)))));obtain ⟨e9,r3⟩:=r3;obtain ⟨fp3,H16⟩:=H15.res e9 r3;obtain ⟨a3,k3,q5⟩:=ao (H16.mine 4 Z);cases q5;refine sC func156 pF Z (jD (H16.sees 2 Z) (H16.msees 4 Z) ω ω η ω) (fun v6 w14 r4=>?_);obtain ⟨e10,r4⟩:=r4;obtain ⟨fp4,H17⟩:=H16.res e10 r4;obtain ⟨a4,k4,q6⟩:=ao (H17.mine 5 Z);cases q6;refine rg ah Z aU cb Z Z Z H17 3 Z (H17.mine 5 Z) (by (try simp only [List.length_nil]); unfold maxLen; omega) (by (try simp only [List.length_nil]); omega) (fun v7 w15 fp5 H18=>sA Z Z (aa (an (sV Z (aE Z Z iO) (sM Z Z (aa ?_))))));have hz:=(H18.dtake 4);rw [tL] at hz;refine ⟨(i+1,_,_),⟨Z,Z,Z,Z,Z,Z,trivial⟩,⟨hz,ω⟩,θ⟩
   ·refine aP (ab (sR 3 Z (aa (bc (hQ _ _ (rf results140 Z Z ?_))))));obtain rfl:n=i:=by omega
    obtain ⟨e1,e2,_⟩:=Ck (xs:=xs) (n:=n) ω;obtain ⟨qa,qc,qq⟩:=ao (H15.mine 3 Z);cases qq;exact ⟨H15.ext,qa,qc,(by rw [e1,e2]),(by rw [e2]; exact H15.out 3 Z)⟩
end Go.Wk
namespace Go.Wk
open Go.Proofs Rp Go.Proofs.Tryz
set_option maxRecDepth 10000
theorem gu {w:World}{s:Shape}(hs:s.ok=true):Ret Tryz.prog 136 #[s.v] w fun v w'=>Ext No w w'∧(v = .agg #[.int .i64 (s.Data.toNat:Nat),.int .i64 (s.Spare.toNat:Nat)]):=by
 have sbd:=aL hs;refine aH func136 Z ntmps136 Z (fun Q hQ hN=>?_);have H0:=Sep.start (w:=w) (F:=[]) σ;refine ab (bm ah Z Z H0 (fun b1 w1 e1 g1 H1=>bH ah Z zeroValue148 H1 (fun b2 w2 e2 g2 H2=>aa (ab (sF be Z ts2 (sLd tu2 (H2.box 0 Z) Z (sF be Z ts2 (sLd tu2 (H2.box 0 Z) Z (sV Z (aM zG Z Z) (aG ah tc Z Z Z Z H2 1 Z Z (fun w3 e3 H3=>?_)))))))))));dsimp only[lNA,lCA,lSZ,lSS,aI] at H3;refine aa (bc (hQ _ _ (cr results136 Z (az jO Z tc Z (At.whole (H3.box 1 Z))) (⟨H3.ext,?_⟩))));rw [Int.toNat_of_nonneg ω,Int.toNat_of_nonneg ω]
 rfl
theorem mb {w:World}{zb zC9 zC10 zC11:Nat}{z:Wld}{zA9 zA10 zA11:Option Addr}{zF9 zF10 zF11:List Nat}{g row:Int}(zB:w.heap[zb]? = some (.cells [.int .i64 z.Shape.Groups,.int .i64 z.Shape.Column,.int .i64 z.Shape.Data,.int .i64 z.Shape.Spare,.int .i64 z.Shape.Rows,.int .i64 z.Shape.Cap,.int .i64 z.Shape.Batch,.int .i64 z.Shape.Queue,.int .i64 z.Shape.Stage,.slice zA9 z.Groups.length zC9,.slice zA10 z.On.length zC10,.slice zA11 z.Tapes.length zC11,.int .i64 z.Writes,.int .i64 z.Stop,.bool z.Down].toArray 31)) (zK:z.Ok) (zO9:own false w [.slice zA9 z.Groups.length zC9] z.Groups zF9) (zO10:own false w [.slice zA10 z.On.length zC10] z.On zF10) (zO11:own false w [.slice zA11 z.Tapes.length zC11] z.Tapes zF11) (hs:z.Shape.ok=true) (hG:aR z=true) (hg:ins g 0 (z.Shape.Groups+z.Shape.Column-1)=true) (hr:ins row 0 (z.Shape.Rows-1)=true):Ret Tryz.prog 138 #[.pointer (some ⟨zb,0,none⟩),.int .i64 g,.int .i64 row] w fun v w'=>Ext No w w'∧(∃ fp,own false w' [v] (lA z g row) fp∧∀ b∈fp,b∈zF9∨w.heap.size≤b):=by
 have zK2:=zK;unfold Wld.Ok Shape.Ok at zK2
 try unfold I64ok at zK2
 try unfold maxLen at zK2
 have zL9:=oL zO9;have zL10:=oL zO10;have zL11:=oL zO11;have sbd:=aL hs;have hgg:=dQ hG;have hgl:=hgg.1;have hgi:=aN.1 hg;obtain ⟨hdl,hdd⟩:=hgg.2 g.toNat ω;have hri:=aN.1 hr;refine aH func138 Z ntmps138 Z (fun Q hQ hN=>?_);have H0:=Sep.start (cQ zB (ae zO9 (ae zO10 (ae zO11 aA))));refine ab (sA Z Z (aa (ab (eO (α:=View) ah Z cE ce H0 (fun b1 w1 e1 g1 H1=>sA Z Z (aa (ac (ac ?_))))))));obtain ⟨eb1,eo1,ea1,ek1,ef1,ee1,ec1,eO1,eH1⟩:=fJ (H1.seen 1 Z) g.toNat ω;have eP1:=H1.look1 1 Z eO1 eH1;refine an (sR 2 Z (sF ba Z lz (sLd iH (eP1.fbox 0 Z) Z (sM Z Z (sV Z (aB iH yy Z Z ee1 g.toNat ω ω) (sV Z (aj gI Z Z ec1) (sV Z (aS gI Z) (sM Z Z (aa (ay ?_))))))))));have H3:=eP1.noRows (β:=UInt8)
 try dsimp only[lNA,lCA,lSZ,lSS] at H3
 refine If (β:=UInt8) (γ:=Nat) (fun k=>ip (z.Groups.getD g.toNat []) row.toNat k) 0 H3 0 Z 5 Z Z 7 Z (fun gg=>∀ b∈gg,b∈zF9) σ [(2,_),(6,_),(17,_),(18,_)] ⟨Z,Z,Z,Z,trivial⟩ (fun k=>[(19,.int .i64 k)]) (fun k=>k≤(z.Groups.getD g.toNat []).length∧True) (fun k=>(z.Groups.getD g.toNat []).length-k) ⟨Z,trivial⟩ ⟨ω,trivial⟩ (fun k vA1 fA1 vs1 gA1 w2 H2 vl vg ⟨hk,_⟩=>?_);dsimp only[lCA,lNA,lSZ,lSS] at H2 ⊢;refine ab (sV Z (aY Z Z) (aa (ac (aD Z (fun c1=>?_) (fun c1=>?_)))))
 ·refine ax (ac (ay (ac ?_)));obtain ⟨eb2,eo2,es1,ef2,ee2,ec2,eO2,eH2,em1⟩:=dY (H2.seen 4 Z) k ω;obtain ⟨ea2,ek2,eg1,rfl,eq1,eK1,eo3⟩:=lx eO2;have eP2:=H2.look1 4 Z eo3 (fun b hb=>eH2 b (by rw [eq1]; simp [hb]));have eL1:=oL eo3;refine an (sV Z (aB gI i9 Z Z ee2 k ω ω) (sV Z (ak jZ Z i9 Z Z ec2) (bH ah Z zeroValue72 eP2 (fun b2 w3 e2 g2 H4=>aG ah i9 Z Z Z Z H4 1 Z Z (fun w4 e3 H5=>?_)))));dsimp only[lNA,lCA,lSZ,lSS,aI] at H5;refine aa (ab (sF jZ Z ts4 (sLd tu4 (H5.box 1 Z) Z (aa (cK Z (fun c2=>?_) (fun c2=>?_))))))
  ·have bl:=so (G:=(z.Groups.getD g.toNat [])) (row:=row.toNat) (k:=k);refine an (sM Z Z (dU ah Z cE ce Z Z Z Z H5 (fun b3 w5 e4 g3 H6=>?_)));have H8:=H6.nilF (β:=UInt8)
   try dsimp only[lNA,lCA,lSZ,lSS] at H8
   refine ir (α:=View) (u:=⟨_,_,_⟩) ah Z cE ce Z Z Z H8 0 2 Z Z ⟨Z,Z⟩ (by unfold maxLen; omega) ω (fun v1 w6 fp1 H7=>?_)
   try dsimp only[lNA,lCA,lSZ,lSS] at H7
   obtain ⟨rg1,H9,rh1⟩:=H7.rowApp (y:=([]:List UInt8)) 5 7 Z Z ξ
   try dsimp only[lNA,lCA,lSZ,lSS] at H9
   refine sA Z Z (aa (an (sV Z (aE Z Z iO) (sM Z Z (aa ?_)))));have bq:=Dx (row:=row.toNat) c2;rw [← bq] at H9;exact ⟨(k+1,_,_,_,_),⟨Z,Z,Z,Z,Z,Z,trivial⟩,⟨((H9.ftake 6).dtake 1),by rw [bq,List.length_append,List.length_append,vl]; rfl,(fun b hb=>(rh1 b hb).elim (vg b) (fun h=>absurd h σ)),ω,trivial⟩,θ⟩
  ·have bl:=so (G:=(z.Groups.getD g.toNat [])) (row:=row.toNat) (k:=k);have hbl:=hdd k ω;obtain ⟨eb3,eo4,es2,ef3,ee3,ec3,eO3,eH3,em2⟩:=dY (H5.seen 6 Z) row.toNat ω;obtain ⟨ea3,ek3,eg2,rfl,eq2,eK2,eo5⟩:=nL eO3;have eK2U:=eK2;unfold Block.Ok at eK2U
   try unfold I64ok at eK2U
   try unfold maxLen at eK2U
   have eP3:=H5.look1 6 Z eo5 (fun b hb=>eH3 b (by rw [eq2]; simp [hb]));have eL2:=oL eo5;refine an (sM Z Z (sF jZ Z ta (sLd js (eP3.box 1 Z) Z (sM Z Z (sV Z (aB js gY Z Z ee3 row.toNat ω ω) (sF jM Z aZ (sV Z (aj aU Z Z (fg ec3 1 Z)) (dU ah Z cE ce Z Z Z Z eP3 (fun b4 w7 e5 g4 H10=>ir (α:=View) (u:=⟨_,_,_⟩) ah Z cE ce Z Z Z H10 0 2 Z Z ⟨Z,Z⟩ (by unfold maxLen; omega) ω (fun v2 w8 fp2 H11=>?_))))))))))
   try dsimp only[lNA,lCA,lSZ,lSS] at H11
   obtain ⟨rg2,H12,rh2⟩:=H11.rowApp 5 7 Z Z ξ
   try dsimp only[lNA,lCA,lSZ,lSS] at H12
   refine sA Z Z (aa (an (sV Z (aE Z Z iO) (sM Z Z (aa ?_)))));have bq:=Gr (row:=row.toNat) c2;rw [← bq] at H12;exact ⟨(k+1,_,_,_,_),⟨Z,Z,Z,Z,Z,Z,trivial⟩,⟨((H12.ftake 6).dtake 1),by rw [bq,List.length_append,List.length_append,vl]; rfl,(fun b hb=>(rh2 b hb).elim (vg b) (fun h=>eH1 _ (eH2 _ (by rw [eq1]; exact eH3 _ (by rw [eq2]; exact h))))),ω,trivial⟩,θ⟩
 ·refine aP (ab (sR 2 Z (rN hQ results138 Z ?_)));obtain rfl:k=(z.Groups.getD g.toNat []).length:=by omega
  obtain ⟨fpV,HV,hfV⟩:=H2.viewsIn 0 5 Z Z vl;exact ⟨H2.ext,fpV,(HV.seen 6 Z),fun b hb=>(hfV b hb).elim (fun h => .inr (H2.freshD 0 Z b h)) (fun h => .inl (vg b h))⟩
theorem li {w:World}{zb zC9 zC10 zC11:Nat}{z:Wld}{zA9 zA10 zA11:Option Addr}{zF9 zF10 zF11:List Nat}{g row:Int}(zB:w.heap[zb]? = some (.cells [.int .i64 z.Shape.Groups,.int .i64 z.Shape.Column,.int .i64 z.Shape.Data,.int .i64 z.Shape.Spare,.int .i64 z.Shape.Rows,.int .i64 z.Shape.Cap,.int .i64 z.Shape.Batch,.int .i64 z.Shape.Queue,.int .i64 z.Shape.Stage,.slice zA9 z.Groups.length zC9,.slice zA10 z.On.length zC10,.slice zA11 z.Tapes.length zC11,.int .i64 z.Writes,.int .i64 z.Stop,.bool z.Down].toArray 31)) (zK:z.Ok) (zO9:own false w [.slice zA9 z.Groups.length zC9] z.Groups zF9) (zO10:own false w [.slice zA10 z.On.length zC10] z.On zF10) (zO11:own false w [.slice zA11 z.Tapes.length zC11] z.Tapes zF11) (hs:z.Shape.ok=true) (hG:aR z=true) (hg:ins g 0 (z.Shape.Groups+z.Shape.Column-1)=true) (hr:ins row 0 (z.Shape.Rows-1)=true):Ret Tryz.prog 81 #[.pointer (some ⟨zb,0,none⟩),.int .i64 g,.int .i64 row] w fun v w'=>Ext No w w'∧(Res w w' [v] (l4 z g row)):=by
 have zK2:=zK;unfold Wld.Ok Shape.Ok at zK2
 try unfold I64ok at zK2
 try unfold maxLen at zK2
 have zL9:=oL zO9;have zL10:=oL zO10;have zL11:=oL zO11;have sbd:=aL hs;have hgg:=dQ hG;have hgl:=hgg.1;have hgi:=aN.1 hg;obtain ⟨hdl,hdd⟩:=hgg.2 g.toNat ω;have hri:=aN.1 hr;obtain ⟨pl,pp,pd⟩:=y5 (row:=row) hs hG hg hr;refine aH func81 Z ntmps81 Z (fun Q hQ hN=>?_);have H0:=Sep.start (cQ zB (ae zO9 (ae zO10 (ae zO11 aA))));refine ab (sA Z Z (aa (ab (sR 2 Z (sF ba Z br (sV Z (ak be Z br Z Z (At.sub (H0.fbox 0 Z) 9)) (sE func136 o5 Z (gu η) H0 (fun w1 e1 H1=>sR 3 Z (sC func138 Ba Z (mb (H1.fbox 0 Z) η (aC (H1.seen 1 Z)) (aC (H1.seen 2 Z)) (aC (H1.seen 3 Z)) η η η η) (fun v2 w2 r2=>?_))))))))));obtain ⟨e2,fpS1,oS1,hS1⟩:=r2;have H2:=H1.lookS e2 1 Z oS1 hS1;obtain ⟨a1,k1,q1⟩:=ao (H2.seen 4 Z);cases q1;refine sC func140 Bm Z (lh (n:=z.Shape.Data.toNat) (s:=z.Shape.Spare.toNat) ω pl pp (H2.sees 4 Z)) (fun v3 w3 r3=>?_);obtain ⟨e3,sa1,sk1,rfl,r3⟩:=r3;obtain ⟨fp1,H3⟩:=H2.res e3 r3;refine sR 5 Z (aa (ab (sR 2 Z (rN hQ results81 Z ?_))));exact ⟨H3.ext,H3.out 0 Z⟩
end Go.Wk
