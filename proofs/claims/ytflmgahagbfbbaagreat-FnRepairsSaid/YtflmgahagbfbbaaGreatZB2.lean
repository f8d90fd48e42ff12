/-
  Laws on walking, and the functions walked, each once: what this claim comes to.
-/
import Derived.Test.YtflmgahagbfbbaaGreatZB1
set_option linter.unusedVariables false
set_option linter.unusedSimpArgs false
namespace Go.Wk
open Rp (sz own)
def cat (r q:Rsc):Rsc:=⟨r.fp++q.fp,fun w=>r.φ w∧q.φ w,fun h k=>⟨r.st h.1 fun b hb=>k b (by simp [hb]),q.st h.2 fun b hb=>k b (by simp [hb])⟩,fun h b hb=>(List.mem_append.1 hb).elim (r.lt h.1 b) (q.lt h.2 b)⟩
section
variable {M:Nat→Prop}{w0 w w':World}{Δ F:List Rsc}
theorem Sep.join2 (h:Sep M w0 Δ F w) (i j:Nat) {r q:Rsc}(hi:Δ[i]? = some r) (hj:Δ[j]? = some q) (hij:Nat.beq j i=false):Sep M w0 ((Δ.set j gone).set i (cat r q)) F w:=
  h.set2 hi hj hij Ext.refl (q:=cat r q) ⟨h.r i hi,h.r j hj⟩ (List.nodup_append.2 ⟨h.nodup1 hi,h.nodup1 hj,fun a ha b hb e=>by subst e; exact h.apart hi hj hij a hb ha⟩)
    fun b hb=>(List.mem_append.1 hb).elim .inl fun h => .inr (.inl h)
theorem Sep.conv (h:Sep M w0 Δ F w) (i:Nat) {r:Rsc}(q:Rsc) (hi:Δ[i]? = some r) (hq:q.φ w) (hfp:∀ b∈q.fp,b∈r.fp) (hn:q.fp.Nodup):Sep M w0 (Δ.set i q) F w:=
  h.set hi Ext.refl hq hn fun b hb => .inl (hfp b hb)
theorem Sep.partLast {A:List Rsc}{r:Rsc}(h:Sep M w0 (A++[r]) F w) (rs:List Rsc) (hrs:∀ q∈rs,q.φ w) (hb:blocks rs=r.fp):Sep M w0 (A++gone::rs) F w:=by
  have H:=h.part A.length (r:=r) σ rs hrs hb
  rw [show (A++[r]).set A.length gone=A++[gone] by simp] at H
  simpa using H
def hol {α:Type}[Rp α] (ad:Option Addr) (n cap:Nat) (xs:List α) (k b off:Nat) (T:TypeId) (ck:List Value) (f1 f2:List Nat):Rsc:=
  ⟨b::(f1++f2),fun w=>∃ cur:Array Value,w.heap[b]? = some (.cells cur T (0,0))∧off+sz α≤cur.size∧(cur.toList.drop off).take (sz α)=ck∧(∀ x∈b::(f1++f2),x<w.heap.size) ∧
    ∀ w' cur' x' fk',w'.heap[b]? = some (.cells cur' T (0,0))→cur'.size=cur.size→(∀ j,j<off∨off+sz α≤j→cur'[j]? = cur[j]?)→(∀ b∈f1,w'.heap[b]? = w.heap[b]?)→(∀ b∈f2,w'.heap[b]? = w.heap[b]?) →
        own true w' ((cur'.toList.drop off).take (sz α)) x' fk'→own true w' [.slice ad n cap] (xs.set k x') (b::(f1++(fk'++f2))),
   fun h e=>by
      obtain ⟨cur,h1,h2,h3,h4,h5⟩:=h
      refine ⟨cur,(e b σ).trans h1,h2,h3,fun x hx=>?_,fun w' cur' x' fk' q1 q2 q3 q4 q5 q6=>h5 w' cur' x' fk' q1 q2 q3 (fun b hb=>(q4 b hb).trans (e b (by simp [hb]))) (fun b hb=>(q5 b hb).trans (e b (by simp [hb]))) q6⟩
      have h7:=h4 x hx
      have h8:=e x hx
      rw [Array.getElem?_eq_getElem h7] at h8
      exact (Array.getElem?_eq_some_iff.1 h8).1,
   fun h=>by obtain ⟨_,_,_,_,h,_⟩:=h; exact h⟩
variable {α:Type}[Rp α]
theorem Sep.focus {d:α}(h:Sep M w0 Δ F w) (i:Nat) {ad n cap} {xs:List α}{fp} (hi:Δ[i]? = some (Wk.mine [.slice ad n cap] xs fp)) (k:Nat) (hk:k<xs.length) :
    ∃ b o T ck f1 f2 fk,ad=some ⟨b,o,none⟩∧own true w ck (xs.getD k d) fk∧Sep M w0 (Δ.set i (hol ad n cap xs k b (o+k*sz α) T ck f1 f2)++[Wk.mine ck (xs.getD k d) fk]) F w:=by
  have hnd:=h.nodup1 hi
  obtain ⟨b,o,cur,T,f1,fk,f2,e1,e2,hb,hsz,hx,hback⟩:=oM (h.mine i hi) k hk
  have hlt:=Rp.lt (h.mine i hi)
  have hk1:(k+1)*sz α=k*sz α+sz α:=by rw [Nat.add_mul,Nat.one_mul]
  change fp.Nodup at hnd
  subst e2
  obtain ⟨n1,n2⟩:=List.nodup_cons.1 hnd
  rw [List.nodup_append,List.nodup_append] at n2
  obtain ⟨d1,⟨d2,d3,d4⟩,d5⟩:=n2
  have hmem:∀ x,x∈(b::(f1++f2))++fk↔x∈b::(f1++(fk++f2)):=fun x=>by
    simp only [List.cons_append,List.mem_cons,List.mem_append]
    constructor
    · rintro (h | (h | h) | h)
      · exact .inl h
      · exact .inr (.inl h)
      · exact .inr (.inr (.inr h))
      · exact .inr (.inr (.inl h))
    · rintro (h | h | h | h)
      · exact .inl h
      · exact .inr (.inl (.inl h))
      · exact .inr (.inr h)
      · exact .inr (.inl (.inr h))
  have H1:=h.set hi (q:=reord (Wk.mine [.slice ad n cap] xs (b::(f1++(fk++f2)))) ((b::(f1++f2))++fk) hmem) Ext.refl (h.mine i hi)
    (by
      change ((b::(f1++f2))++fk).Nodup
      refine List.nodup_append.2 ⟨List.nodup_cons.2 ⟨fun hm=>n1 (by rcases List.mem_append.1 hm with hm | hm<;>simp [hm]),List.nodup_append.2 ⟨d1,d3,fun p hp q hq e=>d5 p hp q (by simp [hq]) e⟩⟩,d2,fun p hp q hq e=>?_⟩
      subst e
      rcases List.mem_cons.1 hp with rfl | hp
      · exact n1 (by simp [hq])
      · rcases List.mem_append.1 hp with hp | hp
        · exact d5 p hp p (by simp [hq]) rfl
        · exact d4 p hq p hp rfl)
    (fun x hx => .inl ((hmem x).1 hx))
  have hil:i<Δ.length:=(List.getElem?_eq_some_iff.1 hi).1
  have ek:xs.getD k d=xs[k]:=by simp [List.getD,hk]
  refine ⟨b,o,T,_,f1,f2,fk,e1,by rw [ek]; exact hx,?_⟩
  have H2:=H1.part i (r:=reord (Wk.mine [.slice ad n cap] xs (b::(f1++(fk++f2)))) ((b::(f1++f2))++fk) hmem) (by rw [List.getElem?_set_self hil]) [hol ad n cap xs k b (o+k*sz α) T ((cur.toList.drop (o+k*sz α)).take (sz α)) f1 f2,Wk.mine ((cur.toList.drop (o+k*sz α)).take (sz α)) (xs.getD k d) fk] ?_ ?_
  · rw [List.set_set] at H2
    exact (H2.perm (il hil)).sub ((List.Sublist.refl _).append (.cons _ (.refl _)))
  · refine aB ⟨cur,hb,hsz,rfl,fun x hx=>hlt x ((hmem x).1 (by simp only [List.mem_append]; exact .inl hx)),fun w' cur' x' fk' q1 q2 q3 q4 q5 q6=>hback w' cur' x' fk' q1 q2 (fun j hj=>q3 j (by rw [hk1] at hj; omega)) q4 q5 q6⟩ (aB ?_ σ)
    rw [ek]; exact hx
  · simp [blocks,hol,Wk.mine,reord]
variable {ad:Option Addr}{n cap k b off:Nat}{xs:List α}{T:TypeId}{ck:List Value}{f1 f2:List Nat}
theorem Sep.holAt (h:Sep M w0 Δ F w) (i:Nat) (hi:Δ[i]? = some (hol ad n cap xs k b off T ck f1 f2)):At w b off ck:=by
  obtain ⟨cur,h1,h2,h3,_⟩:=h.r i hi
  rw [← h3]
  exact pd h1 _
theorem Sep.hset (h:Sep M w0 Δ F w) (i:Nat) (hi:Δ[i]? = some (hol ad n cap xs k b off T ck f1 f2)) (j:Nat) (hj:j<ck.length) (v:Value) :
    ∃ cur:Array Value,w.heap[b]? = some (.cells cur T (0,0))∧off+j<cur.size∧Sep M w0 (Δ.set i (hol ad n cap xs k b off T (ck.set j v) f1 f2)) F (Wk.put w b (.cells (cur.setIfInBounds (off+j) v) T (0,0))):=by
  obtain ⟨cur,h1,h2,h3,h4,h5⟩:(hol ad n cap xs k b off T ck f1 f2).φ w:=h.r i hi
  have hnd:=h.nodup1 hi
  change (b::(f1++f2)).Nodup at hnd
  obtain ⟨n1,_⟩:=List.nodup_cons.1 hnd
  have hjs:j<sz α:=by
    have:=congrArg List.length h3
    rw [List.length_take,List.length_drop] at this; omega
  have hE:Ext (· = b) w (Wk.put w b (.cells (cur.setIfInBounds (off+j) v) T (0,0))):=Ext.refl.put (.inl rfl)
  refine ⟨cur,h1,ω,h.set hi (q:=hol ad n cap xs k b off T (ck.set j v) f1 f2) (hE.mono fun b' _ e=>by subst e; simp [hol]) ?_ hnd (fun b hb => .inl hb)⟩
  refine ⟨cur.setIfInBounds (off+j) v,hZ h1,by simpa using h2,?_,fun x hx=>by have:=h4 x hx; have:=hE.size; omega,fun w' cur' x' fk' q1 q2 q3 q4 q5 q6=>?_⟩
  · rw [Array.toList_setIfInBounds,List.drop_set,if_neg ω,List.take_set,h3,Nat.add_sub_cancel_left]
  · refine h5 w' cur' x' fk' q1 (by simpa using q2) (fun l hl=>?_) (fun b' hb'=>?_) (fun b' hb'=>?_) q6
    · rw [q3 l hl,Array.getElem?_setIfInBounds_ne ω]
    · rw [q4 b' hb']; exact hE.block b' (h4 b' (by simp [hb'])) fun e=>n1 (by subst e; simp [hb'])
    · rw [q5 b' hb']; exact hE.block b' (h4 b' (by simp [hb'])) fun e=>n1 (by subst e; simp [hb'])
theorem Sep.fill (h:Sep M w0 Δ F w) (i j:Nat) {fk} {x:α}(hi:Δ[i]? = some (hol ad n cap xs k b off T ck f1 f2)) (hj:Δ[j]? = some (Wk.mine ck x fk)) (hij:Nat.beq j i=false) :
    ∃ fp',Sep M w0 ((Δ.set j gone).set i (Wk.mine [.slice ad n cap] (xs.set k x) fp')) F w:=by
  obtain ⟨cur,h1,h2,h3,h4,h5⟩:(hol ad n cap xs k b off T ck f1 f2).φ w:=h.r i hi
  have hx:=h.mine j hj
  have hnd:=h.nodup1 hi
  change (b::(f1++f2)).Nodup at hnd
  have hnk:=h.nodup1 hj
  change fk.Nodup at hnk
  have hap:∀ x∈fk,x ∉ b::(f1++f2):=fun x hx hm=>h.apart (i:=i) (j:=j) hi hj hij x hx hm
  obtain ⟨n1,n2⟩:=List.nodup_cons.1 hnd
  obtain ⟨d1,d2,d3⟩:=List.nodup_append.1 n2
  have hbk:b ∉ fk:=fun hm=>hap b hm σ
  refine ⟨b::(f1++(fk++f2)),h.set2 hi hj hij (q:=Wk.mine [.slice ad n cap] (xs.set k x) (b::(f1++(fk++f2)))) Ext.refl ?_ ?_ ?_⟩
  · exact h5 w cur x fk h1 rfl (fun _ _=>rfl) (fun _ _=>rfl) (fun _ _=>rfl) (by rw [h3]; exact hx)
  · change (b::(f1++(fk++f2))).Nodup
    refine List.nodup_cons.2 ⟨fun hm=>?_,List.nodup_append.2 ⟨d1,List.nodup_append.2 ⟨hnk,d2,fun p hp q hq e=>?_⟩,fun p hp q hq e=>?_⟩⟩
    · simp only [List.mem_append,not_or] at hm n1
      rcases hm with hm | hm | hm
      · exact n1.1 hm
      · exact hbk hm
      · exact n1.2 hm
    · subst e; exact hap p hp (by simp [hq])
    · subst e
      rcases List.mem_append.1 hq with hq | hq
      · exact hap p hq (by simp [hp])
      · exact d3 p hp p hq rfl
  · intro x hx
    change x∈b::(f1++(fk++f2)) at hx
    simp only [List.mem_cons,List.mem_append] at hx
    rcases hx with h | h | h | h
    · exact .inl (by simp [hol,h])
    · exact .inl (by simp [hol,h])
    · exact .inr (.inl h)
    · exact .inl (by simp [hol,h])
theorem Sep.focusL {β:Type}[Rp β] (h:Sep M w0 Δ F w) (i:Nat) {ad n cap} {xs:List (List β)}{fp} (hi:Δ[i]? = some (Wk.mine [.slice ad n cap] xs fp)) (k:Nat) (hk:k<xs.length) :
    ∃ b o T f1 f2 a c fk,ad=some ⟨b,o,none⟩∧Sep M w0 (Δ.set i (hol ad n cap xs k b (o+k*1) T [.slice a (xs.getD k []).length c] f1 f2)++[Wk.mine [.slice a (xs.getD k []).length c] (xs.getD k []) fk]) F w:=by
  obtain ⟨b,o,T,ck,f1,f2,fk,e,hx,H⟩:=h.focus (d:=([]:List β)) i hi k hk
  obtain ⟨a,c,rfl⟩:=aw hx
  exact ⟨b,o,T,f1,f2,a,c,fk,e,H⟩
end
section
variable {P:Program}{n:Nat}{ops:Array Oper}{Q:Post}{L:Env}{w w0:World}{M:Nat→Prop}{Δ F:List Rsc}{d:Tmp}{ty:TypeId}{p:String}{af:Array Edge}{g:Option (Nat × Bool)}{α:Type}[Rp α]
theorem ol {rest:List Oper}{t:TypeId}{x y:Operand}{ad:Option Addr}{m cap k b off:Nat}{xs:List α}{T:TypeId}{ck:List Value}{f1 f2:List Nat}{v:Value}(hw:Wn ops n L ⟨none,.store t x y,ty,p,af,g⟩) (hs:∀ w,(sizeOf t).run P w = .ok 1 w)
    (H:Sep M w0 Δ F w) (i j:Nat) (hi:Δ[i]? = some (hol ad m cap xs k b off T ck f1 f2)) (hj:Nat.blt j ck.length=true) (hx:evL L x=some (.pointer (some ⟨b,off+j,none⟩))) (hy:evL L y=some v) (h1:v.oneCell'=true)
    (kk:∀ w',Sep M w0 (Δ.set i (hol ad m cap xs k b off T (ck.set j v) f1 f2)) F w'→RL P n ops Q rest L w'):RL P n ops Q (⟨none,.store t x y,ty,p,af,g⟩::rest) L w:=by
  obtain ⟨cur,hb,hlt,H'⟩:=H.hset i hi j (Nat.le_of_ble_eq_true hj) v
  exact xN hw rfl (kr hs hx hy h1 hb hlt) (kk _ H')
end
end Go.Wk
namespace Go.Wk
section
variable {P:Program}{n:Nat}{c:Code}{Q:Post}{L:Env}{w w0:World}{M:Nat→Prop}{Δ F:List Rsc}
theorem gQ {α:Type}[Rp α] {γ:Type}{v0:Value}{fp0:List Nat}{b T} {cs:List Value}(f:γ→List α) (g0:γ) (H:Sep M w0 Δ F w) (i j q:Nat) (hi:Δ[i]? = some (mine [v0] (f g0) fp0)) (hj:Δ[j]? = some (box b (.cells cs.toArray T))) (hq:cs[q]? = some v0) (hij:Nat.beq j i=false)
  (E2:Env) (h2:sub L E2) (E:γ→Env) (I:γ→Prop) (μ:γ→Nat) (hs:sub L (E g0)) (h0:I g0)
  (round:∀ g v fp w,Sep M w0 ((Δ.set i (mine [v] (f g) fp)).set j (box b (.cells (cs.set q v).toArray T))) F w→I g→W P n c (again (fun x:γ × Value × List Nat=>E x.1++E2) (fun x w'=>Sep M w0 ((Δ.set i (mine [x.2.1] (f x.1) x.2.2)).set j (box b (.cells (cs.set q x.2.1).toArray T))) F w'∧I x.1) (fun x=>μ x.1) (g,v,fp) Q) (E g++E2) w):W P n (.loop c) Q L w:=by
 have hne:i≠j:=fun e=>by subst e; simp at hij
 have e0:(Δ.set i (mine [v0] (f g0) fp0)).set j (box b (.cells (cs.set q v0).toArray T))=Δ:=by
  have ec:cs.set q v0=cs:=by
   apply List.ext_getElem?
   intro l
   rw [List.getElem?_set]
   split
   ·rename_i e; subst e
    obtain ⟨hl,_⟩:=List.getElem?_eq_some_iff.1 hq
    rw [if_pos hl,hq]
   ·rfl
  rw [oe hi,ec,oe hj]
 exact cf (fun x:γ × Value × List Nat=>E x.1++E2) (fun x w'=>Sep M w0 ((Δ.set i (mine [x.2.1] (f x.1) x.2.2)).set j (box b (.cells (cs.set q x.2.1).toArray T))) F w'∧I x.1) (fun x=>μ x.1) (g0,v0,fp0) (jC hs h2) ⟨by rw [e0]; exact H,h0⟩ fun x w h=>round x.1 x.2.1 x.2.2 w h.1 h.2
theorem Sep.nilW {α:Type}[Rp α] (h:Sep M w0 Δ F w):Sep M w0 (Δ++[Wk.mine [.slice none 0 0] ([]:List α) []]) F w:=
  h.add Ext.refl (r:=Wk.mine [.slice none 0 0] ([]:List α) []) (.inr (.inl ⟨rfl,rfl,rfl⟩)) (by simp [Wk.mine]) (by simp [Wk.mine])
end
end Go.Wk
namespace Go.Wk
open Rp (sz own)
theorem Block.focus {M:Nat→Prop}{w0 w:World}{Δ F:List Rsc}(h:Sep M w0 Δ F w) (i:Nat) {ad n cap} {xs:List Block}{fp} (hi:Δ[i]? = some (mine [.slice ad n cap] xs fp)) (k:Nat) (hk:k<xs.length):∃ b o Ty f1 f2 A1 C1 g1,ad=some ⟨b,o,none⟩∧(xs.getD k default).Ok∧Sep M w0 (Δ.set i (hol ad n cap xs k b (o+k*sz Block) Ty [.int .i64 (xs.getD k default).Stamp,.slice A1 (xs.getD k default).Bytes.length C1] f1 f2)++[gone,mine [.slice A1 (xs.getD k default).Bytes.length C1] (xs.getD k default).Bytes g1]) F w:=by
  obtain ⟨b,o,Ty,ck,f1,f2,fk,e,hx,H⟩:=h.focus (d:=default) i hi k hk
  obtain ⟨A1,C1,g1,rfl,ef,ok,o1⟩:=jc hx
  have H2:=H.partLast [mine [.slice A1 (xs.getD k default).Bytes.length C1] (xs.getD k default).Bytes g1] (aB o1 σ) (by simp [blocks,mine,ef])
  exact ⟨b,o,Ty,f1,f2,A1,C1,g1,e,ok,H2⟩
theorem Block.fill {M:Nat→Prop}{w0 w:World}{Δ F:List Rsc}(h:Sep M w0 Δ F w) (i j1:Nat) {ad n cap k b off Ty f1 f2} {xs:List Block}{s0:Int}{A1 C1 m1} {y1:List UInt8}{g1} (hi:Δ[i]? = some (hol ad n cap xs k b off Ty [.int .i64 s0,.slice A1 m1 C1] f1 f2)) (h1:Δ[j1]? = some (mine [.slice A1 m1 C1] y1 g1)) (d1:Nat.beq j1 i=false)  (ok:(⟨s0,y1⟩:Block).Ok):∃ fp',Sep M w0 ((Δ.set j1 gone).set i (mine [.slice ad n cap] (xs.set k (⟨s0,y1⟩:Block)) fp')) F w:=by
  have o1:=h.mine j1 h1
  obtain rfl:=en o1
  have n1:j1≠i:=fun e=>by subst e; simp at d1
  have H:=h.conv j1 (mine [.int .i64 s0,.slice A1 y1.length C1] (⟨s0,y1⟩:Block) (g1)) h1 (Block.own_mk ok o1) (fun b hb=>hb) (show (mine [.slice A1 y1.length C1] y1 g1).fp.Nodup from h.nodup1 h1)
  obtain ⟨fp',H2⟩:=H.fill i j1 (by rw [List.getElem?_set_ne n1]; exact hi) (by rw [List.getElem?_set_self (List.getElem?_eq_some_iff.1 h1).1]) d1
  rw [List.set_set] at H2
  exact ⟨fp',H2⟩
theorem Drive.focus {M:Nat→Prop}{w0 w:World}{Δ F:List Rsc}(h:Sep M w0 Δ F w) (i:Nat) {ad n cap} {xs:List Drive}{fp} (hi:Δ[i]? = some (mine [.slice ad n cap] xs fp)) (k:Nat) (hk:k<xs.length):∃ b o Ty f1 f2 A1 C1 g1,ad=some ⟨b,o,none⟩∧(xs.getD k default).Ok∧Sep M w0 (Δ.set i (hol ad n cap xs k b (o+k*sz Drive) Ty [.bool (xs.getD k default).Wiped,.slice A1 (xs.getD k default).Blocks.length C1] f1 f2)++[gone,mine [.slice A1 (xs.getD k default).Blocks.length C1] (xs.getD k default).Blocks g1]) F w:=by
  obtain ⟨b,o,Ty,ck,f1,f2,fk,e,hx,H⟩:=h.focus (d:=default) i hi k hk
  obtain ⟨A1,C1,g1,rfl,ef,ok,o1⟩:=gd hx
  have H2:=H.partLast [mine [.slice A1 (xs.getD k default).Blocks.length C1] (xs.getD k default).Blocks g1] (aB o1 σ) (by simp [blocks,mine,ef])
  exact ⟨b,o,Ty,f1,f2,A1,C1,g1,e,ok,H2⟩
theorem Drive.fill {M:Nat→Prop}{w0 w:World}{Δ F:List Rsc}(h:Sep M w0 Δ F w) (i j1:Nat) {ad n cap k b off Ty f1 f2} {xs:List Drive}{s0:Bool}{A1 C1 m1} {y1:List Block}{g1} (hi:Δ[i]? = some (hol ad n cap xs k b off Ty [.bool s0,.slice A1 m1 C1] f1 f2)) (h1:Δ[j1]? = some (mine [.slice A1 m1 C1] y1 g1)) (d1:Nat.beq j1 i=false)  (ok:(⟨s0,y1⟩:Drive).Ok):∃ fp',Sep M w0 ((Δ.set j1 gone).set i (mine [.slice ad n cap] (xs.set k (⟨s0,y1⟩:Drive)) fp')) F w:=by
  have o1:=h.mine j1 h1
  obtain rfl:=en o1
  have n1:j1≠i:=fun e=>by subst e; simp at d1
  have H:=h.conv j1 (mine [.bool s0,.slice A1 y1.length C1] (⟨s0,y1⟩:Drive) (g1)) h1 (Drive.own_mk ok o1) (fun b hb=>hb) (show (mine [.slice A1 y1.length C1] y1 g1).fp.Nodup from h.nodup1 h1)
  obtain ⟨fp',H2⟩:=H.fill i j1 (by rw [List.getElem?_set_ne n1]; exact hi) (by rw [List.getElem?_set_self (List.getElem?_eq_some_iff.1 h1).1]) d1
  rw [List.set_set] at H2
  exact ⟨fp',H2⟩
theorem Tape.focus {M:Nat→Prop}{w0 w:World}{Δ F:List Rsc}(h:Sep M w0 Δ F w) (i:Nat) {ad n cap} {xs:List Tape}{fp} (hi:Δ[i]? = some (mine [.slice ad n cap] xs fp)) (k:Nat) (hk:k<xs.length):∃ b o Ty f1 f2 A1 C1 g1,ad=some ⟨b,o,none⟩∧(xs.getD k default).Ok∧Sep M w0 (Δ.set i (hol ad n cap xs k b (o+k*sz Tape) Ty [.bool (xs.getD k default).Wiped,.slice A1 (xs.getD k default).Recs.length C1] f1 f2)++[gone,mine [.slice A1 (xs.getD k default).Recs.length C1] (xs.getD k default).Recs g1]) F w:=by
  obtain ⟨b,o,Ty,ck,f1,f2,fk,e,hx,H⟩:=h.focus (d:=default) i hi k hk
  obtain ⟨A1,C1,g1,rfl,ef,ok,o1⟩:=cL hx
  have H2:=H.partLast [mine [.slice A1 (xs.getD k default).Recs.length C1] (xs.getD k default).Recs g1] (aB o1 σ) (by simp [blocks,mine,ef])
  exact ⟨b,o,Ty,f1,f2,A1,C1,g1,e,ok,H2⟩
theorem Tape.fill {M:Nat→Prop}{w0 w:World}{Δ F:List Rsc}(h:Sep M w0 Δ F w) (i j1:Nat) {ad n cap k b off Ty f1 f2} {xs:List Tape}{s0:Bool}{A1 C1 m1} {y1:List Rec}{g1} (hi:Δ[i]? = some (hol ad n cap xs k b off Ty [.bool s0,.slice A1 m1 C1] f1 f2)) (h1:Δ[j1]? = some (mine [.slice A1 m1 C1] y1 g1)) (d1:Nat.beq j1 i=false)  (ok:(⟨s0,y1⟩:Tape).Ok):∃ fp',Sep M w0 ((Δ.set j1 gone).set i (mine [.slice ad n cap] (xs.set k (⟨s0,y1⟩:Tape)) fp')) F w:=by
  have o1:=h.mine j1 h1
  obtain rfl:=en o1
  have n1:j1≠i:=fun e=>by subst e; simp at d1
  have H:=h.conv j1 (mine [.bool s0,.slice A1 y1.length C1] (⟨s0,y1⟩:Tape) (g1)) h1 (Tape.own_mk ok o1) (fun b hb=>hb) (show (mine [.slice A1 y1.length C1] y1 g1).fp.Nodup from h.nodup1 h1)
  obtain ⟨fp',H2⟩:=H.fill i j1 (by rw [List.getElem?_set_ne n1]; exact hi) (by rw [List.getElem?_set_self (List.getElem?_eq_some_iff.1 h1).1]) d1
  rw [List.set_set] at H2
  exact ⟨fp',H2⟩
end Go.Wk
namespace Go.Wk
theorem jl {α:Type}{a b:List α}{d:α}{i:Nat}(h:i<a.length):(a++b).getD i d=a.getD i d:=by simp [List.getD,List.getElem?_append_left h]
theorem lI {α:Type}{a b:List α}{d:α}{i:Nat}(h:a.length≤i):(a++b).getD i d=b.getD (i-a.length) d:=by simp [List.getD,List.getElem?_append_right h]
theorem bL {α:Type}{l:List α}{d:α}{i:Nat}(h:i<l.length):l.getD i d=l[i]:=by simp [List.getD,h]
end Go.Wk
namespace Go.Wk
open Rp (sz own)
def OwnW (w:World) (b:Nat) (T:TypeId) (z:Wld) (fp:List Nat):Prop:=
  ∃ A9 C9 A10 C10 A11 C11 f9 f10 f11,w.heap[b]? = some (.cells [.int .i64 z.Shape.Groups,.int .i64 z.Shape.Column,.int .i64 z.Shape.Data,.int .i64 z.Shape.Spare,.int .i64 z.Shape.Rows,.int .i64 z.Shape.Cap,.int .i64 z.Shape.Batch,.int .i64 z.Shape.Queue,.int .i64 z.Shape.Stage,.slice A9 z.Groups.length C9,.slice A10 z.On.length C10,.slice A11 z.Tapes.length C11,.int .i64 z.Writes,.int .i64 z.Stop,.bool z.Down].toArray T)∧own true w [.slice A9 z.Groups.length C9] z.Groups f9∧own true w [.slice A10 z.On.length C10] z.On f10∧own true w [.slice A11 z.Tapes.length C11] z.Tapes f11∧z.Ok∧fp=b::(f9++(f10++f11))
theorem OwnW.st {w w':World}{b T z fp} (h:OwnW w b T z fp) (k:∀ x∈fp,w'.heap[x]? = w.heap[x]?):OwnW w' b T z fp:=by
  obtain ⟨A9,C9,A10,C10,A11,C11,f9,f10,f11,h1,h2,h3,h4,h5,h6⟩:=h
  subst h6
  exact ⟨A9,C9,A10,C10,A11,C11,f9,f10,f11,(k b σ).trans h1,Rp.st h2 fun x hx=>k x (by simp [hx]),Rp.st h3 fun x hx=>k x (by simp [hx]),Rp.st h4 fun x hx=>k x (by simp [hx]),h5,rfl⟩
theorem OwnW.lt {w:World}{b T z fp} (h:OwnW w b T z fp):∀ x∈fp,x<w.heap.size:=by
  obtain ⟨A9,C9,A10,C10,A11,C11,f9,f10,f11,h1,h2,h3,h4,h5,h6⟩:=h
  subst h6
  intro x hx
  simp only [List.mem_cons,List.mem_append] at hx
  rcases hx with rfl | hx | hx | hx
  · exact (Array.getElem?_eq_some_iff.1 h1).1
  · exact Rp.lt h2 x hx
  · exact Rp.lt h3 x hx
  · exact Rp.lt h4 x hx
theorem OwnW.ok {w:World}{b T z fp} (h:OwnW w b T z fp):z.Ok:=by
  obtain ⟨_,_,_,_,_,_,_,_,_,_,_,_,_,h5,_⟩:=h
  exact h5
def wldR (b:Nat) (T:TypeId) (z:Wld) (fp:List Nat):Rsc:=⟨fp,fun w=>OwnW w b T z fp,fun h k=>h.st k,fun h=>h.lt⟩
def MutW (w w':World) (fp:List Nat) (b:Nat) (T:TypeId) (z:Wld):Prop:=
  Ext (· ∈ fp) w w'∧∃ fp',OwnW w' b T z fp'∧fp'.Nodup∧∀ x∈fp',x∈fp∨w.heap.size≤x
section
variable {M:Nat→Prop}{w0 w w':World}{Δ F:List Rsc}{b:Nat}{T:TypeId}{z z':Wld}{fp:List Nat}
theorem Sep.beginW (h:OwnW w b T z fp) (hn:fp.Nodup):Sep (· ∈ fp) w [wldR b T z fp] [] w:=
  ⟨Ext.refl,by simpa [wldR] using h,by simpa [blocks,wldR] using hn,fun b hb => .inl (by simpa [blocks,wldR] using hb),σ,σ⟩
theorem Sep.seeF {α:Type}[Rp α] (h:Sep M w0 [wldR b T z fp] F w) {cs:List Value}{x:α}{f} (hx:own false w cs x f) (hd:∀ b∈f,b ∉ fp):Sep M w0 [wldR b T z fp] (F++[Wk.seen false cs x f]) w:=
  h.look (r:=Wk.seen false cs x f) hx fun b hb hm=>hd b hb (by simpa [blocks,wldR] using hm)
theorem Sep.wldAt (h:Sep M w0 Δ F w) (i:Nat) (hi:Δ[i]? = some (wldR b T z fp)):OwnW w b T z fp:=h.r i hi
theorem Sep.doneW {Δ':List Rsc}{fp0:List Nat}(h:Sep (· ∈ fp0) w0 (wldR b T z fp::Δ') F w):MutW w0 w fp0 b T z:=
  ⟨h.ext,fp,h.r 0 rfl,h.nodup1 (i:=0) rfl,fun x hx=>h.new x (by simp [blocks,wldR,hx])⟩
theorem Sep.mutW (h:Sep M w0 Δ F w) (i:Nat) (hi:Δ[i]? = some (wldR b T z fp)) (m:MutW w w' fp b T z'):∃ fp',Sep M w0 (Δ.set i (wldR b T z' fp')) F w':=by
  obtain ⟨e,fp',h1,h2,h3⟩:=m
  exact ⟨fp',h.set hi (q:=wldR b T z' fp') e h1 h2 h3⟩
theorem Sep.openW (h:Sep M w0 Δ F w) (i:Nat) (hi:Δ[i]? = some (wldR b T z fp)) :
    ∃ A9 C9 A10 C10 A11 C11 f9 f10 f11,z.Ok∧Sep M w0 (Δ.set i (Wk.box b (.cells [.int .i64 z.Shape.Groups,.int .i64 z.Shape.Column,.int .i64 z.Shape.Data,.int .i64 z.Shape.Spare,.int .i64 z.Shape.Rows,.int .i64 z.Shape.Cap,.int .i64 z.Shape.Batch,.int .i64 z.Shape.Queue,.int .i64 z.Shape.Stage,.slice A9 z.Groups.length C9,.slice A10 z.On.length C10,.slice A11 z.Tapes.length C11,.int .i64 z.Writes,.int .i64 z.Stop,.bool z.Down].toArray T))++[gone,Wk.mine [.slice A9 z.Groups.length C9] z.Groups f9,Wk.mine [.slice A10 z.On.length C10] z.On f10,Wk.mine [.slice A11 z.Tapes.length C11] z.Tapes f11]) F w:=by
  obtain ⟨A9,C9,A10,C10,A11,C11,f9,f10,f11,h1,h2,h3,h4,h5,h6⟩:OwnW w b T z fp:=h.r i hi
  have hil:i<Δ.length:=(List.getElem?_eq_some_iff.1 hi).1
  have p1:(Wk.box b (.cells [.int .i64 z.Shape.Groups,.int .i64 z.Shape.Column,.int .i64 z.Shape.Data,.int .i64 z.Shape.Spare,.int .i64 z.Shape.Rows,.int .i64 z.Shape.Cap,.int .i64 z.Shape.Batch,.int .i64 z.Shape.Queue,.int .i64 z.Shape.Stage,.slice A9 z.Groups.length C9,.slice A10 z.On.length C10,.slice A11 z.Tapes.length C11,.int .i64 z.Writes,.int .i64 z.Stop,.bool z.Down].toArray T)).φ w:=h1
  have H2:=h.part i hi [Wk.box b (.cells [.int .i64 z.Shape.Groups,.int .i64 z.Shape.Column,.int .i64 z.Shape.Data,.int .i64 z.Shape.Spare,.int .i64 z.Shape.Rows,.int .i64 z.Shape.Cap,.int .i64 z.Shape.Batch,.int .i64 z.Shape.Queue,.int .i64 z.Shape.Stage,.slice A9 z.Groups.length C9,.slice A10 z.On.length C10,.slice A11 z.Tapes.length C11,.int .i64 z.Writes,.int .i64 z.Stop,.bool z.Down].toArray T),Wk.mine [.slice A9 z.Groups.length C9] z.Groups f9,Wk.mine [.slice A10 z.On.length C10] z.On f10,Wk.mine [.slice A11 z.Tapes.length C11] z.Tapes f11] (aB p1 (aB h2 (aB h3 (aB h4 σ)))) (by simp [blocks,Wk.mine,Wk.box,wldR,h6])
  exact ⟨A9,C9,A10,C10,A11,C11,f9,f10,f11,h5,H2.perm (il hil)⟩
theorem Sep.closeW (h:Sep M w0 Δ F w) (i j9 j10 j11:Nat) (z:Wld) {A9 C9 A10 C10 A11 C11 f9 f10 f11 n9 n10 n11} (hi:Δ[i]? = some (Wk.box b (.cells [.int .i64 z.Shape.Groups,.int .i64 z.Shape.Column,.int .i64 z.Shape.Data,.int .i64 z.Shape.Spare,.int .i64 z.Shape.Rows,.int .i64 z.Shape.Cap,.int .i64 z.Shape.Batch,.int .i64 z.Shape.Queue,.int .i64 z.Shape.Stage,.slice A9 n9 C9,.slice A10 n10 C10,.slice A11 n11 C11,.int .i64 z.Writes,.int .i64 z.Stop,.bool z.Down].toArray T))) (h9:Δ[j9]? = some (Wk.mine [.slice A9 n9 C9] z.Groups f9)) (h10:Δ[j10]? = some (Wk.mine [.slice A10 n10 C10] z.On f10)) (h11:Δ[j11]? = some (Wk.mine [.slice A11 n11 C11] z.Tapes f11))
    (d1:Nat.beq j9 i=false) (d2:Nat.beq j10 i=false) (d3:Nat.beq j11 i=false) (d4:Nat.beq j10 j9=false) (d5:Nat.beq j11 j9=false) (d6:Nat.beq j11 j10=false) (ok:z.Ok) :
    ∃ fp,Sep M w0 ((((Δ.set j11 gone).set j10 gone).set j9 gone).set i (wldR b T z fp)) F w:=by
  obtain rfl:=en (h.mine j9 h9)
  obtain rfl:=en (h.mine j10 h10)
  obtain rfl:=en (h.mine j11 h11)
  have n1:j9≠i:=fun e=>by subst e; simp at d1
  have n2:j10≠i:=fun e=>by subst e; simp at d2
  have n3:j11≠i:=fun e=>by subst e; simp at d3
  have n4:j10≠j9:=fun e=>by subst e; simp at d4
  have n5:j11≠j9:=fun e=>by subst e; simp at d5
  have n6:j11≠j10:=fun e=>by subst e; simp at d6
  have g:∀ {L:List Rsc}{k:Nat}{a r:Rsc},L[k]? = some r→(L.set k a)[k]? = some a:=fun h=>List.getElem?_set_self (List.getElem?_eq_some_iff.1 h).1
  have H1:=h.join2 j10 j11 h10 h11 d6
  have a10:((Δ.set j11 gone).set j10 (cat (Wk.mine [.slice A10 z.On.length C10] z.On f10) (Wk.mine [.slice A11 z.Tapes.length C11] z.Tapes f11)))[j10]? = some (cat (Wk.mine [.slice A10 z.On.length C10] z.On f10) (Wk.mine [.slice A11 z.Tapes.length C11] z.Tapes f11)):=g (r:=Wk.mine [.slice A10 z.On.length C10] z.On f10) (by rw [List.getElem?_set_ne n6]; exact h10)
  have a9:((Δ.set j11 gone).set j10 (cat (Wk.mine [.slice A10 z.On.length C10] z.On f10) (Wk.mine [.slice A11 z.Tapes.length C11] z.Tapes f11)))[j9]? = some (Wk.mine [.slice A9 z.Groups.length C9] z.Groups f9):=by rw [List.getElem?_set_ne n4,List.getElem?_set_ne n5]; exact h9
  have H2:=H1.join2 j9 j10 a9 a10 d4
  rw [List.set_set] at H2
  have ai:((((Δ.set j11 gone).set j10 gone).set j9 (cat (Wk.mine [.slice A9 z.Groups.length C9] z.Groups f9) (cat (Wk.mine [.slice A10 z.On.length C10] z.On f10) (Wk.mine [.slice A11 z.Tapes.length C11] z.Tapes f11)))))[i]? = some (Wk.box b (.cells [.int .i64 z.Shape.Groups,.int .i64 z.Shape.Column,.int .i64 z.Shape.Data,.int .i64 z.Shape.Spare,.int .i64 z.Shape.Rows,.int .i64 z.Shape.Cap,.int .i64 z.Shape.Batch,.int .i64 z.Shape.Queue,.int .i64 z.Shape.Stage,.slice A9 z.Groups.length C9,.slice A10 z.On.length C10,.slice A11 z.Tapes.length C11,.int .i64 z.Writes,.int .i64 z.Stop,.bool z.Down].toArray T)):=by rw [List.getElem?_set_ne n1,List.getElem?_set_ne n2,List.getElem?_set_ne n3]; exact hi
  have b9:((((Δ.set j11 gone).set j10 gone).set j9 (cat (Wk.mine [.slice A9 z.Groups.length C9] z.Groups f9) (cat (Wk.mine [.slice A10 z.On.length C10] z.On f10) (Wk.mine [.slice A11 z.Tapes.length C11] z.Tapes f11)))))[j9]? = some (cat (Wk.mine [.slice A9 z.Groups.length C9] z.Groups f9) (cat (Wk.mine [.slice A10 z.On.length C10] z.On f10) (Wk.mine [.slice A11 z.Tapes.length C11] z.Tapes f11))):=g (r:=Wk.mine [.slice A9 z.Groups.length C9] z.Groups f9) (by rw [List.getElem?_set_ne n4,List.getElem?_set_ne n5]; exact h9)
  have H3:=H2.join2 i j9 ai b9 d1
  rw [List.set_set] at H3
  obtain ⟨q1,q2,q3,q4⟩:(cat (Wk.box b (.cells [.int .i64 z.Shape.Groups,.int .i64 z.Shape.Column,.int .i64 z.Shape.Data,.int .i64 z.Shape.Spare,.int .i64 z.Shape.Rows,.int .i64 z.Shape.Cap,.int .i64 z.Shape.Batch,.int .i64 z.Shape.Queue,.int .i64 z.Shape.Stage,.slice A9 z.Groups.length C9,.slice A10 z.On.length C10,.slice A11 z.Tapes.length C11,.int .i64 z.Writes,.int .i64 z.Stop,.bool z.Down].toArray T)) (cat (Wk.mine [.slice A9 z.Groups.length C9] z.Groups f9) (cat (Wk.mine [.slice A10 z.On.length C10] z.On f10) (Wk.mine [.slice A11 z.Tapes.length C11] z.Tapes f11)))).φ w:=H3.r i (g (r:=Wk.box b (.cells [.int .i64 z.Shape.Groups,.int .i64 z.Shape.Column,.int .i64 z.Shape.Data,.int .i64 z.Shape.Spare,.int .i64 z.Shape.Rows,.int .i64 z.Shape.Cap,.int .i64 z.Shape.Batch,.int .i64 z.Shape.Queue,.int .i64 z.Shape.Stage,.slice A9 z.Groups.length C9,.slice A10 z.On.length C10,.slice A11 z.Tapes.length C11,.int .i64 z.Writes,.int .i64 z.Stop,.bool z.Down].toArray T)) (by rw [List.getElem?_set_ne n1,List.getElem?_set_ne n2,List.getElem?_set_ne n3]; exact hi))
  have hg:=g (a:=cat (Wk.box b (.cells [.int .i64 z.Shape.Groups,.int .i64 z.Shape.Column,.int .i64 z.Shape.Data,.int .i64 z.Shape.Spare,.int .i64 z.Shape.Rows,.int .i64 z.Shape.Cap,.int .i64 z.Shape.Batch,.int .i64 z.Shape.Queue,.int .i64 z.Shape.Stage,.slice A9 z.Groups.length C9,.slice A10 z.On.length C10,.slice A11 z.Tapes.length C11,.int .i64 z.Writes,.int .i64 z.Stop,.bool z.Down].toArray T)) (cat (Wk.mine [.slice A9 z.Groups.length C9] z.Groups f9) (cat (Wk.mine [.slice A10 z.On.length C10] z.On f10) (Wk.mine [.slice A11 z.Tapes.length C11] z.Tapes f11)))) (r:=Wk.box b (.cells [.int .i64 z.Shape.Groups,.int .i64 z.Shape.Column,.int .i64 z.Shape.Data,.int .i64 z.Shape.Spare,.int .i64 z.Shape.Rows,.int .i64 z.Shape.Cap,.int .i64 z.Shape.Batch,.int .i64 z.Shape.Queue,.int .i64 z.Shape.Stage,.slice A9 z.Groups.length C9,.slice A10 z.On.length C10,.slice A11 z.Tapes.length C11,.int .i64 z.Writes,.int .i64 z.Stop,.bool z.Down].toArray T)) (L:=((Δ.set j11 gone).set j10 gone).set j9 gone) (k:=i) (by rw [List.getElem?_set_ne n1,List.getElem?_set_ne n2,List.getElem?_set_ne n3]; exact hi)
  have hn:=H3.nodup1 hg
  have H4:=H3.conv i (wldR b T z (b::(f9++(f10++f11)))) hg ⟨A9,C9,A10,C10,A11,C11,f9,f10,f11,q1,q2,q3,q4,ok,rfl⟩ (fun x hx=>hx) hn
  rw [List.set_set] at H4
  exact ⟨_,H4⟩
end
section
variable {M:Nat→Prop}{w0 w w1 w2:World}{Δ F:List Rsc}
theorem Sep.inB (_:Sep M w0 Δ F w) (i:Nat) {r:Rsc}(hi:Δ[i]? = some r) {b:Nat}(hb:b∈r.fp):b∈blocks Δ:=be.2 ⟨r,List.mem_of_getElem? hi,hb⟩
end
end Go.Wk
namespace Go.Wk
open Rp (sz own)
def ci (z:Wld):Bool:=decide (z.Stop ≠ -1) && decide (z.Stop≤z.Writes)
def uf (z:Wld):Wld:=⟨z.Shape,z.Groups,[],z.Tapes,z.Writes,z.Stop,true⟩
def kE (z:Wld):Wld:=⟨z.Shape,z.Groups,z.On,z.Tapes,z.Writes+1,z.Stop,z.Down⟩
def sI (z:Wld) (y:Wld):Wld:=if ci z=true then uf z else kE y
theorem nP {z y:Wld}(h:ci z=true):sI z y=uf z:=if_pos h
theorem eY {z y:Wld}(h:ci z=false):sI z y=kE y:=if_neg (by simp [h])
def lM (t:Nat) (r:Rec) (z:Wld):Wld:=⟨z.Shape,z.Groups,z.On,z.Tapes.set t ⟨false,(z.Tapes.getD t default).Recs++[r]⟩,z.Writes,z.Stop,z.Down⟩
def fT (t:Nat) (r:Rec) (z:Wld):Wld:=sI z (lM t r z)
def noWld:Wld:=⟨⟨0,0,0,0,0,0,0,0,0⟩,[],[],[],0,0,false⟩
theorem se {t:Nat}{r:Rec}{z:Wld}:z.Writes≤(fT t r z).Writes∧(fT t r z).Writes≤z.Writes+1:=by
  unfold fT sI; split
  · show z.Writes≤z.Writes∧z.Writes≤z.Writes+1; omega
  · show z.Writes≤z.Writes+1∧z.Writes+1≤z.Writes+1; omega
theorem mK {f g:Nat→Nat}:∀ k,fS (fun i=>f i+g i) k=fS f k+fS g k
  | 0=>rfl
  | k+1=>by
    show fS (fun i=>f i+g i) k+(f k+g k)=fS f k+f k+(fS g k+g k)
    rw [mK k]; omega
theorem pC {i c:Nat}:∀ k,fS (fun j=>if j=i then c else 0) k=if i<k then c else 0
  | 0=>rfl
  | k+1=>by
    show fS (fun j=>if j=i then c else 0) k+(if k=i then c else 0)=_
    rw [pC k]
    by_cases h:k=i
    · subst h; rw [if_neg ω,if_pos rfl,if_pos ω]; omega
    · rw [if_neg h]
      by_cases h2:i<k
      · rw [if_pos h2,if_pos ω]; omega
      · rw [if_neg h2,if_neg ω]
section
variable {α:Type}[Inhabited α] {f:α→Nat}{xs:List α}{y:α}{i:Nat}
theorem xM:mkL f (xs++[y])=mkL f xs+f y:=by
  unfold mkL
  rw [List.length_append]
  show fS _ xs.length+f ((xs++[y]).getD xs.length default)=_
  have e1:(xs++[y]).getD xs.length default=y:=by simp [List.getD]
  rw [e1,lD (g:=fun i=>f (xs.getD i default)) fun j hj=>by
    have e:(xs++[y]).getD j default=xs.getD j default:=by rw [jl hj]
    rw [e]]
end
theorem zH {z:Wld}:je (uf z)≤je z:=by
  unfold je uf; dsimp only; simp
end Go.Wk
namespace Go.Wk
open Rp (sz own)
theorem cG {α:Type}{xs:List α}{k:Nat}{d:α}(h:k<xs.length):xs.take k++[xs.getD k d]=xs.take (k+1):=by
  rw [bL h]; exact List.take_append_getElem h
theorem ei {w:Wld}(h:bV w=0):0≤w.Writes∧w.Writes≤1000000000 ∧ -1≤w.Stop∧w.Stop≤1000000000:=by
  unfold bV at h
  split at h
  · rename_i h1; exact absurd h h1
  · split at h
    · split at h
      · rename_i h1; exact absurd h h1
      · split at h
        · rename_i h1
          simp only [Bool.and_eq_true,cu] at h1
          omega
        · omega
    · omega
theorem Sep.asSt {α β:Type}[Rp α] [Rp β] {M:Nat→Prop}{w0 w:World}{Δ F:List Rsc}(h:Sep M w0 Δ F w) (i:Nat) {cs cs':List Value}{x:α}(y:β) {fp:List Nat}(hi:Δ[i]? = some (Wk.mine cs x fp)) (hq:own true w cs' y fp):Sep M w0 (Δ.set i (Wk.mine cs' y fp)) F w:=
  have hn:=h.nodup1 hi
  h.conv i (Wk.mine cs' y fp) hi hq (fun b hb=>hb) hn
section
variable {P:Program}{n:Nat}{ops:Array Oper}{Q:Post}{L:Env}{S:World→Prop}{w w0:World}{M:Nat→Prop}{Δ F:List Rsc}{ty:TypeId}{p:String}{af:Array Edge}{g:Option (Nat × Bool)}{i:Nat}{rest:List (Nat × Bool)}
theorem tG {t:TypeId}{x y:Operand}{b off sz:Nat}{cs:List Value}{T} {vs:List Value}(ho:ops.toList[i]? = some ⟨none,.store t x y,ty,p,af,g⟩) (hw:Wn ops n L ⟨none,.store t x y,ty,p,af,g⟩) (hs:∀ w,(sizeOf t).run P w = .ok sz w) (hx:evL L x=some (.pointer (some ⟨b,off,none⟩))) (hy:evL L y=some (.agg vs.toArray))
    (hl:vs.length=sz) (h1:oA vs=true) (H:Sep M w0 Δ F w) (j:Nat) (hi:Δ[j]? = some (Wk.box b (.cells cs.toArray T))) (hf:Nat.ble (off+sz) cs.length=true) (hS:∀ w',S w→Ext (· = b) w w'→rest≠[]→S w')
    (k:∀ w',Ext (· = b) w w'→Sep M w0 (Δ.set j (Wk.box b (.cells (aF cs off vs).toArray T))) F w'→DL P n ops Q S rest L w') :
    DL P n ops Q S ((i,false)::rest) L w:=by
  have hf':=Nat.le_of_ble_eq_true hf
  have h:=k _ (Ext.refl.put (.inl rfl)) (H.put j _ hi)
  rw [← oT (by rw [hl]; exact hf')] at h
  exact vH ho hw rfl (gV hs hx hy hl (iJ h1) (H.box j hi) (by simpa using hf')) (fun hSw hr=>hS _ hSw (Ext.refl.put (.inl rfl)) hr) h
end
end Go.Wk
namespace Go.Wk
open Rp (sz own)
section
variable {M:Nat→Prop}{w0 w w1 w2:World}{Δ F:List Rsc}{b:Nat}{T:TypeId}{z:Wld}{fp fp1:List Nat}
theorem Sep.boxFar (h:Sep M w0 Δ F w) (i j:Nat) {c:Nat}{o:Obj}(hi:Δ[i]? = some (wldR b T z fp)) (hj:Δ[j]? = some (Wk.box c o)) (hij:Nat.beq j i=false) (s1:∀ x∈fp1,x∈fp∨w.heap.size≤x) (e1:Ext (· ∈ fp) w w1) :
    w1.heap[c]? = some o∧c ∉ fp1:=by
  have hb:w.heap[c]? = some o:=h.r j hj
  have hn:c ∉ fp:=h.apart (i:=i) (j:=j) hi hj hij c (by simp [Wk.box])
  exact ⟨e1.heapM hn hb,fun hm=>(s1 c hm).elim hn fun hg=>by have:=(Array.getElem?_eq_some_iff.1 hb).1; omega⟩
theorem Sep.seeFar {α:Type}[Rp α] (h:Sep M w0 Δ F w) (i j:Nat) {s:Bool}{cs:List Value}{x:α}{f:List Nat}(hi:Δ[i]? = some (wldR b T z fp)) (hj:F[j]? = some (Wk.seen s cs x f)) (s1:∀ x∈fp1,x∈fp∨w.heap.size≤x) (e1:Ext (· ∈ fp) w w1) :
    own false w1 cs x f∧∀ b∈f,b ∉ fp1:=by
  have hx:own s w cs x f:=h.fs _ (List.mem_of_getElem? hj)
  have hn:∀ b∈f,b ∉ fp:=fun b hb hm=>h.ap _ (List.mem_of_getElem? hj) b hb (h.inB i hi hm)
  have hl:=Rp.lt hx
  exact ⟨ao (Rp.st hx fun b hb=>e1.block b (hl b hb) (hn b hb)),fun b hb hm=>(s1 b hm).elim (hn b hb) fun hg=>by have:=hl b hb; omega⟩
theorem Sep.boxF (h:Sep M w0 [wldR b T z fp] F w) {c:Nat}{o:Obj}(hb:w.heap[c]? = some o) (hd:c ∉ fp):Sep M w0 [wldR b T z fp] (F++[Wk.box c o]) w:=
  h.look (r:=Wk.box c o) hb fun x hx hm=>by
    rw [show x=c by simpa [Wk.box] using hx] at hm
    exact hd (by simpa [blocks,wldR] using hm)
def Sep.S2 {M:Nat→Prop}{w0 w:World}{Δ F:List Rsc}(_:Sep M w0 Δ F w) (i j:Nat):World→Prop:=Ext (fun b=>b∈(Δ.getD i gone).fp∨b∈(Δ.getD j gone).fp) w
theorem fC {r d:Rsc}{i:Nat}(h:Δ[i]? = some r):Δ.getD i d=r:=by simp [List.getD,h]
theorem Sep.s2Call (h:Sep M w0 Δ F w) {i j:Nat}(hS:h.S2 i j w1) (e:Ext No w1 w2):h.S2 i j w2:=Ext.trans hS e.no
theorem Sep.s2In (h:Sep M w0 Δ F w) {i j:Nat}(hS:h.S2 i j w1) (k:Nat) {r:Rsc}(hk:Δ[k]? = some r) (hij:k=i∨k=j) {N:Nat→Prop}(e:Ext N w1 w2) (hN:∀ b,N b→b∈r.fp):h.S2 i j w2:=
  Ext.step hS e fun b hb => .inl (by
    rcases hij with rfl | rfl
    · exact .inl (by rw [fC hk]; exact hN b hb)
    · exact .inr (by rw [fC hk]; exact hN b hb))
theorem Sep.s2FBox (h:Sep M w0 Δ F w) {i j:Nat}(hx:h.S2 i j w1) (k:Nat) {c:Nat}{o:Obj}(hk:F[k]? = some (Wk.box c o)) {ri rj:Rsc}(hi:Δ[i]? = some ri) (hj:Δ[j]? = some rj):w1.heap[c]? = some o:=
  Ext.heapM hx (fun hm=>h.ap _ (List.mem_of_getElem? hk) c (by simp [Wk.box]) (by
    rcases hm with hm | hm
    · rw [fC hi] at hm; exact h.inB i hi hm
    · rw [fC hj] at hm; exact h.inB j hj hm)) (h.fs _ (List.mem_of_getElem? hk))
theorem Sep.s2Box (h:Sep M w0 Δ F w) {i j:Nat}(hx:h.S2 i j w1) (k:Nat) {c:Nat}{o:Obj}(hk:Δ[k]? = some (Wk.box c o)) {ri rj:Rsc}(hi:Δ[i]? = some ri) (hj:Δ[j]? = some rj) (d1:Nat.beq k i=false) (d2:Nat.beq k j=false):w1.heap[c]? = some o:=
  Ext.heapM hx (fun hm=>by
    rcases hm with hm | hm
    · rw [fC hi] at hm; exact h.apart (i:=i) (j:=k) hi hk d1 c (by simp [Wk.box]) hm
    · rw [fC hj] at hm; exact h.apart (i:=j) (j:=k) hj hk d2 c (by simp [Wk.box]) hm) (h.r k hk)
end
section
variable {P:Program}{n:Nat}{ops:Array Oper}{Q:Post}{L:Env}{S:World→Prop}{w w0:World}{M:Nat→Prop}{Δ F:List Rsc}{ty:TypeId}{p:String}{af:Array Edge}{g:Option (Nat × Bool)}{α:Type}[Rp α] {i:Nat}{rest:List (Nat × Bool)}
theorem eF {t:TypeId}{x y:Operand}{ad:Option Addr}{m cap k b off:Nat}{xs:List α}{T:TypeId}{ck:List Value}{f1 f2:List Nat}{v:Value}(ho:ops.toList[i]? = some ⟨none,.store t x y,ty,p,af,g⟩) (hw:Wn ops n L ⟨none,.store t x y,ty,p,af,g⟩) (hs:∀ w,(sizeOf t).run P w = .ok 1 w)
    (H:Sep M w0 Δ F w) (j q:Nat) (hi:Δ[j]? = some (hol ad m cap xs k b off T ck f1 f2)) (hj:Nat.blt q ck.length=true) (hx:evL L x=some (.pointer (some ⟨b,off+q,none⟩))) (hy:evL L y=some v) (h1:v.oneCell'=true) (hS:∀ w',S w→Ext (· = b) w w'→rest≠[]→S w')
    (kk:∀ w',Sep M w0 (Δ.set j (hol ad m cap xs k b off T (ck.set q v) f1 f2)) F w'→DL P n ops Q S rest L w'):DL P n ops Q S ((i,false)::rest) L w:=by
  obtain ⟨cur,hb,hlt,H'⟩:=H.hset j hi q (Nat.le_of_ble_eq_true hj) v
  exact vH ho hw rfl (kr hs hx hy h1 hb hlt) (fun hSw hr=>hS _ hSw (Ext.refl.put (.inl rfl)) hr) (kk _ H')
end
theorem kL {z:Wld}(h:bV z=0):(z.Tapes.getD 0 default).Recs.length≤200∧(z.Tapes.getD 1 default).Recs.length≤200:=by
  obtain ⟨_,_,_,h2,h3⟩:=bR h
  have hm:z.Tapes.any cx=false:=by
    cases hq:z.Tapes.any cx with
    | false=>rfl
    | true=>unfold dN at h3; rw [if_pos hq] at h3; omega
  have key:∀ i,i<z.Tapes.length→(z.Tapes.getD i default).Recs.length≤200:=fun i hi=>by
    have:=mE (d:=default) hm i hi
    unfold cx at this
    simp only [decide_eq_false_iff_not] at this; omega
  exact ⟨key 0 ω,key 1 ω⟩
theorem od {t:Nat}{r:Rec}{z:Wld}(h:z.Ok):(lM t r z).Ok:=h
theorem uX {z:Wld}(h:z.Ok):(uf z).Ok:=h
theorem l5 {z:Wld}(h:z.Ok) (h2:z.Writes≤2000000000):(kE z).Ok:=by
  refine ⟨h.1,?_,h.2.2⟩
  have h3:=h.2.1
  show I64ok (z.Writes+1)
  unfold I64ok at h3 ⊢; omega
theorem nC {z:Wld}(h:¬ z.Stop = -1) (h2:z.Writes ≥ z.Stop):ci z=true:=by
  unfold ci; simp only [Bool.and_eq_true,decide_eq_true_eq]; exact ⟨h,h2⟩
theorem jk {z:Wld}(h:z.Stop = -1∨¬ z.Writes ≥ z.Stop):ci z=false:=by
  unfold ci; simp only [Bool.and_eq_false_iff,decide_eq_false_iff_not]
  rcases h with h | h
  · exact .inl (by simp [h])
  · exact .inr ω
end Go.Wk
namespace Go.Wk
open Rp (sz own)
theorem mr:noWld.Ok:=by unfold Wld.Ok Shape.Ok I64ok noWld; dsimp only; omega
theorem jE {w w':World}{c:Int}(h:I64ok c):Res w w' [.int .i64 c,.int .i64 0,.int .i64 0,.int .i64 0,.int .i64 0,.int .i64 0,.int .i64 0,.int .i64 0,.int .i64 0,.int .i64 0,.slice none 0 0,.slice none 0 0,.slice none 0 0,.int .i64 0,.int .i64 0,.bool false] (⟨c,noWld⟩:WldResult):=
  ⟨_,WldResult.own_mk (x:=⟨c,noWld⟩) ⟨h,mr⟩ (.inr (.inl ⟨rfl,rfl,rfl⟩)) (.inr (.inl ⟨rfl,rfl,rfl⟩)) (.inr (.inl ⟨rfl,rfl,rfl⟩)),List.nodup_nil,σ⟩
theorem uT {t:Nat}{r:Rec}{z:Wld}(h:z.Ok) (h2:z.Writes≤2000000000):(fT t r z).Ok:=by
  unfold fT sI; split
  · exact uX h
  · exact l5 (z:=lM t r z) (od h) h2
section
variable {P:Program}{n:Nat}{ops:Array Oper}{Q:Post}{L:Env}{S:World→Prop}{w w0:World}{M:Nat→Prop}{Δ F:List Rsc}{d:Nat}{ty:TypeId}{p:String}{af:Array Edge}{g:Option (Nat × Bool)}{i:Nat}{rest:List (Nat × Bool)}
theorem y6 {t:TypeId}{z:Value}(ho:ops.toList[i]? = some ⟨some d,.alloc t,ty,p,af,g⟩) (hw:Wn ops n L ⟨some d,.alloc t,ty,p,af,g⟩) (hn:Nat.blt d n=true) (hz:∀ w,(zeroValue t).run P w = .ok z w) (H:Sep M w0 Δ F w) (hS:∀ w',S w→Ext No w w'→S w')
    (k:∀ b w',Ext No w w'→w.heap.size≤b→Sep M w0 (Δ++[box b (.cells z.cells t)]) F w'→DL P n ops Q S rest ((d,.pointer (some ⟨b,0,none⟩))::L) w'):DL P n ops Q S ((i,false)::rest) L w:=
  vm (v:=fun b => .pointer (some ⟨b,0,none⟩)) ho hw rfl hn (sr hz) H hS k
end
end Go.Wk
namespace Go.Wk
open Go.Proofs Rp Go.Proofs.Tryz
set_option maxRecDepth 10000
theorem cy {w:World}{xs:List Int}{xsA:Option Addr}{xsC:Nat}(xsS:Sees w [.slice xsA xs.length xsC] xs) (hl:xs.length≤100000000):Ret Tryz.prog 104 #[.slice xsA xs.length xsC] w fun v w'=>Ext No w w'∧(Res w w' [v] xs):=by
 have xsL:=sL xsS;obtain ⟨xsF,xsO⟩:=xsS;refine aS func104 Z ntmps104 Z (fun Q hQ hN=>?_);have H0:=Sep.start (ak xsO aG);refine ac (sA Z Z (aa (ae (ac (sM Z Z (sV Z (sH bd Z Z) (aa (cK Z (fun c1=>?_) (fun c1=>?_)))))))))
 ·refine ac (rA hQ results104 Z ?_);have e:xs=[]:=rV xsO c1;exact ⟨H0.ext,e ▸ ⟨[],.inr (.inl ⟨Z,Z,Z⟩),.nil,σ⟩⟩
 ·refine ar (ac (es (α:=Int) ah Z bd ba H0 (fun b1 w1 e1 g1 H1=>sM Z Z (kb ah Z bd ba Z Z Z H1 0 Z (H1.seen 0 Z) (by (try simp only [List.length_nil]); unfold maxLen; omega) (by (try simp only [List.length_nil]); omega) (fun v1 w2 fp1 H2=>rA hQ results104 Z ?_)))))
  exact ⟨H2.ext,by
   have h:=H2.out 0 Z
   rwa [List.nil_append] at h⟩
theorem aZ {w:World}{xs:List UInt8}{xsA:Option Addr}{xsC:Nat}(xsS:Sees w [.slice xsA xs.length xsC] xs) (hl:xs.length≤100000000):Ret Tryz.prog 190 #[.slice xsA xs.length xsC] w fun v w'=>Ext No w w'∧(Res w w' [v] xs):=by
 have xsL:=sL xsS;obtain ⟨xsF,xsO⟩:=xsS;refine aS func190 Z ntmps190 Z (fun Q hQ hN=>?_);have H0:=Sep.start (ak xsO aG);refine ac (sA Z Z (aa (ae (ac (sM Z Z (sV Z (sH bz Z Z) (aa (cK Z (fun c1=>?_) (fun c1=>?_)))))))))
 ·refine ac (rA hQ results190 Z ?_);have e:xs=[]:=rV xsO c1;exact ⟨H0.ext,e ▸ ⟨[],.inr (.inl ⟨Z,Z,Z⟩),.nil,σ⟩⟩
 ·refine ar (ac (es (α:=UInt8) ah Z bz du H0 (fun b1 w1 e1 g1 H1=>sM Z Z (kb ah Z bz du Z Z Z H1 0 Z (H1.seen 0 Z) (by (try simp only [List.length_nil]); unfold maxLen; omega) (by (try simp only [List.length_nil]); omega) (fun v1 w2 fp1 H2=>rA hQ results190 Z ?_)))))
  exact ⟨H2.ext,by
   have h:=H2.out 0 Z
   rwa [List.nil_append] at h⟩
theorem dW {w:World}{r:Rec}{rA6 rA7 rA8:Option Addr}{rC6 rC7 rC8:Nat}(rK:r.Ok) (rS6:Sees w [.slice rA6 r.Rows.length rC6] r.Rows) (rS7:Sees w [.slice rA7 r.Data.length rC7] r.Data) (rS8:Sees w [.slice rA8 r.Delta.length rC8] r.Delta) (hb:fN r≤1048576):Ret Tryz.prog 150 #[r.val rA6 rC6 rA7 rC7 rA8 rC8] w fun v w'=>Ext No w w'∧(∃ A6 C6 A7 C7 A8 C8,v=r.val A6 C6 A7 C7 A8 C8∧Res w w' [.int .i64 r.Kind,.int .i64 r.Seq,.string r.Name,.int .i64 r.Length,.int .i64 r.Group,.int .i64 r.Row,.slice A6 r.Rows.length C6,.slice A7 r.Data.length C7,.slice A8 r.Delta.length C8] r):=by
 have rK2:=rK;unfold Rec.Ok at rK2
 try unfold I64ok at rK2
 try unfold maxLen at rK2
 have rN2:r.Name.size≤maxLen:=by unfold maxLen; omega
 have rL6:=sL rS6;obtain ⟨rF6,rO6⟩:=rS6;have rL7:=sL rS7;obtain ⟨rF7,rO7⟩:=rS7;have rL8:=sL rS8;obtain ⟨rF8,rO8⟩:=rS8;unfold fN at hb;refine aS func150 Z ntmps150 Z (fun Q hQ hN=>?_);have H0:=Sep.start (ak rO6 (ak rO7 (ak rO8 aG)));refine ac (bt ah Z Z H0 (fun b1 w1 e1 g1 H1=>bM ah Z zeroValue47 H1 (fun b2 w2 e2 g2 H2=>aa (ae (bx (S:=Ext (· ∈ [b1]) _) (oQ [1,7,13,2178,2,2064,4,2040,8,2018,10,14,19,16,20,23,24,27,28,14,19,10,16,20,23,24,27,28,14,8,19,10,16,20,23,24,27,28,2064,8,2040,4,2018,10,14,19,16,20,23,24,27,28,14,19,10,16,20,23,24,27,28,14,4,19,10,16,20,23,24,27,28,14,2020,4,8,19,10,16,20,23,24,27,28,8,4,19,10,16,20,23,24,27,28,2090,8,2064,2,2040,4,2018,10,14,19,16,20,23,24,27,28,14,19,10,16,20,23,24,27,28,14,4,19,10,16,20,23,24,27,28,14,2,4,19,10,16,20,23,24,27,28,14,2044,2,2020,4,8,19,10,16,20,23,24,27,28,8,4,19,10,16,20,23,24,27,28,8,2,4,19,10,16,20,23,24,27,28]) κ κ κ Z (fun _=>Ext.refl.drawn _) (fun q1=>?_))))));have H3:=H2.drawn q1;refine dV Z Z (fun zw hx=>ab ax Z bI Z Z) (dV Z Z (fun zw hx=>ab ax Z bc Z Z) (dV Z Z (fun zw hx=>ab ax Z bc Z Z) (dF Z ?_ ?_)))
 ·refine aV Z ah Z Z (ag bd Z Z (al (H3.box 0 Z) Z)) (dF Z ?_ ?_)
  ·refine dC func104 dj Z (cy (H3.sees 0 Z) ω) (fun v1 w3 r1=>?_);obtain ⟨e3,r1⟩:=r1;obtain ⟨fp1,H4⟩:=H3.res e3 r1;obtain ⟨a1,k1,q2⟩:=aw (H4.mine 2 Z);cases q2;refine dF Z ?_ ?_
   ·refine aV Z ah Z Z (ag bz Z Z (al (H4.box 0 Z) Z)) (dF Z ?_ ?_)
    ·refine dC func190 bm Z (aZ (H4.sees 1 Z) ω) (fun v2 w4 r2=>?_);obtain ⟨e4,r2⟩:=r2;obtain ⟨fp2,H5⟩:=H4.res e4 r2;obtain ⟨a2,k2,q3⟩:=aw (H5.mine 3 Z);cases q3;refine aV Z ah Z Z (ag bz Z Z (al (H5.box 0 Z) Z)) (dV Z Z (fun zw hx=>ab ax Z bI Z Z) (dC func190 bm Z (aZ (H5.sees 2 Z) ω) (fun v3 w5 r3=>?_)));obtain ⟨e5,r3⟩:=r3;obtain ⟨fp3,H6⟩:=H5.res e5 r3;obtain ⟨a3,k3,q4⟩:=aw (H6.mine 4 Z);cases q4;refine bJ Z ah bI Z Z Z H6 0 Z Z (fun _ h e _=>h.trans (e.mono fun _ _ q=>by simp [q])) (fun w6 e6 H7=>?_);dsimp only[lNA,lCA,lSZ,lSS,aF] at H7;refine dV Z Z (fun zw hx=>ab ax Z bc Z Z) (bJ Z ah bc Z Z Z H7 0 Z Z (fun _ h e _=>h.trans (e.mono fun _ _ q=>by simp [q])) (fun w7 e7 H8=>?_));dsimp only[lNA,lCA,lSZ,lSS,aF] at H8;refine dV Z Z (fun zw hx=>ab ax Z bc Z Z) (bJ Z ah bc Z Z Z H8 0 Z Z (fun _ h e _=>h.trans (e.mono fun _ _ q=>by simp [q])) (fun w8 e8 H9=>?_));dsimp only[lNA,lCA,lSZ,lSS,aF] at H9;refine aT (ac (sV Z (aj ax Z aJ Z Z (At.whole (H9.box 0 Z))) (aR ah aJ Z Z Z Z H9 1 Z Z (fun w9 e9 H10=>?_))));dsimp only[lNA,lCA,lSZ,lSS,aF] at H10;refine aa (br (hQ _ _ (cg results150 Z (ay ax Z aJ Z (At.whole (H10.box 1 Z))) ?_)));exact ⟨H10.ext,_,_,_,_,_,_,Z,Rec.out (H10.sub (.cons _ (.cons _ (.cons_cons _ (.cons_cons _ (.cons_cons _ List.Sublist.slnil)))))) η⟩
    ·refine aV Z ah Z Z (ag bz Z Z (al (H4.box 0 Z) Z)) (dV Z Z (fun zw hx=>ab ax Z bI Z Z) (dC func190 bm Z (aZ (H4.sees 1 Z) ω) (fun v4 w10 r4=>?_)));obtain ⟨e10,r4⟩:=r4;obtain ⟨fp4,H11⟩:=H4.res e10 r4;obtain ⟨a4,k4,q5⟩:=aw (H11.mine 3 Z);cases q5;refine dC func190 bm Z (aZ (H11.sees 2 Z) ω) (fun v5 w11 r5=>?_);obtain ⟨e11,r5⟩:=r5;obtain ⟨fp5,H12⟩:=H11.res e11 r5;obtain ⟨a5,k5,q6⟩:=aw (H12.mine 4 Z);cases q6;refine bJ Z ah bI Z Z Z H12 0 Z Z (fun _ h e _=>h.trans (e.mono fun _ _ q=>by simp [q])) (fun w12 e12 H13=>?_);dsimp only[lNA,lCA,lSZ,lSS,aF] at H13;refine dV Z Z (fun zw hx=>ab ax Z bc Z Z) (bJ Z ah bc Z Z Z H13 0 Z Z (fun _ h e _=>h.trans (e.mono fun _ _ q=>by simp [q])) (fun w13 e13 H14=>?_));dsimp only[lNA,lCA,lSZ,lSS,aF] at H14;refine dV Z Z (fun zw hx=>ab ax Z bc Z Z) (bJ Z ah bc Z Z Z H14 0 Z Z (fun _ h e _=>h.trans (e.mono fun _ _ q=>by simp [q])) (fun w14 e14 H15=>?_));dsimp only[lNA,lCA,lSZ,lSS,aF] at H15;refine aT (ac (sV Z (aj ax Z aJ Z Z (At.whole (H15.box 0 Z))) (aR ah aJ Z Z Z Z H15 1 Z Z (fun w15 e15 H16=>?_))));dsimp only[lNA,lCA,lSZ,lSS,aF] at H16;refine aa (br (hQ _ _ (cg results150 Z (ay ax Z aJ Z (At.whole (H16.box 1 Z))) ?_)));exact ⟨H16.ext,_,_,_,_,_,_,Z,Rec.out (H16.sub (.cons _ (.cons _ (.cons_cons _ (.cons_cons _ (.cons_cons _ List.Sublist.slnil)))))) η⟩
   ·refine aV Z ah Z Z (ag bz Z Z (al (H4.box 0 Z) Z)) (aV Z ah Z Z (ag bz Z Z (al (H4.box 0 Z) Z)) (dV Z Z (fun zw hx=>ab ax Z bI Z Z) (dC func190 bm Z (aZ (H4.sees 1 Z) ω) (fun v6 w16 r6=>?_))));obtain ⟨e16,r6⟩:=r6;obtain ⟨fp6,H17⟩:=H4.res e16 r6;obtain ⟨a6,k6,q7⟩:=aw (H17.mine 3 Z);cases q7;refine dC func190 bm Z (aZ (H17.sees 2 Z) ω) (fun v7 w17 r7=>?_);obtain ⟨e17,r7⟩:=r7;obtain ⟨fp7,H18⟩:=H17.res e17 r7;obtain ⟨a7,k7,q8⟩:=aw (H18.mine 4 Z);cases q8;refine bJ Z ah bI Z Z Z H18 0 Z Z (fun _ h e _=>h.trans (e.mono fun _ _ q=>by simp [q])) (fun w18 e18 H19=>?_);dsimp only[lNA,lCA,lSZ,lSS,aF] at H19;refine dV Z Z (fun zw hx=>ab ax Z bc Z Z) (bJ Z ah bc Z Z Z H19 0 Z Z (fun _ h e _=>h.trans (e.mono fun _ _ q=>by simp [q])) (fun w19 e19 H20=>?_));dsimp only[lNA,lCA,lSZ,lSS,aF] at H20;refine dV Z Z (fun zw hx=>ab ax Z bc Z Z) (bJ Z ah bc Z Z Z H20 0 Z Z (fun _ h e _=>h.trans (e.mono fun _ _ q=>by simp [q])) (fun w20 e20 H21=>?_));dsimp only[lNA,lCA,lSZ,lSS,aF] at H21;refine aT (ac (sV Z (aj ax Z aJ Z Z (At.whole (H21.box 0 Z))) (aR ah aJ Z Z Z Z H21 1 Z Z (fun w21 e21 H22=>?_))));dsimp only[lNA,lCA,lSZ,lSS,aF] at H22;refine aa (br (hQ _ _ (cg results150 Z (ay ax Z aJ Z (At.whole (H22.box 1 Z))) ?_)));exact ⟨H22.ext,_,_,_,_,_,_,Z,Rec.out (H22.sub (.cons _ (.cons _ (.cons_cons _ (.cons_cons _ (.cons_cons _ List.Sublist.slnil)))))) η⟩
  refine dF Z ?_ ?_
  ·refine aV Z ah Z Z (ag bz Z Z (al (H3.box 0 Z) Z)) (dF Z ?_ ?_)
   ·refine dC func104 dj Z (cy (H3.sees 0 Z) ω) (fun v8 w22 r8=>?_);obtain ⟨e22,r8⟩:=r8;obtain ⟨fp8,H23⟩:=H3.res e22 r8;obtain ⟨a8,k8,q9⟩:=aw (H23.mine 2 Z);cases q9;refine dF Z ?_ ?_
    ·refine dC func190 bm Z (aZ (H23.sees 1 Z) ω) (fun v9 w23 r9=>?_);obtain ⟨e23,r9⟩:=r9;obtain ⟨fp9,H24⟩:=H23.res e23 r9;obtain ⟨a9,k9,q10⟩:=aw (H24.mine 3 Z);cases q10;refine aV Z ah Z Z (ag bz Z Z (al (H24.box 0 Z) Z)) (dV Z Z (fun zw hx=>ab ax Z bI Z Z) (dC func190 bm Z (aZ (H24.sees 2 Z) ω) (fun v10 w24 r10=>?_)));obtain ⟨e24,r10⟩:=r10;obtain ⟨fp10,H25⟩:=H24.res e24 r10;obtain ⟨a10,k10,q11⟩:=aw (H25.mine 4 Z);cases q11;refine bJ Z ah bI Z Z Z H25 0 Z Z (fun _ h e _=>h.trans (e.mono fun _ _ q=>by simp [q])) (fun w25 e25 H26=>?_);dsimp only[lNA,lCA,lSZ,lSS,aF] at H26;refine dV Z Z (fun zw hx=>ab ax Z bc Z Z) (bJ Z ah bc Z Z Z H26 0 Z Z (fun _ h e _=>h.trans (e.mono fun _ _ q=>by simp [q])) (fun w26 e26 H27=>?_));dsimp only[lNA,lCA,lSZ,lSS,aF] at H27;refine dV Z Z (fun zw hx=>ab ax Z bc Z Z) (bJ Z ah bc Z Z Z H27 0 Z Z (fun _ h e _=>h.trans (e.mono fun _ _ q=>by simp [q])) (fun w27 e27 H28=>?_));dsimp only[lNA,lCA,lSZ,lSS,aF] at H28;refine aT (ac (sV Z (aj ax Z aJ Z Z (At.whole (H28.box 0 Z))) (aR ah aJ Z Z Z Z H28 1 Z Z (fun w28 e28 H29=>?_))));dsimp only[lNA,lCA,lSZ,lSS,aF] at H29;refine aa (br (hQ _ _ (cg results150 Z (ay ax Z aJ Z (At.whole (H29.box 1 Z))) ?_)));exact ⟨H29.ext,_,_,_,_,_,_,Z,Rec.out (H29.sub (.cons _ (.cons _ (.cons_cons _ (.cons_cons _ (.cons_cons _ List.Sublist.slnil)))))) η⟩
    ·refine aV Z ah Z Z (ag bz Z Z (al (H23.box 0 Z) Z)) (dV Z Z (fun zw hx=>ab ax Z bI Z Z) (dC func190 bm Z (aZ (H23.sees 1 Z) ω) (fun v11 w29 r11=>?_)));obtain ⟨e29,r11⟩:=r11;obtain ⟨fp11,H30⟩:=H23.res e29 r11;obtain ⟨a11,k11,q12⟩:=aw (H30.mine 3 Z);cases q12;refine dC func190 bm Z (aZ (H30.sees 2 Z) ω) (fun v12 w30 r12=>?_);obtain ⟨e30,r12⟩:=r12;obtain ⟨fp12,H31⟩:=H30.res e30 r12;obtain ⟨a12,k12,q13⟩:=aw (H31.mine 4 Z);cases q13;refine bJ Z ah bI Z Z Z H31 0 Z Z (fun _ h e _=>h.trans (e.mono fun _ _ q=>by simp [q])) (fun w31 e31 H32=>?_);dsimp only[lNA,lCA,lSZ,lSS,aF] at H32;refine dV Z Z (fun zw hx=>ab ax Z bc Z Z) (bJ Z ah bc Z Z Z H32 0 Z Z (fun _ h e _=>h.trans (e.mono fun _ _ q=>by simp [q])) (fun w32 e32 H33=>?_));dsimp only[lNA,lCA,lSZ,lSS,aF] at H33;refine dV Z Z (fun zw hx=>ab ax Z bc Z Z) (bJ Z ah bc Z Z Z H33 0 Z Z (fun _ h e _=>h.trans (e.mono fun _ _ q=>by simp [q])) (fun w33 e33 H34=>?_));dsimp only[lNA,lCA,lSZ,lSS,aF] at H34;refine aT (ac (sV Z (aj ax Z aJ Z Z (At.whole (H34.box 0 Z))) (aR ah aJ Z Z Z Z H34 1 Z Z (fun w34 e34 H35=>?_))));dsimp only[lNA,lCA,lSZ,lSS,aF] at H35;refine aa (br (hQ _ _ (cg results150 Z (ay ax Z aJ Z (At.whole (H35.box 1 Z))) ?_)));exact ⟨H35.ext,_,_,_,_,_,_,Z,Rec.out (H35.sub (.cons _ (.cons _ (.cons_cons _ (.cons_cons _ (.cons_cons _ List.Sublist.slnil)))))) η⟩
   ·refine aV Z ah Z Z (ag bz Z Z (al (H3.box 0 Z) Z)) (dC func104 dj Z (cy (H3.sees 0 Z) ω) (fun v13 w35 r13=>?_));obtain ⟨e35,r13⟩:=r13;obtain ⟨fp13,H36⟩:=H3.res e35 r13;obtain ⟨a13,k13,q14⟩:=aw (H36.mine 2 Z);cases q14;refine dV Z Z (fun zw hx=>ab ax Z bI Z Z) (dC func190 bm Z (aZ (H36.sees 1 Z) ω) (fun v14 w36 r14=>?_));obtain ⟨e36,r14⟩:=r14;obtain ⟨fp14,H37⟩:=H36.res e36 r14;obtain ⟨a14,k14,q15⟩:=aw (H37.mine 3 Z);cases q15;refine dC func190 bm Z (aZ (H37.sees 2 Z) ω) (fun v15 w37 r15=>?_);obtain ⟨e37,r15⟩:=r15;obtain ⟨fp15,H38⟩:=H37.res e37 r15;obtain ⟨a15,k15,q16⟩:=aw (H38.mine 4 Z);cases q16;refine bJ Z ah bI Z Z Z H38 0 Z Z (fun _ h e _=>h.trans (e.mono fun _ _ q=>by simp [q])) (fun w38 e38 H39=>?_);dsimp only[lNA,lCA,lSZ,lSS,aF] at H39;refine dV Z Z (fun zw hx=>ab ax Z bc Z Z) (bJ Z ah bc Z Z Z H39 0 Z Z (fun _ h e _=>h.trans (e.mono fun _ _ q=>by simp [q])) (fun w39 e39 H40=>?_));dsimp only[lNA,lCA,lSZ,lSS,aF] at H40;refine dV Z Z (fun zw hx=>ab ax Z bc Z Z) (bJ Z ah bc Z Z Z H40 0 Z Z (fun _ h e _=>h.trans (e.mono fun _ _ q=>by simp [q])) (fun w40 e40 H41=>?_));dsimp only[lNA,lCA,lSZ,lSS,aF] at H41;refine aT (ac (sV Z (aj ax Z aJ Z Z (At.whole (H41.box 0 Z))) (aR ah aJ Z Z Z Z H41 1 Z Z (fun w41 e41 H42=>?_))));dsimp only[lNA,lCA,lSZ,lSS,aF] at H42;refine aa (br (hQ _ _ (cg results150 Z (ay ax Z aJ Z (At.whole (H42.box 1 Z))) ?_)));exact ⟨H42.ext,_,_,_,_,_,_,Z,Rec.out (H42.sub (.cons _ (.cons _ (.cons_cons _ (.cons_cons _ (.cons_cons _ List.Sublist.slnil)))))) η⟩
  ·refine aV Z ah Z Z (ag bz Z Z (al (H3.box 0 Z) Z)) (dF Z ?_ ?_)
   ·refine dC func104 dj Z (cy (H3.sees 0 Z) ω) (fun v16 w42 r16=>?_);obtain ⟨e42,r16⟩:=r16;obtain ⟨fp16,H43⟩:=H3.res e42 r16;obtain ⟨a16,k16,q17⟩:=aw (H43.mine 2 Z);cases q17;refine aV Z ah Z Z (ag bz Z Z (al (H43.box 0 Z) Z)) (dV Z Z (fun zw hx=>ab ax Z bI Z Z) (dC func190 bm Z (aZ (H43.sees 1 Z) ω) (fun v17 w43 r17=>?_)));obtain ⟨e43,r17⟩:=r17;obtain ⟨fp17,H44⟩:=H43.res e43 r17;obtain ⟨a17,k17,q18⟩:=aw (H44.mine 3 Z);cases q18;refine dC func190 bm Z (aZ (H44.sees 2 Z) ω) (fun v18 w44 r18=>?_);obtain ⟨e44,r18⟩:=r18;obtain ⟨fp18,H45⟩:=H44.res e44 r18;obtain ⟨a18,k18,q19⟩:=aw (H45.mine 4 Z);cases q19;refine bJ Z ah bI Z Z Z H45 0 Z Z (fun _ h e _=>h.trans (e.mono fun _ _ q=>by simp [q])) (fun w45 e45 H46=>?_);dsimp only[lNA,lCA,lSZ,lSS,aF] at H46;refine dV Z Z (fun zw hx=>ab ax Z bc Z Z) (bJ Z ah bc Z Z Z H46 0 Z Z (fun _ h e _=>h.trans (e.mono fun _ _ q=>by simp [q])) (fun w46 e46 H47=>?_));dsimp only[lNA,lCA,lSZ,lSS,aF] at H47;refine dV Z Z (fun zw hx=>ab ax Z bc Z Z) (bJ Z ah bc Z Z Z H47 0 Z Z (fun _ h e _=>h.trans (e.mono fun _ _ q=>by simp [q])) (fun w47 e47 H48=>?_));dsimp only[lNA,lCA,lSZ,lSS,aF] at H48;refine aT (ac (sV Z (aj ax Z aJ Z Z (At.whole (H48.box 0 Z))) (aR ah aJ Z Z Z Z H48 1 Z Z (fun w48 e48 H49=>?_))));dsimp only[lNA,lCA,lSZ,lSS,aF] at H49;refine aa (br (hQ _ _ (cg results150 Z (ay ax Z aJ Z (At.whole (H49.box 1 Z))) ?_)));exact ⟨H49.ext,_,_,_,_,_,_,Z,Rec.out (H49.sub (.cons _ (.cons _ (.cons_cons _ (.cons_cons _ (.cons_cons _ List.Sublist.slnil)))))) η⟩
   ·refine aV Z ah Z Z (ag bz Z Z (al (H3.box 0 Z) Z)) (dC func104 dj Z (cy (H3.sees 0 Z) ω) (fun v19 w49 r19=>?_));obtain ⟨e49,r19⟩:=r19;obtain ⟨fp19,H50⟩:=H3.res e49 r19;obtain ⟨a19,k19,q20⟩:=aw (H50.mine 2 Z);cases q20;refine dV Z Z (fun zw hx=>ab ax Z bI Z Z) (dC func190 bm Z (aZ (H50.sees 1 Z) ω) (fun v20 w50 r20=>?_));obtain ⟨e50,r20⟩:=r20;obtain ⟨fp20,H51⟩:=H50.res e50 r20;obtain ⟨a20,k20,q21⟩:=aw (H51.mine 3 Z);cases q21;refine dC func190 bm Z (aZ (H51.sees 2 Z) ω) (fun v21 w51 r21=>?_);obtain ⟨e51,r21⟩:=r21;obtain ⟨fp21,H52⟩:=H51.res e51 r21;obtain ⟨a21,k21,q22⟩:=aw (H52.mine 4 Z);cases q22;refine bJ Z ah bI Z Z Z H52 0 Z Z (fun _ h e _=>h.trans (e.mono fun _ _ q=>by simp [q])) (fun w52 e52 H53=>?_);dsimp only[lNA,lCA,lSZ,lSS,aF] at H53;refine dV Z Z (fun zw hx=>ab ax Z bc Z Z) (bJ Z ah bc Z Z Z H53 0 Z Z (fun _ h e _=>h.trans (e.mono fun _ _ q=>by simp [q])) (fun w53 e53 H54=>?_));dsimp only[lNA,lCA,lSZ,lSS,aF] at H54;refine dV Z Z (fun zw hx=>ab ax Z bc Z Z) (bJ Z ah bc Z Z Z H54 0 Z Z (fun _ h e _=>h.trans (e.mono fun _ _ q=>by simp [q])) (fun w54 e54 H55=>?_));dsimp only[lNA,lCA,lSZ,lSS,aF] at H55;refine aT (ac (sV Z (aj ax Z aJ Z Z (At.whole (H55.box 0 Z))) (aR ah aJ Z Z Z Z H55 1 Z Z (fun w55 e55 H56=>?_))));dsimp only[lNA,lCA,lSZ,lSS,aF] at H56;refine aa (br (hQ _ _ (cg results150 Z (ay ax Z aJ Z (At.whole (H56.box 1 Z))) ?_)));exact ⟨H56.ext,_,_,_,_,_,_,Z,Rec.out (H56.sub (.cons _ (.cons _ (.cons_cons _ (.cons_cons _ (.cons_cons _ List.Sublist.slnil)))))) η⟩
 refine dF Z ?_ ?_
 ·refine aV Z ah Z Z (ag bz Z Z (al (H3.box 0 Z) Z)) (dF Z ?_ ?_)
  ·refine aV Z ah Z Z (ag bd Z Z (al (H3.box 0 Z) Z)) (dF Z ?_ ?_)
   ·refine dC func104 dj Z (cy (H3.sees 0 Z) ω) (fun v22 w56 r22=>?_);obtain ⟨e56,r22⟩:=r22;obtain ⟨fp22,H57⟩:=H3.res e56 r22;obtain ⟨a22,k22,q23⟩:=aw (H57.mine 2 Z);cases q23;refine dF Z ?_ ?_
    ·refine dC func190 bm Z (aZ (H57.sees 1 Z) ω) (fun v23 w57 r23=>?_);obtain ⟨e57,r23⟩:=r23;obtain ⟨fp23,H58⟩:=H57.res e57 r23;obtain ⟨a23,k23,q24⟩:=aw (H58.mine 3 Z);cases q24;refine aV Z ah Z Z (ag bz Z Z (al (H58.box 0 Z) Z)) (dV Z Z (fun zw hx=>ab ax Z bI Z Z) (dC func190 bm Z (aZ (H58.sees 2 Z) ω) (fun v24 w58 r24=>?_)));obtain ⟨e58,r24⟩:=r24;obtain ⟨fp24,H59⟩:=H58.res e58 r24;obtain ⟨a24,k24,q25⟩:=aw (H59.mine 4 Z);cases q25;refine bJ Z ah bI Z Z Z H59 0 Z Z (fun _ h e _=>h.trans (e.mono fun _ _ q=>by simp [q])) (fun w59 e59 H60=>?_);dsimp only[lNA,lCA,lSZ,lSS,aF] at H60;refine dV Z Z (fun zw hx=>ab ax Z bc Z Z) (bJ Z ah bc Z Z Z H60 0 Z Z (fun _ h e _=>h.trans (e.mono fun _ _ q=>by simp [q])) (fun w60 e60 H61=>?_));dsimp only[lNA,lCA,lSZ,lSS,aF] at H61;refine dV Z Z (fun zw hx=>ab ax Z bc Z Z) (bJ Z ah bc Z Z Z H61 0 Z Z (fun _ h e _=>h.trans (e.mono fun _ _ q=>by simp [q])) (fun w61 e61 H62=>?_));dsimp only[lNA,lCA,lSZ,lSS,aF] at H62;refine aT (ac (sV Z (aj ax Z aJ Z Z (At.whole (H62.box 0 Z))) (aR ah aJ Z Z Z Z H62 1 Z Z (fun w62 e62 H63=>?_))));dsimp only[lNA,lCA,lSZ,lSS,aF] at H63;refine aa (br (hQ _ _ (cg results150 Z (ay ax Z aJ Z (At.whole (H63.box 1 Z))) ?_)));exact ⟨H63.ext,_,_,_,_,_,_,Z,Rec.out (H63.sub (.cons _ (.cons _ (.cons_cons _ (.cons_cons _ (.cons_cons _ List.Sublist.slnil)))))) η⟩
    ·refine aV Z ah Z Z (ag bz Z Z (al (H57.box 0 Z) Z)) (dV Z Z (fun zw hx=>ab ax Z bI Z Z) (dC func190 bm Z (aZ (H57.sees 1 Z) ω) (fun v25 w63 r25=>?_)));obtain ⟨e63,r25⟩:=r25;obtain ⟨fp25,H64⟩:=H57.res e63 r25;obtain ⟨a25,k25,q26⟩:=aw (H64.mine 3 Z);cases q26;refine dC func190 bm Z (aZ (H64.sees 2 Z) ω) (fun v26 w64 r26=>?_);obtain ⟨e64,r26⟩:=r26;obtain ⟨fp26,H65⟩:=H64.res e64 r26;obtain ⟨a26,k26,q27⟩:=aw (H65.mine 4 Z);cases q27;refine bJ Z ah bI Z Z Z H65 0 Z Z (fun _ h e _=>h.trans (e.mono fun _ _ q=>by simp [q])) (fun w65 e65 H66=>?_);dsimp only[lNA,lCA,lSZ,lSS,aF] at H66;refine dV Z Z (fun zw hx=>ab ax Z bc Z Z) (bJ Z ah bc Z Z Z H66 0 Z Z (fun _ h e _=>h.trans (e.mono fun _ _ q=>by simp [q])) (fun w66 e66 H67=>?_));dsimp only[lNA,lCA,lSZ,lSS,aF] at H67;refine dV Z Z (fun zw hx=>ab ax Z bc Z Z) (bJ Z ah bc Z Z Z H67 0 Z Z (fun _ h e _=>h.trans (e.mono fun _ _ q=>by simp [q])) (fun w67 e67 H68=>?_));dsimp only[lNA,lCA,lSZ,lSS,aF] at H68;refine aT (ac (sV Z (aj ax Z aJ Z Z (At.whole (H68.box 0 Z))) (aR ah aJ Z Z Z Z H68 1 Z Z (fun w68 e68 H69=>?_))));dsimp only[lNA,lCA,lSZ,lSS,aF] at H69;refine aa (br (hQ _ _ (cg results150 Z (ay ax Z aJ Z (At.whole (H69.box 1 Z))) ?_)));exact ⟨H69.ext,_,_,_,_,_,_,Z,Rec.out (H69.sub (.cons _ (.cons _ (.cons_cons _ (.cons_cons _ (.cons_cons _ List.Sublist.slnil)))))) η⟩
   ·refine aV Z ah Z Z (ag bz Z Z (al (H3.box 0 Z) Z)) (dC func104 dj Z (cy (H3.sees 0 Z) ω) (fun v27 w69 r27=>?_));obtain ⟨e69,r27⟩:=r27;obtain ⟨fp27,H70⟩:=H3.res e69 r27;obtain ⟨a27,k27,q28⟩:=aw (H70.mine 2 Z);cases q28;refine dV Z Z (fun zw hx=>ab ax Z bI Z Z) (dC func190 bm Z (aZ (H70.sees 1 Z) ω) (fun v28 w70 r28=>?_));obtain ⟨e70,r28⟩:=r28;obtain ⟨fp28,H71⟩:=H70.res e70 r28;obtain ⟨a28,k28,q29⟩:=aw (H71.mine 3 Z);cases q29;refine dC func190 bm Z (aZ (H71.sees 2 Z) ω) (fun v29 w71 r29=>?_);obtain ⟨e71,r29⟩:=r29;obtain ⟨fp29,H72⟩:=H71.res e71 r29;obtain ⟨a29,k29,q30⟩:=aw (H72.mine 4 Z);cases q30;refine bJ Z ah bI Z Z Z H72 0 Z Z (fun _ h e _=>h.trans (e.mono fun _ _ q=>by simp [q])) (fun w72 e72 H73=>?_);dsimp only[lNA,lCA,lSZ,lSS,aF] at H73;refine dV Z Z (fun zw hx=>ab ax Z bc Z Z) (bJ Z ah bc Z Z Z H73 0 Z Z (fun _ h e _=>h.trans (e.mono fun _ _ q=>by simp [q])) (fun w73 e73 H74=>?_));dsimp only[lNA,lCA,lSZ,lSS,aF] at H74;refine dV Z Z (fun zw hx=>ab ax Z bc Z Z) (bJ Z ah bc Z Z Z H74 0 Z Z (fun _ h e _=>h.trans (e.mono fun _ _ q=>by simp [q])) (fun w74 e74 H75=>?_));dsimp only[lNA,lCA,lSZ,lSS,aF] at H75;refine aT (ac (sV Z (aj ax Z aJ Z Z (At.whole (H75.box 0 Z))) (aR ah aJ Z Z Z Z H75 1 Z Z (fun w75 e75 H76=>?_))));dsimp only[lNA,lCA,lSZ,lSS,aF] at H76;refine aa (br (hQ _ _ (cg results150 Z (ay ax Z aJ Z (At.whole (H76.box 1 Z))) ?_)));exact ⟨H76.ext,_,_,_,_,_,_,Z,Rec.out (H76.sub (.cons _ (.cons _ (.cons_cons _ (.cons_cons _ (.cons_cons _ List.Sublist.slnil)))))) η⟩
  ·refine aV Z ah Z Z (ag bz Z Z (al (H3.box 0 Z) Z)) (aV Z ah Z Z (ag bd Z Z (al (H3.box 0 Z) Z)) (dC func104 dj Z (cy (H3.sees 0 Z) ω) (fun v30 w76 r30=>?_)));obtain ⟨e76,r30⟩:=r30;obtain ⟨fp30,H77⟩:=H3.res e76 r30;obtain ⟨a30,k30,q31⟩:=aw (H77.mine 2 Z);cases q31;refine dV Z Z (fun zw hx=>ab ax Z bI Z Z) (dC func190 bm Z (aZ (H77.sees 1 Z) ω) (fun v31 w77 r31=>?_));obtain ⟨e77,r31⟩:=r31;obtain ⟨fp31,H78⟩:=H77.res e77 r31;obtain ⟨a31,k31,q32⟩:=aw (H78.mine 3 Z);cases q32;refine dC func190 bm Z (aZ (H78.sees 2 Z) ω) (fun v32 w78 r32=>?_);obtain ⟨e78,r32⟩:=r32;obtain ⟨fp32,H79⟩:=H78.res e78 r32;obtain ⟨a32,k32,q33⟩:=aw (H79.mine 4 Z);cases q33;refine bJ Z ah bI Z Z Z H79 0 Z Z (fun _ h e _=>h.trans (e.mono fun _ _ q=>by simp [q])) (fun w79 e79 H80=>?_);dsimp only[lNA,lCA,lSZ,lSS,aF] at H80;refine dV Z Z (fun zw hx=>ab ax Z bc Z Z) (bJ Z ah bc Z Z Z H80 0 Z Z (fun _ h e _=>h.trans (e.mono fun _ _ q=>by simp [q])) (fun w80 e80 H81=>?_));dsimp only[lNA,lCA,lSZ,lSS,aF] at H81;refine dV Z Z (fun zw hx=>ab ax Z bc Z Z) (bJ Z ah bc Z Z Z H81 0 Z Z (fun _ h e _=>h.trans (e.mono fun _ _ q=>by simp [q])) (fun w81 e81 H82=>?_));dsimp only[lNA,lCA,lSZ,lSS,aF] at H82;refine aT (ac (sV Z (aj ax Z aJ Z Z (At.whole (H82.box 0 Z))) (aR ah aJ Z Z Z Z H82 1 Z Z (fun w82 e82 H83=>?_))));dsimp only[lNA,lCA,lSZ,lSS,aF] at H83;refine aa (br (hQ _ _ (cg results150 Z (ay ax Z aJ Z (At.whole (H83.box 1 Z))) ?_)));exact ⟨H83.ext,_,_,_,_,_,_,Z,Rec.out (H83.sub (.cons _ (.cons _ (.cons_cons _ (.cons_cons _ (.cons_cons _ List.Sublist.slnil)))))) η⟩
 ·refine aV Z ah Z Z (ag bz Z Z (al (H3.box 0 Z) Z)) (dF Z ?_ ?_)
  ·refine aV Z ah Z Z (ag bd Z Z (al (H3.box 0 Z) Z)) (dF Z ?_ ?_)
   ·refine dC func104 dj Z (cy (H3.sees 0 Z) ω) (fun v33 w83 r33=>?_);obtain ⟨e83,r33⟩:=r33;obtain ⟨fp33,H84⟩:=H3.res e83 r33;obtain ⟨a33,k33,q34⟩:=aw (H84.mine 2 Z);cases q34;refine aV Z ah Z Z (ag bz Z Z (al (H84.box 0 Z) Z)) (dV Z Z (fun zw hx=>ab ax Z bI Z Z) (dC func190 bm Z (aZ (H84.sees 1 Z) ω) (fun v34 w84 r34=>?_)));obtain ⟨e84,r34⟩:=r34;obtain ⟨fp34,H85⟩:=H84.res e84 r34;obtain ⟨a34,k34,q35⟩:=aw (H85.mine 3 Z);cases q35;refine dC func190 bm Z (aZ (H85.sees 2 Z) ω) (fun v35 w85 r35=>?_);obtain ⟨e85,r35⟩:=r35;obtain ⟨fp35,H86⟩:=H85.res e85 r35;obtain ⟨a35,k35,q36⟩:=aw (H86.mine 4 Z);cases q36;refine bJ Z ah bI Z Z Z H86 0 Z Z (fun _ h e _=>h.trans (e.mono fun _ _ q=>by simp [q])) (fun w86 e86 H87=>?_);dsimp only[lNA,lCA,lSZ,lSS,aF] at H87;refine dV Z Z (fun zw hx=>ab ax Z bc Z Z) (bJ Z ah bc Z Z Z H87 0 Z Z (fun _ h e _=>h.trans (e.mono fun _ _ q=>by simp [q])) (fun w87 e87 H88=>?_));dsimp only[lNA,lCA,lSZ,lSS,aF] at H88;refine dV Z Z (fun zw hx=>ab ax Z bc Z Z) (bJ Z ah bc Z Z Z H88 0 Z Z (fun _ h e _=>h.trans (e.mono fun _ _ q=>by simp [q])) (fun w88 e88 H89=>?_));dsimp only[lNA,lCA,lSZ,lSS,aF] at H89;refine aT (ac (sV Z (aj ax Z aJ Z Z (At.whole (H89.box 0 Z))) (aR ah aJ Z Z Z Z H89 1 Z Z (fun w89 e89 H90=>?_))));dsimp only[lNA,lCA,lSZ,lSS,aF] at H90;refine aa (br (hQ _ _ (cg results150 Z (ay ax Z aJ Z (At.whole (H90.box 1 Z))) ?_)));exact ⟨H90.ext,_,_,_,_,_,_,Z,Rec.out (H90.sub (.cons _ (.cons _ (.cons_cons _ (.cons_cons _ (.cons_cons _ List.Sublist.slnil)))))) η⟩
   ·refine aV Z ah Z Z (ag bz Z Z (al (H3.box 0 Z) Z)) (dC func104 dj Z (cy (H3.sees 0 Z) ω) (fun v36 w90 r36=>?_));obtain ⟨e90,r36⟩:=r36;obtain ⟨fp36,H91⟩:=H3.res e90 r36;obtain ⟨a36,k36,q37⟩:=aw (H91.mine 2 Z);cases q37;refine dV Z Z (fun zw hx=>ab ax Z bI Z Z) (dC func190 bm Z (aZ (H91.sees 1 Z) ω) (fun v37 w91 r37=>?_));obtain ⟨e91,r37⟩:=r37;obtain ⟨fp37,H92⟩:=H91.res e91 r37;obtain ⟨a37,k37,q38⟩:=aw (H92.mine 3 Z);cases q38;refine dC func190 bm Z (aZ (H92.sees 2 Z) ω) (fun v38 w92 r38=>?_);obtain ⟨e92,r38⟩:=r38;obtain ⟨fp38,H93⟩:=H92.res e92 r38;obtain ⟨a38,k38,q39⟩:=aw (H93.mine 4 Z);cases q39;refine bJ Z ah bI Z Z Z H93 0 Z Z (fun _ h e _=>h.trans (e.mono fun _ _ q=>by simp [q])) (fun w93 e93 H94=>?_);dsimp only[lNA,lCA,lSZ,lSS,aF] at H94;refine dV Z Z (fun zw hx=>ab ax Z bc Z Z) (bJ Z ah bc Z Z Z H94 0 Z Z (fun _ h e _=>h.trans (e.mono fun _ _ q=>by simp [q])) (fun w94 e94 H95=>?_));dsimp only[lNA,lCA,lSZ,lSS,aF] at H95;refine dV Z Z (fun zw hx=>ab ax Z bc Z Z) (bJ Z ah bc Z Z Z H95 0 Z Z (fun _ h e _=>h.trans (e.mono fun _ _ q=>by simp [q])) (fun w95 e95 H96=>?_));dsimp only[lNA,lCA,lSZ,lSS,aF] at H96;refine aT (ac (sV Z (aj ax Z aJ Z Z (At.whole (H96.box 0 Z))) (aR ah aJ Z Z Z Z H96 1 Z Z (fun w96 e96 H97=>?_))));dsimp only[lNA,lCA,lSZ,lSS,aF] at H97;refine aa (br (hQ _ _ (cg results150 Z (ay ax Z aJ Z (At.whole (H97.box 1 Z))) ?_)));exact ⟨H97.ext,_,_,_,_,_,_,Z,Rec.out (H97.sub (.cons _ (.cons _ (.cons_cons _ (.cons_cons _ (.cons_cons _ List.Sublist.slnil)))))) η⟩
  ·refine aV Z ah Z Z (ag bz Z Z (al (H3.box 0 Z) Z)) (aV Z ah Z Z (ag bd Z Z (al (H3.box 0 Z) Z)) (dC func104 dj Z (cy (H3.sees 0 Z) ω) (fun v39 w97 r39=>?_)));obtain ⟨e97,r39⟩:=r39;obtain ⟨fp39,H98⟩:=H3.res e97 r39;obtain ⟨a39,k39,q40⟩:=aw (H98.mine 2 Z);cases q40;refine dV Z Z (fun zw hx=>ab ax Z bI Z Z) (dC func190 bm Z (aZ (H98.sees 1 Z) ω) (fun v40 w98 r40=>?_));obtain ⟨e98,r40⟩:=r40;obtain ⟨fp40,H99⟩:=H98.res e98 r40;obtain ⟨a40,k40,q41⟩:=aw (H99.mine 3 Z);cases q41;refine dC func190 bm Z (aZ (H99.sees 2 Z) ω) (fun v41 w99 r41=>?_);obtain ⟨e99,r41⟩:=r41;obtain ⟨fp41,H100⟩:=H99.res e99 r41;obtain ⟨a41,k41,q42⟩:=aw (H100.mine 4 Z);cases q42;refine bJ Z ah bI Z Z Z H100 0 Z Z (fun _ h e _=>h.trans (e.mono fun _ _ q=>by simp [q])) (fun w100 e100 H101=>?_);dsimp only[lNA,lCA,lSZ,lSS,aF] at H101;refine dV Z Z (fun zw hx=>ab ax Z bc Z Z) (bJ Z ah bc Z Z Z H101 0 Z Z (fun _ h e _=>h.trans (e.mono fun _ _ q=>by simp [q])) (fun w101 e101 H102=>?_));dsimp only[lNA,lCA,lSZ,lSS,aF] at H102;refine dV Z Z (fun zw hx=>ab ax Z bc Z Z) (bJ Z ah bc Z Z Z H102 0 Z Z (fun _ h e _=>h.trans (e.mono fun _ _ q=>by simp [q])) (fun w102 e102 H103=>?_));dsimp only[lNA,lCA,lSZ,lSS,aF] at H103;refine aT (ac (sV Z (aj ax Z aJ Z Z (At.whole (H103.box 0 Z))) (aR ah aJ Z Z Z Z H103 1 Z Z (fun w103 e103 H104=>?_))));dsimp only[lNA,lCA,lSZ,lSS,aF] at H104;refine aa (br (hQ _ _ (cg results150 Z (ay ax Z aJ Z (At.whole (H104.box 1 Z))) ?_)));exact ⟨H104.ext,_,_,_,_,_,_,Z,Rec.out (H104.sub (.cons _ (.cons _ (.cons_cons _ (.cons_cons _ (.cons_cons _ List.Sublist.slnil)))))) η⟩
theorem eU {w:World}{r:Rec}{rA6 rA7 rA8:Option Addr}{rC6 rC7 rC8:Nat}(rK:r.Ok) (rS6:Sees w [.slice rA6 r.Rows.length rC6] r.Rows) (rS7:Sees w [.slice rA7 r.Data.length rC7] r.Data) (rS8:Sees w [.slice rA8 r.Delta.length rC8] r.Delta) (hb:fN r≤1048576):Ret Tryz.prog 186 #[r.val rA6 rC6 rA7 rC7 rA8 rC8] w fun v w'=>Ext No w w'∧(∃ A6 C6 A7 C7 A8 C8,v=r.val A6 C6 A7 C7 A8 C8∧Res w w' [.int .i64 r.Kind,.int .i64 r.Seq,.string r.Name,.int .i64 r.Length,.int .i64 r.Group,.int .i64 r.Row,.slice A6 r.Rows.length C6,.slice A7 r.Data.length C7,.slice A8 r.Delta.length C8] r):=by
 have rK2:=rK;unfold Rec.Ok at rK2
 try unfold I64ok at rK2
 try unfold maxLen at rK2
 have rN2:r.Name.size≤maxLen:=by unfold maxLen; omega
 have rL6:=sL rS6;obtain ⟨rF6,rO6⟩:=rS6;have rL7:=sL rS7;obtain ⟨rF7,rO7⟩:=rS7;have rL8:=sL rS8;obtain ⟨rF8,rO8⟩:=rS8;unfold fN at hb;refine aS func186 Z ntmps186 Z (fun Q hQ hN=>?_);have H0:=Sep.start (ak rO6 (ak rO7 (ak rO8 aG)));refine ac (bt ah Z Z H0 (fun b1 w1 e1 g1 H1=>bM ah Z zeroValue47 H1 (fun b2 w2 e2 g2 H2=>aa (ac (es (α:=Int) ah Z bd ba H2 (fun b3 w3 e3 g3 H3=>sF ax Z bI (sLd bd (H3.box 0 Z) Z (kb ah Z bd ba Z Z Z H3 2 Z (H3.seen 0 Z) (by (try simp only [List.length_nil]); unfold maxLen; omega) (by (try simp only [List.length_nil]); omega) (fun v1 w4 fp1 H4=>sV Z (ab ax Z bI Z Z) ?_)))))))));obtain ⟨a1,k1,q1⟩:=aw (H4.mine 2 Z);cases q1;refine bv ah bI Z Z Z H4 0 Z Z (fun w5 e4 H5=>?_);dsimp only[lNA,lCA,lSZ,lSS,aF] at H5;refine aa (ac (es (α:=UInt8) ah Z bz du H5 (fun b4 w6 e5 g4 H6=>sF ax Z bc (sLd bz (H6.box 0 Z) Z (kb ah Z bz du Z Z Z H6 3 Z (H6.seen 1 Z) (by (try simp only [List.length_nil]); unfold maxLen; omega) (by (try simp only [List.length_nil]); omega) (fun v2 w7 fp2 H7=>sV Z (ab ax Z bc Z Z) ?_))))));obtain ⟨a2,k2,q2⟩:=aw (H7.mine 3 Z);cases q2;refine bv ah bc Z Z Z H7 0 Z Z (fun w8 e6 H8=>?_);dsimp only[lNA,lCA,lSZ,lSS,aF] at H8;refine aa (ac (es (α:=UInt8) ah Z bz du H8 (fun b5 w9 e7 g5 H9=>sF ax Z bc (sLd bz (H9.box 0 Z) Z (kb ah Z bz du Z Z Z H9 4 Z (H9.seen 2 Z) (by (try simp only [List.length_nil]); unfold maxLen; omega) (by (try simp only [List.length_nil]); omega) (fun v3 w10 fp3 H10=>sV Z (ab ax Z bc Z Z) ?_))))));obtain ⟨a3,k3,q3⟩:=aw (H10.mine 4 Z);cases q3;refine bv ah bc Z Z Z H10 0 Z Z (fun w11 e8 H11=>?_);dsimp only[lNA,lCA,lSZ,lSS,aF] at H11;refine aa (ac (sV Z (aj ax Z aJ Z Z (At.whole (H11.box 0 Z))) (aR ah aJ Z Z Z Z H11 1 Z Z (fun w12 e9 H12=>?_))));dsimp only[lNA,lCA,lSZ,lSS,aF] at H12;refine aa (br (hQ _ _ (cg results186 Z (ay ax Z aJ Z (At.whole (H12.box 1 Z))) ?_)));exact ⟨H12.ext,_,_,_,_,_,_,Z,Rec.out (H12.sub (.cons _ (.cons _ (.cons_cons _ (.cons_cons _ (.cons_cons _ List.Sublist.slnil)))))) η⟩
theorem kW {w:World}{xs:List Rec}{xsA:Option Addr}{xsC:Nat}(xsS:Sees w [.slice xsA xs.length xsC] xs) (hl:szL fN xs≤1048576):Ret Tryz.prog 82 #[.slice xsA xs.length xsC] w fun v w'=>Ext No w w'∧(Res w w' [v] xs):=by
 have xsL:=sL xsS;obtain ⟨xsF,xsO⟩:=xsS;have hl0:xs.length≤1048576:=by unfold szL at hl; omega
 refine aS func82 Z ntmps82 Z (fun Q hQ hN=>?_);have H0:=Sep.start (ak xsO aG);refine ac (sA Z Z (aa (ac (es (α:=Rec) ah Z aU aI H0 (fun b1 w1 e1 g1 H1=>sA Z Z (aa (ae (ac (sM Z Z (sV Z (aO aU Z) (sM Z Z (aa (au (fd (α:=Rec) (γ:=Nat) (fun k=>xs.take k) 0 H1 0 Z 3 Z [(2,_),(7,_),(8,_)] ⟨Z,Z,Z,trivial⟩ (fun k=>[(9,.int .i64 k)]) (fun k=>k≤xs.length∧True) (fun k=>xs.length-k) ⟨Z,trivial⟩ ⟨ω,trivial⟩ (fun k vA1 fA1 w2 H2 ⟨hk,_⟩=>?_)))))))))))))));dsimp only[lCA,lNA,lSZ,lSS] at H2 ⊢;refine ac (sV Z (bg Z Z) (aa (ae (az Z (fun c1=>?_) (fun c1=>?_)))))
 ·refine ar (ae (au (ae ?_)));obtain ⟨hg,hg2⟩:=fc hl k ω;have tl:=List.length_take (i:=k) (l:=xs);obtain ⟨eb1,eo1,es1,ef1,ee1,ec1,eO1,eH1,em1⟩:=bC (H2.seen 0 Z) k ω;obtain ⟨ea1,ek1,ea2,ek2,ea3,ek3,eg1,eg2,eg3,rfl,eq1,eK1,eo2,eo3,eo4⟩:=bS eO1;have eK1U:=eK1;unfold Rec.Ok at eK1U
  try unfold I64ok at eK1U
  try unfold maxLen at eK1U
  have eP1:=H2.look1 0 Z eo2 (fun b hb=>eH1 b (by rw [eq1]; simp [hb]));have eL1:=oL eo2;have eP2:=eP1.look1 0 Z eo3 (fun b hb=>eH1 b (by rw [eq1]; simp [hb]));have eL2:=oL eo3;have eP3:=eP2.look1 0 Z eo4 (fun b hb=>eH1 b (by rw [eq1]; simp [hb]));have eL3:=oL eo4;refine am (sV Z (aA aU aJ Z Z ee1 k ω ω) (sV Z (aj ax Z aJ Z Z ec1) (bM ah Z zeroValue47 eP3 (fun b2 w3 e2 g2 H3=>aR ah aJ Z Z Z Z H3 1 Z Z (fun w4 e3 H4=>?_)))));dsimp only[lNA,lCA,lSZ,lSS,aF] at H4;refine aa (am (sM Z Z (sV Z (aj ax Z aJ Z Z (At.whole (H4.box 1 Z))) (sC func150 jt Z (dW η (H4.sees 1 Z) (H4.sees 2 Z) (H4.sees 3 Z) ξ) (fun v1 w5 r1=>?_)))));obtain ⟨e4,sa1,sk1,sa2,sk2,sa3,sk3,rfl,r1⟩:=r1;obtain ⟨fp1,H5⟩:=H4.res e4 r1;refine dX ah Z aU aI Z Z Z Z H5 (fun b3 w6 e5 g3 H6=>im ah Z aU aI Z Z Z H6 0 3 2 Z Z Z Z (by unfold maxLen; omega) ω (fun v2 w7 fp2 H7=>sA Z Z (aa (am (sV Z (aE Z Z iO) (sM Z Z (aa ?_)))))));exact ⟨(k+1,_,_),⟨Z,Z,Z,Z,Z,trivial⟩,⟨by dsimp only; rw [← cG (xs:=xs) (d:=default) ω]; exact ((H7.ftake 1).dtake 1),ω,trivial⟩,θ⟩
 ·refine aW (ae ?_);obtain rfl:k=xs.length:=by omega
  rw [List.take_length] at H2;refine am (sR 2 Z (rN hQ results82 Z ?_));exact ⟨H2.ext,H2.out 0 Z⟩
theorem ki {w:World}{xs:List Rec}{xsA:Option Addr}{xsC:Nat}(xsS:Sees w [.slice xsA xs.length xsC] xs) (hl:szL fN xs≤1048576):Ret Tryz.prog 99 #[.slice xsA xs.length xsC] w fun v w'=>Ext No w w'∧(Res w w' [v] xs):=by
 have xsL:=sL xsS;obtain ⟨xsF,xsO⟩:=xsS;have hl0:xs.length≤1048576:=by unfold szL at hl; omega
 refine aS func99 Z ntmps99 Z (fun Q hQ hN=>?_);have H0:=Sep.start (ak xsO aG);refine ac (sA Z Z (aa (ac (es (α:=Rec) ah Z aU aI H0 (fun b1 w1 e1 g1 H1=>sA Z Z (aa (ae (ac (sA Z Z (aa (au (fd (α:=Rec) (γ:=Nat) (fun k=>xs.take k) 0 H1 0 Z 3 Z [(0,_),(2,_)] ⟨Z,Z,trivial⟩ (fun k=>[(4,.int .i64 k)]) (fun k=>k≤xs.length∧True) (fun k=>xs.length-k) ⟨Z,trivial⟩ ⟨ω,trivial⟩ (fun k vA1 fA1 w2 H2 ⟨hk,_⟩=>?_)))))))))))));dsimp only[lCA,lNA,lSZ,lSS] at H2 ⊢;refine ae (ac (sR 2 Z (sV Z (aO aU Z) (sV Z (bg Z Z) (aa (az Z (fun c1=>?_) (fun c1=>?_)))))))
 ·refine ar (ae (au ?_));obtain ⟨hg,hg2⟩:=fc hl k ω;have tl:=List.length_take (i:=k) (l:=xs);obtain ⟨eb1,eo1,es1,ef1,ee1,ec1,eO1,eH1,em1⟩:=bC (H2.seen 0 Z) k ω;obtain ⟨ea1,ek1,ea2,ek2,ea3,ek3,eg1,eg2,eg3,rfl,eq1,eK1,eo2,eo3,eo4⟩:=bS eO1;have eK1U:=eK1;unfold Rec.Ok at eK1U
  try unfold I64ok at eK1U
  try unfold maxLen at eK1U
  have eP1:=H2.look1 0 Z eo2 (fun b hb=>eH1 b (by rw [eq1]; simp [hb]));have eL1:=oL eo2;have eP2:=eP1.look1 0 Z eo3 (fun b hb=>eH1 b (by rw [eq1]; simp [hb]));have eL2:=oL eo3;have eP3:=eP2.look1 0 Z eo4 (fun b hb=>eH1 b (by rw [eq1]; simp [hb]));have eL3:=oL eo4;refine am (sR 3 Z (sV Z (aA aU aJ Z Z ee1 k ω ω) (sV Z (aj ax Z aJ Z Z ec1) (sC func186 lE Z (eU η (eP3.sees 1 Z) (eP3.sees 2 Z) (eP3.sees 3 Z) ξ) (fun v1 w3 r1=>?_)))));obtain ⟨e2,sa1,sk1,sa2,sk2,sa3,sk3,rfl,r1⟩:=r1;obtain ⟨fp1,H3⟩:=eP3.res e2 r1;refine dX ah Z aU aI Z Z Z Z H3 (fun b2 w4 e3 g2 H4=>im ah Z aU aI Z Z Z H4 0 2 1 Z Z Z Z (by unfold maxLen; omega) ω (fun v2 w5 fp2 H5=>sA Z Z (aa (am (sM Z Z (sV Z (aE Z Z iO) (sA Z Z (aa ?_))))))));exact ⟨(k+1,_,_),⟨Z,Z,Z,Z,trivial⟩,⟨by dsimp only; rw [← cG (xs:=xs) (d:=default) ω]; exact ((H5.ftake 1).dtake 1),ω,trivial⟩,θ⟩
 ·refine aW (ae ?_);obtain rfl:k=xs.length:=by omega
  rw [List.take_length] at H2;refine am (sR 2 Z (rN hQ results99 Z ?_));exact ⟨H2.ext,H2.out 0 Z⟩
theorem jQ {w:World}{x:Block}{xA1:Option Addr}{xC1:Nat}(xK:x.Ok) (xS1:Sees w [.slice xA1 x.Bytes.length xC1] x.Bytes) (hb:mD x≤1048576):Ret Tryz.prog 98 #[x.val xA1 xC1] w fun v w'=>Ext No w w'∧(∃ A1 C1,v=x.val A1 C1∧Res w w' [.int .i64 x.Stamp,.slice A1 x.Bytes.length C1] x):=by
 have xK2:=xK;unfold Block.Ok at xK2
 try unfold I64ok at xK2
 try unfold maxLen at xK2
 have xL1:=sL xS1;obtain ⟨xF1,xO1⟩:=xS1;unfold mD at hb;refine aS func98 Z ntmps98 Z (fun Q hQ hN=>?_);have H0:=Sep.start (ak xO1 aG);refine ac (bt ah Z Z H0 (fun b1 w1 e1 g1 H1=>bM ah Z zeroValue56 H1 (fun b2 w2 e2 g2 H2=>aa (ae (bx (S:=Ext No _) [(0,true),(1,true),(3,true),(4,true),(2,false),(5,false),(6,true),(7,false)] κ κ κ Z (fun _=>Ext.refl.drawn _) (fun q1=>?_))))));have H3:=H2.drawn q1;refine dV Z Z (fun zw hx=>ab lh Z ts2 Z Z) (dV Z Z (fun zw hx=>ag tu2 Z Z (al (hx.heap (H3.box 0 Z)) Z)) (dV Z Z (fun zw hx=>ab lh Z bc Z Z) (dV Z Z (fun zw hx=>ag bz Z Z (al (hx.heap (H3.box 0 Z)) Z)) (d_S (fun hs1=>?_) σ))));refine pH (α:=UInt8) Z ah Z bz du H3 (fun _ h e=>h.trans e.no) (fun b3 w3 e3 g3 H4=>d_S (fun hs2=>?_) σ);refine eM Z ah Z bz du Z Z Z H4 2 Z (H4.seen 0 Z) (by (try simp only [List.length_nil]); unfold maxLen; omega) (by (try simp only [List.length_nil]); omega) (fun b hb=>by simp only [List.mem_singleton] at hb; rw [hb]; exact Nat.le_trans hs1.size g3) (fun v1 w4 fp1 sb1 H5=>?_)
 try dsimp only[lNA,lCA,lSZ,lSS] at H5
 obtain ⟨a1,k1,q2⟩:=aw (H5.mine 2 Z);cases q2;refine dV Z Z (fun zw hx=>bh kQ Z Z) (tG Z ah jP Z Z Z Z H5 1 Z Z (fun _ _ _ hr=>absurd Z hr) (fun w5 e4 H6=>?_));dsimp only[lNA,lCA,lSZ,lSS,aF] at H6;refine aT (br (hQ _ _ (cg results98 Z (ay lh Z jP Z (At.whole (H6.box 1 Z))) ?_)));exact ⟨H6.ext,_,_,Z,Block.out (H6.sub (.cons _ (.cons _ (.cons_cons _ List.Sublist.slnil)))) η⟩
theorem kz {w:World}{x:Drive}{xA1:Option Addr}{xC1:Nat}(xK:x.Ok) (xS1:Sees w [.slice xA1 x.Blocks.length xC1] x.Blocks) (hb:et x≤1048576):Ret Tryz.prog 105 #[x.val xA1 xC1] w fun v w'=>Ext No w w'∧(∃ A1 C1,v=x.val A1 C1∧Res w w' [.bool x.Wiped,.slice A1 x.Blocks.length C1] x):=by
 have xK2:=xK;unfold Drive.Ok at xK2
 try unfold I64ok at xK2
 try unfold maxLen at xK2
 have xL1:=sL xS1;obtain ⟨xF1,xO1⟩:=xS1;unfold et at hb;have hl0:x.Blocks.length≤1048576:=by unfold szL at hb; omega
 refine aS func105 Z ntmps105 Z (fun Q hQ hN=>?_);have H0:=Sep.start (ak xO1 aG);refine ac (bt ah Z Z H0 (fun b1 w1 e1 g1 H1=>bM ah Z zeroValue54 H1 (fun b2 w2 e2 g2 H2=>aa (ac (sF gw Z ts4 (sLd tu4 (H2.box 0 Z) Z (sV Z (bh iX Z Z) (bM ah Z zeroValue54 H2 (fun b3 w3 e3 g3 H3=>aR ah fJ Z Z Z Z H3 2 Z Z (fun w4 e4 H4=>?_))))))))));dsimp only[lNA,lCA,lSZ,lSS,aF] at H4;refine aa (ae (ac (sF gw Z jV (sLd fb (H4.box 0 Z) Z (sV Z (aO fb Z) (sM Z Z (aa (au ?_))))))));have H6:=H4.nilW (α:=Block)
 try dsimp only[lNA,lCA,lSZ,lSS] at H6
 refine gQ (α:=Block) (γ:=Nat) (fun k=>x.Blocks.take k) 0 H6 3 2 1 Z Z Z Z [(2,_),(3,_),(10,_),(11,_)] ⟨Z,Z,Z,Z,trivial⟩ (fun k=>[(12,.int .i64 k)]) (fun k=>k≤x.Blocks.length∧True) (fun k=>x.Blocks.length-k) ⟨Z,trivial⟩ ⟨ω,trivial⟩ (fun k vA1 fA1 w5 H5 ⟨hk,_⟩=>?_);dsimp only[lCA,lNA,lSZ,lSS] at H5 ⊢;refine ac (sV Z (bg Z Z) (aa (ae (az Z (fun c1=>?_) (fun c1=>?_)))))
 ·refine ar (ae (au (ae ?_)));obtain ⟨hg,hg2⟩:=fc hb k ω;unfold mD at hg;have tl:=List.length_take (i:=k) (l:=x.Blocks);obtain ⟨eb1,eo1,es1,ef1,ee1,ec1,eO1,eH1,em1⟩:=bC (H5.seen 0 Z) k ω;obtain ⟨ea1,ek1,eg1,rfl,eq1,eK1,eo2⟩:=jc eO1;have eK1U:=eK1;unfold Block.Ok at eK1U
  try unfold I64ok at eK1U
  try unfold maxLen at eK1U
  have eP1:=H5.look1 0 Z eo2 (fun b hb=>eH1 b (by rw [eq1]; simp [hb]));have eL1:=oL eo2;refine am (sV Z (aA fb jP Z Z ee1 k ω ω) (sV Z (aj lh Z jP Z Z ec1) (bM ah Z zeroValue56 eP1 (fun b4 w6 e5 g4 H7=>aR ah jP Z Z Z Z H7 4 Z Z (fun w7 e6 H8=>?_)))));dsimp only[lNA,lCA,lSZ,lSS,aF] at H8;refine aa (bx (S:=Ext (· ∈ fA1) _) (oQ [1,3,5,7,9,11,12,15,16,18,21,22]) κ κ κ Z (fun _=>Ext.refl.drawn _) (fun q1=>?_));have H9:=H8.drawn q1;refine dV Z Z (fun zw hx=>ab gw Z jV Z Z) (dV Z Z (fun zw hx=>ag fb Z Z (al (hx.heapM (H9.boff 2 Z 3 Z Z) (H9.box 2 Z)) Z)) (dV Z Z (fun zw hx=>ab lh Z ts2 Z Z) (dV Z Z (fun zw hx=>ag tu2 Z Z (al (hx.heapM (H9.boff 4 Z 3 Z Z) (H9.box 4 Z)) Z)) (dV Z Z (fun zw hx=>ab lh Z bc Z Z) (dV Z Z (fun zw hx=>ag bz Z Z (al (hx.heapM (H9.boff 4 Z 3 Z Z) (H9.box 4 Z)) Z)) (dC func190 bm Z (aZ (H9.sees 1 Z) ω) (fun v1 w8 r1=>?_)))))));obtain ⟨e7,r1⟩:=r1;obtain ⟨fp1,H10⟩:=H9.res e7 r1;obtain ⟨a1,k1,q2⟩:=aw (H10.mine 5 Z);cases q2;refine dV Z Z (fun zw hx=>bh kQ Z Z) (dy Z ah Z fb gW Z Z Z Z H10 (fun _ h e=>h.trans e.no) (fun b5 w9 e8 g5 H11=>?_));have H12:=H11.asSt 5 ((x.Blocks.getD k default):Block) Z (Block.own_mk (x:=(x.Blocks.getD k default)) η (H11.mine 5 Z))
  try dsimp only[lNA,lCA,lSZ,lSS] at H12
  refine jZ Z ah Z fb gW Z Z Z H12 3 6 5 Z Z Z Z (by unfold maxLen; omega) ω (fun _ h e=>h.trans e) (fun v2 w10 fp2 H13=>dV Z Z (fun zw hx=>ab gw Z jV Z Z) ?_);obtain ⟨a2,k2,q3⟩:=aw (H13.mine 3 Z);cases q3;refine bJ Z ah jV Z Z Z H13 2 Z Z (fun _ _ _ hr=>absurd Z hr) (fun w11 e9 H14=>?_);dsimp only[lNA,lCA,lSZ,lSS,aF] at H14;refine aT (am (sV Z (aE Z Z iO) (sM Z Z (aa ?_))));exact ⟨(k+1,_,_),⟨Z,Z,Z,Z,Z,trivial⟩,⟨by dsimp only; rw [← cG (xs:=x.Blocks) (d:=default) ω]; exact ((H14.ftake 1).dtake 4),ω,trivial⟩,θ⟩
 ·refine aW (ae ?_);obtain rfl:k=x.Blocks.length:=by omega
  rw [List.take_length] at H5;refine am (sV Z (aj gw Z fJ Z Z (At.whole (H5.box 2 Z))) ?_);obtain ⟨a3,k3,q4⟩:=aw (H5.mine 3 Z);cases q4;refine aR ah fJ Z Z Z Z H5 1 Z Z (fun w12 e10 H15=>?_);dsimp only[lNA,lCA,lSZ,lSS,aF] at H15;refine aa (br (hQ _ _ (cg results105 Z (ay gw Z fJ Z (At.whole (H15.box 1 Z))) ?_)));exact ⟨H15.ext,_,_,Z,Drive.out (H15.sub (.cons _ (.cons _ (.cons _ (.cons_cons _ List.Sublist.slnil))))) η⟩
theorem gG {w:World}{z:Wld}{zA9 zA10 zA11:Option Addr}{zC9 zC10 zC11:Nat}(zK:z.Ok) (zS9:Sees w [.slice zA9 z.Groups.length zC9] z.Groups) (zS10:Sees w [.slice zA10 z.On.length zC10] z.On) (zS11:Sees w [.slice zA11 z.Tapes.length zC11] z.Tapes) (hb:df z≤1048576):Ret Tryz.prog 49 #[z.val zA9 zC9 zA10 zC10 zA11 zC11] w fun v w'=>Ext No w w'∧(∃ A9 C9 A10 C10 A11 C11,v=z.val A9 C9 A10 C10 A11 C11∧Res w w' [.int .i64 z.Shape.Groups,.int .i64 z.Shape.Column,.int .i64 z.Shape.Data,.int .i64 z.Shape.Spare,.int .i64 z.Shape.Rows,.int .i64 z.Shape.Cap,.int .i64 z.Shape.Batch,.int .i64 z.Shape.Queue,.int .i64 z.Shape.Stage,.slice A9 z.Groups.length C9,.slice A10 z.On.length C10,.slice A11 z.Tapes.length C11,.int .i64 z.Writes,.int .i64 z.Stop,.bool z.Down] z):=by
 have zK2:=zK;unfold Wld.Ok Shape.Ok at zK2
 try unfold I64ok at zK2
 try unfold maxLen at zK2
 have zL9:=sL zS9;obtain ⟨zF9,zO9⟩:=zS9;have zL10:=sL zS10;obtain ⟨zF10,zO10⟩:=zS10;have zL11:=sL zS11;obtain ⟨zF11,zO11⟩:=zS11;have hcu:df z=szL (szL et) z.Groups+z.On.length+szL gK z.Tapes:=Z;have hg0:szL (szL et) z.Groups≤1048576:=by omega
 have ht0:szL gK z.Tapes≤1048576:=by omega
 have hgl:z.Groups.length≤1048576:=by unfold szL at hg0; omega
 have htl:z.Tapes.length≤1048576:=by unfold szL at ht0; omega
 refine aS func49 Z ntmps49 Z (fun Q hQ hN=>?_);have H0:=Sep.start (ak zO9 (ak zO10 (ak zO11 aG)));refine ac (bt ah Z Z H0 (fun b1 w1 e1 g1 H1=>bM ah Z zeroValue34 H1 (fun b2 w2 e2 g2 H2=>aa (ac (sV Z (aj aP Z bP Z Z (At.whole (H2.box 0 Z))) (bM ah Z zeroValue34 H2 (fun b3 w3 e3 g3 H3=>aR ah bP Z Z Z Z H3 2 Z Z (fun w4 e4 H4=>?_))))))));dsimp only[lNA,lCA,lSZ,lSS,aF] at H4;refine aa (ac (sF aP Z bI (sLd bd (H4.box 0 Z) Z (sC func104 dj Z (cy (H4.sees 1 Z) ω) (fun v1 w5 r1=>?_)))));obtain ⟨e5,r1⟩:=r1;obtain ⟨fp1,H5⟩:=H4.res e5 r1;obtain ⟨a1,k1,q1⟩:=aw (H5.mine 3 Z);cases q1;refine sF aP Z dB (bv ah dB Z Z Z H5 2 Z Z (fun w6 e6 H6=>?_));dsimp only[lNA,lCA,lSZ,lSS,aF] at H6;refine sF aP Z bI (bv ah bI Z Z Z H6 2 Z Z (fun w7 e7 H7=>?_));dsimp only[lNA,lCA,lSZ,lSS,aF] at H7;refine sF aP Z cI (bv ah cI Z Z Z H7 2 Z Z (fun w8 e8 H8=>?_));dsimp only[lNA,lCA,lSZ,lSS,aF] at H8;refine aa (ae (ac (sF aP Z dB (sLd cv (H8.box 0 Z) Z (sV Z (aO cv Z) (sM Z Z (aa (au ?_))))))));have H10:=H8.nilW (α:=(List Drive))
 try dsimp only[lNA,lCA,lSZ,lSS] at H10
 refine gQ (α:=(List Drive)) (γ:=Nat) (fun k=>z.Groups.take k) 0 H10 4 2 9 Z Z Z Z [(1,_),(2,_),(3,_),(19,_),(20,_)] ⟨Z,Z,Z,Z,Z,trivial⟩ (fun k=>[(21,.int .i64 k)]) (fun k=>k≤z.Groups.length∧True) (fun k=>z.Groups.length-k) ⟨Z,trivial⟩ ⟨ω,trivial⟩ (fun k vA1 fA1 w9 H9 ⟨hk,_⟩=>?_);dsimp only[lCA,lNA,lSZ,lSS] at H9 ⊢;refine ac (sV Z (bg Z Z) (aa (ae (az Z (fun c1=>?_) (fun c1=>?_)))))
 ·refine ar (ae (au (ae ?_)));have hgk:szL et (z.Groups.getD k [])≤1048576:=(fc hg0 k ω).1;have hgkl:(z.Groups.getD k []).length≤1048576:=by unfold szL at hgk; omega
  have tlg:=List.length_take (i:=k) (l:=z.Groups);obtain ⟨eb1,eo1,ea1,ek1,ef1,ee1,ec1,eO1,eH1⟩:=gp (H9.seen 0 Z) k ω;have eP1:=H9.look1 0 Z eO1 eH1;refine am (sV Z (aA cv iT Z Z ee1 k ω ω) (sV Z (ag dm Z Z ec1) (sA Z Z (aa (ac (es (α:=Drive) ah Z dm dg eP1 (fun b4 w10 e9 g4 H11=>sA Z Z (aa (ae (ac (sM Z Z (sV Z (aO dm Z) (sM Z Z (aa (au (fd (α:=Drive) (γ:=Nat) (fun m2=>(z.Groups.getD k []).take m2) 0 H11 5 Z 6 Z [(1,_),(2,_),(3,_),(19,_),(20,_),(21,_),(26,_),(27,_)] ⟨Z,Z,Z,Z,Z,Z,Z,Z,trivial⟩ (fun m2=>[(28,.int .i64 m2)]) (fun m2=>m2≤(z.Groups.getD k []).length∧True) (fun m2=>(z.Groups.getD k []).length-m2) ⟨Z,trivial⟩ ⟨ω,trivial⟩ (fun m2 vA2 fA2 w11 H12 ⟨hm2,_⟩=>?_)))))))))))))))));dsimp only[lCA,lNA,lSZ,lSS] at H12 ⊢;refine ac (sV Z (bg Z Z) (aa (ae (az Z (fun c2=>?_) (fun c2=>?_)))))
  ·refine ar (ae (au (ae ?_)));have hdk:et ((z.Groups.getD k []).getD m2 default)≤1048576:=(fc hgk m2 ω).1;have tld:=List.length_take (i:=m2) (l:=(z.Groups.getD k []));obtain ⟨eb2,eo2,es1,ef2,ee2,ec2,eO2,eH2,em1⟩:=bC (H12.seen 3 Z) m2 ω;obtain ⟨ea2,ek2,eg1,rfl,eq1,eK1,eo3⟩:=gd eO2;have eP2:=H12.look1 3 Z eo3 (fun b hb=>eH2 b (by rw [eq1]; simp [hb]));have eL1:=oL eo3;refine am (sV Z (aA dm fJ Z Z ee2 m2 ω ω) (sV Z (aj gw Z fJ Z Z ec2) (bM ah Z zeroValue54 eP2 (fun b5 w12 e10 g5 H13=>aR ah fJ Z Z Z Z H13 6 Z Z (fun w13 e11 H14=>?_)))));dsimp only[lNA,lCA,lSZ,lSS,aF] at H14;refine aa (am (sM Z Z (sV Z (aj gw Z fJ Z Z (At.whole (H14.box 6 Z))) (sC func105 sU Z (kz η (H14.sees 4 Z) ξ) (fun v2 w14 r2=>?_)))));obtain ⟨e12,sa1,sk1,rfl,r2⟩:=r2;obtain ⟨fp2,H15⟩:=H14.res e12 r2;refine dX ah Z dm dg Z Z Z Z H15 (fun b6 w15 e13 g6 H16=>im ah Z dm dg Z Z Z H16 5 8 7 Z Z Z Z (by unfold maxLen; omega) ω (fun v3 w16 fp3 H17=>sA Z Z (aa (am (sV Z (aE Z Z iO) (sM Z Z (aa ?_)))))));exact ⟨(m2+1,_,_),⟨Z,Z,Z,Z,Z,Z,Z,Z,Z,Z,trivial⟩,⟨by dsimp only; rw [← cG (xs:=(z.Groups.getD k [])) (d:=default) ω]; exact ((H17.ftake 4).dtake 6),ω,trivial⟩,θ⟩
  ·refine aW ?_;obtain rfl:m2=(z.Groups.getD k []).length:=by omega
   rw [List.take_length] at H12;refine am (sF aP Z dB (sLd cv (H12.box 2 Z) Z (sM Z Z ?_)));obtain ⟨a2,k2,q2⟩:=aw (H12.mine 5 Z);cases q2;refine dX ah Z cv fw Z Z Z Z H12 (fun b7 w17 e14 g7 H18=>im ah Z cv fw Z Z Z H18 4 6 5 Z Z Z Z (by unfold maxLen; omega) ω (fun v4 w18 fp4 H19=>sV Z (ab aP Z dB Z Z) ?_));obtain ⟨a3,k3,q3⟩:=aw (H19.mine 4 Z);cases q3;refine bv ah dB Z Z Z H19 2 Z Z (fun w19 e15 H20=>?_);dsimp only[lNA,lCA,lSZ,lSS,aF] at H20;refine aa (am (sV Z (aE Z Z iO) (sM Z Z (aa ?_))));exact ⟨(k+1,_,_),⟨Z,Z,Z,Z,Z,Z,trivial⟩,⟨by dsimp only; rw [← cG (xs:=z.Groups) (d:=[]) ω]; exact ((H20.ftake 3).dtake 5),ω,trivial⟩,θ⟩
 ·refine aW (ae (ae ?_));obtain rfl:k=z.Groups.length:=by omega
  rw [List.take_length] at H9;refine am (sF aP Z cI (sLd bB (H9.box 0 Z) Z (sV Z (aO bB Z) (sM Z Z (aa (au ?_))))));have H22:=H9.nilW (α:=Tape)
  try dsimp only[lNA,lCA,lSZ,lSS] at H22
  refine gQ (α:=Tape) (γ:=Nat) (fun k=>z.Tapes.take k) 0 H22 5 2 11 Z Z Z Z [(2,_),(3,_),(46,_),(47,_)] ⟨Z,Z,Z,Z,trivial⟩ (fun k=>[(48,.int .i64 k)]) (fun k=>k≤z.Tapes.length∧True) (fun k=>z.Tapes.length-k) ⟨Z,trivial⟩ ⟨ω,trivial⟩ (fun k vA3 fA3 w20 H21 ⟨hk,_⟩=>?_);dsimp only[lCA,lNA,lSZ,lSS] at H21 ⊢;refine ac (sV Z (bg Z Z) (aa (ae (az Z (fun c3=>?_) (fun c3=>?_)))))
  ·refine ar (ae (au (ae ?_)));have htk:gK (z.Tapes.getD k default)≤1048576:=(fc ht0 k ω).1;unfold gK at htk;have tlt:=List.length_take (i:=k) (l:=z.Tapes);obtain ⟨eb3,eo4,es2,ef3,ee3,ec3,eO3,eH3,em2⟩:=bC (H21.seen 2 Z) k ω;obtain ⟨ea3,ek3,eg2,rfl,eq2,eK2,eo5⟩:=cL eO3;have eP3:=H21.look1 2 Z eo5 (fun b hb=>eH3 b (by rw [eq2]; simp [hb]));have eL2:=oL eo5;refine am (sV Z (aA bB bX Z Z ee3 k ω ω) (sV Z (aj bT Z bX Z Z ec3) (bM ah Z zeroValue123 eP3 (fun b8 w21 e16 g8 H23=>aR ah bX Z Z Z Z H23 6 Z Z (fun w22 e17 H24=>?_)))));dsimp only[lNA,lCA,lSZ,lSS,aF] at H24;refine aa (bx (S:=Ext (· ∈ fA3) _) (oQ [1,3,5,7,9,11,12,15,16,18,21,22]) κ κ κ Z (fun _=>Ext.refl.drawn _) (fun q4=>?_));have H25:=H24.drawn q4;refine dV Z Z (fun zw hx=>ab aP Z cI Z Z) (dV Z Z (fun zw hx=>ag bB Z Z (al (hx.heapM (H25.boff 2 Z 5 Z Z) (H25.box 2 Z)) Z)) (dV Z Z (fun zw hx=>ab bT Z ts4 Z Z) (dV Z Z (fun zw hx=>ag tu4 Z Z (al (hx.heapM (H25.boff 6 Z 5 Z Z) (H25.box 6 Z)) Z)) (dV Z Z (fun zw hx=>ab bT Z dd Z Z) (dV Z Z (fun zw hx=>ag aU Z Z (al (hx.heapM (H25.boff 6 Z 5 Z Z) (H25.box 6 Z)) Z)) (dC func82 i9 Z (kW (H25.sees 3 Z) ξ) (fun v5 w23 r3=>?_)))))));obtain ⟨e18,r3⟩:=r3;obtain ⟨fp5,H26⟩:=H25.res e18 r3;obtain ⟨a4,k4,q5⟩:=aw (H26.mine 7 Z);cases q5;refine dV Z Z (fun zw hx=>bh lA Z Z) (dy Z ah Z bB gc Z Z Z Z H26 (fun _ h e=>h.trans e.no) (fun b9 w24 e19 g9 H27=>?_));have H28:=H27.asSt 7 ((z.Tapes.getD k default):Tape) Z (Tape.own_mk (x:=(z.Tapes.getD k default)) η (H27.mine 7 Z))
   try dsimp only[lNA,lCA,lSZ,lSS] at H28
   refine jZ Z ah Z bB gc Z Z Z H28 5 8 7 Z Z Z Z (by unfold maxLen; omega) ω (fun _ h e=>h.trans e) (fun v6 w25 fp6 H29=>dV Z Z (fun zw hx=>ab aP Z cI Z Z) ?_);obtain ⟨a5,k5,q6⟩:=aw (H29.mine 5 Z);cases q6;refine bJ Z ah cI Z Z Z H29 2 Z Z (fun _ _ _ hr=>absurd Z hr) (fun w26 e20 H30=>?_);dsimp only[lNA,lCA,lSZ,lSS,aF] at H30;refine aT (am (sV Z (aE Z Z iO) (sM Z Z (aa ?_))));exact ⟨(k+1,_,_),⟨Z,Z,Z,Z,Z,trivial⟩,⟨by dsimp only; rw [← cG (xs:=z.Tapes) (d:=default) ω]; exact ((H30.ftake 3).dtake 6),ω,trivial⟩,θ⟩
  ·refine aW (ae ?_);obtain rfl:k=z.Tapes.length:=by omega
   rw [List.take_length] at H21;refine am (sV Z (aj aP Z bP Z Z (At.whole (H21.box 2 Z))) ?_);obtain ⟨a6,k6,q7⟩:=aw (H21.mine 4 Z);cases q7;obtain ⟨a7,k7,q8⟩:=aw (H21.mine 5 Z);cases q8;refine aR ah bP Z Z Z Z H21 1 Z Z (fun w27 e21 H31=>?_);dsimp only[lNA,lCA,lSZ,lSS,aF] at H31;refine aa (br (hQ _ _ (cg results49 Z (ay aP Z bP Z (At.whole (H31.box 1 Z))) ?_)));exact ⟨H31.ext,_,_,_,_,_,_,Z,Wld.out ((H31.sub (.cons _ (.cons _ (.cons _ (.cons_cons _ (.cons_cons _ (.cons_cons _ List.Sublist.slnil))))))).perm (.swap _ _ _)) η⟩
theorem jb {w:World}{z:Wld}{zA9 zA10 zA11:Option Addr}{zC9 zC10 zC11:Nat}(zK:z.Ok) (zS9:Sees w [.slice zA9 z.Groups.length zC9] z.Groups) (zS10:Sees w [.slice zA10 z.On.length zC10] z.On) (zS11:Sees w [.slice zA11 z.Tapes.length zC11] z.Tapes) (hb:df z≤1048576):Ret Tryz.prog 41 #[z.val zA9 zC9 zA10 zC10 zA11 zC11] w fun v w'=>Ext No w w'∧(∃ A9 C9 A10 C10 A11 C11,v=z.val A9 C9 A10 C10 A11 C11∧Res w w' [.int .i64 z.Shape.Groups,.int .i64 z.Shape.Column,.int .i64 z.Shape.Data,.int .i64 z.Shape.Spare,.int .i64 z.Shape.Rows,.int .i64 z.Shape.Cap,.int .i64 z.Shape.Batch,.int .i64 z.Shape.Queue,.int .i64 z.Shape.Stage,.slice A9 z.Groups.length C9,.slice A10 z.On.length C10,.slice A11 z.Tapes.length C11,.int .i64 z.Writes,.int .i64 z.Stop,.bool z.Down] z):=by
 have zK2:=zK;unfold Wld.Ok Shape.Ok at zK2
 try unfold I64ok at zK2
 try unfold maxLen at zK2
 have zL9:=sL zS9;obtain ⟨zF9,zO9⟩:=zS9;have zL10:=sL zS10;obtain ⟨zF10,zO10⟩:=zS10;have zL11:=sL zS11;obtain ⟨zF11,zO11⟩:=zS11;have hcu:df z=szL (szL et) z.Groups+z.On.length+szL gK z.Tapes:=Z;have hg0:szL (szL et) z.Groups≤1048576:=by omega
 have ht0:szL gK z.Tapes≤1048576:=by omega
 have hgl:z.Groups.length≤1048576:=by unfold szL at hg0; omega
 have htl:z.Tapes.length≤1048576:=by unfold szL at ht0; omega
 refine aS func41 Z ntmps41 Z (fun Q hQ hN=>?_);have H0:=Sep.start (ak zO9 (ak zO10 (ak zO11 aG)));refine ac (bt ah Z Z H0 (fun b1 w1 e1 g1 H1=>bM ah Z zeroValue34 H1 (fun b2 w2 e2 g2 H2=>aa (ac (sV Z (aj aP Z bP Z Z (At.whole (H2.box 0 Z))) (bM ah Z zeroValue34 H2 (fun b3 w3 e3 g3 H3=>aR ah bP Z Z Z Z H3 2 Z Z (fun w4 e4 H4=>?_))))))));dsimp only[lNA,lCA,lSZ,lSS,aF] at H4;refine aa (ac (sF aP Z dB (bv ah dB Z Z Z H4 2 Z Z (fun w5 e5 H5=>?_))));dsimp only[lNA,lCA,lSZ,lSS,aF] at H5;refine aa (ae (ac (sA Z Z (aa (au ?_)))));have H7:=H5.nilW (α:=(List Drive))
 try dsimp only[lNA,lCA,lSZ,lSS] at H7
 refine gQ (α:=(List Drive)) (γ:=Nat) (fun k=>z.Groups.take k) 0 H7 3 2 9 Z Z Z Z [(1,_),(2,_),(3,_)] ⟨Z,Z,Z,trivial⟩ (fun k=>[(4,.int .i64 k)]) (fun k=>k≤z.Groups.length∧True) (fun k=>z.Groups.length-k) ⟨Z,trivial⟩ ⟨ω,trivial⟩ (fun k vA1 fA1 w6 H6 ⟨hk,_⟩=>?_);dsimp only[lCA,lNA,lSZ,lSS] at H6 ⊢;refine ae (ac (sM Z Z (sF aP Z dB (sLd cv (H6.box 0 Z) Z (sV Z (aO cv Z) (sV Z (bg Z Z) (aa (az Z (fun c1=>?_) (fun c1=>?_)))))))))
 ·refine ar (ae (au (ae ?_)));have hgk:szL et (z.Groups.getD k [])≤1048576:=(fc hg0 k ω).1;have hgkl:(z.Groups.getD k []).length≤1048576:=by unfold szL at hgk; omega
  have tlg:=List.length_take (i:=k) (l:=z.Groups);refine am (es (α:=Drive) ah Z dm dg H6 (fun b4 w7 e6 g4 H8=>sA Z Z (aa (ae (ac (sA Z Z (aa (au (fd (α:=Drive) (γ:=Nat) (fun m2=>(z.Groups.getD k []).take m2) 0 H8 4 Z 5 Z [(1,_),(2,_),(3,_),(4,_)] ⟨Z,Z,Z,Z,trivial⟩ (fun m2=>[(6,.int .i64 m2)]) (fun m2=>m2≤(z.Groups.getD k []).length∧True) (fun m2=>(z.Groups.getD k []).length-m2) ⟨Z,trivial⟩ ⟨ω,trivial⟩ (fun m2 vA2 fA2 w8 H9 ⟨hm2,_⟩=>?_))))))))));dsimp only[lCA,lNA,lSZ,lSS] at H9 ⊢;refine ae (ae ?_);obtain ⟨eb1,eo1,ea1,ek1,ef1,ee1,ec1,eO1,eH1⟩:=gp (H9.seen 0 Z) k ω;have eP1:=H9.look1 0 Z eO1 eH1;refine am (sM Z Z (sF aP Z dB (sLd cv (eP1.box 0 Z) Z (sM Z Z (sV Z (aA cv iT Z Z ee1 k ω ω) (sV Z (ag dm Z Z ec1) (sV Z (aO dm Z) (sV Z (bg Z Z) (aa (az Z (fun c2=>?_) (fun c2=>?_)))))))))))
  ·refine ar (ae (au (ae ?_)));have hdk:et ((z.Groups.getD k []).getD m2 default)≤1048576:=(fc hgk m2 ω).1;have tld:=List.length_take (i:=m2) (l:=(z.Groups.getD k []));obtain ⟨eb2,eo2,ea2,ek2,ef2,ee2,ec2,eO2,eH2⟩:=gp (eP1.seen 0 Z) k ω;have eP2:=eP1.look1 0 Z eO2 eH2;obtain ⟨eb3,eo3,es1,ef3,ee3,ec3,eO3,eH3,em1⟩:=bC (eP2.seen 4 Z) m2 ω;obtain ⟨ea3,ek3,eg1,rfl,eq1,eK1,eo4⟩:=gd eO3;have eP3:=eP2.look1 4 Z eo4 (fun b hb=>eH3 b (by rw [eq1]; simp [hb]));have eL1:=oL eo4;refine am (sF aP Z dB (sLd cv (eP3.box 0 Z) Z (sM Z Z (sV Z (aA cv iT Z Z ee2 k ω ω) (sV Z (ag dm Z Z ec2) (sM Z Z (sV Z (aA dm fJ Z Z ee3 m2 ω ω) (sF gw Z ts4 (sV Z (ag tu4 Z Z (bu ec3 0 Z)) (sV Z (bh iX Z Z) (bM ah Z zeroValue54 eP3 (fun b5 w9 e7 g5 H10=>aR ah fJ Z Z Z Z H10 5 Z Z (fun w10 e8 H11=>?_)))))))))))));dsimp only[lNA,lCA,lSZ,lSS,aF] at H11;refine aa (ae (ac (sA Z Z (aa (au ?_)))));have H13:=H11.nilW (α:=Block)
   try dsimp only[lNA,lCA,lSZ,lSS] at H13
   refine gQ (α:=Block) (γ:=Nat) (fun m3=>((z.Groups.getD k []).getD m2 default).Blocks.take m3) 0 H13 6 5 1 Z Z Z Z [(1,_),(2,_),(3,_),(4,_),(5,_),(6,_),(7,_)] ⟨Z,Z,Z,Z,Z,Z,Z,trivial⟩ (fun m3=>[(8,.int .i64 m3)]) (fun m3=>m3≤((z.Groups.getD k []).getD m2 default).Blocks.length∧True) (fun m3=>((z.Groups.getD k []).getD m2 default).Blocks.length-m3) ⟨Z,trivial⟩ ⟨ω,trivial⟩ (fun m3 vA3 fA3 w11 H12 ⟨hm3,_⟩=>?_);dsimp only[lCA,lNA,lSZ,lSS] at H12 ⊢;refine ae (ae ?_)
   skip
   obtain ⟨eb4,eo5,ea4,ek4,ef4,ee4,ec4,eO4,eH4⟩:=gp (H12.seen 0 Z) k ω;have eP4:=H12.look1 0 Z eO4 eH4;obtain ⟨eb5,eo6,es2,ef5,ee5,ec5,eO5,eH5,em2⟩:=bC (eP4.seen 6 Z) m2 ω;obtain ⟨ea5,ek5,eg2,rfl,eq2,eK2,eo7⟩:=gd eO5;have eP5:=eP4.look1 6 Z eo7 (fun b hb=>eH5 b (by rw [eq2]; simp [hb]));have eL2:=oL eo7;refine am (sM Z Z (sF aP Z dB (sLd cv (eP5.box 0 Z) Z (sM Z Z (sV Z (aA cv iT Z Z ee4 k ω ω) (sV Z (ag dm Z Z ec4) (sM Z Z (sV Z (aA dm fJ Z Z ee5 m2 ω ω) (sF gw Z jV (sV Z (ag fb Z Z (bu ec5 1 Z)) (sV Z (aO fb Z) (sV Z (bg Z Z) (aa (az Z (fun c3=>?_) (fun c3=>?_)))))))))))))))
   ·refine ar (ae (au ?_));have hbl:((z.Groups.getD k []).getD m2 default).Blocks.length≤1048576:=by unfold et szL at hdk; omega
    have hbk:mD (((z.Groups.getD k []).getD m2 default).Blocks.getD m3 default)≤1048576:=(fc (by unfold et at hdk; exact hdk) m3 ω).1;have tlb:=List.length_take (i:=m3) (l:=((z.Groups.getD k []).getD m2 default).Blocks);obtain ⟨eb6,eo8,ea6,ek6,ef6,ee6,ec6,eO6,eH6,em3⟩:=wy (eP5.seen 0 Z) k ω;have eP6:=eP5.look1 0 Z eO6 eH6;obtain ⟨eb7,eo9,es3,ef7,ee7,ec7,eO7,eH7,em4⟩:=bC (eP6.seen 8 Z) m2 ω;obtain ⟨ea7,ek7,eg3,rfl,eq3,eK3,eo10⟩:=gd eO7;have eP7:=eP6.look1 8 Z eo10 (fun b hb=>eH7 b (by rw [eq3]; simp [hb]));have eL3:=oL eo10;obtain ⟨eb8,eo11,es4,ef8,ee8,ec8,eO8,eH8,em5⟩:=bC (eP7.seen 9 Z) m3 ω;obtain ⟨ea8,ek8,eg4,rfl,eq4,eK4,eo12⟩:=jc eO8;have eK4U:=eK4;unfold Block.Ok at eK4U
    try unfold I64ok at eK4U
    try unfold maxLen at eK4U
    have eP8:=eP7.look1 9 Z eo12 (fun b hb=>eH8 b (by rw [eq4]; simp [hb]));have eL4:=oL eo12;refine bx (S:=Ext (· ∈ fA3) _) (oQ [1,3,5,7,9,11,13,15,17,19,21,23,25,27,28,30,32,35,36]) κ κ κ Z (fun _=>Ext.refl.drawn _) (fun q1=>?_);have H14:=eP8.drawn q1;refine dV Z Z (fun zw hx=>ab gw Z jV Z Z) (dV Z Z (fun zw hx=>ag fb Z Z (al (hx.heapM (H14.boff 5 Z 6 Z Z) (H14.box 5 Z)) Z)) (dV Z Z (fun zw hx=>ab aP Z dB Z Z) (dV Z Z (fun zw hx=>ag cv Z Z (al (hx.heapM (H14.boff 0 Z 6 Z Z) (H14.box 0 Z)) Z)) (dM Z Z Z (dV Z Z (fun zw hx=>aA cv iT Z Z ee6 k ω ω) (dV Z Z (fun zw hx=>ag dm Z Z (hx.cellM (H14.off 0 Z 6 Z em3) ec6)) (dM Z Z Z (dV Z Z (fun zw hx=>aA dm fJ Z Z ee7 m2 ω ω) (dV Z Z (fun zw hx=>ab gw Z jV Z Z) (dV Z Z (fun zw hx=>ag fb Z Z (bu (hx.atM (H14.off 8 Z 6 Z em4) ec7) 1 Z)) (dM Z Z Z (dV Z Z (fun zw hx=>aA fb jP Z Z ee8 m3 ω ω) (dV Z Z (fun zw hx=>aj lh Z jP Z Z (hx.atM (H14.off 9 Z 6 Z em5) ec8)) (dC func98 vt Z (jQ η (H14.sees 10 Z) ξ) (fun v1 w12 r1=>?_)))))))))))))));obtain ⟨e9,sa1,sk1,rfl,r1⟩:=r1;obtain ⟨fp1,H15⟩:=H14.res e9 r1;refine dy Z ah Z fb gW Z Z Z Z H15 (fun _ h e=>h.trans e.no) (fun b6 w13 e10 g6 H16=>jZ Z ah Z fb gW Z Z Z H16 6 8 7 Z Z Z Z (by unfold maxLen; omega) ω (fun _ h e=>h.trans e) (fun v2 w14 fp2 H17=>dV Z Z (fun zw hx=>ab gw Z jV Z Z) ?_));obtain ⟨a1,k1,q2⟩:=aw (H17.mine 6 Z);cases q2;refine bJ Z ah jV Z Z Z H17 5 Z Z (fun _ _ _ hr=>absurd Z hr) (fun w15 e11 H18=>?_);dsimp only[lNA,lCA,lSZ,lSS,aF] at H18;refine aT (am (sM Z Z (sV Z (aE Z Z iO) (sA Z Z (aa ?_)))));exact ⟨(m3+1,_,_),⟨Z,Z,Z,Z,Z,Z,Z,Z,trivial⟩,⟨by dsimp only; rw [← cG (xs:=((z.Groups.getD k []).getD m2 default).Blocks) (d:=default) ω]; exact ((H18.ftake 6).dtake 7),ω,trivial⟩,θ⟩
   ·refine aW ?_;obtain rfl:m3=((z.Groups.getD k []).getD m2 default).Blocks.length:=by omega
    rw [List.take_length] at eP5;refine am (sM Z Z (sV Z (aj gw Z fJ Z Z (At.whole (eP5.box 5 Z))) (dX ah Z dm dg Z Z Z Z eP5 (fun b7 w16 e12 g7 H19=>?_))));obtain ⟨a2,k2,q3⟩:=aw (H19.mine 6 Z);cases q3;have H20:=H19.asSt 6 (((z.Groups.getD k []).getD m2 default):Drive) Z (Drive.own_mk (x:=((z.Groups.getD k []).getD m2 default)) η (H19.mine 6 Z))
    try dsimp only[lNA,lCA,lSZ,lSS] at H20
    refine im ah Z dm dg Z Z Z H20 4 7 6 Z Z Z Z (by unfold maxLen; omega) ω (fun v3 w17 fp3 H21=>sA Z Z (aa (am (sM Z Z (sV Z (aE Z Z iO) (sA Z Z (aa ?_)))))));exact ⟨(m2+1,_,_),⟨Z,Z,Z,Z,Z,Z,trivial⟩,⟨by dsimp only; rw [← cG (xs:=(z.Groups.getD k [])) (d:=default) ω]; exact ((H21.ftake 3).dtake 5),ω,trivial⟩,θ⟩
  ·refine aW ?_;obtain rfl:m2=(z.Groups.getD k []).length:=by omega
   rw [List.take_length] at eP1;refine am (sF aP Z dB (sLd cv (eP1.box 2 Z) Z (sM Z Z ?_)));obtain ⟨a3,k3,q4⟩:=aw (eP1.mine 4 Z);cases q4;refine dX ah Z cv fw Z Z Z Z eP1 (fun b8 w18 e13 g8 H22=>im ah Z cv fw Z Z Z H22 3 5 4 Z Z Z Z (by unfold maxLen; omega) ω (fun v4 w19 fp4 H23=>sV Z (ab aP Z dB Z Z) ?_));obtain ⟨a4,k4,q5⟩:=aw (H23.mine 3 Z);cases q5;refine bv ah dB Z Z Z H23 2 Z Z (fun w20 e14 H24=>?_);dsimp only[lNA,lCA,lSZ,lSS,aF] at H24;refine aa (am (sM Z Z (sV Z (aE Z Z iO) (sA Z Z (aa ?_)))));exact ⟨(k+1,_,_),⟨Z,Z,Z,Z,trivial⟩,⟨by dsimp only; rw [← cG (xs:=z.Groups) (d:=[]) ω]; exact ((H24.ftake 3).dtake 4),ω,trivial⟩,θ⟩
 ·refine aW (ae ?_);obtain rfl:k=z.Groups.length:=by omega
  rw [List.take_length] at H6;refine am (es (α:=Int) ah Z bd ba H6 (fun b9 w21 e15 g9 H25=>sF aP Z bI (sLd bd (H25.box 0 Z) Z (kb ah Z bd ba Z Z Z H25 4 Z (H25.seen 1 Z) (by (try simp only [List.length_nil]); unfold maxLen; omega) (by (try simp only [List.length_nil]); omega) (fun v5 w22 fp5 H26=>sV Z (ab aP Z bI Z Z) ?_)))));obtain ⟨a5,k5,q6⟩:=aw (H26.mine 4 Z);cases q6;refine bv ah bI Z Z Z H26 2 Z Z (fun w23 e16 H27=>?_);dsimp only[lNA,lCA,lSZ,lSS,aF] at H27;refine aa (ac (sF aP Z cI (bv ah cI Z Z Z H27 2 Z Z (fun w24 e17 H28=>?_))));dsimp only[lNA,lCA,lSZ,lSS,aF] at H28;refine aa (ae (ac (sA Z Z (aa (au ?_)))));have H30:=H28.nilW (α:=Tape)
  try dsimp only[lNA,lCA,lSZ,lSS] at H30
  refine gQ (α:=Tape) (γ:=Nat) (fun k=>z.Tapes.take k) 0 H30 5 2 11 Z Z Z Z [(1,_),(2,_),(3,_)] ⟨Z,Z,Z,trivial⟩ (fun k=>[(9,.int .i64 k)]) (fun k=>k≤z.Tapes.length∧True) (fun k=>z.Tapes.length-k) ⟨Z,trivial⟩ ⟨ω,trivial⟩ (fun k vA4 fA4 w25 H29 ⟨hk,_⟩=>?_);dsimp only[lCA,lNA,lSZ,lSS] at H29 ⊢;refine ae (ac (sM Z Z (sF aP Z cI (sLd bB (H29.box 0 Z) Z (sV Z (aO bB Z) (sV Z (bg Z Z) (aa (az Z (fun c4=>?_) (fun c4=>?_)))))))))
  ·refine ar (ae (au ?_));have htk:gK (z.Tapes.getD k default)≤1048576:=(fc ht0 k ω).1;unfold gK at htk;have tlt:=List.length_take (i:=k) (l:=z.Tapes);obtain ⟨eb9,eo13,es5,ef9,ee9,ec9,eO9,eH9,em6⟩:=bC (H29.seen 2 Z) k ω;obtain ⟨ea9,ek9,eg5,rfl,eq5,eK5,eo14⟩:=cL eO9;have eP9:=H29.look1 2 Z eo14 (fun b hb=>eH9 b (by rw [eq5]; simp [hb]));have eL5:=oL eo14;refine bx (S:=Ext (· ∈ fA4) _) (oQ [1,3,5,7,9,11,13,15,17,19,21,23,25,27,28,31,32,34,37,38]) κ κ κ Z (fun _=>Ext.refl.drawn _) (fun q7=>?_);have H31:=eP9.drawn q7;refine dV Z Z (fun zw hx=>ab aP Z cI Z Z) (dV Z Z (fun zw hx=>ag bB Z Z (al (hx.heapM (H31.boff 2 Z 5 Z Z) (H31.box 2 Z)) Z)) (dV Z Z (fun zw hx=>ab aP Z cI Z Z) (dV Z Z (fun zw hx=>ag bB Z Z (al (hx.heapM (H31.boff 0 Z 5 Z Z) (H31.box 0 Z)) Z)) (dM Z Z Z (dV Z Z (fun zw hx=>aA bB bX Z Z ee9 k ω ω) (dV Z Z (fun zw hx=>ab bT Z ts4 Z Z) (dV Z Z (fun zw hx=>ag tu4 Z Z (bu (hx.atM (H31.off 2 Z 5 Z em6) ec9) 0 Z)) (dV Z Z (fun zw hx=>ab aP Z cI Z Z) (dV Z Z (fun zw hx=>ag bB Z Z (al (hx.heapM (H31.boff 0 Z 5 Z Z) (H31.box 0 Z)) Z)) (dM Z Z Z (dV Z Z (fun zw hx=>aA bB bX Z Z ee9 k ω ω) (dV Z Z (fun zw hx=>ab bT Z dd Z Z) (dV Z Z (fun zw hx=>ag aU Z Z (bu (hx.atM (H31.off 2 Z 5 Z em6) ec9) 1 Z)) (dC func99 wt Z (ki (H31.sees 3 Z) ξ) (fun v6 w26 r2=>?_)))))))))))))));obtain ⟨e18,r2⟩:=r2;obtain ⟨fp6,H32⟩:=H31.res e18 r2;obtain ⟨a6,k6,q8⟩:=aw (H32.mine 6 Z);cases q8;refine dV Z Z (fun zw hx=>bh lA Z Z) (dy Z ah Z bB gc Z Z Z Z H32 (fun _ h e=>h.trans e.no) (fun b10 w27 e19 g10 H33=>?_));have H34:=H33.asSt 6 ((z.Tapes.getD k default):Tape) Z (Tape.own_mk (x:=(z.Tapes.getD k default)) η (H33.mine 6 Z))
   try dsimp only[lNA,lCA,lSZ,lSS] at H34
   refine jZ Z ah Z bB gc Z Z Z H34 5 7 6 Z Z Z Z (by unfold maxLen; omega) ω (fun _ h e=>h.trans e) (fun v7 w28 fp7 H35=>dV Z Z (fun zw hx=>ab aP Z cI Z Z) ?_);obtain ⟨a7,k7,q9⟩:=aw (H35.mine 5 Z);cases q9;refine bJ Z ah cI Z Z Z H35 2 Z Z (fun _ _ _ hr=>absurd Z hr) (fun w29 e20 H36=>?_);dsimp only[lNA,lCA,lSZ,lSS,aF] at H36;refine aT (am (sM Z Z (sV Z (aE Z Z iO) (sA Z Z (aa ?_)))));exact ⟨(k+1,_,_),⟨Z,Z,Z,Z,trivial⟩,⟨by dsimp only; rw [← cG (xs:=z.Tapes) (d:=default) ω]; exact ((H36.ftake 3).dtake 6),ω,trivial⟩,θ⟩
  ·refine aW (ae ?_);obtain rfl:k=z.Tapes.length:=by omega
   rw [List.take_length] at H29;refine am (sV Z (aj aP Z bP Z Z (At.whole (H29.box 2 Z))) ?_);obtain ⟨a8,k8,q10⟩:=aw (H29.mine 3 Z);cases q10;obtain ⟨a9,k9,q11⟩:=aw (H29.mine 5 Z);cases q11;refine aR ah bP Z Z Z Z H29 1 Z Z (fun w30 e21 H37=>?_);dsimp only[lNA,lCA,lSZ,lSS,aF] at H37;refine aa (br (hQ _ _ (cg results41 Z (ay aP Z bP Z (At.whole (H37.box 1 Z))) ?_)));exact ⟨H37.ext,_,_,_,_,_,_,Z,Wld.out (H37.sub (.cons _ (.cons _ (.cons _ (.cons_cons _ (.cons_cons _ (.cons_cons _ List.Sublist.slnil))))))) η⟩
end Go.Wk
namespace Go.Wk
open Go.Proofs Rp Go.Proofs.Tryz
set_option maxRecDepth 10000
theorem ld {w:World}{z:Wld}{zb:Nat}{fp:List Nat}(o:OwnW w zb 34 z fp) (nd:fp.Nodup):Ret Tryz.prog 246 #[.pointer (some ⟨zb,0,none⟩)] w fun v w'=>(MutW w w' fp zb 34 (uf z)):=by
 refine aS func246 Z ntmps246 Z (fun Q hQ hN=>?_);have H0:=Sep.beginW o nd;obtain ⟨wA1,wC1,wA2,wC2,wA3,wC3,wf1,wf2,wf3,wok1,H1⟩:=H0.openW 0 Z
 try dsimp only[lNA,lCA,lSZ,lSS] at H1
 have wok1U:=wok1;unfold Wld.Ok Shape.Ok I64ok at wok1U;have wL1:=oL (H1.mine 2 Z);have wL2:=oL (H1.mine 3 Z);have wL3:=oL (H1.mine 4 Z);refine am (sR 3 Z (sF aP Z ts4 (bv ah ts4 Z Z Z H1 0 Z Z (fun w1 e1 H2=>?_))));dsimp only[lNA,lCA,lSZ,lSS,aF] at H2;refine sV Z (d9 Z) (sF aP Z bI (bv ah bI Z Z Z H2 0 Z Z (fun w2 e2 H3=>?_)));dsimp only[lNA,lCA,lSZ,lSS,aF] at H3;refine aa (hN _ _ (ks results246 ?_));have H4:=H3.nilW (α:=Int)
 try dsimp only[lNA,lCA,lSZ,lSS] at H4
 obtain ⟨fp1,H5⟩:=H4.closeW 0 2 5 4 (uf z) Z Z Z Z Z Z Z Z Z Z (uX wok1)
 try dsimp only[lNA,lCA,lSZ,lSS] at H5
 have hz:=H5.doneW;exact hz
theorem kZ {w:World}{z y:Wld}{zb:Nat}{fp:List Nat}{dof:FuncId}{doL:List Value}{doF:Func}(o:OwnW w zb 34 z fp) (nd:fp.Nodup) (doH:Tryz.prog.funcs[dof]? = some doF) (doB:doF.body.isNone=false) (doN:NG doF) (doC:∀ w1 fp1,OwnW w1 zb 34 z fp1→fp1.Nodup→(∀ x∈fp1,x∈fp∨w.heap.size≤x)→Ext (· ∈ fp) w w1→Ret Tryz.prog dof doL.toArray w1 fun v w'=>MutW w1 w' fp1 zb 34 y) (hy:y.Writes≤2000000000):Ret Tryz.prog 191 #[.pointer (some ⟨zb,0,none⟩),.func (.func dof) #[] doL.toArray] w fun v w'=>(v = .bool (!ci z)∧MutW w w' fp zb 34 (sI z y)):=by
 refine aS func191 Z ntmps191 Z (fun Q hQ hN=>?_);have H0:=Sep.beginW o nd;refine ac (sA Z Z (aa (ae (ae ?_))));obtain ⟨wA1,wC1,wA2,wC2,wA3,wC3,wf1,wf2,wf3,wok1,H1⟩:=H0.openW 0 Z
 try dsimp only[lNA,lCA,lSZ,lSS] at H1
 have wok1U:=wok1;unfold Wld.Ok Shape.Ok I64ok at wok1U;have wL1:=oL (H1.mine 2 Z);have wL2:=oL (H1.mine 3 Z);have wL3:=oL (H1.mine 4 Z);refine bx (S:=Ext No _) (oQ [1,3,5,7,9,11,13,15,17,19,21,23,25,27,29,30]) κ κ κ Z (fun _=>Ext.refl.drawn _) (fun q1=>?_);have H2:=H1.drawn q1;refine dR 2 Z (dV Z Z (fun zw hx=>ab aP Z ts2 Z Z) (dV Z Z (fun zw hx=>ag tu2 Z Z (al (hx.heap (H2.box 0 Z)) Z)) (dR 2 Z (bZ (t:=10) Z (fun hg1=>?_) (fun hg1=>?_)))))
 ·try simp only [decide_eq_true_eq,decide_eq_false_iff_not] at hg1
  refine aC Z (wg Z Z Z) Z Z (fun zw hx=>aN Z) (aC Z (wg Z Z Z) Z Z (fun zw hx=>d9 Z) (aC Z (wg Z Z Z) Z Z (fun zw hx=>ab aP Z ts2 Z Z) (aC Z (wg Z Z Z) Z Z (fun zw hx=>ag tu2 Z Z (al (hx.heap (H2.box 0 Z)) Z)) (aC Z (wg Z Z Z) Z Z (fun zw hx=>aN Z) (aC Z (wg Z Z Z) Z Z (fun zw hx=>d9 Z) (aC Z (wg Z Z Z) Z Z (fun zw hx=>ab aP Z ts2 Z Z) (aC Z (wg Z Z Z) Z Z (fun zw hx=>ag tu2 Z Z (al (hx.heap (H2.box 0 Z)) Z)) (aC Z (wg Z Z Z) Z Z (fun zw hx=>lF Z Z) (aV Z ah Z Z (aD Z Z) (aT (az Z (fun c1=>?_) (fun c1=>?_))))))))))))
  ·refine ae ?_;have hnp:ci z=true:=nC ω ω;refine am (sM Z Z ?_);obtain ⟨fp1,H3⟩:=H2.closeW 0 2 3 4 z Z Z Z Z Z Z Z Z Z Z wok1
   try dsimp only[lNA,lCA,lSZ,lSS] at H3
   refine sC func246 t5 Z (ld (H3.wldAt 0 Z) (H3.nodup1 (i:=0) Z)) (fun v1 w1 r1=>?_);have mm1:=r1;obtain ⟨fp2,H4⟩:=H3.mutW 0 Z mm1
   try dsimp only[lNA,lCA,lSZ,lSS] at H4
   refine aa (ac (rA hQ results191 Z ?_));have hz:=H4.doneW;rw [← nP (y:=y) hnp] at hz;exact ⟨(by rw [hnp]; rfl),hz⟩
  ·refine ar (ae ?_);have hnp:ci z=false:=jk (.inr ω);refine am (sM Z Z ?_);obtain ⟨fp3,H5⟩:=H2.closeW 0 2 3 4 z Z Z Z Z Z Z Z Z Z Z wok1
   try dsimp only[lNA,lCA,lSZ,lSS] at H5
   refine cW ah Z Z (ez (lb:=doL) Z doH doB doN Z) (doC _ _ (H5.wldAt 0 Z) (H5.nodup1 (i:=0) Z) (fun x hx=>H5.new x (H5.inB 0 Z hx)) H5.ext) (fun v2 w2 r2=>?_);obtain ⟨fp4,H6⟩:=H5.mutW 0 Z r2
   try dsimp only[lNA,lCA,lSZ,lSS] at H6
   refine aa (ae ?_);obtain ⟨wA4,wC4,wA5,wC5,wA6,wC6,wf4,wf5,wf6,wok2,H7⟩:=H6.openW 0 Z
   try dsimp only[lNA,lCA,lSZ,lSS] at H7
   have wok2U:=wok2;unfold Wld.Ok Shape.Ok I64ok at wok2U;have wL4:=oL (H7.mine 6 Z);have wL5:=oL (H7.mine 7 Z);have wL6:=oL (H7.mine 8 Z);refine am (sR 2 Z (sF aP Z ts2 (sLd tu2 (H7.box 0 Z) Z (sV Z (aE Z Z iO) (sV Z (d9 Z) (sF aP Z ts2 (bv ah ts2 Z Z Z H7 0 Z Z (fun w3 e2 H8=>?_))))))));dsimp only[lNA,lCA,lSZ,lSS,aF] at H8;refine aa (ac (rA hQ results191 Z ?_));obtain ⟨fp5,H9⟩:=H8.closeW 0 6 7 8 (kE y) Z Z Z Z Z Z Z Z Z Z (l5 wok2 hy)
   try dsimp only[lNA,lCA,lSZ,lSS] at H9
   have hz:=H9.doneW;rw [← eY hnp] at hz;exact ⟨(by rw [hnp]; rfl),hz⟩
 ·try simp only [decide_eq_true_eq,decide_eq_false_iff_not] at hg1
  refine dR 9 Z (aV Z ah Z Z (aH Z Z) (aT (eK Z (ar (ae ?_)))));have hnp:ci z=false:=jk (.inl ω);refine am (sM Z Z ?_);obtain ⟨fp6,H10⟩:=H2.closeW 0 2 3 4 z Z Z Z Z Z Z Z Z Z Z wok1
  try dsimp only[lNA,lCA,lSZ,lSS] at H10
  refine cW ah Z Z (ez (lb:=doL) Z doH doB doN Z) (doC _ _ (H10.wldAt 0 Z) (H10.nodup1 (i:=0) Z) (fun x hx=>H10.new x (H10.inB 0 Z hx)) H10.ext) (fun v3 w4 r3=>?_);obtain ⟨fp7,H11⟩:=H10.mutW 0 Z r3
  try dsimp only[lNA,lCA,lSZ,lSS] at H11
  refine aa (ae ?_);obtain ⟨wA7,wC7,wA8,wC8,wA9,wC9,wf7,wf8,wf9,wok3,H12⟩:=H11.openW 0 Z
  try dsimp only[lNA,lCA,lSZ,lSS] at H12
  have wok3U:=wok3;unfold Wld.Ok Shape.Ok I64ok at wok3U;have wL7:=oL (H12.mine 6 Z);have wL8:=oL (H12.mine 7 Z);have wL9:=oL (H12.mine 8 Z);refine am (sR 2 Z (sF aP Z ts2 (sLd tu2 (H12.box 0 Z) Z (sV Z (aE Z Z iO) (sV Z (d9 Z) (sF aP Z ts2 (bv ah ts2 Z Z Z H12 0 Z Z (fun w5 e3 H13=>?_))))))));dsimp only[lNA,lCA,lSZ,lSS,aF] at H13;refine aa (ac (rA hQ results191 Z ?_));obtain ⟨fp8,H14⟩:=H13.closeW 0 6 7 8 (kE y) Z Z Z Z Z Z Z Z Z Z (l5 wok3 hy)
  try dsimp only[lNA,lCA,lSZ,lSS] at H14
  have hz:=H14.doneW;rw [← eY hnp] at hz;exact ⟨(by rw [hnp]; rfl),hz⟩
theorem gR {w:World}{z:Wld}{zb t b1 b2 b3 rC6 rC7 rC8:Nat}{fp rF6 rF7 rF8:List Nat}{r:Rec}{rA6 rA7 rA8:Option Addr}(o:OwnW w zb 34 z fp) (nd:fp.Nodup) (h1:w.heap[b1]? = some (.cells [.pointer (some ⟨zb,0,none⟩)].toArray 77)) (d1:b1 ∉ fp) (h2:w.heap[b2]? = some (.cells [.int .i64 (t:Nat)].toArray 2)) (d2:b2 ∉ fp) (h3:w.heap[b3]? = some (.cells [.int .i64 r.Kind,.int .i64 r.Seq,.string r.Name,.int .i64 r.Length,.int .i64 r.Group,.int .i64 r.Row,.slice rA6 r.Rows.length rC6,.slice rA7 r.Data.length rC7,.slice rA8 r.Delta.length rC8].toArray 47)) (d3:b3 ∉ fp) (rO6:own false w [.slice rA6 r.Rows.length rC6] r.Rows rF6) (rD6:∀ b∈rF6,b ∉ fp) (rO7:own false w [.slice rA7 r.Data.length rC7] r.Data rF7) (rD7:∀ b∈rF7,b ∉ fp) (rO8:own false w [.slice rA8 r.Delta.length rC8] r.Delta rF8) (rD8:∀ b∈rF8,b ∉ fp) (rK:r.Ok) (ht:t<z.Tapes.length) (hb:fN r≤1048576) (hl:(z.Tapes.getD t default).Recs.length≤100000):Ret Tryz.prog 192 #[.pointer (some ⟨b1,0,none⟩),.pointer (some ⟨b2,0,none⟩),.pointer (some ⟨b3,0,none⟩)] w fun v w'=>(MutW w w' fp zb 34 (lM t r z)):=by
 have rK2:=rK;unfold Rec.Ok at rK2
 try unfold I64ok at rK2
 try unfold maxLen at rK2
 have rN2:r.Name.size≤maxLen:=by unfold maxLen; omega
 have rL6:=oL rO6;have rL7:=oL rO7;have rL8:=oL rO8;refine aS func192 Z ntmps192 Z (fun Q hQ hN=>?_);have H0:=(((((((Sep.beginW o nd).boxF h1 d1).boxF h2 d2).boxF h3 d3).seeF rO6 rD6).seeF rO7 rD7).seeF rO8 rD8)
 try dsimp only[lNA,lCA,lSZ,lSS] at H0
 refine ae ?_;obtain ⟨wA1,wC1,wA2,wC2,wA3,wC3,wf1,wf2,wf3,wok1,H1⟩:=H0.openW 0 Z
 try dsimp only[lNA,lCA,lSZ,lSS] at H1
 have wok1U:=wok1;unfold Wld.Ok Shape.Ok I64ok at wok1U;have wL1:=oL (H1.mine 2 Z);have wL2:=oL (H1.mine 3 Z);have wL3:=oL (H1.mine 4 Z);obtain ⟨eb1,eo1,eT1,eF1,eG1,ea1,ek1,eg1,ee1,eK1,eH1⟩:=Tape.focus H1 4 Z t ω;have eK1U:=eK1;unfold Tape.Ok at eK1U
 try unfold I64ok at eK1U
 try unfold maxLen at eK1U
 try dsimp only[lNA,lCA,lSZ,lSS] at eH1
 refine bx (S:=Ext No _) (oQ [1,3,5,7,9,11,12]) κ κ κ Z (fun _=>Ext.refl.drawn _) (fun q1=>?_);have H2:=eH1.drawn q1;refine dV Z Z (fun zw hx=>ag yj Z Z (al (hx.heap (H2.fbox 0 Z)) Z)) (dV Z Z (fun zw hx=>d9 Z) (dV Z Z (fun zw hx=>ab aP Z cI Z Z) (dV Z Z (fun zw hx=>ag bB Z Z (al (hx.heap (H2.box 0 Z)) Z)) (dV Z Z (fun zw hx=>ag tu2 Z Z (al (hx.heap (H2.fbox 1 Z)) Z)) (dV Z Z (fun zw hx=>aA bB bX Z Z ee1 t ω ω) (aV Z ah Z Z (bw Z) (aT (bx (S:=H2.S2 4 6) (oQ [1,3,5,7,9,13,2020,10,14,16,18,21,23,24,27,29,30,14,2018,10,16,18,21,23,24,27,29,30,16,10,18,21,23,24,27,29,30]) κ κ κ Z (fun _=>show H2.S2 4 6 _ from Ext.refl.drawn _) (fun q2=>?_)))))))));have H3:=H2.drawn q2;refine dR 4 Z (dV Z Z (fun zw hx=>ab bT Z dd Z Z) (dV Z Z (fun zw hx=>aj ax Z aJ Z Z (At.whole (H2.s2FBox hx 2 Z Z Z))) (dF Z ?_ ?_)))
 ·refine aV Z ah Z Z (ag aU Z Z (bu (H3.holAt 4 Z) 1 Z)) (bD Z ah Z Z (aQ func150 Z jt Z) (dW η (H3.sees 3 Z) (H3.sees 4 Z) (H3.sees 5 Z) ξ) (fun hS _ _ r _=>H2.s2Call hS r.1) (fun v1 w1 r1=>?_));obtain ⟨e1,sa1,sk1,sa2,sk2,sa3,sk3,rfl,r1⟩:=r1;obtain ⟨fp1,H4⟩:=H3.res e1 r1;refine dy Z ah Z aU aI Z Z Z Z H4 (fun _ h e=>H2.s2Call h e) (fun b1 w2 e2 g1 H5=>jZ Z ah Z aU aI Z Z Z H5 6 8 7 Z Z Z Z (by unfold maxLen; omega) ω (fun _ h e=>H2.s2In h 6 Z (.inr Z) e (fun _ hb=>hb)) (fun v2 w3 fp2 H6=>dV Z Z (fun zw hx=>d9 Z) (dV Z Z (fun zw hx=>ab bT Z dd Z Z) ?_)));obtain ⟨a1,k1,q3⟩:=aw (H6.mine 6 Z);cases q3;refine eF Z ah dd H6 4 1 Z Z Z Z Z (fun _ h e _=>H2.s2In h 4 Z (.inl Z) e (fun _ hb=>by rw [hb]; exact List.mem_cons_self)) (fun w4 H7=>?_);dsimp only[lNA,lCA,lSZ,lSS,aF] at H7;refine dV Z Z (fun zw hx=>d9 Z) (dV Z Z (fun zw hx=>ab bT Z ts4 Z Z) (eF Z ah ts4 H7 4 0 Z Z Z Z Z (fun _ h e _=>H2.s2In h 4 Z (.inl Z) e (fun _ hb=>by rw [hb]; exact List.mem_cons_self)) (fun w5 H8=>?_)));dsimp only[lNA,lCA,lSZ,lSS,aF] at H8;refine aT (hN _ _ (ks results192 ?_));obtain ⟨fp3,H9⟩:=Tape.fill H8 4 6 Z Z Z trivial
  try dsimp only[lNA,lCA,lSZ,lSS] at H9
  obtain ⟨fp4,H10⟩:=H9.closeW 0 2 3 4 (lM t r z) Z Z Z Z Z Z Z Z Z Z (od wok1)
  try dsimp only[lNA,lCA,lSZ,lSS] at H10
  have hz:=H10.doneW;exact hz
 ·refine bD Z ah Z Z (aQ func150 Z jt Z) (dW η (H3.sees 3 Z) (H3.sees 4 Z) (H3.sees 5 Z) ξ) (fun hS _ _ r _=>H2.s2Call hS r.1) (fun v3 w6 r2=>?_);obtain ⟨e5,sa4,sk4,sa5,sk5,sa6,sk6,rfl,r2⟩:=r2;obtain ⟨fp5,H11⟩:=H3.res e5 r2;refine dF Z ?_ ?_
  ·refine aV Z ah Z Z (ag aU Z Z (bu (H11.holAt 4 Z) 1 Z)) (dy Z ah Z aU aI Z Z Z Z H11 (fun _ h e=>H2.s2Call h e) (fun b2 w7 e6 g2 H12=>jZ Z ah Z aU aI Z Z Z H12 6 8 7 Z Z Z Z (by unfold maxLen; omega) ω (fun _ h e=>H2.s2In h 6 Z (.inr Z) e (fun _ hb=>hb)) (fun v4 w8 fp6 H13=>dV Z Z (fun zw hx=>d9 Z) (dV Z Z (fun zw hx=>ab bT Z dd Z Z) ?_))));obtain ⟨a2,k2,q4⟩:=aw (H13.mine 6 Z);cases q4;refine eF Z ah dd H13 4 1 Z Z Z Z Z (fun _ h e _=>H2.s2In h 4 Z (.inl Z) e (fun _ hb=>by rw [hb]; exact List.mem_cons_self)) (fun w9 H14=>?_);dsimp only[lNA,lCA,lSZ,lSS,aF] at H14;refine dV Z Z (fun zw hx=>d9 Z) (dV Z Z (fun zw hx=>ab bT Z ts4 Z Z) (eF Z ah ts4 H14 4 0 Z Z Z Z Z (fun _ h e _=>H2.s2In h 4 Z (.inl Z) e (fun _ hb=>by rw [hb]; exact List.mem_cons_self)) (fun w10 H15=>?_)));dsimp only[lNA,lCA,lSZ,lSS,aF] at H15;refine aT (hN _ _ (ks results192 ?_));obtain ⟨fp7,H16⟩:=Tape.fill H15 4 6 Z Z Z trivial
   try dsimp only[lNA,lCA,lSZ,lSS] at H16
   obtain ⟨fp8,H17⟩:=H16.closeW 0 2 3 4 (lM t r z) Z Z Z Z Z Z Z Z Z Z (od wok1)
   try dsimp only[lNA,lCA,lSZ,lSS] at H17
   have hz:=H17.doneW;exact hz
  ·refine dy Z ah Z aU aI Z Z Z Z H11 (fun _ h e=>H2.s2Call h e) (fun b3 w11 e9 g3 H18=>aV Z ah Z Z (ag aU Z Z (bu (H18.holAt 4 Z) 1 Z)) (jZ Z ah Z aU aI Z Z Z H18 6 8 7 Z Z Z Z (by unfold maxLen; omega) ω (fun _ h e=>H2.s2In h 6 Z (.inr Z) e (fun _ hb=>hb)) (fun v5 w12 fp9 H19=>dV Z Z (fun zw hx=>d9 Z) (dV Z Z (fun zw hx=>ab bT Z dd Z Z) ?_))));obtain ⟨a3,k3,q5⟩:=aw (H19.mine 6 Z);cases q5;refine eF Z ah dd H19 4 1 Z Z Z Z Z (fun _ h e _=>H2.s2In h 4 Z (.inl Z) e (fun _ hb=>by rw [hb]; exact List.mem_cons_self)) (fun w13 H20=>?_);dsimp only[lNA,lCA,lSZ,lSS,aF] at H20;refine dV Z Z (fun zw hx=>d9 Z) (dV Z Z (fun zw hx=>ab bT Z ts4 Z Z) (eF Z ah ts4 H20 4 0 Z Z Z Z Z (fun _ h e _=>H2.s2In h 4 Z (.inl Z) e (fun _ hb=>by rw [hb]; exact List.mem_cons_self)) (fun w14 H21=>?_)));dsimp only[lNA,lCA,lSZ,lSS,aF] at H21;refine aT (hN _ _ (ks results192 ?_));obtain ⟨fp10,H22⟩:=Tape.fill H21 4 6 Z Z Z trivial
   try dsimp only[lNA,lCA,lSZ,lSS] at H22
   obtain ⟨fp11,H23⟩:=H22.closeW 0 2 3 4 (lM t r z) Z Z Z Z Z Z Z Z Z Z (od wok1)
   try dsimp only[lNA,lCA,lSZ,lSS] at H23
   have hz:=H23.doneW;exact hz
theorem iq {w:World}{z:Wld}{zb t rC6 rC7 rC8:Nat}{fp rF6 rF7 rF8:List Nat}{r:Rec}{rA6 rA7 rA8:Option Addr}(o:OwnW w zb 34 z fp) (nd:fp.Nodup) (rK:r.Ok) (rO6:own false w [.slice rA6 r.Rows.length rC6] r.Rows rF6) (rD6:∀ b∈rF6,b ∉ fp) (rO7:own false w [.slice rA7 r.Data.length rC7] r.Data rF7) (rD7:∀ b∈rF7,b ∉ fp) (rO8:own false w [.slice rA8 r.Delta.length rC8] r.Delta rF8) (rD8:∀ b∈rF8,b ∉ fp) (ht:t<z.Tapes.length) (hb:fN r≤1048576) (hl:(z.Tapes.getD t default).Recs.length≤100000) (hw:z.Writes≤2000000000):Ret Tryz.prog 106 #[.pointer (some ⟨zb,0,none⟩),.int .i64 t,r.val rA6 rC6 rA7 rC7 rA8 rC8] w fun v w'=>(v = .bool (!ci z)∧MutW w w' fp zb 34 (fT t r z)):=by
 have rK2:=rK;unfold Rec.Ok at rK2
 try unfold I64ok at rK2
 try unfold maxLen at rK2
 have rN2:r.Name.size≤maxLen:=by unfold maxLen; omega
 have rL6:=oL rO6;have rL7:=oL rO7;have rL8:=oL rO8;refine aS func106 Z ntmps106 Z (fun Q hQ hN=>?_);have H0:=(((Sep.beginW o nd).seeF (rO6) rD6).seeF (rO7) rD7).seeF (rO8) rD8
 try dsimp only[lNA,lCA,lSZ,lSS] at H0
 refine ac (bt ah Z Z H0 (fun b1 w1 e1 g1 H1=>bt ah Z Z H1 (fun b2 w2 e2 g2 H2=>bt ah Z Z H2 (fun b3 w3 e3 g3 H3=>sA Z Z (aa (ac (sLd yj (H3.box 1 Z) Z (sV Z (nT Z) (sC func191 ut Z (kZ (H3.wldAt 0 Z) (H3.nodup1 (i:=0) Z) (y:=lM t r z) func192 Z t3 (fun w1 fp1 o1 n1 s1 e1=>gR o1 n1 (H3.boxFar 0 1 Z Z Z s1 e1).1 (H3.boxFar 0 1 Z Z Z s1 e1).2 (H3.boxFar 0 2 Z Z Z s1 e1).1 (H3.boxFar 0 2 Z Z Z s1 e1).2 (H3.boxFar 0 3 Z Z Z s1 e1).1 (H3.boxFar 0 3 Z Z Z s1 e1).2 (H3.seeFar 0 0 Z Z s1 e1).1 (H3.seeFar 0 0 Z Z s1 e1).2 (H3.seeFar 0 1 Z Z s1 e1).1 (H3.seeFar 0 1 Z Z s1 e1).2 (H3.seeFar 0 2 Z Z s1 e1).1 (H3.seeFar 0 2 Z Z s1 e1).2 rK ht hb hl) ξ) (fun v1 w4 r1=>?_))))))))));obtain ⟨rfl,mm1⟩:=r1;obtain ⟨fp1,H4⟩:=H3.mutW 0 Z mm1
 try dsimp only[lNA,lCA,lSZ,lSS] at H4
 refine rA hQ results106 Z ?_;exact ⟨Z,H4.doneW⟩
theorem kw {w:World}{x:Wld}{xA9 xA10 xA11:Option Addr}{xC9 xC10 xC11:Nat}{c:Int}(xK:x.Ok) (xS9:Sees w [.slice xA9 x.Groups.length xC9] x.Groups) (xS10:Sees w [.slice xA10 x.On.length xC10] x.On) (xS11:Sees w [.slice xA11 x.Tapes.length xC11] x.Tapes) (hc:c≠0∧c≠9):Ret Tryz.prog 51 #[x.val xA9 xC9 xA10 xC10 xA11 xC11,.int .i64 c] w fun v w'=>Ext No w w'∧(v=(⟨c,noWld⟩:WldResult).val none 0 none 0 none 0):=by
 have xK2:=xK;unfold Wld.Ok Shape.Ok at xK2
 try unfold I64ok at xK2
 try unfold maxLen at xK2
 have xL9:=sL xS9;obtain ⟨xF9,xO9⟩:=xS9;have xL10:=sL xS10;obtain ⟨xF10,xO10⟩:=xS10;have xL11:=sL xS11;obtain ⟨xF11,xO11⟩:=xS11;refine aS func51 Z ntmps51 Z (fun Q hQ hN=>?_);have H0:=Sep.start (ak xO9 (ak xO10 (ak xO11 aG)));refine ac (bt ah Z Z H0 (fun b1 w1 e1 g1 H1=>bM ah Z zeroValue36 H1 (fun b2 w2 e2 g2 H2=>aa (ae (ac (sR 3 Z (co (t:=7) Z (fun hg1=>?_) (fun hg1=>?_))))))))
 ·try simp only [decide_eq_true_eq,decide_eq_false_iff_not] at hg1
  refine an (wg Z Z Z) Z Z (aN Z) (an (wg Z Z Z) Z Z (cn Z Z) (sV Z (aD Z Z) (aa (az Z (fun c1=>?_) (fun c1=>?_)))))
  ·refine ac (sM Z Z (sV Z (bh dq Z Z) (aR ah eE Z Z Z Z H2 1 Z Z (fun w3 e3 H3=>?_))));dsimp only[lNA,lCA,lSZ,lSS,aF] at H3;refine aa (br (hQ _ _ (cg results51 Z (ay gI Z eE Z (At.whole (H3.box 1 Z))) ?_)));exact ⟨H3.ext,Z⟩
  ·exfalso; simp_all
 ·exfalso; simp_all
theorem jO {w:World}{x:Wld}{xA9 xA10 xA11:Option Addr}{xC9 xC10 xC11:Nat}{c:Int}(xK:x.Ok) (xS9:Sees w [.slice xA9 x.Groups.length xC9] x.Groups) (xS10:Sees w [.slice xA10 x.On.length xC10] x.On) (xS11:Sees w [.slice xA11 x.Tapes.length xC11] x.Tapes) (hc:c=0∨c=9):Ret Tryz.prog 51 #[x.val xA9 xC9 xA10 xC10 xA11 xC11,.int .i64 c] w fun v w'=>Ext No w w'∧(v=(⟨c,x⟩:WldResult).val xA9 xC9 xA10 xC10 xA11 xC11):=by
 have xK2:=xK;unfold Wld.Ok Shape.Ok at xK2
 try unfold I64ok at xK2
 try unfold maxLen at xK2
 have xL9:=sL xS9;obtain ⟨xF9,xO9⟩:=xS9;have xL10:=sL xS10;obtain ⟨xF10,xO10⟩:=xS10;have xL11:=sL xS11;obtain ⟨xF11,xO11⟩:=xS11;refine aS func51 Z ntmps51 Z (fun Q hQ hN=>?_);have H0:=Sep.start (ak xO9 (ak xO10 (ak xO11 aG)));refine ac (bt ah Z Z H0 (fun b1 w1 e1 g1 H1=>bM ah Z zeroValue36 H1 (fun b2 w2 e2 g2 H2=>aa (ae (ac (sR 3 Z (co (t:=7) Z (fun hg1=>?_) (fun hg1=>?_))))))))
 ·try simp only [decide_eq_true_eq,decide_eq_false_iff_not] at hg1
  refine an (wg Z Z Z) Z Z (aN Z) (an (wg Z Z Z) Z Z (cn Z Z) (sV Z (aD Z Z) (aa (az Z (fun c1=>?_) (fun c1=>?_)))))
  ·exfalso; simp_all
  ·refine ar (ac (sM Z Z (sV Z (aj aP Z bP Z Z (At.whole (H2.box 0 Z))) (sV Z (bh dq Z Z) (aR ah eE Z Z Z Z H2 1 Z Z (fun w3 e3 H3=>?_))))));dsimp only[lNA,lCA,lSZ,lSS,aF] at H3;refine aa (br (hQ _ _ (cg results51 Z (ay gI Z eE Z (At.whole (H3.box 1 Z))) ?_)));exact ⟨H3.ext,Z⟩
 ·try simp only [decide_eq_true_eq,decide_eq_false_iff_not] at hg1
  refine sR 2 Z (sV Z (aH Z Z) (aa (eK Z (ar (ac (sM Z Z (sV Z (aj aP Z bP Z Z (At.whole (H2.box 0 Z))) (sV Z (bh dq Z Z) (aR ah eE Z Z Z Z H2 1 Z Z (fun w4 e4 H4=>?_))))))))));dsimp only[lNA,lCA,lSZ,lSS,aF] at H4;refine aa (br (hQ _ _ (cg results51 Z (ay gI Z eE Z (At.whole (H4.box 1 Z))) ?_)));exact ⟨H4.ext,Z⟩
end Go.Wk
namespace Go.Wk
open Rp (sz own)
structure RecV where
  r:Rec
  A6:Option Addr
  C6:Nat
  A7:Option Addr
  C7:Nat
  A8:Option Addr
  C8:Nat
def RecV.cs (v:RecV):List Value:=[.int .i64 v.r.Kind,.int .i64 v.r.Seq,.string v.r.Name,.int .i64 v.r.Length,.int .i64 v.r.Group,.int .i64 v.r.Row,.slice v.A6 v.r.Rows.length v.C6,.slice v.A7 v.r.Data.length v.C7,.slice v.A8 v.r.Delta.length v.C8]
instance:Inhabited RecV:=⟨⟨default,none,0,none,0,none,0⟩⟩
theorem RecV.one {v:RecV}:∀ x∈v.cs,x.oneCell'=true:=by
  intro x hx
  simp only [RecV.cs,List.mem_cons,List.not_mem_nil,or_false] at hx
  rcases hx with rfl | rfl | rfl | rfl | rfl | rfl | rfl | rfl | rfl<;>rfl
instance:Rp RecV where
  sz:=9
  pos:=by decide
  own _ _ cs v fp:=cs=v.cs∧fp=[]∧v.r.Ok
  len h:=by rw [h.1]; rfl
  one h v hv:=by rw [h.1] at hv; exact RecV.one v hv
  st h _:=h
  lt h b hb:=by rw [h.2.1] at hb; simp at hb
  weak h:=h
def fj (w:World):List RecV→List Nat→Prop
  | [],f=>f=[]
  | v::vs,f=>∃ f1 f2,f=f1++f2∧own true w v.cs v.r f1∧fj w vs f2
theorem fj.st {w w':World}:∀ {vs f},fj w vs f→(∀ b∈f,w'.heap[b]? = w.heap[b]?)→fj w' vs f
  | [],_,h,_=>h
  | v::vs,f,⟨f1,f2,e,h1,h2⟩,k=>by
    subst e
    exact ⟨f1,f2,rfl,Rp.st h1 fun b hb=>k b (by simp [hb]),fj.st h2 fun b hb=>k b (by simp [hb])⟩
theorem fj.lt {w:World}:∀ {vs f},fj w vs f→∀ b∈f,b<w.heap.size
  | [],f,h,b,hb=>by rw [show f=[] from h] at hb; simp at hb
  | v::vs,f,⟨f1,f2,e,h1,h2⟩,b,hb=>by
    subst e
    rcases List.mem_append.1 hb with hb | hb
    · exact Rp.lt h1 b hb
    · exact fj.lt h2 b hb
theorem rm {w:World}:∀ {rs:List Rec}{cs fp},bY true w cs rs fp→∃ vs:List RecV,vs.map RecV.r=rs∧bY true w cs vs []∧fj w vs fp
  | [],cs,fp,h=>⟨[],rfl,rfl,h⟩
  | x::xs,cs,fp,⟨f1,f2,e,h1,h2⟩=>by
    obtain ⟨A6,C6,A7,C7,A8,C8,f6,f7,f8,e1,ef,ok,o6,o7,o8⟩:=bS h1
    obtain ⟨vs,e2,h3,h4⟩:=rm h2
    refine ⟨⟨x,A6,C6,A7,C7,A8,C8⟩::vs,by simp [e2],⟨[],[],rfl,⟨e1,rfl,ok⟩,h3⟩,⟨f1,f2,e,?_,h4⟩⟩
    rw [e1] at h1; exact h1
theorem sn {w:World}:∀ {vs:List RecV}{cs fp f0},bY true w cs vs f0→fj w vs fp→f0=[]∧bY true w cs (vs.map RecV.r) fp
  | [],_,_,_,h,hp=>⟨h,hp⟩
  | v::vs,cs,fp,f0,⟨g1,g2,e0,⟨e1,eg,ok⟩,h2⟩,⟨f1,f2,e,h1,h3⟩=>by
    obtain ⟨r1,r2⟩:=sn h2 h3
    refine ⟨by rw [e0,eg,r1]; rfl,⟨f1,f2,e,?_,r2⟩⟩
    rw [show cs.take (sz Rec)=v.cs from e1]; exact h1
theorem lU {w:World}:∀ {vs:List RecV}{cs f0} (i:Nat),bY true w cs vs f0→bY true w cs (vs.take i) []∧f0=[]
  | [],_,_,i,h=>by rw [List.take_nil]; exact ⟨rfl,h⟩
  | v::vs,cs,f0,0,⟨g1,g2,e0,⟨e1,eg,ok⟩,h2⟩=>by
    have:=(lU 0 h2).2
    exact ⟨rfl,by rw [e0,eg,this]; rfl⟩
  | v::vs,cs,f0,i+1,⟨g1,g2,e0,⟨e1,eg,ok⟩,h2⟩=>by
    obtain ⟨h3,h4⟩:=lU i h2
    exact ⟨⟨[],[],rfl,⟨e1,rfl,ok⟩,h3⟩,by rw [e0,eg,h4]; rfl⟩
theorem yV {w:World}{ad n cap} {rs:List Rec}{fp} (h:own true w [.slice ad n cap] rs fp):∃ (vs:List RecV) (f0 f1:List Nat),vs.map RecV.r=rs∧fp=f0++f1∧own true w [.slice ad n cap] vs f0∧fj w vs f1:=by
  rcases h with ⟨hf,_⟩ | ⟨e,rfl,rfl⟩ | ⟨b,o,cap',cur,T,fr,fs,h1,h2,h3,h4,h5,h6,h7,h8⟩
  · cases hf
  · exact ⟨[],[],[],rfl,rfl,.inr (.inl ⟨e,rfl,rfl⟩),rfl⟩
  · obtain ⟨vs,e1,h9,h10⟩:=rm h8
    have el:vs.length=rs.length:=by rw [← e1,List.length_map]
    exact ⟨vs,[b],fs,e1,by rw [h2]; rfl,.inr (.inr ⟨b,o,cap',cur,T,fr,[],by rw [el]; exact h1,rfl,h3,h4,by rw [el]; exact h5,h6,h7,h9⟩),h10⟩
theorem yM {w:World}{ad n cap} {vs:List RecV}{f0 f1} (h:own true w [.slice ad n cap] vs f0) (hp:fj w vs f1):own true w [.slice ad n cap] (vs.map RecV.r) (f0++f1):=by
  rcases h with ⟨hf,_⟩ | ⟨e,rfl,rfl⟩ | ⟨b,o,cap',cur,T,fr,fs,h1,h2,h3,h4,h5,h6,h7,h8⟩
  · cases hf
  · rw [show f1=[] from hp]; exact .inr (.inl ⟨e,rfl,rfl⟩)
  · obtain ⟨e,h9⟩:=sn h8 hp
    have el:(vs.map RecV.r).length=vs.length:=List.length_map _
    exact .inr (.inr ⟨b,o,cap',cur,T,fr,f1,by rw [el]; exact h1,by rw [h2,e]; rfl,h3,h4,by rw [el]; exact h5,h6,h7,h9⟩)
def cw (vs:List RecV) (f:List Nat):Rsc:=⟨f,fun w=>fj w vs f,fun h k=>h.st k,fun h=>h.lt⟩
section
variable {M:Nat→Prop}{w0 w:World}{Δ F:List Rsc}
theorem Sep.viewAt (h:Sep M w0 Δ F w) (i:Nat) {ad n cap} {vs:List RecV}{f} (hi:Δ[i]? = some (Wk.mine [.slice ad n cap] vs f)) (k:Nat) (hk:k<vs.length) :
    ∃ b o,ad=some ⟨b,o,none⟩∧At w b (o+k*9) (vs.getD k default).cs∧(vs.getD k default).r.Ok:=by
  obtain ⟨b,o,cs,fk,e,hat,hx,_⟩:=eJ (h.mine i hi) k hk
  rw [bL hk]
  obtain ⟨e1,_,ok⟩:=hx
  exact ⟨b,o,e,by rw [← e1]; exact hat,ok⟩
end
section
variable {P:Program}{n:Nat}{ops:Array Oper}{Q:Post}{L:Env}{w w0:World}{M:Nat→Prop}{Δ F:List Rsc}{d:Option Tmp}{ty:TypeId}{p:String}{af:Array Edge}{g:Option (Nat × Bool)}{rest:List Oper}
theorem ya {t:TypeId}{x y:Operand}{b off:Nat}{ad:Option Addr}{len cap:Nat}{xs:List RecV}{fp:List Nat}{u:RecV}(hw:Wn ops n L ⟨none,.store t x y,ty,p,af,g⟩) (hs:∀ w,(sizeOf t).run P w = .ok 9 w)
    (H:Sep M w0 Δ F w) (i:Nat) (hi:Δ[i]? = some (Wk.mine [.slice ad len cap] xs fp)) (q:Nat) (hq:q<xs.length) (hx:evL L x=some (.pointer (some ⟨b,off+q*9,none⟩))) (had:ad=some ⟨b,off,none⟩) (hy:evL L y=some (.agg u.cs.toArray)) (ok:u.r.Ok)
    (k:∀ w' fp',Sep M w0 (Δ.set i (Wk.mine [.slice ad len cap] (xs.set q u) fp')) F w'→RL P n ops Q rest L w') :
    RL P n ops Q (⟨none,.store t x y,ty,p,af,g⟩::rest) L w:=by
  obtain ⟨b',o',cur,T,e1,hb,hsz,hk⟩:=H.elset i hi q hq
  rw [had] at e1
  simp only [Option.some.injEq,Addr.mk.injEq,and_true] at e1
  obtain ⟨rfl,rfl⟩:=e1
  obtain ⟨fp',h⟩:=hk u.cs u ⟨rfl,rfl,ok⟩
  exact xN hw rfl (gV hs hx hy rfl RecV.one hb hsz) (k _ fp' h)
theorem xR {c:Array Value}{m:Nat}(h:∀ v∈c.toList,v.oneCell'=true):∀ v∈(Builtin.zeroCells c m).toList,v.oneCell'=true:=by
  intro v hv
  simp only [Builtin.zeroCells,Array.toList_map,List.mem_map,Array.toList_range,List.mem_range] at hv
  obtain ⟨i,hi,rfl⟩:=hv
  have hs:0<c.size:=by
    rcases Nat.eq_zero_or_pos c.size with e | e
    · rw [e] at hi; simp at hi
    · exact e
  have hlt:=Nat.mod_lt i hs
  rw [getElem!_pos c _ hlt]
  exact h _ σ
theorem wV {o:Oper}{v:Value}{w':World}(hw:Wn ops n L o) (hd:o.dst=none) (hp:Pn P n L w o v w')
    (k:RL P n ops Q rest L w'):RL P n ops Q (o::rest) L w:=fun a ha=>wpList_step fun K hK=>by
  rw [if_pos (hw a ha)]
  unfold Oper.wp
  rw [hp a ha,Oper.upon_value,hd]
  exact hK _ _ (k _ ha)
theorem qS {l l':List Value}{o n:Nat}(h:∀ j,j<o+n→l'[j]? = l[j]?):(l'.drop o).take n=(l.drop o).take n:=by
  apply List.ext_getElem?
  intro j
  rw [List.getElem?_take,List.getElem?_take]
  split
  · rw [List.getElem?_drop,List.getElem?_drop]; exact h _ ω
  · rfl
theorem sS {t:TypeId}{e:TypeId}{a:Option Addr}{c:Nat}{w:World}(ht:P.underlying t=some (.slice e)):(Builtin.clear_ #[t] ty #[.slice a 0 c]).run P w = .ok (.tuple #[]) w:=by
  cases a<;>simp [Builtin.clear_,run_underlying ht]
theorem s9 {t e:TypeId}{z:Value}{bytes size m c b o:Nat}{cur:Array Value}{T:TypeId}{w:World}(ht:P.underlying t=some (.slice e)) (hT:Ty P e z size bytes) (hz:z.cells.size=size) (hz1:∀ v∈z.cells.toList,v.oneCell'=true) (hb:w.heap[b]? = some (.cells cur T (0,0))) (hm:0<m) (hsz:o+m*size≤cur.size) :
    (Builtin.clear_ #[t] ty #[.slice (some ⟨b,o,none⟩) m c]).run P w = .ok (.tuple #[]) (Wk.put w b (.cells (lay cur o (Builtin.zeroCells z.cells m).toList) T (0,0))):=by
  obtain ⟨i,hi1,hi2,hi3,hi4⟩:=hT.parts
  have hr:=fI (P:=P) (Builtin.zeroCells z.cells m).toList w o 0 cur hb (xR hz1) (by simp only [Array.length_toList,size_zeroCells,hz]; omega)
  rw [Nat.add_zero] at hr
  obtain ⟨m',rfl⟩:∃ m',m=m'+1:=⟨m-1,ω⟩
  simp [Builtin.clear_,run_underlying ht,zeroValue,typeInfo,hi1,hi2,hr]
theorem wF {t e:TypeId}{x:Operand}{z:Value}{bytes b off k cap m c l:Nat}{xs:List RecV}{fp:List Nat}(hw:Wn ops n L ⟨none,.call ⟨.builtin .clear,#[x],#[t]⟩,ty,p,af,g⟩) (ht:P.underlying t=some (.slice e)) (hT:Ty P e z 9 bytes) (hz:z.cells.size=9) (hz1:∀ v∈z.cells.toList,v.oneCell'=true)
    (hx:evL L x=some (.slice (slA (some ⟨b,off,none⟩) k cap 9) l c)) (hl:l=xs.length-k) (hk:k≤xs.length)
    (H:Sep M w0 Δ F w) (i:Nat) (hi:Δ[i]? = some (Wk.mine [.slice (some ⟨b,off,none⟩) m cap] xs fp))
    (kk:∀ w',Sep M w0 (Δ.set i (Wk.mine [.slice (some ⟨b,off,none⟩) k cap] (xs.take k) fp)) F w'→RL P n ops Q rest L w') :
    RL P n ops Q (⟨none,.call ⟨.builtin .clear,#[x],#[t]⟩,ty,p,af,g⟩::rest) L w:=by
  subst hl
  have o:=H.mine i hi
  rcases o with ⟨hf,_⟩ | ⟨e1,_⟩ | ⟨b',o',cap',cur,T,fr,fs,h1,h2,h3,h4,h5,h6,h7,h8⟩
  · cases hf
  · simp at e1
  · simp only [List.cons.injEq,Value.slice.injEq,Option.some.injEq,Addr.mk.injEq,and_true] at h1
    obtain ⟨⟨rfl,rfl⟩,hm,hc⟩:=h1
    subst hc
    have hfr:=h4 rfl
    subst hfr
    obtain ⟨h9,h10⟩:=lU k h8
    subst h10
    subst h2
    have hn:=H.nodup1 hi
    have e9:sz RecV=9:=rfl
    have el:(xs.take k).length=k:=by rw [List.length_take]; omega
    rcases Nat.eq_zero_or_pos (xs.length-k) with e | e
    · have hr:=sS (P:=P) (ty:=ty) (w:=w) (a:=slA (some ⟨b,off,none⟩) k cap 9) (c:=c) ht
      rw [← e] at hr
      refine wV hw rfl (v := .tuple #[]) (w':=w) (fun a ha=>?_) (kk _ (H.conv i (Wk.mine [.slice (some ⟨b,off,none⟩) k cap] (xs.take k) [b]) hi (.inr (.inr ⟨b,off,cap,cur,T,(0,0),[],by rw [el],rfl,h3,fun _=>rfl,by rw [el]; omega,h6,h7,h9⟩)) (fun b hb=>hb) hn))
      simp [execOp,resolve,invoke,builtin,ha.eval hx,hr]
    · have hlt:k<cap:=by omega
      have ea:slA (some ⟨b,off,none⟩) k cap 9=some ⟨b,off+k*9,none⟩:=by
        unfold slA; rw [if_neg ω]; simp [gn]
      rw [ea] at hx
      have hsz:off+k*9+(xs.length-k)*9≤cur.size:=by rw [e9] at h7; omega
      have hr:=s9 (P:=P) (ty:=ty) (c:=c) ht hT hz hz1 h3 e hsz
      have hE:Ext (· = b) w (Wk.put w b (.cells (lay cur (off+k*9) (Builtin.zeroCells z.cells (xs.length-k)).toList) T (0,0))):=Ext.refl.put (.inl rfl)
      refine wV hw rfl (v := .tuple #[]) (w':=Wk.put w b (.cells (lay cur (off+k*9) (Builtin.zeroCells z.cells (xs.length-k)).toList) T (0,0))) (fun a ha=>?_) (kk _ (H.set hi (q:=Wk.mine [.slice (some ⟨b,off,none⟩) k cap] (xs.take k) [b]) (hE.mono fun b' _ e=>by subst e; simp [Wk.mine])
        (.inr (.inr ⟨b,off,cap,_,T,(0,0),[],by rw [el],rfl,hZ h3,fun _=>rfl,by rw [el]; omega,h6,by rw [ko]; exact h7,(h9.congr (qS fun j hj=>?_)).st fun x hx=>by simp at hx⟩)) hn (fun b' hb' => .inl hb')))
      · simp [execOp,resolve,invoke,builtin,ha.eval hx,hr]
      · rw [el,e9] at hj
        rw [Array.getElem?_toList,Array.getElem?_toList]
        exact nR _ _ _ _ (.inl hj)
end
end Go.Wk
namespace Go.Wk
open Rp (sz own)
def mh (p:Rec→Bool) (rs:List Rec):List Rec:=rs.filter fun r => !p r
def fX (p:Rec→Bool) (vs:List RecV):List RecV:=vs.filter fun v => !p v.r
theorem m0 {p:Rec→Bool}{vs:List RecV}:(fX p vs).map RecV.r=mh p (vs.map RecV.r):=by
  unfold fX mh; rw [List.filter_map]; rfl
theorem nc {p:Rec→Bool}{vs:List RecV}:(fX p vs).Sublist vs:=List.filter_sublist
theorem nf {p:Rec→Bool}{vs:List RecV}{k:Nat}(hk:k<vs.length) (h:p (vs.getD k default).r=false):fX p (vs.take (k+1))=fX p (vs.take k)++[vs.getD k default]:=by
  rw [← cG (d:=default) hk]
  unfold fX
  rw [List.filter_append,List.filter_cons_of_pos (by simp only [h,Bool.not_false]),List.filter_nil]
theorem oN {p:Rec→Bool}{vs:List RecV}{k:Nat}(hk:k<vs.length) (h:p (vs.getD k default).r=true):fX p (vs.take (k+1))=fX p (vs.take k):=by
  rw [← cG (d:=default) hk]
  unfold fX
  rw [List.filter_append,List.filter_cons_of_neg (by simp only [h,Bool.not_true]; exact Bool.false_ne_true),List.filter_nil,List.append_nil]
theorem qy {p:Rec→Bool}{vs:List RecV}:∀ {k:Nat},k≤vs.length→(∀ i,i<k→p (vs.getD i default).r=false)→fX p (vs.take k)=vs.take k
  | 0,_,_=>by simp [fX]
  | k+1,hk,h=>by
    rw [nf ω (h k ω),qy ω fun i hi=>h i ω,cG ω]
theorem vx {p:Rec→Bool}{vs:List RecV}{k:Nat}:(fX p (vs.take k)).length≤k:=by
  have h1:(fX p (vs.take k)).length≤(vs.take k).length:=List.length_filter_le _ _
  rw [List.length_take] at h1; omega
theorem tU {p:Rec→Bool}{rs:List Rec}(h:dI p rs = -1):mh p rs=rs:=by
  unfold dI at h
  cases hq:rs.findIdx? p with
  | some k=>rw [hq] at h; simp only at h; omega
  | none=>
    rw [List.findIdx?_eq_none_iff] at hq
    unfold mh
    rw [List.filter_eq_self]
    intro a ha
    have:=hq a ha
    simpa using this
theorem sJ {α:Type}{p:α→Bool}{xs:List α}{d:α}(h:¬ dI p xs = -1):∃ k:Nat,dI p xs=k∧k<xs.length∧p (xs.getD k d)=true∧∀ i,i<k→p (xs.getD i d)=false:=by
  unfold dI at h ⊢
  cases hq:xs.findIdx? p with
  | none=>rw [hq] at h; simp at h
  | some k=>
    rw [List.findIdx?_eq_some_iff_getElem] at hq
    obtain ⟨h1,h2,h3⟩:=hq
    refine ⟨k,rfl,h1,by rw [bL h1]; exact h2,fun i hi=>?_⟩
    have:=h3 i hi
    rw [bL ω]
    simpa using this
theorem rC {vs:List RecV}{k:Nat}:(vs.map RecV.r).getD k default=(vs.getD k default).r:=by
  simp only [List.getD,List.getElem?_map]
  cases vs[k]? <;> rfl
def DInv (p:Rec→Bool) (vs ws:List RecV) (i j:Nat):Prop:=j≤vs.length∧ws.length=vs.length∧i<j∧ws.take i=fX p (vs.take j)∧ws.drop j=vs.drop j
section
variable {p:Rec→Bool}{vs ws:List RecV}{i j:Nat}
theorem yI (h:DInv p vs ws i j):ws.getD j default=vs.getD j default:=by
  have:=congrArg (fun l=>l.getD 0 default) h.2.2.2.2
  simpa [List.getD] using this
theorem tN {k:Nat}(hk:k<vs.length) (h1:p (vs.getD k default).r=true) (h2:∀ i,i<k→p (vs.getD i default).r=false):DInv p vs vs k (k+1):=
  ⟨ω,rfl,ω,by rw [oN hk h1,qy ω h2],rfl⟩
theorem ym (h:DInv p vs ws i j) (hj:j<vs.length) (hp:p (vs.getD j default).r=true):DInv p vs ws i (j+1):=by
  obtain ⟨h1,h2,h3,h4,h5⟩:=h
  refine ⟨ω,h2,ω,by rw [oN hj hp]; exact h4,?_⟩
  have:=congrArg (List.drop 1) h5
  simpa [List.drop_drop] using this
theorem xp (h:DInv p vs ws i j) (hj:j<vs.length) (hp:p (vs.getD j default).r=false):DInv p vs (ws.set i (vs.getD j default)) (i+1) (j+1):=by
  obtain ⟨h1,h2,h3,h4,h5⟩:=h
  refine ⟨ω,by rw [List.length_set]; exact h2,ω,?_,?_⟩
  · rw [nf hj hp,← h4,← cG (d:=default) (by rw [List.length_set]; omega),List.take_set_of_le ω]
    congr 2
    rw [ep,if_pos ⟨rfl,ω⟩]
  · rw [List.drop_set_of_lt ω]
    have:=congrArg (List.drop 1) h5
    simpa [List.drop_drop] using this
theorem xe (h:DInv p vs ws i j) (hj:j=vs.length):ws.take i=fX p vs:=by
  subst hj
  have:=h.2.2.2.1
  rwa [List.take_length] at this
end
theorem cN {w:World}{v:RecV}(ok:v.r.Ok):own true w v.cs v []:=⟨rfl,rfl,ok⟩
section
variable {M:Nat→Prop}{w0 w:World}{Δ F:List Rsc}
theorem Sep.viewSeen (h:Sep M w0 Δ F w) (i:Nat) {s:Bool}{ad n cap} {vs:List RecV}{f} (hi:F[i]? = some (Wk.seen s [.slice ad n cap] vs f)) (k:Nat) (hk:k<vs.length) :
    ∃ b o,ad=some ⟨b,o,none⟩∧At w b (o+k*9) (vs.getD k default).cs∧(vs.getD k default).r.Ok:=by
  have hx:own s w [.slice ad n cap] vs f:=h.fs _ (List.mem_of_getElem? hi)
  obtain ⟨b,o,cs,fk,e,hat,hx,_⟩:=eJ hx k hk
  rw [bL hk]
  obtain ⟨e1,_,ok⟩:=hx
  exact ⟨b,o,e,by rw [← e1]; exact hat,ok⟩
end
end Go.Wk
namespace Go.Wk
structure LinO {K:Type}(lt:K→K→Prop):Prop where
  irr:∀ a,¬ lt a a
  tr:∀ a b c,lt a b→lt b c→lt a c
  tot:∀ a b,lt a b∨a=b∨lt b a
section
variable {α K:Type}{lt:K→K→Prop}{key:α→K}
inductive Ord (lt:K→K→Prop) (key:α→K):List α→Prop
  | nil:Ord lt key []
  | cons {x xs}:(∀ y∈xs,¬ lt (key y) (key x))→Ord lt key xs→Ord lt key (x::xs)
theorem Ord.app {xs ys:List α}(h:Ord lt key xs) (k:Ord lt key ys) (hh:∀ x∈xs,∀ y∈ys,¬ lt (key y) (key x)):Ord lt key (xs++ys):=by
  induction h with
  | nil=>exact k
  | cons h1 h2 ih=>
    rename_i x l
    refine .cons (fun y hy=>?_) (ih fun a ha b hb=>hh a (by simp [ha]) b hb)
    rcases List.mem_append.1 hy with hy | hy
    · exact h1 y hy
    · exact hh x σ y hy
theorem Ord.left {xs ys:List α}(h:Ord lt key (xs++ys)):Ord lt key xs:=by
  induction xs with
  | nil=>exact .nil
  | cons x xs ih=>
    cases h with
    | cons h1 h2=>exact .cons (fun y hy=>h1 y (by simp [hy])) (ih h2)
theorem Ord.right {xs ys:List α}(h:Ord lt key (xs++ys)):Ord lt key ys:=by
  induction xs with
  | nil=>exact h
  | cons x xs ih=>
    cases h with
    | cons h1 h2=>exact ih h2
theorem Ord.le {xs ys:List α}(h:Ord lt key (xs++ys)):∀ x∈xs,∀ y∈ys,¬ lt (key y) (key x):=by
  induction xs with
  | nil=>simp
  | cons x xs ih=>
    cases h with
    | cons h1 h2=>
      intro a ha b hb
      rcases List.mem_cons.1 ha with rfl | ha
      · exact h1 b (by simp [hb])
      · exact ih h2 a ha b hb
end
section
variable {α K:Type}[DecidableEq K] {lt:K→K→Prop}{key:α→K}
def cp (key:α→K) (xs ys:List α):Prop:=∀ k,(ys.filter fun x=>decide (key x=k))=xs.filter fun x=>decide (key x=k)
def Stable (lt:K→K→Prop) (key:α→K) (xs ys:List α):Prop:=Ord lt key ys∧cp key xs ys
theorem cp.refl {xs:List α}:cp key xs xs:=fun _=>rfl
theorem cp.trans {xs ys zs:List α}(h:cp key xs ys) (k:cp key ys zs):cp key xs zs:=fun c=>(k c).trans (h c)
theorem cp.symm {xs ys:List α}(h:cp key xs ys):cp key ys xs:=fun c=>(h c).symm
theorem cp.app {xs ys xs' ys':List α}(h:cp key xs ys) (k:cp key xs' ys'):cp key (xs++xs') (ys++ys'):=fun c=>by
  rw [List.filter_append,List.filter_append,h c,k c]
theorem cp.mem {xs ys:List α}(h:cp key xs ys) {x:α}(hx:x∈ys):x∈xs:=by
  have:x∈ys.filter fun y=>decide (key y=key x):=by rw [List.mem_filter]; exact ⟨hx,σ⟩
  rw [h (key x),List.mem_filter] at this
  exact this.1
theorem cp.len {xs ys:List α}:cp key xs ys→ys.length=xs.length:=by
  induction xs generalizing ys with
  | nil=>
    intro h
    cases ys with
    | nil=>rfl
    | cons y ys=>exact absurd (h.mem (x:=y) σ) σ
  | cons x xs ih=>
    intro h
    have hx:x∈ys:=(cp.symm h).mem σ
    have hk:=h (key x)
    rw [List.filter_cons_of_pos σ] at hk
    have key1:∀ (l:List α) (r:List α),(l.filter fun y=>decide (key y=key x))=x::r→∃ l1 l2,l=l1++x::l2∧(∀ y∈l1,key y≠key x)∧(l2.filter fun y=>decide (key y=key x))=r:=by
      intro l
      induction l with
      | nil=>intro r h; simp at h
      | cons y l ihl=>
        intro r h
        by_cases hy:key y=key x
        · rw [List.filter_cons_of_pos (by simp [hy])] at h
          injection h with h1 h2
          exact ⟨[],l,by rw [h1]; rfl,σ,h2⟩
        · rw [List.filter_cons_of_neg (by simp [hy])] at h
          obtain ⟨l1,l2,e,h1,h2⟩:=ihl r h
          exact ⟨y::l1,l2,by rw [e]; rfl,fun z hz=>by rcases List.mem_cons.1 hz with rfl | hz; exact hy; exact h1 z hz,h2⟩
    obtain ⟨l1,l2,e,h1,h2⟩:=key1 ys _ hk
    have h3:cp key xs (l1++l2):=fun k=>by
      have hkk:=h k
      rw [e,List.filter_append] at hkk
      rw [List.filter_append]
      by_cases hkx:key x=k
      · subst hkx
        rw [show (l1.filter fun y=>decide (key y=key x))=[] from List.filter_eq_nil_iff.2 fun y hy=>by simp [h1 y hy],List.nil_append]
        exact h2
      · rw [List.filter_cons_of_neg (by simp [hkx]),List.filter_cons_of_neg (by simp [hkx])] at hkk
        exact hkk
    have h4:=ih h3
    rw [e,List.length_append,List.length_cons,List.length_cons]
    rw [List.length_append] at h4
    omega
theorem rq (hl:LinO lt):∀ {ys zs:List α},Ord lt key ys→Ord lt key zs→cp key ys zs→ys=zs
  | [],zs,_,_,h=>by
    have:=h.len
    exact (List.eq_nil_of_length_eq_zero this).symm
  | y::ys,[],_,_,h=>by have:=h.len; simp at this
  | y::ys,z::zs,.cons a1 a2,.cons b1 b2,h=>by
    have hk:key y=key z:=by
      rcases hl.tot (key y) (key z) with c | c | c
      · have hm:y∈z::zs:=(cp.symm h).mem σ
        rcases List.mem_cons.1 hm with e | e
        · rw [e]
        · exact absurd c (b1 y e)
      · exact c
      · have hm:z∈y::ys:=h.mem σ
        rcases List.mem_cons.1 hm with e | e
        · rw [e]
        · exact absurd c (a1 z e)
    have h1:=h (key y)
    rw [List.filter_cons_of_pos (by simp [hk]),List.filter_cons_of_pos σ] at h1
    injection h1 with h2 h3
    subst h2
    have h4:cp key ys zs:=fun k=>by
      have:=h k
      by_cases e:key z=k
      · rw [List.filter_cons_of_pos (by simp [e]),List.filter_cons_of_pos (by simp [e])] at this
        exact (List.cons.inj this).2
      · rw [List.filter_cons_of_neg (by simp [e]),List.filter_cons_of_neg (by simp [e])] at this
        exact this
    rw [rq hl a2 b2 h4]
theorem pU (hl:LinO lt) {xs ys zs:List α}(h:Stable lt key xs ys) (k:Stable lt key xs zs):ys=zs:=
  rq hl h.1 k.1 (h.2.symm.trans k.2)
theorem cp.swap {xs ys:List α}(h:∀ x∈xs,∀ y∈ys,key x≠key y):cp key (xs++ys) (ys++xs):=fun k=>by
  rw [List.filter_append,List.filter_append]
  by_cases hx:∃ x∈xs,key x=k
  · obtain ⟨x,hx,e⟩:=hx
    rw [show (ys.filter fun y=>decide (key y=k))=[] from List.filter_eq_nil_iff.2 fun y hy=>by
      have:=h x hx y hy
      simp only [decide_eq_true_eq]; intro e2; exact this (e.trans e2.symm)]
    simp
  · rw [show (xs.filter fun y=>decide (key y=k))=[] from List.filter_eq_nil_iff.2 fun y hy=>by
      simp only [decide_eq_true_eq]; intro e2; exact hx ⟨y,hy,e2⟩]
    simp
theorem iK (hl:LinO lt) {xs A B:List α}{x:α}(h:Stable lt key xs (A++B)) (hB:∀ y∈B,lt (key x) (key y)) (hA:∀ y∈A,¬ lt (key x) (key y)):Stable lt key (xs++[x]) (A++x::B):=by
  refine ⟨?_,?_⟩
  · refine h.1.left.app (.cons (fun y hy hlt=>hl.irr _ (hl.tr _ _ _ hlt (hB y hy))) h.1.right) fun a ha b hb=>?_
    rcases List.mem_cons.1 hb with rfl | hb
    · exact hA a ha
    · exact h.1.le a ha b hb
  · have h1:cp key ((A++B)++[x]) (A++(x::B)):=by
      rw [List.append_assoc]
      refine cp.refl.app (cp.swap (xs:=B) (ys:=[x]) fun b hb y hy e=>?_)
      rw [List.mem_singleton] at hy
      subst hy
      have:=hB b hb
      rw [e] at this
      exact hl.irr _ this
    exact (h.2.app (cp.refl (xs:=[x]))).trans h1
end
end Go.Wk
namespace Go.Wk
open Rp (sz own)
section
variable {α:Type}
def seg (l:List α) (a b:Nat):List α:=(l.take b).drop a
theorem cY {l:List α}{a b:Nat}(h:b≤l.length):(seg l a b).length=b-a:=by
  unfold seg; rw [List.length_drop,List.length_take]; omega
theorem cz {l:List α}{a b c:Nat}(h1:a≤b) (h2:b≤c):seg l a b++seg l b c=seg l a c:=by
  apply List.ext_getElem?
  intro j
  unfold seg
  rw [List.getElem?_append]
  simp only [List.length_drop,List.length_take,List.getElem?_drop,List.getElem?_take]
  by_cases hl:b≤l.length
  · rw [show min b l.length=b by omega]
    by_cases c1:j<b-a
    · rw [if_pos c1,if_pos ω,if_pos ω]
    · rw [if_neg c1]
      rw [show b+(j-(b-a))=a+j by omega]
  · rw [show min b l.length=l.length by omega]
    by_cases c1:j<l.length-a
    · rw [if_pos c1,if_pos ω,if_pos ω]
    · rw [if_neg c1]
      rw [List.getElem?_eq_none (show l.length≤b+(j-(l.length-a)) by omega),List.getElem?_eq_none (show l.length≤a+j by omega)]
      split<;>split<;>rfl
def eT (l:List α) (x y z:Nat):List α:=l.take x++(seg l y z++(seg l x y++l.drop z))
theorem gS {l:List α}{x y z:Nat}(h1:x≤y) (h2:y≤z) (h3:z≤l.length):(eT l x y z).length=l.length:=by
  unfold eT
  rw [List.length_append,List.length_append,List.length_append,cY ω,cY ω,List.length_take,List.length_drop]; omega
end
section
variable {α:Type}[Inhabited α]
def fW (l:List α) (a b:Nat):Nat→List α
  | 0=>l
  | i+1=>((fW l a b i).set (a+i) ((fW l a b i).getD (b+i) default)).set (b+i) ((fW l a b i).getD (a+i) default)
theorem dA {l:List α}{a b:Nat}:∀ {n},(fW l a b n).length=l.length
  | 0=>rfl
  | n+1=>by rw [fW,List.length_set,List.length_set]; exact dA
theorem l7 {l:List α}{a b:Nat}:∀ {n:Nat},a+n≤b→b+n≤l.length→∀ j,(fW l a b n).getD j default=l.getD (if a≤j∧j<a+n then b+(j-a) else if b≤j∧j<b+n then a+(j-b) else j) default
  | 0,_,_,j=>by rw [if_neg ω,if_neg ω]; rfl
  | n+1,h1,h2,j=>by
    have ih:=l7 (l:=l) (a:=a) (b:=b) (n:=n) ω ω
    have hl:=dA (l:=l) (a:=a) (b:=b) (n:=n)
    rw [fW,ep,ep,List.length_set,hl,ih,ih,ih]
    by_cases e1:j=b+n
    · subst e1
      rw [if_pos ⟨rfl,ω⟩,if_neg ω,if_neg ω,if_neg ω,if_pos ω]
      congr 1; omega
    · rw [if_neg (fun h=>e1 h.1)]
      by_cases e2:j=a+n
      · subst e2
        rw [if_pos ⟨rfl,ω⟩,if_neg ω,if_neg ω,if_pos ω]
        congr 1; omega
      · rw [if_neg (fun h=>e2 h.1)]
        congr 1
        (repeat' split)<;>omega
theorem eP {l:List α}{a b j:Nat}(h:a+j<b):(seg l a b).getD j default=l.getD (a+j) default:=by
  unfold seg; simp only [List.getD,List.getElem?_drop,List.getElem?_take]; rw [if_pos h]
theorem jj {l:List α}{x y z:Nat}(h1:x≤y) (h2:y≤z) (h3:z≤l.length) (j:Nat):(eT l x y z).getD j default=l.getD (if j<x then j else if j<x+(z-y) then y+(j-x) else if j<z then x+(j-x-(z-y)) else j) default:=by
  have e1:=cY (l:=l) (a:=y) (b:=z) ω
  have e2:=cY (l:=l) (a:=x) (b:=y) ω
  unfold eT
  by_cases c1:j<x
  · rw [if_pos c1,jl (by rw [List.length_take]; omega)]
    simp only [List.getD,List.getElem?_take]; rw [if_pos c1]
  · rw [if_neg c1,lI (by rw [List.length_take]; omega),List.length_take,show min x l.length=x by omega]
    by_cases c2:j<x+(z-y)
    · rw [if_pos c2,jl ω,eP ω]
    · rw [if_neg c2,lI ω,e1]
      by_cases c3:j<z
      · rw [if_pos c3,jl ω,eP ω]
      · rw [if_neg c3,lI ω,e2]
        simp only [List.getD,List.getElem?_drop]
        congr 2; omega
theorem mg {xs ys:List α}(h:xs.length=ys.length) (k:∀ j,xs.getD j default=ys.getD j default):xs=ys:=fM (d:=default) h fun j _=>k j
theorem yQ {l:List α}{m i:Nat}(h1:i≤m) (h2:m+i≤l.length):fW l (m-i) m i=eT l (m-i) m (m+i):=
  mg (by rw [dA,gS ω ω h2]) fun j=>by
    rw [l7 ω h2,jj ω ω h2]
    congr 1
    split<;>(repeat' split)<;>omega
theorem wA {l:List α}{m i j:Nat}(h1:j<i) (h0:i≤m) (h2:m+j≤l.length):eT (fW l (m-i) m j) (m-i+j) m (m+j)=eT l (m-i) m (m+j):=
  mg (by rw [gS ω ω (by rw [dA]; omega),dA,gS ω ω h2]) fun q=>by
    rw [jj ω ω (by rw [dA]; omega),l7 ω h2,jj ω ω h2]
    congr 1
    (repeat' split)<;>omega
theorem vq {l:List α}{m i j:Nat}(h1:i<j) (h0:i≤m) (h2:m+j≤l.length):eT (fW l (m-i) (m+j-i) i) (m-i) m (m+j-i)=eT l (m-i) m (m+j):=
  mg (by rw [gS ω ω (by rw [dA]; omega),dA,gS ω ω h2]) fun q=>by
    rw [jj ω ω (by rw [dA]; omega),l7 ω ω,jj ω ω h2]
    congr 1
    (repeat' split)<;>omega
end
end Go.Wk
namespace Go.Wk
open Rp (sz own)
def kLt (a b:Int × Int × Int):Prop:=a.1<b.1∨a.1=b.1∧(a.2.1<b.2.1∨a.2.1=b.2.1∧a.2.2<b.2.2)
theorem js:LinO kLt where
  irr a h:=by unfold kLt at h; omega
  tr a b c h k:=by unfold kLt at h k ⊢; omega
  tot a b:=by
    by_cases h:kLt a b
    · exact .inl h
    · by_cases k:kLt b a
      · exact .inr (.inr k)
      · refine .inr (.inl ?_)
        obtain ⟨a1,a2,a3⟩:=a
        obtain ⟨b1,b2,b3⟩:=b
        unfold kLt at h k
        dsimp only at h k
        rw [show a1=b1 by omega,show a2=b2 by omega,show a3=b3 by omega]
def cP (r:Rec):Int × Int × Int:=(r.Seq,r.Kind,r.Group)
def cD (v:RecV):Int × Int × Int:=cP v.r
def gJ (a b:Int):Int:=if a<b then -1 else if b<a then 1 else 0
def cfR (x y:Rec):Int:=if gJ x.Seq y.Seq≠0 then gJ x.Seq y.Seq else if gJ x.Kind y.Kind≠0 then gJ x.Kind y.Kind else gJ x.Group y.Group
theorem ls {x y:Rec}:cfR x y<0↔kLt (cP x) (cP y):=by
  unfold cfR gJ kLt cP
  dsimp only
  repeat' split
  all_goals omega
section
variable {P:Program}{n:Nat}{ops:Array Oper}{Q:Post}{L:Env}{S:World→Prop}{w w0:World}{M:Nat→Prop}{Δ F:List Rsc}{ty:TypeId}{p:String}{af:Array Edge}{g:Option (Nat × Bool)}{l:Nat}{rest:List (Nat × Bool)}
theorem dJ {t:TypeId}{x y:Operand}{b off:Nat}{ad:Option Addr}{len cap:Nat}{xs:List RecV}{fp:List Nat}{u:RecV}(ho:ops.toList[l]? = some ⟨none,.store t x y,ty,p,af,g⟩) (hw:Wn ops n L ⟨none,.store t x y,ty,p,af,g⟩) (hs:∀ w,(sizeOf t).run P w = .ok 9 w)
    (H:Sep M w0 Δ F w) (i:Nat) (hi:Δ[i]? = some (Wk.mine [.slice ad len cap] xs fp)) (q:Nat) (hq:q<xs.length) (hx:evL L x=some (.pointer (some ⟨b,off+q*9,none⟩))) (had:ad=some ⟨b,off,none⟩) (hy:evL L y=some (.agg u.cs.toArray)) (ok:u.r.Ok)
    (hS:∀ w',S w→Ext (· = b) w w'→rest≠[]→S w')
    (k:∀ w' fp',Sep M w0 (Δ.set i (Wk.mine [.slice ad len cap] (xs.set q u) fp')) F w'→DL P n ops Q S rest L w') :
    DL P n ops Q S ((l,false)::rest) L w:=by
  obtain ⟨b',o',cur,T,e1,hb,hsz,hk⟩:=H.elset i hi q hq
  rw [had] at e1
  simp only [Option.some.injEq,Addr.mk.injEq,and_true] at e1
  obtain ⟨rfl,rfl⟩:=e1
  obtain ⟨fp',h⟩:=hk u.cs u ⟨rfl,rfl,ok⟩
  exact vH ho hw rfl (gV hs hx hy rfl RecV.one hb hsz) (fun hSw hr=>hS _ hSw (Ext.refl.put (.inl rfl)) hr) (k _ fp' h)
end
end Go.Wk
namespace Go.Wk
section
variable {α:Type}
theorem nQ {l:List α}{a b:Nat}(h:b≤a):seg l a b=[]:=by
  unfold seg; apply List.eq_nil_of_length_eq_zero; rw [List.length_drop,List.length_take]; omega
end
section
variable {α:Type}[Inhabited α] {l l2 ws:List α}{a b i j:Nat}
theorem fR {xs ys:List α}{a b:Nat}(h1:b≤xs.length) (h2:b≤ys.length) (h:∀ j,a≤j→j<b→xs.getD j default=ys.getD j default):seg xs a b=seg ys a b:=
  fM (d:=default) (by rw [cY h1,cY h2]) fun j hj=>by
    rw [cY h1] at hj
    rw [eP ω,eP ω]
    exact h _ ω ω
theorem iz {l:List α}{a:Nat}(h:a<l.length):seg l a (a+1)=[l.getD a default]:=by
  apply fM (d:=default)
  · rw [cY ω]; simp
  · intro j hj
    rw [cY ω] at hj
    obtain rfl:j=0:=by omega
    rw [eP ω]; rfl
theorem fK {l:List α}{a b:Nat}{x:α}(h2:b≤l.length) (h:x∈seg l a b):∃ j,a≤j∧j<b∧l.getD j default=x:=by
  obtain ⟨j,hj,e⟩:=List.getElem_of_mem h
  rw [cY h2] at hj
  refine ⟨a+j,ω,ω,?_⟩
  rw [← eP (b:=b) ω,bL (by rw [cY h2]; omega)]; exact e
theorem re {l:List α}{a b j:Nat}(h2:b≤l.length) (h:a≤j) (h3:j<b):l.getD j default∈seg l a b:=by
  have e:=eP (l:=l) (a:=a) (b:=b) (j:=j-a) ω
  rw [show a+(j-a)=j by omega] at e
  rw [← e,bL (by rw [cY h2]; omega)]
  exact List.getElem_mem _
end
section
variable {ws l l2:List RecV}{a b i j:Nat}
def SortSeg (ws l:List RecV) (a b:Nat):Prop:=l.length=ws.length∧(∀ q,q<a∨b≤q→l.getD q default=ws.getD q default)∧Stable kLt cD (seg ws a b) (seg l a b)
def InsInv (ws l:List RecV) (a i j:Nat):Prop:=a≤j∧j≤i∧l.length=ws.length∧(∀ q,q<a∨i+1≤q→l.getD q default=ws.getD q default)∧Stable kLt cD (seg ws a i) (seg l a j++seg l (j+1) (i+1)) ∧
  l.getD j default=ws.getD i default∧∀ q,j<q→q≤i→kLt (cD (ws.getD i default)) (cD (l.getD q default))
theorem ur (h:a+1≤ws.length):SortSeg ws ws a (a+1):=
  ⟨rfl,fun _ _=>rfl,by rw [iz ω]; exact .cons σ .nil,.refl⟩
theorem qF (h:b≤a):SortSeg ws ws a b:=⟨rfl,fun _ _=>rfl,by rw [nQ h]; exact .nil,.refl⟩
theorem qr (h:SortSeg ws l a i) (h1:a≤i):InsInv ws l a i i:=by
  obtain ⟨e1,e2,e3⟩:=h
  refine ⟨h1,Nat.le_refl _,e1,fun q hq=>e2 q ω,?_,e2 i ω,fun q h3 h4=>by omega⟩
  rw [nQ (Nat.le_refl (i+1)),List.append_nil]; exact e3
theorem pG (h:InsInv ws l a i j) (h1:a<j) (h2:i<ws.length) (hc:cfR (l.getD j default).r (l.getD (j-1) default).r<0) :
    InsInv ws ((l.set j (l.getD (j-1) default)).set (j-1) (l.getD j default)) a i (j-1):=by
  obtain ⟨e1,e2,e3,e4,e5,e6,e7⟩:=h
  have hg:∀ q,((l.set j (l.getD (j-1) default)).set (j-1) (l.getD j default)).getD q default=if q=j-1 then l.getD j default else if q=j then l.getD (j-1) default else l.getD q default:=fun q=>by
    rw [ep,ep,List.length_set]
    by_cases c1:q=j-1
    · rw [if_pos ⟨c1,ω⟩,if_pos c1]
    · rw [if_neg (fun h=>c1 h.1),if_neg c1]
      by_cases c2:q=j
      · rw [if_pos ⟨c2,ω⟩,if_pos c2]
      · rw [if_neg (fun h=>c2 h.1),if_neg c2]
  have hlen:((l.set j (l.getD (j-1) default)).set (j-1) (l.getD j default)).length=ws.length:=by rw [List.length_set,List.length_set]; exact e3
  refine ⟨ω,ω,hlen,fun q hq=>?_,?_,?_,fun q h3 h4=>?_⟩
  · rw [hg,if_neg ω,if_neg ω]; exact e4 q hq
  · have s1:seg ((l.set j (l.getD (j-1) default)).set (j-1) (l.getD j default)) a (j-1)=seg l a (j-1):=fR ω ω fun q h3 h4=>by rw [hg,if_neg ω,if_neg ω]
    have s2:seg ((l.set j (l.getD (j-1) default)).set (j-1) (l.getD j default)) (j-1+1) (i+1)=seg l (j-1) j++seg l (j+1) (i+1):=by
      rw [show j-1+1=j by omega,← cz (b:=j+1) ω ω,iz ω]
      congr 1
      · have:=iz (l:=l) (a:=j-1) ω
        rw [show j-1+1=j by omega] at this
        rw [this,hg,if_neg ω,if_pos rfl]
      · exact fR ω ω fun q h3 h4=>by rw [hg,if_neg ω,if_neg ω]
    rw [s1,s2,← List.append_assoc,cz ω ω]; exact e5
  · rw [hg,if_pos rfl]; exact e6
  · rw [hg,if_neg ω]
    by_cases c:q=j
    · rw [if_pos c]
      have:=(ls (x:=(l.getD j default).r) (y:=(l.getD (j-1) default).r)).1 hc
      rw [e6] at this; exact this
    · rw [if_neg c]; exact e7 q ω h4
theorem rh (h:InsInv ws l a i j) (h2:i<ws.length) (hc:j=a∨¬ cfR (l.getD j default).r (l.getD (j-1) default).r<0):SortSeg ws l a (i+1):=by
  obtain ⟨e1,e2,e3,e4,e5,e6,e7⟩:=h
  refine ⟨e3,e4,?_⟩
  have sl:seg l a (i+1)=seg l a j++l.getD j default::seg l (j+1) (i+1):=by
    rw [← cz (b:=j) ω ω,← cz (l:=l) (a:=j) (b:=j+1) (c:=i+1) ω ω,iz ω]; rfl
  have sw:seg ws a (i+1)=seg ws a i++[ws.getD i default]:=by rw [← cz (b:=i) ω ω,iz ω]
  rw [sl,sw,e6]
  refine iK js e5 (fun y hy=>?_) fun y hy=>?_
  · obtain ⟨q,h3,h4,rfl⟩:=fK ω hy
    exact e7 q ω ω
  · obtain ⟨q,h3,h4,rfl⟩:=fK ω hy
    rcases hc with hc | hc
    · omega
    · rw [ls,e6] at hc
      change ¬ kLt (cD (ws.getD i default)) (cD (l.getD (j-1) default)) at hc
      by_cases c:q=j-1
      · rw [c]; exact hc
      · have ho:Ord kLt cD (seg l a (j-1)++seg l (j-1) j):=by rw [cz ω ω]; exact e5.1.left
        have hle:=ho.le _ (re (l:=l) (a:=a) (b:=j-1) (j:=q) ω h3 ω) _ (re (l:=l) (a:=j-1) (b:=j) (j:=j-1) ω ω ω)
        intro hlt
        rcases js.tot (cD (l.getD q default)) (cD (l.getD (j-1) default)) with c1 | c1 | c1
        · exact hc (js.tr _ _ _ hlt c1)
        · rw [c1] at hlt; exact hc hlt
        · exact hle c1
def InsO (ws l:List RecV) (a b i:Nat):Prop:=(b≤a∧l=ws)∨(a<b∧i≤b∧SortSeg ws l a i)
theorem sP (h:b≤ws.length):InsO ws ws a b (a+1):=by
  by_cases c:b≤a
  · exact .inl ⟨c,rfl⟩
  · exact .inr ⟨ω,ω,ur ω⟩
theorem xW (h:InsO ws l a b i) (h1:a<i) (h2:i<b):SortSeg ws l a i:=by
  rcases h with ⟨h,_⟩ | ⟨_,_,h⟩
  · omega
  · exact h
theorem ql (h:SortSeg ws l a (i+1)) (h1:a<i) (h2:i<b):InsO ws l a b (i+1) := .inr ⟨ω,ω,h⟩
theorem xX (h:InsO ws l a b i) (h2:¬ i<b):SortSeg ws l a b:=by
  rcases h with ⟨h,e⟩ | ⟨_,h1,h⟩
  · rw [e]; exact qF h
  · rwa [show b=i by omega]
end
end Go.Wk
namespace Go.Wk
def kAt (l:List RecV) (q:Nat):Int × Int × Int:=cD (l.getD q default)
section
variable {ws l l2 l3:List RecV}{a b m i j k s r p h mid e:Nat}
theorem eV (ho:Ord kLt cD (seg ws a b)) (hb:b≤ws.length) {x y:Nat}(h1:a≤x) (h2:x<y) (h3:y<b):¬ kLt (kAt ws y) (kAt ws x):=by
  have h4:Ord kLt cD (seg ws a y++seg ws y b):=by rw [cz ω ω]; exact ho
  exact h4.le _ (re ω h1 h2) _ (re hb (Nat.le_refl _) h3)
theorem zf (hb:b≤ws.length) (hh:∀ x y,a≤x→x<y→y<b→¬ kLt (kAt ws y) (kAt ws x)):Ord kLt cD (seg ws a b):=by
  have key:∀ n,∀ a,b-a≤n→(∀ x y,a≤x→x<y→y<b→¬ kLt (kAt ws y) (kAt ws x))→Ord kLt cD (seg ws a b):=by
    intro n
    induction n with
    | zero=>intro a h1 _; rw [nQ ω]; exact .nil
    | succ n ih=>
      intro a h1 h2
      by_cases c:a<b
      · rw [← cz (b:=a+1) ω ω,iz ω]
        refine .cons (fun y hy=>?_) (ih (a+1) ω fun x y q1 q2 q3=>h2 x y ω q2 q3)
        obtain ⟨q,q1,q2,rfl⟩:=fK hb hy
        exact h2 a q (Nat.le_refl _) ω q2
      · rw [nQ ω]; exact .nil
  exact key _ a (Nat.le_refl _) hh
theorem kG (ho:Ord kLt cD (seg ws a b)) (hb:b≤ws.length) {x y:Nat}(h1:a≤x) (h2:y≤b):Ord kLt cD (seg ws x y):=
  zf ω fun p q q1 q2 q3=>eV ho hb ω q2 ω
theorem wh {x y z:Int × Int × Int}(h1:¬ kLt y x) (h2:¬ kLt z y):¬ kLt z x:=fun h3=>by
  rcases js.tot x y with c | c | c
  · exact h2 (js.tr _ _ _ h3 c)
  · rw [← c] at h2; exact h2 h3
  · exact h1 c
theorem mm {x y z:Int × Int × Int}(h1:kLt x y) (h2:¬ kLt z y):kLt x z:=by
  rcases js.tot y z with c | c | c
  · exact js.tr _ _ _ h1 c
  · rw [← c]; exact h1
  · exact absurd c h2
theorem qW {x y z:Int × Int × Int}(h1:¬ kLt y x) (h2:kLt y z):kLt x z:=by
  rcases js.tot x y with c | c | c
  · exact js.tr _ _ _ c h2
  · rw [c]; exact h2
  · exact absurd c h1
def LoInv (ws:List RecV) (a m b i j:Nat):Prop:=m≤i∧i≤j∧j≤b∧(∀ q,m≤q→q<i→kLt (kAt ws q) (kAt ws a))∧∀ q,j≤q→q<b→¬ kLt (kAt ws q) (kAt ws a)
theorem xk (h:m≤b):LoInv ws a m b m b:=⟨Nat.le_refl _,h,Nat.le_refl _,fun q h1 h2=>by omega,fun q h1 h2=>by omega⟩
theorem zE (hI:LoInv ws a m b i j) (hb:b≤ws.length) (ho:Ord kLt cD (seg ws m b)) (h1:i≤h) (h2:h<j) (hc:cfR (ws.getD h default).r (ws.getD a default).r<0):LoInv ws a m b (h+1) j:=by
  obtain ⟨e1,e2,e3,e4,e5⟩:=hI
  have hc':kLt (kAt ws h) (kAt ws a):=ls.1 hc
  refine ⟨ω,ω,e3,fun q q1 q2=>?_,e5⟩
  by_cases c:q=h
  · rw [c]; exact hc'
  · exact qW (eV ho hb q1 ω ω) hc'
theorem zT (hI:LoInv ws a m b i j) (hb:b≤ws.length) (ho:Ord kLt cD (seg ws m b)) (h1:i≤h) (h2:h<j) (hc:¬ cfR (ws.getD h default).r (ws.getD a default).r<0):LoInv ws a m b i h:=by
  obtain ⟨e1,e2,e3,e4,e5⟩:=hI
  have hc':¬ kLt (kAt ws h) (kAt ws a):=fun x=>hc (ls.2 x)
  refine ⟨e1,h1,ω,e4,fun q q1 q2=>?_⟩
  by_cases c:q=h
  · rw [c]; exact hc'
  · exact wh hc' (eV ho hb ω ω q2)
def UpInv (ws l:List RecV) (a k:Nat):Prop:=a≤k∧k<ws.length∧l.length=ws.length∧(∀ q,q<a∨k<q→l.getD q default=ws.getD q default)∧(∀ q,a≤q→q<k→l.getD q default=ws.getD (q+1) default)∧l.getD k default=ws.getD a default
theorem xB (h:a<ws.length):UpInv ws ws a a:=⟨Nat.le_refl _,h,rfl,fun _ _=>rfl,fun q h1 h2=>by omega,rfl⟩
theorem vi (hI:UpInv ws l a k) (hk:k+1<ws.length):UpInv ws ((l.set k (l.getD (k+1) default)).set (k+1) (l.getD k default)) a (k+1):=by
  obtain ⟨e1,e2,e3,e4,e5,e6⟩:=hI
  have hg:∀ q,((l.set k (l.getD (k+1) default)).set (k+1) (l.getD k default)).getD q default=if q=k+1 then l.getD k default else if q=k then l.getD (k+1) default else l.getD q default:=fun q=>by
    rw [ep,ep,List.length_set]
    by_cases c1:q=k+1
    · rw [if_pos ⟨c1,ω⟩,if_pos c1]
    · rw [if_neg (fun h=>c1 h.1),if_neg c1]
      by_cases c2:q=k
      · rw [if_pos ⟨c2,ω⟩,if_pos c2]
      · rw [if_neg (fun h=>c2 h.1),if_neg c2]
  refine ⟨ω,hk,by rw [List.length_set,List.length_set]; exact e3,fun q hq=>?_,fun q q1 q2=>?_,by rw [hg,if_pos rfl]; exact e6⟩
  · rw [hg,if_neg ω,if_neg ω]; exact e4 q ω
  · rw [hg,if_neg ω]
    by_cases c:q=k
    · rw [if_pos c,c]; exact e4 _ ω
    · rw [if_neg c]; exact e5 q q1 ω
theorem zy (hI:UpInv ws l a k) (hL:LoInv ws a (a+1) b (k+1) (k+1)) (hb:b≤ws.length) (ho:Ord kLt cD (seg ws (a+1) b)):SortSeg ws l a b:=by
  obtain ⟨e1,e2,e3,e4,e5,e6⟩:=hI
  obtain ⟨f1,f2,f3,f4,f5⟩:=hL
  have s1:seg l a k=seg ws (a+1) (k+1):=fM (d:=default) (by rw [cY ω,cY ω]; omega) fun q hq=>by
    rw [cY ω] at hq
    rw [eP ω,eP ω,e5 _ ω ω]
    congr 1; omega
  have s2:seg l (k+1) b=seg ws (k+1) b:=fR ω hb fun q q1 q2=>e4 q ω
  have sl:seg l a b=seg ws (a+1) (k+1)++ws.getD a default::seg ws (k+1) b:=by
    rw [← cz (b:=k) ω ω,← cz (l:=l) (a:=k) (b:=k+1) (c:=b) ω ω,iz ω,s1,s2,e6]; rfl
  have sw:seg ws a b=[ws.getD a default]++(seg ws (a+1) (k+1)++seg ws (k+1) b):=by
    rw [cz ω ω,← cz (l:=ws) (a:=a) (b:=a+1) (c:=b) ω ω,iz ω]
  refine ⟨e3,fun q hq=>e4 q ω,?_,?_⟩
  · rw [sl]
    refine (kG ho hb (Nat.le_refl _) f3).app (.cons (fun y hy=>?_) (kG ho hb ω (Nat.le_refl _))) fun x hx y hy=>?_
    · obtain ⟨q,q1,q2,rfl⟩:=fK hb hy
      exact f5 q q1 q2
    · obtain ⟨q,q1,q2,rfl⟩:=fK ω hx
      rcases List.mem_cons.1 hy with rfl | hy
      · exact fun hlt=>js.irr _ (js.tr _ _ _ hlt (f4 q q1 q2))
      · obtain ⟨q',q3,q4,rfl⟩:=fK hb hy
        exact eV ho hb q1 ω q4
  · rw [sl,sw]
    have:cp cD ([ws.getD a default]++seg ws (a+1) (k+1)) (seg ws (a+1) (k+1)++[ws.getD a default]):=cp.swap fun x hx y hy ee=>by
      rw [List.mem_singleton] at hx
      subst hx
      obtain ⟨q,q1,q2,rfl⟩:=fK ω hy
      have:=f4 q q1 q2
      unfold kAt at this
      rw [ee] at this
      exact js.irr _ this
    have h2:=this.app (cp.refl (xs:=seg ws (k+1) b))
    rw [List.append_assoc,List.append_assoc] at h2
    exact h2
def HiInv (ws:List RecV) (a m i j:Nat):Prop:=a≤i∧i≤j∧j≤m∧(∀ q,a≤q→q<i→¬ kLt (kAt ws m) (kAt ws q))∧∀ q,j≤q→q<m→kLt (kAt ws m) (kAt ws q)
theorem xi (h:a≤m):HiInv ws a m a m:=⟨Nat.le_refl _,h,Nat.le_refl _,fun q h1 h2=>by omega,fun q h1 h2=>by omega⟩
theorem zj (hI:HiInv ws a m i j) (hb:m≤ws.length) (ho:Ord kLt cD (seg ws a m)) (h1:i≤h) (h2:h<j) (hc:¬ cfR (ws.getD m default).r (ws.getD h default).r<0):HiInv ws a m (h+1) j:=by
  obtain ⟨e1,e2,e3,e4,e5⟩:=hI
  have hc':¬ kLt (kAt ws m) (kAt ws h):=fun x=>hc (ls.2 x)
  refine ⟨ω,ω,e3,fun q q1 q2=>?_,e5⟩
  by_cases c:q=h
  · rw [c]; exact hc'
  · exact wh (eV ho hb q1 (show q<h by omega) ω) hc'
theorem zY (hI:HiInv ws a m i j) (hb:m≤ws.length) (ho:Ord kLt cD (seg ws a m)) (h1:i≤h) (h2:h<j) (hc:cfR (ws.getD m default).r (ws.getD h default).r<0):HiInv ws a m i h:=by
  obtain ⟨e1,e2,e3,e4,e5⟩:=hI
  have hc':kLt (kAt ws m) (kAt ws h):=ls.1 hc
  refine ⟨e1,h1,ω,e4,fun q q1 q2=>?_⟩
  by_cases c:q=h
  · rw [c]; exact hc'
  · exact mm hc' (eV ho hb ω (show h<q by omega) q2)
def DnInv (ws l:List RecV) (a m i k:Nat):Prop:=i≤k∧InsInv ws l a m k∧∀ q,q<k→l.getD q default=ws.getD q default
theorem wY (hH:HiInv ws a m i i) (ho:Ord kLt cD (seg ws a m)):DnInv ws ws a m i m:=
  ⟨hH.2.2.1,qr ⟨rfl,fun _ _=>rfl,ho,.refl⟩ (by have:=hH.1; have:=hH.2.2.1; omega),fun _ _=>rfl⟩
theorem u4 (hI:DnInv ws l a m i k) (hH:HiInv ws a m i i) (h1:i<k) (h2:m<ws.length):DnInv ws ((l.set k (l.getD (k-1) default)).set (k-1) (l.getD k default)) a m i (k-1):=by
  obtain ⟨e1,e2,e3⟩:=hI
  have hk:k≤m:=e2.2.1
  have hlen:=e2.2.2.1
  have hai:=hH.1
  have hc:cfR (l.getD k default).r (l.getD (k-1) default).r<0:=by
    rw [ls,e2.2.2.2.2.2.1,e3 (k-1) ω]
    exact hH.2.2.2.2 (k-1) ω ω
  refine ⟨ω,pG e2 ω h2 hc,fun q hq=>?_⟩
  rw [ep,ep,List.length_set,if_neg ω,if_neg ω]
  exact e3 q ω
theorem zx (hI:DnInv ws l a m i i) (hH:HiInv ws a m i i) (h2:m<ws.length):SortSeg ws l a (m+1):=by
  obtain ⟨e1,e2,e3⟩:=hI
  refine rh e2 h2 ?_
  by_cases c:i=a
  · exact .inl c
  · refine .inr fun hc=>?_
    have h3:=e2.1
    rw [ls,e2.2.2.2.2.2.1,e3 (i-1) ω] at hc
    exact hH.2.2.2.1 (i-1) ω ω hc
end
end Go.Wk
namespace Go.Wk
section
variable {ws l l2 l3:List RecV}{a b m s r p s0 r0 h e mid:Nat}
theorem iV (h:Ord kLt cD (seg ws a b)):SortSeg ws ws a b:=⟨rfl,fun _ _=>rfl,h,.refl⟩
def MidInv (ws:List RecV) (p s0 r0 s r:Nat):Prop:=s0≤s∧s≤r∧r≤r0∧(∀ c,s0≤c→c<s→¬ kLt (kAt ws (p-c)) (kAt ws c))∧∀ c,r≤c→c<r0→kLt (kAt ws (p-c)) (kAt ws c)
theorem vz (h:s0≤r0):MidInv ws p s0 r0 s0 r0:=⟨Nat.le_refl _,h,Nat.le_refl _,fun q h1 h2=>by omega,fun q h1 h2=>by omega⟩
def MidOK (ws:List RecV) (a m b p s0 r0:Nat):Prop:=a≤s0∧r0≤m∧m+r0≤p+1∧p<b+s0∧b≤ws.length∧Ord kLt cD (seg ws a m)∧Ord kLt cD (seg ws m b)∧m≤b
theorem yS (hI:MidInv ws p s0 r0 s r) (hk:MidOK ws a m b p s0 r0) (h1:s≤h) (h2:h<r) (hc:¬ cfR (ws.getD (p-h) default).r (ws.getD h default).r<0):MidInv ws p s0 r0 (h+1) r:=by
  obtain ⟨e1,e2,e3,e4,e5⟩:=hI
  obtain ⟨k1,k2,k3,k4,k5,k6,k7,k8⟩:=hk
  have hc':¬ kLt (kAt ws (p-h)) (kAt ws h):=fun x=>hc (ls.2 x)
  refine ⟨ω,ω,e3,fun c q1 q2=>?_,e5⟩
  by_cases cc:c=h
  · rw [cc]; exact hc'
  · exact wh (eV k6 ω ω (show c<h by omega) ω) (wh hc' (eV k7 k5 ω (show p-h<p-c by omega) ω))
theorem zI (hI:MidInv ws p s0 r0 s r) (hk:MidOK ws a m b p s0 r0) (h1:s≤h) (h2:h<r) (hc:cfR (ws.getD (p-h) default).r (ws.getD h default).r<0):MidInv ws p s0 r0 s h:=by
  obtain ⟨e1,e2,e3,e4,e5⟩:=hI
  obtain ⟨k1,k2,k3,k4,k5,k6,k7,k8⟩:=hk
  have hc':kLt (kAt ws (p-h)) (kAt ws h):=ls.1 hc
  refine ⟨e1,h1,ω,e4,fun c q1 q2=>?_⟩
  by_cases cc:c=h
  · rw [cc]; exact hc'
  · exact qW (eV k7 k5 ω (show p-c<p-h by omega) ω) (mm hc' (eV k6 ω ω (show h<c by omega) ω))
def SymL (ws l:List RecV) (a s mid e b:Nat):Prop:=l.length=ws.length∧(∀ q,q<a∨b≤q→l.getD q default=ws.getD q default)∧cp cD (seg ws a b) (seg l a b) ∧
  (∀ x,a≤x→x<mid→∀ y,mid≤y→y<b→¬ kLt (kAt l y) (kAt l x))∧Ord kLt cD (seg l a s)∧Ord kLt cD (seg l s mid)∧Ord kLt cD (seg l mid e)∧Ord kLt cD (seg l e b)
theorem rD (hI:MidInv ws p s0 r0 s s) (hk:MidOK ws a m b p s0 r0) (g1:s0=a∨p+1=b+s0) (g2:r0=m∨p+1=m+r0) (hmid:mid+m=p+1) (he:e+s=p+1):SymL ws (eT ws s m e) a s mid e b:=by
  obtain ⟨e1,e2,e3,e4,e5⟩:=hI
  obtain ⟨k1,k2,k3,k4,k5,k6,k7,k8⟩:=hk
  have hs:s≤m:=by omega
  have hme:m≤e:=by omega
  have heb:e≤b:=by omega
  have hmd:mid=s+(e-m):=by omega
  have hlen:=gS (l:=ws) hs hme ω
  have hg:∀ q,(eT ws s m e).getD q default=ws.getD (if q<s then q else if q<mid then m+(q-s) else if q<e then s+(q-mid) else q) default:=fun q=>by
    rw [jj hs hme ω]
    congr 1
    (repeat' split)<;>omega
  have kg:∀ q,kAt (eT ws s m e) q=kAt ws (if q<s then q else if q<mid then m+(q-s) else if q<e then s+(q-mid) else q):=fun q=>congrArg cD (hg q)
  have hx:∀ x,a≤x→x<s→∀ y,e≤y→y<b→¬ kLt (kAt ws y) (kAt ws x):=fun x h1 h2 y h3 h4=>by
    by_cases c:s0<s
    · have h5:=e4 (s-1) ω ω
      rw [show p-(s-1)=e by omega] at h5
      have h6:¬ kLt (kAt ws e) (kAt ws x):=by
        by_cases c2:x=s-1
        · rw [c2]; exact h5
        · exact wh (eV k6 ω h1 (show x<s-1 by omega) ω) h5
      by_cases c3:y=e
      · rw [c3]; exact h6
      · exact wh h6 (eV k7 k5 hme (show e<y by omega) h4)
    · rcases g1 with g1 | g1<;>omega
  have hy:∀ x,s≤x→x<m→∀ y,m≤y→y<e→kLt (kAt ws y) (kAt ws x):=fun x h1 h2 y h3 h4=>by
    by_cases c:s<r0
    · have h5:=e5 s (Nat.le_refl _) c
      have h6:kLt (kAt ws y) (kAt ws s):=by
        by_cases c2:y=p-s
        · rw [c2]; exact h5
        · exact qW (eV k7 k5 h3 (show y<p-s by omega) ω) h5
      by_cases c3:x=s
      · rw [c3]; exact h6
      · exact mm h6 (eV k6 ω ω (show s<x by omega) h2)
    · rcases g2 with g2 | g2<;>omega
  have s1:seg (eT ws s m e) a s=seg ws a s:=fR ω ω fun q q1 q2=>by rw [hg,if_pos ω]
  have s2:seg (eT ws s m e) s mid=seg ws m e:=fM (d:=default) (by rw [cY ω,cY ω]; omega) fun q hq=>by
    rw [cY ω] at hq
    rw [eP ω,eP ω,hg,if_neg ω,if_pos ω]; congr 1; omega
  have s3:seg (eT ws s m e) mid e=seg ws s m:=fM (d:=default) (by rw [cY ω,cY ω]; omega) fun q hq=>by
    rw [cY ω] at hq
    rw [eP ω,eP ω,hg,if_neg ω,if_neg ω,if_pos ω]; congr 1; omega
  have s4:seg (eT ws s m e) e b=seg ws e b:=fR ω ω fun q q1 q2=>by rw [hg,if_neg ω,if_neg ω,if_neg ω]
  refine ⟨hlen,fun q hq=>?_,?_,fun x q1 q2 y q3 q4=>?_,?_,?_,?_,?_⟩
  · rw [hg]
    by_cases c:q<s
    · rw [if_pos c]
    · rw [if_neg c,if_neg ω,if_neg ω]
  · have t1:seg (eT ws s m e) a b=seg ws a s++((seg ws m e++seg ws s m)++seg ws e b):=by
      rw [← cz (b:=s) ω ω,← cz (l:=eT ws s m e) (a:=s) (b:=e) (c:=b) ω ω,← cz (l:=eT ws s m e) (a:=s) (b:=mid) (c:=e) ω ω,s1,s2,s3,s4]
    have t2:seg ws a b=seg ws a s++((seg ws s m++seg ws m e)++seg ws e b):=by
      rw [cz (a:=s) hs hme,cz ω heb,cz ω ω]
    rw [t1,t2]
    refine cp.refl.app ((cp.swap fun x hx' y hy' ee=>?_).app .refl)
    obtain ⟨q,q1,q2,rfl⟩:=fK ω hx'
    obtain ⟨q',q3,q4,rfl⟩:=fK ω hy'
    have:=hy q q1 q2 q' q3 q4
    unfold kAt at this
    rw [ee] at this
    exact js.irr _ this
  · rw [kg,kg,if_neg (show ¬ y<s by omega),if_neg (show ¬ y<mid by omega)]
    by_cases c1:x<s
    · rw [if_pos c1]
      by_cases c2:y<e
      · rw [if_pos c2]; exact eV k6 ω q1 ω ω
      · rw [if_neg c2]; exact hx x q1 c1 y ω q4
    · rw [if_neg c1,if_pos q2]
      by_cases c2:y<e
      · rw [if_pos c2]
        exact fun hlt=>js.irr _ (js.tr _ _ _ hlt (hy _ ω ω _ ω ω))
      · rw [if_neg c2]; exact eV k7 k5 ω ω q4
  · rw [s1]; exact kG k6 ω (Nat.le_refl _) hs
  · rw [s2]; exact kG k7 k5 (Nat.le_refl _) heb
  · rw [s3]; exact kG k6 ω ω (Nat.le_refl _)
  · rw [s4]; exact kG k7 k5 hme (Nat.le_refl _)
theorem rH (h:s=m∨e=m) (hs:s≤m) (hm:m≤e) (he:e≤ws.length):eT ws s m e=ws:=
  mg (gS hs hm he) fun j=>by
    rw [jj hs hm he]
    congr 1
    (repeat' split)<;>omega
theorem pJ (hS:SymL ws l a s mid e b) (h1:SortSeg l l2 a mid) (h2:SortSeg l2 l3 mid b) (ha:a≤mid) (hm:mid≤b) (hb:b≤ws.length):SortSeg ws l3 a b:=by
  obtain ⟨e1,e2,e3,e4,_⟩:=hS
  obtain ⟨f1,f2,f3,f4⟩:=h1
  obtain ⟨g1,g2,g3,g4⟩:=h2
  have t1:seg l3 a mid=seg l2 a mid:=fR ω ω fun q q1 q2=>g2 q ω
  have t2:seg l2 mid b=seg l mid b:=fR ω ω fun q q1 q2=>f2 q ω
  rw [t2] at g4
  refine ⟨ω,fun q hq=>by rw [g2 q ω,f2 q ω,e2 q hq],?_,?_⟩
  · rw [← cz (b:=mid) ha hm,t1]
    refine f3.app g3 fun x hx y hy=>?_
    obtain ⟨q,q1,q2,rfl⟩:=fK (l:=l) ω (f4.mem hx)
    obtain ⟨q',q3,q4,rfl⟩:=fK (l:=l) ω (g4.mem hy)
    exact e4 q q1 q2 q' q3 q4
  · refine e3.trans ?_
    rw [← cz (l:=l) (b:=mid) ha hm,← cz (l:=l3) (b:=mid) ha hm,t1]
    exact f4.app g4
end
theorem oo {l l2:List RecV}{a mid x y:Nat}(h:SortSeg l l2 a mid) (h1:mid≤x) (h2:y≤l.length):seg l2 x y=seg l x y:=
  fR (by have:=h.1; omega) h2 fun q q1 _=>h.2.1 q ω
section
variable {P:Program}{n:Nat}{L:Env}{w:World}{d:Option Tmp}{ty:TypeId}{p:String}{af:Array Edge}{g:Option (Nat × Bool)}
theorem mi {xt yt:TypeId}{x y:Operand}{k1 k2:IntKind}{m:Nat}(hx:evL L x=some (.int k1 (m:Nat))) (hy:evL L y=some (.int k2 1)) (hk:k1 = .u64):Py P n L w ⟨d,.binOp .shr xt x y yt,ty,p,af,g⟩ (.int k1 ((m / 2:Nat):Int)):=by
  subst hk
  have h:=zh (P:=P) (n:=n) (w:=w) (d:=d) (ty:=ty) (p:=p) (af:=af) (g:=g) (xt:=xt) (yt:=yt) hx hy ω
  have e:(m:Int).fdiv (2^min (1:Int).toNat IntKind.u64.bits)=((m / 2:Nat):Int):=by
    show (m:Int).fdiv (2^1)=_
    rw [Int.fdiv_eq_ediv_of_nonneg _ ω]
    omega
  rw [e] at h
  exact h
end
end Go.Wk
namespace Go.Wk
section
variable {ws l:List RecV}{a b bs c e x y:Nat}
theorem pV {l l':List RecV}(h:SortSeg l l' a b) (hab:a≤b) (hb:b≤l.length):cp cD l l':=by
  obtain ⟨h1,h2,h3⟩:=h
  have e1:l=seg l 0 a++(seg l a b++seg l b l.length):=by
    rw [cz hab hb,cz (Nat.zero_le _) ω]; unfold seg; rw [List.take_length,List.drop_zero]
  have e2:l'=seg l 0 a++(seg l' a b++seg l b l.length):=by
    rw [fR ω ω (fun j _ q=>(h2 j (.inl q)).symm) (a:=0) (b:=a) (xs:=l) (ys:=l'),fR (Nat.le_refl _) ω (fun j q _=>(h2 j (.inr q)).symm) (a:=b) (b:=l.length) (xs:=l) (ys:=l')]
    rw [cz hab ω,cz (Nat.zero_le _) ω]; unfold seg; rw [← h1,List.take_length,List.drop_zero]
  intro k
  have:=(cp.app (cp.refl (key:=cD) (xs:=seg l 0 a)) (cp.app h3.2 (cp.refl (key:=cD) (xs:=seg l b l.length)))) k
  rw [e2]; conv=>rhs; rw [e1]
  exact this
theorem vZ {l l':List RecV}(h:SortSeg l l' a b) (hx:y≤a∨b≤x) (hy:y≤l.length):seg l' x y=seg l x y:=
  fR (by have:=h.1; omega) hy fun j q1 q2=>h.2.1 j ω
def OrdAt (l:List RecV) (bs c:Nat):Prop:=Ord kLt cD (seg l c (min (c+bs) l.length))
def Blocks (ws l:List RecV) (bs a:Nat):Prop:=l.length=ws.length∧cp cD ws l∧bs ∣ a∧a≤ws.length∧∀ c,bs ∣ c→c<a→OrdAt l bs c
def AllB (ws l:List RecV) (bs:Nat):Prop:=l.length=ws.length∧cp cD ws l∧∀ c,bs ∣ c→c<ws.length→OrdAt l bs c
theorem ra {bs c a:Nat}(h1:bs ∣ c) (h2:bs ∣ a) (h:c<a):c+bs≤a:=by
  obtain ⟨x,rfl⟩:=h1; obtain ⟨y,rfl⟩:=h2
  have:x<y:=Nat.lt_of_mul_lt_mul_left h
  calc bs*x+bs=bs*(x+1):=by rw [Nat.mul_add,Nat.mul_one]
    _≤bs*y:=Nat.mul_le_mul_left _ this
theorem xP:Blocks ws ws bs 0:=⟨rfl,.refl,Nat.dvd_zero _,Nat.zero_le _,fun c _ h=>by omega⟩
theorem qT {l l':List RecV}(hs:SortSeg l l' a b) (hc:c+bs≤a∨b≤c) (h:OrdAt l bs c):OrdAt l' bs c:=by
  unfold OrdAt at h ⊢
  rw [hs.1,vZ hs ω ω]; exact h
theorem uW {l l':List RecV}(hI:Blocks ws l bs a) (h0:0<bs) (h:a+bs≤ws.length) (hs:SortSeg l l' a (a+bs)):Blocks ws l' bs (a+bs):=by
  obtain ⟨h1,h2,h3,h4,h5⟩:=hI
  have e:=hs.1
  refine ⟨ω,h2.trans (pV hs ω ω),Nat.dvd_add h3 (Nat.dvd_refl _),h,fun c q1 q2=>?_⟩
  by_cases hc:c<a
  · exact qT hs (.inl (ra q1 h3 hc)) (h5 c q1 hc)
  · have:c=a:=by
      by_cases hca:c=a
      · exact hca
      · have:=ra h3 q1 ω; omega
    subst this
    unfold OrdAt; rw [show min (c+bs) l'.length=c+bs by omega]; exact hs.2.2.1
theorem vf {l l':List RecV}(hI:Blocks ws l bs a) (h:ws.length<a+bs) (hs:SortSeg l l' a ws.length):AllB ws l' bs:=by
  obtain ⟨h1,h2,h3,h4,h5⟩:=hI
  have e:=hs.1
  refine ⟨ω,h2.trans (pV hs ω ω),fun c q1 q2=>?_⟩
  by_cases hc:c<a
  · exact qT hs (.inl (ra q1 h3 hc)) (h5 c q1 hc)
  · have:c=a:=by
      by_cases hca:c=a
      · exact hca
      · have:=ra h3 q1 ω; omega
    subst this
    unfold OrdAt; rw [show min (c+bs) l'.length=ws.length by omega]; exact hs.2.2.1
def TwoB (ws l:List RecV) (bs a:Nat):Prop:=Blocks ws l (2*bs) a∧∀ c,bs ∣ c→a≤c→c<ws.length→OrdAt l bs c
theorem vW (h:AllB ws l bs):TwoB ws l bs 0:=⟨⟨h.1,h.2.1,Nat.dvd_zero _,Nat.zero_le _,fun c _ q=>by omega⟩,fun c q _=>h.2.2 c q⟩
theorem pr {bs c:Nat}(h:2*bs ∣ c):bs ∣ c:=Nat.dvd_trans (Nat.dvd_mul_left _ _) h
theorem zc (h:TwoB ws l bs a) (h1:a+bs≤ws.length) (h0:0<bs):Ord kLt cD (seg l a (a+bs)):=by
  have:=h.2 a (pr h.1.2.2.1) (Nat.le_refl _) ω
  unfold OrdAt at this
  rwa [show min (a+bs) l.length=a+bs by have:=h.1.1; omega] at this
theorem y9 (h:TwoB ws l bs a) (h1:a+bs<ws.length) (he:e=min (a+bs+bs) ws.length):Ord kLt cD (seg l (a+bs) e):=by
  have:=h.2 (a+bs) (Nat.dvd_add (pr h.1.2.2.1) (Nat.dvd_refl _)) ω h1
  unfold OrdAt at this
  rw [h.1.1] at this
  rw [he]; exact this
theorem xH {l l':List RecV}(hI:TwoB ws l bs a) (h0:0<bs) (h:a+2*bs≤ws.length) (hs:SortSeg l l' a (a+2*bs)):TwoB ws l' bs (a+2*bs):=
  ⟨uW hI.1 ω h hs,fun c q1 q2 q3=>qT hs (.inr q2) (hI.2 c q1 ω q3)⟩
theorem sa {l l':List RecV}(hI:TwoB ws l bs a) (h:ws.length<a+2*bs) (hs:SortSeg l l' a ws.length):AllB ws l' (2*bs):=vf hI.1 h hs
theorem xw (hI:TwoB ws l bs a) (h0:0<bs) (h:ws.length≤a+bs):AllB ws l (2*bs):=by
  have e:=hI.1.1
  refine sa hI ω ?_
  by_cases ha:a<ws.length
  · have:=hI.2 a (pr hI.1.2.2.1) (Nat.le_refl _) ha
    unfold OrdAt at this
    rw [show min (a+bs) l.length=ws.length by omega] at this
    exact iV this
  · exact qF ω
theorem ye (h:AllB ws l bs) (h1:ws.length≤bs) (h0:0<ws.length):SortSeg ws l 0 ws.length:=by
  have:=h.2.2 0 (Nat.dvd_zero _) h0
  unfold OrdAt at this
  rw [show min (0+bs) l.length=ws.length by have:=h.1; omega] at this
  refine ⟨h.1,fun q hq=>?_,this,?_⟩
  · have h':=h.1
    rw [List.getD_eq_getElem?_getD,List.getD_eq_getElem?_getD,List.getElem?_eq_none ω,List.getElem?_eq_none ω]
  · have e:∀ (x:List RecV),x.length=ws.length→seg x 0 ws.length=x:=fun x hx=>by unfold seg; rw [← hx,List.take_length,List.drop_zero]
    rw [e l h.1,e ws rfl]; exact h.2.1
theorem wW (h:SortSeg ws l 0 ws.length):Stable kLt cD ws l:=by
  have e:∀ (x:List RecV),x.length=ws.length→seg x 0 ws.length=x:=fun x hx=>by unfold seg; rw [← hx,List.take_length,List.drop_zero]
  have:=h.2.2; rw [e l h.1,e ws rfl] at this; exact this
end
end Go.Wk
namespace Go.Wk
open Rp (sz own)
def RdV (w:World) (ft:List Nat) (vs:List RecV):Prop:=∀ v∈vs,∃ f,own false w v.cs v.r f∧∀ b∈f,b∈ft
section
variable {w w':World}{ft f:List Nat}{vs us:List RecV}
theorem RdV.to (h:RdV w ft vs) (e:Ext No w w'):RdV w' ft vs:=fun v hv=>by
  obtain ⟨f,h1,h2⟩:=h v hv
  exact ⟨f,Rp.st h1 fun b hb=>e.block b (Rp.lt h1 b hb) id,h2⟩
theorem RdV.sub (h:RdV w ft vs) (hs:∀ v∈us,v∈vs):RdV w ft us:=fun v hv=>h v (hs v hv)
theorem RdV.nil:RdV w ft []:=fun v hv=>by simp at hv
theorem RdV.app (h:RdV w ft vs) (k:RdV w ft us):RdV w ft (vs++us):=fun v hv=>by
  rcases List.mem_append.1 hv with hv | hv
  · exact h v hv
  · exact k v hv
theorem RdV.at {k:Nat}(h:RdV w ft vs) (hk:k<vs.length):RdV w ft [vs.getD k default]:=fun v hv=>by
  rw [List.mem_singleton] at hv
  rw [hv,bL hk]
  exact h _ (List.getElem_mem _)
theorem qv:∀ {vs:List RecV}{cs f0},bY false w cs vs f0→RdV w ft vs→∃ f,bY false w cs (vs.map RecV.r) f∧∀ b∈f,b∈ft
  | [],_,_,h,_=>⟨[],rfl,σ⟩
  | v::vs,cs,f0,⟨g1,g2,e0,⟨e1,eg,ok⟩,h2⟩,hr=>by
    obtain ⟨f1,k1,k2⟩:=hr v σ
    obtain ⟨f2,r1,r2⟩:=qv h2 (hr.sub fun x hx=>by simp [hx])
    refine ⟨f1++f2,⟨f1,f2,rfl,?_,r1⟩,fun b hb=>?_⟩
    · rw [show cs.take (sz Rec)=v.cs from e1]; exact k1
    · rcases List.mem_append.1 hb with hb | hb
      · exact k2 b hb
      · exact r2 b hb
theorem rv {s:Bool}{ad n cap} {f0} (h:own s w [.slice ad n cap] vs f0) (hr:RdV w ft vs):∃ f,own false w [.slice ad n cap] (vs.map RecV.r) f∧∀ b∈f,b∈f0∨b∈ft:=by
  have el:(vs.map RecV.r).length=vs.length:=List.length_map _
  rcases ao h with ⟨hf,A,C,e,rfl,rfl⟩ | ⟨e,rfl,rfl⟩ | ⟨b,o,cap',cur,T,fr,fs,h1,h2,h3,h4,h5,h6,h7,h8⟩
  · exact ⟨[],.inl ⟨rfl,A,C,e,rfl,rfl⟩,σ⟩
  · exact ⟨[],.inr (.inl ⟨e,rfl,rfl⟩),σ⟩
  · obtain ⟨f1,k1,k2⟩:=qv h8 hr
    refine ⟨b::f1,.inr (.inr ⟨b,o,cap',cur,T,fr,f1,by rw [el]; exact h1,rfl,h3,h4,by rw [el]; exact h5,h6,h7,k1⟩),fun x hx=>?_⟩
    rcases List.mem_cons.1 hx with rfl | hx
    · left; rw [h2]; simp
    · exact .inr (k2 x hx)
end
theorem yn {vs:List RecV}(h:Ord kLt cD vs):Ord kLt cP (vs.map RecV.r):=by
  induction h with
  | nil=>exact .nil
  | cons h1 h2 ih=>exact .cons (fun y hy=>by obtain ⟨v,hv,rfl⟩:=List.mem_map.1 hy; exact h1 v hv) ih
theorem xY {vs us:List RecV}(h:cp cD vs us):cp cP (vs.map RecV.r) (us.map RecV.r):=fun k=>by
  rw [List.filter_map,List.filter_map]
  exact congrArg (List.map RecV.r) (h k)
theorem tB {vs us:List RecV}(h:Stable kLt cD vs us):Stable kLt cP (vs.map RecV.r) (us.map RecV.r):=⟨yn h.1,xY h.2⟩
theorem yr {ys:List Rec}(x:Rec) (h:Ord kLt cP ys):∃ A B,ys=A++B∧(∀ y∈B,kLt (cP x) (cP y))∧∀ y∈A,¬ kLt (cP x) (cP y):=by
  induction h with
  | nil=>exact ⟨[],[],rfl,σ,σ⟩
  | cons h1 h2 ih=>
    rename_i y l
    by_cases c:kLt (cP x) (cP y)
    · refine ⟨[],y::l,rfl,fun z hz=>?_,σ⟩
      rcases List.mem_cons.1 hz with rfl | hz
      · exact c
      · exact mm c (h1 z hz)
    · obtain ⟨A,B,e,hB,hA⟩:=ih
      refine ⟨y::A,B,by rw [e]; rfl,hB,fun z hz=>?_⟩
      rcases List.mem_cons.1 hz with rfl | hz
      · exact c
      · exact hA z hz
theorem sf (xs:List Rec) (x:Rec) (h:∃ ys,Stable kLt cP xs ys):∃ ys,Stable kLt cP (xs++[x]) ys:=by
  obtain ⟨ys,hy⟩:=h
  obtain ⟨A,B,rfl,hB,hA⟩:=yr x hy.1
  exact ⟨_,iK js hy hB hA⟩
theorem kR (xs:List Rec):∃ ys,Stable kLt cP xs ys:=by
  have:∀ (n:Nat),∃ ys,Stable kLt cP (xs.take n) ys:=fun n=>by
    induction n with
    | zero=>exact ⟨[],by simp; exact ⟨.nil,.refl⟩⟩
    | succ n ih=>
      by_cases hn:n<xs.length
      · rw [List.take_add_one,List.getElem?_eq_getElem hn]; exact sf _ _ ih
      · rw [List.take_of_length_le ω] at ih ⊢; exact ih
  have:=this xs.length
  rwa [List.take_length] at this
noncomputable def zU (xs:List Rec):List Rec:=(kR xs).choose
theorem uP {xs ys:List Rec}(h:Stable kLt cP xs ys):ys=zU xs:=pU js h (kR xs).choose_spec
noncomputable def ddR (out:List Rec) (r:Rec):List Rec:=if r∈out then out else out++[r]
noncomputable def allR (z:Wld) (k:Nat):List Rec:=((z.Tapes.take k).map Tape.Recs).flatten
noncomputable def dds (rs:List Rec):List Rec:=rs.foldl ddR []
noncomputable def dt (z:Wld):List Rec:=zU (dds (allR z z.Tapes.length))
noncomputable def dH (z:Wld) (k j:Nat):List Rec:=dds (allR z k++(z.Tapes.getD k default).Recs.take j)
theorem pI {z:Wld}:dH z 0 0=[]:=by simp [dH,allR,dds]
theorem lz {z:Wld}{k j:Nat}(h:j<(z.Tapes.getD k default).Recs.length):dH z k (j+1)=ddR (dH z k j) ((z.Tapes.getD k default).Recs.getD j default):=by
  unfold dH dds
  rw [List.take_add_one,List.getElem?_eq_getElem h,bL h,← List.append_assoc,List.foldl_append]
  rfl
theorem oy {z:Wld}{k:Nat}(h:k<z.Tapes.length):dH z k (z.Tapes.getD k default).Recs.length=dH z (k+1) 0:=by
  unfold dH allR
  rw [List.take_length,List.take_add_one,List.getElem?_eq_getElem h,bL h,List.take_zero,List.append_nil,List.map_append,List.flatten_append]
  simp only [Option.toList_some,List.map_cons,List.map_nil,List.flatten_cons,List.flatten_nil,List.append_nil]
theorem qk {z:Wld}{ys:List Rec}(h:Stable kLt cP (dH z z.Tapes.length 0) ys):ys=dt z:=by
  unfold dt
  rw [← uP]
  unfold dH at h
  simpa using h
theorem oH {out:List Rec}{r:Rec}(h:r∈out):ddR out r=out:=if_pos h
theorem lx {out:List Rec}{r:Rec}(h:¬ r∈out):ddR out r=out++[r]:=if_neg h
theorem ej {xs ys:List Rec}(h:Stable kLt cP xs ys) (r:Rec):r∈ys↔r∈xs:=⟨fun q=>h.2.mem q,fun q=>h.2.symm.mem q⟩
theorem vM {z:Wld}:∀ {k j:Nat},(dH z k j).length≤(allR z k).length+j:=by
  intro k j
  have key:∀ (rs out:List Rec),(rs.foldl ddR out).length≤out.length+rs.length:=by
    intro rs
    induction rs with
    | nil=>intro out; simp
    | cons r rs ih=>
      intro out
      have:=ih (ddR out r)
      have h2:(ddR out r).length≤out.length+1:=by unfold ddR; split<;>simp
      simp only [List.foldl_cons,List.length_cons]
      omega
  have:=key (allR z k++(z.Tapes.getD k default).Recs.take j) []
  unfold dH dds
  simp only [List.length_nil,List.length_append,List.length_take] at this
  omega
def orI:List Int→Int
  | []=>0
  | x::xs=>if x=0 then orI xs else x
theorem xZ:∀ {xs:List Int}{k:Nat},k<xs.length→(∀ i,i<k→xs.getD i 0=0)→xs.getD k 0≠0→orI xs=xs.getD k 0
  | [],k,h,_,_=>by simp at h
  | x::xs,0,_,_,h2=>if_neg h2
  | x::xs,k+1,h,h1,h2=>by
    have h0:x=0:=h1 0 ω
    show (if x=0 then orI xs else x)=_
    rw [if_pos h0,xZ (k:=k) (by simpa using h) (fun i hi=>h1 (i+1) ω) h2]
    rfl
theorem za:∀ {xs:List Int},(∀ i,i<xs.length→xs.getD i 0=0)→orI xs=0
  | [],_=>rfl
  | x::xs,h=>by
    have h0:x=0:=h 0 σ
    show (if x=0 then orI xs else x)=_
    rw [if_pos h0]
    exact za fun i hi=>h (i+1) (by simpa using hi)
theorem zJ {x y:Rec}:orI [gJ x.Seq y.Seq,gJ x.Kind y.Kind,gJ x.Group y.Group]=cfR x y:=by
  unfold cfR orI orI orI orI
  by_cases a:gJ x.Seq y.Seq=0<;>by_cases b:gJ x.Kind y.Kind=0<;>by_cases c:gJ x.Group y.Group=0<;>simp [a,b,c]
end Go.Wk
namespace Go.Wk
open Rp (sz own)
section
variable {w w' w0:World}{ft f:List Nat}{vs us:List RecV}{M:Nat→Prop}{Δ F:List Rsc}
theorem RdV.back (h:RdV w' ft vs) (e:Ext No w w') (hl:∀ b∈ft,b<w.heap.size):RdV w ft vs:=fun v hv=>by
  obtain ⟨f,h1,h2⟩:=h v hv
  exact ⟨f,Rp.st h1 fun b hb=>(e.block b (hl b (h2 b hb)) id).symm,h2⟩
def InF {α:Type}[Rp α] (w:World) (ft:List Nat) (cs:List Value) (x:α):Prop:=∃ f,own false w cs x f∧∀ b∈f,b∈ft
theorem RdV.inF {v:RecV}(h:RdV w ft vs) (hv:v∈vs):InF w ft v.cs v.r:=h v hv
theorem RdV.inAt {k:Nat}(h:RdV w ft vs) (hk:k<vs.length):InF w ft (vs.getD k default).cs (vs.getD k default).r:=h _ (by rw [bL hk]; exact List.getElem_mem _)
theorem InF.back {α:Type}[Rp α] {cs:List Value}{x:α}(h:InF w' ft cs x) (e:Ext No w w') (hl:∀ b∈ft,b<w.heap.size):InF w ft cs x:=by
  obtain ⟨f,h1,h2⟩:=h
  exact ⟨f,Rp.st h1 fun b hb=>(e.block b (hl b (h2 b hb)) id).symm,h2⟩
theorem InF.rdv {v:RecV}(h:InF w ft v.cs v.r):RdV w ft [v]:=fun u hu=>by
  rw [List.mem_singleton] at hu; subst hu; exact h
theorem InF.ok {v:RecV}(h:InF w ft v.cs v.r):v.r.Ok:=by
  obtain ⟨f,h1,_⟩:=h
  obtain ⟨f6,f7,f8,_,ok,_⟩:=kA h1
  exact ok
theorem InF.sees {v:RecV}(h:InF w ft v.cs v.r):Sees w [.slice v.A6 v.r.Rows.length v.C6] v.r.Rows∧Sees w [.slice v.A7 v.r.Data.length v.C7] v.r.Data∧Sees w [.slice v.A8 v.r.Delta.length v.C8] v.r.Delta:=by
  obtain ⟨f,h1,_⟩:=h
  obtain ⟨f6,f7,f8,_,ok,o6,o7,o8⟩:=kA h1
  exact ⟨⟨_,o6⟩,⟨_,o7⟩,⟨_,o8⟩⟩
theorem Mut.none {α:Type}[Rp α] {cs:List Value}{x:α}{fp:List Nat}(e:Ext No w w') (h:own true w cs x fp) (hn:fp.Nodup):Mut w w' fp cs x:=
  ⟨e.no,fp,Rp.st h fun b hb=>e.block b (Rp.lt h b hb) id,hn,fun b hb => .inl hb⟩
theorem uA:Stable kLt cD ([]:List RecV) []:=⟨.nil,.refl⟩
theorem RdV.stable (h:RdV w ft vs) (hs:Stable kLt cD vs us):RdV w ft us:=h.sub fun v hv=>hs.2.mem hv
theorem RdV.snoc {v:RecV}(h:RdV w ft vs) (hv:InF w ft v.cs v.r):RdV w ft (vs++[v]):=h.app hv.rdv
theorem RdV.list {s:Bool}{ad n cap} {f0:List Nat}(hr:RdV w ft vs) (h:own s w [.slice ad n cap] vs f0):Sees w [.slice ad n cap] (vs.map RecV.r):=by
  obtain ⟨f,h1,_⟩:=rv h hr
  exact ⟨f,h1⟩
end
theorem qN {a b:Int} : -1≤gJ a b∧gJ a b≤1:=by unfold gJ; split<;>(try split)<;>omega
instance (a b:Int × Int × Int):Decidable (kLt a b):=by unfold kLt; infer_instance
instance:Flat RecV where
  flat h:=⟨h.2.1,fun _ _=>⟨h.1,rfl,h.2.2⟩⟩
theorem zt {xs:List Rec}{r:Rec}:xs.any (fun x=>decide (x=r))=decide (r∈xs):=by
  rw [Bool.eq_iff_iff]; simp
theorem yq {xs:List Rec}{r:Rec}{k:Nat}(h:k<xs.length) (e:xs.getD k default=r):true=decide (r∈xs):=by
  rw [eq_comm,decide_eq_true_eq,← e,bL h]; exact List.getElem_mem _
theorem zg {xs:List Rec}{r:Rec}(h:∀ i,i<xs.length→decide (xs.getD i default=r)=false):false=decide (r∈xs):=by
  rw [eq_comm,decide_eq_false_iff_not]
  intro hm
  obtain ⟨i,hi,e⟩:=List.getElem_of_mem hm
  have:=h i hi
  rw [decide_eq_false_iff_not,bL hi] at this
  exact this e
theorem eI {vs:List RecV}{rs:List Rec}(e:vs.map RecV.r=rs) {k:Nat}(hk:k<vs.length):(vs.getD k default).r=rs.getD k default:=by
  rw [← e,bL hk]; simp [List.getD,hk]
theorem x8 {z:Wld}{vs us:List RecV}(hm:vs.map RecV.r=dH z z.Tapes.length 0) (hs:Stable kLt cD vs us):us.map RecV.r=dt z:=
  qk (by rw [← hm]; exact tB hs)
theorem sm {z:Wld}{B:Nat}(h:∀ k,(z.Tapes.getD k default).Recs.length≤B):∀ k,k≤z.Tapes.length→(allR z k).length≤k*B
  | 0,_=>by simp [allR]
  | k+1,hk=>by
    have ih:=sm h k ω
    have h1:=h k
    unfold allR at ih ⊢
    rw [List.take_add_one,List.getElem?_eq_getElem ω,List.map_append,List.flatten_append,List.length_append]
    simp only [Option.toList_some,List.map_cons,List.map_nil,List.flatten_cons,List.flatten_nil,List.append_nil]
    rw [← bL ω (d:=default)]
    rw [Nat.add_mul]; omega
theorem lY {z:Wld}(hT:z.Tapes.length=2) (h:∀ k,(z.Tapes.getD k default).Recs.length≤200000) {k j:Nat}(hk:k≤2) (hj:j≤200000):(dH z k j).length≤600000:=by
  have h1:=vM (z:=z) (k:=k) (j:=j)
  have h2:=sm h k ω
  omega
theorem jF {z:Wld}(hT:z.Tapes.length=2) (h:∀ k,(z.Tapes.getD k default).Recs.length≤200000):(dt z).length≤600000:=by
  have h1:=lY hT h (k:=2) (j:=0) ω ω
  have h2:Stable kLt cP (dH z z.Tapes.length 0) (dt z):=by
    unfold dt dH
    simp only [List.take_zero,List.append_nil]
    exact (kR _).choose_spec
  have:=h2.2.len
  rw [hT] at this
  omega
theorem iC {z:Wld}(h:bV z=0):∀ k,(z.Tapes.getD k default).Recs.length≤200000:=fun k=>by
  have hT:=(bR h).2.2.2.1
  obtain ⟨h1,h2⟩:=kL h
  by_cases e:k<2
  · have:k=0∨k=1:=by omega
    rcases this with rfl | rfl<;>omega
  · have:z.Tapes.getD k default=default:=by simp [List.getD,List.getElem?_eq_none (show z.Tapes.length≤k by omega)]
    rw [this]; exact Nat.zero_le _
end Go.Wk
namespace Go.Wk
section
variable {vs:List RecV}{r:Rec}{a:Nat}
theorem yo {rs:List Rec}(h:Ord kLt cP rs):∀ {i q:Nat},i≤q→q<rs.length→¬ kLt (cP (rs.getD q default)) (cP (rs.getD i default)):=by
  induction h with
  | nil=>intro i q _ h; simp at h
  | cons h1 h2 ih=>
    rename_i y l
    intro i q hiq hq
    cases i with
    | zero=>
      cases q with
      | zero=>exact js.irr _
      | succ q=>
        have hq':q<l.length:=by simpa using hq
        show ¬ kLt (cP (l.getD q default)) (cP y)
        rw [bL hq']
        exact h1 _ (List.getElem_mem _)
    | succ i=>
      cases q with
      | zero=>omega
      | succ q=>exact ih ω (by simpa using hq)
theorem zo {rs:List Rec}(ho:Ord kLt cP rs) (ha:a≤rs.length) (h:a=0∨¬ kLt (cP r) (cP (rs.getD (a-1) default))):∀ y∈rs.take a,¬ kLt (cP r) (cP y):=by
  intro y hy
  obtain ⟨i,hi,e⟩:=List.getElem_of_mem hy
  rw [List.length_take] at hi
  rw [List.getElem_take] at e
  rcases h with h | h
  · omega
  · intro hlt
    have h2:=yo ho (i:=i) (q:=a-1) ω ω
    rw [bL (by omega:i<rs.length),e] at h2
    exact h (mm hlt h2)
theorem zq {rs:List Rec}(hB:∀ i,a≤i→i<rs.length→kLt (cP r) (cP (rs.getD i default))):∀ y∈rs.drop a,kLt (cP r) (cP y):=by
  intro y hy
  obtain ⟨i,hi,e⟩:=List.getElem_of_mem hy
  rw [List.length_drop] at hi
  rw [List.getElem_drop] at e
  have:=hB (a+i) ω ω
  rwa [bL ω,e] at this
theorem kS {xs rs:List Rec}(h:Stable kLt cP xs rs) (ha:a≤rs.length) (h1:a=0∨¬ kLt (cP r) (cP (rs.getD (a-1) default))) (hB:∀ i,a≤i→i<rs.length→kLt (cP r) (cP (rs.getD i default))) :
    Stable kLt cP (xs++[r]) (rs.take a++r::rs.drop a):=
  iK js (by rw [List.take_append_drop]; exact h) (zq hB) (zo h.1 ha h1)
theorem vj {l h:Nat}:(cut vs l h).map RecV.r=cut (vs.map RecV.r) l h:=by unfold cut; rw [List.map_take,List.map_drop]
theorem ja {v:RecV}(e:v.r=r) (ha:a≤vs.length):(cut vs 0 a++[v]++cut vs a vs.length).map RecV.r=(vs.map RecV.r).take a++r::(vs.map RecV.r).drop a:=by
  rw [List.map_append,List.map_append,vj,vj]
  unfold cut
  rw [List.drop_zero,Nat.sub_zero,List.take_of_length_le (by simp:((vs.map RecV.r).drop a).length≤vs.length-a)]
  simp [e]
theorem x7 {l h:Nat}:∀ v∈cut vs l h,v∈vs:=fun v hv=>by
  unfold cut at hv
  exact List.mem_of_mem_drop (List.mem_of_mem_take hv)
end
end Go.Wk
namespace Go.Wk
open Rp (sz own)
section
variable {P:Program}{n:Nat}{ops:Array Oper}{Q:Post}{L:Env}{w w0:World}{M:Nat→Prop}{Δ F:List Rsc}{d:Tmp}{ty:TypeId}{p:String}{af:Array Edge}{g:Option (Nat × Bool)}
theorem lJ {l:Nat}{rl:List (Nat × Bool)}{S:World→Prop}{t e:TypeId}{parts:Array (Nat × Operand)}{z:Value}{bytes:Nat}(xs:List Int) (ho:ops.toList[l]? = some ⟨some d,.buildSlice t xs.length parts,ty,p,af,g⟩) (hw:Wn ops n L ⟨some d,.buildSlice t xs.length parts,ty,p,af,g⟩) (hn:Nat.blt d n=true) (ht:P.underlying t=some (.slice e)) (hT:Ty P e z 1 bytes)
    (hix:parts.toList.map (·.1)=List.range xs.length) (hv:fm L (parts.toList.map (·.2))=some (xs.map (Value.int .i64))) (hk:∀ x∈xs,I64ok x) (h0:0<xs.length) (hl:xs.length≤1000) (H:Sep M w0 Δ F w) (hS:∀ w',S w→Ext No w w'→S w')
    (k:∀ b w',Ext No w w'→w.heap.size≤b→Sep M w0 (Δ++[mine [.slice (some ⟨b,0,none⟩) xs.length xs.length] xs [b]]) F w'→DL P n ops Q S rl ((d,.slice (some ⟨b,0,none⟩) xs.length xs.length)::L) w') :
    DL P n ops Q S ((l,false)::rl) L w:=by
  have hparts:∀ a,Good n a L→(parts.map fun (i,x)=>(i,a.eval x)).toList=((xs.map (Value.int .i64)).zipIdx 0).map fun x=>(x.2,x.1):=fun a ha=>by
    have key:∀ (l:List (Nat × Operand)) (vs:List Value) (k:Nat),l.map (·.1)=List.range' k vs.length→fm L (l.map (·.2))=some vs→l.map (fun x=>(x.1,a.eval x.2))=(vs.zipIdx k).map fun x=>(x.2,x.1):=by
      intro l
      induction l with
      | nil=>intro vs k h1 h2; simp [fm] at h2; subst h2; rfl
      | cons x l ih=>
        intro vs k h1 h2
        simp only [List.map_cons] at h1 h2 ⊢
        unfold fm at h2
        split at h2
        · rename_i v us hv hus
          cases h2
          rw [List.length_cons,List.range'_succ] at h1
          simp only [List.cons.injEq] at h1
          rw [List.zipIdx_cons,List.map_cons,← ih us (k+1) h1.2 hus,ha.eval hv,h1.1]
        · cases h2
    rw [Array.toList_map]
    refine key parts.toList _ 0 ?_ hv
    rw [hix,List.length_map,List.range_eq_range']
  have hp:=ni (n:=n) (w:=w) (ty:=ty) (p:=p) (af:=af) (g:=g) (d:=some d) (parts:=parts) (vs:=xs.map (Value.int .i64)) (len:=xs.length) ht hT ω σ hparts (by intro v hv; simp at hv; obtain ⟨x,_,rfl⟩:=hv; rfl) h0 ω
  refine lm ho hw rfl hn hp (fun h _=>hS _ h (Ext.refl.alloc _)) (k _ _ (Ext.refl.alloc _) (Nat.le_refl _) ?_)
  refine H.add (Ext.refl.alloc _) (r:=Wk.mine [.slice (some ⟨w.heap.size,0,none⟩) xs.length xs.length] xs [w.heap.size]) (.inr (.inr ⟨w.heap.size,0,_,_,e,(0,0),[],rfl,rfl,heap_alloc_new w _,fun _=>rfl,Nat.le_refl _,by unfold maxLen; omega,?_,?_⟩)) (by simp [Wk.mine]) (by simp [Wk.mine])
  · have:∀ l:List Int,(l.map (Value.int .i64)).flatMap (fun v=>v.cells.toList)=l.map (Value.int .i64):=by
      intro l; induction l with
      | nil=>rfl
      | cons x l ih=>simp only [List.map_cons,List.flatMap_cons,ih]; rfl
    simp [this,sz]
  · have:∀ l:List Int,(l.map (Value.int .i64)).flatMap (fun v=>v.cells.toList)=l.map (Value.int .i64):=by
      intro l; induction l with
      | nil=>rfl
      | cons x l ih=>simp only [List.map_cons,List.flatMap_cons,ih]; rfl
    simp only [this,List.drop_zero]
    exact oS hk
end
end Go.Wk
namespace Go.Wk
open Rp (sz own)
section
variable {z:Wld}{r:Rec}{g row:Int}
theorem xc {r:Rec}:∀ {rs out:List Rec},r∈rs.foldl ddR out→r∈out∨r∈rs
  | [],_,h => .inl h
  | x::rs,out,h=>by
    rcases xc (rs:=rs) h with h | h
    · unfold ddR at h
      split at h
      · exact .inl h
      · rcases List.mem_append.1 h with h | h
        · exact .inl h
        · exact .inr (by rw [List.mem_singleton] at h; simp [h])
    · exact .inr (List.mem_cons_of_mem _ h)
theorem jv:Stable kLt cP (dds (allR z z.Tapes.length)) (dt z):=(kR _).choose_spec
theorem vh (h:r∈dt z):∃ k j,k<z.Tapes.length∧j<(z.Tapes.getD k default).Recs.length∧(z.Tapes.getD k default).Recs.getD j default=r:=by
  have h1:r∈dds (allR z z.Tapes.length):=jv.2.mem h
  rcases xc h1 with h2 | h2
  · cases h2
  · unfold allR at h2
    rw [List.take_length] at h2
    obtain ⟨l,hl,hr⟩:=List.mem_flatten.1 h2
    obtain ⟨t,ht,rfl⟩:=List.mem_map.1 hl
    obtain ⟨k,hk,e⟩:=List.getElem_of_mem ht
    obtain ⟨j,hj,e2⟩:=List.getElem_of_mem hr
    have e3:z.Tapes.getD k default=t:=by rw [bL hk]; exact e
    exact ⟨k,j,hk,by rw [e3]; exact hj,by rw [e3,bL hj]; exact e2⟩
theorem tZ (h:r∈dt z):fN r≤df z:=by
  obtain ⟨k,j,hk,hj,e⟩:=vh h
  have h1:=(fc (f:=gK) (Nat.le_refl _) k hk).1
  have h2:=(fc (f:=fN) (Nat.le_refl _) j hj).1
  rw [e] at h2
  have h3:gK (z.Tapes.getD k default)=szL fN (z.Tapes.getD k default).Recs:=rfl
  unfold df
  omega
theorem wI:nz r≤6+fN r:=by unfold nz fN; omega
theorem sd {w0 w:World}{c:Int}(h:I64ok c):Res w0 w [.int .i64 c,.slice none 0 0] (⟨c,[]⟩:RecsResult):=
  ⟨_,RecsResult.own_mk (x:=⟨c,[]⟩) h (.inr (.inl ⟨rfl,rfl,rfl⟩)),List.nodup_nil,σ⟩
end
end Go.Wk
namespace Go.Wk
open Rp (sz own)
section
variable {z:Wld}{r:Rec}{g row:Int}{k j:Nat}
theorem sG (h:bV z=0) (hr:r∈dt z):fH z.Shape r=0:=by
  obtain ⟨k,j,hk,hj,e⟩:=vh hr
  have ht:=(bR h).2.2.2.2
  rcases Decidable.em (fH z.Shape r=0) with c | c
  · exact c
  · exfalso
    have h0:di z.Shape z.Tapes z.Tapes.length=0:=by
      unfold dN at ht
      split at ht
      · cases ht
      · split at ht
        · next c2=>exact absurd ht c2
        · omega
    have hk0:di z.Shape z.Tapes (k+1)=0:=by
      rcases Decidable.em (di z.Shape z.Tapes (k+1)=0) with c2 | c2
      · exact c2
      · rw [hC c2 _ hk] at h0; exact absurd h0 c2
    have hk1:di z.Shape z.Tapes k=0:=by
      rcases Decidable.em (di z.Shape z.Tapes k=0) with c2 | c2
      · exact c2
      · rw [hC c2 _ (Nat.le_succ k)] at hk0; exact absurd hk0 c2
    rw [eH hk1] at hk0
    have hj0:dr z.Shape (z.Tapes.getD k default).Recs (j+1)=0:=by
      rcases Decidable.em (dr z.Shape (z.Tapes.getD k default).Recs (j+1)=0) with c2 | c2
      · exact c2
      · rw [hX c2 _ hj] at hk0; exact absurd hk0 c2
    have hj1:dr z.Shape (z.Tapes.getD k default).Recs j=0:=by
      rcases Decidable.em (dr z.Shape (z.Tapes.getD k default).Recs j=0) with c2 | c2
      · exact c2
      · rw [hX c2 _ (Nat.le_succ j)] at hj0; exact absurd hj0 c2
    rw [ff hj1,e] at hj0
    exact c hj0
end
end Go.Wk

namespace Go.Wk
open Rp (sz own)
section
variable {α:Type}[Inhabited α] {f:α→Nat}{xs:List α}{y:α}{i:Nat}
theorem xq (h:i<xs.length):mkL f (xs.set i y)+f (xs.getD i default)=mkL f xs+f y:=by
  unfold mkL
  rw [List.length_set]
  have e1:fS (fun j=>f ((xs.set i y).getD j default)+(if j=i then f (xs.getD i default) else 0)) xs.length=fS (fun j=>f (xs.getD j default)+(if j=i then f y else 0)) xs.length:=
    lD fun j hj=>by
      rw [ep]
      by_cases e:j=i
      · subst e; rw [if_pos ⟨rfl,h⟩,if_pos rfl,if_pos rfl]; omega
      · rw [if_neg (fun q=>e q.1),if_neg e,if_neg e]
  rw [mK,mK,pC,pC,if_pos h,if_pos h] at e1
  exact e1
end
section
variable {z:Wld}{r:Rec}{rs:List Rec}{t:Nat}
theorem uR {i:Nat}(h:i<rs.length):rs.drop i=rs.getD i default::rs.drop (i+1):=by
  rw [bL h]; exact List.drop_eq_getElem_cons h
end
end Go.Wk

namespace Go.Wk
open Rp (sz own)
section
variable {α K:Type}{lt:K→K→Prop}{key:α→K}
theorem Ord.at [Inhabited α] {xs:List α}(h:Ord lt key xs):∀ {i j:Nat},i<j→j<xs.length→¬ lt (key (xs.getD j default)) (key (xs.getD i default)):=by
  induction h with
  | nil=>intro i j _ h; simp at h
  | cons h1 h2 ih=>
    intro i j hij hj
    obtain ⟨j,rfl⟩:∃ k,j=k+1:=⟨j-1,ω⟩
    rw [List.length_cons] at hj
    rcases Nat.eq_zero_or_pos i with e | e
    · subst e
      rw [List.getD_cons_succ,List.getD_cons_zero,bL ω]
      exact h1 _ (List.getElem_mem _)
    · obtain ⟨i,rfl⟩:∃ k,i=k+1:=⟨i-1,ω⟩
      rw [List.getD_cons_succ,List.getD_cons_succ]
      exact ih ω ω
end
end Go.Wk
namespace Go.Wk
structure Way where
  n:Nat
  hs:List Int
  x:Int
  g:List UInt8
  m:Mat
  steps:List (Mat × Nat)
  w:List UInt8
end Go.Wk
namespace Go.Wk
open Rp (sz own)
section
variable {M:Nat→Prop}{w0 w:World}{Δ F:List Rsc}
theorem Sep.packB (h:Sep M w0 Δ F w) (j:Nat) {a:Option Addr}{n c:Nat}{bs:List UInt8}{f:List Nat}(q:Int) (hj:Δ[j]? = some (Wk.mine [.slice a n c] bs f)) (hq:I64ok q) :
    Sep M w0 (Δ.set j (Wk.mine [.int .i64 q,.slice a n c] (⟨q,bs⟩:Block) f)) F w:=by
  have ho:=h.mine j hj
  obtain rfl:=en ho
  have hn:f.Nodup:=h.nodup1 hj
  exact h.set hj (q:=Wk.mine [.int .i64 q,.slice a bs.length c] (⟨q,bs⟩:Block) f) Ext.refl (Block.own_mk (x:=⟨q,bs⟩) hq ho) hn (fun b hb => .inl hb)
end
end Go.Wk
