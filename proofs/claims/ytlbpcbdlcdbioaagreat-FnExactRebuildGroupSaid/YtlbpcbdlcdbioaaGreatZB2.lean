/-
  Laws on walking, and the functions walked, each once: what this claim comes to.
-/
import Derived.Test.YtlbpcbdlcdbioaaGreatZB1
set_option linter.unusedVariables false
set_option linter.unusedSimpArgs false
namespace Go.Wk
open Rp (sz own)
section
variable {z:Wld}{s:Shape}{g row d:Int}
theorem yx (h:ins g 0 (z.Shape.Groups+z.Shape.Column-1)=false):ge z g=3:=by rw [ge,if_neg (by simp [h])]
theorem vA (h:ins g 0 (z.Shape.Groups+z.Shape.Column-1)=true) (h2:¬ g∈z.On):ge z g=8:=by rw [ge,if_pos h,if_neg h2]
theorem x9 (h:ins g 0 (z.Shape.Groups+z.Shape.Column-1)=true) (h2:g∈z.On):ge z g=0:=by rw [ge,if_pos h,if_pos h2]
def ov (s:Shape) (g d row:Int):Bool:=ins g 0 (s.Groups+s.Column-1) && (ins d 0 (s.Data+s.Spare-1) && ins row 0 (s.Rows-1))
theorem wQ (h:s.ok=true):ov s g 0 row=(ins g 0 (s.Groups+s.Column-1) && ins row 0 (s.Rows-1)):=by
  have:=bm h
  have:ins 0 0 (s.Data+s.Spare-1)=true:=bk.2 ω
  rw [ov,this,Bool.true_and]
theorem CN (h:z.Shape.ok=true) (h2:ov z.Shape g 0 row=false):tR z g row=3:=by
  rw [wQ h] at h2
  unfold tR
  by_cases hg:ins g 0 (z.Shape.Groups+z.Shape.Column-1)=true
  · rw [if_pos ⟨hg,by rw [hg,Bool.true_and] at h2; exact h2⟩]
  · rw [if_neg (fun e=>hg e.1),yx (by simpa using hg)]
theorem uQ (h:z.Shape.ok=true) (h2:ov z.Shape g 0 row=true):tR z g row=ge z g∧ins g 0 (z.Shape.Groups+z.Shape.Column-1)=true:=by
  rw [wQ h,Bool.and_eq_true] at h2
  exact ⟨by rw [tR,if_neg (by simp [h2.2])],h2.1⟩
theorem Hq (h:z.Shape.ok=true) (h2:ov z.Shape g 0 row=true) (h3:decide (g∈z.On)=false):tR z g row=8:=by
  rw [(uQ h h2).1,vA (uQ h h2).2 (of_decide_eq_false h3)]
theorem I9 (h:z.Shape.ok=true) (h2:ov z.Shape g 0 row=true) (h3:decide (g∈z.On)=true):tR z g row=0:=by
  rw [(uQ h h2).1,x9 (uQ h h2).2 (of_decide_eq_true h3)]
theorem Au (h:ge z g=0):ins g 0 (z.Shape.Groups+z.Shape.Column-1)=true∧g∈z.On:=by
  unfold ge at h
  split at h
  · rename_i h1
    split at h
    · rename_i h2; exact ⟨h1,h2⟩
    · cases h
  · cases h
theorem ii (h:fo z g row=0):z.Shape.ok=true∧bv z=true∧ins g 0 (z.Shape.Groups+z.Shape.Column-1)=true∧ins row 0 (z.Shape.Rows-1)=true∧g∈z.On:=by
  unfold fo at h
  split at h
  · rename_i h1; exact absurd h h1
  · rename_i h1
    have hw:=cw (jd (w:=z) ω).1
    unfold tR at h
    split at h
    · cases h
    · rename_i h2
      obtain ⟨h3,h4⟩:=Au h
      exact ⟨hw.1,hw.2.1,h3,by cases hr:ins row 0 (z.Shape.Rows-1)<;>simp_all,h4⟩
theorem yy (h:fo z g row=0):upF z=0:=by
  unfold fo at h
  split at h
  · rename_i h1; exact absurd h h1
  · omega
theorem px {b:Bool}(h:(!b)=true):¬ b=true:=by cases b<;>simp_all
theorem vN {b:Bool}(h:(!b)=false):b=true:=by cases b<;>simp_all
theorem ki {g:List Drive}{row k:Nat}(h:¬ (g.getD k default).Wiped=true):dD g row (k+1)=if dD g row k≤((g.getD k default).Blocks.getD row default).Stamp then ((g.getD k default).Blocks.getD row default).Stamp else dD g row k:=by rw [dD,if_neg h]
theorem pY {g:List Drive}{row k:Nat}(h:(g.getD k default).Wiped=true):dD g row (k+1)=dD g row k:=by rw [dD,if_pos h]
end
end Go.Wk
namespace Go.Wk
section
variable {z:Wld}{s:Shape}{r:Rec}{g row d:Int}
theorem GN:0≤s.fault∧s.fault≤3:=by unfold Shape.fault; split<;>omega
theorem Iu {b:ByteArray}:0≤dv b∧dv b≤5:=by unfold dv; split<;>omega
theorem Hx:0≤fZ s r∧fZ s r≤5:=by
  have:=Iu (b:=r.Name)
  unfold fZ
  repeat' split
  all_goals omega
theorem Ik:0≤recF s r∧recF s r≤5:=by
  have:=Hx (s:=s) (r:=r)
  unfold recF
  repeat' split
  all_goals omega
theorem zT {rs:List Rec}:∀ k,0≤fE s rs k∧fE s rs k≤5
  | 0=>by simp [fE]
  | k+1=>by
    have h1:=zT (rs:=rs) k
    have h2:=Ik (s:=s) (r:=rs.getD k default)
    rw [fE]
    split<;>omega
theorem AQ {ts:List Tape}:∀ k,0≤fg s ts k∧fg s ts k≤5
  | 0=>by simp [fg]
  | k+1=>by
    have h1:=AQ (ts:=ts) k
    have h2:=zT (s:=s) (rs:=(ts.getD k default).Recs) (ts.getD k default).Recs.length
    rw [fg]
    split<;>omega
theorem Gc:0≤gb z∧gb z≤5:=by
  have:=AQ (s:=z.Shape) (ts:=z.Tapes) z.Tapes.length
  unfold gb
  repeat' split
  all_goals omega
theorem Fv:0≤fO z∧fO z≤5:=by
  have h1:=GN (s:=z.Shape)
  have h2:=Gc (z:=z)
  unfold fO
  repeat' split
  all_goals omega
theorem tO:0≤upF z∧upF z≤9:=by
  have h1:=Fv (z:=z)
  unfold upF
  repeat' split
  all_goals omega
theorem FT:0≤ge z g∧ge z g≤8:=by unfold ge; repeat' split<;>omega
theorem IY:0≤tR z g row∧tR z g row≤8:=by
  have h1:=FT (z:=z) (g:=g)
  unfold tR; split<;>omega
theorem mz:0≤fo z g row∧fo z g row≤9:=by
  have h1:=tO (z:=z)
  have h2:=IY (z:=z) (g:=g) (row:=row)
  unfold fo; split<;>omega
theorem wc {G:List Drive}{row:Nat}(h:∀ d,d<G.length→0≤((G.getD d default).Blocks.getD row default).Stamp∧((G.getD d default).Blocks.getD row default).Stamp≤1000000000):∀ k,k≤G.length→0≤dD G row k∧dD G row k≤1000000000
  | 0,_=>by simp [dD]
  | k+1,hk=>by
    have h1:=wc h k ω
    have h2:=h k ω
    rw [dD]
    repeat' split
    all_goals omega
theorem Hr (hs:z.Shape.ok=true) (hG:bv z=true) (hg:ins g 0 (z.Shape.Groups+z.Shape.Column-1)=true) (hr:ins row 0 (z.Shape.Rows-1)=true) :
    0≤dD (z.Groups.getD g.toNat []) row.toNat (z.Groups.getD g.toNat []).length∧dD (z.Groups.getD g.toNat []) row.toNat (z.Groups.getD g.toNat []).length≤1000000000:=by
  have hgg:=dz hG
  have hgi:=bk.1 hg
  have hri:=bk.1 hr
  obtain ⟨hl,hd⟩:=hgg.2 g.toNat ω
  refine wc (fun d hdl=>?_) _ (Nat.le_refl _)
  obtain ⟨h1,h2⟩:=hd d hdl
  have:=ik (h2 row.toNat ω)
  exact ⟨this.1,this.2.1⟩
end
end Go.Wk
namespace Go.Wk
open Rp (sz own)
def cat (r q:Rsc):Rsc:=⟨r.fp++q.fp,fun w=>r.φ w∧q.φ w,fun h k=>⟨r.st h.1 fun b hb=>k b (by simp [hb]),q.st h.2 fun b hb=>k b (by simp [hb])⟩,fun h b hb=>(List.mem_append.1 hb).elim (r.lt h.1 b) (q.lt h.2 b)⟩
section
variable {M:Nat→Prop}{w0 w w':World}{Δ F:List Rsc}
theorem Sep.join2 (h:Sep M w0 Δ F w) (i j:Nat) {r q:Rsc}(hi:Δ[i]? = some r) (hj:Δ[j]? = some q) (hij:Nat.beq j i=false):Sep M w0 ((Δ.set j gone).set i (cat r q)) F w:=
  h.set2 hi hj hij Ext.refl (q:=cat r q) ⟨h.r i hi,h.r j hj⟩ (List.nodup_append.2 ⟨h.nodup1 hi,h.nodup1 hj,fun a ha b hb e=>by subst e; exact h.apart hi hj hij a hb ha⟩)
    fun b hb=>(List.mem_append.1 hb).elim .inl fun h => .inr (.inl h)
theorem Sep.conv (h:Sep M w0 Δ F w) (i:Nat) {r:Rsc}(q:Rsc) (hi:Δ[i]? = some r) (hq:q.φ w) (hfp:∀ b∈q.fp,b∈r.fp) (hn:q.fp.Nodup):Sep M w0 (Δ.set i q) F w:=
  h.set hi Ext.refl hq hn fun b hb => .inl (hfp b hb)
theorem Sep.partLast {A:List Rsc}{r:Rsc}(h:Sep M w0 (A++[r]) F w) (rs:List Rsc) (hrs:∀ q∈rs,q.φ w) (hb:blocks rs=r.fp):Sep M w0 (A++gone::rs) F w:=by
  have H:=h.part A.length (r:=r) σ rs hrs hb
  rw [show (A++[r]).set A.length gone=A++[gone] by simp] at H
  simpa using H
def hol {α:Type}[Rp α] (ad:Option Addr) (n cap:Nat) (xs:List α) (k b off:Nat) (T:TypeId) (ck:List Value) (f1 f2:List Nat):Rsc:=
  ⟨b::(f1++f2),fun w=>∃ cur:Array Value,w.heap[b]? = some (.cells cur T (0,0))∧off+sz α≤cur.size∧(cur.toList.drop off).take (sz α)=ck∧(∀ x∈b::(f1++f2),x<w.heap.size) ∧
    ∀ w' cur' x' fk',w'.heap[b]? = some (.cells cur' T (0,0))→cur'.size=cur.size→(∀ j,j<off∨off+sz α≤j→cur'[j]? = cur[j]?)→(∀ b∈f1,w'.heap[b]? = w.heap[b]?)→(∀ b∈f2,w'.heap[b]? = w.heap[b]?) →
        own true w' ((cur'.toList.drop off).take (sz α)) x' fk'→own true w' [.slice ad n cap] (xs.set k x') (b::(f1++(fk'++f2))),
   fun h e=>by
      obtain ⟨cur,h1,h2,h3,h4,h5⟩:=h
      refine ⟨cur,(e b σ).trans h1,h2,h3,fun x hx=>?_,fun w' cur' x' fk' q1 q2 q3 q4 q5 q6=>h5 w' cur' x' fk' q1 q2 q3 (fun b hb=>(q4 b hb).trans (e b (by simp [hb]))) (fun b hb=>(q5 b hb).trans (e b (by simp [hb]))) q6⟩
      have h7:=h4 x hx
      have h8:=e x hx
      rw [Array.getElem?_eq_getElem h7] at h8
      exact (Array.getElem?_eq_some_iff.1 h8).1,
   fun h=>by obtain ⟨_,_,_,_,h,_⟩:=h; exact h⟩
variable {α:Type}[Rp α]
theorem Sep.focus {d:α}(h:Sep M w0 Δ F w) (i:Nat) {ad n cap} {xs:List α}{fp} (hi:Δ[i]? = some (Wk.mine [.slice ad n cap] xs fp)) (k:Nat) (hk:k<xs.length) :
    ∃ b o T ck f1 f2 fk,ad=some ⟨b,o,none⟩∧own true w ck (xs.getD k d) fk∧Sep M w0 (Δ.set i (hol ad n cap xs k b (o+k*sz α) T ck f1 f2)++[Wk.mine ck (xs.getD k d) fk]) F w:=by
  have hnd:=h.nodup1 hi
  obtain ⟨b,o,cur,T,f1,fk,f2,e1,e2,hb,hsz,hx,hback⟩:=sK (h.mine i hi) k hk
  have hlt:=Rp.lt (h.mine i hi)
  have hk1:(k+1)*sz α=k*sz α+sz α:=by rw [Nat.add_mul,Nat.one_mul]
  change fp.Nodup at hnd
  subst e2
  obtain ⟨n1,n2⟩:=List.nodup_cons.1 hnd
  rw [List.nodup_append,List.nodup_append] at n2
  obtain ⟨d1,⟨d2,d3,d4⟩,d5⟩:=n2
  have hmem:∀ x,x∈(b::(f1++f2))++fk↔x∈b::(f1++(fk++f2)):=fun x=>by
    simp only [List.cons_append,List.mem_cons,List.mem_append]
    constructor
    · rintro (h | (h | h) | h)
      · exact .inl h
      · exact .inr (.inl h)
      · exact .inr (.inr (.inr h))
      · exact .inr (.inr (.inl h))
    · rintro (h | h | h | h)
      · exact .inl h
      · exact .inr (.inl (.inl h))
      · exact .inr (.inr h)
      · exact .inr (.inl (.inr h))
  have H1:=h.set hi (q:=reord (Wk.mine [.slice ad n cap] xs (b::(f1++(fk++f2)))) ((b::(f1++f2))++fk) hmem) Ext.refl (h.mine i hi)
    (by
      change ((b::(f1++f2))++fk).Nodup
      refine List.nodup_append.2 ⟨List.nodup_cons.2 ⟨fun hm=>n1 (by rcases List.mem_append.1 hm with hm | hm<;>simp [hm]),List.nodup_append.2 ⟨d1,d3,fun p hp q hq e=>d5 p hp q (by simp [hq]) e⟩⟩,d2,fun p hp q hq e=>?_⟩
      subst e
      rcases List.mem_cons.1 hp with rfl | hp
      · exact n1 (by simp [hq])
      · rcases List.mem_append.1 hp with hp | hp
        · exact d5 p hp p (by simp [hq]) rfl
        · exact d4 p hq p hp rfl)
    (fun x hx => .inl ((hmem x).1 hx))
  have hil:i<Δ.length:=(List.getElem?_eq_some_iff.1 hi).1
  have ek:xs.getD k d=xs[k]:=by simp [List.getD,hk]
  refine ⟨b,o,T,_,f1,f2,fk,e1,by rw [ek]; exact hx,?_⟩
  have H2:=H1.part i (r:=reord (Wk.mine [.slice ad n cap] xs (b::(f1++(fk++f2)))) ((b::(f1++f2))++fk) hmem) (by rw [List.getElem?_set_self hil]) [hol ad n cap xs k b (o+k*sz α) T ((cur.toList.drop (o+k*sz α)).take (sz α)) f1 f2,Wk.mine ((cur.toList.drop (o+k*sz α)).take (sz α)) (xs.getD k d) fk] ?_ ?_
  · rw [List.set_set] at H2
    exact (H2.perm (oR hil)).sub ((List.Sublist.refl _).append (.cons _ (.refl _)))
  · refine all_cons ⟨cur,hb,hsz,rfl,fun x hx=>hlt x ((hmem x).1 (by simp only [List.mem_append]; exact .inl hx)),fun w' cur' x' fk' q1 q2 q3 q4 q5 q6=>hback w' cur' x' fk' q1 q2 (fun j hj=>q3 j (by rw [hk1] at hj; omega)) q4 q5 q6⟩ (all_cons ?_ σ)
    rw [ek]; exact hx
  · simp [blocks,hol,Wk.mine,reord]
variable {ad:Option Addr}{n cap k b off:Nat}{xs:List α}{T:TypeId}{ck:List Value}{f1 f2:List Nat}
theorem Sep.holAt (h:Sep M w0 Δ F w) (i:Nat) (hi:Δ[i]? = some (hol ad n cap xs k b off T ck f1 f2)):At w b off ck:=by
  obtain ⟨cur,h1,h2,h3,_⟩:=h.r i hi
  rw [← h3]
  exact vI h1 _
theorem Sep.hset (h:Sep M w0 Δ F w) (i:Nat) (hi:Δ[i]? = some (hol ad n cap xs k b off T ck f1 f2)) (j:Nat) (hj:j<ck.length) (v:Value) :
    ∃ cur:Array Value,w.heap[b]? = some (.cells cur T (0,0))∧off+j<cur.size∧Sep M w0 (Δ.set i (hol ad n cap xs k b off T (ck.set j v) f1 f2)) F (Wk.put w b (.cells (cur.setIfInBounds (off+j) v) T (0,0))):=by
  obtain ⟨cur,h1,h2,h3,h4,h5⟩:(hol ad n cap xs k b off T ck f1 f2).φ w:=h.r i hi
  have hnd:=h.nodup1 hi
  change (b::(f1++f2)).Nodup at hnd
  obtain ⟨n1,_⟩:=List.nodup_cons.1 hnd
  have hjs:j<sz α:=by
    have:=congrArg List.length h3
    rw [List.length_take,List.length_drop] at this; omega
  have hE:Ext (· = b) w (Wk.put w b (.cells (cur.setIfInBounds (off+j) v) T (0,0))):=Ext.refl.put (.inl rfl)
  refine ⟨cur,h1,ω,h.set hi (q:=hol ad n cap xs k b off T (ck.set j v) f1 f2) (hE.mono fun b' _ e=>by subst e; simp [hol]) ?_ hnd (fun b hb => .inl hb)⟩
  refine ⟨cur.setIfInBounds (off+j) v,jF h1,by simpa using h2,?_,fun x hx=>by have:=h4 x hx; have:=hE.size; omega,fun w' cur' x' fk' q1 q2 q3 q4 q5 q6=>?_⟩
  · rw [Array.toList_setIfInBounds,List.drop_set,if_neg ω,List.take_set,h3,Nat.add_sub_cancel_left]
  · refine h5 w' cur' x' fk' q1 (by simpa using q2) (fun l hl=>?_) (fun b' hb'=>?_) (fun b' hb'=>?_) q6
    · rw [q3 l hl,Array.getElem?_setIfInBounds_ne ω]
    · rw [q4 b' hb']; exact hE.block b' (h4 b' (by simp [hb'])) fun e=>n1 (by subst e; simp [hb'])
    · rw [q5 b' hb']; exact hE.block b' (h4 b' (by simp [hb'])) fun e=>n1 (by subst e; simp [hb'])
theorem Sep.fill (h:Sep M w0 Δ F w) (i j:Nat) {fk} {x:α}(hi:Δ[i]? = some (hol ad n cap xs k b off T ck f1 f2)) (hj:Δ[j]? = some (Wk.mine ck x fk)) (hij:Nat.beq j i=false) :
    ∃ fp',Sep M w0 ((Δ.set j gone).set i (Wk.mine [.slice ad n cap] (xs.set k x) fp')) F w:=by
  obtain ⟨cur,h1,h2,h3,h4,h5⟩:(hol ad n cap xs k b off T ck f1 f2).φ w:=h.r i hi
  have hx:=h.mine j hj
  have hnd:=h.nodup1 hi
  change (b::(f1++f2)).Nodup at hnd
  have hnk:=h.nodup1 hj
  change fk.Nodup at hnk
  have hap:∀ x∈fk,x ∉ b::(f1++f2):=fun x hx hm=>h.apart (i:=i) (j:=j) hi hj hij x hx hm
  obtain ⟨n1,n2⟩:=List.nodup_cons.1 hnd
  obtain ⟨d1,d2,d3⟩:=List.nodup_append.1 n2
  have hbk:b ∉ fk:=fun hm=>hap b hm σ
  refine ⟨b::(f1++(fk++f2)),h.set2 hi hj hij (q:=Wk.mine [.slice ad n cap] (xs.set k x) (b::(f1++(fk++f2)))) Ext.refl ?_ ?_ ?_⟩
  · exact h5 w cur x fk h1 rfl (fun _ _=>rfl) (fun _ _=>rfl) (fun _ _=>rfl) (by rw [h3]; exact hx)
  · change (b::(f1++(fk++f2))).Nodup
    refine List.nodup_cons.2 ⟨fun hm=>?_,List.nodup_append.2 ⟨d1,List.nodup_append.2 ⟨hnk,d2,fun p hp q hq e=>?_⟩,fun p hp q hq e=>?_⟩⟩
    · simp only [List.mem_append,not_or] at hm n1
      rcases hm with hm | hm | hm
      · exact n1.1 hm
      · exact hbk hm
      · exact n1.2 hm
    · subst e; exact hap p hp (by simp [hq])
    · subst e
      rcases List.mem_append.1 hq with hq | hq
      · exact hap p hq (by simp [hp])
      · exact d3 p hp p hq rfl
  · intro x hx
    change x∈b::(f1++(fk++f2)) at hx
    simp only [List.mem_cons,List.mem_append] at hx
    rcases hx with h | h | h | h
    · exact .inl (by simp [hol,h])
    · exact .inl (by simp [hol,h])
    · exact .inr (.inl h)
    · exact .inl (by simp [hol,h])
theorem Sep.focusL {β:Type}[Rp β] (h:Sep M w0 Δ F w) (i:Nat) {ad n cap} {xs:List (List β)}{fp} (hi:Δ[i]? = some (Wk.mine [.slice ad n cap] xs fp)) (k:Nat) (hk:k<xs.length) :
    ∃ b o T f1 f2 a c fk,ad=some ⟨b,o,none⟩∧Sep M w0 (Δ.set i (hol ad n cap xs k b (o+k*1) T [.slice a (xs.getD k []).length c] f1 f2)++[Wk.mine [.slice a (xs.getD k []).length c] (xs.getD k []) fk]) F w:=by
  obtain ⟨b,o,T,ck,f1,f2,fk,e,hx,H⟩:=h.focus (d:=([]:List β)) i hi k hk
  obtain ⟨a,c,rfl⟩:=az hx
  exact ⟨b,o,T,f1,f2,a,c,fk,e,H⟩
end
section
variable {P:Program}{n:Nat}{ops:Array Oper}{Q:Post}{L:Env}{w w0:World}{M:Nat→Prop}{Δ F:List Rsc}{d:Tmp}{ty:TypeId}{p:String}{af:Array Edge}{g:Option (Nat × Bool)}{α:Type}[Rp α]
theorem jT {rest:List Oper}{t:TypeId}{x y:Operand}{ad:Option Addr}{m cap k b off:Nat}{xs:List α}{T:TypeId}{ck:List Value}{f1 f2:List Nat}{v:Value}(hw:Wn ops n L ⟨none,.store t x y,ty,p,af,g⟩) (hs:∀ w,(sizeOf t).run P w = .ok 1 w)
    (H:Sep M w0 Δ F w) (i j:Nat) (hi:Δ[i]? = some (hol ad m cap xs k b off T ck f1 f2)) (hj:Nat.blt j ck.length=true) (hx:evL L x=some (.pointer (some ⟨b,off+j,none⟩))) (hy:evL L y=some v) (h1:v.oneCell'=true)
    (kk:∀ w',Sep M w0 (Δ.set i (hol ad m cap xs k b off T (ck.set j v) f1 f2)) F w'→RL P n ops Q rest L w'):RL P n ops Q (⟨none,.store t x y,ty,p,af,g⟩::rest) L w:=by
  obtain ⟨cur,hb,hlt,H'⟩:=H.hset i hi j (Nat.le_of_ble_eq_true hj) v
  exact AJ hw rfl (fv hs hx hy h1 hb hlt) (kk _ H')
end
end Go.Wk
namespace Go.Wk
section
variable {P:Program}{n:Nat}{c:Code}{Q:Post}{L:Env}{w w0:World}{M:Nat→Prop}{Δ F:List Rsc}
theorem pt {α:Type}[Rp α] {γ:Type}{v0:Value}{fp0:List Nat}{b T} {cs:List Value}(f:γ→List α) (g0:γ) (H:Sep M w0 Δ F w) (i j q:Nat) (hi:Δ[i]? = some (mine [v0] (f g0) fp0)) (hj:Δ[j]? = some (box b (.cells cs.toArray T))) (hq:cs[q]? = some v0) (hij:Nat.beq j i=false)
  (E2:Env) (h2:sub L E2) (E:γ→Env) (I:γ→Prop) (μ:γ→Nat) (hs:sub L (E g0)) (h0:I g0)
  (round:∀ g v fp w,Sep M w0 ((Δ.set i (mine [v] (f g) fp)).set j (box b (.cells (cs.set q v).toArray T))) F w→I g→W P n c (again (fun x:γ × Value × List Nat=>E x.1++E2) (fun x w'=>Sep M w0 ((Δ.set i (mine [x.2.1] (f x.1) x.2.2)).set j (box b (.cells (cs.set q x.2.1).toArray T))) F w'∧I x.1) (fun x=>μ x.1) (g,v,fp) Q) (E g++E2) w):W P n (.loop c) Q L w:=by
 have hne:i≠j:=fun e=>by subst e; simp at hij
 have e0:(Δ.set i (mine [v0] (f g0) fp0)).set j (box b (.cells (cs.set q v0).toArray T))=Δ:=by
  have ec:cs.set q v0=cs:=by
   apply List.ext_getElem?
   intro l
   rw [List.getElem?_set]
   split
   ·rename_i e; subst e
    obtain ⟨hl,_⟩:=List.getElem?_eq_some_iff.1 hq
    rw [if_pos hl,hq]
   ·rfl
  rw [oT hi,ec,oT hj]
 exact bg (fun x:γ × Value × List Nat=>E x.1++E2) (fun x w'=>Sep M w0 ((Δ.set i (mine [x.2.1] (f x.1) x.2.2)).set j (box b (.cells (cs.set q x.2.1).toArray T))) F w'∧I x.1) (fun x=>μ x.1) (g0,v0,fp0) (lf hs h2) ⟨by rw [e0]; exact H,h0⟩ fun x w h=>round x.1 x.2.1 x.2.2 w h.1 h.2
theorem Sep.nilW {α:Type}[Rp α] (h:Sep M w0 Δ F w):Sep M w0 (Δ++[Wk.mine [.slice none 0 0] ([]:List α) []]) F w:=
  h.add Ext.refl (r:=Wk.mine [.slice none 0 0] ([]:List α) []) (.inr (.inl ⟨rfl,rfl,rfl⟩)) (by simp [Wk.mine]) (by simp [Wk.mine])
end
end Go.Wk
namespace Go.Wk
open Rp (sz own)
theorem Block.focus {M:Nat→Prop}{w0 w:World}{Δ F:List Rsc}(h:Sep M w0 Δ F w) (i:Nat) {ad n cap} {xs:List Block}{fp} (hi:Δ[i]? = some (mine [.slice ad n cap] xs fp)) (k:Nat) (hk:k<xs.length):∃ b o Ty f1 f2 A1 C1 g1,ad=some ⟨b,o,none⟩∧(xs.getD k default).Ok∧Sep M w0 (Δ.set i (hol ad n cap xs k b (o+k*sz Block) Ty [.int .i64 (xs.getD k default).Stamp,.slice A1 (xs.getD k default).Bytes.length C1] f1 f2)++[gone,mine [.slice A1 (xs.getD k default).Bytes.length C1] (xs.getD k default).Bytes g1]) F w:=by
  obtain ⟨b,o,Ty,ck,f1,f2,fk,e,hx,H⟩:=h.focus (d:=default) i hi k hk
  obtain ⟨A1,C1,g1,rfl,ef,ok,o1⟩:=dP hx
  have H2:=H.partLast [mine [.slice A1 (xs.getD k default).Bytes.length C1] (xs.getD k default).Bytes g1] (all_cons o1 σ) (by simp [blocks,mine,ef])
  exact ⟨b,o,Ty,f1,f2,A1,C1,g1,e,ok,H2⟩
theorem Block.fill {M:Nat→Prop}{w0 w:World}{Δ F:List Rsc}(h:Sep M w0 Δ F w) (i j1:Nat) {ad n cap k b off Ty f1 f2} {xs:List Block}{s0:Int}{A1 C1 m1} {y1:List UInt8}{g1} (hi:Δ[i]? = some (hol ad n cap xs k b off Ty [.int .i64 s0,.slice A1 m1 C1] f1 f2)) (h1:Δ[j1]? = some (mine [.slice A1 m1 C1] y1 g1)) (d1:Nat.beq j1 i=false)  (ok:(⟨s0,y1⟩:Block).Ok):∃ fp',Sep M w0 ((Δ.set j1 gone).set i (mine [.slice ad n cap] (xs.set k (⟨s0,y1⟩:Block)) fp')) F w:=by
  have o1:=h.mine j1 h1
  obtain rfl:=eM o1
  have n1:j1≠i:=fun e=>by subst e; simp at d1
  have H:=h.conv j1 (mine [.int .i64 s0,.slice A1 y1.length C1] (⟨s0,y1⟩:Block) (g1)) h1 (Block.own_mk ok o1) (fun b hb=>hb) (show (mine [.slice A1 y1.length C1] y1 g1).fp.Nodup from h.nodup1 h1)
  obtain ⟨fp',H2⟩:=H.fill i j1 (by rw [List.getElem?_set_ne n1]; exact hi) (by rw [List.getElem?_set_self (List.getElem?_eq_some_iff.1 h1).1]) d1
  rw [List.set_set] at H2
  exact ⟨fp',H2⟩
theorem Drive.focus {M:Nat→Prop}{w0 w:World}{Δ F:List Rsc}(h:Sep M w0 Δ F w) (i:Nat) {ad n cap} {xs:List Drive}{fp} (hi:Δ[i]? = some (mine [.slice ad n cap] xs fp)) (k:Nat) (hk:k<xs.length):∃ b o Ty f1 f2 A1 C1 g1,ad=some ⟨b,o,none⟩∧(xs.getD k default).Ok∧Sep M w0 (Δ.set i (hol ad n cap xs k b (o+k*sz Drive) Ty [.bool (xs.getD k default).Wiped,.slice A1 (xs.getD k default).Blocks.length C1] f1 f2)++[gone,mine [.slice A1 (xs.getD k default).Blocks.length C1] (xs.getD k default).Blocks g1]) F w:=by
  obtain ⟨b,o,Ty,ck,f1,f2,fk,e,hx,H⟩:=h.focus (d:=default) i hi k hk
  obtain ⟨A1,C1,g1,rfl,ef,ok,o1⟩:=cH hx
  have H2:=H.partLast [mine [.slice A1 (xs.getD k default).Blocks.length C1] (xs.getD k default).Blocks g1] (all_cons o1 σ) (by simp [blocks,mine,ef])
  exact ⟨b,o,Ty,f1,f2,A1,C1,g1,e,ok,H2⟩
theorem Drive.fill {M:Nat→Prop}{w0 w:World}{Δ F:List Rsc}(h:Sep M w0 Δ F w) (i j1:Nat) {ad n cap k b off Ty f1 f2} {xs:List Drive}{s0:Bool}{A1 C1 m1} {y1:List Block}{g1} (hi:Δ[i]? = some (hol ad n cap xs k b off Ty [.bool s0,.slice A1 m1 C1] f1 f2)) (h1:Δ[j1]? = some (mine [.slice A1 m1 C1] y1 g1)) (d1:Nat.beq j1 i=false)  (ok:(⟨s0,y1⟩:Drive).Ok):∃ fp',Sep M w0 ((Δ.set j1 gone).set i (mine [.slice ad n cap] (xs.set k (⟨s0,y1⟩:Drive)) fp')) F w:=by
  have o1:=h.mine j1 h1
  obtain rfl:=eM o1
  have n1:j1≠i:=fun e=>by subst e; simp at d1
  have H:=h.conv j1 (mine [.bool s0,.slice A1 y1.length C1] (⟨s0,y1⟩:Drive) (g1)) h1 (Drive.own_mk ok o1) (fun b hb=>hb) (show (mine [.slice A1 y1.length C1] y1 g1).fp.Nodup from h.nodup1 h1)
  obtain ⟨fp',H2⟩:=H.fill i j1 (by rw [List.getElem?_set_ne n1]; exact hi) (by rw [List.getElem?_set_self (List.getElem?_eq_some_iff.1 h1).1]) d1
  rw [List.set_set] at H2
  exact ⟨fp',H2⟩
theorem Tape.focus {M:Nat→Prop}{w0 w:World}{Δ F:List Rsc}(h:Sep M w0 Δ F w) (i:Nat) {ad n cap} {xs:List Tape}{fp} (hi:Δ[i]? = some (mine [.slice ad n cap] xs fp)) (k:Nat) (hk:k<xs.length):∃ b o Ty f1 f2 A1 C1 g1,ad=some ⟨b,o,none⟩∧(xs.getD k default).Ok∧Sep M w0 (Δ.set i (hol ad n cap xs k b (o+k*sz Tape) Ty [.bool (xs.getD k default).Wiped,.slice A1 (xs.getD k default).Recs.length C1] f1 f2)++[gone,mine [.slice A1 (xs.getD k default).Recs.length C1] (xs.getD k default).Recs g1]) F w:=by
  obtain ⟨b,o,Ty,ck,f1,f2,fk,e,hx,H⟩:=h.focus (d:=default) i hi k hk
  obtain ⟨A1,C1,g1,rfl,ef,ok,o1⟩:=cB hx
  have H2:=H.partLast [mine [.slice A1 (xs.getD k default).Recs.length C1] (xs.getD k default).Recs g1] (all_cons o1 σ) (by simp [blocks,mine,ef])
  exact ⟨b,o,Ty,f1,f2,A1,C1,g1,e,ok,H2⟩
theorem Tape.fill {M:Nat→Prop}{w0 w:World}{Δ F:List Rsc}(h:Sep M w0 Δ F w) (i j1:Nat) {ad n cap k b off Ty f1 f2} {xs:List Tape}{s0:Bool}{A1 C1 m1} {y1:List Rec}{g1} (hi:Δ[i]? = some (hol ad n cap xs k b off Ty [.bool s0,.slice A1 m1 C1] f1 f2)) (h1:Δ[j1]? = some (mine [.slice A1 m1 C1] y1 g1)) (d1:Nat.beq j1 i=false)  (ok:(⟨s0,y1⟩:Tape).Ok):∃ fp',Sep M w0 ((Δ.set j1 gone).set i (mine [.slice ad n cap] (xs.set k (⟨s0,y1⟩:Tape)) fp')) F w:=by
  have o1:=h.mine j1 h1
  obtain rfl:=eM o1
  have n1:j1≠i:=fun e=>by subst e; simp at d1
  have H:=h.conv j1 (mine [.bool s0,.slice A1 y1.length C1] (⟨s0,y1⟩:Tape) (g1)) h1 (Tape.own_mk ok o1) (fun b hb=>hb) (show (mine [.slice A1 y1.length C1] y1 g1).fp.Nodup from h.nodup1 h1)
  obtain ⟨fp',H2⟩:=H.fill i j1 (by rw [List.getElem?_set_ne n1]; exact hi) (by rw [List.getElem?_set_self (List.getElem?_eq_some_iff.1 h1).1]) d1
  rw [List.set_set] at H2
  exact ⟨fp',H2⟩
theorem Rec.focus {M:Nat→Prop}{w0 w:World}{Δ F:List Rsc}(h:Sep M w0 Δ F w) (i:Nat) {ad n cap} {xs:List Rec}{fp} (hi:Δ[i]? = some (mine [.slice ad n cap] xs fp)) (k:Nat) (hk:k<xs.length):∃ b o Ty f1 f2 A6 C6 A7 C7 A8 C8 g6 g7 g8,ad=some ⟨b,o,none⟩∧(xs.getD k default).Ok∧Sep M w0 (Δ.set i (hol ad n cap xs k b (o+k*sz Rec) Ty [.int .i64 (xs.getD k default).Kind,.int .i64 (xs.getD k default).Seq,.string (xs.getD k default).Name,.int .i64 (xs.getD k default).Length,.int .i64 (xs.getD k default).Group,.int .i64 (xs.getD k default).Row,.slice A6 (xs.getD k default).Rows.length C6,.slice A7 (xs.getD k default).Data.length C7,.slice A8 (xs.getD k default).Delta.length C8] f1 f2)++[gone,mine [.slice A6 (xs.getD k default).Rows.length C6] (xs.getD k default).Rows g6,mine [.slice A7 (xs.getD k default).Data.length C7] (xs.getD k default).Data g7,mine [.slice A8 (xs.getD k default).Delta.length C8] (xs.getD k default).Delta g8]) F w:=by
  obtain ⟨b,o,Ty,ck,f1,f2,fk,e,hx,H⟩:=h.focus (d:=default) i hi k hk
  obtain ⟨A6,C6,A7,C7,A8,C8,g6,g7,g8,rfl,ef,ok,o6,o7,o8⟩:=cT hx
  have H2:=H.partLast [mine [.slice A6 (xs.getD k default).Rows.length C6] (xs.getD k default).Rows g6,mine [.slice A7 (xs.getD k default).Data.length C7] (xs.getD k default).Data g7,mine [.slice A8 (xs.getD k default).Delta.length C8] (xs.getD k default).Delta g8] (all_cons o6 (all_cons o7 (all_cons o8 σ))) (by simp [blocks,mine,ef])
  exact ⟨b,o,Ty,f1,f2,A6,C6,A7,C7,A8,C8,g6,g7,g8,e,ok,H2⟩
theorem Rec.fill {M:Nat→Prop}{w0 w:World}{Δ F:List Rsc}(h:Sep M w0 Δ F w) (i j6 j7 j8:Nat) {ad n cap k b off Ty f1 f2} {xs:List Rec}{s0:Int}{s1:Int}{s2:ByteArray}{s3:Int}{s4:Int}{s5:Int}{A6 C6 m6} {y6:List Int}{g6} {A7 C7 m7} {y7:List UInt8}{g7} {A8 C8 m8} {y8:List UInt8}{g8} (hi:Δ[i]? = some (hol ad n cap xs k b off Ty [.int .i64 s0,.int .i64 s1,.string s2,.int .i64 s3,.int .i64 s4,.int .i64 s5,.slice A6 m6 C6,.slice A7 m7 C7,.slice A8 m8 C8] f1 f2)) (h6:Δ[j6]? = some (mine [.slice A6 m6 C6] y6 g6)) (h7:Δ[j7]? = some (mine [.slice A7 m7 C7] y7 g7)) (h8:Δ[j8]? = some (mine [.slice A8 m8 C8] y8 g8)) (d6:Nat.beq j6 i=false) (d7:Nat.beq j7 i=false) (d8:Nat.beq j8 i=false) (e7_6:Nat.beq j7 j6=false) (e8_6:Nat.beq j8 j6=false) (e8_7:Nat.beq j8 j7=false) (ok:(⟨s0,s1,s2,s3,s4,s5,y6,y7,y8⟩:Rec).Ok):∃ fp',Sep M w0 ((((Δ.set j7 gone).set j8 gone).set j6 gone).set i (mine [.slice ad n cap] (xs.set k (⟨s0,s1,s2,s3,s4,s5,y6,y7,y8⟩:Rec)) fp')) F w:=by
  have o6:=h.mine j6 h6
  obtain rfl:=eM o6
  have n6:j6≠i:=fun e=>by subst e; simp at d6
  have o7:=h.mine j7 h7
  obtain rfl:=eM o7
  have n7:j7≠i:=fun e=>by subst e; simp at d7
  have o8:=h.mine j8 h8
  obtain rfl:=eM o8
  have n8:j8≠i:=fun e=>by subst e; simp at d8
  have q1:j7≠j6:=fun e=>by subst e; simp at e7_6
  have q2:j8≠j6:=fun e=>by subst e; simp at e8_6
  have q3:j8≠j7:=fun e=>by subst e; simp at e8_7
  have l6:=(List.getElem?_eq_some_iff.1 h6).1
  have H1:=h.join2 j6 j7 h6 h7 e7_6
  have H2:=H1.join2 j6 j8 (by rw [List.getElem?_set_self (by simpa using l6)]) (by rw [List.getElem?_set_ne (Ne.symm q2),List.getElem?_set_ne (Ne.symm q3)]; exact h8) e8_6
  rw [List.set_comm _ _ (Ne.symm q2),List.set_set] at H2
  have sq:(((Δ.set j7 gone).set j8 gone).set j6 (cat (cat (mine [.slice A6 y6.length C6] y6 g6) (mine [.slice A7 y7.length C7] y7 g7)) (mine [.slice A8 y8.length C8] y8 g8)))[j6]? = some (cat (cat (mine [.slice A6 y6.length C6] y6 g6) (mine [.slice A7 y7.length C7] y7 g7)) (mine [.slice A8 y8.length C8] y8 g8)):=by rw [List.getElem?_set_self (by simpa using l6)]
  have nd:=H2.nodup1 sq
  have H:=H2.conv j6 (mine [.int .i64 s0,.int .i64 s1,.string s2,.int .i64 s3,.int .i64 s4,.int .i64 s5,.slice A6 y6.length C6,.slice A7 y7.length C7,.slice A8 y8.length C8] (⟨s0,s1,s2,s3,s4,s5,y6,y7,y8⟩:Rec) (g6++(g7++(g8)))) sq (Rec.own_mk ok o6 o7 o8) (fun b hb=>by simpa [cat,mine] using hb) (by simpa [cat,mine] using nd)
  rw [List.set_set] at H
  obtain ⟨fp',H3⟩:=H.fill i j6 (by rw [List.getElem?_set_ne n6,List.getElem?_set_ne n8,List.getElem?_set_ne n7]; exact hi) (by rw [List.getElem?_set_self (by simpa using l6)]) d6
  rw [List.set_set] at H3
  exact ⟨fp',H3⟩
end Go.Wk
namespace Go.Wk
open Rp (sz own)
def digits:Nat→Nat→ByteArray→ByteArray
  | 0,_,out=>out
  | f+1,k,out=>if k=0 then out else digits f (k / 10) (strB [UInt8.ofNat (48+k % 10)]++out)
def sX (k:Int):ByteArray:=if k≤0 then ⟨#[109,48]⟩ else ⟨#[109]⟩++digits 30 k.toNat ⟨#[]⟩
section
variable {α:Type}[Inhabited α]
def MkL (P:α→Int→Prop) (c:α→Nat) (xs:List α) (k:Int):Prop:=∀ i,i<xs.length→P (xs.getD i default) (k+bV (fun i=>c (xs.getD i default)) i)
def MkInv (P:α→Int→Prop) (c:α→Nat) (xs:List α) (k:Int) (i:Nat) (ys:List α):Prop:=
  i≤xs.length∧ys.length=xs.length∧(∀ j,c (ys.getD j default)=c (xs.getD j default))∧(∀ j,j<i→P (ys.getD j default) (k+bV (fun i=>c (xs.getD i default)) j))∧(∀ j,i≤j→ys.getD j default=xs.getD j default)
variable {P:α→Int→Prop}{c:α→Nat}{xs ys:List α}{k:Int}{i:Nat}{e:α}
theorem oi:MkInv P c xs k 0 xs:=⟨Nat.zero_le _,rfl,fun _=>rfl,fun j hj=>by omega,fun _ _=>rfl⟩
theorem sQ (h:MkInv P c xs k i ys) (hi:i<xs.length) (hc:c e=c (xs.getD i default)) (hP:P e (k+bV (fun i=>c (xs.getD i default)) i)):MkInv P c xs k (i+1) (ys.set i e):=by
  obtain ⟨h1,h2,h3,h4,h5⟩:=h
  refine ⟨ω,by rw [List.length_set]; exact h2,fun j=>?_,fun j hj=>?_,fun j hj=>?_⟩
  · rw [cP]
    split
    · rename_i h; rw [hc,h.1]
    · exact h3 j
  · rw [cP]
    split
    · rename_i h; rw [h.1]; exact hP
    · rename_i h; exact h4 j ω
  · rw [cP,if_neg ω]; exact h5 j ω
theorem vj (h:MkInv P c xs k xs.length ys):ys.length=xs.length∧mkL c ys=mkL c xs∧MkL P c ys k:=by
  obtain ⟨h1,h2,h3,h4,h5⟩:=h
  have e:(fun i=>c (ys.getD i default))=fun i=>c (xs.getD i default):=funext h3
  refine ⟨h2,by unfold mkL; rw [e,h2],fun i hi=>?_⟩
  rw [e]; exact h4 i ω
theorem Aq (h:MkInv P c xs k i ys):ys.getD i default=xs.getD i default:=h.2.2.2.2 i (Nat.le_refl _)
theorem ma (h:i<xs.length):bV (fun i=>c (xs.getD i default)) (i+1)=bV (fun i=>c (xs.getD i default)) i+c (xs.getD i default)∧bV (fun i=>c (xs.getD i default)) (i+1)≤mkL c xs:=⟨rfl,lw h⟩
end
def MkBlock (b:Block) (k:Int):Prop:=b.Stamp=k∧MarkB b.Bytes (k+1)
def MkDrive (d:Drive) (k:Int):Prop:=d.Wiped=decide (k.tmod 3=0)∧MkL MkBlock cJ d.Blocks (k+1)
def MkRec (r:Rec) (k:Int):Prop:=r.Kind=k∧r.Seq=k+1∧r.Name=sX (k+2)∧r.Length=k+3∧r.Group=k+4∧r.Row=k+5∧MarkI r.Rows (k+6)∧MarkB r.Data (k+6+r.Rows.length)∧MarkB r.Delta (k+6+r.Rows.length+r.Data.length)
def MkTape (t:Tape) (k:Int):Prop:=t.Wiped=decide (k.tmod 3=0)∧MkL MkRec cO t.Recs (k+1)
def MkWld (z:Wld) (k:Int):Prop:=MkL (MkL MkDrive bn) (mkL bn) z.Groups k∧MarkI z.On (k+mkL (mkL bn) z.Groups)∧MkL MkTape dt z.Tapes (k+mkL (mkL bn) z.Groups+z.On.length)
end Go.Wk
namespace Go.Wk
theorem Kk {a b:ByteArray}(h:a=b):some (Value.string a)=some (Value.string b):=by rw [h]
theorem AZ:∀ f out,digits f 0 out=out
  | 0,_=>rfl
  | _+1,_=>by rw [digits,if_pos rfl]
theorem Av {f m:Nat}{out:ByteArray}(h:0<m):digits (f+1) m out=digits f (m / 10) (strB [UInt8.ofNat (48+m % 10)]++out):=by rw [digits,if_neg ω]
end Go.Wk
namespace Go.Wk
section
variable {M:Nat→Prop}{w0 w:World}{Δ F:List Rsc}{α:Type}[Rp α]
theorem Sep.litW (h:Sep M w0 Δ F w) (i:Nat) {b:Nat}{T:TypeId}{v:Value}{u:α}(hi:Δ[i]? = some (Wk.box b (.cells [v].toArray T))) (h0:Rp.own true w [v] u []):Sep M w0 (Δ.set i (Wk.mine [.slice (some ⟨b,0,none⟩) 1 1] [u] [b])) F w:=
  h.conv i (Wk.mine [.slice (some ⟨b,0,none⟩) 1 1] [u] [b]) hi (.inr (.inr ⟨b,0,1,[v].toArray,T,(0,0),[],σ,σ,h.box i hi,fun _=>rfl,σ,by simp [maxLen],by have:=Rp.len h0; simp at this; simp [← this],by
    have hl:=Rp.len h0
    refine ⟨[],[],rfl,?_,rfl⟩
    have e:Rp.sz α=1:=by simpa using hl.symm
    rw [e]; exact h0⟩)) (fun b hb=>hb) (by simp [Wk.mine])
end
end Go.Wk
namespace Go.Wk
theorem FM {k:Int}(h:k≤4611686018427388904):k.toNat<10^30:=Nat.lt_of_le_of_lt (show k.toNat≤4611686018427388904 by omega) (by decide)
theorem JK {m:Nat}:strB [s9 (48+(m:Int).tmod 10)]=strB [UInt8.ofNat (48+m % 10)]:=by
  have e:((48+(m:Int).tmod 10) % 256).toNat=48+m % 10:=by
    rw [Int.tmod_eq_emod_of_nonneg ω]; omega
  unfold s9; rw [e]
end Go.Wk
namespace Go.Wk
section
open Rp (own sz)
variable {w w':World}{x:Wld}{A9 A10 A11:Option Addr}{C9 C10 C11:Nat}{fp:List Nat}
theorem Wld.mkOut {F:List Rsc}{y9:List (List Drive)}{y10:List Int}{y11:List Tape}{f9 f10 f11:List Nat}{k:Int}(ok:x.Ok) (h:Sep (· ∈ fp) w [gone,mine [.slice A9 x.Groups.length C9] y9 f9,mine [.slice A10 x.On.length C10] y10 f10,mine [.slice A11 x.Tapes.length C11] y11 f11] F w')
    (h9:y9.length=x.Groups.length∧mkL (mkL bn) y9=mkL (mkL bn) x.Groups∧MkL (MkL MkDrive bn) (mkL bn) y9 k) (l10:y10.length=x.On.length) (h10:MarkI y10 (k+mkL (mkL bn) x.Groups))
    (h11:y11.length=x.Tapes.length∧mkL dt y11=mkL dt x.Tapes∧MkL MkTape dt y11 (k+mkL (mkL bn) x.Groups+x.On.length)) :
    ∃ x':Wld,Mut w w' fp [.int .i64 x.Shape.Groups,.int .i64 x.Shape.Column,.int .i64 x.Shape.Data,.int .i64 x.Shape.Spare,.int .i64 x.Shape.Rows,.int .i64 x.Shape.Cap,.int .i64 x.Shape.Batch,.int .i64 x.Shape.Queue,.int .i64 x.Shape.Stage,.slice A9 x.Groups.length C9,.slice A10 x.On.length C10,.slice A11 x.Tapes.length C11,.int .i64 x.Writes,.int .i64 x.Stop,.bool x.Down] x' ∧
      (x'.Groups.length=x.Groups.length∧x'.On.length=x.On.length∧x'.Tapes.length=x.Tapes.length∧bW x'=bW x∧MkWld x' k∧x'.Shape=x.Shape∧x'.Writes=x.Writes∧x'.Stop=x.Stop∧x'.Down=x.Down):=
  ⟨_,Wld.mutOut ok h h9.1 l10 h11.1,h9.1,l10,h11.1,by unfold bW; dsimp only; rw [h9.2.1,l10,h11.2.1],⟨h9.2.2,by dsimp only; rw [h9.2.1]; exact h10,by dsimp only; rw [h9.2.1,l10]; exact h11.2.2⟩,rfl,rfl,rfl,rfl⟩
end
end Go.Wk
namespace Go.Wk
open Rp (sz own)
def wipedTo (g:List Drive):Nat→List Int
  | 0=>[]
  | k+1=>if (g.getD k default).Wiped=true then wipedTo g k++[(k:Int)] else wipedTo g k
def aR (z:Wld) (g:Int):List Int:=wipedTo (z.Groups.getD g.toNat []) (z.Groups.getD g.toNat []).length
def dL (z:Wld) (g:Int):Bool:=decide (z.Shape.Spare<((aR z g).length:Int))
section
variable {G:List Drive}{z:Wld}{k:Nat}
theorem pf (h:(G.getD k default).Wiped=true):wipedTo G (k+1)=wipedTo G k++[(k:Int)]:=by rw [wipedTo,if_pos h]
theorem sn (h:(G.getD k default).Wiped=false):wipedTo G (k+1)=wipedTo G k:=by rw [wipedTo,if_neg (by rw [h]; simp)]
theorem mK:∀ {k:Nat},(wipedTo G k).length≤k
  | 0=>Nat.le_refl _
  | k+1=>by
    have:=mK (k:=k)
    rw [wipedTo]; split
    · rw [List.length_append]; simp; omega
    · omega
theorem B0 {g:Int}:(aR z g).length≤(z.Groups.getD g.toNat []).length:=mK
end
end Go.Wk

namespace Go.Wk
theorem nk {α:Type}{a b:List α}{d:α}{i:Nat}(h:i<a.length):(a++b).getD i d=a.getD i d:=by simp [List.getD,List.getElem?_append_left h]
theorem qX {α:Type}{a b:List α}{d:α}{i:Nat}(h:a.length≤i):(a++b).getD i d=b.getD (i-a.length) d:=by simp [List.getD,List.getElem?_append_right h]
theorem cS {α:Type}{l:List α}{d:α}{i:Nat}(h:i<l.length):l.getD i d=l[i]:=by simp [List.getD,h]
end Go.Wk
namespace Go.Wk
open Rp (sz own)
def OwnW (w:World) (b:Nat) (T:TypeId) (z:Wld) (fp:List Nat):Prop:=
  ∃ A9 C9 A10 C10 A11 C11 f9 f10 f11,w.heap[b]? = some (.cells [.int .i64 z.Shape.Groups,.int .i64 z.Shape.Column,.int .i64 z.Shape.Data,.int .i64 z.Shape.Spare,.int .i64 z.Shape.Rows,.int .i64 z.Shape.Cap,.int .i64 z.Shape.Batch,.int .i64 z.Shape.Queue,.int .i64 z.Shape.Stage,.slice A9 z.Groups.length C9,.slice A10 z.On.length C10,.slice A11 z.Tapes.length C11,.int .i64 z.Writes,.int .i64 z.Stop,.bool z.Down].toArray T)∧own true w [.slice A9 z.Groups.length C9] z.Groups f9∧own true w [.slice A10 z.On.length C10] z.On f10∧own true w [.slice A11 z.Tapes.length C11] z.Tapes f11∧z.Ok∧fp=b::(f9++(f10++f11))
theorem OwnW.st {w w':World}{b T z fp} (h:OwnW w b T z fp) (k:∀ x∈fp,w'.heap[x]? = w.heap[x]?):OwnW w' b T z fp:=by
  obtain ⟨A9,C9,A10,C10,A11,C11,f9,f10,f11,h1,h2,h3,h4,h5,h6⟩:=h
  subst h6
  exact ⟨A9,C9,A10,C10,A11,C11,f9,f10,f11,(k b σ).trans h1,Rp.st h2 fun x hx=>k x (by simp [hx]),Rp.st h3 fun x hx=>k x (by simp [hx]),Rp.st h4 fun x hx=>k x (by simp [hx]),h5,rfl⟩
theorem OwnW.lt {w:World}{b T z fp} (h:OwnW w b T z fp):∀ x∈fp,x<w.heap.size:=by
  obtain ⟨A9,C9,A10,C10,A11,C11,f9,f10,f11,h1,h2,h3,h4,h5,h6⟩:=h
  subst h6
  intro x hx
  simp only [List.mem_cons,List.mem_append] at hx
  rcases hx with rfl | hx | hx | hx
  · exact (Array.getElem?_eq_some_iff.1 h1).1
  · exact Rp.lt h2 x hx
  · exact Rp.lt h3 x hx
  · exact Rp.lt h4 x hx
theorem OwnW.ok {w:World}{b T z fp} (h:OwnW w b T z fp):z.Ok:=by
  obtain ⟨_,_,_,_,_,_,_,_,_,_,_,_,_,h5,_⟩:=h
  exact h5
def wldR (b:Nat) (T:TypeId) (z:Wld) (fp:List Nat):Rsc:=⟨fp,fun w=>OwnW w b T z fp,fun h k=>h.st k,fun h=>h.lt⟩
def MutW (w w':World) (fp:List Nat) (b:Nat) (T:TypeId) (z:Wld):Prop:=
  Ext (· ∈ fp) w w'∧∃ fp',OwnW w' b T z fp'∧fp'.Nodup∧∀ x∈fp',x∈fp∨w.heap.size≤x
section
variable {M:Nat→Prop}{w0 w w':World}{Δ F:List Rsc}{b:Nat}{T:TypeId}{z z':Wld}{fp:List Nat}
theorem Sep.beginW (h:OwnW w b T z fp) (hn:fp.Nodup):Sep (· ∈ fp) w [wldR b T z fp] [] w:=
  ⟨Ext.refl,by simpa [wldR] using h,by simpa [blocks,wldR] using hn,fun b hb => .inl (by simpa [blocks,wldR] using hb),σ,σ⟩
theorem Sep.seeF {α:Type}[Rp α] (h:Sep M w0 [wldR b T z fp] F w) {cs:List Value}{x:α}{f} (hx:own false w cs x f) (hd:∀ b∈f,b ∉ fp):Sep M w0 [wldR b T z fp] (F++[Wk.seen false cs x f]) w:=
  h.look (r:=Wk.seen false cs x f) hx fun b hb hm=>hd b hb (by simpa [blocks,wldR] using hm)
theorem Sep.wldAt (h:Sep M w0 Δ F w) (i:Nat) (hi:Δ[i]? = some (wldR b T z fp)):OwnW w b T z fp:=h.r i hi
theorem Sep.doneW {Δ':List Rsc}{fp0:List Nat}(h:Sep (· ∈ fp0) w0 (wldR b T z fp::Δ') F w):MutW w0 w fp0 b T z:=
  ⟨h.ext,fp,h.r 0 rfl,h.nodup1 (i:=0) rfl,fun x hx=>h.new x (by simp [blocks,wldR,hx])⟩
theorem Sep.mutW (h:Sep M w0 Δ F w) (i:Nat) (hi:Δ[i]? = some (wldR b T z fp)) (m:MutW w w' fp b T z'):∃ fp',Sep M w0 (Δ.set i (wldR b T z' fp')) F w':=by
  obtain ⟨e,fp',h1,h2,h3⟩:=m
  exact ⟨fp',h.set hi (q:=wldR b T z' fp') e h1 h2 h3⟩
theorem Sep.openW (h:Sep M w0 Δ F w) (i:Nat) (hi:Δ[i]? = some (wldR b T z fp)) :
    ∃ A9 C9 A10 C10 A11 C11 f9 f10 f11,z.Ok∧Sep M w0 (Δ.set i (Wk.box b (.cells [.int .i64 z.Shape.Groups,.int .i64 z.Shape.Column,.int .i64 z.Shape.Data,.int .i64 z.Shape.Spare,.int .i64 z.Shape.Rows,.int .i64 z.Shape.Cap,.int .i64 z.Shape.Batch,.int .i64 z.Shape.Queue,.int .i64 z.Shape.Stage,.slice A9 z.Groups.length C9,.slice A10 z.On.length C10,.slice A11 z.Tapes.length C11,.int .i64 z.Writes,.int .i64 z.Stop,.bool z.Down].toArray T))++[gone,Wk.mine [.slice A9 z.Groups.length C9] z.Groups f9,Wk.mine [.slice A10 z.On.length C10] z.On f10,Wk.mine [.slice A11 z.Tapes.length C11] z.Tapes f11]) F w:=by
  obtain ⟨A9,C9,A10,C10,A11,C11,f9,f10,f11,h1,h2,h3,h4,h5,h6⟩:OwnW w b T z fp:=h.r i hi
  have hil:i<Δ.length:=(List.getElem?_eq_some_iff.1 hi).1
  have p1:(Wk.box b (.cells [.int .i64 z.Shape.Groups,.int .i64 z.Shape.Column,.int .i64 z.Shape.Data,.int .i64 z.Shape.Spare,.int .i64 z.Shape.Rows,.int .i64 z.Shape.Cap,.int .i64 z.Shape.Batch,.int .i64 z.Shape.Queue,.int .i64 z.Shape.Stage,.slice A9 z.Groups.length C9,.slice A10 z.On.length C10,.slice A11 z.Tapes.length C11,.int .i64 z.Writes,.int .i64 z.Stop,.bool z.Down].toArray T)).φ w:=h1
  have H2:=h.part i hi [Wk.box b (.cells [.int .i64 z.Shape.Groups,.int .i64 z.Shape.Column,.int .i64 z.Shape.Data,.int .i64 z.Shape.Spare,.int .i64 z.Shape.Rows,.int .i64 z.Shape.Cap,.int .i64 z.Shape.Batch,.int .i64 z.Shape.Queue,.int .i64 z.Shape.Stage,.slice A9 z.Groups.length C9,.slice A10 z.On.length C10,.slice A11 z.Tapes.length C11,.int .i64 z.Writes,.int .i64 z.Stop,.bool z.Down].toArray T),Wk.mine [.slice A9 z.Groups.length C9] z.Groups f9,Wk.mine [.slice A10 z.On.length C10] z.On f10,Wk.mine [.slice A11 z.Tapes.length C11] z.Tapes f11] (all_cons p1 (all_cons h2 (all_cons h3 (all_cons h4 σ)))) (by simp [blocks,Wk.mine,Wk.box,wldR,h6])
  exact ⟨A9,C9,A10,C10,A11,C11,f9,f10,f11,h5,H2.perm (oR hil)⟩
theorem Sep.closeW (h:Sep M w0 Δ F w) (i j9 j10 j11:Nat) (z:Wld) {A9 C9 A10 C10 A11 C11 f9 f10 f11 n9 n10 n11} (hi:Δ[i]? = some (Wk.box b (.cells [.int .i64 z.Shape.Groups,.int .i64 z.Shape.Column,.int .i64 z.Shape.Data,.int .i64 z.Shape.Spare,.int .i64 z.Shape.Rows,.int .i64 z.Shape.Cap,.int .i64 z.Shape.Batch,.int .i64 z.Shape.Queue,.int .i64 z.Shape.Stage,.slice A9 n9 C9,.slice A10 n10 C10,.slice A11 n11 C11,.int .i64 z.Writes,.int .i64 z.Stop,.bool z.Down].toArray T))) (h9:Δ[j9]? = some (Wk.mine [.slice A9 n9 C9] z.Groups f9)) (h10:Δ[j10]? = some (Wk.mine [.slice A10 n10 C10] z.On f10)) (h11:Δ[j11]? = some (Wk.mine [.slice A11 n11 C11] z.Tapes f11))
    (d1:Nat.beq j9 i=false) (d2:Nat.beq j10 i=false) (d3:Nat.beq j11 i=false) (d4:Nat.beq j10 j9=false) (d5:Nat.beq j11 j9=false) (d6:Nat.beq j11 j10=false) (ok:z.Ok) :
    ∃ fp,Sep M w0 ((((Δ.set j11 gone).set j10 gone).set j9 gone).set i (wldR b T z fp)) F w:=by
  obtain rfl:=eM (h.mine j9 h9)
  obtain rfl:=eM (h.mine j10 h10)
  obtain rfl:=eM (h.mine j11 h11)
  have n1:j9≠i:=fun e=>by subst e; simp at d1
  have n2:j10≠i:=fun e=>by subst e; simp at d2
  have n3:j11≠i:=fun e=>by subst e; simp at d3
  have n4:j10≠j9:=fun e=>by subst e; simp at d4
  have n5:j11≠j9:=fun e=>by subst e; simp at d5
  have n6:j11≠j10:=fun e=>by subst e; simp at d6
  have g:∀ {L:List Rsc}{k:Nat}{a r:Rsc},L[k]? = some r→(L.set k a)[k]? = some a:=fun h=>List.getElem?_set_self (List.getElem?_eq_some_iff.1 h).1
  have H1:=h.join2 j10 j11 h10 h11 d6
  have a10:((Δ.set j11 gone).set j10 (cat (Wk.mine [.slice A10 z.On.length C10] z.On f10) (Wk.mine [.slice A11 z.Tapes.length C11] z.Tapes f11)))[j10]? = some (cat (Wk.mine [.slice A10 z.On.length C10] z.On f10) (Wk.mine [.slice A11 z.Tapes.length C11] z.Tapes f11)):=g (r:=Wk.mine [.slice A10 z.On.length C10] z.On f10) (by rw [List.getElem?_set_ne n6]; exact h10)
  have a9:((Δ.set j11 gone).set j10 (cat (Wk.mine [.slice A10 z.On.length C10] z.On f10) (Wk.mine [.slice A11 z.Tapes.length C11] z.Tapes f11)))[j9]? = some (Wk.mine [.slice A9 z.Groups.length C9] z.Groups f9):=by rw [List.getElem?_set_ne n4,List.getElem?_set_ne n5]; exact h9
  have H2:=H1.join2 j9 j10 a9 a10 d4
  rw [List.set_set] at H2
  have ai:((((Δ.set j11 gone).set j10 gone).set j9 (cat (Wk.mine [.slice A9 z.Groups.length C9] z.Groups f9) (cat (Wk.mine [.slice A10 z.On.length C10] z.On f10) (Wk.mine [.slice A11 z.Tapes.length C11] z.Tapes f11)))))[i]? = some (Wk.box b (.cells [.int .i64 z.Shape.Groups,.int .i64 z.Shape.Column,.int .i64 z.Shape.Data,.int .i64 z.Shape.Spare,.int .i64 z.Shape.Rows,.int .i64 z.Shape.Cap,.int .i64 z.Shape.Batch,.int .i64 z.Shape.Queue,.int .i64 z.Shape.Stage,.slice A9 z.Groups.length C9,.slice A10 z.On.length C10,.slice A11 z.Tapes.length C11,.int .i64 z.Writes,.int .i64 z.Stop,.bool z.Down].toArray T)):=by rw [List.getElem?_set_ne n1,List.getElem?_set_ne n2,List.getElem?_set_ne n3]; exact hi
  have b9:((((Δ.set j11 gone).set j10 gone).set j9 (cat (Wk.mine [.slice A9 z.Groups.length C9] z.Groups f9) (cat (Wk.mine [.slice A10 z.On.length C10] z.On f10) (Wk.mine [.slice A11 z.Tapes.length C11] z.Tapes f11)))))[j9]? = some (cat (Wk.mine [.slice A9 z.Groups.length C9] z.Groups f9) (cat (Wk.mine [.slice A10 z.On.length C10] z.On f10) (Wk.mine [.slice A11 z.Tapes.length C11] z.Tapes f11))):=g (r:=Wk.mine [.slice A9 z.Groups.length C9] z.Groups f9) (by rw [List.getElem?_set_ne n4,List.getElem?_set_ne n5]; exact h9)
  have H3:=H2.join2 i j9 ai b9 d1
  rw [List.set_set] at H3
  obtain ⟨q1,q2,q3,q4⟩:(cat (Wk.box b (.cells [.int .i64 z.Shape.Groups,.int .i64 z.Shape.Column,.int .i64 z.Shape.Data,.int .i64 z.Shape.Spare,.int .i64 z.Shape.Rows,.int .i64 z.Shape.Cap,.int .i64 z.Shape.Batch,.int .i64 z.Shape.Queue,.int .i64 z.Shape.Stage,.slice A9 z.Groups.length C9,.slice A10 z.On.length C10,.slice A11 z.Tapes.length C11,.int .i64 z.Writes,.int .i64 z.Stop,.bool z.Down].toArray T)) (cat (Wk.mine [.slice A9 z.Groups.length C9] z.Groups f9) (cat (Wk.mine [.slice A10 z.On.length C10] z.On f10) (Wk.mine [.slice A11 z.Tapes.length C11] z.Tapes f11)))).φ w:=H3.r i (g (r:=Wk.box b (.cells [.int .i64 z.Shape.Groups,.int .i64 z.Shape.Column,.int .i64 z.Shape.Data,.int .i64 z.Shape.Spare,.int .i64 z.Shape.Rows,.int .i64 z.Shape.Cap,.int .i64 z.Shape.Batch,.int .i64 z.Shape.Queue,.int .i64 z.Shape.Stage,.slice A9 z.Groups.length C9,.slice A10 z.On.length C10,.slice A11 z.Tapes.length C11,.int .i64 z.Writes,.int .i64 z.Stop,.bool z.Down].toArray T)) (by rw [List.getElem?_set_ne n1,List.getElem?_set_ne n2,List.getElem?_set_ne n3]; exact hi))
  have hg:=g (a:=cat (Wk.box b (.cells [.int .i64 z.Shape.Groups,.int .i64 z.Shape.Column,.int .i64 z.Shape.Data,.int .i64 z.Shape.Spare,.int .i64 z.Shape.Rows,.int .i64 z.Shape.Cap,.int .i64 z.Shape.Batch,.int .i64 z.Shape.Queue,.int .i64 z.Shape.Stage,.slice A9 z.Groups.length C9,.slice A10 z.On.length C10,.slice A11 z.Tapes.length C11,.int .i64 z.Writes,.int .i64 z.Stop,.bool z.Down].toArray T)) (cat (Wk.mine [.slice A9 z.Groups.length C9] z.Groups f9) (cat (Wk.mine [.slice A10 z.On.length C10] z.On f10) (Wk.mine [.slice A11 z.Tapes.length C11] z.Tapes f11)))) (r:=Wk.box b (.cells [.int .i64 z.Shape.Groups,.int .i64 z.Shape.Column,.int .i64 z.Shape.Data,.int .i64 z.Shape.Spare,.int .i64 z.Shape.Rows,.int .i64 z.Shape.Cap,.int .i64 z.Shape.Batch,.int .i64 z.Shape.Queue,.int .i64 z.Shape.Stage,.slice A9 z.Groups.length C9,.slice A10 z.On.length C10,.slice A11 z.Tapes.length C11,.int .i64 z.Writes,.int .i64 z.Stop,.bool z.Down].toArray T)) (L:=((Δ.set j11 gone).set j10 gone).set j9 gone) (k:=i) (by rw [List.getElem?_set_ne n1,List.getElem?_set_ne n2,List.getElem?_set_ne n3]; exact hi)
  have hn:=H3.nodup1 hg
  have H4:=H3.conv i (wldR b T z (b::(f9++(f10++f11)))) hg ⟨A9,C9,A10,C10,A11,C11,f9,f10,f11,q1,q2,q3,q4,ok,rfl⟩ (fun x hx=>hx) hn
  rw [List.set_set] at H4
  exact ⟨_,H4⟩
end
section
variable {M:Nat→Prop}{w0 w w1 w2:World}{Δ F:List Rsc}
theorem Sep.inB (_:Sep M w0 Δ F w) (i:Nat) {r:Rsc}(hi:Δ[i]? = some r) {b:Nat}(hb:b∈r.fp):b∈blocks Δ:=ct.2 ⟨r,List.mem_of_getElem? hi,hb⟩
end
end Go.Wk
namespace Go.Wk
open Rp (sz own)
def bD (z:Wld):Bool:=decide (z.Stop ≠ -1) && decide (z.Stop≤z.Writes)
def zt (z:Wld):Wld:=⟨z.Shape,z.Groups,[],z.Tapes,z.Writes,z.Stop,true⟩
def iz (z:Wld):Wld:=⟨z.Shape,z.Groups,z.On,z.Tapes,z.Writes+1,z.Stop,z.Down⟩
def ll (z:Wld) (y:Wld):Wld:=if bD z=true then zt z else iz y
theorem iL {z y:Wld}(h:bD z=true):ll z y=zt z:=if_pos h
theorem eF {z y:Wld}(h:bD z=false):ll z y=iz y:=if_neg (by simp [h])
def pE (t:Nat) (r:Rec) (z:Wld):Wld:=⟨z.Shape,z.Groups,z.On,z.Tapes.set t ⟨false,(z.Tapes.getD t default).Recs++[r]⟩,z.Writes,z.Stop,z.Down⟩
def fS (t:Nat) (r:Rec) (z:Wld):Wld:=ll z (pE t r z)
def nM (z:Wld) (r:Rec):Bool := !bD z && !bD (fS 0 r z)
def nj (z:Wld) (r:Rec):Wld:=if bD z=true then zt z else fS 1 r (fS 0 r z)
def fi (z:Wld):Bool:=decide (200<((z.Tapes.getD 0 default).Recs.length:Int)+1) || decide (200<((z.Tapes.getD 1 default).Recs.length:Int)+1)
def noWld:Wld:=⟨⟨0,0,0,0,0,0,0,0,0⟩,[],[],[],0,0,false⟩
theorem kC {t:Nat}{r:Rec}{z:Wld}:(fS t r z).Tapes.length=z.Tapes.length:=by
  unfold fS ll; split
  · rfl
  · simp [iz,pE]
theorem jH {t:Nat}{r:Rec}{z:Wld}:z.Writes≤(fS t r z).Writes∧(fS t r z).Writes≤z.Writes+1:=by
  unfold fS ll; split
  · show z.Writes≤z.Writes∧z.Writes≤z.Writes+1; omega
  · show z.Writes≤z.Writes+1∧z.Writes+1≤z.Writes+1; omega
theorem xW {t u:Nat}{r:Rec}{z:Wld}:((fS t r z).Tapes.getD u default).Recs.length≤(z.Tapes.getD u default).Recs.length+1:=by
  unfold fS ll; split
  · show (z.Tapes.getD u default).Recs.length≤_; omega
  · show ((z.Tapes.set t _).getD u default).Recs.length≤_
    rw [cP]; split
    · next h=>rw [h.1]; simp
    · omega
theorem ti {f g:Nat→Nat}:∀ k,bV (fun i=>f i+g i) k=bV f k+bV g k
  | 0=>rfl
  | k+1=>by
    show bV (fun i=>f i+g i) k+(f k+g k)=bV f k+f k+(bV g k+g k)
    rw [ti k]; omega
theorem wj {i c:Nat}:∀ k,bV (fun j=>if j=i then c else 0) k=if i<k then c else 0
  | 0=>rfl
  | k+1=>by
    show bV (fun j=>if j=i then c else 0) k+(if k=i then c else 0)=_
    rw [wj k]
    by_cases h:k=i
    · subst h; rw [if_neg ω,if_pos rfl,if_pos ω]; omega
    · rw [if_neg h]
      by_cases h2:i<k
      · rw [if_pos h2,if_pos ω]; omega
      · rw [if_neg h2,if_neg ω]
section
variable {α:Type}[Inhabited α] {f:α→Nat}{xs:List α}{y:α}{i:Nat}
theorem GM:mkL f (xs++[y])=mkL f xs+f y:=by
  unfold mkL
  rw [List.length_append]
  show bV _ xs.length+f ((xs++[y]).getD xs.length default)=_
  have e1:(xs++[y]).getD xs.length default=y:=by simp [List.getD]
  rw [e1,rg (g:=fun i=>f (xs.getD i default)) fun j hj=>by
    have e:(xs++[y]).getD j default=xs.getD j default:=by rw [nk hj]
    rw [e]]
end
theorem zH {z:Wld}:bW (zt z)≤bW z:=by
  unfold bW zt; dsimp only; simp
end Go.Wk
namespace Go.Wk
open Rp (sz own)
theorem fT {α:Type}{xs:List α}{k:Nat}{d:α}(h:k<xs.length):xs.take k++[xs.getD k d]=xs.take (k+1):=by
  rw [cS h]; exact List.take_append_getElem h
theorem fN {w:Wld}(h:fO w=0):0≤w.Writes∧w.Writes≤1000000000 ∧ -1≤w.Stop∧w.Stop≤1000000000:=by
  unfold fO at h
  split at h
  · rename_i h1; exact absurd h h1
  · split at h
    · split at h
      · rename_i h1; exact absurd h h1
      · split at h
        · rename_i h1
          simp only [Bool.and_eq_true,bk] at h1
          omega
        · omega
    · omega
theorem Sep.asSt {α β:Type}[Rp α] [Rp β] {M:Nat→Prop}{w0 w:World}{Δ F:List Rsc}(h:Sep M w0 Δ F w) (i:Nat) {cs cs':List Value}{x:α}(y:β) {fp:List Nat}(hi:Δ[i]? = some (Wk.mine cs x fp)) (hq:own true w cs' y fp):Sep M w0 (Δ.set i (Wk.mine cs' y fp)) F w:=
  have hn:=h.nodup1 hi
  h.conv i (Wk.mine cs' y fp) hi hq (fun b hb=>hb) hn
section
variable {w w':World}{fp f:List Nat}{F:List Rsc}{y:WldResult}{x:Wld}{A10 A11 A12:Option Addr}{C10 C11 C12:Nat}
theorem WldResult.mutW (ok:y.Ok) (h:Sep (· ∈ fp) w [Wk.mine [.int .i64 y.Wd.Shape.Groups,.int .i64 y.Wd.Shape.Column,.int .i64 y.Wd.Shape.Data,.int .i64 y.Wd.Shape.Spare,.int .i64 y.Wd.Shape.Rows,.int .i64 y.Wd.Shape.Cap,.int .i64 y.Wd.Shape.Batch,.int .i64 y.Wd.Shape.Queue,.int .i64 y.Wd.Shape.Stage,.slice A10 y.Wd.Groups.length C10,.slice A11 y.Wd.On.length C11,.slice A12 y.Wd.Tapes.length C12,.int .i64 y.Wd.Writes,.int .i64 y.Wd.Stop,.bool y.Wd.Down] x f] F w') :
    Mut w w' fp [.int .i64 y.Code,.int .i64 y.Wd.Shape.Groups,.int .i64 y.Wd.Shape.Column,.int .i64 y.Wd.Shape.Data,.int .i64 y.Wd.Shape.Spare,.int .i64 y.Wd.Shape.Rows,.int .i64 y.Wd.Shape.Cap,.int .i64 y.Wd.Shape.Batch,.int .i64 y.Wd.Shape.Queue,.int .i64 y.Wd.Shape.Stage,.slice A10 y.Wd.Groups.length C10,.slice A11 y.Wd.On.length C11,.slice A12 y.Wd.Tapes.length C12,.int .i64 y.Wd.Writes,.int .i64 y.Wd.Stop,.bool y.Wd.Down] (⟨y.Code,x⟩:WldResult):=by
  obtain ⟨B9,D9,B10,D10,B11,D11,g9,g10,g11,e,ef,ok',o9,o10,o11⟩:=uM (h.mine 0 rfl)
  refine ⟨h.ext,f,?_,h.nodup1 (i:=0) rfl,fun b hb=>h.new b (by simpa [blocks,Wk.mine] using hb)⟩
  have hh:=WldResult.own_mk (x:=(⟨y.Code,x⟩:WldResult)) ⟨ok.1,ok'⟩ o9 o10 o11
  have e2:=congrArg (fun l=>Value.int .i64 y.Code::l) e
  dsimp only at e2 hh
  rw [e2,ef]
  exact hh
end
section
variable {P:Program}{n:Nat}{ops:Array Oper}{Q:Post}{L:Env}{S:World→Prop}{w w0:World}{M:Nat→Prop}{Δ F:List Rsc}{ty:TypeId}{p:String}{af:Array Edge}{g:Option (Nat × Bool)}{i:Nat}{rest:List (Nat × Bool)}
theorem zC {t:TypeId}{x y:Operand}{b off sz:Nat}{cs:List Value}{T} {vs:List Value}(ho:ops.toList[i]? = some ⟨none,.store t x y,ty,p,af,g⟩) (hw:Wn ops n L ⟨none,.store t x y,ty,p,af,g⟩) (hs:∀ w,(sizeOf t).run P w = .ok sz w) (hx:evL L x=some (.pointer (some ⟨b,off,none⟩))) (hy:evL L y=some (.agg vs.toArray))
    (hl:vs.length=sz) (h1:tx vs=true) (H:Sep M w0 Δ F w) (j:Nat) (hi:Δ[j]? = some (Wk.box b (.cells cs.toArray T))) (hf:Nat.ble (off+sz) cs.length=true) (hS:∀ w',S w→Ext (· = b) w w'→rest≠[]→S w')
    (k:∀ w',Ext (· = b) w w'→Sep M w0 (Δ.set j (Wk.box b (.cells (aQ cs off vs).toArray T))) F w'→DL P n ops Q S rest L w') :
    DL P n ops Q S ((i,false)::rest) L w:=by
  have hf':=Nat.le_of_ble_eq_true hf
  have h:=k _ (Ext.refl.put (.inl rfl)) (H.put j _ hi)
  rw [← sO (by rw [hl]; exact hf')] at h
  exact zd ho hw rfl (kv hs hx hy hl (lD h1) (H.box j hi) (by simpa using hf')) (fun hSw hr=>hS _ hSw (Ext.refl.put (.inl rfl)) hr) h
end
end Go.Wk
namespace Go.Wk
open Rp (sz own)
section
variable {M:Nat→Prop}{w0 w w1 w2:World}{Δ F:List Rsc}{b:Nat}{T:TypeId}{z:Wld}{fp fp1:List Nat}
theorem Sep.boxFar (h:Sep M w0 Δ F w) (i j:Nat) {c:Nat}{o:Obj}(hi:Δ[i]? = some (wldR b T z fp)) (hj:Δ[j]? = some (Wk.box c o)) (hij:Nat.beq j i=false) (s1:∀ x∈fp1,x∈fp∨w.heap.size≤x) (e1:Ext (· ∈ fp) w w1) :
    w1.heap[c]? = some o∧c ∉ fp1:=by
  have hb:w.heap[c]? = some o:=h.r j hj
  have hn:c ∉ fp:=h.apart (i:=i) (j:=j) hi hj hij c (by simp [Wk.box])
  exact ⟨e1.heapM hn hb,fun hm=>(s1 c hm).elim hn fun hg=>by have:=(Array.getElem?_eq_some_iff.1 hb).1; omega⟩
theorem Sep.seeFar {α:Type}[Rp α] (h:Sep M w0 Δ F w) (i j:Nat) {s:Bool}{cs:List Value}{x:α}{f:List Nat}(hi:Δ[i]? = some (wldR b T z fp)) (hj:F[j]? = some (Wk.seen s cs x f)) (s1:∀ x∈fp1,x∈fp∨w.heap.size≤x) (e1:Ext (· ∈ fp) w w1) :
    own false w1 cs x f∧∀ b∈f,b ∉ fp1:=by
  have hx:own s w cs x f:=h.fs _ (List.mem_of_getElem? hj)
  have hn:∀ b∈f,b ∉ fp:=fun b hb hm=>h.ap _ (List.mem_of_getElem? hj) b hb (h.inB i hi hm)
  have hl:=Rp.lt hx
  exact ⟨aS (Rp.st hx fun b hb=>e1.block b (hl b hb) (hn b hb)),fun b hb hm=>(s1 b hm).elim (hn b hb) fun hg=>by have:=hl b hb; omega⟩
theorem Sep.boxF (h:Sep M w0 [wldR b T z fp] F w) {c:Nat}{o:Obj}(hb:w.heap[c]? = some o) (hd:c ∉ fp):Sep M w0 [wldR b T z fp] (F++[Wk.box c o]) w:=
  h.look (r:=Wk.box c o) hb fun x hx hm=>by
    rw [show x=c by simpa [Wk.box] using hx] at hm
    exact hd (by simpa [blocks,wldR] using hm)
def Sep.S2 {M:Nat→Prop}{w0 w:World}{Δ F:List Rsc}(_:Sep M w0 Δ F w) (i j:Nat):World→Prop:=Ext (fun b=>b∈(Δ.getD i gone).fp∨b∈(Δ.getD j gone).fp) w
theorem kz {r d:Rsc}{i:Nat}(h:Δ[i]? = some r):Δ.getD i d=r:=by simp [List.getD,h]
theorem Sep.s2Call (h:Sep M w0 Δ F w) {i j:Nat}(hS:h.S2 i j w1) (e:Ext No w1 w2):h.S2 i j w2:=Ext.trans hS e.no
theorem Sep.s2In (h:Sep M w0 Δ F w) {i j:Nat}(hS:h.S2 i j w1) (k:Nat) {r:Rsc}(hk:Δ[k]? = some r) (hij:k=i∨k=j) {N:Nat→Prop}(e:Ext N w1 w2) (hN:∀ b,N b→b∈r.fp):h.S2 i j w2:=
  Ext.step hS e fun b hb => .inl (by
    rcases hij with rfl | rfl
    · exact .inl (by rw [kz hk]; exact hN b hb)
    · exact .inr (by rw [kz hk]; exact hN b hb))
theorem Sep.s2FBox (h:Sep M w0 Δ F w) {i j:Nat}(hx:h.S2 i j w1) (k:Nat) {c:Nat}{o:Obj}(hk:F[k]? = some (Wk.box c o)) {ri rj:Rsc}(hi:Δ[i]? = some ri) (hj:Δ[j]? = some rj):w1.heap[c]? = some o:=
  Ext.heapM hx (fun hm=>h.ap _ (List.mem_of_getElem? hk) c (by simp [Wk.box]) (by
    rcases hm with hm | hm
    · rw [kz hi] at hm; exact h.inB i hi hm
    · rw [kz hj] at hm; exact h.inB j hj hm)) (h.fs _ (List.mem_of_getElem? hk))
theorem Sep.s2Box (h:Sep M w0 Δ F w) {i j:Nat}(hx:h.S2 i j w1) (k:Nat) {c:Nat}{o:Obj}(hk:Δ[k]? = some (Wk.box c o)) {ri rj:Rsc}(hi:Δ[i]? = some ri) (hj:Δ[j]? = some rj) (d1:Nat.beq k i=false) (d2:Nat.beq k j=false):w1.heap[c]? = some o:=
  Ext.heapM hx (fun hm=>by
    rcases hm with hm | hm
    · rw [kz hi] at hm; exact h.apart (i:=i) (j:=k) hi hk d1 c (by simp [Wk.box]) hm
    · rw [kz hj] at hm; exact h.apart (i:=j) (j:=k) hj hk d2 c (by simp [Wk.box]) hm) (h.r k hk)
end
section
variable {P:Program}{n:Nat}{ops:Array Oper}{Q:Post}{L:Env}{S:World→Prop}{w w0:World}{M:Nat→Prop}{Δ F:List Rsc}{ty:TypeId}{p:String}{af:Array Edge}{g:Option (Nat × Bool)}{α:Type}[Rp α] {i:Nat}{rest:List (Nat × Bool)}
theorem kJ {t:TypeId}{x y:Operand}{ad:Option Addr}{m cap k b off:Nat}{xs:List α}{T:TypeId}{ck:List Value}{f1 f2:List Nat}{v:Value}(ho:ops.toList[i]? = some ⟨none,.store t x y,ty,p,af,g⟩) (hw:Wn ops n L ⟨none,.store t x y,ty,p,af,g⟩) (hs:∀ w,(sizeOf t).run P w = .ok 1 w)
    (H:Sep M w0 Δ F w) (j q:Nat) (hi:Δ[j]? = some (hol ad m cap xs k b off T ck f1 f2)) (hj:Nat.blt q ck.length=true) (hx:evL L x=some (.pointer (some ⟨b,off+q,none⟩))) (hy:evL L y=some v) (h1:v.oneCell'=true) (hS:∀ w',S w→Ext (· = b) w w'→rest≠[]→S w')
    (kk:∀ w',Sep M w0 (Δ.set j (hol ad m cap xs k b off T (ck.set q v) f1 f2)) F w'→DL P n ops Q S rest L w'):DL P n ops Q S ((i,false)::rest) L w:=by
  obtain ⟨cur,hb,hlt,H'⟩:=H.hset j hi q (Nat.le_of_ble_eq_true hj) v
  exact zd ho hw rfl (fv hs hx hy h1 hb hlt) (fun hSw hr=>hS _ hSw (Ext.refl.put (.inl rfl)) hr) (kk _ H')
end
theorem lz {z:Wld}(h:fO z=0):(z.Tapes.getD 0 default).Recs.length≤200∧(z.Tapes.getD 1 default).Recs.length≤200:=by
  obtain ⟨_,_,_,h2,h3⟩:=cw h
  have hm:z.Tapes.any du=false:=by
    cases hq:z.Tapes.any du with
    | false=>rfl
    | true=>unfold gb at h3; rw [if_pos hq] at h3; omega
  have key:∀ i,i<z.Tapes.length→(z.Tapes.getD i default).Recs.length≤200:=fun i hi=>by
    have:=y5 (d:=default) hm i hi
    unfold du at this
    simp only [decide_eq_false_iff_not] at this; omega
  exact ⟨key 0 ω,key 1 ω⟩
theorem nB {t:Nat}{r:Rec}{z:Wld}(h:z.Ok):(pE t r z).Ok:=h
theorem pv {z:Wld}(h:z.Ok):(zt z).Ok:=h
theorem kW {z:Wld}(h:z.Ok) (h2:z.Writes≤2000000000):(iz z).Ok:=by
  refine ⟨h.1,?_,h.2.2⟩
  have h3:=h.2.1
  show I64ok (z.Writes+1)
  unfold I64ok at h3 ⊢; omega
def lK (z:Wld) (m:Int):Bool:=decide (200<((z.Tapes.getD 0 default).Recs.length:Int)+m) || decide (200<((z.Tapes.getD 1 default).Recs.length:Int)+m)
def uk (z:Wld):Int:=200-max ((z.Tapes.getD 0 default).Recs.length:Int) ((z.Tapes.getD 1 default).Recs.length:Int)
theorem F5 {z:Wld}(h:uk z<1):fi z=true:=by
  unfold uk at h; unfold fi
  simp only [Bool.or_eq_true,decide_eq_true_eq]; omega
theorem Hu {z:Wld}(h:¬ uk z<1):fi z=false:=by
  unfold uk at h; unfold fi
  simp only [Bool.or_eq_false_iff,decide_eq_false_iff_not]; omega
theorem Bj {z:Wld}(h:fi z=false):(z.Tapes.getD 0 default).Recs.length<200∧(z.Tapes.getD 1 default).Recs.length<200:=by
  unfold fi at h
  simp only [Bool.or_eq_false_iff,decide_eq_false_iff_not] at h; omega
theorem uo {z:Wld}(h:¬ z.Stop = -1) (h2:z.Writes ≥ z.Stop):bD z=true:=by
  unfold bD; simp only [Bool.and_eq_true,decide_eq_true_eq]; exact ⟨h,h2⟩
theorem nb {z:Wld}(h:z.Stop = -1∨¬ z.Writes ≥ z.Stop):bD z=false:=by
  unfold bD; simp only [Bool.and_eq_false_iff,decide_eq_false_iff_not]
  rcases h with h | h
  · exact .inl (by simp [h])
  · exact .inr ω
theorem tC {t:Nat}{r:Rec}{z:Wld}(h:bD z=false):(fS t r z).Down=z.Down:=by
  unfold fS; rw [eF h]; rfl
theorem uT {z:Wld}{r:Rec}(h:bD z=true):nj z r=fS 0 r z∧nM z r=false:=by
  unfold nj nM fS
  rw [if_pos h,h,iL h]; exact ⟨rfl,rfl⟩
theorem oo {z:Wld}{r:Rec}(h:bD z=false):nj z r=fS 1 r (fS 0 r z)∧nM z r = !bD (fS 0 r z):=by
  unfold nj nM
  rw [if_neg (by simp [h]),h]; exact ⟨rfl,rfl⟩
end Go.Wk
namespace Go.Wk
open Rp (sz own)
theorem ta:noWld.Ok:=by unfold Wld.Ok Shape.Ok I64ok noWld; dsimp only; omega
theorem iG {w w':World}{c:Int}(h:I64ok c):Res w w' [.int .i64 c,.int .i64 0,.int .i64 0,.int .i64 0,.int .i64 0,.int .i64 0,.int .i64 0,.int .i64 0,.int .i64 0,.int .i64 0,.slice none 0 0,.slice none 0 0,.slice none 0 0,.int .i64 0,.int .i64 0,.bool false] (⟨c,noWld⟩:WldResult):=
  ⟨_,WldResult.own_mk (x:=⟨c,noWld⟩) ⟨h,ta⟩ (.inr (.inl ⟨rfl,rfl,rfl⟩)) (.inr (.inl ⟨rfl,rfl,rfl⟩)) (.inr (.inl ⟨rfl,rfl,rfl⟩)),List.nodup_nil,σ⟩
theorem E3 {t:Nat}{r:Rec}{z:Wld}(h:z.Ok) (h2:z.Writes≤2000000000):(fS t r z).Ok:=by
  unfold fS ll; split
  · exact pv h
  · exact kW (z:=pE t r z) (nB h) h2
theorem te {s:Bool}{w:World}{c s0 s1 s2 s3 s4 s5 s6 s7 s8 wr sp:Int}{dn:Bool}{A10 A11 A12:Option Addr}{n10 C10 n11 C11 n12 C12:Nat}{x:WldResult}{fp:List Nat}(h:own s w [.int .i64 c,.int .i64 s0,.int .i64 s1,.int .i64 s2,.int .i64 s3,.int .i64 s4,.int .i64 s5,.int .i64 s6,.int .i64 s7,.int .i64 s8,.slice A10 n10 C10,.slice A11 n11 C11,.slice A12 n12 C12,.int .i64 wr,.int .i64 sp,.bool dn] x fp) :
    Sees w [.slice A10 n10 C10] x.Wd.Groups∧Sees w [.slice A11 n11 C11] x.Wd.On∧Sees w [.slice A12 n12 C12] x.Wd.Tapes:=by
  obtain ⟨B10,D10,B11,D11,B12,D12,g10,g11,g12,e,ef,ok',o10,o11,o12⟩:=pW h
  simp only [List.cons.injEq,Value.slice.injEq,Value.int.injEq,Value.bool.injEq,and_true,true_and] at e
  obtain ⟨_,_,_,_,_,_,_,_,_,_,⟨rfl,rfl,rfl⟩,⟨rfl,rfl,rfl⟩,⟨rfl,rfl,rfl⟩,_,_,_⟩:=e
  exact ⟨⟨_,aS o10⟩,⟨_,aS o11⟩,⟨_,aS o12⟩⟩
end Go.Wk
namespace Go.Wk
open Rp (sz own)
structure RecV where
  r:Rec
  A6:Option Addr
  C6:Nat
  A7:Option Addr
  C7:Nat
  A8:Option Addr
  C8:Nat
def RecV.cs (v:RecV):List Value:=[.int .i64 v.r.Kind,.int .i64 v.r.Seq,.string v.r.Name,.int .i64 v.r.Length,.int .i64 v.r.Group,.int .i64 v.r.Row,.slice v.A6 v.r.Rows.length v.C6,.slice v.A7 v.r.Data.length v.C7,.slice v.A8 v.r.Delta.length v.C8]
instance:Inhabited RecV:=⟨⟨default,none,0,none,0,none,0⟩⟩
theorem RecV.one {v:RecV}:∀ x∈v.cs,x.oneCell'=true:=by
  intro x hx
  simp only [RecV.cs,List.mem_cons,List.not_mem_nil,or_false] at hx
  rcases hx with rfl | rfl | rfl | rfl | rfl | rfl | rfl | rfl | rfl<;>rfl
instance:Rp RecV where
  sz:=9
  pos:=by decide
  own _ _ cs v fp:=cs=v.cs∧fp=[]∧v.r.Ok
  len h:=by rw [h.1]; rfl
  one h v hv:=by rw [h.1] at hv; exact RecV.one v hv
  st h _:=h
  lt h b hb:=by rw [h.2.1] at hb; simp at hb
  weak h:=h
section
variable {M:Nat→Prop}{w0 w:World}{Δ F:List Rsc}
theorem Sep.viewAt (h:Sep M w0 Δ F w) (i:Nat) {ad n cap} {vs:List RecV}{f} (hi:Δ[i]? = some (Wk.mine [.slice ad n cap] vs f)) (k:Nat) (hk:k<vs.length) :
    ∃ b o,ad=some ⟨b,o,none⟩∧At w b (o+k*9) (vs.getD k default).cs∧(vs.getD k default).r.Ok:=by
  obtain ⟨b,o,cs,fk,e,hat,hx,_⟩:=fP (h.mine i hi) k hk
  rw [cS hk]
  obtain ⟨e1,_,ok⟩:=hx
  exact ⟨b,o,e,by rw [← e1]; exact hat,ok⟩
end
end Go.Wk
namespace Go.Wk
open Rp (sz own)
theorem jx {w:World}{v:RecV}(ok:v.r.Ok):own true w v.cs v []:=⟨rfl,rfl,ok⟩
section
variable {M:Nat→Prop}{w0 w:World}{Δ F:List Rsc}
theorem Sep.viewSeen (h:Sep M w0 Δ F w) (i:Nat) {s:Bool}{ad n cap} {vs:List RecV}{f} (hi:F[i]? = some (Wk.seen s [.slice ad n cap] vs f)) (k:Nat) (hk:k<vs.length) :
    ∃ b o,ad=some ⟨b,o,none⟩∧At w b (o+k*9) (vs.getD k default).cs∧(vs.getD k default).r.Ok:=by
  have hx:own s w [.slice ad n cap] vs f:=h.fs _ (List.mem_of_getElem? hi)
  obtain ⟨b,o,cs,fk,e,hat,hx,_⟩:=fP hx k hk
  rw [cS hk]
  obtain ⟨e1,_,ok⟩:=hx
  exact ⟨b,o,e,by rw [← e1]; exact hat,ok⟩
end
end Go.Wk
namespace Go.Wk
structure LinO {K:Type}(lt:K→K→Prop):Prop where
  irr:∀ a,¬ lt a a
  tr:∀ a b c,lt a b→lt b c→lt a c
  tot:∀ a b,lt a b∨a=b∨lt b a
section
variable {α K:Type}{lt:K→K→Prop}{key:α→K}
inductive Ord (lt:K→K→Prop) (key:α→K):List α→Prop
  | nil:Ord lt key []
  | cons {x xs}:(∀ y∈xs,¬ lt (key y) (key x))→Ord lt key xs→Ord lt key (x::xs)
theorem Ord.app {xs ys:List α}(h:Ord lt key xs) (k:Ord lt key ys) (hh:∀ x∈xs,∀ y∈ys,¬ lt (key y) (key x)):Ord lt key (xs++ys):=by
  induction h with
  | nil=>exact k
  | cons h1 h2 ih=>
    rename_i x l
    refine .cons (fun y hy=>?_) (ih fun a ha b hb=>hh a (by simp [ha]) b hb)
    rcases List.mem_append.1 hy with hy | hy
    · exact h1 y hy
    · exact hh x σ y hy
theorem Ord.left {xs ys:List α}(h:Ord lt key (xs++ys)):Ord lt key xs:=by
  induction xs with
  | nil=>exact .nil
  | cons x xs ih=>
    cases h with
    | cons h1 h2=>exact .cons (fun y hy=>h1 y (by simp [hy])) (ih h2)
theorem Ord.right {xs ys:List α}(h:Ord lt key (xs++ys)):Ord lt key ys:=by
  induction xs with
  | nil=>exact h
  | cons x xs ih=>
    cases h with
    | cons h1 h2=>exact ih h2
theorem Ord.le {xs ys:List α}(h:Ord lt key (xs++ys)):∀ x∈xs,∀ y∈ys,¬ lt (key y) (key x):=by
  induction xs with
  | nil=>simp
  | cons x xs ih=>
    cases h with
    | cons h1 h2=>
      intro a ha b hb
      rcases List.mem_cons.1 ha with rfl | ha
      · exact h1 b (by simp [hb])
      · exact ih h2 a ha b hb
end
section
variable {α K:Type}[DecidableEq K] {lt:K→K→Prop}{key:α→K}
def dg (key:α→K) (xs ys:List α):Prop:=∀ k,(ys.filter fun x=>decide (key x=k))=xs.filter fun x=>decide (key x=k)
def Stable (lt:K→K→Prop) (key:α→K) (xs ys:List α):Prop:=Ord lt key ys∧dg key xs ys
theorem dg.refl {xs:List α}:dg key xs xs:=fun _=>rfl
theorem dg.trans {xs ys zs:List α}(h:dg key xs ys) (k:dg key ys zs):dg key xs zs:=fun c=>(k c).trans (h c)
theorem dg.symm {xs ys:List α}(h:dg key xs ys):dg key ys xs:=fun c=>(h c).symm
theorem dg.app {xs ys xs' ys':List α}(h:dg key xs ys) (k:dg key xs' ys'):dg key (xs++xs') (ys++ys'):=fun c=>by
  rw [List.filter_append,List.filter_append,h c,k c]
theorem dg.mem {xs ys:List α}(h:dg key xs ys) {x:α}(hx:x∈ys):x∈xs:=by
  have:x∈ys.filter fun y=>decide (key y=key x):=by rw [List.mem_filter]; exact ⟨hx,σ⟩
  rw [h (key x),List.mem_filter] at this
  exact this.1
theorem dg.len {xs ys:List α}:dg key xs ys→ys.length=xs.length:=by
  induction xs generalizing ys with
  | nil=>
    intro h
    cases ys with
    | nil=>rfl
    | cons y ys=>exact absurd (h.mem (x:=y) σ) σ
  | cons x xs ih=>
    intro h
    have hx:x∈ys:=(dg.symm h).mem σ
    have hk:=h (key x)
    rw [List.filter_cons_of_pos σ] at hk
    have key1:∀ (l:List α) (r:List α),(l.filter fun y=>decide (key y=key x))=x::r→∃ l1 l2,l=l1++x::l2∧(∀ y∈l1,key y≠key x)∧(l2.filter fun y=>decide (key y=key x))=r:=by
      intro l
      induction l with
      | nil=>intro r h; simp at h
      | cons y l ihl=>
        intro r h
        by_cases hy:key y=key x
        · rw [List.filter_cons_of_pos (by simp [hy])] at h
          injection h with h1 h2
          exact ⟨[],l,by rw [h1]; rfl,σ,h2⟩
        · rw [List.filter_cons_of_neg (by simp [hy])] at h
          obtain ⟨l1,l2,e,h1,h2⟩:=ihl r h
          exact ⟨y::l1,l2,by rw [e]; rfl,fun z hz=>by rcases List.mem_cons.1 hz with rfl | hz; exact hy; exact h1 z hz,h2⟩
    obtain ⟨l1,l2,e,h1,h2⟩:=key1 ys _ hk
    have h3:dg key xs (l1++l2):=fun k=>by
      have hkk:=h k
      rw [e,List.filter_append] at hkk
      rw [List.filter_append]
      by_cases hkx:key x=k
      · subst hkx
        rw [show (l1.filter fun y=>decide (key y=key x))=[] from List.filter_eq_nil_iff.2 fun y hy=>by simp [h1 y hy],List.nil_append]
        exact h2
      · rw [List.filter_cons_of_neg (by simp [hkx]),List.filter_cons_of_neg (by simp [hkx])] at hkk
        exact hkk
    have h4:=ih h3
    rw [e,List.length_append,List.length_cons,List.length_cons]
    rw [List.length_append] at h4
    omega
theorem AD (hl:LinO lt):∀ {ys zs:List α},Ord lt key ys→Ord lt key zs→dg key ys zs→ys=zs
  | [],zs,_,_,h=>by
    have:=h.len
    exact (List.eq_nil_of_length_eq_zero this).symm
  | y::ys,[],_,_,h=>by have:=h.len; simp at this
  | y::ys,z::zs,.cons a1 a2,.cons b1 b2,h=>by
    have hk:key y=key z:=by
      rcases hl.tot (key y) (key z) with c | c | c
      · have hm:y∈z::zs:=(dg.symm h).mem σ
        rcases List.mem_cons.1 hm with e | e
        · rw [e]
        · exact absurd c (b1 y e)
      · exact c
      · have hm:z∈y::ys:=h.mem σ
        rcases List.mem_cons.1 hm with e | e
        · rw [e]
        · exact absurd c (a1 z e)
    have h1:=h (key y)
    rw [List.filter_cons_of_pos (by simp [hk]),List.filter_cons_of_pos σ] at h1
    injection h1 with h2 h3
    subst h2
    have h4:dg key ys zs:=fun k=>by
      have:=h k
      by_cases e:key z=k
      · rw [List.filter_cons_of_pos (by simp [e]),List.filter_cons_of_pos (by simp [e])] at this
        exact (List.cons.inj this).2
      · rw [List.filter_cons_of_neg (by simp [e]),List.filter_cons_of_neg (by simp [e])] at this
        exact this
    rw [AD hl a2 b2 h4]
theorem xE (hl:LinO lt) {xs ys zs:List α}(h:Stable lt key xs ys) (k:Stable lt key xs zs):ys=zs:=
  AD hl h.1 k.1 (h.2.symm.trans k.2)
theorem dg.swap {xs ys:List α}(h:∀ x∈xs,∀ y∈ys,key x≠key y):dg key (xs++ys) (ys++xs):=fun k=>by
  rw [List.filter_append,List.filter_append]
  by_cases hx:∃ x∈xs,key x=k
  · obtain ⟨x,hx,e⟩:=hx
    rw [show (ys.filter fun y=>decide (key y=k))=[] from List.filter_eq_nil_iff.2 fun y hy=>by
      have:=h x hx y hy
      simp only [decide_eq_true_eq]; intro e2; exact this (e.trans e2.symm)]
    simp
  · rw [show (xs.filter fun y=>decide (key y=k))=[] from List.filter_eq_nil_iff.2 fun y hy=>by
      simp only [decide_eq_true_eq]; intro e2; exact hx ⟨y,hy,e2⟩]
    simp
theorem l0 (hl:LinO lt) {xs A B:List α}{x:α}(h:Stable lt key xs (A++B)) (hB:∀ y∈B,lt (key x) (key y)) (hA:∀ y∈A,¬ lt (key x) (key y)):Stable lt key (xs++[x]) (A++x::B):=by
  refine ⟨?_,?_⟩
  · refine h.1.left.app (.cons (fun y hy hlt=>hl.irr _ (hl.tr _ _ _ hlt (hB y hy))) h.1.right) fun a ha b hb=>?_
    rcases List.mem_cons.1 hb with rfl | hb
    · exact hA a ha
    · exact h.1.le a ha b hb
  · have h1:dg key ((A++B)++[x]) (A++(x::B)):=by
      rw [List.append_assoc]
      refine dg.refl.app (dg.swap (xs:=B) (ys:=[x]) fun b hb y hy e=>?_)
      rw [List.mem_singleton] at hy
      subst hy
      have:=hB b hb
      rw [e] at this
      exact hl.irr _ this
    exact (h.2.app (dg.refl (xs:=[x]))).trans h1
end
end Go.Wk
namespace Go.Wk
open Rp (sz own)
section
variable {α:Type}
def seg (l:List α) (a b:Nat):List α:=(l.take b).drop a
theorem dQ {l:List α}{a b:Nat}(h:b≤l.length):(seg l a b).length=b-a:=by
  unfold seg; rw [List.length_drop,List.length_take]; omega
theorem dm {l:List α}{a b c:Nat}(h1:a≤b) (h2:b≤c):seg l a b++seg l b c=seg l a c:=by
  apply List.ext_getElem?
  intro j
  unfold seg
  rw [List.getElem?_append]
  simp only [List.length_drop,List.length_take,List.getElem?_drop,List.getElem?_take]
  by_cases hl:b≤l.length
  · rw [show min b l.length=b by omega]
    by_cases c1:j<b-a
    · rw [if_pos c1,if_pos ω,if_pos ω]
    · rw [if_neg c1]
      rw [show b+(j-(b-a))=a+j by omega]
  · rw [show min b l.length=l.length by omega]
    by_cases c1:j<l.length-a
    · rw [if_pos c1,if_pos ω,if_pos ω]
    · rw [if_neg c1]
      rw [List.getElem?_eq_none (show l.length≤b+(j-(l.length-a)) by omega),List.getElem?_eq_none (show l.length≤a+j by omega)]
      split<;>split<;>rfl
def gJ (l:List α) (x y z:Nat):List α:=l.take x++(seg l y z++(seg l x y++l.drop z))
theorem km {l:List α}{x y z:Nat}(h1:x≤y) (h2:y≤z) (h3:z≤l.length):(gJ l x y z).length=l.length:=by
  unfold gJ
  rw [List.length_append,List.length_append,List.length_append,dQ ω,dQ ω,List.length_take,List.length_drop]; omega
end
section
variable {α:Type}[Inhabited α]
def ja (l:List α) (a b:Nat):Nat→List α
  | 0=>l
  | i+1=>((ja l a b i).set (a+i) ((ja l a b i).getD (b+i) default)).set (b+i) ((ja l a b i).getD (a+i) default)
theorem eQ {l:List α}{a b:Nat}:∀ {n},(ja l a b n).length=l.length
  | 0=>rfl
  | n+1=>by rw [ja,List.length_set,List.length_set]; exact eQ
theorem rz {l:List α}{a b:Nat}:∀ {n:Nat},a+n≤b→b+n≤l.length→∀ j,(ja l a b n).getD j default=l.getD (if a≤j∧j<a+n then b+(j-a) else if b≤j∧j<b+n then a+(j-b) else j) default
  | 0,_,_,j=>by rw [if_neg ω,if_neg ω]; rfl
  | n+1,h1,h2,j=>by
    have ih:=rz (l:=l) (a:=a) (b:=b) (n:=n) ω ω
    have hl:=eQ (l:=l) (a:=a) (b:=b) (n:=n)
    rw [ja,cP,cP,List.length_set,hl,ih,ih,ih]
    by_cases e1:j=b+n
    · subst e1
      rw [if_pos ⟨rfl,ω⟩,if_neg ω,if_neg ω,if_neg ω,if_pos ω]
      congr 1; omega
    · rw [if_neg (fun h=>e1 h.1)]
      by_cases e2:j=a+n
      · subst e2
        rw [if_pos ⟨rfl,ω⟩,if_neg ω,if_neg ω,if_pos ω]
        congr 1; omega
      · rw [if_neg (fun h=>e2 h.1)]
        congr 1
        (repeat' split)<;>omega
theorem gm {l:List α}{a b j:Nat}(h:a+j<b):(seg l a b).getD j default=l.getD (a+j) default:=by
  unfold seg; simp only [List.getD,List.getElem?_drop,List.getElem?_take]; rw [if_pos h]
theorem nw {l:List α}{x y z:Nat}(h1:x≤y) (h2:y≤z) (h3:z≤l.length) (j:Nat):(gJ l x y z).getD j default=l.getD (if j<x then j else if j<x+(z-y) then y+(j-x) else if j<z then x+(j-x-(z-y)) else j) default:=by
  have e1:=dQ (l:=l) (a:=y) (b:=z) ω
  have e2:=dQ (l:=l) (a:=x) (b:=y) ω
  unfold gJ
  by_cases c1:j<x
  · rw [if_pos c1,nk (by rw [List.length_take]; omega)]
    simp only [List.getD,List.getElem?_take]; rw [if_pos c1]
  · rw [if_neg c1,qX (by rw [List.length_take]; omega),List.length_take,show min x l.length=x by omega]
    by_cases c2:j<x+(z-y)
    · rw [if_pos c2,nk ω,gm ω]
    · rw [if_neg c2,qX ω,e1]
      by_cases c3:j<z
      · rw [if_pos c3,nk ω,gm ω]
      · rw [if_neg c3,qX ω,e2]
        simp only [List.getD,List.getElem?_drop]
        congr 2; omega
theorem rH {xs ys:List α}(h:xs.length=ys.length) (k:∀ j,xs.getD j default=ys.getD j default):xs=ys:=dN (d:=default) h fun j _=>k j
theorem It {l:List α}{m i:Nat}(h1:i≤m) (h2:m+i≤l.length):ja l (m-i) m i=gJ l (m-i) m (m+i):=
  rH (by rw [eQ,km ω ω h2]) fun j=>by
    rw [rz ω h2,nw ω ω h2]
    congr 1
    split<;>(repeat' split)<;>omega
theorem GS {l:List α}{m i j:Nat}(h1:j<i) (h0:i≤m) (h2:m+j≤l.length):gJ (ja l (m-i) m j) (m-i+j) m (m+j)=gJ l (m-i) m (m+j):=
  rH (by rw [km ω ω (by rw [eQ]; omega),eQ,km ω ω h2]) fun q=>by
    rw [nw ω ω (by rw [eQ]; omega),rz ω h2,nw ω ω h2]
    congr 1
    (repeat' split)<;>omega
theorem FW {l:List α}{m i j:Nat}(h1:i<j) (h0:i≤m) (h2:m+j≤l.length):gJ (ja l (m-i) (m+j-i) i) (m-i) m (m+j-i)=gJ l (m-i) m (m+j):=
  rH (by rw [km ω ω (by rw [eQ]; omega),eQ,km ω ω h2]) fun q=>by
    rw [nw ω ω (by rw [eQ]; omega),rz ω ω,nw ω ω h2]
    congr 1
    (repeat' split)<;>omega
end
end Go.Wk
namespace Go.Wk
open Rp (sz own)
def kLt (a b:Int × Int × Int):Prop:=a.1<b.1∨a.1=b.1∧(a.2.1<b.2.1∨a.2.1=b.2.1∧a.2.2<b.2.2)
theorem mU:LinO kLt where
  irr a h:=by unfold kLt at h; omega
  tr a b c h k:=by unfold kLt at h k ⊢; omega
  tot a b:=by
    by_cases h:kLt a b
    · exact .inl h
    · by_cases k:kLt b a
      · exact .inr (.inr k)
      · refine .inr (.inl ?_)
        obtain ⟨a1,a2,a3⟩:=a
        obtain ⟨b1,b2,b3⟩:=b
        unfold kLt at h k
        dsimp only at h k
        rw [show a1=b1 by omega,show a2=b2 by omega,show a3=b3 by omega]
def dU (r:Rec):Int × Int × Int:=(r.Seq,r.Kind,r.Group)
def dr (v:RecV):Int × Int × Int:=dU v.r
def jU (a b:Int):Int:=if a<b then -1 else if b<a then 1 else 0
def cfR (x y:Rec):Int:=if jU x.Seq y.Seq≠0 then jU x.Seq y.Seq else if jU x.Kind y.Kind≠0 then jU x.Kind y.Kind else jU x.Group y.Group
theorem pX {x y:Rec}:cfR x y<0↔kLt (dU x) (dU y):=by
  unfold cfR jU kLt dU
  dsimp only
  repeat' split
  all_goals omega
section
variable {P:Program}{n:Nat}{ops:Array Oper}{Q:Post}{L:Env}{S:World→Prop}{w w0:World}{M:Nat→Prop}{Δ F:List Rsc}{ty:TypeId}{p:String}{af:Array Edge}{g:Option (Nat × Bool)}{l:Nat}{rest:List (Nat × Bool)}
theorem fj {t:TypeId}{x y:Operand}{b off:Nat}{ad:Option Addr}{len cap:Nat}{xs:List RecV}{fp:List Nat}{u:RecV}(ho:ops.toList[l]? = some ⟨none,.store t x y,ty,p,af,g⟩) (hw:Wn ops n L ⟨none,.store t x y,ty,p,af,g⟩) (hs:∀ w,(sizeOf t).run P w = .ok 9 w)
    (H:Sep M w0 Δ F w) (i:Nat) (hi:Δ[i]? = some (Wk.mine [.slice ad len cap] xs fp)) (q:Nat) (hq:q<xs.length) (hx:evL L x=some (.pointer (some ⟨b,off+q*9,none⟩))) (had:ad=some ⟨b,off,none⟩) (hy:evL L y=some (.agg u.cs.toArray)) (ok:u.r.Ok)
    (hS:∀ w',S w→Ext (· = b) w w'→rest≠[]→S w')
    (k:∀ w' fp',Sep M w0 (Δ.set i (Wk.mine [.slice ad len cap] (xs.set q u) fp')) F w'→DL P n ops Q S rest L w') :
    DL P n ops Q S ((l,false)::rest) L w:=by
  obtain ⟨b',o',cur,T,e1,hb,hsz,hk⟩:=H.elset i hi q hq
  rw [had] at e1
  simp only [Option.some.injEq,Addr.mk.injEq,and_true] at e1
  obtain ⟨rfl,rfl⟩:=e1
  obtain ⟨fp',h⟩:=hk u.cs u ⟨rfl,rfl,ok⟩
  exact zd ho hw rfl (kv hs hx hy rfl RecV.one hb hsz) (fun hSw hr=>hS _ hSw (Ext.refl.put (.inl rfl)) hr) (k _ fp' h)
end
end Go.Wk
namespace Go.Wk
section
variable {α:Type}
theorem uP {l:List α}{a b:Nat}(h:b≤a):seg l a b=[]:=by
  unfold seg; apply List.eq_nil_of_length_eq_zero; rw [List.length_drop,List.length_take]; omega
end
section
variable {α:Type}[Inhabited α] {l l2 ws:List α}{a b i j:Nat}
theorem iS {xs ys:List α}{a b:Nat}(h1:b≤xs.length) (h2:b≤ys.length) (h:∀ j,a≤j→j<b→xs.getD j default=ys.getD j default):seg xs a b=seg ys a b:=
  dN (d:=default) (by rw [dQ h1,dQ h2]) fun j hj=>by
    rw [dQ h1] at hj
    rw [gm ω,gm ω]
    exact h _ ω ω
theorem lJ {l:List α}{a:Nat}(h:a<l.length):seg l a (a+1)=[l.getD a default]:=by
  apply dN (d:=default)
  · rw [dQ ω]; simp
  · intro j hj
    rw [dQ ω] at hj
    obtain rfl:j=0:=by omega
    rw [gm ω]; rfl
theorem iF {l:List α}{a b:Nat}{x:α}(h2:b≤l.length) (h:x∈seg l a b):∃ j,a≤j∧j<b∧l.getD j default=x:=by
  obtain ⟨j,hj,e⟩:=List.getElem_of_mem h
  rw [dQ h2] at hj
  refine ⟨a+j,ω,ω,?_⟩
  rw [← gm (b:=b) ω,cS (by rw [dQ h2]; omega)]; exact e
theorem zk {l:List α}{a b j:Nat}(h2:b≤l.length) (h:a≤j) (h3:j<b):l.getD j default∈seg l a b:=by
  have e:=gm (l:=l) (a:=a) (b:=b) (j:=j-a) ω
  rw [show a+(j-a)=j by omega] at e
  rw [← e,cS (by rw [dQ h2]; omega)]
  exact List.getElem_mem _
end
section
variable {ws l l2:List RecV}{a b i j:Nat}
def SortSeg (ws l:List RecV) (a b:Nat):Prop:=l.length=ws.length∧(∀ q,q<a∨b≤q→l.getD q default=ws.getD q default)∧Stable kLt dr (seg ws a b) (seg l a b)
def InsInv (ws l:List RecV) (a i j:Nat):Prop:=a≤j∧j≤i∧l.length=ws.length∧(∀ q,q<a∨i+1≤q→l.getD q default=ws.getD q default)∧Stable kLt dr (seg ws a i) (seg l a j++seg l (j+1) (i+1)) ∧
  l.getD j default=ws.getD i default∧∀ q,j<q→q≤i→kLt (dr (ws.getD i default)) (dr (l.getD q default))
theorem CA (h:a+1≤ws.length):SortSeg ws ws a (a+1):=
  ⟨rfl,fun _ _=>rfl,by rw [lJ ω]; exact .cons σ .nil,.refl⟩
theorem yg (h:b≤a):SortSeg ws ws a b:=⟨rfl,fun _ _=>rfl,by rw [uP h]; exact .nil,.refl⟩
theorem yr (h:SortSeg ws l a i) (h1:a≤i):InsInv ws l a i i:=by
  obtain ⟨e1,e2,e3⟩:=h
  refine ⟨h1,Nat.le_refl _,e1,fun q hq=>e2 q ω,?_,e2 i ω,fun q h3 h4=>by omega⟩
  rw [uP (Nat.le_refl (i+1)),List.append_nil]; exact e3
theorem vU (h:InsInv ws l a i j) (h1:a<j) (h2:i<ws.length) (hc:cfR (l.getD j default).r (l.getD (j-1) default).r<0) :
    InsInv ws ((l.set j (l.getD (j-1) default)).set (j-1) (l.getD j default)) a i (j-1):=by
  obtain ⟨e1,e2,e3,e4,e5,e6,e7⟩:=h
  have hg:∀ q,((l.set j (l.getD (j-1) default)).set (j-1) (l.getD j default)).getD q default=if q=j-1 then l.getD j default else if q=j then l.getD (j-1) default else l.getD q default:=fun q=>by
    rw [cP,cP,List.length_set]
    by_cases c1:q=j-1
    · rw [if_pos ⟨c1,ω⟩,if_pos c1]
    · rw [if_neg (fun h=>c1 h.1),if_neg c1]
      by_cases c2:q=j
      · rw [if_pos ⟨c2,ω⟩,if_pos c2]
      · rw [if_neg (fun h=>c2 h.1),if_neg c2]
  have hlen:((l.set j (l.getD (j-1) default)).set (j-1) (l.getD j default)).length=ws.length:=by rw [List.length_set,List.length_set]; exact e3
  refine ⟨ω,ω,hlen,fun q hq=>?_,?_,?_,fun q h3 h4=>?_⟩
  · rw [hg,if_neg ω,if_neg ω]; exact e4 q hq
  · have s1:seg ((l.set j (l.getD (j-1) default)).set (j-1) (l.getD j default)) a (j-1)=seg l a (j-1):=iS ω ω fun q h3 h4=>by rw [hg,if_neg ω,if_neg ω]
    have s2:seg ((l.set j (l.getD (j-1) default)).set (j-1) (l.getD j default)) (j-1+1) (i+1)=seg l (j-1) j++seg l (j+1) (i+1):=by
      rw [show j-1+1=j by omega,← dm (b:=j+1) ω ω,lJ ω]
      congr 1
      · have:=lJ (l:=l) (a:=j-1) ω
        rw [show j-1+1=j by omega] at this
        rw [this,hg,if_neg ω,if_pos rfl]
      · exact iS ω ω fun q h3 h4=>by rw [hg,if_neg ω,if_neg ω]
    rw [s1,s2,← List.append_assoc,dm ω ω]; exact e5
  · rw [hg,if_pos rfl]; exact e6
  · rw [hg,if_neg ω]
    by_cases c:q=j
    · rw [if_pos c]
      have:=(pX (x:=(l.getD j default).r) (y:=(l.getD (j-1) default).r)).1 hc
      rw [e6] at this; exact this
    · rw [if_neg c]; exact e7 q ω h4
theorem zR (h:InsInv ws l a i j) (h2:i<ws.length) (hc:j=a∨¬ cfR (l.getD j default).r (l.getD (j-1) default).r<0):SortSeg ws l a (i+1):=by
  obtain ⟨e1,e2,e3,e4,e5,e6,e7⟩:=h
  refine ⟨e3,e4,?_⟩
  have sl:seg l a (i+1)=seg l a j++l.getD j default::seg l (j+1) (i+1):=by
    rw [← dm (b:=j) ω ω,← dm (l:=l) (a:=j) (b:=j+1) (c:=i+1) ω ω,lJ ω]; rfl
  have sw:seg ws a (i+1)=seg ws a i++[ws.getD i default]:=by rw [← dm (b:=i) ω ω,lJ ω]
  rw [sl,sw,e6]
  refine l0 mU e5 (fun y hy=>?_) fun y hy=>?_
  · obtain ⟨q,h3,h4,rfl⟩:=iF ω hy
    exact e7 q ω ω
  · obtain ⟨q,h3,h4,rfl⟩:=iF ω hy
    rcases hc with hc | hc
    · omega
    · rw [pX,e6] at hc
      change ¬ kLt (dr (ws.getD i default)) (dr (l.getD (j-1) default)) at hc
      by_cases c:q=j-1
      · rw [c]; exact hc
      · have ho:Ord kLt dr (seg l a (j-1)++seg l (j-1) j):=by rw [dm ω ω]; exact e5.1.left
        have hle:=ho.le _ (zk (l:=l) (a:=a) (b:=j-1) (j:=q) ω h3 ω) _ (zk (l:=l) (a:=j-1) (b:=j) (j:=j-1) ω ω ω)
        intro hlt
        rcases mU.tot (dr (l.getD q default)) (dr (l.getD (j-1) default)) with c1 | c1 | c1
        · exact hc (mU.tr _ _ _ hlt c1)
        · rw [c1] at hlt; exact hc hlt
        · exact hle c1
def InsO (ws l:List RecV) (a b i:Nat):Prop:=(b≤a∧l=ws)∨(a<b∧i≤b∧SortSeg ws l a i)
theorem Dm (h:b≤ws.length):InsO ws ws a b (a+1):=by
  by_cases c:b≤a
  · exact .inl ⟨c,rfl⟩
  · exact .inr ⟨ω,ω,CA ω⟩
theorem G5 (h:InsO ws l a b i) (h1:a<i) (h2:i<b):SortSeg ws l a i:=by
  rcases h with ⟨h,_⟩ | ⟨_,_,h⟩
  · omega
  · exact h
theorem yS (h:SortSeg ws l a (i+1)) (h1:a<i) (h2:i<b):InsO ws l a b (i+1) := .inr ⟨ω,ω,h⟩
theorem Ig (h:InsO ws l a b i) (h2:¬ i<b):SortSeg ws l a b:=by
  rcases h with ⟨h,e⟩ | ⟨_,h1,h⟩
  · rw [e]; exact yg h
  · rwa [show b=i by omega]
end
end Go.Wk
namespace Go.Wk
def kAt (l:List RecV) (q:Nat):Int × Int × Int:=dr (l.getD q default)
section
variable {ws l l2 l3:List RecV}{a b m i j k s r p h mid e:Nat}
theorem gM (ho:Ord kLt dr (seg ws a b)) (hb:b≤ws.length) {x y:Nat}(h1:a≤x) (h2:x<y) (h3:y<b):¬ kLt (kAt ws y) (kAt ws x):=by
  have h4:Ord kLt dr (seg ws a y++seg ws y b):=by rw [dm ω ω]; exact ho
  exact h4.le _ (zk ω h1 h2) _ (zk hb (Nat.le_refl _) h3)
theorem JL (hb:b≤ws.length) (hh:∀ x y,a≤x→x<y→y<b→¬ kLt (kAt ws y) (kAt ws x)):Ord kLt dr (seg ws a b):=by
  have key:∀ n,∀ a,b-a≤n→(∀ x y,a≤x→x<y→y<b→¬ kLt (kAt ws y) (kAt ws x))→Ord kLt dr (seg ws a b):=by
    intro n
    induction n with
    | zero=>intro a h1 _; rw [uP ω]; exact .nil
    | succ n ih=>
      intro a h1 h2
      by_cases c:a<b
      · rw [← dm (b:=a+1) ω ω,lJ ω]
        refine .cons (fun y hy=>?_) (ih (a+1) ω fun x y q1 q2 q3=>h2 x y ω q2 q3)
        obtain ⟨q,q1,q2,rfl⟩:=iF hb hy
        exact h2 a q (Nat.le_refl _) ω q2
      · rw [uP ω]; exact .nil
  exact key _ a (Nat.le_refl _) hh
theorem o5 (ho:Ord kLt dr (seg ws a b)) (hb:b≤ws.length) {x y:Nat}(h1:a≤x) (h2:y≤b):Ord kLt dr (seg ws x y):=
  JL ω fun p q q1 q2 q3=>gM ho hb ω q2 ω
theorem FN {x y z:Int × Int × Int}(h1:¬ kLt y x) (h2:¬ kLt z y):¬ kLt z x:=fun h3=>by
  rcases mU.tot x y with c | c | c
  · exact h2 (mU.tr _ _ _ h3 c)
  · rw [← c] at h2; exact h2 h3
  · exact h1 c
theorem se {x y z:Int × Int × Int}(h1:kLt x y) (h2:¬ kLt z y):kLt x z:=by
  rcases mU.tot y z with c | c | c
  · exact mU.tr _ _ _ h1 c
  · rw [← c]; exact h1
  · exact absurd c h2
theorem zG {x y z:Int × Int × Int}(h1:¬ kLt y x) (h2:kLt y z):kLt x z:=by
  rcases mU.tot x y with c | c | c
  · exact mU.tr _ _ _ c h2
  · rw [c]; exact h2
  · exact absurd c h1
def LoInv (ws:List RecV) (a m b i j:Nat):Prop:=m≤i∧i≤j∧j≤b∧(∀ q,m≤q→q<i→kLt (kAt ws q) (kAt ws a))∧∀ q,j≤q→q<b→¬ kLt (kAt ws q) (kAt ws a)
theorem HG (h:m≤b):LoInv ws a m b m b:=⟨Nat.le_refl _,h,Nat.le_refl _,fun q h1 h2=>by omega,fun q h1 h2=>by omega⟩
theorem Jz (hI:LoInv ws a m b i j) (hb:b≤ws.length) (ho:Ord kLt dr (seg ws m b)) (h1:i≤h) (h2:h<j) (hc:cfR (ws.getD h default).r (ws.getD a default).r<0):LoInv ws a m b (h+1) j:=by
  obtain ⟨e1,e2,e3,e4,e5⟩:=hI
  have hc':kLt (kAt ws h) (kAt ws a):=pX.1 hc
  refine ⟨ω,ω,e3,fun q q1 q2=>?_,e5⟩
  by_cases c:q=h
  · rw [c]; exact hc'
  · exact zG (gM ho hb q1 ω ω) hc'
theorem Kw (hI:LoInv ws a m b i j) (hb:b≤ws.length) (ho:Ord kLt dr (seg ws m b)) (h1:i≤h) (h2:h<j) (hc:¬ cfR (ws.getD h default).r (ws.getD a default).r<0):LoInv ws a m b i h:=by
  obtain ⟨e1,e2,e3,e4,e5⟩:=hI
  have hc':¬ kLt (kAt ws h) (kAt ws a):=fun x=>hc (pX.2 x)
  refine ⟨e1,h1,ω,e4,fun q q1 q2=>?_⟩
  by_cases c:q=h
  · rw [c]; exact hc'
  · exact FN hc' (gM ho hb ω ω q2)
def UpInv (ws l:List RecV) (a k:Nat):Prop:=a≤k∧k<ws.length∧l.length=ws.length∧(∀ q,q<a∨k<q→l.getD q default=ws.getD q default)∧(∀ q,a≤q→q<k→l.getD q default=ws.getD (q+1) default)∧l.getD k default=ws.getD a default
theorem Hs (h:a<ws.length):UpInv ws ws a a:=⟨Nat.le_refl _,h,rfl,fun _ _=>rfl,fun q h1 h2=>by omega,rfl⟩
theorem E5 (hI:UpInv ws l a k) (hk:k+1<ws.length):UpInv ws ((l.set k (l.getD (k+1) default)).set (k+1) (l.getD k default)) a (k+1):=by
  obtain ⟨e1,e2,e3,e4,e5,e6⟩:=hI
  have hg:∀ q,((l.set k (l.getD (k+1) default)).set (k+1) (l.getD k default)).getD q default=if q=k+1 then l.getD k default else if q=k then l.getD (k+1) default else l.getD q default:=fun q=>by
    rw [cP,cP,List.length_set]
    by_cases c1:q=k+1
    · rw [if_pos ⟨c1,ω⟩,if_pos c1]
    · rw [if_neg (fun h=>c1 h.1),if_neg c1]
      by_cases c2:q=k
      · rw [if_pos ⟨c2,ω⟩,if_pos c2]
      · rw [if_neg (fun h=>c2 h.1),if_neg c2]
  refine ⟨ω,hk,by rw [List.length_set,List.length_set]; exact e3,fun q hq=>?_,fun q q1 q2=>?_,by rw [hg,if_pos rfl]; exact e6⟩
  · rw [hg,if_neg ω,if_neg ω]; exact e4 q ω
  · rw [hg,if_neg ω]
    by_cases c:q=k
    · rw [if_pos c,c]; exact e4 _ ω
    · rw [if_neg c]; exact e5 q q1 ω
theorem JH (hI:UpInv ws l a k) (hL:LoInv ws a (a+1) b (k+1) (k+1)) (hb:b≤ws.length) (ho:Ord kLt dr (seg ws (a+1) b)):SortSeg ws l a b:=by
  obtain ⟨e1,e2,e3,e4,e5,e6⟩:=hI
  obtain ⟨f1,f2,f3,f4,f5⟩:=hL
  have s1:seg l a k=seg ws (a+1) (k+1):=dN (d:=default) (by rw [dQ ω,dQ ω]; omega) fun q hq=>by
    rw [dQ ω] at hq
    rw [gm ω,gm ω,e5 _ ω ω]
    congr 1; omega
  have s2:seg l (k+1) b=seg ws (k+1) b:=iS ω hb fun q q1 q2=>e4 q ω
  have sl:seg l a b=seg ws (a+1) (k+1)++ws.getD a default::seg ws (k+1) b:=by
    rw [← dm (b:=k) ω ω,← dm (l:=l) (a:=k) (b:=k+1) (c:=b) ω ω,lJ ω,s1,s2,e6]; rfl
  have sw:seg ws a b=[ws.getD a default]++(seg ws (a+1) (k+1)++seg ws (k+1) b):=by
    rw [dm ω ω,← dm (l:=ws) (a:=a) (b:=a+1) (c:=b) ω ω,lJ ω]
  refine ⟨e3,fun q hq=>e4 q ω,?_,?_⟩
  · rw [sl]
    refine (o5 ho hb (Nat.le_refl _) f3).app (.cons (fun y hy=>?_) (o5 ho hb ω (Nat.le_refl _))) fun x hx y hy=>?_
    · obtain ⟨q,q1,q2,rfl⟩:=iF hb hy
      exact f5 q q1 q2
    · obtain ⟨q,q1,q2,rfl⟩:=iF ω hx
      rcases List.mem_cons.1 hy with rfl | hy
      · exact fun hlt=>mU.irr _ (mU.tr _ _ _ hlt (f4 q q1 q2))
      · obtain ⟨q',q3,q4,rfl⟩:=iF hb hy
        exact gM ho hb q1 ω q4
  · rw [sl,sw]
    have:dg dr ([ws.getD a default]++seg ws (a+1) (k+1)) (seg ws (a+1) (k+1)++[ws.getD a default]):=dg.swap fun x hx y hy ee=>by
      rw [List.mem_singleton] at hx
      subst hx
      obtain ⟨q,q1,q2,rfl⟩:=iF ω hy
      have:=f4 q q1 q2
      unfold kAt at this
      rw [ee] at this
      exact mU.irr _ this
    have h2:=this.app (dg.refl (xs:=seg ws (k+1) b))
    rw [List.append_assoc,List.append_assoc] at h2
    exact h2
def HiInv (ws:List RecV) (a m i j:Nat):Prop:=a≤i∧i≤j∧j≤m∧(∀ q,a≤q→q<i→¬ kLt (kAt ws m) (kAt ws q))∧∀ q,j≤q→q<m→kLt (kAt ws m) (kAt ws q)
theorem GV (h:a≤m):HiInv ws a m a m:=⟨Nat.le_refl _,h,Nat.le_refl _,fun q h1 h2=>by omega,fun q h1 h2=>by omega⟩
theorem JU (hI:HiInv ws a m i j) (hb:m≤ws.length) (ho:Ord kLt dr (seg ws a m)) (h1:i≤h) (h2:h<j) (hc:¬ cfR (ws.getD m default).r (ws.getD h default).r<0):HiInv ws a m (h+1) j:=by
  obtain ⟨e1,e2,e3,e4,e5⟩:=hI
  have hc':¬ kLt (kAt ws m) (kAt ws h):=fun x=>hc (pX.2 x)
  refine ⟨ω,ω,e3,fun q q1 q2=>?_,e5⟩
  by_cases c:q=h
  · rw [c]; exact hc'
  · exact FN (gM ho hb q1 (show q<h by omega) ω) hc'
theorem Kp (hI:HiInv ws a m i j) (hb:m≤ws.length) (ho:Ord kLt dr (seg ws a m)) (h1:i≤h) (h2:h<j) (hc:cfR (ws.getD m default).r (ws.getD h default).r<0):HiInv ws a m i h:=by
  obtain ⟨e1,e2,e3,e4,e5⟩:=hI
  have hc':kLt (kAt ws m) (kAt ws h):=pX.1 hc
  refine ⟨e1,h1,ω,e4,fun q q1 q2=>?_⟩
  by_cases c:q=h
  · rw [c]; exact hc'
  · exact se hc' (gM ho hb ω (show h<q by omega) q2)
def DnInv (ws l:List RecV) (a m i k:Nat):Prop:=i≤k∧InsInv ws l a m k∧∀ q,q<k→l.getD q default=ws.getD q default
theorem GD (hH:HiInv ws a m i i) (ho:Ord kLt dr (seg ws a m)):DnInv ws ws a m i m:=
  ⟨hH.2.2.1,yr ⟨rfl,fun _ _=>rfl,ho,.refl⟩ (by have:=hH.1; have:=hH.2.2.1; omega),fun _ _=>rfl⟩
theorem Fj (hI:DnInv ws l a m i k) (hH:HiInv ws a m i i) (h1:i<k) (h2:m<ws.length):DnInv ws ((l.set k (l.getD (k-1) default)).set (k-1) (l.getD k default)) a m i (k-1):=by
  obtain ⟨e1,e2,e3⟩:=hI
  have hk:k≤m:=e2.2.1
  have hlen:=e2.2.2.1
  have hai:=hH.1
  have hc:cfR (l.getD k default).r (l.getD (k-1) default).r<0:=by
    rw [pX,e2.2.2.2.2.2.1,e3 (k-1) ω]
    exact hH.2.2.2.2 (k-1) ω ω
  refine ⟨ω,vU e2 ω h2 hc,fun q hq=>?_⟩
  rw [cP,cP,List.length_set,if_neg ω,if_neg ω]
  exact e3 q ω
theorem JC (hI:DnInv ws l a m i i) (hH:HiInv ws a m i i) (h2:m<ws.length):SortSeg ws l a (m+1):=by
  obtain ⟨e1,e2,e3⟩:=hI
  refine zR e2 h2 ?_
  by_cases c:i=a
  · exact .inl c
  · refine .inr fun hc=>?_
    have h3:=e2.1
    rw [pX,e2.2.2.2.2.2.1,e3 (i-1) ω] at hc
    exact hH.2.2.2.1 (i-1) ω ω hc
end
end Go.Wk
namespace Go.Wk
section
variable {ws l l2 l3:List RecV}{a b m s r p s0 r0 h e mid:Nat}
theorem mE (h:Ord kLt dr (seg ws a b)):SortSeg ws ws a b:=⟨rfl,fun _ _=>rfl,h,.refl⟩
def MidInv (ws:List RecV) (p s0 r0 s r:Nat):Prop:=s0≤s∧s≤r∧r≤r0∧(∀ c,s0≤c→c<s→¬ kLt (kAt ws (p-c)) (kAt ws c))∧∀ c,r≤c→c<r0→kLt (kAt ws (p-c)) (kAt ws c)
theorem Ga (h:s0≤r0):MidInv ws p s0 r0 s0 r0:=⟨Nat.le_refl _,h,Nat.le_refl _,fun q h1 h2=>by omega,fun q h1 h2=>by omega⟩
def MidOK (ws:List RecV) (a m b p s0 r0:Nat):Prop:=a≤s0∧r0≤m∧m+r0≤p+1∧p<b+s0∧b≤ws.length∧Ord kLt dr (seg ws a m)∧Ord kLt dr (seg ws m b)∧m≤b
theorem Iz (hI:MidInv ws p s0 r0 s r) (hk:MidOK ws a m b p s0 r0) (h1:s≤h) (h2:h<r) (hc:¬ cfR (ws.getD (p-h) default).r (ws.getD h default).r<0):MidInv ws p s0 r0 (h+1) r:=by
  obtain ⟨e1,e2,e3,e4,e5⟩:=hI
  obtain ⟨k1,k2,k3,k4,k5,k6,k7,k8⟩:=hk
  have hc':¬ kLt (kAt ws (p-h)) (kAt ws h):=fun x=>hc (pX.2 x)
  refine ⟨ω,ω,e3,fun c q1 q2=>?_,e5⟩
  by_cases cc:c=h
  · rw [cc]; exact hc'
  · exact FN (gM k6 ω ω (show c<h by omega) ω) (FN hc' (gM k7 k5 ω (show p-h<p-c by omega) ω))
theorem Kc (hI:MidInv ws p s0 r0 s r) (hk:MidOK ws a m b p s0 r0) (h1:s≤h) (h2:h<r) (hc:cfR (ws.getD (p-h) default).r (ws.getD h default).r<0):MidInv ws p s0 r0 s h:=by
  obtain ⟨e1,e2,e3,e4,e5⟩:=hI
  obtain ⟨k1,k2,k3,k4,k5,k6,k7,k8⟩:=hk
  have hc':kLt (kAt ws (p-h)) (kAt ws h):=pX.1 hc
  refine ⟨e1,h1,ω,e4,fun c q1 q2=>?_⟩
  by_cases cc:c=h
  · rw [cc]; exact hc'
  · exact zG (gM k7 k5 ω (show p-c<p-h by omega) ω) (se hc' (gM k6 ω ω (show h<c by omega) ω))
def SymL (ws l:List RecV) (a s mid e b:Nat):Prop:=l.length=ws.length∧(∀ q,q<a∨b≤q→l.getD q default=ws.getD q default)∧dg dr (seg ws a b) (seg l a b) ∧
  (∀ x,a≤x→x<mid→∀ y,mid≤y→y<b→¬ kLt (kAt l y) (kAt l x))∧Ord kLt dr (seg l a s)∧Ord kLt dr (seg l s mid)∧Ord kLt dr (seg l mid e)∧Ord kLt dr (seg l e b)
theorem z8 (hI:MidInv ws p s0 r0 s s) (hk:MidOK ws a m b p s0 r0) (g1:s0=a∨p+1=b+s0) (g2:r0=m∨p+1=m+r0) (hmid:mid+m=p+1) (he:e+s=p+1):SymL ws (gJ ws s m e) a s mid e b:=by
  obtain ⟨e1,e2,e3,e4,e5⟩:=hI
  obtain ⟨k1,k2,k3,k4,k5,k6,k7,k8⟩:=hk
  have hs:s≤m:=by omega
  have hme:m≤e:=by omega
  have heb:e≤b:=by omega
  have hmd:mid=s+(e-m):=by omega
  have hlen:=km (l:=ws) hs hme ω
  have hg:∀ q,(gJ ws s m e).getD q default=ws.getD (if q<s then q else if q<mid then m+(q-s) else if q<e then s+(q-mid) else q) default:=fun q=>by
    rw [nw hs hme ω]
    congr 1
    (repeat' split)<;>omega
  have kg:∀ q,kAt (gJ ws s m e) q=kAt ws (if q<s then q else if q<mid then m+(q-s) else if q<e then s+(q-mid) else q):=fun q=>congrArg dr (hg q)
  have hx:∀ x,a≤x→x<s→∀ y,e≤y→y<b→¬ kLt (kAt ws y) (kAt ws x):=fun x h1 h2 y h3 h4=>by
    by_cases c:s0<s
    · have h5:=e4 (s-1) ω ω
      rw [show p-(s-1)=e by omega] at h5
      have h6:¬ kLt (kAt ws e) (kAt ws x):=by
        by_cases c2:x=s-1
        · rw [c2]; exact h5
        · exact FN (gM k6 ω h1 (show x<s-1 by omega) ω) h5
      by_cases c3:y=e
      · rw [c3]; exact h6
      · exact FN h6 (gM k7 k5 hme (show e<y by omega) h4)
    · rcases g1 with g1 | g1<;>omega
  have hy:∀ x,s≤x→x<m→∀ y,m≤y→y<e→kLt (kAt ws y) (kAt ws x):=fun x h1 h2 y h3 h4=>by
    by_cases c:s<r0
    · have h5:=e5 s (Nat.le_refl _) c
      have h6:kLt (kAt ws y) (kAt ws s):=by
        by_cases c2:y=p-s
        · rw [c2]; exact h5
        · exact zG (gM k7 k5 h3 (show y<p-s by omega) ω) h5
      by_cases c3:x=s
      · rw [c3]; exact h6
      · exact se h6 (gM k6 ω ω (show s<x by omega) h2)
    · rcases g2 with g2 | g2<;>omega
  have s1:seg (gJ ws s m e) a s=seg ws a s:=iS ω ω fun q q1 q2=>by rw [hg,if_pos ω]
  have s2:seg (gJ ws s m e) s mid=seg ws m e:=dN (d:=default) (by rw [dQ ω,dQ ω]; omega) fun q hq=>by
    rw [dQ ω] at hq
    rw [gm ω,gm ω,hg,if_neg ω,if_pos ω]; congr 1; omega
  have s3:seg (gJ ws s m e) mid e=seg ws s m:=dN (d:=default) (by rw [dQ ω,dQ ω]; omega) fun q hq=>by
    rw [dQ ω] at hq
    rw [gm ω,gm ω,hg,if_neg ω,if_neg ω,if_pos ω]; congr 1; omega
  have s4:seg (gJ ws s m e) e b=seg ws e b:=iS ω ω fun q q1 q2=>by rw [hg,if_neg ω,if_neg ω,if_neg ω]
  refine ⟨hlen,fun q hq=>?_,?_,fun x q1 q2 y q3 q4=>?_,?_,?_,?_,?_⟩
  · rw [hg]
    by_cases c:q<s
    · rw [if_pos c]
    · rw [if_neg c,if_neg ω,if_neg ω]
  · have t1:seg (gJ ws s m e) a b=seg ws a s++((seg ws m e++seg ws s m)++seg ws e b):=by
      rw [← dm (b:=s) ω ω,← dm (l:=gJ ws s m e) (a:=s) (b:=e) (c:=b) ω ω,← dm (l:=gJ ws s m e) (a:=s) (b:=mid) (c:=e) ω ω,s1,s2,s3,s4]
    have t2:seg ws a b=seg ws a s++((seg ws s m++seg ws m e)++seg ws e b):=by
      rw [dm (a:=s) hs hme,dm ω heb,dm ω ω]
    rw [t1,t2]
    refine dg.refl.app ((dg.swap fun x hx' y hy' ee=>?_).app .refl)
    obtain ⟨q,q1,q2,rfl⟩:=iF ω hx'
    obtain ⟨q',q3,q4,rfl⟩:=iF ω hy'
    have:=hy q q1 q2 q' q3 q4
    unfold kAt at this
    rw [ee] at this
    exact mU.irr _ this
  · rw [kg,kg,if_neg (show ¬ y<s by omega),if_neg (show ¬ y<mid by omega)]
    by_cases c1:x<s
    · rw [if_pos c1]
      by_cases c2:y<e
      · rw [if_pos c2]; exact gM k6 ω q1 ω ω
      · rw [if_neg c2]; exact hx x q1 c1 y ω q4
    · rw [if_neg c1,if_pos q2]
      by_cases c2:y<e
      · rw [if_pos c2]
        exact fun hlt=>mU.irr _ (mU.tr _ _ _ hlt (hy _ ω ω _ ω ω))
      · rw [if_neg c2]; exact gM k7 k5 ω ω q4
  · rw [s1]; exact o5 k6 ω (Nat.le_refl _) hs
  · rw [s2]; exact o5 k7 k5 (Nat.le_refl _) heb
  · rw [s3]; exact o5 k6 ω ω (Nat.le_refl _)
  · rw [s4]; exact o5 k7 k5 hme (Nat.le_refl _)
theorem Ac (h:s=m∨e=m) (hs:s≤m) (hm:m≤e) (he:e≤ws.length):gJ ws s m e=ws:=
  rH (km hs hm he) fun j=>by
    rw [nw hs hm he]
    congr 1
    (repeat' split)<;>omega
theorem vf (hS:SymL ws l a s mid e b) (h1:SortSeg l l2 a mid) (h2:SortSeg l2 l3 mid b) (ha:a≤mid) (hm:mid≤b) (hb:b≤ws.length):SortSeg ws l3 a b:=by
  obtain ⟨e1,e2,e3,e4,_⟩:=hS
  obtain ⟨f1,f2,f3,f4⟩:=h1
  obtain ⟨g1,g2,g3,g4⟩:=h2
  have t1:seg l3 a mid=seg l2 a mid:=iS ω ω fun q q1 q2=>g2 q ω
  have t2:seg l2 mid b=seg l mid b:=iS ω ω fun q q1 q2=>f2 q ω
  rw [t2] at g4
  refine ⟨ω,fun q hq=>by rw [g2 q ω,f2 q ω,e2 q hq],?_,?_⟩
  · rw [← dm (b:=mid) ha hm,t1]
    refine f3.app g3 fun x hx y hy=>?_
    obtain ⟨q,q1,q2,rfl⟩:=iF (l:=l) ω (f4.mem hx)
    obtain ⟨q',q3,q4,rfl⟩:=iF (l:=l) ω (g4.mem hy)
    exact e4 q q1 q2 q' q3 q4
  · refine e3.trans ?_
    rw [← dm (l:=l) (b:=mid) ha hm,← dm (l:=l3) (b:=mid) ha hm,t1]
    exact f4.app g4
end
theorem ve {l l2:List RecV}{a mid x y:Nat}(h:SortSeg l l2 a mid) (h1:mid≤x) (h2:y≤l.length):seg l2 x y=seg l x y:=
  iS (by have:=h.1; omega) h2 fun q q1 _=>h.2.1 q ω
section
variable {P:Program}{n:Nat}{L:Env}{w:World}{d:Option Tmp}{ty:TypeId}{p:String}{af:Array Edge}{g:Option (Nat × Bool)}
theorem rY {xt yt:TypeId}{x y:Operand}{k1 k2:IntKind}{m:Nat}(hx:evL L x=some (.int k1 (m:Nat))) (hy:evL L y=some (.int k2 1)) (hk:k1 = .u64):Py P n L w ⟨d,.binOp .shr xt x y yt,ty,p,af,g⟩ (.int k1 ((m / 2:Nat):Int)):=by
  subst hk
  have h:=Eh (P:=P) (n:=n) (w:=w) (d:=d) (ty:=ty) (p:=p) (af:=af) (g:=g) (xt:=xt) (yt:=yt) hx hy ω
  have e:(m:Int).fdiv (2^min (1:Int).toNat IntKind.u64.bits)=((m / 2:Nat):Int):=by
    show (m:Int).fdiv (2^1)=_
    rw [Int.fdiv_eq_ediv_of_nonneg _ ω]
    omega
  rw [e] at h
  exact h
end
end Go.Wk
namespace Go.Wk
open Go.Proofs Rp Go.Proofs.Tryz
set_option maxRecDepth 10000
theorem db {w:World}{ws:List RecV}{A:Option Addr}{n C a b m:Nat}{fp:List Nat}{gf:FuncId}{gL:List Value}{xa xb xm:Int}(o:own true w [.slice A n C] ws fp) (nd:fp.Nodup) (ha:xa=(a:Nat)) (hb:xb=(b:Nat)) (hm:xm=(m:Nat)) (h1:a+m≤b) (h2:b+m≤ws.length) (h0:0<ws.length):Ret Tryz.prog 451 #[.slice A n C,.int .i64 xa,.int .i64 xb,.int .i64 xm,.func (.func gf) #[] gL.toArray] w fun v w'=>(∃ ws',Mut w w' fp [.slice A n C] ws'∧ws'=ja ws a b m):=by
 subst ha;subst hb;subst hm;obtain rfl:=eM o;obtain ⟨hb0,ho0,had0⟩:=eH o 0 ω;subst had0;have wL:=oL o;refine aF func451 Z ntmps451 Z (fun Q hQ hN=>?_);have H0:=Sep.begin o nd;refine ab (sA Z Z (aa (an (bg (γ:=Nat × List Nat) (fun (i,f)=>[(0,.slice (some ⟨hb0,ho0,none⟩) ws.length C),(1,.int .i64 a),(2,.int .i64 b),(3,.int .i64 m),(10,.int .i64 i)]) (fun (i,f) w'=>Sep (· ∈ fp) w [mine [.slice (some ⟨hb0,ho0,none⟩) ws.length C] (ja ws a b i) f] [] w'∧i≤m) (fun (i,f)=>m-i) (0,fp) ⟨Z,Z,Z,Z,Z,trivial⟩ ⟨H0,ω⟩ (fun (i,f) w1 H1=>?_)))));obtain ⟨H1,hi⟩:=H1;refine ac (ab (sR 3 Z (aa (aB Z (fun c1=>?_) (fun c1=>?_)))))
 ·refine ak (ac (an ?_));have sl:=eQ (l:=ws) (a:=a) (b:=b) (n:=i);obtain ⟨eb1,eo1,ee1,ec1,eK1⟩:=H1.viewAt 0 Z (a+i) ω;obtain ⟨eb2,eo2,ee2,ec2,eK2⟩:=H1.viewAt 0 Z (b+i) ω;refine bH (S:=fun _=>True) (oQ [1,3,5,7,9,11,13,15,17,19,21,23,25,29,31,33,35,37,2012,26,38,41,42,45,46,38,26,41,42,45,46]) κ κ κ Z (fun _=>trivial) (fun q1=>?_);have H2:=H1.drawn q1;refine dR 3 Z (dV Z Z (fun zw hx=>aC Z Z iO) (dR 3 Z (dV Z Z (fun zw hx=>aC Z Z iO) (dR 3 Z (dV Z Z (fun zw hx=>aC Z Z iO) (dV Z Z (fun zw hx=>ay ba aN Z Z ee2 (b+i) ω ω) (dR 3 Z (dV Z Z (fun zw hx=>aC Z Z iO) (dV Z Z (fun zw hx=>ay ba aN Z Z ee1 (a+i) ω ω) (dF Z ?_ ?_))))))))))
  ·refine aT Z aj Z Z (au aD Z aN Z Z ec2) (aT Z aj Z Z (au aD Z aN Z Z ec1) (dV Z Z (fun zw hx=>ay ba aN Z Z Z (a+i) ω ω) (fj (u:=((ja ws a b i).getD (b+i) default)) Z aj aN H2 0 Z (a+i) ω Z Z Z eK2 (fun _ _ _ _=>trivial) (fun w2 fp1 H3=>?_))))
   try dsimp only[lNA,lCA,lSZ,lSS] at H3
   refine dV Z Z (fun zw hx=>ay ba aN Z Z Z (b+i) ω ω) (fj (u:=((ja ws a b i).getD (a+i) default)) Z aj aN H3 0 Z (b+i) (by rw [List.length_set]; omega) Z Z Z eK1 (fun _ _ _ _=>trivial) (fun w3 fp2 H4=>?_))
   try dsimp only[lNA,lCA,lSZ,lSS] at H4
   refine aU (am (sM Z Z (sV Z (aC Z Z iO) (sA Z Z (aa (⟨(i+1,_),⟨Z,Z,Z,Z,Z,trivial⟩,⟨H4,ω⟩,θ⟩))))))
  ·refine aT Z aj Z Z (au aD Z aN Z Z ec1) (aT Z aj Z Z (au aD Z aN Z Z ec2) (dV Z Z (fun zw hx=>ay ba aN Z Z Z (a+i) ω ω) (fj (u:=((ja ws a b i).getD (b+i) default)) Z aj aN H2 0 Z (a+i) ω Z Z Z eK2 (fun _ _ _ _=>trivial) (fun w4 fp3 H5=>?_))))
   try dsimp only[lNA,lCA,lSZ,lSS] at H5
   refine dV Z Z (fun zw hx=>ay ba aN Z Z Z (b+i) ω ω) (fj (u:=((ja ws a b i).getD (a+i) default)) Z aj aN H5 0 Z (b+i) (by rw [List.length_set]; omega) Z Z Z eK1 (fun _ _ _ _=>trivial) (fun w5 fp4 H6=>?_))
   try dsimp only[lNA,lCA,lSZ,lSS] at H6
   refine aU (am (sM Z Z (sV Z (aC Z Z iO) (sA Z Z (aa (⟨(i+1,_),⟨Z,Z,Z,Z,Z,trivial⟩,⟨H6,ω⟩,θ⟩))))))
 ·refine aI (hN _ _ (jX results451 ?_));obtain rfl:i=m:=by omega
  exact ⟨_,H1.done,Z⟩
theorem ic {w:World}{ws:List RecV}{A:Option Addr}{n C a m b:Nat}{fp:List Nat}{gf:FuncId}{gL:List Value}{xa xm xb:Int}(o:own true w [.slice A n C] ws fp) (nd:fp.Nodup) (ha:xa=(a:Nat)) (hm:xm=(m:Nat)) (hb:xb=(b:Nat)) (h1:a<m) (h2:m<b) (h3:b≤ws.length):Ret Tryz.prog 444 #[.slice A n C,.int .i64 xa,.int .i64 xm,.int .i64 xb,.func (.func gf) #[] gL.toArray] w fun v w'=>(∃ ws',Mut w w' fp [.slice A n C] ws'∧ws'=gJ ws a m b):=by
 subst ha;subst hm;subst hb;obtain rfl:=eM o;obtain ⟨hb0,ho0,had0⟩:=eH o 0 ω;subst had0;have wL:=oL o;refine aF func444 Z ntmps444 Z (fun Q hQ hN=>?_);have H0:=Sep.begin o nd;refine ab (sR 2 Z (sV Z (bM Z Z iO) (sA Z Z (aa (ab (sR 2 Z (sV Z (bM Z Z iO) (sA Z Z (aa (ac (an (bg (γ:=Nat × Nat × List RecV × List Nat) (fun (i,j,l,f)=>[(0,.slice (some ⟨hb0,ho0,none⟩) ws.length C),(1,.int .i64 a),(2,.int .i64 m),(3,.int .i64 b),(4,.func (.func gf) #[] gL.toArray),(10,.int .i64 i),(11,.int .i64 j)]) (fun (i,j,l,f) w'=>Sep (· ∈ fp) w [mine [.slice (some ⟨hb0,ho0,none⟩) ws.length C] l f] [] w'∧1≤i∧1≤j∧i≤m∧m+j≤ws.length∧l.length=ws.length∧gJ l (m-i) m (m+j)=gJ ws a m b) (fun (i,j,l,f)=>i+j) (m-a,b-m,ws,fp) ⟨Z,Z,Z,Z,Z,eqI ω,eqI ω,trivial⟩ ⟨H0,ω,ω,ω,ω,Z,by rw [show m-(m-a)=a by omega,show m+(b-m)=b by omega]⟩ (fun (i,j,l,f) w1 H1=>?_)))))))))))));obtain ⟨H1,hi1,hj1,him,hmj,hll,hre⟩:=H1;refine ac (ab (sR 3 Z (aa (aB Z (fun c1=>?_) (fun c1=>?_)))))
 ·refine ak (an (ab (sR 3 Z (aa (aB Z (fun c2=>?_) (fun c2=>?_))))))
  ·refine ab (sR 3 Z (sV Z (bM Z Z iO) (sR 3 Z (sC func451 rm Z (db (a:=m-i) (b:=m) (m:=j) (H1.mine 0 Z) (H1.nodup1 (i:=0) Z) ω ω ω ω ω ω) (fun v1 w2 r1=>?_)))));obtain ⟨x1,mm1,rfl⟩:=r1;obtain ⟨fp1,H2⟩:=H1.mut 0 Z mm1
   try dsimp only[lNA,lCA,lSZ,lSS] at H2
   refine aa (am (sR 2 Z (sV Z (bM Z Z iO) (sA Z Z (aa (⟨(i-j,j,ja l (m-i) m j,_),⟨Z,Z,Z,Z,Z,eqI ω,eqI ω,trivial⟩,⟨H2,ω,ω,ω,ω,by rw [eQ]; exact hll,?_⟩,θ⟩))))));rw [show m-(i-j)=m-i+j by omega,GS ω ω ω]; exact hre
  ·refine ab (sR 3 Z (sV Z (bM Z Z iO) (sR 2 Z (sV Z (aC Z Z iO) (sM Z Z (sV Z (bM Z Z iO) (sR 2 Z (sC func451 rm Z (db (a:=m-i) (b:=m+j-i) (m:=i) (H1.mine 0 Z) (H1.nodup1 (i:=0) Z) ω ω ω ω ω ω) (fun v2 w3 r2=>?_)))))))));obtain ⟨x2,mm2,rfl⟩:=r2;obtain ⟨fp2,H3⟩:=H1.mut 0 Z mm2
   try dsimp only[lNA,lCA,lSZ,lSS] at H3
   refine aa (am (sR 2 Z (sV Z (bM Z Z iO) (sA Z Z (aa (⟨(i,j-i,ja l (m-i) (m+j-i) i,_),⟨Z,Z,Z,Z,Z,eqI ω,eqI ω,trivial⟩,⟨H3,ω,ω,ω,ω,by rw [eQ]; exact hll,?_⟩,θ⟩))))));rw [show m+(j-i)=m+j-i by omega,FW ω ω ω]; exact hre
 ·refine aI (am (sR 3 Z (sV Z (bM Z Z iO) (sR 3 Z (sC func451 rm Z (db (a:=m-i) (b:=m) (m:=i) (H1.mine 0 Z) (H1.nodup1 (i:=0) Z) ω ω ω ω ω ω) (fun v3 w4 r3=>?_))))));obtain ⟨x3,mm3,rfl⟩:=r3;obtain ⟨fp3,H4⟩:=H1.mut 0 Z mm3
  try dsimp only[lNA,lCA,lSZ,lSS] at H4
  refine aa (hN _ _ (jX results444 ?_));obtain rfl:i=j:=by omega
  exact ⟨_,H4.done,by rw [It ω ω]; exact hre⟩
theorem dI {w:World}{ws:List RecV}{A:Option Addr}{n C a b:Nat}{fp:List Nat}{gf:FuncId}{gL:List Value}{gF:Func}{xa xb:Int}(o:own true w [.slice A n C] ws fp) (nd:fp.Nodup) (ha:xa=(a:Nat)) (hb:xb=(b:Nat)) (gH:Tryz.prog.funcs[gf]? = some gF) (gB:gF.body.isNone=false) (gN:NG gF) (gC:∀ w1,Ext (· ∈ fp) w w1→∀ (x y:Rec) (A6:Option Addr) (C6:Nat) (A7:Option Addr) (C7:Nat) (A8:Option Addr) (C8:Nat) (B6:Option Addr) (D6:Nat) (B7:Option Addr) (D7:Nat) (B8:Option Addr) (D8:Nat),Ret Tryz.prog gf (([x.val A6 C6 A7 C7 A8 C8,y.val B6 D6 B7 D7 B8 D8]:List Value)++gL).toArray w1 fun v w'=>Ext No w1 w'∧v = .int .i64 (cfR x y)) (h1:a≤b) (h2:b≤ws.length) (h0:0<ws.length) (hL:ws.length≤1000000):Ret Tryz.prog 408 #[.slice A n C,.int .i64 xa,.int .i64 xb,.func (.func gf) #[] gL.toArray] w fun v w'=>(∃ ws',Mut w w' fp [.slice A n C] ws'∧SortSeg ws ws' a b):=by
 subst ha;subst hb;obtain rfl:=eM o;obtain ⟨hb0,ho0,had0⟩:=eH o 0 ω;subst had0;have wL:=oL o;refine aF func408 Z ntmps408 Z (fun Q hQ hN=>?_);have H0:=Sep.begin o nd;refine ab (sM Z Z (sV Z (aC Z Z iO) (sA Z Z (aa (an (bg (γ:=Nat × List RecV × List Nat) (fun (i,l,f)=>[(0,.slice (some ⟨hb0,ho0,none⟩) ws.length C),(1,.int .i64 a),(2,.int .i64 b),(3,.func (.func gf) #[] gL.toArray),(8,.int .i64 i)]) (fun (i,l,f) w'=>Sep (· ∈ fp) w [mine [.slice (some ⟨hb0,ho0,none⟩) ws.length C] l f] [] w'∧a<i∧InsO ws l a b i) (fun (i,l,f)=>b-i) (a+1,ws,fp) ⟨Z,Z,Z,Z,eqI ω,trivial⟩ ⟨H0,ω,Dm h2⟩ (fun (i,l,f) w1 H1=>?_)))))));obtain ⟨H1,hai,hO⟩:=H1;refine ac (ab (sR 3 Z (aa (aB Z (fun c1=>?_) (fun c1=>?_)))))
 ·refine ak (ac (an (ac ?_)));have hil:i<ws.length:=by omega
  have hS:=G5 hO hai ω;refine am (sR 2 Z (aa (an (bg (γ:=Nat × List RecV × List Nat) (fun (j,l,f)=>[(0,.slice (some ⟨hb0,ho0,none⟩) ws.length C),(1,.int .i64 a),(2,.int .i64 b),(3,.func (.func gf) #[] gL.toArray),(8,.int .i64 i),(9,.int .i64 j)]) (fun (j,l,f) w'=>Sep (· ∈ fp) w [mine [.slice (some ⟨hb0,ho0,none⟩) ws.length C] l f] [] w'∧InsInv ws l a i j) (fun (j,l,f)=>j) (i,l,f) ⟨Z,Z,Z,Z,Z,Z,trivial⟩ ⟨H1,yr hS ω⟩ (fun (j,l,f) w2 H2=>?_)))));obtain ⟨H2,hI⟩:=H2;refine ac (ac ?_);have hjl:=hI.2.1;have hja:=hI.1;have hll:=hI.2.2.1;refine bH (S:=Ext No _) (oQ [1,3,5,7,9,11,13,15,17,19,21,23,25,27,28,31,32]) κ κ κ Z (fun _=>Ext.refl.drawn _) (fun q1=>?_);have H3:=H2.drawn q1;refine dR 4 Z (cY (t:=21) Z (fun hg1=>?_) (fun hg1=>?_))
  ·try simp only [decide_eq_true_eq] at hg1
   refine aL Z (wg Z Z Z) Z Z (fun zw hx=>aG Z) (aL Z (wg Z Z Z) Z Z (fun zw hx=>aG Z) (aL Z (wg Z Z Z) Z Z (fun zw hx=>aG Z) ?_));obtain ⟨eb1,eo1,ee1,ec1,eK1⟩:=H3.viewAt 0 Z j ω;refine aL Z (wg Z Z Z) Z Z (fun zw hx=>ay ba aN Z Z ee1 j ω ω) (aL Z (wg Z Z Z) Z Z (fun zw hx=>au aD Z aN Z Z (hx.at ec1)) (aL Z (wg Z Z Z) Z Z (fun zw hx=>aG Z) (aL Z (wg Z Z Z) Z Z (fun zw hx=>aG Z) (aL Z (wg Z Z Z) Z Z (fun zw hx=>bM Z Z iO) ?_))));obtain ⟨eb2,eo2,ee2,ec2,eK2⟩:=H3.viewAt 0 Z (j-1) ω;refine aL Z (wg Z Z Z) Z Z (fun zw hx=>ay ba aN Z Z ee2 (j-1) ω ω) (aL Z (wg Z Z Z) Z Z (fun zw hx=>au aD Z aN Z Z (hx.at ec2)) (cF Z (wg Z Z Z) Z Z (gT (lb:=gL) Z gH gB gN Z) (gC _ H3.ext (l.getD j default).r (l.getD (j-1) default).r (l.getD j default).A6 (l.getD j default).C6 (l.getD j default).A7 (l.getD j default).C7 (l.getD j default).A8 (l.getD j default).C8 (l.getD (j-1) default).A6 (l.getD (j-1) default).C6 (l.getD (j-1) default).A7 (l.getD (j-1) default).C7 (l.getD (j-1) default).A8 (l.getD (j-1) default).C8) (fun hS _ _ r _=>hS.trans r.1.no) (fun v1 w3 r1=>?_)));obtain ⟨e1,rfl⟩:=r1;have H4:=H3.to e1;refine aL Z (wg Z Z Z) Z Z (fun zw hx=>aM Z Z) (aT Z aj Z Z (aO Z Z) (aU (aB Z (fun c2=>?_) (fun c2=>?_))))
   ·refine ak (ac (an ?_));have hll:=hI.2.2.1;obtain ⟨eb3,eo3,ee3,ec3,eK3⟩:=H4.viewAt 0 Z j ω;refine bH (S:=fun _=>True) (oQ [1,3,5,7,9,11,13,15,17,21,23,25,2012,18,26,29,30,33,34,26,18,29,30,33,34]) κ κ κ Z (fun _=>trivial) (fun q2=>?_);have H5:=H4.drawn q2;refine dR 4 Z (dV Z Z (fun zw hx=>bM Z Z iO) (dR 2 Z (dV Z Z (fun zw hx=>bM Z Z iO) ?_)));obtain ⟨eb4,eo4,ee4,ec4,eK4⟩:=H5.viewAt 0 Z (j-1) ω;refine dV Z Z (fun zw hx=>ay ba aN Z Z ee4 (j-1) ω ω) (dR 2 Z (dV Z Z (fun zw hx=>ay ba aN Z Z ee3 j ω ω) (dF Z ?_ ?_)))
    ·refine aT Z aj Z Z (au aD Z aN Z Z ec4) (aT Z aj Z Z (au aD Z aN Z Z ec3) (dV Z Z (fun zw hx=>ay ba aN Z Z Z (j) ω ω) (fj (u:=(l.getD (j-1) default)) Z aj aN H5 0 Z (j) ω Z Z Z eK4 (fun _ _ _ _=>trivial) (fun w4 fp1 H6=>?_))))
     try dsimp only[lNA,lCA,lSZ,lSS] at H6
     refine dV Z Z (fun zw hx=>ay ba aN Z Z Z (j-1) ω ω) (fj (u:=(l.getD j default)) Z aj aN H6 0 Z (j-1) (by rw [List.length_set]; omega) Z Z Z eK3 (fun _ _ _ _=>trivial) (fun w5 fp2 H7=>?_))
     try dsimp only[lNA,lCA,lSZ,lSS] at H7
     refine aU (am (sM Z Z (sV Z (bM Z Z iO) (sA Z Z (aa (⟨(j-1,_,_),⟨Z,Z,Z,Z,Z,eqI ω,trivial⟩,⟨H7,vU hI ω hil ω⟩,θ⟩))))))
    ·refine aT Z aj Z Z (au aD Z aN Z Z ec3) (aT Z aj Z Z (au aD Z aN Z Z ec4) (dV Z Z (fun zw hx=>ay ba aN Z Z Z (j) ω ω) (fj (u:=(l.getD (j-1) default)) Z aj aN H5 0 Z (j) ω Z Z Z eK4 (fun _ _ _ _=>trivial) (fun w6 fp3 H8=>?_))))
     try dsimp only[lNA,lCA,lSZ,lSS] at H8
     refine dV Z Z (fun zw hx=>ay ba aN Z Z Z (j-1) ω ω) (fj (u:=(l.getD j default)) Z aj aN H8 0 Z (j-1) (by rw [List.length_set]; omega) Z Z Z eK3 (fun _ _ _ _=>trivial) (fun w7 fp4 H9=>?_))
     try dsimp only[lNA,lCA,lSZ,lSS] at H9
     refine aU (am (sM Z Z (sV Z (bM Z Z iO) (sA Z Z (aa (⟨(j-1,_,_),⟨Z,Z,Z,Z,Z,eqI ω,trivial⟩,⟨H9,vU hI ω hil ω⟩,θ⟩))))))
   ·refine aI (am (sM Z Z (sV Z (aC Z Z iO) (sA Z Z (aa ?_)))));have hs:=zR hI hil (.inr c2);refine ⟨(i+1,l,_),⟨Z,Z,Z,Z,Z,trivial⟩,⟨H4,ω,yS hs hai ω⟩,θ⟩
  ·try simp only [decide_eq_false_iff_not] at hg1
   refine dR 12 Z (aT Z aj Z Z (aW Z Z) (aU (jA Z (aI (am (sM Z Z (sV Z (aC Z Z iO) (sA Z Z (aa ?_)))))))));have hs:=zR hI hil (.inl (by have:=hI.1; omega));refine ⟨(i+1,l,_),⟨Z,Z,Z,Z,Z,trivial⟩,⟨H3,ω,yS hs hai ω⟩,θ⟩
 ·refine aI (hN _ _ (jX results408 ?_));exact ⟨_,H1.done,Ig hO ω⟩
def wW (gf:FuncId) (gL:List Value) (N:Nat):Prop:=∀ (w:World) (ws:List RecV) (A:Option Addr) (n C:Nat) (fp:List Nat) (a m b:Nat) (xa xm xb:Int),own true w [.slice A n C] ws fp→fp.Nodup→xa=(a:Nat)→xm=(m:Nat)→xb=(b:Nat)→(∀ w1,Ext (· ∈ fp) w w1→∀ (x y:Rec) (A6:Option Addr) (C6:Nat) (A7:Option Addr) (C7:Nat) (A8:Option Addr) (C8:Nat) (B6:Option Addr) (D6:Nat) (B7:Option Addr) (D7:Nat) (B8:Option Addr) (D8:Nat),Ret Tryz.prog gf (([x.val A6 C6 A7 C7 A8 C8,y.val B6 D6 B7 D7 B8 D8]:List Value)++gL).toArray w1 fun v w'=>Ext No w1 w'∧v = .int .i64 (cfR x y))→a<m→m<b→b≤ws.length→ws.length≤1000000→Ord kLt dr (seg ws a m)→Ord kLt dr (seg ws m b)→b-a≤N→Ret Tryz.prog 409 #[.slice A n C,.int .i64 xa,.int .i64 xm,.int .i64 xb,.func (.func gf) #[] gL.toArray] w fun v w'=>∃ ws',Mut w w' fp [.slice A n C] ws'∧SortSeg ws ws' a b
theorem xx {w:World}{ws:List RecV}{A:Option Addr}{n C a m b:Nat}{fp:List Nat}{gf:FuncId}{gL:List Value}{gF:Func}{xa xm xb:Int}(o:own true w [.slice A n C] ws fp) (nd:fp.Nodup) (ha:xa=(a:Nat)) (hm:xm=(m:Nat)) (hb:xb=(b:Nat)) (gH:Tryz.prog.funcs[gf]? = some gF) (gB:gF.body.isNone=false) (gN:NG gF) (gC:∀ w1,Ext (· ∈ fp) w w1→∀ (x y:Rec) (A6:Option Addr) (C6:Nat) (A7:Option Addr) (C7:Nat) (A8:Option Addr) (C8:Nat) (B6:Option Addr) (D6:Nat) (B7:Option Addr) (D7:Nat) (B8:Option Addr) (D8:Nat),Ret Tryz.prog gf (([x.val A6 C6 A7 C7 A8 C8,y.val B6 D6 B7 D7 B8 D8]:List Value)++gL).toArray w1 fun v w'=>Ext No w1 w'∧v = .int .i64 (cfR x y)) (h1:a<m) (h2:m<b) (h3:b≤ws.length) (hL:ws.length≤1000000) (hA:Ord kLt dr (seg ws a m)) (hB:Ord kLt dr (seg ws m b)) {N:Nat}(hN:b-a≤N+1) (IH:wW gf gL N):Ret Tryz.prog 409 #[.slice A n C,.int .i64 xa,.int .i64 xm,.int .i64 xb,.func (.func gf) #[] gL.toArray] w fun v w'=>(∃ ws',Mut w w' fp [.slice A n C] ws'∧SortSeg ws ws' a b):=by
 subst ha;subst hm;subst hb;obtain rfl:=eM o;obtain ⟨hb0,ho0,had0⟩:=eH o 0 ω;subst had0;have wL:=oL o;refine aF func409 Z ntmps409 Z (fun Q hQ hN=>?_);have H0:=Sep.begin o nd;refine ac (ab (sR 2 Z (sV Z (bM Z Z iO) (sV Z (bP Z Z) (aa (aB Z (fun c1=>?_) (fun c1=>?_)))))))
 ·refine ab (sR 2 Z (aa (ab (sR 2 Z (aa (ac (an (bg (γ:=Nat × Nat × List Nat) (fun (i,j,f)=>[(0,.slice (some ⟨hb0,ho0,none⟩) ws.length C),(1,.int .i64 a),(2,.int .i64 m),(3,.int .i64 b),(4,.func (.func gf) #[] gL.toArray),(10,.int .i64 i),(11,.int .i64 j)]) (fun (i,j,f) w'=>Sep (· ∈ fp) w [mine [.slice (some ⟨hb0,ho0,none⟩) ws.length C] ws f] [] w'∧LoInv ws a m b i j) (fun (i,j,f)=>j-i) (m,b,_) ⟨Z,Z,Z,Z,Z,Z,Z,trivial⟩ ⟨H0,HG ω⟩ (fun (i,j,f) w1 H1=>?_)))))))));obtain ⟨H1,hI⟩:=H1;refine ac (ab (sR 3 Z (aa (aB Z (fun c2=>?_) (fun c2=>?_)))))
  ·refine ak (an (ac ?_));have e1:=hI.1;have e2:=hI.2.1;have e3:=hI.2.2.1;refine am (sR 2 Z (sV Z (aC Z Z iO) (sV Z (js tu3 so Z (z5 ω)) (sV Z (rY (m:=i+j) Z Z Z) (sV Z (js so tu3 Z iO) (sA Z Z (aa (ac ?_))))))));have e1:=hI.1;have e2:=hI.2.1;have e3:=hI.2.2.1;obtain ⟨eb1,eo1,ee1,ec1,eK1⟩:=H1.viewAt 0 Z ((i+j) / 2) ω;obtain ⟨eb2,eo2,ee2,ec2,eK2⟩:=H1.viewAt 0 Z a ω;refine bH (S:=Ext No _) (oQ [1,3,5,7,9,11,13,15,17,18,20]) κ κ κ Z (fun _=>Ext.refl.drawn _) (fun q1=>?_);have H2:=H1.drawn q1;refine dR 3 Z (dV Z Z (fun zw hx=>ay ba aN Z Z ee1 ((i+j) / 2) ω ω) (dV Z Z (fun zw hx=>au aD Z aN Z Z (hx.at ec1)) (dR 2 Z (dV Z Z (fun zw hx=>ay ba aN Z Z ee2 a ω ω) (dV Z Z (fun zw hx=>au aD Z aN Z Z (hx.at ec2)) (cF Z aj Z Z (gT (lb:=gL) Z gH gB gN Z) (gC _ H2.ext (ws.getD ((i+j) / 2) default).r (ws.getD a default).r (ws.getD ((i+j) / 2) default).A6 (ws.getD ((i+j) / 2) default).C6 (ws.getD ((i+j) / 2) default).A7 (ws.getD ((i+j) / 2) default).C7 (ws.getD ((i+j) / 2) default).A8 (ws.getD ((i+j) / 2) default).C8 (ws.getD a default).A6 (ws.getD a default).C6 (ws.getD a default).A7 (ws.getD a default).C7 (ws.getD a default).A8 (ws.getD a default).C8) (fun hS _ _ r _=>hS.trans r.1.no) (fun v1 w2 r1=>?_)))))));obtain ⟨e1,rfl⟩:=r1;have H3:=H2.to e1;refine aT Z aj Z Z (aM Z Z) (aU (aB Z (fun c3=>?_) (fun c3=>?_)))
   ·refine am (sM Z Z (sV Z (aC Z Z iO) (sA Z Z (aa (⟨(((i+j) / 2)+1,j,_),⟨Z,Z,Z,Z,Z,Z,Z,trivial⟩,⟨H3,Jz hI h3 hB ω ω c3⟩,θ⟩)))))
   ·refine am (sR 2 Z (aa (⟨(i,((i+j) / 2),_),⟨Z,Z,Z,Z,Z,Z,Z,trivial⟩,⟨H3,Kw hI h3 hB ω ω c3⟩,θ⟩)))
  ·refine aI (ac (ab (sR 2 Z (aa (an ?_)))));have hLo:=hI;have e1:=hI.1;have e2:=hI.2.1;have e3:=hI.2.2.1;refine bg (γ:=Nat × List RecV × List Nat) (fun (k,l,f)=>[(0,.slice (some ⟨hb0,ho0,none⟩) ws.length C),(1,.int .i64 a),(10,.int .i64 i),(13,.int .i64 k)]) (fun (k,l,f) w'=>Sep (· ∈ fp) w [mine [.slice (some ⟨hb0,ho0,none⟩) ws.length C] l f] [] w'∧UpInv ws l a k∧k<i) (fun (k,l,f)=>i-k) (a,ws,_) ⟨Z,Z,Z,Z,trivial⟩ ⟨H1,Hs ω,ω⟩ (fun (k,l,f) w3 H4=>?_);obtain ⟨H4,hU,hki⟩:=H4;refine ac (ac ?_)
   skip
   refine am (sR 2 Z (sV Z (bM Z Z iO) (sV Z (aM Z Z) (aa (aB Z (fun c4=>?_) (fun c4=>?_))))))
   ·refine ak (ac (an ?_));have hul:=hU.2.2.1;obtain ⟨eb3,eo3,ee3,ec3,eK3⟩:=H4.viewAt 0 Z k ω;obtain ⟨eb4,eo4,ee4,ec4,eK4⟩:=H4.viewAt 0 Z (k+1) ω;refine bH (S:=fun _=>True) (oQ [1,3,5,7,9,11,13,15,17,21,23,25,2012,18,26,29,30,33,34,26,18,29,30,33,34]) κ κ κ Z (fun _=>trivial) (fun q2=>?_);have H5:=H4.drawn q2;refine dR 4 Z (dV Z Z (fun zw hx=>aC Z Z iO) (dR 2 Z (dV Z Z (fun zw hx=>aC Z Z iO) (dV Z Z (fun zw hx=>ay ba aN Z Z ee4 (k+1) ω ω) (dR 2 Z (dV Z Z (fun zw hx=>ay ba aN Z Z ee3 k ω ω) (dF Z ?_ ?_)))))))
    ·refine aT Z aj Z Z (au aD Z aN Z Z ec4) (aT Z aj Z Z (au aD Z aN Z Z ec3) (dV Z Z (fun zw hx=>ay ba aN Z Z Z (k) ω ω) (fj (u:=(l.getD (k+1) default)) Z aj aN H5 0 Z (k) ω Z Z Z eK4 (fun _ _ _ _=>trivial) (fun w4 fp1 H6=>?_))))
     try dsimp only[lNA,lCA,lSZ,lSS] at H6
     refine dV Z Z (fun zw hx=>ay ba aN Z Z Z (k+1) ω ω) (fj (u:=(l.getD k default)) Z aj aN H6 0 Z (k+1) (by rw [List.length_set]; omega) Z Z Z eK3 (fun _ _ _ _=>trivial) (fun w5 fp2 H7=>?_))
     try dsimp only[lNA,lCA,lSZ,lSS] at H7
     refine aU (am (sM Z Z (sV Z (aC Z Z iO) (sA Z Z (aa (⟨(k+1,_,_),⟨Z,Z,Z,Z,trivial⟩,⟨H7,E5 hU ω,ω⟩,θ⟩))))))
    ·refine aT Z aj Z Z (au aD Z aN Z Z ec3) (aT Z aj Z Z (au aD Z aN Z Z ec4) (dV Z Z (fun zw hx=>ay ba aN Z Z Z (k) ω ω) (fj (u:=(l.getD (k+1) default)) Z aj aN H5 0 Z (k) ω Z Z Z eK4 (fun _ _ _ _=>trivial) (fun w6 fp3 H8=>?_))))
     try dsimp only[lNA,lCA,lSZ,lSS] at H8
     refine dV Z Z (fun zw hx=>ay ba aN Z Z Z (k+1) ω ω) (fj (u:=(l.getD k default)) Z aj aN H8 0 Z (k+1) (by rw [List.length_set]; omega) Z Z Z eK3 (fun _ _ _ _=>trivial) (fun w7 fp4 H9=>?_))
     try dsimp only[lNA,lCA,lSZ,lSS] at H9
     refine aU (am (sM Z Z (sV Z (aC Z Z iO) (sA Z Z (aa (⟨(k+1,_,_),⟨Z,Z,Z,Z,trivial⟩,⟨H9,E5 hU ω,ω⟩,θ⟩))))))
   ·refine aI (bR (hQ _ _ (jX results409 ?_)));obtain rfl:i=k+1:=by omega
    obtain rfl:j=k+1:=by omega
    obtain rfl:m=a+1:=by omega
    exact ⟨_,H4.done,JH hU hLo h3 hB⟩
 ·refine ak (ac (ab (sR 2 Z (sV Z (bM Z Z iO) (sV Z (bP Z Z) (aa (aB Z (fun c5=>?_) (fun c5=>?_))))))))
  ·refine ab (sR 2 Z (aa (ab (sR 2 Z (aa (ac (an (bg (γ:=Nat × Nat × List Nat) (fun (i,j,f)=>[(0,.slice (some ⟨hb0,ho0,none⟩) ws.length C),(1,.int .i64 a),(2,.int .i64 m),(3,.int .i64 b),(4,.func (.func gf) #[] gL.toArray),(14,.int .i64 i),(15,.int .i64 j)]) (fun (i,j,f) w'=>Sep (· ∈ fp) w [mine [.slice (some ⟨hb0,ho0,none⟩) ws.length C] ws f] [] w'∧HiInv ws a m i j) (fun (i,j,f)=>j-i) (a,m,_) ⟨Z,Z,Z,Z,Z,Z,Z,trivial⟩ ⟨H0,GV ω⟩ (fun (i,j,f) w8 H10=>?_)))))))));obtain ⟨H10,hI⟩:=H10;refine ac (ab (sR 3 Z (aa (aB Z (fun c6=>?_) (fun c6=>?_)))))
   ·refine ak (an (ac ?_));have e1:=hI.1;have e2:=hI.2.1;have e3:=hI.2.2.1;refine am (sR 2 Z (sV Z (aC Z Z iO) (sV Z (js tu3 so Z (z5 ω)) (sV Z (rY (m:=i+j) Z Z Z) (sV Z (js so tu3 Z iO) (sA Z Z (aa (ac ?_))))))));have e1:=hI.1;have e2:=hI.2.1;have e3:=hI.2.2.1;obtain ⟨eb5,eo5,ee5,ec5,eK5⟩:=H10.viewAt 0 Z m ω;obtain ⟨eb6,eo6,ee6,ec6,eK6⟩:=H10.viewAt 0 Z ((i+j) / 2) ω;refine bH (S:=Ext No _) (oQ [1,3,5,7,9,11,13,15,17,18,21,22]) κ κ κ Z (fun _=>Ext.refl.drawn _) (fun q3=>?_);have H11:=H10.drawn q3;refine dR 3 Z (dV Z Z (fun zw hx=>ay ba aN Z Z ee5 m ω ω) (dV Z Z (fun zw hx=>au aD Z aN Z Z (hx.at ec5)) (dR 2 Z (dV Z Z (fun zw hx=>ay ba aN Z Z ee6 ((i+j) / 2) ω ω) (dV Z Z (fun zw hx=>au aD Z aN Z Z (hx.at ec6)) (cF Z aj Z Z (gT (lb:=gL) Z gH gB gN Z) (gC _ H11.ext (ws.getD m default).r (ws.getD ((i+j) / 2) default).r (ws.getD m default).A6 (ws.getD m default).C6 (ws.getD m default).A7 (ws.getD m default).C7 (ws.getD m default).A8 (ws.getD m default).C8 (ws.getD ((i+j) / 2) default).A6 (ws.getD ((i+j) / 2) default).C6 (ws.getD ((i+j) / 2) default).A7 (ws.getD ((i+j) / 2) default).C7 (ws.getD ((i+j) / 2) default).A8 (ws.getD ((i+j) / 2) default).C8) (fun hS _ _ r _=>hS.trans r.1.no) (fun v2 w9 r2=>?_)))))));obtain ⟨e2,rfl⟩:=r2;have H12:=H11.to e2;refine dV Z Z (fun zw hx=>aM Z Z) (aT Z aj Z Z (u0 Z) (aU (aB Z (fun c7=>?_) (fun c7=>?_))))
    ·refine am (sM Z Z (sV Z (aC Z Z iO) (sA Z Z (aa (⟨(((i+j) / 2)+1,j,_),⟨Z,Z,Z,Z,Z,Z,Z,trivial⟩,⟨H12,JU hI ω hA ω ω c7⟩,θ⟩)))))
    ·refine am (sR 2 Z (aa (⟨(i,((i+j) / 2),_),⟨Z,Z,Z,Z,Z,Z,Z,trivial⟩,⟨H12,Kp hI ω hA ω ω ω⟩,θ⟩)))
   ·refine aI (ac (ab (sR 2 Z (aa (an ?_)))));have e1:=hI.1;have e2:=hI.2.1;have e3:=hI.2.2.1;obtain rfl:i=j:=by omega
    have hHi:=hI;refine bg (γ:=Nat × List RecV × List Nat) (fun (k,l,f)=>[(0,.slice (some ⟨hb0,ho0,none⟩) ws.length C),(2,.int .i64 m),(14,.int .i64 i),(17,.int .i64 k)]) (fun (k,l,f) w'=>Sep (· ∈ fp) w [mine [.slice (some ⟨hb0,ho0,none⟩) ws.length C] l f] [] w'∧DnInv ws l a m i k) (fun (k,l,f)=>k) (m,ws,_) ⟨Z,Z,Z,Z,trivial⟩ ⟨H10,GD hHi hA⟩ (fun (k,l,f) w10 H13=>?_);obtain ⟨H13,hD⟩:=H13;refine ac (ab (sR 3 Z (aa (aB Z (fun c8=>?_) (fun c8=>?_)))))
    ·refine ak (ac (an ?_));have hdl:=hD.2.1.2.2.1;have hdk:=hD.2.1.2.1;obtain ⟨eb7,eo7,ee7,ec7,eK7⟩:=H13.viewAt 0 Z k ω;refine bH (S:=fun _=>True) (oQ [1,3,5,7,9,11,13,15,17,21,23,25,2012,18,26,29,30,33,34,26,18,29,30,33,34]) κ κ κ Z (fun _=>trivial) (fun q4=>?_);have H14:=H13.drawn q4;refine dR 4 Z (dV Z Z (fun zw hx=>bM Z Z iO) (dR 2 Z (dV Z Z (fun zw hx=>bM Z Z iO) ?_)));obtain ⟨eb8,eo8,ee8,ec8,eK8⟩:=H14.viewAt 0 Z (k-1) ω;refine dV Z Z (fun zw hx=>ay ba aN Z Z ee8 (k-1) ω ω) (dR 2 Z (dV Z Z (fun zw hx=>ay ba aN Z Z ee7 k ω ω) (dF Z ?_ ?_)))
     ·refine aT Z aj Z Z (au aD Z aN Z Z ec8) (aT Z aj Z Z (au aD Z aN Z Z ec7) (dV Z Z (fun zw hx=>ay ba aN Z Z Z (k) ω ω) (fj (u:=(l.getD (k-1) default)) Z aj aN H14 0 Z (k) ω Z Z Z eK8 (fun _ _ _ _=>trivial) (fun w11 fp5 H15=>?_))))
      try dsimp only[lNA,lCA,lSZ,lSS] at H15
      refine dV Z Z (fun zw hx=>ay ba aN Z Z Z (k-1) ω ω) (fj (u:=(l.getD k default)) Z aj aN H15 0 Z (k-1) (by rw [List.length_set]; omega) Z Z Z eK7 (fun _ _ _ _=>trivial) (fun w12 fp6 H16=>?_))
      try dsimp only[lNA,lCA,lSZ,lSS] at H16
      refine aU (am (sM Z Z (sV Z (bM Z Z iO) (sA Z Z (aa (⟨(k-1,_,_),⟨Z,Z,Z,eqI ω,trivial⟩,⟨H16,Fj hD hHi ω ω⟩,θ⟩))))))
     ·refine aT Z aj Z Z (au aD Z aN Z Z ec7) (aT Z aj Z Z (au aD Z aN Z Z ec8) (dV Z Z (fun zw hx=>ay ba aN Z Z Z (k) ω ω) (fj (u:=(l.getD (k-1) default)) Z aj aN H14 0 Z (k) ω Z Z Z eK8 (fun _ _ _ _=>trivial) (fun w13 fp7 H17=>?_))))
      try dsimp only[lNA,lCA,lSZ,lSS] at H17
      refine dV Z Z (fun zw hx=>ay ba aN Z Z Z (k-1) ω ω) (fj (u:=(l.getD k default)) Z aj aN H17 0 Z (k-1) (by rw [List.length_set]; omega) Z Z Z eK7 (fun _ _ _ _=>trivial) (fun w14 fp8 H18=>?_))
      try dsimp only[lNA,lCA,lSZ,lSS] at H18
      refine aU (am (sM Z Z (sV Z (bM Z Z iO) (sA Z Z (aa (⟨(k-1,_,_),⟨Z,Z,Z,eqI ω,trivial⟩,⟨H18,Fj hD hHi ω ω⟩,θ⟩))))))
    ·refine aI (bR (hQ _ _ (jX results409 ?_)));have e9:=hD.1;obtain rfl:k=i:=by omega
     obtain rfl:b=m+1:=by omega
     exact ⟨_,H13.done,JC hD hHi ω⟩
  ·refine ak (ab (sR 2 Z (sV Z (aC Z Z iO) (sV Z (js tu3 so Z (z5 ω)) (sV Z (rY (m:=a+b) Z Z Z) (sV Z (js so tu3 Z iO) (sA Z Z (aa (ab (sR 2 Z (sV Z (aC Z Z iO) (sA Z Z (aa (ab (sR 2 Z (aa (GK (γ:=Nat × Nat) H0 [(1,_),(2,_),(3,_),(4,_),(18,_),(19,_)] ⟨Z,Z,Z,Z,Z,Z,trivial⟩ (fun (s,r)=>[(0,.slice (some ⟨hb0,ho0,none⟩) ws.length C),(20,.int .i64 s),(21,.int .i64 r)]) (fun (s,r)=>MidOK ws a m b (((a+b) / 2)+m-1) s r∧(s=a∨(((a+b) / 2)+m-1)+1=b+s)∧(r=m∨(((a+b) / 2)+m-1)+1=m+r)) ?_ (fun (s,r) w15 H19 ⟨hMK,hG1,hG2⟩=>?_))))))))))))))))))
   ·refine ab (sR 3 Z (aa (aB Z (fun c9=>?_) (fun c9=>?_))))
    ·refine ab (sR 2 Z (sV Z (bM Z Z iO) (sA Z Z (aa (am (sR 2 Z (aa ?_)))))));exact ⟨(((a+b) / 2)+m-b,((a+b) / 2)),⟨Z,eqI ω,Z,Z,Z,Z,Z,Z,Z,trivial⟩,H0,⟨ω,ω,ω,ω,h3,hA,hB,ω⟩,ω,ω⟩
    ·refine ab (sR 2 Z (aa (am (sR 2 Z (aa ?_)))));exact ⟨(a,m),⟨Z,Z,Z,Z,Z,Z,Z,Z,Z,trivial⟩,H0,⟨ω,ω,ω,ω,h3,hA,hB,ω⟩,ω,ω⟩
   ·dsimp only[lCA,lNA];refine ab (sM Z Z (sV Z (bM Z Z iO) (sA Z Z (aa (ac (an (bg (γ:=Nat × Nat × List Nat) (fun (s2,r2,f)=>[(0,.slice (some ⟨hb0,ho0,none⟩) ws.length C),(1,.int .i64 a),(2,.int .i64 m),(3,.int .i64 b),(4,.func (.func gf) #[] gL.toArray),(18,.int .i64 (((a+b) / 2):Nat)),(19,.int .i64 (((a+b) / 2)+m:Nat)),(20,.int .i64 s2),(21,.int .i64 r2),(22,.int .i64 ((((a+b) / 2)+m-1):Nat))]) (fun (s2,r2,f) w'=>Sep (· ∈ fp) w [mine [.slice (some ⟨hb0,ho0,none⟩) ws.length C] ws f] [] w'∧MidInv ws (((a+b) / 2)+m-1) s r s2 r2) (fun (s2,r2,f)=>r2-s2) (s,r,_) ⟨Z,Z,Z,Z,Z,Z,Z,Z,Z,eqI ω,trivial⟩ ⟨H19,Ga (by rcases hMK with ⟨_,_,_,_,_⟩; omega)⟩ (fun (s2,r2,f) w16 H20=>?_))))))));obtain ⟨H20,hI⟩:=H20;refine ac (ab (sR 3 Z (aa (aB Z (fun c10=>?_) (fun c10=>?_)))))
    ·refine ak (an (ac ?_));have e1:=hI.1;have e2:=hI.2.1;have e3:=hI.2.2.1;obtain ⟨m1,m2,m3,m4,_,_,_,_⟩:=id hMK;refine am (sR 2 Z (sV Z (aC Z Z iO) (sV Z (js tu3 so Z (z5 ω)) (sV Z (rY (m:=s2+r2) Z Z Z) (sV Z (js so tu3 Z iO) (sA Z Z (aa (ac ?_))))))));have e1:=hI.1;have e2:=hI.2.1;have e3:=hI.2.2.1;obtain ⟨m1,m2,m3,m4,_,_,_,_⟩:=id hMK;obtain ⟨eb9,eo9,ee9,ec9,eK9⟩:=H20.viewAt 0 Z ((((a+b) / 2)+m-1)-((s2+r2) / 2)) ω;obtain ⟨eb10,eo10,ee10,ec10,eK10⟩:=H20.viewAt 0 Z ((s2+r2) / 2) ω;refine bH (S:=Ext No _) (oQ [1,3,5,7,9,11,13,15,17,19,21,22,25,26]) κ κ κ Z (fun _=>Ext.refl.drawn _) (fun q5=>?_);have H21:=H20.drawn q5;refine dR 4 Z (dV Z Z (fun zw hx=>bM Z Z iO) (dV Z Z (fun zw hx=>ay ba aN Z Z ee9 ((((a+b) / 2)+m-1)-((s2+r2) / 2)) ω ω) (dV Z Z (fun zw hx=>au aD Z aN Z Z (hx.at ec9)) (dR 2 Z (dV Z Z (fun zw hx=>ay ba aN Z Z ee10 ((s2+r2) / 2) ω ω) (dV Z Z (fun zw hx=>au aD Z aN Z Z (hx.at ec10)) (cF Z aj Z Z (gT (lb:=gL) Z gH gB gN Z) (gC _ H21.ext (ws.getD ((((a+b) / 2)+m-1)-((s2+r2) / 2)) default).r (ws.getD ((s2+r2) / 2) default).r (ws.getD ((((a+b) / 2)+m-1)-((s2+r2) / 2)) default).A6 (ws.getD ((((a+b) / 2)+m-1)-((s2+r2) / 2)) default).C6 (ws.getD ((((a+b) / 2)+m-1)-((s2+r2) / 2)) default).A7 (ws.getD ((((a+b) / 2)+m-1)-((s2+r2) / 2)) default).C7 (ws.getD ((((a+b) / 2)+m-1)-((s2+r2) / 2)) default).A8 (ws.getD ((((a+b) / 2)+m-1)-((s2+r2) / 2)) default).C8 (ws.getD ((s2+r2) / 2) default).A6 (ws.getD ((s2+r2) / 2) default).C6 (ws.getD ((s2+r2) / 2) default).A7 (ws.getD ((s2+r2) / 2) default).C7 (ws.getD ((s2+r2) / 2) default).A8 (ws.getD ((s2+r2) / 2) default).C8) (fun hS _ _ r _=>hS.trans r.1.no) (fun v3 w17 r3=>?_))))))));obtain ⟨e3,rfl⟩:=r3;have H22:=H21.to e3;refine dV Z Z (fun zw hx=>aM Z Z) (aT Z aj Z Z (u0 Z) (aU (aB Z (fun c11=>?_) (fun c11=>?_))))
     ·refine am (sM Z Z (sV Z (aC Z Z iO) (sA Z Z (aa (⟨(((s2+r2) / 2)+1,r2,_),⟨Z,Z,Z,Z,Z,Z,Z,Z,Z,Z,trivial⟩,⟨H22,Iz hI hMK ω ω c11⟩,θ⟩)))))
     ·refine am (sR 2 Z (aa (⟨(s2,((s2+r2) / 2),_),⟨Z,Z,Z,Z,Z,Z,Z,Z,Z,Z,trivial⟩,⟨H22,Kc hI hMK ω ω ω⟩,θ⟩)))
    ·refine aI (ac ?_);have e1:=hI.1;have e2:=hI.2.1;have e3:=hI.2.2.1;obtain ⟨m1,m2,m3,m4,_,_,_,_⟩:=id hMK;obtain rfl:s2=r2:=by omega
     refine am (sR 2 Z (sV Z (bM Z Z iO) (sA Z Z (aa (GC (γ:=List Nat) (fun f=>[(0,.slice (some ⟨hb0,ho0,none⟩) ws.length C),(1,.int .i64 a),(2,.int .i64 m),(3,.int .i64 b),(4,.func (.func gf) #[] gL.toArray),(18,.int .i64 (((a+b) / 2):Nat)),(20,.int .i64 s2),(24,.int .i64 ((((a+b) / 2)+m-s2):Nat))]) (fun f w'=>Sep (· ∈ fp) w [mine [.slice (some ⟨hb0,ho0,none⟩) ws.length C] (gJ ws s2 m (((a+b) / 2)+m-s2)) f] [] w') ?_ (fun f w18 H23=>?_))))))
     ·refine ab (sR 4 Z (dO (t:=181) Z (fun hg1=>?_) (fun hg1=>?_)))
      ·try simp only [decide_eq_true_eq,decide_eq_false_iff_not] at hg1
       refine ax (wg Z Z Z) Z Z (aG Z) (ax (wg Z Z Z) Z Z (aG Z) (ax (wg Z Z Z) Z Z (aM Z Z) (sV Z (aO Z Z) (aa (aB Z (fun c12=>?_) (fun c12=>?_))))))
       ·refine am (sR 5 Z (sC func444 Eg Z (ic (a:=s2) (m:=m) (b:=(((a+b) / 2)+m-s2)) (H20.mine 0 Z) (H20.nodup1 (i:=0) Z) ω ω ω ω ω ω) (fun v4 w19 r4=>?_)));obtain ⟨y1,mm1,rfl⟩:=r4;obtain ⟨fp9,H24⟩:=H20.mut 0 Z mm1
        try dsimp only[lNA,lCA,lSZ,lSS] at H24
        refine aa ?_;exact ⟨_,⟨Z,Z,Z,Z,Z,Z,Z,eqI ω,trivial⟩,H24⟩
       ·refine ak ?_;exact ⟨f,⟨Z,Z,Z,Z,Z,Z,Z,eqI ω,trivial⟩,by rw [Ac ω ω ω ω]; exact H20⟩
      ·try simp only [decide_eq_true_eq,decide_eq_false_iff_not] at hg1
       refine sR 3 Z (sV Z (aW Z Z) (aa (jA Z (ak ?_))));exact ⟨f,⟨Z,Z,Z,Z,Z,Z,Z,eqI ω,trivial⟩,by rw [Ac ω ω ω ω]; exact H20⟩
     ·skip
      refine GC (γ:=List RecV × List Nat) (fun (l2,f)=>[(0,.slice (some ⟨hb0,ho0,none⟩) ws.length C),(1,.int .i64 a),(2,.int .i64 m),(3,.int .i64 b),(4,.func (.func gf) #[] gL.toArray),(18,.int .i64 (((a+b) / 2):Nat)),(20,.int .i64 s2),(24,.int .i64 ((((a+b) / 2)+m-s2):Nat))]) (fun (l2,f) w'=>Sep (· ∈ fp) w [mine [.slice (some ⟨hb0,ho0,none⟩) ws.length C] l2 f] [] w'∧SortSeg (gJ ws s2 m (((a+b) / 2)+m-s2)) l2 a ((a+b) / 2)) ?_ (fun (l2,f) w20 H25=>?_)
      ·refine ac ?_;have hln:=km (l:=ws) (x:=s2) (y:=m) (z:=(((a+b) / 2)+m-s2)) ω ω ω;have hSy:SymL ws (gJ ws s2 m (((a+b) / 2)+m-s2)) a s2 ((a+b) / 2) (((a+b) / 2)+m-s2) b:=z8 hI hMK hG1 hG2 ω ω;obtain ⟨_,_,_,_,o1,o2,o3,o4⟩:=id hSy;refine am (sR 4 Z (dO (t:=195) Z (fun hg2=>?_) (fun hg2=>?_)))
       ·try simp only [decide_eq_true_eq,decide_eq_false_iff_not] at hg2
        refine ax (wg Z Z Z) Z Z (aG Z) (ax (wg Z Z Z) Z Z (aG Z) (ax (wg Z Z Z) Z Z (aM Z Z) (sV Z (aO Z Z) (aa (aB Z (fun c13=>?_) (fun c13=>?_))))))
        ·refine am (sR 5 Z (sC func409 mP Z (IH _ _ _ _ _ _ a s2 ((a+b) / 2) _ _ _ (H23.mine 0 Z) (H23.nodup1 (i:=0) Z) ω ω ω (fun w1 e1=>gC w1 (H23.ext.step e1 fun b hb=>H23.new b (H23.inB 0 Z hb))) ω ω ω ω o1 o2 ω) (fun v5 w21 r5=>?_)));obtain ⟨y2,mm2,hs2⟩:=r5;obtain ⟨fp10,H26⟩:=H23.mut 0 Z mm2
         try dsimp only[lNA,lCA,lSZ,lSS] at H26
         refine aa ?_;exact ⟨(y2,_),⟨Z,Z,Z,Z,Z,Z,Z,Z,trivial⟩,H26,hs2⟩
        ·refine ak ?_;obtain hq:s2=((a+b) / 2):=by omega
         have ho:Ord kLt dr (seg (gJ ws s2 m (((a+b) / 2)+m-s2)) a ((a+b) / 2)):=Eq.mp (congrArg (fun z=>Ord kLt dr (seg (gJ ws s2 m (((a+b) / 2)+m-s2)) a z)) hq) o1;exact ⟨((gJ ws s2 m (((a+b) / 2)+m-s2)),_),⟨Z,Z,Z,Z,Z,Z,Z,Z,trivial⟩,H23,mE ho⟩
       ·try simp only [decide_eq_true_eq,decide_eq_false_iff_not] at hg2
        refine sR 3 Z (sV Z (aW Z Z) (aa (jA Z (ak ?_))));obtain hq:s2=a:=by omega
        have ho:Ord kLt dr (seg (gJ ws s2 m (((a+b) / 2)+m-s2)) a ((a+b) / 2)):=Eq.mp (congrArg (fun z=>Ord kLt dr (seg (gJ ws s2 m (((a+b) / 2)+m-s2)) z ((a+b) / 2))) hq) o2;exact ⟨((gJ ws s2 m (((a+b) / 2)+m-s2)),_),⟨Z,Z,Z,Z,Z,Z,Z,Z,trivial⟩,H23,mE ho⟩
      ·obtain ⟨H25,hs1⟩:=H25;refine ac ?_;have hln:=km (l:=ws) (x:=s2) (y:=m) (z:=(((a+b) / 2)+m-s2)) ω ω ω;have hSy:SymL ws (gJ ws s2 m (((a+b) / 2)+m-s2)) a s2 ((a+b) / 2) (((a+b) / 2)+m-s2) b:=z8 hI hMK hG1 hG2 ω ω;obtain ⟨_,_,_,_,o1,o2,o3,o4⟩:=id hSy;have hl2:=hs1.1;have p2:Ord kLt dr (seg l2 (((a+b) / 2)+m-s2) b):=by rw [ve hs1 ω ω]; exact o4
       have p1:Ord kLt dr (seg l2 ((a+b) / 2) (((a+b) / 2)+m-s2)):=by rw [ve hs1 ω ω]; exact o3
       refine am (sR 4 Z (dO (t:=209) Z (fun hg3=>?_) (fun hg3=>?_)))
       ·try simp only [decide_eq_true_eq,decide_eq_false_iff_not] at hg3
        refine ax (wg Z Z Z) Z Z (aG Z) (ax (wg Z Z Z) Z Z (aG Z) (ax (wg Z Z Z) Z Z (aM Z Z) (sV Z (aO Z Z) (aa (aB Z (fun c14=>?_) (fun c14=>?_))))))
        ·refine am (sR 5 Z (sC func409 mP Z (IH _ _ _ _ _ _ ((a+b) / 2) (((a+b) / 2)+m-s2) b _ _ _ (H25.mine 0 Z) (H25.nodup1 (i:=0) Z) ω ω ω (fun w1 e1=>gC w1 (H25.ext.step e1 fun b hb=>H25.new b (H25.inB 0 Z hb))) ω ω ω ω p1 p2 ω) (fun v6 w22 r6=>?_)));obtain ⟨y3,mm3,hs3⟩:=r6;obtain ⟨fp11,H27⟩:=H25.mut 0 Z mm3
         try dsimp only[lNA,lCA,lSZ,lSS] at H27
         refine aa (hN _ _ (jX results409 ?_));exact ⟨_,H27.done,vf hSy hs1 hs3 ω ω h3⟩
        ·refine ak (hN _ _ (jX results409 ?_));have hq:(((a+b) / 2)+m-s2)=b:=by omega
         have ho:Ord kLt dr (seg l2 ((a+b) / 2) b):=Eq.mp (congrArg (fun z=>Ord kLt dr (seg l2 ((a+b) / 2) z)) hq) p1;exact ⟨_,H25.done,vf hSy hs1 (mE ho) ω ω h3⟩
       ·try simp only [decide_eq_true_eq,decide_eq_false_iff_not] at hg3
        refine sR 3 Z (sV Z (aW Z Z) (aa (jA Z (ak (hN _ _ (jX results409 ?_))))));have hq:(((a+b) / 2)+m-s2)=((a+b) / 2):=by omega
        have ho:Ord kLt dr (seg l2 ((a+b) / 2) b):=Eq.mp (congrArg (fun z=>Ord kLt dr (seg l2 z b)) hq) p2;exact ⟨_,H25.done,vf hSy hs1 (mE ho) ω ω h3⟩
end Go.Wk
namespace Go.Wk
section
variable {ws l:List RecV}{a b bs c e x y:Nat}
theorem yq {l l':List RecV}(h:SortSeg l l' a b) (hab:a≤b) (hb:b≤l.length):dg dr l l':=by
  obtain ⟨h1,h2,h3⟩:=h
  have e1:l=seg l 0 a++(seg l a b++seg l b l.length):=by
    rw [dm hab hb,dm (Nat.zero_le _) ω]; unfold seg; rw [List.take_length,List.drop_zero]
  have e2:l'=seg l 0 a++(seg l' a b++seg l b l.length):=by
    rw [iS ω ω (fun j _ q=>(h2 j (.inl q)).symm) (a:=0) (b:=a) (xs:=l) (ys:=l'),iS (Nat.le_refl _) ω (fun j q _=>(h2 j (.inr q)).symm) (a:=b) (b:=l.length) (xs:=l) (ys:=l')]
    rw [dm hab ω,dm (Nat.zero_le _) ω]; unfold seg; rw [← h1,List.take_length,List.drop_zero]
  intro k
  have:=(dg.app (dg.refl (key:=dr) (xs:=seg l 0 a)) (dg.app h3.2 (dg.refl (key:=dr) (xs:=seg l b l.length)))) k
  rw [e2]; conv=>rhs; rw [e1]
  exact this
theorem F6 {l l':List RecV}(h:SortSeg l l' a b) (hx:y≤a∨b≤x) (hy:y≤l.length):seg l' x y=seg l x y:=
  iS (by have:=h.1; omega) hy fun j q1 q2=>h.2.1 j ω
def OrdAt (l:List RecV) (bs c:Nat):Prop:=Ord kLt dr (seg l c (min (c+bs) l.length))
def Blocks (ws l:List RecV) (bs a:Nat):Prop:=l.length=ws.length∧dg dr ws l∧bs ∣ a∧a≤ws.length∧∀ c,bs ∣ c→c<a→OrdAt l bs c
def AllB (ws l:List RecV) (bs:Nat):Prop:=l.length=ws.length∧dg dr ws l∧∀ c,bs ∣ c→c<ws.length→OrdAt l bs c
theorem zz {bs c a:Nat}(h1:bs ∣ c) (h2:bs ∣ a) (h:c<a):c+bs≤a:=by
  obtain ⟨x,rfl⟩:=h1; obtain ⟨y,rfl⟩:=h2
  have:x<y:=Nat.lt_of_mul_lt_mul_left h
  calc bs*x+bs=bs*(x+1):=by rw [Nat.mul_add,Nat.mul_one]
    _≤bs*y:=Nat.mul_le_mul_left _ this
theorem HE:Blocks ws ws bs 0:=⟨rfl,.refl,Nat.dvd_zero _,Nat.zero_le _,fun c _ h=>by omega⟩
theorem zf {l l':List RecV}(hs:SortSeg l l' a b) (hc:c+bs≤a∨b≤c) (h:OrdAt l bs c):OrdAt l' bs c:=by
  unfold OrdAt at h ⊢
  rw [hs.1,F6 hs ω ω]; exact h
theorem Fg {l l':List RecV}(hI:Blocks ws l bs a) (h0:0<bs) (h:a+bs≤ws.length) (hs:SortSeg l l' a (a+bs)):Blocks ws l' bs (a+bs):=by
  obtain ⟨h1,h2,h3,h4,h5⟩:=hI
  have e:=hs.1
  refine ⟨ω,h2.trans (yq hs ω ω),Nat.dvd_add h3 (Nat.dvd_refl _),h,fun c q1 q2=>?_⟩
  by_cases hc:c<a
  · exact zf hs (.inl (zz q1 h3 hc)) (h5 c q1 hc)
  · have:c=a:=by
      by_cases hca:c=a
      · exact hca
      · have:=zz h3 q1 ω; omega
    subst this
    unfold OrdAt; rw [show min (c+bs) l'.length=c+bs by omega]; exact hs.2.2.1
theorem E8 {l l':List RecV}(hI:Blocks ws l bs a) (h:ws.length<a+bs) (hs:SortSeg l l' a ws.length):AllB ws l' bs:=by
  obtain ⟨h1,h2,h3,h4,h5⟩:=hI
  have e:=hs.1
  refine ⟨ω,h2.trans (yq hs ω ω),fun c q1 q2=>?_⟩
  by_cases hc:c<a
  · exact zf hs (.inl (zz q1 h3 hc)) (h5 c q1 hc)
  · have:c=a:=by
      by_cases hca:c=a
      · exact hca
      · have:=zz h3 q1 ω; omega
    subst this
    unfold OrdAt; rw [show min (c+bs) l'.length=ws.length by omega]; exact hs.2.2.1
def TwoB (ws l:List RecV) (bs a:Nat):Prop:=Blocks ws l (2*bs) a∧∀ c,bs ∣ c→a≤c→c<ws.length→OrdAt l bs c
theorem Gm (h:AllB ws l bs):TwoB ws l bs 0:=⟨⟨h.1,h.2.1,Nat.dvd_zero _,Nat.zero_le _,fun c _ q=>by omega⟩,fun c q _=>h.2.2 c q⟩
theorem wd {bs c:Nat}(h:2*bs ∣ c):bs ∣ c:=Nat.dvd_trans (Nat.dvd_mul_left _ _) h
theorem Jv (h:TwoB ws l bs a) (h1:a+bs≤ws.length) (h0:0<bs):Ord kLt dr (seg l a (a+bs)):=by
  have:=h.2 a (wd h.1.2.2.1) (Nat.le_refl _) ω
  unfold OrdAt at this
  rwa [show min (a+bs) l.length=a+bs by have:=h.1.1; omega] at this
theorem Jq (h:TwoB ws l bs a) (h1:a+bs<ws.length) (he:e=min (a+bs+bs) ws.length):Ord kLt dr (seg l (a+bs) e):=by
  have:=h.2 (a+bs) (Nat.dvd_add (wd h.1.2.2.1) (Nat.dvd_refl _)) ω h1
  unfold OrdAt at this
  rw [h.1.1] at this
  rw [he]; exact this
theorem Gu {l l':List RecV}(hI:TwoB ws l bs a) (h0:0<bs) (h:a+2*bs≤ws.length) (hs:SortSeg l l' a (a+2*bs)):TwoB ws l' bs (a+2*bs):=
  ⟨Fg hI.1 ω h hs,fun c q1 q2 q3=>zf hs (.inr q2) (hI.2 c q1 ω q3)⟩
theorem z7 {l l':List RecV}(hI:TwoB ws l bs a) (h:ws.length<a+2*bs) (hs:SortSeg l l' a ws.length):AllB ws l' (2*bs):=E8 hI.1 h hs
theorem Ha (hI:TwoB ws l bs a) (h0:0<bs) (h:ws.length≤a+bs):AllB ws l (2*bs):=by
  have e:=hI.1.1
  refine z7 hI ω ?_
  by_cases ha:a<ws.length
  · have:=hI.2 a (wd hI.1.2.2.1) (Nat.le_refl _) ha
    unfold OrdAt at this
    rw [show min (a+bs) l.length=ws.length by omega] at this
    exact mE this
  · exact yg ω
theorem IA (h:AllB ws l bs) (h1:ws.length≤bs) (h0:0<ws.length):SortSeg ws l 0 ws.length:=by
  have:=h.2.2 0 (Nat.dvd_zero _) h0
  unfold OrdAt at this
  rw [show min (0+bs) l.length=ws.length by have:=h.1; omega] at this
  refine ⟨h.1,fun q hq=>?_,this,?_⟩
  · have h':=h.1
    rw [List.getD_eq_getElem?_getD,List.getD_eq_getElem?_getD,List.getElem?_eq_none ω,List.getElem?_eq_none ω]
  · have e:∀ (x:List RecV),x.length=ws.length→seg x 0 ws.length=x:=fun x hx=>by unfold seg; rw [← hx,List.take_length,List.drop_zero]
    rw [e l h.1,e ws rfl]; exact h.2.1
theorem Hw (h:SortSeg ws l 0 ws.length):Stable kLt dr ws l:=by
  have e:∀ (x:List RecV),x.length=ws.length→seg x 0 ws.length=x:=fun x hx=>by unfold seg; rw [← hx,List.take_length,List.drop_zero]
  have:=h.2.2; rw [e l h.1,e ws rfl] at this; exact this
end
end Go.Wk
namespace Go.Wk
open Go.Proofs Rp Go.Proofs.Tryz
set_option maxRecDepth 10000
theorem nD {gf:FuncId}{gL:List Value}{gF:Func}(gH:Tryz.prog.funcs[gf]? = some gF) (gB:gF.body.isNone=false) (gN:NG gF):∀ N,wW gf gL N
 | 0=>fun _ _ _ _ _ _ a m b _ _ _ _ _ _ _ _ _ h1 h2 _ _ _ _ h=>absurd (Nat.lt_trans h1 h2) ω
 | N+1=>fun _ _ _ _ _ _ _ _ _ _ _ _ o nd ha hm hb gC h1 h2 h3 hL hA hB hN=>xx o nd ha hm hb gH gB gN gC h1 h2 h3 hL hA hB hN (nD gH gB gN N)
theorem gZ {w:World}{ws:List RecV}{A:Option Addr}{n C m:Nat}{fp:List Nat}{gf:FuncId}{gL:List Value}{gF:Func}{xm:Int}(o:own true w [.slice A n C] ws fp) (nd:fp.Nodup) (hm:xm=(m:Nat)) (gH:Tryz.prog.funcs[gf]? = some gF) (gB:gF.body.isNone=false) (gN:NG gF) (gC:∀ w1,Ext (· ∈ fp) w w1→∀ (x y:Rec) (A6:Option Addr) (C6:Nat) (A7:Option Addr) (C7:Nat) (A8:Option Addr) (C8:Nat) (B6:Option Addr) (D6:Nat) (B7:Option Addr) (D7:Nat) (B8:Option Addr) (D8:Nat),Ret Tryz.prog gf (([x.val A6 C6 A7 C7 A8 C8,y.val B6 D6 B7 D7 B8 D8]:List Value)++gL).toArray w1 fun v w'=>Ext No w1 w'∧v = .int .i64 (cfR x y)) (hm2:m=ws.length) (h0:0<ws.length) (hL:ws.length≤1000000):Ret Tryz.prog 355 #[.slice A n C,.int .i64 xm,.func (.func gf) #[] gL.toArray] w fun v w'=>(∃ ws',Mut w w' fp [.slice A n C] ws'∧SortSeg ws ws' 0 ws.length):=by
 subst hm;obtain rfl:=eM o;obtain ⟨hb0,ho0,had0⟩:=eH o 0 ω;subst had0;have wL:=oL o;refine aF func355 Z ntmps355 Z (fun Q hQ hN=>?_);have H0:=Sep.begin o nd;refine ac ?_;subst hm2;refine am (sA Z Z (aa (ab (sR 3 Z (aa (ac (an (bg (γ:=Nat × List RecV × List Nat) (fun (a,l,f)=>[(0,.slice (some ⟨hb0,ho0,none⟩) ws.length C),(1,.int .i64 ws.length),(2,.func (.func gf) #[] gL.toArray),(6,.int .i64 20),(7,.int .i64 a),(8,.int .i64 (a+20:Nat))]) (fun (a,l,f) w'=>Sep (· ∈ fp) w [mine [.slice (some ⟨hb0,ho0,none⟩) ws.length C] l f] [] w'∧Blocks ws l 20 a) (fun (a,l,f)=>ws.length-a) (0,ws,_) ⟨Z,Z,Z,Z,Z,Z,trivial⟩ ⟨H0,HE⟩ (fun (a,l,f) w1 H1=>?_)))))))));obtain ⟨H1,hB⟩:=H1;refine ac (ab (sR 3 Z (aa (aB Z (fun c1=>?_) (fun c1=>?_)))))
 ·refine ak (an (ac ?_));have hbl:=hB.1;have hba:=hB.2.2.2.1;refine am (sR 4 Z (sC func408 qb Z (dI (a:=a) (b:=(a+20)) (H1.mine 0 Z) (H1.nodup1 (i:=0) Z) ω ω gH gB gN (fun w1 e1=>gC w1 (H1.ext.step e1 fun b hb=>H1.new b (H1.inB 0 Z hb))) ω ω ω ω) (fun v1 w2 r1=>?_)));obtain ⟨y1,mm1,hs1⟩:=r1;obtain ⟨fp1,H2⟩:=H1.mut 0 Z mm1
  try dsimp only[lNA,lCA,lSZ,lSS] at H2
  refine aa (ab (sR 2 Z (aa (am (sR 2 Z (sV Z (aC Z Z iO) (sA Z Z (aa (⟨(a+20,_,_),⟨Z,Z,Z,Z,Z,eqI ω,trivial⟩,⟨H2,Fg hB ω ω hs1⟩,θ⟩)))))))))
 ·refine aI (ac ?_);have hbl:=hB.1;have hba:=hB.2.2.2.1;refine am (sR 4 Z (sC func408 qb Z (dI (a:=a) (b:=ws.length) (H1.mine 0 Z) (H1.nodup1 (i:=0) Z) ω ω gH gB gN (fun w1 e1=>gC w1 (H1.ext.step e1 fun b hb=>H1.new b (H1.inB 0 Z hb))) ω ω ω ω) (fun v2 w3 r2=>?_)));obtain ⟨y2,mm2,hs2⟩:=r2;obtain ⟨fp2,H3⟩:=H1.mut 0 Z mm2
  try dsimp only[lNA,lCA,lSZ,lSS] at H3
  refine aa (an (bg (γ:=Nat × List RecV × List Nat) (fun (bs,l,f)=>[(0,.slice (some ⟨hb0,ho0,none⟩) ws.length C),(1,.int .i64 ws.length),(2,.func (.func gf) #[] gL.toArray),(6,.int .i64 bs)]) (fun (bs,l,f) w'=>Sep (· ∈ fp) w [mine [.slice (some ⟨hb0,ho0,none⟩) ws.length C] l f] [] w'∧AllB ws l bs∧0<bs) (fun (bs,l,f)=>ws.length-bs) (20,_,_) ⟨Z,Z,Z,Z,trivial⟩ ⟨H3,E8 hB ω hs2,ω⟩ (fun (bs,l,f) w4 H4=>?_)));obtain ⟨H4,hA,h0b⟩:=H4;refine ac (ac ?_);have hal:=hA.1;refine am (sR 3 Z (aa (aB Z (fun c2=>?_) (fun c2=>?_))))
  ·refine ak (an (ab (sM Z Z (sV Z (kL Z Z iO) (sR 2 Z (aa (ac (an (bg (γ:=Nat × List RecV × List Nat) (fun (a,l,f)=>[(0,.slice (some ⟨hb0,ho0,none⟩) ws.length C),(1,.int .i64 ws.length),(2,.func (.func gf) #[] gL.toArray),(6,.int .i64 bs),(7,.int .i64 a),(8,.int .i64 (a+2*bs:Nat))]) (fun (a,l,f) w'=>Sep (· ∈ fp) w [mine [.slice (some ⟨hb0,ho0,none⟩) ws.length C] l f] [] w'∧TwoB ws l bs a∧0<bs∧bs<ws.length) (fun (a,l,f)=>ws.length-a) (0,_,_) ⟨Z,Z,Z,Z,Z,eqI ω,trivial⟩ ⟨H4,Gm hA,h0b,ω⟩ (fun (a,l,f) w5 H5=>?_))))))))));obtain ⟨H5,hT,h0b,hbn⟩:=H5;refine ac (ac ?_);have htl:=hT.1.1;have hta:=hT.1.2.2.2.1;refine am (sR 3 Z (aa (aB Z (fun c3=>?_) (fun c3=>?_))))
   ·refine ak (an (ac ?_));have htl:=hT.1.1;have hta:=hT.1.2.2.2.1;refine am (sR 4 Z (sV Z (aC Z Z iO) (sR 2 Z (sC func409 mP Z (nD gH gB gN _ _ _ _ _ _ _ a (a+bs) (a+2*bs) _ _ _ (H5.mine 0 Z) (H5.nodup1 (i:=0) Z) ω ω ω (fun w1 e1=>gC w1 (H5.ext.step e1 fun b hb=>H5.new b (H5.inB 0 Z hb))) ω ω ω ω (Jv hT ω h0b) (Jq hT ω ω) (Nat.le_refl _)) (fun v3 w6 r3=>?_)))));obtain ⟨y3,mm3,hs3⟩:=r3;obtain ⟨fp3,H6⟩:=H5.mut 0 Z mm3
    try dsimp only[lNA,lCA,lSZ,lSS] at H6
    refine aa (ab (sR 2 Z (aa (am (sR 2 Z (sV Z (kL Z Z iO) (sV Z (aC Z Z iO) (sA Z Z (aa (⟨(a+2*bs,_,_),⟨Z,Z,Z,Z,Z,eqI ω,trivial⟩,⟨H6,Gu hT h0b ω (show SortSeg l _ a (a+2*bs) from hs3),h0b,hbn⟩,θ⟩))))))))))
   ·refine aI (ac (ac ?_));have htl:=hT.1.1;have hta:=hT.1.2.2.2.1;refine am (sR 2 Z (sV Z (aC Z Z iO) (sA Z Z (aa (ab (sR 3 Z (aa (aB Z (fun c4=>?_) (fun c4=>?_)))))))))
    ·have htl:=hT.1.1;have hta:=hT.1.2.2.2.1;refine am (sR 5 Z (sC func409 mP Z (nD gH gB gN _ _ _ _ _ _ _ a (a+bs) ws.length _ _ _ (H5.mine 0 Z) (H5.nodup1 (i:=0) Z) ω ω ω (fun w1 e1=>gC w1 (H5.ext.step e1 fun b hb=>H5.new b (H5.inB 0 Z hb))) ω ω ω ω (Jv hT ω h0b) (Jq hT ω ω) (Nat.le_refl _)) (fun v4 w7 r4=>?_)));obtain ⟨y4,mm4,hs4⟩:=r4;obtain ⟨fp4,H7⟩:=H5.mut 0 Z mm4
     try dsimp only[lNA,lCA,lSZ,lSS] at H7
     refine aa (am (sM Z Z (sV Z (kL Z Z iO) (sA Z Z (aa (⟨(2*bs,_,_),⟨Z,Z,Z,eqI ω,trivial⟩,⟨H7,z7 hT ω hs4,ω⟩,θ⟩))))))
    ·refine ak (am (sM Z Z (sV Z (kL Z Z iO) (sA Z Z (aa (⟨(2*bs,_,_),⟨Z,Z,Z,eqI ω,trivial⟩,⟨H5,Ha hT h0b ω,ω⟩,θ⟩))))))
  ·refine aI (hN _ _ (jX results355 ?_));exact ⟨_,H4.done,IA hA ω h0⟩
end Go.Wk
namespace Go.Wk
open Go.Proofs Rp Go.Proofs.Tryz
set_option maxRecDepth 10000
theorem rS {w:World}{xs:List Int}{xsA:Option Addr}{xsC:Nat}{m:Int}(xsS:Sees w [.slice xsA xs.length xsC] xs) (hm : -1000≤m∧m≤1000000):Ret Tryz.prog 341 #[.slice xsA xs.length xsC,.int .i64 m] w fun v w'=>Ext No w w'∧(v = .bool (rises xs (m-1))):=by
 have xsL:=sL xsS;obtain ⟨xsF,xsO⟩:=xsS;refine aF func341 Z ntmps341 Z (fun Q hQ hN=>?_);have H0:=Sep.start (ae xsO aA);refine ab (sA Z Z (aa (ac (ab (sM Z Z (sV Z (aE bp Z) (sM Z Z (aa (an (bg (γ:=Nat) (fun k=>[(0,.slice xsA xs.length xsC),(1,.int .i64 m),(7,.slice xsA xs.length xsC),(8,.int .i64 xs.length),(9,.int .i64 k)]) (fun k w'=>Sep No w [] [seen false [.slice xsA xs.length xsC] xs xsF] w'∧k≤xs.length∧(∀ i,i<k→gD xs (m-1) i=true)) (fun k=>xs.length-k) 0 ⟨Z,Z,Z,Z,Z,trivial⟩ ⟨H0,ω,fun i hi=>by omega⟩ (fun k w1 H1=>?_)))))))))));obtain ⟨H1,hk,he⟩:=H1;refine ab (sV Z (aM Z Z) (aa (ac (aB Z (fun c1=>?_) (fun c1=>?_)))))
 ·refine ak (ac (an (ac ?_)));obtain ⟨eb1,eo1,ee1,ec1⟩:=cr (H1.seen 0 Z) k ω;have eI1:=cA (H1.seen 0 Z) k ω;refine am (sM Z Z (sV Z (ay bp ts2 Z Z ee1 k ω ω) (sV Z (ag tu2 Z Z ec1) (sR 2 Z (aa (ac ?_))))));obtain ⟨eb2,eo2,ee2,ec2⟩:=cr (H1.seen 0 Z) (k-1) ω;have eI2:=cA (H1.seen 0 Z) (k-1) ω;refine am (sR 2 Z (sV Z (bM Z Z iO) (sE func130 cI Z bx H1 (fun w2 e1 H2=>sV Z (aZ Z) (sM Z Z (bz 11 (j:=5) (want:=false) (t:=30) Z Z Z Z (fun hg1 kk1=>ax (wgE Z Z Z hg1) Z Z (aG Z) (ax (wgE Z Z Z hg1) Z Z (er Z Z) (ax (wgE Z Z Z hg1) Z Z (aG Z) (bz 7 (j:=8) (want:=true) (t:=29) Z Z Z Z (fun hg2 kk2=>ax (wgE Z Z Z hg2) Z Z (aG Z) (ax (wgE Z Z Z hg2) Z Z (aG Z) (ax (wgE Z Z Z hg2) Z Z (bM Z Z iO) (ax (wgE Z Z Z hg2) Z Z (ay bp ts2 Z Z ee2 (k-1) (by first | omega | (simp only [Bool.or_eq_false_iff,Bool.and_eq_true,Bool.and_eq_false_iff,Bool.or_eq_true,Bool.not_eq_true',Bool.not_eq_false',decide_eq_true_eq,decide_eq_false_iff_not] at hg1 hg2; omega)) ω) (ax (wgE Z Z Z hg2) Z Z (ag tu2 Z Z (e1.cell ec2)) (ax (wgE Z Z Z hg2) Z Z (aG Z) (ax (wgE Z Z Z hg2) Z Z (zl Z Z) (kk2 _ _ (kx Z (kx Z (kx Z (kx Z (kx Z (kx Z (kx Z k0))))))) Z Ext.refl)))))))) (fun w4 e3=>ax (wgE Z Z Z hg1) Z Z (bi Z Z) (kk1 _ _ (kx Z (kx Z (kx Z (kx Z (kx Z k0))))) Z (Ext.refl.trans e3))))))) (fun w3 e2=>?_)))))));have H4:=H2.to e2;refine sV Z (fD Z Z) (aa (bJ Z (fun c2=>?_) (fun c2=>?_)))
  ·refine ab (sA Z Z (aa (rT hQ results341 Z (⟨H4.ext,?_⟩))))
   rw [rD k ω (by
    simp [ins,-List.getD_eq_getElem?_getD] at c2;simp [gD,-List.getD_eq_getElem?_getD]
    omega)]
  ·refine ak (am (sV Z (aC Z Z iO) (sM Z Z (aa (⟨k+1,⟨Z,Z,Z,Z,Z,trivial⟩,⟨H4,ω,fun i hi=>?_⟩,θ⟩)))))
   by_cases e:i=k
   ·subst e;simp [ins,-List.getD_eq_getElem?_getD] at c2;simp [gD,-List.getD_eq_getElem?_getD]
    omega
   ·exact he i ω
 ·refine aI (ab (rA hQ results341 Z ?_));exact ⟨H1.ext,by rw [tj (fun i hi=>he i ω)]⟩
theorem tJ {w:World}{xs:List Int}{xsA:Option Addr}{xsC:Nat}{m:Int}(xsS:Sees w [.slice xsA xs.length xsC] xs) (hm : -1000≤m∧m≤1000000):Ret Tryz.prog 248 #[.slice xsA xs.length xsC,.int .i64 m] w fun v w'=>Ext No w w'∧(v = .bool (rises xs m)):=by
 have xsL:=sL xsS;obtain ⟨xsF,xsO⟩:=xsS;refine aF func248 Z ntmps248 Z (fun Q hQ hN=>?_);have H0:=Sep.start (ae xsO aA);refine ab (sA Z Z (aa (ac (ab (sA Z Z (aa (an (bg (γ:=Nat) (fun k=>[(0,.slice xsA xs.length xsC),(1,.int .i64 m),(5,.int .i64 k)]) (fun k w'=>Sep No w [] [seen false [.slice xsA xs.length xsC] xs xsF] w'∧k≤xs.length∧(∀ i,i<k→gD xs m i=true)) (fun k=>xs.length-k) 0 ⟨Z,Z,Z,trivial⟩ ⟨H0,ω,fun i hi=>by omega⟩ (fun k w1 H1=>?_)))))))));obtain ⟨H1,hk,he⟩:=H1;refine ac (ab (sR 2 Z (sV Z (aE bp Z) (sV Z (aM Z Z) (aa (aB Z (fun c1=>?_) (fun c1=>?_)))))))
 ·refine ak (ac (an (ac ?_)));obtain ⟨eb1,eo1,ee1,ec1⟩:=cr (H1.seen 0 Z) k ω;have eI1:=cA (H1.seen 0 Z) k ω;refine bH (S:=Ext No _) (oQ [1,3,5,7,9,11,13,15,17,19,21,23,25,27,29,31,33,35,37,39,41,43,45,47,49,51,53,55,56]) κ κ κ Z (fun _=>Ext.refl.drawn _) (fun q1=>?_);have H2:=H1.drawn q1;refine dR 2 Z (dV Z Z (fun zw hx=>ay bp ts2 Z Z ee1 k ω ω) (dV Z Z (fun zw hx=>ag tu2 Z Z (hx.cell ec1)) (dR 2 Z (cY (t:=17) Z (fun hg1=>?_) (fun hg1=>?_)))))
  ·try simp only [decide_eq_true_eq,decide_eq_false_iff_not] at hg1
   refine dR 6 Z (dV Z Z (fun zw hx=>aO Z Z) (dR 4 Z (cL Z (wou Z Z Z) Z Z (cL Z (wou Z Z Z) Z Z (cL Z (wou Z Z Z) Z Z (cL Z (wou Z Z Z) Z Z (cL Z (wou Z Z Z) Z Z (cL Z (wou Z Z Z) Z Z (cL Z (wou Z Z Z) Z Z (cL Z (wou Z Z Z) Z Z (cL Z (wou Z Z Z) Z Z (cL Z (wou Z Z Z) Z Z (dKt Z Z Z Z (aT Z aj Z Z (aO Z Z) (aU (d9 Z (ab (sA Z Z (aa (rT hQ results248 Z (⟨H2.ext,?_⟩)))))))))))))))))))))
   rw [rD k ω (by
    simp [gD,-List.getD_eq_getElem?_getD]
    omega)]
  ·try simp only [decide_eq_true_eq,decide_eq_false_iff_not] at hg1
   refine aL Z (wg Z Z Z) Z Z (fun zw hx=>aG Z) (aL Z (wg Z Z Z) Z Z (fun zw hx=>aG Z) (aL Z (wg Z Z Z) Z Z (fun zw hx=>ay bp ts2 Z Z ee1 k ω ω) (aL Z (wg Z Z Z) Z Z (fun zw hx=>ag tu2 Z Z (hx.cell ec1)) (aL Z (wg Z Z Z) Z Z (fun zw hx=>aG Z) (aL Z (wg Z Z Z) Z Z (fun zw hx=>er Z Z) (dV Z Z (fun zw hx=>aW Z Z) (dM Z Z Z (cY (t:=25) Z (fun hg2=>?_) (fun hg2=>?_)))))))))
   ·try simp only [decide_eq_true_eq,decide_eq_false_iff_not] at hg2
    refine dR 3 Z (cL Z (wou Z Z Z) Z Z (cL Z (wou Z Z Z) Z Z (cL Z (wou Z Z Z) Z Z (cL Z (wou Z Z Z) Z Z (cL Z (wou Z Z Z) Z Z (cL Z (wou Z Z Z) Z Z (cL Z (wou Z Z Z) Z Z (cL Z (wou Z Z Z) Z Z (cL Z (wou Z Z Z) Z Z (cL Z (wou Z Z Z) Z Z (dKt Z Z Z Z (aT Z aj Z Z (aO Z Z) (aU (d9 Z (ab (sA Z Z (aa (rT hQ results248 Z (⟨H2.ext,?_⟩)))))))))))))))))))
    rw [rD k ω (by
     simp [gD,-List.getD_eq_getElem?_getD]
     omega)]
   ·try simp only [decide_eq_true_eq,decide_eq_false_iff_not] at hg2
    refine aL Z (wg Z Z Z) Z Z (fun zw hx=>aG Z) (aL Z (wg Z Z Z) Z Z (fun zw hx=>er Z Z) (aL Z (wg Z Z Z) Z Z (fun zw hx=>aG Z) (cY (t:=28) Z (fun hg3=>?_) (fun hg3=>?_))))
    ·try simp only [decide_eq_true_eq,decide_eq_false_iff_not] at hg3
     refine aL Z (wg Z Z Z) Z Z (fun zw hx=>aG Z) (aL Z (wg Z Z Z) Z Z (fun zw hx=>aG Z) (aL Z (wg Z Z Z) Z Z (fun zw hx=>ay bp ts2 Z Z ee1 k ω ω) (aL Z (wg Z Z Z) Z Z (fun zw hx=>ag tu2 Z Z (hx.cell ec1)) (aL Z (wg Z Z Z) Z Z (fun zw hx=>aG Z) (aL Z (wg Z Z Z) Z Z (fun zw hx=>aG Z) (aL Z (wg Z Z Z) Z Z (fun zw hx=>bM Z Z iO) ?_))))));obtain ⟨eb2,eo2,ee2,ec2⟩:=cr (H2.seen 0 Z) (k-1) ω;have eI2:=cA (H2.seen 0 Z) (k-1) ω;refine aL Z (wg Z Z Z) Z Z (fun zw hx=>ay bp ts2 Z Z ee2 (k-1) ω ω) (aL Z (wg Z Z Z) Z Z (fun zw hx=>ag tu2 Z Z (hx.cell ec2)) (aL Z (wg Z Z Z) Z Z (fun zw hx=>vE Z Z) (aL Z (wg Z Z Z) Z Z (fun zw hx=>aO Z Z) (aT Z aj Z Z (aW Z Z) (aU (aB Z (fun c2=>?_) (fun c2=>?_)))))))
     ·refine ab (sA Z Z (aa (rT hQ results248 Z (⟨H2.ext,?_⟩))))
      rw [rD k ω (by
       simp [gD,-List.getD_eq_getElem?_getD]
       omega)]
     ·refine ak (am (sM Z Z (sV Z (aC Z Z iO) (sA Z Z (aa (⟨k+1,⟨Z,Z,Z,trivial⟩,⟨H2,ω,fun i hi=>?_⟩,θ⟩))))))
      by_cases e:i=k
      ·subst e;simp [gD,-List.getD_eq_getElem?_getD]
       omega
      ·exact he i ω
    ·try simp only [decide_eq_true_eq,decide_eq_false_iff_not] at hg3
     refine dR 10 Z (aL Z (wg Z Z Z) Z Z (fun zw hx=>aW Z Z) (aT Z aj Z Z (aW Z Z) (aU (jA Z (ak (am (sM Z Z (sV Z (aC Z Z iO) (sA Z Z (aa (⟨k+1,⟨Z,Z,Z,trivial⟩,⟨H2,ω,fun i hi=>?_⟩,θ⟩)))))))))))
     by_cases e:i=k
     ·subst e;simp [gD,-List.getD_eq_getElem?_getD]
      omega
     ·exact he i ω
 ·refine aI (ab (rA hQ results248 Z ?_));exact ⟨H1.ext,by rw [tj (fun i hi=>he i ω)]⟩
end Go.Wk
namespace Go.Wk
open Rp (sz own)
section
variable {M:Nat→Prop}{w0 w w':World}{Δ F:List Rsc}{β:Type}[Rp β]
theorem Sep.rowApp (h:Sep M w0 Δ F w) (j e:Nat) {vs:List View}{xss:List (List β)}{g} (hj:F[j]? = some (rows vs xss g)) {s a c} {y:List β}{fy} (he:F[e]? = some (Wk.seen s [.slice a y.length c] y fy)) (hl:vs.length=xss.length) :
    ∃ g',Sep M w0 Δ (F.set j (rows (vs++[⟨a,y.length,c⟩]) (xss++[y]) g')) w∧∀ b∈g',b∈g∨b∈fy:=
  ⟨g++fy,h.fset j (Fz (h.fs _ (List.mem_of_getElem? hj)) hl (h.seen e he)) fun b hb=>(List.mem_append.1 hb).elim (h.ap _ (List.mem_of_getElem? hj) b) (h.ap _ (List.mem_of_getElem? he) b),fun b hb=>List.mem_append.1 hb⟩
theorem Sep.noRows (h:Sep M w0 Δ F w):Sep M w0 Δ (F++[rows ([]:List View) ([]:List (List β)) []]) w:=h.look (r:=rows [] [] []) rfl (by simp [rows])
theorem Sep.viewsIn (h:Sep M w0 Δ F w) (i j:Nat) {v:Value}{vs:List View}{xss:List (List β)}{f g} (hi:Δ[i]? = some (Wk.mine [v] vs f)) (hj:F[j]? = some (rows vs xss g)) (hl:vs.length=xss.length) :
    ∃ fp,Sep M w0 (Δ.set i gone) (F++[Wk.seen false [v] xss fp]) w∧∀ b∈fp,b∈f∨b∈g:=by
  obtain ⟨fp,ho,hs⟩:=t0 (h.mine i hi) (h.rowsAt j hj) hl
  have hm:=List.mem_of_getElem? hi
  have h':=h.share i hi
  have h2:Sep M w0 (Δ.set i gone) F w:=h'.fto fun q hq=>⟨h'.fs q (List.mem_append_left _ hq),h'.ap q (List.mem_append_left _ hq)⟩
  refine ⟨fp,h2.look (r:=Wk.seen false [v] xss fp) ho fun b hb hx=>?_,hs⟩
  rcases hs b hb with hb | hb
  · exact h'.ap (Wk.seen true [v] vs f) (List.mem_append_right _ σ) b hb hx
  · exact h2.ap _ (List.mem_of_getElem? hj) b hb hx
end
def bG (xs:List (List UInt8)) (n:Nat):Nat→List Int
  | 0=>[]
  | k+1=>if 0<(xs.getD k []).length∧(bG xs n k).length<n then bG xs n k++[(k:Int)] else bG xs n k
def thereTo (xs:List (List UInt8)) (n:Nat):Nat→List (List UInt8)
  | 0=>[]
  | k+1=>if 0<(xs.getD k []).length∧(bG xs n k).length<n then thereTo xs n k++[xs.getD k []] else thereTo xs n k
theorem iU {xs n k} (h:0<(xs.getD k []).length∧(bG xs n k).length<n):bG xs n (k+1)=bG xs n k++[(k:Int)]∧thereTo xs n (k+1)=thereTo xs n k++[xs.getD k []]:=by
  rw [bG,thereTo,if_pos h,if_pos h]; exact ⟨rfl,rfl⟩
theorem iJ {xs n k} (h:¬ (0<(xs.getD k []).length∧(bG xs n k).length<n)):bG xs n (k+1)=bG xs n k∧thereTo xs n (k+1)=thereTo xs n k:=by
  rw [bG,thereTo,if_neg h,if_neg h]; exact ⟨rfl,rfl⟩
theorem iy {xs n}:∀ {k},(thereTo xs n k).length=(bG xs n k).length
  | 0=>rfl
  | k+1=>by
    by_cases h:0<(xs.getD k []).length∧(bG xs n k).length<n
    · rw [(iU h).1,(iU h).2,List.length_append,List.length_append,iy]; rfl
    · rw [(iJ h).1,(iJ h).2,iy]
theorem nh {xs n}:∀ {k},(bG xs n k).length≤n∧(bG xs n k).length≤k
  | 0=>⟨Nat.zero_le _,Nat.le_refl _⟩
  | k+1=>by
    have:=nh (xs:=xs) (n:=n) (k:=k)
    by_cases h:0<(xs.getD k []).length∧(bG xs n k).length<n
    · rw [(iU h).1,List.length_append]; simp; omega
    · rw [(iJ h).1]; omega
theorem F2 {xs n k} (h:(bG xs n k).length=n):∀ m,k≤m→bG xs n m=bG xs n k∧thereTo xs n m=thereTo xs n k:=by
  intro m hm
  induction m with
  | zero=>have e:k=0:=(by omega); rw [e]; exact ⟨rfl,rfl⟩
  | succ m ih=>
    by_cases e:k=m+1
    · rw [e]; exact ⟨rfl,rfl⟩
    · have ih:=ih ω
      have hn:=iJ (xs:=xs) (n:=n) (k:=m) (by rw [ih.1]; omega)
      rw [hn.1,hn.2]; exact ih
theorem nv {xs n}:∀ {k} (i:Nat),i<(bG xs n k).length→0≤(bG xs n k).getD i 0∧(bG xs n k).getD i 0<k∧(0<i→(bG xs n k).getD (i-1) 0<(bG xs n k).getD i 0) ∧
    0<(xs.getD ((bG xs n k).getD i 0).toNat []).length∧(thereTo xs n k).getD i []=xs.getD ((bG xs n k).getD i 0).toNat []
  | 0,i,hi=>by simp [bG] at hi
  | k+1,i,hi=>by
    by_cases h:0<(xs.getD k []).length∧(bG xs n k).length<n
    · rw [(iU h).1,List.length_append] at hi
      rw [(iU h).1,(iU h).2]
      have tl:=iy (xs:=xs) (n:=n) (k:=k)
      have g1:∀ {α:Type}{l:List α}{x d:α}{j:Nat},j<l.length→(l++[x]).getD j d=l.getD j d:=fun hj=>by simp [List.getD,List.getElem?_append_left hj]
      have g2:∀ {α:Type}{l:List α}{x d:α},(l++[x]).getD l.length d=x:=by intros; simp [List.getD]
      by_cases hl:i<(bG xs n k).length
      · have ih:=nv (xs:=xs) (n:=n) (k:=k) i hl
        rw [g1 hl,g1 ω,g1 ω]
        exact ⟨ih.1,ω,ih.2.2.1,ih.2.2.2⟩
      · obtain rfl:i=(bG xs n k).length:=by simp at hi; omega
        rw [g2,← tl,g2]
        refine ⟨ω,ω,fun hp=>?_,by simpa using h.1,σ⟩
        rw [tl] at hp ⊢
        rw [g1 ω]
        have ih:=nv (xs:=xs) (n:=n) (k:=k) ((bG xs n k).length-1) ω
        exact ih.2.1
    · rw [(iJ h).1] at hi ⊢
      rw [(iJ h).2]
      have ih:=nv (xs:=xs) (n:=n) (k:=k) i hi
      exact ⟨ih.1,ω,ih.2.2⟩
theorem vc {xs n k}:rises (bG xs n k) ((k:Int)-1)=true:=tj fun i hi=>by
  have:=nv i hi
  simp only [gD,Bool.and_eq_true,Bool.or_eq_true,decide_eq_true_eq]
  omega
def gS (n:Nat) (xs:List (List UInt8)):Bool:=decide (n≤(bG xs n xs.length).length)
def decAt (n:Nat) (xs:List (List UInt8)) (p:Int):List UInt8:=jY (thereTo xs n xs.length) (betw n (bG xs n xs.length) p 0) 4 (thereTo xs n xs.length).length
def rC (n:Nat) (xs:List (List UInt8)) (k:Nat):List UInt8:=((List.range k).map fun i:Nat=>decAt n xs (i:Int)).flatten
def tk (n:Nat) (xs:List (List UInt8)):List UInt8:=if gS n xs=true then rC n xs n else []
def zJ (n:Nat) (xs:List (List UInt8)) (p:Int):List UInt8:=if gS n xs=true then decAt n xs p else []
theorem ra {n xs k}:rC n xs k++jY (thereTo xs n xs.length) (betw n (bG xs n xs.length) (k:Nat) 0) 4 (thereTo xs n xs.length).length=rC n xs (k+1):=by
  simp [rC,List.range_succ,decAt]
theorem DJ {n xs} (h:(bG xs n xs.length).length<n):gS n xs=false∧tk n xs=[]∧∀ p,zJ n xs p=[]:=by
  have:gS n xs=false:=by rw [gS,decide_eq_false ω]
  exact ⟨this,by rw [tk,this]; rfl,fun p=>by rw [zJ,this]; rfl⟩
theorem u3 {n xs} (h:¬ (bG xs n xs.length).length<n):gS n xs=true∧tk n xs=rC n xs n∧∀ p,zJ n xs p=decAt n xs p:=by
  have:gS n xs=true:=by rw [gS,decide_eq_true ω]
  exact ⟨this,by rw [tk,if_pos this],fun p=>by rw [zJ,if_pos this]⟩
def Part (xs:List (List UInt8)):Prop:=∀ i,i<xs.length→(xs.getD i []).length=4∨(xs.getD i []).length=0
theorem Cr {xs:List (List UInt8)}{n:Nat}(h:Part xs):∀ i,i<(thereTo xs n xs.length).length→((thereTo xs n xs.length).getD i []).length=4:=fun i hi=>by
  have ha:=nv (xs:=xs) (n:=n) (k:=xs.length) i (by rw [← iy]; exact hi)
  rw [ha.2.2.2.2]
  have h1:=h ((bG xs n xs.length).getD i 0).toNat ω
  omega
theorem yX {xs:List (List UInt8)}{n p} (h:Part xs):(decAt n xs p).length=4:=ky (Cr h) (Nat.le_refl _)
theorem pc {xs:List (List UInt8)}{n} (h:Part xs):∀ k,(rC n xs k).length=k*4
  | 0=>rfl
  | k+1=>by
    rw [← ra,List.length_append,pc h k]
    have:=yX (n:=n) (p:=(k:Int)) h
    rw [decAt] at this
    omega
def xR:Nat→List (List Int)
  | 1=>[[0],[1],[2]]
  | 2=>[[0,1],[0,2],[0,3],[1,2],[1,3],[2,3]]
  | 3=>[[0,1,2],[0,1,3],[0,1,4],[0,2,3],[0,2,4],[0,3,4],[1,2,3],[1,2,4],[1,3,4],[2,3,4]]
  | _=>[]
def J4 (f:Nat→UInt8):Nat→UInt8
  | 0=>0
  | k+1=>J4 f k ^^^ f k
end Go.Wk
namespace Go.Wk
open Go.Proofs Rp Go.Proofs.Tryz
set_option maxRecDepth 10000
theorem ou {w:World}{xs:List Int}{xsA:Option Addr}{xsC:Nat}{gf:FuncId}{gL:List Value}{gF:Func}(xsS:Sees w [.slice xsA xs.length xsC] xs) {p:Int→Bool}(gH:Tryz.prog.funcs[gf]? = some gF) (gB:gF.body.isNone=false) (gN:NG gF) (gC:∀ w1,Ext No w w1→∀ (i0:Nat),i0<xs.length→Ret Tryz.prog gf (([.int .i64 (xs.getD i0 0)]:List Value)++gL).toArray w1 fun v w'=>Ext No w1 w'∧v = .bool (p (xs.getD i0 0))):Ret Tryz.prog 366 #[.slice xsA xs.length xsC,.func (.func gf) #[] gL.toArray] w fun v w'=>Ext No w w'∧(v = .int .i64 (jr p xs)):=by
 have xsL:=sL xsS;obtain ⟨xsF,xsO⟩:=xsS;refine aF func366 Z ntmps366 Z (fun Q hQ hN=>?_);have H0:=Sep.start (ae xsO aA);refine ab (sA Z Z (aa (ac (ab (sM Z Z (sV Z (aE bp Z) (sM Z Z (aa (an (bX (γ:=Nat) H0 [(0,_),(1,_),(7,_)] ⟨Z,Z,Z,trivial⟩ (fun k=>[(8,.int .i64 k)]) (fun k=>k≤xs.length∧(∀ i,i<k→p (xs.getD i 0)=false)) (fun k=>xs.length-k) 0 ⟨Z,trivial⟩ ⟨ω,fun i hi=>by omega⟩ (fun k w1 H1 ⟨hk,he⟩=>?_)))))))))));dsimp only[lCA,lNA];refine ab (sV Z (aM Z Z) (aa (ac (aB Z (fun c1=>?_) (fun c1=>?_)))))
 ·refine ak (ac (an (ab (sR 2 Z (aa (ac ?_))))));obtain ⟨eb1,eo1,ee1,ec1⟩:=cr (H1.seen 0 Z) k ω;have eI1:=cA (H1.seen 0 Z) k ω;refine am (sR 3 Z (sV Z (ay bp ts2 Z Z ee1 k ω ω) (sV Z (ag tu2 Z Z ec1) (eX aj Z Z (gT (lb:=gL) Z gH gB gN Z) (gC _ H1.ext k ω) (fun v1 w2 r1=>?_)))));obtain ⟨e1,rfl⟩:=r1;have H2:=H1.to e1;refine aa (bJ Z (fun c2=>?_) (fun c2=>?_))
  ·refine ab (sR 2 Z (rN hQ results366 Z ?_));exact ⟨H2.ext,congrArg (Value.int .i64) (np (d:=0) ω η he).symm⟩
  ·refine ak (am (sV Z (aC Z Z iO) (sM Z Z (aa (⟨k+1,⟨Z,Z,Z,Z,trivial⟩,⟨H2,ω,fun i hi=>?_⟩,θ⟩)))))
   by_cases e:i=k
   ·subst e
    assumption
   ·exact he i ω
 ·refine aI (ab (rA hQ results366 Z ?_));exact ⟨H1.ext,congrArg (Value.int .i64) (mY (d:=0) (fun i hi=>he i ω)).symm⟩
theorem mg {w:World}{xs:List Int}{xsA:Option Addr}{xsC:Nat}{gf:FuncId}{gL:List Value}{gF:Func}(xsS:Sees w [.slice xsA xs.length xsC] xs) {p:Int→Bool}(gH:Tryz.prog.funcs[gf]? = some gF) (gB:gF.body.isNone=false) (gN:NG gF) (gC:∀ w1,Ext No w w1→∀ (i0:Nat),i0<xs.length→Ret Tryz.prog gf (([.int .i64 (xs.getD i0 0)]:List Value)++gL).toArray w1 fun v w'=>Ext No w1 w'∧v = .bool (p (xs.getD i0 0))):Ret Tryz.prog 342 #[.slice xsA xs.length xsC,.func (.func gf) #[] gL.toArray] w fun v w'=>Ext No w w'∧(v = .bool (xs.any p)):=by
 have xsL:=sL xsS;obtain ⟨xsF,xsO⟩:=xsS;refine aF func342 Z ntmps342 Z (fun Q hQ hN=>?_);have H0:=Sep.start (ae xsO aA);refine ab (sA Z Z (aa (ab (sR 2 Z (sE func366 BS Z (ou (H0.sees 0 Z) gH gB gN (fun w1 e1=>gC w1 (H0.ext.trans e1))) H0 (fun w1 e1 H1=>sR 2 Z (rN hQ results342 Z ?_)))))));exact ⟨H1.ext,by rw [← lv]⟩
theorem ox {w:World}{xs:List Block}{xsA:Option Addr}{xsC:Nat}{gf:FuncId}{gL:List Value}{gF:Func}(xsS:Sees w [.slice xsA xs.length xsC] xs) {p:Block→Bool}(gH:Tryz.prog.funcs[gf]? = some gF) (gB:gF.body.isNone=false) (gN:NG gF) (gC:∀ w1,Ext No w w1→∀ (i0:Nat),i0<xs.length→∀ (A0_1:Option Addr) (C0_1:Nat) (_:(xs.getD i0 default).Ok) (_:Sees w1 [.slice A0_1 (xs.getD i0 default).Bytes.length C0_1] (xs.getD i0 default).Bytes),Ret Tryz.prog gf (([(xs.getD i0 default).val A0_1 C0_1]:List Value)++gL).toArray w1 fun v w'=>Ext No w1 w'∧v = .bool (p (xs.getD i0 default))):Ret Tryz.prog 357 #[.slice xsA xs.length xsC,.func (.func gf) #[] gL.toArray] w fun v w'=>Ext No w w'∧(v = .int .i64 (jr p xs)):=by
 have xsL:=sL xsS;obtain ⟨xsF,xsO⟩:=xsS;refine aF func357 Z ntmps357 Z (fun Q hQ hN=>?_);have H0:=Sep.start (ae xsO aA);refine ab (sA Z Z (aa (ac (ab (sM Z Z (sV Z (aE dH Z) (sM Z Z (aa (an (bX (γ:=Nat) H0 [(0,_),(1,_),(7,_)] ⟨Z,Z,Z,trivial⟩ (fun k=>[(8,.int .i64 k)]) (fun k=>k≤xs.length∧(∀ i,i<k→p (xs.getD i default)=false)) (fun k=>xs.length-k) 0 ⟨Z,trivial⟩ ⟨ω,fun i hi=>by omega⟩ (fun k w1 H1 ⟨hk,he⟩=>?_)))))))))));dsimp only[lCA,lNA];refine ab (sV Z (aM Z Z) (aa (ac (aB Z (fun c1=>?_) (fun c1=>?_)))))
 ·refine ak (ac (an (ab (sR 2 Z (aa (ac ?_))))));obtain ⟨eb1,eo1,es1,ef1,ee1,ec1,eO1,eH1,em1⟩:=aV (H1.seen 0 Z) k ω;obtain ⟨ea1,ek1,eg1,rfl,eq1,eK1,eo2⟩:=dP eO1;have eK1U:=eK1;unfold Block.Ok at eK1U
  try unfold I64ok at eK1U
  try unfold maxLen at eK1U
  have eP1:=H1.look1 0 Z eo2 (fun b hb=>eH1 b (by rw [eq1]; simp [hb]));have eL1:=oL eo2;refine am (sR 3 Z (sV Z (ay dH fG Z Z ee1 k ω ω) (sV Z (au gI Z fG Z Z ec1) (eX aj Z Z (gT (lb:=gL) Z gH gB gN Z) (gC _ eP1.ext k ω _ _ η (eP1.sees 1 Z)) (fun v1 w2 r1=>?_)))));obtain ⟨e1,rfl⟩:=r1;have H2:=eP1.to e1;refine aa (bJ Z (fun c2=>?_) (fun c2=>?_))
  ·refine ab (sR 2 Z (rN hQ results357 Z ?_));exact ⟨H2.ext,congrArg (Value.int .i64) (np (d:=default) ω η he).symm⟩
  ·refine ak (am (sV Z (aC Z Z iO) (sM Z Z (aa (⟨k+1,⟨Z,Z,Z,Z,trivial⟩,⟨(H2.ftake 1),ω,fun i hi=>?_⟩,θ⟩)))))
   by_cases e:i=k
   ·subst e
    assumption
   ·exact he i ω
 ·refine aI (ab (rA hQ results357 Z ?_));exact ⟨H1.ext,congrArg (Value.int .i64) (mY (d:=default) (fun i hi=>he i ω)).symm⟩
theorem mt {w:World}{xs:List Block}{xsA:Option Addr}{xsC:Nat}{gf:FuncId}{gL:List Value}{gF:Func}(xsS:Sees w [.slice xsA xs.length xsC] xs) {p:Block→Bool}(gH:Tryz.prog.funcs[gf]? = some gF) (gB:gF.body.isNone=false) (gN:NG gF) (gC:∀ w1,Ext No w w1→∀ (i0:Nat),i0<xs.length→∀ (A0_1:Option Addr) (C0_1:Nat) (_:(xs.getD i0 default).Ok) (_:Sees w1 [.slice A0_1 (xs.getD i0 default).Bytes.length C0_1] (xs.getD i0 default).Bytes),Ret Tryz.prog gf (([(xs.getD i0 default).val A0_1 C0_1]:List Value)++gL).toArray w1 fun v w'=>Ext No w1 w'∧v = .bool (p (xs.getD i0 default))):Ret Tryz.prog 269 #[.slice xsA xs.length xsC,.func (.func gf) #[] gL.toArray] w fun v w'=>Ext No w w'∧(v = .bool (xs.any p)):=by
 have xsL:=sL xsS;obtain ⟨xsF,xsO⟩:=xsS;refine aF func269 Z ntmps269 Z (fun Q hQ hN=>?_);have H0:=Sep.start (ae xsO aA);refine ab (sA Z Z (aa (ab (sR 2 Z (sE func357 Ci Z (ox (H0.sees 0 Z) gH gB gN (fun w1 e1=>gC w1 (H0.ext.trans e1))) H0 (fun w1 e1 H1=>sR 2 Z (rN hQ results269 Z ?_)))))));exact ⟨H1.ext,by rw [← lv]⟩
theorem pQ {w:World}{xs:List Tape}{xsA:Option Addr}{xsC:Nat}{gf:FuncId}{gL:List Value}{gF:Func}(xsS:Sees w [.slice xsA xs.length xsC] xs) {p:Tape→Bool}(gH:Tryz.prog.funcs[gf]? = some gF) (gB:gF.body.isNone=false) (gN:NG gF) (gC:∀ w1,Ext No w w1→∀ (i0:Nat),i0<xs.length→∀ (A0_1:Option Addr) (C0_1:Nat) (_:(xs.getD i0 default).Ok) (_:Sees w1 [.slice A0_1 (xs.getD i0 default).Recs.length C0_1] (xs.getD i0 default).Recs),Ret Tryz.prog gf (([(xs.getD i0 default).val A0_1 C0_1]:List Value)++gL).toArray w1 fun v w'=>Ext No w1 w'∧v = .bool (p (xs.getD i0 default))):Ret Tryz.prog 358 #[.slice xsA xs.length xsC,.func (.func gf) #[] gL.toArray] w fun v w'=>Ext No w w'∧(v = .int .i64 (jr p xs)):=by
 have xsL:=sL xsS;obtain ⟨xsF,xsO⟩:=xsS;refine aF func358 Z ntmps358 Z (fun Q hQ hN=>?_);have H0:=Sep.start (ae xsO aA);refine ab (sA Z Z (aa (ac (ab (sM Z Z (sV Z (aE ce Z) (sM Z Z (aa (an (bX (γ:=Nat) H0 [(0,_),(1,_),(7,_)] ⟨Z,Z,Z,trivial⟩ (fun k=>[(8,.int .i64 k)]) (fun k=>k≤xs.length∧(∀ i,i<k→p (xs.getD i default)=false)) (fun k=>xs.length-k) 0 ⟨Z,trivial⟩ ⟨ω,fun i hi=>by omega⟩ (fun k w1 H1 ⟨hk,he⟩=>?_)))))))))));dsimp only[lCA,lNA];refine ab (sV Z (aM Z Z) (aa (ac (aB Z (fun c1=>?_) (fun c1=>?_)))))
 ·refine ak (ac (an (ab (sR 2 Z (aa (ac ?_))))));obtain ⟨eb1,eo1,es1,ef1,ee1,ec1,eO1,eH1,em1⟩:=aV (H1.seen 0 Z) k ω;obtain ⟨ea1,ek1,eg1,rfl,eq1,eK1,eo2⟩:=cB eO1;have eP1:=H1.look1 0 Z eo2 (fun b hb=>eH1 b (by rw [eq1]; simp [hb]));have eL1:=oL eo2;refine am (sR 3 Z (sV Z (ay ce cK Z Z ee1 k ω ω) (sV Z (au cz Z cK Z Z ec1) (eX aj Z Z (gT (lb:=gL) Z gH gB gN Z) (gC _ eP1.ext k ω _ _ η (eP1.sees 1 Z)) (fun v1 w2 r1=>?_)))));obtain ⟨e1,rfl⟩:=r1;have H2:=eP1.to e1;refine aa (bJ Z (fun c2=>?_) (fun c2=>?_))
  ·refine ab (sR 2 Z (rN hQ results358 Z ?_));exact ⟨H2.ext,congrArg (Value.int .i64) (np (d:=default) ω η he).symm⟩
  ·refine ak (am (sV Z (aC Z Z iO) (sM Z Z (aa (⟨k+1,⟨Z,Z,Z,Z,trivial⟩,⟨(H2.ftake 1),ω,fun i hi=>?_⟩,θ⟩)))))
   by_cases e:i=k
   ·subst e
    assumption
   ·exact he i ω
 ·refine aI (ab (rA hQ results358 Z ?_));exact ⟨H1.ext,congrArg (Value.int .i64) (mY (d:=default) (fun i hi=>he i ω)).symm⟩
theorem iQ {w:World}{xs:List Tape}{xsA:Option Addr}{xsC:Nat}{gf:FuncId}{gL:List Value}{gF:Func}(xsS:Sees w [.slice xsA xs.length xsC] xs) {p:Tape→Bool}(gH:Tryz.prog.funcs[gf]? = some gF) (gB:gF.body.isNone=false) (gN:NG gF) (gC:∀ w1,Ext No w w1→∀ (i0:Nat),i0<xs.length→∀ (A0_1:Option Addr) (C0_1:Nat) (_:(xs.getD i0 default).Ok) (_:Sees w1 [.slice A0_1 (xs.getD i0 default).Recs.length C0_1] (xs.getD i0 default).Recs),Ret Tryz.prog gf (([(xs.getD i0 default).val A0_1 C0_1]:List Value)++gL).toArray w1 fun v w'=>Ext No w1 w'∧v = .bool (p (xs.getD i0 default))):Ret Tryz.prog 272 #[.slice xsA xs.length xsC,.func (.func gf) #[] gL.toArray] w fun v w'=>Ext No w w'∧(v = .bool (xs.any p)):=by
 have xsL:=sL xsS;obtain ⟨xsF,xsO⟩:=xsS;refine aF func272 Z ntmps272 Z (fun Q hQ hN=>?_);have H0:=Sep.start (ae xsO aA);refine ab (sA Z Z (aa (ab (sR 2 Z (sE func358 EE Z (pQ (H0.sees 0 Z) gH gB gN (fun w1 e1=>gC w1 (H0.ext.trans e1))) H0 (fun w1 e1 H1=>sR 2 Z (rN hQ results272 Z ?_)))))));exact ⟨H1.ext,by rw [← lv]⟩
theorem qL {w:World}{xs:List Rec}{xsA:Option Addr}{xsC:Nat}{gf:FuncId}{gL:List Value}{gF:Func}(xsS:Sees w [.slice xsA xs.length xsC] xs) {p:Rec→Bool}(gH:Tryz.prog.funcs[gf]? = some gF) (gB:gF.body.isNone=false) (gN:NG gF) (gC:∀ w1,Ext No w w1→∀ (i0:Nat),i0<xs.length→∀ (A0_6:Option Addr) (C0_6:Nat) (A0_7:Option Addr) (C0_7:Nat) (A0_8:Option Addr) (C0_8:Nat) (_:(xs.getD i0 default).Ok) (_:Sees w1 [.slice A0_6 (xs.getD i0 default).Rows.length C0_6] (xs.getD i0 default).Rows) (_:Sees w1 [.slice A0_7 (xs.getD i0 default).Data.length C0_7] (xs.getD i0 default).Data) (_:Sees w1 [.slice A0_8 (xs.getD i0 default).Delta.length C0_8] (xs.getD i0 default).Delta),Ret Tryz.prog gf (([(xs.getD i0 default).val A0_6 C0_6 A0_7 C0_7 A0_8 C0_8]:List Value)++gL).toArray w1 fun v w'=>Ext No w1 w'∧v = .bool (p (xs.getD i0 default))):Ret Tryz.prog 235 #[.slice xsA xs.length xsC,.func (.func gf) #[] gL.toArray] w fun v w'=>Ext No w w'∧(v = .int .i64 (jr p xs)):=by
 have xsL:=sL xsS;obtain ⟨xsF,xsO⟩:=xsS;refine aF func235 Z ntmps235 Z (fun Q hQ hN=>?_);have H0:=Sep.start (ae xsO aA);refine ab (sA Z Z (aa (ac (ab (sM Z Z (sV Z (aE ba Z) (sM Z Z (aa (an (bX (γ:=Nat) H0 [(0,_),(1,_),(7,_)] ⟨Z,Z,Z,trivial⟩ (fun k=>[(8,.int .i64 k)]) (fun k=>k≤xs.length∧(∀ i,i<k→p (xs.getD i default)=false)) (fun k=>xs.length-k) 0 ⟨Z,trivial⟩ ⟨ω,fun i hi=>by omega⟩ (fun k w1 H1 ⟨hk,he⟩=>?_)))))))))));dsimp only[lCA,lNA];refine ab (sV Z (aM Z Z) (aa (ac (aB Z (fun c1=>?_) (fun c1=>?_)))))
 ·refine ak (ac (an (ab (sR 2 Z (aa (ac ?_))))));obtain ⟨eb1,eo1,es1,ef1,ee1,ec1,eO1,eH1,em1⟩:=aV (H1.seen 0 Z) k ω;obtain ⟨ea1,ek1,ea2,ek2,ea3,ek3,eg1,eg2,eg3,rfl,eq1,eK1,eo2,eo3,eo4⟩:=cT eO1;have eK1U:=eK1;unfold Rec.Ok at eK1U
  try unfold I64ok at eK1U
  try unfold maxLen at eK1U
  have eP1:=H1.look1 0 Z eo2 (fun b hb=>eH1 b (by rw [eq1]; simp [hb]));have eL1:=oL eo2;have eP2:=eP1.look1 0 Z eo3 (fun b hb=>eH1 b (by rw [eq1]; simp [hb]));have eL2:=oL eo3;have eP3:=eP2.look1 0 Z eo4 (fun b hb=>eH1 b (by rw [eq1]; simp [hb]));have eL3:=oL eo4;refine am (sR 3 Z (sV Z (ay ba aN Z Z ee1 k ω ω) (sV Z (au aD Z aN Z Z ec1) (eX aj Z Z (gT (lb:=gL) Z gH gB gN Z) (gC _ eP3.ext k ω _ _ _ _ _ _ η (eP3.sees 1 Z) (eP3.sees 2 Z) (eP3.sees 3 Z)) (fun v1 w2 r1=>?_)))));obtain ⟨e1,rfl⟩:=r1;have H2:=eP3.to e1;refine aa (bJ Z (fun c2=>?_) (fun c2=>?_))
  ·refine ab (sR 2 Z (rN hQ results235 Z ?_));exact ⟨H2.ext,congrArg (Value.int .i64) (np (d:=default) ω η he).symm⟩
  ·refine ak (am (sV Z (aC Z Z iO) (sM Z Z (aa (⟨k+1,⟨Z,Z,Z,Z,trivial⟩,⟨(H2.ftake 1),ω,fun i hi=>?_⟩,θ⟩)))))
   by_cases e:i=k
   ·subst e
    assumption
   ·exact he i ω
 ·refine aI (ab (rA hQ results235 Z ?_));exact ⟨H1.ext,congrArg (Value.int .i64) (mY (d:=default) (fun i hi=>he i ω)).symm⟩
theorem iY {w:World}{xs:List Rec}{xsA:Option Addr}{xsC:Nat}{gf:FuncId}{gL:List Value}{gF:Func}(xsS:Sees w [.slice xsA xs.length xsC] xs) {p:Rec→Bool}(gH:Tryz.prog.funcs[gf]? = some gF) (gB:gF.body.isNone=false) (gN:NG gF) (gC:∀ w1,Ext No w w1→∀ (i0:Nat),i0<xs.length→∀ (A0_6:Option Addr) (C0_6:Nat) (A0_7:Option Addr) (C0_7:Nat) (A0_8:Option Addr) (C0_8:Nat) (_:(xs.getD i0 default).Ok) (_:Sees w1 [.slice A0_6 (xs.getD i0 default).Rows.length C0_6] (xs.getD i0 default).Rows) (_:Sees w1 [.slice A0_7 (xs.getD i0 default).Data.length C0_7] (xs.getD i0 default).Data) (_:Sees w1 [.slice A0_8 (xs.getD i0 default).Delta.length C0_8] (xs.getD i0 default).Delta),Ret Tryz.prog gf (([(xs.getD i0 default).val A0_6 C0_6 A0_7 C0_7 A0_8 C0_8]:List Value)++gL).toArray w1 fun v w'=>Ext No w1 w'∧v = .bool (p (xs.getD i0 default))):Ret Tryz.prog 276 #[.slice xsA xs.length xsC,.func (.func gf) #[] gL.toArray] w fun v w'=>Ext No w w'∧(v = .bool (xs.any p)):=by
 have xsL:=sL xsS;obtain ⟨xsF,xsO⟩:=xsS;refine aF func276 Z ntmps276 Z (fun Q hQ hN=>?_);have H0:=Sep.start (ae xsO aA);refine ab (sA Z Z (aa (ab (sR 2 Z (sE func235 EC Z (qL (H0.sees 0 Z) gH gB gN (fun w1 e1=>gC w1 (H0.ext.trans e1))) H0 (fun w1 e1 H1=>sR 2 Z (rN hQ results276 Z ?_)))))));exact ⟨H1.ext,by rw [← lv]⟩
end Go.Wk
