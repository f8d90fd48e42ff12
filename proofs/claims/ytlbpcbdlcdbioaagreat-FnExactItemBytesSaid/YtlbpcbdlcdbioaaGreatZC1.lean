/-
  Laws on walking, and the functions walked, each once: what this claim comes to.
-/
import Derived.Test.YtlbpcbdlcdbioaaGreatZC0
set_option linter.unusedVariables false
set_option linter.unusedSimpArgs false
namespace Go.Wk
open Rp (sz own)
abbrev Mat:=List (List UInt8)
def entry (m:Mat) (i c:Nat):UInt8:=(m.getD i []).getD c 0
def jv (m:Mat) (c r:Nat):Nat:=r+(m.drop r).findIdx (fun row=>row.getD c 0 != 0)
theorem ig {α:Type}{xs:List α}{r j:Nat}{d:α}:(xs.drop r).getD j d=xs.getD (r+j) d:=by
  simp [List.getD,List.getElem?_drop]
theorem nq {m:Mat}{c r k:Nat}(h1:r≤k) (h2:k≤m.length) (h0:∀ j,r≤j→j<k→entry m j c=0) (hk:k=m.length∨entry m k c≠0):jv m c r=k:=by
  have hl:(m.drop r).length=m.length-r:=List.length_drop
  have e:(m.drop r).findIdx (fun row=>row.getD c 0 != 0)=k-r:=by
    rcases hk with rfl | hk
    · rw [← hl,List.findIdx_eq_length]
      intro x hx
      obtain ⟨j,hj,rfl⟩:=List.getElem_of_mem hx
      have:=h0 (r+j) (by omega) (by omega)
      rw [entry,← ig (d:=[])] at this
      have e:m.getD (r+j) []=m[r+j]'(by omega):=by simp [List.getD,show r+j<m.length by omega]
      rw [ig,e] at this
      simpa using this
    · have hlt:k<m.length:=Decidable.byContradiction fun h=>hk (by
        have:m.getD k []=[]:=by simp [List.getD,List.getElem?_eq_none (Nat.le_of_not_lt h)]
        rw [entry,this]; rfl)
      have hlt':k-r<(m.drop r).length:=by omega
      rw [List.findIdx_eq hlt']
      refine ⟨?_,fun j hj=>?_⟩
      · rw [entry,show k=r+(k-r) by omega,← ig (d:=[])] at hk
        have e:m.getD (r+(k-r)) []=m[r+(k-r)]'(by omega):=by simp [List.getD,show r+(k-r)<m.length by omega]
        rw [ig,e] at hk
        simpa using hk
      · have hj':j<(m.drop r).length:=by omega
        have:=h0 (r+j) (by omega) (by omega)
        rw [entry,← ig (d:=[])] at this
        have e:m.getD (r+j) []=m[r+j]'(by omega):=by simp [List.getD,show r+j<m.length by omega]
        rw [ig,e] at this
        simpa using this
  rw [jv,e]; omega
def tH (m:Mat) (r a:Nat):Mat:=(m.set r (m.getD a [])).set a (m.getD r [])
def jB (m:Mat) (c r a:Nat):Mat:=(m.set a (m.getD r [])).set r (cq (m.getD a []) (kS (entry m a c)))
def cb (m:Mat) (c r k:Nat):Mat:=(List.range m.length).map fun i=>if i<k∧i≠r then fY (m.getD i []) (cq (m.getD r []) (entry m i c)) else m.getD i []
def stepM (m:Mat) (c r:Nat):Mat × Nat:=if m.length≤jv m c r then (m,r) else (cb (jB m c r (jv m c r)) c r m.length,r+1)
def redM (m:Mat):Nat→Mat × Nat
  | 0=>(m,0)
  | c+1=>stepM (redM m c).1 c (redM m c).2
theorem oV {α:Type}{xs:List α}{i j:Nat}{x d:α}:(xs.set i x).getD j d=if j=i∧i<xs.length then x else xs.getD j d:=by
  simp only [List.getD_eq_getElem?_getD,List.getElem?_set]
  by_cases h:i=j
  · subst h
    by_cases h2:i<xs.length
    · simp [h2]
    · simp [h2]
  · rw [if_neg h,if_neg (fun e=>h e.1.symm)]
theorem xr {m:Mat}{c r k:Nat}:(cb m c r k).length=m.length:=by simp [cb]
theorem Dy {m:Mat}{r a:Nat}(hr:r<m.length) (ha:a<m.length):(tH m r a).getD r []=m.getD a []:=by
  rw [tH,oV,oV]
  by_cases h:r=a
  · subst h; simp [hr]
  · simp [h,hr]
theorem Ap {m:Mat}{c r a:Nat}:(tH m r a).set r (cq (m.getD a []) (kS (entry m a c)))=jB m c r a:=by
  rw [tH,jB]
  by_cases h:r=a
  · subst h; simp
  · rw [List.set_comm _ _ h,List.set_set]
theorem pt {m:Mat}{c r:Nat}:cb m c r 0=m:=by
  refine List.ext_getElem (by simp [cb]) fun i h1 h2=>?_
  simp [cb,List.getD,h2]
theorem mv {m:Mat}{c r k i:Nat}(hi:i<m.length):(cb m c r k).getD i []=if i<k∧i≠r then fY (m.getD i []) (cq (m.getD r []) (entry m i c)) else m.getD i []:=by
  simp [cb,List.getD,hi]
theorem pn {m:Mat}{c r k:Nat}(hk:k<m.length):(cb m c r k).getD k []=m.getD k []:=by rw [mv hk,if_neg (by omega)]
theorem vL {m:Mat}{c r k:Nat}(hr:r<m.length):(cb m c r k).getD r []=m.getD r []:=by rw [mv hr,if_neg (by omega)]
theorem qE {m:Mat}{c r k:Nat}(hk:k<m.length) (hn:k≠r) {z:List UInt8}(hz:z=fY (m.getD k []) (cq (m.getD r []) (entry m k c))):(cb m c r k).set k z=cb m c r (k+1):=by
  refine List.ext_getElem (by simp [cb]) fun i h1 h2=>?_
  rw [List.getElem_set]
  simp only [cb,List.getElem_map,List.getElem_range]
  by_cases e:k=i
  · subst e
    rw [if_pos rfl,if_pos ⟨by omega,hn⟩,hz]
  · rw [if_neg e]
    by_cases h3:i<k∧i≠r
    · rw [if_pos h3,if_pos ⟨by omega,h3.2⟩]
    · rw [if_neg h3,if_neg (by omega)]
theorem pO {m:Mat}{c r k:Nat}(hn:k=r∨cb m c r (k+1)=cb m c r k):cb m c r k=cb m c r (k+1):=by
  rcases hn with rfl | h
  · refine List.ext_getElem (by simp [cb]) fun i h1 h2=>?_
    simp only [cb,List.getElem_map,List.getElem_range]
    by_cases h3:i<k∧i≠k
    · rw [if_pos h3,if_pos (by omega)]
    · rw [if_neg h3,if_neg (by omega)]
  · exact h.symm
def Rect (m:Mat) (k l:Nat):Prop:=m.length=k∧∀ i,i<k→(m.getD i []).length=l
theorem tS {m:Mat}{c r k K l:Nat}(hR:Rect m K l) (hk:k<K) (hr:r<K) (h:entry m k c=0):cb m c r k=cb m c r (k+1):=by
  obtain ⟨h1,h2⟩:=hR
  refine List.ext_getElem (by simp [cb]) fun i h3 h4=>?_
  simp only [cb,List.getElem_map,List.getElem_range]
  by_cases h5:i<k∧i≠r
  · rw [if_pos h5,if_pos ⟨by omega,h5.2⟩]
  · rw [if_neg h5]
    by_cases h6:i<k+1∧i≠r
    · obtain rfl:i=k:=by omega
      rw [if_pos h6,h,vP,uw]
      rw [h2 _ hk,h2 _ hr]
    · rw [if_neg h6]
theorem Rect.set {m:Mat}{K l i:Nat}{x:List UInt8}(h:Rect m K l) (hx:x.length=l):Rect (m.set i x) K l:=by
  refine ⟨by simpa using h.1,fun j hj=>?_⟩
  rw [oV]
  split
  · exact hx
  · exact h.2 j hj
theorem Rect.swap {m:Mat}{K l r a:Nat}(h:Rect m K l) (hr:r<K) (ha:a<K):Rect (tH m r a) K l:=(h.set (h.2 a ha)).set (h.2 r hr)
theorem Rect.norm {m:Mat}{K l c r a:Nat}(h:Rect m K l) (hr:r<K) (ha:a<K):Rect (jB m c r a) K l:=(h.set (h.2 r hr)).set (by rw [eL]; exact h.2 a ha)
theorem Rect.elim {m:Mat}{K l c r k:Nat}(h:Rect m K l) (hr:r<K):Rect (cb m c r k) K l:=by
  refine ⟨by rw [xr]; exact h.1,fun i hi=>?_⟩
  rw [mv (by rw [h.1]; exact hi)]
  split
  · rw [eY (by rw [eL,h.2 i hi,h.2 r hr]; exact Nat.le_refl _)]; exact h.2 i hi
  · exact h.2 i hi
theorem u4 {m:Mat}{c r:Nat}:r≤jv m c r:=Nat.le_add_right _ _
theorem Rect.step {m:Mat}{K l c r:Nat}(h:Rect m K l) (hr:r≤K):Rect (stepM m c r).1 K l∧(stepM m c r).2≤K:=by
  unfold stepM
  split
  · exact ⟨h,hr⟩
  · rename_i hp
    have h1:=h.1
    have:=u4 (m:=m) (c:=c) (r:=r)
    exact ⟨(h.norm (by omega) (by omega)).elim (by omega),by show r+1≤K; omega⟩
theorem Rect.red {m:Mat}{K l:Nat}(h:Rect m K l):∀ n,Rect (redM m n).1 K l∧(redM m n).2≤K
  | 0=>⟨h,Nat.zero_le _⟩
  | n+1=>(h.red n).1.step (h.red n).2
theorem Cu {m:Mat}{c:Nat}(h:(redM m c).2=(redM m c).1.length):∀ n,c≤n→redM m n=redM m c:=by
  intro n hn
  induction n with
  | zero=>have e:c=0:=(by omega); rw [e]
  | succ n ih=>
    by_cases e:c=n+1
    · rw [e]
    · have ih:=ih (by omega)
      show stepM (redM m n).1 n (redM m n).2=_
      rw [ih,stepM,if_pos (by rw [← h]; exact u4)]
section
variable {β:Type}[Rp β]
theorem cA {w ad n cap} {vs:List View}{xss:List (List β)}{f g s} (h:own s w [.slice ad n cap] vs f) (hr:bG false w (vs.map View.val) xss g) (hl:vs.length=xss.length) (k:Nat) (hk:k<xss.length) :
    ∃ b o a c fk,ad=some ⟨b,o,none⟩∧w.cell? ⟨b,o+k*1,none⟩=some (.slice a (xss.getD k []).length c)∧own false w [.slice a (xss.getD k []).length c] (xss.getD k []) fk∧(∀ b∈fk,b∈g)∧b∈f:=by
  obtain ⟨b,o,cs,fe,h1,h2,h3,_,h5⟩:=dq h k (by omega)
  obtain ⟨fk,h6,h7⟩:=hr.get k hk
  have e3:cs=[(vs[k]'(by omega)).val]:=h3.1
  have hkm:k<(vs.map View.val).length:=by simp; omega
  have e:((vs.map View.val).drop (k*sz (List β))).take (sz (List β))=[(vs[k]'(by omega)).val]:=by
    show ((vs.map View.val).drop (k*1)).take 1=_
    rw [Nat.mul_one,List.drop_eq_getElem_cons hkm,List.take_succ_cons,List.take_zero]
    simp
  rw [e] at h6
  obtain ⟨a,c,e2⟩:=aB h6
  rw [e2] at h6
  rw [show xss.getD k []=xss[k] from by simp [List.getD,hk]]
  refine ⟨b,o,a,c,fk,h1,?_,h6,h7,h5⟩
  have:=h2 0 _ (by rw [e3,e2]; rfl)
  exact this
theorem B1 {w:World}{vs:List View}{xss:List (List β)}{g:List Nat}(h:bG false w (vs.map View.val) xss g) (hl:vs.length=xss.length) {u:View}{y:List β}{fy} (hy:own false w [u.val] y fy) :
    ∀ k,k<xss.length→∃ g',bG false w ((vs.set k u).map View.val) (xss.set k y) g'∧∀ b∈g',b∈g∨b∈fy:=by
  induction vs generalizing xss g with
  | nil=>intro k hk; simp at hl; omega
  | cons v vs ih=>
    intro k hk
    cases xss with
    | nil=>simp at hl
    | cons x xss=>
      obtain ⟨f1,f2,e,h1,h2⟩:=h
      subst e
      have h1':own false w [v.val] x f1:=by simpa [sz] using h1
      have h2':bG false w (vs.map View.val) xss f2:=by simpa [sz] using h2
      cases k with
      | zero=>
        refine ⟨fy++f2,⟨fy,f2,rfl,?_,?_⟩,fun b hb=>?_⟩
        · simpa [sz] using hy
        · simpa [sz] using h2'
        · rcases List.mem_append.1 hb with hb | hb
          · exact .inr hb
          · exact .inl (by simp [hb])
      | succ k=>
        obtain ⟨g',hg,hs⟩:=ih h2' (by simpa using hl) k (by simpa using hk)
        refine ⟨f1++g',⟨f1,g',rfl,?_,?_⟩,fun b hb=>?_⟩
        · simpa [sz] using h1'
        · simpa [sz] using hg
        · rcases List.mem_append.1 hb with hb | hb
          · exact .inl (by simp [hb])
          · rcases hs b hb with hb | hb
            · exact .inl (by simp [hb])
            · exact .inr hb
variable {M:Nat→Prop}{w0 w:World}{Δ F:List Rsc}
theorem Sep.rowsAt (h:Sep M w0 Δ F w) (j:Nat) {vs:List View}{xss:List (List β)}{g} (hj:F[j]? = some (rows vs xss g)):bG false w (vs.map View.val) xss g:=h.fs _ (List.mem_of_getElem? hj)
theorem Sep.lookR (h:Sep M w0 Δ F w) (j:Nat) {vs:List View}{xss:List (List β)}{g} (hj:F[j]? = some (rows vs xss g)) {s cs f} {y:List β}(ho:own s w cs y f) (hs:∀ b∈f,b∈g):Sep M w0 Δ (F++[Wk.seen s cs y f]) w:=
  h.look (r:=Wk.seen s cs y f) ho fun b hb=>h.ap _ (List.mem_of_getElem? hj) b (hs b hb)
theorem Sep.fset (h:Sep M w0 Δ F w) (j:Nat) {r:Rsc}(hr:r.φ w) (hd:∀ b∈r.fp,b ∉ blocks Δ):Sep M w0 Δ (F.set j r) w:=
  h.fto fun q hq=>by
    rcases List.mem_or_eq_of_mem_set hq with hq | rfl
    · exact ⟨h.fs q hq,h.ap q hq⟩
    · exact ⟨hr,hd⟩
theorem Sep.rowSet {s:Bool}(h:Sep M w0 Δ F w) (i j e:Nat) {ad n cap} {vs:List View}{xss:List (List β)}{f g} (hi:Δ[i]? = some (Wk.mine [.slice ad n cap] vs f)) (hj:F[j]? = some (rows vs xss g)) {a m c} {y:List β}{fy} (he:F[e]? = some (Wk.seen s [.slice a m c] y fy))
    (hl:vs.length=xss.length) (k:Nat) (hk:k<xss.length) :
    ∃ b o cur T,ad=some ⟨b,o,none⟩∧w.heap[b]? = some (.cells cur T (0,0))∧o+k<cur.size∧b∈f ∧
      ∃ f' g',Sep M w0 (Δ.set i (Wk.mine [.slice ad n cap] (vs.set k ⟨a,m,c⟩) f')) (F.set j (rows (vs.set k ⟨a,m,c⟩) (xss.set k y) g')) (Wk.put w b (.cells (cur.setIfInBounds (o+k) (.slice a m c)) T (0,0))):=by
  obtain ⟨b,o,cur,T,e1,hb,hsz,hs⟩:=h.elset i hi k (by omega)
  obtain ⟨b2,o2,_,_,e2,_,_,_,hbf⟩:=dq (h.mine i hi) k (by omega)
  rw [e1] at e2; cases e2
  have hs1:(sz View)=1:=rfl
  rw [hs1] at hsz hs
  obtain ⟨f',H⟩:=hs [.slice a m c] ⟨a,m,c⟩ ⟨rfl,rfl⟩
  have e3:lay cur (o+k*1) [.slice a m c]=cur.setIfInBounds (o+k) (.slice a m c):=by rw [Nat.mul_one]; rfl
  rw [e3] at H
  obtain ⟨g',hg,hgs⟩:=B1 (u:=⟨a,m,c⟩) (H.rowsAt j hj) hl (bu (H.seen e he)) k hk
  refine ⟨b,o,cur,T,e1,hb,by omega,hbf,f',g',H.fset j hg fun x hx=>?_⟩
  rcases hgs x hx with hx | hx
  · exact H.ap _ (List.mem_of_getElem? hj) x hx
  · exact H.ap _ (List.mem_of_getElem? he) x hx
theorem Sep.parted (h:Sep M w0 Δ F w) (i:Nat) {ad n cap} {xss:List (List β)}{f} (hi:Δ[i]? = some (Wk.mine [.slice ad n cap] xss f)) :
    ∃ vs f' g,vs.length=xss.length∧Sep M w0 (Δ.set i (Wk.mine [.slice ad n cap] (vs:List View) f')) (F++[rows vs xss g]) w:=by
  have hn:=h.nodup1 hi
  have key:∃ (vs:List View) (f' g:List Nat),vs.length=xss.length∧own true w [.slice ad n cap] vs f'∧bG false w (vs.map View.val) xss g∧(∀ x∈f',x∈f)∧f'.Nodup∧(∀ x∈g,x∈f∧x ∉ f'):=by
    rcases h.mine i hi with ⟨h1,_⟩ | ⟨h1,rfl,rfl⟩ | ⟨b,o,cap',cur,T,fr,fs,h1,h2,h3,h4,h5,h6,h7,h8⟩
    · cases h1
    · exact ⟨[],[],[],rfl,.inr (.inl ⟨h1,rfl,rfl⟩),rfl,by simp,.nil,by simp⟩
    · subst h2
      have hlen:((cur.toList.drop o).take xss.length).length=xss.length:=by
        have e:cur.toList.length=cur.size:=by simp
        have:sz (List β)=1:=rfl
        rw [this] at h7
        rw [List.length_take,List.length_drop]; omega
      have h9:bG true w ((cur.toList.drop o).take xss.length) xss fs:=h8.congr (by show List.take (xss.length*1) _=List.take (xss.length*1) _; rw [Nat.mul_one,List.take_take,Nat.min_self])
      obtain ⟨vs,e1,e2⟩:=rU h9 hlen
      rw [e1] at h9
      have hb:b ∉ fs:=(List.nodup_cons.1 hn).1
      refine ⟨vs,[b],fs,e2,.inr (.inr ⟨b,o,cap',cur,T,fr,[],by rw [h1,e2],rfl,h3,h4,by omega,h6,h7,?_⟩),h9.weak',by simp,by simp,fun x hx=>⟨by simp [hx],by simp; exact fun e=>hb (e ▸ hx)⟩⟩
      refine (sY (w:=w) (vs:=vs) (s:=true)).congr ?_
      show List.take (vs.length*1) _=List.take (vs.length*1) _
      rw [Nat.mul_one,← e1,e2,List.take_take,Nat.min_self]
  obtain ⟨vs,f',g,k1,k2,k3,k4,k5,k6⟩:=key
  have H:=h.set hi (q:=Wk.mine [.slice ad n cap] vs f') Ext.refl k2 k5 fun x hx => .inl (k4 x hx)
  refine ⟨vs,f',g,k1,H.look (r:=rows vs xss g) k3 fun x hx hm=>?_⟩
  have hx':=k6 x hx
  obtain ⟨r,hr,hxr⟩:=bx.1 hm
  rcases ge hi h.nd r hr with rfl | ⟨_,hr2⟩
  · exact hx'.2 hxr
  · exact hr2 x hxr hx'.1
end
section
variable {P:Program}{n:Nat}{ops:Array Oper}{Q:Post}{L:Env}{w w0:World}{M:Nat→Prop}{Δ F:List Rsc}{d:Tmp}{ty:TypeId}{p:String}{af:Array Edge}{g:Option (Nat × Bool)}{rest:List Oper}{β:Type}[Rp β]
theorem vd {t:TypeId}{x y:Operand}{b off:Nat}{ad:Option Addr}{len cap:Nat}{vs:List View}{xss:List (List β)}{f gg:List Nat}{s a m c} {z:List β}{fy} (hw:Wn ops n L ⟨none,.store t x y,ty,p,af,g⟩) (hs:∀ w,(sizeOf t).run P w = .ok 1 w)
    (H:Sep M w0 Δ F w) (i j e:Nat) (hi:Δ[i]? = some (mine [.slice ad len cap] vs f)) (hj:F[j]? = some (rows vs xss gg)) (he:F[e]? = some (seen s [.slice a m c] z fy)) (hl:vs.length=xss.length) (k:Nat) (hk:k<xss.length)
    (hx:evL L x=some (.pointer (some ⟨b,off+k*1,none⟩))) (had:ad=some ⟨b,off,none⟩) (hy:evL L y=some (.slice a m c))
    (kk:∀ w' f' g',Sep M w0 (Δ.set i (mine [.slice ad len cap] (vs.set k ⟨a,m,c⟩) f')) (F.set j (rows (vs.set k ⟨a,m,c⟩) (xss.set k z) g')) w'→RL P n ops Q rest L w') :
    RL P n ops Q (⟨none,.store t x y,ty,p,af,g⟩::rest) L w:=by
  obtain ⟨b',o',cur,T,e1,hb,hsz,_,f',g',h⟩:=H.rowSet i j e hi hj he hl k hk
  rw [had] at e1
  simp only [Option.some.injEq,Addr.mk.injEq,and_true] at e1
  obtain ⟨rfl,rfl⟩:=e1
  rw [Nat.mul_one] at hx
  exact tP hw rfl (eB hs hx hy rfl hb hsz) (kk _ f' g' h)
end
section
variable {P:Program}{n:Nat}{ops:Array Oper}{Q:Post}{S:World→Prop}{L:Env}{w w0:World}{M:Nat→Prop}{Δ F:List Rsc}{l:Nat}{d:Tmp}{ty:TypeId}{p:String}{af:Array Edge}{g:Option (Nat × Bool)}{rest:List (Nat × Bool)}{β:Type}[Rp β]
theorem kV {t:TypeId}{x y:Operand}{b off:Nat}{ad:Option Addr}{len cap:Nat}{vs:List View}{xss:List (List β)}{f gg:List Nat}{s a m c} {z:List β}{fy} (ho:ops.toList[l]? = some ⟨none,.store t x y,ty,p,af,g⟩) (hw:Wn ops n L ⟨none,.store t x y,ty,p,af,g⟩) (hs:∀ w,(sizeOf t).run P w = .ok 1 w)
    (H:Sep M w0 Δ F w) (i j e:Nat) (hi:Δ[i]? = some (mine [.slice ad len cap] vs f)) (hj:F[j]? = some (rows vs xss gg)) (he:F[e]? = some (seen s [.slice a m c] z fy)) (hl:vs.length=xss.length) (k:Nat) (hk:k<xss.length)
    (hx:evL L x=some (.pointer (some ⟨b,off+k*1,none⟩))) (had:ad=some ⟨b,off,none⟩) (hy:evL L y=some (.slice a m c)) (hS:∀ (b o:Nat) (cur:Array Value) (T:TypeId),ad=some ⟨b,o,none⟩→w.heap[b]? = some (.cells cur T (0,0))→o+k<cur.size→S w→rest≠[]→S (put w b (.cells (cur.setIfInBounds (o+k) (.slice a m c)) T (0,0))))
    (kk:∀ w' f' g',Sep M w0 (Δ.set i (mine [.slice ad len cap] (vs.set k ⟨a,m,c⟩) f')) (F.set j (rows (vs.set k ⟨a,m,c⟩) (xss.set k z) g')) w'→DL P n ops Q S rest L w') :
    DL P n ops Q S ((l,false)::rest) L w:=by
  obtain ⟨b',o',cur,T,e1,hb,hsz,hbf,f',g',h⟩:=H.rowSet i j e hi hj he hl k hk
  rw [had] at e1
  simp only [Option.some.injEq,Addr.mk.injEq,and_true] at e1
  obtain ⟨rfl,rfl⟩:=e1
  rw [Nat.mul_one] at hx
  exact Aj ho hw rfl (eB hs hx hy rfl hb hsz) (fun hSw hr=>hS _ _ cur T had hb hsz hSw hr) (kk _ f' g' h)
end
theorem Av {w:World}{b o a r:Nat}{cur:Array Value}{T:TypeId}{v:Value}(hb:w.heap[b]? = some (.cells cur T (0,0))) (hr:o+r<cur.size) (hc:w.cell? ⟨b,o+a*1,none⟩=some v) :
    (put w b (.cells (cur.setIfInBounds (o+r) v) T (0,0))).cell? ⟨b,o+a*1,none⟩=some v:=by
  rw [Nat.mul_one] at hc ⊢
  refine jd (gE hb) ?_
  have hc':cur[o+a]? = some v:=by simpa [World.cell?,hb] using hc
  by_cases e:r=a
  · subst e; simp [hr]
  · rw [Array.getElem?_setIfInBounds_ne (by omega)]; exact hc'
def RowsMut {β:Type}[Rp β] (w w':World) (fp:List Nat) (V:Value) (K:Nat) (m:List (List β)):Prop:=
  ∃ (vs:List View) (f g:List Nat),vs.length=K∧Ext (· ∈ fp) w w'∧own true w' [V] vs f∧f.Nodup∧(∀ b∈f,b∈fp∨w.heap.size≤b)∧bG false w' (vs.map View.val) m g∧∀ b∈g,b ∉ f
section
variable {β:Type}[Rp β] {M:Nat→Prop}{w0 w w':World}{Δ F:List Rsc}
theorem Sep.rowsOut {w:World}{fp:List Nat}{V:Value}{vs:List View}{f g:List Nat}{m:List (List β)}{K:Nat}(h:Sep (· ∈ fp) w [Wk.mine [V] vs f] [rows vs m g] w') (hl:vs.length=K):RowsMut w w' fp V K m:=
  ⟨vs,f,g,hl,h.ext,h.mine 0 rfl,h.nodup1 (i:=0) rfl,fun b hb=>h.new b (by simpa [blocks,Wk.mine] using hb),h.rowsAt 0 rfl,fun b hb=>h.off 0 rfl 0 rfl hb⟩
theorem Sep.beginRows {fp:List Nat}{V:Value}{vs:List View}{g:List Nat}{m:List (List β)}(o:own true w [V] vs fp) (nd:fp.Nodup) (hr:bG false w (vs.map View.val) m g) (hd:∀ b∈g,b ∉ fp):Sep (· ∈ fp) w [Wk.mine [V] vs fp] [rows vs m g] w:=
  (Sep.begin o nd).look (r:=rows vs m g) hr fun b hb hm=>hd b hb (by simpa [blocks,Wk.mine] using hm)
theorem Sep.rowsMut (h:Sep M w0 Δ F w) (i:Nat) {V:Value}{vs:List View}{fp:List Nat}(hi:Δ[i]? = some (Wk.mine [V] vs fp)) (honly:∀ b∈blocks Δ,b∈fp) {K:Nat}{m:List (List β)}(hm:RowsMut w w' fp V K m) :
    ∃ vs' f' g',vs'.length=K∧Sep M w0 (Δ.set i (Wk.mine [V] (vs':List View) f')) (F++[rows vs' m g']) w':=by
  obtain ⟨vs',f',g',h1,h2,h3,h4,h5,h6,h7⟩:=hm
  have H:=h.set hi (q:=Wk.mine [V] vs' f') h2 h3 h4 h5
  refine ⟨vs',f',g',h1,H.look (r:=rows vs' m g') h6 fun b hb hm=>?_⟩
  obtain ⟨r,hr,hbr⟩:=bx.1 hm
  rcases ge hi h.nd r hr with rfl | ⟨hr1,hr2⟩
  · exact h7 b hb hbr
  · exact hr2 b hbr (honly b (bx.2 ⟨r,hr1,hbr⟩))
end
theorem tA {m M:Mat}{c r:Nat}(h:redM m c=(M,r)) (hp:M.length≤jv M c r):redM m (c+1)=(M,r):=by
  show stepM (redM m c).1 c (redM m c).2=_
  rw [h]
  exact if_pos hp
theorem tu {m M:Mat}{c r j:Nat}(h:redM m c=(M,r)) (hp:jv M c r=j) (hj:j<M.length):redM m (c+1)=(cb (jB M c r j) c r M.length,r+1):=by
  show stepM (redM m c).1 c (redM m c).2=_
  rw [h]
  show stepM M c r=_
  rw [stepM,if_neg (by omega),hp]
theorem Da {N:Mat}{c r i:Nat}{x:UInt8}(h:(decide ((i:Int)≠(r:Int)) && decide ((x.toNat:Int)≠0))=true):i≠r:=by
  simp only [Bool.and_eq_true,decide_eq_true_eq] at h; omega
theorem AV {N:Mat}{K l c r i:Nat}(hR:Rect N K l) (hi:i<K) (hr:r<K) (h:(decide ((i:Int)≠(r:Int)) && decide (((((cb N c r i).getD i []).getD c 0).toNat:Int)≠0))=false) :
    cb N c r i=cb N c r (i+1):=by
  by_cases e:i=r
  · exact pO (.inl e)
  · refine tS hR hi hr ?_
    rw [pn (by rw [hR.1]; exact hi)] at h
    have e1:decide ((i:Int)≠(r:Int))=true:=by simp; omega
    rw [e1,Bool.true_and,decide_eq_false_iff_not,Decidable.not_not] at h
    exact jc h
theorem C4 {M:Mat}{c r j:Nat}(hr:r<M.length) (hj:j<M.length) :
    ((M.set r (M.getD j [])).set j (M.getD r [])).set r (cq (((M.set r (M.getD j [])).set j (M.getD r [])).getD r []) (bY 1 (kS ((((M.set r (M.getD j [])).set j (M.getD r [])).getD r []).getD c 0))))=jB M c r j:=by
  have e:=Dy (m:=M) hr hj
  rw [tH] at e
  rw [e,ju]
  exact Ap
end Go.Wk
namespace Go.Wk
open Rp (sz own)
theorem Sep.resN {α:Type}[Rp α] {M w0 Δ F} {w w':World}{cs:List Value}{x:α}(h:Sep M w0 Δ F w) (e:Ext No w w') (hr:Res w w' cs x):∃ fp,Sep M w0 (Δ++[Wk.mine cs x fp]) F w'∧∀ b∈fp,w.heap.size≤b:=by
  obtain ⟨fp,h1,h2,h3⟩:=hr
  exact ⟨fp,h.add e (r:=Wk.mine cs x fp) h1 h2 h3,h3⟩
section
variable {P:Program}{n:Nat}{ops:Array Oper}{Q:Post}{S:World→Prop}{L:Env}{w w0 wr:World}{M M':Nat→Prop}{Δ F:List Rsc}{i:Nat}{d:Tmp}{ty:TypeId}{p:String}{af:Array Edge}{g:Option (Nat × Bool)}{rest:List (Nat × Bool)}{α:Type}[Rp α]
theorem d_S {l:List (Nat × Bool)}(h:S w→DL P n ops Q S l L w) (hl:l≠[]):DL P n ops Q S l L w:=fun hs a ha hS=>h (hS hl) hs a ha hS
theorem fQ {x y:Operand}{t e:TypeId}{z:Value}{bytes:Nat}{v:Value}{xs:List α}{fp:List Nat}{b2 c2:Nat}{T} {cs:List Value}{u:α}(ho:ops.toList[i]? = some ⟨some d,.call ⟨.builtin .append,#[x,y],#[t,t]⟩,ty,p,af,g⟩) (hw:Wn ops n L ⟨some d,.call ⟨.builtin .append,#[x,y],#[t,t]⟩,ty,p,af,g⟩) (hn:Nat.blt d n=true)
    (ht:P.underlying t=some (.slice e)) (hT:Ty P e z (sz α) bytes) (hz:z.cells.size=sz α) (hx:evL L x=some v) (hy:evL L y=some (.slice (some ⟨b2,0,none⟩) 1 c2))
    (H:Sep M w0 Δ F w) (q j:Nat) (hi:Δ[q]? = some (mine [v] xs fp)) (hj:Δ[j]? = some (box b2 (.cells cs.toArray T))) (hu:own true w cs u []) (h63:xs.length+1≤maxLen) (hb48:(xs.length+1)*bytes≤140737488355328)
    (hf:∀ b∈fp,wr.heap.size≤b)
    (k:∀ v' w' fp',(∀ b∈fp',b∈fp∨w.heap.size≤b)→Sep M w0 (Δ.set q (mine [v'] (xs++[u]) fp')) F w'→DL P n ops Q (Ext M' wr) rest ((d,v')::L) w') :
    DL P n ops Q (Ext M' wr) ((i,false)::rest) L w:=by
  obtain ⟨v',w',fp',h1,h2,h3,h4,h5⟩:=gh (ty:=ty) ht hT hz (H.mine q hi) (ys:=[u]) (c2:=c2) (m:=1) (by rw [Rp.len hu]; simp) rfl (At.whole (H.box j hj)) (Rp.one hu) (.one hu) (by simp) (H.nodup1 hi) .nil (by simp) h63 hb48
  have h6:∀ b∈fp',b∈fp∨w.heap.size≤b:=fun b hb=>by rcases h4 b hb with h | h | h; exact .inl h; simp at h; exact .inr h
  exact nl ho hw rfl hn (lk hx hy h1) (fun h _=>h.step h3 fun b hb => .inr (hf b hb)) (k _ _ _ h6 (H.set hi (q:=Wk.mine [v'] (xs++[u]) fp') h3 h2 h5 h6))
theorem dT [Flat α] {x y:Operand}{t e:TypeId}{z:Value}{bytes:Nat}{v:Value}{xs ys:List α}{fp fy:List Nat}{s ad m c2} (ho:ops.toList[i]? = some ⟨some d,.call ⟨.builtin .append,#[x,y],#[t,t]⟩,ty,p,af,g⟩) (hw:Wn ops n L ⟨some d,.call ⟨.builtin .append,#[x,y],#[t,t]⟩,ty,p,af,g⟩) (hn:Nat.blt d n=true)
    (ht:P.underlying t=some (.slice e)) (hT:Ty P e z (sz α) bytes) (hz:z.cells.size=sz α) (hx:evL L x=some v) (hy:evL L y=some (.slice ad m c2))
    (H:Sep M w0 Δ F w) (q:Nat) (hi:Δ[q]? = some (mine [v] xs fp)) (hu:own s w [.slice ad m c2] ys fy) (h63:xs.length+ys.length≤maxLen) (hb48:(xs.length+ys.length)*bytes≤140737488355328)
    (hf:∀ b∈fp,wr.heap.size≤b)
    (k:∀ v' w' fp',(∀ b∈fp',b∈fp∨w.heap.size≤b)→Sep M w0 (Δ.set q (mine [v'] (xs++ys) fp')) F w'→DL P n ops Q (Ext M' wr) rest ((d,v')::L) w') :
    DL P n ops Q (Ext M' wr) ((i,false)::rest) L w:=by
  obtain ⟨v',w',fp',h1,h2,h3,h4,h5⟩:=kY (ty:=ty) ht hT hz (H.mine q hi) hu (H.nodup1 hi) h63 hb48
  exact nl ho hw rfl hn (lk hx hy h1) (fun h _=>h.step h3 fun b hb => .inr (hf b hb)) (k _ _ _ h4 (H.set hi (q:=Wk.mine [v'] (xs++ys) fp') h3 h2 h5 h4))
theorem zG {t:TypeId}{x y:Operand}{b off:Nat}{v:Value}{ad:Option Addr}{len cap:Nat}{xs:List α}{fp fu:List Nat}{u:α}(ho:ops.toList[i]? = some ⟨none,.store t x y,ty,p,af,g⟩) (hw:Wn ops n L ⟨none,.store t x y,ty,p,af,g⟩) (hs:∀ w,(sizeOf t).run P w = .ok (sz α) w) (h1:sz α=1)
    (H:Sep M w0 Δ F w) (l j:Nat) (hi:Δ[l]? = some (mine [.slice ad len cap] xs fp)) (hj:Δ[j]? = some (mine [v] u fu)) (hij:Nat.beq j l=false) (q:Nat) (hq:q<xs.length) (hx:evL L x=some (.pointer (some ⟨b,off+q*sz α,none⟩))) (had:ad=some ⟨b,off,none⟩) (hy:evL L y=some v)
    (k:∀ w' fp',Sep M w0 ((Δ.set j gone).set l (mine [.slice ad len cap] (xs.set q u) fp')) F w'→DL P n ops Q S [] L w') :
    DL P n ops Q S [(i,false)] L w:=by
  obtain ⟨b',o',cur,T,fp',e1,hb,hsz,hk⟩:=H.elset2 l j hi hj hij q hq
  rw [had] at e1
  simp only [Option.some.injEq,Addr.mk.injEq,and_true] at e1
  obtain ⟨rfl,rfl⟩:=e1
  exact Aj ho hw rfl (eB (by rw [h1] at hs; exact hs) hx hy (Rp.one (H.mine j hj) v (by simp)) hb (by omega)) (fun _ hr=>absurd rfl hr) (k _ fp' hk)
end
def augTo (m:Mat) (b:List UInt8) (k:Nat):Mat:=(List.range k).map fun i=>m.getD i []++[b.getD i 0]
def aug (m:Mat) (b:List UInt8):Mat:=augTo m b m.length
theorem go {m:Mat}{b k}:(augTo m b k).length=k:=by simp [augTo]
theorem ku {m:Mat}{b k}:augTo m b k++[m.getD k []++[b.getD k 0]]=augTo m b (k+1):=by simp [augTo,List.range_succ]
def augIn (m:Mat) (b:List UInt8) (k:Nat):Mat:=augTo m b k++List.replicate (m.length-k) []
theorem yI {m:Mat}{b}:augIn m b 0=List.replicate m.length []:=by simp [augIn,augTo]
theorem sv {m:Mat}{b}:augIn m b m.length=aug m b:=by simp [augIn,aug]
theorem o5 {m:Mat}{b k} (h:k≤m.length):(augIn m b k).length=m.length:=by simp [augIn,go]; omega
theorem tk {m:Mat}{b k} (h:k<m.length):(augIn m b k).set k (m.getD k []++[b.getD k 0])=augIn m b (k+1):=by
  rw [augIn,List.set_append_right _ _ (by rw [go]; exact Nat.le_refl _),go,Nat.sub_self,augIn,← ku]
  have:List.replicate (m.length-k) ([]:List UInt8)=[]::List.replicate (m.length-(k+1)) []:=by
    rw [show m.length-k=(m.length-(k+1))+1 by omega]; rfl
  rw [this,List.set_cons_zero]; simp
theorem vO {m:Mat}{b:List UInt8}{n:Nat}(h:Rect m n n):Rect (aug m b) n (n+1):=by
  obtain ⟨h1,h2⟩:=h
  refine ⟨by rw [aug,go]; exact h1,fun i hi=>?_⟩
  have:(aug m b).getD i []=m.getD i []++[b.getD i 0]:=by simp [aug,augTo,List.getD,h1,hi]
  rw [this,List.length_append,h2 i hi]; rfl
def md (m:Mat) (c k:Nat):List UInt8:=(List.range k).map fun i=>entry m i c
theorem sJ {m:Mat}{c k}:(md m c k).length=k:=by simp [md]
theorem qx {m:Mat}{c k}:md m c k++[(m.getD k []).getD c 0]=md m c (k+1):=by simp [md,List.range_succ,entry]
def of (m:Mat) (b:List UInt8):Bool:=decide (m.length≤(redM (aug m b) m.length).2)
def qw (m:Mat) (b:List UInt8):List UInt8:=if of m b=true then md (redM (aug m b) m.length).1 m.length m.length else []
theorem Bx {m:Mat}{b} (h:(redM (aug m b) m.length).2<m.length):of m b=false∧qw m b=[]:=by
  have:of m b=false:=by rw [of,decide_eq_false (by omega)]
  exact ⟨this,by rw [qw,this]; rfl⟩
theorem uk {m:Mat}{b} (h:¬ (redM (aug m b) m.length).2<m.length):of m b=true∧qw m b=md (redM (aug m b) m.length).1 m.length m.length:=by
  have:of m b=true:=by rw [of,decide_eq_true (by omega)]
  exact ⟨this,by rw [qw,if_pos this]⟩
end Go.Wk
namespace Go.Wk
open Rp (sz own)
def hole {β:Type}[Rp β] (b o k:Nat) (cur:Array Value) (T:TypeId) (ad:Option Addr) (n cap:Nat) (xss:List (List β)) (f1 f2:List Nat):Rsc:=
  ⟨b::(f1++f2),fun w=>w.heap[b]? = some (.cells cur T (0,0))∧(∀ x∈b::(f1++f2),x<w.heap.size) ∧
    ∀ w' cur' x' fk',w'.heap[b]? = some (.cells cur' T (0,0))→cur'.size=cur.size→(∀ j,j<o+k∨o+(k+1)≤j→cur'[j]? = cur[j]?)→(∀ b∈f1,w'.heap[b]? = w.heap[b]?)→(∀ b∈f2,w'.heap[b]? = w.heap[b]?) →
        own true w' ((cur'.toList.drop (o+k)).take 1) x' fk'→own true w' [.slice ad n cap] (xss.set k x') (b::(f1++(fk'++f2))),
   fun h e=>⟨(e b (by simp)).trans h.1,fun x hx=>by
      have h1:=h.2.1 x hx
      have h2:=e x hx
      rw [Array.getElem?_eq_getElem h1] at h2
      exact (Array.getElem?_eq_some_iff.1 h2).1,fun w' cur' x' fk' h1 h2 h3 h4 h5 h6=>h.2.2 w' cur' x' fk' h1 h2 h3 (fun b hb=>(h4 b hb).trans (e b (by simp [hb]))) (fun b hb=>(h5 b hb).trans (e b (by simp [hb]))) h6⟩,
   fun h=>h.2.1⟩
def reord (r:Rsc) (fp:List Nat) (h:∀ b,b∈fp↔b∈r.fp):Rsc:=⟨fp,r.φ,fun a e=>r.st a fun b hb=>e b ((h b).2 hb),fun a b hb=>r.lt a b ((h b).1 hb)⟩
section
variable {M:Nat→Prop}{w0 w w':World}{Δ F:List Rsc}{β:Type}[Rp β]
theorem rO {a b:Rsc}{t:List Rsc}:∀ {Δ:List Rsc}{i:Nat},i<Δ.length→(Δ.set i a++b::t).Perm (Δ.set i b++a::t)
  | [],_,h=>by simp at h
  | x::Δ,0,_=>by
    show (a::(Δ++b::t)).Perm (b::(Δ++a::t))
    exact (List.perm_middle.cons a).trans ((List.Perm.swap _ _ _).trans (List.perm_middle.symm.cons b))
  | x::Δ,i+1,h=>(rO (Δ:=Δ) (i:=i) (by simpa using h)).cons x
theorem Sep.unhook (h:Sep M w0 Δ F w) (i:Nat) {ad n cap} {xss:List (List β)}{fp} (hi:Δ[i]? = some (Wk.mine [.slice ad n cap] xss fp)) (k:Nat) (hk:k<xss.length) :
    ∃ b o cur T f1 f2 fk a c,ad=some ⟨b,o,none⟩∧o+k<cur.size∧w.cell? ⟨b,o+k*1,none⟩=some (.slice a (xss.getD k []).length c)∧b ∉ fk∧Sep M w0 (Δ.set i (hole b o k cur T ad n cap xss f1 f2)++[Wk.mine [.slice a (xss.getD k []).length c] (xss.getD k []) fk]) F w:=by
  have hnd:=h.nodup1 hi
  obtain ⟨b,o,cur,T,f1,fk,f2,e1,e2,hb,hsz,hx,hback⟩:=nP (h.mine i hi) k hk
  have hs1:sz (List β)=1:=rfl
  rw [hs1,Nat.mul_one] at hsz hx
  have hlt:=Rp.lt (h.mine i hi)
  change fp.Nodup at hnd
  subst e2
  have hnd0:=hnd
  obtain ⟨n1,n2⟩:=List.nodup_cons.1 hnd
  rw [List.nodup_append,List.nodup_append] at n2
  obtain ⟨d1,⟨d2,d3,d4⟩,d5⟩:=n2
  have hmem:∀ x,x∈(b::(f1++f2))++fk↔x∈b::(f1++(fk++f2)):=fun x=>by
    simp only [List.cons_append,List.mem_cons,List.mem_append]
    constructor
    · rintro (h | (h | h) | h)
      · exact .inl h
      · exact .inr (.inl h)
      · exact .inr (.inr (.inr h))
      · exact .inr (.inr (.inl h))
    · rintro (h | h | h | h)
      · exact .inl h
      · exact .inr (.inl (.inl h))
      · exact .inr (.inr h)
      · exact .inr (.inl (.inr h))
  have H1:=h.set hi (q:=reord (Wk.mine [.slice ad n cap] xss (b::(f1++(fk++f2)))) ((b::(f1++f2))++fk) hmem) Ext.refl (h.mine i hi)
    (by
      change ((b::(f1++f2))++fk).Nodup
      refine List.nodup_append.2 ⟨List.nodup_cons.2 ⟨fun hm=>n1 (by rcases List.mem_append.1 hm with hm | hm<;>simp [hm]),List.nodup_append.2 ⟨d1,d3,fun p hp q hq e=>d5 p hp q (by simp [hq]) e⟩⟩,d2,fun p hp q hq e=>?_⟩
      subst e
      rcases List.mem_cons.1 hp with rfl | hp
      · exact n1 (by simp [hq])
      · rcases List.mem_append.1 hp with hp | hp
        · exact d5 p hp p (by simp [hq]) rfl
        · exact d4 p hq p hp rfl)
    (fun x hx => .inl ((hmem x).1 hx))
  have hsz1:((cur.toList.drop (o+k)).take 1).length=1:=by
    have e:cur.toList.length=cur.size:=by simp
    rw [List.length_take,List.length_drop]; omega
  obtain ⟨v,ev⟩:=List.length_eq_one_iff.1 hsz1
  have hx2:=hx
  rw [ev] at hx2
  obtain ⟨a,c,e3⟩:=aB hx2
  have ek:xss.getD k []=xss[k]:=by simp [List.getD,hk]
  have hcell:cur[o+k]? = some v:=by
    have:(cur.toList.drop (o+k))[0]? = some v:=by
      have:((cur.toList.drop (o+k)).take 1)[0]? = some v:=by rw [ev]; rfl
      simpa [List.getElem?_take] using this
    simpa using this
  rw [e3] at hx2
  have hil:i<Δ.length:=(List.getElem?_eq_some_iff.1 hi).1
  refine ⟨b,o,cur,T,f1,f2,fk,a,c,e1,by omega,?_,fun hm=>n1 (by simp [hm]),?_⟩
  · rw [Nat.mul_one,ek,← (List.cons.inj e3).1]
    exact jd hb hcell
  · have H2:=H1.part i (r:=reord (Wk.mine [.slice ad n cap] xss (b::(f1++(fk++f2)))) ((b::(f1++f2))++fk) hmem) (by rw [List.getElem?_set_self hil]) [hole b o k cur T ad n cap xss f1 f2,Wk.mine [.slice a (xss.getD k []).length c] (xss.getD k []) fk] ?_ ?_
    · rw [List.set_set] at H2
      exact (H2.perm (rO hil)).sub ((List.Sublist.refl _).append (.cons _ (.refl _)))
    · refine ae ⟨hb,fun x hx=>hlt x ((hmem x).1 (by simp only [List.mem_append]; exact .inl hx)),fun w' cur' x' fk' q1 q2 q3 q4 q5 q6=>hback w' cur' x' fk' q1 q2 (fun j hj=>q3 j (by rw [hs1] at hj; omega)) q4 q5 (by rw [hs1,Nat.mul_one]; exact q6)⟩ (ae ?_ (by simp))
      rw [ek]; exact hx2
    · simp [blocks,hole,Wk.mine,reord]
theorem Sep.hook (h:Sep M w0 Δ F w) (i j:Nat) {b o k cur T ad n cap} {xss:List (List β)}{f1 f2 v fk} {x:List β}(hi:Δ[i]? = some (hole b o k cur T ad n cap xss f1 f2)) (hj:Δ[j]? = some (Wk.mine [v] x fk)) (hij:Nat.beq j i=false) (hk:o+k<cur.size) :
    Sep M w0 ((Δ.set j gone).set i (Wk.mine [.slice ad n cap] (xss.set k x) (b::(f1++(fk++f2))))) F (Wk.put w b (.cells (cur.setIfInBounds (o+k) v) T (0,0))):=by
  have hne:j≠i:=fun e=>by subst e; simp at hij
  obtain ⟨hb,hlt,hback⟩:(hole b o k cur T ad n cap xss f1 f2).φ w:=h.rs _ (List.mem_of_getElem? hi)
  have hx:=h.mine j hj
  have hnd:=h.nodup1 hi
  change (b::(f1++f2)).Nodup at hnd
  have hnk:=h.nodup1 hj
  change fk.Nodup at hnk
  have hap:∀ x∈fk,x ∉ b::(f1++f2):=fun x hx hm=>h.apart (i:=i) (j:=j) hi hj hij x hx hm
  obtain ⟨n1,n2⟩:=List.nodup_cons.1 hnd
  obtain ⟨d1,d2,d3⟩:=List.nodup_append.1 n2
  have hE:Ext (· = b) w (Wk.put w b (.cells (cur.setIfInBounds (o+k) v) T (0,0))):=Ext.refl.put (.inl rfl)
  have hbk:b ∉ fk:=fun hm=>hap b hm (by simp)
  refine h.set2 hi hj hij (q:=Wk.mine [.slice ad n cap] (xss.set k x) (b::(f1++(fk++f2)))) (hE.mono fun b' _ e=>by subst e; simp [hole]) ?_ ?_ ?_
  · refine hback _ _ x fk (gE hb) (by simp) (fun j hj=>Array.getElem?_setIfInBounds_ne (by omega)) (fun b' hb'=>hE.block b' (hlt b' (by simp [hb'])) fun e=>?_) (fun b' hb'=>hE.block b' (hlt b' (by simp [hb'])) fun e=>?_) ?_
    · subst e; exact n1 (by simp [hb'])
    · subst e; exact n1 (by simp [hb'])
    · have e:((cur.setIfInBounds (o+k) v).toList.drop (o+k)).take 1=[v]:=by
        have:=qS [v] cur (o+k) (by show o+k+1≤cur.size; omega)
        exact this
      rw [e]
      exact Rp.st hx fun b' hb'=>hE.block b' (Rp.lt hx b' hb') fun e=>by subst e; exact hbk hb'
  · change (b::(f1++(fk++f2))).Nodup
    refine List.nodup_cons.2 ⟨fun hm=>?_,List.nodup_append.2 ⟨d1,List.nodup_append.2 ⟨hnk,d2,fun p hp q hq e=>?_⟩,fun p hp q hq e=>?_⟩⟩
    · simp only [List.mem_append,not_or] at hm n1
      rcases hm with hm | hm | hm
      · exact n1.1 hm
      · exact hbk hm
      · exact n1.2 hm
    · subst e; exact hap p hp (by simp [hq])
    · subst e
      rcases List.mem_append.1 hq with hq | hq
      · exact hap p hq (by simp [hp])
      · exact d3 p hp p hq rfl
  · intro x hx
    change x∈b::(f1++(fk++f2)) at hx
    simp only [List.mem_cons,List.mem_append] at hx
    rcases hx with h | h | h | h
    · exact .inl (by simp [hole,h])
    · exact .inl (by simp [hole,h])
    · exact .inr (.inl h)
    · exact .inl (by simp [hole,h])
end
section
variable {P:Program}{n:Nat}{ops:Array Oper}{Q:Post}{L:Env}{w w0:World}{M:Nat→Prop}{Δ F:List Rsc}{d:Tmp}{ty:TypeId}{p:String}{af:Array Edge}{g:Option (Nat × Bool)}{β:Type}[Rp β]
theorem EF {rest:List Oper}{t:TypeId}{x y:Operand}{b o k:Nat}{cur T} {ad:Option Addr}{len cap:Nat}{xss:List (List β)}{f1 f2 fk:List Nat}{v:Value}{z:List β}(hw:Wn ops n L ⟨none,.store t x y,ty,p,af,g⟩) (hs:∀ w,(sizeOf t).run P w = .ok 1 w)
    (H:Sep M w0 Δ F w) (i j:Nat) (hi:Δ[i]? = some (hole b o k cur T ad len cap xss f1 f2)) (hj:Δ[j]? = some (mine [v] z fk)) (hij:Nat.beq j i=false) (hk:o+k<cur.size)
    (hx:evL L x=some (.pointer (some ⟨b,o+k*1,none⟩))) (hy:evL L y=some v)
    (kk:∀ w' fp',Sep M w0 ((Δ.set j gone).set i (mine [.slice ad len cap] (xss.set k z) fp')) F w'→RL P n ops Q rest L w') :
    RL P n ops Q (⟨none,.store t x y,ty,p,af,g⟩::rest) L w:=by
  obtain ⟨hb,_,_⟩:(hole b o k cur T ad len cap xss f1 f2).φ w:=H.rs _ (List.mem_of_getElem? hi)
  rw [Nat.mul_one] at hx
  exact tP hw rfl (eB hs hx hy (Rp.one (H.mine j hj) v (by simp)) hb hk) (kk _ _ (H.hook i j hi hj hij hk))
theorem Eh {S:World→Prop}{l:Nat}{t:TypeId}{x y:Operand}{b o k:Nat}{cur T} {ad:Option Addr}{len cap:Nat}{xss:List (List β)}{f1 f2 fk:List Nat}{v:Value}{z:List β}(ho:ops.toList[l]? = some ⟨none,.store t x y,ty,p,af,g⟩) (hw:Wn ops n L ⟨none,.store t x y,ty,p,af,g⟩) (hs:∀ w,(sizeOf t).run P w = .ok 1 w)
    (H:Sep M w0 Δ F w) (i j:Nat) (hi:Δ[i]? = some (hole b o k cur T ad len cap xss f1 f2)) (hj:Δ[j]? = some (mine [v] z fk)) (hij:Nat.beq j i=false) (hk:o+k<cur.size)
    (hx:evL L x=some (.pointer (some ⟨b,o+k*1,none⟩))) (hy:evL L y=some v)
    (kk:∀ w' fp',Sep M w0 ((Δ.set j gone).set i (mine [.slice ad len cap] (xss.set k z) fp')) F w'→DL P n ops Q S [] L w') :
    DL P n ops Q S [(l,false)] L w:=by
  obtain ⟨hb,_,_⟩:(hole b o k cur T ad len cap xss f1 f2).φ w:=H.rs _ (List.mem_of_getElem? hi)
  rw [Nat.mul_one] at hx
  exact Aj ho hw rfl (eB hs hx hy (Rp.one (H.mine j hj) v (by simp)) hb hk) (fun _ hr=>absurd rfl hr) (kk _ _ (H.hook i j hi hj hij hk))
end
def trF (g:Nat→List UInt8) (n j i:Nat):Mat:=(List.range n).map fun x=>(List.range (if x<i then j+1 else j)).map fun t=>(g t).getD x 0
theorem qk {g n j i}:(trF g n j i).length=n:=by simp [trF]
theorem qg {g n j i x} (h:x<n):(trF g n j i).getD x []=(List.range (if x<i then j+1 else j)).map fun t=>(g t).getD x 0:=by simp [trF,List.getD,h]
theorem vf {g n}:trF g n 0 0=List.replicate n []:=by
  refine List.ext_getElem (by simp [trF]) fun i h1 h2=>?_
  simp [trF]
theorem uP {g n j i} (h:i<n):(trF g n j i).set i ((trF g n j i).getD i []++[(g j).getD i 0])=trF g n j (i+1):=by
  refine List.ext_getElem (by simp [trF]) fun x h1 h2=>?_
  rw [List.getElem_set]
  simp only [trF,List.getElem_map,List.getElem_range]
  by_cases e:i=x
  · subst e
    have e:=qg (g:=g) (j:=j) (i:=i) h
    rw [if_neg (by omega)] at e
    rw [if_pos rfl,if_pos (by omega),List.range_succ,List.map_append]
    exact congrArg (· ++ _) e
  · rw [if_neg e]
    by_cases h3:x<i
    · rw [if_pos h3,if_pos (by omega)]
    · rw [if_neg h3,if_neg (by omega)]
theorem vm {g n j}:trF g n j n=trF g n (j+1) 0:=by
  refine List.ext_getElem (by simp [trF]) fun x h1 h2=>?_
  have:x<n:=by simpa [trF] using h1
  simp [trF,this]
theorem BF {g n m}:Rect (trF g n m 0) n m:=⟨qk,fun i hi=>by rw [qg hi]; simp⟩
def hv (n:Nat) (have_:List Int) (base:Int) (t:Nat):List UInt8:=ki n (have_.getD t 0) base
def pB (n:Nat) (have_:List Int) (base:Int):Mat:=trF (hv n have_ base) n n 0
def betw (n:Nat) (have_:List Int) (want base:Int):List UInt8:=qw (pB n have_ base) (ki n want base)
theorem pc {n h b}:(pB n h b).length=n:=qk
theorem rC {n h b}:Rect (pB n h b) (pB n h b).length (pB n h b).length:=by rw [pc]; exact BF
end Go.Wk
namespace Go.Wk
theorem wou {n:Nat}{ops:Array Oper}{L:Env}{o:Oper}{j t b} (h:o.guard=some (j,b)) (hd:fM ops j=some t) (hb:look L t=some undef):Wo ops n L o:=fun a hg=>by
  have hy:yielded ops a.tmps j=none:=by
    have h:=hg.cov t _ hb
    have hd':(ops[j]?).bind (·.dst)=some t:=by simpa [fM] using hd
    simp only [yielded,hd',Option.bind_some]
    simp only [Array.getD_eq_getD_getElem?] at h
    cases ht:a.tmps[t]? with
    | none=>rfl
    | some v=>rw [ht] at h; simp at h; subst h; rfl
  simp [Region.wanted,h,hy]
def eX (xs:List Int) (m:Int) (i:Nat):Bool:=decide (0≤xs.getD i 0) && decide (xs.getD i 0≤m) && (decide (i=0) || decide (xs.getD (i-1) 0<xs.getD i 0))
def rises (xs:List Int) (m:Int):Bool:=(List.range xs.length).all (eX xs m)
theorem oN {xs m} (h:∀ i,i<xs.length→eX xs m i=true):rises xs m=true:=by
  rw [rises,List.all_eq_true]
  exact fun i hi=>h i (by simpa using hi)
theorem nL {xs m} (i:Nat) (hi:i<xs.length) (h:eX xs m i=false):rises xs m=false:=by
  cases hr:rises xs m with
  | false=>rfl
  | true=>
    rw [rises,List.all_eq_true] at hr
    rw [hr i (by simpa using hi)] at h
    cases h
theorem sD {xs m} (h:rises xs m=true) (i:Nat) (hi:i<xs.length):0≤xs.getD i 0∧xs.getD i 0≤m:=by
  rw [rises,List.all_eq_true] at h
  have:=h i (by simpa using hi)
  simp only [eX,Bool.and_eq_true,decide_eq_true_eq] at this
  exact this.1
end Go.Wk
namespace Go.Wk
open Rp (sz own)
theorem zX {s w cs} {x:Shape}{fp} (h:own s w cs x fp):cs=[.int .i64 x.Groups,.int .i64 x.Column,.int .i64 x.Data,.int .i64 x.Spare,.int .i64 x.Rows,.int .i64 x.Cap,.int .i64 x.Batch,.int .i64 x.Queue,.int .i64 x.Stage]∧fp=[]∧x.Ok:=by
  obtain ⟨_,_,_,_,rfl,e0,h0,k0⟩:=bQ h
  obtain ⟨rfl,rfl,i0⟩:=cV h0
  obtain ⟨_,_,_,_,rfl,e1,h1,k1⟩:=bQ k0
  obtain ⟨rfl,rfl,i1⟩:=cV h1
  obtain ⟨_,_,_,_,rfl,e2,h2,k2⟩:=bQ k1
  obtain ⟨rfl,rfl,i2⟩:=cV h2
  obtain ⟨_,_,_,_,rfl,e3,h3,k3⟩:=bQ k2
  obtain ⟨rfl,rfl,i3⟩:=cV h3
  obtain ⟨_,_,_,_,rfl,e4,h4,k4⟩:=bQ k3
  obtain ⟨rfl,rfl,i4⟩:=cV h4
  obtain ⟨_,_,_,_,rfl,e5,h5,k5⟩:=bQ k4
  obtain ⟨rfl,rfl,i5⟩:=cV h5
  obtain ⟨_,_,_,_,rfl,e6,h6,k6⟩:=bQ k5
  obtain ⟨rfl,rfl,i6⟩:=cV h6
  obtain ⟨_,_,_,_,rfl,e7,h7,k7⟩:=bQ k6
  obtain ⟨rfl,rfl,i7⟩:=cV h7
  obtain ⟨rfl,rfl,i8⟩:=cV k7
  exact ⟨rfl,by subst_vars; simp,⟨i0,i1,i2,i3,i4,i5,i6,i7,i8⟩⟩
theorem Shape.own_mk {s:Bool}{w:World}{x:Shape}(ok:x.Ok):own s w [.int .i64 x.Groups,.int .i64 x.Column,.int .i64 x.Data,.int .i64 x.Spare,.int .i64 x.Rows,.int .i64 x.Cap,.int .i64 x.Batch,.int .i64 x.Queue,.int .i64 x.Stage] x ([]):=by
  obtain ⟨i0,i1,i2,i3,i4,i5,i6,i7,i8⟩:=ok
  have h:own s w _ (x.Groups,x.Column,x.Data,x.Spare,x.Rows,x.Cap,x.Batch,x.Queue,x.Stage) _:=(cn (dh i0) (cn (dh i1) (cn (dh i2) (cn (dh i3) (cn (dh i4) (cn (dh i5) (cn (dh i6) (cn (dh i7) (dh i8)))))))))
  refine iB h ?_
  simp
theorem uS {w:World}:own true w [.int .i64 0,.int .i64 0,.string ⟨#[]⟩,.int .i64 0,.int .i64 0,.int .i64 0,.slice none 0 0,.slice none 0 0,.slice none 0 0] (default:Rec) []:=iB (Rec.own_mk (s:=true) (x:=(default:Rec)) ⟨(show I64ok 0 by unfold I64ok; omega),(show I64ok 0 by unfold I64ok; omega),(show (0:Nat)≤maxLen from Nat.zero_le _),(show I64ok 0 by unfold I64ok; omega),(show I64ok 0 by unfold I64ok; omega),(show I64ok 0 by unfold I64ok; omega)⟩ (.inr (.inl ⟨rfl,rfl,rfl⟩)) (.inr (.inl ⟨rfl,rfl,rfl⟩)) (.inr (.inl ⟨rfl,rfl,rfl⟩))) (by first | rfl | simp)
structure Block where
  Stamp:Int
  Bytes:List UInt8
instance:Rp Block:=Rp.via fun x=>(x.Stamp,x.Bytes)
noncomputable instance:DecidableEq Block:=fun _ _=>Classical.propDecidable _
instance:Inhabited Block:=⟨⟨0,[]⟩⟩
def Block.val (x:Block) (A1:Option Addr) (C1:Nat):Value := .agg #[.int .i64 x.Stamp,.slice A1 x.Bytes.length C1]
def Block.Ok (x:Block):Prop:=I64ok x.Stamp
theorem eP {s w cs} {x:Block}{fp} (h:own s w cs x fp):∃ (A1:Option Addr) (C1:Nat) (f1:List Nat) ,cs=[.int .i64 x.Stamp,.slice A1 x.Bytes.length C1]∧fp=f1∧x.Ok∧own s w [.slice A1 x.Bytes.length C1] x.Bytes f1:=by
  obtain ⟨_,_,_,_,rfl,e0,h0,k0⟩:=bQ h
  obtain ⟨rfl,rfl,i0⟩:=cV h0
  obtain ⟨A1,C1,rfl⟩:=aB k0
  exact ⟨A1,C1,_,rfl,by subst_vars; simp,i0,k0⟩
theorem Block.own_mk {s:Bool}{w:World}{x:Block}{A1:Option Addr}{C1:Nat}{f1:List Nat}(ok:x.Ok) (o1:own s w [.slice A1 x.Bytes.length C1] x.Bytes f1):own s w [.int .i64 x.Stamp,.slice A1 x.Bytes.length C1] x (f1):=by
  have i0:=ok
  have h:own s w _ (x.Stamp,x.Bytes) _:=(cn (dh i0) o1)
  refine iB h ?_
  simp
theorem Block.out {w0 w:World}{F:List Rsc}{x:Block}{A1:Option Addr}{C1:Nat}{f1:List Nat}(h:Sep No w0 [mine [.slice A1 x.Bytes.length C1] x.Bytes f1] F w) (ok:x.Ok):Res w0 w [.int .i64 x.Stamp,.slice A1 x.Bytes.length C1] x:=
  ⟨_,Block.own_mk ok (h.mine 0 rfl),by have:=h.nd; simpa [blocks,mine] using this,fun b hb=>(h.new b (by simpa [blocks,mine] using hb)).resolve_left id⟩
theorem y0 {w:World}:own true w [.int .i64 0,.slice none 0 0] (default:Block) []:=iB (Block.own_mk (s:=true) (x:=(default:Block)) (show I64ok 0 by unfold I64ok; omega) (.inr (.inl ⟨rfl,rfl,rfl⟩))) (by first | rfl | simp)
structure Drive where
  Wiped:Bool
  Blocks:List Block
instance:Rp Drive:=Rp.via fun x=>(x.Wiped,x.Blocks)
noncomputable instance:DecidableEq Drive:=fun _ _=>Classical.propDecidable _
instance:Inhabited Drive:=⟨⟨false,[]⟩⟩
def Drive.val (x:Drive) (A1:Option Addr) (C1:Nat):Value := .agg #[.bool x.Wiped,.slice A1 x.Blocks.length C1]
def Drive.Ok (x:Drive):Prop:=True
theorem dG {s w cs} {x:Drive}{fp} (h:own s w cs x fp):∃ (A1:Option Addr) (C1:Nat) (f1:List Nat) ,cs=[.bool x.Wiped,.slice A1 x.Blocks.length C1]∧fp=f1∧x.Ok∧own s w [.slice A1 x.Blocks.length C1] x.Blocks f1:=by
  obtain ⟨_,_,_,_,rfl,e0,h0,k0⟩:=bQ h
  obtain ⟨rfl,rfl⟩:=h0
  obtain ⟨A1,C1,rfl⟩:=aB k0
  exact ⟨A1,C1,_,rfl,by subst_vars; simp,trivial,k0⟩
theorem Drive.own_mk {s:Bool}{w:World}{x:Drive}{A1:Option Addr}{C1:Nat}{f1:List Nat}(ok:x.Ok) (o1:own s w [.slice A1 x.Blocks.length C1] x.Blocks f1):own s w [.bool x.Wiped,.slice A1 x.Blocks.length C1] x (f1):=by
  have h:own s w _ (x.Wiped,x.Blocks) _:=(cn tZ o1)
  refine iB h ?_
  simp
theorem Drive.out {w0 w:World}{F:List Rsc}{x:Drive}{A1:Option Addr}{C1:Nat}{f1:List Nat}(h:Sep No w0 [mine [.slice A1 x.Blocks.length C1] x.Blocks f1] F w) (ok:x.Ok):Res w0 w [.bool x.Wiped,.slice A1 x.Blocks.length C1] x:=
  ⟨_,Drive.own_mk ok (h.mine 0 rfl),by have:=h.nd; simpa [blocks,mine] using this,fun b hb=>(h.new b (by simpa [blocks,mine] using hb)).resolve_left id⟩
theorem xe {w:World}:own true w [.bool false,.slice none 0 0] (default:Drive) []:=iB (Drive.own_mk (s:=true) (x:=(default:Drive)) trivial (.inr (.inl ⟨rfl,rfl,rfl⟩))) (by first | rfl | simp)
structure Tape where
  Wiped:Bool
  Recs:List Rec
instance:Rp Tape:=Rp.via fun x=>(x.Wiped,x.Recs)
noncomputable instance:DecidableEq Tape:=fun _ _=>Classical.propDecidable _
instance:Inhabited Tape:=⟨⟨false,[]⟩⟩
def Tape.val (x:Tape) (A1:Option Addr) (C1:Nat):Value := .agg #[.bool x.Wiped,.slice A1 x.Recs.length C1]
def Tape.Ok (x:Tape):Prop:=True
theorem cv {s w cs} {x:Tape}{fp} (h:own s w cs x fp):∃ (A1:Option Addr) (C1:Nat) (f1:List Nat) ,cs=[.bool x.Wiped,.slice A1 x.Recs.length C1]∧fp=f1∧x.Ok∧own s w [.slice A1 x.Recs.length C1] x.Recs f1:=by
  obtain ⟨_,_,_,_,rfl,e0,h0,k0⟩:=bQ h
  obtain ⟨rfl,rfl⟩:=h0
  obtain ⟨A1,C1,rfl⟩:=aB k0
  exact ⟨A1,C1,_,rfl,by subst_vars; simp,trivial,k0⟩
theorem Tape.own_mk {s:Bool}{w:World}{x:Tape}{A1:Option Addr}{C1:Nat}{f1:List Nat}(ok:x.Ok) (o1:own s w [.slice A1 x.Recs.length C1] x.Recs f1):own s w [.bool x.Wiped,.slice A1 x.Recs.length C1] x (f1):=by
  have h:own s w _ (x.Wiped,x.Recs) _:=(cn tZ o1)
  refine iB h ?_
  simp
theorem Tape.out {w0 w:World}{F:List Rsc}{x:Tape}{A1:Option Addr}{C1:Nat}{f1:List Nat}(h:Sep No w0 [mine [.slice A1 x.Recs.length C1] x.Recs f1] F w) (ok:x.Ok):Res w0 w [.bool x.Wiped,.slice A1 x.Recs.length C1] x:=
  ⟨_,Tape.own_mk ok (h.mine 0 rfl),by have:=h.nd; simpa [blocks,mine] using this,fun b hb=>(h.new b (by simpa [blocks,mine] using hb)).resolve_left id⟩
theorem Bh {w:World}:own true w [.bool false,.slice none 0 0] (default:Tape) []:=iB (Tape.own_mk (s:=true) (x:=(default:Tape)) trivial (.inr (.inl ⟨rfl,rfl,rfl⟩))) (by first | rfl | simp)
structure Wld where
  Shape:Shape
  Groups:List (List Drive)
  On:List Int
  Tapes:List Tape
  Writes:Int
  Stop:Int
  Down:Bool
instance:Rp Wld:=Rp.via fun x=>(x.Shape,x.Groups,x.On,x.Tapes,x.Writes,x.Stop,x.Down)
noncomputable instance:DecidableEq Wld:=fun _ _=>Classical.propDecidable _
def Wld.val (x:Wld) (A9:Option Addr) (C9:Nat) (A10:Option Addr) (C10:Nat) (A11:Option Addr) (C11:Nat):Value := .agg #[.int .i64 x.Shape.Groups,.int .i64 x.Shape.Column,.int .i64 x.Shape.Data,.int .i64 x.Shape.Spare,.int .i64 x.Shape.Rows,.int .i64 x.Shape.Cap,.int .i64 x.Shape.Batch,.int .i64 x.Shape.Queue,.int .i64 x.Shape.Stage,.slice A9 x.Groups.length C9,.slice A10 x.On.length C10,.slice A11 x.Tapes.length C11,.int .i64 x.Writes,.int .i64 x.Stop,.bool x.Down]
def Wld.Ok (x:Wld):Prop:=x.Shape.Ok∧I64ok x.Writes∧I64ok x.Stop
theorem zx {s w cs} {x:Wld}{fp} (h:own s w cs x fp):∃ (A9:Option Addr) (C9:Nat) (A10:Option Addr) (C10:Nat) (A11:Option Addr) (C11:Nat) (f9:List Nat) (f10:List Nat) (f11:List Nat) ,cs=[.int .i64 x.Shape.Groups,.int .i64 x.Shape.Column,.int .i64 x.Shape.Data,.int .i64 x.Shape.Spare,.int .i64 x.Shape.Rows,.int .i64 x.Shape.Cap,.int .i64 x.Shape.Batch,.int .i64 x.Shape.Queue,.int .i64 x.Shape.Stage,.slice A9 x.Groups.length C9,.slice A10 x.On.length C10,.slice A11 x.Tapes.length C11,.int .i64 x.Writes,.int .i64 x.Stop,.bool x.Down]∧fp=f9++(f10++(f11))∧x.Ok∧own s w [.slice A9 x.Groups.length C9] x.Groups f9∧own s w [.slice A10 x.On.length C10] x.On f10∧own s w [.slice A11 x.Tapes.length C11] x.Tapes f11:=by
  obtain ⟨_,_,_,_,rfl,e0,h0,k0⟩:=bQ h
  obtain ⟨rfl,rfl,i0⟩:=zX h0
  obtain ⟨_,_,_,_,rfl,e1,h1,k1⟩:=bQ k0
  obtain ⟨A9,C9,rfl⟩:=aB h1
  obtain ⟨_,_,_,_,rfl,e2,h2,k2⟩:=bQ k1
  obtain ⟨A10,C10,rfl⟩:=aB h2
  obtain ⟨_,_,_,_,rfl,e3,h3,k3⟩:=bQ k2
  obtain ⟨A11,C11,rfl⟩:=aB h3
  obtain ⟨_,_,_,_,rfl,e4,h4,k4⟩:=bQ k3
  obtain ⟨rfl,rfl,i4⟩:=cV h4
  obtain ⟨_,_,_,_,rfl,e5,h5,k5⟩:=bQ k4
  obtain ⟨rfl,rfl,i5⟩:=cV h5
  obtain ⟨rfl,rfl⟩:=k5
  exact ⟨A9,C9,A10,C10,A11,C11,_,_,_,rfl,by subst_vars; simp,⟨i0,i4,i5⟩,h1,h2,h3⟩
theorem iG {s w A9 C9 A10 C10 A11 C11} {x:Wld}{fp} (h:own s w [.int .i64 x.Shape.Groups,.int .i64 x.Shape.Column,.int .i64 x.Shape.Data,.int .i64 x.Shape.Spare,.int .i64 x.Shape.Rows,.int .i64 x.Shape.Cap,.int .i64 x.Shape.Batch,.int .i64 x.Shape.Queue,.int .i64 x.Shape.Stage,.slice A9 x.Groups.length C9,.slice A10 x.On.length C10,.slice A11 x.Tapes.length C11,.int .i64 x.Writes,.int .i64 x.Stop,.bool x.Down] x fp):∃ (f9:List Nat) (f10:List Nat) (f11:List Nat),fp=f9++(f10++(f11))∧x.Ok∧own s w [.slice A9 x.Groups.length C9] x.Groups f9∧own s w [.slice A10 x.On.length C10] x.On f10∧own s w [.slice A11 x.Tapes.length C11] x.Tapes f11:=by
  obtain ⟨_,_,_,_,_,_,f9,f10,f11,e,ef,ok,o9,o10,o11⟩:=zx h
  simp only [List.cons.injEq,Value.slice.injEq,and_true,true_and] at e
  obtain ⟨⟨rfl,rfl⟩,⟨rfl,rfl⟩,⟨rfl,rfl⟩⟩:=e
  exact ⟨f9,f10,f11,ef,ok,o9,o10,o11⟩
theorem Wld.own_mk {s:Bool}{w:World}{x:Wld}{A9:Option Addr}{C9:Nat}{A10:Option Addr}{C10:Nat}{A11:Option Addr}{C11:Nat}{f9:List Nat}{f10:List Nat}{f11:List Nat}(ok:x.Ok) (o9:own s w [.slice A9 x.Groups.length C9] x.Groups f9) (o10:own s w [.slice A10 x.On.length C10] x.On f10) (o11:own s w [.slice A11 x.Tapes.length C11] x.Tapes f11):own s w [.int .i64 x.Shape.Groups,.int .i64 x.Shape.Column,.int .i64 x.Shape.Data,.int .i64 x.Shape.Spare,.int .i64 x.Shape.Rows,.int .i64 x.Shape.Cap,.int .i64 x.Shape.Batch,.int .i64 x.Shape.Queue,.int .i64 x.Shape.Stage,.slice A9 x.Groups.length C9,.slice A10 x.On.length C10,.slice A11 x.Tapes.length C11,.int .i64 x.Writes,.int .i64 x.Stop,.bool x.Down] x (f9++(f10++(f11))):=by
  obtain ⟨i0,i4,i5⟩:=ok
  have h:own s w _ (x.Shape,x.Groups,x.On,x.Tapes,x.Writes,x.Stop,x.Down) _:=(cn (Shape.own_mk (x:=x.Shape) i0) (cn o9 (cn o10 (cn o11 (cn (dh i4) (cn (dh i5) tZ))))))
  refine iB h ?_
  simp
theorem Wld.out {w0 w:World}{F:List Rsc}{x:Wld}{A9:Option Addr}{C9:Nat}{A10:Option Addr}{C10:Nat}{A11:Option Addr}{C11:Nat}{f9:List Nat}{f10:List Nat}{f11:List Nat}(h:Sep No w0 [mine [.slice A9 x.Groups.length C9] x.Groups f9,mine [.slice A10 x.On.length C10] x.On f10,mine [.slice A11 x.Tapes.length C11] x.Tapes f11] F w) (ok:x.Ok):Res w0 w [.int .i64 x.Shape.Groups,.int .i64 x.Shape.Column,.int .i64 x.Shape.Data,.int .i64 x.Shape.Spare,.int .i64 x.Shape.Rows,.int .i64 x.Shape.Cap,.int .i64 x.Shape.Batch,.int .i64 x.Shape.Queue,.int .i64 x.Shape.Stage,.slice A9 x.Groups.length C9,.slice A10 x.On.length C10,.slice A11 x.Tapes.length C11,.int .i64 x.Writes,.int .i64 x.Stop,.bool x.Down] x:=
  ⟨_,Wld.own_mk ok (h.mine 0 rfl) (h.mine 1 rfl) (h.mine 2 rfl),by have:=h.nd; simpa [blocks,mine] using this,fun b hb=>(h.new b (by simpa [blocks,mine] using hb)).resolve_left id⟩
theorem Wld.see9 {s:Bool}{w:World}{x:Wld}{A9:Option Addr}{C9:Nat}{A10:Option Addr}{C10:Nat}{A11:Option Addr}{C11:Nat}{fp:List Nat}(h:own s w [.int .i64 x.Shape.Groups,.int .i64 x.Shape.Column,.int .i64 x.Shape.Data,.int .i64 x.Shape.Spare,.int .i64 x.Shape.Rows,.int .i64 x.Shape.Cap,.int .i64 x.Shape.Batch,.int .i64 x.Shape.Queue,.int .i64 x.Shape.Stage,.slice A9 x.Groups.length C9,.slice A10 x.On.length C10,.slice A11 x.Tapes.length C11,.int .i64 x.Writes,.int .i64 x.Stop,.bool x.Down] x fp):Sees w [.slice A9 x.Groups.length C9] x.Groups:=by
  obtain ⟨_,_,_,_,_,o,_,_⟩:=iG h
  exact ⟨_,bu o⟩
theorem Wld.see10 {s:Bool}{w:World}{x:Wld}{A9:Option Addr}{C9:Nat}{A10:Option Addr}{C10:Nat}{A11:Option Addr}{C11:Nat}{fp:List Nat}(h:own s w [.int .i64 x.Shape.Groups,.int .i64 x.Shape.Column,.int .i64 x.Shape.Data,.int .i64 x.Shape.Spare,.int .i64 x.Shape.Rows,.int .i64 x.Shape.Cap,.int .i64 x.Shape.Batch,.int .i64 x.Shape.Queue,.int .i64 x.Shape.Stage,.slice A9 x.Groups.length C9,.slice A10 x.On.length C10,.slice A11 x.Tapes.length C11,.int .i64 x.Writes,.int .i64 x.Stop,.bool x.Down] x fp):Sees w [.slice A10 x.On.length C10] x.On:=by
  obtain ⟨_,_,_,_,_,_,o,_⟩:=iG h
  exact ⟨_,bu o⟩
theorem Wld.see11 {s:Bool}{w:World}{x:Wld}{A9:Option Addr}{C9:Nat}{A10:Option Addr}{C10:Nat}{A11:Option Addr}{C11:Nat}{fp:List Nat}(h:own s w [.int .i64 x.Shape.Groups,.int .i64 x.Shape.Column,.int .i64 x.Shape.Data,.int .i64 x.Shape.Spare,.int .i64 x.Shape.Rows,.int .i64 x.Shape.Cap,.int .i64 x.Shape.Batch,.int .i64 x.Shape.Queue,.int .i64 x.Shape.Stage,.slice A9 x.Groups.length C9,.slice A10 x.On.length C10,.slice A11 x.Tapes.length C11,.int .i64 x.Writes,.int .i64 x.Stop,.bool x.Down] x fp):Sees w [.slice A11 x.Tapes.length C11] x.Tapes:=by
  obtain ⟨_,_,_,_,_,_,_,o⟩:=iG h
  exact ⟨_,bu o⟩
theorem Wld.mutOut {w w':World}{fp:List Nat}{x:Wld}{A9:Option Addr}{C9:Nat}{A10:Option Addr}{C10:Nat}{A11:Option Addr}{C11:Nat}{y9:List (List Drive)}{y10:List Int}{y11:List Tape}{f9:List Nat}{f10:List Nat}{f11:List Nat}{F:List Rsc}(ok:x.Ok) (h:Sep (· ∈ fp) w [gone,mine [.slice A9 x.Groups.length C9] y9 f9,mine [.slice A10 x.On.length C10] y10 f10,mine [.slice A11 x.Tapes.length C11] y11 f11] F w') (l9:y9.length=x.Groups.length) (l10:y10.length=x.On.length) (l11:y11.length=x.Tapes.length):Mut w w' fp [.int .i64 x.Shape.Groups,.int .i64 x.Shape.Column,.int .i64 x.Shape.Data,.int .i64 x.Shape.Spare,.int .i64 x.Shape.Rows,.int .i64 x.Shape.Cap,.int .i64 x.Shape.Batch,.int .i64 x.Shape.Queue,.int .i64 x.Shape.Stage,.slice A9 x.Groups.length C9,.slice A10 x.On.length C10,.slice A11 x.Tapes.length C11,.int .i64 x.Writes,.int .i64 x.Stop,.bool x.Down] (⟨⟨x.Shape.Groups,x.Shape.Column,x.Shape.Data,x.Shape.Spare,x.Shape.Rows,x.Shape.Cap,x.Shape.Batch,x.Shape.Queue,x.Shape.Stage⟩,y9,y10,y11,x.Writes,x.Stop,x.Down⟩:Wld):=by
  have o9:=h.mine 1 rfl
  rw [← l9] at o9
  have o10:=h.mine 2 rfl
  rw [← l10] at o10
  have o11:=h.mine 3 rfl
  rw [← l11] at o11
  have hh:=Wld.own_mk (x:=(⟨⟨x.Shape.Groups,x.Shape.Column,x.Shape.Data,x.Shape.Spare,x.Shape.Rows,x.Shape.Cap,x.Shape.Batch,x.Shape.Queue,x.Shape.Stage⟩,y9,y10,y11,x.Writes,x.Stop,x.Down⟩:Wld)) ok o9 o10 o11
  dsimp only at hh
  rw [l9,l10,l11] at hh
  exact ⟨h.ext,_,hh,(by have:=h.nd; simpa [blocks,mine,gone] using this),fun b hb=>h.new b (by simpa [blocks,mine,gone] using hb)⟩
structure WldResult where
  Code:Int
  Wd:Wld
noncomputable instance:DecidableEq WldResult:=fun _ _=>Classical.propDecidable _
def WldResult.val (x:WldResult) (A10:Option Addr) (C10:Nat) (A11:Option Addr) (C11:Nat) (A12:Option Addr) (C12:Nat):Value := .agg #[.int .i64 x.Code,.int .i64 x.Wd.Shape.Groups,.int .i64 x.Wd.Shape.Column,.int .i64 x.Wd.Shape.Data,.int .i64 x.Wd.Shape.Spare,.int .i64 x.Wd.Shape.Rows,.int .i64 x.Wd.Shape.Cap,.int .i64 x.Wd.Shape.Batch,.int .i64 x.Wd.Shape.Queue,.int .i64 x.Wd.Shape.Stage,.slice A10 x.Wd.Groups.length C10,.slice A11 x.Wd.On.length C11,.slice A12 x.Wd.Tapes.length C12,.int .i64 x.Wd.Writes,.int .i64 x.Wd.Stop,.bool x.Wd.Down]
structure BlockResult where
  Code:Int
  Block:Block
noncomputable instance:DecidableEq BlockResult:=fun _ _=>Classical.propDecidable _
def BlockResult.val (x:BlockResult) (A2:Option Addr) (C2:Nat):Value := .agg #[.int .i64 x.Code,.int .i64 x.Block.Stamp,.slice A2 x.Block.Bytes.length C2]
structure IntResult where
  Code:Int
  Val:Int
noncomputable instance:DecidableEq IntResult:=fun _ _=>Classical.propDecidable _
def IntResult.val (x:IntResult):Value := .agg #[.int .i64 x.Code,.int .i64 x.Val]
structure IntsResult where
  Code:Int
  Lst:List Int
noncomputable instance:DecidableEq IntsResult:=fun _ _=>Classical.propDecidable _
def IntsResult.val (x:IntsResult) (A1:Option Addr) (C1:Nat):Value := .agg #[.int .i64 x.Code,.slice A1 x.Lst.length C1]
structure GroupsResult where
  Code:Int
  Groups:List Int
noncomputable instance:DecidableEq GroupsResult:=fun _ _=>Classical.propDecidable _
def GroupsResult.val (x:GroupsResult) (A1:Option Addr) (C1:Nat):Value := .agg #[.int .i64 x.Code,.slice A1 x.Groups.length C1]
structure RecsResult where
  Code:Int
  Recs:List Rec
noncomputable instance:DecidableEq RecsResult:=fun _ _=>Classical.propDecidable _
def RecsResult.val (x:RecsResult) (A1:Option Addr) (C1:Nat):Value := .agg #[.int .i64 x.Code,.slice A1 x.Recs.length C1]
structure ListsResult where
  Code:Int
  Lists:List (List UInt8)
noncomputable instance:DecidableEq ListsResult:=fun _ _=>Classical.propDecidable _
def ListsResult.val (x:ListsResult) (A1:Option Addr) (C1:Nat):Value := .agg #[.int .i64 x.Code,.slice A1 x.Lists.length C1]
end Go.Wk
namespace Go.Wk
open Rp (sz own)
theorem Sep.fbox {M:Nat→Prop}{w0 w:World}{Δ F:List Rsc}(h:Sep M w0 Δ F w) (j:Nat) {b:Nat}{o:Obj}(hj:F[j]? = some (Wk.box b o)):w.heap[b]? = some o:=h.fs _ (List.mem_of_getElem? hj)
theorem Sep.foff {M:Nat→Prop}{w0 w:World}{Δ F:List Rsc}(h:Sep M w0 Δ F w) (j:Nat) {b:Nat}{o:Obj}(hj:F[j]? = some (Wk.box b o)) (i:Nat) {r:Rsc}{fp:List Nat}(hi:Δ[i]? = some r) (hf:r.fp=fp):b ∉ fp:=fun hm=>
  h.ap _ (List.mem_of_getElem? hj) b (by simp [Wk.box]) (bx.2 ⟨r,List.mem_of_getElem? hi,hf ▸ hm⟩)
theorem bf {α:Type}[Rp α] [Inhabited α] {s w ad n cap} {xs:List α}{fp} (h:own s w [.slice ad n cap] xs fp) (k:Nat) (hk:k<xs.length) :
    ∃ b o cs f,ad=some ⟨b,o,none⟩∧At w b (o+k*sz α) cs∧own s w cs (xs.getD k default) f∧(∀ b∈f,b∈fp)∧b∈fp:=by
  obtain ⟨b,o,cs,f,h1,h2,h3,h4,h5⟩:=dq h k hk
  rw [show xs.getD k default=xs[k] from by simp [List.getD,hk]]
  exact ⟨b,o,cs,f,h1,h2,h3,h4,h5⟩
section
variable {P:Program}{n:Nat}{ops:Array Oper}{Q:Post}{L:Env}{ty:TypeId}{p:String}{af:Array Edge}{g:Option (Nat × Bool)}{M:Nat→Prop}{w0 w:World}{Δ F:List Rsc}{α:Type}[Rp α]
theorem og {rest:List Oper}{t:TypeId}{x y:Operand}{b off:Nat}{vs:List Value}{ad:Option Addr}{len cap:Nat}{xs:List α}{fp fu:List Nat}{u:α}(hw:Wn ops n L ⟨none,.store t x y,ty,p,af,g⟩) (hs:∀ w,(sizeOf t).run P w = .ok (sz α) w)
    (H:Sep M w0 Δ F w) (i j:Nat) (hi:Δ[i]? = some (mine [.slice ad len cap] xs fp)) (hj:Δ[j]? = some (mine vs u fu)) (hij:Nat.beq j i=false) (q:Nat) (hq:q<xs.length) (hx:evL L x=some (.pointer (some ⟨b,off+q*sz α,none⟩))) (had:ad=some ⟨b,off,none⟩) (hy:evL L y=some (.agg vs.toArray))
    (k:∀ w' fp',Sep M w0 ((Δ.set j gone).set i (mine [.slice ad len cap] (xs.set q u) fp')) F w'→RL P n ops Q rest L w') :
    RL P n ops Q (⟨none,.store t x y,ty,p,af,g⟩::rest) L w:=by
  obtain ⟨b',o',cur,T,fp',e1,hb,hsz,hk⟩:=H.elset2 i j hi hj hij q hq
  rw [had] at e1
  simp only [Option.some.injEq,Addr.mk.injEq,and_true] at e1
  obtain ⟨rfl,rfl⟩:=e1
  have hm:=H.mine j hj
  exact tP hw rfl (pf hs hx hy (Rp.len hm) (Rp.one hm) hb hsz) (k _ fp' hk)
end
def szL {α:Type}[Inhabited α] (f:α→Nat) (xs:List α):Nat:=xs.length+bP (fun i=>f (xs.getD i default)) xs.length
theorem fw {α:Type}[Inhabited α] {f:α→Nat}{xs:List α}:szL f xs=xs.length+bP (fun i=>f (xs.getD i default)) xs.length:=rfl
theorem ff {α:Type}[Inhabited α] {f:α→Nat}{xs:List α}{m:Nat}(h:szL f xs≤m) (k:Nat) (hk:k<xs.length):f (xs.getD k default)≤m∧xs.length≤m:=by
  have:bP (fun i=>f (xs.getD i default)) (k+1)≤bP (fun i=>f (xs.getD i default)) xs.length:=ie (by omega)
  have h2:bP (fun i=>f (xs.getD i default)) (k+1)=bP (fun i=>f (xs.getD i default)) k+f (xs.getD k default):=rfl
  unfold szL at h
  omega
def cx (x:Rec):Nat:=x.Name.size+x.Rows.length+x.Data.length+x.Delta.length
def cy (x:Block):Nat:=x.Bytes.length
def bw (x:Drive):Nat:=szL cy x.Blocks
def cQ (x:Tape):Nat:=szL cx x.Recs
def ga (x:Wld):Nat:=szL (szL bw) x.Groups+x.On.length+szL cQ x.Tapes
def mkL {α:Type}[Inhabited α] (f:α→Nat) (xs:List α):Nat:=bP (fun i=>f (xs.getD i default)) xs.length
def dr (x:Rec):Nat:=6+x.Rows.length+x.Data.length+x.Delta.length
def df (x:Block):Nat:=1+x.Bytes.length
def br (x:Drive):Nat:=1+mkL df x.Blocks
def dI (x:Tape):Nat:=1+mkL dr x.Recs
def li (x:Wld):Nat:=mkL (mkL br) x.Groups+x.On.length+mkL dI x.Tapes
theorem vS {α:Type}[Inhabited α] {f g:α→Nat}(h:∀ x,f x≤7+7*g x) {xs:List α}:mkL f xs≤7*szL g xs:=by
  have:∀ k,bP (fun i=>f (xs.getD i default)) k≤7*k+7*bP (fun i=>g (xs.getD i default)) k:=by
    intro k
    induction k with
    | zero=>exact Nat.le_refl _
    | succ k ih=>
      have:=h (xs.getD k default)
      simp only [bP]; omega
  have:=this xs.length
  unfold mkL szL; omega
theorem Br (x:Rec):dr x≤7+7*cx x:=by unfold dr cx; omega
theorem xD (x:Block):df x≤7+7*cy x:=by unfold df cy; omega
theorem xf (x:Drive):br x≤7+7*bw x:=by
  have:=vS xD (xs:=x.Blocks)
  unfold br bw; omega
theorem AT (x:Tape):dI x≤7+7*cQ x:=by
  have:=vS Br (xs:=x.Recs)
  unfold dI cQ; omega
theorem xN (x:List Drive):mkL br x≤7+7*szL bw x:=by
  have:=vS xf (xs:=x); omega
theorem Bl (x:Wld):li x≤7*ga x:=by
  have h1:=vS xN (xs:=x.Groups)
  have h2:=vS AT (xs:=x.Tapes)
  unfold li ga; omega
end Go.Wk
namespace Go.Wk
open Rp (sz own)
def apartAt (xs:List Int) (m:Int) (i:Nat):Bool:=ins (xs.getD i 0) 0 m && !decide (xs.getD i 0∈xs.take i)
def apartL (xs:List Int) (m:Int):Bool:=(List.range xs.length).all (apartAt xs m)
theorem ic {n:Nat}{p:Nat→Bool}(h:∀ i,i<n→p i=true):(List.range n).all p=true:=by
  rw [List.all_eq_true]; exact fun i hi=>h i (by simpa using hi)
theorem nn {n:Nat}{p:Nat→Bool}(h:(List.range n).all p=true) (i:Nat) (hi:i<n):p i=true:=by
  rw [List.all_eq_true] at h; exact h i (by simpa using hi)
theorem kp {n:Nat}{p:Nat→Bool}(i:Nat) (hi:i<n) (h:p i=false):(List.range n).all p=false:=by
  cases hr:(List.range n).all p with
  | false=>rfl
  | true=>rw [nn hr i hi] at h; cases h
def dp (s:Shape) (len:Int):Int:=(len-1).tdiv (s.Data*4)+1
def db (s:Shape) (len:Int):Int:=if len<1 then 6 else if 3*(s.Data*4)<len then 2 else 0
def dB (s:Shape) (r:Rec):Bool:=
  if r.Length = -1 then decide (r.Data.length=0) && decide (r.Rows.length=0)
  else decide (db s r.Length=0) && if 0<r.Data.length then decide ((r.Data.length:Int)=r.Length) && decide (r.Rows.length=0) else decide ((r.Rows.length:Int)=dp s r.Length) && apartL r.Rows (s.Rows-1)
def weightsOK (s:Shape) (r:Rec):Bool:=
  decide ((r.Delta.length:Int)=s.Groups+s.Column) && decide (((r.Delta.getD r.Group.toNat 0).toNat:Int)=0) && (List.range r.Rows.length).all fun i=>decide (¬ ((r.Delta.getD (r.Rows.getD i 0).toNat 0).toNat:Int)=0)
def dg (s:Shape) (r:Rec):Bool:=
  ins r.Group 0 (s.Groups+s.Column-1) && ins r.Row 0 (s.Rows-1) && rises r.Rows (s.Groups+s.Column-1) && decide ((r.Data.length:Int)=s.Data*4) && weightsOK s r
def fS (s:Shape) (r:Rec):Bool:=ins r.Group 0 (s.Groups-1) && ins r.Row 0 (s.Rows-1) && decide ((r.Data.length:Int)=s.Data*4) && decide ((r.Delta.length:Int)=s.Data*4)
def noName (r:Rec):Bool:=decide (r.Name=⟨#[]⟩)
def bareOK (r:Rec):Bool:=
  if r.Kind=1 then decide (r.Group=0) && decide (r.Row=0) && decide (r.Delta.length=0)
  else if r.Kind=2 then noName r && decide (r.Length=0) && decide (r.Rows.length=0)
  else if r.Kind=3 then noName r && decide (r.Length=0) && decide (r.Row=0) && decide (r.Rows.length=0) && decide (r.Data.length=0) && decide (r.Delta.length=0)
  else noName r && decide (r.Length=0)
def eq (s:Shape) (r:Rec):Int:=
  if r.Kind=1 then if aT r.Name≠0 then aT r.Name else if dB s r then 0 else 3
  else if r.Kind=2 then if fS s r then 0 else 3
  else if r.Kind=3 then if ins r.Group 0 (s.Groups+s.Column-1) then 0 else 3
  else if dg s r then 0 else 3
def recF (s:Shape) (r:Rec):Int:=
  if ins r.Kind 1 4 then if ins r.Seq 1 1000000000 then if eq s r≠0 then eq s r else if bareOK r then 0 else 1 else 3 else 5
def dn (b:Block):Bool:=ins b.Stamp 0 1000000000 && decide (b.Bytes.length=4)
def dz (s:Shape) (d:Drive):Bool:=decide ((d.Blocks.length:Int)=s.Rows) && (List.range d.Blocks.length).all fun i=>dn (d.Blocks.getD i default)
def fg (s:Shape) (g:List Drive):Bool:=decide ((g.length:Int)=s.Data+s.Spare) && (List.range g.length).all fun i=>dz s (g.getD i default)
def bR (w:Wld):Bool:=decide ((w.Groups.length:Int)=w.Shape.Groups+w.Shape.Column) && (List.range w.Groups.length).all fun i=>fg w.Shape (w.Groups.getD i [])
def rg (w:Wld):Bool:=apartL w.On (w.Shape.Groups+w.Shape.Column-1) && decide ((w.On.length:Int)≤w.Shape.Cap) && (decide (w.On.length=0) || !w.Down)
def dN (s:Shape) (rs:List Rec):Nat→Int
  | 0=>0
  | k+1=>if dN s rs k≠0 then dN s rs k else recF s (rs.getD k default)
def dw (s:Shape) (ts:List Tape):Nat→Int
  | 0=>0
  | k+1=>if dw s ts k≠0 then dw s ts k else dN s (ts.getD k default).Recs (ts.getD k default).Recs.length
def cw (t:Tape):Bool:=decide ((200:Int)<t.Recs.length)
def cN (t:Tape):Bool:=t.Wiped && decide ((0:Int)<t.Recs.length)
def eG (w:Wld):Int:=
  if w.Tapes.any cw then 2 else if dw w.Shape w.Tapes w.Tapes.length≠0 then dw w.Shape w.Tapes w.Tapes.length else if w.Tapes.any cN then 1 else 0
def eD (w:Wld):Int:=
  if w.Shape.fault≠0 then w.Shape.fault
  else if bR w && rg w && decide (w.Tapes.length=2) then if eG w≠0 then eG w else if ins w.Writes 0 1000000000 && ins w.Stop (-1) 1000000000 then 0 else 3
  else 1
end Go.Wk
namespace Go.Wk
open Rp (sz own)
section
variable {s:Shape}{len:Int}
theorem sx (hd:1≤s.Data∧s.Data≤3) (h:1≤len):3<(len-1).tdiv (s.Data*4)+1↔3*(s.Data*4)<len:=by
  rw [Int.tdiv_eq_ediv_of_nonneg (by omega)]
  have:s.Data=1∨s.Data=2∨s.Data=3:=by omega
  rcases this with e | e | e<;>rw [e]<;>omega
theorem sP (hd:1≤s.Data∧s.Data≤3) (h:1≤len):(len+s.Data*4-1).tdiv (s.Data*4)=dp s len:=by
  rw [dp,Int.tdiv_eq_ediv_of_nonneg (by omega),Int.tdiv_eq_ediv_of_nonneg (by omega)]
  have:s.Data=1∨s.Data=2∨s.Data=3:=by omega
  rcases this with e | e | e<;>rw [e]<;>omega
theorem vk (hd:1≤s.Data∧s.Data≤3) (h:1≤len):0≤(len-1).tdiv (s.Data*4)∧(len-1).tdiv (s.Data*4)<len:=by
  rw [Int.tdiv_eq_ediv_of_nonneg (by omega)]
  have:s.Data=1∨s.Data=2∨s.Data=3:=by omega
  rcases this with e | e | e<;>rw [e]<;>omega
def jJ (s:Shape) (len:Int):Int:=if db s len=0 then dp s len else 0
theorem vC (h:len<1):db s len=6∧jJ s len=0:=by
  have:db s len=6:=by rw [db,if_pos h]
  exact ⟨this,by rw [jJ,this]; rfl⟩
theorem tp (h:¬ len<1) (h2:3*(s.Data*4)<len):db s len=2∧jJ s len=0:=by
  have:db s len=2:=by rw [db,if_neg h,if_pos h2]
  exact ⟨this,by rw [jJ,this]; rfl⟩
theorem zp (h:¬ len<1) (h2:¬ 3*(s.Data*4)<len):db s len=0∧jJ s len=dp s len:=by
  have:db s len=0:=by rw [db,if_neg h,if_neg h2]
  exact ⟨this,by rw [jJ,if_pos this]⟩
theorem jy (h:db s len=0):1≤len∧¬ 3*(s.Data*4)<len:=by
  unfold db at h
  split at h
  · cases h
  · split at h
    · cases h
    · exact ⟨by omega,by omega⟩
end
theorem jF {n:Nat}{p:Nat→Bool}:(List.range (n+1)).all p=((List.range n).all p && p n):=by
  rw [List.range_succ,List.all_append]; simp
theorem dY {α:Type}{xs:List α}{i:Nat}:cut xs 0 i=xs.take i:=by simp [cut]
theorem mB {s:Shape}{rs:List Rec}{j:Nat}(h:dN s rs j≠0):∀ m,j≤m→dN s rs m=dN s rs j:=by
  intro m hm
  induction m with
  | zero=>rw [show j=0 by omega]
  | succ m ih=>
    by_cases e:j=m+1
    · rw [e]
    · have ih:=ih (by omega)
      rw [dN,if_pos (by rw [ih]; exact h),ih]
theorem iJ {s:Shape}{rs:List Rec}{j:Nat}(h:dN s rs j=0):dN s rs (j+1)=recF s (rs.getD j default):=by rw [dN,if_neg (by omega)]
theorem Be {s:Shape}{rs:List Rec}{j:Nat}(hj:j<rs.length) (h:dN s rs j=0) (hr:recF s (rs.getD j default)≠0):dN s rs rs.length=recF s (rs.getD j default):=by
  have e:=iJ h
  rw [mB (j:=j+1) (by rw [e]; exact hr) _ (by omega),e]
theorem mm {s:Shape}{ts:List Tape}{j:Nat}(h:dw s ts j≠0):∀ m,j≤m→dw s ts m=dw s ts j:=by
  intro m hm
  induction m with
  | zero=>rw [show j=0 by omega]
  | succ m ih=>
    by_cases e:j=m+1
    · rw [e]
    · have ih:=ih (by omega)
      rw [dw,if_pos (by rw [ih]; exact h),ih]
theorem iq {s:Shape}{ts:List Tape}{j:Nat}(h:dw s ts j=0):dw s ts (j+1)=dN s (ts.getD j default).Recs (ts.getD j default).Recs.length:=by rw [dw,if_neg (by omega)]
theorem Bb {s:Shape}{ts:List Tape}{j i:Nat}(hj:j<ts.length) (h:dw s ts j=0) (hi:i<(ts.getD j default).Recs.length) (h2:dN s (ts.getD j default).Recs i=0) (hr:recF s ((ts.getD j default).Recs.getD i default)≠0) :
    dw s ts ts.length=recF s ((ts.getD j default).Recs.getD i default):=by
  have e:=iq h
  rw [Be hi h2 hr] at e
  rw [mm (j:=j+1) (by rw [e]; exact hr) _ (by omega),e]
theorem ud {α:Type}[Inhabited α] {xs:List α}{p:α→Bool}(k:Nat) (hk:k<xs.length) (h:p (xs.getD k default)=true):xs.any p=true:=by
  rw [List.any_eq_true]
  exact ⟨xs[k],List.getElem_mem hk,by simpa [List.getD,hk] using h⟩
theorem qo {α:Type}[Inhabited α] {xs:List α}{p:α→Bool}(h:∀ i,i<xs.length→p (xs.getD i default)=false):xs.any p=false:=by
  rw [List.any_eq_false]
  intro x hx
  obtain ⟨i,hi,rfl⟩:=List.getElem_of_mem hx
  have:=h i hi
  simpa [List.getD,hi] using this
end Go.Wk
namespace Go.Wk
def upF (w:Wld):Int:=if eD w≠0 then eD w else if w.Down=true then 9 else 0
def ep (w:Wld) (g:Int):Int:=if ins g 0 (w.Shape.Groups+w.Shape.Column-1)=true then if g∈w.On then 0 else 8 else 3
theorem eN {w:Wld}(h:eD w=0):w.Shape.ok=true∧bR w=true∧rg w=true∧w.Tapes.length=2∧eG w=0:=by
  unfold eD at h
  split at h
  · rename_i h1; exact absurd h h1
  · rename_i h1
    have hs:=gx (s:=w.Shape) (by omega)
    split at h
    · rename_i h2
      simp only [Bool.and_eq_true,decide_eq_true_eq] at h2
      split at h
      · rename_i h3; exact absurd h h3
      · rename_i h3
        exact ⟨hs,h2.1.1,h2.1.2,h2.2,by omega⟩
    · cases h
theorem yS {w:Wld}(h:upF w=0):eD w=0∧w.Down=false:=by
  unfold upF at h
  split at h
  · rename_i h1; exact absurd h h1
  · split at h
    · cases h
    · rename_i h1 h2
      exact ⟨by omega,by simpa using h2⟩
theorem iP {w:Wld}(h:bR w=true):(w.Groups.length:Int)=w.Shape.Groups+w.Shape.Column∧∀ g,g<w.Groups.length→((w.Groups.getD g []).length:Int)=w.Shape.Data+w.Shape.Spare ∧
    ∀ d,d<(w.Groups.getD g []).length→((((w.Groups.getD g []).getD d default).Blocks.length:Int)=w.Shape.Rows) ∧
      ∀ i,i<((w.Groups.getD g []).getD d default).Blocks.length→dn (((w.Groups.getD g []).getD d default).Blocks.getD i default)=true:=by
  simp only [bR,Bool.and_eq_true,decide_eq_true_eq] at h
  refine ⟨h.1,fun g hg=>?_⟩
  have h2:=nn h.2 g hg
  simp only [fg,Bool.and_eq_true,decide_eq_true_eq] at h2
  refine ⟨h2.1,fun d hd=>?_⟩
  have h3:=nn h2.2 d hd
  simp only [dz,Bool.and_eq_true,decide_eq_true_eq] at h3
  exact ⟨h3.1,fun i hi=>nn h3.2 i hi⟩
theorem vD {b:Block}(h:dn b=true):0≤b.Stamp∧b.Stamp≤1000000000∧b.Bytes.length=4:=by
  simp only [dn,Bool.and_eq_true,bM,decide_eq_true_eq] at h
  exact ⟨h.1.1,h.1.2,h.2⟩
end Go.Wk
namespace Go.Wk
theorem eqB {a b:Bool}(h:a=b):some (Value.bool a)=some (Value.bool b):=by rw [h]
def pN (s:Shape) (r:Rec):Int:=if aT r.Name≠0 then aT r.Name else if dB s r=true then 0 else 3
theorem qG {s r} (h:aT r.Name≠0):pN s r=aT r.Name:=by rw [pN,if_pos h]
theorem lw {s r} (h:¬ aT r.Name≠0) (h2:dB s r=true):pN s r=0:=by rw [pN,if_neg h,if_pos h2]
theorem jt {s r} (h:¬ aT r.Name≠0) (h2:dB s r=false):pN s r=3:=by rw [pN,if_neg h,if_neg (by simp [h2])]
end Go.Wk
namespace Go.Wk
open Rp (sz own)
section
variable {P:Program}{n:Nat}{c:Code}{Q:Post}{L:Env}{w w0:World}{M:Nat→Prop}{Δ F:List Rsc}
theorem kr {L:Env}:∀ {A B:Env},sub L A→sub L B→sub L (A++B)
  | [],_,_,h=>h
  | _::_,_,h,k=>⟨h.1,kr h.2 k⟩
theorem bH {γ:Type}(H:Sep M w0 Δ F w) (E2:Env) (h2:sub L E2) (E:γ→Env) (I:γ→Prop) (μ:γ→Nat) (g0:γ) (hs:sub L (E g0)) (h0:I g0)
  (round:∀ g w,Sep M w0 Δ F w→I g→W P n c (again (fun g=>E g++E2) (fun g w'=>Sep M w0 Δ F w'∧I g) μ g Q) (E g++E2) w):W P n (.loop c) Q L w:=
 aM (fun g=>E g++E2) (fun g w'=>Sep M w0 Δ F w'∧I g) μ g0 (kr hs h2) ⟨H,h0⟩ fun g w h=>round g w h.1 h.2
theorem B9 {x y:Code}{γ:Type}(H:Sep M w0 Δ F w) (E2:Env) (h2:sub L E2) (E:γ→Env) (I:γ→Prop)
  (h:W P n x (meets (fun g=>E g++E2) (fun g w'=>Sep M w0 Δ F w'∧I g) Q) L w)
  (k:∀ g w',Sep M w0 Δ F w'→I g→W P n y Q (E g++E2) w'):W P n (.seq x y) Q L w:=
 B0 (fun g=>E g++E2) (fun g w'=>Sep M w0 Δ F w'∧I g) h fun g w' hI=>k g w' hI.1 hI.2
end
end Go.Wk
namespace Go.Wk
theorem zP {s:Shape}{r:Rec}{a b c d:Bool}(h1:r.Length ≠ -1) (h2:db s r.Length=0) (ea:a=decide ((r.Data.length:Int)=r.Length)) (eb:b=decide ((r.Rows.length:Int)=0))
    (ec:c=decide ((r.Data.length:Int)=0)) (ed:d=decide ((r.Rows.length:Int)=dp s r.Length)):(a && b || (c && d && apartL r.Rows (s.Rows-1)))=dB s r:=by
  subst ea; subst eb; subst ec; subst ed
  have hz:=jy h2
  rw [dB,if_neg h1,decide_eq_true h2,Bool.true_and]
  by_cases hd:0<r.Data.length
  · rw [if_pos hd,decide_eq_false (by omega:¬ ((r.Data.length:Int)=0))]
    simp
  · rw [if_neg hd,decide_eq_true (by omega:((r.Data.length:Int)=0)),decide_eq_false (by omega:¬ ((r.Data.length:Int)=r.Length))]
    simp
theorem re {s:Shape}{r:Rec}(h1:r.Length = -1):dB s r=(decide (r.Data.length=0) && decide (r.Rows.length=0)):=by rw [dB,if_pos h1]
theorem sn {s:Shape}{r:Rec}(h1:r.Length ≠ -1) (h2:db s r.Length≠0):dB s r=false:=by rw [dB,if_neg h1,decide_eq_false h2]; rfl
theorem sm {s:Shape}{len:Int}(h:db s len=0):jJ s len=dp s len:=by rw [jJ,if_pos h]
end Go.Wk
namespace Go.Wk
def jk (r:Rec):Bool:=noName r && decide (r.Length=0) && decide (r.Group=0) && decide (r.Row=0) && decide (r.Rows.length=0) && decide (r.Data.length=0) && decide (r.Delta.length=0)
def dP (r:Rec):Rec:=
  if r.Kind=1 then ⟨r.Kind,r.Seq,r.Name,r.Length,0,0,r.Rows,r.Data,[]⟩
  else if r.Kind=2 then ⟨r.Kind,r.Seq,⟨#[]⟩,0,r.Group,r.Row,[],r.Data,r.Delta⟩
  else if r.Kind=3 then ⟨r.Kind,r.Seq,⟨#[]⟩,0,r.Group,0,[],[],[]⟩
  else if r.Kind=4 then ⟨r.Kind,r.Seq,⟨#[]⟩,0,r.Group,r.Row,r.Rows,r.Data,r.Delta⟩
  else ⟨r.Kind,r.Seq,⟨#[]⟩,0,0,0,[],[],[]⟩
theorem rx {r:Rec}(hk:1≤r.Kind∧r.Kind≤4):decide (r=dP r)=bareOK r:=by
  obtain ⟨k,q,nm,ln,g,rw,rs,da,de⟩:=r
  have:k=1∨k=2∨k=3∨k=4:=by simp only at hk; omega
  rcases this with rfl | rfl | rfl | rfl<;>simp [dP,bareOK,noName,Bool.and_assoc]
theorem vJ {a b:Rec}:(decide (a.Kind=b.Kind) && (decide (a.Seq=b.Seq) && ((a.Name.toList == b.Name.toList) && (decide (a.Length=b.Length) && (decide (a.Group=b.Group) && (decide (a.Row=b.Row) && (decide (a.Rows=b.Rows) && (decide (a.Data=b.Data) && decide (a.Delta=b.Delta)))))))))=decide (a=b):=by
  obtain ⟨k,q,nm,ln,g,rw,rs,da,de⟩:=a
  obtain ⟨k2,q2,nm2,ln2,g2,rw2,rs2,da2,de2⟩:=b
  simp [ib]
theorem qm {s:Shape}{r:Rec}(h:¬ ((r.Delta.getD r.Group.toNat 0).toNat:Int)=0):weightsOK s r=false:=by rw [weightsOK,decide_eq_false h]; simp
theorem rR {s:Shape}{r:Rec}(k:Nat) (hk:k<r.Rows.length) (h:((r.Delta.getD (r.Rows.getD k 0).toNat 0).toNat:Int)=0):weightsOK s r=false:=by
  rw [weightsOK,kp k hk (by rw [decide_eq_false (by simpa using h)])]; simp
theorem tw {s:Shape}{r:Rec}(h:(r.Delta.length:Int)=s.Groups+s.Column) (h2:((r.Delta.getD r.Group.toNat 0).toNat:Int)=0) (h3:∀ i,i<r.Rows.length→¬ ((r.Delta.getD (r.Rows.getD i 0).toNat 0).toNat:Int)=0):weightsOK s r=true:=by
  rw [weightsOK,decide_eq_true h,decide_eq_true h2,ic fun i hi=>decide_eq_true (h3 i hi)]; rfl
theorem xP {s:Shape}{r:Rec}(h:¬ (r.Delta.length:Int)=s.Groups+s.Column):weightsOK s r=false:=by rw [weightsOK,decide_eq_false h]; rfl
end Go.Wk
namespace Go.Wk
theorem nc {s:Shape}{r:Rec}(h1:r.Length ≠ -1) (h2:db s r.Length=0):dB s r=if 0<r.Data.length then decide ((r.Data.length:Int)=r.Length) && decide (r.Rows.length=0) else decide ((r.Rows.length:Int)=dp s r.Length) && apartL r.Rows (s.Rows-1):=by
  rw [dB,if_neg h1,decide_eq_true h2,Bool.true_and]
end Go.Wk
namespace Go.Wk
theorem rS {α:Type}{d:α}{xs:List α}{p:α→Bool}(h:xs.any p=true):∃ i,i<xs.length∧p (xs.getD i d)=true:=by
  rw [List.any_eq_true] at h
  obtain ⟨x,hx,hp⟩:=h
  obtain ⟨i,hi,rfl⟩:=List.getElem_of_mem hx
  exact ⟨i,hi,by simpa [List.getD,hi] using hp⟩
theorem ut {α:Type}{d:α}{xs:List α}{p:α→Bool}(h:xs.any p=false) (i:Nat) (hi:i<xs.length):p (xs.getD i d)=false:=by
  rw [List.any_eq_false] at h
  have:=h xs[i] (List.getElem_mem hi)
  simpa [List.getD,hi] using this
theorem xd {s:Shape}{r:Rec}(h:r.Rows.any (fun k=>decide (((r.Delta.getD k.toNat 0).toNat:Int)=0))=true):weightsOK s r=false:=by
  obtain ⟨i,hi,h⟩:=rS (d:=0) h
  exact rR i hi (by simpa using h)
theorem uR {s:Shape}{r:Rec}(h:(r.Delta.length:Int)=s.Groups+s.Column) (h2:((r.Delta.getD r.Group.toNat 0).toNat:Int)=0) (h3:r.Rows.any (fun k=>decide (((r.Delta.getD k.toNat 0).toNat:Int)=0))=false):weightsOK s r=true:=
  tw h h2 fun i hi=>by simpa using ut (d:=0) h3 i hi
end Go.Wk
namespace Go.Wk
theorem CY {r:Rec}(h:r.Kind=1):dP r=⟨r.Kind,r.Seq,r.Name,r.Length,0,0,r.Rows,r.Data,[]⟩:=by rw [dP,if_pos h]
theorem Ds {r:Rec}(h:¬ r.Kind=1) (h2:r.Kind=2):dP r=⟨r.Kind,r.Seq,⟨#[]⟩,0,r.Group,r.Row,[],r.Data,r.Delta⟩:=by rw [dP,if_neg h,if_pos h2]
theorem Dm {r:Rec}(h:¬ r.Kind=1) (h2:¬ r.Kind=2) (h3:r.Kind=3):dP r=⟨r.Kind,r.Seq,⟨#[]⟩,0,r.Group,0,[],[],[]⟩:=by rw [dP,if_neg h,if_neg h2,if_pos h3]
theorem CW {r:Rec}(h:¬ r.Kind=1) (h2:¬ r.Kind=2) (h3:¬ r.Kind=3) (h4:r.Kind=4):dP r=⟨r.Kind,r.Seq,⟨#[]⟩,0,r.Group,r.Row,r.Rows,r.Data,r.Delta⟩:=by rw [dP,if_neg h,if_neg h2,if_neg h3,if_pos h4]
theorem DA {r:Rec}(h:¬ r.Kind=1) (h2:¬ r.Kind=2) (h3:¬ r.Kind=3) (h4:¬ r.Kind=4):dP r=⟨r.Kind,r.Seq,⟨#[]⟩,0,0,0,[],[],[]⟩:=by rw [dP,if_neg h,if_neg h2,if_neg h3,if_neg h4]
theorem Cg {r:Rec}(h:r.Ok):(dP r).Ok:=by
  unfold Rec.Ok I64ok at h ⊢
  unfold dP
  have:(⟨#[]⟩:ByteArray).size≤maxLen:=Nat.zero_le _
  split
  · simp only; omega
  · split
    · simp only; omega
    · split
      · simp only; omega
      · split
        · simp only; omega
        · simp only; omega
end Go.Wk
namespace Go.Wk
section
variable {s:Shape}{r:Rec}
theorem sH (h:ins r.Kind 1 4=false):recF s r=5:=by rw [recF,if_neg (by simp [h])]
theorem vQ (h:ins r.Kind 1 4=true) (h2:ins r.Seq 1 1000000000=false):recF s r=3:=by rw [recF,if_pos h,if_neg (by simp [h2])]
theorem dL (h:ins r.Kind 1 4=true) (h2:ins r.Seq 1 1000000000=true) (h3:eq s r≠0):recF s r=eq s r:=by rw [recF,if_pos h,if_pos h2,if_pos h3]
theorem jq (h:ins r.Kind 1 4=true) (h2:ins r.Seq 1 1000000000=true) (h3:eq s r=0) (h4:bareOK r=false):recF s r=1:=by rw [recF,if_pos h,if_pos h2,if_neg (by omega),if_neg (by simp [h4])]
theorem nU (h:ins r.Kind 1 4=true) (h2:ins r.Seq 1 1000000000=true) (h3:eq s r=0) (h4:bareOK r=true):recF s r=0:=by rw [recF,if_pos h,if_pos h2,if_neg (by omega),if_pos h4]
theorem im (h:r.Kind=1):eq s r=pN s r:=by rw [eq,if_pos h]; rfl
theorem dO (h:r.Kind=4):eq s r=if dg s r=true then 0 else 3:=by rw [eq,if_neg (by omega),if_neg (by omega),if_neg (by omega)]
theorem l5 (h:r.Kind=3) (h2:ins r.Group 0 (s.Groups+s.Column-1)=false):eq s r=3:=by rw [eq,if_neg (by omega),if_neg (by omega),if_pos h,if_neg (by simp [h2])]
theorem jf (h:r.Kind=3) (h2:ins r.Group 0 (s.Groups+s.Column-1)=true):eq s r=0:=by rw [eq,if_neg (by omega),if_neg (by omega),if_pos h,if_pos h2]
theorem cX (h:r.Kind=2) (h2:fS s r=false):eq s r=3:=by rw [eq,if_neg (by omega),if_pos h,if_neg (by simp [h2])]
theorem ji (h:r.Kind=2) (h2:fS s r=true):eq s r=0:=by rw [eq,if_neg (by omega),if_pos h,if_pos h2]
end
end Go.Wk
namespace Go.Wk
section
variable {P:Program}{n:Nat}{c:Code}{Q:Post}{L:Env}{w w0:World}{M:Nat→Prop}{Δ F:List Rsc}
theorem n5 {Δ:List Rsc}{i:Nat}{r:Rsc}(h:Δ[i]? = some r):Δ.set i r=Δ:=by
  apply List.ext_getElem?
  intro j
  rw [List.getElem?_set]
  split
  · rename_i e; subst e
    obtain ⟨hl,_⟩:=List.getElem?_eq_some_iff.1 h
    rw [if_pos hl,h]
  · rfl
theorem jM {α:Type}[Rp α] {γ:Type}{v0:Value}{fp0:List Nat}(f:γ→List α) (g0:γ) (H:Sep M w0 Δ F w) (i:Nat) (hi:Δ[i]? = some (mine [v0] (f g0) fp0)) (t:Nat) (ht:look L t=some v0)
  (E2:Env) (h2:sub L E2) (E:γ→Env) (I:γ→Prop) (μ:γ→Nat) (hs:sub L (E g0)) (h0:I g0)
  (round:∀ g v fp w,Sep M w0 (Δ.set i (mine [v] (f g) fp)) F w→I g→W P n c (again (fun x:γ × Value × List Nat=>(t,x.2.1)::(E x.1++E2)) (fun x w'=>Sep M w0 (Δ.set i (mine [x.2.1] (f x.1) x.2.2)) F w'∧I x.1) (fun x=>μ x.1) (g,v,fp) Q) ((t,v)::(E g++E2)) w):W P n (.loop c) Q L w:=
 aM (fun x:γ × Value × List Nat=>(t,x.2.1)::(E x.1++E2)) (fun x w'=>Sep M w0 (Δ.set i (mine [x.2.1] (f x.1) x.2.2)) F w'∧I x.1) (fun x=>μ x.1) (g0,v0,fp0) ⟨ht,kr hs h2⟩ ⟨by rw [n5 hi]; exact H,h0⟩ fun x w h=>round x.1 x.2.1 x.2.2 w h.1 h.2
end
end Go.Wk
namespace Go.Wk
open Rp (sz own)
section
variable {s:Shape}{r:Rec}
theorem BN (h:r.Ok):(⟨r.Kind,r.Seq,⟨#[]⟩,0,r.Group,r.Row,[],[],r.Delta⟩:Rec).Ok:=by
  unfold Rec.Ok I64ok at h ⊢
  have:(⟨#[]⟩:ByteArray).size≤maxLen:=Nat.zero_le _
  simp only; omega
theorem CL (h:r.Ok):(⟨r.Kind,r.Seq,r.Name,r.Length,0,0,r.Rows,[],[]⟩:Rec).Ok:=by
  unfold Rec.Ok I64ok at h ⊢
  simp only; omega
theorem BO (h:r.Ok):(⟨r.Kind,r.Seq,r.Name,r.Length,0,r.Row,r.Rows,r.Data,r.Delta⟩:Rec).Ok:=by
  unfold Rec.Ok I64ok at h ⊢
  simp only; omega
theorem B2 (h:r.Ok):(⟨r.Kind,r.Seq,r.Name,r.Length,0,0,[],[],[]⟩:Rec).Ok:=by
  unfold Rec.Ok I64ok at h ⊢
  simp only; omega
theorem q7 (h:r.Kind=1):jk ⟨r.Kind,r.Seq,⟨#[]⟩,0,r.Group,r.Row,[],[],r.Delta⟩=bareOK r:=by rw [bareOK,if_pos h]; simp [jk,noName]
theorem rE (h:r.Kind=2):jk ⟨r.Kind,r.Seq,r.Name,r.Length,0,0,r.Rows,[],[]⟩=bareOK r:=by rw [bareOK,if_neg (by omega),if_pos h]; simp [jk,noName]
theorem ro (h:r.Kind=3):jk ⟨r.Kind,r.Seq,r.Name,r.Length,0,r.Row,r.Rows,r.Data,r.Delta⟩=bareOK r:=by rw [bareOK,if_neg (by omega),if_neg (by omega),if_pos h]; simp [jk,noName,Bool.and_assoc]
theorem qY (h:r.Kind=4):jk ⟨r.Kind,r.Seq,r.Name,r.Length,0,0,[],[],[]⟩=bareOK r:=by rw [bareOK,if_neg (by omega),if_neg (by omega),if_neg (by omega)]; simp [jk,noName]
end
end Go.Wk
namespace Go.Wk
section
variable {z:Wld}{s:Shape}{g:List Drive}{d:Drive}
theorem yV {α:Type}[Inhabited α] {xs:List α}{p:α→Bool}(h:(xs.any fun b => !p b)=false):((List.range xs.length).all fun i=>p (xs.getD i default))=true:=
  ic fun i hi=>by simpa using ut (d:=default) h i hi
theorem qF {α:Type}[Inhabited α] {xs:List α}{p:α→Bool}(h:(xs.any fun b => !p b)=true):((List.range xs.length).all fun i=>p (xs.getD i default))=false:=by
  obtain ⟨i,hi,h⟩:=rS (d:=default) h
  exact kp i hi (by simpa using h)
theorem pv (h:¬ (d.Blocks.length:Int)=s.Rows):dz s d=false:=by rw [dz,decide_eq_false h]; rfl
theorem vv (h:(d.Blocks.any fun b => !dn b)=true):dz s d=false:=by rw [dz,qF h,Bool.and_false]
theorem vH (h:(d.Blocks.length:Int)=s.Rows) (h2:(d.Blocks.any fun b => !dn b)=false):dz s d=true:=by rw [dz,decide_eq_true h,yV h2]; rfl
theorem ve (h:(d.Blocks.length:Int)=s.Rows) (h2:∀ i,i<d.Blocks.length→dn (d.Blocks.getD i default)=true):dz s d=true:=by rw [dz,decide_eq_true h,ic h2]; rfl
theorem yJ (i:Nat) (hi:i<d.Blocks.length) (h2:dn (d.Blocks.getD i default)=false):dz s d=false:=by rw [dz,kp i hi h2,Bool.and_false]
theorem pG (h:¬ (g.length:Int)=s.Data+s.Spare):fg s g=false:=by rw [fg,decide_eq_false h]; rfl
theorem kb (k:Nat) (hk:k<g.length) (h:dz s (g.getD k default)=false):fg s g=false:=by rw [fg,kp k hk h,Bool.and_false]
theorem pJ (h:(g.length:Int)=s.Data+s.Spare) (h2:∀ i,i<g.length→dz s (g.getD i default)=true):fg s g=true:=by rw [fg,decide_eq_true h,ic h2]; rfl
theorem nf (h:¬ (z.Groups.length:Int)=z.Shape.Groups+z.Shape.Column):bR z=false:=by rw [bR,decide_eq_false h]; rfl
theorem fC (k:Nat) (hk:k<z.Groups.length) (h:fg z.Shape (z.Groups.getD k [])=false):bR z=false:=by rw [bR,kp k hk h,Bool.and_false]
theorem nu (h:(z.Groups.length:Int)=z.Shape.Groups+z.Shape.Column) (h2:∀ i,i<z.Groups.length→fg z.Shape (z.Groups.getD i [])=true):bR z=true:=by rw [bR,decide_eq_true h,ic h2]; rfl
end
end Go.Wk
namespace Go.Wk
section
variable {z:Wld}
theorem ry (h:(List.range z.On.length).all (apartAt z.On (z.Shape.Groups+z.Shape.Column-1))=false):rg z=false:=by rw [rg,apartL,h]; rfl
theorem pa (h:(List.range z.On.length).all (apartAt z.On (z.Shape.Groups+z.Shape.Column-1))=true) {b:Bool}(hb:b=(decide ((z.On.length:Int)≤z.Shape.Cap) && (decide (z.On.length=0) || !z.Down))):rg z=b:=by rw [rg,apartL,h,hb]; simp [Bool.and_assoc]
theorem gV (h:z.Tapes.any cw=true):eG z=2:=by rw [eG,if_pos h]
theorem mD (h:z.Tapes.any cw=false) {k k2:Nat}(hk:k<z.Tapes.length) (hkz:dw z.Shape z.Tapes k=0) (hk2:k2<(z.Tapes.getD k default).Recs.length) (h2:dN z.Shape (z.Tapes.getD k default).Recs k2=0)
    (hr:recF z.Shape ((z.Tapes.getD k default).Recs.getD k2 default)≠0):eG z=recF z.Shape ((z.Tapes.getD k default).Recs.getD k2 default):=by
  have e:=Bb hk hkz hk2 h2 hr
  rw [eG,if_neg (by simp [h]),if_pos (by rw [e]; exact hr),e]
theorem lj (h:z.Tapes.any cw=false) (h2:dw z.Shape z.Tapes z.Tapes.length=0) (h3:z.Tapes.any cN=true):eG z=1:=by rw [eG,if_neg (by simp [h]),if_neg (by omega),if_pos h3]
theorem oF (h:z.Tapes.any cw=false) (h2:dw z.Shape z.Tapes z.Tapes.length=0) (h3:z.Tapes.any cN=false):eG z=0:=by rw [eG,if_neg (by simp [h]),if_neg (by omega),if_neg (by simp [h3])]
end
end Go.Wk
namespace Go.Wk
section
variable {z:Wld}{b:Block}
theorem yG (h:(!ins b.Stamp 0 1000000000 || decide ((b.Bytes.length:Int)≠4))=true):dn b=false:=by
  rw [dn]
  simp only [Bool.or_eq_true,decide_eq_true_eq] at h
  rcases h with h | h
  · rw [cz h]; rfl
  · rw [decide_eq_false (by omega),Bool.and_false]
theorem uE (h:(!ins b.Stamp 0 1000000000 || decide ((b.Bytes.length:Int)≠4))=false):dn b=true:=by
  rw [Bool.or_eq_false_iff] at h
  have h2:=of_decide_eq_false h.2
  rw [dn,ay h.1,decide_eq_true (by omega)]; rfl
theorem p9 {α:Type}[Inhabited α] {xs:List α}{p:α→Bool}(h:xs.length=2) (h2:p (xs.getD 0 default)=true∨p (xs.getD 1 default)=true):xs.any p=true:=by
  rcases h2 with h2 | h2
  · exact ud 0 (by omega) h2
  · exact ud 1 (by omega) h2
theorem pH {α:Type}[Inhabited α] {xs:List α}{p:α→Bool}(h:xs.length=2) (h0:p (xs.getD 0 default)=false) (h1:p (xs.getD 1 default)=false):xs.any p=false:=
  qo fun i hi=>by
    have:i=0∨i=1:=by omega
    rcases this with rfl | rfl
    · exact h0
    · exact h1
theorem iX:(bR z && (apartL z.On (z.Shape.Groups+z.Shape.Column-1) && (decide ((z.On.length:Int)≤z.Shape.Cap) && ((decide (z.On.length=0) || !z.Down) && decide (z.Tapes.length=2)))))=(bR z && rg z && decide (z.Tapes.length=2)):=by
  rw [rg]; simp only [Bool.and_assoc]
end
end Go.Wk
namespace Go.Wk
theorem bW {w:World}{b o:Nat}{cs:List Value}(h:At w b o cs) (j:Nat) {v:Value}(hj:cs[j]? = some v):w.cell? ⟨b,o+j,none⟩=some v:=h j v hj
end Go.Wk
namespace Go.Wk
open Rp (sz own)
section
variable {z:Wld}{s:Shape}{g row d:Int}
theorem An (h:ins g 0 (z.Shape.Groups+z.Shape.Column-1)=false):ep z g=3:=by rw [ep,if_neg (by simp [h])]
theorem wu (h:ins g 0 (z.Shape.Groups+z.Shape.Column-1)=true) (h2:¬ g∈z.On):ep z g=8:=by rw [ep,if_pos h,if_neg h2]
theorem Al (h:ins g 0 (z.Shape.Groups+z.Shape.Column-1)=true) (h2:g∈z.On):ep z g=0:=by rw [ep,if_pos h,if_pos h2]
theorem vb (h:ep z g=0):ins g 0 (z.Shape.Groups+z.Shape.Column-1)=true∧g∈z.On:=by
  unfold ep at h
  split at h
  · rename_i h1
    split at h
    · rename_i h2; exact ⟨h1,h2⟩
    · cases h
  · cases h
end
end Go.Wk
namespace Go.Wk
section
variable {z:Wld}{s:Shape}{r:Rec}{g row d:Int}
theorem B4:0≤s.fault∧s.fault≤3:=by unfold Shape.fault; split<;>omega
theorem DO {b:ByteArray}:0≤aT b∧aT b≤5:=by unfold aT; split<;>omega
theorem Cr:0≤eq s r∧eq s r≤5:=by
  have:=DO (b:=r.Name)
  unfold eq
  repeat' split
  all_goals omega
theorem Dv:0≤recF s r∧recF s r≤5:=by
  have:=Cr (s:=s) (r:=r)
  unfold recF
  repeat' split
  all_goals omega
theorem u1 {rs:List Rec}:∀ k,0≤dN s rs k∧dN s rs k≤5
  | 0=>by simp [dN]
  | k+1=>by
    have h1:=u1 (rs:=rs) k
    have h2:=Dv (s:=s) (r:=rs.getD k default)
    rw [dN]
    split<;>omega
theorem uV {ts:List Tape}:∀ k,0≤dw s ts k∧dw s ts k≤5
  | 0=>by simp [dw]
  | k+1=>by
    have h1:=uV (ts:=ts) k
    have h2:=u1 (s:=s) (rs:=(ts.getD k default).Recs) (ts.getD k default).Recs.length
    rw [dw]
    split<;>omega
theorem Bf:0≤eG z∧eG z≤5:=by
  have:=uV (s:=z.Shape) (ts:=z.Tapes) z.Tapes.length
  unfold eG
  repeat' split
  all_goals omega
theorem Ba:0≤eD z∧eD z≤5:=by
  have h1:=B4 (s:=z.Shape)
  have h2:=Bf (z:=z)
  unfold eD
  repeat' split
  all_goals omega
theorem wy:0≤upF z∧upF z≤9:=by
  have h1:=Ba (z:=z)
  unfold upF
  repeat' split
  all_goals omega
end
end Go.Wk
namespace Go.Wk
open Rp (sz own)
def cat (r q:Rsc):Rsc:=⟨r.fp++q.fp,fun w=>r.φ w∧q.φ w,fun h k=>⟨r.st h.1 fun b hb=>k b (by simp [hb]),q.st h.2 fun b hb=>k b (by simp [hb])⟩,fun h b hb=>(List.mem_append.1 hb).elim (r.lt h.1 b) (q.lt h.2 b)⟩
section
variable {M:Nat→Prop}{w0 w w':World}{Δ F:List Rsc}
theorem Sep.join2 (h:Sep M w0 Δ F w) (i j:Nat) {r q:Rsc}(hi:Δ[i]? = some r) (hj:Δ[j]? = some q) (hij:Nat.beq j i=false):Sep M w0 ((Δ.set j gone).set i (cat r q)) F w:=
  h.set2 hi hj hij Ext.refl (q:=cat r q) ⟨h.r i hi,h.r j hj⟩ (List.nodup_append.2 ⟨h.nodup1 hi,h.nodup1 hj,fun a ha b hb e=>by subst e; exact h.apart hi hj hij a hb ha⟩)
    fun b hb=>(List.mem_append.1 hb).elim .inl fun h => .inr (.inl h)
theorem Sep.conv (h:Sep M w0 Δ F w) (i:Nat) {r:Rsc}(q:Rsc) (hi:Δ[i]? = some r) (hq:q.φ w) (hfp:∀ b∈q.fp,b∈r.fp) (hn:q.fp.Nodup):Sep M w0 (Δ.set i q) F w:=
  h.set hi Ext.refl hq hn fun b hb => .inl (hfp b hb)
theorem Sep.partLast {A:List Rsc}{r:Rsc}(h:Sep M w0 (A++[r]) F w) (rs:List Rsc) (hrs:∀ q∈rs,q.φ w) (hb:blocks rs=r.fp):Sep M w0 (A++gone::rs) F w:=by
  have H:=h.part A.length (r:=r) (by simp) rs hrs hb
  rw [show (A++[r]).set A.length gone=A++[gone] by simp] at H
  simpa using H
def hol {α:Type}[Rp α] (ad:Option Addr) (n cap:Nat) (xs:List α) (k b off:Nat) (T:TypeId) (ck:List Value) (f1 f2:List Nat):Rsc:=
  ⟨b::(f1++f2),fun w=>∃ cur:Array Value,w.heap[b]? = some (.cells cur T (0,0))∧off+sz α≤cur.size∧(cur.toList.drop off).take (sz α)=ck∧(∀ x∈b::(f1++f2),x<w.heap.size) ∧
    ∀ w' cur' x' fk',w'.heap[b]? = some (.cells cur' T (0,0))→cur'.size=cur.size→(∀ j,j<off∨off+sz α≤j→cur'[j]? = cur[j]?)→(∀ b∈f1,w'.heap[b]? = w.heap[b]?)→(∀ b∈f2,w'.heap[b]? = w.heap[b]?) →
        own true w' ((cur'.toList.drop off).take (sz α)) x' fk'→own true w' [.slice ad n cap] (xs.set k x') (b::(f1++(fk'++f2))),
   fun h e=>by
      obtain ⟨cur,h1,h2,h3,h4,h5⟩:=h
      refine ⟨cur,(e b (by simp)).trans h1,h2,h3,fun x hx=>?_,fun w' cur' x' fk' q1 q2 q3 q4 q5 q6=>h5 w' cur' x' fk' q1 q2 q3 (fun b hb=>(q4 b hb).trans (e b (by simp [hb]))) (fun b hb=>(q5 b hb).trans (e b (by simp [hb]))) q6⟩
      have h7:=h4 x hx
      have h8:=e x hx
      rw [Array.getElem?_eq_getElem h7] at h8
      exact (Array.getElem?_eq_some_iff.1 h8).1,
   fun h=>by obtain ⟨_,_,_,_,h,_⟩:=h; exact h⟩
variable {α:Type}[Rp α]
theorem Sep.focus {d:α}(h:Sep M w0 Δ F w) (i:Nat) {ad n cap} {xs:List α}{fp} (hi:Δ[i]? = some (Wk.mine [.slice ad n cap] xs fp)) (k:Nat) (hk:k<xs.length) :
    ∃ b o T ck f1 f2 fk,ad=some ⟨b,o,none⟩∧own true w ck (xs.getD k d) fk∧Sep M w0 (Δ.set i (hol ad n cap xs k b (o+k*sz α) T ck f1 f2)++[Wk.mine ck (xs.getD k d) fk]) F w:=by
  have hnd:=h.nodup1 hi
  obtain ⟨b,o,cur,T,f1,fk,f2,e1,e2,hb,hsz,hx,hback⟩:=nP (h.mine i hi) k hk
  have hlt:=Rp.lt (h.mine i hi)
  have hk1:(k+1)*sz α=k*sz α+sz α:=by rw [Nat.add_mul,Nat.one_mul]
  change fp.Nodup at hnd
  subst e2
  obtain ⟨n1,n2⟩:=List.nodup_cons.1 hnd
  rw [List.nodup_append,List.nodup_append] at n2
  obtain ⟨d1,⟨d2,d3,d4⟩,d5⟩:=n2
  have hmem:∀ x,x∈(b::(f1++f2))++fk↔x∈b::(f1++(fk++f2)):=fun x=>by
    simp only [List.cons_append,List.mem_cons,List.mem_append]
    constructor
    · rintro (h | (h | h) | h)
      · exact .inl h
      · exact .inr (.inl h)
      · exact .inr (.inr (.inr h))
      · exact .inr (.inr (.inl h))
    · rintro (h | h | h | h)
      · exact .inl h
      · exact .inr (.inl (.inl h))
      · exact .inr (.inr h)
      · exact .inr (.inl (.inr h))
  have H1:=h.set hi (q:=reord (Wk.mine [.slice ad n cap] xs (b::(f1++(fk++f2)))) ((b::(f1++f2))++fk) hmem) Ext.refl (h.mine i hi)
    (by
      change ((b::(f1++f2))++fk).Nodup
      refine List.nodup_append.2 ⟨List.nodup_cons.2 ⟨fun hm=>n1 (by rcases List.mem_append.1 hm with hm | hm<;>simp [hm]),List.nodup_append.2 ⟨d1,d3,fun p hp q hq e=>d5 p hp q (by simp [hq]) e⟩⟩,d2,fun p hp q hq e=>?_⟩
      subst e
      rcases List.mem_cons.1 hp with rfl | hp
      · exact n1 (by simp [hq])
      · rcases List.mem_append.1 hp with hp | hp
        · exact d5 p hp p (by simp [hq]) rfl
        · exact d4 p hq p hp rfl)
    (fun x hx => .inl ((hmem x).1 hx))
  have hil:i<Δ.length:=(List.getElem?_eq_some_iff.1 hi).1
  have ek:xs.getD k d=xs[k]:=by simp [List.getD,hk]
  refine ⟨b,o,T,_,f1,f2,fk,e1,by rw [ek]; exact hx,?_⟩
  have H2:=H1.part i (r:=reord (Wk.mine [.slice ad n cap] xs (b::(f1++(fk++f2)))) ((b::(f1++f2))++fk) hmem) (by rw [List.getElem?_set_self hil]) [hol ad n cap xs k b (o+k*sz α) T ((cur.toList.drop (o+k*sz α)).take (sz α)) f1 f2,Wk.mine ((cur.toList.drop (o+k*sz α)).take (sz α)) (xs.getD k d) fk] ?_ ?_
  · rw [List.set_set] at H2
    exact (H2.perm (rO hil)).sub ((List.Sublist.refl _).append (.cons _ (.refl _)))
  · refine ae ⟨cur,hb,hsz,rfl,fun x hx=>hlt x ((hmem x).1 (by simp only [List.mem_append]; exact .inl hx)),fun w' cur' x' fk' q1 q2 q3 q4 q5 q6=>hback w' cur' x' fk' q1 q2 (fun j hj=>q3 j (by rw [hk1] at hj; omega)) q4 q5 q6⟩ (ae ?_ (by simp))
    rw [ek]; exact hx
  · simp [blocks,hol,Wk.mine,reord]
variable {ad:Option Addr}{n cap k b off:Nat}{xs:List α}{T:TypeId}{ck:List Value}{f1 f2:List Nat}
theorem Sep.holAt (h:Sep M w0 Δ F w) (i:Nat) (hi:Δ[i]? = some (hol ad n cap xs k b off T ck f1 f2)):At w b off ck:=by
  obtain ⟨cur,h1,h2,h3,_⟩:=h.r i hi
  rw [← h3]
  exact rf h1 _
theorem Sep.hset (h:Sep M w0 Δ F w) (i:Nat) (hi:Δ[i]? = some (hol ad n cap xs k b off T ck f1 f2)) (j:Nat) (hj:j<ck.length) (v:Value) :
    ∃ cur:Array Value,w.heap[b]? = some (.cells cur T (0,0))∧off+j<cur.size∧Sep M w0 (Δ.set i (hol ad n cap xs k b off T (ck.set j v) f1 f2)) F (Wk.put w b (.cells (cur.setIfInBounds (off+j) v) T (0,0))):=by
  obtain ⟨cur,h1,h2,h3,h4,h5⟩:(hol ad n cap xs k b off T ck f1 f2).φ w:=h.r i hi
  have hnd:=h.nodup1 hi
  change (b::(f1++f2)).Nodup at hnd
  obtain ⟨n1,_⟩:=List.nodup_cons.1 hnd
  have hjs:j<sz α:=by
    have:=congrArg List.length h3
    rw [List.length_take,List.length_drop] at this; omega
  have hE:Ext (· = b) w (Wk.put w b (.cells (cur.setIfInBounds (off+j) v) T (0,0))):=Ext.refl.put (.inl rfl)
  refine ⟨cur,h1,by omega,h.set hi (q:=hol ad n cap xs k b off T (ck.set j v) f1 f2) (hE.mono fun b' _ e=>by subst e; simp [hol]) ?_ hnd (fun b hb => .inl hb)⟩
  refine ⟨cur.setIfInBounds (off+j) v,gE h1,by simpa using h2,?_,fun x hx=>by have:=h4 x hx; have:=hE.size; omega,fun w' cur' x' fk' q1 q2 q3 q4 q5 q6=>?_⟩
  · rw [Array.toList_setIfInBounds,List.drop_set,if_neg (by omega),List.take_set,h3,Nat.add_sub_cancel_left]
  · refine h5 w' cur' x' fk' q1 (by simpa using q2) (fun l hl=>?_) (fun b' hb'=>?_) (fun b' hb'=>?_) q6
    · rw [q3 l hl,Array.getElem?_setIfInBounds_ne (by omega)]
    · rw [q4 b' hb']; exact hE.block b' (h4 b' (by simp [hb'])) fun e=>n1 (by subst e; simp [hb'])
    · rw [q5 b' hb']; exact hE.block b' (h4 b' (by simp [hb'])) fun e=>n1 (by subst e; simp [hb'])
theorem Sep.fill (h:Sep M w0 Δ F w) (i j:Nat) {fk} {x:α}(hi:Δ[i]? = some (hol ad n cap xs k b off T ck f1 f2)) (hj:Δ[j]? = some (Wk.mine ck x fk)) (hij:Nat.beq j i=false) :
    ∃ fp',Sep M w0 ((Δ.set j gone).set i (Wk.mine [.slice ad n cap] (xs.set k x) fp')) F w:=by
  obtain ⟨cur,h1,h2,h3,h4,h5⟩:(hol ad n cap xs k b off T ck f1 f2).φ w:=h.r i hi
  have hx:=h.mine j hj
  have hnd:=h.nodup1 hi
  change (b::(f1++f2)).Nodup at hnd
  have hnk:=h.nodup1 hj
  change fk.Nodup at hnk
  have hap:∀ x∈fk,x ∉ b::(f1++f2):=fun x hx hm=>h.apart (i:=i) (j:=j) hi hj hij x hx hm
  obtain ⟨n1,n2⟩:=List.nodup_cons.1 hnd
  obtain ⟨d1,d2,d3⟩:=List.nodup_append.1 n2
  have hbk:b ∉ fk:=fun hm=>hap b hm (by simp)
  refine ⟨b::(f1++(fk++f2)),h.set2 hi hj hij (q:=Wk.mine [.slice ad n cap] (xs.set k x) (b::(f1++(fk++f2)))) Ext.refl ?_ ?_ ?_⟩
  · exact h5 w cur x fk h1 rfl (fun _ _=>rfl) (fun _ _=>rfl) (fun _ _=>rfl) (by rw [h3]; exact hx)
  · change (b::(f1++(fk++f2))).Nodup
    refine List.nodup_cons.2 ⟨fun hm=>?_,List.nodup_append.2 ⟨d1,List.nodup_append.2 ⟨hnk,d2,fun p hp q hq e=>?_⟩,fun p hp q hq e=>?_⟩⟩
    · simp only [List.mem_append,not_or] at hm n1
      rcases hm with hm | hm | hm
      · exact n1.1 hm
      · exact hbk hm
      · exact n1.2 hm
    · subst e; exact hap p hp (by simp [hq])
    · subst e
      rcases List.mem_append.1 hq with hq | hq
      · exact hap p hq (by simp [hp])
      · exact d3 p hp p hq rfl
  · intro x hx
    change x∈b::(f1++(fk++f2)) at hx
    simp only [List.mem_cons,List.mem_append] at hx
    rcases hx with h | h | h | h
    · exact .inl (by simp [hol,h])
    · exact .inl (by simp [hol,h])
    · exact .inr (.inl h)
    · exact .inl (by simp [hol,h])
theorem Sep.focusL {β:Type}[Rp β] (h:Sep M w0 Δ F w) (i:Nat) {ad n cap} {xs:List (List β)}{fp} (hi:Δ[i]? = some (Wk.mine [.slice ad n cap] xs fp)) (k:Nat) (hk:k<xs.length) :
    ∃ b o T f1 f2 a c fk,ad=some ⟨b,o,none⟩∧Sep M w0 (Δ.set i (hol ad n cap xs k b (o+k*1) T [.slice a (xs.getD k []).length c] f1 f2)++[Wk.mine [.slice a (xs.getD k []).length c] (xs.getD k []) fk]) F w:=by
  obtain ⟨b,o,T,ck,f1,f2,fk,e,hx,H⟩:=h.focus (d:=([]:List β)) i hi k hk
  obtain ⟨a,c,rfl⟩:=aB hx
  exact ⟨b,o,T,f1,f2,a,c,fk,e,H⟩
end
section
variable {P:Program}{n:Nat}{ops:Array Oper}{Q:Post}{L:Env}{w w0:World}{M:Nat→Prop}{Δ F:List Rsc}{d:Tmp}{ty:TypeId}{p:String}{af:Array Edge}{g:Option (Nat × Bool)}{α:Type}[Rp α]
theorem ks {rest:List Oper}{t:TypeId}{x y:Operand}{ad:Option Addr}{m cap k b off:Nat}{xs:List α}{T:TypeId}{ck:List Value}{f1 f2:List Nat}{v:Value}(hw:Wn ops n L ⟨none,.store t x y,ty,p,af,g⟩) (hs:∀ w,(sizeOf t).run P w = .ok 1 w)
    (H:Sep M w0 Δ F w) (i j:Nat) (hi:Δ[i]? = some (hol ad m cap xs k b off T ck f1 f2)) (hj:Nat.blt j ck.length=true) (hx:evL L x=some (.pointer (some ⟨b,off+j,none⟩))) (hy:evL L y=some v) (h1:v.oneCell'=true)
    (kk:∀ w',Sep M w0 (Δ.set i (hol ad m cap xs k b off T (ck.set j v) f1 f2)) F w'→RL P n ops Q rest L w'):RL P n ops Q (⟨none,.store t x y,ty,p,af,g⟩::rest) L w:=by
  obtain ⟨cur,hb,hlt,H'⟩:=H.hset i hi j (Nat.le_of_ble_eq_true hj) v
  exact tP hw rfl (eB hs hx hy h1 hb hlt) (kk _ H')
end
end Go.Wk

namespace Go.Wk
open Rp (sz own)
theorem Block.focus {M:Nat→Prop}{w0 w:World}{Δ F:List Rsc}(h:Sep M w0 Δ F w) (i:Nat) {ad n cap} {xs:List Block}{fp} (hi:Δ[i]? = some (mine [.slice ad n cap] xs fp)) (k:Nat) (hk:k<xs.length):∃ b o Ty f1 f2 A1 C1 g1,ad=some ⟨b,o,none⟩∧(xs.getD k default).Ok∧Sep M w0 (Δ.set i (hol ad n cap xs k b (o+k*sz Block) Ty [.int .i64 (xs.getD k default).Stamp,.slice A1 (xs.getD k default).Bytes.length C1] f1 f2)++[gone,mine [.slice A1 (xs.getD k default).Bytes.length C1] (xs.getD k default).Bytes g1]) F w:=by
  obtain ⟨b,o,Ty,ck,f1,f2,fk,e,hx,H⟩:=h.focus (d:=default) i hi k hk
  obtain ⟨A1,C1,g1,rfl,ef,ok,o1⟩:=eP hx
  have H2:=H.partLast [mine [.slice A1 (xs.getD k default).Bytes.length C1] (xs.getD k default).Bytes g1] (ae o1 (by simp)) (by simp [blocks,mine,ef])
  exact ⟨b,o,Ty,f1,f2,A1,C1,g1,e,ok,H2⟩
theorem Block.fill {M:Nat→Prop}{w0 w:World}{Δ F:List Rsc}(h:Sep M w0 Δ F w) (i j1:Nat) {ad n cap k b off Ty f1 f2} {xs:List Block}{s0:Int}{A1 C1 m1} {y1:List UInt8}{g1} (hi:Δ[i]? = some (hol ad n cap xs k b off Ty [.int .i64 s0,.slice A1 m1 C1] f1 f2)) (h1:Δ[j1]? = some (mine [.slice A1 m1 C1] y1 g1)) (d1:Nat.beq j1 i=false)  (ok:(⟨s0,y1⟩:Block).Ok):∃ fp',Sep M w0 ((Δ.set j1 gone).set i (mine [.slice ad n cap] (xs.set k (⟨s0,y1⟩:Block)) fp')) F w:=by
  have o1:=h.mine j1 h1
  obtain rfl:=eS o1
  have n1:j1≠i:=fun e=>by subst e; simp at d1
  have H:=h.conv j1 (mine [.int .i64 s0,.slice A1 y1.length C1] (⟨s0,y1⟩:Block) (g1)) h1 (Block.own_mk ok o1) (fun b hb=>hb) (show (mine [.slice A1 y1.length C1] y1 g1).fp.Nodup from h.nodup1 h1)
  obtain ⟨fp',H2⟩:=H.fill i j1 (by rw [List.getElem?_set_ne n1]; exact hi) (by rw [List.getElem?_set_self (List.getElem?_eq_some_iff.1 h1).1]) d1
  rw [List.set_set] at H2
  exact ⟨fp',H2⟩
theorem Drive.focus {M:Nat→Prop}{w0 w:World}{Δ F:List Rsc}(h:Sep M w0 Δ F w) (i:Nat) {ad n cap} {xs:List Drive}{fp} (hi:Δ[i]? = some (mine [.slice ad n cap] xs fp)) (k:Nat) (hk:k<xs.length):∃ b o Ty f1 f2 A1 C1 g1,ad=some ⟨b,o,none⟩∧(xs.getD k default).Ok∧Sep M w0 (Δ.set i (hol ad n cap xs k b (o+k*sz Drive) Ty [.bool (xs.getD k default).Wiped,.slice A1 (xs.getD k default).Blocks.length C1] f1 f2)++[gone,mine [.slice A1 (xs.getD k default).Blocks.length C1] (xs.getD k default).Blocks g1]) F w:=by
  obtain ⟨b,o,Ty,ck,f1,f2,fk,e,hx,H⟩:=h.focus (d:=default) i hi k hk
  obtain ⟨A1,C1,g1,rfl,ef,ok,o1⟩:=dG hx
  have H2:=H.partLast [mine [.slice A1 (xs.getD k default).Blocks.length C1] (xs.getD k default).Blocks g1] (ae o1 (by simp)) (by simp [blocks,mine,ef])
  exact ⟨b,o,Ty,f1,f2,A1,C1,g1,e,ok,H2⟩
theorem Drive.fill {M:Nat→Prop}{w0 w:World}{Δ F:List Rsc}(h:Sep M w0 Δ F w) (i j1:Nat) {ad n cap k b off Ty f1 f2} {xs:List Drive}{s0:Bool}{A1 C1 m1} {y1:List Block}{g1} (hi:Δ[i]? = some (hol ad n cap xs k b off Ty [.bool s0,.slice A1 m1 C1] f1 f2)) (h1:Δ[j1]? = some (mine [.slice A1 m1 C1] y1 g1)) (d1:Nat.beq j1 i=false)  (ok:(⟨s0,y1⟩:Drive).Ok):∃ fp',Sep M w0 ((Δ.set j1 gone).set i (mine [.slice ad n cap] (xs.set k (⟨s0,y1⟩:Drive)) fp')) F w:=by
  have o1:=h.mine j1 h1
  obtain rfl:=eS o1
  have n1:j1≠i:=fun e=>by subst e; simp at d1
  have H:=h.conv j1 (mine [.bool s0,.slice A1 y1.length C1] (⟨s0,y1⟩:Drive) (g1)) h1 (Drive.own_mk ok o1) (fun b hb=>hb) (show (mine [.slice A1 y1.length C1] y1 g1).fp.Nodup from h.nodup1 h1)
  obtain ⟨fp',H2⟩:=H.fill i j1 (by rw [List.getElem?_set_ne n1]; exact hi) (by rw [List.getElem?_set_self (List.getElem?_eq_some_iff.1 h1).1]) d1
  rw [List.set_set] at H2
  exact ⟨fp',H2⟩
theorem Tape.focus {M:Nat→Prop}{w0 w:World}{Δ F:List Rsc}(h:Sep M w0 Δ F w) (i:Nat) {ad n cap} {xs:List Tape}{fp} (hi:Δ[i]? = some (mine [.slice ad n cap] xs fp)) (k:Nat) (hk:k<xs.length):∃ b o Ty f1 f2 A1 C1 g1,ad=some ⟨b,o,none⟩∧(xs.getD k default).Ok∧Sep M w0 (Δ.set i (hol ad n cap xs k b (o+k*sz Tape) Ty [.bool (xs.getD k default).Wiped,.slice A1 (xs.getD k default).Recs.length C1] f1 f2)++[gone,mine [.slice A1 (xs.getD k default).Recs.length C1] (xs.getD k default).Recs g1]) F w:=by
  obtain ⟨b,o,Ty,ck,f1,f2,fk,e,hx,H⟩:=h.focus (d:=default) i hi k hk
  obtain ⟨A1,C1,g1,rfl,ef,ok,o1⟩:=cv hx
  have H2:=H.partLast [mine [.slice A1 (xs.getD k default).Recs.length C1] (xs.getD k default).Recs g1] (ae o1 (by simp)) (by simp [blocks,mine,ef])
  exact ⟨b,o,Ty,f1,f2,A1,C1,g1,e,ok,H2⟩
theorem Tape.fill {M:Nat→Prop}{w0 w:World}{Δ F:List Rsc}(h:Sep M w0 Δ F w) (i j1:Nat) {ad n cap k b off Ty f1 f2} {xs:List Tape}{s0:Bool}{A1 C1 m1} {y1:List Rec}{g1} (hi:Δ[i]? = some (hol ad n cap xs k b off Ty [.bool s0,.slice A1 m1 C1] f1 f2)) (h1:Δ[j1]? = some (mine [.slice A1 m1 C1] y1 g1)) (d1:Nat.beq j1 i=false)  (ok:(⟨s0,y1⟩:Tape).Ok):∃ fp',Sep M w0 ((Δ.set j1 gone).set i (mine [.slice ad n cap] (xs.set k (⟨s0,y1⟩:Tape)) fp')) F w:=by
  have o1:=h.mine j1 h1
  obtain rfl:=eS o1
  have n1:j1≠i:=fun e=>by subst e; simp at d1
  have H:=h.conv j1 (mine [.bool s0,.slice A1 y1.length C1] (⟨s0,y1⟩:Tape) (g1)) h1 (Tape.own_mk ok o1) (fun b hb=>hb) (show (mine [.slice A1 y1.length C1] y1 g1).fp.Nodup from h.nodup1 h1)
  obtain ⟨fp',H2⟩:=H.fill i j1 (by rw [List.getElem?_set_ne n1]; exact hi) (by rw [List.getElem?_set_self (List.getElem?_eq_some_iff.1 h1).1]) d1
  rw [List.set_set] at H2
  exact ⟨fp',H2⟩
theorem Rec.focus {M:Nat→Prop}{w0 w:World}{Δ F:List Rsc}(h:Sep M w0 Δ F w) (i:Nat) {ad n cap} {xs:List Rec}{fp} (hi:Δ[i]? = some (mine [.slice ad n cap] xs fp)) (k:Nat) (hk:k<xs.length):∃ b o Ty f1 f2 A6 C6 A7 C7 A8 C8 g6 g7 g8,ad=some ⟨b,o,none⟩∧(xs.getD k default).Ok∧Sep M w0 (Δ.set i (hol ad n cap xs k b (o+k*sz Rec) Ty [.int .i64 (xs.getD k default).Kind,.int .i64 (xs.getD k default).Seq,.string (xs.getD k default).Name,.int .i64 (xs.getD k default).Length,.int .i64 (xs.getD k default).Group,.int .i64 (xs.getD k default).Row,.slice A6 (xs.getD k default).Rows.length C6,.slice A7 (xs.getD k default).Data.length C7,.slice A8 (xs.getD k default).Delta.length C8] f1 f2)++[gone,mine [.slice A6 (xs.getD k default).Rows.length C6] (xs.getD k default).Rows g6,mine [.slice A7 (xs.getD k default).Data.length C7] (xs.getD k default).Data g7,mine [.slice A8 (xs.getD k default).Delta.length C8] (xs.getD k default).Delta g8]) F w:=by
  obtain ⟨b,o,Ty,ck,f1,f2,fk,e,hx,H⟩:=h.focus (d:=default) i hi k hk
  obtain ⟨A6,C6,A7,C7,A8,C8,g6,g7,g8,rfl,ef,ok,o6,o7,o8⟩:=ew hx
  have H2:=H.partLast [mine [.slice A6 (xs.getD k default).Rows.length C6] (xs.getD k default).Rows g6,mine [.slice A7 (xs.getD k default).Data.length C7] (xs.getD k default).Data g7,mine [.slice A8 (xs.getD k default).Delta.length C8] (xs.getD k default).Delta g8] (ae o6 (ae o7 (ae o8 (by simp)))) (by simp [blocks,mine,ef])
  exact ⟨b,o,Ty,f1,f2,A6,C6,A7,C7,A8,C8,g6,g7,g8,e,ok,H2⟩
theorem Rec.fill {M:Nat→Prop}{w0 w:World}{Δ F:List Rsc}(h:Sep M w0 Δ F w) (i j6 j7 j8:Nat) {ad n cap k b off Ty f1 f2} {xs:List Rec}{s0:Int}{s1:Int}{s2:ByteArray}{s3:Int}{s4:Int}{s5:Int}{A6 C6 m6} {y6:List Int}{g6} {A7 C7 m7} {y7:List UInt8}{g7} {A8 C8 m8} {y8:List UInt8}{g8} (hi:Δ[i]? = some (hol ad n cap xs k b off Ty [.int .i64 s0,.int .i64 s1,.string s2,.int .i64 s3,.int .i64 s4,.int .i64 s5,.slice A6 m6 C6,.slice A7 m7 C7,.slice A8 m8 C8] f1 f2)) (h6:Δ[j6]? = some (mine [.slice A6 m6 C6] y6 g6)) (h7:Δ[j7]? = some (mine [.slice A7 m7 C7] y7 g7)) (h8:Δ[j8]? = some (mine [.slice A8 m8 C8] y8 g8)) (d6:Nat.beq j6 i=false) (d7:Nat.beq j7 i=false) (d8:Nat.beq j8 i=false) (e7_6:Nat.beq j7 j6=false) (e8_6:Nat.beq j8 j6=false) (e8_7:Nat.beq j8 j7=false) (ok:(⟨s0,s1,s2,s3,s4,s5,y6,y7,y8⟩:Rec).Ok):∃ fp',Sep M w0 ((((Δ.set j7 gone).set j8 gone).set j6 gone).set i (mine [.slice ad n cap] (xs.set k (⟨s0,s1,s2,s3,s4,s5,y6,y7,y8⟩:Rec)) fp')) F w:=by
  have o6:=h.mine j6 h6
  obtain rfl:=eS o6
  have n6:j6≠i:=fun e=>by subst e; simp at d6
  have o7:=h.mine j7 h7
  obtain rfl:=eS o7
  have n7:j7≠i:=fun e=>by subst e; simp at d7
  have o8:=h.mine j8 h8
  obtain rfl:=eS o8
  have n8:j8≠i:=fun e=>by subst e; simp at d8
  have q1:j7≠j6:=fun e=>by subst e; simp at e7_6
  have q2:j8≠j6:=fun e=>by subst e; simp at e8_6
  have q3:j8≠j7:=fun e=>by subst e; simp at e8_7
  have l6:=(List.getElem?_eq_some_iff.1 h6).1
  have H1:=h.join2 j6 j7 h6 h7 e7_6
  have H2:=H1.join2 j6 j8 (by rw [List.getElem?_set_self (by simpa using l6)]) (by rw [List.getElem?_set_ne (Ne.symm q2),List.getElem?_set_ne (Ne.symm q3)]; exact h8) e8_6
  rw [List.set_comm _ _ (Ne.symm q2),List.set_set] at H2
  have sq:(((Δ.set j7 gone).set j8 gone).set j6 (cat (cat (mine [.slice A6 y6.length C6] y6 g6) (mine [.slice A7 y7.length C7] y7 g7)) (mine [.slice A8 y8.length C8] y8 g8)))[j6]? = some (cat (cat (mine [.slice A6 y6.length C6] y6 g6) (mine [.slice A7 y7.length C7] y7 g7)) (mine [.slice A8 y8.length C8] y8 g8)):=by rw [List.getElem?_set_self (by simpa using l6)]
  have nd:=H2.nodup1 sq
  have H:=H2.conv j6 (mine [.int .i64 s0,.int .i64 s1,.string s2,.int .i64 s3,.int .i64 s4,.int .i64 s5,.slice A6 y6.length C6,.slice A7 y7.length C7,.slice A8 y8.length C8] (⟨s0,s1,s2,s3,s4,s5,y6,y7,y8⟩:Rec) (g6++(g7++(g8)))) sq (Rec.own_mk ok o6 o7 o8) (fun b hb=>by simpa [cat,mine] using hb) (by simpa [cat,mine] using nd)
  rw [List.set_set] at H
  obtain ⟨fp',H3⟩:=H.fill i j6 (by rw [List.getElem?_set_ne n6,List.getElem?_set_ne n8,List.getElem?_set_ne n7]; exact hi) (by rw [List.getElem?_set_self (by simpa using l6)]) d6
  rw [List.set_set] at H3
  exact ⟨fp',H3⟩
end Go.Wk
namespace Go.Wk
open Rp (sz own)
def digits:Nat→Nat→ByteArray→ByteArray
  | 0,_,out=>out
  | f+1,k,out=>if k=0 then out else digits f (k / 10) (strB [UInt8.ofNat (48+k % 10)]++out)
def pD (k:Int):ByteArray:=if k≤0 then ⟨#[109,48]⟩ else ⟨#[109]⟩++digits 30 k.toNat ⟨#[]⟩
section
variable {α:Type}[Inhabited α]
def MkL (P:α→Int→Prop) (c:α→Nat) (xs:List α) (k:Int):Prop:=∀ i,i<xs.length→P (xs.getD i default) (k+bP (fun i=>c (xs.getD i default)) i)
def MkInv (P:α→Int→Prop) (c:α→Nat) (xs:List α) (k:Int) (i:Nat) (ys:List α):Prop:=
  i≤xs.length∧ys.length=xs.length∧(∀ j,c (ys.getD j default)=c (xs.getD j default))∧(∀ j,j<i→P (ys.getD j default) (k+bP (fun i=>c (xs.getD i default)) j))∧(∀ j,i≤j→ys.getD j default=xs.getD j default)
variable {P:α→Int→Prop}{c:α→Nat}{xs ys:List α}{k:Int}{i:Nat}{e:α}
theorem lp:MkInv P c xs k 0 xs:=⟨Nat.zero_le _,rfl,fun _=>rfl,fun j hj=>by omega,fun _ _=>rfl⟩
theorem nG (h:MkInv P c xs k i ys) (hi:i<xs.length) (hc:c e=c (xs.getD i default)) (hP:P e (k+bP (fun i=>c (xs.getD i default)) i)):MkInv P c xs k (i+1) (ys.set i e):=by
  obtain ⟨h1,h2,h3,h4,h5⟩:=h
  refine ⟨by omega,by rw [List.length_set]; exact h2,fun j=>?_,fun j hj=>?_,fun j hj=>?_⟩
  · rw [dE]
    split
    · rename_i h; rw [hc,h.1]
    · exact h3 j
  · rw [dE]
    split
    · rename_i h; rw [h.1]; exact hP
    · rename_i h; exact h4 j (by omega)
  · rw [dE,if_neg (by omega)]; exact h5 j (by omega)
theorem qC (h:MkInv P c xs k xs.length ys):ys.length=xs.length∧mkL c ys=mkL c xs∧MkL P c ys k:=by
  obtain ⟨h1,h2,h3,h4,h5⟩:=h
  have e:(fun i=>c (ys.getD i default))=fun i=>c (xs.getD i default):=funext h3
  refine ⟨h2,by unfold mkL; rw [e,h2],fun i hi=>?_⟩
  rw [e]; exact h4 i (by omega)
theorem vK (h:MkInv P c xs k i ys):ys.getD i default=xs.getD i default:=h.2.2.2.2 i (Nat.le_refl _)
theorem qU (h:i<xs.length):bP (fun i=>c (xs.getD i default)) (i+1)=bP (fun i=>c (xs.getD i default)) i+c (xs.getD i default)∧bP (fun i=>c (xs.getD i default)) (i+1)≤mkL c xs:=⟨rfl,ie h⟩
end
def MkBlock (b:Block) (k:Int):Prop:=b.Stamp=k∧MarkB b.Bytes (k+1)
def MkDrive (d:Drive) (k:Int):Prop:=d.Wiped=decide (k.tmod 3=0)∧MkL MkBlock df d.Blocks (k+1)
def MkRec (r:Rec) (k:Int):Prop:=r.Kind=k∧r.Seq=k+1∧r.Name=pD (k+2)∧r.Length=k+3∧r.Group=k+4∧r.Row=k+5∧MarkI r.Rows (k+6)∧MarkB r.Data (k+6+r.Rows.length)∧MarkB r.Delta (k+6+r.Rows.length+r.Data.length)
def MkTape (t:Tape) (k:Int):Prop:=t.Wiped=decide (k.tmod 3=0)∧MkL MkRec dr t.Recs (k+1)
def MkWld (z:Wld) (k:Int):Prop:=MkL (MkL MkDrive br) (mkL br) z.Groups k∧MarkI z.On (k+mkL (mkL br) z.Groups)∧MkL MkTape dI z.Tapes (k+mkL (mkL br) z.Groups+z.On.length)
end Go.Wk
namespace Go.Wk
theorem Fe {a b:ByteArray}(h:a=b):some (Value.string a)=some (Value.string b):=by rw [h]
theorem u2:∀ f out,digits f 0 out=out
  | 0,_=>rfl
  | _+1,_=>by rw [digits,if_pos rfl]
theorem uN {f m:Nat}{out:ByteArray}(h:0<m):digits (f+1) m out=digits f (m / 10) (strB [UInt8.ofNat (48+m % 10)]++out):=by rw [digits,if_neg (by omega)]
end Go.Wk
namespace Go.Wk
section
variable {M:Nat→Prop}{w0 w:World}{Δ F:List Rsc}{α:Type}[Rp α]
theorem Sep.litW (h:Sep M w0 Δ F w) (i:Nat) {b:Nat}{T:TypeId}{v:Value}{u:α}(hi:Δ[i]? = some (Wk.box b (.cells [v].toArray T))) (h0:Rp.own true w [v] u []):Sep M w0 (Δ.set i (Wk.mine [.slice (some ⟨b,0,none⟩) 1 1] [u] [b])) F w:=
  h.conv i (Wk.mine [.slice (some ⟨b,0,none⟩) 1 1] [u] [b]) hi (.inr (.inr ⟨b,0,1,[v].toArray,T,(0,0),[],by simp,by simp,h.box i hi,fun _=>rfl,by simp,by simp [maxLen],by have:=Rp.len h0; simp at this; simp [← this],by
    have hl:=Rp.len h0
    refine ⟨[],[],rfl,?_,rfl⟩
    have e:Rp.sz α=1:=by simpa using hl.symm
    rw [e]; exact h0⟩)) (fun b hb=>hb) (by simp [Wk.mine])
end
end Go.Wk
namespace Go.Wk
theorem Af {k:Int}(h:k≤4611686018427388904):k.toNat<10^30:=Nat.lt_of_le_of_lt (show k.toNat≤4611686018427388904 by omega) (by decide)
theorem D9 {m:Nat}:strB [nM (48+(m:Int).tmod 10)]=strB [UInt8.ofNat (48+m % 10)]:=by
  have e:((48+(m:Int).tmod 10) % 256).toNat=48+m % 10:=by
    rw [Int.tmod_eq_emod_of_nonneg (by omega)]; omega
  unfold nM; rw [e]
end Go.Wk
namespace Go.Wk
section
open Rp (own sz)
variable {w w':World}{x:Wld}{A9 A10 A11:Option Addr}{C9 C10 C11:Nat}{fp:List Nat}
theorem Wld.mkOut {F:List Rsc}{y9:List (List Drive)}{y10:List Int}{y11:List Tape}{f9 f10 f11:List Nat}{k:Int}(ok:x.Ok) (h:Sep (· ∈ fp) w [gone,mine [.slice A9 x.Groups.length C9] y9 f9,mine [.slice A10 x.On.length C10] y10 f10,mine [.slice A11 x.Tapes.length C11] y11 f11] F w')
    (h9:y9.length=x.Groups.length∧mkL (mkL br) y9=mkL (mkL br) x.Groups∧MkL (MkL MkDrive br) (mkL br) y9 k) (l10:y10.length=x.On.length) (h10:MarkI y10 (k+mkL (mkL br) x.Groups))
    (h11:y11.length=x.Tapes.length∧mkL dI y11=mkL dI x.Tapes∧MkL MkTape dI y11 (k+mkL (mkL br) x.Groups+x.On.length)) :
    ∃ x':Wld,Mut w w' fp [.int .i64 x.Shape.Groups,.int .i64 x.Shape.Column,.int .i64 x.Shape.Data,.int .i64 x.Shape.Spare,.int .i64 x.Shape.Rows,.int .i64 x.Shape.Cap,.int .i64 x.Shape.Batch,.int .i64 x.Shape.Queue,.int .i64 x.Shape.Stage,.slice A9 x.Groups.length C9,.slice A10 x.On.length C10,.slice A11 x.Tapes.length C11,.int .i64 x.Writes,.int .i64 x.Stop,.bool x.Down] x' ∧
      (x'.Groups.length=x.Groups.length∧x'.On.length=x.On.length∧x'.Tapes.length=x.Tapes.length∧li x'=li x∧MkWld x' k∧x'.Shape=x.Shape∧x'.Writes=x.Writes∧x'.Stop=x.Stop∧x'.Down=x.Down):=
  ⟨_,Wld.mutOut ok h h9.1 l10 h11.1,h9.1,l10,h11.1,by unfold li; dsimp only; rw [h9.2.1,l10,h11.2.1],⟨h9.2.2,by dsimp only; rw [h9.2.1]; exact h10,by dsimp only; rw [h9.2.1,l10]; exact h11.2.2⟩,rfl,rfl,rfl,rfl⟩
end
end Go.Wk
namespace Go.Wk
open Rp (sz own)
def eO (g:List Drive):Nat→List Int
  | 0=>[]
  | k+1=>if (g.getD k default).Wiped=true then eO g k++[(k:Int)] else eO g k
def xM (z:Wld) (g:Int):List Int:=eO (z.Groups.getD g.toNat []) (z.Groups.getD g.toNat []).length
def ip (z:Wld) (g:Int):Bool:=decide (z.Shape.Spare<((xM z g).length:Int))
section
variable {G:List Drive}{z:Wld}{k:Nat}
theorem sB (h:(G.getD k default).Wiped=true):eO G (k+1)=eO G k++[(k:Int)]:=by rw [eO,if_pos h]
theorem u7 (h:(G.getD k default).Wiped=false):eO G (k+1)=eO G k:=by rw [eO,if_neg (by rw [h]; simp)]
theorem tL:∀ {k:Nat},(eO G k).length≤k
  | 0=>Nat.le_refl _
  | k+1=>by
    have:=tL (k:=k)
    rw [eO]; split
    · rw [List.length_append]; simp; omega
    · omega
end
end Go.Wk

namespace Go.Wk
theorem na {α:Type}{a b:List α}{d:α}{i:Nat}(h:i<a.length):(a++b).getD i d=a.getD i d:=by simp [List.getD,List.getElem?_append_left h]
theorem mQ {α:Type}{a b:List α}{d:α}{i:Nat}(h:a.length≤i):(a++b).getD i d=b.getD (i-a.length) d:=by simp [List.getD,List.getElem?_append_right h]
theorem cf {α:Type}{l:List α}{d:α}{i:Nat}(h:i<l.length):l.getD i d=l[i]:=by simp [List.getD,h]
end Go.Wk
namespace Go.Wk
open Rp (sz own)
section
variable {M:Nat→Prop}{w0 w w1 w2:World}{Δ F:List Rsc}
theorem Sep.inB (_:Sep M w0 Δ F w) (i:Nat) {r:Rsc}(hi:Δ[i]? = some r) {b:Nat}(hb:b∈r.fp):b∈blocks Δ:=bx.2 ⟨r,List.mem_of_getElem? hi,hb⟩
end
end Go.Wk
namespace Go.Wk
open Rp (sz own)
theorem DQ {z:Wld}(h:eD z=0):(z.Tapes.getD 0 default).Recs.length≤200∧(z.Tapes.getD 1 default).Recs.length≤200:=by
  obtain ⟨_,_,_,h2,h3⟩:=eN h
  have hm:z.Tapes.any cw=false:=by
    cases hq:z.Tapes.any cw with
    | false=>rfl
    | true=>unfold eG at h3; rw [if_pos hq] at h3; omega
  have key:∀ i,i<z.Tapes.length→(z.Tapes.getD i default).Recs.length≤200:=fun i hi=>by
    have:=ut (d:=default) hm i hi
    unfold cw at this
    simp only [decide_eq_false_iff_not] at this; omega
  exact ⟨key 0 (by omega),key 1 (by omega)⟩
end Go.Wk
namespace Go.Wk
open Rp (sz own)
structure RecV where
  r:Rec
  A6:Option Addr
  C6:Nat
  A7:Option Addr
  C7:Nat
  A8:Option Addr
  C8:Nat
def RecV.cs (v:RecV):List Value:=[.int .i64 v.r.Kind,.int .i64 v.r.Seq,.string v.r.Name,.int .i64 v.r.Length,.int .i64 v.r.Group,.int .i64 v.r.Row,.slice v.A6 v.r.Rows.length v.C6,.slice v.A7 v.r.Data.length v.C7,.slice v.A8 v.r.Delta.length v.C8]
instance:Inhabited RecV:=⟨⟨default,none,0,none,0,none,0⟩⟩
theorem RecV.one {v:RecV}:∀ x∈v.cs,x.oneCell'=true:=by
  intro x hx
  simp only [RecV.cs,List.mem_cons,List.not_mem_nil,or_false] at hx
  rcases hx with rfl | rfl | rfl | rfl | rfl | rfl | rfl | rfl | rfl<;>rfl
instance:Rp RecV where
  sz:=9
  pos:=by decide
  own _ _ cs v fp:=cs=v.cs∧fp=[]∧v.r.Ok
  len h:=by rw [h.1]; rfl
  one h v hv:=by rw [h.1] at hv; exact RecV.one v hv
  st h _:=h
  lt h b hb:=by rw [h.2.1] at hb; simp at hb
  weak h:=h
theorem mt {w:World}:∀ {vs:List RecV}{cs f0} (i:Nat),bG true w cs vs f0→bG true w cs (vs.take i) []∧f0=[]
  | [],_,_,i,h=>by rw [List.take_nil]; exact ⟨rfl,h⟩
  | v::vs,cs,f0,0,⟨g1,g2,e0,⟨e1,eg,ok⟩,h2⟩=>by
    have:=(mt 0 h2).2
    exact ⟨rfl,by rw [e0,eg,this]; rfl⟩
  | v::vs,cs,f0,i+1,⟨g1,g2,e0,⟨e1,eg,ok⟩,h2⟩=>by
    obtain ⟨h3,h4⟩:=mt i h2
    exact ⟨⟨[],[],rfl,⟨e1,rfl,ok⟩,h3⟩,by rw [e0,eg,h4]; rfl⟩
section
variable {M:Nat→Prop}{w0 w:World}{Δ F:List Rsc}
theorem Sep.viewAt (h:Sep M w0 Δ F w) (i:Nat) {ad n cap} {vs:List RecV}{f} (hi:Δ[i]? = some (Wk.mine [.slice ad n cap] vs f)) (k:Nat) (hk:k<vs.length) :
    ∃ b o,ad=some ⟨b,o,none⟩∧At w b (o+k*9) (vs.getD k default).cs∧(vs.getD k default).r.Ok:=by
  obtain ⟨b,o,cs,fk,e,hat,hx,_⟩:=dq (h.mine i hi) k hk
  rw [cf hk]
  obtain ⟨e1,_,ok⟩:=hx
  exact ⟨b,o,e,by rw [← e1]; exact hat,ok⟩
end
end Go.Wk
namespace Go.Wk
open Rp (sz own)
theorem vB {α:Type}{p:α→Bool}{xs:List α}{d:α}(h:¬ cF p xs = -1):∃ k:Nat,cF p xs=k∧k<xs.length∧p (xs.getD k d)=true∧∀ i,i<k→p (xs.getD i d)=false:=by
  unfold cF at h ⊢
  cases hq:xs.findIdx? p with
  | none=>rw [hq] at h; simp at h
  | some k=>
    rw [List.findIdx?_eq_some_iff_getElem] at hq
    obtain ⟨h1,h2,h3⟩:=hq
    refine ⟨k,rfl,h1,by rw [cf h1]; exact h2,fun i hi=>?_⟩
    have:=h3 i hi
    rw [cf (by omega)]
    simpa using this
theorem gK {w:World}{v:RecV}(ok:v.r.Ok):own true w v.cs v []:=⟨rfl,rfl,ok⟩
section
variable {M:Nat→Prop}{w0 w:World}{Δ F:List Rsc}
theorem Sep.viewSeen (h:Sep M w0 Δ F w) (i:Nat) {s:Bool}{ad n cap} {vs:List RecV}{f} (hi:F[i]? = some (Wk.seen s [.slice ad n cap] vs f)) (k:Nat) (hk:k<vs.length) :
    ∃ b o,ad=some ⟨b,o,none⟩∧At w b (o+k*9) (vs.getD k default).cs∧(vs.getD k default).r.Ok:=by
  have hx:own s w [.slice ad n cap] vs f:=h.fs _ (List.mem_of_getElem? hi)
  obtain ⟨b,o,cs,fk,e,hat,hx,_⟩:=dq hx k hk
  rw [cf hk]
  obtain ⟨e1,_,ok⟩:=hx
  exact ⟨b,o,e,by rw [← e1]; exact hat,ok⟩
end
end Go.Wk
namespace Go.Wk
structure LinO {K:Type}(lt:K→K→Prop):Prop where
  irr:∀ a,¬ lt a a
  tr:∀ a b c,lt a b→lt b c→lt a c
  tot:∀ a b,lt a b∨a=b∨lt b a
section
variable {α K:Type}{lt:K→K→Prop}{key:α→K}
inductive Ord (lt:K→K→Prop) (key:α→K):List α→Prop
  | nil:Ord lt key []
  | cons {x xs}:(∀ y∈xs,¬ lt (key y) (key x))→Ord lt key xs→Ord lt key (x::xs)
theorem Ord.app {xs ys:List α}(h:Ord lt key xs) (k:Ord lt key ys) (hh:∀ x∈xs,∀ y∈ys,¬ lt (key y) (key x)):Ord lt key (xs++ys):=by
  induction h with
  | nil=>exact k
  | cons h1 h2 ih=>
    rename_i x l
    refine .cons (fun y hy=>?_) (ih fun a ha b hb=>hh a (by simp [ha]) b hb)
    rcases List.mem_append.1 hy with hy | hy
    · exact h1 y hy
    · exact hh x (by simp) y hy
theorem Ord.left {xs ys:List α}(h:Ord lt key (xs++ys)):Ord lt key xs:=by
  induction xs with
  | nil=>exact .nil
  | cons x xs ih=>
    cases h with
    | cons h1 h2=>exact .cons (fun y hy=>h1 y (by simp [hy])) (ih h2)
theorem Ord.right {xs ys:List α}(h:Ord lt key (xs++ys)):Ord lt key ys:=by
  induction xs with
  | nil=>exact h
  | cons x xs ih=>
    cases h with
    | cons h1 h2=>exact ih h2
theorem Ord.le {xs ys:List α}(h:Ord lt key (xs++ys)):∀ x∈xs,∀ y∈ys,¬ lt (key y) (key x):=by
  induction xs with
  | nil=>simp
  | cons x xs ih=>
    cases h with
    | cons h1 h2=>
      intro a ha b hb
      rcases List.mem_cons.1 ha with rfl | ha
      · exact h1 b (by simp [hb])
      · exact ih h2 a ha b hb
end
section
variable {α K:Type}[DecidableEq K] {lt:K→K→Prop}{key:α→K}
def cd (key:α→K) (xs ys:List α):Prop:=∀ k,(ys.filter fun x=>decide (key x=k))=xs.filter fun x=>decide (key x=k)
def Stable (lt:K→K→Prop) (key:α→K) (xs ys:List α):Prop:=Ord lt key ys∧cd key xs ys
theorem cd.refl {xs:List α}:cd key xs xs:=fun _=>rfl
theorem cd.trans {xs ys zs:List α}(h:cd key xs ys) (k:cd key ys zs):cd key xs zs:=fun c=>(k c).trans (h c)
theorem cd.symm {xs ys:List α}(h:cd key xs ys):cd key ys xs:=fun c=>(h c).symm
theorem cd.app {xs ys xs' ys':List α}(h:cd key xs ys) (k:cd key xs' ys'):cd key (xs++xs') (ys++ys'):=fun c=>by
  rw [List.filter_append,List.filter_append,h c,k c]
theorem cd.mem {xs ys:List α}(h:cd key xs ys) {x:α}(hx:x∈ys):x∈xs:=by
  have:x∈ys.filter fun y=>decide (key y=key x):=by rw [List.mem_filter]; exact ⟨hx,by simp⟩
  rw [h (key x),List.mem_filter] at this
  exact this.1
theorem cd.len {xs ys:List α}:cd key xs ys→ys.length=xs.length:=by
  induction xs generalizing ys with
  | nil=>
    intro h
    cases ys with
    | nil=>rfl
    | cons y ys=>exact absurd (h.mem (x:=y) (by simp)) (by simp)
  | cons x xs ih=>
    intro h
    have hx:x∈ys:=(cd.symm h).mem (by simp)
    have hk:=h (key x)
    rw [List.filter_cons_of_pos (by simp)] at hk
    have key1:∀ (l:List α) (r:List α),(l.filter fun y=>decide (key y=key x))=x::r→∃ l1 l2,l=l1++x::l2∧(∀ y∈l1,key y≠key x)∧(l2.filter fun y=>decide (key y=key x))=r:=by
      intro l
      induction l with
      | nil=>intro r h; simp at h
      | cons y l ihl=>
        intro r h
        by_cases hy:key y=key x
        · rw [List.filter_cons_of_pos (by simp [hy])] at h
          injection h with h1 h2
          exact ⟨[],l,by rw [h1]; rfl,by simp,h2⟩
        · rw [List.filter_cons_of_neg (by simp [hy])] at h
          obtain ⟨l1,l2,e,h1,h2⟩:=ihl r h
          exact ⟨y::l1,l2,by rw [e]; rfl,fun z hz=>by rcases List.mem_cons.1 hz with rfl | hz; exact hy; exact h1 z hz,h2⟩
    obtain ⟨l1,l2,e,h1,h2⟩:=key1 ys _ hk
    have h3:cd key xs (l1++l2):=fun k=>by
      have hkk:=h k
      rw [e,List.filter_append] at hkk
      rw [List.filter_append]
      by_cases hkx:key x=k
      · subst hkx
        rw [show (l1.filter fun y=>decide (key y=key x))=[] from List.filter_eq_nil_iff.2 fun y hy=>by simp [h1 y hy],List.nil_append]
        exact h2
      · rw [List.filter_cons_of_neg (by simp [hkx]),List.filter_cons_of_neg (by simp [hkx])] at hkk
        exact hkk
    have h4:=ih h3
    rw [e,List.length_append,List.length_cons,List.length_cons]
    rw [List.length_append] at h4
    omega
theorem vT (hl:LinO lt):∀ {ys zs:List α},Ord lt key ys→Ord lt key zs→cd key ys zs→ys=zs
  | [],zs,_,_,h=>by
    have:=h.len
    exact (List.eq_nil_of_length_eq_zero this).symm
  | y::ys,[],_,_,h=>by have:=h.len; simp at this
  | y::ys,z::zs,.cons a1 a2,.cons b1 b2,h=>by
    have hk:key y=key z:=by
      rcases hl.tot (key y) (key z) with c | c | c
      · have hm:y∈z::zs:=(cd.symm h).mem (by simp)
        rcases List.mem_cons.1 hm with e | e
        · rw [e]
        · exact absurd c (b1 y e)
      · exact c
      · have hm:z∈y::ys:=h.mem (by simp)
        rcases List.mem_cons.1 hm with e | e
        · rw [e]
        · exact absurd c (a1 z e)
    have h1:=h (key y)
    rw [List.filter_cons_of_pos (by simp [hk]),List.filter_cons_of_pos (by simp)] at h1
    injection h1 with h2 h3
    subst h2
    have h4:cd key ys zs:=fun k=>by
      have:=h k
      by_cases e:key z=k
      · rw [List.filter_cons_of_pos (by simp [e]),List.filter_cons_of_pos (by simp [e])] at this
        exact (List.cons.inj this).2
      · rw [List.filter_cons_of_neg (by simp [e]),List.filter_cons_of_neg (by simp [e])] at this
        exact this
    rw [vT hl a2 b2 h4]
theorem mf (hl:LinO lt) {xs ys zs:List α}(h:Stable lt key xs ys) (k:Stable lt key xs zs):ys=zs:=
  vT hl h.1 k.1 (h.2.symm.trans k.2)
theorem cd.swap {xs ys:List α}(h:∀ x∈xs,∀ y∈ys,key x≠key y):cd key (xs++ys) (ys++xs):=fun k=>by
  rw [List.filter_append,List.filter_append]
  by_cases hx:∃ x∈xs,key x=k
  · obtain ⟨x,hx,e⟩:=hx
    rw [show (ys.filter fun y=>decide (key y=k))=[] from List.filter_eq_nil_iff.2 fun y hy=>by
      have:=h x hx y hy
      simp only [decide_eq_true_eq]; intro e2; exact this (e.trans e2.symm)]
    simp
  · rw [show (xs.filter fun y=>decide (key y=k))=[] from List.filter_eq_nil_iff.2 fun y hy=>by
      simp only [decide_eq_true_eq]; intro e2; exact hx ⟨y,hy,e2⟩]
    simp
theorem gw (hl:LinO lt) {xs A B:List α}{x:α}(h:Stable lt key xs (A++B)) (hB:∀ y∈B,lt (key x) (key y)) (hA:∀ y∈A,¬ lt (key x) (key y)):Stable lt key (xs++[x]) (A++x::B):=by
  refine ⟨?_,?_⟩
  · refine h.1.left.app (.cons (fun y hy hlt=>hl.irr _ (hl.tr _ _ _ hlt (hB y hy))) h.1.right) fun a ha b hb=>?_
    rcases List.mem_cons.1 hb with rfl | hb
    · exact hA a ha
    · exact h.1.le a ha b hb
  · have h1:cd key ((A++B)++[x]) (A++(x::B)):=by
      rw [List.append_assoc]
      refine cd.refl.app (cd.swap (xs:=B) (ys:=[x]) fun b hb y hy e=>?_)
      rw [List.mem_singleton] at hy
      subst hy
      have:=hB b hb
      rw [e] at this
      exact hl.irr _ this
    exact (h.2.app (cd.refl (xs:=[x]))).trans h1
end
end Go.Wk
namespace Go.Wk
open Rp (sz own)
section
variable {α:Type}
def seg (l:List α) (a b:Nat):List α:=(l.take b).drop a
theorem cK {l:List α}{a b:Nat}(h:b≤l.length):(seg l a b).length=b-a:=by
  unfold seg; rw [List.length_drop,List.length_take]; omega
theorem cr {l:List α}{a b c:Nat}(h1:a≤b) (h2:b≤c):seg l a b++seg l b c=seg l a c:=by
  apply List.ext_getElem?
  intro j
  unfold seg
  rw [List.getElem?_append]
  simp only [List.length_drop,List.length_take,List.getElem?_drop,List.getElem?_take]
  by_cases hl:b≤l.length
  · rw [show min b l.length=b by omega]
    by_cases c1:j<b-a
    · rw [if_pos c1,if_pos (by omega),if_pos (by omega)]
    · rw [if_neg c1]
      rw [show b+(j-(b-a))=a+j by omega]
  · rw [show min b l.length=l.length by omega]
    by_cases c1:j<l.length-a
    · rw [if_pos c1,if_pos (by omega),if_pos (by omega)]
    · rw [if_neg c1]
      rw [List.getElem?_eq_none (show l.length≤b+(j-(l.length-a)) by omega),List.getElem?_eq_none (show l.length≤a+j by omega)]
      split<;>split<;>rfl
def eU (l:List α) (x y z:Nat):List α:=l.take x++(seg l y z++(seg l x y++l.drop z))
theorem hZ {l:List α}{x y z:Nat}(h1:x≤y) (h2:y≤z) (h3:z≤l.length):(eU l x y z).length=l.length:=by
  unfold eU
  rw [List.length_append,List.length_append,List.length_append,cK (by omega),cK (by omega),List.length_take,List.length_drop]; omega
end
section
variable {α:Type}[Inhabited α]
def gc (l:List α) (a b:Nat):Nat→List α
  | 0=>l
  | i+1=>((gc l a b i).set (a+i) ((gc l a b i).getD (b+i) default)).set (b+i) ((gc l a b i).getD (a+i) default)
theorem dm {l:List α}{a b:Nat}:∀ {n},(gc l a b n).length=l.length
  | 0=>rfl
  | n+1=>by rw [gc,List.length_set,List.length_set]; exact dm
theorem nv {l:List α}{a b:Nat}:∀ {n:Nat},a+n≤b→b+n≤l.length→∀ j,(gc l a b n).getD j default=l.getD (if a≤j∧j<a+n then b+(j-a) else if b≤j∧j<b+n then a+(j-b) else j) default
  | 0,_,_,j=>by rw [if_neg (by omega),if_neg (by omega)]; rfl
  | n+1,h1,h2,j=>by
    have ih:=nv (l:=l) (a:=a) (b:=b) (n:=n) (by omega) (by omega)
    have hl:=dm (l:=l) (a:=a) (b:=b) (n:=n)
    rw [gc,dE,dE,List.length_set,hl,ih,ih,ih]
    by_cases e1:j=b+n
    · subst e1
      rw [if_pos ⟨rfl,by omega⟩,if_neg (by omega),if_neg (by omega),if_neg (by omega),if_pos (by omega)]
      congr 1; omega
    · rw [if_neg (fun h=>e1 h.1)]
      by_cases e2:j=a+n
      · subst e2
        rw [if_pos ⟨rfl,by omega⟩,if_neg (by omega),if_neg (by omega),if_pos (by omega)]
        congr 1; omega
      · rw [if_neg (fun h=>e2 h.1)]
        congr 1
        (repeat' split)<;>omega
theorem eQ {l:List α}{a b j:Nat}(h:a+j<b):(seg l a b).getD j default=l.getD (a+j) default:=by
  unfold seg; simp only [List.getD,List.getElem?_drop,List.getElem?_take]; rw [if_pos h]
theorem kB {l:List α}{x y z:Nat}(h1:x≤y) (h2:y≤z) (h3:z≤l.length) (j:Nat):(eU l x y z).getD j default=l.getD (if j<x then j else if j<x+(z-y) then y+(j-x) else if j<z then x+(j-x-(z-y)) else j) default:=by
  have e1:=cK (l:=l) (a:=y) (b:=z) (by omega)
  have e2:=cK (l:=l) (a:=x) (b:=y) (by omega)
  unfold eU
  by_cases c1:j<x
  · rw [if_pos c1,na (by rw [List.length_take]; omega)]
    simp only [List.getD,List.getElem?_take]; rw [if_pos c1]
  · rw [if_neg c1,mQ (by rw [List.length_take]; omega),List.length_take,show min x l.length=x by omega]
    by_cases c2:j<x+(z-y)
    · rw [if_pos c2,na (by omega),eQ (by omega)]
    · rw [if_neg c2,mQ (by omega),e1]
      by_cases c3:j<z
      · rw [if_pos c3,na (by omega),eQ (by omega)]
      · rw [if_neg c3,mQ (by omega),e2]
        simp only [List.getD,List.getElem?_drop]
        congr 2; omega
theorem nI {xs ys:List α}(h:xs.length=ys.length) (k:∀ j,xs.getD j default=ys.getD j default):xs=ys:=cJ (d:=default) h fun j _=>k j
theorem DN {l:List α}{m i:Nat}(h1:i≤m) (h2:m+i≤l.length):gc l (m-i) m i=eU l (m-i) m (m+i):=
  nI (by rw [dm,hZ (by omega) (by omega) h2]) fun j=>by
    rw [nv (by omega) h2,kB (by omega) (by omega) h2]
    congr 1
    split<;>(repeat' split)<;>omega
theorem BG {l:List α}{m i j:Nat}(h1:j<i) (h0:i≤m) (h2:m+j≤l.length):eU (gc l (m-i) m j) (m-i+j) m (m+j)=eU l (m-i) m (m+j):=
  nI (by rw [hZ (by omega) (by omega) (by rw [dm]; omega),dm,hZ (by omega) (by omega) h2]) fun q=>by
    rw [kB (by omega) (by omega) (by rw [dm]; omega),nv (by omega) h2,kB (by omega) (by omega) h2]
    congr 1
    (repeat' split)<;>omega
theorem Ak {l:List α}{m i j:Nat}(h1:i<j) (h0:i≤m) (h2:m+j≤l.length):eU (gc l (m-i) (m+j-i) i) (m-i) m (m+j-i)=eU l (m-i) m (m+j):=
  nI (by rw [hZ (by omega) (by omega) (by rw [dm]; omega),dm,hZ (by omega) (by omega) h2]) fun q=>by
    rw [kB (by omega) (by omega) (by rw [dm]; omega),nv (by omega) (by omega),kB (by omega) (by omega) h2]
    congr 1
    (repeat' split)<;>omega
end
end Go.Wk
namespace Go.Wk
open Rp (sz own)
def kLt (a b:Int × Int × Int):Prop:=a.1<b.1∨a.1=b.1∧(a.2.1<b.2.1∨a.2.1=b.2.1∧a.2.2<b.2.2)
theorem jS:LinO kLt where
  irr a h:=by unfold kLt at h; omega
  tr a b c h k:=by unfold kLt at h k ⊢; omega
  tot a b:=by
    by_cases h:kLt a b
    · exact .inl h
    · by_cases k:kLt b a
      · exact .inr (.inr k)
      · refine .inr (.inl ?_)
        obtain ⟨a1,a2,a3⟩:=a
        obtain ⟨b1,b2,b3⟩:=b
        unfold kLt at h k
        dsimp only at h k
        rw [show a1=b1 by omega,show a2=b2 by omega,show a3=b3 by omega]
def cL (r:Rec):Int × Int × Int:=(r.Seq,r.Kind,r.Group)
def cu (v:RecV):Int × Int × Int:=cL v.r
def gY (a b:Int):Int:=if a<b then -1 else if b<a then 1 else 0
def cfR (x y:Rec):Int:=if gY x.Seq y.Seq≠0 then gY x.Seq y.Seq else if gY x.Kind y.Kind≠0 then gY x.Kind y.Kind else gY x.Group y.Group
theorem lZ {x y:Rec}:cfR x y<0↔kLt (cL x) (cL y):=by
  unfold cfR gY kLt cL
  dsimp only
  repeat' split
  all_goals omega
section
variable {P:Program}{n:Nat}{ops:Array Oper}{Q:Post}{L:Env}{S:World→Prop}{w w0:World}{M:Nat→Prop}{Δ F:List Rsc}{ty:TypeId}{p:String}{af:Array Edge}{g:Option (Nat × Bool)}{l:Nat}{rest:List (Nat × Bool)}
theorem dx {t:TypeId}{x y:Operand}{b off:Nat}{ad:Option Addr}{len cap:Nat}{xs:List RecV}{fp:List Nat}{u:RecV}(ho:ops.toList[l]? = some ⟨none,.store t x y,ty,p,af,g⟩) (hw:Wn ops n L ⟨none,.store t x y,ty,p,af,g⟩) (hs:∀ w,(sizeOf t).run P w = .ok 9 w)
    (H:Sep M w0 Δ F w) (i:Nat) (hi:Δ[i]? = some (Wk.mine [.slice ad len cap] xs fp)) (q:Nat) (hq:q<xs.length) (hx:evL L x=some (.pointer (some ⟨b,off+q*9,none⟩))) (had:ad=some ⟨b,off,none⟩) (hy:evL L y=some (.agg u.cs.toArray)) (ok:u.r.Ok)
    (hS:∀ w',S w→Ext (· = b) w w'→rest≠[]→S w')
    (k:∀ w' fp',Sep M w0 (Δ.set i (Wk.mine [.slice ad len cap] (xs.set q u) fp')) F w'→DL P n ops Q S rest L w') :
    DL P n ops Q S ((l,false)::rest) L w:=by
  obtain ⟨b',o',cur,T,e1,hb,hsz,hk⟩:=H.elset i hi q hq
  rw [had] at e1
  simp only [Option.some.injEq,Addr.mk.injEq,and_true] at e1
  obtain ⟨rfl,rfl⟩:=e1
  obtain ⟨fp',h⟩:=hk u.cs u ⟨rfl,rfl,ok⟩
  exact Aj ho hw rfl (pf hs hx hy rfl RecV.one hb hsz) (fun hSw hr=>hS _ hSw (Ext.refl.put (.inl rfl)) hr) (k _ fp' h)
end
end Go.Wk
namespace Go.Wk
section
variable {α:Type}
theorem ql {l:List α}{a b:Nat}(h:b≤a):seg l a b=[]:=by
  unfold seg; apply List.eq_nil_of_length_eq_zero; rw [List.length_drop,List.length_take]; omega
end
section
variable {α:Type}[Inhabited α] {l l2 ws:List α}{a b i j:Nat}
theorem fO {xs ys:List α}{a b:Nat}(h1:b≤xs.length) (h2:b≤ys.length) (h:∀ j,a≤j→j<b→xs.getD j default=ys.getD j default):seg xs a b=seg ys a b:=
  cJ (d:=default) (by rw [cK h1,cK h2]) fun j hj=>by
    rw [cK h1] at hj
    rw [eQ (by omega),eQ (by omega)]
    exact h _ (by omega) (by omega)
theorem iY {l:List α}{a:Nat}(h:a<l.length):seg l a (a+1)=[l.getD a default]:=by
  apply cJ (d:=default)
  · rw [cK (by omega)]; simp
  · intro j hj
    rw [cK (by omega)] at hj
    obtain rfl:j=0:=by omega
    rw [eQ (by omega)]; rfl
theorem fV {l:List α}{a b:Nat}{x:α}(h2:b≤l.length) (h:x∈seg l a b):∃ j,a≤j∧j<b∧l.getD j default=x:=by
  obtain ⟨j,hj,e⟩:=List.getElem_of_mem h
  rw [cK h2] at hj
  refine ⟨a+j,by omega,by omega,?_⟩
  rw [← eQ (b:=b) (by omega),cf (by rw [cK h2]; omega)]; exact e
theorem t8 {l:List α}{a b j:Nat}(h2:b≤l.length) (h:a≤j) (h3:j<b):l.getD j default∈seg l a b:=by
  have e:=eQ (l:=l) (a:=a) (b:=b) (j:=j-a) (by omega)
  rw [show a+(j-a)=j by omega] at e
  rw [← e,cf (by rw [cK h2]; omega)]
  exact List.getElem_mem _
end
section
variable {ws l l2:List RecV}{a b i j:Nat}
def SortSeg (ws l:List RecV) (a b:Nat):Prop:=l.length=ws.length∧(∀ q,q<a∨b≤q→l.getD q default=ws.getD q default)∧Stable kLt cu (seg ws a b) (seg l a b)
def InsInv (ws l:List RecV) (a i j:Nat):Prop:=a≤j∧j≤i∧l.length=ws.length∧(∀ q,q<a∨i+1≤q→l.getD q default=ws.getD q default)∧Stable kLt cu (seg ws a i) (seg l a j++seg l (j+1) (i+1)) ∧
  l.getD j default=ws.getD i default∧∀ q,j<q→q≤i→kLt (cu (ws.getD i default)) (cu (l.getD q default))
theorem xo (h:a+1≤ws.length):SortSeg ws ws a (a+1):=
  ⟨rfl,fun _ _=>rfl,by rw [iY (by omega)]; exact .cons (by simp) .nil,.refl⟩
theorem ss (h:b≤a):SortSeg ws ws a b:=⟨rfl,fun _ _=>rfl,by rw [ql h]; exact .nil,.refl⟩
theorem te (h:SortSeg ws l a i) (h1:a≤i):InsInv ws l a i i:=by
  obtain ⟨e1,e2,e3⟩:=h
  refine ⟨h1,Nat.le_refl _,e1,fun q hq=>e2 q (by omega),?_,e2 i (by omega),fun q h3 h4=>by omega⟩
  rw [ql (Nat.le_refl (i+1)),List.append_nil]; exact e3
theorem rn (h:InsInv ws l a i j) (h1:a<j) (h2:i<ws.length) (hc:cfR (l.getD j default).r (l.getD (j-1) default).r<0) :
    InsInv ws ((l.set j (l.getD (j-1) default)).set (j-1) (l.getD j default)) a i (j-1):=by
  obtain ⟨e1,e2,e3,e4,e5,e6,e7⟩:=h
  have hg:∀ q,((l.set j (l.getD (j-1) default)).set (j-1) (l.getD j default)).getD q default=if q=j-1 then l.getD j default else if q=j then l.getD (j-1) default else l.getD q default:=fun q=>by
    rw [dE,dE,List.length_set]
    by_cases c1:q=j-1
    · rw [if_pos ⟨c1,by omega⟩,if_pos c1]
    · rw [if_neg (fun h=>c1 h.1),if_neg c1]
      by_cases c2:q=j
      · rw [if_pos ⟨c2,by omega⟩,if_pos c2]
      · rw [if_neg (fun h=>c2 h.1),if_neg c2]
  have hlen:((l.set j (l.getD (j-1) default)).set (j-1) (l.getD j default)).length=ws.length:=by rw [List.length_set,List.length_set]; exact e3
  refine ⟨by omega,by omega,hlen,fun q hq=>?_,?_,?_,fun q h3 h4=>?_⟩
  · rw [hg,if_neg (by omega),if_neg (by omega)]; exact e4 q hq
  · have s1:seg ((l.set j (l.getD (j-1) default)).set (j-1) (l.getD j default)) a (j-1)=seg l a (j-1):=fO (by omega) (by omega) fun q h3 h4=>by rw [hg,if_neg (by omega),if_neg (by omega)]
    have s2:seg ((l.set j (l.getD (j-1) default)).set (j-1) (l.getD j default)) (j-1+1) (i+1)=seg l (j-1) j++seg l (j+1) (i+1):=by
      rw [show j-1+1=j by omega,← cr (b:=j+1) (by omega) (by omega),iY (by omega)]
      congr 1
      · have:=iY (l:=l) (a:=j-1) (by omega)
        rw [show j-1+1=j by omega] at this
        rw [this,hg,if_neg (by omega),if_pos rfl]
      · exact fO (by omega) (by omega) fun q h3 h4=>by rw [hg,if_neg (by omega),if_neg (by omega)]
    rw [s1,s2,← List.append_assoc,cr (by omega) (by omega)]; exact e5
  · rw [hg,if_pos rfl]; exact e6
  · rw [hg,if_neg (by omega)]
    by_cases c:q=j
    · rw [if_pos c]
      have:=(lZ (x:=(l.getD j default).r) (y:=(l.getD (j-1) default).r)).1 hc
      rw [e6] at this; exact this
    · rw [if_neg c]; exact e7 q (by omega) h4
theorem tY (h:InsInv ws l a i j) (h2:i<ws.length) (hc:j=a∨¬ cfR (l.getD j default).r (l.getD (j-1) default).r<0):SortSeg ws l a (i+1):=by
  obtain ⟨e1,e2,e3,e4,e5,e6,e7⟩:=h
  refine ⟨e3,e4,?_⟩
  have sl:seg l a (i+1)=seg l a j++l.getD j default::seg l (j+1) (i+1):=by
    rw [← cr (b:=j) (by omega) (by omega),← cr (l:=l) (a:=j) (b:=j+1) (c:=i+1) (by omega) (by omega),iY (by omega)]; rfl
  have sw:seg ws a (i+1)=seg ws a i++[ws.getD i default]:=by rw [← cr (b:=i) (by omega) (by omega),iY (by omega)]
  rw [sl,sw,e6]
  refine gw jS e5 (fun y hy=>?_) fun y hy=>?_
  · obtain ⟨q,h3,h4,rfl⟩:=fV (by omega) hy
    exact e7 q (by omega) (by omega)
  · obtain ⟨q,h3,h4,rfl⟩:=fV (by omega) hy
    rcases hc with hc | hc
    · omega
    · rw [lZ,e6] at hc
      change ¬ kLt (cu (ws.getD i default)) (cu (l.getD (j-1) default)) at hc
      by_cases c:q=j-1
      · rw [c]; exact hc
      · have ho:Ord kLt cu (seg l a (j-1)++seg l (j-1) j):=by rw [cr (by omega) (by omega)]; exact e5.1.left
        have hle:=ho.le _ (t8 (l:=l) (a:=a) (b:=j-1) (j:=q) (by omega) h3 (by omega)) _ (t8 (l:=l) (a:=j-1) (b:=j) (j:=j-1) (by omega) (by omega) (by omega))
        intro hlt
        rcases jS.tot (cu (l.getD q default)) (cu (l.getD (j-1) default)) with c1 | c1 | c1
        · exact hc (jS.tr _ _ _ hlt c1)
        · rw [c1] at hlt; exact hc hlt
        · exact hle c1
def InsO (ws l:List RecV) (a b i:Nat):Prop:=(b≤a∧l=ws)∨(a<b∧i≤b∧SortSeg ws l a i)
theorem xn (h:b≤ws.length):InsO ws ws a b (a+1):=by
  by_cases c:b≤a
  · exact .inl ⟨c,rfl⟩
  · exact .inr ⟨by omega,by omega,xo (by omega)⟩
theorem CH (h:InsO ws l a b i) (h1:a<i) (h2:i<b):SortSeg ws l a i:=by
  rcases h with ⟨h,_⟩ | ⟨_,_,h⟩
  · omega
  · exact h
theorem sW (h:SortSeg ws l a (i+1)) (h1:a<i) (h2:i<b):InsO ws l a b (i+1) := .inr ⟨by omega,by omega,h⟩
theorem CO (h:InsO ws l a b i) (h2:¬ i<b):SortSeg ws l a b:=by
  rcases h with ⟨h,e⟩ | ⟨_,h1,h⟩
  · rw [e]; exact ss h
  · rwa [show b=i by omega]
end
end Go.Wk
namespace Go.Wk
def kAt (l:List RecV) (q:Nat):Int × Int × Int:=cu (l.getD q default)
section
variable {ws l l2 l3:List RecV}{a b m i j k s r p h mid e:Nat}
theorem eV (ho:Ord kLt cu (seg ws a b)) (hb:b≤ws.length) {x y:Nat}(h1:a≤x) (h2:x<y) (h3:y<b):¬ kLt (kAt ws y) (kAt ws x):=by
  have h4:Ord kLt cu (seg ws a y++seg ws y b):=by rw [cr (by omega) (by omega)]; exact ho
  exact h4.le _ (t8 (by omega) h1 h2) _ (t8 hb (Nat.le_refl _) h3)
theorem EB (hb:b≤ws.length) (hh:∀ x y,a≤x→x<y→y<b→¬ kLt (kAt ws y) (kAt ws x)):Ord kLt cu (seg ws a b):=by
  have key:∀ n,∀ a,b-a≤n→(∀ x y,a≤x→x<y→y<b→¬ kLt (kAt ws y) (kAt ws x))→Ord kLt cu (seg ws a b):=by
    intro n
    induction n with
    | zero=>intro a h1 _; rw [ql (by omega)]; exact .nil
    | succ n ih=>
      intro a h1 h2
      by_cases c:a<b
      · rw [← cr (b:=a+1) (by omega) (by omega),iY (by omega)]
        refine .cons (fun y hy=>?_) (ih (a+1) (by omega) fun x y q1 q2 q3=>h2 x y (by omega) q2 q3)
        obtain ⟨q,q1,q2,rfl⟩:=fV hb hy
        exact h2 a q (Nat.le_refl _) (by omega) q2
      · rw [ql (by omega)]; exact .nil
  exact key _ a (Nat.le_refl _) hh
theorem lB (ho:Ord kLt cu (seg ws a b)) (hb:b≤ws.length) {x y:Nat}(h1:a≤x) (h2:y≤b):Ord kLt cu (seg ws x y):=
  EB (by omega) fun p q q1 q2 q3=>eV ho hb (by omega) q2 (by omega)
theorem AI {x y z:Int × Int × Int}(h1:¬ kLt y x) (h2:¬ kLt z y):¬ kLt z x:=fun h3=>by
  rcases jS.tot x y with c | c | c
  · exact h2 (jS.tr _ _ _ h3 c)
  · rw [← c] at h2; exact h2 h3
  · exact h1 c
theorem nx {x y z:Int × Int × Int}(h1:kLt x y) (h2:¬ kLt z y):kLt x z:=by
  rcases jS.tot y z with c | c | c
  · exact jS.tr _ _ _ h1 c
  · rw [← c]; exact h1
  · exact absurd c h2
theorem ua {x y z:Int × Int × Int}(h1:¬ kLt y x) (h2:kLt y z):kLt x z:=by
  rcases jS.tot x y with c | c | c
  · exact jS.tr _ _ _ c h2
  · rw [c]; exact h2
  · exact absurd c h1
def LoInv (ws:List RecV) (a m b i j:Nat):Prop:=m≤i∧i≤j∧j≤b∧(∀ q,m≤q→q<i→kLt (kAt ws q) (kAt ws a))∧∀ q,j≤q→q<b→¬ kLt (kAt ws q) (kAt ws a)
theorem CQ (h:m≤b):LoInv ws a m b m b:=⟨Nat.le_refl _,h,Nat.le_refl _,fun q h1 h2=>by omega,fun q h1 h2=>by omega⟩
theorem Ei (hI:LoInv ws a m b i j) (hb:b≤ws.length) (ho:Ord kLt cu (seg ws m b)) (h1:i≤h) (h2:h<j) (hc:cfR (ws.getD h default).r (ws.getD a default).r<0):LoInv ws a m b (h+1) j:=by
  obtain ⟨e1,e2,e3,e4,e5⟩:=hI
  have hc':kLt (kAt ws h) (kAt ws a):=lZ.1 hc
  refine ⟨by omega,by omega,e3,fun q q1 q2=>?_,e5⟩
  by_cases c:q=h
  · rw [c]; exact hc'
  · exact ua (eV ho hb q1 (by omega) (by omega)) hc'
theorem E5 (hI:LoInv ws a m b i j) (hb:b≤ws.length) (ho:Ord kLt cu (seg ws m b)) (h1:i≤h) (h2:h<j) (hc:¬ cfR (ws.getD h default).r (ws.getD a default).r<0):LoInv ws a m b i h:=by
  obtain ⟨e1,e2,e3,e4,e5⟩:=hI
  have hc':¬ kLt (kAt ws h) (kAt ws a):=fun x=>hc (lZ.2 x)
  refine ⟨e1,h1,by omega,e4,fun q q1 q2=>?_⟩
  by_cases c:q=h
  · rw [c]; exact hc'
  · exact AI hc' (eV ho hb (by omega) (by omega) q2)
def UpInv (ws l:List RecV) (a k:Nat):Prop:=a≤k∧k<ws.length∧l.length=ws.length∧(∀ q,q<a∨k<q→l.getD q default=ws.getD q default)∧(∀ q,a≤q→q<k→l.getD q default=ws.getD (q+1) default)∧l.getD k default=ws.getD a default
theorem CE (h:a<ws.length):UpInv ws ws a a:=⟨Nat.le_refl _,h,rfl,fun _ _=>rfl,fun q h1 h2=>by omega,rfl⟩
theorem zl (hI:UpInv ws l a k) (hk:k+1<ws.length):UpInv ws ((l.set k (l.getD (k+1) default)).set (k+1) (l.getD k default)) a (k+1):=by
  obtain ⟨e1,e2,e3,e4,e5,e6⟩:=hI
  have hg:∀ q,((l.set k (l.getD (k+1) default)).set (k+1) (l.getD k default)).getD q default=if q=k+1 then l.getD k default else if q=k then l.getD (k+1) default else l.getD q default:=fun q=>by
    rw [dE,dE,List.length_set]
    by_cases c1:q=k+1
    · rw [if_pos ⟨c1,by omega⟩,if_pos c1]
    · rw [if_neg (fun h=>c1 h.1),if_neg c1]
      by_cases c2:q=k
      · rw [if_pos ⟨c2,by omega⟩,if_pos c2]
      · rw [if_neg (fun h=>c2 h.1),if_neg c2]
  refine ⟨by omega,hk,by rw [List.length_set,List.length_set]; exact e3,fun q hq=>?_,fun q q1 q2=>?_,by rw [hg,if_pos rfl]; exact e6⟩
  · rw [hg,if_neg (by omega),if_neg (by omega)]; exact e4 q (by omega)
  · rw [hg,if_neg (by omega)]
    by_cases c:q=k
    · rw [if_pos c,c]; exact e4 _ (by omega)
    · rw [if_neg c]; exact e5 q q1 (by omega)
theorem En (hI:UpInv ws l a k) (hL:LoInv ws a (a+1) b (k+1) (k+1)) (hb:b≤ws.length) (ho:Ord kLt cu (seg ws (a+1) b)):SortSeg ws l a b:=by
  obtain ⟨e1,e2,e3,e4,e5,e6⟩:=hI
  obtain ⟨f1,f2,f3,f4,f5⟩:=hL
  have s1:seg l a k=seg ws (a+1) (k+1):=cJ (d:=default) (by rw [cK (by omega),cK (by omega)]; omega) fun q hq=>by
    rw [cK (by omega)] at hq
    rw [eQ (by omega),eQ (by omega),e5 _ (by omega) (by omega)]
    congr 1; omega
  have s2:seg l (k+1) b=seg ws (k+1) b:=fO (by omega) hb fun q q1 q2=>e4 q (by omega)
  have sl:seg l a b=seg ws (a+1) (k+1)++ws.getD a default::seg ws (k+1) b:=by
    rw [← cr (b:=k) (by omega) (by omega),← cr (l:=l) (a:=k) (b:=k+1) (c:=b) (by omega) (by omega),iY (by omega),s1,s2,e6]; rfl
  have sw:seg ws a b=[ws.getD a default]++(seg ws (a+1) (k+1)++seg ws (k+1) b):=by
    rw [cr (by omega) (by omega),← cr (l:=ws) (a:=a) (b:=a+1) (c:=b) (by omega) (by omega),iY (by omega)]
  refine ⟨e3,fun q hq=>e4 q (by omega),?_,?_⟩
  · rw [sl]
    refine (lB ho hb (Nat.le_refl _) f3).app (.cons (fun y hy=>?_) (lB ho hb (by omega) (Nat.le_refl _))) fun x hx y hy=>?_
    · obtain ⟨q,q1,q2,rfl⟩:=fV hb hy
      exact f5 q q1 q2
    · obtain ⟨q,q1,q2,rfl⟩:=fV (by omega) hx
      rcases List.mem_cons.1 hy with rfl | hy
      · exact fun hlt=>jS.irr _ (jS.tr _ _ _ hlt (f4 q q1 q2))
      · obtain ⟨q',q3,q4,rfl⟩:=fV hb hy
        exact eV ho hb q1 (by omega) q4
  · rw [sl,sw]
    have:cd cu ([ws.getD a default]++seg ws (a+1) (k+1)) (seg ws (a+1) (k+1)++[ws.getD a default]):=cd.swap fun x hx y hy ee=>by
      rw [List.mem_singleton] at hx
      subst hx
      obtain ⟨q,q1,q2,rfl⟩:=fV (by omega) hy
      have:=f4 q q1 q2
      unfold kAt at this
      rw [ee] at this
      exact jS.irr _ this
    have h2:=this.app (cd.refl (xs:=seg ws (k+1) b))
    rw [List.append_assoc,List.append_assoc] at h2
    exact h2
def HiInv (ws:List RecV) (a m i j:Nat):Prop:=a≤i∧i≤j∧j≤m∧(∀ q,a≤q→q<i→¬ kLt (kAt ws m) (kAt ws q))∧∀ q,j≤q→q<m→kLt (kAt ws m) (kAt ws q)
theorem Cv (h:a≤m):HiInv ws a m a m:=⟨Nat.le_refl _,h,Nat.le_refl _,fun q h1 h2=>by omega,fun q h1 h2=>by omega⟩
theorem Eb (hI:HiInv ws a m i j) (hb:m≤ws.length) (ho:Ord kLt cu (seg ws a m)) (h1:i≤h) (h2:h<j) (hc:¬ cfR (ws.getD m default).r (ws.getD h default).r<0):HiInv ws a m (h+1) j:=by
  obtain ⟨e1,e2,e3,e4,e5⟩:=hI
  have hc':¬ kLt (kAt ws m) (kAt ws h):=fun x=>hc (lZ.2 x)
  refine ⟨by omega,by omega,e3,fun q q1 q2=>?_,e5⟩
  by_cases c:q=h
  · rw [c]; exact hc'
  · exact AI (eV ho hb q1 (show q<h by omega) (by omega)) hc'
theorem Fb (hI:HiInv ws a m i j) (hb:m≤ws.length) (ho:Ord kLt cu (seg ws a m)) (h1:i≤h) (h2:h<j) (hc:cfR (ws.getD m default).r (ws.getD h default).r<0):HiInv ws a m i h:=by
  obtain ⟨e1,e2,e3,e4,e5⟩:=hI
  have hc':kLt (kAt ws m) (kAt ws h):=lZ.1 hc
  refine ⟨e1,h1,by omega,e4,fun q q1 q2=>?_⟩
  by_cases c:q=h
  · rw [c]; exact hc'
  · exact nx hc' (eV ho hb (by omega) (show h<q by omega) q2)
def DnInv (ws l:List RecV) (a m i k:Nat):Prop:=i≤k∧InsInv ws l a m k∧∀ q,q<k→l.getD q default=ws.getD q default
theorem Bv (hH:HiInv ws a m i i) (ho:Ord kLt cu (seg ws a m)):DnInv ws ws a m i m:=
  ⟨hH.2.2.1,te ⟨rfl,fun _ _=>rfl,ho,.refl⟩ (by have:=hH.1; have:=hH.2.2.1; omega),fun _ _=>rfl⟩
theorem zk (hI:DnInv ws l a m i k) (hH:HiInv ws a m i i) (h1:i<k) (h2:m<ws.length):DnInv ws ((l.set k (l.getD (k-1) default)).set (k-1) (l.getD k default)) a m i (k-1):=by
  obtain ⟨e1,e2,e3⟩:=hI
  have hk:k≤m:=e2.2.1
  have hlen:=e2.2.2.1
  have hai:=hH.1
  have hc:cfR (l.getD k default).r (l.getD (k-1) default).r<0:=by
    rw [lZ,e2.2.2.2.2.2.1,e3 (k-1) (by omega)]
    exact hH.2.2.2.2 (k-1) (by omega) (by omega)
  refine ⟨by omega,rn e2 (by omega) h2 hc,fun q hq=>?_⟩
  rw [dE,dE,List.length_set,if_neg (by omega),if_neg (by omega)]
  exact e3 q (by omega)
theorem Ec (hI:DnInv ws l a m i i) (hH:HiInv ws a m i i) (h2:m<ws.length):SortSeg ws l a (m+1):=by
  obtain ⟨e1,e2,e3⟩:=hI
  refine tY e2 h2 ?_
  by_cases c:i=a
  · exact .inl c
  · refine .inr fun hc=>?_
    have h3:=e2.1
    rw [lZ,e2.2.2.2.2.2.1,e3 (i-1) (by omega)] at hc
    exact hH.2.2.2.1 (i-1) (by omega) (by omega) hc
end
end Go.Wk
namespace Go.Wk
section
variable {ws l l2 l3:List RecV}{a b m s r p s0 r0 h e mid:Nat}
theorem jw (h:Ord kLt cu (seg ws a b)):SortSeg ws ws a b:=⟨rfl,fun _ _=>rfl,h,.refl⟩
def MidInv (ws:List RecV) (p s0 r0 s r:Nat):Prop:=s0≤s∧s≤r∧r≤r0∧(∀ c,s0≤c→c<s→¬ kLt (kAt ws (p-c)) (kAt ws c))∧∀ c,r≤c→c<r0→kLt (kAt ws (p-c)) (kAt ws c)
theorem Au (h:s0≤r0):MidInv ws p s0 r0 s0 r0:=⟨Nat.le_refl _,h,Nat.le_refl _,fun q h1 h2=>by omega,fun q h1 h2=>by omega⟩
def MidOK (ws:List RecV) (a m b p s0 r0:Nat):Prop:=a≤s0∧r0≤m∧m+r0≤p+1∧p<b+s0∧b≤ws.length∧Ord kLt cu (seg ws a m)∧Ord kLt cu (seg ws m b)∧m≤b
theorem Dn (hI:MidInv ws p s0 r0 s r) (hk:MidOK ws a m b p s0 r0) (h1:s≤h) (h2:h<r) (hc:¬ cfR (ws.getD (p-h) default).r (ws.getD h default).r<0):MidInv ws p s0 r0 (h+1) r:=by
  obtain ⟨e1,e2,e3,e4,e5⟩:=hI
  obtain ⟨k1,k2,k3,k4,k5,k6,k7,k8⟩:=hk
  have hc':¬ kLt (kAt ws (p-h)) (kAt ws h):=fun x=>hc (lZ.2 x)
  refine ⟨by omega,by omega,e3,fun c q1 q2=>?_,e5⟩
  by_cases cc:c=h
  · rw [cc]; exact hc'
  · exact AI (eV k6 (by omega) (by omega) (show c<h by omega) (by omega)) (AI hc' (eV k7 k5 (by omega) (show p-h<p-c by omega) (by omega)))
theorem Es (hI:MidInv ws p s0 r0 s r) (hk:MidOK ws a m b p s0 r0) (h1:s≤h) (h2:h<r) (hc:cfR (ws.getD (p-h) default).r (ws.getD h default).r<0):MidInv ws p s0 r0 s h:=by
  obtain ⟨e1,e2,e3,e4,e5⟩:=hI
  obtain ⟨k1,k2,k3,k4,k5,k6,k7,k8⟩:=hk
  have hc':kLt (kAt ws (p-h)) (kAt ws h):=lZ.1 hc
  refine ⟨e1,h1,by omega,e4,fun c q1 q2=>?_⟩
  by_cases cc:c=h
  · rw [cc]; exact hc'
  · exact ua (eV k7 k5 (by omega) (show p-c<p-h by omega) (by omega)) (nx hc' (eV k6 (by omega) (by omega) (show h<c by omega) (by omega)))
def SymL (ws l:List RecV) (a s mid e b:Nat):Prop:=l.length=ws.length∧(∀ q,q<a∨b≤q→l.getD q default=ws.getD q default)∧cd cu (seg ws a b) (seg l a b) ∧
  (∀ x,a≤x→x<mid→∀ y,mid≤y→y<b→¬ kLt (kAt l y) (kAt l x))∧Ord kLt cu (seg l a s)∧Ord kLt cu (seg l s mid)∧Ord kLt cu (seg l mid e)∧Ord kLt cu (seg l e b)
theorem u0 (hI:MidInv ws p s0 r0 s s) (hk:MidOK ws a m b p s0 r0) (g1:s0=a∨p+1=b+s0) (g2:r0=m∨p+1=m+r0) (hmid:mid+m=p+1) (he:e+s=p+1):SymL ws (eU ws s m e) a s mid e b:=by
  obtain ⟨e1,e2,e3,e4,e5⟩:=hI
  obtain ⟨k1,k2,k3,k4,k5,k6,k7,k8⟩:=hk
  have hs:s≤m:=by omega
  have hme:m≤e:=by omega
  have heb:e≤b:=by omega
  have hmd:mid=s+(e-m):=by omega
  have hlen:=hZ (l:=ws) hs hme (by omega)
  have hg:∀ q,(eU ws s m e).getD q default=ws.getD (if q<s then q else if q<mid then m+(q-s) else if q<e then s+(q-mid) else q) default:=fun q=>by
    rw [kB hs hme (by omega)]
    congr 1
    (repeat' split)<;>omega
  have kg:∀ q,kAt (eU ws s m e) q=kAt ws (if q<s then q else if q<mid then m+(q-s) else if q<e then s+(q-mid) else q):=fun q=>congrArg cu (hg q)
  have hx:∀ x,a≤x→x<s→∀ y,e≤y→y<b→¬ kLt (kAt ws y) (kAt ws x):=fun x h1 h2 y h3 h4=>by
    by_cases c:s0<s
    · have h5:=e4 (s-1) (by omega) (by omega)
      rw [show p-(s-1)=e by omega] at h5
      have h6:¬ kLt (kAt ws e) (kAt ws x):=by
        by_cases c2:x=s-1
        · rw [c2]; exact h5
        · exact AI (eV k6 (by omega) h1 (show x<s-1 by omega) (by omega)) h5
      by_cases c3:y=e
      · rw [c3]; exact h6
      · exact AI h6 (eV k7 k5 hme (show e<y by omega) h4)
    · rcases g1 with g1 | g1<;>omega
  have hy:∀ x,s≤x→x<m→∀ y,m≤y→y<e→kLt (kAt ws y) (kAt ws x):=fun x h1 h2 y h3 h4=>by
    by_cases c:s<r0
    · have h5:=e5 s (Nat.le_refl _) c
      have h6:kLt (kAt ws y) (kAt ws s):=by
        by_cases c2:y=p-s
        · rw [c2]; exact h5
        · exact ua (eV k7 k5 h3 (show y<p-s by omega) (by omega)) h5
      by_cases c3:x=s
      · rw [c3]; exact h6
      · exact nx h6 (eV k6 (by omega) (by omega) (show s<x by omega) h2)
    · rcases g2 with g2 | g2<;>omega
  have s1:seg (eU ws s m e) a s=seg ws a s:=fO (by omega) (by omega) fun q q1 q2=>by rw [hg,if_pos (by omega)]
  have s2:seg (eU ws s m e) s mid=seg ws m e:=cJ (d:=default) (by rw [cK (by omega),cK (by omega)]; omega) fun q hq=>by
    rw [cK (by omega)] at hq
    rw [eQ (by omega),eQ (by omega),hg,if_neg (by omega),if_pos (by omega)]; congr 1; omega
  have s3:seg (eU ws s m e) mid e=seg ws s m:=cJ (d:=default) (by rw [cK (by omega),cK (by omega)]; omega) fun q hq=>by
    rw [cK (by omega)] at hq
    rw [eQ (by omega),eQ (by omega),hg,if_neg (by omega),if_neg (by omega),if_pos (by omega)]; congr 1; omega
  have s4:seg (eU ws s m e) e b=seg ws e b:=fO (by omega) (by omega) fun q q1 q2=>by rw [hg,if_neg (by omega),if_neg (by omega),if_neg (by omega)]
  refine ⟨hlen,fun q hq=>?_,?_,fun x q1 q2 y q3 q4=>?_,?_,?_,?_,?_⟩
  · rw [hg]
    by_cases c:q<s
    · rw [if_pos c]
    · rw [if_neg c,if_neg (by omega),if_neg (by omega)]
  · have t1:seg (eU ws s m e) a b=seg ws a s++((seg ws m e++seg ws s m)++seg ws e b):=by
      rw [← cr (b:=s) (by omega) (by omega),← cr (l:=eU ws s m e) (a:=s) (b:=e) (c:=b) (by omega) (by omega),← cr (l:=eU ws s m e) (a:=s) (b:=mid) (c:=e) (by omega) (by omega),s1,s2,s3,s4]
    have t2:seg ws a b=seg ws a s++((seg ws s m++seg ws m e)++seg ws e b):=by
      rw [cr (a:=s) hs hme,cr (by omega) heb,cr (by omega) (by omega)]
    rw [t1,t2]
    refine cd.refl.app ((cd.swap fun x hx' y hy' ee=>?_).app .refl)
    obtain ⟨q,q1,q2,rfl⟩:=fV (by omega) hx'
    obtain ⟨q',q3,q4,rfl⟩:=fV (by omega) hy'
    have:=hy q q1 q2 q' q3 q4
    unfold kAt at this
    rw [ee] at this
    exact jS.irr _ this
  · rw [kg,kg,if_neg (show ¬ y<s by omega),if_neg (show ¬ y<mid by omega)]
    by_cases c1:x<s
    · rw [if_pos c1]
      by_cases c2:y<e
      · rw [if_pos c2]; exact eV k6 (by omega) q1 (by omega) (by omega)
      · rw [if_neg c2]; exact hx x q1 c1 y (by omega) q4
    · rw [if_neg c1,if_pos q2]
      by_cases c2:y<e
      · rw [if_pos c2]
        exact fun hlt=>jS.irr _ (jS.tr _ _ _ hlt (hy _ (by omega) (by omega) _ (by omega) (by omega)))
      · rw [if_neg c2]; exact eV k7 k5 (by omega) (by omega) q4
  · rw [s1]; exact lB k6 (by omega) (Nat.le_refl _) hs
  · rw [s2]; exact lB k7 k5 (Nat.le_refl _) heb
  · rw [s3]; exact lB k6 (by omega) (by omega) (Nat.le_refl _)
  · rw [s4]; exact lB k7 k5 hme (Nat.le_refl _)
theorem vG (h:s=m∨e=m) (hs:s≤m) (hm:m≤e) (he:e≤ws.length):eU ws s m e=ws:=
  nI (hZ hs hm he) fun j=>by
    rw [kB hs hm he]
    congr 1
    (repeat' split)<;>omega
theorem qH (hS:SymL ws l a s mid e b) (h1:SortSeg l l2 a mid) (h2:SortSeg l2 l3 mid b) (ha:a≤mid) (hm:mid≤b) (hb:b≤ws.length):SortSeg ws l3 a b:=by
  obtain ⟨e1,e2,e3,e4,_⟩:=hS
  obtain ⟨f1,f2,f3,f4⟩:=h1
  obtain ⟨g1,g2,g3,g4⟩:=h2
  have t1:seg l3 a mid=seg l2 a mid:=fO (by omega) (by omega) fun q q1 q2=>g2 q (by omega)
  have t2:seg l2 mid b=seg l mid b:=fO (by omega) (by omega) fun q q1 q2=>f2 q (by omega)
  rw [t2] at g4
  refine ⟨by omega,fun q hq=>by rw [g2 q (by omega),f2 q (by omega),e2 q hq],?_,?_⟩
  · rw [← cr (b:=mid) ha hm,t1]
    refine f3.app g3 fun x hx y hy=>?_
    obtain ⟨q,q1,q2,rfl⟩:=fV (l:=l) (by omega) (f4.mem hx)
    obtain ⟨q',q3,q4,rfl⟩:=fV (l:=l) (by omega) (g4.mem hy)
    exact e4 q q1 q2 q' q3 q4
  · refine e3.trans ?_
    rw [← cr (l:=l) (b:=mid) ha hm,← cr (l:=l3) (b:=mid) ha hm,t1]
    exact f4.app g4
end
theorem qr {l l2:List RecV}{a mid x y:Nat}(h:SortSeg l l2 a mid) (h1:mid≤x) (h2:y≤l.length):seg l2 x y=seg l x y:=
  fO (by have:=h.1; omega) h2 fun q q1 _=>h.2.1 q (by omega)
section
variable {P:Program}{n:Nat}{L:Env}{w:World}{d:Option Tmp}{ty:TypeId}{p:String}{af:Array Edge}{g:Option (Nat × Bool)}
theorem np {xt yt:TypeId}{x y:Operand}{k1 k2:IntKind}{m:Nat}(hx:evL L x=some (.int k1 (m:Nat))) (hy:evL L y=some (.int k2 1)) (hk:k1 = .u64):Py P n L w ⟨d,.binOp .shr xt x y yt,ty,p,af,g⟩ (.int k1 ((m / 2:Nat):Int)):=by
  subst hk
  have h:=wA (P:=P) (n:=n) (w:=w) (d:=d) (ty:=ty) (p:=p) (af:=af) (g:=g) (xt:=xt) (yt:=yt) hx hy (by omega)
  have e:(m:Int).fdiv (2^min (1:Int).toNat IntKind.u64.bits)=((m / 2:Nat):Int):=by
    show (m:Int).fdiv (2^1)=_
    rw [Int.fdiv_eq_ediv_of_nonneg _ (by omega)]
    omega
  rw [e] at h
  exact h
end
end Go.Wk
namespace Go.Wk
section
variable {ws l:List RecV}{a b bs c e x y:Nat}
theorem sO {l l':List RecV}(h:SortSeg l l' a b) (hab:a≤b) (hb:b≤l.length):cd cu l l':=by
  obtain ⟨h1,h2,h3⟩:=h
  have e1:l=seg l 0 a++(seg l a b++seg l b l.length):=by
    rw [cr hab hb,cr (Nat.zero_le _) (by omega)]; unfold seg; rw [List.take_length,List.drop_zero]
  have e2:l'=seg l 0 a++(seg l' a b++seg l b l.length):=by
    rw [fO (by omega) (by omega) (fun j _ q=>(h2 j (.inl q)).symm) (a:=0) (b:=a) (xs:=l) (ys:=l'),fO (Nat.le_refl _) (by omega) (fun j q _=>(h2 j (.inr q)).symm) (a:=b) (b:=l.length) (xs:=l) (ys:=l')]
    rw [cr hab (by omega),cr (Nat.zero_le _) (by omega)]; unfold seg; rw [← h1,List.take_length,List.drop_zero]
  intro k
  have:=(cd.app (cd.refl (key:=cu) (xs:=seg l 0 a)) (cd.app h3.2 (cd.refl (key:=cu) (xs:=seg l b l.length)))) k
  rw [e2]; conv=>rhs; rw [e1]
  exact this
theorem Am {l l':List RecV}(h:SortSeg l l' a b) (hx:y≤a∨b≤x) (hy:y≤l.length):seg l' x y=seg l x y:=
  fO (by have:=h.1; omega) hy fun j q1 q2=>h.2.1 j (by omega)
def OrdAt (l:List RecV) (bs c:Nat):Prop:=Ord kLt cu (seg l c (min (c+bs) l.length))
def Blocks (ws l:List RecV) (bs a:Nat):Prop:=l.length=ws.length∧cd cu ws l∧bs ∣ a∧a≤ws.length∧∀ c,bs ∣ c→c<a→OrdAt l bs c
def AllB (ws l:List RecV) (bs:Nat):Prop:=l.length=ws.length∧cd cu ws l∧∀ c,bs ∣ c→c<ws.length→OrdAt l bs c
theorem uc {bs c a:Nat}(h1:bs ∣ c) (h2:bs ∣ a) (h:c<a):c+bs≤a:=by
  obtain ⟨x,rfl⟩:=h1; obtain ⟨y,rfl⟩:=h2
  have:x<y:=Nat.lt_of_mul_lt_mul_left h
  calc bs*x+bs=bs*(x+1):=by rw [Nat.mul_add,Nat.mul_one]
    _≤bs*y:=Nat.mul_le_mul_left _ this
theorem Cw:Blocks ws ws bs 0:=⟨rfl,.refl,Nat.dvd_zero _,Nat.zero_le _,fun c _ h=>by omega⟩
theorem uf {l l':List RecV}(hs:SortSeg l l' a b) (hc:c+bs≤a∨b≤c) (h:OrdAt l bs c):OrdAt l' bs c:=by
  unfold OrdAt at h ⊢
  rw [hs.1,Am hs (by omega) (by omega)]; exact h
theorem zo {l l':List RecV}(hI:Blocks ws l bs a) (h0:0<bs) (h:a+bs≤ws.length) (hs:SortSeg l l' a (a+bs)):Blocks ws l' bs (a+bs):=by
  obtain ⟨h1,h2,h3,h4,h5⟩:=hI
  have e:=hs.1
  refine ⟨by omega,h2.trans (sO hs (by omega) (by omega)),Nat.dvd_add h3 (Nat.dvd_refl _),h,fun c q1 q2=>?_⟩
  by_cases hc:c<a
  · exact uf hs (.inl (uc q1 h3 hc)) (h5 c q1 hc)
  · have:c=a:=by
      by_cases hca:c=a
      · exact hca
      · have:=uc h3 q1 (by omega); omega
    subst this
    unfold OrdAt; rw [show min (c+bs) l'.length=c+bs by omega]; exact hs.2.2.1
theorem zm {l l':List RecV}(hI:Blocks ws l bs a) (h:ws.length<a+bs) (hs:SortSeg l l' a ws.length):AllB ws l' bs:=by
  obtain ⟨h1,h2,h3,h4,h5⟩:=hI
  have e:=hs.1
  refine ⟨by omega,h2.trans (sO hs (by omega) (by omega)),fun c q1 q2=>?_⟩
  by_cases hc:c<a
  · exact uf hs (.inl (uc q1 h3 hc)) (h5 c q1 hc)
  · have:c=a:=by
      by_cases hca:c=a
      · exact hca
      · have:=uc h3 q1 (by omega); omega
    subst this
    unfold OrdAt; rw [show min (c+bs) l'.length=ws.length by omega]; exact hs.2.2.1
def TwoB (ws l:List RecV) (bs a:Nat):Prop:=Blocks ws l (2*bs) a∧∀ c,bs ∣ c→a≤c→c<ws.length→OrdAt l bs c
theorem AO (h:AllB ws l bs):TwoB ws l bs 0:=⟨⟨h.1,h.2.1,Nat.dvd_zero _,Nat.zero_le _,fun c _ q=>by omega⟩,fun c q _=>h.2.2 c q⟩
theorem qJ {bs c:Nat}(h:2*bs ∣ c):bs ∣ c:=Nat.dvd_trans (Nat.dvd_mul_left _ _) h
theorem DT (h:TwoB ws l bs a) (h1:a+bs≤ws.length) (h0:0<bs):Ord kLt cu (seg l a (a+bs)):=by
  have:=h.2 a (qJ h.1.2.2.1) (Nat.le_refl _) (by omega)
  unfold OrdAt at this
  rwa [show min (a+bs) l.length=a+bs by have:=h.1.1; omega] at this
theorem DY (h:TwoB ws l bs a) (h1:a+bs<ws.length) (he:e=min (a+bs+bs) ws.length):Ord kLt cu (seg l (a+bs) e):=by
  have:=h.2 (a+bs) (Nat.dvd_add (qJ h.1.2.2.1) (Nat.dvd_refl _)) (by omega) h1
  unfold OrdAt at this
  rw [h.1.1] at this
  rw [he]; exact this
theorem Cb {l l':List RecV}(hI:TwoB ws l bs a) (h0:0<bs) (h:a+2*bs≤ws.length) (hs:SortSeg l l' a (a+2*bs)):TwoB ws l' bs (a+2*bs):=
  ⟨zo hI.1 (by omega) h hs,fun c q1 q2 q3=>uf hs (.inr q2) (hI.2 c q1 (by omega) q3)⟩
theorem uO {l l':List RecV}(hI:TwoB ws l bs a) (h:ws.length<a+2*bs) (hs:SortSeg l l' a ws.length):AllB ws l' (2*bs):=zm hI.1 h hs
theorem BE (hI:TwoB ws l bs a) (h0:0<bs) (h:ws.length≤a+bs):AllB ws l (2*bs):=by
  have e:=hI.1.1
  refine uO hI (by omega) ?_
  by_cases ha:a<ws.length
  · have:=hI.2 a (qJ hI.1.2.2.1) (Nat.le_refl _) ha
    unfold OrdAt at this
    rw [show min (a+bs) l.length=ws.length by omega] at this
    exact jw this
  · exact ss (by omega)
theorem De (h:AllB ws l bs) (h1:ws.length≤bs) (h0:0<ws.length):SortSeg ws l 0 ws.length:=by
  have:=h.2.2 0 (Nat.dvd_zero _) h0
  unfold OrdAt at this
  rw [show min (0+bs) l.length=ws.length by have:=h.1; omega] at this
  refine ⟨h.1,fun q hq=>?_,this,?_⟩
  · have h':=h.1
    rw [List.getD_eq_getElem?_getD,List.getD_eq_getElem?_getD,List.getElem?_eq_none (by omega),List.getElem?_eq_none (by omega)]
  · have e:∀ (x:List RecV),x.length=ws.length→seg x 0 ws.length=x:=fun x hx=>by unfold seg; rw [← hx,List.take_length,List.drop_zero]
    rw [e l h.1,e ws rfl]; exact h.2.1
theorem BB (h:SortSeg ws l 0 ws.length):Stable kLt cu ws l:=by
  have e:∀ (x:List RecV),x.length=ws.length→seg x 0 ws.length=x:=fun x hx=>by unfold seg; rw [← hx,List.take_length,List.drop_zero]
  have:=h.2.2; rw [e l h.1,e ws rfl] at this; exact this
end
end Go.Wk
namespace Go.Wk
open Rp (sz own)
def RdV (w:World) (ft:List Nat) (vs:List RecV):Prop:=∀ v∈vs,∃ f,own false w v.cs v.r f∧∀ b∈f,b∈ft
section
variable {w w':World}{ft f:List Nat}{vs us:List RecV}
theorem RdV.to (h:RdV w ft vs) (e:Ext No w w'):RdV w' ft vs:=fun v hv=>by
  obtain ⟨f,h1,h2⟩:=h v hv
  exact ⟨f,Rp.st h1 fun b hb=>e.block b (Rp.lt h1 b hb) id,h2⟩
theorem RdV.sub (h:RdV w ft vs) (hs:∀ v∈us,v∈vs):RdV w ft us:=fun v hv=>h v (hs v hv)
theorem RdV.nil:RdV w ft []:=fun v hv=>by simp at hv
theorem RdV.app (h:RdV w ft vs) (k:RdV w ft us):RdV w ft (vs++us):=fun v hv=>by
  rcases List.mem_append.1 hv with hv | hv
  · exact h v hv
  · exact k v hv
theorem RdV.at {k:Nat}(h:RdV w ft vs) (hk:k<vs.length):RdV w ft [vs.getD k default]:=fun v hv=>by
  rw [List.mem_singleton] at hv
  rw [hv,cf hk]
  exact h _ (List.getElem_mem _)
theorem so:∀ {vs:List RecV}{cs f0},bG false w cs vs f0→RdV w ft vs→∃ f,bG false w cs (vs.map RecV.r) f∧∀ b∈f,b∈ft
  | [],_,_,h,_=>⟨[],rfl,by simp⟩
  | v::vs,cs,f0,⟨g1,g2,e0,⟨e1,eg,ok⟩,h2⟩,hr=>by
    obtain ⟨f1,k1,k2⟩:=hr v (by simp)
    obtain ⟨f2,r1,r2⟩:=so h2 (hr.sub fun x hx=>by simp [hx])
    refine ⟨f1++f2,⟨f1,f2,rfl,?_,r1⟩,fun b hb=>?_⟩
    · rw [show cs.take (sz Rec)=v.cs from e1]; exact k1
    · rcases List.mem_append.1 hb with hb | hb
      · exact k2 b hb
      · exact r2 b hb
theorem Bz {s:Bool}{ad n cap} {f0} (h:own s w [.slice ad n cap] vs f0) (hr:RdV w ft vs):∃ f,own false w [.slice ad n cap] (vs.map RecV.r) f∧∀ b∈f,b∈f0∨b∈ft:=by
  have el:(vs.map RecV.r).length=vs.length:=List.length_map _
  rcases bu h with ⟨hf,A,C,e,rfl,rfl⟩ | ⟨e,rfl,rfl⟩ | ⟨b,o,cap',cur,T,fr,fs,h1,h2,h3,h4,h5,h6,h7,h8⟩
  · exact ⟨[],.inl ⟨rfl,A,C,e,rfl,rfl⟩,by simp⟩
  · exact ⟨[],.inr (.inl ⟨e,rfl,rfl⟩),by simp⟩
  · obtain ⟨f1,k1,k2⟩:=so h8 hr
    refine ⟨b::f1,.inr (.inr ⟨b,o,cap',cur,T,fr,f1,by rw [el]; exact h1,rfl,h3,h4,by rw [el]; exact h5,h6,h7,k1⟩),fun x hx=>?_⟩
    rcases List.mem_cons.1 hx with rfl | hx
    · left; rw [h2]; simp
    · exact .inr (k2 x hx)
theorem RdV.sees {v:RecV}(h:RdV w ft vs) (hv:v∈vs):v.r.Ok∧Sees w [.slice v.A6 v.r.Rows.length v.C6] v.r.Rows∧Sees w [.slice v.A7 v.r.Data.length v.C7] v.r.Data∧Sees w [.slice v.A8 v.r.Delta.length v.C8] v.r.Delta:=by
  obtain ⟨f,h1,_⟩:=h v hv
  obtain ⟨f6,f7,f8,_,ok,o6,o7,o8⟩:=va h1
  exact ⟨ok,⟨_,o6⟩,⟨_,o7⟩,⟨_,o8⟩⟩
end
theorem DP {vs:List RecV}(h:Ord kLt cu vs):Ord kLt cL (vs.map RecV.r):=by
  induction h with
  | nil=>exact .nil
  | cons h1 h2 ih=>exact .cons (fun y hy=>by obtain ⟨v,hv,rfl⟩:=List.mem_map.1 hy; exact h1 v hv) ih
theorem CF {vs us:List RecV}(h:cd cu vs us):cd cL (vs.map RecV.r) (us.map RecV.r):=fun k=>by
  rw [List.filter_map,List.filter_map]
  exact congrArg (List.map RecV.r) (h k)
theorem zg {vs us:List RecV}(h:Stable kLt cu vs us):Stable kLt cL (vs.map RecV.r) (us.map RecV.r):=⟨DP h.1,CF h.2⟩
theorem DR {ys:List Rec}(x:Rec) (h:Ord kLt cL ys):∃ A B,ys=A++B∧(∀ y∈B,kLt (cL x) (cL y))∧∀ y∈A,¬ kLt (cL x) (cL y):=by
  induction h with
  | nil=>exact ⟨[],[],rfl,by simp,by simp⟩
  | cons h1 h2 ih=>
    rename_i y l
    by_cases c:kLt (cL x) (cL y)
    · refine ⟨[],y::l,rfl,fun z hz=>?_,by simp⟩
      rcases List.mem_cons.1 hz with rfl | hz
      · exact c
      · exact nx c (h1 z hz)
    · obtain ⟨A,B,e,hB,hA⟩:=ih
      refine ⟨y::A,B,by rw [e]; rfl,hB,fun z hz=>?_⟩
      rcases List.mem_cons.1 hz with rfl | hz
      · exact c
      · exact hA z hz
theorem vA (xs:List Rec) (x:Rec) (h:∃ ys,Stable kLt cL xs ys):∃ ys,Stable kLt cL (xs++[x]) ys:=by
  obtain ⟨ys,hy⟩:=h
  obtain ⟨A,B,rfl,hB,hA⟩:=DR x hy.1
  exact ⟨_,gw jS hy hB hA⟩
theorem lI (xs:List Rec):∃ ys,Stable kLt cL xs ys:=by
  have:∀ (n:Nat),∃ ys,Stable kLt cL (xs.take n) ys:=fun n=>by
    induction n with
    | zero=>exact ⟨[],by simp; exact ⟨.nil,.refl⟩⟩
    | succ n ih=>
      by_cases hn:n<xs.length
      · rw [List.take_add_one,List.getElem?_eq_getElem hn]; exact vA _ _ ih
      · rw [List.take_of_length_le (by omega)] at ih ⊢; exact ih
  have:=this xs.length
  rwa [List.take_length] at this
noncomputable def Fg (xs:List Rec):List Rec:=(lI xs).choose
theorem Dh {xs ys:List Rec}(h:Stable kLt cL xs ys):ys=Fg xs:=mf jS h (lI xs).choose_spec
noncomputable def ddR (out:List Rec) (r:Rec):List Rec:=if r∈out then out else out++[r]
noncomputable def allR (z:Wld) (k:Nat):List Rec:=((z.Tapes.take k).map Tape.Recs).flatten
noncomputable def dds (rs:List Rec):List Rec:=rs.foldl ddR []
noncomputable def bZ (z:Wld):List Rec:=Fg (dds (allR z z.Tapes.length))
noncomputable def eH (z:Wld) (k j:Nat):List Rec:=dds (allR z k++(z.Tapes.getD k default).Recs.take j)
theorem qn {z:Wld}:eH z 0 0=[]:=by simp [eH,allR,dds]
theorem dW {z:Wld}{k j:Nat}(h:j<(z.Tapes.getD k default).Recs.length):eH z k (j+1)=ddR (eH z k j) ((z.Tapes.getD k default).Recs.getD j default):=by
  unfold eH dds
  rw [List.take_add_one,List.getElem?_eq_getElem h,cf h,← List.append_assoc,List.foldl_append]
  rfl
theorem rI {z:Wld}{k:Nat}(h:k<z.Tapes.length):eH z k (z.Tapes.getD k default).Recs.length=eH z (k+1) 0:=by
  unfold eH allR
  rw [List.take_length,List.take_add_one,List.getElem?_eq_getElem h,cf h,List.take_zero,List.append_nil,List.map_append,List.flatten_append]
  simp only [Option.toList_some,List.map_cons,List.map_nil,List.flatten_cons,List.flatten_nil,List.append_nil]
theorem tE {z:Wld}{ys:List Rec}(h:Stable kLt cL (eH z z.Tapes.length 0) ys):ys=bZ z:=by
  unfold bZ
  rw [← Dh]
  unfold eH at h
  simpa using h
theorem Ct {out:List Rec}{r:Rec}(h:r∈out):ddR out r=out:=if_pos h
theorem rM {out:List Rec}{r:Rec}(h:¬ r∈out):ddR out r=out++[r]:=if_neg h
theorem fz {xs ys:List Rec}(h:Stable kLt cL xs ys) (r:Rec):r∈ys↔r∈xs:=⟨fun q=>h.2.mem q,fun q=>h.2.symm.mem q⟩
theorem Ae {z:Wld}:∀ {k j:Nat},(eH z k j).length≤(allR z k).length+j:=by
  intro k j
  have key:∀ (rs out:List Rec),(rs.foldl ddR out).length≤out.length+rs.length:=by
    intro rs
    induction rs with
    | nil=>intro out; simp
    | cons r rs ih=>
      intro out
      have:=ih (ddR out r)
      have h2:(ddR out r).length≤out.length+1:=by unfold ddR; split<;>simp
      simp only [List.foldl_cons,List.length_cons]
      omega
  have:=key (allR z k++(z.Tapes.getD k default).Recs.take j) []
  unfold eH dds
  simp only [List.length_nil,List.length_append,List.length_take] at this
  omega
def orI:List Int→Int
  | []=>0
  | x::xs=>if x=0 then orI xs else x
theorem Ce:∀ {xs:List Int}{k:Nat},k<xs.length→(∀ i,i<k→xs.getD i 0=0)→xs.getD k 0≠0→orI xs=xs.getD k 0
  | [],k,h,_,_=>by simp at h
  | x::xs,0,_,_,h2=>if_neg h2
  | x::xs,k+1,h,h1,h2=>by
    have h0:x=0:=h1 0 (by omega)
    show (if x=0 then orI xs else x)=_
    rw [if_pos h0,Ce (k:=k) (by simpa using h) (fun i hi=>h1 (i+1) (by omega)) h2]
    rfl
theorem DZ:∀ {xs:List Int},(∀ i,i<xs.length→xs.getD i 0=0)→orI xs=0
  | [],_=>rfl
  | x::xs,h=>by
    have h0:x=0:=h 0 (by simp)
    show (if x=0 then orI xs else x)=_
    rw [if_pos h0]
    exact DZ fun i hi=>h (i+1) (by simpa using hi)
theorem E9 {x y:Rec}:orI [gY x.Seq y.Seq,gY x.Kind y.Kind,gY x.Group y.Group]=cfR x y:=by
  unfold cfR orI orI orI orI
  by_cases a:gY x.Seq y.Seq=0<;>by_cases b:gY x.Kind y.Kind=0<;>by_cases c:gY x.Group y.Group=0<;>simp [a,b,c]
end Go.Wk
namespace Go.Wk
open Rp (sz own)
def gj (p:Rec→Bool) (rs:List Rec):Nat→Int
  | 0 => -1
  | k+1=>if p (rs.getD k default)=true then (k:Int) else gj p rs k
def ct (p:Rec→Bool) (rs:List Rec):Int:=gj p rs rs.length
section
variable {p:Rec→Bool}{rs:List Rec}{k:Nat}
theorem mM (h:p (rs.getD k default)=true):gj p rs (k+1)=k:=if_pos h
theorem oK (h:p (rs.getD k default)=false):gj p rs (k+1)=gj p rs k:=if_neg (by rw [h]; simp)
theorem tB:∀ (k:Nat),-1≤gj p rs k∧gj p rs k<k
  | 0=>by simp [gj]
  | k+1=>by
    have:=tB k
    rw [gj]
    split<;>omega
theorem BI : -1≤ct p rs∧ct p rs<rs.length:=tB rs.length
end
end Go.Wk
namespace Go.Wk
open Rp (sz own)
section
variable {w w' w0:World}{ft f:List Nat}{vs us:List RecV}{M:Nat→Prop}{Δ F:List Rsc}
theorem RdV.back (h:RdV w' ft vs) (e:Ext No w w') (hl:∀ b∈ft,b<w.heap.size):RdV w ft vs:=fun v hv=>by
  obtain ⟨f,h1,h2⟩:=h v hv
  exact ⟨f,Rp.st h1 fun b hb=>(e.block b (hl b (h2 b hb)) id).symm,h2⟩
def InF {α:Type}[Rp α] (w:World) (ft:List Nat) (cs:List Value) (x:α):Prop:=∃ f,own false w cs x f∧∀ b∈f,b∈ft
theorem RdV.inAt {k:Nat}(h:RdV w ft vs) (hk:k<vs.length):InF w ft (vs.getD k default).cs (vs.getD k default).r:=h _ (by rw [cf hk]; exact List.getElem_mem _)
theorem InF.to {α:Type}[Rp α] {cs:List Value}{x:α}(h:InF w ft cs x) (e:Ext No w w'):InF w' ft cs x:=by
  obtain ⟨f,h1,h2⟩:=h
  exact ⟨f,Rp.st h1 fun b hb=>e.block b (Rp.lt h1 b hb) id,h2⟩
theorem InF.back {α:Type}[Rp α] {cs:List Value}{x:α}(h:InF w' ft cs x) (e:Ext No w w') (hl:∀ b∈ft,b<w.heap.size):InF w ft cs x:=by
  obtain ⟨f,h1,h2⟩:=h
  exact ⟨f,Rp.st h1 fun b hb=>(e.block b (hl b (h2 b hb)) id).symm,h2⟩
theorem InF.val {v:RecV}{x:Rec}(h:InF w ft v.cs v.r) (e:v.r=x):InF w ft (RecV.mk x v.A6 v.C6 v.A7 v.C7 v.A8 v.C8).cs x:=by subst e; exact h
theorem InF.rdv {v:RecV}(h:InF w ft v.cs v.r):RdV w ft [v]:=fun u hu=>by
  rw [List.mem_singleton] at hu; subst hu; exact h
theorem CG:InF w ft (RecV.mk default none 0 none 0 none 0).cs (default:Rec):=⟨[],bu uS,by simp⟩
theorem Sep.recF {β:Type}[Rp β] (h:Sep M w0 Δ F w) (j:Nat) {s:Bool}{cs0:List Value}{y:β}(hj:F[j]? = some (Wk.seen s cs0 y ft)) {x:Rec}{A6:Option Addr}{C6:Nat}{A7:Option Addr}{C7:Nat}{A8:Option Addr}{C8:Nat}(hx:InF w ft (RecV.mk x A6 C6 A7 C7 A8 C8).cs x) :
    ∃ f6 f7 f8,x.Ok∧x.Rows.length≤maxLen∧x.Data.length≤maxLen∧x.Delta.length≤maxLen∧Sep M w0 Δ (F++[Wk.seen false [.slice A6 x.Rows.length C6] x.Rows f6,Wk.seen false [.slice A7 x.Data.length C7] x.Data f7,Wk.seen false [.slice A8 x.Delta.length C8] x.Delta f8]) w:=by
  obtain ⟨f,h1,h2⟩:=hx
  obtain ⟨f6,f7,f8,e,ok,o6,o7,o8⟩:=va (x:=x) h1
  have key:∀ b∈f,b ∉ blocks Δ:=fun b hb=>h.ap _ (List.mem_of_getElem? hj) b (h2 b hb)
  have H1:=h.look (r:=Wk.seen false [.slice A6 x.Rows.length C6] x.Rows f6) o6 fun b hb=>key b (by rw [e]; simp [show b∈f6 from hb])
  have H2:=H1.look (r:=Wk.seen false [.slice A7 x.Data.length C7] x.Data f7) o7 fun b hb=>key b (by rw [e]; simp [show b∈f7 from hb])
  have H3:=H2.look (r:=Wk.seen false [.slice A8 x.Delta.length C8] x.Delta f8) o8 fun b hb=>key b (by rw [e]; simp [show b∈f8 from hb])
  refine ⟨f6,f7,f8,ok,iI o6,iI o7,iI o8,?_⟩
  simpa using H3
theorem Mut.none {α:Type}[Rp α] {cs:List Value}{x:α}{fp:List Nat}(e:Ext No w w') (h:own true w cs x fp) (hn:fp.Nodup):Mut w w' fp cs x:=
  ⟨e.no,fp,Rp.st h fun b hb=>e.block b (Rp.lt h b hb) id,hn,fun b hb => .inl hb⟩
theorem xL:Stable kLt cu ([]:List RecV) []:=⟨.nil,.refl⟩
theorem RdV.stable (h:RdV w ft vs) (hs:Stable kLt cu vs us):RdV w ft us:=h.sub fun v hv=>hs.2.mem hv
theorem RdV.snoc {v:RecV}(h:RdV w ft vs) (hv:InF w ft v.cs v.r):RdV w ft (vs++[v]):=h.app hv.rdv
theorem RdV.list {s:Bool}{ad n cap} {f0:List Nat}(hr:RdV w ft vs) (h:own s w [.slice ad n cap] vs f0):Sees w [.slice ad n cap] (vs.map RecV.r):=by
  obtain ⟨f,h1,_⟩:=Bz h hr
  exact ⟨f,h1⟩
end
theorem tR {a b:Int} : -1≤gY a b∧gY a b≤1:=by unfold gY; split<;>(try split)<;>omega
instance (a b:Int × Int × Int):Decidable (kLt a b):=by unfold kLt; infer_instance
instance:Flat RecV where
  flat h:=⟨h.2.1,fun _ _=>⟨h.1,rfl,h.2.2⟩⟩
theorem D3 {xs:List Rec}{r:Rec}:xs.any (fun x=>decide (x=r))=decide (r∈xs):=by
  rw [Bool.eq_iff_iff]; simp
theorem CZ {xs:List Rec}{r:Rec}{k:Nat}(h:k<xs.length) (e:xs.getD k default=r):true=decide (r∈xs):=by
  rw [eq_comm,decide_eq_true_eq,← e,cf h]; exact List.getElem_mem _
theorem EA {xs:List Rec}{r:Rec}(h:∀ i,i<xs.length→decide (xs.getD i default=r)=false):false=decide (r∈xs):=by
  rw [eq_comm,decide_eq_false_iff_not]
  intro hm
  obtain ⟨i,hi,e⟩:=List.getElem_of_mem hm
  have:=h i hi
  rw [decide_eq_false_iff_not,cf hi] at this
  exact this e
theorem dZ {vs:List RecV}{rs:List Rec}(e:vs.map RecV.r=rs) {k:Nat}(hk:k<vs.length):(vs.getD k default).r=rs.getD k default:=by
  rw [← e,cf hk]; simp [List.getD,hk]
theorem DI {z:Wld}{vs us:List RecV}(hm:vs.map RecV.r=eH z z.Tapes.length 0) (hs:Stable kLt cu vs us):us.map RecV.r=bZ z:=
  tE (by rw [← hm]; exact zg hs)
theorem uF {z:Wld}{B:Nat}(h:∀ k,(z.Tapes.getD k default).Recs.length≤B):∀ k,k≤z.Tapes.length→(allR z k).length≤k*B
  | 0,_=>by simp [allR]
  | k+1,hk=>by
    have ih:=uF h k (by omega)
    have h1:=h k
    unfold allR at ih ⊢
    rw [List.take_add_one,List.getElem?_eq_getElem (by omega),List.map_append,List.flatten_append,List.length_append]
    simp only [Option.toList_some,List.map_cons,List.map_nil,List.flatten_cons,List.flatten_nil,List.append_nil]
    rw [← cf (by omega) (d:=default)]
    rw [Nat.add_mul]; omega
theorem oh {z:Wld}(hT:z.Tapes.length=2) (h:∀ k,(z.Tapes.getD k default).Recs.length≤200000) {k j:Nat}(hk:k≤2) (hj:j≤200000):(eH z k j).length≤600000:=by
  have h1:=Ae (z:=z) (k:=k) (j:=j)
  have h2:=uF h k (by omega)
  omega
theorem tW {z:Wld}(hT:z.Tapes.length=2) (h:∀ k,(z.Tapes.getD k default).Recs.length≤200000):(bZ z).length≤600000:=by
  have h1:=oh hT h (k:=2) (j:=0) (by omega) (by omega)
  have h2:Stable kLt cL (eH z z.Tapes.length 0) (bZ z):=by
    unfold bZ eH
    simp only [List.take_zero,List.append_nil]
    exact (lI _).choose_spec
  have:=h2.2.len
  rw [hT] at this
  omega
theorem zA {z:Wld}(h:eD z=0):∀ k,(z.Tapes.getD k default).Recs.length≤200000:=fun k=>by
  have hT:=(eN h).2.2.2.1
  obtain ⟨h1,h2⟩:=DQ h
  by_cases e:k<2
  · have:k=0∨k=1:=by omega
    rcases this with rfl | rfl<;>omega
  · have:z.Tapes.getD k default=default:=by simp [List.getD,List.getElem?_eq_none (show z.Tapes.length≤k by omega)]
    rw [this]; exact Nat.zero_le _
end Go.Wk
namespace Go.Wk
section
variable {vs:List RecV}{r:Rec}{a:Nat}
theorem Dj {rs:List Rec}(h:Ord kLt cL rs):∀ {i q:Nat},i≤q→q<rs.length→¬ kLt (cL (rs.getD q default)) (cL (rs.getD i default)):=by
  induction h with
  | nil=>intro i q _ h; simp at h
  | cons h1 h2 ih=>
    rename_i y l
    intro i q hiq hq
    cases i with
    | zero=>
      cases q with
      | zero=>exact jS.irr _
      | succ q=>
        have hq':q<l.length:=by simpa using hq
        show ¬ kLt (cL (l.getD q default)) (cL y)
        rw [cf hq']
        exact h1 _ (List.getElem_mem _)
    | succ i=>
      cases q with
      | zero=>omega
      | succ q=>exact ih (by omega) (by simpa using hq)
theorem Et {rs:List Rec}(ho:Ord kLt cL rs) (ha:a≤rs.length) (h:a=0∨¬ kLt (cL r) (cL (rs.getD (a-1) default))):∀ y∈rs.take a,¬ kLt (cL r) (cL y):=by
  intro y hy
  obtain ⟨i,hi,e⟩:=List.getElem_of_mem hy
  rw [List.length_take] at hi
  rw [List.getElem_take] at e
  rcases h with h | h
  · omega
  · intro hlt
    have h2:=Dj ho (i:=i) (q:=a-1) (by omega) (by omega)
    rw [cf (by omega:i<rs.length),e] at h2
    exact h (nx hlt h2)
theorem Ek {rs:List Rec}(hB:∀ i,a≤i→i<rs.length→kLt (cL r) (cL (rs.getD i default))):∀ y∈rs.drop a,kLt (cL r) (cL y):=by
  intro y hy
  obtain ⟨i,hi,e⟩:=List.getElem_of_mem hy
  rw [List.length_drop] at hi
  rw [List.getElem_drop] at e
  have:=hB (a+i) (by omega) (by omega)
  rwa [cf (by omega),e] at this
theorem lA {xs rs:List Rec}(h:Stable kLt cL xs rs) (ha:a≤rs.length) (h1:a=0∨¬ kLt (cL r) (cL (rs.getD (a-1) default))) (hB:∀ i,a≤i→i<rs.length→kLt (cL r) (cL (rs.getD i default))) :
    Stable kLt cL (xs++[r]) (rs.take a++r::rs.drop a):=
  gw jS (by rw [List.take_append_drop]; exact h) (Ek hB) (Et h.1 ha h1)
theorem zt {l h:Nat}:(cut vs l h).map RecV.r=cut (vs.map RecV.r) l h:=by unfold cut; rw [List.map_take,List.map_drop]
theorem jG {v:RecV}(e:v.r=r) (ha:a≤vs.length):(cut vs 0 a++[v]++cut vs a vs.length).map RecV.r=(vs.map RecV.r).take a++r::(vs.map RecV.r).drop a:=by
  rw [List.map_append,List.map_append,zt,zt]
  unfold cut
  rw [List.drop_zero,Nat.sub_zero,List.take_of_length_le (by simp:((vs.map RecV.r).drop a).length≤vs.length-a)]
  simp [e]
theorem fi {l h:Nat}:∀ v∈cut vs l h,v∈vs:=fun v hv=>by
  unfold cut at hv
  exact List.mem_of_mem_drop (List.mem_of_mem_take hv)
end
end Go.Wk
namespace Go.Wk
open Rp (sz own)
section
variable {P:Program}{n:Nat}{ops:Array Oper}{Q:Post}{L:Env}{w w0:World}{M:Nat→Prop}{Δ F:List Rsc}{d:Tmp}{ty:TypeId}{p:String}{af:Array Edge}{g:Option (Nat × Bool)}
theorem D5 {l:Nat}{rl:List (Nat × Bool)}{S:World→Prop}{t e:TypeId}{parts:Array (Nat × Operand)}{z:Value}{bytes:Nat}(xs:List Int) (ho:ops.toList[l]? = some ⟨some d,.buildSlice t xs.length parts,ty,p,af,g⟩) (hw:Wn ops n L ⟨some d,.buildSlice t xs.length parts,ty,p,af,g⟩) (hn:Nat.blt d n=true) (ht:P.underlying t=some (.slice e)) (hT:Ty P e z 1 bytes)
    (hix:parts.toList.map (·.1)=List.range xs.length) (hv:iD L (parts.toList.map (·.2))=some (xs.map (Value.int .i64))) (hk:∀ x∈xs,I64ok x) (h0:0<xs.length) (hl:xs.length≤1000) (H:Sep M w0 Δ F w) (hS:∀ w',S w→Ext No w w'→S w')
    (k:∀ b w',Ext No w w'→w.heap.size≤b→Sep M w0 (Δ++[mine [.slice (some ⟨b,0,none⟩) xs.length xs.length] xs [b]]) F w'→DL P n ops Q S rl ((d,.slice (some ⟨b,0,none⟩) xs.length xs.length)::L) w') :
    DL P n ops Q S ((l,false)::rl) L w:=by
  have hparts:∀ a,Good n a L→(parts.map fun (i,x)=>(i,a.eval x)).toList=((xs.map (Value.int .i64)).zipIdx 0).map fun x=>(x.2,x.1):=fun a ha=>by
    have key:∀ (l:List (Nat × Operand)) (vs:List Value) (k:Nat),l.map (·.1)=List.range' k vs.length→iD L (l.map (·.2))=some vs→l.map (fun x=>(x.1,a.eval x.2))=(vs.zipIdx k).map fun x=>(x.2,x.1):=by
      intro l
      induction l with
      | nil=>intro vs k h1 h2; simp [iD] at h2; subst h2; rfl
      | cons x l ih=>
        intro vs k h1 h2
        simp only [List.map_cons] at h1 h2 ⊢
        unfold iD at h2
        split at h2
        · rename_i v us hv hus
          cases h2
          rw [List.length_cons,List.range'_succ] at h1
          simp only [List.cons.injEq] at h1
          rw [List.zipIdx_cons,List.map_cons,← ih us (k+1) h1.2 hus,ha.eval hv,h1.1]
        · cases h2
    rw [Array.toList_map]
    refine key parts.toList _ 0 ?_ hv
    rw [hix,List.length_map,List.range_eq_range']
  have hp:=wm (n:=n) (w:=w) (ty:=ty) (p:=p) (af:=af) (g:=g) (d:=some d) (parts:=parts) (vs:=xs.map (Value.int .i64)) (len:=xs.length) ht hT (by omega) (by simp) hparts (by intro v hv; simp at hv; obtain ⟨x,_,rfl⟩:=hv; rfl) h0 (by omega)
  refine nl ho hw rfl hn hp (fun h _=>hS _ h (Ext.refl.alloc _)) (k _ _ (Ext.refl.alloc _) (Nat.le_refl _) ?_)
  refine H.add (Ext.refl.alloc _) (r:=Wk.mine [.slice (some ⟨w.heap.size,0,none⟩) xs.length xs.length] xs [w.heap.size]) (.inr (.inr ⟨w.heap.size,0,_,_,e,(0,0),[],rfl,rfl,heap_alloc_new w _,fun _=>rfl,Nat.le_refl _,by unfold maxLen; omega,?_,?_⟩)) (by simp [Wk.mine]) (by simp [Wk.mine])
  · have:∀ l:List Int,(l.map (Value.int .i64)).flatMap (fun v=>v.cells.toList)=l.map (Value.int .i64):=by
      intro l; induction l with
      | nil=>rfl
      | cons x l ih=>simp only [List.map_cons,List.flatMap_cons,ih]; rfl
    simp [this,sz]
  · have:∀ l:List Int,(l.map (Value.int .i64)).flatMap (fun v=>v.cells.toList)=l.map (Value.int .i64):=by
      intro l; induction l with
      | nil=>rfl
      | cons x l ih=>simp only [List.map_cons,List.flatMap_cons,ih]; rfl
    simp only [this,List.drop_zero]
    exact uz hk
end
end Go.Wk
namespace Go.Wk
open Rp (sz own)
section
variable {z:Wld}{r:Rec}{g row:Int}
theorem Co {r:Rec}:∀ {rs out:List Rec},r∈rs.foldl ddR out→r∈out∨r∈rs
  | [],_,h => .inl h
  | x::rs,out,h=>by
    rcases Co (rs:=rs) h with h | h
    · unfold ddR at h
      split at h
      · exact .inl h
      · rcases List.mem_append.1 h with h | h
        · exact .inl h
        · exact .inr (by rw [List.mem_singleton] at h; simp [h])
    · exact .inr (List.mem_cons_of_mem _ h)
theorem yK:Stable kLt cL (dds (allR z z.Tapes.length)) (bZ z):=(lI _).choose_spec
theorem zW (h:r∈bZ z):∃ k j,k<z.Tapes.length∧j<(z.Tapes.getD k default).Recs.length∧(z.Tapes.getD k default).Recs.getD j default=r:=by
  have h1:r∈dds (allR z z.Tapes.length):=yK.2.mem h
  rcases Co h1 with h2 | h2
  · cases h2
  · unfold allR at h2
    rw [List.take_length] at h2
    obtain ⟨l,hl,hr⟩:=List.mem_flatten.1 h2
    obtain ⟨t,ht,rfl⟩:=List.mem_map.1 hl
    obtain ⟨k,hk,e⟩:=List.getElem_of_mem ht
    obtain ⟨j,hj,e2⟩:=List.getElem_of_mem hr
    have e3:z.Tapes.getD k default=t:=by rw [cf hk]; exact e
    exact ⟨k,j,hk,by rw [e3]; exact hj,by rw [e3,cf hj]; exact e2⟩
theorem CA (h:r∈bZ z):cx r≤ga z:=by
  obtain ⟨k,j,hk,hj,e⟩:=zW h
  have h1:=(ff (f:=cQ) (Nat.le_refl _) k hk).1
  have h2:=(ff (f:=cx) (Nat.le_refl _) j hj).1
  rw [e] at h2
  have h3:cQ (z.Tapes.getD k default)=szL cx (z.Tapes.getD k default).Recs:=rfl
  unfold ga
  omega
end
end Go.Wk
namespace Go.Wk
open Rp (sz own)
section
variable {z:Wld}{r:Rec}{g row:Int}{k j:Nat}
theorem oe (h:eD z=0) (hr:r∈bZ z):recF z.Shape r=0:=by
  obtain ⟨k,j,hk,hj,e⟩:=zW hr
  have ht:=(eN h).2.2.2.2
  rcases Decidable.em (recF z.Shape r=0) with c | c
  · exact c
  · exfalso
    have h0:dw z.Shape z.Tapes z.Tapes.length=0:=by
      unfold eG at ht
      split at ht
      · cases ht
      · split at ht
        · next c2=>exact absurd ht c2
        · omega
    have hk0:dw z.Shape z.Tapes (k+1)=0:=by
      rcases Decidable.em (dw z.Shape z.Tapes (k+1)=0) with c2 | c2
      · exact c2
      · rw [mm c2 _ hk] at h0; exact absurd h0 c2
    have hk1:dw z.Shape z.Tapes k=0:=by
      rcases Decidable.em (dw z.Shape z.Tapes k=0) with c2 | c2
      · exact c2
      · rw [mm c2 _ (Nat.le_succ k)] at hk0; exact absurd hk0 c2
    rw [iq hk1] at hk0
    have hj0:dN z.Shape (z.Tapes.getD k default).Recs (j+1)=0:=by
      rcases Decidable.em (dN z.Shape (z.Tapes.getD k default).Recs (j+1)=0) with c2 | c2
      · exact c2
      · rw [mB c2 _ hj] at hk0; exact absurd hk0 c2
    have hj1:dN z.Shape (z.Tapes.getD k default).Recs j=0:=by
      rcases Decidable.em (dN z.Shape (z.Tapes.getD k default).Recs j=0) with c2 | c2
      · exact c2
      · rw [mB c2 _ (Nat.le_succ j)] at hj0; exact absurd hj0 c2
    rw [iJ hj1,e] at hj0
    exact c hj0
end
end Go.Wk

namespace Go.Wk
open Rp (sz own)
def itP (nm:ByteArray) (x:Rec):Bool:=decide (x.Kind=1) && (x.Name.toList == nm.toList)
section
variable {α K:Type}{lt:K→K→Prop}{key:α→K}
theorem Ord.at [Inhabited α] {xs:List α}(h:Ord lt key xs):∀ {i j:Nat},i<j→j<xs.length→¬ lt (key (xs.getD j default)) (key (xs.getD i default)):=by
  induction h with
  | nil=>intro i j _ h; simp at h
  | cons h1 h2 ih=>
    intro i j hij hj
    obtain ⟨j,rfl⟩:∃ k,j=k+1:=⟨j-1,by omega⟩
    rw [List.length_cons] at hj
    rcases Nat.eq_zero_or_pos i with e | e
    · subst e
      rw [List.getD_cons_succ,List.getD_cons_zero,cf (by omega)]
      exact h1 _ (List.getElem_mem _)
    · obtain ⟨i,rfl⟩:∃ k,i=k+1:=⟨i-1,by omega⟩
      rw [List.getD_cons_succ,List.getD_cons_succ]
      exact ih (by omega) (by omega)
end
end Go.Wk
namespace Go.Wk
open Rp (sz own)
theorem ij {w w':World}{c:Int}(h:I64ok c):Res w w' [.int .i64 c,.slice none 0 0] (⟨c,[]⟩:BytesResult):=
  ⟨[],BytesResult.own_mk (x:=⟨c,[]⟩) (A1:=none) (C1:=0) h (.inr (.inl ⟨rfl,rfl,rfl⟩)),.nil,by simp⟩
end Go.Wk
namespace Go.Wk
open Rp (sz own)
section
variable {M:Nat→Prop}{w0 w w':World}{Δ F:List Rsc}{β:Type}[Rp β]
theorem Sep.rowApp (h:Sep M w0 Δ F w) (j e:Nat) {vs:List View}{xss:List (List β)}{g} (hj:F[j]? = some (rows vs xss g)) {s a c} {y:List β}{fy} (he:F[e]? = some (Wk.seen s [.slice a y.length c] y fy)) (hl:vs.length=xss.length) :
    ∃ g',Sep M w0 Δ (F.set j (rows (vs++[⟨a,y.length,c⟩]) (xss++[y]) g')) w∧∀ b∈g',b∈g∨b∈fy:=
  ⟨g++fy,h.fset j (Ad (h.fs _ (List.mem_of_getElem? hj)) hl (h.seen e he)) fun b hb=>(List.mem_append.1 hb).elim (h.ap _ (List.mem_of_getElem? hj) b) (h.ap _ (List.mem_of_getElem? he) b),fun b hb=>List.mem_append.1 hb⟩
theorem Sep.noRows (h:Sep M w0 Δ F w):Sep M w0 Δ (F++[rows ([]:List View) ([]:List (List β)) []]) w:=h.look (r:=rows [] [] []) rfl (by simp [rows])
theorem Sep.viewsIn (h:Sep M w0 Δ F w) (i j:Nat) {v:Value}{vs:List View}{xss:List (List β)}{f g} (hi:Δ[i]? = some (Wk.mine [v] vs f)) (hj:F[j]? = some (rows vs xss g)) (hl:vs.length=xss.length) :
    ∃ fp,Sep M w0 (Δ.set i gone) (F++[Wk.seen false [v] xss fp]) w∧∀ b∈fp,b∈f∨b∈g:=by
  obtain ⟨fp,ho,hs⟩:=Aa (h.mine i hi) (h.rowsAt j hj) hl
  have hm:=List.mem_of_getElem? hi
  have h':=h.share i hi
  have h2:Sep M w0 (Δ.set i gone) F w:=h'.fto fun q hq=>⟨h'.fs q (List.mem_append_left _ hq),h'.ap q (List.mem_append_left _ hq)⟩
  refine ⟨fp,h2.look (r:=Wk.seen false [v] xss fp) ho fun b hb hx=>?_,hs⟩
  rcases hs b hb with hb | hb
  · exact h'.ap (Wk.seen true [v] vs f) (List.mem_append_right _ (by simp)) b hb hx
  · exact h2.ap _ (List.mem_of_getElem? hj) b hb hx
end
def bc (xs:List (List UInt8)) (n:Nat):Nat→List Int
  | 0=>[]
  | k+1=>if 0<(xs.getD k []).length∧(bc xs n k).length<n then bc xs n k++[(k:Int)] else bc xs n k
def thereTo (xs:List (List UInt8)) (n:Nat):Nat→List (List UInt8)
  | 0=>[]
  | k+1=>if 0<(xs.getD k []).length∧(bc xs n k).length<n then thereTo xs n k++[xs.getD k []] else thereTo xs n k
theorem fT {xs n k} (h:0<(xs.getD k []).length∧(bc xs n k).length<n):bc xs n (k+1)=bc xs n k++[(k:Int)]∧thereTo xs n (k+1)=thereTo xs n k++[xs.getD k []]:=by
  rw [bc,thereTo,if_pos h,if_pos h]; exact ⟨rfl,rfl⟩
theorem fU {xs n k} (h:¬ (0<(xs.getD k []).length∧(bc xs n k).length<n)):bc xs n (k+1)=bc xs n k∧thereTo xs n (k+1)=thereTo xs n k:=by
  rw [bc,thereTo,if_neg h,if_neg h]; exact ⟨rfl,rfl⟩
theorem fF {xs n}:∀ {k},(thereTo xs n k).length=(bc xs n k).length
  | 0=>rfl
  | k+1=>by
    by_cases h:0<(xs.getD k []).length∧(bc xs n k).length<n
    · rw [(fT h).1,(fT h).2,List.length_append,List.length_append,fF]; rfl
    · rw [(fU h).1,(fU h).2,fF]
theorem jT {xs n}:∀ {k},(bc xs n k).length≤n∧(bc xs n k).length≤k
  | 0=>⟨Nat.zero_le _,Nat.le_refl _⟩
  | k+1=>by
    have:=jT (xs:=xs) (n:=n) (k:=k)
    by_cases h:0<(xs.getD k []).length∧(bc xs n k).length<n
    · rw [(fT h).1,List.length_append]; simp; omega
    · rw [(fU h).1]; omega
theorem AA {xs n k} (h:(bc xs n k).length=n):∀ m,k≤m→bc xs n m=bc xs n k∧thereTo xs n m=thereTo xs n k:=by
  intro m hm
  induction m with
  | zero=>have e:k=0:=(by omega); rw [e]; exact ⟨rfl,rfl⟩
  | succ m ih=>
    by_cases e:k=m+1
    · rw [e]; exact ⟨rfl,rfl⟩
    · have ih:=ih (by omega)
      have hn:=fU (xs:=xs) (n:=n) (k:=m) (by rw [ih.1]; omega)
      rw [hn.1,hn.2]; exact ih
theorem kl {xs n}:∀ {k} (i:Nat),i<(bc xs n k).length→0≤(bc xs n k).getD i 0∧(bc xs n k).getD i 0<k∧(0<i→(bc xs n k).getD (i-1) 0<(bc xs n k).getD i 0) ∧
    0<(xs.getD ((bc xs n k).getD i 0).toNat []).length∧(thereTo xs n k).getD i []=xs.getD ((bc xs n k).getD i 0).toNat []
  | 0,i,hi=>by simp [bc] at hi
  | k+1,i,hi=>by
    by_cases h:0<(xs.getD k []).length∧(bc xs n k).length<n
    · rw [(fT h).1,List.length_append] at hi
      rw [(fT h).1,(fT h).2]
      have tl:=fF (xs:=xs) (n:=n) (k:=k)
      have g1:∀ {α:Type}{l:List α}{x d:α}{j:Nat},j<l.length→(l++[x]).getD j d=l.getD j d:=fun hj=>by simp [List.getD,List.getElem?_append_left hj]
      have g2:∀ {α:Type}{l:List α}{x d:α},(l++[x]).getD l.length d=x:=by intros; simp [List.getD]
      by_cases hl:i<(bc xs n k).length
      · have ih:=kl (xs:=xs) (n:=n) (k:=k) i hl
        rw [g1 hl,g1 (by omega),g1 (by omega)]
        exact ⟨ih.1,by omega,ih.2.2.1,ih.2.2.2⟩
      · obtain rfl:i=(bc xs n k).length:=by simp at hi; omega
        rw [g2,← tl,g2]
        refine ⟨by omega,by omega,fun hp=>?_,by simpa using h.1,by simp⟩
        rw [tl] at hp ⊢
        rw [g1 (by omega)]
        have ih:=kl (xs:=xs) (n:=n) (k:=k) ((bc xs n k).length-1) (by omega)
        exact ih.2.1
    · rw [(fU h).1] at hi ⊢
      rw [(fU h).2]
      have ih:=kl (xs:=xs) (n:=n) (k:=k) i hi
      exact ⟨ih.1,by omega,ih.2.2⟩
theorem rV {xs n k}:rises (bc xs n k) ((k:Int)-1)=true:=oN fun i hi=>by
  have:=kl i hi
  simp only [eX,Bool.and_eq_true,Bool.or_eq_true,decide_eq_true_eq]
  omega
def eZ (n:Nat) (xs:List (List UInt8)):Bool:=decide (n≤(bc xs n xs.length).length)
def decAt (n:Nat) (xs:List (List UInt8)) (p:Int):List UInt8:=mb (thereTo xs n xs.length) (betw n (bc xs n xs.length) p 0) 4 (thereTo xs n xs.length).length
def nT (n:Nat) (xs:List (List UInt8)) (k:Nat):List UInt8:=((List.range k).map fun i:Nat=>decAt n xs (i:Int)).flatten
def oO (n:Nat) (xs:List (List UInt8)):List UInt8:=if eZ n xs=true then nT n xs n else []
def ub (n:Nat) (xs:List (List UInt8)) (p:Int):List UInt8:=if eZ n xs=true then decAt n xs p else []
theorem mP {n xs k}:nT n xs k++mb (thereTo xs n xs.length) (betw n (bc xs n xs.length) (k:Nat) 0) 4 (thereTo xs n xs.length).length=nT n xs (k+1):=by
  simp [nT,List.range_succ,decAt]
theorem xY {n xs} (h:(bc xs n xs.length).length<n):eZ n xs=false∧oO n xs=[]∧∀ p,ub n xs p=[]:=by
  have:eZ n xs=false:=by rw [eZ,decide_eq_false (by omega)]
  exact ⟨this,by rw [oO,this]; rfl,fun p=>by rw [ub,this]; rfl⟩
theorem qe {n xs} (h:¬ (bc xs n xs.length).length<n):eZ n xs=true∧oO n xs=nT n xs n∧∀ p,ub n xs p=decAt n xs p:=by
  have:eZ n xs=true:=by rw [eZ,decide_eq_true (by omega)]
  exact ⟨this,by rw [oO,if_pos this],fun p=>by rw [ub,if_pos this]⟩
def Part (xs:List (List UInt8)):Prop:=∀ i,i<xs.length→(xs.getD i []).length=4∨(xs.getD i []).length=0
theorem xq {xs:List (List UInt8)}{n:Nat}(h:Part xs):∀ i,i<(thereTo xs n xs.length).length→((thereTo xs n xs.length).getD i []).length=4:=fun i hi=>by
  have ha:=kl (xs:=xs) (n:=n) (k:=xs.length) i (by rw [← fF]; exact hi)
  rw [ha.2.2.2.2]
  have h1:=h ((bc xs n xs.length).getD i 0).toNat (by omega)
  omega
theorem tx {xs:List (List UInt8)}{n p} (h:Part xs):(decAt n xs p).length=4:=jA (xq h) (Nat.le_refl _)
theorem lE {xs:List (List UInt8)}{n} (h:Part xs):∀ k,(nT n xs k).length=k*4
  | 0=>rfl
  | k+1=>by
    rw [← mP,List.length_append,lE h k]
    have:=tx (n:=n) (p:=(k:Int)) h
    rw [decAt] at this
    omega
def tF:Nat→List (List Int)
  | 1=>[[0],[1],[2]]
  | 2=>[[0,1],[0,2],[0,3],[1,2],[1,3],[2,3]]
  | 3=>[[0,1,2],[0,1,3],[0,1,4],[0,2,3],[0,2,4],[0,3,4],[1,2,3],[1,2,4],[1,3,4],[2,3,4]]
  | _=>[]
def ED (f:Nat→UInt8):Nat→UInt8
  | 0=>0
  | k+1=>ED f k ^^^ f k
end Go.Wk
namespace Go.Wk
def ivT:List (UInt8 × UInt8):=[(1,1),(23,102),(27,128),(29,131),(84,129),(128,27),(129,84),(130,161),(131,29),(143,245),(161,130),(225,63),(239,106)]
set_option maxRecDepth 100000 in
theorem Ey:(ivT.all fun e=>decide (kS e.1=e.2))=true:=by decide +kernel
def ivL (p:UInt8):UInt8:=match ivT.find? (fun e=>decide (e.1=p)) with
  | some e=>e.2
  | none=>kS p
theorem BX:ivL=kS:=by
  funext p
  unfold ivL
  split
  · rename_i e he
    have h1:=List.find?_some he
    have h2:=List.mem_of_find?_eq_some he
    have h3:=List.all_eq_true.1 Ey e h2
    simp only [decide_eq_true_eq] at h1 h3
    rw [← h1,h3]
  · rfl
def EY (iv:UInt8→UInt8) (m:Mat) (c r a:Nat):Mat:=(m.set a (m.getD r [])).set r (cq (m.getD a []) (iv (entry m a c)))
def DS (iv:UInt8→UInt8) (m:Mat) (c r:Nat):Mat × Nat:=if m.length≤jv m c r then (m,r) else (cb (EY iv m c r (jv m c r)) c r m.length,r+1)
def u9 (iv:UInt8→UInt8) (m:Mat):Nat→Mat × Nat
  | 0=>(m,0)
  | c+1=>DS iv (u9 iv m c).1 c (u9 iv m c).2
theorem zj (m:Mat):∀ n,u9 kS m n=redM m n
  | 0=>rfl
  | n+1=>by rw [u9,redM,zj m n]; rfl
def tT (iv:UInt8→UInt8):Nat→Mat × Nat→List (Mat × Nat)→Bool
  | _,_,[]=>true
  | c,m,x::t=>decide (DS iv m.1 c m.2=x) && tT iv (c+1) x t
theorem vj {iv:UInt8→UInt8}{A:Mat}:∀ {l:List (Mat × Nat)}{c:Nat}{m:Mat × Nat},u9 iv A c=m→tT iv c m l=true→u9 iv A (c+l.length)=l.getLastD m
  | [],_,_,h,_=>h
  | x::t,c,m,h,hc=>by
    unfold tT at hc
    simp only [Bool.and_eq_true,decide_eq_true_eq] at hc
    have h2:u9 iv A (c+1)=x:=by rw [u9,h]; exact hc.1
    have:=vj (l:=t) (c:=c+1) h2 hc.2
    rw [show c+(x::t).length=c+1+t.length by simp; omega,this]
    cases t<;>rfl
def Ex (iv:UInt8→UInt8) (n:Nat) (p:Int) (i:Nat):UInt8:=if (n:Int)≤p then iv (nM (128+(0+p-n)) ^^^ nM i) else if (i:Int)=p then 1 else 0
def E4 (iv:UInt8→UInt8) (n:Nat) (p:Int):List UInt8:=(List.range n).map (Ex iv n p)
structure Way where
  n:Nat
  hs:List Int
  x:Int
  g:List UInt8
  m:Mat
  steps:List (Mat × Nat)
  w:List UInt8
def Way.ok (iv:UInt8→UInt8) (e:Way):Bool:=
  decide (E4 iv e.n e.x=e.g) && decide (trF (fun t=>E4 iv e.n (e.hs.getD t 0)) e.n e.n 0=e.m) && tT iv 0 (aug e.m e.g,0) e.steps && decide (e.steps.length=e.n) && decide (e.m.length=e.n) &&
    decide (e.n≤(e.steps.getLastD (aug e.m e.g,0)).2) && decide (md (e.steps.getLastD (aug e.m e.g,0)).1 e.n e.n=e.w)
theorem Way.fact {e:Way}(h:e.ok ivL=true):betw e.n e.hs e.x 0=e.w:=by
  rw [BX] at h
  unfold Way.ok at h
  simp only [Bool.and_eq_true,decide_eq_true_eq] at h
  obtain ⟨⟨⟨⟨⟨⟨h1,h2⟩,h3⟩,h4⟩,h5⟩,h6⟩,h7⟩:=h
  have hc:=vj (A:=aug e.m e.g) (c:=0) rfl h3
  rw [Nat.zero_add,h4,zj] at hc
  have e1:pB e.n e.hs 0=e.m:=h2
  have e2:ki e.n e.x 0=e.g:=h1
  rw [betw,e1,e2]
  have h8:¬ (redM (aug e.m e.g) e.m.length).2<e.m.length:=by
    rw [h5,hc]; exact Nat.not_lt.2 h6
  rw [(uk h8).2,h5,hc]
  exact h7
def ways:List Way:=[
  ⟨1,[0],0,[1],[[1]],[([[1,1]],1)],[1]⟩,
  ⟨1,[0],1,[27],[[1]],[([[1,27]],1)],[27]⟩,
  ⟨1,[0],2,[84],[[1]],[([[1,84]],1)],[84]⟩,
  ⟨1,[1],0,[1],[[27]],[([[1,128]],1)],[128]⟩,
  ⟨1,[1],1,[27],[[27]],[([[1,1]],1)],[1]⟩,
  ⟨1,[1],2,[84],[[27]],[([[1,85]],1)],[85]⟩,
  ⟨1,[2],0,[1],[[84]],[([[1,129]],1)],[129]⟩,
  ⟨1,[2],1,[27],[[84]],[([[1,26]],1)],[26]⟩,
  ⟨1,[2],2,[84],[[84]],[([[1,1]],1)],[1]⟩,
  ⟨2,[0,1],0,[1,0],[[1,0],[0,1]],[([[1,0,1],[0,1,0]],1),([[1,0,1],[0,1,0]],2)],[1,0]⟩,
  ⟨2,[0,1],1,[0,1],[[1,0],[0,1]],[([[1,0,0],[0,1,1]],1),([[1,0,0],[0,1,1]],2)],[0,1]⟩,
  ⟨2,[0,1],2,[27,84],[[1,0],[0,1]],[([[1,0,27],[0,1,84]],1),([[1,0,27],[0,1,84]],2)],[27,84]⟩,
  ⟨2,[0,1],3,[84,27],[[1,0],[0,1]],[([[1,0,84],[0,1,27]],1),([[1,0,84],[0,1,27]],2)],[84,27]⟩,
  ⟨2,[0,2],0,[1,0],[[1,27],[0,84]],[([[1,27,1],[0,84,0]],1),([[1,0,1],[0,1,0]],2)],[1,0]⟩,
  ⟨2,[0,2],1,[0,1],[[1,27],[0,84]],[([[1,27,0],[0,84,1]],1),([[1,0,26],[0,1,129]],2)],[26,129]⟩,
  ⟨2,[0,2],2,[27,84],[[1,27],[0,84]],[([[1,27,27],[0,84,84]],1),([[1,0,0],[0,1,1]],2)],[0,1]⟩,
  ⟨2,[0,2],3,[84,27],[[1,27],[0,84]],[([[1,27,84],[0,84,27]],1),([[1,0,23],[0,1,26]],2)],[23,26]⟩,
  ⟨2,[0,3],0,[1,0],[[1,84],[0,27]],[([[1,84,1],[0,27,0]],1),([[1,0,1],[0,1,0]],2)],[1,0]⟩,
  ⟨2,[0,3],1,[0,1],[[1,84],[0,27]],[([[1,84,0],[0,27,1]],1),([[1,0,85],[0,1,128]],2)],[85,128]⟩,
  ⟨2,[0,3],2,[27,84],[[1,84],[0,27]],[([[1,84,27],[0,27,84]],1),([[1,0,143],[0,1,85]],2)],[143,85]⟩,
  ⟨2,[0,3],3,[84,27],[[1,84],[0,27]],[([[1,84,84],[0,27,27]],1),([[1,0,0],[0,1,1]],2)],[0,1]⟩,
  ⟨2,[1,2],0,[1,0],[[0,27],[1,84]],[([[1,84,0],[0,27,1]],1),([[1,0,85],[0,1,128]],2)],[85,128]⟩,
  ⟨2,[1,2],1,[0,1],[[0,27],[1,84]],[([[1,84,1],[0,27,0]],1),([[1,0,1],[0,1,0]],2)],[1,0]⟩,
  ⟨2,[1,2],2,[27,84],[[0,27],[1,84]],[([[1,84,84],[0,27,27]],1),([[1,0,0],[0,1,1]],2)],[0,1]⟩,
  ⟨2,[1,2],3,[84,27],[[0,27],[1,84]],[([[1,84,27],[0,27,84]],1),([[1,0,143],[0,1,85]],2)],[143,85]⟩,
  ⟨2,[1,3],0,[1,0],[[0,84],[1,27]],[([[1,27,0],[0,84,1]],1),([[1,0,26],[0,1,129]],2)],[26,129]⟩,
  ⟨2,[1,3],1,[0,1],[[0,84],[1,27]],[([[1,27,1],[0,84,0]],1),([[1,0,1],[0,1,0]],2)],[1,0]⟩,
  ⟨2,[1,3],2,[27,84],[[0,84],[1,27]],[([[1,27,84],[0,84,27]],1),([[1,0,23],[0,1,26]],2)],[23,26]⟩,
  ⟨2,[1,3],3,[84,27],[[0,84],[1,27]],[([[1,27,27],[0,84,84]],1),([[1,0,0],[0,1,1]],2)],[0,1]⟩,
  ⟨2,[2,3],0,[1,0],[[27,84],[84,27]],[([[1,85,128],[0,143,85]],1),([[1,0,245],[0,1,102]],2)],[245,102]⟩,
  ⟨2,[2,3],1,[0,1],[[27,84],[84,27]],[([[1,85,0],[0,143,1]],1),([[1,0,102],[0,1,245]],2)],[102,245]⟩,
  ⟨2,[2,3],2,[27,84],[[27,84],[84,27]],[([[1,85,1],[0,143,0]],1),([[1,0,1],[0,1,0]],2)],[1,0]⟩,
  ⟨2,[2,3],3,[84,27],[[27,84],[84,27]],[([[1,85,85],[0,143,143]],1),([[1,0,0],[0,1,1]],2)],[0,1]⟩,
  ⟨3,[0,1,2],0,[1,0,0],[[1,0,0],[0,1,0],[0,0,1]],[([[1,0,0,1],[0,1,0,0],[0,0,1,0]],1),([[1,0,0,1],[0,1,0,0],[0,0,1,0]],2),([[1,0,0,1],[0,1,0,0],[0,0,1,0]],3)],[1,0,0]⟩,
  ⟨3,[0,1,2],1,[0,1,0],[[1,0,0],[0,1,0],[0,0,1]],[([[1,0,0,0],[0,1,0,1],[0,0,1,0]],1),([[1,0,0,0],[0,1,0,1],[0,0,1,0]],2),([[1,0,0,0],[0,1,0,1],[0,0,1,0]],3)],[0,1,0]⟩,
  ⟨3,[0,1,2],2,[0,0,1],[[1,0,0],[0,1,0],[0,0,1]],[([[1,0,0,0],[0,1,0,0],[0,0,1,1]],1),([[1,0,0,0],[0,1,0,0],[0,0,1,1]],2),([[1,0,0,0],[0,1,0,0],[0,0,1,1]],3)],[0,0,1]⟩,
  ⟨3,[0,1,2],3,[27,84,161],[[1,0,0],[0,1,0],[0,0,1]],[([[1,0,0,27],[0,1,0,84],[0,0,1,161]],1),([[1,0,0,27],[0,1,0,84],[0,0,1,161]],2),([[1,0,0,27],[0,1,0,84],[0,0,1,161]],3)],[27,84,161]⟩,
  ⟨3,[0,1,2],4,[84,27,29],[[1,0,0],[0,1,0],[0,0,1]],[([[1,0,0,84],[0,1,0,27],[0,0,1,29]],1),([[1,0,0,84],[0,1,0,27],[0,0,1,29]],2),([[1,0,0,84],[0,1,0,27],[0,0,1,29]],3)],[84,27,29]⟩,
  ⟨3,[0,1,3],0,[1,0,0],[[1,0,27],[0,1,84],[0,0,161]],[([[1,0,27,1],[0,1,84,0],[0,0,161,0]],1),([[1,0,27,1],[0,1,84,0],[0,0,161,0]],2),([[1,0,0,1],[0,1,0,0],[0,0,1,0]],3)],[1,0,0]⟩,
  ⟨3,[0,1,3],1,[0,1,0],[[1,0,27],[0,1,84],[0,0,161]],[([[1,0,27,0],[0,1,84,1],[0,0,161,0]],1),([[1,0,27,0],[0,1,84,1],[0,0,161,0]],2),([[1,0,0,0],[0,1,0,1],[0,0,1,0]],3)],[0,1,0]⟩,
  ⟨3,[0,1,3],2,[0,0,1],[[1,0,27],[0,1,84],[0,0,161]],[([[1,0,27,0],[0,1,84,0],[0,0,161,1]],1),([[1,0,27,0],[0,1,84,0],[0,0,161,1]],2),([[1,0,0,55],[0,1,0,253],[0,0,1,130]],3)],[55,253,130]⟩,
  ⟨3,[0,1,3],3,[27,84,161],[[1,0,27],[0,1,84],[0,0,161]],[([[1,0,27,27],[0,1,84,84],[0,0,161,161]],1),([[1,0,27,27],[0,1,84,84],[0,0,161,161]],2),([[1,0,0,0],[0,1,0,0],[0,0,1,1]],3)],[0,0,1]⟩,
  ⟨3,[0,1,3],4,[84,27,29],[[1,0,27],[0,1,84],[0,0,161]],[([[1,0,27,84],[0,1,84,27],[0,0,161,29]],1),([[1,0,27,84],[0,1,84,27],[0,0,161,29]],2),([[1,0,0,77],[0,1,0,229],[0,0,1,28]],3)],[77,229,28]⟩,
  ⟨3,[0,1,4],0,[1,0,0],[[1,0,84],[0,1,27],[0,0,29]],[([[1,0,84,1],[0,1,27,0],[0,0,29,0]],1),([[1,0,84,1],[0,1,27,0],[0,0,29,0]],2),([[1,0,0,1],[0,1,0,0],[0,0,1,0]],3)],[1,0,0]⟩,
  ⟨3,[0,1,4],1,[0,1,0],[[1,0,84],[0,1,27],[0,0,29]],[([[1,0,84,0],[0,1,27,1],[0,0,29,0]],1),([[1,0,84,0],[0,1,27,1],[0,0,29,0]],2),([[1,0,0,0],[0,1,0,1],[0,0,1,0]],3)],[0,1,0]⟩,
  ⟨3,[0,1,4],2,[0,0,1],[[1,0,84],[0,1,27],[0,0,29]],[([[1,0,84,0],[0,1,27,0],[0,0,29,1]],1),([[1,0,84,0],[0,1,27,0],[0,0,29,1]],2),([[1,0,0,169],[0,1,0,44],[0,0,1,131]],3)],[169,44,131]⟩,
  ⟨3,[0,1,4],3,[27,84,161],[[1,0,84],[0,1,27],[0,0,29]],[([[1,0,84,27],[0,1,27,84],[0,0,29,161]],1),([[1,0,84,27],[0,1,27,84],[0,0,29,161]],2),([[1,0,0,28],[0,1,0,18],[0,0,1,160]],3)],[28,18,160]⟩,
  ⟨3,[0,1,4],4,[84,27,29],[[1,0,84],[0,1,27],[0,0,29]],[([[1,0,84,84],[0,1,27,27],[0,0,29,29]],1),([[1,0,84,84],[0,1,27,27],[0,0,29,29]],2),([[1,0,0,0],[0,1,0,0],[0,0,1,1]],3)],[0,0,1]⟩,
  ⟨3,[0,2,3],0,[1,0,0],[[1,0,27],[0,0,84],[0,1,161]],[([[1,0,27,1],[0,0,84,0],[0,1,161,0]],1),([[1,0,27,1],[0,1,161,0],[0,0,84,0]],2),([[1,0,0,1],[0,1,0,0],[0,0,1,0]],3)],[1,0,0]⟩,
  ⟨3,[0,2,3],1,[0,1,0],[[1,0,27],[0,0,84],[0,1,161]],[([[1,0,27,0],[0,0,84,1],[0,1,161,0]],1),([[1,0,27,0],[0,1,161,0],[0,0,84,1]],2),([[1,0,0,26],[0,1,0,255],[0,0,1,129]],3)],[26,255,129]⟩,
  ⟨3,[0,2,3],2,[0,0,1],[[1,0,27],[0,0,84],[0,1,161]],[([[1,0,27,0],[0,0,84,0],[0,1,161,1]],1),([[1,0,27,0],[0,1,161,1],[0,0,84,0]],2),([[1,0,0,0],[0,1,0,1],[0,0,1,0]],3)],[0,1,0]⟩,
  ⟨3,[0,2,3],3,[27,84,161],[[1,0,27],[0,0,84],[0,1,161]],[([[1,0,27,27],[0,0,84,84],[0,1,161,161]],1),([[1,0,27,27],[0,1,161,161],[0,0,84,84]],2),([[1,0,0,0],[0,1,0,0],[0,0,1,1]],3)],[0,0,1]⟩,
  ⟨3,[0,2,3],4,[84,27,29],[[1,0,27],[0,0,84],[0,1,161]],[([[1,0,27,84],[0,0,84,27],[0,1,161,29]],1),([[1,0,27,84],[0,1,161,29],[0,0,84,27]],2),([[1,0,0,23],[0,1,0,225],[0,0,1,26]],3)],[23,225,26]⟩,
  ⟨3,[0,2,4],0,[1,0,0],[[1,0,84],[0,0,27],[0,1,29]],[([[1,0,84,1],[0,0,27,0],[0,1,29,0]],1),([[1,0,84,1],[0,1,29,0],[0,0,27,0]],2),([[1,0,0,1],[0,1,0,0],[0,0,1,0]],3)],[1,0,0]⟩,
  ⟨3,[0,2,4],1,[0,1,0],[[1,0,84],[0,0,27],[0,1,29]],[([[1,0,84,0],[0,0,27,1],[0,1,29,0]],1),([[1,0,84,0],[0,1,29,0],[0,0,27,1]],2),([[1,0,0,85],[0,1,0,38],[0,0,1,128]],3)],[85,38,128]⟩,
  ⟨3,[0,2,4],2,[0,0,1],[[1,0,84],[0,0,27],[0,1,29]],[([[1,0,84,0],[0,0,27,0],[0,1,29,1]],1),([[1,0,84,0],[0,1,29,1],[0,0,27,0]],2),([[1,0,0,0],[0,1,0,1],[0,0,1,0]],3)],[0,1,0]⟩,
  ⟨3,[0,2,4],3,[27,84,161],[[1,0,84],[0,0,27],[0,1,29]],[([[1,0,84,27],[0,0,27,84],[0,1,29,161]],1),([[1,0,84,27],[0,1,29,161],[0,0,27,84]],2),([[1,0,0,143],[0,1,0,22],[0,0,1,85]],3)],[143,22,85]⟩,
  ⟨3,[0,2,4],4,[84,27,29],[[1,0,84],[0,0,27],[0,1,29]],[([[1,0,84,84],[0,0,27,27],[0,1,29,29]],1),([[1,0,84,84],[0,1,29,29],[0,0,27,27]],2),([[1,0,0,0],[0,1,0,0],[0,0,1,1]],3)],[0,0,1]⟩,
  ⟨3,[0,3,4],0,[1,0,0],[[1,27,84],[0,84,27],[0,161,29]],[([[1,27,84,1],[0,84,27,0],[0,161,29,0]],1),([[1,0,23,1],[0,1,26,0],[0,0,225,0]],2),([[1,0,0,1],[0,1,0,0],[0,0,1,0]],3)],[1,0,0]⟩,
  ⟨3,[0,3,4],1,[0,1,0],[[1,27,84],[0,84,27],[0,161,29]],[([[1,27,84,0],[0,84,27,1],[0,161,29,0]],1),([[1,0,23,26],[0,1,26,129],[0,0,225,255]],2),([[1,0,0,245],[0,1,0,192],[0,0,1,177]],3)],[245,192,177]⟩,
  ⟨3,[0,3,4],2,[0,0,1],[[1,27,84],[0,84,27],[0,161,29]],[([[1,27,84,0],[0,84,27,0],[0,161,29,1]],1),([[1,0,23,0],[0,1,26,0],[0,0,225,1]],2),([[1,0,0,106],[0,1,0,76],[0,0,1,63]],3)],[106,76,63]⟩,
  ⟨3,[0,3,4],3,[27,84,161],[[1,27,84],[0,84,27],[0,161,29]],[([[1,27,84,27],[0,84,27,84],[0,161,29,161]],1),([[1,0,23,0],[0,1,26,1],[0,0,225,0]],2),([[1,0,0,0],[0,1,0,1],[0,0,1,0]],3)],[0,1,0]⟩,
  ⟨3,[0,3,4],4,[84,27,29],[[1,27,84],[0,84,27],[0,161,29]],[([[1,27,84,84],[0,84,27,27],[0,161,29,29]],1),([[1,0,23,23],[0,1,26,26],[0,0,225,225]],2),([[1,0,0,0],[0,1,0,0],[0,0,1,1]],3)],[0,0,1]⟩,
  ⟨3,[1,2,3],0,[1,0,0],[[0,0,27],[1,0,84],[0,1,161]],[([[1,0,84,0],[0,0,27,1],[0,1,161,0]],1),([[1,0,84,0],[0,1,161,0],[0,0,27,1]],2),([[1,0,0,85],[0,1,0,94],[0,0,1,128]],3)],[85,94,128]⟩,
  ⟨3,[1,2,3],1,[0,1,0],[[0,0,27],[1,0,84],[0,1,161]],[([[1,0,84,1],[0,0,27,0],[0,1,161,0]],1),([[1,0,84,1],[0,1,161,0],[0,0,27,0]],2),([[1,0,0,1],[0,1,0,0],[0,0,1,0]],3)],[1,0,0]⟩,
  ⟨3,[1,2,3],2,[0,0,1],[[0,0,27],[1,0,84],[0,1,161]],[([[1,0,84,0],[0,0,27,0],[0,1,161,1]],1),([[1,0,84,0],[0,1,161,1],[0,0,27,0]],2),([[1,0,0,0],[0,1,0,1],[0,0,1,0]],3)],[0,1,0]⟩,
  ⟨3,[1,2,3],3,[27,84,161],[[0,0,27],[1,0,84],[0,1,161]],[([[1,0,84,84],[0,0,27,27],[0,1,161,161]],1),([[1,0,84,84],[0,1,161,161],[0,0,27,27]],2),([[1,0,0,0],[0,1,0,0],[0,0,1,1]],3)],[0,0,1]⟩,
  ⟨3,[1,2,3],4,[84,27,29],[[0,0,27],[1,0,84],[0,1,161]],[([[1,0,84,27],[0,0,27,84],[0,1,161,29]],1),([[1,0,84,27],[0,1,161,29],[0,0,27,84]],2),([[1,0,0,143],[0,1,0,239],[0,0,1,85]],3)],[143,239,85]⟩,
  ⟨3,[1,2,4],0,[1,0,0],[[0,0,84],[1,0,27],[0,1,29]],[([[1,0,27,0],[0,0,84,1],[0,1,29,0]],1),([[1,0,27,0],[0,1,29,0],[0,0,84,1]],2),([[1,0,0,26],[0,1,0,59],[0,0,1,129]],3)],[26,59,129]⟩,
  ⟨3,[1,2,4],1,[0,1,0],[[0,0,84],[1,0,27],[0,1,29]],[([[1,0,27,1],[0,0,84,0],[0,1,29,0]],1),([[1,0,27,1],[0,1,29,0],[0,0,84,0]],2),([[1,0,0,1],[0,1,0,0],[0,0,1,0]],3)],[1,0,0]⟩,
  ⟨3,[1,2,4],2,[0,0,1],[[0,0,84],[1,0,27],[0,1,29]],[([[1,0,27,0],[0,0,84,0],[0,1,29,1]],1),([[1,0,27,0],[0,1,29,1],[0,0,84,0]],2),([[1,0,0,0],[0,1,0,1],[0,0,1,0]],3)],[0,1,0]⟩,
  ⟨3,[1,2,4],3,[27,84,161],[[0,0,84],[1,0,27],[0,1,29]],[([[1,0,27,84],[0,0,84,27],[0,1,29,161]],1),([[1,0,27,84],[0,1,29,161],[0,0,84,27]],2),([[1,0,0,23],[0,1,0,190],[0,0,1,26]],3)],[23,190,26]⟩,
  ⟨3,[1,2,4],4,[84,27,29],[[0,0,84],[1,0,27],[0,1,29]],[([[1,0,27,27],[0,0,84,84],[0,1,29,29]],1),([[1,0,27,27],[0,1,29,29],[0,0,84,84]],2),([[1,0,0,0],[0,1,0,0],[0,0,1,1]],3)],[0,0,1]⟩,
  ⟨3,[1,3,4],0,[1,0,0],[[0,27,84],[1,84,27],[0,161,29]],[([[1,84,27,0],[0,27,84,1],[0,161,29,0]],1),([[1,0,143,85],[0,1,85,128],[0,0,239,94]],2),([[1,0,0,143],[0,1,0,160],[0,0,1,103]],3)],[143,160,103]⟩,
  ⟨3,[1,3,4],1,[0,1,0],[[0,27,84],[1,84,27],[0,161,29]],[([[1,84,27,1],[0,27,84,0],[0,161,29,0]],1),([[1,0,143,1],[0,1,85,0],[0,0,239,0]],2),([[1,0,0,1],[0,1,0,0],[0,0,1,0]],3)],[1,0,0]⟩,
  ⟨3,[1,3,4],2,[0,0,1],[[0,27,84],[1,84,27],[0,161,29]],[([[1,84,27,0],[0,27,84,0],[0,161,29,1]],1),([[1,0,143,0],[0,1,85,0],[0,0,239,1]],2),([[1,0,0,95],[0,1,0,174],[0,0,1,106]],3)],[95,174,106]⟩,
  ⟨3,[1,3,4],3,[27,84,161],[[0,27,84],[1,84,27],[0,161,29]],[([[1,84,27,84],[0,27,84,27],[0,161,29,161]],1),([[1,0,143,0],[0,1,85,1],[0,0,239,0]],2),([[1,0,0,0],[0,1,0,1],[0,0,1,0]],3)],[0,1,0]⟩,
  ⟨3,[1,3,4],4,[84,27,29],[[0,27,84],[1,84,27],[0,161,29]],[([[1,84,27,27],[0,27,84,84],[0,161,29,29]],1),([[1,0,143,143],[0,1,85,85],[0,0,239,239]],2),([[1,0,0,0],[0,1,0,0],[0,0,1,1]],3)],[0,0,1]⟩,
  ⟨3,[2,3,4],0,[1,0,0],[[0,27,84],[0,84,27],[1,161,29]],[([[1,161,29,0],[0,84,27,0],[0,27,84,1]],1),([[1,0,225,0],[0,1,26,0],[0,0,23,1]],2),([[1,0,0,239],[0,1,0,245],[0,0,1,102]],3)],[239,245,102]⟩,
  ⟨3,[2,3,4],1,[0,1,0],[[0,27,84],[0,84,27],[1,161,29]],[([[1,161,29,0],[0,84,27,1],[0,27,84,0]],1),([[1,0,225,255],[0,1,26,129],[0,0,23,26]],2),([[1,0,0,65],[0,1,0,102],[0,0,1,245]],3)],[65,102,245]⟩,
  ⟨3,[2,3,4],2,[0,0,1],[[0,27,84],[0,84,27],[1,161,29]],[([[1,161,29,1],[0,84,27,0],[0,27,84,0]],1),([[1,0,225,1],[0,1,26,0],[0,0,23,0]],2),([[1,0,0,1],[0,1,0,0],[0,0,1,0]],3)],[1,0,0]⟩,
  ⟨3,[2,3,4],3,[27,84,161],[[0,27,84],[0,84,27],[1,161,29]],[([[1,161,29,161],[0,84,27,84],[0,27,84,27]],1),([[1,0,225,0],[0,1,26,1],[0,0,23,0]],2),([[1,0,0,0],[0,1,0,1],[0,0,1,0]],3)],[0,1,0]⟩,
  ⟨3,[2,3,4],4,[84,27,29],[[0,27,84],[0,84,27],[1,161,29]],[([[1,161,29,29],[0,84,27,27],[0,27,84,84]],1),([[1,0,225,225],[0,1,26,26],[0,0,23,23]],2),([[1,0,0,0],[0,1,0,0],[0,0,1,1]],3)],[0,0,1]⟩]
set_option maxRecDepth 100000 in
theorem CT:(ways.all fun e=>e.ok ivL)=true:=by decide +kernel
def wayW (n:Nat) (hs:List Int) (x:Nat):List UInt8:=match ways.find? (fun e=>decide (e.n=n) && decide (e.hs=hs) && decide (e.x=(x:Int))) with
  | some e=>e.w
  | none=>[]
def BY (n:Nat) (x:Nat):List UInt8:=match ways.find? (fun e=>decide (e.n=n) && decide (e.x=(x:Int))) with
  | some e=>e.g
  | none=>[]
def BJ (n:Nat) (hs:List Int):Bool:=
  (List.range (n+2)).all fun x=>decide (ways.find? (fun e=>decide (e.n=n) && decide (e.hs=hs) && decide (e.x=(x:Int)))≠none) && decide ((wayW n hs x).length=n) &&
    ((List.range n).all fun t=>decide (ED (fun j=>bY ((BY n (hs.getD j 0).toNat).getD t 0) ((wayW n hs x).getD j 0)) n=(BY n x).getD t 0)) &&
    ((List.range n).all fun j=>decide (ED (fun i=>bY ((wayW n hs i).getD j 0) ((BY n x).getD i 0)) n=(wayW n hs x).getD j 0))
end Go.Wk
namespace Go.Wk
open Rp (sz own)
set_option maxRecDepth 100000 in
theorem DK:([1,2,3].all fun n=>(tF n).all (BJ n))=true:=by decide +kernel
theorem CV {n s:Nat}{hs:List Int}(hn:1≤n∧n≤3) (h2:s≤2) (hr:rises hs ((n:Int)+s-1)=true) (hl:hs.length=n):hs∈tF n:=by
  rw [rises,List.all_eq_true] at hr
  have hr:∀ i,i<hs.length→eX hs ((n:Int)+s-1) i=true:=fun i hi=>hr i (by simpa using hi)
  simp only [eX,Bool.and_eq_true,Bool.or_eq_true,decide_eq_true_eq] at hr
  have hc:n=1∨n=2∨n=3:=by omega
  rcases hc with rfl | rfl | rfl
  · match hs,hl with
    | [a],_=>
      have h0:=hr 0 (by simp)
      simp only [List.getD_cons_zero] at h0
      have:a=0∨a=1∨a=2:=by omega
      rcases this with rfl | rfl | rfl<;>simp [tF]
  · match hs,hl with
    | [a,b],_=>
      have h0:=hr 0 (by simp)
      have h1:=hr 1 (by simp)
      simp only [List.getD_cons_zero,List.getD_cons_succ,Nat.sub_self,Nat.one_ne_zero,false_or] at h0 h1
      have ha:a=0∨a=1∨a=2:=by omega
      have hb:b=1∨b=2∨b=3:=by omega
      rcases ha with rfl | rfl | rfl<;>rcases hb with rfl | rfl | rfl<;>first | (exfalso; omega) | simp [tF]
  · match hs,hl with
    | [a,b,c],_=>
      have h0:=hr 0 (by simp)
      have h1:=hr 1 (by simp)
      have h2:=hr 2 (by simp)
      simp only [List.getD_cons_zero,List.getD_cons_succ,Nat.sub_self,Nat.one_ne_zero,false_or,Nat.succ_ne_zero,show (2:Nat)-1=1 from rfl,(by decide:¬ (2:Nat)=0)] at h0 h1 h2
      have ha:a=0∨a=1∨a=2:=by omega
      have hb:b=1∨b=2∨b=3:=by omega
      have hc:c=2∨c=3∨c=4:=by omega
      rcases ha with rfl | rfl | rfl<;>rcases hb with rfl | rfl | rfl<;>rcases hc with rfl | rfl | rfl<;>first | (exfalso; omega) | simp [tF]
theorem Ea {n:Nat}{hs:List Int}(hn:1≤n∧n≤3) (h:hs∈tF n):BJ n hs=true:=by
  have h1:=List.all_eq_true.1 DK n (by have hc:n=1∨n=2∨n=3:=(by omega); rcases hc with rfl | rfl | rfl<;>simp)
  exact List.all_eq_true.1 h1 hs h
theorem Eo {n:Nat}{hs:List Int}(h:BJ n hs=true) {x:Nat}(hx:x<n+2):betw n hs x 0=wayW n hs x∧ki n x 0=BY n x:=by
  have h1:=List.all_eq_true.1 h x (by simpa using hx)
  simp only [Bool.and_eq_true,decide_eq_true_eq] at h1
  have h2:=h1.1.1.1
  have key:∀ e∈ways,e.ok ivL=true:=List.all_eq_true.1 CT
  cases he:ways.find? (fun e=>decide (e.n=n) && decide (e.hs=hs) && decide (e.x=(x:Int))) with
  | none=>exact absurd he h2
  | some e=>
    have e1:=List.find?_some he
    simp only [Bool.and_eq_true,decide_eq_true_eq] at e1
    obtain ⟨⟨e2,e3⟩,e4⟩:=e1
    have hm:=List.mem_of_find?_eq_some he
    refine ⟨?_,?_⟩
    · have:=Way.fact (key e hm)
      rw [e2,e3,e4] at this
      rw [this,wayW,he]
    · cases hf:ways.find? (fun e=>decide (e.n=n) && decide (e.x=(x:Int))) with
      | none=>
        have:=List.find?_eq_none.1 hf e hm
        simp [e2,e4] at this
      | some f=>
        have f1:=List.find?_some hf
        simp only [Bool.and_eq_true,decide_eq_true_eq] at f1
        have hg:=key f (List.mem_of_find?_eq_some hf)
        rw [BX] at hg
        unfold Way.ok at hg
        simp only [Bool.and_eq_true,decide_eq_true_eq] at hg
        have h9:=hg.1.1.1.1.1.1
        rw [f1.1,f1.2] at h9
        rw [BY,hf]
        exact h9
section
variable {n s:Nat}{hs:List Int}{x:Int}
theorem zF (hn:1≤n∧n≤3) (h2:s≤2) (hr:rises hs ((n:Int)+s-1)=true) (hl:hs.length=n) (hx:0≤x∧x<n+2):(betw n hs x 0).length=n:=by
  obtain ⟨x,rfl⟩:∃ k:Nat,x=k:=⟨x.toNat,by omega⟩
  have ht:=Ea hn (CV hn h2 hr hl)
  have hx':x<n+2:=by omega
  have h1:=List.all_eq_true.1 ht x (by simpa using hx')
  simp only [Bool.and_eq_true,decide_eq_true_eq] at h1
  rw [(Eo ht hx').1]
  exact h1.1.1.2
end
section
variable {n s:Nat}{xs:List (List UInt8)}
theorem wG (hl:xs.length=n+s):rises (bc xs n xs.length) ((n:Int)+s-1)=true:=by
  have:=rV (xs:=xs) (n:=n) (k:=xs.length)
  rwa [show ((xs.length:Nat):Int)-1=(n:Int)+s-1 by omega] at this
end
end Go.Wk
namespace Go.Wk
theorem EE {n xs} (h:eZ n xs=false):(bc xs n xs.length).length<n:=by
  simpa [eZ] using h
theorem BQ {n xs} (h:eZ n xs=true):¬ (bc xs n xs.length).length<n:=by
  simp only [eZ,decide_eq_true_eq] at h; omega
theorem Bs {n xs p} (h:eZ n xs=true):ub n xs p=decAt n xs p:=(qe (BQ h)).2.2 p
theorem Eu {n xs} (h:eZ n xs=true):oO n xs=nT n xs n:=(qe (BQ h)).2.1
theorem Bw {xs:List (List UInt8)}{n k:Nat}(hk:k≤xs.length) (h:¬ ((k:Int)<xs.length)∨¬ (((bc xs n k).length:Int)<n)) :
    bc xs n xs.length=bc xs n k∧thereTo xs n xs.length=thereTo xs n k:=by
  rcases h with h | h
  · rw [show k=xs.length by omega]; exact ⟨rfl,rfl⟩
  · have:=jT (xs:=xs) (n:=n) (k:=k)
    exact AA (by omega) _ hk
end Go.Wk
namespace Go.Wk
open Rp (sz own)
theorem Sep.nilF {M:Nat→Prop}{w0 w:World}{Δ F:List Rsc}{β:Type}[Rp β] (h:Sep M w0 Δ F w):Sep M w0 Δ (F++[Wk.seen false [.slice none 0 0] ([]:List β) []]) w:=
  h.look (r:=Wk.seen false [.slice none 0 0] ([]:List β) []) (.inr (.inl ⟨rfl,rfl,rfl⟩)) (by simp [Wk.seen])
end Go.Wk

namespace Go.Wk
open Rp (sz own)
section
variable {M:Nat→Prop}{w0 w w':World}{Δ F:List Rsc}
theorem Sep.lookS {α β:Type}[Rp α] [Rp β] (h:Sep M w0 Δ F w) (e:Ext No w w') (j:Nat) {s cs fp0} {y:β}(hj:F[j]? = some (Wk.seen s cs y fp0)) {v:List Value}{x:α}{fp} (o:own false w' v x fp) (hfp:∀ b∈fp,b∈fp0∨w.heap.size≤b) :
    Sep M w0 Δ (F++[Wk.seen false v x fp]) w':=
  (h.to e).look (r:=Wk.seen false v x fp) o fun b hb hm=>(hfp b hb).elim (fun hb=>h.ap _ (List.mem_of_getElem? hj) b hb hm) fun hb=>by have:=h.lt b hm; omega
end
section
variable {P:Program}{n:Nat}{c:Code}{Q:Post}{L:Env}{w w0:World}{M:Nat→Prop}{Δ F:List Rsc}
theorem zJ {β:Type}[Rp β] {γ:Type}{v0:Value}{fp0:List Nat}(f:γ→List (List β)) (g0:γ) (H:Sep M w0 Δ F w) (i:Nat) (hi:Δ[i]? = some (mine [v0] ([]:List View) fp0)) (j:Nat) (hj:F[j]? = some (rows ([]:List View) ([]:List (List β)) [])) (hf:f g0=[]) (t:Nat) (ht:look L t=some v0)
  (G:List Nat→Prop) (hG:G []) (E2:Env) (h2:sub L E2) (E:γ→Env) (I:γ→Prop) (μ:γ→Nat) (hs:sub L (E g0)) (h0:I g0)
  (round:∀ g v fp vs gg w,Sep M w0 (Δ.set i (mine [v] vs fp)) (F.set j (rows vs (f g) gg)) w→vs.length=(f g).length→G gg→I g →
   W P n c (again (fun x:γ × Value × List Nat × List View × List Nat=>(t,x.2.1)::(E x.1++E2)) (fun x w'=>Sep M w0 (Δ.set i (mine [x.2.1] x.2.2.2.1 x.2.2.1)) (F.set j (rows x.2.2.2.1 (f x.1) x.2.2.2.2)) w'∧x.2.2.2.1.length=(f x.1).length∧G x.2.2.2.2∧I x.1) (fun x=>μ x.1) (g,v,fp,vs,gg) Q) ((t,v)::(E g++E2)) w):W P n (.loop c) Q L w:=
 aM (fun x:γ × Value × List Nat × List View × List Nat=>(t,x.2.1)::(E x.1++E2)) (fun x w'=>Sep M w0 (Δ.set i (mine [x.2.1] x.2.2.2.1 x.2.2.1)) (F.set j (rows x.2.2.2.1 (f x.1) x.2.2.2.2)) w'∧x.2.2.2.1.length=(f x.1).length∧G x.2.2.2.2∧I x.1) (fun x=>μ x.1) (g0,v0,fp0,[],[])
  ⟨ht,kr hs h2⟩ ⟨by rw [n5 hi,hf,n5 hj]; exact H,by simp [hf],hG,h0⟩ fun x w h=>round x.1 x.2.1 x.2.2.1 x.2.2.2.1 x.2.2.2.2 w h.1 h.2.1 h.2.2.1 h.2.2.2
end
def blkAt (G:List Drive) (row i:Nat):List UInt8:=if (G.getD i default).Wiped=true then [] else ((G.getD i default).Blocks.getD row default).Bytes
def iQ (G:List Drive) (row k:Nat):List (List UInt8):=(List.range k).map (blkAt G row)
def hC (z:Wld) (g row:Int):List (List UInt8):=iQ (z.Groups.getD g.toNat []) row.toNat (z.Groups.getD g.toNat []).length
section
variable {G:List Drive}{row k:Nat}
theorem od:(iQ G row k).length=k:=by simp [iQ]
theorem su (h:(G.getD k default).Wiped=true):iQ G row (k+1)=iQ G row k++[[]]:=by simp only [iQ,List.range_succ,List.map_append,List.map_cons,List.map_nil]; rw [blkAt,if_pos h]
theorem uW (h:(G.getD k default).Wiped=false):iQ G row (k+1)=iQ G row k++[((G.getD k default).Blocks.getD row default).Bytes]:=by
  simp only [iQ,List.range_succ,List.map_append,List.map_cons,List.map_nil]; rw [blkAt,if_neg (by rw [h]; simp)]
theorem zM {i:Nat}(h:i<k):(iQ G row k).getD i []=blkAt G row i:=by simp [iQ,List.getD,h]
def pE (xs:List (List UInt8)):Nat→Nat
  | 0=>0
  | k+1=>if 0<(xs.getD k []).length then pE xs k+1 else pE xs k
theorem vc {xs:List (List UInt8)}{n:Nat}:∀ k,(bc xs n k).length=min n (pE xs k)
  | 0=>by simp [bc,pE]
  | k+1=>by
    have ih:=vc (xs:=xs) (n:=n) k
    rw [pE]
    by_cases h:0<(xs.getD k []).length
    · rw [if_pos h]
      by_cases h2:(bc xs n k).length<n
      · rw [(fT ⟨h,h2⟩).1,List.length_append]; simp; omega
      · rw [(fU (by omega)).1]; omega
    · rw [if_neg h,(fU (by omega)).1]; exact ih
theorem sU {m:Nat}(h:∀ i,i<m→(G.getD i default).Wiped=false→0<((G.getD i default).Blocks.getD row default).Bytes.length):∀ k,k≤m→pE (iQ G row m) k+(eO G k).length=k
  | 0,_=>rfl
  | k+1,hk=>by
    have ih:=sU h k (by omega)
    rw [pE,zM (by omega)]
    by_cases hw:(G.getD k default).Wiped=true
    · rw [sB hw,blkAt,if_pos hw,if_neg (by simp),List.length_append]; simp; omega
    · have hw':(G.getD k default).Wiped=false:=by simpa using hw
      rw [u7 hw',blkAt,if_neg hw,if_pos (h k (by omega) hw')]; omega
end
section
variable {z:Wld}{g row:Int}
theorem rt (hs:z.Shape.ok=true) (hG:bR z=true) (hg:ins g 0 (z.Shape.Groups+z.Shape.Column-1)=true) (hr:ins row 0 (z.Shape.Rows-1)=true) :
    (hC z g row).length=z.Shape.Data.toNat+z.Shape.Spare.toNat∧Part (hC z g row)∧eZ z.Shape.Data.toNat (hC z g row) = !ip z g:=by
  have hsd:=bi hs
  have hgg:=iP hG
  have hgi:=bM.1 hg
  have hri:=bM.1 hr
  obtain ⟨hl,hd⟩:=hgg.2 g.toNat (by omega)
  have hb:∀ i,i<(z.Groups.getD g.toNat []).length→(((z.Groups.getD g.toNat []).getD i default).Blocks.getD row.toNat default).Bytes.length=4:=fun i hi=>by
    obtain ⟨h1,h2⟩:=hd i hi
    exact (vD (h2 row.toNat (by omega))).2.2
  have hlen:(hC z g row).length=(z.Groups.getD g.toNat []).length:=od
  refine ⟨by omega,fun i hi=>?_,?_⟩
  · rw [hlen] at hi
    unfold hC
    rw [zM hi,blkAt]
    split
    · exact .inr rfl
    · exact .inl (hb i hi)
  · have hc:=sU (G:=z.Groups.getD g.toNat []) (row:=row.toNat) (m:=(z.Groups.getD g.toNat []).length) (fun i hi _=>by rw [hb i hi]; omega) (z.Groups.getD g.toNat []).length (Nat.le_refl _)
    have hh:=vc (xs:=hC z g row) (n:=z.Shape.Data.toNat) (hC z g row).length
    rw [hlen] at hh
    unfold eZ ip xM
    rw [hlen,hh]
    change pE (hC z g row) _+_=_ at hc
    rw [← decide_not]
    exact decide_eq_decide.2 (by omega)
def vM (z:Wld) (g row:Int):List UInt8:=oO z.Shape.Data.toNat (hC z g row)
end
end Go.Wk
namespace Go.Wk
section
variable {z:Wld}{g row most:Int}{xs:List UInt8}
def ja (z:Wld) (g:Int):Int:=if ep z g=0 then if ip z g=true then 10 else 0 else ep z g
theorem vF (hs:z.Shape.ok=true) (hG:bR z=true) (hg:ins g 0 (z.Shape.Groups+z.Shape.Column-1)=true) (hr:ins row 0 (z.Shape.Rows-1)=true) (hd:ip z g=false):((vM z g row).length:Int)=z.Shape.Data*4:=by
  have sbd:=bi hs
  obtain ⟨_,hp,hd2⟩:=rt hs hG hg hr
  have hk:eZ z.Shape.Data.toNat (hC z g row)=true:=by rw [hd2,hd]; rfl
  unfold vM oO
  rw [if_pos hk,lE hp]
  omega
end
end Go.Wk
namespace Go.Wk
open Rp (sz own)
open Go.MapKept (IsKey sameNow_of_keys)
def je (p:RecV × Nat):MapEntry:=⟨.string p.1.r.Name,.agg p.1.cs.toArray,p.2⟩
def fH (ps:List (RecV × Nat)):Array MapEntry:=(ps.map je).toArray
def fJ (v:RecV) (c:Nat):List (RecV × Nat)→List (RecV × Nat)
  | []=>[(v,c)]
  | p::ps=>if p.1.r.Name=v.r.Name then (v,p.2)::ps else p::fJ v c ps
def gq (nm:ByteArray) (ps:List (RecV × Nat)):Bool:=ps.any fun p=>decide (p.1.r.Name=nm)
theorem BH {nm:ByteArray}:∀ (ps:List (RecV × Nat)) (i:Nat),
    (Instr.findNow .string (.string nm) (ps.map je) i=some none∧gq nm ps=false) ∨
    ∃ j p,Instr.findNow .string (.string nm) (ps.map je) i=some (some (i+j,(je p).val))∧ps[j]? = some p∧gq nm ps=true∧p.1.r.Name=nm∧∀ v c,v.r.Name=nm→fJ v c ps=ps.set j (v,p.2)
  | [],i => .inl ⟨rfl,rfl⟩
  | p::ps,i=>by
    obtain ⟨r,hr,hiff⟩:=sameNow_of_keys (d := .string) (a := .string nm) (b := .string p.1.r.Name) trivial trivial
    by_cases e:p.1.r.Name=nm
    · have hr1:r=true:=hiff.2 (by rw [e])
      subst hr1
      refine .inr ⟨0,p,?_,rfl,by simp [gq,e],e,fun v c hv=>by rw [fJ,if_pos (by rw [e,hv])]; rfl⟩
      have hr':Instr.sameNow .string (.string nm) (je p).key=some true:=hr
      simp only [List.map_cons,Instr.findNow,hr',Nat.add_zero]
    · have hr1:r=false:=by
        cases hq:r with
        | false=>rfl
        | true=>have:=hiff.1 hq; simp only [Value.string.injEq] at this; exact absurd this.symm e
      subst hr1
      have hr':Instr.sameNow .string (.string nm) (je p).key=some false:=hr
      have hh:gq nm (p::ps)=gq nm ps:=by simp [gq,e]
      rcases BH (nm:=nm) ps (i+1) with ⟨h1,h2⟩ | ⟨j,q,h1,h2,h3,h4,h5⟩
      · exact .inl ⟨by simp only [List.map_cons,Instr.findNow,hr',h1],by rw [hh,h2]⟩
      · refine .inr ⟨j+1,q,by simp only [List.map_cons,Instr.findNow,hr',h1]; congr 3; omega,by simpa using h2,by rw [hh,h3],h4,fun v c hv=>?_⟩
        rw [fJ,if_neg (by rw [hv]; exact e),h5 v c hv]; rfl
theorem rp {v:RecV}{c:Nat}:∀ {ps:List (RecV × Nat)},gq v.r.Name ps=false→fJ v c ps=ps++[(v,c)]
  | [],_=>rfl
  | p::ps,h=>by
    simp only [gq,List.any_cons,Bool.or_eq_false_iff,decide_eq_false_iff_not] at h
    rw [fJ,if_neg h.1,rp (by simpa [gq] using h.2)]; rfl
section
variable {P:Program}{w:World}{r c:Nat}{ps:List (RecV × Nat)}{mty kt et:TypeId}{v:RecV}
theorem Db (hm:P.underlying mty=some (.map kt et)) (hk:P.underlying kt=some .string) (hb:w.heap[r]? = some (.map (fH ps) c)) :
    ∃ c',c≤c'∧(gq v.r.Name ps=false→c<c')∧(Instr.mapUpdate mty (.map (some r)) (.string v.r.Name) (.agg v.cs.toArray)).run P w = .ok () (put w r (.map (fH (fJ v c ps)) c')):=by
  have hK:IsKey .string (.string v.r.Name):=trivial
  have hl:(fH ps).toList=ps.map je:=by simp [fH]
  rcases BH (nm:=v.r.Name) ps 0 with ⟨h1,h2⟩ | ⟨j,p,h1,h2,h3,h4,h5⟩
  · refine ⟨c+1,by omega,(fun _=>by omega),?_⟩
    rw [← hl] at h1
    have e:(fH ps).push ⟨.string v.r.Name,.agg v.cs.toArray,c⟩=fH (fJ v c ps):=by
      rw [rp h2]; unfold fH; rw [List.map_append]; simp [je]
    simp [Instr.mapUpdate,run_underlying hm,Go.MapKept.run_getObj_map hb,Go.MapKept.run_checkKey hk hK,Go.MapKept.run_findKey hk h1,Go.MapKept.run_setObj_map _ hb,Result.andThen]
    rw [e]; rfl
  · refine ⟨c,Nat.le_refl _,(fun h=>by rw [h3] at h; cases h),?_⟩
    rw [← hl] at h1
    have hj:(fH ps)[j]? = some (je p):=by rw [← Array.getElem?_toList,hl,List.getElem?_map,h2]; rfl
    have e:(fH ps).modify j (fun e=>{ e with key := .string v.r.Name,val := .agg v.cs.toArray })=fH (fJ v c ps):=by
      rw [h5 v c rfl]
      apply Array.toList_inj.1
      rw [Array.toList_modify,hl]
      show (ps.map je).modify j _=(List.map je (ps.set j (v,p.2))).toArray.toList
      rw [List.map_set]
      apply List.ext_getElem?
      intro q
      rw [List.getElem?_modify,List.getElem?_set]
      by_cases e:j=q
      · subst e
        rw [List.getElem?_map,h2,if_pos rfl]
        have hlt:j<(ps.map je).length:=by rw [List.length_map]; exact (List.getElem?_eq_some_iff.1 h2).1
        rw [if_pos hlt]
        simp [je]
      · simp [e]
    have hkt:(je p).key = .string v.r.Name:=by show Value.string p.1.r.Name=_; rw [h4]
    simp [Instr.mapUpdate,run_underlying hm,Go.MapKept.run_getObj_map hb,Go.MapKept.run_checkKey hk hK,Go.MapKept.run_findKey hk h1,hj,hkt,Go.MapKept.run_keyThatStays hK,Go.MapKept.run_setObj_map _ hb,Result.andThen]
    rw [← e]
    rfl
end
structure MapOK (ps:List (RecV × Nat)) (c:Nat):Prop where
  names:(ps.map fun p=>p.1.r.Name).Nodup
  stamps:(ps.map Prod.snd).Nodup
  lt:∀ p∈ps,p.2<c
theorem rQ {v:RecV}{c:Nat}:∀ {ps:List (RecV × Nat)},gq v.r.Name ps=true→(fJ v c ps).map (fun p=>p.1.r.Name)=ps.map fun p=>p.1.r.Name
  | [],h=>by cases h
  | p::ps,h=>by
    rw [fJ]
    split
    · next e=>simp [e]
    · next e=>rw [List.map_cons,rQ (by simpa [gq,e] using h)]; rfl
theorem ll {v:RecV}{c:Nat}:∀ {ps:List (RecV × Nat)},gq v.r.Name ps=true→(fJ v c ps).map Prod.snd=ps.map Prod.snd
  | [],h=>by cases h
  | p::ps,h=>by
    rw [fJ]
    split
    · rfl
    · next e=>rw [List.map_cons,ll (by simpa [gq,e] using h)]; rfl
theorem Dt {nm:ByteArray}{ps:List (RecV × Nat)}(h:gq nm ps=false):nm ∉ ps.map fun p=>p.1.r.Name:=fun hm=>by
  obtain ⟨p,hp,e⟩:=List.mem_map.1 hm
  have:gq nm ps=true:=by rw [gq,List.any_eq_true]; exact ⟨p,hp,by simp [e]⟩
  rw [h] at this; cases this
theorem iz {α:Type}{l:List α}{x:α}(h:l.Nodup) (hx:x ∉ l):(l++[x]).Nodup:=
  List.nodup_append.2 ⟨h,by simp,fun a ha b hb e=>by rw [List.mem_singleton] at hb; subst hb; subst e; exact hx ha⟩
theorem MapOK.upd {ps:List (RecV × Nat)}{c c':Nat}{v:RecV}(h:MapOK ps c) (h1:c≤c') (h2:gq v.r.Name ps=false→c<c'):MapOK (fJ v c ps) c':=by
  cases hv:gq v.r.Name ps with
  | false=>
    have hc:=h2 hv
    rw [rp hv]
    refine ⟨by rw [List.map_append]; exact iz h.names (Dt hv),by
      rw [List.map_append]
      refine iz h.stamps fun hm=>?_
      obtain ⟨p,hp,e⟩:=List.mem_map.1 hm
      have:=h.lt p hp
      have e':p.2=c:=e
      omega,fun p hp=>?_⟩
    rcases List.mem_append.1 hp with hp | hp
    · have:=h.lt p hp; omega
    · rw [List.mem_singleton] at hp; subst hp; exact hc
  | true=>
    refine ⟨by rw [rQ hv]; exact h.names,by rw [ll hv]; exact h.stamps,fun p hp=>?_⟩
    have:p.2∈(fJ v c ps).map Prod.snd:=List.mem_map_of_mem hp
    rw [ll hv] at this
    obtain ⟨q,hq,e⟩:=List.mem_map.1 this
    have:=h.lt q hq
    omega
theorem MapOK.nil:MapOK [] 0:=⟨.nil,.nil,fun p hp=>by cases hp⟩
theorem kf {α β:Type}{f:α→β}{l:List α}(h:(l.map f).Nodup):l.Nodup:=List.Pairwise.of_map f (fun _ _ hne e=>hne (by rw [e])) h
theorem MapOK.nodup {ps:List (RecV × Nat)}{c:Nat}(h:MapOK ps c):ps.Nodup:=kf h.stamps
theorem MapOK.inj {ps:List (RecV × Nat)}{c:Nat}(h:MapOK ps c) {p q:RecV × Nat}(hp:p∈ps) (hq:q∈ps) (e:p.2=q.2):p=q:=by
  have key:∀ {l:List (RecV × Nat)},(l.map Prod.snd).Nodup→p∈l→q∈l→p=q:=by
    intro l
    induction l with
    | nil=>intro _ h; cases h
    | cons a l ih=>
      intro hn h1 h2
      rw [List.map_cons,List.nodup_cons] at hn
      rcases List.mem_cons.1 h1 with e1 | k1
      · rcases List.mem_cons.1 h2 with e2 | k2
        · rw [e1,e2]
        · exact absurd (List.mem_map.2 ⟨q,k2,by rw [← e,e1]⟩:a.2∈l.map Prod.snd) hn.1
      · rcases List.mem_cons.1 h2 with e2 | k2
        · exact absurd (List.mem_map.2 ⟨p,k1,by rw [e,e2]⟩:a.2∈l.map Prod.snd) hn.1
        · exact ih hn.2 k1 k2
  exact key h.stamps hp hq
def cH (ds:List (RecV × Nat)):Array Nat:=(ds.map Prod.snd).toArray
theorem BZ {ps ds:List (RecV × Nat)}:(leftOf (fH ps) (cH ds)).toList=(ps.map je).filter fun e => !(ds.map Prod.snd).contains e.born:=by
  unfold leftOf fH cH
  simp only [List.filter_toArray,List.contains_toArray,List.contains_eq_mem]
section
variable {P:Program}{n:Nat}{ops:Array Oper}{Q:Post}{L:Env}{w w0:World}{M:Nat→Prop}{Δ F:List Rsc}{rest:List Oper}{d:Nat}{ty:TypeId}{p:String}{af:Array Edge}{g:Option (Nat × Bool)}
theorem DM {t:TypeId}(hw:Wn ops n L ⟨some d,.makeMap t none,ty,p,af,g⟩) (hn:Nat.blt d n=true) (H:Sep M w0 Δ F w)
    (k:∀ b w',Ext No w w'→w.heap.size≤b→Sep M w0 (Δ++[box b (.map (fH []) 0)]) F w'→RL P n ops Q rest ((d,.map (some b))::L) w') :
    RL P n ops Q (⟨some d,.makeMap t none,ty,p,af,g⟩::rest) L w:=
  nZ (ob := .map (fH []) 0) (v:=fun b => .map (some b)) hw rfl hn (fun a ha=>by
    simp [execOp,Instr.makeMap,Result.andThen,fH]) H k
theorem EJ {mty kt et:TypeId}{m x y:Operand}{b c:Nat}{ps:List (RecV × Nat)}{v:RecV}(hw:Wn ops n L ⟨none,.mapUpdate mty m x y,ty,p,af,g⟩) (hm:P.underlying mty=some (.map kt et)) (hk:P.underlying kt=some .string)
    (h1:evL L m=some (.map (some b))) (h2:evL L x=some (.string v.r.Name)) (h3:evL L y=some (.agg v.cs.toArray)) (H:Sep M w0 Δ F w) (i:Nat) (hi:Δ[i]? = some (box b (.map (fH ps) c))) (ok:MapOK ps c)
    (k:∀ c' w',MapOK (fJ v c ps) c'→Sep M w0 (Δ.set i (box b (.map (fH (fJ v c ps)) c'))) F w'→RL P n ops Q rest L w') :
    RL P n ops Q (⟨none,.mapUpdate mty m x y,ty,p,af,g⟩::rest) L w:=by
  obtain ⟨c',hc,hc2,hr⟩:=Db (v:=v) hm hk (H.box i hi)
  exact tP hw rfl (fun a ha=>by simp [execOp,ha.eval h1,ha.eval h2,ha.eval h3,hr]) (k c' _ (ok.upd hc hc2) (H.put i _ hi))
theorem Cs {t kt et:TypeId}{x:Operand}{b c:Nat}{ps:List (RecV × Nat)}(hw:Wn ops n L ⟨some d,.range t x,ty,p,af,g⟩) (hn:Nat.blt d n=true) (ht:P.underlying t=some (.map kt et)) (hx:evL L x=some (.map (some b))) (H:Sep M w0 Δ F w) (i:Nat) (hi:Δ[i]? = some (box b (.map (fH ps) c)))
    (k:∀ r w',Ext No w w'→w.heap.size≤r→Sep M w0 (Δ++[box r (.mapIter (some b) c (cH []) c)]) F w'→RL P n ops Q rest ((d,.pointer (some ⟨r,0,none⟩))::L) w') :
    RL P n ops Q (⟨some d,.range t x,ty,p,af,g⟩::rest) L w:=by
  have hb:=H.box i hi
  exact nZ (ob := .mapIter (some b) c (cH []) c) (v:=fun b => .pointer (some ⟨b,0,none⟩)) hw rfl hn (fun a ha=>by
    simp [execOp,ha.eval hx,Instr.range,run_underlying ht,Go.MapKept.run_getObj_map hb,Result.andThen,cH]) H k
theorem C5 {x:Operand}{r b c s:Nat}{ps ds:List (RecV × Nat)}(hw:Wn ops n L ⟨some d,.next x false,ty,p,af,g⟩) (hn:Nat.blt d n=true) (hx:evL L x=some (.pointer (some ⟨r,0,none⟩))) (H:Sep M w0 Δ F w)
    (i j:Nat) (hi:Δ[i]? = some (box r (.mapIter (some b) c (cH ds) c))) (hj:Δ[j]? = some (box b (.map (fH ps) c))) (ok:MapOK ps c) (hds:∀ q∈ds,q∈ps)
    (k1:(∀ q∈ps,q∈ds)→RL P n ops Q rest ((d,.tuple #[.bool false])::L) w)
    (k2:∀ q w',q∈ps→q ∉ ds→Sep M w0 (Δ.set i (box r (.mapIter (some b) c (cH (ds++[q])) c))) F w'→RL P n ops Q rest ((d,.tuple #[.bool true,.string q.1.r.Name,.agg q.1.cs.toArray])::L) w') :
    RL P n ops Q (⟨some d,.next x false,ty,p,af,g⟩::rest) L w:=by
  have hr:=H.box i hi
  have hb:=H.box j hj
  have hold:∀ e∈(fH ps).toList,e.born<c:=fun e he=>by
    simp only [fH,List.mem_map] at he
    obtain ⟨q,hq,rfl⟩:=he
    exact ok.lt q hq
  rcases run_next_at (P:=P) w ty r b c c (cH ds) (fH ps) c hr hb hold (Nat.le_refl _) with ⟨h1,h2⟩ | ⟨e,he,w1,hw1,h2⟩
  · refine pI hw rfl hn (w':=w) (v := .tuple #[.bool false]) (fun a ha=>by simp [execOp,ha.eval hx,h2]) (k1 fun q hq=>?_)
    have hz:(leftOf (fH ps) (cH ds)).toList=[]:=by
      apply List.eq_nil_of_length_eq_zero; rw [Array.length_toList]; exact h1
    rw [BZ,List.filter_eq_nil_iff] at hz
    have:=hz (je q) (List.mem_map_of_mem hq)
    simp only [Bool.not_eq_true',Bool.not_eq_false,List.contains_eq_mem,decide_eq_true_eq] at this
    obtain ⟨q',hq',e⟩:=List.mem_map.1 this
    rw [← ok.inj (hds q' hq') hq e]; exact hq'
  · rw [BZ,List.mem_filter,List.mem_map] at he
    obtain ⟨⟨q,hq,rfl⟩,hnd⟩:=he
    have hnq:q ∉ ds:=fun hm=>by
      simp only [Bool.not_eq_true',List.contains_eq_mem,decide_eq_false_iff_not] at hnd
      exact hnd (List.mem_map.2 ⟨q,hm,rfl⟩)
    have es:(cH ds).push (je q).born=cH (ds++[q]):=by unfold cH; rw [List.map_append]; simp [je]
    rw [es] at h2
    have H1:Sep M w0 Δ F w1:=by
      rcases hw1 with rfl | rfl
      · exact H
      · exact H.drawn _
    exact pI hw rfl hn (w':=put w1 r (.mapIter (some b) c (cH (ds++[q])) c)) (v := .tuple #[.bool true,.string q.1.r.Name,.agg q.1.cs.toArray]) (fun a ha=>by
      have h3:(Instr.next (.pointer (some ⟨r,0,none⟩)) false ty).run P w = .ok (.tuple #[.bool true,.string q.1.r.Name,.agg q.1.cs.toArray]) (put w1 r (.mapIter (some b) c (cH (ds++[q])) c)):=h2
      simp [execOp,ha.eval hx,h3])
      (k2 q _ hq hnq (H1.put i _ hi))
theorem AB {x:Operand}{r b c:Nat}{ps ds:List (RecV × Nat)}{q:RecV × Nat}{o:Option Tmp}(hx:evL L x=some (.pointer (some ⟨r,0,none⟩))) (H:Sep M w0 Δ F w)
    (i j:Nat) (hi:Δ[i]? = some (box r (.mapIter (some b) c (cH (ds++[q])) c))) (hj:Δ[j]? = some (box b (.map (fH ps) c))) (ok:MapOK ps c) (hq:q∈ps) :
    Py P n L w ⟨o,.entry x,ty,p,af,g⟩ (.tuple #[.string q.1.r.Name,.agg q.1.cs.toArray]):=fun a ha=>by
  have es:cH (ds++[q])=(cH ds).push (je q).born:=by unfold cH; rw [List.map_append]; simp [je]
  have hr:=H.box i hi
  rw [es] at hr
  have h:=run_entry_at (P:=P) w r b c (cH ds) (fH ps) c (je q) hr (H.box j hj) (by simp only [fH]; exact List.mem_map_of_mem hq) (by
    simp only [fH,List.map_map]
    exact ok.stamps)
  have h3:(Instr.entry (.pointer (some ⟨r,0,none⟩))).run P w = .ok (.tuple #[.string q.1.r.Name,.agg q.1.cs.toArray]) w:=h
  simp [execOp,ha.eval hx,h3]
end
end Go.Wk
