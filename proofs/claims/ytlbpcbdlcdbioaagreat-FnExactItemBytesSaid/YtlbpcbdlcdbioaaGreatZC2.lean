/-
  Laws on walking, and the functions walked, each once: what this claim comes to.
-/
import Derived.Test.YtlbpcbdlcdbioaaGreatZC1
set_option linter.unusedVariables false
set_option linter.unusedSimpArgs false
namespace Go.Wk
open Rp (sz own)
def nLt (a b:List UInt8):Prop:=Op.bytesLess a b=true
theorem lu {a b:UInt8}{x y:List UInt8}:nLt (a::x) (b::y)↔a<b∨a=b∧nLt x y:=by
  unfold nLt
  rw [Op.bytesLess]
  simp
theorem p5 {b:UInt8}{y:List UInt8}:nLt [] (b::y):=rfl
theorem oH {x:List UInt8}:¬ nLt x []:=by unfold nLt; cases x<;>simp [Op.bytesLess]
theorem u3:LinO nLt where
  irr a:=by
    induction a with
    | nil=>exact oH
    | cons a x ih=>
      rw [lu]
      rintro (h | ⟨_,h⟩)
      · exact UInt8.lt_irrefl a h
      · exact ih h
  tr a:=by
    induction a with
    | nil=>
      intro b c h1 h2
      cases c with
      | nil=>exact absurd h2 oH
      | cons c z=>exact p5
    | cons a x ih=>
      intro b c h1 h2
      cases b with
      | nil=>exact absurd h1 oH
      | cons b y=>
        cases c with
        | nil=>exact absurd h2 oH
        | cons c z=>
          rw [lu] at h1 h2 ⊢
          rcases h1 with h1 | ⟨rfl,h1⟩
          · rcases h2 with h2 | ⟨rfl,h2⟩
            · exact .inl (UInt8.lt_trans h1 h2)
            · exact .inl h1
          · rcases h2 with h2 | ⟨rfl,h2⟩
            · exact .inl h2
            · exact .inr ⟨rfl,ih _ _ h1 h2⟩
  tot a:=by
    induction a with
    | nil=>
      intro b
      cases b with
      | nil=>exact .inr (.inl rfl)
      | cons b y=>exact .inl p5
    | cons a x ih=>
      intro b
      cases b with
      | nil=>exact .inr (.inr p5)
      | cons b y=>
        rw [lu,lu]
        rcases Decidable.em (a<b) with h | h
        · exact .inl (.inl h)
        · rcases Decidable.em (b<a) with k | k
          · exact .inr (.inr (.inl k))
          · have e:a=b:=UInt8.le_antisymm (UInt8.not_lt.1 k) (UInt8.not_lt.1 h)
            subst e
            rcases ih y with h | h | h
            · exact .inl (.inr ⟨rfl,h⟩)
            · exact .inr (.inl (by rw [h]))
            · exact .inr (.inr (.inr ⟨rfl,h⟩))
theorem zy:∀ {x y:List UInt8},Lib.compareBytes x y<0↔nLt x y
  | [],[]=>by simp [Lib.compareBytes,oH]
  | [],_::_=>by simp [Lib.compareBytes,p5]
  | _::_,[]=>by simp [Lib.compareBytes,oH]
  | a::x,b::y=>by
    rw [lu,Lib.compareBytes]
    split
    · next h=>simp [h]
    · next h=>
      split
      · next k=>
        have:a≠b:=fun e=>by subst e; exact h k
        simp [h,this]
      · next k=>
        have e:a=b:=UInt8.le_antisymm (UInt8.not_lt.1 k) (UInt8.not_lt.1 h)
        subst e
        rw [zy]; simp
def dt (r:Rec):List UInt8:=r.Name.toList
def nameV (v:RecV):List UInt8:=dt v.r
theorem vr {r q:Rec}:dt r=dt q↔r.Name=q.Name:=qh
def zC (xs:List Rec) (k:Nat):Bool:=decide ((xs.getD k default).Kind=1) && (decide ((xs.getD k default).Length ≠ -1) && !(xs.drop (k+1)).any (itP (xs.getD k default).Name))
def mc (xs:List Rec):Nat→List Rec
  | 0=>[]
  | k+1=>if zC xs k=true then mc xs k++[xs.getD k default] else mc xs k
def sj (xs:List Rec):List Rec:=mc xs xs.length
def lastIt (nm:ByteArray):List Rec→Option Rec
  | []=>none
  | r::rs=>match lastIt nm rs with
    | some q=>some q
    | none=>if itP nm r=true then some r else none
section
variable {xs ys:List Rec}{r q:Rec}{nm:ByteArray}{k:Nat}
theorem lG:itP nm r=true↔r.Kind=1∧r.Name=nm:=by
  unfold itP; rw [Bool.and_eq_true,decide_eq_true_eq,beq_iff_eq,qh]
theorem kX:lastIt nm xs=none↔xs.any (itP nm)=false:=by
  induction xs with
  | nil=>simp [lastIt]
  | cons r rs ih=>
    rw [lastIt,List.any_cons]
    cases h:lastIt nm rs with
    | some q=>
      have h2:rs.any (itP nm)=true:=by
        cases c:rs.any (itP nm) with
        | true=>rfl
        | false=>rw [ih.2 c] at h; cases h
      rw [h2]; simp
    | none=>
      have h2:=ih.1 h
      dsimp only
      rw [h2]
      cases c:itP nm r<;>simp [c]
theorem kT:lastIt nm (xs++[r])=if itP nm r=true then some r else lastIt nm xs:=by
  induction xs with
  | nil=>rw [List.nil_append,lastIt]; simp [lastIt]
  | cons a asg ih=>
    rw [List.cons_append,lastIt,ih,lastIt]
    by_cases c:itP nm r=true
    · rw [if_pos c,if_pos c]
    · rw [if_neg c,if_neg c]
theorem js (h:lastIt nm xs=some r):r∈xs∧r.Kind=1∧r.Name=nm:=by
  induction xs with
  | nil=>cases h
  | cons a asg ih=>
    rw [lastIt] at h
    cases c:lastIt nm asg with
    | some q=>
      rw [c] at h
      obtain ⟨h1,h2⟩:=ih (by rw [c]; exact h)
      exact ⟨List.mem_cons_of_mem _ h1,h2⟩
    | none=>
      rw [c] at h
      dsimp only at h
      split at h
      · next e=>
        cases h
        exact ⟨List.mem_cons_self ..,lG.1 e⟩
      · cases h
theorem wq:lastIt nm (xs++ys)=(lastIt nm ys).or (lastIt nm xs):=by
  induction xs with
  | nil=>simp [lastIt]
  | cons a asg ih=>
    rw [List.cons_append,lastIt,ih,lastIt]
    cases lastIt nm ys<;>simp
theorem jN (hk:k<xs.length):zC xs k=true↔(xs.getD k default).Kind=1∧(xs.getD k default).Length ≠ -1∧lastIt (xs.getD k default).Name (xs.drop (k+1))=none:=by
  unfold zC
  rw [kX]
  simp
theorem oy:∀ {k},k≤xs.length→(r∈mc xs k↔∃ j,j<k∧zC xs j=true∧xs.getD j default=r)
  | 0,_=>by simp [mc]
  | k+1,h=>by
    rw [mc]
    have ih:=oy (k:=k) (by omega)
    split
    · next c=>
      rw [List.mem_append,List.mem_singleton,ih]
      constructor
      · rintro (⟨j,h1,h2,h3⟩ | rfl)
        · exact ⟨j,by omega,h2,h3⟩
        · exact ⟨k,by omega,c,rfl⟩
      · rintro ⟨j,h1,h2,h3⟩
        by_cases e:j=k
        · subst e; exact .inr h3.symm
        · exact .inl ⟨j,by omega,h2,h3⟩
    · next c=>
      rw [ih]
      constructor
      · rintro ⟨j,h1,h2,h3⟩; exact ⟨j,by omega,h2,h3⟩
      · rintro ⟨j,h1,h2,h3⟩
        by_cases e:j=k
        · subst e; exact absurd h2 c
        · exact ⟨j,by omega,h2,h3⟩
theorem yC {j:Nat}(h:j<xs.length):xs=xs.take j++xs.getD j default::xs.drop (j+1):=by
  rw [cf h,← List.drop_eq_getElem_cons h,List.take_append_drop]
theorem qK:r∈sj xs↔r.Kind=1∧r.Length ≠ -1∧lastIt r.Name xs=some r:=by
  unfold sj
  rw [oy (Nat.le_refl _)]
  constructor
  · rintro ⟨j,h1,h2,rfl⟩
    obtain ⟨a,b,c⟩:=(jN h1).1 h2
    refine ⟨a,b,?_⟩
    have e:=yC h1
    rw [show lastIt (xs.getD j default).Name xs=lastIt (xs.getD j default).Name (xs.take j++xs.getD j default::xs.drop (j+1)) from by rw [← e],wq,lastIt,c]
    rw [if_pos (lG.2 ⟨a,rfl⟩)]; rfl
  · rintro ⟨a,b,c⟩
    have key:∀ {l:List Rec},lastIt r.Name l=some r→∃ j,j<l.length∧l.getD j default=r∧lastIt r.Name (l.drop (j+1))=none:=by
      intro l
      induction l with
      | nil=>intro h; cases h
      | cons x l ih=>
        intro h
        rw [lastIt] at h
        cases e:lastIt r.Name l with
        | some q=>
          rw [e] at h
          obtain ⟨j,h1,h2,h3⟩:=ih (by rw [e]; exact h)
          exact ⟨j+1,by simp; omega,by simpa using h2,by simpa using h3⟩
        | none=>
          rw [e] at h
          dsimp only at h
          split at h
          · cases h; exact ⟨0,by simp,rfl,by simpa using e⟩
          · cases h
    obtain ⟨j,h1,h2,h3⟩:=key c
    exact ⟨j,h1,(jN h1).2 (by rw [h2]; exact ⟨a,b,h3⟩),h2⟩
theorem pK:∀ {k},k≤xs.length→((mc xs k).map dt).Nodup
  | 0,_ => .nil
  | k+1,h=>by
    rw [mc]
    have ih:=pK (k:=k) (by omega)
    split
    · next c=>
      rw [List.map_append]
      refine iz ih fun hm=>?_
      obtain ⟨q,hq,e⟩:=List.mem_map.1 hm
      obtain ⟨j,h1,h2,h3⟩:=(oy (by omega)).1 hq
      obtain ⟨a1,b1,c1⟩:=(jN (by omega)).1 h2
      obtain ⟨a2,b2,c2⟩:=(jN (by omega)).1 c
      rw [kX,List.any_eq_false] at c1
      have hk:xs.getD k default∈xs.drop (j+1):=by
        rw [cf (by omega)]
        rw [List.mem_iff_getElem]
        exact ⟨k-(j+1),by rw [List.length_drop]; omega,by rw [List.getElem_drop]; congr 1; omega⟩
      refine c1 _ hk (lG.2 ⟨a2,?_⟩)
      rw [h3]
      exact (vr.1 e).symm
    · exact ih
theorem qV:((sj xs).map dt).Nodup:=pK (Nat.le_refl _)
theorem pu {l:List Rec}(hn:(l.map dt).Nodup) (nm:List UInt8):∀ {r},r∈l→dt r=nm→(l.filter fun x=>decide (dt x=nm))=[r]:=by
  induction l with
  | nil=>intro r h; cases h
  | cons a l ih=>
    intro r hr e
    rw [List.map_cons,List.nodup_cons] at hn
    rcases List.mem_cons.1 hr with rfl | hr
    · rw [List.filter_cons_of_pos (by simp [e]),List.filter_eq_nil_iff.2 fun x hx=>?_]
      simp only [decide_eq_true_eq]
      intro e2
      exact hn.1 (List.mem_map.2 ⟨x,hx,e2.trans e.symm⟩)
    · rw [List.filter_cons_of_neg (by
        simp only [decide_eq_true_eq]
        intro e2
        exact hn.1 (List.mem_map.2 ⟨r,hr,e.trans e2.symm⟩)),ih hn.2 hr e]
theorem wc {l l':List Rec}(hn:(l.map dt).Nodup) (hp:l'.Perm l):cd dt l l':=fun nm=>by
  have hn':(l'.map dt).Nodup:=(hp.map dt).nodup_iff.2 hn
  by_cases h:∃ r∈l,dt r=nm
  · obtain ⟨r,hr,e⟩:=h
    rw [pu hn nm hr e,pu hn' nm (hp.mem_iff.2 hr) e]
  · rw [List.filter_eq_nil_iff.2 fun x hx=>?_,List.filter_eq_nil_iff.2 fun x hx=>?_]
    · simp only [decide_eq_true_eq]; intro e; exact h ⟨x,hx,e⟩
    · simp only [decide_eq_true_eq]; intro e; exact h ⟨x,hp.mem_iff.1 hx,e⟩
theorem DV (x:Rec):∀ {ys:List Rec},Ord nLt dt ys→∃ A B,ys=A++B∧(∀ y∈B,nLt (dt x) (dt y))∧∀ y∈A,¬ nLt (dt x) (dt y)
  | [],_=>⟨[],[],rfl,by simp,by simp⟩
  | y::ys,.cons h1 h2=>by
    by_cases c:nLt (dt x) (dt y)
    · refine ⟨[],y::ys,rfl,fun z hz=>?_,by simp⟩
      rcases List.mem_cons.1 hz with rfl | hz
      · exact c
      · rcases u3.tot (dt y) (dt z) with q | q | q
        · exact u3.tr _ _ _ c q
        · rw [← q]; exact c
        · exact absurd q (h1 z hz)
    · obtain ⟨A,B,e,hB,hA⟩:=DV x h2
      refine ⟨y::A,B,by rw [e]; rfl,hB,fun z hz=>?_⟩
      rcases List.mem_cons.1 hz with rfl | hz
      · exact c
      · exact hA z hz
theorem m9:∀ (n:Nat) (l:List Rec),l.length=n→∃ ys,Stable nLt dt l ys
  | 0,l,h=>⟨[],by rw [List.eq_nil_of_length_eq_zero h]; exact ⟨.nil,.refl⟩⟩
  | n+1,l,h=>by
    have hl:l.dropLast++[l.getLast (fun e=>by rw [e] at h; simp at h)]=l:=List.dropLast_concat_getLast _
    obtain ⟨ys,hy⟩:=m9 n l.dropLast (by rw [List.length_dropLast]; omega)
    obtain ⟨A,B,rfl,hB,hA⟩:=DV (l.getLast (fun e=>by rw [e] at h; simp at h)) hy.1
    have:=gw u3 hy hB hA
    rw [hl] at this
    exact ⟨_,this⟩
end
noncomputable def ey (z:Wld):List Rec:=(m9 _ (sj (bZ z)) rfl).choose
section
variable {z:Wld}{ys:List Rec}{r:Rec}{nm:ByteArray}
theorem jb:Stable nLt dt (sj (bZ z)) (ey z):=(m9 _ (sj (bZ z)) rfl).choose_spec
theorem DG (h:Stable nLt dt (sj (bZ z)) ys):ys=ey z:=mf u3 h jb
theorem zY (hp:ys.Perm (sj (bZ z))) (ho:Ord nLt dt ys):ys=ey z:=DG ⟨ho,wc qV hp⟩
theorem uJ:r∈ey z↔r∈sj (bZ z):=⟨fun h=>jb.2.mem h,fun h=>(cd.symm jb.2).mem h⟩
theorem tb {xs:List Rec}:∀ {k},(mc xs k).length≤k
  | 0=>Nat.le_refl _
  | k+1=>by
    rw [mc]
    have:=tb (xs:=xs) (k:=k)
    split
    · rw [List.length_append,List.length_singleton]; omega
    · omega
theorem BU:(ey z).length≤(bZ z).length:=by
  have h:=jb (z:=z).2.len
  rw [h]; exact tb
end
def MapIs (xs:List Rec) (ps:List (RecV × Nat)):Prop:=(∀ p∈ps,lastIt p.1.r.Name xs=some p.1.r)∧∀ r∈xs,r.Kind=1→gq r.Name ps=true
section
variable {xs:List Rec}{ps:List (RecV × Nat)}{v:RecV}{c:Nat}{r:Rec}
theorem MapIs.nil:MapIs [] []:=⟨by simp,by simp⟩
theorem Cq {nm:ByteArray}:gq nm ps=true↔∃ p∈ps,p.1.r.Name=nm:=by unfold gq; rw [List.any_eq_true]; simp
theorem MapIs.skip (h:MapIs xs ps) (hr:r.Kind≠1):MapIs (xs++[r]) ps:=by
  refine ⟨fun p hp=>?_,fun q hq hk=>?_⟩
  · rw [kT,if_neg (fun e=>hr (lG.1 e).1)]; exact h.1 p hp
  · rcases List.mem_append.1 hq with hq | hq
    · exact h.2 q hq hk
    · rw [List.mem_singleton] at hq; subst hq; exact absurd hk hr
theorem uZ {p:RecV × Nat}(hn:(ps.map fun p=>p.1.r.Name).Nodup):p∈fJ v c ps→p.1=v∨p∈ps∧p.1.r.Name≠v.r.Name:=by
  induction ps with
  | nil=>intro h; rw [fJ,List.mem_singleton] at h; subst h; exact .inl rfl
  | cons a asg ih=>
    intro h
    rw [List.map_cons,List.nodup_cons] at hn
    rw [fJ] at h
    split at h
    · next e=>
      rcases List.mem_cons.1 h with rfl | h
      · exact .inl rfl
      · refine .inr ⟨List.mem_cons_of_mem _ h,fun e2=>hn.1 ?_⟩
        rw [e,← e2]; exact List.mem_map.2 ⟨p,h,rfl⟩
    · next e=>
      rcases List.mem_cons.1 h with rfl | h
      · exact .inr ⟨List.mem_cons_self ..,e⟩
      · rcases ih hn.2 h with h | ⟨h,h2⟩
        · exact .inl h
        · exact .inr ⟨List.mem_cons_of_mem _ h,h2⟩
theorem Cx {nm:ByteArray}:gq nm (fJ v c ps)=(gq nm ps || decide (v.r.Name=nm)):=by
  induction ps with
  | nil=>simp [fJ,gq]
  | cons a asg ih=>
    rw [fJ]
    split
    · next e=>
      unfold gq at *
      simp only [List.any_cons,e]
      cases decide (v.r.Name=nm)<;>simp
    · unfold gq at *
      simp only [List.any_cons,ih,Bool.or_assoc]
theorem MapIs.put (h:MapIs xs ps) (hn:(ps.map fun p=>p.1.r.Name).Nodup) (hk:v.r.Kind=1):MapIs (xs++[v.r]) (fJ v c ps):=by
  refine ⟨fun p hp=>?_,fun q hq hq1=>?_⟩
  · rw [kT]
    rcases uZ hn hp with e | ⟨h1,h2⟩
    · rw [e,if_pos (lG.2 ⟨hk,rfl⟩)]
    · rw [if_neg (fun e=>h2 (lG.1 e).2.symm)]; exact h.1 p h1
  · rw [Cx]
    rcases List.mem_append.1 hq with hq | hq
    · rw [h.2 q hq hq1]; rfl
    · rw [List.mem_singleton] at hq; subst hq; simp
def gU (ds:List (RecV × Nat)):List RecV:=(ds.map Prod.fst).filter fun v=>decide (v.r.Length ≠ -1)
theorem z7 {ds:List (RecV × Nat)}{q:RecV × Nat}(h:q.1.r.Length ≠ -1):gU (ds++[q])=gU ds++[q.1]:=by unfold gU; rw [List.map_append,List.filter_append]; simp [h]
theorem CD {ds:List (RecV × Nat)}{q:RecV × Nat}(h:q.1.r.Length = -1):gU (ds++[q])=gU ds:=by unfold gU; rw [List.map_append,List.filter_append]; simp [h]
theorem sy {ds:List (RecV × Nat)}:(gU ds).length≤ds.length:=Nat.le_trans (List.length_filter_le _ _) (by simp)
theorem AG {ds:List (RecV × Nat)}(h:MapIs xs ps) (ok:MapOK ps c) (hd:ds.Nodup) (h1:∀ q∈ds,q∈ps) (h2:∀ q∈ps,q∈ds):((gU ds).map RecV.r).Perm (sj xs):=by
  have hp:ds.Perm ps:=(List.perm_ext_iff_of_nodup hd ok.nodup).2 fun q=>⟨h1 q,h2 q⟩
  have hn:((ds.map Prod.fst).map fun v=>v.r.Name).Nodup:=by
    rw [List.map_map]; exact (hp.map fun p=>p.1.r.Name).nodup_iff.2 ok.names
  have hk:(((gU ds).map RecV.r).map dt).Nodup:=by
    have h3:((gU ds).map fun v=>v.r.Name).Nodup:=by
      unfold gU
      exact hn.sublist (List.filter_sublist.map _)
    rw [List.map_map]
    rw [List.Nodup,List.pairwise_map] at h3 ⊢
    exact h3.imp fun hne e=>hne (vr.1 e)
  refine (List.perm_ext_iff_of_nodup (kf hk) (kf qV)).2 fun r=>?_
  rw [qK]
  unfold gU
  constructor
  · intro hr
    obtain ⟨v,hv,rfl⟩:=List.mem_map.1 hr
    rw [List.mem_filter] at hv
    obtain ⟨p,hp2,e⟩:=List.mem_map.1 hv.1
    subst e
    have hl:=h.1 p (h1 p hp2)
    exact ⟨(js hl).2.1,by simpa using hv.2,hl⟩
  · rintro ⟨a,b,d⟩
    obtain ⟨m1,_,_⟩:=js d
    obtain ⟨p,hp2,e⟩:=Cq.1 (h.2 r m1 a)
    have hl:=h.1 p hp2
    rw [e,d] at hl
    refine List.mem_map.2 ⟨p.1,?_,(Option.some.inj hl).symm⟩
    rw [List.mem_filter]
    exact ⟨List.mem_map.2 ⟨p,h2 p hp2,rfl⟩,by rw [← Option.some.inj hl]; simpa using b⟩
theorem Bk:(fJ v c ps).length≤ps.length+1:=by
  induction ps with
  | nil=>exact Nat.le_refl _
  | cons a asg ih=>rw [fJ]; split<;>simp<;>omega
end
end Go.Wk
namespace Go.Wk
open Rp (sz own)
noncomputable def itO (z:Wld) (nm:ByteArray):Bool:=match lastIt nm (bZ z) with
  | some r=>decide (r.Length ≠ -1)
  | none=>false
noncomputable def itR (z:Wld) (nm:ByteArray):Rec:=if itO z nm=true then (lastIt nm (bZ z)).getD default else default
section
variable {z:Wld}{nm:ByteArray}{r:Rec}{xs:List Rec}{k:Nat}
theorem Ch (h:lastIt nm (bZ z)=some r) (hl:r.Length ≠ -1):itO z nm=true∧itR z nm=r:=by
  have h1:itO z nm=true:=by unfold itO; rw [h]; simpa using hl
  exact ⟨h1,by unfold itR; rw [if_pos h1,h]; rfl⟩
theorem xx (h:lastIt nm (bZ z)=some r) (hl:r.Length = -1):itO z nm=false∧itR z nm=default:=by
  have h1:itO z nm=false:=by unfold itO; rw [h]; simpa using hl
  exact ⟨h1,by unfold itR; rw [if_neg (by simp [h1])]⟩
theorem uo (h:lastIt nm (bZ z)=none):itO z nm=false∧itR z nm=default:=by
  have h1:itO z nm=false:=by unfold itO; rw [h]
  exact ⟨h1,by unfold itR; rw [if_neg (by simp [h1])]⟩
theorem CU (h:r∈ey z) (e:r.Name=nm):itO z nm=true∧itR z nm=r:=by
  obtain ⟨_,b,c⟩:=qK.1 (uJ.1 h)
  rw [e] at c
  exact Ch c b
theorem EH (h:∀ r∈ey z,r.Name≠nm):itO z nm=false∧itR z nm=default:=by
  cases e:lastIt nm (bZ z) with
  | none=>exact uo e
  | some r=>
    by_cases hl:r.Length = -1
    · exact xx e hl
    · obtain ⟨_,b,c⟩:=js e
      exact absurd c (h r (uJ.2 (qK.2 ⟨b,hl,by rw [c]; exact e⟩)))
theorem qd (h:itO z nm=true):itR z nm∈bZ z∧(itR z nm).Name=nm∧(itR z nm).Kind=1∧(itR z nm).Length ≠ -1:=by
  cases e:lastIt nm (bZ z) with
  | none=>rw [(uo e).1] at h; cases h
  | some r=>
    by_cases hl:r.Length = -1
    · rw [(xx e hl).1] at h; cases h
    · obtain ⟨a,b,c⟩:=js e
      rw [(Ch e hl).2]
      exact ⟨a,c,b,hl⟩
theorem CJ:cx (itR z nm)≤ga z:=by
  cases h:itO z nm with
  | true=>exact CA (qd h).1
  | false=>unfold itR; rw [if_neg (by simp [h])]; exact Nat.zero_le _
theorem zT (h:ct (itP nm) xs=(k:Nat)):k<xs.length∧lastIt nm xs=some (xs.getD k default):=by
  have key:∀ n,n≤xs.length→∀ {k:Nat},gj (itP nm) xs n=(k:Nat)→k<n∧lastIt nm (xs.take n)=some (xs.getD k default):=fun n=>by
    induction n with
    | zero=>intro _ k h; rw [gj] at h; omega
    | succ n ih=>
      intro hn k h
      rw [List.take_add_one,List.getElem?_eq_getElem (by omega)]
      show k<n+1∧lastIt nm (xs.take n++[xs[n]])=_
      rw [kT]
      by_cases c:itP nm (xs.getD n default)=true
      · rw [mM c] at h
        have:k=n:=by omega
        subst this
        rw [cf (show k<xs.length by omega)] at c ⊢
        rw [if_pos c]
        exact ⟨by omega,rfl⟩
      · rw [oK (by simpa using c)] at h
        obtain ⟨a,b⟩:=ih (by omega) h
        rw [cf (show n<xs.length by omega)] at c
        rw [if_neg c]
        exact ⟨by omega,b⟩
  have:=key xs.length (Nat.le_refl _) h
  rwa [List.take_length] at this
theorem Ar (h:ct (itP nm) xs<0):lastIt nm xs=none:=by
  rw [kX]
  cases e:xs.any (itP nm) with
  | false=>rfl
  | true=>
    exfalso
    obtain ⟨j,hj,hp⟩:=rS (d:=default) e
    have key:∀ n,n≤xs.length→j<n→0≤gj (itP nm) xs n:=fun n=>by
      induction n with
      | zero=>intro _ h; omega
      | succ n ih=>
        intro hn h
        by_cases c:itP nm (xs.getD n default)=true
        · rw [mM c]; omega
        · rw [oK (by simpa using c)]
          by_cases e:j=n
          · subst e; exact absurd hp c
          · exact ih (by omega) (by omega)
    have:=key xs.length (Nat.le_refl _) hj
    unfold ct at h; omega
end
section
variable {z:Wld}{nm:ByteArray}{xs:List UInt8}{rs:List Rec}{k:Nat}
theorem qZ:0≤aT nm∧aT nm≤100:=by
  unfold aT; split<;>omega
end
end Go.Wk
namespace Go.Wk
open Rp (sz own)
open Go.Shelf Go.Lib Go.Sort Go.Proofs
theorem zU {α K:Type}{lt:K→K→Prop}{key:α→K}:∀ {l:List α},(∀ i j (hj:j<l.length) (hi:i<j),¬ lt (key l[j]) (key (l[i]'(Nat.lt_trans hi hj))))→Ord lt key l
  | [],_ => .nil
  | x::xs,h=>by
    refine .cons (fun y hy=>?_) (zU fun i j hj hi=>?_)
    · obtain ⟨k,hk,e⟩:=List.getElem_of_mem hy
      have:=h 0 (k+1) (by simpa using hk) (by omega)
      simpa [e] using this
    · have:=h (i+1) (j+1) (by simpa using hj) (by omega)
      simpa using this
theorem uB {w:World}:∀ {us:List RecV}{cs:List Value},(∀ k (hk:k<us.length) j,j<9→cs[k*9+j]? = us[k].cs[j]?)→(∀ u∈us,u.r.Ok)→bG true w cs us []
  | [],_,_,_=>rfl
  | u::us,cs,h,ok=>by
    refine ⟨[],[],rfl,⟨?_,rfl,ok u (List.mem_cons_self ..)⟩,uB (fun k hk j hj=>?_) fun x hx=>ok x (List.mem_cons_of_mem _ hx)⟩
    · apply List.ext_getElem?
      intro j
      show (cs.take 9)[j]? = u.cs[j]?
      rw [List.getElem?_take]
      split
      · next hj=>have:=h 0 (by simp) j hj; simpa using this
      · next hj=>rw [List.getElem?_eq_none]; show u.cs.length≤j; simp only [RecV.cs,List.length_cons,List.length_nil]; omega
    · show (cs.drop 9)[k*9+j]? = _
      rw [List.getElem?_drop]
      have:=h (k+1) (by simpa using hk) j hj
      rw [show 9+(k*9+j)=(k+1)*9+j by omega]
      simpa using this
theorem ul {v:RecV}:v.cs.length=9:=rfl
def cfN (x y:RecV):Int:=Lib.compareBytes x.r.Name.data.toList y.r.Name.data.toList
theorem uh {x y:RecV}:cfN x y<0↔nLt (nameV x) (nameV y):=by
  unfold cfN nameV dt
  rw [ByteArray.toList_eq,ByteArray.toList_eq]
  exact zy
theorem DH:SWO (ltOf cfN) where
  irrefl x:=by
    unfold ltOf
    rw [decide_eq_false]
    rw [uh]; exact u3.irr _
  trans x y z h1 h2:=by
    unfold ltOf at *
    rw [decide_eq_true_eq,uh] at *
    exact u3.tr _ _ _ h1 h2
  ntrans x y z h1 h2:=by
    unfold ltOf at *
    rw [decide_eq_false_iff_not,uh] at *
    intro h3
    rcases u3.tot (nameV x) (nameV y) with c | c | c
    · exact h1 c
    · rw [c] at h3; exact h2 h3
    · exact h2 (u3.tr _ _ _ c h3)
section
variable {w:World}{b o cap:Nat}{vs:List RecV}{fp:List Nat}
theorem Dd (h:own true w [.slice (some ⟨b,o,none⟩) vs.length cap] vs fp) (h0:0<vs.length):HoldsK RecV.cs 9 w b o vs.toArray∧b<w.heap.size:=by
  rcases h with ⟨hf,_⟩ | ⟨e,_⟩ | ⟨b',o',cap',cur,T,fr,fs,h1,h2,h3,h4,h5,h6,h7,h8⟩
  · cases hf
  · simp at e
  · have hw:own true w [.slice (some ⟨b,o,none⟩) vs.length cap] vs fp := .inr (.inr ⟨b',o',cap',cur,T,fr,fs,h1,h2,h3,h4,h5,h6,h7,h8⟩)
    simp only [List.cons.injEq,Value.slice.injEq,Option.some.injEq,Addr.mk.injEq,and_true] at h1
    obtain ⟨⟨rfl,rfl⟩,_,_⟩:=h1
    have hfr:=h4 rfl
    subst hfr
    refine ⟨fun t ht=>?_,(Array.getElem?_eq_some_iff.1 h3).1⟩
    rw [size_flatK,List.size_toArray] at ht
    rw [get_flatK _ _ _ t (by simpa using ht)]
    have hk:t / 9<vs.length:=by omega
    obtain ⟨b2,o2,cs,f,e,hat,hx,_⟩:=dq hw (t / 9) hk
    simp only [Option.some.injEq,Addr.mk.injEq,and_true] at e
    obtain ⟨rfl,rfl⟩:=e
    have hm:t % 9<9:=Nat.mod_lt _ (by omega)
    have hat2:=hat (t % 9) (vs[t / 9].cs[t % 9]'(by rw [ul]; exact hm)) (by
      rw [hx.1]; exact List.getElem?_eq_getElem _)
    have e9:o+t / 9*sz RecV+t % 9=o+t:=by
      show o+t / 9*9+t % 9=o+t
      omega
    rw [e9] at hat2
    refine ⟨?_,pi h3⟩
    rw [hat2]
    have e1:vs.toArray[t / 9]! = vs[t / 9]:=by rw [getElem!_pos vs.toArray (t / 9) (by simpa using hk)]; simp
    rw [e1,getElem!_pos vs[t / 9].cs (t % 9) (by rw [ul]; exact hm)]
    rfl
theorem CR (h:own true w [.slice (some ⟨b,o,none⟩) vs.length cap] vs fp) (hn:fp.Nodup) (h0:0<vs.length) {d:Array RecV}{n:Nat}{os:Array Obj}(hs:d.size=vs.length) (hok:∀ u∈d.toList,u.r.Ok) :
    Mut w (sortWorldK RecV.cs 9 w b o n d os) fp [.slice (some ⟨b,o,none⟩) vs.length cap] d.toList:=by
  rcases h with ⟨hf,_⟩ | ⟨e,_⟩ | ⟨b',o',cap',cur,T,fr,fs,h1,h2,h3,h4,h5,h6,h7,h8⟩
  · cases hf
  · simp at e
  · simp only [List.cons.injEq,Value.slice.injEq,Option.some.injEq,Addr.mk.injEq,and_true] at h1
    obtain ⟨⟨rfl,rfl⟩,_,hcp⟩:=h1
    subst hcp
    have hfr:=h4 rfl
    subst hfr
    have hfs:=(mt 0 h8).2
    subst hfs
    subst h2
    have hlt:=(Array.getElem?_eq_some_iff.1 h3).1
    have hsz:(sortWorldK RecV.cs 9 w b o n d os).heap.size=w.heap.size+os.size:=by
      unfold sortWorldK putRowK Go.Sort.putRow Go.Sort.mapBlock Go.Sort.grow Go.Sort.ahead
      simp
    have hget:∀ c,c<w.heap.size→(sortWorldK RecV.cs 9 w b o n d os).heap[c]? = (w.heap.modify b (Go.Sort.onCells (Go.Sort.putCells id o (flatK RecV.cs 9 d))))[c]? := fun c hc=>by
      unfold sortWorldK putRowK Go.Sort.putRow Go.Sort.mapBlock Go.Sort.grow Go.Sort.ahead
      dsimp only
      rw [Array.getElem?_append_left (by simpa using hc)]
    have hb:(sortWorldK RecV.cs 9 w b o n d os).heap[b]? = some (.cells (Go.Sort.putCells id o (flatK RecV.cs 9 d) cur) T (0,0)):=by
      rw [hget b hlt,Array.getElem?_modify,if_pos rfl,h3]; rfl
    refine ⟨⟨rfl,rfl,rfl,by rw [hsz]; omega,fun c hc hm=>?_⟩,[b],.inr (.inr ⟨b,o,cap,_,T,(0,0),[],by rw [show d.toList.length=vs.length from (Array.length_toList ..).trans hs],rfl,hb,fun _=>rfl,by rw [show d.toList.length=vs.length from (Array.length_toList ..).trans hs]; exact h5,h6,?_,?_⟩),hn,fun c hc => .inl hc⟩
    · rw [hget c hc,Array.getElem?_modify,if_neg (fun e=>hm (by rw [e]; exact List.mem_singleton.2 rfl))]
    · have:(Go.Sort.putCells id o (flatK RecV.cs 9 d) cur).size=cur.size:=by simp [Go.Sort.putCells]
      rw [this]; exact h7
    · refine uB (fun k hk j hj=>?_) hok
      rw [Array.length_toList,hs] at hk
      have h7':o+cap*9≤cur.size:=h7
      have hin:o+(k*9+j)<cur.size:=by omega
      rw [List.getElem?_drop,Array.getElem?_toList]
      unfold Go.Sort.putCells
      rw [Array.getElem?_mapIdx,Array.getElem?_eq_getElem hin,Option.map_some]
      rw [if_pos ⟨by omega,by rw [size_flatK,hs]; omega⟩,show o+(k*9+j)-o=k*9+j by omega]
      rw [get_flatK _ _ _ _ (by rw [hs]; omega),show (k*9+j) / 9=k by omega,show (k*9+j) % 9=j by omega]
      have e1:d[k]! = d.toList[k]'(by rw [Array.length_toList,hs]; exact hk):=by rw [getElem!_pos d k (by rw [hs]; exact hk)]; simp
      rw [e1,getElem!_pos _ j (by rw [ul]; exact hj),List.getElem?_eq_getElem (by rw [ul]; exact hj)]
      rfl
end
theorem wi {P:Program}{ρ:Go.Shelf.Ren}{w:World}{A:Option Addr}{n C:Nat}{vs:List RecV}{fp:List Nat}{g:FuncId}(L:SlLaysF0.n6 P ρ) (aE:∀ w,(isAgg (ρ.t 24)).run P w = .ok true w) (zE:∀ w,(Go.sizeOf (ρ.t 24)).run P w = .ok 9 w) (eg:∀ args w,(callFunc g args).run P w = .ok (.enter g args) w)
    (hc:∀ (W:World) (x y:RecV),Calls P g #[.agg x.cs.toArray,.agg y.cs.toArray] W fun e w'=>e = .returned (.int .i64 (cfN x y))∧∃ q os',w'=Go.Sort.grow (W.drewN q) os')
    (o:own true w [.slice A n C] vs fp) (nd:fp.Nodup) (hl:vs.length≤1000000):Ret P (ρ.f 6) #[.slice A n C,.func (.func g) #[] #[]] w fun v w'=>∃ us,Mut w w' fp [.slice A n C] us∧us.Perm vs∧Ord nLt nameV us:=by
  obtain rfl:=eS o
  by_cases h0:vs.length=0
  · have e:=List.eq_nil_of_length_eq_zero h0
    subst e
    exact Calls.mono (Go.Proofs.AnyF.slices_SortFunc_none L A C _ w) fun e w' ⟨h1,h2⟩=>⟨_,h1,[],by subst h2; exact ⟨Ext.refl,fp,o,nd,fun b hb => .inl hb⟩,.refl _,.nil⟩
  · obtain ⟨b,off,hA⟩:=dJ o 0 (by omega)
    obtain rfl:A=some ⟨b,off,none⟩:=hA
    obtain ⟨hH,hblk⟩:=Dd o (by omega)
    have hokL:∀ u∈vs,u.r.Ok:=fun u hu=>by
      obtain ⟨k,hk,e⟩:=List.getElem_of_mem hu
      obtain ⟨_,_,_,_,_,_,hx,_⟩:=dq o k hk
      rw [← e]; exact hx.2.2
    have hs:=Go.Proofs.AnyQ.slices_SortFunc L 9 aE zE RecV.cs (fun _=>rfl) (fun _ v hv=>RecV.one v hv) cfN DH g #[] b off C vs.toArray w eg (fun m os dk _ x y=>hc _ x y) hH hblk (by simp; omega)
    simp only [List.size_toArray] at hs
    refine Calls.mono hs fun e w' ⟨h1,d',n',os',hP,hS,hw⟩=>⟨_,h1,d'.toList,?_,?_,?_⟩
    · have hsz:d'.size=vs.length:=by have:=hP.1; simpa using this
      rw [hw]
      refine CR o nd (by omega) hsz fun u hu=>hokL u ?_
      have hp:=hP.2.2
      rw [show d'.extract 0 vs.length=d' by rw [← hsz]; simp,show vs.toArray.extract 0 vs.length=vs.toArray by simp] at hp
      simpa using hp.mem_iff.1 hu
    · have hsz:d'.size=vs.length:=by have:=hP.1; simpa using this
      have hp:=hP.2.2
      rw [show d'.extract 0 vs.length=d' by rw [← hsz]; simp,show vs.toArray.extract 0 vs.length=vs.toArray by simp] at hp
      simpa using hp
    · have hsz:d'.size=vs.length:=by have:=hP.1; simpa using this
      refine zU fun i j hj hi=>?_
      rw [Array.length_toList,hsz] at hj
      have:=hS i j (Nat.zero_le _) hi hj
      unfold ltOf at this
      rw [decide_eq_false_iff_not,uh,getElem!_pos d' j (by omega),getElem!_pos d' i (by omega)] at this
      simpa using this
end Go.Wk
namespace Go.Wk
open Go.Proofs
theorem ts0:type_of% @Tryz.sizeOf0 := @Tryz.sizeOf0
theorem D0:type_of% @Tryz.sizeOf172 := @Tryz.sizeOf172
theorem DW:type_of% @Tryz.sizeOf174 := @Tryz.sizeOf174
theorem zQ:type_of% @Tryz.sizeOf176 := @Tryz.sizeOf176
theorem cT:type_of% @Tryz.sizeOf181 := @Tryz.sizeOf181
theorem ts2:type_of% @Tryz.sizeOf2 := @Tryz.sizeOf2
theorem vi:type_of% @Tryz.sizeOf226 := @Tryz.sizeOf226
theorem Fc:type_of% @Tryz.sizeOf23 := @Tryz.sizeOf23
theorem E8:type_of% @Tryz.sizeOf24 := @Tryz.sizeOf24
theorem EZ:type_of% @Tryz.sizeOf243 := @Tryz.sizeOf243
theorem cB:type_of% @Tryz.sizeOf25 := @Tryz.sizeOf25
theorem EK:type_of% @Tryz.sizeOf26 := @Tryz.sizeOf26
theorem D2:type_of% @Tryz.sizeOf268 := @Tryz.sizeOf268
theorem zH:type_of% @Tryz.sizeOf270 := @Tryz.sizeOf270
theorem Fa:type_of% @Tryz.sizeOf278 := @Tryz.sizeOf278
theorem BD:type_of% @Tryz.sizeOf28 := @Tryz.sizeOf28
theorem ts3:type_of% @Tryz.sizeOf3 := @Tryz.sizeOf3
theorem bV:type_of% @Tryz.sizeOf30 := @Tryz.sizeOf30
theorem lf:type_of% @Tryz.sizeOf31 := @Tryz.sizeOf31
theorem zN:type_of% @Tryz.sizeOf318 := @Tryz.sizeOf318
theorem gz:type_of% @Tryz.sizeOf32 := @Tryz.sizeOf32
theorem E3:type_of% @Tryz.sizeOf322 := @Tryz.sizeOf322
theorem E0:type_of% @Tryz.sizeOf323 := @Tryz.sizeOf323
theorem EX:type_of% @Tryz.sizeOf327 := @Tryz.sizeOf327
theorem Fh:type_of% @Tryz.sizeOf330 := @Tryz.sizeOf330
theorem EM:type_of% @Tryz.sizeOf332 := @Tryz.sizeOf332
theorem lR:type_of% @Tryz.sizeOf34 := @Tryz.sizeOf34
theorem zR:type_of% @Tryz.sizeOf350 := @Tryz.sizeOf350
theorem E6:type_of% @Tryz.sizeOf352 := @Tryz.sizeOf352
theorem E1:type_of% @Tryz.sizeOf356 := @Tryz.sizeOf356
theorem EV:type_of% @Tryz.sizeOf364 := @Tryz.sizeOf364
theorem EP:type_of% @Tryz.sizeOf365 := @Tryz.sizeOf365
theorem ts4:type_of% @Tryz.sizeOf4 := @Tryz.sizeOf4
theorem aW:type_of% @Tryz.sizeOf46 := @Tryz.sizeOf46
theorem fZ:type_of% @Tryz.sizeOf48 := @Tryz.sizeOf48
theorem ts5:type_of% @Tryz.sizeOf5 := @Tryz.sizeOf5
theorem aL:type_of% @Tryz.sizeOf55 := @Tryz.sizeOf55
theorem nj:type_of% @Tryz.sizeOf59 := @Tryz.sizeOf59
theorem rX:type_of% @Tryz.sizeOf60 := @Tryz.sizeOf60
theorem iy:type_of% @Tryz.sizeOf62 := @Tryz.sizeOf62
theorem kO:type_of% @Tryz.sizeOf64 := @Tryz.sizeOf64
theorem iS:type_of% @Tryz.sizeOf78 := @Tryz.sizeOf78
theorem ts9:type_of% @Tryz.sizeOf9 := @Tryz.sizeOf9
theorem tu0:type_of% @Tryz.underlying0 := @Tryz.underlying0
theorem pr:type_of% @Tryz.underlying172 := @Tryz.underlying172
theorem px:type_of% @Tryz.underlying174 := @Tryz.underlying174
theorem vq:type_of% @Tryz.underlying176 := @Tryz.underlying176
theorem cP:type_of% @Tryz.underlying181 := @Tryz.underlying181
theorem tu2:type_of% @Tryz.underlying2 := @Tryz.underlying2
theorem kL:type_of% @Tryz.underlying226 := @Tryz.underlying226
theorem sa:type_of% @Tryz.underlying23 := @Tryz.underlying23
theorem vw:type_of% @Tryz.underlying24 := @Tryz.underlying24
theorem EN:type_of% @Tryz.underlying243 := @Tryz.underlying243
theorem bd:type_of% @Tryz.underlying25 := @Tryz.underlying25
theorem DU:type_of% @Tryz.underlying254 := @Tryz.underlying254
theorem vy:type_of% @Tryz.underlying26 := @Tryz.underlying26
theorem py:type_of% @Tryz.underlying268 := @Tryz.underlying268
theorem vx:type_of% @Tryz.underlying270 := @Tryz.underlying270
theorem ma:type_of% @Tryz.underlying278 := @Tryz.underlying278
theorem mh:type_of% @Tryz.underlying28 := @Tryz.underlying28
theorem Cy:type_of% @Tryz.underlying298 := @Tryz.underlying298
theorem tu3:type_of% @Tryz.underlying3 := @Tryz.underlying3
theorem be:type_of% @Tryz.underlying30 := @Tryz.underlying30
theorem eo:type_of% @Tryz.underlying31 := @Tryz.underlying31
theorem il:type_of% @Tryz.underlying318 := @Tryz.underlying318
theorem cD:type_of% @Tryz.underlying32 := @Tryz.underlying32
theorem EW:type_of% @Tryz.underlying322 := @Tryz.underlying322
theorem EL:type_of% @Tryz.underlying323 := @Tryz.underlying323
theorem EU:type_of% @Tryz.underlying327 := @Tryz.underlying327
theorem ES:type_of% @Tryz.underlying330 := @Tryz.underlying330
theorem Ff:type_of% @Tryz.underlying332 := @Tryz.underlying332
theorem bn:type_of% @Tryz.underlying34 := @Tryz.underlying34
theorem uA:type_of% @Tryz.underlying350 := @Tryz.underlying350
theorem ER:type_of% @Tryz.underlying352 := @Tryz.underlying352
theorem EO:type_of% @Tryz.underlying356 := @Tryz.underlying356
theorem EI:type_of% @Tryz.underlying364 := @Tryz.underlying364
theorem EQ:type_of% @Tryz.underlying365 := @Tryz.underlying365
theorem tu4:type_of% @Tryz.underlying4 := @Tryz.underlying4
theorem aH:type_of% @Tryz.underlying46 := @Tryz.underlying46
theorem iR:type_of% @Tryz.underlying48 := @Tryz.underlying48
theorem tu5:type_of% @Tryz.underlying5 := @Tryz.underlying5
theorem az:type_of% @Tryz.underlying55 := @Tryz.underlying55
theorem eI:type_of% @Tryz.underlying59 := @Tryz.underlying59
theorem gt:type_of% @Tryz.underlying60 := @Tryz.underlying60
theorem iC:type_of% @Tryz.underlying62 := @Tryz.underlying62
theorem jC:type_of% @Tryz.underlying64 := @Tryz.underlying64
theorem aS:type_of% @Tryz.underlying78 := @Tryz.underlying78
theorem bD:type_of% @Tryz.underlying89 := @Tryz.underlying89
theorem tu9:type_of% @Tryz.underlying9 := @Tryz.underlying9
end Go.Wk
namespace Go.Wk
open Go.Proofs Rp Go.Proofs.Tryz
set_option maxRecDepth 10000
section
open Go.Shelf Go.RowKit Go.Lib Go.Sort Go.Proofs
def sf:Go.Shelf.Ren:=⟨fun x=>match x with | 6=>281 | 15=>315 | 14=>363 | 28=>392 | 29=>393 | 20=>408 | 21=>416 | 22=>417 | 23=>418 | 24=>419 | 25=>420 | 26=>421 | 27=>422 | 46=>445 | 47=>434 | 48=>435 | 49=>446 | 50=>447 | 57=>452 | n=>n,fun x=>match x with | 22=>78 | 24=>55 | 25=>243 | 3=>3 | 39=>278 | 0=>0 | 53=>330 | 55=>332 | 4=>4 | 46=>323 | 45=>322 | 50=>327 | 5=>5 | 9=>9 | 66=>352 | 70=>356 | 76=>364 | 77=>365 | n=>n,fun x=>x⟩
theorem se:SlLaysF0.n6 Tryz.prog sf where
 mixed:=by kernel_rfl
 f6:=⟨"slices.SortFunc[[]loop.example/g00089/impl.Rec,loop.example/g00089/impl.Rec]",by decide,func281.trans (congrArg some (by kernel_rfl))⟩
 f14:=⟨"slices.pdqsortCmpFunc[loop.example/g00089/impl.Rec]",by decide,func363.trans (congrArg some (by kernel_rfl))⟩
 f15:=func315.trans (congrArg some (by kernel_rfl))
 f20:=⟨"slices.insertionSortCmpFunc[loop.example/g00089/impl.Rec]",by decide,func408.trans (congrArg some (by kernel_rfl))⟩
 f21:=⟨"slices.heapSortCmpFunc[loop.example/g00089/impl.Rec]",by decide,func416.trans (congrArg some (by kernel_rfl))⟩
 f22:=⟨"slices.breakPatternsCmpFunc[loop.example/g00089/impl.Rec]",by decide,func417.trans (congrArg some (by kernel_rfl))⟩
 f23:=⟨"slices.choosePivotCmpFunc[loop.example/g00089/impl.Rec]",by decide,func418.trans (congrArg some (by kernel_rfl))⟩
 f24:=⟨"slices.reverseRangeCmpFunc[loop.example/g00089/impl.Rec]",by decide,func419.trans (congrArg some (by kernel_rfl))⟩
 f25:=⟨"slices.partialInsertionSortCmpFunc[loop.example/g00089/impl.Rec]",by decide,func420.trans (congrArg some (by kernel_rfl))⟩
 f26:=⟨"slices.partitionEqualCmpFunc[loop.example/g00089/impl.Rec]",by decide,func421.trans (congrArg some (by kernel_rfl))⟩
 f27:=⟨"slices.partitionCmpFunc[loop.example/g00089/impl.Rec]",by decide,func422.trans (congrArg some (by kernel_rfl))⟩
 f28:=func392.trans (congrArg some (by kernel_rfl))
 f29:=func393.trans (congrArg some (by kernel_rfl))
 f46:=⟨"slices.siftDownCmpFunc[loop.example/g00089/impl.Rec]",by decide,func445.trans (congrArg some (by kernel_rfl))⟩
 f47:=func434.trans (congrArg some (by kernel_rfl))
 f48:=func435.trans (congrArg some (by kernel_rfl))
 f49:=⟨"slices.medianAdjacentCmpFunc[loop.example/g00089/impl.Rec]",by decide,func446.trans (congrArg some (by kernel_rfl))⟩
 f50:=⟨"slices.medianCmpFunc[loop.example/g00089/impl.Rec]",by decide,func447.trans (congrArg some (by kernel_rfl))⟩
 f57:=⟨"slices.order2CmpFunc[loop.example/g00089/impl.Rec]",by decide,func452.trans (congrArg some (by kernel_rfl))⟩
 t0:=tu0
 a0:=isAgg0
 z0:=ts0
 v0:=zeroValue0
 t3:=tu3
 a3:=isAgg3
 z3:=ts3
 v3:=zeroValue3
 t4:=tu4
 a4:=isAgg4
 z4:=ts4
 v4:=zeroValue4
 t5:=tu5
 a5:=isAgg5
 z5:=ts5
 v5:=zeroValue5
 t9:=tu9
 a9:=isAgg9
 z9:=ts9
 v9:=zeroValue9
 t22:=aS
 a22:=isAgg78
 z22:=iS
 v22:=zeroValue78
 t25:=EN
 a25:=isAgg243
 z25:=EZ
 v25:=zeroValue243
 t39:=ma
 a39:=isAgg278
 z39:=Fa
 v39:=zeroValue278
 t45:=EW
 a45:=isAgg322
 z45:=E3
 v45:=zeroValue322
 t46:=EL
 a46:=isAgg323
 z46:=E0
 v46:=zeroValue323
 t50:=EU
 a50:=isAgg327
 z50:=EX
 v50:=zeroValue327
 t53:=ES
 a53:=isAgg330
 z53:=Fh
 v53:=zeroValue330
 t55:=Ff
 a55:=isAgg332
 z55:=EM
 v55:=zeroValue332
 t66:=ER
 a66:=isAgg352
 z66:=E6
 v66:=zeroValue352
 t70:=EO
 a70:=isAgg356
 z70:=E1
 v70:=zeroValue356
 t76:=EI
 a76:=isAgg364
 z76:=EV
 v76:=zeroValue364
 t77:=EQ
 a77:=isAgg365
 z77:=EP
 v77:=zeroValue365
def uu:Go.Shelf.Ren:=⟨fun x=>match x with | 106=>283 | 213=>364 | 265=>423 | n=>n,fun x=>match x with | 9=>9 | 3=>3 | n=>n,fun x=>x⟩
theorem uq:Lays.n106 Tryz.prog uu where
 mixed:=by kernel_rfl
 f106:=func283.trans (congrArg some (by kernel_rfl))
 f213:=func364.trans (congrArg some (by kernel_rfl))
 f265:=func423.trans (congrArg some (by kernel_rfl))
 t3:=tu3
 a3:=isAgg3
 z3:=ts3
 v3:=zeroValue3
 t9:=tu9
 a9:=isAgg9
 z9:=ts9
 v9:=zeroValue9
set_option maxHeartbeats 1000000 in
theorem tN (x y:RecV) (W:World):Calls Tryz.prog 282 #[.agg x.cs.toArray,.agg y.cs.toArray] W fun e w'=>e = .returned (.int .i64 (cfN x y))∧∃ q os',w'=Go.Sort.grow (W.drewN q) os':=by
 have hcon:=fun W'=>Any.strings_Compare uq x.r.Name y.r.Name W'
 change ∀ W',Calls Tryz.prog 283 _ _ _ at hcon
 change Calls Tryz.prog 282 _ _ fun e w'=>e = .returned (.int .i64 (Lib.compareBytes x.r.Name.data.toList y.r.Name.data.toList))∧_
 generalize Lib.compareBytes x.r.Name.data.toList y.r.Name.data.toList=r at hcon ⊢
 unfold RecV.cs
 go_enter func282,ntmps282
 go_wp2_with (go_at_call 283; refine (hcon _).mono ?_; rintro e w' ⟨rfl,rfl⟩)
 go_ret
 exact ⟨Z,0,_,by rw [alloc_eq_grow,alloc_eq_grow,grow_grow]; rfl⟩
theorem yH {w:World}{a:Option Addr}{n c:Nat}{vs:List RecV}{fp:List Nat}(o:own true w [.slice a n c] vs fp) (nd:fp.Nodup) (hl:vs.length≤1000000):Ret Tryz.prog 281 #[.slice a n c,.func (.func 282) #[] #[]] w fun v w'=>∃ us,Mut w w' fp [.slice a n c] us∧us.Perm vs∧Ord nLt nameV us:=
 wi (g:=282) se Tryz.isAgg55 aL (enters_of Tryz.func282 (by kernel_rfl) rfl) (fun W x y=>tN x y W) o nd hl
end
end Go.Wk
namespace Go.Wk
open Go.Proofs Rp Go.Proofs.Tryz
set_option maxRecDepth 10000
theorem iE {w:World}{xs:List Int}{xsA:Option Addr}{xsC:Nat}{l:Int}(xsS:Sees w [.slice xsA xs.length xsC] xs) (hl : -1≤l∧l≤1048576):Ret Tryz.prog 75 #[.slice xsA xs.length xsC,.int .i64 l] w fun v w'=>Ext No w w'∧(v = .int .i64 (if l-xs.length<0 then -1 else l-xs.length)):=by
 have xsL:=sL xsS;obtain ⟨xsF,xsO⟩:=xsS;refine aA (vs:=[.slice xsA xs.length xsC,.int .i64 l]) func75 Z ntmps75 Z (fun Q hQ hN=>?_);have H0:=Sep.start (w:=w) (F:=[seen false [.slice xsA xs.length xsC] xs xsF]) (ae xsO (by simp));refine ab (sA Z Z (aa (ab (sR 2 Z (sV Z (ax bd Z) (sV Z (bm Z Z iO) (sA Z Z (aa (ac (ab (sR 2 Z (aa (au Z (fun c1=>?_) (fun c1=>?_))))))))))))))
 ·refine ab (rA hQ results75 Z ?_);exact ⟨H0.ext,by rw [if_pos c1]⟩
 ·refine ag (ab (sR 2 Z (rN hQ results75 Z ?_)));exact ⟨H0.ext,by rw [if_neg c1]⟩
theorem ik {w:World}{xs ys:List Int}{xsA ysA:Option Addr}{xsC ysC:Nat}(xsS:Sees w [.slice xsA xs.length xsC] xs) (ysS:Sees w [.slice ysA ys.length ysC] ys):Ret Tryz.prog 92 #[.slice xsA xs.length xsC,.slice ysA ys.length ysC] w fun v w'=>Ext No w w'∧(v = .bool (decide (xs=ys))):=by
 have xsL:=sL xsS;obtain ⟨xsF,xsO⟩:=xsS;have ysL:=sL ysS;obtain ⟨ysF,ysO⟩:=ysS;refine aA (vs:=[.slice xsA xs.length xsC,.slice ysA ys.length ysC]) func92 Z ntmps92 Z (fun Q hQ hN=>?_);have H0:=Sep.start (w:=w) (F:=[seen false [.slice xsA xs.length xsC] xs xsF,seen false [.slice ysA ys.length ysC] ys ysF]) (ae xsO (ae ysO (by simp)));refine ab (sA Z Z (aa (ac (ab (sM Z Z (sV Z (ax bd Z) (sM Z Z (sV Z (ax bd Z) (sV Z (bg Z Z) (aa (au Z (fun c1=>?_) (fun c1=>?_))))))))))))
 ·refine ab (sA Z Z (aa (rT hQ results92 Z (⟨H0.ext,?_⟩))));rw [decide_eq_false (fun e=>by subst e; exact c1 rfl)]
 ·refine ag (ac (ab (sA Z Z (aa (ai (aM (γ:=Nat) (fun k=>[(0,.slice xsA xs.length xsC),(1,.slice ysA ys.length ysC),(5,.int .i64 k)]) (fun k w'=>Sep No w [] [seen false [.slice xsA xs.length xsC] xs xsF,seen false [.slice ysA ys.length ysC] ys ysF] w'∧k≤xs.length∧(∀ i,i<k→xs.getD i 0=ys.getD i 0)) (fun k=>xs.length-k) 0 ⟨Z,Z,Z,trivial⟩ ⟨H0,by omega,fun i hi=>by omega⟩ (fun k w1 H1=>?_)))))));obtain ⟨H1,hk,he⟩:=H1;refine ac (ab (sR 2 Z (sV Z (ax bd Z) (sV Z (aI Z Z) (aa (au Z (fun c2=>?_) (fun c2=>?_)))))))
  ·refine ag (ac (ai (ac ?_)));obtain ⟨eb1,eo1,ee1,ec1⟩:=bT (H1.seen 0 Z) k (by omega);have eI1:=ca (H1.seen 0 Z) k (by omega);obtain ⟨eb2,eo2,ee2,ec2⟩:=bT (H1.seen 1 Z) k (by omega);have eI2:=ca (H1.seen 1 Z) k (by omega);refine bv (S:=Ext No _) (oQ [1,3,5,7,9,11,13,15,16]) (by kernel_rfl) (by kernel_rfl) (by kernel_rfl) Z (fun _=>Ext.refl.drawn _) (fun q1=>?_);have H2:=H1.drawn q1;refine dR 2 Z (dV Z Z (fun zw hx=>ao bd ts2 Z Z ee1 k (by omega) (by omega)) (dV Z Z (fun zw hx=>ah tu2 Z Z (hx.cell ec1)) (dR 2 Z (dV Z Z (fun zw hx=>ao bd ts2 Z Z ee2 k (by omega) (by omega)) (dV Z Z (fun zw hx=>ah tu2 Z Z (hx.cell ec2)) (aQ Z (wn Z) Z Z (bg Z Z) (aP (au Z (fun c3=>?_) (fun c3=>?_)))))))))
   ·refine ab (sA Z Z (aa (rT hQ results92 Z (⟨H2.ext,?_⟩))));rw [decide_eq_false (fun e=>by subst e; exact c3 rfl)]
   ·refine ag (aj (sM Z Z (sV Z (aw Z Z iO) (sA Z Z (aa (⟨k+1,⟨Z,Z,Z,trivial⟩,⟨H2,by omega,fun i hi=>?_⟩,by dsimp only; omega⟩))))));have c4:xs.getD k 0=ys.getD k 0:=by omega
    by_cases e:i=k
    ·subst e; exact c4
    ·exact he i (by omega)
  ·refine aD (ab (sA Z Z (aa (rT hQ results92 Z (⟨H1.ext,?_⟩)))));rw [decide_eq_true (cJ (d:=0) (by omega) fun i hi=>he i (by omega))]
theorem fN {w:World}{xs:List UInt8}{xsA:Option Addr}{xsC:Nat}{l:Int}(xsS:Sees w [.slice xsA xs.length xsC] xs) (hl : -1≤l∧l≤1048576):Ret Tryz.prog 430 #[.slice xsA xs.length xsC,.int .i64 l] w fun v w'=>Ext No w w'∧(v = .int .i64 (if l-xs.length<0 then -1 else l-xs.length)):=by
 have xsL:=sL xsS;obtain ⟨xsF,xsO⟩:=xsS;refine aA (vs:=[.slice xsA xs.length xsC,.int .i64 l]) func430 Z ntmps430 Z (fun Q hQ hN=>?_);have H0:=Sep.start (w:=w) (F:=[seen false [.slice xsA xs.length xsC] xs xsF]) (ae xsO (by simp));refine ab (sA Z Z (aa (ab (sR 2 Z (sV Z (ax aH Z) (sV Z (bm Z Z iO) (sA Z Z (aa (ac (ab (sR 2 Z (aa (au Z (fun c1=>?_) (fun c1=>?_))))))))))))))
 ·refine ab (rA hQ results430 Z ?_);exact ⟨H0.ext,by rw [if_pos c1]⟩
 ·refine ag (ab (sR 2 Z (rN hQ results430 Z ?_)));exact ⟨H0.ext,by rw [if_neg c1]⟩
theorem ex {w:World}{xs ys:List UInt8}{xsA ysA:Option Addr}{xsC ysC:Nat}(xsS:Sees w [.slice xsA xs.length xsC] xs) (ysS:Sees w [.slice ysA ys.length ysC] ys):Ret Tryz.prog 113 #[.slice xsA xs.length xsC,.slice ysA ys.length ysC] w fun v w'=>Ext No w w'∧(v = .bool (decide (xs=ys))):=by
 have xsL:=sL xsS;obtain ⟨xsF,xsO⟩:=xsS;have ysL:=sL ysS;obtain ⟨ysF,ysO⟩:=ysS;refine aA (vs:=[.slice xsA xs.length xsC,.slice ysA ys.length ysC]) func113 Z ntmps113 Z (fun Q hQ hN=>?_);have H0:=Sep.start (w:=w) (F:=[seen false [.slice xsA xs.length xsC] xs xsF,seen false [.slice ysA ys.length ysC] ys ysF]) (ae xsO (ae ysO (by simp)));refine ab (sA Z Z (aa (ac (ab (sM Z Z (sV Z (ax aH Z) (sM Z Z (sV Z (ax aH Z) (sV Z (bg Z Z) (aa (au Z (fun c1=>?_) (fun c1=>?_))))))))))))
 ·refine ab (sA Z Z (aa (rT hQ results113 Z (⟨H0.ext,?_⟩))));rw [decide_eq_false (fun e=>by subst e; exact c1 rfl)]
 ·refine ag (ac (ab (sA Z Z (aa (ai (aM (γ:=Nat) (fun k=>[(0,.slice xsA xs.length xsC),(1,.slice ysA ys.length ysC),(5,.int .i64 k)]) (fun k w'=>Sep No w [] [seen false [.slice xsA xs.length xsC] xs xsF,seen false [.slice ysA ys.length ysC] ys ysF] w'∧k≤xs.length∧(∀ i,i<k→xs.getD i 0=ys.getD i 0)) (fun k=>xs.length-k) 0 ⟨Z,Z,Z,trivial⟩ ⟨H0,by omega,fun i hi=>by omega⟩ (fun k w1 H1=>?_)))))));obtain ⟨H1,hk,he⟩:=H1;refine ac (ab (sR 2 Z (sV Z (ax aH Z) (sV Z (aI Z Z) (aa (au Z (fun c2=>?_) (fun c2=>?_)))))))
  ·refine ag (ac (ai (ac ?_)));obtain ⟨eb1,eo1,ee1,ec1⟩:=bI (H1.seen 0 Z) k (by omega);obtain ⟨eb2,eo2,ee2,ec2⟩:=bI (H1.seen 1 Z) k (by omega);refine bv (S:=Ext No _) (oQ [1,3,5,7,9,11,13,15,16]) (by kernel_rfl) (by kernel_rfl) (by kernel_rfl) Z (fun _=>Ext.refl.drawn _) (fun q1=>?_);have H2:=H1.drawn q1;refine dR 2 Z (dV Z Z (fun zw hx=>ao aH ts5 Z Z ee1 k (by omega) (by omega)) (dV Z Z (fun zw hx=>ah tu5 Z Z (hx.cell ec1)) (dR 2 Z (dV Z Z (fun zw hx=>ao aH ts5 Z Z ee2 k (by omega) (by omega)) (dV Z Z (fun zw hx=>ah tu5 Z Z (hx.cell ec2)) (aQ Z (wn Z) Z Z (bg Z Z) (aP (au Z (fun c3=>?_) (fun c3=>?_)))))))))
   ·refine ab (sA Z Z (aa (rT hQ results113 Z (⟨H2.ext,?_⟩))));rw [decide_eq_false (fun e=>by subst e; exact c3 rfl)]
   ·refine ag (aj (sM Z Z (sV Z (aw Z Z iO) (sA Z Z (aa (⟨k+1,⟨Z,Z,Z,trivial⟩,⟨H2,by omega,fun i hi=>?_⟩,by dsimp only; omega⟩))))));have c4:xs.getD k 0=ys.getD k 0:=by apply gX.1; omega
    by_cases e:i=k
    ·subst e; exact c4
    ·exact he i (by omega)
  ·refine aD (ab (sA Z Z (aa (rT hQ results113 Z (⟨H1.ext,?_⟩)))));rw [decide_eq_true (cJ (d:=0) (by omega) fun i hi=>he i (by omega))]
theorem iL {w:World}{xs:List Int}{xsA:Option Addr}{xsC:Nat}(xsS:Sees w [.slice xsA xs.length xsC] xs) (hl:xs.length≤1048576):Ret Tryz.prog 83 #[.slice xsA xs.length xsC] w fun v w'=>Ext No w w'∧(Res w w' [v] xs):=by
 have xsL:=sL xsS;obtain ⟨xsF,xsO⟩:=xsS;refine aA (vs:=[.slice xsA xs.length xsC]) func83 Z ntmps83 Z (fun Q hQ hN=>?_);have H0:=Sep.start (w:=w) (F:=[seen false [.slice xsA xs.length xsC] xs xsF]) (ae xsO (by simp));refine ab (sA Z Z (aa (ab (sM Z Z (sV Z (ax bd Z) (fq (wn Z) Z bd fa El Z (by omega) (by unfold maxLen; omega) H0 (fun b1 w1 e1 g1 H1=>sA Z Z (aa (ac (ab (sA Z Z (aa (ai (aM (γ:=Nat × List Nat) (fun (k,fp)=>[(0,.slice xsA xs.length xsC),(3,.slice (some ⟨b1,0,none⟩) xs.length xs.length),(4,.int .i64 k)]) (fun (k,fp) w'=>Sep No w [mine [.slice (some ⟨b1,0,none⟩) xs.length xs.length] (cp xs k 0) fp] [seen false [.slice xsA xs.length xsC] xs xsF] w'∧k≤xs.length) (fun (k,fp)=>xs.length-k) (0,[b1]) ⟨Z,Z,Z,trivial⟩ ⟨jH ▸ H1,by omega⟩ (fun (k,fp) w2 H2=>?_)))))))))))))));obtain ⟨H2,hk⟩:=H2;refine ac (ab (sR 2 Z (sV Z (ax bd Z) (sV Z (aI Z Z) (aa (au Z (fun c1=>?_) (fun c1=>?_)))))))
 ·refine ag (ac (ai ?_));obtain ⟨eb1,eo1,ee1,ec1⟩:=bT (H2.seen 0 Z) k (by omega);have eI1:=ca (H2.seen 0 Z) k (by omega);obtain ⟨eb2,eo2,ee2,ec2⟩:=bT (H2.mine 0 Z) k (by rw [fR (xs:=xs) (k:=k) (by omega)]; omega);refine aj (sR 4 Z (sV Z (ao bd ts2 Z Z ee1 k (by omega) (by omega)) (sV Z (ah tu2 Z Z ec1) (sV Z (ao bd ts2 Z Z ee2 k (by omega) (by omega)) (lv (wn Z) ts2 Z H2 0 Z k (by rw [fR (xs:=xs) (k:=k) (by omega)]; omega) Z ee2 Z (rj (by first | assumption | (unfold I64ok; omega))) (fun w3 fp1 e2 H3=>aa (aj (sM Z Z (sV Z (aw Z Z iO) (sA Z Z (aa (⟨(k+1,_),⟨Z,Z,Z,trivial⟩,⟨mq (xs:=xs) (k:=k) (d:=0) (by omega) ▸ H3,by omega⟩,by dsimp only; omega⟩))))))))))))
 ·refine aD (ab (sR 2 Z (rN hQ results83 Z ?_)));obtain rfl:k=xs.length:=by omega
  exact ⟨H2.ext,by
   have h:=H2.out 0 Z
   rwa [nb] at h⟩
theorem fK {w:World}{xs:List UInt8}{xsA:Option Addr}{xsC:Nat}(xsS:Sees w [.slice xsA xs.length xsC] xs) (hl:xs.length≤1048576):Ret Tryz.prog 432 #[.slice xsA xs.length xsC] w fun v w'=>Ext No w w'∧(Res w w' [v] xs):=by
 have xsL:=sL xsS;obtain ⟨xsF,xsO⟩:=xsS;refine aA (vs:=[.slice xsA xs.length xsC]) func432 Z ntmps432 Z (fun Q hQ hN=>?_);have H0:=Sep.start (w:=w) (F:=[seen false [.slice xsA xs.length xsC] xs xsF]) (ae xsO (by simp));refine ab (sA Z Z (aa (ab (sM Z Z (sV Z (ax aH Z) (fq (wn Z) Z aH aR pk Z (by omega) (by unfold maxLen; omega) H0 (fun b1 w1 e1 g1 H1=>sA Z Z (aa (ac (ab (sA Z Z (aa (ai (aM (γ:=Nat × List Nat) (fun (k,fp)=>[(0,.slice xsA xs.length xsC),(3,.slice (some ⟨b1,0,none⟩) xs.length xs.length),(4,.int .i64 k)]) (fun (k,fp) w'=>Sep No w [mine [.slice (some ⟨b1,0,none⟩) xs.length xs.length] (cp xs k 0) fp] [seen false [.slice xsA xs.length xsC] xs xsF] w'∧k≤xs.length) (fun (k,fp)=>xs.length-k) (0,[b1]) ⟨Z,Z,Z,trivial⟩ ⟨jH ▸ H1,by omega⟩ (fun (k,fp) w2 H2=>?_)))))))))))))));obtain ⟨H2,hk⟩:=H2;refine ac (ab (sR 2 Z (sV Z (ax aH Z) (sV Z (aI Z Z) (aa (au Z (fun c1=>?_) (fun c1=>?_)))))))
 ·refine ag (ac (ai ?_));obtain ⟨eb1,eo1,ee1,ec1⟩:=bI (H2.seen 0 Z) k (by omega);obtain ⟨eb2,eo2,ee2,ec2⟩:=bI (H2.mine 0 Z) k (by rw [fR (xs:=xs) (k:=k) (by omega)]; omega);refine aj (sR 4 Z (sV Z (ao aH ts5 Z Z ee1 k (by omega) (by omega)) (sV Z (ah tu5 Z Z ec1) (sV Z (ao aH ts5 Z Z ee2 k (by omega) (by omega)) (lv (wn Z) ts5 Z H2 0 Z k (by rw [fR (xs:=xs) (k:=k) (by omega)]; omega) Z ee2 Z dS (fun w3 fp1 e2 H3=>aa (aj (sM Z Z (sV Z (aw Z Z iO) (sA Z Z (aa (⟨(k+1,_),⟨Z,Z,Z,trivial⟩,⟨mq (xs:=xs) (k:=k) (d:=0) (by omega) ▸ H3,by omega⟩,by dsimp only; omega⟩))))))))))))
 ·refine aD (ab (sR 2 Z (rN hQ results432 Z ?_)));obtain rfl:k=xs.length:=by omega
  exact ⟨H2.ext,by
   have h:=H2.out 0 Z
   rwa [nb] at h⟩
theorem kH {w:World}{xs:List Int}{xsA:Option Addr}{xsC:Nat}{x:Int}(xsS:Sees w [.slice xsA xs.length xsC] xs):Ret Tryz.prog 184 #[.slice xsA xs.length xsC,.int .i64 x] w fun v w'=>Ext No w w'∧(v = .bool (decide (x∈xs))):=by
 have xsL:=sL xsS;obtain ⟨xsF,xsO⟩:=xsS;refine aA (vs:=[.slice xsA xs.length xsC,.int .i64 x]) func184 Z ntmps184 Z (fun Q hQ hN=>?_);have H0:=Sep.start (w:=w) (F:=[seen false [.slice xsA xs.length xsC] xs xsF]) (ae xsO (by simp));refine ab (sA Z Z (aa (ac (ab (sA Z Z (aa (ai (aM (γ:=Nat) (fun k=>[(0,.slice xsA xs.length xsC),(1,.int .i64 x),(5,.int .i64 k)]) (fun k w'=>Sep No w [] [seen false [.slice xsA xs.length xsC] xs xsF] w'∧k≤xs.length∧(∀ i,i<k→xs.getD i 0≠x)) (fun k=>xs.length-k) 0 ⟨Z,Z,Z,trivial⟩ ⟨H0,by omega,fun i hi=>by omega⟩ (fun k w1 H1=>?_)))))))));obtain ⟨H1,hk,he⟩:=H1;refine ac (ab (sR 2 Z (sV Z (ax bd Z) (sV Z (aI Z Z) (aa (au Z (fun c1=>?_) (fun c1=>?_)))))))
 ·refine ag (ac (ai (ac ?_)));obtain ⟨eb1,eo1,ee1,ec1⟩:=bT (H1.seen 0 Z) k (by omega);have eI1:=ca (H1.seen 0 Z) k (by omega);refine aj (sR 2 Z (sV Z (ao bd ts2 Z Z ee1 k (by omega) (by omega)) (sV Z (ah tu2 Z Z ec1) (sR 2 Z (aa (au Z (fun c2=>?_) (fun c2=>?_)))))))
  ·refine ab (rA hQ results184 Z ?_);exact ⟨H1.ext,by rw [decide_eq_true (qv (d:=0) (k:=k) (by omega) c2)]⟩
  ·refine ag (aj (sM Z Z (sV Z (aw Z Z iO) (sA Z Z (aa (⟨k+1,⟨Z,Z,Z,trivial⟩,⟨H1,by omega,fun i hi=>?_⟩,by dsimp only; omega⟩))))))
   by_cases e:i=k
   ·subst e; omega
   ·exact he i (by omega)
 ·refine aD (ab (rA hQ results184 Z ?_));exact ⟨H1.ext,by rw [decide_eq_false (nV (d:=0) fun i hi=>he i (by omega))]⟩
theorem gS {w:World}{xs:List Int}{xsA:Option Addr}{xsC:Nat}{x:Int}(xsS:Sees w [.slice xsA xs.length xsC] xs):Ret Tryz.prog 313 #[.slice xsA xs.length xsC,.int .i64 x] w fun v w'=>Ext No w w'∧(v = .int .i64 (idxOf xs x)):=by
 have xsL:=sL xsS;obtain ⟨xsF,xsO⟩:=xsS;refine aA (vs:=[.slice xsA xs.length xsC,.int .i64 x]) func313 Z ntmps313 Z (fun Q hQ hN=>?_);have H0:=Sep.start (w:=w) (F:=[seen false [.slice xsA xs.length xsC] xs xsF]) (ae xsO (by simp));refine ab (sA Z Z (aa (ac (ab (sM Z Z (sV Z (ax bd Z) (sM Z Z (aa (ai (aM (γ:=Nat) (fun k=>[(0,.slice xsA xs.length xsC),(1,.int .i64 x),(7,.int .i64 xs.length),(8,.int .i64 k)]) (fun k w'=>Sep No w [] [seen false [.slice xsA xs.length xsC] xs xsF] w'∧k≤xs.length∧(∀ i,i<k→xs.getD i 0≠x)) (fun k=>xs.length-k) 0 ⟨Z,Z,Z,Z,trivial⟩ ⟨H0,by omega,fun i hi=>by omega⟩ (fun k w1 H1=>?_)))))))))));obtain ⟨H1,hk,he⟩:=H1;refine ab (sV Z (aI Z Z) (aa (ac (au Z (fun c1=>?_) (fun c1=>?_)))))
 ·refine ag (ac (ai (ab (sR 2 Z (aa (ac ?_))))));obtain ⟨eb1,eo1,ee1,ec1⟩:=bT (H1.seen 0 Z) k (by omega);have eI1:=ca (H1.seen 0 Z) k (by omega);refine aj (sR 3 Z (sV Z (ao bd ts2 Z Z ee1 k (by omega) (by omega)) (sV Z (ah tu2 Z Z ec1) (sV Z (bJ Z Z) (aa (au Z (fun c2=>?_) (fun c2=>?_)))))))
  ·refine ab (sR 2 Z (rN hQ results313 Z ?_));exact ⟨H1.ext,congrArg (Value.int .i64) (CP (by omega) c2.symm he).symm⟩
  ·refine ag (aj (sV Z (aw Z Z iO) (sM Z Z (aa (⟨k+1,⟨Z,Z,Z,Z,trivial⟩,⟨H1,by omega,fun i hi=>?_⟩,by dsimp only; omega⟩)))))
   by_cases e:i=k
   ·subst e; omega
   ·exact he i (by omega)
 ·refine aD (ab (rA hQ results313 Z ?_));exact ⟨H1.ext,congrArg (Value.int .i64) (BK fun i hi=>he i (by omega)).symm⟩
theorem b0 {w:World}{xs:List Int}{xsA:Option Addr}{xsC:Nat}{x:Int}(xsS:Sees w [.slice xsA xs.length xsC] xs):Ret Tryz.prog 195 #[.slice xsA xs.length xsC,.int .i64 x] w fun v w'=>Ext No w w'∧(v = .bool (decide (x∈xs))):=by
 have xsL:=sL xsS;obtain ⟨xsF,xsO⟩:=xsS;refine aA (vs:=[.slice xsA xs.length xsC,.int .i64 x]) func195 Z ntmps195 Z (fun Q hQ hN=>?_);have H0:=Sep.start (w:=w) (F:=[seen false [.slice xsA xs.length xsC] xs xsF]) (ae xsO (by simp));refine ab (sA Z Z (aa (ab (sR 2 Z (sE func313 x9 Z (gS (H0.sees 0 Z)) H0 (fun w1 e1 H1=>sR 2 Z (rN hQ results195 Z ?_)))))));exact ⟨H1.ext,by rw [Bi]⟩
end Go.Wk
namespace Go.Wk
open Go.Proofs Rp Go.Proofs.Tryz
set_option maxRecDepth 10000
theorem dy {w:World}{xs:List UInt8}{xsA:Option Addr}{xsC:Nat}{k:Int}{fp:List Nat}(o:own true w [.slice xsA xs.length xsC] xs fp) (nd:fp.Nodup) (hk:0≤k∧k+xs.length≤4611686018427387904):Ret Tryz.prog 114 #[.slice xsA xs.length xsC,.int .i64 k] w fun v w'=>(v = .int .i64 (k+xs.length)∧∃ xs',Mut w w' fp [.slice xsA xs.length xsC] xs'∧xs'.length=xs.length∧MarkB xs' k):=by
 have len:=oL o;refine aA (vs:=[.slice xsA xs.length xsC,.int .i64 k]) func114 Z ntmps114 Z (fun Q hQ hN=>?_);have H0:=Sep.begin o nd;refine ab (sA Z Z (aa (ac (ab (sA Z Z (aa (ai (aM (γ:=Nat × List UInt8 × List Nat) (fun (i,ys,f)=>[(0,.slice xsA xs.length xsC),(1,.int .i64 (k+i)),(5,.int .i64 i)]) (fun (i,ys,f) w'=>Sep (· ∈ fp) w [mine [.slice xsA xs.length xsC] ys f] [] w'∧i≤xs.length∧ys.length=xs.length∧(∀ j,j<i→ys.getD j 0=nM (k+j))) (fun (i,ys,f)=>xs.length-i) (0,xs,fp) ⟨Z,eqI (by omega),Z,trivial⟩ ⟨H0,by omega,Z,fun j hj=>by omega⟩ (fun (i,ys,f) w1 H1=>?_)))))))));obtain ⟨H1,hi,hl,hm⟩:=H1;refine ac (ab (sR 2 Z (sV Z (ax aH Z) (sV Z (aI Z Z) (aa (au Z (fun c1=>?_) (fun c1=>?_)))))))
 ·refine ag (ac (ai (ac ?_)));obtain ⟨eb1,eo1,ee1,ec1⟩:=bI (H1.mine 0 Z) i (by omega);refine aj (sR 3 Z (sV Z (gT tu3 tu5 Z) (sV Z (ao aH ts5 Z Z ee1 i (by omega) (by omega)) (lv (wn Z) ts5 Z H1 0 Z i (by omega) Z ee1 Z dS (fun w2 fp1 e1 H2=>aa (aj (sM Z Z (sV Z (aw Z Z iO) (sA Z Z (aa (aj (sM Z Z (sV Z (aw Z Z iO) (sA Z Z (aa (⟨(i+1,_,_),⟨Z,eqI (by omega),Z,trivial⟩,⟨H2,by omega,by rw [List.length_set]; exact hl,fun j hj=>?_⟩,by dsimp only; omega⟩))))))))))))))));rw [dE]
  by_cases e:j=i
  ·subst e; rw [if_pos ⟨rfl,by omega⟩]
  ·rw [if_neg (fun h=>e h.1)]; exact hm j (by omega)
 ·refine aD (ab (sR 2 Z (rN hQ results114 Z ?_)));obtain rfl:i=xs.length:=by omega
  exact ⟨Z,_,H1.done,hl,fun j hj=>hm j (by omega)⟩
theorem gO {w:World}{xs:List Int}{xsA:Option Addr}{xsC:Nat}{k:Int}{fp:List Nat}(o:own true w [.slice xsA xs.length xsC] xs fp) (nd:fp.Nodup) (hk:0≤k∧k+xs.length≤4611686018427387904):Ret Tryz.prog 95 #[.slice xsA xs.length xsC,.int .i64 k] w fun v w'=>(v = .int .i64 (k+xs.length)∧∃ xs',Mut w w' fp [.slice xsA xs.length xsC] xs'∧xs'.length=xs.length∧MarkI xs' k):=by
 have len:=oL o;refine aA (vs:=[.slice xsA xs.length xsC,.int .i64 k]) func95 Z ntmps95 Z (fun Q hQ hN=>?_);have H0:=Sep.begin o nd;refine ab (sA Z Z (aa (ac (ab (sA Z Z (aa (ai (aM (γ:=Nat × List Int × List Nat) (fun (i,ys,f)=>[(0,.slice xsA xs.length xsC),(1,.int .i64 (k+i)),(5,.int .i64 i)]) (fun (i,ys,f) w'=>Sep (· ∈ fp) w [mine [.slice xsA xs.length xsC] ys f] [] w'∧i≤xs.length∧ys.length=xs.length∧(∀ j,j<i→ys.getD j 0=(k+j))) (fun (i,ys,f)=>xs.length-i) (0,xs,fp) ⟨Z,eqI (by omega),Z,trivial⟩ ⟨H0,by omega,Z,fun j hj=>by omega⟩ (fun (i,ys,f) w1 H1=>?_)))))))));obtain ⟨H1,hi,hl,hm⟩:=H1;refine ac (ab (sR 2 Z (sV Z (ax bd Z) (sV Z (aI Z Z) (aa (au Z (fun c1=>?_) (fun c1=>?_)))))))
 ·refine ag (ac (ai (ac ?_)));obtain ⟨eb1,eo1,ee1,ec1⟩:=bT (H1.mine 0 Z) i (by omega);refine aj (sR 3 Z (sV Z (ao bd ts2 Z Z ee1 i (by omega) (by omega)) (lv (wn Z) ts2 Z H1 0 Z i (by omega) Z ee1 Z (rj (by unfold I64ok; omega)) (fun w2 fp1 e1 H2=>aa (aj (sM Z Z (sV Z (aw Z Z iO) (sA Z Z (aa (aj (sM Z Z (sV Z (aw Z Z iO) (sA Z Z (aa (⟨(i+1,_,_),⟨Z,eqI (by omega),Z,trivial⟩,⟨H2,by omega,by rw [List.length_set]; exact hl,fun j hj=>?_⟩,by dsimp only; omega⟩)))))))))))))));rw [dE]
  by_cases e:j=i
  ·subst e; rw [if_pos ⟨rfl,by omega⟩]
  ·rw [if_neg (fun h=>e h.1)]; exact hm j (by omega)
 ·refine aD (ab (sR 2 Z (rN hQ results95 Z ?_)));obtain rfl:i=xs.length:=by omega
  exact ⟨Z,_,H1.done,hl,fun j hj=>hm j (by omega)⟩
theorem lQ {w:World}{xs:List UInt8}{xsA:Option Addr}{xsC:Nat}{k:Int}(xsS:Sees w [.slice xsA xs.length xsC] xs) (hk:0≤k∧k+xs.length≤4611686018427387904) (hm:MarkB xs k):Ret Tryz.prog 115 #[.slice xsA xs.length xsC,.int .i64 k] w fun v w'=>Ext No w w'∧(v = .int .i64 (k+xs.length)):=by
 have xsL:=sL xsS;obtain ⟨xsF,xsO⟩:=xsS;refine aA (vs:=[.slice xsA xs.length xsC,.int .i64 k]) func115 Z ntmps115 Z (fun Q hQ hN=>?_);have H0:=Sep.start (w:=w) (F:=[seen false [.slice xsA xs.length xsC] xs xsF]) (ae xsO (by simp));refine ab (sA Z Z (aa (ac (ab (sA Z Z (aa (ai (aM (γ:=Nat) (fun i=>[(0,.slice xsA xs.length xsC),(1,.int .i64 (k+i)),(5,.int .i64 i)]) (fun i w'=>Sep No w [] [seen false [.slice xsA xs.length xsC] xs xsF] w'∧i≤xs.length) (fun i=>xs.length-i) 0 ⟨Z,eqI (by omega),Z,trivial⟩ ⟨H0,by omega⟩ (fun i w1 H1=>?_)))))))));obtain ⟨H1,hi⟩:=H1;refine ac (ab (sR 2 Z (sV Z (ax aH Z) (sV Z (aI Z Z) (aa (au Z (fun c1=>?_) (fun c1=>?_)))))))
 ·refine ag (ac (ai (ac (ac ?_))));obtain ⟨eb1,eo1,ee1,ec1⟩:=bI (H1.seen 0 Z) i (by omega);refine aj (sR 2 Z (sV Z (ao aH ts5 Z Z ee1 i (by omega) (by omega)) (sV Z (ah tu5 Z Z ec1) (sM Z Z (sV Z (gT tu3 tu5 Z) (sV Z (bg Z Z) (aa (au Z (fun c2=>?_) (fun c2=>?_)))))))))
  ·exact absurd (by rw [hm i (by omega)]) c2
  ·refine ag (aj (sM Z Z (sV Z (aw Z Z iO) (sA Z Z (aa (aj (sM Z Z (sV Z (aw Z Z iO) (sA Z Z (aa (⟨i+1,⟨Z,eqI (by omega),Z,trivial⟩,⟨H1,by omega⟩,by dsimp only; omega⟩)))))))))))
 ·refine aD (ab (sR 2 Z (rN hQ results115 Z ?_)));obtain rfl:i=xs.length:=by omega
  exact ⟨H1.ext,Z⟩
end Go.Wk
namespace Go.Wk
open Go.Proofs Rp Go.Proofs.Tryz
set_option maxRecDepth 10000
theorem aX {w:World}{v0 lo hi:Int}  : Ret Tryz.prog 141 #[.int .i64 v0,.int .i64 lo,.int .i64 hi] w fun v w'=>Ext No w w'∧(v = .bool (ins v0 lo hi)):=by
 refine aA (vs:=[.int .i64 v0,.int .i64 lo,.int .i64 hi]) func141 Z ntmps141 Z (fun Q hQ hN=>?_);have H0:=Sep.start (w:=w) (F:=[]) (by simp);refine ab (sA Z Z (aa (ab (sR 4 Z (bp 3 (j:=3) (want:=true) (t:=13) Z Z Z Z (fun hg1 kk1=>ak (wgE Z Z Z hg1) Z Z (aG Z) (ak (wgE Z Z Z hg1) Z Z (aG Z) (ak (wgE Z Z Z hg1) Z Z (ru Z Z) (kk1 _ _ (kx Z (kx Z (kx Z k0))) Z Ext.refl)))) (fun w1 e1=>?_))))));have H1:=H0.to e1;refine sV Z (aY Z Z) (rA hQ results141 Z ?_);exact ⟨H1.ext,Z⟩
theorem aU {w:World}{v0 lo hi:Int}  : Ret Tryz.prog 130 #[.int .i64 v0,.int .i64 lo,.int .i64 hi] w fun v w'=>Ext No w w'∧(v = .bool (ins v0 lo hi)):=by
 refine aA (vs:=[.int .i64 v0,.int .i64 lo,.int .i64 hi]) func130 Z ntmps130 Z (fun Q hQ hN=>?_);have H0:=Sep.start (w:=w) (F:=[]) (by simp);refine ab (sA Z Z (aa (ab (sR 4 Z (bp 3 (j:=3) (want:=true) (t:=13) Z Z Z Z (fun hg1 kk1=>ak (wgE Z Z Z hg1) Z Z (aG Z) (ak (wgE Z Z Z hg1) Z Z (aG Z) (ak (wgE Z Z Z hg1) Z Z (ru Z Z) (kk1 _ _ (kx Z (kx Z (kx Z k0))) Z Ext.refl)))) (fun w1 e1=>?_))))));have H1:=H0.to e1;refine sV Z (aY Z Z) (rA hQ results130 Z ?_);exact ⟨H1.ext,Z⟩
theorem nr {w:World}{x y:Int}  : Ret Tryz.prog 139 #[.int .i64 x,.int .i64 y] w fun v w'=>Ext No w w'∧(v = .bool (cOK x y)):=by
 refine aA (vs:=[.int .i64 x,.int .i64 y]) func139 Z ntmps139 Z (fun Q hQ hN=>?_);have H0:=Sep.start (w:=w) (F:=[]) (by simp);refine ab (sA Z Z (aa (ab (sM Z Z (sE func141 bB Z aX H0 (fun w1 e1 H1=>sM Z Z (bp 2 (j:=2) (want:=true) (t:=9) Z Z Z Z (fun hg1 kk1=>ak (wgE Z Z Z hg1) Z Z (aG Z) (co (wgE Z Z Z hg1) Z Z (aO func141 Z bB Z) aX (fun w3 e3=>kk1 _ _ (kx Z (kx Z k0)) Z (Ext.refl.trans e3)))) (fun w2 e2=>?_))))))));have H2:=H1.to e2;refine sV Z (aY Z Z) (rA hQ results139 Z ?_);exact ⟨H2.ext,Z⟩
theorem n9 {w:World}{x y:Int}  : Ret Tryz.prog 140 #[.int .i64 x,.int .i64 y] w fun v w'=>Ext No w w'∧(v = .bool (rOK x y)):=by
 refine aA (vs:=[.int .i64 x,.int .i64 y]) func140 Z ntmps140 Z (fun Q hQ hN=>?_);have H0:=Sep.start (w:=w) (F:=[]) (by simp);refine ab (sA Z Z (aa (ab (sM Z Z (sE func141 bB Z aX H0 (fun w1 e1 H1=>sM Z Z (bp 2 (j:=2) (want:=true) (t:=9) Z Z Z Z (fun hg1 kk1=>ak (wgE Z Z Z hg1) Z Z (aG Z) (co (wgE Z Z Z hg1) Z Z (aO func141 Z bB Z) aX (fun w3 e3=>kk1 _ _ (kx Z (kx Z k0)) Z (Ext.refl.trans e3)))) (fun w2 e2=>?_))))))));have H2:=H1.to e2;refine sV Z (aY Z Z) (rA hQ results140 Z ?_);exact ⟨H2.ext,Z⟩
theorem gQ {w:World}{s:Shape}  : Ret Tryz.prog 45 #[s.v] w fun v w'=>Ext No w w'∧(v = .int .i64 s.fault):=by
 refine aA (vs:=[s.v]) func45 Z ntmps45 Z (fun Q hQ hN=>?_);have H0:=Sep.start (w:=w) (F:=[]) (by simp);refine ab (aV (wn Z) Z Z H0 (fun b1 w1 e1 g1 H1=>sA Z Z (aa (ac (ab (sF be Z ts2 (sLd tu2 (H1.box 0 Z) Z (sF be Z ts2 (sLd tu2 (H1.box 0 Z) Z (sE func139 wR Z nr H1 (fun w2 e2 H2=>sV Z (aN Z) (sM Z Z (bp 6 (j:=6) (want:=false) (t:=15) Z Z Z Z (fun hg1 kk1=>ak (wgE Z Z Z hg1) Z Z (am be Z ts2 Z Z) (ak (wgE Z Z Z hg1) Z Z (ah tu2 Z Z (ar (H2.box 0 Z) Z)) (ak (wgE Z Z Z hg1) Z Z (am be Z ts2 Z Z) (ak (wgE Z Z Z hg1) Z Z (ah tu2 Z Z (ar (H2.box 0 Z) Z)) (co (wgE Z Z Z hg1) Z Z (aO func140 Z wh Z) n9 (fun w4 e4=>ak (wgE Z Z Z hg1) Z Z (aN Z) (kk1 _ _ (kx Z (kx Z (kx Z (kx Z (kx Z (kx Z k0)))))) Z (Ext.refl.trans e4)))))))) (fun w3 e3=>?_))))))))))))));have H3:=H2.to e3;refine sV Z (en Z Z) (sM Z Z (bp 4 (j:=14) (want:=false) (t:=21) Z Z Z Z (fun hg2 kk2=>ak (wgE Z Z Z hg2) Z Z (am be Z ts2 Z Z) (ak (wgE Z Z Z hg2) Z Z (ah tu2 Z Z (ar (H3.box 0 Z) Z)) (co (wgE Z Z Z hg2) Z Z (aO func141 Z bB Z) aX (fun w6 e6=>ak (wgE Z Z Z hg2) Z Z (aN Z) (kk2 _ _ (kx Z (kx Z (kx Z (kx Z k0)))) Z (Ext.refl.trans e6)))))) (fun w5 e5=>?_)));have H4:=H3.to e5;refine sV Z (en Z Z) (sM Z Z (bp 4 (j:=20) (want:=false) (t:=27) Z Z Z Z (fun hg3 kk3=>ak (wgE Z Z Z hg3) Z Z (am be Z ts2 Z Z) (ak (wgE Z Z Z hg3) Z Z (ah tu2 Z Z (ar (H4.box 0 Z) Z)) (co (wgE Z Z Z hg3) Z Z (aO func141 Z bB Z) aX (fun w8 e8=>ak (wgE Z Z Z hg3) Z Z (aN Z) (kk3 _ _ (kx Z (kx Z (kx Z (kx Z k0)))) Z (Ext.refl.trans e8)))))) (fun w7 e7=>?_)));have H5:=H4.to e7;refine sV Z (en Z Z) (sM Z Z (bp 4 (j:=26) (want:=false) (t:=33) Z Z Z Z (fun hg4 kk4=>ak (wgE Z Z Z hg4) Z Z (am be Z ts2 Z Z) (ak (wgE Z Z Z hg4) Z Z (ah tu2 Z Z (ar (H5.box 0 Z) Z)) (co (wgE Z Z Z hg4) Z Z (aO func141 Z bB Z) aX (fun w10 e10=>ak (wgE Z Z Z hg4) Z Z (aN Z) (kk4 _ _ (kx Z (kx Z (kx Z (kx Z k0)))) Z (Ext.refl.trans e10)))))) (fun w9 e9=>?_)));have H6:=H5.to e9;refine sV Z (en Z Z) (sM Z Z (bp 4 (j:=32) (want:=false) (t:=39) Z Z Z Z (fun hg5 kk5=>ak (wgE Z Z Z hg5) Z Z (am be Z ts2 Z Z) (ak (wgE Z Z Z hg5) Z Z (ah tu2 Z Z (ar (H6.box 0 Z) Z)) (co (wgE Z Z Z hg5) Z Z (aO func141 Z bB Z) aX (fun w12 e12=>ak (wgE Z Z Z hg5) Z Z (aN Z) (kk5 _ _ (kx Z (kx Z (kx Z (kx Z k0)))) Z (Ext.refl.trans e12)))))) (fun w11 e11=>?_)));have H7:=H6.to e11;refine sV Z (en Z Z) (sM Z Z (bp 4 (j:=38) (want:=false) (t:=45) Z Z Z Z (fun hg6 kk6=>ak (wgE Z Z Z hg6) Z Z (am be Z ts2 Z Z) (ak (wgE Z Z Z hg6) Z Z (ah tu2 Z Z (ar (H7.box 0 Z) Z)) (co (wgE Z Z Z hg6) Z Z (aO func141 Z bB Z) aX (fun w14 e14=>ak (wgE Z Z Z hg6) Z Z (aN Z) (kk6 _ _ (kx Z (kx Z (kx Z (kx Z k0)))) Z (Ext.refl.trans e14)))))) (fun w13 e13=>?_)));have H8:=H7.to e13;refine sV Z (en Z Z) (aa (bz Z (fun c1=>?_) (fun c1=>?_)))
 ·refine ab (rA hQ results45 Z ?_);exact ⟨H8.ext,Shape.no (by simpa only [Shape.ok,Bool.not_and] using c1)⟩
 ·refine ag (ab (rA hQ results45 Z ?_));exact ⟨H8.ext,Shape.yes (by simpa only [Shape.ok,Bool.not_and] using c1)⟩
theorem lq {w:World}{s:Shape}  : Ret Tryz.prog 135 #[s.v] w fun v w'=>Ext No w w'∧(v = .int .i64 s.fault):=by
 refine aA (vs:=[s.v]) func135 Z ntmps135 Z (fun Q hQ hN=>?_);have H0:=Sep.start (w:=w) (F:=[]) (by simp);refine ab (aV (wn Z) Z Z H0 (fun b1 w1 e1 g1 H1=>sA Z Z (aa (ab (sF be Z ts2 (sLd tu2 (H1.box 0 Z) Z (sE func130 bU Z aU H1 (fun w2 e2 H2=>sM Z Z (bp 3 (j:=3) (want:=true) (t:=10) Z Z Z Z (fun hg1 kk1=>ak (wgE Z Z Z hg1) Z Z (am be Z ts2 Z Z) (ak (wgE Z Z Z hg1) Z Z (ah tu2 Z Z (ar (H2.box 0 Z) Z)) (co (wgE Z Z Z hg1) Z Z (aO func130 Z bU Z) aU (fun w4 e4=>kk1 _ _ (kx Z (kx Z (kx Z k0))) Z (Ext.refl.trans e4))))) (fun w3 e3=>?_))))))))));have H3:=H2.to e3;refine sV Z (aY Z Z) (sM Z Z (bp 3 (j:=8) (want:=true) (t:=15) Z Z Z Z (fun hg2 kk2=>ak (wgE Z Z Z hg2) Z Z (am be Z ts2 Z Z) (ak (wgE Z Z Z hg2) Z Z (ah tu2 Z Z (ar (H3.box 0 Z) Z)) (co (wgE Z Z Z hg2) Z Z (aO func130 Z bU Z) aU (fun w6 e6=>kk2 _ _ (kx Z (kx Z (kx Z k0))) Z (Ext.refl.trans e6))))) (fun w5 e5=>?_)));have H4:=H3.to e5;refine sV Z (aY Z Z) (sM Z Z (bp 3 (j:=13) (want:=true) (t:=20) Z Z Z Z (fun hg3 kk3=>ak (wgE Z Z Z hg3) Z Z (am be Z ts2 Z Z) (ak (wgE Z Z Z hg3) Z Z (ah tu2 Z Z (ar (H4.box 0 Z) Z)) (co (wgE Z Z Z hg3) Z Z (aO func130 Z bU Z) aU (fun w8 e8=>kk3 _ _ (kx Z (kx Z (kx Z k0))) Z (Ext.refl.trans e8))))) (fun w7 e7=>?_)));have H5:=H4.to e7;refine sV Z (aY Z Z) (sA Z Z (aa (ab (sR 2 Z (bp 3 (j:=1) (want:=true) (t:=26) Z Z Z Z (fun hg4 kk4=>ak (wgE Z Z Z hg4) Z Z (am be Z ts2 Z Z) (ak (wgE Z Z Z hg4) Z Z (ah tu2 Z Z (ar (H5.box 0 Z) Z)) (co (wgE Z Z Z hg4) Z Z (aO func130 Z bU Z) aU (fun w10 e10=>kk4 _ _ (kx Z (kx Z (kx Z k0))) Z (Ext.refl.trans e10))))) (fun w9 e9=>?_))))));have H6:=H5.to e9;refine sV Z (aY Z Z) (sM Z Z (bp 3 (j:=6) (want:=true) (t:=31) Z Z Z Z (fun hg5 kk5=>ak (wgE Z Z Z hg5) Z Z (am be Z ts2 Z Z) (ak (wgE Z Z Z hg5) Z Z (ah tu2 Z Z (ar (H6.box 0 Z) Z)) (co (wgE Z Z Z hg5) Z Z (aO func130 Z bU Z) aU (fun w12 e12=>kk5 _ _ (kx Z (kx Z (kx Z k0))) Z (Ext.refl.trans e12))))) (fun w11 e11=>?_)));have H7:=H6.to e11;refine sV Z (aY Z Z) (sM Z Z (bp 3 (j:=11) (want:=true) (t:=36) Z Z Z Z (fun hg6 kk6=>ak (wgE Z Z Z hg6) Z Z (am be Z ts2 Z Z) (ak (wgE Z Z Z hg6) Z Z (ah tu2 Z Z (ar (H7.box 0 Z) Z)) (co (wgE Z Z Z hg6) Z Z (aO func130 Z bU Z) aU (fun w14 e14=>kk6 _ _ (kx Z (kx Z (kx Z k0))) Z (Ext.refl.trans e14))))) (fun w13 e13=>?_)));have H8:=H7.to e13;refine sV Z (aY Z Z) (sM Z Z (bp 3 (j:=16) (want:=true) (t:=41) Z Z Z Z (fun hg7 kk7=>ak (wgE Z Z Z hg7) Z Z (am be Z ts2 Z Z) (ak (wgE Z Z Z hg7) Z Z (ah tu2 Z Z (ar (H8.box 0 Z) Z)) (co (wgE Z Z Z hg7) Z Z (aO func130 Z bU Z) aU (fun w16 e16=>kk7 _ _ (kx Z (kx Z (kx Z k0))) Z (Ext.refl.trans e16))))) (fun w15 e15=>?_)));have H9:=H8.to e15;refine sV Z (aY Z Z) (sA Z Z (aa (ac (ab (sM Z Z (sV Z (aN Z) (sM Z Z (bp 4 (j:=2) (want:=false) (t:=49) Z Z Z Z (fun hg8 kk8=>ak (wgE Z Z Z hg8) Z Z (am be Z ts2 Z Z) (ak (wgE Z Z Z hg8) Z Z (ah tu2 Z Z (ar (H9.box 0 Z) Z)) (co (wgE Z Z Z hg8) Z Z (aO func130 Z bU Z) aU (fun w18 e18=>ak (wgE Z Z Z hg8) Z Z (aN Z) (kk8 _ _ (kx Z (kx Z (kx Z (kx Z k0)))) Z (Ext.refl.trans e18)))))) (fun w17 e17=>?_)))))))));have H10:=H9.to e17;refine sV Z (en Z Z) (aa (bz Z (fun c1=>?_) (fun c1=>?_)))
 ·refine ab (rA hQ results135 Z ?_);exact ⟨H10.ext,Shape.no (by simpa only [Shape.ok,cOK,rOK,Bool.not_and,Bool.or_assoc] using c1)⟩
 ·refine ag (ab (rA hQ results135 Z ?_));exact ⟨H10.ext,Shape.yes (by simpa only [Shape.ok,cOK,rOK,Bool.not_and,Bool.or_assoc] using c1)⟩
end Go.Wk
namespace Go.Wk
open Go.Proofs Rp Go.Proofs.Tryz
set_option maxRecDepth 10000
theorem hY {w:World}{b:ByteArray}(hb:b.size≤maxLen):Ret Tryz.prog 105 #[.string b] w fun v w'=>Ext No w w'∧(v = .int .i64 (aT b)):=by
 unfold maxLen at hb;refine aA (vs:=[.string b]) func105 Z ntmps105 Z (fun Q hQ hN=>?_);have H0:=Sep.start (w:=w) (F:=[]) (by simp);refine ab (sA Z Z (aa (ac (ab (sM Z Z (sV Z (ia tu9 Z) (sR 2 Z (bp 3 (j:=3) (want:=false) (t:=10) Z Z Z Z (fun hg1 kk1=>ak (wgE Z Z Z hg1) Z Z (aG Z) (ak (wgE Z Z Z hg1) Z Z (ia tu9 Z) (ak (wgE Z Z Z hg1) Z Z (dd Z Z) (kk1 _ _ (kx Z (kx Z (kx Z k0))) Z Ext.refl)))) (fun w1 e1=>?_)))))))));have H1:=H0.to e1;refine sV Z (en Z Z) (sM Z Z (bp 3 (j:=8) (want:=false) (t:=15) Z Z Z Z (fun hg2 kk2=>ak (wgE Z Z Z hg2) Z Z (aG Z) (ak (wgE Z Z Z hg2) Z Z (d9 tu9 Z Z 0 (by omega) (by first | omega | (simp only [Bool.or_eq_false_iff,Bool.and_eq_true,Bool.and_eq_false_iff,Bool.or_eq_true,Bool.not_eq_true',Bool.not_eq_false',decide_eq_true_eq,decide_eq_false_iff_not] at hg2; omega))) (ak (wgE Z Z Z hg2) Z Z (aI Z Z) (kk2 _ _ (kx Z (kx Z (kx Z k0))) Z Ext.refl)))) (fun w2 e2=>?_)));have H2:=H1.to e2;refine sV Z (en Z Z) (sM Z Z (bp 3 (j:=13) (want:=false) (t:=20) Z Z Z Z (fun hg3 kk3=>ak (wgE Z Z Z hg3) Z Z (aG Z) (ak (wgE Z Z Z hg3) Z Z (d9 tu9 Z Z 0 (by omega) (by first | omega | (simp only [Bool.or_eq_false_iff,Bool.and_eq_true,Bool.and_eq_false_iff,Bool.or_eq_true,Bool.not_eq_true',Bool.not_eq_false',decide_eq_true_eq,decide_eq_false_iff_not] at hg3; omega))) (ak (wgE Z Z Z hg3) Z Z (dd Z Z) (kk3 _ _ (kx Z (kx Z (kx Z k0))) Z Ext.refl)))) (fun w3 e3=>?_)));have H3:=H2.to e3;refine sV Z (en Z Z) (aa (bz Z (fun c1=>?_) (fun c1=>?_)))
 ·refine ab (sA Z Z (aa (rT hQ results105 Z (⟨H3.ext,p6 ?_⟩))))
  by_cases hs:1≤b.size∧b.size≤8
  ·refine mV 0 (by omega) ?_;simp only [vU,Bool.or_eq_true,Bool.or_eq_false_iff,Bool.and_eq_true,Bool.and_eq_false_iff,decide_eq_true_eq,decide_eq_false_iff_not] at c1 ⊢;simp
   omega
  ·simp [iK]; omega
 ·refine ag (ac (ab (sA Z Z (aa (ai ?_)))));simp only [Bool.or_eq_true,Bool.or_eq_false_iff,Bool.and_eq_true,Bool.and_eq_false_iff,decide_eq_true_eq,decide_eq_false_iff_not] at c1;refine aM (γ:=Nat) (fun k=>[(0,.string b),(3,.int .i64 k)]) (fun k w'=>Sep No w [] [] w'∧k≤b.size∧uM b k=true) (fun k=>b.size-k) 0 ⟨Z,Z,trivial⟩ ⟨H3,by omega,Z⟩ (fun k w4 H4=>?_);obtain ⟨H4,hk,hok⟩:=H4;refine ac (ab (sR 2 Z (sV Z (ia tu9 Z) (sV Z (aI Z Z) (aa (au Z (fun c2=>?_) (fun c2=>?_)))))))
  ·refine ag (ac (ai (ab (sR 2 Z (sV Z (d9 tu9 Z Z k (by omega) (by omega)) (sR 2 Z (bp 4 (j:=4) (want:=false) (t:=36) Z Z Z Z (fun hg4 kk4=>ak (wgE Z Z Z hg4) Z Z (aG Z) (ak (wgE Z Z Z hg4) Z Z (aG Z) (ak (wgE Z Z Z hg4) Z Z (d9 tu9 Z Z k (by omega) (by first | omega | (simp only [Bool.or_eq_false_iff,Bool.and_eq_true,Bool.and_eq_false_iff,Bool.or_eq_true,Bool.not_eq_true',Bool.not_eq_false',decide_eq_true_eq,decide_eq_false_iff_not] at hg4; omega))) (ak (wgE Z Z Z hg4) Z Z (dd Z Z) (kk4 _ _ (kx Z (kx Z (kx Z (kx Z k0)))) Z Ext.refl))))) (fun w5 e4=>?_))))))));have H5:=H4.to e4;refine sV Z (en Z Z) (sM Z Z (bp 10 (j:=10) (want:=true) (t:=48) Z Z Z Z (fun hg5 kk5=>ak (wgE Z Z Z hg5) Z Z (aG Z) (ak (wgE Z Z Z hg5) Z Z (aG Z) (ak (wgE Z Z Z hg5) Z Z (d9 tu9 Z Z k (by omega) (by first | omega | (simp only [Bool.or_eq_false_iff,Bool.and_eq_true,Bool.and_eq_false_iff,Bool.or_eq_true,Bool.not_eq_true',Bool.not_eq_false',decide_eq_true_eq,decide_eq_false_iff_not] at hg5; omega))) (ak (wgE Z Z Z hg5) Z Z (aI Z Z) (ak (wgE Z Z Z hg5) Z Z (aG Z) (bp 4 (j:=15) (want:=false) (t:=47) Z Z Z Z (fun hg6 kk6=>ak (wgE Z Z Z hg6) Z Z (aG Z) (ak (wgE Z Z Z hg6) Z Z (aG Z) (ak (wgE Z Z Z hg6) Z Z (d9 tu9 Z Z k (by omega) (by first | omega | (simp only [Bool.or_eq_false_iff,Bool.and_eq_true,Bool.and_eq_false_iff,Bool.or_eq_true,Bool.not_eq_true',Bool.not_eq_false',decide_eq_true_eq,decide_eq_false_iff_not] at hg5 hg6; omega))) (ak (wgE Z Z Z hg6) Z Z (dd Z Z) (kk6 _ _ (kx Z (kx Z (kx Z (kx Z k0)))) Z Ext.refl))))) (fun w7 e6=>ak (wgE Z Z Z hg5) Z Z (en Z Z) (kk5 _ _ (kx Z (kx Z (kx Z (kx Z (kx Z (kx Z (kx Z k0))))))) Z (Ext.refl.trans e6))))))))) (fun w6 e5=>?_)));have H7:=H5.to e5;refine sV Z (aY Z Z) (aa (bz Z (fun c3=>?_) (fun c3=>?_)))
   ·refine ab (sA Z Z (aa (rT hQ results105 Z (⟨H7.ext,p6 (mV k (by omega) ?_)⟩))));simp only [vU,Bool.or_eq_true,Bool.or_eq_false_iff,Bool.and_eq_true,Bool.and_eq_false_iff,decide_eq_true_eq,decide_eq_false_iff_not] at c3 ⊢
    omega
   ·refine ag (aj (sM Z Z (sV Z (aw Z Z iO) (sA Z Z (aa (⟨k+1,⟨Z,Z,trivial⟩,⟨H7,by omega,?_⟩,by dsimp only; omega⟩))))));rw [uM,hok,Bool.true_and];simp only [vU,Bool.or_eq_true,Bool.or_eq_false_iff,Bool.and_eq_true,Bool.and_eq_false_iff,decide_eq_true_eq,decide_eq_false_iff_not] at c3 ⊢;simp only [Bool.not_eq_true',decide_eq_false_iff_not]
    by_cases h0:k=0
    ·subst h0; omega
    ·omega
  ·refine aD (ab (sA Z Z (aa (rT hQ results105 Z (⟨H4.ext,uQ ?_⟩)))));obtain rfl:k=b.size:=by omega
   simp only [iK,hok,Bool.and_true,Bool.or_eq_true,Bool.or_eq_false_iff,Bool.and_eq_true,Bool.and_eq_false_iff,decide_eq_true_eq,decide_eq_false_iff_not]
   omega
theorem gZ {w:World}{b:ByteArray}(hb:b.size≤maxLen):Ret Tryz.prog 177 #[.string b] w fun v w'=>Ext No w w'∧(v = .int .i64 (aT b)):=by
 unfold maxLen at hb;refine aA (vs:=[.string b]) func177 Z ntmps177 Z (fun Q hQ hN=>?_);have H0:=Sep.start (w:=w) (F:=[]) (by simp);refine ab (sA Z Z (aa (ac (ab (sM Z Z (sV Z (ia tu9 Z) (sM Z Z (aa (ai (aM (γ:=Nat) (fun k=>[(0,.string b),(6,.int .i64 b.size),(7,.int .i64 k)]) (fun k w'=>Sep No w [] [] w'∧k≤b.size∧uM b k=true) (fun k=>b.size-k) 0 ⟨Z,Z,Z,trivial⟩ ⟨H0,by omega,Z⟩ (fun k w1 H1=>?_)))))))))));obtain ⟨H1,hk,hok⟩:=H1;refine ab (sV Z (aI Z Z) (aa (ac (au Z (fun c1=>?_) (fun c1=>?_)))))
 ·refine ag (ac (ai (ab (sR 2 Z (aa (ab (sR 2 Z (sV Z (d9 tu9 Z Z k (by omega) (by omega)) (sR 2 Z (bp 4 (j:=4) (want:=true) (t:=18) Z Z Z Z (fun hg1 kk1=>ak (wgE Z Z Z hg1) Z Z (aG Z) (ak (wgE Z Z Z hg1) Z Z (aG Z) (ak (wgE Z Z Z hg1) Z Z (d9 tu9 Z Z k (by omega) (by first | omega | (simp only [Bool.or_eq_false_iff,Bool.and_eq_true,Bool.and_eq_false_iff,Bool.or_eq_true,Bool.not_eq_true',Bool.not_eq_false',decide_eq_true_eq,decide_eq_false_iff_not] at hg1; omega))) (ak (wgE Z Z Z hg1) Z Z (ru Z Z) (kk1 _ _ (kx Z (kx Z (kx Z (kx Z k0)))) Z Ext.refl))))) (fun w2 e1=>?_)))))))))));have H2:=H1.to e1;refine sV Z (aY Z Z) (sA Z Z (aa (ab (sM Z Z (sV Z (aN Z) (sM Z Z (bp 14 (j:=2) (want:=true) (t:=36) Z Z Z Z (fun hg2 kk2=>ak (wgE Z Z Z hg2) Z Z (aG Z) (ak (wgE Z Z Z hg2) Z Z (bJ Z Z) (ak (wgE Z Z Z hg2) Z Z (aG Z) (bp 4 (j:=5) (want:=false) (t:=29) Z Z Z Z (fun hg3 kk3=>ak (wgE Z Z Z hg3) Z Z (aG Z) (ak (wgE Z Z Z hg3) Z Z (aG Z) (ak (wgE Z Z Z hg3) Z Z (d9 tu9 Z Z k (by omega) (by first | omega | (simp only [Bool.or_eq_false_iff,Bool.and_eq_true,Bool.and_eq_false_iff,Bool.or_eq_true,Bool.not_eq_true',Bool.not_eq_false',decide_eq_true_eq,decide_eq_false_iff_not] at hg2 hg3; omega))) (ak (wgE Z Z Z hg3) Z Z (aI Z Z) (kk3 _ _ (kx Z (kx Z (kx Z (kx Z k0)))) Z Ext.refl))))) (fun w4 e3=>ak (wgE Z Z Z hg2) Z Z (en Z Z) (ak (wgE Z Z Z hg2) Z Z (aG Z) (bp 4 (j:=11) (want:=false) (t:=35) Z Z Z Z (fun hg4 kk4=>ak (wgE Z Z Z hg4) Z Z (aG Z) (ak (wgE Z Z Z hg4) Z Z (aG Z) (ak (wgE Z Z Z hg4) Z Z (d9 tu9 Z Z k (by omega) (by first | omega | (simp only [Bool.or_eq_false_iff,Bool.and_eq_true,Bool.and_eq_false_iff,Bool.or_eq_true,Bool.not_eq_true',Bool.not_eq_false',decide_eq_true_eq,decide_eq_false_iff_not] at hg2 hg4; omega))) (ak (wgE Z Z Z hg4) Z Z (dd Z Z) (kk4 _ _ (kx Z (kx Z (kx Z (kx Z k0)))) Z Ext.refl))))) (fun w5 e4=>ak (wgE Z Z Z hg2) Z Z (en Z Z) (kk2 _ _ (kx Z (kx Z (kx Z (kx Z (kx Z (kx Z (kx Z (kx Z k0)))))))) Z ((Ext.refl.trans e3).trans e4)))))))))) (fun w3 e2=>?_))))))));have H5:=H2.to e2;refine sV Z (aY Z Z) (aa (bz Z (fun c2=>?_) (fun c2=>?_)))
  ·refine ab (sA Z Z (aa (rT hQ results177 Z (⟨H5.ext,p6 (mV k (by omega) ?_)⟩))));simp only [vU,Bool.or_eq_true,Bool.or_eq_false_iff,Bool.and_eq_true,Bool.and_eq_false_iff,decide_eq_true_eq,decide_eq_false_iff_not,Bool.not_eq_true',Bool.not_eq_false'] at c2 ⊢
   omega
  ·refine ag (aj (sV Z (aw Z Z iO) (sM Z Z (aa (⟨k+1,⟨Z,Z,Z,trivial⟩,⟨H5,by omega,?_⟩,by dsimp only; omega⟩)))));rw [uM,hok,Bool.true_and];simp only [vU,Bool.or_eq_true,Bool.or_eq_false_iff,Bool.and_eq_true,Bool.and_eq_false_iff,decide_eq_true_eq,decide_eq_false_iff_not,Bool.not_eq_true',Bool.not_eq_false'] at c2 ⊢
   omega
 ·refine aD (ac (ab (sM Z Z (sV Z (ia tu9 Z) (sE func130 bU Z aU H1 (fun w6 e5 H6=>sV Z (aN Z) (aa (bz Z (fun c3=>?_) (fun c3=>?_)))))))))
  ·refine ab (sA Z Z (aa (rT hQ results177 Z (⟨H6.ext,p6 ?_⟩))));have c4:=cz c3;rw [Ev] at c4;simp [iK]
   omega
  ·refine ag (ab (sA Z Z (aa (rT hQ results177 Z (⟨H6.ext,uQ ?_⟩)))));have c4:=ay c3;rw [bM] at c4;obtain rfl:k=b.size:=by omega
   simp only [iK,hok,Bool.and_true,Bool.or_eq_true,Bool.or_eq_false_iff,Bool.and_eq_true,Bool.and_eq_false_iff,decide_eq_true_eq,decide_eq_false_iff_not]
   omega
theorem oz {w:World}{s:Shape}{b:ByteArray}(hb:b.size≤1000) (hg:s.Groups≠0):Ret Tryz.prog 233 #[s.v,.string b] w fun v w'=>Ext No w w'∧(v = .int .i64 (cS s b)):=by
 refine aA (vs:=[s.v,.string b]) func233 Z ntmps233 Z (fun Q hQ hN=>?_);have H0:=Sep.start (w:=w) (F:=[]) (by simp);refine ab (aV (wn Z) Z Z H0 (fun b1 w1 e1 g1 H1=>sA Z Z (aa (ab (sA Z Z (aa (ac (ab (sA Z Z (aa (ai ?_)))))))))));have sb:=la (b:=b) 0;refine aM (γ:=Nat) (fun k=>[(1,.string b),(2,.pointer (some ⟨b1,0,none⟩)),(5,.int .i64 (kG b k)),(6,.int .i64 k)]) (fun k w'=>Sep No w [box b1 (.cells (Shape.v s).cells 30)] [] w'∧k≤b.size) (fun k=>b.size-k) 0 ⟨Z,Z,Z,Z,trivial⟩ ⟨H1,by omega⟩ (fun k w2 H2=>?_);obtain ⟨H2,hk⟩:=H2;refine ac (ab (sR 2 Z (sV Z (ia tu9 Z) (sV Z (aI Z Z) (aa (au Z (fun c1=>?_) (fun c1=>?_)))))))
 ·refine ag (ac (ai ?_));have sb:=la (b:=b) k;have gb:=(gB b k).toNat_lt;refine aj (sR 3 Z (sV Z (d9 tu9 Z Z k (by omega) (by omega)) (sV Z (fc tu5 tu2 Z iO) (sV Z (aw Z Z iO) (sA Z Z (aa (aj (sM Z Z (sV Z (aw Z Z iO) (sA Z Z (aa (⟨k+1,⟨Z,Z,Z,Z,trivial⟩,⟨H2,by omega⟩,by dsimp only; omega⟩))))))))))))
 ·refine aD (ac ?_);obtain rfl:k=b.size:=by omega
  refine aj (sM Z Z (sF be Z ts2 (sLd tu2 (H2.box 0 Z) Z (sV Z (oB Z Z (by omega)) (rA hQ results233 Z ?_)))));exact ⟨H2.ext,Z⟩
theorem gM {w:World}{s:Shape}{b:ByteArray}(hb:b.size≤1000) (hg:s.Groups≠0):Ret Tryz.prog 111 #[s.v,.string b] w fun v w'=>Ext No w w'∧(v = .int .i64 (cS s b)):=by
 refine aA (vs:=[s.v,.string b]) func111 Z ntmps111 Z (fun Q hQ hN=>?_);have H0:=Sep.start (w:=w) (F:=[]) (by simp);refine ab (aV (wn Z) Z Z H0 (fun b1 w1 e1 g1 H1=>sA Z Z (aa (ab (sA Z Z (aa (ac (ab (sM Z Z (sV Z (ia tu9 Z) (sM Z Z (aa (ai (aM (γ:=Nat) (fun k=>[(1,.string b),(2,.pointer (some ⟨b1,0,none⟩)),(5,.int .i64 (kG b k)),(8,.int .i64 b.size),(9,.int .i64 k)]) (fun k w'=>Sep No w [box b1 (.cells (Shape.v s).cells 30)] [] w'∧k≤b.size) (fun k=>b.size-k) 0 ⟨Z,Z,Z,Z,Z,trivial⟩ ⟨H1,by omega⟩ (fun k w2 H2=>?_)))))))))))))));obtain ⟨H2,hk⟩:=H2;refine ab (sV Z (aI Z Z) (aa (ac (au Z (fun c1=>?_) (fun c1=>?_)))))
 ·refine ag (ac (ai (ab (sR 2 Z (aa ?_)))));have sb:=la (b:=b) k;have gb:=(gB b k).toNat_lt;refine aj (sR 3 Z (sV Z (d9 tu9 Z Z k (by omega) (by omega)) (sV Z (fc tu5 tu2 Z iO) (sV Z (aw Z Z iO) (sA Z Z (aa (aj (sV Z (aw Z Z iO) (sM Z Z (aa (⟨k+1,⟨Z,Z,Z,Z,Z,trivial⟩,⟨H2,by omega⟩,by dsimp only; omega⟩)))))))))))
 ·refine aD (ac ?_);obtain rfl:k=b.size:=by omega
  refine aj (sM Z Z (sF be Z ts2 (sLd tu2 (H2.box 0 Z) Z (sV Z (oB Z Z (by omega)) (rA hQ results111 Z ?_)))));exact ⟨H2.ext,Z⟩
theorem dj {w:World}{s:Shape}(hs:s.ok=true):Ret Tryz.prog 187 #[s.v] w fun v w'=>Ext No w w'∧(v = .int .i64 (s.Groups+s.Column)):=by
 have sbd:=bi hs;refine aA (vs:=[s.v]) func187 Z ntmps187 Z (fun Q hQ hN=>?_);have H0:=Sep.start (w:=w) (F:=[]) (by simp);refine ab (aV (wn Z) Z Z H0 (fun b1 w1 e1 g1 H1=>sA Z Z (aa (ab (sF be Z ts2 (sLd tu2 (H1.box 0 Z) Z (sF be Z ts2 (sLd tu2 (H1.box 0 Z) Z (sV Z (aw Z Z iO) (rA hQ results187 Z ?_))))))))));exact ⟨H1.ext,Z⟩
theorem dA {w:World}{s:Shape}(hs:s.ok=true):Ret Tryz.prog 136 #[s.v] w fun v w'=>Ext No w w'∧(v = .int .i64 (s.Groups+s.Column)):=by
 have sbd:=bi hs;refine aA (vs:=[s.v]) func136 Z ntmps136 Z (fun Q hQ hN=>?_);have H0:=Sep.start (w:=w) (F:=[]) (by simp);refine ab (aV (wn Z) Z Z H0 (fun b1 w1 e1 g1 H1=>sA Z Z (aa (ab (sF be Z ts2 (sLd tu2 (H1.box 0 Z) Z (sF be Z ts2 (sLd tu2 (H1.box 0 Z) Z (sV Z (aw Z Z iO) (rA hQ results136 Z ?_))))))))));exact ⟨H1.ext,Z⟩
theorem cO {w:World}{s:Shape}{x:Int}(hs:s.ok=true):Ret Tryz.prog 131 #[s.v,.int .i64 x] w fun v w'=>Ext No w w'∧(v = .bool (ins x 0 (s.Groups+s.Column-1))):=by
 have sbd:=bi hs;refine aA (vs:=[s.v,.int .i64 x]) func131 Z ntmps131 Z (fun Q hQ hN=>?_);have H0:=Sep.start (w:=w) (F:=[]) (by simp);refine ab (aV (wn Z) Z Z H0 (fun b1 w1 e1 g1 H1=>sA Z Z (aa (ab (sM Z Z (sV Z (an be Z bV Z Z (At.whole (H1.box 0 Z))) (sE func136 ko Z (dA (by assumption)) H1 (fun w2 e2 H2=>sV Z (bm Z Z iO) (sE func130 bU Z aU H2 (fun w3 e3 H3=>rA hQ results131 Z ?_))))))))));exact ⟨H3.ext,Z⟩
theorem oi {w:World}{s:Shape}  : Ret Tryz.prog 81 #[s.v] w fun v w'=>Ext No w w'∧(v=s.v):=by
 refine aA (vs:=[s.v]) func81 Z ntmps81 Z (fun Q hQ hN=>?_);have H0:=Sep.start (w:=w) (F:=[]) (by simp);refine ab (aV (wn Z) Z Z H0 (fun b1 w1 e1 g1 H1=>cI (wn Z) Z zeroValue30 H1 (fun b2 w2 e2 g2 H2=>aa (ab (cI (wn Z) Z zeroValue30 H2 (fun b3 w3 e3 g3 H3=>aa (ab (sF sa Z ts2 (sLd tu2 (H3.box 0 Z) Z (sF be Z ts2 (cl (wn Z) ts2 Z Z Z H3 2 Z Z (fun w4 e4 H4=>?_))))))))))));dsimp only[lNA,lCA,lSZ,lSS,bk] at H4;refine aa (ab (sF sa Z ts2 (sLd tu2 (H4.box 0 Z) Z (sF be Z ts2 (cl (wn Z) ts2 Z Z Z H4 2 Z Z (fun w5 e5 H5=>?_))))));dsimp only[lNA,lCA,lSZ,lSS,bk] at H5;refine aa (ab (sF sa Z ts2 (sLd tu2 (H5.box 0 Z) Z (sF be Z ts2 (cl (wn Z) ts2 Z Z Z H5 2 Z Z (fun w6 e6 H6=>?_))))));dsimp only[lNA,lCA,lSZ,lSS,bk] at H6;refine aa (ab (sF sa Z ts2 (sLd tu2 (H6.box 0 Z) Z (sF be Z ts2 (cl (wn Z) ts2 Z Z Z H6 2 Z Z (fun w7 e7 H7=>?_))))));dsimp only[lNA,lCA,lSZ,lSS,bk] at H7;refine aa (ab (sF sa Z ts2 (sLd tu2 (H7.box 0 Z) Z (sF be Z ts2 (cl (wn Z) ts2 Z Z Z H7 2 Z Z (fun w8 e8 H8=>?_))))));dsimp only[lNA,lCA,lSZ,lSS,bk] at H8;refine aa (ab (sF sa Z ts2 (sLd tu2 (H8.box 0 Z) Z (sF be Z ts2 (cl (wn Z) ts2 Z Z Z H8 2 Z Z (fun w9 e9 H9=>?_))))));dsimp only[lNA,lCA,lSZ,lSS,bk] at H9;refine aa (ab (sF sa Z ts2 (sLd tu2 (H9.box 0 Z) Z (sF be Z ts2 (cl (wn Z) ts2 Z Z Z H9 2 Z Z (fun w10 e10 H10=>?_))))));dsimp only[lNA,lCA,lSZ,lSS,bk] at H10;refine aa (ab (sF sa Z ts2 (sLd tu2 (H10.box 0 Z) Z (sF be Z ts2 (cl (wn Z) ts2 Z Z Z H10 2 Z Z (fun w11 e11 H11=>?_))))));dsimp only[lNA,lCA,lSZ,lSS,bk] at H11;refine aa (ab (sF sa Z ts2 (sLd tu2 (H11.box 0 Z) Z (sF be Z ts2 (cl (wn Z) ts2 Z Z Z H11 2 Z Z (fun w12 e12 H12=>?_))))));dsimp only[lNA,lCA,lSZ,lSS,bk] at H12;refine aa (ab (sV Z (an be Z bV Z Z (At.whole (H12.box 2 Z))) (bE (wn Z) bV Z Z Z Z H12 1 Z Z (fun w13 e13 H13=>?_))));dsimp only[lNA,lCA,lSZ,lSS,bk] at H13;refine aa (cj (hQ _ _ (jz results81 Z (bh be Z bV Z (At.whole (H13.box 1 Z))) ?_)));exact ⟨H13.ext,Z⟩
end Go.Wk
namespace Go.Wk
open Go.Proofs Rp Go.Proofs.Tryz
set_option maxRecDepth 10000
theorem nS {w:World}{s t:Shape}  : Ret Tryz.prog 90 #[s.v,t.v] w fun v w'=>Ext No w w'∧(v = .bool (decide (s=t))):=by
 refine aA (vs:=[s.v,t.v]) func90 Z ntmps90 Z (fun Q hQ hN=>?_);have H0:=Sep.start (w:=w) (F:=[]) (by simp);refine ab (aV (wn Z) Z Z H0 (fun b1 w1 e1 g1 H1=>aV (wn Z) Z Z H1 (fun b2 w2 e2 g2 H2=>sA Z Z (aa (ac (ab (sF be Z ts2 (sLd tu2 (H2.box 0 Z) Z (sF be Z ts2 (sLd tu2 (H2.box 1 Z) Z (sV Z (bg Z Z) (aa (au Z (fun c1=>?_) (fun c1=>?_))))))))))))))
 ·refine ab (sA Z Z (aa (rT hQ results90 Z (⟨H2.ext,?_⟩))));rw [decide_eq_false (fun e=>by subst e; first | exact c1 rfl | simp at c1)]
 ·refine ag (ac (ab (sF be Z ts2 (sLd tu2 (H2.box 0 Z) Z (sF be Z ts2 (sLd tu2 (H2.box 1 Z) Z (sV Z (bg Z Z) (aa (au Z (fun c2=>?_) (fun c2=>?_))))))))))
  ·refine ab (sA Z Z (aa (rT hQ results90 Z (⟨H2.ext,?_⟩))));rw [decide_eq_false (fun e=>by subst e; first | exact c2 rfl | simp at c2)]
  ·refine ag (ac (ab (sF be Z ts2 (sLd tu2 (H2.box 0 Z) Z (sF be Z ts2 (sLd tu2 (H2.box 1 Z) Z (sV Z (bg Z Z) (aa (au Z (fun c3=>?_) (fun c3=>?_))))))))))
   ·refine ab (sA Z Z (aa (rT hQ results90 Z (⟨H2.ext,?_⟩))));rw [decide_eq_false (fun e=>by subst e; first | exact c3 rfl | simp at c3)]
   ·refine ag (ac (ab (sF be Z ts2 (sLd tu2 (H2.box 0 Z) Z (sF be Z ts2 (sLd tu2 (H2.box 1 Z) Z (sV Z (bg Z Z) (aa (au Z (fun c4=>?_) (fun c4=>?_))))))))))
    ·refine ab (sA Z Z (aa (rT hQ results90 Z (⟨H2.ext,?_⟩))));rw [decide_eq_false (fun e=>by subst e; first | exact c4 rfl | simp at c4)]
    ·refine ag (ac (ab (sF be Z ts2 (sLd tu2 (H2.box 0 Z) Z (sF be Z ts2 (sLd tu2 (H2.box 1 Z) Z (sV Z (bg Z Z) (aa (au Z (fun c5=>?_) (fun c5=>?_))))))))))
     ·refine ab (sA Z Z (aa (rT hQ results90 Z (⟨H2.ext,?_⟩))));rw [decide_eq_false (fun e=>by subst e; first | exact c5 rfl | simp at c5)]
     ·refine ag (ac (ab (sF be Z ts2 (sLd tu2 (H2.box 0 Z) Z (sF be Z ts2 (sLd tu2 (H2.box 1 Z) Z (sV Z (bg Z Z) (aa (au Z (fun c6=>?_) (fun c6=>?_))))))))))
      ·refine ab (sA Z Z (aa (rT hQ results90 Z (⟨H2.ext,?_⟩))));rw [decide_eq_false (fun e=>by subst e; first | exact c6 rfl | simp at c6)]
      ·refine ag (ac (ab (sF be Z ts2 (sLd tu2 (H2.box 0 Z) Z (sF be Z ts2 (sLd tu2 (H2.box 1 Z) Z (sV Z (bg Z Z) (aa (au Z (fun c7=>?_) (fun c7=>?_))))))))))
       ·refine ab (sA Z Z (aa (rT hQ results90 Z (⟨H2.ext,?_⟩))));rw [decide_eq_false (fun e=>by subst e; first | exact c7 rfl | simp at c7)]
       ·refine ag (ac (ab (sF be Z ts2 (sLd tu2 (H2.box 0 Z) Z (sF be Z ts2 (sLd tu2 (H2.box 1 Z) Z (sV Z (bg Z Z) (aa (au Z (fun c8=>?_) (fun c8=>?_))))))))))
        ·refine ab (sA Z Z (aa (rT hQ results90 Z (⟨H2.ext,?_⟩))));rw [decide_eq_false (fun e=>by subst e; first | exact c8 rfl | simp at c8)]
        ·refine ag (ac (ab (sF be Z ts2 (sLd tu2 (H2.box 0 Z) Z (sF be Z ts2 (sLd tu2 (H2.box 1 Z) Z (sV Z (bg Z Z) (aa (au Z (fun c9=>?_) (fun c9=>?_))))))))))
         ·refine ab (sA Z Z (aa (rT hQ results90 Z (⟨H2.ext,?_⟩))));rw [decide_eq_false (fun e=>by subst e; first | exact c9 rfl | simp at c9)]
         ·refine ag (ab (sA Z Z (aa (rT hQ results90 Z (⟨H2.ext,?_⟩)))));rw [decide_eq_true];cases s; cases t; simp_all [ib]
theorem nF {w:World}{x:Block}{xA1:Option Addr}{xC1:Nat}{l:Int}(xK:x.Ok) (xS1:Sees w [.slice xA1 x.Bytes.length xC1] x.Bytes) (hl : -1≤l∧l≤1048576):Ret Tryz.prog 429 #[x.val xA1 xC1,.int .i64 l] w fun v w'=>Ext No w w'∧(v = .int .i64 (if l-cy x<0 then -1 else l-cy x)):=by
 have xK2:=xK;unfold Block.Ok at xK2
 try unfold I64ok at xK2
 try unfold maxLen at xK2
 have xL1:=sL xS1;obtain ⟨xF1,xO1⟩:=xS1;refine aA (vs:=[x.val xA1 xC1,.int .i64 l]) func429 Z ntmps429 Z (fun Q hQ hN=>?_);have H0:=Sep.start (w:=w) (F:=[seen false [.slice xA1 x.Bytes.length xC1] x.Bytes xF1]) (ae xO1 (by simp));refine ab (aV (wn Z) Z Z H0 (fun b1 w1 e1 g1 H1=>sA Z Z (aa (ab (sF uA Z aW (sLd aH (H1.box 0 Z) Z (sM Z Z (sE func430 mY Z (fN (H1.sees 0 Z) (by omega)) H1 (fun w2 e2 H2=>sA Z Z (aa (ac (ab (sR 2 Z (aa (au Z (fun c1=>?_) (fun c1=>?_))))))))))))))))
 ·refine ab (rA hQ results429 Z ?_);exact ⟨H2.ext,congrArg (Value.int .i64) (by unfold cy; omega)⟩
 ·refine ag (ab (sR 2 Z (rN hQ results429 Z ?_)));exact ⟨H2.ext,congrArg (Value.int .i64) (by unfold cy; omega)⟩
theorem ne {w:World}{x:Block}{xA1:Option Addr}{xC1:Nat}(xK:x.Ok) (xS1:Sees w [.slice xA1 x.Bytes.length xC1] x.Bytes) (hb:cy x≤1048576):Ret Tryz.prog 431 #[x.val xA1 xC1] w fun v w'=>Ext No w w'∧(∃ A1 C1,v=x.val A1 C1∧Res w w' [.int .i64 x.Stamp,.slice A1 x.Bytes.length C1] x):=by
 have xK2:=xK;unfold Block.Ok at xK2
 try unfold I64ok at xK2
 try unfold maxLen at xK2
 have xL1:=sL xS1;obtain ⟨xF1,xO1⟩:=xS1;unfold cy at hb;refine aA (vs:=[x.val xA1 xC1]) func431 Z ntmps431 Z (fun Q hQ hN=>?_);have H0:=Sep.start (w:=w) (F:=[seen false [.slice xA1 x.Bytes.length xC1] x.Bytes xF1]) (ae xO1 (by simp));refine ab (aV (wn Z) Z Z H0 (fun b1 w1 e1 g1 H1=>cI (wn Z) Z zeroValue64 H1 (fun b2 w2 e2 g2 H2=>aa (ab (cI (wn Z) Z zeroValue64 H2 (fun b3 w3 e3 g3 H3=>aa (ab (sF uA Z ts2 (sLd tu2 (H3.box 0 Z) Z (sF jC Z ts2 (cl (wn Z) ts2 Z Z Z H3 2 Z Z (fun w4 e4 H4=>?_))))))))))));dsimp only[lNA,lCA,lSZ,lSS,bk] at H4;refine aa (ab (sF uA Z aW (sLd aH (H4.box 0 Z) Z (sC func432 mg Z (fK (H4.sees 0 Z) (by omega)) (fun v1 w5 r1=>?_)))));obtain ⟨e5,r1⟩:=r1;obtain ⟨fp1,H5⟩:=H4.res e5 r1;obtain ⟨a1,k1,q1⟩:=aB (H5.mine 3 Z);cases q1;refine sF jC Z aW (cl (wn Z) aW Z Z Z H5 2 Z Z (fun w6 e6 H6=>?_));dsimp only[lNA,lCA,lSZ,lSS,bk] at H6;refine aa (ab (sV Z (an jC Z kO Z Z (At.whole (H6.box 2 Z))) (bE (wn Z) kO Z Z Z Z H6 1 Z Z (fun w7 e7 H7=>?_))));dsimp only[lNA,lCA,lSZ,lSS,bk] at H7;refine aa (cj (hQ _ _ (jz results431 Z (bh jC Z kO Z (At.whole (H7.box 1 Z))) ?_)));exact ⟨H7.ext,_,_,Z,Block.out (H7.sub (.cons _ (.cons _ (.cons _ (.cons_cons _ List.Sublist.slnil))))) xK⟩
theorem nt {w:World}{a:Block}{aA1:Option Addr}{aC1:Nat}{b:Block}{bA1:Option Addr}{bC1:Nat}(aK:a.Ok) (aS1:Sees w [.slice aA1 a.Bytes.length aC1] a.Bytes) (bK:b.Ok) (bS1:Sees w [.slice bA1 b.Bytes.length bC1] b.Bytes):Ret Tryz.prog 438 #[a.val aA1 aC1,b.val bA1 bC1] w fun v w'=>Ext No w w'∧(v = .bool (decide (a=b))):=by
 have aK2:=aK;unfold Block.Ok at aK2
 try unfold I64ok at aK2
 try unfold maxLen at aK2
 have aL1:=sL aS1;obtain ⟨aF1,aO1⟩:=aS1;have bK2:=bK;unfold Block.Ok at bK2
 try unfold I64ok at bK2
 try unfold maxLen at bK2
 have bL1:=sL bS1;obtain ⟨bF1,bO1⟩:=bS1;refine aA (vs:=[a.val aA1 aC1,b.val bA1 bC1]) func438 Z ntmps438 Z (fun Q hQ hN=>?_);have H0:=Sep.start (w:=w) (F:=[seen false [.slice aA1 a.Bytes.length aC1] a.Bytes aF1,seen false [.slice bA1 b.Bytes.length bC1] b.Bytes bF1]) (ae aO1 (ae bO1 (by simp)));refine ab (aV (wn Z) Z Z H0 (fun b1 w1 e1 g1 H1=>aV (wn Z) Z Z H1 (fun b2 w2 e2 g2 H2=>sA Z Z (aa (ac (ab (sF jC Z ts2 (sLd tu2 (H2.box 0 Z) Z (sF jC Z ts2 (sLd tu2 (H2.box 1 Z) Z (sV Z (bg Z Z) (aa (au Z (fun c1=>?_) (fun c1=>?_))))))))))))))
 ·refine ab (sA Z Z (aa (rT hQ results438 Z (⟨H2.ext,?_⟩))));rw [decide_eq_false (fun e=>by subst e; first | exact c1 rfl | simp at c1)]
 ·refine ag (ac (ab (sF jC Z aW (sLd aH (H2.box 0 Z) Z (sF jC Z aW (sLd aH (H2.box 1 Z) Z (sE func113 kv Z (ex (H2.sees 0 Z) (H2.sees 1 Z)) H2 (fun w3 e3 H3=>sV Z (aN Z) (aa (bz Z (fun c2=>?_) (fun c2=>?_)))))))))))
  ·refine ab (sA Z Z (aa (rT hQ results438 Z (⟨H3.ext,?_⟩))));rw [decide_eq_false (fun e=>by subst e; first | exact c2 rfl | simp at c2)]
  ·refine ag (ab (sA Z Z (aa (rT hQ results438 Z (⟨H3.ext,?_⟩)))));rw [decide_eq_true];cases a; cases b; simp_all [ib]
theorem m5 {w:World}{xs:List Block}{xsA:Option Addr}{xsC:Nat}{l:Int}(xsS:Sees w [.slice xsA xs.length xsC] xs) (hl : -1≤l∧l≤1048576):Ret Tryz.prog 379 #[.slice xsA xs.length xsC,.int .i64 l] w fun v w'=>Ext No w w'∧(v = .int .i64 (if l-szL cy xs<0 then -1 else l-szL cy xs)):=by
 have xsL:=sL xsS;obtain ⟨xsF,xsO⟩:=xsS;refine aA (vs:=[.slice xsA xs.length xsC,.int .i64 l]) func379 Z ntmps379 Z (fun Q hQ hN=>?_);have H0:=Sep.start (w:=w) (F:=[seen false [.slice xsA xs.length xsC] xs xsF]) (ae xsO (by simp));refine ab (sA Z Z (aa (ab (sR 2 Z (sV Z (ax py Z) (sV Z (bm Z Z iO) (sA Z Z (aa (ac (ab (sR 2 Z (aa (au Z (fun c1=>?_) (fun c1=>?_))))))))))))))
 ·refine ab (rA hQ results379 Z ?_);exact ⟨H0.ext,by rw [if_pos (by rw [fw (f:=cy)]; omega)]⟩
 ·refine ag (ac (ab (sA Z Z (aa (ai (aM (γ:=Nat × Int) (fun (k,m)=>[(0,.slice xsA xs.length xsC),(1,.int .i64 m),(5,.int .i64 k)]) (fun (k,m) w'=>Sep No w [] [seen false [.slice xsA xs.length xsC] xs xsF] w'∧k≤xs.length∧0≤m∧m=l-xs.length-bP (fun i=>cy (xs.getD i default)) k) (fun (k,m)=>xs.length-k) (0,_) ⟨Z,Z,Z,trivial⟩ ⟨H0,by omega,by omega,by simp only [bP]; omega⟩ (fun (k,m) w1 H1=>?_)))))));obtain ⟨H1,hk,hm,hs⟩:=H1;refine ac (ab (sR 2 Z (sV Z (ax py Z) (sV Z (aI Z Z) (aa (au Z (fun c2=>?_) (fun c2=>?_)))))))
  ·refine ag (ac (ai (ac ?_)));obtain ⟨eb1,eo1,es1,ef1,ee1,ec1,eO1,eH1,em1⟩:=bf (H1.seen 0 Z) k (by omega);obtain ⟨ea1,ek1,eg1,rfl,eq1,eK1,eo2⟩:=eP eO1;have eK1U:=eK1;unfold Block.Ok at eK1U
   try unfold I64ok at eK1U
   try unfold maxLen at eK1U
   have eP1:=H1.look1 0 Z eo2 (fun b hb=>eH1 b (by rw [eq1]; simp [hb]));have eL1:=oL eo2;refine aj (sR 2 Z (sV Z (ao py zR Z Z ee1 k (by omega) (by omega)) (sV Z (an uA Z zR Z Z ec1) (sM Z Z (sE func429 ym Z (nF (by assumption) (eP1.sees 1 Z) (by omega)) eP1 (fun w2 e1 H2=>sA Z Z (aa (ab (sR 2 Z (aa (au Z (fun c3=>?_) (fun c3=>?_))))))))))))
   ·refine ab (rA hQ results379 Z ?_);have sg:bP (fun i=>cy (xs.getD i default)) (k+1)=bP (fun i=>cy (xs.getD i default)) k+cy (xs.getD k default):=Z;have sl:=ie (f:=(fun i=>cy (xs.getD i default))) (j:=k+1) (k:=xs.length) (by omega);exact ⟨H2.ext,by rw [if_pos (by rw [fw (f:=cy)]; omega)]⟩
   ·refine ag (aj (sM Z Z (sV Z (aw Z Z iO) (sA Z Z (aa ?_)))));have sg:bP (fun i=>cy (xs.getD i default)) (k+1)=bP (fun i=>cy (xs.getD i default)) k+cy (xs.getD k default):=Z;refine ⟨(k+1,_),⟨Z,Z,Z,trivial⟩,⟨(H2.ftake 1),by omega,by omega,by omega⟩,by dsimp only; omega⟩
  ·refine aD (ab (sR 2 Z (rN hQ results379 Z ?_)));obtain rfl:k=xs.length:=by omega
   exact ⟨H1.ext,congrArg (Value.int .i64) (by rw [fw (f:=cy)]; omega)⟩
theorem mK {w:World}{xs:List Block}{xsA:Option Addr}{xsC:Nat}(xsS:Sees w [.slice xsA xs.length xsC] xs) (hl:szL cy xs≤1048576):Ret Tryz.prog 381 #[.slice xsA xs.length xsC] w fun v w'=>Ext No w w'∧(Res w w' [v] xs):=by
 have xsL:=sL xsS;obtain ⟨xsF,xsO⟩:=xsS;have hl0:xs.length≤1048576:=by unfold szL at hl; omega
 refine aA (vs:=[.slice xsA xs.length xsC]) func381 Z ntmps381 Z (fun Q hQ hN=>?_);have H0:=Sep.start (w:=w) (F:=[seen false [.slice xsA xs.length xsC] xs xsF]) (ae xsO (by simp));refine ab (sA Z Z (aa (ab (sM Z Z (sV Z (ax py Z) (fq (wn Z) Z gt Bj (show ∀ w,own true w (Value.agg #[.int .i64 0,.slice none 0 0]).cells.toList (default:Block) [] from fun _=>y0) Z (by omega) (by unfold maxLen; omega) H0 (fun b1 w1 e1 g1 H1=>sA Z Z (aa (ac (ab (sA Z Z (aa (ai (aM (γ:=Nat × List Nat) (fun (k,fp)=>[(0,.slice xsA xs.length xsC),(3,.slice (some ⟨b1,0,none⟩) xs.length xs.length),(4,.int .i64 k)]) (fun (k,fp) w'=>Sep No w [mine [.slice (some ⟨b1,0,none⟩) xs.length xs.length] (cp xs k default) fp] [seen false [.slice xsA xs.length xsC] xs xsF] w'∧k≤xs.length) (fun (k,fp)=>xs.length-k) (0,[b1]) ⟨Z,Z,Z,trivial⟩ ⟨jH ▸ H1,by omega⟩ (fun (k,fp) w2 H2=>?_)))))))))))))));obtain ⟨H2,hk⟩:=H2;refine ac (ab (sR 2 Z (sV Z (ax py Z) (sV Z (aI Z Z) (aa (au Z (fun c1=>?_) (fun c1=>?_)))))))
 ·refine ag (ac (ai ?_));obtain ⟨hg,hg2⟩:=ff hl k (by omega);obtain ⟨eb1,eo1,es1,ef1,ee1,ec1,eO1,eH1,em1⟩:=bf (H2.seen 0 Z) k (by omega);obtain ⟨ea1,ek1,eg1,rfl,eq1,eK1,eo2⟩:=eP eO1;have eK1U:=eK1;unfold Block.Ok at eK1U
  try unfold I64ok at eK1U
  try unfold maxLen at eK1U
  have eP1:=H2.look1 0 Z eo2 (fun b hb=>eH1 b (by rw [eq1]; simp [hb]));have eL1:=oL eo2;obtain ⟨eb2,eo3,ee2⟩:=dJ (eP1.mine 0 Z) k (by rw [fR (xs:=xs) (k:=k) (by omega)]; omega);refine aj (sR 4 Z (sV Z (ao py zR Z Z ee1 k (by omega) (by omega)) (sV Z (an uA Z zR Z Z ec1) (sC func431 yo Z (ne (by assumption) (eP1.sees 1 Z) (by assumption)) (fun v1 w3 r1=>?_)))));obtain ⟨e2,sa1,sk1,rfl,r1⟩:=r1;obtain ⟨fp1,H3⟩:=eP1.res e2 r1;refine sV Z (ao gt kO Z Z ee2 k (by omega) (by omega)) (og (wn Z) kO H3 0 1 Z Z Z k (by rw [fR (xs:=xs) (k:=k) (by omega)]; omega) Z ee2 Z (fun w4 fp2 H4=>aa ?_));obtain ⟨hg,hg2⟩:=ff hl k (by omega);refine aj (sM Z Z (sV Z (aw Z Z iO) (sA Z Z (aa (⟨(k+1,_),⟨Z,Z,Z,trivial⟩,⟨mq (xs:=xs) (k:=k) (d:=default) (by omega) ▸ ((H4.ftake 1).dtake 1),by omega⟩,by dsimp only; omega⟩)))))
 ·refine aD (ab (sR 2 Z (rN hQ results381 Z ?_)));obtain rfl:k=xs.length:=by omega
  exact ⟨H2.ext,by
   have h:=H2.out 0 Z
   rwa [nb] at h⟩
theorem mu {w:World}{xs:List Block}{xsA:Option Addr}{xsC:Nat}{ys:List Block}{ysA:Option Addr}{ysC:Nat}(xsS:Sees w [.slice xsA xs.length xsC] xs) (ysS:Sees w [.slice ysA ys.length ysC] ys):Ret Tryz.prog 395 #[.slice xsA xs.length xsC,.slice ysA ys.length ysC] w fun v w'=>Ext No w w'∧(v = .bool (decide (xs=ys))):=by
 have xsL:=sL xsS;obtain ⟨xsF,xsO⟩:=xsS;have ysL:=sL ysS;obtain ⟨ysF,ysO⟩:=ysS;refine aA (vs:=[.slice xsA xs.length xsC,.slice ysA ys.length ysC]) func395 Z ntmps395 Z (fun Q hQ hN=>?_);have H0:=Sep.start (w:=w) (F:=[seen false [.slice xsA xs.length xsC] xs xsF,seen false [.slice ysA ys.length ysC] ys ysF]) (ae xsO (ae ysO (by simp)));refine ab (sA Z Z (aa (ac (ab (sM Z Z (sV Z (ax gt Z) (sM Z Z (sV Z (ax gt Z) (sV Z (bg Z Z) (aa (au Z (fun c1=>?_) (fun c1=>?_))))))))))))
 ·refine ab (sA Z Z (aa (rT hQ results395 Z (⟨H0.ext,?_⟩))));rw [decide_eq_false (fun e=>by subst e; exact c1 rfl)]
 ·refine ag (ac (ab (sA Z Z (aa (ai (aM (γ:=Nat) (fun k=>[(0,.slice xsA xs.length xsC),(1,.slice ysA ys.length ysC),(5,.int .i64 k)]) (fun k w'=>Sep No w [] [seen false [.slice xsA xs.length xsC] xs xsF,seen false [.slice ysA ys.length ysC] ys ysF] w'∧k≤xs.length∧(∀ i,i<k→xs.getD i default=ys.getD i default)) (fun k=>xs.length-k) 0 ⟨Z,Z,Z,trivial⟩ ⟨H0,by omega,fun i hi=>by omega⟩ (fun k w1 H1=>?_)))))));obtain ⟨H1,hk,he⟩:=H1;refine ac (ab (sR 2 Z (sV Z (ax gt Z) (sV Z (aI Z Z) (aa (au Z (fun c2=>?_) (fun c2=>?_)))))))
  ·refine ag (ac (ai (ac ?_)));obtain ⟨eb1,eo1,es1,ef1,ee1,ec1,eO1,eH1,em1⟩:=bf (H1.seen 0 Z) k (by omega);obtain ⟨ea1,ek1,eg1,rfl,eq1,eK1,eo2⟩:=eP eO1;have eK1U:=eK1;unfold Block.Ok at eK1U
   try unfold I64ok at eK1U
   try unfold maxLen at eK1U
   have eP1:=H1.look1 0 Z eo2 (fun b hb=>eH1 b (by rw [eq1]; simp [hb]));have eL1:=oL eo2;obtain ⟨eb2,eo3,es2,ef2,ee2,ec2,eO2,eH2,em2⟩:=bf (eP1.seen 1 Z) k (by omega);obtain ⟨ea2,ek2,eg2,rfl,eq2,eK2,eo4⟩:=eP eO2;have eK2U:=eK2;unfold Block.Ok at eK2U
   try unfold I64ok at eK2U
   try unfold maxLen at eK2U
   have eP2:=eP1.look1 1 Z eo4 (fun b hb=>eH2 b (by rw [eq2]; simp [hb]));have eL2:=oL eo4;refine bv (S:=Ext No _) (oQ [1,3,5,7,9,11,13,15,16,18]) (by kernel_rfl) (by kernel_rfl) (by kernel_rfl) Z (fun _=>Ext.refl.drawn _) (fun q1=>?_);have H2:=eP2.drawn q1;refine dR 2 Z (dV Z Z (fun zw hx=>ao gt kO Z Z ee1 k (by omega) (by omega)) (dV Z Z (fun zw hx=>an jC Z kO Z Z (hx.at ec1)) (dR 2 Z (dV Z Z (fun zw hx=>ao gt kO Z Z ee2 k (by omega) (by omega)) (dV Z Z (fun zw hx=>an jC Z kO Z Z (hx.at ec2)) (dC func438 yy Z (nt (by assumption) (H2.sees 2 Z) (by assumption) (H2.sees 3 Z)) (fun v1 w2 r1=>?_)))))));obtain ⟨e1,rfl⟩:=r1;have H3:=H2.to e1;refine aQ Z (wn Z) Z Z (aN Z) (aP (bz Z (fun c3=>?_) (fun c3=>?_)))
   ·refine ab (sA Z Z (aa (rT hQ results395 Z (⟨H3.ext,?_⟩))));rw [decide_eq_false (fun e=>by subst e; simp at c3)]
   ·refine ag (aj (sM Z Z (sV Z (aw Z Z iO) (sA Z Z (aa ?_)))));have c4:xs.getD k default=ys.getD k default:=by simpa using c3
    refine ⟨k+1,⟨Z,Z,Z,trivial⟩,⟨(H3.ftake 2),by omega,fun i hi=>?_⟩,by dsimp only; omega⟩
    by_cases e:i=k
    ·subst e; exact c4
    ·exact he i (by omega)
  ·refine aD (ab (sA Z Z (aa (rT hQ results395 Z (⟨H1.ext,?_⟩)))));rw [decide_eq_true (cJ (d:=default) (by omega) fun i hi=>he i (by omega))]
theorem ny {w:World}{x:Drive}{xA1:Option Addr}{xC1:Nat}{l:Int}(xK:x.Ok) (xS1:Sees w [.slice xA1 x.Blocks.length xC1] x.Blocks) (hl : -1≤l∧l≤1048576):Ret Tryz.prog 306 #[x.val xA1 xC1,.int .i64 l] w fun v w'=>Ext No w w'∧(v = .int .i64 (if l-bw x<0 then -1 else l-bw x)):=by
 have xK2:=xK;unfold Drive.Ok at xK2
 try unfold I64ok at xK2
 try unfold maxLen at xK2
 have xL1:=sL xS1;obtain ⟨xF1,xO1⟩:=xS1;refine aA (vs:=[x.val xA1 xC1,.int .i64 l]) func306 Z ntmps306 Z (fun Q hQ hN=>?_);have H0:=Sep.start (w:=w) (F:=[seen false [.slice xA1 x.Blocks.length xC1] x.Blocks xF1]) (ae xO1 (by simp));refine ab (aV (wn Z) Z Z H0 (fun b1 w1 e1 g1 H1=>sA Z Z (aa (ab (sF vx Z D2 (sLd py (H1.box 0 Z) Z (sM Z Z (sE func379 xc Z (m5 (H1.sees 0 Z) (by omega)) H1 (fun w2 e2 H2=>sA Z Z (aa (ac (ab (sR 2 Z (aa (au Z (fun c1=>?_) (fun c1=>?_))))))))))))))))
 ·refine ab (rA hQ results306 Z ?_);exact ⟨H2.ext,congrArg (Value.int .i64) (by unfold bw; omega)⟩
 ·refine ag (ab (sR 2 Z (rN hQ results306 Z ?_)));exact ⟨H2.ext,congrArg (Value.int .i64) (by unfold bw; omega)⟩
theorem nO {w:World}{x:Drive}{xA1:Option Addr}{xC1:Nat}(xK:x.Ok) (xS1:Sees w [.slice xA1 x.Blocks.length xC1] x.Blocks) (hb:bw x≤1048576):Ret Tryz.prog 311 #[x.val xA1 xC1] w fun v w'=>Ext No w w'∧(∃ A1 C1,v=x.val A1 C1∧Res w w' [.bool x.Wiped,.slice A1 x.Blocks.length C1] x):=by
 have xK2:=xK;unfold Drive.Ok at xK2
 try unfold I64ok at xK2
 try unfold maxLen at xK2
 have xL1:=sL xS1;obtain ⟨xF1,xO1⟩:=xS1;unfold bw at hb;refine aA (vs:=[x.val xA1 xC1]) func311 Z ntmps311 Z (fun Q hQ hN=>?_);have H0:=Sep.start (w:=w) (F:=[seen false [.slice xA1 x.Blocks.length xC1] x.Blocks xF1]) (ae xO1 (by simp));refine ab (aV (wn Z) Z Z H0 (fun b1 w1 e1 g1 H1=>cI (wn Z) Z zeroValue62 H1 (fun b2 w2 e2 g2 H2=>aa (ab (cI (wn Z) Z zeroValue62 H2 (fun b3 w3 e3 g3 H3=>aa (ab (sF vx Z ts4 (sLd tu4 (H3.box 0 Z) Z (sF iC Z ts4 (cl (wn Z) ts4 Z Z Z H3 2 Z Z (fun w4 e4 H4=>?_))))))))))));dsimp only[lNA,lCA,lSZ,lSS,bk] at H4;refine aa (ab (sF vx Z D2 (sLd py (H4.box 0 Z) Z (sC func381 ze Z (mK (H4.sees 0 Z) (by first | assumption | omega)) (fun v1 w5 r1=>?_)))));obtain ⟨e5,r1⟩:=r1;obtain ⟨fp1,H5⟩:=H4.res e5 r1;obtain ⟨a1,k1,q1⟩:=aB (H5.mine 3 Z);cases q1;refine sF iC Z rX (cl (wn Z) rX Z Z Z H5 2 Z Z (fun w6 e6 H6=>?_));dsimp only[lNA,lCA,lSZ,lSS,bk] at H6;refine aa (ab (sV Z (an iC Z iy Z Z (At.whole (H6.box 2 Z))) (bE (wn Z) iy Z Z Z Z H6 1 Z Z (fun w7 e7 H7=>?_))));dsimp only[lNA,lCA,lSZ,lSS,bk] at H7;refine aa (cj (hQ _ _ (jz results311 Z (bh iC Z iy Z (At.whole (H7.box 1 Z))) ?_)));exact ⟨H7.ext,_,_,Z,Drive.out (H7.sub (.cons _ (.cons _ (.cons _ (.cons_cons _ List.Sublist.slnil))))) xK⟩
theorem ol {w:World}{a:Drive}{aA1:Option Addr}{aC1:Nat}{b:Drive}{bA1:Option Addr}{bC1:Nat}(aK:a.Ok) (aS1:Sees w [.slice aA1 a.Blocks.length aC1] a.Blocks) (bK:b.Ok) (bS1:Sees w [.slice bA1 b.Blocks.length bC1] b.Blocks):Ret Tryz.prog 317 #[a.val aA1 aC1,b.val bA1 bC1] w fun v w'=>Ext No w w'∧(v = .bool (decide (a=b))):=by
 have aK2:=aK;unfold Drive.Ok at aK2
 try unfold I64ok at aK2
 try unfold maxLen at aK2
 have aL1:=sL aS1;obtain ⟨aF1,aO1⟩:=aS1;have bK2:=bK;unfold Drive.Ok at bK2
 try unfold I64ok at bK2
 try unfold maxLen at bK2
 have bL1:=sL bS1;obtain ⟨bF1,bO1⟩:=bS1;refine aA (vs:=[a.val aA1 aC1,b.val bA1 bC1]) func317 Z ntmps317 Z (fun Q hQ hN=>?_);have H0:=Sep.start (w:=w) (F:=[seen false [.slice aA1 a.Blocks.length aC1] a.Blocks aF1,seen false [.slice bA1 b.Blocks.length bC1] b.Blocks bF1]) (ae aO1 (ae bO1 (by simp)));refine ab (aV (wn Z) Z Z H0 (fun b1 w1 e1 g1 H1=>aV (wn Z) Z Z H1 (fun b2 w2 e2 g2 H2=>sA Z Z (aa (ac (ab (sF iC Z ts4 (sLd tu4 (H2.box 0 Z) Z (sF iC Z ts4 (sLd tu4 (H2.box 1 Z) Z (sV Z (tO tu4 Z Z) (aa (bz Z (fun c1=>?_) (fun c1=>?_))))))))))))))
 ·refine ab (sA Z Z (aa (rT hQ results317 Z (⟨H2.ext,?_⟩))));rw [decide_eq_false (fun e=>by subst e; first | exact c1 rfl | simp at c1)]
 ·refine ag (ac (ab (sF iC Z rX (sLd gt (H2.box 0 Z) Z (sF iC Z rX (sLd gt (H2.box 1 Z) Z (sE func395 yN Z (mu (H2.sees 0 Z) (H2.sees 1 Z)) H2 (fun w3 e3 H3=>sV Z (aN Z) (aa (bz Z (fun c2=>?_) (fun c2=>?_)))))))))))
  ·refine ab (sA Z Z (aa (rT hQ results317 Z (⟨H3.ext,?_⟩))));rw [decide_eq_false (fun e=>by subst e; first | exact c2 rfl | simp at c2)]
  ·refine ag (ab (sA Z Z (aa (rT hQ results317 Z (⟨H3.ext,?_⟩)))));rw [decide_eq_true];cases a; cases b; simp_all [ib]
theorem mo {w:World}{xs:List Drive}{xsA:Option Addr}{xsC:Nat}{l:Int}(xsS:Sees w [.slice xsA xs.length xsC] xs) (hl : -1≤l∧l≤1048576):Ret Tryz.prog 181 #[.slice xsA xs.length xsC,.int .i64 l] w fun v w'=>Ext No w w'∧(v = .int .i64 (if l-szL bw xs<0 then -1 else l-szL bw xs)):=by
 have xsL:=sL xsS;obtain ⟨xsF,xsO⟩:=xsS;refine aA (vs:=[.slice xsA xs.length xsC,.int .i64 l]) func181 Z ntmps181 Z (fun Q hQ hN=>?_);have H0:=Sep.start (w:=w) (F:=[seen false [.slice xsA xs.length xsC] xs xsF]) (ae xsO (by simp));refine ab (sA Z Z (aa (ab (sR 2 Z (sV Z (ax pr Z) (sV Z (bm Z Z iO) (sA Z Z (aa (ac (ab (sR 2 Z (aa (au Z (fun c1=>?_) (fun c1=>?_))))))))))))))
 ·refine ab (rA hQ results181 Z ?_);exact ⟨H0.ext,by rw [if_pos (by rw [fw (f:=bw)]; omega)]⟩
 ·refine ag (ac (ab (sA Z Z (aa (ai (aM (γ:=Nat × Int) (fun (k,m)=>[(0,.slice xsA xs.length xsC),(1,.int .i64 m),(5,.int .i64 k)]) (fun (k,m) w'=>Sep No w [] [seen false [.slice xsA xs.length xsC] xs xsF] w'∧k≤xs.length∧0≤m∧m=l-xs.length-bP (fun i=>bw (xs.getD i default)) k) (fun (k,m)=>xs.length-k) (0,_) ⟨Z,Z,Z,trivial⟩ ⟨H0,by omega,by omega,by simp only [bP]; omega⟩ (fun (k,m) w1 H1=>?_)))))));obtain ⟨H1,hk,hm,hs⟩:=H1;refine ac (ab (sR 2 Z (sV Z (ax pr Z) (sV Z (aI Z Z) (aa (au Z (fun c2=>?_) (fun c2=>?_)))))))
  ·refine ag (ac (ai (ac ?_)));obtain ⟨eb1,eo1,es1,ef1,ee1,ec1,eO1,eH1,em1⟩:=bf (H1.seen 0 Z) k (by omega);obtain ⟨ea1,ek1,eg1,rfl,eq1,eK1,eo2⟩:=dG eO1;have eP1:=H1.look1 0 Z eo2 (fun b hb=>eH1 b (by rw [eq1]; simp [hb]));have eL1:=oL eo2;refine aj (sR 2 Z (sV Z (ao pr zH Z Z ee1 k (by omega) (by omega)) (sV Z (an vx Z zH Z Z ec1) (sM Z Z (sE func306 yb Z (ny (by assumption) (eP1.sees 1 Z) (by omega)) eP1 (fun w2 e1 H2=>sA Z Z (aa (ab (sR 2 Z (aa (au Z (fun c3=>?_) (fun c3=>?_))))))))))))
   ·refine ab (rA hQ results181 Z ?_);have sg:bP (fun i=>bw (xs.getD i default)) (k+1)=bP (fun i=>bw (xs.getD i default)) k+bw (xs.getD k default):=Z;have sl:=ie (f:=(fun i=>bw (xs.getD i default))) (j:=k+1) (k:=xs.length) (by omega);exact ⟨H2.ext,by rw [if_pos (by rw [fw (f:=bw)]; omega)]⟩
   ·refine ag (aj (sM Z Z (sV Z (aw Z Z iO) (sA Z Z (aa ?_)))));have sg:bP (fun i=>bw (xs.getD i default)) (k+1)=bP (fun i=>bw (xs.getD i default)) k+bw (xs.getD k default):=Z;refine ⟨(k+1,_),⟨Z,Z,Z,trivial⟩,⟨(H2.ftake 1),by omega,by omega,by omega⟩,by dsimp only; omega⟩
  ·refine aD (ab (sR 2 Z (rN hQ results181 Z ?_)));obtain rfl:k=xs.length:=by omega
   exact ⟨H1.ext,congrArg (Value.int .i64) (by rw [fw (f:=bw)]; omega)⟩
theorem mT {w:World}{xs:List Drive}{xsA:Option Addr}{xsC:Nat}(xsS:Sees w [.slice xsA xs.length xsC] xs) (hl:szL bw xs≤1048576):Ret Tryz.prog 189 #[.slice xsA xs.length xsC] w fun v w'=>Ext No w w'∧(Res w w' [v] xs):=by
 have xsL:=sL xsS;obtain ⟨xsF,xsO⟩:=xsS;have hl0:xs.length≤1048576:=by unfold szL at hl; omega
 refine aA (vs:=[.slice xsA xs.length xsC]) func189 Z ntmps189 Z (fun Q hQ hN=>?_);have H0:=Sep.start (w:=w) (F:=[seen false [.slice xsA xs.length xsC] xs xsF]) (ae xsO (by simp));refine ab (sA Z Z (aa (ab (sM Z Z (sV Z (ax pr Z) (fq (wn Z) Z eI A5 (show ∀ w,own true w (Value.agg #[.bool false,.slice none 0 0]).cells.toList (default:Drive) [] from fun _=>xe) Z (by omega) (by unfold maxLen; omega) H0 (fun b1 w1 e1 g1 H1=>sA Z Z (aa (ac (ab (sA Z Z (aa (ai (aM (γ:=Nat × List Nat) (fun (k,fp)=>[(0,.slice xsA xs.length xsC),(3,.slice (some ⟨b1,0,none⟩) xs.length xs.length),(4,.int .i64 k)]) (fun (k,fp) w'=>Sep No w [mine [.slice (some ⟨b1,0,none⟩) xs.length xs.length] (cp xs k default) fp] [seen false [.slice xsA xs.length xsC] xs xsF] w'∧k≤xs.length) (fun (k,fp)=>xs.length-k) (0,[b1]) ⟨Z,Z,Z,trivial⟩ ⟨jH ▸ H1,by omega⟩ (fun (k,fp) w2 H2=>?_)))))))))))))));obtain ⟨H2,hk⟩:=H2;refine ac (ab (sR 2 Z (sV Z (ax pr Z) (sV Z (aI Z Z) (aa (au Z (fun c1=>?_) (fun c1=>?_)))))))
 ·refine ag (ac (ai ?_));obtain ⟨hg,hg2⟩:=ff hl k (by omega);obtain ⟨eb1,eo1,es1,ef1,ee1,ec1,eO1,eH1,em1⟩:=bf (H2.seen 0 Z) k (by omega);obtain ⟨ea1,ek1,eg1,rfl,eq1,eK1,eo2⟩:=dG eO1;have eP1:=H2.look1 0 Z eo2 (fun b hb=>eH1 b (by rw [eq1]; simp [hb]));have eL1:=oL eo2;obtain ⟨eb2,eo3,ee2⟩:=dJ (eP1.mine 0 Z) k (by rw [fR (xs:=xs) (k:=k) (by omega)]; omega);refine aj (sR 4 Z (sV Z (ao pr zH Z Z ee1 k (by omega) (by omega)) (sV Z (an vx Z zH Z Z ec1) (sC func311 wj Z (nO (by assumption) (eP1.sees 1 Z) (by assumption)) (fun v1 w3 r1=>?_)))));obtain ⟨e2,sa1,sk1,rfl,r1⟩:=r1;obtain ⟨fp1,H3⟩:=eP1.res e2 r1;refine sV Z (ao eI iy Z Z ee2 k (by omega) (by omega)) (og (wn Z) iy H3 0 1 Z Z Z k (by rw [fR (xs:=xs) (k:=k) (by omega)]; omega) Z ee2 Z (fun w4 fp2 H4=>aa ?_));obtain ⟨hg,hg2⟩:=ff hl k (by omega);refine aj (sM Z Z (sV Z (aw Z Z iO) (sA Z Z (aa (⟨(k+1,_),⟨Z,Z,Z,trivial⟩,⟨mq (xs:=xs) (k:=k) (d:=default) (by omega) ▸ ((H4.ftake 1).dtake 1),by omega⟩,by dsimp only; omega⟩)))))
 ·refine aD (ab (sR 2 Z (rN hQ results189 Z ?_)));obtain rfl:k=xs.length:=by omega
  exact ⟨H2.ext,by
   have h:=H2.out 0 Z
   rwa [nb] at h⟩
theorem mH {w:World}{xs:List Drive}{xsA:Option Addr}{xsC:Nat}{ys:List Drive}{ysA:Option Addr}{ysC:Nat}(xsS:Sees w [.slice xsA xs.length xsC] xs) (ysS:Sees w [.slice ysA ys.length ysC] ys):Ret Tryz.prog 199 #[.slice xsA xs.length xsC,.slice ysA ys.length ysC] w fun v w'=>Ext No w w'∧(v = .bool (decide (xs=ys))):=by
 have xsL:=sL xsS;obtain ⟨xsF,xsO⟩:=xsS;have ysL:=sL ysS;obtain ⟨ysF,ysO⟩:=ysS;refine aA (vs:=[.slice xsA xs.length xsC,.slice ysA ys.length ysC]) func199 Z ntmps199 Z (fun Q hQ hN=>?_);have H0:=Sep.start (w:=w) (F:=[seen false [.slice xsA xs.length xsC] xs xsF,seen false [.slice ysA ys.length ysC] ys ysF]) (ae xsO (ae ysO (by simp)));refine ab (sA Z Z (aa (ac (ab (sM Z Z (sV Z (ax eI Z) (sM Z Z (sV Z (ax eI Z) (sV Z (bg Z Z) (aa (au Z (fun c1=>?_) (fun c1=>?_))))))))))))
 ·refine ab (sA Z Z (aa (rT hQ results199 Z (⟨H0.ext,?_⟩))));rw [decide_eq_false (fun e=>by subst e; exact c1 rfl)]
 ·refine ag (ac (ab (sA Z Z (aa (ai (aM (γ:=Nat) (fun k=>[(0,.slice xsA xs.length xsC),(1,.slice ysA ys.length ysC),(5,.int .i64 k)]) (fun k w'=>Sep No w [] [seen false [.slice xsA xs.length xsC] xs xsF,seen false [.slice ysA ys.length ysC] ys ysF] w'∧k≤xs.length∧(∀ i,i<k→xs.getD i default=ys.getD i default)) (fun k=>xs.length-k) 0 ⟨Z,Z,Z,trivial⟩ ⟨H0,by omega,fun i hi=>by omega⟩ (fun k w1 H1=>?_)))))));obtain ⟨H1,hk,he⟩:=H1;refine ac (ab (sR 2 Z (sV Z (ax eI Z) (sV Z (aI Z Z) (aa (au Z (fun c2=>?_) (fun c2=>?_)))))))
  ·refine ag (ac (ai (ac ?_)));obtain ⟨eb1,eo1,es1,ef1,ee1,ec1,eO1,eH1,em1⟩:=bf (H1.seen 0 Z) k (by omega);obtain ⟨ea1,ek1,eg1,rfl,eq1,eK1,eo2⟩:=dG eO1;have eP1:=H1.look1 0 Z eo2 (fun b hb=>eH1 b (by rw [eq1]; simp [hb]));have eL1:=oL eo2;obtain ⟨eb2,eo3,es2,ef2,ee2,ec2,eO2,eH2,em2⟩:=bf (eP1.seen 1 Z) k (by omega);obtain ⟨ea2,ek2,eg2,rfl,eq2,eK2,eo4⟩:=dG eO2;have eP2:=eP1.look1 1 Z eo4 (fun b hb=>eH2 b (by rw [eq2]; simp [hb]));have eL2:=oL eo4;refine bv (S:=Ext No _) (oQ [1,3,5,7,9,11,13,15,16,18]) (by kernel_rfl) (by kernel_rfl) (by kernel_rfl) Z (fun _=>Ext.refl.drawn _) (fun q1=>?_);have H2:=eP2.drawn q1;refine dR 2 Z (dV Z Z (fun zw hx=>ao eI iy Z Z ee1 k (by omega) (by omega)) (dV Z Z (fun zw hx=>an iC Z iy Z Z (hx.at ec1)) (dR 2 Z (dV Z Z (fun zw hx=>ao eI iy Z Z ee2 k (by omega) (by omega)) (dV Z Z (fun zw hx=>an iC Z iy Z Z (hx.at ec2)) (dC func317 xO Z (ol (by assumption) (H2.sees 2 Z) (by assumption) (H2.sees 3 Z)) (fun v1 w2 r1=>?_)))))));obtain ⟨e1,rfl⟩:=r1;have H3:=H2.to e1;refine aQ Z (wn Z) Z Z (aN Z) (aP (bz Z (fun c3=>?_) (fun c3=>?_)))
   ·refine ab (sA Z Z (aa (rT hQ results199 Z (⟨H3.ext,?_⟩))));rw [decide_eq_false (fun e=>by subst e; simp at c3)]
   ·refine ag (aj (sM Z Z (sV Z (aw Z Z iO) (sA Z Z (aa ?_)))));have c4:xs.getD k default=ys.getD k default:=by simpa using c3
    refine ⟨k+1,⟨Z,Z,Z,trivial⟩,⟨(H3.ftake 2),by omega,fun i hi=>?_⟩,by dsimp only; omega⟩
    by_cases e:i=k
    ·subst e; exact c4
    ·exact he i (by omega)
  ·refine aD (ab (sA Z Z (aa (rT hQ results199 Z (⟨H1.ext,?_⟩)))));rw [decide_eq_true (cJ (d:=default) (by omega) fun i hi=>he i (by omega))]
theorem lW {w:World}{xs:List (List Drive)}{xsA:Option Addr}{xsC:Nat}{l:Int}(xsS:Sees w [.slice xsA xs.length xsC] xs) (hl : -1≤l∧l≤1048576):Ret Tryz.prog 74 #[.slice xsA xs.length xsC,.int .i64 l] w fun v w'=>Ext No w w'∧(v = .int .i64 (if l-szL (szL bw) xs<0 then -1 else l-szL (szL bw) xs)):=by
 have xsL:=sL xsS;obtain ⟨xsF,xsO⟩:=xsS;refine aA (vs:=[.slice xsA xs.length xsC,.int .i64 l]) func74 Z ntmps74 Z (fun Q hQ hN=>?_);have H0:=Sep.start (w:=w) (F:=[seen false [.slice xsA xs.length xsC] xs xsF]) (ae xsO (by simp));refine ab (sA Z Z (aa (ab (sR 2 Z (sV Z (ax vw Z) (sV Z (bm Z Z iO) (sA Z Z (aa (ac (ab (sR 2 Z (aa (au Z (fun c1=>?_) (fun c1=>?_))))))))))))))
 ·refine ab (rA hQ results74 Z ?_);exact ⟨H0.ext,by rw [if_pos (by rw [fw (f:=(szL bw))]; omega)]⟩
 ·refine ag (ac (ab (sA Z Z (aa (ai (aM (γ:=Nat × Int) (fun (k,m)=>[(0,.slice xsA xs.length xsC),(1,.int .i64 m),(5,.int .i64 k)]) (fun (k,m) w'=>Sep No w [] [seen false [.slice xsA xs.length xsC] xs xsF] w'∧k≤xs.length∧0≤m∧m=l-xs.length-bP (fun i=>(szL bw) (xs.getD i default)) k) (fun (k,m)=>xs.length-k) (0,_) ⟨Z,Z,Z,trivial⟩ ⟨H0,by omega,by omega,by simp only [bP]; omega⟩ (fun (k,m) w1 H1=>?_)))))));obtain ⟨H1,hk,hm,hs⟩:=H1;refine ac (ab (sR 2 Z (sV Z (ax vw Z) (sV Z (aI Z Z) (aa (au Z (fun c2=>?_) (fun c2=>?_)))))))
  ·refine ag (ac (ai (ac ?_)));obtain ⟨eb1,eo1,ea1,ek1,ef1,ee1,ec1,eO1,eH1⟩:=cE (H1.seen 0 Z) k (by omega);have eP1:=H1.look1 0 Z eO1 eH1;refine aj (sR 2 Z (sV Z (ao vw D0 Z Z ee1 k (by omega) (by omega)) (sV Z (ah pr Z Z ec1) (sM Z Z (sE func181 wW Z (mo (eP1.sees 1 Z) (by omega)) eP1 (fun w2 e1 H2=>sA Z Z (aa (ab (sR 2 Z (aa (au Z (fun c3=>?_) (fun c3=>?_))))))))))))
   ·refine ab (rA hQ results74 Z ?_);have sg:bP (fun i=>(szL bw) (xs.getD i default)) (k+1)=bP (fun i=>(szL bw) (xs.getD i default)) k+(szL bw) (xs.getD k []):=Z;have sl:=ie (f:=(fun i=>(szL bw) (xs.getD i default))) (j:=k+1) (k:=xs.length) (by omega);exact ⟨H2.ext,by rw [if_pos (by rw [fw (f:=(szL bw))]; omega)]⟩
   ·refine ag (aj (sM Z Z (sV Z (aw Z Z iO) (sA Z Z (aa ?_)))));have sg:bP (fun i=>(szL bw) (xs.getD i default)) (k+1)=bP (fun i=>(szL bw) (xs.getD i default)) k+(szL bw) (xs.getD k []):=Z;refine ⟨(k+1,_),⟨Z,Z,Z,trivial⟩,⟨(H2.ftake 1),by omega,by omega,by omega⟩,by dsimp only; omega⟩
  ·refine aD (ab (sR 2 Z (rN hQ results74 Z ?_)));obtain rfl:k=xs.length:=by omega
   exact ⟨H1.ext,congrArg (Value.int .i64) (by rw [fw (f:=(szL bw))]; omega)⟩
theorem lL {w:World}{xs:List (List Drive)}{xsA:Option Addr}{xsC:Nat}(xsS:Sees w [.slice xsA xs.length xsC] xs) (hl:szL (szL bw) xs≤1048576):Ret Tryz.prog 82 #[.slice xsA xs.length xsC] w fun v w'=>Ext No w w'∧(Res w w' [v] xs):=by
 have xsL:=sL xsS;obtain ⟨xsF,xsO⟩:=xsS;have hl0:xs.length≤1048576:=by unfold szL at hl; omega
 refine aA (vs:=[.slice xsA xs.length xsC]) func82 Z ntmps82 Z (fun Q hQ hN=>?_);have H0:=Sep.start (w:=w) (F:=[seen false [.slice xsA xs.length xsC] xs xsF]) (ae xsO (by simp));refine ab (sA Z Z (aa (ab (sM Z Z (sV Z (ax vw Z) (fq (wn Z) Z eo Ac (ur (α:=Drive)) Z (by omega) (by unfold maxLen; omega) H0 (fun b1 w1 e1 g1 H1=>sA Z Z (aa (ac (ab (sA Z Z (aa (ai (aM (γ:=Nat × List Nat) (fun (k,fp)=>[(0,.slice xsA xs.length xsC),(3,.slice (some ⟨b1,0,none⟩) xs.length xs.length),(4,.int .i64 k)]) (fun (k,fp) w'=>Sep No w [mine [.slice (some ⟨b1,0,none⟩) xs.length xs.length] (cp xs k []) fp] [seen false [.slice xsA xs.length xsC] xs xsF] w'∧k≤xs.length) (fun (k,fp)=>xs.length-k) (0,[b1]) ⟨Z,Z,Z,trivial⟩ ⟨jH ▸ H1,by omega⟩ (fun (k,fp) w2 H2=>?_)))))))))))))));obtain ⟨H2,hk⟩:=H2;refine ac (ab (sR 2 Z (sV Z (ax vw Z) (sV Z (aI Z Z) (aa (au Z (fun c1=>?_) (fun c1=>?_)))))))
 ·refine ag (ac (ai ?_));obtain ⟨hg,hg2⟩:=ff hl k (by omega);obtain ⟨eb1,eo1,ea1,ek1,ef1,ee1,ec1,eO1,eH1⟩:=cE (H2.seen 0 Z) k (by omega);have eP1:=H2.look1 0 Z eO1 eH1;obtain ⟨eb2,eo2,ee2⟩:=dJ (eP1.mine 0 Z) k (by rw [fR (xs:=xs) (k:=k) (by omega)]; omega);refine aj (sR 4 Z (sV Z (ao vw D0 Z Z ee1 k (by omega) (by omega)) (sV Z (ah pr Z Z ec1) (sC func189 xQ Z (mT (eP1.sees 1 Z) (by first | assumption | omega)) (fun v1 w3 r1=>?_)))));obtain ⟨e2,r1⟩:=r1;obtain ⟨fp1,H3⟩:=eP1.res e2 r1;obtain ⟨a1,k1,q1⟩:=aB (H3.mine 1 Z);cases q1;refine sV Z (ao eo nj Z Z ee2 k (by omega) (by omega)) (Df (wn Z) nj Z H3 0 1 Z Z Z k (by rw [fR (xs:=xs) (k:=k) (by omega)]; omega) Z ee2 Z (fun w4 fp2 H4=>aa ?_));obtain ⟨hg,hg2⟩:=ff hl k (by omega);refine aj (sM Z Z (sV Z (aw Z Z iO) (sA Z Z (aa (⟨(k+1,_),⟨Z,Z,Z,trivial⟩,⟨mq (xs:=xs) (k:=k) (d:=[]) (by omega) ▸ ((H4.ftake 1).dtake 1),by omega⟩,by dsimp only; omega⟩)))))
 ·refine aD (ab (sR 2 Z (rN hQ results82 Z ?_)));obtain rfl:k=xs.length:=by omega
  exact ⟨H2.ext,by
   have h:=H2.out 0 Z
   rwa [nb] at h⟩
theorem lT {w:World}{xs:List (List Drive)}{xsA:Option Addr}{xsC:Nat}{ys:List (List Drive)}{ysA:Option Addr}{ysC:Nat}(xsS:Sees w [.slice xsA xs.length xsC] xs) (ysS:Sees w [.slice ysA ys.length ysC] ys):Ret Tryz.prog 91 #[.slice xsA xs.length xsC,.slice ysA ys.length ysC] w fun v w'=>Ext No w w'∧(v = .bool (decide (xs=ys))):=by
 have xsL:=sL xsS;obtain ⟨xsF,xsO⟩:=xsS;have ysL:=sL ysS;obtain ⟨ysF,ysO⟩:=ysS;refine aA (vs:=[.slice xsA xs.length xsC,.slice ysA ys.length ysC]) func91 Z ntmps91 Z (fun Q hQ hN=>?_);have H0:=Sep.start (w:=w) (F:=[seen false [.slice xsA xs.length xsC] xs xsF,seen false [.slice ysA ys.length ysC] ys ysF]) (ae xsO (ae ysO (by simp)));refine ab (sA Z Z (aa (ac (ab (sM Z Z (sV Z (ax eo Z) (sM Z Z (sV Z (ax eo Z) (sV Z (bg Z Z) (aa (au Z (fun c1=>?_) (fun c1=>?_))))))))))))
 ·refine ab (sA Z Z (aa (rT hQ results91 Z (⟨H0.ext,?_⟩))));rw [decide_eq_false (fun e=>by subst e; exact c1 rfl)]
 ·refine ag (ac (ab (sA Z Z (aa (ai (aM (γ:=Nat) (fun k=>[(0,.slice xsA xs.length xsC),(1,.slice ysA ys.length ysC),(5,.int .i64 k)]) (fun k w'=>Sep No w [] [seen false [.slice xsA xs.length xsC] xs xsF,seen false [.slice ysA ys.length ysC] ys ysF] w'∧k≤xs.length∧(∀ i,i<k→xs.getD i []=ys.getD i [])) (fun k=>xs.length-k) 0 ⟨Z,Z,Z,trivial⟩ ⟨H0,by omega,fun i hi=>by omega⟩ (fun k w1 H1=>?_)))))));obtain ⟨H1,hk,he⟩:=H1;refine ac (ab (sR 2 Z (sV Z (ax eo Z) (sV Z (aI Z Z) (aa (au Z (fun c2=>?_) (fun c2=>?_)))))))
  ·refine ag (ac (ai (ac ?_)));obtain ⟨eb1,eo1,ea1,ek1,ef1,ee1,ec1,eO1,eH1⟩:=cE (H1.seen 0 Z) k (by omega);have eP1:=H1.look1 0 Z eO1 eH1;obtain ⟨eb2,eo2,ea2,ek2,ef2,ee2,ec2,eO2,eH2⟩:=cE (eP1.seen 1 Z) k (by omega);have eP2:=eP1.look1 1 Z eO2 eH2;refine bv (S:=Ext No _) (oQ [1,3,5,7,9,11,13,15,16,18]) (by kernel_rfl) (by kernel_rfl) (by kernel_rfl) Z (fun _=>Ext.refl.drawn _) (fun q1=>?_);have H2:=eP2.drawn q1;refine dR 2 Z (dV Z Z (fun zw hx=>ao eo nj Z Z ee1 k (by omega) (by omega)) (dV Z Z (fun zw hx=>ah eI Z Z (hx.cell ec1)) (dR 2 Z (dV Z Z (fun zw hx=>ao eo nj Z Z ee2 k (by omega) (by omega)) (dV Z Z (fun zw hx=>ah eI Z Z (hx.cell ec2)) (dC func199 wz Z (mH (H2.sees 2 Z) (H2.sees 3 Z)) (fun v1 w2 r1=>?_)))))));obtain ⟨e1,rfl⟩:=r1;have H3:=H2.to e1;refine aQ Z (wn Z) Z Z (aN Z) (aP (bz Z (fun c3=>?_) (fun c3=>?_)))
   ·refine ab (sA Z Z (aa (rT hQ results91 Z (⟨H3.ext,?_⟩))));rw [decide_eq_false (fun e=>by subst e; simp at c3)]
   ·refine ag (aj (sM Z Z (sV Z (aw Z Z iO) (sA Z Z (aa ?_)))));have c4:xs.getD k []=ys.getD k []:=by simpa using c3
    refine ⟨k+1,⟨Z,Z,Z,trivial⟩,⟨(H3.ftake 2),by omega,fun i hi=>?_⟩,by dsimp only; omega⟩
    by_cases e:i=k
    ·subst e; exact c4
    ·exact he i (by omega)
  ·refine aD (ab (sA Z Z (aa (rT hQ results91 Z (⟨H1.ext,?_⟩)))));rw [decide_eq_true (cJ (d:=[]) (by omega) fun i hi=>he i (by omega))]
theorem pY {w:World}{x:Rec}{xA6 xA7 xA8:Option Addr}{xC6 xC7 xC8:Nat}{l:Int}(xK:x.Ok) (xS6:Sees w [.slice xA6 x.Rows.length xC6] x.Rows) (xS7:Sees w [.slice xA7 x.Data.length xC7] x.Data) (xS8:Sees w [.slice xA8 x.Delta.length xC8] x.Delta) (hl : -1≤l∧l≤1048576):Ret Tryz.prog 380 #[x.val xA6 xC6 xA7 xC7 xA8 xC8,.int .i64 l] w fun v w'=>Ext No w w'∧(v = .int .i64 (if l-cx x<0 then -1 else l-cx x)):=by
 have xK2:=xK;unfold Rec.Ok at xK2
 try unfold I64ok at xK2
 try unfold maxLen at xK2
 have xN2:x.Name.size≤maxLen:=by unfold maxLen; omega
 have xL6:=sL xS6;obtain ⟨xF6,xO6⟩:=xS6;have xL7:=sL xS7;obtain ⟨xF7,xO7⟩:=xS7;have xL8:=sL xS8;obtain ⟨xF8,xO8⟩:=xS8;refine aA (vs:=[x.val xA6 xC6 xA7 xC7 xA8 xC8,.int .i64 l]) func380 Z ntmps380 Z (fun Q hQ hN=>?_);have H0:=Sep.start (w:=w) (F:=[seen false [.slice xA6 x.Rows.length xC6] x.Rows xF6,seen false [.slice xA7 x.Data.length xC7] x.Data xF7,seen false [.slice xA8 x.Delta.length xC8] x.Delta xF8]) (ae xO6 (ae xO7 (ae xO8 (by simp))));refine ab (aV (wn Z) Z Z H0 (fun b1 w1 e1 g1 H1=>sA Z Z (aa (ab (sM Z Z (sF il Z ts9 (sLd tu9 (H1.box 0 Z) Z (sV Z (ia tu9 Z) (sV Z (bm Z Z iO) (sA Z Z (aa (ac (ab (sR 2 Z (aa (au Z (fun c1=>?_) (fun c1=>?_)))))))))))))))))
 ·refine ab (rA hQ results380 Z ?_);exact ⟨H1.ext,congrArg (Value.int .i64) (by unfold cx; omega)⟩
 ·refine ag (ab (sF il Z cB (sLd bd (H1.box 0 Z) Z (sM Z Z (sE func75 s9 Z (iE (H1.sees 0 Z) (by omega)) H1 (fun w2 e2 H2=>sA Z Z (aa (ac (ab (sR 2 Z (aa (au Z (fun c2=>?_) (fun c2=>?_)))))))))))))
  ·refine ab (rA hQ results380 Z ?_);exact ⟨H2.ext,congrArg (Value.int .i64) (by unfold cx; omega)⟩
  ·refine ag (ab (sF il Z aW (sLd aH (H2.box 0 Z) Z (sM Z Z (sE func430 mY Z (fN (H2.sees 1 Z) (by omega)) H2 (fun w3 e3 H3=>sA Z Z (aa (ac (ab (sR 2 Z (aa (au Z (fun c3=>?_) (fun c3=>?_)))))))))))))
   ·refine ab (rA hQ results380 Z ?_);exact ⟨H3.ext,congrArg (Value.int .i64) (by unfold cx; omega)⟩
   ·refine ag (ab (sF il Z aW (sLd aH (H3.box 0 Z) Z (sM Z Z (sE func430 mY Z (fN (H3.sees 2 Z) (by omega)) H3 (fun w4 e4 H4=>sA Z Z (aa (ac (ab (sR 2 Z (aa (au Z (fun c4=>?_) (fun c4=>?_)))))))))))))
    ·refine ab (rA hQ results380 Z ?_);exact ⟨H4.ext,congrArg (Value.int .i64) (by unfold cx; omega)⟩
    ·refine ag (ab (sR 2 Z (rN hQ results380 Z ?_)));exact ⟨H4.ext,congrArg (Value.int .i64) (by unfold cx; omega)⟩
theorem pQ {w:World}{x:Rec}{xA6 xA7 xA8:Option Addr}{xC6 xC7 xC8:Nat}(xK:x.Ok) (xS6:Sees w [.slice xA6 x.Rows.length xC6] x.Rows) (xS7:Sees w [.slice xA7 x.Data.length xC7] x.Data) (xS8:Sees w [.slice xA8 x.Delta.length xC8] x.Delta) (hb:cx x≤1048576):Ret Tryz.prog 382 #[x.val xA6 xC6 xA7 xC7 xA8 xC8] w fun v w'=>Ext No w w'∧(∃ A6 C6 A7 C7 A8 C8,v=x.val A6 C6 A7 C7 A8 C8∧Res w w' [.int .i64 x.Kind,.int .i64 x.Seq,.string x.Name,.int .i64 x.Length,.int .i64 x.Group,.int .i64 x.Row,.slice A6 x.Rows.length C6,.slice A7 x.Data.length C7,.slice A8 x.Delta.length C8] x):=by
 have xK2:=xK;unfold Rec.Ok at xK2
 try unfold I64ok at xK2
 try unfold maxLen at xK2
 have xN2:x.Name.size≤maxLen:=by unfold maxLen; omega
 have xL6:=sL xS6;obtain ⟨xF6,xO6⟩:=xS6;have xL7:=sL xS7;obtain ⟨xF7,xO7⟩:=xS7;have xL8:=sL xS8;obtain ⟨xF8,xO8⟩:=xS8;unfold cx at hb;refine aA (vs:=[x.val xA6 xC6 xA7 xC7 xA8 xC8]) func382 Z ntmps382 Z (fun Q hQ hN=>?_);have H0:=Sep.start (w:=w) (F:=[seen false [.slice xA6 x.Rows.length xC6] x.Rows xF6,seen false [.slice xA7 x.Data.length xC7] x.Data xF7,seen false [.slice xA8 x.Delta.length xC8] x.Delta xF8]) (ae xO6 (ae xO7 (ae xO8 (by simp))));refine ab (aV (wn Z) Z Z H0 (fun b1 w1 e1 g1 H1=>cI (wn Z) Z zeroValue55 H1 (fun b2 w2 e2 g2 H2=>aa (ab (cI (wn Z) Z zeroValue55 H2 (fun b3 w3 e3 g3 H3=>aa (ab (sF il Z ts2 (sLd tu2 (H3.box 0 Z) Z (sF az Z ts2 (cl (wn Z) ts2 Z Z Z H3 2 Z Z (fun w4 e4 H4=>?_))))))))))));dsimp only[lNA,lCA,lSZ,lSS,bk] at H4;refine aa (ab (sF il Z ts2 (sLd tu2 (H4.box 0 Z) Z (sF az Z ts2 (cl (wn Z) ts2 Z Z Z H4 2 Z Z (fun w5 e5 H5=>?_))))));dsimp only[lNA,lCA,lSZ,lSS,bk] at H5;refine aa (ab (sF il Z ts9 (sLd tu9 (H5.box 0 Z) Z (sF az Z ts9 (cl (wn Z) ts9 Z Z Z H5 2 Z Z (fun w6 e6 H6=>?_))))));dsimp only[lNA,lCA,lSZ,lSS,bk] at H6;refine aa (ab (sF il Z ts2 (sLd tu2 (H6.box 0 Z) Z (sF az Z ts2 (cl (wn Z) ts2 Z Z Z H6 2 Z Z (fun w7 e7 H7=>?_))))));dsimp only[lNA,lCA,lSZ,lSS,bk] at H7;refine aa (ab (sF il Z ts2 (sLd tu2 (H7.box 0 Z) Z (sF az Z ts2 (cl (wn Z) ts2 Z Z Z H7 2 Z Z (fun w8 e8 H8=>?_))))));dsimp only[lNA,lCA,lSZ,lSS,bk] at H8;refine aa (ab (sF il Z ts2 (sLd tu2 (H8.box 0 Z) Z (sF az Z ts2 (cl (wn Z) ts2 Z Z Z H8 2 Z Z (fun w9 e9 H9=>?_))))));dsimp only[lNA,lCA,lSZ,lSS,bk] at H9;refine aa (ab (sF il Z cB (sLd bd (H9.box 0 Z) Z (sC func83 tv Z (iL (H9.sees 0 Z) (by omega)) (fun v1 w10 r1=>?_)))));obtain ⟨e10,r1⟩:=r1;obtain ⟨fp1,H10⟩:=H9.res e10 r1;obtain ⟨a1,k1,q1⟩:=aB (H10.mine 3 Z);cases q1;refine sF az Z cB (cl (wn Z) cB Z Z Z H10 2 Z Z (fun w11 e11 H11=>?_));dsimp only[lNA,lCA,lSZ,lSS,bk] at H11;refine aa (ab (sF il Z aW (sLd aH (H11.box 0 Z) Z (sC func432 mg Z (fK (H11.sees 1 Z) (by omega)) (fun v2 w12 r2=>?_)))));obtain ⟨e12,r2⟩:=r2;obtain ⟨fp2,H12⟩:=H11.res e12 r2;obtain ⟨a2,k2,q2⟩:=aB (H12.mine 4 Z);cases q2;refine sF az Z aW (cl (wn Z) aW Z Z Z H12 2 Z Z (fun w13 e13 H13=>?_));dsimp only[lNA,lCA,lSZ,lSS,bk] at H13;refine aa (ab (sF il Z aW (sLd aH (H13.box 0 Z) Z (sC func432 mg Z (fK (H13.sees 2 Z) (by omega)) (fun v3 w14 r3=>?_)))));obtain ⟨e14,r3⟩:=r3;obtain ⟨fp3,H14⟩:=H13.res e14 r3;obtain ⟨a3,k3,q3⟩:=aB (H14.mine 5 Z);cases q3;refine sF az Z aW (cl (wn Z) aW Z Z Z H14 2 Z Z (fun w15 e15 H15=>?_));dsimp only[lNA,lCA,lSZ,lSS,bk] at H15;refine aa (ab (sV Z (an az Z aL Z Z (At.whole (H15.box 2 Z))) (bE (wn Z) aL Z Z Z Z H15 1 Z Z (fun w16 e16 H16=>?_))));dsimp only[lNA,lCA,lSZ,lSS,bk] at H16;refine aa (cj (hQ _ _ (jz results382 Z (bh az Z aL Z (At.whole (H16.box 1 Z))) ?_)));exact ⟨H16.ext,_,_,_,_,_,_,Z,Rec.out (H16.sub (.cons _ (.cons _ (.cons _ (.cons_cons _ (.cons_cons _ (.cons_cons _ List.Sublist.slnil))))))) xK⟩
theorem pZ {w:World}{a b:Rec}{aA6 aA7 aA8 bA6 bA7 bA8:Option Addr}{aC6 aC7 aC8 bC6 bC7 bC8:Nat}(aK:a.Ok) (aS6:Sees w [.slice aA6 a.Rows.length aC6] a.Rows) (aS7:Sees w [.slice aA7 a.Data.length aC7] a.Data) (aS8:Sees w [.slice aA8 a.Delta.length aC8] a.Delta) (bK:b.Ok) (bS6:Sees w [.slice bA6 b.Rows.length bC6] b.Rows) (bS7:Sees w [.slice bA7 b.Data.length bC7] b.Data) (bS8:Sees w [.slice bA8 b.Delta.length bC8] b.Delta):Ret Tryz.prog 396 #[a.val aA6 aC6 aA7 aC7 aA8 aC8,b.val bA6 bC6 bA7 bC7 bA8 bC8] w fun v w'=>Ext No w w'∧(v = .bool (decide (a=b))):=by
 have aK2:=aK;unfold Rec.Ok at aK2
 try unfold I64ok at aK2
 try unfold maxLen at aK2
 have aN2:a.Name.size≤maxLen:=by unfold maxLen; omega
 have aL6:=sL aS6;obtain ⟨aF6,aO6⟩:=aS6;have aL7:=sL aS7;obtain ⟨aF7,aO7⟩:=aS7;have aL8:=sL aS8;obtain ⟨aF8,aO8⟩:=aS8;have bK2:=bK;unfold Rec.Ok at bK2
 try unfold I64ok at bK2
 try unfold maxLen at bK2
 have bN2:b.Name.size≤maxLen:=by unfold maxLen; omega
 have bL6:=sL bS6;obtain ⟨bF6,bO6⟩:=bS6;have bL7:=sL bS7;obtain ⟨bF7,bO7⟩:=bS7;have bL8:=sL bS8;obtain ⟨bF8,bO8⟩:=bS8;refine aA (vs:=[a.val aA6 aC6 aA7 aC7 aA8 aC8,b.val bA6 bC6 bA7 bC7 bA8 bC8]) func396 Z ntmps396 Z (fun Q hQ hN=>?_);have H0:=Sep.start (w:=w) (F:=[seen false [.slice aA6 a.Rows.length aC6] a.Rows aF6,seen false [.slice aA7 a.Data.length aC7] a.Data aF7,seen false [.slice aA8 a.Delta.length aC8] a.Delta aF8,seen false [.slice bA6 b.Rows.length bC6] b.Rows bF6,seen false [.slice bA7 b.Data.length bC7] b.Data bF7,seen false [.slice bA8 b.Delta.length bC8] b.Delta bF8]) (ae aO6 (ae aO7 (ae aO8 (ae bO6 (ae bO7 (ae bO8 (by simp)))))));refine ab (aV (wn Z) Z Z H0 (fun b1 w1 e1 g1 H1=>aV (wn Z) Z Z H1 (fun b2 w2 e2 g2 H2=>sA Z Z (aa (ac (ab (sF az Z ts2 (sLd tu2 (H2.box 0 Z) Z (sF az Z ts2 (sLd tu2 (H2.box 1 Z) Z (sV Z (bg Z Z) (aa (au Z (fun c1=>?_) (fun c1=>?_))))))))))))))
 ·refine ab (sA Z Z (aa (rT hQ results396 Z (⟨H2.ext,?_⟩))));rw [decide_eq_false (fun e=>by subst e; first | exact c1 rfl | simp at c1)]
 ·refine ag (ac (ab (sF az Z ts2 (sLd tu2 (H2.box 0 Z) Z (sF az Z ts2 (sLd tu2 (H2.box 1 Z) Z (sV Z (bg Z Z) (aa (au Z (fun c2=>?_) (fun c2=>?_))))))))))
  ·refine ab (sA Z Z (aa (rT hQ results396 Z (⟨H2.ext,?_⟩))));rw [decide_eq_false (fun e=>by subst e; first | exact c2 rfl | simp at c2)]
  ·refine ag (ac (ab (sF az Z ts9 (sLd tu9 (H2.box 0 Z) Z (sF az Z ts9 (sLd tu9 (H2.box 1 Z) Z (sV Z (Dl Z Z) (aa (bz Z (fun c3=>?_) (fun c3=>?_))))))))))
   ·refine ab (sA Z Z (aa (rT hQ results396 Z (⟨H2.ext,?_⟩))));rw [decide_eq_false (fun e=>by subst e; first | exact c3 rfl | simp at c3)]
   ·refine ag (ac (ab (sF az Z ts2 (sLd tu2 (H2.box 0 Z) Z (sF az Z ts2 (sLd tu2 (H2.box 1 Z) Z (sV Z (bg Z Z) (aa (au Z (fun c4=>?_) (fun c4=>?_))))))))))
    ·refine ab (sA Z Z (aa (rT hQ results396 Z (⟨H2.ext,?_⟩))));rw [decide_eq_false (fun e=>by subst e; first | exact c4 rfl | simp at c4)]
    ·refine ag (ac (ab (sF az Z ts2 (sLd tu2 (H2.box 0 Z) Z (sF az Z ts2 (sLd tu2 (H2.box 1 Z) Z (sV Z (bg Z Z) (aa (au Z (fun c5=>?_) (fun c5=>?_))))))))))
     ·refine ab (sA Z Z (aa (rT hQ results396 Z (⟨H2.ext,?_⟩))));rw [decide_eq_false (fun e=>by subst e; first | exact c5 rfl | simp at c5)]
     ·refine ag (ac (ab (sF az Z ts2 (sLd tu2 (H2.box 0 Z) Z (sF az Z ts2 (sLd tu2 (H2.box 1 Z) Z (sV Z (bg Z Z) (aa (au Z (fun c6=>?_) (fun c6=>?_))))))))))
      ·refine ab (sA Z Z (aa (rT hQ results396 Z (⟨H2.ext,?_⟩))));rw [decide_eq_false (fun e=>by subst e; first | exact c6 rfl | simp at c6)]
      ·refine ag (ac (ab (sF az Z cB (sLd bd (H2.box 0 Z) Z (sF az Z cB (sLd bd (H2.box 1 Z) Z (sE func92 tt Z (ik (H2.sees 0 Z) (H2.sees 3 Z)) H2 (fun w3 e3 H3=>sV Z (aN Z) (aa (bz Z (fun c7=>?_) (fun c7=>?_)))))))))))
       ·refine ab (sA Z Z (aa (rT hQ results396 Z (⟨H3.ext,?_⟩))));rw [decide_eq_false (fun e=>by subst e; first | exact c7 rfl | simp at c7)]
       ·refine ag (ac (ab (sF az Z aW (sLd aH (H3.box 0 Z) Z (sF az Z aW (sLd aH (H3.box 1 Z) Z (sE func113 kv Z (ex (H3.sees 1 Z) (H3.sees 4 Z)) H3 (fun w4 e4 H4=>sV Z (aN Z) (aa (bz Z (fun c8=>?_) (fun c8=>?_)))))))))))
        ·refine ab (sA Z Z (aa (rT hQ results396 Z (⟨H4.ext,?_⟩))));rw [decide_eq_false (fun e=>by subst e; first | exact c8 rfl | simp at c8)]
        ·refine ag (ac (ab (sF az Z aW (sLd aH (H4.box 0 Z) Z (sF az Z aW (sLd aH (H4.box 1 Z) Z (sE func113 kv Z (ex (H4.sees 2 Z) (H4.sees 5 Z)) H4 (fun w5 e5 H5=>sV Z (aN Z) (aa (bz Z (fun c9=>?_) (fun c9=>?_)))))))))))
         ·refine ab (sA Z Z (aa (rT hQ results396 Z (⟨H5.ext,?_⟩))));rw [decide_eq_false (fun e=>by subst e; first | exact c9 rfl | simp at c9)]
         ·refine ag (ab (sA Z Z (aa (rT hQ results396 Z (⟨H5.ext,?_⟩)))));rw [decide_eq_true];cases a; cases b; simp_all [ib]
theorem ox {w:World}{xs:List Rec}{xsA:Option Addr}{xsC:Nat}{l:Int}(xsS:Sees w [.slice xsA xs.length xsC] xs) (hl : -1≤l∧l≤1048576):Ret Tryz.prog 307 #[.slice xsA xs.length xsC,.int .i64 l] w fun v w'=>Ext No w w'∧(v = .int .i64 (if l-szL cx xs<0 then -1 else l-szL cx xs)):=by
 have xsL:=sL xsS;obtain ⟨xsF,xsO⟩:=xsS;refine aA (vs:=[.slice xsA xs.length xsC,.int .i64 l]) func307 Z ntmps307 Z (fun Q hQ hN=>?_);have H0:=Sep.start (w:=w) (F:=[seen false [.slice xsA xs.length xsC] xs xsF]) (ae xsO (by simp));refine ab (sA Z Z (aa (ab (sR 2 Z (sV Z (ax px Z) (sV Z (bm Z Z iO) (sA Z Z (aa (ac (ab (sR 2 Z (aa (au Z (fun c1=>?_) (fun c1=>?_))))))))))))))
 ·refine ab (rA hQ results307 Z ?_);exact ⟨H0.ext,by rw [if_pos (by rw [fw (f:=cx)]; omega)]⟩
 ·refine ag (ac (ab (sA Z Z (aa (ai (aM (γ:=Nat × Int) (fun (k,m)=>[(0,.slice xsA xs.length xsC),(1,.int .i64 m),(5,.int .i64 k)]) (fun (k,m) w'=>Sep No w [] [seen false [.slice xsA xs.length xsC] xs xsF] w'∧k≤xs.length∧0≤m∧m=l-xs.length-bP (fun i=>cx (xs.getD i default)) k) (fun (k,m)=>xs.length-k) (0,_) ⟨Z,Z,Z,trivial⟩ ⟨H0,by omega,by omega,by simp only [bP]; omega⟩ (fun (k,m) w1 H1=>?_)))))));obtain ⟨H1,hk,hm,hs⟩:=H1;refine ac (ab (sR 2 Z (sV Z (ax px Z) (sV Z (aI Z Z) (aa (au Z (fun c2=>?_) (fun c2=>?_)))))))
  ·refine ag (ac (ai (ac ?_)));obtain ⟨eb1,eo1,es1,ef1,ee1,ec1,eO1,eH1,em1⟩:=bf (H1.seen 0 Z) k (by omega);obtain ⟨ea1,ek1,ea2,ek2,ea3,ek3,eg1,eg2,eg3,rfl,eq1,eK1,eo2,eo3,eo4⟩:=ew eO1;have eK1U:=eK1;unfold Rec.Ok at eK1U
   try unfold I64ok at eK1U
   try unfold maxLen at eK1U
   have eP1:=H1.look1 0 Z eo2 (fun b hb=>eH1 b (by rw [eq1]; simp [hb]));have eL1:=oL eo2;have eP2:=eP1.look1 0 Z eo3 (fun b hb=>eH1 b (by rw [eq1]; simp [hb]));have eL2:=oL eo3;have eP3:=eP2.look1 0 Z eo4 (fun b hb=>eH1 b (by rw [eq1]; simp [hb]));have eL3:=oL eo4;refine aj (sR 2 Z (sV Z (ao px zN Z Z ee1 k (by omega) (by omega)) (sV Z (an il Z zN Z Z ec1) (sM Z Z (sE func380 xI Z (pY (by assumption) (eP3.sees 1 Z) (eP3.sees 2 Z) (eP3.sees 3 Z) (by omega)) eP3 (fun w2 e1 H2=>sA Z Z (aa (ab (sR 2 Z (aa (au Z (fun c3=>?_) (fun c3=>?_))))))))))))
   ·refine ab (rA hQ results307 Z ?_);have sg:bP (fun i=>cx (xs.getD i default)) (k+1)=bP (fun i=>cx (xs.getD i default)) k+cx (xs.getD k default):=Z;have sl:=ie (f:=(fun i=>cx (xs.getD i default))) (j:=k+1) (k:=xs.length) (by omega);exact ⟨H2.ext,by rw [if_pos (by rw [fw (f:=cx)]; omega)]⟩
   ·refine ag (aj (sM Z Z (sV Z (aw Z Z iO) (sA Z Z (aa ?_)))));have sg:bP (fun i=>cx (xs.getD i default)) (k+1)=bP (fun i=>cx (xs.getD i default)) k+cx (xs.getD k default):=Z;refine ⟨(k+1,_),⟨Z,Z,Z,trivial⟩,⟨(H2.ftake 1),by omega,by omega,by omega⟩,by dsimp only; omega⟩
  ·refine aD (ab (sR 2 Z (rN hQ results307 Z ?_)));obtain rfl:k=xs.length:=by omega
   exact ⟨H1.ext,congrArg (Value.int .i64) (by rw [fw (f:=cx)]; omega)⟩
theorem ov {w:World}{xs:List Rec}{xsA:Option Addr}{xsC:Nat}(xsS:Sees w [.slice xsA xs.length xsC] xs) (hl:szL cx xs≤1048576):Ret Tryz.prog 312 #[.slice xsA xs.length xsC] w fun v w'=>Ext No w w'∧(Res w w' [v] xs):=by
 have xsL:=sL xsS;obtain ⟨xsF,xsO⟩:=xsS;have hl0:xs.length≤1048576:=by unfold szL at hl; omega
 refine aA (vs:=[.slice xsA xs.length xsC]) func312 Z ntmps312 Z (fun Q hQ hN=>?_);have H0:=Sep.start (w:=w) (F:=[seen false [.slice xsA xs.length xsC] xs xsF]) (ae xsO (by simp));refine ab (sA Z Z (aa (ab (sM Z Z (sV Z (ax px Z) (fq (wn Z) Z aS ba (show ∀ w,own true w (Value.agg #[.int .i64 0,.int .i64 0,.string ⟨#[]⟩,.int .i64 0,.int .i64 0,.int .i64 0,.slice none 0 0,.slice none 0 0,.slice none 0 0]).cells.toList (default:Rec) [] from fun _=>uS) Z (by omega) (by unfold maxLen; omega) H0 (fun b1 w1 e1 g1 H1=>sA Z Z (aa (ac (ab (sA Z Z (aa (ai (aM (γ:=Nat × List Nat) (fun (k,fp)=>[(0,.slice xsA xs.length xsC),(3,.slice (some ⟨b1,0,none⟩) xs.length xs.length),(4,.int .i64 k)]) (fun (k,fp) w'=>Sep No w [mine [.slice (some ⟨b1,0,none⟩) xs.length xs.length] (cp xs k default) fp] [seen false [.slice xsA xs.length xsC] xs xsF] w'∧k≤xs.length) (fun (k,fp)=>xs.length-k) (0,[b1]) ⟨Z,Z,Z,trivial⟩ ⟨jH ▸ H1,by omega⟩ (fun (k,fp) w2 H2=>?_)))))))))))))));obtain ⟨H2,hk⟩:=H2;refine ac (ab (sR 2 Z (sV Z (ax px Z) (sV Z (aI Z Z) (aa (au Z (fun c1=>?_) (fun c1=>?_)))))))
 ·refine ag (ac (ai ?_));obtain ⟨hg,hg2⟩:=ff hl k (by omega);obtain ⟨eb1,eo1,es1,ef1,ee1,ec1,eO1,eH1,em1⟩:=bf (H2.seen 0 Z) k (by omega);obtain ⟨ea1,ek1,ea2,ek2,ea3,ek3,eg1,eg2,eg3,rfl,eq1,eK1,eo2,eo3,eo4⟩:=ew eO1;have eK1U:=eK1;unfold Rec.Ok at eK1U
  try unfold I64ok at eK1U
  try unfold maxLen at eK1U
  have eP1:=H2.look1 0 Z eo2 (fun b hb=>eH1 b (by rw [eq1]; simp [hb]));have eL1:=oL eo2;have eP2:=eP1.look1 0 Z eo3 (fun b hb=>eH1 b (by rw [eq1]; simp [hb]));have eL2:=oL eo3;have eP3:=eP2.look1 0 Z eo4 (fun b hb=>eH1 b (by rw [eq1]; simp [hb]));have eL3:=oL eo4;obtain ⟨eb2,eo5,ee2⟩:=dJ (eP3.mine 0 Z) k (by rw [fR (xs:=xs) (k:=k) (by omega)]; omega);refine aj (sR 4 Z (sV Z (ao px zN Z Z ee1 k (by omega) (by omega)) (sV Z (an il Z zN Z Z ec1) (sC func382 xX Z (pQ (by assumption) (eP3.sees 1 Z) (eP3.sees 2 Z) (eP3.sees 3 Z) (by assumption)) (fun v1 w3 r1=>?_)))));obtain ⟨e2,sa1,sk1,sa2,sk2,sa3,sk3,rfl,r1⟩:=r1;obtain ⟨fp1,H3⟩:=eP3.res e2 r1;refine sV Z (ao aS aL Z Z ee2 k (by omega) (by omega)) (og (wn Z) aL H3 0 1 Z Z Z k (by rw [fR (xs:=xs) (k:=k) (by omega)]; omega) Z ee2 Z (fun w4 fp2 H4=>aa ?_));obtain ⟨hg,hg2⟩:=ff hl k (by omega);refine aj (sM Z Z (sV Z (aw Z Z iO) (sA Z Z (aa (⟨(k+1,_),⟨Z,Z,Z,trivial⟩,⟨mq (xs:=xs) (k:=k) (d:=default) (by omega) ▸ ((H4.ftake 1).dtake 1),by omega⟩,by dsimp only; omega⟩)))))
 ·refine aD (ab (sR 2 Z (rN hQ results312 Z ?_)));obtain rfl:k=xs.length:=by omega
  exact ⟨H2.ext,by
   have h:=H2.out 0 Z
   rwa [nb] at h⟩
theorem oS {w:World}{xs ys:List Rec}{xsA ysA:Option Addr}{xsC ysC:Nat}(xsS:Sees w [.slice xsA xs.length xsC] xs) (ysS:Sees w [.slice ysA ys.length ysC] ys):Ret Tryz.prog 318 #[.slice xsA xs.length xsC,.slice ysA ys.length ysC] w fun v w'=>Ext No w w'∧(v = .bool (decide (xs=ys))):=by
 have xsL:=sL xsS;obtain ⟨xsF,xsO⟩:=xsS;have ysL:=sL ysS;obtain ⟨ysF,ysO⟩:=ysS;refine aA (vs:=[.slice xsA xs.length xsC,.slice ysA ys.length ysC]) func318 Z ntmps318 Z (fun Q hQ hN=>?_);have H0:=Sep.start (w:=w) (F:=[seen false [.slice xsA xs.length xsC] xs xsF,seen false [.slice ysA ys.length ysC] ys ysF]) (ae xsO (ae ysO (by simp)));refine ab (sA Z Z (aa (ac (ab (sM Z Z (sV Z (ax aS Z) (sM Z Z (sV Z (ax aS Z) (sV Z (bg Z Z) (aa (au Z (fun c1=>?_) (fun c1=>?_))))))))))))
 ·refine ab (sA Z Z (aa (rT hQ results318 Z (⟨H0.ext,?_⟩))));rw [decide_eq_false (fun e=>by subst e; exact c1 rfl)]
 ·refine ag (ac (ab (sA Z Z (aa (ai (aM (γ:=Nat) (fun k=>[(0,.slice xsA xs.length xsC),(1,.slice ysA ys.length ysC),(5,.int .i64 k)]) (fun k w'=>Sep No w [] [seen false [.slice xsA xs.length xsC] xs xsF,seen false [.slice ysA ys.length ysC] ys ysF] w'∧k≤xs.length∧(∀ i,i<k→xs.getD i default=ys.getD i default)) (fun k=>xs.length-k) 0 ⟨Z,Z,Z,trivial⟩ ⟨H0,by omega,fun i hi=>by omega⟩ (fun k w1 H1=>?_)))))));obtain ⟨H1,hk,he⟩:=H1;refine ac (ab (sR 2 Z (sV Z (ax aS Z) (sV Z (aI Z Z) (aa (au Z (fun c2=>?_) (fun c2=>?_)))))))
  ·refine ag (ac (ai (ac ?_)));obtain ⟨eb1,eo1,es1,ef1,ee1,ec1,eO1,eH1,em1⟩:=bf (H1.seen 0 Z) k (by omega);obtain ⟨ea1,ek1,ea2,ek2,ea3,ek3,eg1,eg2,eg3,rfl,eq1,eK1,eo2,eo3,eo4⟩:=ew eO1;have eK1U:=eK1;unfold Rec.Ok at eK1U
   try unfold I64ok at eK1U
   try unfold maxLen at eK1U
   have eP1:=H1.look1 0 Z eo2 (fun b hb=>eH1 b (by rw [eq1]; simp [hb]));have eL1:=oL eo2;have eP2:=eP1.look1 0 Z eo3 (fun b hb=>eH1 b (by rw [eq1]; simp [hb]));have eL2:=oL eo3;have eP3:=eP2.look1 0 Z eo4 (fun b hb=>eH1 b (by rw [eq1]; simp [hb]));have eL3:=oL eo4;obtain ⟨eb2,eo5,es2,ef2,ee2,ec2,eO2,eH2,em2⟩:=bf (eP3.seen 1 Z) k (by omega);obtain ⟨ea4,ek4,ea5,ek5,ea6,ek6,eg4,eg5,eg6,rfl,eq2,eK2,eo6,eo7,eo8⟩:=ew eO2;have eK2U:=eK2;unfold Rec.Ok at eK2U
   try unfold I64ok at eK2U
   try unfold maxLen at eK2U
   have eP4:=eP3.look1 1 Z eo6 (fun b hb=>eH2 b (by rw [eq2]; simp [hb]));have eL4:=oL eo6;have eP5:=eP4.look1 1 Z eo7 (fun b hb=>eH2 b (by rw [eq2]; simp [hb]));have eL5:=oL eo7;have eP6:=eP5.look1 1 Z eo8 (fun b hb=>eH2 b (by rw [eq2]; simp [hb]));have eL6:=oL eo8;refine bv (S:=Ext No _) (oQ [1,3,5,7,9,11,13,15,16,18]) (by kernel_rfl) (by kernel_rfl) (by kernel_rfl) Z (fun _=>Ext.refl.drawn _) (fun q1=>?_);have H2:=eP6.drawn q1;refine dR 2 Z (dV Z Z (fun zw hx=>ao aS aL Z Z ee1 k (by omega) (by omega)) (dV Z Z (fun zw hx=>an az Z aL Z Z (hx.at ec1)) (dR 2 Z (dV Z Z (fun zw hx=>ao aS aL Z Z ee2 k (by omega) (by omega)) (dV Z Z (fun zw hx=>an az Z aL Z Z (hx.at ec2)) (dC func396 wO Z (pZ (by assumption) (H2.sees 2 Z) (H2.sees 3 Z) (H2.sees 4 Z) (by assumption) (H2.sees 5 Z) (H2.sees 6 Z) (H2.sees 7 Z)) (fun v1 w2 r1=>?_)))))));obtain ⟨e1,rfl⟩:=r1;have H3:=H2.to e1;refine aQ Z (wn Z) Z Z (aN Z) (aP (bz Z (fun c3=>?_) (fun c3=>?_)))
   ·refine ab (sA Z Z (aa (rT hQ results318 Z (⟨H3.ext,?_⟩))));rw [decide_eq_false (fun e=>by subst e; simp at c3)]
   ·refine ag (aj (sM Z Z (sV Z (aw Z Z iO) (sA Z Z (aa ?_)))));have c4:xs.getD k default=ys.getD k default:=by simpa using c3
    refine ⟨k+1,⟨Z,Z,Z,trivial⟩,⟨(H3.ftake 2),by omega,fun i hi=>?_⟩,by dsimp only; omega⟩
    by_cases e:i=k
    ·subst e; exact c4
    ·exact he i (by omega)
  ·refine aD (ab (sA Z Z (aa (rT hQ results318 Z (⟨H1.ext,?_⟩)))));rw [decide_eq_true (cJ (d:=default) (by omega) fun i hi=>he i (by omega))]
theorem oJ {w:World}{x:Tape}{xA1:Option Addr}{xC1:Nat}{l:Int}(xK:x.Ok) (xS1:Sees w [.slice xA1 x.Recs.length xC1] x.Recs) (hl : -1≤l∧l≤1048576):Ret Tryz.prog 182 #[x.val xA1 xC1,.int .i64 l] w fun v w'=>Ext No w w'∧(v = .int .i64 (if l-cQ x<0 then -1 else l-cQ x)):=by
 have xK2:=xK;unfold Tape.Ok at xK2
 try unfold I64ok at xK2
 try unfold maxLen at xK2
 have xL1:=sL xS1;obtain ⟨xF1,xO1⟩:=xS1;refine aA (vs:=[x.val xA1 xC1,.int .i64 l]) func182 Z ntmps182 Z (fun Q hQ hN=>?_);have H0:=Sep.start (w:=w) (F:=[seen false [.slice xA1 x.Recs.length xC1] x.Recs xF1]) (ae xO1 (by simp));refine ab (aV (wn Z) Z Z H0 (fun b1 w1 e1 g1 H1=>sA Z Z (aa (ab (sF vq Z DW (sLd px (H1.box 0 Z) Z (sM Z Z (sE func307 wH Z (ox (H1.sees 0 Z) (by omega)) H1 (fun w2 e2 H2=>sA Z Z (aa (ac (ab (sR 2 Z (aa (au Z (fun c1=>?_) (fun c1=>?_))))))))))))))))
 ·refine ab (rA hQ results182 Z ?_);exact ⟨H2.ext,congrArg (Value.int .i64) (by unfold cQ; omega)⟩
 ·refine ag (ab (sR 2 Z (rN hQ results182 Z ?_)));exact ⟨H2.ext,congrArg (Value.int .i64) (by unfold cQ; omega)⟩
theorem pb {w:World}{x:Tape}{xA1:Option Addr}{xC1:Nat}(xK:x.Ok) (xS1:Sees w [.slice xA1 x.Recs.length xC1] x.Recs) (hb:cQ x≤1048576):Ret Tryz.prog 190 #[x.val xA1 xC1] w fun v w'=>Ext No w w'∧(∃ A1 C1,v=x.val A1 C1∧Res w w' [.bool x.Wiped,.slice A1 x.Recs.length C1] x):=by
 have xK2:=xK;unfold Tape.Ok at xK2
 try unfold I64ok at xK2
 try unfold maxLen at xK2
 have xL1:=sL xS1;obtain ⟨xF1,xO1⟩:=xS1;unfold cQ at hb;refine aA (vs:=[x.val xA1 xC1]) func190 Z ntmps190 Z (fun Q hQ hN=>?_);have H0:=Sep.start (w:=w) (F:=[seen false [.slice xA1 x.Recs.length xC1] x.Recs xF1]) (ae xO1 (by simp));refine ab (aV (wn Z) Z Z H0 (fun b1 w1 e1 g1 H1=>cI (wn Z) Z zeroValue181 H1 (fun b2 w2 e2 g2 H2=>aa (ab (cI (wn Z) Z zeroValue181 H2 (fun b3 w3 e3 g3 H3=>aa (ab (sF vq Z ts4 (sLd tu4 (H3.box 0 Z) Z (sF cP Z ts4 (cl (wn Z) ts4 Z Z Z H3 2 Z Z (fun w4 e4 H4=>?_))))))))))));dsimp only[lNA,lCA,lSZ,lSS,bk] at H4;refine aa (ab (sF vq Z DW (sLd px (H4.box 0 Z) Z (sC func312 yd Z (ov (H4.sees 0 Z) (by first | assumption | omega)) (fun v1 w5 r1=>?_)))));obtain ⟨e5,r1⟩:=r1;obtain ⟨fp1,H5⟩:=H4.res e5 r1;obtain ⟨a1,k1,q1⟩:=aB (H5.mine 3 Z);cases q1;refine sF cP Z iS (cl (wn Z) iS Z Z Z H5 2 Z Z (fun w6 e6 H6=>?_));dsimp only[lNA,lCA,lSZ,lSS,bk] at H6;refine aa (ab (sV Z (an cP Z cT Z Z (At.whole (H6.box 2 Z))) (bE (wn Z) cT Z Z Z Z H6 1 Z Z (fun w7 e7 H7=>?_))));dsimp only[lNA,lCA,lSZ,lSS,bk] at H7;refine aa (cj (hQ _ _ (jz results190 Z (bh cP Z cT Z (At.whole (H7.box 1 Z))) ?_)));exact ⟨H7.ext,_,_,Z,Tape.out (H7.sub (.cons _ (.cons _ (.cons _ (.cons_cons _ List.Sublist.slnil))))) xK⟩
theorem oU {w:World}{a:Tape}{aA1:Option Addr}{aC1:Nat}{b:Tape}{bA1:Option Addr}{bC1:Nat}(aK:a.Ok) (aS1:Sees w [.slice aA1 a.Recs.length aC1] a.Recs) (bK:b.Ok) (bS1:Sees w [.slice bA1 b.Recs.length bC1] b.Recs):Ret Tryz.prog 200 #[a.val aA1 aC1,b.val bA1 bC1] w fun v w'=>Ext No w w'∧(v = .bool (decide (a=b))):=by
 have aK2:=aK;unfold Tape.Ok at aK2
 try unfold I64ok at aK2
 try unfold maxLen at aK2
 have aL1:=sL aS1;obtain ⟨aF1,aO1⟩:=aS1;have bK2:=bK;unfold Tape.Ok at bK2
 try unfold I64ok at bK2
 try unfold maxLen at bK2
 have bL1:=sL bS1;obtain ⟨bF1,bO1⟩:=bS1;refine aA (vs:=[a.val aA1 aC1,b.val bA1 bC1]) func200 Z ntmps200 Z (fun Q hQ hN=>?_);have H0:=Sep.start (w:=w) (F:=[seen false [.slice aA1 a.Recs.length aC1] a.Recs aF1,seen false [.slice bA1 b.Recs.length bC1] b.Recs bF1]) (ae aO1 (ae bO1 (by simp)));refine ab (aV (wn Z) Z Z H0 (fun b1 w1 e1 g1 H1=>aV (wn Z) Z Z H1 (fun b2 w2 e2 g2 H2=>sA Z Z (aa (ac (ab (sF cP Z ts4 (sLd tu4 (H2.box 0 Z) Z (sF cP Z ts4 (sLd tu4 (H2.box 1 Z) Z (sV Z (tO tu4 Z Z) (aa (bz Z (fun c1=>?_) (fun c1=>?_))))))))))))))
 ·refine ab (sA Z Z (aa (rT hQ results200 Z (⟨H2.ext,?_⟩))));rw [decide_eq_false (fun e=>by subst e; first | exact c1 rfl | simp at c1)]
 ·refine ag (ac (ab (sF cP Z iS (sLd aS (H2.box 0 Z) Z (sF cP Z iS (sLd aS (H2.box 1 Z) Z (sE func318 yM Z (oS (H2.sees 0 Z) (H2.sees 1 Z)) H2 (fun w3 e3 H3=>sV Z (aN Z) (aa (bz Z (fun c2=>?_) (fun c2=>?_)))))))))))
  ·refine ab (sA Z Z (aa (rT hQ results200 Z (⟨H3.ext,?_⟩))));rw [decide_eq_false (fun e=>by subst e; first | exact c2 rfl | simp at c2)]
  ·refine ag (ab (sA Z Z (aa (rT hQ results200 Z (⟨H3.ext,?_⟩)))));rw [decide_eq_true];cases a; cases b; simp_all [ib]
theorem nJ {w:World}{xs:List Tape}{xsA:Option Addr}{xsC:Nat}{l:Int}(xsS:Sees w [.slice xsA xs.length xsC] xs) (hl : -1≤l∧l≤1048576):Ret Tryz.prog 76 #[.slice xsA xs.length xsC,.int .i64 l] w fun v w'=>Ext No w w'∧(v = .int .i64 (if l-szL cQ xs<0 then -1 else l-szL cQ xs)):=by
 have xsL:=sL xsS;obtain ⟨xsF,xsO⟩:=xsS;refine aA (vs:=[.slice xsA xs.length xsC,.int .i64 l]) func76 Z ntmps76 Z (fun Q hQ hN=>?_);have H0:=Sep.start (w:=w) (F:=[seen false [.slice xsA xs.length xsC] xs xsF]) (ae xsO (by simp));refine ab (sA Z Z (aa (ab (sR 2 Z (sV Z (ax vy Z) (sV Z (bm Z Z iO) (sA Z Z (aa (ac (ab (sR 2 Z (aa (au Z (fun c1=>?_) (fun c1=>?_))))))))))))))
 ·refine ab (rA hQ results76 Z ?_);exact ⟨H0.ext,by rw [if_pos (by rw [fw (f:=cQ)]; omega)]⟩
 ·refine ag (ac (ab (sA Z Z (aa (ai (aM (γ:=Nat × Int) (fun (k,m)=>[(0,.slice xsA xs.length xsC),(1,.int .i64 m),(5,.int .i64 k)]) (fun (k,m) w'=>Sep No w [] [seen false [.slice xsA xs.length xsC] xs xsF] w'∧k≤xs.length∧0≤m∧m=l-xs.length-bP (fun i=>cQ (xs.getD i default)) k) (fun (k,m)=>xs.length-k) (0,_) ⟨Z,Z,Z,trivial⟩ ⟨H0,by omega,by omega,by simp only [bP]; omega⟩ (fun (k,m) w1 H1=>?_)))))));obtain ⟨H1,hk,hm,hs⟩:=H1;refine ac (ab (sR 2 Z (sV Z (ax vy Z) (sV Z (aI Z Z) (aa (au Z (fun c2=>?_) (fun c2=>?_)))))))
  ·refine ag (ac (ai (ac ?_)));obtain ⟨eb1,eo1,es1,ef1,ee1,ec1,eO1,eH1,em1⟩:=bf (H1.seen 0 Z) k (by omega);obtain ⟨ea1,ek1,eg1,rfl,eq1,eK1,eo2⟩:=cv eO1;have eP1:=H1.look1 0 Z eo2 (fun b hb=>eH1 b (by rw [eq1]; simp [hb]));have eL1:=oL eo2;refine aj (sR 2 Z (sV Z (ao vy zQ Z Z ee1 k (by omega) (by omega)) (sV Z (an vq Z zQ Z Z ec1) (sM Z Z (sE func182 zf Z (oJ (by assumption) (eP1.sees 1 Z) (by omega)) eP1 (fun w2 e1 H2=>sA Z Z (aa (ab (sR 2 Z (aa (au Z (fun c3=>?_) (fun c3=>?_))))))))))))
   ·refine ab (rA hQ results76 Z ?_);have sg:bP (fun i=>cQ (xs.getD i default)) (k+1)=bP (fun i=>cQ (xs.getD i default)) k+cQ (xs.getD k default):=Z;have sl:=ie (f:=(fun i=>cQ (xs.getD i default))) (j:=k+1) (k:=xs.length) (by omega);exact ⟨H2.ext,by rw [if_pos (by rw [fw (f:=cQ)]; omega)]⟩
   ·refine ag (aj (sM Z Z (sV Z (aw Z Z iO) (sA Z Z (aa ?_)))));have sg:bP (fun i=>cQ (xs.getD i default)) (k+1)=bP (fun i=>cQ (xs.getD i default)) k+cQ (xs.getD k default):=Z;refine ⟨(k+1,_),⟨Z,Z,Z,trivial⟩,⟨(H2.ftake 1),by omega,by omega,by omega⟩,by dsimp only; omega⟩
  ·refine aD (ab (sR 2 Z (rN hQ results76 Z ?_)));obtain rfl:k=xs.length:=by omega
   exact ⟨H1.ext,congrArg (Value.int .i64) (by rw [fw (f:=cQ)]; omega)⟩
theorem nB {w:World}{xs:List Tape}{xsA:Option Addr}{xsC:Nat}(xsS:Sees w [.slice xsA xs.length xsC] xs) (hl:szL cQ xs≤1048576):Ret Tryz.prog 84 #[.slice xsA xs.length xsC] w fun v w'=>Ext No w w'∧(Res w w' [v] xs):=by
 have xsL:=sL xsS;obtain ⟨xsF,xsO⟩:=xsS;have hl0:xs.length≤1048576:=by unfold szL at hl; omega
 refine aA (vs:=[.slice xsA xs.length xsC]) func84 Z ntmps84 Z (fun Q hQ hN=>?_);have H0:=Sep.start (w:=w) (F:=[seen false [.slice xsA xs.length xsC] xs xsF]) (ae xsO (by simp));refine ab (sA Z Z (aa (ab (sM Z Z (sV Z (ax vy Z) (fq (wn Z) Z cD zc (show ∀ w,own true w (Value.agg #[.bool false,.slice none 0 0]).cells.toList (default:Tape) [] from fun _=>Bh) Z (by omega) (by unfold maxLen; omega) H0 (fun b1 w1 e1 g1 H1=>sA Z Z (aa (ac (ab (sA Z Z (aa (ai (aM (γ:=Nat × List Nat) (fun (k,fp)=>[(0,.slice xsA xs.length xsC),(3,.slice (some ⟨b1,0,none⟩) xs.length xs.length),(4,.int .i64 k)]) (fun (k,fp) w'=>Sep No w [mine [.slice (some ⟨b1,0,none⟩) xs.length xs.length] (cp xs k default) fp] [seen false [.slice xsA xs.length xsC] xs xsF] w'∧k≤xs.length) (fun (k,fp)=>xs.length-k) (0,[b1]) ⟨Z,Z,Z,trivial⟩ ⟨jH ▸ H1,by omega⟩ (fun (k,fp) w2 H2=>?_)))))))))))))));obtain ⟨H2,hk⟩:=H2;refine ac (ab (sR 2 Z (sV Z (ax vy Z) (sV Z (aI Z Z) (aa (au Z (fun c1=>?_) (fun c1=>?_)))))))
 ·refine ag (ac (ai ?_));obtain ⟨hg,hg2⟩:=ff hl k (by omega);obtain ⟨eb1,eo1,es1,ef1,ee1,ec1,eO1,eH1,em1⟩:=bf (H2.seen 0 Z) k (by omega);obtain ⟨ea1,ek1,eg1,rfl,eq1,eK1,eo2⟩:=cv eO1;have eP1:=H2.look1 0 Z eo2 (fun b hb=>eH1 b (by rw [eq1]; simp [hb]));have eL1:=oL eo2;obtain ⟨eb2,eo3,ee2⟩:=dJ (eP1.mine 0 Z) k (by rw [fR (xs:=xs) (k:=k) (by omega)]; omega);refine aj (sR 4 Z (sV Z (ao vy zQ Z Z ee1 k (by omega) (by omega)) (sV Z (an vq Z zQ Z Z ec1) (sC func190 wB Z (pb (by assumption) (eP1.sees 1 Z) (by assumption)) (fun v1 w3 r1=>?_)))));obtain ⟨e2,sa1,sk1,rfl,r1⟩:=r1;obtain ⟨fp1,H3⟩:=eP1.res e2 r1;refine sV Z (ao cD cT Z Z ee2 k (by omega) (by omega)) (og (wn Z) cT H3 0 1 Z Z Z k (by rw [fR (xs:=xs) (k:=k) (by omega)]; omega) Z ee2 Z (fun w4 fp2 H4=>aa ?_));obtain ⟨hg,hg2⟩:=ff hl k (by omega);refine aj (sM Z Z (sV Z (aw Z Z iO) (sA Z Z (aa (⟨(k+1,_),⟨Z,Z,Z,trivial⟩,⟨mq (xs:=xs) (k:=k) (d:=default) (by omega) ▸ ((H4.ftake 1).dtake 1),by omega⟩,by dsimp only; omega⟩)))))
 ·refine aD (ab (sR 2 Z (rN hQ results84 Z ?_)));obtain rfl:k=xs.length:=by omega
  exact ⟨H2.ext,by
   have h:=H2.out 0 Z
   rwa [nb] at h⟩
theorem nW {w:World}{xs:List Tape}{xsA:Option Addr}{xsC:Nat}{ys:List Tape}{ysA:Option Addr}{ysC:Nat}(xsS:Sees w [.slice xsA xs.length xsC] xs) (ysS:Sees w [.slice ysA ys.length ysC] ys):Ret Tryz.prog 93 #[.slice xsA xs.length xsC,.slice ysA ys.length ysC] w fun v w'=>Ext No w w'∧(v = .bool (decide (xs=ys))):=by
 have xsL:=sL xsS;obtain ⟨xsF,xsO⟩:=xsS;have ysL:=sL ysS;obtain ⟨ysF,ysO⟩:=ysS;refine aA (vs:=[.slice xsA xs.length xsC,.slice ysA ys.length ysC]) func93 Z ntmps93 Z (fun Q hQ hN=>?_);have H0:=Sep.start (w:=w) (F:=[seen false [.slice xsA xs.length xsC] xs xsF,seen false [.slice ysA ys.length ysC] ys ysF]) (ae xsO (ae ysO (by simp)));refine ab (sA Z Z (aa (ac (ab (sM Z Z (sV Z (ax cD Z) (sM Z Z (sV Z (ax cD Z) (sV Z (bg Z Z) (aa (au Z (fun c1=>?_) (fun c1=>?_))))))))))))
 ·refine ab (sA Z Z (aa (rT hQ results93 Z (⟨H0.ext,?_⟩))));rw [decide_eq_false (fun e=>by subst e; exact c1 rfl)]
 ·refine ag (ac (ab (sA Z Z (aa (ai (aM (γ:=Nat) (fun k=>[(0,.slice xsA xs.length xsC),(1,.slice ysA ys.length ysC),(5,.int .i64 k)]) (fun k w'=>Sep No w [] [seen false [.slice xsA xs.length xsC] xs xsF,seen false [.slice ysA ys.length ysC] ys ysF] w'∧k≤xs.length∧(∀ i,i<k→xs.getD i default=ys.getD i default)) (fun k=>xs.length-k) 0 ⟨Z,Z,Z,trivial⟩ ⟨H0,by omega,fun i hi=>by omega⟩ (fun k w1 H1=>?_)))))));obtain ⟨H1,hk,he⟩:=H1;refine ac (ab (sR 2 Z (sV Z (ax cD Z) (sV Z (aI Z Z) (aa (au Z (fun c2=>?_) (fun c2=>?_)))))))
  ·refine ag (ac (ai (ac ?_)));obtain ⟨eb1,eo1,es1,ef1,ee1,ec1,eO1,eH1,em1⟩:=bf (H1.seen 0 Z) k (by omega);obtain ⟨ea1,ek1,eg1,rfl,eq1,eK1,eo2⟩:=cv eO1;have eP1:=H1.look1 0 Z eo2 (fun b hb=>eH1 b (by rw [eq1]; simp [hb]));have eL1:=oL eo2;obtain ⟨eb2,eo3,es2,ef2,ee2,ec2,eO2,eH2,em2⟩:=bf (eP1.seen 1 Z) k (by omega);obtain ⟨ea2,ek2,eg2,rfl,eq2,eK2,eo4⟩:=cv eO2;have eP2:=eP1.look1 1 Z eo4 (fun b hb=>eH2 b (by rw [eq2]; simp [hb]));have eL2:=oL eo4;refine bv (S:=Ext No _) (oQ [1,3,5,7,9,11,13,15,16,18]) (by kernel_rfl) (by kernel_rfl) (by kernel_rfl) Z (fun _=>Ext.refl.drawn _) (fun q1=>?_);have H2:=eP2.drawn q1;refine dR 2 Z (dV Z Z (fun zw hx=>ao cD cT Z Z ee1 k (by omega) (by omega)) (dV Z Z (fun zw hx=>an cP Z cT Z Z (hx.at ec1)) (dR 2 Z (dV Z Z (fun zw hx=>ao cD cT Z Z ee2 k (by omega) (by omega)) (dV Z Z (fun zw hx=>an cP Z cT Z Z (hx.at ec2)) (dC func200 wT Z (oU (by assumption) (H2.sees 2 Z) (by assumption) (H2.sees 3 Z)) (fun v1 w2 r1=>?_)))))));obtain ⟨e1,rfl⟩:=r1;have H3:=H2.to e1;refine aQ Z (wn Z) Z Z (aN Z) (aP (bz Z (fun c3=>?_) (fun c3=>?_)))
   ·refine ab (sA Z Z (aa (rT hQ results93 Z (⟨H3.ext,?_⟩))));rw [decide_eq_false (fun e=>by subst e; simp at c3)]
   ·refine ag (aj (sM Z Z (sV Z (aw Z Z iO) (sA Z Z (aa ?_)))));have c4:xs.getD k default=ys.getD k default:=by simpa using c3
    refine ⟨k+1,⟨Z,Z,Z,trivial⟩,⟨(H3.ftake 2),by omega,fun i hi=>?_⟩,by dsimp only; omega⟩
    by_cases e:i=k
    ·subst e; exact c4
    ·exact he i (by omega)
  ·refine aD (ab (sA Z Z (aa (rT hQ results93 Z (⟨H1.ext,?_⟩)))));rw [decide_eq_true (cJ (d:=default) (by omega) fun i hi=>he i (by omega))]
theorem nH {w:World}{x:Wld}{xA9 xA10 xA11:Option Addr}{xC9 xC10 xC11:Nat}{l:Int}(xK:x.Ok) (xS9:Sees w [.slice xA9 x.Groups.length xC9] x.Groups) (xS10:Sees w [.slice xA10 x.On.length xC10] x.On) (xS11:Sees w [.slice xA11 x.Tapes.length xC11] x.Tapes) (hl : -1≤l∧l≤1048576):Ret Tryz.prog 15 #[x.val xA9 xC9 xA10 xC10 xA11 xC11,.int .i64 l] w fun v w'=>Ext No w w'∧(v = .int .i64 (if l-ga x<0 then -1 else l-ga x)):=by
 have xK2:=xK;unfold Wld.Ok Shape.Ok at xK2
 try unfold I64ok at xK2
 try unfold maxLen at xK2
 have xL9:=sL xS9;obtain ⟨xF9,xO9⟩:=xS9;have xL10:=sL xS10;obtain ⟨xF10,xO10⟩:=xS10;have xL11:=sL xS11;obtain ⟨xF11,xO11⟩:=xS11;refine aA (vs:=[x.val xA9 xC9 xA10 xC10 xA11 xC11,.int .i64 l]) func15 Z ntmps15 Z (fun Q hQ hN=>?_);have H0:=Sep.start (w:=w) (F:=[seen false [.slice xA9 x.Groups.length xC9] x.Groups xF9,seen false [.slice xA10 x.On.length xC10] x.On xF10,seen false [.slice xA11 x.Tapes.length xC11] x.Tapes xF11]) (ae xO9 (ae xO10 (ae xO11 (by simp))));refine ab (aV (wn Z) Z Z H0 (fun b1 w1 e1 g1 H1=>sA Z Z (aa (ab (sF mh Z E8 (sLd vw (H1.box 0 Z) Z (sM Z Z (sE func74 AF Z (lW (H1.sees 0 Z) (by omega)) H1 (fun w2 e2 H2=>sA Z Z (aa (ac (ab (sR 2 Z (aa (au Z (fun c1=>?_) (fun c1=>?_))))))))))))))))
 ·refine ab (rA hQ results15 Z ?_);exact ⟨H2.ext,congrArg (Value.int .i64) (by unfold ga; omega)⟩
 ·refine ag (ab (sF mh Z cB (sLd bd (H2.box 0 Z) Z (sM Z Z (sE func75 s9 Z (iE (H2.sees 1 Z) (by omega)) H2 (fun w3 e3 H3=>sA Z Z (aa (ac (ab (sR 2 Z (aa (au Z (fun c2=>?_) (fun c2=>?_)))))))))))))
  ·refine ab (rA hQ results15 Z ?_);exact ⟨H3.ext,congrArg (Value.int .i64) (by unfold ga; omega)⟩
  ·refine ag (ab (sF mh Z EK (sLd vy (H3.box 0 Z) Z (sM Z Z (sE func76 AE Z (nJ (H3.sees 2 Z) (by omega)) H3 (fun w4 e4 H4=>sA Z Z (aa (ac (ab (sR 2 Z (aa (au Z (fun c3=>?_) (fun c3=>?_)))))))))))))
   ·refine ab (rA hQ results15 Z ?_);exact ⟨H4.ext,congrArg (Value.int .i64) (by unfold ga; omega)⟩
   ·refine ag (ab (sR 2 Z (rN hQ results15 Z ?_)));exact ⟨H4.ext,congrArg (Value.int .i64) (by unfold ga; omega)⟩
theorem er {w:World}{x:Wld}{xA9 xA10 xA11:Option Addr}{xC9 xC10 xC11:Nat}(xK:x.Ok) (xS9:Sees w [.slice xA9 x.Groups.length xC9] x.Groups) (xS10:Sees w [.slice xA10 x.On.length xC10] x.On) (xS11:Sees w [.slice xA11 x.Tapes.length xC11] x.Tapes) (hb:ga x≤1048576):Ret Tryz.prog 17 #[x.val xA9 xC9 xA10 xC10 xA11 xC11] w fun v w'=>Ext No w w'∧(∃ A9 C9 A10 C10 A11 C11,v=x.val A9 C9 A10 C10 A11 C11∧Res w w' [.int .i64 x.Shape.Groups,.int .i64 x.Shape.Column,.int .i64 x.Shape.Data,.int .i64 x.Shape.Spare,.int .i64 x.Shape.Rows,.int .i64 x.Shape.Cap,.int .i64 x.Shape.Batch,.int .i64 x.Shape.Queue,.int .i64 x.Shape.Stage,.slice A9 x.Groups.length C9,.slice A10 x.On.length C10,.slice A11 x.Tapes.length C11,.int .i64 x.Writes,.int .i64 x.Stop,.bool x.Down] x):=by
 have xK2:=xK;unfold Wld.Ok Shape.Ok at xK2
 try unfold I64ok at xK2
 try unfold maxLen at xK2
 have xL9:=sL xS9;obtain ⟨xF9,xO9⟩:=xS9;have xL10:=sL xS10;obtain ⟨xF10,xO10⟩:=xS10;have xL11:=sL xS11;obtain ⟨xF11,xO11⟩:=xS11;unfold ga at hb;refine aA (vs:=[x.val xA9 xC9 xA10 xC10 xA11 xC11]) func17 Z ntmps17 Z (fun Q hQ hN=>?_);have H0:=Sep.start (w:=w) (F:=[seen false [.slice xA9 x.Groups.length xC9] x.Groups xF9,seen false [.slice xA10 x.On.length xC10] x.On xF10,seen false [.slice xA11 x.Tapes.length xC11] x.Tapes xF11]) (ae xO9 (ae xO10 (ae xO11 (by simp))));refine ab (aV (wn Z) Z Z H0 (fun b1 w1 e1 g1 H1=>cI (wn Z) Z zeroValue34 H1 (fun b2 w2 e2 g2 H2=>aa (ab (cI (wn Z) Z zeroValue34 H2 (fun b3 w3 e3 g3 H3=>aa (ab (sF mh Z Fc (sV Z (an sa Z Fc Z Z (At.sub (H3.box 0 Z) 9)) (sE func81 AR Z oi H3 (fun w4 e4 H4=>sF bn Z bV (bE (wn Z) bV Z Z Z Z H4 2 Z Z (fun w5 e5 H5=>?_)))))))))))));dsimp only[lNA,lCA,lSZ,lSS,bk] at H5;refine aa (ab (sF mh Z E8 (sLd vw (H5.box 0 Z) Z (sC func82 Ao Z (lL (H5.sees 0 Z) (by first | assumption | omega)) (fun v2 w6 r2=>?_)))));obtain ⟨e6,r2⟩:=r2;obtain ⟨fp1,H6⟩:=H5.res e6 r2;obtain ⟨a1,k1,q1⟩:=aB (H6.mine 3 Z);cases q1;refine sF bn Z lf (cl (wn Z) lf Z Z Z H6 2 Z Z (fun w7 e7 H7=>?_));dsimp only[lNA,lCA,lSZ,lSS,bk] at H7;refine aa (ab (sF mh Z cB (sLd bd (H7.box 0 Z) Z (sC func83 tv Z (iL (H7.sees 1 Z) (by omega)) (fun v3 w8 r3=>?_)))));obtain ⟨e8,r3⟩:=r3;obtain ⟨fp2,H8⟩:=H7.res e8 r3;obtain ⟨a2,k2,q2⟩:=aB (H8.mine 4 Z);cases q2;refine sF bn Z cB (cl (wn Z) cB Z Z Z H8 2 Z Z (fun w9 e9 H9=>?_));dsimp only[lNA,lCA,lSZ,lSS,bk] at H9;refine aa (ab (sF mh Z EK (sLd vy (H9.box 0 Z) Z (sC func84 Aw Z (nB (H9.sees 2 Z) (by first | assumption | omega)) (fun v4 w10 r4=>?_)))));obtain ⟨e10,r4⟩:=r4;obtain ⟨fp3,H10⟩:=H9.res e10 r4;obtain ⟨a3,k3,q3⟩:=aB (H10.mine 5 Z);cases q3;refine sF bn Z gz (cl (wn Z) gz Z Z Z H10 2 Z Z (fun w11 e11 H11=>?_));dsimp only[lNA,lCA,lSZ,lSS,bk] at H11;refine aa (ab (sF mh Z ts2 (sLd tu2 (H11.box 0 Z) Z (sF bn Z ts2 (cl (wn Z) ts2 Z Z Z H11 2 Z Z (fun w12 e12 H12=>?_))))));dsimp only[lNA,lCA,lSZ,lSS,bk] at H12;refine aa (ab (sF mh Z ts2 (sLd tu2 (H12.box 0 Z) Z (sF bn Z ts2 (cl (wn Z) ts2 Z Z Z H12 2 Z Z (fun w13 e13 H13=>?_))))));dsimp only[lNA,lCA,lSZ,lSS,bk] at H13;refine aa (ab (sF mh Z ts4 (sLd tu4 (H13.box 0 Z) Z (sF bn Z ts4 (cl (wn Z) ts4 Z Z Z H13 2 Z Z (fun w14 e14 H14=>?_))))));dsimp only[lNA,lCA,lSZ,lSS,bk] at H14;refine aa (ab (sV Z (an bn Z lR Z Z (At.whole (H14.box 2 Z))) (bE (wn Z) lR Z Z Z Z H14 1 Z Z (fun w15 e15 H15=>?_))));dsimp only[lNA,lCA,lSZ,lSS,bk] at H15;refine aa (cj (hQ _ _ (jz results17 Z (bh bn Z lR Z (At.whole (H15.box 1 Z))) ?_)));exact ⟨H15.ext,_,_,_,_,_,_,Z,Wld.out (H15.sub (.cons _ (.cons _ (.cons _ (.cons_cons _ (.cons_cons _ (.cons_cons _ List.Sublist.slnil))))))) xK⟩
theorem nz {w:World}{a b:Wld}{aA9 aA10 aA11 bA9 bA10 bA11:Option Addr}{aC9 aC10 aC11 bC9 bC10 bC11:Nat}(aK:a.Ok) (aS9:Sees w [.slice aA9 a.Groups.length aC9] a.Groups) (aS10:Sees w [.slice aA10 a.On.length aC10] a.On) (aS11:Sees w [.slice aA11 a.Tapes.length aC11] a.Tapes) (bK:b.Ok) (bS9:Sees w [.slice bA9 b.Groups.length bC9] b.Groups) (bS10:Sees w [.slice bA10 b.On.length bC10] b.On) (bS11:Sees w [.slice bA11 b.Tapes.length bC11] b.Tapes):Ret Tryz.prog 20 #[a.val aA9 aC9 aA10 aC10 aA11 aC11,b.val bA9 bC9 bA10 bC10 bA11 bC11] w fun v w'=>Ext No w w'∧(v = .bool (decide (a=b))):=by
 have aK2:=aK;unfold Wld.Ok Shape.Ok at aK2
 try unfold I64ok at aK2
 try unfold maxLen at aK2
 have aL9:=sL aS9;obtain ⟨aF9,aO9⟩:=aS9;have aL10:=sL aS10;obtain ⟨aF10,aO10⟩:=aS10;have aL11:=sL aS11;obtain ⟨aF11,aO11⟩:=aS11;have bK2:=bK;unfold Wld.Ok Shape.Ok at bK2
 try unfold I64ok at bK2
 try unfold maxLen at bK2
 have bL9:=sL bS9;obtain ⟨bF9,bO9⟩:=bS9;have bL10:=sL bS10;obtain ⟨bF10,bO10⟩:=bS10;have bL11:=sL bS11;obtain ⟨bF11,bO11⟩:=bS11;refine aA (vs:=[a.val aA9 aC9 aA10 aC10 aA11 aC11,b.val bA9 bC9 bA10 bC10 bA11 bC11]) func20 Z ntmps20 Z (fun Q hQ hN=>?_);have H0:=Sep.start (w:=w) (F:=[seen false [.slice aA9 a.Groups.length aC9] a.Groups aF9,seen false [.slice aA10 a.On.length aC10] a.On aF10,seen false [.slice aA11 a.Tapes.length aC11] a.Tapes aF11,seen false [.slice bA9 b.Groups.length bC9] b.Groups bF9,seen false [.slice bA10 b.On.length bC10] b.On bF10,seen false [.slice bA11 b.Tapes.length bC11] b.Tapes bF11]) (ae aO9 (ae aO10 (ae aO11 (ae bO9 (ae bO10 (ae bO11 (by simp)))))));refine ab (aV (wn Z) Z Z H0 (fun b1 w1 e1 g1 H1=>aV (wn Z) Z Z H1 (fun b2 w2 e2 g2 H2=>sA Z Z (aa (ac (ab (sF bn Z bV (sV Z (an be Z bV Z Z (At.sub (H2.box 0 Z) 9)) (sF bn Z bV (sV Z (an be Z bV Z Z (At.sub (H2.box 1 Z) 9)) (sE func90 As Z nS H2 (fun w3 e3 H3=>sV Z (aN Z) (aa (bz Z (fun c1=>?_) (fun c1=>?_)))))))))))))))
 ·refine ab (sA Z Z (aa (rT hQ results20 Z (⟨H3.ext,?_⟩))));rw [decide_eq_false (fun e=>by subst e; first | exact c1 rfl | simp at c1)]
 ·refine ag (ac (ab (sF bn Z lf (sLd eo (H3.box 0 Z) Z (sF bn Z lf (sLd eo (H3.box 1 Z) Z (sE func91 Aq Z (lT (H3.sees 0 Z) (H3.sees 3 Z)) H3 (fun w4 e4 H4=>sV Z (aN Z) (aa (bz Z (fun c2=>?_) (fun c2=>?_)))))))))))
  ·refine ab (sA Z Z (aa (rT hQ results20 Z (⟨H4.ext,?_⟩))));rw [decide_eq_false (fun e=>by subst e; first | exact c2 rfl | simp at c2)]
  ·refine ag (ac (ab (sF bn Z cB (sLd bd (H4.box 0 Z) Z (sF bn Z cB (sLd bd (H4.box 1 Z) Z (sE func92 tt Z (ik (H4.sees 1 Z) (H4.sees 4 Z)) H4 (fun w5 e5 H5=>sV Z (aN Z) (aa (bz Z (fun c3=>?_) (fun c3=>?_)))))))))))
   ·refine ab (sA Z Z (aa (rT hQ results20 Z (⟨H5.ext,?_⟩))));rw [decide_eq_false (fun e=>by subst e; first | exact c3 rfl | simp at c3)]
   ·refine ag (ac (ab (sF bn Z gz (sLd cD (H5.box 0 Z) Z (sF bn Z gz (sLd cD (H5.box 1 Z) Z (sE func93 AZ Z (nW (H5.sees 2 Z) (H5.sees 5 Z)) H5 (fun w6 e6 H6=>sV Z (aN Z) (aa (bz Z (fun c4=>?_) (fun c4=>?_)))))))))))
    ·refine ab (sA Z Z (aa (rT hQ results20 Z (⟨H6.ext,?_⟩))));rw [decide_eq_false (fun e=>by subst e; first | exact c4 rfl | simp at c4)]
    ·refine ag (ac (ab (sF bn Z ts2 (sLd tu2 (H6.box 0 Z) Z (sF bn Z ts2 (sLd tu2 (H6.box 1 Z) Z (sV Z (bg Z Z) (aa (au Z (fun c5=>?_) (fun c5=>?_))))))))))
     ·refine ab (sA Z Z (aa (rT hQ results20 Z (⟨H6.ext,?_⟩))));rw [decide_eq_false (fun e=>by subst e; first | exact c5 rfl | simp at c5)]
     ·refine ag (ac (ab (sF bn Z ts2 (sLd tu2 (H6.box 0 Z) Z (sF bn Z ts2 (sLd tu2 (H6.box 1 Z) Z (sV Z (bg Z Z) (aa (au Z (fun c6=>?_) (fun c6=>?_))))))))))
      ·refine ab (sA Z Z (aa (rT hQ results20 Z (⟨H6.ext,?_⟩))));rw [decide_eq_false (fun e=>by subst e; first | exact c6 rfl | simp at c6)]
      ·refine ag (ac (ab (sF bn Z ts4 (sLd tu4 (H6.box 0 Z) Z (sF bn Z ts4 (sLd tu4 (H6.box 1 Z) Z (sV Z (tO tu4 Z Z) (aa (bz Z (fun c7=>?_) (fun c7=>?_))))))))))
       ·refine ab (sA Z Z (aa (rT hQ results20 Z (⟨H6.ext,?_⟩))));rw [decide_eq_false (fun e=>by subst e; first | exact c7 rfl | simp at c7)]
       ·refine ag (ab (sA Z Z (aa (rT hQ results20 Z (⟨H6.ext,?_⟩)))));rw [decide_eq_true];cases a; cases b; simp_all [ib]
end Go.Wk
namespace Go.Wk
open Go.Proofs Rp Go.Proofs.Tryz
set_option maxRecDepth 10000
theorem ce {w:World}{ws:List RecV}{A:Option Addr}{n C a b m:Nat}{fp:List Nat}{gf:FuncId}{gL:List Value}{xa xb xm:Int}(o:own true w [.slice A n C] ws fp) (nd:fp.Nodup) (ha:xa=(a:Nat)) (hb:xb=(b:Nat)) (hm:xm=(m:Nat)) (h1:a+m≤b) (h2:b+m≤ws.length) (h0:0<ws.length):Ret Tryz.prog 451 #[.slice A n C,.int .i64 xa,.int .i64 xb,.int .i64 xm,.func (.func gf) #[] gL.toArray] w fun v w'=>(∃ ws',Mut w w' fp [.slice A n C] ws'∧ws'=gc ws a b m):=by
 subst ha;subst hb;subst hm;obtain rfl:=eS o;obtain ⟨hb0,ho0,had0⟩:=dJ o 0 (by omega);subst had0;have wL:=oL o;refine aA (vs:=[.slice (some ⟨hb0,ho0,none⟩) ws.length C,.int .i64 (a:Nat),.int .i64 (b:Nat),.int .i64 (m:Nat),.func (.func gf) #[] gL.toArray]) func451 Z ntmps451 Z (fun Q hQ hN=>?_);have H0:=Sep.begin o nd;refine ab (sA Z Z (aa (ai (aM (γ:=Nat × List Nat) (fun (i,f)=>[(0,.slice (some ⟨hb0,ho0,none⟩) ws.length C),(1,.int .i64 a),(2,.int .i64 b),(3,.int .i64 m),(10,.int .i64 i)]) (fun (i,f) w'=>Sep (· ∈ fp) w [mine [.slice (some ⟨hb0,ho0,none⟩) ws.length C] (gc ws a b i) f] [] w'∧i≤m) (fun (i,f)=>m-i) (0,fp) ⟨Z,Z,Z,Z,Z,trivial⟩ ⟨H0,by omega⟩ (fun (i,f) w1 H1=>?_)))));obtain ⟨H1,hi⟩:=H1;refine ac (ab (sR 3 Z (aa (au Z (fun c1=>?_) (fun c1=>?_)))))
 ·refine ag (ac (ai ?_));have sl:=dm (l:=ws) (a:=a) (b:=b) (n:=i);obtain ⟨eb1,eo1,ee1,ec1,eK1⟩:=H1.viewAt 0 Z (a+i) (by omega);obtain ⟨eb2,eo2,ee2,ec2,eK2⟩:=H1.viewAt 0 Z (b+i) (by omega);refine bv (S:=fun _=>True) (oQ [1,3,5,7,9,11,13,15,17,19,21,23,25,29,31,33,35,37,2012,26,38,41,42,45,46,38,26,41,42,45,46]) (by kernel_rfl) (by kernel_rfl) (by kernel_rfl) Z (fun _=>trivial) (fun q1=>?_);have H2:=H1.drawn q1;refine dR 3 Z (dV Z Z (fun zw hx=>aw Z Z iO) (dR 3 Z (dV Z Z (fun zw hx=>aw Z Z iO) (dR 3 Z (dV Z Z (fun zw hx=>aw Z Z iO) (dV Z Z (fun zw hx=>ao aS aL Z Z ee2 (b+i) (by omega) (by omega)) (dR 3 Z (dV Z Z (fun zw hx=>aw Z Z iO) (dV Z Z (fun zw hx=>ao aS aL Z Z ee1 (a+i) (by omega) (by omega)) (dF Z ?_ ?_))))))))))
  ·refine aQ Z (wn Z) Z Z (an az Z aL Z Z ec2) (aQ Z (wn Z) Z Z (an az Z aL Z Z ec1) (dV Z Z (fun zw hx=>ao aS aL Z Z Z (a+i) (by omega) (by omega)) (dx (u:=((gc ws a b i).getD (b+i) default)) Z (wn Z) aL H2 0 Z (a+i) (by omega) Z Z Z eK2 (fun _ _ _ _=>trivial) (fun w2 fp1 H3=>?_))))
   try dsimp only[lNA,lCA,lSZ,lSS] at H3
   refine dV Z Z (fun zw hx=>ao aS aL Z Z Z (b+i) (by omega) (by omega)) (dx (u:=((gc ws a b i).getD (a+i) default)) Z (wn Z) aL H3 0 Z (b+i) (by rw [List.length_set]; omega) Z Z Z eK1 (fun _ _ _ _=>trivial) (fun w3 fp2 H4=>?_))
   try dsimp only[lNA,lCA,lSZ,lSS] at H4
   refine aP (aj (sM Z Z (sV Z (aw Z Z iO) (sA Z Z (aa (⟨(i+1,_),⟨Z,Z,Z,Z,Z,trivial⟩,⟨H4,by omega⟩,by dsimp only; omega⟩))))))
  ·refine aQ Z (wn Z) Z Z (an az Z aL Z Z ec1) (aQ Z (wn Z) Z Z (an az Z aL Z Z ec2) (dV Z Z (fun zw hx=>ao aS aL Z Z Z (a+i) (by omega) (by omega)) (dx (u:=((gc ws a b i).getD (b+i) default)) Z (wn Z) aL H2 0 Z (a+i) (by omega) Z Z Z eK2 (fun _ _ _ _=>trivial) (fun w4 fp3 H5=>?_))))
   try dsimp only[lNA,lCA,lSZ,lSS] at H5
   refine dV Z Z (fun zw hx=>ao aS aL Z Z Z (b+i) (by omega) (by omega)) (dx (u:=((gc ws a b i).getD (a+i) default)) Z (wn Z) aL H5 0 Z (b+i) (by rw [List.length_set]; omega) Z Z Z eK1 (fun _ _ _ _=>trivial) (fun w5 fp4 H6=>?_))
   try dsimp only[lNA,lCA,lSZ,lSS] at H6
   refine aP (aj (sM Z Z (sV Z (aw Z Z iO) (sA Z Z (aa (⟨(i+1,_),⟨Z,Z,Z,Z,Z,trivial⟩,⟨H6,by omega⟩,by dsimp only; omega⟩))))))
 ·refine aD (hN _ _ (ot results451 ?_));obtain rfl:i=m:=by omega
  exact ⟨_,H1.done,Z⟩
theorem fv {w:World}{ws:List RecV}{A:Option Addr}{n C a m b:Nat}{fp:List Nat}{gf:FuncId}{gL:List Value}{xa xm xb:Int}(o:own true w [.slice A n C] ws fp) (nd:fp.Nodup) (ha:xa=(a:Nat)) (hm:xm=(m:Nat)) (hb:xb=(b:Nat)) (h1:a<m) (h2:m<b) (h3:b≤ws.length):Ret Tryz.prog 444 #[.slice A n C,.int .i64 xa,.int .i64 xm,.int .i64 xb,.func (.func gf) #[] gL.toArray] w fun v w'=>(∃ ws',Mut w w' fp [.slice A n C] ws'∧ws'=eU ws a m b):=by
 subst ha;subst hm;subst hb;obtain rfl:=eS o;obtain ⟨hb0,ho0,had0⟩:=dJ o 0 (by omega);subst had0;have wL:=oL o;refine aA (vs:=[.slice (some ⟨hb0,ho0,none⟩) ws.length C,.int .i64 (a:Nat),.int .i64 (m:Nat),.int .i64 (b:Nat),.func (.func gf) #[] gL.toArray]) func444 Z ntmps444 Z (fun Q hQ hN=>?_);have H0:=Sep.begin o nd;refine ab (sR 2 Z (sV Z (bm Z Z iO) (sA Z Z (aa (ab (sR 2 Z (sV Z (bm Z Z iO) (sA Z Z (aa (ac (ai (aM (γ:=Nat × Nat × List RecV × List Nat) (fun (i,j,l,f)=>[(0,.slice (some ⟨hb0,ho0,none⟩) ws.length C),(1,.int .i64 a),(2,.int .i64 m),(3,.int .i64 b),(4,.func (.func gf) #[] gL.toArray),(10,.int .i64 i),(11,.int .i64 j)]) (fun (i,j,l,f) w'=>Sep (· ∈ fp) w [mine [.slice (some ⟨hb0,ho0,none⟩) ws.length C] l f] [] w'∧1≤i∧1≤j∧i≤m∧m+j≤ws.length∧l.length=ws.length∧eU l (m-i) m (m+j)=eU ws a m b) (fun (i,j,l,f)=>i+j) (m-a,b-m,ws,fp) ⟨Z,Z,Z,Z,Z,eqI (by omega),eqI (by omega),trivial⟩ ⟨H0,by omega,by omega,by omega,by omega,Z,by rw [show m-(m-a)=a by omega,show m+(b-m)=b by omega]⟩ (fun (i,j,l,f) w1 H1=>?_)))))))))))));obtain ⟨H1,hi1,hj1,him,hmj,hll,hre⟩:=H1;refine ac (ab (sR 3 Z (aa (au Z (fun c1=>?_) (fun c1=>?_)))))
 ·refine ag (ai (ab (sR 3 Z (aa (au Z (fun c2=>?_) (fun c2=>?_))))))
  ·refine ab (sR 3 Z (sV Z (bm Z Z iO) (sR 3 Z (sC func451 mJ Z (ce (a:=m-i) (b:=m) (m:=j) (H1.mine 0 Z) (H1.nodup1 (i:=0) Z) (by omega) (by omega) (by omega) (by omega) (by omega) (by omega)) (fun v1 w2 r1=>?_)))));obtain ⟨x1,mm1,rfl⟩:=r1;obtain ⟨fp1,H2⟩:=H1.mut 0 Z mm1
   try dsimp only[lNA,lCA,lSZ,lSS] at H2
   refine aa (aj (sR 2 Z (sV Z (bm Z Z iO) (sA Z Z (aa (⟨(i-j,j,gc l (m-i) m j,_),⟨Z,Z,Z,Z,Z,eqI (by omega),eqI (by omega),trivial⟩,⟨H2,by omega,by omega,by omega,by omega,by rw [dm]; exact hll,?_⟩,by dsimp only; omega⟩))))));rw [show m-(i-j)=m-i+j by omega,BG (by omega) (by omega) (by omega)]; exact hre
  ·refine ab (sR 3 Z (sV Z (bm Z Z iO) (sR 2 Z (sV Z (aw Z Z iO) (sM Z Z (sV Z (bm Z Z iO) (sR 2 Z (sC func451 mJ Z (ce (a:=m-i) (b:=m+j-i) (m:=i) (H1.mine 0 Z) (H1.nodup1 (i:=0) Z) (by omega) (by omega) (by omega) (by omega) (by omega) (by omega)) (fun v2 w3 r2=>?_)))))))));obtain ⟨x2,mm2,rfl⟩:=r2;obtain ⟨fp2,H3⟩:=H1.mut 0 Z mm2
   try dsimp only[lNA,lCA,lSZ,lSS] at H3
   refine aa (aj (sR 2 Z (sV Z (bm Z Z iO) (sA Z Z (aa (⟨(i,j-i,gc l (m-i) (m+j-i) i,_),⟨Z,Z,Z,Z,Z,eqI (by omega),eqI (by omega),trivial⟩,⟨H3,by omega,by omega,by omega,by omega,by rw [dm]; exact hll,?_⟩,by dsimp only; omega⟩))))));rw [show m+(j-i)=m+j-i by omega,Ak (by omega) (by omega) (by omega)]; exact hre
 ·refine aD (aj (sR 3 Z (sV Z (bm Z Z iO) (sR 3 Z (sC func451 mJ Z (ce (a:=m-i) (b:=m) (m:=i) (H1.mine 0 Z) (H1.nodup1 (i:=0) Z) (by omega) (by omega) (by omega) (by omega) (by omega) (by omega)) (fun v3 w4 r3=>?_))))));obtain ⟨x3,mm3,rfl⟩:=r3;obtain ⟨fp3,H4⟩:=H1.mut 0 Z mm3
  try dsimp only[lNA,lCA,lSZ,lSS] at H4
  refine aa (hN _ _ (ot results444 ?_));obtain rfl:i=j:=by omega
  exact ⟨_,H4.done,by rw [DN (by omega) (by omega)]; exact hre⟩
theorem cC {w:World}{ws:List RecV}{A:Option Addr}{n C a b:Nat}{fp:List Nat}{gf:FuncId}{gL:List Value}{gF:Func}{xa xb:Int}(o:own true w [.slice A n C] ws fp) (nd:fp.Nodup) (ha:xa=(a:Nat)) (hb:xb=(b:Nat)) (gH:Tryz.prog.funcs[gf]? = some gF) (gB:gF.body.isNone=false) (gN:NG gF) (gC:∀ w1,Ext (· ∈ fp) w w1→∀ (x y:Rec) (A6:Option Addr) (C6:Nat) (A7:Option Addr) (C7:Nat) (A8:Option Addr) (C8:Nat) (B6:Option Addr) (D6:Nat) (B7:Option Addr) (D7:Nat) (B8:Option Addr) (D8:Nat),Ret Tryz.prog gf (([x.val A6 C6 A7 C7 A8 C8,y.val B6 D6 B7 D7 B8 D8]:List Value)++gL).toArray w1 fun v w'=>Ext No w1 w'∧v = .int .i64 (cfR x y)) (h1:a≤b) (h2:b≤ws.length) (h0:0<ws.length) (hL:ws.length≤1000000):Ret Tryz.prog 408 #[.slice A n C,.int .i64 xa,.int .i64 xb,.func (.func gf) #[] gL.toArray] w fun v w'=>(∃ ws',Mut w w' fp [.slice A n C] ws'∧SortSeg ws ws' a b):=by
 subst ha;subst hb;obtain rfl:=eS o;obtain ⟨hb0,ho0,had0⟩:=dJ o 0 (by omega);subst had0;have wL:=oL o;refine aA (vs:=[.slice (some ⟨hb0,ho0,none⟩) ws.length C,.int .i64 (a:Nat),.int .i64 (b:Nat),.func (.func gf) #[] gL.toArray]) func408 Z ntmps408 Z (fun Q hQ hN=>?_);have H0:=Sep.begin o nd;refine ab (sM Z Z (sV Z (aw Z Z iO) (sA Z Z (aa (ai (aM (γ:=Nat × List RecV × List Nat) (fun (i,l,f)=>[(0,.slice (some ⟨hb0,ho0,none⟩) ws.length C),(1,.int .i64 a),(2,.int .i64 b),(3,.func (.func gf) #[] gL.toArray),(8,.int .i64 i)]) (fun (i,l,f) w'=>Sep (· ∈ fp) w [mine [.slice (some ⟨hb0,ho0,none⟩) ws.length C] l f] [] w'∧a<i∧InsO ws l a b i) (fun (i,l,f)=>b-i) (a+1,ws,fp) ⟨Z,Z,Z,Z,eqI (by omega),trivial⟩ ⟨H0,by omega,xn h2⟩ (fun (i,l,f) w1 H1=>?_)))))));obtain ⟨H1,hai,hO⟩:=H1;refine ac (ab (sR 3 Z (aa (au Z (fun c1=>?_) (fun c1=>?_)))))
 ·refine ag (ac (ai (ac ?_)));have hil:i<ws.length:=by omega
  have hS:=CH hO hai (by omega);refine aj (sR 2 Z (aa (ai (aM (γ:=Nat × List RecV × List Nat) (fun (j,l,f)=>[(0,.slice (some ⟨hb0,ho0,none⟩) ws.length C),(1,.int .i64 a),(2,.int .i64 b),(3,.func (.func gf) #[] gL.toArray),(8,.int .i64 i),(9,.int .i64 j)]) (fun (j,l,f) w'=>Sep (· ∈ fp) w [mine [.slice (some ⟨hb0,ho0,none⟩) ws.length C] l f] [] w'∧InsInv ws l a i j) (fun (j,l,f)=>j) (i,l,f) ⟨Z,Z,Z,Z,Z,Z,trivial⟩ ⟨H1,te hS (by omega)⟩ (fun (j,l,f) w2 H2=>?_)))));obtain ⟨H2,hI⟩:=H2;refine ac (ac ?_);have hjl:=hI.2.1;have hja:=hI.1;have hll:=hI.2.2.1;refine bv (S:=Ext No _) (oQ [1,3,5,7,9,11,13,15,17,19,21,23,25,27,28,31,32]) (by kernel_rfl) (by kernel_rfl) (by kernel_rfl) Z (fun _=>Ext.refl.drawn _) (fun q1=>?_);have H3:=H2.drawn q1;refine dR 4 Z (cm (t:=21) Z (fun hg1=>?_) (fun hg1=>?_))
  ·try simp only [decide_eq_true_eq] at hg1
   refine aC Z (wg Z Z Z) Z Z (fun zw hx=>aG Z) (aC Z (wg Z Z Z) Z Z (fun zw hx=>aG Z) (aC Z (wg Z Z Z) Z Z (fun zw hx=>aG Z) ?_));obtain ⟨eb1,eo1,ee1,ec1,eK1⟩:=H3.viewAt 0 Z j (by omega);refine aC Z (wg Z Z Z) Z Z (fun zw hx=>ao aS aL Z Z ee1 j (by omega) (by omega)) (aC Z (wg Z Z Z) Z Z (fun zw hx=>an az Z aL Z Z (hx.at ec1)) (aC Z (wg Z Z Z) Z Z (fun zw hx=>aG Z) (aC Z (wg Z Z Z) Z Z (fun zw hx=>aG Z) (aC Z (wg Z Z Z) Z Z (fun zw hx=>bm Z Z iO) ?_))));obtain ⟨eb2,eo2,ee2,ec2,eK2⟩:=H3.viewAt 0 Z (j-1) (by omega);refine aC Z (wg Z Z Z) Z Z (fun zw hx=>ao aS aL Z Z ee2 (j-1) (by omega) (by omega)) (aC Z (wg Z Z Z) Z Z (fun zw hx=>an az Z aL Z Z (hx.at ec2)) (cg Z (wg Z Z Z) Z Z (gP (lb:=gL) Z gH gB gN Z) (gC _ H3.ext (l.getD j default).r (l.getD (j-1) default).r (l.getD j default).A6 (l.getD j default).C6 (l.getD j default).A7 (l.getD j default).C7 (l.getD j default).A8 (l.getD j default).C8 (l.getD (j-1) default).A6 (l.getD (j-1) default).C6 (l.getD (j-1) default).A7 (l.getD (j-1) default).C7 (l.getD (j-1) default).A8 (l.getD (j-1) default).C8) (fun hS _ _ r _=>hS.trans r.1.no) (fun v1 w3 r1=>?_)));obtain ⟨e1,rfl⟩:=r1;have H4:=H3.to e1;refine aC Z (wg Z Z Z) Z Z (fun zw hx=>aI Z Z) (aQ Z (wn Z) Z Z (aF Z Z) (aP (au Z (fun c2=>?_) (fun c2=>?_))))
   ·refine ag (ac (ai ?_));have hll:=hI.2.2.1;obtain ⟨eb3,eo3,ee3,ec3,eK3⟩:=H4.viewAt 0 Z j (by omega);refine bv (S:=fun _=>True) (oQ [1,3,5,7,9,11,13,15,17,21,23,25,2012,18,26,29,30,33,34,26,18,29,30,33,34]) (by kernel_rfl) (by kernel_rfl) (by kernel_rfl) Z (fun _=>trivial) (fun q2=>?_);have H5:=H4.drawn q2;refine dR 4 Z (dV Z Z (fun zw hx=>bm Z Z iO) (dR 2 Z (dV Z Z (fun zw hx=>bm Z Z iO) ?_)));obtain ⟨eb4,eo4,ee4,ec4,eK4⟩:=H5.viewAt 0 Z (j-1) (by omega);refine dV Z Z (fun zw hx=>ao aS aL Z Z ee4 (j-1) (by omega) (by omega)) (dR 2 Z (dV Z Z (fun zw hx=>ao aS aL Z Z ee3 j (by omega) (by omega)) (dF Z ?_ ?_)))
    ·refine aQ Z (wn Z) Z Z (an az Z aL Z Z ec4) (aQ Z (wn Z) Z Z (an az Z aL Z Z ec3) (dV Z Z (fun zw hx=>ao aS aL Z Z Z (j) (by omega) (by omega)) (dx (u:=(l.getD (j-1) default)) Z (wn Z) aL H5 0 Z (j) (by omega) Z Z Z eK4 (fun _ _ _ _=>trivial) (fun w4 fp1 H6=>?_))))
     try dsimp only[lNA,lCA,lSZ,lSS] at H6
     refine dV Z Z (fun zw hx=>ao aS aL Z Z Z (j-1) (by omega) (by omega)) (dx (u:=(l.getD j default)) Z (wn Z) aL H6 0 Z (j-1) (by rw [List.length_set]; omega) Z Z Z eK3 (fun _ _ _ _=>trivial) (fun w5 fp2 H7=>?_))
     try dsimp only[lNA,lCA,lSZ,lSS] at H7
     refine aP (aj (sM Z Z (sV Z (bm Z Z iO) (sA Z Z (aa (⟨(j-1,_,_),⟨Z,Z,Z,Z,Z,eqI (by omega),trivial⟩,⟨H7,rn hI (by omega) hil (by omega)⟩,by dsimp only; omega⟩))))))
    ·refine aQ Z (wn Z) Z Z (an az Z aL Z Z ec3) (aQ Z (wn Z) Z Z (an az Z aL Z Z ec4) (dV Z Z (fun zw hx=>ao aS aL Z Z Z (j) (by omega) (by omega)) (dx (u:=(l.getD (j-1) default)) Z (wn Z) aL H5 0 Z (j) (by omega) Z Z Z eK4 (fun _ _ _ _=>trivial) (fun w6 fp3 H8=>?_))))
     try dsimp only[lNA,lCA,lSZ,lSS] at H8
     refine dV Z Z (fun zw hx=>ao aS aL Z Z Z (j-1) (by omega) (by omega)) (dx (u:=(l.getD j default)) Z (wn Z) aL H8 0 Z (j-1) (by rw [List.length_set]; omega) Z Z Z eK3 (fun _ _ _ _=>trivial) (fun w7 fp4 H9=>?_))
     try dsimp only[lNA,lCA,lSZ,lSS] at H9
     refine aP (aj (sM Z Z (sV Z (bm Z Z iO) (sA Z Z (aa (⟨(j-1,_,_),⟨Z,Z,Z,Z,Z,eqI (by omega),trivial⟩,⟨H9,rn hI (by omega) hil (by omega)⟩,by dsimp only; omega⟩))))))
   ·refine aD (aj (sM Z Z (sV Z (aw Z Z iO) (sA Z Z (aa ?_)))));have hs:=tY hI hil (.inr c2);refine ⟨(i+1,l,_),⟨Z,Z,Z,Z,Z,trivial⟩,⟨H4,by omega,sW hs hai (by omega)⟩,by dsimp only; omega⟩
  ·try simp only [decide_eq_false_iff_not] at hg1
   refine dR 12 Z (aQ Z (wn Z) Z Z (aJ Z Z) (aP (l4 Z (aD (aj (sM Z Z (sV Z (aw Z Z iO) (sA Z Z (aa ?_)))))))));have hs:=tY hI hil (.inl (by have:=hI.1; omega));refine ⟨(i+1,l,_),⟨Z,Z,Z,Z,Z,trivial⟩,⟨H3,by omega,sW hs hai (by omega)⟩,by dsimp only; omega⟩
 ·refine aD (hN _ _ (ot results408 ?_));exact ⟨_,H1.done,CO hO (by omega)⟩
def ri (gf:FuncId) (gL:List Value) (N:Nat):Prop:=∀ (w:World) (ws:List RecV) (A:Option Addr) (n C:Nat) (fp:List Nat) (a m b:Nat) (xa xm xb:Int),own true w [.slice A n C] ws fp→fp.Nodup→xa=(a:Nat)→xm=(m:Nat)→xb=(b:Nat)→(∀ w1,Ext (· ∈ fp) w w1→∀ (x y:Rec) (A6:Option Addr) (C6:Nat) (A7:Option Addr) (C7:Nat) (A8:Option Addr) (C8:Nat) (B6:Option Addr) (D6:Nat) (B7:Option Addr) (D7:Nat) (B8:Option Addr) (D8:Nat),Ret Tryz.prog gf (([x.val A6 C6 A7 C7 A8 C8,y.val B6 D6 B7 D7 B8 D8]:List Value)++gL).toArray w1 fun v w'=>Ext No w1 w'∧v = .int .i64 (cfR x y))→a<m→m<b→b≤ws.length→ws.length≤1000000→Ord kLt cu (seg ws a m)→Ord kLt cu (seg ws m b)→b-a≤N→Ret Tryz.prog 409 #[.slice A n C,.int .i64 xa,.int .i64 xm,.int .i64 xb,.func (.func gf) #[] gL.toArray] w fun v w'=>∃ ws',Mut w w' fp [.slice A n C] ws'∧SortSeg ws ws' a b
theorem sk {w:World}{ws:List RecV}{A:Option Addr}{n C a m b:Nat}{fp:List Nat}{gf:FuncId}{gL:List Value}{gF:Func}{xa xm xb:Int}(o:own true w [.slice A n C] ws fp) (nd:fp.Nodup) (ha:xa=(a:Nat)) (hm:xm=(m:Nat)) (hb:xb=(b:Nat)) (gH:Tryz.prog.funcs[gf]? = some gF) (gB:gF.body.isNone=false) (gN:NG gF) (gC:∀ w1,Ext (· ∈ fp) w w1→∀ (x y:Rec) (A6:Option Addr) (C6:Nat) (A7:Option Addr) (C7:Nat) (A8:Option Addr) (C8:Nat) (B6:Option Addr) (D6:Nat) (B7:Option Addr) (D7:Nat) (B8:Option Addr) (D8:Nat),Ret Tryz.prog gf (([x.val A6 C6 A7 C7 A8 C8,y.val B6 D6 B7 D7 B8 D8]:List Value)++gL).toArray w1 fun v w'=>Ext No w1 w'∧v = .int .i64 (cfR x y)) (h1:a<m) (h2:m<b) (h3:b≤ws.length) (hL:ws.length≤1000000) (hA:Ord kLt cu (seg ws a m)) (hB:Ord kLt cu (seg ws m b)) {N:Nat}(hN:b-a≤N+1) (IH:ri gf gL N):Ret Tryz.prog 409 #[.slice A n C,.int .i64 xa,.int .i64 xm,.int .i64 xb,.func (.func gf) #[] gL.toArray] w fun v w'=>(∃ ws',Mut w w' fp [.slice A n C] ws'∧SortSeg ws ws' a b):=by
 subst ha;subst hm;subst hb;obtain rfl:=eS o;obtain ⟨hb0,ho0,had0⟩:=dJ o 0 (by omega);subst had0;have wL:=oL o;refine aA (vs:=[.slice (some ⟨hb0,ho0,none⟩) ws.length C,.int .i64 (a:Nat),.int .i64 (m:Nat),.int .i64 (b:Nat),.func (.func gf) #[] gL.toArray]) func409 Z ntmps409 Z (fun Q hQ hN=>?_);have H0:=Sep.begin o nd;refine ac (ab (sR 2 Z (sV Z (bm Z Z iO) (sV Z (bJ Z Z) (aa (au Z (fun c1=>?_) (fun c1=>?_)))))))
 ·refine ab (sR 2 Z (aa (ab (sR 2 Z (aa (ac (ai (aM (γ:=Nat × Nat × List Nat) (fun (i,j,f)=>[(0,.slice (some ⟨hb0,ho0,none⟩) ws.length C),(1,.int .i64 a),(2,.int .i64 m),(3,.int .i64 b),(4,.func (.func gf) #[] gL.toArray),(10,.int .i64 i),(11,.int .i64 j)]) (fun (i,j,f) w'=>Sep (· ∈ fp) w [mine [.slice (some ⟨hb0,ho0,none⟩) ws.length C] ws f] [] w'∧LoInv ws a m b i j) (fun (i,j,f)=>j-i) (m,b,_) ⟨Z,Z,Z,Z,Z,Z,Z,trivial⟩ ⟨H0,CQ (by omega)⟩ (fun (i,j,f) w1 H1=>?_)))))))));obtain ⟨H1,hI⟩:=H1;refine ac (ab (sR 3 Z (aa (au Z (fun c2=>?_) (fun c2=>?_)))))
  ·refine ag (ai (ac ?_));have e1:=hI.1;have e2:=hI.2.1;have e3:=hI.2.2.1;refine aj (sR 2 Z (sV Z (aw Z Z iO) (sV Z (fc tu3 ma Z (uT (by omega))) (sV Z (np (m:=i+j) Z Z Z) (sV Z (fc ma tu3 Z iO) (sA Z Z (aa (ac ?_))))))));have e1:=hI.1;have e2:=hI.2.1;have e3:=hI.2.2.1;obtain ⟨eb1,eo1,ee1,ec1,eK1⟩:=H1.viewAt 0 Z ((i+j) / 2) (by omega);obtain ⟨eb2,eo2,ee2,ec2,eK2⟩:=H1.viewAt 0 Z a (by omega);refine bv (S:=Ext No _) (oQ [1,3,5,7,9,11,13,15,17,18,20]) (by kernel_rfl) (by kernel_rfl) (by kernel_rfl) Z (fun _=>Ext.refl.drawn _) (fun q1=>?_);have H2:=H1.drawn q1;refine dR 3 Z (dV Z Z (fun zw hx=>ao aS aL Z Z ee1 ((i+j) / 2) (by omega) (by omega)) (dV Z Z (fun zw hx=>an az Z aL Z Z (hx.at ec1)) (dR 2 Z (dV Z Z (fun zw hx=>ao aS aL Z Z ee2 a (by omega) (by omega)) (dV Z Z (fun zw hx=>an az Z aL Z Z (hx.at ec2)) (cg Z (wn Z) Z Z (gP (lb:=gL) Z gH gB gN Z) (gC _ H2.ext (ws.getD ((i+j) / 2) default).r (ws.getD a default).r (ws.getD ((i+j) / 2) default).A6 (ws.getD ((i+j) / 2) default).C6 (ws.getD ((i+j) / 2) default).A7 (ws.getD ((i+j) / 2) default).C7 (ws.getD ((i+j) / 2) default).A8 (ws.getD ((i+j) / 2) default).C8 (ws.getD a default).A6 (ws.getD a default).C6 (ws.getD a default).A7 (ws.getD a default).C7 (ws.getD a default).A8 (ws.getD a default).C8) (fun hS _ _ r _=>hS.trans r.1.no) (fun v1 w2 r1=>?_)))))));obtain ⟨e1,rfl⟩:=r1;have H3:=H2.to e1;refine aQ Z (wn Z) Z Z (aI Z Z) (aP (au Z (fun c3=>?_) (fun c3=>?_)))
   ·refine aj (sM Z Z (sV Z (aw Z Z iO) (sA Z Z (aa (⟨(((i+j) / 2)+1,j,_),⟨Z,Z,Z,Z,Z,Z,Z,trivial⟩,⟨H3,Ei hI h3 hB (by omega) (by omega) c3⟩,by dsimp only; omega⟩)))))
   ·refine aj (sR 2 Z (aa (⟨(i,((i+j) / 2),_),⟨Z,Z,Z,Z,Z,Z,Z,trivial⟩,⟨H3,E5 hI h3 hB (by omega) (by omega) c3⟩,by dsimp only; omega⟩)))
  ·refine aD (ac (ab (sR 2 Z (aa (ai ?_)))));have hLo:=hI;have e1:=hI.1;have e2:=hI.2.1;have e3:=hI.2.2.1;refine aM (γ:=Nat × List RecV × List Nat) (fun (k,l,f)=>[(0,.slice (some ⟨hb0,ho0,none⟩) ws.length C),(1,.int .i64 a),(10,.int .i64 i),(13,.int .i64 k)]) (fun (k,l,f) w'=>Sep (· ∈ fp) w [mine [.slice (some ⟨hb0,ho0,none⟩) ws.length C] l f] [] w'∧UpInv ws l a k∧k<i) (fun (k,l,f)=>i-k) (a,ws,_) ⟨Z,Z,Z,Z,trivial⟩ ⟨H1,CE (by omega),by omega⟩ (fun (k,l,f) w3 H4=>?_);obtain ⟨H4,hU,hki⟩:=H4;refine ac (ac ?_)
   skip
   refine aj (sR 2 Z (sV Z (bm Z Z iO) (sV Z (aI Z Z) (aa (au Z (fun c4=>?_) (fun c4=>?_))))))
   ·refine ag (ac (ai ?_));have hul:=hU.2.2.1;obtain ⟨eb3,eo3,ee3,ec3,eK3⟩:=H4.viewAt 0 Z k (by omega);obtain ⟨eb4,eo4,ee4,ec4,eK4⟩:=H4.viewAt 0 Z (k+1) (by omega);refine bv (S:=fun _=>True) (oQ [1,3,5,7,9,11,13,15,17,21,23,25,2012,18,26,29,30,33,34,26,18,29,30,33,34]) (by kernel_rfl) (by kernel_rfl) (by kernel_rfl) Z (fun _=>trivial) (fun q2=>?_);have H5:=H4.drawn q2;refine dR 4 Z (dV Z Z (fun zw hx=>aw Z Z iO) (dR 2 Z (dV Z Z (fun zw hx=>aw Z Z iO) (dV Z Z (fun zw hx=>ao aS aL Z Z ee4 (k+1) (by omega) (by omega)) (dR 2 Z (dV Z Z (fun zw hx=>ao aS aL Z Z ee3 k (by omega) (by omega)) (dF Z ?_ ?_)))))))
    ·refine aQ Z (wn Z) Z Z (an az Z aL Z Z ec4) (aQ Z (wn Z) Z Z (an az Z aL Z Z ec3) (dV Z Z (fun zw hx=>ao aS aL Z Z Z (k) (by omega) (by omega)) (dx (u:=(l.getD (k+1) default)) Z (wn Z) aL H5 0 Z (k) (by omega) Z Z Z eK4 (fun _ _ _ _=>trivial) (fun w4 fp1 H6=>?_))))
     try dsimp only[lNA,lCA,lSZ,lSS] at H6
     refine dV Z Z (fun zw hx=>ao aS aL Z Z Z (k+1) (by omega) (by omega)) (dx (u:=(l.getD k default)) Z (wn Z) aL H6 0 Z (k+1) (by rw [List.length_set]; omega) Z Z Z eK3 (fun _ _ _ _=>trivial) (fun w5 fp2 H7=>?_))
     try dsimp only[lNA,lCA,lSZ,lSS] at H7
     refine aP (aj (sM Z Z (sV Z (aw Z Z iO) (sA Z Z (aa (⟨(k+1,_,_),⟨Z,Z,Z,Z,trivial⟩,⟨H7,zl hU (by omega),by omega⟩,by dsimp only; omega⟩))))))
    ·refine aQ Z (wn Z) Z Z (an az Z aL Z Z ec3) (aQ Z (wn Z) Z Z (an az Z aL Z Z ec4) (dV Z Z (fun zw hx=>ao aS aL Z Z Z (k) (by omega) (by omega)) (dx (u:=(l.getD (k+1) default)) Z (wn Z) aL H5 0 Z (k) (by omega) Z Z Z eK4 (fun _ _ _ _=>trivial) (fun w6 fp3 H8=>?_))))
     try dsimp only[lNA,lCA,lSZ,lSS] at H8
     refine dV Z Z (fun zw hx=>ao aS aL Z Z Z (k+1) (by omega) (by omega)) (dx (u:=(l.getD k default)) Z (wn Z) aL H8 0 Z (k+1) (by rw [List.length_set]; omega) Z Z Z eK3 (fun _ _ _ _=>trivial) (fun w7 fp4 H9=>?_))
     try dsimp only[lNA,lCA,lSZ,lSS] at H9
     refine aP (aj (sM Z Z (sV Z (aw Z Z iO) (sA Z Z (aa (⟨(k+1,_,_),⟨Z,Z,Z,Z,trivial⟩,⟨H9,zl hU (by omega),by omega⟩,by dsimp only; omega⟩))))))
   ·refine aD (cj (hQ _ _ (ot results409 ?_)));obtain rfl:i=k+1:=by omega
    obtain rfl:j=k+1:=by omega
    obtain rfl:m=a+1:=by omega
    exact ⟨_,H4.done,En hU hLo h3 hB⟩
 ·refine ag (ac (ab (sR 2 Z (sV Z (bm Z Z iO) (sV Z (bJ Z Z) (aa (au Z (fun c5=>?_) (fun c5=>?_))))))))
  ·refine ab (sR 2 Z (aa (ab (sR 2 Z (aa (ac (ai (aM (γ:=Nat × Nat × List Nat) (fun (i,j,f)=>[(0,.slice (some ⟨hb0,ho0,none⟩) ws.length C),(1,.int .i64 a),(2,.int .i64 m),(3,.int .i64 b),(4,.func (.func gf) #[] gL.toArray),(14,.int .i64 i),(15,.int .i64 j)]) (fun (i,j,f) w'=>Sep (· ∈ fp) w [mine [.slice (some ⟨hb0,ho0,none⟩) ws.length C] ws f] [] w'∧HiInv ws a m i j) (fun (i,j,f)=>j-i) (a,m,_) ⟨Z,Z,Z,Z,Z,Z,Z,trivial⟩ ⟨H0,Cv (by omega)⟩ (fun (i,j,f) w8 H10=>?_)))))))));obtain ⟨H10,hI⟩:=H10;refine ac (ab (sR 3 Z (aa (au Z (fun c6=>?_) (fun c6=>?_)))))
   ·refine ag (ai (ac ?_));have e1:=hI.1;have e2:=hI.2.1;have e3:=hI.2.2.1;refine aj (sR 2 Z (sV Z (aw Z Z iO) (sV Z (fc tu3 ma Z (uT (by omega))) (sV Z (np (m:=i+j) Z Z Z) (sV Z (fc ma tu3 Z iO) (sA Z Z (aa (ac ?_))))))));have e1:=hI.1;have e2:=hI.2.1;have e3:=hI.2.2.1;obtain ⟨eb5,eo5,ee5,ec5,eK5⟩:=H10.viewAt 0 Z m (by omega);obtain ⟨eb6,eo6,ee6,ec6,eK6⟩:=H10.viewAt 0 Z ((i+j) / 2) (by omega);refine bv (S:=Ext No _) (oQ [1,3,5,7,9,11,13,15,17,18,21,22]) (by kernel_rfl) (by kernel_rfl) (by kernel_rfl) Z (fun _=>Ext.refl.drawn _) (fun q3=>?_);have H11:=H10.drawn q3;refine dR 3 Z (dV Z Z (fun zw hx=>ao aS aL Z Z ee5 m (by omega) (by omega)) (dV Z Z (fun zw hx=>an az Z aL Z Z (hx.at ec5)) (dR 2 Z (dV Z Z (fun zw hx=>ao aS aL Z Z ee6 ((i+j) / 2) (by omega) (by omega)) (dV Z Z (fun zw hx=>an az Z aL Z Z (hx.at ec6)) (cg Z (wn Z) Z Z (gP (lb:=gL) Z gH gB gN Z) (gC _ H11.ext (ws.getD m default).r (ws.getD ((i+j) / 2) default).r (ws.getD m default).A6 (ws.getD m default).C6 (ws.getD m default).A7 (ws.getD m default).C7 (ws.getD m default).A8 (ws.getD m default).C8 (ws.getD ((i+j) / 2) default).A6 (ws.getD ((i+j) / 2) default).C6 (ws.getD ((i+j) / 2) default).A7 (ws.getD ((i+j) / 2) default).C7 (ws.getD ((i+j) / 2) default).A8 (ws.getD ((i+j) / 2) default).C8) (fun hS _ _ r _=>hS.trans r.1.no) (fun v2 w9 r2=>?_)))))));obtain ⟨e2,rfl⟩:=r2;have H12:=H11.to e2;refine dV Z Z (fun zw hx=>aI Z Z) (aQ Z (wn Z) Z Z (qi Z) (aP (au Z (fun c7=>?_) (fun c7=>?_))))
    ·refine aj (sM Z Z (sV Z (aw Z Z iO) (sA Z Z (aa (⟨(((i+j) / 2)+1,j,_),⟨Z,Z,Z,Z,Z,Z,Z,trivial⟩,⟨H12,Eb hI (by omega) hA (by omega) (by omega) c7⟩,by dsimp only; omega⟩)))))
    ·refine aj (sR 2 Z (aa (⟨(i,((i+j) / 2),_),⟨Z,Z,Z,Z,Z,Z,Z,trivial⟩,⟨H12,Fb hI (by omega) hA (by omega) (by omega) (by omega)⟩,by dsimp only; omega⟩)))
   ·refine aD (ac (ab (sR 2 Z (aa (ai ?_)))));have e1:=hI.1;have e2:=hI.2.1;have e3:=hI.2.2.1;obtain rfl:i=j:=by omega
    have hHi:=hI;refine aM (γ:=Nat × List RecV × List Nat) (fun (k,l,f)=>[(0,.slice (some ⟨hb0,ho0,none⟩) ws.length C),(2,.int .i64 m),(14,.int .i64 i),(17,.int .i64 k)]) (fun (k,l,f) w'=>Sep (· ∈ fp) w [mine [.slice (some ⟨hb0,ho0,none⟩) ws.length C] l f] [] w'∧DnInv ws l a m i k) (fun (k,l,f)=>k) (m,ws,_) ⟨Z,Z,Z,Z,trivial⟩ ⟨H10,Bv hHi hA⟩ (fun (k,l,f) w10 H13=>?_);obtain ⟨H13,hD⟩:=H13;refine ac (ab (sR 3 Z (aa (au Z (fun c8=>?_) (fun c8=>?_)))))
    ·refine ag (ac (ai ?_));have hdl:=hD.2.1.2.2.1;have hdk:=hD.2.1.2.1;obtain ⟨eb7,eo7,ee7,ec7,eK7⟩:=H13.viewAt 0 Z k (by omega);refine bv (S:=fun _=>True) (oQ [1,3,5,7,9,11,13,15,17,21,23,25,2012,18,26,29,30,33,34,26,18,29,30,33,34]) (by kernel_rfl) (by kernel_rfl) (by kernel_rfl) Z (fun _=>trivial) (fun q4=>?_);have H14:=H13.drawn q4;refine dR 4 Z (dV Z Z (fun zw hx=>bm Z Z iO) (dR 2 Z (dV Z Z (fun zw hx=>bm Z Z iO) ?_)));obtain ⟨eb8,eo8,ee8,ec8,eK8⟩:=H14.viewAt 0 Z (k-1) (by omega);refine dV Z Z (fun zw hx=>ao aS aL Z Z ee8 (k-1) (by omega) (by omega)) (dR 2 Z (dV Z Z (fun zw hx=>ao aS aL Z Z ee7 k (by omega) (by omega)) (dF Z ?_ ?_)))
     ·refine aQ Z (wn Z) Z Z (an az Z aL Z Z ec8) (aQ Z (wn Z) Z Z (an az Z aL Z Z ec7) (dV Z Z (fun zw hx=>ao aS aL Z Z Z (k) (by omega) (by omega)) (dx (u:=(l.getD (k-1) default)) Z (wn Z) aL H14 0 Z (k) (by omega) Z Z Z eK8 (fun _ _ _ _=>trivial) (fun w11 fp5 H15=>?_))))
      try dsimp only[lNA,lCA,lSZ,lSS] at H15
      refine dV Z Z (fun zw hx=>ao aS aL Z Z Z (k-1) (by omega) (by omega)) (dx (u:=(l.getD k default)) Z (wn Z) aL H15 0 Z (k-1) (by rw [List.length_set]; omega) Z Z Z eK7 (fun _ _ _ _=>trivial) (fun w12 fp6 H16=>?_))
      try dsimp only[lNA,lCA,lSZ,lSS] at H16
      refine aP (aj (sM Z Z (sV Z (bm Z Z iO) (sA Z Z (aa (⟨(k-1,_,_),⟨Z,Z,Z,eqI (by omega),trivial⟩,⟨H16,zk hD hHi (by omega) (by omega)⟩,by dsimp only; omega⟩))))))
     ·refine aQ Z (wn Z) Z Z (an az Z aL Z Z ec7) (aQ Z (wn Z) Z Z (an az Z aL Z Z ec8) (dV Z Z (fun zw hx=>ao aS aL Z Z Z (k) (by omega) (by omega)) (dx (u:=(l.getD (k-1) default)) Z (wn Z) aL H14 0 Z (k) (by omega) Z Z Z eK8 (fun _ _ _ _=>trivial) (fun w13 fp7 H17=>?_))))
      try dsimp only[lNA,lCA,lSZ,lSS] at H17
      refine dV Z Z (fun zw hx=>ao aS aL Z Z Z (k-1) (by omega) (by omega)) (dx (u:=(l.getD k default)) Z (wn Z) aL H17 0 Z (k-1) (by rw [List.length_set]; omega) Z Z Z eK7 (fun _ _ _ _=>trivial) (fun w14 fp8 H18=>?_))
      try dsimp only[lNA,lCA,lSZ,lSS] at H18
      refine aP (aj (sM Z Z (sV Z (bm Z Z iO) (sA Z Z (aa (⟨(k-1,_,_),⟨Z,Z,Z,eqI (by omega),trivial⟩,⟨H18,zk hD hHi (by omega) (by omega)⟩,by dsimp only; omega⟩))))))
    ·refine aD (cj (hQ _ _ (ot results409 ?_)));have e9:=hD.1;obtain rfl:k=i:=by omega
     obtain rfl:b=m+1:=by omega
     exact ⟨_,H13.done,Ec hD hHi (by omega)⟩
  ·refine ag (ab (sR 2 Z (sV Z (aw Z Z iO) (sV Z (fc tu3 ma Z (uT (by omega))) (sV Z (np (m:=a+b) Z Z Z) (sV Z (fc ma tu3 Z iO) (sA Z Z (aa (ab (sR 2 Z (sV Z (aw Z Z iO) (sA Z Z (aa (ab (sR 2 Z (aa (B9 (γ:=Nat × Nat) H0 [(1,_),(2,_),(3,_),(4,_),(18,_),(19,_)] ⟨Z,Z,Z,Z,Z,Z,trivial⟩ (fun (s,r)=>[(0,.slice (some ⟨hb0,ho0,none⟩) ws.length C),(20,.int .i64 s),(21,.int .i64 r)]) (fun (s,r)=>MidOK ws a m b (((a+b) / 2)+m-1) s r∧(s=a∨(((a+b) / 2)+m-1)+1=b+s)∧(r=m∨(((a+b) / 2)+m-1)+1=m+r)) ?_ (fun (s,r) w15 H19 ⟨hMK,hG1,hG2⟩=>?_))))))))))))))))))
   ·refine ab (sR 3 Z (aa (au Z (fun c9=>?_) (fun c9=>?_))))
    ·refine ab (sR 2 Z (sV Z (bm Z Z iO) (sA Z Z (aa (aj (sR 2 Z (aa ?_)))))));exact ⟨(((a+b) / 2)+m-b,((a+b) / 2)),⟨Z,eqI (by omega),Z,Z,Z,Z,Z,Z,Z,trivial⟩,H0,⟨by omega,by omega,by omega,by omega,h3,hA,hB,by omega⟩,by omega,by omega⟩
    ·refine ab (sR 2 Z (aa (aj (sR 2 Z (aa ?_)))));exact ⟨(a,m),⟨Z,Z,Z,Z,Z,Z,Z,Z,Z,trivial⟩,H0,⟨by omega,by omega,by omega,by omega,h3,hA,hB,by omega⟩,by omega,by omega⟩
   ·dsimp only[lCA,lNA];refine ab (sM Z Z (sV Z (bm Z Z iO) (sA Z Z (aa (ac (ai (aM (γ:=Nat × Nat × List Nat) (fun (s2,r2,f)=>[(0,.slice (some ⟨hb0,ho0,none⟩) ws.length C),(1,.int .i64 a),(2,.int .i64 m),(3,.int .i64 b),(4,.func (.func gf) #[] gL.toArray),(18,.int .i64 (((a+b) / 2):Nat)),(19,.int .i64 (((a+b) / 2)+m:Nat)),(20,.int .i64 s2),(21,.int .i64 r2),(22,.int .i64 ((((a+b) / 2)+m-1):Nat))]) (fun (s2,r2,f) w'=>Sep (· ∈ fp) w [mine [.slice (some ⟨hb0,ho0,none⟩) ws.length C] ws f] [] w'∧MidInv ws (((a+b) / 2)+m-1) s r s2 r2) (fun (s2,r2,f)=>r2-s2) (s,r,_) ⟨Z,Z,Z,Z,Z,Z,Z,Z,Z,eqI (by omega),trivial⟩ ⟨H19,Au (by rcases hMK with ⟨_,_,_,_,_⟩; omega)⟩ (fun (s2,r2,f) w16 H20=>?_))))))));obtain ⟨H20,hI⟩:=H20;refine ac (ab (sR 3 Z (aa (au Z (fun c10=>?_) (fun c10=>?_)))))
    ·refine ag (ai (ac ?_));have e1:=hI.1;have e2:=hI.2.1;have e3:=hI.2.2.1;obtain ⟨m1,m2,m3,m4,_,_,_,_⟩:=id hMK;refine aj (sR 2 Z (sV Z (aw Z Z iO) (sV Z (fc tu3 ma Z (uT (by omega))) (sV Z (np (m:=s2+r2) Z Z Z) (sV Z (fc ma tu3 Z iO) (sA Z Z (aa (ac ?_))))))));have e1:=hI.1;have e2:=hI.2.1;have e3:=hI.2.2.1;obtain ⟨m1,m2,m3,m4,_,_,_,_⟩:=id hMK;obtain ⟨eb9,eo9,ee9,ec9,eK9⟩:=H20.viewAt 0 Z ((((a+b) / 2)+m-1)-((s2+r2) / 2)) (by omega);obtain ⟨eb10,eo10,ee10,ec10,eK10⟩:=H20.viewAt 0 Z ((s2+r2) / 2) (by omega);refine bv (S:=Ext No _) (oQ [1,3,5,7,9,11,13,15,17,19,21,22,25,26]) (by kernel_rfl) (by kernel_rfl) (by kernel_rfl) Z (fun _=>Ext.refl.drawn _) (fun q5=>?_);have H21:=H20.drawn q5;refine dR 4 Z (dV Z Z (fun zw hx=>bm Z Z iO) (dV Z Z (fun zw hx=>ao aS aL Z Z ee9 ((((a+b) / 2)+m-1)-((s2+r2) / 2)) (by omega) (by omega)) (dV Z Z (fun zw hx=>an az Z aL Z Z (hx.at ec9)) (dR 2 Z (dV Z Z (fun zw hx=>ao aS aL Z Z ee10 ((s2+r2) / 2) (by omega) (by omega)) (dV Z Z (fun zw hx=>an az Z aL Z Z (hx.at ec10)) (cg Z (wn Z) Z Z (gP (lb:=gL) Z gH gB gN Z) (gC _ H21.ext (ws.getD ((((a+b) / 2)+m-1)-((s2+r2) / 2)) default).r (ws.getD ((s2+r2) / 2) default).r (ws.getD ((((a+b) / 2)+m-1)-((s2+r2) / 2)) default).A6 (ws.getD ((((a+b) / 2)+m-1)-((s2+r2) / 2)) default).C6 (ws.getD ((((a+b) / 2)+m-1)-((s2+r2) / 2)) default).A7 (ws.getD ((((a+b) / 2)+m-1)-((s2+r2) / 2)) default).C7 (ws.getD ((((a+b) / 2)+m-1)-((s2+r2) / 2)) default).A8 (ws.getD ((((a+b) / 2)+m-1)-((s2+r2) / 2)) default).C8 (ws.getD ((s2+r2) / 2) default).A6 (ws.getD ((s2+r2) / 2) default).C6 (ws.getD ((s2+r2) / 2) default).A7 (ws.getD ((s2+r2) / 2) default).C7 (ws.getD ((s2+r2) / 2) default).A8 (ws.getD ((s2+r2) / 2) default).C8) (fun hS _ _ r _=>hS.trans r.1.no) (fun v3 w17 r3=>?_))))))));obtain ⟨e3,rfl⟩:=r3;have H22:=H21.to e3;refine dV Z Z (fun zw hx=>aI Z Z) (aQ Z (wn Z) Z Z (qi Z) (aP (au Z (fun c11=>?_) (fun c11=>?_))))
     ·refine aj (sM Z Z (sV Z (aw Z Z iO) (sA Z Z (aa (⟨(((s2+r2) / 2)+1,r2,_),⟨Z,Z,Z,Z,Z,Z,Z,Z,Z,Z,trivial⟩,⟨H22,Dn hI hMK (by omega) (by omega) c11⟩,by dsimp only; omega⟩)))))
     ·refine aj (sR 2 Z (aa (⟨(s2,((s2+r2) / 2),_),⟨Z,Z,Z,Z,Z,Z,Z,Z,Z,Z,trivial⟩,⟨H22,Es hI hMK (by omega) (by omega) (by omega)⟩,by dsimp only; omega⟩)))
    ·refine aD (ac ?_);have e1:=hI.1;have e2:=hI.2.1;have e3:=hI.2.2.1;obtain ⟨m1,m2,m3,m4,_,_,_,_⟩:=id hMK;obtain rfl:s2=r2:=by omega
     refine aj (sR 2 Z (sV Z (bm Z Z iO) (sA Z Z (aa (B0 (γ:=List Nat) (fun f=>[(0,.slice (some ⟨hb0,ho0,none⟩) ws.length C),(1,.int .i64 a),(2,.int .i64 m),(3,.int .i64 b),(4,.func (.func gf) #[] gL.toArray),(18,.int .i64 (((a+b) / 2):Nat)),(20,.int .i64 s2),(24,.int .i64 ((((a+b) / 2)+m-s2):Nat))]) (fun f w'=>Sep (· ∈ fp) w [mine [.slice (some ⟨hb0,ho0,none⟩) ws.length C] (eU ws s2 m (((a+b) / 2)+m-s2)) f] [] w') ?_ (fun f w18 H23=>?_))))))
     ·refine ab (sR 4 Z (dX (t:=181) Z (fun hg1=>?_) (fun hg1=>?_)))
      ·try simp only [decide_eq_true_eq,decide_eq_false_iff_not] at hg1
       refine ak (wg Z Z Z) Z Z (aG Z) (ak (wg Z Z Z) Z Z (aG Z) (ak (wg Z Z Z) Z Z (aI Z Z) (sV Z (aF Z Z) (aa (au Z (fun c12=>?_) (fun c12=>?_))))))
       ·refine aj (sR 5 Z (sC func444 yO Z (fv (a:=s2) (m:=m) (b:=(((a+b) / 2)+m-s2)) (H20.mine 0 Z) (H20.nodup1 (i:=0) Z) (by omega) (by omega) (by omega) (by omega) (by omega) (by omega)) (fun v4 w19 r4=>?_)));obtain ⟨y1,mm1,rfl⟩:=r4;obtain ⟨fp9,H24⟩:=H20.mut 0 Z mm1
        try dsimp only[lNA,lCA,lSZ,lSS] at H24
        refine aa ?_;exact ⟨_,⟨Z,Z,Z,Z,Z,Z,Z,eqI (by omega),trivial⟩,H24⟩
       ·refine ag ?_;exact ⟨f,⟨Z,Z,Z,Z,Z,Z,Z,eqI (by omega),trivial⟩,by rw [vG (by omega) (by omega) (by omega) (by omega)]; exact H20⟩
      ·try simp only [decide_eq_true_eq,decide_eq_false_iff_not] at hg1
       refine sR 3 Z (sV Z (aJ Z Z) (aa (l4 Z (ag ?_))));exact ⟨f,⟨Z,Z,Z,Z,Z,Z,Z,eqI (by omega),trivial⟩,by rw [vG (by omega) (by omega) (by omega) (by omega)]; exact H20⟩
     ·skip
      refine B0 (γ:=List RecV × List Nat) (fun (l2,f)=>[(0,.slice (some ⟨hb0,ho0,none⟩) ws.length C),(1,.int .i64 a),(2,.int .i64 m),(3,.int .i64 b),(4,.func (.func gf) #[] gL.toArray),(18,.int .i64 (((a+b) / 2):Nat)),(20,.int .i64 s2),(24,.int .i64 ((((a+b) / 2)+m-s2):Nat))]) (fun (l2,f) w'=>Sep (· ∈ fp) w [mine [.slice (some ⟨hb0,ho0,none⟩) ws.length C] l2 f] [] w'∧SortSeg (eU ws s2 m (((a+b) / 2)+m-s2)) l2 a ((a+b) / 2)) ?_ (fun (l2,f) w20 H25=>?_)
      ·refine ac ?_;have hln:=hZ (l:=ws) (x:=s2) (y:=m) (z:=(((a+b) / 2)+m-s2)) (by omega) (by omega) (by omega);have hSy:SymL ws (eU ws s2 m (((a+b) / 2)+m-s2)) a s2 ((a+b) / 2) (((a+b) / 2)+m-s2) b:=u0 hI hMK hG1 hG2 (by omega) (by omega);obtain ⟨_,_,_,_,o1,o2,o3,o4⟩:=id hSy;refine aj (sR 4 Z (dX (t:=195) Z (fun hg2=>?_) (fun hg2=>?_)))
       ·try simp only [decide_eq_true_eq,decide_eq_false_iff_not] at hg2
        refine ak (wg Z Z Z) Z Z (aG Z) (ak (wg Z Z Z) Z Z (aG Z) (ak (wg Z Z Z) Z Z (aI Z Z) (sV Z (aF Z Z) (aa (au Z (fun c13=>?_) (fun c13=>?_))))))
        ·refine aj (sR 5 Z (sC func409 jY Z (IH _ _ _ _ _ _ a s2 ((a+b) / 2) _ _ _ (H23.mine 0 Z) (H23.nodup1 (i:=0) Z) (by omega) (by omega) (by omega) (fun w1 e1=>gC w1 (H23.ext.step e1 fun b hb=>H23.new b (H23.inB 0 Z hb))) (by omega) (by omega) (by omega) (by omega) o1 o2 (by omega)) (fun v5 w21 r5=>?_)));obtain ⟨y2,mm2,hs2⟩:=r5;obtain ⟨fp10,H26⟩:=H23.mut 0 Z mm2
         try dsimp only[lNA,lCA,lSZ,lSS] at H26
         refine aa ?_;exact ⟨(y2,_),⟨Z,Z,Z,Z,Z,Z,Z,Z,trivial⟩,H26,hs2⟩
        ·refine ag ?_;obtain hq:s2=((a+b) / 2):=by omega
         have ho:Ord kLt cu (seg (eU ws s2 m (((a+b) / 2)+m-s2)) a ((a+b) / 2)):=Eq.mp (congrArg (fun z=>Ord kLt cu (seg (eU ws s2 m (((a+b) / 2)+m-s2)) a z)) hq) o1;exact ⟨((eU ws s2 m (((a+b) / 2)+m-s2)),_),⟨Z,Z,Z,Z,Z,Z,Z,Z,trivial⟩,H23,jw ho⟩
       ·try simp only [decide_eq_true_eq,decide_eq_false_iff_not] at hg2
        refine sR 3 Z (sV Z (aJ Z Z) (aa (l4 Z (ag ?_))));obtain hq:s2=a:=by omega
        have ho:Ord kLt cu (seg (eU ws s2 m (((a+b) / 2)+m-s2)) a ((a+b) / 2)):=Eq.mp (congrArg (fun z=>Ord kLt cu (seg (eU ws s2 m (((a+b) / 2)+m-s2)) z ((a+b) / 2))) hq) o2;exact ⟨((eU ws s2 m (((a+b) / 2)+m-s2)),_),⟨Z,Z,Z,Z,Z,Z,Z,Z,trivial⟩,H23,jw ho⟩
      ·obtain ⟨H25,hs1⟩:=H25;refine ac ?_;have hln:=hZ (l:=ws) (x:=s2) (y:=m) (z:=(((a+b) / 2)+m-s2)) (by omega) (by omega) (by omega);have hSy:SymL ws (eU ws s2 m (((a+b) / 2)+m-s2)) a s2 ((a+b) / 2) (((a+b) / 2)+m-s2) b:=u0 hI hMK hG1 hG2 (by omega) (by omega);obtain ⟨_,_,_,_,o1,o2,o3,o4⟩:=id hSy;have hl2:=hs1.1;have p2:Ord kLt cu (seg l2 (((a+b) / 2)+m-s2) b):=by rw [qr hs1 (by omega) (by omega)]; exact o4
       have p1:Ord kLt cu (seg l2 ((a+b) / 2) (((a+b) / 2)+m-s2)):=by rw [qr hs1 (by omega) (by omega)]; exact o3
       refine aj (sR 4 Z (dX (t:=209) Z (fun hg3=>?_) (fun hg3=>?_)))
       ·try simp only [decide_eq_true_eq,decide_eq_false_iff_not] at hg3
        refine ak (wg Z Z Z) Z Z (aG Z) (ak (wg Z Z Z) Z Z (aG Z) (ak (wg Z Z Z) Z Z (aI Z Z) (sV Z (aF Z Z) (aa (au Z (fun c14=>?_) (fun c14=>?_))))))
        ·refine aj (sR 5 Z (sC func409 jY Z (IH _ _ _ _ _ _ ((a+b) / 2) (((a+b) / 2)+m-s2) b _ _ _ (H25.mine 0 Z) (H25.nodup1 (i:=0) Z) (by omega) (by omega) (by omega) (fun w1 e1=>gC w1 (H25.ext.step e1 fun b hb=>H25.new b (H25.inB 0 Z hb))) (by omega) (by omega) (by omega) (by omega) p1 p2 (by omega)) (fun v6 w22 r6=>?_)));obtain ⟨y3,mm3,hs3⟩:=r6;obtain ⟨fp11,H27⟩:=H25.mut 0 Z mm3
         try dsimp only[lNA,lCA,lSZ,lSS] at H27
         refine aa (hN _ _ (ot results409 ?_));exact ⟨_,H27.done,qH hSy hs1 hs3 (by omega) (by omega) h3⟩
        ·refine ag (hN _ _ (ot results409 ?_));have hq:(((a+b) / 2)+m-s2)=b:=by omega
         have ho:Ord kLt cu (seg l2 ((a+b) / 2) b):=Eq.mp (congrArg (fun z=>Ord kLt cu (seg l2 ((a+b) / 2) z)) hq) p1;exact ⟨_,H25.done,qH hSy hs1 (jw ho) (by omega) (by omega) h3⟩
       ·try simp only [decide_eq_true_eq,decide_eq_false_iff_not] at hg3
        refine sR 3 Z (sV Z (aJ Z Z) (aa (l4 Z (ag (hN _ _ (ot results409 ?_))))));have hq:(((a+b) / 2)+m-s2)=((a+b) / 2):=by omega
        have ho:Ord kLt cu (seg l2 ((a+b) / 2) b):=Eq.mp (congrArg (fun z=>Ord kLt cu (seg l2 z b)) hq) p2;exact ⟨_,H25.done,qH hSy hs1 (jw ho) (by omega) (by omega) h3⟩
end Go.Wk
namespace Go.Wk
open Go.Proofs Rp Go.Proofs.Tryz
set_option maxRecDepth 10000
theorem jV {gf:FuncId}{gL:List Value}{gF:Func}(gH:Tryz.prog.funcs[gf]? = some gF) (gB:gF.body.isNone=false) (gN:NG gF):∀ N,ri gf gL N
 | 0=>fun _ _ _ _ _ _ a m b _ _ _ _ _ _ _ _ _ h1 h2 _ _ _ _ h=>absurd (Nat.lt_trans h1 h2) (by omega)
 | N+1=>fun _ _ _ _ _ _ _ _ _ _ _ _ o nd ha hm hb gC h1 h2 h3 hL hA hB hN=>sk o nd ha hm hb gH gB gN gC h1 h2 h3 hL hA hB hN (jV gH gB gN N)
theorem fo {w:World}{ws:List RecV}{A:Option Addr}{n C m:Nat}{fp:List Nat}{gf:FuncId}{gL:List Value}{gF:Func}{xm:Int}(o:own true w [.slice A n C] ws fp) (nd:fp.Nodup) (hm:xm=(m:Nat)) (gH:Tryz.prog.funcs[gf]? = some gF) (gB:gF.body.isNone=false) (gN:NG gF) (gC:∀ w1,Ext (· ∈ fp) w w1→∀ (x y:Rec) (A6:Option Addr) (C6:Nat) (A7:Option Addr) (C7:Nat) (A8:Option Addr) (C8:Nat) (B6:Option Addr) (D6:Nat) (B7:Option Addr) (D7:Nat) (B8:Option Addr) (D8:Nat),Ret Tryz.prog gf (([x.val A6 C6 A7 C7 A8 C8,y.val B6 D6 B7 D7 B8 D8]:List Value)++gL).toArray w1 fun v w'=>Ext No w1 w'∧v = .int .i64 (cfR x y)) (hm2:m=ws.length) (h0:0<ws.length) (hL:ws.length≤1000000):Ret Tryz.prog 355 #[.slice A n C,.int .i64 xm,.func (.func gf) #[] gL.toArray] w fun v w'=>(∃ ws',Mut w w' fp [.slice A n C] ws'∧SortSeg ws ws' 0 ws.length):=by
 subst hm;obtain rfl:=eS o;obtain ⟨hb0,ho0,had0⟩:=dJ o 0 (by omega);subst had0;have wL:=oL o;refine aA (vs:=[.slice (some ⟨hb0,ho0,none⟩) ws.length C,.int .i64 (m:Nat),.func (.func gf) #[] gL.toArray]) func355 Z ntmps355 Z (fun Q hQ hN=>?_);have H0:=Sep.begin o nd;refine ac ?_;subst hm2;refine aj (sA Z Z (aa (ab (sR 3 Z (aa (ac (ai (aM (γ:=Nat × List RecV × List Nat) (fun (a,l,f)=>[(0,.slice (some ⟨hb0,ho0,none⟩) ws.length C),(1,.int .i64 ws.length),(2,.func (.func gf) #[] gL.toArray),(6,.int .i64 20),(7,.int .i64 a),(8,.int .i64 (a+20:Nat))]) (fun (a,l,f) w'=>Sep (· ∈ fp) w [mine [.slice (some ⟨hb0,ho0,none⟩) ws.length C] l f] [] w'∧Blocks ws l 20 a) (fun (a,l,f)=>ws.length-a) (0,ws,_) ⟨Z,Z,Z,Z,Z,Z,trivial⟩ ⟨H0,Cw⟩ (fun (a,l,f) w1 H1=>?_)))))))));obtain ⟨H1,hB⟩:=H1;refine ac (ab (sR 3 Z (aa (au Z (fun c1=>?_) (fun c1=>?_)))))
 ·refine ag (ai (ac ?_));have hbl:=hB.1;have hba:=hB.2.2.2.1;refine aj (sR 4 Z (sC func408 mW Z (cC (a:=a) (b:=(a+20)) (H1.mine 0 Z) (H1.nodup1 (i:=0) Z) (by omega) (by omega) gH gB gN (fun w1 e1=>gC w1 (H1.ext.step e1 fun b hb=>H1.new b (H1.inB 0 Z hb))) (by omega) (by omega) (by omega) (by omega)) (fun v1 w2 r1=>?_)));obtain ⟨y1,mm1,hs1⟩:=r1;obtain ⟨fp1,H2⟩:=H1.mut 0 Z mm1
  try dsimp only[lNA,lCA,lSZ,lSS] at H2
  refine aa (ab (sR 2 Z (aa (aj (sR 2 Z (sV Z (aw Z Z iO) (sA Z Z (aa (⟨(a+20,_,_),⟨Z,Z,Z,Z,Z,eqI (by omega),trivial⟩,⟨H2,zo hB (by omega) (by omega) hs1⟩,by dsimp only; omega⟩)))))))))
 ·refine aD (ac ?_);have hbl:=hB.1;have hba:=hB.2.2.2.1;refine aj (sR 4 Z (sC func408 mW Z (cC (a:=a) (b:=ws.length) (H1.mine 0 Z) (H1.nodup1 (i:=0) Z) (by omega) (by omega) gH gB gN (fun w1 e1=>gC w1 (H1.ext.step e1 fun b hb=>H1.new b (H1.inB 0 Z hb))) (by omega) (by omega) (by omega) (by omega)) (fun v2 w3 r2=>?_)));obtain ⟨y2,mm2,hs2⟩:=r2;obtain ⟨fp2,H3⟩:=H1.mut 0 Z mm2
  try dsimp only[lNA,lCA,lSZ,lSS] at H3
  refine aa (ai (aM (γ:=Nat × List RecV × List Nat) (fun (bs,l,f)=>[(0,.slice (some ⟨hb0,ho0,none⟩) ws.length C),(1,.int .i64 ws.length),(2,.func (.func gf) #[] gL.toArray),(6,.int .i64 bs)]) (fun (bs,l,f) w'=>Sep (· ∈ fp) w [mine [.slice (some ⟨hb0,ho0,none⟩) ws.length C] l f] [] w'∧AllB ws l bs∧0<bs) (fun (bs,l,f)=>ws.length-bs) (20,_,_) ⟨Z,Z,Z,Z,trivial⟩ ⟨H3,zm hB (by omega) hs2,by omega⟩ (fun (bs,l,f) w4 H4=>?_)));obtain ⟨H4,hA,h0b⟩:=H4;refine ac (ac ?_);have hal:=hA.1;refine aj (sR 3 Z (aa (au Z (fun c2=>?_) (fun c2=>?_))))
  ·refine ag (ai (ab (sM Z Z (sV Z (jO Z Z iO) (sR 2 Z (aa (ac (ai (aM (γ:=Nat × List RecV × List Nat) (fun (a,l,f)=>[(0,.slice (some ⟨hb0,ho0,none⟩) ws.length C),(1,.int .i64 ws.length),(2,.func (.func gf) #[] gL.toArray),(6,.int .i64 bs),(7,.int .i64 a),(8,.int .i64 (a+2*bs:Nat))]) (fun (a,l,f) w'=>Sep (· ∈ fp) w [mine [.slice (some ⟨hb0,ho0,none⟩) ws.length C] l f] [] w'∧TwoB ws l bs a∧0<bs∧bs<ws.length) (fun (a,l,f)=>ws.length-a) (0,_,_) ⟨Z,Z,Z,Z,Z,eqI (by omega),trivial⟩ ⟨H4,AO hA,h0b,by omega⟩ (fun (a,l,f) w5 H5=>?_))))))))));obtain ⟨H5,hT,h0b,hbn⟩:=H5;refine ac (ac ?_);have htl:=hT.1.1;have hta:=hT.1.2.2.2.1;refine aj (sR 3 Z (aa (au Z (fun c3=>?_) (fun c3=>?_))))
   ·refine ag (ai (ac ?_));have htl:=hT.1.1;have hta:=hT.1.2.2.2.1;refine aj (sR 4 Z (sV Z (aw Z Z iO) (sR 2 Z (sC func409 jY Z (jV gH gB gN _ _ _ _ _ _ _ a (a+bs) (a+2*bs) _ _ _ (H5.mine 0 Z) (H5.nodup1 (i:=0) Z) (by omega) (by omega) (by omega) (fun w1 e1=>gC w1 (H5.ext.step e1 fun b hb=>H5.new b (H5.inB 0 Z hb))) (by omega) (by omega) (by omega) (by omega) (DT hT (by omega) h0b) (DY hT (by omega) (by omega)) (Nat.le_refl _)) (fun v3 w6 r3=>?_)))));obtain ⟨y3,mm3,hs3⟩:=r3;obtain ⟨fp3,H6⟩:=H5.mut 0 Z mm3
    try dsimp only[lNA,lCA,lSZ,lSS] at H6
    refine aa (ab (sR 2 Z (aa (aj (sR 2 Z (sV Z (jO Z Z iO) (sV Z (aw Z Z iO) (sA Z Z (aa (⟨(a+2*bs,_,_),⟨Z,Z,Z,Z,Z,eqI (by omega),trivial⟩,⟨H6,Cb hT h0b (by omega) (show SortSeg l _ a (a+2*bs) from hs3),h0b,hbn⟩,by dsimp only; omega⟩))))))))))
   ·refine aD (ac (ac ?_));have htl:=hT.1.1;have hta:=hT.1.2.2.2.1;refine aj (sR 2 Z (sV Z (aw Z Z iO) (sA Z Z (aa (ab (sR 3 Z (aa (au Z (fun c4=>?_) (fun c4=>?_)))))))))
    ·have htl:=hT.1.1;have hta:=hT.1.2.2.2.1;refine aj (sR 5 Z (sC func409 jY Z (jV gH gB gN _ _ _ _ _ _ _ a (a+bs) ws.length _ _ _ (H5.mine 0 Z) (H5.nodup1 (i:=0) Z) (by omega) (by omega) (by omega) (fun w1 e1=>gC w1 (H5.ext.step e1 fun b hb=>H5.new b (H5.inB 0 Z hb))) (by omega) (by omega) (by omega) (by omega) (DT hT (by omega) h0b) (DY hT (by omega) (by omega)) (Nat.le_refl _)) (fun v4 w7 r4=>?_)));obtain ⟨y4,mm4,hs4⟩:=r4;obtain ⟨fp4,H7⟩:=H5.mut 0 Z mm4
     try dsimp only[lNA,lCA,lSZ,lSS] at H7
     refine aa (aj (sM Z Z (sV Z (jO Z Z iO) (sA Z Z (aa (⟨(2*bs,_,_),⟨Z,Z,Z,eqI (by omega),trivial⟩,⟨H7,uO hT (by omega) hs4,by omega⟩,by dsimp only; omega⟩))))))
    ·refine ag (aj (sM Z Z (sV Z (jO Z Z iO) (sA Z Z (aa (⟨(2*bs,_,_),⟨Z,Z,Z,eqI (by omega),trivial⟩,⟨H5,BE hT h0b (by omega),by omega⟩,by dsimp only; omega⟩))))))
  ·refine aD (hN _ _ (ot results355 ?_));exact ⟨_,H4.done,De hA (by omega) h0⟩
end Go.Wk
namespace Go.Wk
open Go.Proofs Rp Go.Proofs.Tryz
set_option maxRecDepth 10000
theorem nh {w:World}{xs:List Int}{xsA:Option Addr}{xsC:Nat}{m:Int}(xsS:Sees w [.slice xsA xs.length xsC] xs) (hm : -1000≤m∧m≤1000000):Ret Tryz.prog 341 #[.slice xsA xs.length xsC,.int .i64 m] w fun v w'=>Ext No w w'∧(v = .bool (rises xs (m-1))):=by
 have xsL:=sL xsS;obtain ⟨xsF,xsO⟩:=xsS;refine aA (vs:=[.slice xsA xs.length xsC,.int .i64 m]) func341 Z ntmps341 Z (fun Q hQ hN=>?_);have H0:=Sep.start (w:=w) (F:=[seen false [.slice xsA xs.length xsC] xs xsF]) (ae xsO (by simp));refine ab (sA Z Z (aa (ac (ab (sM Z Z (sV Z (ax bd Z) (sM Z Z (aa (ai (aM (γ:=Nat) (fun k=>[(0,.slice xsA xs.length xsC),(1,.int .i64 m),(7,.slice xsA xs.length xsC),(8,.int .i64 xs.length),(9,.int .i64 k)]) (fun k w'=>Sep No w [] [seen false [.slice xsA xs.length xsC] xs xsF] w'∧k≤xs.length∧(∀ i,i<k→eX xs (m-1) i=true)) (fun k=>xs.length-k) 0 ⟨Z,Z,Z,Z,Z,trivial⟩ ⟨H0,by omega,fun i hi=>by omega⟩ (fun k w1 H1=>?_)))))))))));obtain ⟨H1,hk,he⟩:=H1;refine ab (sV Z (aI Z Z) (aa (ac (au Z (fun c1=>?_) (fun c1=>?_)))))
 ·refine ag (ac (ai (ac ?_)));obtain ⟨eb1,eo1,ee1,ec1⟩:=bT (H1.seen 0 Z) k (by omega);have eI1:=ca (H1.seen 0 Z) k (by omega);refine aj (sM Z Z (sV Z (ao bd ts2 Z Z ee1 k (by omega) (by omega)) (sV Z (ah tu2 Z Z ec1) (sR 2 Z (aa (ac ?_))))));obtain ⟨eb2,eo2,ee2,ec2⟩:=bT (H1.seen 0 Z) (k-1) (by omega);have eI2:=ca (H1.seen 0 Z) (k-1) (by omega);refine aj (sR 2 Z (sV Z (bm Z Z iO) (sE func130 bU Z aU H1 (fun w2 e1 H2=>sV Z (aN Z) (sM Z Z (bp 11 (j:=5) (want:=false) (t:=30) Z Z Z Z (fun hg1 kk1=>ak (wgE Z Z Z hg1) Z Z (aG Z) (ak (wgE Z Z Z hg1) Z Z (dd Z Z) (ak (wgE Z Z Z hg1) Z Z (aG Z) (bp 7 (j:=8) (want:=true) (t:=29) Z Z Z Z (fun hg2 kk2=>ak (wgE Z Z Z hg2) Z Z (aG Z) (ak (wgE Z Z Z hg2) Z Z (aG Z) (ak (wgE Z Z Z hg2) Z Z (bm Z Z iO) (ak (wgE Z Z Z hg2) Z Z (ao bd ts2 Z Z ee2 (k-1) (by first | omega | (simp only [Bool.or_eq_false_iff,Bool.and_eq_true,Bool.and_eq_false_iff,Bool.or_eq_true,Bool.not_eq_true',Bool.not_eq_false',decide_eq_true_eq,decide_eq_false_iff_not] at hg1 hg2; omega)) (by omega)) (ak (wgE Z Z Z hg2) Z Z (ah tu2 Z Z (e1.cell ec2)) (ak (wgE Z Z Z hg2) Z Z (aG Z) (ak (wgE Z Z Z hg2) Z Z (Cj Z Z) (kk2 _ _ (kx Z (kx Z (kx Z (kx Z (kx Z (kx Z (kx Z k0))))))) Z Ext.refl)))))))) (fun w4 e3=>ak (wgE Z Z Z hg1) Z Z (aY Z Z) (kk1 _ _ (kx Z (kx Z (kx Z (kx Z (kx Z k0))))) Z (Ext.refl.trans e3))))))) (fun w3 e2=>?_)))))));have H4:=H2.to e2;refine sV Z (en Z Z) (aa (bz Z (fun c2=>?_) (fun c2=>?_)))
  ·refine ab (sA Z Z (aa (rT hQ results341 Z (⟨H4.ext,?_⟩))))
   rw [nL k (by omega) (by
    simp [ins,-List.getD_eq_getElem?_getD] at c2;simp [eX,-List.getD_eq_getElem?_getD]
    omega)]
  ·refine ag (aj (sV Z (aw Z Z iO) (sM Z Z (aa (⟨k+1,⟨Z,Z,Z,Z,Z,trivial⟩,⟨H4,by omega,fun i hi=>?_⟩,by dsimp only; omega⟩)))))
   by_cases e:i=k
   ·subst e;simp [ins,-List.getD_eq_getElem?_getD] at c2;simp [eX,-List.getD_eq_getElem?_getD]
    omega
   ·exact he i (by omega)
 ·refine aD (ab (rA hQ results341 Z ?_));exact ⟨H1.ext,by rw [oN (fun i hi=>he i (by omega))]⟩
theorem ow {w:World}{xs:List Int}{xsA:Option Addr}{xsC:Nat}{m:Int}(xsS:Sees w [.slice xsA xs.length xsC] xs) (hm : -1000≤m∧m≤1000000):Ret Tryz.prog 248 #[.slice xsA xs.length xsC,.int .i64 m] w fun v w'=>Ext No w w'∧(v = .bool (rises xs m)):=by
 have xsL:=sL xsS;obtain ⟨xsF,xsO⟩:=xsS;refine aA (vs:=[.slice xsA xs.length xsC,.int .i64 m]) func248 Z ntmps248 Z (fun Q hQ hN=>?_);have H0:=Sep.start (w:=w) (F:=[seen false [.slice xsA xs.length xsC] xs xsF]) (ae xsO (by simp));refine ab (sA Z Z (aa (ac (ab (sA Z Z (aa (ai (aM (γ:=Nat) (fun k=>[(0,.slice xsA xs.length xsC),(1,.int .i64 m),(5,.int .i64 k)]) (fun k w'=>Sep No w [] [seen false [.slice xsA xs.length xsC] xs xsF] w'∧k≤xs.length∧(∀ i,i<k→eX xs m i=true)) (fun k=>xs.length-k) 0 ⟨Z,Z,Z,trivial⟩ ⟨H0,by omega,fun i hi=>by omega⟩ (fun k w1 H1=>?_)))))))));obtain ⟨H1,hk,he⟩:=H1;refine ac (ab (sR 2 Z (sV Z (ax bd Z) (sV Z (aI Z Z) (aa (au Z (fun c1=>?_) (fun c1=>?_)))))))
 ·refine ag (ac (ai (ac ?_)));obtain ⟨eb1,eo1,ee1,ec1⟩:=bT (H1.seen 0 Z) k (by omega);have eI1:=ca (H1.seen 0 Z) k (by omega);refine bv (S:=Ext No _) (oQ [1,3,5,7,9,11,13,15,17,19,21,23,25,27,29,31,33,35,37,39,41,43,45,47,49,51,53,55,56]) (by kernel_rfl) (by kernel_rfl) (by kernel_rfl) Z (fun _=>Ext.refl.drawn _) (fun q1=>?_);have H2:=H1.drawn q1;refine dR 2 Z (dV Z Z (fun zw hx=>ao bd ts2 Z Z ee1 k (by omega) (by omega)) (dV Z Z (fun zw hx=>ah tu2 Z Z (hx.cell ec1)) (dR 2 Z (cm (t:=17) Z (fun hg1=>?_) (fun hg1=>?_)))))
  ·try simp only [decide_eq_true_eq,decide_eq_false_iff_not] at hg1
   refine dR 6 Z (dV Z Z (fun zw hx=>aF Z Z) (dR 4 Z (bX Z (wou Z Z Z) Z Z (bX Z (wou Z Z Z) Z Z (bX Z (wou Z Z Z) Z Z (bX Z (wou Z Z Z) Z Z (bX Z (wou Z Z Z) Z Z (bX Z (wou Z Z Z) Z Z (bX Z (wou Z Z Z) Z Z (bX Z (wou Z Z Z) Z Z (bX Z (wou Z Z Z) Z Z (bX Z (wou Z Z Z) Z Z (dKt Z Z Z Z (aQ Z (wn Z) Z Z (aF Z Z) (aP (cU Z (ab (sA Z Z (aa (rT hQ results248 Z (⟨H2.ext,?_⟩)))))))))))))))))))))
   rw [nL k (by omega) (by
    simp [eX,-List.getD_eq_getElem?_getD]
    omega)]
  ·try simp only [decide_eq_true_eq,decide_eq_false_iff_not] at hg1
   refine aC Z (wg Z Z Z) Z Z (fun zw hx=>aG Z) (aC Z (wg Z Z Z) Z Z (fun zw hx=>aG Z) (aC Z (wg Z Z Z) Z Z (fun zw hx=>ao bd ts2 Z Z ee1 k (by omega) (by omega)) (aC Z (wg Z Z Z) Z Z (fun zw hx=>ah tu2 Z Z (hx.cell ec1)) (aC Z (wg Z Z Z) Z Z (fun zw hx=>aG Z) (aC Z (wg Z Z Z) Z Z (fun zw hx=>dd Z Z) (dV Z Z (fun zw hx=>aJ Z Z) (dM Z Z Z (cm (t:=25) Z (fun hg2=>?_) (fun hg2=>?_)))))))))
   ·try simp only [decide_eq_true_eq,decide_eq_false_iff_not] at hg2
    refine dR 3 Z (bX Z (wou Z Z Z) Z Z (bX Z (wou Z Z Z) Z Z (bX Z (wou Z Z Z) Z Z (bX Z (wou Z Z Z) Z Z (bX Z (wou Z Z Z) Z Z (bX Z (wou Z Z Z) Z Z (bX Z (wou Z Z Z) Z Z (bX Z (wou Z Z Z) Z Z (bX Z (wou Z Z Z) Z Z (bX Z (wou Z Z Z) Z Z (dKt Z Z Z Z (aQ Z (wn Z) Z Z (aF Z Z) (aP (cU Z (ab (sA Z Z (aa (rT hQ results248 Z (⟨H2.ext,?_⟩)))))))))))))))))))
    rw [nL k (by omega) (by
     simp [eX,-List.getD_eq_getElem?_getD]
     omega)]
   ·try simp only [decide_eq_true_eq,decide_eq_false_iff_not] at hg2
    refine aC Z (wg Z Z Z) Z Z (fun zw hx=>aG Z) (aC Z (wg Z Z Z) Z Z (fun zw hx=>dd Z Z) (aC Z (wg Z Z Z) Z Z (fun zw hx=>aG Z) (cm (t:=28) Z (fun hg3=>?_) (fun hg3=>?_))))
    ·try simp only [decide_eq_true_eq,decide_eq_false_iff_not] at hg3
     refine aC Z (wg Z Z Z) Z Z (fun zw hx=>aG Z) (aC Z (wg Z Z Z) Z Z (fun zw hx=>aG Z) (aC Z (wg Z Z Z) Z Z (fun zw hx=>ao bd ts2 Z Z ee1 k (by omega) (by omega)) (aC Z (wg Z Z Z) Z Z (fun zw hx=>ah tu2 Z Z (hx.cell ec1)) (aC Z (wg Z Z Z) Z Z (fun zw hx=>aG Z) (aC Z (wg Z Z Z) Z Z (fun zw hx=>aG Z) (aC Z (wg Z Z Z) Z Z (fun zw hx=>bm Z Z iO) ?_))))));obtain ⟨eb2,eo2,ee2,ec2⟩:=bT (H2.seen 0 Z) (k-1) (by omega);have eI2:=ca (H2.seen 0 Z) (k-1) (by omega);refine aC Z (wg Z Z Z) Z Z (fun zw hx=>ao bd ts2 Z Z ee2 (k-1) (by omega) (by omega)) (aC Z (wg Z Z Z) Z Z (fun zw hx=>ah tu2 Z Z (hx.cell ec2)) (aC Z (wg Z Z Z) Z Z (fun zw hx=>ru Z Z) (aC Z (wg Z Z Z) Z Z (fun zw hx=>aF Z Z) (aQ Z (wn Z) Z Z (aJ Z Z) (aP (au Z (fun c2=>?_) (fun c2=>?_)))))))
     ·refine ab (sA Z Z (aa (rT hQ results248 Z (⟨H2.ext,?_⟩))))
      rw [nL k (by omega) (by
       simp [eX,-List.getD_eq_getElem?_getD]
       omega)]
     ·refine ag (aj (sM Z Z (sV Z (aw Z Z iO) (sA Z Z (aa (⟨k+1,⟨Z,Z,Z,trivial⟩,⟨H2,by omega,fun i hi=>?_⟩,by dsimp only; omega⟩))))))
      by_cases e:i=k
      ·subst e;simp [eX,-List.getD_eq_getElem?_getD]
       omega
      ·exact he i (by omega)
    ·try simp only [decide_eq_true_eq,decide_eq_false_iff_not] at hg3
     refine dR 10 Z (aC Z (wg Z Z Z) Z Z (fun zw hx=>aJ Z Z) (aQ Z (wn Z) Z Z (aJ Z Z) (aP (l4 Z (ag (aj (sM Z Z (sV Z (aw Z Z iO) (sA Z Z (aa (⟨k+1,⟨Z,Z,Z,trivial⟩,⟨H2,by omega,fun i hi=>?_⟩,by dsimp only; omega⟩)))))))))))
     by_cases e:i=k
     ·subst e;simp [eX,-List.getD_eq_getElem?_getD]
      omega
     ·exact he i (by omega)
 ·refine aD (ab (rA hQ results248 Z ?_));exact ⟨H1.ext,by rw [oN (fun i hi=>he i (by omega))]⟩
end Go.Wk
namespace Go.Wk
open Go.Proofs Rp Go.Proofs.Tryz
set_option maxRecDepth 10000
theorem lm {w:World}{xs:List Int}{xsA:Option Addr}{xsC:Nat}{gf:FuncId}{gL:List Value}{gF:Func}(xsS:Sees w [.slice xsA xs.length xsC] xs) {p:Int→Bool}(gH:Tryz.prog.funcs[gf]? = some gF) (gB:gF.body.isNone=false) (gN:NG gF) (gC:∀ w1,Ext No w w1→∀ (i0:Nat),i0<xs.length→Ret Tryz.prog gf (([.int .i64 (xs.getD i0 0)]:List Value)++gL).toArray w1 fun v w'=>Ext No w1 w'∧v = .bool (p (xs.getD i0 0))):Ret Tryz.prog 366 #[.slice xsA xs.length xsC,.func (.func gf) #[] gL.toArray] w fun v w'=>Ext No w w'∧(v = .int .i64 (cF p xs)):=by
 have xsL:=sL xsS;obtain ⟨xsF,xsO⟩:=xsS;refine aA (vs:=[.slice xsA xs.length xsC,.func (.func gf) #[] gL.toArray]) func366 Z ntmps366 Z (fun Q hQ hN=>?_);have H0:=Sep.start (w:=w) (F:=[seen false [.slice xsA xs.length xsC] xs xsF]) (ae xsO (by simp));refine ab (sA Z Z (aa (ac (ab (sM Z Z (sV Z (ax bd Z) (sM Z Z (aa (ai (bH (γ:=Nat) H0 [(0,_),(1,_),(7,_)] ⟨Z,Z,Z,trivial⟩ (fun k=>[(8,.int .i64 k)]) (fun k=>k≤xs.length∧(∀ i,i<k→p (xs.getD i 0)=false)) (fun k=>xs.length-k) 0 ⟨Z,trivial⟩ ⟨by omega,fun i hi=>by omega⟩ (fun k w1 H1 ⟨hk,he⟩=>?_)))))))))));dsimp only[lCA,lNA];refine ab (sV Z (aI Z Z) (aa (ac (au Z (fun c1=>?_) (fun c1=>?_)))))
 ·refine ag (ac (ai (ab (sR 2 Z (aa (ac ?_))))));obtain ⟨eb1,eo1,ee1,ec1⟩:=bT (H1.seen 0 Z) k (by omega);have eI1:=ca (H1.seen 0 Z) k (by omega);refine aj (sR 3 Z (sV Z (ao bd ts2 Z Z ee1 k (by omega) (by omega)) (sV Z (ah tu2 Z Z ec1) (fm (wn Z) Z Z (gP (lb:=gL) Z gH gB gN Z) (gC _ H1.ext k (by omega)) (fun v1 w2 r1=>?_)))));obtain ⟨e1,rfl⟩:=r1;have H2:=H1.to e1;refine aa (bz Z (fun c2=>?_) (fun c2=>?_))
  ·refine ab (sR 2 Z (rN hQ results366 Z ?_));exact ⟨H2.ext,congrArg (Value.int .i64) (jX (d:=0) (by omega) (by assumption) he).symm⟩
  ·refine ag (aj (sV Z (aw Z Z iO) (sM Z Z (aa (⟨k+1,⟨Z,Z,Z,Z,trivial⟩,⟨H2,by omega,fun i hi=>?_⟩,by dsimp only; omega⟩)))))
   by_cases e:i=k
   ·subst e
    assumption
   ·exact he i (by omega)
 ·refine aD (ab (rA hQ results366 Z ?_));exact ⟨H1.ext,congrArg (Value.int .i64) (jI (d:=0) (fun i hi=>he i (by omega))).symm⟩
theorem jn {w:World}{xs:List Int}{xsA:Option Addr}{xsC:Nat}{gf:FuncId}{gL:List Value}{gF:Func}(xsS:Sees w [.slice xsA xs.length xsC] xs) {p:Int→Bool}(gH:Tryz.prog.funcs[gf]? = some gF) (gB:gF.body.isNone=false) (gN:NG gF) (gC:∀ w1,Ext No w w1→∀ (i0:Nat),i0<xs.length→Ret Tryz.prog gf (([.int .i64 (xs.getD i0 0)]:List Value)++gL).toArray w1 fun v w'=>Ext No w1 w'∧v = .bool (p (xs.getD i0 0))):Ret Tryz.prog 342 #[.slice xsA xs.length xsC,.func (.func gf) #[] gL.toArray] w fun v w'=>Ext No w w'∧(v = .bool (xs.any p)):=by
 have xsL:=sL xsS;obtain ⟨xsF,xsO⟩:=xsS;refine aA (vs:=[.slice xsA xs.length xsC,.func (.func gf) #[] gL.toArray]) func342 Z ntmps342 Z (fun Q hQ hN=>?_);have H0:=Sep.start (w:=w) (F:=[seen false [.slice xsA xs.length xsC] xs xsF]) (ae xsO (by simp));refine ab (sA Z Z (aa (ab (sR 2 Z (sE func366 ye Z (lm (H0.sees 0 Z) gH gB gN (fun w1 e1=>gC w1 (H0.ext.trans e1))) H0 (fun w1 e1 H1=>sR 2 Z (rN hQ results342 Z ?_)))))));exact ⟨H1.ext,by rw [← gW]⟩
theorem ly {w:World}{xs:List Block}{xsA:Option Addr}{xsC:Nat}{gf:FuncId}{gL:List Value}{gF:Func}(xsS:Sees w [.slice xsA xs.length xsC] xs) {p:Block→Bool}(gH:Tryz.prog.funcs[gf]? = some gF) (gB:gF.body.isNone=false) (gN:NG gF) (gC:∀ w1,Ext No w w1→∀ (i0:Nat),i0<xs.length→∀ (A0_1:Option Addr) (C0_1:Nat) (_:(xs.getD i0 default).Ok) (_:Sees w1 [.slice A0_1 (xs.getD i0 default).Bytes.length C0_1] (xs.getD i0 default).Bytes),Ret Tryz.prog gf (([(xs.getD i0 default).val A0_1 C0_1]:List Value)++gL).toArray w1 fun v w'=>Ext No w1 w'∧v = .bool (p (xs.getD i0 default))):Ret Tryz.prog 357 #[.slice xsA xs.length xsC,.func (.func gf) #[] gL.toArray] w fun v w'=>Ext No w w'∧(v = .int .i64 (cF p xs)):=by
 have xsL:=sL xsS;obtain ⟨xsF,xsO⟩:=xsS;refine aA (vs:=[.slice xsA xs.length xsC,.func (.func gf) #[] gL.toArray]) func357 Z ntmps357 Z (fun Q hQ hN=>?_);have H0:=Sep.start (w:=w) (F:=[seen false [.slice xsA xs.length xsC] xs xsF]) (ae xsO (by simp));refine ab (sA Z Z (aa (ac (ab (sM Z Z (sV Z (ax gt Z) (sM Z Z (aa (ai (bH (γ:=Nat) H0 [(0,_),(1,_),(7,_)] ⟨Z,Z,Z,trivial⟩ (fun k=>[(8,.int .i64 k)]) (fun k=>k≤xs.length∧(∀ i,i<k→p (xs.getD i default)=false)) (fun k=>xs.length-k) 0 ⟨Z,trivial⟩ ⟨by omega,fun i hi=>by omega⟩ (fun k w1 H1 ⟨hk,he⟩=>?_)))))))))));dsimp only[lCA,lNA];refine ab (sV Z (aI Z Z) (aa (ac (au Z (fun c1=>?_) (fun c1=>?_)))))
 ·refine ag (ac (ai (ab (sR 2 Z (aa (ac ?_))))));obtain ⟨eb1,eo1,es1,ef1,ee1,ec1,eO1,eH1,em1⟩:=bf (H1.seen 0 Z) k (by omega);obtain ⟨ea1,ek1,eg1,rfl,eq1,eK1,eo2⟩:=eP eO1;have eK1U:=eK1;unfold Block.Ok at eK1U
  try unfold I64ok at eK1U
  try unfold maxLen at eK1U
  have eP1:=H1.look1 0 Z eo2 (fun b hb=>eH1 b (by rw [eq1]; simp [hb]));have eL1:=oL eo2;refine aj (sR 3 Z (sV Z (ao gt kO Z Z ee1 k (by omega) (by omega)) (sV Z (an jC Z kO Z Z ec1) (fm (wn Z) Z Z (gP (lb:=gL) Z gH gB gN Z) (gC _ eP1.ext k (by omega) _ _ (by assumption) (eP1.sees 1 Z)) (fun v1 w2 r1=>?_)))));obtain ⟨e1,rfl⟩:=r1;have H2:=eP1.to e1;refine aa (bz Z (fun c2=>?_) (fun c2=>?_))
  ·refine ab (sR 2 Z (rN hQ results357 Z ?_));exact ⟨H2.ext,congrArg (Value.int .i64) (jX (d:=default) (by omega) (by assumption) he).symm⟩
  ·refine ag (aj (sV Z (aw Z Z iO) (sM Z Z (aa (⟨k+1,⟨Z,Z,Z,Z,trivial⟩,⟨(H2.ftake 1),by omega,fun i hi=>?_⟩,by dsimp only; omega⟩)))))
   by_cases e:i=k
   ·subst e
    assumption
   ·exact he i (by omega)
 ·refine aD (ab (rA hQ results357 Z ?_));exact ⟨H1.ext,congrArg (Value.int .i64) (jI (d:=default) (fun i hi=>he i (by omega))).symm⟩
theorem jE {w:World}{xs:List Block}{xsA:Option Addr}{xsC:Nat}{gf:FuncId}{gL:List Value}{gF:Func}(xsS:Sees w [.slice xsA xs.length xsC] xs) {p:Block→Bool}(gH:Tryz.prog.funcs[gf]? = some gF) (gB:gF.body.isNone=false) (gN:NG gF) (gC:∀ w1,Ext No w w1→∀ (i0:Nat),i0<xs.length→∀ (A0_1:Option Addr) (C0_1:Nat) (_:(xs.getD i0 default).Ok) (_:Sees w1 [.slice A0_1 (xs.getD i0 default).Bytes.length C0_1] (xs.getD i0 default).Bytes),Ret Tryz.prog gf (([(xs.getD i0 default).val A0_1 C0_1]:List Value)++gL).toArray w1 fun v w'=>Ext No w1 w'∧v = .bool (p (xs.getD i0 default))):Ret Tryz.prog 269 #[.slice xsA xs.length xsC,.func (.func gf) #[] gL.toArray] w fun v w'=>Ext No w w'∧(v = .bool (xs.any p)):=by
 have xsL:=sL xsS;obtain ⟨xsF,xsO⟩:=xsS;refine aA (vs:=[.slice xsA xs.length xsC,.func (.func gf) #[] gL.toArray]) func269 Z ntmps269 Z (fun Q hQ hN=>?_);have H0:=Sep.start (w:=w) (F:=[seen false [.slice xsA xs.length xsC] xs xsF]) (ae xsO (by simp));refine ab (sA Z Z (aa (ab (sR 2 Z (sE func357 vZ Z (ly (H0.sees 0 Z) gH gB gN (fun w1 e1=>gC w1 (H0.ext.trans e1))) H0 (fun w1 e1 H1=>sR 2 Z (rN hQ results269 Z ?_)))))));exact ⟨H1.ext,by rw [← gW]⟩
theorem lM {w:World}{xs:List Tape}{xsA:Option Addr}{xsC:Nat}{gf:FuncId}{gL:List Value}{gF:Func}(xsS:Sees w [.slice xsA xs.length xsC] xs) {p:Tape→Bool}(gH:Tryz.prog.funcs[gf]? = some gF) (gB:gF.body.isNone=false) (gN:NG gF) (gC:∀ w1,Ext No w w1→∀ (i0:Nat),i0<xs.length→∀ (A0_1:Option Addr) (C0_1:Nat) (_:(xs.getD i0 default).Ok) (_:Sees w1 [.slice A0_1 (xs.getD i0 default).Recs.length C0_1] (xs.getD i0 default).Recs),Ret Tryz.prog gf (([(xs.getD i0 default).val A0_1 C0_1]:List Value)++gL).toArray w1 fun v w'=>Ext No w1 w'∧v = .bool (p (xs.getD i0 default))):Ret Tryz.prog 358 #[.slice xsA xs.length xsC,.func (.func gf) #[] gL.toArray] w fun v w'=>Ext No w w'∧(v = .int .i64 (cF p xs)):=by
 have xsL:=sL xsS;obtain ⟨xsF,xsO⟩:=xsS;refine aA (vs:=[.slice xsA xs.length xsC,.func (.func gf) #[] gL.toArray]) func358 Z ntmps358 Z (fun Q hQ hN=>?_);have H0:=Sep.start (w:=w) (F:=[seen false [.slice xsA xs.length xsC] xs xsF]) (ae xsO (by simp));refine ab (sA Z Z (aa (ac (ab (sM Z Z (sV Z (ax cD Z) (sM Z Z (aa (ai (bH (γ:=Nat) H0 [(0,_),(1,_),(7,_)] ⟨Z,Z,Z,trivial⟩ (fun k=>[(8,.int .i64 k)]) (fun k=>k≤xs.length∧(∀ i,i<k→p (xs.getD i default)=false)) (fun k=>xs.length-k) 0 ⟨Z,trivial⟩ ⟨by omega,fun i hi=>by omega⟩ (fun k w1 H1 ⟨hk,he⟩=>?_)))))))))));dsimp only[lCA,lNA];refine ab (sV Z (aI Z Z) (aa (ac (au Z (fun c1=>?_) (fun c1=>?_)))))
 ·refine ag (ac (ai (ab (sR 2 Z (aa (ac ?_))))));obtain ⟨eb1,eo1,es1,ef1,ee1,ec1,eO1,eH1,em1⟩:=bf (H1.seen 0 Z) k (by omega);obtain ⟨ea1,ek1,eg1,rfl,eq1,eK1,eo2⟩:=cv eO1;have eP1:=H1.look1 0 Z eo2 (fun b hb=>eH1 b (by rw [eq1]; simp [hb]));have eL1:=oL eo2;refine aj (sR 3 Z (sV Z (ao cD cT Z Z ee1 k (by omega) (by omega)) (sV Z (an cP Z cT Z Z ec1) (fm (wn Z) Z Z (gP (lb:=gL) Z gH gB gN Z) (gC _ eP1.ext k (by omega) _ _ (by assumption) (eP1.sees 1 Z)) (fun v1 w2 r1=>?_)))));obtain ⟨e1,rfl⟩:=r1;have H2:=eP1.to e1;refine aa (bz Z (fun c2=>?_) (fun c2=>?_))
  ·refine ab (sR 2 Z (rN hQ results358 Z ?_));exact ⟨H2.ext,congrArg (Value.int .i64) (jX (d:=default) (by omega) (by assumption) he).symm⟩
  ·refine ag (aj (sV Z (aw Z Z iO) (sM Z Z (aa (⟨k+1,⟨Z,Z,Z,Z,trivial⟩,⟨(H2.ftake 1),by omega,fun i hi=>?_⟩,by dsimp only; omega⟩)))))
   by_cases e:i=k
   ·subst e
    assumption
   ·exact he i (by omega)
 ·refine aD (ab (rA hQ results358 Z ?_));exact ⟨H1.ext,congrArg (Value.int .i64) (jI (d:=default) (fun i hi=>he i (by omega))).symm⟩
theorem fW {w:World}{xs:List Tape}{xsA:Option Addr}{xsC:Nat}{gf:FuncId}{gL:List Value}{gF:Func}(xsS:Sees w [.slice xsA xs.length xsC] xs) {p:Tape→Bool}(gH:Tryz.prog.funcs[gf]? = some gF) (gB:gF.body.isNone=false) (gN:NG gF) (gC:∀ w1,Ext No w w1→∀ (i0:Nat),i0<xs.length→∀ (A0_1:Option Addr) (C0_1:Nat) (_:(xs.getD i0 default).Ok) (_:Sees w1 [.slice A0_1 (xs.getD i0 default).Recs.length C0_1] (xs.getD i0 default).Recs),Ret Tryz.prog gf (([(xs.getD i0 default).val A0_1 C0_1]:List Value)++gL).toArray w1 fun v w'=>Ext No w1 w'∧v = .bool (p (xs.getD i0 default))):Ret Tryz.prog 272 #[.slice xsA xs.length xsC,.func (.func gf) #[] gL.toArray] w fun v w'=>Ext No w w'∧(v = .bool (xs.any p)):=by
 have xsL:=sL xsS;obtain ⟨xsF,xsO⟩:=xsS;refine aA (vs:=[.slice xsA xs.length xsC,.func (.func gf) #[] gL.toArray]) func272 Z ntmps272 Z (fun Q hQ hN=>?_);have H0:=Sep.start (w:=w) (F:=[seen false [.slice xsA xs.length xsC] xs xsF]) (ae xsO (by simp));refine ab (sA Z Z (aa (ab (sR 2 Z (sE func358 wE Z (lM (H0.sees 0 Z) gH gB gN (fun w1 e1=>gC w1 (H0.ext.trans e1))) H0 (fun w1 e1 H1=>sR 2 Z (rN hQ results272 Z ?_)))))));exact ⟨H1.ext,by rw [← gW]⟩
theorem iw {w:World}{xs:List Rec}{xsA:Option Addr}{xsC:Nat}{gf:FuncId}{gL:List Value}{gF:Func}(xsS:Sees w [.slice xsA xs.length xsC] xs) {p:Rec→Bool}(gH:Tryz.prog.funcs[gf]? = some gF) (gB:gF.body.isNone=false) (gN:NG gF) (gC:∀ w1,Ext No w w1→∀ (i0:Nat),i0<xs.length→∀ (A0_6:Option Addr) (C0_6:Nat) (A0_7:Option Addr) (C0_7:Nat) (A0_8:Option Addr) (C0_8:Nat) (_:(xs.getD i0 default).Ok) (_:Sees w1 [.slice A0_6 (xs.getD i0 default).Rows.length C0_6] (xs.getD i0 default).Rows) (_:Sees w1 [.slice A0_7 (xs.getD i0 default).Data.length C0_7] (xs.getD i0 default).Data) (_:Sees w1 [.slice A0_8 (xs.getD i0 default).Delta.length C0_8] (xs.getD i0 default).Delta),Ret Tryz.prog gf (([(xs.getD i0 default).val A0_6 C0_6 A0_7 C0_7 A0_8 C0_8]:List Value)++gL).toArray w1 fun v w'=>Ext No w1 w'∧v = .bool (p (xs.getD i0 default))):Ret Tryz.prog 235 #[.slice xsA xs.length xsC,.func (.func gf) #[] gL.toArray] w fun v w'=>Ext No w w'∧(v = .int .i64 (cF p xs)):=by
 have xsL:=sL xsS;obtain ⟨xsF,xsO⟩:=xsS;refine aA (vs:=[.slice xsA xs.length xsC,.func (.func gf) #[] gL.toArray]) func235 Z ntmps235 Z (fun Q hQ hN=>?_);have H0:=Sep.start (w:=w) (F:=[seen false [.slice xsA xs.length xsC] xs xsF]) (ae xsO (by simp));refine ab (sA Z Z (aa (ac (ab (sM Z Z (sV Z (ax aS Z) (sM Z Z (aa (ai (bH (γ:=Nat) H0 [(0,_),(1,_),(7,_)] ⟨Z,Z,Z,trivial⟩ (fun k=>[(8,.int .i64 k)]) (fun k=>k≤xs.length∧(∀ i,i<k→p (xs.getD i default)=false)) (fun k=>xs.length-k) 0 ⟨Z,trivial⟩ ⟨by omega,fun i hi=>by omega⟩ (fun k w1 H1 ⟨hk,he⟩=>?_)))))))))));dsimp only[lCA,lNA];refine ab (sV Z (aI Z Z) (aa (ac (au Z (fun c1=>?_) (fun c1=>?_)))))
 ·refine ag (ac (ai (ab (sR 2 Z (aa (ac ?_))))));obtain ⟨eb1,eo1,es1,ef1,ee1,ec1,eO1,eH1,em1⟩:=bf (H1.seen 0 Z) k (by omega);obtain ⟨ea1,ek1,ea2,ek2,ea3,ek3,eg1,eg2,eg3,rfl,eq1,eK1,eo2,eo3,eo4⟩:=ew eO1;have eK1U:=eK1;unfold Rec.Ok at eK1U
  try unfold I64ok at eK1U
  try unfold maxLen at eK1U
  have eP1:=H1.look1 0 Z eo2 (fun b hb=>eH1 b (by rw [eq1]; simp [hb]));have eL1:=oL eo2;have eP2:=eP1.look1 0 Z eo3 (fun b hb=>eH1 b (by rw [eq1]; simp [hb]));have eL2:=oL eo3;have eP3:=eP2.look1 0 Z eo4 (fun b hb=>eH1 b (by rw [eq1]; simp [hb]));have eL3:=oL eo4;refine aj (sR 3 Z (sV Z (ao aS aL Z Z ee1 k (by omega) (by omega)) (sV Z (an az Z aL Z Z ec1) (fm (wn Z) Z Z (gP (lb:=gL) Z gH gB gN Z) (gC _ eP3.ext k (by omega) _ _ _ _ _ _ (by assumption) (eP3.sees 1 Z) (eP3.sees 2 Z) (eP3.sees 3 Z)) (fun v1 w2 r1=>?_)))));obtain ⟨e1,rfl⟩:=r1;have H2:=eP3.to e1;refine aa (bz Z (fun c2=>?_) (fun c2=>?_))
  ·refine ab (sR 2 Z (rN hQ results235 Z ?_));exact ⟨H2.ext,congrArg (Value.int .i64) (jX (d:=default) (by omega) (by assumption) he).symm⟩
  ·refine ag (aj (sV Z (aw Z Z iO) (sM Z Z (aa (⟨k+1,⟨Z,Z,Z,Z,trivial⟩,⟨(H2.ftake 1),by omega,fun i hi=>?_⟩,by dsimp only; omega⟩)))))
   by_cases e:i=k
   ·subst e
    assumption
   ·exact he i (by omega)
 ·refine aD (ab (rA hQ results235 Z ?_));exact ⟨H1.ext,congrArg (Value.int .i64) (jI (d:=default) (fun i hi=>he i (by omega))).symm⟩
theorem kN {w:World}{xs:List Rec}{xsA:Option Addr}{xsC:Nat}{gf:FuncId}{gL:List Value}{gF:Func}(xsS:Sees w [.slice xsA xs.length xsC] xs) {p:Rec→Bool}(gH:Tryz.prog.funcs[gf]? = some gF) (gB:gF.body.isNone=false) (gN:NG gF) (gC:∀ w1,Ext No w w1→∀ (i0:Nat),i0<xs.length→∀ (A0_6:Option Addr) (C0_6:Nat) (A0_7:Option Addr) (C0_7:Nat) (A0_8:Option Addr) (C0_8:Nat) (_:(xs.getD i0 default).Ok) (_:Sees w1 [.slice A0_6 (xs.getD i0 default).Rows.length C0_6] (xs.getD i0 default).Rows) (_:Sees w1 [.slice A0_7 (xs.getD i0 default).Data.length C0_7] (xs.getD i0 default).Data) (_:Sees w1 [.slice A0_8 (xs.getD i0 default).Delta.length C0_8] (xs.getD i0 default).Delta),Ret Tryz.prog gf (([(xs.getD i0 default).val A0_6 C0_6 A0_7 C0_7 A0_8 C0_8]:List Value)++gL).toArray w1 fun v w'=>Ext No w1 w'∧v = .bool (p (xs.getD i0 default))):Ret Tryz.prog 276 #[.slice xsA xs.length xsC,.func (.func gf) #[] gL.toArray] w fun v w'=>Ext No w w'∧(v = .bool (xs.any p)):=by
 have xsL:=sL xsS;obtain ⟨xsF,xsO⟩:=xsS;refine aA (vs:=[.slice xsA xs.length xsC,.func (.func gf) #[] gL.toArray]) func276 Z ntmps276 Z (fun Q hQ hN=>?_);have H0:=Sep.start (w:=w) (F:=[seen false [.slice xsA xs.length xsC] xs xsF]) (ae xsO (by simp));refine ab (sA Z Z (aa (ab (sR 2 Z (sE func235 qp Z (iw (H0.sees 0 Z) gH gB gN (fun w1 e1=>gC w1 (H0.ext.trans e1))) H0 (fun w1 e1 H1=>sR 2 Z (rN hQ results276 Z ?_)))))));exact ⟨H1.ext,by rw [← gW]⟩
end Go.Wk
