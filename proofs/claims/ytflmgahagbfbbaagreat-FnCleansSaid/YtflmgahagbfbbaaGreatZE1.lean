/-
  Laws on walking, and the functions walked, each once: what this claim comes to.
-/
import Derived.Test.YtflmgahagbfbbaaGreatZE0
set_option linter.unusedVariables false
set_option linter.unusedSimpArgs false
namespace Go.Wk
open Rp (sz own)
section
variable {s:Shape}{len:Int}
theorem sc (hd:1≤s.Data∧s.Data≤3) (h:1≤len):3<(len-1).tdiv (s.Data*4)+1↔3*(s.Data*4)<len:=by
  rw [Int.tdiv_eq_ediv_of_nonneg ω]
  have:s.Data=1∨s.Data=2∨s.Data=3:=by omega
  rcases this with e | e | e<;>rw [e]<;>omega
theorem sB (hd:1≤s.Data∧s.Data≤3) (h:1≤len):(len+s.Data*4-1).tdiv (s.Data*4)=fc s len:=by
  rw [fc,Int.tdiv_eq_ediv_of_nonneg ω,Int.tdiv_eq_ediv_of_nonneg ω]
  have:s.Data=1∨s.Data=2∨s.Data=3:=by omega
  rcases this with e | e | e<;>rw [e]<;>omega
theorem ua (hd:1≤s.Data∧s.Data≤3) (h:1≤len):0≤(len-1).tdiv (s.Data*4)∧(len-1).tdiv (s.Data*4)<len:=by
  rw [Int.tdiv_eq_ediv_of_nonneg ω]
  have:s.Data=1∨s.Data=2∨s.Data=3:=by omega
  rcases this with e | e | e<;>rw [e]<;>omega
def kP (s:Shape) (len:Int):Int:=if ep s len=0 then fc s len else 0
theorem uR (h:len<1):ep s len=6∧kP s len=0:=by
  have:ep s len=6:=by rw [ep,if_pos h]
  exact ⟨this,by rw [kP,this]; rfl⟩
theorem si (h:¬ len<1) (h2:3*(s.Data*4)<len):ep s len=2∧kP s len=0:=by
  have:ep s len=2:=by rw [ep,if_neg h,if_pos h2]
  exact ⟨this,by rw [kP,this]; rfl⟩
theorem xw (h:¬ len<1) (h2:¬ 3*(s.Data*4)<len):ep s len=0∧kP s len=fc s len:=by
  have:ep s len=0:=by rw [ep,if_neg h,if_neg h2]
  exact ⟨this,by rw [kP,if_pos this]⟩
theorem rM (h:ep s len=0):1≤len∧¬ 3*(s.Data*4)<len:=by
  unfold ep at h
  split at h
  · cases h
  · split at h
    · cases h
    · exact ⟨ω,ω⟩
end
theorem jY {n:Nat}{p:Nat→Bool}:(List.range (n+1)).all p=((List.range n).all p && p n):=by
  rw [List.range_succ,List.all_append]; simp
theorem dZ {α:Type}{xs:List α}{i:Nat}:cut xs 0 i=xs.take i:=by simp [cut]
theorem iW {s:Shape}{rs:List Rec}{j:Nat}(h:dJ s rs j≠0):∀ m,j≤m→dJ s rs m=dJ s rs j:=by
  intro m hm
  induction m with
  | zero=>rw [show j=0 by omega]
  | succ m ih=>
    by_cases e:j=m+1
    · rw [e]
    · have ih:=ih ω
      rw [dJ,if_pos (by rw [ih]; exact h),ih]
theorem fG {s:Shape}{rs:List Rec}{j:Nat}(h:dJ s rs j=0):dJ s rs (j+1)=fL s (rs.getD j default):=by rw [dJ,if_neg ω]
theorem ya {s:Shape}{rs:List Rec}{j:Nat}(hj:j<rs.length) (h:dJ s rs j=0) (hr:fL s (rs.getD j default)≠0):dJ s rs rs.length=fL s (rs.getD j default):=by
  have e:=fG h
  rw [iW (j:=j+1) (by rw [e]; exact hr) _ ω,e]
theorem iS {s:Shape}{ts:List Tape}{j:Nat}(h:dv s ts j≠0):∀ m,j≤m→dv s ts m=dv s ts j:=by
  intro m hm
  induction m with
  | zero=>rw [show j=0 by omega]
  | succ m ih=>
    by_cases e:j=m+1
    · rw [e]
    · have ih:=ih ω
      rw [dv,if_pos (by rw [ih]; exact h),ih]
theorem eQ {s:Shape}{ts:List Tape}{j:Nat}(h:dv s ts j=0):dv s ts (j+1)=dJ s (ts.getD j default).Recs (ts.getD j default).Recs.length:=by rw [dv,if_neg ω]
theorem ye {s:Shape}{ts:List Tape}{j i:Nat}(hj:j<ts.length) (h:dv s ts j=0) (hi:i<(ts.getD j default).Recs.length) (h2:dJ s (ts.getD j default).Recs i=0) (hr:fL s ((ts.getD j default).Recs.getD i default)≠0) :
    dv s ts ts.length=fL s ((ts.getD j default).Recs.getD i default):=by
  have e:=eQ h
  rw [ya hi h2 hr] at e
  rw [iS (j:=j+1) (by rw [e]; exact hr) _ ω,e]
theorem sN {α:Type}[Inhabited α] {xs:List α}{p:α→Bool}(k:Nat) (hk:k<xs.length) (h:p (xs.getD k default)=true):xs.any p=true:=by
  rw [List.any_eq_true]
  exact ⟨xs[k],List.getElem_mem hk,by simpa [List.getD,hk] using h⟩
theorem qK {α:Type}[Inhabited α] {xs:List α}{p:α→Bool}(h:∀ i,i<xs.length→p (xs.getD i default)=false):xs.any p=false:=by
  rw [List.any_eq_false]
  intro x hx
  obtain ⟨i,hi,rfl⟩:=List.getElem_of_mem hx
  have:=h i hi
  simpa [List.getD,hi] using this
end Go.Wk
namespace Go.Wk
def upF (w:Wld):Int:=if bF w≠0 then bF w else if w.Down=true then 9 else 0
theorem bM {w:Wld}(h:bF w=0):w.Shape.ok=true∧cE w=true∧n0 w=true∧w.Tapes.length=2∧dT w=0:=by
  unfold bF at h
  split at h
  · rename_i h1; exact absurd h h1
  · rename_i h1
    have hs:=fo (s:=w.Shape) ω
    split at h
    · rename_i h2
      simp only [Bool.and_eq_true,decide_eq_true_eq] at h2
      split at h
      · rename_i h3; exact absurd h h3
      · rename_i h3
        exact ⟨hs,h2.1.1,h2.1.2,h2.2,ω⟩
    · cases h
theorem vu {w:Wld}(h:upF w=0):bF w=0∧w.Down=false:=by
  unfold upF at h
  split at h
  · rename_i h1; exact absurd h h1
  · split at h
    · cases h
    · rename_i h1 h2
      exact ⟨ω,by simpa using h2⟩
theorem mI {w:Wld}(h:cE w=true):(w.Groups.length:Int)=w.Shape.Groups+w.Shape.Column∧∀ g,g<w.Groups.length→((w.Groups.getD g []).length:Int)=w.Shape.Data+w.Shape.Spare ∧
    ∀ d,d<(w.Groups.getD g []).length→((((w.Groups.getD g []).getD d default).Blocks.length:Int)=w.Shape.Rows) ∧
      ∀ i,i<((w.Groups.getD g []).getD d default).Blocks.length→en (((w.Groups.getD g []).getD d default).Blocks.getD i default)=true:=by
  simp only [cE,Bool.and_eq_true,decide_eq_true_eq] at h
  refine ⟨h.1,fun g hg=>?_⟩
  have h2:=pE h.2 g hg
  simp only [fD,Bool.and_eq_true,decide_eq_true_eq] at h2
  refine ⟨h2.1,fun d hd=>?_⟩
  have h3:=pE h2.2 d hd
  simp only [eu,Bool.and_eq_true,decide_eq_true_eq] at h3
  exact ⟨h3.1,fun i hi=>pE h3.2 i hi⟩
theorem uN {b:Block}(h:en b=true):0≤b.Stamp∧b.Stamp≤1000000000∧b.Bytes.length=4:=by
  simp only [en,Bool.and_eq_true,cq,decide_eq_true_eq] at h
  exact ⟨h.1.1,h.1.2,h.2⟩
end Go.Wk
namespace Go.Wk
theorem eqB {a b:Bool}(h:a=b):some (Value.bool a)=some (Value.bool b):=by rw [h]
def o5 (s:Shape) (r:Rec):Int:=if cT r.Name≠0 then cT r.Name else if gA s r=true then 0 else 3
theorem p9 {s r} (h:cT r.Name≠0):o5 s r=cT r.Name:=by rw [o5,if_pos h]
theorem lj {s r} (h:¬ cT r.Name≠0) (h2:gA s r=true):o5 s r=0:=by rw [o5,if_neg h,if_pos h2]
theorem jC {s r} (h:¬ cT r.Name≠0) (h2:gA s r=false):o5 s r=3:=by rw [o5,if_neg h,if_neg (by simp [h2])]
end Go.Wk
namespace Go.Wk
open Rp (sz own)
section
variable {P:Program}{n:Nat}{c:Code}{Q:Post}{L:Env}{w w0:World}{M:Nat→Prop}{Δ F:List Rsc}
theorem kS {L:Env}:∀ {A B:Env},sub L A→sub L B→sub L (A++B)
  | [],_,_,h=>h
  | _::_,_,h,k=>⟨h.1,kS h.2 k⟩
theorem bO {γ:Type}(H:Sep M w0 Δ F w) (E2:Env) (h2:sub L E2) (E:γ→Env) (I:γ→Prop) (μ:γ→Nat) (g0:γ) (hs:sub L (E g0)) (h0:I g0)
  (round:∀ g w,Sep M w0 Δ F w→I g→W P n c (again (fun g=>E g++E2) (fun g w'=>Sep M w0 Δ F w'∧I g) μ g Q) (E g++E2) w):W P n (.loop c) Q L w:=
 cm (fun g=>E g++E2) (fun g w'=>Sep M w0 Δ F w'∧I g) μ g0 (kS hs h2) ⟨H,h0⟩ fun g w h=>round g w h.1 h.2
theorem zC {x y:Code}{γ:Type}(H:Sep M w0 Δ F w) (E2:Env) (h2:sub L E2) (E:γ→Env) (I:γ→Prop)
  (h:W P n x (meets (fun g=>E g++E2) (fun g w'=>Sep M w0 Δ F w'∧I g) Q) L w)
  (k:∀ g w',Sep M w0 Δ F w'→I g→W P n y Q (E g++E2) w'):W P n (.seq x y) Q L w:=
 mn (fun g=>E g++E2) (fun g w'=>Sep M w0 Δ F w'∧I g) h fun g w' hI=>k g w' hI.1 hI.2
end
end Go.Wk
namespace Go.Wk
theorem xu {s:Shape}{r:Rec}{a b c d:Bool}(h1:r.Length ≠ -1) (h2:ep s r.Length=0) (ea:a=decide ((r.Data.length:Int)=r.Length)) (eb:b=decide ((r.Rows.length:Int)=0))
    (ec:c=decide ((r.Data.length:Int)=0)) (ed:d=decide ((r.Rows.length:Int)=fc s r.Length)):(a && b || (c && d && apartL r.Rows (s.Rows-1)))=gA s r:=by
  subst ea; subst eb; subst ec; subst ed
  have hz:=rM h2
  rw [gA,if_neg h1,decide_eq_true h2,Bool.true_and]
  by_cases hd:0<r.Data.length
  · rw [if_pos hd,decide_eq_false (by omega:¬ ((r.Data.length:Int)=0))]
    simp
  · rw [if_neg hd,decide_eq_true (by omega:((r.Data.length:Int)=0)),decide_eq_false (by omega:¬ ((r.Data.length:Int)=r.Length))]
    simp
theorem pI {s:Shape}{r:Rec}(h1:r.Length = -1):gA s r=(decide (r.Data.length=0) && decide (r.Rows.length=0)):=by rw [gA,if_pos h1]
theorem sv {s:Shape}{r:Rec}(h1:r.Length ≠ -1) (h2:ep s r.Length≠0):gA s r=false:=by rw [gA,if_neg h1,decide_eq_false h2]; rfl
theorem rF {s:Shape}{len:Int}(h:ep s len=0):kP s len=fc s len:=by rw [kP,if_pos h]
end Go.Wk
namespace Go.Wk
def jw (r:Rec):Bool:=noName r && decide (r.Length=0) && decide (r.Group=0) && decide (r.Row=0) && decide (r.Rows.length=0) && decide (r.Data.length=0) && decide (r.Delta.length=0)
def eC (r:Rec):Rec:=
  if r.Kind=1 then ⟨r.Kind,r.Seq,r.Name,r.Length,0,0,r.Rows,r.Data,[]⟩
  else if r.Kind=2 then ⟨r.Kind,r.Seq,⟨#[]⟩,0,r.Group,r.Row,[],r.Data,r.Delta⟩
  else if r.Kind=3 then ⟨r.Kind,r.Seq,⟨#[]⟩,0,r.Group,0,[],[],[]⟩
  else if r.Kind=4 then ⟨r.Kind,r.Seq,⟨#[]⟩,0,r.Group,r.Row,r.Rows,r.Data,r.Delta⟩
  else ⟨r.Kind,r.Seq,⟨#[]⟩,0,0,0,[],[],[]⟩
theorem qT {r:Rec}(hk:1≤r.Kind∧r.Kind≤4):decide (r=eC r)=bareOK r:=by
  obtain ⟨k,q,nm,ln,g,rw,rs,da,de⟩:=r
  have:k=1∨k=2∨k=3∨k=4:=by simp only at hk; omega
  rcases this with rfl | rfl | rfl | rfl<;>simp [eC,bareOK,noName,Bool.and_assoc]
theorem ur {a b:Rec}:(decide (a.Kind=b.Kind) && (decide (a.Seq=b.Seq) && ((a.Name.toList == b.Name.toList) && (decide (a.Length=b.Length) && (decide (a.Group=b.Group) && (decide (a.Row=b.Row) && (decide (a.Rows=b.Rows) && (decide (a.Data=b.Data) && decide (a.Delta=b.Delta)))))))))=decide (a=b):=by
  obtain ⟨k,q,nm,ln,g,rw,rs,da,de⟩:=a
  obtain ⟨k2,q2,nm2,ln2,g2,rw2,rs2,da2,de2⟩:=b
  simp [tw]
theorem qm {s:Shape}{r:Rec}(h:¬ ((r.Delta.getD r.Group.toNat 0).toNat:Int)=0):weightsOK s r=false:=by rw [weightsOK,decide_eq_false h]; simp
theorem pN {s:Shape}{r:Rec}(k:Nat) (hk:k<r.Rows.length) (h:((r.Delta.getD (r.Rows.getD k 0).toNat 0).toNat:Int)=0):weightsOK s r=false:=by
  rw [weightsOK,kw k hk (by rw [decide_eq_false (by simpa using h)])]; simp
theorem sd {s:Shape}{r:Rec}(h:(r.Delta.length:Int)=s.Groups+s.Column) (h2:((r.Delta.getD r.Group.toNat 0).toNat:Int)=0) (h3:∀ i,i<r.Rows.length→¬ ((r.Delta.getD (r.Rows.getD i 0).toNat 0).toNat:Int)=0):weightsOK s r=true:=by
  rw [weightsOK,decide_eq_true h,decide_eq_true h2,iw fun i hi=>decide_eq_true (h3 i hi)]; rfl
theorem wT {s:Shape}{r:Rec}(h:¬ (r.Delta.length:Int)=s.Groups+s.Column):weightsOK s r=false:=by rw [weightsOK,decide_eq_false h]; rfl
end Go.Wk
namespace Go.Wk
theorem my {s:Shape}{r:Rec}(h1:r.Length ≠ -1) (h2:ep s r.Length=0):gA s r=if 0<r.Data.length then decide ((r.Data.length:Int)=r.Length) && decide (r.Rows.length=0) else decide ((r.Rows.length:Int)=fc s r.Length) && apartL r.Rows (s.Rows-1):=by
  rw [gA,if_neg h1,decide_eq_true h2,Bool.true_and]
end Go.Wk
namespace Go.Wk
theorem uf {α:Type}{d:α}{xs:List α}{p:α→Bool}(h:xs.any p=true):∃ i,i<xs.length∧p (xs.getD i d)=true:=by
  rw [List.any_eq_true] at h
  obtain ⟨x,hx,hp⟩:=h
  obtain ⟨i,hi,rfl⟩:=List.getElem_of_mem hx
  exact ⟨i,hi,by simpa [List.getD,hi] using hp⟩
theorem sS {α:Type}{d:α}{xs:List α}{p:α→Bool}(h:xs.any p=false) (i:Nat) (hi:i<xs.length):p (xs.getD i d)=false:=by
  rw [List.any_eq_false] at h
  have:=h xs[i] (List.getElem_mem hi)
  simpa [List.getD,hi] using this
theorem wY {s:Shape}{r:Rec}(h:r.Rows.any (fun k=>decide (((r.Delta.getD k.toNat 0).toNat:Int)=0))=true):weightsOK s r=false:=by
  obtain ⟨i,hi,h⟩:=uf (d:=0) h
  exact pN i hi (by simpa using h)
theorem tP {s:Shape}{r:Rec}(h:(r.Delta.length:Int)=s.Groups+s.Column) (h2:((r.Delta.getD r.Group.toNat 0).toNat:Int)=0) (h3:r.Rows.any (fun k=>decide (((r.Delta.getD k.toNat 0).toNat:Int)=0))=false):weightsOK s r=true:=
  sd h h2 fun i hi=>by simpa using sS (d:=0) h3 i hi
end Go.Wk
namespace Go.Wk
theorem Ce {r:Rec}(h:r.Kind=1):eC r=⟨r.Kind,r.Seq,r.Name,r.Length,0,0,r.Rows,r.Data,[]⟩:=by rw [eC,if_pos h]
theorem B1 {r:Rec}(h:¬ r.Kind=1) (h2:r.Kind=2):eC r=⟨r.Kind,r.Seq,⟨#[]⟩,0,r.Group,r.Row,[],r.Data,r.Delta⟩:=by rw [eC,if_neg h,if_pos h2]
theorem BT {r:Rec}(h:¬ r.Kind=1) (h2:¬ r.Kind=2) (h3:r.Kind=3):eC r=⟨r.Kind,r.Seq,⟨#[]⟩,0,r.Group,0,[],[],[]⟩:=by rw [eC,if_neg h,if_neg h2,if_pos h3]
theorem Bf {r:Rec}(h:¬ r.Kind=1) (h2:¬ r.Kind=2) (h3:¬ r.Kind=3) (h4:r.Kind=4):eC r=⟨r.Kind,r.Seq,⟨#[]⟩,0,r.Group,r.Row,r.Rows,r.Data,r.Delta⟩:=by rw [eC,if_neg h,if_neg h2,if_neg h3,if_pos h4]
theorem Bt {r:Rec}(h:¬ r.Kind=1) (h2:¬ r.Kind=2) (h3:¬ r.Kind=3) (h4:¬ r.Kind=4):eC r=⟨r.Kind,r.Seq,⟨#[]⟩,0,0,0,[],[],[]⟩:=by rw [eC,if_neg h,if_neg h2,if_neg h3,if_neg h4]
theorem AU {r:Rec}(h:r.Ok):(eC r).Ok:=by
  unfold Rec.Ok I64ok at h ⊢
  unfold eC
  have:(⟨#[]⟩:ByteArray).size≤maxLen:=Nat.zero_le _
  split
  · simp only; omega
  · split
    · simp only; omega
    · split
      · simp only; omega
      · split
        · simp only; omega
        · simp only; omega
end Go.Wk
namespace Go.Wk
section
variable {s:Shape}{r:Rec}
theorem oN (h:ins r.Kind 1 4=false):fL s r=5:=by rw [fL,if_neg (by simp [h])]
theorem qN (h:ins r.Kind 1 4=true) (h2:ins r.Seq 1 1000000000=false):fL s r=3:=by rw [fL,if_pos h,if_neg (by simp [h2])]
theorem ex (h:ins r.Kind 1 4=true) (h2:ins r.Seq 1 1000000000=true) (h3:fe s r≠0):fL s r=fe s r:=by rw [fL,if_pos h,if_pos h2,if_pos h3]
theorem jN (h:ins r.Kind 1 4=true) (h2:ins r.Seq 1 1000000000=true) (h3:fe s r=0) (h4:bareOK r=false):fL s r=1:=by rw [fL,if_pos h,if_pos h2,if_neg ω,if_neg (by simp [h4])]
theorem nx (h:ins r.Kind 1 4=true) (h2:ins r.Seq 1 1000000000=true) (h3:fe s r=0) (h4:bareOK r=true):fL s r=0:=by rw [fL,if_pos h,if_pos h2,if_neg ω,if_pos h4]
theorem iK (h:r.Kind=1):fe s r=o5 s r:=by rw [fe,if_pos h]; rfl
theorem eD (h:r.Kind=4):fe s r=if dN s r=true then 0 else 3:=by rw [fe,if_neg ω,if_neg ω,if_neg ω]
theorem mt (h:r.Kind=3) (h2:ins r.Group 0 (s.Groups+s.Column-1)=false):fe s r=3:=by rw [fe,if_neg ω,if_neg ω,if_pos h,if_neg (by simp [h2])]
theorem jz (h:r.Kind=3) (h2:ins r.Group 0 (s.Groups+s.Column-1)=true):fe s r=0:=by rw [fe,if_neg ω,if_neg ω,if_pos h,if_pos h2]
theorem dH (h:r.Kind=2) (h2:gc s r=false):fe s r=3:=by rw [fe,if_neg ω,if_pos h,if_neg (by simp [h2])]
theorem jy (h:r.Kind=2) (h2:gc s r=true):fe s r=0:=by rw [fe,if_neg ω,if_pos h,if_pos h2]
end
end Go.Wk
namespace Go.Wk
section
variable {P:Program}{n:Nat}{c:Code}{Q:Post}{L:Env}{w w0:World}{M:Nat→Prop}{Δ F:List Rsc}
theorem nu {Δ:List Rsc}{i:Nat}{r:Rsc}(h:Δ[i]? = some r):Δ.set i r=Δ:=by
  apply List.ext_getElem?
  intro j
  rw [List.getElem?_set]
  split
  · rename_i e; subst e
    obtain ⟨hl,_⟩:=List.getElem?_eq_some_iff.1 h
    rw [if_pos hl,h]
  · rfl
theorem eH {α:Type}[Rp α] {γ:Type}{v0:Value}{fp0:List Nat}(f:γ→List α) (g0:γ) (H:Sep M w0 Δ F w) (i:Nat) (hi:Δ[i]? = some (mine [v0] (f g0) fp0)) (t:Nat) (ht:look L t=some v0)
  (E2:Env) (h2:sub L E2) (E:γ→Env) (I:γ→Prop) (μ:γ→Nat) (hs:sub L (E g0)) (h0:I g0)
  (round:∀ g v fp w,Sep M w0 (Δ.set i (mine [v] (f g) fp)) F w→I g→W P n c (again (fun x:γ × Value × List Nat=>(t,x.2.1)::(E x.1++E2)) (fun x w'=>Sep M w0 (Δ.set i (mine [x.2.1] (f x.1) x.2.2)) F w'∧I x.1) (fun x=>μ x.1) (g,v,fp) Q) ((t,v)::(E g++E2)) w):W P n (.loop c) Q L w:=
 cm (fun x:γ × Value × List Nat=>(t,x.2.1)::(E x.1++E2)) (fun x w'=>Sep M w0 (Δ.set i (mine [x.2.1] (f x.1) x.2.2)) F w'∧I x.1) (fun x=>μ x.1) (g0,v0,fp0) ⟨ht,kS hs h2⟩ ⟨by rw [nu hi]; exact H,h0⟩ fun x w h=>round x.1 x.2.1 x.2.2 w h.1 h.2
end
end Go.Wk
namespace Go.Wk
open Rp (sz own)
section
variable {s:Shape}{r:Rec}
theorem An (h:r.Ok):(⟨r.Kind,r.Seq,⟨#[]⟩,0,r.Group,r.Row,[],[],r.Delta⟩:Rec).Ok:=by
  unfold Rec.Ok I64ok at h ⊢
  have:(⟨#[]⟩:ByteArray).size≤maxLen:=Nat.zero_le _
  simp only; omega
theorem zT (h:r.Ok):(⟨r.Kind,r.Seq,r.Name,r.Length,0,0,r.Rows,[],[]⟩:Rec).Ok:=by
  unfold Rec.Ok I64ok at h ⊢
  simp only; omega
theorem AJ (h:r.Ok):(⟨r.Kind,r.Seq,r.Name,r.Length,0,r.Row,r.Rows,r.Data,r.Delta⟩:Rec).Ok:=by
  unfold Rec.Ok I64ok at h ⊢
  simp only; omega
theorem AS (h:r.Ok):(⟨r.Kind,r.Seq,r.Name,r.Length,0,0,[],[],[]⟩:Rec).Ok:=by
  unfold Rec.Ok I64ok at h ⊢
  simp only; omega
theorem qy (h:r.Kind=1):jw ⟨r.Kind,r.Seq,⟨#[]⟩,0,r.Group,r.Row,[],[],r.Delta⟩=bareOK r:=by rw [bareOK,if_pos h]; simp [jw,noName]
theorem pG (h:r.Kind=2):jw ⟨r.Kind,r.Seq,r.Name,r.Length,0,0,r.Rows,[],[]⟩=bareOK r:=by rw [bareOK,if_neg ω,if_pos h]; simp [jw,noName]
theorem qS (h:r.Kind=3):jw ⟨r.Kind,r.Seq,r.Name,r.Length,0,r.Row,r.Rows,r.Data,r.Delta⟩=bareOK r:=by rw [bareOK,if_neg ω,if_neg ω,if_pos h]; simp [jw,noName,Bool.and_assoc]
theorem pF (h:r.Kind=4):jw ⟨r.Kind,r.Seq,r.Name,r.Length,0,0,[],[],[]⟩=bareOK r:=by rw [bareOK,if_neg ω,if_neg ω,if_neg ω]; simp [jw,noName]
end
end Go.Wk
namespace Go.Wk
section
variable {z:Wld}{s:Shape}{g:List Drive}{d:Drive}
theorem u7 {α:Type}[Inhabited α] {xs:List α}{p:α→Bool}(h:(xs.any fun b => !p b)=false):((List.range xs.length).all fun i=>p (xs.getD i default))=true:=
  iw fun i hi=>by simpa using sS (d:=default) h i hi
theorem qW {α:Type}[Inhabited α] {xs:List α}{p:α→Bool}(h:(xs.any fun b => !p b)=true):((List.range xs.length).all fun i=>p (xs.getD i default))=false:=by
  obtain ⟨i,hi,h⟩:=uf (d:=default) h
  exact kw i hi (by simpa using h)
theorem oZ (h:¬ (d.Blocks.length:Int)=s.Rows):eu s d=false:=by rw [eu,decide_eq_false h]; rfl
theorem tR (h:(d.Blocks.any fun b => !en b)=true):eu s d=false:=by rw [eu,qW h,Bool.and_false]
theorem tY (h:(d.Blocks.length:Int)=s.Rows) (h2:(d.Blocks.any fun b => !en b)=false):eu s d=true:=by rw [eu,decide_eq_true h,u7 h2]; rfl
theorem uw (h:(d.Blocks.length:Int)=s.Rows) (h2:∀ i,i<d.Blocks.length→en (d.Blocks.getD i default)=true):eu s d=true:=by rw [eu,decide_eq_true h,iw h2]; rfl
theorem uS (i:Nat) (hi:i<d.Blocks.length) (h2:en (d.Blocks.getD i default)=false):eu s d=false:=by rw [eu,kw i hi h2,Bool.and_false]
theorem oV (h:¬ (g.length:Int)=s.Data+s.Spare):fD s g=false:=by rw [fD,decide_eq_false h]; rfl
theorem ke (k:Nat) (hk:k<g.length) (h:eu s (g.getD k default)=false):fD s g=false:=by rw [fD,kw k hk h,Bool.and_false]
theorem oY (h:(g.length:Int)=s.Data+s.Spare) (h2:∀ i,i<g.length→eu s (g.getD i default)=true):fD s g=true:=by rw [fD,decide_eq_true h,iw h2]; rfl
theorem nh (h:¬ (z.Groups.length:Int)=z.Shape.Groups+z.Shape.Column):cE z=false:=by rw [cE,decide_eq_false h]; rfl
theorem fS (k:Nat) (hk:k<z.Groups.length) (h:fD z.Shape (z.Groups.getD k [])=false):cE z=false:=by rw [cE,kw k hk h,Bool.and_false]
theorem nC (h:(z.Groups.length:Int)=z.Shape.Groups+z.Shape.Column) (h2:∀ i,i<z.Groups.length→fD z.Shape (z.Groups.getD i [])=true):cE z=true:=by rw [cE,decide_eq_true h,iw h2]; rfl
end
end Go.Wk
namespace Go.Wk
section
variable {z:Wld}
theorem pO (h:(List.range z.On.length).all (apartAt z.On (z.Shape.Groups+z.Shape.Column-1))=false):n0 z=false:=by rw [n0,apartL,h]; rfl
theorem oH (h:(List.range z.On.length).all (apartAt z.On (z.Shape.Groups+z.Shape.Column-1))=true) {b:Bool}(hb:b=(decide ((z.On.length:Int)≤z.Shape.Cap) && (decide (z.On.length=0) || !z.Down))):n0 z=b:=by rw [n0,apartL,h,hb]; simp [Bool.and_assoc]
theorem il (h:z.Tapes.any cr=true):dT z=2:=by rw [dT,if_pos h]
theorem mV (h:z.Tapes.any cr=false) {k k2:Nat}(hk:k<z.Tapes.length) (hkz:dv z.Shape z.Tapes k=0) (hk2:k2<(z.Tapes.getD k default).Recs.length) (h2:dJ z.Shape (z.Tapes.getD k default).Recs k2=0)
    (hr:fL z.Shape ((z.Tapes.getD k default).Recs.getD k2 default)≠0):dT z=fL z.Shape ((z.Tapes.getD k default).Recs.getD k2 default):=by
  have e:=ye hk hkz hk2 h2 hr
  rw [dT,if_neg (by simp [h]),if_pos (by rw [e]; exact hr),e]
theorem lu (h:z.Tapes.any cr=false) (h2:dv z.Shape z.Tapes z.Tapes.length=0) (h3:z.Tapes.any cQ=true):dT z=1:=by rw [dT,if_neg (by simp [h]),if_neg ω,if_pos h3]
theorem lP (h:z.Tapes.any cr=false) (h2:dv z.Shape z.Tapes z.Tapes.length=0) (h3:z.Tapes.any cQ=false):dT z=0:=by rw [dT,if_neg (by simp [h]),if_neg ω,if_neg (by simp [h3])]
end
end Go.Wk
namespace Go.Wk
section
variable {z:Wld}{b:Block}
theorem vR (h:(!ins b.Stamp 0 1000000000 || decide ((b.Bytes.length:Int)≠4))=true):en b=false:=by
  rw [en]
  simp only [Bool.or_eq_true,decide_eq_true_eq] at h
  rcases h with h | h
  · rw [not_true h]; rfl
  · rw [decide_eq_false ω,Bool.and_false]
theorem uA (h:(!ins b.Stamp 0 1000000000 || decide ((b.Bytes.length:Int)≠4))=false):en b=true:=by
  rw [Bool.or_eq_false_iff] at h
  have h2:=of_decide_eq_false h.2
  rw [en,not_false h.1,decide_eq_true ω]; rfl
theorem py {α:Type}[Inhabited α] {xs:List α}{p:α→Bool}(h:xs.length=2) (h2:p (xs.getD 0 default)=true∨p (xs.getD 1 default)=true):xs.any p=true:=by
  rcases h2 with h2 | h2
  · exact sN 0 ω h2
  · exact sN 1 ω h2
theorem oS {α:Type}[Inhabited α] {xs:List α}{p:α→Bool}(h:xs.length=2) (h0:p (xs.getD 0 default)=false) (h1:p (xs.getD 1 default)=false):xs.any p=false:=
  qK fun i hi=>by
    have:i=0∨i=1:=by omega
    rcases this with rfl | rfl
    · exact h0
    · exact h1
theorem jn:(cE z && (apartL z.On (z.Shape.Groups+z.Shape.Column-1) && (decide ((z.On.length:Int)≤z.Shape.Cap) && ((decide (z.On.length=0) || !z.Down) && decide (z.Tapes.length=2)))))=(cE z && n0 z && decide (z.Tapes.length=2)):=by
  rw [n0]; simp only [Bool.and_assoc]
end
end Go.Wk
namespace Go.Wk
theorem aZ {w:World}{b o:Nat}{cs:List Value}(h:At w b o cs) (j:Nat) {v:Value}(hj:cs[j]? = some v):w.cell? ⟨b,o+j,none⟩=some v:=h j v hj
end Go.Wk
namespace Go.Wk
section
variable {z:Wld}{s:Shape}{r:Rec}{g row d:Int}
theorem Av:0≤s.fault∧s.fault≤3:=by unfold Shape.fault; split<;>omega
theorem Bm {b:ByteArray}:0≤cT b∧cT b≤5:=by unfold cT; split<;>omega
theorem As:0≤fe s r∧fe s r≤5:=by
  have:=Bm (b:=r.Name)
  unfold fe
  repeat' split
  all_goals omega
theorem Bi:0≤fL s r∧fL s r≤5:=by
  have:=As (s:=s) (r:=r)
  unfold fL
  repeat' split
  all_goals omega
theorem uO {rs:List Rec}:∀ k,0≤dJ s rs k∧dJ s rs k≤5
  | 0=>by simp [dJ]
  | k+1=>by
    have h1:=uO (rs:=rs) k
    have h2:=Bi (s:=s) (r:=rs.getD k default)
    rw [dJ]
    split<;>omega
theorem tE {ts:List Tape}:∀ k,0≤dv s ts k∧dv s ts k≤5
  | 0=>by simp [dv]
  | k+1=>by
    have h1:=tE (ts:=ts) k
    have h2:=uO (s:=s) (rs:=(ts.getD k default).Recs) (ts.getD k default).Recs.length
    rw [dv]
    split<;>omega
theorem yy:0≤dT z∧dT z≤5:=by
  have:=tE (s:=z.Shape) (ts:=z.Tapes) z.Tapes.length
  unfold dT
  repeat' split
  all_goals omega
theorem lX:0≤bF z∧bF z≤5:=by
  have h1:=Av (s:=z.Shape)
  have h2:=yy (z:=z)
  unfold bF
  repeat' split
  all_goals omega
theorem zW:0≤upF z∧upF z≤9:=by
  have h1:=lX (z:=z)
  unfold upF
  repeat' split
  all_goals omega
end
end Go.Wk
namespace Go.Wk
open Rp (sz own)
def cat (r q:Rsc):Rsc:=⟨r.fp++q.fp,fun w=>r.φ w∧q.φ w,fun h k=>⟨r.st h.1 fun b hb=>k b (by simp [hb]),q.st h.2 fun b hb=>k b (by simp [hb])⟩,fun h b hb=>(List.mem_append.1 hb).elim (r.lt h.1 b) (q.lt h.2 b)⟩
section
variable {M:Nat→Prop}{w0 w w':World}{Δ F:List Rsc}
theorem Sep.join2 (h:Sep M w0 Δ F w) (i j:Nat) {r q:Rsc}(hi:Δ[i]? = some r) (hj:Δ[j]? = some q) (hij:Nat.beq j i=false):Sep M w0 ((Δ.set j gone).set i (cat r q)) F w:=
  h.set2 hi hj hij Ext.refl (q:=cat r q) ⟨h.r i hi,h.r j hj⟩ (List.nodup_append.2 ⟨h.nodup1 hi,h.nodup1 hj,fun a ha b hb e=>by subst e; exact h.apart hi hj hij a hb ha⟩)
    fun b hb=>(List.mem_append.1 hb).elim .inl fun h => .inr (.inl h)
theorem Sep.conv (h:Sep M w0 Δ F w) (i:Nat) {r:Rsc}(q:Rsc) (hi:Δ[i]? = some r) (hq:q.φ w) (hfp:∀ b∈q.fp,b∈r.fp) (hn:q.fp.Nodup):Sep M w0 (Δ.set i q) F w:=
  h.set hi Ext.refl hq hn fun b hb => .inl (hfp b hb)
theorem Sep.partLast {A:List Rsc}{r:Rsc}(h:Sep M w0 (A++[r]) F w) (rs:List Rsc) (hrs:∀ q∈rs,q.φ w) (hb:blocks rs=r.fp):Sep M w0 (A++gone::rs) F w:=by
  have H:=h.part A.length (r:=r) σ rs hrs hb
  rw [show (A++[r]).set A.length gone=A++[gone] by simp] at H
  simpa using H
def hol {α:Type}[Rp α] (ad:Option Addr) (n cap:Nat) (xs:List α) (k b off:Nat) (T:TypeId) (ck:List Value) (f1 f2:List Nat):Rsc:=
  ⟨b::(f1++f2),fun w=>∃ cur:Array Value,w.heap[b]? = some (.cells cur T (0,0))∧off+sz α≤cur.size∧(cur.toList.drop off).take (sz α)=ck∧(∀ x∈b::(f1++f2),x<w.heap.size) ∧
    ∀ w' cur' x' fk',w'.heap[b]? = some (.cells cur' T (0,0))→cur'.size=cur.size→(∀ j,j<off∨off+sz α≤j→cur'[j]? = cur[j]?)→(∀ b∈f1,w'.heap[b]? = w.heap[b]?)→(∀ b∈f2,w'.heap[b]? = w.heap[b]?) →
        own true w' ((cur'.toList.drop off).take (sz α)) x' fk'→own true w' [.slice ad n cap] (xs.set k x') (b::(f1++(fk'++f2))),
   fun h e=>by
      obtain ⟨cur,h1,h2,h3,h4,h5⟩:=h
      refine ⟨cur,(e b σ).trans h1,h2,h3,fun x hx=>?_,fun w' cur' x' fk' q1 q2 q3 q4 q5 q6=>h5 w' cur' x' fk' q1 q2 q3 (fun b hb=>(q4 b hb).trans (e b (by simp [hb]))) (fun b hb=>(q5 b hb).trans (e b (by simp [hb]))) q6⟩
      have h7:=h4 x hx
      have h8:=e x hx
      rw [Array.getElem?_eq_getElem h7] at h8
      exact (Array.getElem?_eq_some_iff.1 h8).1,
   fun h=>by obtain ⟨_,_,_,_,h,_⟩:=h; exact h⟩
variable {α:Type}[Rp α]
theorem Sep.focus {d:α}(h:Sep M w0 Δ F w) (i:Nat) {ad n cap} {xs:List α}{fp} (hi:Δ[i]? = some (Wk.mine [.slice ad n cap] xs fp)) (k:Nat) (hk:k<xs.length) :
    ∃ b o T ck f1 f2 fk,ad=some ⟨b,o,none⟩∧own true w ck (xs.getD k d) fk∧Sep M w0 (Δ.set i (hol ad n cap xs k b (o+k*sz α) T ck f1 f2)++[Wk.mine ck (xs.getD k d) fk]) F w:=by
  have hnd:=h.nodup1 hi
  obtain ⟨b,o,cur,T,f1,fk,f2,e1,e2,hb,hsz,hx,hback⟩:=qC (h.mine i hi) k hk
  have hlt:=Rp.lt (h.mine i hi)
  have hk1:(k+1)*sz α=k*sz α+sz α:=by rw [Nat.add_mul,Nat.one_mul]
  change fp.Nodup at hnd
  subst e2
  obtain ⟨n1,n2⟩:=List.nodup_cons.1 hnd
  rw [List.nodup_append,List.nodup_append] at n2
  obtain ⟨d1,⟨d2,d3,d4⟩,d5⟩:=n2
  have hmem:∀ x,x∈(b::(f1++f2))++fk↔x∈b::(f1++(fk++f2)):=fun x=>by
    simp only [List.cons_append,List.mem_cons,List.mem_append]
    constructor
    · rintro (h | (h | h) | h)
      · exact .inl h
      · exact .inr (.inl h)
      · exact .inr (.inr (.inr h))
      · exact .inr (.inr (.inl h))
    · rintro (h | h | h | h)
      · exact .inl h
      · exact .inr (.inl (.inl h))
      · exact .inr (.inr h)
      · exact .inr (.inl (.inr h))
  have H1:=h.set hi (q:=reord (Wk.mine [.slice ad n cap] xs (b::(f1++(fk++f2)))) ((b::(f1++f2))++fk) hmem) Ext.refl (h.mine i hi)
    (by
      change ((b::(f1++f2))++fk).Nodup
      refine List.nodup_append.2 ⟨List.nodup_cons.2 ⟨fun hm=>n1 (by rcases List.mem_append.1 hm with hm | hm<;>simp [hm]),List.nodup_append.2 ⟨d1,d3,fun p hp q hq e=>d5 p hp q (by simp [hq]) e⟩⟩,d2,fun p hp q hq e=>?_⟩
      subst e
      rcases List.mem_cons.1 hp with rfl | hp
      · exact n1 (by simp [hq])
      · rcases List.mem_append.1 hp with hp | hp
        · exact d5 p hp p (by simp [hq]) rfl
        · exact d4 p hq p hp rfl)
    (fun x hx => .inl ((hmem x).1 hx))
  have hil:i<Δ.length:=(List.getElem?_eq_some_iff.1 hi).1
  have ek:xs.getD k d=xs[k]:=by simp [List.getD,hk]
  refine ⟨b,o,T,_,f1,f2,fk,e1,by rw [ek]; exact hx,?_⟩
  have H2:=H1.part i (r:=reord (Wk.mine [.slice ad n cap] xs (b::(f1++(fk++f2)))) ((b::(f1++f2))++fk) hmem) (by rw [List.getElem?_set_self hil]) [hol ad n cap xs k b (o+k*sz α) T ((cur.toList.drop (o+k*sz α)).take (sz α)) f1 f2,Wk.mine ((cur.toList.drop (o+k*sz α)).take (sz α)) (xs.getD k d) fk] ?_ ?_
  · rw [List.set_set] at H2
    exact (H2.perm (iL hil)).sub ((List.Sublist.refl _).append (.cons _ (.refl _)))
  · refine aI ⟨cur,hb,hsz,rfl,fun x hx=>hlt x ((hmem x).1 (by simp only [List.mem_append]; exact .inl hx)),fun w' cur' x' fk' q1 q2 q3 q4 q5 q6=>hback w' cur' x' fk' q1 q2 (fun j hj=>q3 j (by rw [hk1] at hj; omega)) q4 q5 q6⟩ (aI ?_ σ)
    rw [ek]; exact hx
  · simp [blocks,hol,Wk.mine,reord]
variable {ad:Option Addr}{n cap k b off:Nat}{xs:List α}{T:TypeId}{ck:List Value}{f1 f2:List Nat}
theorem Sep.holAt (h:Sep M w0 Δ F w) (i:Nat) (hi:Δ[i]? = some (hol ad n cap xs k b off T ck f1 f2)):At w b off ck:=by
  obtain ⟨cur,h1,h2,h3,_⟩:=h.r i hi
  rw [← h3]
  exact qO h1 _
theorem Sep.hset (h:Sep M w0 Δ F w) (i:Nat) (hi:Δ[i]? = some (hol ad n cap xs k b off T ck f1 f2)) (j:Nat) (hj:j<ck.length) (v:Value) :
    ∃ cur:Array Value,w.heap[b]? = some (.cells cur T (0,0))∧off+j<cur.size∧Sep M w0 (Δ.set i (hol ad n cap xs k b off T (ck.set j v) f1 f2)) F (Wk.put w b (.cells (cur.setIfInBounds (off+j) v) T (0,0))):=by
  obtain ⟨cur,h1,h2,h3,h4,h5⟩:(hol ad n cap xs k b off T ck f1 f2).φ w:=h.r i hi
  have hnd:=h.nodup1 hi
  change (b::(f1++f2)).Nodup at hnd
  obtain ⟨n1,_⟩:=List.nodup_cons.1 hnd
  have hjs:j<sz α:=by
    have:=congrArg List.length h3
    rw [List.length_take,List.length_drop] at this; omega
  have hE:Ext (· = b) w (Wk.put w b (.cells (cur.setIfInBounds (off+j) v) T (0,0))):=Ext.refl.put (.inl rfl)
  refine ⟨cur,h1,ω,h.set hi (q:=hol ad n cap xs k b off T (ck.set j v) f1 f2) (hE.mono fun b' _ e=>by subst e; simp [hol]) ?_ hnd (fun b hb => .inl hb)⟩
  refine ⟨cur.setIfInBounds (off+j) v,iX h1,by simpa using h2,?_,fun x hx=>by have:=h4 x hx; have:=hE.size; omega,fun w' cur' x' fk' q1 q2 q3 q4 q5 q6=>?_⟩
  · rw [Array.toList_setIfInBounds,List.drop_set,if_neg ω,List.take_set,h3,Nat.add_sub_cancel_left]
  · refine h5 w' cur' x' fk' q1 (by simpa using q2) (fun l hl=>?_) (fun b' hb'=>?_) (fun b' hb'=>?_) q6
    · rw [q3 l hl,Array.getElem?_setIfInBounds_ne ω]
    · rw [q4 b' hb']; exact hE.block b' (h4 b' (by simp [hb'])) fun e=>n1 (by subst e; simp [hb'])
    · rw [q5 b' hb']; exact hE.block b' (h4 b' (by simp [hb'])) fun e=>n1 (by subst e; simp [hb'])
theorem Sep.fill (h:Sep M w0 Δ F w) (i j:Nat) {fk} {x:α}(hi:Δ[i]? = some (hol ad n cap xs k b off T ck f1 f2)) (hj:Δ[j]? = some (Wk.mine ck x fk)) (hij:Nat.beq j i=false) :
    ∃ fp',Sep M w0 ((Δ.set j gone).set i (Wk.mine [.slice ad n cap] (xs.set k x) fp')) F w:=by
  obtain ⟨cur,h1,h2,h3,h4,h5⟩:(hol ad n cap xs k b off T ck f1 f2).φ w:=h.r i hi
  have hx:=h.mine j hj
  have hnd:=h.nodup1 hi
  change (b::(f1++f2)).Nodup at hnd
  have hnk:=h.nodup1 hj
  change fk.Nodup at hnk
  have hap:∀ x∈fk,x ∉ b::(f1++f2):=fun x hx hm=>h.apart (i:=i) (j:=j) hi hj hij x hx hm
  obtain ⟨n1,n2⟩:=List.nodup_cons.1 hnd
  obtain ⟨d1,d2,d3⟩:=List.nodup_append.1 n2
  have hbk:b ∉ fk:=fun hm=>hap b hm σ
  refine ⟨b::(f1++(fk++f2)),h.set2 hi hj hij (q:=Wk.mine [.slice ad n cap] (xs.set k x) (b::(f1++(fk++f2)))) Ext.refl ?_ ?_ ?_⟩
  · exact h5 w cur x fk h1 rfl (fun _ _=>rfl) (fun _ _=>rfl) (fun _ _=>rfl) (by rw [h3]; exact hx)
  · change (b::(f1++(fk++f2))).Nodup
    refine List.nodup_cons.2 ⟨fun hm=>?_,List.nodup_append.2 ⟨d1,List.nodup_append.2 ⟨hnk,d2,fun p hp q hq e=>?_⟩,fun p hp q hq e=>?_⟩⟩
    · simp only [List.mem_append,not_or] at hm n1
      rcases hm with hm | hm | hm
      · exact n1.1 hm
      · exact hbk hm
      · exact n1.2 hm
    · subst e; exact hap p hp (by simp [hq])
    · subst e
      rcases List.mem_append.1 hq with hq | hq
      · exact hap p hq (by simp [hp])
      · exact d3 p hp p hq rfl
  · intro x hx
    change x∈b::(f1++(fk++f2)) at hx
    simp only [List.mem_cons,List.mem_append] at hx
    rcases hx with h | h | h | h
    · exact .inl (by simp [hol,h])
    · exact .inl (by simp [hol,h])
    · exact .inr (.inl h)
    · exact .inl (by simp [hol,h])
theorem Sep.focusL {β:Type}[Rp β] (h:Sep M w0 Δ F w) (i:Nat) {ad n cap} {xs:List (List β)}{fp} (hi:Δ[i]? = some (Wk.mine [.slice ad n cap] xs fp)) (k:Nat) (hk:k<xs.length) :
    ∃ b o T f1 f2 a c fk,ad=some ⟨b,o,none⟩∧Sep M w0 (Δ.set i (hol ad n cap xs k b (o+k*1) T [.slice a (xs.getD k []).length c] f1 f2)++[Wk.mine [.slice a (xs.getD k []).length c] (xs.getD k []) fk]) F w:=by
  obtain ⟨b,o,T,ck,f1,f2,fk,e,hx,H⟩:=h.focus (d:=([]:List β)) i hi k hk
  obtain ⟨a,c,rfl⟩:=ax hx
  exact ⟨b,o,T,f1,f2,a,c,fk,e,H⟩
end
section
variable {P:Program}{n:Nat}{ops:Array Oper}{Q:Post}{L:Env}{w w0:World}{M:Nat→Prop}{Δ F:List Rsc}{d:Tmp}{ty:TypeId}{p:String}{af:Array Edge}{g:Option (Nat × Bool)}{α:Type}[Rp α]
theorem uU {rest:List Oper}{t:TypeId}{x y:Operand}{ad:Option Addr}{m cap k b off:Nat}{xs:List α}{T:TypeId}{ck:List Value}{f1 f2:List Nat}{v:Value}(hw:Wn ops n L ⟨none,.store t x y,ty,p,af,g⟩) (hs:∀ w,(sizeOf t).run P w = .ok 1 w)
    (H:Sep M w0 Δ F w) (i j:Nat) (hi:Δ[i]? = some (hol ad m cap xs k b off T ck f1 f2)) (hj:Nat.blt j ck.length=true) (hx:evL L x=some (.pointer (some ⟨b,off+j,none⟩))) (hy:evL L y=some v) (h1:v.oneCell'=true)
    (kk:∀ w',Sep M w0 (Δ.set i (hol ad m cap xs k b off T (ck.set j v) f1 f2)) F w'→RL P n ops Q rest L w'):RL P n ops Q (⟨none,.store t x y,ty,p,af,g⟩::rest) L w:=by
  obtain ⟨cur,hb,hlt,H'⟩:=H.hset i hi j (Nat.le_of_ble_eq_true hj) v
  exact we hw rfl (jX hs hx hy h1 hb hlt) (kk _ H')
end
end Go.Wk
namespace Go.Wk
section
variable {P:Program}{n:Nat}{c:Code}{Q:Post}{L:Env}{w w0:World}{M:Nat→Prop}{Δ F:List Rsc}
theorem iB {α:Type}[Rp α] {γ:Type}{v0:Value}{fp0:List Nat}{b T} {cs:List Value}(f:γ→List α) (g0:γ) (H:Sep M w0 Δ F w) (i j q:Nat) (hi:Δ[i]? = some (mine [v0] (f g0) fp0)) (hj:Δ[j]? = some (box b (.cells cs.toArray T))) (hq:cs[q]? = some v0) (hij:Nat.beq j i=false)
  (E2:Env) (h2:sub L E2) (E:γ→Env) (I:γ→Prop) (μ:γ→Nat) (hs:sub L (E g0)) (h0:I g0)
  (round:∀ g v fp w,Sep M w0 ((Δ.set i (mine [v] (f g) fp)).set j (box b (.cells (cs.set q v).toArray T))) F w→I g→W P n c (again (fun x:γ × Value × List Nat=>E x.1++E2) (fun x w'=>Sep M w0 ((Δ.set i (mine [x.2.1] (f x.1) x.2.2)).set j (box b (.cells (cs.set q x.2.1).toArray T))) F w'∧I x.1) (fun x=>μ x.1) (g,v,fp) Q) (E g++E2) w):W P n (.loop c) Q L w:=by
 have hne:i≠j:=fun e=>by subst e; simp at hij
 have e0:(Δ.set i (mine [v0] (f g0) fp0)).set j (box b (.cells (cs.set q v0).toArray T))=Δ:=by
  have ec:cs.set q v0=cs:=by
   apply List.ext_getElem?
   intro l
   rw [List.getElem?_set]
   split
   ·rename_i e; subst e
    obtain ⟨hl,_⟩:=List.getElem?_eq_some_iff.1 hq
    rw [if_pos hl,hq]
   ·rfl
  rw [nu hi,ec,nu hj]
 exact cm (fun x:γ × Value × List Nat=>E x.1++E2) (fun x w'=>Sep M w0 ((Δ.set i (mine [x.2.1] (f x.1) x.2.2)).set j (box b (.cells (cs.set q x.2.1).toArray T))) F w'∧I x.1) (fun x=>μ x.1) (g0,v0,fp0) (kS hs h2) ⟨by rw [e0]; exact H,h0⟩ fun x w h=>round x.1 x.2.1 x.2.2 w h.1 h.2
theorem Sep.nilW {α:Type}[Rp α] (h:Sep M w0 Δ F w):Sep M w0 (Δ++[Wk.mine [.slice none 0 0] ([]:List α) []]) F w:=
  h.add Ext.refl (r:=Wk.mine [.slice none 0 0] ([]:List α) []) (.inr (.inl ⟨rfl,rfl,rfl⟩)) (by simp [Wk.mine]) (by simp [Wk.mine])
end
end Go.Wk
namespace Go.Wk
open Rp (sz own)
theorem Block.focus {M:Nat→Prop}{w0 w:World}{Δ F:List Rsc}(h:Sep M w0 Δ F w) (i:Nat) {ad n cap} {xs:List Block}{fp} (hi:Δ[i]? = some (mine [.slice ad n cap] xs fp)) (k:Nat) (hk:k<xs.length):∃ b o Ty f1 f2 A1 C1 g1,ad=some ⟨b,o,none⟩∧(xs.getD k default).Ok∧Sep M w0 (Δ.set i (hol ad n cap xs k b (o+k*sz Block) Ty [.int .i64 (xs.getD k default).Stamp,.slice A1 (xs.getD k default).Bytes.length C1] f1 f2)++[gone,mine [.slice A1 (xs.getD k default).Bytes.length C1] (xs.getD k default).Bytes g1]) F w:=by
  obtain ⟨b,o,Ty,ck,f1,f2,fk,e,hx,H⟩:=h.focus (d:=default) i hi k hk
  obtain ⟨A1,C1,g1,rfl,ef,ok,o1⟩:=jP hx
  have H2:=H.partLast [mine [.slice A1 (xs.getD k default).Bytes.length C1] (xs.getD k default).Bytes g1] (aI o1 σ) (by simp [blocks,mine,ef])
  exact ⟨b,o,Ty,f1,f2,A1,C1,g1,e,ok,H2⟩
theorem Block.fill {M:Nat→Prop}{w0 w:World}{Δ F:List Rsc}(h:Sep M w0 Δ F w) (i j1:Nat) {ad n cap k b off Ty f1 f2} {xs:List Block}{s0:Int}{A1 C1 m1} {y1:List UInt8}{g1} (hi:Δ[i]? = some (hol ad n cap xs k b off Ty [.int .i64 s0,.slice A1 m1 C1] f1 f2)) (h1:Δ[j1]? = some (mine [.slice A1 m1 C1] y1 g1)) (d1:Nat.beq j1 i=false)  (ok:(⟨s0,y1⟩:Block).Ok):∃ fp',Sep M w0 ((Δ.set j1 gone).set i (mine [.slice ad n cap] (xs.set k (⟨s0,y1⟩:Block)) fp')) F w:=by
  have o1:=h.mine j1 h1
  obtain rfl:=dI o1
  have n1:j1≠i:=fun e=>by subst e; simp at d1
  have H:=h.conv j1 (mine [.int .i64 s0,.slice A1 y1.length C1] (⟨s0,y1⟩:Block) (g1)) h1 (Block.own_mk ok o1) (fun b hb=>hb) (show (mine [.slice A1 y1.length C1] y1 g1).fp.Nodup from h.nodup1 h1)
  obtain ⟨fp',H2⟩:=H.fill i j1 (by rw [List.getElem?_set_ne n1]; exact hi) (by rw [List.getElem?_set_self (List.getElem?_eq_some_iff.1 h1).1]) d1
  rw [List.set_set] at H2
  exact ⟨fp',H2⟩
theorem Drive.focus {M:Nat→Prop}{w0 w:World}{Δ F:List Rsc}(h:Sep M w0 Δ F w) (i:Nat) {ad n cap} {xs:List Drive}{fp} (hi:Δ[i]? = some (mine [.slice ad n cap] xs fp)) (k:Nat) (hk:k<xs.length):∃ b o Ty f1 f2 A1 C1 g1,ad=some ⟨b,o,none⟩∧(xs.getD k default).Ok∧Sep M w0 (Δ.set i (hol ad n cap xs k b (o+k*sz Drive) Ty [.bool (xs.getD k default).Wiped,.slice A1 (xs.getD k default).Blocks.length C1] f1 f2)++[gone,mine [.slice A1 (xs.getD k default).Blocks.length C1] (xs.getD k default).Blocks g1]) F w:=by
  obtain ⟨b,o,Ty,ck,f1,f2,fk,e,hx,H⟩:=h.focus (d:=default) i hi k hk
  obtain ⟨A1,C1,g1,rfl,ef,ok,o1⟩:=gD hx
  have H2:=H.partLast [mine [.slice A1 (xs.getD k default).Blocks.length C1] (xs.getD k default).Blocks g1] (aI o1 σ) (by simp [blocks,mine,ef])
  exact ⟨b,o,Ty,f1,f2,A1,C1,g1,e,ok,H2⟩
theorem Drive.fill {M:Nat→Prop}{w0 w:World}{Δ F:List Rsc}(h:Sep M w0 Δ F w) (i j1:Nat) {ad n cap k b off Ty f1 f2} {xs:List Drive}{s0:Bool}{A1 C1 m1} {y1:List Block}{g1} (hi:Δ[i]? = some (hol ad n cap xs k b off Ty [.bool s0,.slice A1 m1 C1] f1 f2)) (h1:Δ[j1]? = some (mine [.slice A1 m1 C1] y1 g1)) (d1:Nat.beq j1 i=false)  (ok:(⟨s0,y1⟩:Drive).Ok):∃ fp',Sep M w0 ((Δ.set j1 gone).set i (mine [.slice ad n cap] (xs.set k (⟨s0,y1⟩:Drive)) fp')) F w:=by
  have o1:=h.mine j1 h1
  obtain rfl:=dI o1
  have n1:j1≠i:=fun e=>by subst e; simp at d1
  have H:=h.conv j1 (mine [.bool s0,.slice A1 y1.length C1] (⟨s0,y1⟩:Drive) (g1)) h1 (Drive.own_mk ok o1) (fun b hb=>hb) (show (mine [.slice A1 y1.length C1] y1 g1).fp.Nodup from h.nodup1 h1)
  obtain ⟨fp',H2⟩:=H.fill i j1 (by rw [List.getElem?_set_ne n1]; exact hi) (by rw [List.getElem?_set_self (List.getElem?_eq_some_iff.1 h1).1]) d1
  rw [List.set_set] at H2
  exact ⟨fp',H2⟩
theorem Tape.focus {M:Nat→Prop}{w0 w:World}{Δ F:List Rsc}(h:Sep M w0 Δ F w) (i:Nat) {ad n cap} {xs:List Tape}{fp} (hi:Δ[i]? = some (mine [.slice ad n cap] xs fp)) (k:Nat) (hk:k<xs.length):∃ b o Ty f1 f2 A1 C1 g1,ad=some ⟨b,o,none⟩∧(xs.getD k default).Ok∧Sep M w0 (Δ.set i (hol ad n cap xs k b (o+k*sz Tape) Ty [.bool (xs.getD k default).Wiped,.slice A1 (xs.getD k default).Recs.length C1] f1 f2)++[gone,mine [.slice A1 (xs.getD k default).Recs.length C1] (xs.getD k default).Recs g1]) F w:=by
  obtain ⟨b,o,Ty,ck,f1,f2,fk,e,hx,H⟩:=h.focus (d:=default) i hi k hk
  obtain ⟨A1,C1,g1,rfl,ef,ok,o1⟩:=cU hx
  have H2:=H.partLast [mine [.slice A1 (xs.getD k default).Recs.length C1] (xs.getD k default).Recs g1] (aI o1 σ) (by simp [blocks,mine,ef])
  exact ⟨b,o,Ty,f1,f2,A1,C1,g1,e,ok,H2⟩
theorem Tape.fill {M:Nat→Prop}{w0 w:World}{Δ F:List Rsc}(h:Sep M w0 Δ F w) (i j1:Nat) {ad n cap k b off Ty f1 f2} {xs:List Tape}{s0:Bool}{A1 C1 m1} {y1:List Rec}{g1} (hi:Δ[i]? = some (hol ad n cap xs k b off Ty [.bool s0,.slice A1 m1 C1] f1 f2)) (h1:Δ[j1]? = some (mine [.slice A1 m1 C1] y1 g1)) (d1:Nat.beq j1 i=false)  (ok:(⟨s0,y1⟩:Tape).Ok):∃ fp',Sep M w0 ((Δ.set j1 gone).set i (mine [.slice ad n cap] (xs.set k (⟨s0,y1⟩:Tape)) fp')) F w:=by
  have o1:=h.mine j1 h1
  obtain rfl:=dI o1
  have n1:j1≠i:=fun e=>by subst e; simp at d1
  have H:=h.conv j1 (mine [.bool s0,.slice A1 y1.length C1] (⟨s0,y1⟩:Tape) (g1)) h1 (Tape.own_mk ok o1) (fun b hb=>hb) (show (mine [.slice A1 y1.length C1] y1 g1).fp.Nodup from h.nodup1 h1)
  obtain ⟨fp',H2⟩:=H.fill i j1 (by rw [List.getElem?_set_ne n1]; exact hi) (by rw [List.getElem?_set_self (List.getElem?_eq_some_iff.1 h1).1]) d1
  rw [List.set_set] at H2
  exact ⟨fp',H2⟩
end Go.Wk
namespace Go.Wk
theorem kL {α:Type}{a b:List α}{d:α}{i:Nat}(h:i<a.length):(a++b).getD i d=a.getD i d:=by simp [List.getD,List.getElem?_append_left h]
theorem mF {α:Type}{a b:List α}{d:α}{i:Nat}(h:a.length≤i):(a++b).getD i d=b.getD (i-a.length) d:=by simp [List.getD,List.getElem?_append_right h]
theorem bi {α:Type}{l:List α}{d:α}{i:Nat}(h:i<l.length):l.getD i d=l[i]:=by simp [List.getD,h]
end Go.Wk
namespace Go.Wk
open Rp (sz own)
def OwnW (w:World) (b:Nat) (T:TypeId) (z:Wld) (fp:List Nat):Prop:=
  ∃ A9 C9 A10 C10 A11 C11 f9 f10 f11,w.heap[b]? = some (.cells [.int .i64 z.Shape.Groups,.int .i64 z.Shape.Column,.int .i64 z.Shape.Data,.int .i64 z.Shape.Spare,.int .i64 z.Shape.Rows,.int .i64 z.Shape.Cap,.int .i64 z.Shape.Batch,.int .i64 z.Shape.Queue,.int .i64 z.Shape.Stage,.slice A9 z.Groups.length C9,.slice A10 z.On.length C10,.slice A11 z.Tapes.length C11,.int .i64 z.Writes,.int .i64 z.Stop,.bool z.Down].toArray T)∧own true w [.slice A9 z.Groups.length C9] z.Groups f9∧own true w [.slice A10 z.On.length C10] z.On f10∧own true w [.slice A11 z.Tapes.length C11] z.Tapes f11∧z.Ok∧fp=b::(f9++(f10++f11))
theorem OwnW.st {w w':World}{b T z fp} (h:OwnW w b T z fp) (k:∀ x∈fp,w'.heap[x]? = w.heap[x]?):OwnW w' b T z fp:=by
  obtain ⟨A9,C9,A10,C10,A11,C11,f9,f10,f11,h1,h2,h3,h4,h5,h6⟩:=h
  subst h6
  exact ⟨A9,C9,A10,C10,A11,C11,f9,f10,f11,(k b σ).trans h1,Rp.st h2 fun x hx=>k x (by simp [hx]),Rp.st h3 fun x hx=>k x (by simp [hx]),Rp.st h4 fun x hx=>k x (by simp [hx]),h5,rfl⟩
theorem OwnW.lt {w:World}{b T z fp} (h:OwnW w b T z fp):∀ x∈fp,x<w.heap.size:=by
  obtain ⟨A9,C9,A10,C10,A11,C11,f9,f10,f11,h1,h2,h3,h4,h5,h6⟩:=h
  subst h6
  intro x hx
  simp only [List.mem_cons,List.mem_append] at hx
  rcases hx with rfl | hx | hx | hx
  · exact (Array.getElem?_eq_some_iff.1 h1).1
  · exact Rp.lt h2 x hx
  · exact Rp.lt h3 x hx
  · exact Rp.lt h4 x hx
def wldR (b:Nat) (T:TypeId) (z:Wld) (fp:List Nat):Rsc:=⟨fp,fun w=>OwnW w b T z fp,fun h k=>h.st k,fun h=>h.lt⟩
def MutW (w w':World) (fp:List Nat) (b:Nat) (T:TypeId) (z:Wld):Prop:=
  Ext (· ∈ fp) w w'∧∃ fp',OwnW w' b T z fp'∧fp'.Nodup∧∀ x∈fp',x∈fp∨w.heap.size≤x
section
variable {M:Nat→Prop}{w0 w w':World}{Δ F:List Rsc}{b:Nat}{T:TypeId}{z z':Wld}{fp:List Nat}
theorem Sep.beginW (h:OwnW w b T z fp) (hn:fp.Nodup):Sep (· ∈ fp) w [wldR b T z fp] [] w:=
  ⟨Ext.refl,by simpa [wldR] using h,by simpa [blocks,wldR] using hn,fun b hb => .inl (by simpa [blocks,wldR] using hb),σ,σ⟩
theorem Sep.wldAt (h:Sep M w0 Δ F w) (i:Nat) (hi:Δ[i]? = some (wldR b T z fp)):OwnW w b T z fp:=h.r i hi
theorem Sep.doneW {Δ':List Rsc}{fp0:List Nat}(h:Sep (· ∈ fp0) w0 (wldR b T z fp::Δ') F w):MutW w0 w fp0 b T z:=
  ⟨h.ext,fp,h.r 0 rfl,h.nodup1 (i:=0) rfl,fun x hx=>h.new x (by simp [blocks,wldR,hx])⟩
theorem Sep.mutW (h:Sep M w0 Δ F w) (i:Nat) (hi:Δ[i]? = some (wldR b T z fp)) (m:MutW w w' fp b T z'):∃ fp',Sep M w0 (Δ.set i (wldR b T z' fp')) F w':=by
  obtain ⟨e,fp',h1,h2,h3⟩:=m
  exact ⟨fp',h.set hi (q:=wldR b T z' fp') e h1 h2 h3⟩
theorem Sep.openW (h:Sep M w0 Δ F w) (i:Nat) (hi:Δ[i]? = some (wldR b T z fp)) :
    ∃ A9 C9 A10 C10 A11 C11 f9 f10 f11,z.Ok∧Sep M w0 (Δ.set i (Wk.box b (.cells [.int .i64 z.Shape.Groups,.int .i64 z.Shape.Column,.int .i64 z.Shape.Data,.int .i64 z.Shape.Spare,.int .i64 z.Shape.Rows,.int .i64 z.Shape.Cap,.int .i64 z.Shape.Batch,.int .i64 z.Shape.Queue,.int .i64 z.Shape.Stage,.slice A9 z.Groups.length C9,.slice A10 z.On.length C10,.slice A11 z.Tapes.length C11,.int .i64 z.Writes,.int .i64 z.Stop,.bool z.Down].toArray T))++[gone,Wk.mine [.slice A9 z.Groups.length C9] z.Groups f9,Wk.mine [.slice A10 z.On.length C10] z.On f10,Wk.mine [.slice A11 z.Tapes.length C11] z.Tapes f11]) F w:=by
  obtain ⟨A9,C9,A10,C10,A11,C11,f9,f10,f11,h1,h2,h3,h4,h5,h6⟩:OwnW w b T z fp:=h.r i hi
  have hil:i<Δ.length:=(List.getElem?_eq_some_iff.1 hi).1
  have p1:(Wk.box b (.cells [.int .i64 z.Shape.Groups,.int .i64 z.Shape.Column,.int .i64 z.Shape.Data,.int .i64 z.Shape.Spare,.int .i64 z.Shape.Rows,.int .i64 z.Shape.Cap,.int .i64 z.Shape.Batch,.int .i64 z.Shape.Queue,.int .i64 z.Shape.Stage,.slice A9 z.Groups.length C9,.slice A10 z.On.length C10,.slice A11 z.Tapes.length C11,.int .i64 z.Writes,.int .i64 z.Stop,.bool z.Down].toArray T)).φ w:=h1
  have H2:=h.part i hi [Wk.box b (.cells [.int .i64 z.Shape.Groups,.int .i64 z.Shape.Column,.int .i64 z.Shape.Data,.int .i64 z.Shape.Spare,.int .i64 z.Shape.Rows,.int .i64 z.Shape.Cap,.int .i64 z.Shape.Batch,.int .i64 z.Shape.Queue,.int .i64 z.Shape.Stage,.slice A9 z.Groups.length C9,.slice A10 z.On.length C10,.slice A11 z.Tapes.length C11,.int .i64 z.Writes,.int .i64 z.Stop,.bool z.Down].toArray T),Wk.mine [.slice A9 z.Groups.length C9] z.Groups f9,Wk.mine [.slice A10 z.On.length C10] z.On f10,Wk.mine [.slice A11 z.Tapes.length C11] z.Tapes f11] (aI p1 (aI h2 (aI h3 (aI h4 σ)))) (by simp [blocks,Wk.mine,Wk.box,wldR,h6])
  exact ⟨A9,C9,A10,C10,A11,C11,f9,f10,f11,h5,H2.perm (iL hil)⟩
theorem Sep.closeW (h:Sep M w0 Δ F w) (i j9 j10 j11:Nat) (z:Wld) {A9 C9 A10 C10 A11 C11 f9 f10 f11 n9 n10 n11} (hi:Δ[i]? = some (Wk.box b (.cells [.int .i64 z.Shape.Groups,.int .i64 z.Shape.Column,.int .i64 z.Shape.Data,.int .i64 z.Shape.Spare,.int .i64 z.Shape.Rows,.int .i64 z.Shape.Cap,.int .i64 z.Shape.Batch,.int .i64 z.Shape.Queue,.int .i64 z.Shape.Stage,.slice A9 n9 C9,.slice A10 n10 C10,.slice A11 n11 C11,.int .i64 z.Writes,.int .i64 z.Stop,.bool z.Down].toArray T))) (h9:Δ[j9]? = some (Wk.mine [.slice A9 n9 C9] z.Groups f9)) (h10:Δ[j10]? = some (Wk.mine [.slice A10 n10 C10] z.On f10)) (h11:Δ[j11]? = some (Wk.mine [.slice A11 n11 C11] z.Tapes f11))
    (d1:Nat.beq j9 i=false) (d2:Nat.beq j10 i=false) (d3:Nat.beq j11 i=false) (d4:Nat.beq j10 j9=false) (d5:Nat.beq j11 j9=false) (d6:Nat.beq j11 j10=false) (ok:z.Ok) :
    ∃ fp,Sep M w0 ((((Δ.set j11 gone).set j10 gone).set j9 gone).set i (wldR b T z fp)) F w:=by
  obtain rfl:=dI (h.mine j9 h9)
  obtain rfl:=dI (h.mine j10 h10)
  obtain rfl:=dI (h.mine j11 h11)
  have n1:j9≠i:=fun e=>by subst e; simp at d1
  have n2:j10≠i:=fun e=>by subst e; simp at d2
  have n3:j11≠i:=fun e=>by subst e; simp at d3
  have n4:j10≠j9:=fun e=>by subst e; simp at d4
  have n5:j11≠j9:=fun e=>by subst e; simp at d5
  have n6:j11≠j10:=fun e=>by subst e; simp at d6
  have g:∀ {L:List Rsc}{k:Nat}{a r:Rsc},L[k]? = some r→(L.set k a)[k]? = some a:=fun h=>List.getElem?_set_self (List.getElem?_eq_some_iff.1 h).1
  have H1:=h.join2 j10 j11 h10 h11 d6
  have a10:((Δ.set j11 gone).set j10 (cat (Wk.mine [.slice A10 z.On.length C10] z.On f10) (Wk.mine [.slice A11 z.Tapes.length C11] z.Tapes f11)))[j10]? = some (cat (Wk.mine [.slice A10 z.On.length C10] z.On f10) (Wk.mine [.slice A11 z.Tapes.length C11] z.Tapes f11)):=g (r:=Wk.mine [.slice A10 z.On.length C10] z.On f10) (by rw [List.getElem?_set_ne n6]; exact h10)
  have a9:((Δ.set j11 gone).set j10 (cat (Wk.mine [.slice A10 z.On.length C10] z.On f10) (Wk.mine [.slice A11 z.Tapes.length C11] z.Tapes f11)))[j9]? = some (Wk.mine [.slice A9 z.Groups.length C9] z.Groups f9):=by rw [List.getElem?_set_ne n4,List.getElem?_set_ne n5]; exact h9
  have H2:=H1.join2 j9 j10 a9 a10 d4
  rw [List.set_set] at H2
  have ai:((((Δ.set j11 gone).set j10 gone).set j9 (cat (Wk.mine [.slice A9 z.Groups.length C9] z.Groups f9) (cat (Wk.mine [.slice A10 z.On.length C10] z.On f10) (Wk.mine [.slice A11 z.Tapes.length C11] z.Tapes f11)))))[i]? = some (Wk.box b (.cells [.int .i64 z.Shape.Groups,.int .i64 z.Shape.Column,.int .i64 z.Shape.Data,.int .i64 z.Shape.Spare,.int .i64 z.Shape.Rows,.int .i64 z.Shape.Cap,.int .i64 z.Shape.Batch,.int .i64 z.Shape.Queue,.int .i64 z.Shape.Stage,.slice A9 z.Groups.length C9,.slice A10 z.On.length C10,.slice A11 z.Tapes.length C11,.int .i64 z.Writes,.int .i64 z.Stop,.bool z.Down].toArray T)):=by rw [List.getElem?_set_ne n1,List.getElem?_set_ne n2,List.getElem?_set_ne n3]; exact hi
  have b9:((((Δ.set j11 gone).set j10 gone).set j9 (cat (Wk.mine [.slice A9 z.Groups.length C9] z.Groups f9) (cat (Wk.mine [.slice A10 z.On.length C10] z.On f10) (Wk.mine [.slice A11 z.Tapes.length C11] z.Tapes f11)))))[j9]? = some (cat (Wk.mine [.slice A9 z.Groups.length C9] z.Groups f9) (cat (Wk.mine [.slice A10 z.On.length C10] z.On f10) (Wk.mine [.slice A11 z.Tapes.length C11] z.Tapes f11))):=g (r:=Wk.mine [.slice A9 z.Groups.length C9] z.Groups f9) (by rw [List.getElem?_set_ne n4,List.getElem?_set_ne n5]; exact h9)
  have H3:=H2.join2 i j9 ai b9 d1
  rw [List.set_set] at H3
  obtain ⟨q1,q2,q3,q4⟩:(cat (Wk.box b (.cells [.int .i64 z.Shape.Groups,.int .i64 z.Shape.Column,.int .i64 z.Shape.Data,.int .i64 z.Shape.Spare,.int .i64 z.Shape.Rows,.int .i64 z.Shape.Cap,.int .i64 z.Shape.Batch,.int .i64 z.Shape.Queue,.int .i64 z.Shape.Stage,.slice A9 z.Groups.length C9,.slice A10 z.On.length C10,.slice A11 z.Tapes.length C11,.int .i64 z.Writes,.int .i64 z.Stop,.bool z.Down].toArray T)) (cat (Wk.mine [.slice A9 z.Groups.length C9] z.Groups f9) (cat (Wk.mine [.slice A10 z.On.length C10] z.On f10) (Wk.mine [.slice A11 z.Tapes.length C11] z.Tapes f11)))).φ w:=H3.r i (g (r:=Wk.box b (.cells [.int .i64 z.Shape.Groups,.int .i64 z.Shape.Column,.int .i64 z.Shape.Data,.int .i64 z.Shape.Spare,.int .i64 z.Shape.Rows,.int .i64 z.Shape.Cap,.int .i64 z.Shape.Batch,.int .i64 z.Shape.Queue,.int .i64 z.Shape.Stage,.slice A9 z.Groups.length C9,.slice A10 z.On.length C10,.slice A11 z.Tapes.length C11,.int .i64 z.Writes,.int .i64 z.Stop,.bool z.Down].toArray T)) (by rw [List.getElem?_set_ne n1,List.getElem?_set_ne n2,List.getElem?_set_ne n3]; exact hi))
  have hg:=g (a:=cat (Wk.box b (.cells [.int .i64 z.Shape.Groups,.int .i64 z.Shape.Column,.int .i64 z.Shape.Data,.int .i64 z.Shape.Spare,.int .i64 z.Shape.Rows,.int .i64 z.Shape.Cap,.int .i64 z.Shape.Batch,.int .i64 z.Shape.Queue,.int .i64 z.Shape.Stage,.slice A9 z.Groups.length C9,.slice A10 z.On.length C10,.slice A11 z.Tapes.length C11,.int .i64 z.Writes,.int .i64 z.Stop,.bool z.Down].toArray T)) (cat (Wk.mine [.slice A9 z.Groups.length C9] z.Groups f9) (cat (Wk.mine [.slice A10 z.On.length C10] z.On f10) (Wk.mine [.slice A11 z.Tapes.length C11] z.Tapes f11)))) (r:=Wk.box b (.cells [.int .i64 z.Shape.Groups,.int .i64 z.Shape.Column,.int .i64 z.Shape.Data,.int .i64 z.Shape.Spare,.int .i64 z.Shape.Rows,.int .i64 z.Shape.Cap,.int .i64 z.Shape.Batch,.int .i64 z.Shape.Queue,.int .i64 z.Shape.Stage,.slice A9 z.Groups.length C9,.slice A10 z.On.length C10,.slice A11 z.Tapes.length C11,.int .i64 z.Writes,.int .i64 z.Stop,.bool z.Down].toArray T)) (L:=((Δ.set j11 gone).set j10 gone).set j9 gone) (k:=i) (by rw [List.getElem?_set_ne n1,List.getElem?_set_ne n2,List.getElem?_set_ne n3]; exact hi)
  have hn:=H3.nodup1 hg
  have H4:=H3.conv i (wldR b T z (b::(f9++(f10++f11)))) hg ⟨A9,C9,A10,C10,A11,C11,f9,f10,f11,q1,q2,q3,q4,ok,rfl⟩ (fun x hx=>hx) hn
  rw [List.set_set] at H4
  exact ⟨_,H4⟩
end
section
variable {M:Nat→Prop}{w0 w w1 w2:World}{Δ F:List Rsc}
theorem Sep.inB (_:Sep M w0 Δ F w) (i:Nat) {r:Rsc}(hi:Δ[i]? = some r) {b:Nat}(hb:b∈r.fp):b∈blocks Δ:=bm.2 ⟨r,List.mem_of_getElem? hi,hb⟩
end
end Go.Wk
namespace Go.Wk
open Rp (sz own)
def bP (z:Wld):Bool:=decide (z.Stop ≠ -1) && decide (z.Stop≤z.Writes)
def tf (z:Wld):Wld:=⟨z.Shape,z.Groups,[],z.Tapes,z.Writes,z.Stop,true⟩
def jG (z:Wld):Wld:=⟨z.Shape,z.Groups,z.On,z.Tapes,z.Writes+1,z.Stop,z.Down⟩
def qR (z:Wld) (y:Wld):Wld:=if bP z=true then tf z else jG y
theorem lY {z y:Wld}(h:bP z=true):qR z y=tf z:=if_pos h
theorem go {z y:Wld}(h:bP z=false):qR z y=jG y:=if_neg (by simp [h])
def noWld:Wld:=⟨⟨0,0,0,0,0,0,0,0,0⟩,[],[],[],0,0,false⟩
theorem oo {f g:Nat→Nat}:∀ k,gu (fun i=>f i+g i) k=gu f k+gu g k
  | 0=>rfl
  | k+1=>by
    show gu (fun i=>f i+g i) k+(f k+g k)=gu f k+f k+(gu g k+g k)
    rw [oo k]; omega
theorem qX {i c:Nat}:∀ k,gu (fun j=>if j=i then c else 0) k=if i<k then c else 0
  | 0=>rfl
  | k+1=>by
    show gu (fun j=>if j=i then c else 0) k+(if k=i then c else 0)=_
    rw [qX k]
    by_cases h:k=i
    · subst h; rw [if_neg ω,if_pos rfl,if_pos ω]; omega
    · rw [if_neg h]
      by_cases h2:i<k
      · rw [if_pos h2,if_pos ω]; omega
      · rw [if_neg h2,if_neg ω]
section
variable {α:Type}[Inhabited α] {f:α→Nat}{xs:List α}{y:α}{i:Nat}
theorem tN:mkL f (xs++[y])=mkL f xs+f y:=by
  unfold mkL
  rw [List.length_append]
  show gu _ xs.length+f ((xs++[y]).getD xs.length default)=_
  have e1:(xs++[y]).getD xs.length default=y:=by simp [List.getD]
  rw [e1,mA (g:=fun i=>f (xs.getD i default)) fun j hj=>by
    have e:(xs++[y]).getD j default=xs.getD j default:=by rw [kL hj]
    rw [e]]
end
theorem Cu {z:Wld}:mr (tf z)≤mr z:=by
  unfold mr tf; dsimp only; simp
end Go.Wk
namespace Go.Wk
open Rp (sz own)
theorem cS {α:Type}{xs:List α}{k:Nat}{d:α}(h:k<xs.length):xs.take k++[xs.getD k d]=xs.take (k+1):=by
  rw [bi h]; exact List.take_append_getElem h
theorem gV {w:Wld}(h:bF w=0):0≤w.Writes∧w.Writes≤1000000000 ∧ -1≤w.Stop∧w.Stop≤1000000000:=by
  unfold bF at h
  split at h
  · rename_i h1; exact absurd h h1
  · split at h
    · split at h
      · rename_i h1; exact absurd h h1
      · split at h
        · rename_i h1
          simp only [Bool.and_eq_true,cq] at h1
          omega
        · omega
    · omega
theorem Sep.asSt {α β:Type}[Rp α] [Rp β] {M:Nat→Prop}{w0 w:World}{Δ F:List Rsc}(h:Sep M w0 Δ F w) (i:Nat) {cs cs':List Value}{x:α}(y:β) {fp:List Nat}(hi:Δ[i]? = some (Wk.mine cs x fp)) (hq:own true w cs' y fp):Sep M w0 (Δ.set i (Wk.mine cs' y fp)) F w:=
  have hn:=h.nodup1 hi
  h.conv i (Wk.mine cs' y fp) hi hq (fun b hb=>hb) hn
section
variable {P:Program}{n:Nat}{ops:Array Oper}{Q:Post}{L:Env}{S:World→Prop}{w w0:World}{M:Nat→Prop}{Δ F:List Rsc}{ty:TypeId}{p:String}{af:Array Edge}{g:Option (Nat × Bool)}{i:Nat}{rest:List (Nat × Bool)}
theorem vh {t:TypeId}{x y:Operand}{b off sz:Nat}{cs:List Value}{T} {vs:List Value}(ho:ops.toList[i]? = some ⟨none,.store t x y,ty,p,af,g⟩) (hw:Wn ops n L ⟨none,.store t x y,ty,p,af,g⟩) (hs:∀ w,(sizeOf t).run P w = .ok sz w) (hx:evL L x=some (.pointer (some ⟨b,off,none⟩))) (hy:evL L y=some (.agg vs.toArray))
    (hl:vs.length=sz) (h1:qt vs=true) (H:Sep M w0 Δ F w) (j:Nat) (hi:Δ[j]? = some (Wk.box b (.cells cs.toArray T))) (hf:Nat.ble (off+sz) cs.length=true) (hS:∀ w',S w→Ext (· = b) w w'→rest≠[]→S w')
    (k:∀ w',Ext (· = b) w w'→Sep M w0 (Δ.set j (Wk.box b (.cells (aL cs off vs).toArray T))) F w'→DL P n ops Q S rest L w') :
    DL P n ops Q S ((i,false)::rest) L w:=by
  have hf':=Nat.le_of_ble_eq_true hf
  have h:=k _ (Ext.refl.put (.inl rfl)) (H.put j _ hi)
  rw [← qr (by rw [hl]; exact hf')] at h
  exact x9 ho hw rfl (iE hs hx hy hl (ig h1) (H.box j hi) (by simpa using hf')) (fun hSw hr=>hS _ hSw (Ext.refl.put (.inl rfl)) hr) h
end
end Go.Wk
namespace Go.Wk
open Rp (sz own)
section
variable {M:Nat→Prop}{w0 w w1 w2:World}{Δ F:List Rsc}{b:Nat}{T:TypeId}{z:Wld}{fp fp1:List Nat}
theorem Sep.boxFar (h:Sep M w0 Δ F w) (i j:Nat) {c:Nat}{o:Obj}(hi:Δ[i]? = some (wldR b T z fp)) (hj:Δ[j]? = some (Wk.box c o)) (hij:Nat.beq j i=false) (s1:∀ x∈fp1,x∈fp∨w.heap.size≤x) (e1:Ext (· ∈ fp) w w1) :
    w1.heap[c]? = some o∧c ∉ fp1:=by
  have hb:w.heap[c]? = some o:=h.r j hj
  have hn:c ∉ fp:=h.apart (i:=i) (j:=j) hi hj hij c (by simp [Wk.box])
  exact ⟨e1.heapM hn hb,fun hm=>(s1 c hm).elim hn fun hg=>by have:=(Array.getElem?_eq_some_iff.1 hb).1; omega⟩
theorem Sep.boxF (h:Sep M w0 [wldR b T z fp] F w) {c:Nat}{o:Obj}(hb:w.heap[c]? = some o) (hd:c ∉ fp):Sep M w0 [wldR b T z fp] (F++[Wk.box c o]) w:=
  h.look (r:=Wk.box c o) hb fun x hx hm=>by
    rw [show x=c by simpa [Wk.box] using hx] at hm
    exact hd (by simpa [blocks,wldR] using hm)
def Sep.S2 {M:Nat→Prop}{w0 w:World}{Δ F:List Rsc}(_:Sep M w0 Δ F w) (i j:Nat):World→Prop:=Ext (fun b=>b∈(Δ.getD i gone).fp∨b∈(Δ.getD j gone).fp) w
theorem iD {r d:Rsc}{i:Nat}(h:Δ[i]? = some r):Δ.getD i d=r:=by simp [List.getD,h]
theorem Sep.s2Call (h:Sep M w0 Δ F w) {i j:Nat}(hS:h.S2 i j w1) (e:Ext No w1 w2):h.S2 i j w2:=Ext.trans hS e.no
theorem Sep.s2In (h:Sep M w0 Δ F w) {i j:Nat}(hS:h.S2 i j w1) (k:Nat) {r:Rsc}(hk:Δ[k]? = some r) (hij:k=i∨k=j) {N:Nat→Prop}(e:Ext N w1 w2) (hN:∀ b,N b→b∈r.fp):h.S2 i j w2:=
  Ext.step hS e fun b hb => .inl (by
    rcases hij with rfl | rfl
    · exact .inl (by rw [iD hk]; exact hN b hb)
    · exact .inr (by rw [iD hk]; exact hN b hb))
theorem Sep.s2Box (h:Sep M w0 Δ F w) {i j:Nat}(hx:h.S2 i j w1) (k:Nat) {c:Nat}{o:Obj}(hk:Δ[k]? = some (Wk.box c o)) {ri rj:Rsc}(hi:Δ[i]? = some ri) (hj:Δ[j]? = some rj) (d1:Nat.beq k i=false) (d2:Nat.beq k j=false):w1.heap[c]? = some o:=
  Ext.heapM hx (fun hm=>by
    rcases hm with hm | hm
    · rw [iD hi] at hm; exact h.apart (i:=i) (j:=k) hi hk d1 c (by simp [Wk.box]) hm
    · rw [iD hj] at hm; exact h.apart (i:=j) (j:=k) hj hk d2 c (by simp [Wk.box]) hm) (h.r k hk)
end
section
variable {P:Program}{n:Nat}{ops:Array Oper}{Q:Post}{L:Env}{S:World→Prop}{w w0:World}{M:Nat→Prop}{Δ F:List Rsc}{ty:TypeId}{p:String}{af:Array Edge}{g:Option (Nat × Bool)}{α:Type}[Rp α] {i:Nat}{rest:List (Nat × Bool)}
theorem kH {t:TypeId}{x y:Operand}{ad:Option Addr}{m cap k b off:Nat}{xs:List α}{T:TypeId}{ck:List Value}{f1 f2:List Nat}{v:Value}(ho:ops.toList[i]? = some ⟨none,.store t x y,ty,p,af,g⟩) (hw:Wn ops n L ⟨none,.store t x y,ty,p,af,g⟩) (hs:∀ w,(sizeOf t).run P w = .ok 1 w)
    (H:Sep M w0 Δ F w) (j q:Nat) (hi:Δ[j]? = some (hol ad m cap xs k b off T ck f1 f2)) (hj:Nat.blt q ck.length=true) (hx:evL L x=some (.pointer (some ⟨b,off+q,none⟩))) (hy:evL L y=some v) (h1:v.oneCell'=true) (hS:∀ w',S w→Ext (· = b) w w'→rest≠[]→S w')
    (kk:∀ w',Sep M w0 (Δ.set j (hol ad m cap xs k b off T (ck.set q v) f1 f2)) F w'→DL P n ops Q S rest L w'):DL P n ops Q S ((i,false)::rest) L w:=by
  obtain ⟨cur,hb,hlt,H'⟩:=H.hset j hi q (Nat.le_of_ble_eq_true hj) v
  exact x9 ho hw rfl (jX hs hx hy h1 hb hlt) (fun hSw hr=>hS _ hSw (Ext.refl.put (.inl rfl)) hr) (kk _ H')
end
theorem xr {z:Wld}(h:bF z=0):(z.Tapes.getD 0 default).Recs.length≤200∧(z.Tapes.getD 1 default).Recs.length≤200:=by
  obtain ⟨_,_,_,h2,h3⟩:=bM h
  have hm:z.Tapes.any cr=false:=by
    cases hq:z.Tapes.any cr with
    | false=>rfl
    | true=>unfold dT at h3; rw [if_pos hq] at h3; omega
  have key:∀ i,i<z.Tapes.length→(z.Tapes.getD i default).Recs.length≤200:=fun i hi=>by
    have:=sS (d:=default) hm i hi
    unfold cr at this
    simp only [decide_eq_false_iff_not] at this; omega
  exact ⟨key 0 ω,key 1 ω⟩
theorem pu {z:Wld}(h:z.Ok):(tf z).Ok:=h
theorem lI {z:Wld}(h:z.Ok) (h2:z.Writes≤2000000000):(jG z).Ok:=by
  refine ⟨h.1,?_,h.2.2⟩
  have h3:=h.2.1
  show I64ok (z.Writes+1)
  unfold I64ok at h3 ⊢; omega
theorem pb {z:Wld}(h:¬ z.Stop = -1) (h2:z.Writes ≥ z.Stop):bP z=true:=by
  unfold bP; simp only [Bool.and_eq_true,decide_eq_true_eq]; exact ⟨h,h2⟩
theorem kJ {z:Wld}(h:z.Stop = -1∨¬ z.Writes ≥ z.Stop):bP z=false:=by
  unfold bP; simp only [Bool.and_eq_false_iff,decide_eq_false_iff_not]
  rcases h with h | h
  · exact .inl (by simp [h])
  · exact .inr ω
end Go.Wk
namespace Go.Wk
open Rp (sz own)
theorem zL:noWld.Ok:=by unfold Wld.Ok Shape.Ok I64ok noWld; dsimp only; omega
theorem sP {w w':World}{c:Int}(h:I64ok c):Res w w' [.int .i64 c,.int .i64 0,.int .i64 0,.int .i64 0,.int .i64 0,.int .i64 0,.int .i64 0,.int .i64 0,.int .i64 0,.int .i64 0,.slice none 0 0,.slice none 0 0,.slice none 0 0,.int .i64 0,.int .i64 0,.bool false] (⟨c,noWld⟩:WldResult):=
  ⟨_,WldResult.own_mk (x:=⟨c,noWld⟩) ⟨h,zL⟩ (.inr (.inl ⟨rfl,rfl,rfl⟩)) (.inr (.inl ⟨rfl,rfl,rfl⟩)) (.inr (.inl ⟨rfl,rfl,rfl⟩)),List.nodup_nil,σ⟩
section
variable {P:Program}{n:Nat}{ops:Array Oper}{Q:Post}{L:Env}{S:World→Prop}{w w0:World}{M:Nat→Prop}{Δ F:List Rsc}{d:Nat}{ty:TypeId}{p:String}{af:Array Edge}{g:Option (Nat × Bool)}{i:Nat}{rest:List (Nat × Bool)}
theorem Cf {t:TypeId}{z:Value}(ho:ops.toList[i]? = some ⟨some d,.alloc t,ty,p,af,g⟩) (hw:Wn ops n L ⟨some d,.alloc t,ty,p,af,g⟩) (hn:Nat.blt d n=true) (hz:∀ w,(zeroValue t).run P w = .ok z w) (H:Sep M w0 Δ F w) (hS:∀ w',S w→Ext No w w'→S w')
    (k:∀ b w',Ext No w w'→w.heap.size≤b→Sep M w0 (Δ++[box b (.cells z.cells t)]) F w'→DL P n ops Q S rest ((d,.pointer (some ⟨b,0,none⟩))::L) w'):DL P n ops Q S ((i,false)::rest) L w:=
  xT (v:=fun b => .pointer (some ⟨b,0,none⟩)) ho hw rfl hn (uv hz) H hS k
end
end Go.Wk
namespace Go.Wk
open Rp (sz own)
structure RecV where
  r:Rec
  A6:Option Addr
  C6:Nat
  A7:Option Addr
  C7:Nat
  A8:Option Addr
  C8:Nat
def RecV.cs (v:RecV):List Value:=[.int .i64 v.r.Kind,.int .i64 v.r.Seq,.string v.r.Name,.int .i64 v.r.Length,.int .i64 v.r.Group,.int .i64 v.r.Row,.slice v.A6 v.r.Rows.length v.C6,.slice v.A7 v.r.Data.length v.C7,.slice v.A8 v.r.Delta.length v.C8]
instance:Inhabited RecV:=⟨⟨default,none,0,none,0,none,0⟩⟩
theorem RecV.one {v:RecV}:∀ x∈v.cs,x.oneCell'=true:=by
  intro x hx
  simp only [RecV.cs,List.mem_cons,List.not_mem_nil,or_false] at hx
  rcases hx with rfl | rfl | rfl | rfl | rfl | rfl | rfl | rfl | rfl<;>rfl
instance:Rp RecV where
  sz:=9
  pos:=by decide
  own _ _ cs v fp:=cs=v.cs∧fp=[]∧v.r.Ok
  len h:=by rw [h.1]; rfl
  one h v hv:=by rw [h.1] at hv; exact RecV.one v hv
  st h _:=h
  lt h b hb:=by rw [h.2.1] at hb; simp at hb
  weak h:=h
def iC (w:World):List RecV→List Nat→Prop
  | [],f=>f=[]
  | v::vs,f=>∃ f1 f2,f=f1++f2∧own true w v.cs v.r f1∧iC w vs f2
theorem iC.st {w w':World}:∀ {vs f},iC w vs f→(∀ b∈f,w'.heap[b]? = w.heap[b]?)→iC w' vs f
  | [],_,h,_=>h
  | v::vs,f,⟨f1,f2,e,h1,h2⟩,k=>by
    subst e
    exact ⟨f1,f2,rfl,Rp.st h1 fun b hb=>k b (by simp [hb]),iC.st h2 fun b hb=>k b (by simp [hb])⟩
theorem iC.lt {w:World}:∀ {vs f},iC w vs f→∀ b∈f,b<w.heap.size
  | [],f,h,b,hb=>by rw [show f=[] from h] at hb; simp at hb
  | v::vs,f,⟨f1,f2,e,h1,h2⟩,b,hb=>by
    subst e
    rcases List.mem_append.1 hb with hb | hb
    · exact Rp.lt h1 b hb
    · exact iC.lt h2 b hb
theorem iC.sub {w:World}{vs' vs:List RecV}(hs:vs'.Sublist vs):∀ {f},iC w vs f→∃ f',iC w vs' f'∧f'.Sublist f:=by
  induction hs with
  | slnil=>exact fun h=>⟨[],rfl,by rw [show _=[] from h]; exact .slnil⟩
  | cons a s ih=>
    rintro f ⟨f1,f2,e,h1,h2⟩
    obtain ⟨f',h3,h4⟩:=ih h2
    exact ⟨f',h3,by rw [e]; exact h4.trans (List.sublist_append_right _ _)⟩
  | cons_cons a s ih=>
    rintro f ⟨f1,f2,e,h1,h2⟩
    obtain ⟨f',h3,h4⟩:=ih h2
    exact ⟨f1++f',⟨f1,f',rfl,h1,h3⟩,by rw [e]; exact (List.Sublist.refl _).append h4⟩
theorem tW {w:World}:∀ {rs:List Rec}{cs fp},cj true w cs rs fp→∃ vs:List RecV,vs.map RecV.r=rs∧cj true w cs vs []∧iC w vs fp
  | [],cs,fp,h=>⟨[],rfl,rfl,h⟩
  | x::xs,cs,fp,⟨f1,f2,e,h1,h2⟩=>by
    obtain ⟨A6,C6,A7,C7,A8,C8,f6,f7,f8,e1,ef,ok,o6,o7,o8⟩:=bQ h1
    obtain ⟨vs,e2,h3,h4⟩:=tW h2
    refine ⟨⟨x,A6,C6,A7,C7,A8,C8⟩::vs,by simp [e2],⟨[],[],rfl,⟨e1,rfl,ok⟩,h3⟩,⟨f1,f2,e,?_,h4⟩⟩
    rw [e1] at h1; exact h1
theorem uP {w:World}:∀ {vs:List RecV}{cs fp f0},cj true w cs vs f0→iC w vs fp→f0=[]∧cj true w cs (vs.map RecV.r) fp
  | [],_,_,_,h,hp=>⟨h,hp⟩
  | v::vs,cs,fp,f0,⟨g1,g2,e0,⟨e1,eg,ok⟩,h2⟩,⟨f1,f2,e,h1,h3⟩=>by
    obtain ⟨r1,r2⟩:=uP h2 h3
    refine ⟨by rw [e0,eg,r1]; rfl,⟨f1,f2,e,?_,r2⟩⟩
    rw [show cs.take (sz Rec)=v.cs from e1]; exact h1
theorem kp {w:World}:∀ {vs:List RecV}{cs f0} (i:Nat),cj true w cs vs f0→cj true w cs (vs.take i) []∧f0=[]
  | [],_,_,i,h=>by rw [List.take_nil]; exact ⟨rfl,h⟩
  | v::vs,cs,f0,0,⟨g1,g2,e0,⟨e1,eg,ok⟩,h2⟩=>by
    have:=(kp 0 h2).2
    exact ⟨rfl,by rw [e0,eg,this]; rfl⟩
  | v::vs,cs,f0,i+1,⟨g1,g2,e0,⟨e1,eg,ok⟩,h2⟩=>by
    obtain ⟨h3,h4⟩:=kp i h2
    exact ⟨⟨[],[],rfl,⟨e1,rfl,ok⟩,h3⟩,by rw [e0,eg,h4]; rfl⟩
theorem xG {w:World}{ad n cap} {rs:List Rec}{fp} (h:own true w [.slice ad n cap] rs fp):∃ (vs:List RecV) (f0 f1:List Nat),vs.map RecV.r=rs∧fp=f0++f1∧own true w [.slice ad n cap] vs f0∧iC w vs f1:=by
  rcases h with ⟨hf,_⟩ | ⟨e,rfl,rfl⟩ | ⟨b,o,cap',cur,T,fr,fs,h1,h2,h3,h4,h5,h6,h7,h8⟩
  · cases hf
  · exact ⟨[],[],[],rfl,rfl,.inr (.inl ⟨e,rfl,rfl⟩),rfl⟩
  · obtain ⟨vs,e1,h9,h10⟩:=tW h8
    have el:vs.length=rs.length:=by rw [← e1,List.length_map]
    exact ⟨vs,[b],fs,e1,by rw [h2]; rfl,.inr (.inr ⟨b,o,cap',cur,T,fr,[],by rw [el]; exact h1,rfl,h3,h4,by rw [el]; exact h5,h6,h7,h9⟩),h10⟩
theorem Bj {w:World}{ad n cap} {vs:List RecV}{f0 f1} (h:own true w [.slice ad n cap] vs f0) (hp:iC w vs f1):own true w [.slice ad n cap] (vs.map RecV.r) (f0++f1):=by
  rcases h with ⟨hf,_⟩ | ⟨e,rfl,rfl⟩ | ⟨b,o,cap',cur,T,fr,fs,h1,h2,h3,h4,h5,h6,h7,h8⟩
  · cases hf
  · rw [show f1=[] from hp]; exact .inr (.inl ⟨e,rfl,rfl⟩)
  · obtain ⟨e,h9⟩:=uP h8 hp
    have el:(vs.map RecV.r).length=vs.length:=List.length_map _
    exact .inr (.inr ⟨b,o,cap',cur,T,fr,f1,by rw [el]; exact h1,by rw [h2,e]; rfl,h3,h4,by rw [el]; exact h5,h6,h7,h9⟩)
def poolR (vs:List RecV) (f:List Nat):Rsc:=⟨f,fun w=>iC w vs f,fun h k=>h.st k,fun h=>h.lt⟩
section
variable {M:Nat→Prop}{w0 w:World}{Δ F:List Rsc}
theorem Sep.toViews (h:Sep M w0 Δ F w) (i:Nat) {ad n cap} {rs:List Rec}{fp} (hi:Δ[i]? = some (Wk.mine [.slice ad n cap] rs fp)) :
    ∃ (vs:List RecV) (f0 f1:List Nat),vs.map RecV.r=rs∧Sep M w0 (Δ.set i (Wk.mine [.slice ad n cap] vs f0)++[gone,poolR vs f1]) F w:=by
  obtain ⟨vs,f0,f1,e1,ef,h1,h2⟩:=xG (h.mine i hi)
  have hil:i<Δ.length:=(List.getElem?_eq_some_iff.1 hi).1
  have p2:(poolR vs f1).φ w:=h2
  have H2:=h.part i hi [Wk.mine [.slice ad n cap] vs f0,poolR vs f1] (aI h1 (aI p2 σ)) (by simp [blocks,Wk.mine,poolR,ef])
  exact ⟨vs,f0,f1,e1,H2.perm (iL hil)⟩
theorem Sep.ofViews (h:Sep M w0 Δ F w) (i j:Nat) {ad n cap} {vs:List RecV}{f0 f1} (hi:Δ[i]? = some (Wk.mine [.slice ad n cap] vs f0)) (hj:Δ[j]? = some (poolR vs f1)) (hij:Nat.beq j i=false) :
    ∃ fp,Sep M w0 ((Δ.set j gone).set i (Wk.mine [.slice ad n cap] (vs.map RecV.r) fp)) F w:=by
  have hne:j≠i:=fun e=>by subst e; simp at hij
  have H1:=h.join2 i j hi hj hij
  have g:((Δ.set j gone).set i (cat (Wk.mine [.slice ad n cap] vs f0) (poolR vs f1)))[i]? = some (cat (Wk.mine [.slice ad n cap] vs f0) (poolR vs f1)):=
    List.getElem?_set_self (by have:=(List.getElem?_eq_some_iff.1 hi).1; simpa using this)
  have hφ:(cat (Wk.mine [.slice ad n cap] vs f0) (poolR vs f1)).φ w:=H1.r i g
  have hn:=H1.nodup1 g
  have H2:=H1.conv i (Wk.mine [.slice ad n cap] (vs.map RecV.r) (f0++f1)) g (Bj hφ.1 hφ.2) (fun b hb=>hb) hn
  rw [List.set_set] at H2
  exact ⟨_,H2⟩
theorem Sep.poolSub (h:Sep M w0 Δ F w) (j:Nat) {vs:List RecV}{f} (hj:Δ[j]? = some (poolR vs f)) {vs':List RecV}(hs:vs'.Sublist vs):∃ f',Sep M w0 (Δ.set j (poolR vs' f')) F w:=by
  obtain ⟨f',h1,h2⟩:=iC.sub hs (h.r j hj)
  have hn:=h.nodup1 hj
  exact ⟨f',h.conv j (poolR vs' f') hj h1 (fun b hb=>h2.subset hb) (h2.nodup hn)⟩
theorem Sep.viewAt (h:Sep M w0 Δ F w) (i:Nat) {ad n cap} {vs:List RecV}{f} (hi:Δ[i]? = some (Wk.mine [.slice ad n cap] vs f)) (k:Nat) (hk:k<vs.length) :
    ∃ b o,ad=some ⟨b,o,none⟩∧At w b (o+k*9) (vs.getD k default).cs∧(vs.getD k default).r.Ok:=by
  obtain ⟨b,o,cs,fk,e,hat,hx,_⟩:=d9 (h.mine i hi) k hk
  rw [bi hk]
  obtain ⟨e1,_,ok⟩:=hx
  exact ⟨b,o,e,by rw [← e1]; exact hat,ok⟩
end
section
variable {P:Program}{n:Nat}{ops:Array Oper}{Q:Post}{L:Env}{w w0:World}{M:Nat→Prop}{Δ F:List Rsc}{d:Option Tmp}{ty:TypeId}{p:String}{af:Array Edge}{g:Option (Nat × Bool)}{rest:List Oper}
theorem x0 {t:TypeId}{x y:Operand}{b off:Nat}{ad:Option Addr}{len cap:Nat}{xs:List RecV}{fp:List Nat}{u:RecV}(hw:Wn ops n L ⟨none,.store t x y,ty,p,af,g⟩) (hs:∀ w,(sizeOf t).run P w = .ok 9 w)
    (H:Sep M w0 Δ F w) (i:Nat) (hi:Δ[i]? = some (Wk.mine [.slice ad len cap] xs fp)) (q:Nat) (hq:q<xs.length) (hx:evL L x=some (.pointer (some ⟨b,off+q*9,none⟩))) (had:ad=some ⟨b,off,none⟩) (hy:evL L y=some (.agg u.cs.toArray)) (ok:u.r.Ok)
    (k:∀ w' fp',Sep M w0 (Δ.set i (Wk.mine [.slice ad len cap] (xs.set q u) fp')) F w'→RL P n ops Q rest L w') :
    RL P n ops Q (⟨none,.store t x y,ty,p,af,g⟩::rest) L w:=by
  obtain ⟨b',o',cur,T,e1,hb,hsz,hk⟩:=H.elset i hi q hq
  rw [had] at e1
  simp only [Option.some.injEq,Addr.mk.injEq,and_true] at e1
  obtain ⟨rfl,rfl⟩:=e1
  obtain ⟨fp',h⟩:=hk u.cs u ⟨rfl,rfl,ok⟩
  exact we hw rfl (iE hs hx hy rfl RecV.one hb hsz) (k _ fp' h)
theorem Aq {c:Array Value}{m:Nat}(h:∀ v∈c.toList,v.oneCell'=true):∀ v∈(Builtin.zeroCells c m).toList,v.oneCell'=true:=by
  intro v hv
  simp only [Builtin.zeroCells,Array.toList_map,List.mem_map,Array.toList_range,List.mem_range] at hv
  obtain ⟨i,hi,rfl⟩:=hv
  have hs:0<c.size:=by
    rcases Nat.eq_zero_or_pos c.size with e | e
    · rw [e] at hi; simp at hi
    · exact e
  have hlt:=Nat.mod_lt i hs
  rw [getElem!_pos c _ hlt]
  exact h _ σ
theorem z6 {o:Oper}{v:Value}{w':World}(hw:Wn ops n L o) (hd:o.dst=none) (hp:Pn P n L w o v w')
    (k:RL P n ops Q rest L w'):RL P n ops Q (o::rest) L w:=fun a ha=>wpList_step fun K hK=>by
  rw [if_pos (hw a ha)]
  unfold Oper.wp
  rw [hp a ha,Oper.upon_value,hd]
  exact hK _ _ (k _ ha)
theorem tA {l l':List Value}{o n:Nat}(h:∀ j,j<o+n→l'[j]? = l[j]?):(l'.drop o).take n=(l.drop o).take n:=by
  apply List.ext_getElem?
  intro j
  rw [List.getElem?_take,List.getElem?_take]
  split
  · rw [List.getElem?_drop,List.getElem?_drop]; exact h _ ω
  · rfl
theorem xc {t:TypeId}{e:TypeId}{a:Option Addr}{c:Nat}{w:World}(ht:P.underlying t=some (.slice e)):(Builtin.clear_ #[t] ty #[.slice a 0 c]).run P w = .ok (.tuple #[]) w:=by
  cases a<;>simp [Builtin.clear_,run_underlying ht]
theorem vA {t e:TypeId}{z:Value}{bytes size m c b o:Nat}{cur:Array Value}{T:TypeId}{w:World}(ht:P.underlying t=some (.slice e)) (hT:Ty P e z size bytes) (hz:z.cells.size=size) (hz1:∀ v∈z.cells.toList,v.oneCell'=true) (hb:w.heap[b]? = some (.cells cur T (0,0))) (hm:0<m) (hsz:o+m*size≤cur.size) :
    (Builtin.clear_ #[t] ty #[.slice (some ⟨b,o,none⟩) m c]).run P w = .ok (.tuple #[]) (Wk.put w b (.cells (lay cur o (Builtin.zeroCells z.cells m).toList) T (0,0))):=by
  obtain ⟨i,hi1,hi2,hi3,hi4⟩:=hT.parts
  have hr:=gq (P:=P) (Builtin.zeroCells z.cells m).toList w o 0 cur hb (Aq hz1) (by simp only [Array.length_toList,size_zeroCells,hz]; omega)
  rw [Nat.add_zero] at hr
  obtain ⟨m',rfl⟩:∃ m',m=m'+1:=⟨m-1,ω⟩
  simp [Builtin.clear_,run_underlying ht,zeroValue,typeInfo,hi1,hi2,hr]
theorem uz {t e:TypeId}{x:Operand}{z:Value}{bytes b off k cap m c l:Nat}{xs:List RecV}{fp:List Nat}(hw:Wn ops n L ⟨none,.call ⟨.builtin .clear,#[x],#[t]⟩,ty,p,af,g⟩) (ht:P.underlying t=some (.slice e)) (hT:Ty P e z 9 bytes) (hz:z.cells.size=9) (hz1:∀ v∈z.cells.toList,v.oneCell'=true)
    (hx:evL L x=some (.slice (slA (some ⟨b,off,none⟩) k cap 9) l c)) (hl:l=xs.length-k) (hk:k≤xs.length)
    (H:Sep M w0 Δ F w) (i:Nat) (hi:Δ[i]? = some (Wk.mine [.slice (some ⟨b,off,none⟩) m cap] xs fp))
    (kk:∀ w',Sep M w0 (Δ.set i (Wk.mine [.slice (some ⟨b,off,none⟩) k cap] (xs.take k) fp)) F w'→RL P n ops Q rest L w') :
    RL P n ops Q (⟨none,.call ⟨.builtin .clear,#[x],#[t]⟩,ty,p,af,g⟩::rest) L w:=by
  subst hl
  have o:=H.mine i hi
  rcases o with ⟨hf,_⟩ | ⟨e1,_⟩ | ⟨b',o',cap',cur,T,fr,fs,h1,h2,h3,h4,h5,h6,h7,h8⟩
  · cases hf
  · simp at e1
  · simp only [List.cons.injEq,Value.slice.injEq,Option.some.injEq,Addr.mk.injEq,and_true] at h1
    obtain ⟨⟨rfl,rfl⟩,hm,hc⟩:=h1
    subst hc
    have hfr:=h4 rfl
    subst hfr
    obtain ⟨h9,h10⟩:=kp k h8
    subst h10
    subst h2
    have hn:=H.nodup1 hi
    have e9:sz RecV=9:=rfl
    have el:(xs.take k).length=k:=by rw [List.length_take]; omega
    rcases Nat.eq_zero_or_pos (xs.length-k) with e | e
    · have hr:=xc (P:=P) (ty:=ty) (w:=w) (a:=slA (some ⟨b,off,none⟩) k cap 9) (c:=c) ht
      rw [← e] at hr
      refine z6 hw rfl (v := .tuple #[]) (w':=w) (fun a ha=>?_) (kk _ (H.conv i (Wk.mine [.slice (some ⟨b,off,none⟩) k cap] (xs.take k) [b]) hi (.inr (.inr ⟨b,off,cap,cur,T,(0,0),[],by rw [el],rfl,h3,fun _=>rfl,by rw [el]; omega,h6,h7,h9⟩)) (fun b hb=>hb) hn))
      simp [execOp,resolve,invoke,builtin,ha.eval hx,hr]
    · have hlt:k<cap:=by omega
      have ea:slA (some ⟨b,off,none⟩) k cap 9=some ⟨b,off+k*9,none⟩:=by
        unfold slA; rw [if_neg ω]; simp [gZ]
      rw [ea] at hx
      have hsz:off+k*9+(xs.length-k)*9≤cur.size:=by rw [e9] at h7; omega
      have hr:=vA (P:=P) (ty:=ty) (c:=c) ht hT hz hz1 h3 e hsz
      have hE:Ext (· = b) w (Wk.put w b (.cells (lay cur (off+k*9) (Builtin.zeroCells z.cells (xs.length-k)).toList) T (0,0))):=Ext.refl.put (.inl rfl)
      refine z6 hw rfl (v := .tuple #[]) (w':=Wk.put w b (.cells (lay cur (off+k*9) (Builtin.zeroCells z.cells (xs.length-k)).toList) T (0,0))) (fun a ha=>?_) (kk _ (H.set hi (q:=Wk.mine [.slice (some ⟨b,off,none⟩) k cap] (xs.take k) [b]) (hE.mono fun b' _ e=>by subst e; simp [Wk.mine])
        (.inr (.inr ⟨b,off,cap,_,T,(0,0),[],by rw [el],rfl,iX h3,fun _=>rfl,by rw [el]; omega,h6,by rw [lw]; exact h7,(h9.congr (tA fun j hj=>?_)).st fun x hx=>by simp at hx⟩)) hn (fun b' hb' => .inl hb')))
      · simp [execOp,resolve,invoke,builtin,ha.eval hx,hr]
      · rw [el,e9] at hj
        rw [Array.getElem?_toList,Array.getElem?_toList]
        exact pA _ _ _ _ (.inl hj)
end
end Go.Wk
namespace Go.Wk
open Rp (sz own)
def co (p:Rec→Bool) (rs:List Rec):List Rec:=rs.filter fun r => !p r
def fU (p:Rec→Bool) (vs:List RecV):List RecV:=vs.filter fun v => !p v.r
theorem lR {p:Rec→Bool}{vs:List RecV}:(fU p vs).map RecV.r=co p (vs.map RecV.r):=by
  unfold fU co; rw [List.filter_map]; rfl
theorem lS {p:Rec→Bool}{vs:List RecV}:(fU p vs).Sublist vs:=List.filter_sublist
theorem lU {p:Rec→Bool}{vs:List RecV}{k:Nat}(hk:k<vs.length) (h:p (vs.getD k default).r=false):fU p (vs.take (k+1))=fU p (vs.take k)++[vs.getD k default]:=by
  rw [← cS (d:=default) hk]
  unfold fU
  rw [List.filter_append,List.filter_cons_of_pos (by simp only [h,Bool.not_false]),List.filter_nil]
theorem qV {p:Rec→Bool}{vs:List RecV}{k:Nat}(hk:k<vs.length) (h:p (vs.getD k default).r=true):fU p (vs.take (k+1))=fU p (vs.take k):=by
  rw [← cS (d:=default) hk]
  unfold fU
  rw [List.filter_append,List.filter_cons_of_neg (by simp only [h,Bool.not_true]; exact Bool.false_ne_true),List.filter_nil,List.append_nil]
theorem rP {p:Rec→Bool}{vs:List RecV}:∀ {k:Nat},k≤vs.length→(∀ i,i<k→p (vs.getD i default).r=false)→fU p (vs.take k)=vs.take k
  | 0,_,_=>by simp [fU]
  | k+1,hk,h=>by
    rw [lU ω (h k ω),rP ω fun i hi=>h i ω,cS ω]
theorem y9 {p:Rec→Bool}{vs:List RecV}{k:Nat}:(fU p (vs.take k)).length≤k:=by
  have h1:(fU p (vs.take k)).length≤(vs.take k).length:=List.length_filter_le _ _
  rw [List.length_take] at h1; omega
theorem p5 {p:Rec→Bool}{rs:List Rec}(h:ew p rs = -1):co p rs=rs:=by
  unfold ew at h
  cases hq:rs.findIdx? p with
  | some k=>rw [hq] at h; simp only at h; omega
  | none=>
    rw [List.findIdx?_eq_none_iff] at hq
    unfold co
    rw [List.filter_eq_self]
    intro a ha
    have:=hq a ha
    simpa using this
theorem pi {α:Type}{p:α→Bool}{xs:List α}{d:α}(h:¬ ew p xs = -1):∃ k:Nat,ew p xs=k∧k<xs.length∧p (xs.getD k d)=true∧∀ i,i<k→p (xs.getD i d)=false:=by
  unfold ew at h ⊢
  cases hq:xs.findIdx? p with
  | none=>rw [hq] at h; simp at h
  | some k=>
    rw [List.findIdx?_eq_some_iff_getElem] at hq
    obtain ⟨h1,h2,h3⟩:=hq
    refine ⟨k,rfl,h1,by rw [bi h1]; exact h2,fun i hi=>?_⟩
    have:=h3 i hi
    rw [bi ω]
    simpa using this
theorem nD {vs:List RecV}{k:Nat}:(vs.map RecV.r).getD k default=(vs.getD k default).r:=by
  simp only [List.getD,List.getElem?_map]
  cases vs[k]? <;> rfl
def DInv (p:Rec→Bool) (vs ws:List RecV) (i j:Nat):Prop:=j≤vs.length∧ws.length=vs.length∧i<j∧ws.take i=fU p (vs.take j)∧ws.drop j=vs.drop j
section
variable {p:Rec→Bool}{vs ws:List RecV}{i j:Nat}
theorem xA (h:DInv p vs ws i j):ws.getD j default=vs.getD j default:=by
  have:=congrArg (fun l=>l.getD 0 default) h.2.2.2.2
  simpa [List.getD] using this
theorem rd {k:Nat}(hk:k<vs.length) (h1:p (vs.getD k default).r=true) (h2:∀ i,i<k→p (vs.getD i default).r=false):DInv p vs vs k (k+1):=
  ⟨ω,rfl,ω,by rw [qV hk h1,rP ω h2],rfl⟩
theorem xz (h:DInv p vs ws i j) (hj:j<vs.length) (hp:p (vs.getD j default).r=true):DInv p vs ws i (j+1):=by
  obtain ⟨h1,h2,h3,h4,h5⟩:=h
  refine ⟨ω,h2,ω,by rw [qV hj hp]; exact h4,?_⟩
  have:=congrArg (List.drop 1) h5
  simpa [List.drop_drop] using this
theorem tD (h:DInv p vs ws i j) (hj:j<vs.length) (hp:p (vs.getD j default).r=false):DInv p vs (ws.set i (vs.getD j default)) (i+1) (j+1):=by
  obtain ⟨h1,h2,h3,h4,h5⟩:=h
  refine ⟨ω,by rw [List.length_set]; exact h2,ω,?_,?_⟩
  · rw [lU hj hp,← h4,← cS (d:=default) (by rw [List.length_set]; omega),List.take_set_of_le ω]
    congr 2
    rw [eL,if_pos ⟨rfl,ω⟩]
  · rw [List.drop_set_of_lt ω]
    have:=congrArg (List.drop 1) h5
    simpa [List.drop_drop] using this
theorem tF (h:DInv p vs ws i j) (hj:j=vs.length):ws.take i=fU p vs:=by
  subst hj
  have:=h.2.2.2.1
  rwa [List.take_length] at this
end
def pKS (kd sq:Int) (r:Rec):Bool:=decide (r.Kind=kd) && decide (r.Seq=sq)
def stT (t:Nat) (kd sq:Int) (z:Wld):Wld:=⟨z.Shape,z.Groups,z.On,z.Tapes.set t ⟨(z.Tapes.getD t default).Wiped,co (pKS kd sq) (z.Tapes.getD t default).Recs⟩,z.Writes,z.Stop,z.Down⟩
def eE (t:Nat) (kd sq:Int) (z:Wld):Wld:=qR z (stT t kd sq z)
def dP (z:Wld) (kd sq:Int):Bool := !bP z && !bP (eE 0 kd sq z)
def er (z:Wld) (kd sq:Int):Wld:=if bP z=true then tf z else eE 1 kd sq (eE 0 kd sq z)
section
variable {t:Nat}{kd sq:Int}{z:Wld}
theorem vZ (h:z.Ok):(stT t kd sq z).Ok:=h
theorem gS:(eE t kd sq z).Tapes.length=z.Tapes.length:=by
  unfold eE qR; split
  · rfl
  · simp [jG,stT]
theorem fN:z.Writes≤(eE t kd sq z).Writes∧(eE t kd sq z).Writes≤z.Writes+1:=by
  unfold eE qR; split
  · show z.Writes≤z.Writes∧z.Writes≤z.Writes+1; omega
  · show z.Writes≤z.Writes+1∧z.Writes+1≤z.Writes+1; omega
theorem gR {p:Rec→Bool}{rs:List Rec}:(co p rs).length≤rs.length:=List.length_filter_le _ _
theorem lM {u:Nat}:((eE t kd sq z).Tapes.getD u default).Recs.length≤(z.Tapes.getD u default).Recs.length:=by
  unfold eE qR; split
  · show (z.Tapes.getD u default).Recs.length≤_; omega
  · show ((z.Tapes.set t _).getD u default).Recs.length≤_
    rw [eL]; split
    · next h=>rw [h.1]; exact gR
    · omega
theorem oe (h:bP z=false):(eE t kd sq z).Down=z.Down:=by
  unfold eE; rw [go h]; rfl
theorem nJ (h:bP z=true):er z kd sq=eE 0 kd sq z∧dP z kd sq=false:=by
  unfold er dP eE
  rw [if_pos h,h,lY h]; exact ⟨rfl,rfl⟩
theorem gX (h:bP z=false):er z kd sq=eE 1 kd sq (eE 0 kd sq z)∧dP z kd sq = !bP (eE 0 kd sq z):=by
  unfold er dP
  rw [if_neg (by simp [h]),h]; exact ⟨rfl,rfl⟩
theorem xQ (h:z.Ok) (h2:z.Writes≤2000000000):(eE t kd sq z).Ok:=by
  unfold eE qR; split
  · exact pu h
  · exact lI (z:=stT t kd sq z) (vZ h) h2
theorem xg {α:Type}[Inhabited α] {f:α→Nat}{p:α→Bool}{xs:List α}:mkL f (xs.filter p)≤mkL f xs:=by
  have key:∀ k,k≤xs.length→mkL f ((xs.take k).filter p)≤mkL f (xs.take k):=by
    intro k
    induction k with
    | zero=>intro _; simp
    | succ k ih=>
      intro hk
      have h1:=ih ω
      rw [← cS (d:=default) ω,List.filter_append,tN]
      by_cases hp:p (xs.getD k default)=true
      · rw [List.filter_cons_of_pos hp,List.filter_nil,tN]; omega
      · rw [List.filter_cons_of_neg hp,List.filter_nil,List.append_nil]; omega
  have:=key xs.length (Nat.le_refl _)
  rwa [List.take_length] at this
end
theorem Ae {kd sq:Int}{r:Rec}(h:¬ r.Kind=kd):pKS kd sq r=false:=by unfold pKS; rw [decide_eq_false h]; rfl
theorem Co {kd sq:Int}{r:Rec}(h:¬ r.Seq=sq):pKS kd sq r=false:=by unfold pKS; rw [decide_eq_false h,Bool.and_false]
theorem Aj {kd sq:Int}{r:Rec}(h:r.Kind=kd):pKS kd sq r=decide (r.Seq=sq):=by unfold pKS; rw [decide_eq_true h,Bool.true_and]
theorem cR {w:World}{v:RecV}(ok:v.r.Ok):own true w v.cs v []:=⟨rfl,rfl,ok⟩
def iT (z:Wld) (kd sq:Int):Nat→Wld
  | 0=>z
  | k+1=>eE k kd sq (iT z kd sq k)
theorem rh {z:Wld}{kd sq:Int}(hd:z.Down=false) (hT:z.Tapes.length=2):∀ k,(∀ i,i<k→bP (iT z kd sq i)=false)→(iT z kd sq k).Down=false∧(iT z kd sq k).Tapes.length=2∧(iT z kd sq k).Writes≤z.Writes+k
  | 0,_=>⟨hd,hT,by show z.Writes≤_; omega⟩
  | k+1,h=>by
    obtain ⟨h1,h2,h3⟩:=rh hd hT k fun i hi=>h i ω
    have h4:=(fN (t:=k) (kd:=kd) (sq:=sq) (z:=iT z kd sq k)).2
    exact ⟨(oe (h k ω)).trans h1,gS.trans h2,by show (eE k kd sq (iT z kd sq k)).Writes≤_; omega⟩
theorem zm {z z1:Wld}{kd sq:Int}{k:Nat}(h:bP (iT z kd sq k)=false) (e:z1=jG (iT z kd sq k)):stT k kd sq z1=iT z kd sq (k+1):=by
  subst e
  show _=eE k kd sq (iT z kd sq k)
  unfold eE; rw [go h]; rfl
section
variable {M:Nat→Prop}{w0 w:World}{Δ F:List Rsc}
theorem Sep.viewSeen (h:Sep M w0 Δ F w) (i:Nat) {s:Bool}{ad n cap} {vs:List RecV}{f} (hi:F[i]? = some (Wk.seen s [.slice ad n cap] vs f)) (k:Nat) (hk:k<vs.length) :
    ∃ b o,ad=some ⟨b,o,none⟩∧At w b (o+k*9) (vs.getD k default).cs∧(vs.getD k default).r.Ok:=by
  have hx:own s w [.slice ad n cap] vs f:=h.fs _ (List.mem_of_getElem? hi)
  obtain ⟨b,o,cs,fk,e,hat,hx,_⟩:=d9 hx k hk
  rw [bi hk]
  obtain ⟨e1,_,ok⟩:=hx
  exact ⟨b,o,e,by rw [← e1]; exact hat,ok⟩
end
theorem lQ {z:Wld}{kd sq:Int}{u:Nat}:∀ k,((iT z kd sq k).Tapes.getD u default).Recs.length≤(z.Tapes.getD u default).Recs.length
  | 0=>Nat.le_refl _
  | k+1=>Nat.le_trans (lM (t:=k) (kd:=kd) (sq:=sq) (z:=iT z kd sq k)) (lQ k)
end Go.Wk
namespace Go.Wk
structure LinO {K:Type}(lt:K→K→Prop):Prop where
  irr:∀ a,¬ lt a a
  tr:∀ a b c,lt a b→lt b c→lt a c
  tot:∀ a b,lt a b∨a=b∨lt b a
section
variable {α K:Type}{lt:K→K→Prop}{key:α→K}
inductive Ord (lt:K→K→Prop) (key:α→K):List α→Prop
  | nil:Ord lt key []
  | cons {x xs}:(∀ y∈xs,¬ lt (key y) (key x))→Ord lt key xs→Ord lt key (x::xs)
theorem Ord.app {xs ys:List α}(h:Ord lt key xs) (k:Ord lt key ys) (hh:∀ x∈xs,∀ y∈ys,¬ lt (key y) (key x)):Ord lt key (xs++ys):=by
  induction h with
  | nil=>exact k
  | cons h1 h2 ih=>
    rename_i x l
    refine .cons (fun y hy=>?_) (ih fun a ha b hb=>hh a (by simp [ha]) b hb)
    rcases List.mem_append.1 hy with hy | hy
    · exact h1 y hy
    · exact hh x σ y hy
theorem Ord.left {xs ys:List α}(h:Ord lt key (xs++ys)):Ord lt key xs:=by
  induction xs with
  | nil=>exact .nil
  | cons x xs ih=>
    cases h with
    | cons h1 h2=>exact .cons (fun y hy=>h1 y (by simp [hy])) (ih h2)
theorem Ord.right {xs ys:List α}(h:Ord lt key (xs++ys)):Ord lt key ys:=by
  induction xs with
  | nil=>exact h
  | cons x xs ih=>
    cases h with
    | cons h1 h2=>exact ih h2
theorem Ord.le {xs ys:List α}(h:Ord lt key (xs++ys)):∀ x∈xs,∀ y∈ys,¬ lt (key y) (key x):=by
  induction xs with
  | nil=>simp
  | cons x xs ih=>
    cases h with
    | cons h1 h2=>
      intro a ha b hb
      rcases List.mem_cons.1 ha with rfl | ha
      · exact h1 b (by simp [hb])
      · exact ih h2 a ha b hb
end
section
variable {α K:Type}[DecidableEq K] {lt:K→K→Prop}{key:α→K}
def cv (key:α→K) (xs ys:List α):Prop:=∀ k,(ys.filter fun x=>decide (key x=k))=xs.filter fun x=>decide (key x=k)
def Stable (lt:K→K→Prop) (key:α→K) (xs ys:List α):Prop:=Ord lt key ys∧cv key xs ys
theorem cv.refl {xs:List α}:cv key xs xs:=fun _=>rfl
theorem cv.trans {xs ys zs:List α}(h:cv key xs ys) (k:cv key ys zs):cv key xs zs:=fun c=>(k c).trans (h c)
theorem cv.symm {xs ys:List α}(h:cv key xs ys):cv key ys xs:=fun c=>(h c).symm
theorem cv.app {xs ys xs' ys':List α}(h:cv key xs ys) (k:cv key xs' ys'):cv key (xs++xs') (ys++ys'):=fun c=>by
  rw [List.filter_append,List.filter_append,h c,k c]
theorem cv.mem {xs ys:List α}(h:cv key xs ys) {x:α}(hx:x∈ys):x∈xs:=by
  have:x∈ys.filter fun y=>decide (key y=key x):=by rw [List.mem_filter]; exact ⟨hx,σ⟩
  rw [h (key x),List.mem_filter] at this
  exact this.1
theorem cv.len {xs ys:List α}:cv key xs ys→ys.length=xs.length:=by
  induction xs generalizing ys with
  | nil=>
    intro h
    cases ys with
    | nil=>rfl
    | cons y ys=>exact absurd (h.mem (x:=y) σ) σ
  | cons x xs ih=>
    intro h
    have hx:x∈ys:=(cv.symm h).mem σ
    have hk:=h (key x)
    rw [List.filter_cons_of_pos σ] at hk
    have key1:∀ (l:List α) (r:List α),(l.filter fun y=>decide (key y=key x))=x::r→∃ l1 l2,l=l1++x::l2∧(∀ y∈l1,key y≠key x)∧(l2.filter fun y=>decide (key y=key x))=r:=by
      intro l
      induction l with
      | nil=>intro r h; simp at h
      | cons y l ihl=>
        intro r h
        by_cases hy:key y=key x
        · rw [List.filter_cons_of_pos (by simp [hy])] at h
          injection h with h1 h2
          exact ⟨[],l,by rw [h1]; rfl,σ,h2⟩
        · rw [List.filter_cons_of_neg (by simp [hy])] at h
          obtain ⟨l1,l2,e,h1,h2⟩:=ihl r h
          exact ⟨y::l1,l2,by rw [e]; rfl,fun z hz=>by rcases List.mem_cons.1 hz with rfl | hz; exact hy; exact h1 z hz,h2⟩
    obtain ⟨l1,l2,e,h1,h2⟩:=key1 ys _ hk
    have h3:cv key xs (l1++l2):=fun k=>by
      have hkk:=h k
      rw [e,List.filter_append] at hkk
      rw [List.filter_append]
      by_cases hkx:key x=k
      · subst hkx
        rw [show (l1.filter fun y=>decide (key y=key x))=[] from List.filter_eq_nil_iff.2 fun y hy=>by simp [h1 y hy],List.nil_append]
        exact h2
      · rw [List.filter_cons_of_neg (by simp [hkx]),List.filter_cons_of_neg (by simp [hkx])] at hkk
        exact hkk
    have h4:=ih h3
    rw [e,List.length_append,List.length_cons,List.length_cons]
    rw [List.length_append] at h4
    omega
theorem ul (hl:LinO lt):∀ {ys zs:List α},Ord lt key ys→Ord lt key zs→cv key ys zs→ys=zs
  | [],zs,_,_,h=>by
    have:=h.len
    exact (List.eq_nil_of_length_eq_zero this).symm
  | y::ys,[],_,_,h=>by have:=h.len; simp at this
  | y::ys,z::zs,.cons a1 a2,.cons b1 b2,h=>by
    have hk:key y=key z:=by
      rcases hl.tot (key y) (key z) with c | c | c
      · have hm:y∈z::zs:=(cv.symm h).mem σ
        rcases List.mem_cons.1 hm with e | e
        · rw [e]
        · exact absurd c (b1 y e)
      · exact c
      · have hm:z∈y::ys:=h.mem σ
        rcases List.mem_cons.1 hm with e | e
        · rw [e]
        · exact absurd c (a1 z e)
    have h1:=h (key y)
    rw [List.filter_cons_of_pos (by simp [hk]),List.filter_cons_of_pos σ] at h1
    injection h1 with h2 h3
    subst h2
    have h4:cv key ys zs:=fun k=>by
      have:=h k
      by_cases e:key z=k
      · rw [List.filter_cons_of_pos (by simp [e]),List.filter_cons_of_pos (by simp [e])] at this
        exact (List.cons.inj this).2
      · rw [List.filter_cons_of_neg (by simp [e]),List.filter_cons_of_neg (by simp [e])] at this
        exact this
    rw [ul hl a2 b2 h4]
theorem ju (hl:LinO lt) {xs ys zs:List α}(h:Stable lt key xs ys) (k:Stable lt key xs zs):ys=zs:=
  ul hl h.1 k.1 (h.2.symm.trans k.2)
theorem cv.swap {xs ys:List α}(h:∀ x∈xs,∀ y∈ys,key x≠key y):cv key (xs++ys) (ys++xs):=fun k=>by
  rw [List.filter_append,List.filter_append]
  by_cases hx:∃ x∈xs,key x=k
  · obtain ⟨x,hx,e⟩:=hx
    rw [show (ys.filter fun y=>decide (key y=k))=[] from List.filter_eq_nil_iff.2 fun y hy=>by
      have:=h x hx y hy
      simp only [decide_eq_true_eq]; intro e2; exact this (e.trans e2.symm)]
    simp
  · rw [show (xs.filter fun y=>decide (key y=k))=[] from List.filter_eq_nil_iff.2 fun y hy=>by
      simp only [decide_eq_true_eq]; intro e2; exact hx ⟨y,hy,e2⟩]
    simp
theorem hC (hl:LinO lt) {xs A B:List α}{x:α}(h:Stable lt key xs (A++B)) (hB:∀ y∈B,lt (key x) (key y)) (hA:∀ y∈A,¬ lt (key x) (key y)):Stable lt key (xs++[x]) (A++x::B):=by
  refine ⟨?_,?_⟩
  · refine h.1.left.app (.cons (fun y hy hlt=>hl.irr _ (hl.tr _ _ _ hlt (hB y hy))) h.1.right) fun a ha b hb=>?_
    rcases List.mem_cons.1 hb with rfl | hb
    · exact hA a ha
    · exact h.1.le a ha b hb
  · have h1:cv key ((A++B)++[x]) (A++(x::B)):=by
      rw [List.append_assoc]
      refine cv.refl.app (cv.swap (xs:=B) (ys:=[x]) fun b hb y hy e=>?_)
      rw [List.mem_singleton] at hy
      subst hy
      have:=hB b hb
      rw [e] at this
      exact hl.irr _ this
    exact (h.2.app (cv.refl (xs:=[x]))).trans h1
end
end Go.Wk
namespace Go.Wk
open Rp (sz own)
section
variable {α:Type}
def seg (l:List α) (a b:Nat):List α:=(l.take b).drop a
theorem dm {l:List α}{a b:Nat}(h:b≤l.length):(seg l a b).length=b-a:=by
  unfold seg; rw [List.length_drop,List.length_take]; omega
theorem cJ {l:List α}{a b c:Nat}(h1:a≤b) (h2:b≤c):seg l a b++seg l b c=seg l a c:=by
  apply List.ext_getElem?
  intro j
  unfold seg
  rw [List.getElem?_append]
  simp only [List.length_drop,List.length_take,List.getElem?_drop,List.getElem?_take]
  by_cases hl:b≤l.length
  · rw [show min b l.length=b by omega]
    by_cases c1:j<b-a
    · rw [if_pos c1,if_pos ω,if_pos ω]
    · rw [if_neg c1]
      rw [show b+(j-(b-a))=a+j by omega]
  · rw [show min b l.length=l.length by omega]
    by_cases c1:j<l.length-a
    · rw [if_pos c1,if_pos ω,if_pos ω]
    · rw [if_neg c1]
      rw [List.getElem?_eq_none (show l.length≤b+(j-(l.length-a)) by omega),List.getElem?_eq_none (show l.length≤a+j by omega)]
      split<;>split<;>rfl
def fh (l:List α) (x y z:Nat):List α:=l.take x++(seg l y z++(seg l x y++l.drop z))
theorem iA {l:List α}{x y z:Nat}(h1:x≤y) (h2:y≤z) (h3:z≤l.length):(fh l x y z).length=l.length:=by
  unfold fh
  rw [List.length_append,List.length_append,List.length_append,dm ω,dm ω,List.length_take,List.length_drop]; omega
end
section
variable {α:Type}[Inhabited α]
def gw (l:List α) (a b:Nat):Nat→List α
  | 0=>l
  | i+1=>((gw l a b i).set (a+i) ((gw l a b i).getD (b+i) default)).set (b+i) ((gw l a b i).getD (a+i) default)
theorem dY {l:List α}{a b:Nat}:∀ {n},(gw l a b n).length=l.length
  | 0=>rfl
  | n+1=>by rw [gw,List.length_set,List.length_set]; exact dY
theorem nI {l:List α}{a b:Nat}:∀ {n:Nat},a+n≤b→b+n≤l.length→∀ j,(gw l a b n).getD j default=l.getD (if a≤j∧j<a+n then b+(j-a) else if b≤j∧j<b+n then a+(j-b) else j) default
  | 0,_,_,j=>by rw [if_neg ω,if_neg ω]; rfl
  | n+1,h1,h2,j=>by
    have ih:=nI (l:=l) (a:=a) (b:=b) (n:=n) ω ω
    have hl:=dY (l:=l) (a:=a) (b:=b) (n:=n)
    rw [gw,eL,eL,List.length_set,hl,ih,ih,ih]
    by_cases e1:j=b+n
    · subst e1
      rw [if_pos ⟨rfl,ω⟩,if_neg ω,if_neg ω,if_neg ω,if_pos ω]
      congr 1; omega
    · rw [if_neg (fun h=>e1 h.1)]
      by_cases e2:j=a+n
      · subst e2
        rw [if_pos ⟨rfl,ω⟩,if_neg ω,if_neg ω,if_pos ω]
        congr 1; omega
      · rw [if_neg (fun h=>e2 h.1)]
        congr 1
        (repeat' split)<;>omega
theorem fb {l:List α}{a b j:Nat}(h:a+j<b):(seg l a b).getD j default=l.getD (a+j) default:=by
  unfold seg; simp only [List.getD,List.getElem?_drop,List.getElem?_take]; rw [if_pos h]
theorem ko {l:List α}{x y z:Nat}(h1:x≤y) (h2:y≤z) (h3:z≤l.length) (j:Nat):(fh l x y z).getD j default=l.getD (if j<x then j else if j<x+(z-y) then y+(j-x) else if j<z then x+(j-x-(z-y)) else j) default:=by
  have e1:=dm (l:=l) (a:=y) (b:=z) ω
  have e2:=dm (l:=l) (a:=x) (b:=y) ω
  unfold fh
  by_cases c1:j<x
  · rw [if_pos c1,kL (by rw [List.length_take]; omega)]
    simp only [List.getD,List.getElem?_take]; rw [if_pos c1]
  · rw [if_neg c1,mF (by rw [List.length_take]; omega),List.length_take,show min x l.length=x by omega]
    by_cases c2:j<x+(z-y)
    · rw [if_pos c2,kL ω,fb ω]
    · rw [if_neg c2,mF ω,e1]
      by_cases c3:j<z
      · rw [if_pos c3,kL ω,fb ω]
      · rw [if_neg c3,mF ω,e2]
        simp only [List.getD,List.getElem?_drop]
        congr 2; omega
theorem m8 {xs ys:List α}(h:xs.length=ys.length) (k:∀ j,xs.getD j default=ys.getD j default):xs=ys:=gm (d:=default) h fun j _=>k j
theorem BR {l:List α}{m i:Nat}(h1:i≤m) (h2:m+i≤l.length):gw l (m-i) m i=fh l (m-i) m (m+i):=
  m8 (by rw [dY,iA ω ω h2]) fun j=>by
    rw [nI ω h2,ko ω ω h2]
    congr 1
    split<;>(repeat' split)<;>omega
theorem AK {l:List α}{m i j:Nat}(h1:j<i) (h0:i≤m) (h2:m+j≤l.length):fh (gw l (m-i) m j) (m-i+j) m (m+j)=fh l (m-i) m (m+j):=
  m8 (by rw [iA ω ω (by rw [dY]; omega),dY,iA ω ω h2]) fun q=>by
    rw [ko ω ω (by rw [dY]; omega),nI ω h2,ko ω ω h2]
    congr 1
    (repeat' split)<;>omega
theorem yZ {l:List α}{m i j:Nat}(h1:i<j) (h0:i≤m) (h2:m+j≤l.length):fh (gw l (m-i) (m+j-i) i) (m-i) m (m+j-i)=fh l (m-i) m (m+j):=
  m8 (by rw [iA ω ω (by rw [dY]; omega),dY,iA ω ω h2]) fun q=>by
    rw [ko ω ω (by rw [dY]; omega),nI ω ω,ko ω ω h2]
    congr 1
    (repeat' split)<;>omega
end
end Go.Wk
namespace Go.Wk
open Rp (sz own)
def kLt (a b:Int × Int × Int):Prop:=a.1<b.1∨a.1=b.1∧(a.2.1<b.2.1∨a.2.1=b.2.1∧a.2.2<b.2.2)
theorem ka:LinO kLt where
  irr a h:=by unfold kLt at h; omega
  tr a b c h k:=by unfold kLt at h k ⊢; omega
  tot a b:=by
    by_cases h:kLt a b
    · exact .inl h
    · by_cases k:kLt b a
      · exact .inr (.inr k)
      · refine .inr (.inl ?_)
        obtain ⟨a1,a2,a3⟩:=a
        obtain ⟨b1,b2,b3⟩:=b
        unfold kLt at h k
        dsimp only at h k
        rw [show a1=b1 by omega,show a2=b2 by omega,show a3=b3 by omega]
def cX (r:Rec):Int × Int × Int:=(r.Seq,r.Kind,r.Group)
def cK (v:RecV):Int × Int × Int:=cX v.r
def iu (a b:Int):Int:=if a<b then -1 else if b<a then 1 else 0
def cfR (x y:Rec):Int:=if iu x.Seq y.Seq≠0 then iu x.Seq y.Seq else if iu x.Kind y.Kind≠0 then iu x.Kind y.Kind else iu x.Group y.Group
theorem ms {x y:Rec}:cfR x y<0↔kLt (cX x) (cX y):=by
  unfold cfR iu kLt cX
  dsimp only
  repeat' split
  all_goals omega
section
variable {P:Program}{n:Nat}{ops:Array Oper}{Q:Post}{L:Env}{S:World→Prop}{w w0:World}{M:Nat→Prop}{Δ F:List Rsc}{ty:TypeId}{p:String}{af:Array Edge}{g:Option (Nat × Bool)}{l:Nat}{rest:List (Nat × Bool)}
theorem ev {t:TypeId}{x y:Operand}{b off:Nat}{ad:Option Addr}{len cap:Nat}{xs:List RecV}{fp:List Nat}{u:RecV}(ho:ops.toList[l]? = some ⟨none,.store t x y,ty,p,af,g⟩) (hw:Wn ops n L ⟨none,.store t x y,ty,p,af,g⟩) (hs:∀ w,(sizeOf t).run P w = .ok 9 w)
    (H:Sep M w0 Δ F w) (i:Nat) (hi:Δ[i]? = some (Wk.mine [.slice ad len cap] xs fp)) (q:Nat) (hq:q<xs.length) (hx:evL L x=some (.pointer (some ⟨b,off+q*9,none⟩))) (had:ad=some ⟨b,off,none⟩) (hy:evL L y=some (.agg u.cs.toArray)) (ok:u.r.Ok)
    (hS:∀ w',S w→Ext (· = b) w w'→rest≠[]→S w')
    (k:∀ w' fp',Sep M w0 (Δ.set i (Wk.mine [.slice ad len cap] (xs.set q u) fp')) F w'→DL P n ops Q S rest L w') :
    DL P n ops Q S ((l,false)::rest) L w:=by
  obtain ⟨b',o',cur,T,e1,hb,hsz,hk⟩:=H.elset i hi q hq
  rw [had] at e1
  simp only [Option.some.injEq,Addr.mk.injEq,and_true] at e1
  obtain ⟨rfl,rfl⟩:=e1
  obtain ⟨fp',h⟩:=hk u.cs u ⟨rfl,rfl,ok⟩
  exact x9 ho hw rfl (iE hs hx hy rfl RecV.one hb hsz) (fun hSw hr=>hS _ hSw (Ext.refl.put (.inl rfl)) hr) (k _ fp' h)
end
end Go.Wk
namespace Go.Wk
section
variable {α:Type}
theorem pD {l:List α}{a b:Nat}(h:b≤a):seg l a b=[]:=by
  unfold seg; apply List.eq_nil_of_length_eq_zero; rw [List.length_drop,List.length_take]; omega
end
section
variable {α:Type}[Inhabited α] {l l2 ws:List α}{a b i j:Nat}
theorem fX {xs ys:List α}{a b:Nat}(h1:b≤xs.length) (h2:b≤ys.length) (h:∀ j,a≤j→j<b→xs.getD j default=ys.getD j default):seg xs a b=seg ys a b:=
  gm (d:=default) (by rw [dm h1,dm h2]) fun j hj=>by
    rw [dm h1] at hj
    rw [fb ω,fb ω]
    exact h _ ω ω
theorem jr {l:List α}{a:Nat}(h:a<l.length):seg l a (a+1)=[l.getD a default]:=by
  apply gm (d:=default)
  · rw [dm ω]; simp
  · intro j hj
    rw [dm ω] at hj
    obtain rfl:j=0:=by omega
    rw [fb ω]; rfl
theorem ga {l:List α}{a b:Nat}{x:α}(h2:b≤l.length) (h:x∈seg l a b):∃ j,a≤j∧j<b∧l.getD j default=x:=by
  obtain ⟨j,hj,e⟩:=List.getElem_of_mem h
  rw [dm h2] at hj
  refine ⟨a+j,ω,ω,?_⟩
  rw [← fb (b:=b) ω,bi (by rw [dm h2]; omega)]; exact e
theorem tt {l:List α}{a b j:Nat}(h2:b≤l.length) (h:a≤j) (h3:j<b):l.getD j default∈seg l a b:=by
  have e:=fb (l:=l) (a:=a) (b:=b) (j:=j-a) ω
  rw [show a+(j-a)=j by omega] at e
  rw [← e,bi (by rw [dm h2]; omega)]
  exact List.getElem_mem _
end
section
variable {ws l l2:List RecV}{a b i j:Nat}
def SortSeg (ws l:List RecV) (a b:Nat):Prop:=l.length=ws.length∧(∀ q,q<a∨b≤q→l.getD q default=ws.getD q default)∧Stable kLt cK (seg ws a b) (seg l a b)
def InsInv (ws l:List RecV) (a i j:Nat):Prop:=a≤j∧j≤i∧l.length=ws.length∧(∀ q,q<a∨i+1≤q→l.getD q default=ws.getD q default)∧Stable kLt cK (seg ws a i) (seg l a j++seg l (j+1) (i+1)) ∧
  l.getD j default=ws.getD i default∧∀ q,j<q→q≤i→kLt (cK (ws.getD i default)) (cK (l.getD q default))
theorem wd (h:a+1≤ws.length):SortSeg ws ws a (a+1):=
  ⟨rfl,fun _ _=>rfl,by rw [jr ω]; exact .cons σ .nil,.refl⟩
theorem sr (h:b≤a):SortSeg ws ws a b:=⟨rfl,fun _ _=>rfl,by rw [pD h]; exact .nil,.refl⟩
theorem rt (h:SortSeg ws l a i) (h1:a≤i):InsInv ws l a i i:=by
  obtain ⟨e1,e2,e3⟩:=h
  refine ⟨h1,Nat.le_refl _,e1,fun q hq=>e2 q ω,?_,e2 i ω,fun q h3 h4=>by omega⟩
  rw [pD (Nat.le_refl (i+1)),List.append_nil]; exact e3
theorem re (h:InsInv ws l a i j) (h1:a<j) (h2:i<ws.length) (hc:cfR (l.getD j default).r (l.getD (j-1) default).r<0) :
    InsInv ws ((l.set j (l.getD (j-1) default)).set (j-1) (l.getD j default)) a i (j-1):=by
  obtain ⟨e1,e2,e3,e4,e5,e6,e7⟩:=h
  have hg:∀ q,((l.set j (l.getD (j-1) default)).set (j-1) (l.getD j default)).getD q default=if q=j-1 then l.getD j default else if q=j then l.getD (j-1) default else l.getD q default:=fun q=>by
    rw [eL,eL,List.length_set]
    by_cases c1:q=j-1
    · rw [if_pos ⟨c1,ω⟩,if_pos c1]
    · rw [if_neg (fun h=>c1 h.1),if_neg c1]
      by_cases c2:q=j
      · rw [if_pos ⟨c2,ω⟩,if_pos c2]
      · rw [if_neg (fun h=>c2 h.1),if_neg c2]
  have hlen:((l.set j (l.getD (j-1) default)).set (j-1) (l.getD j default)).length=ws.length:=by rw [List.length_set,List.length_set]; exact e3
  refine ⟨ω,ω,hlen,fun q hq=>?_,?_,?_,fun q h3 h4=>?_⟩
  · rw [hg,if_neg ω,if_neg ω]; exact e4 q hq
  · have s1:seg ((l.set j (l.getD (j-1) default)).set (j-1) (l.getD j default)) a (j-1)=seg l a (j-1):=fX ω ω fun q h3 h4=>by rw [hg,if_neg ω,if_neg ω]
    have s2:seg ((l.set j (l.getD (j-1) default)).set (j-1) (l.getD j default)) (j-1+1) (i+1)=seg l (j-1) j++seg l (j+1) (i+1):=by
      rw [show j-1+1=j by omega,← cJ (b:=j+1) ω ω,jr ω]
      congr 1
      · have:=jr (l:=l) (a:=j-1) ω
        rw [show j-1+1=j by omega] at this
        rw [this,hg,if_neg ω,if_pos rfl]
      · exact fX ω ω fun q h3 h4=>by rw [hg,if_neg ω,if_neg ω]
    rw [s1,s2,← List.append_assoc,cJ ω ω]; exact e5
  · rw [hg,if_pos rfl]; exact e6
  · rw [hg,if_neg ω]
    by_cases c:q=j
    · rw [if_pos c]
      have:=(ms (x:=(l.getD j default).r) (y:=(l.getD (j-1) default).r)).1 hc
      rw [e6] at this; exact this
    · rw [if_neg c]; exact e7 q ω h4
theorem sI (h:InsInv ws l a i j) (h2:i<ws.length) (hc:j=a∨¬ cfR (l.getD j default).r (l.getD (j-1) default).r<0):SortSeg ws l a (i+1):=by
  obtain ⟨e1,e2,e3,e4,e5,e6,e7⟩:=h
  refine ⟨e3,e4,?_⟩
  have sl:seg l a (i+1)=seg l a j++l.getD j default::seg l (j+1) (i+1):=by
    rw [← cJ (b:=j) ω ω,← cJ (l:=l) (a:=j) (b:=j+1) (c:=i+1) ω ω,jr ω]; rfl
  have sw:seg ws a (i+1)=seg ws a i++[ws.getD i default]:=by rw [← cJ (b:=i) ω ω,jr ω]
  rw [sl,sw,e6]
  refine hC ka e5 (fun y hy=>?_) fun y hy=>?_
  · obtain ⟨q,h3,h4,rfl⟩:=ga ω hy
    exact e7 q ω ω
  · obtain ⟨q,h3,h4,rfl⟩:=ga ω hy
    rcases hc with hc | hc
    · omega
    · rw [ms,e6] at hc
      change ¬ kLt (cK (ws.getD i default)) (cK (l.getD (j-1) default)) at hc
      by_cases c:q=j-1
      · rw [c]; exact hc
      · have ho:Ord kLt cK (seg l a (j-1)++seg l (j-1) j):=by rw [cJ ω ω]; exact e5.1.left
        have hle:=ho.le _ (tt (l:=l) (a:=a) (b:=j-1) (j:=q) ω h3 ω) _ (tt (l:=l) (a:=j-1) (b:=j) (j:=j-1) ω ω ω)
        intro hlt
        rcases ka.tot (cK (l.getD q default)) (cK (l.getD (j-1) default)) with c1 | c1 | c1
        · exact hc (ka.tr _ _ _ hlt c1)
        · rw [c1] at hlt; exact hc hlt
        · exact hle c1
def InsO (ws l:List RecV) (a b i:Nat):Prop:=(b≤a∧l=ws)∨(a<b∧i≤b∧SortSeg ws l a i)
theorem xh (h:b≤ws.length):InsO ws ws a b (a+1):=by
  by_cases c:b≤a
  · exact .inl ⟨c,rfl⟩
  · exact .inr ⟨ω,ω,wd ω⟩
theorem zz (h:InsO ws l a b i) (h1:a<i) (h2:i<b):SortSeg ws l a i:=by
  rcases h with ⟨h,_⟩ | ⟨_,_,h⟩
  · omega
  · exact h
theorem so (h:SortSeg ws l a (i+1)) (h1:a<i) (h2:i<b):InsO ws l a b (i+1) := .inr ⟨ω,ω,h⟩
theorem Af (h:InsO ws l a b i) (h2:¬ i<b):SortSeg ws l a b:=by
  rcases h with ⟨h,e⟩ | ⟨_,h1,h⟩
  · rw [e]; exact sr h
  · rwa [show b=i by omega]
end
end Go.Wk
namespace Go.Wk
def kAt (l:List RecV) (q:Nat):Int × Int × Int:=cK (l.getD q default)
section
variable {ws l l2 l3:List RecV}{a b m i j k s r p h mid e:Nat}
theorem fg (ho:Ord kLt cK (seg ws a b)) (hb:b≤ws.length) {x y:Nat}(h1:a≤x) (h2:x<y) (h3:y<b):¬ kLt (kAt ws y) (kAt ws x):=by
  have h4:Ord kLt cK (seg ws a y++seg ws y b):=by rw [cJ ω ω]; exact ho
  exact h4.le _ (tt ω h1 h2) _ (tt hb (Nat.le_refl _) h3)
theorem Cy (hb:b≤ws.length) (hh:∀ x y,a≤x→x<y→y<b→¬ kLt (kAt ws y) (kAt ws x)):Ord kLt cK (seg ws a b):=by
  have key:∀ n,∀ a,b-a≤n→(∀ x y,a≤x→x<y→y<b→¬ kLt (kAt ws y) (kAt ws x))→Ord kLt cK (seg ws a b):=by
    intro n
    induction n with
    | zero=>intro a h1 _; rw [pD ω]; exact .nil
    | succ n ih=>
      intro a h1 h2
      by_cases c:a<b
      · rw [← cJ (b:=a+1) ω ω,jr ω]
        refine .cons (fun y hy=>?_) (ih (a+1) ω fun x y q1 q2 q3=>h2 x y ω q2 q3)
        obtain ⟨q,q1,q2,rfl⟩:=ga hb hy
        exact h2 a q (Nat.le_refl _) ω q2
      · rw [pD ω]; exact .nil
  exact key _ a (Nat.le_refl _) hh
theorem lL (ho:Ord kLt cK (seg ws a b)) (hb:b≤ws.length) {x y:Nat}(h1:a≤x) (h2:y≤b):Ord kLt cK (seg ws x y):=
  Cy ω fun p q q1 q2 q3=>fg ho hb ω q2 ω
theorem zl {x y z:Int × Int × Int}(h1:¬ kLt y x) (h2:¬ kLt z y):¬ kLt z x:=fun h3=>by
  rcases ka.tot x y with c | c | c
  · exact h2 (ka.tr _ _ _ h3 c)
  · rw [← c] at h2; exact h2 h3
  · exact h1 c
theorem nw {x y z:Int × Int × Int}(h1:kLt x y) (h2:¬ kLt z y):kLt x z:=by
  rcases ka.tot y z with c | c | c
  · exact ka.tr _ _ _ h1 c
  · rw [← c]; exact h1
  · exact absurd c h2
theorem th {x y z:Int × Int × Int}(h1:¬ kLt y x) (h2:kLt y z):kLt x z:=by
  rcases ka.tot x y with c | c | c
  · exact ka.tr _ _ _ c h2
  · rw [c]; exact h2
  · exact absurd c h1
def LoInv (ws:List RecV) (a m b i j:Nat):Prop:=m≤i∧i≤j∧j≤b∧(∀ q,m≤q→q<i→kLt (kAt ws q) (kAt ws a))∧∀ q,j≤q→q<b→¬ kLt (kAt ws q) (kAt ws a)
theorem Aa (h:m≤b):LoInv ws a m b m b:=⟨Nat.le_refl _,h,Nat.le_refl _,fun q h1 h2=>by omega,fun q h1 h2=>by omega⟩
theorem CC (hI:LoInv ws a m b i j) (hb:b≤ws.length) (ho:Ord kLt cK (seg ws m b)) (h1:i≤h) (h2:h<j) (hc:cfR (ws.getD h default).r (ws.getD a default).r<0):LoInv ws a m b (h+1) j:=by
  obtain ⟨e1,e2,e3,e4,e5⟩:=hI
  have hc':kLt (kAt ws h) (kAt ws a):=ms.1 hc
  refine ⟨ω,ω,e3,fun q q1 q2=>?_,e5⟩
  by_cases c:q=h
  · rw [c]; exact hc'
  · exact th (fg ho hb q1 ω ω) hc'
theorem Dt (hI:LoInv ws a m b i j) (hb:b≤ws.length) (ho:Ord kLt cK (seg ws m b)) (h1:i≤h) (h2:h<j) (hc:¬ cfR (ws.getD h default).r (ws.getD a default).r<0):LoInv ws a m b i h:=by
  obtain ⟨e1,e2,e3,e4,e5⟩:=hI
  have hc':¬ kLt (kAt ws h) (kAt ws a):=fun x=>hc (ms.2 x)
  refine ⟨e1,h1,ω,e4,fun q q1 q2=>?_⟩
  by_cases c:q=h
  · rw [c]; exact hc'
  · exact zl hc' (fg ho hb ω ω q2)
def UpInv (ws l:List RecV) (a k:Nat):Prop:=a≤k∧k<ws.length∧l.length=ws.length∧(∀ q,q<a∨k<q→l.getD q default=ws.getD q default)∧(∀ q,a≤q→q<k→l.getD q default=ws.getD (q+1) default)∧l.getD k default=ws.getD a default
theorem Ac (h:a<ws.length):UpInv ws ws a a:=⟨Nat.le_refl _,h,rfl,fun _ _=>rfl,fun q h1 h2=>by omega,rfl⟩
theorem xX (hI:UpInv ws l a k) (hk:k+1<ws.length):UpInv ws ((l.set k (l.getD (k+1) default)).set (k+1) (l.getD k default)) a (k+1):=by
  obtain ⟨e1,e2,e3,e4,e5,e6⟩:=hI
  have hg:∀ q,((l.set k (l.getD (k+1) default)).set (k+1) (l.getD k default)).getD q default=if q=k+1 then l.getD k default else if q=k then l.getD (k+1) default else l.getD q default:=fun q=>by
    rw [eL,eL,List.length_set]
    by_cases c1:q=k+1
    · rw [if_pos ⟨c1,ω⟩,if_pos c1]
    · rw [if_neg (fun h=>c1 h.1),if_neg c1]
      by_cases c2:q=k
      · rw [if_pos ⟨c2,ω⟩,if_pos c2]
      · rw [if_neg (fun h=>c2 h.1),if_neg c2]
  refine ⟨ω,hk,by rw [List.length_set,List.length_set]; exact e3,fun q hq=>?_,fun q q1 q2=>?_,by rw [hg,if_pos rfl]; exact e6⟩
  · rw [hg,if_neg ω,if_neg ω]; exact e4 q ω
  · rw [hg,if_neg ω]
    by_cases c:q=k
    · rw [if_pos c,c]; exact e4 _ ω
    · rw [if_neg c]; exact e5 q q1 ω
theorem CM (hI:UpInv ws l a k) (hL:LoInv ws a (a+1) b (k+1) (k+1)) (hb:b≤ws.length) (ho:Ord kLt cK (seg ws (a+1) b)):SortSeg ws l a b:=by
  obtain ⟨e1,e2,e3,e4,e5,e6⟩:=hI
  obtain ⟨f1,f2,f3,f4,f5⟩:=hL
  have s1:seg l a k=seg ws (a+1) (k+1):=gm (d:=default) (by rw [dm ω,dm ω]; omega) fun q hq=>by
    rw [dm ω] at hq
    rw [fb ω,fb ω,e5 _ ω ω]
    congr 1; omega
  have s2:seg l (k+1) b=seg ws (k+1) b:=fX ω hb fun q q1 q2=>e4 q ω
  have sl:seg l a b=seg ws (a+1) (k+1)++ws.getD a default::seg ws (k+1) b:=by
    rw [← cJ (b:=k) ω ω,← cJ (l:=l) (a:=k) (b:=k+1) (c:=b) ω ω,jr ω,s1,s2,e6]; rfl
  have sw:seg ws a b=[ws.getD a default]++(seg ws (a+1) (k+1)++seg ws (k+1) b):=by
    rw [cJ ω ω,← cJ (l:=ws) (a:=a) (b:=a+1) (c:=b) ω ω,jr ω]
  refine ⟨e3,fun q hq=>e4 q ω,?_,?_⟩
  · rw [sl]
    refine (lL ho hb (Nat.le_refl _) f3).app (.cons (fun y hy=>?_) (lL ho hb ω (Nat.le_refl _))) fun x hx y hy=>?_
    · obtain ⟨q,q1,q2,rfl⟩:=ga hb hy
      exact f5 q q1 q2
    · obtain ⟨q,q1,q2,rfl⟩:=ga ω hx
      rcases List.mem_cons.1 hy with rfl | hy
      · exact fun hlt=>ka.irr _ (ka.tr _ _ _ hlt (f4 q q1 q2))
      · obtain ⟨q',q3,q4,rfl⟩:=ga hb hy
        exact fg ho hb q1 ω q4
  · rw [sl,sw]
    have:cv cK ([ws.getD a default]++seg ws (a+1) (k+1)) (seg ws (a+1) (k+1)++[ws.getD a default]):=cv.swap fun x hx y hy ee=>by
      rw [List.mem_singleton] at hx
      subst hx
      obtain ⟨q,q1,q2,rfl⟩:=ga ω hy
      have:=f4 q q1 q2
      unfold kAt at this
      rw [ee] at this
      exact ka.irr _ this
    have h2:=this.app (cv.refl (xs:=seg ws (k+1) b))
    rw [List.append_assoc,List.append_assoc] at h2
    exact h2
def HiInv (ws:List RecV) (a m i j:Nat):Prop:=a≤i∧i≤j∧j≤m∧(∀ q,a≤q→q<i→¬ kLt (kAt ws m) (kAt ws q))∧∀ q,j≤q→q<m→kLt (kAt ws m) (kAt ws q)
theorem zY (h:a≤m):HiInv ws a m a m:=⟨Nat.le_refl _,h,Nat.le_refl _,fun q h1 h2=>by omega,fun q h1 h2=>by omega⟩
theorem CK (hI:HiInv ws a m i j) (hb:m≤ws.length) (ho:Ord kLt cK (seg ws a m)) (h1:i≤h) (h2:h<j) (hc:¬ cfR (ws.getD m default).r (ws.getD h default).r<0):HiInv ws a m (h+1) j:=by
  obtain ⟨e1,e2,e3,e4,e5⟩:=hI
  have hc':¬ kLt (kAt ws m) (kAt ws h):=fun x=>hc (ms.2 x)
  refine ⟨ω,ω,e3,fun q q1 q2=>?_,e5⟩
  by_cases c:q=h
  · rw [c]; exact hc'
  · exact zl (fg ho hb q1 (show q<h by omega) ω) hc'
theorem Dd (hI:HiInv ws a m i j) (hb:m≤ws.length) (ho:Ord kLt cK (seg ws a m)) (h1:i≤h) (h2:h<j) (hc:cfR (ws.getD m default).r (ws.getD h default).r<0):HiInv ws a m i h:=by
  obtain ⟨e1,e2,e3,e4,e5⟩:=hI
  have hc':kLt (kAt ws m) (kAt ws h):=ms.1 hc
  refine ⟨e1,h1,ω,e4,fun q q1 q2=>?_⟩
  by_cases c:q=h
  · rw [c]; exact hc'
  · exact nw hc' (fg ho hb ω (show h<q by omega) q2)
def DnInv (ws l:List RecV) (a m i k:Nat):Prop:=i≤k∧InsInv ws l a m k∧∀ q,q<k→l.getD q default=ws.getD q default
theorem zJ (hH:HiInv ws a m i i) (ho:Ord kLt cK (seg ws a m)):DnInv ws ws a m i m:=
  ⟨hH.2.2.1,rt ⟨rfl,fun _ _=>rfl,ho,.refl⟩ (by have:=hH.1; have:=hH.2.2.1; omega),fun _ _=>rfl⟩
theorem xS (hI:DnInv ws l a m i k) (hH:HiInv ws a m i i) (h1:i<k) (h2:m<ws.length):DnInv ws ((l.set k (l.getD (k-1) default)).set (k-1) (l.getD k default)) a m i (k-1):=by
  obtain ⟨e1,e2,e3⟩:=hI
  have hk:k≤m:=e2.2.1
  have hlen:=e2.2.2.1
  have hai:=hH.1
  have hc:cfR (l.getD k default).r (l.getD (k-1) default).r<0:=by
    rw [ms,e2.2.2.2.2.2.1,e3 (k-1) ω]
    exact hH.2.2.2.2 (k-1) ω ω
  refine ⟨ω,re e2 ω h2 hc,fun q hq=>?_⟩
  rw [eL,eL,List.length_set,if_neg ω,if_neg ω]
  exact e3 q ω
theorem CD (hI:DnInv ws l a m i i) (hH:HiInv ws a m i i) (h2:m<ws.length):SortSeg ws l a (m+1):=by
  obtain ⟨e1,e2,e3⟩:=hI
  refine sI e2 h2 ?_
  by_cases c:i=a
  · exact .inl c
  · refine .inr fun hc=>?_
    have h3:=e2.1
    rw [ms,e2.2.2.2.2.2.1,e3 (i-1) ω] at hc
    exact hH.2.2.2.1 (i-1) ω ω hc
end
end Go.Wk
namespace Go.Wk
section
variable {ws l l2 l3:List RecV}{a b m s r p s0 r0 h e mid:Nat}
theorem jQ (h:Ord kLt cK (seg ws a b)):SortSeg ws ws a b:=⟨rfl,fun _ _=>rfl,h,.refl⟩
def MidInv (ws:List RecV) (p s0 r0 s r:Nat):Prop:=s0≤s∧s≤r∧r≤r0∧(∀ c,s0≤c→c<s→¬ kLt (kAt ws (p-c)) (kAt ws c))∧∀ c,r≤c→c<r0→kLt (kAt ws (p-c)) (kAt ws c)
theorem yg (h:s0≤r0):MidInv ws p s0 r0 s0 r0:=⟨Nat.le_refl _,h,Nat.le_refl _,fun q h1 h2=>by omega,fun q h1 h2=>by omega⟩
def MidOK (ws:List RecV) (a m b p s0 r0:Nat):Prop:=a≤s0∧r0≤m∧m+r0≤p+1∧p<b+s0∧b≤ws.length∧Ord kLt cK (seg ws a m)∧Ord kLt cK (seg ws m b)∧m≤b
theorem Bz (hI:MidInv ws p s0 r0 s r) (hk:MidOK ws a m b p s0 r0) (h1:s≤h) (h2:h<r) (hc:¬ cfR (ws.getD (p-h) default).r (ws.getD h default).r<0):MidInv ws p s0 r0 (h+1) r:=by
  obtain ⟨e1,e2,e3,e4,e5⟩:=hI
  obtain ⟨k1,k2,k3,k4,k5,k6,k7,k8⟩:=hk
  have hc':¬ kLt (kAt ws (p-h)) (kAt ws h):=fun x=>hc (ms.2 x)
  refine ⟨ω,ω,e3,fun c q1 q2=>?_,e5⟩
  by_cases cc:c=h
  · rw [cc]; exact hc'
  · exact zl (fg k6 ω ω (show c<h by omega) ω) (zl hc' (fg k7 k5 ω (show p-h<p-c by omega) ω))
theorem CN (hI:MidInv ws p s0 r0 s r) (hk:MidOK ws a m b p s0 r0) (h1:s≤h) (h2:h<r) (hc:cfR (ws.getD (p-h) default).r (ws.getD h default).r<0):MidInv ws p s0 r0 s h:=by
  obtain ⟨e1,e2,e3,e4,e5⟩:=hI
  obtain ⟨k1,k2,k3,k4,k5,k6,k7,k8⟩:=hk
  have hc':kLt (kAt ws (p-h)) (kAt ws h):=ms.1 hc
  refine ⟨e1,h1,ω,e4,fun c q1 q2=>?_⟩
  by_cases cc:c=h
  · rw [cc]; exact hc'
  · exact th (fg k7 k5 ω (show p-c<p-h by omega) ω) (nw hc' (fg k6 ω ω (show h<c by omega) ω))
def SymL (ws l:List RecV) (a s mid e b:Nat):Prop:=l.length=ws.length∧(∀ q,q<a∨b≤q→l.getD q default=ws.getD q default)∧cv cK (seg ws a b) (seg l a b) ∧
  (∀ x,a≤x→x<mid→∀ y,mid≤y→y<b→¬ kLt (kAt l y) (kAt l x))∧Ord kLt cK (seg l a s)∧Ord kLt cK (seg l s mid)∧Ord kLt cK (seg l mid e)∧Ord kLt cK (seg l e b)
theorem t7 (hI:MidInv ws p s0 r0 s s) (hk:MidOK ws a m b p s0 r0) (g1:s0=a∨p+1=b+s0) (g2:r0=m∨p+1=m+r0) (hmid:mid+m=p+1) (he:e+s=p+1):SymL ws (fh ws s m e) a s mid e b:=by
  obtain ⟨e1,e2,e3,e4,e5⟩:=hI
  obtain ⟨k1,k2,k3,k4,k5,k6,k7,k8⟩:=hk
  have hs:s≤m:=by omega
  have hme:m≤e:=by omega
  have heb:e≤b:=by omega
  have hmd:mid=s+(e-m):=by omega
  have hlen:=iA (l:=ws) hs hme ω
  have hg:∀ q,(fh ws s m e).getD q default=ws.getD (if q<s then q else if q<mid then m+(q-s) else if q<e then s+(q-mid) else q) default:=fun q=>by
    rw [ko hs hme ω]
    congr 1
    (repeat' split)<;>omega
  have kg:∀ q,kAt (fh ws s m e) q=kAt ws (if q<s then q else if q<mid then m+(q-s) else if q<e then s+(q-mid) else q):=fun q=>congrArg cK (hg q)
  have hx:∀ x,a≤x→x<s→∀ y,e≤y→y<b→¬ kLt (kAt ws y) (kAt ws x):=fun x h1 h2 y h3 h4=>by
    by_cases c:s0<s
    · have h5:=e4 (s-1) ω ω
      rw [show p-(s-1)=e by omega] at h5
      have h6:¬ kLt (kAt ws e) (kAt ws x):=by
        by_cases c2:x=s-1
        · rw [c2]; exact h5
        · exact zl (fg k6 ω h1 (show x<s-1 by omega) ω) h5
      by_cases c3:y=e
      · rw [c3]; exact h6
      · exact zl h6 (fg k7 k5 hme (show e<y by omega) h4)
    · rcases g1 with g1 | g1<;>omega
  have hy:∀ x,s≤x→x<m→∀ y,m≤y→y<e→kLt (kAt ws y) (kAt ws x):=fun x h1 h2 y h3 h4=>by
    by_cases c:s<r0
    · have h5:=e5 s (Nat.le_refl _) c
      have h6:kLt (kAt ws y) (kAt ws s):=by
        by_cases c2:y=p-s
        · rw [c2]; exact h5
        · exact th (fg k7 k5 h3 (show y<p-s by omega) ω) h5
      by_cases c3:x=s
      · rw [c3]; exact h6
      · exact nw h6 (fg k6 ω ω (show s<x by omega) h2)
    · rcases g2 with g2 | g2<;>omega
  have s1:seg (fh ws s m e) a s=seg ws a s:=fX ω ω fun q q1 q2=>by rw [hg,if_pos ω]
  have s2:seg (fh ws s m e) s mid=seg ws m e:=gm (d:=default) (by rw [dm ω,dm ω]; omega) fun q hq=>by
    rw [dm ω] at hq
    rw [fb ω,fb ω,hg,if_neg ω,if_pos ω]; congr 1; omega
  have s3:seg (fh ws s m e) mid e=seg ws s m:=gm (d:=default) (by rw [dm ω,dm ω]; omega) fun q hq=>by
    rw [dm ω] at hq
    rw [fb ω,fb ω,hg,if_neg ω,if_neg ω,if_pos ω]; congr 1; omega
  have s4:seg (fh ws s m e) e b=seg ws e b:=fX ω ω fun q q1 q2=>by rw [hg,if_neg ω,if_neg ω,if_neg ω]
  refine ⟨hlen,fun q hq=>?_,?_,fun x q1 q2 y q3 q4=>?_,?_,?_,?_,?_⟩
  · rw [hg]
    by_cases c:q<s
    · rw [if_pos c]
    · rw [if_neg c,if_neg ω,if_neg ω]
  · have t1:seg (fh ws s m e) a b=seg ws a s++((seg ws m e++seg ws s m)++seg ws e b):=by
      rw [← cJ (b:=s) ω ω,← cJ (l:=fh ws s m e) (a:=s) (b:=e) (c:=b) ω ω,← cJ (l:=fh ws s m e) (a:=s) (b:=mid) (c:=e) ω ω,s1,s2,s3,s4]
    have t2:seg ws a b=seg ws a s++((seg ws s m++seg ws m e)++seg ws e b):=by
      rw [cJ (a:=s) hs hme,cJ ω heb,cJ ω ω]
    rw [t1,t2]
    refine cv.refl.app ((cv.swap fun x hx' y hy' ee=>?_).app .refl)
    obtain ⟨q,q1,q2,rfl⟩:=ga ω hx'
    obtain ⟨q',q3,q4,rfl⟩:=ga ω hy'
    have:=hy q q1 q2 q' q3 q4
    unfold kAt at this
    rw [ee] at this
    exact ka.irr _ this
  · rw [kg,kg,if_neg (show ¬ y<s by omega),if_neg (show ¬ y<mid by omega)]
    by_cases c1:x<s
    · rw [if_pos c1]
      by_cases c2:y<e
      · rw [if_pos c2]; exact fg k6 ω q1 ω ω
      · rw [if_neg c2]; exact hx x q1 c1 y ω q4
    · rw [if_neg c1,if_pos q2]
      by_cases c2:y<e
      · rw [if_pos c2]
        exact fun hlt=>ka.irr _ (ka.tr _ _ _ hlt (hy _ ω ω _ ω ω))
      · rw [if_neg c2]; exact fg k7 k5 ω ω q4
  · rw [s1]; exact lL k6 ω (Nat.le_refl _) hs
  · rw [s2]; exact lL k7 k5 (Nat.le_refl _) heb
  · rw [s3]; exact lL k6 ω ω (Nat.le_refl _)
  · rw [s4]; exact lL k7 k5 hme (Nat.le_refl _)
theorem tO (h:s=m∨e=m) (hs:s≤m) (hm:m≤e) (he:e≤ws.length):fh ws s m e=ws:=
  m8 (iA hs hm he) fun j=>by
    rw [ko hs hm he]
    congr 1
    (repeat' split)<;>omega
theorem qD (hS:SymL ws l a s mid e b) (h1:SortSeg l l2 a mid) (h2:SortSeg l2 l3 mid b) (ha:a≤mid) (hm:mid≤b) (hb:b≤ws.length):SortSeg ws l3 a b:=by
  obtain ⟨e1,e2,e3,e4,_⟩:=hS
  obtain ⟨f1,f2,f3,f4⟩:=h1
  obtain ⟨g1,g2,g3,g4⟩:=h2
  have t1:seg l3 a mid=seg l2 a mid:=fX ω ω fun q q1 q2=>g2 q ω
  have t2:seg l2 mid b=seg l mid b:=fX ω ω fun q q1 q2=>f2 q ω
  rw [t2] at g4
  refine ⟨ω,fun q hq=>by rw [g2 q ω,f2 q ω,e2 q hq],?_,?_⟩
  · rw [← cJ (b:=mid) ha hm,t1]
    refine f3.app g3 fun x hx y hy=>?_
    obtain ⟨q,q1,q2,rfl⟩:=ga (l:=l) ω (f4.mem hx)
    obtain ⟨q',q3,q4,rfl⟩:=ga (l:=l) ω (g4.mem hy)
    exact e4 q q1 q2 q' q3 q4
  · refine e3.trans ?_
    rw [← cJ (l:=l) (b:=mid) ha hm,← cJ (l:=l3) (b:=mid) ha hm,t1]
    exact f4.app g4
end
theorem p8 {l l2:List RecV}{a mid x y:Nat}(h:SortSeg l l2 a mid) (h1:mid≤x) (h2:y≤l.length):seg l2 x y=seg l x y:=
  fX (by have:=h.1; omega) h2 fun q q1 _=>h.2.1 q ω
section
variable {P:Program}{n:Nat}{L:Env}{w:World}{d:Option Tmp}{ty:TypeId}{p:String}{af:Array Edge}{g:Option (Nat × Bool)}
theorem nc {xt yt:TypeId}{x y:Operand}{k1 k2:IntKind}{m:Nat}(hx:evL L x=some (.int k1 (m:Nat))) (hy:evL L y=some (.int k2 1)) (hk:k1 = .u64):Py P n L w ⟨d,.binOp .shr xt x y yt,ty,p,af,g⟩ (.int k1 ((m / 2:Nat):Int)):=by
  subst hk
  have h:=CE (P:=P) (n:=n) (w:=w) (d:=d) (ty:=ty) (p:=p) (af:=af) (g:=g) (xt:=xt) (yt:=yt) hx hy ω
  have e:(m:Int).fdiv (2^min (1:Int).toNat IntKind.u64.bits)=((m / 2:Nat):Int):=by
    show (m:Int).fdiv (2^1)=_
    rw [Int.fdiv_eq_ediv_of_nonneg _ ω]
    omega
  rw [e] at h
  exact h
end
end Go.Wk
namespace Go.Wk
section
variable {ws l:List RecV}{a b bs c e x y:Nat}
theorem sm {l l':List RecV}(h:SortSeg l l' a b) (hab:a≤b) (hb:b≤l.length):cv cK l l':=by
  obtain ⟨h1,h2,h3⟩:=h
  have e1:l=seg l 0 a++(seg l a b++seg l b l.length):=by
    rw [cJ hab hb,cJ (Nat.zero_le _) ω]; unfold seg; rw [List.take_length,List.drop_zero]
  have e2:l'=seg l 0 a++(seg l' a b++seg l b l.length):=by
    rw [fX ω ω (fun j _ q=>(h2 j (.inl q)).symm) (a:=0) (b:=a) (xs:=l) (ys:=l'),fX (Nat.le_refl _) ω (fun j q _=>(h2 j (.inr q)).symm) (a:=b) (b:=l.length) (xs:=l) (ys:=l')]
    rw [cJ hab ω,cJ (Nat.zero_le _) ω]; unfold seg; rw [← h1,List.take_length,List.drop_zero]
  intro k
  have:=(cv.app (cv.refl (key:=cK) (xs:=seg l 0 a)) (cv.app h3.2 (cv.refl (key:=cK) (xs:=seg l b l.length)))) k
  rw [e2]; conv=>rhs; rw [e1]
  exact this
theorem x8 {l l':List RecV}(h:SortSeg l l' a b) (hx:y≤a∨b≤x) (hy:y≤l.length):seg l' x y=seg l x y:=
  fX (by have:=h.1; omega) hy fun j q1 q2=>h.2.1 j ω
def OrdAt (l:List RecV) (bs c:Nat):Prop:=Ord kLt cK (seg l c (min (c+bs) l.length))
def Blocks (ws l:List RecV) (bs a:Nat):Prop:=l.length=ws.length∧cv cK ws l∧bs ∣ a∧a≤ws.length∧∀ c,bs ∣ c→c<a→OrdAt l bs c
def AllB (ws l:List RecV) (bs:Nat):Prop:=l.length=ws.length∧cv cK ws l∧∀ c,bs ∣ c→c<ws.length→OrdAt l bs c
theorem tc {bs c a:Nat}(h1:bs ∣ c) (h2:bs ∣ a) (h:c<a):c+bs≤a:=by
  obtain ⟨x,rfl⟩:=h1; obtain ⟨y,rfl⟩:=h2
  have:x<y:=Nat.lt_of_mul_lt_mul_left h
  calc bs*x+bs=bs*(x+1):=by rw [Nat.mul_add,Nat.mul_one]
    _≤bs*y:=Nat.mul_le_mul_left _ this
theorem Ax:Blocks ws ws bs 0:=⟨rfl,.refl,Nat.dvd_zero _,Nat.zero_le _,fun c _ h=>by omega⟩
theorem tB {l l':List RecV}(hs:SortSeg l l' a b) (hc:c+bs≤a∨b≤c) (h:OrdAt l bs c):OrdAt l' bs c:=by
  unfold OrdAt at h ⊢
  rw [hs.1,x8 hs ω ω]; exact h
theorem xq {l l':List RecV}(hI:Blocks ws l bs a) (h0:0<bs) (h:a+bs≤ws.length) (hs:SortSeg l l' a (a+bs)):Blocks ws l' bs (a+bs):=by
  obtain ⟨h1,h2,h3,h4,h5⟩:=hI
  have e:=hs.1
  refine ⟨ω,h2.trans (sm hs ω ω),Nat.dvd_add h3 (Nat.dvd_refl _),h,fun c q1 q2=>?_⟩
  by_cases hc:c<a
  · exact tB hs (.inl (tc q1 h3 hc)) (h5 c q1 hc)
  · have:c=a:=by
      by_cases hca:c=a
      · exact hca
      · have:=tc h3 q1 ω; omega
    subst this
    unfold OrdAt; rw [show min (c+bs) l'.length=c+bs by omega]; exact hs.2.2.1
theorem xY {l l':List RecV}(hI:Blocks ws l bs a) (h:ws.length<a+bs) (hs:SortSeg l l' a ws.length):AllB ws l' bs:=by
  obtain ⟨h1,h2,h3,h4,h5⟩:=hI
  have e:=hs.1
  refine ⟨ω,h2.trans (sm hs ω ω),fun c q1 q2=>?_⟩
  by_cases hc:c<a
  · exact tB hs (.inl (tc q1 h3 hc)) (h5 c q1 hc)
  · have:c=a:=by
      by_cases hca:c=a
      · exact hca
      · have:=tc h3 q1 ω; omega
    subst this
    unfold OrdAt; rw [show min (c+bs) l'.length=ws.length by omega]; exact hs.2.2.1
def TwoB (ws l:List RecV) (bs a:Nat):Prop:=Blocks ws l (2*bs) a∧∀ c,bs ∣ c→a≤c→c<ws.length→OrdAt l bs c
theorem zc (h:AllB ws l bs):TwoB ws l bs 0:=⟨⟨h.1,h.2.1,Nat.dvd_zero _,Nat.zero_le _,fun c _ q=>by omega⟩,fun c q _=>h.2.2 c q⟩
theorem qx {bs c:Nat}(h:2*bs ∣ c):bs ∣ c:=Nat.dvd_trans (Nat.dvd_mul_left _ _) h
theorem Ck (h:TwoB ws l bs a) (h1:a+bs≤ws.length) (h0:0<bs):Ord kLt cK (seg l a (a+bs)):=by
  have:=h.2 a (qx h.1.2.2.1) (Nat.le_refl _) ω
  unfold OrdAt at this
  rwa [show min (a+bs) l.length=a+bs by have:=h.1.1; omega] at this
theorem Ci (h:TwoB ws l bs a) (h1:a+bs<ws.length) (he:e=min (a+bs+bs) ws.length):Ord kLt cK (seg l (a+bs) e):=by
  have:=h.2 (a+bs) (Nat.dvd_add (qx h.1.2.2.1) (Nat.dvd_refl _)) ω h1
  unfold OrdAt at this
  rw [h.1.1] at this
  rw [he]; exact this
theorem z7 {l l':List RecV}(hI:TwoB ws l bs a) (h0:0<bs) (h:a+2*bs≤ws.length) (hs:SortSeg l l' a (a+2*bs)):TwoB ws l' bs (a+2*bs):=
  ⟨xq hI.1 ω h hs,fun c q1 q2 q3=>tB hs (.inr q2) (hI.2 c q1 ω q3)⟩
theorem uQ {l l':List RecV}(hI:TwoB ws l bs a) (h:ws.length<a+2*bs) (hs:SortSeg l l' a ws.length):AllB ws l' (2*bs):=xY hI.1 h hs
theorem zy (hI:TwoB ws l bs a) (h0:0<bs) (h:ws.length≤a+bs):AllB ws l (2*bs):=by
  have e:=hI.1.1
  refine uQ hI ω ?_
  by_cases ha:a<ws.length
  · have:=hI.2 a (qx hI.1.2.2.1) (Nat.le_refl _) ha
    unfold OrdAt at this
    rw [show min (a+bs) l.length=ws.length by omega] at this
    exact jQ this
  · exact sr ω
theorem B2 (h:AllB ws l bs) (h1:ws.length≤bs) (h0:0<ws.length):SortSeg ws l 0 ws.length:=by
  have:=h.2.2 0 (Nat.dvd_zero _) h0
  unfold OrdAt at this
  rw [show min (0+bs) l.length=ws.length by have:=h.1; omega] at this
  refine ⟨h.1,fun q hq=>?_,this,?_⟩
  · have h':=h.1
    rw [List.getD_eq_getElem?_getD,List.getD_eq_getElem?_getD,List.getElem?_eq_none ω,List.getElem?_eq_none ω]
  · have e:∀ (x:List RecV),x.length=ws.length→seg x 0 ws.length=x:=fun x hx=>by unfold seg; rw [← hx,List.take_length,List.drop_zero]
    rw [e l h.1,e ws rfl]; exact h.2.1
theorem zR (h:SortSeg ws l 0 ws.length):Stable kLt cK ws l:=by
  have e:∀ (x:List RecV),x.length=ws.length→seg x 0 ws.length=x:=fun x hx=>by unfold seg; rw [← hx,List.take_length,List.drop_zero]
  have:=h.2.2; rw [e l h.1,e ws rfl] at this; exact this
end
end Go.Wk
namespace Go.Wk
open Rp (sz own)
def RdV (w:World) (ft:List Nat) (vs:List RecV):Prop:=∀ v∈vs,∃ f,own false w v.cs v.r f∧∀ b∈f,b∈ft
section
variable {w w':World}{ft f:List Nat}{vs us:List RecV}
theorem RdV.to (h:RdV w ft vs) (e:Ext No w w'):RdV w' ft vs:=fun v hv=>by
  obtain ⟨f,h1,h2⟩:=h v hv
  exact ⟨f,Rp.st h1 fun b hb=>e.block b (Rp.lt h1 b hb) id,h2⟩
theorem RdV.sub (h:RdV w ft vs) (hs:∀ v∈us,v∈vs):RdV w ft us:=fun v hv=>h v (hs v hv)
theorem RdV.nil:RdV w ft []:=fun v hv=>by simp at hv
theorem RdV.app (h:RdV w ft vs) (k:RdV w ft us):RdV w ft (vs++us):=fun v hv=>by
  rcases List.mem_append.1 hv with hv | hv
  · exact h v hv
  · exact k v hv
theorem RdV.at {k:Nat}(h:RdV w ft vs) (hk:k<vs.length):RdV w ft [vs.getD k default]:=fun v hv=>by
  rw [List.mem_singleton] at hv
  rw [hv,bi hk]
  exact h _ (List.getElem_mem _)
theorem rV:∀ {vs:List RecV}{cs f0},cj false w cs vs f0→RdV w ft vs→∃ f,cj false w cs (vs.map RecV.r) f∧∀ b∈f,b∈ft
  | [],_,_,h,_=>⟨[],rfl,σ⟩
  | v::vs,cs,f0,⟨g1,g2,e0,⟨e1,eg,ok⟩,h2⟩,hr=>by
    obtain ⟨f1,k1,k2⟩:=hr v σ
    obtain ⟨f2,r1,r2⟩:=rV h2 (hr.sub fun x hx=>by simp [hx])
    refine ⟨f1++f2,⟨f1,f2,rfl,?_,r1⟩,fun b hb=>?_⟩
    · rw [show cs.take (sz Rec)=v.cs from e1]; exact k1
    · rcases List.mem_append.1 hb with hb | hb
      · exact k2 b hb
      · exact r2 b hb
theorem ux {s:Bool}{ad n cap} {f0} (h:own s w [.slice ad n cap] vs f0) (hr:RdV w ft vs):∃ f,own false w [.slice ad n cap] (vs.map RecV.r) f∧∀ b∈f,b∈f0∨b∈ft:=by
  have el:(vs.map RecV.r).length=vs.length:=List.length_map _
  rcases aq h with ⟨hf,A,C,e,rfl,rfl⟩ | ⟨e,rfl,rfl⟩ | ⟨b,o,cap',cur,T,fr,fs,h1,h2,h3,h4,h5,h6,h7,h8⟩
  · exact ⟨[],.inl ⟨rfl,A,C,e,rfl,rfl⟩,σ⟩
  · exact ⟨[],.inr (.inl ⟨e,rfl,rfl⟩),σ⟩
  · obtain ⟨f1,k1,k2⟩:=rV h8 hr
    refine ⟨b::f1,.inr (.inr ⟨b,o,cap',cur,T,fr,f1,by rw [el]; exact h1,rfl,h3,h4,by rw [el]; exact h5,h6,h7,k1⟩),fun x hx=>?_⟩
    rcases List.mem_cons.1 hx with rfl | hx
    · left; rw [h2]; simp
    · exact .inr (k2 x hx)
theorem RdV.sees {v:RecV}(h:RdV w ft vs) (hv:v∈vs):v.r.Ok∧Sees w [.slice v.A6 v.r.Rows.length v.C6] v.r.Rows∧Sees w [.slice v.A7 v.r.Data.length v.C7] v.r.Data∧Sees w [.slice v.A8 v.r.Delta.length v.C8] v.r.Delta:=by
  obtain ⟨f,h1,_⟩:=h v hv
  obtain ⟨f6,f7,f8,_,ok,o6,o7,o8⟩:=pP h1
  exact ⟨ok,⟨_,o6⟩,⟨_,o7⟩,⟨_,o8⟩⟩
end
theorem BL {vs:List RecV}(h:Ord kLt cK vs):Ord kLt cX (vs.map RecV.r):=by
  induction h with
  | nil=>exact .nil
  | cons h1 h2 ih=>exact .cons (fun y hy=>by obtain ⟨v,hv,rfl⟩:=List.mem_map.1 hy; exact h1 v hv) ih
theorem zG {vs us:List RecV}(h:cv cK vs us):cv cX (vs.map RecV.r) (us.map RecV.r):=fun k=>by
  rw [List.filter_map,List.filter_map]
  exact congrArg (List.map RecV.r) (h k)
theorem vP {vs us:List RecV}(h:Stable kLt cK vs us):Stable kLt cX (vs.map RecV.r) (us.map RecV.r):=⟨BL h.1,zG h.2⟩
theorem BW {ys:List Rec}(x:Rec) (h:Ord kLt cX ys):∃ A B,ys=A++B∧(∀ y∈B,kLt (cX x) (cX y))∧∀ y∈A,¬ kLt (cX x) (cX y):=by
  induction h with
  | nil=>exact ⟨[],[],rfl,σ,σ⟩
  | cons h1 h2 ih=>
    rename_i y l
    by_cases c:kLt (cX x) (cX y)
    · refine ⟨[],y::l,rfl,fun z hz=>?_,σ⟩
      rcases List.mem_cons.1 hz with rfl | hz
      · exact c
      · exact nw c (h1 z hz)
    · obtain ⟨A,B,e,hB,hA⟩:=ih
      refine ⟨y::A,B,by rw [e]; rfl,hB,fun z hz=>?_⟩
      rcases List.mem_cons.1 hz with rfl | hz
      · exact c
      · exact hA z hz
theorem tH (xs:List Rec) (x:Rec) (h:∃ ys,Stable kLt cX xs ys):∃ ys,Stable kLt cX (xs++[x]) ys:=by
  obtain ⟨ys,hy⟩:=h
  obtain ⟨A,B,rfl,hB,hA⟩:=BW x hy.1
  exact ⟨_,hC ka hy hB hA⟩
theorem lO (xs:List Rec):∃ ys,Stable kLt cX xs ys:=by
  have:∀ (n:Nat),∃ ys,Stable kLt cX (xs.take n) ys:=fun n=>by
    induction n with
    | zero=>exact ⟨[],by simp; exact ⟨.nil,.refl⟩⟩
    | succ n ih=>
      by_cases hn:n<xs.length
      · rw [List.take_add_one,List.getElem?_eq_getElem hn]; exact tH _ _ ih
      · rw [List.take_of_length_le ω] at ih ⊢; exact ih
  have:=this xs.length
  rwa [List.take_length] at this
noncomputable def CR (xs:List Rec):List Rec:=(lO xs).choose
theorem B4 {xs ys:List Rec}(h:Stable kLt cX xs ys):ys=CR xs:=ju ka h (lO xs).choose_spec
noncomputable def ddR (out:List Rec) (r:Rec):List Rec:=if r∈out then out else out++[r]
noncomputable def allR (z:Wld) (k:Nat):List Rec:=((z.Tapes.take k).map Tape.Recs).flatten
noncomputable def dds (rs:List Rec):List Rec:=rs.foldl ddR []
noncomputable def bV (z:Wld):List Rec:=CR (dds (allR z z.Tapes.length))
noncomputable def eW (z:Wld) (k j:Nat):List Rec:=dds (allR z k++(z.Tapes.getD k default).Recs.take j)
theorem qk {z:Wld}:eW z 0 0=[]:=by simp [eW,allR,dds]
theorem eG {z:Wld}{k j:Nat}(h:j<(z.Tapes.getD k default).Recs.length):eW z k (j+1)=ddR (eW z k j) ((z.Tapes.getD k default).Recs.getD j default):=by
  unfold eW dds
  rw [List.take_add_one,List.getElem?_eq_getElem h,bi h,← List.append_assoc,List.foldl_append]
  rfl
theorem qv {z:Wld}{k:Nat}(h:k<z.Tapes.length):eW z k (z.Tapes.getD k default).Recs.length=eW z (k+1) 0:=by
  unfold eW allR
  rw [List.take_length,List.take_add_one,List.getElem?_eq_getElem h,bi h,List.take_zero,List.append_nil,List.map_append,List.flatten_append]
  simp only [Option.toList_some,List.map_cons,List.map_nil,List.flatten_cons,List.flatten_nil,List.append_nil]
theorem rr {z:Wld}{ys:List Rec}(h:Stable kLt cX (eW z z.Tapes.length 0) ys):ys=bV z:=by
  unfold bV
  rw [← B4]
  unfold eW at h
  simpa using h
theorem zI {out:List Rec}{r:Rec}(h:r∈out):ddR out r=out:=if_pos h
theorem qJ {out:List Rec}{r:Rec}(h:¬ r∈out):ddR out r=out++[r]:=if_neg h
theorem eU {xs ys:List Rec}(h:Stable kLt cX xs ys) (r:Rec):r∈ys↔r∈xs:=⟨fun q=>h.2.mem q,fun q=>h.2.symm.mem q⟩
theorem yr {z:Wld}:∀ {k j:Nat},(eW z k j).length≤(allR z k).length+j:=by
  intro k j
  have key:∀ (rs out:List Rec),(rs.foldl ddR out).length≤out.length+rs.length:=by
    intro rs
    induction rs with
    | nil=>intro out; simp
    | cons r rs ih=>
      intro out
      have:=ih (ddR out r)
      have h2:(ddR out r).length≤out.length+1:=by unfold ddR; split<;>simp
      simp only [List.foldl_cons,List.length_cons]
      omega
  have:=key (allR z k++(z.Tapes.getD k default).Recs.take j) []
  unfold eW dds
  simp only [List.length_nil,List.length_append,List.length_take] at this
  omega
def orI:List Int→Int
  | []=>0
  | x::xs=>if x=0 then orI xs else x
theorem zt:∀ {xs:List Int}{k:Nat},k<xs.length→(∀ i,i<k→xs.getD i 0=0)→xs.getD k 0≠0→orI xs=xs.getD k 0
  | [],k,h,_,_=>by simp at h
  | x::xs,0,_,_,h2=>if_neg h2
  | x::xs,k+1,h,h1,h2=>by
    have h0:x=0:=h1 0 ω
    show (if x=0 then orI xs else x)=_
    rw [if_pos h0,zt (k:=k) (by simpa using h) (fun i hi=>h1 (i+1) ω) h2]
    rfl
theorem Ch:∀ {xs:List Int},(∀ i,i<xs.length→xs.getD i 0=0)→orI xs=0
  | [],_=>rfl
  | x::xs,h=>by
    have h0:x=0:=h 0 σ
    show (if x=0 then orI xs else x)=_
    rw [if_pos h0]
    exact Ch fun i hi=>h (i+1) (by simpa using hi)
theorem Db {x y:Rec}:orI [iu x.Seq y.Seq,iu x.Kind y.Kind,iu x.Group y.Group]=cfR x y:=by
  unfold cfR orI orI orI orI
  by_cases a:iu x.Seq y.Seq=0<;>by_cases b:iu x.Kind y.Kind=0<;>by_cases c:iu x.Group y.Group=0<;>simp [a,b,c]
end Go.Wk
namespace Go.Wk
open Rp (sz own)
def ks (p:Rec→Bool) (rs:List Rec):Nat→Int
  | 0 => -1
  | k+1=>if p (rs.getD k default)=true then (k:Int) else ks p rs k
def x5 (p:Rec→Bool) (rs:List Rec):Int:=ks p rs rs.length
section
variable {p:Rec→Bool}{rs:List Rec}{k:Nat}
theorem qo (h:p (rs.getD k default)=true):ks p rs (k+1)=k:=if_pos h
theorem rD (h:p (rs.getD k default)=false):ks p rs (k+1)=ks p rs k:=if_neg (by rw [h]; simp)
theorem rR (h:p (rs.getD k default)=true):∀ {n:Nat},k<n→(∀ j,k<j→j<n→p (rs.getD j default)=false)→ks p rs n=k
  | 0,h1,_=>by omega
  | n+1,h1,h2=>by
    by_cases e:n=k
    · subst e; exact qo h
    · rw [rD (h2 n ω ω)]
      exact rR h ω fun j a b=>h2 j a ω
theorem Ar (h1:k<rs.length) (h:p (rs.getD k default)=true) (h2:∀ j,k<j→j<rs.length→p (rs.getD j default)=false):x5 p rs=k:=rR h h1 h2
end
def spS (r x:Rec):Bool:=(decide (x.Kind=3) && decide (x.Seq=r.Seq)) || (decide (x.Kind=4) && (decide (x.Group=r.Group) && (decide (x.Row=r.Row) && decide (r.Seq<x.Seq))))
section
variable {xs:List Rec}{g row:Int}{p:Rec→Bool}
theorem m0 {k:Nat}(h:k<xs.length) (e:p (xs.getD k default)=true):xs.any p=true:=by
  rw [bi h] at e
  exact List.any_eq_true.2 ⟨_,List.getElem_mem _,e⟩
theorem ol (h:∀ i,i<xs.length→p (xs.getD i default)=false):xs.any p=false:=by
  rw [List.any_eq_false]
  intro x hx
  obtain ⟨i,hi,e⟩:=List.getElem_of_mem hx
  have:=h i hi
  rw [bi hi,e] at this
  simp [this]
end
end Go.Wk
namespace Go.Wk
open Rp (sz own)
section
variable {w w' w0:World}{ft f:List Nat}{vs us:List RecV}{M:Nat→Prop}{Δ F:List Rsc}
theorem RdV.back (h:RdV w' ft vs) (e:Ext No w w') (hl:∀ b∈ft,b<w.heap.size):RdV w ft vs:=fun v hv=>by
  obtain ⟨f,h1,h2⟩:=h v hv
  exact ⟨f,Rp.st h1 fun b hb=>(e.block b (hl b (h2 b hb)) id).symm,h2⟩
def InF {α:Type}[Rp α] (w:World) (ft:List Nat) (cs:List Value) (x:α):Prop:=∃ f,own false w cs x f∧∀ b∈f,b∈ft
theorem RdV.inAt {k:Nat}(h:RdV w ft vs) (hk:k<vs.length):InF w ft (vs.getD k default).cs (vs.getD k default).r:=h _ (by rw [bi hk]; exact List.getElem_mem _)
theorem InF.back {α:Type}[Rp α] {cs:List Value}{x:α}(h:InF w' ft cs x) (e:Ext No w w') (hl:∀ b∈ft,b<w.heap.size):InF w ft cs x:=by
  obtain ⟨f,h1,h2⟩:=h
  exact ⟨f,Rp.st h1 fun b hb=>(e.block b (hl b (h2 b hb)) id).symm,h2⟩
theorem InF.rdv {v:RecV}(h:InF w ft v.cs v.r):RdV w ft [v]:=fun u hu=>by
  rw [List.mem_singleton] at hu; subst hu; exact h
theorem Mut.none {α:Type}[Rp α] {cs:List Value}{x:α}{fp:List Nat}(e:Ext No w w') (h:own true w cs x fp) (hn:fp.Nodup):Mut w w' fp cs x:=
  ⟨e.no,fp,Rp.st h fun b hb=>e.block b (Rp.lt h b hb) id,hn,fun b hb => .inl hb⟩
theorem wP:Stable kLt cK ([]:List RecV) []:=⟨.nil,.refl⟩
theorem RdV.stable (h:RdV w ft vs) (hs:Stable kLt cK vs us):RdV w ft us:=h.sub fun v hv=>hs.2.mem hv
theorem RdV.snoc {v:RecV}(h:RdV w ft vs) (hv:InF w ft v.cs v.r):RdV w ft (vs++[v]):=h.app hv.rdv
theorem RdV.list {s:Bool}{ad n cap} {f0:List Nat}(hr:RdV w ft vs) (h:own s w [.slice ad n cap] vs f0):Sees w [.slice ad n cap] (vs.map RecV.r):=by
  obtain ⟨f,h1,_⟩:=ux h hr
  exact ⟨f,h1⟩
end
theorem tm {a b:Int} : -1≤iu a b∧iu a b≤1:=by unfold iu; split<;>(try split)<;>omega
instance (a b:Int × Int × Int):Decidable (kLt a b):=by unfold kLt; infer_instance
instance:Flat RecV where
  flat h:=⟨h.2.1,fun _ _=>⟨h.1,rfl,h.2.2⟩⟩
theorem Cv {xs:List Rec}{r:Rec}:xs.any (fun x=>decide (x=r))=decide (r∈xs):=by
  rw [Bool.eq_iff_iff]; simp
theorem Bx {xs:List Rec}{r:Rec}{k:Nat}(h:k<xs.length) (e:xs.getD k default=r):true=decide (r∈xs):=by
  rw [eq_comm,decide_eq_true_eq,← e,bi h]; exact List.getElem_mem _
theorem CF {xs:List Rec}{r:Rec}(h:∀ i,i<xs.length→decide (xs.getD i default=r)=false):false=decide (r∈xs):=by
  rw [eq_comm,decide_eq_false_iff_not]
  intro hm
  obtain ⟨i,hi,e⟩:=List.getElem_of_mem hm
  have:=h i hi
  rw [decide_eq_false_iff_not,bi hi] at this
  exact this e
theorem dq {vs:List RecV}{rs:List Rec}(e:vs.map RecV.r=rs) {k:Nat}(hk:k<vs.length):(vs.getD k default).r=rs.getD k default:=by
  rw [← e,bi hk]; simp [List.getD,hk]
theorem Bn {z:Wld}{vs us:List RecV}(hm:vs.map RecV.r=eW z z.Tapes.length 0) (hs:Stable kLt cK vs us):us.map RecV.r=bV z:=
  rr (by rw [← hm]; exact vP hs)
theorem tL {z:Wld}{B:Nat}(h:∀ k,(z.Tapes.getD k default).Recs.length≤B):∀ k,k≤z.Tapes.length→(allR z k).length≤k*B
  | 0,_=>by simp [allR]
  | k+1,hk=>by
    have ih:=tL h k ω
    have h1:=h k
    unfold allR at ih ⊢
    rw [List.take_add_one,List.getElem?_eq_getElem ω,List.map_append,List.flatten_append,List.length_append]
    simp only [Option.toList_some,List.map_cons,List.map_nil,List.flatten_cons,List.flatten_nil,List.append_nil]
    rw [← bi ω (d:=default)]
    rw [Nat.add_mul]; omega
theorem nT {z:Wld}(hT:z.Tapes.length=2) (h:∀ k,(z.Tapes.getD k default).Recs.length≤200000) {k j:Nat}(hk:k≤2) (hj:j≤200000):(eW z k j).length≤600000:=by
  have h1:=yr (z:=z) (k:=k) (j:=j)
  have h2:=tL h k ω
  omega
theorem fE {z:Wld}(hT:z.Tapes.length=2) (h:∀ k,(z.Tapes.getD k default).Recs.length≤200000):(bV z).length≤600000:=by
  have h1:=nT hT h (k:=2) (j:=0) ω ω
  have h2:Stable kLt cX (eW z z.Tapes.length 0) (bV z):=by
    unfold bV eW
    simp only [List.take_zero,List.append_nil]
    exact (lO _).choose_spec
  have:=h2.2.len
  rw [hT] at this
  omega
theorem iz {z:Wld}(h:bF z=0):∀ k,(z.Tapes.getD k default).Recs.length≤200000:=fun k=>by
  have hT:=(bM h).2.2.2.1
  obtain ⟨h1,h2⟩:=xr h
  by_cases e:k<2
  · have:k=0∨k=1:=by omega
    rcases this with rfl | rfl<;>omega
  · have:z.Tapes.getD k default=default:=by simp [List.getD,List.getElem?_eq_none (show z.Tapes.length≤k by omega)]
    rw [this]; exact Nat.zero_le _
end Go.Wk
namespace Go.Wk
section
variable {vs:List RecV}{r:Rec}{a:Nat}
theorem B9 {rs:List Rec}(h:Ord kLt cX rs):∀ {i q:Nat},i≤q→q<rs.length→¬ kLt (cX (rs.getD q default)) (cX (rs.getD i default)):=by
  induction h with
  | nil=>intro i q _ h; simp at h
  | cons h1 h2 ih=>
    rename_i y l
    intro i q hiq hq
    cases i with
    | zero=>
      cases q with
      | zero=>exact ka.irr _
      | succ q=>
        have hq':q<l.length:=by simpa using hq
        show ¬ kLt (cX (l.getD q default)) (cX y)
        rw [bi hq']
        exact h1 _ (List.getElem_mem _)
    | succ i=>
      cases q with
      | zero=>omega
      | succ q=>exact ih ω (by simpa using hq)
theorem CG {rs:List Rec}(ho:Ord kLt cX rs) (ha:a≤rs.length) (h:a=0∨¬ kLt (cX r) (cX (rs.getD (a-1) default))):∀ y∈rs.take a,¬ kLt (cX r) (cX y):=by
  intro y hy
  obtain ⟨i,hi,e⟩:=List.getElem_of_mem hy
  rw [List.length_take] at hi
  rw [List.getElem_take] at e
  rcases h with h | h
  · omega
  · intro hlt
    have h2:=B9 ho (i:=i) (q:=a-1) ω ω
    rw [bi (by omega:i<rs.length),e] at h2
    exact h (nw hlt h2)
theorem Cp {rs:List Rec}(hB:∀ i,a≤i→i<rs.length→kLt (cX r) (cX (rs.getD i default))):∀ y∈rs.drop a,kLt (cX r) (cX y):=by
  intro y hy
  obtain ⟨i,hi,e⟩:=List.getElem_of_mem hy
  rw [List.length_drop] at hi
  rw [List.getElem_drop] at e
  have:=hB (a+i) ω ω
  rwa [bi ω,e] at this
theorem l4 {xs rs:List Rec}(h:Stable kLt cX xs rs) (ha:a≤rs.length) (h1:a=0∨¬ kLt (cX r) (cX (rs.getD (a-1) default))) (hB:∀ i,a≤i→i<rs.length→kLt (cX r) (cX (rs.getD i default))) :
    Stable kLt cX (xs++[r]) (rs.take a++r::rs.drop a):=
  hC ka (by rw [List.take_append_drop]; exact h) (Cp hB) (CG h.1 ha h1)
theorem xN {l h:Nat}:(cut vs l h).map RecV.r=cut (vs.map RecV.r) l h:=by unfold cut; rw [List.map_take,List.map_drop]
theorem jO {v:RecV}(e:v.r=r) (ha:a≤vs.length):(cut vs 0 a++[v]++cut vs a vs.length).map RecV.r=(vs.map RecV.r).take a++r::(vs.map RecV.r).drop a:=by
  rw [List.map_append,List.map_append,xN,xN]
  unfold cut
  rw [List.drop_zero,Nat.sub_zero,List.take_of_length_le (by simp:((vs.map RecV.r).drop a).length≤vs.length-a)]
  simp [e]
theorem fC {l h:Nat}:∀ v∈cut vs l h,v∈vs:=fun v hv=>by
  unfold cut at hv
  exact List.mem_of_mem_drop (List.mem_of_mem_take hv)
end
end Go.Wk
namespace Go.Wk
open Rp (sz own)
section
variable {P:Program}{n:Nat}{ops:Array Oper}{Q:Post}{L:Env}{w w0:World}{M:Nat→Prop}{Δ F:List Rsc}{d:Tmp}{ty:TypeId}{p:String}{af:Array Edge}{g:Option (Nat × Bool)}
theorem mC {l:Nat}{rl:List (Nat × Bool)}{S:World→Prop}{t e:TypeId}{parts:Array (Nat × Operand)}{z:Value}{bytes:Nat}(xs:List Int) (ho:ops.toList[l]? = some ⟨some d,.buildSlice t xs.length parts,ty,p,af,g⟩) (hw:Wn ops n L ⟨some d,.buildSlice t xs.length parts,ty,p,af,g⟩) (hn:Nat.blt d n=true) (ht:P.underlying t=some (.slice e)) (hT:Ty P e z 1 bytes)
    (hix:parts.toList.map (·.1)=List.range xs.length) (hv:fM L (parts.toList.map (·.2))=some (xs.map (Value.int .i64))) (hk:∀ x∈xs,I64ok x) (h0:0<xs.length) (hl:xs.length≤1000) (H:Sep M w0 Δ F w) (hS:∀ w',S w→Ext No w w'→S w')
    (k:∀ b w',Ext No w w'→w.heap.size≤b→Sep M w0 (Δ++[mine [.slice (some ⟨b,0,none⟩) xs.length xs.length] xs [b]]) F w'→DL P n ops Q S rl ((d,.slice (some ⟨b,0,none⟩) xs.length xs.length)::L) w') :
    DL P n ops Q S ((l,false)::rl) L w:=by
  have hparts:∀ a,Good n a L→(parts.map fun (i,x)=>(i,a.eval x)).toList=((xs.map (Value.int .i64)).zipIdx 0).map fun x=>(x.2,x.1):=fun a ha=>by
    have key:∀ (l:List (Nat × Operand)) (vs:List Value) (k:Nat),l.map (·.1)=List.range' k vs.length→fM L (l.map (·.2))=some vs→l.map (fun x=>(x.1,a.eval x.2))=(vs.zipIdx k).map fun x=>(x.2,x.1):=by
      intro l
      induction l with
      | nil=>intro vs k h1 h2; simp [fM] at h2; subst h2; rfl
      | cons x l ih=>
        intro vs k h1 h2
        simp only [List.map_cons] at h1 h2 ⊢
        unfold fM at h2
        split at h2
        · rename_i v us hv hus
          cases h2
          rw [List.length_cons,List.range'_succ] at h1
          simp only [List.cons.injEq] at h1
          rw [List.zipIdx_cons,List.map_cons,← ih us (k+1) h1.2 hus,ha.eval hv,h1.1]
        · cases h2
    rw [Array.toList_map]
    refine key parts.toList _ 0 ?_ hv
    rw [hix,List.length_map,List.range_eq_range']
  have hp:=qM (n:=n) (w:=w) (ty:=ty) (p:=p) (af:=af) (g:=g) (d:=some d) (parts:=parts) (vs:=xs.map (Value.int .i64)) (len:=xs.length) ht hT ω σ hparts (by intro v hv; simp at hv; obtain ⟨x,_,rfl⟩:=hv; rfl) h0 ω
  refine mo ho hw rfl hn hp (fun h _=>hS _ h (Ext.refl.alloc _)) (k _ _ (Ext.refl.alloc _) (Nat.le_refl _) ?_)
  refine H.add (Ext.refl.alloc _) (r:=Wk.mine [.slice (some ⟨w.heap.size,0,none⟩) xs.length xs.length] xs [w.heap.size]) (.inr (.inr ⟨w.heap.size,0,_,_,e,(0,0),[],rfl,rfl,heap_alloc_new w _,fun _=>rfl,Nat.le_refl _,by unfold maxLen; omega,?_,?_⟩)) (by simp [Wk.mine]) (by simp [Wk.mine])
  · have:∀ l:List Int,(l.map (Value.int .i64)).flatMap (fun v=>v.cells.toList)=l.map (Value.int .i64):=by
      intro l; induction l with
      | nil=>rfl
      | cons x l ih=>simp only [List.map_cons,List.flatMap_cons,ih]; rfl
    simp [this,sz]
  · have:∀ l:List Int,(l.map (Value.int .i64)).flatMap (fun v=>v.cells.toList)=l.map (Value.int .i64):=by
      intro l; induction l with
      | nil=>rfl
      | cons x l ih=>simp only [List.map_cons,List.flatMap_cons,ih]; rfl
    simp only [this,List.drop_zero]
    exact qF hk
end
end Go.Wk
namespace Go.Wk
open Rp (sz own)
section
variable {z:Wld}{r:Rec}{g row:Int}
theorem Ba {r:Rec}:∀ {rs out:List Rec},r∈rs.foldl ddR out→r∈out∨r∈rs
  | [],_,h => .inl h
  | x::rs,out,h=>by
    rcases Ba (rs:=rs) h with h | h
    · unfold ddR at h
      split at h
      · exact .inl h
      · rcases List.mem_append.1 h with h | h
        · exact .inl h
        · exact .inr (by rw [List.mem_singleton] at h; simp [h])
    · exact .inr (List.mem_cons_of_mem _ h)
theorem iY:Stable kLt cX (dds (allR z z.Tapes.length)) (bV z):=(lO _).choose_spec
theorem sG (h:r∈bV z):∃ k j,k<z.Tapes.length∧j<(z.Tapes.getD k default).Recs.length∧(z.Tapes.getD k default).Recs.getD j default=r:=by
  have h1:r∈dds (allR z z.Tapes.length):=iY.2.mem h
  rcases Ba h1 with h2 | h2
  · cases h2
  · unfold allR at h2
    rw [List.take_length] at h2
    obtain ⟨l,hl,hr⟩:=List.mem_flatten.1 h2
    obtain ⟨t,ht,rfl⟩:=List.mem_map.1 hl
    obtain ⟨k,hk,e⟩:=List.getElem_of_mem ht
    obtain ⟨j,hj,e2⟩:=List.getElem_of_mem hr
    have e3:z.Tapes.getD k default=t:=by rw [bi hk]; exact e
    exact ⟨k,j,hk,by rw [e3]; exact hj,by rw [e3,bi hj]; exact e2⟩
theorem sU (h:r∈bV z):jI r≤fY z:=by
  obtain ⟨k,j,hk,hj,e⟩:=sG h
  have h1:=(fB (f:=ir) (Nat.le_refl _) k hk).1
  have h2:=(fB (f:=jI) (Nat.le_refl _) j hj).1
  rw [e] at h2
  have h3:ir (z.Tapes.getD k default)=szL jI (z.Tapes.getD k default).Recs:=rfl
  unfold fY
  omega
theorem nz {w0 w:World}{c:Int}(h:I64ok c):Res w0 w [.int .i64 c,.slice none 0 0] (⟨c,[]⟩:RecsResult):=
  ⟨_,RecsResult.own_mk (x:=⟨c,[]⟩) h (.inr (.inl ⟨rfl,rfl,rfl⟩)),List.nodup_nil,σ⟩
end
end Go.Wk
namespace Go.Wk
open Rp (sz own)
section
variable {z:Wld}{r:Rec}{g row:Int}{k j:Nat}
theorem un (h:bF z=0) (hr:r∈bV z):fL z.Shape r=0:=by
  obtain ⟨k,j,hk,hj,e⟩:=sG hr
  have ht:=(bM h).2.2.2.2
  rcases Decidable.em (fL z.Shape r=0) with c | c
  · exact c
  · exfalso
    have h0:dv z.Shape z.Tapes z.Tapes.length=0:=by
      unfold dT at ht
      split at ht
      · cases ht
      · split at ht
        · next c2=>exact absurd ht c2
        · omega
    have hk0:dv z.Shape z.Tapes (k+1)=0:=by
      rcases Decidable.em (dv z.Shape z.Tapes (k+1)=0) with c2 | c2
      · exact c2
      · rw [iS c2 _ hk] at h0; exact absurd h0 c2
    have hk1:dv z.Shape z.Tapes k=0:=by
      rcases Decidable.em (dv z.Shape z.Tapes k=0) with c2 | c2
      · exact c2
      · rw [iS c2 _ (Nat.le_succ k)] at hk0; exact absurd hk0 c2
    rw [eQ hk1] at hk0
    have hj0:dJ z.Shape (z.Tapes.getD k default).Recs (j+1)=0:=by
      rcases Decidable.em (dJ z.Shape (z.Tapes.getD k default).Recs (j+1)=0) with c2 | c2
      · exact c2
      · rw [iW c2 _ hj] at hk0; exact absurd hk0 c2
    have hj1:dJ z.Shape (z.Tapes.getD k default).Recs j=0:=by
      rcases Decidable.em (dJ z.Shape (z.Tapes.getD k default).Recs j=0) with c2 | c2
      · exact c2
      · rw [iW c2 _ (Nat.le_succ j)] at hj0; exact absurd hj0 c2
    rw [fG hj1,e] at hj0
    exact c hj0
end
end Go.Wk

namespace Go.Wk
open Rp (sz own)
section
variable {α:Type}[Inhabited α] {f:α→Nat}{xs:List α}{y:α}{i:Nat}
theorem z2 (h:i<xs.length):mkL f (xs.set i y)+f (xs.getD i default)=mkL f xs+f y:=by
  unfold mkL
  rw [List.length_set]
  have e1:gu (fun j=>f ((xs.set i y).getD j default)+(if j=i then f (xs.getD i default) else 0)) xs.length=gu (fun j=>f (xs.getD j default)+(if j=i then f y else 0)) xs.length:=
    mA fun j hj=>by
      rw [eL]
      by_cases e:j=i
      · subst e; rw [if_pos ⟨rfl,h⟩,if_pos rfl,if_pos rfl]; omega
      · rw [if_neg (fun q=>e q.1),if_neg e,if_neg e]
  rw [oo,oo,qX,qX,if_pos h,if_pos h] at e1
  exact e1
end
end Go.Wk

namespace Go.Wk
open Rp (sz own)
theorem CA {w:World}{x:Bool}:own true w [.bool x] x []:=⟨rfl,rfl⟩
theorem ss {s w ad n cap} {xs:List Bool}{fp} (h:own s w [.slice ad n cap] xs fp) (k:Nat) (hk:k<xs.length) :
    ∃ b o,ad=some ⟨b,o,none⟩∧w.cell? ⟨b,o+k*1,none⟩=some (.bool (xs.getD k false)):=by
  obtain ⟨b,o,cs,f,h1,h2,h3,_⟩:=d9 h k hk
  rw [show xs.getD k false=xs[k] from by simp [List.getD,hk]]
  exact ⟨b,o,h1,h2 0 (.bool xs[k]) (by rw [h3.1]; rfl)⟩
theorem bset {bs:List Bool}{f:Nat→Bool}{k:Nat}(hk:k<bs.length) (h:∀ i,i<k→bs.getD i false=f i):∀ i,i<k+1→(bs.set k (f k)).getD i false=f i:=by
  intro i hi
  rw [eL]
  by_cases e:i=k
  · rw [if_pos ⟨e,hk⟩,e]
  · rw [if_neg (fun q=>e q.1)]; exact h i ω
def itP (nm:ByteArray) (x:Rec):Bool:=decide (x.Kind=1) && (x.Name.toList == nm.toList)
def mvP (q:Int) (x:Rec):Bool:=decide (x.Kind=2) && decide (x.Seq=q)
def dnP (q g:Int) (x:Rec):Bool:=decide (x.Kind=3) && (decide (x.Seq=q) && decide (x.Group=g))
def tJ (s:Shape) (xs:List Rec) (q:Int):Nat→Bool
  | 0=>true
  | k+1=>tJ s xs q k && xs.any (dnP q (s.Groups+k))
def setl (s:Shape) (xs:List Rec) (r:Rec):Bool:=tJ s xs r.Seq s.Column.toNat && xs.any (dnP r.Seq r.Group)
def spent (s:Shape) (xs:List Rec) (a:Nat):Bool:=
  if (xs.getD a default).Kind=1 then (xs.drop (a+1)).any (itP (xs.getD a default).Name)
  else if (xs.getD a default).Kind=2 then setl s xs (xs.getD a default)
  else if (xs.getD a default).Kind=3 then !xs.any (mvP (xs.getD a default).Seq)
  else xs.any (spS (xs.getD a default))
def kQ (xs:List Rec):Int:=(xs.getD (xs.length-1) default).Seq
def ji (s:Shape) (xs:List Rec) (r:Rec):Nat→Bool
  | 0=>decide (r.Seq<kQ xs)
  | j+1=>ji s xs r j && (spent s xs j || (!decide ((xs.getD j default).Kind=r.Kind) || !decide ((xs.getD j default).Seq=r.Seq)))
def ja (s:Shape) (xs:List Rec):Nat→List Rec
  | 0=>[]
  | k+1=>if ji s xs (xs.getD k default) xs.length=true then ja s xs k++[xs.getD k default] else ja s xs k
noncomputable def aY (z:Wld):List Rec:=ja z.Shape (bV z) (bV z).length
section
variable {z:Wld}{s:Shape}{r:Rec}{xs:List Rec}{a j k n:Nat}{q g:Int}
theorem ti (h:(xs.getD a default).Kind=1):spent s xs a=(xs.drop (a+1)).any (itP (xs.getD a default).Name):=if_pos h
theorem xR (h:(xs.getD a default).Kind=2):spent s xs a=setl s xs (xs.getD a default):=by rw [spent,if_neg ω,if_pos h]
theorem pv (h:(xs.getD a default).Kind=3):spent s xs a = !xs.any (mvP (xs.getD a default).Seq):=by rw [spent,if_neg ω,if_neg ω,if_pos h]
theorem sH (h:(xs.getD a default).Kind=4):spent s xs a=xs.any (spS (xs.getD a default)):=by rw [spent,if_neg ω,if_neg ω,if_neg ω]
theorem B3 (h:k<n) (h2:xs.any (dnP q (s.Groups+k))=false):tJ s xs q n=false:=by
  induction n with
  | zero=>omega
  | succ n ih=>
    rw [tJ]
    by_cases e:k=n
    · subst e; rw [h2,Bool.and_false]
    · rw [ih ω,Bool.false_and]
theorem Bd (h:∀ i,i<n→xs.any (dnP q (s.Groups+i))=true):tJ s xs q n=true:=by
  induction n with
  | zero=>rfl
  | succ n ih=>rw [tJ,ih fun i hi=>h i ω,h n ω]; rfl
theorem zN {α:Type}{xs:List α}{l:Nat}:cut xs l xs.length=xs.drop l:=by unfold cut; exact List.take_of_length_le (by rw [List.length_drop]; omega)
theorem Ai (h:∀ i,i<s.Column.toNat→xs.any (dnP r.Seq (s.Groups+i))=true):setl s xs r=xs.any (dnP r.Seq r.Group):=by unfold setl; rw [Bd h,Bool.true_and]
theorem Bu (hk:k<s.Column.toNat) (h:xs.any (dnP r.Seq (s.Groups+k))=false):setl s xs r=false:=by unfold setl; rw [B3 hk h,Bool.false_and]
theorem zn (h:ji s xs r j=false) (hj:j≤n):ji s xs r n=false:=by
  induction n with
  | zero=>rw [show j=0 by omega] at h; exact h
  | succ n ih=>
    by_cases e:j=n+1
    · rw [← e]; exact h
    · rw [ji,ih ω,Bool.false_and]
theorem zA {p:Rec→Bool}(h:a<xs.length) (hp:p (xs.getD a default)=true):(xs.drop (a+1)).any p = !decide (x5 p xs=(a:Int)):=by
  by_cases e:(xs.drop (a+1)).any p=true
  · rw [e]
    obtain ⟨x,hx,hpx⟩:=List.any_eq_true.1 e
    obtain ⟨i,hi,ei⟩:=List.getElem_of_mem hx
    rw [List.length_drop] at hi
    rw [List.getElem_drop] at ei
    rw [decide_eq_false]
    · rfl
    intro e2
    have h3:p (xs.getD (a+1+i) default)=true:=by rw [bi ω,ei]; exact hpx
    have h4:∀ {n},a+1+i<n→(a+1+i:Int)≤ks p xs n:=by
      intro n
      induction n with
      | zero=>intro q; omega
      | succ n ih=>
        intro q
        rw [ks]
        split
        · omega
        · next c=>
          by_cases e5:n=a+1+i
          · subst e5; exact absurd h3 c
          · exact ih ω
    have h5:=h4 (n:=xs.length) ω
    unfold x5 at e2
    omega
  · rw [Bool.not_eq_true] at e
    rw [e,decide_eq_true]
    · rfl
    refine Ar h hp fun i h1 h2=>?_
    rw [List.any_eq_false] at e
    have:=e (xs.getD i default) (by
      rw [bi h2]
      have:xs[i]=(xs.drop (a+1))[i-(a+1)]'(by rw [List.length_drop]; omega):=by rw [List.getElem_drop]; congr 1; omega
      rw [this]; exact List.getElem_mem _)
    simpa using this
theorem ug {vs:List RecV}(h:vs.map RecV.r=xs) (h0:0<vs.length):(vs.getD (vs.length-1) default).r.Seq=kQ xs:=by
  unfold kQ
  have e:xs.length=vs.length:=by rw [← h,List.length_map]
  rw [dq h ω,e]
theorem qu:∀ {k},k≤xs.length→(ja s xs k).Sublist (xs.take k)
  | 0,_=>List.nil_sublist _
  | k+1,h=>by
    have ih:=qu (k:=k) ω
    rw [ja,← cS (d:=default) ω]
    split
    · exact ih.append (List.Sublist.refl _)
    · exact ih.trans (List.sublist_append_left _ _)
theorem ui (h:k≤xs.length):(ja s xs k).length≤k:=by
  have:=(qu (s:=s) h).length_le
  rw [List.length_take] at this; omega
theorem mT:(aY z).Sublist (bV z):=by
  have:=qu (s:=z.Shape) (xs:=bV z) (Nat.le_refl _)
  rwa [List.take_length] at this
theorem tI (h:ji s xs (xs.getD k default) xs.length=true):ja s xs (k+1)=ja s xs k++[xs.getD k default]:=if_pos h
theorem xP (h:ji s xs (xs.getD k default) xs.length=false):ja s xs (k+1)=ja s xs k:=if_neg (by rw [h]; simp)
theorem AQ (h:ji s xs (xs.getD k default) j=false) (hj:j≤xs.length):ja s xs (k+1)=ja s xs k:=xP (zn h hj)
theorem uc (h:bF z=0) (hr:r∈bV z):1≤r.Kind∧r.Kind≤4:=by
  have h1:=un h hr
  unfold fL at h1
  by_cases c:ins r.Kind 1 4=true
  · exact cq.1 c
  · exfalso; rw [if_neg c] at h1; omega
end
section
variable {z:Wld}{s:Shape}{r:Rec}{xs:List Rec}{j k:Nat}
theorem y0 (h:ji s xs r j=true) (h1:(xs.getD j default).Kind=r.Kind) (h2:(xs.getD j default).Seq=r.Seq):ji s xs r (j+1)=spent s xs j:=by
  rw [ji,h,decide_eq_true h1,decide_eq_true h2]; simp
theorem rW (h:ji s xs r j=true) (h1:¬ ((xs.getD j default).Kind=r.Kind∧(xs.getD j default).Seq=r.Seq)):ji s xs r (j+1)=true:=by
  rw [ji,h]
  by_cases c:(xs.getD j default).Kind=r.Kind
  · rw [decide_eq_false (fun c2=>h1 ⟨c,c2⟩)]; simp
  · rw [decide_eq_false c]; simp
theorem yc (hr:r∈aY z):jI r≤fY z:=sU (mT.mem hr)
end
def cV (xs:List Rec) (i:Nat):Bool:=decide (0<i) && (decide ((xs.getD i default).Kind=(xs.getD (i-1) default).Kind) && decide ((xs.getD i default).Seq=(xs.getD (i-1) default).Seq))
def qf (r x:Rec):Bool:=decide (x.Kind=r.Kind) && decide (x.Seq=r.Seq)
def gT (xs:List Rec):Nat→Nat→Wld→Bool × Wld
  | 0,_,z=>(true,z)
  | n + 1,i,z=>if cV xs i=true then gT xs n (i+1) z else
      if dP z (xs.getD i default).Kind (xs.getD i default).Seq=true then gT xs n (i+1) (er z (xs.getD i default).Kind (xs.getD i default).Seq)
      else (false,er z (xs.getD i default).Kind (xs.getD i default).Seq)
noncomputable def kU (z:Wld):Bool × Wld:=gT (aY z) (aY z).length 0 z
noncomputable def bC (z:Wld):WldResult:=if upF z=0 then ⟨if (kU z).1=true then 0 else 9,(kU z).2⟩ else ⟨upF z,noWld⟩
section
variable {z:Wld}{xs:List Rec}{i k n:Nat}{kd sq:Int}
theorem ta (h:i<xs.length):gT xs (xs.length-i) i z=if cV xs i=true then gT xs (xs.length-(i+1)) (i+1) z else
      if dP z (xs.getD i default).Kind (xs.getD i default).Seq=true then gT xs (xs.length-(i+1)) (i+1) (er z (xs.getD i default).Kind (xs.getD i default).Seq)
      else (false,er z (xs.getD i default).Kind (xs.getD i default).Seq):=by
  rw [show xs.length-i=(xs.length-(i+1))+1 by omega]; rfl
theorem tQ (h:i<xs.length) (c:cV xs i=true):gT xs (xs.length-i) i z=gT xs (xs.length-(i+1)) (i+1) z:=by rw [ta h,if_pos c]
theorem kv (h:i<xs.length) (c:cV xs i=false) (o:dP z (xs.getD i default).Kind (xs.getD i default).Seq=true):gT xs (xs.length-i) i z=gT xs (xs.length-(i+1)) (i+1) (er z (xs.getD i default).Kind (xs.getD i default).Seq):=by rw [ta h,if_neg (by simp [c]),if_pos o]
theorem gP (h:i<xs.length) (c:cV xs i=false) (o:dP z (xs.getD i default).Kind (xs.getD i default).Seq=false):gT xs (xs.length-i) i z=(false,er z (xs.getD i default).Kind (xs.getD i default).Seq):=by rw [ta h,if_neg (by rw [c]; simp),if_neg (by rw [o]; simp)]
theorem tX (h:¬ i<xs.length):gT xs (xs.length-i) i z=(true,z):=by rw [show xs.length-i=0 by omega]; rfl
theorem ij (hT:z.Tapes.length=2):(er z kd sq).Tapes.length=2∧z.Writes≤(er z kd sq).Writes∧(er z kd sq).Writes≤z.Writes+2∧mr (er z kd sq)≤mr z∧∀ u,((er z kd sq).Tapes.getD u default).Recs.length≤(z.Tapes.getD u default).Recs.length:=by
  have key:∀ {z:Wld}{t:Nat},t<z.Tapes.length→mr (eE t kd sq z)≤mr z:=by
    intro z t h
    unfold eE qR; split
    · have:=Cu (z:=z); omega
    · have h1:=z2 (f:=pQ) (xs:=z.Tapes) (i:=t) (y:=⟨(z.Tapes.getD t default).Wiped,co (pKS kd sq) (z.Tapes.getD t default).Recs⟩) h
      have h3:pQ ⟨(z.Tapes.getD t default).Wiped,co (pKS kd sq) (z.Tapes.getD t default).Recs⟩≤pQ (z.Tapes.getD t default):=by
        unfold pQ co; dsimp only
        have:=xg (f:=Cm) (p:=fun r => !pKS kd sq r) (xs:=(z.Tapes.getD t default).Recs)
        omega
      unfold mr jG stT; dsimp only; omega
  by_cases hp:bP z=true
  · rw [(nJ hp).1]
    have h1:=fN (t:=0) (kd:=kd) (sq:=sq) (z:=z)
    exact ⟨by rw [gS]; exact hT,h1.1,ω,key ω,fun u=>lM⟩
  · rw [(gX (by simpa using hp)).1]
    have h1:=fN (t:=0) (kd:=kd) (sq:=sq) (z:=z)
    have h2:=fN (t:=1) (kd:=kd) (sq:=sq) (z:=eE 0 kd sq z)
    have h3:=key (z:=z) (t:=0) ω
    have h4:=key (z:=eE 0 kd sq z) (t:=1) (by rw [gS]; omega)
    exact ⟨by rw [gS,gS]; exact hT,ω,ω,ω,fun u=>Nat.le_trans lM lM⟩
theorem gE (h:dP z kd sq=true):(er z kd sq).Down=z.Down:=by
  unfold dP at h
  simp only [Bool.and_eq_true,Bool.not_eq_true'] at h
  rw [(gX h.1).1,oe h.2,oe h.1]
theorem sg (h:z.Ok) (h2:z.Writes≤1500000000):(er z kd sq).Ok:=by
  have h1:=fN (t:=0) (kd:=kd) (sq:=sq) (z:=z)
  unfold er; split
  · exact pu h
  · exact xQ (xQ h ω) ω
theorem sO:∀ {n i:Nat}{z:Wld},z.Ok→z.Tapes.length=2→z.Writes+2*(n:Int)≤1500000000→(gT xs n i z).2.Ok
  | 0,_,_,h,_,_=>h
  | n+1,i,z,h,hT,hw=>by
    obtain ⟨h1,_,h2,_,_⟩:=ij (z:=z) (kd:=(xs.getD i default).Kind) (sq:=(xs.getD i default).Seq) hT
    rw [gT]
    split
    · exact sO h hT ω
    · split
      · exact sO (sg h ω) h1 ω
      · exact sg h ω
theorem lV (h:bF z=0):(aY z).length≤600000:=by
  have h1:=(mT (z:=z)).length_le
  have h2:=fE (z:=z) (bM h).2.2.2.1 (iz h)
  omega
theorem pR (h:bF z=0):∀ k,(z.Tapes.getD k default).Recs.length≤100000:=fun k=>by
  have hT:=(bM h).2.2.2.1
  obtain ⟨h1,h2⟩:=xr h
  by_cases e:k<2
  · have:k=0∨k=1:=by omega
    rcases this with rfl | rfl<;>omega
  · have:z.Tapes.getD k default=default:=by simp [List.getD,List.getElem?_eq_none (show z.Tapes.length≤k by omega)]
    rw [this]; exact Nat.zero_le _
theorem mX (h:upF z≠0):bC z=⟨upF z,noWld⟩:=if_neg h
theorem oc (h:upF z=0):bC z=⟨if (kU z).1=true then 0 else 9,(kU z).2⟩:=if_pos h
theorem BV (h:z.Ok) (hw:bF z=0):(kU z).2.Ok:=by
  have h2:=lV hw
  obtain ⟨hw0,hw1,_,_⟩:=gV hw
  exact sO h (bM hw).2.2.2.1 ω
end
section
variable {α K:Type}{lt:K→K→Prop}{key:α→K}
theorem Ord.sub {xs ys:List α}(h:Ord lt key xs) (hs:ys.Sublist xs):Ord lt key ys:=by
  induction hs with
  | slnil=>exact .nil
  | cons a hs ih=>cases h with | cons h1 h2=>exact ih h2
  | cons_cons a hs ih=>cases h with | cons h1 h2=>exact .cons (fun y hy=>h1 y (hs.mem hy)) (ih h2)
theorem Ord.at [Inhabited α] {xs:List α}(h:Ord lt key xs):∀ {i j:Nat},i<j→j<xs.length→¬ lt (key (xs.getD j default)) (key (xs.getD i default)):=by
  induction h with
  | nil=>intro i j _ h; simp at h
  | cons h1 h2 ih=>
    intro i j hij hj
    obtain ⟨j,rfl⟩:∃ k,j=k+1:=⟨j-1,ω⟩
    rw [List.length_cons] at hj
    rcases Nat.eq_zero_or_pos i with e | e
    · subst e
      rw [List.getD_cons_succ,List.getD_cons_zero,bi ω]
      exact h1 _ (List.getElem_mem _)
    · obtain ⟨i,rfl⟩:∃ k,i=k+1:=⟨i-1,ω⟩
      rw [List.getD_cons_succ,List.getD_cons_succ]
      exact ih ω ω
end
section
variable {z:Wld}{xs:List Rec}{i:Nat}
theorem BY (ho:Ord kLt cX xs) (h:i<xs.length):(xs.take i).any (qf (xs.getD i default))=cV xs i:=by
  cases hd:cV xs i
  · rw [List.any_eq_false]
    intro x hx
    obtain ⟨j,hj,e⟩:=List.getElem_of_mem hx
    rw [List.length_take] at hj
    rw [List.getElem_take,← bi (d:=default)] at e
    subst e
    intro h2
    unfold qf at h2
    simp only [Bool.and_eq_true,decide_eq_true_eq] at h2
    have h3:=ho.at (i:=i-1) (j:=i) ω h
    have h4:j=i-1∨¬ kLt (cX (xs.getD (i-1) default)) (cX (xs.getD j default)):=by
      by_cases e:j=i-1
      · exact .inl e
      · exact .inr (ho.at ω ω)
    unfold cV at hd
    simp only [Bool.and_eq_false_iff,decide_eq_false_iff_not] at hd
    rcases h4 with h4 | h4
    · subst h4; omega
    · unfold kLt cX at h3 h4
      dsimp only at h3 h4
      omega
  · unfold cV at hd
    simp only [Bool.and_eq_true,decide_eq_true_eq] at hd
    refine m0 (k:=i-1) (by rw [List.length_take]; omega) ?_
    have e:(xs.take i).getD (i-1) default=xs.getD (i-1) default:=by
      rw [bi (by rw [List.length_take]; omega),bi ω,List.getElem_take]
    rw [e]; unfold qf
    rw [decide_eq_true hd.2.1.symm,decide_eq_true hd.2.2.symm]; rfl
theorem yi:Ord kLt cX (aY z):=iY.1.sub mT
end
end Go.Wk
namespace Go.Wk
structure Way where
  n:Nat
  hs:List Int
  x:Int
  g:List UInt8
  m:Mat
  steps:List (Mat × Nat)
  w:List UInt8
end Go.Wk
namespace Go.Wk
open Rp (sz own)
section
variable {M:Nat→Prop}{w0 w:World}{Δ F:List Rsc}
theorem Sep.packB (h:Sep M w0 Δ F w) (j:Nat) {a:Option Addr}{n c:Nat}{bs:List UInt8}{f:List Nat}(q:Int) (hj:Δ[j]? = some (Wk.mine [.slice a n c] bs f)) (hq:I64ok q) :
    Sep M w0 (Δ.set j (Wk.mine [.int .i64 q,.slice a n c] (⟨q,bs⟩:Block) f)) F w:=by
  have ho:=h.mine j hj
  obtain rfl:=dI ho
  have hn:f.Nodup:=h.nodup1 hj
  exact h.set hj (q:=Wk.mine [.int .i64 q,.slice a bs.length c] (⟨q,bs⟩:Block) f) Ext.refl (Block.own_mk (x:=⟨q,bs⟩) hq ho) hn (fun b hb => .inl hb)
end
end Go.Wk
namespace Go.Wk
theorem wX {p:Rec→Bool}{vs:List RecV}(h:ew p (vs.map RecV.r) = -1):fU p vs=vs:=by
  refine (lS (p:=p)).eq_of_length ?_
  have h1:=congrArg List.length (lR (p:=p) (vs:=vs))
  rw [p5 h,List.length_map,List.length_map] at h1
  exact h1
def jc (z:Wld) (xs:List Rec) (g:Int) (r:Rec):Bool:=decide (r.Kind≠2) || ((ins g 0 (z.Shape.Groups-1) && decide (r.Group≠g)) || xs.any (dnP r.Seq g))
noncomputable def nG (z:Wld) (g:Int):List Rec:=co (jc z (bV z) g) (bV z)
theorem BK {z:Wld}{g:Int}{vs:List RecV}(h:vs.map RecV.r=bV z):(fU (jc z (bV z) g) vs).map RecV.r=nG z g:=by rw [lR,h]; rfl
section
open Rp (own)
variable {w w1:World}{fp ft:List Nat}
theorem RdV.toM {vs:List RecV}(h:RdV w ft vs) (e:Ext (· ∈ fp) w w1) (ha:∀ b∈ft,b ∉ fp):RdV w1 ft vs:=fun v hv=>by
  obtain ⟨f,h1,h2⟩:=h v hv
  exact ⟨f,Rp.st h1 fun b hb=>e.block b (Rp.lt h1 b hb) (ha b (h2 b hb)),h2⟩
theorem BE {α:Type}[Rp α] {s:Bool}{cs:List Value}{x:α}{f:List Nat}(h:own s w cs x f) (e:Ext (· ∈ fp) w w1) (ha:∀ b∈f,b ∉ fp):own s w1 cs x f:=
  Rp.st h fun b hb=>e.block b (Rp.lt h b hb) (ha b hb)
end
end Go.Wk
namespace Go.Wk
section
variable {z:Wld}{g:Int}{r:Rec}{rs:List Rec}{i:Nat}
theorem AT (h:r∈nG z g):r∈bV z∧r.Kind=2:=by
  unfold nG co at h
  rw [List.mem_filter] at h
  refine ⟨h.1,?_⟩
  have h2:=h.2
  unfold jc at h2
  simp only [Bool.not_eq_true',Bool.or_eq_false_iff,decide_eq_false_iff_not,Decidable.not_not] at h2
  exact h2.1
end
end Go.Wk
namespace Go.Wk
open Rp (sz own)
def AllR (P:Rec→Prop) (z:Wld):Prop:=∀ t∈z.Tapes,∀ r∈t.Recs,P r
section
variable {z:Wld}{r:Rec}{P:Rec→Prop}{t:Nat}
theorem AllR.cnt (h:AllR P z) (hr:r∈bV z):P r:=by
  obtain ⟨k,j,hk,hj,e⟩:=sG hr
  refine h (z.Tapes.getD k default) (by rw [bi hk]; exact List.getElem_mem _) r ?_
  rw [← e,bi hj]; exact List.getElem_mem _
theorem AllR.imp {Q:Rec→Prop}(h:AllR P z) (k:∀ r,P r→Q r):AllR Q z:=fun t ht r hr=>k r (h t ht r hr)
theorem wk (h:bF z=0):AllR (fun r=>fL z.Shape r=0) z:=fun t ht q hq=>by
  obtain ⟨k,hk,e1⟩:=List.getElem_of_mem ht
  obtain ⟨j,hj,e2⟩:=List.getElem_of_mem hq
  have e3:z.Tapes.getD k default=t:=by rw [bi hk]; exact e1
  have e:(z.Tapes.getD k default).Recs.getD j default=q:=by rw [e3,bi hj]; exact e2
  have hj':j<(z.Tapes.getD k default).Recs.length:=by rw [e3]; exact hj
  have hT:=(bM h).2.2.2.2
  have h0:dv z.Shape z.Tapes z.Tapes.length=0:=by
    unfold dT at hT
    split at hT
    · cases hT
    · split at hT
      · next c2=>exact absurd hT c2
      · omega
  have hk0:dv z.Shape z.Tapes (k+1)=0:=by
    rcases Decidable.em (dv z.Shape z.Tapes (k+1)=0) with c2 | c2
    · exact c2
    · rw [iS c2 _ hk] at h0; exact absurd h0 c2
  have hk1:dv z.Shape z.Tapes k=0:=by
    rcases Decidable.em (dv z.Shape z.Tapes k=0) with c2 | c2
    · exact c2
    · rw [iS c2 _ (Nat.le_succ k)] at hk0; exact absurd hk0 c2
  rw [eQ hk1] at hk0
  have hj0:dJ z.Shape (z.Tapes.getD k default).Recs (j+1)=0:=by
    rcases Decidable.em (dJ z.Shape (z.Tapes.getD k default).Recs (j+1)=0) with c2 | c2
    · exact c2
    · rw [iW c2 _ hj'] at hk0; exact absurd hk0 c2
  have hj1:dJ z.Shape (z.Tapes.getD k default).Recs j=0:=by
    rcases Decidable.em (dJ z.Shape (z.Tapes.getD k default).Recs j=0) with c2 | c2
    · exact c2
    · rw [iW c2 _ (Nat.le_succ j)] at hj0; exact absurd hj0 c2
  rw [fG hj1,e] at hj0
  exact hj0
def SeqOK (z:Wld):Prop:=AllR (fun r=>0≤r.Seq∧r.Seq≤1000000000) z
theorem yS {s:Shape}(h:fL s r=0):1≤r.Seq∧r.Seq≤1000000000:=by
  by_cases hk:ins r.Kind 1 4=true
  · by_cases hq:ins r.Seq 1 1000000000=true
    · exact cq.1 hq
    · rw [qN hk (by simpa using hq)] at h; exact absurd h ω
  · rw [oN (by simpa using hk)] at h; exact absurd h ω
theorem uL (h:bF z=0):SeqOK z:=(wk h).imp fun r hr=>by have:=yS hr; omega
noncomputable def nxQ (z:Wld):Int:=kQ (bV z)+1
theorem CL (h:SeqOK z):1≤nxQ z∧nxQ z≤1000000001:=by
  unfold nxQ kQ
  by_cases c:(bV z).length=0
  · rw [List.eq_nil_of_length_eq_zero c]
    show 1≤(0:Int)+1∧(0:Int)+1≤1000000001
    omega
  · have hm:(bV z).getD ((bV z).length-1) default∈bV z:=by rw [bi ω]; exact List.getElem_mem _
    have:=AllR.cnt h hm
    omega
end
end Go.Wk
namespace Go.Wk
noncomputable def nsV (z:Wld):Int:=if 1000000000<nxQ z then 0 else nxQ z
noncomputable def nsC (z:Wld):Int:=if 1000000000<nxQ z then 2 else 0
section
variable {z:Wld}{vs:List RecV}
theorem y5 (h:vs.length=0):kQ (vs.map RecV.r)=0:=by
  rw [List.eq_nil_of_length_eq_zero h]; rfl
theorem BQ:kQ (vs.map RecV.r)=(vs.getD (vs.length-1) default).r.Seq:=by
  unfold kQ
  rw [List.length_map]
  by_cases h:vs.length=0
  · rw [List.eq_nil_of_length_eq_zero h]; rfl
  · rw [dq rfl ω]
theorem Cx (hM:vs.map RecV.r=bV z) (_:0<vs.length):nxQ z=(vs.getD (vs.length-1) default).r.Seq+1:=by
  unfold nxQ; rw [← hM,BQ]
theorem uH (hM:vs.map RecV.r=bV z) (h:vs.length=0):nxQ z=1:=by
  unfold nxQ; rw [← hM,y5 h]; rfl
end
end Go.Wk
namespace Go.Wk
open Rp (sz own)
section
variable {P:Program}{n:Nat}{ops:Array Oper}{Q:Post}{L:Env}{w w0:World}{M:Nat→Prop}{Δ F:List Rsc}{rest:List Oper}{d:Nat}{ty:TypeId}{p:String}{af:Array Edge}{g:Option (Nat × Bool)}{α:Type}[Rp α]
theorem Ca {t e:TypeId}{x:Operand}{z:Value}{bytes m:Nat}{y:α}(hw:Wn ops n L ⟨some d,.makeSlice t x x,ty,p,af,g⟩) (hn:Nat.blt d n=true) (ht:P.underlying t=some (.slice e)) (hT:Ty P e z (sz α) bytes) (hz:∀ w,own true w z.cells.toList y [])
    (hx:evL L x=some (.int .i64 m)) (h48:bytes*m≤281474976710656) (h63:m≤maxLen) (H:Sep M w0 Δ F w)
    (k:∀ b w',Ext No w w'→w.heap.size≤b→Sep M w0 (Δ++[mine [.slice (some ⟨b,0,none⟩) (List.replicate m y).length m] (List.replicate m y) [b]]) F w'→RL P n ops Q rest ((d,.slice (some ⟨b,0,none⟩) (List.replicate m y).length m)::L) w') :
    RL P n ops Q (⟨some d,.makeSlice t x x,ty,p,af,g⟩::rest) L w:=by
  have e:(List.replicate m y).length=m:=List.length_replicate
  rw [e] at k
  exact vF hw hn ht hT hz hx h48 h63 H k
end
end Go.Wk
namespace Go.Wk
open Rp (sz own)
open Go.MapKept (IsKey sameNow_of_keys)
def jB (p:RecV × Nat):MapEntry:=⟨.string p.1.r.Name,.agg p.1.cs.toArray,p.2⟩
def fV (ps:List (RecV × Nat)):Array MapEntry:=(ps.map jB).toArray
def gt (v:RecV) (c:Nat):List (RecV × Nat)→List (RecV × Nat)
  | []=>[(v,c)]
  | p::ps=>if p.1.r.Name=v.r.Name then (v,p.2)::ps else p::gt v c ps
def gO (nm:ByteArray) (ps:List (RecV × Nat)):Bool:=ps.any fun p=>decide (p.1.r.Name=nm)
theorem Al {nm:ByteArray}:∀ (ps:List (RecV × Nat)) (i:Nat),
    (Instr.findNow .string (.string nm) (ps.map jB) i=some none∧gO nm ps=false) ∨
    ∃ j p,Instr.findNow .string (.string nm) (ps.map jB) i=some (some (i+j,(jB p).val))∧ps[j]? = some p∧gO nm ps=true∧p.1.r.Name=nm∧∀ v c,v.r.Name=nm→gt v c ps=ps.set j (v,p.2)
  | [],i => .inl ⟨rfl,rfl⟩
  | p::ps,i=>by
    obtain ⟨r,hr,hiff⟩:=sameNow_of_keys (d := .string) (a := .string nm) (b := .string p.1.r.Name) trivial trivial
    by_cases e:p.1.r.Name=nm
    · have hr1:r=true:=hiff.2 (by rw [e])
      subst hr1
      refine .inr ⟨0,p,?_,rfl,by simp [gO,e],e,fun v c hv=>by rw [gt,if_pos (by rw [e,hv])]; rfl⟩
      have hr':Instr.sameNow .string (.string nm) (jB p).key=some true:=hr
      simp only [List.map_cons,Instr.findNow,hr',Nat.add_zero]
    · have hr1:r=false:=by
        cases hq:r with
        | false=>rfl
        | true=>have:=hiff.1 hq; simp only [Value.string.injEq] at this; exact absurd this.symm e
      subst hr1
      have hr':Instr.sameNow .string (.string nm) (jB p).key=some false:=hr
      have hh:gO nm (p::ps)=gO nm ps:=by simp [gO,e]
      rcases Al (nm:=nm) ps (i+1) with ⟨h1,h2⟩ | ⟨j,q,h1,h2,h3,h4,h5⟩
      · exact .inl ⟨by simp only [List.map_cons,Instr.findNow,hr',h1],by rw [hh,h2]⟩
      · refine .inr ⟨j+1,q,by simp only [List.map_cons,Instr.findNow,hr',h1]; congr 3; omega,by simpa using h2,by rw [hh,h3],h4,fun v c hv=>?_⟩
        rw [gt,if_neg (by rw [hv]; exact e),h5 v c hv]; rfl
theorem pW {v:RecV}{c:Nat}:∀ {ps:List (RecV × Nat)},gO v.r.Name ps=false→gt v c ps=ps++[(v,c)]
  | [],_=>rfl
  | p::ps,h=>by
    simp only [gO,List.any_cons,Bool.or_eq_false_iff,decide_eq_false_iff_not] at h
    rw [gt,if_neg h.1,pW (by simpa [gO] using h.2)]; rfl
section
variable {P:Program}{w:World}{r c:Nat}{ps:List (RecV × Nat)}{mty kt et:TypeId}{v:RecV}
theorem B0 (hm:P.underlying mty=some (.map kt et)) (hk:P.underlying kt=some .string) (hb:w.heap[r]? = some (.map (fV ps) c)) :
    ∃ c',c≤c'∧(gO v.r.Name ps=false→c<c')∧(Instr.mapUpdate mty (.map (some r)) (.string v.r.Name) (.agg v.cs.toArray)).run P w = .ok () (put w r (.map (fV (gt v c ps)) c')):=by
  have hK:IsKey .string (.string v.r.Name):=trivial
  have hl:(fV ps).toList=ps.map jB:=by simp [fV]
  rcases Al (nm:=v.r.Name) ps 0 with ⟨h1,h2⟩ | ⟨j,p,h1,h2,h3,h4,h5⟩
  · refine ⟨c+1,ω,(fun _=>by omega),?_⟩
    rw [← hl] at h1
    have e:(fV ps).push ⟨.string v.r.Name,.agg v.cs.toArray,c⟩=fV (gt v c ps):=by
      rw [pW h2]; unfold fV; rw [List.map_append]; simp [jB]
    simp [Instr.mapUpdate,run_underlying hm,Go.MapKept.run_getObj_map hb,Go.MapKept.run_checkKey hk hK,Go.MapKept.run_findKey hk h1,Go.MapKept.run_setObj_map _ hb,Result.andThen]
    rw [e]; rfl
  · refine ⟨c,Nat.le_refl _,(fun h=>by rw [h3] at h; cases h),?_⟩
    rw [← hl] at h1
    have hj:(fV ps)[j]? = some (jB p):=by rw [← Array.getElem?_toList,hl,List.getElem?_map,h2]; rfl
    have e:(fV ps).modify j (fun e=>{ e with key := .string v.r.Name,val := .agg v.cs.toArray })=fV (gt v c ps):=by
      rw [h5 v c rfl]
      apply Array.toList_inj.1
      rw [Array.toList_modify,hl]
      show (ps.map jB).modify j _=(List.map jB (ps.set j (v,p.2))).toArray.toList
      rw [List.map_set]
      apply List.ext_getElem?
      intro q
      rw [List.getElem?_modify,List.getElem?_set]
      by_cases e:j=q
      · subst e
        rw [List.getElem?_map,h2,if_pos rfl]
        have hlt:j<(ps.map jB).length:=by rw [List.length_map]; exact (List.getElem?_eq_some_iff.1 h2).1
        rw [if_pos hlt]
        simp [jB]
      · simp [e]
    have hkt:(jB p).key = .string v.r.Name:=by show Value.string p.1.r.Name=_; rw [h4]
    simp [Instr.mapUpdate,run_underlying hm,Go.MapKept.run_getObj_map hb,Go.MapKept.run_checkKey hk hK,Go.MapKept.run_findKey hk h1,hj,hkt,Go.MapKept.run_keyThatStays hK,Go.MapKept.run_setObj_map _ hb,Result.andThen]
    rw [← e]
    rfl
end
structure MapOK (ps:List (RecV × Nat)) (c:Nat):Prop where
  names:(ps.map fun p=>p.1.r.Name).Nodup
  stamps:(ps.map Prod.snd).Nodup
  lt:∀ p∈ps,p.2<c
theorem qw {v:RecV}{c:Nat}:∀ {ps:List (RecV × Nat)},gO v.r.Name ps=true→(gt v c ps).map (fun p=>p.1.r.Name)=ps.map fun p=>p.1.r.Name
  | [],h=>by cases h
  | p::ps,h=>by
    rw [gt]
    split
    · next e=>simp [e]
    · next e=>rw [List.map_cons,qw (by simpa [gO,e] using h)]; rfl
theorem lk {v:RecV}{c:Nat}:∀ {ps:List (RecV × Nat)},gO v.r.Name ps=true→(gt v c ps).map Prod.snd=ps.map Prod.snd
  | [],h=>by cases h
  | p::ps,h=>by
    rw [gt]
    split
    · rfl
    · next e=>rw [List.map_cons,lk (by simpa [gO,e] using h)]; rfl
theorem BF {nm:ByteArray}{ps:List (RecV × Nat)}(h:gO nm ps=false):nm ∉ ps.map fun p=>p.1.r.Name:=fun hm=>by
  obtain ⟨p,hp,e⟩:=List.mem_map.1 hm
  have:gO nm ps=true:=by rw [gO,List.any_eq_true]; exact ⟨p,hp,by simp [e]⟩
  rw [h] at this; cases this
theorem i9 {α:Type}{l:List α}{x:α}(h:l.Nodup) (hx:x ∉ l):(l++[x]).Nodup:=
  List.nodup_append.2 ⟨h,σ,fun a ha b hb e=>by rw [List.mem_singleton] at hb; subst hb; subst e; exact hx ha⟩
theorem MapOK.upd {ps:List (RecV × Nat)}{c c':Nat}{v:RecV}(h:MapOK ps c) (h1:c≤c') (h2:gO v.r.Name ps=false→c<c'):MapOK (gt v c ps) c':=by
  cases hv:gO v.r.Name ps with
  | false=>
    have hc:=h2 hv
    rw [pW hv]
    refine ⟨by rw [List.map_append]; exact i9 h.names (BF hv),by
      rw [List.map_append]
      refine i9 h.stamps fun hm=>?_
      obtain ⟨p,hp,e⟩:=List.mem_map.1 hm
      have:=h.lt p hp
      have e':p.2=c:=e
      omega,fun p hp=>?_⟩
    rcases List.mem_append.1 hp with hp | hp
    · have:=h.lt p hp; omega
    · rw [List.mem_singleton] at hp; subst hp; exact hc
  | true=>
    refine ⟨by rw [qw hv]; exact h.names,by rw [lk hv]; exact h.stamps,fun p hp=>?_⟩
    have:p.2∈(gt v c ps).map Prod.snd:=List.mem_map_of_mem hp
    rw [lk hv] at this
    obtain ⟨q,hq,e⟩:=List.mem_map.1 this
    have:=h.lt q hq
    omega
theorem MapOK.nil:MapOK [] 0:=⟨.nil,.nil,fun p hp=>by cases hp⟩
theorem km {α β:Type}{f:α→β}{l:List α}(h:(l.map f).Nodup):l.Nodup:=List.Pairwise.of_map f (fun _ _ hne e=>hne (by rw [e])) h
theorem MapOK.nodup {ps:List (RecV × Nat)}{c:Nat}(h:MapOK ps c):ps.Nodup:=km h.stamps
theorem MapOK.inj {ps:List (RecV × Nat)}{c:Nat}(h:MapOK ps c) {p q:RecV × Nat}(hp:p∈ps) (hq:q∈ps) (e:p.2=q.2):p=q:=by
  have key:∀ {l:List (RecV × Nat)},(l.map Prod.snd).Nodup→p∈l→q∈l→p=q:=by
    intro l
    induction l with
    | nil=>intro _ h; cases h
    | cons a l ih=>
      intro hn h1 h2
      rw [List.map_cons,List.nodup_cons] at hn
      rcases List.mem_cons.1 h1 with e1 | k1
      · rcases List.mem_cons.1 h2 with e2 | k2
        · rw [e1,e2]
        · exact absurd (List.mem_map.2 ⟨q,k2,by rw [← e,e1]⟩:a.2∈l.map Prod.snd) hn.1
      · rcases List.mem_cons.1 h2 with e2 | k2
        · exact absurd (List.mem_map.2 ⟨p,k1,by rw [e,e2]⟩:a.2∈l.map Prod.snd) hn.1
        · exact ih hn.2 k1 k2
  exact key h.stamps hp hq
def dc (ds:List (RecV × Nat)):Array Nat:=(ds.map Prod.snd).toArray
theorem AL {ps ds:List (RecV × Nat)}:(leftOf (fV ps) (dc ds)).toList=(ps.map jB).filter fun e => !(ds.map Prod.snd).contains e.born:=by
  unfold leftOf fV dc
  simp only [List.filter_toArray,List.contains_toArray,List.contains_eq_mem]
section
variable {P:Program}{n:Nat}{ops:Array Oper}{Q:Post}{L:Env}{w w0:World}{M:Nat→Prop}{Δ F:List Rsc}{rest:List Oper}{d:Nat}{ty:TypeId}{p:String}{af:Array Edge}{g:Option (Nat × Bool)}
theorem Bk {t:TypeId}(hw:Wn ops n L ⟨some d,.makeMap t none,ty,p,af,g⟩) (hn:Nat.blt d n=true) (H:Sep M w0 Δ F w)
    (k:∀ b w',Ext No w w'→w.heap.size≤b→Sep M w0 (Δ++[box b (.map (fV []) 0)]) F w'→RL P n ops Q rest ((d,.map (some b))::L) w') :
    RL P n ops Q (⟨some d,.makeMap t none,ty,p,af,g⟩::rest) L w:=
  nk (ob := .map (fV []) 0) (v:=fun b => .map (some b)) hw rfl hn (fun a ha=>by
    simp [execOp,Instr.makeMap,Result.andThen,fV]) H k
theorem C5 {mty kt et:TypeId}{m x y:Operand}{b c:Nat}{ps:List (RecV × Nat)}{v:RecV}(hw:Wn ops n L ⟨none,.mapUpdate mty m x y,ty,p,af,g⟩) (hm:P.underlying mty=some (.map kt et)) (hk:P.underlying kt=some .string)
    (h1:evL L m=some (.map (some b))) (h2:evL L x=some (.string v.r.Name)) (h3:evL L y=some (.agg v.cs.toArray)) (H:Sep M w0 Δ F w) (i:Nat) (hi:Δ[i]? = some (box b (.map (fV ps) c))) (ok:MapOK ps c)
    (k:∀ c' w',MapOK (gt v c ps) c'→Sep M w0 (Δ.set i (box b (.map (fV (gt v c ps)) c'))) F w'→RL P n ops Q rest L w') :
    RL P n ops Q (⟨none,.mapUpdate mty m x y,ty,p,af,g⟩::rest) L w:=by
  obtain ⟨c',hc,hc2,hr⟩:=B0 (v:=v) hm hk (H.box i hi)
  exact we hw rfl (fun a ha=>by simp [execOp,ha.eval h1,ha.eval h2,ha.eval h3,hr]) (k c' _ (ok.upd hc hc2) (H.put i _ hi))
theorem A0 {t kt et:TypeId}{x:Operand}{b c:Nat}{ps:List (RecV × Nat)}(hw:Wn ops n L ⟨some d,.range t x,ty,p,af,g⟩) (hn:Nat.blt d n=true) (ht:P.underlying t=some (.map kt et)) (hx:evL L x=some (.map (some b))) (H:Sep M w0 Δ F w) (i:Nat) (hi:Δ[i]? = some (box b (.map (fV ps) c)))
    (k:∀ r w',Ext No w w'→w.heap.size≤r→Sep M w0 (Δ++[box r (.mapIter (some b) c (dc []) c)]) F w'→RL P n ops Q rest ((d,.pointer (some ⟨r,0,none⟩))::L) w') :
    RL P n ops Q (⟨some d,.range t x,ty,p,af,g⟩::rest) L w:=by
  have hb:=H.box i hi
  exact nk (ob := .mapIter (some b) c (dc []) c) (v:=fun b => .pointer (some ⟨b,0,none⟩)) hw rfl hn (fun a ha=>by
    simp [execOp,ha.eval hx,Instr.range,run_underlying ht,Go.MapKept.run_getObj_map hb,Result.andThen,dc]) H k
theorem BS {x:Operand}{r b c s:Nat}{ps ds:List (RecV × Nat)}(hw:Wn ops n L ⟨some d,.next x false,ty,p,af,g⟩) (hn:Nat.blt d n=true) (hx:evL L x=some (.pointer (some ⟨r,0,none⟩))) (H:Sep M w0 Δ F w)
    (i j:Nat) (hi:Δ[i]? = some (box r (.mapIter (some b) c (dc ds) c))) (hj:Δ[j]? = some (box b (.map (fV ps) c))) (ok:MapOK ps c) (hds:∀ q∈ds,q∈ps)
    (k1:(∀ q∈ps,q∈ds)→RL P n ops Q rest ((d,.tuple #[.bool false])::L) w)
    (k2:∀ q w',q∈ps→q ∉ ds→Sep M w0 (Δ.set i (box r (.mapIter (some b) c (dc (ds++[q])) c))) F w'→RL P n ops Q rest ((d,.tuple #[.bool true,.string q.1.r.Name,.agg q.1.cs.toArray])::L) w') :
    RL P n ops Q (⟨some d,.next x false,ty,p,af,g⟩::rest) L w:=by
  have hr:=H.box i hi
  have hb:=H.box j hj
  have hold:∀ e∈(fV ps).toList,e.born<c:=fun e he=>by
    simp only [fV,List.mem_map] at he
    obtain ⟨q,hq,rfl⟩:=he
    exact ok.lt q hq
  rcases run_next_at (P:=P) w ty r b c c (dc ds) (fV ps) c hr hb hold (Nat.le_refl _) with ⟨h1,h2⟩ | ⟨e,he,w1,hw1,h2⟩
  · refine mq hw rfl hn (w':=w) (v := .tuple #[.bool false]) (fun a ha=>by simp [execOp,ha.eval hx,h2]) (k1 fun q hq=>?_)
    have hz:(leftOf (fV ps) (dc ds)).toList=[]:=by
      apply List.eq_nil_of_length_eq_zero; rw [Array.length_toList]; exact h1
    rw [AL,List.filter_eq_nil_iff] at hz
    have:=hz (jB q) (List.mem_map_of_mem hq)
    simp only [Bool.not_eq_true',Bool.not_eq_false,List.contains_eq_mem,decide_eq_true_eq] at this
    obtain ⟨q',hq',e⟩:=List.mem_map.1 this
    rw [← ok.inj (hds q' hq') hq e]; exact hq'
  · rw [AL,List.mem_filter,List.mem_map] at he
    obtain ⟨⟨q,hq,rfl⟩,hnd⟩:=he
    have hnq:q ∉ ds:=fun hm=>by
      simp only [Bool.not_eq_true',List.contains_eq_mem,decide_eq_false_iff_not] at hnd
      exact hnd (List.mem_map.2 ⟨q,hm,rfl⟩)
    have es:(dc ds).push (jB q).born=dc (ds++[q]):=by unfold dc; rw [List.map_append]; simp [jB]
    rw [es] at h2
    have H1:Sep M w0 Δ F w1:=by
      rcases hw1 with rfl | rfl
      · exact H
      · exact H.drawn _
    exact mq hw rfl hn (w':=put w1 r (.mapIter (some b) c (dc (ds++[q])) c)) (v := .tuple #[.bool true,.string q.1.r.Name,.agg q.1.cs.toArray]) (fun a ha=>by
      have h3:(Instr.next (.pointer (some ⟨r,0,none⟩)) false ty).run P w = .ok (.tuple #[.bool true,.string q.1.r.Name,.agg q.1.cs.toArray]) (put w1 r (.mapIter (some b) c (dc (ds++[q])) c)):=h2
      simp [execOp,ha.eval hx,h3])
      (k2 q _ hq hnq (H1.put i _ hi))
theorem y7 {x:Operand}{r b c:Nat}{ps ds:List (RecV × Nat)}{q:RecV × Nat}{o:Option Tmp}(hx:evL L x=some (.pointer (some ⟨r,0,none⟩))) (H:Sep M w0 Δ F w)
    (i j:Nat) (hi:Δ[i]? = some (box r (.mapIter (some b) c (dc (ds++[q])) c))) (hj:Δ[j]? = some (box b (.map (fV ps) c))) (ok:MapOK ps c) (hq:q∈ps) :
    Py P n L w ⟨o,.entry x,ty,p,af,g⟩ (.tuple #[.string q.1.r.Name,.agg q.1.cs.toArray]):=fun a ha=>by
  have es:dc (ds++[q])=(dc ds).push (jB q).born:=by unfold dc; rw [List.map_append]; simp [jB]
  have hr:=H.box i hi
  rw [es] at hr
  have h:=run_entry_at (P:=P) w r b c (dc ds) (fV ps) c (jB q) hr (H.box j hj) (by simp only [fV]; exact List.mem_map_of_mem hq) (by
    simp only [fV,List.map_map]
    exact ok.stamps)
  have h3:(Instr.entry (.pointer (some ⟨r,0,none⟩))).run P w = .ok (.tuple #[.string q.1.r.Name,.agg q.1.cs.toArray]) w:=h
  simp [execOp,ha.eval hx,h3]
end
end Go.Wk
namespace Go.Wk
open Rp (sz own)
def nLt (a b:List UInt8):Prop:=Op.bytesLess a b=true
theorem li {a b:UInt8}{x y:List UInt8}:nLt (a::x) (b::y)↔a<b∨a=b∧nLt x y:=by
  unfold nLt
  rw [Op.bytesLess]
  simp
theorem pC {b:UInt8}{y:List UInt8}:nLt [] (b::y):=rfl
theorem oP {x:List UInt8}:¬ nLt x []:=by unfold nLt; cases x<;>simp [Op.bytesLess]
theorem uh:LinO nLt where
  irr a:=by
    induction a with
    | nil=>exact oP
    | cons a x ih=>
      rw [li]
      rintro (h | ⟨_,h⟩)
      · exact UInt8.lt_irrefl a h
      · exact ih h
  tr a:=by
    induction a with
    | nil=>
      intro b c h1 h2
      cases c with
      | nil=>exact absurd h2 oP
      | cons c z=>exact pC
    | cons a x ih=>
      intro b c h1 h2
      cases b with
      | nil=>exact absurd h1 oP
      | cons b y=>
        cases c with
        | nil=>exact absurd h2 oP
        | cons c z=>
          rw [li] at h1 h2 ⊢
          rcases h1 with h1 | ⟨rfl,h1⟩
          · rcases h2 with h2 | ⟨rfl,h2⟩
            · exact .inl (UInt8.lt_trans h1 h2)
            · exact .inl h1
          · rcases h2 with h2 | ⟨rfl,h2⟩
            · exact .inl h2
            · exact .inr ⟨rfl,ih _ _ h1 h2⟩
  tot a:=by
    induction a with
    | nil=>
      intro b
      cases b with
      | nil=>exact .inr (.inl rfl)
      | cons b y=>exact .inl pC
    | cons a x ih=>
      intro b
      cases b with
      | nil=>exact .inr (.inr pC)
      | cons b y=>
        rw [li,li]
        rcases Decidable.em (a<b) with h | h
        · exact .inl (.inl h)
        · rcases Decidable.em (b<a) with k | k
          · exact .inr (.inr (.inl k))
          · have e:a=b:=UInt8.le_antisymm (UInt8.not_lt.1 k) (UInt8.not_lt.1 h)
            subst e
            rcases ih y with h | h | h
            · exact .inl (.inr ⟨rfl,h⟩)
            · exact .inr (.inl (by rw [h]))
            · exact .inr (.inr (.inr ⟨rfl,h⟩))
theorem xU:∀ {x y:List UInt8},Lib.compareBytes x y<0↔nLt x y
  | [],[]=>by simp [Lib.compareBytes,oP]
  | [],_::_=>by simp [Lib.compareBytes,pC]
  | _::_,[]=>by simp [Lib.compareBytes,oP]
  | a::x,b::y=>by
    rw [li,Lib.compareBytes]
    split
    · next h=>simp [h]
    · next h=>
      split
      · next k=>
        have:a≠b:=fun e=>by subst e; exact h k
        simp [h,this]
      · next k=>
        have e:a=b:=UInt8.le_antisymm (UInt8.not_lt.1 k) (UInt8.not_lt.1 h)
        subst e
        rw [xU]; simp
def dQ (r:Rec):List UInt8:=r.Name.toList
def nameV (v:RecV):List UInt8:=dQ v.r
theorem um {r q:Rec}:dQ r=dQ q↔r.Name=q.Name:=sJ
def xC (xs:List Rec) (k:Nat):Bool:=decide ((xs.getD k default).Kind=1) && (decide ((xs.getD k default).Length ≠ -1) && !(xs.drop (k+1)).any (itP (xs.getD k default).Name))
def ml (xs:List Rec):Nat→List Rec
  | 0=>[]
  | k+1=>if xC xs k=true then ml xs k++[xs.getD k default] else ml xs k
def nO (xs:List Rec):List Rec:=ml xs xs.length
def lastIt (nm:ByteArray):List Rec→Option Rec
  | []=>none
  | r::rs=>match lastIt nm rs with
    | some q=>some q
    | none=>if itP nm r=true then some r else none
section
variable {xs ys:List Rec}{r q:Rec}{nm:ByteArray}{k:Nat}
theorem kN:itP nm r=true↔r.Kind=1∧r.Name=nm:=by
  unfold itP; rw [Bool.and_eq_true,decide_eq_true_eq,beq_iff_eq,sJ]
theorem lp:lastIt nm xs=none↔xs.any (itP nm)=false:=by
  induction xs with
  | nil=>simp [lastIt]
  | cons r rs ih=>
    rw [lastIt,List.any_cons]
    cases h:lastIt nm rs with
    | some q=>
      have h2:rs.any (itP nm)=true:=by
        cases c:rs.any (itP nm) with
        | true=>rfl
        | false=>rw [ih.2 c] at h; cases h
      rw [h2]; simp
    | none=>
      have h2:=ih.1 h
      dsimp only
      rw [h2]
      cases c:itP nm r<;>simp [c]
theorem pf:lastIt nm (xs++[r])=if itP nm r=true then some r else lastIt nm xs:=by
  induction xs with
  | nil=>rw [List.nil_append,lastIt]; simp [lastIt]
  | cons a asg ih=>
    rw [List.cons_append,lastIt,ih,lastIt]
    by_cases c:itP nm r=true
    · rw [if_pos c,if_pos c]
    · rw [if_neg c,if_neg c]
theorem oF (h:lastIt nm xs=some r):r∈xs∧r.Kind=1∧r.Name=nm:=by
  induction xs with
  | nil=>cases h
  | cons a asg ih=>
    rw [lastIt] at h
    cases c:lastIt nm asg with
    | some q=>
      rw [c] at h
      obtain ⟨h1,h2⟩:=ih (by rw [c]; exact h)
      exact ⟨List.mem_cons_of_mem _ h1,h2⟩
    | none=>
      rw [c] at h
      dsimp only at h
      split at h
      · next e=>
        cases h
        exact ⟨List.mem_cons_self ..,kN.1 e⟩
      · cases h
theorem vf:lastIt nm (xs++ys)=(lastIt nm ys).or (lastIt nm xs):=by
  induction xs with
  | nil=>simp [lastIt]
  | cons a asg ih=>
    rw [List.cons_append,lastIt,ih,lastIt]
    cases lastIt nm ys<;>simp
theorem kE (hk:k<xs.length):xC xs k=true↔(xs.getD k default).Kind=1∧(xs.getD k default).Length ≠ -1∧lastIt (xs.getD k default).Name (xs.drop (k+1))=none:=by
  unfold xC
  rw [lp]
  simp
theorem of:∀ {k},k≤xs.length→(r∈ml xs k↔∃ j,j<k∧xC xs j=true∧xs.getD j default=r)
  | 0,_=>by simp [ml]
  | k+1,h=>by
    rw [ml]
    have ih:=of (k:=k) ω
    split
    · next c=>
      rw [List.mem_append,List.mem_singleton,ih]
      constructor
      · rintro (⟨j,h1,h2,h3⟩ | rfl)
        · exact ⟨j,ω,h2,h3⟩
        · exact ⟨k,ω,c,rfl⟩
      · rintro ⟨j,h1,h2,h3⟩
        by_cases e:j=k
        · subst e; exact .inr h3.symm
        · exact .inl ⟨j,ω,h2,h3⟩
    · next c=>
      rw [ih]
      constructor
      · rintro ⟨j,h1,h2,h3⟩; exact ⟨j,ω,h2,h3⟩
      · rintro ⟨j,h1,h2,h3⟩
        by_cases e:j=k
        · subst e; exact absurd h2 c
        · exact ⟨j,ω,h2,h3⟩
theorem wF {j:Nat}(h:j<xs.length):xs=xs.take j++xs.getD j default::xs.drop (j+1):=by
  rw [bi h,← List.drop_eq_getElem_cons h,List.take_append_drop]
theorem nb:r∈nO xs↔r.Kind=1∧r.Length ≠ -1∧lastIt r.Name xs=some r:=by
  unfold nO
  rw [of (Nat.le_refl _)]
  constructor
  · rintro ⟨j,h1,h2,rfl⟩
    obtain ⟨a,b,c⟩:=(kE h1).1 h2
    refine ⟨a,b,?_⟩
    have e:=wF h1
    rw [show lastIt (xs.getD j default).Name xs=lastIt (xs.getD j default).Name (xs.take j++xs.getD j default::xs.drop (j+1)) from by rw [← e],vf,lastIt,c]
    rw [if_pos (kN.2 ⟨a,rfl⟩)]; rfl
  · rintro ⟨a,b,c⟩
    have key:∀ {l:List Rec},lastIt r.Name l=some r→∃ j,j<l.length∧l.getD j default=r∧lastIt r.Name (l.drop (j+1))=none:=by
      intro l
      induction l with
      | nil=>intro h; cases h
      | cons x l ih=>
        intro h
        rw [lastIt] at h
        cases e:lastIt r.Name l with
        | some q=>
          rw [e] at h
          obtain ⟨j,h1,h2,h3⟩:=ih (by rw [e]; exact h)
          exact ⟨j+1,by simp; omega,by simpa using h2,by simpa using h3⟩
        | none=>
          rw [e] at h
          dsimp only at h
          split at h
          · cases h; exact ⟨0,σ,rfl,by simpa using e⟩
          · cases h
    obtain ⟨j,h1,h2,h3⟩:=key c
    exact ⟨j,h1,(kE h1).2 (by rw [h2]; exact ⟨a,b,h3⟩),h2⟩
theorem pd:∀ {k},k≤xs.length→((ml xs k).map dQ).Nodup
  | 0,_ => .nil
  | k+1,h=>by
    rw [ml]
    have ih:=pd (k:=k) ω
    split
    · next c=>
      rw [List.map_append]
      refine i9 ih fun hm=>?_
      obtain ⟨q,hq,e⟩:=List.mem_map.1 hm
      obtain ⟨j,h1,h2,h3⟩:=(of ω).1 hq
      obtain ⟨a1,b1,c1⟩:=(kE ω).1 h2
      obtain ⟨a2,b2,c2⟩:=(kE ω).1 c
      rw [lp,List.any_eq_false] at c1
      have hk:xs.getD k default∈xs.drop (j+1):=by
        rw [bi ω]
        rw [List.mem_iff_getElem]
        exact ⟨k-(j+1),by rw [List.length_drop]; omega,by rw [List.getElem_drop]; congr 1; omega⟩
      refine c1 _ hk (kN.2 ⟨a2,?_⟩)
      rw [h3]
      exact (um.1 e).symm
    · exact ih
theorem iQ:((nO xs).map dQ).Nodup:=pd (Nat.le_refl _)
theorem pa {l:List Rec}(hn:(l.map dQ).Nodup) (nm:List UInt8):∀ {r},r∈l→dQ r=nm→(l.filter fun x=>decide (dQ x=nm))=[r]:=by
  induction l with
  | nil=>intro r h; cases h
  | cons a l ih=>
    intro r hr e
    rw [List.map_cons,List.nodup_cons] at hn
    rcases List.mem_cons.1 hr with rfl | hr
    · rw [List.filter_cons_of_pos (by simp [e]),List.filter_eq_nil_iff.2 fun x hx=>?_]
      simp only [decide_eq_true_eq]
      intro e2
      exact hn.1 (List.mem_map.2 ⟨x,hx,e2.trans e.symm⟩)
    · rw [List.filter_cons_of_neg (by
        simp only [decide_eq_true_eq]
        intro e2
        exact hn.1 (List.mem_map.2 ⟨r,hr,e.trans e2.symm⟩)),ih hn.2 hr e]
theorem pc {l l':List Rec}(hn:(l.map dQ).Nodup) (hp:l'.Perm l):cv dQ l l':=fun nm=>by
  have hn':(l'.map dQ).Nodup:=(hp.map dQ).nodup_iff.2 hn
  by_cases h:∃ r∈l,dQ r=nm
  · obtain ⟨r,hr,e⟩:=h
    rw [pa hn nm hr e,pa hn' nm (hp.mem_iff.2 hr) e]
  · rw [List.filter_eq_nil_iff.2 fun x hx=>?_,List.filter_eq_nil_iff.2 fun x hx=>?_]
    · simp only [decide_eq_true_eq]; intro e; exact h ⟨x,hx,e⟩
    · simp only [decide_eq_true_eq]; intro e; exact h ⟨x,hp.mem_iff.1 hx,e⟩
theorem Cj (x:Rec):∀ {ys:List Rec},Ord nLt dQ ys→∃ A B,ys=A++B∧(∀ y∈B,nLt (dQ x) (dQ y))∧∀ y∈A,¬ nLt (dQ x) (dQ y)
  | [],_=>⟨[],[],rfl,σ,σ⟩
  | y::ys,.cons h1 h2=>by
    by_cases c:nLt (dQ x) (dQ y)
    · refine ⟨[],y::ys,rfl,fun z hz=>?_,σ⟩
      rcases List.mem_cons.1 hz with rfl | hz
      · exact c
      · rcases uh.tot (dQ y) (dQ z) with q | q | q
        · exact uh.tr _ _ _ c q
        · rw [← q]; exact c
        · exact absurd q (h1 z hz)
    · obtain ⟨A,B,e,hB,hA⟩:=Cj x h2
      refine ⟨y::A,B,by rw [e]; rfl,hB,fun z hz=>?_⟩
      rcases List.mem_cons.1 hz with rfl | hz
      · exact c
      · exact hA z hz
theorem mB:∀ (n:Nat) (l:List Rec),l.length=n→∃ ys,Stable nLt dQ l ys
  | 0,l,h=>⟨[],by rw [List.eq_nil_of_length_eq_zero h]; exact ⟨.nil,.refl⟩⟩
  | n+1,l,h=>by
    have hl:l.dropLast++[l.getLast (fun e=>by rw [e] at h; simp at h)]=l:=List.dropLast_concat_getLast _
    obtain ⟨ys,hy⟩:=mB n l.dropLast (by rw [List.length_dropLast]; omega)
    obtain ⟨A,B,rfl,hB,hA⟩:=Cj (l.getLast (fun e=>by rw [e] at h; simp at h)) hy.1
    have:=hC uh hy hB hA
    rw [hl] at this
    exact ⟨_,this⟩
end
noncomputable def hY (z:Wld):List Rec:=(mB _ (nO (bV z)) rfl).choose
section
variable {z:Wld}{ys:List Rec}{r:Rec}{nm:ByteArray}
theorem fQ:Stable nLt dQ (nO (bV z)) (hY z):=(mB _ (nO (bV z)) rfl).choose_spec
theorem xM (h:Stable nLt dQ (nO (bV z)) ys):ys=hY z:=ju uh h fQ
theorem yF (hp:ys.Perm (nO (bV z))) (ho:Ord nLt dQ ys):ys=hY z:=xM ⟨ho,pc iQ hp⟩
theorem AV:r∈hY z↔r∈nO (bV z):=⟨fun h=>fQ.2.mem h,fun h=>(cv.symm fQ.2).mem h⟩
theorem rQ {xs:List Rec}:∀ {k},(ml xs k).length≤k
  | 0=>Nat.le_refl _
  | k+1=>by
    rw [ml]
    have:=rQ (xs:=xs) (k:=k)
    split
    · rw [List.length_append,List.length_singleton]; omega
    · omega
theorem Ao:(hY z).length≤(bV z).length:=by
  have h:=fQ (z:=z).2.len
  rw [h]; exact rQ
theorem AG (h:r∈hY z):r∈bV z:=(oF (nb.1 (AV.1 h)).2.2).1
end
def MapIs (xs:List Rec) (ps:List (RecV × Nat)):Prop:=(∀ p∈ps,lastIt p.1.r.Name xs=some p.1.r)∧∀ r∈xs,r.Kind=1→gO r.Name ps=true
section
variable {xs:List Rec}{ps:List (RecV × Nat)}{v:RecV}{c:Nat}{r:Rec}
theorem MapIs.nil:MapIs [] []:=⟨σ,σ⟩
theorem Ay {nm:ByteArray}:gO nm ps=true↔∃ p∈ps,p.1.r.Name=nm:=by unfold gO; rw [List.any_eq_true]; simp
theorem MapIs.skip (h:MapIs xs ps) (hr:r.Kind≠1):MapIs (xs++[r]) ps:=by
  refine ⟨fun p hp=>?_,fun q hq hk=>?_⟩
  · rw [pf,if_neg (fun e=>hr (kN.1 e).1)]; exact h.1 p hp
  · rcases List.mem_append.1 hq with hq | hq
    · exact h.2 q hq hk
    · rw [List.mem_singleton] at hq; subst hq; exact absurd hk hr
theorem tG {p:RecV × Nat}(hn:(ps.map fun p=>p.1.r.Name).Nodup):p∈gt v c ps→p.1=v∨p∈ps∧p.1.r.Name≠v.r.Name:=by
  induction ps with
  | nil=>intro h; rw [gt,List.mem_singleton] at h; subst h; exact .inl rfl
  | cons a asg ih=>
    intro h
    rw [List.map_cons,List.nodup_cons] at hn
    rw [gt] at h
    split at h
    · next e=>
      rcases List.mem_cons.1 h with rfl | h
      · exact .inl rfl
      · refine .inr ⟨List.mem_cons_of_mem _ h,fun e2=>hn.1 ?_⟩
        rw [e,← e2]; exact List.mem_map.2 ⟨p,h,rfl⟩
    · next e=>
      rcases List.mem_cons.1 h with rfl | h
      · exact .inr ⟨List.mem_cons_self ..,e⟩
      · rcases ih hn.2 h with h | ⟨h,h2⟩
        · exact .inl h
        · exact .inr ⟨List.mem_cons_of_mem _ h,h2⟩
theorem Ag {nm:ByteArray}:gO nm (gt v c ps)=(gO nm ps || decide (v.r.Name=nm)):=by
  induction ps with
  | nil=>simp [gt,gO]
  | cons a asg ih=>
    rw [gt]
    split
    · next e=>
      unfold gO at *
      simp only [List.any_cons,e]
      cases decide (v.r.Name=nm)<;>simp
    · unfold gO at *
      simp only [List.any_cons,ih,Bool.or_assoc]
theorem MapIs.put (h:MapIs xs ps) (hn:(ps.map fun p=>p.1.r.Name).Nodup) (hk:v.r.Kind=1):MapIs (xs++[v.r]) (gt v c ps):=by
  refine ⟨fun p hp=>?_,fun q hq hq1=>?_⟩
  · rw [pf]
    rcases tG hn hp with e | ⟨h1,h2⟩
    · rw [e,if_pos (kN.2 ⟨hk,rfl⟩)]
    · rw [if_neg (fun e=>h2 (kN.1 e).2.symm)]; exact h.1 p h1
  · rw [Ag]
    rcases List.mem_append.1 hq with hq | hq
    · rw [h.2 q hq hq1]; rfl
    · rw [List.mem_singleton] at hq; subst hq; simp
def ib (ds:List (RecV × Nat)):List RecV:=(ds.map Prod.fst).filter fun v=>decide (v.r.Length ≠ -1)
theorem yb {ds:List (RecV × Nat)}{q:RecV × Nat}(h:q.1.r.Length ≠ -1):ib (ds++[q])=ib ds++[q.1]:=by unfold ib; rw [List.map_append,List.filter_append]; simp [h]
theorem zP {ds:List (RecV × Nat)}{q:RecV × Nat}(h:q.1.r.Length = -1):ib (ds++[q])=ib ds:=by unfold ib; rw [List.map_append,List.filter_append]; simp [h]
theorem rH {ds:List (RecV × Nat)}:(ib ds).length≤ds.length:=Nat.le_trans (List.length_filter_le _ _) σ
theorem ze {ds:List (RecV × Nat)}(h:MapIs xs ps) (ok:MapOK ps c) (hd:ds.Nodup) (h1:∀ q∈ds,q∈ps) (h2:∀ q∈ps,q∈ds):((ib ds).map RecV.r).Perm (nO xs):=by
  have hp:ds.Perm ps:=(List.perm_ext_iff_of_nodup hd ok.nodup).2 fun q=>⟨h1 q,h2 q⟩
  have hn:((ds.map Prod.fst).map fun v=>v.r.Name).Nodup:=by
    rw [List.map_map]; exact (hp.map fun p=>p.1.r.Name).nodup_iff.2 ok.names
  have hk:(((ib ds).map RecV.r).map dQ).Nodup:=by
    have h3:((ib ds).map fun v=>v.r.Name).Nodup:=by
      unfold ib
      exact hn.sublist (List.filter_sublist.map _)
    rw [List.map_map]
    rw [List.Nodup,List.pairwise_map] at h3 ⊢
    exact h3.imp fun hne e=>hne (um.1 e)
  refine (List.perm_ext_iff_of_nodup (km hk) (km iQ)).2 fun r=>?_
  rw [nb]
  unfold ib
  constructor
  · intro hr
    obtain ⟨v,hv,rfl⟩:=List.mem_map.1 hr
    rw [List.mem_filter] at hv
    obtain ⟨p,hp2,e⟩:=List.mem_map.1 hv.1
    subst e
    have hl:=h.1 p (h1 p hp2)
    exact ⟨(oF hl).2.1,by simpa using hv.2,hl⟩
  · rintro ⟨a,b,d⟩
    obtain ⟨m1,_,_⟩:=oF d
    obtain ⟨p,hp2,e⟩:=Ay.1 (h.2 r m1 a)
    have hl:=h.1 p hp2
    rw [e,d] at hl
    refine List.mem_map.2 ⟨p.1,?_,(Option.some.inj hl).symm⟩
    rw [List.mem_filter]
    exact ⟨List.mem_map.2 ⟨p,h2 p hp2,rfl⟩,by rw [← Option.some.inj hl]; simpa using b⟩
theorem AO:(gt v c ps).length≤ps.length+1:=by
  induction ps with
  | nil=>exact Nat.le_refl _
  | cons a asg ih=>rw [gt]; split<;>simp<;>omega
end
end Go.Wk
namespace Go.Wk
open Rp (sz own)
noncomputable def ly (z:Wld):RecsResult:=if bF z=0 then ⟨0,hY z⟩ else ⟨bF z,[]⟩
section
variable {z:Wld}{nm:ByteArray}{r:Rec}
theorem za (h:bF z≠0):ly z=⟨bF z,[]⟩:=if_neg h
theorem qU (h:bF z=0):ly z=⟨0,hY z⟩:=if_pos h
end
end Go.Wk
namespace Go.Wk
open Rp (sz own)
open Go.Shelf Go.Lib Go.Sort Go.Proofs
theorem xL {α K:Type}{lt:K→K→Prop}{key:α→K}:∀ {l:List α},(∀ i j (hj:j<l.length) (hi:i<j),¬ lt (key l[j]) (key (l[i]'(Nat.lt_trans hi hj))))→Ord lt key l
  | [],_ => .nil
  | x::xs,h=>by
    refine .cons (fun y hy=>?_) (xL fun i j hj hi=>?_)
    · obtain ⟨k,hk,e⟩:=List.getElem_of_mem hy
      have:=h 0 (k+1) (by simpa using hk) ω
      simpa [e] using this
    · have:=h (i+1) (j+1) (by simpa using hj) ω
      simpa using this
theorem ut {w:World}:∀ {us:List RecV}{cs:List Value},(∀ k (hk:k<us.length) j,j<9→cs[k*9+j]? = us[k].cs[j]?)→(∀ u∈us,u.r.Ok)→cj true w cs us []
  | [],_,_,_=>rfl
  | u::us,cs,h,ok=>by
    refine ⟨[],[],rfl,⟨?_,rfl,ok u (List.mem_cons_self ..)⟩,ut (fun k hk j hj=>?_) fun x hx=>ok x (List.mem_cons_of_mem _ hx)⟩
    · apply List.ext_getElem?
      intro j
      show (cs.take 9)[j]? = u.cs[j]?
      rw [List.getElem?_take]
      split
      · next hj=>have:=h 0 σ j hj; simpa using this
      · next hj=>rw [List.getElem?_eq_none]; show u.cs.length≤j; simp only [RecV.cs,List.length_cons,List.length_nil]; omega
    · show (cs.drop 9)[k*9+j]? = _
      rw [List.getElem?_drop]
      have:=h (k+1) (by simpa using hk) j hj
      rw [show 9+(k*9+j)=(k+1)*9+j by omega]
      simpa using this
theorem tk {v:RecV}:v.cs.length=9:=rfl
def cfN (x y:RecV):Int:=Lib.compareBytes x.r.Name.data.toList y.r.Name.data.toList
theorem tx {x y:RecV}:cfN x y<0↔nLt (nameV x) (nameV y):=by
  unfold cfN nameV dQ
  rw [ByteArray.toList_eq,ByteArray.toList_eq]
  exact xU
theorem Bw:SWO (ltOf cfN) where
  irrefl x:=by
    unfold ltOf
    rw [decide_eq_false]
    rw [tx]; exact uh.irr _
  trans x y z h1 h2:=by
    unfold ltOf at *
    rw [decide_eq_true_eq,tx] at *
    exact uh.tr _ _ _ h1 h2
  ntrans x y z h1 h2:=by
    unfold ltOf at *
    rw [decide_eq_false_iff_not,tx] at *
    intro h3
    rcases uh.tot (nameV x) (nameV y) with c | c | c
    · exact h1 c
    · rw [c] at h3; exact h2 h3
    · exact h2 (uh.tr _ _ _ c h3)
section
variable {w:World}{b o cap:Nat}{vs:List RecV}{fp:List Nat}
theorem Bg (h:own true w [.slice (some ⟨b,o,none⟩) vs.length cap] vs fp) (h0:0<vs.length):HoldsK RecV.cs 9 w b o vs.toArray∧b<w.heap.size:=by
  rcases h with ⟨hf,_⟩ | ⟨e,_⟩ | ⟨b',o',cap',cur,T,fr,fs,h1,h2,h3,h4,h5,h6,h7,h8⟩
  · cases hf
  · simp at e
  · have hw:own true w [.slice (some ⟨b,o,none⟩) vs.length cap] vs fp := .inr (.inr ⟨b',o',cap',cur,T,fr,fs,h1,h2,h3,h4,h5,h6,h7,h8⟩)
    simp only [List.cons.injEq,Value.slice.injEq,Option.some.injEq,Addr.mk.injEq,and_true] at h1
    obtain ⟨⟨rfl,rfl⟩,_,_⟩:=h1
    have hfr:=h4 rfl
    subst hfr
    refine ⟨fun t ht=>?_,(Array.getElem?_eq_some_iff.1 h3).1⟩
    rw [size_flatK,List.size_toArray] at ht
    rw [get_flatK _ _ _ t (by simpa using ht)]
    have hk:t / 9<vs.length:=by omega
    obtain ⟨b2,o2,cs,f,e,hat,hx,_⟩:=d9 hw (t / 9) hk
    simp only [Option.some.injEq,Addr.mk.injEq,and_true] at e
    obtain ⟨rfl,rfl⟩:=e
    have hm:t % 9<9:=Nat.mod_lt _ ω
    have hat2:=hat (t % 9) (vs[t / 9].cs[t % 9]'(by rw [tk]; exact hm)) (by
      rw [hx.1]; exact List.getElem?_eq_getElem _)
    have e9:o+t / 9*sz RecV+t % 9=o+t:=by
      show o+t / 9*9+t % 9=o+t
      omega
    rw [e9] at hat2
    refine ⟨?_,oz h3⟩
    rw [hat2]
    have e1:vs.toArray[t / 9]! = vs[t / 9]:=by rw [getElem!_pos vs.toArray (t / 9) (by simpa using hk)]; simp
    rw [e1,getElem!_pos vs[t / 9].cs (t % 9) (by rw [tk]; exact hm)]
    rfl
theorem AM (h:own true w [.slice (some ⟨b,o,none⟩) vs.length cap] vs fp) (hn:fp.Nodup) (h0:0<vs.length) {d:Array RecV}{n:Nat}{os:Array Obj}(hs:d.size=vs.length) (hok:∀ u∈d.toList,u.r.Ok) :
    Mut w (sortWorldK RecV.cs 9 w b o n d os) fp [.slice (some ⟨b,o,none⟩) vs.length cap] d.toList:=by
  rcases h with ⟨hf,_⟩ | ⟨e,_⟩ | ⟨b',o',cap',cur,T,fr,fs,h1,h2,h3,h4,h5,h6,h7,h8⟩
  · cases hf
  · simp at e
  · simp only [List.cons.injEq,Value.slice.injEq,Option.some.injEq,Addr.mk.injEq,and_true] at h1
    obtain ⟨⟨rfl,rfl⟩,_,hcp⟩:=h1
    subst hcp
    have hfr:=h4 rfl
    subst hfr
    have hfs:=(kp 0 h8).2
    subst hfs
    subst h2
    have hlt:=(Array.getElem?_eq_some_iff.1 h3).1
    have hsz:(sortWorldK RecV.cs 9 w b o n d os).heap.size=w.heap.size+os.size:=by
      unfold sortWorldK putRowK Go.Sort.putRow Go.Sort.mapBlock Go.Sort.grow Go.Sort.ahead
      simp
    have hget:∀ c,c<w.heap.size→(sortWorldK RecV.cs 9 w b o n d os).heap[c]? = (w.heap.modify b (Go.Sort.onCells (Go.Sort.putCells id o (flatK RecV.cs 9 d))))[c]? := fun c hc=>by
      unfold sortWorldK putRowK Go.Sort.putRow Go.Sort.mapBlock Go.Sort.grow Go.Sort.ahead
      dsimp only
      rw [Array.getElem?_append_left (by simpa using hc)]
    have hb:(sortWorldK RecV.cs 9 w b o n d os).heap[b]? = some (.cells (Go.Sort.putCells id o (flatK RecV.cs 9 d) cur) T (0,0)):=by
      rw [hget b hlt,Array.getElem?_modify,if_pos rfl,h3]; rfl
    refine ⟨⟨rfl,rfl,rfl,by rw [hsz]; omega,fun c hc hm=>?_⟩,[b],.inr (.inr ⟨b,o,cap,_,T,(0,0),[],by rw [show d.toList.length=vs.length from (Array.length_toList ..).trans hs],rfl,hb,fun _=>rfl,by rw [show d.toList.length=vs.length from (Array.length_toList ..).trans hs]; exact h5,h6,?_,?_⟩),hn,fun c hc => .inl hc⟩
    · rw [hget c hc,Array.getElem?_modify,if_neg (fun e=>hm (by rw [e]; exact List.mem_singleton.2 rfl))]
    · have:(Go.Sort.putCells id o (flatK RecV.cs 9 d) cur).size=cur.size:=by simp [Go.Sort.putCells]
      rw [this]; exact h7
    · refine ut (fun k hk j hj=>?_) hok
      rw [Array.length_toList,hs] at hk
      have h7':o+cap*9≤cur.size:=h7
      have hin:o+(k*9+j)<cur.size:=by omega
      rw [List.getElem?_drop,Array.getElem?_toList]
      unfold Go.Sort.putCells
      rw [Array.getElem?_mapIdx,Array.getElem?_eq_getElem hin,Option.map_some]
      rw [if_pos ⟨ω,by rw [size_flatK,hs]; omega⟩,show o+(k*9+j)-o=k*9+j by omega]
      rw [get_flatK _ _ _ _ (by rw [hs]; omega),show (k*9+j) / 9=k by omega,show (k*9+j) % 9=j by omega]
      have e1:d[k]! = d.toList[k]'(by rw [Array.length_toList,hs]; exact hk):=by rw [getElem!_pos d k (by rw [hs]; exact hk)]; simp
      rw [e1,getElem!_pos _ j (by rw [tk]; exact hj),List.getElem?_eq_getElem (by rw [tk]; exact hj)]
      rfl
end
theorem wK {P:Program}{ρ:Go.Shelf.Ren}{w:World}{A:Option Addr}{n C:Nat}{vs:List RecV}{fp:List Nat}{g:FuncId}(L:SlLaysF0.n6 P ρ) (aE:∀ w,(isAgg (ρ.t 24)).run P w = .ok true w) (zE:∀ w,(Go.sizeOf (ρ.t 24)).run P w = .ok 9 w) (eg:∀ args w,(callFunc g args).run P w = .ok (.enter g args) w)
    (hc:∀ (W:World) (x y:RecV),Calls P g #[.agg x.cs.toArray,.agg y.cs.toArray] W fun e w'=>e = .returned (.int .i64 (cfN x y))∧∃ q os',w'=Go.Sort.grow (W.drewN q) os')
    (o:own true w [.slice A n C] vs fp) (nd:fp.Nodup) (hl:vs.length≤1000000):Ret P (ρ.f 6) #[.slice A n C,.func (.func g) #[] #[]] w fun v w'=>∃ us,Mut w w' fp [.slice A n C] us∧us.Perm vs∧Ord nLt nameV us:=by
  obtain rfl:=dI o
  by_cases h0:vs.length=0
  · have e:=List.eq_nil_of_length_eq_zero h0
    subst e
    exact Calls.mono (Go.Proofs.AnyF.slices_SortFunc_none L A C _ w) fun e w' ⟨h1,h2⟩=>⟨_,h1,[],by subst h2; exact ⟨Ext.refl,fp,o,nd,fun b hb => .inl hb⟩,.refl _,.nil⟩
  · obtain ⟨b,off,hA⟩:=ez o 0 ω
    obtain rfl:A=some ⟨b,off,none⟩:=hA
    obtain ⟨hH,hblk⟩:=Bg o ω
    have hokL:∀ u∈vs,u.r.Ok:=fun u hu=>by
      obtain ⟨k,hk,e⟩:=List.getElem_of_mem hu
      obtain ⟨_,_,_,_,_,_,hx,_⟩:=d9 o k hk
      rw [← e]; exact hx.2.2
    have hs:=Go.Proofs.AnyQ.slices_SortFunc L 9 aE zE RecV.cs (fun _=>rfl) (fun _ v hv=>RecV.one v hv) cfN Bw g #[] b off C vs.toArray w eg (fun m os dk _ x y=>hc _ x y) hH hblk (by simp; omega)
    simp only [List.size_toArray] at hs
    refine Calls.mono hs fun e w' ⟨h1,d',n',os',hP,hS,hw⟩=>⟨_,h1,d'.toList,?_,?_,?_⟩
    · have hsz:d'.size=vs.length:=by have:=hP.1; simpa using this
      rw [hw]
      refine AM o nd ω hsz fun u hu=>hokL u ?_
      have hp:=hP.2.2
      rw [show d'.extract 0 vs.length=d' by rw [← hsz]; simp,show vs.toArray.extract 0 vs.length=vs.toArray by simp] at hp
      simpa using hp.mem_iff.1 hu
    · have hsz:d'.size=vs.length:=by have:=hP.1; simpa using this
      have hp:=hP.2.2
      rw [show d'.extract 0 vs.length=d' by rw [← hsz]; simp,show vs.toArray.extract 0 vs.length=vs.toArray by simp] at hp
      simpa using hp
    · have hsz:d'.size=vs.length:=by have:=hP.1; simpa using this
      refine xL fun i j hj hi=>?_
      rw [Array.length_toList,hsz] at hj
      have:=hS i j (Nat.zero_le _) hi hj
      unfold ltOf at this
      rw [decide_eq_false_iff_not,tx,getElem!_pos d' j ω,getElem!_pos d' i ω] at this
      simpa using this
end Go.Wk
namespace Go.Wk
open Go.Proofs
theorem ts0:type_of% @Tryz.sizeOf0 := @Tryz.sizeOf0
theorem cG:type_of% @Tryz.sizeOf123 := @Tryz.sizeOf123
theorem Dg:type_of% @Tryz.sizeOf168 := @Tryz.sizeOf168
theorem ts2:type_of% @Tryz.sizeOf2 := @Tryz.sizeOf2
theorem CW:type_of% @Tryz.sizeOf226 := @Tryz.sizeOf226
theorem C2:type_of% @Tryz.sizeOf241 := @Tryz.sizeOf241
theorem CT:type_of% @Tryz.sizeOf242 := @Tryz.sizeOf242
theorem CY:type_of% @Tryz.sizeOf246 := @Tryz.sizeOf246
theorem CZ:type_of% @Tryz.sizeOf249 := @Tryz.sizeOf249
theorem bS:type_of% @Tryz.sizeOf25 := @Tryz.sizeOf25
theorem Dv:type_of% @Tryz.sizeOf251 := @Tryz.sizeOf251
theorem Dq:type_of% @Tryz.sizeOf257 := @Tryz.sizeOf257
theorem Dh:type_of% @Tryz.sizeOf261 := @Tryz.sizeOf261
theorem Do:type_of% @Tryz.sizeOf263 := @Tryz.sizeOf263
theorem Da:type_of% @Tryz.sizeOf264 := @Tryz.sizeOf264
theorem ts3:type_of% @Tryz.sizeOf3 := @Tryz.sizeOf3
theorem br:type_of% @Tryz.sizeOf30 := @Tryz.sizeOf30
theorem dS:type_of% @Tryz.sizeOf31 := @Tryz.sizeOf31
theorem dt:type_of% @Tryz.sizeOf32 := @Tryz.sizeOf32
theorem cd:type_of% @Tryz.sizeOf34 := @Tryz.sizeOf34
theorem iP:type_of% @Tryz.sizeOf36 := @Tryz.sizeOf36
theorem ts4:type_of% @Tryz.sizeOf4 := @Tryz.sizeOf4
theorem bk:type_of% @Tryz.sizeOf44 := @Tryz.sizeOf44
theorem aH:type_of% @Tryz.sizeOf47 := @Tryz.sizeOf47
theorem ts5:type_of% @Tryz.sizeOf5 := @Tryz.sizeOf5
theorem jR:type_of% @Tryz.sizeOf51 := @Tryz.sizeOf51
theorem ld:type_of% @Tryz.sizeOf52 := @Tryz.sizeOf52
theorem gn:type_of% @Tryz.sizeOf54 := @Tryz.sizeOf54
theorem lg:type_of% @Tryz.sizeOf56 := @Tryz.sizeOf56
theorem eB:type_of% @Tryz.sizeOf61 := @Tryz.sizeOf61
theorem nU:type_of% @Tryz.sizeOf63 := @Tryz.sizeOf63
theorem Bp:type_of% @Tryz.sizeOf69 := @Tryz.sizeOf69
theorem ts9:type_of% @Tryz.sizeOf9 := @Tryz.sizeOf9
theorem tu0:type_of% @Tryz.underlying0 := @Tryz.underlying0
theorem cP:type_of% @Tryz.underlying123 := @Tryz.underlying123
theorem sn:type_of% @Tryz.underlying136 := @Tryz.underlying136
theorem C0:type_of% @Tryz.underlying168 := @Tryz.underlying168
theorem Cl:type_of% @Tryz.underlying181 := @Tryz.underlying181
theorem xI:type_of% @Tryz.underlying198 := @Tryz.underlying198
theorem tu2:type_of% @Tryz.underlying2 := @Tryz.underlying2
theorem Ad:type_of% @Tryz.underlying215 := @Tryz.underlying215
theorem AB:type_of% @Tryz.underlying218 := @Tryz.underlying218
theorem nM:type_of% @Tryz.underlying226 := @Tryz.underlying226
theorem Dn:type_of% @Tryz.underlying241 := @Tryz.underlying241
theorem Dk:type_of% @Tryz.underlying242 := @Tryz.underlying242
theorem Dl:type_of% @Tryz.underlying246 := @Tryz.underlying246
theorem Dc:type_of% @Tryz.underlying249 := @Tryz.underlying249
theorem bj:type_of% @Tryz.underlying25 := @Tryz.underlying25
theorem Dw:type_of% @Tryz.underlying251 := @Tryz.underlying251
theorem Dp:type_of% @Tryz.underlying257 := @Tryz.underlying257
theorem C4:type_of% @Tryz.underlying261 := @Tryz.underlying261
theorem Dx:type_of% @Tryz.underlying263 := @Tryz.underlying263
theorem Du:type_of% @Tryz.underlying264 := @Tryz.underlying264
theorem tu3:type_of% @Tryz.underlying3 := @Tryz.underlying3
theorem be:type_of% @Tryz.underlying30 := @Tryz.underlying30
theorem cz:type_of% @Tryz.underlying31 := @Tryz.underlying31
theorem bW:type_of% @Tryz.underlying32 := @Tryz.underlying32
theorem aV:type_of% @Tryz.underlying34 := @Tryz.underlying34
theorem jL:type_of% @Tryz.underlying36 := @Tryz.underlying36
theorem tu4:type_of% @Tryz.underlying4 := @Tryz.underlying4
theorem bL:type_of% @Tryz.underlying44 := @Tryz.underlying44
theorem au:type_of% @Tryz.underlying47 := @Tryz.underlying47
theorem tu5:type_of% @Tryz.underlying5 := @Tryz.underlying5
theorem dD:type_of% @Tryz.underlying51 := @Tryz.underlying51
theorem fl:type_of% @Tryz.underlying52 := @Tryz.underlying52
theorem ik:type_of% @Tryz.underlying54 := @Tryz.underlying54
theorem l6:type_of% @Tryz.underlying56 := @Tryz.underlying56
theorem aO:type_of% @Tryz.underlying61 := @Tryz.underlying61
theorem oD:type_of% @Tryz.underlying63 := @Tryz.underlying63
theorem BG:type_of% @Tryz.underlying69 := @Tryz.underlying69
theorem BZ:type_of% @Tryz.underlying77 := @Tryz.underlying77
theorem tu9:type_of% @Tryz.underlying9 := @Tryz.underlying9
end Go.Wk
namespace Go.Wk
open Go.Proofs Rp Go.Proofs.Tryz
set_option maxRecDepth 10000
section
open Go.Shelf Go.RowKit Go.Lib Go.Sort Go.Proofs
def ro:Go.Shelf.Ren:=⟨fun x=>match x with | 6=>174 | 15=>238 | 14=>237 | 28=>278 | 29=>279 | 20=>261 | 21=>271 | 22=>272 | 23=>273 | 24=>274 | 25=>275 | 26=>276 | 27=>277 | 46=>293 | 47=>294 | 48=>295 | 49=>296 | 50=>297 | 57=>299 | n=>n,fun x=>match x with | 22=>61 | 24=>47 | 25=>168 | 3=>3 | 39=>226 | 0=>0 | 53=>249 | 55=>251 | 4=>4 | 46=>242 | 45=>241 | 50=>246 | 5=>5 | 9=>9 | 66=>257 | 70=>261 | 76=>263 | 77=>264 | n=>n,fun x=>x⟩
theorem rk:SlLaysF0.n6 Tryz.prog ro where
 mixed:=by kernel_rfl
 f6:=⟨ "slices.SortFunc[[]loop.example/g00089/impl.Rec,loop.example/g00089/impl.Rec]",by decide,func174.trans (congrArg some κ)⟩
 f14:=⟨ "slices.pdqsortCmpFunc[loop.example/g00089/impl.Rec]",by decide,func237.trans (congrArg some κ)⟩
 f15:=func238.trans (congrArg some κ)
 f20:=⟨ "slices.insertionSortCmpFunc[loop.example/g00089/impl.Rec]",by decide,func261.trans (congrArg some κ)⟩
 f21:=⟨ "slices.heapSortCmpFunc[loop.example/g00089/impl.Rec]",by decide,func271.trans (congrArg some κ)⟩
 f22:=⟨ "slices.breakPatternsCmpFunc[loop.example/g00089/impl.Rec]",by decide,func272.trans (congrArg some κ)⟩
 f23:=⟨ "slices.choosePivotCmpFunc[loop.example/g00089/impl.Rec]",by decide,func273.trans (congrArg some κ)⟩
 f24:=⟨ "slices.reverseRangeCmpFunc[loop.example/g00089/impl.Rec]",by decide,func274.trans (congrArg some κ)⟩
 f25:=⟨ "slices.partialInsertionSortCmpFunc[loop.example/g00089/impl.Rec]",by decide,func275.trans (congrArg some κ)⟩
 f26:=⟨ "slices.partitionEqualCmpFunc[loop.example/g00089/impl.Rec]",by decide,func276.trans (congrArg some κ)⟩
 f27:=⟨ "slices.partitionCmpFunc[loop.example/g00089/impl.Rec]",by decide,func277.trans (congrArg some κ)⟩
 f28:=func278.trans (congrArg some κ)
 f29:=func279.trans (congrArg some κ)
 f46:=⟨ "slices.siftDownCmpFunc[loop.example/g00089/impl.Rec]",by decide,func293.trans (congrArg some κ)⟩
 f47:=func294.trans (congrArg some κ)
 f48:=func295.trans (congrArg some κ)
 f49:=⟨ "slices.medianAdjacentCmpFunc[loop.example/g00089/impl.Rec]",by decide,func296.trans (congrArg some κ)⟩
 f50:=⟨ "slices.medianCmpFunc[loop.example/g00089/impl.Rec]",by decide,func297.trans (congrArg some κ)⟩
 f57:=⟨ "slices.order2CmpFunc[loop.example/g00089/impl.Rec]",by decide,func299.trans (congrArg some κ)⟩
 t0:=tu0
 a0:=isAgg0
 z0:=ts0
 v0:=zeroValue0
 t3:=tu3
 a3:=isAgg3
 z3:=ts3
 v3:=zeroValue3
 t4:=tu4
 a4:=isAgg4
 z4:=ts4
 v4:=zeroValue4
 t5:=tu5
 a5:=isAgg5
 z5:=ts5
 v5:=zeroValue5
 t9:=tu9
 a9:=isAgg9
 z9:=ts9
 v9:=zeroValue9
 t22:=aO
 a22:=isAgg61
 z22:=eB
 v22:=zeroValue61
 t25:=C0
 a25:=isAgg168
 z25:=Dg
 v25:=zeroValue168
 t39:=nM
 a39:=isAgg226
 z39:=CW
 v39:=zeroValue226
 t45:=Dn
 a45:=isAgg241
 z45:=C2
 v45:=zeroValue241
 t46:=Dk
 a46:=isAgg242
 z46:=CT
 v46:=zeroValue242
 t50:=Dl
 a50:=isAgg246
 z50:=CY
 v50:=zeroValue246
 t53:=Dc
 a53:=isAgg249
 z53:=CZ
 v53:=zeroValue249
 t55:=Dw
 a55:=isAgg251
 z55:=Dv
 v55:=zeroValue251
 t66:=Dp
 a66:=isAgg257
 z66:=Dq
 v66:=zeroValue257
 t70:=C4
 a70:=isAgg261
 z70:=Dh
 v70:=zeroValue261
 t76:=Dx
 a76:=isAgg263
 z76:=Do
 v76:=zeroValue263
 t77:=Du
 a77:=isAgg264
 z77:=Da
 v77:=zeroValue264
def sY:Go.Shelf.Ren:=⟨fun x=>match x with | 106=>176 | 213=>239 | 265=>280 | n=>n,fun x=>match x with | 9=>9 | 3=>3 | n=>n,fun x=>x⟩
theorem s5:Lays.n106 Tryz.prog sY where
 mixed:=by kernel_rfl
 f106:=func176.trans (congrArg some κ)
 f213:=func239.trans (congrArg some κ)
 f265:=func280.trans (congrArg some κ)
 t3:=tu3
 a3:=isAgg3
 z3:=ts3
 v3:=zeroValue3
 t9:=tu9
 a9:=isAgg9
 z9:=ts9
 v9:=zeroValue9
set_option maxHeartbeats 1000000 in
theorem sQ (x y:RecV) (W:World):Calls Tryz.prog 175 #[.agg x.cs.toArray,.agg y.cs.toArray] W fun e w'=>e = .returned (.int .i64 (cfN x y))∧∃ q os',w'=Go.Sort.grow (W.drewN q) os':=by
 have hcon:=fun W'=>Any.strings_Compare s5 x.r.Name y.r.Name W'
 change ∀ W',Calls Tryz.prog 176 _ _ _ at hcon
 change Calls Tryz.prog 175 _ _ fun e w'=>e = .returned (.int .i64 (Lib.compareBytes x.r.Name.data.toList y.r.Name.data.toList))∧_
 generalize Lib.compareBytes x.r.Name.data.toList y.r.Name.data.toList=r at hcon ⊢
 unfold RecV.cs
 go_enter func175,ntmps175
 go_wp2_with (go_at_call 176; refine (hcon _).mono ?_; rintro e w' ⟨rfl,rfl⟩)
 go_ret
 exact ⟨Z,0,_,by rw [alloc_eq_grow,alloc_eq_grow,grow_grow]; rfl⟩
theorem wM {w:World}{a:Option Addr}{n c:Nat}{vs:List RecV}{fp:List Nat}(o:own true w [.slice a n c] vs fp) (nd:fp.Nodup) (hl:vs.length≤1000000):Ret Tryz.prog 174 #[.slice a n c,.func (.func 175) #[] #[]] w fun v w'=>∃ us,Mut w w' fp [.slice a n c] us∧us.Perm vs∧Ord nLt nameV us:=
 wK (g:=175) rk Tryz.isAgg47 aH (enters_of Tryz.func175 κ rfl) (fun W x y=>sQ x y W) o nd hl
end
end Go.Wk
namespace Go.Wk
open Go.Proofs Rp Go.Proofs.Tryz
set_option maxRecDepth 10000
theorem kV {w:World}{xs:List Int}{xsA:Option Addr}{xsC:Nat}{x:Int}(xsS:Sees w [.slice xsA xs.length xsC] xs):Ret Tryz.prog 117 #[.slice xsA xs.length xsC,.int .i64 x] w fun v w'=>Ext No w w'∧(v = .bool (decide (x∈xs))):=by
 have xsL:=sL xsS;obtain ⟨xsF,xsO⟩:=xsS;refine aR func117 Z ntmps117 Z (fun Q hQ hN=>?_);have H0:=Sep.start (ag xsO aD);refine ah (sA Z Z (aa (ae (ah (sA Z Z (aa (ar (cm (γ:=Nat) (fun k=>[(0,.slice xsA xs.length xsC),(1,.int .i64 x),(5,.int .i64 k)]) (fun k w'=>Sep No w [] [seen false [.slice xsA xs.length xsC] xs xsF] w'∧k≤xs.length∧(∀ i,i<k→xs.getD i 0≠x)) (fun k=>xs.length-k) 0 ⟨Z,Z,Z,trivial⟩ ⟨H0,ω,fun i hi=>by omega⟩ (fun k w1 H1=>?_)))))))));obtain ⟨H1,hk,he⟩:=H1;refine ae (ah (sR 2 Z (sV Z (aN bj Z) (sV Z (ba Z Z) (aa (az Z (fun c1=>?_) (fun c1=>?_)))))))
 ·refine ao (ae (ar (ae ?_)));obtain ⟨eb1,eo1,ee1,ec1⟩:=df (H1.seen 0 Z) k ω;have eI1:=dr (H1.seen 0 Z) k ω;refine an (sR 2 Z (sV Z (aB bj ts2 Z Z ee1 k ω ω) (sV Z (ac tu2 Z Z ec1) (sR 2 Z (aa (az Z (fun c2=>?_) (fun c2=>?_)))))))
  ·refine ah (rA hQ results117 Z ?_);exact ⟨H1.ext,by rw [decide_eq_true (nR (d:=0) (k:=k) ω c2)]⟩
  ·refine ao (an (sM Z Z (sV Z (aC Z Z iO) (sA Z Z (aa (⟨k+1,⟨Z,Z,Z,trivial⟩,⟨H1,ω,fun i hi=>?_⟩,θ⟩))))))
   by_cases e:i=k
   ·subst e; omega
   ·exact he i ω
 ·refine aX (ah (rA hQ results117 Z ?_));exact ⟨H1.ext,by rw [decide_eq_false (nE (d:=0) fun i hi=>he i ω)]⟩
theorem hZ {w:World}{xs:List Int}{xsA:Option Addr}{xsC:Nat}{x:Int}(xsS:Sees w [.slice xsA xs.length xsC] xs):Ret Tryz.prog 223 #[.slice xsA xs.length xsC,.int .i64 x] w fun v w'=>Ext No w w'∧(v = .int .i64 (idxOf xs x)):=by
 have xsL:=sL xsS;obtain ⟨xsF,xsO⟩:=xsS;refine aR func223 Z ntmps223 Z (fun Q hQ hN=>?_);have H0:=Sep.start (ag xsO aD);refine ah (sA Z Z (aa (ae (ah (sM Z Z (sV Z (aN bj Z) (sM Z Z (aa (ar (cm (γ:=Nat) (fun k=>[(0,.slice xsA xs.length xsC),(1,.int .i64 x),(7,.int .i64 xs.length),(8,.int .i64 k)]) (fun k w'=>Sep No w [] [seen false [.slice xsA xs.length xsC] xs xsF] w'∧k≤xs.length∧(∀ i,i<k→xs.getD i 0≠x)) (fun k=>xs.length-k) 0 ⟨Z,Z,Z,Z,trivial⟩ ⟨H0,ω,fun i hi=>by omega⟩ (fun k w1 H1=>?_)))))))))));obtain ⟨H1,hk,he⟩:=H1;refine ah (sV Z (ba Z Z) (aa (ae (az Z (fun c1=>?_) (fun c1=>?_)))))
 ·refine ao (ae (ar (ah (sR 2 Z (aa (ae ?_))))));obtain ⟨eb1,eo1,ee1,ec1⟩:=df (H1.seen 0 Z) k ω;have eI1:=dr (H1.seen 0 Z) k ω;refine an (sR 3 Z (sV Z (aB bj ts2 Z Z ee1 k ω ω) (sV Z (ac tu2 Z Z ec1) (sV Z (bH Z Z) (aa (az Z (fun c2=>?_) (fun c2=>?_)))))))
  ·refine ah (sR 2 Z (rN hQ results223 Z ?_));exact ⟨H1.ext,congrArg (Value.int .i64) (zr ω c2.symm he).symm⟩
  ·refine ao (an (sV Z (aC Z Z iO) (sM Z Z (aa (⟨k+1,⟨Z,Z,Z,Z,trivial⟩,⟨H1,ω,fun i hi=>?_⟩,θ⟩)))))
   by_cases e:i=k
   ·subst e; omega
   ·exact he i ω
 ·refine aX (ah (rA hQ results223 Z ?_));exact ⟨H1.ext,congrArg (Value.int .i64) (Ab fun i hi=>he i ω).symm⟩
theorem cW {w:World}{xs:List Int}{xsA:Option Addr}{xsC:Nat}{x:Int}(xsS:Sees w [.slice xsA xs.length xsC] xs):Ret Tryz.prog 149 #[.slice xsA xs.length xsC,.int .i64 x] w fun v w'=>Ext No w w'∧(v = .bool (decide (x∈xs))):=by
 have xsL:=sL xsS;obtain ⟨xsF,xsO⟩:=xsS;refine aR func149 Z ntmps149 Z (fun Q hQ hN=>?_);have H0:=Sep.start (ag xsO aD);refine ah (sA Z Z (aa (ah (sR 2 Z (sE func223 vg Z (hZ (H0.sees 0 Z)) H0 (fun w1 e1 H1=>sR 2 Z (rN hQ results149 Z ?_)))))));exact ⟨H1.ext,by rw [yn]⟩
end Go.Wk
namespace Go.Wk
open Go.Proofs Rp Go.Proofs.Tryz
set_option maxRecDepth 10000
theorem bt {w:World}{v0 lo hi:Int}  : Ret Tryz.prog 121 #[.int .i64 v0,.int .i64 lo,.int .i64 hi] w fun v w'=>Ext No w w'∧(v = .bool (ins v0 lo hi)):=by
 refine aR func121 Z ntmps121 Z (fun Q hQ hN=>?_);have H0:=Sep.start (w:=w) (F:=[]) σ;refine ah (sA Z Z (aa (ah (sR 4 Z (bv 3 (j:=3) (want:=true) (t:=13) Z Z Z Z (fun hg1 kk1=>am (wgE Z Z Z hg1) Z Z (aF Z) (am (wgE Z Z Z hg1) Z Z (aF Z) (am (wgE Z Z Z hg1) Z Z (ot Z Z) (kk1 _ _ (kx Z (kx Z (kx Z k0))) Z Ext.refl)))) (fun w1 e1=>?_))))));have H1:=H0.to e1;refine sV Z (bc Z Z) (rA hQ results121 Z ?_);exact ⟨H1.ext,Z⟩
theorem bq {w:World}{v0 lo hi:Int}  : Ret Tryz.prog 77 #[.int .i64 v0,.int .i64 lo,.int .i64 hi] w fun v w'=>Ext No w w'∧(v = .bool (ins v0 lo hi)):=by
 refine aR func77 Z ntmps77 Z (fun Q hQ hN=>?_);have H0:=Sep.start (w:=w) (F:=[]) σ;refine ah (sA Z Z (aa (ah (sR 4 Z (bv 3 (j:=3) (want:=true) (t:=13) Z Z Z Z (fun hg1 kk1=>am (wgE Z Z Z hg1) Z Z (aF Z) (am (wgE Z Z Z hg1) Z Z (aF Z) (am (wgE Z Z Z hg1) Z Z (ot Z Z) (kk1 _ _ (kx Z (kx Z (kx Z k0))) Z Ext.refl)))) (fun w1 e1=>?_))))));have H1:=H0.to e1;refine sV Z (bc Z Z) (rA hQ results77 Z ?_);exact ⟨H1.ext,Z⟩
theorem nv {w:World}{x y:Int}  : Ret Tryz.prog 119 #[.int .i64 x,.int .i64 y] w fun v w'=>Ext No w w'∧(v = .bool (cOK x y)):=by
 refine aR func119 Z ntmps119 Z (fun Q hQ hN=>?_);have H0:=Sep.start (w:=w) (F:=[]) σ;refine ah (sA Z Z (aa (ah (sM Z Z (sE func121 bX Z bt H0 (fun w1 e1 H1=>sM Z Z (bv 2 (j:=2) (want:=true) (t:=9) Z Z Z Z (fun hg1 kk1=>am (wgE Z Z Z hg1) Z Z (aF Z) (cI (wgE Z Z Z hg1) Z Z (aP func121 Z bX Z) bt (fun w3 e3=>kk1 _ _ (kx Z (kx Z k0)) Z (Ext.refl.trans e3)))) (fun w2 e2=>?_))))))));have H2:=H1.to e2;refine sV Z (bc Z Z) (rA hQ results119 Z ?_);exact ⟨H2.ext,Z⟩
theorem nr {w:World}{x y:Int}  : Ret Tryz.prog 120 #[.int .i64 x,.int .i64 y] w fun v w'=>Ext No w w'∧(v = .bool (rOK x y)):=by
 refine aR func120 Z ntmps120 Z (fun Q hQ hN=>?_);have H0:=Sep.start (w:=w) (F:=[]) σ;refine ah (sA Z Z (aa (ah (sM Z Z (sE func121 bX Z bt H0 (fun w1 e1 H1=>sM Z Z (bv 2 (j:=2) (want:=true) (t:=9) Z Z Z Z (fun hg1 kk1=>am (wgE Z Z Z hg1) Z Z (aF Z) (cI (wgE Z Z Z hg1) Z Z (aP func121 Z bX Z) bt (fun w3 e3=>kk1 _ _ (kx Z (kx Z k0)) Z (Ext.refl.trans e3)))) (fun w2 e2=>?_))))))));have H2:=H1.to e2;refine sV Z (bc Z Z) (rA hQ results120 Z ?_);exact ⟨H2.ext,Z⟩
theorem eS {w:World}{s:Shape}  : Ret Tryz.prog 63 #[s.v] w fun v w'=>Ext No w w'∧(v = .int .i64 s.fault):=by
 refine aR func63 Z ntmps63 Z (fun Q hQ hN=>?_);have H0:=Sep.start (w:=w) (F:=[]) σ;refine ah (bp ak Z Z H0 (fun b1 w1 e1 g1 H1=>sA Z Z (aa (ae (ah (sF be Z ts2 (sLd tu2 (H1.box 0 Z) Z (sF be Z ts2 (sLd tu2 (H1.box 0 Z) Z (sE func119 wB Z nv H1 (fun w2 e2 H2=>sV Z (bf Z) (sM Z Z (bv 6 (j:=6) (want:=false) (t:=15) Z Z Z Z (fun hg1 kk1=>am (wgE Z Z Z hg1) Z Z (ab be Z ts2 Z Z) (am (wgE Z Z Z hg1) Z Z (ac tu2 Z Z (aj (H2.box 0 Z) Z)) (am (wgE Z Z Z hg1) Z Z (ab be Z ts2 Z Z) (am (wgE Z Z Z hg1) Z Z (ac tu2 Z Z (aj (H2.box 0 Z) Z)) (cI (wgE Z Z Z hg1) Z Z (aP func120 Z uX Z) nr (fun w4 e4=>am (wgE Z Z Z hg1) Z Z (bf Z) (kk1 _ _ (kx Z (kx Z (kx Z (kx Z (kx Z (kx Z k0)))))) Z (Ext.refl.trans e4)))))))) (fun w3 e3=>?_))))))))))))));have H3:=H2.to e3;refine sV Z (eq Z Z) (sM Z Z (bv 4 (j:=14) (want:=false) (t:=21) Z Z Z Z (fun hg2 kk2=>am (wgE Z Z Z hg2) Z Z (ab be Z ts2 Z Z) (am (wgE Z Z Z hg2) Z Z (ac tu2 Z Z (aj (H3.box 0 Z) Z)) (cI (wgE Z Z Z hg2) Z Z (aP func121 Z bX Z) bt (fun w6 e6=>am (wgE Z Z Z hg2) Z Z (bf Z) (kk2 _ _ (kx Z (kx Z (kx Z (kx Z k0)))) Z (Ext.refl.trans e6)))))) (fun w5 e5=>?_)));have H4:=H3.to e5;refine sV Z (eq Z Z) (sM Z Z (bv 4 (j:=20) (want:=false) (t:=27) Z Z Z Z (fun hg3 kk3=>am (wgE Z Z Z hg3) Z Z (ab be Z ts2 Z Z) (am (wgE Z Z Z hg3) Z Z (ac tu2 Z Z (aj (H4.box 0 Z) Z)) (cI (wgE Z Z Z hg3) Z Z (aP func121 Z bX Z) bt (fun w8 e8=>am (wgE Z Z Z hg3) Z Z (bf Z) (kk3 _ _ (kx Z (kx Z (kx Z (kx Z k0)))) Z (Ext.refl.trans e8)))))) (fun w7 e7=>?_)));have H5:=H4.to e7;refine sV Z (eq Z Z) (sM Z Z (bv 4 (j:=26) (want:=false) (t:=33) Z Z Z Z (fun hg4 kk4=>am (wgE Z Z Z hg4) Z Z (ab be Z ts2 Z Z) (am (wgE Z Z Z hg4) Z Z (ac tu2 Z Z (aj (H5.box 0 Z) Z)) (cI (wgE Z Z Z hg4) Z Z (aP func121 Z bX Z) bt (fun w10 e10=>am (wgE Z Z Z hg4) Z Z (bf Z) (kk4 _ _ (kx Z (kx Z (kx Z (kx Z k0)))) Z (Ext.refl.trans e10)))))) (fun w9 e9=>?_)));have H6:=H5.to e9;refine sV Z (eq Z Z) (sM Z Z (bv 4 (j:=32) (want:=false) (t:=39) Z Z Z Z (fun hg5 kk5=>am (wgE Z Z Z hg5) Z Z (ab be Z ts2 Z Z) (am (wgE Z Z Z hg5) Z Z (ac tu2 Z Z (aj (H6.box 0 Z) Z)) (cI (wgE Z Z Z hg5) Z Z (aP func121 Z bX Z) bt (fun w12 e12=>am (wgE Z Z Z hg5) Z Z (bf Z) (kk5 _ _ (kx Z (kx Z (kx Z (kx Z k0)))) Z (Ext.refl.trans e12)))))) (fun w11 e11=>?_)));have H7:=H6.to e11;refine sV Z (eq Z Z) (sM Z Z (bv 4 (j:=38) (want:=false) (t:=45) Z Z Z Z (fun hg6 kk6=>am (wgE Z Z Z hg6) Z Z (ab be Z ts2 Z Z) (am (wgE Z Z Z hg6) Z Z (ac tu2 Z Z (aj (H7.box 0 Z) Z)) (cI (wgE Z Z Z hg6) Z Z (aP func121 Z bX Z) bt (fun w14 e14=>am (wgE Z Z Z hg6) Z Z (bf Z) (kk6 _ _ (kx Z (kx Z (kx Z (kx Z k0)))) Z (Ext.refl.trans e14)))))) (fun w13 e13=>?_)));have H8:=H7.to e13;refine sV Z (eq Z Z) (aa (cg Z (fun c1=>?_) (fun c1=>?_)))
 ·refine ah (rA hQ results63 Z ?_);exact ⟨H8.ext,Shape.no (by simpa only [Shape.ok,Bool.not_and] using c1)⟩
 ·refine ao (ah (rA hQ results63 Z ?_));exact ⟨H8.ext,Shape.yes (by simpa only [Shape.ok,Bool.not_and] using c1)⟩
theorem lA {w:World}{s:Shape}  : Ret Tryz.prog 85 #[s.v] w fun v w'=>Ext No w w'∧(v = .int .i64 s.fault):=by
 refine aR func85 Z ntmps85 Z (fun Q hQ hN=>?_);have H0:=Sep.start (w:=w) (F:=[]) σ;refine ah (bp ak Z Z H0 (fun b1 w1 e1 g1 H1=>sA Z Z (aa (ah (sF be Z ts2 (sLd tu2 (H1.box 0 Z) Z (sE func77 cy Z bq H1 (fun w2 e2 H2=>sM Z Z (bv 3 (j:=3) (want:=true) (t:=10) Z Z Z Z (fun hg1 kk1=>am (wgE Z Z Z hg1) Z Z (ab be Z ts2 Z Z) (am (wgE Z Z Z hg1) Z Z (ac tu2 Z Z (aj (H2.box 0 Z) Z)) (cI (wgE Z Z Z hg1) Z Z (aP func77 Z cy Z) bq (fun w4 e4=>kk1 _ _ (kx Z (kx Z (kx Z k0))) Z (Ext.refl.trans e4))))) (fun w3 e3=>?_))))))))));have H3:=H2.to e3;refine sV Z (bc Z Z) (sM Z Z (bv 3 (j:=8) (want:=true) (t:=15) Z Z Z Z (fun hg2 kk2=>am (wgE Z Z Z hg2) Z Z (ab be Z ts2 Z Z) (am (wgE Z Z Z hg2) Z Z (ac tu2 Z Z (aj (H3.box 0 Z) Z)) (cI (wgE Z Z Z hg2) Z Z (aP func77 Z cy Z) bq (fun w6 e6=>kk2 _ _ (kx Z (kx Z (kx Z k0))) Z (Ext.refl.trans e6))))) (fun w5 e5=>?_)));have H4:=H3.to e5;refine sV Z (bc Z Z) (sM Z Z (bv 3 (j:=13) (want:=true) (t:=20) Z Z Z Z (fun hg3 kk3=>am (wgE Z Z Z hg3) Z Z (ab be Z ts2 Z Z) (am (wgE Z Z Z hg3) Z Z (ac tu2 Z Z (aj (H4.box 0 Z) Z)) (cI (wgE Z Z Z hg3) Z Z (aP func77 Z cy Z) bq (fun w8 e8=>kk3 _ _ (kx Z (kx Z (kx Z k0))) Z (Ext.refl.trans e8))))) (fun w7 e7=>?_)));have H5:=H4.to e7;refine sV Z (bc Z Z) (sA Z Z (aa (ah (sR 2 Z (bv 3 (j:=1) (want:=true) (t:=26) Z Z Z Z (fun hg4 kk4=>am (wgE Z Z Z hg4) Z Z (ab be Z ts2 Z Z) (am (wgE Z Z Z hg4) Z Z (ac tu2 Z Z (aj (H5.box 0 Z) Z)) (cI (wgE Z Z Z hg4) Z Z (aP func77 Z cy Z) bq (fun w10 e10=>kk4 _ _ (kx Z (kx Z (kx Z k0))) Z (Ext.refl.trans e10))))) (fun w9 e9=>?_))))));have H6:=H5.to e9;refine sV Z (bc Z Z) (sM Z Z (bv 3 (j:=6) (want:=true) (t:=31) Z Z Z Z (fun hg5 kk5=>am (wgE Z Z Z hg5) Z Z (ab be Z ts2 Z Z) (am (wgE Z Z Z hg5) Z Z (ac tu2 Z Z (aj (H6.box 0 Z) Z)) (cI (wgE Z Z Z hg5) Z Z (aP func77 Z cy Z) bq (fun w12 e12=>kk5 _ _ (kx Z (kx Z (kx Z k0))) Z (Ext.refl.trans e12))))) (fun w11 e11=>?_)));have H7:=H6.to e11;refine sV Z (bc Z Z) (sM Z Z (bv 3 (j:=11) (want:=true) (t:=36) Z Z Z Z (fun hg6 kk6=>am (wgE Z Z Z hg6) Z Z (ab be Z ts2 Z Z) (am (wgE Z Z Z hg6) Z Z (ac tu2 Z Z (aj (H7.box 0 Z) Z)) (cI (wgE Z Z Z hg6) Z Z (aP func77 Z cy Z) bq (fun w14 e14=>kk6 _ _ (kx Z (kx Z (kx Z k0))) Z (Ext.refl.trans e14))))) (fun w13 e13=>?_)));have H8:=H7.to e13;refine sV Z (bc Z Z) (sM Z Z (bv 3 (j:=16) (want:=true) (t:=41) Z Z Z Z (fun hg7 kk7=>am (wgE Z Z Z hg7) Z Z (ab be Z ts2 Z Z) (am (wgE Z Z Z hg7) Z Z (ac tu2 Z Z (aj (H8.box 0 Z) Z)) (cI (wgE Z Z Z hg7) Z Z (aP func77 Z cy Z) bq (fun w16 e16=>kk7 _ _ (kx Z (kx Z (kx Z k0))) Z (Ext.refl.trans e16))))) (fun w15 e15=>?_)));have H9:=H8.to e15;refine sV Z (bc Z Z) (sA Z Z (aa (ae (ah (sM Z Z (sV Z (bf Z) (sM Z Z (bv 4 (j:=2) (want:=false) (t:=49) Z Z Z Z (fun hg8 kk8=>am (wgE Z Z Z hg8) Z Z (ab be Z ts2 Z Z) (am (wgE Z Z Z hg8) Z Z (ac tu2 Z Z (aj (H9.box 0 Z) Z)) (cI (wgE Z Z Z hg8) Z Z (aP func77 Z cy Z) bq (fun w18 e18=>am (wgE Z Z Z hg8) Z Z (bf Z) (kk8 _ _ (kx Z (kx Z (kx Z (kx Z k0)))) Z (Ext.refl.trans e18)))))) (fun w17 e17=>?_)))))))));have H10:=H9.to e17;refine sV Z (eq Z Z) (aa (cg Z (fun c1=>?_) (fun c1=>?_)))
 ·refine ah (rA hQ results85 Z ?_);exact ⟨H10.ext,Shape.no (by simpa only [Shape.ok,cOK,rOK,Bool.not_and,Bool.or_assoc] using c1)⟩
 ·refine ao (ah (rA hQ results85 Z ?_));exact ⟨H10.ext,Shape.yes (by simpa only [Shape.ok,cOK,rOK,Bool.not_and,Bool.or_assoc] using c1)⟩
end Go.Wk
