/-
  Laws on walking, and the functions walked, each once: what this claim comes to.
-/
import Derived.Test.YtblddeoopkfafaaGreatZG0
set_option linter.unusedVariables false
set_option linter.unusedSimpArgs false
namespace Go.Wk
open Rp (sz own)
section
variable {s:Shape}{len:Int}
theorem rg (hd:1≤s.Data∧s.Data≤3) (h:1≤len):3<(len-1).tdiv (s.Data*4)+1↔3*(s.Data*4)<len:=by
  rw [Int.tdiv_eq_ediv_of_nonneg (by omega)]
  have:s.Data=1∨s.Data=2∨s.Data=3:=by omega
  rcases this with e | e | e<;>rw [e]<;>omega
theorem qP (hd:1≤s.Data∧s.Data≤3) (h:1≤len):(len+s.Data*4-1).tdiv (s.Data*4)=eO s len:=by
  rw [eO,Int.tdiv_eq_ediv_of_nonneg (by omega),Int.tdiv_eq_ediv_of_nonneg (by omega)]
  have:s.Data=1∨s.Data=2∨s.Data=3:=by omega
  rcases this with e | e | e<;>rw [e]<;>omega
theorem tH (hd:1≤s.Data∧s.Data≤3) (h:1≤len):0≤(len-1).tdiv (s.Data*4)∧(len-1).tdiv (s.Data*4)<len:=by
  rw [Int.tdiv_eq_ediv_of_nonneg (by omega)]
  have:s.Data=1∨s.Data=2∨s.Data=3:=by omega
  rcases this with e | e | e<;>rw [e]<;>omega
def jC (s:Shape) (len:Int):Int:=if cm s len=0 then eO s len else 0
theorem tJ (h:len<1):cm s len=6∧jC s len=0:=by
  have:cm s len=6:=by rw [cm,if_pos h]
  exact ⟨this,by rw [jC,this]; rfl⟩
theorem rq (h:¬ len<1) (h2:3*(s.Data*4)<len):cm s len=2∧jC s len=0:=by
  have:cm s len=2:=by rw [cm,if_neg h,if_pos h2]
  exact ⟨this,by rw [jC,this]; rfl⟩
theorem wh (h:¬ len<1) (h2:¬ 3*(s.Data*4)<len):cm s len=0∧jC s len=eO s len:=by
  have:cm s len=0:=by rw [cm,if_neg h,if_neg h2]
  exact ⟨this,by rw [jC,if_pos this]⟩
theorem kL (h:cm s len=0):1≤len∧¬ 3*(s.Data*4)<len:=by
  unfold cm at h
  split at h
  · cases h
  · split at h
    · cases h
    · exact ⟨by omega,by omega⟩
end
theorem jb {n:Nat}{p:Nat→Bool}:(List.range (n+1)).all p=((List.range n).all p && p n):=by
  rw [List.range_succ,List.all_append]; simp
theorem ex {α:Type}{xs:List α}{i:Nat}:cut xs 0 i=xs.take i:=by simp [cut]
theorem hZ {s:Shape}{rs:List Rec}{j:Nat}(h:dv s rs j≠0):∀ m,j≤m→dv s rs m=dv s rs j:=by
  intro m hm
  induction m with
  | zero=>rw [show j=0 by omega]
  | succ m ih=>
    by_cases e:j=m+1
    · rw [e]
    · have ih:=ih (by omega)
      rw [dv,if_pos (by rw [ih]; exact h),ih]
theorem gd {s:Shape}{rs:List Rec}{j:Nat}(h:dv s rs j=0):dv s rs (j+1)=fL s (rs.getD j default):=by rw [dv,if_neg (by omega)]
theorem xU {s:Shape}{rs:List Rec}{j:Nat}(hj:j<rs.length) (h:dv s rs j=0) (hr:fL s (rs.getD j default)≠0):dv s rs rs.length=fL s (rs.getD j default):=by
  have e:=gd h
  rw [hZ (j:=j+1) (by rw [e]; exact hr) _ (by omega),e]
theorem il {s:Shape}{ts:List Tape}{j:Nat}(h:cZ s ts j≠0):∀ m,j≤m→cZ s ts m=cZ s ts j:=by
  intro m hm
  induction m with
  | zero=>rw [show j=0 by omega]
  | succ m ih=>
    by_cases e:j=m+1
    · rw [e]
    · have ih:=ih (by omega)
      rw [cZ,if_pos (by rw [ih]; exact h),ih]
theorem gg {s:Shape}{ts:List Tape}{j:Nat}(h:cZ s ts j=0):cZ s ts (j+1)=dv s (ts.getD j default).Recs (ts.getD j default).Recs.length:=by rw [cZ,if_neg (by omega)]
theorem xf {s:Shape}{ts:List Tape}{j i:Nat}(hj:j<ts.length) (h:cZ s ts j=0) (hi:i<(ts.getD j default).Recs.length) (h2:dv s (ts.getD j default).Recs i=0) (hr:fL s ((ts.getD j default).Recs.getD i default)≠0) :
    cZ s ts ts.length=fL s ((ts.getD j default).Recs.getD i default):=by
  have e:=gg h
  rw [xU hi h2 hr] at e
  rw [il (j:=j+1) (by rw [e]; exact hr) _ (by omega),e]
theorem sa {α:Type}[Inhabited α] {xs:List α}{p:α→Bool}(k:Nat) (hk:k<xs.length) (h:p (xs.getD k default)=true):xs.any p=true:=by
  rw [List.any_eq_true]
  exact ⟨xs[k],List.getElem_mem hk,by simpa [List.getD,hk] using h⟩
theorem qk {α:Type}[Inhabited α] {xs:List α}{p:α→Bool}(h:∀ i,i<xs.length→p (xs.getD i default)=false):xs.any p=false:=by
  rw [List.any_eq_false]
  intro x hx
  obtain ⟨i,hi,rfl⟩:=List.getElem_of_mem hx
  have:=h i hi
  simpa [List.getD,hi] using this
end Go.Wk
namespace Go.Wk
def upF (w:Wld):Int:=if dS w≠0 then dS w else if w.Down=true then 9 else 0
theorem cI {w:Wld}(h:dS w=0):w.Shape.ok=true∧dB w=true∧pU w=true∧w.Tapes.length=2∧eB w=0:=by
  unfold dS at h
  split at h
  · rename_i h1; exact absurd h h1
  · rename_i h1
    have hs:=gi (s:=w.Shape) (by omega)
    split at h
    · rename_i h2
      simp only [Bool.and_eq_true,decide_eq_true_eq] at h2
      split at h
      · rename_i h3; exact absurd h h3
      · rename_i h3
        exact ⟨hs,h2.1.1,h2.1.2,h2.2,by omega⟩
    · cases h
theorem jF {w:Wld}(h:upF w=0):dS w=0∧w.Down=false:=by
  unfold upF at h
  split at h
  · rename_i h1; exact absurd h h1
  · split at h
    · cases h
    · rename_i h1 h2
      exact ⟨by omega,by simpa using h2⟩
end Go.Wk
namespace Go.Wk
theorem eqB {a b:Bool}(h:a=b):some (Value.bool a)=some (Value.bool b):=by rw [h]
def oD (s:Shape) (r:Rec):Int:=if bg r.Name≠0 then bg r.Name else if eU s r=true then 0 else 3
theorem qd {s r} (h:bg r.Name≠0):oD s r=bg r.Name:=by rw [oD,if_pos h]
theorem kv {s r} (h:¬ bg r.Name≠0) (h2:eU s r=true):oD s r=0:=by rw [oD,if_neg h,if_pos h2]
theorem jg {s r} (h:¬ bg r.Name≠0) (h2:eU s r=false):oD s r=3:=by rw [oD,if_neg h,if_neg (by simp [h2])]
end Go.Wk
namespace Go.Wk
open Rp (sz own)
section
variable {P:Program}{n:Nat}{c:Code}{Q:Post}{L:Env}{w w0:World}{M:Nat→Prop}{Δ F:List Rsc}
theorem jx {L:Env}:∀ {A B:Env},sub L A→sub L B→sub L (A++B)
  | [],_,_,h=>h
  | _::_,_,h,k=>⟨h.1,jx h.2 k⟩
theorem bw {γ:Type}(H:Sep M w0 Δ F w) (E2:Env) (h2:sub L E2) (E:γ→Env) (I:γ→Prop) (μ:γ→Nat) (g0:γ) (hs:sub L (E g0)) (h0:I g0)
  (round:∀ g w,Sep M w0 Δ F w→I g→W P n c (again (fun g=>E g++E2) (fun g w'=>Sep M w0 Δ F w'∧I g) μ g Q) (E g++E2) w):W P n (.loop c) Q L w:=
 bx (fun g=>E g++E2) (fun g w'=>Sep M w0 Δ F w'∧I g) μ g0 (jx hs h2) ⟨H,h0⟩ fun g w h=>round g w h.1 h.2
theorem zx {x y:Code}{γ:Type}(H:Sep M w0 Δ F w) (E2:Env) (h2:sub L E2) (E:γ→Env) (I:γ→Prop)
  (h:W P n x (meets (fun g=>E g++E2) (fun g w'=>Sep M w0 Δ F w'∧I g) Q) L w)
  (k:∀ g w',Sep M w0 Δ F w'→I g→W P n y Q (E g++E2) w'):W P n (.seq x y) Q L w:=
 yN (fun g=>E g++E2) (fun g w'=>Sep M w0 Δ F w'∧I g) h fun g w' hI=>k g w' hI.1 hI.2
end
end Go.Wk
namespace Go.Wk
theorem wK {s:Shape}{r:Rec}{a b c d:Bool}(h1:r.Length ≠ -1) (h2:cm s r.Length=0) (ea:a=decide ((r.Data.length:Int)=r.Length)) (eb:b=decide ((r.Rows.length:Int)=0))
    (ec:c=decide ((r.Data.length:Int)=0)) (ed:d=decide ((r.Rows.length:Int)=eO s r.Length)):(a && b || (c && d && apartL r.Rows (s.Rows-1)))=eU s r:=by
  subst ea; subst eb; subst ec; subst ed
  have hz:=kL h2
  rw [eU,if_neg h1,decide_eq_true h2,Bool.true_and]
  by_cases hd:0<r.Data.length
  · rw [if_pos hd,decide_eq_false (by omega:¬ ((r.Data.length:Int)=0))]
    simp
  · rw [if_neg hd,decide_eq_true (by omega:((r.Data.length:Int)=0)),decide_eq_false (by omega:¬ ((r.Data.length:Int)=r.Length))]
    simp
theorem ql {s:Shape}{r:Rec}(h1:r.Length = -1):eU s r=(decide (r.Data.length=0) && decide (r.Rows.length=0)):=by rw [eU,if_pos h1]
theorem re {s:Shape}{r:Rec}(h1:r.Length ≠ -1) (h2:cm s r.Length≠0):eU s r=false:=by rw [eU,if_neg h1,decide_eq_false h2]; rfl
theorem ra {s:Shape}{len:Int}(h:cm s len=0):jC s len=eO s len:=by rw [jC,if_pos h]
end Go.Wk
namespace Go.Wk
def iR (r:Rec):Bool:=noName r && decide (r.Length=0) && decide (r.Group=0) && decide (r.Row=0) && decide (r.Rows.length=0) && decide (r.Data.length=0) && decide (r.Delta.length=0)
def dZ (r:Rec):Rec:=
  if r.Kind=1 then ⟨r.Kind,r.Seq,r.Name,r.Length,0,0,r.Rows,r.Data,[]⟩
  else if r.Kind=2 then ⟨r.Kind,r.Seq,⟨#[]⟩,0,r.Group,r.Row,[],r.Data,r.Delta⟩
  else if r.Kind=3 then ⟨r.Kind,r.Seq,⟨#[]⟩,0,r.Group,0,[],[],[]⟩
  else if r.Kind=4 then ⟨r.Kind,r.Seq,⟨#[]⟩,0,r.Group,r.Row,r.Rows,r.Data,r.Delta⟩
  else ⟨r.Kind,r.Seq,⟨#[]⟩,0,0,0,[],[],[]⟩
theorem qF {r:Rec}(hk:1≤r.Kind∧r.Kind≤4):decide (r=dZ r)=bareOK r:=by
  obtain ⟨k,q,nm,ln,g,rw,rs,da,de⟩:=r
  have:k=1∨k=2∨k=3∨k=4:=by simp only at hk; omega
  rcases this with rfl | rfl | rfl | rfl<;>simp [dZ,bareOK,noName,Bool.and_assoc]
theorem tj {a b:Rec}:(decide (a.Kind=b.Kind) && (decide (a.Seq=b.Seq) && ((a.Name.toList == b.Name.toList) && (decide (a.Length=b.Length) && (decide (a.Group=b.Group) && (decide (a.Row=b.Row) && (decide (a.Rows=b.Rows) && (decide (a.Data=b.Data) && decide (a.Delta=b.Delta)))))))))=decide (a=b):=by
  obtain ⟨k,q,nm,ln,g,rw,rs,da,de⟩:=a
  obtain ⟨k2,q2,nm2,ln2,g2,rw2,rs2,da2,de2⟩:=b
  simp [gR]
theorem ph {s:Shape}{r:Rec}(h:¬ ((r.Delta.getD r.Group.toNat 0).toNat:Int)=0):weightsOK s r=false:=by rw [weightsOK,decide_eq_false h]; simp
theorem qr {s:Shape}{r:Rec}(k:Nat) (hk:k<r.Rows.length) (h:((r.Delta.getD (r.Rows.getD k 0).toNat 0).toNat:Int)=0):weightsOK s r=false:=by
  rw [weightsOK,jG k hk (by rw [decide_eq_false (by simpa using h)])]; simp
theorem rp {s:Shape}{r:Rec}(h:(r.Delta.length:Int)=s.Groups+s.Column) (h2:((r.Delta.getD r.Group.toNat 0).toNat:Int)=0) (h3:∀ i,i<r.Rows.length→¬ ((r.Delta.getD (r.Rows.getD i 0).toNat 0).toNat:Int)=0):weightsOK s r=true:=by
  rw [weightsOK,decide_eq_true h,decide_eq_true h2,gS fun i hi=>decide_eq_true (h3 i hi)]; rfl
theorem tV {s:Shape}{r:Rec}(h:¬ (r.Delta.length:Int)=s.Groups+s.Column):weightsOK s r=false:=by rw [weightsOK,decide_eq_false h]; rfl
end Go.Wk
namespace Go.Wk
theorem lO {s:Shape}{r:Rec}(h1:r.Length ≠ -1) (h2:cm s r.Length=0):eU s r=if 0<r.Data.length then decide ((r.Data.length:Int)=r.Length) && decide (r.Rows.length=0) else decide ((r.Rows.length:Int)=eO s r.Length) && apartL r.Rows (s.Rows-1):=by
  rw [eU,if_neg h1,decide_eq_true h2,Bool.true_and]
end Go.Wk
namespace Go.Wk
theorem tp {α:Type}{d:α}{xs:List α}{p:α→Bool}(h:xs.any p=true):∃ i,i<xs.length∧p (xs.getD i d)=true:=by
  rw [List.any_eq_true] at h
  obtain ⟨x,hx,hp⟩:=h
  obtain ⟨i,hi,rfl⟩:=List.getElem_of_mem hx
  exact ⟨i,hi,by simpa [List.getD,hi] using hp⟩
theorem sh {α:Type}{d:α}{xs:List α}{p:α→Bool}(h:xs.any p=false) (i:Nat) (hi:i<xs.length):p (xs.getD i d)=false:=by
  rw [List.any_eq_false] at h
  have:=h xs[i] (List.getElem_mem hi)
  simpa [List.getD,hi] using this
theorem tQ {s:Shape}{r:Rec}(h:r.Rows.any (fun k=>decide (((r.Delta.getD k.toNat 0).toNat:Int)=0))=true):weightsOK s r=false:=by
  obtain ⟨i,hi,h⟩:=tp (d:=0) h
  exact qr i hi (by simpa using h)
theorem tF {s:Shape}{r:Rec}(h:(r.Delta.length:Int)=s.Groups+s.Column) (h2:((r.Delta.getD r.Group.toNat 0).toNat:Int)=0) (h3:r.Rows.any (fun k=>decide (((r.Delta.getD k.toNat 0).toNat:Int)=0))=false):weightsOK s r=true:=
  rp h h2 fun i hi=>by simpa using sh (d:=0) h3 i hi
end Go.Wk
namespace Go.Wk
theorem Ay {r:Rec}(h:r.Kind=1):dZ r=⟨r.Kind,r.Seq,r.Name,r.Length,0,0,r.Rows,r.Data,[]⟩:=by rw [dZ,if_pos h]
theorem Am {r:Rec}(h:¬ r.Kind=1) (h2:r.Kind=2):dZ r=⟨r.Kind,r.Seq,⟨#[]⟩,0,r.Group,r.Row,[],r.Data,r.Delta⟩:=by rw [dZ,if_neg h,if_pos h2]
theorem Ax {r:Rec}(h:¬ r.Kind=1) (h2:¬ r.Kind=2) (h3:r.Kind=3):dZ r=⟨r.Kind,r.Seq,⟨#[]⟩,0,r.Group,0,[],[],[]⟩:=by rw [dZ,if_neg h,if_neg h2,if_pos h3]
theorem zY {r:Rec}(h:¬ r.Kind=1) (h2:¬ r.Kind=2) (h3:¬ r.Kind=3) (h4:r.Kind=4):dZ r=⟨r.Kind,r.Seq,⟨#[]⟩,0,r.Group,r.Row,r.Rows,r.Data,r.Delta⟩:=by rw [dZ,if_neg h,if_neg h2,if_neg h3,if_pos h4]
theorem zX {r:Rec}(h:¬ r.Kind=1) (h2:¬ r.Kind=2) (h3:¬ r.Kind=3) (h4:¬ r.Kind=4):dZ r=⟨r.Kind,r.Seq,⟨#[]⟩,0,0,0,[],[],[]⟩:=by rw [dZ,if_neg h,if_neg h2,if_neg h3,if_neg h4]
theorem yP {r:Rec}(h:r.Ok):(dZ r).Ok:=by
  unfold Rec.Ok I64ok at h ⊢
  unfold dZ
  have:(⟨#[]⟩:ByteArray).size≤maxLen:=Nat.zero_le _
  split
  · simp only; omega
  · split
    · simp only; omega
    · split
      · simp only; omega
      · split
        · simp only; omega
        · simp only; omega
end Go.Wk
namespace Go.Wk
section
variable {s:Shape}{r:Rec}
theorem of (h:ins r.Kind 1 4=false):fL s r=5:=by rw [fL,if_neg (by simp [h])]
theorem qu (h:ins r.Kind 1 4=true) (h2:ins r.Seq 1 1000000000=false):fL s r=3:=by rw [fL,if_pos h,if_neg (by simp [h2])]
theorem dN (h:ins r.Kind 1 4=true) (h2:ins r.Seq 1 1000000000=true) (h3:eI s r≠0):fL s r=eI s r:=by rw [fL,if_pos h,if_pos h2,if_pos h3]
theorem iW (h:ins r.Kind 1 4=true) (h2:ins r.Seq 1 1000000000=true) (h3:eI s r=0) (h4:bareOK r=false):fL s r=1:=by rw [fL,if_pos h,if_pos h2,if_neg (by omega),if_neg (by simp [h4])]
theorem mM (h:ins r.Kind 1 4=true) (h2:ins r.Seq 1 1000000000=true) (h3:eI s r=0) (h4:bareOK r=true):fL s r=0:=by rw [fL,if_pos h,if_pos h2,if_neg (by omega),if_pos h4]
theorem hY (h:r.Kind=1):eI s r=oD s r:=by rw [eI,if_pos h]; rfl
theorem dY (h:r.Kind=4):eI s r=if du s r=true then 0 else 3:=by rw [eI,if_neg (by omega),if_neg (by omega),if_neg (by omega)]
theorem lv (h:r.Kind=3) (h2:ins r.Group 0 (s.Groups+s.Column-1)=false):eI s r=3:=by rw [eI,if_neg (by omega),if_neg (by omega),if_pos h,if_neg (by simp [h2])]
theorem iS (h:r.Kind=3) (h2:ins r.Group 0 (s.Groups+s.Column-1)=true):eI s r=0:=by rw [eI,if_neg (by omega),if_neg (by omega),if_pos h,if_pos h2]
theorem dg (h:r.Kind=2) (h2:fF s r=false):eI s r=3:=by rw [eI,if_neg (by omega),if_pos h,if_neg (by simp [h2])]
theorem iU (h:r.Kind=2) (h2:fF s r=true):eI s r=0:=by rw [eI,if_neg (by omega),if_pos h,if_pos h2]
end
end Go.Wk
namespace Go.Wk
section
variable {P:Program}{n:Nat}{c:Code}{Q:Post}{L:Env}{w w0:World}{M:Nat→Prop}{Δ F:List Rsc}
theorem na {Δ:List Rsc}{i:Nat}{r:Rsc}(h:Δ[i]? = some r):Δ.set i r=Δ:=by
  apply List.ext_getElem?
  intro j
  rw [List.getElem?_set]
  split
  · rename_i e; subst e
    obtain ⟨hl,_⟩:=List.getElem?_eq_some_iff.1 h
    rw [if_pos hl,h]
  · rfl
theorem gP {α:Type}[Rp α] {γ:Type}{v0:Value}{fp0:List Nat}(f:γ→List α) (g0:γ) (H:Sep M w0 Δ F w) (i:Nat) (hi:Δ[i]? = some (mine [v0] (f g0) fp0)) (t:Nat) (ht:look L t=some v0)
  (E2:Env) (h2:sub L E2) (E:γ→Env) (I:γ→Prop) (μ:γ→Nat) (hs:sub L (E g0)) (h0:I g0)
  (round:∀ g v fp w,Sep M w0 (Δ.set i (mine [v] (f g) fp)) F w→I g→W P n c (again (fun x:γ × Value × List Nat=>(t,x.2.1)::(E x.1++E2)) (fun x w'=>Sep M w0 (Δ.set i (mine [x.2.1] (f x.1) x.2.2)) F w'∧I x.1) (fun x=>μ x.1) (g,v,fp) Q) ((t,v)::(E g++E2)) w):W P n (.loop c) Q L w:=
 bx (fun x:γ × Value × List Nat=>(t,x.2.1)::(E x.1++E2)) (fun x w'=>Sep M w0 (Δ.set i (mine [x.2.1] (f x.1) x.2.2)) F w'∧I x.1) (fun x=>μ x.1) (g0,v0,fp0) ⟨ht,jx hs h2⟩ ⟨by rw [na hi]; exact H,h0⟩ fun x w h=>round x.1 x.2.1 x.2.2 w h.1 h.2
end
end Go.Wk
namespace Go.Wk
open Rp (sz own)
section
variable {s:Shape}{r:Rec}
theorem yJ (h:r.Ok):(⟨r.Kind,r.Seq,⟨#[]⟩,0,r.Group,r.Row,[],[],r.Delta⟩:Rec).Ok:=by
  unfold Rec.Ok I64ok at h ⊢
  have:(⟨#[]⟩:ByteArray).size≤maxLen:=Nat.zero_le _
  simp only; omega
theorem yC (h:r.Ok):(⟨r.Kind,r.Seq,r.Name,r.Length,0,0,r.Rows,[],[]⟩:Rec).Ok:=by
  unfold Rec.Ok I64ok at h ⊢
  simp only; omega
theorem yu (h:r.Ok):(⟨r.Kind,r.Seq,r.Name,r.Length,0,r.Row,r.Rows,r.Data,r.Delta⟩:Rec).Ok:=by
  unfold Rec.Ok I64ok at h ⊢
  simp only; omega
theorem yX (h:r.Ok):(⟨r.Kind,r.Seq,r.Name,r.Length,0,0,[],[],[]⟩:Rec).Ok:=by
  unfold Rec.Ok I64ok at h ⊢
  simp only; omega
theorem p9 (h:r.Kind=1):iR ⟨r.Kind,r.Seq,⟨#[]⟩,0,r.Group,r.Row,[],[],r.Delta⟩=bareOK r:=by rw [bareOK,if_pos h]; simp [iR,noName]
theorem pi (h:r.Kind=2):iR ⟨r.Kind,r.Seq,r.Name,r.Length,0,0,r.Rows,[],[]⟩=bareOK r:=by rw [bareOK,if_neg (by omega),if_pos h]; simp [iR,noName]
theorem pp (h:r.Kind=3):iR ⟨r.Kind,r.Seq,r.Name,r.Length,0,r.Row,r.Rows,r.Data,r.Delta⟩=bareOK r:=by rw [bareOK,if_neg (by omega),if_neg (by omega),if_pos h]; simp [iR,noName,Bool.and_assoc]
theorem pD (h:r.Kind=4):iR ⟨r.Kind,r.Seq,r.Name,r.Length,0,0,[],[],[]⟩=bareOK r:=by rw [bareOK,if_neg (by omega),if_neg (by omega),if_neg (by omega)]; simp [iR,noName]
end
end Go.Wk
namespace Go.Wk
section
variable {z:Wld}{s:Shape}{g:List Drive}{d:Drive}
theorem uU {α:Type}[Inhabited α] {xs:List α}{p:α→Bool}(h:(xs.any fun b => !p b)=false):((List.range xs.length).all fun i=>p (xs.getD i default))=true:=
  gS fun i hi=>by simpa using sh (d:=default) h i hi
theorem qs {α:Type}[Inhabited α] {xs:List α}{p:α→Bool}(h:(xs.any fun b => !p b)=true):((List.range xs.length).all fun i=>p (xs.getD i default))=false:=by
  obtain ⟨i,hi,h⟩:=tp (d:=default) h
  exact jG i hi (by simpa using h)
theorem ow (h:¬ (d.Blocks.length:Int)=s.Rows):ej s d=false:=by rw [ej,decide_eq_false h]; rfl
theorem sW (h:(d.Blocks.any fun b => !eC b)=true):ej s d=false:=by rw [ej,qs h,Bool.and_false]
theorem sD (h:(d.Blocks.length:Int)=s.Rows) (h2:(d.Blocks.any fun b => !eC b)=false):ej s d=true:=by rw [ej,decide_eq_true h,uU h2]; rfl
theorem te (h:(d.Blocks.length:Int)=s.Rows) (h2:∀ i,i<d.Blocks.length→eC (d.Blocks.getD i default)=true):ej s d=true:=by rw [ej,decide_eq_true h,gS h2]; rfl
theorem vt (i:Nat) (hi:i<d.Blocks.length) (h2:eC (d.Blocks.getD i default)=false):ej s d=false:=by rw [ej,jG i hi h2,Bool.and_false]
theorem oB (h:¬ (g.length:Int)=s.Data+s.Spare):fR s g=false:=by rw [fR,decide_eq_false h]; rfl
theorem jm (k:Nat) (hk:k<g.length) (h:ej s (g.getD k default)=false):fR s g=false:=by rw [fR,jG k hk h,Bool.and_false]
theorem ov (h:(g.length:Int)=s.Data+s.Spare) (h2:∀ i,i<g.length→ej s (g.getD i default)=true):fR s g=true:=by rw [fR,decide_eq_true h,gS h2]; rfl
theorem nk (h:¬ (z.Groups.length:Int)=z.Shape.Groups+z.Shape.Column):dB z=false:=by rw [dB,decide_eq_false h]; rfl
theorem fA (k:Nat) (hk:k<z.Groups.length) (h:fR z.Shape (z.Groups.getD k [])=false):dB z=false:=by rw [dB,jG k hk h,Bool.and_false]
theorem mP (h:(z.Groups.length:Int)=z.Shape.Groups+z.Shape.Column) (h2:∀ i,i<z.Groups.length→fR z.Shape (z.Groups.getD i [])=true):dB z=true:=by rw [dB,decide_eq_true h,gS h2]; rfl
end
end Go.Wk
namespace Go.Wk
section
variable {z:Wld}
theorem qq (h:(List.range z.On.length).all (apartAt z.On (z.Shape.Groups+z.Shape.Column-1))=false):pU z=false:=by rw [pU,apartL,h]; rfl
theorem nP (h:(List.range z.On.length).all (apartAt z.On (z.Shape.Groups+z.Shape.Column-1))=true) {b:Bool}(hb:b=(decide ((z.On.length:Int)≤z.Shape.Cap) && (decide (z.On.length=0) || !z.Down))):pU z=b:=by rw [pU,apartL,h,hb]; simp [Bool.and_assoc]
theorem gn (h:z.Tapes.any cB=true):eB z=2:=by rw [eB,if_pos h]
theorem lH (h:z.Tapes.any cB=false) {k k2:Nat}(hk:k<z.Tapes.length) (hkz:cZ z.Shape z.Tapes k=0) (hk2:k2<(z.Tapes.getD k default).Recs.length) (h2:dv z.Shape (z.Tapes.getD k default).Recs k2=0)
    (hr:fL z.Shape ((z.Tapes.getD k default).Recs.getD k2 default)≠0):eB z=fL z.Shape ((z.Tapes.getD k default).Recs.getD k2 default):=by
  have e:=xf hk hkz hk2 h2 hr
  rw [eB,if_neg (by simp [h]),if_pos (by rw [e]; exact hr),e]
theorem kE (h:z.Tapes.any cB=false) (h2:cZ z.Shape z.Tapes z.Tapes.length=0) (h3:z.Tapes.any cT=true):eB z=1:=by rw [eB,if_neg (by simp [h]),if_neg (by omega),if_pos h3]
theorem nw (h:z.Tapes.any cB=false) (h2:cZ z.Shape z.Tapes z.Tapes.length=0) (h3:z.Tapes.any cT=false):eB z=0:=by rw [eB,if_neg (by simp [h]),if_neg (by omega),if_neg (by simp [h3])]
end
end Go.Wk
namespace Go.Wk
section
variable {z:Wld}{b:Block}
theorem uk (h:(!ins b.Stamp 0 1000000000 || decide ((b.Bytes.length:Int)≠4))=true):eC b=false:=by
  rw [eC]
  simp only [Bool.or_eq_true,decide_eq_true_eq] at h
  rcases h with h | h
  · rw [db h]; rfl
  · rw [decide_eq_false (by omega),Bool.and_false]
theorem sX (h:(!ins b.Stamp 0 1000000000 || decide ((b.Bytes.length:Int)≠4))=false):eC b=true:=by
  rw [Bool.or_eq_false_iff] at h
  have h2:=of_decide_eq_false h.2
  rw [eC,aD h.1,decide_eq_true (by omega)]; rfl
theorem oX {α:Type}[Inhabited α] {xs:List α}{p:α→Bool}(h:xs.length=2) (h2:p (xs.getD 0 default)=true∨p (xs.getD 1 default)=true):xs.any p=true:=by
  rcases h2 with h2 | h2
  · exact sa 0 (by omega) h2
  · exact sa 1 (by omega) h2
theorem oh {α:Type}[Inhabited α] {xs:List α}{p:α→Bool}(h:xs.length=2) (h0:p (xs.getD 0 default)=false) (h1:p (xs.getD 1 default)=false):xs.any p=false:=
  qk fun i hi=>by
    have:i=0∨i=1:=by omega
    rcases this with rfl | rfl
    · exact h0
    · exact h1
theorem iF:(dB z && (apartL z.On (z.Shape.Groups+z.Shape.Column-1) && (decide ((z.On.length:Int)≤z.Shape.Cap) && ((decide (z.On.length=0) || !z.Down) && decide (z.Tapes.length=2)))))=(dB z && pU z && decide (z.Tapes.length=2)):=by
  rw [pU]; simp only [Bool.and_assoc]
end
end Go.Wk
namespace Go.Wk
theorem be {w:World}{b o:Nat}{cs:List Value}(h:At w b o cs) (j:Nat) {v:Value}(hj:cs[j]? = some v):w.cell? ⟨b,o+j,none⟩=some v:=h j v hj
end Go.Wk
namespace Go.Wk
section
variable {z:Wld}{s:Shape}{r:Rec}{g row d:Int}
theorem yG:0≤s.fault∧s.fault≤3:=by unfold Shape.fault; split<;>omega
theorem AD {b:ByteArray}:0≤bg b∧bg b≤5:=by unfold bg; split<;>omega
theorem zl:0≤eI s r∧eI s r≤5:=by
  have:=AD (b:=r.Name)
  unfold eI
  repeat' split
  all_goals omega
theorem Aq:0≤fL s r∧fL s r≤5:=by
  have:=zl (s:=s) (r:=r)
  unfold fL
  repeat' split
  all_goals omega
theorem ti {rs:List Rec}:∀ k,0≤dv s rs k∧dv s rs k≤5
  | 0=>by simp [dv]
  | k+1=>by
    have h1:=ti (rs:=rs) k
    have h2:=Aq (s:=s) (r:=rs.getD k default)
    rw [dv]
    split<;>omega
theorem tf {ts:List Tape}:∀ k,0≤cZ s ts k∧cZ s ts k≤5
  | 0=>by simp [cZ]
  | k+1=>by
    have h1:=tf (ts:=ts) k
    have h2:=ti (s:=s) (rs:=(ts.getD k default).Recs) (ts.getD k default).Recs.length
    rw [cZ]
    split<;>omega
theorem xw:0≤eB z∧eB z≤5:=by
  have:=tf (s:=z.Shape) (ts:=z.Tapes) z.Tapes.length
  unfold eB
  repeat' split
  all_goals omega
theorem xD:0≤dS z∧dS z≤5:=by
  have h1:=yG (s:=z.Shape)
  have h2:=xw (z:=z)
  unfold dS
  repeat' split
  all_goals omega
theorem nK:0≤upF z∧upF z≤9:=by
  have h1:=xD (z:=z)
  unfold upF
  repeat' split
  all_goals omega
end
end Go.Wk
namespace Go.Wk
open Rp (sz own)
def cat (r q:Rsc):Rsc:=⟨r.fp++q.fp,fun w=>r.φ w∧q.φ w,fun h k=>⟨r.st h.1 fun b hb=>k b (by simp [hb]),q.st h.2 fun b hb=>k b (by simp [hb])⟩,fun h b hb=>(List.mem_append.1 hb).elim (r.lt h.1 b) (q.lt h.2 b)⟩
section
variable {M:Nat→Prop}{w0 w w':World}{Δ F:List Rsc}
theorem Sep.join2 (h:Sep M w0 Δ F w) (i j:Nat) {r q:Rsc}(hi:Δ[i]? = some r) (hj:Δ[j]? = some q) (hij:Nat.beq j i=false):Sep M w0 ((Δ.set j gone).set i (cat r q)) F w:=
  h.set2 hi hj hij Ext.refl (q:=cat r q) ⟨h.r i hi,h.r j hj⟩ (List.nodup_append.2 ⟨h.nodup1 hi,h.nodup1 hj,fun a ha b hb e=>by subst e; exact h.apart hi hj hij a hb ha⟩)
    fun b hb=>(List.mem_append.1 hb).elim .inl fun h => .inr (.inl h)
theorem Sep.conv (h:Sep M w0 Δ F w) (i:Nat) {r:Rsc}(q:Rsc) (hi:Δ[i]? = some r) (hq:q.φ w) (hfp:∀ b∈q.fp,b∈r.fp) (hn:q.fp.Nodup):Sep M w0 (Δ.set i q) F w:=
  h.set hi Ext.refl hq hn fun b hb => .inl (hfp b hb)
theorem Sep.partLast {A:List Rsc}{r:Rsc}(h:Sep M w0 (A++[r]) F w) (rs:List Rsc) (hrs:∀ q∈rs,q.φ w) (hb:blocks rs=r.fp):Sep M w0 (A++gone::rs) F w:=by
  have H:=h.part A.length (r:=r) (by simp) rs hrs hb
  rw [show (A++[r]).set A.length gone=A++[gone] by simp] at H
  simpa using H
def hol {α:Type}[Rp α] (ad:Option Addr) (n cap:Nat) (xs:List α) (k b off:Nat) (T:TypeId) (ck:List Value) (f1 f2:List Nat):Rsc:=
  ⟨b::(f1++f2),fun w=>∃ cur:Array Value,w.heap[b]? = some (.cells cur T (0,0))∧off+sz α≤cur.size∧(cur.toList.drop off).take (sz α)=ck∧(∀ x∈b::(f1++f2),x<w.heap.size) ∧
    ∀ w' cur' x' fk',w'.heap[b]? = some (.cells cur' T (0,0))→cur'.size=cur.size→(∀ j,j<off∨off+sz α≤j→cur'[j]? = cur[j]?)→(∀ b∈f1,w'.heap[b]? = w.heap[b]?)→(∀ b∈f2,w'.heap[b]? = w.heap[b]?) →
        own true w' ((cur'.toList.drop off).take (sz α)) x' fk'→own true w' [.slice ad n cap] (xs.set k x') (b::(f1++(fk'++f2))),
   fun h e=>by
      obtain ⟨cur,h1,h2,h3,h4,h5⟩:=h
      refine ⟨cur,(e b (by simp)).trans h1,h2,h3,fun x hx=>?_,fun w' cur' x' fk' q1 q2 q3 q4 q5 q6=>h5 w' cur' x' fk' q1 q2 q3 (fun b hb=>(q4 b hb).trans (e b (by simp [hb]))) (fun b hb=>(q5 b hb).trans (e b (by simp [hb]))) q6⟩
      have h7:=h4 x hx
      have h8:=e x hx
      rw [Array.getElem?_eq_getElem h7] at h8
      exact (Array.getElem?_eq_some_iff.1 h8).1,
   fun h=>by obtain ⟨_,_,_,_,h,_⟩:=h; exact h⟩
variable {α:Type}[Rp α]
theorem Sep.focus {d:α}(h:Sep M w0 Δ F w) (i:Nat) {ad n cap} {xs:List α}{fp} (hi:Δ[i]? = some (Wk.mine [.slice ad n cap] xs fp)) (k:Nat) (hk:k<xs.length) :
    ∃ b o T ck f1 f2 fk,ad=some ⟨b,o,none⟩∧own true w ck (xs.getD k d) fk∧Sep M w0 (Δ.set i (hol ad n cap xs k b (o+k*sz α) T ck f1 f2)++[Wk.mine ck (xs.getD k d) fk]) F w:=by
  have hnd:=h.nodup1 hi
  obtain ⟨b,o,cur,T,f1,fk,f2,e1,e2,hb,hsz,hx,hback⟩:=qm (h.mine i hi) k hk
  have hlt:=Rp.lt (h.mine i hi)
  have hk1:(k+1)*sz α=k*sz α+sz α:=by rw [Nat.add_mul,Nat.one_mul]
  change fp.Nodup at hnd
  subst e2
  obtain ⟨n1,n2⟩:=List.nodup_cons.1 hnd
  rw [List.nodup_append,List.nodup_append] at n2
  obtain ⟨d1,⟨d2,d3,d4⟩,d5⟩:=n2
  have hmem:∀ x,x∈(b::(f1++f2))++fk↔x∈b::(f1++(fk++f2)):=fun x=>by
    simp only [List.cons_append,List.mem_cons,List.mem_append]
    constructor
    · rintro (h | (h | h) | h)
      · exact .inl h
      · exact .inr (.inl h)
      · exact .inr (.inr (.inr h))
      · exact .inr (.inr (.inl h))
    · rintro (h | h | h | h)
      · exact .inl h
      · exact .inr (.inl (.inl h))
      · exact .inr (.inr h)
      · exact .inr (.inl (.inr h))
  have H1:=h.set hi (q:=reord (Wk.mine [.slice ad n cap] xs (b::(f1++(fk++f2)))) ((b::(f1++f2))++fk) hmem) Ext.refl (h.mine i hi)
    (by
      change ((b::(f1++f2))++fk).Nodup
      refine List.nodup_append.2 ⟨List.nodup_cons.2 ⟨fun hm=>n1 (by rcases List.mem_append.1 hm with hm | hm<;>simp [hm]),List.nodup_append.2 ⟨d1,d3,fun p hp q hq e=>d5 p hp q (by simp [hq]) e⟩⟩,d2,fun p hp q hq e=>?_⟩
      subst e
      rcases List.mem_cons.1 hp with rfl | hp
      · exact n1 (by simp [hq])
      · rcases List.mem_append.1 hp with hp | hp
        · exact d5 p hp p (by simp [hq]) rfl
        · exact d4 p hq p hp rfl)
    (fun x hx => .inl ((hmem x).1 hx))
  have hil:i<Δ.length:=(List.getElem?_eq_some_iff.1 hi).1
  have ek:xs.getD k d=xs[k]:=by simp [List.getD,hk]
  refine ⟨b,o,T,_,f1,f2,fk,e1,by rw [ek]; exact hx,?_⟩
  have H2:=H1.part i (r:=reord (Wk.mine [.slice ad n cap] xs (b::(f1++(fk++f2)))) ((b::(f1++f2))++fk) hmem) (by rw [List.getElem?_set_self hil]) [hol ad n cap xs k b (o+k*sz α) T ((cur.toList.drop (o+k*sz α)).take (sz α)) f1 f2,Wk.mine ((cur.toList.drop (o+k*sz α)).take (sz α)) (xs.getD k d) fk] ?_ ?_
  · rw [List.set_set] at H2
    exact (H2.perm (qB hil)).sub ((List.Sublist.refl _).append (.cons _ (.refl _)))
  · refine ae ⟨cur,hb,hsz,rfl,fun x hx=>hlt x ((hmem x).1 (by simp only [List.mem_append]; exact .inl hx)),fun w' cur' x' fk' q1 q2 q3 q4 q5 q6=>hback w' cur' x' fk' q1 q2 (fun j hj=>q3 j (by rw [hk1] at hj; omega)) q4 q5 q6⟩ (ae ?_ (by simp))
    rw [ek]; exact hx
  · simp [blocks,hol,Wk.mine,reord]
variable {ad:Option Addr}{n cap k b off:Nat}{xs:List α}{T:TypeId}{ck:List Value}{f1 f2:List Nat}
theorem Sep.holAt (h:Sep M w0 Δ F w) (i:Nat) (hi:Δ[i]? = some (hol ad n cap xs k b off T ck f1 f2)):At w b off ck:=by
  obtain ⟨cur,h1,h2,h3,_⟩:=h.r i hi
  rw [← h3]
  exact pH h1 _
theorem Sep.hset (h:Sep M w0 Δ F w) (i:Nat) (hi:Δ[i]? = some (hol ad n cap xs k b off T ck f1 f2)) (j:Nat) (hj:j<ck.length) (v:Value) :
    ∃ cur:Array Value,w.heap[b]? = some (.cells cur T (0,0))∧off+j<cur.size∧Sep M w0 (Δ.set i (hol ad n cap xs k b off T (ck.set j v) f1 f2)) F (Wk.put w b (.cells (cur.setIfInBounds (off+j) v) T (0,0))):=by
  obtain ⟨cur,h1,h2,h3,h4,h5⟩:(hol ad n cap xs k b off T ck f1 f2).φ w:=h.r i hi
  have hnd:=h.nodup1 hi
  change (b::(f1++f2)).Nodup at hnd
  obtain ⟨n1,_⟩:=List.nodup_cons.1 hnd
  have hjs:j<sz α:=by
    have:=congrArg List.length h3
    rw [List.length_take,List.length_drop] at this; omega
  have hE:Ext (· = b) w (Wk.put w b (.cells (cur.setIfInBounds (off+j) v) T (0,0))):=Ext.refl.put (.inl rfl)
  refine ⟨cur,h1,by omega,h.set hi (q:=hol ad n cap xs k b off T (ck.set j v) f1 f2) (hE.mono fun b' _ e=>by subst e; simp [hol]) ?_ hnd (fun b hb => .inl hb)⟩
  refine ⟨cur.setIfInBounds (off+j) v,iV h1,by simpa using h2,?_,fun x hx=>by have:=h4 x hx; have:=hE.size; omega,fun w' cur' x' fk' q1 q2 q3 q4 q5 q6=>?_⟩
  · rw [Array.toList_setIfInBounds,List.drop_set,if_neg (by omega),List.take_set,h3,Nat.add_sub_cancel_left]
  · refine h5 w' cur' x' fk' q1 (by simpa using q2) (fun l hl=>?_) (fun b' hb'=>?_) (fun b' hb'=>?_) q6
    · rw [q3 l hl,Array.getElem?_setIfInBounds_ne (by omega)]
    · rw [q4 b' hb']; exact hE.block b' (h4 b' (by simp [hb'])) fun e=>n1 (by subst e; simp [hb'])
    · rw [q5 b' hb']; exact hE.block b' (h4 b' (by simp [hb'])) fun e=>n1 (by subst e; simp [hb'])
theorem Sep.fill (h:Sep M w0 Δ F w) (i j:Nat) {fk} {x:α}(hi:Δ[i]? = some (hol ad n cap xs k b off T ck f1 f2)) (hj:Δ[j]? = some (Wk.mine ck x fk)) (hij:Nat.beq j i=false) :
    ∃ fp',Sep M w0 ((Δ.set j gone).set i (Wk.mine [.slice ad n cap] (xs.set k x) fp')) F w:=by
  obtain ⟨cur,h1,h2,h3,h4,h5⟩:(hol ad n cap xs k b off T ck f1 f2).φ w:=h.r i hi
  have hx:=h.mine j hj
  have hnd:=h.nodup1 hi
  change (b::(f1++f2)).Nodup at hnd
  have hnk:=h.nodup1 hj
  change fk.Nodup at hnk
  have hap:∀ x∈fk,x ∉ b::(f1++f2):=fun x hx hm=>h.apart (i:=i) (j:=j) hi hj hij x hx hm
  obtain ⟨n1,n2⟩:=List.nodup_cons.1 hnd
  obtain ⟨d1,d2,d3⟩:=List.nodup_append.1 n2
  have hbk:b ∉ fk:=fun hm=>hap b hm (by simp)
  refine ⟨b::(f1++(fk++f2)),h.set2 hi hj hij (q:=Wk.mine [.slice ad n cap] (xs.set k x) (b::(f1++(fk++f2)))) Ext.refl ?_ ?_ ?_⟩
  · exact h5 w cur x fk h1 rfl (fun _ _=>rfl) (fun _ _=>rfl) (fun _ _=>rfl) (by rw [h3]; exact hx)
  · change (b::(f1++(fk++f2))).Nodup
    refine List.nodup_cons.2 ⟨fun hm=>?_,List.nodup_append.2 ⟨d1,List.nodup_append.2 ⟨hnk,d2,fun p hp q hq e=>?_⟩,fun p hp q hq e=>?_⟩⟩
    · simp only [List.mem_append,not_or] at hm n1
      rcases hm with hm | hm | hm
      · exact n1.1 hm
      · exact hbk hm
      · exact n1.2 hm
    · subst e; exact hap p hp (by simp [hq])
    · subst e
      rcases List.mem_append.1 hq with hq | hq
      · exact hap p hq (by simp [hp])
      · exact d3 p hp p hq rfl
  · intro x hx
    change x∈b::(f1++(fk++f2)) at hx
    simp only [List.mem_cons,List.mem_append] at hx
    rcases hx with h | h | h | h
    · exact .inl (by simp [hol,h])
    · exact .inl (by simp [hol,h])
    · exact .inr (.inl h)
    · exact .inl (by simp [hol,h])
theorem Sep.focusL {β:Type}[Rp β] (h:Sep M w0 Δ F w) (i:Nat) {ad n cap} {xs:List (List β)}{fp} (hi:Δ[i]? = some (Wk.mine [.slice ad n cap] xs fp)) (k:Nat) (hk:k<xs.length) :
    ∃ b o T f1 f2 a c fk,ad=some ⟨b,o,none⟩∧Sep M w0 (Δ.set i (hol ad n cap xs k b (o+k*1) T [.slice a (xs.getD k []).length c] f1 f2)++[Wk.mine [.slice a (xs.getD k []).length c] (xs.getD k []) fk]) F w:=by
  obtain ⟨b,o,T,ck,f1,f2,fk,e,hx,H⟩:=h.focus (d:=([]:List β)) i hi k hk
  obtain ⟨a,c,rfl⟩:=az hx
  exact ⟨b,o,T,f1,f2,a,c,fk,e,H⟩
end
section
variable {P:Program}{n:Nat}{ops:Array Oper}{Q:Post}{L:Env}{w w0:World}{M:Nat→Prop}{Δ F:List Rsc}{d:Tmp}{ty:TypeId}{p:String}{af:Array Edge}{g:Option (Nat × Bool)}{α:Type}[Rp α]
theorem gG {rest:List Oper}{t:TypeId}{x y:Operand}{ad:Option Addr}{m cap k b off:Nat}{xs:List α}{T:TypeId}{ck:List Value}{f1 f2:List Nat}{v:Value}(hw:Wn ops n L ⟨none,.store t x y,ty,p,af,g⟩) (hs:∀ w,(sizeOf t).run P w = .ok 1 w)
    (H:Sep M w0 Δ F w) (i j:Nat) (hi:Δ[i]? = some (hol ad m cap xs k b off T ck f1 f2)) (hj:Nat.blt j ck.length=true) (hx:evL L x=some (.pointer (some ⟨b,off+j,none⟩))) (hy:evL L y=some v) (h1:v.oneCell'=true)
    (kk:∀ w',Sep M w0 (Δ.set i (hol ad m cap xs k b off T (ck.set j v) f1 f2)) F w'→RL P n ops Q rest L w'):RL P n ops Q (⟨none,.store t x y,ty,p,af,g⟩::rest) L w:=by
  obtain ⟨cur,hb,hlt,H'⟩:=H.hset i hi j (Nat.le_of_ble_eq_true hj) v
  exact vi hw rfl (jl hs hx hy h1 hb hlt) (kk _ H')
end
end Go.Wk
namespace Go.Wk
section
variable {P:Program}{n:Nat}{c:Code}{Q:Post}{L:Env}{w w0:World}{M:Nat→Prop}{Δ F:List Rsc}
theorem kQ {α:Type}[Rp α] {γ:Type}{v0:Value}{fp0:List Nat}{b T} {cs:List Value}(f:γ→List α) (g0:γ) (H:Sep M w0 Δ F w) (i j q:Nat) (hi:Δ[i]? = some (mine [v0] (f g0) fp0)) (hj:Δ[j]? = some (box b (.cells cs.toArray T))) (hq:cs[q]? = some v0) (hij:Nat.beq j i=false)
  (E2:Env) (h2:sub L E2) (E:γ→Env) (I:γ→Prop) (μ:γ→Nat) (hs:sub L (E g0)) (h0:I g0)
  (round:∀ g v fp w,Sep M w0 ((Δ.set i (mine [v] (f g) fp)).set j (box b (.cells (cs.set q v).toArray T))) F w→I g→W P n c (again (fun x:γ × Value × List Nat=>E x.1++E2) (fun x w'=>Sep M w0 ((Δ.set i (mine [x.2.1] (f x.1) x.2.2)).set j (box b (.cells (cs.set q x.2.1).toArray T))) F w'∧I x.1) (fun x=>μ x.1) (g,v,fp) Q) (E g++E2) w):W P n (.loop c) Q L w:=by
 have hne:i≠j:=fun e=>by subst e; simp at hij
 have e0:(Δ.set i (mine [v0] (f g0) fp0)).set j (box b (.cells (cs.set q v0).toArray T))=Δ:=by
  have ec:cs.set q v0=cs:=by
   apply List.ext_getElem?
   intro l
   rw [List.getElem?_set]
   split
   ·rename_i e; subst e
    obtain ⟨hl,_⟩:=List.getElem?_eq_some_iff.1 hq
    rw [if_pos hl,hq]
   ·rfl
  rw [na hi,ec,na hj]
 exact bx (fun x:γ × Value × List Nat=>E x.1++E2) (fun x w'=>Sep M w0 ((Δ.set i (mine [x.2.1] (f x.1) x.2.2)).set j (box b (.cells (cs.set q x.2.1).toArray T))) F w'∧I x.1) (fun x=>μ x.1) (g0,v0,fp0) (jx hs h2) ⟨by rw [e0]; exact H,h0⟩ fun x w h=>round x.1 x.2.1 x.2.2 w h.1 h.2
theorem Sep.nilW {α:Type}[Rp α] (h:Sep M w0 Δ F w):Sep M w0 (Δ++[Wk.mine [.slice none 0 0] ([]:List α) []]) F w:=
  h.add Ext.refl (r:=Wk.mine [.slice none 0 0] ([]:List α) []) (.inr (.inl ⟨rfl,rfl,rfl⟩)) (by simp [Wk.mine]) (by simp [Wk.mine])
end
end Go.Wk
namespace Go.Wk
open Rp (sz own)
theorem Block.focus {M:Nat→Prop}{w0 w:World}{Δ F:List Rsc}(h:Sep M w0 Δ F w) (i:Nat) {ad n cap} {xs:List Block}{fp} (hi:Δ[i]? = some (mine [.slice ad n cap] xs fp)) (k:Nat) (hk:k<xs.length):∃ b o Ty f1 f2 A1 C1 g1,ad=some ⟨b,o,none⟩∧(xs.getD k default).Ok∧Sep M w0 (Δ.set i (hol ad n cap xs k b (o+k*sz Block) Ty [.int .i64 (xs.getD k default).Stamp,.slice A1 (xs.getD k default).Bytes.length C1] f1 f2)++[gone,mine [.slice A1 (xs.getD k default).Bytes.length C1] (xs.getD k default).Bytes g1]) F w:=by
  obtain ⟨b,o,Ty,ck,f1,f2,fk,e,hx,H⟩:=h.focus (d:=default) i hi k hk
  obtain ⟨A1,C1,g1,rfl,ef,ok,o1⟩:=dT hx
  have H2:=H.partLast [mine [.slice A1 (xs.getD k default).Bytes.length C1] (xs.getD k default).Bytes g1] (ae o1 (by simp)) (by simp [blocks,mine,ef])
  exact ⟨b,o,Ty,f1,f2,A1,C1,g1,e,ok,H2⟩
theorem Block.fill {M:Nat→Prop}{w0 w:World}{Δ F:List Rsc}(h:Sep M w0 Δ F w) (i j1:Nat) {ad n cap k b off Ty f1 f2} {xs:List Block}{s0:Int}{A1 C1 m1} {y1:List UInt8}{g1} (hi:Δ[i]? = some (hol ad n cap xs k b off Ty [.int .i64 s0,.slice A1 m1 C1] f1 f2)) (h1:Δ[j1]? = some (mine [.slice A1 m1 C1] y1 g1)) (d1:Nat.beq j1 i=false)  (ok:(⟨s0,y1⟩:Block).Ok):∃ fp',Sep M w0 ((Δ.set j1 gone).set i (mine [.slice ad n cap] (xs.set k (⟨s0,y1⟩:Block)) fp')) F w:=by
  have o1:=h.mine j1 h1
  obtain rfl:=dH o1
  have n1:j1≠i:=fun e=>by subst e; simp at d1
  have H:=h.conv j1 (mine [.int .i64 s0,.slice A1 y1.length C1] (⟨s0,y1⟩:Block) (g1)) h1 (Block.own_mk ok o1) (fun b hb=>hb) (show (mine [.slice A1 y1.length C1] y1 g1).fp.Nodup from h.nodup1 h1)
  obtain ⟨fp',H2⟩:=H.fill i j1 (by rw [List.getElem?_set_ne n1]; exact hi) (by rw [List.getElem?_set_self (List.getElem?_eq_some_iff.1 h1).1]) d1
  rw [List.set_set] at H2
  exact ⟨fp',H2⟩
theorem Drive.focus {M:Nat→Prop}{w0 w:World}{Δ F:List Rsc}(h:Sep M w0 Δ F w) (i:Nat) {ad n cap} {xs:List Drive}{fp} (hi:Δ[i]? = some (mine [.slice ad n cap] xs fp)) (k:Nat) (hk:k<xs.length):∃ b o Ty f1 f2 A1 C1 g1,ad=some ⟨b,o,none⟩∧(xs.getD k default).Ok∧Sep M w0 (Δ.set i (hol ad n cap xs k b (o+k*sz Drive) Ty [.bool (xs.getD k default).Wiped,.slice A1 (xs.getD k default).Blocks.length C1] f1 f2)++[gone,mine [.slice A1 (xs.getD k default).Blocks.length C1] (xs.getD k default).Blocks g1]) F w:=by
  obtain ⟨b,o,Ty,ck,f1,f2,fk,e,hx,H⟩:=h.focus (d:=default) i hi k hk
  obtain ⟨A1,C1,g1,rfl,ef,ok,o1⟩:=dh hx
  have H2:=H.partLast [mine [.slice A1 (xs.getD k default).Blocks.length C1] (xs.getD k default).Blocks g1] (ae o1 (by simp)) (by simp [blocks,mine,ef])
  exact ⟨b,o,Ty,f1,f2,A1,C1,g1,e,ok,H2⟩
theorem Drive.fill {M:Nat→Prop}{w0 w:World}{Δ F:List Rsc}(h:Sep M w0 Δ F w) (i j1:Nat) {ad n cap k b off Ty f1 f2} {xs:List Drive}{s0:Bool}{A1 C1 m1} {y1:List Block}{g1} (hi:Δ[i]? = some (hol ad n cap xs k b off Ty [.bool s0,.slice A1 m1 C1] f1 f2)) (h1:Δ[j1]? = some (mine [.slice A1 m1 C1] y1 g1)) (d1:Nat.beq j1 i=false)  (ok:(⟨s0,y1⟩:Drive).Ok):∃ fp',Sep M w0 ((Δ.set j1 gone).set i (mine [.slice ad n cap] (xs.set k (⟨s0,y1⟩:Drive)) fp')) F w:=by
  have o1:=h.mine j1 h1
  obtain rfl:=dH o1
  have n1:j1≠i:=fun e=>by subst e; simp at d1
  have H:=h.conv j1 (mine [.bool s0,.slice A1 y1.length C1] (⟨s0,y1⟩:Drive) (g1)) h1 (Drive.own_mk ok o1) (fun b hb=>hb) (show (mine [.slice A1 y1.length C1] y1 g1).fp.Nodup from h.nodup1 h1)
  obtain ⟨fp',H2⟩:=H.fill i j1 (by rw [List.getElem?_set_ne n1]; exact hi) (by rw [List.getElem?_set_self (List.getElem?_eq_some_iff.1 h1).1]) d1
  rw [List.set_set] at H2
  exact ⟨fp',H2⟩
theorem Tape.focus {M:Nat→Prop}{w0 w:World}{Δ F:List Rsc}(h:Sep M w0 Δ F w) (i:Nat) {ad n cap} {xs:List Tape}{fp} (hi:Δ[i]? = some (mine [.slice ad n cap] xs fp)) (k:Nat) (hk:k<xs.length):∃ b o Ty f1 f2 A1 C1 g1,ad=some ⟨b,o,none⟩∧(xs.getD k default).Ok∧Sep M w0 (Δ.set i (hol ad n cap xs k b (o+k*sz Tape) Ty [.bool (xs.getD k default).Wiped,.slice A1 (xs.getD k default).Recs.length C1] f1 f2)++[gone,mine [.slice A1 (xs.getD k default).Recs.length C1] (xs.getD k default).Recs g1]) F w:=by
  obtain ⟨b,o,Ty,ck,f1,f2,fk,e,hx,H⟩:=h.focus (d:=default) i hi k hk
  obtain ⟨A1,C1,g1,rfl,ef,ok,o1⟩:=bN hx
  have H2:=H.partLast [mine [.slice A1 (xs.getD k default).Recs.length C1] (xs.getD k default).Recs g1] (ae o1 (by simp)) (by simp [blocks,mine,ef])
  exact ⟨b,o,Ty,f1,f2,A1,C1,g1,e,ok,H2⟩
theorem Tape.fill {M:Nat→Prop}{w0 w:World}{Δ F:List Rsc}(h:Sep M w0 Δ F w) (i j1:Nat) {ad n cap k b off Ty f1 f2} {xs:List Tape}{s0:Bool}{A1 C1 m1} {y1:List Rec}{g1} (hi:Δ[i]? = some (hol ad n cap xs k b off Ty [.bool s0,.slice A1 m1 C1] f1 f2)) (h1:Δ[j1]? = some (mine [.slice A1 m1 C1] y1 g1)) (d1:Nat.beq j1 i=false)  (ok:(⟨s0,y1⟩:Tape).Ok):∃ fp',Sep M w0 ((Δ.set j1 gone).set i (mine [.slice ad n cap] (xs.set k (⟨s0,y1⟩:Tape)) fp')) F w:=by
  have o1:=h.mine j1 h1
  obtain rfl:=dH o1
  have n1:j1≠i:=fun e=>by subst e; simp at d1
  have H:=h.conv j1 (mine [.bool s0,.slice A1 y1.length C1] (⟨s0,y1⟩:Tape) (g1)) h1 (Tape.own_mk ok o1) (fun b hb=>hb) (show (mine [.slice A1 y1.length C1] y1 g1).fp.Nodup from h.nodup1 h1)
  obtain ⟨fp',H2⟩:=H.fill i j1 (by rw [List.getElem?_set_ne n1]; exact hi) (by rw [List.getElem?_set_self (List.getElem?_eq_some_iff.1 h1).1]) d1
  rw [List.set_set] at H2
  exact ⟨fp',H2⟩
theorem Rec.focus {M:Nat→Prop}{w0 w:World}{Δ F:List Rsc}(h:Sep M w0 Δ F w) (i:Nat) {ad n cap} {xs:List Rec}{fp} (hi:Δ[i]? = some (mine [.slice ad n cap] xs fp)) (k:Nat) (hk:k<xs.length):∃ b o Ty f1 f2 A6 C6 A7 C7 A8 C8 g6 g7 g8,ad=some ⟨b,o,none⟩∧(xs.getD k default).Ok∧Sep M w0 (Δ.set i (hol ad n cap xs k b (o+k*sz Rec) Ty [.int .i64 (xs.getD k default).Kind,.int .i64 (xs.getD k default).Seq,.string (xs.getD k default).Name,.int .i64 (xs.getD k default).Length,.int .i64 (xs.getD k default).Group,.int .i64 (xs.getD k default).Row,.slice A6 (xs.getD k default).Rows.length C6,.slice A7 (xs.getD k default).Data.length C7,.slice A8 (xs.getD k default).Delta.length C8] f1 f2)++[gone,mine [.slice A6 (xs.getD k default).Rows.length C6] (xs.getD k default).Rows g6,mine [.slice A7 (xs.getD k default).Data.length C7] (xs.getD k default).Data g7,mine [.slice A8 (xs.getD k default).Delta.length C8] (xs.getD k default).Delta g8]) F w:=by
  obtain ⟨b,o,Ty,ck,f1,f2,fk,e,hx,H⟩:=h.focus (d:=default) i hi k hk
  obtain ⟨A6,C6,A7,C7,A8,C8,g6,g7,g8,rfl,ef,ok,o6,o7,o8⟩:=cy hx
  have H2:=H.partLast [mine [.slice A6 (xs.getD k default).Rows.length C6] (xs.getD k default).Rows g6,mine [.slice A7 (xs.getD k default).Data.length C7] (xs.getD k default).Data g7,mine [.slice A8 (xs.getD k default).Delta.length C8] (xs.getD k default).Delta g8] (ae o6 (ae o7 (ae o8 (by simp)))) (by simp [blocks,mine,ef])
  exact ⟨b,o,Ty,f1,f2,A6,C6,A7,C7,A8,C8,g6,g7,g8,e,ok,H2⟩
theorem Rec.fill {M:Nat→Prop}{w0 w:World}{Δ F:List Rsc}(h:Sep M w0 Δ F w) (i j6 j7 j8:Nat) {ad n cap k b off Ty f1 f2} {xs:List Rec}{s0:Int}{s1:Int}{s2:ByteArray}{s3:Int}{s4:Int}{s5:Int}{A6 C6 m6} {y6:List Int}{g6} {A7 C7 m7} {y7:List UInt8}{g7} {A8 C8 m8} {y8:List UInt8}{g8} (hi:Δ[i]? = some (hol ad n cap xs k b off Ty [.int .i64 s0,.int .i64 s1,.string s2,.int .i64 s3,.int .i64 s4,.int .i64 s5,.slice A6 m6 C6,.slice A7 m7 C7,.slice A8 m8 C8] f1 f2)) (h6:Δ[j6]? = some (mine [.slice A6 m6 C6] y6 g6)) (h7:Δ[j7]? = some (mine [.slice A7 m7 C7] y7 g7)) (h8:Δ[j8]? = some (mine [.slice A8 m8 C8] y8 g8)) (d6:Nat.beq j6 i=false) (d7:Nat.beq j7 i=false) (d8:Nat.beq j8 i=false) (e7_6:Nat.beq j7 j6=false) (e8_6:Nat.beq j8 j6=false) (e8_7:Nat.beq j8 j7=false) (ok:(⟨s0,s1,s2,s3,s4,s5,y6,y7,y8⟩:Rec).Ok):∃ fp',Sep M w0 ((((Δ.set j7 gone).set j8 gone).set j6 gone).set i (mine [.slice ad n cap] (xs.set k (⟨s0,s1,s2,s3,s4,s5,y6,y7,y8⟩:Rec)) fp')) F w:=by
  have o6:=h.mine j6 h6
  obtain rfl:=dH o6
  have n6:j6≠i:=fun e=>by subst e; simp at d6
  have o7:=h.mine j7 h7
  obtain rfl:=dH o7
  have n7:j7≠i:=fun e=>by subst e; simp at d7
  have o8:=h.mine j8 h8
  obtain rfl:=dH o8
  have n8:j8≠i:=fun e=>by subst e; simp at d8
  have q1:j7≠j6:=fun e=>by subst e; simp at e7_6
  have q2:j8≠j6:=fun e=>by subst e; simp at e8_6
  have q3:j8≠j7:=fun e=>by subst e; simp at e8_7
  have l6:=(List.getElem?_eq_some_iff.1 h6).1
  have H1:=h.join2 j6 j7 h6 h7 e7_6
  have H2:=H1.join2 j6 j8 (by rw [List.getElem?_set_self (by simpa using l6)]) (by rw [List.getElem?_set_ne (Ne.symm q2),List.getElem?_set_ne (Ne.symm q3)]; exact h8) e8_6
  rw [List.set_comm _ _ (Ne.symm q2),List.set_set] at H2
  have sq:(((Δ.set j7 gone).set j8 gone).set j6 (cat (cat (mine [.slice A6 y6.length C6] y6 g6) (mine [.slice A7 y7.length C7] y7 g7)) (mine [.slice A8 y8.length C8] y8 g8)))[j6]? = some (cat (cat (mine [.slice A6 y6.length C6] y6 g6) (mine [.slice A7 y7.length C7] y7 g7)) (mine [.slice A8 y8.length C8] y8 g8)):=by rw [List.getElem?_set_self (by simpa using l6)]
  have nd:=H2.nodup1 sq
  have H:=H2.conv j6 (mine [.int .i64 s0,.int .i64 s1,.string s2,.int .i64 s3,.int .i64 s4,.int .i64 s5,.slice A6 y6.length C6,.slice A7 y7.length C7,.slice A8 y8.length C8] (⟨s0,s1,s2,s3,s4,s5,y6,y7,y8⟩:Rec) (g6++(g7++(g8)))) sq (Rec.own_mk ok o6 o7 o8) (fun b hb=>by simpa [cat,mine] using hb) (by simpa [cat,mine] using nd)
  rw [List.set_set] at H
  obtain ⟨fp',H3⟩:=H.fill i j6 (by rw [List.getElem?_set_ne n6,List.getElem?_set_ne n8,List.getElem?_set_ne n7]; exact hi) (by rw [List.getElem?_set_self (by simpa using l6)]) d6
  rw [List.set_set] at H3
  exact ⟨fp',H3⟩
end Go.Wk
namespace Go.Wk
open Rp (sz own)
def digits:Nat→Nat→ByteArray→ByteArray
  | 0,_,out=>out
  | f+1,k,out=>if k=0 then out else digits f (k / 10) (strB [UInt8.ofNat (48+k % 10)]++out)
def mv (k:Int):ByteArray:=if k≤0 then ⟨#[109,48]⟩ else ⟨#[109]⟩++digits 30 k.toNat ⟨#[]⟩
section
variable {α:Type}[Inhabited α]
def MkL (P:α→Int→Prop) (c:α→Nat) (xs:List α) (k:Int):Prop:=∀ i,i<xs.length→P (xs.getD i default) (k+bv (fun i=>c (xs.getD i default)) i)
def MkInv (P:α→Int→Prop) (c:α→Nat) (xs:List α) (k:Int) (i:Nat) (ys:List α):Prop:=
  i≤xs.length∧ys.length=xs.length∧(∀ j,c (ys.getD j default)=c (xs.getD j default))∧(∀ j,j<i→P (ys.getD j default) (k+bv (fun i=>c (xs.getD i default)) j))∧(∀ j,i≤j→ys.getD j default=xs.getD j default)
variable {P:α→Int→Prop}{c:α→Nat}{xs ys:List α}{k:Int}{i:Nat}{e:α}
theorem kI:MkInv P c xs k 0 xs:=⟨Nat.zero_le _,rfl,fun _=>rfl,fun j hj=>by omega,fun _ _=>rfl⟩
theorem mN (h:MkInv P c xs k i ys) (hi:i<xs.length) (hc:c e=c (xs.getD i default)) (hP:P e (k+bv (fun i=>c (xs.getD i default)) i)):MkInv P c xs k (i+1) (ys.set i e):=by
  obtain ⟨h1,h2,h3,h4,h5⟩:=h
  refine ⟨by omega,by rw [List.length_set]; exact h2,fun j=>?_,fun j hj=>?_,fun j hj=>?_⟩
  · rw [dm]
    split
    · rename_i h; rw [hc,h.1]
    · exact h3 j
  · rw [dm]
    split
    · rename_i h; rw [h.1]; exact hP
    · rename_i h; exact h4 j (by omega)
  · rw [dm,if_neg (by omega)]; exact h5 j (by omega)
theorem qh (h:MkInv P c xs k xs.length ys):ys.length=xs.length∧mkL c ys=mkL c xs∧MkL P c ys k:=by
  obtain ⟨h1,h2,h3,h4,h5⟩:=h
  have e:(fun i=>c (ys.getD i default))=fun i=>c (xs.getD i default):=funext h3
  refine ⟨h2,by unfold mkL; rw [e,h2],fun i hi=>?_⟩
  rw [e]; exact h4 i (by omega)
theorem sO (h:MkInv P c xs k i ys):ys.getD i default=xs.getD i default:=h.2.2.2.2 i (Nat.le_refl _)
theorem iQ (h:i<xs.length):bv (fun i=>c (xs.getD i default)) (i+1)=bv (fun i=>c (xs.getD i default)) i+c (xs.getD i default)∧bv (fun i=>c (xs.getD i default)) (i+1)≤mkL c xs:=⟨rfl,iE h⟩
end
def MkBlock (b:Block) (k:Int):Prop:=b.Stamp=k∧MarkB b.Bytes (k+1)
def MkDrive (d:Drive) (k:Int):Prop:=d.Wiped=decide (k.tmod 3=0)∧MkL MkBlock cu d.Blocks (k+1)
def MkRec (r:Rec) (k:Int):Prop:=r.Kind=k∧r.Seq=k+1∧r.Name=mv (k+2)∧r.Length=k+3∧r.Group=k+4∧r.Row=k+5∧MarkI r.Rows (k+6)∧MarkB r.Data (k+6+r.Rows.length)∧MarkB r.Delta (k+6+r.Rows.length+r.Data.length)
def MkTape (t:Tape) (k:Int):Prop:=t.Wiped=decide (k.tmod 3=0)∧MkL MkRec bO t.Recs (k+1)
def MkWld (z:Wld) (k:Int):Prop:=MkL (MkL MkDrive bf) (mkL bf) z.Groups k∧MarkI z.On (k+mkL (mkL bf) z.Groups)∧MkL MkTape cA z.Tapes (k+mkL (mkL bf) z.Groups+z.On.length)
end Go.Wk
namespace Go.Wk
theorem Bp {a b:ByteArray}(h:a=b):some (Value.string a)=some (Value.string b):=by rw [h]
theorem tc:∀ f out,digits f 0 out=out
  | 0,_=>rfl
  | _+1,_=>by rw [digits,if_pos rfl]
theorem tn {f m:Nat}{out:ByteArray}(h:0<m):digits (f+1) m out=digits f (m / 10) (strB [UInt8.ofNat (48+m % 10)]++out):=by rw [digits,if_neg (by omega)]
end Go.Wk
namespace Go.Wk
section
variable {M:Nat→Prop}{w0 w:World}{Δ F:List Rsc}{α:Type}[Rp α]
theorem Sep.litW (h:Sep M w0 Δ F w) (i:Nat) {b:Nat}{T:TypeId}{v:Value}{u:α}(hi:Δ[i]? = some (Wk.box b (.cells [v].toArray T))) (h0:Rp.own true w [v] u []):Sep M w0 (Δ.set i (Wk.mine [.slice (some ⟨b,0,none⟩) 1 1] [u] [b])) F w:=
  h.conv i (Wk.mine [.slice (some ⟨b,0,none⟩) 1 1] [u] [b]) hi (.inr (.inr ⟨b,0,1,[v].toArray,T,(0,0),[],by simp,by simp,h.box i hi,fun _=>rfl,by simp,by simp [maxLen],by have:=Rp.len h0; simp at this; simp [← this],by
    have hl:=Rp.len h0
    refine ⟨[],[],rfl,?_,rfl⟩
    have e:Rp.sz α=1:=by simpa using hl.symm
    rw [e]; exact h0⟩)) (fun b hb=>hb) (by simp [Wk.mine])
end
end Go.Wk
namespace Go.Wk
theorem wW {k:Int}(h:k≤4611686018427388904):k.toNat<10^30:=Nat.lt_of_le_of_lt (show k.toNat≤4611686018427388904 by omega) (by decide)
theorem Be {m:Nat}:strB [qN (48+(m:Int).tmod 10)]=strB [UInt8.ofNat (48+m % 10)]:=by
  have e:((48+(m:Int).tmod 10) % 256).toNat=48+m % 10:=by
    rw [Int.tmod_eq_emod_of_nonneg (by omega)]; omega
  unfold qN; rw [e]
end Go.Wk
namespace Go.Wk
section
open Rp (own sz)
variable {w w':World}{x:Wld}{A9 A10 A11:Option Addr}{C9 C10 C11:Nat}{fp:List Nat}
theorem Wld.mkOut {F:List Rsc}{y9:List (List Drive)}{y10:List Int}{y11:List Tape}{f9 f10 f11:List Nat}{k:Int}(ok:x.Ok) (h:Sep (· ∈ fp) w [gone,mine [.slice A9 x.Groups.length C9] y9 f9,mine [.slice A10 x.On.length C10] y10 f10,mine [.slice A11 x.Tapes.length C11] y11 f11] F w')
    (h9:y9.length=x.Groups.length∧mkL (mkL bf) y9=mkL (mkL bf) x.Groups∧MkL (MkL MkDrive bf) (mkL bf) y9 k) (l10:y10.length=x.On.length) (h10:MarkI y10 (k+mkL (mkL bf) x.Groups))
    (h11:y11.length=x.Tapes.length∧mkL cA y11=mkL cA x.Tapes∧MkL MkTape cA y11 (k+mkL (mkL bf) x.Groups+x.On.length)) :
    ∃ x':Wld,Mut w w' fp [.int .i64 x.Shape.Groups,.int .i64 x.Shape.Column,.int .i64 x.Shape.Data,.int .i64 x.Shape.Spare,.int .i64 x.Shape.Rows,.int .i64 x.Shape.Cap,.int .i64 x.Shape.Batch,.int .i64 x.Shape.Queue,.int .i64 x.Shape.Stage,.slice A9 x.Groups.length C9,.slice A10 x.On.length C10,.slice A11 x.Tapes.length C11,.int .i64 x.Writes,.int .i64 x.Stop,.bool x.Down] x' ∧
      (x'.Groups.length=x.Groups.length∧x'.On.length=x.On.length∧x'.Tapes.length=x.Tapes.length∧cj x'=cj x∧MkWld x' k∧x'.Shape=x.Shape∧x'.Writes=x.Writes∧x'.Stop=x.Stop∧x'.Down=x.Down):=
  ⟨_,Wld.mutOut ok h h9.1 l10 h11.1,h9.1,l10,h11.1,by unfold cj; dsimp only; rw [h9.2.1,l10,h11.2.1],⟨h9.2.2,by dsimp only; rw [h9.2.1]; exact h10,by dsimp only; rw [h9.2.1,l10]; exact h11.2.2⟩,rfl,rfl,rfl,rfl⟩
end
end Go.Wk
namespace Go.Wk
theorem js {α:Type}{a b:List α}{d:α}{i:Nat}(h:i<a.length):(a++b).getD i d=a.getD i d:=by simp [List.getD,List.getElem?_append_left h]
theorem l5 {α:Type}{a b:List α}{d:α}{i:Nat}(h:a.length≤i):(a++b).getD i d=b.getD (i-a.length) d:=by simp [List.getD,List.getElem?_append_right h]
theorem bE {α:Type}{l:List α}{d:α}{i:Nat}(h:i<l.length):l.getD i d=l[i]:=by simp [List.getD,h]
end Go.Wk
namespace Go.Wk
open Rp (sz own)
def OwnW (w:World) (b:Nat) (T:TypeId) (z:Wld) (fp:List Nat):Prop:=
  ∃ A9 C9 A10 C10 A11 C11 f9 f10 f11,w.heap[b]? = some (.cells [.int .i64 z.Shape.Groups,.int .i64 z.Shape.Column,.int .i64 z.Shape.Data,.int .i64 z.Shape.Spare,.int .i64 z.Shape.Rows,.int .i64 z.Shape.Cap,.int .i64 z.Shape.Batch,.int .i64 z.Shape.Queue,.int .i64 z.Shape.Stage,.slice A9 z.Groups.length C9,.slice A10 z.On.length C10,.slice A11 z.Tapes.length C11,.int .i64 z.Writes,.int .i64 z.Stop,.bool z.Down].toArray T)∧own true w [.slice A9 z.Groups.length C9] z.Groups f9∧own true w [.slice A10 z.On.length C10] z.On f10∧own true w [.slice A11 z.Tapes.length C11] z.Tapes f11∧z.Ok∧fp=b::(f9++(f10++f11))
theorem OwnW.st {w w':World}{b T z fp} (h:OwnW w b T z fp) (k:∀ x∈fp,w'.heap[x]? = w.heap[x]?):OwnW w' b T z fp:=by
  obtain ⟨A9,C9,A10,C10,A11,C11,f9,f10,f11,h1,h2,h3,h4,h5,h6⟩:=h
  subst h6
  exact ⟨A9,C9,A10,C10,A11,C11,f9,f10,f11,(k b (by simp)).trans h1,Rp.st h2 fun x hx=>k x (by simp [hx]),Rp.st h3 fun x hx=>k x (by simp [hx]),Rp.st h4 fun x hx=>k x (by simp [hx]),h5,rfl⟩
theorem OwnW.lt {w:World}{b T z fp} (h:OwnW w b T z fp):∀ x∈fp,x<w.heap.size:=by
  obtain ⟨A9,C9,A10,C10,A11,C11,f9,f10,f11,h1,h2,h3,h4,h5,h6⟩:=h
  subst h6
  intro x hx
  simp only [List.mem_cons,List.mem_append] at hx
  rcases hx with rfl | hx | hx | hx
  · exact (Array.getElem?_eq_some_iff.1 h1).1
  · exact Rp.lt h2 x hx
  · exact Rp.lt h3 x hx
  · exact Rp.lt h4 x hx
def wldR (b:Nat) (T:TypeId) (z:Wld) (fp:List Nat):Rsc:=⟨fp,fun w=>OwnW w b T z fp,fun h k=>h.st k,fun h=>h.lt⟩
def MutW (w w':World) (fp:List Nat) (b:Nat) (T:TypeId) (z:Wld):Prop:=
  Ext (· ∈ fp) w w'∧∃ fp',OwnW w' b T z fp'∧fp'.Nodup∧∀ x∈fp',x∈fp∨w.heap.size≤x
section
variable {M:Nat→Prop}{w0 w w':World}{Δ F:List Rsc}{b:Nat}{T:TypeId}{z z':Wld}{fp:List Nat}
theorem Sep.beginW (h:OwnW w b T z fp) (hn:fp.Nodup):Sep (· ∈ fp) w [wldR b T z fp] [] w:=
  ⟨Ext.refl,by simpa [wldR] using h,by simpa [blocks,wldR] using hn,fun b hb => .inl (by simpa [blocks,wldR] using hb),by simp,by simp⟩
theorem Sep.seeF {α:Type}[Rp α] (h:Sep M w0 [wldR b T z fp] F w) {cs:List Value}{x:α}{f} (hx:own false w cs x f) (hd:∀ b∈f,b ∉ fp):Sep M w0 [wldR b T z fp] (F++[Wk.seen false cs x f]) w:=
  h.look (r:=Wk.seen false cs x f) hx fun b hb hm=>hd b hb (by simpa [blocks,wldR] using hm)
theorem Sep.wldAt (h:Sep M w0 Δ F w) (i:Nat) (hi:Δ[i]? = some (wldR b T z fp)):OwnW w b T z fp:=h.r i hi
theorem Sep.doneW {Δ':List Rsc}{fp0:List Nat}(h:Sep (· ∈ fp0) w0 (wldR b T z fp::Δ') F w):MutW w0 w fp0 b T z:=
  ⟨h.ext,fp,h.r 0 rfl,h.nodup1 (i:=0) rfl,fun x hx=>h.new x (by simp [blocks,wldR,hx])⟩
theorem Sep.mutW (h:Sep M w0 Δ F w) (i:Nat) (hi:Δ[i]? = some (wldR b T z fp)) (m:MutW w w' fp b T z'):∃ fp',Sep M w0 (Δ.set i (wldR b T z' fp')) F w':=by
  obtain ⟨e,fp',h1,h2,h3⟩:=m
  exact ⟨fp',h.set hi (q:=wldR b T z' fp') e h1 h2 h3⟩
theorem Sep.openW (h:Sep M w0 Δ F w) (i:Nat) (hi:Δ[i]? = some (wldR b T z fp)) :
    ∃ A9 C9 A10 C10 A11 C11 f9 f10 f11,z.Ok∧Sep M w0 (Δ.set i (Wk.box b (.cells [.int .i64 z.Shape.Groups,.int .i64 z.Shape.Column,.int .i64 z.Shape.Data,.int .i64 z.Shape.Spare,.int .i64 z.Shape.Rows,.int .i64 z.Shape.Cap,.int .i64 z.Shape.Batch,.int .i64 z.Shape.Queue,.int .i64 z.Shape.Stage,.slice A9 z.Groups.length C9,.slice A10 z.On.length C10,.slice A11 z.Tapes.length C11,.int .i64 z.Writes,.int .i64 z.Stop,.bool z.Down].toArray T))++[gone,Wk.mine [.slice A9 z.Groups.length C9] z.Groups f9,Wk.mine [.slice A10 z.On.length C10] z.On f10,Wk.mine [.slice A11 z.Tapes.length C11] z.Tapes f11]) F w:=by
  obtain ⟨A9,C9,A10,C10,A11,C11,f9,f10,f11,h1,h2,h3,h4,h5,h6⟩:OwnW w b T z fp:=h.r i hi
  have hil:i<Δ.length:=(List.getElem?_eq_some_iff.1 hi).1
  have p1:(Wk.box b (.cells [.int .i64 z.Shape.Groups,.int .i64 z.Shape.Column,.int .i64 z.Shape.Data,.int .i64 z.Shape.Spare,.int .i64 z.Shape.Rows,.int .i64 z.Shape.Cap,.int .i64 z.Shape.Batch,.int .i64 z.Shape.Queue,.int .i64 z.Shape.Stage,.slice A9 z.Groups.length C9,.slice A10 z.On.length C10,.slice A11 z.Tapes.length C11,.int .i64 z.Writes,.int .i64 z.Stop,.bool z.Down].toArray T)).φ w:=h1
  have H2:=h.part i hi [Wk.box b (.cells [.int .i64 z.Shape.Groups,.int .i64 z.Shape.Column,.int .i64 z.Shape.Data,.int .i64 z.Shape.Spare,.int .i64 z.Shape.Rows,.int .i64 z.Shape.Cap,.int .i64 z.Shape.Batch,.int .i64 z.Shape.Queue,.int .i64 z.Shape.Stage,.slice A9 z.Groups.length C9,.slice A10 z.On.length C10,.slice A11 z.Tapes.length C11,.int .i64 z.Writes,.int .i64 z.Stop,.bool z.Down].toArray T),Wk.mine [.slice A9 z.Groups.length C9] z.Groups f9,Wk.mine [.slice A10 z.On.length C10] z.On f10,Wk.mine [.slice A11 z.Tapes.length C11] z.Tapes f11] (ae p1 (ae h2 (ae h3 (ae h4 (by simp))))) (by simp [blocks,Wk.mine,Wk.box,wldR,h6])
  exact ⟨A9,C9,A10,C10,A11,C11,f9,f10,f11,h5,H2.perm (qB hil)⟩
theorem Sep.closeW (h:Sep M w0 Δ F w) (i j9 j10 j11:Nat) (z:Wld) {A9 C9 A10 C10 A11 C11 f9 f10 f11 n9 n10 n11} (hi:Δ[i]? = some (Wk.box b (.cells [.int .i64 z.Shape.Groups,.int .i64 z.Shape.Column,.int .i64 z.Shape.Data,.int .i64 z.Shape.Spare,.int .i64 z.Shape.Rows,.int .i64 z.Shape.Cap,.int .i64 z.Shape.Batch,.int .i64 z.Shape.Queue,.int .i64 z.Shape.Stage,.slice A9 n9 C9,.slice A10 n10 C10,.slice A11 n11 C11,.int .i64 z.Writes,.int .i64 z.Stop,.bool z.Down].toArray T))) (h9:Δ[j9]? = some (Wk.mine [.slice A9 n9 C9] z.Groups f9)) (h10:Δ[j10]? = some (Wk.mine [.slice A10 n10 C10] z.On f10)) (h11:Δ[j11]? = some (Wk.mine [.slice A11 n11 C11] z.Tapes f11))
    (d1:Nat.beq j9 i=false) (d2:Nat.beq j10 i=false) (d3:Nat.beq j11 i=false) (d4:Nat.beq j10 j9=false) (d5:Nat.beq j11 j9=false) (d6:Nat.beq j11 j10=false) (ok:z.Ok) :
    ∃ fp,Sep M w0 ((((Δ.set j11 gone).set j10 gone).set j9 gone).set i (wldR b T z fp)) F w:=by
  obtain rfl:=dH (h.mine j9 h9)
  obtain rfl:=dH (h.mine j10 h10)
  obtain rfl:=dH (h.mine j11 h11)
  have n1:j9≠i:=fun e=>by subst e; simp at d1
  have n2:j10≠i:=fun e=>by subst e; simp at d2
  have n3:j11≠i:=fun e=>by subst e; simp at d3
  have n4:j10≠j9:=fun e=>by subst e; simp at d4
  have n5:j11≠j9:=fun e=>by subst e; simp at d5
  have n6:j11≠j10:=fun e=>by subst e; simp at d6
  have g:∀ {L:List Rsc}{k:Nat}{a r:Rsc},L[k]? = some r→(L.set k a)[k]? = some a:=fun h=>List.getElem?_set_self (List.getElem?_eq_some_iff.1 h).1
  have H1:=h.join2 j10 j11 h10 h11 d6
  have a10:((Δ.set j11 gone).set j10 (cat (Wk.mine [.slice A10 z.On.length C10] z.On f10) (Wk.mine [.slice A11 z.Tapes.length C11] z.Tapes f11)))[j10]? = some (cat (Wk.mine [.slice A10 z.On.length C10] z.On f10) (Wk.mine [.slice A11 z.Tapes.length C11] z.Tapes f11)):=g (r:=Wk.mine [.slice A10 z.On.length C10] z.On f10) (by rw [List.getElem?_set_ne n6]; exact h10)
  have a9:((Δ.set j11 gone).set j10 (cat (Wk.mine [.slice A10 z.On.length C10] z.On f10) (Wk.mine [.slice A11 z.Tapes.length C11] z.Tapes f11)))[j9]? = some (Wk.mine [.slice A9 z.Groups.length C9] z.Groups f9):=by rw [List.getElem?_set_ne n4,List.getElem?_set_ne n5]; exact h9
  have H2:=H1.join2 j9 j10 a9 a10 d4
  rw [List.set_set] at H2
  have ai:((((Δ.set j11 gone).set j10 gone).set j9 (cat (Wk.mine [.slice A9 z.Groups.length C9] z.Groups f9) (cat (Wk.mine [.slice A10 z.On.length C10] z.On f10) (Wk.mine [.slice A11 z.Tapes.length C11] z.Tapes f11)))))[i]? = some (Wk.box b (.cells [.int .i64 z.Shape.Groups,.int .i64 z.Shape.Column,.int .i64 z.Shape.Data,.int .i64 z.Shape.Spare,.int .i64 z.Shape.Rows,.int .i64 z.Shape.Cap,.int .i64 z.Shape.Batch,.int .i64 z.Shape.Queue,.int .i64 z.Shape.Stage,.slice A9 z.Groups.length C9,.slice A10 z.On.length C10,.slice A11 z.Tapes.length C11,.int .i64 z.Writes,.int .i64 z.Stop,.bool z.Down].toArray T)):=by rw [List.getElem?_set_ne n1,List.getElem?_set_ne n2,List.getElem?_set_ne n3]; exact hi
  have b9:((((Δ.set j11 gone).set j10 gone).set j9 (cat (Wk.mine [.slice A9 z.Groups.length C9] z.Groups f9) (cat (Wk.mine [.slice A10 z.On.length C10] z.On f10) (Wk.mine [.slice A11 z.Tapes.length C11] z.Tapes f11)))))[j9]? = some (cat (Wk.mine [.slice A9 z.Groups.length C9] z.Groups f9) (cat (Wk.mine [.slice A10 z.On.length C10] z.On f10) (Wk.mine [.slice A11 z.Tapes.length C11] z.Tapes f11))):=g (r:=Wk.mine [.slice A9 z.Groups.length C9] z.Groups f9) (by rw [List.getElem?_set_ne n4,List.getElem?_set_ne n5]; exact h9)
  have H3:=H2.join2 i j9 ai b9 d1
  rw [List.set_set] at H3
  obtain ⟨q1,q2,q3,q4⟩:(cat (Wk.box b (.cells [.int .i64 z.Shape.Groups,.int .i64 z.Shape.Column,.int .i64 z.Shape.Data,.int .i64 z.Shape.Spare,.int .i64 z.Shape.Rows,.int .i64 z.Shape.Cap,.int .i64 z.Shape.Batch,.int .i64 z.Shape.Queue,.int .i64 z.Shape.Stage,.slice A9 z.Groups.length C9,.slice A10 z.On.length C10,.slice A11 z.Tapes.length C11,.int .i64 z.Writes,.int .i64 z.Stop,.bool z.Down].toArray T)) (cat (Wk.mine [.slice A9 z.Groups.length C9] z.Groups f9) (cat (Wk.mine [.slice A10 z.On.length C10] z.On f10) (Wk.mine [.slice A11 z.Tapes.length C11] z.Tapes f11)))).φ w:=H3.r i (g (r:=Wk.box b (.cells [.int .i64 z.Shape.Groups,.int .i64 z.Shape.Column,.int .i64 z.Shape.Data,.int .i64 z.Shape.Spare,.int .i64 z.Shape.Rows,.int .i64 z.Shape.Cap,.int .i64 z.Shape.Batch,.int .i64 z.Shape.Queue,.int .i64 z.Shape.Stage,.slice A9 z.Groups.length C9,.slice A10 z.On.length C10,.slice A11 z.Tapes.length C11,.int .i64 z.Writes,.int .i64 z.Stop,.bool z.Down].toArray T)) (by rw [List.getElem?_set_ne n1,List.getElem?_set_ne n2,List.getElem?_set_ne n3]; exact hi))
  have hg:=g (a:=cat (Wk.box b (.cells [.int .i64 z.Shape.Groups,.int .i64 z.Shape.Column,.int .i64 z.Shape.Data,.int .i64 z.Shape.Spare,.int .i64 z.Shape.Rows,.int .i64 z.Shape.Cap,.int .i64 z.Shape.Batch,.int .i64 z.Shape.Queue,.int .i64 z.Shape.Stage,.slice A9 z.Groups.length C9,.slice A10 z.On.length C10,.slice A11 z.Tapes.length C11,.int .i64 z.Writes,.int .i64 z.Stop,.bool z.Down].toArray T)) (cat (Wk.mine [.slice A9 z.Groups.length C9] z.Groups f9) (cat (Wk.mine [.slice A10 z.On.length C10] z.On f10) (Wk.mine [.slice A11 z.Tapes.length C11] z.Tapes f11)))) (r:=Wk.box b (.cells [.int .i64 z.Shape.Groups,.int .i64 z.Shape.Column,.int .i64 z.Shape.Data,.int .i64 z.Shape.Spare,.int .i64 z.Shape.Rows,.int .i64 z.Shape.Cap,.int .i64 z.Shape.Batch,.int .i64 z.Shape.Queue,.int .i64 z.Shape.Stage,.slice A9 z.Groups.length C9,.slice A10 z.On.length C10,.slice A11 z.Tapes.length C11,.int .i64 z.Writes,.int .i64 z.Stop,.bool z.Down].toArray T)) (L:=((Δ.set j11 gone).set j10 gone).set j9 gone) (k:=i) (by rw [List.getElem?_set_ne n1,List.getElem?_set_ne n2,List.getElem?_set_ne n3]; exact hi)
  have hn:=H3.nodup1 hg
  have H4:=H3.conv i (wldR b T z (b::(f9++(f10++f11)))) hg ⟨A9,C9,A10,C10,A11,C11,f9,f10,f11,q1,q2,q3,q4,ok,rfl⟩ (fun x hx=>hx) hn
  rw [List.set_set] at H4
  exact ⟨_,H4⟩
end
section
variable {M:Nat→Prop}{w0 w w1 w2:World}{Δ F:List Rsc}
theorem Sep.inB (_:Sep M w0 Δ F w) (i:Nat) {r:Rsc}(hi:Δ[i]? = some r) {b:Nat}(hb:b∈r.fp):b∈blocks Δ:=bW.2 ⟨r,List.mem_of_getElem? hi,hb⟩
end
end Go.Wk
namespace Go.Wk
open Rp (sz own)
def bQ (z:Wld):Bool:=decide (z.Stop ≠ -1) && decide (z.Stop≤z.Writes)
def sj (z:Wld):Wld:=⟨z.Shape,z.Groups,[],z.Tapes,z.Writes,z.Stop,true⟩
def ls (z:Wld):Wld:=⟨z.Shape,z.Groups,z.On,z.Tapes,z.Writes+1,z.Stop,z.Down⟩
def qL (z:Wld) (y:Wld):Wld:=if bQ z=true then sj z else ls y
theorem mF {z y:Wld}(h:bQ z=true):qL z y=sj z:=if_pos h
theorem fP {z y:Wld}(h:bQ z=false):qL z y=ls y:=if_neg (by simp [h])
def lm (t:Nat) (r:Rec) (z:Wld):Wld:=⟨z.Shape,z.Groups,z.On,z.Tapes.set t ⟨false,(z.Tapes.getD t default).Recs++[r]⟩,z.Writes,z.Stop,z.Down⟩
def eY (t:Nat) (r:Rec) (z:Wld):Wld:=qL z (lm t r z)
def ly (z:Wld) (r:Rec):Bool := !bQ z && !bQ (eY 0 r z)
def kA (z:Wld) (r:Rec):Wld:=if bQ z=true then sj z else eY 1 r (eY 0 r z)
def dq (z:Wld):Bool:=decide (200<((z.Tapes.getD 0 default).Recs.length:Int)+1) || decide (200<((z.Tapes.getD 1 default).Recs.length:Int)+1)
def noWld:Wld:=⟨⟨0,0,0,0,0,0,0,0,0⟩,[],[],[],0,0,false⟩
theorem ij {t:Nat}{r:Rec}{z:Wld}:(eY t r z).Tapes.length=z.Tapes.length:=by
  unfold eY qL; split
  · rfl
  · simp [ls,lm]
theorem gq {t:Nat}{r:Rec}{z:Wld}:z.Writes≤(eY t r z).Writes∧(eY t r z).Writes≤z.Writes+1:=by
  unfold eY qL; split
  · show z.Writes≤z.Writes∧z.Writes≤z.Writes+1; omega
  · show z.Writes≤z.Writes+1∧z.Writes+1≤z.Writes+1; omega
theorem rP {t u:Nat}{r:Rec}{z:Wld}:((eY t r z).Tapes.getD u default).Recs.length≤(z.Tapes.getD u default).Recs.length+1:=by
  unfold eY qL; split
  · show (z.Tapes.getD u default).Recs.length≤_; omega
  · show ((z.Tapes.set t _).getD u default).Recs.length≤_
    rw [dm]; split
    · next h=>rw [h.1]; simp
    · omega
theorem nE {f g:Nat→Nat}:∀ k,bv (fun i=>f i+g i) k=bv f k+bv g k
  | 0=>rfl
  | k+1=>by
    show bv (fun i=>f i+g i) k+(f k+g k)=bv f k+f k+(bv g k+g k)
    rw [nE k]; omega
theorem po {i c:Nat}:∀ k,bv (fun j=>if j=i then c else 0) k=if i<k then c else 0
  | 0=>rfl
  | k+1=>by
    show bv (fun j=>if j=i then c else 0) k+(if k=i then c else 0)=_
    rw [po k]
    by_cases h:k=i
    · subst h; rw [if_neg (by omega),if_pos rfl,if_pos (by omega)]; omega
    · rw [if_neg h]
      by_cases h2:i<k
      · rw [if_pos h2,if_pos (by omega)]; omega
      · rw [if_neg h2,if_neg (by omega)]
section
variable {α:Type}[Inhabited α] {f:α→Nat}{xs:List α}{y:α}{i:Nat}
theorem zt:mkL f (xs++[y])=mkL f xs+f y:=by
  unfold mkL
  rw [List.length_append]
  show bv _ xs.length+f ((xs++[y]).getD xs.length default)=_
  have e1:(xs++[y]).getD xs.length default=y:=by simp [List.getD]
  rw [e1,lP (g:=fun i=>f (xs.getD i default)) fun j hj=>by
    have e:(xs++[y]).getD j default=xs.getD j default:=by rw [js hj]
    rw [e]]
end
theorem yV {z:Wld}:cj (sj z)≤cj z:=by
  unfold cj sj; dsimp only; simp
end Go.Wk
namespace Go.Wk
open Rp (sz own)
theorem ey {α:Type}{xs:List α}{k:Nat}{d:α}(h:k<xs.length):xs.take k++[xs.getD k d]=xs.take (k+1):=by
  rw [bE h]; exact List.take_append_getElem h
theorem fl {w:Wld}(h:dS w=0):0≤w.Writes∧w.Writes≤1000000000 ∧ -1≤w.Stop∧w.Stop≤1000000000:=by
  unfold dS at h
  split at h
  · rename_i h1; exact absurd h h1
  · split at h
    · split at h
      · rename_i h1; exact absurd h h1
      · split at h
        · rename_i h1
          simp only [Bool.and_eq_true,cF] at h1
          omega
        · omega
    · omega
theorem Sep.asSt {α β:Type}[Rp α] [Rp β] {M:Nat→Prop}{w0 w:World}{Δ F:List Rsc}(h:Sep M w0 Δ F w) (i:Nat) {cs cs':List Value}{x:α}(y:β) {fp:List Nat}(hi:Δ[i]? = some (Wk.mine cs x fp)) (hq:own true w cs' y fp):Sep M w0 (Δ.set i (Wk.mine cs' y fp)) F w:=
  have hn:=h.nodup1 hi
  h.conv i (Wk.mine cs' y fp) hi hq (fun b hb=>hb) hn
section
variable {w w':World}{fp f:List Nat}{F:List Rsc}{y:WldResult}{x:Wld}{A10 A11 A12:Option Addr}{C10 C11 C12:Nat}
theorem WldResult.mutW (ok:y.Ok) (h:Sep (· ∈ fp) w [Wk.mine [.int .i64 y.Wd.Shape.Groups,.int .i64 y.Wd.Shape.Column,.int .i64 y.Wd.Shape.Data,.int .i64 y.Wd.Shape.Spare,.int .i64 y.Wd.Shape.Rows,.int .i64 y.Wd.Shape.Cap,.int .i64 y.Wd.Shape.Batch,.int .i64 y.Wd.Shape.Queue,.int .i64 y.Wd.Shape.Stage,.slice A10 y.Wd.Groups.length C10,.slice A11 y.Wd.On.length C11,.slice A12 y.Wd.Tapes.length C12,.int .i64 y.Wd.Writes,.int .i64 y.Wd.Stop,.bool y.Wd.Down] x f] F w') :
    Mut w w' fp [.int .i64 y.Code,.int .i64 y.Wd.Shape.Groups,.int .i64 y.Wd.Shape.Column,.int .i64 y.Wd.Shape.Data,.int .i64 y.Wd.Shape.Spare,.int .i64 y.Wd.Shape.Rows,.int .i64 y.Wd.Shape.Cap,.int .i64 y.Wd.Shape.Batch,.int .i64 y.Wd.Shape.Queue,.int .i64 y.Wd.Shape.Stage,.slice A10 y.Wd.Groups.length C10,.slice A11 y.Wd.On.length C11,.slice A12 y.Wd.Tapes.length C12,.int .i64 y.Wd.Writes,.int .i64 y.Wd.Stop,.bool y.Wd.Down] (⟨y.Code,x⟩:WldResult):=by
  obtain ⟨B9,D9,B10,D10,B11,D11,g9,g10,g11,e,ef,ok',o9,o10,o11⟩:=pg (h.mine 0 rfl)
  refine ⟨h.ext,f,?_,h.nodup1 (i:=0) rfl,fun b hb=>h.new b (by simpa [blocks,Wk.mine] using hb)⟩
  have hh:=WldResult.own_mk (x:=(⟨y.Code,x⟩:WldResult)) ⟨ok.1,ok'⟩ o9 o10 o11
  have e2:=congrArg (fun l=>Value.int .i64 y.Code::l) e
  dsimp only at e2 hh
  rw [e2,ef]
  exact hh
end
section
variable {P:Program}{n:Nat}{ops:Array Oper}{Q:Post}{L:Env}{S:World→Prop}{w w0:World}{M:Nat→Prop}{Δ F:List Rsc}{ty:TypeId}{p:String}{af:Array Edge}{g:Option (Nat × Bool)}{i:Nat}{rest:List (Nat × Bool)}
theorem A4 {t:TypeId}{x y:Operand}{b off sz:Nat}{cs:List Value}{T} {vs:List Value}(ho:ops.toList[i]? = some ⟨none,.store t x y,ty,p,af,g⟩) (hw:Wn ops n L ⟨none,.store t x y,ty,p,af,g⟩) (hs:∀ w,(sizeOf t).run P w = .ok sz w) (hx:evL L x=some (.pointer (some ⟨b,off,none⟩))) (hy:evL L y=some (.agg vs.toArray))
    (hl:vs.length=sz) (h1:pA vs=true) (H:Sep M w0 Δ F w) (j:Nat) (hi:Δ[j]? = some (Wk.box b (.cells cs.toArray T))) (hf:Nat.ble (off+sz) cs.length=true) (hS:∀ w',S w→Ext (· = b) w w'→rest≠[]→S w')
    (k:∀ w',Ext (· = b) w w'→Sep M w0 (Δ.set j (Wk.box b (.cells (aN cs off vs).toArray T))) F w'→DL P n ops Q S rest L w') :
    DL P n ops Q S ((i,false)::rest) L w:=by
  have hf':=Nat.le_of_ble_eq_true hf
  have h:=k _ (Ext.refl.put (.inl rfl)) (H.put j _ hi)
  rw [← qy (by rw [hl]; exact hf')] at h
  exact zI ho hw rfl (kR hs hx hy hl (kC h1) (H.box j hi) (by simpa using hf')) (fun hSw hr=>hS _ hSw (Ext.refl.put (.inl rfl)) hr) h
end
end Go.Wk
namespace Go.Wk
open Rp (sz own)
section
variable {M:Nat→Prop}{w0 w w1 w2:World}{Δ F:List Rsc}{b:Nat}{T:TypeId}{z:Wld}{fp fp1:List Nat}
theorem Sep.boxFar (h:Sep M w0 Δ F w) (i j:Nat) {c:Nat}{o:Obj}(hi:Δ[i]? = some (wldR b T z fp)) (hj:Δ[j]? = some (Wk.box c o)) (hij:Nat.beq j i=false) (s1:∀ x∈fp1,x∈fp∨w.heap.size≤x) (e1:Ext (· ∈ fp) w w1) :
    w1.heap[c]? = some o∧c ∉ fp1:=by
  have hb:w.heap[c]? = some o:=h.r j hj
  have hn:c ∉ fp:=h.apart (i:=i) (j:=j) hi hj hij c (by simp [Wk.box])
  exact ⟨e1.heapM hn hb,fun hm=>(s1 c hm).elim hn fun hg=>by have:=(Array.getElem?_eq_some_iff.1 hb).1; omega⟩
theorem Sep.seeFar {α:Type}[Rp α] (h:Sep M w0 Δ F w) (i j:Nat) {s:Bool}{cs:List Value}{x:α}{f:List Nat}(hi:Δ[i]? = some (wldR b T z fp)) (hj:F[j]? = some (Wk.seen s cs x f)) (s1:∀ x∈fp1,x∈fp∨w.heap.size≤x) (e1:Ext (· ∈ fp) w w1) :
    own false w1 cs x f∧∀ b∈f,b ∉ fp1:=by
  have hx:own s w cs x f:=h.fs _ (List.mem_of_getElem? hj)
  have hn:∀ b∈f,b ∉ fp:=fun b hb hm=>h.ap _ (List.mem_of_getElem? hj) b hb (h.inB i hi hm)
  have hl:=Rp.lt hx
  exact ⟨aX (Rp.st hx fun b hb=>e1.block b (hl b hb) (hn b hb)),fun b hb hm=>(s1 b hm).elim (hn b hb) fun hg=>by have:=hl b hb; omega⟩
theorem Sep.boxF (h:Sep M w0 [wldR b T z fp] F w) {c:Nat}{o:Obj}(hb:w.heap[c]? = some o) (hd:c ∉ fp):Sep M w0 [wldR b T z fp] (F++[Wk.box c o]) w:=
  h.look (r:=Wk.box c o) hb fun x hx hm=>by
    rw [show x=c by simpa [Wk.box] using hx] at hm
    exact hd (by simpa [blocks,wldR] using hm)
def Sep.S2 {M:Nat→Prop}{w0 w:World}{Δ F:List Rsc}(_:Sep M w0 Δ F w) (i j:Nat):World→Prop:=Ext (fun b=>b∈(Δ.getD i gone).fp∨b∈(Δ.getD j gone).fp) w
theorem gW {r d:Rsc}{i:Nat}(h:Δ[i]? = some r):Δ.getD i d=r:=by simp [List.getD,h]
theorem Sep.s2Call (h:Sep M w0 Δ F w) {i j:Nat}(hS:h.S2 i j w1) (e:Ext No w1 w2):h.S2 i j w2:=Ext.trans hS e.no
theorem Sep.s2In (h:Sep M w0 Δ F w) {i j:Nat}(hS:h.S2 i j w1) (k:Nat) {r:Rsc}(hk:Δ[k]? = some r) (hij:k=i∨k=j) {N:Nat→Prop}(e:Ext N w1 w2) (hN:∀ b,N b→b∈r.fp):h.S2 i j w2:=
  Ext.step hS e fun b hb => .inl (by
    rcases hij with rfl | rfl
    · exact .inl (by rw [gW hk]; exact hN b hb)
    · exact .inr (by rw [gW hk]; exact hN b hb))
theorem Sep.s2FBox (h:Sep M w0 Δ F w) {i j:Nat}(hx:h.S2 i j w1) (k:Nat) {c:Nat}{o:Obj}(hk:F[k]? = some (Wk.box c o)) {ri rj:Rsc}(hi:Δ[i]? = some ri) (hj:Δ[j]? = some rj):w1.heap[c]? = some o:=
  Ext.heapM hx (fun hm=>h.ap _ (List.mem_of_getElem? hk) c (by simp [Wk.box]) (by
    rcases hm with hm | hm
    · rw [gW hi] at hm; exact h.inB i hi hm
    · rw [gW hj] at hm; exact h.inB j hj hm)) (h.fs _ (List.mem_of_getElem? hk))
theorem Sep.s2Box (h:Sep M w0 Δ F w) {i j:Nat}(hx:h.S2 i j w1) (k:Nat) {c:Nat}{o:Obj}(hk:Δ[k]? = some (Wk.box c o)) {ri rj:Rsc}(hi:Δ[i]? = some ri) (hj:Δ[j]? = some rj) (d1:Nat.beq k i=false) (d2:Nat.beq k j=false):w1.heap[c]? = some o:=
  Ext.heapM hx (fun hm=>by
    rcases hm with hm | hm
    · rw [gW hi] at hm; exact h.apart (i:=i) (j:=k) hi hk d1 c (by simp [Wk.box]) hm
    · rw [gW hj] at hm; exact h.apart (i:=j) (j:=k) hj hk d2 c (by simp [Wk.box]) hm) (h.r k hk)
end
section
variable {P:Program}{n:Nat}{ops:Array Oper}{Q:Post}{L:Env}{S:World→Prop}{w w0:World}{M:Nat→Prop}{Δ F:List Rsc}{ty:TypeId}{p:String}{af:Array Edge}{g:Option (Nat × Bool)}{α:Type}[Rp α] {i:Nat}{rest:List (Nat × Bool)}
theorem jU {t:TypeId}{x y:Operand}{ad:Option Addr}{m cap k b off:Nat}{xs:List α}{T:TypeId}{ck:List Value}{f1 f2:List Nat}{v:Value}(ho:ops.toList[i]? = some ⟨none,.store t x y,ty,p,af,g⟩) (hw:Wn ops n L ⟨none,.store t x y,ty,p,af,g⟩) (hs:∀ w,(sizeOf t).run P w = .ok 1 w)
    (H:Sep M w0 Δ F w) (j q:Nat) (hi:Δ[j]? = some (hol ad m cap xs k b off T ck f1 f2)) (hj:Nat.blt q ck.length=true) (hx:evL L x=some (.pointer (some ⟨b,off+q,none⟩))) (hy:evL L y=some v) (h1:v.oneCell'=true) (hS:∀ w',S w→Ext (· = b) w w'→rest≠[]→S w')
    (kk:∀ w',Sep M w0 (Δ.set j (hol ad m cap xs k b off T (ck.set q v) f1 f2)) F w'→DL P n ops Q S rest L w'):DL P n ops Q S ((i,false)::rest) L w:=by
  obtain ⟨cur,hb,hlt,H'⟩:=H.hset j hi q (Nat.le_of_ble_eq_true hj) v
  exact zI ho hw rfl (jl hs hx hy h1 hb hlt) (fun hSw hr=>hS _ hSw (Ext.refl.put (.inl rfl)) hr) (kk _ H')
end
theorem kV {z:Wld}(h:dS z=0):(z.Tapes.getD 0 default).Recs.length≤200∧(z.Tapes.getD 1 default).Recs.length≤200:=by
  obtain ⟨_,_,_,h2,h3⟩:=cI h
  have hm:z.Tapes.any cB=false:=by
    cases hq:z.Tapes.any cB with
    | false=>rfl
    | true=>unfold eB at h3; rw [if_pos hq] at h3; omega
  have key:∀ i,i<z.Tapes.length→(z.Tapes.getD i default).Recs.length≤200:=fun i hi=>by
    have:=sh (d:=default) hm i hi
    unfold cB at this
    simp only [decide_eq_false_iff_not] at this; omega
  exact ⟨key 0 (by omega),key 1 (by omega)⟩
theorem jv {t:Nat}{r:Rec}{z:Wld}(h:z.Ok):(lm t r z).Ok:=h
theorem oZ {z:Wld}(h:z.Ok):(sj z).Ok:=h
theorem ky {z:Wld}(h:z.Ok) (h2:z.Writes≤2000000000):(ls z).Ok:=by
  refine ⟨h.1,?_,h.2.2⟩
  have h3:=h.2.1
  show I64ok (z.Writes+1)
  unfold I64ok at h3 ⊢; omega
def wq (z:Wld) (m:Int):Bool:=decide (200<((z.Tapes.getD 0 default).Recs.length:Int)+m) || decide (200<((z.Tapes.getD 1 default).Recs.length:Int)+m)
def rh (z:Wld):Int:=200-max ((z.Tapes.getD 0 default).Recs.length:Int) ((z.Tapes.getD 1 default).Recs.length:Int)
theorem yb {z:Wld}(h:rh z<1):dq z=true:=by
  unfold rh at h; unfold dq
  simp only [Bool.or_eq_true,decide_eq_true_eq]; omega
theorem zr {z:Wld}(h:¬ rh z<1):dq z=false:=by
  unfold rh at h; unfold dq
  simp only [Bool.or_eq_false_iff,decide_eq_false_iff_not]; omega
theorem ta {z:Wld}(h:dq z=false):(z.Tapes.getD 0 default).Recs.length<200∧(z.Tapes.getD 1 default).Recs.length<200:=by
  unfold dq at h
  simp only [Bool.or_eq_false_iff,decide_eq_false_iff_not] at h; omega
theorem ol {z:Wld}(h:¬ z.Stop = -1) (h2:z.Writes ≥ z.Stop):bQ z=true:=by
  unfold bQ; simp only [Bool.and_eq_true,decide_eq_true_eq]; exact ⟨h,h2⟩
theorem jp {z:Wld}(h:z.Stop = -1∨¬ z.Writes ≥ z.Stop):bQ z=false:=by
  unfold bQ; simp only [Bool.and_eq_false_iff,decide_eq_false_iff_not]
  rcases h with h | h
  · exact .inl (by simp [h])
  · exact .inr (by omega)
theorem xn {t:Nat}{r:Rec}{z:Wld}(h:bQ z=false):(eY t r z).Down=z.Down:=by
  unfold eY; rw [fP h]; rfl
theorem pb {z:Wld}{r:Rec}(h:bQ z=true):kA z r=eY 0 r z∧ly z r=false:=by
  unfold kA ly eY
  rw [if_pos h,h,mF h]; exact ⟨rfl,rfl⟩
theorem mG {z:Wld}{r:Rec}(h:bQ z=false):kA z r=eY 1 r (eY 0 r z)∧ly z r = !bQ (eY 0 r z):=by
  unfold kA ly
  rw [if_neg (by simp [h]),h]; exact ⟨rfl,rfl⟩
end Go.Wk
namespace Go.Wk
open Rp (sz own)
theorem mw:noWld.Ok:=by unfold Wld.Ok Shape.Ok I64ok noWld; dsimp only; omega
theorem gh {w w':World}{c:Int}(h:I64ok c):Res w w' [.int .i64 c,.int .i64 0,.int .i64 0,.int .i64 0,.int .i64 0,.int .i64 0,.int .i64 0,.int .i64 0,.int .i64 0,.int .i64 0,.slice none 0 0,.slice none 0 0,.slice none 0 0,.int .i64 0,.int .i64 0,.bool false] (⟨c,noWld⟩:WldResult):=
  ⟨_,WldResult.own_mk (x:=⟨c,noWld⟩) ⟨h,mw⟩ (.inr (.inl ⟨rfl,rfl,rfl⟩)) (.inr (.inl ⟨rfl,rfl,rfl⟩)) (.inr (.inl ⟨rfl,rfl,rfl⟩)),List.nodup_nil,by simp⟩
theorem ww {t:Nat}{r:Rec}{z:Wld}(h:z.Ok) (h2:z.Writes≤2000000000):(eY t r z).Ok:=by
  unfold eY qL; split
  · exact oZ h
  · exact ky (z:=lm t r z) (jv h) h2
theorem nT {s:Bool}{w:World}{c s0 s1 s2 s3 s4 s5 s6 s7 s8 wr sp:Int}{dn:Bool}{A10 A11 A12:Option Addr}{n10 C10 n11 C11 n12 C12:Nat}{x:WldResult}{fp:List Nat}(h:own s w [.int .i64 c,.int .i64 s0,.int .i64 s1,.int .i64 s2,.int .i64 s3,.int .i64 s4,.int .i64 s5,.int .i64 s6,.int .i64 s7,.int .i64 s8,.slice A10 n10 C10,.slice A11 n11 C11,.slice A12 n12 C12,.int .i64 wr,.int .i64 sp,.bool dn] x fp) :
    Sees w [.slice A10 n10 C10] x.Wd.Groups∧Sees w [.slice A11 n11 C11] x.Wd.On∧Sees w [.slice A12 n12 C12] x.Wd.Tapes:=by
  obtain ⟨B10,D10,B11,D11,B12,D12,g10,g11,g12,e,ef,ok',o10,o11,o12⟩:=lC h
  simp only [List.cons.injEq,Value.slice.injEq,Value.int.injEq,Value.bool.injEq,and_true,true_and] at e
  obtain ⟨_,_,_,_,_,_,_,_,_,_,⟨rfl,rfl,rfl⟩,⟨rfl,rfl,rfl⟩,⟨rfl,rfl,rfl⟩,_,_,_⟩:=e
  exact ⟨⟨_,aX o10⟩,⟨_,aX o11⟩,⟨_,aX o12⟩⟩
end Go.Wk
namespace Go.Wk
open Rp (sz own)
structure RecV where
  r:Rec
  A6:Option Addr
  C6:Nat
  A7:Option Addr
  C7:Nat
  A8:Option Addr
  C8:Nat
def RecV.cs (v:RecV):List Value:=[.int .i64 v.r.Kind,.int .i64 v.r.Seq,.string v.r.Name,.int .i64 v.r.Length,.int .i64 v.r.Group,.int .i64 v.r.Row,.slice v.A6 v.r.Rows.length v.C6,.slice v.A7 v.r.Data.length v.C7,.slice v.A8 v.r.Delta.length v.C8]
instance:Inhabited RecV:=⟨⟨default,none,0,none,0,none,0⟩⟩
theorem RecV.one {v:RecV}:∀ x∈v.cs,x.oneCell'=true:=by
  intro x hx
  simp only [RecV.cs,List.mem_cons,List.not_mem_nil,or_false] at hx
  rcases hx with rfl | rfl | rfl | rfl | rfl | rfl | rfl | rfl | rfl<;>rfl
instance:Rp RecV where
  sz:=9
  pos:=by decide
  own _ _ cs v fp:=cs=v.cs∧fp=[]∧v.r.Ok
  len h:=by rw [h.1]; rfl
  one h v hv:=by rw [h.1] at hv; exact RecV.one v hv
  st h _:=h
  lt h b hb:=by rw [h.2.1] at hb; simp at hb
  weak h:=h
theorem lQ {w:World}:∀ {vs:List RecV}{cs f0} (i:Nat),cq true w cs vs f0→cq true w cs (vs.take i) []∧f0=[]
  | [],_,_,i,h=>by rw [List.take_nil]; exact ⟨rfl,h⟩
  | v::vs,cs,f0,0,⟨g1,g2,e0,⟨e1,eg,ok⟩,h2⟩=>by
    have:=(lQ 0 h2).2
    exact ⟨rfl,by rw [e0,eg,this]; rfl⟩
  | v::vs,cs,f0,i+1,⟨g1,g2,e0,⟨e1,eg,ok⟩,h2⟩=>by
    obtain ⟨h3,h4⟩:=lQ i h2
    exact ⟨⟨[],[],rfl,⟨e1,rfl,ok⟩,h3⟩,by rw [e0,eg,h4]; rfl⟩
section
variable {M:Nat→Prop}{w0 w:World}{Δ F:List Rsc}
theorem Sep.viewAt (h:Sep M w0 Δ F w) (i:Nat) {ad n cap} {vs:List RecV}{f} (hi:Δ[i]? = some (Wk.mine [.slice ad n cap] vs f)) (k:Nat) (hk:k<vs.length) :
    ∃ b o,ad=some ⟨b,o,none⟩∧At w b (o+k*9) (vs.getD k default).cs∧(vs.getD k default).r.Ok:=by
  obtain ⟨b,o,cs,fk,e,hat,hx,_⟩:=eH (h.mine i hi) k hk
  rw [bE hk]
  obtain ⟨e1,_,ok⟩:=hx
  exact ⟨b,o,e,by rw [← e1]; exact hat,ok⟩
end
end Go.Wk
namespace Go.Wk
open Rp (sz own)
theorem dA {w:World}{v:RecV}(ok:v.r.Ok):own true w v.cs v []:=⟨rfl,rfl,ok⟩
section
variable {M:Nat→Prop}{w0 w:World}{Δ F:List Rsc}
theorem Sep.viewSeen (h:Sep M w0 Δ F w) (i:Nat) {s:Bool}{ad n cap} {vs:List RecV}{f} (hi:F[i]? = some (Wk.seen s [.slice ad n cap] vs f)) (k:Nat) (hk:k<vs.length) :
    ∃ b o,ad=some ⟨b,o,none⟩∧At w b (o+k*9) (vs.getD k default).cs∧(vs.getD k default).r.Ok:=by
  have hx:own s w [.slice ad n cap] vs f:=h.fs _ (List.mem_of_getElem? hi)
  obtain ⟨b,o,cs,fk,e,hat,hx,_⟩:=eH hx k hk
  rw [bE hk]
  obtain ⟨e1,_,ok⟩:=hx
  exact ⟨b,o,e,by rw [← e1]; exact hat,ok⟩
end
end Go.Wk
namespace Go.Wk
structure LinO {K:Type}(lt:K→K→Prop):Prop where
  irr:∀ a,¬ lt a a
  tr:∀ a b c,lt a b→lt b c→lt a c
  tot:∀ a b,lt a b∨a=b∨lt b a
section
variable {α K:Type}{lt:K→K→Prop}{key:α→K}
inductive Ord (lt:K→K→Prop) (key:α→K):List α→Prop
  | nil:Ord lt key []
  | cons {x xs}:(∀ y∈xs,¬ lt (key y) (key x))→Ord lt key xs→Ord lt key (x::xs)
theorem Ord.app {xs ys:List α}(h:Ord lt key xs) (k:Ord lt key ys) (hh:∀ x∈xs,∀ y∈ys,¬ lt (key y) (key x)):Ord lt key (xs++ys):=by
  induction h with
  | nil=>exact k
  | cons h1 h2 ih=>
    rename_i x l
    refine .cons (fun y hy=>?_) (ih fun a ha b hb=>hh a (by simp [ha]) b hb)
    rcases List.mem_append.1 hy with hy | hy
    · exact h1 y hy
    · exact hh x (by simp) y hy
theorem Ord.left {xs ys:List α}(h:Ord lt key (xs++ys)):Ord lt key xs:=by
  induction xs with
  | nil=>exact .nil
  | cons x xs ih=>
    cases h with
    | cons h1 h2=>exact .cons (fun y hy=>h1 y (by simp [hy])) (ih h2)
theorem Ord.right {xs ys:List α}(h:Ord lt key (xs++ys)):Ord lt key ys:=by
  induction xs with
  | nil=>exact h
  | cons x xs ih=>
    cases h with
    | cons h1 h2=>exact ih h2
theorem Ord.le {xs ys:List α}(h:Ord lt key (xs++ys)):∀ x∈xs,∀ y∈ys,¬ lt (key y) (key x):=by
  induction xs with
  | nil=>simp
  | cons x xs ih=>
    cases h with
    | cons h1 h2=>
      intro a ha b hb
      rcases List.mem_cons.1 ha with rfl | ha
      · exact h1 b (by simp [hb])
      · exact ih h2 a ha b hb
end
section
variable {α K:Type}[DecidableEq K] {lt:K→K→Prop}{key:α→K}
def ce (key:α→K) (xs ys:List α):Prop:=∀ k,(ys.filter fun x=>decide (key x=k))=xs.filter fun x=>decide (key x=k)
def Stable (lt:K→K→Prop) (key:α→K) (xs ys:List α):Prop:=Ord lt key ys∧ce key xs ys
theorem ce.refl {xs:List α}:ce key xs xs:=fun _=>rfl
theorem ce.trans {xs ys zs:List α}(h:ce key xs ys) (k:ce key ys zs):ce key xs zs:=fun c=>(k c).trans (h c)
theorem ce.symm {xs ys:List α}(h:ce key xs ys):ce key ys xs:=fun c=>(h c).symm
theorem ce.app {xs ys xs' ys':List α}(h:ce key xs ys) (k:ce key xs' ys'):ce key (xs++xs') (ys++ys'):=fun c=>by
  rw [List.filter_append,List.filter_append,h c,k c]
theorem ce.mem {xs ys:List α}(h:ce key xs ys) {x:α}(hx:x∈ys):x∈xs:=by
  have:x∈ys.filter fun y=>decide (key y=key x):=by rw [List.mem_filter]; exact ⟨hx,by simp⟩
  rw [h (key x),List.mem_filter] at this
  exact this.1
theorem ce.len {xs ys:List α}:ce key xs ys→ys.length=xs.length:=by
  induction xs generalizing ys with
  | nil=>
    intro h
    cases ys with
    | nil=>rfl
    | cons y ys=>exact absurd (h.mem (x:=y) (by simp)) (by simp)
  | cons x xs ih=>
    intro h
    have hx:x∈ys:=(ce.symm h).mem (by simp)
    have hk:=h (key x)
    rw [List.filter_cons_of_pos (by simp)] at hk
    have key1:∀ (l:List α) (r:List α),(l.filter fun y=>decide (key y=key x))=x::r→∃ l1 l2,l=l1++x::l2∧(∀ y∈l1,key y≠key x)∧(l2.filter fun y=>decide (key y=key x))=r:=by
      intro l
      induction l with
      | nil=>intro r h; simp at h
      | cons y l ihl=>
        intro r h
        by_cases hy:key y=key x
        · rw [List.filter_cons_of_pos (by simp [hy])] at h
          injection h with h1 h2
          exact ⟨[],l,by rw [h1]; rfl,by simp,h2⟩
        · rw [List.filter_cons_of_neg (by simp [hy])] at h
          obtain ⟨l1,l2,e,h1,h2⟩:=ihl r h
          exact ⟨y::l1,l2,by rw [e]; rfl,fun z hz=>by rcases List.mem_cons.1 hz with rfl | hz; exact hy; exact h1 z hz,h2⟩
    obtain ⟨l1,l2,e,h1,h2⟩:=key1 ys _ hk
    have h3:ce key xs (l1++l2):=fun k=>by
      have hkk:=h k
      rw [e,List.filter_append] at hkk
      rw [List.filter_append]
      by_cases hkx:key x=k
      · subst hkx
        rw [show (l1.filter fun y=>decide (key y=key x))=[] from List.filter_eq_nil_iff.2 fun y hy=>by simp [h1 y hy],List.nil_append]
        exact h2
      · rw [List.filter_cons_of_neg (by simp [hkx]),List.filter_cons_of_neg (by simp [hkx])] at hkk
        exact hkk
    have h4:=ih h3
    rw [e,List.length_append,List.length_cons,List.length_cons]
    rw [List.length_append] at h4
    omega
theorem sI (hl:LinO lt):∀ {ys zs:List α},Ord lt key ys→Ord lt key zs→ce key ys zs→ys=zs
  | [],zs,_,_,h=>by
    have:=h.len
    exact (List.eq_nil_of_length_eq_zero this).symm
  | y::ys,[],_,_,h=>by have:=h.len; simp at this
  | y::ys,z::zs,.cons a1 a2,.cons b1 b2,h=>by
    have hk:key y=key z:=by
      rcases hl.tot (key y) (key z) with c | c | c
      · have hm:y∈z::zs:=(ce.symm h).mem (by simp)
        rcases List.mem_cons.1 hm with e | e
        · rw [e]
        · exact absurd c (b1 y e)
      · exact c
      · have hm:z∈y::ys:=h.mem (by simp)
        rcases List.mem_cons.1 hm with e | e
        · rw [e]
        · exact absurd c (a1 z e)
    have h1:=h (key y)
    rw [List.filter_cons_of_pos (by simp [hk]),List.filter_cons_of_pos (by simp)] at h1
    injection h1 with h2 h3
    subst h2
    have h4:ce key ys zs:=fun k=>by
      have:=h k
      by_cases e:key z=k
      · rw [List.filter_cons_of_pos (by simp [e]),List.filter_cons_of_pos (by simp [e])] at this
        exact (List.cons.inj this).2
      · rw [List.filter_cons_of_neg (by simp [e]),List.filter_cons_of_neg (by simp [e])] at this
        exact this
    rw [sI hl a2 b2 h4]
theorem lD (hl:LinO lt) {xs ys zs:List α}(h:Stable lt key xs ys) (k:Stable lt key xs zs):ys=zs:=
  sI hl h.1 k.1 (h.2.symm.trans k.2)
theorem ce.swap {xs ys:List α}(h:∀ x∈xs,∀ y∈ys,key x≠key y):ce key (xs++ys) (ys++xs):=fun k=>by
  rw [List.filter_append,List.filter_append]
  by_cases hx:∃ x∈xs,key x=k
  · obtain ⟨x,hx,e⟩:=hx
    rw [show (ys.filter fun y=>decide (key y=k))=[] from List.filter_eq_nil_iff.2 fun y hy=>by
      have:=h x hx y hy
      simp only [decide_eq_true_eq]; intro e2; exact this (e.trans e2.symm)]
    simp
  · rw [show (xs.filter fun y=>decide (key y=k))=[] from List.filter_eq_nil_iff.2 fun y hy=>by
      simp only [decide_eq_true_eq]; intro e2; exact hx ⟨y,hy,e2⟩]
    simp
theorem fb (hl:LinO lt) {xs A B:List α}{x:α}(h:Stable lt key xs (A++B)) (hB:∀ y∈B,lt (key x) (key y)) (hA:∀ y∈A,¬ lt (key x) (key y)):Stable lt key (xs++[x]) (A++x::B):=by
  refine ⟨?_,?_⟩
  · refine h.1.left.app (.cons (fun y hy hlt=>hl.irr _ (hl.tr _ _ _ hlt (hB y hy))) h.1.right) fun a ha b hb=>?_
    rcases List.mem_cons.1 hb with rfl | hb
    · exact hA a ha
    · exact h.1.le a ha b hb
  · have h1:ce key ((A++B)++[x]) (A++(x::B)):=by
      rw [List.append_assoc]
      refine ce.refl.app (ce.swap (xs:=B) (ys:=[x]) fun b hb y hy e=>?_)
      rw [List.mem_singleton] at hy
      subst hy
      have:=hB b hb
      rw [e] at this
      exact hl.irr _ this
    exact (h.2.app (ce.refl (xs:=[x]))).trans h1
end
end Go.Wk
namespace Go.Wk
open Rp (sz own)
section
variable {α:Type}
def seg (l:List α) (a b:Nat):List α:=(l.take b).drop a
theorem cQ {l:List α}{a b:Nat}(h:b≤l.length):(seg l a b).length=b-a:=by
  unfold seg; rw [List.length_drop,List.length_take]; omega
theorem ct {l:List α}{a b c:Nat}(h1:a≤b) (h2:b≤c):seg l a b++seg l b c=seg l a c:=by
  apply List.ext_getElem?
  intro j
  unfold seg
  rw [List.getElem?_append]
  simp only [List.length_drop,List.length_take,List.getElem?_drop,List.getElem?_take]
  by_cases hl:b≤l.length
  · rw [show min b l.length=b by omega]
    by_cases c1:j<b-a
    · rw [if_pos c1,if_pos (by omega),if_pos (by omega)]
    · rw [if_neg c1]
      rw [show b+(j-(b-a))=a+j by omega]
  · rw [show min b l.length=l.length by omega]
    by_cases c1:j<l.length-a
    · rw [if_pos c1,if_pos (by omega),if_pos (by omega)]
    · rw [if_neg c1]
      rw [List.getElem?_eq_none (show l.length≤b+(j-(l.length-a)) by omega),List.getElem?_eq_none (show l.length≤a+j by omega)]
      split<;>split<;>rfl
def eT (l:List α) (x y z:Nat):List α:=l.take x++(seg l y z++(seg l x y++l.drop z))
theorem gO {l:List α}{x y z:Nat}(h1:x≤y) (h2:y≤z) (h3:z≤l.length):(eT l x y z).length=l.length:=by
  unfold eT
  rw [List.length_append,List.length_append,List.length_append,cQ (by omega),cQ (by omega),List.length_take,List.length_drop]; omega
end
section
variable {α:Type}[Inhabited α]
def fW (l:List α) (a b:Nat):Nat→List α
  | 0=>l
  | i+1=>((fW l a b i).set (a+i) ((fW l a b i).getD (b+i) default)).set (b+i) ((fW l a b i).getD (a+i) default)
theorem dz {l:List α}{a b:Nat}:∀ {n},(fW l a b n).length=l.length
  | 0=>rfl
  | n+1=>by rw [fW,List.length_set,List.length_set]; exact dz
theorem mL {l:List α}{a b:Nat}:∀ {n:Nat},a+n≤b→b+n≤l.length→∀ j,(fW l a b n).getD j default=l.getD (if a≤j∧j<a+n then b+(j-a) else if b≤j∧j<b+n then a+(j-b) else j) default
  | 0,_,_,j=>by rw [if_neg (by omega),if_neg (by omega)]; rfl
  | n+1,h1,h2,j=>by
    have ih:=mL (l:=l) (a:=a) (b:=b) (n:=n) (by omega) (by omega)
    have hl:=dz (l:=l) (a:=a) (b:=b) (n:=n)
    rw [fW,dm,dm,List.length_set,hl,ih,ih,ih]
    by_cases e1:j=b+n
    · subst e1
      rw [if_pos ⟨rfl,by omega⟩,if_neg (by omega),if_neg (by omega),if_neg (by omega),if_pos (by omega)]
      congr 1; omega
    · rw [if_neg (fun h=>e1 h.1)]
      by_cases e2:j=a+n
      · subst e2
        rw [if_pos ⟨rfl,by omega⟩,if_neg (by omega),if_neg (by omega),if_pos (by omega)]
        congr 1; omega
      · rw [if_neg (fun h=>e2 h.1)]
        congr 1
        (repeat' split)<;>omega
theorem eN {l:List α}{a b j:Nat}(h:a+j<b):(seg l a b).getD j default=l.getD (a+j) default:=by
  unfold seg; simp only [List.getD,List.getElem?_drop,List.getElem?_take]; rw [if_pos h]
theorem jy {l:List α}{x y z:Nat}(h1:x≤y) (h2:y≤z) (h3:z≤l.length) (j:Nat):(eT l x y z).getD j default=l.getD (if j<x then j else if j<x+(z-y) then y+(j-x) else if j<z then x+(j-x-(z-y)) else j) default:=by
  have e1:=cQ (l:=l) (a:=y) (b:=z) (by omega)
  have e2:=cQ (l:=l) (a:=x) (b:=y) (by omega)
  unfold eT
  by_cases c1:j<x
  · rw [if_pos c1,js (by rw [List.length_take]; omega)]
    simp only [List.getD,List.getElem?_take]; rw [if_pos c1]
  · rw [if_neg c1,l5 (by rw [List.length_take]; omega),List.length_take,show min x l.length=x by omega]
    by_cases c2:j<x+(z-y)
    · rw [if_pos c2,js (by omega),eN (by omega)]
    · rw [if_neg c2,l5 (by omega),e1]
      by_cases c3:j<z
      · rw [if_pos c3,js (by omega),eN (by omega)]
      · rw [if_neg c3,l5 (by omega),e2]
        simp only [List.getD,List.getElem?_drop]
        congr 2; omega
theorem mV {xs ys:List α}(h:xs.length=ys.length) (k:∀ j,xs.getD j default=ys.getD j default):xs=ys:=cY (d:=default) h fun j _=>k j
theorem Ac {l:List α}{m i:Nat}(h1:i≤m) (h2:m+i≤l.length):fW l (m-i) m i=eT l (m-i) m (m+i):=
  mV (by rw [dz,gO (by omega) (by omega) h2]) fun j=>by
    rw [mL (by omega) h2,jy (by omega) (by omega) h2]
    congr 1
    split<;>(repeat' split)<;>omega
theorem yy {l:List α}{m i j:Nat}(h1:j<i) (h0:i≤m) (h2:m+j≤l.length):eT (fW l (m-i) m j) (m-i+j) m (m+j)=eT l (m-i) m (m+j):=
  mV (by rw [gO (by omega) (by omega) (by rw [dz]; omega),dz,gO (by omega) (by omega) h2]) fun q=>by
    rw [jy (by omega) (by omega) (by rw [dz]; omega),mL (by omega) h2,jy (by omega) (by omega) h2]
    congr 1
    (repeat' split)<;>omega
theorem xQ {l:List α}{m i j:Nat}(h1:i<j) (h0:i≤m) (h2:m+j≤l.length):eT (fW l (m-i) (m+j-i) i) (m-i) m (m+j-i)=eT l (m-i) m (m+j):=
  mV (by rw [gO (by omega) (by omega) (by rw [dz]; omega),dz,gO (by omega) (by omega) h2]) fun q=>by
    rw [jy (by omega) (by omega) (by rw [dz]; omega),mL (by omega) (by omega),jy (by omega) (by omega) h2]
    congr 1
    (repeat' split)<;>omega
end
end Go.Wk
namespace Go.Wk
open Rp (sz own)
def kLt (a b:Int × Int × Int):Prop:=a.1<b.1∨a.1=b.1∧(a.2.1<b.2.1∨a.2.1=b.2.1∧a.2.2<b.2.2)
theorem jM:LinO kLt where
  irr a h:=by unfold kLt at h; omega
  tr a b c h k:=by unfold kLt at h k ⊢; omega
  tot a b:=by
    by_cases h:kLt a b
    · exact .inl h
    · by_cases k:kLt b a
      · exact .inr (.inr k)
      · refine .inr (.inl ?_)
        obtain ⟨a1,a2,a3⟩:=a
        obtain ⟨b1,b2,b3⟩:=b
        unfold kLt at h k
        dsimp only at h k
        rw [show a1=b1 by omega,show a2=b2 by omega,show a3=b3 by omega]
def cS (r:Rec):Int × Int × Int:=(r.Seq,r.Kind,r.Group)
def cz (v:RecV):Int × Int × Int:=cS v.r
def gE (a b:Int):Int:=if a<b then -1 else if b<a then 1 else 0
def cfR (x y:Rec):Int:=if gE x.Seq y.Seq≠0 then gE x.Seq y.Seq else if gE x.Kind y.Kind≠0 then gE x.Kind y.Kind else gE x.Group y.Group
theorem lA {x y:Rec}:cfR x y<0↔kLt (cS x) (cS y):=by
  unfold cfR gE kLt cS
  dsimp only
  repeat' split
  all_goals omega
section
variable {P:Program}{n:Nat}{ops:Array Oper}{Q:Post}{L:Env}{S:World→Prop}{w w0:World}{M:Nat→Prop}{Δ F:List Rsc}{ty:TypeId}{p:String}{af:Array Edge}{g:Option (Nat × Bool)}{l:Nat}{rest:List (Nat × Bool)}
theorem dJ {t:TypeId}{x y:Operand}{b off:Nat}{ad:Option Addr}{len cap:Nat}{xs:List RecV}{fp:List Nat}{u:RecV}(ho:ops.toList[l]? = some ⟨none,.store t x y,ty,p,af,g⟩) (hw:Wn ops n L ⟨none,.store t x y,ty,p,af,g⟩) (hs:∀ w,(sizeOf t).run P w = .ok 9 w)
    (H:Sep M w0 Δ F w) (i:Nat) (hi:Δ[i]? = some (Wk.mine [.slice ad len cap] xs fp)) (q:Nat) (hq:q<xs.length) (hx:evL L x=some (.pointer (some ⟨b,off+q*9,none⟩))) (had:ad=some ⟨b,off,none⟩) (hy:evL L y=some (.agg u.cs.toArray)) (ok:u.r.Ok)
    (hS:∀ w',S w→Ext (· = b) w w'→rest≠[]→S w')
    (k:∀ w' fp',Sep M w0 (Δ.set i (Wk.mine [.slice ad len cap] (xs.set q u) fp')) F w'→DL P n ops Q S rest L w') :
    DL P n ops Q S ((l,false)::rest) L w:=by
  obtain ⟨b',o',cur,T,e1,hb,hsz,hk⟩:=H.elset i hi q hq
  rw [had] at e1
  simp only [Option.some.injEq,Addr.mk.injEq,and_true] at e1
  obtain ⟨rfl,rfl⟩:=e1
  obtain ⟨fp',h⟩:=hk u.cs u ⟨rfl,rfl,ok⟩
  exact zI ho hw rfl (kR hs hx hy rfl RecV.one hb hsz) (fun hSw hr=>hS _ hSw (Ext.refl.put (.inl rfl)) hr) (k _ fp' h)
end
end Go.Wk
namespace Go.Wk
section
variable {α:Type}
theorem oY {l:List α}{a b:Nat}(h:b≤a):seg l a b=[]:=by
  unfold seg; apply List.eq_nil_of_length_eq_zero; rw [List.length_drop,List.length_take]; omega
end
section
variable {α:Type}[Inhabited α] {l l2 ws:List α}{a b i j:Nat}
theorem fM {xs ys:List α}{a b:Nat}(h1:b≤xs.length) (h2:b≤ys.length) (h:∀ j,a≤j→j<b→xs.getD j default=ys.getD j default):seg xs a b=seg ys a b:=
  cY (d:=default) (by rw [cQ h1,cQ h2]) fun j hj=>by
    rw [cQ h1] at hj
    rw [eN (by omega),eN (by omega)]
    exact h _ (by omega) (by omega)
theorem iB {l:List α}{a:Nat}(h:a<l.length):seg l a (a+1)=[l.getD a default]:=by
  apply cY (d:=default)
  · rw [cQ (by omega)]; simp
  · intro j hj
    rw [cQ (by omega)] at hj
    obtain rfl:j=0:=by omega
    rw [eN (by omega)]; rfl
theorem fK {l:List α}{a b:Nat}{x:α}(h2:b≤l.length) (h:x∈seg l a b):∃ j,a≤j∧j<b∧l.getD j default=x:=by
  obtain ⟨j,hj,e⟩:=List.getElem_of_mem h
  rw [cQ h2] at hj
  refine ⟨a+j,by omega,by omega,?_⟩
  rw [← eN (b:=b) (by omega),bE (by rw [cQ h2]; omega)]; exact e
theorem sk {l:List α}{a b j:Nat}(h2:b≤l.length) (h:a≤j) (h3:j<b):l.getD j default∈seg l a b:=by
  have e:=eN (l:=l) (a:=a) (b:=b) (j:=j-a) (by omega)
  rw [show a+(j-a)=j by omega] at e
  rw [← e,bE (by rw [cQ h2]; omega)]
  exact List.getElem_mem _
end
section
variable {ws l l2:List RecV}{a b i j:Nat}
def SortSeg (ws l:List RecV) (a b:Nat):Prop:=l.length=ws.length∧(∀ q,q<a∨b≤q→l.getD q default=ws.getD q default)∧Stable kLt cz (seg ws a b) (seg l a b)
def InsInv (ws l:List RecV) (a i j:Nat):Prop:=a≤j∧j≤i∧l.length=ws.length∧(∀ q,q<a∨i+1≤q→l.getD q default=ws.getD q default)∧Stable kLt cz (seg ws a i) (seg l a j++seg l (j+1) (i+1)) ∧
  l.getD j default=ws.getD i default∧∀ q,j<q→q≤i→kLt (cz (ws.getD i default)) (cz (l.getD q default))
theorem uc (h:a+1≤ws.length):SortSeg ws ws a (a+1):=
  ⟨rfl,fun _ _=>rfl,by rw [iB (by omega)]; exact .cons (by simp) .nil,.refl⟩
theorem rE (h:b≤a):SortSeg ws ws a b:=⟨rfl,fun _ _=>rfl,by rw [oY h]; exact .nil,.refl⟩
theorem qQ (h:SortSeg ws l a i) (h1:a≤i):InsInv ws l a i i:=by
  obtain ⟨e1,e2,e3⟩:=h
  refine ⟨h1,Nat.le_refl _,e1,fun q hq=>e2 q (by omega),?_,e2 i (by omega),fun q h3 h4=>by omega⟩
  rw [oY (Nat.le_refl (i+1)),List.append_nil]; exact e3
theorem pW (h:InsInv ws l a i j) (h1:a<j) (h2:i<ws.length) (hc:cfR (l.getD j default).r (l.getD (j-1) default).r<0) :
    InsInv ws ((l.set j (l.getD (j-1) default)).set (j-1) (l.getD j default)) a i (j-1):=by
  obtain ⟨e1,e2,e3,e4,e5,e6,e7⟩:=h
  have hg:∀ q,((l.set j (l.getD (j-1) default)).set (j-1) (l.getD j default)).getD q default=if q=j-1 then l.getD j default else if q=j then l.getD (j-1) default else l.getD q default:=fun q=>by
    rw [dm,dm,List.length_set]
    by_cases c1:q=j-1
    · rw [if_pos ⟨c1,by omega⟩,if_pos c1]
    · rw [if_neg (fun h=>c1 h.1),if_neg c1]
      by_cases c2:q=j
      · rw [if_pos ⟨c2,by omega⟩,if_pos c2]
      · rw [if_neg (fun h=>c2 h.1),if_neg c2]
  have hlen:((l.set j (l.getD (j-1) default)).set (j-1) (l.getD j default)).length=ws.length:=by rw [List.length_set,List.length_set]; exact e3
  refine ⟨by omega,by omega,hlen,fun q hq=>?_,?_,?_,fun q h3 h4=>?_⟩
  · rw [hg,if_neg (by omega),if_neg (by omega)]; exact e4 q hq
  · have s1:seg ((l.set j (l.getD (j-1) default)).set (j-1) (l.getD j default)) a (j-1)=seg l a (j-1):=fM (by omega) (by omega) fun q h3 h4=>by rw [hg,if_neg (by omega),if_neg (by omega)]
    have s2:seg ((l.set j (l.getD (j-1) default)).set (j-1) (l.getD j default)) (j-1+1) (i+1)=seg l (j-1) j++seg l (j+1) (i+1):=by
      rw [show j-1+1=j by omega,← ct (b:=j+1) (by omega) (by omega),iB (by omega)]
      congr 1
      · have:=iB (l:=l) (a:=j-1) (by omega)
        rw [show j-1+1=j by omega] at this
        rw [this,hg,if_neg (by omega),if_pos rfl]
      · exact fM (by omega) (by omega) fun q h3 h4=>by rw [hg,if_neg (by omega),if_neg (by omega)]
    rw [s1,s2,← List.append_assoc,ct (by omega) (by omega)]; exact e5
  · rw [hg,if_pos rfl]; exact e6
  · rw [hg,if_neg (by omega)]
    by_cases c:q=j
    · rw [if_pos c]
      have:=(lA (x:=(l.getD j default).r) (y:=(l.getD (j-1) default).r)).1 hc
      rw [e6] at this; exact this
    · rw [if_neg c]; exact e7 q (by omega) h4
theorem rV (h:InsInv ws l a i j) (h2:i<ws.length) (hc:j=a∨¬ cfR (l.getD j default).r (l.getD (j-1) default).r<0):SortSeg ws l a (i+1):=by
  obtain ⟨e1,e2,e3,e4,e5,e6,e7⟩:=h
  refine ⟨e3,e4,?_⟩
  have sl:seg l a (i+1)=seg l a j++l.getD j default::seg l (j+1) (i+1):=by
    rw [← ct (b:=j) (by omega) (by omega),← ct (l:=l) (a:=j) (b:=j+1) (c:=i+1) (by omega) (by omega),iB (by omega)]; rfl
  have sw:seg ws a (i+1)=seg ws a i++[ws.getD i default]:=by rw [← ct (b:=i) (by omega) (by omega),iB (by omega)]
  rw [sl,sw,e6]
  refine fb jM e5 (fun y hy=>?_) fun y hy=>?_
  · obtain ⟨q,h3,h4,rfl⟩:=fK (by omega) hy
    exact e7 q (by omega) (by omega)
  · obtain ⟨q,h3,h4,rfl⟩:=fK (by omega) hy
    rcases hc with hc | hc
    · omega
    · rw [lA,e6] at hc
      change ¬ kLt (cz (ws.getD i default)) (cz (l.getD (j-1) default)) at hc
      by_cases c:q=j-1
      · rw [c]; exact hc
      · have ho:Ord kLt cz (seg l a (j-1)++seg l (j-1) j):=by rw [ct (by omega) (by omega)]; exact e5.1.left
        have hle:=ho.le _ (sk (l:=l) (a:=a) (b:=j-1) (j:=q) (by omega) h3 (by omega)) _ (sk (l:=l) (a:=j-1) (b:=j) (j:=j-1) (by omega) (by omega) (by omega))
        intro hlt
        rcases jM.tot (cz (l.getD q default)) (cz (l.getD (j-1) default)) with c1 | c1 | c1
        · exact hc (jM.tr _ _ _ hlt c1)
        · rw [c1] at hlt; exact hc hlt
        · exact hle c1
def InsO (ws l:List RecV) (a b i:Nat):Prop:=(b≤a∧l=ws)∨(a<b∧i≤b∧SortSeg ws l a i)
theorem vC (h:b≤ws.length):InsO ws ws a b (a+1):=by
  by_cases c:b≤a
  · exact .inl ⟨c,rfl⟩
  · exact .inr ⟨by omega,by omega,uc (by omega)⟩
theorem yr (h:InsO ws l a b i) (h1:a<i) (h2:i<b):SortSeg ws l a i:=by
  rcases h with ⟨h,_⟩ | ⟨_,_,h⟩
  · omega
  · exact h
theorem ro (h:SortSeg ws l a (i+1)) (h1:a<i) (h2:i<b):InsO ws l a b (i+1) := .inr ⟨by omega,by omega,h⟩
theorem yf (h:InsO ws l a b i) (h2:¬ i<b):SortSeg ws l a b:=by
  rcases h with ⟨h,e⟩ | ⟨_,h1,h⟩
  · rw [e]; exact rE h
  · rwa [show b=i by omega]
end
end Go.Wk
namespace Go.Wk
def kAt (l:List RecV) (q:Nat):Int × Int × Int:=cz (l.getD q default)
section
variable {ws l l2 l3:List RecV}{a b m i j k s r p h mid e:Nat}
theorem eV (ho:Ord kLt cz (seg ws a b)) (hb:b≤ws.length) {x y:Nat}(h1:a≤x) (h2:x<y) (h3:y<b):¬ kLt (kAt ws y) (kAt ws x):=by
  have h4:Ord kLt cz (seg ws a y++seg ws y b):=by rw [ct (by omega) (by omega)]; exact ho
  exact h4.le _ (sk (by omega) h1 h2) _ (sk hb (Nat.le_refl _) h3)
theorem Bm (hb:b≤ws.length) (hh:∀ x y,a≤x→x<y→y<b→¬ kLt (kAt ws y) (kAt ws x)):Ord kLt cz (seg ws a b):=by
  have key:∀ n,∀ a,b-a≤n→(∀ x y,a≤x→x<y→y<b→¬ kLt (kAt ws y) (kAt ws x))→Ord kLt cz (seg ws a b):=by
    intro n
    induction n with
    | zero=>intro a h1 _; rw [oY (by omega)]; exact .nil
    | succ n ih=>
      intro a h1 h2
      by_cases c:a<b
      · rw [← ct (b:=a+1) (by omega) (by omega),iB (by omega)]
        refine .cons (fun y hy=>?_) (ih (a+1) (by omega) fun x y q1 q2 q3=>h2 x y (by omega) q2 q3)
        obtain ⟨q,q1,q2,rfl⟩:=fK hb hy
        exact h2 a q (Nat.le_refl _) (by omega) q2
      · rw [oY (by omega)]; exact .nil
  exact key _ a (Nat.le_refl _) hh
theorem kU (ho:Ord kLt cz (seg ws a b)) (hb:b≤ws.length) {x y:Nat}(h1:a≤x) (h2:y≤b):Ord kLt cz (seg ws x y):=
  Bm (by omega) fun p q q1 q2 q3=>eV ho hb (by omega) q2 (by omega)
theorem xF {x y z:Int × Int × Int}(h1:¬ kLt y x) (h2:¬ kLt z y):¬ kLt z x:=fun h3=>by
  rcases jM.tot x y with c | c | c
  · exact h2 (jM.tr _ _ _ h3 c)
  · rw [← c] at h2; exact h2 h3
  · exact h1 c
theorem mX {x y z:Int × Int × Int}(h1:kLt x y) (h2:¬ kLt z y):kLt x z:=by
  rcases jM.tot y z with c | c | c
  · exact jM.tr _ _ _ h1 c
  · rw [← c]; exact h1
  · exact absurd c h2
theorem sn {x y z:Int × Int × Int}(h1:¬ kLt y x) (h2:kLt y z):kLt x z:=by
  rcases jM.tot x y with c | c | c
  · exact jM.tr _ _ _ c h2
  · rw [c]; exact h2
  · exact absurd c h1
def LoInv (ws:List RecV) (a m b i j:Nat):Prop:=m≤i∧i≤j∧j≤b∧(∀ q,m≤q→q<i→kLt (kAt ws q) (kAt ws a))∧∀ q,j≤q→q<b→¬ kLt (kAt ws q) (kAt ws a)
theorem zn (h:m≤b):LoInv ws a m b m b:=⟨Nat.le_refl _,h,Nat.le_refl _,fun q h1 h2=>by omega,fun q h1 h2=>by omega⟩
theorem AW (hI:LoInv ws a m b i j) (hb:b≤ws.length) (ho:Ord kLt cz (seg ws m b)) (h1:i≤h) (h2:h<j) (hc:cfR (ws.getD h default).r (ws.getD a default).r<0):LoInv ws a m b (h+1) j:=by
  obtain ⟨e1,e2,e3,e4,e5⟩:=hI
  have hc':kLt (kAt ws h) (kAt ws a):=lA.1 hc
  refine ⟨by omega,by omega,e3,fun q q1 q2=>?_,e5⟩
  by_cases c:q=h
  · rw [c]; exact hc'
  · exact sn (eV ho hb q1 (by omega) (by omega)) hc'
theorem By (hI:LoInv ws a m b i j) (hb:b≤ws.length) (ho:Ord kLt cz (seg ws m b)) (h1:i≤h) (h2:h<j) (hc:¬ cfR (ws.getD h default).r (ws.getD a default).r<0):LoInv ws a m b i h:=by
  obtain ⟨e1,e2,e3,e4,e5⟩:=hI
  have hc':¬ kLt (kAt ws h) (kAt ws a):=fun x=>hc (lA.2 x)
  refine ⟨e1,h1,by omega,e4,fun q q1 q2=>?_⟩
  by_cases c:q=h
  · rw [c]; exact hc'
  · exact xF hc' (eV ho hb (by omega) (by omega) q2)
def UpInv (ws l:List RecV) (a k:Nat):Prop:=a≤k∧k<ws.length∧l.length=ws.length∧(∀ q,q<a∨k<q→l.getD q default=ws.getD q default)∧(∀ q,a≤q→q<k→l.getD q default=ws.getD (q+1) default)∧l.getD k default=ws.getD a default
theorem yW (h:a<ws.length):UpInv ws ws a a:=⟨Nat.le_refl _,h,rfl,fun _ _=>rfl,fun q h1 h2=>by omega,rfl⟩
theorem wF (hI:UpInv ws l a k) (hk:k+1<ws.length):UpInv ws ((l.set k (l.getD (k+1) default)).set (k+1) (l.getD k default)) a (k+1):=by
  obtain ⟨e1,e2,e3,e4,e5,e6⟩:=hI
  have hg:∀ q,((l.set k (l.getD (k+1) default)).set (k+1) (l.getD k default)).getD q default=if q=k+1 then l.getD k default else if q=k then l.getD (k+1) default else l.getD q default:=fun q=>by
    rw [dm,dm,List.length_set]
    by_cases c1:q=k+1
    · rw [if_pos ⟨c1,by omega⟩,if_pos c1]
    · rw [if_neg (fun h=>c1 h.1),if_neg c1]
      by_cases c2:q=k
      · rw [if_pos ⟨c2,by omega⟩,if_pos c2]
      · rw [if_neg (fun h=>c2 h.1),if_neg c2]
  refine ⟨by omega,hk,by rw [List.length_set,List.length_set]; exact e3,fun q hq=>?_,fun q q1 q2=>?_,by rw [hg,if_pos rfl]; exact e6⟩
  · rw [hg,if_neg (by omega),if_neg (by omega)]; exact e4 q (by omega)
  · rw [hg,if_neg (by omega)]
    by_cases c:q=k
    · rw [if_pos c,c]; exact e4 _ (by omega)
    · rw [if_neg c]; exact e5 q q1 (by omega)
theorem A5 (hI:UpInv ws l a k) (hL:LoInv ws a (a+1) b (k+1) (k+1)) (hb:b≤ws.length) (ho:Ord kLt cz (seg ws (a+1) b)):SortSeg ws l a b:=by
  obtain ⟨e1,e2,e3,e4,e5,e6⟩:=hI
  obtain ⟨f1,f2,f3,f4,f5⟩:=hL
  have s1:seg l a k=seg ws (a+1) (k+1):=cY (d:=default) (by rw [cQ (by omega),cQ (by omega)]; omega) fun q hq=>by
    rw [cQ (by omega)] at hq
    rw [eN (by omega),eN (by omega),e5 _ (by omega) (by omega)]
    congr 1; omega
  have s2:seg l (k+1) b=seg ws (k+1) b:=fM (by omega) hb fun q q1 q2=>e4 q (by omega)
  have sl:seg l a b=seg ws (a+1) (k+1)++ws.getD a default::seg ws (k+1) b:=by
    rw [← ct (b:=k) (by omega) (by omega),← ct (l:=l) (a:=k) (b:=k+1) (c:=b) (by omega) (by omega),iB (by omega),s1,s2,e6]; rfl
  have sw:seg ws a b=[ws.getD a default]++(seg ws (a+1) (k+1)++seg ws (k+1) b):=by
    rw [ct (by omega) (by omega),← ct (l:=ws) (a:=a) (b:=a+1) (c:=b) (by omega) (by omega),iB (by omega)]
  refine ⟨e3,fun q hq=>e4 q (by omega),?_,?_⟩
  · rw [sl]
    refine (kU ho hb (Nat.le_refl _) f3).app (.cons (fun y hy=>?_) (kU ho hb (by omega) (Nat.le_refl _))) fun x hx y hy=>?_
    · obtain ⟨q,q1,q2,rfl⟩:=fK hb hy
      exact f5 q q1 q2
    · obtain ⟨q,q1,q2,rfl⟩:=fK (by omega) hx
      rcases List.mem_cons.1 hy with rfl | hy
      · exact fun hlt=>jM.irr _ (jM.tr _ _ _ hlt (f4 q q1 q2))
      · obtain ⟨q',q3,q4,rfl⟩:=fK hb hy
        exact eV ho hb q1 (by omega) q4
  · rw [sl,sw]
    have:ce cz ([ws.getD a default]++seg ws (a+1) (k+1)) (seg ws (a+1) (k+1)++[ws.getD a default]):=ce.swap fun x hx y hy ee=>by
      rw [List.mem_singleton] at hx
      subst hx
      obtain ⟨q,q1,q2,rfl⟩:=fK (by omega) hy
      have:=f4 q q1 q2
      unfold kAt at this
      rw [ee] at this
      exact jM.irr _ this
    have h2:=this.app (ce.refl (xs:=seg ws (k+1) b))
    rw [List.append_assoc,List.append_assoc] at h2
    exact h2
def HiInv (ws:List RecV) (a m i j:Nat):Prop:=a≤i∧i≤j∧j≤m∧(∀ q,a≤q→q<i→¬ kLt (kAt ws m) (kAt ws q))∧∀ q,j≤q→q<m→kLt (kAt ws m) (kAt ws q)
theorem za (h:a≤m):HiInv ws a m a m:=⟨Nat.le_refl _,h,Nat.le_refl _,fun q h1 h2=>by omega,fun q h1 h2=>by omega⟩
theorem AQ (hI:HiInv ws a m i j) (hb:m≤ws.length) (ho:Ord kLt cz (seg ws a m)) (h1:i≤h) (h2:h<j) (hc:¬ cfR (ws.getD m default).r (ws.getD h default).r<0):HiInv ws a m (h+1) j:=by
  obtain ⟨e1,e2,e3,e4,e5⟩:=hI
  have hc':¬ kLt (kAt ws m) (kAt ws h):=fun x=>hc (lA.2 x)
  refine ⟨by omega,by omega,e3,fun q q1 q2=>?_,e5⟩
  by_cases c:q=h
  · rw [c]; exact hc'
  · exact xF (eV ho hb q1 (show q<h by omega) (by omega)) hc'
theorem Bq (hI:HiInv ws a m i j) (hb:m≤ws.length) (ho:Ord kLt cz (seg ws a m)) (h1:i≤h) (h2:h<j) (hc:cfR (ws.getD m default).r (ws.getD h default).r<0):HiInv ws a m i h:=by
  obtain ⟨e1,e2,e3,e4,e5⟩:=hI
  have hc':kLt (kAt ws m) (kAt ws h):=lA.1 hc
  refine ⟨e1,h1,by omega,e4,fun q q1 q2=>?_⟩
  by_cases c:q=h
  · rw [c]; exact hc'
  · exact mX hc' (eV ho hb (by omega) (show h<q by omega) q2)
def DnInv (ws l:List RecV) (a m i k:Nat):Prop:=i≤k∧InsInv ws l a m k∧∀ q,q<k→l.getD q default=ws.getD q default
theorem yl (hH:HiInv ws a m i i) (ho:Ord kLt cz (seg ws a m)):DnInv ws ws a m i m:=
  ⟨hH.2.2.1,qQ ⟨rfl,fun _ _=>rfl,ho,.refl⟩ (by have:=hH.1; have:=hH.2.2.1; omega),fun _ _=>rfl⟩
theorem wE (hI:DnInv ws l a m i k) (hH:HiInv ws a m i i) (h1:i<k) (h2:m<ws.length):DnInv ws ((l.set k (l.getD (k-1) default)).set (k-1) (l.getD k default)) a m i (k-1):=by
  obtain ⟨e1,e2,e3⟩:=hI
  have hk:k≤m:=e2.2.1
  have hlen:=e2.2.2.1
  have hai:=hH.1
  have hc:cfR (l.getD k default).r (l.getD (k-1) default).r<0:=by
    rw [lA,e2.2.2.2.2.2.1,e3 (k-1) (by omega)]
    exact hH.2.2.2.2 (k-1) (by omega) (by omega)
  refine ⟨by omega,pW e2 (by omega) h2 hc,fun q hq=>?_⟩
  rw [dm,dm,List.length_set,if_neg (by omega),if_neg (by omega)]
  exact e3 q (by omega)
theorem AY (hI:DnInv ws l a m i i) (hH:HiInv ws a m i i) (h2:m<ws.length):SortSeg ws l a (m+1):=by
  obtain ⟨e1,e2,e3⟩:=hI
  refine rV e2 h2 ?_
  by_cases c:i=a
  · exact .inl c
  · refine .inr fun hc=>?_
    have h3:=e2.1
    rw [lA,e2.2.2.2.2.2.1,e3 (i-1) (by omega)] at hc
    exact hH.2.2.2.1 (i-1) (by omega) (by omega) hc
end
end Go.Wk
namespace Go.Wk
section
variable {ws l l2 l3:List RecV}{a b m s r p s0 r0 h e mid:Nat}
theorem ji (h:Ord kLt cz (seg ws a b)):SortSeg ws ws a b:=⟨rfl,fun _ _=>rfl,h,.refl⟩
def MidInv (ws:List RecV) (p s0 r0 s r:Nat):Prop:=s0≤s∧s≤r∧r≤r0∧(∀ c,s0≤c→c<s→¬ kLt (kAt ws (p-c)) (kAt ws c))∧∀ c,r≤c→c<r0→kLt (kAt ws (p-c)) (kAt ws c)
theorem xq (h:s0≤r0):MidInv ws p s0 r0 s0 r0:=⟨Nat.le_refl _,h,Nat.le_refl _,fun q h1 h2=>by omega,fun q h1 h2=>by omega⟩
def MidOK (ws:List RecV) (a m b p s0 r0:Nat):Prop:=a≤s0∧r0≤m∧m+r0≤p+1∧p<b+s0∧b≤ws.length∧Ord kLt cz (seg ws a m)∧Ord kLt cz (seg ws m b)∧m≤b
theorem zC (hI:MidInv ws p s0 r0 s r) (hk:MidOK ws a m b p s0 r0) (h1:s≤h) (h2:h<r) (hc:¬ cfR (ws.getD (p-h) default).r (ws.getD h default).r<0):MidInv ws p s0 r0 (h+1) r:=by
  obtain ⟨e1,e2,e3,e4,e5⟩:=hI
  obtain ⟨k1,k2,k3,k4,k5,k6,k7,k8⟩:=hk
  have hc':¬ kLt (kAt ws (p-h)) (kAt ws h):=fun x=>hc (lA.2 x)
  refine ⟨by omega,by omega,e3,fun c q1 q2=>?_,e5⟩
  by_cases cc:c=h
  · rw [cc]; exact hc'
  · exact xF (eV k6 (by omega) (by omega) (show c<h by omega) (by omega)) (xF hc' (eV k7 k5 (by omega) (show p-h<p-c by omega) (by omega)))
theorem Bf (hI:MidInv ws p s0 r0 s r) (hk:MidOK ws a m b p s0 r0) (h1:s≤h) (h2:h<r) (hc:cfR (ws.getD (p-h) default).r (ws.getD h default).r<0):MidInv ws p s0 r0 s h:=by
  obtain ⟨e1,e2,e3,e4,e5⟩:=hI
  obtain ⟨k1,k2,k3,k4,k5,k6,k7,k8⟩:=hk
  have hc':kLt (kAt ws (p-h)) (kAt ws h):=lA.1 hc
  refine ⟨e1,h1,by omega,e4,fun c q1 q2=>?_⟩
  by_cases cc:c=h
  · rw [cc]; exact hc'
  · exact sn (eV k7 k5 (by omega) (show p-c<p-h by omega) (by omega)) (mX hc' (eV k6 (by omega) (by omega) (show h<c by omega) (by omega)))
def SymL (ws l:List RecV) (a s mid e b:Nat):Prop:=l.length=ws.length∧(∀ q,q<a∨b≤q→l.getD q default=ws.getD q default)∧ce cz (seg ws a b) (seg l a b) ∧
  (∀ x,a≤x→x<mid→∀ y,mid≤y→y<b→¬ kLt (kAt l y) (kAt l x))∧Ord kLt cz (seg l a s)∧Ord kLt cz (seg l s mid)∧Ord kLt cz (seg l mid e)∧Ord kLt cz (seg l e b)
theorem tL (hI:MidInv ws p s0 r0 s s) (hk:MidOK ws a m b p s0 r0) (g1:s0=a∨p+1=b+s0) (g2:r0=m∨p+1=m+r0) (hmid:mid+m=p+1) (he:e+s=p+1):SymL ws (eT ws s m e) a s mid e b:=by
  obtain ⟨e1,e2,e3,e4,e5⟩:=hI
  obtain ⟨k1,k2,k3,k4,k5,k6,k7,k8⟩:=hk
  have hs:s≤m:=by omega
  have hme:m≤e:=by omega
  have heb:e≤b:=by omega
  have hmd:mid=s+(e-m):=by omega
  have hlen:=gO (l:=ws) hs hme (by omega)
  have hg:∀ q,(eT ws s m e).getD q default=ws.getD (if q<s then q else if q<mid then m+(q-s) else if q<e then s+(q-mid) else q) default:=fun q=>by
    rw [jy hs hme (by omega)]
    congr 1
    (repeat' split)<;>omega
  have kg:∀ q,kAt (eT ws s m e) q=kAt ws (if q<s then q else if q<mid then m+(q-s) else if q<e then s+(q-mid) else q):=fun q=>congrArg cz (hg q)
  have hx:∀ x,a≤x→x<s→∀ y,e≤y→y<b→¬ kLt (kAt ws y) (kAt ws x):=fun x h1 h2 y h3 h4=>by
    by_cases c:s0<s
    · have h5:=e4 (s-1) (by omega) (by omega)
      rw [show p-(s-1)=e by omega] at h5
      have h6:¬ kLt (kAt ws e) (kAt ws x):=by
        by_cases c2:x=s-1
        · rw [c2]; exact h5
        · exact xF (eV k6 (by omega) h1 (show x<s-1 by omega) (by omega)) h5
      by_cases c3:y=e
      · rw [c3]; exact h6
      · exact xF h6 (eV k7 k5 hme (show e<y by omega) h4)
    · rcases g1 with g1 | g1<;>omega
  have hy:∀ x,s≤x→x<m→∀ y,m≤y→y<e→kLt (kAt ws y) (kAt ws x):=fun x h1 h2 y h3 h4=>by
    by_cases c:s<r0
    · have h5:=e5 s (Nat.le_refl _) c
      have h6:kLt (kAt ws y) (kAt ws s):=by
        by_cases c2:y=p-s
        · rw [c2]; exact h5
        · exact sn (eV k7 k5 h3 (show y<p-s by omega) (by omega)) h5
      by_cases c3:x=s
      · rw [c3]; exact h6
      · exact mX h6 (eV k6 (by omega) (by omega) (show s<x by omega) h2)
    · rcases g2 with g2 | g2<;>omega
  have s1:seg (eT ws s m e) a s=seg ws a s:=fM (by omega) (by omega) fun q q1 q2=>by rw [hg,if_pos (by omega)]
  have s2:seg (eT ws s m e) s mid=seg ws m e:=cY (d:=default) (by rw [cQ (by omega),cQ (by omega)]; omega) fun q hq=>by
    rw [cQ (by omega)] at hq
    rw [eN (by omega),eN (by omega),hg,if_neg (by omega),if_pos (by omega)]; congr 1; omega
  have s3:seg (eT ws s m e) mid e=seg ws s m:=cY (d:=default) (by rw [cQ (by omega),cQ (by omega)]; omega) fun q hq=>by
    rw [cQ (by omega)] at hq
    rw [eN (by omega),eN (by omega),hg,if_neg (by omega),if_neg (by omega),if_pos (by omega)]; congr 1; omega
  have s4:seg (eT ws s m e) e b=seg ws e b:=fM (by omega) (by omega) fun q q1 q2=>by rw [hg,if_neg (by omega),if_neg (by omega),if_neg (by omega)]
  refine ⟨hlen,fun q hq=>?_,?_,fun x q1 q2 y q3 q4=>?_,?_,?_,?_,?_⟩
  · rw [hg]
    by_cases c:q<s
    · rw [if_pos c]
    · rw [if_neg c,if_neg (by omega),if_neg (by omega)]
  · have t1:seg (eT ws s m e) a b=seg ws a s++((seg ws m e++seg ws s m)++seg ws e b):=by
      rw [← ct (b:=s) (by omega) (by omega),← ct (l:=eT ws s m e) (a:=s) (b:=e) (c:=b) (by omega) (by omega),← ct (l:=eT ws s m e) (a:=s) (b:=mid) (c:=e) (by omega) (by omega),s1,s2,s3,s4]
    have t2:seg ws a b=seg ws a s++((seg ws s m++seg ws m e)++seg ws e b):=by
      rw [ct (a:=s) hs hme,ct (by omega) heb,ct (by omega) (by omega)]
    rw [t1,t2]
    refine ce.refl.app ((ce.swap fun x hx' y hy' ee=>?_).app .refl)
    obtain ⟨q,q1,q2,rfl⟩:=fK (by omega) hx'
    obtain ⟨q',q3,q4,rfl⟩:=fK (by omega) hy'
    have:=hy q q1 q2 q' q3 q4
    unfold kAt at this
    rw [ee] at this
    exact jM.irr _ this
  · rw [kg,kg,if_neg (show ¬ y<s by omega),if_neg (show ¬ y<mid by omega)]
    by_cases c1:x<s
    · rw [if_pos c1]
      by_cases c2:y<e
      · rw [if_pos c2]; exact eV k6 (by omega) q1 (by omega) (by omega)
      · rw [if_neg c2]; exact hx x q1 c1 y (by omega) q4
    · rw [if_neg c1,if_pos q2]
      by_cases c2:y<e
      · rw [if_pos c2]
        exact fun hlt=>jM.irr _ (jM.tr _ _ _ hlt (hy _ (by omega) (by omega) _ (by omega) (by omega)))
      · rw [if_neg c2]; exact eV k7 k5 (by omega) (by omega) q4
  · rw [s1]; exact kU k6 (by omega) (Nat.le_refl _) hs
  · rw [s2]; exact kU k7 k5 (Nat.le_refl _) heb
  · rw [s3]; exact kU k6 (by omega) (by omega) (Nat.le_refl _)
  · rw [s4]; exact kU k7 k5 hme (Nat.le_refl _)
theorem sH (h:s=m∨e=m) (hs:s≤m) (hm:m≤e) (he:e≤ws.length):eT ws s m e=ws:=
  mV (gO hs hm he) fun j=>by
    rw [jy hs hm he]
    congr 1
    (repeat' split)<;>omega
theorem pu (hS:SymL ws l a s mid e b) (h1:SortSeg l l2 a mid) (h2:SortSeg l2 l3 mid b) (ha:a≤mid) (hm:mid≤b) (hb:b≤ws.length):SortSeg ws l3 a b:=by
  obtain ⟨e1,e2,e3,e4,_⟩:=hS
  obtain ⟨f1,f2,f3,f4⟩:=h1
  obtain ⟨g1,g2,g3,g4⟩:=h2
  have t1:seg l3 a mid=seg l2 a mid:=fM (by omega) (by omega) fun q q1 q2=>g2 q (by omega)
  have t2:seg l2 mid b=seg l mid b:=fM (by omega) (by omega) fun q q1 q2=>f2 q (by omega)
  rw [t2] at g4
  refine ⟨by omega,fun q hq=>by rw [g2 q (by omega),f2 q (by omega),e2 q hq],?_,?_⟩
  · rw [← ct (b:=mid) ha hm,t1]
    refine f3.app g3 fun x hx y hy=>?_
    obtain ⟨q,q1,q2,rfl⟩:=fK (l:=l) (by omega) (f4.mem hx)
    obtain ⟨q',q3,q4,rfl⟩:=fK (l:=l) (by omega) (g4.mem hy)
    exact e4 q q1 q2 q' q3 q4
  · refine e3.trans ?_
    rw [← ct (l:=l) (b:=mid) ha hm,← ct (l:=l3) (b:=mid) ha hm,t1]
    exact f4.app g4
end
theorem pE {l l2:List RecV}{a mid x y:Nat}(h:SortSeg l l2 a mid) (h1:mid≤x) (h2:y≤l.length):seg l2 x y=seg l x y:=
  fM (by have:=h.1; omega) h2 fun q q1 _=>h.2.1 q (by omega)
section
variable {P:Program}{n:Nat}{L:Env}{w:World}{d:Option Tmp}{ty:TypeId}{p:String}{af:Array Edge}{g:Option (Nat × Bool)}
theorem mn {xt yt:TypeId}{x y:Operand}{k1 k2:IntKind}{m:Nat}(hx:evL L x=some (.int k1 (m:Nat))) (hy:evL L y=some (.int k2 1)) (hk:k1 = .u64):Py P n L w ⟨d,.binOp .shr xt x y yt,ty,p,af,g⟩ (.int k1 ((m / 2:Nat):Int)):=by
  subst hk
  have h:=Bn (P:=P) (n:=n) (w:=w) (d:=d) (ty:=ty) (p:=p) (af:=af) (g:=g) (xt:=xt) (yt:=yt) hx hy (by omega)
  have e:(m:Int).fdiv (2^min (1:Int).toNat IntKind.u64.bits)=((m / 2:Nat):Int):=by
    show (m:Int).fdiv (2^1)=_
    rw [Int.fdiv_eq_ediv_of_nonneg _ (by omega)]
    omega
  rw [e] at h
  exact h
end
end Go.Wk
namespace Go.Wk
section
variable {ws l:List RecV}{a b bs c e x y:Nat}
theorem rk {l l':List RecV}(h:SortSeg l l' a b) (hab:a≤b) (hb:b≤l.length):ce cz l l':=by
  obtain ⟨h1,h2,h3⟩:=h
  have e1:l=seg l 0 a++(seg l a b++seg l b l.length):=by
    rw [ct hab hb,ct (Nat.zero_le _) (by omega)]; unfold seg; rw [List.take_length,List.drop_zero]
  have e2:l'=seg l 0 a++(seg l' a b++seg l b l.length):=by
    rw [fM (by omega) (by omega) (fun j _ q=>(h2 j (.inl q)).symm) (a:=0) (b:=a) (xs:=l) (ys:=l'),fM (Nat.le_refl _) (by omega) (fun j q _=>(h2 j (.inr q)).symm) (a:=b) (b:=l.length) (xs:=l) (ys:=l')]
    rw [ct hab (by omega),ct (Nat.zero_le _) (by omega)]; unfold seg; rw [← h1,List.take_length,List.drop_zero]
  intro k
  have:=(ce.app (ce.refl (key:=cz) (xs:=seg l 0 a)) (ce.app h3.2 (ce.refl (key:=cz) (xs:=seg l b l.length)))) k
  rw [e2]; conv=>rhs; rw [e1]
  exact this
theorem xN {l l':List RecV}(h:SortSeg l l' a b) (hx:y≤a∨b≤x) (hy:y≤l.length):seg l' x y=seg l x y:=
  fM (by have:=h.1; omega) hy fun j q1 q2=>h.2.1 j (by omega)
def OrdAt (l:List RecV) (bs c:Nat):Prop:=Ord kLt cz (seg l c (min (c+bs) l.length))
def Blocks (ws l:List RecV) (bs a:Nat):Prop:=l.length=ws.length∧ce cz ws l∧bs ∣ a∧a≤ws.length∧∀ c,bs ∣ c→c<a→OrdAt l bs c
def AllB (ws l:List RecV) (bs:Nat):Prop:=l.length=ws.length∧ce cz ws l∧∀ c,bs ∣ c→c<ws.length→OrdAt l bs c
theorem so {bs c a:Nat}(h1:bs ∣ c) (h2:bs ∣ a) (h:c<a):c+bs≤a:=by
  obtain ⟨x,rfl⟩:=h1; obtain ⟨y,rfl⟩:=h2
  have:x<y:=Nat.lt_of_mul_lt_mul_left h
  calc bs*x+bs=bs*(x+1):=by rw [Nat.mul_add,Nat.mul_one]
    _≤bs*y:=Nat.mul_le_mul_left _ this
theorem yL:Blocks ws ws bs 0:=⟨rfl,.refl,Nat.dvd_zero _,Nat.zero_le _,fun c _ h=>by omega⟩
theorem rX {l l':List RecV}(hs:SortSeg l l' a b) (hc:c+bs≤a∨b≤c) (h:OrdAt l bs c):OrdAt l' bs c:=by
  unfold OrdAt at h ⊢
  rw [hs.1,xN hs (by omega) (by omega)]; exact h
theorem wD {l l':List RecV}(hI:Blocks ws l bs a) (h0:0<bs) (h:a+bs≤ws.length) (hs:SortSeg l l' a (a+bs)):Blocks ws l' bs (a+bs):=by
  obtain ⟨h1,h2,h3,h4,h5⟩:=hI
  have e:=hs.1
  refine ⟨by omega,h2.trans (rk hs (by omega) (by omega)),Nat.dvd_add h3 (Nat.dvd_refl _),h,fun c q1 q2=>?_⟩
  by_cases hc:c<a
  · exact rX hs (.inl (so q1 h3 hc)) (h5 c q1 hc)
  · have:c=a:=by
      by_cases hca:c=a
      · exact hca
      · have:=so h3 q1 (by omega); omega
    subst this
    unfold OrdAt; rw [show min (c+bs) l'.length=c+bs by omega]; exact hs.2.2.1
theorem wP {l l':List RecV}(hI:Blocks ws l bs a) (h:ws.length<a+bs) (hs:SortSeg l l' a ws.length):AllB ws l' bs:=by
  obtain ⟨h1,h2,h3,h4,h5⟩:=hI
  have e:=hs.1
  refine ⟨by omega,h2.trans (rk hs (by omega) (by omega)),fun c q1 q2=>?_⟩
  by_cases hc:c<a
  · exact rX hs (.inl (so q1 h3 hc)) (h5 c q1 hc)
  · have:c=a:=by
      by_cases hca:c=a
      · exact hca
      · have:=so h3 q1 (by omega); omega
    subst this
    unfold OrdAt; rw [show min (c+bs) l'.length=ws.length by omega]; exact hs.2.2.1
def TwoB (ws l:List RecV) (bs a:Nat):Prop:=Blocks ws l (2*bs) a∧∀ c,bs ∣ c→a≤c→c<ws.length→OrdAt l bs c
theorem xY (h:AllB ws l bs):TwoB ws l bs 0:=⟨⟨h.1,h.2.1,Nat.dvd_zero _,Nat.zero_le _,fun c _ q=>by omega⟩,fun c q _=>h.2.2 c q⟩
theorem pm {bs c:Nat}(h:2*bs ∣ c):bs ∣ c:=Nat.dvd_trans (Nat.dvd_mul_left _ _) h
theorem AM (h:TwoB ws l bs a) (h1:a+bs≤ws.length) (h0:0<bs):Ord kLt cz (seg l a (a+bs)):=by
  have:=h.2 a (pm h.1.2.2.1) (Nat.le_refl _) (by omega)
  unfold OrdAt at this
  rwa [show min (a+bs) l.length=a+bs by have:=h.1.1; omega] at this
theorem AI (h:TwoB ws l bs a) (h1:a+bs<ws.length) (he:e=min (a+bs+bs) ws.length):Ord kLt cz (seg l (a+bs) e):=by
  have:=h.2 (a+bs) (Nat.dvd_add (pm h.1.2.2.1) (Nat.dvd_refl _)) (by omega) h1
  unfold OrdAt at this
  rw [h.1.1] at this
  rw [he]; exact this
theorem yh {l l':List RecV}(hI:TwoB ws l bs a) (h0:0<bs) (h:a+2*bs≤ws.length) (hs:SortSeg l l' a (a+2*bs)):TwoB ws l' bs (a+2*bs):=
  ⟨wD hI.1 (by omega) h hs,fun c q1 q2 q3=>rX hs (.inr q2) (hI.2 c q1 (by omega) q3)⟩
theorem sP {l l':List RecV}(hI:TwoB ws l bs a) (h:ws.length<a+2*bs) (hs:SortSeg l l' a ws.length):AllB ws l' (2*bs):=wP hI.1 h hs
theorem zm (hI:TwoB ws l bs a) (h0:0<bs) (h:ws.length≤a+bs):AllB ws l (2*bs):=by
  have e:=hI.1.1
  refine sP hI (by omega) ?_
  by_cases ha:a<ws.length
  · have:=hI.2 a (pm hI.1.2.2.1) (Nat.le_refl _) ha
    unfold OrdAt at this
    rw [show min (a+bs) l.length=ws.length by omega] at this
    exact ji this
  · exact rE (by omega)
theorem z7 (h:AllB ws l bs) (h1:ws.length≤bs) (h0:0<ws.length):SortSeg ws l 0 ws.length:=by
  have:=h.2.2 0 (Nat.dvd_zero _) h0
  unfold OrdAt at this
  rw [show min (0+bs) l.length=ws.length by have:=h.1; omega] at this
  refine ⟨h.1,fun q hq=>?_,this,?_⟩
  · have h':=h.1
    rw [List.getD_eq_getElem?_getD,List.getD_eq_getElem?_getD,List.getElem?_eq_none (by omega),List.getElem?_eq_none (by omega)]
  · have e:∀ (x:List RecV),x.length=ws.length→seg x 0 ws.length=x:=fun x hx=>by unfold seg; rw [← hx,List.take_length,List.drop_zero]
    rw [e l h.1,e ws rfl]; exact h.2.1
theorem yE (h:SortSeg ws l 0 ws.length):Stable kLt cz ws l:=by
  have e:∀ (x:List RecV),x.length=ws.length→seg x 0 ws.length=x:=fun x hx=>by unfold seg; rw [← hx,List.take_length,List.drop_zero]
  have:=h.2.2; rw [e l h.1,e ws rfl] at this; exact this
end
end Go.Wk
namespace Go.Wk
open Rp (sz own)
def RdV (w:World) (ft:List Nat) (vs:List RecV):Prop:=∀ v∈vs,∃ f,own false w v.cs v.r f∧∀ b∈f,b∈ft
section
variable {w w':World}{ft f:List Nat}{vs us:List RecV}
theorem RdV.to (h:RdV w ft vs) (e:Ext No w w'):RdV w' ft vs:=fun v hv=>by
  obtain ⟨f,h1,h2⟩:=h v hv
  exact ⟨f,Rp.st h1 fun b hb=>e.block b (Rp.lt h1 b hb) id,h2⟩
theorem RdV.sub (h:RdV w ft vs) (hs:∀ v∈us,v∈vs):RdV w ft us:=fun v hv=>h v (hs v hv)
theorem RdV.nil:RdV w ft []:=fun v hv=>by simp at hv
theorem RdV.app (h:RdV w ft vs) (k:RdV w ft us):RdV w ft (vs++us):=fun v hv=>by
  rcases List.mem_append.1 hv with hv | hv
  · exact h v hv
  · exact k v hv
theorem RdV.at {k:Nat}(h:RdV w ft vs) (hk:k<vs.length):RdV w ft [vs.getD k default]:=fun v hv=>by
  rw [List.mem_singleton] at hv
  rw [hv,bE hk]
  exact h _ (List.getElem_mem _)
theorem rd:∀ {vs:List RecV}{cs f0},cq false w cs vs f0→RdV w ft vs→∃ f,cq false w cs (vs.map RecV.r) f∧∀ b∈f,b∈ft
  | [],_,_,h,_=>⟨[],rfl,by simp⟩
  | v::vs,cs,f0,⟨g1,g2,e0,⟨e1,eg,ok⟩,h2⟩,hr=>by
    obtain ⟨f1,k1,k2⟩:=hr v (by simp)
    obtain ⟨f2,r1,r2⟩:=rd h2 (hr.sub fun x hx=>by simp [hx])
    refine ⟨f1++f2,⟨f1,f2,rfl,?_,r1⟩,fun b hb=>?_⟩
    · rw [show cs.take (sz Rec)=v.cs from e1]; exact k1
    · rcases List.mem_append.1 hb with hb | hb
      · exact k2 b hb
      · exact r2 b hb
theorem zy {s:Bool}{ad n cap} {f0} (h:own s w [.slice ad n cap] vs f0) (hr:RdV w ft vs):∃ f,own false w [.slice ad n cap] (vs.map RecV.r) f∧∀ b∈f,b∈f0∨b∈ft:=by
  have el:(vs.map RecV.r).length=vs.length:=List.length_map _
  rcases aX h with ⟨hf,A,C,e,rfl,rfl⟩ | ⟨e,rfl,rfl⟩ | ⟨b,o,cap',cur,T,fr,fs,h1,h2,h3,h4,h5,h6,h7,h8⟩
  · exact ⟨[],.inl ⟨rfl,A,C,e,rfl,rfl⟩,by simp⟩
  · exact ⟨[],.inr (.inl ⟨e,rfl,rfl⟩),by simp⟩
  · obtain ⟨f1,k1,k2⟩:=rd h8 hr
    refine ⟨b::f1,.inr (.inr ⟨b,o,cap',cur,T,fr,f1,by rw [el]; exact h1,rfl,h3,h4,by rw [el]; exact h5,h6,h7,k1⟩),fun x hx=>?_⟩
    rcases List.mem_cons.1 hx with rfl | hx
    · left; rw [h2]; simp
    · exact .inr (k2 x hx)
theorem RdV.sees {v:RecV}(h:RdV w ft vs) (hv:v∈vs):v.r.Ok∧Sees w [.slice v.A6 v.r.Rows.length v.C6] v.r.Rows∧Sees w [.slice v.A7 v.r.Data.length v.C7] v.r.Data∧Sees w [.slice v.A8 v.r.Delta.length v.C8] v.r.Delta:=by
  obtain ⟨f,h1,_⟩:=h v hv
  obtain ⟨f6,f7,f8,_,ok,o6,o7,o8⟩:=zf h1
  exact ⟨ok,⟨_,o6⟩,⟨_,o7⟩,⟨_,o8⟩⟩
end
theorem zG {vs:List RecV}(h:Ord kLt cz vs):Ord kLt cS (vs.map RecV.r):=by
  induction h with
  | nil=>exact .nil
  | cons h1 h2 ih=>exact .cons (fun y hy=>by obtain ⟨v,hv,rfl⟩:=List.mem_map.1 hy; exact h1 v hv) ih
theorem zv {vs us:List RecV}(h:ce cz vs us):ce cS (vs.map RecV.r) (us.map RecV.r):=fun k=>by
  rw [List.filter_map,List.filter_map]
  exact congrArg (List.map RecV.r) (h k)
theorem t6 {vs us:List RecV}(h:Stable kLt cz vs us):Stable kLt cS (vs.map RecV.r) (us.map RecV.r):=⟨zG h.1,zv h.2⟩
theorem Ao {ys:List Rec}(x:Rec) (h:Ord kLt cS ys):∃ A B,ys=A++B∧(∀ y∈B,kLt (cS x) (cS y))∧∀ y∈A,¬ kLt (cS x) (cS y):=by
  induction h with
  | nil=>exact ⟨[],[],rfl,by simp,by simp⟩
  | cons h1 h2 ih=>
    rename_i y l
    by_cases c:kLt (cS x) (cS y)
    · refine ⟨[],y::l,rfl,fun z hz=>?_,by simp⟩
      rcases List.mem_cons.1 hz with rfl | hz
      · exact c
      · exact mX c (h1 z hz)
    · obtain ⟨A,B,e,hB,hA⟩:=ih
      refine ⟨y::A,B,by rw [e]; rfl,hB,fun z hz=>?_⟩
      rcases List.mem_cons.1 hz with rfl | hz
      · exact c
      · exact hA z hz
theorem tz (xs:List Rec) (x:Rec) (h:∃ ys,Stable kLt cS xs ys):∃ ys,Stable kLt cS (xs++[x]) ys:=by
  obtain ⟨ys,hy⟩:=h
  obtain ⟨A,B,rfl,hB,hA⟩:=Ao x hy.1
  exact ⟨_,fb jM hy hB hA⟩
theorem kO (xs:List Rec):∃ ys,Stable kLt cS xs ys:=by
  have:∀ (n:Nat),∃ ys,Stable kLt cS (xs.take n) ys:=fun n=>by
    induction n with
    | zero=>exact ⟨[],by simp; exact ⟨.nil,.refl⟩⟩
    | succ n ih=>
      by_cases hn:n<xs.length
      · rw [List.take_add_one,List.getElem?_eq_getElem hn]; exact tz _ _ ih
      · rw [List.take_of_length_le (by omega)] at ih ⊢; exact ih
  have:=this xs.length
  rwa [List.take_length] at this
noncomputable def BH (xs:List Rec):List Rec:=(kO xs).choose
theorem Ag {xs ys:List Rec}(h:Stable kLt cS xs ys):ys=BH xs:=lD jM h (kO xs).choose_spec
noncomputable def ddR (out:List Rec) (r:Rec):List Rec:=if r∈out then out else out++[r]
noncomputable def allR (z:Wld) (k:Nat):List Rec:=((z.Tapes.take k).map Tape.Recs).flatten
noncomputable def dds (rs:List Rec):List Rec:=rs.foldl ddR []
noncomputable def dI (z:Wld):List Rec:=BH (dds (allR z z.Tapes.length))
noncomputable def eJ (z:Wld) (k j:Nat):List Rec:=dds (allR z k++(z.Tapes.getD k default).Recs.take j)
theorem pL {z:Wld}:eJ z 0 0=[]:=by simp [eJ,allR,dds]
theorem en {z:Wld}{k j:Nat}(h:j<(z.Tapes.getD k default).Recs.length):eJ z k (j+1)=ddR (eJ z k j) ((z.Tapes.getD k default).Recs.getD j default):=by
  unfold eJ dds
  rw [List.take_add_one,List.getElem?_eq_getElem h,bE h,← List.append_assoc,List.foldl_append]
  rfl
theorem qe {z:Wld}{k:Nat}(h:k<z.Tapes.length):eJ z k (z.Tapes.getD k default).Recs.length=eJ z (k+1) 0:=by
  unfold eJ allR
  rw [List.take_length,List.take_add_one,List.getElem?_eq_getElem h,bE h,List.take_zero,List.append_nil,List.map_append,List.flatten_append]
  simp only [Option.toList_some,List.map_cons,List.map_nil,List.flatten_cons,List.flatten_nil,List.append_nil]
theorem rx {z:Wld}{ys:List Rec}(h:Stable kLt cS (eJ z z.Tapes.length 0) ys):ys=dI z:=by
  unfold dI
  rw [← Ag]
  unfold eJ at h
  simpa using h
theorem zA {out:List Rec}{r:Rec}(h:r∈out):ddR out r=out:=if_pos h
theorem py {out:List Rec}{r:Rec}(h:¬ r∈out):ddR out r=out++[r]:=if_neg h
theorem fv {xs ys:List Rec}(h:Stable kLt cS xs ys) (r:Rec):r∈ys↔r∈xs:=⟨fun q=>h.2.mem q,fun q=>h.2.symm.mem q⟩
theorem xu {z:Wld}:∀ {k j:Nat},(eJ z k j).length≤(allR z k).length+j:=by
  intro k j
  have key:∀ (rs out:List Rec),(rs.foldl ddR out).length≤out.length+rs.length:=by
    intro rs
    induction rs with
    | nil=>intro out; simp
    | cons r rs ih=>
      intro out
      have:=ih (ddR out r)
      have h2:(ddR out r).length≤out.length+1:=by unfold ddR; split<;>simp
      simp only [List.foldl_cons,List.length_cons]
      omega
  have:=key (allR z k++(z.Tapes.getD k default).Recs.take j) []
  unfold eJ dds
  simp only [List.length_nil,List.length_append,List.length_take] at this
  omega
def orI:List Int→Int
  | []=>0
  | x::xs=>if x=0 then orI xs else x
theorem yk:∀ {xs:List Int}{k:Nat},k<xs.length→(∀ i,i<k→xs.getD i 0=0)→xs.getD k 0≠0→orI xs=xs.getD k 0
  | [],k,h,_,_=>by simp at h
  | x::xs,0,_,_,h2=>if_neg h2
  | x::xs,k+1,h,h1,h2=>by
    have h0:x=0:=h1 0 (by omega)
    show (if x=0 then orI xs else x)=_
    rw [if_pos h0,yk (k:=k) (by simpa using h) (fun i hi=>h1 (i+1) (by omega)) h2]
    rfl
theorem AG:∀ {xs:List Int},(∀ i,i<xs.length→xs.getD i 0=0)→orI xs=0
  | [],_=>rfl
  | x::xs,h=>by
    have h0:x=0:=h 0 (by simp)
    show (if x=0 then orI xs else x)=_
    rw [if_pos h0]
    exact AG fun i hi=>h (i+1) (by simpa using hi)
theorem Bu {x y:Rec}:orI [gE x.Seq y.Seq,gE x.Kind y.Kind,gE x.Group y.Group]=cfR x y:=by
  unfold cfR orI orI orI orI
  by_cases a:gE x.Seq y.Seq=0<;>by_cases b:gE x.Kind y.Kind=0<;>by_cases c:gE x.Group y.Group=0<;>simp [a,b,c]
end Go.Wk
namespace Go.Wk
open Rp (sz own)
def jO (p:Rec→Bool) (rs:List Rec):Nat→Int
  | 0 => -1
  | k+1=>if p (rs.getD k default)=true then (k:Int) else jO p rs k
def rt (p:Rec→Bool) (rs:List Rec):Int:=jO p rs rs.length
section
variable {p:Rec→Bool}{rs:List Rec}{k:Nat}
theorem qE (h:p (rs.getD k default)=true):jO p rs (k+1)=k:=if_pos h
theorem rr (h:p (rs.getD k default)=false):jO p rs (k+1)=jO p rs k:=if_neg (by rw [h]; simp)
theorem rM (h:p (rs.getD k default)=true):∀ {n:Nat},k<n→(∀ j,k<j→j<n→p (rs.getD j default)=false)→jO p rs n=k
  | 0,h1,_=>by omega
  | n+1,h1,h2=>by
    by_cases e:n=k
    · subst e; exact qE h
    · rw [rr (h2 n (by omega) (by omega))]
      exact rM h (by omega) fun j a b=>h2 j a (by omega)
theorem yd (h1:k<rs.length) (h:p (rs.getD k default)=true) (h2:∀ j,k<j→j<rs.length→p (rs.getD j default)=false):rt p rs=k:=rM h h1 h2
end
end Go.Wk
namespace Go.Wk
open Rp (sz own)
section
variable {w w' w0:World}{ft f:List Nat}{vs us:List RecV}{M:Nat→Prop}{Δ F:List Rsc}
theorem RdV.back (h:RdV w' ft vs) (e:Ext No w w') (hl:∀ b∈ft,b<w.heap.size):RdV w ft vs:=fun v hv=>by
  obtain ⟨f,h1,h2⟩:=h v hv
  exact ⟨f,Rp.st h1 fun b hb=>(e.block b (hl b (h2 b hb)) id).symm,h2⟩
def InF {α:Type}[Rp α] (w:World) (ft:List Nat) (cs:List Value) (x:α):Prop:=∃ f,own false w cs x f∧∀ b∈f,b∈ft
theorem RdV.inAt {k:Nat}(h:RdV w ft vs) (hk:k<vs.length):InF w ft (vs.getD k default).cs (vs.getD k default).r:=h _ (by rw [bE hk]; exact List.getElem_mem _)
theorem InF.back {α:Type}[Rp α] {cs:List Value}{x:α}(h:InF w' ft cs x) (e:Ext No w w') (hl:∀ b∈ft,b<w.heap.size):InF w ft cs x:=by
  obtain ⟨f,h1,h2⟩:=h
  exact ⟨f,Rp.st h1 fun b hb=>(e.block b (hl b (h2 b hb)) id).symm,h2⟩
theorem InF.val {v:RecV}{x:Rec}(h:InF w ft v.cs v.r) (e:v.r=x):InF w ft (RecV.mk x v.A6 v.C6 v.A7 v.C7 v.A8 v.C8).cs x:=by subst e; exact h
theorem InF.rdv {v:RecV}(h:InF w ft v.cs v.r):RdV w ft [v]:=fun u hu=>by
  rw [List.mem_singleton] at hu; subst hu; exact h
theorem Mut.none {α:Type}[Rp α] {cs:List Value}{x:α}{fp:List Nat}(e:Ext No w w') (h:own true w cs x fp) (hn:fp.Nodup):Mut w w' fp cs x:=
  ⟨e.no,fp,Rp.st h fun b hb=>e.block b (Rp.lt h b hb) id,hn,fun b hb => .inl hb⟩
theorem uE:Stable kLt cz ([]:List RecV) []:=⟨.nil,.refl⟩
theorem RdV.stable (h:RdV w ft vs) (hs:Stable kLt cz vs us):RdV w ft us:=h.sub fun v hv=>hs.2.mem hv
theorem RdV.snoc {v:RecV}(h:RdV w ft vs) (hv:InF w ft v.cs v.r):RdV w ft (vs++[v]):=h.app hv.rdv
theorem RdV.list {s:Bool}{ad n cap} {f0:List Nat}(hr:RdV w ft vs) (h:own s w [.slice ad n cap] vs f0):Sees w [.slice ad n cap] (vs.map RecV.r):=by
  obtain ⟨f,h1,_⟩:=zy h hr
  exact ⟨f,h1⟩
end
theorem sf {a b:Int} : -1≤gE a b∧gE a b≤1:=by unfold gE; split<;>(try split)<;>omega
instance (a b:Int × Int × Int):Decidable (kLt a b):=by unfold kLt; infer_instance
instance:Flat RecV where
  flat h:=⟨h.2.1,fun _ _=>⟨h.1,rfl,h.2.2⟩⟩
theorem AP {xs:List Rec}{r:Rec}:xs.any (fun x=>decide (x=r))=decide (r∈xs):=by
  rw [Bool.eq_iff_iff]; simp
theorem zU {xs:List Rec}{r:Rec}{k:Nat}(h:k<xs.length) (e:xs.getD k default=r):true=decide (r∈xs):=by
  rw [eq_comm,decide_eq_true_eq,← e,bE h]; exact List.getElem_mem _
theorem AR {xs:List Rec}{r:Rec}(h:∀ i,i<xs.length→decide (xs.getD i default=r)=false):false=decide (r∈xs):=by
  rw [eq_comm,decide_eq_false_iff_not]
  intro hm
  obtain ⟨i,hi,e⟩:=List.getElem_of_mem hm
  have:=h i hi
  rw [decide_eq_false_iff_not,bE hi] at this
  exact this e
theorem bY {vs:List RecV}{rs:List Rec}(e:vs.map RecV.r=rs) {k:Nat}(hk:k<vs.length):(vs.getD k default).r=rs.getD k default:=by
  rw [← e,bE hk]; simp [List.getD,hk]
theorem Ai {z:Wld}{vs us:List RecV}(hm:vs.map RecV.r=eJ z z.Tapes.length 0) (hs:Stable kLt cz vs us):us.map RecV.r=dI z:=
  rx (by rw [← hm]; exact t6 hs)
theorem sQ {z:Wld}{B:Nat}(h:∀ k,(z.Tapes.getD k default).Recs.length≤B):∀ k,k≤z.Tapes.length→(allR z k).length≤k*B
  | 0,_=>by simp [allR]
  | k+1,hk=>by
    have ih:=sQ h k (by omega)
    have h1:=h k
    unfold allR at ih ⊢
    rw [List.take_add_one,List.getElem?_eq_getElem (by omega),List.map_append,List.flatten_append,List.length_append]
    simp only [Option.toList_some,List.map_cons,List.map_nil,List.flatten_cons,List.flatten_nil,List.append_nil]
    rw [← bE (by omega) (d:=default)]
    rw [Nat.add_mul]; omega
theorem mO {z:Wld}(hT:z.Tapes.length=2) (h:∀ k,(z.Tapes.getD k default).Recs.length≤200000) {k j:Nat}(hk:k≤2) (hj:j≤200000):(eJ z k j).length≤600000:=by
  have h1:=xu (z:=z) (k:=k) (j:=j)
  have h2:=sQ h k (by omega)
  omega
theorem jP {z:Wld}(hT:z.Tapes.length=2) (h:∀ k,(z.Tapes.getD k default).Recs.length≤200000):(dI z).length≤600000:=by
  have h1:=mO hT h (k:=2) (j:=0) (by omega) (by omega)
  have h2:Stable kLt cS (eJ z z.Tapes.length 0) (dI z):=by
    unfold dI eJ
    simp only [List.take_zero,List.append_nil]
    exact (kO _).choose_spec
  have:=h2.2.len
  rw [hT] at this
  omega
theorem mz {z:Wld}(h:dS z=0):∀ k,(z.Tapes.getD k default).Recs.length≤200000:=fun k=>by
  have hT:=(cI h).2.2.2.1
  obtain ⟨h1,h2⟩:=kV h
  by_cases e:k<2
  · have:k=0∨k=1:=by omega
    rcases this with rfl | rfl<;>omega
  · have:z.Tapes.getD k default=default:=by simp [List.getD,List.getElem?_eq_none (show z.Tapes.length≤k by omega)]
    rw [this]; exact Nat.zero_le _
end Go.Wk
namespace Go.Wk
section
variable {vs:List RecV}{r:Rec}{a:Nat}
theorem zQ {rs:List Rec}(h:Ord kLt cS rs):∀ {i q:Nat},i≤q→q<rs.length→¬ kLt (cS (rs.getD q default)) (cS (rs.getD i default)):=by
  induction h with
  | nil=>intro i q _ h; simp at h
  | cons h1 h2 ih=>
    rename_i y l
    intro i q hiq hq
    cases i with
    | zero=>
      cases q with
      | zero=>exact jM.irr _
      | succ q=>
        have hq':q<l.length:=by simpa using hq
        show ¬ kLt (cS (l.getD q default)) (cS y)
        rw [bE hq']
        exact h1 _ (List.getElem_mem _)
    | succ i=>
      cases q with
      | zero=>omega
      | succ q=>exact ih (by omega) (by simpa using hq)
theorem Bg {rs:List Rec}(ho:Ord kLt cS rs) (ha:a≤rs.length) (h:a=0∨¬ kLt (cS r) (cS (rs.getD (a-1) default))):∀ y∈rs.take a,¬ kLt (cS r) (cS y):=by
  intro y hy
  obtain ⟨i,hi,e⟩:=List.getElem_of_mem hy
  rw [List.length_take] at hi
  rw [List.getElem_take] at e
  rcases h with h | h
  · omega
  · intro hlt
    have h2:=zQ ho (i:=i) (q:=a-1) (by omega) (by omega)
    rw [bE (by omega:i<rs.length),e] at h2
    exact h (mX hlt h2)
theorem AU {rs:List Rec}(hB:∀ i,a≤i→i<rs.length→kLt (cS r) (cS (rs.getD i default))):∀ y∈rs.drop a,kLt (cS r) (cS y):=by
  intro y hy
  obtain ⟨i,hi,e⟩:=List.getElem_of_mem hy
  rw [List.length_drop] at hi
  rw [List.getElem_drop] at e
  have:=hB (a+i) (by omega) (by omega)
  rwa [bE (by omega),e] at this
theorem kM {xs rs:List Rec}(h:Stable kLt cS xs rs) (ha:a≤rs.length) (h1:a=0∨¬ kLt (cS r) (cS (rs.getD (a-1) default))) (hB:∀ i,a≤i→i<rs.length→kLt (cS r) (cS (rs.getD i default))) :
    Stable kLt cS (xs++[r]) (rs.take a++r::rs.drop a):=
  fb jM (by rw [List.take_append_drop]; exact h) (AU hB) (Bg h.1 ha h1)
theorem we {l h:Nat}:(cut vs l h).map RecV.r=cut (vs.map RecV.r) l h:=by unfold cut; rw [List.map_take,List.map_drop]
theorem ev {v:RecV}(e:v.r=r) (ha:a≤vs.length):(cut vs 0 a++[v]++cut vs a vs.length).map RecV.r=(vs.map RecV.r).take a++r::(vs.map RecV.r).drop a:=by
  rw [List.map_append,List.map_append,we,we]
  unfold cut
  rw [List.drop_zero,Nat.sub_zero,List.take_of_length_le (by simp:((vs.map RecV.r).drop a).length≤vs.length-a)]
  simp [e]
theorem cC {l h:Nat}:∀ v∈cut vs l h,v∈vs:=fun v hv=>by
  unfold cut at hv
  exact List.mem_of_mem_drop (List.mem_of_mem_take hv)
end
end Go.Wk
namespace Go.Wk
open Rp (sz own)
section
variable {P:Program}{n:Nat}{ops:Array Oper}{Q:Post}{L:Env}{w w0:World}{M:Nat→Prop}{Δ F:List Rsc}{d:Tmp}{ty:TypeId}{p:String}{af:Array Edge}{g:Option (Nat × Bool)}
theorem AX {l:Nat}{rl:List (Nat × Bool)}{S:World→Prop}{t e:TypeId}{parts:Array (Nat × Operand)}{z:Value}{bytes:Nat}(xs:List Int) (ho:ops.toList[l]? = some ⟨some d,.buildSlice t xs.length parts,ty,p,af,g⟩) (hw:Wn ops n L ⟨some d,.buildSlice t xs.length parts,ty,p,af,g⟩) (hn:Nat.blt d n=true) (ht:P.underlying t=some (.slice e)) (hT:Ty P e z 1 bytes)
    (hix:parts.toList.map (·.1)=List.range xs.length) (hv:ii L (parts.toList.map (·.2))=some (xs.map (Value.int .i64))) (hk:∀ x∈xs,I64ok x) (h0:0<xs.length) (hl:xs.length≤1000) (H:Sep M w0 Δ F w) (hS:∀ w',S w→Ext No w w'→S w')
    (k:∀ b w',Ext No w w'→w.heap.size≤b→Sep M w0 (Δ++[mine [.slice (some ⟨b,0,none⟩) xs.length xs.length] xs [b]]) F w'→DL P n ops Q S rl ((d,.slice (some ⟨b,0,none⟩) xs.length xs.length)::L) w') :
    DL P n ops Q S ((l,false)::rl) L w:=by
  have hparts:∀ a,Good n a L→(parts.map fun (i,x)=>(i,a.eval x)).toList=((xs.map (Value.int .i64)).zipIdx 0).map fun x=>(x.2,x.1):=fun a ha=>by
    have key:∀ (l:List (Nat × Operand)) (vs:List Value) (k:Nat),l.map (·.1)=List.range' k vs.length→ii L (l.map (·.2))=some vs→l.map (fun x=>(x.1,a.eval x.2))=(vs.zipIdx k).map fun x=>(x.2,x.1):=by
      intro l
      induction l with
      | nil=>intro vs k h1 h2; simp [ii] at h2; subst h2; rfl
      | cons x l ih=>
        intro vs k h1 h2
        simp only [List.map_cons] at h1 h2 ⊢
        unfold ii at h2
        split at h2
        · rename_i v us hv hus
          cases h2
          rw [List.length_cons,List.range'_succ] at h1
          simp only [List.cons.injEq] at h1
          rw [List.zipIdx_cons,List.map_cons,← ih us (k+1) h1.2 hus,ha.eval hv,h1.1]
        · cases h2
    rw [Array.toList_map]
    refine key parts.toList _ 0 ?_ hv
    rw [hix,List.length_map,List.range_eq_range']
  have hp:=vQ (n:=n) (w:=w) (ty:=ty) (p:=p) (af:=af) (g:=g) (d:=some d) (parts:=parts) (vs:=xs.map (Value.int .i64)) (len:=xs.length) ht hT (by omega) (by simp) hparts (by intro v hv; simp at hv; obtain ⟨x,_,rfl⟩:=hv; rfl) h0 (by omega)
  refine pB ho hw rfl hn hp (fun h _=>hS _ h (Ext.refl.alloc _)) (k _ _ (Ext.refl.alloc _) (Nat.le_refl _) ?_)
  refine H.add (Ext.refl.alloc _) (r:=Wk.mine [.slice (some ⟨w.heap.size,0,none⟩) xs.length xs.length] xs [w.heap.size]) (.inr (.inr ⟨w.heap.size,0,_,_,e,(0,0),[],rfl,rfl,heap_alloc_new w _,fun _=>rfl,Nat.le_refl _,by unfold maxLen; omega,?_,?_⟩)) (by simp [Wk.mine]) (by simp [Wk.mine])
  · have:∀ l:List Int,(l.map (Value.int .i64)).flatMap (fun v=>v.cells.toList)=l.map (Value.int .i64):=by
      intro l; induction l with
      | nil=>rfl
      | cons x l ih=>simp only [List.map_cons,List.flatMap_cons,ih]; rfl
    simp [this,sz]
  · have:∀ l:List Int,(l.map (Value.int .i64)).flatMap (fun v=>v.cells.toList)=l.map (Value.int .i64):=by
      intro l; induction l with
      | nil=>rfl
      | cons x l ih=>simp only [List.map_cons,List.flatMap_cons,ih]; rfl
    simp only [this,List.drop_zero]
    exact tG hk
end
end Go.Wk
namespace Go.Wk
open Rp (sz own)
section
variable {z:Wld}{r:Rec}{g row:Int}
theorem yS {r:Rec}:∀ {rs out:List Rec},r∈rs.foldl ddR out→r∈out∨r∈rs
  | [],_,h => .inl h
  | x::rs,out,h=>by
    rcases yS (rs:=rs) h with h | h
    · unfold ddR at h
      split at h
      · exact .inl h
      · rcases List.mem_append.1 h with h | h
        · exact .inl h
        · exact .inr (by rw [List.mem_singleton] at h; simp [h])
    · exact .inr (List.mem_cons_of_mem _ h)
theorem ue:Stable kLt cS (dds (allR z z.Tapes.length)) (dI z):=(kO _).choose_spec
theorem sd (h:r∈dI z):∃ k j,k<z.Tapes.length∧j<(z.Tapes.getD k default).Recs.length∧(z.Tapes.getD k default).Recs.getD j default=r:=by
  have h1:r∈dds (allR z z.Tapes.length):=ue.2.mem h
  rcases yS h1 with h2 | h2
  · cases h2
  · unfold allR at h2
    rw [List.take_length] at h2
    obtain ⟨l,hl,hr⟩:=List.mem_flatten.1 h2
    obtain ⟨t,ht,rfl⟩:=List.mem_map.1 hl
    obtain ⟨k,hk,e⟩:=List.getElem_of_mem ht
    obtain ⟨j,hj,e2⟩:=List.getElem_of_mem hr
    have e3:z.Tapes.getD k default=t:=by rw [bE hk]; exact e
    exact ⟨k,j,hk,by rw [e3]; exact hj,by rw [e3,bE hj]; exact e2⟩
theorem Bh (h:r∈dI z):ca r≤dj z:=by
  obtain ⟨k,j,hk,hj,e⟩:=sd h
  have h1:=(cL (f:=cl) (Nat.le_refl _) k hk).1
  have h2:=(cL (f:=ca) (Nat.le_refl _) j hj).1
  rw [e] at h2
  have h3:cl (z.Tapes.getD k default)=szL ca (z.Tapes.getD k default).Recs:=rfl
  unfold dj
  omega
end
end Go.Wk
namespace Go.Wk
open Rp (sz own)
section
variable {z:Wld}{r:Rec}{g row:Int}{k j:Nat}
theorem yo (h:dS z=0) (hr:r∈dI z):fL z.Shape r=0:=by
  obtain ⟨k,j,hk,hj,e⟩:=sd hr
  have ht:=(cI h).2.2.2.2
  rcases Decidable.em (fL z.Shape r=0) with c | c
  · exact c
  · exfalso
    have h0:cZ z.Shape z.Tapes z.Tapes.length=0:=by
      unfold eB at ht
      split at ht
      · cases ht
      · split at ht
        · next c2=>exact absurd ht c2
        · omega
    have hk0:cZ z.Shape z.Tapes (k+1)=0:=by
      rcases Decidable.em (cZ z.Shape z.Tapes (k+1)=0) with c2 | c2
      · exact c2
      · rw [il c2 _ hk] at h0; exact absurd h0 c2
    have hk1:cZ z.Shape z.Tapes k=0:=by
      rcases Decidable.em (cZ z.Shape z.Tapes k=0) with c2 | c2
      · exact c2
      · rw [il c2 _ (Nat.le_succ k)] at hk0; exact absurd hk0 c2
    rw [gg hk1] at hk0
    have hj0:dv z.Shape (z.Tapes.getD k default).Recs (j+1)=0:=by
      rcases Decidable.em (dv z.Shape (z.Tapes.getD k default).Recs (j+1)=0) with c2 | c2
      · exact c2
      · rw [hZ c2 _ hj] at hk0; exact absurd hk0 c2
    have hj1:dv z.Shape (z.Tapes.getD k default).Recs j=0:=by
      rcases Decidable.em (dv z.Shape (z.Tapes.getD k default).Recs j=0) with c2 | c2
      · exact c2
      · rw [hZ c2 _ (Nat.le_succ j)] at hj0; exact absurd hj0 c2
    rw [gd hj1,e] at hj0
    exact c hj0
end
end Go.Wk

namespace Go.Wk
open Rp (sz own)
section
variable {α:Type}[Inhabited α] {f:α→Nat}{xs:List α}{y:α}{i:Nat}
theorem yx (h:i<xs.length):mkL f (xs.set i y)+f (xs.getD i default)=mkL f xs+f y:=by
  unfold mkL
  rw [List.length_set]
  have e1:bv (fun j=>f ((xs.set i y).getD j default)+(if j=i then f (xs.getD i default) else 0)) xs.length=bv (fun j=>f (xs.getD j default)+(if j=i then f y else 0)) xs.length:=
    lP fun j hj=>by
      rw [dm]
      by_cases e:j=i
      · subst e; rw [if_pos ⟨rfl,h⟩,if_pos rfl,if_pos rfl]; omega
      · rw [if_neg (fun q=>e q.1),if_neg e,if_neg e]
  rw [nE,nE,po,po,if_pos h,if_pos h] at e1
  exact e1
end
def sx (z:Wld) (r:Rec):Int:=if dq z=true then 2 else if ly z r=true then 0 else 9
def oJ (z:Wld) (r:Rec):Wld:=if dq z=true then z else kA z r
section
variable {z:Wld}{r:Rec}{rs:List Rec}{t:Nat}
theorem Al:sx z r=0∨sx z r=2∨sx z r=9:=by
  unfold sx; split
  · exact .inr (.inl rfl)
  · split
    · exact .inl rfl
    · exact .inr (.inr rfl)
theorem gV (h:dq z=true):sx z r=2∧oJ z r=z:=⟨if_pos h,if_pos h⟩
theorem jk (h:dq z=false):sx z r=(if ly z r=true then 0 else 9)∧oJ z r=kA z r:=⟨if_neg (by simp [h]),if_neg (by simp [h])⟩
theorem wu (h:t<z.Tapes.length):cj (eY t r z)≤cj z+bO r:=by
  unfold eY qL; split
  · have:=yV (z:=z); omega
  · have h1:=yx (f:=cA) (xs:=z.Tapes) (i:=t) (y:=⟨false,(z.Tapes.getD t default).Recs++[r]⟩) h
    have h3:cA ⟨false,(z.Tapes.getD t default).Recs++[r]⟩=cA (z.Tapes.getD t default)+bO r:=by
      unfold cA; dsimp only; rw [zt]; omega
    unfold cj ls lm; dsimp only; omega
theorem AE (h:z.Tapes.length=2):cj (kA z r)≤cj z+2*bO r:=by
  unfold kA; split
  · have:=yV (z:=z); omega
  · have h1:=wu (t:=0) (r:=r) (z:=z) (by omega)
    have h2:=wu (t:=1) (r:=r) (z:=eY 0 r z) (by rw [ij]; omega)
    omega
theorem vN:(kA z r).Tapes.length=z.Tapes.length:=by
  unfold kA; split
  · rfl
  · rw [ij,ij]
theorem sY:z.Writes≤(kA z r).Writes∧(kA z r).Writes≤z.Writes+2:=by
  unfold kA; split
  · show z.Writes≤z.Writes∧z.Writes≤z.Writes+2; omega
  · have h1:=gq (t:=0) (r:=r) (z:=z)
    have h2:=gq (t:=1) (r:=r) (z:=eY 0 r z)
    omega
theorem yO (h:z.Ok) (h2:z.Writes≤1500000000):(kA z r).Ok:=by
  unfold kA; split
  · exact oZ h
  · have:=gq (t:=0) (r:=r) (z:=z)
    exact ww (ww h (by omega)) (by omega)
theorem vX (hT:z.Tapes.length=2):(oJ z r).Tapes.length=2∧(oJ z r).Writes≤z.Writes+2∧z.Writes≤(oJ z r).Writes∧cj (oJ z r)≤cj z+2*bO r:=by
  unfold oJ; split
  · exact ⟨hT,by omega,by omega,by omega⟩
  · have h1:=sY (z:=z) (r:=r)
    exact ⟨by rw [vN,hT],by omega,by omega,AE hT⟩
theorem zH (h:z.Ok) (h2:z.Writes≤1500000000):(oJ z r).Ok:=by
  unfold oJ; split
  · exact h
  · exact yO h h2
end
end Go.Wk
namespace Go.Wk
section
variable {z:Wld}{r:Rec}
theorem pR:wq z 1=dq z:=rfl
end
end Go.Wk
namespace Go.Wk
open Rp (sz own)
def itP (nm:ByteArray) (x:Rec):Bool:=decide (x.Kind=1) && (x.Name.toList == nm.toList)
def qg (xs:List Rec):Int:=(xs.getD (xs.length-1) default).Seq
section
variable {z:Wld}{s:Shape}{r:Rec}{xs:List Rec}{a j k n:Nat}{q g:Int}
theorem tx {p:Rec→Bool}(h:a<xs.length) (hp:p (xs.getD a default)=true):(xs.drop (a+1)).any p = !decide (rt p xs=(a:Int)):=by
  by_cases e:(xs.drop (a+1)).any p=true
  · rw [e]
    obtain ⟨x,hx,hpx⟩:=List.any_eq_true.1 e
    obtain ⟨i,hi,ei⟩:=List.getElem_of_mem hx
    rw [List.length_drop] at hi
    rw [List.getElem_drop] at ei
    rw [decide_eq_false]
    · rfl
    intro e2
    have h3:p (xs.getD (a+1+i) default)=true:=by rw [bE (by omega),ei]; exact hpx
    have h4:∀ {n},a+1+i<n→(a+1+i:Int)≤jO p xs n:=by
      intro n
      induction n with
      | zero=>intro q; omega
      | succ n ih=>
        intro q
        rw [jO]
        split
        · omega
        · next c=>
          by_cases e5:n=a+1+i
          · subst e5; exact absurd h3 c
          · exact ih (by omega)
    have h5:=h4 (n:=xs.length) (by omega)
    unfold rt at e2
    omega
  · rw [Bool.not_eq_true] at e
    rw [e,decide_eq_true]
    · rfl
    refine yd h hp fun i h1 h2=>?_
    rw [List.any_eq_false] at e
    have:=e (xs.getD i default) (by
      rw [bE h2]
      have:xs[i]=(xs.drop (a+1))[i-(a+1)]'(by rw [List.length_drop]; omega):=by rw [List.getElem_drop]; congr 1; omega
      rw [this]; exact List.getElem_mem _)
    simpa using this
end
section
variable {α K:Type}{lt:K→K→Prop}{key:α→K}
theorem Ord.at [Inhabited α] {xs:List α}(h:Ord lt key xs):∀ {i j:Nat},i<j→j<xs.length→¬ lt (key (xs.getD j default)) (key (xs.getD i default)):=by
  induction h with
  | nil=>intro i j _ h; simp at h
  | cons h1 h2 ih=>
    intro i j hij hj
    obtain ⟨j,rfl⟩:∃ k,j=k+1:=⟨j-1,by omega⟩
    rw [List.length_cons] at hj
    rcases Nat.eq_zero_or_pos i with e | e
    · subst e
      rw [List.getD_cons_succ,List.getD_cons_zero,bE (by omega)]
      exact h1 _ (List.getElem_mem _)
    · obtain ⟨i,rfl⟩:∃ k,i=k+1:=⟨i-1,by omega⟩
      rw [List.getD_cons_succ,List.getD_cons_succ]
      exact ih (by omega) (by omega)
end
end Go.Wk
namespace Go.Wk
structure Way where
  n:Nat
  hs:List Int
  x:Int
  g:List UInt8
  m:Mat
  steps:List (Mat × Nat)
  w:List UInt8
end Go.Wk
namespace Go.Wk
open Rp (sz own)
def AllR (P:Rec→Prop) (z:Wld):Prop:=∀ t∈z.Tapes,∀ r∈t.Recs,P r
section
variable {z:Wld}{r:Rec}{P:Rec→Prop}{t:Nat}
theorem AllR.cnt (h:AllR P z) (hr:r∈dI z):P r:=by
  obtain ⟨k,j,hk,hj,e⟩:=sd hr
  refine h (z.Tapes.getD k default) (by rw [bE hk]; exact List.getElem_mem _) r ?_
  rw [← e,bE hj]; exact List.getElem_mem _
theorem AllR.imp {Q:Rec→Prop}(h:AllR P z) (k:∀ r,P r→Q r):AllR Q z:=fun t ht r hr=>k r (h t ht r hr)
theorem vA (h:dS z=0):AllR (fun r=>fL z.Shape r=0) z:=fun t ht q hq=>by
  obtain ⟨k,hk,e1⟩:=List.getElem_of_mem ht
  obtain ⟨j,hj,e2⟩:=List.getElem_of_mem hq
  have e3:z.Tapes.getD k default=t:=by rw [bE hk]; exact e1
  have e:(z.Tapes.getD k default).Recs.getD j default=q:=by rw [e3,bE hj]; exact e2
  have hj':j<(z.Tapes.getD k default).Recs.length:=by rw [e3]; exact hj
  have hT:=(cI h).2.2.2.2
  have h0:cZ z.Shape z.Tapes z.Tapes.length=0:=by
    unfold eB at hT
    split at hT
    · cases hT
    · split at hT
      · next c2=>exact absurd hT c2
      · omega
  have hk0:cZ z.Shape z.Tapes (k+1)=0:=by
    rcases Decidable.em (cZ z.Shape z.Tapes (k+1)=0) with c2 | c2
    · exact c2
    · rw [il c2 _ hk] at h0; exact absurd h0 c2
  have hk1:cZ z.Shape z.Tapes k=0:=by
    rcases Decidable.em (cZ z.Shape z.Tapes k=0) with c2 | c2
    · exact c2
    · rw [il c2 _ (Nat.le_succ k)] at hk0; exact absurd hk0 c2
  rw [gg hk1] at hk0
  have hj0:dv z.Shape (z.Tapes.getD k default).Recs (j+1)=0:=by
    rcases Decidable.em (dv z.Shape (z.Tapes.getD k default).Recs (j+1)=0) with c2 | c2
    · exact c2
    · rw [hZ c2 _ hj'] at hk0; exact absurd hk0 c2
  have hj1:dv z.Shape (z.Tapes.getD k default).Recs j=0:=by
    rcases Decidable.em (dv z.Shape (z.Tapes.getD k default).Recs j=0) with c2 | c2
    · exact c2
    · rw [hZ c2 _ (Nat.le_succ j)] at hj0; exact absurd hj0 c2
  rw [gd hj1,e] at hj0
  exact hj0
def SeqOK (z:Wld):Prop:=AllR (fun r=>0≤r.Seq∧r.Seq≤1000000000) z
theorem xT {s:Shape}(h:fL s r=0):1≤r.Seq∧r.Seq≤1000000000:=by
  by_cases hk:ins r.Kind 1 4=true
  · by_cases hq:ins r.Seq 1 1000000000=true
    · exact cF.1 hq
    · rw [qu hk (by simpa using hq)] at h; exact absurd h (by omega)
  · rw [of (by simpa using hk)] at h; exact absurd h (by omega)
theorem gu (h:dS z=0):SeqOK z:=(vA h).imp fun r hr=>by have:=xT hr; omega
noncomputable def nxQ (z:Wld):Int:=qg (dI z)+1
theorem se (h:SeqOK z):1≤nxQ z∧nxQ z≤1000000001:=by
  unfold nxQ qg
  by_cases c:(dI z).length=0
  · rw [List.eq_nil_of_length_eq_zero c]
    show 1≤(0:Int)+1∧(0:Int)+1≤1000000001
    omega
  · have hm:(dI z).getD ((dI z).length-1) default∈dI z:=by rw [bE (by omega)]; exact List.getElem_mem _
    have:=AllR.cnt h hm
    omega
def nS (r:Rec) (q:Int):Rec:=⟨r.Kind,q,r.Name,r.Length,r.Group,r.Row,r.Rows,r.Data,r.Delta⟩
noncomputable def nxC (z:Wld) (r:Rec):Int:=if 1000000000<nxQ z then 2 else sx z (nS r (nxQ z))
noncomputable def nxZ (z:Wld) (r:Rec):Wld:=if 1000000000<nxQ z then z else oJ z (nS r (nxQ z))
theorem kP (h:1000000000<nxQ z):nxC z r=2∧nxZ z r=z:=⟨if_pos h,if_pos h⟩
theorem lx (h:¬ 1000000000<nxQ z):nxC z r=sx z (nS r (nxQ z))∧nxZ z r=oJ z (nS r (nxQ z)):=⟨if_neg h,if_neg h⟩
theorem AO:nxC z r=0∨nxC z r=2∨nxC z r=9:=by
  unfold nxC; split
  · exact .inr (.inl rfl)
  · exact Al
theorem Ak {q:Int}:bO (nS r q)=bO r:=rfl
theorem wt {q:Int}(h:r.Ok) (hq:I64ok q):(nS r q).Ok:=⟨h.1,hq,h.2.2⟩
theorem xj (hT:z.Tapes.length=2):(nxZ z r).Tapes.length=2∧(nxZ z r).Writes≤z.Writes+2∧z.Writes≤(nxZ z r).Writes∧cj (nxZ z r)≤cj z+2*bO r:=by
  unfold nxZ; split
  · exact ⟨hT,by omega,by omega,by omega⟩
  · have h:=vX (r:=nS r (nxQ z)) hT
    rw [Ak] at h
    exact h
theorem Ba (h:z.Ok) (h2:z.Writes≤1500000000):(nxZ z r).Ok:=by
  unfold nxZ; split
  · exact h
  · exact zH h h2
end
def p4 (c:Int) (y:Wld):WldResult:=if c=0∨c=9 then ⟨c,y⟩ else ⟨c,noWld⟩
section
variable {c:Int}{y:Wld}{n:Nat}
theorem zi (h:c=0∨c=9):p4 c y=⟨c,y⟩:=if_pos h
theorem zN (h:c≠0∧c≠9):p4 c y=⟨c,noWld⟩:=if_neg (fun q=>by omega)
theorem Aj (h:cj y≤n):cj (p4 c y).Wd≤n:=by
  have h0:cj noWld=0:=rfl
  unfold p4; split
  · exact h
  · show cj noWld≤_; omega
theorem As (h:y.Ok) (hc:0≤c∧c≤100):(p4 c y).Ok:=by
  unfold p4; split
  · exact ⟨by show I64ok c; unfold I64ok; omega,h⟩
  · exact ⟨by show I64ok c; unfold I64ok; omega,mw⟩
end
def jW (z:Wld) (a c:Int) (y:Wld):WldResult:=if upF z=0 then if a=0 then p4 c y else ⟨a,noWld⟩ else ⟨upF z,noWld⟩
section
variable {z y:Wld}{a c:Int}{n:Nat}
theorem m0 (h:upF z≠0):jW z a c y=⟨upF z,noWld⟩:=if_neg h
theorem qb (h:upF z=0) (h2:a≠0):jW z a c y=⟨a,noWld⟩:=by rw [jW,if_pos h,if_neg h2]
theorem wj (h:upF z=0) (h2:a=0) (h3:c≠0∧c≠9):jW z a c y=⟨c,noWld⟩:=by rw [jW,if_pos h,if_pos h2,zN h3]
theorem wH (h:upF z=0) (h2:a=0) (h3:c=0∨c=9):jW z a c y=⟨c,y⟩:=by rw [jW,if_pos h,if_pos h2,zi h3]
theorem z2 (h:upF z=0→a=0→cj y≤n):cj (jW z a c y).Wd≤n:=by
  have h0:cj noWld=0:=rfl
  unfold jW
  split
  · next h1=>
    split
    · next h2=>exact Aj (h h1 h2)
    · show cj noWld≤_; omega
  · show cj noWld≤_; omega
theorem Ap (ha:0≤a∧a≤100) (hc:0≤c∧c≤100) (h:upF z=0→a=0→y.Ok):(jW z a c y).Ok:=by
  have h1:=nK (z:=z)
  unfold jW
  split
  · next h1=>
    split
    · next h2=>exact As (h h1 h2) hc
    · exact ⟨by show I64ok a; unfold I64ok; omega,mw⟩
  · exact ⟨by show I64ok (upF z); unfold I64ok; omega,mw⟩
end
end Go.Wk
namespace Go.Wk
noncomputable def nsV (z:Wld):Int:=if 1000000000<nxQ z then 0 else nxQ z
noncomputable def nsC (z:Wld):Int:=if 1000000000<nxQ z then 2 else 0
section
variable {z:Wld}{vs:List RecV}
theorem ru (h:vs.length=0):qg (vs.map RecV.r)=0:=by
  rw [List.eq_nil_of_length_eq_zero h]; rfl
theorem wz:qg (vs.map RecV.r)=(vs.getD (vs.length-1) default).r.Seq:=by
  unfold qg
  rw [List.length_map]
  by_cases h:vs.length=0
  · rw [List.eq_nil_of_length_eq_zero h]; rfl
  · rw [bY rfl (by omega)]
theorem Bi (hM:vs.map RecV.r=dI z) (_:0<vs.length):nxQ z=(vs.getD (vs.length-1) default).r.Seq+1:=by
  unfold nxQ; rw [← hM,wz]
theorem tA (hM:vs.map RecV.r=dI z) (h:vs.length=0):nxQ z=1:=by
  unfold nxQ; rw [← hM,ru h]; rfl
end
end Go.Wk

namespace Go.Wk
open Rp (sz own)
open Go.MapKept (IsKey sameNow_of_keys)
def iT (p:RecV × Nat):MapEntry:=⟨.string p.1.r.Name,.agg p.1.cs.toArray,p.2⟩
def fD (ps:List (RecV × Nat)):Array MapEntry:=(ps.map iT).toArray
def fO (v:RecV) (c:Nat):List (RecV × Nat)→List (RecV × Nat)
  | []=>[(v,c)]
  | p::ps=>if p.1.r.Name=v.r.Name then (v,p.2)::ps else p::fO v c ps
def gc (nm:ByteArray) (ps:List (RecV × Nat)):Bool:=ps.any fun p=>decide (p.1.r.Name=nm)
theorem yD {nm:ByteArray}:∀ (ps:List (RecV × Nat)) (i:Nat),
    (Instr.findNow .string (.string nm) (ps.map iT) i=some none∧gc nm ps=false) ∨
    ∃ j p,Instr.findNow .string (.string nm) (ps.map iT) i=some (some (i+j,(iT p).val))∧ps[j]? = some p∧gc nm ps=true∧p.1.r.Name=nm∧∀ v c,v.r.Name=nm→fO v c ps=ps.set j (v,p.2)
  | [],i => .inl ⟨rfl,rfl⟩
  | p::ps,i=>by
    obtain ⟨r,hr,hiff⟩:=sameNow_of_keys (d := .string) (a := .string nm) (b := .string p.1.r.Name) trivial trivial
    by_cases e:p.1.r.Name=nm
    · have hr1:r=true:=hiff.2 (by rw [e])
      subst hr1
      refine .inr ⟨0,p,?_,rfl,by simp [gc,e],e,fun v c hv=>by rw [fO,if_pos (by rw [e,hv])]; rfl⟩
      have hr':Instr.sameNow .string (.string nm) (iT p).key=some true:=hr
      simp only [List.map_cons,Instr.findNow,hr',Nat.add_zero]
    · have hr1:r=false:=by
        cases hq:r with
        | false=>rfl
        | true=>have:=hiff.1 hq; simp only [Value.string.injEq] at this; exact absurd this.symm e
      subst hr1
      have hr':Instr.sameNow .string (.string nm) (iT p).key=some false:=hr
      have hh:gc nm (p::ps)=gc nm ps:=by simp [gc,e]
      rcases yD (nm:=nm) ps (i+1) with ⟨h1,h2⟩ | ⟨j,q,h1,h2,h3,h4,h5⟩
      · exact .inl ⟨by simp only [List.map_cons,Instr.findNow,hr',h1],by rw [hh,h2]⟩
      · refine .inr ⟨j+1,q,by simp only [List.map_cons,Instr.findNow,hr',h1]; congr 3; omega,by simpa using h2,by rw [hh,h3],h4,fun v c hv=>?_⟩
        rw [fO,if_neg (by rw [hv]; exact e),h5 v c hv]; rfl
theorem pJ {v:RecV}{c:Nat}:∀ {ps:List (RecV × Nat)},gc v.r.Name ps=false→fO v c ps=ps++[(v,c)]
  | [],_=>rfl
  | p::ps,h=>by
    simp only [gc,List.any_cons,Bool.or_eq_false_iff,decide_eq_false_iff_not] at h
    rw [fO,if_neg h.1,pJ (by simpa [gc] using h.2)]; rfl
section
variable {P:Program}{w:World}{r c:Nat}{ps:List (RecV × Nat)}{mty kt et:TypeId}{v:RecV}
theorem Ab (hm:P.underlying mty=some (.map kt et)) (hk:P.underlying kt=some .string) (hb:w.heap[r]? = some (.map (fD ps) c)) :
    ∃ c',c≤c'∧(gc v.r.Name ps=false→c<c')∧(Instr.mapUpdate mty (.map (some r)) (.string v.r.Name) (.agg v.cs.toArray)).run P w = .ok () (put w r (.map (fD (fO v c ps)) c')):=by
  have hK:IsKey .string (.string v.r.Name):=trivial
  have hl:(fD ps).toList=ps.map iT:=by simp [fD]
  rcases yD (nm:=v.r.Name) ps 0 with ⟨h1,h2⟩ | ⟨j,p,h1,h2,h3,h4,h5⟩
  · refine ⟨c+1,by omega,(fun _=>by omega),?_⟩
    rw [← hl] at h1
    have e:(fD ps).push ⟨.string v.r.Name,.agg v.cs.toArray,c⟩=fD (fO v c ps):=by
      rw [pJ h2]; unfold fD; rw [List.map_append]; simp [iT]
    simp [Instr.mapUpdate,run_underlying hm,Go.MapKept.run_getObj_map hb,Go.MapKept.run_checkKey hk hK,Go.MapKept.run_findKey hk h1,Go.MapKept.run_setObj_map _ hb,Result.andThen]
    rw [e]; rfl
  · refine ⟨c,Nat.le_refl _,(fun h=>by rw [h3] at h; cases h),?_⟩
    rw [← hl] at h1
    have hj:(fD ps)[j]? = some (iT p):=by rw [← Array.getElem?_toList,hl,List.getElem?_map,h2]; rfl
    have e:(fD ps).modify j (fun e=>{ e with key := .string v.r.Name,val := .agg v.cs.toArray })=fD (fO v c ps):=by
      rw [h5 v c rfl]
      apply Array.toList_inj.1
      rw [Array.toList_modify,hl]
      show (ps.map iT).modify j _=(List.map iT (ps.set j (v,p.2))).toArray.toList
      rw [List.map_set]
      apply List.ext_getElem?
      intro q
      rw [List.getElem?_modify,List.getElem?_set]
      by_cases e:j=q
      · subst e
        rw [List.getElem?_map,h2,if_pos rfl]
        have hlt:j<(ps.map iT).length:=by rw [List.length_map]; exact (List.getElem?_eq_some_iff.1 h2).1
        rw [if_pos hlt]
        simp [iT]
      · simp [e]
    have hkt:(iT p).key = .string v.r.Name:=by show Value.string p.1.r.Name=_; rw [h4]
    simp [Instr.mapUpdate,run_underlying hm,Go.MapKept.run_getObj_map hb,Go.MapKept.run_checkKey hk hK,Go.MapKept.run_findKey hk h1,hj,hkt,Go.MapKept.run_keyThatStays hK,Go.MapKept.run_setObj_map _ hb,Result.andThen]
    rw [← e]
    rfl
end
structure MapOK (ps:List (RecV × Nat)) (c:Nat):Prop where
  names:(ps.map fun p=>p.1.r.Name).Nodup
  stamps:(ps.map Prod.snd).Nodup
  lt:∀ p∈ps,p.2<c
theorem pK {v:RecV}{c:Nat}:∀ {ps:List (RecV × Nat)},gc v.r.Name ps=true→(fO v c ps).map (fun p=>p.1.r.Name)=ps.map fun p=>p.1.r.Name
  | [],h=>by cases h
  | p::ps,h=>by
    rw [fO]
    split
    · next e=>simp [e]
    · next e=>rw [List.map_cons,pK (by simpa [gc,e] using h)]; rfl
theorem kp {v:RecV}{c:Nat}:∀ {ps:List (RecV × Nat)},gc v.r.Name ps=true→(fO v c ps).map Prod.snd=ps.map Prod.snd
  | [],h=>by cases h
  | p::ps,h=>by
    rw [fO]
    split
    · rfl
    · next e=>rw [List.map_cons,kp (by simpa [gc,e] using h)]; rfl
theorem Az {nm:ByteArray}{ps:List (RecV × Nat)}(h:gc nm ps=false):nm ∉ ps.map fun p=>p.1.r.Name:=fun hm=>by
  obtain ⟨p,hp,e⟩:=List.mem_map.1 hm
  have:gc nm ps=true:=by rw [gc,List.any_eq_true]; exact ⟨p,hp,by simp [e]⟩
  rw [h] at this; cases this
theorem iv {α:Type}{l:List α}{x:α}(h:l.Nodup) (hx:x ∉ l):(l++[x]).Nodup:=
  List.nodup_append.2 ⟨h,by simp,fun a ha b hb e=>by rw [List.mem_singleton] at hb; subst hb; subst e; exact hx ha⟩
theorem MapOK.upd {ps:List (RecV × Nat)}{c c':Nat}{v:RecV}(h:MapOK ps c) (h1:c≤c') (h2:gc v.r.Name ps=false→c<c'):MapOK (fO v c ps) c':=by
  cases hv:gc v.r.Name ps with
  | false=>
    have hc:=h2 hv
    rw [pJ hv]
    refine ⟨by rw [List.map_append]; exact iv h.names (Az hv),by
      rw [List.map_append]
      refine iv h.stamps fun hm=>?_
      obtain ⟨p,hp,e⟩:=List.mem_map.1 hm
      have:=h.lt p hp
      have e':p.2=c:=e
      omega,fun p hp=>?_⟩
    rcases List.mem_append.1 hp with hp | hp
    · have:=h.lt p hp; omega
    · rw [List.mem_singleton] at hp; subst hp; exact hc
  | true=>
    refine ⟨by rw [pK hv]; exact h.names,by rw [kp hv]; exact h.stamps,fun p hp=>?_⟩
    have:p.2∈(fO v c ps).map Prod.snd:=List.mem_map_of_mem hp
    rw [kp hv] at this
    obtain ⟨q,hq,e⟩:=List.mem_map.1 this
    have:=h.lt q hq
    omega
theorem MapOK.nil:MapOK [] 0:=⟨.nil,.nil,fun p hp=>by cases hp⟩
theorem jT {α β:Type}{f:α→β}{l:List α}(h:(l.map f).Nodup):l.Nodup:=List.Pairwise.of_map f (fun _ _ hne e=>hne (by rw [e])) h
theorem MapOK.nodup {ps:List (RecV × Nat)}{c:Nat}(h:MapOK ps c):ps.Nodup:=jT h.stamps
theorem MapOK.inj {ps:List (RecV × Nat)}{c:Nat}(h:MapOK ps c) {p q:RecV × Nat}(hp:p∈ps) (hq:q∈ps) (e:p.2=q.2):p=q:=by
  have key:∀ {l:List (RecV × Nat)},(l.map Prod.snd).Nodup→p∈l→q∈l→p=q:=by
    intro l
    induction l with
    | nil=>intro _ h; cases h
    | cons a l ih=>
      intro hn h1 h2
      rw [List.map_cons,List.nodup_cons] at hn
      rcases List.mem_cons.1 h1 with e1 | k1
      · rcases List.mem_cons.1 h2 with e2 | k2
        · rw [e1,e2]
        · exact absurd (List.mem_map.2 ⟨q,k2,by rw [← e,e1]⟩:a.2∈l.map Prod.snd) hn.1
      · rcases List.mem_cons.1 h2 with e2 | k2
        · exact absurd (List.mem_map.2 ⟨p,k1,by rw [e,e2]⟩:a.2∈l.map Prod.snd) hn.1
        · exact ih hn.2 k1 k2
  exact key h.stamps hp hq
def cN (ds:List (RecV × Nat)):Array Nat:=(ds.map Prod.snd).toArray
theorem ym {ps ds:List (RecV × Nat)}:(leftOf (fD ps) (cN ds)).toList=(ps.map iT).filter fun e => !(ds.map Prod.snd).contains e.born:=by
  unfold leftOf fD cN
  simp only [List.filter_toArray,List.contains_toArray,List.contains_eq_mem]
section
variable {P:Program}{n:Nat}{ops:Array Oper}{Q:Post}{L:Env}{w w0:World}{M:Nat→Prop}{Δ F:List Rsc}{rest:List Oper}{d:Nat}{ty:TypeId}{p:String}{af:Array Edge}{g:Option (Nat × Bool)}
theorem Ad {t:TypeId}(hw:Wn ops n L ⟨some d,.makeMap t none,ty,p,af,g⟩) (hn:Nat.blt d n=true) (H:Sep M w0 Δ F w)
    (k:∀ b w',Ext No w w'→w.heap.size≤b→Sep M w0 (Δ++[box b (.map (fD []) 0)]) F w'→RL P n ops Q rest ((d,.map (some b))::L) w') :
    RL P n ops Q (⟨some d,.makeMap t none,ty,p,af,g⟩::rest) L w:=
  mY (ob := .map (fD []) 0) (v:=fun b => .map (some b)) hw rfl hn (fun a ha=>by
    simp [execOp,Instr.makeMap,Result.andThen,fD]) H k
theorem BD {mty kt et:TypeId}{m x y:Operand}{b c:Nat}{ps:List (RecV × Nat)}{v:RecV}(hw:Wn ops n L ⟨none,.mapUpdate mty m x y,ty,p,af,g⟩) (hm:P.underlying mty=some (.map kt et)) (hk:P.underlying kt=some .string)
    (h1:evL L m=some (.map (some b))) (h2:evL L x=some (.string v.r.Name)) (h3:evL L y=some (.agg v.cs.toArray)) (H:Sep M w0 Δ F w) (i:Nat) (hi:Δ[i]? = some (box b (.map (fD ps) c))) (ok:MapOK ps c)
    (k:∀ c' w',MapOK (fO v c ps) c'→Sep M w0 (Δ.set i (box b (.map (fD (fO v c ps)) c'))) F w'→RL P n ops Q rest L w') :
    RL P n ops Q (⟨none,.mapUpdate mty m x y,ty,p,af,g⟩::rest) L w:=by
  obtain ⟨c',hc,hc2,hr⟩:=Ab (v:=v) hm hk (H.box i hi)
  exact vi hw rfl (fun a ha=>by simp [execOp,ha.eval h1,ha.eval h2,ha.eval h3,hr]) (k c' _ (ok.upd hc hc2) (H.put i _ hi))
theorem y5 {t kt et:TypeId}{x:Operand}{b c:Nat}{ps:List (RecV × Nat)}(hw:Wn ops n L ⟨some d,.range t x,ty,p,af,g⟩) (hn:Nat.blt d n=true) (ht:P.underlying t=some (.map kt et)) (hx:evL L x=some (.map (some b))) (H:Sep M w0 Δ F w) (i:Nat) (hi:Δ[i]? = some (box b (.map (fD ps) c)))
    (k:∀ r w',Ext No w w'→w.heap.size≤r→Sep M w0 (Δ++[box r (.mapIter (some b) c (cN []) c)]) F w'→RL P n ops Q rest ((d,.pointer (some ⟨r,0,none⟩))::L) w') :
    RL P n ops Q (⟨some d,.range t x,ty,p,af,g⟩::rest) L w:=by
  have hb:=H.box i hi
  exact mY (ob := .mapIter (some b) c (cN []) c) (v:=fun b => .pointer (some ⟨b,0,none⟩)) hw rfl hn (fun a ha=>by
    simp [execOp,ha.eval hx,Instr.range,run_underlying ht,Go.MapKept.run_getObj_map hb,Result.andThen,cN]) H k
theorem zM {x:Operand}{r b c s:Nat}{ps ds:List (RecV × Nat)}(hw:Wn ops n L ⟨some d,.next x false,ty,p,af,g⟩) (hn:Nat.blt d n=true) (hx:evL L x=some (.pointer (some ⟨r,0,none⟩))) (H:Sep M w0 Δ F w)
    (i j:Nat) (hi:Δ[i]? = some (box r (.mapIter (some b) c (cN ds) c))) (hj:Δ[j]? = some (box b (.map (fD ps) c))) (ok:MapOK ps c) (hds:∀ q∈ds,q∈ps)
    (k1:(∀ q∈ps,q∈ds)→RL P n ops Q rest ((d,.tuple #[.bool false])::L) w)
    (k2:∀ q w',q∈ps→q ∉ ds→Sep M w0 (Δ.set i (box r (.mapIter (some b) c (cN (ds++[q])) c))) F w'→RL P n ops Q rest ((d,.tuple #[.bool true,.string q.1.r.Name,.agg q.1.cs.toArray])::L) w') :
    RL P n ops Q (⟨some d,.next x false,ty,p,af,g⟩::rest) L w:=by
  have hr:=H.box i hi
  have hb:=H.box j hj
  have hold:∀ e∈(fD ps).toList,e.born<c:=fun e he=>by
    simp only [fD,List.mem_map] at he
    obtain ⟨q,hq,rfl⟩:=he
    exact ok.lt q hq
  rcases run_next_at (P:=P) w ty r b c c (cN ds) (fD ps) c hr hb hold (Nat.le_refl _) with ⟨h1,h2⟩ | ⟨e,he,w1,hw1,h2⟩
  · refine oF hw rfl hn (w':=w) (v := .tuple #[.bool false]) (fun a ha=>by simp [execOp,ha.eval hx,h2]) (k1 fun q hq=>?_)
    have hz:(leftOf (fD ps) (cN ds)).toList=[]:=by
      apply List.eq_nil_of_length_eq_zero; rw [Array.length_toList]; exact h1
    rw [ym,List.filter_eq_nil_iff] at hz
    have:=hz (iT q) (List.mem_map_of_mem hq)
    simp only [Bool.not_eq_true',Bool.not_eq_false,List.contains_eq_mem,decide_eq_true_eq] at this
    obtain ⟨q',hq',e⟩:=List.mem_map.1 this
    rw [← ok.inj (hds q' hq') hq e]; exact hq'
  · rw [ym,List.mem_filter,List.mem_map] at he
    obtain ⟨⟨q,hq,rfl⟩,hnd⟩:=he
    have hnq:q ∉ ds:=fun hm=>by
      simp only [Bool.not_eq_true',List.contains_eq_mem,decide_eq_false_iff_not] at hnd
      exact hnd (List.mem_map.2 ⟨q,hm,rfl⟩)
    have es:(cN ds).push (iT q).born=cN (ds++[q]):=by unfold cN; rw [List.map_append]; simp [iT]
    rw [es] at h2
    have H1:Sep M w0 Δ F w1:=by
      rcases hw1 with rfl | rfl
      · exact H
      · exact H.drawn _
    exact oF hw rfl hn (w':=put w1 r (.mapIter (some b) c (cN (ds++[q])) c)) (v := .tuple #[.bool true,.string q.1.r.Name,.agg q.1.cs.toArray]) (fun a ha=>by
      have h3:(Instr.next (.pointer (some ⟨r,0,none⟩)) false ty).run P w = .ok (.tuple #[.bool true,.string q.1.r.Name,.agg q.1.cs.toArray]) (put w1 r (.mapIter (some b) c (cN (ds++[q])) c)):=h2
      simp [execOp,ha.eval hx,h3])
      (k2 q _ hq hnq (H1.put i _ hi))
theorem xG {x:Operand}{r b c:Nat}{ps ds:List (RecV × Nat)}{q:RecV × Nat}{o:Option Tmp}(hx:evL L x=some (.pointer (some ⟨r,0,none⟩))) (H:Sep M w0 Δ F w)
    (i j:Nat) (hi:Δ[i]? = some (box r (.mapIter (some b) c (cN (ds++[q])) c))) (hj:Δ[j]? = some (box b (.map (fD ps) c))) (ok:MapOK ps c) (hq:q∈ps) :
    Py P n L w ⟨o,.entry x,ty,p,af,g⟩ (.tuple #[.string q.1.r.Name,.agg q.1.cs.toArray]):=fun a ha=>by
  have es:cN (ds++[q])=(cN ds).push (iT q).born:=by unfold cN; rw [List.map_append]; simp [iT]
  have hr:=H.box i hi
  rw [es] at hr
  have h:=run_entry_at (P:=P) w r b c (cN ds) (fD ps) c (iT q) hr (H.box j hj) (by simp only [fD]; exact List.mem_map_of_mem hq) (by
    simp only [fD,List.map_map]
    exact ok.stamps)
  have h3:(Instr.entry (.pointer (some ⟨r,0,none⟩))).run P w = .ok (.tuple #[.string q.1.r.Name,.agg q.1.cs.toArray]) w:=h
  simp [execOp,ha.eval hx,h3]
end
end Go.Wk
namespace Go.Wk
open Rp (sz own)
def nLt (a b:List UInt8):Prop:=Op.bytesLess a b=true
theorem kz {a b:UInt8}{x y:List UInt8}:nLt (a::x) (b::y)↔a<b∨a=b∧nLt x y:=by
  unfold nLt
  rw [Op.bytesLess]
  simp
theorem pd {b:UInt8}{y:List UInt8}:nLt [] (b::y):=rfl
theorem nz {x:List UInt8}:¬ nLt x []:=by unfold nLt; cases x<;>simp [Op.bytesLess]
theorem qi:LinO nLt where
  irr a:=by
    induction a with
    | nil=>exact nz
    | cons a x ih=>
      rw [kz]
      rintro (h | ⟨_,h⟩)
      · exact UInt8.lt_irrefl a h
      · exact ih h
  tr a:=by
    induction a with
    | nil=>
      intro b c h1 h2
      cases c with
      | nil=>exact absurd h2 nz
      | cons c z=>exact pd
    | cons a x ih=>
      intro b c h1 h2
      cases b with
      | nil=>exact absurd h1 nz
      | cons b y=>
        cases c with
        | nil=>exact absurd h2 nz
        | cons c z=>
          rw [kz] at h1 h2 ⊢
          rcases h1 with h1 | ⟨rfl,h1⟩
          · rcases h2 with h2 | ⟨rfl,h2⟩
            · exact .inl (UInt8.lt_trans h1 h2)
            · exact .inl h1
          · rcases h2 with h2 | ⟨rfl,h2⟩
            · exact .inl h2
            · exact .inr ⟨rfl,ih _ _ h1 h2⟩
  tot a:=by
    induction a with
    | nil=>
      intro b
      cases b with
      | nil=>exact .inr (.inl rfl)
      | cons b y=>exact .inl pd
    | cons a x ih=>
      intro b
      cases b with
      | nil=>exact .inr (.inr pd)
      | cons b y=>
        rw [kz,kz]
        rcases Decidable.em (a<b) with h | h
        · exact .inl (.inl h)
        · rcases Decidable.em (b<a) with k | k
          · exact .inr (.inr (.inl k))
          · have e:a=b:=UInt8.le_antisymm (UInt8.not_lt.1 k) (UInt8.not_lt.1 h)
            subst e
            rcases ih y with h | h | h
            · exact .inl (.inr ⟨rfl,h⟩)
            · exact .inr (.inl (by rw [h]))
            · exact .inr (.inr (.inr ⟨rfl,h⟩))
theorem wm:∀ {x y:List UInt8},Lib.compareBytes x y<0↔nLt x y
  | [],[]=>by simp [Lib.compareBytes,nz]
  | [],_::_=>by simp [Lib.compareBytes,pd]
  | _::_,[]=>by simp [Lib.compareBytes,nz]
  | a::x,b::y=>by
    rw [kz,Lib.compareBytes]
    split
    · next h=>simp [h]
    · next h=>
      split
      · next k=>
        have:a≠b:=fun e=>by subst e; exact h k
        simp [h,this]
      · next k=>
        have e:a=b:=UInt8.le_antisymm (UInt8.not_lt.1 k) (UInt8.not_lt.1 h)
        subst e
        rw [wm]; simp
def bH (r:Rec):List UInt8:=r.Name.toList
def nameV (v:RecV):List UInt8:=bH v.r
theorem sJ {r q:Rec}:bH r=bH q↔r.Name=q.Name:=sy
def fC (xs:List Rec) (k:Nat):Bool:=decide ((xs.getD k default).Kind=1) && (decide ((xs.getD k default).Length ≠ -1) && !(xs.drop (k+1)).any (itP (xs.getD k default).Name))
def fE (xs:List Rec):Nat→List Rec
  | 0=>[]
  | k+1=>if fC xs k=true then fE xs k++[xs.getD k default] else fE xs k
def pn (xs:List Rec):List Rec:=fE xs xs.length
def lastIt (nm:ByteArray):List Rec→Option Rec
  | []=>none
  | r::rs=>match lastIt nm rs with
    | some q=>some q
    | none=>if itP nm r=true then some r else none
section
variable {xs ys:List Rec}{r q:Rec}{nm:ByteArray}{k:Nat}
theorem iI:itP nm r=true↔r.Kind=1∧r.Name=nm:=by
  unfold itP; rw [Bool.and_eq_true,decide_eq_true_eq,beq_iff_eq,sy]
theorem oo:lastIt nm xs=none↔xs.any (itP nm)=false:=by
  induction xs with
  | nil=>simp [lastIt]
  | cons r rs ih=>
    rw [lastIt,List.any_cons]
    cases h:lastIt nm rs with
    | some q=>
      have h2:rs.any (itP nm)=true:=by
        cases c:rs.any (itP nm) with
        | true=>rfl
        | false=>rw [ih.2 c] at h; cases h
      rw [h2]; simp
    | none=>
      have h2:=ih.1 h
      dsimp only
      rw [h2]
      cases c:itP nm r<;>simp [c]
theorem oE:lastIt nm (xs++[r])=if itP nm r=true then some r else lastIt nm xs:=by
  induction xs with
  | nil=>rw [List.nil_append,lastIt]; simp [lastIt]
  | cons a asg ih=>
    rw [List.cons_append,lastIt,ih,lastIt]
    by_cases c:itP nm r=true
    · rw [if_pos c,if_pos c]
    · rw [if_neg c,if_neg c]
theorem nt (h:lastIt nm xs=some r):r∈xs∧r.Kind=1∧r.Name=nm:=by
  induction xs with
  | nil=>cases h
  | cons a asg ih=>
    rw [lastIt] at h
    cases c:lastIt nm asg with
    | some q=>
      rw [c] at h
      obtain ⟨h1,h2⟩:=ih (by rw [c]; exact h)
      exact ⟨List.mem_cons_of_mem _ h1,h2⟩
    | none=>
      rw [c] at h
      dsimp only at h
      split at h
      · next e=>
        cases h
        exact ⟨List.mem_cons_self ..,iI.1 e⟩
      · cases h
theorem tS:lastIt nm (xs++ys)=(lastIt nm ys).or (lastIt nm xs):=by
  induction xs with
  | nil=>simp [lastIt]
  | cons a asg ih=>
    rw [List.cons_append,lastIt,ih,lastIt]
    cases lastIt nm ys<;>simp
theorem jK (hk:k<xs.length):fC xs k=true↔(xs.getD k default).Kind=1∧(xs.getD k default).Length ≠ -1∧lastIt (xs.getD k default).Name (xs.drop (k+1))=none:=by
  unfold fC
  rw [oo]
  simp
theorem od:∀ {k},k≤xs.length→(r∈fE xs k↔∃ j,j<k∧fC xs j=true∧xs.getD j default=r)
  | 0,_=>by simp [fE]
  | k+1,h=>by
    rw [fE]
    have ih:=od (k:=k) (by omega)
    split
    · next c=>
      rw [List.mem_append,List.mem_singleton,ih]
      constructor
      · rintro (⟨j,h1,h2,h3⟩ | rfl)
        · exact ⟨j,by omega,h2,h3⟩
        · exact ⟨k,by omega,c,rfl⟩
      · rintro ⟨j,h1,h2,h3⟩
        by_cases e:j=k
        · subst e; exact .inr h3.symm
        · exact .inl ⟨j,by omega,h2,h3⟩
    · next c=>
      rw [ih]
      constructor
      · rintro ⟨j,h1,h2,h3⟩; exact ⟨j,by omega,h2,h3⟩
      · rintro ⟨j,h1,h2,h3⟩
        by_cases e:j=k
        · subst e; exact absurd h2 c
        · exact ⟨j,by omega,h2,h3⟩
theorem uS {j:Nat}(h:j<xs.length):xs=xs.take j++xs.getD j default::xs.drop (j+1):=by
  rw [bE h,← List.drop_eq_getElem_cons h,List.take_append_drop]
theorem sN:r∈pn xs↔r.Kind=1∧r.Length ≠ -1∧lastIt r.Name xs=some r:=by
  unfold pn
  rw [od (Nat.le_refl _)]
  constructor
  · rintro ⟨j,h1,h2,rfl⟩
    obtain ⟨a,b,c⟩:=(jK h1).1 h2
    refine ⟨a,b,?_⟩
    have e:=uS h1
    rw [show lastIt (xs.getD j default).Name xs=lastIt (xs.getD j default).Name (xs.take j++xs.getD j default::xs.drop (j+1)) from by rw [← e],tS,lastIt,c]
    rw [if_pos (iI.2 ⟨a,rfl⟩)]; rfl
  · rintro ⟨a,b,c⟩
    have key:∀ {l:List Rec},lastIt r.Name l=some r→∃ j,j<l.length∧l.getD j default=r∧lastIt r.Name (l.drop (j+1))=none:=by
      intro l
      induction l with
      | nil=>intro h; cases h
      | cons x l ih=>
        intro h
        rw [lastIt] at h
        cases e:lastIt r.Name l with
        | some q=>
          rw [e] at h
          obtain ⟨j,h1,h2,h3⟩:=ih (by rw [e]; exact h)
          exact ⟨j+1,by simp; omega,by simpa using h2,by simpa using h3⟩
        | none=>
          rw [e] at h
          dsimp only at h
          split at h
          · cases h; exact ⟨0,by simp,rfl,by simpa using e⟩
          · cases h
    obtain ⟨j,h1,h2,h3⟩:=key c
    exact ⟨j,h1,(jK h1).2 (by rw [h2]; exact ⟨a,b,h3⟩),h2⟩
theorem ox:∀ {k},k≤xs.length→((fE xs k).map bH).Nodup
  | 0,_ => .nil
  | k+1,h=>by
    rw [fE]
    have ih:=ox (k:=k) (by omega)
    split
    · next c=>
      rw [List.map_append]
      refine iv ih fun hm=>?_
      obtain ⟨q,hq,e⟩:=List.mem_map.1 hm
      obtain ⟨j,h1,h2,h3⟩:=(od (by omega)).1 hq
      obtain ⟨a1,b1,c1⟩:=(jK (by omega)).1 h2
      obtain ⟨a2,b2,c2⟩:=(jK (by omega)).1 c
      rw [oo,List.any_eq_false] at c1
      have hk:xs.getD k default∈xs.drop (j+1):=by
        rw [bE (by omega)]
        rw [List.mem_iff_getElem]
        exact ⟨k-(j+1),by rw [List.length_drop]; omega,by rw [List.getElem_drop]; congr 1; omega⟩
      refine c1 _ hk (iI.2 ⟨a2,?_⟩)
      rw [h3]
      exact (sJ.1 e).symm
    · exact ih
theorem pG:((pn xs).map bH).Nodup:=ox (Nat.le_refl _)
theorem oy {l:List Rec}(hn:(l.map bH).Nodup) (nm:List UInt8):∀ {r},r∈l→bH r=nm→(l.filter fun x=>decide (bH x=nm))=[r]:=by
  induction l with
  | nil=>intro r h; cases h
  | cons a l ih=>
    intro r hr e
    rw [List.map_cons,List.nodup_cons] at hn
    rcases List.mem_cons.1 hr with rfl | hr
    · rw [List.filter_cons_of_pos (by simp [e]),List.filter_eq_nil_iff.2 fun x hx=>?_]
      simp only [decide_eq_true_eq]
      intro e2
      exact hn.1 (List.mem_map.2 ⟨x,hx,e2.trans e.symm⟩)
    · rw [List.filter_cons_of_neg (by
        simp only [decide_eq_true_eq]
        intro e2
        exact hn.1 (List.mem_map.2 ⟨r,hr,e.trans e2.symm⟩)),ih hn.2 hr e]
theorem vz {l l':List Rec}(hn:(l.map bH).Nodup) (hp:l'.Perm l):ce bH l l':=fun nm=>by
  have hn':(l'.map bH).Nodup:=(hp.map bH).nodup_iff.2 hn
  by_cases h:∃ r∈l,bH r=nm
  · obtain ⟨r,hr,e⟩:=h
    rw [oy hn nm hr e,oy hn' nm (hp.mem_iff.2 hr) e]
  · rw [List.filter_eq_nil_iff.2 fun x hx=>?_,List.filter_eq_nil_iff.2 fun x hx=>?_]
    · simp only [decide_eq_true_eq]; intro e; exact h ⟨x,hx,e⟩
    · simp only [decide_eq_true_eq]; intro e; exact h ⟨x,hp.mem_iff.1 hx,e⟩
theorem AJ (x:Rec):∀ {ys:List Rec},Ord nLt bH ys→∃ A B,ys=A++B∧(∀ y∈B,nLt (bH x) (bH y))∧∀ y∈A,¬ nLt (bH x) (bH y)
  | [],_=>⟨[],[],rfl,by simp,by simp⟩
  | y::ys,.cons h1 h2=>by
    by_cases c:nLt (bH x) (bH y)
    · refine ⟨[],y::ys,rfl,fun z hz=>?_,by simp⟩
      rcases List.mem_cons.1 hz with rfl | hz
      · exact c
      · rcases qi.tot (bH y) (bH z) with q | q | q
        · exact qi.tr _ _ _ c q
        · rw [← q]; exact c
        · exact absurd q (h1 z hz)
    · obtain ⟨A,B,e,hB,hA⟩:=AJ x h2
      refine ⟨y::A,B,by rw [e]; rfl,hB,fun z hz=>?_⟩
      rcases List.mem_cons.1 hz with rfl | hz
      · exact c
      · exact hA z hz
theorem lS:∀ (n:Nat) (l:List Rec),l.length=n→∃ ys,Stable nLt bH l ys
  | 0,l,h=>⟨[],by rw [List.eq_nil_of_length_eq_zero h]; exact ⟨.nil,.refl⟩⟩
  | n+1,l,h=>by
    have hl:l.dropLast++[l.getLast (fun e=>by rw [e] at h; simp at h)]=l:=List.dropLast_concat_getLast _
    obtain ⟨ys,hy⟩:=lS n l.dropLast (by rw [List.length_dropLast]; omega)
    obtain ⟨A,B,rfl,hB,hA⟩:=AJ (l.getLast (fun e=>by rw [e] at h; simp at h)) hy.1
    have:=fb qi hy hB hA
    rw [hl] at this
    exact ⟨_,this⟩
end
noncomputable def liveL (z:Wld):List Rec:=(lS _ (pn (dI z)) rfl).choose
section
variable {z:Wld}{ys:List Rec}{r:Rec}{nm:ByteArray}
theorem iK:Stable nLt bH (pn (dI z)) (liveL z):=(lS _ (pn (dI z)) rfl).choose_spec
theorem wI (h:Stable nLt bH (pn (dI z)) ys):ys=liveL z:=lD qi h iK
theorem xr (hp:ys.Perm (pn (dI z))) (ho:Ord nLt bH ys):ys=liveL z:=wI ⟨ho,vz pG hp⟩
theorem zg:r∈liveL z↔r∈pn (dI z):=⟨fun h=>iK.2.mem h,fun h=>(ce.symm iK.2).mem h⟩
theorem oc {xs:List Rec}:∀ {k},(fE xs k).length≤k
  | 0=>Nat.le_refl _
  | k+1=>by
    rw [fE]
    have:=oc (xs:=xs) (k:=k)
    split
    · rw [List.length_append,List.length_singleton]; omega
    · omega
theorem nr:(liveL z).length≤(dI z).length:=by
  have h:=iK (z:=z).2.len
  rw [h]; exact oc
theorem yK (h:r∈liveL z):r∈dI z:=(nt (sN.1 (zg.1 h)).2.2).1
end
def MapIs (xs:List Rec) (ps:List (RecV × Nat)):Prop:=(∀ p∈ps,lastIt p.1.r.Name xs=some p.1.r)∧∀ r∈xs,r.Kind=1→gc r.Name ps=true
section
variable {xs:List Rec}{ps:List (RecV × Nat)}{v:RecV}{c:Nat}{r:Rec}
theorem MapIs.nil:MapIs [] []:=⟨by simp,by simp⟩
theorem zz {nm:ByteArray}:gc nm ps=true↔∃ p∈ps,p.1.r.Name=nm:=by unfold gc; rw [List.any_eq_true]; simp
theorem MapIs.skip (h:MapIs xs ps) (hr:r.Kind≠1):MapIs (xs++[r]) ps:=by
  refine ⟨fun p hp=>?_,fun q hq hk=>?_⟩
  · rw [oE,if_neg (fun e=>hr (iI.1 e).1)]; exact h.1 p hp
  · rcases List.mem_append.1 hq with hq | hq
    · exact h.2 q hq hk
    · rw [List.mem_singleton] at hq; subst hq; exact absurd hk hr
theorem tk {p:RecV × Nat}(hn:(ps.map fun p=>p.1.r.Name).Nodup):p∈fO v c ps→p.1=v∨p∈ps∧p.1.r.Name≠v.r.Name:=by
  induction ps with
  | nil=>intro h; rw [fO,List.mem_singleton] at h; subst h; exact .inl rfl
  | cons a asg ih=>
    intro h
    rw [List.map_cons,List.nodup_cons] at hn
    rw [fO] at h
    split at h
    · next e=>
      rcases List.mem_cons.1 h with rfl | h
      · exact .inl rfl
      · refine .inr ⟨List.mem_cons_of_mem _ h,fun e2=>hn.1 ?_⟩
        rw [e,← e2]; exact List.mem_map.2 ⟨p,h,rfl⟩
    · next e=>
      rcases List.mem_cons.1 h with rfl | h
      · exact .inr ⟨List.mem_cons_self ..,e⟩
      · rcases ih hn.2 h with h | ⟨h,h2⟩
        · exact .inl h
        · exact .inr ⟨List.mem_cons_of_mem _ h,h2⟩
theorem yT {nm:ByteArray}:gc nm (fO v c ps)=(gc nm ps || decide (v.r.Name=nm)):=by
  induction ps with
  | nil=>simp [fO,gc]
  | cons a asg ih=>
    rw [fO]
    split
    · next e=>
      unfold gc at *
      simp only [List.any_cons,e]
      cases decide (v.r.Name=nm)<;>simp
    · unfold gc at *
      simp only [List.any_cons,ih,Bool.or_assoc]
theorem MapIs.put (h:MapIs xs ps) (hn:(ps.map fun p=>p.1.r.Name).Nodup) (hk:v.r.Kind=1):MapIs (xs++[v.r]) (fO v c ps):=by
  refine ⟨fun p hp=>?_,fun q hq hq1=>?_⟩
  · rw [oE]
    rcases tk hn hp with e | ⟨h1,h2⟩
    · rw [e,if_pos (iI.2 ⟨hk,rfl⟩)]
    · rw [if_neg (fun e=>h2 (iI.1 e).2.symm)]; exact h.1 p h1
  · rw [yT]
    rcases List.mem_append.1 hq with hq | hq
    · rw [h.2 q hq hq1]; rfl
    · rw [List.mem_singleton] at hq; subst hq; simp
def gD (ds:List (RecV × Nat)):List RecV:=(ds.map Prod.fst).filter fun v=>decide (v.r.Length ≠ -1)
theorem xP {ds:List (RecV × Nat)}{q:RecV × Nat}(h:q.1.r.Length ≠ -1):gD (ds++[q])=gD ds++[q.1]:=by unfold gD; rw [List.map_append,List.filter_append]; simp [h]
theorem yF {ds:List (RecV × Nat)}{q:RecV × Nat}(h:q.1.r.Length = -1):gD (ds++[q])=gD ds:=by unfold gD; rw [List.map_append,List.filter_append]; simp [h]
theorem rL {ds:List (RecV × Nat)}:(gD ds).length≤ds.length:=Nat.le_trans (List.length_filter_le _ _) (by simp)
theorem x9 {ds:List (RecV × Nat)}(h:MapIs xs ps) (ok:MapOK ps c) (hd:ds.Nodup) (h1:∀ q∈ds,q∈ps) (h2:∀ q∈ps,q∈ds):((gD ds).map RecV.r).Perm (pn xs):=by
  have hp:ds.Perm ps:=(List.perm_ext_iff_of_nodup hd ok.nodup).2 fun q=>⟨h1 q,h2 q⟩
  have hn:((ds.map Prod.fst).map fun v=>v.r.Name).Nodup:=by
    rw [List.map_map]; exact (hp.map fun p=>p.1.r.Name).nodup_iff.2 ok.names
  have hk:(((gD ds).map RecV.r).map bH).Nodup:=by
    have h3:((gD ds).map fun v=>v.r.Name).Nodup:=by
      unfold gD
      exact hn.sublist (List.filter_sublist.map _)
    rw [List.map_map]
    rw [List.Nodup,List.pairwise_map] at h3 ⊢
    exact h3.imp fun hne e=>hne (sJ.1 e)
  refine (List.perm_ext_iff_of_nodup (jT hk) (jT pG)).2 fun r=>?_
  rw [sN]
  unfold gD
  constructor
  · intro hr
    obtain ⟨v,hv,rfl⟩:=List.mem_map.1 hr
    rw [List.mem_filter] at hv
    obtain ⟨p,hp2,e⟩:=List.mem_map.1 hv.1
    subst e
    have hl:=h.1 p (h1 p hp2)
    exact ⟨(nt hl).2.1,by simpa using hv.2,hl⟩
  · rintro ⟨a,b,d⟩
    obtain ⟨m1,_,_⟩:=nt d
    obtain ⟨p,hp2,e⟩:=zz.1 (h.2 r m1 a)
    have hl:=h.1 p hp2
    rw [e,d] at hl
    refine List.mem_map.2 ⟨p.1,?_,(Option.some.inj hl).symm⟩
    rw [List.mem_filter]
    exact ⟨List.mem_map.2 ⟨p,h2 p hp2,rfl⟩,by rw [← Option.some.inj hl]; simpa using b⟩
theorem yM:(fO v c ps).length≤ps.length+1:=by
  induction ps with
  | nil=>exact Nat.le_refl _
  | cons a asg ih=>rw [fO]; split<;>simp<;>omega
end
end Go.Wk
namespace Go.Wk
open Rp (sz own)
section
variable {z:Wld}{nm:ByteArray}{r:Rec}
theorem qW {k:Nat}(h:k<(liveL z).length):(liveL z).getD k default∈liveL z:=by rw [bE h]; exact List.getElem_mem _
end
def md (nm:ByteArray) (xs:List UInt8):Rec:=⟨1,0,nm,xs.length,0,0,[],xs,[]⟩
def fq (rs:List Rec):Nat→Int
  | 0=>0
  | k+1=>fq rs k+((rs.getD k default).Data.length:Int)
noncomputable def ou (z:Wld):Int:=fq (liveL z) (liveL z).length
noncomputable def puC (z:Wld) (nm:ByteArray) (xs:List UInt8):Int:=if cm z.Shape xs.length≠0 then cm z.Shape xs.length else if z.Shape.Stage<ou z+(xs.length:Int) then 11 else nxC z (md nm xs)
noncomputable def puZ (z:Wld) (nm:ByteArray) (xs:List UInt8):Wld:=if cm z.Shape xs.length≠0 then z else if z.Shape.Stage<ou z+(xs.length:Int) then z else nxZ z (md nm xs)
noncomputable def aC (z:Wld) (nm:ByteArray) (xs:List UInt8):WldResult:=jW z (bg nm) (puC z nm xs) (puZ z nm xs)
section
variable {z:Wld}{nm:ByteArray}{xs:List UInt8}{rs:List Rec}{k:Nat}
theorem wk (h:cm z.Shape xs.length≠0):puC z nm xs=cm z.Shape xs.length∧puZ z nm xs=z:=⟨if_pos h,if_pos h⟩
theorem wC (h:cm z.Shape xs.length=0) (h2:z.Shape.Stage<ou z+(xs.length:Int)):puC z nm xs=11∧puZ z nm xs=z:=⟨by rw [puC,if_neg (by omega),if_pos h2],by rw [puZ,if_neg (by omega),if_pos h2]⟩
theorem AN (h:cm z.Shape xs.length=0) (h2:¬ z.Shape.Stage<ou z+(xs.length:Int)):puC z nm xs=nxC z (md nm xs)∧puZ z nm xs=nxZ z (md nm xs):=⟨by rw [puC,if_neg (by omega),if_neg h2],by rw [puZ,if_neg (by omega),if_neg h2]⟩
theorem zV {s:Shape}{n:Int}:cm s n=0∨cm s n=2∨cm s n=6:=by
  unfold cm
  repeat' split
  all_goals omega
theorem qG:0≤puC z nm xs∧puC z nm xs≤11:=by
  unfold puC
  have h1:=AO (z:=z) (r:=md nm xs)
  have h2:=zV (s:=z.Shape) (n:=xs.length)
  repeat' split
  all_goals omega
theorem rG (hT:z.Tapes.length=2) (hw:z.Writes≤1400000000) (ho:z.Ok):(puZ z nm xs).Ok∧cj (puZ z nm xs)≤cj z+12+2*xs.length:=by
  unfold puZ
  repeat' split
  · exact ⟨ho,by omega⟩
  · exact ⟨ho,by omega⟩
  · have h:=(xj (r:=md nm xs) hT).2.2.2
    have e:bO (md nm xs)=6+0+xs.length+0:=rfl
    exact ⟨Ba ho (by omega),by omega⟩
theorem nf:0≤bg nm∧bg nm≤100:=by
  unfold bg; split<;>omega
theorem yv (ho:z.Ok):cj (aC z nm xs).Wd≤cj z+12+2*xs.length:=
  z2 fun h _=>by
    obtain ⟨hw0,hw1,_,_⟩:=fl (jF h).1
    exact (rG (cI (jF h).1).2.2.2.1 (by omega) ho).2
theorem yR (ho:z.Ok):(aC z nm xs).Ok:=by
  have h2:=qG (z:=z) (nm:=nm) (xs:=xs)
  exact Ap nf (by omega) fun h _=>by
    obtain ⟨hw0,hw1,_,_⟩:=fl (jF h).1
    exact (rG (cI (jF h).1).2.2.2.1 (by omega) ho).1
theorem rm {B:Nat}(h:∀ r∈rs,r.Data.length≤B):∀ {k},k≤rs.length→0≤fq rs k∧fq rs k≤(k:Int)*(B:Int)
  | 0,_=>by rw [fq]; exact ⟨Int.le_refl _,by simp⟩
  | k+1,hk=>by
    obtain ⟨h1,h2⟩:=rm h (k:=k) (by omega)
    have h3:(rs.getD k default).Data.length≤B:=by rw [bE (by omega)]; exact h _ (List.getElem_mem _)
    rw [fq]
    have e:((k+1:Nat):Int)*(B:Int)=(k:Int)*B+B:=by rw [Int.natCast_add,Int.add_mul]; simp
    omega
end
end Go.Wk
namespace Go.Wk
open Rp (sz own)
open Go.Shelf Go.Lib Go.Sort Go.Proofs
theorem wJ {α K:Type}{lt:K→K→Prop}{key:α→K}:∀ {l:List α},(∀ i j (hj:j<l.length) (hi:i<j),¬ lt (key l[j]) (key (l[i]'(Nat.lt_trans hi hj))))→Ord lt key l
  | [],_ => .nil
  | x::xs,h=>by
    refine .cons (fun y hy=>?_) (wJ fun i j hj hi=>?_)
    · obtain ⟨k,hk,e⟩:=List.getElem_of_mem hy
      have:=h 0 (k+1) (by simpa using hk) (by omega)
      simpa [e] using this
    · have:=h (i+1) (j+1) (by simpa using hj) (by omega)
      simpa using this
theorem tt {w:World}:∀ {us:List RecV}{cs:List Value},(∀ k (hk:k<us.length) j,j<9→cs[k*9+j]? = us[k].cs[j]?)→(∀ u∈us,u.r.Ok)→cq true w cs us []
  | [],_,_,_=>rfl
  | u::us,cs,h,ok=>by
    refine ⟨[],[],rfl,⟨?_,rfl,ok u (List.mem_cons_self ..)⟩,tt (fun k hk j hj=>?_) fun x hx=>ok x (List.mem_cons_of_mem _ hx)⟩
    · apply List.ext_getElem?
      intro j
      show (cs.take 9)[j]? = u.cs[j]?
      rw [List.getElem?_take]
      split
      · next hj=>have:=h 0 (by simp) j hj; simpa using this
      · next hj=>rw [List.getElem?_eq_none]; show u.cs.length≤j; simp only [RecV.cs,List.length_cons,List.length_nil]; omega
    · show (cs.drop 9)[k*9+j]? = _
      rw [List.getElem?_drop]
      have:=h (k+1) (by simpa using hk) j hj
      rw [show 9+(k*9+j)=(k+1)*9+j by omega]
      simpa using this
theorem sv {v:RecV}:v.cs.length=9:=rfl
def cfN (x y:RecV):Int:=Lib.compareBytes x.r.Name.data.toList y.r.Name.data.toList
theorem sc {x y:RecV}:cfN x y<0↔nLt (nameV x) (nameV y):=by
  unfold cfN nameV bH
  rw [ByteArray.toList_eq,ByteArray.toList_eq]
  exact wm
theorem Af:SWO (ltOf cfN) where
  irrefl x:=by
    unfold ltOf
    rw [decide_eq_false]
    rw [sc]; exact qi.irr _
  trans x y z h1 h2:=by
    unfold ltOf at *
    rw [decide_eq_true_eq,sc] at *
    exact qi.tr _ _ _ h1 h2
  ntrans x y z h1 h2:=by
    unfold ltOf at *
    rw [decide_eq_false_iff_not,sc] at *
    intro h3
    rcases qi.tot (nameV x) (nameV y) with c | c | c
    · exact h1 c
    · rw [c] at h3; exact h2 h3
    · exact h2 (qi.tr _ _ _ c h3)
section
variable {w:World}{b o cap:Nat}{vs:List RecV}{fp:List Nat}
theorem AC (h:own true w [.slice (some ⟨b,o,none⟩) vs.length cap] vs fp) (h0:0<vs.length):HoldsK RecV.cs 9 w b o vs.toArray∧b<w.heap.size:=by
  rcases h with ⟨hf,_⟩ | ⟨e,_⟩ | ⟨b',o',cap',cur,T,fr,fs,h1,h2,h3,h4,h5,h6,h7,h8⟩
  · cases hf
  · simp at e
  · have hw:own true w [.slice (some ⟨b,o,none⟩) vs.length cap] vs fp := .inr (.inr ⟨b',o',cap',cur,T,fr,fs,h1,h2,h3,h4,h5,h6,h7,h8⟩)
    simp only [List.cons.injEq,Value.slice.injEq,Option.some.injEq,Addr.mk.injEq,and_true] at h1
    obtain ⟨⟨rfl,rfl⟩,_,_⟩:=h1
    have hfr:=h4 rfl
    subst hfr
    refine ⟨fun t ht=>?_,(Array.getElem?_eq_some_iff.1 h3).1⟩
    rw [size_flatK,List.size_toArray] at ht
    rw [get_flatK _ _ _ t (by simpa using ht)]
    have hk:t / 9<vs.length:=by omega
    obtain ⟨b2,o2,cs,f,e,hat,hx,_⟩:=eH hw (t / 9) hk
    simp only [Option.some.injEq,Addr.mk.injEq,and_true] at e
    obtain ⟨rfl,rfl⟩:=e
    have hm:t % 9<9:=Nat.mod_lt _ (by omega)
    have hat2:=hat (t % 9) (vs[t / 9].cs[t % 9]'(by rw [sv]; exact hm)) (by
      rw [hx.1]; exact List.getElem?_eq_getElem _)
    have e9:o+t / 9*sz RecV+t % 9=o+t:=by
      show o+t / 9*9+t % 9=o+t
      omega
    rw [e9] at hat2
    refine ⟨?_,nB h3⟩
    rw [hat2]
    have e1:vs.toArray[t / 9]! = vs[t / 9]:=by rw [getElem!_pos vs.toArray (t / 9) (by simpa using hk)]; simp
    rw [e1,getElem!_pos vs[t / 9].cs (t % 9) (by rw [sv]; exact hm)]
    rfl
theorem zd (h:own true w [.slice (some ⟨b,o,none⟩) vs.length cap] vs fp) (hn:fp.Nodup) (h0:0<vs.length) {d:Array RecV}{n:Nat}{os:Array Obj}(hs:d.size=vs.length) (hok:∀ u∈d.toList,u.r.Ok) :
    Mut w (sortWorldK RecV.cs 9 w b o n d os) fp [.slice (some ⟨b,o,none⟩) vs.length cap] d.toList:=by
  rcases h with ⟨hf,_⟩ | ⟨e,_⟩ | ⟨b',o',cap',cur,T,fr,fs,h1,h2,h3,h4,h5,h6,h7,h8⟩
  · cases hf
  · simp at e
  · simp only [List.cons.injEq,Value.slice.injEq,Option.some.injEq,Addr.mk.injEq,and_true] at h1
    obtain ⟨⟨rfl,rfl⟩,_,hcp⟩:=h1
    subst hcp
    have hfr:=h4 rfl
    subst hfr
    have hfs:=(lQ 0 h8).2
    subst hfs
    subst h2
    have hlt:=(Array.getElem?_eq_some_iff.1 h3).1
    have hsz:(sortWorldK RecV.cs 9 w b o n d os).heap.size=w.heap.size+os.size:=by
      unfold sortWorldK putRowK Go.Sort.putRow Go.Sort.mapBlock Go.Sort.grow Go.Sort.ahead
      simp
    have hget:∀ c,c<w.heap.size→(sortWorldK RecV.cs 9 w b o n d os).heap[c]? = (w.heap.modify b (Go.Sort.onCells (Go.Sort.putCells id o (flatK RecV.cs 9 d))))[c]? := fun c hc=>by
      unfold sortWorldK putRowK Go.Sort.putRow Go.Sort.mapBlock Go.Sort.grow Go.Sort.ahead
      dsimp only
      rw [Array.getElem?_append_left (by simpa using hc)]
    have hb:(sortWorldK RecV.cs 9 w b o n d os).heap[b]? = some (.cells (Go.Sort.putCells id o (flatK RecV.cs 9 d) cur) T (0,0)):=by
      rw [hget b hlt,Array.getElem?_modify,if_pos rfl,h3]; rfl
    refine ⟨⟨rfl,rfl,rfl,by rw [hsz]; omega,fun c hc hm=>?_⟩,[b],.inr (.inr ⟨b,o,cap,_,T,(0,0),[],by rw [show d.toList.length=vs.length from (Array.length_toList ..).trans hs],rfl,hb,fun _=>rfl,by rw [show d.toList.length=vs.length from (Array.length_toList ..).trans hs]; exact h5,h6,?_,?_⟩),hn,fun c hc => .inl hc⟩
    · rw [hget c hc,Array.getElem?_modify,if_neg (fun e=>hm (by rw [e]; exact List.mem_singleton.2 rfl))]
    · have:(Go.Sort.putCells id o (flatK RecV.cs 9 d) cur).size=cur.size:=by simp [Go.Sort.putCells]
      rw [this]; exact h7
    · refine tt (fun k hk j hj=>?_) hok
      rw [Array.length_toList,hs] at hk
      have h7':o+cap*9≤cur.size:=h7
      have hin:o+(k*9+j)<cur.size:=by omega
      rw [List.getElem?_drop,Array.getElem?_toList]
      unfold Go.Sort.putCells
      rw [Array.getElem?_mapIdx,Array.getElem?_eq_getElem hin,Option.map_some]
      rw [if_pos ⟨by omega,by rw [size_flatK,hs]; omega⟩,show o+(k*9+j)-o=k*9+j by omega]
      rw [get_flatK _ _ _ _ (by rw [hs]; omega),show (k*9+j) / 9=k by omega,show (k*9+j) % 9=j by omega]
      have e1:d[k]! = d.toList[k]'(by rw [Array.length_toList,hs]; exact hk):=by rw [getElem!_pos d k (by rw [hs]; exact hk)]; simp
      rw [e1,getElem!_pos _ j (by rw [sv]; exact hj),List.getElem?_eq_getElem (by rw [sv]; exact hj)]
      rfl
end
theorem vw {P:Program}{ρ:Go.Shelf.Ren}{w:World}{A:Option Addr}{n C:Nat}{vs:List RecV}{fp:List Nat}{g:FuncId}(L:SlLaysF0.n6 P ρ) (aE:∀ w,(isAgg (ρ.t 24)).run P w = .ok true w) (zE:∀ w,(Go.sizeOf (ρ.t 24)).run P w = .ok 9 w) (eg:∀ args w,(callFunc g args).run P w = .ok (.enter g args) w)
    (hc:∀ (W:World) (x y:RecV),Calls P g #[.agg x.cs.toArray,.agg y.cs.toArray] W fun e w'=>e = .returned (.int .i64 (cfN x y))∧∃ q os',w'=Go.Sort.grow (W.drewN q) os')
    (o:own true w [.slice A n C] vs fp) (nd:fp.Nodup) (hl:vs.length≤1000000):Ret P (ρ.f 6) #[.slice A n C,.func (.func g) #[] #[]] w fun v w'=>∃ us,Mut w w' fp [.slice A n C] us∧us.Perm vs∧Ord nLt nameV us:=by
  obtain rfl:=dH o
  by_cases h0:vs.length=0
  · have e:=List.eq_nil_of_length_eq_zero h0
    subst e
    exact Calls.mono (Go.Proofs.AnyF.slices_SortFunc_none L A C _ w) fun e w' ⟨h1,h2⟩=>⟨_,h1,[],by subst h2; exact ⟨Ext.refl,fp,o,nd,fun b hb => .inl hb⟩,.refl _,.nil⟩
  · obtain ⟨b,off,hA⟩:=eu o 0 (by omega)
    obtain rfl:A=some ⟨b,off,none⟩:=hA
    obtain ⟨hH,hblk⟩:=AC o (by omega)
    have hokL:∀ u∈vs,u.r.Ok:=fun u hu=>by
      obtain ⟨k,hk,e⟩:=List.getElem_of_mem hu
      obtain ⟨_,_,_,_,_,_,hx,_⟩:=eH o k hk
      rw [← e]; exact hx.2.2
    have hs:=Go.Proofs.AnyQ.slices_SortFunc L 9 aE zE RecV.cs (fun _=>rfl) (fun _ v hv=>RecV.one v hv) cfN Af g #[] b off C vs.toArray w eg (fun m os dk _ x y=>hc _ x y) hH hblk (by simp; omega)
    simp only [List.size_toArray] at hs
    refine Calls.mono hs fun e w' ⟨h1,d',n',os',hP,hS,hw⟩=>⟨_,h1,d'.toList,?_,?_,?_⟩
    · have hsz:d'.size=vs.length:=by have:=hP.1; simpa using this
      rw [hw]
      refine zd o nd (by omega) hsz fun u hu=>hokL u ?_
      have hp:=hP.2.2
      rw [show d'.extract 0 vs.length=d' by rw [← hsz]; simp,show vs.toArray.extract 0 vs.length=vs.toArray by simp] at hp
      simpa using hp.mem_iff.1 hu
    · have hsz:d'.size=vs.length:=by have:=hP.1; simpa using this
      have hp:=hP.2.2
      rw [show d'.extract 0 vs.length=d' by rw [← hsz]; simp,show vs.toArray.extract 0 vs.length=vs.toArray by simp] at hp
      simpa using hp
    · have hsz:d'.size=vs.length:=by have:=hP.1; simpa using this
      refine wJ fun i j hj hi=>?_
      rw [Array.length_toList,hsz] at hj
      have:=hS i j (Nat.zero_le _) hi hj
      unfold ltOf at this
      rw [decide_eq_false_iff_not,sc,getElem!_pos d' j (by omega),getElem!_pos d' i (by omega)] at this
      simpa using this
end Go.Wk
namespace Go.Wk
open Go.Proofs
theorem ts0:type_of% @Tryz.sizeOf0 := @Tryz.sizeOf0
theorem AK:type_of% @Tryz.sizeOf119 := @Tryz.sizeOf119
theorem AF:type_of% @Tryz.sizeOf121 := @Tryz.sizeOf121
theorem wl:type_of% @Tryz.sizeOf123 := @Tryz.sizeOf123
theorem ik:type_of% @Tryz.sizeOf126 := @Tryz.sizeOf126
theorem fU:type_of% @Tryz.sizeOf127 := @Tryz.sizeOf127
theorem dw:type_of% @Tryz.sizeOf129 := @Tryz.sizeOf129
theorem er:type_of% @Tryz.sizeOf131 := @Tryz.sizeOf131
theorem bS:type_of% @Tryz.sizeOf134 := @Tryz.sizeOf134
theorem BP:type_of% @Tryz.sizeOf165 := @Tryz.sizeOf165
theorem AL:type_of% @Tryz.sizeOf198 := @Tryz.sizeOf198
theorem ts2:type_of% @Tryz.sizeOf2 := @Tryz.sizeOf2
theorem wx:type_of% @Tryz.sizeOf200 := @Tryz.sizeOf200
theorem BE:type_of% @Tryz.sizeOf23 := @Tryz.sizeOf23
theorem BI:type_of% @Tryz.sizeOf232 := @Tryz.sizeOf232
theorem BM:type_of% @Tryz.sizeOf24 := @Tryz.sizeOf24
theorem bB:type_of% @Tryz.sizeOf25 := @Tryz.sizeOf25
theorem wM:type_of% @Tryz.sizeOf256 := @Tryz.sizeOf256
theorem BR:type_of% @Tryz.sizeOf26 := @Tryz.sizeOf26
theorem Bt:type_of% @Tryz.sizeOf274 := @Tryz.sizeOf274
theorem BK:type_of% @Tryz.sizeOf275 := @Tryz.sizeOf275
theorem BC:type_of% @Tryz.sizeOf279 := @Tryz.sizeOf279
theorem yp:type_of% @Tryz.sizeOf28 := @Tryz.sizeOf28
theorem BW:type_of% @Tryz.sizeOf282 := @Tryz.sizeOf282
theorem BL:type_of% @Tryz.sizeOf284 := @Tryz.sizeOf284
theorem wy:type_of% @Tryz.sizeOf296 := @Tryz.sizeOf296
theorem ts3:type_of% @Tryz.sizeOf3 := @Tryz.sizeOf3
theorem bZ:type_of% @Tryz.sizeOf30 := @Tryz.sizeOf30
theorem BV:type_of% @Tryz.sizeOf303 := @Tryz.sizeOf303
theorem Bx:type_of% @Tryz.sizeOf307 := @Tryz.sizeOf307
theorem fJ:type_of% @Tryz.sizeOf31 := @Tryz.sizeOf31
theorem Br:type_of% @Tryz.sizeOf313 := @Tryz.sizeOf313
theorem BB:type_of% @Tryz.sizeOf314 := @Tryz.sizeOf314
theorem cX:type_of% @Tryz.sizeOf32 := @Tryz.sizeOf32
theorem cP:type_of% @Tryz.sizeOf34 := @Tryz.sizeOf34
theorem dD:type_of% @Tryz.sizeOf36 := @Tryz.sizeOf36
theorem ts4:type_of% @Tryz.sizeOf4 := @Tryz.sizeOf4
theorem dE:type_of% @Tryz.sizeOf46 := @Tryz.sizeOf46
theorem ts5:type_of% @Tryz.sizeOf5 := @Tryz.sizeOf5
theorem bd:type_of% @Tryz.sizeOf55 := @Tryz.sizeOf55
theorem ts9:type_of% @Tryz.sizeOf9 := @Tryz.sizeOf9
theorem aJ:type_of% @Tryz.sizeOf94 := @Tryz.sizeOf94
theorem tu0:type_of% @Tryz.underlying0 := @Tryz.underlying0
theorem oA:type_of% @Tryz.underlying119 := @Tryz.underlying119
theorem ot:type_of% @Tryz.underlying121 := @Tryz.underlying121
theorem sK:type_of% @Tryz.underlying123 := @Tryz.underlying123
theorem co:type_of% @Tryz.underlying126 := @Tryz.underlying126
theorem cD:type_of% @Tryz.underlying127 := @Tryz.underlying127
theorem df:type_of% @Tryz.underlying129 := @Tryz.underlying129
theorem dQ:type_of% @Tryz.underlying131 := @Tryz.underlying131
theorem bJ:type_of% @Tryz.underlying134 := @Tryz.underlying134
theorem AH:type_of% @Tryz.underlying162 := @Tryz.underlying162
theorem BY:type_of% @Tryz.underlying165 := @Tryz.underlying165
theorem oi:type_of% @Tryz.underlying198 := @Tryz.underlying198
theorem tu2:type_of% @Tryz.underlying2 := @Tryz.underlying2
theorem s9:type_of% @Tryz.underlying200 := @Tryz.underlying200
theorem qM:type_of% @Tryz.underlying23 := @Tryz.underlying23
theorem mA:type_of% @Tryz.underlying232 := @Tryz.underlying232
theorem sS:type_of% @Tryz.underlying24 := @Tryz.underlying24
theorem bn:type_of% @Tryz.underlying25 := @Tryz.underlying25
theorem ib:type_of% @Tryz.underlying256 := @Tryz.underlying256
theorem sU:type_of% @Tryz.underlying26 := @Tryz.underlying26
theorem zh:type_of% @Tryz.underlying272 := @Tryz.underlying272
theorem BT:type_of% @Tryz.underlying274 := @Tryz.underlying274
theorem BS:type_of% @Tryz.underlying275 := @Tryz.underlying275
theorem BJ:type_of% @Tryz.underlying279 := @Tryz.underlying279
theorem lR:type_of% @Tryz.underlying28 := @Tryz.underlying28
theorem Bv:type_of% @Tryz.underlying282 := @Tryz.underlying282
theorem BZ:type_of% @Tryz.underlying284 := @Tryz.underlying284
theorem tN:type_of% @Tryz.underlying296 := @Tryz.underlying296
theorem tu3:type_of% @Tryz.underlying3 := @Tryz.underlying3
theorem bq:type_of% @Tryz.underlying30 := @Tryz.underlying30
theorem BF:type_of% @Tryz.underlying303 := @Tryz.underlying303
theorem Bw:type_of% @Tryz.underlying307 := @Tryz.underlying307
theorem dc:type_of% @Tryz.underlying31 := @Tryz.underlying31
theorem BQ:type_of% @Tryz.underlying313 := @Tryz.underlying313
theorem BA:type_of% @Tryz.underlying314 := @Tryz.underlying314
theorem bC:type_of% @Tryz.underlying32 := @Tryz.underlying32
theorem aU:type_of% @Tryz.underlying34 := @Tryz.underlying34
theorem fi:type_of% @Tryz.underlying36 := @Tryz.underlying36
theorem tu4:type_of% @Tryz.underlying4 := @Tryz.underlying4
theorem aO:type_of% @Tryz.underlying46 := @Tryz.underlying46
theorem tu5:type_of% @Tryz.underlying5 := @Tryz.underlying5
theorem bi:type_of% @Tryz.underlying55 := @Tryz.underlying55
theorem Bs:type_of% @Tryz.underlying76 := @Tryz.underlying76
theorem tu9:type_of% @Tryz.underlying9 := @Tryz.underlying9
theorem ax:type_of% @Tryz.underlying94 := @Tryz.underlying94
end Go.Wk
namespace Go.Wk
open Go.Proofs Rp Go.Proofs.Tryz
set_option maxRecDepth 10000
section
open Go.Shelf Go.RowKit Go.Lib Go.Sort Go.Proofs
def qK:Go.Shelf.Ren:=⟨fun x=>match x with | 6=>174 | 15=>266 | 14=>265 | 28=>327 | 29=>328 | 20=>319 | 21=>320 | 22=>321 | 23=>322 | 24=>323 | 25=>324 | 26=>325 | 27=>326 | 46=>367 | 47=>368 | 48=>369 | 49=>370 | 50=>371 | 57=>380 | n=>n,fun x=>match x with | 22=>46 | 24=>94 | 25=>165 | 3=>3 | 39=>232 | 0=>0 | 53=>282 | 55=>284 | 4=>4 | 46=>275 | 45=>274 | 50=>279 | 5=>5 | 9=>9 | 66=>303 | 70=>307 | 76=>313 | 77=>314 | n=>n,fun x=>x⟩
theorem qH:SlLaysF0.n6 Tryz.prog qK where
 mixed:=by kernel_rfl
 f6:=⟨"slices.SortFunc[[]loop.example/g00089/impl.Rec,loop.example/g00089/impl.Rec]",by decide,func174.trans (congrArg some (by kernel_rfl))⟩
 f14:=⟨"slices.pdqsortCmpFunc[loop.example/g00089/impl.Rec]",by decide,func265.trans (congrArg some (by kernel_rfl))⟩
 f15:=func266.trans (congrArg some (by kernel_rfl))
 f20:=⟨"slices.insertionSortCmpFunc[loop.example/g00089/impl.Rec]",by decide,func319.trans (congrArg some (by kernel_rfl))⟩
 f21:=⟨"slices.heapSortCmpFunc[loop.example/g00089/impl.Rec]",by decide,func320.trans (congrArg some (by kernel_rfl))⟩
 f22:=⟨"slices.breakPatternsCmpFunc[loop.example/g00089/impl.Rec]",by decide,func321.trans (congrArg some (by kernel_rfl))⟩
 f23:=⟨"slices.choosePivotCmpFunc[loop.example/g00089/impl.Rec]",by decide,func322.trans (congrArg some (by kernel_rfl))⟩
 f24:=⟨"slices.reverseRangeCmpFunc[loop.example/g00089/impl.Rec]",by decide,func323.trans (congrArg some (by kernel_rfl))⟩
 f25:=⟨"slices.partialInsertionSortCmpFunc[loop.example/g00089/impl.Rec]",by decide,func324.trans (congrArg some (by kernel_rfl))⟩
 f26:=⟨"slices.partitionEqualCmpFunc[loop.example/g00089/impl.Rec]",by decide,func325.trans (congrArg some (by kernel_rfl))⟩
 f27:=⟨"slices.partitionCmpFunc[loop.example/g00089/impl.Rec]",by decide,func326.trans (congrArg some (by kernel_rfl))⟩
 f28:=func327.trans (congrArg some (by kernel_rfl))
 f29:=func328.trans (congrArg some (by kernel_rfl))
 f46:=⟨"slices.siftDownCmpFunc[loop.example/g00089/impl.Rec]",by decide,func367.trans (congrArg some (by kernel_rfl))⟩
 f47:=func368.trans (congrArg some (by kernel_rfl))
 f48:=func369.trans (congrArg some (by kernel_rfl))
 f49:=⟨"slices.medianAdjacentCmpFunc[loop.example/g00089/impl.Rec]",by decide,func370.trans (congrArg some (by kernel_rfl))⟩
 f50:=⟨"slices.medianCmpFunc[loop.example/g00089/impl.Rec]",by decide,func371.trans (congrArg some (by kernel_rfl))⟩
 f57:=⟨"slices.order2CmpFunc[loop.example/g00089/impl.Rec]",by decide,func380.trans (congrArg some (by kernel_rfl))⟩
 t0:=tu0
 a0:=isAgg0
 z0:=ts0
 v0:=zeroValue0
 t3:=tu3
 a3:=isAgg3
 z3:=ts3
 v3:=zeroValue3
 t4:=tu4
 a4:=isAgg4
 z4:=ts4
 v4:=zeroValue4
 t5:=tu5
 a5:=isAgg5
 z5:=ts5
 v5:=zeroValue5
 t9:=tu9
 a9:=isAgg9
 z9:=ts9
 v9:=zeroValue9
 t22:=aO
 a22:=isAgg46
 z22:=dE
 v22:=zeroValue46
 t25:=BY
 a25:=isAgg165
 z25:=BP
 v25:=zeroValue165
 t39:=mA
 a39:=isAgg232
 z39:=BI
 v39:=zeroValue232
 t45:=BT
 a45:=isAgg274
 z45:=Bt
 v45:=zeroValue274
 t46:=BS
 a46:=isAgg275
 z46:=BK
 v46:=zeroValue275
 t50:=BJ
 a50:=isAgg279
 z50:=BC
 v50:=zeroValue279
 t53:=Bv
 a53:=isAgg282
 z53:=BW
 v53:=zeroValue282
 t55:=BZ
 a55:=isAgg284
 z55:=BL
 v55:=zeroValue284
 t66:=BF
 a66:=isAgg303
 z66:=BV
 v66:=zeroValue303
 t70:=Bw
 a70:=isAgg307
 z70:=Bx
 v70:=zeroValue307
 t76:=BQ
 a76:=isAgg313
 z76:=Br
 v76:=zeroValue313
 t77:=BA
 a77:=isAgg314
 z77:=BB
 v77:=zeroValue314
def si:Go.Shelf.Ren:=⟨fun x=>match x with | 106=>176 | 213=>267 | 265=>329 | n=>n,fun x=>match x with | 9=>9 | 3=>3 | n=>n,fun x=>x⟩
theorem sm:Lays.n106 Tryz.prog si where
 mixed:=by kernel_rfl
 f106:=func176.trans (congrArg some (by kernel_rfl))
 f213:=func267.trans (congrArg some (by kernel_rfl))
 f265:=func329.trans (congrArg some (by kernel_rfl))
 t3:=tu3
 a3:=isAgg3
 z3:=ts3
 v3:=zeroValue3
 t9:=tu9
 a9:=isAgg9
 z9:=ts9
 v9:=zeroValue9
set_option maxHeartbeats 1000000 in
theorem rS (x y:RecV) (W:World):Calls Tryz.prog 175 #[.agg x.cs.toArray,.agg y.cs.toArray] W fun e w'=>e = .returned (.int .i64 (cfN x y))∧∃ q os',w'=Go.Sort.grow (W.drewN q) os':=by
 have hcon:=fun W'=>Any.strings_Compare sm x.r.Name y.r.Name W'
 change ∀ W',Calls Tryz.prog 176 _ _ _ at hcon
 change Calls Tryz.prog 175 _ _ fun e w'=>e = .returned (.int .i64 (Lib.compareBytes x.r.Name.data.toList y.r.Name.data.toList))∧_
 generalize Lib.compareBytes x.r.Name.data.toList y.r.Name.data.toList=r at hcon ⊢
 unfold RecV.cs
 go_enter func175,ntmps175
 go_wp2_with (go_at_call 176; refine (hcon _).mono ?_; rintro e w' ⟨rfl,rfl⟩)
 go_ret
 exact ⟨Z,0,_,by rw [alloc_eq_grow,alloc_eq_grow,grow_grow]; rfl⟩
theorem uO {w:World}{a:Option Addr}{n c:Nat}{vs:List RecV}{fp:List Nat}(o:own true w [.slice a n c] vs fp) (nd:fp.Nodup) (hl:vs.length≤1000000):Ret Tryz.prog 174 #[.slice a n c,.func (.func 175) #[] #[]] w fun v w'=>∃ us,Mut w w' fp [.slice a n c] us∧us.Perm vs∧Ord nLt nameV us:=
 vw (g:=175) qH Tryz.isAgg94 aJ (enters_of Tryz.func175 (by kernel_rfl) rfl) (fun W x y=>rS x y W) o nd hl
end
end Go.Wk
namespace Go.Wk
open Go.Proofs Rp Go.Proofs.Tryz
set_option maxRecDepth 10000
theorem iq {w:World}{xs:List Int}{xsA:Option Addr}{xsC:Nat}{l:Int}(xsS:Sees w [.slice xsA xs.length xsC] xs) (hl : -1≤l∧l≤1048576):Ret Tryz.prog 56 #[.slice xsA xs.length xsC,.int .i64 l] w fun v w'=>Ext No w w'∧(v = .int .i64 (if l-xs.length<0 then -1 else l-xs.length)):=by
 have xsL:=sL xsS;obtain ⟨xsF,xsO⟩:=xsS;refine aH (vs:=[.slice xsA xs.length xsC,.int .i64 l]) func56 Z ntmps56 Z (fun Q hQ hN=>?_);have H0:=Sep.start (w:=w) (F:=[seen false [.slice xsA xs.length xsC] xs xsF]) (ae xsO (by simp));refine ab (sA Z Z (aa (ab (sR 2 Z (sV Z (aB bn Z) (sV Z (bu Z Z iO) (sA Z Z (aa (ac (ab (sR 2 Z (aa (au Z (fun c1=>?_) (fun c1=>?_))))))))))))))
 ·refine ab (rA hQ results56 Z ?_);exact ⟨H0.ext,by rw [if_pos c1]⟩
 ·refine aj (ab (sR 2 Z (rN hQ results56 Z ?_)));exact ⟨H0.ext,by rw [if_neg c1]⟩
theorem ig {w:World}{xs ys:List Int}{xsA ysA:Option Addr}{xsC ysC:Nat}(xsS:Sees w [.slice xsA xs.length xsC] xs) (ysS:Sees w [.slice ysA ys.length ysC] ys):Ret Tryz.prog 73 #[.slice xsA xs.length xsC,.slice ysA ys.length ysC] w fun v w'=>Ext No w w'∧(v = .bool (decide (xs=ys))):=by
 have xsL:=sL xsS;obtain ⟨xsF,xsO⟩:=xsS;have ysL:=sL ysS;obtain ⟨ysF,ysO⟩:=ysS;refine aH (vs:=[.slice xsA xs.length xsC,.slice ysA ys.length ysC]) func73 Z ntmps73 Z (fun Q hQ hN=>?_);have H0:=Sep.start (w:=w) (F:=[seen false [.slice xsA xs.length xsC] xs xsF,seen false [.slice ysA ys.length ysC] ys ysF]) (ae xsO (ae ysO (by simp)));refine ab (sA Z Z (aa (ac (ab (sM Z Z (sV Z (aB bn Z) (sM Z Z (sV Z (aB bn Z) (sV Z (bp Z Z) (aa (au Z (fun c1=>?_) (fun c1=>?_))))))))))))
 ·refine ab (sA Z Z (aa (rT hQ results73 Z (⟨H0.ext,?_⟩))));rw [decide_eq_false (fun e=>by subst e; exact c1 rfl)]
 ·refine aj (ac (ab (sA Z Z (aa (ao (bx (γ:=Nat) (fun k=>[(0,.slice xsA xs.length xsC),(1,.slice ysA ys.length ysC),(5,.int .i64 k)]) (fun k w'=>Sep No w [] [seen false [.slice xsA xs.length xsC] xs xsF,seen false [.slice ysA ys.length ysC] ys ysF] w'∧k≤xs.length∧(∀ i,i<k→xs.getD i 0=ys.getD i 0)) (fun k=>xs.length-k) 0 ⟨Z,Z,Z,trivial⟩ ⟨H0,by omega,fun i hi=>by omega⟩ (fun k w1 H1=>?_)))))));obtain ⟨H1,hk,he⟩:=H1;refine ac (ab (sR 2 Z (sV Z (aB bn Z) (sV Z (aT Z Z) (aa (au Z (fun c2=>?_) (fun c2=>?_)))))))
  ·refine aj (ac (ao (ac ?_)));obtain ⟨eb1,eo1,ee1,ec1⟩:=cb (H1.seen 0 Z) k (by omega);have eI1:=cr (H1.seen 0 Z) k (by omega);obtain ⟨eb2,eo2,ee2,ec2⟩:=cb (H1.seen 1 Z) k (by omega);have eI2:=cr (H1.seen 1 Z) k (by omega);refine bz (S:=Ext No _) (oQ [1,3,5,7,9,11,13,15,16]) (by kernel_rfl) (by kernel_rfl) (by kernel_rfl) Z (fun _=>Ext.refl.drawn _) (fun q1=>?_);have H2:=H1.drawn q1;refine dR 2 Z (dV Z Z (fun zw hx=>ay bn ts2 Z Z ee1 k (by omega) (by omega)) (dV Z Z (fun zw hx=>ah tu2 Z Z (hx.cell ec1)) (dR 2 Z (dV Z Z (fun zw hx=>ay bn ts2 Z Z ee2 k (by omega) (by omega)) (dV Z Z (fun zw hx=>ah tu2 Z Z (hx.cell ec2)) (aR Z (wn Z) Z Z (bp Z Z) (aS (au Z (fun c3=>?_) (fun c3=>?_)))))))))
   ·refine ab (sA Z Z (aa (rT hQ results73 Z (⟨H2.ext,?_⟩))));rw [decide_eq_false (fun e=>by subst e; exact c3 rfl)]
   ·refine aj (an (sM Z Z (sV Z (aA Z Z iO) (sA Z Z (aa (⟨k+1,⟨Z,Z,Z,trivial⟩,⟨H2,by omega,fun i hi=>?_⟩,by dsimp only; omega⟩))))));have c4:xs.getD k 0=ys.getD k 0:=by omega
    by_cases e:i=k
    ·subst e; exact c4
    ·exact he i (by omega)
  ·refine aQ (ab (sA Z Z (aa (rT hQ results73 Z (⟨H1.ext,?_⟩)))));rw [decide_eq_true (cY (d:=0) (by omega) fun i hi=>he i (by omega))]
theorem fG {w:World}{xs:List UInt8}{xsA:Option Addr}{xsC:Nat}{l:Int}(xsS:Sees w [.slice xsA xs.length xsC] xs) (hl : -1≤l∧l≤1048576):Ret Tryz.prog 353 #[.slice xsA xs.length xsC,.int .i64 l] w fun v w'=>Ext No w w'∧(v = .int .i64 (if l-xs.length<0 then -1 else l-xs.length)):=by
 have xsL:=sL xsS;obtain ⟨xsF,xsO⟩:=xsS;refine aH (vs:=[.slice xsA xs.length xsC,.int .i64 l]) func353 Z ntmps353 Z (fun Q hQ hN=>?_);have H0:=Sep.start (w:=w) (F:=[seen false [.slice xsA xs.length xsC] xs xsF]) (ae xsO (by simp));refine ab (sA Z Z (aa (ab (sR 2 Z (sV Z (aB bi Z) (sV Z (bu Z Z iO) (sA Z Z (aa (ac (ab (sR 2 Z (aa (au Z (fun c1=>?_) (fun c1=>?_))))))))))))))
 ·refine ab (rA hQ results353 Z ?_);exact ⟨H0.ext,by rw [if_pos c1]⟩
 ·refine aj (ab (sR 2 Z (rN hQ results353 Z ?_)));exact ⟨H0.ext,by rw [if_neg c1]⟩
theorem eE {w:World}{xs ys:List UInt8}{xsA ysA:Option Addr}{xsC ysC:Nat}(xsS:Sees w [.slice xsA xs.length xsC] xs) (ysS:Sees w [.slice ysA ys.length ysC] ys):Ret Tryz.prog 38 #[.slice xsA xs.length xsC,.slice ysA ys.length ysC] w fun v w'=>Ext No w w'∧(v = .bool (decide (xs=ys))):=by
 have xsL:=sL xsS;obtain ⟨xsF,xsO⟩:=xsS;have ysL:=sL ysS;obtain ⟨ysF,ysO⟩:=ysS;refine aH (vs:=[.slice xsA xs.length xsC,.slice ysA ys.length ysC]) func38 Z ntmps38 Z (fun Q hQ hN=>?_);have H0:=Sep.start (w:=w) (F:=[seen false [.slice xsA xs.length xsC] xs xsF,seen false [.slice ysA ys.length ysC] ys ysF]) (ae xsO (ae ysO (by simp)));refine ab (sA Z Z (aa (ac (ab (sM Z Z (sV Z (aB bi Z) (sM Z Z (sV Z (aB bi Z) (sV Z (bp Z Z) (aa (au Z (fun c1=>?_) (fun c1=>?_))))))))))))
 ·refine ab (sA Z Z (aa (rT hQ results38 Z (⟨H0.ext,?_⟩))));rw [decide_eq_false (fun e=>by subst e; exact c1 rfl)]
 ·refine aj (ac (ab (sA Z Z (aa (ao (bx (γ:=Nat) (fun k=>[(0,.slice xsA xs.length xsC),(1,.slice ysA ys.length ysC),(5,.int .i64 k)]) (fun k w'=>Sep No w [] [seen false [.slice xsA xs.length xsC] xs xsF,seen false [.slice ysA ys.length ysC] ys ysF] w'∧k≤xs.length∧(∀ i,i<k→xs.getD i 0=ys.getD i 0)) (fun k=>xs.length-k) 0 ⟨Z,Z,Z,trivial⟩ ⟨H0,by omega,fun i hi=>by omega⟩ (fun k w1 H1=>?_)))))));obtain ⟨H1,hk,he⟩:=H1;refine ac (ab (sR 2 Z (sV Z (aB bi Z) (sV Z (aT Z Z) (aa (au Z (fun c2=>?_) (fun c2=>?_)))))))
  ·refine aj (ac (ao (ac ?_)));obtain ⟨eb1,eo1,ee1,ec1⟩:=eK (H1.seen 0 Z) k (by omega);obtain ⟨eb2,eo2,ee2,ec2⟩:=eK (H1.seen 1 Z) k (by omega);refine bz (S:=Ext No _) (oQ [1,3,5,7,9,11,13,15,16]) (by kernel_rfl) (by kernel_rfl) (by kernel_rfl) Z (fun _=>Ext.refl.drawn _) (fun q1=>?_);have H2:=H1.drawn q1;refine dR 2 Z (dV Z Z (fun zw hx=>ay bi ts5 Z Z ee1 k (by omega) (by omega)) (dV Z Z (fun zw hx=>ah tu5 Z Z (hx.cell ec1)) (dR 2 Z (dV Z Z (fun zw hx=>ay bi ts5 Z Z ee2 k (by omega) (by omega)) (dV Z Z (fun zw hx=>ah tu5 Z Z (hx.cell ec2)) (aR Z (wn Z) Z Z (bp Z Z) (aS (au Z (fun c3=>?_) (fun c3=>?_)))))))))
   ·refine ab (sA Z Z (aa (rT hQ results38 Z (⟨H2.ext,?_⟩))));rw [decide_eq_false (fun e=>by subst e; exact c3 rfl)]
   ·refine aj (an (sM Z Z (sV Z (aA Z Z iO) (sA Z Z (aa (⟨k+1,⟨Z,Z,Z,trivial⟩,⟨H2,by omega,fun i hi=>?_⟩,by dsimp only; omega⟩))))));have c4:xs.getD k 0=ys.getD k 0:=by apply yz.1; omega
    by_cases e:i=k
    ·subst e; exact c4
    ·exact he i (by omega)
  ·refine aQ (ab (sA Z Z (aa (rT hQ results38 Z (⟨H1.ext,?_⟩)))));rw [decide_eq_true (cY (d:=0) (by omega) fun i hi=>he i (by omega))]
theorem ir {w:World}{xs:List Int}{xsA:Option Addr}{xsC:Nat}(xsS:Sees w [.slice xsA xs.length xsC] xs) (hl:xs.length≤1048576):Ret Tryz.prog 64 #[.slice xsA xs.length xsC] w fun v w'=>Ext No w w'∧(Res w w' [v] xs):=by
 have xsL:=sL xsS;obtain ⟨xsF,xsO⟩:=xsS;refine aH (vs:=[.slice xsA xs.length xsC]) func64 Z ntmps64 Z (fun Q hQ hN=>?_);have H0:=Sep.start (w:=w) (F:=[seen false [.slice xsA xs.length xsC] xs xsF]) (ae xsO (by simp));refine ab (sA Z Z (aa (ab (sM Z Z (sV Z (aB bn Z) (ml (wn Z) Z bn hJ AZ Z (by omega) (by unfold maxLen; omega) H0 (fun b1 w1 e1 g1 H1=>sA Z Z (aa (ac (ab (sA Z Z (aa (ao (bx (γ:=Nat × List Nat) (fun (k,fp)=>[(0,.slice xsA xs.length xsC),(3,.slice (some ⟨b1,0,none⟩) xs.length xs.length),(4,.int .i64 k)]) (fun (k,fp) w'=>Sep No w [mine [.slice (some ⟨b1,0,none⟩) xs.length xs.length] (cp xs k 0) fp] [seen false [.slice xsA xs.length xsC] xs xsF] w'∧k≤xs.length) (fun (k,fp)=>xs.length-k) (0,[b1]) ⟨Z,Z,Z,trivial⟩ ⟨jq ▸ H1,by omega⟩ (fun (k,fp) w2 H2=>?_)))))))))))))));obtain ⟨H2,hk⟩:=H2;refine ac (ab (sR 2 Z (sV Z (aB bn Z) (sV Z (aT Z Z) (aa (au Z (fun c1=>?_) (fun c1=>?_)))))))
 ·refine aj (ac (ao ?_));obtain ⟨eb1,eo1,ee1,ec1⟩:=cb (H2.seen 0 Z) k (by omega);have eI1:=cr (H2.seen 0 Z) k (by omega);obtain ⟨eb2,eo2,ee2,ec2⟩:=cb (H2.mine 0 Z) k (by rw [fN (xs:=xs) (k:=k) (by omega)]; omega);refine an (sR 4 Z (sV Z (ay bn ts2 Z Z ee1 k (by omega) (by omega)) (sV Z (ah tu2 Z Z ec1) (sV Z (ay bn ts2 Z Z ee2 k (by omega) (by omega)) (rW (wn Z) ts2 Z H2 0 Z k (by rw [fN (xs:=xs) (k:=k) (by omega)]; omega) Z ee2 Z (yg (by first | assumption | (unfold I64ok; omega))) (fun w3 fp1 e2 H3=>aa (an (sM Z Z (sV Z (aA Z Z iO) (sA Z Z (aa (⟨(k+1,_),⟨Z,Z,Z,trivial⟩,⟨mg (xs:=xs) (k:=k) (d:=0) (by omega) ▸ H3,by omega⟩,by dsimp only; omega⟩))))))))))))
 ·refine aQ (ab (sR 2 Z (rN hQ results64 Z ?_)));obtain rfl:k=xs.length:=by omega
  exact ⟨H2.ext,by
   have h:=H2.out 0 Z
   rwa [lY] at h⟩
theorem cE {w:World}{xs:List UInt8}{xsA:Option Addr}{xsC:Nat}(xsS:Sees w [.slice xsA xs.length xsC] xs) (hl:xs.length≤1048576):Ret Tryz.prog 36 #[.slice xsA xs.length xsC] w fun v w'=>Ext No w w'∧(Res w w' [v] xs):=by
 have xsL:=sL xsS;obtain ⟨xsF,xsO⟩:=xsS;refine aH (vs:=[.slice xsA xs.length xsC]) func36 Z ntmps36 Z (fun Q hQ hN=>?_);have H0:=Sep.start (w:=w) (F:=[seen false [.slice xsA xs.length xsC] xs xsF]) (ae xsO (by simp));refine ab (sA Z Z (aa (ab (sM Z Z (sV Z (aB bi Z) (ml (wn Z) Z bi fa Bj Z (by omega) (by unfold maxLen; omega) H0 (fun b1 w1 e1 g1 H1=>sA Z Z (aa (ac (ab (sA Z Z (aa (ao (bx (γ:=Nat × List Nat) (fun (k,fp)=>[(0,.slice xsA xs.length xsC),(3,.slice (some ⟨b1,0,none⟩) xs.length xs.length),(4,.int .i64 k)]) (fun (k,fp) w'=>Sep No w [mine [.slice (some ⟨b1,0,none⟩) xs.length xs.length] (cp xs k 0) fp] [seen false [.slice xsA xs.length xsC] xs xsF] w'∧k≤xs.length) (fun (k,fp)=>xs.length-k) (0,[b1]) ⟨Z,Z,Z,trivial⟩ ⟨jq ▸ H1,by omega⟩ (fun (k,fp) w2 H2=>?_)))))))))))))));obtain ⟨H2,hk⟩:=H2;refine ac (ab (sR 2 Z (sV Z (aB bi Z) (sV Z (aT Z Z) (aa (au Z (fun c1=>?_) (fun c1=>?_)))))))
 ·refine aj (ac (ao ?_));obtain ⟨eb1,eo1,ee1,ec1⟩:=eK (H2.seen 0 Z) k (by omega);obtain ⟨eb2,eo2,ee2,ec2⟩:=eK (H2.mine 0 Z) k (by rw [fN (xs:=xs) (k:=k) (by omega)]; omega);refine an (sR 4 Z (sV Z (ay bi ts5 Z Z ee1 k (by omega) (by omega)) (sV Z (ah tu5 Z Z ec1) (sV Z (ay bi ts5 Z Z ee2 k (by omega) (by omega)) (rW (wn Z) ts5 Z H2 0 Z k (by rw [fN (xs:=xs) (k:=k) (by omega)]; omega) Z ee2 Z uJ (fun w3 fp1 e2 H3=>aa (an (sM Z Z (sV Z (aA Z Z iO) (sA Z Z (aa (⟨(k+1,_),⟨Z,Z,Z,trivial⟩,⟨mg (xs:=xs) (k:=k) (d:=0) (by omega) ▸ H3,by omega⟩,by dsimp only; omega⟩))))))))))))
 ·refine aQ (ab (sR 2 Z (rN hQ results36 Z ?_)));obtain rfl:k=xs.length:=by omega
  exact ⟨H2.ext,by
   have h:=H2.out 0 Z
   rwa [lY] at h⟩
theorem oV {w:World}{xs:List Int}{xsA:Option Addr}{xsC:Nat}{x:Int}(xsS:Sees w [.slice xsA xs.length xsC] xs):Ret Tryz.prog 129 #[.slice xsA xs.length xsC,.int .i64 x] w fun v w'=>Ext No w w'∧(v = .bool (decide (x∈xs))):=by
 have xsL:=sL xsS;obtain ⟨xsF,xsO⟩:=xsS;refine aH (vs:=[.slice xsA xs.length xsC,.int .i64 x]) func129 Z ntmps129 Z (fun Q hQ hN=>?_);have H0:=Sep.start (w:=w) (F:=[seen false [.slice xsA xs.length xsC] xs xsF]) (ae xsO (by simp));refine ab (sA Z Z (aa (ac (ab (sA Z Z (aa (ao (bx (γ:=Nat) (fun k=>[(0,.slice xsA xs.length xsC),(1,.int .i64 x),(5,.int .i64 k)]) (fun k w'=>Sep No w [] [seen false [.slice xsA xs.length xsC] xs xsF] w'∧k≤xs.length∧(∀ i,i<k→xs.getD i 0≠x)) (fun k=>xs.length-k) 0 ⟨Z,Z,Z,trivial⟩ ⟨H0,by omega,fun i hi=>by omega⟩ (fun k w1 H1=>?_)))))))));obtain ⟨H1,hk,he⟩:=H1;refine ac (ab (sR 2 Z (sV Z (aB bn Z) (sV Z (aT Z Z) (aa (au Z (fun c1=>?_) (fun c1=>?_)))))))
 ·refine aj (ac (ao (ac ?_)));obtain ⟨eb1,eo1,ee1,ec1⟩:=cb (H1.seen 0 Z) k (by omega);have eI1:=cr (H1.seen 0 Z) k (by omega);refine an (sR 2 Z (sV Z (ay bn ts2 Z Z ee1 k (by omega) (by omega)) (sV Z (ah tu2 Z Z ec1) (sR 2 Z (aa (au Z (fun c2=>?_) (fun c2=>?_)))))))
  ·refine ab (rA hQ results129 Z ?_);exact ⟨H1.ext,by rw [decide_eq_true (qt (d:=0) (k:=k) (by omega) c2)]⟩
  ·refine aj (an (sM Z Z (sV Z (aA Z Z iO) (sA Z Z (aa (⟨k+1,⟨Z,Z,Z,trivial⟩,⟨H1,by omega,fun i hi=>?_⟩,by dsimp only; omega⟩))))))
   by_cases e:i=k
   ·subst e; omega
   ·exact he i (by omega)
 ·refine aQ (ab (rA hQ results129 Z ?_));exact ⟨H1.ext,by rw [decide_eq_false (np (d:=0) fun i hi=>he i (by omega))]⟩
theorem gp {w:World}{xs:List Int}{xsA:Option Addr}{xsC:Nat}{x:Int}(xsS:Sees w [.slice xsA xs.length xsC] xs):Ret Tryz.prog 286 #[.slice xsA xs.length xsC,.int .i64 x] w fun v w'=>Ext No w w'∧(v = .int .i64 (idxOf xs x)):=by
 have xsL:=sL xsS;obtain ⟨xsF,xsO⟩:=xsS;refine aH (vs:=[.slice xsA xs.length xsC,.int .i64 x]) func286 Z ntmps286 Z (fun Q hQ hN=>?_);have H0:=Sep.start (w:=w) (F:=[seen false [.slice xsA xs.length xsC] xs xsF]) (ae xsO (by simp));refine ab (sA Z Z (aa (ac (ab (sM Z Z (sV Z (aB bn Z) (sM Z Z (aa (ao (bx (γ:=Nat) (fun k=>[(0,.slice xsA xs.length xsC),(1,.int .i64 x),(7,.int .i64 xs.length),(8,.int .i64 k)]) (fun k w'=>Sep No w [] [seen false [.slice xsA xs.length xsC] xs xsF] w'∧k≤xs.length∧(∀ i,i<k→xs.getD i 0≠x)) (fun k=>xs.length-k) 0 ⟨Z,Z,Z,Z,trivial⟩ ⟨H0,by omega,fun i hi=>by omega⟩ (fun k w1 H1=>?_)))))))))));obtain ⟨H1,hk,he⟩:=H1;refine ab (sV Z (aT Z Z) (aa (ac (au Z (fun c1=>?_) (fun c1=>?_)))))
 ·refine aj (ac (ao (ab (sR 2 Z (aa (ac ?_))))));obtain ⟨eb1,eo1,ee1,ec1⟩:=cb (H1.seen 0 Z) k (by omega);have eI1:=cr (H1.seen 0 Z) k (by omega);refine an (sR 3 Z (sV Z (ay bn ts2 Z Z ee1 k (by omega) (by omega)) (sV Z (ah tu2 Z Z ec1) (sV Z (bX Z Z) (aa (au Z (fun c2=>?_) (fun c2=>?_)))))))
  ·refine ab (sR 2 Z (rN hQ results286 Z ?_));exact ⟨H1.ext,congrArg (Value.int .i64) (yQ (by omega) c2.symm he).symm⟩
  ·refine aj (an (sV Z (aA Z Z iO) (sM Z Z (aa (⟨k+1,⟨Z,Z,Z,Z,trivial⟩,⟨H1,by omega,fun i hi=>?_⟩,by dsimp only; omega⟩)))))
   by_cases e:i=k
   ·subst e; omega
   ·exact he i (by omega)
 ·refine aQ (ab (rA hQ results286 Z ?_));exact ⟨H1.ext,congrArg (Value.int .i64) (ze fun i hi=>he i (by omega)).symm⟩
theorem cH {w:World}{xs:List Int}{xsA:Option Addr}{xsC:Nat}{x:Int}(xsS:Sees w [.slice xsA xs.length xsC] xs):Ret Tryz.prog 215 #[.slice xsA xs.length xsC,.int .i64 x] w fun v w'=>Ext No w w'∧(v = .bool (decide (x∈xs))):=by
 have xsL:=sL xsS;obtain ⟨xsF,xsO⟩:=xsS;refine aH (vs:=[.slice xsA xs.length xsC,.int .i64 x]) func215 Z ntmps215 Z (fun Q hQ hN=>?_);have H0:=Sep.start (w:=w) (F:=[seen false [.slice xsA xs.length xsC] xs xsF]) (ae xsO (by simp));refine ab (sA Z Z (aa (ab (sR 2 Z (sE func286 uY Z (gp (H0.sees 0 Z)) H0 (fun w1 e1 H1=>sR 2 Z (rN hQ results215 Z ?_)))))));exact ⟨H1.ext,by rw [wS]⟩
end Go.Wk
namespace Go.Wk
open Go.Proofs Rp Go.Proofs.Tryz
set_option maxRecDepth 10000
theorem dL {w:World}{xs:List UInt8}{xsA:Option Addr}{xsC:Nat}{k:Int}{fp:List Nat}(o:own true w [.slice xsA xs.length xsC] xs fp) (nd:fp.Nodup) (hk:0≤k∧k+xs.length≤4611686018427387904):Ret Tryz.prog 39 #[.slice xsA xs.length xsC,.int .i64 k] w fun v w'=>(v = .int .i64 (k+xs.length)∧∃ xs',Mut w w' fp [.slice xsA xs.length xsC] xs'∧xs'.length=xs.length∧MarkB xs' k):=by
 have len:=oL o;refine aH (vs:=[.slice xsA xs.length xsC,.int .i64 k]) func39 Z ntmps39 Z (fun Q hQ hN=>?_);have H0:=Sep.begin o nd;refine ab (sA Z Z (aa (ac (ab (sA Z Z (aa (ao (bx (γ:=Nat × List UInt8 × List Nat) (fun (i,ys,f)=>[(0,.slice xsA xs.length xsC),(1,.int .i64 (k+i)),(5,.int .i64 i)]) (fun (i,ys,f) w'=>Sep (· ∈ fp) w [mine [.slice xsA xs.length xsC] ys f] [] w'∧i≤xs.length∧ys.length=xs.length∧(∀ j,j<i→ys.getD j 0=qN (k+j))) (fun (i,ys,f)=>xs.length-i) (0,xs,fp) ⟨Z,eqI (by omega),Z,trivial⟩ ⟨H0,by omega,Z,fun j hj=>by omega⟩ (fun (i,ys,f) w1 H1=>?_)))))))));obtain ⟨H1,hi,hl,hm⟩:=H1;refine ac (ab (sR 2 Z (sV Z (aB bi Z) (sV Z (aT Z Z) (aa (au Z (fun c1=>?_) (fun c1=>?_)))))))
 ·refine aj (ac (ao (ac ?_)));obtain ⟨eb1,eo1,ee1,ec1⟩:=eK (H1.mine 0 Z) i (by omega);refine an (sR 3 Z (sV Z (qa tu3 tu5 Z) (sV Z (ay bi ts5 Z Z ee1 i (by omega) (by omega)) (rW (wn Z) ts5 Z H1 0 Z i (by omega) Z ee1 Z uJ (fun w2 fp1 e1 H2=>aa (an (sM Z Z (sV Z (aA Z Z iO) (sA Z Z (aa (an (sM Z Z (sV Z (aA Z Z iO) (sA Z Z (aa (⟨(i+1,_,_),⟨Z,eqI (by omega),Z,trivial⟩,⟨H2,by omega,by rw [List.length_set]; exact hl,fun j hj=>?_⟩,by dsimp only; omega⟩))))))))))))))));rw [dm]
  by_cases e:j=i
  ·subst e; rw [if_pos ⟨rfl,by omega⟩]
  ·rw [if_neg (fun h=>e h.1)]; exact hm j (by omega)
 ·refine aQ (ab (sR 2 Z (rN hQ results39 Z ?_)));obtain rfl:i=xs.length:=by omega
  exact ⟨Z,_,H1.done,hl,fun j hj=>hm j (by omega)⟩
theorem gl {w:World}{xs:List Int}{xsA:Option Addr}{xsC:Nat}{k:Int}{fp:List Nat}(o:own true w [.slice xsA xs.length xsC] xs fp) (nd:fp.Nodup) (hk:0≤k∧k+xs.length≤4611686018427387904):Ret Tryz.prog 76 #[.slice xsA xs.length xsC,.int .i64 k] w fun v w'=>(v = .int .i64 (k+xs.length)∧∃ xs',Mut w w' fp [.slice xsA xs.length xsC] xs'∧xs'.length=xs.length∧MarkI xs' k):=by
 have len:=oL o;refine aH (vs:=[.slice xsA xs.length xsC,.int .i64 k]) func76 Z ntmps76 Z (fun Q hQ hN=>?_);have H0:=Sep.begin o nd;refine ab (sA Z Z (aa (ac (ab (sA Z Z (aa (ao (bx (γ:=Nat × List Int × List Nat) (fun (i,ys,f)=>[(0,.slice xsA xs.length xsC),(1,.int .i64 (k+i)),(5,.int .i64 i)]) (fun (i,ys,f) w'=>Sep (· ∈ fp) w [mine [.slice xsA xs.length xsC] ys f] [] w'∧i≤xs.length∧ys.length=xs.length∧(∀ j,j<i→ys.getD j 0=(k+j))) (fun (i,ys,f)=>xs.length-i) (0,xs,fp) ⟨Z,eqI (by omega),Z,trivial⟩ ⟨H0,by omega,Z,fun j hj=>by omega⟩ (fun (i,ys,f) w1 H1=>?_)))))))));obtain ⟨H1,hi,hl,hm⟩:=H1;refine ac (ab (sR 2 Z (sV Z (aB bn Z) (sV Z (aT Z Z) (aa (au Z (fun c1=>?_) (fun c1=>?_)))))))
 ·refine aj (ac (ao (ac ?_)));obtain ⟨eb1,eo1,ee1,ec1⟩:=cb (H1.mine 0 Z) i (by omega);refine an (sR 3 Z (sV Z (ay bn ts2 Z Z ee1 i (by omega) (by omega)) (rW (wn Z) ts2 Z H1 0 Z i (by omega) Z ee1 Z (yg (by unfold I64ok; omega)) (fun w2 fp1 e1 H2=>aa (an (sM Z Z (sV Z (aA Z Z iO) (sA Z Z (aa (an (sM Z Z (sV Z (aA Z Z iO) (sA Z Z (aa (⟨(i+1,_,_),⟨Z,eqI (by omega),Z,trivial⟩,⟨H2,by omega,by rw [List.length_set]; exact hl,fun j hj=>?_⟩,by dsimp only; omega⟩)))))))))))))));rw [dm]
  by_cases e:j=i
  ·subst e; rw [if_pos ⟨rfl,by omega⟩]
  ·rw [if_neg (fun h=>e h.1)]; exact hm j (by omega)
 ·refine aQ (ab (sR 2 Z (rN hQ results76 Z ?_)));obtain rfl:i=xs.length:=by omega
  exact ⟨Z,_,H1.done,hl,fun j hj=>hm j (by omega)⟩
theorem eX {w:World}{xs:List UInt8}{xsA:Option Addr}{xsC:Nat}{k:Int}(xsS:Sees w [.slice xsA xs.length xsC] xs) (hk:0≤k∧k+xs.length≤4611686018427387904) (hm:MarkB xs k):Ret Tryz.prog 115 #[.slice xsA xs.length xsC,.int .i64 k] w fun v w'=>Ext No w w'∧(v = .int .i64 (k+xs.length)):=by
 have xsL:=sL xsS;obtain ⟨xsF,xsO⟩:=xsS;refine aH (vs:=[.slice xsA xs.length xsC,.int .i64 k]) func115 Z ntmps115 Z (fun Q hQ hN=>?_);have H0:=Sep.start (w:=w) (F:=[seen false [.slice xsA xs.length xsC] xs xsF]) (ae xsO (by simp));refine ab (sA Z Z (aa (ac (ab (sA Z Z (aa (ao (bx (γ:=Nat) (fun i=>[(0,.slice xsA xs.length xsC),(1,.int .i64 (k+i)),(5,.int .i64 i)]) (fun i w'=>Sep No w [] [seen false [.slice xsA xs.length xsC] xs xsF] w'∧i≤xs.length) (fun i=>xs.length-i) 0 ⟨Z,eqI (by omega),Z,trivial⟩ ⟨H0,by omega⟩ (fun i w1 H1=>?_)))))))));obtain ⟨H1,hi⟩:=H1;refine ac (ab (sR 2 Z (sV Z (aB bi Z) (sV Z (aT Z Z) (aa (au Z (fun c1=>?_) (fun c1=>?_)))))))
 ·refine aj (ac (ao (ac (ac ?_))));obtain ⟨eb1,eo1,ee1,ec1⟩:=eK (H1.seen 0 Z) i (by omega);refine an (sR 2 Z (sV Z (ay bi ts5 Z Z ee1 i (by omega) (by omega)) (sV Z (ah tu5 Z Z ec1) (sM Z Z (sV Z (qa tu3 tu5 Z) (sV Z (bp Z Z) (aa (au Z (fun c2=>?_) (fun c2=>?_)))))))))
  ·exact absurd (by rw [hm i (by omega)]) c2
  ·refine aj (an (sM Z Z (sV Z (aA Z Z iO) (sA Z Z (aa (an (sM Z Z (sV Z (aA Z Z iO) (sA Z Z (aa (⟨i+1,⟨Z,eqI (by omega),Z,trivial⟩,⟨H1,by omega⟩,by dsimp only; omega⟩)))))))))))
 ·refine aQ (ab (sR 2 Z (rN hQ results115 Z ?_)));obtain rfl:i=xs.length:=by omega
  exact ⟨H1.ext,Z⟩
theorem gA {w:World}{xs:List Int}{xsA:Option Addr}{xsC:Nat}{k:Int}(xsS:Sees w [.slice xsA xs.length xsC] xs) (hk:0≤k∧k+xs.length≤4611686018427387904) (hm:MarkI xs k):Ret Tryz.prog 150 #[.slice xsA xs.length xsC,.int .i64 k] w fun v w'=>Ext No w w'∧(v = .int .i64 (k+xs.length)):=by
 have xsL:=sL xsS;obtain ⟨xsF,xsO⟩:=xsS;refine aH (vs:=[.slice xsA xs.length xsC,.int .i64 k]) func150 Z ntmps150 Z (fun Q hQ hN=>?_);have H0:=Sep.start (w:=w) (F:=[seen false [.slice xsA xs.length xsC] xs xsF]) (ae xsO (by simp));refine ab (sA Z Z (aa (ac (ab (sA Z Z (aa (ao (bx (γ:=Nat) (fun i=>[(0,.slice xsA xs.length xsC),(1,.int .i64 (k+i)),(5,.int .i64 i)]) (fun i w'=>Sep No w [] [seen false [.slice xsA xs.length xsC] xs xsF] w'∧i≤xs.length) (fun i=>xs.length-i) 0 ⟨Z,eqI (by omega),Z,trivial⟩ ⟨H0,by omega⟩ (fun i w1 H1=>?_)))))))));obtain ⟨H1,hi⟩:=H1;refine ac (ab (sR 2 Z (sV Z (aB bn Z) (sV Z (aT Z Z) (aa (au Z (fun c1=>?_) (fun c1=>?_)))))))
 ·refine aj (ac (ao (ac (ac ?_))));obtain ⟨eb1,eo1,ee1,ec1⟩:=cb (H1.seen 0 Z) i (by omega);have eI1:=cr (H1.seen 0 Z) i (by omega);refine an (sR 2 Z (sV Z (ay bn ts2 Z Z ee1 i (by omega) (by omega)) (sV Z (ah tu2 Z Z ec1) (sR 2 Z (aa (au Z (fun c2=>?_) (fun c2=>?_)))))))
  ·exact absurd (hm i (by omega)) c2
  ·refine aj (an (sM Z Z (sV Z (aA Z Z iO) (sA Z Z (aa (an (sM Z Z (sV Z (aA Z Z iO) (sA Z Z (aa (⟨i+1,⟨Z,eqI (by omega),Z,trivial⟩,⟨H1,by omega⟩,by dsimp only; omega⟩)))))))))))
 ·refine aQ (ab (sR 2 Z (rN hQ results150 Z ?_)));obtain rfl:i=xs.length:=by omega
  exact ⟨H1.ext,Z⟩
end Go.Wk
namespace Go.Wk
open Go.Proofs Rp Go.Proofs.Tryz
set_option maxRecDepth 10000
theorem bj {w:World}{v0 lo hi:Int}  : Ret Tryz.prog 161 #[.int .i64 v0,.int .i64 lo,.int .i64 hi] w fun v w'=>Ext No w w'∧(v = .bool (ins v0 lo hi)):=by
 refine aH (vs:=[.int .i64 v0,.int .i64 lo,.int .i64 hi]) func161 Z ntmps161 Z (fun Q hQ hN=>?_);have H0:=Sep.start (w:=w) (F:=[]) (by simp);refine ab (sA Z Z (aa (ab (sR 4 Z (bD 3 (j:=3) (want:=true) (t:=13) Z Z Z Z (fun hg1 kk1=>am (wgE Z Z Z hg1) Z Z (aM Z) (am (wgE Z Z Z hg1) Z Z (aM Z) (am (wgE Z Z Z hg1) Z Z (p8 Z Z) (kk1 _ _ (kx Z (kx Z (kx Z k0))) Z Ext.refl)))) (fun w1 e1=>?_))))));have H1:=H0.to e1;refine sV Z (bt Z Z) (rA hQ results161 Z ?_);exact ⟨H1.ext,Z⟩
theorem bh {w:World}{v0 lo hi:Int}  : Ret Tryz.prog 168 #[.int .i64 v0,.int .i64 lo,.int .i64 hi] w fun v w'=>Ext No w w'∧(v = .bool (ins v0 lo hi)):=by
 refine aH (vs:=[.int .i64 v0,.int .i64 lo,.int .i64 hi]) func168 Z ntmps168 Z (fun Q hQ hN=>?_);have H0:=Sep.start (w:=w) (F:=[]) (by simp);refine ab (sA Z Z (aa (ab (sR 4 Z (bD 3 (j:=3) (want:=true) (t:=13) Z Z Z Z (fun hg1 kk1=>am (wgE Z Z Z hg1) Z Z (aM Z) (am (wgE Z Z Z hg1) Z Z (aM Z) (am (wgE Z Z Z hg1) Z Z (p8 Z Z) (kk1 _ _ (kx Z (kx Z (kx Z k0))) Z Ext.refl)))) (fun w1 e1=>?_))))));have H1:=H0.to e1;refine sV Z (bt Z Z) (rA hQ results168 Z ?_);exact ⟨H1.ext,Z⟩
theorem nl {w:World}{x y:Int}  : Ret Tryz.prog 244 #[.int .i64 x,.int .i64 y] w fun v w'=>Ext No w w'∧(v = .bool (cOK x y)):=by
 refine aH (vs:=[.int .i64 x,.int .i64 y]) func244 Z ntmps244 Z (fun Q hQ hN=>?_);have H0:=Sep.start (w:=w) (F:=[]) (by simp);refine ab (sA Z Z (aa (ab (sM Z Z (sE func161 bG Z bj H0 (fun w1 e1 H1=>sM Z Z (bD 2 (j:=2) (want:=true) (t:=9) Z Z Z Z (fun hg1 kk1=>am (wgE Z Z Z hg1) Z Z (aM Z) (cw (wgE Z Z Z hg1) Z Z (aW func161 Z bG Z) bj (fun w3 e3=>kk1 _ _ (kx Z (kx Z k0)) Z (Ext.refl.trans e3)))) (fun w2 e2=>?_))))))));have H2:=H1.to e2;refine sV Z (bt Z Z) (rA hQ results244 Z ?_);exact ⟨H2.ext,Z⟩
theorem nj {w:World}{x y:Int}  : Ret Tryz.prog 245 #[.int .i64 x,.int .i64 y] w fun v w'=>Ext No w w'∧(v = .bool (rOK x y)):=by
 refine aH (vs:=[.int .i64 x,.int .i64 y]) func245 Z ntmps245 Z (fun Q hQ hN=>?_);have H0:=Sep.start (w:=w) (F:=[]) (by simp);refine ab (sA Z Z (aa (ab (sM Z Z (sE func161 bG Z bj H0 (fun w1 e1 H1=>sM Z Z (bD 2 (j:=2) (want:=true) (t:=9) Z Z Z Z (fun hg1 kk1=>am (wgE Z Z Z hg1) Z Z (aM Z) (cw (wgE Z Z Z hg1) Z Z (aW func161 Z bG Z) bj (fun w3 e3=>kk1 _ _ (kx Z (kx Z k0)) Z (Ext.refl.trans e3)))) (fun w2 e2=>?_))))))));have H2:=H1.to e2;refine sV Z (bt Z Z) (rA hQ results245 Z ?_);exact ⟨H2.ext,Z⟩
theorem gy {w:World}{s:Shape}  : Ret Tryz.prog 156 #[s.v] w fun v w'=>Ext No w w'∧(v = .int .i64 s.fault):=by
 refine aH (vs:=[s.v]) func156 Z ntmps156 Z (fun Q hQ hN=>?_);have H0:=Sep.start (w:=w) (F:=[]) (by simp);refine ab (ba (wn Z) Z Z H0 (fun b1 w1 e1 g1 H1=>sA Z Z (aa (ac (ab (sF bq Z ts2 (sLd tu2 (H1.box 0 Z) Z (sF bq Z ts2 (sLd tu2 (H1.box 0 Z) Z (sE func244 vV Z nl H1 (fun w2 e2 H2=>sV Z (aZ Z) (sM Z Z (bD 6 (j:=6) (want:=false) (t:=15) Z Z Z Z (fun hg1 kk1=>am (wgE Z Z Z hg1) Z Z (ag bq Z ts2 Z Z) (am (wgE Z Z Z hg1) Z Z (ah tu2 Z Z (al (H2.box 0 Z) Z)) (am (wgE Z Z Z hg1) Z Z (ag bq Z ts2 Z Z) (am (wgE Z Z Z hg1) Z Z (ah tu2 Z Z (al (H2.box 0 Z) Z)) (cw (wgE Z Z Z hg1) Z Z (aW func245 Z u7 Z) nj (fun w4 e4=>am (wgE Z Z Z hg1) Z Z (aZ Z) (kk1 _ _ (kx Z (kx Z (kx Z (kx Z (kx Z (kx Z k0)))))) Z (Ext.refl.trans e4)))))))) (fun w3 e3=>?_))))))))))))));have H3:=H2.to e3;refine sV Z (ez Z Z) (sM Z Z (bD 4 (j:=14) (want:=false) (t:=21) Z Z Z Z (fun hg2 kk2=>am (wgE Z Z Z hg2) Z Z (ag bq Z ts2 Z Z) (am (wgE Z Z Z hg2) Z Z (ah tu2 Z Z (al (H3.box 0 Z) Z)) (cw (wgE Z Z Z hg2) Z Z (aW func161 Z bG Z) bj (fun w6 e6=>am (wgE Z Z Z hg2) Z Z (aZ Z) (kk2 _ _ (kx Z (kx Z (kx Z (kx Z k0)))) Z (Ext.refl.trans e6)))))) (fun w5 e5=>?_)));have H4:=H3.to e5;refine sV Z (ez Z Z) (sM Z Z (bD 4 (j:=20) (want:=false) (t:=27) Z Z Z Z (fun hg3 kk3=>am (wgE Z Z Z hg3) Z Z (ag bq Z ts2 Z Z) (am (wgE Z Z Z hg3) Z Z (ah tu2 Z Z (al (H4.box 0 Z) Z)) (cw (wgE Z Z Z hg3) Z Z (aW func161 Z bG Z) bj (fun w8 e8=>am (wgE Z Z Z hg3) Z Z (aZ Z) (kk3 _ _ (kx Z (kx Z (kx Z (kx Z k0)))) Z (Ext.refl.trans e8)))))) (fun w7 e7=>?_)));have H5:=H4.to e7;refine sV Z (ez Z Z) (sM Z Z (bD 4 (j:=26) (want:=false) (t:=33) Z Z Z Z (fun hg4 kk4=>am (wgE Z Z Z hg4) Z Z (ag bq Z ts2 Z Z) (am (wgE Z Z Z hg4) Z Z (ah tu2 Z Z (al (H5.box 0 Z) Z)) (cw (wgE Z Z Z hg4) Z Z (aW func161 Z bG Z) bj (fun w10 e10=>am (wgE Z Z Z hg4) Z Z (aZ Z) (kk4 _ _ (kx Z (kx Z (kx Z (kx Z k0)))) Z (Ext.refl.trans e10)))))) (fun w9 e9=>?_)));have H6:=H5.to e9;refine sV Z (ez Z Z) (sM Z Z (bD 4 (j:=32) (want:=false) (t:=39) Z Z Z Z (fun hg5 kk5=>am (wgE Z Z Z hg5) Z Z (ag bq Z ts2 Z Z) (am (wgE Z Z Z hg5) Z Z (ah tu2 Z Z (al (H6.box 0 Z) Z)) (cw (wgE Z Z Z hg5) Z Z (aW func161 Z bG Z) bj (fun w12 e12=>am (wgE Z Z Z hg5) Z Z (aZ Z) (kk5 _ _ (kx Z (kx Z (kx Z (kx Z k0)))) Z (Ext.refl.trans e12)))))) (fun w11 e11=>?_)));have H7:=H6.to e11;refine sV Z (ez Z Z) (sM Z Z (bD 4 (j:=38) (want:=false) (t:=45) Z Z Z Z (fun hg6 kk6=>am (wgE Z Z Z hg6) Z Z (ag bq Z ts2 Z Z) (am (wgE Z Z Z hg6) Z Z (ah tu2 Z Z (al (H7.box 0 Z) Z)) (cw (wgE Z Z Z hg6) Z Z (aW func161 Z bG Z) bj (fun w14 e14=>am (wgE Z Z Z hg6) Z Z (aZ Z) (kk6 _ _ (kx Z (kx Z (kx Z (kx Z k0)))) Z (Ext.refl.trans e14)))))) (fun w13 e13=>?_)));have H8:=H7.to e13;refine sV Z (ez Z Z) (aa (bL Z (fun c1=>?_) (fun c1=>?_)))
 ·refine ab (rA hQ results156 Z ?_);exact ⟨H8.ext,Shape.no (by simpa only [Shape.ok,Bool.not_and] using c1)⟩
 ·refine aj (ab (rA hQ results156 Z ?_));exact ⟨H8.ext,Shape.yes (by simpa only [Shape.ok,Bool.not_and] using c1)⟩
theorem ki {w:World}{s:Shape}  : Ret Tryz.prog 164 #[s.v] w fun v w'=>Ext No w w'∧(v = .int .i64 s.fault):=by
 refine aH (vs:=[s.v]) func164 Z ntmps164 Z (fun Q hQ hN=>?_);have H0:=Sep.start (w:=w) (F:=[]) (by simp);refine ab (ba (wn Z) Z Z H0 (fun b1 w1 e1 g1 H1=>sA Z Z (aa (ab (sF bq Z ts2 (sLd tu2 (H1.box 0 Z) Z (sE func168 bR Z bh H1 (fun w2 e2 H2=>sM Z Z (bD 3 (j:=3) (want:=true) (t:=10) Z Z Z Z (fun hg1 kk1=>am (wgE Z Z Z hg1) Z Z (ag bq Z ts2 Z Z) (am (wgE Z Z Z hg1) Z Z (ah tu2 Z Z (al (H2.box 0 Z) Z)) (cw (wgE Z Z Z hg1) Z Z (aW func168 Z bR Z) bh (fun w4 e4=>kk1 _ _ (kx Z (kx Z (kx Z k0))) Z (Ext.refl.trans e4))))) (fun w3 e3=>?_))))))))));have H3:=H2.to e3;refine sV Z (bt Z Z) (sM Z Z (bD 3 (j:=8) (want:=true) (t:=15) Z Z Z Z (fun hg2 kk2=>am (wgE Z Z Z hg2) Z Z (ag bq Z ts2 Z Z) (am (wgE Z Z Z hg2) Z Z (ah tu2 Z Z (al (H3.box 0 Z) Z)) (cw (wgE Z Z Z hg2) Z Z (aW func168 Z bR Z) bh (fun w6 e6=>kk2 _ _ (kx Z (kx Z (kx Z k0))) Z (Ext.refl.trans e6))))) (fun w5 e5=>?_)));have H4:=H3.to e5;refine sV Z (bt Z Z) (sM Z Z (bD 3 (j:=13) (want:=true) (t:=20) Z Z Z Z (fun hg3 kk3=>am (wgE Z Z Z hg3) Z Z (ag bq Z ts2 Z Z) (am (wgE Z Z Z hg3) Z Z (ah tu2 Z Z (al (H4.box 0 Z) Z)) (cw (wgE Z Z Z hg3) Z Z (aW func168 Z bR Z) bh (fun w8 e8=>kk3 _ _ (kx Z (kx Z (kx Z k0))) Z (Ext.refl.trans e8))))) (fun w7 e7=>?_)));have H5:=H4.to e7;refine sV Z (bt Z Z) (sA Z Z (aa (ab (sR 2 Z (bD 3 (j:=1) (want:=true) (t:=26) Z Z Z Z (fun hg4 kk4=>am (wgE Z Z Z hg4) Z Z (ag bq Z ts2 Z Z) (am (wgE Z Z Z hg4) Z Z (ah tu2 Z Z (al (H5.box 0 Z) Z)) (cw (wgE Z Z Z hg4) Z Z (aW func168 Z bR Z) bh (fun w10 e10=>kk4 _ _ (kx Z (kx Z (kx Z k0))) Z (Ext.refl.trans e10))))) (fun w9 e9=>?_))))));have H6:=H5.to e9;refine sV Z (bt Z Z) (sM Z Z (bD 3 (j:=6) (want:=true) (t:=31) Z Z Z Z (fun hg5 kk5=>am (wgE Z Z Z hg5) Z Z (ag bq Z ts2 Z Z) (am (wgE Z Z Z hg5) Z Z (ah tu2 Z Z (al (H6.box 0 Z) Z)) (cw (wgE Z Z Z hg5) Z Z (aW func168 Z bR Z) bh (fun w12 e12=>kk5 _ _ (kx Z (kx Z (kx Z k0))) Z (Ext.refl.trans e12))))) (fun w11 e11=>?_)));have H7:=H6.to e11;refine sV Z (bt Z Z) (sM Z Z (bD 3 (j:=11) (want:=true) (t:=36) Z Z Z Z (fun hg6 kk6=>am (wgE Z Z Z hg6) Z Z (ag bq Z ts2 Z Z) (am (wgE Z Z Z hg6) Z Z (ah tu2 Z Z (al (H7.box 0 Z) Z)) (cw (wgE Z Z Z hg6) Z Z (aW func168 Z bR Z) bh (fun w14 e14=>kk6 _ _ (kx Z (kx Z (kx Z k0))) Z (Ext.refl.trans e14))))) (fun w13 e13=>?_)));have H8:=H7.to e13;refine sV Z (bt Z Z) (sM Z Z (bD 3 (j:=16) (want:=true) (t:=41) Z Z Z Z (fun hg7 kk7=>am (wgE Z Z Z hg7) Z Z (ag bq Z ts2 Z Z) (am (wgE Z Z Z hg7) Z Z (ah tu2 Z Z (al (H8.box 0 Z) Z)) (cw (wgE Z Z Z hg7) Z Z (aW func168 Z bR Z) bh (fun w16 e16=>kk7 _ _ (kx Z (kx Z (kx Z k0))) Z (Ext.refl.trans e16))))) (fun w15 e15=>?_)));have H9:=H8.to e15;refine sV Z (bt Z Z) (sA Z Z (aa (ac (ab (sM Z Z (sV Z (aZ Z) (sM Z Z (bD 4 (j:=2) (want:=false) (t:=49) Z Z Z Z (fun hg8 kk8=>am (wgE Z Z Z hg8) Z Z (ag bq Z ts2 Z Z) (am (wgE Z Z Z hg8) Z Z (ah tu2 Z Z (al (H9.box 0 Z) Z)) (cw (wgE Z Z Z hg8) Z Z (aW func168 Z bR Z) bh (fun w18 e18=>am (wgE Z Z Z hg8) Z Z (aZ Z) (kk8 _ _ (kx Z (kx Z (kx Z (kx Z k0)))) Z (Ext.refl.trans e18)))))) (fun w17 e17=>?_)))))))));have H10:=H9.to e17;refine sV Z (ez Z Z) (aa (bL Z (fun c1=>?_) (fun c1=>?_)))
 ·refine ab (rA hQ results164 Z ?_);exact ⟨H10.ext,Shape.no (by simpa only [Shape.ok,cOK,rOK,Bool.not_and,Bool.or_assoc] using c1)⟩
 ·refine aj (ab (rA hQ results164 Z ?_));exact ⟨H10.ext,Shape.yes (by simpa only [Shape.ok,cOK,rOK,Bool.not_and,Bool.or_assoc] using c1)⟩
end Go.Wk
